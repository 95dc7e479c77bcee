/- What the small steps do to how a state lies in memory. -/
import Derived.Test.YtihpdefnajimgaaXSim
namespace Go.X

/-! ### What refers to a place -/
structure Keeps (Ex : Nat → Nat → List (Nat × Nat) → Prop) (g g' : Gh) : Prop where
  b : ∀ k A, g.gb k = some A → g'.gb k = some A
  r : ∀ k, g.gr k ≠ none → g'.gr k ≠ none
  h : ∀ r c p m', ¬ Ex r c p → g.gr r ≠ none → nodeAt g' r c p = some m' → m'.held = true → ∃ m, nodeAt g r c p = some m ∧ m.held = true ∧ hdr m' = hdr m
def Never : Nat → Nat → List (Nat × Nat) → Prop := fun _ _ _ => False
def CelEx (Ex : Nat → Nat → List (Nat × Nat) → Prop) : Cel → Prop
  | .rf r c p _ _ _ => Ex r c p
  | _ => False
def SlotEx (Ex : Nat → Nat → List (Nat × Nat) → Prop) : SV → Prop
  | .one c => CelEx Ex c
  | .agg cs => ∃ c ∈ cs, CelEx Ex c
  | .ap r c p _ _ _ => Ex r c p
  | .tup _ => ∃ r c p, Ex r c p
  | _ => False
theorem never_cel (c : Cel) : ¬ CelEx Never c := by cases c <;> simp [CelEx, Never]
theorem never_slot (v : SV) : ¬ SlotEx Never v := by cases v <;> simp [SlotEx, Never, never_cel]
theorem Keeps.refl (Ex : Nat → Nat → List (Nat × Nat) → Prop) (g : Gh) : Keeps Ex g g := ⟨fun _ _ h => h, fun _ h => h, fun _ _ _ m' _ _ h hh => ⟨m', h, hh, rfl⟩⟩
theorem Keeps.trans {g g1 g2 : Gh} (h : Keeps Never g g1) (k : Keeps Never g1 g2) : Keeps Never g g2 :=
  ⟨fun j A e => k.b j A (h.b j A e), fun j e => k.r j (h.r j e), fun r c p m' _ hr hm hh => by
    obtain ⟨m, h1, h2, h3⟩ := k.h r c p m' (by simp [Never]) (h.r r hr) hm hh
    obtain ⟨m0, h4, h5, h6⟩ := h.h r c p m (by simp [Never]) hr h1 h2
    exact ⟨m0, h4, h5, h3.trans h6⟩⟩
section
variable {Ex : Nat → Nat → List (Nat × Nat) → Prop} {g g' : Gh} {S : Nat → Prop} {w w' : World}
theorem CelOK.keep (hk : Keeps Ex g g') (hS : ∀ b, S b → w'.heap[b]? = w.heap[b]?) {c : Cel} {v : Value} (hx : ¬ CelEx Ex c) (h : CelOK S g w c v) : CelOK S g' w' c v := by
  cases c with
  | pv u => exact h
  | nils z => exact h
  | dead => exact h
  | ro z rows => exact Rd.move h (fun _ h => h) hS
  | rf r c p z off len =>
    obtain ⟨h1, h2, h3⟩ := h
    refine ⟨h1, hk.r _ h2, fun m' hm hh => ?_⟩
    obtain ⟨m, a1, a2, a3⟩ := hk.h r c p m' hx h2 hm hh
    rw [a3]
    exact h3 m a1 a2
theorem CelsOK.keep (hk : Keeps Ex g g') (hS : ∀ b, S b → w'.heap[b]? = w.heap[b]?) {cs : List Cel} {us : List Value} (hx : ∀ c ∈ cs, ¬ CelEx Ex c) (h : CelsOK S g w cs us) : CelsOK S g' w' cs us :=
  ⟨h.1, fun k c u hc hu => (h.2 k c u hc hu).keep hk hS (hx c (List.mem_of_getElem? hc))⟩
mutual
theorem SlotOK.keep (hk : Keeps Ex g g') (hS : ∀ b, S b → w'.heap[b]? = w.heap[b]?) : ∀ (v : SV) (u : Value), ¬ SlotEx Ex v → (∀ vs, v = .tup vs → ∀ r c p, ¬ Ex r c p) → SlotOK S g w v u → SlotOK S g' w' v u
  | .un, u, _, _, _ => by simp [SlotOK]
  | .one c, u, hx, _, h => by simp only [SlotOK] at h ⊢; exact h.keep hk hS hx
  | .agg cs, u, hx, _, h => by
    simp only [SlotOK] at h ⊢
    obtain ⟨us, h1, h2⟩ := h
    exact ⟨us, h1, h2.keep hk hS (fun c hc he => hx ⟨c, hc, he⟩)⟩
  | .tup vs, u, hx, hn, h => by
    simp only [SlotOK] at h ⊢
    obtain ⟨us, h1, h2⟩ := h
    exact ⟨us, h1, SlotsOK.keep hk hS (hn vs rfl) vs us h2⟩
  | .bp b off, u, _, _, h => by
    simp only [SlotOK] at h ⊢
    obtain ⟨A, h1, h2⟩ := h
    exact ⟨A, hk.b _ _ h1, h2⟩
  | .ap r c p z i j, u, hx, _, h => by
    simp only [SlotOK] at h ⊢
    refine ⟨h.1, hk.r _ h.2.1, fun m' hm hh => ?_⟩
    obtain ⟨m, a1, a2, a3⟩ := hk.h r c p m' hx h.2.1 hm hh
    rw [a3]
    exact h.2.2 m a1 a2
  | .rp ts, u, _, _, h => by
    simp only [SlotOK] at h ⊢
    obtain ⟨ad, h1, h2⟩ := h
    refine ⟨ad, h1, fun j t ht => ?_⟩
    obtain ⟨hs, u', hc, hr⟩ := h2 j t ht
    exact ⟨hs, u', by rw [World.cell?_of_block (w := w) (by rw [add_block]; exact hS _ hs)]; exact hc, hr.move (fun _ h => h) hS⟩
theorem SlotsOK.keep (hk : Keeps Ex g g') (hS : ∀ b, S b → w'.heap[b]? = w.heap[b]?) (hn : ∀ r c p, ¬ Ex r c p) : ∀ (vs : List SV) (us : List Value), SlotsOK S g w vs us → SlotsOK S g' w' vs us
  | [], [], _ => by simp [SlotsOK]
  | v :: vs, u :: us, h => by
    simp only [SlotsOK] at h ⊢
    have hx : ∀ v : SV, ¬ SlotEx Ex v := fun v he => by
      cases v with
      | one c => cases c <;> simp_all [SlotEx, CelEx]
      | agg cs => obtain ⟨c, _, he⟩ := he; cases c <;> simp_all [CelEx]
      | ap => exact hn _ _ _ he
      | tup => obtain ⟨r, c, p, he⟩ := he; exact hn _ _ _ he
      | _ => exact he
    exact ⟨SlotOK.keep hk hS v u (hx v) (fun _ _ => hn) h.1, SlotsOK.keep hk hS hn vs us h.2⟩
  | [], _ :: _, h => by simp [SlotsOK] at h
  | _ :: _, [], h => by simp [SlotsOK] at h
end
end

/-! ### A place in a tree turns -/
theorem cellAt_setCell {t d x : G} {i j i' j' : Nat} (ho : t.own = true) (hc : cellAt t i j = some d) : cellAt (setCell t i j x) i' j' = if i' = i ∧ j' = j then some x else cellAt t i' j' := by
  obtain ⟨z, v, rows, rfl⟩ := own_form ho
  obtain ⟨r, hr, hcc⟩ := cellAt_some hc
  replace hr : rows[i]? = some r := hr
  rw [setCell_form hr]
  have hi := (List.getElem?_eq_some_iff.1 hr).1
  have hj := (List.getElem?_eq_some_iff.1 hcc).1
  simp only [cellAt, Tr.rows]
  by_cases e : i' = i
  · subst e
    rw [List.getElem?_set_self hi, hr]
    simp only [Option.bind_some]
    by_cases e' : j' = j
    · subst e'; rw [List.getElem?_set_self hj]; simp
    · rw [List.getElem?_set_ne (fun h => e' h.symm)]; simp [e']
  · rw [List.getElem?_set_ne (fun h => e h.symm)]; simp [e]
theorem setCell_own {t d x : G} {i j : Nat} (ho : t.own = true) (hc : cellAt t i j = some d) : (setCell t i j x).own = true := by
  obtain ⟨z, v, rows, rfl⟩ := own_form ho
  simp [setCell, setRows, Tr.own]
theorem setCell_hdr (t x : G) (i j : Nat) : hdr (setCell t i j x) = hdr t := by cases t <;> simp [setCell, setRows, hdr]
theorem own_held {τ : Type} {t : Tr τ} (h : t.own = true) : t.held = true := by cases t <;> simp_all [Tr.own, Tr.held]
theorem atP_setP : ∀ (p : List (Nat × Nat)) {t m u : G}, atP t p = some m → m.held = true → hdr u = hdr m → ∀ (q : List (Nat × Nat)) {m' : G}, atP (setP t p u) q = some m' → m'.held = true →
    (∃ s, q = p ++ s ∧ s ≠ [] ∧ atP u s = some m') ∨ ∃ k, atP t q = some k ∧ k.held = true ∧ hdr m' = hdr k
  | [], t, m, u, hm, hh, hu, q, m', hq, _ => by
    simp only [atP, Option.some.injEq] at hm
    subst hm
    simp only [setP] at hq
    cases q with
    | nil => simp only [atP, Option.some.injEq] at hq; subst hq; exact .inr ⟨t, by simp [atP], hh, hu⟩
    | cons x s => exact .inl ⟨x :: s, by simp, by simp, hq⟩
  | (i, j) :: p, t, m, u, hm, hh, hu, q, m', hq, hh' => by
    simp only [atP] at hm
    cases ho : t.own with
    | false => simp [ho] at hm
    | true =>
      simp only [ho, cond_true] at hm
      cases hc : cellAt t i j with
      | none => simp [hc] at hm
      | some d =>
        simp only [hc, Option.bind_some] at hm
        simp only [setP, hc] at hq
        cases q with
        | nil =>
          simp only [atP, Option.some.injEq] at hq
          subst hq
          exact .inr ⟨t, by simp [atP], own_held ho, setCell_hdr _ _ _ _⟩
        | cons x q =>
          obtain ⟨i', j'⟩ := x
          simp only [atP, setCell_own ho hc, cond_true, cellAt_setCell ho hc] at hq
          split at hq
          · rename_i e
            obtain ⟨rfl, rfl⟩ := e
            simp only [Option.bind_some] at hq
            rcases atP_setP p hm hh hu q hq hh' with ⟨s, rfl, hs, hk⟩ | ⟨k, hk, h1, h2⟩
            · exact .inl ⟨s, by simp, hs, hk⟩
            · exact .inr ⟨k, by simp [atP, ho, hc, hk], h1, h2⟩
          · exact .inr ⟨m', by simp only [atP, ho, cond_true]; exact hq, hh', rfl⟩
theorem atP_setP_self : ∀ (p : List (Nat × Nat)) {t m u : G}, atP t p = some m → atP (setP t p u) p = some u
  | [], t, m, u, _ => by simp [setP, atP]
  | (i, j) :: p, t, m, u, hm => by
    simp only [atP] at hm
    cases ho : t.own with
    | false => simp [ho] at hm
    | true =>
      simp only [ho, cond_true] at hm
      cases hc : cellAt t i j with
      | none => simp [hc] at hm
      | some d =>
        simp only [hc, Option.bind_some] at hm
        simp only [setP, hc, atP, setCell_own ho hc, cond_true, cellAt_setCell ho hc]
        simpa using atP_setP_self p hm
def Below' (r c : Nat) (p : List (Nat × Nat)) : Nat → Nat → List (Nat × Nat) → Prop := fun r' c' q => r' = r ∧ c' = c ∧ ∃ s, q = p ++ s ∧ s ≠ []

def Gh.setR (g : Gh) (r : Nat) (ts : List G) : Gh := { g with gr := fun k => if k = r then some ts else g.gr k }
def Gh.setB (g : Gh) (b : Nat) (A : Addr) : Gh := { g with gb := fun k => if k = b then some A else g.gb k }
theorem setR_same (g : Gh) (r : Nat) (ts : List G) : (g.setR r ts).gr r = some ts := by simp [Gh.setR]
theorem setR_ne (g : Gh) {r k : Nat} (ts : List G) (h : k ≠ r) : (g.setR r ts).gr k = g.gr k := by simp [Gh.setR, h]
theorem nodeAt_setR_ne (g : Gh) {r k c : Nat} {p : List (Nat × Nat)} (ts : List G) (h : k ≠ r) : nodeAt (g.setR r ts) k c p = nodeAt g k c p := by simp [nodeAt, setR_ne g ts h]

/-- A node is exchanged for one of the same header. -/
theorem keeps_setP {g : Gh} {r c : Nat} {p : List (Nat × Nat)} {gs : List G} {t m u : G} (hg : g.gr r = some gs) (ht : gs[c]? = some t) (hm : atP t p = some m) (hh : m.held = true) (hu : hdr u = hdr m) :
    Keeps (Below' r c p) g (g.setR r (gs.set c (setP t p u))) := by
  refine ⟨fun _ _ h => h, fun k hk => ?_, fun r' c' q m' hx hr' hn hh' => ?_⟩
  · by_cases e : k = r
    · subst e; rw [setR_same]; simp
    · rwa [setR_ne _ _ e]
  · by_cases e : r' = r
    · subst e
      have hc := (List.getElem?_eq_some_iff.1 ht).1
      simp only [nodeAt, setR_same, Option.bind_some, hg] at hn ⊢
      by_cases e' : c' = c
      · subst e'
        rw [List.getElem?_set_self hc] at hn
        simp only [Option.bind_some, ht] at hn ⊢
        rcases atP_setP p hm hh hu q hn hh' with ⟨s, hs, hs', _⟩ | h
        · exact absurd ⟨rfl, rfl, s, hs, hs'⟩ hx
        · exact h
      · rw [List.getElem?_set_ne (fun h => e' h.symm)] at hn
        exact ⟨m', hn, hh', rfl⟩
    · rw [nodeAt_setR_ne _ _ e] at hn
      exact ⟨m', hn, hh', rfl⟩
theorem keeps_gone {g : Gh} {r c : Nat} {p : List (Nat × Nat)} {gs : List G} {t m : G} (hg : g.gr r = some gs) (ht : gs[c]? = some t) (hm : atP t p = some m) (hh : m.held = true) :
    Keeps Never g (g.setR r (gs.set c (setP t p (.no (hdr m))))) := by
  have h := keeps_setP (u := .no (hdr m)) hg ht hm hh rfl
  refine ⟨h.b, h.r, fun r' c' q m' _ hr' hn hh' => ?_⟩
  by_cases e : Below' r c p r' c' q
  · obtain ⟨rfl, rfl, s, rfl, hs⟩ := e
    exfalso
    have hc := (List.getElem?_eq_some_iff.1 ht).1
    simp only [nodeAt, setR_same, Option.bind_some, List.getElem?_set_self hc] at hn
    have : ∀ (p : List (Nat × Nat)) {t m : G}, atP t p = some m → atP (setP t p (.no (hdr m))) (p ++ s) = none := by
      intro p
      induction p with
      | nil => intro t m hm; cases s with
        | nil => exact absurd rfl hs
        | cons x s => simp [setP, atP, Tr.own]
      | cons x p ih =>
        obtain ⟨i, j⟩ := x
        intro t m hm
        simp only [atP] at hm
        cases ho : t.own with
        | false => simp [ho] at hm
        | true =>
          simp only [ho, cond_true] at hm
          cases hc : cellAt t i j with
          | none => simp [hc] at hm
          | some d =>
            simp only [hc, Option.bind_some] at hm
            simp only [setP, hc, List.cons_append, atP, setCell_own ho hc, cond_true, cellAt_setCell ho hc, and_self, if_true, Option.bind_some]
            exact ih hm
    rw [this p hm] at hn
    cases hn
  · exact h.h r' c' q m' e hr' hn hh'
theorem keeps_new {g : Gh} {r : Nat} {ts : List G} (hr : g.gr r = none) : Keeps Never g (g.setR r ts) := by
  refine ⟨fun _ _ h => h, fun k hk => ?_, fun r' c' q m' _ hr' hn hh' => ?_⟩
  · rw [setR_ne _ _ (fun e => hk (by rw [e]; exact hr))]; exact hk
  · rw [nodeAt_setR_ne _ _ (fun e => hr' (by rw [e]; exact hr))] at hn; exact ⟨m', hn, hh', rfl⟩
theorem keeps_newb {g : Gh} {b : Nat} {A : Addr} (hb : g.gb b = none) : Keeps Never g (g.setB b A) :=
  ⟨fun k B h => by simp only [Gh.setB]; rw [if_neg (fun e => by rw [e, hb] at h; cases h)]; exact h, fun _ h => h, fun _ _ _ m' _ _ hn hh' => ⟨m', hn, hh', rfl⟩⟩
end Go.X
