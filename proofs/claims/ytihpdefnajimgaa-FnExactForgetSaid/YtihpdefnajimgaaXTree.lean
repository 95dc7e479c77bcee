/- Trees of what a call reads and of what it has made; how a tree lies in memory; what is true of it after a step. -/
import Derived.Below
namespace Go.X

/-- What a cell is, seen from above: a value without address; a slice (the call's own or not) with the width and the cells of its elements; or what was handed on. -/
inductive Tr (τ : Type) where
  | pv (v : Value)
  | sl (o : Bool) (z : Nat) (h : τ) (rows : List (List (Tr τ)))
  | no (h : τ)

abbrev T := Tr Unit
abbrev G := Tr Value
instance {τ : Type} : Inhabited (Tr τ) := ⟨.pv undef⟩

section
variable {τ : Type}
mutual
def er : Tr τ → T
  | .pv v => .pv v
  | .sl o z _ rows => .sl o z () (erLL rows)
  | .no _ => .no ()
def erL : List (Tr τ) → List T
  | [] => []
  | t :: ts => er t :: erL ts
def erLL : List (List (Tr τ)) → List (List T)
  | [] => []
  | r :: rs => erL r :: erLL rs
end
theorem erL_eq : ∀ ts : List (Tr τ), erL ts = ts.map er
  | [] => by simp [erL]
  | t :: ts => by simp [erL, erL_eq ts]
theorem erLL_eq : ∀ rs : List (List (Tr τ)), erLL rs = rs.map (·.map er)
  | [] => by simp [erLL]
  | r :: rs => by simp [erLL, erL_eq, erLL_eq rs]
end

def hb (b : Nat) : Value → Nat
  | .slice (some a) _ _ => if a.block = b then 1 else 0
  | _ => 0
mutual
def cnt (b : Nat) : G → Nat
  | .sl true _ h rows => hb b h + cntLL b rows
  | _ => 0
def cntL (b : Nat) : List G → Nat
  | [] => 0
  | t :: ts => cnt b t + cntL b ts
def cntLL (b : Nat) : List (List G) → Nat
  | [] => 0
  | r :: rs => cntL b r + cntLL b rs
end
theorem cntL_append (b : Nat) : ∀ xs ys : List G, cntL b (xs ++ ys) = cntL b xs + cntL b ys
  | [], ys => by simp [cntL]
  | x :: xs, ys => by simp only [List.cons_append, cntL, cntL_append b xs ys]; omega
theorem cntLL_append (b : Nat) : ∀ xs ys : List (List G), cntLL b (xs ++ ys) = cntLL b xs + cntLL b ys
  | [], ys => by simp [cntLL]
  | x :: xs, ys => by simp only [List.cons_append, cntLL, cntLL_append b xs ys]; omega
theorem cntL_set (b : Nat) : ∀ (ts : List G) (j : Nat) (t u : G), ts[j]? = some t → cntL b (ts.set j u) + cnt b t = cntL b ts + cnt b u
  | [], _, _, _, h => by simp at h
  | x :: xs, 0, t, u, h => by simp at h; subst h; simp only [List.set_cons_zero, cntL]; omega
  | x :: xs, j + 1, t, u, h => by
    have := cntL_set b xs j t u (by simpa using h)
    simp only [List.set_cons_succ, cntL]; omega
theorem cntLL_set (b : Nat) : ∀ (ts : List (List G)) (j : Nat) (t u : List G), ts[j]? = some t → cntLL b (ts.set j u) + cntL b t = cntLL b ts + cntL b u
  | [], _, _, _, h => by simp at h
  | x :: xs, 0, t, u, h => by simp at h; subst h; simp only [List.set_cons_zero, cntLL]; omega
  | x :: xs, j + 1, t, u, h => by
    have := cntLL_set b xs j t u (by simpa using h)
    simp only [List.set_cons_succ, cntLL]; omega
theorem cnt_mem (b : Nat) : ∀ (ts : List G) (t : G), t ∈ ts → cnt b t ≤ cntL b ts
  | x :: xs, t, h => by
    simp only [cntL]
    rcases List.mem_cons.1 h with rfl | h
    · omega
    · have := cnt_mem b xs t h; omega
theorem cntL_mem (b : Nat) : ∀ (rs : List (List G)) (r : List G), r ∈ rs → cntL b r ≤ cntLL b rs
  | x :: xs, t, h => by
    simp only [cntLL]
    rcases List.mem_cons.1 h with rfl | h
    · omega
    · have := cntL_mem b xs t h; omega
theorem cntLL_take_drop (b : Nat) (rs : List (List G)) (n : Nat) : cntLL b (rs.take n) + cntLL b (rs.drop n) = cntLL b rs := by
  rw [← cntLL_append, List.take_append_drop]
theorem cntL_take_drop (b : Nat) (rs : List G) (n : Nat) : cntL b (rs.take n) + cntL b (rs.drop n) = cntL b rs := by
  rw [← cntL_append, List.take_append_drop]

def hdr : G → Value
  | .pv v => v
  | .sl _ _ h _ => h
  | .no h => h
def hds (rows : List (List G)) : List Value := rows.flatMap (·.map hdr)
theorem hds_cons (r : List G) (rs : List (List G)) : hds (r :: rs) = r.map hdr ++ hds rs := by simp [hds]
theorem hds_append (xs ys : List (List G)) : hds (xs ++ ys) = hds xs ++ hds ys := by simp [hds]
theorem hds_length {z : Nat} : ∀ {rows : List (List G)}, (∀ r ∈ rows, r.length = z) → (hds rows).length = rows.length * z
  | [], _ => by simp [hds]
  | r :: rs, h => by
    rw [hds_cons, List.length_append, List.length_map, hds_length (fun r hr => h r (List.mem_cons_of_mem _ hr)), h r (List.mem_cons_self ..), List.length_cons, Nat.add_mul]; omega
theorem hds_take {z : Nat} : ∀ {rows : List (List G)} (n : Nat), (∀ r ∈ rows, r.length = z) → (hds rows).take (n * z) = hds (rows.take n)
  | [], n, _ => by simp [hds]
  | r :: rs, 0, h => by simp [hds]
  | r :: rs, n + 1, h => by
    have hr := h r (List.mem_cons_self ..)
    have e : (n + 1) * z = (r.map hdr).length + n * z := by rw [List.length_map, hr, Nat.add_mul]; omega
    rw [List.take_succ_cons, hds_cons, hds_cons, e, List.take_length_add_append, hds_take n (fun r hr => h r (List.mem_cons_of_mem _ hr))]
theorem hds_get {z : Nat} : ∀ {rows : List (List G)} (i j : Nat) (r : List G) (t : G), (∀ r ∈ rows, r.length = z) → rows[i]? = some r → r[j]? = some t → (hds rows)[i * z + j]? = some (hdr t)
  | [], i, j, r, t, _, h, _ => by simp at h
  | x :: xs, 0, j, r, t, hz, h, ht => by
    simp at h; subst h
    have hj := (List.getElem?_eq_some_iff.1 ht).1
    rw [hds_cons, List.getElem?_append_left (by simp; omega)]
    simp [ht]
  | x :: xs, i + 1, j, r, t, hz, h, ht => by
    have := hds_get i j r t (fun r hr => hz r (List.mem_cons_of_mem _ hr)) (by simpa using h) ht
    have hx := hz x (List.mem_cons_self ..)
    have e : (i + 1) * z = z + i * z := by rw [Nat.add_mul]; omega
    rw [hds_cons, List.getElem?_append_right (by simp [hx, e]; omega)]
    simpa [hx, e, show z + i * z + j - z = i * z + j by omega] using this
theorem hds_set {z : Nat} : ∀ {rows : List (List G)} (i j : Nat) (r : List G) (t : G), (∀ r ∈ rows, r.length = z) → rows[i]? = some r → j < r.length → hds (rows.set i (r.set j t)) = (hds rows).set (i * z + j) (hdr t)
  | [], i, j, r, t, _, h, _ => by simp at h
  | x :: xs, 0, j, r, t, hz, h, ht => by
    simp at h; subst h
    rw [List.set_cons_zero, hds_cons, hds_cons, List.set_append_left _ _ (by simp; omega)]
    simp
  | x :: xs, i + 1, j, r, t, hz, h, ht => by
    have := hds_set i j r t (fun r hr => hz r (List.mem_cons_of_mem _ hr)) (by simpa using h) ht
    have hx := hz x (List.mem_cons_self ..)
    have e : (i + 1) * z = z + i * z := by rw [Nat.add_mul]; omega
    rw [List.set_cons_succ, hds_cons, hds_cons, List.set_append_right _ _ (by simp [hx, e]; omega), this]
    simp [hx, e, show z + i * z + j - z = i * z + j by omega]
theorem mem_hds {rows : List (List G)} {u : Value} (h : u ∈ hds rows) : ∃ r ∈ rows, ∃ t ∈ r, u = hdr t := by
  simp only [hds, List.mem_flatMap, List.mem_map] at h
  obtain ⟨r, hr, t, ht, rfl⟩ := h
  exact ⟨r, hr, t, ht, rfl⟩

/-- What is only read: a tree over blocks that stay as they are. -/
inductive Rd (S : Nat → Prop) (w : World) : T → Value → Prop
  | pv {u : Value} : u.oneCell' = true → Rd S w (.pv u) u
  | sl {z cap : Nat} {a : Option Addr} {rows : List (List T)} (u : Nat → Nat → Value) : rows.length ≤ cap → cap ≤ maxLen → (∀ r ∈ rows, r.length = z) →
      (∀ i r j t, rows[i]? = some r → r[j]? = some t → ∃ ad, a = some ad ∧ S ad.block ∧ w.cell? (ad.add (i * z + j)) = some (u i j)) →
      (∀ i r j t, rows[i]? = some r → r[j]? = some t → Rd S w t (u i j)) → Rd S w (.sl false z () rows) (.slice a rows.length cap)

theorem add_block (ad : Addr) (n : Nat) : (ad.add n).block = ad.block := by unfold Addr.add; split <;> rfl
theorem Rd.one {S : Nat → Prop} {w : World} {t : T} {v : Value} (h : Rd S w t v) : v.oneCell' = true := by
  cases h with
  | pv h => exact h
  | sl => rfl
theorem Rd.move {S S' : Nat → Prop} {w w' : World} {t : T} {v : Value} (h : Rd S w t v) (hs : ∀ b, S b → S' b) (hw : ∀ b, S b → w'.heap[b]? = w.heap[b]?) : Rd S' w' t v := by
  induction h with
  | pv h => exact .pv h
  | sl u h1 h2 h3 h4 h5 ih =>
    refine .sl u h1 h2 h3 (fun i r j t hr ht => ?_) (fun i r j t hr ht => ih i r j t hr ht)
    obtain ⟨ad, ha, hS, hc⟩ := h4 i r j t hr ht
    exact ⟨ad, ha, hs _ hS, by rw [World.cell?_of_block (w := w) (by rw [add_block]; exact hw _ hS)]; exact hc⟩

/-- How a tree of the call's own lies in memory. -/
inductive Rp (S : Nat → Prop) (w : World) : G → Prop
  | pv {u : Value} : u.oneCell' = true → Rp S w (.pv u)
  | no {u : Value} : u.oneCell' = true → Rp S w (.no u)
  | ro {z : Nat} {h : Value} {rows : List (List G)} : Rd S w (er (.sl false z h rows)) h → Rp S w (.sl false z h rows)
  | nil {z : Nat} : Rp S w (.sl true z (.slice none 0 0) [])
  | own {z g cap e : Nat} {cur : Array Value} {fz : Nat × Nat} {rows : List (List G)} : w.heap[g]? = some (.cells cur e fz) → (∀ o, o < cur.size → ¬ (fz.1 ≤ o ∧ o < fz.2)) → rows.length ≤ cap → cap ≤ maxLen →
      cur.size = cap * z → (∀ r ∈ rows, r.length = z) → cur.toList.take (rows.length * z) = hds rows → (∀ r ∈ rows, ∀ t ∈ r, Rp S w t) → Rp S w (.sl true z (.slice (some ⟨g, 0, none⟩) rows.length cap) rows)

theorem Rp.one {S : Nat → Prop} {w : World} {t : G} (h : Rp S w t) : (hdr t).oneCell' = true := by
  cases h with
  | pv h => exact h
  | no h => exact h
  | ro h => exact h.one
  | nil => rfl
  | own => rfl
theorem Rp.lt {S : Nat → Prop} {w : World} {t : G} (h : Rp S w t) : ∀ b, 0 < cnt b t → b < w.heap.size := by
  induction h with
  | pv => intro b hb; simp [cnt] at hb
  | no => intro b hb; simp [cnt] at hb
  | ro => intro b hb; simp [cnt] at hb
  | nil => intro b h; simp [cnt, hb, cntLL] at h
  | @own z g cap e cur fz rows hg _ _ _ _ _ _ hr ih =>
    intro b h
    simp only [cnt, hb] at h
    by_cases hgb : g = b
    · subst hgb; exact (Array.getElem?_eq_some_iff.1 hg).1
    · rw [if_neg hgb] at h
      have aux : ∀ rs : List (List G), (∀ r ∈ rs, ∀ t ∈ r, 0 < cnt b t → b < w.heap.size) → 0 < cntLL b rs → b < w.heap.size := by
        intro rs
        induction rs with
        | nil => intro _ h; simp [cntLL] at h
        | cons r rs ih2 =>
          intro hh h
          have aux2 : ∀ ts : List G, (∀ t ∈ ts, 0 < cnt b t → b < w.heap.size) → 0 < cntL b ts → b < w.heap.size := by
            intro ts
            induction ts with
            | nil => intro _ h; simp [cntL] at h
            | cons t ts ih3 =>
              intro hh h
              simp only [cntL] at h
              by_cases h0 : 0 < cnt b t
              · exact hh t (List.mem_cons_self ..) h0
              · exact ih3 (fun t ht => hh t (List.mem_cons_of_mem _ ht)) (by omega)
          simp only [cntLL] at h
          by_cases h0 : 0 < cntL b r
          · exact aux2 r (hh r (List.mem_cons_self ..)) h0
          · exact ih2 (fun r hr => hh r (List.mem_cons_of_mem _ hr)) (by omega)
      exact aux rows (fun r hr t ht h0 => ih r hr t ht b h0) (by omega)
theorem Rp.move {S S' : Nat → Prop} {w w' : World} {t : G} (h : Rp S w t) (hs : ∀ b, S b → S' b) (hw : ∀ b, S b → w'.heap[b]? = w.heap[b]?) (hc : ∀ b, 0 < cnt b t → w'.heap[b]? = w.heap[b]?) : Rp S' w' t := by
  induction h with
  | pv h => exact .pv h
  | no h => exact .no h
  | ro h => exact .ro (h.move hs hw)
  | nil => exact .nil
  | @own z g cap e cur fz rows hg h1 h2 h3 h4 h5 h6 h7 ih =>
    refine .own ((hc g (by simp [cnt, hb]; omega)).trans hg) h1 h2 h3 h4 h5 h6 (fun r hr t ht => ih r hr t ht (fun b hb' => hc b ?_))
    have a1 := cnt_mem b r t ht
    have a2 := cntL_mem b rows r hr
    simp only [cnt]
    omega

section
variable {τ : Type}
def Tr.rows : Tr τ → List (List (Tr τ))
  | .sl _ _ _ rs => rs
  | _ => []
def Tr.own : Tr τ → Bool
  | .sl o _ _ _ => o
  | _ => false
def Tr.width : Tr τ → Nat
  | .sl _ z _ _ => z
  | _ => 0
/-- The cell at a place of a row's element. -/
def cellAt (t : Tr τ) (i j : Nat) : Option (Tr τ) := (t.rows[i]?).bind (·[j]?)
def atP : Tr τ → List (Nat × Nat) → Option (Tr τ)
  | t, [] => some t
  | t, (i, j) :: p => bif t.own then (cellAt t i j).bind (atP · p) else none
def setRows : Tr τ → List (List (Tr τ)) → Tr τ
  | .sl o z h _, rs => .sl o z h rs
  | t, _ => t
def setCell (t : Tr τ) (i j : Nat) (u : Tr τ) : Tr τ := setRows t (t.rows.set i ((t.rows.getD i []).set j u))
def setP : Tr τ → List (Nat × Nat) → Tr τ → Tr τ
  | _, [], u => u
  | t, (i, j) :: p, u => match cellAt t i j with
    | some c => setCell t i j (setP c p u)
    | none => t
end

theorem er_rows (t : G) : (er t).rows = t.rows.map (·.map er) := by cases t <;> simp [er, Tr.rows, erLL_eq]
theorem er_own (t : G) : (er t).own = t.own := by cases t <;> simp [er, Tr.own]
theorem er_width (t : G) : (er t).width = t.width := by cases t <;> simp [er, Tr.width]
theorem er_cellAt (t : G) (i j : Nat) : cellAt (er t) i j = (cellAt t i j).map er := by
  unfold cellAt
  rw [er_rows, List.getElem?_map]
  cases t.rows[i]? <;> simp
theorem er_atP : ∀ (p : List (Nat × Nat)) (t : G), atP (er t) p = (atP t p).map er
  | [], t => by simp [atP]
  | (i, j) :: p, t => by
    simp only [atP, er_own, er_cellAt]
    cases t.own <;> simp
    cases cellAt t i j with
    | none => simp
    | some c => simpa using er_atP p c
theorem er_setRows (t : G) (rs : List (List G)) : er (setRows t rs) = setRows (er t) (rs.map (·.map er)) := by cases t <;> simp [er, setRows, erLL_eq]
theorem er_setCell (t : G) (i j : Nat) (u : G) : er (setCell t i j u) = setCell (er t) i j (er u) := by
  unfold setCell
  rw [er_setRows, er_rows, List.map_set, List.map_set]
  congr 3
  simp only [List.getD_eq_getElem?_getD, List.getElem?_map]
  cases t.rows[i]? <;> simp
theorem er_setP : ∀ (p : List (Nat × Nat)) (t u : G), er (setP t p u) = setP (er t) p (er u)
  | [], t, u => by simp [setP]
  | (i, j) :: p, t, u => by
    simp only [setP, er_cellAt]
    cases cellAt t i j with
    | none => simp
    | some c => simp [er_setCell, er_setP p c u]
theorem cellAt_some {τ : Type} {t : Tr τ} {i j : Nat} {c : Tr τ} (h : cellAt t i j = some c) : ∃ r, t.rows[i]? = some r ∧ r[j]? = some c := by
  unfold cellAt at h
  cases hr : t.rows[i]? with
  | none => rw [hr] at h; simp at h
  | some r => rw [hr] at h; exact ⟨r, rfl, by simpa using h⟩
theorem own_form {t : G} (h : t.own = true) : ∃ z v rows, t = .sl true z v rows := by
  cases t with
  | pv => simp [Tr.own] at h
  | no => simp [Tr.own] at h
  | sl o z v rows => simp [Tr.own] at h; subst h; exact ⟨z, v, rows, rfl⟩
theorem setCell_form {z : Nat} {v : Value} {rows : List (List G)} {i j : Nat} {r : List G} {u : G} (hr : rows[i]? = some r) : setCell (.sl true z v rows) i j u = .sl true z v (rows.set i (r.set j u)) := by
  simp [setCell, setRows, Tr.rows, List.getD_eq_getElem?_getD, hr]
theorem cnt_setCell (b : Nat) {t c u : G} {i j : Nat} (ho : t.own = true) (h : cellAt t i j = some c) : cnt b (setCell t i j u) + cnt b c = cnt b t + cnt b u := by
  obtain ⟨z, v, rows, rfl⟩ := own_form ho
  obtain ⟨r, hr, hc⟩ := cellAt_some h
  have hr' : rows[i]? = some r := hr
  rw [setCell_form hr']
  have h1 := cntL_set b r j c u hc
  have h2 := cntLL_set b rows i r (r.set j u) hr'
  simp only [cnt]
  omega
theorem cnt_setP (b : Nat) : ∀ (p : List (Nat × Nat)) {t c u : G}, atP t p = some c → cnt b (setP t p u) + cnt b c = cnt b t + cnt b u
  | [], t, c, u, h => by simp [atP] at h; subst h; simp [setP]; omega
  | (i, j) :: p, t, c, u, h => by
    simp only [atP] at h
    cases ho : t.own with
    | false => simp [ho] at h
    | true =>
      simp only [ho, cond_true] at h
      cases hc : cellAt t i j with
      | none => simp [hc] at h
      | some d =>
        simp only [hc, Option.bind_some] at h
        have h1 := cnt_setP b p (u := u) h
        have h2 := cnt_setCell b (u := setP d p u) ho hc
        simp only [setP, hc]
        omega
theorem cnt_atP (b : Nat) : ∀ (p : List (Nat × Nat)) {t c : G}, atP t p = some c → cnt b c ≤ cnt b t := fun p {t c} h => by
  have := cnt_setP b p (u := .pv undef) h
  simp [cnt] at this
  omega
theorem Rp.cells {S : Nat → Prop} {w : World} {z : Nat} {v : Value} {rows : List (List G)} (h : Rp S w (.sl true z v rows)) : ∀ r ∈ rows, ∀ t ∈ r, Rp S w t := by
  cases h with
  | nil => intro r hr; cases hr
  | own _ _ _ _ _ _ _ h => exact h
theorem Rp.cellAt {S : Nat → Prop} {w : World} {t c : G} {i j : Nat} (h : Rp S w t) (ho : t.own = true) (hc : cellAt t i j = some c) : Rp S w c := by
  obtain ⟨z, v, rows, rfl⟩ := own_form ho
  obtain ⟨r, hr, hc⟩ := cellAt_some hc
  exact h.cells r (List.mem_of_getElem? hr) c (List.mem_of_getElem? hc)
theorem Rp.atP {S : Nat → Prop} {w : World} : ∀ (p : List (Nat × Nat)) {t c : G}, Rp S w t → X.atP t p = some c → Rp S w c
  | [], t, c, h, hc => by simp [X.atP] at hc; subst hc; exact h
  | (i, j) :: p, t, c, h, hc => by
    simp only [X.atP] at hc
    cases ho : t.own with
    | false => simp [ho] at hc
    | true =>
      simp only [ho, cond_true] at hc
      cases hd : X.cellAt t i j with
      | none => simp [hd] at hc
      | some d =>
        simp only [hd, Option.bind_some] at hc
        exact Rp.atP p (h.cellAt ho hd) hc
/-- A cell of an own row is exchanged for one with the same header; the rest of the tree has stayed. -/
theorem Rp.exchange {S S' : Nat → Prop} {w w' : World} {t c u : G} {i j : Nat} (h : Rp S w t) (ho : t.own = true) (hc : X.cellAt t i j = some c) (hu : Rp S' w' u) (hh : hdr u = hdr c)
    (hs : ∀ b, S b → S' b) (hS : ∀ b, S b → w'.heap[b]? = w.heap[b]?) (hw : ∀ b, cnt b c < cnt b t → w'.heap[b]? = w.heap[b]?) : Rp S' w' (setCell t i j u) := by
  obtain ⟨z, v, rows, rfl⟩ := own_form ho
  obtain ⟨r, hr, hcc⟩ := cellAt_some hc
  replace hr : rows[i]? = some r := hr
  rw [setCell_form hr]
  have hj := (List.getElem?_eq_some_iff.1 hcc).1
  have hi := (List.getElem?_eq_some_iff.1 hr).1
  cases h with
  | nil => simp at hr
  | @own _ g cap e cur fz _ hg h1 h2 h3 h4 h5 h6 h7 =>
    have cle : ∀ b, cnt b c ≤ cntLL b rows := fun b => by
      have a1 := cnt_mem b r c (List.mem_of_getElem? hcc)
      have a2 := cntL_mem b rows r (List.mem_of_getElem? hr)
      omega
    have key : Rp S' w' (.sl true z (.slice (some ⟨g, 0, none⟩) (rows.set i (r.set j u)).length cap) (rows.set i (r.set j u))) := by
      refine .own (cur := cur) (fz := fz) (e := e) ?_ h1 (by simpa using h2) h3 h4 ?_ ?_ ?_
      · refine (hw g ?_).trans hg
        have := cle g
        simp only [cnt, hb, if_true]
        omega
      · intro x hx
        rcases List.mem_or_eq_of_mem_set hx with hx | rfl
        · exact h5 x hx
        · rw [List.length_set]; exact h5 r (List.mem_of_getElem? hr)
      · rw [hds_set i j r u h5 hr hj, List.length_set, hh, h6]
        have := hds_get i j r c h5 hr hcc
        apply List.ext_getElem?
        intro k
        rw [List.getElem?_set]
        split
        · rename_i hk; subst hk
          split
          · exact this
          · rename_i hlt; rw [List.getElem?_eq_none (by omega)] at this; simp at this
        · rfl
      · intro x hx y hy
        have old : ∀ y : G, Rp S w y → (∀ b, cnt b y + cnt b c ≤ cntLL b rows) → Rp S' w' y := fun y h hle => h.move hs hS (fun b hb0 => hw b (by
          have := hle b
          simp only [cnt]
          omega))
        obtain ⟨i', hi', rfl⟩ := List.mem_iff_getElem.1 hx
        rw [List.getElem_set] at hy
        split at hy
        · obtain ⟨j', hj', rfl⟩ := List.mem_iff_getElem.1 hy
          rw [List.getElem_set]
          split
          · exact hu
          · rename_i hne
            refine old _ (h7 r (List.mem_of_getElem? hr) _ (List.getElem_mem _)) fun b => ?_
            have a1 := cntL_set b r j c (.pv undef) hcc
            have hj2 : j' < r.length := by simpa using hj'
            have a2 : cnt b r[j'] ≤ cntL b (r.set j (.pv undef)) := cnt_mem b _ _ (by
              have : r[j'] = (r.set j (.pv undef))[j']'(by simpa using hj2) := by rw [List.getElem_set_ne hne]
              rw [this]; exact List.getElem_mem _)
            have a3 := cntL_mem b rows r (List.mem_of_getElem? hr)
            simp only [cnt] at a1
            omega
        · rename_i hne
          refine old y (h7 _ (List.getElem_mem _) y hy) fun b => ?_
          have a1 := cntLL_set b rows i r [] hr
          have hi2 : i' < rows.length := by simpa using hi'
          have a2 : cntL b rows[i'] ≤ cntLL b (rows.set i []) := cntL_mem b _ _ (by
            have : rows[i'] = (rows.set i [])[i']'(by simpa using hi2) := by rw [List.getElem_set_ne hne]
            rw [this]; exact List.getElem_mem _)
          have a3 := cnt_mem b _ y hy
          have a4 := cnt_mem b r c (List.mem_of_getElem? hcc)
          simp only [cntL] at a1
          omega
    simpa using key
theorem hdr_setP : ∀ (p : List (Nat × Nat)) {t c u : G}, atP t p = some c → hdr u = hdr c → hdr (setP t p u) = hdr t
  | [], t, c, u, h, hh => by simp [atP] at h; subst h; simpa [setP] using hh
  | (i, j) :: p, t, c, u, h, hh => by
    simp only [setP]
    cases hc : X.cellAt t i j with
    | none => rfl
    | some d => cases t <;> simp [setCell, setRows, hdr]
theorem Rp.setP {S S' : Nat → Prop} {w w' : World} (hs : ∀ b, S b → S' b) (hS : ∀ b, S b → w'.heap[b]? = w.heap[b]?) : ∀ (p : List (Nat × Nat)) {t c u : G}, Rp S w t → X.atP t p = some c → Rp S' w' u → hdr u = hdr c →
    (∀ b, cnt b c < cnt b t → w'.heap[b]? = w.heap[b]?) → Rp S' w' (X.setP t p u)
  | [], t, c, u, _, _, hu, _, _ => by simpa [X.setP] using hu
  | (i, j) :: p, t, c, u, h, hc, hu, hh, hw => by
    simp only [X.atP] at hc
    cases ho : t.own with
    | false => simp [ho] at hc
    | true =>
      simp only [ho, cond_true] at hc
      cases hd : X.cellAt t i j with
      | none => simp [hd] at hc
      | some d =>
        simp only [hd, Option.bind_some] at hc
        have hdt : ∀ b, cnt b d ≤ cnt b t := fun b => cnt_atP b [(i, j)] (by simp [X.atP, ho, hd])
        have hcd : ∀ b, cnt b c ≤ cnt b d := fun b => cnt_atP b p hc
        simp only [X.setP, hd]
        exact h.exchange ho hd (Rp.setP hs hS p (h.cellAt ho hd) hc hu hh (fun b hb0 => hw b (by have := hdt b; omega))) (hdr_setP p hc hh) hs hS (fun b hb0 => hw b (by have := hcd b; omega))
/-- A block of the call's own with new rows in it. -/
theorem Rp.remade {S : Nat → Prop} {w w' : World} {z g cap e : Nat} {cur : Array Value} {fz : Nat × Nat} {rows : List (List G)} (hg : w'.heap[g]? = some (.cells cur e fz)) (h1 : ∀ o, o < cur.size → ¬ (fz.1 ≤ o ∧ o < fz.2))
    (h2 : rows.length ≤ cap) (h3 : cap ≤ maxLen) (h4 : cur.size = cap * z) (h5 : ∀ r ∈ rows, r.length = z) (h6 : cur.toList.take (rows.length * z) = hds rows) (h7 : ∀ r ∈ rows, ∀ t ∈ r, Rp S w t) (h8 : ∀ b, S b → w'.heap[b]? = w.heap[b]?)
    (h9 : ∀ b, 0 < cntLL b rows → w'.heap[b]? = w.heap[b]?) : Rp S w' (.sl true z (.slice (some ⟨g, 0, none⟩) rows.length cap) rows) :=
  .own hg h1 h2 h3 h4 h5 h6 fun r hr t ht => (h7 r hr t ht).move (fun _ h => h) h8 (fun b hb0 => h9 b (by
    have a1 := cnt_mem b r t ht
    have a2 := cntL_mem b rows r hr
    omega))
end Go.X
