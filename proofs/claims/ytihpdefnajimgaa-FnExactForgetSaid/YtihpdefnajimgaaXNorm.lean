/- A state in its plain form: what is dead is dropped, what is left gets its name by its place. -/
import Derived.Test.YtihpdefnajimgaaXDraw
namespace Go.X
def renC (f : Nat → Nat) : Cel → Cel
  | .rf r c p z off len => .rf (f r) c p z off len
  | c => c
mutual
def renV (f : Nat → Nat) : SV → SV
  | .one c => .one (renC f c)
  | .agg cs => .agg (cs.map (renC f))
  | .tup vs => .tup (renVs f vs)
  | .ap r c p z i j => .ap (f r) c p z i j
  | v => v
def renVs (f : Nat → Nat) : List SV → List SV
  | [] => []
  | v :: vs => renV f v :: renVs f vs
end
def refC : Cel → List Nat
  | .rf r _ _ _ _ _ => [r]
  | _ => []
mutual
def refV : SV → List Nat
  | .one c => refC c
  | .agg cs => cs.flatMap refC
  | .tup vs => refVs vs
  | .ap r _ _ _ _ _ => [r]
  | _ => []
def refVs : List SV → List Nat
  | [] => []
  | v :: vs => refV v ++ refVs vs
end
mutual
def boxV : SV → List Nat
  | .bp b _ => [b]
  | .tup vs => boxVs vs
  | _ => []
def boxVs : List SV → List Nat
  | [] => []
  | v :: vs => boxV v ++ boxVs vs
end
def pickS (s : List (Nat × SV)) : List Nat → List (Nat × SV)
  | [] => []
  | k :: ks => match get s k with
    | some v => (k, v) :: pickS s ks
    | none => pickS s ks
/-- The roots that are looked at and no argument's, each once. -/
def olds (na : Nat) : List Nat → List Nat → List Nat
  | acc, [] => acc
  | acc, r :: rs => bif decide (r < na) || acc.contains r then olds na acc rs else olds na (acc ++ [r]) rs
def idx (r : Nat) : List Nat → Nat → Option Nat
  | [], _ => none
  | x :: xs, i => bif x == r then some i else idx r xs (i + 1)
def renR (na base : Nat) (os : List Nat) (r : Nat) : Nat := bif decide (r < na) then r else match idx r os base with | some i => i | none => r
def argR (r : List (Nat × List T)) : Nat → Nat → List (Nat × List T)
  | 0, _ => []
  | n + 1, i => match get r i with
    | some ts => (i, ts) :: argR r n (i + 1)
    | none => argR r n (i + 1)
def newR (r : List (Nat × List T)) : List Nat → Nat → List (Nat × List T)
  | [], _ => []
  | o :: os, i => match get r o with
    | some ts => (i, ts) :: newR r os (i + 1)
    | none => newR r os (i + 1)
def keepB (na : Nat) (bs : List Nat) : List (Nat × List Cel) → List (Nat × List Cel)
  | [] => []
  | (b, cs) :: l => bif decide (b < na) || bs.contains b then (b, cs) :: keepB na bs l else keepB na bs l
def normWith (na base : Nat) (st : St) (s : List (Nat × SV)) (b : List (Nat × List Cel)) (os : List Nat) : St :=
  ⟨s.map fun x => (x.1, renV (renR na base os) x.2), b.map fun x => (x.1, x.2.map (renC (renR na base os))), argR st.r na 0 ++ newR st.r os base⟩
def normB (na base : Nat) (st : St) (s : List (Nat × SV)) (b : List (Nat × List Cel)) : St :=
  normWith na base st s b (olds na [] (s.flatMap (fun x => refV x.2) ++ b.flatMap fun x => x.2.flatMap refC))
def normS (na base : Nat) (st : St) (s : List (Nat × SV)) : St := normB na base st s (keepB na (s.flatMap fun x => boxV x.2) st.b)
def norm (na base : Nat) (ks : List Nat) (st : St) : St := normS na base st (pickS st.s ks)
/-! ### It stands for the same -/
theorem get_cons {α : Type} (j : Nat) (v : α) (l : List (Nat × α)) (k : Nat) : get ((j, v) :: l) k = if j = k then some v else get l k := by
  simp only [get]
  by_cases h : j = k
  · rw [if_pos h, show (j == k) = true by simpa using h]; rfl
  · rw [if_neg h, show (j == k) = false by simpa using h]; rfl
theorem get_map {α β : Type} (f : α → β) (k : Nat) : ∀ l : List (Nat × α), get (l.map fun x => (x.1, f x.2)) k = (get l k).map f
  | [] => rfl
  | (j, v) :: l => by
    simp only [List.map_cons, get_cons, get_map f k l]
    split <;> rfl
theorem get_app {α : Type} (l l' : List (Nat × α)) (k : Nat) : get (l ++ l') k = (get l k).or (get l' k) := by
  induction l with
  | nil => simp [get]
  | cons x l ih =>
    obtain ⟨j, v⟩ := x
    simp only [List.cons_append, get_cons, ih]
    split <;> rfl
theorem get_mem {α : Type} {l : List (Nat × α)} {k : Nat} {v : α} (h : get l k = some v) : (k, v) ∈ l := by
  induction l with
  | nil => simp [get] at h
  | cons x l ih =>
    obtain ⟨j, u⟩ := x
    rw [get_cons] at h
    split at h
    · rename_i e; simp at h; subst e; subst h; exact List.mem_cons_self ..
    · exact List.mem_cons_of_mem _ (ih h)
theorem get_pickS {s : List (Nat × SV)} {k : Nat} {v : SV} : ∀ {ks : List Nat}, get (pickS s ks) k = some v → get s k = some v
  | [], h => by simp [pickS, get] at h
  | j :: ks, h => by
    simp only [pickS] at h
    cases hj : get s j with
    | none => simp only [hj] at h; exact get_pickS h
    | some u =>
      simp only [hj, get_cons] at h
      split at h
      · rename_i e; subst e; rw [hj]; exact h
      · exact get_pickS h
theorem get_argR (r : List (Nat × List T)) (k : Nat) : ∀ n i, get (argR r n i) k = if i ≤ k ∧ k < i + n then get r k else none
  | 0, i => by simp [argR, get]; omega
  | n + 1, i => by
    simp only [argR]
    cases hi : get r i with
    | none =>
      simp only [get_argR r k n (i + 1)]
      by_cases e : k = i
      · subst e; simp [hi]
      · by_cases h : i + 1 ≤ k ∧ k < i + 1 + n
        · rw [if_pos h, if_pos (by omega)]
        · rw [if_neg h, if_neg (by omega)]
    | some ts =>
      simp only [get_cons, get_argR r k n (i + 1)]
      by_cases e : i = k
      · subst e; simp [hi]
      · rw [if_neg e]
        by_cases h : i + 1 ≤ k ∧ k < i + 1 + n
        · rw [if_pos h, if_pos (by omega)]
        · rw [if_neg h, if_neg (by omega)]
theorem get_newR (r : List (Nat × List T)) (k : Nat) : ∀ (os : List Nat) (i : Nat), get (newR r os i) k = if i ≤ k then (os[k - i]?).bind (get r) else none
  | [], i => by simp [newR, get]
  | o :: os, i => by
    have e0 : ∀ x, (if i + 1 ≤ k then (os[k - (i + 1)]?).bind (get r) else none) = x → i ≠ k → x = if i ≤ k then ((o :: os)[k - i]?).bind (get r) else none := fun x hx hik => by
      subst hx
      by_cases h : i + 1 ≤ k
      · rw [if_pos h, if_pos (by omega), show k - i = (k - (i + 1)) + 1 by omega]; rfl
      · rw [if_neg h, if_neg (by omega)]
    simp only [newR]
    cases ho : get r o with
    | none =>
      simp only [get_newR r k os (i + 1)]
      by_cases e : i = k
      · subst e; simp [ho]; omega
      · exact e0 _ rfl e
    | some ts =>
      simp only [get_cons, get_newR r k os (i + 1)]
      by_cases e : i = k
      · subst e; simp [ho]
      · rw [if_neg e]; exact e0 _ rfl e
theorem olds_spec (na : Nat) : ∀ (rs acc : List Nat), acc.Nodup → (∀ x ∈ acc, na ≤ x) → (olds na acc rs).Nodup ∧ (∀ x ∈ olds na acc rs, na ≤ x) ∧ (∀ x ∈ acc, x ∈ olds na acc rs) ∧ ∀ x ∈ rs, x < na ∨ x ∈ olds na acc rs
  | [], acc, h1, h2 => ⟨h1, h2, fun _ h => h, fun x h => by cases h⟩
  | r :: rs, acc, h1, h2 => by
    simp only [olds]
    by_cases h : r < na ∨ r ∈ acc
    · rw [show (decide (r < na) || acc.contains r) = true by simpa using h]
      obtain ⟨q1, q2, q3, q4⟩ := olds_spec na rs acc h1 h2
      refine ⟨q1, q2, q3, fun x hx => ?_⟩
      rcases List.mem_cons.1 hx with rfl | hx
      · exact h.imp id (q3 _)
      · exact q4 x hx
    · rw [show (decide (r < na) || acc.contains r) = false by simpa using h]
      obtain ⟨q1, q2, q3, q4⟩ := olds_spec na rs (acc ++ [r]) (by
        rw [List.nodup_append]
        exact ⟨h1, by simp, fun x hx y hy => by simp at hy; subst hy; exact fun e => h (.inr (e ▸ hx))⟩) (fun x hx => by
        rcases List.mem_append.1 hx with hx | hx
        · exact h2 x hx
        · simp at hx; subst hx; omega)
      refine ⟨q1, q2, fun x hx => q3 x (List.mem_append_left _ hx), fun x hx => ?_⟩
      rcases List.mem_cons.1 hx with rfl | hx
      · exact .inr (q3 _ (by simp))
      · exact q4 x hx
theorem idx_spec {r : Nat} : ∀ {os : List Nat} (i : Nat), r ∈ os → ∃ j, idx r os i = some (i + j) ∧ os[j]? = some r
  | [], _, h => by cases h
  | x :: xs, i, h => by
    simp only [idx]
    by_cases e : x = r
    · subst e; exact ⟨0, by simp, rfl⟩
    · rw [show (x == r) = false by simpa using e]
      obtain ⟨j, h1, h2⟩ := idx_spec (i + 1) ((List.mem_cons.1 h).resolve_left (fun e' => e e'.symm))
      exact ⟨j + 1, by simp [h1]; omega, by simpa using h2⟩
theorem get_keepB {na : Nat} {bs : List Nat} {k : Nat} : ∀ {l : List (Nat × List Cel)}, get (keepB na bs l) k = if k < na ∨ k ∈ bs then get l k else none
  | [] => by simp [keepB, get]
  | (b, cs) :: l => by
    simp only [keepB]
    by_cases h : b < na ∨ b ∈ bs
    · rw [show (decide (b < na) || bs.contains b) = true by simpa using h]
      simp only [cond_true, get_cons, get_keepB (l := l)]
      by_cases e : b = k
      · subst e; simp [h]
      · simp [e]
    · rw [show (decide (b < na) || bs.contains b) = false by simpa using h]
      simp only [cond_false, get_cons, get_keepB (l := l)]
      by_cases e : b = k
      · subst e; simp [h]
      · simp [e]
section
variable {X : Ctx} {n : Nat} {g g' : Gh} {st : St} {a : Act} {w : World} {S : Nat → Prop}
theorem CelOK.ren {f : Nat → Nat} {c : Cel} {v : Value} (hr : ∀ r ∈ refC c, g'.gr (f r) = g.gr r) (h : CelOK S g w c v) : CelOK S g' w (renC f c) v := by
  cases c with
  | rf r c p z off len =>
    have e := hr r (by simp [refC])
    obtain ⟨h1, h2, h3⟩ := h
    refine ⟨h1, by rw [e]; exact h2, fun m hm hh => h3 m ?_ hh⟩
    simp only [nodeAt, e] at hm
    exact hm
  | _ => exact h
theorem CelsOK.ren {f : Nat → Nat} {cs : List Cel} {us : List Value} (hr : ∀ r ∈ cs.flatMap refC, g'.gr (f r) = g.gr r) (h : CelsOK S g w cs us) : CelsOK S g' w (cs.map (renC f)) us :=
  ⟨by simpa using h.1, fun k c u hc hu => by
    rw [List.getElem?_map] at hc
    cases hk : cs[k]? with
    | none => simp [hk] at hc
    | some c0 =>
      simp [hk] at hc
      subst hc
      exact (h.2 k c0 u hk hu).ren (fun r hr' => hr r (List.mem_flatMap.2 ⟨c0, List.mem_of_getElem? hk, hr'⟩))⟩
mutual
theorem SlotOK.ren {f : Nat → Nat} : ∀ (v : SV) (u : Value), (∀ r ∈ refV v, g'.gr (f r) = g.gr r) → (∀ b ∈ boxV v, g'.gb b = g.gb b) → SlotOK S g w v u → SlotOK S g' w (renV f v) u
  | .un, _, _, _, h => by simp [renV, SlotOK]
  | .one c, u, hr, _, h => by
    simp only [renV, SlotOK] at h ⊢
    exact h.ren (by simpa [refV] using hr)
  | .agg cs, u, hr, _, h => by
    simp only [renV, SlotOK] at h ⊢
    obtain ⟨us, e, h⟩ := h
    exact ⟨us, e, h.ren (by simpa only [refV] using hr)⟩
  | .tup vs, u, hr, hb, h => by
    simp only [renV, SlotOK] at h ⊢
    obtain ⟨us, e, h⟩ := h
    exact ⟨us, e, SlotsOK.ren vs us (by simpa only [refV] using hr) (by simpa only [boxV] using hb) h⟩
  | .bp b off, u, _, hb, h => by
    simp only [renV, SlotOK] at h ⊢
    rw [hb b (by simp [boxV])]
    exact h
  | .ap r c p z i j, u, hr, _, h => by
    simp only [renV, SlotOK] at h ⊢
    have e := hr r (by simp [refV])
    obtain ⟨h1, h2, h3⟩ := h
    refine ⟨h1, by rw [e]; exact h2, fun m hm hh => h3 m ?_ hh⟩
    simp only [nodeAt, e] at hm
    exact hm
  | .rp ts, u, _, _, h => by simpa only [renV, SlotOK] using h
theorem SlotsOK.ren {f : Nat → Nat} : ∀ (vs : List SV) (us : List Value), (∀ r ∈ refVs vs, g'.gr (f r) = g.gr r) → (∀ b ∈ boxVs vs, g'.gb b = g.gb b) → SlotsOK S g w vs us → SlotsOK S g' w (renVs f vs) us
  | [], [], _, _, _ => by simp [renVs, SlotsOK]
  | v :: vs, u :: us, hr, hb, h => by
    simp only [renVs, SlotsOK] at h ⊢
    simp only [refVs, boxVs, List.mem_append] at hr hb
    exact ⟨SlotOK.ren v u (fun r h => hr r (.inl h)) (fun b h => hb b (.inl h)) h.1, SlotsOK.ren vs us (fun r h => hr r (.inr h)) (fun b h => hb b (.inr h)) h.2⟩
  | [], _ :: _, _, _, h => by simp [SlotsOK] at h
  | _ :: _, [], _, _, h => by simp [SlotsOK] at h
end
theorem tot_inj : ∀ {N' : Nat} {f f' : Nat → Nat} {N : Nat} (σ : Nat → Nat), (∀ k, k < N' → f' k ≠ 0 → σ k < N ∧ f' k ≤ f (σ k)) → (∀ j k, j < N' → k < N' → f' j ≠ 0 → f' k ≠ 0 → σ j = σ k → j = k) → tot f' N' ≤ tot f N
  | 0, f, f', N, _, _, _ => by simp [tot]
  | M + 1, f, f', N, σ, h1, h2 => by
    simp only [tot]
    by_cases h0 : f' M = 0
    · have := tot_inj (N' := M) (f := f) (f' := f') (N := N) σ (fun k hk => h1 k (by omega)) (fun j k hj hk => h2 j k (by omega) (by omega))
      omega
    · obtain ⟨q1, q2⟩ := h1 M (by omega) h0
      have e1 := tot_upd (f := f) (f' := fun j => if j = σ M then 0 else f j) (k := σ M) q1 (fun j hj => if_neg hj)
      have e2 := tot_inj (N' := M) (f := fun j => if j = σ M then 0 else f j) (f' := f') (N := N) σ (fun k hk hf => by
        obtain ⟨a1, a2⟩ := h1 k (by omega) hf
        refine ⟨a1, ?_⟩
        rw [if_neg (fun e => by have := h2 k M (by omega) (by omega) hf h0 e; omega)]
        exact a2) (fun j k hj hk => h2 j k (by omega) (by omega))
      simp only [if_true] at e1
      omega
theorem tot_add (f f' : Nat → Nat) : ∀ N, tot (fun k => f k + f' k) N = tot f N + tot f' N
  | 0 => rfl
  | N + 1 => by simp only [tot, tot_add f f' N]; omega
theorem nodup_inj {os : List Nat} (h : os.Nodup) {i j x : Nat} (hi : os[i]? = some x) (hj : os[j]? = some x) : i = j := by
  induction os generalizing i j with
  | nil => simp at hi
  | cons y ys ih =>
    simp only [List.nodup_cons] at h
    cases i with
    | zero =>
      cases j with
      | zero => rfl
      | succ j =>
        simp at hi hj
        subst hi
        exact absurd (List.mem_of_getElem? hj) h.1
    | succ i =>
      cases j with
      | zero =>
        simp at hi hj
        subst hj
        exact absurd (List.mem_of_getElem? hi) h.1
      | succ j => exact congrArg (· + 1) (ih h.2 (by simpa using hi) (by simpa using hj))
theorem normWith_ok {na base : Nat} {s : List (Nat × SV)} {b : List (Nat × List Cel)} {os : List Nat} (hX : NA X na) (hna : na ≤ base) (h : Sim X n g st [] a w) (hs : ∀ k v, get s k = some v → get st.s k = some v) (hb : ∀ k cs, get b k = some cs → get st.b k = some cs)
    (hba : ∀ k, k < na → get b k = get st.b k) (hbs : ∀ k v, get s k = some v → ∀ j ∈ boxV v, get b j = get st.b j) (hos : os.Nodup) (hos2 : ∀ x ∈ os, na ≤ x) (hrs : ∀ k v, get s k = some v → ∀ r ∈ refV v, r < na ∨ r ∈ os)
    (hrb : ∀ k cs, get b k = some cs → ∀ r ∈ cs.flatMap refC, r < na ∨ r ∈ os) : ∃ g', Sim X n g' (normWith na base st s b os) [] a w := by
  let g' : Gh := ⟨fun k => if (get b k).isSome then g.gb k else none, fun k => if k < na then g.gr k else if base ≤ k then (os[k - base]?).bind g.gr else none⟩
  have hren : ∀ r, r < na ∨ r ∈ os → g'.gr (renR na base os r) = g.gr r := fun r hr => by
    unfold renR
    by_cases h0 : r < na
    · rw [show decide (r < na) = true by simpa using h0]
      exact if_pos h0
    · rw [show decide (r < na) = false by simpa using h0]
      obtain ⟨j, e1, e2⟩ := idx_spec base (hr.resolve_left h0)
      rw [e1]
      have e3 : g'.gr (base + j) = g.gr r := by
        show (if base + j < na then g.gr (base + j) else if base ≤ base + j then (os[base + j - base]?).bind g.gr else none) = _
        rw [if_neg (by omega), if_pos (by omega), show base + j - base = j by omega, e2]
        rfl
      exact e3
  have hgb : ∀ k v, get s k = some v → ∀ j ∈ boxV v, g'.gb j = g.gb j := fun k v hk j hj => by
    show (if (get b j).isSome then g.gb j else none) = _
    cases hbj : get b j with
    | some _ => rfl
    | none => rw [hbs k v hk j hj] at hbj; simp [h.nobox j hbj]
  have hr' : ∀ k, get (normWith na base st s b os).r k = if k < na then get st.r k else if base ≤ k then (os[k - base]?).bind (get st.r) else none := fun k => by
    simp only [normWith, get_app, get_argR, get_newR]
    by_cases h0 : k < na
    · rw [if_pos (by omega), if_pos h0, if_neg (by omega)]
      cases get st.r k <;> rfl
    · rw [if_neg (by omega), if_neg h0]; rfl
  have hgr : ∀ k, g'.gr k = if k < na then g.gr k else if base ≤ k then (os[k - base]?).bind g.gr else none := fun k => rfl
  have hfrom : ∀ k gs, g'.gr k = some gs → ∃ k', g.gr k' = some gs := fun k gs hk => by
    rw [hgr] at hk
    split at hk
    · exact ⟨k, hk⟩
    · split at hk
      · cases ho : os[k - base]? with
        | none => simp [ho] at hk
        | some o => simp [ho] at hk; exact ⟨o, hk⟩
      · cases hk
  refine ⟨g', { frame := h.frame, defers := h.defers, tmps := h.tmps, slots := fun t v ht => ?_, boxes := fun k cs hk => ?_, nobox := fun k hk => ?_, roots := fun r ts hr => ?_, noroot := fun r hr => ?_, reps := fun r gs hg => ?_, held := fun t ht => (by cases ht), sole := ?_, pb := fun i A hi => ?_, hold := fun i hs hi => ?_, mine := fun b k hb => ?_ }⟩
  · simp only [normWith, get_map, Option.map_eq_some_iff] at ht
    obtain ⟨v0, hv0, rfl⟩ := ht
    exact SlotOK.ren v0 _ (fun r hr => hren r (hrs t v0 hv0 r hr)) (fun j hj => hgb t v0 hv0 j hj) (h.slots t v0 (hs t v0 hv0))
  · simp only [normWith, get_map, Option.map_eq_some_iff] at hk
    obtain ⟨cs0, hc0, rfl⟩ := hk
    obtain ⟨A, us, e1, e2, e3, e4, e5⟩ := h.boxes k cs0 (hb k cs0 hc0)
    refine ⟨A, us, ?_, e2, e3, e4.ren (fun r hr => hren r (hrb k cs0 hc0 r hr)), ?_⟩
    · show (if (get b k).isSome then g.gb k else none) = _
      rw [hc0]
      exact e1
    · rcases e5 with e5 | ⟨e5, x, e6, e7, e8, e9⟩
      · exact .inl e5
      · exact .inr ⟨e5, x, e6, e7, e8, by simpa using e9⟩
  · simp only [normWith, get_map, Option.map_eq_none_iff] at hk
    show (if (get b k).isSome then g.gb k else none) = _
    rw [hk]
    rfl
  · rw [hr'] at hr
    rw [hgr]
    split at hr
    · rename_i h0; rw [if_pos h0]; exact h.roots r ts hr
    · rename_i h0
      rw [if_neg h0]
      split at hr
      · rename_i h1
        rw [if_pos h1]
        cases ho : os[r - base]? with
        | none => simp [ho] at hr
        | some o => simp [ho] at hr ⊢; exact h.roots o ts hr
      · cases hr
  · rw [hr'] at hr
    rw [hgr]
    split at hr
    · rename_i h0; rw [if_pos h0]; exact h.noroot r hr
    · rename_i h0
      rw [if_neg h0]
      split at hr
      · rename_i h1
        rw [if_pos h1]
        cases ho : os[r - base]? with
        | none => rfl
        | some o => simp [ho] at hr ⊢; exact h.noroot o hr
      · rename_i h1; rw [if_neg h1]
  · obtain ⟨k', hk'⟩ := hfrom r gs hg
    exact h.reps k' gs hk'
  · obtain ⟨N, q1, q2⟩ := h.sole
    have hzb : ∀ k, N ≤ k → g'.gb k = none := fun k hk => by
      show (if (get b k).isSome then g.gb k else none) = _
      rw [(q1 k hk).1]; simp
    refine ⟨N + na + base + os.length, fun k hk => ⟨hzb k (by omega), ?_⟩, fun b' => ?_⟩
    · rw [hgr, if_neg (by omega), if_pos (by omega), List.getElem?_eq_none (by omega)]
      rfl
    · have e1 : g'.has b' = fun k => bcnt b' (g'.gb k) + rcnt b' (g'.gr k) := rfl
      have e2 : g.has b' = fun k => bcnt b' (g.gb k) + rcnt b' (g.gr k) := rfl
      have h3 := q2 b'
      rw [e1, tot_add]
      rw [e2, tot_add] at h3
      have t1 : tot (fun k => bcnt b' (g'.gb k)) (N + na + base + os.length) ≤ tot (fun k => bcnt b' (g.gb k)) N := tot_inj id (fun k _ hk => by
        have hle : bcnt b' (g'.gb k) ≤ bcnt b' (g.gb k) := by
          show bcnt b' (if (get b k).isSome then g.gb k else none) ≤ _
          split
          · exact Nat.le_refl _
          · simp [bcnt]
        refine ⟨?_, hle⟩
        by_cases hkN : k < N
        · exact hkN
        · rw [hzb k (by omega)] at hk; simp [bcnt] at hk) (fun j k _ _ _ _ e => e)
      have t2 : tot (fun k => rcnt b' (g'.gr k)) (N + na + base + os.length) ≤ tot (fun k => rcnt b' (g.gr k)) N := tot_inj (fun k => if k < na then k else os.getD (k - base) 0) (fun k _ hk => by
        simp only [hgr] at hk ⊢
        by_cases h0 : k < na
        · simp only [if_pos h0] at hk ⊢
          refine ⟨?_, Nat.le_refl _⟩
          by_cases hkN : k < N
          · exact hkN
          · rw [(q1 k (by omega)).2] at hk; simp [rcnt] at hk
        · simp only [if_neg h0] at hk ⊢
          by_cases h1 : base ≤ k
          · simp only [if_pos h1] at hk ⊢
            cases ho : os[k - base]? with
            | none => simp [ho, rcnt] at hk
            | some o =>
              simp only [ho, Option.bind_some, List.getD_eq_getElem?_getD, Option.getD_some] at hk ⊢
              refine ⟨?_, Nat.le_refl _⟩
              by_cases hkN : o < N
              · exact hkN
              · rw [(q1 o (by omega)).2] at hk; simp [rcnt] at hk
          · simp [if_neg h1, rcnt] at hk) (fun j k _ _ hj hk e => by
        have key : ∀ k, rcnt b' (g'.gr k) ≠ 0 → ¬ k < na → ∃ o, os[k - base]? = some o ∧ base ≤ k := fun k hk h0 => by
          simp only [hgr, if_neg h0] at hk
          by_cases h1 : base ≤ k
          · simp only [if_pos h1] at hk
            cases ho : os[k - base]? with
            | none => simp [ho, rcnt] at hk
            | some o => exact ⟨o, rfl, h1⟩
          · simp [if_neg h1, rcnt] at hk
        by_cases hjn : j < na
        · by_cases hkn : k < na
          · simpa [hjn, hkn] using e
          · obtain ⟨o, ho, _⟩ := key k hk hkn
            rw [if_pos hjn, if_neg hkn, List.getD_eq_getElem?_getD, ho] at e
            have := hos2 o (List.mem_of_getElem? ho)
            simp at e
            omega
        · obtain ⟨o, ho, hj'⟩ := key j hj hjn
          by_cases hkn : k < na
          · rw [if_neg hjn, if_pos hkn, List.getD_eq_getElem?_getD, ho] at e
            have := hos2 o (List.mem_of_getElem? ho)
            simp at e
            omega
          · obtain ⟨o', ho', hk'⟩ := key k hk hkn
            rw [if_neg hjn, if_neg hkn, List.getD_eq_getElem?_getD, List.getD_eq_getElem?_getD, ho, ho'] at e
            simp at e
            subst e
            have := nodup_inj hos ho ho'
            omega)
      simp only [cntL] at h3 ⊢
      omega
  · by_cases hi' : na ≤ i
    · rw [(hX i hi').2] at hi; cases hi
    · have := h.pb i A hi
      show (if (get b i).isSome then g.gb i else none) = _
      rw [hba i (by omega)]
      cases hbi : get st.b i with
      | none => rw [h.nobox i hbi] at this; cases this
      | some _ => exact this
  · by_cases hi' : na ≤ i
    · rw [(hX i hi').1] at hi; cases hi
    · rw [hgr, if_pos (by omega)]
      exact h.hold i hs hi
  · cases hk : g'.gr k with
    | none => simp [hk, rcnt, cntL] at hb
    | some gs =>
      obtain ⟨k', hk'⟩ := hfrom k gs hk
      exact h.mine b k' (by rw [hk'] ; rw [hk] at hb; exact hb)
theorem norm_ok {na base : Nat} (ks : List Nat) (hX : NA X na) (hna : na ≤ base) (h : Sim X n g st [] a w) : ∃ g', Sim X n g' (norm na base ks st) [] a w := by
  have hmem : ∀ {l : List (Nat × SV)} {k : Nat} {v : SV}, get l k = some v → (k, v) ∈ l := get_mem
  obtain ⟨o1, o2, _, o4⟩ := olds_spec na ((pickS st.s ks).flatMap (fun x => refV x.2) ++ (keepB na ((pickS st.s ks).flatMap fun x => boxV x.2) st.b).flatMap fun x => x.2.flatMap refC) [] List.nodup_nil (fun x hx => by cases hx)
  refine normWith_ok hX hna h (fun k v hk => get_pickS hk) (fun k cs hk => ?_) (fun k hk => ?_) (fun k v hk j hj => ?_) o1 o2 (fun k v hk r hr => ?_) (fun k cs hk r hr => ?_)
  · rw [get_keepB] at hk
    split at hk
    · exact hk
    · cases hk
  · rw [get_keepB, if_pos (.inl hk)]
  · rw [get_keepB, if_pos (.inr (List.mem_flatMap.2 ⟨(k, v), get_mem hk, hj⟩))]
  · exact o4 r (List.mem_append_left _ (List.mem_flatMap.2 ⟨(k, v), get_mem hk, hr⟩))
  · exact o4 r (List.mem_append_right _ (List.mem_flatMap.2 ⟨(k, cs), get_mem hk, hr⟩))
end
end Go.X
