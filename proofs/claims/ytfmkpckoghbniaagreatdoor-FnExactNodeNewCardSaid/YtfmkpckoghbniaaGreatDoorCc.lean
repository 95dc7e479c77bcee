/- Texts: XNorm XRng XRng2 XRun XSet XDet XPtr. -/
import Derived.Test.YtfmkpckoghbniaaGreatDoorCb
import Derived.Laws.RangeString
import Derived.Laws.RangeAny
set_option linter.unusedVariables false
set_option linter.unusedSimpArgs false
/- A state in its plain form: what is dead is dropped, what is left gets its name by its place. -/
namespace Go.X
def renC (f : Nat → Nat) : Cel → Cel
  | .rf r c p z off len => .rf (f r) c p z off len
  | c => c
mutual
def renV (f : Nat → Nat) : SV → SV
  | .one c => .one (renC f c)
  | .agg cs => .agg (cs.map (renC f))
  | .tup vs => .tup (renVs f vs)
  | .ap r c p z i j => .ap (f r) c p z i j
  | v => v
def renVs (f : Nat → Nat) : List SV → List SV
  | [] => []
  | v :: vs => renV f v :: renVs f vs
end
def refC : Cel → List Nat
  | .rf r _ _ _ _ _ => [r]
  | _ => []
mutual
def refV : SV → List Nat
  | .one c => refC c
  | .agg cs => cs.flatMap refC
  | .tup vs => refVs vs
  | .ap r _ _ _ _ _ => [r]
  | _ => []
def refVs : List SV → List Nat
  | [] => []
  | v :: vs => refV v ++ refVs vs
end
mutual
def boxV : SV → List Nat
  | .bp b _ => [b]
  | .fn _ b _ => [b]
  | .tup vs => boxVs vs
  | _ => []
def boxVs : List SV → List Nat
  | [] => []
  | v :: vs => boxV v ++ boxVs vs
end
def pickS (s : List (Nat × SV)) : List Nat → List (Nat × SV)
  | [] => []
  | k :: ks => match get s k with
    | some v => (k, v) :: pickS s ks
    | none => pickS s ks
/-- The roots that are looked at and no argument's, each once. -/
def olds (na : Nat) : List Nat → List Nat → List Nat
  | acc, [] => acc
  | acc, r :: rs => bif decide (r < na) || acc.contains r then olds na acc rs else olds na (acc ++ [r]) rs
def idx (r : Nat) : List Nat → Nat → Option Nat
  | [], _ => none
  | x :: xs, i => bif x == r then some i else idx r xs (i + 1)
def renR (na base : Nat) (os : List Nat) (r : Nat) : Nat := bif decide (r < na) then r else match idx r os base with | some i => i | none => r
def argR (r : List (Nat × List T)) : Nat → Nat → List (Nat × List T)
  | 0, _ => []
  | n + 1, i => match get r i with
    | some ts => (i, ts) :: argR r n (i + 1)
    | none => argR r n (i + 1)
def newR (r : List (Nat × List T)) : List Nat → Nat → List (Nat × List T)
  | [], _ => []
  | o :: os, i => match get r o with
    | some ts => (i, ts) :: newR r os (i + 1)
    | none => newR r os (i + 1)
def keepB (na : Nat) (bs : List Nat) : List (Nat × List Cel) → List (Nat × List Cel)
  | [] => []
  | (b, cs) :: l => bif decide (b < na) || bs.contains b then (b, cs) :: keepB na bs l else keepB na bs l
def normWith (na base : Nat) (st : St) (s : List (Nat × SV)) (b : List (Nat × List Cel)) (os : List Nat) : St :=
  ⟨s.map fun x => (x.1, renV (renR na base os) x.2), b.map fun x => (x.1, x.2.map (renC (renR na base os))), argR st.r na 0 ++ newR st.r os base⟩
def normB (na base : Nat) (st : St) (s : List (Nat × SV)) (b : List (Nat × List Cel)) : St :=
  normWith na base st s b (olds na [] (s.flatMap (fun x => refV x.2) ++ b.flatMap fun x => x.2.flatMap refC))
def normS (na base : Nat) (st : St) (s : List (Nat × SV)) : St := normB na base st s (keepB na (s.flatMap fun x => boxV x.2) st.b)
def norm (na base : Nat) (ks : List Nat) (st : St) : St := normS na base st (pickS st.s ks)
/-! ### It stands for the same -/
theorem get_cons {α : Type} (j : Nat) (v : α) (l : List (Nat × α)) (k : Nat) : get ((j, v) :: l) k = if j = k then some v else get l k := by
  simp only [get]
  by_cases h : j = k
  · rw [if_pos h, show (j == k) = true by simpa using h]; rfl
  · rw [if_neg h, show (j == k) = false by simpa using h]; rfl
theorem get_map {α β : Type} (f : α → β) (k : Nat) : ∀ l : List (Nat × α), get (l.map fun x => (x.1, f x.2)) k = (get l k).map f
  | [] => rfl
  | (j, v) :: l => by
    simp only [List.map_cons, get_cons, get_map f k l]
    split <;> rfl
theorem get_app {α : Type} (l l' : List (Nat × α)) (k : Nat) : get (l ++ l') k = (get l k).or (get l' k) := by
  induction l with
  | nil => simp [get]
  | cons x l ih =>
    obtain ⟨j, v⟩ := x
    simp only [List.cons_append, get_cons, ih]
    split <;> rfl
theorem get_mem {α : Type} {l : List (Nat × α)} {k : Nat} {v : α} (h : get l k = some v) : (k, v) ∈ l := by
  induction l with
  | nil => simp [get] at h
  | cons x l ih =>
    obtain ⟨j, u⟩ := x
    rw [get_cons] at h
    split at h
    · rename_i e; simp at h; subst e; subst h; exact List.mem_cons_self ..
    · exact List.mem_cons_of_mem _ (ih h)
theorem get_pickS {s : List (Nat × SV)} {k : Nat} {v : SV} : ∀ {ks : List Nat}, get (pickS s ks) k = some v → get s k = some v
  | [], h => by simp [pickS, get] at h
  | j :: ks, h => by
    simp only [pickS] at h
    cases hj : get s j with
    | none => simp only [hj] at h; exact get_pickS h
    | some u =>
      simp only [hj, get_cons] at h
      split at h
      · rename_i e; subst e; rw [hj]; exact h
      · exact get_pickS h
theorem get_argR (r : List (Nat × List T)) (k : Nat) : ∀ n i, get (argR r n i) k = if i ≤ k ∧ k < i + n then get r k else none
  | 0, i => by simp [argR, get]; omega
  | n + 1, i => by
    simp only [argR]
    cases hi : get r i with
    | none =>
      simp only [get_argR r k n (i + 1)]
      by_cases e : k = i
      · subst e; simp [hi]
      · by_cases h : i + 1 ≤ k ∧ k < i + 1 + n
        · rw [if_pos h, if_pos (by omega)]
        · rw [if_neg h, if_neg (by omega)]
    | some ts =>
      simp only [get_cons, get_argR r k n (i + 1)]
      by_cases e : i = k
      · subst e; simp [hi]
      · rw [if_neg e]
        by_cases h : i + 1 ≤ k ∧ k < i + 1 + n
        · rw [if_pos h, if_pos (by omega)]
        · rw [if_neg h, if_neg (by omega)]
theorem get_newR (r : List (Nat × List T)) (k : Nat) : ∀ (os : List Nat) (i : Nat), get (newR r os i) k = if i ≤ k then (os[k - i]?).bind (get r) else none
  | [], i => by simp [newR, get]
  | o :: os, i => by
    have e0 : ∀ x, (if i + 1 ≤ k then (os[k - (i + 1)]?).bind (get r) else none) = x → i ≠ k → x = if i ≤ k then ((o :: os)[k - i]?).bind (get r) else none := fun x hx hik => by
      subst hx
      by_cases h : i + 1 ≤ k
      · rw [if_pos h, if_pos (by omega), show k - i = (k - (i + 1)) + 1 by omega]; rfl
      · rw [if_neg h, if_neg (by omega)]
    simp only [newR]
    cases ho : get r o with
    | none =>
      simp only [get_newR r k os (i + 1)]
      by_cases e : i = k
      · subst e; simp [ho]; omega
      · exact e0 _ rfl e
    | some ts =>
      simp only [get_cons, get_newR r k os (i + 1)]
      by_cases e : i = k
      · subst e; simp [ho]
      · rw [if_neg e]; exact e0 _ rfl e
theorem olds_spec (na : Nat) : ∀ (rs acc : List Nat), acc.Nodup → (∀ x ∈ acc, na ≤ x) → (olds na acc rs).Nodup ∧ (∀ x ∈ olds na acc rs, na ≤ x) ∧ (∀ x ∈ acc, x ∈ olds na acc rs) ∧ ∀ x ∈ rs, x < na ∨ x ∈ olds na acc rs
  | [], acc, h1, h2 => ⟨h1, h2, fun _ h => h, fun x h => by cases h⟩
  | r :: rs, acc, h1, h2 => by
    simp only [olds]
    by_cases h : r < na ∨ r ∈ acc
    · rw [show (decide (r < na) || acc.contains r) = true by simpa using h]
      obtain ⟨q1, q2, q3, q4⟩ := olds_spec na rs acc h1 h2
      refine ⟨q1, q2, q3, fun x hx => ?_⟩
      rcases List.mem_cons.1 hx with rfl | hx
      · exact h.imp id (q3 _)
      · exact q4 x hx
    · rw [show (decide (r < na) || acc.contains r) = false by simpa using h]
      obtain ⟨q1, q2, q3, q4⟩ := olds_spec na rs (acc ++ [r]) (by
        rw [List.nodup_append]
        exact ⟨h1, by simp, fun x hx y hy => by simp at hy; subst hy; exact fun e => h (.inr (e ▸ hx))⟩) (fun x hx => by
        rcases List.mem_append.1 hx with hx | hx
        · exact h2 x hx
        · simp at hx; subst hx; omega)
      refine ⟨q1, q2, fun x hx => q3 x (List.mem_append_left _ hx), fun x hx => ?_⟩
      rcases List.mem_cons.1 hx with rfl | hx
      · exact .inr (q3 _ (by simp))
      · exact q4 x hx
theorem idx_spec {r : Nat} : ∀ {os : List Nat} (i : Nat), r ∈ os → ∃ j, idx r os i = some (i + j) ∧ os[j]? = some r
  | [], _, h => by cases h
  | x :: xs, i, h => by
    simp only [idx]
    by_cases e : x = r
    · subst e; exact ⟨0, by simp, rfl⟩
    · rw [show (x == r) = false by simpa using e]
      obtain ⟨j, h1, h2⟩ := idx_spec (i + 1) ((List.mem_cons.1 h).resolve_left (fun e' => e e'.symm))
      exact ⟨j + 1, by simp [h1]; omega, by simpa using h2⟩
theorem get_keepB {na : Nat} {bs : List Nat} {k : Nat} : ∀ {l : List (Nat × List Cel)}, get (keepB na bs l) k = if k < na ∨ k ∈ bs then get l k else none
  | [] => by simp [keepB, get]
  | (b, cs) :: l => by
    simp only [keepB]
    by_cases h : b < na ∨ b ∈ bs
    · rw [show (decide (b < na) || bs.contains b) = true by simpa using h]
      simp only [cond_true, get_cons, get_keepB (l := l)]
      by_cases e : b = k
      · subst e; simp [h]
      · simp [e]
    · rw [show (decide (b < na) || bs.contains b) = false by simpa using h]
      simp only [cond_false, get_cons, get_keepB (l := l)]
      by_cases e : b = k
      · subst e; simp [h]
      · simp [e]
section
variable {X : Ctx} {n : Nat} {g g' : Gh} {st : St} {a : Act} {w : World} {S : Nat → Prop}
theorem CelOK.ren {f : Nat → Nat} {c : Cel} {v : Value} (hr : ∀ r ∈ refC c, g'.gr (f r) = g.gr r) (h : CelOK S g w c v) : CelOK S g' w (renC f c) v := by
  cases c with
  | rf r c p z off len =>
    have e := hr r (by simp [refC])
    obtain ⟨h1, h2, h3⟩ := h
    refine ⟨h1, by rw [e]; exact h2, fun m hm hh => h3 m ?_ hh⟩
    simp only [nodeAt, e] at hm
    exact hm
  | _ => exact h
theorem CelsOK.ren {f : Nat → Nat} {cs : List Cel} {us : List Value} (hr : ∀ r ∈ cs.flatMap refC, g'.gr (f r) = g.gr r) (h : CelsOK S g w cs us) : CelsOK S g' w (cs.map (renC f)) us :=
  ⟨by simpa using h.1, fun k c u hc hu => by
    rw [List.getElem?_map] at hc
    cases hk : cs[k]? with
    | none => simp [hk] at hc
    | some c0 =>
      simp [hk] at hc
      subst hc
      exact (h.2 k c0 u hk hu).ren (fun r hr' => hr r (List.mem_flatMap.2 ⟨c0, List.mem_of_getElem? hk, hr'⟩))⟩
mutual
theorem SlotOK.ren {f : Nat → Nat} : ∀ (v : SV) (u : Value), (∀ r ∈ refV v, g'.gr (f r) = g.gr r) → (∀ b ∈ boxV v, g'.gb b = g.gb b) → SlotOK S g w v u → SlotOK S g' w (renV f v) u
  | .un, _, _, _, h => by simp [renV, SlotOK]
  | .one c, u, hr, _, h => by
    simp only [renV, SlotOK] at h ⊢
    exact h.ren (by simpa [refV] using hr)
  | .agg cs, u, hr, _, h => by
    simp only [renV, SlotOK] at h ⊢
    obtain ⟨us, e, h⟩ := h
    exact ⟨us, e, h.ren (by simpa only [refV] using hr)⟩
  | .tup vs, u, hr, hb, h => by
    simp only [renV, SlotOK] at h ⊢
    obtain ⟨us, e, h⟩ := h
    exact ⟨us, e, SlotsOK.ren vs us (by simpa only [refV] using hr) (by simpa only [boxV] using hb) h⟩
  | .bp b off, u, _, hb, h => by
    simp only [renV, SlotOK] at h ⊢
    rw [hb b (by simp [boxV])]
    exact h
  | .fn f' b off, u, _, hb, h => by
    simp only [renV, SlotOK] at h ⊢
    rw [hb b (by simp [boxV])]
    exact h
  | .ap r c p z i j, u, hr, _, h => by
    simp only [renV, SlotOK] at h ⊢
    have e := hr r (by simp [refV])
    obtain ⟨h1, h2, h3⟩ := h
    refine ⟨h1, by rw [e]; exact h2, fun m hm hh => h3 m ?_ hh⟩
    simp only [nodeAt, e] at hm
    exact hm
  | .rp ts, u, _, _, h => by simpa only [renV, SlotOK] using h
theorem SlotsOK.ren {f : Nat → Nat} : ∀ (vs : List SV) (us : List Value), (∀ r ∈ refVs vs, g'.gr (f r) = g.gr r) → (∀ b ∈ boxVs vs, g'.gb b = g.gb b) → SlotsOK S g w vs us → SlotsOK S g' w (renVs f vs) us
  | [], [], _, _, _ => by simp [renVs, SlotsOK]
  | v :: vs, u :: us, hr, hb, h => by
    simp only [renVs, SlotsOK] at h ⊢
    simp only [refVs, boxVs, List.mem_append] at hr hb
    exact ⟨SlotOK.ren v u (fun r h => hr r (.inl h)) (fun b h => hb b (.inl h)) h.1, SlotsOK.ren vs us (fun r h => hr r (.inr h)) (fun b h => hb b (.inr h)) h.2⟩
  | [], _ :: _, _, _, h => by simp [SlotsOK] at h
  | _ :: _, [], _, _, h => by simp [SlotsOK] at h
end
theorem tot_inj : ∀ {N' : Nat} {f f' : Nat → Nat} {N : Nat} (σ : Nat → Nat), (∀ k, k < N' → f' k ≠ 0 → σ k < N ∧ f' k ≤ f (σ k)) → (∀ j k, j < N' → k < N' → f' j ≠ 0 → f' k ≠ 0 → σ j = σ k → j = k) → tot f' N' ≤ tot f N
  | 0, f, f', N, _, _, _ => by simp [tot]
  | M + 1, f, f', N, σ, h1, h2 => by
    simp only [tot]
    by_cases h0 : f' M = 0
    · have := tot_inj (N' := M) (f := f) (f' := f') (N := N) σ (fun k hk => h1 k (by omega)) (fun j k hj hk => h2 j k (by omega) (by omega))
      omega
    · obtain ⟨q1, q2⟩ := h1 M (by omega) h0
      have e1 := tot_upd (f := f) (f' := fun j => if j = σ M then 0 else f j) (k := σ M) q1 (fun j hj => if_neg hj)
      have e2 := tot_inj (N' := M) (f := fun j => if j = σ M then 0 else f j) (f' := f') (N := N) σ (fun k hk hf => by
        obtain ⟨a1, a2⟩ := h1 k (by omega) hf
        refine ⟨a1, ?_⟩
        rw [if_neg (fun e => by have := h2 k M (by omega) (by omega) hf h0 e; omega)]
        exact a2) (fun j k hj hk => h2 j k (by omega) (by omega))
      simp only [if_true] at e1
      omega
theorem tot_add (f f' : Nat → Nat) : ∀ N, tot (fun k => f k + f' k) N = tot f N + tot f' N
  | 0 => rfl
  | N + 1 => by simp only [tot, tot_add f f' N]; omega
theorem nodup_inj {os : List Nat} (h : os.Nodup) {i j x : Nat} (hi : os[i]? = some x) (hj : os[j]? = some x) : i = j := by
  induction os generalizing i j with
  | nil => simp at hi
  | cons y ys ih =>
    simp only [List.nodup_cons] at h
    cases i with
    | zero =>
      cases j with
      | zero => rfl
      | succ j =>
        simp at hi hj
        subst hi
        exact absurd (List.mem_of_getElem? hj) h.1
    | succ i =>
      cases j with
      | zero =>
        simp at hi hj
        subst hj
        exact absurd (List.mem_of_getElem? hi) h.1
      | succ j => exact congrArg (· + 1) (ih h.2 (by simpa using hi) (by simpa using hj))
theorem normWith_ok {na base : Nat} {s : List (Nat × SV)} {b : List (Nat × List Cel)} {os : List Nat} (hX : NA X na) (hna : na ≤ base) (h : Sim X n g st [] a w) (hs : ∀ k v, get s k = some v → get st.s k = some v) (hb : ∀ k cs, get b k = some cs → get st.b k = some cs)
    (hba : ∀ k, k < na → get b k = get st.b k) (hbs : ∀ k v, get s k = some v → ∀ j ∈ boxV v, get b j = get st.b j) (hos : os.Nodup) (hos2 : ∀ x ∈ os, na ≤ x) (hrs : ∀ k v, get s k = some v → ∀ r ∈ refV v, r < na ∨ r ∈ os)
    (hrb : ∀ k cs, get b k = some cs → ∀ r ∈ cs.flatMap refC, r < na ∨ r ∈ os) : ∃ g', Sim X n g' (normWith na base st s b os) [] a w := by
  let g' : Gh := ⟨fun k => if (get b k).isSome then g.gb k else none, fun k => if k < na then g.gr k else if base ≤ k then (os[k - base]?).bind g.gr else none⟩
  have hren : ∀ r, r < na ∨ r ∈ os → g'.gr (renR na base os r) = g.gr r := fun r hr => by
    unfold renR
    by_cases h0 : r < na
    · rw [show decide (r < na) = true by simpa using h0]
      exact if_pos h0
    · rw [show decide (r < na) = false by simpa using h0]
      obtain ⟨j, e1, e2⟩ := idx_spec base (hr.resolve_left h0)
      rw [e1]
      have e3 : g'.gr (base + j) = g.gr r := by
        show (if base + j < na then g.gr (base + j) else if base ≤ base + j then (os[base + j - base]?).bind g.gr else none) = _
        rw [if_neg (by omega), if_pos (by omega), show base + j - base = j by omega, e2]
        rfl
      exact e3
  have hgb : ∀ k v, get s k = some v → ∀ j ∈ boxV v, g'.gb j = g.gb j := fun k v hk j hj => by
    show (if (get b j).isSome then g.gb j else none) = _
    cases hbj : get b j with
    | some _ => rfl
    | none => rw [hbs k v hk j hj] at hbj; simp [h.nobox j hbj]
  have hr' : ∀ k, get (normWith na base st s b os).r k = if k < na then get st.r k else if base ≤ k then (os[k - base]?).bind (get st.r) else none := fun k => by
    simp only [normWith, get_app, get_argR, get_newR]
    by_cases h0 : k < na
    · rw [if_pos (by omega), if_pos h0, if_neg (by omega)]
      cases get st.r k <;> rfl
    · rw [if_neg (by omega), if_neg h0]; rfl
  have hgr : ∀ k, g'.gr k = if k < na then g.gr k else if base ≤ k then (os[k - base]?).bind g.gr else none := fun k => rfl
  have hfrom : ∀ k gs, g'.gr k = some gs → ∃ k', g.gr k' = some gs := fun k gs hk => by
    rw [hgr] at hk
    split at hk
    · exact ⟨k, hk⟩
    · split at hk
      · cases ho : os[k - base]? with
        | none => simp [ho] at hk
        | some o => simp [ho] at hk; exact ⟨o, hk⟩
      · cases hk
  refine ⟨g', { frame := h.frame, defers := h.defers, tmps := h.tmps, slots := fun t v ht => ?_, boxes := fun k cs hk => ?_, nobox := fun k hk => ?_, roots := fun r ts hr => ?_, noroot := fun r hr => ?_, reps := fun r gs hg => ?_, held := fun t ht => (by cases ht), sole := ?_, pb := fun i A hi => ?_, hold := fun i hs hi => ?_, mine := fun b k hb => ?_ }⟩
  · simp only [normWith, get_map, Option.map_eq_some_iff] at ht
    obtain ⟨v0, hv0, rfl⟩ := ht
    exact SlotOK.ren v0 _ (fun r hr => hren r (hrs t v0 hv0 r hr)) (fun j hj => hgb t v0 hv0 j hj) (h.slots t v0 (hs t v0 hv0))
  · simp only [normWith, get_map, Option.map_eq_some_iff] at hk
    obtain ⟨cs0, hc0, rfl⟩ := hk
    obtain ⟨A, us, e1, e2, e3, e4, e5⟩ := h.boxes k cs0 (hb k cs0 hc0)
    refine ⟨A, us, ?_, e2, e3, e4.ren (fun r hr => hren r (hrb k cs0 hc0 r hr)), ?_⟩
    · show (if (get b k).isSome then g.gb k else none) = _
      rw [hc0]
      exact e1
    · rcases e5 with e5 | ⟨e5, x, e6, e7, e8, e9⟩
      · exact .inl e5
      · exact .inr ⟨e5, x, e6, e7, e8, by simpa using e9⟩
  · simp only [normWith, get_map, Option.map_eq_none_iff] at hk
    show (if (get b k).isSome then g.gb k else none) = _
    rw [hk]
    rfl
  · rw [hr'] at hr
    rw [hgr]
    split at hr
    · rename_i h0; rw [if_pos h0]; exact h.roots r ts hr
    · rename_i h0
      rw [if_neg h0]
      split at hr
      · rename_i h1
        rw [if_pos h1]
        cases ho : os[r - base]? with
        | none => simp [ho] at hr
        | some o => simp [ho] at hr ⊢; exact h.roots o ts hr
      · cases hr
  · rw [hr'] at hr
    rw [hgr]
    split at hr
    · rename_i h0; rw [if_pos h0]; exact h.noroot r hr
    · rename_i h0
      rw [if_neg h0]
      split at hr
      · rename_i h1
        rw [if_pos h1]
        cases ho : os[r - base]? with
        | none => rfl
        | some o => simp [ho] at hr ⊢; exact h.noroot o hr
      · rename_i h1; rw [if_neg h1]
  · obtain ⟨k', hk'⟩ := hfrom r gs hg
    exact h.reps k' gs hk'
  · obtain ⟨N, q1, q2⟩ := h.sole
    have hzb : ∀ k, N ≤ k → g'.gb k = none := fun k hk => by
      show (if (get b k).isSome then g.gb k else none) = _
      rw [(q1 k hk).1]; simp
    refine ⟨N + na + base + os.length, fun k hk => ⟨hzb k (by omega), ?_⟩, fun b' => ?_⟩
    · rw [hgr, if_neg (by omega), if_pos (by omega), List.getElem?_eq_none (by omega)]
      rfl
    · have e1 : g'.has b' = fun k => bcnt b' (g'.gb k) + rcnt b' (g'.gr k) := rfl
      have e2 : g.has b' = fun k => bcnt b' (g.gb k) + rcnt b' (g.gr k) := rfl
      have h3 := q2 b'
      rw [e1, tot_add]
      rw [e2, tot_add] at h3
      have t1 : tot (fun k => bcnt b' (g'.gb k)) (N + na + base + os.length) ≤ tot (fun k => bcnt b' (g.gb k)) N := tot_inj id (fun k _ hk => by
        have hle : bcnt b' (g'.gb k) ≤ bcnt b' (g.gb k) := by
          show bcnt b' (if (get b k).isSome then g.gb k else none) ≤ _
          split
          · exact Nat.le_refl _
          · simp [bcnt]
        refine ⟨?_, hle⟩
        by_cases hkN : k < N
        · exact hkN
        · rw [hzb k (by omega)] at hk; simp [bcnt] at hk) (fun j k _ _ _ _ e => e)
      have t2 : tot (fun k => rcnt b' (g'.gr k)) (N + na + base + os.length) ≤ tot (fun k => rcnt b' (g.gr k)) N := tot_inj (fun k => if k < na then k else os.getD (k - base) 0) (fun k _ hk => by
        simp only [hgr] at hk ⊢
        by_cases h0 : k < na
        · simp only [if_pos h0] at hk ⊢
          refine ⟨?_, Nat.le_refl _⟩
          by_cases hkN : k < N
          · exact hkN
          · rw [(q1 k (by omega)).2] at hk; simp [rcnt] at hk
        · simp only [if_neg h0] at hk ⊢
          by_cases h1 : base ≤ k
          · simp only [if_pos h1] at hk ⊢
            cases ho : os[k - base]? with
            | none => simp [ho, rcnt] at hk
            | some o =>
              simp only [ho, Option.bind_some, List.getD_eq_getElem?_getD, Option.getD_some] at hk ⊢
              refine ⟨?_, Nat.le_refl _⟩
              by_cases hkN : o < N
              · exact hkN
              · rw [(q1 o (by omega)).2] at hk; simp [rcnt] at hk
          · simp [if_neg h1, rcnt] at hk) (fun j k _ _ hj hk e => by
        have key : ∀ k, rcnt b' (g'.gr k) ≠ 0 → ¬ k < na → ∃ o, os[k - base]? = some o ∧ base ≤ k := fun k hk h0 => by
          simp only [hgr, if_neg h0] at hk
          by_cases h1 : base ≤ k
          · simp only [if_pos h1] at hk
            cases ho : os[k - base]? with
            | none => simp [ho, rcnt] at hk
            | some o => exact ⟨o, rfl, h1⟩
          · simp [if_neg h1, rcnt] at hk
        by_cases hjn : j < na
        · by_cases hkn : k < na
          · simpa [hjn, hkn] using e
          · obtain ⟨o, ho, _⟩ := key k hk hkn
            rw [if_pos hjn, if_neg hkn, List.getD_eq_getElem?_getD, ho] at e
            have := hos2 o (List.mem_of_getElem? ho)
            simp at e
            omega
        · obtain ⟨o, ho, hj'⟩ := key j hj hjn
          by_cases hkn : k < na
          · rw [if_neg hjn, if_pos hkn, List.getD_eq_getElem?_getD, ho] at e
            have := hos2 o (List.mem_of_getElem? ho)
            simp at e
            omega
          · obtain ⟨o', ho', hk'⟩ := key k hk hkn
            rw [if_neg hjn, if_neg hkn, List.getD_eq_getElem?_getD, List.getD_eq_getElem?_getD, ho, ho'] at e
            simp at e
            subst e
            have := nodup_inj hos ho ho'
            omega)
      simp only [cntL] at h3 ⊢
      omega
  · by_cases hi' : na ≤ i
    · rw [(hX i hi').2] at hi; cases hi
    · have := h.pb i A hi
      show (if (get b i).isSome then g.gb i else none) = _
      rw [hba i (by omega)]
      cases hbi : get st.b i with
      | none => rw [h.nobox i hbi] at this; cases this
      | some _ => exact this
  · by_cases hi' : na ≤ i
    · rw [(hX i hi').1] at hi; cases hi
    · rw [hgr, if_pos (by omega)]
      exact h.hold i hs hi
  · cases hk : g'.gr k with
    | none => simp [hk, rcnt, cntL] at hb
    | some gs =>
      obtain ⟨k', hk'⟩ := hfrom k gs hk
      exact h.mine b k' (by rw [hk'] ; rw [hk] at hb; exact hb)
theorem norm_ok {na base : Nat} (ks : List Nat) (hX : NA X na) (hna : na ≤ base) (h : Sim X n g st [] a w) : ∃ g', Sim X n g' (norm na base ks st) [] a w := by
  have hmem : ∀ {l : List (Nat × SV)} {k : Nat} {v : SV}, get l k = some v → (k, v) ∈ l := get_mem
  obtain ⟨o1, o2, _, o4⟩ := olds_spec na ((pickS st.s ks).flatMap (fun x => refV x.2) ++ (keepB na ((pickS st.s ks).flatMap fun x => boxV x.2) st.b).flatMap fun x => x.2.flatMap refC) [] List.nodup_nil (fun x hx => by cases hx)
  refine normWith_ok hX hna h (fun k v hk => get_pickS hk) (fun k cs hk => ?_) (fun k hk => ?_) (fun k v hk j hj => ?_) o1 o2 (fun k v hk r hr => ?_) (fun k cs hk r hr => ?_)
  · rw [get_keepB] at hk
    split at hk
    · exact hk
    · cases hk
  · rw [get_keepB, if_pos (.inl hk)]
  · rw [get_keepB, if_pos (.inr (List.mem_flatMap.2 ⟨(k, v), get_mem hk, hj⟩))]
  · exact o4 r (List.mem_append_left _ (List.mem_flatMap.2 ⟨(k, v), get_mem hk, hr⟩))
  · exact o4 r (List.mem_append_right _ (List.mem_flatMap.2 ⟨(k, cs), get_mem hk, hr⟩))
end
end Go.X

/- A range over a string: the iterator is a block of its own, that nobody else can reach. -/
namespace Go.X
section
variable {S S' : Nat → Prop} {g : Gh} {w : World}
theorem CelOK.mono (hs : ∀ b, S b → S' b) {c : Cel} {v : Value} (h : CelOK S g w c v) : CelOK S' g w c v := by
  cases c with
  | ro z rows => exact Rd.move h hs (fun _ _ => rfl)
  | _ => exact h
theorem CelsOK.mono (hs : ∀ b, S b → S' b) {cs : List Cel} {us : List Value} (h : CelsOK S g w cs us) : CelsOK S' g w cs us := ⟨h.1, fun k c u h1 h2 => (h.2 k c u h1 h2).mono hs⟩
mutual
theorem SlotOK.mono (hs : ∀ b, S b → S' b) : ∀ (v : SV) (u : Value), SlotOK S g w v u → SlotOK S' g w v u
  | .un, u, _ => by simp [SlotOK]
  | .one c, u, h => by simp only [SlotOK] at h ⊢; exact h.mono hs
  | .agg cs, u, h => by
    simp only [SlotOK] at h ⊢
    obtain ⟨us, h1, h2⟩ := h
    exact ⟨us, h1, h2.mono hs⟩
  | .tup vs, u, h => by
    simp only [SlotOK] at h ⊢
    obtain ⟨us, h1, h2⟩ := h
    exact ⟨us, h1, SlotsOK.mono hs vs us h2⟩
  | .bp b off, u, h => by simp only [SlotOK] at h ⊢; exact h
  | .fn f b off, u, h => by simp only [SlotOK] at h ⊢; exact h
  | .ap r c p z i j, u, h => by simp only [SlotOK] at h ⊢; exact h
  | .rp ts, u, h => by
    simp only [SlotOK] at h ⊢
    obtain ⟨ad, h1, h2⟩ := h
    refine ⟨ad, h1, fun j t ht => ?_⟩
    obtain ⟨h3, x, h4, h5⟩ := h2 j t ht
    exact ⟨hs _ h3, x, h4, h5.move hs (fun _ _ => rfl)⟩
theorem SlotsOK.mono (hs : ∀ b, S b → S' b) : ∀ (vs : List SV) (us : List Value), SlotsOK S g w vs us → SlotsOK S' g w vs us
  | [], [], _ => by simp [SlotsOK]
  | v :: vs, u :: us, h => by
    simp only [SlotsOK] at h ⊢
    exact ⟨SlotOK.mono hs v u h.1, SlotsOK.mono hs vs us h.2⟩
  | [], _ :: _, h => by simp [SlotsOK] at h
  | _ :: _, [], h => by simp [SlotsOK] at h
end
/-- A block that holds no cells can be left out. -/
def NoCells (w : World) (r : Nat) : Prop := ∀ ad : Addr, ad.block = r → w.cell? ad = none
variable {r : Nat}
theorem Rd.narrow (hr : NoCells w r) {t : T} {v : Value} (h : Rd (fun b => S b ∨ b = r) w t v) : Rd S w t v := by
  induction h with
  | pv h => exact .pv h
  | sl u h1 h2 h3 h4 h5 ih =>
    refine .sl u h1 h2 h3 (fun i r' j t hr' ht => ?_) (fun i r' j t hr' ht => ih i r' j t hr' ht)
    obtain ⟨ad, ha, hS, hc⟩ := h4 i r' j t hr' ht
    refine ⟨ad, ha, ?_, hc⟩
    rcases hS with hS | hS
    · exact hS
    · rw [hr _ (by rw [add_block]; exact hS)] at hc; cases hc
theorem Rp.narrow (hr : NoCells w r) {t : G} (h : Rp (fun b => S b ∨ b = r) w t) : Rp S w t := by
  induction h with
  | pv h => exact .pv h
  | no h => exact .no h
  | ro h => exact .ro (h.narrow hr)
  | nil => exact .nil
  | own hg h1 h2 h3 h4 h5 h6 h7 ih => exact .own hg h1 h2 h3 h4 h5 h6 ih
theorem CelOK.narrow (hr : NoCells w r) {c : Cel} {v : Value} (h : CelOK (fun b => S b ∨ b = r) g w c v) : CelOK S g w c v := by
  cases c with
  | ro z rows => exact Rd.narrow hr h
  | _ => exact h
theorem CelsOK.narrow (hr : NoCells w r) {cs : List Cel} {us : List Value} (h : CelsOK (fun b => S b ∨ b = r) g w cs us) : CelsOK S g w cs us := ⟨h.1, fun k c u h1 h2 => (h.2 k c u h1 h2).narrow hr⟩
mutual
theorem SlotOK.narrow (hr : NoCells w r) : ∀ (v : SV) (u : Value), SlotOK (fun b => S b ∨ b = r) g w v u → SlotOK S g w v u
  | .un, u, _ => by simp [SlotOK]
  | .one c, u, h => by simp only [SlotOK] at h ⊢; exact h.narrow hr
  | .agg cs, u, h => by
    simp only [SlotOK] at h ⊢
    obtain ⟨us, h1, h2⟩ := h
    exact ⟨us, h1, h2.narrow hr⟩
  | .tup vs, u, h => by
    simp only [SlotOK] at h ⊢
    obtain ⟨us, h1, h2⟩ := h
    exact ⟨us, h1, SlotsOK.narrow hr vs us h2⟩
  | .bp b off, u, h => by simp only [SlotOK] at h ⊢; exact h
  | .fn f b off, u, h => by simp only [SlotOK] at h ⊢; exact h
  | .ap r c p z i j, u, h => by simp only [SlotOK] at h ⊢; exact h
  | .rp ts, u, h => by
    simp only [SlotOK] at h ⊢
    obtain ⟨ad, h1, h2⟩ := h
    refine ⟨ad, h1, fun j t ht => ?_⟩
    obtain ⟨h3, x, h4, h5⟩ := h2 j t ht
    refine ⟨?_, x, h4, h5.narrow hr⟩
    rcases h3 with h3 | h3
    · exact h3
    · rw [hr _ (by rw [add_block]; exact h3)] at h4; cases h4
theorem SlotsOK.narrow (hr : NoCells w r) : ∀ (vs : List SV) (us : List Value), SlotsOK (fun b => S b ∨ b = r) g w vs us → SlotsOK S g w vs us
  | [], [], _ => by simp [SlotsOK]
  | v :: vs, u :: us, h => by
    simp only [SlotsOK] at h ⊢
    exact ⟨SlotOK.narrow hr v u h.1, SlotsOK.narrow hr vs us h.2⟩
  | [], _ :: _, h => by simp [SlotsOK] at h
  | _ :: _, [], h => by simp [SlotsOK] at h
end
end
section
variable {P : Program} {X : Ctx} {n : Nat} {g : Gh} {st : St} {hand : List G} {a : Act} {w w' : World} {r : Nat}
/-- A block that is nobody's turns. -/
theorem Sim.turn (h : Sim X n g st hand a w) (ho : w'.os = w.os) (ht : w'.tape = w.tape) (hou : w'.output = w.output) (hsz : w'.heap.size = w.heap.size) (hb : ∀ b, b ≠ r → w'.heap[b]? = w.heap[b]?)
    (h0 : X.w0.heap.size ≤ r) (hS : ¬ X.S r) (hz : ∀ k, g.has r k + cntL r hand = 0) : Sim X n g st hand a w' := by
  have hS' : ∀ b, X.S b → w'.heap[b]? = w.heap[b]? := fun b hb' => hb b (fun e => hS (by rw [← e]; exact hb'))
  have hold : ∀ b, b < X.w0.heap.size → w'.heap[b]? = w.heap[b]? := fun b hb' => hb b (by omega)
  refine { frame := ⟨ho.trans h.frame.os, ht.trans h.frame.tape, hou.trans h.frame.output, by rw [hsz]; exact h.frame.size, fun b hb' hF hR => (hold b hb').trans (h.frame.block b hb' hF hR), fun x hx o hoo => ?_⟩,
           defers := h.defers, tmps := h.tmps, slots := fun t v hv => ?_, boxes := fun b cs hb' => ?_, nobox := h.nobox, roots := h.roots, noroot := h.noroot, reps := fun k gs hg t ht' => ?_, held := fun t ht' => ?_, sole := h.sole, pb := h.pb, hold := h.hold, mine := h.mine }
  · have e := hold x.1 (X.apart x hx).2
    rw [World.cell?_of_block (w := w) (by exact e), World.frozen?_of_block (w := w) (by exact e)]
    exact h.frame.range x hx o hoo
  · exact SlotOK.keep (Keeps.refl Never g) hS' v _ (never_slot v) (fun _ _ _ _ _ h => h) (h.slots t v hv)
  · obtain ⟨A, vs, h1, h2, h3, h4, h5⟩ := h.boxes b cs hb'
    have hA : A.block ≠ r := fun e => by
      have := hz b
      simp [Gh.has, h1, bcnt, e] at this
    exact ⟨A, vs, h1, by rw [hsz]; exact h2, h3.move (hb _ hA), h4.keep (Keeps.refl Never g) hS' (fun c _ => never_cel c), h5⟩
  · refine (h.reps k gs hg t ht').move (fun _ h => h) hS' (fun b hb' => hb b fun e => ?_)
    have h1 := cnt_mem b gs t ht'
    have h2 := hz k
    simp only [Gh.has, hg, rcnt] at h2
    subst e
    omega
  · refine (h.held t ht').move (fun _ h => h) hS' (fun b hb' => hb b fun e => ?_)
    have h1 := cnt_mem b hand t ht'
    have h2 := hz 0
    subst e
    omega
structure Aside (X : Ctx) (g : Gh) (w : World) (r : Nat) : Prop where
  new : X.w0.heap.size ≤ r
  lt : r < w.heap.size
  ns : ¬ X.S r
  nz : ∀ k, g.has r k = 0
/-- The same call, seen from here, where the block may be read and will stay. -/
def Ctx.here (X : Ctx) (g : Gh) (w : World) (r : Nat) (h : Sim X n g st [] a w) (hr : Aside X g w r) : Ctx where
  KP := X.KP
  w0 := w
  S := fun b => X.S b ∨ b = r
  F := fun b => (X.F b ∧ b ≠ r) ∨ ∃ k, 0 < rcnt b (g.gr k)
  R := X.R
  laid := kept_on h.frame fun b hb => .inl hb
  stay := fun b hb => by
    have hown : ∀ b k, 0 < rcnt b (g.gr k) → ¬ X.S b ∧ (X.w0.heap.size ≤ b ∨ X.F b) := fun b k h0 => h.mine b k (by omega)
    rcases hb with hb | rfl
    · refine ⟨Nat.lt_of_lt_of_le (X.stay b hb).1 h.frame.size, ?_, (X.stay b hb).2.2⟩
      rintro (⟨h1, _⟩ | ⟨k, h1⟩)
      · exact (X.stay b hb).2.1 h1
      · exact (hown b k h1).1 hb
    · refine ⟨hr.lt, ?_, fun x hx e => ?_⟩
      · rintro (⟨_, h1⟩ | ⟨k, h1⟩)
        · exact h1 rfl
        · have := hr.nz k
          simp only [Gh.has] at this
          omega
      · have := (X.apart x hx).2
        have := hr.new
        omega
  apart := fun x hx => by
    refine ⟨?_, Nat.lt_of_lt_of_le (X.apart x hx).2 h.frame.size⟩
    rintro (⟨h1, _⟩ | ⟨k, h1⟩)
    · exact (X.apart x hx).1 h1
    · rcases (h.mine x.1 k (by omega)).2 with h2 | h2
      · have := (X.apart x hx).2; omega
      · exact (X.apart x hx).1 h2
  uniq := X.uniq
  H := X.H
  isP := X.isP
  PA := X.PA
theorem Sim.here (h : Sim X n g st [] a w) (hr : Aside X g w r) (hb : ∀ b, get st.b b = none) : Sim (X.here g w r h hr) n g st [] a w where
  frame := ⟨rfl, rfl, rfl, Nat.le_refl _, fun _ _ _ _ => rfl, fun _ _ _ _ => ⟨rfl, rfl⟩⟩
  defers := h.defers
  tmps := h.tmps
  slots := fun t v hv => SlotOK.mono (fun _ h => .inl h) v _ (h.slots t v hv)
  boxes := fun b cs e => by rw [hb] at e; cases e
  nobox := h.nobox
  roots := h.roots
  noroot := h.noroot
  reps := fun k gs hg t ht => (h.reps k gs hg t ht).move (fun _ h => .inl h) (fun b hb => rfl) (fun _ _ => rfl)
  held := fun t ht => by cases ht
  sole := h.sole
  pb := h.pb
  hold := h.hold
  mine := fun b k h0 => by
    have h1 : 0 < rcnt b (g.gr k) := by simpa [cntL] using h0
    refine ⟨?_, .inr (.inr ⟨k, h1⟩)⟩
    rintro (h2 | rfl)
    · exact (h.mine b k h0).1 h2
    · have := hr.nz k
      simp only [Gh.has] at this
      omega
theorem Sim.there {g' : Gh} {st' : St} {a' : Act} (h : Sim X n g st [] a w) (hr : Aside X g w r) (h' : Sim (X.here g w r h hr) n g' st' [] a' w') (hc : NoCells w r) :
    w'.heap[r]? = w.heap[r]? ∧ Sim X n g' st' [] a' w' ∧ Aside X g' w' r := by
  have hS : ∀ b, (X.here g w r h hr).S b ↔ X.S b ∨ b = r := fun _ => Iff.rfl
  have e1 : w'.heap[r]? = w.heap[r]? := h'.frame.block r hr.lt ((X.here g w r h hr).stay r (.inr rfl)).2.1 ((X.here g w r h hr).stay r (.inr rfl)).2.2
  have hc' : NoCells w' r := fun ad e => by rw [World.cell?_of_block (w := w) (by rw [e]; exact e1)]; exact hc ad e
  have hF : ∀ b, b < X.w0.heap.size → ¬ X.F b → ¬ (X.here g w r h hr).F b := fun b hb hF => by
    rintro (⟨h1, _⟩ | ⟨k, h1⟩)
    · exact hF h1
    · rcases (h.mine b k (by omega)).2 with h2 | h2
      · omega
      · exact hF h2
  have fr : Frame X w' := ⟨h'.frame.os.trans h.frame.os, h'.frame.tape.trans h.frame.tape, h'.frame.output.trans h.frame.output, Nat.le_trans h.frame.size h'.frame.size, fun b hb hF1 hR => (h'.frame.block b (Nat.lt_of_lt_of_le hb h.frame.size) (hF b hb hF1) hR).trans (h.frame.block b hb hF1 hR), fun x hx o ho => ⟨(h'.frame.range x hx o ho).1.trans (h.frame.range x hx o ho).1, (h'.frame.range x hx o ho).2.trans (h.frame.range x hx o ho).2⟩⟩
  refine ⟨e1, ⟨fr, h'.defers, h'.tmps, fun t v hv => SlotOK.narrow hc' v _ (h'.slots t v hv), fun b cs hb => ?_, h'.nobox, h'.roots, h'.noroot, fun k gs hg t ht => Rp.narrow hc' (h'.reps k gs hg t ht), fun t ht => (by cases ht), h'.sole, h'.pb, h'.hold, fun b k h0 => ?_⟩, ⟨hr.new, Nat.lt_of_lt_of_le hr.lt h'.frame.size, hr.ns, fun k => ?_⟩⟩
  · obtain ⟨A, us, h1, h2, h3, h4, h5⟩ := h'.boxes b cs hb
    refine ⟨A, us, h1, h2, h3, CelsOK.narrow hc' h4, ?_⟩
    rcases h5 with h5 | h5
    · exact .inl (Nat.le_trans h.frame.size h5)
    · exact .inr h5
  · obtain ⟨q1, q2⟩ := h'.mine b k h0
    refine ⟨fun hb => q1 (.inl hb), ?_⟩
    rcases q2 with q2 | ⟨q2, _⟩ | ⟨j, q2⟩
    · exact .inl (Nat.le_trans h.frame.size q2)
    · exact .inr q2
    · exact (h.mine b j (by omega)).2
  · simp only [Gh.has]
    have z1 : rcnt r (g'.gr k) = 0 := by
      by_cases h0 : 0 < rcnt r (g'.gr k)
      · exact absurd (.inr rfl) (h'.mine r k (by omega)).1
      · omega
    have z2 : bcnt r (g'.gb k) = 0 := by
      cases hb : get st'.b k with
      | none => rw [h'.nobox k hb]; rfl
      | some cs =>
        obtain ⟨A, us, h1, h2, h3, h4, h5⟩ := h'.boxes k cs hb
        rw [h1]
        refine if_neg fun e => ?_
        rcases h5 with h5 | ⟨_, x, hx, e2, _⟩
        · have := hr.lt
          have : w.heap.size ≤ A.block := h5
          omega
        · have := (X.apart x hx).2
          have := hr.new
          omega
    omega
end
theorem wpOp_plain {P : Program} {ops : Array Oper} {Q : Exit → Act → World → Prop} {i : Nat} {o : Oper} {K : Act → World → Prop} {a : Act} {w : World} (hi : ops[i]? = some o) (hg : o.guard = none) (h : o.wp P a w K Q) : wpOp P ops Q i K a w := by
  unfold wpOp
  simp only [hi]
  rw [if_pos (by simp [Region.wanted, hg])]
  exact .inl h
theorem run_next_some {P : Program} {r : Nat} {w : World} {s : ByteArray} {pos : Nat} (ty : TypeId) (hr : w.heap[r]? = some (.stringIter s pos)) (h : pos < s.size) :
    (Instr.next (.pointer (some ⟨r, 0, none⟩)) true ty).run P w = .ok (.tuple #[.bool true, .int .i64 pos, .int .i32 (Utf8.decode s pos).1]) { w with heap := w.heap.setIfInBounds r (.stringIter s (pos + (Utf8.decode s pos).2)) } := by
  simp [Instr.next, getObj, setObj, Sem.run_bind, Sem.run, hr, Result.andThen, h, goInt]
theorem run_next_over {P : Program} {r : Nat} {w : World} {s : ByteArray} {pos : Nat} (ty : TypeId) (hr : w.heap[r]? = some (.stringIter s pos)) (h : ¬ pos < s.size) :
    (Instr.next (.pointer (some ⟨r, 0, none⟩)) true ty).run P w = .ok (.tuple #[.bool false]) w := by
  simp [Instr.next, getObj, Sem.run, hr, h]
theorem decode_wide (s : ByteArray) (pos : Nat) : 1 ≤ (Utf8.decode s pos).2 := by
  simp only [Utf8.decode]
  repeat' split
  all_goals simp
def rngA (P : Program) (n src ta tb : Nat) : List Oper → Bool
  | [o1, o2] => o1.guard.isNone && o2.guard.isNone && o1.dst == some ta && o2.dst == some tb && (match o1.op with | .move (.tmp s) => s == src | _ => false) &&
      (match o2.op with | .range ty (.tmp t) => t == ta && (match P.underlying ty with | some .string => true | _ => false) | _ => false) && decide (ta < n) && decide (tb < n)
  | _ => false
def rngB (n tb tc td : Nat) : List Oper → Bool
  | [o1, o2] => o1.guard.isNone && o2.guard.isNone && o1.dst == some tc && o2.dst == some td && (match o1.op with | .next (.tmp t) true => t == tb | _ => false) && (match o2.op with | .extract (.tmp t) 0 => t == tc | _ => false) && decide (tc < n) && decide (td < n)
  | _ => false
abbrev itV (r : Nat) : SV := .one (.pv (.pointer (some ⟨r, 0, none⟩)))
def rngIn (st : St) (ta tb r : Nat) (s : ByteArray) : St := { st with s := put (put st.s ta (.one (.pv (.string s)))) tb (itV r) }
def rngOn (st : St) (tc td p c : Nat) : St := { st with s := put (put st.s tc (.tup [.one (.pv (.bool true)), .one (.pv (.int .i64 p)), .one (.pv (.int .i32 c))])) td (.one (.pv (.bool true))) }
def rngOff (st : St) (tc td : Nat) : St := { st with s := put (put st.s tc (.tup [.one (.pv (.bool false))])) td (.one (.pv (.bool false))) }
end Go.X

/- The rule for a range over a string. -/
namespace Go.X
section
variable {P : Program} {n : Nat}
theorem slotPv {S : Nat → Prop} {g : Gh} {w : World} {u : Value} (h : u.oneCell' = true) : SlotOK S g w (.one (.pv u)) u := by
  rw [SlotOK]
  exact ⟨rfl, h⟩
theorem list2 {α : Type} {ops : Array α} {a b : α} (h : ops.toList = [a, b]) : ops = #[a, b] := Array.toList_inj.1 (by rw [h])
theorem x_rng {X : Ctx} {opsA opsB : Array Oper} {iA iB B src ta tb tc td : Nat} {s : ByteArray} {body : Code} {st : St} {Q : Ex → St → Prop} (hA : rngA P n src ta tb opsA.toList = true) (hB : rngB n tb tc td opsB.toList = true)
    (hs : get st.s src = some (.one (.pv (.string s)))) (hbx : st.b = []) (I : Nat → Nat → St → Prop)
    (start : ∀ (X' : Ctx) (r : Nat), X'.KP = X.KP → X'.H = X.H → X'.PA = X.PA → ∃ s0, Weak X' n (rngIn st ta tb r s) s0 ∧ I r 0 s0)
    (keep : ∀ r p s1, I r p s1 → s1.b = [] ∧ get s1.s tb = some (itV r))
    (round : ∀ (X' : Ctx) (r p : Nat) (s1 : St), X'.KP = X.KP → X'.H = X.H → X'.PA = X.PA → I r p s1 → p < s.size → xC P X' n body (rngOn s1 tc td p (Utf8.decode s p).1) (Then (fun s' => ∃ s'', Weak X' n s' s'' ∧ I r (p + (Utf8.decode s p).2) s'') (InBlock B Q)))
    (over : ∀ r p s1, I r p s1 → s.size ≤ p → Q .nrm (rngOff s1 tc td)) :
    xC P X n (.seq (.region iA opsA false) (.block B (.loop (.seq (.region iB opsB false) (.seq (.cond (.tmp td) .skip (.exit B)) body))))) st Q := fun g a w hsim => by
  unfold rngA at hA
  split at hA
  case h_2 => cases hA
  rename_i o1 o2 eA
  unfold rngB at hB
  split at hB
  case h_2 => cases hB
  rename_i o3 o4 eB
  have eA' := list2 eA
  have eB' := list2 eB
  subst eA'
  subst eB'
  simp only [Bool.and_eq_true, Option.isNone_iff_eq_none, beq_iff_eq, decide_eq_true_eq] at hA hB
  obtain ⟨⟨⟨⟨⟨⟨⟨g1, g2⟩, d1⟩, d2⟩, m1⟩, m2⟩, hta⟩, htb⟩ := hA
  obtain ⟨⟨⟨⟨⟨⟨⟨g3, g4⟩, d3⟩, d4⟩, m3⟩, m4⟩, htc⟩, htd⟩ := hB
  split at m1
  case h_2 => cases m1
  rename_i s' p1
  simp only [beq_iff_eq] at m1
  subst m1
  split at m2
  case h_2 => cases m2
  rename_i ty t' p2
  simp only [Bool.and_eq_true, beq_iff_eq] at m2
  obtain ⟨rfl, m2⟩ := m2
  split at m2
  case h_2 => cases m2
  rename_i hty
  split at m3
  case h_2 => cases m3
  rename_i t3 p3
  simp only [beq_iff_eq] at m3
  subst m3
  split at m4
  case h_2 => cases m4
  rename_i t4 p4
  simp only [beq_iff_eq] at m4
  subst m4
  -- the iterator is made
  refine wp_seq (wp_region ?_)
  show wpOps P #[o1, o2] _ [0, 1] a w
  rw [wpOps_cons]
  refine wpOp_plain (o := o1) rfl g1 ?_
  have hv : a.eval (.tmp s') = .string s := by
    have := hsim.slots s' _ hs
    simp only [SlotOK, CelOK] at this
    exact this.1
  refine step_value (v := .string s) (w' := w) (by simp [execOp, p1, hv]) ?_
  have h1 := hsim.slot (v := .one (.pv (.string s))) (u := .string s) hta (slotPv rfl)
  rw [d1]
  rw [wpOps_cons]
  refine wpOp_plain (o := o2) rfl g2 ?_
  have hv2 : (a.put (some t') (.string s)).eval (.tmp t') = .string s := by
    have := h1.slots t' (.one (.pv (.string s))) (by simp [put, get])
    simp only [SlotOK, CelOK] at this
    exact this.1
  refine step_value (v := .pointer (some ⟨w.heap.size, 0, none⟩)) (w' := w.iter s 0) (by simp [execOp, p2, hv2, run_range_string w ty s hty]) ?_
  have h2 := h1.quiet (alloc_step w (.stringIter s 0) _)
  have h3 := h2.slot (v := itV w.heap.size) (u := .pointer (some ⟨w.heap.size, 0, none⟩)) htb (slotPv rfl)
  rw [d2]
  generalize ha2 : (a.put (some t') (.string s)).put (some t3) (.pointer (some ⟨w.heap.size, 0, none⟩)) = a2 at h3
  have hheap : (w.iter s 0).heap[w.heap.size]? = some (.stringIter s 0) := World.iter_heap w s 0
  have has : Aside X g (w.iter s 0) w.heap.size := ⟨hsim.frame.size, by show _ < (w.heap.push _).size; simp, fun hS => by have := (X.stay _ hS).1; have := hsim.frame.size; omega, fun k => by
    by_cases h0 : 0 < g.has w.heap.size k
    · have := hsim.lt w.heap.size k (by omega)
      omega
    · omega⟩
  have hnc : ∀ (w : World) (r p : Nat), w.heap[r]? = some (.stringIter s p) → NoCells w r := fun w r p e ad ha => by
    unfold World.cell?
    rw [ha, e]
  show Code.wp P (Code.block B _) _ a2 (w.iter s 0)
  obtain ⟨r, hr⟩ : ∃ r, w.heap.size = r := ⟨_, rfl⟩
  rw [hr] at h3 hheap has
  replace h3 : Sim X n g (rngIn st t' t3 r s) [] a2 (w.iter s 0) := h3
  generalize w.iter s 0 = w2 at h3 hheap has ⊢
  clear hsim h1 h2 ha2 hv hv2
  have hbx3 : ∀ b, get (rngIn st t' t3 r s).b b = none := fun b => by show get st.b b = none; rw [hbx]; rfl
  obtain ⟨s0, hw0, hI0⟩ := start (X.here g w2 r h3 has) r rfl rfl rfl
  obtain ⟨g0, h4⟩ := hw0 _ _ _ (h3.here has hbx3)
  obtain ⟨_, h5, has5⟩ := h3.there has h4 (hnc _ _ _ hheap)
  refine wp_block (wp_loop_ghost (fun k a w => ∃ p s1 g1, I r p s1 ∧ k = s.size - p ∧ Sim X n g1 s1 [] a w ∧ w.heap[r]? = some (.stringIter s p) ∧ Aside X g1 w r) s.size ⟨0, s0, g0, hI0, rfl, h5, hheap, has5⟩ ?_)
  clear h3 h4 h5 has5 hI0 hw0 hheap has hbx3
  rintro k a w ⟨p, s1, g1, hI, rfl, h, hh, has⟩
  obtain ⟨hb1, ht1⟩ := keep r p s1 hI
  have hev : a.eval (.tmp t3) = .pointer (some ⟨r, 0, none⟩) := by
    have := h.slots t3 _ ht1
    simp only [itV, SlotOK, CelOK] at this
    exact this.1
  refine wp_seq (wp_region ?_)
  show wpOps P #[o3, o4] _ [0, 1] a w
  rw [wpOps_cons]
  refine wpOp_plain (o := o3) rfl g3 ?_
  by_cases hp : p < s.size
  · refine step_value (v := .tuple #[.bool true, .int .i64 p, .int .i32 (Utf8.decode s p).1]) (w' := { w with heap := w.heap.setIfInBounds r (.stringIter s (p + (Utf8.decode s p).2)) }) (by simp [execOp, p3, hev, run_next_some _ hh hp]) ?_
    have hsz : ({ w with heap := w.heap.setIfInBounds r (.stringIter s (p + (Utf8.decode s p).2)) } : World).heap.size = w.heap.size := by simp
    have hne : ∀ b, b ≠ r → ({ w with heap := w.heap.setIfInBounds r (.stringIter s (p + (Utf8.decode s p).2)) } : World).heap[b]? = w.heap[b]? := fun b hb => by
      simp only [Array.getElem?_setIfInBounds]
      rw [if_neg (fun e => hb e.symm)]
    have heq : ({ w with heap := w.heap.setIfInBounds r (.stringIter s (p + (Utf8.decode s p).2)) } : World).heap[r]? = some (.stringIter s (p + (Utf8.decode s p).2)) := by
      simp only [Array.getElem?_setIfInBounds]
      simp [has.lt]
    have h6 := h.turn (w' := { w with heap := w.heap.setIfInBounds r (.stringIter s (p + (Utf8.decode s p).2)) }) (r := r) rfl rfl rfl hsz hne has.new has.ns (fun k => by simp only [cntL, Nat.add_zero]; exact has.nz k)
    generalize ({ w with heap := w.heap.setIfInBounds r (.stringIter s (p + (Utf8.decode s p).2)) } : World) = w3 at hsz hne heq h6
    have has6 : Aside X g1 w3 r := ⟨has.new, by rw [hsz]; exact has.lt, has.ns, has.nz⟩
    have h7 := h6.slot (v := .tup [.one (.pv (.bool true)), .one (.pv (.int .i64 p)), .one (.pv (.int .i32 (Utf8.decode s p).1))]) (u := .tuple #[.bool true, .int .i64 p, .int .i32 (Utf8.decode s p).1]) htc (by
      rw [SlotOK]
      refine ⟨[.bool true, .int .i64 p, .int .i32 (Utf8.decode s p).1], rfl, ?_⟩
      simp only [SlotsOK, and_true]
      exact ⟨slotPv rfl, slotPv rfl, slotPv rfl⟩)
    rw [d3, wpOps_cons]
    refine wpOp_plain (o := o4) rfl g4 ?_
    refine step_value (v := .bool true) (w' := w3) ?_ ?_
    · have e : (a.put (some t4) (.tuple #[.bool true, .int .i64 p, .int .i32 (Utf8.decode s p).1])).eval (.tmp t4) = .tuple #[.bool true, .int .i64 p, .int .i32 (Utf8.decode s p).1] := by
        have := h7.tmps
        simp [Act.put] at this
        simp [Act.eval, Act.put, Array.getD_eq_getD_getElem?, this, htc]
      simp [execOp, p4, e, Instr.extract]
    have h8 := h7.slot (v := .one (.pv (.bool true))) (u := .bool true) htd (slotPv rfl)
    rw [d4]
    generalize ha3 : ((a.put (some t4) (.tuple #[.bool true, .int .i64 p, .int .i32 (Utf8.decode s p).1])).put (some td) (.bool true)) = a3 at h8
    have hbx8 : ∀ b, get (rngOn s1 t4 td p (Utf8.decode s p).1).b b = none := fun b => by show get s1.b b = none; rw [hb1]; rfl
    show Code.wp P (Code.seq _ body) _ a3 w3
    have hc : a3.eval (.tmp td) = .bool true := by
      have := h8.slots td (.one (.pv (.bool true))) (by simp [put, get])
      simp only [SlotOK, CelOK] at this
      exact this.1
    refine wp_seq (wp_cond_true hc (wp_skip ?_))
    show Code.wp P body _ a3 w3
    refine wp_mono (round (X.here g1 w3 r h8 has6) r p s1 rfl rfl rfl hI hp g1 a3 w3 (h8.here has6 hbx8)) fun e a' w' hq => ?_
    obtain ⟨ex, g', st', q1, q2, q3⟩ := hq
    cases e <;> cases ex <;> simp only [exOf] at q1
    · obtain ⟨s'', q4, q5⟩ := q2
      obtain ⟨g'', q6⟩ := q4 _ _ _ q3
      obtain ⟨q7, q8, q9⟩ := h8.there has6 q6 (hnc _ _ _ heq)
      have := decode_wide s p
      exact ⟨_, by omega, p + (Utf8.decode s p).2, s'', g'', q5, rfl, q8, by rw [q7]; exact heq, q9⟩
    · subst q1
      rename_i i
      obtain ⟨_, q8, _⟩ := h8.there has6 q3 (hnc _ _ _ heq)
      by_cases e : i = B
      · subst e
        simp only [Then, InBlock, if_true] at q2
        show Exit.inBlock i _ (.exit i) a' w'
        simp only [Exit.inBlock, if_true]
        exact ⟨.nrm, g', st', trivial, q2, q8⟩
      · simp only [Then, InBlock, if_neg e] at q2
        show Exit.inBlock B _ (.exit i) a' w'
        simp only [Exit.inBlock, if_neg e]
        exact ⟨.exit i, g', st', rfl, q2, q8⟩
    · obtain ⟨_, q8, _⟩ := h8.there has6 q3 (hnc _ _ _ heq)
      exact ⟨.ret, g', st', trivial, q2, q8⟩
  · refine step_value (v := .tuple #[.bool false]) (w' := w) (by simp [execOp, p3, hev, run_next_over _ hh hp]) ?_
    have h7 := h.slot (v := .tup [.one (.pv (.bool false))]) (u := .tuple #[.bool false]) htc (by
      rw [SlotOK]
      refine ⟨[.bool false], rfl, ?_⟩
      simp only [SlotsOK, and_true]
      exact slotPv rfl)
    rw [d3, wpOps_cons]
    refine wpOp_plain (o := o4) rfl g4 ?_
    refine step_value (v := .bool false) (w' := w) ?_ ?_
    · have e : (a.put (some t4) (.tuple #[.bool false])).eval (.tmp t4) = .tuple #[.bool false] := by
        have := h7.tmps
        simp [Act.put] at this
        simp [Act.eval, Act.put, Array.getD_eq_getD_getElem?, this, htc]
      simp [execOp, p4, e, Instr.extract]
    have h8 := h7.slot (v := .one (.pv (.bool false))) (u := .bool false) htd (slotPv rfl)
    rw [d4]
    generalize ((a.put (some t4) (.tuple #[.bool false])).put (some td) (.bool false)) = a3 at h8
    show Code.wp P (Code.seq _ body) _ a3 w
    have hc : a3.eval (.tmp td) = .bool false := by
      have := h8.slots td (.one (.pv (.bool false))) (by simp [put, get])
      simp only [SlotOK, CelOK] at this
      exact this.1
    refine wp_seq (wp_cond_false hc (wp_exit ?_))
    show Exit.inBlock B _ (.exit B) a3 w
    simp only [Exit.inBlock, if_true]
    exact ⟨.nrm, g1, _, trivial, over r p s1 hI (by omega), h8⟩
end
end Go.X

/- Code as a tree of small steps, and what is so behind it. -/
namespace Go.X
inductive XCode where
  | skip
  | reg (os : List GOp)
  | draw (os : List GOp) (es : List (List Nat))
  | seq (a b : XCode)
  | cond (t : Nat) (a b : XCode)
  | block (id : Nat) (a : XCode)
  | loop (ks : List Nat) (a : XCode)
  | norm (ks : List Nat) (a : XCode)
  | up (b off r : Nat) (a : XCode)
  | exit (id : Nat)
  | ret
  | rng (B src ta tb tc td : Nat) (ks : List Nat) (a : XCode)
def XCode.q (os : List GOp) (a : XCode) : XCode := .seq (.reg os) a
def XCode.c (t : Nat) (a : XCode) : XCode := .cond t a .skip
abbrev Post := Ex → St → Prop
/-- An empty slice without memory, in a box: it may be seen as one of the call's own. -/
def upC (c : Cel) (f : Nat → Prop) : Prop := match c with
  | .nils z => f z
  | _ => False
def upS (st : St) (b off r z : Nat) (cs : List Cel) : St := { st with b := rep st.b b (cs.take off ++ [.rf r 0 [] z 0 0] ++ cs.drop (off + 1)), r := rep st.r r [.sl true z () []] }
def upQ (st : St) (b off r : Nat) (f : St → Prop) : Prop := match get st.b b with
  | some cs => match cs[off]? with
    | some c => upC c fun z => match get st.r r with
      | none => f (upS st b off r z cs)
      | some _ => False
    | none => False
  | none => False
/-- na: how many arguments; base: the first free name. -/
def runC (Te : Nat → List AV → Res → Prop) (na base : Nat) : XCode → St → Post → Prop
  | .skip, st, Q => Q .nrm st
  | .reg os, st, Q => runOps Te os st (Q .nrm)
  | .draw os es, st, Q => runDraw Te os st [] (fun st' l => drawOk es l = true ∧ Q .nrm st')
  | .seq a b, st, Q => runC Te na base a st (Then (fun st' => runC Te na base b st' Q) Q)
  | .cond t a b, st, Q => match get st.s t with
    | some (.one (.pv (.bool c))) => (c = true → runC Te na base a st Q) ∧ (c = false → runC Te na base b st Q)
    | _ => False
  | .block id a, st, Q => runC Te na base a st (InBlock id Q)
  | .loop ks a, st, Q => ∃ (I : Nat → St → Prop) (m : Nat), I m (norm na base ks st) ∧ ∀ k s, I k s → runC Te na base a s (Then (fun s' => ∃ k', k' < k ∧ I k' (norm na base ks s')) Q)
  | .norm ks a, st, Q => runC Te na base a (norm na base ks st) Q
  | .up b off r a, st, Q => upQ st b off r fun st' => runC Te na base a st' Q
  | .exit id, st, Q => Q (.exit id) st
  | .ret, st, Q => Q .ret st
  | .rng B src ta tb tc td ks a, st, Q => match get st.s src with
    | some (.one (.pv (.string s))) => st.b = [] ∧ ∃ I : Nat → Nat → St → Prop, (∀ r, I r 0 (norm na base ks (rngIn st ta tb r s))) ∧ (∀ r p s1, I r p s1 → s1.b = [] ∧ get s1.s tb = some (itV r)) ∧
        (∀ r p s1, I r p s1 → p < s.size → runC Te na base a (rngOn s1 tc td p (Utf8.decode s p).1) (Then (fun s' => I r (p + (Utf8.decode s p).2) (norm na base ks s')) (InBlock B Q))) ∧ (∀ r p s1, I r p s1 → s.size ≤ p → Q .nrm (rngOff s1 tc td))
    | _ => False
def codeOk (P : Program) (n : Nat) : Code → XCode → Bool
  | c, .norm _ x => codeOk P n c x
  | c, .up _ _ _ x => codeOk P n c x
  | .seq (.region _ opsA false) (.block b (.loop (.seq (.region _ opsB false) (.seq (.cond (.tmp t) .skip (.exit b')) body)))), .rng B src ta tb tc td _ x => b == B && b' == B && t == td && rngA P n src ta tb opsA.toList && rngB n tb tc td opsB.toList && codeOk P n body x
  | .skip, .skip => true
  | .region _ ops false, .reg os => regL P n ops ops.toList os
  | .region _ ops true, .draw os es => regL P n ops ops.toList os && edgesOf ops == es
  | .seq a b, .seq x y => codeOk P n a x && codeOk P n b y
  | .cond (.tmp t) a b, .cond t' x y => t == t' && codeOk P n a x && codeOk P n b y
  | .block i a, .block j x => i == j && codeOk P n a x
  | .loop a, .loop _ x => codeOk P n a x
  | .exit i, .exit j => i == j
  | .ret, .ret => true
  | _, _ => false
section
variable {P : Program} {X : Ctx} {n na base : Nat}
theorem weak_norm (hX : NA X na) (hb : na ≤ base) (ks : List Nat) (st : St) : Weak X n st (norm na base ks st) := fun _ _ _ h => norm_ok ks hX hb h
theorem weak_up {st : St} {b off r z : Nat} {cs : List Cel} (hb : get st.b b = some cs) (hc : cs[off]? = some (.nils z)) (hr : get st.r r = none) : Weak X n st (upS st b off r z cs) := fun g a w h => by
  have h2 := Sim.newRoot (us := [.sl true z (.slice none 0 0) []]) (hand := []) (h.more .nil (fun b => by simp [cnt, Go.X.hb, cntLL])) hr
  obtain ⟨A, us, hA, _, hM, hC, _⟩ := h2.boxes b cs hb
  have hl := (List.getElem?_eq_some_iff.1 hc).1
  have hu : us[off]? = some (us[off]'(by rw [← hC.1]; exact hl)) := List.getElem?_eq_getElem _
  have hv := hC.2 off _ _ hc hu
  simp only [CelOK] at hv
  have hcel := celOf_ok (X := X) (w := w) (g := g.setR r [.sl true z (.slice none 0 0) []]) (r := r) (c := 0) (p := []) (t := .sl true z (.slice none 0 0) []) .nil (by rw [setR_same]; simp) (fun m hm _ => by simp [nodeAt, setR_same, atP] at hm; exact hm.symm)
  have h3 := h2.recel (b := b) (off := off) (pl := [.rf r 0 [] z 0 0]) (vs := [.slice none 0 0]) hb hA (by simp only [List.length_cons, List.length_nil]; exact hl) ⟨rfl, fun k c u hk hk' => by
    cases k with
    | zero =>
      simp at hk hk'
      subst hk; subst hk'
      simpa [er, erLL, celOf, hdr] using hcel
    | succ k => simp at hk⟩ (fun k u hk => by
    cases k with
    | zero =>
      simp at hk
      subst hk
      have := hM off _ hu
      rw [hv] at this
      simpa using this
    | succ k => simp at hk)
  exact ⟨_, by simpa [upS, er, erLL] using h3⟩
theorem runC_ok {X : Ctx} (hm : P.follows .mixedOrders = true) (hX : NA X na) (hb0 : na ≤ base) : ∀ (x : XCode) (c : Code) {st : St} {Q : Post}, codeOk P n c x = true → runC (Tells P X.KP) na base x st Q → xC P X n c st Q
  | .norm ks x, c, st, Q, hk, h => x_weak (weak_norm hX hb0 ks st) (runC_ok hm hX hb0 x c (by cases c <;> simpa [codeOk] using hk) h)
  | .up b off r x, c, st, Q, hk, h => by
    have hk' : codeOk P n c x = true := by cases c <;> simpa [codeOk] using hk
    simp only [runC, upQ] at h
    split at h
    · rename_i cs hb
      split at h
      · rename_i c0 hc
        cases c0 with
        | nils z =>
          simp only [upC] at h
          split at h
          · rename_i hr
            exact x_weak (weak_up hb hc hr) (runC_ok hm hX hb0 x c hk' h)
          · exact h.elim
        | _ => exact h.elim
      · exact h.elim
    · exact h.elim
  | .skip, c, st, Q, hk, h => by
    cases c <;> simp [codeOk] at hk
    exact x_skip h
  | .reg os, c, st, Q, hk, h => by
    cases c <;> try (simp [codeOk] at hk; done)
    rename_i id ops d
    cases d <;> simp only [codeOk] at hk
    · exact x_region hk h
    · cases hk
  | .draw os es, c, st, Q, hk, h => by
    cases c <;> try (simp [codeOk] at hk; done)
    rename_i id ops d
    cases d <;> simp only [codeOk, Bool.and_eq_true, beq_iff_eq] at hk
    · cases hk
    · exact x_draw hm hk.1 hk.2 h
  | .seq x y, c, st, Q, hk, h => by
    cases c <;> simp [codeOk] at hk
    exact x_seq (x_mono (runC_ok hm hX hb0 x _ hk.1 h) (fun e s hq => by
      cases e with
      | nrm => exact runC_ok hm hX hb0 y _ hk.2 hq
      | _ => exact hq))
  | .cond t x y, c, st, Q, hk, h => by
    cases c <;> try (simp [codeOk] at hk; done)
    rename_i o a b
    cases o <;> simp [codeOk] at hk
    obtain ⟨⟨rfl, h1⟩, h2⟩ := hk
    simp only [runC] at h
    split at h
    · rename_i b' hg
      exact x_cond hg (fun e => runC_ok hm hX hb0 x _ h1 (h.1 e)) (fun e => runC_ok hm hX hb0 y _ h2 (h.2 e))
    · exact h.elim
  | .block id x, c, st, Q, hk, h => by
    cases c <;> simp [codeOk] at hk
    obtain ⟨rfl, hk⟩ := hk
    exact x_block (runC_ok hm hX hb0 x _ hk h)
  | .loop ks x, c, st, Q, hk, h => by
    cases c <;> simp [codeOk] at hk
    obtain ⟨I, m, h0, hr⟩ := h
    refine x_loop I m (weak_norm hX hb0 ks st) h0 (fun k s hI => x_mono (runC_ok hm hX hb0 x _ hk (hr k s hI)) (fun e s' hq => ?_))
    cases e with
    | nrm =>
      obtain ⟨k', h1, h2⟩ := hq
      exact ⟨_, k', weak_norm hX hb0 ks s', h1, h2⟩
    | _ => exact hq
  | .exit id, c, st, Q, hk, h => by
    cases c <;> simp [codeOk] at hk
    obtain rfl := hk
    exact x_exit h
  | .ret, c, st, Q, hk, h => by
    cases c <;> simp [codeOk] at hk
    exact x_ret h
  | .rng B src ta tb tc td ks x, c, st, Q, hk, h => by
    unfold codeOk at hk
    split at hk
    case h_3 e1 e2 =>
      cases e2
      simp only [Bool.and_eq_true, beq_iff_eq] at hk
      obtain ⟨⟨⟨⟨⟨rfl, rfl⟩, rfl⟩, hA⟩, hB⟩, hk⟩ := hk
      simp only [runC] at h
      split at h
      · rename_i s hs
        obtain ⟨hb, I, i0, i1, i2, i3⟩ := h
        exact x_rng hA hB hs hb I (fun X' r e1 e2 e3 => ⟨_, weak_norm (fun i hi => by rw [e2, e3]; exact hX i hi) hb0 ks _, i0 r⟩) i1
          (fun X' r p s1 e1 e2 e3 hI hp => x_mono (runC_ok hm (fun i hi => by rw [e2, e3]; exact hX i hi) hb0 x _ hk (by rw [e1]; exact i2 r p s1 hI hp)) (fun ex s' hq => by
            cases ex with
            | nrm => exact ⟨_, weak_norm (fun i hi => by rw [e2, e3]; exact hX i hi) hb0 ks s', hq⟩
            | _ => exact hq)) i3
      · exact h.elim
    all_goals first | (cases hk; done) | (rename_i e; cases e; done)
end
/-- What a function is, for its contract. -/
structure FnX where
  n : Nat
  rs : List RV
  code : XCode
def fnOk (P : Program) (f : Nat) (x : FnX) : Bool :=
  match P.funcs[f]? with
  | some fn => fn.ntmps == x.n && decide (f < VN) && rvsOk P fn.results.toList x.rs && (match fn.body with
    | some c => codeOk P x.n c x.code
    | none => false)
  | none => false
def EndFn (Te : Nat → List AV → Res → Prop) (as : List AV) (rs : List RV) (r0 : Res) : Post := fun ex st => (ex = .nrm ∨ ex = .ret) ∧ runP Te (leaveP as rs) st (fun r _ => r = r0)
def RunFn (Te : Nat → List AV → Res → Prop) (x : FnX) (as : List AV) (r0 : Res) : Prop :=
  as.length ≤ x.n ∧ runC Te as.length (x.n + as.length) x.code (enterSt as) (EndFn Te as x.rs r0)
abbrev TE := Nat → List AV → Res → Prop
abbrev RF (Te : TE) (x : FnX) : TE := fun _ as r => RunFn Te x as r
theorem run0 {Te : TE} {x : FnX} {as : List AV} {r0 : Res} (h : runC Te as.length (x.n + as.length) x.code (enterSt as) (EndFn Te as x.rs r0)) (h0 : as.length ≤ x.n := by exact Nat.le_of_ble_eq_true rfl) : RunFn Te x as r0 := ⟨h0, h⟩
theorem tells {P : Program} {KP : Kept} {f : Nat} {x : FnX} {as : List AV} {r0 : Res} (hm : P.follows .mixedOrders = true) (hf : fnOk P f x = true) (h : RunFn (Tells P KP) x as r0) : Tells P KP f as r0 := by
  unfold fnOk at hf
  split at hf
  · rename_i fn hfn
    simp only [Bool.and_eq_true, beq_iff_eq, decide_eq_true_eq] at hf
    obtain ⟨⟨⟨h1, h0⟩, h2⟩, h3⟩ := hf
    split at h3
    · rename_i c hc
      rw [← h1] at h3
      obtain ⟨h4, h5⟩ := h
      rw [tells_small h0]
      refine TellsW.of hfn hc (by omega) (.inl rfl) h2 fun X eX hX => by subst eX; exact runC_ok hm hX (by omega) _ _ h3 h5
    · cases h3
  · cases hf
def lastPtr : List AV → Bool
  | [] => false
  | [.ptr _] => true
  | _ :: xs => lastPtr xs
theorem lastPtr_ok : ∀ {as : List AV}, lastPtr as = true → ∃ xs ts, as = xs ++ [.ptr ts]
  | [], h => by cases h
  | [.ptr ts], _ => ⟨[], ts, rfl⟩
  | [.one _], h => by cases h
  | [.agg _], h => by cases h
  | x :: y :: xs, h => by
    obtain ⟨zs, ts, e⟩ := lastPtr_ok (as := y :: xs) (by cases x <;> exact h)
    exact ⟨x :: zs, ts, by rw [e]; rfl⟩
/-- A function whose last argument is a function value (of k, over one variable). -/
def RunFnV (Te : Nat → List AV → Res → Prop) (k : Nat) (x : FnX) (as : List AV) (r0 : Res) : Prop :=
  (as.length ≤ x.n ∧ lastPtr as = true) ∧ runC Te as.length (x.n + as.length) x.code (enterV (k + 1) as) (EndFn Te as x.rs r0)
abbrev RFV (Te : TE) (k : Nat) (x : FnX) : TE := fun _ as r => RunFnV Te k x as r
theorem run0V {Te : TE} {k : Nat} {x : FnX} {as : List AV} {r0 : Res} (h : runC Te as.length (x.n + as.length) x.code (enterV (k + 1) as) (EndFn Te as x.rs r0)) (h0 : as.length ≤ x.n := by exact Nat.le_of_ble_eq_true rfl) (h1 : lastPtr as = true := by exact rfl) : RunFnV Te k x as r0 := ⟨⟨h0, h1⟩, h⟩
theorem enterV_eq {k : Nat} {as : List AV} : enterV (k + 1) as = ⟨put (enterS 0 as) (as.length - 1) (.fn k (as.length - 1) 0), enterB 0 as, enterR 0 as⟩ := rfl
theorem tellsV {P : Program} {KP : Kept} {f k F : Nat} {x : FnX} {as : List AV} {r0 : Res} (hm : P.follows .mixedOrders = true) (hf : fnOk P f x = true) (hF : F = f + VN * (k + 1)) (h : RunFnV (Tells P KP) k x as r0) : Tells P KP F as r0 := by
  unfold fnOk at hf
  split at hf
  · rename_i fn hfn
    simp only [Bool.and_eq_true, beq_iff_eq, decide_eq_true_eq] at hf
    obtain ⟨⟨⟨h1, h0⟩, h2⟩, h3⟩ := hf
    split at h3
    · rename_i c hc
      rw [← h1] at h3
      obtain ⟨⟨h4, h6⟩, h5⟩ := h
      rw [hF, tells_val h0]
      refine TellsW.of hfn hc (by omega) (.inr (lastPtr_ok h6)) h2 fun X eX hX => by subst eX; exact runC_ok hm hX (by omega) _ _ h3 h5
    · cases h3
  · cases hf
end Go.X

/- How the small steps are run by rewriting. -/
namespace Go.X
section
variable {α : Type} {Te : Nat → List AV → Res → Prop}
theorem bif_cases {c : Bool} {p q : Prg α} {st : St} {Q : α → St → Prop} (h1 : c = true → runP Te p st Q) (h2 : c = false → runP Te q st Q) : runP Te (bif c then p else q) st Q := by
  cases c
  · exact h2 rfl
  · exact h1 rfl
theorem bifL_cases {c : Bool} {p q : Prg α} {st : St} {rd wr : List Loc} {Q : α → St → List Loc → List Loc → Prop} (h1 : c = true → runL Te p st rd wr Q) (h2 : c = false → runL Te q st rd wr Q) : runL Te (bif c then p else q) st rd wr Q := by
  cases c
  · exact h2 rfl
  · exact h1 rfl
section
variable {s : List (Nat × SV)} {b : List (Nat × List Cel)} {r : List (Nat × List T)} {na base : Nat} {Q : Post}
theorem C_skip : runC Te na base .skip ⟨s, b, r⟩ Q = Q .nrm ⟨s, b, r⟩ := rfl
theorem C_reg {os : List GOp} : runC Te na base (.reg os) ⟨s, b, r⟩ Q = runOps Te os ⟨s, b, r⟩ (Q .nrm) := rfl
theorem C_draw {os : List GOp} {es : List (List Nat)} : runC Te na base (.draw os es) ⟨s, b, r⟩ Q = runDraw Te os ⟨s, b, r⟩ [] (fun st' l => drawOk es l = true ∧ Q .nrm st') := rfl
theorem C_seq {x y : XCode} : runC Te na base (.seq x y) ⟨s, b, r⟩ Q = runC Te na base x ⟨s, b, r⟩ (Then (fun st' => runC Te na base y st' Q) Q) := rfl
theorem C_block {i : Nat} {x : XCode} : runC Te na base (.block i x) ⟨s, b, r⟩ Q = runC Te na base x ⟨s, b, r⟩ (InBlock i Q) := rfl
theorem C_norm {ks : List Nat} {x : XCode} : runC Te na base (.norm ks x) ⟨s, b, r⟩ Q = runC Te na base x (norm na base ks ⟨s, b, r⟩) Q := rfl
theorem C_exit {i : Nat} : runC Te na base (.exit i) ⟨s, b, r⟩ Q = Q (.exit i) ⟨s, b, r⟩ := rfl
theorem C_ret : runC Te na base .ret ⟨s, b, r⟩ Q = Q .ret ⟨s, b, r⟩ := rfl
def condC (v : Option SV) (p q : Prop) : Prop := match v with
  | some (.one (.pv (.bool c))) => (c = true → p) ∧ (c = false → q)
  | _ => False
theorem C_cond {t : Nat} {x y : XCode} : runC Te na base (.cond t x y) ⟨s, b, r⟩ Q = condC (get s t) (runC Te na base x ⟨s, b, r⟩ Q) (runC Te na base y ⟨s, b, r⟩ Q) := rfl
theorem C_c {t : Nat} {x : XCode} : runC Te na base (.c t x) ⟨s, b, r⟩ Q = condC (get s t) (runC Te na base x ⟨s, b, r⟩ Q) (Q .nrm ⟨s, b, r⟩) := rfl
theorem C_q {os : List GOp} {x : XCode} : runC Te na base (.q os x) ⟨s, b, r⟩ Q = runOps Te os ⟨s, b, r⟩ (fun st' => runC Te na base x st' Q) := rfl
theorem condC_some {c : Bool} {p q : Prop} : condC (some (.one (.pv (.bool c)))) p q = ((c = true → p) ∧ (c = false → q)) := rfl
theorem T_nrm {K : St → Prop} : Then K Q .nrm ⟨s, b, r⟩ = K ⟨s, b, r⟩ := rfl
theorem T_ret {K : St → Prop} : Then K Q .ret ⟨s, b, r⟩ = Q .ret ⟨s, b, r⟩ := rfl
theorem T_exit {K : St → Prop} {i : Nat} : Then K Q (.exit i) ⟨s, b, r⟩ = Q (.exit i) ⟨s, b, r⟩ := rfl
theorem B_nrm {i : Nat} : InBlock i Q .nrm ⟨s, b, r⟩ = Q .nrm ⟨s, b, r⟩ := rfl
theorem B_ret {i : Nat} : InBlock i Q .ret ⟨s, b, r⟩ = Q .ret ⟨s, b, r⟩ := rfl
theorem B_exit {i : Nat} : InBlock i Q (.exit i) ⟨s, b, r⟩ = Q .nrm ⟨s, b, r⟩ := if_pos rfl
theorem B_out {i j : Nat} (h : (j == i) = false) : InBlock i Q (.exit j) ⟨s, b, r⟩ = Q (.exit j) ⟨s, b, r⟩ := if_neg (by simpa using h)
theorem E_nrm {as : List AV} {rs : List RV} {r0 : Res} : EndFn Te as rs r0 .nrm ⟨s, b, r⟩ = runP Te (leaveP as rs) ⟨s, b, r⟩ (fun r _ => r = r0) := by simp [EndFn]
theorem E_ret {as : List AV} {rs : List RV} {r0 : Res} : EndFn Te as rs r0 .ret ⟨s, b, r⟩ = runP Te (leaveP as rs) ⟨s, b, r⟩ (fun r _ => r = r0) := by simp [EndFn]
theorem O_nil {K : St → Prop} : runOps Te [] ⟨s, b, r⟩ K = K ⟨s, b, r⟩ := rfl
theorem O_cons {o : GOp} {os : List GOp} {K : St → Prop} : runOps Te (o :: os) ⟨s, b, r⟩ K = runP Te o.prg ⟨s, b, r⟩ (fun _ st' => runOps Te os st' K) := rfl
theorem D_nil {l : List Log} {K : St → List Log → Prop} : runDraw Te [] ⟨s, b, r⟩ l K = K ⟨s, b, r⟩ l := rfl
theorem D_cons {o : GOp} {os : List GOp} {l : List Log} {K : St → List Log → Prop} : runDraw Te (o :: os) ⟨s, b, r⟩ l K = runL Te o.prg ⟨s, b, r⟩ [] [] (fun _ st' rd wr => runDraw Te os st' (l ++ [(rd, wr)]) K) := rfl
end
section
variable {s : List (Nat × SV)} {b : List (Nat × List Cel)} {r : List (Nat × List T)} {Q : α → St → Prop}
def onSome {β γ : Type} (d : γ) (v : Option β) (f : β → γ) : γ := match v with | some x => f x | none => d
def onNone {β γ : Type} (d : γ) (v : Option β) (f : γ) : γ := match v with | some _ => d | none => f
theorem onSome_some {β γ : Type} {d : γ} {x : β} {f : β → γ} : onSome d (some x) f = f x := rfl
theorem onNone_none {β γ : Type} {d : γ} {f : γ} : onNone d (none : Option β) f = f := rfl
theorem C_up {na base x o i : Nat} {a : XCode} {Q : Post} : runC Te na base (.up x o i a) ⟨s, b, r⟩ Q = onSome False (get b x) fun cs => onSome False (cs[o]?) fun c => upC c fun z => onNone False (get r i) (runC Te na base a ⟨s, rep b x (cs.take o ++ [.rf i 0 [] z 0 0] ++ cs.drop (o + 1)), rep r i [.sl true z () []]⟩ Q) := by
  simp only [runC, upQ, onSome, onNone]
  cases get b x with
  | none => rfl
  | some cs =>
    simp only
    cases cs[o]? with
    | none => rfl
    | some c =>
      simp only
      cases c <;> simp only [upC]
      cases get r i <;> rfl
theorem upC_nils {z : Nat} {f : Nat → Prop} : upC (.nils z) f = f z := rfl
theorem P_done {x : α} : runP Te (.done x) ⟨s, b, r⟩ Q = Q x ⟨s, b, r⟩ := rfl
theorem P_gs {t : Nat} {k : SV → Prg α} : runP Te (.gs t k) ⟨s, b, r⟩ Q = runP Te (k ((get s t).getD .un)) ⟨s, b, r⟩ Q := rfl
theorem P_ss {t : Nat} {v : SV} {k : Prg α} : runP Te (.ss t v k) ⟨s, b, r⟩ Q = runP Te k ⟨put s t v, b, r⟩ Q := rfl
theorem P_gb {t : Nat} {k : List Cel → Prg α} : runP Te (.gb t k) ⟨s, b, r⟩ Q = onSome False (get b t) (fun cs => runP Te (k cs) ⟨s, b, r⟩ Q) := by simp only [runP, onSome, onNone]; cases get b t <;> rfl
theorem P_sb {t : Nat} {v : List Cel} {k : Prg α} : runP Te (.sb t v k) ⟨s, b, r⟩ Q = onSome False (get b t) (fun _ => runP Te k ⟨s, rep b t v, r⟩ Q) := by simp only [runP, onSome, onNone]; cases get b t <;> rfl
theorem P_nb {t : Nat} {v : List Cel} {k : Prg α} : runP Te (.nb t v k) ⟨s, b, r⟩ Q = onNone False (get b t) (runP Te k ⟨s, rep b t v, r⟩ Q) := by simp only [runP, onSome, onNone]; cases get b t <;> rfl
theorem P_gr {t : Nat} {k : List T → Prg α} : runP Te (.gr t k) ⟨s, b, r⟩ Q = onSome False (get r t) (fun cs => runP Te (k cs) ⟨s, b, r⟩ Q) := by simp only [runP, onSome, onNone]; cases get r t <;> rfl
theorem P_sr {t : Nat} {v : List T} {k : Prg α} : runP Te (.sr t v k) ⟨s, b, r⟩ Q = onSome False (get r t) (fun _ => runP Te k ⟨s, b, rep r t v⟩ Q) := by simp only [runP, onSome, onNone]; cases get r t <;> rfl
theorem P_nr {t : Nat} {v : List T} {k : Prg α} : runP Te (.nr t v k) ⟨s, b, r⟩ Q = onNone False (get r t) (runP Te k ⟨s, b, rep r t v⟩ Q) := by simp only [runP, onSome, onNone]; cases get r t <;> rfl
theorem P_chk {c : Bool} {k : Prg α} : runP Te (.chk c k) ⟨s, b, r⟩ Q = (c = true ∧ runP Te k ⟨s, b, r⟩ Q) := rfl
theorem P_ov {o : Option Value} {k : Value → Prg α} : runP Te (.ov o k) ⟨s, b, r⟩ Q = onSome False o (fun v => runP Te (k v) ⟨s, b, r⟩ Q) := by cases o <;> rfl
def CallP (Te : Nat → List AV → Res → Prop) (f : Nat) (as : List AV) (k : Res → Prg α) (st : St) (Q : α → St → Prop) : Prop := ∃ x, Te f as x ∧ runP Te (k x) st Q
theorem P_call {f : Nat} {as : List AV} {k : Res → Prg α} : runP Te (.call f as k) ⟨s, b, r⟩ Q = CallP Te f as k ⟨s, b, r⟩ Q := rfl
theorem CallP.of {f : Nat} {as : List AV} {k : Res → Prg α} {st : St} {x : Res} (h : Te f as x) (hk : runP Te (k x) st Q) : CallP Te f as k st Q := ⟨x, h, hk⟩
theorem P_all {c : St → Bool} {k : Prg α} (h : c ⟨s, b, r⟩ = true) : runP Te (.all c k) ⟨s, b, r⟩ Q = runP Te k ⟨s, b, r⟩ Q := propext ⟨fun h => h.2, fun q => ⟨⟨_, fun _ => rfl, fun _ => rfl, h⟩, q⟩⟩
theorem P_flat {f : Bool} {c : St → Bool} {k : Prg α} (h : c ⟨s, b, r⟩ = true) : runP Te (bif f then k else .all c k) ⟨s, b, r⟩ Q = runP Te k ⟨s, b, r⟩ Q := by
  cases f
  · exact P_all h
  · rfl
end
section
variable {s : List (Nat × SV)} {b : List (Nat × List Cel)} {r : List (Nat × List T)} {rd wr : List Loc} {Q : α → St → List Loc → List Loc → Prop}
theorem L_done {x : α} : runL Te (.done x) ⟨s, b, r⟩ rd wr Q = Q x ⟨s, b, r⟩ rd wr := rfl
theorem L_gs {t : Nat} {k : SV → Prg α} : runL Te (.gs t k) ⟨s, b, r⟩ rd wr Q = runL Te (k ((get s t).getD .un)) ⟨s, b, r⟩ (.s t :: rd) wr Q := rfl
theorem L_ss {t : Nat} {v : SV} {k : Prg α} : runL Te (.ss t v k) ⟨s, b, r⟩ rd wr Q = runL Te k ⟨put s t v, b, r⟩ rd (.s t :: wr) Q := rfl
theorem L_gb {t : Nat} {k : List Cel → Prg α} : runL Te (.gb t k) ⟨s, b, r⟩ rd wr Q = onSome False (get b t) (fun cs => runL Te (k cs) ⟨s, b, r⟩ (.b t :: rd) wr Q) := by simp only [runL, onSome, onNone]; cases get b t <;> rfl
theorem L_sb {t : Nat} {v : List Cel} {k : Prg α} : runL Te (.sb t v k) ⟨s, b, r⟩ rd wr Q = onSome False (get b t) (fun _ => runL Te k ⟨s, rep b t v, r⟩ (.b t :: rd) (.b t :: wr) Q) := by simp only [runL, onSome, onNone]; cases get b t <;> rfl
theorem L_nb {t : Nat} {v : List Cel} {k : Prg α} : runL Te (.nb t v k) ⟨s, b, r⟩ rd wr Q = onNone False (get b t) (runL Te k ⟨s, rep b t v, r⟩ (.b t :: rd) (.b t :: wr) Q) := by simp only [runL, onSome, onNone]; cases get b t <;> rfl
theorem L_gr {t : Nat} {k : List T → Prg α} : runL Te (.gr t k) ⟨s, b, r⟩ rd wr Q = onSome False (get r t) (fun cs => runL Te (k cs) ⟨s, b, r⟩ (.r t :: rd) wr Q) := by simp only [runL, onSome, onNone]; cases get r t <;> rfl
theorem L_sr {t : Nat} {v : List T} {k : Prg α} : runL Te (.sr t v k) ⟨s, b, r⟩ rd wr Q = onSome False (get r t) (fun _ => runL Te k ⟨s, b, rep r t v⟩ (.r t :: rd) (.r t :: wr) Q) := by simp only [runL, onSome, onNone]; cases get r t <;> rfl
theorem L_nr {t : Nat} {v : List T} {k : Prg α} : runL Te (.nr t v k) ⟨s, b, r⟩ rd wr Q = onNone False (get r t) (runL Te k ⟨s, b, rep r t v⟩ (.r t :: rd) (.r t :: wr) Q) := by simp only [runL, onSome, onNone]; cases get r t <;> rfl
theorem L_chk {c : Bool} {k : Prg α} : runL Te (.chk c k) ⟨s, b, r⟩ rd wr Q = (c = true ∧ runL Te k ⟨s, b, r⟩ rd wr Q) := rfl
theorem L_ov {o : Option Value} {k : Value → Prg α} : runL Te (.ov o k) ⟨s, b, r⟩ rd wr Q = onSome False o (fun v => runL Te (k v) ⟨s, b, r⟩ rd wr Q) := by cases o <;> rfl
theorem L_all {c : St → Bool} {k : Prg α} (h : c ⟨s, b, r⟩ = true) : runL Te (.all c k) ⟨s, b, r⟩ rd wr Q = runL Te k ⟨s, b, r⟩ (.all :: rd) wr Q := propext ⟨fun h => h.2, fun q => ⟨⟨_, fun _ => rfl, fun _ => rfl, h⟩, q⟩⟩
def CallL (Te : Nat → List AV → Res → Prop) (f : Nat) (as : List AV) (k : Res → Prg α) (st : St) (rd wr : List Loc) (Q : α → St → List Loc → List Loc → Prop) : Prop := ∃ x, Te f as x ∧ runL Te (k x) st rd wr Q
theorem L_call {f : Nat} {as : List AV} {k : Res → Prg α} : runL Te (.call f as k) ⟨s, b, r⟩ rd wr Q = CallL Te f as k ⟨s, b, r⟩ rd wr Q := rfl
theorem CallL.of {f : Nat} {as : List AV} {k : Res → Prg α} {st : St} {x : Res} (h : Te f as x) (hk : runL Te (k x) st rd wr Q) : CallL Te f as k st rd wr Q := ⟨x, h, hk⟩
end
end
/-- A loop, told by what is the same in each round. -/
theorem loop_of {Te : Nat → List AV → Res → Prop} {σ : Type} (f : σ → St) (inv : σ → Prop) (μ : σ → Nat) (x0 : σ) {na base : Nat} {ks : List Nat} {x : XCode} {st : St} {Q : Post} (h0 : norm na base ks st = f x0) (h1 : inv x0)
    (hr : ∀ y, inv y → runC Te na base x (f y) (Then (fun s' => ∃ z, norm na base ks s' = f z ∧ inv z ∧ μ z < μ y) Q)) : runC Te na base (.loop ks x) st Q := by
  refine ⟨fun k s => ∃ y, s = f y ∧ inv y ∧ μ y = k, μ x0, ⟨x0, h0, h1, rfl⟩, ?_⟩
  rintro k s ⟨y, rfl, h2, rfl⟩
  have e : (Then (fun s' => ∃ z, norm na base ks s' = f z ∧ inv z ∧ μ z < μ y) Q) = Then (fun s' => ∃ k', k' < μ y ∧ ∃ z, norm na base ks s' = f z ∧ inv z ∧ μ z = k') Q := by
    funext ex s
    cases ex with
    | nrm => exact propext ⟨fun ⟨z, q1, q2, q3⟩ => ⟨_, q3, z, q1, q2, rfl⟩, fun ⟨_, q3, z, q1, q2, q4⟩ => ⟨z, q1, q2, by omega⟩⟩
    | _ => rfl
  have := hr y h2
  rw [e] at this
  exact this
/-- A range over a string, told by what is the same in each round. -/
theorem rng_of {Te : Nat → List AV → Res → Prop} {σ : Type} (s : ByteArray) (f : Nat → σ → St) (inv : Nat → σ → Prop) (x0 : σ) {na base B src ta tb tc td : Nat} {ks : List Nat} {x : XCode} {st : St} {Q : Post} (hs : get st.s src = some (.one (.pv (.string s)))) (hb : st.b = [])
    (h0 : ∀ r, norm na base ks (rngIn st ta tb r s) = f r x0) (h1 : inv 0 x0) (hf : ∀ r y, (f r y).b = [] ∧ get (f r y).s tb = some (itV r))
    (hr : ∀ r p y, inv p y → p < s.size → runC Te na base x (rngOn (f r y) tc td p (Utf8.decode s p).1) (Then (fun s' => ∃ z, norm na base ks s' = f r z ∧ inv (p + (Utf8.decode s p).2) z) (InBlock B Q)))
    (ho : ∀ r p y, inv p y → s.size ≤ p → Q .nrm (rngOff (f r y) tc td)) : runC Te na base (.rng B src ta tb tc td ks x) st Q := by
  unfold runC
  rw [hs]
  refine ⟨hb, fun r p s1 => ∃ y, s1 = f r y ∧ inv p y, fun r => ⟨x0, h0 r, h1⟩, ?_, ?_, ?_⟩
  · rintro r p s1 ⟨y, rfl, _⟩
    exact hf r y
  · rintro r p s1 ⟨y, rfl, hi⟩ hp
    have := hr r p y hi hp
    have e : (Then (fun s' => ∃ z, norm na base ks s' = f r z ∧ inv (p + (Utf8.decode s p).2) z) (InBlock B Q)) = Then (fun s' => ∃ y, norm na base ks s' = f r y ∧ inv (p + (Utf8.decode s p).2) y) (InBlock B Q) := rfl
    rw [e] at this
    exact this
  · rintro r p s1 ⟨y, rfl, hi⟩ hp
    exact ho r p y hi hp
theorem lentLL_map {α : Type} (f : α → List T) : ∀ l : List α, lentLL (l.map f) = l.map fun x => lentL (f x)
  | [] => rfl
  | x :: l => by simp only [List.map_cons, lentLL, lentLL_map f l]
theorem wholeLL_map {α : Type} (f : α → List T) : ∀ l : List α, wholeLL (l.map f) = l.all fun x => wholeL (f x)
  | [] => rfl
  | x :: l => by simp only [List.map_cons, wholeLL, wholeLL_map f l, List.all_cons]
theorem noRoLL_map {α : Type} (f : α → List T) : ∀ l : List α, noRoLL (l.map f) = l.all fun x => noRoL (f x)
  | [] => rfl
  | x :: l => by simp only [List.map_cons, noRoLL, noRoLL_map f l, List.all_cons]
theorem flat_map {α : Type} (f : α → List T) : ∀ l : List α, flat (l.map f) = l.all fun x => (f x).all isPv
  | [] => rfl
  | x :: l => by simp only [List.map_cons, flat, flat_map f l, List.all_cons]
theorem flat_nil {τ : Type} : flat (τ := τ) [] = true := rfl
theorem flat_cons {τ : Type} (r : List (Tr τ)) (rs : List (List (Tr τ))) : flat (r :: rs) = (r.all isPv && flat rs) := rfl
theorem flat_append {τ : Type} : ∀ (r s : List (List (Tr τ))), flat (r ++ s) = (flat r && flat s)
  | [], s => rfl
  | a :: r, s => by rw [List.cons_append, flat_cons, flat_cons, flat_append r s, Bool.and_assoc]
theorem all_yes {α : Type} (l : List α) : (l.all fun _ => true) = true := by simp
theorem N_norm {na base : Nat} {ks : List Nat} {s : List (Nat × SV)} {b : List (Nat × List Cel)} {r : List (Nat × List T)} : norm na base ks ⟨s, b, r⟩ = normS na base ⟨s, b, r⟩ (pickS s ks) := rfl
theorem take_map {α β : Type} (f : α → β) (l : List α) : (l.map f).take l.length = l.map f := by rw [List.take_of_length_le (by simp)]
theorem bI_add (k : IntKind) (a b : Int) : binV .add (.int k a) (.int k b) = some (.int k (k.wrap (a + b))) := by simp [binV]
theorem bI_sub (k : IntKind) (a b : Int) : binV .sub (.int k a) (.int k b) = some (.int k (k.wrap (a - b))) := by simp [binV]
theorem bI_mul (k : IntKind) (a b : Int) : binV .mul (.int k a) (.int k b) = some (.int k (k.wrap (a * b))) := by simp [binV]
theorem bI_eql (k : IntKind) (a b : Int) : binV .eql (.int k a) (.int k b) = some (.bool (a == b)) := by simp [binV]
theorem bI_neq (k : IntKind) (a b : Int) : binV .neq (.int k a) (.int k b) = some (.bool (a != b)) := by simp [binV]
theorem bI_lss (k : IntKind) (a b : Int) : binV .lss (.int k a) (.int k b) = some (.bool (decide (a < b))) := by simp [binV]
theorem bI_leq (k : IntKind) (a b : Int) : binV .leq (.int k a) (.int k b) = some (.bool (decide (a ≤ b))) := by simp [binV]
theorem bI_gtr (k : IntKind) (a b : Int) : binV .gtr (.int k a) (.int k b) = some (.bool (decide (a > b))) := by simp [binV]
theorem bI_geq (k : IntKind) (a b : Int) : binV .geq (.int k a) (.int k b) = some (.bool (decide (a ≥ b))) := by simp [binV]
/-- A function behind a name that is never unfolded. -/
theorem some_fn (f : IntKind → Int → Int → Int) : ∃ g, g = f := ⟨f, rfl⟩
noncomputable def andK : IntKind → Int → Int → Int := Classical.choose (some_fn fun k a b => k.wrap (BitVec.ofInt k.bits a &&& BitVec.ofInt k.bits b).toNat)
theorem andK_def (k : IntKind) (a b : Int) : andK k a b = k.wrap (BitVec.ofInt k.bits a &&& BitVec.ofInt k.bits b).toNat := congrFun (congrFun (congrFun (Classical.choose_spec (some_fn fun k a b => k.wrap (BitVec.ofInt k.bits a &&& BitVec.ofInt k.bits b).toNat)) k) a) b
theorem bI_and (k : IntKind) (a b : Int) : binV .and (.int k a) (.int k b) = some (.int k (andK k a b)) := by simp [binV, andK_def]
noncomputable def orK : IntKind → Int → Int → Int := Classical.choose (some_fn fun k a b => k.wrap (BitVec.ofInt k.bits a ||| BitVec.ofInt k.bits b).toNat)
theorem orK_def (k : IntKind) (a b : Int) : orK k a b = k.wrap (BitVec.ofInt k.bits a ||| BitVec.ofInt k.bits b).toNat := congrFun (congrFun (congrFun (Classical.choose_spec (some_fn fun k a b => k.wrap (BitVec.ofInt k.bits a ||| BitVec.ofInt k.bits b).toNat)) k) a) b
theorem bI_or (k : IntKind) (a b : Int) : binV .or (.int k a) (.int k b) = some (.int k (orK k a b)) := by simp [binV, orK_def]
noncomputable def xorK : IntKind → Int → Int → Int := Classical.choose (some_fn fun k a b => k.wrap (BitVec.ofInt k.bits a ^^^ BitVec.ofInt k.bits b).toNat)
theorem xorK_def (k : IntKind) (a b : Int) : xorK k a b = k.wrap (BitVec.ofInt k.bits a ^^^ BitVec.ofInt k.bits b).toNat := congrFun (congrFun (congrFun (Classical.choose_spec (some_fn fun k a b => k.wrap (BitVec.ofInt k.bits a ^^^ BitVec.ofInt k.bits b).toNat)) k) a) b
theorem bI_xor (k : IntKind) (a b : Int) : binV .xor (.int k a) (.int k b) = some (.int k (xorK k a b)) := by simp [binV, xorK_def]
theorem bI_quo (k : IntKind) (a b : Int) : binV .quo (.int k a) (.int k b) = bif !(b == 0) then some (.int k (k.wrap (a.tdiv b))) else none := by simp [binV]
theorem bI_rem (k : IntKind) (a b : Int) : binV .rem (.int k a) (.int k b) = bif !(b == 0) then some (.int k (a.tmod b)) else none := by simp [binV]
theorem bI_shl (k k' : IntKind) (a b : Int) : binV .shl (.int k a) (.int k' b) = bif decide (0 ≤ b) then some (.int k (k.wrap (a * 2 ^ (Nat.min b.toNat k.bits)))) else none := by simp [binV]
theorem bI_shr (k k' : IntKind) (a b : Int) : binV .shr (.int k a) (.int k' b) = bif decide (0 ≤ b) then some (.int k (a.fdiv (2 ^ (Nat.min b.toNat k.bits)))) else none := by simp [binV]
theorem bytes_beq (a b : ByteArray) : (a.toList == b.toList) = decide (a = b) := by
  rcases a with ⟨⟨a⟩⟩
  rcases b with ⟨⟨b⟩⟩
  by_cases h : a = b
  · subst h; simp
  · have : ¬ (ByteArray.toList ⟨⟨a⟩⟩ = ByteArray.toList ⟨⟨b⟩⟩) := by
      rw [ByteArray.toList_eq, ByteArray.toList_eq]
      exact h
    rw [decide_eq_false (by simpa using h)]
    simpa using this
theorem bS_eql (a b : ByteArray) : binV .eql (.string a) (.string b) = some (.bool (decide (a = b))) := by simp [binV, ← bytes_beq]
theorem bS_neq (a b : ByteArray) : binV .neq (.string a) (.string b) = some (.bool (!decide (a = b))) := by simp [binV, ← bytes_beq]
theorem bS_lss (a b : ByteArray) : binV .lss (.string a) (.string b) = some (.bool (Op.bytesLess a.toList b.toList)) := by simp [binV]
theorem bS_leq (a b : ByteArray) : binV .leq (.string a) (.string b) = some (.bool (Op.bytesLess a.toList b.toList || a.toList == b.toList)) := by simp [binV]
theorem bS_gtr (a b : ByteArray) : binV .gtr (.string a) (.string b) = some (.bool (!(Op.bytesLess a.toList b.toList || a.toList == b.toList))) := by simp [binV]
theorem bS_geq (a b : ByteArray) : binV .geq (.string a) (.string b) = some (.bool (!Op.bytesLess a.toList b.toList)) := by simp [binV]
theorem bS_add (a b : ByteArray) : binV .add (.string a) (.string b) = bif decide (a.size + b.size ≤ 4294967296) then some (.string (a ++ b)) else none := by simp [binV]
theorem rows_sl {τ : Type} {o : Bool} {z : Nat} {h : τ} {rs : List (List (Tr τ))} : Tr.rows (.sl o z h rs) = rs := rfl
theorem lenB {α : Type} (l : List α) : decide (l.length ≤ l.length) = true := by simp
theorem condC_true {p q : Prop} : condC (some (.one (.pv (.bool true)))) p q = p := by simp [condC]
theorem condC_false {p q : Prop} : condC (some (.one (.pv (.bool false)))) p q = q := by simp [condC]
theorem condC_congr {v v' : Option SV} {p q : Prop} (h : v = v') : condC v p q = condC v' p q := by rw [h]
theorem cond_congr {β : Type} {c c' : Bool} {p q : β} (h : c = c') : cond c p q = cond c' p q := by rw [h]
theorem onSome_congr {β γ : Type} {d : γ} {v v' : Option β} {f : β → γ} (h : v = v') : onSome d v f = onSome d v' f := by rw [h]
theorem onNone_congr {β γ : Type} {d : γ} {v v' : Option β} {f : γ} (h : v = v') : onNone d v f = onNone d v' f := by rw [h]
attribute [congr] condC_congr cond_congr onSome_congr onNone_congr
theorem imp_tb {c b : Bool} : (c = b → True) = True := by simp
theorem get_hit {α : Type} {l : List (Nat × α)} {k : Nat} {v : α} : get ((k, v) :: l) k = some v := by simp [get]
attribute [go_sem ↓] get_hit
attribute [go_sem high] condC_true condC_false
attribute [go_sem] P_flat imp_tb upC_nils enterV_eq VN deadRo
attribute [go_sem] true_implies false_implies Opd.i Opd.F Opd.T Cel.i Cel.F Cel.e GOp.op GOp.m GOp.v GOp.f GOp.l GOp.L GOp.s GOp.b GOp.B GOp.i GOp.F GOp.T GOp.a GOp.r GOp.x GOp.n GOp.N GOp.e GOp.c
attribute [go_sem ↓] C_q C_c C_skip C_reg C_draw C_seq C_block C_norm C_up C_exit C_ret C_cond T_nrm T_ret T_exit B_nrm B_ret B_exit B_out E_nrm E_ret O_nil O_cons D_nil D_cons P_done P_gs P_ss P_gb P_sb P_nb P_gr P_sr P_nr P_chk P_ov P_call P_all
  L_done L_gs L_ss L_gb L_sb L_nb L_gr L_sr L_nr L_chk L_ov L_call L_all
attribute [go_sem] bI_add bI_sub bI_mul bI_eql bI_neq bI_lss bI_leq bI_gtr bI_geq bI_and bI_or bI_xor bI_quo bI_rem bI_shl bI_shr bS_eql bS_neq bS_lss bS_leq bS_gtr bS_geq bS_add
attribute [go_sem] rows_sl noLower lower SV.lower noLowerR lowerR lowerC SV.lowerS N_norm lentLL_map wholeLL_map noRoLL_map flat_map flat_nil flat_cons flat_append all_yes List.all_map List.getElem?_map Int.toNat_natCast Int.natCast_nonneg Function.comp_def isPv takeRows List.length_map List.length_replicate List.length_append condC_some onSome_some onNone_none GOp.prg COp.prg Opd.ev evL evPs enterSt enterS enterB enterR slotOf celOf plant get rep put fin cond_true cond_false Option.getD_some Option.getD_none AV.ts AV.slot
  nat? opt? withCels SV.cels takeC takeL lendC lendL node putAt fillC lentOwn passOwn passLend callP backP slotsP slots boxesOf loneN ptrOuts ioP plains plainV takeW takeWs keyOf lone backC backL newSl srcP appP readR readO leaveP leaveR leaveO resV goneC wholeLL wholeL whole noRoL noRo noRoLL lentLL lentL lent
  normS normB normWith pickS keepB olds idx renR renC renV renVs refC refV refVs boxV boxVs argR newR
  List.length_cons List.length_nil Nat.reduceAdd Nat.reduceMul Nat.reduceBEq beq_self_eq_true Nat.reduceLT Nat.reduceLeDiff Int.reduceLE Int.reduceLT Int.reduceToNat Int.reduceBEq Int.reduceBNe Int.reduceNe decide_true decide_false Bool.or_true Bool.or_false Bool.true_or Bool.false_or Bool.and_true Bool.true_and Bool.and_false Bool.false_and Bool.not_true Bool.not_false
  beq_true beq_false true_and and_true List.nil_append List.cons_append List.append_nil List.map_cons List.map_nil List.flatMap_cons List.flatMap_nil Option.bind_some Option.bind_none Option.map_some Option.map_none
  List.take_succ_cons List.drop_succ_cons List.take_zero List.drop_zero List.take_nil List.drop_nil List.getElem?_cons_zero List.getElem?_cons_succ List.getElem?_nil List.getD_cons_zero List.getD_cons_succ List.contains_cons List.contains_nil Nat.reduceSub Nat.zero_add Nat.add_zero
  List.set_cons_zero List.set_cons_succ atP setP List.zipIdx_cons List.all_cons List.all_nil List.any_cons List.any_nil lenB take_map List.take_length Bool.and_eq_true hasRf isRf
  Bool.true_eq_false Bool.false_eq_true reduceCtorEq
end Go.X

/- What is so behind code is so of one end: existence can be drawn out. -/
namespace Go.X
section
variable {α : Type} {Te : Nat → List AV → Res → Prop}
theorem runP_det : ∀ (p : Prg α) (st : St) (Q : α → St → Prop), runP Te p st Q → ∃ a st', Q a st' ∧ ∀ Q' : α → St → Prop, Q' a st' → runP Te p st Q'
  | .done a, st, Q, h => ⟨a, st, h, fun _ h => h⟩
  | .fail, st, Q, h => h.elim
  | .gs t k, st, Q, h => runP_det (k _) st Q h
  | .ss t v k, st, Q, h => runP_det k _ Q h
  | .gb t k, st, Q, h => by
    simp only [runP] at h ⊢
    split at h
    · exact runP_det (k _) st Q h
    · exact h.elim
  | .sb t v k, st, Q, h => by
    simp only [runP] at h ⊢
    split at h
    · exact runP_det k _ Q h
    · exact h.elim
  | .nb t v k, st, Q, h => by
    simp only [runP] at h ⊢
    split at h
    · exact h.elim
    · exact runP_det k _ Q h
  | .gr t k, st, Q, h => by
    simp only [runP] at h ⊢
    split at h
    · exact runP_det (k _) st Q h
    · exact h.elim
  | .sr t v k, st, Q, h => by
    simp only [runP] at h ⊢
    split at h
    · exact runP_det k _ Q h
    · exact h.elim
  | .nr t v k, st, Q, h => by
    simp only [runP] at h ⊢
    split at h
    · exact h.elim
    · exact runP_det k _ Q h
  | .chk c k, st, Q, h => by
    obtain ⟨a, st', h1, h2⟩ := runP_det k st Q h.2
    exact ⟨a, st', h1, fun Q' q => ⟨h.1, h2 Q' q⟩⟩
  | .ov none k, st, Q, h => h.elim
  | .ov (some v) k, st, Q, h => runP_det (k v) st Q h
  | .call f as k, st, Q, h => by
    obtain ⟨r, hr, h⟩ := h
    obtain ⟨a, st', h1, h2⟩ := runP_det (k r) st Q h
    exact ⟨a, st', h1, fun Q' q => ⟨r, hr, h2 Q' q⟩⟩
  | .all c k, st, Q, h => by
    obtain ⟨a, st', h1, h2⟩ := runP_det k st Q h.2
    exact ⟨a, st', h1, fun Q' q => ⟨h.1, h2 Q' q⟩⟩
theorem runL_det : ∀ (p : Prg α) (st : St) (rd wr : List Loc) (Q : α → St → List Loc → List Loc → Prop), runL Te p st rd wr Q → ∃ a st' rd' wr', Q a st' rd' wr' ∧ ∀ Q' : α → St → List Loc → List Loc → Prop, Q' a st' rd' wr' → runL Te p st rd wr Q'
  | .done a, st, rd, wr, Q, h => ⟨a, st, rd, wr, h, fun _ h => h⟩
  | .fail, st, rd, wr, Q, h => h.elim
  | .gs t k, st, rd, wr, Q, h => runL_det (k _) st _ _ Q h
  | .ss t v k, st, rd, wr, Q, h => runL_det k _ _ _ Q h
  | .gb t k, st, rd, wr, Q, h => by
    simp only [runL] at h ⊢
    split at h
    · exact runL_det (k _) st _ _ Q h
    · exact h.elim
  | .sb t v k, st, rd, wr, Q, h => by
    simp only [runL] at h ⊢
    split at h
    · exact runL_det k _ _ _ Q h
    · exact h.elim
  | .nb t v k, st, rd, wr, Q, h => by
    simp only [runL] at h ⊢
    split at h
    · exact h.elim
    · exact runL_det k _ _ _ Q h
  | .gr t k, st, rd, wr, Q, h => by
    simp only [runL] at h ⊢
    split at h
    · exact runL_det (k _) st _ _ Q h
    · exact h.elim
  | .sr t v k, st, rd, wr, Q, h => by
    simp only [runL] at h ⊢
    split at h
    · exact runL_det k _ _ _ Q h
    · exact h.elim
  | .nr t v k, st, rd, wr, Q, h => by
    simp only [runL] at h ⊢
    split at h
    · exact h.elim
    · exact runL_det k _ _ _ Q h
  | .chk c k, st, rd, wr, Q, h => by
    obtain ⟨a, st', rd', wr', h1, h2⟩ := runL_det k st _ _ Q h.2
    exact ⟨a, st', rd', wr', h1, fun Q' q => ⟨h.1, h2 Q' q⟩⟩
  | .ov none k, st, rd, wr, Q, h => h.elim
  | .ov (some v) k, st, rd, wr, Q, h => runL_det (k v) st _ _ Q h
  | .call f as k, st, rd, wr, Q, h => by
    obtain ⟨r, hr, h⟩ := h
    obtain ⟨a, st', rd', wr', h1, h2⟩ := runL_det (k r) st _ _ Q h
    exact ⟨a, st', rd', wr', h1, fun Q' q => ⟨r, hr, h2 Q' q⟩⟩
  | .all c k, st, rd, wr, Q, h => by
    obtain ⟨a, st', rd', wr', h1, h2⟩ := runL_det k st _ _ Q h.2
    exact ⟨a, st', rd', wr', h1, fun Q' q => ⟨h.1, h2 Q' q⟩⟩
theorem runOps_det : ∀ (os : List GOp) (st : St) (Q : St → Prop), runOps Te os st Q → ∃ st', Q st' ∧ ∀ Q' : St → Prop, Q' st' → runOps Te os st Q'
  | [], st, Q, h => ⟨st, h, fun _ h => h⟩
  | o :: os, st, Q, h => by
    obtain ⟨a, s1, h1, h2⟩ := runP_det _ _ _ h
    obtain ⟨s2, h3, h4⟩ := runOps_det os s1 Q h1
    exact ⟨s2, h3, fun Q' q => h2 _ (h4 Q' q)⟩
theorem runDraw_det : ∀ (os : List GOp) (st : St) (l : List Log) (Q : St → List Log → Prop), runDraw Te os st l Q → ∃ st' l', Q st' l' ∧ ∀ Q' : St → List Log → Prop, Q' st' l' → runDraw Te os st l Q'
  | [], st, l, Q, h => ⟨st, l, h, fun _ h => h⟩
  | o :: os, st, l, Q, h => by
    obtain ⟨a, s1, rd, wr, h1, h2⟩ := runL_det _ _ _ _ _ h
    obtain ⟨s2, l2, h3, h4⟩ := runDraw_det os s1 _ Q h1
    exact ⟨s2, l2, h3, fun Q' q => h2 _ (h4 Q' q)⟩
/-- It has no range over a string. -/
def noRng : XCode → Bool
  | .seq a b => noRng a && noRng b
  | .cond _ a b => noRng a && noRng b
  | .block _ a => noRng a
  | .loop _ a => noRng a
  | .norm _ a => noRng a
  | .up _ _ _ a => noRng a
  | .rng .. => false
  | _ => true
theorem runC_det {na base : Nat} : ∀ (x : XCode) (st : St) (Q : Post), noRng x = true → runC Te na base x st Q → ∃ ex st', Q ex st' ∧ ∀ Q' : Post, Q' ex st' → runC Te na base x st Q'
  | .skip, st, Q, _, h => ⟨.nrm, st, h, fun _ h => h⟩
  | .reg os, st, Q, _, h => by
    obtain ⟨s, h1, h2⟩ := runOps_det os st _ h
    exact ⟨.nrm, s, h1, fun Q' q => h2 _ q⟩
  | .draw os es, st, Q, _, h => by
    obtain ⟨s, l, h1, h2⟩ := runDraw_det os st _ _ h
    exact ⟨.nrm, s, h1.2, fun Q' q => h2 _ ⟨h1.1, q⟩⟩
  | .seq a b, st, Q, hn, h => by
    simp only [noRng, Bool.and_eq_true] at hn
    obtain ⟨ex, s, h1, h2⟩ := runC_det a st _ hn.1 h
    cases ex with
    | nrm =>
      obtain ⟨ex2, s2, h3, h4⟩ := runC_det b s Q hn.2 h1
      exact ⟨ex2, s2, h3, fun Q' q => h2 _ (h4 Q' q)⟩
    | exit i => exact ⟨_, s, h1, fun Q' q => h2 _ q⟩
    | ret => exact ⟨_, s, h1, fun Q' q => h2 _ q⟩
  | .cond t a b, st, Q, hn, h => by
    simp only [noRng, Bool.and_eq_true] at hn
    simp only [runC] at h ⊢
    split at h
    · rename_i c hc
      cases c with
      | true =>
        obtain ⟨ex, s, h1, h2⟩ := runC_det a st Q hn.1 (h.1 rfl)
        exact ⟨ex, s, h1, fun Q' q => ⟨fun _ => h2 Q' q, fun e => Bool.noConfusion e⟩⟩
      | false =>
        obtain ⟨ex, s, h1, h2⟩ := runC_det b st Q hn.2 (h.2 rfl)
        exact ⟨ex, s, h1, fun Q' q => ⟨fun e => Bool.noConfusion e, fun _ => h2 Q' q⟩⟩
    · exact h.elim
  | .block id a, st, Q, hn, h => by
    simp only [noRng] at hn
    obtain ⟨ex, s, h1, h2⟩ := runC_det a st _ hn h
    cases ex with
    | nrm => exact ⟨_, s, h1, fun Q' q => h2 _ q⟩
    | ret => exact ⟨_, s, h1, fun Q' q => h2 _ q⟩
    | exit i =>
      by_cases e : i = id
      · exact ⟨.nrm, s, by simpa only [InBlock, if_pos e] using h1, fun Q' q => h2 _ (by simpa only [InBlock, if_pos e] using q)⟩
      · exact ⟨.exit i, s, by simpa only [InBlock, if_neg e] using h1, fun Q' q => h2 _ (by simpa only [InBlock, if_neg e] using q)⟩
  | .loop ks a, st, Q, hn, h => by
    simp only [noRng] at hn
    obtain ⟨I, m, h0, hr⟩ := h
    have mono : ∀ (s : St) (Q1 Q2 : Post), runC Te na base a s Q1 → (∀ e s, Q1 e s → Q2 e s) → runC Te na base a s Q2 := fun s Q1 Q2 q1 q2 => by
      obtain ⟨e, s', q3, q4⟩ := runC_det a s Q1 hn q1
      exact q4 Q2 (q2 _ _ q3)
    have key : ∀ (n k : Nat), k < n → ∀ s, I k s → ∃ ex st', Q ex st' ∧ ∀ Q' : Post, Q' ex st' → ∃ (J : Nat → St → Prop) (m : Nat), J m s ∧ ∀ k s, J k s → runC Te na base a s (Then (fun s' => ∃ k', k' < k ∧ J k' (norm na base ks s')) Q') := by
      intro n
      induction n with
      | zero => intro k hk; omega
      | succ n ih =>
        intro k hk s hs
        obtain ⟨ex, s1, q1, q2⟩ := runC_det a s _ hn (hr k s hs)
        cases ex with
        | nrm =>
          obtain ⟨k', q3, q4⟩ := q1
          obtain ⟨ex2, s2, q5, q6⟩ := ih k' (by omega) _ q4
          refine ⟨ex2, s2, q5, fun Q' q => ?_⟩
          obtain ⟨J, m', q7, q8⟩ := q6 Q' q
          refine ⟨fun k s0 => J k s0 ∨ (k = m' + 1 ∧ s0 = s), m' + 1, .inr ⟨rfl, rfl⟩, ?_⟩
          rintro k0 s0 (q9 | ⟨rfl, rfl⟩)
          · refine mono _ _ _ (q8 k0 s0 q9) (fun e s q => ?_)
            cases e with
            | nrm => obtain ⟨k', z1, z2⟩ := q; exact ⟨k', z1, .inl z2⟩
            | exit i => exact q
            | ret => exact q
          · exact q2 _ ⟨m', by omega, .inl q7⟩
        | exit i => exact ⟨_, s1, q1, fun Q' q => ⟨fun k s0 => s0 = s, 0, rfl, fun k s0 e => by subst e; exact q2 _ q⟩⟩
        | ret => exact ⟨_, s1, q1, fun Q' q => ⟨fun k s0 => s0 = s, 0, rfl, fun k s0 e => by subst e; exact q2 _ q⟩⟩
    exact key (m + 1) m (by omega) _ h0
  | .norm ks a, st, Q, hn, h => runC_det a _ Q (by simpa only [noRng] using hn) h
  | .up b off r a, st, Q, hn, h => by
    simp only [noRng] at hn
    simp only [runC, upQ] at h ⊢
    split at h
    · split at h
      · rename_i c _
        cases c with
        | nils z =>
          simp only [upC] at h ⊢
          split at h
          · exact runC_det a _ Q hn h
          · exact h.elim
        | _ => exact h.elim
      · exact h.elim
    · exact h.elim
  | .rng .., st, Q, hn, h => by simp [noRng] at hn
  | .exit id, st, Q, _, h => ⟨_, st, h, fun _ h => h⟩
  | .ret, st, Q, _, h => ⟨_, st, h, fun _ h => h⟩
end
/-- A function's end, where more than one answer is good. -/
def EndFnE (Te : Nat → List AV → Res → Prop) (as : List AV) (rs : List RV) (R : Res → Prop) : Post := fun ex st => (ex = .nrm ∨ ex = .ret) ∧ runP Te (leaveP as rs) st (fun r _ => R r)
theorem EE_nrm {Te : Nat → List AV → Res → Prop} {as : List AV} {rs : List RV} {R : Res → Prop} {s : List (Nat × SV)} {b : List (Nat × List Cel)} {r : List (Nat × List T)} : EndFnE Te as rs R .nrm ⟨s, b, r⟩ = runP Te (leaveP as rs) ⟨s, b, r⟩ (fun r _ => R r) := by simp [EndFnE]
theorem EE_ret {Te : Nat → List AV → Res → Prop} {as : List AV} {rs : List RV} {R : Res → Prop} {s : List (Nat × SV)} {b : List (Nat × List Cel)} {r : List (Nat × List T)} : EndFnE Te as rs R .ret ⟨s, b, r⟩ = runP Te (leaveP as rs) ⟨s, b, r⟩ (fun r _ => R r) := by simp [EndFnE]
attribute [go_sem ↓] EE_nrm EE_ret
theorem some_of {Te : Nat → List AV → Res → Prop} {x : FnX} {as : List AV} {R : Res → Prop} (h1 : as.length ≤ x.n) (hn : noRng x.code = true) (h : runC Te as.length (x.n + as.length) x.code (enterSt as) (EndFnE Te as x.rs R)) : ∃ r0, R r0 ∧ RunFn Te x as r0 := by
  obtain ⟨ex, st, ⟨h2, h3⟩, h4⟩ := runC_det _ _ _ hn h
  obtain ⟨r, st', h5, h6⟩ := runP_det _ _ _ h3
  exact ⟨r, h5, h1, h4 _ ⟨h2, h6 _ rfl⟩⟩
end Go.X

/- Functions that hand back a pointer to what they have made. -/
namespace Go.X
structure FnP where
  n : Nat
  t : Nat
  code : XCode
def fnPOk (P : Program) (f : Nat) (x : FnP) : Bool :=
  match P.funcs[f]? with
  | some fn => fn.ntmps == x.n && decide (f < VN) && (match fn.results.toList with | [.tmp t] => t == x.t | _ => false) && (match fn.body with
    | some c => codeOk P x.n c x.code
    | none => false)
  | none => false
def EndFnP (Te : Nat → List AV → Res → Prop) (as : List AV) (t : Nat) (R : Res → Prop) : Post := fun ex st => (ex = .nrm ∨ ex = .ret) ∧ runP Te (leavePtr as t) st (fun r _ => R r)
def RunFnP (Te : Nat → List AV → Res → Prop) (x : FnP) (as : List AV) (R : Res → Prop) : Prop :=
  as.length ≤ x.n ∧ runC Te as.length (x.n + as.length) x.code (enterSt as) (EndFnP Te as x.t R)
theorem EP_nrm {Te : Nat → List AV → Res → Prop} {as : List AV} {t : Nat} {R : Res → Prop} {s : List (Nat × SV)} {b : List (Nat × List Cel)} {r : List (Nat × List T)} : EndFnP Te as t R .nrm ⟨s, b, r⟩ = runP Te (leavePtr as t) ⟨s, b, r⟩ (fun r _ => R r) := by simp [EndFnP]
theorem EP_ret {Te : Nat → List AV → Res → Prop} {as : List AV} {t : Nat} {R : Res → Prop} {s : List (Nat × SV)} {b : List (Nat × List Cel)} {r : List (Nat × List T)} : EndFnP Te as t R .ret ⟨s, b, r⟩ = runP Te (leavePtr as t) ⟨s, b, r⟩ (fun r _ => R r) := by simp [EndFnP]
attribute [go_sem ↓] EP_nrm EP_ret
attribute [go_sem] leavePtr
theorem some_ofP {Te : Nat → List AV → Res → Prop} {x : FnP} {as : List AV} {R : Res → Prop} (hn : noRng x.code = true) (h : RunFnP Te x as R) : ∃ r0, R r0 ∧ RunFnP Te x as (fun r => r = r0) := by
  obtain ⟨h1, h⟩ := h
  obtain ⟨ex, st, ⟨h2, h3⟩, h4⟩ := runC_det _ _ _ hn h
  obtain ⟨r, st', h5, h6⟩ := runP_det _ _ _ h3
  exact ⟨r, h5, h1, h4 _ ⟨h2, h6 _ rfl⟩⟩
theorem tellsP {P : Program} {KP : Kept} {f : Nat} {x : FnP} {as : List AV} {r0 : Res} (hm : P.follows .mixedOrders = true) (hf : fnPOk P f x = true) (h : RunFnP (Tells P KP) x as (fun r => r = r0)) : Tells P KP f as r0 := by
  unfold fnPOk at hf
  split at hf
  · rename_i fn hfn
    simp only [Bool.and_eq_true, beq_iff_eq, decide_eq_true_eq] at hf
    obtain ⟨⟨⟨h1, h0⟩, h2⟩, h3⟩ := hf
    split at h3
    · rename_i c hc
      split at h2
      · rename_i t ht
        simp only [beq_iff_eq] at h2
        subst h2
        rw [← h1] at h3
        obtain ⟨h4, h5⟩ := h
        have hr : fn.results = #[.tmp x.t] := by
          apply Array.toList_inj.1
          rw [ht]
        rw [tells_small h0]
        refine TellsW.ofPtr hfn hc (by omega) hr fun X eX hX => by subst eX; exact runC_ok hm hX (by omega) _ _ h3 h5
      · cases h2
    · cases h3
  · cases hf
end Go.X

