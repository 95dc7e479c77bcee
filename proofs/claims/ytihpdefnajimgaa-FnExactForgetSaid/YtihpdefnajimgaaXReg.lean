/- Regions: in the order that is written, and in any order. -/
import Derived.Test.YtihpdefnajimgaaXDisp
import Derived.Orders
namespace Go.X
def gopOk (P : Program) (n : Nat) (ops : Array Oper) (o : Oper) (x : GOp) : Bool :=
  (match o.guard, x.g with
    | none, none => true
    | some (j, want), some (t, want') => want == want' && (match ops.toList[j]? with | some o' => o'.dst == some t | none => false)
    | _, _ => false) && x.d == o.dst && opOk P n o x.id x.o
def regL (P : Program) (n : Nat) (ops : Array Oper) : List Oper → List GOp → Bool
  | [], [] => true
  | o :: os, x :: xs => gopOk P n ops o x && regL P n ops os xs
  | _, _ => false
section
variable {P : Program} {X : Ctx} {n : Nat} {g : Gh} {st : St} {a : Act} {w : World} {o : Oper} {K : St → Prop} {Q : Exit → Act → World → Prop} {ops : Array Oper}
theorem gop_ok {i : Nat} {x : GOp} (h : Sim X n g st [] a w) (hi : ops[i]? = some o) (hk : gopOk P n ops o x = true) (hp : runP (Tells P) x.prg st (fun _ st' => K st')) : wpOp P ops Q i (Goal X n K) a w := by
  unfold gopOk at hk
  simp only [Bool.and_eq_true, beq_iff_eq] at hk
  obtain ⟨⟨hg, hd⟩, hk⟩ := hk
  have hdn : ∀ k, o.dst = some k → k < n := fun k e => by
    unfold opOk at hk
    simp only [Bool.and_eq_true] at hk
    simpa [e] using hk.1
  unfold wpOp
  simp only [hi]
  unfold GOp.prg at hp
  rw [hd] at hp
  split at hg
  · rename_i e1 e2
    simp only [e2] at hp
    rw [if_pos (by simp [Region.wanted, e1])]
    exact .inl (op_ok h hk hp)
  · rename_i j want t want' e1 e2
    simp only [e2, runP] at hp
    simp only [Bool.and_eq_true, beq_iff_eq] at hg
    obtain ⟨rfl, hg⟩ := hg
    split at hg
    · rename_i o' ho'
      rw [Array.getElem?_toList] at ho'
      simp only [beq_iff_eq] at hg
      have hy : yielded ops a.tmps j = match a.tmps[t]? with | some (.bool b) => some b | _ => none := by
        unfold yielded
        simp only [ho', hg, Option.bind_some]
        cases a.tmps[t]? with
        | none => rfl
        | some u => cases u <;> rfl
      cases hv : get st.s t with
      | none => simp [hv, runP] at hp
      | some v =>
        have hs := h.slots t v hv
        rw [hv] at hp
        simp only [Option.getD_some] at hp
        split at hp
        · rename_i b
          have e := one_pv hs
          have e' : a.tmps[t]? = some (.bool b) := by
            rw [Array.getD_eq_getD_getElem?] at e
            cases hh : a.tmps[t]? with
            | none => rw [hh] at e; simp [undef] at e
            | some u => rw [hh] at e; simp at e; rw [e]
          rw [e'] at hy
          simp only at hy
          by_cases hb : b = want
          · subst hb
            rw [if_pos (by simp [Region.wanted, e1, hy])]
            simp only [beq_self_eq_true, cond_true] at hp
            exact .inl (op_ok h hk hp)
          · rw [if_neg (by simp [Region.wanted, e1, hy, hb])]
            rw [beq_eq_false_iff_ne.2 hb, cond_false] at hp
            exact fin_ok (u := undef) h hdn (by simp [SlotOK, SlotsOK, undef]) hp
        · have e : a.tmps.getD t undef = .tuple #[] := by
            simp only [SlotOK] at hs
            obtain ⟨us, e, hs⟩ := hs
            cases us with
            | nil => exact e
            | cons => simp [SlotsOK] at hs
          have hy' : yielded ops a.tmps j = none := by
            rw [hy]
            rw [Array.getD_eq_getD_getElem?] at e
            cases hh : a.tmps[t]? with
            | none => rfl
            | some u => rw [hh] at e; simp at e; rw [e]
          rw [if_neg (by simp [Region.wanted, e1, hy'])]
          exact fin_ok (u := undef) h hdn (by simp [SlotOK, SlotsOK, undef]) hp
        · exact hp.elim
    · cases hg
  · cases hg
theorem regL_get : ∀ {os : List Oper} {xs : List GOp}, regL P n ops os xs = true → os.length = xs.length ∧ ∀ (i : Nat) (o : Oper), os[i]? = some o → ∃ x, xs[i]? = some x ∧ gopOk P n ops o x = true
  | [], [], _ => ⟨rfl, fun i o h => by simp at h⟩
  | o :: os, x :: xs, h => by
    simp only [regL, Bool.and_eq_true] at h
    obtain ⟨h1, h2⟩ := regL_get h.2
    refine ⟨by simp [h1], fun i o' ho => ?_⟩
    cases i with
    | zero => simp at ho; subst ho; exact ⟨x, rfl, h.1⟩
    | succ i => exact h2 i o' (by simpa using ho)
  | [], _ :: _, h => by simp [regL] at h
  | _ :: _, [], h => by simp [regL] at h
theorem reg_list (hQ : ∀ g st a w, K st → Sim X n g st [] a w → Q .normal a w) : ∀ (xs : List GOp) (i : Nat) {g : Gh} {st : St} {a : Act} {w : World}, (∀ (k : Nat) (x : GOp), xs[k]? = some x → ∃ o, ops[i + k]? = some o ∧ gopOk P n ops o x = true) →
    Sim X n g st [] a w → runOps (Tells P) xs st K → wpOps P ops Q (List.range' i xs.length) a w
  | [], i, g, st, a, w, _, h, hp => hQ g st a w hp h
  | x :: xs, i, g, st, a, w, hx, h, hp => by
    obtain ⟨o, ho, hk⟩ := hx 0 x rfl
    simp only [List.length_cons, List.range'_succ]
    rw [wpOps_cons]
    simp only [runOps] at hp
    refine wpOp_mono ?_ (gop_ok h ho hk hp)
    rintro a' w' ⟨g', st', hp', h'⟩
    exact reg_list hQ xs (i + 1) (fun k y hy => by have := hx (k + 1) y (by simpa using hy); rwa [show i + (k + 1) = i + 1 + k by omega] at this) h' hp'
theorem x_region {id : Nat} {st : St} {Q : Ex → St → Prop} {xs : List GOp} (hr : regL P n ops ops.toList xs = true) (hp : runOps (Tells P) xs st (Q .nrm)) : xC P X n (.region id ops false) st Q := fun g a w hs => by
  obtain ⟨h1, h2⟩ := regL_get hr
  refine wp_region ?_
  have hsz : ops.size = xs.length := by simpa using h1
  rw [List.range_eq_range', hsz]
  refine reg_list (K := Q .nrm) (fun g st a w hk h => ⟨.nrm, g, st, trivial, hk, h⟩) xs 0 (fun k x hx => ?_) hs hp
  have hk : k < ops.toList.length := by rw [h1]; exact (List.getElem?_eq_some_iff.1 hx).1
  obtain ⟨x', e, hk'⟩ := h2 k ops.toList[k] (List.getElem?_eq_getElem hk)
  rw [hx] at e
  simp at e
  subst e
  refine ⟨_, ?_, hk'⟩
  rw [Nat.zero_add, ← Array.getElem?_toList]
  exact List.getElem?_eq_getElem hk
end
/-! ### Any order -/
inductive Loc where
  | s (t : Nat)
  | b (t : Nat)
  | r (t : Nat)
  deriving DecidableEq
section
variable {α : Type}
/-- With a log of what was looked at and what was written. -/
def runL {α : Type} (Te : Nat → List AV → Res → Prop) : Prg α → St → List Loc → List Loc → (α → St → List Loc → List Loc → Prop) → Prop
  | .done a, st, rd, wr, Q => Q a st rd wr
  | .fail, _, _, _, _ => False
  | .gs t k, st, rd, wr, Q => runL Te (k ((get st.s t).getD .un)) st (.s t :: rd) wr Q
  | .ss t v k, st, rd, wr, Q => runL Te k { st with s := rep st.s t v } rd (.s t :: wr) Q
  | .gb b k, st, rd, wr, Q => match get st.b b with
    | some cs => runL Te (k cs) st (.b b :: rd) wr Q
    | none => False
  | .sb b v k, st, rd, wr, Q => match get st.b b with
    | some _ => runL Te k { st with b := rep st.b b v } (.b b :: rd) (.b b :: wr) Q
    | none => False
  | .nb b v k, st, rd, wr, Q => match get st.b b with
    | some _ => False
    | none => runL Te k { st with b := rep st.b b v } (.b b :: rd) (.b b :: wr) Q
  | .gr r k, st, rd, wr, Q => match get st.r r with
    | some cs => runL Te (k cs) st (.r r :: rd) wr Q
    | none => False
  | .sr r v k, st, rd, wr, Q => match get st.r r with
    | some _ => runL Te k { st with r := rep st.r r v } (.r r :: rd) (.r r :: wr) Q
    | none => False
  | .nr r v k, st, rd, wr, Q => match get st.r r with
    | some _ => False
    | none => runL Te k { st with r := rep st.r r v } (.r r :: rd) (.r r :: wr) Q
  | .chk c k, st, rd, wr, Q => c = true ∧ runL Te k st rd wr Q
  | .ov o k, st, rd, wr, Q => match o with
    | some v => runL Te (k v) st rd wr Q
    | none => False
  | .call f as k, st, rd, wr, Q => ∃ r, Te f as r ∧ runL Te (k r) st rd wr Q
  | .all _ _, _, _, _, _ => False
def Agree (st st2 : St) : Loc → Prop
  | .s t => get st.s t = get st2.s t
  | .b t => get st.b t = get st2.b t
  | .r t => get st.r t = get st2.r t
theorem Agree.refl (st : St) (k : Loc) : Agree st st k := by cases k <;> rfl
theorem Agree.symm {st st2 : St} {k : Loc} (h : Agree st st2 k) : Agree st2 st k := by cases k <;> exact Eq.symm h
theorem Agree.trans {st st2 st3 : St} {k : Loc} (h : Agree st st2 k) (h' : Agree st2 st3 k) : Agree st st3 k := by cases k <;> exact Eq.trans h h'
theorem agree_s {st st2 : St} (t : Nat) (v : SV) {k : Loc} (h : k = .s t ∨ Agree st st2 k) : Agree { st with s := rep st.s t v } { st2 with s := rep st2.s t v } k := by
  cases k with
  | s u =>
    simp only [Agree, get_rep_if] at h ⊢
    split
    · rfl
    · rename_i e; exact h.resolve_left (fun e' => e (by cases e'; rfl))
  | b u => exact h.resolve_left (fun e => by cases e)
  | r u => exact h.resolve_left (fun e => by cases e)
theorem agree_b {st st2 : St} (t : Nat) (v : List Cel) {k : Loc} (h : k = .b t ∨ Agree st st2 k) : Agree { st with b := rep st.b t v } { st2 with b := rep st2.b t v } k := by
  cases k with
  | b u =>
    simp only [Agree, get_rep_if] at h ⊢
    split
    · rfl
    · rename_i e; exact h.resolve_left (fun e' => e (by cases e'; rfl))
  | s u => exact h.resolve_left (fun e => by cases e)
  | r u => exact h.resolve_left (fun e => by cases e)
theorem agree_r {st st2 : St} (t : Nat) (v : List T) {k : Loc} (h : k = .r t ∨ Agree st st2 k) : Agree { st with r := rep st.r t v } { st2 with r := rep st2.r t v } k := by
  cases k with
  | r u =>
    simp only [Agree, get_rep_if] at h ⊢
    split
    · rfl
    · rename_i e; exact h.resolve_left (fun e' => e (by cases e'; rfl))
  | s u => exact h.resolve_left (fun e => by cases e)
  | b u => exact h.resolve_left (fun e => by cases e)
theorem keep_s (st : St) (t : Nat) (v : SV) {k : Loc} (h : k ≠ .s t) : Agree st { st with s := rep st.s t v } k := by
  cases k with
  | s u => simp only [Agree, get_rep_if]; rw [if_neg (fun e => h (by rw [e]))]
  | _ => rfl
theorem keep_b (st : St) (t : Nat) (v : List Cel) {k : Loc} (h : k ≠ .b t) : Agree st { st with b := rep st.b t v } k := by
  cases k with
  | b u => simp only [Agree, get_rep_if]; rw [if_neg (fun e => h (by rw [e]))]
  | _ => rfl
theorem keep_r (st : St) (t : Nat) (v : List T) {k : Loc} (h : k ≠ .r t) : Agree st { st with r := rep st.r t v } k := by
  cases k with
  | r u => simp only [Agree, get_rep_if]; rw [if_neg (fun e => h (by rw [e]))]
  | _ => rfl
theorem runP_imp' {Te : Nat → List AV → Res → Prop} {Q Q' : α → St → Prop} (hq : ∀ a s, Q a s → Q' a s) : ∀ (p : Prg α) {st : St}, runP Te p st Q → runP Te p st Q'
  | .done _, _, h => hq _ _ h
  | .fail, _, h => h.elim
  | .gs _ k, _, h => runP_imp' hq (k _) h
  | .ss _ _ k, _, h => runP_imp' hq k h
  | .gb b k, st, h => by
    simp only [runP] at h ⊢
    cases hb : get st.b b with
    | none => simp [hb] at h
    | some cs => simp only [hb] at h ⊢; exact runP_imp' hq (k _) h
  | .sb b v k, st, h => by
    simp only [runP] at h ⊢
    cases hb : get st.b b with
    | none => simp [hb] at h
    | some cs => simp only [hb] at h ⊢; exact runP_imp' hq k h
  | .nb b v k, st, h => by
    simp only [runP] at h ⊢
    cases hb : get st.b b with
    | some cs => simp [hb] at h
    | none => simp only [hb] at h ⊢; exact runP_imp' hq k h
  | .gr b k, st, h => by
    simp only [runP] at h ⊢
    cases hb : get st.r b with
    | none => simp [hb] at h
    | some cs => simp only [hb] at h ⊢; exact runP_imp' hq (k _) h
  | .sr b v k, st, h => by
    simp only [runP] at h ⊢
    cases hb : get st.r b with
    | none => simp [hb] at h
    | some cs => simp only [hb] at h ⊢; exact runP_imp' hq k h
  | .nr b v k, st, h => by
    simp only [runP] at h ⊢
    cases hb : get st.r b with
    | some cs => simp [hb] at h
    | none => simp only [hb] at h ⊢; exact runP_imp' hq k h
  | .chk _ k, _, h => ⟨h.1, runP_imp' hq k h.2⟩
  | .ov o k, st, h => by
    cases o with
    | none => exact h.elim
    | some v => exact runP_imp' hq (k v) h
  | .call f as k, st, h => by
    obtain ⟨r, hr, h⟩ := h
    exact ⟨r, hr, runP_imp' hq (k r) h⟩
  | .all _ k, _, h => ⟨h.1, runP_imp' hq k h.2⟩
/-- A step does the same wherever what it looks at is the same. -/
theorem runL_frame {Te : Nat → List AV → Res → Prop} {Φ : α → St → List Loc → List Loc → Prop} : ∀ (p : Prg α) (st : St) (rd wr : List Loc), runL Te p st rd wr Φ → ∃ a st' rd' wr', Φ a st' rd' wr' ∧ (∀ k ∈ rd, k ∈ rd') ∧ (∀ k ∈ wr, k ∈ wr') ∧ (∀ k, k ∉ wr' → Agree st st' k) ∧
    ∀ st2, (∀ k ∈ rd', Agree st st2 k) → (∀ k ∈ wr, Agree st st2 k) → runP Te p st2 (fun _ st2' => (∀ k ∈ wr', Agree st' st2' k) ∧ ∀ k, k ∉ wr' → Agree st2 st2' k)
  | .done a, st, rd, wr, h => ⟨a, st, rd, wr, h, fun _ h => h, fun _ h => h, fun _ _ => Agree.refl _ _, fun st2 _ h2 => ⟨h2, fun _ _ => Agree.refl _ _⟩⟩
  | .fail, _, _, _, h => h.elim
  | .gs t k, st, rd, wr, h => by
    obtain ⟨a, st', rd', wr', q1, q2, q3, q4, q5⟩ := runL_frame (k _) st _ wr h
    refine ⟨a, st', rd', wr', q1, fun x hx => q2 x (List.mem_cons_of_mem _ hx), q3, q4, fun st2 h1 h2 => ?_⟩
    have e : get st.s t = get st2.s t := h1 (.s t) (q2 _ (List.mem_cons_self ..))
    simp only [runP, ← e]
    exact q5 st2 h1 h2
  | .ss t v k, st, rd, wr, h => by
    obtain ⟨a, st', rd', wr', q1, q2, q3, q4, q5⟩ := runL_frame k _ _ _ h
    refine ⟨a, st', rd', wr', q1, q2, fun x hx => q3 x (List.mem_cons_of_mem _ hx), fun x hx => (keep_s st t v (fun e => hx (q3 _ (by rw [e]; exact List.mem_cons_self ..)))).trans (q4 x hx), fun st2 h1 h2 => ?_⟩
    have := q5 { st2 with s := rep st2.s t v } (fun x hx => agree_s t v (.inr (h1 x hx))) (fun x hx => agree_s t v ((List.mem_cons.1 hx).imp id (h2 x)))
    simp only [runP]
    refine runP_imp' (fun _ s hs => ⟨hs.1, fun x hx => (keep_s st2 t v (fun e => hx (q3 _ (by rw [e]; exact List.mem_cons_self ..)))).trans (hs.2 x hx)⟩) _ this
  | .gb b k, st, rd, wr, h => by
    simp only [runL] at h
    cases hb : get st.b b with
    | none => simp [hb] at h
    | some cs =>
      simp only [hb] at h
      obtain ⟨a, st', rd', wr', q1, q2, q3, q4, q5⟩ := runL_frame (k _) st _ wr h
      refine ⟨a, st', rd', wr', q1, fun x hx => q2 x (List.mem_cons_of_mem _ hx), q3, q4, fun st2 h1 h2 => ?_⟩
      have e : get st.b b = get st2.b b := h1 (.b b) (q2 _ (List.mem_cons_self ..))
      simp only [runP, ← e, hb]
      exact q5 st2 h1 h2
  | .sb b v k, st, rd, wr, h => by
    simp only [runL] at h
    cases hb : get st.b b with
    | none => simp [hb] at h
    | some cs =>
      simp only [hb] at h
      obtain ⟨a, st', rd', wr', q1, q2, q3, q4, q5⟩ := runL_frame k _ _ _ h
      refine ⟨a, st', rd', wr', q1, fun x hx => q2 x (List.mem_cons_of_mem _ hx), fun x hx => q3 x (List.mem_cons_of_mem _ hx), fun x hx => (keep_b st b v (fun e => hx (q3 _ (by rw [e]; exact List.mem_cons_self ..)))).trans (q4 x hx), fun st2 h1 h2 => ?_⟩
      have e : get st.b b = get st2.b b := h1 (.b b) (q2 _ (List.mem_cons_self ..))
      have := q5 { st2 with b := rep st2.b b v } (fun x hx => agree_b b v (.inr (h1 x hx))) (fun x hx => agree_b b v ((List.mem_cons.1 hx).imp id (h2 x)))
      simp only [runP, ← e, hb]
      refine runP_imp' (fun _ s hs => ⟨hs.1, fun x hx => (keep_b st2 b v (fun e => hx (q3 _ (by rw [e]; exact List.mem_cons_self ..)))).trans (hs.2 x hx)⟩) _ this
  | .nb b v k, st, rd, wr, h => by
    simp only [runL] at h
    cases hb : get st.b b with
    | some cs => simp [hb] at h
    | none =>
      simp only [hb] at h
      obtain ⟨a, st', rd', wr', q1, q2, q3, q4, q5⟩ := runL_frame k _ _ _ h
      refine ⟨a, st', rd', wr', q1, fun x hx => q2 x (List.mem_cons_of_mem _ hx), fun x hx => q3 x (List.mem_cons_of_mem _ hx), fun x hx => (keep_b st b v (fun e => hx (q3 _ (by rw [e]; exact List.mem_cons_self ..)))).trans (q4 x hx), fun st2 h1 h2 => ?_⟩
      have e : get st.b b = get st2.b b := h1 (.b b) (q2 _ (List.mem_cons_self ..))
      have := q5 { st2 with b := rep st2.b b v } (fun x hx => agree_b b v (.inr (h1 x hx))) (fun x hx => agree_b b v ((List.mem_cons.1 hx).imp id (h2 x)))
      simp only [runP, ← e, hb]
      refine runP_imp' (fun _ s hs => ⟨hs.1, fun x hx => (keep_b st2 b v (fun e => hx (q3 _ (by rw [e]; exact List.mem_cons_self ..)))).trans (hs.2 x hx)⟩) _ this
  | .gr b k, st, rd, wr, h => by
    simp only [runL] at h
    cases hb : get st.r b with
    | none => simp [hb] at h
    | some cs =>
      simp only [hb] at h
      obtain ⟨a, st', rd', wr', q1, q2, q3, q4, q5⟩ := runL_frame (k _) st _ wr h
      refine ⟨a, st', rd', wr', q1, fun x hx => q2 x (List.mem_cons_of_mem _ hx), q3, q4, fun st2 h1 h2 => ?_⟩
      have e : get st.r b = get st2.r b := h1 (.r b) (q2 _ (List.mem_cons_self ..))
      simp only [runP, ← e, hb]
      exact q5 st2 h1 h2
  | .sr b v k, st, rd, wr, h => by
    simp only [runL] at h
    cases hb : get st.r b with
    | none => simp [hb] at h
    | some cs =>
      simp only [hb] at h
      obtain ⟨a, st', rd', wr', q1, q2, q3, q4, q5⟩ := runL_frame k _ _ _ h
      refine ⟨a, st', rd', wr', q1, fun x hx => q2 x (List.mem_cons_of_mem _ hx), fun x hx => q3 x (List.mem_cons_of_mem _ hx), fun x hx => (keep_r st b v (fun e => hx (q3 _ (by rw [e]; exact List.mem_cons_self ..)))).trans (q4 x hx), fun st2 h1 h2 => ?_⟩
      have e : get st.r b = get st2.r b := h1 (.r b) (q2 _ (List.mem_cons_self ..))
      have := q5 { st2 with r := rep st2.r b v } (fun x hx => agree_r b v (.inr (h1 x hx))) (fun x hx => agree_r b v ((List.mem_cons.1 hx).imp id (h2 x)))
      simp only [runP, ← e, hb]
      refine runP_imp' (fun _ s hs => ⟨hs.1, fun x hx => (keep_r st2 b v (fun e => hx (q3 _ (by rw [e]; exact List.mem_cons_self ..)))).trans (hs.2 x hx)⟩) _ this
  | .nr b v k, st, rd, wr, h => by
    simp only [runL] at h
    cases hb : get st.r b with
    | some cs => simp [hb] at h
    | none =>
      simp only [hb] at h
      obtain ⟨a, st', rd', wr', q1, q2, q3, q4, q5⟩ := runL_frame k _ _ _ h
      refine ⟨a, st', rd', wr', q1, fun x hx => q2 x (List.mem_cons_of_mem _ hx), fun x hx => q3 x (List.mem_cons_of_mem _ hx), fun x hx => (keep_r st b v (fun e => hx (q3 _ (by rw [e]; exact List.mem_cons_self ..)))).trans (q4 x hx), fun st2 h1 h2 => ?_⟩
      have e : get st.r b = get st2.r b := h1 (.r b) (q2 _ (List.mem_cons_self ..))
      have := q5 { st2 with r := rep st2.r b v } (fun x hx => agree_r b v (.inr (h1 x hx))) (fun x hx => agree_r b v ((List.mem_cons.1 hx).imp id (h2 x)))
      simp only [runP, ← e, hb]
      refine runP_imp' (fun _ s hs => ⟨hs.1, fun x hx => (keep_r st2 b v (fun e => hx (q3 _ (by rw [e]; exact List.mem_cons_self ..)))).trans (hs.2 x hx)⟩) _ this
  | .chk c k, st, rd, wr, h => by
    obtain ⟨hc, h⟩ := h
    obtain ⟨a, st', rd', wr', q1, q2, q3, q4, q5⟩ := runL_frame k _ _ _ h
    exact ⟨a, st', rd', wr', q1, q2, q3, q4, fun st2 h1 h2 => ⟨hc, q5 st2 h1 h2⟩⟩
  | .ov o k, st, rd, wr, h => by
    cases o with
    | none => exact h.elim
    | some v => exact runL_frame (k v) _ _ _ h
  | .call f as k, st, rd, wr, h => by
    obtain ⟨r, hr, h⟩ := h
    obtain ⟨a, st', rd', wr', q1, q2, q3, q4, q5⟩ := runL_frame (k r) _ _ _ h
    exact ⟨a, st', rd', wr', q1, q2, q3, q4, fun st2 h1 h2 => ⟨r, hr, q5 st2 h1 h2⟩⟩
  | .all _ _, _, _, _, h => h.elim
end
end Go.X
