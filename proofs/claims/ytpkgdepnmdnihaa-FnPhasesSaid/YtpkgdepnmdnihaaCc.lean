/- Texts: XDet XPtr. -/
import Derived.Test.YtpkgdepnmdnihaaCb
set_option linter.unusedVariables false
set_option linter.unusedSimpArgs false
/- What is so behind code is so of one end: existence can be drawn out. -/
namespace Go.X
section
variable {α : Type} {Te : Nat → List AV → Res → Prop}
theorem runP_det : ∀ (p : Prg α) (st : St) (Q : α → St → Prop), runP Te p st Q → ∃ a st', Q a st' ∧ ∀ Q' : α → St → Prop, Q' a st' → runP Te p st Q'
  | .done a, st, Q, h => ⟨a, st, h, fun _ h => h⟩
  | .fail, st, Q, h => h.elim
  | .gs t k, st, Q, h => runP_det (k _) st Q h
  | .ss t v k, st, Q, h => runP_det k _ Q h
  | .gb t k, st, Q, h => by
    simp only [runP] at h ⊢
    split at h
    · exact runP_det (k _) st Q h
    · exact h.elim
  | .sb t v k, st, Q, h => by
    simp only [runP] at h ⊢
    split at h
    · exact runP_det k _ Q h
    · exact h.elim
  | .nb t v k, st, Q, h => by
    simp only [runP] at h ⊢
    split at h
    · exact h.elim
    · exact runP_det k _ Q h
  | .gr t k, st, Q, h => by
    simp only [runP] at h ⊢
    split at h
    · exact runP_det (k _) st Q h
    · exact h.elim
  | .sr t v k, st, Q, h => by
    simp only [runP] at h ⊢
    split at h
    · exact runP_det k _ Q h
    · exact h.elim
  | .nr t v k, st, Q, h => by
    simp only [runP] at h ⊢
    split at h
    · exact h.elim
    · exact runP_det k _ Q h
  | .chk c k, st, Q, h => by
    obtain ⟨a, st', h1, h2⟩ := runP_det k st Q h.2
    exact ⟨a, st', h1, fun Q' q => ⟨h.1, h2 Q' q⟩⟩
  | .ov none k, st, Q, h => h.elim
  | .ov (some v) k, st, Q, h => runP_det (k v) st Q h
  | .call f as k, st, Q, h => by
    obtain ⟨r, hr, h⟩ := h
    obtain ⟨a, st', h1, h2⟩ := runP_det (k r) st Q h
    exact ⟨a, st', h1, fun Q' q => ⟨r, hr, h2 Q' q⟩⟩
  | .all c k, st, Q, h => by
    obtain ⟨a, st', h1, h2⟩ := runP_det k st Q h.2
    exact ⟨a, st', h1, fun Q' q => ⟨h.1, h2 Q' q⟩⟩
theorem runL_det : ∀ (p : Prg α) (st : St) (rd wr : List Loc) (Q : α → St → List Loc → List Loc → Prop), runL Te p st rd wr Q → ∃ a st' rd' wr', Q a st' rd' wr' ∧ ∀ Q' : α → St → List Loc → List Loc → Prop, Q' a st' rd' wr' → runL Te p st rd wr Q'
  | .done a, st, rd, wr, Q, h => ⟨a, st, rd, wr, h, fun _ h => h⟩
  | .fail, st, rd, wr, Q, h => h.elim
  | .gs t k, st, rd, wr, Q, h => runL_det (k _) st _ _ Q h
  | .ss t v k, st, rd, wr, Q, h => runL_det k _ _ _ Q h
  | .gb t k, st, rd, wr, Q, h => by
    simp only [runL] at h ⊢
    split at h
    · exact runL_det (k _) st _ _ Q h
    · exact h.elim
  | .sb t v k, st, rd, wr, Q, h => by
    simp only [runL] at h ⊢
    split at h
    · exact runL_det k _ _ _ Q h
    · exact h.elim
  | .nb t v k, st, rd, wr, Q, h => by
    simp only [runL] at h ⊢
    split at h
    · exact h.elim
    · exact runL_det k _ _ _ Q h
  | .gr t k, st, rd, wr, Q, h => by
    simp only [runL] at h ⊢
    split at h
    · exact runL_det (k _) st _ _ Q h
    · exact h.elim
  | .sr t v k, st, rd, wr, Q, h => by
    simp only [runL] at h ⊢
    split at h
    · exact runL_det k _ _ _ Q h
    · exact h.elim
  | .nr t v k, st, rd, wr, Q, h => by
    simp only [runL] at h ⊢
    split at h
    · exact h.elim
    · exact runL_det k _ _ _ Q h
  | .chk c k, st, rd, wr, Q, h => by
    obtain ⟨a, st', rd', wr', h1, h2⟩ := runL_det k st _ _ Q h.2
    exact ⟨a, st', rd', wr', h1, fun Q' q => ⟨h.1, h2 Q' q⟩⟩
  | .ov none k, st, rd, wr, Q, h => h.elim
  | .ov (some v) k, st, rd, wr, Q, h => runL_det (k v) st _ _ Q h
  | .call f as k, st, rd, wr, Q, h => by
    obtain ⟨r, hr, h⟩ := h
    obtain ⟨a, st', rd', wr', h1, h2⟩ := runL_det (k r) st _ _ Q h
    exact ⟨a, st', rd', wr', h1, fun Q' q => ⟨r, hr, h2 Q' q⟩⟩
  | .all c k, st, rd, wr, Q, h => h.elim
theorem runOps_det : ∀ (os : List GOp) (st : St) (Q : St → Prop), runOps Te os st Q → ∃ st', Q st' ∧ ∀ Q' : St → Prop, Q' st' → runOps Te os st Q'
  | [], st, Q, h => ⟨st, h, fun _ h => h⟩
  | o :: os, st, Q, h => by
    obtain ⟨a, s1, h1, h2⟩ := runP_det _ _ _ h
    obtain ⟨s2, h3, h4⟩ := runOps_det os s1 Q h1
    exact ⟨s2, h3, fun Q' q => h2 _ (h4 Q' q)⟩
theorem runDraw_det : ∀ (os : List GOp) (st : St) (l : List Log) (Q : St → List Log → Prop), runDraw Te os st l Q → ∃ st' l', Q st' l' ∧ ∀ Q' : St → List Log → Prop, Q' st' l' → runDraw Te os st l Q'
  | [], st, l, Q, h => ⟨st, l, h, fun _ h => h⟩
  | o :: os, st, l, Q, h => by
    obtain ⟨a, s1, rd, wr, h1, h2⟩ := runL_det _ _ _ _ _ h
    obtain ⟨s2, l2, h3, h4⟩ := runDraw_det os s1 _ Q h1
    exact ⟨s2, l2, h3, fun Q' q => h2 _ (h4 Q' q)⟩
theorem runC_det {na base : Nat} : ∀ (x : XCode) (st : St) (Q : Post), runC Te na base x st Q → ∃ ex st', Q ex st' ∧ ∀ Q' : Post, Q' ex st' → runC Te na base x st Q'
  | .skip, st, Q, h => ⟨.nrm, st, h, fun _ h => h⟩
  | .reg os, st, Q, h => by
    obtain ⟨s, h1, h2⟩ := runOps_det os st _ h
    exact ⟨.nrm, s, h1, fun Q' q => h2 _ q⟩
  | .draw os es, st, Q, h => by
    obtain ⟨s, l, h1, h2⟩ := runDraw_det os st _ _ h
    exact ⟨.nrm, s, h1.2, fun Q' q => h2 _ ⟨h1.1, q⟩⟩
  | .seq a b, st, Q, h => by
    obtain ⟨ex, s, h1, h2⟩ := runC_det a st _ h
    cases ex with
    | nrm =>
      obtain ⟨ex2, s2, h3, h4⟩ := runC_det b s Q h1
      exact ⟨ex2, s2, h3, fun Q' q => h2 _ (h4 Q' q)⟩
    | exit i => exact ⟨_, s, h1, fun Q' q => h2 _ q⟩
    | ret => exact ⟨_, s, h1, fun Q' q => h2 _ q⟩
  | .cond t a b, st, Q, h => by
    simp only [runC] at h ⊢
    split at h
    · rename_i c hc
      cases c with
      | true =>
        obtain ⟨ex, s, h1, h2⟩ := runC_det a st Q (h.1 rfl)
        exact ⟨ex, s, h1, fun Q' q => ⟨fun _ => h2 Q' q, fun e => Bool.noConfusion e⟩⟩
      | false =>
        obtain ⟨ex, s, h1, h2⟩ := runC_det b st Q (h.2 rfl)
        exact ⟨ex, s, h1, fun Q' q => ⟨fun e => Bool.noConfusion e, fun _ => h2 Q' q⟩⟩
    · exact h.elim
  | .block id a, st, Q, h => by
    obtain ⟨ex, s, h1, h2⟩ := runC_det a st _ h
    cases ex with
    | nrm => exact ⟨_, s, h1, fun Q' q => h2 _ q⟩
    | ret => exact ⟨_, s, h1, fun Q' q => h2 _ q⟩
    | exit i =>
      by_cases e : i = id
      · exact ⟨.nrm, s, by simpa only [InBlock, if_pos e] using h1, fun Q' q => h2 _ (by simpa only [InBlock, if_pos e] using q)⟩
      · exact ⟨.exit i, s, by simpa only [InBlock, if_neg e] using h1, fun Q' q => h2 _ (by simpa only [InBlock, if_neg e] using q)⟩
  | .loop ks a, st, Q, h => by
    obtain ⟨I, m, h0, hr⟩ := h
    have mono : ∀ (s : St) (Q1 Q2 : Post), runC Te na base a s Q1 → (∀ e s, Q1 e s → Q2 e s) → runC Te na base a s Q2 := fun s Q1 Q2 q1 q2 => by
      obtain ⟨e, s', q3, q4⟩ := runC_det a s Q1 q1
      exact q4 Q2 (q2 _ _ q3)
    have key : ∀ (n k : Nat), k < n → ∀ s, I k s → ∃ ex st', Q ex st' ∧ ∀ Q' : Post, Q' ex st' → ∃ (J : Nat → St → Prop) (m : Nat), J m s ∧ ∀ k s, J k s → runC Te na base a s (Then (fun s' => ∃ k', k' < k ∧ J k' (norm na base ks s')) Q') := by
      intro n
      induction n with
      | zero => intro k hk; omega
      | succ n ih =>
        intro k hk s hs
        obtain ⟨ex, s1, q1, q2⟩ := runC_det a s _ (hr k s hs)
        cases ex with
        | nrm =>
          obtain ⟨k', q3, q4⟩ := q1
          obtain ⟨ex2, s2, q5, q6⟩ := ih k' (by omega) _ q4
          refine ⟨ex2, s2, q5, fun Q' q => ?_⟩
          obtain ⟨J, m', q7, q8⟩ := q6 Q' q
          refine ⟨fun k s0 => J k s0 ∨ (k = m' + 1 ∧ s0 = s), m' + 1, .inr ⟨rfl, rfl⟩, ?_⟩
          rintro k0 s0 (q9 | ⟨rfl, rfl⟩)
          · refine mono _ _ _ (q8 k0 s0 q9) (fun e s q => ?_)
            cases e with
            | nrm => obtain ⟨k', z1, z2⟩ := q; exact ⟨k', z1, .inl z2⟩
            | exit i => exact q
            | ret => exact q
          · exact q2 _ ⟨m', by omega, .inl q7⟩
        | exit i => exact ⟨_, s1, q1, fun Q' q => ⟨fun k s0 => s0 = s, 0, rfl, fun k s0 e => by subst e; exact q2 _ q⟩⟩
        | ret => exact ⟨_, s1, q1, fun Q' q => ⟨fun k s0 => s0 = s, 0, rfl, fun k s0 e => by subst e; exact q2 _ q⟩⟩
    exact key (m + 1) m (by omega) _ h0
  | .norm ks a, st, Q, h => runC_det a _ Q h
  | .exit id, st, Q, h => ⟨_, st, h, fun _ h => h⟩
  | .ret, st, Q, h => ⟨_, st, h, fun _ h => h⟩
end
/-- A function's end, where more than one answer is good. -/
def EndFnE (Te : Nat → List AV → Res → Prop) (as : List AV) (rs : List RV) (R : Res → Prop) : Post := fun ex st => (ex = .nrm ∨ ex = .ret) ∧ runP Te (leaveP as rs) st (fun r _ => R r)
theorem EE_nrm {Te : Nat → List AV → Res → Prop} {as : List AV} {rs : List RV} {R : Res → Prop} {s : List (Nat × SV)} {b : List (Nat × List Cel)} {r : List (Nat × List T)} : EndFnE Te as rs R .nrm ⟨s, b, r⟩ = runP Te (leaveP as rs) ⟨s, b, r⟩ (fun r _ => R r) := by simp [EndFnE]
theorem EE_ret {Te : Nat → List AV → Res → Prop} {as : List AV} {rs : List RV} {R : Res → Prop} {s : List (Nat × SV)} {b : List (Nat × List Cel)} {r : List (Nat × List T)} : EndFnE Te as rs R .ret ⟨s, b, r⟩ = runP Te (leaveP as rs) ⟨s, b, r⟩ (fun r _ => R r) := by simp [EndFnE]
attribute [go_sem ↓] EE_nrm EE_ret
theorem some_of {Te : Nat → List AV → Res → Prop} {x : FnX} {as : List AV} {R : Res → Prop} (h1 : as.length ≤ x.n) (h : runC Te as.length (x.n + as.length) x.code (enterSt as) (EndFnE Te as x.rs R)) : ∃ r0, R r0 ∧ RunFn Te x as r0 := by
  obtain ⟨ex, st, ⟨h2, h3⟩, h4⟩ := runC_det _ _ _ h
  obtain ⟨r, st', h5, h6⟩ := runP_det _ _ _ h3
  exact ⟨r, h5, h1, h4 _ ⟨h2, h6 _ rfl⟩⟩
end Go.X

/- Functions that hand back a pointer to what they have made. -/
namespace Go.X
structure FnP where
  n : Nat
  t : Nat
  code : XCode
def fnPOk (P : Program) (f : Nat) (x : FnP) : Bool :=
  match P.funcs[f]? with
  | some fn => fn.ntmps == x.n && (match fn.results.toList with | [.tmp t] => t == x.t | _ => false) && (match fn.body with
    | some c => codeOk P x.n c x.code
    | none => false)
  | none => false
def EndFnP (Te : Nat → List AV → Res → Prop) (as : List AV) (t : Nat) (R : Res → Prop) : Post := fun ex st => (ex = .nrm ∨ ex = .ret) ∧ runP Te (leavePtr as t) st (fun r _ => R r)
def RunFnP (Te : Nat → List AV → Res → Prop) (x : FnP) (as : List AV) (R : Res → Prop) : Prop :=
  as.length ≤ x.n ∧ runC Te as.length (x.n + as.length) x.code (enterSt as) (EndFnP Te as x.t R)
theorem EP_nrm {Te : Nat → List AV → Res → Prop} {as : List AV} {t : Nat} {R : Res → Prop} {s : List (Nat × SV)} {b : List (Nat × List Cel)} {r : List (Nat × List T)} : EndFnP Te as t R .nrm ⟨s, b, r⟩ = runP Te (leavePtr as t) ⟨s, b, r⟩ (fun r _ => R r) := by simp [EndFnP]
theorem EP_ret {Te : Nat → List AV → Res → Prop} {as : List AV} {t : Nat} {R : Res → Prop} {s : List (Nat × SV)} {b : List (Nat × List Cel)} {r : List (Nat × List T)} : EndFnP Te as t R .ret ⟨s, b, r⟩ = runP Te (leavePtr as t) ⟨s, b, r⟩ (fun r _ => R r) := by simp [EndFnP]
attribute [go_sem ↓] EP_nrm EP_ret
attribute [go_sem] leavePtr
theorem some_ofP {Te : Nat → List AV → Res → Prop} {x : FnP} {as : List AV} {R : Res → Prop} (h : RunFnP Te x as R) : ∃ r0, R r0 ∧ RunFnP Te x as (fun r => r = r0) := by
  obtain ⟨h1, h⟩ := h
  obtain ⟨ex, st, ⟨h2, h3⟩, h4⟩ := runC_det _ _ _ h
  obtain ⟨r, st', h5, h6⟩ := runP_det _ _ _ h3
  exact ⟨r, h5, h1, h4 _ ⟨h2, h6 _ rfl⟩⟩
theorem tellsP {P : Program} {KP : Kept} {f : Nat} {x : FnP} {as : List AV} {r0 : Res} (hm : P.follows .mixedOrders = true) (hf : fnPOk P f x = true) (h : RunFnP (Tells P KP) x as (fun r => r = r0)) : Tells P KP f as r0 := by
  unfold fnPOk at hf
  split at hf
  · rename_i fn hfn
    simp only [Bool.and_eq_true, beq_iff_eq] at hf
    obtain ⟨⟨h1, h2⟩, h3⟩ := hf
    split at h3
    · rename_i c hc
      split at h2
      · rename_i t ht
        simp only [beq_iff_eq] at h2
        subst h2
        rw [← h1] at h3
        obtain ⟨h4, h5⟩ := h
        have hr : fn.results = #[.tmp x.t] := by
          apply Array.toList_inj.1
          rw [ht]
        refine Tells.ofPtr hfn hc (by omega) hr fun X eX hX => by subst eX; exact runC_ok hm hX (by omega) _ _ h3 h5
      · cases h2
    · cases h3
  · cases hf
end Go.X

