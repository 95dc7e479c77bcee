/- Code as a tree of small steps, and what is so behind it. -/
import Derived.Test.YtihpdefnajimgaaXNorm
namespace Go.X
inductive XCode where
  | skip
  | reg (os : List GOp)
  | draw (os : List GOp) (es : List (List Nat))
  | seq (a b : XCode)
  | cond (t : Nat) (a b : XCode)
  | block (id : Nat) (a : XCode)
  | loop (ks : List Nat) (a : XCode)
  | norm (ks : List Nat) (a : XCode)
  | exit (id : Nat)
  | ret
abbrev Post := Ex → St → Prop
/-- na: how many arguments; base: the first free name. -/
def runC (Te : Nat → List AV → Res → Prop) (na base : Nat) : XCode → St → Post → Prop
  | .skip, st, Q => Q .nrm st
  | .reg os, st, Q => runOps Te os st (Q .nrm)
  | .draw os es, st, Q => runDraw Te os st [] (fun st' l => drawOk es l = true ∧ Q .nrm st')
  | .seq a b, st, Q => runC Te na base a st (Then (fun st' => runC Te na base b st' Q) Q)
  | .cond t a b, st, Q => match get st.s t with
    | some (.one (.pv (.bool c))) => (c = true → runC Te na base a st Q) ∧ (c = false → runC Te na base b st Q)
    | _ => False
  | .block id a, st, Q => runC Te na base a st (InBlock id Q)
  | .loop ks a, st, Q => ∃ (I : Nat → St → Prop) (m : Nat), I m (norm na base ks st) ∧ ∀ k s, I k s → runC Te na base a s (Then (fun s' => ∃ k', k' < k ∧ I k' (norm na base ks s')) Q)
  | .norm ks a, st, Q => runC Te na base a (norm na base ks st) Q
  | .exit id, st, Q => Q (.exit id) st
  | .ret, st, Q => Q .ret st
def codeOk (P : Program) (n : Nat) : Code → XCode → Bool
  | c, .norm _ x => codeOk P n c x
  | .skip, .skip => true
  | .region _ ops false, .reg os => regL P n ops ops.toList os
  | .region _ ops true, .draw os es => regL P n ops ops.toList os && edgesOf ops == es
  | .seq a b, .seq x y => codeOk P n a x && codeOk P n b y
  | .cond (.tmp t) a b, .cond t' x y => t == t' && codeOk P n a x && codeOk P n b y
  | .block i a, .block j x => i == j && codeOk P n a x
  | .loop a, .loop _ x => codeOk P n a x
  | .exit i, .exit j => i == j
  | .ret, .ret => true
  | _, _ => false
section
variable {P : Program} {X : Ctx} {n na base : Nat}
theorem weak_norm (hX : NA X na) (hb : na ≤ base) (ks : List Nat) (st : St) : Weak X n st (norm na base ks st) := fun _ _ _ h => norm_ok ks hX hb h
theorem runC_ok (hm : P.follows .mixedOrders = true) (hX : NA X na) (hb : na ≤ base) : ∀ (x : XCode) (c : Code) {st : St} {Q : Post}, codeOk P n c x = true → runC (Tells P) na base x st Q → xC P X n c st Q
  | .norm ks x, c, st, Q, hk, h => x_weak (weak_norm hX hb ks st) (runC_ok hm hX hb x c (by cases c <;> simpa [codeOk] using hk) h)
  | .skip, c, st, Q, hk, h => by
    cases c <;> simp [codeOk] at hk
    exact x_skip h
  | .reg os, c, st, Q, hk, h => by
    cases c <;> try (simp [codeOk] at hk; done)
    rename_i id ops d
    cases d <;> simp only [codeOk] at hk
    · exact x_region hk h
    · cases hk
  | .draw os es, c, st, Q, hk, h => by
    cases c <;> try (simp [codeOk] at hk; done)
    rename_i id ops d
    cases d <;> simp only [codeOk, Bool.and_eq_true, beq_iff_eq] at hk
    · cases hk
    · exact x_draw hm hk.1 hk.2 h
  | .seq x y, c, st, Q, hk, h => by
    cases c <;> simp [codeOk] at hk
    exact x_seq (x_mono (runC_ok hm hX hb x _ hk.1 h) (fun e s hq => by
      cases e with
      | nrm => exact runC_ok hm hX hb y _ hk.2 hq
      | _ => exact hq))
  | .cond t x y, c, st, Q, hk, h => by
    cases c <;> try (simp [codeOk] at hk; done)
    rename_i o a b
    cases o <;> simp [codeOk] at hk
    obtain ⟨⟨rfl, h1⟩, h2⟩ := hk
    simp only [runC] at h
    split at h
    · rename_i b' hg
      exact x_cond hg (fun e => runC_ok hm hX hb x _ h1 (h.1 e)) (fun e => runC_ok hm hX hb y _ h2 (h.2 e))
    · exact h.elim
  | .block id x, c, st, Q, hk, h => by
    cases c <;> simp [codeOk] at hk
    obtain ⟨rfl, hk⟩ := hk
    exact x_block (runC_ok hm hX hb x _ hk h)
  | .loop ks x, c, st, Q, hk, h => by
    cases c <;> simp [codeOk] at hk
    obtain ⟨I, m, h0, hr⟩ := h
    refine x_loop I m (weak_norm hX hb ks st) h0 (fun k s hI => x_mono (runC_ok hm hX hb x _ hk (hr k s hI)) (fun e s' hq => ?_))
    cases e with
    | nrm =>
      obtain ⟨k', h1, h2⟩ := hq
      exact ⟨_, k', weak_norm hX hb ks s', h1, h2⟩
    | _ => exact hq
  | .exit id, c, st, Q, hk, h => by
    cases c <;> simp [codeOk] at hk
    obtain rfl := hk
    exact x_exit h
  | .ret, c, st, Q, hk, h => by
    cases c <;> simp [codeOk] at hk
    exact x_ret h
end
/-- What a function is, for its contract. -/
structure FnX where
  n : Nat
  rs : List RV
  code : XCode
def fnOk (P : Program) (f : Nat) (x : FnX) : Bool :=
  match P.funcs[f]? with
  | some fn => fn.ntmps == x.n && rvsOk P fn.results.toList x.rs && (match fn.body with
    | some c => codeOk P x.n c x.code
    | none => false)
  | none => false
def EndFn (Te : Nat → List AV → Res → Prop) (as : List AV) (rs : List RV) (r0 : Res) : Post := fun ex st => (ex = .nrm ∨ ex = .ret) ∧ runP Te (leaveP as rs) st (fun r _ => r = r0)
def RunFn (Te : Nat → List AV → Res → Prop) (x : FnX) (as : List AV) (r0 : Res) : Prop :=
  as.length ≤ x.n ∧ runC Te as.length (x.n + as.length) x.code (enterSt as) (EndFn Te as x.rs r0)
theorem tells {P : Program} {f : Nat} {x : FnX} {as : List AV} {r0 : Res} (hm : P.follows .mixedOrders = true) (hf : fnOk P f x = true) (h : RunFn (Tells P) x as r0) : Tells P f as r0 := by
  unfold fnOk at hf
  split at hf
  · rename_i fn hfn
    simp only [Bool.and_eq_true, beq_iff_eq] at hf
    obtain ⟨⟨h1, h2⟩, h3⟩ := hf
    split at h3
    · rename_i c hc
      rw [← h1] at h3
      obtain ⟨h4, h5⟩ := h
      refine Tells.of hfn hc (by omega) h2 fun X hX => runC_ok hm hX (by omega) _ _ h3 h5
    · cases h3
  · cases hf
end Go.X
