/- How a function is left; the rules of code. -/
import Derived.Test.YtihpdefnajimgaaXCall
import Derived.Deep.LoopGhost
namespace Go.X
section
variable {P : Program} {X : Ctx} {n : Nat} {g : Gh} {st : St} {hand : List G} {a : Act} {w : World} {α : Type} {Te : Nat → List AV → Res → Prop}
inductive RV where
  | tmp (t : Nat)
  | cell (t : Nat) (m : Option Nat)
def resV (v : SV) (k : AV → Prg α) : Prg α :=
  match v with
  | .one c => takeC c fun t => k (.one t)
  | .agg cs => takeL cs fun ts => k (.agg ts)
  | _ => .fail
def leaveR : List RV → (List AV → Prg α) → Prg α
  | [], k => k []
  | .tmp t :: rs, k => .gs t fun v => resV v fun x => leaveR rs fun l => k (x :: l)
  | .cell t m :: rs, k => .gs t fun v => match v with
    | .bp b off => .gb b fun cs => match m with
      | none => match cs[off]? with
        | some c => takeC c fun x => leaveR rs fun l => k (.one x :: l)
        | none => .fail
      | some m => .chk (decide (off + m ≤ cs.length)) (takeL ((cs.drop off).take m) fun xs => leaveR rs fun l => k (.agg xs :: l))
    | _ => .fail
def leaveO : Nat → List AV → (List (List T) → Prg α) → Prg α
  | _, [], k => k []
  | i, .ptr _ :: as, k => .gb i fun cs => takeL cs fun ts => leaveO (i + 1) as fun l => k (ts :: l)
  | i, _ :: as, k => .gr i fun ts => .sr i (ts.map goneC) (leaveO (i + 1) as fun l => k (ts :: l))
/-- What comes back: the results, and what is left of what was handed over. -/
def leaveP (as : List AV) (rs : List RV) : Prg Res := leaveR rs fun r => leaveO 0 as fun os => .done ⟨r, os⟩
/-- A pointer to a new variable comes back. -/
def leavePtr (as : List AV) (t : Nat) : Prg Res := .gs t fun v => match v with
  | .bp b 0 => .chk (decide (as.length ≤ b)) (.gb b fun cs => takeL cs fun ts => leaveO 0 as fun os => .done ⟨[.ptr ts], os⟩)
  | _ => .fail
def rvsOk (P : Program) : List ResultVar → List RV → Bool
  | [], [] => true
  | .tmp t :: xs, .tmp t' :: ys => t == t' && rvsOk P xs ys
  | .cell t ty :: xs, .cell t' m :: ys => t == t' && aggT P ty m && rvsOk P xs ys
  | _, _ => false
def noPtr : GA → Prop
  | .ptr .. => False
  | _ => True
theorem resV_ok {v : SV} {u : Value} {k : AV → Prg α} {R : α → St → Prop} (h : Sim X n g st hand a w) (hv : SlotOK X.S g w v u) (hp : runP Te (resV v k) st R) :
    ∃ g' st' x, Sim X n g' st' (GA.ts x ++ hand) a w ∧ Keeps Never g g' ∧ x.val = u ∧ noPtr x ∧ runP Te (k x.er) st' R ∧ g'.gb = g.gb ∧ st'.b = st.b := by
  unfold resV at hp
  split at hp
  · simp only [SlotOK] at hv
    obtain ⟨g', st', t, h1, h2, h3, h4, h5, h6, h7⟩ := take_ok h hv hp
    exact ⟨g', st', .one t, h1, h2, h3, trivial, h4, h5, h7⟩
  · simp only [SlotOK] at hv
    obtain ⟨us, rfl, hc⟩ := hv
    obtain ⟨g', st', ts, h1, h2, h3, h4, h5, h6, h7⟩ := takes_ok h hc hp
    exact ⟨g', st', .agg ts, h1, h2, by simp [GA.val, h3], trivial, h4, h5, h7⟩
  · exact hp.elim
def runRes (P : Program) (tmps : Array Value) (w : World) : List ResultVar → List Value → Prop
  | [], [] => True
  | .tmp t :: xs, v :: vs => v = tmps.getD t undef ∧ runRes P tmps w xs vs
  | .cell t ty :: xs, v :: vs => (∃ ad, tmps.getD t undef = .pointer (some ad) ∧ (loadVar ty ad).run P w = .ok v w) ∧ runRes P tmps w xs vs
  | _, _ => False
theorem leaveR_ok {R : α → St → Prop} : ∀ {xs : List ResultVar} {rs : List RV} {k : List AV → Prg α} {g : Gh} {st : St} {hand : List G}, Sim X n g st hand a w → rvsOk P xs rs = true → runP Te (leaveR rs k) st R →
    ∃ (g' : Gh) (st' : St) (ys : List GA), Sim X n g' st' (ys.flatMap GA.ts ++ hand) a w ∧ runRes P a.tmps w xs (ys.map GA.val) ∧ (∀ y ∈ ys, noPtr y) ∧ runP Te (k (ys.map GA.er)) st' R ∧ g'.gb = g.gb ∧ st'.b = st.b
  | [], [], k, g, st, hand, h, _, hp => ⟨g, st, [], h, trivial, fun _ h => (by cases h), hp, rfl, rfl⟩
  | .tmp t :: xs, .tmp t' :: rs, k, g, st, hand, h, ho, hp => by
    simp only [rvsOk, Bool.and_eq_true, beq_iff_eq] at ho
    obtain ⟨rfl, ho⟩ := ho
    simp only [leaveR, runP] at hp
    have hv : ∃ v, SlotOK X.S g w v (a.tmps.getD t undef) ∧ (get st.s t).getD .un = v := by
      cases hg : get st.s t with
      | none => exact ⟨.un, by simp [SlotOK], rfl⟩
      | some v => exact ⟨v, h.slots t v hg, rfl⟩
    obtain ⟨v, hv, e⟩ := hv
    rw [e] at hp
    obtain ⟨g1, st1, x, h1, _, e1, hn1, hp1, b1, bb1⟩ := resV_ok h hv hp
    obtain ⟨g2, st2, ys, h2, e2, hn2, hp2, b2, bb2⟩ := leaveR_ok h1 ho hp1
    refine ⟨g2, st2, x :: ys, h2.sub (fun t ht => ?_) (fun b => ?_), ⟨e1, e2⟩, fun y hy => ?_, hp2, b2.trans b1, bb2.trans bb1⟩
    · simp only [List.flatMap_cons, List.mem_append] at ht ⊢
      rcases ht with (h | h) | h
      · exact .inr (.inl h)
      · exact .inl h
      · exact .inr (.inr h)
    · simp only [List.flatMap_cons, cntL_append]; omega
    · rcases List.mem_cons.1 hy with rfl | hy
      · exact hn1
      · exact hn2 y hy
  | .cell t ty :: xs, .cell t' m :: rs, k, g, st, hand, h, ho, hp => by
    simp only [rvsOk, Bool.and_eq_true, beq_iff_eq] at ho
    obtain ⟨⟨rfl, hty⟩, ho⟩ := ho
    simp only [leaveR, runP] at hp
    cases hg : get st.s t with
    | none => simp [hg] at hp; exact hp.elim
    | some v =>
      rw [hg] at hp
      simp only [Option.getD_some] at hp
      have hv := h.slots t v hg
      split at hp
      · rename_i b off
        simp only [SlotOK] at hv
        obtain ⟨A, hA, e⟩ := hv
        simp only [runP] at hp
        cases hb : get st.b b with
        | none => simp [hb] at hp
        | some cs =>
          simp only [hb] at hp
          obtain ⟨A', us, hA', _, hM, hC, _⟩ := h.boxes b cs hb
          rw [hA] at hA'
          simp at hA'
          subst hA'
          have fin : ∀ (y : GA) (g1 : Gh) (st1 : St), Sim X n g1 st1 (y.ts ++ hand) a w → (loadVar ty ⟨A.block, A.off + off, none⟩).run P w = .ok y.val w → noPtr y → g1.gb = g.gb → st1.b = st.b → runP Te (leaveR rs fun l => k (y.er :: l)) st1 R →
              ∃ (g' : Gh) (st' : St) (ys : List GA), Sim X n g' st' (ys.flatMap GA.ts ++ hand) a w ∧ runRes P a.tmps w (.cell t ty :: xs) (ys.map GA.val) ∧ (∀ y ∈ ys, noPtr y) ∧ runP Te (k (ys.map GA.er)) st' R ∧ g'.gb = g.gb ∧ st'.b = st.b := by
            intro y g1 st1 h1 hl hn1 b1 bb1 hp1
            obtain ⟨g2, st2, ys, h2, e2, hn2, hp2, b2, bb2⟩ := leaveR_ok h1 ho hp1
            refine ⟨g2, st2, y :: ys, h2.sub (fun t ht => ?_) (fun b => ?_), ⟨⟨_, e, hl⟩, e2⟩, fun y' hy => ?_, hp2, b2.trans b1, bb2.trans bb1⟩
            · simp only [List.flatMap_cons, List.mem_append] at ht ⊢
              rcases ht with (h | h) | h
              · exact .inr (.inl h)
              · exact .inl h
              · exact .inr (.inr h)
            · simp only [List.flatMap_cons, cntL_append]; omega
            · rcases List.mem_cons.1 hy with rfl | hy
              · exact hn1
              · exact hn2 y' hy
          cases m with
          | none =>
            simp only at hp
            split at hp
            · rename_i c hc
              obtain ⟨u, hu, hcu⟩ := hC.get hc
              obtain ⟨g1, st1, x, h1, _, e1, hp1, b1, _, bb1⟩ := take_ok h hcu hp
              have hl := run_loadOne (P := P) (w := w) hty (hM off u hu).1
              simp only [Instr.loadAt, Instr.sureAddr, Sem.run_bind, Sem.run_pure, Result.andThen_ok] at hl
              exact fin (.one x) g1 st1 h1 (by rw [hl]; simp [GA.val, e1]) trivial b1 bb1 hp1
            · exact hp.elim
          | some m =>
            simp only [runP, decide_eq_true_eq] at hp
            obtain ⟨hle, hp⟩ := hp
            obtain ⟨g1, st1, ts, h1, _, e1, hp1, b1, _, bb1⟩ := takes_ok h ((hC.drop off).take m) hp
            have hl2 : ((us.drop off).take m).length = m := by have := hC.1; simp; omega
            have hl := run_loadAgg (P := P) (w := w) (t := ty) (ad := ⟨A.block, A.off + off, none⟩) (us := (us.drop off).take m) (by rw [hl2]; exact hty) (fun j u hj => by
              rw [List.getElem?_take] at hj
              split at hj
              · rw [List.getElem?_drop] at hj
                rw [add_none, Nat.add_assoc]
                exact (hM _ u hj).1
              · cases hj)
            simp only [Instr.loadAt, Instr.sureAddr, Sem.run_bind, Sem.run_pure, Result.andThen_ok] at hl
            exact fin (.agg ts) g1 st1 h1 (by rw [hl]; simp [GA.val, e1]) trivial b1 bb1 hp1
      · exact hp.elim
  | [], _ :: _, _, _, _, _, _, ho, _ => by simp [rvsOk] at ho
  | _ :: _, [], _, _, _, _, _, ho, _ => by simp [rvsOk] at ho
  | .tmp _ :: _, .cell _ _ :: _, _, _, _, _, _, ho, _ => by simp [rvsOk] at ho
  | .cell _ _ :: _, .tmp _ :: _, _, _, _, _, _, ho, _ => by simp [rvsOk] at ho
def resOf (tmps : Array Value) : ResultVar → Sem Value
  | .tmp t => pure (tmps.getD t undef)
  | .cell t ty => do loadVar ty (← asAddr (tmps.getD t undef))
theorem runRes_ok : ∀ {xs : List ResultVar} {vs : List Value}, runRes P a.tmps w xs vs → (xs.mapM (resOf a.tmps)).run P w = .ok vs w
  | [], [], _ => by simp
  | .tmp t :: xs, v :: vs, h => by
    have := runRes_ok h.2
    simp [List.mapM_cons, this, h.1, resOf]
  | .cell t ty :: xs, v :: vs, h => by
    have := runRes_ok h.2
    obtain ⟨ad, e, hl⟩ := h.1
    simp only [Array.getD_eq_getD_getElem?] at e
    simp [List.mapM_cons, this, e, asAddr, hl, resOf]
  | [], _ :: _, h => h.elim
  | .tmp _ :: _, [], h => h.elim
  | .cell _ _ :: _, [], h => h.elim
theorem results_eq (fn : Func) (tmps : Array Value) : results fn tmps = (do let vs ← fn.results.mapM (resOf tmps); pure (if h : vs.size = 1 then vs[0] else .tuple vs)) := by
  unfold results
  congr 1
theorem results_ok {fn : Func} {ys : List GA} (h : runRes P a.tmps w fn.results.toList (ys.map GA.val)) : (results fn a.tmps).run P w = .ok (resVal ys) w := by
  have h1 := runRes_ok h
  rw [results_eq, Array.mapM_eq_mapM_toList]
  simp only [Sem.run_bind, Sem.run_map, h1, Result.andThen_ok]
  match ys with
  | [] => simp [resVal]
  | [y] => simp [resVal]
  | y :: y' :: ys => simp [resVal]
/-- What is left in a name is all taken out. -/
theorem Sim.giveAll (h : Sim X n g st hand a w) {i : Nat} {ts : List T} (hr : get st.r i = some ts) : ∃ g' gs, Sim X n g' { st with r := rep st.r i (ts.map goneC) } (gs ++ hand) a w ∧ g.gr i = some gs ∧ gs.map er = ts ∧ g'.gb = g.gb ∧ ∀ k, k ≠ i → g'.gr k = g.gr k := by
  obtain ⟨gs, hg, rfl⟩ := h.roots i ts hr
  have hk : Keeps Never g (g.setR i (gs.map goneC)) := by
    refine ⟨fun _ _ h => h, fun k hk => ?_, fun r c p m' _ hr hn hh => ?_⟩
    · by_cases e : k = i
      · subst e; rw [setR_same]; simp
      · rwa [setR_ne _ _ e]
    · by_cases e : r = i
      · subst e
        simp only [nodeAt, setR_same, Option.bind_some, hg, List.getElem?_map] at hn ⊢
        cases hc : gs[c]? with
        | none => simp [hc] at hn
        | some t =>
          simp only [hc, Option.map_some, Option.bind_some] at hn ⊢
          cases t with
          | pv v => exact ⟨m', hn, hh, rfl⟩
          | no v => exact ⟨m', hn, hh, rfl⟩
          | sl o z v rows =>
            cases o with
            | false => exact ⟨m', hn, hh, rfl⟩
            | true =>
              simp only [goneC] at hn
              cases p with
              | nil => simp [atP] at hn; subst hn; exact ⟨_, rfl, rfl, rfl⟩
              | cons x p => simp [atP, Tr.own] at hn
      · rw [nodeAt_setR_ne _ _ e] at hn
        exact ⟨m', hn, hh, rfl⟩
  have e : (gs.map goneC).map er = (gs.map er).map goneC := by
    rw [List.map_map, List.map_map]
    apply List.map_congr_left
    intro t _
    exact goneC_er t
  have := h.reroot (hand' := gs ++ hand) i (gs.map goneC) hk (fun t ht => by obtain ⟨u, hu, rfl⟩ := List.mem_map.1 ht; exact goneC_rp (h.reps i gs hg u hu))
    (fun t ht => (List.mem_append.1 ht).elim (fun ht => h.reps i gs hg t ht) (fun ht => h.held t ht)) (fun b => by
      have z : cntL b (gs.map goneC) = 0 := by
        generalize gs = l
        induction l with
        | nil => rfl
        | cons t l ih => simp [cntL, ih, goneC_cnt]
      rw [z, hg, cntL_append]
      simp [rcnt])
    (fun old ho => by
      rw [hg] at ho
      simp at ho
      subst ho
      rw [List.map_map]
      apply List.map_congr_left
      intro t _
      exact goneC_hdr t)
  rw [e] at this
  exact ⟨_, gs, this, hg, rfl, rfl, fun k hk => setR_ne _ _ hk⟩
/-! ### Code -/
inductive Ex where
  | nrm
  | exit (id : Nat)
  | ret
def exOf : Exit → Ex → Prop
  | .normal, .nrm => True
  | .exit i, .exit j => i = j
  | .ret, .ret => True
  | _, _ => False
abbrev Done (X : Ctx) (n : Nat) (Q : Ex → St → Prop) : Exit → Act → World → Prop := fun e a w => ∃ ex g st, exOf e ex ∧ Q ex st ∧ Sim X n g st [] a w
/-- From a state that reads so the code comes to one that the post bears. -/
def xC (P : Program) (X : Ctx) (n : Nat) (c : Code) (st : St) (Q : Ex → St → Prop) : Prop := ∀ g a w, Sim X n g st [] a w → c.wp P (Done X n Q) a w
def Then (K : St → Prop) (Q : Ex → St → Prop) : Ex → St → Prop
  | .nrm, st => K st
  | e, st => Q e st
theorem x_seq {c d : Code} {st : St} {Q : Ex → St → Prop} (h : xC P X n c st (Then (fun st' => xC P X n d st' Q) Q)) : xC P X n (.seq c d) st Q := fun g a w hs =>
  wp_seq (wp_mono (h g a w hs) fun e a' w' hq => by
    obtain ⟨ex, g', st', h1, h2, h3⟩ := hq
    cases e <;> cases ex <;> simp only [exOf] at h1 <;> first
      | exact h2 g' a' w' h3
      | exact ⟨.exit _, g', st', h1, h2, h3⟩
      | exact ⟨.ret, g', st', trivial, h2, h3⟩)
theorem x_skip {st : St} {Q : Ex → St → Prop} (h : Q .nrm st) : xC P X n .skip st Q := fun g a w hs => wp_skip ⟨.nrm, g, st, trivial, h, hs⟩
theorem x_ret {st : St} {Q : Ex → St → Prop} (h : Q .ret st) : xC P X n .ret st Q := fun g a w hs => wp_ret ⟨.ret, g, st, trivial, h, hs⟩
theorem x_exit {id : Nat} {st : St} {Q : Ex → St → Prop} (h : Q (.exit id) st) : xC P X n (.exit id) st Q := fun g a w hs => wp_exit ⟨.exit id, g, st, rfl, h, hs⟩
def InBlock (id : Nat) (Q : Ex → St → Prop) : Ex → St → Prop
  | .exit i, st => if i = id then Q .nrm st else Q (.exit i) st
  | e, st => Q e st
theorem x_block {id : Nat} {c : Code} {st : St} {Q : Ex → St → Prop} (h : xC P X n c st (InBlock id Q)) : xC P X n (.block id c) st Q := fun g a w hs =>
  wp_block (wp_mono (h g a w hs) fun e a' w' hq => by
    obtain ⟨ex, g', st', h1, h2, h3⟩ := hq
    cases e <;> cases ex <;> simp only [exOf] at h1
    · exact ⟨.nrm, g', st', trivial, h2, h3⟩
    · subst h1
      rename_i i
      simp only [InBlock] at h2
      simp only [Exit.inBlock]
      split
      · rename_i e; rw [if_pos e] at h2; exact ⟨.nrm, g', st', trivial, h2, h3⟩
      · rename_i e; rw [if_neg e] at h2; exact ⟨.exit i, g', st', rfl, h2, h3⟩
    · exact ⟨.ret, g', st', trivial, h2, h3⟩)
theorem x_cond {t : Nat} {c d : Code} {st : St} {Q : Ex → St → Prop} {b : Bool} (hb : get st.s t = some (.one (.pv (.bool b)))) (h1 : b = true → xC P X n c st Q) (h2 : b = false → xC P X n d st Q) : xC P X n (.cond (.tmp t) c d) st Q := fun g a w hs => by
  have hv := hs.slots t _ hb
  have e := one_pv hv
  cases b with
  | true => exact wp_cond_true (by exact e) (h1 rfl g a w hs)
  | false => exact wp_cond_false (by exact e) (h2 rfl g a w hs)
theorem x_mono {c : Code} {st : St} {Q Q' : Ex → St → Prop} (h : xC P X n c st Q) (hq : ∀ e s, Q e s → Q' e s) : xC P X n c st Q' := fun g a w hs =>
  wp_mono (h g a w hs) fun _ _ _ ⟨ex, g', st', h1, h2, h3⟩ => ⟨ex, g', st', h1, hq _ _ h2, h3⟩
/-- One state may be taken for another. -/
def Weak (X : Ctx) (n : Nat) (s s' : St) : Prop := ∀ g a w, Sim X n g s [] a w → ∃ g', Sim X n g' s' [] a w
theorem Weak.refl (s : St) : Weak X n s s := fun g _ _ h => ⟨g, h⟩
theorem Weak.trans {s s1 s2 : St} (h : Weak X n s s1) (k : Weak X n s1 s2) : Weak X n s s2 := fun g a w hs => let ⟨g1, h1⟩ := h g a w hs; k g1 a w h1
theorem x_weak {c : Code} {s s' : St} {Q : Ex → St → Prop} (hw : Weak X n s s') (h : xC P X n c s' Q) : xC P X n c s Q := fun g a w hs => let ⟨g', h'⟩ := hw g a w hs; h g' a w h'
theorem x_loop {c : Code} {st s0 : St} {Q : Ex → St → Prop} (I : Nat → St → Prop) (m : Nat) (hw : Weak X n st s0) (h0 : I m s0) (round : ∀ k s, I k s → xC P X n c s (Then (fun s' => ∃ s'' k', Weak X n s' s'' ∧ k' < k ∧ I k' s'') Q)) : xC P X n (.loop c) st Q := fun g a w hs => by
  obtain ⟨g0, hs0⟩ := hw g a w hs
  refine wp_loop_ghost (fun k a w => ∃ s g, I k s ∧ Sim X n g s [] a w) m ⟨s0, g0, h0, hs0⟩ ?_
  rintro k a w ⟨s, g, hI, hs⟩
  refine wp_mono (round k s hI g a w hs) fun e a' w' hq => ?_
  obtain ⟨ex, g', st', h1, h2, h3⟩ := hq
  cases e <;> cases ex <;> simp only [exOf] at h1
  · obtain ⟨s'', k', w1, w2, w3⟩ := h2
    obtain ⟨g'', h4⟩ := w1 g' a' w' h3
    exact ⟨k', w2, s'', g'', w3, h4⟩
  · exact ⟨.exit _, g', st', h1, h2, h3⟩
  · exact ⟨.ret, g', st', trivial, h2, h3⟩
end
end Go.X
