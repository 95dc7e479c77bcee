/- A function's contract, from its code. -/
import Derived.Test.YtihpdefnajimgaaXLeave
namespace Go.X
section
variable {P : Program} {n : Nat} {g : Gh} {st : St} {hand : List G} {a : Act} {w w' : World} {α : Type} {Te : Nat → List AV → Res → Prop}
/-- The arguments' names are the first. -/
def NA (X : Ctx) (na : Nat) : Prop := ∀ i, na ≤ i → X.H i = none ∧ X.PA i = none
theorem leaveO_ok {R : α → St → Prop} {S : Nat → Prop} {gs : List GA} {hS : ∀ b, S b → b < w.heap.size} {hok : ∀ x ∈ gs, x.ok S w} {c1 : ∀ b, treeCnt b gs + ptrCnt b gs ≤ 1} {c2 : ∀ b, 0 < treeCnt b gs + ptrCnt b gs → ¬ S b} :
    ∀ (xs : List GA) (i : Nat) {k : List (List T) → Prg α} {g : Gh} {st : St} {hand : List G}, (∀ (l : Nat) (x : GA), xs[l]? = some x → gs[i + l]? = some x) → Sim (ctxOf S gs w hS hok c1 c2) n g st hand a w' → runP Te (leaveO i (xs.map GA.er) k) st R →
    ∃ (g' : Gh) (st' : St) (os : List (List G)), Sim (ctxOf S gs w hS hok c1 c2) n g' st' (os.flatten ++ hand) a w' ∧ runP Te (k (os.map (·.map er))) st' R ∧ OutsOK w' xs os ∧ g'.gb = g.gb
  | [], i, k, g, st, hand, _, h, hp => ⟨g, st, [], h, hp, trivial, rfl⟩
  | x :: xs, i, k, g, st, hand, hx, h, hp => by
    have hx0 : gs[i]? = some x := hx 0 x rfl
    have hxs : ∀ (l : Nat) (y : GA), xs[l]? = some y → gs[i + 1 + l]? = some y := fun l y hy => by have := hx (l + 1) y (by simpa using hy); rwa [show i + (l + 1) = i + 1 + l by omega] at this
    have plain : ∀ {k' : List T → Prg α}, (.gr i fun ts => .sr i (ts.map goneC) (leaveO (i + 1) (xs.map GA.er) fun l => k (ts :: l)) : Prg α) = (.gr i fun ts => .sr i (ts.map goneC) (leaveO (i + 1) (xs.map GA.er) fun l => k (ts :: l))) := rfl
    have doPlain : runP Te (.gr i fun ts => .sr i (ts.map goneC) (leaveO (i + 1) (xs.map GA.er) fun l => k (ts :: l))) st R → ∃ (g' : Gh) (st' : St) (os : List (List G)) (o : List G), Sim (ctxOf S gs w hS hok c1 c2) n g' st' ((o :: os).flatten ++ hand) a w' ∧ runP Te (k ((o :: os).map (·.map er))) st' R ∧ o.map hdr = x.ts.map hdr ∧ OutsOK w' xs os ∧ g'.gb = g.gb := by
      intro hp
      simp only [runP] at hp
      cases hr : get st.r i with
      | none => simp [hr] at hp
      | some ts =>
        simp only [hr] at hp
        obtain ⟨g1, o, h1, e1, rfl, b1, _⟩ := h.giveAll hr
        obtain ⟨g2, st2, os, h2, hp2, ho, b2⟩ := leaveO_ok xs (i + 1) hxs h1 hp
        obtain ⟨o', e2, e3⟩ := h.hold i (x.ts.map hdr) (by simp [ctxOf, hx0])
        rw [e1] at e2
        simp at e2
        subst e2
        refine ⟨g2, st2, os, o, h2.sub (fun t ht => ?_) (fun b => ?_), hp2, e3, ho, b2.trans b1⟩
        · simp only [List.flatten_cons, List.mem_append] at ht ⊢
          rcases ht with (h | h) | h
          · exact .inr (.inl h)
          · exact .inl h
          · exact .inr (.inr h)
        · simp only [List.flatten_cons, cntL_append]; omega
    cases x with
    | one t =>
      obtain ⟨g', st', os, o, h1, h2, h3, h4, h5⟩ := doPlain hp
      exact ⟨g', st', o :: os, h1, h2, ⟨h3, h4⟩, h5⟩
    | agg ts =>
      obtain ⟨g', st', os, o, h1, h2, h3, h4, h5⟩ := doPlain hp
      exact ⟨g', st', o :: os, h1, h2, ⟨h3, h4⟩, h5⟩
    | ptr A ts =>
      simp only [List.map_cons, GA.er, leaveO, runP] at hp
      cases hb : get st.b i with
      | none => simp [hb] at hp
      | some cs =>
        simp only [hb] at hp
        obtain ⟨A', us, hA', _, hM, hC, hR⟩ := h.boxes i cs hb
        have hpb := h.pb i ⟨A.block, A.off, none⟩ (by simp [ctxOf, hx0, GA.addr])
        rw [hA'] at hpb
        simp at hpb
        subst hpb
        have hm := List.mem_of_getElem? hx0
        have hAl := ((hok _ hm).2 A ts rfl).1
        have hlen : cs.length = ts.length := by
          rcases hR with hR | ⟨_, y, hy, e1, e2, e3⟩
          · have : w.heap.size ≤ A.block := hR
            omega
          · have := (ctxOf S gs w hS hok c1 c2).uniq y hy _ (ranges_mem hm) e1.symm
            rw [e3, this]
        obtain ⟨g1, st1, o, h1, _, e1, hp1, b1, _, _⟩ := takes_ok h hC hp
        obtain ⟨g2, st2, os, h2, hp2, ho, b2⟩ := leaveO_ok xs (i + 1) hxs h1 hp1
        refine ⟨g2, st2, o :: os, h2.sub (fun t ht => ?_) (fun b => ?_), hp2, ⟨?_, ?_, ho⟩, b2.trans b1⟩
        · simp only [List.flatten_cons, List.mem_append] at ht ⊢
          rcases ht with (h | h) | h
          · exact .inr (.inl h)
          · exact .inl h
          · exact .inr (.inr h)
        · simp only [List.flatten_cons, cntL_append]; omega
        · rw [← hlen, hC.1, ← e1, List.length_map]
        · rw [e1]; exact hM
theorem tot_mono {f : Nat → Nat} {m : Nat} : ∀ {N : Nat}, m ≤ N → tot f m ≤ tot f N
  | 0, h => by have : m = 0 := by omega
               subst this; exact Nat.le_refl _
  | N + 1, h => by
    by_cases e : m = N + 1
    · subst e; exact Nat.le_refl _
    · have := tot_mono (f := f) (m := m) (N := N) (by omega)
      simp only [tot]; omega
theorem tot_plus {f : Nat → Nat} {m k : Nat} (h : m ≤ k) : ∀ {N : Nat}, k < N → tot f m + f k ≤ tot f N
  | 0, h => by omega
  | N + 1, h' => by
    simp only [tot]
    by_cases e : k = N
    · subst e
      have := tot_mono (f := f) h
      omega
    · have := tot_plus (f := f) h (N := N) (by omega)
      omega
theorem ptr_tot {gs : List GA} (hp : ∀ (i : Nat) (A : Addr), (gs[i]?).bind GA.addr = some A → g.gb i = some A) (b : Nat) : ∀ m, m ≤ gs.length → ptrCnt b (gs.take m) ≤ tot (g.has b) m
  | 0, _ => by simp [ptrCnt]
  | m + 1, hm => by
    have ih := ptr_tot hp b m (by omega)
    have pa : ∀ xs ys : List GA, ptrCnt b (xs ++ ys) = ptrCnt b xs + ptrCnt b ys := fun xs ys => by
      induction xs with
      | nil => simp [ptrCnt]
      | cons x xs ih => simp only [List.cons_append, ptrCnt, ih]; omega
    rw [List.take_succ_eq_append_getElem (by omega), pa]
    simp only [ptrCnt, tot]
    have : gs[m].pb b ≤ g.has b m := by
      have hk : gs[m]? = some gs[m] := List.getElem?_eq_getElem (by omega)
      cases hx : gs[m] with
      | ptr A ts =>
        have := hp m ⟨A.block, A.off, none⟩ (by rw [hk, hx]; rfl)
        simp only [Gh.has, this, bcnt, GA.pb]
        omega
      | _ => simp [GA.pb]
    omega
theorem frameOf {X : Ctx} {gs : List GA} (h : Frame X w') (hw : X.w0 = w) (hF : ∀ b, X.F b → 0 < treeCnt b gs) (hR : X.R = rangesOf gs) : FrameOf w gs w' := by
  subst hw
  refine ⟨h.os, h.tape, h.output, h.size, fun b hb hc => h.block b hb (fun hF' => by have := hF b hF'; omega) (fun x hx e => ?_), fun A ts hm o ho => ?_⟩
  · rw [hR] at hx
    obtain ⟨A, ts, h1, rfl⟩ := mem_ranges hx
    have := ptrCnt_mem h1
    simp at e
    rw [e] at this
    omega
  · exact h.range (A.block, A.off, ts.length) (by rw [hR]; exact ranges_mem hm) o ho
theorem noPtr_cnt (b : Nat) : ∀ {ys : List GA}, (∀ y ∈ ys, noPtr y) → ptrCnt b ys = 0
  | [], _ => rfl
  | y :: ys, h => by
    have h1 := h y (List.mem_cons_self ..)
    have h2 := noPtr_cnt b (ys := ys) (fun y hy => h y (List.mem_cons_of_mem _ hy))
    cases y <;> simp [ptrCnt, GA.pb, h2] <;> exact h1.elim
theorem sole_ptr {gs : List GA} (hs : Sole g hand) (hp : ∀ (i : Nat) (A : Addr), (gs[i]?).bind GA.addr = some A → g.gb i = some A) (b : Nat) : ptrCnt b gs + cntL b hand ≤ 1 ∧ ∀ k, gs.length ≤ k → ptrCnt b gs + bcnt b (g.gb k) + cntL b hand ≤ 1 := by
  obtain ⟨N, h1, h2⟩ := hs
  have e := tot_more (f := g.has b) (N := N) (max N gs.length) (by omega) (fun j hj => has_none (h1 j hj) b)
  have a1 := ptr_tot hp b gs.length (Nat.le_refl _)
  rw [List.take_length] at a1
  have a2 := tot_mono (f := g.has b) (m := gs.length) (N := max N gs.length) (by omega)
  have a3 := h2 b
  refine ⟨by omega, fun k hk => ?_⟩
  have e' := tot_more (f := g.has b) (N := N) (max N (k + 1)) (by omega) (fun j hj => has_none (h1 j hj) b)
  have a4 := tot_plus (f := g.has b) hk (N := max N (k + 1)) (by omega)
  have : bcnt b (g.gb k) ≤ g.has b k := by simp only [Gh.has]; omega
  omega
theorem Tells.of {f : Nat} {fn : Func} {c : Code} {as : List AV} {rs : List RV} {r0 : Res} (hf : P.funcs[f]? = some fn) (hb : fn.body = some c) (hn : as.length ≤ fn.ntmps) (hr : rvsOk P fn.results.toList rs = true)
    (h : ∀ X, NA X as.length → xC P X fn.ntmps c (enterSt as) (fun ex st => (ex = .nrm ∨ ex = .ret) ∧ runP (Tells P) (leaveP as rs) st (fun r _ => r = r0))) : Tells P f as r0 := by
  intro S gs w ha hS hok c1 c2
  have hlen : gs.length = as.length := by rw [← ha]; simp
  refine calls_of_wp hf hb (wp_mono (h (ctxOf S gs w hS hok c1 c2) (fun i hi => by simp [ctxOf, List.getElem?_eq_none (show gs.length ≤ i by omega)]) _ _ _ (enter_ok ha hS hok c1 c2 (n := fn.ntmps) (by omega))) ?_)
  intro e a' w' hq
  obtain ⟨ex, g', st', h1, ⟨h2, hp⟩, hs⟩ := hq
  have fin : bodyPost P fn (fun e w' => ∃ (rs : List GA) (os : List (List G)), e = .returned (resVal rs) ∧ rs.map GA.er = r0.res ∧ os.map (·.map X.er) = r0.outs ∧ (∀ x ∈ rs, x.ok S w') ∧ (∀ o ∈ os, ∀ t ∈ o, Rp S w' t) ∧ OutsOK w' gs os ∧
      (∀ b, treeCnt b rs + ptrCnt b rs + cntL b os.flatten + ptrCnt b gs ≤ 1) ∧ (∀ b, 0 < treeCnt b rs + ptrCnt b rs + cntL b os.flatten → w.heap.size ≤ b ∨ 0 < treeCnt b gs) ∧ FrameOf w gs w' ∧ ∀ A ts, GA.ptr A ts ∈ rs → w.heap.size ≤ A.block) .ret a' w' := by
    obtain ⟨g1, st1, ys, k1, k2, k3, k4, k5, _⟩ := leaveR_ok hs hr hp
    rw [← ha] at k4
    obtain ⟨g2, st2, os, k6, k7, k8, k9⟩ := leaveO_ok (S := S) (gs := gs) gs 0 (fun l x hx => by simpa using hx) k1 k4
    simp only [runP] at k7
    subst k7
    refine ⟨hs.defers, resVal ys, results_ok k2, ys, os, rfl, rfl, rfl, fun x hx => ⟨fun t ht => k6.held t ?_, fun A ts e => ?_⟩, fun o ho t ht => k6.held t ?_, k8, fun b => ?_, fun b hb => ?_, frameOf hs.frame rfl (fun b hb => hb) rfl, fun A ts hm => (k3 _ hm).elim⟩
    · simp only [List.append_nil, List.mem_append]
      exact .inr (List.mem_flatMap.2 ⟨x, hx, ht⟩)
    · have := k3 x hx
      rw [e] at this
      exact this.elim
    · simp only [List.mem_append]
      exact .inl (List.mem_flatten.2 ⟨o, ho, ht⟩)
    · have := (sole_ptr (gs := gs) k6.sole (fun i A hi => k6.pb i A hi) b).1
      rw [noPtr_cnt b k3]
      simp only [cntL_append, List.append_nil] at this
      simp only [treeCnt]
      omega
    · rw [noPtr_cnt b k3] at hb
      have := (k6.mine b 0 (by simp only [cntL_append, List.append_nil, treeCnt] at hb ⊢; omega)).2
      exact this
  rcases h2 with rfl | rfl
  · cases e <;> simp only [exOf] at h1
    exact fin
  · cases e <;> simp only [exOf] at h1
    exact fin
theorem Tells.ofPtr {f : Nat} {fn : Func} {c : Code} {as : List AV} {t : Nat} {r0 : Res} (hf : P.funcs[f]? = some fn) (hb : fn.body = some c) (hn : as.length ≤ fn.ntmps) (hr : fn.results = #[.tmp t])
    (h : ∀ X, NA X as.length → xC P X fn.ntmps c (enterSt as) (fun ex st => (ex = .nrm ∨ ex = .ret) ∧ runP (Tells P) (leavePtr as t) st (fun r _ => r = r0))) : Tells P f as r0 := by
  intro S gs w ha hS hok c1 c2
  have hlen : gs.length = as.length := by rw [← ha]; simp
  refine calls_of_wp hf hb (wp_mono (h (ctxOf S gs w hS hok c1 c2) (fun i hi => by simp [ctxOf, List.getElem?_eq_none (show gs.length ≤ i by omega)]) _ _ _ (enter_ok ha hS hok c1 c2 (n := fn.ntmps) (by omega))) ?_)
  intro e a' w' hq
  obtain ⟨ex, g', st', h1, ⟨h2, hp⟩, hs⟩ := hq
  have fin : bodyPost P fn (fun e w' => ∃ (rs : List GA) (os : List (List G)), e = .returned (resVal rs) ∧ rs.map GA.er = r0.res ∧ os.map (·.map X.er) = r0.outs ∧ (∀ x ∈ rs, x.ok S w') ∧ (∀ o ∈ os, ∀ t ∈ o, Rp S w' t) ∧ OutsOK w' gs os ∧
      (∀ b, treeCnt b rs + ptrCnt b rs + cntL b os.flatten + ptrCnt b gs ≤ 1) ∧ (∀ b, 0 < treeCnt b rs + ptrCnt b rs + cntL b os.flatten → w.heap.size ≤ b ∨ 0 < treeCnt b gs) ∧ FrameOf w gs w' ∧ ∀ A ts, GA.ptr A ts ∈ rs → w.heap.size ≤ A.block) .ret a' w' := by
    simp only [leavePtr, runP] at hp
    cases hg : get st'.s t with
    | none => simp [hg] at hp; exact hp.elim
    | some v =>
      rw [hg] at hp
      simp only [Option.getD_some] at hp
      have hv := hs.slots t v hg
      split at hp
      · rename_i b
        simp only [SlotOK] at hv
        obtain ⟨A, hA, ev⟩ := hv
        simp only [runP, decide_eq_true_eq] at hp
        obtain ⟨hbn, hp⟩ := hp
        cases hb : get st'.b b with
        | none => simp [hb] at hp
        | some cs =>
          simp only [hb] at hp
          obtain ⟨A', us, hA', hlt, hM, hC, hR⟩ := hs.boxes b cs hb
          rw [hA] at hA'
          simp at hA'
          subst hA'
          have hge : w.heap.size ≤ A.block := by
            rcases hR with hR | ⟨hR, _⟩
            · exact hR
            · simp only [ctxOf, decide_eq_true_eq] at hR
              omega
          obtain ⟨g1, st1, ts, k1, _, e1, k4, b1, _, _⟩ := takes_ok hs hC hp
          rw [← ha] at k4
          obtain ⟨g2, st2, os, k6, k7, k8, k9⟩ := leaveO_ok (S := S) (gs := gs) gs 0 (fun l x hx => by simpa using hx) k1 k4
          simp only [runP] at k7
          subst k7
          have hgb : g2.gb b = some A := by rw [k9, b1, hA]
          refine ⟨hs.defers, resVal [.ptr A ts], ?_, [.ptr A ts], os, rfl, rfl, rfl, fun x hx => ?_, fun o ho t ht => k6.held t ?_, k8, fun x => ?_, fun x hx => ?_, frameOf hs.frame rfl (fun b hb => hb) rfl, fun A' ts' hm => by simp only [List.mem_singleton, GA.ptr.injEq] at hm; rw [hm.1]; exact hge⟩
          · have : (results fn a'.tmps).run P w' = .ok (a'.tmps.getD t undef) w' := by
              rw [results_eq, hr]
              simp [resOf]
            rw [this, ev]
            rfl
          · simp only [List.mem_singleton] at hx
            subst hx
            refine ⟨fun t ht => k6.held t ?_, fun A' ts' e => ?_⟩
            · simp only [List.append_nil, List.mem_append]
              exact .inr ht
            · simp only [GA.ptr.injEq] at e
              obtain ⟨rfl, rfl⟩ := e
              exact ⟨hlt, by rw [e1]; exact hM⟩
          · simp only [List.mem_append]
            exact .inl (List.mem_flatten.2 ⟨o, ho, ht⟩)
          · have := (sole_ptr (gs := gs) k6.sole (fun i A hi => k6.pb i A hi) x).2 b (by omega)
            rw [hgb] at this
            simp only [cntL_append, List.append_nil, bcnt] at this
            simp only [treeCnt, ptrCnt, GA.pb, List.flatMap_cons, List.flatMap_nil, GA.ts, List.append_nil]
            omega
          · by_cases h0 : A.block = x
            · left; omega
            · simp only [treeCnt, ptrCnt, GA.pb, List.flatMap_cons, List.flatMap_nil, GA.ts, List.append_nil, if_neg h0] at hx
              have := (k6.mine x 0 (by simp only [cntL_append, List.append_nil]; omega)).2
              exact this
      · exact hp.elim
  rcases h2 with rfl | rfl
  · cases e <;> simp only [exOf] at h1
    exact fin
  · cases e <;> simp only [exOf] at h1
    exact fin
end
end Go.X
