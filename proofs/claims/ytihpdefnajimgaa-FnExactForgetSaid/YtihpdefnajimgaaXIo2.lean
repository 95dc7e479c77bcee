/- A call that writes to what it is handed: the operation. -/
import Derived.Test.YtihpdefnajimgaaXIo
namespace Go.X
section
variable {P : Program} {X : Ctx} {n : Nat} {g : Gh} {st : St} {hand : List G} {a : Act} {w w' : World} {α : Type} {o : Oper} {K : St → Prop} {Q : Exit → Act → World → Prop}
theorem plains_ok {S : Nat → Prop} : ∀ {ys : List SV} {us : List Value} {as : List AV}, plains ys = some as → SlotsOK S g w ys us → ∃ gs : List GA, gs.map GA.er = as ∧ gs.map GA.val = us ∧ (∀ x ∈ gs, x.ok S w) ∧ ∀ b, treeCnt b gs + ptrCnt b gs = 0
  | [], [], as, h, _ => by simp [plains] at h; subst h; exact ⟨[], rfl, rfl, fun x hx => (by cases hx), fun b => rfl⟩
  | y :: ys, u :: us, as, h, hs => by
    simp only [plains] at h
    cases hy : plainV y with
    | none => simp [hy] at h
    | some t =>
      cases hr : plains ys with
      | none => simp [hy, hr] at h
      | some l =>
        simp only [hy, hr, Option.bind_some, Option.map_some, Option.some.injEq] at h
        subst h
        simp only [SlotsOK] at hs
        obtain ⟨gs, e1, e2, e3, e4⟩ := plains_ok hr hs.2
        have : ∃ v, y = .one (.pv v) ∧ t = .pv v := by
          unfold plainV at hy
          split at hy
          · simp at hy; exact ⟨_, rfl, hy.symm⟩
          · cases hy
        obtain ⟨v, rfl, rfl⟩ := this
        obtain ⟨h0, _⟩ := hs
        simp only [SlotOK, CelOK] at h0
        obtain ⟨rfl, h1⟩ := h0
        refine ⟨.one (.pv u) :: gs, by simp [GA.er, er, e1], by simp [GA.val, hdr, e2], fun x hx => ?_, fun b => ?_⟩
        · rcases List.mem_cons.1 hx with rfl | hx
          · exact ⟨fun t ht => by simp only [GA.ts, List.mem_singleton] at ht; subst ht; exact .pv h1, fun A ts e => by cases e⟩
          · exact e3 x hx
        · have := e4 b
          simp only [treeCnt, ptrCnt, List.flatMap_cons, cntL_append, GA.ts, GA.pb, cntL, cnt] at this ⊢
          omega
  | [], _ :: _, _, _, hs => by simp [SlotsOK] at hs
  | _ :: _, [], _, _, hs => by simp [SlotsOK] at hs
theorem io_core {c : Call} {f : FuncId} {fn : Func} {id : Nat} {x0 : GA} {us : List G} {cs : List Cel} {gs : List GA} {r : Res} {u : Value} {ot : List T} {oss : List (List T)} (h : Sim X n g st us a w) (ho : o.op = .call c) (hc : c.callee = .value (.func f)) (hf : P.funcs[f]? = some fn) (hname : (fn.name == "runtime.NumGoroutine") = false)
    (hb : fn.body.isSome = true) (hd : ∀ k, o.dst = some k → k < n) (hx0 : x0 = .agg us ∨ ∃ t, us = [t] ∧ x0 = .one t) (hval : c.args.map a.eval = ((x0 :: gs).map GA.val).toArray) (hgok : ∀ x ∈ gs, x.ok X.S w) (hgc : ∀ b, treeCnt b gs + ptrCnt b gs = 0)
    (hT : Tells P f ((x0 :: gs).map GA.er) r) (hr : r = ⟨[.one (.pv u)], ot :: oss⟩) (hl : lone (cs.flatMap keyOf) = true) (hG : GoneAt g cs (us.map hdr)) (hp : runP (Tells P) (backL cs ot (fin o.dst (.one (.pv u)))) st (fun _ st' => K st')) : o.wp P a w (Goal X n K) Q := by
  subst hr
  have hts : x0.ts = us ∧ (∀ b, x0.pb b = 0) ∧ ∀ A ts, x0 ≠ .ptr A ts := by
    rcases hx0 with rfl | ⟨t, rfl, rfl⟩
    · exact ⟨rfl, fun _ => rfl, fun _ _ e => by cases e⟩
    · exact ⟨rfl, fun _ => rfl, fun _ _ e => by cases e⟩
  have htc : ∀ b, treeCnt b (x0 :: gs) + ptrCnt b (x0 :: gs) = cntL b us := fun b => by
    have := hgc b
    have := hts.2.1 b
    simp only [treeCnt, ptrCnt, List.flatMap_cons, cntL_append, hts.1] at *
    omega
  have h' : Sim X n g st (us ++ []) a w := by rw [List.append_nil]; exact h
  have hcall := hT X.S (x0 :: gs) w rfl (fun b hb => Nat.lt_of_lt_of_le (X.stay b hb).1 h.frame.size) (fun x hx => by
      rcases List.mem_cons.1 hx with rfl | hx
      · exact ⟨fun t ht => h.held t (by rw [hts.1] at ht; exact ht), fun A ts e => absurd e (hts.2.2 A ts)⟩
      · exact hgok x hx) (fun b => by
      rw [htc]
      have := h.sole.one b 0
      omega) (fun b hb => by
      rw [htc] at hb
      exact (h.mine b 0 (by omega)).1)
  unfold Oper.wp
  rw [run_callF ho hc hf hname hb, Oper.upon_enter, hval]
  refine hcall.mono ?_
  rintro e w1 ⟨rs, os, rfl, er1, er2, hrs, hos, hOut, hc1, hc2, hF, _⟩
  have hrs' : rs = [.one (.pv u)] := by
    cases rs with
    | nil => simp at er1
    | cons y ys =>
      cases ys with
      | cons => simp at er1
      | nil =>
        simp at er1
        cases y with
        | one t =>
          simp only [GA.er, AV.one.injEq] at er1
          cases t <;> simp_all [er]
        | _ => simp [GA.er] at er1
  subst hrs'
  cases os with
  | nil => simp at er2
  | cons o0 os' =>
    simp only [List.map_cons, List.cons.injEq] at er2
    obtain ⟨rfl, _⟩ := er2
    have hhd : o0.map hdr = us.map hdr := by
      rcases hx0 with rfl | ⟨t, rfl, rfl⟩
      · exact hOut.1
      · exact hOut.1
    have hu1 : u.oneCell' = true := by
      have := (hrs _ (List.mem_cons_self ..)).1 (.pv u) (by simp [GA.ts])
      cases this with
      | pv h => exact h
    have hA := h'.after (news := o0) (fun _ => False) hF.os hF.tape hF.output hF.size (fun b hb hc _ => hF.block b hb (by rw [htc]; exact hc)) (fun k A cs hk => hk.elim) (fun t ht => hos o0 (List.mem_cons_self ..) t ht) (fun b => by
      have a1 := hc1 b
      have a2 := hc2 b
      have a3 := htc b
      have a4 := hgc b
      have a5 : treeCnt b (x0 :: gs) = cntL b us := by
        simp only [treeCnt, List.flatMap_cons, cntL_append, hts.1] at *
        omega
      have z0 : treeCnt b [GA.one (.pv u)] = 0 := by simp [treeCnt, GA.ts, cntL, cnt]
      have z1 : ptrCnt b [GA.one (.pv u)] = 0 := by simp [ptrCnt, GA.pb]
      rw [z0, z1, List.flatten_cons, cntL_append] at a1 a2
      by_cases h0 : cntL b o0 = 0
      · left; omega
      · rcases a2 (by omega) with a2 | a2
        · right; exact ⟨a2, by omega⟩
        · left
          have : 0 < cntL b us := by rw [← a5]; exact a2
          omega)
    obtain ⟨g2, st2, h2, hp2⟩ := backL_ok (hand := []) hA rfl hl (by rw [hhd]; exact hG) hp
    exact fin_ok h2 hd (slot_pv X.S g2 w1 hu1) hp2
theorem do_io {c : Call} {f : FuncId} {fn : Func} {x : Opd} {ys : List Opd} {id : Nat} (h : Sim X n g st [] a w) (ho : o.op = .call c) (hc : c.callee = .value (.func f)) (hf : P.funcs[f]? = some fn) (hname : (fn.name == "runtime.NumGoroutine") = false) (hb : fn.body.isSome = true)
    (hx : opdsOk c.args.toList (x :: ys) = true) (hd : ∀ k, o.dst = some k → k < n) (hp : runP (Tells P) ((COp.io f x ys).prg o.dst id) st (fun _ st' => K st')) : o.wp P a w (Goal X n K) Q := by
  cases hargs : c.args.toList with
  | nil => rw [hargs] at hx; simp [opdsOk] at hx
  | cons x' ys' =>
    rw [hargs] at hx
    simp only [opdsOk, Bool.and_eq_true] at hx
    simp only [COp.prg] at hp
    replace hp := ev_ok h hx.1 hp
    obtain ⟨v, hv, hp⟩ := hp
    replace hp := evL_ok h hx.2 hp
    obtain ⟨vs, hvs, hp⟩ := hp
    unfold ioP at hp
    cases has : plains vs with
    | none => simp [has, runP] at hp
    | some as =>
      simp only [has] at hp
      obtain ⟨gs, e1, e2, e3, e4⟩ := plains_ok has hvs
      have hval : ∀ x0 : GA, x0.val = a.eval x' → c.args.map a.eval = ((x0 :: gs).map GA.val).toArray := fun x0 e => by
        apply Array.toList_inj.1
        simp [hargs, e, e2]
      cases v with
      | one cl =>
        simp only at hp
        simp only [SlotOK] at hv
        have hcs : CelsOK X.S g w [cl] [a.eval x'] := ⟨rfl, fun i c v h h' => by
          cases i with
          | zero => simp at h h'; subst h; subst h'; exact hv
          | succ i => simp at h⟩
        have hl : lone ([cl].flatMap keyOf) = true := by cases cl <;> simp [keyOf, lone]
        obtain ⟨g1, st1, us, h1, k1, f1, hp, b1, s1, bb1, G1, _⟩ := takeWs_ok h hcs hl hp
        rw [List.append_nil] at h1
        cases us with
        | nil => simp at f1
        | cons t us =>
          cases us with
          | cons => simp at f1
          | nil =>
            simp only [List.map_cons, List.map_nil, List.cons.injEq, and_true] at f1
            simp only [List.map_cons, List.map_nil, runP] at hp
            obtain ⟨r, hT, hp⟩ := hp
            split at hp
            · rename_i u ot oss
              refine io_core (id := id) (x0 := .one t) (gs := gs) h1 ho hc hf hname hb hd (.inr ⟨t, rfl, rfl⟩) (hval _ (by simpa [GA.val] using f1)) (fun y hy => e3 y hy) e4 (by simpa [GA.er, e1] using hT) rfl hl (by simpa [f1] using G1) hp
            · exact hp.elim
      | agg cls =>
        simp only [runP] at hp
        simp only [SlotOK] at hv
        obtain ⟨us0, hv, hcs⟩ := hv
        obtain ⟨hl, hp⟩ := hp
        obtain ⟨g1, st1, us, h1, k1, f1, hp, b1, s1, bb1, G1, _⟩ := takeWs_ok h hcs hl hp
        rw [List.append_nil] at h1
        simp only [runP] at hp
        obtain ⟨r, hT, hp⟩ := hp
        split at hp
        · rename_i u ot oss
          refine io_core (id := id) (x0 := .agg us) (gs := gs) h1 ho hc hf hname hb hd (.inl rfl) (hval _ (by simp [GA.val, f1, hv])) (fun y hy => e3 y hy) e4 (by simpa [GA.er, e1] using hT) rfl hl (by rw [f1]; exact G1) hp
        · exact hp.elim
      | _ => exact hp.elim
end
end Go.X
