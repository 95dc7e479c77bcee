/- A call, held against the model. -/
import Derived.Test.YtihpdefnajimgaaXCallB
namespace Go.X
section
variable {P : Program} {X : Ctx} {n : Nat} {g : Gh} {st : St} {hand : List G} {a : Act} {w w' : World} {α : Type} {Te : Nat → List AV → Res → Prop} {o : Oper} {K : St → Prop} {Q : Exit → Act → World → Prop} {S1 : Nat → Prop}
abbrev atB (B : Addr) (off : Nat) : Addr := ⟨B.block, B.off + off, none⟩
inductive PassOK (gb : Nat → Option Addr) (st : St) (w : World) (S1 : Nat → Prop) : List Nat → List SV → List Value → List (Option GA) → List GA → Prop
  | nil : PassOK gb st w S1 [] [] [] [] []
  | lent {y : GA} {v : SV} {u : Value} {ms : List Nat} {vs : List SV} {us : List Value} {xs : List (Option GA)} {ys : List GA} : noPtr y → y.val = u → (∀ t ∈ y.ts, Rp S1 w t ∧ ∀ b, cnt b t = 0) → PassOK gb st w S1 ms vs us xs ys → PassOK gb st w S1 (0 :: ms) (v :: vs) (u :: us) (none :: xs) (y :: ys)
  | own {y : GA} {v : SV} {u : Value} {ms : List Nat} {vs : List SV} {us : List Value} {xs : List (Option GA)} {ys : List GA} : noPtr y → y.val = u → PassOK gb st w S1 ms vs us xs ys → PassOK gb st w S1 (1 :: ms) (v :: vs) (u :: us) (some y :: xs) (y :: ys)
  | ptr {b off : Nat} {B : Addr} {cs : List Cel} {ts : List G} {ms : List Nat} {vs : List SV} {us : List Value} {xs : List (Option GA)} {ys : List GA} : gb b = some B → get st.b b = some cs → off + ts.length ≤ cs.length → InMem w (atB B off) (ts.map hdr) →
      PassOK gb st w S1 ms vs us xs ys → PassOK gb st w S1 ((ts.length + 2) :: ms) (.bp b off :: vs) (.pointer (some (atB B off)) :: us) (some (.ptr (atB B off) ts) :: xs) (.ptr (atB B off) ts :: ys)
theorem passOK : ∀ {ms : List Nat} {vs : List SV} {us : List Value} {xs : List (Option GA)} {ys : List GA}, OwnOK g st w ms vs us xs → LentOK S1 w xs us ys → PassOK g.gb st w S1 ms vs us xs ys
  | [], [], [], [], [], _, _ => .nil
  | m :: ms, v :: vs, u :: us, x :: xs, y :: ys, h1, h2 => by
    simp only [OwnOK] at h1
    simp only [LentOK] at h2
    have ih := passOK h1.2 h2.2
    replace h1 := h1.1
    replace h2 := h2.1
    rcases m with _ | _ | m
    · cases x with
      | none => exact .lent h2.1 h2.2.1 h2.2.2 ih
      | some x => exact h1.elim
    · cases x with
      | none => exact h1.elim
      | some x =>
        simp only at h2
        subst h2
        exact .own h1.1 h1.2 ih
    · cases v <;> cases x <;> try exact h1.elim
      rename_i b off x
      cases x <;> try exact h1.elim
      rename_i A ts
      simp only at h1 h2
      subst h2
      obtain ⟨rfl, B, cs, e1, e2, e3, rfl, rfl, e4⟩ := h1
      exact .ptr e1 e2 e3 e4 ih
  | [], _, _, _ :: _, _, h1, _ => by cases ‹List SV› <;> cases ‹List Value› <;> simp [OwnOK] at h1
  | [], _ :: _, _, [], _, h1, _ => by simp [OwnOK] at h1
  | [], [], _ :: _, [], _, h1, _ => by simp [OwnOK] at h1
  | [], [], [], [], _ :: _, _, h2 => by simp [LentOK] at h2
  | _ :: _, [], _, _, _, h1, _ => by simp [OwnOK] at h1
  | _ :: _, _ :: _, [], _, _, h1, _ => by simp [OwnOK] at h1
  | _ :: _, _ :: _, _ :: _, [], _, h1, _ => by simp [OwnOK] at h1
  | _ :: _, _ :: _, _ :: _, _ :: _, [], _, h2 => by simp [LentOK] at h2
section
variable {gb : Nat → Option Addr} {ms : List Nat} {vs : List SV} {us : List Value} {xs : List (Option GA)} {ys : List GA}
theorem PassOK.vals (h : PassOK gb st w S1 ms vs us xs ys) : ys.map GA.val = us := by
  induction h with
  | nil => rfl
  | lent _ h2 _ _ ih => simp [h2, ih]
  | own _ h2 _ ih => simp [h2, ih]
  | ptr _ _ _ _ _ ih => simp [GA.val, ih]
theorem PassOK.trees (h : PassOK gb st w S1 ms vs us xs ys) (b : Nat) : treeCnt b ys = cntL b (xs.flatMap oTs) := by
  induction h with
  | nil => rfl
  | @lent y v u ms vs us xs ys _ _ h3 _ ih =>
    simp only [treeCnt, List.flatMap_cons, cntL_append, oTs, cntL, Nat.zero_add] at ih ⊢
    have : cntL b y.ts = 0 := by
      have : ∀ l : List G, (∀ t ∈ l, cnt b t = 0) → cntL b l = 0 := fun l => by
        induction l with
        | nil => intro _; rfl
        | cons t l ih => intro h; simp [cntL, h t (List.mem_cons_self ..), ih (fun t ht => h t (List.mem_cons_of_mem _ ht))]
      exact this _ (fun t ht => (h3 t ht).2 b)
    omega
  | own _ _ _ ih => simp only [treeCnt, List.flatMap_cons, cntL_append, oTs] at ih ⊢; omega
  | ptr _ _ _ _ _ ih => simp only [treeCnt, List.flatMap_cons, cntL_append, oTs] at ih ⊢; omega
theorem PassOK.reps (h : PassOK gb st w S1 ms vs us xs ys) (ho : ∀ t ∈ xs.flatMap oTs, Rp S1 w t) : ∀ y ∈ ys, ∀ t ∈ y.ts, Rp S1 w t := by
  induction h with
  | nil => intro y hy; cases hy
  | lent _ _ h3 _ ih =>
    intro y hy t ht
    rcases List.mem_cons.1 hy with rfl | hy
    · exact (h3 t ht).1
    · exact ih (fun t ht => ho t (by simpa [oTs] using ht)) y hy t ht
  | own _ _ _ ih =>
    intro y hy t ht
    rcases List.mem_cons.1 hy with rfl | hy
    · exact ho t (by simp [oTs, ht])
    · exact ih (fun t ht => ho t (by simp only [List.flatMap_cons, List.mem_append]; exact .inr ht)) y hy t ht
  | ptr _ _ _ _ _ ih =>
    intro y hy t ht
    rcases List.mem_cons.1 hy with rfl | hy
    · exact ho t (by simp only [List.flatMap_cons, List.mem_append]; exact .inl ht)
    · exact ih (fun t ht => ho t (by simp only [List.flatMap_cons, List.mem_append]; exact .inr ht)) y hy t ht
theorem PassOK.ptrs (h : PassOK gb st w S1 ms vs us xs ys) : (∀ A ts, GA.ptr A ts ∈ ys → InMem w A (ts.map hdr) ∧ ∃ b ∈ boxesOf ms vs, ∃ B, gb b = some B ∧ A.block = B.block) ∧
    (∀ x ∈ ptsOf ms vs, ∃ B cs ts, gb x.1 = some B ∧ get st.b x.1 = some cs ∧ x.2.1 + x.2.2 ≤ cs.length ∧ ts.length = x.2.2 ∧ GA.ptr (atB B x.2.1) ts ∈ ys) := by
  induction h with
  | nil => exact ⟨fun A ts h => (by cases h), fun x hx => by simp [ptsOf] at hx⟩
  | @lent y v u ms vs us xs ys h1 _ _ _ ih =>
    refine ⟨fun A ts hm => ?_, fun x hx => ?_⟩
    · rcases List.mem_cons.1 hm with rfl | hm
      · exact h1.elim
      · obtain ⟨a1, b, a2, a3⟩ := ih.1 A ts hm
        exact ⟨a1, b, by simpa [boxesOf] using a2, a3⟩
    · obtain ⟨B, cs, ts, a1, a2, a3, a4, a5⟩ := ih.2 x (by simpa [ptsOf] using hx)
      exact ⟨B, cs, ts, a1, a2, a3, a4, List.mem_cons_of_mem _ a5⟩
  | @own y v u ms vs us xs ys h1 _ _ ih =>
    refine ⟨fun A ts hm => ?_, fun x hx => ?_⟩
    · rcases List.mem_cons.1 hm with rfl | hm
      · exact h1.elim
      · obtain ⟨a1, b, a2, a3⟩ := ih.1 A ts hm
        exact ⟨a1, b, by simpa [boxesOf] using a2, a3⟩
    · obtain ⟨B, cs, ts, a1, a2, a3, a4, a5⟩ := ih.2 x (by simpa [ptsOf] using hx)
      exact ⟨B, cs, ts, a1, a2, a3, a4, List.mem_cons_of_mem _ a5⟩
  | @ptr b off B cs ts ms vs us xs ys h1 h2 h3 h4 _ ih =>
    refine ⟨fun A ts' hm => ?_, fun x hx => ?_⟩
    · rcases List.mem_cons.1 hm with e | hm
      · simp only [GA.ptr.injEq] at e
        obtain ⟨rfl, rfl⟩ := e
        exact ⟨h4, b, by simp [boxesOf], B, h1, rfl⟩
      · obtain ⟨a1, b', a2, a3⟩ := ih.1 A ts' hm
        exact ⟨a1, b', by simp [boxesOf, a2], a3⟩
    · simp only [ptsOf, List.cons_append, List.nil_append, List.mem_cons] at hx
      rcases hx with rfl | hx
      · exact ⟨B, cs, ts, h1, h2, h3, rfl, List.mem_cons_self ..⟩
      · obtain ⟨B, cs, ts, a1, a2, a3, a4, a5⟩ := ih.2 x hx
        exact ⟨B, cs, ts, a1, a2, a3, a4, List.mem_cons_of_mem _ a5⟩
theorem PassOK.cnts (h : PassOK gb st w S1 ms vs us xs ys) (b : Nat) : ptrCnt b ys ≤ ((boxesOf ms vs).map fun k => bcnt b (gb k)).sum := by
  induction h with
  | nil => simp [ptrCnt]
  | @lent y v u ms vs us xs ys h1 _ _ _ ih =>
    have : y.pb b = 0 := by cases y <;> first | rfl | exact h1.elim
    simpa [ptrCnt, boxesOf, this] using ih
  | @own y v u ms vs us xs ys h1 _ _ ih =>
    have : y.pb b = 0 := by cases y <;> first | rfl | exact h1.elim
    simpa [ptrCnt, boxesOf, this] using ih
  | ptr h1 _ _ _ _ ih =>
    have e := congrArg (bcnt b) h1
    rw [show bcnt b (some _) = if _ then 1 else 0 from rfl] at e
    simp only [ptrCnt, boxesOf, List.map_cons, List.sum_cons, GA.pb, e]
    omega
theorem PassOK.back (h : PassOK gb st w S1 ms vs us xs ys) : ∀ {os : List (List G)}, OutsOK w' ys os → BackOK gb w' ms vs os ∧ ∀ x ∈ ptsOf ms vs, ∃ (B : Addr) (o : List G), gb x.1 = some B ∧ o.length = x.2.2 ∧ InMem w' (atB B x.2.1) (o.map hdr) := by
  induction h with
  | nil => exact fun _ => ⟨trivial, fun x hx => by simp [ptsOf] at hx⟩
  | @lent y v u ms vs us xs ys h1 _ _ _ ih =>
    intro os ho
    cases os with
    | nil => cases y <;> simp [OutsOK] at ho
    | cons o os =>
      have : OutsOK w' ys os := by cases y <;> first | exact ho.2 | exact h1.elim
      obtain ⟨a1, a2⟩ := ih this
      exact ⟨⟨trivial, a1⟩, fun x hx => a2 x (by simpa [ptsOf] using hx)⟩
  | @own y v u ms vs us xs ys h1 _ _ ih =>
    intro os ho
    cases os with
    | nil => cases y <;> simp [OutsOK] at ho
    | cons o os =>
      have : OutsOK w' ys os := by cases y <;> first | exact ho.2 | exact h1.elim
      obtain ⟨a1, a2⟩ := ih this
      exact ⟨⟨trivial, a1⟩, fun x hx => a2 x (by simpa [ptsOf] using hx)⟩
  | @ptr b off B cs ts ms vs us xs ys h1 h2 h3 h4 _ ih =>
    intro os ho
    cases os with
    | nil => simp [OutsOK] at ho
    | cons o os =>
      simp only [OutsOK] at ho
      obtain ⟨a1, a2⟩ := ih ho.2.2
      refine ⟨⟨⟨B, h1, ho.1, ho.2.1⟩, a1⟩, fun x hx => ?_⟩
      simp only [ptsOf, List.cons_append, List.nil_append, List.mem_cons] at hx
      rcases hx with rfl | hx
      · exact ⟨B, o, h1, ho.1, ho.2.1⟩
      · exact a2 x hx
theorem PassOK.none (h : PassOK gb st w S1 ms vs us xs ys) : ∀ {i : Nat} {v : SV}, vs[i]? = some v → xs[i]? = some none → hasRf v = true → lentOwn ms vs = true := by
  induction h with
  | nil => intro i v h; simp at h
  | lent _ _ _ _ ih =>
    intro i v hv hx hr
    cases i with
    | zero => simp at hv; subst hv; simp [lentOwn, hr]
    | succ i => simp [lentOwn, ih (by simpa using hv) (by simpa using hx) hr]
  | own _ _ _ ih =>
    intro i v hv hx hr
    cases i with
    | zero => simp at hx
    | succ i => simp [lentOwn, ih (by simpa using hv) (by simpa using hx) hr]
  | ptr _ _ _ _ _ ih =>
    intro i v hv hx hr
    cases i with
    | zero => simp at hx
    | succ i => simp [lentOwn, ih (by simpa using hv) (by simpa using hx) hr]
end
theorem OwnOK.none : ∀ {ms : List Nat} {vs : List SV} {us : List Value} {xs : List (Option GA)}, OwnOK g st w ms vs us xs → ∀ {i : Nat} {v : SV}, vs[i]? = some v → xs[i]? = some none → hasRf v = true → lentOwn ms vs = true
  | m :: ms, v :: vs, u :: us, x :: xs, h, i, v', hv, hx, hr => by
    simp only [OwnOK] at h
    cases i with
    | zero =>
      simp at hv hx
      subst hv; subst hx
      rcases m with _ | _ | m
      · simp [lentOwn, hr]
      · exact h.1.elim
      · cases v <;> exact h.1.elim
    | succ i => simp [lentOwn, OwnOK.none h.2 (by simpa using hv) (by simpa using hx) hr]
  | [], [], [], [], _, _, _, hv, _, _ => by simp at hv
  | [], _ :: _, _, _, h, _, _, _, _, _ => by simp [OwnOK] at h
  | [], [], _ :: _, _, h, _, _, _, _, _ => by simp [OwnOK] at h
  | [], [], [], _ :: _, h, _, _, _, _, _ => by simp [OwnOK] at h
  | _ :: _, [], _, _, h, _, _, _, _, _ => by simp [OwnOK] at h
  | _ :: _, _ :: _, [], _, h, _, _, _, _, _ => by simp [OwnOK] at h
  | _ :: _, _ :: _, _ :: _, [], h, _, _, _, _, _ => by simp [OwnOK] at h
theorem lone_sum : ∀ (l : List Nat) {f : Nat → Nat} {N : Nat}, l.Nodup → (∀ k ∈ l, k < N) → (l.map f).sum ≤ tot f N
  | [], _, _, _, _ => by simp
  | x :: xs, f, N, hn, hl => by
    simp only [List.nodup_cons] at hn
    have h1 := tot_upd (f := f) (f' := fun j => if j = x then 0 else f j) (k := x) (hl x (List.mem_cons_self ..)) (fun j hj => if_neg hj)
    have h2 := lone_sum xs (f := fun j => if j = x then 0 else f j) (N := N) hn.2 (fun k hk => hl k (List.mem_cons_of_mem _ hk))
    have e : xs.map (fun j => if j = x then 0 else f j) = xs.map f := List.map_congr_left fun j hj => if_neg (fun e => hn.1 (by rw [← e]; exact hj))
    rw [e] at h2
    simp only [List.map_cons, List.sum_cons, if_true] at h1 ⊢
    omega
/-- A variable that another has made. -/
theorem Sim.newBoxAt (h : Sim X n g st hand a w) {b : Nat} (hb : get st.b b = none) {A : Addr} {cs : List Cel} {us : List Value} (hA : A.block < w.heap.size) (hz : ∀ k, g.has A.block k + cntL A.block hand = 0) (hf : X.w0.heap.size ≤ A.block) (hM : InMem w A us) (hc : CelsOK X.S g w cs us) :
    Sim X n (g.setB b A) { st with b := rep st.b b cs } hand a w := by
  have hg := h.nobox b hb
  have hk : Keeps Never g (g.setB b A) := keeps_newb hg
  refine { frame := h.frame, defers := h.defers, tmps := h.tmps, slots := fun t v ht => SlotOK.keep hk (fun _ _ => rfl) v _ (never_slot v) (fun _ _ _ _ _ h => h) (h.slots t v ht),
           boxes := fun k ks hk' => ?_, nobox := fun k hk' => ?_, roots := h.roots, noroot := h.noroot, reps := h.reps, held := h.held, sole := ?_, pb := fun i A hi => by
             have e := h.pb i A hi
             have : i ≠ b := fun e' => by rw [e', hg] at e; cases e
             simp [Gh.setB, this, e],
           hold := h.hold, mine := h.mine }
  · simp only [get_rep_if] at hk'
    split at hk'
    · rename_i ek
      subst ek
      simp at hk'
      subst hk'
      exact ⟨A, us, by simp [Gh.setB], hA, hM, hc.keep hk (fun _ _ => rfl) (fun c _ => never_cel c), .inl hf⟩
    · rename_i ek
      obtain ⟨A, vs, e1, e2, e3, e4, e5⟩ := h.boxes k ks hk'
      exact ⟨A, vs, by simp [Gh.setB, ek, e1], e2, e3, e4.keep hk (fun _ _ => rfl) (fun c _ => never_cel c), e5⟩
  · simp only [get_rep_if] at hk'
    split at hk'
    · cases hk'
    · rename_i ek; simp [Gh.setB, ek, h.nobox k hk']
  · refine h.sole.upd b (fun j hj => by simp [Gh.setB, hj]) (fun _ _ => rfl) (fun x => ?_)
    by_cases ex : x = A.block
    · subst ex
      refine .inr ⟨fun j => by have := hz j; omega, ?_⟩
      have := hz b
      simp only [Gh.has, Gh.setB, bcnt, if_true] at this ⊢
      omega
    · refine .inl ?_
      simp only [Gh.has, Gh.setB, bcnt, if_true]
      rw [if_neg (fun e => ex e.symm)]
      omega
theorem slot_ok {id k : Nat} {news : List G} (hg : g.gr id = some news) (hR : ∀ t ∈ news, Rp X.S w t) (x : GA) (hx : ∀ (l : Nat) (t : G), x.ts[l]? = some t → news[k + l]? = some t) : SlotOK X.S g w (x.er.slot id k) x.val := by
  cases x with
  | one t =>
    have := plant_ok hg hR [t] k hx
    simp only [GA.er, AV.slot, SlotOK, GA.val]
    exact this.2 0 _ _ rfl rfl
  | agg ts =>
    simp only [GA.er, AV.slot, SlotOK, GA.val]
    exact ⟨_, rfl, plant_ok hg hR ts k hx⟩
  | ptr => simp [GA.er, AV.slot, SlotOK]
theorem slots_ok {id : Nat} {news : List G} (hg : g.gr id = some news) (hR : ∀ t ∈ news, Rp X.S w t) : ∀ (xs : List GA) (k : Nat), (∀ (l : Nat) (t : G), (xs.flatMap GA.ts)[l]? = some t → news[k + l]? = some t) → SlotsOK X.S g w (slots id k (xs.map GA.er)) (xs.map GA.val)
  | [], _, _ => by simp [slots, SlotsOK]
  | x :: xs, k, h => by
    simp only [List.map_cons, slots, SlotsOK]
    refine ⟨slot_ok hg hR x (fun l t ht => h l t (by rw [List.flatMap_cons, List.getElem?_append_left (List.getElem?_eq_some_iff.1 ht).1]; exact ht)), slots_ok hg hR xs _ (fun l t ht => ?_)⟩
    rw [GA.er_ts, List.length_map]
    have := h (x.ts.length + l) t (by rw [List.flatMap_cons, List.getElem?_append_right (by omega)]; simpa using ht)
    rwa [← Nat.add_assoc] at this
theorem results_in {d : Option Nat} {id : Nat} {news tl : List G} {rs : List GA} (h : Sim X n g st [] a w) (hd : ∀ k, d = some k → k < n) (hg : g.gr id = some news) (he : news = rs.flatMap GA.ts ++ tl)
    (hP : ∀ A ts, GA.ptr A ts ∈ rs → A.block < w.heap.size ∧ InMem w A (ts.map hdr) ∧ X.w0.heap.size ≤ A.block ∧ ∀ k, g.has A.block k = 0) (hp : runP Te (slotsP d id (rs.map GA.er)) st (fun _ st' => K st')) : Goal X n K (a.put d (resVal rs)) w := by
  have hR : ∀ t ∈ news, Rp X.S w t := h.reps id news hg
  have hx : ∀ (l : Nat) (t : G), (rs.flatMap GA.ts)[l]? = some t → news[0 + l]? = some t := fun l t ht => by
    rw [he, Nat.zero_add, List.getElem?_append_left (List.getElem?_eq_some_iff.1 ht).1]; exact ht
  have hall := slots_ok hg hR rs 0 hx
  match rs, hall, hx, hP, hp with
  | [], hall, _, _, hp => exact fin_ok h hd (by simp only [SlotOK]; exact ⟨_, rfl, hall⟩) hp
  | x :: y :: zs, hall, _, _, hp =>
    have e : slotsP d id ((x :: y :: zs).map GA.er) = fin d (.tup (slots id 0 ((x :: y :: zs).map GA.er))) := by cases x <;> rfl
    rw [e] at hp
    exact fin_ok h hd (by simp only [SlotOK]; exact ⟨_, rfl, hall⟩) hp
  | [.one t], hall, _, _, hp => exact fin_ok h hd hall.1 hp
  | [.agg ts], hall, _, _, hp => exact fin_ok h hd hall.1 hp
  | [.ptr A ts], _, hx, hP, hp =>
    obtain ⟨p1, p2, p3, p4⟩ := hP A ts (List.mem_cons_self ..)
    simp only [List.map_cons, List.map_nil, GA.er, slotsP, runP] at hp
    cases hb : get st.b id with
    | some _ => simp [hb] at hp
    | none =>
      simp only [hb] at hp
      have h1 := h.newBoxAt hb p1 (fun k => by simp [p4 k, cntL]) p3 p2 (plant_ok hg hR ts 0 (fun l t ht => hx l t (by simpa [GA.ts] using ht)))
      exact fin_ok h1 hd (by simp only [SlotOK]; exact ⟨A, by simp [Gh.setB], rfl⟩) hp
end
end Go.X
