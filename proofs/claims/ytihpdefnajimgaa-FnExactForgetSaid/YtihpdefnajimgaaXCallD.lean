/- A call, held against the model: the operation. -/
import Derived.Test.YtihpdefnajimgaaXCallC
namespace Go.X
section
variable {P : Program} {X : Ctx} {n : Nat} {g : Gh} {st : St} {hand : List G} {a : Act} {w w' : World} {α : Type} {Te : Nat → List AV → Res → Prop} {o : Oper} {K : St → Prop} {Q : Exit → Act → World → Prop}
theorem run_callF {c : Call} {f : FuncId} {fn : Func} (ho : o.op = .call c) (hc : c.callee = .value (.func f)) (hf : P.funcs[f]? = some fn) (hname : (fn.name == "runtime.NumGoroutine") = false) (hb : fn.body.isSome = true) :
    (execOp a.eval o).run P w = .ok (.enter f (c.args.map a.eval)) w := by
  have h1 : ¬ fn.name = "runtime.NumGoroutine" := by simpa using hname
  have h2 : ¬ fn.body = none := by cases hx : fn.body <;> simp_all
  unfold execOp
  simp [ho, resolve, hc, Deferred.ofValue, invoke, callFunc, hf, h1, h2, Act.eval]
theorem nodup_noRo {rs : List (List T)} (h : noRoLL rs = true) : ∀ r ∈ rs, ∀ t ∈ r, noRo t = true := by
  rw [noRoLL_eq] at h
  simp only [List.all_eq_true] at h
  exact h
theorem ptrO_sub : ∀ {ms : List Nat} {os : List (List G)}, ∀ t ∈ ptrO ms os, t ∈ os.flatten
  | [], _, t, h => by simp [ptrO] at h
  | m :: ms, [], t, h => by simp [ptrO] at h
  | m :: ms, o :: os, t, h => by
    simp only [ptrO, List.mem_append] at h
    simp only [List.flatten_cons, List.mem_append]
    rcases h with h | h
    · rcases m with _ | _ | m
      · cases h
      · cases h
      · exact .inl h
    · exact .inr (ptrO_sub t h)
theorem ptrO_cnt (b : Nat) : ∀ (ms : List Nat) (os : List (List G)), cntL b (ptrO ms os) ≤ cntL b os.flatten
  | [], _ => by simp [ptrO, cntL]
  | m :: ms, [] => by simp [ptrO, cntL]
  | m :: ms, o :: os => by
    have := ptrO_cnt b ms os
    simp only [ptrO, List.flatten_cons, cntL_append]
    rcases m with _ | _ | m <;> simp only [cntL] <;> omega
theorem do_call {c : Call} {f : FuncId} {fn : Func} {ms : List Nat} {ys : List Opd} {id : Nat} (h : Sim X n g st [] a w) (ho : o.op = .call c) (hc : c.callee = .value (.func f)) (hf : P.funcs[f]? = some fn) (hname : (fn.name == "runtime.NumGoroutine") = false) (hb : fn.body.isSome = true)
    (hx : opdsOk c.args.toList ys = true) (hd : ∀ k, o.dst = some k → k < n) (hp : runP (Tells P) ((COp.call f ms ys).prg o.dst id) st (fun _ st' => K st')) : o.wp P a w (Goal X n K) Q := by
  replace hp := evL_ok h hx hp
  obtain ⟨vs, hvs, hp⟩ := hp
  simp only [callP, runP] at hp
  obtain ⟨hl, hp⟩ := hp
  have hnd := loneN_nodup hl
  obtain ⟨g1, st1, xs, h1, k1, b1, s1, bb1, hp, hO⟩ := passOwn_ok ms vs _ h hvs hp
  have hvs1 := SlotsOK.keep k1 (fun _ _ => rfl) (fun _ _ _ h => h) vs _ hvs
  obtain ⟨zs, hp, hL⟩ := passLend_ok (S1 := fun b => X.S b ∨ (lentOwn ms vs = true ∧ LendS X g1 b)) (fun b hb => .inl hb) h1 vs _ xs hvs1 hp (fun i v hv hn hr b hb => .inr ⟨hO.none hv hn hr, hb⟩)
  have hok := passOK hO hL
  simp only [runP] at hp
  obtain ⟨r, hT, hck, hp⟩ := hp
  cases hid : get st1.r id with
  | some _ => simp [hid] at hp
  | none =>
  simp only [hid] at hp
  have hlive : ∀ b r, 0 < rcnt b (g1.gr r) → b < w.heap.size := fun b r h0 => h1.lt b r (by simp only [Gh.has]; omega)
  have hbox : ∀ x ∈ boxesOf ms vs, ∃ B, g1.gb x = some B := fun x hx => by
    rw [← ptsOf_boxes] at hx
    obtain ⟨y, hy, rfl⟩ := List.mem_map.1 hx
    obtain ⟨B, _, _, e, _⟩ := hok.ptrs.2 y hy
    exact ⟨B, by rw [b1]; exact e⟩
  have htree : ∀ b, treeCnt b zs = cntL b (xs.flatMap oTs) := hok.trees
  have hposP : ∀ b, 0 < ptrCnt b zs → ∃ x ∈ boxesOf ms vs, ∃ B, g1.gb x = some B ∧ B.block = b := fun b h0 => by
    have := hok.cnts b
    by_cases hex : ∃ x ∈ boxesOf ms vs, ∃ B, g1.gb x = some B ∧ B.block = b
    · exact hex
    · have : ((boxesOf ms vs).map fun k => bcnt b (g.gb k)).sum = 0 := by
        have : ∀ l : List Nat, (∀ x ∈ l, x ∈ boxesOf ms vs) → (l.map fun k => bcnt b (g.gb k)).sum = 0 := fun l => by
          induction l with
          | nil => intro _; rfl
          | cons x l ih =>
            intro hm
            obtain ⟨B, hB⟩ := hbox x (hm x (List.mem_cons_self ..))
            rw [b1] at hB
            have : ¬ B.block = b := fun e => hex ⟨x, hm x (List.mem_cons_self ..), B, by rw [b1]; exact hB, e⟩
            have e0 : bcnt b (g.gb x) = 0 := by rw [hB]; exact if_neg this
            have e1 := ih (fun y hy => hm y (List.mem_cons_of_mem _ hy))
            simp only [List.map_cons, List.sum_cons, e0, e1]
        exact this _ (fun _ h => h)
      omega
  have hle : ∀ b, treeCnt b zs + ptrCnt b zs ≤ 1 := fun b => by
    obtain ⟨N, q1, q2⟩ := h1.sole
    have a1 := lone_sum (boxesOf ms vs) (f := g1.has b) (N := N) (by rw [← ptsOf_boxes] at hnd ⊢; exact hnd) (fun k hk => by
      obtain ⟨B, hB⟩ := hbox k hk
      by_cases hkN : k < N
      · exact hkN
      · rw [(q1 k (by omega)).1] at hB; cases hB)
    have a2 : ((boxesOf ms vs).map fun k => bcnt b (g.gb k)).sum ≤ ((boxesOf ms vs).map (g1.has b)).sum := by
      rw [← b1]
      have : ∀ l : List Nat, (l.map fun k => bcnt b (g1.gb k)).sum ≤ (l.map (g1.has b)).sum := fun l => by
        induction l with
        | nil => simp
        | cons x l ih => simp only [List.map_cons, List.sum_cons, Gh.has]; omega
      exact this _
    have a3 := q2 b
    have a4 := hok.cnts b
    have a5 := htree b
    rw [cntL_append] at a3
    omega
  have hnS : ∀ b, 0 < treeCnt b zs + ptrCnt b zs → ¬ (X.S b ∨ (lentOwn ms vs = true ∧ LendS X g1 b)) := fun b h0 hS => by
    by_cases ht : 0 < treeCnt b zs
    · rw [htree] at ht
      have hm := h1.mine b 0 (by rw [cntL_append]; omega)
      rcases hS with hS | ⟨_, hS | ⟨r, hr⟩⟩
      · exact hm.1 hS
      · exact hm.1 hS
      · have := h1.sole.one b r
        simp only [Gh.has, cntL_append] at this
        omega
    · obtain ⟨x, _, B, hB, rfl⟩ := hposP b (by omega)
      rcases hS with hS | ⟨_, hS | ⟨r, hr⟩⟩
      · exact (h1.boxS hB).1 hS
      · exact (h1.boxS hB).1 hS
      · by_cases e : x = r
        · subst e
          have := h1.sole.one B.block x
          simp only [Gh.has, hB, bcnt, if_true] at this
          omega
        · have := h1.sole.two e B.block
          simp only [Gh.has, hB, bcnt, if_true] at this
          omega
  have hcall := hT _ zs w rfl (fun b hb => by
      rcases hb with hb | ⟨_, hb | ⟨r, hr⟩⟩
      · exact Nat.lt_of_lt_of_le (X.stay b hb).1 h.frame.size
      · exact Nat.lt_of_lt_of_le (X.stay b hb).1 h.frame.size
      · exact hlive b r hr) (fun x hx => ⟨hok.reps (fun t ht => (h1.held t (List.mem_append_left _ ht)).move (fun b hb => .inl hb) (fun _ _ => rfl) (fun _ _ => rfl)) x hx, fun A ts e => by
        subst e
        obtain ⟨q1, b, _, B, q2, q3⟩ := hok.ptrs.1 A ts hx
        exact ⟨by rw [q3]; exact (h.boxS q2).2.1, q1⟩⟩) hle hnS
  unfold Oper.wp
  rw [run_callF ho hc hf hname hb, Oper.upon_enter]
  have ea : c.args.map a.eval = (zs.map GA.val).toArray := by
    rw [hok.vals]
    apply Array.toList_inj.1
    simp
  rw [ea]
  refine hcall.mono ?_
  rintro e w1 ⟨rs, os, rfl, er1, er2, hrs, hos, hOut, hc1, hc2, hF, hnew⟩
  have e_os : r.outs = os.map (·.map er) := er2.symm
  have e_rs : r.res.flatMap AV.ts = (rs.flatMap GA.ts).map er := by
    rw [← er1]
    have : ∀ l : List GA, (l.map GA.er).flatMap AV.ts = (l.flatMap GA.ts).map er := fun l => by
      induction l with
      | nil => rfl
      | cons x l ih => simp [GA.er_ts, ih]
    exact this rs
  have e_ln : (r.res.flatMap AV.ts).length = (rs.flatMap GA.ts).length := by rw [e_rs, List.length_map]
  have hnews : ∀ t, t ∈ rs.flatMap GA.ts ∨ t ∈ ptrO ms os → Rp X.S w1 t := fun t ht => by
    have h0 : Rp (fun b => X.S b ∨ (lentOwn ms vs = true ∧ LendS X g1 b)) w1 t := by
      rcases ht with ht | ht
      · obtain ⟨x, hx, ht⟩ := List.mem_flatMap.1 ht
        exact (hrs x hx).1 t ht
      · obtain ⟨o', ho', ht⟩ := List.mem_flatten.1 (ptrO_sub t ht)
        exact hos o' ho' t ht
    cases hlo : lentOwn ms vs with
    | false =>
      refine h0.move (fun b hb => ?_) (fun _ _ => rfl) (fun _ _ => rfl)
      rcases hb with hb | hb
      · exact hb
      · rw [hlo] at hb; cases hb.1
    | true =>
      simp only [hlo, Bool.not_true, Bool.false_or, Bool.and_eq_true] at hck
      refine h0.noRo ?_
      rcases ht with ht | ht
      · have := hck.1
        rw [noRoL_eq, e_rs] at this
        simp only [List.all_eq_true, List.mem_map, forall_exists_index, and_imp, forall_apply_eq_imp_iff₂] at this
        exact this t ht
      · have := hck.2
        rw [noRoL_eq, e_os, ← ptrO_er] at this
        simp only [List.all_eq_true, List.mem_map, forall_exists_index, and_imp, forall_apply_eq_imp_iff₂] at this
        exact this t ht
  have hnn : ∀ b, cntL b (rs.flatMap GA.ts ++ ptrO ms os) + ptrCnt b rs ≤ treeCnt b rs + ptrCnt b rs + cntL b os.flatten := fun b => by
    have := ptrO_cnt b ms os
    simp only [cntL_append, treeCnt]
    omega
  -- the pointed variables
  have hpts : PtsIn g1 st1 (ptsOf ms vs) := fun x hx => by
    obtain ⟨B, cs, _, q1, q2, q3, _⟩ := hok.ptrs.2 x hx
    exact ⟨B, cs, by rw [b1]; exact q1, by rw [bb1]; exact q2, q3⟩
  obtain ⟨d1, d2, d3, d4, d5⟩ := dead_ok h1 hpts (by rw [ptsOf_boxes]; exact hnd)
  obtain ⟨hBack, hBx⟩ := hok.back hOut
  have hA := d1.after (news := rs.flatMap GA.ts ++ ptrO ms os) (fun k => k ∈ boxesOf ms vs) hF.os hF.tape hF.output hF.size (fun b hb hc hk => by
      refine hF.block b hb ?_
      have e1 := htree b
      by_cases h0 : 0 < ptrCnt b zs
      · obtain ⟨x, hx, B, hB, e⟩ := hposP b h0
        exact absurd e (hk x B hx hB)
      · omega) (fun k A cs hk hA hcs => by
      rw [← ptsOf_boxes] at hk
      obtain ⟨x, hx, rfl⟩ := List.mem_map.1 hk
      obtain ⟨B, cs0, ts, q1, q2, q3, q4, q5⟩ := hok.ptrs.2 x hx
      obtain ⟨B', o', p1, p2, p3⟩ := hBx x hx
      rw [q1] at p1
      simp at p1
      subst p1
      rw [b1, q1] at hA
      simp at hA
      subst hA
      rw [d5 x hx cs0 (by rw [bb1]; exact q2)] at hcs
      simp at hcs
      subst hcs
      refine ⟨x.2.1, o'.map hdr, ?_, p3, fun i hi1 hi2 => ?_, fun oo hoo => ?_⟩
      · simp [seg]; omega
      · have e1 : (cs0.take x.2.1).length = x.2.1 := by simp; omega
        simp only [List.length_map] at hi2
        unfold seg
        rw [List.getElem?_append_left (by simp; omega), List.getElem?_append_right (by omega), List.getElem?_replicate, if_pos (by omega)]
      · refine hF.range (atB B x.2.1) ts q5 oo ?_
        simpa [q4, p2] using hoo) (fun t ht => hnews t (by
      rcases List.mem_append.1 ht with ht | ht
      · exact .inl ht
      · exact .inr ht)) (fun b => by
      have a1 := hnn b
      have a2 := hc1 b
      have a3 := hc2 b
      have a4 := htree b
      by_cases h0 : cntL b (rs.flatMap GA.ts ++ ptrO ms os) = 0
      · left; omega
      · rcases a3 (by omega) with a3 | a3
        · right; exact ⟨a3, by omega⟩
        · left; omega)
  have hA2 := hA.newRoot (d := id) (by rw [d3]; exact hid)
  have e_news : (rs.flatMap GA.ts ++ ptrO ms os).map er = r.res.flatMap AV.ts ++ ptrOuts ms r.outs := by rw [List.map_append, ptrO_er, e_rs, e_os]
  have hp2 : runP (Tells P) (backP id ms vs (os.map (·.map er)) (rs.flatMap GA.ts).length (slotsP o.dst id r.res)) { s := st1.s, b := st1.b, r := rep st1.r id (r.res.flatMap AV.ts ++ ptrOuts ms r.outs) } (fun _ st' => K st') := by
    rw [← e_os, ← e_ln]; exact hp
  rw [e_news] at hA2
  obtain ⟨st', r1, r2, r3, r4⟩ := back_ok (id := id) (news := rs.flatMap GA.ts ++ ptrO ms os) ms vs os (rs.flatMap GA.ts).length (sd := { deadS (ptsOf ms vs) st1 with r := rep (deadS (ptsOf ms vs) st1).r id (r.res.flatMap AV.ts ++ ptrOuts ms r.outs) })
    (st := { s := st1.s, b := st1.b, r := rep st1.r id (r.res.flatMap AV.ts ++ ptrOuts ms r.outs) }) hA2 ⟨fun k => by simp only [d2], fun k => by simp only [d3]⟩ (fun k hk => d4 k hk) (fun x hx => by
      obtain ⟨B, cs0, ts, q1, q2, q3, q4, q5⟩ := hok.ptrs.2 x hx
      exact ⟨cs0, by simp only [bb1]; exact q2, q3, d5 x hx cs0 (by rw [bb1]; exact q2)⟩) (by rw [ptsOf_boxes]; exact hnd) (setR_same _ _ _) (by simp) (by
      have : (g1.setR id (rs.flatMap GA.ts ++ ptrO ms os)).gb = g.gb := b1
      rw [this]
      exact hBack) hp2
  rw [← er1] at r4
  refine results_in r1 hd (setR_same _ _ _) rfl (fun A ts hm => ?_) r4
  have p1 := (hrs _ hm).2 A ts rfl
  have p2 := hnew A ts hm
  have p3 := ptrCnt_mem hm
  have p4 := hnn A.block
  have p5 := hc1 A.block
  refine ⟨p1.1, p1.2, Nat.le_trans h.frame.size p2, fun k => ?_⟩
  have z : ∀ k, g1.has A.block k = 0 := fun k => by
    have := fun h0 => h1.lt A.block k h0
    omega
  by_cases e : k = id
  · subst e
    have := z k
    simp only [Gh.has] at this ⊢
    rw [setR_same]
    show bcnt A.block (g1.gb k) + _ = 0
    simp only [rcnt]
    omega
  · have := z k
    simp only [Gh.has] at this ⊢
    rw [setR_ne _ _ e]
    exact this
end
end Go.X
