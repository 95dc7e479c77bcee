/- A call, held against the model: behind it. -/
import Derived.Test.YtihpdefnajimgaaXCallOp
namespace Go.X
section
variable {P : Program} {X : Ctx} {n : Nat} {g : Gh} {st : St} {hand : List G} {a : Act} {w w' : World} {α : Type} {Te : Nat → List AV → Res → Prop} {o : Oper} {K : St → Prop} {Q : Exit → Act → World → Prop}
def ptsOf : List Nat → List SV → List (Nat × Nat × Nat)
  | m :: ms, v :: vs => (match m, v with
    | m + 2, .bp b off => [(b, off, m)]
    | _, _ => []) ++ ptsOf ms vs
  | _, _ => []
theorem ptsOf_boxes : ∀ (ms : List Nat) (vs : List SV), (ptsOf ms vs).map (·.1) = boxesOf ms vs
  | [], _ => by simp [ptsOf, boxesOf]
  | _ :: _, [] => by simp [ptsOf, boxesOf]
  | m :: ms, v :: vs => by
    have ih := ptsOf_boxes ms vs
    match m, v with
    | 0, _ => simpa [ptsOf, boxesOf] using ih
    | 1, _ => simpa [ptsOf, boxesOf] using ih
    | m + 2, .bp b off => simpa [ptsOf, boxesOf] using ih
    | m + 2, .un => simpa [ptsOf, boxesOf] using ih
    | m + 2, .one _ => simpa [ptsOf, boxesOf] using ih
    | m + 2, .agg _ => simpa [ptsOf, boxesOf] using ih
    | m + 2, .tup _ => simpa [ptsOf, boxesOf] using ih
    | m + 2, .ap .. => simpa [ptsOf, boxesOf] using ih
    | m + 2, .rp _ => simpa [ptsOf, boxesOf] using ih
theorem loneN_nodup : ∀ {l : List Nat}, loneN l = true → l.Nodup
  | [], _ => List.nodup_nil
  | x :: xs, h => by
    simp only [loneN, Bool.and_eq_true, Bool.not_eq_true', List.contains_eq_mem] at h
    exact List.nodup_cons.2 ⟨by simpa using h.1, loneN_nodup h.2⟩
/-- A part of a variable's cells is told anew. -/
def seg (cs : List Cel) (off : Nat) (pl : List Cel) : List Cel := cs.take off ++ pl ++ cs.drop (off + pl.length)
def deadS : List (Nat × Nat × Nat) → St → St
  | [], st => st
  | x :: l, st => deadS l { st with b := rep st.b x.1 (seg ((get st.b x.1).getD []) x.2.1 (List.replicate x.2.2 .dead)) }
def PtsIn (g : Gh) (st : St) (l : List (Nat × Nat × Nat)) : Prop := ∀ x ∈ l, ∃ B cs, g.gb x.1 = some B ∧ get st.b x.1 = some cs ∧ x.2.1 + x.2.2 ≤ cs.length
theorem seg_get {us : List Value} {off m i : Nat} {u : Value} (h : ((us.drop off).take m)[i]? = some u) : us[off + i]? = some u := by
  have := take_get h
  rwa [List.getElem?_drop] at this
theorem dead_ok : ∀ {l : List (Nat × Nat × Nat)} {st : St}, Sim X n g st hand a w → PtsIn g st l → (l.map (·.1)).Nodup →
    Sim X n g (deadS l st) hand a w ∧ (deadS l st).s = st.s ∧ (deadS l st).r = st.r ∧ (∀ k, k ∉ l.map (·.1) → get (deadS l st).b k = get st.b k) ∧ ∀ x ∈ l, ∀ cs, get st.b x.1 = some cs → get (deadS l st).b x.1 = some (seg cs x.2.1 (List.replicate x.2.2 .dead))
  | [], st, h, _, _ => ⟨h, rfl, rfl, fun _ _ => rfl, fun x hx => by cases hx⟩
  | x :: l, st, h, hp, hd => by
    obtain ⟨B, cs, hB, hb, hl⟩ := hp x (List.mem_cons_self ..)
    simp only [List.map_cons, List.nodup_cons] at hd
    obtain ⟨B', us, hB', _, hM, hC, _⟩ := h.boxes x.1 cs hb
    rw [hB] at hB'
    simp at hB'
    subst hB'
    have hul : us.length = cs.length := hC.1.symm
    have h1 := h.recel (off := x.2.1) (pl := List.replicate x.2.2 .dead) (vs := (us.drop x.2.1).take x.2.2) hb hB (by simpa using hl) ⟨by simp; omega, fun i c u hc hu => by
        obtain rfl := (List.mem_replicate.1 (List.mem_of_getElem? hc)).2
        exact (hM _ u (seg_get hu)).2.2⟩ (fun i u hu => by
        have := hM _ u (seg_get hu)
        simpa only [Nat.add_assoc] using this)
    have e : deadS (x :: l) st = deadS l { st with b := rep st.b x.1 (seg cs x.2.1 (List.replicate x.2.2 .dead)) } := by simp [deadS, hb]
    have hne : ∀ y ∈ l, y.1 ≠ x.1 := fun y hy e => hd.1 (by rw [← e]; exact List.mem_map_of_mem hy)
    obtain ⟨k1, k2, k3, k4, k5⟩ := dead_ok (l := l) (st := { st with b := rep st.b x.1 (seg cs x.2.1 (List.replicate x.2.2 .dead)) }) h1 (fun y hy => by
      obtain ⟨B', cs', q1, q2, q3⟩ := hp y (List.mem_cons_of_mem _ hy)
      exact ⟨B', cs', q1, by simp only [get_rep_if, if_neg (hne y hy)]; exact q2, q3⟩) hd.2
    rw [e]
    refine ⟨k1, k2, k3, fun k hk => ?_, fun y hy cs' hcs => ?_⟩
    · simp only [List.map_cons, List.mem_cons, not_or] at hk
      rw [k4 k hk.2]
      simp [get_rep_if, hk.1]
    · rcases List.mem_cons.1 hy with rfl | hy
      · rw [hb] at hcs
        simp at hcs
        subst hcs
        rw [k4 _ hd.1]
        simp [get_rep_if]
      · exact k5 y hy cs' (by simp only [get_rep_if, if_neg (hne y hy)]; exact hcs)
theorem seg_seg (cs : List Cel) (off : Nat) (p q : List Cel) (e : p.length = q.length) (hl : off + p.length ≤ cs.length) : seg (seg cs off p) off q = seg cs off q := by
  have h1 : (cs.take off).length = off := by simp; omega
  have e1 : (cs.take off ++ p ++ cs.drop (off + p.length)).take off = cs.take off := by rw [List.append_assoc]; exact List.take_left' h1
  have e2 : (cs.take off ++ p ++ cs.drop (off + p.length)).drop (off + p.length) = cs.drop (off + p.length) := List.drop_left' (by simp; omega)
  unfold seg
  rw [e1, ← e, e2]
/-- What pointers point to, behind a call. -/
def BackOK (gb : Nat → Option Addr) (w : World) : List Nat → List SV → List (List G) → Prop
  | m :: ms, v :: vs, o :: os => (match m, v with
    | m + 2, .bp b off => ∃ B, gb b = some B ∧ o.length = m ∧ InMem w ⟨B.block, B.off + off, none⟩ (o.map hdr)
    | _, _ => True) ∧ BackOK gb w ms vs os
  | _, _, _ => True
def ptrO : List Nat → List (List G) → List G
  | m :: ms, o :: os => (match m with | _ + 2 => o | _ => []) ++ ptrO ms os
  | _, _ => []
theorem ptrO_er : ∀ (ms : List Nat) (os : List (List G)), (ptrO ms os).map er = ptrOuts ms (os.map (·.map er))
  | [], _ => by simp [ptrO, ptrOuts]
  | m :: ms, [] => by match m with
    | 0 => simp [ptrO, ptrOuts]
    | 1 => simp [ptrO, ptrOuts]
    | m + 2 => simp [ptrO, ptrOuts]
  | m :: ms, o :: os => by
    have ih := ptrO_er ms os
    match m with
    | 0 => simpa [ptrO, ptrOuts] using ih
    | 1 => simpa [ptrO, ptrOuts] using ih
    | m + 2 => simp [ptrO, ptrOuts, ih]
structure Same (st sd : St) : Prop where
  s : ∀ k, get sd.s k = get st.s k
  r : ∀ k, get sd.r k = get st.r k
theorem back_ok {R : α → St → Prop} {id : Nat} {news : List G} : ∀ (ms : List Nat) (vs : List SV) (os : List (List G)) (nn : Nat) {k : Prg α} {st sd : St}, Sim X n g sd hand a w → Same st sd → (∀ k, k ∉ (ptsOf ms vs).map (·.1) → get sd.b k = get st.b k) →
    (∀ x ∈ ptsOf ms vs, ∃ cs, get st.b x.1 = some cs ∧ x.2.1 + x.2.2 ≤ cs.length ∧ get sd.b x.1 = some (seg cs x.2.1 (List.replicate x.2.2 .dead))) → ((ptsOf ms vs).map (·.1)).Nodup → g.gr id = some news →
    news.drop nn = ptrO ms os → BackOK g.gb w ms vs os → runP Te (backP id ms vs (os.map (·.map er)) nn k) st R → ∃ st', Sim X n g st' hand a w ∧ st'.s = st.s ∧ st'.r = st.r ∧ runP Te k st' R
  | [], [], [], nn, k, st, sd, h, hs, hb, _, _, _, _, _, hp => ⟨st, h.ext (fun k => (hs.s k).symm) (fun k => (hb k (by simp [ptsOf])).symm) (fun k => (hs.r k).symm), rfl, rfl, hp⟩
  | m :: ms, v :: vs, o :: os, nn, k, st, sd, h, hs, hb, hd, hn, hg, hnn, hB, hp => by
    have plain : ∀ (mm : Nat), (match mm, v with | m + 2, .bp b off => [(b, off, m)] | _, _ => ([] : List (Nat × Nat × Nat))) = [] → mm = m →
        runP Te (backP id ms vs (os.map (·.map er)) (nn + (match m with | mm + 2 => mm | _ => 0)) k) st R → news.drop (nn + (match m with | mm + 2 => mm | _ => 0)) = ptrO ms os → ∃ st', Sim X n g st' hand a w ∧ st'.s = st.s ∧ st'.r = st.r ∧ runP Te k st' R := by
      intro mm e1 e2 hp1 hnn1
      subst e2
      have e : ptsOf (mm :: ms) (v :: vs) = ptsOf ms vs := by simp only [ptsOf]; rw [e1]; rfl
      rw [e] at hb hd hn
      simp only [BackOK] at hB
      exact back_ok ms vs os _ h hs hb hd hn hg hnn1 hB.2 hp1
    rcases m with _ | _ | m
    · exact plain 0 rfl rfl (by simpa [backP] using hp) (by simpa [ptrO] using hnn)
    · exact plain 1 rfl rfl (by simpa [backP] using hp) (by simpa [ptrO] using hnn)
    cases v with
    | bp b off =>
      simp only [List.map_cons, backP, runP] at hp
      obtain ⟨cs, q1, q2, q3⟩ := hd (b, off, m) (by simp [ptsOf])
      simp only at q1 q2 q3
      simp only [q1, Bool.and_eq_true, beq_iff_eq, decide_eq_true_eq, List.length_map] at hp
      obtain ⟨⟨hol, _⟩, hp⟩ := hp
      simp only [BackOK] at hB
      obtain ⟨⟨B, hgb, _, hM⟩, hB2⟩ := hB
      simp only [ptrO] at hnn
      have hpl : CelsOK X.S g w (plant id nn (o.map er)) (o.map hdr) := plant_ok hg (h.reps id news hg) o nn (fun l t ht => by
        have : (news.drop nn)[l]? = some t := by rw [hnn, List.getElem?_append_left (List.getElem?_eq_some_iff.1 ht).1]; exact ht
        rwa [List.getElem?_drop] at this)
      have hll : (plant id nn (o.map er)).length = m := by rw [plant_length]; simpa using hol
      have hsl : (seg cs off (List.replicate m .dead)).length = cs.length := by simp [seg]; omega
      have h1 := h.recel (off := off) q3 hgb (by rw [hll, hsl]; omega) hpl hM
      have e1 : (seg cs off (List.replicate m .dead)).take off ++ plant id nn (o.map er) ++ (seg cs off (List.replicate m .dead)).drop (off + (plant id nn (o.map er)).length) = cs.take off ++ plant id nn (o.map er) ++ cs.drop (off + m) := by
        have := seg_seg cs off (List.replicate m .dead) (plant id nn (o.map er)) (by rw [hll]; simp) (by simpa using q2)
        rw [show cs.drop (off + m) = cs.drop (off + (plant id nn (o.map er)).length) by rw [hll]]
        exact this
      rw [e1] at h1
      have hn' : ((ptsOf ms vs).map (·.1)).Nodup ∧ b ∉ (ptsOf ms vs).map (·.1) := by
        simp only [ptsOf, List.cons_append, List.nil_append, List.map_cons, List.nodup_cons] at hn
        exact ⟨hn.2, hn.1⟩
      obtain ⟨st', r1, r2, r3, r4⟩ := back_ok ms vs os (nn + m) (st := { st with b := rep st.b b (cs.take off ++ plant id nn (o.map er) ++ cs.drop (off + m)) }) h1 ⟨hs.s, hs.r⟩ (fun k hk => by
          simp only [get_rep_if]
          split
          · rfl
          · rename_i e
            exact hb k (by simp only [ptsOf, List.cons_append, List.nil_append, List.map_cons, List.mem_cons, not_or]; exact ⟨e, hk⟩)) (fun x hx => by
          have e : x.1 ≠ b := fun e => hn'.2 (by rw [← e]; exact List.mem_map_of_mem hx)
          simp only [get_rep_if, if_neg e]
          exact hd x (by simp [ptsOf, hx])) hn'.1 hg (by
          rw [← List.drop_drop, hnn, List.drop_append]
          simp [hol]) hB2 hp
      exact ⟨st', r1, r2, r3, r4⟩
    | _ => simp [backP, runP] at hp
  | [], [], _ :: _, _, _, _, _, _, _, _, _, _, _, _, _, hp => by simp [backP, runP] at hp
  | [], _ :: _, _, _, _, _, _, _, _, _, _, _, _, _, _, hp => by simp [backP, runP] at hp
  | _ :: _, [], _, _, _, _, _, _, _, _, _, _, _, _, _, hp => by simp [backP, runP] at hp
  | _ :: _, _ :: _, [], _, _, _, _, _, _, _, _, _, _, _, _, hp => by simp [backP, runP] at hp
end
end Go.X
