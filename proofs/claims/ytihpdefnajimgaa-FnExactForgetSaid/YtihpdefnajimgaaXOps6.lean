/- Slices that are made, bytes and strings, struct values. -/
import Derived.Test.YtihpdefnajimgaaXOps5
namespace Go.X
section
variable {P : Program} {X : Ctx} {n : Nat} {g : Gh} {st : St} {hand : List G} {a : Act} {w : World} {α : Type} {Te : Nat → List AV → Res → Prop} {o : Oper} {K : St → Prop} {Q : Exit → Act → World → Prop}
/-- A new array, and nothing else turned. -/
theorem newArr_ok {w1 : World} {d z cap e : Nat} {cur : Array Value} {fz : Nat × Nat} {rs : List (List G)} {rows : List (List T)} (h : Sim X n g st rs.flatten a w) (hs : Step (fun _ => False) w w1) (hg : w1.heap[w.heap.size]? = some (.cells cur e fz)) (hfz : ∀ o, o < cur.size → ¬ (fz.1 ≤ o ∧ o < fz.2))
    (hl : rs.length ≤ cap) (hm : cap ≤ maxLen) (hsz : cur.size = cap * z) (hz : ∀ r ∈ rs, r.length = z) (hd0 : cur.toList.take (rs.length * z) = hds rs) (hrun : (execOp a.eval o).run P w = .ok (.value (.slice (some ⟨w.heap.size, 0, none⟩) rs.length cap)) w1)
    (hdst : o.dst = some d) (hdn : d < n) (he : rs.map (·.map er) = rows) (hp : runP Te (newSl d z rows) st (fun _ st' => K st')) : o.wp P a w (Goal X n K) Q := by
  have lo : ∀ b, 0 < cntL b rs.flatten → b < w.heap.size := fun b hb => h.lt b 0 (by omega)
  have h1 : Sim X n g st ([.sl true z (.slice (some ⟨w.heap.size, 0, none⟩) rs.length cap) rs] ++ []) a w1 := Sim.world (us := rs.flatten) (hand := []) (by simpa using h) (hs.weaken (fun _ h => h.elim)) (fun t ht => by
      simp at ht
      subst ht
      refine .own hg hfz hl hm hsz hz hd0 (fun r hr t ht => (h.held t (List.mem_flatten.2 ⟨r, hr, ht⟩)).move (fun _ h => h) (fun b hb => hs.block b (Nat.lt_of_lt_of_le (X.stay b hb).1 h.frame.size) id) (fun b hb => hs.block b ((h.held t (List.mem_flatten.2 ⟨r, hr, ht⟩)).lt b hb) id)))
    (fun b => by
      simp only [cntL, cnt, cntL_flatten] at lo ⊢
      by_cases e : w.heap.size = b
      · right
        have := fun h0 => lo b h0
        simp only [hb, e, if_true]
        omega
      · left
        simp only [hb, e, if_false]
        omega)
  refine step_value hrun ?_
  rw [hdst]
  exact newSl_ok (by simpa using h1) hdn he hp
/-- A zero value, and what stands for it. -/
def constT : Value → T → Bool
  | .int k n, .pv (.int k' n') => k == k' && n == n'
  | .bool b, .pv (.bool b') => b == b'
  | .string s, .pv (.string s') => s.data.toList == s'.data.toList
  | .slice none 0 0, .sl true _ _ [] => true
  | _, _ => false
def constTs : List Value → List T → Bool
  | [], [] => true
  | v :: vs, c :: cs => constT v c && constTs vs cs
  | _, _ => false
theorem constT_ok {v : Value} {c : T} (h : constT v c = true) : ∃ t : G, er t = c ∧ hdr t = v ∧ (∀ b, cnt b t = 0) ∧ ∀ (S : Nat → Prop) (w : World), Rp S w t := by
  unfold constT at h
  split at h
  · simp only [Bool.and_eq_true, beq_iff_eq] at h
    obtain ⟨rfl, rfl⟩ := h
    exact ⟨.pv _, rfl, rfl, fun b => by simp [cnt], fun S w => .pv rfl⟩
  · simp only [beq_iff_eq] at h; subst h; exact ⟨.pv _, rfl, rfl, fun b => by simp [cnt], fun S w => .pv rfl⟩
  · rename_i s s'
    have : s = s' := by
      have h := eq_of_beq h
      cases s; cases s'; simp at h; simp [h]
    subst this
    exact ⟨.pv _, rfl, rfl, fun b => by simp [cnt], fun S w => .pv rfl⟩
  · rename_i z u
    exact ⟨.sl true z (.slice none 0 0) [], by cases u; simp [er, erLL], rfl, fun b => by simp [cnt, hb, cntLL], fun S w => .nil⟩
  · cases h
theorem constTs_ok : ∀ {vs : List Value} {cs : List T}, constTs vs cs = true → ∃ ts : List G, ts.map er = cs ∧ ts.map hdr = vs ∧ ∀ t ∈ ts, (∀ b, cnt b t = 0) ∧ ∀ (S : Nat → Prop) (w : World), Rp S w t
  | [], [], _ => ⟨[], rfl, rfl, fun t h => by cases h⟩
  | v :: vs, c :: cs, h => by
    simp only [constTs, Bool.and_eq_true] at h
    obtain ⟨t, h1, h2, h3, h4⟩ := constT_ok h.1
    obtain ⟨ts, h5, h6, h7⟩ := constTs_ok h.2
    exact ⟨t :: ts, by simp [h1, h5], by simp [h2, h6], fun t' ht => by
      rcases List.mem_cons.1 ht with rfl | ht
      · exact ⟨h3, h4⟩
      · exact h7 t' ht⟩
  | [], _ :: _, h => by simp [constTs] at h
  | _ :: _, [], h => by simp [constTs] at h
theorem made_list (z : Array Value) (hz : 0 < z.size) (k : Nat) : (madeCells z (k * z.size)).toList = (List.replicate k z.toList).flatten := by
  apply List.ext_getElem?
  intro i
  have hlen : ∀ k, ((List.replicate k z.toList).flatten).length = k * z.size := fun k => by
    induction k with
    | zero => simp
    | succ k ih => rw [List.replicate_succ, List.flatten_cons, List.length_append, ih, Array.length_toList, Nat.add_mul]; omega
  by_cases hi : i < k * z.size
  · have h1 : (madeCells z (k * z.size)).toList[i]? = some z[i % z.size]! := by
      simp [madeCells, hi]
    rw [h1]
    clear h1
    induction k generalizing i with
    | zero => omega
    | succ k ih =>
      rw [List.replicate_succ, List.flatten_cons]
      have hmod : i % z.size < z.size := Nat.mod_lt _ hz
      by_cases h0 : i < z.size
      · rw [List.getElem?_append_left (by simpa using h0), Nat.mod_eq_of_lt h0]
        simp [h0]
      · rw [List.getElem?_append_right (by simp; omega), Array.length_toList]
        have := ih (i - z.size) (by rw [Nat.add_mul] at hi; omega)
        rw [← this]
        congr 2
        rw [Nat.mod_eq_sub_mod (by omega)]
  · rw [List.getElem?_eq_none (by rw [Array.length_toList, size_madeCells]; omega), List.getElem?_eq_none (by rw [hlen]; omega)]
theorem do_mks {t e : TypeId} {ti : TypeInfo} {zv : Value} {z bytes d : Nat} {zc : List T} {x : Operand} {x' : Opd} (h : Sim X n g st [] a w) (ho : o.op = .makeSlice t x x) (ht : P.underlying t = some (.slice e)) (hi : P.info? e = some ti) (hz : ti.zero = some zv) (hsz : ti.size = z) (hby : ti.bytes = bytes) (hzs : zv.cells.size = z) (hz0 : 0 < z)
    (hzc : constTs zv.cells.toList zc = true) (hx : opdOk x x' = true) (hdst : o.dst = some d) (hdn : d < n) (hp : runP Te ((COp.mks z bytes zc x').prg o.dst d) st (fun _ st' => K st')) : o.wp P a w (Goal X n K) Q := by
  subst hsz
  subst hby
  replace hp := ev_ok h hx hp
  obtain ⟨v, hv, hp⟩ := hp
  replace hp := nat_ok hv hp
  obtain ⟨kd, i, m, e1, h0, rfl, hp⟩ := hp
  simp only [runP, Bool.and_eq_true, decide_eq_true_eq] at hp
  obtain ⟨⟨hb, hm⟩, hp⟩ := hp
  obtain ⟨ts, t1, t2, t3⟩ := constTs_ok hzc
  have hi0 : i = (i.toNat : Int) := by omega
  have hb' : (ti.bytes : Int) * i ≤ 281474976710656 := by
    rw [hi0]
    have : ((i.toNat * ti.bytes : Nat) : Int) ≤ 281474976710656 := by omega
    rw [Int.natCast_mul] at this
    rwa [Int.mul_comm]
  have hr := run_make (P := P) w t e ti zv ht hi hz kd kd i i h0 (Int.le_refl _) hb' (by omega)
  have hsum : ∀ k, hds (List.replicate k ts) = (List.replicate k zv.cells.toList).flatten := fun k => by
    induction k with
    | zero => rfl
    | succ k ih => rw [List.replicate_succ, hds_cons, ih, List.replicate_succ, List.flatten_cons, t2]
  have hrl : (List.replicate i.toNat ts).length = i.toNat := by simp
  have htl : ts.length = ti.size := by rw [← hzs, ← Array.length_toList, ← t2, List.length_map]
  refine newArr_ok (g := g) (rs := List.replicate i.toNat ts) (cap := i.toNat) (z := ti.size) (w1 := w.alloc (.cells (madeCells zv.cells (i.toNat * ti.size)) e)) (fz := (0, 0)) ?_ (alloc_step w _ _) (heap_alloc_new w _) (fun o _ => by omega) (by rw [hrl]; exact Nat.le_refl _) (by simp only [maxLen]; omega)
    (size_madeCells _ _) (fun r hr => by rw [List.mem_replicate] at hr; rw [hr.2, htl]) ?_ ?_ hdst hdn ?_ hp
  · have := h.moreL (us := (List.replicate i.toNat ts).flatten) (fun t ht => by
      obtain ⟨r, hr, ht'⟩ := List.mem_flatten.1 ht
      rw [List.mem_replicate] at hr
      rw [hr.2] at ht'
      exact ⟨(t3 t ht').2 _ _, (t3 t ht').1⟩)
    simpa using this
  · rw [hrl, hsum, ← hzs, made_list _ (by omega)]
    apply List.take_of_length_le
    have : ∀ k, ((List.replicate k zv.cells.toList).flatten).length = k * zv.cells.size := fun k => by
      induction k with
      | zero => simp
      | succ k ih => rw [List.replicate_succ, List.flatten_cons, List.length_append, ih, Array.length_toList, Nat.add_mul]; omega
    rw [this]
    exact Nat.le_refl _
  · rw [hrl]
    simp only [execOp, ho, e1, Sem.run_bind, hr, Result.andThen_ok]
    rfl
  · rw [List.map_replicate, t1]
theorem do_s2b {src dst e d : Nat} {x : Operand} {x' : Opd} {ti : TypeInfo} (h : Sim X n g st [] a w) (ho : o.op = .convert src dst x) (hs : P.underlying src = some .string) (ht : P.underlying dst = some (.slice e)) (he : P.underlying e = some (.int .u8)) (_hi : P.info? e = some ti)
    (hx : opdOk x x' = true) (hdst : o.dst = some d) (hdn : d < n) (hp : runP Te ((COp.conv .s2b x').prg o.dst d) st (fun _ st' => K st')) : o.wp P a w (Goal X n K) Q := by
  replace hp := ev_ok h hx hp
  obtain ⟨v, hv, hp⟩ := hp
  simp only at hp
  split at hp
  · rename_i s
    have e1 := one_pv hv
    simp only [runP, decide_eq_true_eq] at hp
    obtain ⟨hl, hp⟩ := hp
    obtain ⟨news, n1, n2, n3, n4, n5⟩ := bytes_news s
    have hge := grownCap_ge w s.size 0 e
    have hmx := grownCap_le_maxLen w s.size 0 e (by simp only [maxLen]; omega)
    generalize hcap : grownCap w s.size 0 e = cap at hge hmx
    have hcs : ((s.data.map fun b : UInt8 => Value.int IntKind.u8 (b.toNat : Int)) ++ Array.replicate (cap - s.size) (Value.int IntKind.u8 0)).size = cap * 1 := by
      have : s.data.size = s.size := rfl
      simp
      omega
    refine newArr_ok (g := g) (rs := news) (cap := cap) (z := 1) (cur := (s.data.map fun b : UInt8 => Value.int IntKind.u8 (b.toNat : Int)) ++ Array.replicate (cap - s.size) (Value.int IntKind.u8 0)) (e := e) (fz := (cap, cap + 1))
      (w1 := (w.drew.alloc (.cells ((s.data.map fun b : UInt8 => Value.int IntKind.u8 (b.toNat : Int)) ++ Array.replicate (cap - s.size) (Value.int IntKind.u8 0)) e)).freeze ⟨w.heap.size, cap, none⟩ 1) ?_ ?_ ?_ (fun o ho => by rw [hcs] at ho; simp; omega) (by rw [n2]; exact hge) hmx hcs n3 ?_ ?_ hdst hdn n1 hp
    · have := h.moreL (us := news.flatten) (fun t ht => by
        obtain ⟨r, hr, ht⟩ := List.mem_flatten.1 ht
        exact ⟨(n4 r hr t ht).1 _ _, (n4 r hr t ht).2⟩)
      simpa using this
    · refine ⟨rfl, rfl, rfl, ?_, fun b hb _ => ?_⟩
      · simp [World.freeze]
      · show (Array.modify _ _ _)[b]? = _
        rw [Array.getElem?_modify, if_neg (by show ¬ w.heap.size = b; omega)]
        exact RowKit.Below.heap_alloc w.drew _ b hb
    · have := heap_alloc_new w.drew (.cells ((s.data.map fun b : UInt8 => Value.int IntKind.u8 (b.toNat : Int)) ++ Array.replicate (cap - s.size) (Value.int IntKind.u8 0)) e)
      simp only [World.size_drew] at this
      show (Array.modify _ _ _)[w.heap.size]? = _
      rw [Array.getElem?_modify, if_pos rfl, this]
      rfl
    · rw [n2, n5]
      simp only [Array.toList_append, Array.toList_map, Nat.mul_one]
      apply List.take_left'
      rw [List.length_map, Array.length_toList]
      rfl
    · rw [n2]
      subst hcap
      have hsh : (w.drew.alloc (.cells ((s.data.map fun b : UInt8 => Value.int IntKind.u8 (b.toNat : Int)) ++ Array.replicate (grownCap w s.size 0 e - s.size) (Value.int IntKind.u8 0)) e)).shape? w.heap.size = some (e, grownCap w s.size 0 e) := by
        have := heap_alloc_new w.drew (.cells ((s.data.map fun b : UInt8 => Value.int IntKind.u8 (b.toNat : Int)) ++ Array.replicate (grownCap w s.size 0 e - s.size) (Value.int IntKind.u8 0)) e)
        simp only [World.size_drew] at this
        simp only [World.shape?, this]
        rw [hcs, Nat.mul_one]
      simp only [grownCap] at hsh ⊢
      simp [execOp, ho, e1, convert, run_underlying hs, run_underlying ht, run_underlying he, Conv.stringToBytes, Question.forced, newRow, markStringish, hsh]
  · exact hp.elim
theorem bytes_nums {S : Nat → Prop} : ∀ (rows : List (List T)), areBytes rows = true → ∃ ns : List Int, rows = ns.map (fun m => [Tr.pv (.int .u8 m)]) ∧ bytesOf rows = ns.map fun m => UInt8.ofNat m.toNat
  | [], _ => ⟨[], rfl, rfl⟩
  | r :: rs, h => by
    simp only [areBytes, Bool.and_eq_true] at h
    obtain ⟨ns, e1, e2⟩ := bytes_nums (S := S) rs h.2
    have h1 := h.1
    split at h1
    · rename_i t
      cases t with
      | pv v =>
        unfold isByte at h1
        split at h1
        · rename_i m hm
          have hm' : v = .int .u8 m := by cases hm; rfl
          subst hm'
          exact ⟨m :: ns, by simp [e1], by simp only [bytesOf, List.map_cons, List.headD_cons, byteOf] at e2 ⊢; rw [e2]⟩
        · cases h1
      | sl => simp [isByte] at h1
      | no => simp [isByte] at h1
    · cases h1
theorem do_b2s {src dst e : Nat} {x : Operand} {x' : Opd} (h : Sim X n g st [] a w) (ho : o.op = .convert src dst x) (hs : P.underlying src = some (.slice e)) (he : P.underlying e = some (.int .u8)) (ht : P.underlying dst = some .string)
    (hx : opdOk x x' = true) (hd : ∀ k, o.dst = some k → k < n) (id : Nat) (hp : runP Te ((COp.conv .b2s x').prg o.dst id) st (fun _ st' => K st')) : o.wp P a w (Goal X n K) Q := by
  replace hp := ev_ok h hx hp
  obtain ⟨v, hv, hp⟩ := hp
  simp only at hp
  split at hp
  · rename_i c
    simp only [SlotOK] at hv
    replace hp := lend_ok h hv hp
    obtain ⟨t, hR, hp⟩ := hp
    split at hp
    · rename_i o' z u0 rows
      simp only [runP, Bool.and_eq_true, beq_iff_eq] at hp
      obtain ⟨⟨rfl, hab⟩, hp⟩ := hp
      generalize (if isRf c then LendS X g else X.S) = S at hR
      refine step_value (v := .string ⟨(bytesOf rows).toArray⟩) (w' := w) ?_ (fin_ok h hd (slot_pv _ _ _ rfl) hp)
      generalize hvx : a.eval x = vx at hR
      cases hR with
      | @sl _ cap A _ u h1 h2 h3 h4 h5 =>
        obtain ⟨ns, e1, e2⟩ := bytes_nums (S := S) rows hab
        have hlen : rows.length = ns.length := by rw [e1]; simp
        have hu : ∀ k m, ns[k]? = some m → ∃ ad, A = some ad ∧ w.cell? (ad.add k) = some (.int .u8 m) := fun k m hk => by
          have hr : rows[k]? = some [Tr.pv (.int .u8 m)] := by rw [e1, List.getElem?_map, hk]; rfl
          obtain ⟨ad, h6, _, h7⟩ := h4 k _ 0 _ hr rfl
          have h8 := h5 k _ 0 _ hr rfl
          cases hh : u k 0 <;> rw [hh] at h8 h7 <;> cases h8
          exact ⟨ad, h6, by simpa using h7⟩
        rw [e2]
        cases A with
        | none =>
          have : ns = [] := by
            cases ns with
            | nil => rfl
            | cons m ns => obtain ⟨ad, e, _⟩ := hu 0 m rfl; cases e
          subst this
          simp only [execOp, ho, hvx, Sem.run_bind, run_convert_bytes_string w src dst e none rows.length cap hs he ht, Conv.bytesToString]
          rfl
        | some ad =>
          have hl : (loadCells ad rows.length).run P w = .ok (ns.map (Value.int .u8)).toArray w := by
            have := run_loadCells_list (P := P) (w := w) ad (ns.map (Value.int .u8)) (fun j v hj => by
              rw [List.getElem?_map] at hj
              cases hk : ns[j]? with
              | none => simp [hk] at hj
              | some m =>
                simp [hk] at hj
                subst hj
                obtain ⟨ad', e, hc⟩ := hu j m hk
                simp at e
                subst e
                exact hc)
            rw [hlen]
            simpa using this
          simp only [execOp, ho, hvx, Sem.run_bind, run_convert_bytes_string w src dst e (some ad) rows.length cap hs he ht, run_bytesToString w ad rows.length cap ns hl, Result.andThen_ok, foldl_push_bytes]
          simp [ByteArray.empty, ByteArray.emptyWithCapacity]
          rfl
    · exact hp.elim
  · exact hp.elim
end
end Go.X
