/- What makes slices, and what is appended. -/
import Derived.Test.YtihpdefnajimgaaXOps4
namespace Go.X
section
variable {P : Program} {X : Ctx} {n : Nat} {g : Gh} {st : St} {hand : List G} {a : Act} {w : World} {α : Type} {Te : Nat → List AV → Res → Prop} {o : Oper} {K : St → Prop} {Q : Exit → Act → World → Prop}
theorem Sim.newRoot {us : List G} (h : Sim X n g st (us ++ hand) a w) {d : Nat} (hr : get st.r d = none) : Sim X n (g.setR d us) { st with r := rep st.r d (us.map er) } hand a w :=
  h.reroot d us (keeps_new (h.noroot d hr)) (fun t ht => h.held t (List.mem_append_left _ ht)) (fun t ht => h.held t (List.mem_append_right _ ht)) (fun b => by rw [h.noroot d hr, cntL_append]; simp [rcnt]) (fun old ho => by rw [h.noroot d hr] at ho; cases ho)
theorem newSl_ok {d z : Nat} {v : Value} {rs : List (List G)} {rows : List (List T)} (h : Sim X n g st [.sl true z v rs] a w) (hd : d < n) (he : rs.map (·.map er) = rows) (hp : runP Te (newSl d z rows) st (fun _ st' => K st')) : Goal X n K (a.put (some d) v) w := by
  simp only [newSl, runP] at hp
  cases hr : get st.r d with
  | some _ => simp [hr] at hp
  | none =>
    simp only [hr] at hp
    have h1 := Sim.newRoot (us := [.sl true z v rs]) (hand := []) h hr
    have e : ([.sl true z v rs] : List G).map er = [.sl true z () rows] := by simp [er, erLL_eq, he]
    rw [e] at h1
    refine ⟨_, _, hp, h1.slot hd ?_⟩
    simp only [SlotOK]
    have := celOf_ok (g := g.setR d [.sl true z v rs]) (r := d) (c := 0) (p := []) (h.held _ (List.mem_cons_self ..)) (by rw [setR_same]; simp) (fun m hm _ => by simp [nodeAt, setR_same, atP] at hm; exact hm.symm)
    rw [show er (.sl true z v rs) = .sl true z () rows by simp [er, erLL_eq, he]] at this
    exact this
theorem cntL_flatten (b : Nat) : ∀ rs : List (List G), cntL b rs.flatten = cntLL b rs
  | [] => rfl
  | r :: rs => by simp only [List.flatten_cons, cntL_append, cntLL, cntL_flatten b rs]
theorem hds_inv {z : Nat} : ∀ {rows : List (List G)} {k : Nat} {v : Value}, (∀ r ∈ rows, r.length = z) → (hds rows)[k]? = some v → ∃ i j r t, rows[i]? = some r ∧ r[j]? = some t ∧ k = i * z + j ∧ v = hdr t
  | [], k, v, _, h => by simp [hds] at h
  | r :: rs, k, v, hz, h => by
    have hr := hz r (List.mem_cons_self ..)
    rw [hds_cons] at h
    by_cases hk : k < z
    · rw [List.getElem?_append_left (by simp; omega), List.getElem?_map] at h
      cases ht : r[k]? with
      | none => simp [ht] at h
      | some t => simp [ht] at h; exact ⟨0, k, r, t, rfl, ht, by omega, h.symm⟩
    · rw [List.getElem?_append_right (by simp; omega)] at h
      obtain ⟨i, j, r', t, h1, h2, h3, h4⟩ := hds_inv (k := k - z) (fun r hr => hz r (List.mem_cons_of_mem _ hr)) (by simpa [hr] using h)
      exact ⟨i + 1, j, r', t, by simpa using h1, h2, by rw [Nat.add_mul]; omega, h4⟩
theorem run_app_grow {t t2 ty e : TypeId} {ti : TypeInfo} {zv : Value} (ht : P.underlying t = some (.slice e)) (hi : P.info? e = some ti) (hz : ti.zero = some zv) {d2 : TypeDesc} (ht2 : P.underlying t2 = some d2) (hd2 : d2 = .string ∨ ∃ e2, d2 = .slice e2)
    {q : Option Addr} {len cap m : Nat} {x : Value} {olds news : Array Value} (hc : cap < len + m) (hl : len + m ≤ 4294967296) (hby2 : (len + m) * ti.bytes ≤ 140737488355328)
    (ho : (Builtin.firstCells ti.size len (.slice q len cap)).run P w.drew = .ok olds w.drew) (hx1 : ∀ w, (Builtin.lenOf x).run P w = .ok m w) (hx2 : (Builtin.firstCells ti.size m x).run P w.drew = .ok news w.drew) :
    (Builtin.append_ #[t, t2] ty #[.slice q len cap, x]).run P w = .ok (.slice (some ⟨w.heap.size, 0, none⟩) (len + m) (grownCap w (len + m) cap e)) (w.drew.alloc (.cells (olds ++ news ++ Builtin.zeroCells zv.cells (grownCap w (len + m) cap e - (len + m))) e)) := by
  have hfit := growslice_fits (old := cap) (bytes := ti.bytes) hc hby2
  have hn1 : ¬ (len + m ≤ cap) := by omega
  have h63' : ¬ (9223372036854775807 < ((len : Int) + (m : Int))) := by omega
  have h48' : ¬ (281474976710656 < Builtin.nextslicecap (len + m) cap * ti.bytes) := by omega
  rcases hd2 with rfl | ⟨e2, rfl⟩
  · simp [Builtin.append_, run_underlying ht, run_underlying ht2, sizeOf, typeInfo, zeroValue, hi, hz, hx1, hn1, h63', h48', Question.forced, ho, hx2, newRow, grownCap]
  · simp [Builtin.append_, run_underlying ht, run_underlying ht2, sizeOf, typeInfo, zeroValue, hi, hz, hx1, hn1, h63', h48', Question.forced, ho, hx2, newRow, grownCap]
theorem run_app_room {t t2 ty e : TypeId} {ti : TypeInfo} (ht : P.underlying t = some (.slice e)) (hi : P.info? e = some ti) {d2 : TypeDesc} (ht2 : P.underlying t2 = some d2) (hd2 : d2 = .string ∨ ∃ e2, d2 = .slice e2)
    {q len cap m : Nat} {x : Value} {news : List Value} {w' : World} (hc : len + m ≤ cap) (hx1 : ∀ w, (Builtin.lenOf x).run P w = .ok m w) (hx2 : (Builtin.firstCells ti.size m x).run P w = .ok news.toArray w) (hst : (storeCells ⟨q, len * ti.size, none⟩ news 0).run P w = .ok () w') :
    (Builtin.append_ #[t, t2] ty #[.slice (some ⟨q, 0, none⟩) len cap, x]).run P w = .ok (.slice (some ⟨q, 0, none⟩) (len + m) cap) w' := by
  have e : (⟨q, 0, none⟩ : Addr).add (len * ti.size) = ⟨q, len * ti.size, none⟩ := by rw [add_none, Nat.zero_add]
  rcases hd2 with rfl | ⟨e2, rfl⟩
  · simp [Builtin.append_, run_underlying ht, run_underlying ht2, sizeOf, typeInfo, hi, hx1, hx2, hc, e, hst]
  · simp [Builtin.append_, run_underlying ht, run_underlying ht2, sizeOf, typeInfo, hi, hx1, hx2, hc, e, hst]
theorem run_app_none {t t2 ty e : TypeId} {ti : TypeInfo} (ht : P.underlying t = some (.slice e)) (hi : P.info? e = some ti) {d2 : TypeDesc} (ht2 : P.underlying t2 = some d2) (hd2 : d2 = .string ∨ ∃ e2, d2 = .slice e2)
    {x : Value} (hx1 : ∀ w, (Builtin.lenOf x).run P w = .ok 0 w) (hx2 : (Builtin.firstCells ti.size 0 x).run P w = .ok #[] w) : (Builtin.append_ #[t, t2] ty #[.slice none 0 0, x]).run P w = .ok (.slice none 0 0) w := by
  rcases hd2 with rfl | ⟨e2, rfl⟩
  · simp [Builtin.append_, run_underlying ht, run_underlying ht2, sizeOf, typeInfo, hi, hx1, hx2]
  · simp [Builtin.append_, run_underlying ht, run_underlying ht2, sizeOf, typeInfo, hi, hx1, hx2]
/-- Something is appended: to the same array, or to a new one. -/
theorem rp_append {S : Nat → Prop} {t t2 ty e : TypeId} {ti : TypeInfo} {zv : Value} {z bytes : Nat} (ht : P.underlying t = some (.slice e)) (hi : P.info? e = some ti) (hz : ti.zero = some zv) (hsz : ti.size = z) (hby : ti.bytes = bytes) (hzs : zv.cells.size = z) (_hz0 : 0 < z)
    {d2 : TypeDesc} (ht2 : P.underlying t2 = some d2) (hd2 : d2 = .string ∨ ∃ e2, d2 = .slice e2) (hSlt : ∀ b, S b → b < w.heap.size) {v x : Value} {rows news : List (List G)} (hu : Rp S w (.sl true z v rows)) (hn : ∀ r ∈ news, r.length = z) (hR : ∀ r ∈ news, ∀ t ∈ r, Rp S w t)
    (hS : ∀ q, 0 < hb q v → ¬ S q) (hd : ∀ q, 0 < hb q v → cntLL q rows = 0 ∧ cntLL q news = 0) (hx1 : ∀ w, (Builtin.lenOf x).run P w = .ok news.length w) (hx2 : ∀ w' : World, w'.heap = w.heap → (Builtin.firstCells z news.length x).run P w' = .ok (hds news).toArray w')
    (hl : rows.length + news.length ≤ 4294967296) (hby2 : (rows.length + news.length) * bytes ≤ 140737488355328) :
    ∃ v' w', (Builtin.append_ #[t, t2] ty #[v, x]).run P w = .ok v' w' ∧ Rp S w' (.sl true z v' (rows ++ news)) ∧ Step (fun b => 0 < hb b v) w w' ∧ ∀ b, hb b v' ≤ hb b v ∨ (w.heap.size ≤ b ∧ hb b v' ≤ 1) := by
  subst hsz
  subst hby
  have hnl := hds_length hn
  have grow : ∀ (q : Option Addr) (cap : Nat) (olds : List Value), v = .slice q rows.length cap → cap < rows.length + news.length → (∀ w' : World, w'.heap = w.heap → (Builtin.firstCells ti.size rows.length v).run P w' = .ok olds.toArray w') → olds = hds rows → (∀ r ∈ rows, r.length = ti.size) → (∀ r ∈ rows, ∀ t ∈ r, Rp S w t) →
      ∃ v' w', (Builtin.append_ #[t, t2] ty #[v, x]).run P w = .ok v' w' ∧ Rp S w' (.sl true ti.size v' (rows ++ news)) ∧ Step (fun b => 0 < hb b v) w w' ∧ ∀ b, hb b v' ≤ hb b v ∨ (w.heap.size ≤ b ∧ hb b v' ≤ 1) := by
    intro q cap olds hv hc ho hol hrl hRr
    have hge := grownCap_ge w (rows.length + news.length) cap e
    have hmx := grownCap_le_maxLen w (rows.length + news.length) cap e (by simp only [maxLen]; omega)
    refine ⟨.slice (some ⟨w.heap.size, 0, none⟩) (rows.length + news.length) (grownCap w (rows.length + news.length) cap e),
      w.drew.alloc (.cells (olds.toArray ++ (hds news).toArray ++ Builtin.zeroCells zv.cells (grownCap w (rows.length + news.length) cap e - (rows.length + news.length))) e), ?_, ?_, ?_, ?_⟩
    · have ho' := ho w.drew rfl
      rw [hv] at ho'
      rw [hv]
      exact run_app_grow ht hi hz ht2 hd2 hc hl hby2 ho' hx1 (hx2 w.drew rfl)
    · have hlen : rows.length + news.length = (rows ++ news).length := by simp
      rw [hlen]
      refine .own (fz := (0, 0)) (heap_alloc_new w.drew _) (fun o _ => by omega) (by rw [← hlen]; exact hge) (by rw [← hlen]; exact hmx) ?_ ?_ ?_ ?_
      · simp only [Array.size_append, List.size_toArray, size_zeroCells, hzs, hol, hds_length hrl, hnl, ← Nat.add_mul, ← hlen]
        congr 1
        omega
      · intro r hr
        rcases List.mem_append.1 hr with h | h
        · exact hrl r h
        · exact hn r h
      · simp only [Array.toList_append, hol]
        rw [hds_append, ← hlen, Nat.add_mul, ← hds_length hrl, ← hnl, ← List.length_append]
        exact List.take_left
      · intro r hr t' ht'
        have hR' : Rp S w t' := by
          rcases List.mem_append.1 hr with h | h
          · exact hRr r h t' ht'
          · exact hR r h t' ht'
        exact hR'.move (fun _ h => h) (fun b hb => RowKit.Below.heap_alloc w.drew _ b (hSlt b hb)) (fun b hb => RowKit.Below.heap_alloc w.drew _ b (hR'.lt b hb))
    · exact ⟨rfl, rfl, rfl, by simp, fun b hb _ => RowKit.Below.heap_alloc w.drew _ b hb⟩
    · intro b
      by_cases e : w.heap.size = b
      · exact .inr ⟨by omega, by simp [hb, e]⟩
      · exact .inl (by simp [hb, e])
  cases hu with
  | @nil =>
    by_cases hn0 : news = []
    · subst hn0
      refine ⟨.slice none 0 0, w, ?_, ?_, ⟨rfl, rfl, rfl, Nat.le_refl _, fun _ _ _ => rfl⟩, fun b => .inl (Nat.le_refl _)⟩
      · exact run_app_none ht hi ht2 hd2 hx1 (hx2 w rfl)
      · exact .nil
    · have h0 : 0 < news.length := List.length_pos_iff.2 hn0
      exact grow none 0 [] rfl (by simpa using h0) (fun w' _ => by simp [Builtin.firstCells]) rfl (fun r hr => by cases hr) (fun r hr => by cases hr)
  | @own _ q cap e' cur fz _ hg hfz hlc hmx hs0 hrl hd0 hcel =>
    have hbq : ∀ b, hb b (.slice (some ⟨q, 0, none⟩) rows.length cap) = if q = b then 1 else 0 := fun b => rfl
    by_cases hroom : rows.length + news.length ≤ cap
    · have hbound : (rows.length + news.length) * ti.size ≤ cur.size := by rw [hs0]; exact Nat.mul_le_mul_right _ hroom
      rw [Nat.add_mul] at hbound
      have hrun := run_storeCells_fz P q (rows.length * ti.size) e' fz (hds news) 0 cur w hg (by omega) (fun k hk => hfz _ (by omega)) (fun u hu => by
        obtain ⟨r, hr, t, ht, rfl⟩ := mem_hds hu
        exact (hR r hr t ht).one)
      simp only [Nat.add_zero] at hrun
      have hst := setRow_step w q (cur.toList.take (rows.length * ti.size) ++ hds news ++ cur.toList.drop (rows.length * ti.size + (hds news).length)).toArray (D := fun b => 0 < hb b (.slice (some ⟨q, 0, none⟩) rows.length cap)) (by simp [hb])
      have hgn := setRow_heap w q cur (cur.toList.take (rows.length * ti.size) ++ hds news ++ cur.toList.drop (rows.length * ti.size + (hds news).length)).toArray e' fz hg
      refine ⟨.slice (some ⟨q, 0, none⟩) (rows.length + news.length) cap, _, ?_, ?_, hst, fun b => .inl (Nat.le_refl _)⟩
      · exact run_app_room ht hi ht2 hd2 hroom hx1 (hx2 w rfl) hrun
      · have hlen : rows.length + news.length = (rows ++ news).length := by simp
        have hsl := seg_len cur.toList (rows.length * ti.size) (hds news) (by simp; omega)
        have hz1 := hd q (by simp [hb])
        rw [hlen]
        refine Rp.remade (w := w) hgn (fun o ho => hfz o (by rw [List.size_toArray, hsl] at ho; simpa using ho)) (by rw [← hlen]; exact hroom) hmx (by rw [List.size_toArray, hsl]; simpa using hs0) ?_ ?_ ?_ (fun b hb' => ?_) (fun b hb' => ?_)
        · intro r hr
          rcases List.mem_append.1 hr with h | h
          · exact hrl r h
          · exact hn r h
        · rw [hds_append, ← hlen, Nat.add_mul, hd0, ← hds_length hrl, ← hnl, ← List.length_append]
          exact List.take_left
        · intro r hr t' ht'
          rcases List.mem_append.1 hr with h | h
          · exact hcel r h t' ht'
          · exact hR r h t' ht'
        · have hne : b ≠ q := fun e => hS q (by simp [hb]) (e ▸ hb')
          exact setRow_other w q b _ hne
        · have hne : b ≠ q := fun e => by subst e; rw [cntLL_append] at hb'; omega
          exact setRow_other w q b _ hne
    · refine grow (some ⟨q, 0, none⟩) cap (hds rows) rfl (by omega) (fun w' hw' => ?_) rfl hrl hcel
      refine run_firstCells_some (P := P) w' ti.size rows.length ⟨q, 0, none⟩ rows.length cap (hds rows) (hds_length hrl) (fun j u hj => ?_)
      rw [← hd0] at hj
      have := take_get hj
      rw [add_none, Nat.zero_add]
      simp only [World.cell?, hw', hg]
      simpa using this
def gro : T → Value → G
  | .pv v, _ => .pv v
  | .sl o z _ rows, u => .sl o z u (upLL rows)
  | .no _, u => .no u
theorem gro_er (t : T) (u : Value) : er (gro t u) = t := by cases t <;> simp [gro, er, erLL_upLL]
theorem gro_ok {S : Nat → Prop} {t : T} {u : Value} (h : Rd S w t u) : hdr (gro t u) = u ∧ Rp S w (gro t u) ∧ ∀ b, cnt b (gro t u) = 0 := by
  cases h with
  | pv h => exact ⟨rfl, .pv h, fun b => by simp [gro, cnt]⟩
  | @sl z cap a rows u h1 h2 h3 h4 h5 =>
    refine ⟨rfl, .ro ?_, fun b => by simp [gro, cnt]⟩
    have := gro_er (.sl false z () rows) (.slice a rows.length cap)
    simp only [gro] at this
    rw [this]
    exact .sl u h1 h2 h3 h4 h5
theorem gros_ok {S : Nat → Prop} {z cap : Nat} {A : Option Addr} {rows : List (List T)} (h : Rd S w (.sl false z () rows) (.slice A rows.length cap)) :
    ∃ news : List (List G), news.map (·.map er) = rows ∧ (∀ r ∈ news, r.length = z) ∧ (∀ r ∈ news, ∀ t ∈ r, Rp S w t ∧ ∀ b, cnt b t = 0) ∧ ∀ (k : Nat) (v : Value), (hds news)[k]? = some v → ∃ ad, A = some ad ∧ S ad.block ∧ w.cell? (ad.add k) = some v := by
  cases h with
  | sl u h1 h2 h3 h4 h5 =>
    refine ⟨rows.mapIdx fun i r => r.mapIdx fun j t => gro t (u i j), ?_, ?_, ?_, ?_⟩
    · apply List.ext_getElem?
      intro i
      rw [List.getElem?_map, List.getElem?_mapIdx]
      cases hr : rows[i]? with
      | none => rfl
      | some r =>
        simp only [Option.map_some, Option.some.injEq]
        apply List.ext_getElem?
        intro j
        rw [List.getElem?_map, List.getElem?_mapIdx]
        cases r[j]? with
        | none => rfl
        | some t => simp [gro_er]
    · intro r hr
      obtain ⟨i, hi, rfl⟩ := List.mem_iff_getElem.1 hr
      rw [List.getElem_mapIdx]
      simpa using h3 _ (List.getElem_mem _)
    · intro r hr t ht
      obtain ⟨i, hi, rfl⟩ := List.mem_iff_getElem.1 hr
      rw [List.getElem_mapIdx] at ht
      obtain ⟨j, hj, rfl⟩ := List.mem_iff_getElem.1 ht
      rw [List.getElem_mapIdx]
      have := gro_ok (h5 i _ j _ (List.getElem?_eq_getElem (by simpa using hi)) (List.getElem?_eq_getElem (by simpa using hj)))
      exact ⟨this.2.1, this.2.2⟩
    · intro k v hv
      obtain ⟨i, j, r, t, hi, hj, rfl, rfl⟩ := hds_inv (z := z) (fun r hr => by
        obtain ⟨i, hi, rfl⟩ := List.mem_iff_getElem.1 hr
        rw [List.getElem_mapIdx]
        simpa using h3 _ (List.getElem_mem _)) hv
      rw [List.getElem?_mapIdx] at hi
      cases hr : rows[i]? with
      | none => simp [hr] at hi
      | some r0 =>
        simp [hr] at hi
        subst hi
        rw [List.getElem?_mapIdx] at hj
        cases ht : r0[j]? with
        | none => simp [ht] at hj
        | some t0 =>
          simp [ht] at hj
          subst hj
          rw [(gro_ok (h5 i r0 j t0 hr ht)).1]
          exact h4 i r0 j t0 hr ht
theorem fc_ok {z m cap : Nat} {A : Option Addr} {news : List (List G)} (hm : news.length = m) (hz : ∀ r ∈ news, r.length = z) (h : ∀ (k : Nat) (v : Value), (hds news)[k]? = some v → ∃ ad, A = some ad ∧ w.cell? (ad.add k) = some v) :
    ∀ w' : World, w'.heap = w.heap → (Builtin.firstCells z news.length (.slice A m cap)).run P w' = .ok (hds news).toArray w' := by
  intro w' hw'
  cases A with
  | none =>
    have : hds news = [] := by
      cases hh : hds news with
      | nil => rfl
      | cons v vs => obtain ⟨ad, e, _⟩ := h 0 v (by rw [hh]; rfl); cases e
    rw [this]
    simp [Builtin.firstCells]
  | some ad =>
    refine run_firstCells_some (P := P) w' z news.length ad m cap (hds news) (hds_length hz) (fun k v hv => ?_)
    obtain ⟨ad', e, hc⟩ := h k v hv
    simp at e
    subst e
    simpa [World.cell?, hw'] using hc
theorem Sim.moreL : ∀ {us : List G}, Sim X n g st hand a w → (∀ t ∈ us, Rp X.S w t ∧ ∀ b, cnt b t = 0) → Sim X n g st (us ++ hand) a w
  | [], h, _ => h
  | u :: us, h, hu => (Sim.moreL h (fun t ht => hu t (List.mem_cons_of_mem _ ht))).more (hu u (List.mem_cons_self ..)).1 (hu u (List.mem_cons_self ..)).2
theorem goneC_hdr (t : G) : hdr (goneC t) = hdr t := by cases t with
  | sl o z h rows => cases o <;> rfl
  | _ => rfl
theorem goneC_er (t : G) : er (goneC t) = goneC (er t) := by cases t with
  | sl o z h rows => cases o <;> simp [goneC, er]
  | _ => rfl
theorem goneC_cnt (b : Nat) (t : G) : cnt b (goneC t) = 0 := by cases t with
  | sl o z h rows => cases o <;> simp [goneC, cnt]
  | _ => simp [goneC, cnt]
theorem goneC_rp {S : Nat → Prop} {t : G} (h : Rp S w t) : Rp S w (goneC t) := by
  have := h.one
  cases t with
  | sl o z hv rows => cases o with
    | true => exact .no this
    | false => exact h
  | _ => exact h
theorem goneRows_get {τ : Type} (rs : List (List (Tr τ))) (off len : Nat) (hl : off + len ≤ rs.length) (i : Nat) : (goneRows rs off len)[i]? = if off ≤ i ∧ i < off + len then (rs[i]?).map (·.map goneC) else rs[i]? := by
  have hlen : (((rs.drop off).take len).map fun r => r.map goneC).length = len := by simp; omega
  unfold goneRows
  split
  · rename_i h
    rw [List.append_assoc, List.getElem?_append_right (by simp; omega), List.getElem?_append_left (by rw [hlen]; simp; omega)]
    rw [List.getElem?_map, List.getElem?_take, if_pos (by simp; omega), List.getElem?_drop]
    congr 2
    simp
    omega
  · rename_i h
    by_cases h1 : i < off
    · rw [List.append_assoc, List.getElem?_append_left (by simp; omega), List.getElem?_take, if_pos h1]
    · rw [List.getElem?_append_right (by rw [List.length_append, hlen]; simp; omega), List.getElem?_drop]
      congr 1
      rw [List.length_append, hlen]
      simp
      omega
theorem goneRows_len {τ : Type} (rs : List (List (Tr τ))) (off len : Nat) (hl : off + len ≤ rs.length) : (goneRows rs off len).length = rs.length := by simp [goneRows]; omega
theorem hds_gone (rs : List (List G)) (off len : Nat) : hds (goneRows rs off len) = hds rs := by
  have e : hds (((rs.drop off).take len).map fun r => r.map goneC) = hds ((rs.drop off).take len) := by
    simp only [hds, List.flatMap_map, List.map_map]
    congr 1
    funext r
    apply List.map_congr_left
    intro t _
    exact goneC_hdr t
  unfold goneRows
  rw [hds_append, hds_append, e, ← hds_append, ← hds_append, List.append_assoc, ← List.drop_drop, List.take_append_drop, List.take_append_drop]
theorem cnt_gone (b : Nat) (rs : List (List G)) (off len : Nat) : cntLL b (goneRows rs off len) + cntLL b ((rs.drop off).take len) = cntLL b rs := by
  have z : cntLL b (((rs.drop off).take len).map fun r => r.map goneC) = 0 := by
    generalize (rs.drop off).take len = l
    induction l with
    | nil => rfl
    | cons r l ih =>
      simp only [List.map_cons, cntLL, ih]
      have : ∀ r : List G, cntL b (r.map goneC) = 0 := fun r => by
        induction r with
        | nil => rfl
        | cons t r ih => simp [cntL, ih, goneC_cnt]
      rw [this]
  have a1 := cntLL_take_drop b rs off
  have a2 := cntLL_take_drop b (rs.drop off) len
  rw [List.drop_drop] at a2
  unfold goneRows
  rw [cntLL_append, cntLL_append, z]
  omega
theorem goneRows_er (rs : List (List G)) (off len : Nat) : (goneRows rs off len).map (·.map er) = goneRows (rs.map (·.map er)) off len := by
  have e : ∀ l : List (List G), (l.map fun r => r.map goneC).map (·.map er) = (l.map (·.map er)).map fun r => r.map goneC := by
    intro l
    rw [List.map_map, List.map_map]
    apply List.map_congr_left
    intro r _
    simp only [Function.comp, List.map_map]
    apply List.map_congr_left
    intro t _
    exact goneC_er t
  simp only [goneRows, List.map_append, e, List.map_take, List.map_drop]
/-- Cells are handed on out of a node; their headers stay. -/
theorem keeps_rows {r c z off len : Nat} {p : List (Nat × Nat)} {gs : List G} {t : G} {hv : Value} {rs : List (List G)} (hg : g.gr r = some gs) (ht : gs[c]? = some t) (hm : atP t p = some (.sl true z hv rs)) (hl : off + len ≤ rs.length) :
    Keeps Never g (g.setR r (gs.set c (setP t p (.sl true z hv (goneRows rs off len))))) := by
  have h := keeps_setP (u := .sl true z hv (goneRows rs off len)) hg ht hm rfl rfl
  refine ⟨h.b, h.r, fun r' c' q m' _ hr' hn hh' => ?_⟩
  by_cases e : Below' r c p r' c' q
  · obtain ⟨rfl, rfl, s, rfl, hs⟩ := e
    have hc := (List.getElem?_eq_some_iff.1 ht).1
    have n1 : nodeAt (g.setR r' (gs.set c' (setP t p (.sl true z hv (goneRows rs off len))))) r' c' p = some (.sl true z hv (goneRows rs off len)) := by
      simp only [nodeAt, setR_same, Option.bind_some, List.getElem?_set_self hc]
      exact atP_setP_self p hm
    have n0 : nodeAt g r' c' p = some (.sl true z hv rs) := by simp [nodeAt, hg, ht, hm]
    rw [nodeAt_append n1] at hn
    rw [nodeAt_append n0]
    cases s with
    | nil => exact absurd rfl hs
    | cons x s =>
      obtain ⟨i, j⟩ := x
      simp only [atP, Tr.own, cond_true, cellAt, Tr.rows, goneRows_get rs off len hl] at hn ⊢
      split at hn
      · cases hr : rs[i]? with
        | none => simp [hr] at hn
        | some row =>
          simp only [hr, Option.map_some, Option.bind_some, List.getElem?_map] at hn ⊢
          cases hj : row[j]? with
          | none => simp [hj] at hn
          | some t0 =>
            simp only [hj, Option.map_some, Option.bind_some] at hn ⊢
            cases t0 with
            | pv v => exact ⟨m', hn, hh', rfl⟩
            | no v => exact ⟨m', hn, hh', rfl⟩
            | sl o z0 h0 rows0 =>
              cases o with
              | false => exact ⟨m', hn, hh', rfl⟩
              | true =>
                simp only [goneC] at hn
                cases s with
                | nil => simp [atP] at hn; subst hn; exact ⟨_, rfl, rfl, rfl⟩
                | cons y s => simp [atP, Tr.own] at hn
      · exact ⟨m', hn, hh', rfl⟩
  · exact h.h r' c' q m' e hr' hn hh'
theorem rf_cells {S : Nat → Prop} {z off len : Nat} {hv v : Value} {rs : List (List G)} (h : Rp S w (.sl true z hv rs)) (hf : RfOK hv z off len v) (hl : off + len ≤ rs.length) :
    ∃ A cap, v = .slice A len cap ∧ ∀ (k : Nat) (u : Value), (hds ((rs.drop off).take len))[k]? = some u → ∃ ad, A = some ad ∧ w.cell? (ad.add k) = some u := by
  obtain ⟨hA, hn, hc, a', rfl, rfl, hle, h0, hlt⟩ := hf
  refine ⟨a', _, rfl, fun k u hu => ?_⟩
  cases h with
  | nil =>
    have : len = 0 := by simp at hl; omega
    subst this
    simp [hds] at hu
  | @own _ q cap e cur fz _ hg hz hl2 hm hs hr hd hR =>
    obtain ⟨i, j, row, t, hi, hj, rfl, rfl⟩ := hds_inv (fun r hr' => hr r (List.mem_of_mem_drop (List.mem_of_mem_take hr'))) hu
    rw [List.getElem?_take] at hi
    split at hi
    · rename_i hil
      rw [List.getElem?_drop] at hi
      obtain ⟨q', hq, rfl⟩ := hlt (by omega)
      simp at hq
      subst hq
      refine ⟨_, rfl, ?_⟩
      have e := hds_get (off + i) j row t hr hi hj
      rw [← hd] at e
      have e := take_get e
      rw [add_none, cell_at hg]
      rw [Nat.add_mul, Nat.add_assoc] at e
      simpa using e
    · cases hi
theorem src_ok {z : Nat} {v : SV} {x : Value} {k : List (List T) → Prg α} {R : α → St → Prop} (h : Sim X n g st [] a w) (hv : SlotOK X.S g w v x) (hp : runP Te (srcP z v k) st R) :
    ∃ g' st' news, Sim X n g' st' news.flatten a w ∧ Keeps Never g g' ∧ (∀ r ∈ news, r.length = z) ∧ (∀ w, (Builtin.lenOf x).run P w = .ok news.length w) ∧ (∀ w' : World, w'.heap = w.heap → (Builtin.firstCells z news.length x).run P w' = .ok (hds news).toArray w') ∧
      runP Te (k (news.map (·.map er))) st' R ∧ st'.s = st.s ∧ st'.b = st.b := by
  unfold srcP at hp
  split at hp
  · simp only [SlotOK, CelOK] at hv
    subst hv
    simp only [runP] at hp
    exact ⟨g, st, [], h, Keeps.refl _ _, (fun r hr => by cases hr), (fun w => by simp [Builtin.lenOf]), (fun w' _ => by simp [Builtin.firstCells, hds]), by simpa using hp.2, rfl, rfl⟩
  · rename_i z' rs
    simp only [SlotOK, CelOK] at hv
    simp only [runP, beq_iff_eq] at hp
    obtain ⟨rfl, hp⟩ := hp
    obtain ⟨A, cap, u, rfl, hc1, _⟩ := hv.inv
    obtain ⟨news, e1, e2, e3, e4⟩ := gros_ok hv
    have hm : news.length = rs.length := by rw [← e1]; simp
    refine ⟨g, st, news, ?_, Keeps.refl _ _, e2, (fun w => by simp [Builtin.lenOf, hm]), fc_ok hm e2 (fun k v hk => by obtain ⟨ad, h1, _, h2⟩ := e4 k v hk; exact ⟨ad, h1, h2⟩), by rw [e1]; exact hp, rfl, rfl⟩
    have := h.moreL (us := news.flatten) (fun t ht => by
      obtain ⟨r, hr, ht⟩ := List.mem_flatten.1 ht
      exact e3 r hr t ht)
    simpa using this
  · rename_i r c p z' off len
    simp only [SlotOK] at hv
    obtain ⟨_, hrr, hf⟩ := hv
    simp only [runP] at hp
    cases hr : get st.r r with
    | none => simp [hr] at hp
    | some cs =>
      simp only [hr, node] at hp
      split at hp
      · rename_i z2 hh rows hn
        simp only [runP, beq_iff_eq, Bool.and_eq_true, decide_eq_true_eq] at hp
        obtain ⟨rfl, ⟨rfl, hl⟩, hp⟩ := hp
        obtain ⟨gs, t0, hvv, rs, hg, rfl, ht0, hm0, rfl, hna, hR, hRm⟩ := h.node hr hn
        have hl' : off + len ≤ rs.length := by simpa using hl
        have hRf := hf _ hna rfl
        obtain ⟨A, cap, e0, hcell⟩ := rf_cells hRm hRf hl'
        have hsub : ((rs.map (·.map er)).drop off).take len = ((rs.drop off).take len).map (·.map er) := by rw [← List.map_drop, ← List.map_take]
        have hm : ((rs.drop off).take len).length = len := by simp; omega
        have hrl : ∀ r ∈ rs, r.length = z2 := by
          cases hRm with
          | nil => intro r hr; cases hr
          | own _ _ _ _ _ h5 _ _ => exact h5
        have hzr : ∀ r ∈ (rs.drop off).take len, r.length = z2 := fun r hr => hrl r (List.mem_of_mem_drop (List.mem_of_mem_take hr))
        have hl1 : ∀ w, (Builtin.lenOf x).run P w = .ok ((rs.drop off).take len).length w := fun w => by rw [e0, hm]; simp [Builtin.lenOf]
        have hf1 : ∀ w' : World, w'.heap = w.heap → (Builtin.firstCells z2 ((rs.drop off).take len).length x).run P w' = .ok (hds ((rs.drop off).take len)).toArray w' := by
          rw [e0]
          exact fc_ok hm hzr hcell
        rw [hsub] at hp
        have hcr : ∀ r ∈ (rs.drop off).take len, ∀ t ∈ r, Rp X.S w t := fun r hr t ht => hRm.cells r (List.mem_of_mem_drop (List.mem_of_mem_take hr)) t ht
        cases hfl : flat (((rs.drop off).take len).map (·.map er)) with
        | true =>
          simp only [hfl, cond_true] at hp
          refine ⟨g, st, (rs.drop off).take len, ?_, Keeps.refl _ _, hzr, hl1, hf1, hp, rfl, rfl⟩
          have fl : ∀ l : List (List G), flat (l.map (·.map er)) = true → ∀ r ∈ l, ∀ t ∈ r, ∀ b, cnt b t = 0 := by
            intro l
            induction l with
            | nil => intro _ r hr; cases hr
            | cons r l ih =>
              intro hh r' hr' t ht b
              simp only [List.map_cons, flat, Bool.and_eq_true] at hh
              rcases List.mem_cons.1 hr' with rfl | hr'
              · have := List.all_eq_true.1 hh.1 (er t) (List.mem_map.2 ⟨t, ht, rfl⟩)
                cases t <;> simp [er, isPv] at this
                simp [cnt]
              · exact ih hh.2 r' hr' t ht b
          have := h.moreL (us := ((rs.drop off).take len).flatten) (fun t ht => by
            obtain ⟨r, hr, ht⟩ := List.mem_flatten.1 ht
            exact ⟨hcr r hr t ht, fl _ hfl r hr t ht⟩)
          simpa using this
        | false =>
          simp only [hfl, cond_false, runP, hr] at hp
          have eq : (gs.set c (setP t0 p (.sl true z2 hvv (goneRows rs off len)))).map er = putAt (gs.map er) c p (.sl true z2 () (goneRows (rs.map (·.map er)) off len)) := by
            rw [map_set_er, er_setP]
            simp [putAt, List.getElem?_map, ht0, er, erLL_eq, ← goneRows_er]
          rw [← eq] at hp
          have hk := keeps_rows (off := off) (len := len) hg ht0 hm0 hl'
          have hRn : Rp X.S w (.sl true z2 hvv (goneRows rs off len)) := by
            cases hRm with
            | nil =>
              have e : goneRows ([] : List (List G)) off len = [] := by simp [goneRows]
              rw [e]; exact .nil
            | @own _ q cap e cur fz _ g1 g2 g3 g4 g5 g6 g7 g8 =>
              have elen := goneRows_len rs off len hl'
              have key := Rp.own (S := X.S) (z := z2) (rows := goneRows rs off len) g1 g2 (by rw [elen]; exact g3) g4 g5 (fun r hr => by
                obtain ⟨i, hi, rfl⟩ := List.mem_iff_getElem.1 hr
                have := goneRows_get rs off len hl' i
                rw [List.getElem?_eq_getElem hi] at this
                split at this
                · cases hri : rs[i]? with
                  | none => simp [hri] at this
                  | some row => simp [hri] at this; rw [this]; simpa using g6 row (List.mem_of_getElem? hri)
                · exact g6 _ (List.mem_of_getElem? this.symm)) (by rw [elen, hds_gone]; exact g7) (fun r hr t ht => by
                obtain ⟨i, hi, rfl⟩ := List.mem_iff_getElem.1 hr
                have := goneRows_get rs off len hl' i
                rw [List.getElem?_eq_getElem hi] at this
                split at this
                · cases hri : rs[i]? with
                  | none => simp [hri] at this
                  | some row =>
                    simp [hri] at this
                    rw [this] at ht
                    obtain ⟨t', ht', rfl⟩ := List.mem_map.1 ht
                    exact goneC_rp (g8 row (List.mem_of_getElem? hri) t' ht')
                · exact g8 _ (List.mem_of_getElem? this.symm) t ht)
              rw [elen] at key
              exact key
          refine ⟨_, _, (rs.drop off).take len, h.reroot (hand' := ((rs.drop off).take len).flatten) r _ hk ?_ ?_ ?_ (fun old ho => by
            rw [hg] at ho
            simp at ho
            subst ho
            exact map_hdr_set ht0 (hdr_setP p hm0 rfl)), hk, hzr, hl1, hf1, hp, rfl, rfl⟩
          · intro y hy
            rcases List.mem_or_eq_of_mem_set hy with hy | rfl
            · exact h.reps r gs hg y hy
            · exact hR.setP (fun _ h => h) (fun _ _ => rfl) p hm0 hRn rfl (fun _ _ => rfl)
          · intro y hy
            obtain ⟨r, hr, ht⟩ := List.mem_flatten.1 hy
            exact hcr r hr y ht
          · intro b
            have a1 := cntL_set b gs c t0 (setP t0 p (.sl true z2 hvv (goneRows rs off len))) ht0
            have a2 := cnt_setP b p (u := .sl true z2 hvv (goneRows rs off len)) hm0
            have a3 := cnt_gone b rs off len
            rw [cntL_flatten]
            simp only [cnt, hg, rcnt, cntL] at a2 ⊢
            omega
      · exact hp.elim
  · exact hp.elim
theorem Step.weaken {D D' : Nat → Prop} {w w' : World} (h : Step D w w') (hd : ∀ b, D b → D' b) : Step D' w w' := ⟨h.os, h.tape, h.output, h.size, fun b hb hn => h.block b hb (fun hD => hn (hd b hD))⟩
theorem app_ok {t t2 e : TypeId} {ti : TypeInfo} {zv : Value} {z bytes d : Nat} {c : Call} {x y : Operand} (ho : o.op = .call c) (hc : c.callee = .builtin .append) (ha : c.args = #[x, y]) (hat : c.argTypes = #[t, t2])
    (ht : P.underlying t = some (.slice e)) (hi : P.info? e = some ti) (hz : ti.zero = some zv) (hsz : ti.size = z) (hby : ti.bytes = bytes) (hzs : zv.cells.size = z) (hz0 : 0 < z) {d2 : TypeDesc} (ht2 : P.underlying t2 = some d2) (hd2 : d2 = .string ∨ ∃ e2, d2 = .slice e2)
    {v : SV} {news : List (List G)} (h : Sim X n g st news.flatten a w) (hv : SlotOK X.S g w v (a.eval x)) (hdst : o.dst = some d) (hdn : d < n) (hnz : ∀ r ∈ news, r.length = z)
    (hx1 : ∀ w, (Builtin.lenOf (a.eval y)).run P w = .ok news.length w) (hx2 : ∀ w' : World, w'.heap = w.heap → (Builtin.firstCells z news.length (a.eval y)).run P w' = .ok (hds news).toArray w')
    (hp : runP Te (appP d z bytes v (news.map (·.map er))) st (fun _ st' => K st')) : o.wp P a w (Goal X n K) Q := by
  have main : ∀ {g' : Gh} {st' : St} {u : Value} {rows : List (List G)}, a.eval x = u → Sim X n g' st' (.sl true z u rows :: news.flatten) a w → rows.length + news.length ≤ 4294967296 → (rows.length + news.length) * bytes ≤ 140737488355328 →
      runP Te (newSl d z ((rows ++ news).map (·.map er))) st' (fun _ st' => K st') → o.wp P a w (Goal X n K) Q := by
    intro g' st' u rows eu hs hl hb2 hp
    have hS : ∀ q, 0 < hb q u → ¬ X.S q := fun q hq => (hs.mine q 0 (by simp only [cntL, cnt]; omega)).1
    obtain ⟨v', w', hr, hR, hst, hfr⟩ := rp_append (P := P) (w := w) (S := X.S) (ty := o.type) ht hi hz hsz hby hzs hz0 ht2 hd2 (fun b hb => Nat.lt_of_lt_of_le (X.stay b hb).1 hs.frame.size) (v := u) (x := a.eval y) (rows := rows) (news := news)
      (hs.held _ (List.mem_cons_self ..)) hnz (fun r hr t ht => hs.held t (List.mem_cons_of_mem _ (List.mem_flatten.2 ⟨r, hr, ht⟩))) hS
      (fun q hq => by
        have := hs.sole.one q 0
        simp only [cntL, cnt, cntL_flatten] at this
        omega) hx1 hx2 hl hb2
    have lo : ∀ b, 0 < cntL b (.sl true z u rows :: news.flatten) → b < w.heap.size := fun b hb => hs.lt b 0 (by omega)
    have h2 : Sim X n g' st' ([.sl true z v' (rows ++ news)] ++ []) a w' := Sim.world (us := .sl true z u rows :: news.flatten) (hand := []) (by simpa using hs) (hst.weaken (fun b hb => by simp only [cntL, cnt]; omega)) (fun t ht => by simp at ht; subst ht; exact hR) (fun b => by
      simp only [cntL, cnt, cntL_flatten, cntLL_append] at lo ⊢
      rcases hfr b with h1 | ⟨h1, h2⟩
      · left; omega
      · right
        have := fun h0 => lo b h0
        refine ⟨h1, ?_⟩
        omega)
    have hg := newSl_ok (by simpa using h2) hdn rfl hp
    refine step_value (v := v') (w' := w') ?_ (by rw [hdst]; exact hg)
    simp only [execOp, ho, resolve, hc, ha, hat, Sem.run_bind, Sem.run_pure, Result.andThen_ok, invoke, builtin, List.map_toArray, List.map_cons, List.map_nil, eu, hr]
  simp only [appP, runP] at hp
  obtain ⟨_, hp⟩ := hp
  split at hp
  · simp only [SlotOK, CelOK] at hv
    simp only [runP, Bool.and_eq_true, beq_iff_eq, decide_eq_true_eq, List.length_map] at hp
    obtain ⟨⟨⟨rfl, h1⟩, h2⟩, hp⟩ := hp
    exact main (rows := []) hv (h.more (u := .sl true _ (.slice none 0 0) []) .nil (fun b => by simp [cnt, hb, cntLL])) (by simpa using h2) (by simpa using h1) (by simpa using hp)
  · rename_i r c0 p z' off len
    simp only [SlotOK] at hv
    simp only [runP] at hp
    cases hr : get st.r r with
    | none => simp [hr] at hp
    | some cs =>
      simp only [hr, node] at hp
      split at hp
      · rename_i z2 hh rows hn
        simp only [runP, beq_iff_eq, Bool.and_eq_true, decide_eq_true_eq, List.length_map, hr] at hp
        obtain ⟨rfl, ⟨⟨⟨⟨rfl, rfl⟩, h1⟩, h2⟩, h3⟩, hp⟩ := hp
        obtain ⟨g', u, k1, _, k3, k4, _⟩ := h.take hr hn h1 hv
        cases u with
        | pv => simp [er] at k4
        | no => simp [er] at k4
        | sl o' z3 hv' rs =>
          simp only [er, erLL_eq, Tr.sl.injEq, true_and] at k4
          obtain ⟨rfl, rfl, k4⟩ := k4
          simp only [hdr] at k3
          have kl : rs.length = len := by
            have := congrArg List.length k4
            simp at this
            omega
          refine main (rows := rs) k3.symm k1 (by omega) (by rw [kl]; exact h2) ?_
          rw [List.map_append, k4]
          exact hp
      · exact hp.elim
  · exact hp.elim
theorem do_app {t t2 e e2 : TypeId} {ti : TypeInfo} {zv : Value} {z bytes d : Nat} {c : Call} {x y : Operand} {x' y' : Opd} (h : Sim X n g st [] a w) (ho : o.op = .call c) (hc : c.callee = .builtin .append) (ha : c.args = #[x, y]) (hat : c.argTypes = #[t, t2])
    (ht : P.underlying t = some (.slice e)) (hi : P.info? e = some ti) (hz : ti.zero = some zv) (hsz : ti.size = z) (hby : ti.bytes = bytes) (hzs : zv.cells.size = z) (hz0 : 0 < z) (ht2 : P.underlying t2 = some (.slice e2))
    (hx : opdOk x x' = true) (hy : opdOk y y' = true) (hdst : o.dst = some d) (hdn : d < n)
    (hp : runP Te ((COp.app z bytes x' y').prg o.dst d) st (fun _ st' => K st')) : o.wp P a w (Goal X n K) Q := by
  replace hp := ev_ok h hx hp
  obtain ⟨v, hv, hp⟩ := hp
  replace hp := ev_ok h hy hp
  obtain ⟨v1, hv1, hp⟩ := hp
  replace hp := src_ok (P := P) h hv1 hp
  obtain ⟨g', st', news, h1, k1, h2, h3, h4, hp, _, _⟩ := hp
  exact app_ok ho hc ha hat ht hi hz hsz hby hzs hz0 ht2 (.inr ⟨e2, rfl⟩) h1 (SlotOK.keep k1 (fun _ _ => rfl) v _ (never_slot v) (fun _ _ _ _ _ h => h) hv) hdst hdn h2 h3 h4 hp
theorem bytes_news (s : ByteArray) : ∃ news : List (List G), news.map (·.map er) = ofBytes s.data.toList ∧ news.length = s.size ∧ (∀ r ∈ news, r.length = 1) ∧ (∀ r ∈ news, ∀ t ∈ r, (∀ (S : Nat → Prop) (w : World), Rp S w t) ∧ ∀ b, cnt b t = 0) ∧ hds news = s.data.toList.map fun b => Value.int .u8 b.toNat := by
  refine ⟨s.data.toList.map fun b => [.pv (.int .u8 b.toNat)], ?_, ?_, ?_, ?_, ?_⟩
  · simp [ofBytes, byteT, er]
  · rw [List.length_map, Array.length_toList]; rfl
  · intro r hr; obtain ⟨b, _, rfl⟩ := List.mem_map.1 hr; rfl
  · intro r hr t ht
    obtain ⟨b, _, rfl⟩ := List.mem_map.1 hr
    simp at ht
    subst ht
    exact ⟨fun S w => .pv rfl, fun b => by simp [cnt]⟩
  · simp only [hds, List.flatMap_map, hdr, List.map_cons, List.map_nil]
    induction s.data.toList with
    | nil => rfl
    | cons b l ih => simp [ih]
theorem do_apps {t t2 e : TypeId} {ti : TypeInfo} {zv : Value} {z bytes d : Nat} {c : Call} {x y : Operand} {x' y' : Opd} (h : Sim X n g st [] a w) (ho : o.op = .call c) (hc : c.callee = .builtin .append) (ha : c.args = #[x, y]) (hat : c.argTypes = #[t, t2])
    (ht : P.underlying t = some (.slice e)) (hi : P.info? e = some ti) (hz : ti.zero = some zv) (hsz : ti.size = z) (hby : ti.bytes = bytes) (hzs : zv.cells.size = z) (hz0 : 0 < z) (ht2 : P.underlying t2 = some .string)
    (hx : opdOk x x' = true) (hy : opdOk y y' = true) (hdst : o.dst = some d) (hdn : d < n)
    (hp : runP Te ((COp.apps z bytes x' y').prg o.dst d) st (fun _ st' => K st')) : o.wp P a w (Goal X n K) Q := by
  replace hp := ev_ok h hx hp
  obtain ⟨v, hv, hp⟩ := hp
  replace hp := ev_ok h hy hp
  obtain ⟨v1, hv1, hp⟩ := hp
  split at hp
  · rename_i s
    have e1 := one_pv hv1
    simp only [runP, beq_iff_eq] at hp
    obtain ⟨rfl, hp⟩ := hp
    obtain ⟨news, n1, n2, n3, n4, n5⟩ := bytes_news s
    rw [← n1] at hp
    refine app_ok ho hc ha hat ht hi hz hsz hby hzs hz0 ht2 (.inl rfl) (news := news) ?_ hv hdst hdn n3 (fun w => by rw [e1, n2]; simp [Builtin.lenOf]) (fun w' _ => ?_) hp
    · have := h.moreL (us := news.flatten) (fun t ht => by
        obtain ⟨r, hr, ht⟩ := List.mem_flatten.1 ht
        exact ⟨(n4 r hr t ht).1 _ _, (n4 r hr t ht).2⟩)
      simpa using this
    · rw [e1, n2, n5]
      have hx : (s.extract 0 s.size).data = s.data := by simp
      simp only [Builtin.firstCells, Sem.run_pure, hx]
      congr 1
      apply Array.ext'
      simp
  · exact hp.elim
end
end Go.X
