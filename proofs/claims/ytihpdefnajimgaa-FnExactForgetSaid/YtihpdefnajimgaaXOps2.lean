/- More operations that write nothing to memory. -/
import Derived.Test.YtihpdefnajimgaaXOps
namespace Go.X
section
variable {P : Program} {X : Ctx} {n : Nat} {g : Gh} {st : St} {hand : List G} {a : Act} {w : World} {α : Type} {Te : Nat → List AV → Res → Prop} {o : Oper} {K : St → Prop} {Q : Exit → Act → World → Prop}
theorem nat_ok {v : SV} {u : Value} {k : Nat → Prg α} {R : α → St → Prop} {S : Nat → Prop} (hv : SlotOK S g w v u) (hp : runP Te (nat? v k) st R) : ∃ (kd : IntKind) (i : Int) (m : Nat), u = .int kd i ∧ 0 ≤ i ∧ i.toNat = m ∧ runP Te (k m) st R := by
  unfold nat? at hp
  split at hp
  · rename_i kd i
    simp only [runP, decide_eq_true_eq] at hp
    exact ⟨kd, i, _, one_pv hv, hp.1, rfl, hp.2⟩
  · exact hp.elim
theorem opt_ok {x : Option Operand} {x' : Option Opd} {z : Nat} {k : Nat → Prg α} {R : α → St → Prop} (h : Sim X n g st hand a w) (hx : match x, x' with | none, none => True | some x, some x' => opdOk x x' = true | _, _ => False) (hp : runP Te (opt? x' z k) st R) :
    ∃ m, runP Te (k m) st R ∧ ((x = none ∧ m = z) ∨ ∃ (y : Operand) (kd : IntKind) (i : Int), x = some y ∧ a.eval y = .int kd i ∧ 0 ≤ i ∧ i.toNat = m) := by
  unfold opt? at hp
  split at hp
  · cases x with
    | none => exact ⟨z, hp, .inl ⟨rfl, rfl⟩⟩
    | some x => exact hx.elim
  · cases x with
    | none => exact hx.elim
    | some y =>
      obtain ⟨v, hv, hp⟩ := ev_ok h hx hp
      obtain ⟨kd, i, m, e, h0, rfl, hp⟩ := nat_ok hv hp
      exact ⟨_, hp, .inr ⟨y, kd, i, rfl, e, h0, rfl⟩⟩
theorem do_ext {x : Operand} {x' : Opd} {i : Nat} (h : Sim X n g st [] a w) (ho : o.op = .extract x i) (hx : opdOk x x' = true) (hd : ∀ k, o.dst = some k → k < n) (id : Nat)
    (hp : runP Te ((COp.ext x' i).prg o.dst id) st (fun _ st' => K st')) : o.wp P a w (Goal X n K) Q := by
  replace hp := ev_ok h hx hp
  obtain ⟨v, hv, hp⟩ := hp
  split at hp
  · rename_i vs
    simp only [SlotOK] at hv
    obtain ⟨us, e, hs⟩ := hv
    split at hp
    · rename_i v0 hv0
      have key : ∀ (vs : List SV) (us : List Value) (i : Nat), SlotsOK X.S g w vs us → vs[i]? = some v0 → ∃ u, us[i]? = some u ∧ SlotOK X.S g w v0 u := by
        intro vs
        induction vs with
        | nil => intro us i _ h; simp at h
        | cons v vs ih =>
          intro us i hs hi
          cases us with
          | nil => simp [SlotsOK] at hs
          | cons u us =>
            simp only [SlotsOK] at hs
            cases i with
            | zero => simp at hi; subst hi; exact ⟨u, rfl, hs.1⟩
            | succ i => simpa using ih us i hs.2 (by simpa using hi)
      obtain ⟨u, hu, hu'⟩ := key vs us i hs hv0
      refine step_value (v := u) (w' := w) ?_ (fin_ok h hd hu' hp)
      simp [execOp, ho, e, Instr.extract, hu]
    · exact hp.elim
  · exact hp.elim
theorem do_sidx {t : TypeId} {x y : Operand} {x' y' : Opd} (h : Sim X n g st [] a w) (ho : o.op = .index t x y) (ht : P.underlying t = some .string) (hx : opdOk x x' = true) (hy : opdOk y y' = true) (hd : ∀ k, o.dst = some k → k < n) (id : Nat)
    (hp : runP Te ((COp.sidx x' y').prg o.dst id) st (fun _ st' => K st')) : o.wp P a w (Goal X n K) Q := by
  replace hp := ev_ok h hx hp
  obtain ⟨v, hv, hp⟩ := hp
  replace hp := ev_ok h hy hp
  obtain ⟨v1, hv1, hp⟩ := hp
  replace hp := nat_ok hv1 hp
  obtain ⟨kd, i, m, e1, h0, rfl, hp⟩ := hp
  split at hp
  · rename_i s
    have e := one_pv hv
    simp only [runP, decide_eq_true_eq] at hp
    obtain ⟨hlt, hp⟩ := hp
    refine step_value (v := .int .u8 (s.data.toList.getD i.toNat 0).toNat) (w' := w) ?_ (fin_ok h hd (slot_pv _ _ _ rfl) hp)
    have hlt' : i.toNat < s.data.size := hlt
    have hs : (if 0 ≤ i then s[i.toNat]? else none) = some (s.data.toList.getD i.toNat 0) := by
      rw [if_pos h0]
      have e2 : s[i.toNat]? = some s[i.toNat] := getElem?_pos s i.toNat hlt
      rw [e2]
      congr 1
      show s.data[i.toNat] = _
      rw [List.getD_eq_getElem?_getD, Array.getElem?_toList, Array.getElem?_eq_getElem hlt']
      rfl
    simp only [execOp, ho, e, e1, Instr.index, asIntOf, Sem.run_bind, Sem.run_pure, Result.andThen_ok, run_underlying ht, hs]
  · exact hp.elim
theorem do_faddr {s : TypeId} {x : Operand} {x' : Opd} {i off : Nat} {fs : Array Field} {f : Field} {ti : TypeInfo} (h : Sim X n g st [] a w) (ho : o.op = .fieldAddr s x i) (hs : P.underlying s = some (.struct fs)) (hf : fs[i]? = some f) (hi : P.info? f.type = some ti) (h0 : ti.size ≠ 0) (hoff : f.offset = off)
    (hx : opdOk x x' = true) (hd : ∀ k, o.dst = some k → k < n) (id : Nat) (hp : runP Te ((COp.faddr x' off).prg o.dst id) st (fun _ st' => K st')) : o.wp P a w (Goal X n K) Q := by
  subst hoff
  replace hp := ev_ok h hx hp
  obtain ⟨v, hv, hp⟩ := hp
  have key : ∀ ad, a.eval x = .pointer (some ad) → (execOp a.eval o).run P w = .ok (.value (.pointer (some (ad.add f.offset)))) w := fun ad e => by
    simp [execOp, ho, e, Instr.fieldAt, run_underlying hs, hf, Instr.sureAddr, fieldPlace, sizeOf, typeInfo, hi, h0]
  split at hp
  · simp only [SlotOK] at hv
    obtain ⟨A, hA, e⟩ := hv
    refine step_value (key _ e) (fin_ok h hd ?_ hp)
    simp only [SlotOK]
    exact ⟨A, hA, by rw [add_none, Nat.add_assoc]⟩
  · simp only [SlotOK] at hv
    obtain ⟨⟨ad, e⟩, hr, hm⟩ := hv
    refine step_value (key _ e) (fin_ok h hd ?_ hp)
    simp only [SlotOK]
    refine ⟨⟨_, rfl⟩, hr, fun m h1 h2 => ?_⟩
    obtain ⟨q, hn, hc, e1, e2⟩ := hm m h1 h2
    rw [e] at e2
    simp at e2
    subst e2
    exact ⟨q, hn, hc, e1, by rw [add_none, Nat.add_assoc]⟩
  · simp only [SlotOK] at hv
    obtain ⟨ad, e, hc⟩ := hv
    refine step_value (key _ e) (fin_ok h hd ?_ hp)
    simp only [SlotOK]
    refine ⟨_, rfl, fun j t ht => ?_⟩
    rw [List.getElem?_drop] at ht
    obtain ⟨h1, u, h2, h3⟩ := hc _ t ht
    exact ⟨by rw [add_block]; exact h1, u, by rw [add_add]; exact h2, h3⟩
  · exact hp.elim
theorem do_iaddr {t e : TypeId} {ti : TypeInfo} {z : Nat} {x y : Operand} {x' y' : Opd} (h : Sim X n g st [] a w) (ho : o.op = .indexAddr t x y) (ht : P.underlying t = some (.slice e)) (hi : P.info? e = some ti) (hz : ti.size = z) (hz0 : 0 < z)
    (hx : opdOk x x' = true) (hy : opdOk y y' = true) (hd : ∀ k, o.dst = some k → k < n) (id : Nat) (hp : runP Te ((COp.iaddr z x' y').prg o.dst id) st (fun _ st' => K st')) : o.wp P a w (Goal X n K) Q := by
  subst hz
  replace hp := ev_ok h hx hp
  obtain ⟨v, hv, hp⟩ := hp
  replace hp := ev_ok h hy hp
  obtain ⟨v1, hv1, hp⟩ := hp
  replace hp := nat_ok hv1 hp
  obtain ⟨kd, i, m, e1, h0, hm, hp⟩ := hp
  have key : ∀ ad len cap, a.eval x = .slice (some ad) len cap → m < len → (execOp a.eval o).run P w = .ok (.value (.pointer (some (ad.add (m * ti.size))))) w := fun ad len cap e0 hl => by
    have hin : 0 ≤ i ∧ i < (len : Int) := ⟨h0, by omega⟩
    simp [execOp, ho, e0, e1, Instr.indexAt, asIntOf, run_underlying ht, sizeOf, typeInfo, hi, hin, hm]
  split at hp
  · rename_i z' rs
    split at hp
    · rename_i r hr
      simp only [runP, beq_iff_eq] at hp
      obtain ⟨rfl, hp⟩ := hp
      simp only [SlotOK, CelOK] at hv
      obtain ⟨ad, cap, u, he, h1, h2, h3, h4, h5⟩ := hv.inv
      have hrl := h3 r (List.mem_of_getElem? hr)
      have hml := (List.getElem?_eq_some_iff.1 hr).1
      obtain ⟨b, rfl, hS, hc⟩ := h4 m r 0 _ hr (List.getElem?_eq_getElem (by omega))
      refine step_value (key b _ _ he hml) (fin_ok h hd ?_ hp)
      simp only [SlotOK]
      refine ⟨_, rfl, fun j t ht => ?_⟩
      obtain ⟨b', hb', hS', hc'⟩ := h4 m r j t hr ht
      simp at hb'
      subst hb'
      exact ⟨by rw [add_block]; exact hS', _, by rw [add_add]; exact hc', h5 m r j t hr ht⟩
    · exact hp.elim
  · rename_i r c p z' off len
    simp only [runP] at hp
    cases hr : get st.r r with
    | none => simp [hr] at hp
    | some cs =>
      simp only [hr, node] at hp
      split at hp
      · rename_i z2 hh rows hn
        simp only [runP, Bool.and_eq_true, beq_iff_eq, decide_eq_true_eq] at hp
        obtain ⟨rfl, ⟨rfl, hl⟩, hp⟩ := hp
        simp only [SlotOK] at hv
        obtain ⟨gs, t0, hv', rs, hg, rfl, ht0, hm0, rfl, hna, hR, hRm⟩ := h.node hr hn
        obtain ⟨_, hrr, hf⟩ := hv
        obtain ⟨hA, hn', hc, a', e2, e3, hle, _, hlt⟩ := hf _ hna rfl
        obtain ⟨q, rfl, rfl⟩ := hlt (by omega)
        refine step_value (key _ _ _ e3 hl) (fin_ok h hd ?_ hp)
        simp only [SlotOK]
        refine ⟨⟨_, rfl⟩, hrr, fun m' h1 h2 => ?_⟩
        rw [hna] at h1
        simp at h1
        subst h1
        exact ⟨q, _, _, e2, by rw [add_none, Nat.add_mul, Nat.add_zero]⟩
      · exact hp.elim
  · exact hp.elim
theorem do_aaddr {t e : TypeId} {ti : TypeInfo} {len z : Nat} {x y : Operand} {x' y' : Opd} (h : Sim X n g st [] a w) (ho : o.op = .indexAddr t x y) (ht : P.underlying t = some (.array len e)) (hi : P.info? e = some ti) (hz : ti.size = z)
    (hx : opdOk x x' = true) (hy : opdOk y y' = true) (hd : ∀ k, o.dst = some k → k < n) (id : Nat) (hp : runP Te ((COp.aaddr len z x' y').prg o.dst id) st (fun _ st' => K st')) : o.wp P a w (Goal X n K) Q := by
  subst hz
  replace hp := ev_ok h hx hp
  obtain ⟨v, hv, hp⟩ := hp
  replace hp := ev_ok h hy hp
  obtain ⟨v1, hv1, hp⟩ := hp
  replace hp := nat_ok hv1 hp
  obtain ⟨kd, i, m, e1, h0, hm, hp⟩ := hp
  split at hp
  · rename_i b off
    simp only [SlotOK] at hv
    obtain ⟨A, hA, e2⟩ := hv
    simp only [runP, decide_eq_true_eq] at hp
    obtain ⟨hl, hp⟩ := hp
    have hin : 0 ≤ i ∧ i < (len : Int) := ⟨h0, by omega⟩
    refine step_value (v := .pointer (some ((⟨A.block, A.off + off, none⟩ : Addr).add (m * ti.size)))) (w' := w) ?_ (fin_ok h hd ?_ hp)
    · simp [execOp, ho, e2, e1, Instr.indexAt, asIntOf, run_underlying ht, sizeOf, typeInfo, hi, hin, hm, Instr.sureAddr]
    · simp only [SlotOK]
      exact ⟨A, hA, by rw [add_none, Nat.add_assoc]⟩
  · exact hp.elim
theorem run_bound {x : Operand} {kd : IntKind} {i : Int} {y : Nat} {code : BoundsCode} (e : a.eval x = .int kd i) (h0 : 0 ≤ i) (h1 : i.toNat ≤ y) : (Instr.sliceBound (a.eval x) y code).run P w = .ok i.toNat w := by
  simp [Instr.sliceBound, e, asIntOf, h0, show i ≤ (y : Int) by omega]
/-- The bounds of a cut. -/
theorem run_bounds {lo hi : Option Operand} {b : Bool} {len cap l m : Nat} (hl : (lo = none ∧ l = 0) ∨ ∃ (y : Operand) (kd : IntKind) (i : Int), lo = some y ∧ a.eval y = .int kd i ∧ 0 ≤ i ∧ i.toNat = l)
    (hh : (hi = none ∧ m = len) ∨ ∃ (y : Operand) (kd : IntKind) (i : Int), hi = some y ∧ a.eval y = .int kd i ∧ 0 ≤ i ∧ i.toNat = m) (h1 : l ≤ m) (h2 : m ≤ cap) :
    (Instr.sliceBounds b len cap (lo.map a.eval) (hi.map a.eval) none).run P w = .ok (l, m, cap) w := by
  rcases hh with ⟨rfl, rfl⟩ | ⟨y, kd, i, rfl, e, h0, rfl⟩
  · rcases hl with ⟨rfl, rfl⟩ | ⟨y', kd', i', rfl, e', h0', rfl⟩
    · simp [Instr.sliceBounds]
    · simp [Instr.sliceBounds, run_bound (P := P) (w := w) e' h0' h1]
  · rcases hl with ⟨rfl, rfl⟩ | ⟨y', kd', i', rfl, e', h0', rfl⟩
    · simp [Instr.sliceBounds, run_bound (P := P) (w := w) e h0 h2]
    · simp [Instr.sliceBounds, run_bound (P := P) (w := w) e h0 h2, run_bound (P := P) (w := w) e' h0' h1]
def optOk : Option Operand → Option Opd → Prop
  | none, none => True
  | some x, some x' => opdOk x x' = true
  | _, _ => False
theorem do_sslice {t : TypeId} {x : Operand} {x' : Opd} {lo hi : Option Operand} {lo' hi' : Option Opd} (h : Sim X n g st [] a w) (ho : o.op = .slice t x lo hi none) (ht : P.underlying t = some .string) (hx : opdOk x x' = true) (hlo : optOk lo lo') (hhi : optOk hi hi') (hd : ∀ k, o.dst = some k → k < n) (id : Nat)
    (hp : runP Te ((COp.sslice x' lo' hi').prg o.dst id) st (fun _ st' => K st')) : o.wp P a w (Goal X n K) Q := by
  replace hp := ev_ok h hx hp
  obtain ⟨v, hv, hp⟩ := hp
  split at hp
  · rename_i s
    have e := one_pv hv
    replace hp := opt_ok h (x := lo) (by cases lo <;> cases lo' <;> exact hlo) hp
    obtain ⟨l, hp, hl⟩ := hp
    replace hp := opt_ok h (x := hi) (by cases hi <;> cases hi' <;> exact hhi) hp
    obtain ⟨m, hp, hm⟩ := hp
    simp only [runP, Bool.and_eq_true, decide_eq_true_eq] at hp
    obtain ⟨⟨h1, h2⟩, hp⟩ := hp
    refine step_value (v := .string (s.extract l m)) (w' := w) ?_ (fin_ok h hd (slot_pv _ _ _ rfl) hp)
    have hb := run_bounds (P := P) (w := w) (b := false) (cap := s.size) hl hm h1 h2
    simp [execOp, ho, e, Instr.sliceAt, run_underlying ht, Instr.slice, hb]
  · exact hp.elim
theorem do_slice {t el : TypeId} {ti : TypeInfo} {z : Nat} {x : Operand} {x' : Opd} {lo hi : Option Operand} {lo' hi' : Option Opd} (h : Sim X n g st [] a w) (ho : o.op = .slice t x lo hi none) (ht : P.underlying t = some (.slice el)) (hti : P.info? el = some ti) (hz : ti.size = z) (hx : opdOk x x' = true) (hlo : optOk lo lo') (hhi : optOk hi hi') (hd : ∀ k, o.dst = some k → k < n) (id : Nat)
    (hp : runP Te ((COp.slice z x' lo' hi').prg o.dst id) st (fun _ st' => K st')) : o.wp P a w (Goal X n K) Q := by
  subst hz
  replace hp := ev_ok h hx hp
  obtain ⟨v, hv, hp⟩ := hp
  have key : ∀ (A : Option Addr) (len cap l m : Nat), a.eval x = .slice A len cap → ((lo = none ∧ l = 0) ∨ ∃ (y : Operand) (kd : IntKind) (i : Int), lo = some y ∧ a.eval y = .int kd i ∧ 0 ≤ i ∧ i.toNat = l) →
      ((hi = none ∧ m = len) ∨ ∃ (y : Operand) (kd : IntKind) (i : Int), hi = some y ∧ a.eval y = .int kd i ∧ 0 ≤ i ∧ i.toNat = m) → l ≤ m → m ≤ cap →
      (execOp a.eval o).run P w = .ok (.value (.slice (if cap = l then A else A.map (·.add (l * ti.size))) (m - l) (cap - l))) w := by
    intro A len cap l m e hl hm h1 h2
    have hb := run_bounds (P := P) (w := w) (b := true) (len := len) hl hm h1 h2
    simp [execOp, ho, e, Instr.sliceAt, run_underlying ht, Instr.slice, hb, sizeOf, typeInfo, hti]
  split at hp
  · simp only [SlotOK, CelOK] at hv
    replace hp := opt_ok h (x := lo) (by cases lo <;> cases lo' <;> exact hlo) hp
    obtain ⟨l, hp, hl⟩ := hp
    replace hp := opt_ok h (x := hi) (by cases hi <;> cases hi' <;> exact hhi) hp
    obtain ⟨m, hp, hm⟩ := hp
    simp only [runP, Bool.and_eq_true, decide_eq_true_eq] at hp
    obtain ⟨⟨h1, h2⟩, hp⟩ := hp
    have e0 : m = 0 := by omega
    have e1 : l = 0 := by omega
    subst e0
    subst e1
    refine step_value (key none 0 0 0 0 hv hl hm (Nat.le_refl _) (Nat.le_refl _)) (fin_ok h hd ?_ hp)
    simp [SlotOK, CelOK]
  · rename_i z' rs
    simp only [SlotOK, CelOK] at hv
    replace hp := opt_ok h (x := lo) (by cases lo <;> cases lo' <;> exact hlo) hp
    obtain ⟨l, hp, hl⟩ := hp
    replace hp := opt_ok h (x := hi) (by cases hi <;> cases hi' <;> exact hhi) hp
    obtain ⟨m, hp, hm⟩ := hp
    simp only [runP, Bool.and_eq_true, beq_iff_eq, decide_eq_true_eq] at hp
    obtain ⟨⟨⟨rfl, h1⟩, h2⟩, hp⟩ := hp
    obtain ⟨ad, cap, u, he, hc1, _⟩ := hv.inv
    refine step_value (key ad rs.length cap l m he hl hm h1 (by omega)) (fin_ok h hd ?_ hp)
    simp only [SlotOK, CelOK]
    rw [he] at hv
    exact hv.part h1 h2
  · rename_i r c p z' off len
    simp only [runP] at hp
    cases hr : get st.r r with
    | none => simp [hr] at hp
    | some cs =>
      simp only [hr, node] at hp
      split at hp
      · rename_i z2 hh rows hn
        simp only [runP] at hp
        obtain ⟨e0, hp⟩ := hp
        replace hp := opt_ok h (x := lo) (by cases lo <;> cases lo' <;> exact hlo) hp
        obtain ⟨l, hp, hl⟩ := hp
        replace hp := opt_ok h (x := hi) (by cases hi <;> cases hi' <;> exact hhi) hp
        obtain ⟨m, hp, hm⟩ := hp
        simp only [runP, Bool.and_eq_true, beq_iff_eq, decide_eq_true_eq] at hp e0
        obtain ⟨⟨⟨rfl, h1⟩, h2⟩, hp⟩ := hp
        subst e0
        simp only [SlotOK] at hv
        obtain ⟨gs, t0, hv', rs, hg, rfl, ht0, hm0, rfl, hna, hR, hRm⟩ := h.node hr hn
        obtain ⟨_, hrr, hf⟩ := hv
        obtain ⟨hA, hn', hc, a', e2, e3, hle, hz0, hlt⟩ := hf _ hna rfl
        refine step_value (key _ _ _ l m e3 hl hm h1 (by omega)) (fin_ok h hd ?_ hp)
        simp only [SlotOK]
        refine ⟨⟨_, _, rfl⟩, hrr, fun m' hm1 hm2 => ?_⟩
        rw [hna] at hm1
        simp at hm1
        subst hm1
        refine ⟨hA, hn', hc, _, e2, by rw [show hc - off - l = hc - (off + l) by omega], by omega, fun e => ?_, fun hlt' => ?_⟩
        · have o0 : off = 0 := by omega
          have l0 : l = 0 := by omega
          subst o0
          subst l0
          rw [hz0 rfl]
          split
          · rfl
          · simp only [Nat.zero_mul, add_zero, Option.map_id']
        · obtain ⟨q, rfl, rfl⟩ := hlt (by omega)
          refine ⟨q, rfl, ?_⟩
          rw [if_neg (by omega)]
          simp [add_none, Nat.add_mul]
      · exact hp.elim
  · exact hp.elim
/-! ### Struct values -/
def kindT (P : Program) (t : Nat) (ty : TypeId) : Bool :=
  match t, P.underlying ty with
  | 0, some (.int _) => true
  | 1, some .bool => true
  | 2, some .string => true
  | _, _ => false
theorem eqV_run {k : Nat} {t : TypeId} {d : Nat} {u v : Value} {b : Bool} (ht : kindT P k t = true) (h : eqV k u v = some b) (w : World) : (Op.equalIn (d + 1) t u v).run P w = .ok b w := by
  unfold eqV at h
  split at h
  · rename_i k x k' y
    cases hu : P.underlying t with
    | none => simp [kindT, hu] at ht
    | some td =>
      cases td <;> simp [kindT, hu] at ht
      cases hk : k == k' with
      | false => simp [hk] at h
      | true =>
        simp only [hk, cond_true, Option.some.injEq] at h
        have := eq_of_beq hk
        subst this
        subst h
        exact run_equalIn_int (P := P) w d t k _ x y hu
  · rename_i x y
    cases hu : P.underlying t with
    | none => simp [kindT, hu] at ht
    | some td =>
      cases td <;> simp [kindT, hu] at ht
      simp at h; subst h; exact run_equalIn_bool' (P := P) w d t x y hu
  · rename_i x y
    cases hu : P.underlying t with
    | none => simp [kindT, hu] at ht
    | some td =>
      cases td <;> simp [kindT, hu] at ht
      simp at h; subst h; exact run_equalIn_string (P := P) w d t x y hu
  · cases h
/-- A struct whose fields are numbers, bools and strings, one cell each. -/
def flatF (P : Program) : Nat → List Field → List Nat → Bool
  | _, [], [] => true
  | k, f :: fs, t :: ts => f.offset == k && f.name != "_" && kindT P t f.type && flatF P (k + 1) fs ts
  | _, _, _ => false
theorem run_part {t : TypeId} {k : Nat} (ht : kindT P k t = true) {cs : Array Value} {off : Nat} {u : Value} (hu : cs[off]? = some u) (w : World) : (part t cs off).run P w = .ok u w := by
  have hd : ∃ d, P.underlying t = some d ∧ (match d with | .struct _ => true | .array _ _ => true | _ => false) = false := by
    unfold kindT at ht
    split at ht <;> (first | (cases ht; done) | (rename_i h; exact ⟨_, h, rfl⟩))
  obtain ⟨d, hd, hn⟩ := hd
  have : (isAgg t).run P w = .ok false w := by
    cases d <;> simp at hn <;> simp [isAgg, run_underlying hd]
  simp [part, this, hu]
theorem eqFields_run (d : Nat) (xs ys : List Value) (w : World) : ∀ (fs : List Field) (ts : List Nat) (k : Nat) (cx cy : List Cel) (b : Bool), flatF P k fs ts = true → CelsOK X.S g w cx (xs.drop k) → CelsOK X.S g w cy (ys.drop k) → eqL ts cx cy = some b →
    (Op.eqFields (d + 1) xs.toArray ys.toArray fs).run P w = .ok b w
  | [], [], k, cx, cy, b, _, _, _, he => by
    cases cx with
    | nil => cases cy with
      | nil => simp [eqL] at he; subst he; simp [Op.eqFields]
      | cons => simp [eqL] at he
    | cons => simp [eqL] at he
  | f :: fs, t :: ts, k, cx, cy, b, hf, hx, hy, he => by
    simp only [flatF, Bool.and_eq_true, beq_iff_eq, bne_iff_ne] at hf
    obtain ⟨⟨⟨h1, h2⟩, h3⟩, h4⟩ := hf
    match cx, cy, he with
    | .pv x :: cx, .pv y :: cy, he =>
      simp only [eqL] at he
      cases hv : eqV t x y with
      | none => simp [hv] at he
      | some b1 =>
        simp only [hv, Option.bind_some] at he
        cases hr : eqL ts cx cy with
        | none => simp [hr] at he
        | some b2 =>
          simp [hr] at he
          have gx : xs[k]? = some x := by
            have h0 := hx.1
            cases hd0 : xs.drop k with
            | nil => simp [hd0] at h0
            | cons v vs =>
              have := (hx.2 0 (.pv x) v rfl (by rw [hd0]; rfl)).1
              subst this
              have e : (xs.drop k)[0]? = some v := by rw [hd0]; rfl
              simpa [List.getElem?_drop] using e
          have gy : ys[k]? = some y := by
            have h0 := hy.1
            cases hd0 : ys.drop k with
            | nil => simp [hd0] at h0
            | cons v vs =>
              have := (hy.2 0 (.pv y) v rfl (by rw [hd0]; rfl)).1
              subst this
              have e : (ys.drop k)[0]? = some v := by rw [hd0]; rfl
              simpa [List.getElem?_drop] using e
          have tx : CelsOK X.S g w cx (xs.drop (k + 1)) := by
            have e : xs.drop (k + 1) = (xs.drop k).drop 1 := by rw [List.drop_drop]
            rw [e]
            refine ⟨by have := hx.1; simp at this ⊢; omega, fun i c u h h' => hx.2 (i + 1) c u (by simpa using h) ?_⟩
            rw [List.getElem?_drop] at h'
            rwa [Nat.add_comm] at h'
          have ty : CelsOK X.S g w cy (ys.drop (k + 1)) := by
            have e : ys.drop (k + 1) = (ys.drop k).drop 1 := by rw [List.drop_drop]
            rw [e]
            refine ⟨by have := hy.1; simp at this ⊢; omega, fun i c u h h' => hy.2 (i + 1) c u (by simpa using h) ?_⟩
            rw [List.getElem?_drop] at h'
            rwa [Nat.add_comm] at h'
          have ih := eqFields_run d xs ys w fs ts (k + 1) cx cy b2 h4 tx ty hr
          have p1 := run_part (P := P) h3 (cs := xs.toArray) (off := k) (by simpa using gx) w
          have p2 := run_part (P := P) h3 (cs := ys.toArray) (off := k) (by simpa using gy) w
          have p3 := eqV_run (P := P) (d := d) h3 hv w
          simp only [Op.eqFields, h1, ne_eq, h2, not_false_eq_true, if_true, Sem.run_bind, p1, p2, p3, Result.andThen_ok]
          subst he
          cases b1
          · simp
          · simpa using ih
  | [], _ :: _, _, _, _, _, h, _, _, _ => by simp [flatF] at h
  | _ :: _, [], _, _, _, _, h, _, _, _ => by simp [flatF] at h
theorem do_eqs {t yt : TypeId} {op : BinOp} {neg : Bool} {ts : List Nat} {x y : Operand} {x' y' : Opd} (h : Sim X n g st [] a w) (ho : o.op = .binOp op t x y yt) (hop : op = bif neg then .neq else .eql) (ht : P.underlying t = some (.struct (P.fieldsOf t))) (hs : P.stoodInHeld t = false) (hm : P.eqGuardType P.depth t = false)
    (hf : flatF P 0 (P.fieldsOf t).toList ts = true) (hx : opdOk x x' = true) (hy : opdOk y y' = true) (hd : ∀ k, o.dst = some k → k < n) (id : Nat)
    (hp : runP Te ((COp.eqs neg ts x' y').prg o.dst id) st (fun _ st' => K st')) : o.wp P a w (Goal X n K) Q := by
  replace hp := ev_ok h hx hp
  obtain ⟨v, hv, hp⟩ := hp
  replace hp := ev_ok h hy hp
  obtain ⟨v1, hv1, hp⟩ := hp
  split at hp
  · rename_i xs ys
    cases he : eqL ts xs ys with
    | none => simp [runP, he] at hp
    | some b =>
      simp only [runP, he, Option.map_some] at hp
      simp only [SlotOK] at hv hv1
      obtain ⟨us, e1, c1⟩ := hv
      obtain ⟨vs, e2, c2⟩ := hv1
      have hr := eqFields_run (P := P) (X := X) (g := g) 9998 us vs w _ ts 0 xs ys b hf (by simpa using c1) (by simpa using c2) he
      have hq : (Op.equalIn 10000 t (.agg us.toArray) (.agg vs.toArray)).run P w = .ok b w := by
        show (Op.equalIn (9999 + 1) t (.agg us.toArray) (.agg vs.toArray)).run P w = _
        rw [run_equalIn_agg (P := P) w 9999 t _ _ ht hs]
        exact hr
      refine step_value (v := .bool (b != neg)) (w' := w) ?_ (fin_ok h hd (slot_pv _ _ _ rfl) hp)
      simp only [execOp, ho, e1, e2, Sem.run_bind, run_eqGuard_agg (P := P) w op t x y _ _ hm, Result.andThen_ok]
      subst hop
      cases neg
      · simp only [cond_false, run_eql_struct, hq, Result.andThen_ok]; simp
      · simp only [cond_true, run_neq_struct, hq, Result.andThen_ok]; simp
  · exact hp.elim
end
end Go.X
