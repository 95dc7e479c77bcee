/- Operations that write nothing to memory, each held against the model. -/
import Derived.Test.YtihpdefnajimgaaXHand
import Derived.WalkKit
namespace Go.X

/-- A constant, and what stands for it. -/
def constC : Value → Cel → Bool
  | .int k n, .pv (.int k' n') => k == k' && n == n'
  | .bool b, .pv (.bool b') => b == b'
  | .string s, .pv (.string s') => s.data.toList == s'.data.toList
  | .slice none 0 0, .nils _ => true
  | _, _ => false
def constL : List Value → List Cel → Bool
  | [], [] => true
  | v :: vs, c :: cs => constC v c && constL vs cs
  | _, _ => false
def constS : Value → SV → Bool
  | .agg vs, .agg cs => constL vs.toList cs
  | v, .one c => constC v c
  | _, _ => false
def opdOk : Operand → Opd → Bool
  | .tmp t, .t t' => t == t'
  | .const v, .k s => constS v s
  | _, _ => false
theorem constC_ok {v : Value} {c : Cel} (h : constC v c = true) (S : Nat → Prop) (g : Gh) (w : World) : CelOK S g w c v := by
  unfold constC at h
  split at h
  · simp only [Bool.and_eq_true, beq_iff_eq] at h
    obtain ⟨rfl, rfl⟩ := h
    exact ⟨rfl, rfl⟩
  · simp only [beq_iff_eq] at h; subst h; exact ⟨rfl, rfl⟩
  · rename_i s s'
    have : s = s' := by
      have h := eq_of_beq h
      cases s; cases s'; simp at h; simp [h]
    subst this
    exact ⟨rfl, rfl⟩
  · exact rfl
  · cases h
theorem constL_ok : ∀ {vs : List Value} {cs : List Cel}, constL vs cs = true → ∀ (S : Nat → Prop) (g : Gh) (w : World), CelsOK S g w cs vs
  | [], [], _, S, g, w => ⟨rfl, fun k c u h => by simp at h⟩
  | v :: vs, c :: cs, h, S, g, w => by
    simp only [constL, Bool.and_eq_true] at h
    have := constL_ok h.2 S g w
    refine ⟨by simpa using this.1, fun k c' u h1 h2 => ?_⟩
    cases k with
    | zero => simp at h1 h2; subst h1; subst h2; exact constC_ok h.1 S g w
    | succ k => exact this.2 k c' u (by simpa using h1) (by simpa using h2)
  | [], _ :: _, h, _, _, _ => by simp [constL] at h
  | _ :: _, [], h, _, _, _ => by simp [constL] at h
theorem constS_ok {v : Value} {s : SV} (h : constS v s = true) (S : Nat → Prop) (g : Gh) (w : World) : SlotOK S g w s v := by
  unfold constS at h
  split at h
  · rename_i vs cs
    simp only [SlotOK]
    exact ⟨vs.toList, by simp, constL_ok h S g w⟩
  · simp only [SlotOK]; exact constC_ok h S g w
  · cases h

section
variable {P : Program} {X : Ctx} {n : Nat} {g : Gh} {st : St} {hand : List G} {a : Act} {w : World} {α : Type} {Te : Nat → List AV → Res → Prop}
abbrev Goal (X : Ctx) (n : Nat) (K : St → Prop) : Act → World → Prop := fun a w => ∃ g st, K st ∧ Sim X n g st [] a w
theorem ev_ok {x : Operand} {o : Opd} {k : SV → Prg α} {Q : α → St → Prop} (h : Sim X n g st hand a w) (ho : opdOk x o = true) (hp : runP Te (o.ev k) st Q) : ∃ v, SlotOK X.S g w v (a.eval x) ∧ runP Te (k v) st Q := by
  unfold opdOk at ho
  split at ho
  · rename_i t t'
    have := eq_of_beq ho
    subst this
    simp only [Opd.ev, runP] at hp
    cases hg : get st.s t with
    | none => rw [hg] at hp; exact ⟨.un, by simp [SlotOK], hp⟩
    | some v => rw [hg] at hp; exact ⟨v, h.slots t v hg, hp⟩
  · rename_i v s
    exact ⟨s, constS_ok ho _ _ _, hp⟩
  · cases ho
theorem fin_ok {d : Option Nat} {v : SV} {u : Value} {K : St → Prop} (h : Sim X n g st [] a w) (hd : ∀ k, d = some k → k < n) (hv : SlotOK X.S g w v u) (hp : runP Te (fin d v) st (fun _ st' => K st')) : Goal X n K (a.put d u) w := by
  cases d with
  | none => exact ⟨g, st, hp, h⟩
  | some k => exact ⟨g, _, hp, h.slot (hd k rfl) hv⟩
theorem step_value {o : Oper} {K : Act → World → Prop} {Q : Exit → Act → World → Prop} {v : Value} {w' : World} (hr : (execOp a.eval o).run P w = .ok (.value v) w') (h : K (a.put o.dst v) w') : o.wp P a w K Q := by
  unfold Oper.wp; rw [hr]; exact h
theorem step_skip {o : Oper} {K : Act → World → Prop} {Q : Exit → Act → World → Prop} {w' : World} (hr : (execOp a.eval o).run P w = .ok .skip w') (h : K (a.put o.dst undef) w') : o.wp P a w K Q := by
  unfold Oper.wp; rw [hr]; exact h

section ops
variable {o : Oper} {K : St → Prop} {Q : Exit → Act → World → Prop}
theorem do_mv {x : Operand} {y : Opd} (h : Sim X n g st [] a w) (ho : o.op = .move x ∨ o.op = .assign x) (hx : opdOk x y = true) (hd : ∀ k, o.dst = some k → k < n) (id : Nat)
    (hp : runP Te ((COp.mv y).prg o.dst id) st (fun _ st' => K st')) : o.wp P a w (Goal X n K) Q := by
  replace hp := ev_ok h hx hp
  obtain ⟨v, hv, hp⟩ := hp
  refine step_value (v := a.eval x) (w' := w) ?_ (fin_ok h hd hv hp)
  rcases ho with ho | ho <;> simp [execOp, ho]
theorem do_pick {x y z : Operand} {x' y' z' : Opd} (h : Sim X n g st [] a w) (ho : o.op = .pick x y z) (hx : opdOk x x' = true) (hy : opdOk y y' = true) (hz : opdOk z z' = true) (hd : ∀ k, o.dst = some k → k < n) (id : Nat)
    (hp : runP Te ((COp.pick x' y' z').prg o.dst id) st (fun _ st' => K st')) : o.wp P a w (Goal X n K) Q := by
  replace hp := ev_ok h hx hp
  obtain ⟨v, hv, hp⟩ := hp
  replace hp := ev_ok h hy hp
  obtain ⟨v1, hv1, hp⟩ := hp
  replace hp := ev_ok h hz hp
  obtain ⟨v2, hv2, hp⟩ := hp
  split at hp
  · rename_i b
    obtain ⟨hb, _⟩ : a.eval x = .bool b ∧ _ := by simpa [SlotOK, CelOK] using hv
    refine step_value (v := if b then a.eval y else a.eval z) (w' := w) ?_ (fin_ok h hd ?_ hp)
    · simp [execOp, ho, hb, asBool]
    · cases b <;> simpa
  · exact hp.elim
theorem do_nilc {x : Operand} {x' : Opd} (h : Sim X n g st [] a w) (ho : o.op = .nilCheck x) (hx : opdOk x x' = true) (hd : ∀ k, o.dst = some k → k < n) (id : Nat)
    (hp : runP Te ((COp.nilc x').prg o.dst id) st (fun _ st' => K st')) : o.wp P a w (Goal X n K) Q := by
  replace hp := ev_ok h hx hp
  obtain ⟨v, hv, hp⟩ := hp
  have key : ∀ ad, a.eval x = .pointer (some ad) → (execOp a.eval o).run P w = .ok (.value (a.eval x)) w := fun ad e => by simp [execOp, ho, e]
  split at hp
  · have hv' := hv
    simp only [SlotOK] at hv
    obtain ⟨A, _, e⟩ := hv
    exact step_value (key _ e) (fin_ok h hd hv' hp)
  · have hv' := hv
    simp only [SlotOK] at hv
    obtain ⟨⟨ad, e⟩, _⟩ := hv
    exact step_value (key _ e) (fin_ok h hd hv' hp)
  · have hv' := hv
    simp only [SlotOK] at hv
    obtain ⟨ad, e, _⟩ := hv
    exact step_value (key _ e) (fin_ok h hd hv' hp)
  · exact hp.elim
theorem run_binV {t : TypeId} {op : BinOp} {x y v : Value} (h : binV op x y = some v) (w : World) : (binOp op t x y).run P w = .ok v w := by
  unfold binV at h
  split at h
  · rename_i k i k' j
    cases op <;> simp only at h
    case shl => cases hj : decide (0 ≤ j) <;> simp [hj] at h; subst h; simp at hj; simp [binOp, Op.shift, show ¬ j < 0 by omega]
    case shr => cases hj : decide (0 ≤ j) <;> simp [hj] at h; subst h; simp at hj; simp [binOp, Op.shift, show ¬ j < 0 by omega]
    all_goals
      cases hk : (k == k') with
      | false => simp [hk] at h
      | true =>
        have := eq_of_beq hk
        subst this
        first
        | (simp at h; subst h; simp [binOp, Op.intArith, Op.intBits, Op.intCmp]; done)
        | (simp at h; subst h; simp [binOp, Op.intArith, Op.intBits, Op.intCmp]; rfl)
        | (cases hj : (j == 0) with
           | true => simp [hj] at h
           | false => simp [hj] at h; subst h; simp at hj; simp [binOp, Op.intDiv, hj])
  · rename_i s s'
    cases op <;> simp only at h <;> first
      | (cases h; done)
      | (simp at h; subst h; simp [binOp, Op.stringOp]; done)
      | (cases hl : decide (s.size + s'.size ≤ 4294967296) with
         | false => simp [hl] at h
         | true =>
           simp [hl] at h; subst h
           have hl := of_decide_eq_true hl
           have : ¬ (((s.size + s'.size : Nat) : Int) > IntKind.i64.max) := by
             have : IntKind.i64.max = 9223372036854775807 := by decide
             omega
           simp only [binOp, Op.stringOp, if_neg this]; rfl)
  · cases h
theorem slot_pv (S : Nat → Prop) (g : Gh) (w : World) {u : Value} (h : u.oneCell' = true) : SlotOK S g w (.one (.pv u)) u := by simp only [SlotOK, CelOK]; exact ⟨trivial, h⟩
theorem one_pv {S : Nat → Prop} {g : Gh} {w : World} {u v : Value} (h : SlotOK S g w (.one (.pv u)) v) : v = u := by simp only [SlotOK, CelOK] at h; exact h.1
theorem eqGuard_run {op : BinOp} {t : TypeId} {x y : Operand} {u v : Value} (w : World) (h2 : u ≠ .nilIface) (h3 : ∀ c, u ≠ .agg c) : (eqGuard op t x y u v).run P w = .ok () w := by
  cases u <;> (first | exact absurd rfl h2 | exact absurd rfl (h3 _) | (cases op <;> rfl))
theorem binV_one {op : BinOp} {x y v : Value} (h : binV op x y = some v) : v.oneCell' = true ∧ x ≠ .nilIface ∧ ∀ c, x ≠ .agg c := by
  unfold binV at h
  split at h
  · rename_i k i k' j
    refine ⟨?_, by simp, by simp⟩
    cases op <;> simp only at h
    case shl => cases hj : decide (0 ≤ j) <;> simp [hj] at h; subst h; rfl
    case shr => cases hj : decide (0 ≤ j) <;> simp [hj] at h; subst h; rfl
    all_goals
      cases hk : (k == k') with
      | false => simp [hk] at h
      | true =>
        simp only [hk, Bool.true_and, cond_true] at h
        first
        | (simp at h; subst h; rfl)
        | (cases hj : (j == 0) with
           | true => simp [hj] at h
           | false => simp [hj] at h; subst h; rfl)
  · rename_i s s'
    refine ⟨?_, by simp, by simp⟩
    cases op <;> simp only at h <;> first
      | (cases h; done)
      | (simp at h; subst h; rfl)
      | (cases hl : decide (s.size + s'.size ≤ 4294967296) with
         | false => simp [hl] at h
         | true => simp [hl] at h; subst h; rfl)
  · cases h
theorem do_bin {t yt : TypeId} {op : BinOp} {x y : Operand} {x' y' : Opd} (h : Sim X n g st [] a w) (ho : o.op = .binOp op t x y yt) (hx : opdOk x x' = true) (hy : opdOk y y' = true) (hd : ∀ k, o.dst = some k → k < n) (id : Nat)
    (hp : runP Te ((COp.bin op x' y').prg o.dst id) st (fun _ st' => K st')) : o.wp P a w (Goal X n K) Q := by
  replace hp := ev_ok h hx hp
  obtain ⟨v, hv, hp⟩ := hp
  replace hp := ev_ok h hy hp
  obtain ⟨v1, hv1, hp⟩ := hp
  split at hp
  · rename_i u1 u2
    have e1 := one_pv hv
    have e2 := one_pv hv1
    cases hb : binV op u1 u2 with
    | none => simp [runP, hb] at hp
    | some u =>
      simp only [runP, hb] at hp
      have hr := run_binV (P := P) (t := t) hb w
      obtain ⟨b1, b2, b3⟩ := binV_one hb
      refine step_value (v := u) (w' := w) ?_ (fin_ok h hd ?_ hp)
      · simp only [execOp, ho, e1, e2, Sem.run_bind, eqGuard_run w b2 b3, Result.andThen_ok, hr]
        rfl
      · simp only [SlotOK, CelOK]
        exact ⟨trivial, b1⟩
  · exact hp.elim
theorem run_equal_bool {t : TypeId} (ht : P.underlying t = some .bool) (x y : Bool) (w : World) : (Op.equal t (.bool x) (.bool y)).run P w = .ok (x == y) w := by
  show (Op.equalIn (9999 + 1) t (.bool x) (.bool y)).run P w = _
  rw [Op.equalIn]
  simp [run_underlying ht]
theorem run_binOp_bool {t : TypeId} (ht : P.underlying t = some .bool) (neg x y : Bool) (w : World) : (binOp (bif neg then .neq else .eql) t (.bool x) (.bool y)).run P w = .ok (.bool ((x == y) != neg)) w := by
  cases neg
  · show (do pure (Value.bool (← Op.equal t (.bool x) (.bool y)))).run P w = _
    simp [run_equal_bool ht]
  · show (do pure (Value.bool (!(← Op.equal t (.bool x) (.bool y))))).run P w = _
    simp [run_equal_bool ht]
theorem do_beq {t yt : TypeId} {op : BinOp} {neg : Bool} {x y : Operand} {x' y' : Opd} (h : Sim X n g st [] a w) (ho : o.op = .binOp op t x y yt) (hop : op = bif neg then .neq else .eql) (ht : P.underlying t = some .bool) (hx : opdOk x x' = true) (hy : opdOk y y' = true) (hd : ∀ k, o.dst = some k → k < n) (id : Nat)
    (hp : runP Te ((COp.beq neg x' y').prg o.dst id) st (fun _ st' => K st')) : o.wp P a w (Goal X n K) Q := by
  replace hp := ev_ok h hx hp
  obtain ⟨v, hv, hp⟩ := hp
  replace hp := ev_ok h hy hp
  obtain ⟨v1, hv1, hp⟩ := hp
  split at hp
  · rename_i u1 u2
    have e1 := one_pv hv
    have e2 := one_pv hv1
    refine step_value (v := .bool ((u1 == u2) != neg)) (w' := w) ?_ (fin_ok h hd ?_ hp)
    · simp only [execOp, ho, e1, e2, Sem.run_bind, eqGuard_run (P := P) (op := op) (t := t) (x := x) (y := y) (u := .bool u1) (v := .bool u2) w (by simp) (by simp), Result.andThen_ok]
      subst hop
      rw [run_binOp_bool ht]
      simp
    · simp only [SlotOK, CelOK]
      exact ⟨trivial, rfl⟩
  · exact hp.elim
theorem do_not {t : TypeId} {x : Operand} {x' : Opd} (h : Sim X n g st [] a w) (ho : o.op = .unOp .not t x) (hx : opdOk x x' = true) (hd : ∀ k, o.dst = some k → k < n) (id : Nat)
    (hp : runP Te ((COp.not x').prg o.dst id) st (fun _ st' => K st')) : o.wp P a w (Goal X n K) Q := by
  replace hp := ev_ok h hx hp
  obtain ⟨v, hv, hp⟩ := hp
  split at hp
  · rename_i b
    have e1 := one_pv hv
    refine step_value (v := .bool (!b)) (w' := w) ?_ (fin_ok h hd ?_ hp)
    · simp [execOp, ho, e1, Op.unary]
    · simp only [SlotOK, CelOK]
      exact ⟨trivial, rfl⟩
  · exact hp.elim
theorem do_convInt {src dst : TypeId} {k : IntKind} {x : Operand} {x' : Opd} {d0 : TypeDesc} (h : Sim X n g st [] a w) (ho : o.op = .convert src dst x) (hs : P.underlying src = some d0) (ht : P.underlying dst = some (.int k)) (hx : opdOk x x' = true) (hd : ∀ k, o.dst = some k → k < n) (id : Nat)
    (hp : runP Te ((COp.conv (.int k) x').prg o.dst id) st (fun _ st' => K st')) : o.wp P a w (Goal X n K) Q := by
  replace hp := ev_ok h hx hp
  obtain ⟨v, hv, hp⟩ := hp
  simp only at hp
  split at hp
  · rename_i k0 m
    have e1 := one_pv hv
    refine step_value (v := .int k (k.wrap m)) (w' := w) ?_ (fin_ok h hd ?_ hp)
    · simp [execOp, ho, e1, convert, run_underlying hs, run_underlying ht, Conv.intToInt]
    · simp only [SlotOK, CelOK]
      exact ⟨trivial, rfl⟩
  · exact hp.elim
theorem do_min {c : Call} {x y : Operand} {x' y' : Opd} (h : Sim X n g st [] a w) (ho : o.op = .call c) (hc : c.callee = .builtin .min) (ha : c.args = #[x, y]) (hx : opdOk x x' = true) (hy : opdOk y y' = true) (hd : ∀ k, o.dst = some k → k < n) (id : Nat)
    (hp : runP Te ((COp.min x' y').prg o.dst id) st (fun _ st' => K st')) : o.wp P a w (Goal X n K) Q := by
  replace hp := ev_ok h hx hp
  obtain ⟨v, hv, hp⟩ := hp
  replace hp := ev_ok h hy hp
  obtain ⟨v1, hv1, hp⟩ := hp
  split at hp
  · rename_i k i k' j
    have e1 := one_pv hv
    have e2 := one_pv hv1
    refine step_value (v := .int k (bif decide (j < i) then j else i)) (w' := w) ?_ (fin_ok h hd ?_ hp)
    · simp [execOp, ho, resolve, hc, ha, invoke, builtin, e1, e2, Builtin.min_, Builtin.min2]
    · simp only [SlotOK, CelOK]
      exact ⟨trivial, rfl⟩
  · exact hp.elim
theorem do_max {c : Call} {x y : Operand} {x' y' : Opd} (h : Sim X n g st [] a w) (ho : o.op = .call c) (hc : c.callee = .builtin .max) (ha : c.args = #[x, y]) (hx : opdOk x x' = true) (hy : opdOk y y' = true) (hd : ∀ k, o.dst = some k → k < n) (id : Nat)
    (hp : runP Te ((COp.max x' y').prg o.dst id) st (fun _ st' => K st')) : o.wp P a w (Goal X n K) Q := by
  replace hp := ev_ok h hx hp
  obtain ⟨v, hv, hp⟩ := hp
  replace hp := ev_ok h hy hp
  obtain ⟨v1, hv1, hp⟩ := hp
  split at hp
  · rename_i s s'
    have e1 := one_pv hv
    have e2 := one_pv hv1
    refine step_value (v := .string (bif !(Op.bytesLess s.toList s'.toList) then s else s')) (w' := w) ?_ (fin_ok h hd ?_ hp)
    · simp [execOp, ho, resolve, hc, ha, invoke, builtin, e1, e2, Builtin.max_, Builtin.max2, Op.stringOp, asBool]
      cases Op.bytesLess s.toList s'.toList <;> simp
    · simp only [SlotOK, CelOK]
      exact ⟨trivial, rfl⟩
  · exact hp.elim
theorem rf_len {hv v : Value} {z off len : Nat} (h : RfOK hv z off len v) : ∃ A c, v = .slice A len c := by
  obtain ⟨_, _, _, _, _, rfl, _⟩ := h
  exact ⟨_, _, rfl⟩
theorem do_slen {c : Call} {t : TypeId} {x : Operand} {x' : Opd} (h : Sim X n g st [] a w) (ho : o.op = .call c) (hc : c.callee = .builtin .len) (ha : c.args = #[x]) (ht : c.argTypes = #[t]) (hu : P.underlying t = some .string) (hx : opdOk x x' = true) (hd : ∀ k, o.dst = some k → k < n) (id : Nat)
    (hp : runP Te ((COp.slen x').prg o.dst id) st (fun _ st' => K st')) : o.wp P a w (Goal X n K) Q := by
  replace hp := ev_ok h hx hp
  obtain ⟨v, hv, hp⟩ := hp
  split at hp
  · rename_i s
    have e := one_pv hv
    refine step_value (v := .int .i64 s.size) (w' := w) ?_ (fin_ok h hd ?_ hp)
    · simp [execOp, ho, resolve, hc, ha, ht, invoke, builtin, e, Builtin.len_, run_underlying hu, goInt]
    · simp only [SlotOK, CelOK]
      exact ⟨trivial, rfl⟩
  · exact hp.elim
theorem do_len {c : Call} {t e : TypeId} {x : Operand} {x' : Opd} (h : Sim X n g st [] a w) (ho : o.op = .call c) (hc : c.callee = .builtin .len) (ha : c.args = #[x]) (ht : c.argTypes = #[t]) (hu : P.underlying t = some (.slice e)) (hx : opdOk x x' = true) (hd : ∀ k, o.dst = some k → k < n) (id : Nat)
    (hp : runP Te ((COp.len x').prg o.dst id) st (fun _ st' => K st')) : o.wp P a w (Goal X n K) Q := by
  replace hp := ev_ok h hx hp
  obtain ⟨v, hv, hp⟩ := hp
  have key : ∀ (m : Nat) A cap, a.eval x = .slice A m cap → (execOp a.eval o).run P w = .ok (.value (.int .i64 m)) w := by
    intro m A cap e
    simp [execOp, ho, resolve, hc, ha, ht, invoke, builtin, e, Builtin.len_, run_underlying hu, goInt]
  split at hp
  · simp only [SlotOK, CelOK] at hv
    exact step_value (key 0 _ _ hv) (fin_ok h hd (slot_pv _ _ _ rfl) hp)
  · rename_i z rs
    simp only [SlotOK, CelOK] at hv
    cases hv' : a.eval x <;> rw [hv'] at hv <;> cases hv
    exact step_value (key _ _ _ hv') (fin_ok h hd (slot_pv _ _ _ rfl) hp)
  · rename_i r c0 p z off len
    simp only [SlotOK] at hv
    obtain ⟨⟨A, cap, e⟩, _⟩ := hv
    exact step_value (key _ _ _ e) (fin_ok h hd (slot_pv _ _ _ rfl) hp)
  · exact hp.elim
end ops
end
end Go.X
