/- What a function tells, and how it is entered. -/
import Derived.Test.YtihpdefnajimgaaXOps7
namespace Go.X

inductive GA where
  | one (t : G)
  | agg (ts : List G)
  | ptr (A : Addr) (ts : List G)
def GA.er : GA → AV
  | .one t => .one (X.er t)
  | .agg ts => .agg (ts.map X.er)
  | .ptr _ ts => .ptr (ts.map X.er)
def GA.val : GA → Value
  | .one t => hdr t
  | .agg ts => .agg (ts.map hdr).toArray
  | .ptr A _ => .pointer (some ⟨A.block, A.off, none⟩)
def GA.ts : GA → List G
  | .one t => [t]
  | .agg ts => ts
  | .ptr _ ts => ts
def GA.pb (b : Nat) : GA → Nat
  | .ptr A _ => if A.block = b then 1 else 0
  | _ => 0
def treeCnt (b : Nat) (gs : List GA) : Nat := cntL b (gs.flatMap GA.ts)
def ptrCnt (b : Nat) : List GA → Nat
  | [] => 0
  | x :: xs => x.pb b + ptrCnt b xs
def GA.ok (S : Nat → Prop) (w : World) (x : GA) : Prop := (∀ t ∈ x.ts, Rp S w t) ∧ ∀ A ts, x = .ptr A ts → A.block < w.heap.size ∧ InMem w A (ts.map hdr)
def resVal : List GA → Value
  | [x] => x.val
  | xs => .tuple (xs.map GA.val).toArray
def OutsOK (w : World) : List GA → List (List G) → Prop
  | [], [] => True
  | .one t :: xs, o :: os => o.map hdr = [hdr t] ∧ OutsOK w xs os
  | .agg ts :: xs, o :: os => o.map hdr = ts.map hdr ∧ OutsOK w xs os
  | .ptr A ts :: xs, o :: os => o.length = ts.length ∧ InMem w A (o.map hdr) ∧ OutsOK w xs os
  | _, _ => False
structure FrameOf (w : World) (gs : List GA) (w' : World) : Prop where
  os : w'.os = w.os
  tape : w'.tape = w.tape
  output : w'.output = w.output
  size : w.heap.size ≤ w'.heap.size
  block : ∀ b, b < w.heap.size → treeCnt b gs + ptrCnt b gs = 0 → w'.heap[b]? = w.heap[b]?
  range : ∀ A ts, GA.ptr A ts ∈ gs → ∀ o, ¬ (A.off ≤ o ∧ o < A.off + ts.length) → w'.cell? ⟨A.block, o, none⟩ = w.cell? ⟨A.block, o, none⟩ ∧ w'.frozen? ⟨A.block, o, none⟩ = w.frozen? ⟨A.block, o, none⟩
/-- The function, called with what reads so, comes back and hands back what reads so. -/
def Tells (P : Program) (f : Nat) (as : List AV) (r : Res) : Prop :=
  ∀ (S : Nat → Prop) (gs : List GA) (w : World), gs.map GA.er = as → (∀ b, S b → b < w.heap.size) → (∀ x ∈ gs, x.ok S w) → (∀ b, treeCnt b gs + ptrCnt b gs ≤ 1) → (∀ b, 0 < treeCnt b gs + ptrCnt b gs → ¬ S b) →
    Calls P f (gs.map GA.val).toArray w fun e w' => ∃ (rs : List GA) (os : List (List G)), e = .returned (resVal rs) ∧ rs.map GA.er = r.res ∧ os.map (·.map X.er) = r.outs ∧ (∀ x ∈ rs, x.ok S w') ∧ (∀ o ∈ os, ∀ t ∈ o, Rp S w' t) ∧ OutsOK w' gs os ∧
      (∀ b, treeCnt b rs + ptrCnt b rs + cntL b os.flatten + ptrCnt b gs ≤ 1) ∧ (∀ b, 0 < treeCnt b rs + ptrCnt b rs + cntL b os.flatten → w.heap.size ≤ b ∨ 0 < treeCnt b gs) ∧ FrameOf w gs w' ∧ ∀ A ts, GA.ptr A ts ∈ rs → w.heap.size ≤ A.block

/-! ### The state at the beginning -/
def slotOf (i : Nat) : AV → SV
  | .one t => .one (celOf i 0 [] t)
  | .agg ts => .agg (plant i 0 ts)
  | .ptr _ => .bp i 0
def enterS : Nat → List AV → List (Nat × SV)
  | _, [] => []
  | i, x :: xs => (i, slotOf i x) :: enterS (i + 1) xs
def enterB : Nat → List AV → List (Nat × List Cel)
  | _, [] => []
  | i, .ptr ts :: xs => (i, plant i 0 ts) :: enterB (i + 1) xs
  | i, _ :: xs => enterB (i + 1) xs
def enterR : Nat → List AV → List (Nat × List T)
  | _, [] => []
  | i, x :: xs => (i, x.ts) :: enterR (i + 1) xs
def enterSt (as : List AV) : St := ⟨enterS 0 as, enterB 0 as, enterR 0 as⟩
def GA.addr : GA → Option Addr
  | .ptr A _ => some ⟨A.block, A.off, none⟩
  | _ => none
def enterG (gs : List GA) : Gh := ⟨fun k => (gs[k]?).bind GA.addr, fun k => (gs[k]?).map GA.ts⟩
theorem get_enterS : ∀ (as : List AV) (i k : Nat), get (enterS i as) k = if i ≤ k then (as[k - i]?).map (slotOf k) else none
  | [], i, k => by simp [enterS, get]
  | x :: xs, i, k => by
    simp only [enterS, get, get_enterS xs (i + 1) k]
    by_cases e : i = k
    · subst e; simp
    · rw [beq_eq_false_iff_ne.2 e]
      simp only [cond_false]
      by_cases h : i ≤ k
      · rw [if_pos (by omega), if_pos h, show k - i = (k - (i + 1)) + 1 by omega]; rfl
      · rw [if_neg (by omega), if_neg h]
theorem get_enterR : ∀ (as : List AV) (i k : Nat), get (enterR i as) k = if i ≤ k then (as[k - i]?).map AV.ts else none
  | [], i, k => by simp [enterR, get]
  | x :: xs, i, k => by
    simp only [enterR, get, get_enterR xs (i + 1) k]
    by_cases e : i = k
    · subst e; simp
    · rw [beq_eq_false_iff_ne.2 e]
      simp only [cond_false]
      by_cases h : i ≤ k
      · rw [if_pos (by omega), if_pos h, show k - i = (k - (i + 1)) + 1 by omega]; rfl
      · rw [if_neg (by omega), if_neg h]
def boxOf (k : Nat) : AV → Option (List Cel)
  | .ptr ts => some (plant k 0 ts)
  | _ => none
theorem get_enterB : ∀ (as : List AV) (i k : Nat), get (enterB i as) k = if i ≤ k then (as[k - i]?).bind (boxOf k) else none
  | [], i, k => by simp [enterB, get]
  | x :: xs, i, k => by
    have ih := get_enterB xs (i + 1) k
    by_cases e : i = k
    · subst e
      cases x with
      | ptr ts => simp [enterB, get, boxOf]
      | _ => simp [enterB, ih, boxOf]; omega
    · have h2 : get (enterB i (x :: xs)) k = get (enterB (i + 1) xs) k := by
        cases x with
        | ptr ts => simp [enterB, get, beq_eq_false_iff_ne.2 e]
        | _ => simp [enterB]
      rw [h2, ih]
      by_cases h : i ≤ k
      · rw [if_pos (by omega), if_pos h, show k - i = (k - (i + 1)) + 1 by omega]; rfl
      · rw [if_neg (by omega), if_neg h]
theorem GA.er_ts (x : GA) : x.er.ts = x.ts.map X.er := by cases x <;> rfl
theorem plant_ok {S : Nat → Prop} {g : Gh} {w : World} {r : Nat} {gs : List G} (hg : g.gr r = some gs) (hR : ∀ t ∈ gs, Rp S w t) : ∀ (ts : List G) (k : Nat), (∀ (l : Nat) (t : G), ts[l]? = some t → gs[k + l]? = some t) → CelsOK S g w (plant r k (ts.map X.er)) (ts.map hdr)
  | [], k, _ => ⟨rfl, fun i c u h => by simp [plant] at h⟩
  | t :: ts, k, h => by
    have h0 : gs[k]? = some t := h 0 t rfl
    have ih := plant_ok hg hR ts (k + 1) (fun l t' ht' => by have := h (l + 1) t' (by simpa using ht'); rwa [show k + (l + 1) = k + 1 + l by omega] at this)
    have h1 : CelOK S g w (celOf r k [] (X.er t)) (hdr t) := by
      cases hR t (List.mem_of_getElem? h0) with
      | pv h1 => exact ⟨rfl, h1⟩
      | no h1 => exact h1
      | ro h1 => simpa only [X.er, celOf, CelOK, hdr] using h1
      | @nil z =>
        simp only [X.er, celOf, CelOK, hdr, erLL]
        refine ⟨⟨_, _, rfl⟩, by rw [hg]; simp, fun m h1 _ => ?_⟩
        have : m = .sl true z (.slice none 0 0) [] := by simp [nodeAt, hg, h0, atP] at h1; exact h1.symm
        rw [this]
        exact ⟨none, 0, 0, none, rfl, rfl, Nat.le_refl _, fun _ => rfl, fun h => by omega⟩
      | @own z q cap e cur fz rows h1 h2 h3 h4 h5 h6 h7 h8 =>
        simp only [X.er, celOf, CelOK, hdr, erLL_eq, List.length_map]
        refine ⟨⟨_, _, rfl⟩, by rw [hg]; simp, fun m h9 _ => ?_⟩
        have : m = .sl true z (.slice (some ⟨q, 0, none⟩) rows.length cap) rows := by simp [nodeAt, hg, h0, atP] at h9; exact h9.symm
        rw [this]
        exact ⟨some ⟨q, 0, none⟩, rows.length, cap, some ⟨q, 0, none⟩, rfl, rfl, by omega, fun _ => rfl, fun _ => ⟨q, rfl, by simp⟩⟩
    have h2 : CelsOK S g w [celOf r k [] (X.er t)] [hdr t] := ⟨rfl, fun l c' u hc hu => by
      cases l with
      | zero => simp at hc hu; subst hc; subst hu; exact h1
      | succ l => simp at hc⟩
    simpa [plant] using h2.append ih
theorem plant_length (r : Nat) : ∀ (ts : List T) (k : Nat), (plant r k ts).length = ts.length
  | [], _ => rfl
  | t :: ts, k => by simp [plant, plant_length r ts (k + 1)]
def rangesOf : List GA → List (Nat × Nat × Nat)
  | [] => []
  | .ptr A ts :: xs => (A.block, A.off, ts.length) :: rangesOf xs
  | _ :: xs => rangesOf xs
theorem mem_ranges {gs : List GA} {x : Nat × Nat × Nat} (h : x ∈ rangesOf gs) : ∃ A ts, GA.ptr A ts ∈ gs ∧ x = (A.block, A.off, ts.length) := by
  induction gs with
  | nil => simp [rangesOf] at h
  | cons y gs ih =>
    cases y with
    | ptr A ts =>
      simp only [rangesOf, List.mem_cons] at h
      rcases h with rfl | h
      · exact ⟨A, ts, List.mem_cons_self .., rfl⟩
      · obtain ⟨A', ts', h1, h2⟩ := ih h
        exact ⟨A', ts', List.mem_cons_of_mem _ h1, h2⟩
    | _ =>
      obtain ⟨A', ts', h1, h2⟩ := ih h
      exact ⟨A', ts', List.mem_cons_of_mem _ h1, h2⟩
theorem ranges_mem {gs : List GA} {A : Addr} {ts : List G} (h : GA.ptr A ts ∈ gs) : (A.block, A.off, ts.length) ∈ rangesOf gs := by
  induction gs with
  | nil => cases h
  | cons y gs ih =>
    rcases List.mem_cons.1 h with rfl | h'
    · simp [rangesOf]
    · have := ih h'
      cases y <;> simp [rangesOf, this]
theorem ptrCnt_mem {gs : List GA} {A : Addr} {ts : List G} (h : GA.ptr A ts ∈ gs) : 1 ≤ ptrCnt A.block gs := by
  induction gs with
  | nil => cases h
  | cons y gs ih =>
    simp only [ptrCnt]
    rcases List.mem_cons.1 h with rfl | h
    · simp [GA.pb]
    · have := ih h; omega
theorem ptrCnt_two {gs : List GA} {x y : Nat × Nat × Nat} (hx : x ∈ rangesOf gs) (hy : y ∈ rangesOf gs) (e : x.1 = y.1) (h1 : ptrCnt x.1 gs ≤ 1) : x = y := by
  induction gs with
  | nil => simp [rangesOf] at hx
  | cons z gs ih =>
    cases z with
    | ptr A ts =>
      simp only [rangesOf, List.mem_cons] at hx hy
      simp only [ptrCnt, GA.pb] at h1
      rcases hx with rfl | hx <;> rcases hy with rfl | hy
      · rfl
      · obtain ⟨B, us, h2, h3⟩ := mem_ranges hy
        have := ptrCnt_mem h2
        rw [h3] at e
        simp at e h1
        rw [← e] at this
        omega
      · obtain ⟨B, us, h2, h3⟩ := mem_ranges hx
        have := ptrCnt_mem h2
        rw [h3] at e h1
        simp at e
        simp only [← e, if_true] at h1
        omega
      · exact ih hx hy (by omega)
    | _ =>
      simp only [rangesOf] at hx hy
      simp only [ptrCnt, GA.pb] at h1
      exact ih hx hy (by omega)
/-- What a call is made in. -/
def ctxOf (S : Nat → Prop) (gs : List GA) (w : World) (hS : ∀ b, S b → b < w.heap.size) (hok : ∀ x ∈ gs, x.ok S w) (h1 : ∀ b, treeCnt b gs + ptrCnt b gs ≤ 1) (h2 : ∀ b, 0 < treeCnt b gs + ptrCnt b gs → ¬ S b) : Ctx where
  w0 := w
  S := S
  F := fun b => 0 < treeCnt b gs
  R := rangesOf gs
  stay := fun b hb => ⟨hS b hb, fun h => h2 b (by omega) hb, fun x hx e => by
    obtain ⟨A, ts, h, rfl⟩ := mem_ranges hx
    have := ptrCnt_mem h
    simp at e
    rw [e] at this
    exact h2 b (by omega) hb⟩
  apart := fun x hx => by
    obtain ⟨A, ts, h, rfl⟩ := mem_ranges hx
    have h3 := ptrCnt_mem h
    have := h1 A.block
    exact ⟨by simp only; omega, ((hok _ h).2 A ts rfl).1⟩
  uniq := fun x hx y hy e => ptrCnt_two hx hy e (by have := h1 x.1; omega)
  H := fun k => (gs[k]?).map fun x => x.ts.map hdr
  isP := fun k => decide (k < gs.length)
  PA := fun k => (gs[k]?).bind GA.addr
theorem cntL_flatMap_get (b : Nat) : ∀ (gs : List GA) (k : Nat), cntL b (((gs[k]?).map GA.ts).getD []) + ptrCnt b (gs.take 0) ≤ treeCnt b gs
  | [], k => by simp [treeCnt, cntL, ptrCnt]
  | x :: xs, 0 => by simp [treeCnt, cntL_append, ptrCnt]
  | x :: xs, k + 1 => by
    have := cntL_flatMap_get b xs k
    simp only [treeCnt, List.flatMap_cons, cntL_append, List.getElem?_cons_succ, List.take_zero] at this ⊢
    omega
theorem tot_enter (b : Nat) : ∀ (gs : List GA), tot ((enterG gs).has b) gs.length = treeCnt b gs + ptrCnt b gs := by
  have key : ∀ (gs : List GA) (m : Nat), m ≤ gs.length → tot ((enterG gs).has b) m = treeCnt b (gs.take m) + ptrCnt b (gs.take m) := by
    intro gs m
    induction m with
    | zero => intro _; simp [tot, treeCnt, cntL, ptrCnt]
    | succ m ih =>
      intro hm
      have hk : gs[m]? = some gs[m] := List.getElem?_eq_getElem (by omega)
      have e : gs.take (m + 1) = gs.take m ++ [gs[m]] := by rw [List.take_succ_eq_append_getElem (by omega)]
      have pa : ∀ xs ys : List GA, ptrCnt b (xs ++ ys) = ptrCnt b xs + ptrCnt b ys := fun xs ys => by
        induction xs with
        | nil => simp [ptrCnt]
        | cons x xs ih => simp only [List.cons_append, ptrCnt, ih]; omega
      have hm1 : (enterG gs).has b m = cntL b gs[m].ts + gs[m].pb b := by
        simp only [Gh.has, enterG, hk, Option.bind_some, Option.map_some, rcnt]
        cases gs[m] <;> simp [GA.addr, bcnt, GA.pb] <;> omega
      show tot ((enterG gs).has b) m + (enterG gs).has b m = _
      rw [ih (by omega), hm1, e, pa]
      simp only [treeCnt, List.flatMap_append, cntL_append, List.flatMap_cons, List.flatMap_nil, List.append_nil, ptrCnt]
      omega
  intro gs
  have := key gs gs.length (Nat.le_refl _)
  rwa [List.take_length] at this
theorem enter_ok {S : Nat → Prop} {gs : List GA} {w : World} {as : List AV} (ha : gs.map GA.er = as) (hS : ∀ b, S b → b < w.heap.size) (hok : ∀ x ∈ gs, x.ok S w) (h1 : ∀ b, treeCnt b gs + ptrCnt b gs ≤ 1) (h2 : ∀ b, 0 < treeCnt b gs + ptrCnt b gs → ¬ S b) {n : Nat} (hn : gs.length ≤ n) :
    Sim (ctxOf S gs w hS hok h1 h2) n (enterG gs) (enterSt as) [] { tmps := (gs.map GA.val).toArray ++ Array.replicate (n - (gs.map GA.val).toArray.size) undef, defers := [] } w := by
  subst ha
  have hreps : ∀ r ts, (enterG gs).gr r = some ts → ∀ t ∈ ts, Rp S w t := fun r ts hr t ht => by
    simp only [enterG, Option.map_eq_some_iff] at hr
    obtain ⟨x, hx, rfl⟩ := hr
    exact (hok x (List.mem_of_getElem? hx)).1 t ht
  have hpl : ∀ (k : Nat) (x : GA), gs[k]? = some x → CelsOK S (enterG gs) w (plant k 0 (x.ts.map X.er)) (x.ts.map hdr) := fun k x hx =>
    plant_ok (gs := x.ts) (by simp [enterG, hx]) (fun t ht => (hok x (List.mem_of_getElem? hx)).1 t ht) x.ts 0 (fun l t h => by simpa using h)
  refine { frame := ⟨rfl, rfl, rfl, Nat.le_refl _, fun _ _ _ _ => rfl, fun _ _ _ _ => ⟨rfl, rfl⟩⟩, defers := rfl, tmps := by simp; omega, slots := fun t v ht => ?_, boxes := fun b cs hb => ?_, nobox := fun b hb => ?_, roots := fun r ts hr => ?_, noroot := fun r hr => ?_, reps := hreps,
           held := fun t ht => (by cases ht), sole := ⟨gs.length, fun k hk => ?_, fun b => ?_⟩, pb := fun i A h => h, hold := fun i hs hi => ?_, mine := fun b k hb => ?_ }
  · simp only [enterSt, get_enterS, Nat.zero_le, if_true, Nat.sub_zero, List.getElem?_map, Option.map_map, Option.map_eq_some_iff] at ht
    obtain ⟨x, hx, rfl⟩ := ht
    have hlt := (List.getElem?_eq_some_iff.1 hx).1
    have hv : ((gs.map GA.val).toArray ++ Array.replicate (n - (gs.map GA.val).toArray.size) undef).getD t undef = x.val := by
      rw [Array.getD_eq_getD_getElem?, Array.getElem?_append_left (by simpa using hlt)]
      simp [hx]
    show SlotOK S _ _ _ _
    rw [hv]
    have := hpl t x hx
    cases x with
    | one t0 =>
      simp only [Function.comp, GA.er, slotOf, SlotOK, GA.val]
      exact this.2 0 _ _ rfl rfl
    | agg ts =>
      simp only [Function.comp, GA.er, slotOf, SlotOK, GA.val]
      exact ⟨_, rfl, this⟩
    | ptr A ts =>
      simp only [Function.comp, GA.er, slotOf, SlotOK, GA.val]
      exact ⟨⟨A.block, A.off, none⟩, by simp [enterG, hx, GA.addr], rfl⟩
  · simp only [enterSt, get_enterB, Nat.zero_le, if_true, Nat.sub_zero, List.getElem?_map] at hb
    cases hx : gs[b]? with
    | none => simp [hx] at hb
    | some x =>
      simp only [hx, Option.map_some, Option.bind_some] at hb
      cases x with
      | ptr A ts =>
        simp only [GA.er, boxOf, Option.some.injEq] at hb
        subst hb
        have hm := List.mem_of_getElem? hx
        obtain ⟨p1, p2⟩ := (hok _ hm).2 A ts rfl
        have := hpl b _ hx
        refine ⟨⟨A.block, A.off, none⟩, ts.map hdr, by simp [enterG, hx, GA.addr], p1, p2, this, .inr ⟨by simp [ctxOf, (List.getElem?_eq_some_iff.1 hx).1], _, ranges_mem hm, rfl, rfl, by simp [plant_length]⟩⟩
      | _ => simp [GA.er, boxOf] at hb
  · simp only [enterSt, get_enterB, Nat.zero_le, if_true, Nat.sub_zero, List.getElem?_map] at hb
    simp only [enterG]
    cases hx : gs[b]? with
    | none => rfl
    | some x => cases x <;> simp [hx, GA.er, boxOf] at hb <;> rfl
  · simp only [enterSt, get_enterR, Nat.zero_le, if_true, Nat.sub_zero, List.getElem?_map, Option.map_map, Option.map_eq_some_iff] at hr
    obtain ⟨x, hx, rfl⟩ := hr
    exact ⟨x.ts, by simp [enterG, hx], by simp [GA.er_ts]⟩
  · simp only [enterSt, get_enterR, Nat.zero_le, if_true, Nat.sub_zero, List.getElem?_map, Option.map_map, Option.map_eq_none_iff] at hr
    simp [enterG, hr]
  · simp [enterG, List.getElem?_eq_none hk]
  · rw [tot_enter]
    simpa [cntL] using h1 b
  · simp only [ctxOf, Option.map_eq_some_iff] at hi
    obtain ⟨x, hx, rfl⟩ := hi
    exact ⟨x.ts, by simp [enterG, hx], rfl⟩
  · have hk : rcnt b ((enterG gs).gr k) ≤ treeCnt b gs := by
      have := cntL_flatMap_get b gs k
      simp only [enterG]
      cases hx : gs[k]? with
      | none => simp [rcnt]
      | some x => simp only [hx, Option.map_some, Option.getD_some, List.take_zero, ptrCnt] at this; simpa [rcnt] using this
    simp only [cntL] at hb
    exact ⟨h2 b (by omega), .inr (by show 0 < treeCnt b gs; omega)⟩
end Go.X
