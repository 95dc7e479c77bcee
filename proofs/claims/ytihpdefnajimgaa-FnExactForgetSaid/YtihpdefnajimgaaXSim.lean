/- How the state of a call lies in memory. -/
import Derived.Test.YtihpdefnajimgaaXProg
namespace Go.X

structure Ctx where
  w0 : World
  S : Nat → Prop
  F : Nat → Prop
  R : List (Nat × Nat × Nat)
  stay : ∀ b, S b → b < w0.heap.size ∧ ¬ F b ∧ ∀ x ∈ R, x.1 ≠ b
  apart : ∀ x ∈ R, ¬ F x.1 ∧ x.1 < w0.heap.size
  uniq : ∀ x ∈ R, ∀ y ∈ R, x.1 = y.1 → x = y
  H : Nat → Option (List Value)
  isP : Nat → Bool
  PA : Nat → Option Addr
structure Gh where
  gb : Nat → Option Addr
  gr : Nat → Option (List G)
def bcnt (b : Nat) : Option Addr → Nat
  | some A => if A.block = b then 1 else 0
  | none => 0
def rcnt (b : Nat) : Option (List G) → Nat
  | some ts => cntL b ts
  | none => 0
def Gh.has (g : Gh) (b k : Nat) : Nat := bcnt b (g.gb k) + rcnt b (g.gr k)
def tot (f : Nat → Nat) : Nat → Nat
  | 0 => 0
  | n + 1 => tot f n + f n
theorem tot_congr {f f' : Nat → Nat} : ∀ {n : Nat}, (∀ k, k < n → f k = f' k) → tot f n = tot f' n
  | 0, _ => rfl
  | n + 1, h => by simp only [tot]; rw [tot_congr (fun k hk => h k (by omega)), h n (by omega)]
theorem tot_more {f : Nat → Nat} {N : Nat} : ∀ (M : Nat), N ≤ M → (∀ k, N ≤ k → f k = 0) → tot f M = tot f N
  | 0, h, _ => by have : N = 0 := by omega
                  subst this; rfl
  | M + 1, h, hz => by
    by_cases e : N = M + 1
    · subst e; rfl
    · simp only [tot]; rw [tot_more M (by omega) hz, hz M (by omega)]; rfl
theorem tot_upd {f f' : Nat → Nat} {k : Nat} : ∀ {n : Nat}, k < n → (∀ j, j ≠ k → f' j = f j) → tot f' n + f k = tot f n + f' k
  | 0, h, _ => by omega
  | n + 1, h, hj => by
    simp only [tot]
    by_cases e : k = n
    · subst e; rw [tot_congr (n := k) (f := f') (f' := f) (fun i hi => hj i (by omega))]; omega
    · have := tot_upd (n := n) (by omega) hj
      have := hj n (fun h => e h.symm)
      omega
theorem tot_le {f : Nat → Nat} {k : Nat} : ∀ {n : Nat}, k < n → f k ≤ tot f n
  | 0, h => by omega
  | n + 1, h => by
    simp only [tot]
    by_cases e : k = n
    · subst e; omega
    · have := tot_le (f := f) (k := k) (n := n) (by omega); omega
theorem tot_two {f : Nat → Nat} {j k : Nat} (hjk : j ≠ k) : ∀ {n : Nat}, j < n → k < n → f j + f k ≤ tot f n
  | 0, h, _ => by omega
  | n + 1, h, h' => by
    simp only [tot]
    by_cases e : k = n
    · subst e; have := tot_le (f := f) (k := j) (n := k) (by omega); omega
    · by_cases e' : j = n
      · subst e'; have := tot_le (f := f) (k := k) (n := j) (by omega); omega
      · have := tot_two (f := f) hjk (n := n) (by omega) (by omega); omega

/-- Every block is in one place alone. -/
def Sole (g : Gh) (hand : List G) : Prop := ∃ N, (∀ k, N ≤ k → g.gb k = none ∧ g.gr k = none) ∧ ∀ b, tot (g.has b) N + cntL b hand ≤ 1
theorem has_none {g : Gh} {k : Nat} (h : g.gb k = none ∧ g.gr k = none) (b : Nat) : g.has b k = 0 := by simp [Gh.has, h.1, h.2, bcnt, rcnt]
theorem Sole.one {g : Gh} {hand : List G} (h : Sole g hand) (b k : Nat) : g.has b k + cntL b hand ≤ 1 := by
  obtain ⟨N, h1, h2⟩ := h
  by_cases hk : k < N
  · have := tot_le (f := g.has b) hk; have := h2 b; omega
  · rw [has_none (h1 k (by omega))]; have := h2 b; omega
theorem Sole.two {g : Gh} {hand : List G} (h : Sole g hand) {j k : Nat} (hjk : j ≠ k) (b : Nat) : g.has b j + g.has b k + cntL b hand ≤ 1 := by
  have hj := h.one b j
  have hk := h.one b k
  obtain ⟨N, h1, h2⟩ := h
  by_cases e : j < N
  · by_cases e' : k < N
    · have := tot_two (f := g.has b) hjk e e'; have := h2 b; omega
    · rw [has_none (h1 k (by omega))]; omega
  · rw [has_none (h1 j (by omega))]; omega
/-- One name's blocks, and those at hand, turn. -/
theorem Sole.upd {g g' : Gh} {hand hand' : List G} (h : Sole g hand) (k : Nat) (hb : ∀ j, j ≠ k → g'.gb j = g.gb j) (hr : ∀ j, j ≠ k → g'.gr j = g.gr j)
    (hc : ∀ b, g'.has b k + cntL b hand' ≤ g.has b k + cntL b hand ∨ ((∀ j, g.has b j = 0) ∧ g'.has b k + cntL b hand' ≤ 1)) : Sole g' hand' := by
  obtain ⟨N, h1, h2⟩ := h
  refine ⟨max N (k + 1), fun j hj => ?_, fun b => ?_⟩
  · rw [hb j (by omega), hr j (by omega)]; exact h1 j (by omega)
  · have e : ∀ j, j ≠ k → g'.has b j = g.has b j := fun j hj => by simp [Gh.has, hb j hj, hr j hj]
    have a1 := tot_upd (n := max N (k + 1)) (f := g.has b) (f' := g'.has b) (k := k) (by omega) e
    have a2 := tot_more (f := g.has b) (N := N) (max N (k + 1)) (by omega) (fun j hj => has_none (h1 j hj) b)
    have a3 := h2 b
    rcases hc b with hc | ⟨hz, hc⟩
    · have := tot_le (f := g.has b) (k := k) (n := max N (k + 1)) (by omega); omega
    · have z : tot (g.has b) (max N (k + 1)) = tot (fun _ => 0) (max N (k + 1)) := tot_congr fun j _ => hz j
      have z0 : ∀ n, tot (fun _ => 0) n = 0 := fun n => by induction n <;> simp_all [tot]
      rw [z0] at z
      have := hz k
      omega

/-- A slice of a slice's rows. -/
def RfOK (h : Value) (z off len : Nat) (v : Value) : Prop :=
  ∃ hA hn hc a', h = .slice hA hn hc ∧ v = .slice a' len (hc - off) ∧ off + len ≤ hc ∧ (off = 0 → a' = hA) ∧ (off < hc → ∃ q, hA = some ⟨q, 0, none⟩ ∧ a' = some ⟨q, off * z, none⟩)
def nodeAt (g : Gh) (r c : Nat) (p : List (Nat × Nat)) : Option G := (g.gr r).bind fun ts => (ts[c]?).bind (atP · p)
/-- It is there, or it was handed on from there. -/
def Tr.held {τ : Type} : Tr τ → Bool
  | .sl o _ _ _ => o
  | .no _ => true
  | .pv _ => false
def CelOK (S : Nat → Prop) (g : Gh) (w : World) : Cel → Value → Prop
  | .pv u, v => v = u ∧ v.oneCell' = true
  | .nils _, v => v = .slice none 0 0
  | .ro z rows, v => Rd S w (.sl false z () rows) v
  | .rf r c p z off len, v => (∃ A cap, v = .slice A len cap) ∧ g.gr r ≠ none ∧ ∀ m, nodeAt g r c p = some m → m.held = true → RfOK (hdr m) z off len v
  | .dead, v => v.oneCell' = true
theorem CelOK.one {S : Nat → Prop} {g : Gh} {w : World} {c : Cel} {v : Value} (h : CelOK S g w c v) : v.oneCell' = true := by
  cases c with
  | pv u => exact h.2
  | nils z => obtain rfl := h; rfl
  | ro z rows => exact Rd.one h
  | rf => obtain ⟨⟨A, cap, rfl⟩, _⟩ := h; rfl
  | dead => exact h
def CelsOK (S : Nat → Prop) (g : Gh) (w : World) (cs : List Cel) (us : List Value) : Prop := cs.length = us.length ∧ ∀ (k : Nat) (c : Cel) (u : Value), cs[k]? = some c → us[k]? = some u → CelOK S g w c u
mutual
def SlotOK (S : Nat → Prop) (g : Gh) (w : World) : SV → Value → Prop
  | .un, _ => True
  | .one c, v => CelOK S g w c v
  | .agg cs, v => ∃ us : List Value, v = .agg us.toArray ∧ CelsOK S g w cs us
  | .tup vs, v => ∃ us : List Value, v = .tuple us.toArray ∧ SlotsOK S g w vs us
  | .bp b off, v => ∃ A, g.gb b = some A ∧ v = .pointer (some ⟨A.block, A.off + off, none⟩)
  | .ap r c p z i j, v => (∃ ad, v = .pointer (some ad)) ∧ g.gr r ≠ none ∧ ∀ m, nodeAt g r c p = some m → m.held = true → ∃ q hn hc, hdr m = .slice (some ⟨q, 0, none⟩) hn hc ∧ v = .pointer (some ⟨q, i * z + j, none⟩)
  | .rp ts, v => ∃ ad, v = .pointer (some ad) ∧ ∀ (j : Nat) (t : T), ts[j]? = some t → S ad.block ∧ ∃ u, w.cell? (ad.add j) = some u ∧ Rd S w t u
def SlotsOK (S : Nat → Prop) (g : Gh) (w : World) : List SV → List Value → Prop
  | [], [] => True
  | s :: ss, u :: us => SlotOK S g w s u ∧ SlotsOK S g w ss us
  | _, _ => False
end

/-- What came before the call has stayed. -/
structure Frame (X : Ctx) (w : World) : Prop where
  os : w.os = X.w0.os
  tape : w.tape = X.w0.tape
  output : w.output = X.w0.output
  size : X.w0.heap.size ≤ w.heap.size
  block : ∀ b, b < X.w0.heap.size → ¬ X.F b → (∀ x ∈ X.R, x.1 ≠ b) → w.heap[b]? = X.w0.heap[b]?
  range : ∀ x ∈ X.R, ∀ o, ¬ (x.2.1 ≤ o ∧ o < x.2.1 + x.2.2) → w.cell? ⟨x.1, o, none⟩ = X.w0.cell? ⟨x.1, o, none⟩ ∧ w.frozen? ⟨x.1, o, none⟩ = X.w0.frozen? ⟨x.1, o, none⟩
def InMem (w : World) (A : Addr) (us : List Value) : Prop := ∀ (k : Nat) (u : Value), us[k]? = some u → w.cell? ⟨A.block, A.off + k, none⟩ = some u ∧ w.frozen? ⟨A.block, A.off + k, none⟩ = false ∧ u.oneCell' = true

structure Sim (X : Ctx) (n : Nat) (g : Gh) (st : St) (hand : List G) (a : Act) (w : World) : Prop where
  frame : Frame X w
  defers : a.defers = []
  tmps : a.tmps.size = n
  slots : ∀ t v, get st.s t = some v → SlotOK X.S g w v (a.tmps.getD t undef)
  boxes : ∀ b cs, get st.b b = some cs → ∃ A us, g.gb b = some A ∧ A.block < w.heap.size ∧ InMem w A us ∧ CelsOK X.S g w cs us ∧
    (X.w0.heap.size ≤ A.block ∨ X.isP b = true ∧ ∃ x ∈ X.R, A.block = x.1 ∧ A.off = x.2.1 ∧ cs.length = x.2.2)
  nobox : ∀ b, get st.b b = none → g.gb b = none
  roots : ∀ r ts, get st.r r = some ts → ∃ gs, g.gr r = some gs ∧ gs.map er = ts
  noroot : ∀ r, get st.r r = none → g.gr r = none
  reps : ∀ r gs, g.gr r = some gs → ∀ t ∈ gs, Rp X.S w t
  held : ∀ t ∈ hand, Rp X.S w t
  sole : Sole g hand
  pb : ∀ i A, X.PA i = some A → g.gb i = some A
  hold : ∀ i hs, X.H i = some hs → ∃ gs, g.gr i = some gs ∧ gs.map hdr = hs
  mine : ∀ b k, 0 < rcnt b (g.gr k) + cntL b hand → ¬ X.S b ∧ (X.w0.heap.size ≤ b ∨ X.F b)

section gets
variable {α : Type}
theorem get_rep (l : List (Nat × α)) (k : Nat) (v : α) : get (rep l k v) k = some v := by
  induction l with
  | nil => simp [rep, get]
  | cons x l ih =>
    obtain ⟨j, u⟩ := x
    simp only [rep]
    cases h : j == k <;> simp [get, h, ih]
theorem get_rep_ne (l : List (Nat × α)) {j k : Nat} (v : α) (h : j ≠ k) : get (rep l k v) j = get l j := by
  induction l with
  | nil => simp [rep, get, beq_eq_false_iff_ne.2 (Ne.symm h)]
  | cons x l ih =>
    obtain ⟨i, u⟩ := x
    simp only [rep]
    cases e : i == k with
    | true =>
      have : i = k := by simpa using e
      subst this
      simp [get, beq_eq_false_iff_ne.2 (Ne.symm h)]
    | false =>
      simp only [cond_false, get, ih]
end gets
theorem get_rep_if {α : Type} (l : List (Nat × α)) (j k : Nat) (v : α) : get (rep l k v) j = if j = k then some v else get l j := by
  split
  · rename_i h; subst h; exact get_rep l j v
  · rename_i h; exact get_rep_ne l v h
end Go.X
