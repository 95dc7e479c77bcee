/- Plain lemmas on functions with a number of rounds: with rounds enough they tell one value; loops as chains of states. -/
import Derived.Test.YtblfonlminnpmaaWWords
import Derived.Test.YtblfonlminnpmaaWLast
namespace Go.Proofs.YtblfonlminnpmaaW.PLib
open Go.RowKit Go.Proofs.YtblfonlminnpmaaW.PrintWords Go.Proofs.YtblfonlminnpmaaW.PrintLast

/-- With rounds enough it tells r. -/
def Tells {α : Type} (g : Nat → Option α) (r : α) : Prop := ∃ K, ∀ k, K ≤ k → g k = some r
theorem Tells.of {α : Type} {o : Option α} {r : α} (h : o = some r) : Tells (fun _ => o) r := ⟨0, fun _ _ => h⟩
theorem Tells.bind {α β : Type} {g : Nat → Option α} {f : Nat → α → Option β} {a : α} {r : β} (h : Tells g a) (h2 : Tells (fun k => f k a) r) : Tells (fun k => (g k).bind (f k)) r := by
  obtain ⟨K, hK⟩ := h
  obtain ⟨L, hL⟩ := h2
  exact ⟨max K L, fun k hk => by
    show (g k).bind (f k) = some r
    rw [hK k (by omega)]
    exact hL k (by omega)⟩
theorem Tells.ex {α : Type} {g : Nat → Option α} {r : α} (h : Tells g r) : ∃ k, g k = some r := let ⟨K, hK⟩ := h; ⟨K, hK K (Nat.le_refl _)⟩
theorem Tells.succ {α : Type} {g : Nat → Option α} {r : α} (h : Tells (fun k => g (k + 1)) r) : Tells g r := by
  obtain ⟨K, hK⟩ := h
  refine ⟨K + 1, fun k hk => ?_⟩
  obtain ⟨m, rfl⟩ : ∃ m, k = m + 1 := ⟨k - 1, by omega⟩
  exact hK m (by omega)
theorem Tells.congr {α : Type} {g g' : Nat → Option α} {r : α} (h : Tells g r) (e : ∀ k, g' k = g k) : Tells g' r := let ⟨K, hK⟩ := h; ⟨K, fun k hk => (e k).trans (hK k hk)⟩
theorem Tells.ite_pos {α : Type} {c : Prop} [Decidable c] {g g' : Nat → Option α} {r : α} (hc : c) (h : Tells g r) : Tells (fun k => if c then g k else g' k) r := h.congr (fun _ => if_pos hc)
theorem Tells.ite_neg {α : Type} {c : Prop} [Decidable c] {g g' : Nat → Option α} {r : α} (hc : ¬ c) (h : Tells g' r) : Tells (fun k => if c then g k else g' k) r := h.congr (fun _ => if_neg hc)
theorem Tells.same {α : Type} {g : Nat → Option α} {r s : α} (h : Tells g r) (h' : Tells g s) : r = s := by
  obtain ⟨K, hK⟩ := h
  obtain ⟨L, hL⟩ := h'
  have a := hK (max K L) (by omega)
  have b := hL (max K L) (by omega)
  rw [a] at b
  exact Option.some.inj b
/-- A loop: state by state. -/
theorem chain {β : Type} (G : Nat → Nat → Option β) (n : Nat) (r : β) (hstep : ∀ i, i < n → ∃ K, ∀ k, K ≤ k → G i (k + 1) = G (i + 1) k) (hend : Tells (G n) r) : Tells (G 0) r := by
  have key : ∀ d i, i + d = n → Tells (G i) r := by
    intro d
    induction d with
    | zero => intro i hi; have : i = n := by omega
              subst this; exact hend
    | succ d ih =>
      intro i hi
      obtain ⟨K, hK⟩ := hstep i (by omega)
      obtain ⟨L, hL⟩ := ih (i + 1) (by omega)
      refine ⟨max K L + 1, fun k hk => ?_⟩
      obtain ⟨m, rfl⟩ : ∃ m, k = m + 1 := ⟨k - 1, by omega⟩
      rw [hK m (by omega)]
      exact hL m (by omega)
  exact key n 0 (by omega)
/-- A loop that may end early. -/
theorem chainEx {β : Type} (G : Nat → Nat → Option β) (P : β → Prop) (n : Nat) (hstep : ∀ i, i < n → (∃ K, ∀ k, K ≤ k → G i (k + 1) = G (i + 1) k) ∨ ∃ r, P r ∧ Tells (G i) r) (hend : ∃ r, P r ∧ Tells (G n) r) : ∃ r, P r ∧ Tells (G 0) r := by
  have key : ∀ d i, i + d = n → ∃ r, P r ∧ Tells (G i) r := by
    intro d
    induction d with
    | zero => intro i hi; have : i = n := by omega
              subst this; exact hend
    | succ d ih =>
      intro i hi
      rcases hstep i (by omega) with ⟨K, hK⟩ | h
      · obtain ⟨r, hP, L, hL⟩ := ih (i + 1) (by omega)
        refine ⟨r, hP, max K L + 1, fun k hk => ?_⟩
        obtain ⟨m, rfl⟩ : ∃ m, k = m + 1 := ⟨k - 1, by omega⟩
        rw [hK m (by omega)]
        exact hL m (by omega)
      · exact h
  exact key n 0 (by omega)
/-- The same, with what holds so far. -/
theorem chainI {β : Type} (G : Nat → Nat → Option β) (P : β → Prop) (I : Nat → Prop) (n : Nat) (h0 : I 0) (hstep : ∀ i, i < n → I i → (I (i + 1) ∧ ∃ K, ∀ k, K ≤ k → G i (k + 1) = G (i + 1) k) ∨ ∃ r, P r ∧ Tells (G i) r) (hend : I n → ∃ r, P r ∧ Tells (G n) r) : ∃ r, P r ∧ Tells (G 0) r := by
  have key : ∀ d i, i + d = n → I i → ∃ r, P r ∧ Tells (G i) r := by
    intro d
    induction d with
    | zero => intro i hi hI; have : i = n := by omega
              subst this; exact hend hI
    | succ d ih =>
      intro i hi hI
      rcases hstep i (by omega) hI with ⟨hI', K, hK⟩ | h
      · obtain ⟨r, hP, L, hL⟩ := ih (i + 1) (by omega) hI'
        refine ⟨r, hP, max K L + 1, fun k hk => ?_⟩
        obtain ⟨m, rfl⟩ : ∃ m, k = m + 1 := ⟨k - 1, by omega⟩
        rw [hK m (by omega)]
        exact hL m (by omega)
      · exact h
  exact key n 0 (by omega) h0
theorem ev_end {β : Type} {g : Nat → Option β} {r : β} (h : ∀ k, g (k + 1) = some r) : Tells g r := Tells.succ ⟨0, fun k _ => h k⟩
/-- One bound for finitely many. -/
theorem uniform {n : Nat} {p : Nat → Nat → Prop} (h : ∀ i, i < n → ∃ K, ∀ k, K ≤ k → p i k) : ∃ K, ∀ i, i < n → ∀ k, K ≤ k → p i k := by
  induction n with
  | zero => exact ⟨0, fun i hi => absurd hi (Nat.not_lt_zero _)⟩
  | succ n ih =>
    obtain ⟨K, hK⟩ := ih (fun i hi => h i (by omega))
    obtain ⟨L, hL⟩ := h n (by omega)
    refine ⟨max K L, fun i hi k hk => ?_⟩
    by_cases hin : i = n
    · subst hin; exact hL k (by omega)
    · exact hK i (by omega) k (by omega)

theorem wrap_nat {i : Nat} (h : (i : Int) < 9223372036854775807) : wrap64 ((i : Int) + 1) = ((i + 1 : Nat) : Int) := by unfold wrap64; omega
theorem wrap_id {x : Int} (h0 : -9223372036854775808 ≤ x) (h1 : x ≤ 9223372036854775807) : wrap64 x = x := by unfold wrap64; omega
theorem wrap_range (x : Int) : -9223372036854775808 ≤ wrap64 x ∧ wrap64 x ≤ 9223372036854775807 := by unfold wrap64; omega
theorem wf_range {x : Int} (h : (Lit.int .i64 x).wf = true) : -9223372036854775808 ≤ x ∧ x ≤ 9223372036854775807 := by
  simp [Lit.wf, IntKind.min, IntKind.max, IntKind.signed, IntKind.bits] at h
  omega
theorem rdOf_get {α : Type} {d : α} {l : List α} {i : Nat} (h : i < l.length) : rdOf d l (i : Int) = l[i] := by simp [rdOf, List.getD, List.getElem?_eq_getElem h]
theorem rd_get {l : List Int} {i : Nat} (h : i < l.length) : rd l (i : Int) = l[i] := by simp [rd, List.getD, List.getElem?_eq_getElem h]
theorem getD_get {α : Type} {d : α} {l : List α} {i : Nat} (h : i < l.length) : l.getD i d = l[i] := by simp [List.getD, List.getElem?_eq_getElem h]
/-- What a loop that fills a list from the front has after i rounds. -/
def fill {α : Type} (xs : List α) (d : α) (i : Nat) : List α := xs.take i ++ List.replicate (xs.length - i) d
theorem fill_zero {α : Type} (xs : List α) (d : α) : fill xs d 0 = List.replicate xs.length d := by simp [fill]
theorem fill_all {α : Type} (xs : List α) (d : α) : fill xs d xs.length = xs := by simp [fill]
theorem fill_length {α : Type} (xs : List α) (d : α) {i : Nat} (h : i ≤ xs.length) : (fill xs d i).length = xs.length := by simp [fill]; omega
theorem fill_set {α : Type} (xs : List α) (d : α) {i : Nat} (h : i < xs.length) : (fill xs d i).set i xs[i] = fill xs d (i + 1) := by
  apply List.ext_getElem?
  intro j
  simp only [fill]
  rw [List.getElem?_set]
  by_cases hij : i = j
  · subst hij
    rw [if_pos rfl, if_pos (by simp; omega), List.getElem?_append_left (by simp; omega), List.getElem?_take_of_lt (by omega), List.getElem?_eq_getElem h]
  · rw [if_neg hij]
    by_cases hji : j < i
    · rw [List.getElem?_append_left (by simp; omega), List.getElem?_append_left (by simp; omega), List.getElem?_take_of_lt hji, List.getElem?_take_of_lt (by omega)]
    · rw [List.getElem?_append_right (by simp; omega), List.getElem?_append_right (by simp; omega)]
      simp only [List.length_take, List.getElem?_replicate]
      have e1 : min i xs.length = i := by omega
      have e2 : min (i + 1) xs.length = i + 1 := by omega
      rw [e1, e2]
      by_cases hj : j < xs.length
      · rw [if_pos (by omega), if_pos (by omega)]
      · rw [if_neg (by omega), if_neg (by omega)]
theorem toList_nil (s : ByteArray) (h : s.size = 0) : s.toList = [] := List.eq_nil_of_length_eq_zero (by rw [ByteArray.toList_eq, data_length]; exact h)
theorem toList_length (s : ByteArray) : s.toList.length = s.size := by rw [ByteArray.toList_eq, data_length]
theorem toList_inj {s t : ByteArray} (h : s.toList = t.toList) : s = t := by
  rw [ByteArray.toList_eq, ByteArray.toList_eq] at h
  exact ByteArray.ext (by cases hs : s.data; cases ht : t.data; rw [hs, ht] at h; simpa using h)
end Go.Proofs.YtblfonlminnpmaaW.PLib
