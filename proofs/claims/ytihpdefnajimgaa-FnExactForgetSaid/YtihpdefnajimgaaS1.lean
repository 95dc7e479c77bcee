/- Slices of plain things: how many, copied, compared, marked, held. -/
import Derived.Test.YtihpdefnajimgaaXOpen
namespace Go.X
set_option maxRecDepth 100000
set_option maxHeartbeats 8000000
abbrev iT (a : Int) : T := .pv (.int .i64 a)
abbrev bT (a : Bool) : T := .pv (.bool a)
abbrev sT (s : ByteArray) : T := .pv (.string s)
abbrev slT {α : Type} (o : Bool) (z : Nat) (f : α → List T) (l : List α) : T := .sl o z () (l.map f)
abbrev bR (a : Bool) : List T := [bT a]
abbrev sR (a : ByteArray) : List T := [sT a]
/-- laws.szBoolS -/
def x_laws_szBoolS : FnX := ⟨12, [.tmp 4],
  .seq (.reg [⟨none, some 4, 4, .mv (.k (.one (.pv (.int .i64 0))))⟩])
 (.seq (.reg [⟨none, some 5, 5, .mv (.t 1)⟩,
   ⟨none, some 6, 6, .mv (.t 0)⟩,
   ⟨none, some 7, 7, .len (.t 6)⟩,
   ⟨none, some 8, 8, .bin .sub (.t 5) (.t 7)⟩,
   ⟨none, some 1, 1, .mv (.t 8)⟩])
 (.seq (.seq (.reg [⟨none, some 9, 9, .mv (.t 1)⟩,
   ⟨none, some 10, 10, .bin .lss (.t 9) (.k (.one (.pv (.int .i64 0))))⟩])
 (.cond 10 (.seq (.reg [⟨none, some 4, 4, .mv (.k (.one (.pv (.int .i64 (-1)))))⟩])
 (.ret)) (.skip)))
 (.seq (.reg [⟨none, some 11, 11, .mv (.t 1)⟩,
   ⟨none, some 4, 4, .mv (.t 11)⟩])
 (.ret))))⟩
/-- laws.szStringS -/
def x_laws_szStringS : FnX := ⟨28, [.tmp 4],
  .seq (.reg [⟨none, some 4, 4, .mv (.k (.one (.pv (.int .i64 0))))⟩])
 (.seq (.reg [⟨none, some 6, 6, .mv (.t 1)⟩,
   ⟨none, some 7, 7, .mv (.t 0)⟩,
   ⟨none, some 8, 8, .len (.t 7)⟩,
   ⟨none, some 9, 9, .bin .sub (.t 6) (.t 8)⟩,
   ⟨none, some 1, 1, .mv (.t 9)⟩])
 (.seq (.seq (.reg [⟨none, some 10, 10, .mv (.t 1)⟩,
   ⟨none, some 11, 11, .bin .lss (.t 10) (.k (.one (.pv (.int .i64 0))))⟩])
 (.cond 11 (.seq (.reg [⟨none, some 4, 4, .mv (.k (.one (.pv (.int .i64 (-1)))))⟩])
 (.ret)) (.skip)))
 (.seq (.seq (.reg [⟨none, some 5, 5, .mv (.k (.one (.pv (.int .i64 0))))⟩])
 (.block 0 (.loop [0, 1, 5] (.seq (.seq (.reg [⟨none, some 12, 12, .mv (.t 5)⟩,
   ⟨none, some 13, 13, .mv (.t 0)⟩,
   ⟨none, some 14, 14, .len (.t 13)⟩,
   ⟨none, some 15, 15, .bin .lss (.t 12) (.t 14)⟩])
 (.cond 15 (.skip) (.exit 0)))
 (.seq (.block 1 (.seq (.reg [⟨none, some 18, 18, .mv (.t 1)⟩,
   ⟨none, some 19, 19, .mv (.t 0)⟩,
   ⟨none, some 20, 20, .mv (.t 5)⟩,
   ⟨none, some 21, 21, .iaddr 1 (.t 19) (.t 20)⟩,
   ⟨none, some 22, 22, .load none (.t 21)⟩,
   ⟨none, some 23, 23, .slen (.t 22)⟩,
   ⟨none, some 24, 24, .bin .sub (.t 18) (.t 23)⟩,
   ⟨none, some 1, 1, .mv (.t 24)⟩])
 (.seq (.reg [⟨none, some 25, 25, .mv (.t 1)⟩,
   ⟨none, some 26, 26, .bin .lss (.t 25) (.k (.one (.pv (.int .i64 0))))⟩])
 (.cond 26 (.seq (.reg [⟨none, some 4, 4, .mv (.k (.one (.pv (.int .i64 (-1)))))⟩])
 (.ret)) (.skip)))))
 (.reg [⟨none, some 16, 16, .mv (.t 5)⟩,
   ⟨none, some 17, 17, .bin .add (.t 16) (.k (.one (.pv (.int .i64 1))))⟩,
   ⟨none, some 5, 5, .mv (.t 17)⟩]))))))
 (.norm [1] (.seq (.reg [⟨none, some 27, 27, .mv (.t 1)⟩,
   ⟨none, some 4, 4, .mv (.t 27)⟩])
 (.ret))))))⟩
def x_to (B : Nat) (z : Value) : FnX := ⟨22, [.tmp 2],
  .seq (.reg [⟨none, some 2, 2, .mv (.k (.one (.nils 1)))⟩])
 (.seq (.reg [⟨none, some 5, 5, .mv (.t 0)⟩,
   ⟨none, some 6, 6, .len (.t 5)⟩,
   ⟨none, some 7, 7, .mks 1 B [.pv z] (.t 6)⟩,
   ⟨none, some 3, 3, .mv (.t 7)⟩])
 (.seq (.seq (.reg [⟨none, some 4, 4, .mv (.k (.one (.pv (.int .i64 0))))⟩])
 (.block 0 (.loop [0, 3, 4] (.seq (.seq (.reg [⟨none, some 8, 8, .mv (.t 4)⟩,
   ⟨none, some 9, 9, .mv (.t 0)⟩,
   ⟨none, some 10, 10, .len (.t 9)⟩,
   ⟨none, some 11, 11, .bin .lss (.t 8) (.t 10)⟩])
 (.cond 11 (.skip) (.exit 0)))
 (.seq (.block 1 (.reg [⟨none, some 14, 14, .mv (.t 3)⟩,
   ⟨none, some 15, 15, .mv (.t 4)⟩,
   ⟨none, some 16, 16, .mv (.t 0)⟩,
   ⟨none, some 17, 17, .mv (.t 4)⟩,
   ⟨none, some 18, 18, .iaddr 1 (.t 16) (.t 17)⟩,
   ⟨none, some 19, 19, .load none (.t 18)⟩,
   ⟨none, some 20, 20, .iaddr 1 (.t 14) (.t 15)⟩,
   ⟨none, none, 100001, .store 1 (.t 20) (.t 19)⟩]))
 (.reg [⟨none, some 12, 12, .mv (.t 4)⟩,
   ⟨none, some 13, 13, .bin .add (.t 12) (.k (.one (.pv (.int .i64 1))))⟩,
   ⟨none, some 4, 4, .mv (.t 13)⟩]))))))
 (.norm [3] (.seq (.reg [⟨none, some 21, 21, .mv (.t 3)⟩,
   ⟨none, some 2, 2, .mv (.t 21)⟩])
 (.ret)))))⟩
def x_eqBin (u : Unit) : FnX := ⟨26, [.tmp 4],
  .seq (.reg [⟨none, some 4, 4, .mv (.k (.one (.pv (.bool false))))⟩])
 (.seq (.seq (.reg [⟨none, some 6, 6, .mv (.t 0)⟩,
   ⟨none, some 7, 7, .len (.t 6)⟩,
   ⟨none, some 8, 8, .mv (.t 1)⟩,
   ⟨none, some 9, 9, .len (.t 8)⟩,
   ⟨none, some 10, 10, .bin .neq (.t 7) (.t 9)⟩])
 (.cond 10 (.seq (.reg [⟨none, some 4, 4, .mv (.k (.one (.pv (.bool false))))⟩])
 (.ret)) (.skip)))
 (.seq (.seq (.reg [⟨none, some 5, 5, .mv (.k (.one (.pv (.int .i64 0))))⟩])
 (.block 0 (.loop [0, 1, 5] (.seq (.seq (.reg [⟨none, some 11, 11, .mv (.t 5)⟩,
   ⟨none, some 12, 12, .mv (.t 0)⟩,
   ⟨none, some 13, 13, .len (.t 12)⟩,
   ⟨none, some 14, 14, .bin .lss (.t 11) (.t 13)⟩])
 (.cond 14 (.skip) (.exit 0)))
 (.seq (.block 1 (.seq (.draw [⟨none, some 17, 17, .mv (.t 0)⟩,
   ⟨none, some 18, 18, .mv (.t 5)⟩,
   ⟨none, some 19, 19, .iaddr 1 (.t 17) (.t 18)⟩,
   ⟨none, some 20, 20, .load none (.t 19)⟩,
   ⟨none, some 21, 21, .mv (.t 1)⟩,
   ⟨none, some 22, 22, .mv (.t 5)⟩,
   ⟨none, some 23, 23, .iaddr 1 (.t 21) (.t 22)⟩,
   ⟨none, some 24, 24, .load none (.t 23)⟩,
   ⟨none, some 25, 25, .bin .neq (.t 20) (.t 24)⟩] [[], [], [0, 1], [2], [], [], [4, 5], [6], [3, 7]])
 (.cond 25 (.seq (.reg [⟨none, some 4, 4, .mv (.k (.one (.pv (.bool false))))⟩])
 (.ret)) (.skip))))
 (.reg [⟨none, some 15, 15, .mv (.t 5)⟩,
   ⟨none, some 16, 16, .bin .add (.t 15) (.k (.one (.pv (.int .i64 1))))⟩,
   ⟨none, some 5, 5, .mv (.t 16)⟩]))))))
 (.norm [] (.seq (.reg [⟨none, some 4, 4, .mv (.k (.one (.pv (.bool true))))⟩])
 (.ret)))))⟩
/-- laws.eqBoolS -/
def x_laws_eqBoolS : FnX := ⟨26, [.tmp 4],
  .seq (.reg [⟨none, some 4, 4, .mv (.k (.one (.pv (.bool false))))⟩])
 (.seq (.seq (.reg [⟨none, some 6, 6, .mv (.t 0)⟩,
   ⟨none, some 7, 7, .len (.t 6)⟩,
   ⟨none, some 8, 8, .mv (.t 1)⟩,
   ⟨none, some 9, 9, .len (.t 8)⟩,
   ⟨none, some 10, 10, .bin .neq (.t 7) (.t 9)⟩])
 (.cond 10 (.seq (.reg [⟨none, some 4, 4, .mv (.k (.one (.pv (.bool false))))⟩])
 (.ret)) (.skip)))
 (.seq (.seq (.reg [⟨none, some 5, 5, .mv (.k (.one (.pv (.int .i64 0))))⟩])
 (.block 0 (.loop [0, 1, 5] (.seq (.seq (.reg [⟨none, some 11, 11, .mv (.t 5)⟩,
   ⟨none, some 12, 12, .mv (.t 0)⟩,
   ⟨none, some 13, 13, .len (.t 12)⟩,
   ⟨none, some 14, 14, .bin .lss (.t 11) (.t 13)⟩])
 (.cond 14 (.skip) (.exit 0)))
 (.seq (.block 1 (.seq (.draw [⟨none, some 17, 17, .mv (.t 0)⟩,
   ⟨none, some 18, 18, .mv (.t 5)⟩,
   ⟨none, some 19, 19, .iaddr 1 (.t 17) (.t 18)⟩,
   ⟨none, some 20, 20, .load none (.t 19)⟩,
   ⟨none, some 21, 21, .mv (.t 1)⟩,
   ⟨none, some 22, 22, .mv (.t 5)⟩,
   ⟨none, some 23, 23, .iaddr 1 (.t 21) (.t 22)⟩,
   ⟨none, some 24, 24, .load none (.t 23)⟩,
   ⟨none, some 25, 25, .beq true (.t 20) (.t 24)⟩] [[], [], [0, 1], [2], [], [], [4, 5], [6], [3, 7]])
 (.cond 25 (.seq (.reg [⟨none, some 4, 4, .mv (.k (.one (.pv (.bool false))))⟩])
 (.ret)) (.skip))))
 (.reg [⟨none, some 15, 15, .mv (.t 5)⟩,
   ⟨none, some 16, 16, .bin .add (.t 15) (.k (.one (.pv (.int .i64 1))))⟩,
   ⟨none, some 5, 5, .mv (.t 16)⟩]))))))
 (.norm [] (.seq (.reg [⟨none, some 4, 4, .mv (.k (.one (.pv (.bool true))))⟩])
 (.ret)))))⟩
/-- laws.markBoolS -/
def x_laws_markBoolS : FnX := ⟨21, [.tmp 4],
  .seq (.reg [⟨none, some 4, 4, .mv (.k (.one (.pv (.int .i64 0))))⟩])
 (.seq (.seq (.reg [⟨none, some 5, 5, .mv (.k (.one (.pv (.int .i64 0))))⟩])
 (.block 0 (.loop [0, 1, 5] (.seq (.seq (.reg [⟨none, some 6, 6, .mv (.t 5)⟩,
   ⟨none, some 7, 7, .mv (.t 0)⟩,
   ⟨none, some 8, 8, .len (.t 7)⟩,
   ⟨none, some 9, 9, .bin .lss (.t 6) (.t 8)⟩])
 (.cond 9 (.skip) (.exit 0)))
 (.seq (.block 1 (.seq (.reg [⟨none, some 12, 12, .mv (.t 0)⟩,
   ⟨none, some 13, 13, .mv (.t 5)⟩,
   ⟨none, some 14, 14, .mv (.t 1)⟩,
   ⟨none, some 15, 15, .bin .rem (.t 14) (.k (.one (.pv (.int .i64 3))))⟩,
   ⟨none, some 16, 16, .bin .eql (.t 15) (.k (.one (.pv (.int .i64 0))))⟩,
   ⟨none, some 17, 17, .iaddr 1 (.t 12) (.t 13)⟩,
   ⟨none, none, 100001, .store 1 (.t 17) (.t 16)⟩])
 (.reg [⟨none, some 18, 18, .mv (.t 1)⟩,
   ⟨none, some 19, 19, .bin .add (.t 18) (.k (.one (.pv (.int .i64 1))))⟩,
   ⟨none, some 1, 1, .mv (.t 19)⟩])))
 (.reg [⟨none, some 10, 10, .mv (.t 5)⟩,
   ⟨none, some 11, 11, .bin .add (.t 10) (.k (.one (.pv (.int .i64 1))))⟩,
   ⟨none, some 5, 5, .mv (.t 11)⟩]))))))
 (.norm [1] (.seq (.reg [⟨none, some 20, 20, .mv (.t 1)⟩,
   ⟨none, some 4, 4, .mv (.t 20)⟩])
 (.ret))))⟩
/-- laws.heldBoolS -/
def x_laws_heldBoolS : FnX := ⟨23, [.tmp 4],
  .seq (.reg [⟨none, some 4, 4, .mv (.k (.one (.pv (.int .i64 0))))⟩])
 (.seq (.seq (.reg [⟨none, some 5, 5, .mv (.k (.one (.pv (.int .i64 0))))⟩])
 (.block 0 (.loop [0, 1, 5] (.seq (.seq (.reg [⟨none, some 6, 6, .mv (.t 5)⟩,
   ⟨none, some 7, 7, .mv (.t 0)⟩,
   ⟨none, some 8, 8, .len (.t 7)⟩,
   ⟨none, some 9, 9, .bin .lss (.t 6) (.t 8)⟩])
 (.cond 9 (.skip) (.exit 0)))
 (.seq (.block 1 (.seq (.seq (.reg [⟨none, some 12, 12, .mv (.t 0)⟩,
   ⟨none, some 13, 13, .mv (.t 5)⟩,
   ⟨none, some 14, 14, .iaddr 1 (.t 12) (.t 13)⟩,
   ⟨none, some 15, 15, .load none (.t 14)⟩,
   ⟨none, some 16, 16, .mv (.t 1)⟩,
   ⟨none, some 17, 17, .bin .rem (.t 16) (.k (.one (.pv (.int .i64 3))))⟩,
   ⟨none, some 18, 18, .bin .eql (.t 17) (.k (.one (.pv (.int .i64 0))))⟩,
   ⟨none, some 19, 19, .beq true (.t 15) (.t 18)⟩])
 (.cond 19 (.seq (.reg [⟨none, some 4, 4, .mv (.k (.one (.pv (.int .i64 (-1)))))⟩])
 (.ret)) (.skip)))
 (.reg [⟨none, some 20, 20, .mv (.t 1)⟩,
   ⟨none, some 21, 21, .bin .add (.t 20) (.k (.one (.pv (.int .i64 1))))⟩,
   ⟨none, some 1, 1, .mv (.t 21)⟩])))
 (.reg [⟨none, some 10, 10, .mv (.t 5)⟩,
   ⟨none, some 11, 11, .bin .add (.t 10) (.k (.one (.pv (.int .i64 1))))⟩,
   ⟨none, some 5, 5, .mv (.t 11)⟩]))))))
 (.norm [1] (.seq (.reg [⟨none, some 22, 22, .mv (.t 1)⟩,
   ⟨none, some 4, 4, .mv (.t 22)⟩])
 (.ret))))⟩
section
variable {Te : Nat → List AV → Res → Prop}
/-- What is left of a measure. -/
def left (a : Int) : Int := if a < 0 then -1 else a
theorem szBoolS_run (l : List Bool) (k : Int) (hl : l.length ≤ 2 ^ 48) (hk : 0 ≤ k ∧ k ≤ 2 ^ 48) : RunFn Te x_laws_szBoolS [.one (slT false 1 bR l), .one (iT k)] ⟨[.one (iT (left (k - l.length)))], [[slT false 1 bR l], [iT k]]⟩ := by
  refine ⟨by simp only [x_laws_szBoolS, go_sem], ?_⟩
  simp (disch := omega) only [x_laws_szBoolS, go_sem, IntWalk.i64_in]
  refine ⟨fun h => ?_, fun h => ?_⟩
  · simp only [decide_eq_true_eq] at h
    simp only [left, if_pos h]
  · simp only [decide_eq_false_iff_not] at h
    simp only [left, if_neg h]
theorem fill_get {α : Type} (f : α → List T) (l : List α) (z : List T) {i : Nat} (hi : i < l.length) : ((l.take i).map f ++ List.replicate (l.length - i) z)[i]? = some z := by
  rw [List.getElem?_append_right (by simp; omega), List.getElem?_replicate, if_pos (by simp; omega)]
theorem fill_set {α : Type} (f : α → List T) (l : List α) (z : List T) {i : Nat} (hi : i < l.length) : ((l.take i).map f ++ List.replicate (l.length - i) z).set i (f l[i]) = (l.take (i + 1)).map f ++ List.replicate (l.length - (i + 1)) z := by
  rw [List.set_append_right _ _ (by simp; omega), List.take_succ_eq_append_getElem hi, List.map_append, List.append_assoc]
  congr 1
  have e : l.length - i = (l.length - (i + 1)) + 1 := by omega
  rw [e, List.replicate_succ]
  have : i - ((l.take i).map f).length = 0 := by simp; omega
  rw [this]
  rfl
theorem fill_len {α : Type} (f : α → List T) (l : List α) (z : List T) {i : Nat} (hi : i ≤ l.length) : ((l.take i).map f ++ List.replicate (l.length - i) z).length = l.length := by simp; omega
theorem fill_end {α : Type} (f : α → List T) (l : List α) (z : List T) : (l.take l.length).map f ++ List.replicate (l.length - l.length) z = l.map f := by simp
theorem to_run {α : Type} (g : α → Value) (B : Nat) (z : Value) (l : List α) (hl : l.length ≤ 2 ^ 31) (hB : B ≤ 16) : RunFn Te (x_to B z) [.one (slT false 1 (fun a => [.pv (g a)]) l)] ⟨[.one (slT true 1 (fun a => [.pv (g a)]) l)], [[slT false 1 (fun a => [.pv (g a)]) l]]⟩ := by
  refine ⟨by simp only [x_to, go_sem], ?_⟩
  simp (disch := omega) only [x_to, go_sem, IntWalk.i64_in]
  have hm := Nat.mul_le_mul hl hB
  refine ⟨⟨by simp only [decide_eq_true_eq]; omega, by simp only [decide_eq_true_eq]; omega⟩, ?_⟩
  refine loop_of (σ := Nat) (fun i => ⟨[(0, .one (.ro 1 (l.map fun a => [.pv (g a)]))), (3, .one (.rf 23 0 [] 1 0 l.length)), (4, .one (.pv (.int .i64 i)))], [],
    [(0, [slT false 1 (fun a => [.pv (g a)]) l]), (23, [.sl true 1 () ((l.take i).map (fun a => [.pv (g a)]) ++ List.replicate (l.length - i) [.pv z])])]⟩) (fun i => i ≤ l.length) (fun i => l.length - i) 0 ?_ (Nat.zero_le _) ?_
  · simp only [go_sem]; rfl
  · intro i hi
    simp only [go_sem]
    refine ⟨fun h => ?_, fun h => ?_⟩
    · have hi' : i < l.length := by simp only [decide_eq_true_eq] at h; omega
      simp only [go_sem, List.getElem?_eq_getElem hi', fill_len (fun a => [.pv (g a)]) l [.pv z] hi, storeAp, setCells, List.getD_eq_getElem?_getD, fill_get (fun a => [.pv (g a)]) l [.pv z] hi']
      refine ⟨by simpa using hi', by simpa using hi', i + 1, ?_, hi', by omega⟩
      rw [← fill_set (fun a => [.pv (g a)]) l [.pv z] hi', IntWalk.i64_in _ (by omega)]
      rfl
    · have : i = l.length := by simp only [decide_eq_false_iff_not] at h; omega
      subst this
      simp only [go_sem, fill_len (fun a => [.pv (g a)]) l [.pv z] hi, fill_end]
      refine ⟨by simp, ?_⟩
      simp [take_map]
/-- As far as i they are the same. -/
theorem same_step {α : Type} {l m : List α} {i : Nat} (hl : i < l.length) (hm : i < m.length) (h : l.take i = m.take i) (he : l[i] = m[i]) : l.take (i + 1) = m.take (i + 1) := by
  rw [List.take_succ_eq_append_getElem hl, List.take_succ_eq_append_getElem hm, h, he]
theorem same_end {α : Type} {l m : List α} {i : Nat} (hl : l.length ≤ i) (hm : m.length ≤ i) (h : l.take i = m.take i) : l = m := by
  rwa [List.take_of_length_le hl, List.take_of_length_le hm] at h
theorem eqBoolS_run (l m : List Bool) (hl : l.length ≤ 2 ^ 31) : RunFn Te x_laws_eqBoolS [.one (slT false 1 bR l), .one (slT false 1 bR m)] ⟨[.one (bT (decide (l = m)))], [[slT false 1 bR l], [slT false 1 bR m]]⟩ := by
  refine ⟨by simp only [x_laws_eqBoolS, go_sem], ?_⟩
  simp (disch := omega) only [x_laws_eqBoolS, go_sem, IntWalk.i64_in]
  refine ⟨fun h => ?_, fun h => ?_⟩
  · have : l ≠ m := fun e => by simp [e] at h
    simp [this]
  · have hlen : l.length = m.length := by simp at h; omega
    refine loop_of (σ := Nat) (fun i => ⟨[(0, .one (.ro 1 (l.map bR))), (1, .one (.ro 1 (m.map bR))), (5, .one (.pv (.int .i64 i)))], [], [(0, [slT false 1 bR l]), (1, [slT false 1 bR m])]⟩) (fun i => i ≤ l.length ∧ l.take i = m.take i) (fun i => l.length - i) 0 ?_ ⟨Nat.zero_le _, by simp⟩ ?_
    · simp only [go_sem]; rfl
    · intro i ⟨hi, hs⟩
      simp only [go_sem]
      refine ⟨fun h => ?_, fun h => ?_⟩
      · have hi' : i < l.length := by simp only [decide_eq_true_eq] at h; omega
        have hj' : i < m.length := by omega
        simp only [go_sem, List.getElem?_eq_getElem hi', List.getElem?_eq_getElem hj']
        refine ⟨by decide, fun h2 => ?_, fun h2 => ?_⟩
        · have : l ≠ m := fun e => by subst e; simp at h2
          simp [this]
        · refine ⟨i + 1, by rw [IntWalk.i64_in _ (by omega)]; rfl, ⟨hi', same_step hi' hj' hs ?_⟩, by omega⟩
          simpa using h2
      · have hle : l.length ≤ i := by simp only [decide_eq_false_iff_not] at h; omega
        have : l = m := same_end hle (by omega) hs
        simp [this]
theorem eqBin_run {α : Type} [DecidableEq α] (g : α → Value) (hg : ∀ a b, binV .neq (g a) (g b) = some (.bool (!decide (a = b)))) (l m : List α) (hl : l.length ≤ 2 ^ 31) :
    RunFn Te (x_eqBin ()) [.one (slT false 1 (fun a => [.pv (g a)]) l), .one (slT false 1 (fun a => [.pv (g a)]) m)] ⟨[.one (bT (decide (l = m)))], [[slT false 1 (fun a => [.pv (g a)]) l], [slT false 1 (fun a => [.pv (g a)]) m]]⟩ := by
  refine ⟨by simp only [x_eqBin, go_sem], ?_⟩
  simp (disch := omega) only [x_eqBin, go_sem, IntWalk.i64_in]
  refine ⟨fun h => ?_, fun h => ?_⟩
  · have : l ≠ m := fun e => by simp [e] at h
    simp [this]
  · have hlen : l.length = m.length := by simp at h; omega
    refine loop_of (σ := Nat) (fun i => ⟨[(0, .one (.ro 1 (l.map fun a => [.pv (g a)]))), (1, .one (.ro 1 (m.map fun a => [.pv (g a)]))), (5, .one (.pv (.int .i64 i)))], [], [(0, [slT false 1 (fun a => [.pv (g a)]) l]), (1, [slT false 1 (fun a => [.pv (g a)]) m])]⟩) (fun i => i ≤ l.length ∧ l.take i = m.take i) (fun i => l.length - i) 0 ?_ ⟨Nat.zero_le _, by simp⟩ ?_
    · simp only [go_sem]; rfl
    · intro i ⟨hi, hs⟩
      simp only [go_sem]
      refine ⟨fun h => ?_, fun h => ?_⟩
      · have hi' : i < l.length := by simp only [decide_eq_true_eq] at h; omega
        have hj' : i < m.length := by omega
        simp only [go_sem, List.getElem?_eq_getElem hi', List.getElem?_eq_getElem hj', hg]
        refine ⟨by decide, fun h2 => ?_, fun h2 => ?_⟩
        · have : l ≠ m := fun e => by subst e; simp at h2
          simp [this]
        · refine ⟨i + 1, by rw [IntWalk.i64_in _ (by omega)]; rfl, ⟨hi', same_step hi' hj' hs ?_⟩, by omega⟩
          simpa using h2
      · have hle : l.length ≤ i := by simp only [decide_eq_false_iff_not] at h; omega
        have : l = m := same_end hle (by omega) hs
        simp [this]
/-- What is left of a measure behind a row of things. -/
def foldSz {α : Type} (f : α → Int → Int) : List α → Int → Int
  | [], k => k
  | a :: l, k => if f a k < 0 then -1 else foldSz f l (f a k)
def szSl {α : Type} (f : α → Int → Int) (l : List α) (k : Int) : Int := if k - l.length < 0 then -1 else foldSz f l (k - l.length)
theorem foldSz_ok {α : Type} {f : α → Int → Int} (hf : ∀ a k, 0 ≤ k → -1 ≤ f a k ∧ f a k ≤ k) : ∀ (l : List α) (k : Int), 0 ≤ k → -1 ≤ foldSz f l k ∧ foldSz f l k ≤ k ∧ (0 ≤ foldSz f l k → ∀ a ∈ l, ∃ j, 0 ≤ j ∧ j ≤ k ∧ 0 ≤ f a j)
  | [], k, hk => ⟨by simp [foldSz]; omega, by simp [foldSz], fun _ a h => by cases h⟩
  | a :: l, k, hk => by
    have h1 := hf a k hk
    simp only [foldSz]
    split
    · exact ⟨by omega, by omega, fun h => by omega⟩
    · have h2 := foldSz_ok hf l (f a k) (by omega)
      refine ⟨h2.1, by omega, fun h b hb => ?_⟩
      rcases List.mem_cons.1 hb with rfl | hb
      · exact ⟨k, hk, Int.le_refl _, by omega⟩
      · obtain ⟨j, q1, q2, q3⟩ := h2.2.2 h b hb
        exact ⟨j, q1, by omega, q3⟩
theorem szSl_ok {α : Type} {f : α → Int → Int} (hf : ∀ a k, 0 ≤ k → -1 ≤ f a k ∧ f a k ≤ k) (l : List α) (k : Int) (hk : 0 ≤ k) : -1 ≤ szSl f l k ∧ szSl f l k ≤ k ∧ (0 ≤ szSl f l k → (l.length : Int) ≤ k ∧ ∀ a ∈ l, ∃ j, 0 ≤ j ∧ j ≤ k ∧ 0 ≤ f a j) := by
  unfold szSl
  split
  · exact ⟨by omega, by omega, fun h => by omega⟩
  · have h2 := foldSz_ok hf l (k - l.length) (by omega)
    refine ⟨h2.1, by omega, fun h => ⟨by omega, fun b hb => ?_⟩⟩
    obtain ⟨j, q1, q2, q3⟩ := h2.2.2 h b hb
    exact ⟨j, q1, by omega, q3⟩
def szStr (s : ByteArray) (k : Int) : Int := if k - s.size < 0 then -1 else k - s.size
theorem szStringS_run (l : List ByteArray) (k : Int) (hk : 0 ≤ k ∧ k ≤ 2 ^ 48) (hl : l.length ≤ 2 ^ 48) (hs : ∀ s ∈ l, s.size ≤ 2 ^ 48) : RunFn Te x_laws_szStringS [.one (slT false 1 sR l), .one (iT k)] ⟨[.one (iT (szSl szStr l k))], [[slT false 1 sR l], [iT k]]⟩ := by
  refine ⟨by simp only [x_laws_szStringS, go_sem], ?_⟩
  simp (disch := omega) only [x_laws_szStringS, go_sem, IntWalk.i64_in]
  refine ⟨fun h => ?_, fun h => ?_⟩
  · simp only [decide_eq_true_eq] at h
    simp only [szSl, if_pos h]
  · simp only [decide_eq_false_iff_not] at h
    refine loop_of (σ := Nat × Int) (fun x => ⟨[(0, .one (.ro 1 (l.map sR))), (1, .one (.pv (.int .i64 x.2))), (5, .one (.pv (.int .i64 x.1)))], [], [(0, [slT false 1 sR l]), (1, [iT k])]⟩) (fun x => x.1 ≤ l.length ∧ 0 ≤ x.2 ∧ x.2 ≤ k ∧ szSl szStr l k = foldSz szStr (l.drop x.1) x.2) (fun x => l.length - x.1) (0, k - l.length) ?_ ⟨Nat.zero_le _, by omega, by omega, by simp only [szSl, if_neg h, List.drop_zero]⟩ ?_
    · simp only [go_sem]; rfl
    · rintro ⟨i, c⟩ ⟨hi, h0, h1, he⟩
      simp only at hi h0 h1 he
      simp only [go_sem]
      refine ⟨fun h => ?_, fun h => ?_⟩
      · have hi' : i < l.length := by simp only [decide_eq_true_eq] at h; omega
        have hsz := hs l[i] (List.getElem_mem hi')
        rw [List.drop_eq_getElem_cons hi'] at he
        simp (disch := omega) only [go_sem, List.getElem?_eq_getElem hi', IntWalk.i64_in]
        refine ⟨fun h2 => ?_, fun h2 => ?_⟩
        · simp only [decide_eq_true_eq] at h2
          rw [he]
          simp only [foldSz, szStr, if_pos h2]
          rfl
        · simp only [decide_eq_false_iff_not] at h2
          refine ⟨(i + 1, c - (l[i]).size), rfl, ⟨hi', by omega, by omega, ?_⟩, by simp only; omega⟩
          rw [he]
          simp only [foldSz, szStr, if_neg h2]
      · have hle : l.length ≤ i := by simp only [decide_eq_false_iff_not] at h; omega
        rw [List.drop_of_length_le hle] at he
        simp only [foldSz] at he
        rw [he]
/-- The marks of n things from k on. -/
def marks {α : Type} (mk : Int → α) (n : Nat) (k : Int) : List α := (List.range n).map fun i => mk (k + (i : Nat))
theorem marks_length {α : Type} (mk : Int → α) (n : Nat) (k : Int) : (marks mk n k).length = n := by simp [marks]
theorem marks_succ {α : Type} (mk : Int → α) (n : Nat) (k : Int) : marks mk (n + 1) k = marks mk n k ++ [mk (k + (n : Nat))] := by simp [marks, List.range_succ]
theorem marks_get {α : Type} (mk : Int → α) {n i : Nat} (k : Int) (h : i < n) : (marks mk n k)[i]? = some (mk (k + (i : Nat))) := by simp [marks, h]
theorem mark_get {α : Type} (f : α → List T) (mk : Int → α) (l : List α) (k : Int) {i : Nat} (hi : i < l.length) : ((marks mk i k).map f ++ (l.drop i).map f)[i]? = some (f l[i]) := by
  rw [List.getElem?_append_right (by simp [marks_length]), List.length_map, marks_length, Nat.sub_self, List.getElem?_map, List.getElem?_drop]
  simp [hi]
theorem mark_set {α : Type} (f : α → List T) (mk : Int → α) (l : List α) (k : Int) {i : Nat} (hi : i < l.length) : ((marks mk i k).map f ++ (l.drop i).map f).set i (f (mk (k + (i : Nat)))) = (marks mk (i + 1) k).map f ++ (l.drop (i + 1)).map f := by
  rw [List.set_append_right _ _ (by simp [marks_length]), List.length_map, marks_length, Nat.sub_self, List.drop_eq_getElem_cons hi, List.map_cons, List.set_cons_zero, marks_succ, List.map_append, List.append_assoc]
  rfl
theorem mark_len {α : Type} (f : α → List T) (mk : Int → α) (l : List α) (k : Int) {i : Nat} (hi : i ≤ l.length) : ((marks mk i k).map f ++ (l.drop i).map f).length = l.length := by simp [marks_length]; omega
theorem mark_end {α : Type} (f : α → List T) (mk : Int → α) (l : List α) (k : Int) : (marks mk l.length k).map f ++ (l.drop l.length).map f = (marks mk l.length k).map f := by simp
def mkB (k : Int) : Bool := k.tmod 3 == 0
theorem markBoolS_run (l : List Bool) (k : Int) (hl : l.length ≤ 2 ^ 31) (hk : 0 ≤ k ∧ k ≤ 2 ^ 48) : RunFn Te x_laws_markBoolS [.one (slT true 1 bR l), .one (iT k)] ⟨[.one (iT (k + l.length))], [[slT true 1 bR (marks mkB l.length k)], [iT k]]⟩ := by
  refine ⟨by simp only [x_laws_markBoolS, go_sem], ?_⟩
  simp (disch := omega) only [x_laws_markBoolS, go_sem, IntWalk.i64_in]
  refine loop_of (σ := Nat) (fun i => ⟨[(0, .one (.rf 0 0 [] 1 0 l.length)), (1, .one (.pv (.int .i64 (k + i)))), (5, .one (.pv (.int .i64 i)))], [], [(0, [.sl true 1 () ((marks mkB i k).map bR ++ (l.drop i).map bR)]), (1, [iT k])]⟩) (fun i => i ≤ l.length) (fun i => l.length - i) 0 ?_ (Nat.zero_le _) ?_
  · simp only [go_sem]; simp [marks]
  · intro i hi
    simp only [go_sem]
    refine ⟨fun h => ?_, fun h => ?_⟩
    · have hi' : i < l.length := by simp only [decide_eq_true_eq] at h; omega
      simp (disch := omega) only [go_sem, storeAp, setCells, mark_len bR mkB l k hi, List.getD_eq_getElem?_getD, mark_get bR mkB l k hi', IntWalk.i64_in]
      refine ⟨by simpa using hi', by simpa using hi', i + 1, ?_, hi', by omega⟩
      rw [← mark_set bR mkB l k hi', show k + ((i + 1 : Nat) : Int) = k + i + 1 by omega]
      rfl
    · have : i = l.length := by simp only [decide_eq_false_iff_not] at h; omega
      subst this
      simp only [go_sem, mark_end]
theorem heldBoolS_run (n : Nat) (k : Int) (hl : n ≤ 2 ^ 31) (hk : 0 ≤ k ∧ k ≤ 2 ^ 48) : RunFn Te x_laws_heldBoolS [.one (slT false 1 bR (marks mkB n k)), .one (iT k)] ⟨[.one (iT (k + n))], [[slT false 1 bR (marks mkB n k)], [iT k]]⟩ := by
  refine ⟨by simp only [x_laws_heldBoolS, go_sem], ?_⟩
  simp (disch := omega) only [x_laws_heldBoolS, go_sem, IntWalk.i64_in]
  refine loop_of (σ := Nat) (fun i => ⟨[(0, .one (.ro 1 ((marks mkB n k).map bR))), (1, .one (.pv (.int .i64 (k + i)))), (5, .one (.pv (.int .i64 i)))], [], [(0, [slT false 1 bR (marks mkB n k)]), (1, [iT k])]⟩) (fun i => i ≤ n) (fun i => n - i) 0 ?_ (Nat.zero_le _) ?_
  · simp only [go_sem]; simp
  · intro i hi
    simp only [go_sem, marks_length]
    refine ⟨fun h => ?_, fun h => ?_⟩
    · have hi' : i < n := by simp only [decide_eq_true_eq] at h; omega
      simp (disch := omega) only [go_sem, marks_get mkB k hi', IntWalk.i64_in, mkB, bne_self_eq_false]
      refine ⟨i + 1, ?_, hi', by omega⟩
      rw [show k + ((i + 1 : Nat) : Int) = k + i + 1 by omega]
      rfl
    · have : i = n := by simp only [decide_eq_false_iff_not] at h; omega
      subst this
      simp only [go_sem]
end
end Go.X
