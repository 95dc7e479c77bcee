/- Texts: CEb CEc CF CG CJ CK CL CM CR. -/
import Derived.Test.YthfpiilfndlnaaaGreatDoorCd
set_option linter.unusedVariables false
set_option linter.unusedSimpArgs false
/- Eb -/
namespace Go.X
set_option maxRecDepth 100000
set_option maxHeartbeats 8000000
def x_l_szRowS : FnX := ⟨27, [.tmp 4],
  .seq (.reg [⟨none, some 4, 4, .mv (.k (.one (.pv (.int .i64 0))))⟩])
 (.seq (.reg [⟨none, some 6, 6, .mv (.t 1)⟩,
   ⟨none, some 7, 7, .mv (.t 0)⟩,
   ⟨none, some 8, 8, .len (.t 7)⟩,
   ⟨none, some 9, 9, .bin .sub (.t 6) (.t 8)⟩,
   ⟨none, some 1, 1, .mv (.t 9)⟩])
 (.seq (.seq (.reg [⟨none, some 10, 10, .mv (.t 1)⟩,
   ⟨none, some 11, 11, .bin .lss (.t 10) (.k (.one (.pv (.int .i64 0))))⟩])
 (.cond 11 (.seq (.reg [⟨none, some 4, 4, .mv (.k (.one (.pv (.int .i64 (-1)))))⟩])
 (.ret)) (.skip)))
 (.seq (.seq (.reg [⟨none, some 5, 5, .mv (.k (.one (.pv (.int .i64 0))))⟩])
 (.block 0 (.loop [0, 1, 5] (.seq (.seq (.reg [⟨none, some 12, 12, .mv (.t 5)⟩,
   ⟨none, some 13, 13, .mv (.t 0)⟩,
   ⟨none, some 14, 14, .len (.t 13)⟩,
   ⟨none, some 15, 15, .bin .lss (.t 12) (.t 14)⟩])
 (.cond 15 (.skip) (.exit 0)))
 (.seq (.block 1 (.seq (.reg [⟨none, some 18, 18, .mv (.t 0)⟩,
   ⟨none, some 19, 19, .mv (.t 5)⟩,
   ⟨none, some 20, 20, .iaddr 7 (.t 18) (.t 19)⟩,
   ⟨none, some 21, 21, .load (some 7) (.t 20)⟩,
   ⟨none, some 22, 22, .mv (.t 1)⟩,
   ⟨none, some 23, 23, .call 155 [0, 0] [(.t 21), (.t 22)]⟩,
   ⟨none, some 1, 1, .mv (.t 23)⟩])
 (.seq (.reg [⟨none, some 24, 24, .mv (.t 1)⟩,
   ⟨none, some 25, 25, .bin .lss (.t 24) (.k (.one (.pv (.int .i64 0))))⟩])
 (.cond 25 (.seq (.reg [⟨none, some 4, 4, .mv (.k (.one (.pv (.int .i64 (-1)))))⟩])
 (.ret)) (.skip)))))
 (.reg [⟨none, some 16, 16, .mv (.t 5)⟩,
   ⟨none, some 17, 17, .bin .add (.t 16) (.k (.one (.pv (.int .i64 1))))⟩,
   ⟨none, some 5, 5, .mv (.t 17)⟩]))))))
 (.norm [1] (.seq (.reg [⟨none, some 26, 26, .mv (.t 1)⟩,
   ⟨none, some 4, 4, .mv (.t 26)⟩])
 (.ret))))))⟩
abbrev C_l_szRowS (Te : Nat → List AV → Res → Prop) : Prop := ∀ (l : List RowV) (k : Int) (hk : 0 ≤ k ∧ k ≤ 2 ^ 48) (hl : l.length ≤ 2 ^ 48) (hs : ∀ y ∈ l, y.In (2 ^ 48)), Te 110 [.one (slT false 7 (RowV.enc false) l), .one (iT k)] ⟨[.one (iT (szSl szRow l k))], [[slT false 7 (RowV.enc false) l], [iT k]]⟩
theorem r_l_szRowS {Te : Nat → List AV → Res → Prop} (c_l_szRow : C_l_szRow Te) : ∀ (l : List RowV) (k : Int) (hk : 0 ≤ k ∧ k ≤ 2 ^ 48) (hl : l.length ≤ 2 ^ 48) (hs : ∀ y ∈ l, y.In (2 ^ 48)), RunFn Te x_l_szRowS [.one (slT false 7 (RowV.enc false) l), .one (iT k)] ⟨[.one (iT (szSl szRow l k))], [[slT false 7 (RowV.enc false) l], [iT k]]⟩ := by
  intro l k hk hl hs
  refine ⟨by simp -implicitDefEqProofs only [x_l_szRowS, go_sem], ?_⟩
  simp -implicitDefEqProofs (disch := omega) only [x_l_szRowS, go_sem, IntWalk.i64_in]
  refine ⟨fun h => ?_, fun h => ?_⟩
  · simp only [decide_eq_true_eq] at h
    simp only [szSl, szAll, if_pos h]
  · simp only [decide_eq_false_iff_not] at h
    refine loop_of (σ := Nat × Int) (fun x => ⟨[(0, .one (.ro 7 (l.map (RowV.enc false)))), (1, .one (.pv (.int .i64 x.2))), (5, .one (.pv (.int .i64 x.1)))], [], [(0, [slT false 7 (RowV.enc false) l]), (1, [iT k])]⟩) (fun x => x.1 ≤ l.length ∧ 0 ≤ x.2 ∧ x.2 ≤ k ∧ szSl szRow l k = szAll ((l.drop x.1).map szRow) x.2) (fun x => l.length - x.1) (0, k - l.length) ?_ ⟨Nat.zero_le _, by omega, by omega, by simp only [szSl, szAll, if_neg h, List.drop_zero]⟩ ?_
    · simp -implicitDefEqProofs only [go_sem]; rfl
    · rintro ⟨i, c⟩ ⟨hi, h0, h1, he⟩
      simp only at hi h0 h1 he
      simp -implicitDefEqProofs only [go_sem]
      refine ⟨fun h => ?_, fun h => ?_⟩
      · have hi' : i < l.length := by simp only [decide_eq_true_eq] at h; omega
        have hsz := hs l[i] (List.getElem_mem hi')
        have hsn : szRow l[i] c ≤ c := szRow_sane l[i] c h0
        rw [List.drop_eq_getElem_cons hi'] at he
        simp -implicitDefEqProofs (disch := omega) only [go_sem, List.getElem?_eq_getElem hi', IntWalk.i64_in]
        refine .of (c_l_szRow _ _ hsz ⟨h0, by omega⟩) ?_
        simp -implicitDefEqProofs only [go_sem]
        refine ⟨fun h2 => ?_, fun h2 => ?_⟩
        · simp only [decide_eq_true_eq] at h2
          rw [he]
          simp only [List.map_cons, szAll, if_pos h2]
        · simp only [decide_eq_false_iff_not] at h2
          refine ⟨(i + 1, szRow l[i] c), by rw [IntWalk.i64_in _ (by omega)]; rfl, ⟨hi', by omega, by simp only; omega, ?_⟩, by simp only; omega⟩
          rw [he]
          simp only [List.map_cons, szAll, if_neg h2]
      · have hle : l.length ≤ i := by simp only [decide_eq_false_iff_not] at h; omega
        rw [List.drop_of_length_le hle] at he
        simp only [szAll, List.map_nil] at he
        rw [he]
def x_l_toRowS : FnX := ⟨23, [.tmp 2],
  .seq (.reg [⟨none, some 2, 2, .mv (.k (.one (.nils 7)))⟩])
 (.seq (.reg [⟨none, some 5, 5, .mv (.t 0)⟩,
   ⟨none, some 6, 6, .len (.t 5)⟩,
   ⟨none, some 7, 7, .mks 7 96 [.pv (.string ⟨#[]⟩), .pv (.int .i64 0), .sl true 1 () [], .pv (.int .i64 0), .sl true 1 () [], .pv (.int .i64 0), .pv (.bool false)] (.t 6)⟩,
   ⟨none, some 3, 3, .mv (.t 7)⟩])
 (.seq (.seq (.reg [⟨none, some 4, 4, .mv (.k (.one (.pv (.int .i64 0))))⟩])
 (.block 0 (.loop [0, 3, 4] (.seq (.seq (.reg [⟨none, some 8, 8, .mv (.t 4)⟩,
   ⟨none, some 9, 9, .mv (.t 0)⟩,
   ⟨none, some 10, 10, .len (.t 9)⟩,
   ⟨none, some 11, 11, .bin .lss (.t 8) (.t 10)⟩])
 (.cond 11 (.skip) (.exit 0)))
 (.seq (.block 1 (.reg [⟨none, some 14, 14, .mv (.t 3)⟩,
   ⟨none, some 15, 15, .mv (.t 4)⟩,
   ⟨none, some 16, 16, .mv (.t 0)⟩,
   ⟨none, some 17, 17, .mv (.t 4)⟩,
   ⟨none, some 18, 18, .iaddr 7 (.t 16) (.t 17)⟩,
   ⟨none, some 19, 19, .load (some 7) (.t 18)⟩,
   ⟨none, some 20, 20, .call 161 [0] [(.t 19)]⟩,
   ⟨none, some 21, 21, .iaddr 7 (.t 14) (.t 15)⟩,
   ⟨none, none, 100001, .store 7 (.t 21) (.t 20)⟩]))
 (.reg [⟨none, some 12, 12, .mv (.t 4)⟩,
   ⟨none, some 13, 13, .bin .add (.t 12) (.k (.one (.pv (.int .i64 1))))⟩,
   ⟨none, some 4, 4, .mv (.t 13)⟩]))))))
 (.norm [3] (.seq (.reg [⟨none, some 22, 22, .mv (.t 3)⟩,
   ⟨none, some 2, 2, .mv (.t 22)⟩])
 (.ret)))))⟩
abbrev C_l_toRowS (Te : Nat → List AV → Res → Prop) : Prop := ∀ (l : List RowV) (hl : (l.length ≤ 2 ^ 21 ∧ ∀ y ∈ l, y.Len)), Te 116 [.one (slT false 7 (RowV.enc false) l)] ⟨[.one (slT true 7 (RowV.enc true) l)], [[slT false 7 (RowV.enc false) l]]⟩
theorem r_l_toRowS {Te : Nat → List AV → Res → Prop} (c_l_toRow : C_l_toRow Te) : ∀ (l : List RowV) (hl : (l.length ≤ 2 ^ 21 ∧ ∀ y ∈ l, y.Len)), RunFn Te x_l_toRowS [.one (slT false 7 (RowV.enc false) l)] ⟨[.one (slT true 7 (RowV.enc true) l)], [[slT false 7 (RowV.enc false) l]]⟩ := by
  intro l hl
  refine ⟨by simp -implicitDefEqProofs only [x_l_toRowS, go_sem], ?_⟩
  have hl1 := hl.1
  simp -implicitDefEqProofs (disch := omega) only [x_l_toRowS, go_sem, IntWalk.i64_in]
  refine ⟨⟨by simp only [decide_eq_true_eq]; omega, by simp only [decide_eq_true_eq]; omega⟩, ?_⟩
  refine loop_of (σ := Nat) (fun i => ⟨[(0, .one (.ro 7 (l.map (RowV.enc false)))), (3, .one (.rf 24 0 [] 7 0 l.length)), (4, .one (.pv (.int .i64 i)))], [],
    [(0, [slT false 7 (RowV.enc false) l]), (24, [.sl true 7 () ((l.take i).map (RowV.enc true) ++ List.replicate (l.length - i) [.pv (.string ⟨#[]⟩), .pv (.int .i64 0), .sl true 1 () [], .pv (.int .i64 0), .sl true 1 () [], .pv (.int .i64 0), .pv (.bool false)])])]⟩) (fun i => i ≤ l.length) (fun i => l.length - i) 0 ?_ (Nat.zero_le _) ?_
  · simp -implicitDefEqProofs only [go_sem]; rfl
  · intro i hi
    simp -implicitDefEqProofs only [go_sem]
    refine ⟨fun h => ?_, fun h => ?_⟩
    · have hi' : i < l.length := by simp only [decide_eq_true_eq] at h; omega
      simp -implicitDefEqProofs only [go_sem, List.getElem?_eq_getElem hi', fill_len (RowV.enc true) l [.pv (.string ⟨#[]⟩), .pv (.int .i64 0), .sl true 1 () [], .pv (.int .i64 0), .sl true 1 () [], .pv (.int .i64 0), .pv (.bool false)] hi, storeAp, setCells, List.getD_eq_getElem?_getD, fill_get (RowV.enc true) l [.pv (.string ⟨#[]⟩), .pv (.int .i64 0), .sl true 1 () [], .pv (.int .i64 0), .sl true 1 () [], .pv (.int .i64 0), .pv (.bool false)] hi']
      refine .of (c_l_toRow _ (hl.2 _ (List.getElem_mem hi'))) ?_
      simp -implicitDefEqProofs only [go_sem, fill_len (RowV.enc true) l [.pv (.string ⟨#[]⟩), .pv (.int .i64 0), .sl true 1 () [], .pv (.int .i64 0), .sl true 1 () [], .pv (.int .i64 0), .pv (.bool false)] hi, storeAp, setCells, List.getD_eq_getElem?_getD, fill_get (RowV.enc true) l [.pv (.string ⟨#[]⟩), .pv (.int .i64 0), .sl true 1 () [], .pv (.int .i64 0), .sl true 1 () [], .pv (.int .i64 0), .pv (.bool false)] hi']
      repeat (first | refine ⟨by decide, ?_⟩ | refine ⟨by simpa using hi', ?_⟩)
      refine ⟨i + 1, ?_, hi', by omega⟩
      rw [← fill_set (RowV.enc true) l [.pv (.string ⟨#[]⟩), .pv (.int .i64 0), .sl true 1 () [], .pv (.int .i64 0), .sl true 1 () [], .pv (.int .i64 0), .pv (.bool false)] hi', IntWalk.i64_in _ (by omega)]
      rfl
    · have : i = l.length := by simp only [decide_eq_false_iff_not] at h; omega
      subst this
      simp -implicitDefEqProofs only [go_sem, fill_len (RowV.enc true) l [.pv (.string ⟨#[]⟩), .pv (.int .i64 0), .sl true 1 () [], .pv (.int .i64 0), .sl true 1 () [], .pv (.int .i64 0), .pv (.bool false)] hi, fill_end]
      refine ⟨by simp, ?_⟩
      simp [take_map]
def x_l_eqRowS : FnX := ⟨27, [.tmp 4],
  .seq (.reg [⟨none, some 4, 4, .mv (.k (.one (.pv (.bool false))))⟩])
 (.seq (.seq (.reg [⟨none, some 6, 6, .mv (.t 0)⟩,
   ⟨none, some 7, 7, .len (.t 6)⟩,
   ⟨none, some 8, 8, .mv (.t 1)⟩,
   ⟨none, some 9, 9, .len (.t 8)⟩,
   ⟨none, some 10, 10, .bin .neq (.t 7) (.t 9)⟩])
 (.cond 10 (.seq (.reg [⟨none, some 4, 4, .mv (.k (.one (.pv (.bool false))))⟩])
 (.ret)) (.skip)))
 (.seq (.seq (.reg [⟨none, some 5, 5, .mv (.k (.one (.pv (.int .i64 0))))⟩])
 (.block 0 (.loop [0, 1, 5] (.seq (.seq (.reg [⟨none, some 11, 11, .mv (.t 5)⟩,
   ⟨none, some 12, 12, .mv (.t 0)⟩,
   ⟨none, some 13, 13, .len (.t 12)⟩,
   ⟨none, some 14, 14, .bin .lss (.t 11) (.t 13)⟩])
 (.cond 14 (.skip) (.exit 0)))
 (.seq (.block 1 (.seq (.draw [⟨none, some 17, 17, .mv (.t 0)⟩,
   ⟨none, some 18, 18, .mv (.t 5)⟩,
   ⟨none, some 19, 19, .iaddr 7 (.t 17) (.t 18)⟩,
   ⟨none, some 20, 20, .load (some 7) (.t 19)⟩,
   ⟨none, some 21, 21, .mv (.t 1)⟩,
   ⟨none, some 22, 22, .mv (.t 5)⟩,
   ⟨none, some 23, 23, .iaddr 7 (.t 21) (.t 22)⟩,
   ⟨none, some 24, 24, .load (some 7) (.t 23)⟩,
   ⟨none, some 25, 25, .call 168 [0, 0] [(.t 20), (.t 24)]⟩,
   ⟨none, some 26, 26, .not (.t 25)⟩] [[], [], [0, 1], [2], [], [], [4, 5], [6], [3, 7], [8]])
 (.cond 26 (.seq (.reg [⟨none, some 4, 4, .mv (.k (.one (.pv (.bool false))))⟩])
 (.ret)) (.skip))))
 (.reg [⟨none, some 15, 15, .mv (.t 5)⟩,
   ⟨none, some 16, 16, .bin .add (.t 15) (.k (.one (.pv (.int .i64 1))))⟩,
   ⟨none, some 5, 5, .mv (.t 16)⟩]))))))
 (.norm [] (.seq (.reg [⟨none, some 4, 4, .mv (.k (.one (.pv (.bool true))))⟩])
 (.ret)))))⟩
abbrev C_l_eqRowS (Te : Nat → List AV → Res → Prop) : Prop := ∀ (l m : List RowV) (hl : (l.length ≤ 2 ^ 21 ∧ ∀ y ∈ l, y.Len)), Te 122 [.one (slT false 7 (RowV.enc false) l), .one (slT false 7 (RowV.enc false) m)] ⟨[.one (bT (decide (l = m)))], [[slT false 7 (RowV.enc false) l], [slT false 7 (RowV.enc false) m]]⟩
theorem r_l_eqRowS {Te : Nat → List AV → Res → Prop} (c_l_eqRow : C_l_eqRow Te) : ∀ (l m : List RowV) (hl : (l.length ≤ 2 ^ 21 ∧ ∀ y ∈ l, y.Len)), RunFn Te x_l_eqRowS [.one (slT false 7 (RowV.enc false) l), .one (slT false 7 (RowV.enc false) m)] ⟨[.one (bT (decide (l = m)))], [[slT false 7 (RowV.enc false) l], [slT false 7 (RowV.enc false) m]]⟩ := by
  intro l m hl
  refine ⟨by simp -implicitDefEqProofs only [x_l_eqRowS, go_sem], ?_⟩
  have hl1 := hl.1
  simp -implicitDefEqProofs (disch := omega) only [x_l_eqRowS, go_sem, IntWalk.i64_in]
  refine ⟨fun h => ?_, fun h => ?_⟩
  · have : l ≠ m := fun e => by simp [e] at h
    simp [this]
  · have hlen : l.length = m.length := by simp at h; omega
    refine loop_of (σ := Nat) (fun i => ⟨[(0, .one (.ro 7 (l.map (RowV.enc false)))), (1, .one (.ro 7 (m.map (RowV.enc false)))), (5, .one (.pv (.int .i64 i)))], [], [(0, [slT false 7 (RowV.enc false) l]), (1, [slT false 7 (RowV.enc false) m])]⟩) (fun i => i ≤ l.length ∧ l.take i = m.take i) (fun i => l.length - i) 0 ?_ ⟨Nat.zero_le _, by simp⟩ ?_
    · simp -implicitDefEqProofs only [go_sem]; rfl
    · intro i ⟨hi, hs⟩
      simp -implicitDefEqProofs only [go_sem]
      refine ⟨fun h => ?_, fun h => ?_⟩
      · have hi' : i < l.length := by simp only [decide_eq_true_eq] at h; omega
        have hj' : i < m.length := by omega
        simp -implicitDefEqProofs only [go_sem, List.getElem?_eq_getElem hi', List.getElem?_eq_getElem hj']
        refine .of (c_l_eqRow _ _ (hl.2 _ (List.getElem_mem hi'))) ?_
        simp -implicitDefEqProofs only [go_sem]
        refine ⟨by decide, fun h2 => ?_, fun h2 => ?_⟩
        · have : l ≠ m := fun e => by subst e; simp at h2
          simp [this]
        · refine ⟨i + 1, by rw [IntWalk.i64_in _ (by omega)]; rfl, ⟨hi', same_step hi' hj' hs ?_⟩, by omega⟩
          simpa using h2
      · have hle : l.length ≤ i := by simp only [decide_eq_false_iff_not] at h; omega
        have : l = m := same_end hle (by omega) hs
        simp [this]
structure MarkV where
  Who : Int
  Seq : Int
  Code : Int
  deriving DecidableEq
abbrev MarkV.row (x : MarkV) : List Go.X.T := [iT x.Who, iT x.Seq, iT x.Code]
def mkMark (k : Int) : MarkV := ⟨k, k + 1, k + 1 + 1⟩
def x_l_toMark : FnX := ⟨14, [.cell 2 (some 3)],
  .seq (.reg [⟨none, some 1, 1, .box (.t 0)⟩,
   ⟨none, some 2, 2, .alloc [.pv (.int .i64 0), .pv (.int .i64 0), .pv (.int .i64 0)]⟩])
 (.seq (.reg [⟨none, some 3, 3, .alloc [.pv (.int .i64 0), .pv (.int .i64 0), .pv (.int .i64 0)]⟩])
 (.seq (.reg [⟨none, some 4, 4, .faddr (.t 1) 0⟩,
   ⟨none, some 5, 5, .load none (.t 4)⟩,
   ⟨none, some 6, 6, .faddr (.t 3) 0⟩,
   ⟨none, none, 100001, .store 1 (.t 6) (.t 5)⟩])
 (.seq (.reg [⟨none, some 7, 7, .faddr (.t 1) 1⟩,
   ⟨none, some 8, 8, .load none (.t 7)⟩,
   ⟨none, some 9, 9, .faddr (.t 3) 1⟩,
   ⟨none, none, 100002, .store 1 (.t 9) (.t 8)⟩])
 (.seq (.reg [⟨none, some 10, 10, .faddr (.t 1) 2⟩,
   ⟨none, some 11, 11, .load none (.t 10)⟩,
   ⟨none, some 12, 12, .faddr (.t 3) 2⟩,
   ⟨none, none, 100003, .store 1 (.t 12) (.t 11)⟩])
 (.seq (.reg [⟨none, some 13, 13, .load (some 3) (.t 3)⟩,
   ⟨none, none, 100004, .store 3 (.t 2) (.t 13)⟩])
 (.ret))))))⟩
abbrev C_l_toMark (Te : Nat → List AV → Res → Prop) : Prop := ∀ (x : MarkV), Te 162 [.agg x.row] ⟨[.agg x.row], [x.row]⟩
theorem r_l_toMark {Te : Nat → List AV → Res → Prop} : ∀ (x : MarkV), RunFn Te x_l_toMark [.agg x.row] ⟨[.agg x.row], [x.row]⟩ := by
  intro x
  refine ⟨by simp -implicitDefEqProofs only [x_l_toMark, go_sem], ?_⟩
  simp -implicitDefEqProofs only [x_l_toMark, go_sem]
def x_l_eqMark : FnX := ⟨20, [.tmp 4],
  .seq (.reg [⟨none, some 2, 2, .box (.t 0)⟩,
   ⟨none, some 3, 3, .box (.t 1)⟩,
   ⟨none, some 4, 4, .mv (.k (.one (.pv (.bool false))))⟩])
 (.seq (.seq (.reg [⟨none, some 5, 5, .faddr (.t 2) 0⟩,
   ⟨none, some 6, 6, .load none (.t 5)⟩,
   ⟨none, some 7, 7, .faddr (.t 3) 0⟩,
   ⟨none, some 8, 8, .load none (.t 7)⟩,
   ⟨none, some 9, 9, .bin .neq (.t 6) (.t 8)⟩])
 (.cond 9 (.seq (.reg [⟨none, some 4, 4, .mv (.k (.one (.pv (.bool false))))⟩])
 (.ret)) (.skip)))
 (.seq (.seq (.reg [⟨none, some 10, 10, .faddr (.t 2) 1⟩,
   ⟨none, some 11, 11, .load none (.t 10)⟩,
   ⟨none, some 12, 12, .faddr (.t 3) 1⟩,
   ⟨none, some 13, 13, .load none (.t 12)⟩,
   ⟨none, some 14, 14, .bin .neq (.t 11) (.t 13)⟩])
 (.cond 14 (.seq (.reg [⟨none, some 4, 4, .mv (.k (.one (.pv (.bool false))))⟩])
 (.ret)) (.skip)))
 (.seq (.seq (.reg [⟨none, some 15, 15, .faddr (.t 2) 2⟩,
   ⟨none, some 16, 16, .load none (.t 15)⟩,
   ⟨none, some 17, 17, .faddr (.t 3) 2⟩,
   ⟨none, some 18, 18, .load none (.t 17)⟩,
   ⟨none, some 19, 19, .bin .neq (.t 16) (.t 18)⟩])
 (.cond 19 (.seq (.reg [⟨none, some 4, 4, .mv (.k (.one (.pv (.bool false))))⟩])
 (.ret)) (.skip)))
 (.seq (.reg [⟨none, some 4, 4, .mv (.k (.one (.pv (.bool true))))⟩])
 (.ret)))))⟩
abbrev C_l_eqMark (Te : Nat → List AV → Res → Prop) : Prop := ∀ (x y : MarkV), Te 169 [.agg x.row, .agg y.row] ⟨[.one (bT (decide (x = y)))], [x.row, y.row]⟩
theorem r_l_eqMark {Te : Nat → List AV → Res → Prop} : ∀ (x y : MarkV), RunFn Te x_l_eqMark [.agg x.row, .agg y.row] ⟨[.one (bT (decide (x = y)))], [x.row, y.row]⟩ := by
  intro x y
  refine ⟨by simp -implicitDefEqProofs only [x_l_eqMark, go_sem], ?_⟩
  have key : (x = y) ↔ x.Who = y.Who ∧ x.Seq = y.Seq ∧ x.Code = y.Code := by cases x; cases y; simp
  simp only [key]
  clear key
  simp -implicitDefEqProofs only [x_l_eqMark, go_sem]
  refine ⟨fun q => ?_, fun q => ?_⟩
  · have n0 : ¬ (x.Who = y.Who) := by simpa using q
    simp only [n0, false_and, and_false, true_and, decide_false]
  have e0 : x.Who = y.Who := by simpa using q
  clear q
  refine ⟨fun q => ?_, fun q => ?_⟩
  · have n1 : ¬ (x.Seq = y.Seq) := by simpa using q
    simp only [e0, n1, false_and, and_false, true_and, decide_false]
  have e1 : x.Seq = y.Seq := by simpa using q
  clear q
  refine ⟨fun q => ?_, fun q => ?_⟩
  · have n2 : ¬ (x.Code = y.Code) := by simpa using q
    simp only [e0, e1, n2, false_and, and_false, true_and, decide_false]
  have e2 : x.Code = y.Code := by simpa using q
  clear q
  simp only [e0, e1, e2, true_and, and_true, decide_true]
def x_l_szMarkS : FnX := ⟨12, [.tmp 4],
  .seq (.reg [⟨none, some 4, 4, .mv (.k (.one (.pv (.int .i64 0))))⟩])
 (.seq (.reg [⟨none, some 5, 5, .mv (.t 1)⟩,
   ⟨none, some 6, 6, .mv (.t 0)⟩,
   ⟨none, some 7, 7, .len (.t 6)⟩,
   ⟨none, some 8, 8, .bin .sub (.t 5) (.t 7)⟩,
   ⟨none, some 1, 1, .mv (.t 8)⟩])
 (.seq (.seq (.reg [⟨none, some 9, 9, .mv (.t 1)⟩,
   ⟨none, some 10, 10, .bin .lss (.t 9) (.k (.one (.pv (.int .i64 0))))⟩])
 (.cond 10 (.seq (.reg [⟨none, some 4, 4, .mv (.k (.one (.pv (.int .i64 (-1)))))⟩])
 (.ret)) (.skip)))
 (.seq (.reg [⟨none, some 11, 11, .mv (.t 1)⟩,
   ⟨none, some 4, 4, .mv (.t 11)⟩])
 (.ret))))⟩
abbrev C_l_szMarkS (Te : Nat → List AV → Res → Prop) : Prop := ∀ (l : List MarkV) (k : Int) (hl : l.length ≤ 2 ^ 48) (hk : 0 ≤ k ∧ k ≤ 2 ^ 48), Te 111 [.one (slT false 3 MarkV.row l), .one (iT k)] ⟨[.one (iT (left (k - (l.length : Nat))))], [[slT false 3 MarkV.row l], [iT k]]⟩
theorem r_l_szMarkS {Te : Nat → List AV → Res → Prop} : ∀ (l : List MarkV) (k : Int) (hl : l.length ≤ 2 ^ 48) (hk : 0 ≤ k ∧ k ≤ 2 ^ 48), RunFn Te x_l_szMarkS [.one (slT false 3 MarkV.row l), .one (iT k)] ⟨[.one (iT (left (k - (l.length : Nat))))], [[slT false 3 MarkV.row l], [iT k]]⟩ := by
  intro l k hl hk
  refine ⟨by simp -implicitDefEqProofs only [x_l_szMarkS, go_sem], ?_⟩
  simp -implicitDefEqProofs (disch := omega) only [x_l_szMarkS, go_sem, IntWalk.i64_in]
  refine ⟨fun h => ?_, fun h => ?_⟩
  · simp only [decide_eq_true_eq] at h
    simp only [left, if_pos h]
  · simp only [decide_eq_false_iff_not] at h
    simp only [left, if_neg h]
def x_l_toMarkS : FnX := ⟨23, [.tmp 2],
  .seq (.reg [⟨none, some 2, 2, .mv (.k (.one (.nils 3)))⟩])
 (.seq (.reg [⟨none, some 5, 5, .mv (.t 0)⟩,
   ⟨none, some 6, 6, .len (.t 5)⟩,
   ⟨none, some 7, 7, .mks 3 24 [.pv (.int .i64 0), .pv (.int .i64 0), .pv (.int .i64 0)] (.t 6)⟩,
   ⟨none, some 3, 3, .mv (.t 7)⟩])
 (.seq (.seq (.reg [⟨none, some 4, 4, .mv (.k (.one (.pv (.int .i64 0))))⟩])
 (.block 0 (.loop [0, 3, 4] (.seq (.seq (.reg [⟨none, some 8, 8, .mv (.t 4)⟩,
   ⟨none, some 9, 9, .mv (.t 0)⟩,
   ⟨none, some 10, 10, .len (.t 9)⟩,
   ⟨none, some 11, 11, .bin .lss (.t 8) (.t 10)⟩])
 (.cond 11 (.skip) (.exit 0)))
 (.seq (.block 1 (.reg [⟨none, some 14, 14, .mv (.t 3)⟩,
   ⟨none, some 15, 15, .mv (.t 4)⟩,
   ⟨none, some 16, 16, .mv (.t 0)⟩,
   ⟨none, some 17, 17, .mv (.t 4)⟩,
   ⟨none, some 18, 18, .iaddr 3 (.t 16) (.t 17)⟩,
   ⟨none, some 19, 19, .load (some 3) (.t 18)⟩,
   ⟨none, some 20, 20, .call 162 [0] [(.t 19)]⟩,
   ⟨none, some 21, 21, .iaddr 3 (.t 14) (.t 15)⟩,
   ⟨none, none, 100001, .store 3 (.t 21) (.t 20)⟩]))
 (.reg [⟨none, some 12, 12, .mv (.t 4)⟩,
   ⟨none, some 13, 13, .bin .add (.t 12) (.k (.one (.pv (.int .i64 1))))⟩,
   ⟨none, some 4, 4, .mv (.t 13)⟩]))))))
 (.norm [3] (.seq (.reg [⟨none, some 22, 22, .mv (.t 3)⟩,
   ⟨none, some 2, 2, .mv (.t 22)⟩])
 (.ret)))))⟩
abbrev C_l_toMarkS (Te : Nat → List AV → Res → Prop) : Prop := ∀ (l : List MarkV) (hl : l.length ≤ 2 ^ 31), Te 117 [.one (slT false 3 MarkV.row l)] ⟨[.one (slT true 3 MarkV.row l)], [[slT false 3 MarkV.row l]]⟩
theorem r_l_toMarkS {Te : Nat → List AV → Res → Prop} (c_l_toMark : C_l_toMark Te) : ∀ (l : List MarkV) (hl : l.length ≤ 2 ^ 31), RunFn Te x_l_toMarkS [.one (slT false 3 MarkV.row l)] ⟨[.one (slT true 3 MarkV.row l)], [[slT false 3 MarkV.row l]]⟩ := by
  intro l hl
  refine ⟨by simp -implicitDefEqProofs only [x_l_toMarkS, go_sem], ?_⟩
  simp -implicitDefEqProofs (disch := omega) only [x_l_toMarkS, go_sem, IntWalk.i64_in]
  refine ⟨⟨by simp only [decide_eq_true_eq]; omega, by simp only [decide_eq_true_eq]; omega⟩, ?_⟩
  refine loop_of (σ := Nat) (fun i => ⟨[(0, .one (.ro 3 (l.map MarkV.row))), (3, .one (.rf 24 0 [] 3 0 l.length)), (4, .one (.pv (.int .i64 i)))], [],
    [(0, [slT false 3 MarkV.row l]), (24, [.sl true 3 () ((l.take i).map MarkV.row ++ List.replicate (l.length - i) [.pv (.int .i64 0), .pv (.int .i64 0), .pv (.int .i64 0)])])]⟩) (fun i => i ≤ l.length) (fun i => l.length - i) 0 ?_ (Nat.zero_le _) ?_
  · simp -implicitDefEqProofs only [go_sem]; rfl
  · intro i hi
    simp -implicitDefEqProofs only [go_sem]
    refine ⟨fun h => ?_, fun h => ?_⟩
    · have hi' : i < l.length := by simp only [decide_eq_true_eq] at h; omega
      simp -implicitDefEqProofs only [go_sem, List.getElem?_eq_getElem hi', fill_len MarkV.row l [.pv (.int .i64 0), .pv (.int .i64 0), .pv (.int .i64 0)] hi, storeAp, setCells, List.getD_eq_getElem?_getD, fill_get MarkV.row l [.pv (.int .i64 0), .pv (.int .i64 0), .pv (.int .i64 0)] hi']
      refine .of (c_l_toMark _) ?_
      simp -implicitDefEqProofs only [go_sem, fill_len MarkV.row l [.pv (.int .i64 0), .pv (.int .i64 0), .pv (.int .i64 0)] hi, storeAp, setCells, List.getD_eq_getElem?_getD, fill_get MarkV.row l [.pv (.int .i64 0), .pv (.int .i64 0), .pv (.int .i64 0)] hi']
      repeat (first | refine ⟨by decide, ?_⟩ | refine ⟨by simpa using hi', ?_⟩)
      refine ⟨i + 1, ?_, hi', by omega⟩
      rw [← fill_set MarkV.row l [.pv (.int .i64 0), .pv (.int .i64 0), .pv (.int .i64 0)] hi', IntWalk.i64_in _ (by omega)]
      rfl
    · have : i = l.length := by simp only [decide_eq_false_iff_not] at h; omega
      subst this
      simp -implicitDefEqProofs only [go_sem, fill_len MarkV.row l [.pv (.int .i64 0), .pv (.int .i64 0), .pv (.int .i64 0)] hi, fill_end]
      refine ⟨by simp, ?_⟩
      simp [take_map]
def x_l_eqMarkS : FnX := ⟨27, [.tmp 4],
  .seq (.reg [⟨none, some 4, 4, .mv (.k (.one (.pv (.bool false))))⟩])
 (.seq (.seq (.reg [⟨none, some 6, 6, .mv (.t 0)⟩,
   ⟨none, some 7, 7, .len (.t 6)⟩,
   ⟨none, some 8, 8, .mv (.t 1)⟩,
   ⟨none, some 9, 9, .len (.t 8)⟩,
   ⟨none, some 10, 10, .bin .neq (.t 7) (.t 9)⟩])
 (.cond 10 (.seq (.reg [⟨none, some 4, 4, .mv (.k (.one (.pv (.bool false))))⟩])
 (.ret)) (.skip)))
 (.seq (.seq (.reg [⟨none, some 5, 5, .mv (.k (.one (.pv (.int .i64 0))))⟩])
 (.block 0 (.loop [0, 1, 5] (.seq (.seq (.reg [⟨none, some 11, 11, .mv (.t 5)⟩,
   ⟨none, some 12, 12, .mv (.t 0)⟩,
   ⟨none, some 13, 13, .len (.t 12)⟩,
   ⟨none, some 14, 14, .bin .lss (.t 11) (.t 13)⟩])
 (.cond 14 (.skip) (.exit 0)))
 (.seq (.block 1 (.seq (.draw [⟨none, some 17, 17, .mv (.t 0)⟩,
   ⟨none, some 18, 18, .mv (.t 5)⟩,
   ⟨none, some 19, 19, .iaddr 3 (.t 17) (.t 18)⟩,
   ⟨none, some 20, 20, .load (some 3) (.t 19)⟩,
   ⟨none, some 21, 21, .mv (.t 1)⟩,
   ⟨none, some 22, 22, .mv (.t 5)⟩,
   ⟨none, some 23, 23, .iaddr 3 (.t 21) (.t 22)⟩,
   ⟨none, some 24, 24, .load (some 3) (.t 23)⟩,
   ⟨none, some 25, 25, .call 169 [0, 0] [(.t 20), (.t 24)]⟩,
   ⟨none, some 26, 26, .not (.t 25)⟩] [[], [], [0, 1], [2], [], [], [4, 5], [6], [3, 7], [8]])
 (.cond 26 (.seq (.reg [⟨none, some 4, 4, .mv (.k (.one (.pv (.bool false))))⟩])
 (.ret)) (.skip))))
 (.reg [⟨none, some 15, 15, .mv (.t 5)⟩,
   ⟨none, some 16, 16, .bin .add (.t 15) (.k (.one (.pv (.int .i64 1))))⟩,
   ⟨none, some 5, 5, .mv (.t 16)⟩]))))))
 (.norm [] (.seq (.reg [⟨none, some 4, 4, .mv (.k (.one (.pv (.bool true))))⟩])
 (.ret)))))⟩
abbrev C_l_eqMarkS (Te : Nat → List AV → Res → Prop) : Prop := ∀ (l m : List MarkV) (hl : l.length ≤ 2 ^ 31), Te 123 [.one (slT false 3 MarkV.row l), .one (slT false 3 MarkV.row m)] ⟨[.one (bT (decide (l = m)))], [[slT false 3 MarkV.row l], [slT false 3 MarkV.row m]]⟩
theorem r_l_eqMarkS {Te : Nat → List AV → Res → Prop} (c_l_eqMark : C_l_eqMark Te) : ∀ (l m : List MarkV) (hl : l.length ≤ 2 ^ 31), RunFn Te x_l_eqMarkS [.one (slT false 3 MarkV.row l), .one (slT false 3 MarkV.row m)] ⟨[.one (bT (decide (l = m)))], [[slT false 3 MarkV.row l], [slT false 3 MarkV.row m]]⟩ := by
  intro l m hl
  refine ⟨by simp -implicitDefEqProofs only [x_l_eqMarkS, go_sem], ?_⟩
  simp -implicitDefEqProofs (disch := omega) only [x_l_eqMarkS, go_sem, IntWalk.i64_in]
  refine ⟨fun h => ?_, fun h => ?_⟩
  · have : l ≠ m := fun e => by simp [e] at h
    simp [this]
  · have hlen : l.length = m.length := by simp at h; omega
    refine loop_of (σ := Nat) (fun i => ⟨[(0, .one (.ro 3 (l.map MarkV.row))), (1, .one (.ro 3 (m.map MarkV.row))), (5, .one (.pv (.int .i64 i)))], [], [(0, [slT false 3 MarkV.row l]), (1, [slT false 3 MarkV.row m])]⟩) (fun i => i ≤ l.length ∧ l.take i = m.take i) (fun i => l.length - i) 0 ?_ ⟨Nat.zero_le _, by simp⟩ ?_
    · simp -implicitDefEqProofs only [go_sem]; rfl
    · intro i ⟨hi, hs⟩
      simp -implicitDefEqProofs only [go_sem]
      refine ⟨fun h => ?_, fun h => ?_⟩
      · have hi' : i < l.length := by simp only [decide_eq_true_eq] at h; omega
        have hj' : i < m.length := by omega
        simp -implicitDefEqProofs only [go_sem, List.getElem?_eq_getElem hi', List.getElem?_eq_getElem hj']
        refine .of (c_l_eqMark _ _) ?_
        simp -implicitDefEqProofs only [go_sem]
        refine ⟨by decide, fun h2 => ?_, fun h2 => ?_⟩
        · have : l ≠ m := fun e => by subst e; simp at h2
          simp [this]
        · refine ⟨i + 1, by rw [IntWalk.i64_in _ (by omega)]; rfl, ⟨hi', same_step hi' hj' hs ?_⟩, by omega⟩
          simpa using h2
      · have hle : l.length ≤ i := by simp only [decide_eq_false_iff_not] at h; omega
        have : l = m := same_end hle (by omega) hs
        simp [this]
structure TabV where
  Rows : List RowV
  Phase : Int
  Marks : List MarkV
  deriving DecidableEq
abbrev TabV.enc (o : Bool) (x : TabV) : List Go.X.T := [slT o 7 (RowV.enc o) x.Rows, iT x.Phase, slT o 3 MarkV.row x.Marks]
def TabV.In (n : Nat) (x : TabV) : Prop := (x.Rows.length ≤ n ∧ ∀ y ∈ x.Rows, y.In (n)) ∧ x.Marks.length ≤ n
theorem TabV.In.mono {x : TabV} {n m : Nat} (h : x.In n) (hn : n ≤ m) : x.In m := by
  simp only [TabV.In] at h ⊢
  exact ⟨⟨Nat.le_trans h.1.1 hn, fun y hy => (h.1.2 y hy).mono hn⟩, Nat.le_trans h.2 hn⟩
def szTab (x : TabV) (k : Int) : Int := szAll [(szSl szRow x.Rows), (fun k => left (k - (x.Marks.length : Nat)))] k
theorem szTab_sane (x : TabV) : Sane (szTab x) := Sane.all (.cons (Sane.sl szRow_sane _) (.cons (Sane.left _) .nil))
theorem szTab_in {x : TabV} {k : Int} {n : Nat} (hk : 0 ≤ k) (hn : k ≤ n) (h : 0 ≤ szTab x k) : x.In n := by
  obtain ⟨⟨j0, a0, b0, c0⟩, ⟨j1, a1, b1, c1⟩, _⟩ := szAll_ex (.cons (Sane.sl szRow_sane _) (.cons (Sane.left _) .nil)) hk hn h
  exact ⟨(szSl_in szRow_sane (fun a j h0 hn h => szRow_in h0 hn h) a0 b0 c0), (by have := left_in c1; omega)⟩
def TabV.Len (x : TabV) : Prop := (x.Rows.length ≤ 2 ^ 21 ∧ ∀ y ∈ x.Rows, y.Len) ∧ x.Marks.length ≤ 2 ^ 21
theorem TabV.In.len {x : TabV} {n : Nat} (h : x.In n) (hn : n ≤ 2 ^ 21) : x.Len := by
  obtain ⟨h0, h1⟩ := h
  exact ⟨⟨Nat.le_trans h0.1 hn, fun y hy => ((h0.2 y hy)).len hn⟩, Nat.le_trans h1 hn⟩
def TabV.mark (x : TabV) (k : Int) : TabV := ⟨markL RowV.markE RowV.farE x.Rows (k), x.Phase, marks 3 mkMark x.Marks.length (farL RowV.farE x.Rows (k))⟩
def TabV.far (x : TabV) (k : Int) : Int := farL RowV.farE x.Rows (k) + (3 * x.Marks.length : Nat)
theorem TabV.mark_Rows (x : TabV) (k : Int) : (x.mark k).Rows.length = x.Rows.length := by simp [TabV.mark, marks_length, markL_length]
theorem TabV.take_Rows {β : Type} (f : RowV → β) (x : TabV) (k : Int) : ((x.mark k).Rows.map f).take x.Rows.length = (x.mark k).Rows.map f := by rw [← x.mark_Rows k, take_map]
theorem TabV.mark_Marks (x : TabV) (k : Int) : (x.mark k).Marks.length = x.Marks.length := by simp [TabV.mark, marks_length, markL_length]
theorem TabV.take_Marks {β : Type} (f : MarkV → β) (x : TabV) (k : Int) : ((x.mark k).Marks.map f).take x.Marks.length = (x.mark k).Marks.map f := by rw [← x.mark_Marks k, take_map]
theorem TabV.far_le {x : TabV} (hx : x.Len) (k : Int) : k ≤ x.far k ∧ x.far k ≤ k + 8796109799424 := by
  obtain ⟨h0, h1⟩ := hx
  have w0 := farL_le (k := k) (c := 4194309) h0 (fun y hy k => RowV.farE_le hy k)
  simp only [TabV.far]
  omega
def x_l_szTab : FnX := ⟨18, [.tmp 4],
  .seq (.reg [⟨none, some 2, 2, .box (.t 0)⟩,
   ⟨none, some 4, 4, .mv (.k (.one (.pv (.int .i64 0))))⟩])
 (.seq (.reg [⟨none, some 5, 5, .faddr (.t 2) 0⟩,
   ⟨none, some 6, 6, .load none (.t 5)⟩,
   ⟨none, some 7, 7, .mv (.t 1)⟩,
   ⟨none, some 8, 8, .call 110 [0, 0] [(.t 6), (.t 7)]⟩,
   ⟨none, some 1, 1, .mv (.t 8)⟩])
 (.seq (.seq (.reg [⟨none, some 9, 9, .mv (.t 1)⟩,
   ⟨none, some 10, 10, .bin .lss (.t 9) (.k (.one (.pv (.int .i64 0))))⟩])
 (.cond 10 (.seq (.reg [⟨none, some 4, 4, .mv (.k (.one (.pv (.int .i64 (-1)))))⟩])
 (.ret)) (.skip)))
 (.seq (.reg [⟨none, some 11, 11, .faddr (.t 2) 2⟩,
   ⟨none, some 12, 12, .load none (.t 11)⟩,
   ⟨none, some 13, 13, .mv (.t 1)⟩,
   ⟨none, some 14, 14, .call 111 [0, 0] [(.t 12), (.t 13)]⟩,
   ⟨none, some 1, 1, .mv (.t 14)⟩])
 (.seq (.seq (.reg [⟨none, some 15, 15, .mv (.t 1)⟩,
   ⟨none, some 16, 16, .bin .lss (.t 15) (.k (.one (.pv (.int .i64 0))))⟩])
 (.cond 16 (.seq (.reg [⟨none, some 4, 4, .mv (.k (.one (.pv (.int .i64 (-1)))))⟩])
 (.ret)) (.skip)))
 (.seq (.reg [⟨none, some 17, 17, .mv (.t 1)⟩,
   ⟨none, some 4, 4, .mv (.t 17)⟩])
 (.ret))))))⟩
abbrev C_l_szTab (Te : Nat → List AV → Res → Prop) : Prop := ∀ (x : TabV) (k : Int) (hx : x.In (2 ^ 48)) (hk : 0 ≤ k ∧ k ≤ 2 ^ 48), Te 64 [.agg (x.enc false), .one (iT k)] ⟨[.one (iT (szTab x k))], [(x.enc false), [iT k]]⟩
theorem r_l_szTab {Te : Nat → List AV → Res → Prop} (c_l_szRowS : C_l_szRowS Te) (c_l_szMarkS : C_l_szMarkS Te) : ∀ (x : TabV) (k : Int) (hx : x.In (2 ^ 48)) (hk : 0 ≤ k ∧ k ≤ 2 ^ 48), RunFn Te x_l_szTab [.agg (x.enc false), .one (iT k)] ⟨[.one (iT (szTab x k))], [(x.enc false), [iT k]]⟩ := by
  intro x k hx hk
  refine ⟨by simp -implicitDefEqProofs only [x_l_szTab, go_sem], ?_⟩
  obtain ⟨h0, h1⟩ := hx
  simp -implicitDefEqProofs (disch := omega) only [x_l_szTab, go_sem, IntWalk.i64_in]
  refine .of (c_l_szRowS _ _ hk h0.1 h0.2) ?_
  simp -implicitDefEqProofs (disch := omega) only [go_sem, IntWalk.i64_in]
  refine ⟨fun q0 => ?_, fun q0 => ?_⟩
  · simp only [decide_eq_true_eq] at q0
    simp only [szTab, szAll, if_pos q0]
  · simp only [decide_eq_false_iff_not] at q0
    have k1 : 0 ≤ (szSl szRow x.Rows k) ∧ (szSl szRow x.Rows k) ≤ 2 ^ 48 := ⟨by omega, Int.le_trans ((Sane.sl szRow_sane _) _ hk.1) hk.2⟩
    refine .of (c_l_szMarkS _ _ h1 k1) ?_
    simp -implicitDefEqProofs (disch := omega) only [go_sem, IntWalk.i64_in]
    refine ⟨fun q1 => ?_, fun q1 => ?_⟩
    · simp only [decide_eq_true_eq] at q1
      simp only [szTab, szAll, if_neg q0, if_pos q1]
    · simp only [decide_eq_false_iff_not] at q1
      have k2 : 0 ≤ (left ((szSl szRow x.Rows k) - (x.Marks.length : Nat))) ∧ (left ((szSl szRow x.Rows k) - (x.Marks.length : Nat))) ≤ 2 ^ 48 := ⟨by omega, Int.le_trans (Sane.left _ _ k1.1) k1.2⟩
      simp only [szTab, szAll, if_neg q0, if_neg q1]
def x_l_toTab : FnX := ⟨16, [.cell 2 (some 3)],
  .seq (.reg [⟨none, some 1, 1, .box (.t 0)⟩,
   ⟨none, some 2, 2, .alloc [.nils 7, .pv (.int .i64 0), .nils 3]⟩])
 (.seq (.reg [⟨none, some 3, 3, .alloc [.nils 7, .pv (.int .i64 0), .nils 3]⟩])
 (.seq (.reg [⟨none, some 4, 4, .faddr (.t 1) 0⟩,
   ⟨none, some 5, 5, .load none (.t 4)⟩,
   ⟨none, some 6, 6, .call 116 [0] [(.t 5)]⟩,
   ⟨none, some 7, 7, .faddr (.t 3) 0⟩,
   ⟨none, none, 100001, .store 1 (.t 7) (.t 6)⟩])
 (.seq (.reg [⟨none, some 8, 8, .faddr (.t 1) 1⟩,
   ⟨none, some 9, 9, .load none (.t 8)⟩,
   ⟨none, some 10, 10, .faddr (.t 3) 1⟩,
   ⟨none, none, 100002, .store 1 (.t 10) (.t 9)⟩])
 (.seq (.reg [⟨none, some 11, 11, .faddr (.t 1) 2⟩,
   ⟨none, some 12, 12, .load none (.t 11)⟩,
   ⟨none, some 13, 13, .call 117 [0] [(.t 12)]⟩,
   ⟨none, some 14, 14, .faddr (.t 3) 2⟩,
   ⟨none, none, 100003, .store 1 (.t 14) (.t 13)⟩])
 (.seq (.reg [⟨none, some 15, 15, .load (some 3) (.t 3)⟩,
   ⟨none, none, 100004, .store 3 (.t 2) (.t 15)⟩])
 (.ret))))))⟩
abbrev C_l_toTab (Te : Nat → List AV → Res → Prop) : Prop := ∀ (x : TabV) (hx : x.Len), Te 68 [.agg (x.enc false)] ⟨[.agg (x.enc true)], [(x.enc false)]⟩
theorem r_l_toTab {Te : Nat → List AV → Res → Prop} (c_l_toRowS : C_l_toRowS Te) (c_l_toMarkS : C_l_toMarkS Te) : ∀ (x : TabV) (hx : x.Len), RunFn Te x_l_toTab [.agg (x.enc false)] ⟨[.agg (x.enc true)], [(x.enc false)]⟩ := by
  intro x hx
  refine ⟨by simp -implicitDefEqProofs only [x_l_toTab, go_sem], ?_⟩
  obtain ⟨h0, h1⟩ := hx
  simp -implicitDefEqProofs only [x_l_toTab, go_sem]
  refine .of (c_l_toRowS _ h0) ?_
  simp -implicitDefEqProofs only [go_sem]
  refine .of (c_l_toMarkS _ (Nat.le_trans h1 (by decide))) ?_
  simp -implicitDefEqProofs only [go_sem]
def x_l_eqTab : FnX := ⟨22, [.tmp 4],
  .seq (.reg [⟨none, some 2, 2, .box (.t 0)⟩,
   ⟨none, some 3, 3, .box (.t 1)⟩,
   ⟨none, some 4, 4, .mv (.k (.one (.pv (.bool false))))⟩])
 (.seq (.seq (.reg [⟨none, some 5, 5, .faddr (.t 2) 0⟩,
   ⟨none, some 6, 6, .load none (.t 5)⟩,
   ⟨none, some 7, 7, .faddr (.t 3) 0⟩,
   ⟨none, some 8, 8, .load none (.t 7)⟩,
   ⟨none, some 9, 9, .call 122 [0, 0] [(.t 6), (.t 8)]⟩,
   ⟨none, some 10, 10, .not (.t 9)⟩])
 (.cond 10 (.seq (.reg [⟨none, some 4, 4, .mv (.k (.one (.pv (.bool false))))⟩])
 (.ret)) (.skip)))
 (.seq (.seq (.reg [⟨none, some 11, 11, .faddr (.t 2) 1⟩,
   ⟨none, some 12, 12, .load none (.t 11)⟩,
   ⟨none, some 13, 13, .faddr (.t 3) 1⟩,
   ⟨none, some 14, 14, .load none (.t 13)⟩,
   ⟨none, some 15, 15, .bin .neq (.t 12) (.t 14)⟩])
 (.cond 15 (.seq (.reg [⟨none, some 4, 4, .mv (.k (.one (.pv (.bool false))))⟩])
 (.ret)) (.skip)))
 (.seq (.seq (.reg [⟨none, some 16, 16, .faddr (.t 2) 2⟩,
   ⟨none, some 17, 17, .load none (.t 16)⟩,
   ⟨none, some 18, 18, .faddr (.t 3) 2⟩,
   ⟨none, some 19, 19, .load none (.t 18)⟩,
   ⟨none, some 20, 20, .call 123 [0, 0] [(.t 17), (.t 19)]⟩,
   ⟨none, some 21, 21, .not (.t 20)⟩])
 (.cond 21 (.seq (.reg [⟨none, some 4, 4, .mv (.k (.one (.pv (.bool false))))⟩])
 (.ret)) (.skip)))
 (.seq (.reg [⟨none, some 4, 4, .mv (.k (.one (.pv (.bool true))))⟩])
 (.ret)))))⟩
abbrev C_l_eqTab (Te : Nat → List AV → Res → Prop) : Prop := ∀ (x y : TabV) (hx : x.Len), Te 73 [.agg (x.enc false), .agg (y.enc false)] ⟨[.one (bT (decide (x = y)))], [(x.enc false), (y.enc false)]⟩
theorem r_l_eqTab {Te : Nat → List AV → Res → Prop} (c_l_eqRowS : C_l_eqRowS Te) (c_l_eqMarkS : C_l_eqMarkS Te) : ∀ (x y : TabV) (hx : x.Len), RunFn Te x_l_eqTab [.agg (x.enc false), .agg (y.enc false)] ⟨[.one (bT (decide (x = y)))], [(x.enc false), (y.enc false)]⟩ := by
  intro x y hx
  refine ⟨by simp -implicitDefEqProofs only [x_l_eqTab, go_sem], ?_⟩
  obtain ⟨h0, h1⟩ := hx
  have key : (x = y) ↔ x.Rows = y.Rows ∧ x.Phase = y.Phase ∧ x.Marks = y.Marks := by cases x; cases y; simp
  simp only [key]
  clear key
  simp -implicitDefEqProofs only [x_l_eqTab, go_sem]
  refine .of (c_l_eqRowS _ _ h0) ?_
  simp -implicitDefEqProofs only [go_sem]
  refine ⟨fun q => ?_, fun q => ?_⟩
  · have n0 : ¬ (x.Rows = y.Rows) := by simpa using q
    simp only [n0, false_and, and_false, true_and, decide_false]
  have e0 : x.Rows = y.Rows := by simpa using q
  clear q
  refine ⟨fun q => ?_, fun q => ?_⟩
  · have n1 : ¬ (x.Phase = y.Phase) := by simpa using q
    simp only [e0, n1, false_and, and_false, true_and, decide_false]
  have e1 : x.Phase = y.Phase := by simpa using q
  clear q
  refine .of (c_l_eqMarkS _ _ (Nat.le_trans h1 (by decide))) ?_
  simp -implicitDefEqProofs only [go_sem]
  refine ⟨fun q => ?_, fun q => ?_⟩
  · have n2 : ¬ (x.Marks = y.Marks) := by simpa using q
    simp only [e0, e1, n2, false_and, and_false, true_and, decide_false]
  have e2 : x.Marks = y.Marks := by simpa using q
  clear q
  simp only [e0, e1, e2, true_and, and_true, decide_true]
structure StoreV where
  D : DevV
  T : TabV
  Gen : Int
  Place : Int
  deriving DecidableEq
abbrev StoreV.enc (o : Bool) (x : StoreV) : List Go.X.T := [slT o 1 (fun y => [slT o 1 uR y]) x.D.Secs, slT o 2 (WrV.enc o) x.D.Cache, iT x.D.Fuse, bT x.D.Down, slT o 7 (RowV.enc o) x.T.Rows, iT x.T.Phase, slT o 3 MarkV.row x.T.Marks, iT x.Gen, iT x.Place]
def StoreV.In (n : Nat) (x : StoreV) : Prop := x.D.In (n) ∧ x.T.In (n)
theorem StoreV.In.mono {x : StoreV} {n m : Nat} (h : x.In n) (hn : n ≤ m) : x.In m := by
  simp only [StoreV.In] at h ⊢
  exact ⟨h.1.mono hn, h.2.mono hn⟩
def szStore (x : StoreV) (k : Int) : Int := szAll [(szDev x.D), (szTab x.T)] k
theorem szStore_sane (x : StoreV) : Sane (szStore x) := Sane.all (.cons (szDev_sane _) (.cons (szTab_sane _) .nil))
theorem szStore_in {x : StoreV} {k : Int} {n : Nat} (hk : 0 ≤ k) (hn : k ≤ n) (h : 0 ≤ szStore x k) : x.In n := by
  obtain ⟨⟨j0, a0, b0, c0⟩, ⟨j1, a1, b1, c1⟩, _⟩ := szAll_ex (.cons (szDev_sane _) (.cons (szTab_sane _) .nil)) hk hn h
  exact ⟨(szDev_in a0 b0 c0), (szTab_in a1 b1 c1)⟩
def StoreV.Len (x : StoreV) : Prop := x.D.Len ∧ x.T.Len
theorem StoreV.In.len {x : StoreV} {n : Nat} (h : x.In n) (hn : n ≤ 2 ^ 21) : x.Len := by
  obtain ⟨h0, h1⟩ := h
  exact ⟨(h0).len hn, (h1).len hn⟩
def StoreV.mark (x : StoreV) (k : Int) : StoreV := ⟨x.D.mark (k), x.T.mark (x.D.far (k)), x.Gen, x.Place⟩
def StoreV.far (x : StoreV) (k : Int) : Int := x.T.far (x.D.far (k))
theorem StoreV.mark_D_Secs (x : StoreV) (k : Int) : (x.mark k).D.Secs.length = x.D.Secs.length := by simp [StoreV.mark, DevV.mark, TabV.mark, marks_length, markL_length]
theorem StoreV.take_D_Secs {β : Type} (f : List UInt8 → β) (x : StoreV) (k : Int) : ((x.mark k).D.Secs.map f).take x.D.Secs.length = (x.mark k).D.Secs.map f := by rw [← x.mark_D_Secs k, take_map]
theorem StoreV.mark_D_Cache (x : StoreV) (k : Int) : (x.mark k).D.Cache.length = x.D.Cache.length := by simp [StoreV.mark, DevV.mark, TabV.mark, marks_length, markL_length]
theorem StoreV.take_D_Cache {β : Type} (f : WrV → β) (x : StoreV) (k : Int) : ((x.mark k).D.Cache.map f).take x.D.Cache.length = (x.mark k).D.Cache.map f := by rw [← x.mark_D_Cache k, take_map]
theorem StoreV.mark_T_Rows (x : StoreV) (k : Int) : (x.mark k).T.Rows.length = x.T.Rows.length := by simp [StoreV.mark, DevV.mark, TabV.mark, marks_length, markL_length]
theorem StoreV.take_T_Rows {β : Type} (f : RowV → β) (x : StoreV) (k : Int) : ((x.mark k).T.Rows.map f).take x.T.Rows.length = (x.mark k).T.Rows.map f := by rw [← x.mark_T_Rows k, take_map]
theorem StoreV.mark_T_Marks (x : StoreV) (k : Int) : (x.mark k).T.Marks.length = x.T.Marks.length := by simp [StoreV.mark, DevV.mark, TabV.mark, marks_length, markL_length]
theorem StoreV.take_T_Marks {β : Type} (f : MarkV → β) (x : StoreV) (k : Int) : ((x.mark k).T.Marks.map f).take x.T.Marks.length = (x.mark k).T.Marks.map f := by rw [← x.mark_T_Marks k, take_map]
theorem StoreV.far_le {x : StoreV} (hx : x.Len) (k : Int) : k ≤ x.far k ∧ x.far k ≤ k + 17592204918784 := by
  obtain ⟨h0, h1⟩ := hx
  have w0 := DevV.far_le h0 k
  have w1 := TabV.far_le h1 (x.D.far k)
  simp only [StoreV.far]
  omega
def x_l_szStore : FnX := ⟨18, [.tmp 4],
  .seq (.reg [⟨none, some 2, 2, .box (.t 0)⟩,
   ⟨none, some 4, 4, .mv (.k (.one (.pv (.int .i64 0))))⟩])
 (.seq (.reg [⟨none, some 5, 5, .faddr (.t 2) 0⟩,
   ⟨none, some 6, 6, .load (some 4) (.t 5)⟩,
   ⟨none, some 7, 7, .mv (.t 1)⟩,
   ⟨none, some 8, 8, .call 63 [0, 0] [(.t 6), (.t 7)]⟩,
   ⟨none, some 1, 1, .mv (.t 8)⟩])
 (.seq (.seq (.reg [⟨none, some 9, 9, .mv (.t 1)⟩,
   ⟨none, some 10, 10, .bin .lss (.t 9) (.k (.one (.pv (.int .i64 0))))⟩])
 (.cond 10 (.seq (.reg [⟨none, some 4, 4, .mv (.k (.one (.pv (.int .i64 (-1)))))⟩])
 (.ret)) (.skip)))
 (.seq (.reg [⟨none, some 11, 11, .faddr (.t 2) 4⟩,
   ⟨none, some 12, 12, .load (some 3) (.t 11)⟩,
   ⟨none, some 13, 13, .mv (.t 1)⟩,
   ⟨none, some 14, 14, .call 64 [0, 0] [(.t 12), (.t 13)]⟩,
   ⟨none, some 1, 1, .mv (.t 14)⟩])
 (.seq (.seq (.reg [⟨none, some 15, 15, .mv (.t 1)⟩,
   ⟨none, some 16, 16, .bin .lss (.t 15) (.k (.one (.pv (.int .i64 0))))⟩])
 (.cond 16 (.seq (.reg [⟨none, some 4, 4, .mv (.k (.one (.pv (.int .i64 (-1)))))⟩])
 (.ret)) (.skip)))
 (.seq (.reg [⟨none, some 17, 17, .mv (.t 1)⟩,
   ⟨none, some 4, 4, .mv (.t 17)⟩])
 (.ret))))))⟩
abbrev C_l_szStore (Te : Nat → List AV → Res → Prop) : Prop := ∀ (x : StoreV) (k : Int) (hx : x.In (2 ^ 48)) (hk : 0 ≤ k ∧ k ≤ 2 ^ 48), Te 20 [.agg (x.enc false), .one (iT k)] ⟨[.one (iT (szStore x k))], [(x.enc false), [iT k]]⟩
theorem r_l_szStore {Te : Nat → List AV → Res → Prop} (c_l_szDev : C_l_szDev Te) (c_l_szTab : C_l_szTab Te) : ∀ (x : StoreV) (k : Int) (hx : x.In (2 ^ 48)) (hk : 0 ≤ k ∧ k ≤ 2 ^ 48), RunFn Te x_l_szStore [.agg (x.enc false), .one (iT k)] ⟨[.one (iT (szStore x k))], [(x.enc false), [iT k]]⟩ := by
  intro x k hx hk
  refine ⟨by simp -implicitDefEqProofs only [x_l_szStore, go_sem], ?_⟩
  obtain ⟨h0, h1⟩ := hx
  simp -implicitDefEqProofs (disch := omega) only [x_l_szStore, go_sem, IntWalk.i64_in]
  refine .of (c_l_szDev _ _ h0 hk) ?_
  simp -implicitDefEqProofs (disch := omega) only [go_sem, IntWalk.i64_in]
  refine ⟨fun q0 => ?_, fun q0 => ?_⟩
  · simp only [decide_eq_true_eq] at q0
    simp only [szStore, szAll, if_pos q0]
  · simp only [decide_eq_false_iff_not] at q0
    have k1 : 0 ≤ (szDev x.D k) ∧ (szDev x.D k) ≤ 2 ^ 48 := ⟨by omega, Int.le_trans ((szDev_sane _) _ hk.1) hk.2⟩
    refine .of (c_l_szTab _ _ h1 k1) ?_
    simp -implicitDefEqProofs (disch := omega) only [go_sem, IntWalk.i64_in]
    refine ⟨fun q1 => ?_, fun q1 => ?_⟩
    · simp only [decide_eq_true_eq] at q1
      simp only [szStore, szAll, if_neg q0, if_pos q1]
    · simp only [decide_eq_false_iff_not] at q1
      have k2 : 0 ≤ (szTab x.T (szDev x.D k)) ∧ (szTab x.T (szDev x.D k)) ≤ 2 ^ 48 := ⟨by omega, Int.le_trans ((szTab_sane _) _ k1.1) k1.2⟩
      simp only [szStore, szAll, if_neg q0, if_neg q1]
def x_l_toStore : FnX := ⟨19, [.cell 2 (some 9)],
  .seq (.reg [⟨none, some 1, 1, .box (.t 0)⟩,
   ⟨none, some 2, 2, .alloc [.nils 1, .nils 2, .pv (.int .i64 0), .pv (.bool false), .nils 7, .pv (.int .i64 0), .nils 3, .pv (.int .i64 0), .pv (.int .i64 0)]⟩])
 (.seq (.reg [⟨none, some 3, 3, .alloc [.nils 1, .nils 2, .pv (.int .i64 0), .pv (.bool false), .nils 7, .pv (.int .i64 0), .nils 3, .pv (.int .i64 0), .pv (.int .i64 0)]⟩])
 (.seq (.reg [⟨none, some 4, 4, .faddr (.t 1) 0⟩,
   ⟨none, some 5, 5, .load (some 4) (.t 4)⟩,
   ⟨none, some 6, 6, .call 67 [0] [(.t 5)]⟩,
   ⟨none, some 7, 7, .faddr (.t 3) 0⟩,
   ⟨none, none, 100001, .store 4 (.t 7) (.t 6)⟩])
 (.seq (.reg [⟨none, some 8, 8, .faddr (.t 1) 4⟩,
   ⟨none, some 9, 9, .load (some 3) (.t 8)⟩,
   ⟨none, some 10, 10, .call 68 [0] [(.t 9)]⟩,
   ⟨none, some 11, 11, .faddr (.t 3) 4⟩,
   ⟨none, none, 100002, .store 3 (.t 11) (.t 10)⟩])
 (.seq (.reg [⟨none, some 12, 12, .faddr (.t 1) 7⟩,
   ⟨none, some 13, 13, .load none (.t 12)⟩,
   ⟨none, some 14, 14, .faddr (.t 3) 7⟩,
   ⟨none, none, 100003, .store 1 (.t 14) (.t 13)⟩])
 (.seq (.reg [⟨none, some 15, 15, .faddr (.t 1) 8⟩,
   ⟨none, some 16, 16, .load none (.t 15)⟩,
   ⟨none, some 17, 17, .faddr (.t 3) 8⟩,
   ⟨none, none, 100004, .store 1 (.t 17) (.t 16)⟩])
 (.seq (.reg [⟨none, some 18, 18, .load (some 9) (.t 3)⟩,
   ⟨none, none, 100005, .store 9 (.t 2) (.t 18)⟩])
 (.ret)))))))⟩
abbrev C_l_toStore (Te : Nat → List AV → Res → Prop) : Prop := ∀ (x : StoreV) (hx : x.Len), Te 24 [.agg (x.enc false)] ⟨[.agg (x.enc true)], [(x.enc false)]⟩
theorem r_l_toStore {Te : Nat → List AV → Res → Prop} (c_l_toDev : C_l_toDev Te) (c_l_toTab : C_l_toTab Te) : ∀ (x : StoreV) (hx : x.Len), RunFn Te x_l_toStore [.agg (x.enc false)] ⟨[.agg (x.enc true)], [(x.enc false)]⟩ := by
  intro x hx
  refine ⟨by simp -implicitDefEqProofs only [x_l_toStore, go_sem], ?_⟩
  obtain ⟨h0, h1⟩ := hx
  simp -implicitDefEqProofs only [x_l_toStore, go_sem]
  refine .of (c_l_toDev _ h0) ?_
  simp -implicitDefEqProofs only [go_sem]
  refine .of (c_l_toTab _ h1) ?_
  simp -implicitDefEqProofs only [go_sem]
def x_l_eqStore : FnX := ⟨27, [.tmp 4],
  .seq (.reg [⟨none, some 2, 2, .box (.t 0)⟩,
   ⟨none, some 3, 3, .box (.t 1)⟩,
   ⟨none, some 4, 4, .mv (.k (.one (.pv (.bool false))))⟩])
 (.seq (.seq (.reg [⟨none, some 5, 5, .faddr (.t 2) 0⟩,
   ⟨none, some 6, 6, .load (some 4) (.t 5)⟩,
   ⟨none, some 7, 7, .faddr (.t 3) 0⟩,
   ⟨none, some 8, 8, .load (some 4) (.t 7)⟩,
   ⟨none, some 9, 9, .call 72 [0, 0] [(.t 6), (.t 8)]⟩,
   ⟨none, some 10, 10, .not (.t 9)⟩])
 (.cond 10 (.seq (.reg [⟨none, some 4, 4, .mv (.k (.one (.pv (.bool false))))⟩])
 (.ret)) (.skip)))
 (.seq (.seq (.reg [⟨none, some 11, 11, .faddr (.t 2) 4⟩,
   ⟨none, some 12, 12, .load (some 3) (.t 11)⟩,
   ⟨none, some 13, 13, .faddr (.t 3) 4⟩,
   ⟨none, some 14, 14, .load (some 3) (.t 13)⟩,
   ⟨none, some 15, 15, .call 73 [0, 0] [(.t 12), (.t 14)]⟩,
   ⟨none, some 16, 16, .not (.t 15)⟩])
 (.cond 16 (.seq (.reg [⟨none, some 4, 4, .mv (.k (.one (.pv (.bool false))))⟩])
 (.ret)) (.skip)))
 (.seq (.seq (.reg [⟨none, some 17, 17, .faddr (.t 2) 7⟩,
   ⟨none, some 18, 18, .load none (.t 17)⟩,
   ⟨none, some 19, 19, .faddr (.t 3) 7⟩,
   ⟨none, some 20, 20, .load none (.t 19)⟩,
   ⟨none, some 21, 21, .bin .neq (.t 18) (.t 20)⟩])
 (.cond 21 (.seq (.reg [⟨none, some 4, 4, .mv (.k (.one (.pv (.bool false))))⟩])
 (.ret)) (.skip)))
 (.seq (.seq (.reg [⟨none, some 22, 22, .faddr (.t 2) 8⟩,
   ⟨none, some 23, 23, .load none (.t 22)⟩,
   ⟨none, some 24, 24, .faddr (.t 3) 8⟩,
   ⟨none, some 25, 25, .load none (.t 24)⟩,
   ⟨none, some 26, 26, .bin .neq (.t 23) (.t 25)⟩])
 (.cond 26 (.seq (.reg [⟨none, some 4, 4, .mv (.k (.one (.pv (.bool false))))⟩])
 (.ret)) (.skip)))
 (.seq (.reg [⟨none, some 4, 4, .mv (.k (.one (.pv (.bool true))))⟩])
 (.ret))))))⟩
abbrev C_l_eqStore (Te : Nat → List AV → Res → Prop) : Prop := ∀ (x y : StoreV) (hx : x.Len), Te 28 [.agg (x.enc false), .agg (y.enc false)] ⟨[.one (bT (decide (x = y)))], [(x.enc false), (y.enc false)]⟩
theorem r_l_eqStore {Te : Nat → List AV → Res → Prop} (c_l_eqDev : C_l_eqDev Te) (c_l_eqTab : C_l_eqTab Te) : ∀ (x y : StoreV) (hx : x.Len), RunFn Te x_l_eqStore [.agg (x.enc false), .agg (y.enc false)] ⟨[.one (bT (decide (x = y)))], [(x.enc false), (y.enc false)]⟩ := by
  intro x y hx
  refine ⟨by simp -implicitDefEqProofs only [x_l_eqStore, go_sem], ?_⟩
  obtain ⟨h0, h1⟩ := hx
  have key : (x = y) ↔ x.D = y.D ∧ x.T = y.T ∧ x.Gen = y.Gen ∧ x.Place = y.Place := by cases x; cases y; simp
  simp only [key]
  clear key
  simp -implicitDefEqProofs only [x_l_eqStore, go_sem]
  refine .of (c_l_eqDev _ _ h0) ?_
  simp -implicitDefEqProofs only [go_sem]
  refine ⟨fun q => ?_, fun q => ?_⟩
  · have n0 : ¬ (x.D = y.D) := by simpa using q
    simp only [n0, false_and, and_false, true_and, decide_false]
  have e0 : x.D = y.D := by simpa using q
  clear q
  refine .of (c_l_eqTab _ _ h1) ?_
  simp -implicitDefEqProofs only [go_sem]
  refine ⟨fun q => ?_, fun q => ?_⟩
  · have n1 : ¬ (x.T = y.T) := by simpa using q
    simp only [e0, n1, false_and, and_false, true_and, decide_false]
  have e1 : x.T = y.T := by simpa using q
  clear q
  refine ⟨fun q => ?_, fun q => ?_⟩
  · have n2 : ¬ (x.Gen = y.Gen) := by simpa using q
    simp only [e0, e1, n2, false_and, and_false, true_and, decide_false]
  have e2 : x.Gen = y.Gen := by simpa using q
  clear q
  refine ⟨fun q => ?_, fun q => ?_⟩
  · have n3 : ¬ (x.Place = y.Place) := by simpa using q
    simp only [e0, e1, e2, n3, false_and, and_false, true_and, decide_false]
  have e3 : x.Place = y.Place := by simpa using q
  clear q
  simp only [e0, e1, e2, e3, true_and, and_true, decide_true]
structure NodeV where
  S : StoreV
  Cs : Int
  deriving DecidableEq
abbrev NodeV.enc (o : Bool) (x : NodeV) : List Go.X.T := [slT o 1 (fun y => [slT o 1 uR y]) x.S.D.Secs, slT o 2 (WrV.enc o) x.S.D.Cache, iT x.S.D.Fuse, bT x.S.D.Down, slT o 7 (RowV.enc o) x.S.T.Rows, iT x.S.T.Phase, slT o 3 MarkV.row x.S.T.Marks, iT x.S.Gen, iT x.S.Place, iT x.Cs]
def NodeV.In (n : Nat) (x : NodeV) : Prop := x.S.In (n)
theorem NodeV.In.mono {x : NodeV} {n m : Nat} (h : x.In n) (hn : n ≤ m) : x.In m := by
  simp only [NodeV.In] at h ⊢
  exact h.mono hn
def szNode (x : NodeV) (k : Int) : Int := szAll [(szStore x.S)] k
theorem szNode_sane (x : NodeV) : Sane (szNode x) := Sane.all (.cons (szStore_sane _) .nil)
theorem szNode_in {x : NodeV} {k : Int} {n : Nat} (hk : 0 ≤ k) (hn : k ≤ n) (h : 0 ≤ szNode x k) : x.In n := by
  obtain ⟨⟨j0, a0, b0, c0⟩, _⟩ := szAll_ex (.cons (szStore_sane _) .nil) hk hn h
  show x.S.In (n)
  exact (szStore_in a0 b0 c0)
def NodeV.Len (x : NodeV) : Prop := x.S.Len
theorem NodeV.In.len {x : NodeV} {n : Nat} (h : x.In n) (hn : n ≤ 2 ^ 21) : x.Len := by
  have h0 : x.S.In (n) := h
  exact (h0).len hn
def NodeV.mark (x : NodeV) (k : Int) : NodeV := ⟨x.S.mark (k), x.Cs⟩
def NodeV.far (x : NodeV) (k : Int) : Int := x.S.far (k)
theorem NodeV.mark_S_D_Secs (x : NodeV) (k : Int) : (x.mark k).S.D.Secs.length = x.S.D.Secs.length := by simp [NodeV.mark, StoreV.mark, DevV.mark, TabV.mark, marks_length, markL_length]
theorem NodeV.take_S_D_Secs {β : Type} (f : List UInt8 → β) (x : NodeV) (k : Int) : ((x.mark k).S.D.Secs.map f).take x.S.D.Secs.length = (x.mark k).S.D.Secs.map f := by rw [← x.mark_S_D_Secs k, take_map]
theorem NodeV.mark_S_D_Cache (x : NodeV) (k : Int) : (x.mark k).S.D.Cache.length = x.S.D.Cache.length := by simp [NodeV.mark, StoreV.mark, DevV.mark, TabV.mark, marks_length, markL_length]
theorem NodeV.take_S_D_Cache {β : Type} (f : WrV → β) (x : NodeV) (k : Int) : ((x.mark k).S.D.Cache.map f).take x.S.D.Cache.length = (x.mark k).S.D.Cache.map f := by rw [← x.mark_S_D_Cache k, take_map]
theorem NodeV.mark_S_T_Rows (x : NodeV) (k : Int) : (x.mark k).S.T.Rows.length = x.S.T.Rows.length := by simp [NodeV.mark, StoreV.mark, DevV.mark, TabV.mark, marks_length, markL_length]
theorem NodeV.take_S_T_Rows {β : Type} (f : RowV → β) (x : NodeV) (k : Int) : ((x.mark k).S.T.Rows.map f).take x.S.T.Rows.length = (x.mark k).S.T.Rows.map f := by rw [← x.mark_S_T_Rows k, take_map]
theorem NodeV.mark_S_T_Marks (x : NodeV) (k : Int) : (x.mark k).S.T.Marks.length = x.S.T.Marks.length := by simp [NodeV.mark, StoreV.mark, DevV.mark, TabV.mark, marks_length, markL_length]
theorem NodeV.take_S_T_Marks {β : Type} (f : MarkV → β) (x : NodeV) (k : Int) : ((x.mark k).S.T.Marks.map f).take x.S.T.Marks.length = (x.mark k).S.T.Marks.map f := by rw [← x.mark_S_T_Marks k, take_map]
theorem NodeV.far_le {x : NodeV} (hx : x.Len) (k : Int) : k ≤ x.far k ∧ x.far k ≤ k + 17592204918784 := by
  have h0 : x.S.Len := hx
  have w0 := StoreV.far_le h0 k
  simp only [NodeV.far]
  omega
def x_l_szNode : FnX := ⟨12, [.tmp 4],
  .seq (.reg [⟨none, some 2, 2, .box (.t 0)⟩,
   ⟨none, some 4, 4, .mv (.k (.one (.pv (.int .i64 0))))⟩])
 (.seq (.reg [⟨none, some 5, 5, .faddr (.t 2) 0⟩,
   ⟨none, some 6, 6, .load (some 9) (.t 5)⟩,
   ⟨none, some 7, 7, .mv (.t 1)⟩,
   ⟨none, some 8, 8, .call 20 [0, 0] [(.t 6), (.t 7)]⟩,
   ⟨none, some 1, 1, .mv (.t 8)⟩])
 (.seq (.seq (.reg [⟨none, some 9, 9, .mv (.t 1)⟩,
   ⟨none, some 10, 10, .bin .lss (.t 9) (.k (.one (.pv (.int .i64 0))))⟩])
 (.cond 10 (.seq (.reg [⟨none, some 4, 4, .mv (.k (.one (.pv (.int .i64 (-1)))))⟩])
 (.ret)) (.skip)))
 (.seq (.reg [⟨none, some 11, 11, .mv (.t 1)⟩,
   ⟨none, some 4, 4, .mv (.t 11)⟩])
 (.ret))))⟩
abbrev C_l_szNode (Te : Nat → List AV → Res → Prop) : Prop := ∀ (x : NodeV) (k : Int) (hx : x.In (2 ^ 48)) (hk : 0 ≤ k ∧ k ≤ 2 ^ 48), Te 6 [.agg (x.enc false), .one (iT k)] ⟨[.one (iT (szNode x k))], [(x.enc false), [iT k]]⟩
theorem r_l_szNode {Te : Nat → List AV → Res → Prop} (c_l_szStore : C_l_szStore Te) : ∀ (x : NodeV) (k : Int) (hx : x.In (2 ^ 48)) (hk : 0 ≤ k ∧ k ≤ 2 ^ 48), RunFn Te x_l_szNode [.agg (x.enc false), .one (iT k)] ⟨[.one (iT (szNode x k))], [(x.enc false), [iT k]]⟩ := by
  intro x k hx hk
  refine ⟨by simp -implicitDefEqProofs only [x_l_szNode, go_sem], ?_⟩
  have h0 := hx
  simp -implicitDefEqProofs (disch := omega) only [x_l_szNode, go_sem, IntWalk.i64_in]
  refine .of (c_l_szStore _ _ h0 hk) ?_
  simp -implicitDefEqProofs (disch := omega) only [go_sem, IntWalk.i64_in]
  refine ⟨fun q0 => ?_, fun q0 => ?_⟩
  · simp only [decide_eq_true_eq] at q0
    simp only [szNode, szAll, if_pos q0]
  · simp only [decide_eq_false_iff_not] at q0
    have k1 : 0 ≤ (szStore x.S k) ∧ (szStore x.S k) ≤ 2 ^ 48 := ⟨by omega, Int.le_trans ((szStore_sane _) _ hk.1) hk.2⟩
    simp only [szNode, szAll, if_neg q0]
def x_l_toNode : FnX := ⟨12, [.cell 2 (some 10)],
  .seq (.reg [⟨none, some 1, 1, .box (.t 0)⟩,
   ⟨none, some 2, 2, .alloc [.nils 1, .nils 2, .pv (.int .i64 0), .pv (.bool false), .nils 7, .pv (.int .i64 0), .nils 3, .pv (.int .i64 0), .pv (.int .i64 0), .pv (.int .i64 0)]⟩])
 (.seq (.reg [⟨none, some 3, 3, .alloc [.nils 1, .nils 2, .pv (.int .i64 0), .pv (.bool false), .nils 7, .pv (.int .i64 0), .nils 3, .pv (.int .i64 0), .pv (.int .i64 0), .pv (.int .i64 0)]⟩])
 (.seq (.reg [⟨none, some 4, 4, .faddr (.t 1) 0⟩,
   ⟨none, some 5, 5, .load (some 9) (.t 4)⟩,
   ⟨none, some 6, 6, .call 24 [0] [(.t 5)]⟩,
   ⟨none, some 7, 7, .faddr (.t 3) 0⟩,
   ⟨none, none, 100001, .store 9 (.t 7) (.t 6)⟩])
 (.seq (.reg [⟨none, some 8, 8, .faddr (.t 1) 9⟩,
   ⟨none, some 9, 9, .load none (.t 8)⟩,
   ⟨none, some 10, 10, .faddr (.t 3) 9⟩,
   ⟨none, none, 100002, .store 1 (.t 10) (.t 9)⟩])
 (.seq (.reg [⟨none, some 11, 11, .load (some 10) (.t 3)⟩,
   ⟨none, none, 100003, .store 10 (.t 2) (.t 11)⟩])
 (.ret)))))⟩
abbrev C_l_toNode (Te : Nat → List AV → Res → Prop) : Prop := ∀ (x : NodeV) (hx : x.Len), Te 8 [.agg (x.enc false)] ⟨[.agg (x.enc true)], [(x.enc false)]⟩
theorem r_l_toNode {Te : Nat → List AV → Res → Prop} (c_l_toStore : C_l_toStore Te) : ∀ (x : NodeV) (hx : x.Len), RunFn Te x_l_toNode [.agg (x.enc false)] ⟨[.agg (x.enc true)], [(x.enc false)]⟩ := by
  intro x hx
  refine ⟨by simp -implicitDefEqProofs only [x_l_toNode, go_sem], ?_⟩
  have h0 : x.S.Len := hx
  simp -implicitDefEqProofs only [x_l_toNode, go_sem]
  refine .of (c_l_toStore _ h0) ?_
  simp -implicitDefEqProofs only [go_sem]
def x_l_eqNode : FnX := ⟨16, [.tmp 4],
  .seq (.reg [⟨none, some 2, 2, .box (.t 0)⟩,
   ⟨none, some 3, 3, .box (.t 1)⟩,
   ⟨none, some 4, 4, .mv (.k (.one (.pv (.bool false))))⟩])
 (.seq (.seq (.reg [⟨none, some 5, 5, .faddr (.t 2) 0⟩,
   ⟨none, some 6, 6, .load (some 9) (.t 5)⟩,
   ⟨none, some 7, 7, .faddr (.t 3) 0⟩,
   ⟨none, some 8, 8, .load (some 9) (.t 7)⟩,
   ⟨none, some 9, 9, .call 28 [0, 0] [(.t 6), (.t 8)]⟩,
   ⟨none, some 10, 10, .not (.t 9)⟩])
 (.cond 10 (.seq (.reg [⟨none, some 4, 4, .mv (.k (.one (.pv (.bool false))))⟩])
 (.ret)) (.skip)))
 (.seq (.seq (.reg [⟨none, some 11, 11, .faddr (.t 2) 9⟩,
   ⟨none, some 12, 12, .load none (.t 11)⟩,
   ⟨none, some 13, 13, .faddr (.t 3) 9⟩,
   ⟨none, some 14, 14, .load none (.t 13)⟩,
   ⟨none, some 15, 15, .bin .neq (.t 12) (.t 14)⟩])
 (.cond 15 (.seq (.reg [⟨none, some 4, 4, .mv (.k (.one (.pv (.bool false))))⟩])
 (.ret)) (.skip)))
 (.seq (.reg [⟨none, some 4, 4, .mv (.k (.one (.pv (.bool true))))⟩])
 (.ret))))⟩
abbrev C_l_eqNode (Te : Nat → List AV → Res → Prop) : Prop := ∀ (x y : NodeV) (hx : x.Len), Te 10 [.agg (x.enc false), .agg (y.enc false)] ⟨[.one (bT (decide (x = y)))], [(x.enc false), (y.enc false)]⟩
theorem r_l_eqNode {Te : Nat → List AV → Res → Prop} (c_l_eqStore : C_l_eqStore Te) : ∀ (x y : NodeV) (hx : x.Len), RunFn Te x_l_eqNode [.agg (x.enc false), .agg (y.enc false)] ⟨[.one (bT (decide (x = y)))], [(x.enc false), (y.enc false)]⟩ := by
  intro x y hx
  refine ⟨by simp -implicitDefEqProofs only [x_l_eqNode, go_sem], ?_⟩
  have h0 : x.S.Len := hx
  have key : (x = y) ↔ x.S = y.S ∧ x.Cs = y.Cs := by cases x; cases y; simp
  simp only [key]
  clear key
  simp -implicitDefEqProofs only [x_l_eqNode, go_sem]
  refine .of (c_l_eqStore _ _ h0) ?_
  simp -implicitDefEqProofs only [go_sem]
  refine ⟨fun q => ?_, fun q => ?_⟩
  · have n0 : ¬ (x.S = y.S) := by simpa using q
    simp only [n0, false_and, and_false, true_and, decide_false]
  have e0 : x.S = y.S := by simpa using q
  clear q
  refine ⟨fun q => ?_, fun q => ?_⟩
  · have n1 : ¬ (x.Cs = y.Cs) := by simpa using q
    simp only [e0, n1, false_and, and_false, true_and, decide_false]
  have e1 : x.Cs = y.Cs := by simpa using q
  clear q
  simp only [e0, e1, true_and, and_true, decide_true]
structure RecV where
  Kind : Int
  R : RowV
  Key : ByteArray
  N : Int
  Who : Int
  Seq : Int
  Code : Int
  deriving DecidableEq
abbrev RecV.enc (o : Bool) (x : RecV) : List Go.X.T := [iT x.Kind, sT x.R.Key, iT x.R.Old.Tag, slT o 1 uR x.R.Old.B, iT x.R.New.Tag, slT o 1 uR x.R.New.B, iT x.R.Has, bT x.R.Aside, sT x.Key, iT x.N, iT x.Who, iT x.Seq, iT x.Code]
def RecV.In (n : Nat) (x : RecV) : Prop := x.R.In (n) ∧ x.Key.size ≤ n
theorem RecV.In.mono {x : RecV} {n m : Nat} (h : x.In n) (hn : n ≤ m) : x.In m := by
  simp only [RecV.In] at h ⊢
  exact ⟨h.1.mono hn, Nat.le_trans h.2 hn⟩
def szRec (x : RecV) (k : Int) : Int := szAll [(szRow x.R), (fun k => k - (x.Key.size : Nat))] k
theorem szRec_sane (x : RecV) : Sane (szRec x) := Sane.all (.cons (szRow_sane _) (.cons (Sane.sub _) .nil))
theorem szRec_in {x : RecV} {k : Int} {n : Nat} (hk : 0 ≤ k) (hn : k ≤ n) (h : 0 ≤ szRec x k) : x.In n := by
  obtain ⟨⟨j0, a0, b0, c0⟩, ⟨j1, a1, b1, c1⟩, _⟩ := szAll_ex (.cons (szRow_sane _) (.cons (Sane.sub _) .nil)) hk hn h
  exact ⟨(szRow_in a0 b0 c0), (by have q : (0 : Int) ≤ j1 - _ := c1; omega)⟩
def RecV.Len (x : RecV) : Prop := x.R.Len
theorem RecV.In.len {x : RecV} {n : Nat} (h : x.In n) (hn : n ≤ 2 ^ 21) : x.Len := by
  obtain ⟨h0, h1⟩ := h
  exact (h0).len hn
def RecV.mark (x : RecV) (k : Int) : RecV := ⟨x.Kind, x.R.mark (k), x.Key, x.N, x.Who, x.Seq, x.Code⟩
def RecV.far (x : RecV) (k : Int) : Int := x.R.far (k)
theorem RecV.mark_R_Old_B (x : RecV) (k : Int) : (x.mark k).R.Old.B.length = x.R.Old.B.length := by simp [RecV.mark, RowV.mark, CellV.mark, marks_length, markL_length]
theorem RecV.take_R_Old_B {β : Type} (f : UInt8 → β) (x : RecV) (k : Int) : ((x.mark k).R.Old.B.map f).take x.R.Old.B.length = (x.mark k).R.Old.B.map f := by rw [← x.mark_R_Old_B k, take_map]
theorem RecV.mark_R_New_B (x : RecV) (k : Int) : (x.mark k).R.New.B.length = x.R.New.B.length := by simp [RecV.mark, RowV.mark, CellV.mark, marks_length, markL_length]
theorem RecV.take_R_New_B {β : Type} (f : UInt8 → β) (x : RecV) (k : Int) : ((x.mark k).R.New.B.map f).take x.R.New.B.length = (x.mark k).R.New.B.map f := by rw [← x.mark_R_New_B k, take_map]
theorem RecV.far_le {x : RecV} (hx : x.Len) (k : Int) : k ≤ x.far k ∧ x.far k ≤ k + 4194304 := by
  have h0 : x.R.Len := hx
  have w0 := RowV.far_le h0 k
  simp only [RecV.far]
  omega
structure ActV where
  Kind : Int
  Who : Int
  Seq : Int
  Key : ByteArray
  Text : ByteArray
  Code : Int
  deriving DecidableEq
abbrev ActV.row (x : ActV) : List Go.X.T := [iT x.Kind, iT x.Who, iT x.Seq, sT x.Key, sT x.Text, iT x.Code]
def ActV.In (n : Nat) (x : ActV) : Prop := x.Key.size ≤ n ∧ x.Text.size ≤ n
theorem ActV.In.mono {x : ActV} {n m : Nat} (h : x.In n) (hn : n ≤ m) : x.In m := by
  simp only [ActV.In] at h ⊢
  exact ⟨Nat.le_trans h.1 hn, Nat.le_trans h.2 hn⟩
def szAct (x : ActV) (k : Int) : Int := szAll [(fun k => k - (x.Key.size : Nat)), (fun k => k - (x.Text.size : Nat))] k
theorem szAct_sane (x : ActV) : Sane (szAct x) := Sane.all (.cons (Sane.sub _) (.cons (Sane.sub _) .nil))
theorem szAct_in {x : ActV} {k : Int} {n : Nat} (hk : 0 ≤ k) (hn : k ≤ n) (h : 0 ≤ szAct x k) : x.In n := by
  obtain ⟨⟨j0, a0, b0, c0⟩, ⟨j1, a1, b1, c1⟩, _⟩ := szAll_ex (.cons (Sane.sub _) (.cons (Sane.sub _) .nil)) hk hn h
  exact ⟨(by have q : (0 : Int) ≤ j0 - _ := c0; omega), (by have q : (0 : Int) ≤ j1 - _ := c1; omega)⟩
def mkAct (k : Int) : ActV := ⟨k, k + 1, k + 1 + 1, mkS (k + 1 + 1 + 1), mkS (k + 1 + 1 + 1 + 1), k + 1 + 1 + 1 + 1 + 1⟩
def x_l_szAct : FnX := ⟨20, [.tmp 4],
  .seq (.reg [⟨none, some 2, 2, .box (.t 0)⟩,
   ⟨none, some 4, 4, .mv (.k (.one (.pv (.int .i64 0))))⟩])
 (.seq (.reg [⟨none, some 5, 5, .mv (.t 1)⟩,
   ⟨none, some 6, 6, .faddr (.t 2) 3⟩,
   ⟨none, some 7, 7, .load none (.t 6)⟩,
   ⟨none, some 8, 8, .slen (.t 7)⟩,
   ⟨none, some 9, 9, .bin .sub (.t 5) (.t 8)⟩,
   ⟨none, some 1, 1, .mv (.t 9)⟩])
 (.seq (.seq (.reg [⟨none, some 10, 10, .mv (.t 1)⟩,
   ⟨none, some 11, 11, .bin .lss (.t 10) (.k (.one (.pv (.int .i64 0))))⟩])
 (.cond 11 (.seq (.reg [⟨none, some 4, 4, .mv (.k (.one (.pv (.int .i64 (-1)))))⟩])
 (.ret)) (.skip)))
 (.seq (.reg [⟨none, some 12, 12, .mv (.t 1)⟩,
   ⟨none, some 13, 13, .faddr (.t 2) 4⟩,
   ⟨none, some 14, 14, .load none (.t 13)⟩,
   ⟨none, some 15, 15, .slen (.t 14)⟩,
   ⟨none, some 16, 16, .bin .sub (.t 12) (.t 15)⟩,
   ⟨none, some 1, 1, .mv (.t 16)⟩])
 (.seq (.seq (.reg [⟨none, some 17, 17, .mv (.t 1)⟩,
   ⟨none, some 18, 18, .bin .lss (.t 17) (.k (.one (.pv (.int .i64 0))))⟩])
 (.cond 18 (.seq (.reg [⟨none, some 4, 4, .mv (.k (.one (.pv (.int .i64 (-1)))))⟩])
 (.ret)) (.skip)))
 (.seq (.reg [⟨none, some 19, 19, .mv (.t 1)⟩,
   ⟨none, some 4, 4, .mv (.t 19)⟩])
 (.ret))))))⟩
abbrev C_l_szAct (Te : Nat → List AV → Res → Prop) : Prop := ∀ (x : ActV) (k : Int) (hx : x.In (2 ^ 48)) (hk : 0 ≤ k ∧ k ≤ 2 ^ 48), Te 87 [.agg x.row, .one (iT k)] ⟨[.one (iT (szAct x k))], [x.row, [iT k]]⟩
theorem r_l_szAct {Te : Nat → List AV → Res → Prop} : ∀ (x : ActV) (k : Int) (hx : x.In (2 ^ 48)) (hk : 0 ≤ k ∧ k ≤ 2 ^ 48), RunFn Te x_l_szAct [.agg x.row, .one (iT k)] ⟨[.one (iT (szAct x k))], [x.row, [iT k]]⟩ := by
  intro x k hx hk
  refine ⟨by simp -implicitDefEqProofs only [x_l_szAct, go_sem], ?_⟩
  obtain ⟨h0, h1⟩ := hx
  simp -implicitDefEqProofs (disch := omega) only [x_l_szAct, go_sem, IntWalk.i64_in]
  refine ⟨fun q0 => ?_, fun q0 => ?_⟩
  · simp only [decide_eq_true_eq] at q0
    simp only [szAct, szAll, if_pos q0]
  · simp only [decide_eq_false_iff_not] at q0
    have k1 : 0 ≤ (k - (x.Key.size : Nat)) ∧ (k - (x.Key.size : Nat)) ≤ 2 ^ 48 := ⟨by omega, Int.le_trans (Sane.sub _ _ hk.1) hk.2⟩
    try simp -implicitDefEqProofs (disch := omega) only [go_sem, IntWalk.i64_in]
    refine ⟨fun q1 => ?_, fun q1 => ?_⟩
    · simp only [decide_eq_true_eq] at q1
      simp only [szAct, szAll, if_neg q0, if_pos q1]
    · simp only [decide_eq_false_iff_not] at q1
      have k2 : 0 ≤ ((k - (x.Key.size : Nat)) - (x.Text.size : Nat)) ∧ ((k - (x.Key.size : Nat)) - (x.Text.size : Nat)) ≤ 2 ^ 48 := ⟨by omega, Int.le_trans (Sane.sub _ _ k1.1) k1.2⟩
      simp only [szAct, szAll, if_neg q0, if_neg q1]
def x_l_toAct_4 : XCode := .seq (.reg [⟨none, some 22, 22, .load (some 6) (.t 3)⟩,
   ⟨none, none, 100007, .store 6 (.t 2) (.t 22)⟩])
 (.ret)
def x_l_toAct_3 : XCode := .seq (.reg [⟨none, some 16, 16, .faddr (.t 1) 4⟩,
   ⟨none, some 17, 17, .load none (.t 16)⟩,
   ⟨none, some 18, 18, .faddr (.t 3) 4⟩,
   ⟨none, none, 100005, .store 1 (.t 18) (.t 17)⟩])
 (.seq (.reg [⟨none, some 19, 19, .faddr (.t 1) 5⟩,
   ⟨none, some 20, 20, .load none (.t 19)⟩,
   ⟨none, some 21, 21, .faddr (.t 3) 5⟩,
   ⟨none, none, 100006, .store 1 (.t 21) (.t 20)⟩])
 (x_l_toAct_4))
def x_l_toAct_2 : XCode := .seq (.reg [⟨none, some 10, 10, .faddr (.t 1) 2⟩,
   ⟨none, some 11, 11, .load none (.t 10)⟩,
   ⟨none, some 12, 12, .faddr (.t 3) 2⟩,
   ⟨none, none, 100003, .store 1 (.t 12) (.t 11)⟩])
 (.seq (.reg [⟨none, some 13, 13, .faddr (.t 1) 3⟩,
   ⟨none, some 14, 14, .load none (.t 13)⟩,
   ⟨none, some 15, 15, .faddr (.t 3) 3⟩,
   ⟨none, none, 100004, .store 1 (.t 15) (.t 14)⟩])
 (x_l_toAct_3))
def x_l_toAct_1 : XCode := .seq (.reg [⟨none, some 4, 4, .faddr (.t 1) 0⟩,
   ⟨none, some 5, 5, .load none (.t 4)⟩,
   ⟨none, some 6, 6, .faddr (.t 3) 0⟩,
   ⟨none, none, 100001, .store 1 (.t 6) (.t 5)⟩])
 (.seq (.reg [⟨none, some 7, 7, .faddr (.t 1) 1⟩,
   ⟨none, some 8, 8, .load none (.t 7)⟩,
   ⟨none, some 9, 9, .faddr (.t 3) 1⟩,
   ⟨none, none, 100002, .store 1 (.t 9) (.t 8)⟩])
 (x_l_toAct_2))
def x_l_toAct : FnX := ⟨23, [.cell 2 (some 6)],
  .seq (.reg [⟨none, some 1, 1, .box (.t 0)⟩,
   ⟨none, some 2, 2, .alloc [.pv (.int .i64 0), .pv (.int .i64 0), .pv (.int .i64 0), .pv (.string ⟨#[]⟩), .pv (.string ⟨#[]⟩), .pv (.int .i64 0)]⟩])
 (.seq (.reg [⟨none, some 3, 3, .alloc [.pv (.int .i64 0), .pv (.int .i64 0), .pv (.int .i64 0), .pv (.string ⟨#[]⟩), .pv (.string ⟨#[]⟩), .pv (.int .i64 0)]⟩])
 (x_l_toAct_1))⟩
abbrev C_l_toAct (Te : Nat → List AV → Res → Prop) : Prop := ∀ (x : ActV), Te 97 [.agg x.row] ⟨[.agg x.row], [x.row]⟩
theorem r_l_toAct {Te : Nat → List AV → Res → Prop} : ∀ (x : ActV), RunFn Te x_l_toAct [.agg x.row] ⟨[.agg x.row], [x.row]⟩ := by
  intro x
  refine ⟨by simp -implicitDefEqProofs only [x_l_toAct, go_sem], ?_⟩
  simp -implicitDefEqProofs only [x_l_toAct, go_sem]
  simp -implicitDefEqProofs only [x_l_toAct_1, go_sem]
  simp -implicitDefEqProofs only [x_l_toAct_2, go_sem]
  simp -implicitDefEqProofs only [x_l_toAct_3, go_sem]
  simp -implicitDefEqProofs only [x_l_toAct_4, go_sem]
def x_l_eqAct : FnX := ⟨35, [.tmp 4],
  .seq (.reg [⟨none, some 2, 2, .box (.t 0)⟩,
   ⟨none, some 3, 3, .box (.t 1)⟩,
   ⟨none, some 4, 4, .mv (.k (.one (.pv (.bool false))))⟩])
 (.seq (.seq (.reg [⟨none, some 5, 5, .faddr (.t 2) 0⟩,
   ⟨none, some 6, 6, .load none (.t 5)⟩,
   ⟨none, some 7, 7, .faddr (.t 3) 0⟩,
   ⟨none, some 8, 8, .load none (.t 7)⟩,
   ⟨none, some 9, 9, .bin .neq (.t 6) (.t 8)⟩])
 (.cond 9 (.seq (.reg [⟨none, some 4, 4, .mv (.k (.one (.pv (.bool false))))⟩])
 (.ret)) (.skip)))
 (.seq (.seq (.reg [⟨none, some 10, 10, .faddr (.t 2) 1⟩,
   ⟨none, some 11, 11, .load none (.t 10)⟩,
   ⟨none, some 12, 12, .faddr (.t 3) 1⟩,
   ⟨none, some 13, 13, .load none (.t 12)⟩,
   ⟨none, some 14, 14, .bin .neq (.t 11) (.t 13)⟩])
 (.cond 14 (.seq (.reg [⟨none, some 4, 4, .mv (.k (.one (.pv (.bool false))))⟩])
 (.ret)) (.skip)))
 (.seq (.seq (.reg [⟨none, some 15, 15, .faddr (.t 2) 2⟩,
   ⟨none, some 16, 16, .load none (.t 15)⟩,
   ⟨none, some 17, 17, .faddr (.t 3) 2⟩,
   ⟨none, some 18, 18, .load none (.t 17)⟩,
   ⟨none, some 19, 19, .bin .neq (.t 16) (.t 18)⟩])
 (.cond 19 (.seq (.reg [⟨none, some 4, 4, .mv (.k (.one (.pv (.bool false))))⟩])
 (.ret)) (.skip)))
 (.seq (.seq (.reg [⟨none, some 20, 20, .faddr (.t 2) 3⟩,
   ⟨none, some 21, 21, .load none (.t 20)⟩,
   ⟨none, some 22, 22, .faddr (.t 3) 3⟩,
   ⟨none, some 23, 23, .load none (.t 22)⟩,
   ⟨none, some 24, 24, .bin .neq (.t 21) (.t 23)⟩])
 (.cond 24 (.seq (.reg [⟨none, some 4, 4, .mv (.k (.one (.pv (.bool false))))⟩])
 (.ret)) (.skip)))
 (.seq (.seq (.reg [⟨none, some 25, 25, .faddr (.t 2) 4⟩,
   ⟨none, some 26, 26, .load none (.t 25)⟩,
   ⟨none, some 27, 27, .faddr (.t 3) 4⟩,
   ⟨none, some 28, 28, .load none (.t 27)⟩,
   ⟨none, some 29, 29, .bin .neq (.t 26) (.t 28)⟩])
 (.cond 29 (.seq (.reg [⟨none, some 4, 4, .mv (.k (.one (.pv (.bool false))))⟩])
 (.ret)) (.skip)))
 (.seq (.seq (.reg [⟨none, some 30, 30, .faddr (.t 2) 5⟩,
   ⟨none, some 31, 31, .load none (.t 30)⟩,
   ⟨none, some 32, 32, .faddr (.t 3) 5⟩,
   ⟨none, some 33, 33, .load none (.t 32)⟩,
   ⟨none, some 34, 34, .bin .neq (.t 31) (.t 33)⟩])
 (.cond 34 (.seq (.reg [⟨none, some 4, 4, .mv (.k (.one (.pv (.bool false))))⟩])
 (.ret)) (.skip)))
 (.seq (.reg [⟨none, some 4, 4, .mv (.k (.one (.pv (.bool true))))⟩])
 (.ret))))))))⟩
abbrev C_l_eqAct (Te : Nat → List AV → Res → Prop) : Prop := ∀ (x y : ActV), Te 107 [.agg x.row, .agg y.row] ⟨[.one (bT (decide (x = y)))], [x.row, y.row]⟩
theorem r_l_eqAct {Te : Nat → List AV → Res → Prop} : ∀ (x y : ActV), RunFn Te x_l_eqAct [.agg x.row, .agg y.row] ⟨[.one (bT (decide (x = y)))], [x.row, y.row]⟩ := by
  intro x y
  refine ⟨by simp -implicitDefEqProofs only [x_l_eqAct, go_sem], ?_⟩
  have key : (x = y) ↔ x.Kind = y.Kind ∧ x.Who = y.Who ∧ x.Seq = y.Seq ∧ x.Key = y.Key ∧ x.Text = y.Text ∧ x.Code = y.Code := by cases x; cases y; simp
  simp only [key]
  clear key
  simp -implicitDefEqProofs only [x_l_eqAct, go_sem]
  refine ⟨fun q => ?_, fun q => ?_⟩
  · have n0 : ¬ (x.Kind = y.Kind) := by simpa using q
    simp only [n0, false_and, and_false, true_and, decide_false]
  have e0 : x.Kind = y.Kind := by simpa using q
  clear q
  refine ⟨fun q => ?_, fun q => ?_⟩
  · have n1 : ¬ (x.Who = y.Who) := by simpa using q
    simp only [e0, n1, false_and, and_false, true_and, decide_false]
  have e1 : x.Who = y.Who := by simpa using q
  clear q
  refine ⟨fun q => ?_, fun q => ?_⟩
  · have n2 : ¬ (x.Seq = y.Seq) := by simpa using q
    simp only [e0, e1, n2, false_and, and_false, true_and, decide_false]
  have e2 : x.Seq = y.Seq := by simpa using q
  clear q
  refine ⟨fun q => ?_, fun q => ?_⟩
  · have n3 : ¬ (x.Key = y.Key) := by simpa using q
    simp only [e0, e1, e2, n3, false_and, and_false, true_and, decide_false]
  have e3 : x.Key = y.Key := by simpa using q
  clear q
  refine ⟨fun q => ?_, fun q => ?_⟩
  · have n4 : ¬ (x.Text = y.Text) := by simpa using q
    simp only [e0, e1, e2, e3, n4, false_and, and_false, true_and, decide_false]
  have e4 : x.Text = y.Text := by simpa using q
  clear q
  refine ⟨fun q => ?_, fun q => ?_⟩
  · have n5 : ¬ (x.Code = y.Code) := by simpa using q
    simp only [e0, e1, e2, e3, e4, n5, false_and, and_false, true_and, decide_false]
  have e5 : x.Code = y.Code := by simpa using q
  clear q
  simp only [e0, e1, e2, e3, e4, e5, true_and, and_true, decide_true]
def x_l_szActS : FnX := ⟨27, [.tmp 4],
  .seq (.reg [⟨none, some 4, 4, .mv (.k (.one (.pv (.int .i64 0))))⟩])
 (.seq (.reg [⟨none, some 6, 6, .mv (.t 1)⟩,
   ⟨none, some 7, 7, .mv (.t 0)⟩,
   ⟨none, some 8, 8, .len (.t 7)⟩,
   ⟨none, some 9, 9, .bin .sub (.t 6) (.t 8)⟩,
   ⟨none, some 1, 1, .mv (.t 9)⟩])
 (.seq (.seq (.reg [⟨none, some 10, 10, .mv (.t 1)⟩,
   ⟨none, some 11, 11, .bin .lss (.t 10) (.k (.one (.pv (.int .i64 0))))⟩])
 (.cond 11 (.seq (.reg [⟨none, some 4, 4, .mv (.k (.one (.pv (.int .i64 (-1)))))⟩])
 (.ret)) (.skip)))
 (.seq (.seq (.reg [⟨none, some 5, 5, .mv (.k (.one (.pv (.int .i64 0))))⟩])
 (.block 0 (.loop [0, 1, 5] (.seq (.seq (.reg [⟨none, some 12, 12, .mv (.t 5)⟩,
   ⟨none, some 13, 13, .mv (.t 0)⟩,
   ⟨none, some 14, 14, .len (.t 13)⟩,
   ⟨none, some 15, 15, .bin .lss (.t 12) (.t 14)⟩])
 (.cond 15 (.skip) (.exit 0)))
 (.seq (.block 1 (.seq (.reg [⟨none, some 18, 18, .mv (.t 0)⟩,
   ⟨none, some 19, 19, .mv (.t 5)⟩,
   ⟨none, some 20, 20, .iaddr 6 (.t 18) (.t 19)⟩,
   ⟨none, some 21, 21, .load (some 6) (.t 20)⟩,
   ⟨none, some 22, 22, .mv (.t 1)⟩,
   ⟨none, some 23, 23, .call 87 [0, 0] [(.t 21), (.t 22)]⟩,
   ⟨none, some 1, 1, .mv (.t 23)⟩])
 (.seq (.reg [⟨none, some 24, 24, .mv (.t 1)⟩,
   ⟨none, some 25, 25, .bin .lss (.t 24) (.k (.one (.pv (.int .i64 0))))⟩])
 (.cond 25 (.seq (.reg [⟨none, some 4, 4, .mv (.k (.one (.pv (.int .i64 (-1)))))⟩])
 (.ret)) (.skip)))))
 (.reg [⟨none, some 16, 16, .mv (.t 5)⟩,
   ⟨none, some 17, 17, .bin .add (.t 16) (.k (.one (.pv (.int .i64 1))))⟩,
   ⟨none, some 5, 5, .mv (.t 17)⟩]))))))
 (.norm [1] (.seq (.reg [⟨none, some 26, 26, .mv (.t 1)⟩,
   ⟨none, some 4, 4, .mv (.t 26)⟩])
 (.ret))))))⟩
abbrev C_l_szActS (Te : Nat → List AV → Res → Prop) : Prop := ∀ (l : List ActV) (k : Int) (hk : 0 ≤ k ∧ k ≤ 2 ^ 48) (hl : l.length ≤ 2 ^ 48) (hs : ∀ y ∈ l, y.In (2 ^ 48)), Te 39 [.one (slT false 6 ActV.row l), .one (iT k)] ⟨[.one (iT (szSl szAct l k))], [[slT false 6 ActV.row l], [iT k]]⟩
theorem r_l_szActS {Te : Nat → List AV → Res → Prop} (c_l_szAct : C_l_szAct Te) : ∀ (l : List ActV) (k : Int) (hk : 0 ≤ k ∧ k ≤ 2 ^ 48) (hl : l.length ≤ 2 ^ 48) (hs : ∀ y ∈ l, y.In (2 ^ 48)), RunFn Te x_l_szActS [.one (slT false 6 ActV.row l), .one (iT k)] ⟨[.one (iT (szSl szAct l k))], [[slT false 6 ActV.row l], [iT k]]⟩ := by
  intro l k hk hl hs
  refine ⟨by simp -implicitDefEqProofs only [x_l_szActS, go_sem], ?_⟩
  simp -implicitDefEqProofs (disch := omega) only [x_l_szActS, go_sem, IntWalk.i64_in]
  refine ⟨fun h => ?_, fun h => ?_⟩
  · simp only [decide_eq_true_eq] at h
    simp only [szSl, szAll, if_pos h]
  · simp only [decide_eq_false_iff_not] at h
    refine loop_of (σ := Nat × Int) (fun x => ⟨[(0, .one (.ro 6 (l.map ActV.row))), (1, .one (.pv (.int .i64 x.2))), (5, .one (.pv (.int .i64 x.1)))], [], [(0, [slT false 6 ActV.row l]), (1, [iT k])]⟩) (fun x => x.1 ≤ l.length ∧ 0 ≤ x.2 ∧ x.2 ≤ k ∧ szSl szAct l k = szAll ((l.drop x.1).map szAct) x.2) (fun x => l.length - x.1) (0, k - l.length) ?_ ⟨Nat.zero_le _, by omega, by omega, by simp only [szSl, szAll, if_neg h, List.drop_zero]⟩ ?_
    · simp -implicitDefEqProofs only [go_sem]; rfl
    · rintro ⟨i, c⟩ ⟨hi, h0, h1, he⟩
      simp only at hi h0 h1 he
      simp -implicitDefEqProofs only [go_sem]
      refine ⟨fun h => ?_, fun h => ?_⟩
      · have hi' : i < l.length := by simp only [decide_eq_true_eq] at h; omega
        have hsz := hs l[i] (List.getElem_mem hi')
        rw [List.drop_eq_getElem_cons hi'] at he
        simp -implicitDefEqProofs (disch := omega) only [go_sem, List.getElem?_eq_getElem hi', IntWalk.i64_in]
        refine .of (c_l_szAct _ _ hsz ⟨h0, by omega⟩) ?_
        simp -implicitDefEqProofs only [go_sem]
        refine ⟨fun h2 => ?_, fun h2 => ?_⟩
        · simp only [decide_eq_true_eq] at h2
          rw [he]
          simp only [List.map_cons, szAll, if_pos h2]
        · simp only [decide_eq_false_iff_not] at h2
          refine ⟨(i + 1, szAct l[i] c), by rw [IntWalk.i64_in _ (by omega)]; rfl, ⟨hi', by omega, Int.le_trans (szAct_sane _ _ h0) h1, ?_⟩, by simp only; omega⟩
          rw [he]
          simp only [List.map_cons, szAll, if_neg h2]
      · have hle : l.length ≤ i := by simp only [decide_eq_false_iff_not] at h; omega
        rw [List.drop_of_length_le hle] at he
        simp only [szAll, List.map_nil] at he
        rw [he]
def x_l_toActS : FnX := ⟨23, [.tmp 2],
  .seq (.reg [⟨none, some 2, 2, .mv (.k (.one (.nils 6)))⟩])
 (.seq (.reg [⟨none, some 5, 5, .mv (.t 0)⟩,
   ⟨none, some 6, 6, .len (.t 5)⟩,
   ⟨none, some 7, 7, .mks 6 64 [.pv (.int .i64 0), .pv (.int .i64 0), .pv (.int .i64 0), .pv (.string ⟨#[]⟩), .pv (.string ⟨#[]⟩), .pv (.int .i64 0)] (.t 6)⟩,
   ⟨none, some 3, 3, .mv (.t 7)⟩])
 (.seq (.seq (.reg [⟨none, some 4, 4, .mv (.k (.one (.pv (.int .i64 0))))⟩])
 (.block 0 (.loop [0, 3, 4] (.seq (.seq (.reg [⟨none, some 8, 8, .mv (.t 4)⟩,
   ⟨none, some 9, 9, .mv (.t 0)⟩,
   ⟨none, some 10, 10, .len (.t 9)⟩,
   ⟨none, some 11, 11, .bin .lss (.t 8) (.t 10)⟩])
 (.cond 11 (.skip) (.exit 0)))
 (.seq (.block 1 (.reg [⟨none, some 14, 14, .mv (.t 3)⟩,
   ⟨none, some 15, 15, .mv (.t 4)⟩,
   ⟨none, some 16, 16, .mv (.t 0)⟩,
   ⟨none, some 17, 17, .mv (.t 4)⟩,
   ⟨none, some 18, 18, .iaddr 6 (.t 16) (.t 17)⟩,
   ⟨none, some 19, 19, .load (some 6) (.t 18)⟩,
   ⟨none, some 20, 20, .call 97 [0] [(.t 19)]⟩,
   ⟨none, some 21, 21, .iaddr 6 (.t 14) (.t 15)⟩,
   ⟨none, none, 100001, .store 6 (.t 21) (.t 20)⟩]))
 (.reg [⟨none, some 12, 12, .mv (.t 4)⟩,
   ⟨none, some 13, 13, .bin .add (.t 12) (.k (.one (.pv (.int .i64 1))))⟩,
   ⟨none, some 4, 4, .mv (.t 13)⟩]))))))
 (.norm [3] (.seq (.reg [⟨none, some 22, 22, .mv (.t 3)⟩,
   ⟨none, some 2, 2, .mv (.t 22)⟩])
 (.ret)))))⟩
abbrev C_l_toActS (Te : Nat → List AV → Res → Prop) : Prop := ∀ (l : List ActV) (hl : l.length ≤ 2 ^ 31), Te 50 [.one (slT false 6 ActV.row l)] ⟨[.one (slT true 6 ActV.row l)], [[slT false 6 ActV.row l]]⟩
theorem r_l_toActS {Te : Nat → List AV → Res → Prop} (c_l_toAct : C_l_toAct Te) : ∀ (l : List ActV) (hl : l.length ≤ 2 ^ 31), RunFn Te x_l_toActS [.one (slT false 6 ActV.row l)] ⟨[.one (slT true 6 ActV.row l)], [[slT false 6 ActV.row l]]⟩ := by
  intro l hl
  refine ⟨by simp -implicitDefEqProofs only [x_l_toActS, go_sem], ?_⟩
  simp -implicitDefEqProofs (disch := omega) only [x_l_toActS, go_sem, IntWalk.i64_in]
  refine ⟨⟨by simp only [decide_eq_true_eq]; omega, by simp only [decide_eq_true_eq]; omega⟩, ?_⟩
  refine loop_of (σ := Nat) (fun i => ⟨[(0, .one (.ro 6 (l.map ActV.row))), (3, .one (.rf 24 0 [] 6 0 l.length)), (4, .one (.pv (.int .i64 i)))], [],
    [(0, [slT false 6 ActV.row l]), (24, [.sl true 6 () ((l.take i).map ActV.row ++ List.replicate (l.length - i) [.pv (.int .i64 0), .pv (.int .i64 0), .pv (.int .i64 0), .pv (.string ⟨#[]⟩), .pv (.string ⟨#[]⟩), .pv (.int .i64 0)])])]⟩) (fun i => i ≤ l.length) (fun i => l.length - i) 0 ?_ (Nat.zero_le _) ?_
  · simp -implicitDefEqProofs only [go_sem]; rfl
  · intro i hi
    simp -implicitDefEqProofs only [go_sem]
    refine ⟨fun h => ?_, fun h => ?_⟩
    · have hi' : i < l.length := by simp only [decide_eq_true_eq] at h; omega
      simp -implicitDefEqProofs only [go_sem, List.getElem?_eq_getElem hi', fill_len ActV.row l [.pv (.int .i64 0), .pv (.int .i64 0), .pv (.int .i64 0), .pv (.string ⟨#[]⟩), .pv (.string ⟨#[]⟩), .pv (.int .i64 0)] hi, storeAp, setCells, List.getD_eq_getElem?_getD, fill_get ActV.row l [.pv (.int .i64 0), .pv (.int .i64 0), .pv (.int .i64 0), .pv (.string ⟨#[]⟩), .pv (.string ⟨#[]⟩), .pv (.int .i64 0)] hi']
      refine .of (c_l_toAct _) ?_
      simp -implicitDefEqProofs only [go_sem, fill_len ActV.row l [.pv (.int .i64 0), .pv (.int .i64 0), .pv (.int .i64 0), .pv (.string ⟨#[]⟩), .pv (.string ⟨#[]⟩), .pv (.int .i64 0)] hi, storeAp, setCells, List.getD_eq_getElem?_getD, fill_get ActV.row l [.pv (.int .i64 0), .pv (.int .i64 0), .pv (.int .i64 0), .pv (.string ⟨#[]⟩), .pv (.string ⟨#[]⟩), .pv (.int .i64 0)] hi']
      repeat (first | refine ⟨by decide, ?_⟩ | refine ⟨by simpa using hi', ?_⟩)
      refine ⟨i + 1, ?_, hi', by omega⟩
      rw [← fill_set ActV.row l [.pv (.int .i64 0), .pv (.int .i64 0), .pv (.int .i64 0), .pv (.string ⟨#[]⟩), .pv (.string ⟨#[]⟩), .pv (.int .i64 0)] hi', IntWalk.i64_in _ (by omega)]
      rfl
    · have : i = l.length := by simp only [decide_eq_false_iff_not] at h; omega
      subst this
      simp -implicitDefEqProofs only [go_sem, fill_len ActV.row l [.pv (.int .i64 0), .pv (.int .i64 0), .pv (.int .i64 0), .pv (.string ⟨#[]⟩), .pv (.string ⟨#[]⟩), .pv (.int .i64 0)] hi, fill_end]
      refine ⟨by simp, ?_⟩
      simp [take_map]
def x_l_eqActS : FnX := ⟨27, [.tmp 4],
  .seq (.reg [⟨none, some 4, 4, .mv (.k (.one (.pv (.bool false))))⟩])
 (.seq (.seq (.reg [⟨none, some 6, 6, .mv (.t 0)⟩,
   ⟨none, some 7, 7, .len (.t 6)⟩,
   ⟨none, some 8, 8, .mv (.t 1)⟩,
   ⟨none, some 9, 9, .len (.t 8)⟩,
   ⟨none, some 10, 10, .bin .neq (.t 7) (.t 9)⟩])
 (.cond 10 (.seq (.reg [⟨none, some 4, 4, .mv (.k (.one (.pv (.bool false))))⟩])
 (.ret)) (.skip)))
 (.seq (.seq (.reg [⟨none, some 5, 5, .mv (.k (.one (.pv (.int .i64 0))))⟩])
 (.block 0 (.loop [0, 1, 5] (.seq (.seq (.reg [⟨none, some 11, 11, .mv (.t 5)⟩,
   ⟨none, some 12, 12, .mv (.t 0)⟩,
   ⟨none, some 13, 13, .len (.t 12)⟩,
   ⟨none, some 14, 14, .bin .lss (.t 11) (.t 13)⟩])
 (.cond 14 (.skip) (.exit 0)))
 (.seq (.block 1 (.seq (.draw [⟨none, some 17, 17, .mv (.t 0)⟩,
   ⟨none, some 18, 18, .mv (.t 5)⟩,
   ⟨none, some 19, 19, .iaddr 6 (.t 17) (.t 18)⟩,
   ⟨none, some 20, 20, .load (some 6) (.t 19)⟩,
   ⟨none, some 21, 21, .mv (.t 1)⟩,
   ⟨none, some 22, 22, .mv (.t 5)⟩,
   ⟨none, some 23, 23, .iaddr 6 (.t 21) (.t 22)⟩,
   ⟨none, some 24, 24, .load (some 6) (.t 23)⟩,
   ⟨none, some 25, 25, .call 107 [0, 0] [(.t 20), (.t 24)]⟩,
   ⟨none, some 26, 26, .not (.t 25)⟩] [[], [], [0, 1], [2], [], [], [4, 5], [6], [3, 7], [8]])
 (.cond 26 (.seq (.reg [⟨none, some 4, 4, .mv (.k (.one (.pv (.bool false))))⟩])
 (.ret)) (.skip))))
 (.reg [⟨none, some 15, 15, .mv (.t 5)⟩,
   ⟨none, some 16, 16, .bin .add (.t 15) (.k (.one (.pv (.int .i64 1))))⟩,
   ⟨none, some 5, 5, .mv (.t 16)⟩]))))))
 (.norm [] (.seq (.reg [⟨none, some 4, 4, .mv (.k (.one (.pv (.bool true))))⟩])
 (.ret)))))⟩
abbrev C_l_eqActS (Te : Nat → List AV → Res → Prop) : Prop := ∀ (l m : List ActV) (hl : l.length ≤ 2 ^ 31), Te 61 [.one (slT false 6 ActV.row l), .one (slT false 6 ActV.row m)] ⟨[.one (bT (decide (l = m)))], [[slT false 6 ActV.row l], [slT false 6 ActV.row m]]⟩
theorem r_l_eqActS {Te : Nat → List AV → Res → Prop} (c_l_eqAct : C_l_eqAct Te) : ∀ (l m : List ActV) (hl : l.length ≤ 2 ^ 31), RunFn Te x_l_eqActS [.one (slT false 6 ActV.row l), .one (slT false 6 ActV.row m)] ⟨[.one (bT (decide (l = m)))], [[slT false 6 ActV.row l], [slT false 6 ActV.row m]]⟩ := by
  intro l m hl
  refine ⟨by simp -implicitDefEqProofs only [x_l_eqActS, go_sem], ?_⟩
  simp -implicitDefEqProofs (disch := omega) only [x_l_eqActS, go_sem, IntWalk.i64_in]
  refine ⟨fun h => ?_, fun h => ?_⟩
  · have : l ≠ m := fun e => by simp [e] at h
    simp [this]
  · have hlen : l.length = m.length := by simp at h; omega
    refine loop_of (σ := Nat) (fun i => ⟨[(0, .one (.ro 6 (l.map ActV.row))), (1, .one (.ro 6 (m.map ActV.row))), (5, .one (.pv (.int .i64 i)))], [], [(0, [slT false 6 ActV.row l]), (1, [slT false 6 ActV.row m])]⟩) (fun i => i ≤ l.length ∧ l.take i = m.take i) (fun i => l.length - i) 0 ?_ ⟨Nat.zero_le _, by simp⟩ ?_
    · simp -implicitDefEqProofs only [go_sem]; rfl
    · intro i ⟨hi, hs⟩
      simp -implicitDefEqProofs only [go_sem]
      refine ⟨fun h => ?_, fun h => ?_⟩
      · have hi' : i < l.length := by simp only [decide_eq_true_eq] at h; omega
        have hj' : i < m.length := by omega
        simp -implicitDefEqProofs only [go_sem, List.getElem?_eq_getElem hi', List.getElem?_eq_getElem hj']
        refine .of (c_l_eqAct _ _) ?_
        simp -implicitDefEqProofs only [go_sem]
        refine ⟨by decide, fun h2 => ?_, fun h2 => ?_⟩
        · have : l ≠ m := fun e => by subst e; simp at h2
          simp [this]
        · refine ⟨i + 1, by rw [IntWalk.i64_in _ (by omega)]; rfl, ⟨hi', same_step hi' hj' hs ?_⟩, by omega⟩
          simpa using h2
      · have hle : l.length ≤ i := by simp only [decide_eq_false_iff_not] at h; omega
        have : l = m := same_end hle (by omega) hs
        simp [this]
end Go.X

/- Ec -/
namespace Go.X
set_option maxRecDepth 100000
set_option maxHeartbeats 8000000
def x_l_szActSS : FnX := ⟨27, [.tmp 4],
  .seq (.reg [⟨none, some 4, 4, .mv (.k (.one (.pv (.int .i64 0))))⟩])
 (.seq (.reg [⟨none, some 6, 6, .mv (.t 1)⟩,
   ⟨none, some 7, 7, .mv (.t 0)⟩,
   ⟨none, some 8, 8, .len (.t 7)⟩,
   ⟨none, some 9, 9, .bin .sub (.t 6) (.t 8)⟩,
   ⟨none, some 1, 1, .mv (.t 9)⟩])
 (.seq (.seq (.reg [⟨none, some 10, 10, .mv (.t 1)⟩,
   ⟨none, some 11, 11, .bin .lss (.t 10) (.k (.one (.pv (.int .i64 0))))⟩])
 (.cond 11 (.seq (.reg [⟨none, some 4, 4, .mv (.k (.one (.pv (.int .i64 (-1)))))⟩])
 (.ret)) (.skip)))
 (.seq (.seq (.reg [⟨none, some 5, 5, .mv (.k (.one (.pv (.int .i64 0))))⟩])
 (.block 0 (.loop [0, 1, 5] (.seq (.seq (.reg [⟨none, some 12, 12, .mv (.t 5)⟩,
   ⟨none, some 13, 13, .mv (.t 0)⟩,
   ⟨none, some 14, 14, .len (.t 13)⟩,
   ⟨none, some 15, 15, .bin .lss (.t 12) (.t 14)⟩])
 (.cond 15 (.skip) (.exit 0)))
 (.seq (.block 1 (.seq (.reg [⟨none, some 18, 18, .mv (.t 0)⟩,
   ⟨none, some 19, 19, .mv (.t 5)⟩,
   ⟨none, some 20, 20, .iaddr 1 (.t 18) (.t 19)⟩,
   ⟨none, some 21, 21, .load none (.t 20)⟩,
   ⟨none, some 22, 22, .mv (.t 1)⟩,
   ⟨none, some 23, 23, .call 39 [0, 0] [(.t 21), (.t 22)]⟩,
   ⟨none, some 1, 1, .mv (.t 23)⟩])
 (.seq (.reg [⟨none, some 24, 24, .mv (.t 1)⟩,
   ⟨none, some 25, 25, .bin .lss (.t 24) (.k (.one (.pv (.int .i64 0))))⟩])
 (.cond 25 (.seq (.reg [⟨none, some 4, 4, .mv (.k (.one (.pv (.int .i64 (-1)))))⟩])
 (.ret)) (.skip)))))
 (.reg [⟨none, some 16, 16, .mv (.t 5)⟩,
   ⟨none, some 17, 17, .bin .add (.t 16) (.k (.one (.pv (.int .i64 1))))⟩,
   ⟨none, some 5, 5, .mv (.t 17)⟩]))))))
 (.norm [1] (.seq (.reg [⟨none, some 26, 26, .mv (.t 1)⟩,
   ⟨none, some 4, 4, .mv (.t 26)⟩])
 (.ret))))))⟩
abbrev C_l_szActSS (Te : Nat → List AV → Res → Prop) : Prop := ∀ (l : List (List ActV)) (k : Int) (hk : 0 ≤ k ∧ k ≤ 2 ^ 48) (hl : l.length ≤ 2 ^ 48) (hs : ∀ y ∈ l, (y.length ≤ 2 ^ 48 ∧ ∀ z ∈ y, z.In (2 ^ 48))), Te 40 [.one (slT false 1 (fun y => [slT false 6 ActV.row y]) l), .one (iT k)] ⟨[.one (iT (szSl (szSl szAct) l k))], [[slT false 1 (fun y => [slT false 6 ActV.row y]) l], [iT k]]⟩
theorem r_l_szActSS {Te : Nat → List AV → Res → Prop} (c_l_szActS : C_l_szActS Te) : ∀ (l : List (List ActV)) (k : Int) (hk : 0 ≤ k ∧ k ≤ 2 ^ 48) (hl : l.length ≤ 2 ^ 48) (hs : ∀ y ∈ l, (y.length ≤ 2 ^ 48 ∧ ∀ z ∈ y, z.In (2 ^ 48))), RunFn Te x_l_szActSS [.one (slT false 1 (fun y => [slT false 6 ActV.row y]) l), .one (iT k)] ⟨[.one (iT (szSl (szSl szAct) l k))], [[slT false 1 (fun y => [slT false 6 ActV.row y]) l], [iT k]]⟩ := by
  intro l k hk hl hs
  refine ⟨by simp -implicitDefEqProofs only [x_l_szActSS, go_sem], ?_⟩
  simp -implicitDefEqProofs (disch := omega) only [x_l_szActSS, go_sem, IntWalk.i64_in]
  refine ⟨fun h => ?_, fun h => ?_⟩
  · simp only [decide_eq_true_eq] at h
    simp only [szSl, szAll, if_pos h]
  · simp only [decide_eq_false_iff_not] at h
    refine loop_of (σ := Nat × Int) (fun x => ⟨[(0, .one (.ro 1 (l.map (fun y => [slT false 6 ActV.row y])))), (1, .one (.pv (.int .i64 x.2))), (5, .one (.pv (.int .i64 x.1)))], [], [(0, [slT false 1 (fun y => [slT false 6 ActV.row y]) l]), (1, [iT k])]⟩) (fun x => x.1 ≤ l.length ∧ 0 ≤ x.2 ∧ x.2 ≤ k ∧ szSl (szSl szAct) l k = szAll ((l.drop x.1).map (szSl szAct)) x.2) (fun x => l.length - x.1) (0, k - l.length) ?_ ⟨Nat.zero_le _, by omega, by omega, by simp only [szSl, szAll, if_neg h, List.drop_zero]⟩ ?_
    · simp -implicitDefEqProofs only [go_sem]; rfl
    · rintro ⟨i, c⟩ ⟨hi, h0, h1, he⟩
      simp only at hi h0 h1 he
      simp -implicitDefEqProofs only [go_sem]
      refine ⟨fun h => ?_, fun h => ?_⟩
      · have hi' : i < l.length := by simp only [decide_eq_true_eq] at h; omega
        have hsz := hs l[i] (List.getElem_mem hi')
        have hsn : szSl szAct l[i] c ≤ c := (Sane.sl szAct_sane) l[i] c h0
        rw [List.drop_eq_getElem_cons hi'] at he
        simp -implicitDefEqProofs (disch := omega) only [go_sem, List.getElem?_eq_getElem hi', IntWalk.i64_in]
        refine .of (c_l_szActS _ _ ⟨h0, by omega⟩ hsz.1 hsz.2) ?_
        simp -implicitDefEqProofs only [go_sem]
        refine ⟨fun h2 => ?_, fun h2 => ?_⟩
        · simp only [decide_eq_true_eq] at h2
          rw [he]
          simp only [List.map_cons, szAll, if_pos h2]
        · simp only [decide_eq_false_iff_not] at h2
          refine ⟨(i + 1, szSl szAct l[i] c), by rw [IntWalk.i64_in _ (by omega)]; rfl, ⟨hi', by omega, by simp only; omega, ?_⟩, by simp only; omega⟩
          rw [he]
          simp only [List.map_cons, szAll, if_neg h2]
      · have hle : l.length ≤ i := by simp only [decide_eq_false_iff_not] at h; omega
        rw [List.drop_of_length_le hle] at he
        simp only [szAll, List.map_nil] at he
        rw [he]
def x_l_toActSS : FnX := ⟨23, [.tmp 2],
  .seq (.reg [⟨none, some 2, 2, .mv (.k (.one (.nils 1)))⟩])
 (.seq (.reg [⟨none, some 5, 5, .mv (.t 0)⟩,
   ⟨none, some 6, 6, .len (.t 5)⟩,
   ⟨none, some 7, 7, .mks 1 24 [.sl true 6 () []] (.t 6)⟩,
   ⟨none, some 3, 3, .mv (.t 7)⟩])
 (.seq (.seq (.reg [⟨none, some 4, 4, .mv (.k (.one (.pv (.int .i64 0))))⟩])
 (.block 0 (.loop [0, 3, 4] (.seq (.seq (.reg [⟨none, some 8, 8, .mv (.t 4)⟩,
   ⟨none, some 9, 9, .mv (.t 0)⟩,
   ⟨none, some 10, 10, .len (.t 9)⟩,
   ⟨none, some 11, 11, .bin .lss (.t 8) (.t 10)⟩])
 (.cond 11 (.skip) (.exit 0)))
 (.seq (.block 1 (.reg [⟨none, some 14, 14, .mv (.t 3)⟩,
   ⟨none, some 15, 15, .mv (.t 4)⟩,
   ⟨none, some 16, 16, .mv (.t 0)⟩,
   ⟨none, some 17, 17, .mv (.t 4)⟩,
   ⟨none, some 18, 18, .iaddr 1 (.t 16) (.t 17)⟩,
   ⟨none, some 19, 19, .load none (.t 18)⟩,
   ⟨none, some 20, 20, .call 50 [0] [(.t 19)]⟩,
   ⟨none, some 21, 21, .iaddr 1 (.t 14) (.t 15)⟩,
   ⟨none, none, 100001, .store 1 (.t 21) (.t 20)⟩]))
 (.reg [⟨none, some 12, 12, .mv (.t 4)⟩,
   ⟨none, some 13, 13, .bin .add (.t 12) (.k (.one (.pv (.int .i64 1))))⟩,
   ⟨none, some 4, 4, .mv (.t 13)⟩]))))))
 (.norm [3] (.seq (.reg [⟨none, some 22, 22, .mv (.t 3)⟩,
   ⟨none, some 2, 2, .mv (.t 22)⟩])
 (.ret)))))⟩
abbrev C_l_toActSS (Te : Nat → List AV → Res → Prop) : Prop := ∀ (l : List (List ActV)) (hl : (l.length ≤ 2 ^ 21 ∧ ∀ y ∈ l, y.length ≤ 2 ^ 21)), Te 51 [.one (slT false 1 (fun y => [slT false 6 ActV.row y]) l)] ⟨[.one (slT true 1 (fun y => [slT true 6 ActV.row y]) l)], [[slT false 1 (fun y => [slT false 6 ActV.row y]) l]]⟩
theorem r_l_toActSS {Te : Nat → List AV → Res → Prop} (c_l_toActS : C_l_toActS Te) : ∀ (l : List (List ActV)) (hl : (l.length ≤ 2 ^ 21 ∧ ∀ y ∈ l, y.length ≤ 2 ^ 21)), RunFn Te x_l_toActSS [.one (slT false 1 (fun y => [slT false 6 ActV.row y]) l)] ⟨[.one (slT true 1 (fun y => [slT true 6 ActV.row y]) l)], [[slT false 1 (fun y => [slT false 6 ActV.row y]) l]]⟩ := by
  intro l hl
  refine ⟨by simp -implicitDefEqProofs only [x_l_toActSS, go_sem], ?_⟩
  have hl1 := hl.1
  simp -implicitDefEqProofs (disch := omega) only [x_l_toActSS, go_sem, IntWalk.i64_in]
  refine ⟨⟨by simp only [decide_eq_true_eq]; omega, by simp only [decide_eq_true_eq]; omega⟩, ?_⟩
  refine loop_of (σ := Nat) (fun i => ⟨[(0, .one (.ro 1 (l.map (fun y => [slT false 6 ActV.row y])))), (3, .one (.rf 24 0 [] 1 0 l.length)), (4, .one (.pv (.int .i64 i)))], [],
    [(0, [slT false 1 (fun y => [slT false 6 ActV.row y]) l]), (24, [.sl true 1 () ((l.take i).map (fun y => [slT true 6 ActV.row y]) ++ List.replicate (l.length - i) [.sl true 6 () []])])]⟩) (fun i => i ≤ l.length) (fun i => l.length - i) 0 ?_ (Nat.zero_le _) ?_
  · simp -implicitDefEqProofs only [go_sem]; rfl
  · intro i hi
    simp -implicitDefEqProofs only [go_sem]
    refine ⟨fun h => ?_, fun h => ?_⟩
    · have hi' : i < l.length := by simp only [decide_eq_true_eq] at h; omega
      simp -implicitDefEqProofs only [go_sem, List.getElem?_eq_getElem hi', fill_len (fun y => [slT true 6 ActV.row y]) l [.sl true 6 () []] hi, storeAp, setCells, List.getD_eq_getElem?_getD, fill_get (fun y => [slT true 6 ActV.row y]) l [.sl true 6 () []] hi']
      refine .of (c_l_toActS _ (Nat.le_trans (hl.2 _ (List.getElem_mem hi')) (by decide))) ?_
      simp -implicitDefEqProofs only [go_sem, fill_len (fun y => [slT true 6 ActV.row y]) l [.sl true 6 () []] hi, storeAp, setCells, List.getD_eq_getElem?_getD, fill_get (fun y => [slT true 6 ActV.row y]) l [.sl true 6 () []] hi']
      repeat (first | refine ⟨by decide, ?_⟩ | refine ⟨by simpa using hi', ?_⟩)
      refine ⟨i + 1, ?_, hi', by omega⟩
      rw [← fill_set (fun y => [slT true 6 ActV.row y]) l [.sl true 6 () []] hi', IntWalk.i64_in _ (by omega)]
      rfl
    · have : i = l.length := by simp only [decide_eq_false_iff_not] at h; omega
      subst this
      simp -implicitDefEqProofs only [go_sem, fill_len (fun y => [slT true 6 ActV.row y]) l [.sl true 6 () []] hi, fill_end]
      refine ⟨by simp, ?_⟩
      simp [take_map]
def x_l_eqActSS : FnX := ⟨27, [.tmp 4],
  .seq (.reg [⟨none, some 4, 4, .mv (.k (.one (.pv (.bool false))))⟩])
 (.seq (.seq (.reg [⟨none, some 6, 6, .mv (.t 0)⟩,
   ⟨none, some 7, 7, .len (.t 6)⟩,
   ⟨none, some 8, 8, .mv (.t 1)⟩,
   ⟨none, some 9, 9, .len (.t 8)⟩,
   ⟨none, some 10, 10, .bin .neq (.t 7) (.t 9)⟩])
 (.cond 10 (.seq (.reg [⟨none, some 4, 4, .mv (.k (.one (.pv (.bool false))))⟩])
 (.ret)) (.skip)))
 (.seq (.seq (.reg [⟨none, some 5, 5, .mv (.k (.one (.pv (.int .i64 0))))⟩])
 (.block 0 (.loop [0, 1, 5] (.seq (.seq (.reg [⟨none, some 11, 11, .mv (.t 5)⟩,
   ⟨none, some 12, 12, .mv (.t 0)⟩,
   ⟨none, some 13, 13, .len (.t 12)⟩,
   ⟨none, some 14, 14, .bin .lss (.t 11) (.t 13)⟩])
 (.cond 14 (.skip) (.exit 0)))
 (.seq (.block 1 (.seq (.draw [⟨none, some 17, 17, .mv (.t 0)⟩,
   ⟨none, some 18, 18, .mv (.t 5)⟩,
   ⟨none, some 19, 19, .iaddr 1 (.t 17) (.t 18)⟩,
   ⟨none, some 20, 20, .load none (.t 19)⟩,
   ⟨none, some 21, 21, .mv (.t 1)⟩,
   ⟨none, some 22, 22, .mv (.t 5)⟩,
   ⟨none, some 23, 23, .iaddr 1 (.t 21) (.t 22)⟩,
   ⟨none, some 24, 24, .load none (.t 23)⟩,
   ⟨none, some 25, 25, .call 61 [0, 0] [(.t 20), (.t 24)]⟩,
   ⟨none, some 26, 26, .not (.t 25)⟩] [[], [], [0, 1], [2], [], [], [4, 5], [6], [3, 7], [8]])
 (.cond 26 (.seq (.reg [⟨none, some 4, 4, .mv (.k (.one (.pv (.bool false))))⟩])
 (.ret)) (.skip))))
 (.reg [⟨none, some 15, 15, .mv (.t 5)⟩,
   ⟨none, some 16, 16, .bin .add (.t 15) (.k (.one (.pv (.int .i64 1))))⟩,
   ⟨none, some 5, 5, .mv (.t 16)⟩]))))))
 (.norm [] (.seq (.reg [⟨none, some 4, 4, .mv (.k (.one (.pv (.bool true))))⟩])
 (.ret)))))⟩
abbrev C_l_eqActSS (Te : Nat → List AV → Res → Prop) : Prop := ∀ (l m : List (List ActV)) (hl : (l.length ≤ 2 ^ 21 ∧ ∀ y ∈ l, y.length ≤ 2 ^ 21)), Te 62 [.one (slT false 1 (fun y => [slT false 6 ActV.row y]) l), .one (slT false 1 (fun y => [slT false 6 ActV.row y]) m)] ⟨[.one (bT (decide (l = m)))], [[slT false 1 (fun y => [slT false 6 ActV.row y]) l], [slT false 1 (fun y => [slT false 6 ActV.row y]) m]]⟩
theorem r_l_eqActSS {Te : Nat → List AV → Res → Prop} (c_l_eqActS : C_l_eqActS Te) : ∀ (l m : List (List ActV)) (hl : (l.length ≤ 2 ^ 21 ∧ ∀ y ∈ l, y.length ≤ 2 ^ 21)), RunFn Te x_l_eqActSS [.one (slT false 1 (fun y => [slT false 6 ActV.row y]) l), .one (slT false 1 (fun y => [slT false 6 ActV.row y]) m)] ⟨[.one (bT (decide (l = m)))], [[slT false 1 (fun y => [slT false 6 ActV.row y]) l], [slT false 1 (fun y => [slT false 6 ActV.row y]) m]]⟩ := by
  intro l m hl
  refine ⟨by simp -implicitDefEqProofs only [x_l_eqActSS, go_sem], ?_⟩
  have hl1 := hl.1
  simp -implicitDefEqProofs (disch := omega) only [x_l_eqActSS, go_sem, IntWalk.i64_in]
  refine ⟨fun h => ?_, fun h => ?_⟩
  · have : l ≠ m := fun e => by simp [e] at h
    simp [this]
  · have hlen : l.length = m.length := by simp at h; omega
    refine loop_of (σ := Nat) (fun i => ⟨[(0, .one (.ro 1 (l.map (fun y => [slT false 6 ActV.row y])))), (1, .one (.ro 1 (m.map (fun y => [slT false 6 ActV.row y])))), (5, .one (.pv (.int .i64 i)))], [], [(0, [slT false 1 (fun y => [slT false 6 ActV.row y]) l]), (1, [slT false 1 (fun y => [slT false 6 ActV.row y]) m])]⟩) (fun i => i ≤ l.length ∧ l.take i = m.take i) (fun i => l.length - i) 0 ?_ ⟨Nat.zero_le _, by simp⟩ ?_
    · simp -implicitDefEqProofs only [go_sem]; rfl
    · intro i ⟨hi, hs⟩
      simp -implicitDefEqProofs only [go_sem]
      refine ⟨fun h => ?_, fun h => ?_⟩
      · have hi' : i < l.length := by simp only [decide_eq_true_eq] at h; omega
        have hj' : i < m.length := by omega
        simp -implicitDefEqProofs only [go_sem, List.getElem?_eq_getElem hi', List.getElem?_eq_getElem hj']
        refine .of (c_l_eqActS _ _ (Nat.le_trans (hl.2 _ (List.getElem_mem hi')) (by decide))) ?_
        simp -implicitDefEqProofs only [go_sem]
        refine ⟨by decide, fun h2 => ?_, fun h2 => ?_⟩
        · have : l ≠ m := fun e => by subst e; simp at h2
          simp [this]
        · refine ⟨i + 1, by rw [IntWalk.i64_in _ (by omega)]; rfl, ⟨hi', same_step hi' hj' hs ?_⟩, by omega⟩
          simpa using h2
      · have hle : l.length ≤ i := by simp only [decide_eq_false_iff_not] at h; omega
        have : l = m := same_end hle (by omega) hs
        simp [this]
def x_l_szNodeS : FnX := ⟨27, [.tmp 4],
  .seq (.reg [⟨none, some 4, 4, .mv (.k (.one (.pv (.int .i64 0))))⟩])
 (.seq (.reg [⟨none, some 6, 6, .mv (.t 1)⟩,
   ⟨none, some 7, 7, .mv (.t 0)⟩,
   ⟨none, some 8, 8, .len (.t 7)⟩,
   ⟨none, some 9, 9, .bin .sub (.t 6) (.t 8)⟩,
   ⟨none, some 1, 1, .mv (.t 9)⟩])
 (.seq (.seq (.reg [⟨none, some 10, 10, .mv (.t 1)⟩,
   ⟨none, some 11, 11, .bin .lss (.t 10) (.k (.one (.pv (.int .i64 0))))⟩])
 (.cond 11 (.seq (.reg [⟨none, some 4, 4, .mv (.k (.one (.pv (.int .i64 (-1)))))⟩])
 (.ret)) (.skip)))
 (.seq (.seq (.reg [⟨none, some 5, 5, .mv (.k (.one (.pv (.int .i64 0))))⟩])
 (.block 0 (.loop [0, 1, 5] (.seq (.seq (.reg [⟨none, some 12, 12, .mv (.t 5)⟩,
   ⟨none, some 13, 13, .mv (.t 0)⟩,
   ⟨none, some 14, 14, .len (.t 13)⟩,
   ⟨none, some 15, 15, .bin .lss (.t 12) (.t 14)⟩])
 (.cond 15 (.skip) (.exit 0)))
 (.seq (.block 1 (.seq (.reg [⟨none, some 18, 18, .mv (.t 0)⟩,
   ⟨none, some 19, 19, .mv (.t 5)⟩,
   ⟨none, some 20, 20, .iaddr 10 (.t 18) (.t 19)⟩,
   ⟨none, some 21, 21, .load (some 10) (.t 20)⟩,
   ⟨none, some 22, 22, .mv (.t 1)⟩,
   ⟨none, some 23, 23, .call 6 [0, 0] [(.t 21), (.t 22)]⟩,
   ⟨none, some 1, 1, .mv (.t 23)⟩])
 (.seq (.reg [⟨none, some 24, 24, .mv (.t 1)⟩,
   ⟨none, some 25, 25, .bin .lss (.t 24) (.k (.one (.pv (.int .i64 0))))⟩])
 (.cond 25 (.seq (.reg [⟨none, some 4, 4, .mv (.k (.one (.pv (.int .i64 (-1)))))⟩])
 (.ret)) (.skip)))))
 (.reg [⟨none, some 16, 16, .mv (.t 5)⟩,
   ⟨none, some 17, 17, .bin .add (.t 16) (.k (.one (.pv (.int .i64 1))))⟩,
   ⟨none, some 5, 5, .mv (.t 17)⟩]))))))
 (.norm [1] (.seq (.reg [⟨none, some 26, 26, .mv (.t 1)⟩,
   ⟨none, some 4, 4, .mv (.t 26)⟩])
 (.ret))))))⟩
abbrev C_l_szNodeS (Te : Nat → List AV → Res → Prop) : Prop := ∀ (l : List NodeV) (k : Int) (hk : 0 ≤ k ∧ k ≤ 2 ^ 48) (hl : l.length ≤ 2 ^ 48) (hs : ∀ y ∈ l, y.In (2 ^ 48)), Te 36 [.one (slT false 10 (NodeV.enc false) l), .one (iT k)] ⟨[.one (iT (szSl szNode l k))], [[slT false 10 (NodeV.enc false) l], [iT k]]⟩
theorem r_l_szNodeS {Te : Nat → List AV → Res → Prop} (c_l_szNode : C_l_szNode Te) : ∀ (l : List NodeV) (k : Int) (hk : 0 ≤ k ∧ k ≤ 2 ^ 48) (hl : l.length ≤ 2 ^ 48) (hs : ∀ y ∈ l, y.In (2 ^ 48)), RunFn Te x_l_szNodeS [.one (slT false 10 (NodeV.enc false) l), .one (iT k)] ⟨[.one (iT (szSl szNode l k))], [[slT false 10 (NodeV.enc false) l], [iT k]]⟩ := by
  intro l k hk hl hs
  refine ⟨by simp -implicitDefEqProofs only [x_l_szNodeS, go_sem], ?_⟩
  simp -implicitDefEqProofs (disch := omega) only [x_l_szNodeS, go_sem, IntWalk.i64_in]
  refine ⟨fun h => ?_, fun h => ?_⟩
  · simp only [decide_eq_true_eq] at h
    simp only [szSl, szAll, if_pos h]
  · simp only [decide_eq_false_iff_not] at h
    refine loop_of (σ := Nat × Int) (fun x => ⟨[(0, .one (.ro 10 (l.map (NodeV.enc false)))), (1, .one (.pv (.int .i64 x.2))), (5, .one (.pv (.int .i64 x.1)))], [], [(0, [slT false 10 (NodeV.enc false) l]), (1, [iT k])]⟩) (fun x => x.1 ≤ l.length ∧ 0 ≤ x.2 ∧ x.2 ≤ k ∧ szSl szNode l k = szAll ((l.drop x.1).map szNode) x.2) (fun x => l.length - x.1) (0, k - l.length) ?_ ⟨Nat.zero_le _, by omega, by omega, by simp only [szSl, szAll, if_neg h, List.drop_zero]⟩ ?_
    · simp -implicitDefEqProofs only [go_sem]; rfl
    · rintro ⟨i, c⟩ ⟨hi, h0, h1, he⟩
      simp only at hi h0 h1 he
      simp -implicitDefEqProofs only [go_sem]
      refine ⟨fun h => ?_, fun h => ?_⟩
      · have hi' : i < l.length := by simp only [decide_eq_true_eq] at h; omega
        have hsz := hs l[i] (List.getElem_mem hi')
        have hsn : szNode l[i] c ≤ c := szNode_sane l[i] c h0
        rw [List.drop_eq_getElem_cons hi'] at he
        simp -implicitDefEqProofs (disch := omega) only [go_sem, List.getElem?_eq_getElem hi', IntWalk.i64_in]
        refine .of (c_l_szNode _ _ hsz ⟨h0, by omega⟩) ?_
        simp -implicitDefEqProofs only [go_sem]
        refine ⟨fun h2 => ?_, fun h2 => ?_⟩
        · simp only [decide_eq_true_eq] at h2
          rw [he]
          simp only [List.map_cons, szAll, if_pos h2]
        · simp only [decide_eq_false_iff_not] at h2
          refine ⟨(i + 1, szNode l[i] c), by rw [IntWalk.i64_in _ (by omega)]; rfl, ⟨hi', by omega, by simp only; omega, ?_⟩, by simp only; omega⟩
          rw [he]
          simp only [List.map_cons, szAll, if_neg h2]
      · have hle : l.length ≤ i := by simp only [decide_eq_false_iff_not] at h; omega
        rw [List.drop_of_length_le hle] at he
        simp only [szAll, List.map_nil] at he
        rw [he]
def x_l_toNodeS : FnX := ⟨23, [.tmp 2],
  .seq (.reg [⟨none, some 2, 2, .mv (.k (.one (.nils 10)))⟩])
 (.seq (.reg [⟨none, some 5, 5, .mv (.t 0)⟩,
   ⟨none, some 6, 6, .len (.t 5)⟩,
   ⟨none, some 7, 7, .mks 10 144 [.sl true 1 () [], .sl true 2 () [], .pv (.int .i64 0), .pv (.bool false), .sl true 7 () [], .pv (.int .i64 0), .sl true 3 () [], .pv (.int .i64 0), .pv (.int .i64 0), .pv (.int .i64 0)] (.t 6)⟩,
   ⟨none, some 3, 3, .mv (.t 7)⟩])
 (.seq (.seq (.reg [⟨none, some 4, 4, .mv (.k (.one (.pv (.int .i64 0))))⟩])
 (.block 0 (.loop [0, 3, 4] (.seq (.seq (.reg [⟨none, some 8, 8, .mv (.t 4)⟩,
   ⟨none, some 9, 9, .mv (.t 0)⟩,
   ⟨none, some 10, 10, .len (.t 9)⟩,
   ⟨none, some 11, 11, .bin .lss (.t 8) (.t 10)⟩])
 (.cond 11 (.skip) (.exit 0)))
 (.seq (.block 1 (.reg [⟨none, some 14, 14, .mv (.t 3)⟩,
   ⟨none, some 15, 15, .mv (.t 4)⟩,
   ⟨none, some 16, 16, .mv (.t 0)⟩,
   ⟨none, some 17, 17, .mv (.t 4)⟩,
   ⟨none, some 18, 18, .iaddr 10 (.t 16) (.t 17)⟩,
   ⟨none, some 19, 19, .load (some 10) (.t 18)⟩,
   ⟨none, some 20, 20, .call 8 [0] [(.t 19)]⟩,
   ⟨none, some 21, 21, .iaddr 10 (.t 14) (.t 15)⟩,
   ⟨none, none, 100001, .store 10 (.t 21) (.t 20)⟩]))
 (.reg [⟨none, some 12, 12, .mv (.t 4)⟩,
   ⟨none, some 13, 13, .bin .add (.t 12) (.k (.one (.pv (.int .i64 1))))⟩,
   ⟨none, some 4, 4, .mv (.t 13)⟩]))))))
 (.norm [3] (.seq (.reg [⟨none, some 22, 22, .mv (.t 3)⟩,
   ⟨none, some 2, 2, .mv (.t 22)⟩])
 (.ret)))))⟩
abbrev C_l_toNodeS (Te : Nat → List AV → Res → Prop) : Prop := ∀ (l : List NodeV) (hl : (l.length ≤ 2 ^ 21 ∧ ∀ y ∈ l, y.Len)), Te 47 [.one (slT false 10 (NodeV.enc false) l)] ⟨[.one (slT true 10 (NodeV.enc true) l)], [[slT false 10 (NodeV.enc false) l]]⟩
theorem r_l_toNodeS {Te : Nat → List AV → Res → Prop} (c_l_toNode : C_l_toNode Te) : ∀ (l : List NodeV) (hl : (l.length ≤ 2 ^ 21 ∧ ∀ y ∈ l, y.Len)), RunFn Te x_l_toNodeS [.one (slT false 10 (NodeV.enc false) l)] ⟨[.one (slT true 10 (NodeV.enc true) l)], [[slT false 10 (NodeV.enc false) l]]⟩ := by
  intro l hl
  refine ⟨by simp -implicitDefEqProofs only [x_l_toNodeS, go_sem], ?_⟩
  have hl1 := hl.1
  simp -implicitDefEqProofs (disch := omega) only [x_l_toNodeS, go_sem, IntWalk.i64_in]
  refine ⟨⟨by simp only [decide_eq_true_eq]; omega, by simp only [decide_eq_true_eq]; omega⟩, ?_⟩
  refine loop_of (σ := Nat) (fun i => ⟨[(0, .one (.ro 10 (l.map (NodeV.enc false)))), (3, .one (.rf 24 0 [] 10 0 l.length)), (4, .one (.pv (.int .i64 i)))], [],
    [(0, [slT false 10 (NodeV.enc false) l]), (24, [.sl true 10 () ((l.take i).map (NodeV.enc true) ++ List.replicate (l.length - i) [.sl true 1 () [], .sl true 2 () [], .pv (.int .i64 0), .pv (.bool false), .sl true 7 () [], .pv (.int .i64 0), .sl true 3 () [], .pv (.int .i64 0), .pv (.int .i64 0), .pv (.int .i64 0)])])]⟩) (fun i => i ≤ l.length) (fun i => l.length - i) 0 ?_ (Nat.zero_le _) ?_
  · simp -implicitDefEqProofs only [go_sem]; rfl
  · intro i hi
    simp -implicitDefEqProofs only [go_sem]
    refine ⟨fun h => ?_, fun h => ?_⟩
    · have hi' : i < l.length := by simp only [decide_eq_true_eq] at h; omega
      simp -implicitDefEqProofs only [go_sem, List.getElem?_eq_getElem hi', fill_len (NodeV.enc true) l [.sl true 1 () [], .sl true 2 () [], .pv (.int .i64 0), .pv (.bool false), .sl true 7 () [], .pv (.int .i64 0), .sl true 3 () [], .pv (.int .i64 0), .pv (.int .i64 0), .pv (.int .i64 0)] hi, storeAp, setCells, List.getD_eq_getElem?_getD, fill_get (NodeV.enc true) l [.sl true 1 () [], .sl true 2 () [], .pv (.int .i64 0), .pv (.bool false), .sl true 7 () [], .pv (.int .i64 0), .sl true 3 () [], .pv (.int .i64 0), .pv (.int .i64 0), .pv (.int .i64 0)] hi']
      refine .of (c_l_toNode _ (hl.2 _ (List.getElem_mem hi'))) ?_
      simp -implicitDefEqProofs only [go_sem, fill_len (NodeV.enc true) l [.sl true 1 () [], .sl true 2 () [], .pv (.int .i64 0), .pv (.bool false), .sl true 7 () [], .pv (.int .i64 0), .sl true 3 () [], .pv (.int .i64 0), .pv (.int .i64 0), .pv (.int .i64 0)] hi, storeAp, setCells, List.getD_eq_getElem?_getD, fill_get (NodeV.enc true) l [.sl true 1 () [], .sl true 2 () [], .pv (.int .i64 0), .pv (.bool false), .sl true 7 () [], .pv (.int .i64 0), .sl true 3 () [], .pv (.int .i64 0), .pv (.int .i64 0), .pv (.int .i64 0)] hi']
      repeat (first | refine ⟨by decide, ?_⟩ | refine ⟨by simpa using hi', ?_⟩)
      refine ⟨i + 1, ?_, hi', by omega⟩
      rw [← fill_set (NodeV.enc true) l [.sl true 1 () [], .sl true 2 () [], .pv (.int .i64 0), .pv (.bool false), .sl true 7 () [], .pv (.int .i64 0), .sl true 3 () [], .pv (.int .i64 0), .pv (.int .i64 0), .pv (.int .i64 0)] hi', IntWalk.i64_in _ (by omega)]
      rfl
    · have : i = l.length := by simp only [decide_eq_false_iff_not] at h; omega
      subst this
      simp -implicitDefEqProofs only [go_sem, fill_len (NodeV.enc true) l [.sl true 1 () [], .sl true 2 () [], .pv (.int .i64 0), .pv (.bool false), .sl true 7 () [], .pv (.int .i64 0), .sl true 3 () [], .pv (.int .i64 0), .pv (.int .i64 0), .pv (.int .i64 0)] hi, fill_end]
      refine ⟨by simp, ?_⟩
      simp [take_map]
def x_l_eqNodeS : FnX := ⟨27, [.tmp 4],
  .seq (.reg [⟨none, some 4, 4, .mv (.k (.one (.pv (.bool false))))⟩])
 (.seq (.seq (.reg [⟨none, some 6, 6, .mv (.t 0)⟩,
   ⟨none, some 7, 7, .len (.t 6)⟩,
   ⟨none, some 8, 8, .mv (.t 1)⟩,
   ⟨none, some 9, 9, .len (.t 8)⟩,
   ⟨none, some 10, 10, .bin .neq (.t 7) (.t 9)⟩])
 (.cond 10 (.seq (.reg [⟨none, some 4, 4, .mv (.k (.one (.pv (.bool false))))⟩])
 (.ret)) (.skip)))
 (.seq (.seq (.reg [⟨none, some 5, 5, .mv (.k (.one (.pv (.int .i64 0))))⟩])
 (.block 0 (.loop [0, 1, 5] (.seq (.seq (.reg [⟨none, some 11, 11, .mv (.t 5)⟩,
   ⟨none, some 12, 12, .mv (.t 0)⟩,
   ⟨none, some 13, 13, .len (.t 12)⟩,
   ⟨none, some 14, 14, .bin .lss (.t 11) (.t 13)⟩])
 (.cond 14 (.skip) (.exit 0)))
 (.seq (.block 1 (.seq (.draw [⟨none, some 17, 17, .mv (.t 0)⟩,
   ⟨none, some 18, 18, .mv (.t 5)⟩,
   ⟨none, some 19, 19, .iaddr 10 (.t 17) (.t 18)⟩,
   ⟨none, some 20, 20, .load (some 10) (.t 19)⟩,
   ⟨none, some 21, 21, .mv (.t 1)⟩,
   ⟨none, some 22, 22, .mv (.t 5)⟩,
   ⟨none, some 23, 23, .iaddr 10 (.t 21) (.t 22)⟩,
   ⟨none, some 24, 24, .load (some 10) (.t 23)⟩,
   ⟨none, some 25, 25, .call 10 [0, 0] [(.t 20), (.t 24)]⟩,
   ⟨none, some 26, 26, .not (.t 25)⟩] [[], [], [0, 1], [2], [], [], [4, 5], [6], [3, 7], [8]])
 (.cond 26 (.seq (.reg [⟨none, some 4, 4, .mv (.k (.one (.pv (.bool false))))⟩])
 (.ret)) (.skip))))
 (.reg [⟨none, some 15, 15, .mv (.t 5)⟩,
   ⟨none, some 16, 16, .bin .add (.t 15) (.k (.one (.pv (.int .i64 1))))⟩,
   ⟨none, some 5, 5, .mv (.t 16)⟩]))))))
 (.norm [] (.seq (.reg [⟨none, some 4, 4, .mv (.k (.one (.pv (.bool true))))⟩])
 (.ret)))))⟩
abbrev C_l_eqNodeS (Te : Nat → List AV → Res → Prop) : Prop := ∀ (l m : List NodeV) (hl : (l.length ≤ 2 ^ 21 ∧ ∀ y ∈ l, y.Len)), Te 58 [.one (slT false 10 (NodeV.enc false) l), .one (slT false 10 (NodeV.enc false) m)] ⟨[.one (bT (decide (l = m)))], [[slT false 10 (NodeV.enc false) l], [slT false 10 (NodeV.enc false) m]]⟩
theorem r_l_eqNodeS {Te : Nat → List AV → Res → Prop} (c_l_eqNode : C_l_eqNode Te) : ∀ (l m : List NodeV) (hl : (l.length ≤ 2 ^ 21 ∧ ∀ y ∈ l, y.Len)), RunFn Te x_l_eqNodeS [.one (slT false 10 (NodeV.enc false) l), .one (slT false 10 (NodeV.enc false) m)] ⟨[.one (bT (decide (l = m)))], [[slT false 10 (NodeV.enc false) l], [slT false 10 (NodeV.enc false) m]]⟩ := by
  intro l m hl
  refine ⟨by simp -implicitDefEqProofs only [x_l_eqNodeS, go_sem], ?_⟩
  have hl1 := hl.1
  simp -implicitDefEqProofs (disch := omega) only [x_l_eqNodeS, go_sem, IntWalk.i64_in]
  refine ⟨fun h => ?_, fun h => ?_⟩
  · have : l ≠ m := fun e => by simp [e] at h
    simp [this]
  · have hlen : l.length = m.length := by simp at h; omega
    refine loop_of (σ := Nat) (fun i => ⟨[(0, .one (.ro 10 (l.map (NodeV.enc false)))), (1, .one (.ro 10 (m.map (NodeV.enc false)))), (5, .one (.pv (.int .i64 i)))], [], [(0, [slT false 10 (NodeV.enc false) l]), (1, [slT false 10 (NodeV.enc false) m])]⟩) (fun i => i ≤ l.length ∧ l.take i = m.take i) (fun i => l.length - i) 0 ?_ ⟨Nat.zero_le _, by simp⟩ ?_
    · simp -implicitDefEqProofs only [go_sem]; rfl
    · intro i ⟨hi, hs⟩
      simp -implicitDefEqProofs only [go_sem]
      refine ⟨fun h => ?_, fun h => ?_⟩
      · have hi' : i < l.length := by simp only [decide_eq_true_eq] at h; omega
        have hj' : i < m.length := by omega
        simp -implicitDefEqProofs only [go_sem, List.getElem?_eq_getElem hi', List.getElem?_eq_getElem hj']
        refine .of (c_l_eqNode _ _ (hl.2 _ (List.getElem_mem hi'))) ?_
        simp -implicitDefEqProofs only [go_sem]
        refine ⟨by decide, fun h2 => ?_, fun h2 => ?_⟩
        · have : l ≠ m := fun e => by subst e; simp at h2
          simp [this]
        · refine ⟨i + 1, by rw [IntWalk.i64_in _ (by omega)]; rfl, ⟨hi', same_step hi' hj' hs ?_⟩, by omega⟩
          simpa using h2
      · have hle : l.length ≤ i := by simp only [decide_eq_false_iff_not] at h; omega
        have : l = m := same_end hle (by omega) hs
        simp [this]
def x_l_szClientS : FnX := ⟨27, [.tmp 4],
  .seq (.reg [⟨none, some 4, 4, .mv (.k (.one (.pv (.int .i64 0))))⟩])
 (.seq (.reg [⟨none, some 6, 6, .mv (.t 1)⟩,
   ⟨none, some 7, 7, .mv (.t 0)⟩,
   ⟨none, some 8, 8, .len (.t 7)⟩,
   ⟨none, some 9, 9, .bin .sub (.t 6) (.t 8)⟩,
   ⟨none, some 1, 1, .mv (.t 9)⟩])
 (.seq (.seq (.reg [⟨none, some 10, 10, .mv (.t 1)⟩,
   ⟨none, some 11, 11, .bin .lss (.t 10) (.k (.one (.pv (.int .i64 0))))⟩])
 (.cond 11 (.seq (.reg [⟨none, some 4, 4, .mv (.k (.one (.pv (.int .i64 (-1)))))⟩])
 (.ret)) (.skip)))
 (.seq (.seq (.reg [⟨none, some 5, 5, .mv (.k (.one (.pv (.int .i64 0))))⟩])
 (.block 0 (.loop [0, 1, 5] (.seq (.seq (.reg [⟨none, some 12, 12, .mv (.t 5)⟩,
   ⟨none, some 13, 13, .mv (.t 0)⟩,
   ⟨none, some 14, 14, .len (.t 13)⟩,
   ⟨none, some 15, 15, .bin .lss (.t 12) (.t 14)⟩])
 (.cond 15 (.skip) (.exit 0)))
 (.seq (.block 1 (.seq (.reg [⟨none, some 18, 18, .mv (.t 0)⟩,
   ⟨none, some 19, 19, .mv (.t 5)⟩,
   ⟨none, some 20, 20, .iaddr 12 (.t 18) (.t 19)⟩,
   ⟨none, some 21, 21, .load (some 12) (.t 20)⟩,
   ⟨none, some 22, 22, .mv (.t 1)⟩,
   ⟨none, some 23, 23, .call 85 [0, 0] [(.t 21), (.t 22)]⟩,
   ⟨none, some 1, 1, .mv (.t 23)⟩])
 (.seq (.reg [⟨none, some 24, 24, .mv (.t 1)⟩,
   ⟨none, some 25, 25, .bin .lss (.t 24) (.k (.one (.pv (.int .i64 0))))⟩])
 (.cond 25 (.seq (.reg [⟨none, some 4, 4, .mv (.k (.one (.pv (.int .i64 (-1)))))⟩])
 (.ret)) (.skip)))))
 (.reg [⟨none, some 16, 16, .mv (.t 5)⟩,
   ⟨none, some 17, 17, .bin .add (.t 16) (.k (.one (.pv (.int .i64 1))))⟩,
   ⟨none, some 5, 5, .mv (.t 17)⟩]))))))
 (.norm [1] (.seq (.reg [⟨none, some 26, 26, .mv (.t 1)⟩,
   ⟨none, some 4, 4, .mv (.t 26)⟩])
 (.ret))))))⟩
abbrev C_l_szClientS (Te : Nat → List AV → Res → Prop) : Prop := ∀ (l : List ClientV) (k : Int) (hk : 0 ≤ k ∧ k ≤ 2 ^ 48) (hl : l.length ≤ 2 ^ 48) (hs : ∀ y ∈ l, y.In (2 ^ 48)), Te 37 [.one (slT false 12 (ClientV.enc false) l), .one (iT k)] ⟨[.one (iT (szSl szClient l k))], [[slT false 12 (ClientV.enc false) l], [iT k]]⟩
theorem r_l_szClientS {Te : Nat → List AV → Res → Prop} (c_l_szClient : C_l_szClient Te) : ∀ (l : List ClientV) (k : Int) (hk : 0 ≤ k ∧ k ≤ 2 ^ 48) (hl : l.length ≤ 2 ^ 48) (hs : ∀ y ∈ l, y.In (2 ^ 48)), RunFn Te x_l_szClientS [.one (slT false 12 (ClientV.enc false) l), .one (iT k)] ⟨[.one (iT (szSl szClient l k))], [[slT false 12 (ClientV.enc false) l], [iT k]]⟩ := by
  intro l k hk hl hs
  refine ⟨by simp -implicitDefEqProofs only [x_l_szClientS, go_sem], ?_⟩
  simp -implicitDefEqProofs (disch := omega) only [x_l_szClientS, go_sem, IntWalk.i64_in]
  refine ⟨fun h => ?_, fun h => ?_⟩
  · simp only [decide_eq_true_eq] at h
    simp only [szSl, szAll, if_pos h]
  · simp only [decide_eq_false_iff_not] at h
    refine loop_of (σ := Nat × Int) (fun x => ⟨[(0, .one (.ro 12 (l.map (ClientV.enc false)))), (1, .one (.pv (.int .i64 x.2))), (5, .one (.pv (.int .i64 x.1)))], [], [(0, [slT false 12 (ClientV.enc false) l]), (1, [iT k])]⟩) (fun x => x.1 ≤ l.length ∧ 0 ≤ x.2 ∧ x.2 ≤ k ∧ szSl szClient l k = szAll ((l.drop x.1).map szClient) x.2) (fun x => l.length - x.1) (0, k - l.length) ?_ ⟨Nat.zero_le _, by omega, by omega, by simp only [szSl, szAll, if_neg h, List.drop_zero]⟩ ?_
    · simp -implicitDefEqProofs only [go_sem]; rfl
    · rintro ⟨i, c⟩ ⟨hi, h0, h1, he⟩
      simp only at hi h0 h1 he
      simp -implicitDefEqProofs only [go_sem]
      refine ⟨fun h => ?_, fun h => ?_⟩
      · have hi' : i < l.length := by simp only [decide_eq_true_eq] at h; omega
        have hsz := hs l[i] (List.getElem_mem hi')
        have hsn : szClient l[i] c ≤ c := szClient_sane l[i] c h0
        rw [List.drop_eq_getElem_cons hi'] at he
        simp -implicitDefEqProofs (disch := omega) only [go_sem, List.getElem?_eq_getElem hi', IntWalk.i64_in]
        refine .of (c_l_szClient _ _ hsz ⟨h0, by omega⟩) ?_
        simp -implicitDefEqProofs only [go_sem]
        refine ⟨fun h2 => ?_, fun h2 => ?_⟩
        · simp only [decide_eq_true_eq] at h2
          rw [he]
          simp only [List.map_cons, szAll, if_pos h2]
        · simp only [decide_eq_false_iff_not] at h2
          refine ⟨(i + 1, szClient l[i] c), by rw [IntWalk.i64_in _ (by omega)]; rfl, ⟨hi', by omega, by simp only; omega, ?_⟩, by simp only; omega⟩
          rw [he]
          simp only [List.map_cons, szAll, if_neg h2]
      · have hle : l.length ≤ i := by simp only [decide_eq_false_iff_not] at h; omega
        rw [List.drop_of_length_le hle] at he
        simp only [szAll, List.map_nil] at he
        rw [he]
def x_l_toClientS : FnX := ⟨23, [.tmp 2],
  .seq (.reg [⟨none, some 2, 2, .mv (.k (.one (.nils 12)))⟩])
 (.seq (.reg [⟨none, some 5, 5, .mv (.t 0)⟩,
   ⟨none, some 6, 6, .len (.t 5)⟩,
   ⟨none, some 7, 7, .mks 12 128 [.pv (.int .i64 0), .pv (.int .i64 0), .pv (.bool false), .pv (.int .i64 0), .pv (.int .i64 0), .pv (.int .i64 0), .pv (.int .i64 0), .pv (.string ⟨#[]⟩), .pv (.string ⟨#[]⟩), .pv (.int .i64 0), .pv (.int .i64 0), .sl true 5 () []] (.t 6)⟩,
   ⟨none, some 3, 3, .mv (.t 7)⟩])
 (.seq (.seq (.reg [⟨none, some 4, 4, .mv (.k (.one (.pv (.int .i64 0))))⟩])
 (.block 0 (.loop [0, 3, 4] (.seq (.seq (.reg [⟨none, some 8, 8, .mv (.t 4)⟩,
   ⟨none, some 9, 9, .mv (.t 0)⟩,
   ⟨none, some 10, 10, .len (.t 9)⟩,
   ⟨none, some 11, 11, .bin .lss (.t 8) (.t 10)⟩])
 (.cond 11 (.skip) (.exit 0)))
 (.seq (.block 1 (.reg [⟨none, some 14, 14, .mv (.t 3)⟩,
   ⟨none, some 15, 15, .mv (.t 4)⟩,
   ⟨none, some 16, 16, .mv (.t 0)⟩,
   ⟨none, some 17, 17, .mv (.t 4)⟩,
   ⟨none, some 18, 18, .iaddr 12 (.t 16) (.t 17)⟩,
   ⟨none, some 19, 19, .load (some 12) (.t 18)⟩,
   ⟨none, some 20, 20, .call 95 [0] [(.t 19)]⟩,
   ⟨none, some 21, 21, .iaddr 12 (.t 14) (.t 15)⟩,
   ⟨none, none, 100001, .store 12 (.t 21) (.t 20)⟩]))
 (.reg [⟨none, some 12, 12, .mv (.t 4)⟩,
   ⟨none, some 13, 13, .bin .add (.t 12) (.k (.one (.pv (.int .i64 1))))⟩,
   ⟨none, some 4, 4, .mv (.t 13)⟩]))))))
 (.norm [3] (.seq (.reg [⟨none, some 22, 22, .mv (.t 3)⟩,
   ⟨none, some 2, 2, .mv (.t 22)⟩])
 (.ret)))))⟩
abbrev C_l_toClientS (Te : Nat → List AV → Res → Prop) : Prop := ∀ (l : List ClientV) (hl : (l.length ≤ 2 ^ 21 ∧ ∀ y ∈ l, y.Len)), Te 48 [.one (slT false 12 (ClientV.enc false) l)] ⟨[.one (slT true 12 (ClientV.enc true) l)], [[slT false 12 (ClientV.enc false) l]]⟩
theorem r_l_toClientS {Te : Nat → List AV → Res → Prop} (c_l_toClient : C_l_toClient Te) : ∀ (l : List ClientV) (hl : (l.length ≤ 2 ^ 21 ∧ ∀ y ∈ l, y.Len)), RunFn Te x_l_toClientS [.one (slT false 12 (ClientV.enc false) l)] ⟨[.one (slT true 12 (ClientV.enc true) l)], [[slT false 12 (ClientV.enc false) l]]⟩ := by
  intro l hl
  refine ⟨by simp -implicitDefEqProofs only [x_l_toClientS, go_sem], ?_⟩
  have hl1 := hl.1
  simp -implicitDefEqProofs (disch := omega) only [x_l_toClientS, go_sem, IntWalk.i64_in]
  refine ⟨⟨by simp only [decide_eq_true_eq]; omega, by simp only [decide_eq_true_eq]; omega⟩, ?_⟩
  refine loop_of (σ := Nat) (fun i => ⟨[(0, .one (.ro 12 (l.map (ClientV.enc false)))), (3, .one (.rf 24 0 [] 12 0 l.length)), (4, .one (.pv (.int .i64 i)))], [],
    [(0, [slT false 12 (ClientV.enc false) l]), (24, [.sl true 12 () ((l.take i).map (ClientV.enc true) ++ List.replicate (l.length - i) [.pv (.int .i64 0), .pv (.int .i64 0), .pv (.bool false), .pv (.int .i64 0), .pv (.int .i64 0), .pv (.int .i64 0), .pv (.int .i64 0), .pv (.string ⟨#[]⟩), .pv (.string ⟨#[]⟩), .pv (.int .i64 0), .pv (.int .i64 0), .sl true 5 () []])])]⟩) (fun i => i ≤ l.length) (fun i => l.length - i) 0 ?_ (Nat.zero_le _) ?_
  · simp -implicitDefEqProofs only [go_sem]; rfl
  · intro i hi
    simp -implicitDefEqProofs only [go_sem]
    refine ⟨fun h => ?_, fun h => ?_⟩
    · have hi' : i < l.length := by simp only [decide_eq_true_eq] at h; omega
      simp -implicitDefEqProofs only [go_sem, List.getElem?_eq_getElem hi', fill_len (ClientV.enc true) l [.pv (.int .i64 0), .pv (.int .i64 0), .pv (.bool false), .pv (.int .i64 0), .pv (.int .i64 0), .pv (.int .i64 0), .pv (.int .i64 0), .pv (.string ⟨#[]⟩), .pv (.string ⟨#[]⟩), .pv (.int .i64 0), .pv (.int .i64 0), .sl true 5 () []] hi, storeAp, setCells, List.getD_eq_getElem?_getD, fill_get (ClientV.enc true) l [.pv (.int .i64 0), .pv (.int .i64 0), .pv (.bool false), .pv (.int .i64 0), .pv (.int .i64 0), .pv (.int .i64 0), .pv (.int .i64 0), .pv (.string ⟨#[]⟩), .pv (.string ⟨#[]⟩), .pv (.int .i64 0), .pv (.int .i64 0), .sl true 5 () []] hi']
      refine .of (c_l_toClient _ (hl.2 _ (List.getElem_mem hi'))) ?_
      simp -implicitDefEqProofs only [go_sem, fill_len (ClientV.enc true) l [.pv (.int .i64 0), .pv (.int .i64 0), .pv (.bool false), .pv (.int .i64 0), .pv (.int .i64 0), .pv (.int .i64 0), .pv (.int .i64 0), .pv (.string ⟨#[]⟩), .pv (.string ⟨#[]⟩), .pv (.int .i64 0), .pv (.int .i64 0), .sl true 5 () []] hi, storeAp, setCells, List.getD_eq_getElem?_getD, fill_get (ClientV.enc true) l [.pv (.int .i64 0), .pv (.int .i64 0), .pv (.bool false), .pv (.int .i64 0), .pv (.int .i64 0), .pv (.int .i64 0), .pv (.int .i64 0), .pv (.string ⟨#[]⟩), .pv (.string ⟨#[]⟩), .pv (.int .i64 0), .pv (.int .i64 0), .sl true 5 () []] hi']
      repeat (first | refine ⟨by decide, ?_⟩ | refine ⟨by simpa using hi', ?_⟩)
      refine ⟨i + 1, ?_, hi', by omega⟩
      rw [← fill_set (ClientV.enc true) l [.pv (.int .i64 0), .pv (.int .i64 0), .pv (.bool false), .pv (.int .i64 0), .pv (.int .i64 0), .pv (.int .i64 0), .pv (.int .i64 0), .pv (.string ⟨#[]⟩), .pv (.string ⟨#[]⟩), .pv (.int .i64 0), .pv (.int .i64 0), .sl true 5 () []] hi', IntWalk.i64_in _ (by omega)]
      rfl
    · have : i = l.length := by simp only [decide_eq_false_iff_not] at h; omega
      subst this
      simp -implicitDefEqProofs only [go_sem, fill_len (ClientV.enc true) l [.pv (.int .i64 0), .pv (.int .i64 0), .pv (.bool false), .pv (.int .i64 0), .pv (.int .i64 0), .pv (.int .i64 0), .pv (.int .i64 0), .pv (.string ⟨#[]⟩), .pv (.string ⟨#[]⟩), .pv (.int .i64 0), .pv (.int .i64 0), .sl true 5 () []] hi, fill_end]
      refine ⟨by simp, ?_⟩
      simp [take_map]
def x_l_eqClientS : FnX := ⟨27, [.tmp 4],
  .seq (.reg [⟨none, some 4, 4, .mv (.k (.one (.pv (.bool false))))⟩])
 (.seq (.seq (.reg [⟨none, some 6, 6, .mv (.t 0)⟩,
   ⟨none, some 7, 7, .len (.t 6)⟩,
   ⟨none, some 8, 8, .mv (.t 1)⟩,
   ⟨none, some 9, 9, .len (.t 8)⟩,
   ⟨none, some 10, 10, .bin .neq (.t 7) (.t 9)⟩])
 (.cond 10 (.seq (.reg [⟨none, some 4, 4, .mv (.k (.one (.pv (.bool false))))⟩])
 (.ret)) (.skip)))
 (.seq (.seq (.reg [⟨none, some 5, 5, .mv (.k (.one (.pv (.int .i64 0))))⟩])
 (.block 0 (.loop [0, 1, 5] (.seq (.seq (.reg [⟨none, some 11, 11, .mv (.t 5)⟩,
   ⟨none, some 12, 12, .mv (.t 0)⟩,
   ⟨none, some 13, 13, .len (.t 12)⟩,
   ⟨none, some 14, 14, .bin .lss (.t 11) (.t 13)⟩])
 (.cond 14 (.skip) (.exit 0)))
 (.seq (.block 1 (.seq (.draw [⟨none, some 17, 17, .mv (.t 0)⟩,
   ⟨none, some 18, 18, .mv (.t 5)⟩,
   ⟨none, some 19, 19, .iaddr 12 (.t 17) (.t 18)⟩,
   ⟨none, some 20, 20, .load (some 12) (.t 19)⟩,
   ⟨none, some 21, 21, .mv (.t 1)⟩,
   ⟨none, some 22, 22, .mv (.t 5)⟩,
   ⟨none, some 23, 23, .iaddr 12 (.t 21) (.t 22)⟩,
   ⟨none, some 24, 24, .load (some 12) (.t 23)⟩,
   ⟨none, some 25, 25, .call 105 [0, 0] [(.t 20), (.t 24)]⟩,
   ⟨none, some 26, 26, .not (.t 25)⟩] [[], [], [0, 1], [2], [], [], [4, 5], [6], [3, 7], [8]])
 (.cond 26 (.seq (.reg [⟨none, some 4, 4, .mv (.k (.one (.pv (.bool false))))⟩])
 (.ret)) (.skip))))
 (.reg [⟨none, some 15, 15, .mv (.t 5)⟩,
   ⟨none, some 16, 16, .bin .add (.t 15) (.k (.one (.pv (.int .i64 1))))⟩,
   ⟨none, some 5, 5, .mv (.t 16)⟩]))))))
 (.norm [] (.seq (.reg [⟨none, some 4, 4, .mv (.k (.one (.pv (.bool true))))⟩])
 (.ret)))))⟩
abbrev C_l_eqClientS (Te : Nat → List AV → Res → Prop) : Prop := ∀ (l m : List ClientV) (hl : (l.length ≤ 2 ^ 21 ∧ ∀ y ∈ l, y.Len)), Te 59 [.one (slT false 12 (ClientV.enc false) l), .one (slT false 12 (ClientV.enc false) m)] ⟨[.one (bT (decide (l = m)))], [[slT false 12 (ClientV.enc false) l], [slT false 12 (ClientV.enc false) m]]⟩
theorem r_l_eqClientS {Te : Nat → List AV → Res → Prop} (c_l_eqClient : C_l_eqClient Te) : ∀ (l m : List ClientV) (hl : (l.length ≤ 2 ^ 21 ∧ ∀ y ∈ l, y.Len)), RunFn Te x_l_eqClientS [.one (slT false 12 (ClientV.enc false) l), .one (slT false 12 (ClientV.enc false) m)] ⟨[.one (bT (decide (l = m)))], [[slT false 12 (ClientV.enc false) l], [slT false 12 (ClientV.enc false) m]]⟩ := by
  intro l m hl
  refine ⟨by simp -implicitDefEqProofs only [x_l_eqClientS, go_sem], ?_⟩
  have hl1 := hl.1
  simp -implicitDefEqProofs (disch := omega) only [x_l_eqClientS, go_sem, IntWalk.i64_in]
  refine ⟨fun h => ?_, fun h => ?_⟩
  · have : l ≠ m := fun e => by simp [e] at h
    simp [this]
  · have hlen : l.length = m.length := by simp at h; omega
    refine loop_of (σ := Nat) (fun i => ⟨[(0, .one (.ro 12 (l.map (ClientV.enc false)))), (1, .one (.ro 12 (m.map (ClientV.enc false)))), (5, .one (.pv (.int .i64 i)))], [], [(0, [slT false 12 (ClientV.enc false) l]), (1, [slT false 12 (ClientV.enc false) m])]⟩) (fun i => i ≤ l.length ∧ l.take i = m.take i) (fun i => l.length - i) 0 ?_ ⟨Nat.zero_le _, by simp⟩ ?_
    · simp -implicitDefEqProofs only [go_sem]; rfl
    · intro i ⟨hi, hs⟩
      simp -implicitDefEqProofs only [go_sem]
      refine ⟨fun h => ?_, fun h => ?_⟩
      · have hi' : i < l.length := by simp only [decide_eq_true_eq] at h; omega
        have hj' : i < m.length := by omega
        simp -implicitDefEqProofs only [go_sem, List.getElem?_eq_getElem hi', List.getElem?_eq_getElem hj']
        refine .of (c_l_eqClient _ _ (hl.2 _ (List.getElem_mem hi'))) ?_
        simp -implicitDefEqProofs only [go_sem]
        refine ⟨by decide, fun h2 => ?_, fun h2 => ?_⟩
        · have : l ≠ m := fun e => by subst e; simp at h2
          simp [this]
        · refine ⟨i + 1, by rw [IntWalk.i64_in _ (by omega)]; rfl, ⟨hi', same_step hi' hj' hs ?_⟩, by omega⟩
          simpa using h2
      · have hle : l.length ≤ i := by simp only [decide_eq_false_iff_not] at h; omega
        have : l = m := same_end hle (by omega) hs
        simp [this]
structure WorldV where
  L : Lead
  Nodes : List NodeV
  Clients : List ClientV
  Net : List Msg
  Log : List ActV
  Maybe : List (List ActV)
  deriving DecidableEq
abbrev WorldV.enc (o : Bool) (x : WorldV) : List Go.X.T := [iT x.L.Phase, slT o 1 bR x.L.Acked, slT o 1 bR x.L.Ended, slT o 1 sR x.L.At, slT o 10 (NodeV.enc o) x.Nodes, slT o 12 (ClientV.enc o) x.Clients, slT o 8 Msg.row x.Net, slT o 6 ActV.row x.Log, slT o 1 (fun y => [slT o 6 ActV.row y]) x.Maybe]
def WorldV.In (n : Nat) (x : WorldV) : Prop := x.L.In (n) ∧ (x.Nodes.length ≤ n ∧ ∀ y ∈ x.Nodes, y.In (n)) ∧ (x.Clients.length ≤ n ∧ ∀ y ∈ x.Clients, y.In (n)) ∧ (x.Net.length ≤ n ∧ ∀ y ∈ x.Net, y.In (n)) ∧ (x.Log.length ≤ n ∧ ∀ y ∈ x.Log, y.In (n)) ∧ (x.Maybe.length ≤ n ∧ ∀ y ∈ x.Maybe, (y.length ≤ n ∧ ∀ z ∈ y, z.In (n)))
theorem WorldV.In.mono {x : WorldV} {n m : Nat} (h : x.In n) (hn : n ≤ m) : x.In m := by
  simp only [WorldV.In] at h ⊢
  exact ⟨h.1.mono hn, ⟨Nat.le_trans h.2.1.1 hn, fun y hy => (h.2.1.2 y hy).mono hn⟩, ⟨Nat.le_trans h.2.2.1.1 hn, fun y hy => (h.2.2.1.2 y hy).mono hn⟩, ⟨Nat.le_trans h.2.2.2.1.1 hn, fun y hy => (h.2.2.2.1.2 y hy).mono hn⟩, ⟨Nat.le_trans h.2.2.2.2.1.1 hn, fun y hy => (h.2.2.2.2.1.2 y hy).mono hn⟩, ⟨Nat.le_trans h.2.2.2.2.2.1 hn, fun y hy => ⟨Nat.le_trans (h.2.2.2.2.2.2 y hy).1 hn, fun z hz => ((h.2.2.2.2.2.2 y hy).2 z hz).mono hn⟩⟩⟩
def szWorld (x : WorldV) (k : Int) : Int := szAll [(szLead x.L), (szSl szNode x.Nodes), (szSl szClient x.Clients), (szSl szMsg x.Net), (szSl szAct x.Log), (szSl (szSl szAct) x.Maybe)] k
theorem szWorld_sane (x : WorldV) : Sane (szWorld x) := Sane.all (.cons (szLead_sane _) (.cons (Sane.sl szNode_sane _) (.cons (Sane.sl szClient_sane _) (.cons (Sane.sl szMsg_sane _) (.cons (Sane.sl szAct_sane _) (.cons (Sane.sl (Sane.sl szAct_sane) _) .nil))))))
theorem szWorld_in {x : WorldV} {k : Int} {n : Nat} (hk : 0 ≤ k) (hn : k ≤ n) (h : 0 ≤ szWorld x k) : x.In n := by
  obtain ⟨⟨j0, a0, b0, c0⟩, ⟨j1, a1, b1, c1⟩, ⟨j2, a2, b2, c2⟩, ⟨j3, a3, b3, c3⟩, ⟨j4, a4, b4, c4⟩, ⟨j5, a5, b5, c5⟩, _⟩ := szAll_ex (.cons (szLead_sane _) (.cons (Sane.sl szNode_sane _) (.cons (Sane.sl szClient_sane _) (.cons (Sane.sl szMsg_sane _) (.cons (Sane.sl szAct_sane _) (.cons (Sane.sl (Sane.sl szAct_sane) _) .nil)))))) hk hn h
  exact ⟨(szLead_in a0 b0 c0), (szSl_in szNode_sane (fun a j h0 hn h => szNode_in h0 hn h) a1 b1 c1), (szSl_in szClient_sane (fun a j h0 hn h => szClient_in h0 hn h) a2 b2 c2), (szSl_in szMsg_sane (fun a j h0 hn h => szMsg_in h0 hn h) a3 b3 c3), (szSl_in szAct_sane (fun a j h0 hn h => szAct_in h0 hn h) a4 b4 c4), (szSl_in (Sane.sl szAct_sane) (fun a j h0 hn h => szSl_in szAct_sane (fun a j h0 hn h => szAct_in h0 hn h) h0 hn h) a5 b5 c5)⟩
def WorldV.Len (x : WorldV) : Prop := x.L.Len ∧ (x.Nodes.length ≤ 2 ^ 21 ∧ ∀ y ∈ x.Nodes, y.Len) ∧ (x.Clients.length ≤ 2 ^ 21 ∧ ∀ y ∈ x.Clients, y.Len) ∧ x.Net.length ≤ 2 ^ 21 ∧ x.Log.length ≤ 2 ^ 21 ∧ (x.Maybe.length ≤ 2 ^ 21 ∧ ∀ y ∈ x.Maybe, y.length ≤ 2 ^ 21)
theorem WorldV.In.len {x : WorldV} {n : Nat} (h : x.In n) (hn : n ≤ 2 ^ 21) : x.Len := by
  obtain ⟨h0, h1, h2, h3, h4, h5⟩ := h
  exact ⟨(h0).len (Nat.le_trans hn (by decide)), ⟨Nat.le_trans h1.1 hn, fun y hy => ((h1.2 y hy)).len hn⟩, ⟨Nat.le_trans h2.1 hn, fun y hy => ((h2.2 y hy)).len (Nat.le_trans hn (by decide))⟩, Nat.le_trans h3.1 hn, Nat.le_trans h4.1 hn, ⟨Nat.le_trans h5.1 hn, fun y hy => Nat.le_trans (h5.2 y hy).1 hn⟩⟩
def x_l_szWorld : FnX := ⟨42, [.tmp 4],
  .seq (.reg [⟨none, some 2, 2, .box (.t 0)⟩,
   ⟨none, some 4, 4, .mv (.k (.one (.pv (.int .i64 0))))⟩])
 (.seq (.reg [⟨none, some 5, 5, .faddr (.t 2) 0⟩,
   ⟨none, some 6, 6, .load (some 4) (.t 5)⟩,
   ⟨none, some 7, 7, .mv (.t 1)⟩,
   ⟨none, some 8, 8, .call 35 [0, 0] [(.t 6), (.t 7)]⟩,
   ⟨none, some 1, 1, .mv (.t 8)⟩])
 (.seq (.seq (.reg [⟨none, some 9, 9, .mv (.t 1)⟩,
   ⟨none, some 10, 10, .bin .lss (.t 9) (.k (.one (.pv (.int .i64 0))))⟩])
 (.cond 10 (.seq (.reg [⟨none, some 4, 4, .mv (.k (.one (.pv (.int .i64 (-1)))))⟩])
 (.ret)) (.skip)))
 (.seq (.reg [⟨none, some 11, 11, .faddr (.t 2) 4⟩,
   ⟨none, some 12, 12, .load none (.t 11)⟩,
   ⟨none, some 13, 13, .mv (.t 1)⟩,
   ⟨none, some 14, 14, .call 36 [0, 0] [(.t 12), (.t 13)]⟩,
   ⟨none, some 1, 1, .mv (.t 14)⟩])
 (.seq (.seq (.reg [⟨none, some 15, 15, .mv (.t 1)⟩,
   ⟨none, some 16, 16, .bin .lss (.t 15) (.k (.one (.pv (.int .i64 0))))⟩])
 (.cond 16 (.seq (.reg [⟨none, some 4, 4, .mv (.k (.one (.pv (.int .i64 (-1)))))⟩])
 (.ret)) (.skip)))
 (.seq (.reg [⟨none, some 17, 17, .faddr (.t 2) 5⟩,
   ⟨none, some 18, 18, .load none (.t 17)⟩,
   ⟨none, some 19, 19, .mv (.t 1)⟩,
   ⟨none, some 20, 20, .call 37 [0, 0] [(.t 18), (.t 19)]⟩,
   ⟨none, some 1, 1, .mv (.t 20)⟩])
 (.seq (.seq (.reg [⟨none, some 21, 21, .mv (.t 1)⟩,
   ⟨none, some 22, 22, .bin .lss (.t 21) (.k (.one (.pv (.int .i64 0))))⟩])
 (.cond 22 (.seq (.reg [⟨none, some 4, 4, .mv (.k (.one (.pv (.int .i64 (-1)))))⟩])
 (.ret)) (.skip)))
 (.seq (.reg [⟨none, some 23, 23, .faddr (.t 2) 6⟩,
   ⟨none, some 24, 24, .load none (.t 23)⟩,
   ⟨none, some 25, 25, .mv (.t 1)⟩,
   ⟨none, some 26, 26, .call 38 [0, 0] [(.t 24), (.t 25)]⟩,
   ⟨none, some 1, 1, .mv (.t 26)⟩])
 (.seq (.seq (.reg [⟨none, some 27, 27, .mv (.t 1)⟩,
   ⟨none, some 28, 28, .bin .lss (.t 27) (.k (.one (.pv (.int .i64 0))))⟩])
 (.cond 28 (.seq (.reg [⟨none, some 4, 4, .mv (.k (.one (.pv (.int .i64 (-1)))))⟩])
 (.ret)) (.skip)))
 (.seq (.reg [⟨none, some 29, 29, .faddr (.t 2) 7⟩,
   ⟨none, some 30, 30, .load none (.t 29)⟩,
   ⟨none, some 31, 31, .mv (.t 1)⟩,
   ⟨none, some 32, 32, .call 39 [0, 0] [(.t 30), (.t 31)]⟩,
   ⟨none, some 1, 1, .mv (.t 32)⟩])
 (.seq (.seq (.reg [⟨none, some 33, 33, .mv (.t 1)⟩,
   ⟨none, some 34, 34, .bin .lss (.t 33) (.k (.one (.pv (.int .i64 0))))⟩])
 (.cond 34 (.seq (.reg [⟨none, some 4, 4, .mv (.k (.one (.pv (.int .i64 (-1)))))⟩])
 (.ret)) (.skip)))
 (.seq (.reg [⟨none, some 35, 35, .faddr (.t 2) 8⟩,
   ⟨none, some 36, 36, .load none (.t 35)⟩,
   ⟨none, some 37, 37, .mv (.t 1)⟩,
   ⟨none, some 38, 38, .call 40 [0, 0] [(.t 36), (.t 37)]⟩,
   ⟨none, some 1, 1, .mv (.t 38)⟩])
 (.seq (.seq (.reg [⟨none, some 39, 39, .mv (.t 1)⟩,
   ⟨none, some 40, 40, .bin .lss (.t 39) (.k (.one (.pv (.int .i64 0))))⟩])
 (.cond 40 (.seq (.reg [⟨none, some 4, 4, .mv (.k (.one (.pv (.int .i64 (-1)))))⟩])
 (.ret)) (.skip)))
 (.seq (.reg [⟨none, some 41, 41, .mv (.t 1)⟩,
   ⟨none, some 4, 4, .mv (.t 41)⟩])
 (.ret))))))))))))))⟩
abbrev C_l_szWorld (Te : Nat → List AV → Res → Prop) : Prop := ∀ (x : WorldV) (k : Int) (hx : x.In (2 ^ 48)) (hk : 0 ≤ k ∧ k ≤ 2 ^ 48), Te 15 [.agg (x.enc false), .one (iT k)] ⟨[.one (iT (szWorld x k))], [(x.enc false), [iT k]]⟩
theorem r_l_szWorld {Te : Nat → List AV → Res → Prop} (c_l_szLead : C_l_szLead Te) (c_l_szNodeS : C_l_szNodeS Te) (c_l_szClientS : C_l_szClientS Te) (c_l_szMsgS : C_l_szMsgS Te) (c_l_szActS : C_l_szActS Te) (c_l_szActSS : C_l_szActSS Te) : ∀ (x : WorldV) (k : Int) (hx : x.In (2 ^ 48)) (hk : 0 ≤ k ∧ k ≤ 2 ^ 48), RunFn Te x_l_szWorld [.agg (x.enc false), .one (iT k)] ⟨[.one (iT (szWorld x k))], [(x.enc false), [iT k]]⟩ := by
  intro x k hx hk
  refine ⟨by simp -implicitDefEqProofs only [x_l_szWorld, go_sem], ?_⟩
  obtain ⟨h0, h1, h2, h3, h4, h5⟩ := hx
  simp -implicitDefEqProofs (disch := omega) only [x_l_szWorld, go_sem, IntWalk.i64_in]
  refine .of (c_l_szLead _ _ h0 hk) ?_
  simp -implicitDefEqProofs (disch := omega) only [go_sem, IntWalk.i64_in]
  refine ⟨fun q0 => ?_, fun q0 => ?_⟩
  · simp only [decide_eq_true_eq] at q0
    simp only [szWorld, szAll, if_pos q0]
  · simp only [decide_eq_false_iff_not] at q0
    have k1 : 0 ≤ (szLead x.L k) ∧ (szLead x.L k) ≤ 2 ^ 48 := ⟨by omega, Int.le_trans ((szLead_sane _) _ hk.1) hk.2⟩
    refine .of (c_l_szNodeS _ _ k1 h1.1 h1.2) ?_
    simp -implicitDefEqProofs (disch := omega) only [go_sem, IntWalk.i64_in]
    refine ⟨fun q1 => ?_, fun q1 => ?_⟩
    · simp only [decide_eq_true_eq] at q1
      simp only [szWorld, szAll, if_neg q0, if_pos q1]
    · simp only [decide_eq_false_iff_not] at q1
      have k2 : 0 ≤ (szSl szNode x.Nodes (szLead x.L k)) ∧ (szSl szNode x.Nodes (szLead x.L k)) ≤ 2 ^ 48 := ⟨by omega, Int.le_trans ((Sane.sl szNode_sane _) _ k1.1) k1.2⟩
      refine .of (c_l_szClientS _ _ k2 h2.1 h2.2) ?_
      simp -implicitDefEqProofs (disch := omega) only [go_sem, IntWalk.i64_in]
      refine ⟨fun q2 => ?_, fun q2 => ?_⟩
      · simp only [decide_eq_true_eq] at q2
        simp only [szWorld, szAll, if_neg q0, if_neg q1, if_pos q2]
      · simp only [decide_eq_false_iff_not] at q2
        have k3 : 0 ≤ (szSl szClient x.Clients (szSl szNode x.Nodes (szLead x.L k))) ∧ (szSl szClient x.Clients (szSl szNode x.Nodes (szLead x.L k))) ≤ 2 ^ 48 := ⟨by omega, Int.le_trans ((Sane.sl szClient_sane _) _ k2.1) k2.2⟩
        refine .of (c_l_szMsgS _ _ k3 h3.1 h3.2) ?_
        simp -implicitDefEqProofs (disch := omega) only [go_sem, IntWalk.i64_in]
        refine ⟨fun q3 => ?_, fun q3 => ?_⟩
        · simp only [decide_eq_true_eq] at q3
          simp only [szWorld, szAll, if_neg q0, if_neg q1, if_neg q2, if_pos q3]
        · simp only [decide_eq_false_iff_not] at q3
          have k4 : 0 ≤ (szSl szMsg x.Net (szSl szClient x.Clients (szSl szNode x.Nodes (szLead x.L k)))) ∧ (szSl szMsg x.Net (szSl szClient x.Clients (szSl szNode x.Nodes (szLead x.L k)))) ≤ 2 ^ 48 := ⟨by omega, Int.le_trans ((Sane.sl szMsg_sane _) _ k3.1) k3.2⟩
          refine .of (c_l_szActS _ _ k4 h4.1 h4.2) ?_
          simp -implicitDefEqProofs (disch := omega) only [go_sem, IntWalk.i64_in]
          refine ⟨fun q4 => ?_, fun q4 => ?_⟩
          · simp only [decide_eq_true_eq] at q4
            simp only [szWorld, szAll, if_neg q0, if_neg q1, if_neg q2, if_neg q3, if_pos q4]
          · simp only [decide_eq_false_iff_not] at q4
            have k5 : 0 ≤ (szSl szAct x.Log (szSl szMsg x.Net (szSl szClient x.Clients (szSl szNode x.Nodes (szLead x.L k))))) ∧ (szSl szAct x.Log (szSl szMsg x.Net (szSl szClient x.Clients (szSl szNode x.Nodes (szLead x.L k))))) ≤ 2 ^ 48 := ⟨by omega, Int.le_trans ((Sane.sl szAct_sane _) _ k4.1) k4.2⟩
            refine .of (c_l_szActSS _ _ k5 h5.1 h5.2) ?_
            simp -implicitDefEqProofs (disch := omega) only [go_sem, IntWalk.i64_in]
            refine ⟨fun q5 => ?_, fun q5 => ?_⟩
            · simp only [decide_eq_true_eq] at q5
              simp only [szWorld, szAll, if_neg q0, if_neg q1, if_neg q2, if_neg q3, if_neg q4, if_pos q5]
            · simp only [decide_eq_false_iff_not] at q5
              have k6 : 0 ≤ (szSl (szSl szAct) x.Maybe (szSl szAct x.Log (szSl szMsg x.Net (szSl szClient x.Clients (szSl szNode x.Nodes (szLead x.L k)))))) ∧ (szSl (szSl szAct) x.Maybe (szSl szAct x.Log (szSl szMsg x.Net (szSl szClient x.Clients (szSl szNode x.Nodes (szLead x.L k)))))) ≤ 2 ^ 48 := ⟨by omega, Int.le_trans ((Sane.sl (Sane.sl szAct_sane) _) _ k5.1) k5.2⟩
              simp only [szWorld, szAll, if_neg q0, if_neg q1, if_neg q2, if_neg q3, if_neg q4, if_neg q5]
def x_l_toWorld : FnX := ⟨29, [.cell 2 (some 9)],
  .seq (.reg [⟨none, some 1, 1, .box (.t 0)⟩,
   ⟨none, some 2, 2, .alloc [.pv (.int .i64 0), .nils 1, .nils 1, .nils 1, .nils 10, .nils 12, .nils 8, .nils 6, .nils 1]⟩])
 (.seq (.reg [⟨none, some 3, 3, .alloc [.pv (.int .i64 0), .nils 1, .nils 1, .nils 1, .nils 10, .nils 12, .nils 8, .nils 6, .nils 1]⟩])
 (.seq (.reg [⟨none, some 4, 4, .faddr (.t 1) 0⟩,
   ⟨none, some 5, 5, .load (some 4) (.t 4)⟩,
   ⟨none, some 6, 6, .call 46 [0] [(.t 5)]⟩,
   ⟨none, some 7, 7, .faddr (.t 3) 0⟩,
   ⟨none, none, 100001, .store 4 (.t 7) (.t 6)⟩])
 (.seq (.reg [⟨none, some 8, 8, .faddr (.t 1) 4⟩,
   ⟨none, some 9, 9, .load none (.t 8)⟩,
   ⟨none, some 10, 10, .call 47 [0] [(.t 9)]⟩,
   ⟨none, some 11, 11, .faddr (.t 3) 4⟩,
   ⟨none, none, 100002, .store 1 (.t 11) (.t 10)⟩])
 (.seq (.reg [⟨none, some 12, 12, .faddr (.t 1) 5⟩,
   ⟨none, some 13, 13, .load none (.t 12)⟩,
   ⟨none, some 14, 14, .call 48 [0] [(.t 13)]⟩,
   ⟨none, some 15, 15, .faddr (.t 3) 5⟩,
   ⟨none, none, 100003, .store 1 (.t 15) (.t 14)⟩])
 (.seq (.reg [⟨none, some 16, 16, .faddr (.t 1) 6⟩,
   ⟨none, some 17, 17, .load none (.t 16)⟩,
   ⟨none, some 18, 18, .call 49 [0] [(.t 17)]⟩,
   ⟨none, some 19, 19, .faddr (.t 3) 6⟩,
   ⟨none, none, 100004, .store 1 (.t 19) (.t 18)⟩])
 (.seq (.reg [⟨none, some 20, 20, .faddr (.t 1) 7⟩,
   ⟨none, some 21, 21, .load none (.t 20)⟩,
   ⟨none, some 22, 22, .call 50 [0] [(.t 21)]⟩,
   ⟨none, some 23, 23, .faddr (.t 3) 7⟩,
   ⟨none, none, 100005, .store 1 (.t 23) (.t 22)⟩])
 (.seq (.reg [⟨none, some 24, 24, .faddr (.t 1) 8⟩,
   ⟨none, some 25, 25, .load none (.t 24)⟩,
   ⟨none, some 26, 26, .call 51 [0] [(.t 25)]⟩,
   ⟨none, some 27, 27, .faddr (.t 3) 8⟩,
   ⟨none, none, 100006, .store 1 (.t 27) (.t 26)⟩])
 (.seq (.reg [⟨none, some 28, 28, .load (some 9) (.t 3)⟩,
   ⟨none, none, 100007, .store 9 (.t 2) (.t 28)⟩])
 (.ret)))))))))⟩
abbrev C_l_toWorld (Te : Nat → List AV → Res → Prop) : Prop := ∀ (x : WorldV) (hx : x.Len), Te 17 [.agg (x.enc false)] ⟨[.agg (x.enc true)], [(x.enc false)]⟩
theorem r_l_toWorld {Te : Nat → List AV → Res → Prop} (c_l_toLead : C_l_toLead Te) (c_l_toNodeS : C_l_toNodeS Te) (c_l_toClientS : C_l_toClientS Te) (c_l_toMsgS : C_l_toMsgS Te) (c_l_toActS : C_l_toActS Te) (c_l_toActSS : C_l_toActSS Te) : ∀ (x : WorldV) (hx : x.Len), RunFn Te x_l_toWorld [.agg (x.enc false)] ⟨[.agg (x.enc true)], [(x.enc false)]⟩ := by
  intro x hx
  refine ⟨by simp -implicitDefEqProofs only [x_l_toWorld, go_sem], ?_⟩
  obtain ⟨h0, h1, h2, h3, h4, h5⟩ := hx
  simp -implicitDefEqProofs only [x_l_toWorld, go_sem]
  refine .of (c_l_toLead _ h0) ?_
  simp -implicitDefEqProofs only [go_sem]
  refine .of (c_l_toNodeS _ h1) ?_
  simp -implicitDefEqProofs only [go_sem]
  refine .of (c_l_toClientS _ h2) ?_
  simp -implicitDefEqProofs only [go_sem]
  refine .of (c_l_toMsgS _ (Nat.le_trans h3 (by decide))) ?_
  simp -implicitDefEqProofs only [go_sem]
  refine .of (c_l_toActS _ (Nat.le_trans h4 (by decide))) ?_
  simp -implicitDefEqProofs only [go_sem]
  refine .of (c_l_toActSS _ h5) ?_
  simp -implicitDefEqProofs only [go_sem]
def x_l_eqWorld : FnX := ⟨41, [.tmp 4],
  .seq (.reg [⟨none, some 2, 2, .box (.t 0)⟩,
   ⟨none, some 3, 3, .box (.t 1)⟩,
   ⟨none, some 4, 4, .mv (.k (.one (.pv (.bool false))))⟩])
 (.seq (.seq (.reg [⟨none, some 5, 5, .faddr (.t 2) 0⟩,
   ⟨none, some 6, 6, .load (some 4) (.t 5)⟩,
   ⟨none, some 7, 7, .faddr (.t 3) 0⟩,
   ⟨none, some 8, 8, .load (some 4) (.t 7)⟩,
   ⟨none, some 9, 9, .call 57 [0, 0] [(.t 6), (.t 8)]⟩,
   ⟨none, some 10, 10, .not (.t 9)⟩])
 (.cond 10 (.seq (.reg [⟨none, some 4, 4, .mv (.k (.one (.pv (.bool false))))⟩])
 (.ret)) (.skip)))
 (.seq (.seq (.reg [⟨none, some 11, 11, .faddr (.t 2) 4⟩,
   ⟨none, some 12, 12, .load none (.t 11)⟩,
   ⟨none, some 13, 13, .faddr (.t 3) 4⟩,
   ⟨none, some 14, 14, .load none (.t 13)⟩,
   ⟨none, some 15, 15, .call 58 [0, 0] [(.t 12), (.t 14)]⟩,
   ⟨none, some 16, 16, .not (.t 15)⟩])
 (.cond 16 (.seq (.reg [⟨none, some 4, 4, .mv (.k (.one (.pv (.bool false))))⟩])
 (.ret)) (.skip)))
 (.seq (.seq (.reg [⟨none, some 17, 17, .faddr (.t 2) 5⟩,
   ⟨none, some 18, 18, .load none (.t 17)⟩,
   ⟨none, some 19, 19, .faddr (.t 3) 5⟩,
   ⟨none, some 20, 20, .load none (.t 19)⟩,
   ⟨none, some 21, 21, .call 59 [0, 0] [(.t 18), (.t 20)]⟩,
   ⟨none, some 22, 22, .not (.t 21)⟩])
 (.cond 22 (.seq (.reg [⟨none, some 4, 4, .mv (.k (.one (.pv (.bool false))))⟩])
 (.ret)) (.skip)))
 (.seq (.seq (.reg [⟨none, some 23, 23, .faddr (.t 2) 6⟩,
   ⟨none, some 24, 24, .load none (.t 23)⟩,
   ⟨none, some 25, 25, .faddr (.t 3) 6⟩,
   ⟨none, some 26, 26, .load none (.t 25)⟩,
   ⟨none, some 27, 27, .call 60 [0, 0] [(.t 24), (.t 26)]⟩,
   ⟨none, some 28, 28, .not (.t 27)⟩])
 (.cond 28 (.seq (.reg [⟨none, some 4, 4, .mv (.k (.one (.pv (.bool false))))⟩])
 (.ret)) (.skip)))
 (.seq (.seq (.reg [⟨none, some 29, 29, .faddr (.t 2) 7⟩,
   ⟨none, some 30, 30, .load none (.t 29)⟩,
   ⟨none, some 31, 31, .faddr (.t 3) 7⟩,
   ⟨none, some 32, 32, .load none (.t 31)⟩,
   ⟨none, some 33, 33, .call 61 [0, 0] [(.t 30), (.t 32)]⟩,
   ⟨none, some 34, 34, .not (.t 33)⟩])
 (.cond 34 (.seq (.reg [⟨none, some 4, 4, .mv (.k (.one (.pv (.bool false))))⟩])
 (.ret)) (.skip)))
 (.seq (.seq (.reg [⟨none, some 35, 35, .faddr (.t 2) 8⟩,
   ⟨none, some 36, 36, .load none (.t 35)⟩,
   ⟨none, some 37, 37, .faddr (.t 3) 8⟩,
   ⟨none, some 38, 38, .load none (.t 37)⟩,
   ⟨none, some 39, 39, .call 62 [0, 0] [(.t 36), (.t 38)]⟩,
   ⟨none, some 40, 40, .not (.t 39)⟩])
 (.cond 40 (.seq (.reg [⟨none, some 4, 4, .mv (.k (.one (.pv (.bool false))))⟩])
 (.ret)) (.skip)))
 (.seq (.reg [⟨none, some 4, 4, .mv (.k (.one (.pv (.bool true))))⟩])
 (.ret))))))))⟩
abbrev C_l_eqWorld (Te : Nat → List AV → Res → Prop) : Prop := ∀ (x y : WorldV) (hx : x.Len), Te 19 [.agg (x.enc false), .agg (y.enc false)] ⟨[.one (bT (decide (x = y)))], [(x.enc false), (y.enc false)]⟩
theorem r_l_eqWorld {Te : Nat → List AV → Res → Prop} (c_l_eqLead : C_l_eqLead Te) (c_l_eqNodeS : C_l_eqNodeS Te) (c_l_eqClientS : C_l_eqClientS Te) (c_l_eqMsgS : C_l_eqMsgS Te) (c_l_eqActS : C_l_eqActS Te) (c_l_eqActSS : C_l_eqActSS Te) : ∀ (x y : WorldV) (hx : x.Len), RunFn Te x_l_eqWorld [.agg (x.enc false), .agg (y.enc false)] ⟨[.one (bT (decide (x = y)))], [(x.enc false), (y.enc false)]⟩ := by
  intro x y hx
  refine ⟨by simp -implicitDefEqProofs only [x_l_eqWorld, go_sem], ?_⟩
  obtain ⟨h0, h1, h2, h3, h4, h5⟩ := hx
  have key : (x = y) ↔ x.L = y.L ∧ x.Nodes = y.Nodes ∧ x.Clients = y.Clients ∧ x.Net = y.Net ∧ x.Log = y.Log ∧ x.Maybe = y.Maybe := by cases x; cases y; simp
  simp only [key]
  clear key
  simp -implicitDefEqProofs only [x_l_eqWorld, go_sem]
  refine .of (c_l_eqLead _ _ h0) ?_
  simp -implicitDefEqProofs only [go_sem]
  refine ⟨fun q => ?_, fun q => ?_⟩
  · have n0 : ¬ (x.L = y.L) := by simpa using q
    simp only [n0, false_and, and_false, true_and, decide_false]
  have e0 : x.L = y.L := by simpa using q
  clear q
  refine .of (c_l_eqNodeS _ _ h1) ?_
  simp -implicitDefEqProofs only [go_sem]
  refine ⟨fun q => ?_, fun q => ?_⟩
  · have n1 : ¬ (x.Nodes = y.Nodes) := by simpa using q
    simp only [e0, n1, false_and, and_false, true_and, decide_false]
  have e1 : x.Nodes = y.Nodes := by simpa using q
  clear q
  refine .of (c_l_eqClientS _ _ h2) ?_
  simp -implicitDefEqProofs only [go_sem]
  refine ⟨fun q => ?_, fun q => ?_⟩
  · have n2 : ¬ (x.Clients = y.Clients) := by simpa using q
    simp only [e0, e1, n2, false_and, and_false, true_and, decide_false]
  have e2 : x.Clients = y.Clients := by simpa using q
  clear q
  refine .of (c_l_eqMsgS _ _ (Nat.le_trans h3 (by decide))) ?_
  simp -implicitDefEqProofs only [go_sem]
  refine ⟨fun q => ?_, fun q => ?_⟩
  · have n3 : ¬ (x.Net = y.Net) := by simpa using q
    simp only [e0, e1, e2, n3, false_and, and_false, true_and, decide_false]
  have e3 : x.Net = y.Net := by simpa using q
  clear q
  refine .of (c_l_eqActS _ _ (Nat.le_trans h4 (by decide))) ?_
  simp -implicitDefEqProofs only [go_sem]
  refine ⟨fun q => ?_, fun q => ?_⟩
  · have n4 : ¬ (x.Log = y.Log) := by simpa using q
    simp only [e0, e1, e2, e3, n4, false_and, and_false, true_and, decide_false]
  have e4 : x.Log = y.Log := by simpa using q
  clear q
  refine .of (c_l_eqActSS _ _ h5) ?_
  simp -implicitDefEqProofs only [go_sem]
  refine ⟨fun q => ?_, fun q => ?_⟩
  · have n5 : ¬ (x.Maybe = y.Maybe) := by simpa using q
    simp only [e0, e1, e2, e3, e4, n5, false_and, and_false, true_and, decide_false]
  have e5 : x.Maybe = y.Maybe := by simpa using q
  clear q
  simp only [e0, e1, e2, e3, e4, e5, true_and, and_true, decide_true]
end Go.X

/- F -/
namespace Go.X
set_option maxRecDepth 100000
set_option maxHeartbeats 8000000
/-- n lies between. -/
def win (n a b : Int) : Bool := decide (n ≥ a) && decide (n ≤ b)
def x_i_within : FnX := ⟨15, [.tmp 6],
  .seq (.reg [⟨none, some 6, 6, .mv (.k (.one (.pv (.bool false))))⟩])
 (.seq (.reg [⟨none, some 7, 7, .mv (.t 0)⟩,
   ⟨none, some 8, 8, .mv (.t 1)⟩,
   ⟨none, some 9, 9, .bin .geq (.t 7) (.t 8)⟩,
   ⟨none, some 10, 10, .mv (.t 9)⟩,
   ⟨(some (10, true)), some 11, 11, .mv (.t 0)⟩,
   ⟨(some (10, true)), some 12, 12, .mv (.t 2)⟩,
   ⟨(some (10, true)), some 13, 13, .bin .leq (.t 11) (.t 12)⟩,
   ⟨none, some 14, 14, .pick (.t 10) (.t 13) (.k (.one (.pv (.bool false))))⟩,
   ⟨none, some 6, 6, .mv (.t 14)⟩])
 (.ret))⟩
abbrev C_i_within (Te : Nat → List AV → Res → Prop) : Prop := ∀ (n a b : Int), Te 31 [.one (iT n), .one (iT a), .one (iT b)] ⟨[.one (bT (win n a b))], [[iT n], [iT a], [iT b]]⟩
theorem r_i_within {Te : Nat → List AV → Res → Prop} : ∀ (n a b : Int), RunFn Te x_i_within [.one (iT n), .one (iT a), .one (iT b)] ⟨[.one (bT (win n a b))], [[iT n], [iT a], [iT b]]⟩ := by
  intro n a b
  refine ⟨by simp -implicitDefEqProofs only [x_i_within, go_sem], ?_⟩
  simp -implicitDefEqProofs only [x_i_within, go_sem]
  refine bif_cases (fun h => ?_) (fun h => ?_) <;> simp -implicitDefEqProofs only [h, go_sem, win]
def x_s_l1In : FnX := ⟨15, [.tmp 6],
  .seq (.reg [⟨none, some 6, 6, .mv (.k (.one (.pv (.bool false))))⟩])
 (.seq (.reg [⟨none, some 7, 7, .mv (.t 0)⟩,
   ⟨none, some 8, 8, .mv (.t 1)⟩,
   ⟨none, some 9, 9, .bin .geq (.t 7) (.t 8)⟩,
   ⟨none, some 10, 10, .mv (.t 9)⟩,
   ⟨(some (10, true)), some 11, 11, .mv (.t 0)⟩,
   ⟨(some (10, true)), some 12, 12, .mv (.t 2)⟩,
   ⟨(some (10, true)), some 13, 13, .bin .leq (.t 11) (.t 12)⟩,
   ⟨none, some 14, 14, .pick (.t 10) (.t 13) (.k (.one (.pv (.bool false))))⟩,
   ⟨none, some 6, 6, .mv (.t 14)⟩])
 (.ret))⟩
abbrev C_s_l1In (Te : Nat → List AV → Res → Prop) : Prop := ∀ (n a b : Int), Te 29 [.one (iT n), .one (iT a), .one (iT b)] ⟨[.one (bT (win n a b))], [[iT n], [iT a], [iT b]]⟩
theorem r_s_l1In {Te : Nat → List AV → Res → Prop} : ∀ (n a b : Int), RunFn Te x_s_l1In [.one (iT n), .one (iT a), .one (iT b)] ⟨[.one (bT (win n a b))], [[iT n], [iT a], [iT b]]⟩ := by
  intro n a b
  refine ⟨by simp -implicitDefEqProofs only [x_s_l1In, go_sem], ?_⟩
  simp -implicitDefEqProofs only [x_s_l1In, go_sem]
  refine bif_cases (fun h => ?_) (fun h => ?_) <;> simp -implicitDefEqProofs only [h, go_sem, win]
def x_i_isWord : FnX := ⟨5, [.tmp 2],
  .seq (.reg [⟨none, some 2, 2, .mv (.k (.one (.pv (.bool false))))⟩])
 (.seq (.reg [⟨none, some 3, 3, .mv (.t 0)⟩,
   ⟨none, some 4, 4, .call 31 [0, 0, 0] [(.t 3), (.k (.one (.pv (.int .i64 0)))), (.k (.one (.pv (.int .i64 65535))))]⟩,
   ⟨none, some 2, 2, .mv (.t 4)⟩])
 (.ret))⟩
abbrev C_i_isWord (Te : Nat → List AV → Res → Prop) : Prop := ∀ (n : Int), Te 102 [.one (iT n)] ⟨[.one (bT (win n 0 65535))], [[iT n]]⟩
theorem r_i_isWord {Te : Nat → List AV → Res → Prop} (c_i_within : C_i_within Te) : ∀ (n : Int), RunFn Te x_i_isWord [.one (iT n)] ⟨[.one (bT (win n 0 65535))], [[iT n]]⟩ := by
  intro n
  refine ⟨by simp -implicitDefEqProofs only [x_i_isWord, go_sem], ?_⟩
  simp -implicitDefEqProofs only [x_i_isWord, go_sem]
  refine .of (c_i_within _ _ _) ?_
  simp -implicitDefEqProofs only [go_sem]
def x_s_l1Word : FnX := ⟨5, [.tmp 2],
  .seq (.reg [⟨none, some 2, 2, .mv (.k (.one (.pv (.bool false))))⟩])
 (.seq (.reg [⟨none, some 3, 3, .mv (.t 0)⟩,
   ⟨none, some 4, 4, .call 29 [0, 0, 0] [(.t 3), (.k (.one (.pv (.int .i64 0)))), (.k (.one (.pv (.int .i64 65535))))]⟩,
   ⟨none, some 2, 2, .mv (.t 4)⟩])
 (.ret))⟩
abbrev C_s_l1Word (Te : Nat → List AV → Res → Prop) : Prop := ∀ (n : Int), Te 145 [.one (iT n)] ⟨[.one (bT (win n 0 65535))], [[iT n]]⟩
theorem r_s_l1Word {Te : Nat → List AV → Res → Prop} (c_s_l1In : C_s_l1In Te) : ∀ (n : Int), RunFn Te x_s_l1Word [.one (iT n)] ⟨[.one (bT (win n 0 65535))], [[iT n]]⟩ := by
  intro n
  refine ⟨by simp -implicitDefEqProofs only [x_s_l1Word, go_sem], ?_⟩
  simp -implicitDefEqProofs only [x_s_l1Word, go_sem]
  refine .of (c_s_l1In _ _ _) ?_
  simp -implicitDefEqProofs only [go_sem]
def Msg.ok (m : Msg) : Bool := win m.Kind 1 9 && win m.From 0 4 && win m.To 0 4 && (m.From != m.To) && win m.Seq 0 65535 && decide ((m.Key.size : Int) ≤ 60) && decide ((m.Text.size : Int) ≤ 60) && win m.N 0 255 && win m.Code 0 6
def x_i_MsgOk : FnX := ⟨50, [.tmp 2],
  .seq (.reg [⟨none, some 1, 1, .box (.t 0)⟩,
   ⟨none, some 2, 2, .mv (.k (.one (.pv (.bool false))))⟩])
 (.seq (.reg [⟨none, some 3, 3, .faddr (.t 1) 0⟩,
   ⟨none, some 4, 4, .load none (.t 3)⟩,
   ⟨none, some 5, 5, .call 31 [0, 0, 0] [(.t 4), (.k (.one (.pv (.int .i64 1)))), (.k (.one (.pv (.int .i64 9))))]⟩,
   ⟨none, some 6, 6, .mv (.t 5)⟩,
   ⟨(some (6, true)), some 7, 7, .faddr (.t 1) 1⟩,
   ⟨(some (6, true)), some 8, 8, .load none (.t 7)⟩,
   ⟨(some (6, true)), some 9, 9, .call 31 [0, 0, 0] [(.t 8), (.k (.one (.pv (.int .i64 0)))), (.k (.one (.pv (.int .i64 4))))]⟩,
   ⟨none, some 10, 10, .pick (.t 6) (.t 9) (.k (.one (.pv (.bool false))))⟩,
   ⟨none, some 11, 11, .mv (.t 10)⟩,
   ⟨(some (11, true)), some 12, 12, .faddr (.t 1) 2⟩,
   ⟨(some (11, true)), some 13, 13, .load none (.t 12)⟩,
   ⟨(some (11, true)), some 14, 14, .call 31 [0, 0, 0] [(.t 13), (.k (.one (.pv (.int .i64 0)))), (.k (.one (.pv (.int .i64 4))))]⟩,
   ⟨none, some 15, 15, .pick (.t 11) (.t 14) (.k (.one (.pv (.bool false))))⟩,
   ⟨none, some 16, 16, .mv (.t 15)⟩,
   ⟨(some (16, true)), some 17, 17, .faddr (.t 1) 1⟩,
   ⟨(some (16, true)), some 18, 18, .load none (.t 17)⟩,
   ⟨(some (16, true)), some 19, 19, .faddr (.t 1) 2⟩,
   ⟨(some (16, true)), some 20, 20, .load none (.t 19)⟩,
   ⟨(some (16, true)), some 21, 21, .bin .neq (.t 18) (.t 20)⟩,
   ⟨none, some 22, 22, .pick (.t 16) (.t 21) (.k (.one (.pv (.bool false))))⟩,
   ⟨none, some 23, 23, .mv (.t 22)⟩,
   ⟨(some (23, true)), some 24, 24, .faddr (.t 1) 3⟩,
   ⟨(some (23, true)), some 25, 25, .load none (.t 24)⟩,
   ⟨(some (23, true)), some 26, 26, .call 102 [0] [(.t 25)]⟩,
   ⟨none, some 27, 27, .pick (.t 23) (.t 26) (.k (.one (.pv (.bool false))))⟩,
   ⟨none, some 28, 28, .mv (.t 27)⟩,
   ⟨(some (28, true)), some 29, 29, .faddr (.t 1) 4⟩,
   ⟨(some (28, true)), some 30, 30, .load none (.t 29)⟩,
   ⟨(some (28, true)), some 31, 31, .slen (.t 30)⟩,
   ⟨(some (28, true)), some 32, 32, .bin .leq (.t 31) (.k (.one (.pv (.int .i64 60))))⟩,
   ⟨none, some 33, 33, .pick (.t 28) (.t 32) (.k (.one (.pv (.bool false))))⟩,
   ⟨none, some 34, 34, .mv (.t 33)⟩,
   ⟨(some (34, true)), some 35, 35, .faddr (.t 1) 5⟩,
   ⟨(some (34, true)), some 36, 36, .load none (.t 35)⟩,
   ⟨(some (34, true)), some 37, 37, .slen (.t 36)⟩,
   ⟨(some (34, true)), some 38, 38, .bin .leq (.t 37) (.k (.one (.pv (.int .i64 60))))⟩,
   ⟨none, some 39, 39, .pick (.t 34) (.t 38) (.k (.one (.pv (.bool false))))⟩,
   ⟨none, some 40, 40, .mv (.t 39)⟩,
   ⟨(some (40, true)), some 41, 41, .faddr (.t 1) 6⟩,
   ⟨(some (40, true)), some 42, 42, .load none (.t 41)⟩,
   ⟨(some (40, true)), some 43, 43, .call 31 [0, 0, 0] [(.t 42), (.k (.one (.pv (.int .i64 0)))), (.k (.one (.pv (.int .i64 255))))]⟩,
   ⟨none, some 44, 44, .pick (.t 40) (.t 43) (.k (.one (.pv (.bool false))))⟩,
   ⟨none, some 45, 45, .mv (.t 44)⟩,
   ⟨(some (45, true)), some 46, 46, .faddr (.t 1) 7⟩,
   ⟨(some (45, true)), some 47, 47, .load none (.t 46)⟩,
   ⟨(some (45, true)), some 48, 48, .call 31 [0, 0, 0] [(.t 47), (.k (.one (.pv (.int .i64 0)))), (.k (.one (.pv (.int .i64 6))))]⟩,
   ⟨none, some 49, 49, .pick (.t 45) (.t 48) (.k (.one (.pv (.bool false))))⟩,
   ⟨none, some 2, 2, .mv (.t 49)⟩])
 (.ret))⟩
abbrev C_i_MsgOk (Te : Nat → List AV → Res → Prop) : Prop := ∀ (m : Msg), Te 98 [.agg m.row] ⟨[.one (bT m.ok)], [m.row]⟩
theorem r_i_MsgOk {Te : Nat → List AV → Res → Prop} (c_i_within : C_i_within Te) (c_i_isWord : C_i_isWord Te) : ∀ (m : Msg), RunFn Te x_i_MsgOk [.agg m.row] ⟨[.one (bT m.ok)], [m.row]⟩ := by
  intro m
  refine ⟨by simp -implicitDefEqProofs only [x_i_MsgOk, go_sem], ?_⟩
  simp -implicitDefEqProofs only [x_i_MsgOk, go_sem, Msg.ok]
  refine .of (c_i_within _ _ _) ?_
  simp -implicitDefEqProofs only [go_sem]
  refine bif_cases (fun h1 => ?_) (fun h1 => ?_) <;> simp -implicitDefEqProofs only [h1, go_sem]
  refine .of (c_i_within _ _ _) ?_
  simp -implicitDefEqProofs only [go_sem]
  refine bif_cases (fun h2 => ?_) (fun h2 => ?_) <;> simp -implicitDefEqProofs only [h2, go_sem]
  refine .of (c_i_within _ _ _) ?_
  simp -implicitDefEqProofs only [go_sem]
  refine bif_cases (fun h3 => ?_) (fun h3 => ?_) <;> simp -implicitDefEqProofs only [h3, go_sem]
  refine bif_cases (fun h4 => ?_) (fun h4 => ?_) <;> simp -implicitDefEqProofs only [h4, go_sem]
  refine .of (c_i_isWord _) ?_
  simp -implicitDefEqProofs only [go_sem]
  refine bif_cases (fun h5 => ?_) (fun h5 => ?_) <;> simp -implicitDefEqProofs only [h5, go_sem]
  refine bif_cases (fun h6 => ?_) (fun h6 => ?_) <;> simp -implicitDefEqProofs only [h6, go_sem]
  refine bif_cases (fun h7 => ?_) (fun h7 => ?_) <;> simp -implicitDefEqProofs only [h7, go_sem]
  refine .of (c_i_within _ _ _) ?_
  simp -implicitDefEqProofs only [go_sem]
  refine bif_cases (fun h8 => ?_) (fun h8 => ?_) <;> simp -implicitDefEqProofs only [h8, go_sem]
  refine .of (c_i_within _ _ _) ?_
  simp -implicitDefEqProofs only [go_sem]
def x_s_MsgOk : FnX := ⟨50, [.tmp 2],
  .seq (.reg [⟨none, some 1, 1, .box (.t 0)⟩,
   ⟨none, some 2, 2, .mv (.k (.one (.pv (.bool false))))⟩])
 (.seq (.reg [⟨none, some 3, 3, .faddr (.t 1) 0⟩,
   ⟨none, some 4, 4, .load none (.t 3)⟩,
   ⟨none, some 5, 5, .call 29 [0, 0, 0] [(.t 4), (.k (.one (.pv (.int .i64 1)))), (.k (.one (.pv (.int .i64 9))))]⟩,
   ⟨none, some 6, 6, .mv (.t 5)⟩,
   ⟨(some (6, true)), some 7, 7, .faddr (.t 1) 1⟩,
   ⟨(some (6, true)), some 8, 8, .load none (.t 7)⟩,
   ⟨(some (6, true)), some 9, 9, .call 29 [0, 0, 0] [(.t 8), (.k (.one (.pv (.int .i64 0)))), (.k (.one (.pv (.int .i64 4))))]⟩,
   ⟨none, some 10, 10, .pick (.t 6) (.t 9) (.k (.one (.pv (.bool false))))⟩,
   ⟨none, some 11, 11, .mv (.t 10)⟩,
   ⟨(some (11, true)), some 12, 12, .faddr (.t 1) 2⟩,
   ⟨(some (11, true)), some 13, 13, .load none (.t 12)⟩,
   ⟨(some (11, true)), some 14, 14, .call 29 [0, 0, 0] [(.t 13), (.k (.one (.pv (.int .i64 0)))), (.k (.one (.pv (.int .i64 4))))]⟩,
   ⟨none, some 15, 15, .pick (.t 11) (.t 14) (.k (.one (.pv (.bool false))))⟩,
   ⟨none, some 16, 16, .mv (.t 15)⟩,
   ⟨(some (16, true)), some 17, 17, .faddr (.t 1) 1⟩,
   ⟨(some (16, true)), some 18, 18, .load none (.t 17)⟩,
   ⟨(some (16, true)), some 19, 19, .faddr (.t 1) 2⟩,
   ⟨(some (16, true)), some 20, 20, .load none (.t 19)⟩,
   ⟨(some (16, true)), some 21, 21, .bin .neq (.t 18) (.t 20)⟩,
   ⟨none, some 22, 22, .pick (.t 16) (.t 21) (.k (.one (.pv (.bool false))))⟩,
   ⟨none, some 23, 23, .mv (.t 22)⟩,
   ⟨(some (23, true)), some 24, 24, .faddr (.t 1) 3⟩,
   ⟨(some (23, true)), some 25, 25, .load none (.t 24)⟩,
   ⟨(some (23, true)), some 26, 26, .call 145 [0] [(.t 25)]⟩,
   ⟨none, some 27, 27, .pick (.t 23) (.t 26) (.k (.one (.pv (.bool false))))⟩,
   ⟨none, some 28, 28, .mv (.t 27)⟩,
   ⟨(some (28, true)), some 29, 29, .faddr (.t 1) 4⟩,
   ⟨(some (28, true)), some 30, 30, .load none (.t 29)⟩,
   ⟨(some (28, true)), some 31, 31, .slen (.t 30)⟩,
   ⟨(some (28, true)), some 32, 32, .bin .leq (.t 31) (.k (.one (.pv (.int .i64 60))))⟩,
   ⟨none, some 33, 33, .pick (.t 28) (.t 32) (.k (.one (.pv (.bool false))))⟩,
   ⟨none, some 34, 34, .mv (.t 33)⟩,
   ⟨(some (34, true)), some 35, 35, .faddr (.t 1) 5⟩,
   ⟨(some (34, true)), some 36, 36, .load none (.t 35)⟩,
   ⟨(some (34, true)), some 37, 37, .slen (.t 36)⟩,
   ⟨(some (34, true)), some 38, 38, .bin .leq (.t 37) (.k (.one (.pv (.int .i64 60))))⟩,
   ⟨none, some 39, 39, .pick (.t 34) (.t 38) (.k (.one (.pv (.bool false))))⟩,
   ⟨none, some 40, 40, .mv (.t 39)⟩,
   ⟨(some (40, true)), some 41, 41, .faddr (.t 1) 6⟩,
   ⟨(some (40, true)), some 42, 42, .load none (.t 41)⟩,
   ⟨(some (40, true)), some 43, 43, .call 29 [0, 0, 0] [(.t 42), (.k (.one (.pv (.int .i64 0)))), (.k (.one (.pv (.int .i64 255))))]⟩,
   ⟨none, some 44, 44, .pick (.t 40) (.t 43) (.k (.one (.pv (.bool false))))⟩,
   ⟨none, some 45, 45, .mv (.t 44)⟩,
   ⟨(some (45, true)), some 46, 46, .faddr (.t 1) 7⟩,
   ⟨(some (45, true)), some 47, 47, .load none (.t 46)⟩,
   ⟨(some (45, true)), some 48, 48, .call 29 [0, 0, 0] [(.t 47), (.k (.one (.pv (.int .i64 0)))), (.k (.one (.pv (.int .i64 6))))]⟩,
   ⟨none, some 49, 49, .pick (.t 45) (.t 48) (.k (.one (.pv (.bool false))))⟩,
   ⟨none, some 2, 2, .mv (.t 49)⟩])
 (.ret))⟩
abbrev C_s_MsgOk (Te : Nat → List AV → Res → Prop) : Prop := ∀ (m : Msg), Te 88 [.agg m.row] ⟨[.one (bT m.ok)], [m.row]⟩
theorem r_s_MsgOk {Te : Nat → List AV → Res → Prop} (c_s_l1In : C_s_l1In Te) (c_s_l1Word : C_s_l1Word Te) : ∀ (m : Msg), RunFn Te x_s_MsgOk [.agg m.row] ⟨[.one (bT m.ok)], [m.row]⟩ := by
  intro m
  refine ⟨by simp -implicitDefEqProofs only [x_s_MsgOk, go_sem], ?_⟩
  simp -implicitDefEqProofs only [x_s_MsgOk, go_sem, Msg.ok]
  refine .of (c_s_l1In _ _ _) ?_
  simp -implicitDefEqProofs only [go_sem]
  refine bif_cases (fun h1 => ?_) (fun h1 => ?_) <;> simp -implicitDefEqProofs only [h1, go_sem]
  refine .of (c_s_l1In _ _ _) ?_
  simp -implicitDefEqProofs only [go_sem]
  refine bif_cases (fun h2 => ?_) (fun h2 => ?_) <;> simp -implicitDefEqProofs only [h2, go_sem]
  refine .of (c_s_l1In _ _ _) ?_
  simp -implicitDefEqProofs only [go_sem]
  refine bif_cases (fun h3 => ?_) (fun h3 => ?_) <;> simp -implicitDefEqProofs only [h3, go_sem]
  refine bif_cases (fun h4 => ?_) (fun h4 => ?_) <;> simp -implicitDefEqProofs only [h4, go_sem]
  refine .of (c_s_l1Word _) ?_
  simp -implicitDefEqProofs only [go_sem]
  refine bif_cases (fun h5 => ?_) (fun h5 => ?_) <;> simp -implicitDefEqProofs only [h5, go_sem]
  refine bif_cases (fun h6 => ?_) (fun h6 => ?_) <;> simp -implicitDefEqProofs only [h6, go_sem]
  refine bif_cases (fun h7 => ?_) (fun h7 => ?_) <;> simp -implicitDefEqProofs only [h7, go_sem]
  refine .of (c_s_l1In _ _ _) ?_
  simp -implicitDefEqProofs only [go_sem]
  refine bif_cases (fun h8 => ?_) (fun h8 => ?_) <;> simp -implicitDefEqProofs only [h8, go_sem]
  refine .of (c_s_l1In _ _ _) ?_
  simp -implicitDefEqProofs only [go_sem]
end Go.X

/- G -/
namespace Go.X
set_option maxRecDepth 100000
set_option maxHeartbeats 8000000
def Lead.ok (l : Lead) : Bool := win l.Phase 0 7 && ((l.Acked.length : Int) == 2) && ((l.Ended.length : Int) == 2) && ((l.At.length : Int) == 2) && l.At.all (fun s => decide ((s.size : Int) ≤ 60))
def leadIn (p : Int) : Lead := ⟨p, [false, false], [false, false], [⟨#[]⟩, ⟨#[]⟩]⟩
theorem leadIn_In (p : Int) : (leadIn p).In 2 := by
  refine ⟨Nat.le_refl _, Nat.le_refl _, Nat.le_refl _, fun y hy => ?_⟩
  simp only [leadIn, List.mem_cons, List.not_mem_nil, or_false, or_self] at hy
  subst hy
  decide
def x_i_LeadOk : FnX := ⟨37, [.tmp 2],
  .seq (.reg [⟨none, some 1, 1, .box (.t 0)⟩,
   ⟨none, some 2, 2, .mv (.k (.one (.pv (.bool false))))⟩])
 (.seq (.seq (.reg [⟨none, some 5, 5, .faddr (.t 1) 3⟩,
   ⟨none, some 6, 6, .load none (.t 5)⟩,
   ⟨none, some 7, 7, .len (.t 6)⟩,
   ⟨none, some 8, 8, .mv (.k (.one (.pv (.int .i64 0))))⟩])
 (.block 0 (.loop [1, 6, 7, 8] (.seq (.reg [⟨none, some 9, 9, .bin .lss (.t 8) (.t 7)⟩])
 (.seq (.cond 9 (.skip) (.exit 0))
 (.seq (.block 1 (.seq (.reg [⟨none, some 10, 10, .iaddr 1 (.t 6) (.t 8)⟩,
   ⟨none, some 11, 11, .load none (.t 10)⟩,
   ⟨none, some 4, 4, .mv (.t 11)⟩])
 (.seq (.reg [⟨none, some 12, 12, .mv (.t 4)⟩,
   ⟨none, some 13, 13, .slen (.t 12)⟩,
   ⟨none, some 14, 14, .bin .gtr (.t 13) (.k (.one (.pv (.int .i64 60))))⟩])
 (.cond 14 (.seq (.reg [⟨none, some 2, 2, .mv (.k (.one (.pv (.bool false))))⟩])
 (.ret)) (.skip)))))
 (.reg [⟨none, some 15, 15, .bin .add (.t 8) (.k (.one (.pv (.int .i64 1))))⟩,
   ⟨none, some 8, 8, .mv (.t 15)⟩])))))))
 (.norm [1] (.seq (.reg [⟨none, some 16, 16, .faddr (.t 1) 0⟩,
   ⟨none, some 17, 17, .load none (.t 16)⟩,
   ⟨none, some 18, 18, .call 31 [0, 0, 0] [(.t 17), (.k (.one (.pv (.int .i64 0)))), (.k (.one (.pv (.int .i64 7))))]⟩,
   ⟨none, some 19, 19, .mv (.t 18)⟩,
   ⟨(some (19, true)), some 20, 20, .faddr (.t 1) 1⟩,
   ⟨(some (19, true)), some 21, 21, .load none (.t 20)⟩,
   ⟨(some (19, true)), some 22, 22, .len (.t 21)⟩,
   ⟨(some (19, true)), some 23, 23, .bin .eql (.t 22) (.k (.one (.pv (.int .i64 2))))⟩,
   ⟨none, some 24, 24, .pick (.t 19) (.t 23) (.k (.one (.pv (.bool false))))⟩,
   ⟨none, some 25, 25, .mv (.t 24)⟩,
   ⟨(some (25, true)), some 26, 26, .faddr (.t 1) 2⟩,
   ⟨(some (25, true)), some 27, 27, .load none (.t 26)⟩,
   ⟨(some (25, true)), some 28, 28, .len (.t 27)⟩,
   ⟨(some (25, true)), some 29, 29, .bin .eql (.t 28) (.k (.one (.pv (.int .i64 2))))⟩,
   ⟨none, some 30, 30, .pick (.t 25) (.t 29) (.k (.one (.pv (.bool false))))⟩,
   ⟨none, some 31, 31, .mv (.t 30)⟩,
   ⟨(some (31, true)), some 32, 32, .faddr (.t 1) 3⟩,
   ⟨(some (31, true)), some 33, 33, .load none (.t 32)⟩,
   ⟨(some (31, true)), some 34, 34, .len (.t 33)⟩,
   ⟨(some (31, true)), some 35, 35, .bin .eql (.t 34) (.k (.one (.pv (.int .i64 2))))⟩,
   ⟨none, some 36, 36, .pick (.t 31) (.t 35) (.k (.one (.pv (.bool false))))⟩,
   ⟨none, some 2, 2, .mv (.t 36)⟩])
 (.ret))))⟩
abbrev C_i_LeadOk (Te : Nat → List AV → Res → Prop) : Prop := ∀ (l : Lead) (h : l.In (2 ^ 48)), Te 52 [.agg (l.enc false)] ⟨[.one (bT l.ok)], [l.enc false]⟩
theorem r_i_LeadOk {Te : Nat → List AV → Res → Prop} (c_i_within : C_i_within Te) : ∀ (l : Lead) (h : l.In (2 ^ 48)), RunFn Te x_i_LeadOk [.agg (l.enc false)] ⟨[.one (bT l.ok)], [l.enc false]⟩ := by
  intro l h
  refine ⟨by simp -implicitDefEqProofs only [x_i_LeadOk, go_sem], ?_⟩
  obtain ⟨h0, h1, h2, h3⟩ := h
  simp -implicitDefEqProofs only [x_i_LeadOk, go_sem, Lead.ok]
  refine loop_of (σ := Nat) (fun i => ⟨[(1, .bp 1 0), (6, .one (.ro 1 (l.At.map sR))), (7, .one (.pv (.int .i64 l.At.length))), (8, .one (.pv (.int .i64 i)))], [(1, [.pv (.int .i64 l.Phase), .ro 1 (l.Acked.map bR), .ro 1 (l.Ended.map bR), .ro 1 (l.At.map sR)])], [(0, l.enc false)]⟩) (fun i => i ≤ l.At.length ∧ (l.At.take i).all (fun s => decide ((s.size : Int) ≤ 60)) = true) (fun i => l.At.length - i) 0 ?_ ⟨Nat.zero_le _, rfl⟩ ?_
  · simp -implicitDefEqProofs only [go_sem]; rfl
  · rintro i ⟨hi, hp⟩
    simp -implicitDefEqProofs only [go_sem]
    refine ⟨fun h => ?_, fun h => ?_⟩
    · have hi' : i < l.At.length := by simp only [decide_eq_true_eq] at h; omega
      simp -implicitDefEqProofs only [go_sem, List.getElem?_eq_getElem hi']
      refine ⟨fun q => ?_, fun q => ?_⟩
      · have e := all_not (p := fun s => decide ((s.size : Int) ≤ 60)) hi' (decide_eq_false (by simp only [decide_eq_true_eq] at q; omega))
        simp only [e, Bool.and_false]
      · refine ⟨i + 1, by rw [IntWalk.i64_in _ (by omega)]; rfl, ⟨hi', all_step hi' hp (decide_eq_true (by simp only [decide_eq_false_iff_not] at q; omega))⟩, by omega⟩
    · have e := all_end (show l.At.length ≤ i by simp only [decide_eq_false_iff_not] at h; omega) hp
      simp -implicitDefEqProofs only [go_sem, e]
      refine .of (c_i_within _ _ _) ?_
      simp -implicitDefEqProofs only [go_sem]
      refine bif_cases (fun g1 => ?_) (fun g1 => ?_) <;> simp -implicitDefEqProofs only [g1, go_sem]
      refine bif_cases (fun g2 => ?_) (fun g2 => ?_) <;> simp -implicitDefEqProofs only [g2, go_sem]
      refine bif_cases (fun g3 => ?_) (fun g3 => ?_) <;> simp -implicitDefEqProofs only [g3, go_sem]
def x_s_LeadOk : FnX := ⟨40, [.tmp 2],
  .seq (.reg [⟨none, some 1, 1, .box (.t 0)⟩,
   ⟨none, some 2, 2, .mv (.k (.one (.pv (.bool false))))⟩])
 (.seq (.reg [⟨none, some 3, 3, .faddr (.t 1) 0⟩,
   ⟨none, some 4, 4, .load none (.t 3)⟩,
   ⟨none, some 5, 5, .call 29 [0, 0, 0] [(.t 4), (.k (.one (.pv (.int .i64 0)))), (.k (.one (.pv (.int .i64 7))))]⟩,
   ⟨none, some 6, 6, .mv (.t 5)⟩,
   ⟨(some (6, true)), some 7, 7, .faddr (.t 1) 1⟩,
   ⟨(some (6, true)), some 8, 8, .load none (.t 7)⟩,
   ⟨(some (6, true)), some 9, 9, .len (.t 8)⟩,
   ⟨(some (6, true)), some 10, 10, .bin .eql (.t 9) (.k (.one (.pv (.int .i64 2))))⟩,
   ⟨none, some 11, 11, .pick (.t 6) (.t 10) (.k (.one (.pv (.bool false))))⟩,
   ⟨none, some 12, 12, .mv (.t 11)⟩,
   ⟨(some (12, true)), some 13, 13, .faddr (.t 1) 2⟩,
   ⟨(some (12, true)), some 14, 14, .load none (.t 13)⟩,
   ⟨(some (12, true)), some 15, 15, .len (.t 14)⟩,
   ⟨(some (12, true)), some 16, 16, .bin .eql (.t 15) (.k (.one (.pv (.int .i64 2))))⟩,
   ⟨none, some 17, 17, .pick (.t 12) (.t 16) (.k (.one (.pv (.bool false))))⟩,
   ⟨none, some 18, 18, .mv (.t 17)⟩,
   ⟨(some (18, true)), some 19, 19, .faddr (.t 1) 3⟩,
   ⟨(some (18, true)), some 20, 20, .load none (.t 19)⟩,
   ⟨(some (18, true)), some 21, 21, .len (.t 20)⟩,
   ⟨(some (18, true)), some 22, 22, .bin .eql (.t 21) (.k (.one (.pv (.int .i64 2))))⟩,
   ⟨none, some 23, 23, .pick (.t 18) (.t 22) (.k (.one (.pv (.bool false))))⟩,
   ⟨none, some 24, 24, .mv (.t 23)⟩,
   ⟨(some (24, true)), some 25, 25, .faddr (.t 1) 3⟩,
   ⟨(some (24, true)), some 26, 26, .load none (.t 25)⟩,
   ⟨(some (24, true)), some 27, 27, .iaddr 1 (.t 26) (.k (.one (.pv (.int .i64 0))))⟩,
   ⟨(some (24, true)), some 28, 28, .load none (.t 27)⟩,
   ⟨(some (24, true)), some 29, 29, .slen (.t 28)⟩,
   ⟨(some (24, true)), some 30, 30, .bin .leq (.t 29) (.k (.one (.pv (.int .i64 60))))⟩,
   ⟨none, some 31, 31, .pick (.t 24) (.t 30) (.k (.one (.pv (.bool false))))⟩,
   ⟨none, some 32, 32, .mv (.t 31)⟩,
   ⟨(some (32, true)), some 33, 33, .faddr (.t 1) 3⟩,
   ⟨(some (32, true)), some 34, 34, .load none (.t 33)⟩,
   ⟨(some (32, true)), some 35, 35, .iaddr 1 (.t 34) (.k (.one (.pv (.int .i64 1))))⟩,
   ⟨(some (32, true)), some 36, 36, .load none (.t 35)⟩,
   ⟨(some (32, true)), some 37, 37, .slen (.t 36)⟩,
   ⟨(some (32, true)), some 38, 38, .bin .leq (.t 37) (.k (.one (.pv (.int .i64 60))))⟩,
   ⟨none, some 39, 39, .pick (.t 32) (.t 38) (.k (.one (.pv (.bool false))))⟩,
   ⟨none, some 2, 2, .mv (.t 39)⟩])
 (.ret))⟩
abbrev C_s_LeadOk (Te : Nat → List AV → Res → Prop) : Prop := ∀ (l : Lead) (h : l.In (2 ^ 48)), Te 41 [.agg (l.enc false)] ⟨[.one (bT l.ok)], [l.enc false]⟩
theorem r_s_LeadOk {Te : Nat → List AV → Res → Prop} (c_s_l1In : C_s_l1In Te) : ∀ (l : Lead) (h : l.In (2 ^ 48)), RunFn Te x_s_LeadOk [.agg (l.enc false)] ⟨[.one (bT l.ok)], [l.enc false]⟩ := by
  intro l h
  refine ⟨by simp -implicitDefEqProofs only [x_s_LeadOk, go_sem], ?_⟩
  obtain ⟨p, a, e, t⟩ := l
  simp -implicitDefEqProofs only [x_s_LeadOk, go_sem, Lead.ok]
  refine .of (c_s_l1In _ _ _) ?_
  simp -implicitDefEqProofs only [go_sem]
  refine bif_cases (fun g1 => ?_) (fun g1 => ?_) <;> simp -implicitDefEqProofs only [g1, go_sem]
  refine bif_cases (fun g2 => ?_) (fun g2 => ?_) <;> simp -implicitDefEqProofs only [g2, go_sem]
  refine bif_cases (fun g3 => ?_) (fun g3 => ?_) <;> simp -implicitDefEqProofs only [g3, go_sem]
  refine bif_cases (fun g4 => ?_) (fun g4 => ?_) <;> simp -implicitDefEqProofs only [g4, go_sem]
  match t, g4 with
  | [t0, t1], _ =>
    simp -implicitDefEqProofs only [go_sem]
    refine bif_cases (fun g5 => ?_) (fun g5 => ?_) <;> simp -implicitDefEqProofs only [g5, go_sem]
  | [], g4 => simp at g4
  | [_], g4 => simp at g4
  | _ :: _ :: _ :: _, g4 => simp at g4; omega
end Go.X

/- J -/
namespace Go.X
set_option maxRecDepth 100000
set_option maxHeartbeats 8000000
def netOk (l : List Msg) : Bool := l.all Msg.ok && decide ((l.length : Int) ≤ 20)
def send (l : List Msg) (m : Msg) : List Msg × Bool := if netOk (l ++ [m]) = true then (l ++ [m], true) else (l, false)
def sendAll (l more : List Msg) : List Msg := more.foldl (fun acc m => (send acc m).1) l
def msg0 : Msg := ⟨0, 0, 0, 0, ⟨#[]⟩, ⟨#[]⟩, 0, 0⟩
def takeOut (l : List Msg) (i : Int) : List Msg × Msg × Bool := if l = [] ∨ i < 0 then (l, msg0, false) else (l.take (i.toNat % l.length) ++ l.drop (i.toNat % l.length + 1), l.getD (i.toNat % l.length) msg0, true)
def twice (l : List Msg) (i : Int) : List Msg × Bool := if l = [] ∨ i < 0 then (l, false) else send l (l.getD (i.toNat % l.length) msg0)
theorem tmod_nat {i : Int} (n : Nat) (hi : ¬ i < 0) : i.tmod (n : Int) = ((i.toNat % n : Nat) : Int) := by
  obtain ⟨k, rfl⟩ := Int.eq_ofNat_of_zero_le (show 0 ≤ i by omega)
  rw [Int.tmod_eq_emod_of_nonneg (by omega)]
  rfl
theorem netOk_len {l : List Msg} (h : netOk l = true) : l.length ≤ 20 := by
  simp only [netOk, Bool.and_eq_true, decide_eq_true_eq] at h
  omega
theorem send_len {l : List Msg} (m : Msg) {n : Nat} (h : l.length ≤ n) (hn : 20 ≤ n) : (send l m).1.length ≤ n := by
  unfold send
  split
  · rename_i q
    exact Nat.le_trans (netOk_len q) hn
  · exact h
theorem sendAll_len {l : List Msg} (more : List Msg) {n : Nat} (h : l.length ≤ n) (hn : 20 ≤ n) : (sendAll l more).length ≤ n := by
  unfold sendAll
  induction more generalizing l with
  | nil => exact h
  | cons m more ih => exact ih (send_len m h hn)
theorem twice_len {l : List Msg} (i : Int) {n : Nat} (h : l.length ≤ n) (hn : 20 ≤ n) : (twice l i).1.length ≤ n := by
  unfold twice
  split
  · exact h
  · exact send_len _ h hn
theorem takeOut_len (l : List Msg) (i : Int) : (takeOut l i).1.length ≤ l.length := by
  unfold takeOut
  split
  · exact Nat.le_refl _
  · simp; omega
def x_i_NetOk : FnX := ⟨18, [.tmp 2],
  .seq (.reg [⟨none, some 2, 2, .mv (.k (.one (.pv (.bool false))))⟩])
 (.seq (.seq (.reg [⟨none, some 5, 5, .mv (.t 0)⟩,
   ⟨none, some 6, 6, .len (.t 5)⟩,
   ⟨none, some 7, 7, .mv (.k (.one (.pv (.int .i64 0))))⟩])
 (.block 0 (.loop [0, 5, 6, 7] (.seq (.reg [⟨none, some 8, 8, .bin .lss (.t 7) (.t 6)⟩])
 (.seq (.cond 8 (.skip) (.exit 0))
 (.seq (.block 1 (.seq (.reg [⟨none, some 9, 9, .iaddr 8 (.t 5) (.t 7)⟩,
   ⟨none, some 10, 10, .load (some 8) (.t 9)⟩,
   ⟨none, some 4, 4, .alloc [.pv (.int .i64 0), .pv (.int .i64 0), .pv (.int .i64 0), .pv (.int .i64 0), .pv (.string ⟨#[]⟩), .pv (.string ⟨#[]⟩), .pv (.int .i64 0), .pv (.int .i64 0)]⟩,
   ⟨none, none, 100001, .store 8 (.t 4) (.t 10)⟩])
 (.seq (.reg [⟨none, some 11, 11, .load (some 8) (.t 4)⟩,
   ⟨none, some 12, 12, .call 98 [0] [(.t 11)]⟩,
   ⟨none, some 13, 13, .not (.t 12)⟩])
 (.cond 13 (.seq (.reg [⟨none, some 2, 2, .mv (.k (.one (.pv (.bool false))))⟩])
 (.ret)) (.skip)))))
 (.reg [⟨none, some 14, 14, .bin .add (.t 7) (.k (.one (.pv (.int .i64 1))))⟩,
   ⟨none, some 7, 7, .mv (.t 14)⟩])))))))
 (.norm [0] (.seq (.reg [⟨none, some 15, 15, .mv (.t 0)⟩,
   ⟨none, some 16, 16, .len (.t 15)⟩,
   ⟨none, some 17, 17, .bin .leq (.t 16) (.k (.one (.pv (.int .i64 20))))⟩,
   ⟨none, some 2, 2, .mv (.t 17)⟩])
 (.ret))))⟩
abbrev C_i_NetOk (Te : Nat → List AV → Res → Prop) : Prop := ∀ (l : List Msg) (h : l.length ≤ 2 ^ 31), Te 53 [.one (slT false 8 Msg.row l)] ⟨[.one (bT (netOk l))], [[slT false 8 Msg.row l]]⟩
theorem r_i_NetOk {Te : Nat → List AV → Res → Prop} (c_i_MsgOk : C_i_MsgOk Te) : ∀ (l : List Msg) (h : l.length ≤ 2 ^ 31), RunFn Te x_i_NetOk [.one (slT false 8 Msg.row l)] ⟨[.one (bT (netOk l))], [[slT false 8 Msg.row l]]⟩ := by
  intro l h
  refine ⟨by simp -implicitDefEqProofs only [x_i_NetOk, go_sem], ?_⟩
  simp -implicitDefEqProofs only [x_i_NetOk, go_sem]
  refine loop_of (σ := Nat) (fun i => ⟨[(0, .one (.ro 8 (l.map Msg.row))), (5, .one (.ro 8 (l.map Msg.row))), (6, .one (.pv (.int .i64 l.length))), (7, .one (.pv (.int .i64 i)))], [], [(0, [slT false 8 Msg.row l])]⟩) (fun i => i ≤ l.length ∧ (l.take i).all Msg.ok = true) (fun i => l.length - i) 0 ?_ ⟨Nat.zero_le _, rfl⟩ ?_
  · simp -implicitDefEqProofs only [go_sem]; rfl
  · rintro i ⟨hi, hp⟩
    simp -implicitDefEqProofs only [go_sem]
    refine ⟨fun h => ?_, fun h => ?_⟩
    · have hi' : i < l.length := by simp only [decide_eq_true_eq] at h; omega
      simp -implicitDefEqProofs only [go_sem, List.getElem?_eq_getElem hi']
      refine .of (c_i_MsgOk _) ?_
      cases q : l[i].ok
      · have e := all_not (p := Msg.ok) hi' q
        simp -implicitDefEqProofs only [go_sem, netOk, e]
      · simp -implicitDefEqProofs only [go_sem]
        refine ⟨i + 1, by rw [IntWalk.i64_in _ (by omega)]; rfl, ⟨hi', all_step hi' hp q⟩, by omega⟩
    · have e := all_end (show l.length ≤ i by simp only [decide_eq_false_iff_not] at h; omega) hp
      simp -implicitDefEqProofs only [go_sem, netOk, e]
def x_s_NetOk : FnX := ⟨19, [.tmp 2],
  .seq (.reg [⟨none, some 2, 2, .mv (.k (.one (.pv (.bool false))))⟩])
 (.seq (.seq (.reg [⟨none, some 3, 3, .mv (.k (.one (.pv (.int .i64 0))))⟩])
 (.block 0 (.loop [0, 3] (.seq (.seq (.reg [⟨none, some 4, 4, .mv (.t 3)⟩,
   ⟨none, some 5, 5, .mv (.t 0)⟩,
   ⟨none, some 6, 6, .len (.t 5)⟩,
   ⟨none, some 7, 7, .bin .lss (.t 4) (.t 6)⟩])
 (.cond 7 (.skip) (.exit 0)))
 (.seq (.block 1 (.seq (.reg [⟨none, some 10, 10, .mv (.t 0)⟩,
   ⟨none, some 11, 11, .mv (.t 3)⟩,
   ⟨none, some 12, 12, .iaddr 8 (.t 10) (.t 11)⟩,
   ⟨none, some 13, 13, .load (some 8) (.t 12)⟩,
   ⟨none, some 14, 14, .call 88 [0] [(.t 13)]⟩,
   ⟨none, some 15, 15, .not (.t 14)⟩])
 (.cond 15 (.seq (.reg [⟨none, some 2, 2, .mv (.k (.one (.pv (.bool false))))⟩])
 (.ret)) (.skip))))
 (.reg [⟨none, some 8, 8, .mv (.t 3)⟩,
   ⟨none, some 9, 9, .bin .add (.t 8) (.k (.one (.pv (.int .i64 1))))⟩,
   ⟨none, some 3, 3, .mv (.t 9)⟩]))))))
 (.norm [0] (.seq (.reg [⟨none, some 16, 16, .mv (.t 0)⟩,
   ⟨none, some 17, 17, .len (.t 16)⟩,
   ⟨none, some 18, 18, .bin .leq (.t 17) (.k (.one (.pv (.int .i64 20))))⟩,
   ⟨none, some 2, 2, .mv (.t 18)⟩])
 (.ret))))⟩
abbrev C_s_NetOk (Te : Nat → List AV → Res → Prop) : Prop := ∀ (l : List Msg) (h : l.length ≤ 2 ^ 31), Te 42 [.one (slT false 8 Msg.row l)] ⟨[.one (bT (netOk l))], [[slT false 8 Msg.row l]]⟩
theorem r_s_NetOk {Te : Nat → List AV → Res → Prop} (c_s_MsgOk : C_s_MsgOk Te) : ∀ (l : List Msg) (h : l.length ≤ 2 ^ 31), RunFn Te x_s_NetOk [.one (slT false 8 Msg.row l)] ⟨[.one (bT (netOk l))], [[slT false 8 Msg.row l]]⟩ := by
  intro l h
  refine ⟨by simp -implicitDefEqProofs only [x_s_NetOk, go_sem], ?_⟩
  simp -implicitDefEqProofs only [x_s_NetOk, go_sem]
  refine loop_of (σ := Nat) (fun i => ⟨[(0, .one (.ro 8 (l.map Msg.row))), (3, .one (.pv (.int .i64 i)))], [], [(0, [slT false 8 Msg.row l])]⟩) (fun i => i ≤ l.length ∧ (l.take i).all Msg.ok = true) (fun i => l.length - i) 0 ?_ ⟨Nat.zero_le _, rfl⟩ ?_
  · simp -implicitDefEqProofs only [go_sem]; rfl
  · rintro i ⟨hi, hp⟩
    simp -implicitDefEqProofs only [go_sem]
    refine ⟨fun h => ?_, fun h => ?_⟩
    · have hi' : i < l.length := by simp only [decide_eq_true_eq] at h; omega
      simp -implicitDefEqProofs only [go_sem, List.getElem?_eq_getElem hi']
      refine .of (c_s_MsgOk _) ?_
      cases q : l[i].ok
      · have e := all_not (p := Msg.ok) hi' q
        simp -implicitDefEqProofs only [go_sem, netOk, e]
      · simp -implicitDefEqProofs only [go_sem]
        refine ⟨i + 1, by rw [IntWalk.i64_in _ (by omega)]; rfl, ⟨hi', all_step hi' hp q⟩, by omega⟩
    · have e := all_end (show l.length ≤ i by simp only [decide_eq_false_iff_not] at h; omega) hp
      simp -implicitDefEqProofs only [go_sem, netOk, e]
end Go.X

/- K -/
namespace Go.X
set_option maxRecDepth 100000
set_option maxHeartbeats 8000000
abbrev bytesR (o : Bool) (l : List UInt8) : List T := [slT o 1 uR l]
theorem toNat_ofInt (a : Nat) (h : a < 2 ^ 62) : (BitVec.ofInt 64 (a : Int)).toNat = a := by
  rw [BitVec.toNat_ofInt]
  omega
theorem xor_nat (a b : Nat) (ha : a < 2 ^ 62) (hb : b < 2 ^ 62) : xorK .i64 (a : Int) (b : Int) = ((a ^^^ b : Nat) : Int) := by
  rw [xorK_def, show IntKind.i64.bits = 64 from rfl, BitVec.toNat_xor, toNat_ofInt a ha, toNat_ofInt b hb, IntWalk.i64_in]
  have := Nat.xor_lt_two_pow ha hb
  omega
theorem or_nat (a b : Nat) (ha : a < 2 ^ 62) (hb : b < 2 ^ 62) : orK .i64 (a : Int) (b : Int) = ((a ||| b : Nat) : Int) := by
  rw [orK_def, show IntKind.i64.bits = 64 from rfl, BitVec.toNat_or, toNat_ofInt a ha, toNat_ofInt b hb, IntWalk.i64_in]
  have := Nat.or_lt_two_pow ha hb
  omega
theorem and_nat (a b : Nat) (ha : a < 2 ^ 62) (hb : b < 2 ^ 62) : andK .i64 (a : Int) (b : Int) = ((a &&& b : Nat) : Int) := by
  rw [andK_def, show IntKind.i64.bits = 64 from rfl, BitVec.toNat_and, toNat_ofInt a ha, toNat_ofInt b hb, IntWalk.i64_in]
  have := Nat.and_lt_two_pow a hb
  omega
theorem min8 : Nat.min 8 64 = 8 := rfl
theorem and255 (a : Int) : mkU (andK .i64 a 255) = mkU a := by
  rw [andK_def]
  show mkU (IntKind.i64.wrap ((BitVec.ofInt 64 a &&& BitVec.ofInt 64 255).toNat)) = mkU a
  have e : (BitVec.ofInt 64 a &&& BitVec.ofInt 64 255).toNat = (a % 256).toNat := by
    rw [BitVec.toNat_and, BitVec.toNat_ofInt, show (BitVec.ofInt 64 255).toNat = 2 ^ 8 - 1 by decide, Nat.and_two_pow_sub_one_eq_mod]
    omega
  rw [e, IntWalk.i64_in _ (by omega)]
  simp only [mkU]
  congr 1
  omega
theorem ofBytes_eq (l : List UInt8) : ofBytes l = l.map uR := rfl
def hiB (n : Int) : UInt8 := mkU (n.fdiv 256)
def putW (b : List UInt8) (n : Int) : List UInt8 := b ++ [hiB n, mkU n]
def putText (b : List UInt8) (s : ByteArray) : List UInt8 := if (s.size : Int) > 60 then b else putW b s.size ++ s.data.toList
def sumBit (s : Nat) : Nat := if 2 * s > 65535 then 2 * s ^^^ 69665 else 2 * s
def sumBits : Nat → Nat → Nat
  | 0, s => s
  | n + 1, s => sumBit (sumBits n s)
def sumByte (s : Nat) (b : UInt8) : Nat := sumBits 8 (s ^^^ (256 * b.toNat))
def sum (l : List UInt8) : Nat := l.foldl sumByte 65535 &&& 65535
theorem sumBit_lt {s : Nat} (h : s < 65536) : sumBit s < 65536 := by
  unfold sumBit
  split
  · rename_i q
    have h1 : 2 * s < 2 ^ 17 := by omega
    refine Nat.lt_pow_two_of_testBit (n := 16) _ fun i hi => ?_
    rw [Nat.testBit_xor]
    by_cases h16 : i = 16
    · subst h16
      have : (2 * s).testBit 16 = true := by
        rw [Nat.testBit_eq_decide_div_mod_eq]
        have : 2 * s / 2 ^ 16 = 1 := by omega
        simp [this]
      rw [this]; decide
    · rw [Nat.testBit_lt_two_pow (Nat.lt_of_lt_of_le h1 (Nat.pow_le_pow_right (by decide) (by omega))), Nat.testBit_lt_two_pow (Nat.lt_of_lt_of_le (show 69665 < 2 ^ 17 by decide) (Nat.pow_le_pow_right (by decide) (by omega)))]
      rfl
  · omega
theorem sumBits_lt (n : Nat) {s : Nat} (h : s < 65536) : sumBits n s < 65536 := by
  induction n with
  | zero => exact h
  | succ n ih => exact sumBit_lt ih
theorem sumX_lt {s : Nat} (b : UInt8) (h : s < 65536) : s ^^^ (256 * b.toNat) < 65536 := Nat.xor_lt_two_pow (n := 16) h (by have := b.toNat_lt; omega)
theorem sumByte_lt {s : Nat} (b : UInt8) (h : s < 65536) : sumByte s b < 65536 := sumBits_lt 8 (sumX_lt b h)
def x_i_joined : FnX := ⟨18, [.tmp 2],
  .seq (.reg [⟨none, some 2, 2, .mv (.k (.one (.nils 1)))⟩])
 (.seq (.reg [⟨none, some 6, 6, .bslice 1 []⟩,
   ⟨none, some 3, 3, .mv (.t 6)⟩])
 (.seq (.seq (.reg [⟨none, some 7, 7, .mv (.t 0)⟩,
   ⟨none, some 8, 8, .len (.t 7)⟩,
   ⟨none, some 9, 9, .mv (.k (.one (.pv (.int .i64 0))))⟩])
 (.block 0 (.loop [3, 7, 8, 9] (.seq (.reg [⟨none, some 10, 10, .bin .lss (.t 9) (.t 8)⟩])
 (.seq (.cond 10 (.skip) (.exit 0))
 (.seq (.block 1 (.seq (.reg [⟨none, some 11, 11, .iaddr 1 (.t 7) (.t 9)⟩,
   ⟨none, some 12, 12, .load none (.t 11)⟩,
   ⟨none, some 5, 5, .mv (.t 12)⟩])
 (.reg [⟨none, some 13, 13, .mv (.t 3)⟩,
   ⟨none, some 14, 14, .mv (.t 5)⟩,
   ⟨none, some 15, 15, .app 1 1 (.t 13) (.t 14)⟩,
   ⟨none, some 3, 3, .mv (.t 15)⟩])))
 (.reg [⟨none, some 16, 16, .bin .add (.t 9) (.k (.one (.pv (.int .i64 1))))⟩,
   ⟨none, some 9, 9, .mv (.t 16)⟩])))))))
 (.norm [3] (.seq (.reg [⟨none, some 17, 17, .mv (.t 3)⟩,
   ⟨none, some 2, 2, .mv (.t 17)⟩])
 (.ret)))))⟩
abbrev C_i_joined (Te : Nat → List AV → Res → Prop) : Prop := ∀ (ps : List (List UInt8)) (h : ps.flatten.length ≤ 2 ^ 31) (h2 : ps.length ≤ 2 ^ 31), Te 180 [.one (slT false 1 (bytesR false) ps)] ⟨[.one (slT true 1 uR ps.flatten)], [[slT false 1 (bytesR false) ps]]⟩
theorem r_i_joined {Te : Nat → List AV → Res → Prop} : ∀ (ps : List (List UInt8)) (h : ps.flatten.length ≤ 2 ^ 31) (h2 : ps.length ≤ 2 ^ 31), RunFn Te x_i_joined [.one (slT false 1 (bytesR false) ps)] ⟨[.one (slT true 1 uR ps.flatten)], [[slT false 1 (bytesR false) ps]]⟩ := by
  intro ps h h2
  refine ⟨by simp -implicitDefEqProofs only [x_i_joined, go_sem], ?_⟩
  simp -implicitDefEqProofs only [x_i_joined, go_sem]
  refine loop_of (σ := Nat × List UInt8) (fun x => ⟨[(3, .one (.rf 19 0 [] 1 0 x.2.length)), (7, .one (.ro 1 (ps.map (bytesR false)))), (8, .one (.pv (.int .i64 ps.length))), (9, .one (.pv (.int .i64 x.1)))], [], [(0, [slT false 1 (bytesR false) ps]), (19, [slT true 1 uR x.2])]⟩) (fun x => x.1 ≤ ps.length ∧ x.2 = (ps.take x.1).flatten) (fun x => ps.length - x.1) (0, []) ?_ ⟨Nat.zero_le _, rfl⟩ ?_
  · simp -implicitDefEqProofs only [go_sem]; rfl
  · rintro ⟨i, a⟩ ⟨hi, he⟩
    simp only at hi he
    simp -implicitDefEqProofs only [go_sem]
    refine ⟨fun h => ?_, fun h => ?_⟩
    · have hi' : i < ps.length := by simp only [decide_eq_true_eq] at h; omega
      simp -implicitDefEqProofs only [go_sem, List.getElem?_eq_getElem hi']
      have hlen : a.length + ps[i].length ≤ ps.flatten.length := by
        rw [he, ← List.length_append]
        have e := List.take_succ_eq_append_getElem hi'
        have : (ps.take i).flatten ++ ps[i] = (ps.take (i + 1)).flatten := by rw [e, List.flatten_append]; simp
        rw [this]
        have h5 : ps.flatten = (ps.take (i + 1)).flatten ++ (ps.drop (i + 1)).flatten := by rw [← List.flatten_append, List.take_append_drop]
        rw [h5, List.length_append]
        omega
      refine ⟨⟨decide_eq_true (by omega), decide_eq_true (by omega)⟩, (i + 1, a ++ ps[i]), ?_, ⟨hi', ?_⟩, by simp only; omega⟩
      · rw [IntWalk.i64_in _ (by omega)]
        rw [show List.map uR a ++ List.map uR ps[i] = List.map uR (a ++ ps[i]) from List.map_append.symm, show a.length + ps[i].length = (a ++ ps[i]).length from List.length_append.symm]
        rfl
      · rw [he, List.take_succ_eq_append_getElem hi', List.flatten_append]
        simp
    · have hle : ps.length ≤ i := by simp only [decide_eq_false_iff_not] at h; omega
      rw [List.take_of_length_le hle] at he
      subst he
      simp -implicitDefEqProofs only [go_sem]
theorem putW_len (b : List UInt8) (n : Int) : (putW b n).length = b.length + 2 := by simp only [putW, List.length_append]; rfl
theorem putText_len (b : List UInt8) (t : ByteArray) : (putText b t).length ≤ b.length + 62 := by
  unfold putText
  split
  · omega
  · have : t.data.toList.length = t.size := by rw [Array.length_toList]; rfl
    rw [List.length_append, putW_len]
    omega
theorem flat1 {α : Type} (a : List α) : [a].flatten = a := by rw [List.flatten_cons, List.flatten_nil, List.append_nil]
theorem flat2 {α : Type} (a b : List α) : [a, b].flatten = a ++ b := by rw [List.flatten_cons, flat1]
end Go.X

/- L -/
namespace Go.X
set_option maxRecDepth 100000
set_option maxHeartbeats 8000000
def asked1 (k : Int) : Bool := (k == 1) || (k == 3) || (k == 4)
def x_i_isAsked : FnX := ⟨13, [.tmp 2],
  .seq (.reg [⟨none, some 2, 2, .mv (.k (.one (.pv (.bool false))))⟩])
 (.seq (.reg [⟨none, some 3, 3, .mv (.t 0)⟩,
   ⟨none, some 4, 4, .bin .eql (.t 3) (.k (.one (.pv (.int .i64 1))))⟩,
   ⟨none, some 5, 5, .mv (.t 4)⟩,
   ⟨(some (5, false)), some 6, 6, .mv (.t 0)⟩,
   ⟨(some (5, false)), some 7, 7, .bin .eql (.t 6) (.k (.one (.pv (.int .i64 3))))⟩,
   ⟨none, some 8, 8, .pick (.t 5) (.k (.one (.pv (.bool true)))) (.t 7)⟩,
   ⟨none, some 9, 9, .mv (.t 8)⟩,
   ⟨(some (9, false)), some 10, 10, .mv (.t 0)⟩,
   ⟨(some (9, false)), some 11, 11, .bin .eql (.t 10) (.k (.one (.pv (.int .i64 4))))⟩,
   ⟨none, some 12, 12, .pick (.t 9) (.k (.one (.pv (.bool true)))) (.t 11)⟩,
   ⟨none, some 2, 2, .mv (.t 12)⟩])
 (.ret))⟩
abbrev C_i_isAsked (Te : Nat → List AV → Res → Prop) : Prop := ∀ (k : Int), Te 100 [.one (iT k)] ⟨[.one (bT (asked1 k))], [[iT k]]⟩
theorem r_i_isAsked {Te : Nat → List AV → Res → Prop} : ∀ (k : Int), RunFn Te x_i_isAsked [.one (iT k)] ⟨[.one (bT (asked1 k))], [[iT k]]⟩ := by
  intro k
  refine ⟨by simp -implicitDefEqProofs only [x_i_isAsked, go_sem], ?_⟩
  cases g1 : (k == 1)
  · cases g2 : (k == 3)
    · simp -implicitDefEqProofs only [x_i_isAsked, go_sem, g1, g2, asked1]
    · simp -implicitDefEqProofs only [x_i_isAsked, go_sem, g1, g2, asked1]
  · simp -implicitDefEqProofs only [x_i_isAsked, go_sem, g1, asked1]
def x_s_l20Kind : FnX := ⟨13, [.tmp 2],
  .seq (.reg [⟨none, some 2, 2, .mv (.k (.one (.pv (.bool false))))⟩])
 (.seq (.reg [⟨none, some 3, 3, .mv (.t 0)⟩,
   ⟨none, some 4, 4, .bin .eql (.t 3) (.k (.one (.pv (.int .i64 1))))⟩,
   ⟨none, some 5, 5, .mv (.t 4)⟩,
   ⟨(some (5, false)), some 6, 6, .mv (.t 0)⟩,
   ⟨(some (5, false)), some 7, 7, .bin .eql (.t 6) (.k (.one (.pv (.int .i64 3))))⟩,
   ⟨none, some 8, 8, .pick (.t 5) (.k (.one (.pv (.bool true)))) (.t 7)⟩,
   ⟨none, some 9, 9, .mv (.t 8)⟩,
   ⟨(some (9, false)), some 10, 10, .mv (.t 0)⟩,
   ⟨(some (9, false)), some 11, 11, .bin .eql (.t 10) (.k (.one (.pv (.int .i64 4))))⟩,
   ⟨none, some 12, 12, .pick (.t 9) (.k (.one (.pv (.bool true)))) (.t 11)⟩,
   ⟨none, some 2, 2, .mv (.t 12)⟩])
 (.ret))⟩
abbrev C_s_l20Kind (Te : Nat → List AV → Res → Prop) : Prop := ∀ (k : Int), Te 91 [.one (iT k)] ⟨[.one (bT (asked1 k))], [[iT k]]⟩
theorem r_s_l20Kind {Te : Nat → List AV → Res → Prop} : ∀ (k : Int), RunFn Te x_s_l20Kind [.one (iT k)] ⟨[.one (bT (asked1 k))], [[iT k]]⟩ := by
  intro k
  refine ⟨by simp -implicitDefEqProofs only [x_s_l20Kind, go_sem], ?_⟩
  cases g1 : (k == 1)
  · cases g2 : (k == 3)
    · simp -implicitDefEqProofs only [x_s_l20Kind, go_sem, g1, g2, asked1]
    · simp -implicitDefEqProofs only [x_s_l20Kind, go_sem, g1, g2, asked1]
  · simp -implicitDefEqProofs only [x_s_l20Kind, go_sem, g1, asked1]
def nodeOf (s : ByteArray) : Int := if s.size = 0 then 3 else 3 + ((s.data.toList.getD 0 0).toNat % 2 : Nat)
theorem nodeOf_rem (b : UInt8) : ((b.toNat : Int)).tmod 2 = ((b.toNat % 2 : Nat) : Int) := by
  rw [Int.tmod_eq_emod_of_nonneg (by omega)]
  rfl
def x_i_NodeOf : FnX := ⟨11, [.tmp 2],
  .seq (.reg [⟨none, some 2, 2, .mv (.k (.one (.pv (.int .i64 0))))⟩])
 (.seq (.seq (.reg [⟨none, some 3, 3, .mv (.t 0)⟩,
   ⟨none, some 4, 4, .bin .neq (.t 3) (.k (.one (.pv (.string ⟨#[]⟩))))⟩,
   ⟨none, some 5, 5, .mv (.t 4)⟩,
   ⟨(some (5, true)), some 6, 6, .mv (.t 0)⟩,
   ⟨(some (5, true)), some 7, 7, .sidx (.t 6) (.k (.one (.pv (.int .i64 0))))⟩,
   ⟨(some (5, true)), some 8, 8, .bin .rem (.t 7) (.k (.one (.pv (.int .u8 2))))⟩,
   ⟨(some (5, true)), some 9, 9, .bin .eql (.t 8) (.k (.one (.pv (.int .u8 1))))⟩,
   ⟨none, some 10, 10, .pick (.t 5) (.t 9) (.k (.one (.pv (.bool false))))⟩])
 (.cond 10 (.seq (.reg [⟨none, some 2, 2, .mv (.k (.one (.pv (.int .i64 4))))⟩])
 (.ret)) (.skip)))
 (.seq (.reg [⟨none, some 2, 2, .mv (.k (.one (.pv (.int .i64 3))))⟩])
 (.ret)))⟩
abbrev C_i_NodeOf (Te : Nat → List AV → Res → Prop) : Prop := ∀ (s : ByteArray) (h : s.size ≤ 2 ^ 48), Te 101 [.one (sT s)] ⟨[.one (iT (nodeOf s))], [[sT s]]⟩
theorem r_i_NodeOf {Te : Nat → List AV → Res → Prop} : ∀ (s : ByteArray) (h : s.size ≤ 2 ^ 48), RunFn Te x_i_NodeOf [.one (sT s)] ⟨[.one (iT (nodeOf s))], [[sT s]]⟩ := by
  intro s h
  refine ⟨by simp -implicitDefEqProofs only [x_i_NodeOf, go_sem], ?_⟩
  cases g : decide (s = ⟨#[]⟩)
  · have g' : s ≠ ⟨#[]⟩ := by simpa using g
    have hs : 0 < s.size := by
      rcases Nat.eq_zero_or_pos s.size with q | q
      · exact absurd (by rcases s with ⟨⟨l⟩⟩; simp only [ByteArray.size, List.size_toArray, List.length_eq_zero_iff] at q; rw [q]) g'
      · exact q
    have hm := Nat.mod_lt (s.data.toList.getD 0 0).toNat (show 0 < 2 by decide)
    cases g2 : (((s.data.toList.getD 0 0).toNat % 2 : Nat) : Int) == 1
    · have e : nodeOf s = 3 := by
        simp only [beq_eq_false_iff_ne, ne_eq] at g2
        unfold nodeOf
        rw [if_neg (by omega)]
        omega
      simp -implicitDefEqProofs only [x_i_NodeOf, go_sem, g, nodeOf_rem, g2, e]
      repeat (first | refine ⟨rfl, ?_⟩ | refine ⟨by decide, ?_⟩ | refine ⟨decide_eq_true hs, ?_⟩)
      first | rfl | exact decide_eq_true hs
    · have e : nodeOf s = 4 := by
        simp only [beq_iff_eq] at g2
        unfold nodeOf
        rw [if_neg (by omega)]
        omega
      simp -implicitDefEqProofs only [x_i_NodeOf, go_sem, g, nodeOf_rem, g2, e]
      repeat (first | refine ⟨rfl, ?_⟩ | refine ⟨by decide, ?_⟩ | refine ⟨decide_eq_true hs, ?_⟩)
      first | rfl | exact decide_eq_true hs
  · have g' : s = ⟨#[]⟩ := by simpa using g
    have e : nodeOf s = 3 := by subst g'; rfl
    simp -implicitDefEqProofs only [x_i_NodeOf, go_sem, g, e]
def x_s_NodeOf : FnX := ⟨11, [.tmp 2],
  .seq (.reg [⟨none, some 2, 2, .mv (.k (.one (.pv (.int .i64 0))))⟩])
 (.seq (.seq (.reg [⟨none, some 3, 3, .mv (.t 0)⟩,
   ⟨none, some 4, 4, .slen (.t 3)⟩,
   ⟨none, some 5, 5, .bin .eql (.t 4) (.k (.one (.pv (.int .i64 0))))⟩])
 (.cond 5 (.seq (.reg [⟨none, some 2, 2, .mv (.k (.one (.pv (.int .i64 3))))⟩])
 (.ret)) (.skip)))
 (.seq (.reg [⟨none, some 6, 6, .mv (.t 0)⟩,
   ⟨none, some 7, 7, .sidx (.t 6) (.k (.one (.pv (.int .i64 0))))⟩,
   ⟨none, some 8, 8, .conv (.int .i64) (.t 7)⟩,
   ⟨none, some 9, 9, .bin .rem (.t 8) (.k (.one (.pv (.int .i64 2))))⟩,
   ⟨none, some 10, 10, .bin .add (.k (.one (.pv (.int .i64 3)))) (.t 9)⟩,
   ⟨none, some 2, 2, .mv (.t 10)⟩])
 (.ret)))⟩
abbrev C_s_NodeOf (Te : Nat → List AV → Res → Prop) : Prop := ∀ (s : ByteArray) (h : s.size ≤ 2 ^ 48), Te 148 [.one (sT s)] ⟨[.one (iT (nodeOf s))], [[sT s]]⟩
theorem r_s_NodeOf {Te : Nat → List AV → Res → Prop} : ∀ (s : ByteArray) (h : s.size ≤ 2 ^ 48), RunFn Te x_s_NodeOf [.one (sT s)] ⟨[.one (iT (nodeOf s))], [[sT s]]⟩ := by
  intro s h
  refine ⟨by simp -implicitDefEqProofs only [x_s_NodeOf, go_sem], ?_⟩
  have hb := (s.data.toList.getD 0 0).toNat_lt
  have e1 : IntKind.i64.wrap ((s.data.toList.getD 0 0).toNat : Int) = ((s.data.toList.getD 0 0).toNat : Int) := IntWalk.i64_in _ (by omega)
  have e2 : IntKind.i64.wrap (3 + (((s.data.toList.getD 0 0).toNat % 2 : Nat) : Int)) = 3 + (((s.data.toList.getD 0 0).toNat % 2 : Nat) : Int) := IntWalk.i64_in _ (by omega)
  simp -implicitDefEqProofs only [x_s_NodeOf, go_sem, e1, nodeOf_rem, e2]
  refine ⟨fun q => ?_, fun q => ?_⟩
  · have hs : s.size = 0 := by simp only [beq_iff_eq] at q; omega
    simp only [nodeOf, hs, if_true]
  · have hs : s.size ≠ 0 := by simp only [beq_eq_false_iff_ne, ne_eq] at q; omega
    refine ⟨decide_eq_true (by omega), ?_⟩
    simp only [nodeOf, if_neg hs]
end Go.X

/- M -/
namespace Go.X
set_option maxRecDepth 100000
set_option maxHeartbeats 8000000
theorem msg_eqs (m n : Msg) : eqL [0, 0, 0, 0, 2, 2, 0, 0] [.pv (.int .i64 m.Kind), .pv (.int .i64 m.From), .pv (.int .i64 m.To), .pv (.int .i64 m.Seq), .pv (.string m.Key), .pv (.string m.Text), .pv (.int .i64 m.N), .pv (.int .i64 m.Code)]
    [.pv (.int .i64 n.Kind), .pv (.int .i64 n.From), .pv (.int .i64 n.To), .pv (.int .i64 n.Seq), .pv (.string n.Key), .pv (.string n.Text), .pv (.int .i64 n.N), .pv (.int .i64 n.Code)] = some (decide (m = n)) := by
  have key : (m = n) ↔ m.Kind = n.Kind ∧ m.From = n.From ∧ m.To = n.To ∧ m.Seq = n.Seq ∧ m.Key = n.Key ∧ m.Text = n.Text ∧ m.N = n.N ∧ m.Code = n.Code := by cases m; cases n; simp
  simp only [eqL, eqV, bytes_beq, beq_self_eq_true, cond_true, Option.bind_some, Option.map_some, key]
  congr 1
  rw [Bool.eq_iff_iff]
  simp
theorem msg_eq0 (m : Msg) : eqL [0, 0, 0, 0, 2, 2, 0, 0] [.pv (.int .i64 m.Kind), .pv (.int .i64 m.From), .pv (.int .i64 m.To), .pv (.int .i64 m.Seq), .pv (.string m.Key), .pv (.string m.Text), .pv (.int .i64 m.N), .pv (.int .i64 m.Code)]
    [.pv (.int .i64 0), .pv (.int .i64 0), .pv (.int .i64 0), .pv (.int .i64 0), .pv (.string ⟨#[]⟩), .pv (.string ⟨#[]⟩), .pv (.int .i64 0), .pv (.int .i64 0)] = some (decide (m = ⟨0, 0, 0, 0, ⟨#[]⟩, ⟨#[]⟩, 0, 0⟩)) := msg_eqs m ⟨0, 0, 0, 0, ⟨#[]⟩, ⟨#[]⟩, 0, 0⟩
def DoneV.ok (q : Int) (d : DoneV) : Bool := win d.Seq 1 q && asked1 d.Kind && decide ((d.Key.size : Int) ≤ 60) && decide ((d.Text.size : Int) ≤ 60) && win d.Code 0 6
def ClientV.mok (c : ClientV) : Bool := if c.Busy = true then c.M.ok && asked1 c.M.Kind && (c.M.From == c.Id) && (c.M.To == nodeOf c.M.Key) && (c.M.Seq == c.Seq) && decide (c.Seq ≥ 1) else decide (c.M = ⟨0, 0, 0, 0, ⟨#[]⟩, ⟨#[]⟩, 0, 0⟩)
def ClientV.ok (c : ClientV) : Bool := win c.Id 1 2 && win c.Seq 0 60000 && decide ((c.Dones.length : Int) ≤ 60) && c.Dones.all (DoneV.ok c.Seq) && c.mok
def ClientV.again (c : ClientV) : Msg := if c.ok = true ∧ c.Busy = true then c.M else ⟨0, 0, 0, 0, ⟨#[]⟩, ⟨#[]⟩, 0, 0⟩
def x_i_ClientOk : FnX := ⟨106, [.tmp 2],
  .seq (.reg [⟨none, some 1, 1, .box (.t 0)⟩,
   ⟨none, some 2, 2, .mv (.k (.one (.pv (.bool false))))⟩])
 (.seq (.seq (.reg [⟨none, some 5, 5, .faddr (.t 1) 0⟩,
   ⟨none, some 6, 6, .load none (.t 5)⟩,
   ⟨none, some 7, 7, .call 31 [0, 0, 0] [(.t 6), (.k (.one (.pv (.int .i64 1)))), (.k (.one (.pv (.int .i64 2))))]⟩,
   ⟨none, some 8, 8, .not (.t 7)⟩,
   ⟨none, some 9, 9, .mv (.t 8)⟩,
   ⟨(some (9, false)), some 10, 10, .faddr (.t 1) 1⟩,
   ⟨(some (9, false)), some 11, 11, .load none (.t 10)⟩,
   ⟨(some (9, false)), some 12, 12, .call 31 [0, 0, 0] [(.t 11), (.k (.one (.pv (.int .i64 0)))), (.k (.one (.pv (.int .i64 60000))))]⟩,
   ⟨(some (9, false)), some 13, 13, .not (.t 12)⟩,
   ⟨none, some 14, 14, .pick (.t 9) (.k (.one (.pv (.bool true)))) (.t 13)⟩,
   ⟨none, some 15, 15, .mv (.t 14)⟩,
   ⟨(some (15, false)), some 16, 16, .faddr (.t 1) 11⟩,
   ⟨(some (15, false)), some 17, 17, .load none (.t 16)⟩,
   ⟨(some (15, false)), some 18, 18, .len (.t 17)⟩,
   ⟨(some (15, false)), some 19, 19, .bin .gtr (.t 18) (.k (.one (.pv (.int .i64 60))))⟩,
   ⟨none, some 20, 20, .pick (.t 15) (.k (.one (.pv (.bool true)))) (.t 19)⟩])
 (.cond 20 (.seq (.reg [⟨none, some 2, 2, .mv (.k (.one (.pv (.bool false))))⟩])
 (.ret)) (.skip)))
 (.seq (.seq (.reg [⟨none, some 21, 21, .faddr (.t 1) 11⟩,
   ⟨none, some 22, 22, .load none (.t 21)⟩,
   ⟨none, some 23, 23, .len (.t 22)⟩,
   ⟨none, some 24, 24, .mv (.k (.one (.pv (.int .i64 0))))⟩])
 (.block 0 (.loop [1, 22, 23, 24] (.seq (.reg [⟨none, some 25, 25, .bin .lss (.t 24) (.t 23)⟩])
 (.seq (.cond 25 (.skip) (.exit 0))
 (.seq (.block 1 (.seq (.reg [⟨none, some 26, 26, .iaddr 5 (.t 22) (.t 24)⟩,
   ⟨none, some 27, 27, .load (some 5) (.t 26)⟩,
   ⟨none, some 4, 4, .alloc [.pv (.int .i64 0), .pv (.int .i64 0), .pv (.string ⟨#[]⟩), .pv (.string ⟨#[]⟩), .pv (.int .i64 0)]⟩,
   ⟨none, none, 100001, .store 5 (.t 4) (.t 27)⟩])
 (.seq (.reg [⟨none, some 28, 28, .faddr (.t 4) 0⟩,
   ⟨none, some 29, 29, .load none (.t 28)⟩,
   ⟨none, some 30, 30, .faddr (.t 1) 1⟩,
   ⟨none, some 31, 31, .load none (.t 30)⟩,
   ⟨none, some 32, 32, .call 31 [0, 0, 0] [(.t 29), (.k (.one (.pv (.int .i64 1)))), (.t 31)]⟩,
   ⟨none, some 33, 33, .not (.t 32)⟩,
   ⟨none, some 34, 34, .mv (.t 33)⟩,
   ⟨(some (34, false)), some 35, 35, .faddr (.t 4) 1⟩,
   ⟨(some (34, false)), some 36, 36, .load none (.t 35)⟩,
   ⟨(some (34, false)), some 37, 37, .call 100 [0] [(.t 36)]⟩,
   ⟨(some (34, false)), some 38, 38, .not (.t 37)⟩,
   ⟨none, some 39, 39, .pick (.t 34) (.k (.one (.pv (.bool true)))) (.t 38)⟩,
   ⟨none, some 40, 40, .mv (.t 39)⟩,
   ⟨(some (40, false)), some 41, 41, .faddr (.t 4) 2⟩,
   ⟨(some (40, false)), some 42, 42, .load none (.t 41)⟩,
   ⟨(some (40, false)), some 43, 43, .slen (.t 42)⟩,
   ⟨(some (40, false)), some 44, 44, .bin .gtr (.t 43) (.k (.one (.pv (.int .i64 60))))⟩,
   ⟨none, some 45, 45, .pick (.t 40) (.k (.one (.pv (.bool true)))) (.t 44)⟩,
   ⟨none, some 46, 46, .mv (.t 45)⟩,
   ⟨(some (46, false)), some 47, 47, .faddr (.t 4) 3⟩,
   ⟨(some (46, false)), some 48, 48, .load none (.t 47)⟩,
   ⟨(some (46, false)), some 49, 49, .slen (.t 48)⟩,
   ⟨(some (46, false)), some 50, 50, .bin .gtr (.t 49) (.k (.one (.pv (.int .i64 60))))⟩,
   ⟨none, some 51, 51, .pick (.t 46) (.k (.one (.pv (.bool true)))) (.t 50)⟩,
   ⟨none, some 52, 52, .mv (.t 51)⟩,
   ⟨(some (52, false)), some 53, 53, .faddr (.t 4) 4⟩,
   ⟨(some (52, false)), some 54, 54, .load none (.t 53)⟩,
   ⟨(some (52, false)), some 55, 55, .call 31 [0, 0, 0] [(.t 54), (.k (.one (.pv (.int .i64 0)))), (.k (.one (.pv (.int .i64 6))))]⟩,
   ⟨(some (52, false)), some 56, 56, .not (.t 55)⟩,
   ⟨none, some 57, 57, .pick (.t 52) (.k (.one (.pv (.bool true)))) (.t 56)⟩])
 (.cond 57 (.seq (.reg [⟨none, some 2, 2, .mv (.k (.one (.pv (.bool false))))⟩])
 (.ret)) (.skip)))))
 (.reg [⟨none, some 58, 58, .bin .add (.t 24) (.k (.one (.pv (.int .i64 1))))⟩,
   ⟨none, some 24, 24, .mv (.t 58)⟩])))))))
 (.norm [1] (.seq (.seq (.reg [⟨none, some 59, 59, .faddr (.t 1) 2⟩,
   ⟨none, some 60, 60, .load none (.t 59)⟩,
   ⟨none, some 61, 61, .not (.t 60)⟩])
 (.cond 61 (.seq (.reg [⟨none, some 62, 62, .faddr (.t 1) 3⟩,
   ⟨none, some 63, 63, .load (some 8) (.t 62)⟩,
   ⟨none, some 64, 64, .build [.pv (.int .i64 0), .pv (.int .i64 0), .pv (.int .i64 0), .pv (.int .i64 0), .pv (.string ⟨#[]⟩), .pv (.string ⟨#[]⟩), .pv (.int .i64 0), .pv (.int .i64 0)] []⟩,
   ⟨none, some 65, 65, .eqs false [0, 0, 0, 0, 2, 2, 0, 0] (.t 63) (.t 64)⟩,
   ⟨none, some 2, 2, .mv (.t 65)⟩])
 (.ret)) (.skip)))
 (.seq (.draw [⟨none, some 66, 66, .faddr (.t 1) 3⟩,
   ⟨none, some 67, 67, .load (some 8) (.t 66)⟩,
   ⟨none, some 68, 68, .call 98 [0] [(.t 67)]⟩,
   ⟨none, some 69, 69, .mv (.t 68)⟩,
   ⟨(some (69, true)), some 70, 70, .faddr (.t 1) 3⟩,
   ⟨(some (69, true)), some 71, 71, .faddr (.t 70) 0⟩,
   ⟨(some (69, true)), some 72, 72, .load none (.t 71)⟩,
   ⟨(some (69, true)), some 73, 73, .call 100 [0] [(.t 72)]⟩,
   ⟨none, some 74, 74, .pick (.t 69) (.t 73) (.k (.one (.pv (.bool false))))⟩,
   ⟨none, some 75, 75, .mv (.t 74)⟩,
   ⟨(some (75, true)), some 76, 76, .faddr (.t 1) 3⟩,
   ⟨(some (75, true)), some 77, 77, .faddr (.t 76) 1⟩,
   ⟨(some (75, true)), some 78, 78, .load none (.t 77)⟩,
   ⟨(some (75, true)), some 79, 79, .faddr (.t 1) 0⟩,
   ⟨(some (75, true)), some 80, 80, .load none (.t 79)⟩,
   ⟨(some (75, true)), some 81, 81, .bin .eql (.t 78) (.t 80)⟩,
   ⟨none, some 82, 82, .pick (.t 75) (.t 81) (.k (.one (.pv (.bool false))))⟩,
   ⟨none, some 83, 83, .mv (.t 82)⟩,
   ⟨(some (83, true)), some 84, 84, .faddr (.t 1) 3⟩,
   ⟨(some (83, true)), some 85, 85, .faddr (.t 84) 2⟩,
   ⟨(some (83, true)), some 86, 86, .load none (.t 85)⟩,
   ⟨(some (83, true)), some 87, 87, .faddr (.t 1) 3⟩,
   ⟨(some (83, true)), some 88, 88, .faddr (.t 87) 4⟩,
   ⟨(some (83, true)), some 89, 89, .load none (.t 88)⟩,
   ⟨(some (83, true)), some 90, 90, .call 101 [0] [(.t 89)]⟩,
   ⟨(some (83, true)), some 91, 91, .bin .eql (.t 86) (.t 90)⟩,
   ⟨none, some 92, 92, .pick (.t 83) (.t 91) (.k (.one (.pv (.bool false))))⟩,
   ⟨none, some 93, 93, .mv (.t 92)⟩,
   ⟨(some (93, true)), some 94, 94, .faddr (.t 1) 3⟩,
   ⟨(some (93, true)), some 95, 95, .faddr (.t 94) 3⟩,
   ⟨(some (93, true)), some 96, 96, .load none (.t 95)⟩,
   ⟨(some (93, true)), some 97, 97, .faddr (.t 1) 1⟩,
   ⟨(some (93, true)), some 98, 98, .load none (.t 97)⟩,
   ⟨(some (93, true)), some 99, 99, .bin .eql (.t 96) (.t 98)⟩,
   ⟨none, some 100, 100, .pick (.t 93) (.t 99) (.k (.one (.pv (.bool false))))⟩,
   ⟨none, some 101, 101, .mv (.t 100)⟩,
   ⟨(some (101, true)), some 102, 102, .faddr (.t 1) 1⟩,
   ⟨(some (101, true)), some 103, 103, .load none (.t 102)⟩,
   ⟨(some (101, true)), some 104, 104, .bin .geq (.t 103) (.k (.one (.pv (.int .i64 1))))⟩,
   ⟨none, some 105, 105, .pick (.t 101) (.t 104) (.k (.one (.pv (.bool false))))⟩,
   ⟨none, some 2, 2, .mv (.t 105)⟩] [[], [0], [1], [2, 2], [3], [4, 3], [5, 3], [6, 3, 3], [3, 7], [8, 7], [9], [10, 9], [11, 9], [9], [13, 9], [12, 14, 9], [9, 15], [16, 9], [17], [18, 17], [19, 17], [17], [21, 17], [22, 17], [23, 17, 17], [20, 24, 17], [17, 25], [26, 24], [27], [28, 27], [29, 27], [27], [31, 27], [30, 32, 27], [27, 33], [34, 27], [35], [36, 35], [37, 35], [35, 38], [39, 35, 0, 1, 2, 3, 4, 5, 6, 7, 8, 9, 10, 11, 12, 13, 14, 15, 16, 17, 18, 19, 20, 21, 22, 23, 24, 25, 26, 27, 28, 29, 30, 31, 32, 33, 34, 35, 36, 37, 38, 39]])
 (.ret))))))⟩
abbrev C_i_ClientOk (Te : Nat → List AV → Res → Prop) : Prop := ∀ (c : ClientV) (h : c.In (2 ^ 31)), Te 55 [.agg (c.enc false)] ⟨[.one (bT c.ok)], [c.enc false]⟩
theorem r_i_ClientOk {Te : Nat → List AV → Res → Prop} (c_i_within : C_i_within Te) (c_i_isAsked : C_i_isAsked Te) (c_i_MsgOk : C_i_MsgOk Te) (c_i_NodeOf : C_i_NodeOf Te) : ∀ (c : ClientV) (h : c.In (2 ^ 31)), RunFn Te x_i_ClientOk [.agg (c.enc false)] ⟨[.one (bT c.ok)], [c.enc false]⟩ := by
  intro c h
  refine ⟨by simp -implicitDefEqProofs only [x_i_ClientOk, go_sem], ?_⟩
  obtain ⟨⟨hk, ht⟩, hl, hd⟩ := h
  simp -implicitDefEqProofs only [x_i_ClientOk, go_sem, ClientV.ok]
  refine .of (c_i_within _ _ _) ?_
  cases g1 : win c.Id 1 2
  · simp -implicitDefEqProofs only [go_sem]
  simp -implicitDefEqProofs only [go_sem]
  refine .of (c_i_within _ _ _) ?_
  cases g2 : win c.Seq 0 60000
  · simp -implicitDefEqProofs only [go_sem]
  cases g3 : decide ((c.Dones.length : Int) > 60)
  · have g3' : decide ((c.Dones.length : Int) ≤ 60) = true := by simp at g3 ⊢; omega
    simp -implicitDefEqProofs only [go_sem, g3, g3']
    refine loop_of (σ := Nat) (fun i => ⟨[(1, .bp 1 0), (22, .one (.ro 5 (c.Dones.map DoneV.row))), (23, .one (.pv (.int .i64 c.Dones.length))), (24, .one (.pv (.int .i64 i)))], [(1, [.pv (.int .i64 c.Id), .pv (.int .i64 c.Seq), .pv (.bool c.Busy), .pv (.int .i64 c.M.Kind), .pv (.int .i64 c.M.From), .pv (.int .i64 c.M.To), .pv (.int .i64 c.M.Seq), .pv (.string c.M.Key), .pv (.string c.M.Text), .pv (.int .i64 c.M.N), .pv (.int .i64 c.M.Code), .ro 5 (c.Dones.map DoneV.row)])], [(0, c.enc false)]⟩) (fun i => i ≤ c.Dones.length ∧ (c.Dones.take i).all (DoneV.ok c.Seq) = true) (fun i => c.Dones.length - i) 0 ?_ ⟨Nat.zero_le _, rfl⟩ ?_
    · simp -implicitDefEqProofs only [go_sem]; rfl
    · rintro i ⟨hi, hp⟩
      simp -implicitDefEqProofs only [go_sem]
      refine ⟨fun h => ?_, fun h => ?_⟩
      · have hi' : i < c.Dones.length := by simp only [decide_eq_true_eq] at h; omega
        have bad : DoneV.ok c.Seq c.Dones[i] = false → c.Dones.all (DoneV.ok c.Seq) = false := all_not hi'
        have good : DoneV.ok c.Seq c.Dones[i] = true → ((c.Dones.take (i + 1)).all (DoneV.ok c.Seq)) = true := all_step hi' hp
        simp -implicitDefEqProofs only [go_sem, List.getElem?_eq_getElem hi']
        generalize c.Dones[i] = d at bad good
        refine .of (c_i_within _ _ _) ?_
        cases w1 : win d.Seq 1 c.Seq
        · have e := bad (by simp only [DoneV.ok, w1, Bool.false_and])
          simp -implicitDefEqProofs only [go_sem, e]
        simp -implicitDefEqProofs only [go_sem]
        refine .of (c_i_isAsked _) ?_
        cases w2 : asked1 d.Kind
        · have e := bad (by simp only [DoneV.ok, w2, Bool.false_and, Bool.and_false])
          simp -implicitDefEqProofs only [go_sem, e]
        cases w3 : decide ((d.Key.size : Int) > 60)
        · have w3' : decide ((d.Key.size : Int) ≤ 60) = true := by simp at w3 ⊢; omega
          cases w4 : decide ((d.Text.size : Int) > 60)
          · have w4' : decide ((d.Text.size : Int) ≤ 60) = true := by simp at w4 ⊢; omega
            simp -implicitDefEqProofs only [go_sem, w3, w4]
            refine .of (c_i_within _ _ _) ?_
            cases w5 : win d.Code 0 6
            · have e := bad (by simp only [DoneV.ok, w5, Bool.and_false])
              simp -implicitDefEqProofs only [go_sem, e]
            · have e := good (by simp only [DoneV.ok, w1, w2, w3', w4', w5, Bool.and_true])
              simp -implicitDefEqProofs only [go_sem]
              exact ⟨i + 1, by rw [IntWalk.i64_in _ (by omega)]; rfl, ⟨hi', e⟩, by omega⟩
          · have w4' : decide ((d.Text.size : Int) ≤ 60) = false := by simp at w4 ⊢; omega
            have e := bad (by simp only [DoneV.ok, w4', Bool.and_false, Bool.false_and])
            simp -implicitDefEqProofs only [go_sem, w3, w4, e]
        · have w3' : decide ((d.Key.size : Int) ≤ 60) = false := by simp at w3 ⊢; omega
          have e := bad (by simp only [DoneV.ok, w3', Bool.and_false, Bool.false_and])
          simp -implicitDefEqProofs only [go_sem, w3, e]
      · have e := all_end (show c.Dones.length ≤ i by simp only [decide_eq_false_iff_not] at h; omega) hp
        cases hb : c.Busy
        · simp -implicitDefEqProofs only [go_sem, e, hb, ClientV.mok, if_false, msg_eq0, true_implies, false_implies, Bool.bne_false]
        · simp -implicitDefEqProofs only [go_sem, e, hb, ClientV.mok, if_true, true_implies, false_implies]
          refine .of (c_i_MsgOk c.M) ?_
          cases m1 : c.M.ok
          · simp -implicitDefEqProofs only [go_sem]
            try decide
          simp -implicitDefEqProofs only [go_sem]
          refine .of (c_i_isAsked _) ?_
          cases m2 : asked1 c.M.Kind
          · simp -implicitDefEqProofs only [go_sem]
            try decide
          cases m3 : (c.M.From == c.Id)
          · simp -implicitDefEqProofs only [go_sem, m3]
            try decide
          simp -implicitDefEqProofs only [go_sem, m3]
          refine .of (c_i_NodeOf _ (Nat.le_trans hk (by decide))) ?_
          cases m4 : (c.M.To == nodeOf c.M.Key)
          · simp -implicitDefEqProofs only [go_sem, m4]
            try decide
          cases m5 : (c.M.Seq == c.Seq)
          · simp -implicitDefEqProofs only [go_sem, m4, m5]
            try decide
          · simp -implicitDefEqProofs only [go_sem, m4, m5]
            try decide
  · have g3' : decide ((c.Dones.length : Int) ≤ 60) = false := by simp at g3 ⊢; omega
    simp -implicitDefEqProofs only [go_sem, g3, g3']
def x_s_l20Msg : FnX := ⟨50, [.tmp 2],
  .seq (.reg [⟨none, some 1, 1, .box (.t 0)⟩,
   ⟨none, some 2, 2, .mv (.k (.one (.pv (.bool false))))⟩])
 (.seq (.seq (.reg [⟨none, some 3, 3, .faddr (.t 1) 2⟩,
   ⟨none, some 4, 4, .load none (.t 3)⟩,
   ⟨none, some 5, 5, .not (.t 4)⟩])
 (.cond 5 (.seq (.reg [⟨none, some 6, 6, .faddr (.t 1) 3⟩,
   ⟨none, some 7, 7, .load (some 8) (.t 6)⟩,
   ⟨none, some 8, 8, .build [.pv (.int .i64 0), .pv (.int .i64 0), .pv (.int .i64 0), .pv (.int .i64 0), .pv (.string ⟨#[]⟩), .pv (.string ⟨#[]⟩), .pv (.int .i64 0), .pv (.int .i64 0)] []⟩,
   ⟨none, some 9, 9, .eqs false [0, 0, 0, 0, 2, 2, 0, 0] (.t 7) (.t 8)⟩,
   ⟨none, some 2, 2, .mv (.t 9)⟩])
 (.ret)) (.skip)))
 (.seq (.draw [⟨none, some 10, 10, .faddr (.t 1) 3⟩,
   ⟨none, some 11, 11, .load (some 8) (.t 10)⟩,
   ⟨none, some 12, 12, .call 88 [0] [(.t 11)]⟩,
   ⟨none, some 13, 13, .mv (.t 12)⟩,
   ⟨(some (13, true)), some 14, 14, .faddr (.t 1) 3⟩,
   ⟨(some (13, true)), some 15, 15, .faddr (.t 14) 0⟩,
   ⟨(some (13, true)), some 16, 16, .load none (.t 15)⟩,
   ⟨(some (13, true)), some 17, 17, .call 91 [0] [(.t 16)]⟩,
   ⟨none, some 18, 18, .pick (.t 13) (.t 17) (.k (.one (.pv (.bool false))))⟩,
   ⟨none, some 19, 19, .mv (.t 18)⟩,
   ⟨(some (19, true)), some 20, 20, .faddr (.t 1) 3⟩,
   ⟨(some (19, true)), some 21, 21, .faddr (.t 20) 1⟩,
   ⟨(some (19, true)), some 22, 22, .load none (.t 21)⟩,
   ⟨(some (19, true)), some 23, 23, .faddr (.t 1) 0⟩,
   ⟨(some (19, true)), some 24, 24, .load none (.t 23)⟩,
   ⟨(some (19, true)), some 25, 25, .bin .eql (.t 22) (.t 24)⟩,
   ⟨none, some 26, 26, .pick (.t 19) (.t 25) (.k (.one (.pv (.bool false))))⟩,
   ⟨none, some 27, 27, .mv (.t 26)⟩,
   ⟨(some (27, true)), some 28, 28, .faddr (.t 1) 3⟩,
   ⟨(some (27, true)), some 29, 29, .faddr (.t 28) 2⟩,
   ⟨(some (27, true)), some 30, 30, .load none (.t 29)⟩,
   ⟨(some (27, true)), some 31, 31, .faddr (.t 1) 3⟩,
   ⟨(some (27, true)), some 32, 32, .faddr (.t 31) 4⟩,
   ⟨(some (27, true)), some 33, 33, .load none (.t 32)⟩,
   ⟨(some (27, true)), some 34, 34, .call 148 [0] [(.t 33)]⟩,
   ⟨(some (27, true)), some 35, 35, .bin .eql (.t 30) (.t 34)⟩,
   ⟨none, some 36, 36, .pick (.t 27) (.t 35) (.k (.one (.pv (.bool false))))⟩,
   ⟨none, some 37, 37, .mv (.t 36)⟩,
   ⟨(some (37, true)), some 38, 38, .faddr (.t 1) 3⟩,
   ⟨(some (37, true)), some 39, 39, .faddr (.t 38) 3⟩,
   ⟨(some (37, true)), some 40, 40, .load none (.t 39)⟩,
   ⟨(some (37, true)), some 41, 41, .faddr (.t 1) 1⟩,
   ⟨(some (37, true)), some 42, 42, .load none (.t 41)⟩,
   ⟨(some (37, true)), some 43, 43, .bin .eql (.t 40) (.t 42)⟩,
   ⟨none, some 44, 44, .pick (.t 37) (.t 43) (.k (.one (.pv (.bool false))))⟩,
   ⟨none, some 45, 45, .mv (.t 44)⟩,
   ⟨(some (45, true)), some 46, 46, .faddr (.t 1) 1⟩,
   ⟨(some (45, true)), some 47, 47, .load none (.t 46)⟩,
   ⟨(some (45, true)), some 48, 48, .bin .geq (.t 47) (.k (.one (.pv (.int .i64 1))))⟩,
   ⟨none, some 49, 49, .pick (.t 45) (.t 48) (.k (.one (.pv (.bool false))))⟩,
   ⟨none, some 2, 2, .mv (.t 49)⟩] [[], [0], [1], [2, 2], [3], [4, 3], [5, 3], [6, 3, 3], [3, 7], [8, 7], [9], [10, 9], [11, 9], [9], [13, 9], [12, 14, 9], [9, 15], [16, 9], [17], [18, 17], [19, 17], [17], [21, 17], [22, 17], [23, 17, 17], [20, 24, 17], [17, 25], [26, 24], [27], [28, 27], [29, 27], [27], [31, 27], [30, 32, 27], [27, 33], [34, 27], [35], [36, 35], [37, 35], [35, 38], [39, 35, 0, 1, 2, 3, 4, 5, 6, 7, 8, 9, 10, 11, 12, 13, 14, 15, 16, 17, 18, 19, 20, 21, 22, 23, 24, 25, 26, 27, 28, 29, 30, 31, 32, 33, 34, 35, 36, 37, 38, 39]])
 (.ret)))⟩
abbrev C_s_l20Msg (Te : Nat → List AV → Res → Prop) : Prop := ∀ (c : ClientV) (h : c.In (2 ^ 31)), Te 92 [.agg (c.enc false)] ⟨[.one (bT c.mok)], [c.enc false]⟩
theorem r_s_l20Msg {Te : Nat → List AV → Res → Prop} (c_s_MsgOk : C_s_MsgOk Te) (c_s_l20Kind : C_s_l20Kind Te) (c_s_NodeOf : C_s_NodeOf Te) : ∀ (c : ClientV) (h : c.In (2 ^ 31)), RunFn Te x_s_l20Msg [.agg (c.enc false)] ⟨[.one (bT c.mok)], [c.enc false]⟩ := by
  intro c h
  refine ⟨by simp -implicitDefEqProofs only [x_s_l20Msg, go_sem], ?_⟩
  obtain ⟨⟨hk, ht⟩, hl, hd⟩ := h
  cases hb : c.Busy
  · simp -implicitDefEqProofs only [x_s_l20Msg, go_sem, hb, ClientV.mok, if_false, msg_eq0, true_implies, false_implies, Bool.bne_false]
  · simp -implicitDefEqProofs only [x_s_l20Msg, go_sem, hb, ClientV.mok, if_true, true_implies, false_implies]
    refine .of (c_s_MsgOk c.M) ?_
    cases m1 : c.M.ok
    · simp -implicitDefEqProofs only [go_sem]
      try decide
    simp -implicitDefEqProofs only [go_sem]
    refine .of (c_s_l20Kind _) ?_
    cases m2 : asked1 c.M.Kind
    · simp -implicitDefEqProofs only [go_sem]
      try decide
    cases m3 : (c.M.From == c.Id)
    · simp -implicitDefEqProofs only [go_sem, m3]
      try decide
    simp -implicitDefEqProofs only [go_sem, m3]
    refine .of (c_s_NodeOf _ (Nat.le_trans hk (by decide))) ?_
    cases m4 : (c.M.To == nodeOf c.M.Key)
    · simp -implicitDefEqProofs only [go_sem, m4]
      try decide
    cases m5 : (c.M.Seq == c.Seq)
    · simp -implicitDefEqProofs only [go_sem, m4, m5]
      try decide
    · simp -implicitDefEqProofs only [go_sem, m4, m5]
      try decide
def x_s_ClientOk : FnX := ⟨65, [.tmp 2],
  .seq (.reg [⟨none, some 1, 1, .box (.t 0)⟩,
   ⟨none, some 2, 2, .mv (.k (.one (.pv (.bool false))))⟩])
 (.seq (.seq (.reg [⟨none, some 3, 3, .mv (.k (.one (.pv (.int .i64 0))))⟩])
 (.block 0 (.loop [1, 3] (.seq (.seq (.reg [⟨none, some 5, 5, .mv (.t 3)⟩,
   ⟨none, some 6, 6, .faddr (.t 1) 11⟩,
   ⟨none, some 7, 7, .load none (.t 6)⟩,
   ⟨none, some 8, 8, .len (.t 7)⟩,
   ⟨none, some 9, 9, .bin .lss (.t 5) (.t 8)⟩])
 (.cond 9 (.skip) (.exit 0)))
 (.seq (.block 1 (.seq (.reg [⟨none, some 12, 12, .faddr (.t 1) 11⟩,
   ⟨none, some 13, 13, .load none (.t 12)⟩,
   ⟨none, some 14, 14, .mv (.t 3)⟩,
   ⟨none, some 15, 15, .iaddr 5 (.t 13) (.t 14)⟩,
   ⟨none, some 16, 16, .load (some 5) (.t 15)⟩,
   ⟨none, some 4, 4, .alloc [.pv (.int .i64 0), .pv (.int .i64 0), .pv (.string ⟨#[]⟩), .pv (.string ⟨#[]⟩), .pv (.int .i64 0)]⟩,
   ⟨none, none, 100001, .store 5 (.t 4) (.t 16)⟩])
 (.seq (.reg [⟨none, some 17, 17, .faddr (.t 4) 1⟩,
   ⟨none, some 18, 18, .load none (.t 17)⟩,
   ⟨none, some 19, 19, .call 91 [0] [(.t 18)]⟩,
   ⟨none, some 20, 20, .not (.t 19)⟩,
   ⟨none, some 21, 21, .mv (.t 20)⟩,
   ⟨(some (21, false)), some 22, 22, .faddr (.t 4) 0⟩,
   ⟨(some (21, false)), some 23, 23, .load none (.t 22)⟩,
   ⟨(some (21, false)), some 24, 24, .faddr (.t 1) 1⟩,
   ⟨(some (21, false)), some 25, 25, .load none (.t 24)⟩,
   ⟨(some (21, false)), some 26, 26, .call 29 [0, 0, 0] [(.t 23), (.k (.one (.pv (.int .i64 1)))), (.t 25)]⟩,
   ⟨(some (21, false)), some 27, 27, .not (.t 26)⟩,
   ⟨none, some 28, 28, .pick (.t 21) (.k (.one (.pv (.bool true)))) (.t 27)⟩,
   ⟨none, some 29, 29, .mv (.t 28)⟩,
   ⟨(some (29, false)), some 30, 30, .faddr (.t 4) 4⟩,
   ⟨(some (29, false)), some 31, 31, .load none (.t 30)⟩,
   ⟨(some (29, false)), some 32, 32, .call 29 [0, 0, 0] [(.t 31), (.k (.one (.pv (.int .i64 0)))), (.k (.one (.pv (.int .i64 6))))]⟩,
   ⟨(some (29, false)), some 33, 33, .not (.t 32)⟩,
   ⟨none, some 34, 34, .pick (.t 29) (.k (.one (.pv (.bool true)))) (.t 33)⟩,
   ⟨none, some 35, 35, .mv (.t 34)⟩,
   ⟨(some (35, false)), some 36, 36, .faddr (.t 4) 2⟩,
   ⟨(some (35, false)), some 37, 37, .load none (.t 36)⟩,
   ⟨(some (35, false)), some 38, 38, .slen (.t 37)⟩,
   ⟨(some (35, false)), some 39, 39, .bin .gtr (.t 38) (.k (.one (.pv (.int .i64 60))))⟩,
   ⟨none, some 40, 40, .pick (.t 35) (.k (.one (.pv (.bool true)))) (.t 39)⟩,
   ⟨none, some 41, 41, .mv (.t 40)⟩,
   ⟨(some (41, false)), some 42, 42, .faddr (.t 4) 3⟩,
   ⟨(some (41, false)), some 43, 43, .load none (.t 42)⟩,
   ⟨(some (41, false)), some 44, 44, .slen (.t 43)⟩,
   ⟨(some (41, false)), some 45, 45, .bin .gtr (.t 44) (.k (.one (.pv (.int .i64 60))))⟩,
   ⟨none, some 46, 46, .pick (.t 41) (.k (.one (.pv (.bool true)))) (.t 45)⟩])
 (.cond 46 (.seq (.reg [⟨none, some 2, 2, .mv (.k (.one (.pv (.bool false))))⟩])
 (.ret)) (.skip)))))
 (.reg [⟨none, some 10, 10, .mv (.t 3)⟩,
   ⟨none, some 11, 11, .bin .add (.t 10) (.k (.one (.pv (.int .i64 1))))⟩,
   ⟨none, some 3, 3, .mv (.t 11)⟩]))))))
 (.norm [1] (.seq (.reg [⟨none, some 47, 47, .faddr (.t 1) 0⟩,
   ⟨none, some 48, 48, .load none (.t 47)⟩,
   ⟨none, some 49, 49, .call 29 [0, 0, 0] [(.t 48), (.k (.one (.pv (.int .i64 1)))), (.k (.one (.pv (.int .i64 2))))]⟩,
   ⟨none, some 50, 50, .mv (.t 49)⟩,
   ⟨(some (50, true)), some 51, 51, .faddr (.t 1) 1⟩,
   ⟨(some (50, true)), some 52, 52, .load none (.t 51)⟩,
   ⟨(some (50, true)), some 53, 53, .call 29 [0, 0, 0] [(.t 52), (.k (.one (.pv (.int .i64 0)))), (.k (.one (.pv (.int .i64 60000))))]⟩,
   ⟨none, some 54, 54, .pick (.t 50) (.t 53) (.k (.one (.pv (.bool false))))⟩,
   ⟨none, some 55, 55, .mv (.t 54)⟩,
   ⟨(some (55, true)), some 56, 56, .load (some 12) (.t 1)⟩,
   ⟨(some (55, true)), some 57, 57, .call 92 [0] [(.t 56)]⟩,
   ⟨none, some 58, 58, .pick (.t 55) (.t 57) (.k (.one (.pv (.bool false))))⟩,
   ⟨none, some 59, 59, .mv (.t 58)⟩,
   ⟨(some (59, true)), some 60, 60, .faddr (.t 1) 11⟩,
   ⟨(some (59, true)), some 61, 61, .load none (.t 60)⟩,
   ⟨(some (59, true)), some 62, 62, .len (.t 61)⟩,
   ⟨(some (59, true)), some 63, 63, .bin .leq (.t 62) (.k (.one (.pv (.int .i64 60))))⟩,
   ⟨none, some 64, 64, .pick (.t 59) (.t 63) (.k (.one (.pv (.bool false))))⟩,
   ⟨none, some 2, 2, .mv (.t 64)⟩])
 (.ret))))⟩
abbrev C_s_ClientOk (Te : Nat → List AV → Res → Prop) : Prop := ∀ (c : ClientV) (h : c.In (2 ^ 31)), Te 45 [.agg (c.enc false)] ⟨[.one (bT c.ok)], [c.enc false]⟩
theorem r_s_ClientOk {Te : Nat → List AV → Res → Prop} (c_s_l20Kind : C_s_l20Kind Te) (c_s_l1In : C_s_l1In Te) (c_s_l20Msg : C_s_l20Msg Te) : ∀ (c : ClientV) (h : c.In (2 ^ 31)), RunFn Te x_s_ClientOk [.agg (c.enc false)] ⟨[.one (bT c.ok)], [c.enc false]⟩ := by
  intro c h
  refine ⟨by simp -implicitDefEqProofs only [x_s_ClientOk, go_sem], ?_⟩
  have h' := h
  obtain ⟨⟨hk, ht⟩, hl, hd⟩ := h
  simp -implicitDefEqProofs only [x_s_ClientOk, go_sem, ClientV.ok]
  refine loop_of (σ := Nat) (fun i => ⟨[(1, .bp 1 0), (3, .one (.pv (.int .i64 i)))], [(1, [.pv (.int .i64 c.Id), .pv (.int .i64 c.Seq), .pv (.bool c.Busy), .pv (.int .i64 c.M.Kind), .pv (.int .i64 c.M.From), .pv (.int .i64 c.M.To), .pv (.int .i64 c.M.Seq), .pv (.string c.M.Key), .pv (.string c.M.Text), .pv (.int .i64 c.M.N), .pv (.int .i64 c.M.Code), .ro 5 (c.Dones.map DoneV.row)])], [(0, c.enc false)]⟩) (fun i => i ≤ c.Dones.length ∧ (c.Dones.take i).all (DoneV.ok c.Seq) = true) (fun i => c.Dones.length - i) 0 ?_ ⟨Nat.zero_le _, rfl⟩ ?_
  · simp -implicitDefEqProofs only [go_sem]; rfl
  · rintro i ⟨hi, hp⟩
    simp -implicitDefEqProofs only [go_sem]
    refine ⟨fun h => ?_, fun h => ?_⟩
    · have hi' : i < c.Dones.length := by simp only [decide_eq_true_eq] at h; omega
      have bad : DoneV.ok c.Seq c.Dones[i] = false → c.Dones.all (DoneV.ok c.Seq) = false := all_not hi'
      have good : DoneV.ok c.Seq c.Dones[i] = true → ((c.Dones.take (i + 1)).all (DoneV.ok c.Seq)) = true := all_step hi' hp
      simp -implicitDefEqProofs only [go_sem, List.getElem?_eq_getElem hi']
      generalize c.Dones[i] = d at bad good
      refine .of (c_s_l20Kind _) ?_
      cases w2 : asked1 d.Kind
      · have e := bad (by simp only [DoneV.ok, w2, Bool.false_and, Bool.and_false])
        simp -implicitDefEqProofs only [go_sem, e]
      simp -implicitDefEqProofs only [go_sem]
      refine .of (c_s_l1In _ _ _) ?_
      cases w1 : win d.Seq 1 c.Seq
      · have e := bad (by simp only [DoneV.ok, w1, Bool.false_and])
        simp -implicitDefEqProofs only [go_sem, e]
      simp -implicitDefEqProofs only [go_sem]
      refine .of (c_s_l1In _ _ _) ?_
      cases w5 : win d.Code 0 6
      · have e := bad (by simp only [DoneV.ok, w5, Bool.and_false])
        simp -implicitDefEqProofs only [go_sem, e]
      cases w3 : decide ((d.Key.size : Int) > 60)
      · have w3' : decide ((d.Key.size : Int) ≤ 60) = true := by simp at w3 ⊢; omega
        cases w4 : decide ((d.Text.size : Int) > 60)
        · have w4' : decide ((d.Text.size : Int) ≤ 60) = true := by simp at w4 ⊢; omega
          have e := good (by simp only [DoneV.ok, w1, w2, w3', w4', w5, Bool.and_true])
          simp -implicitDefEqProofs only [go_sem, w3, w4]
          exact ⟨i + 1, by rw [IntWalk.i64_in _ (by omega)]; rfl, ⟨hi', e⟩, by omega⟩
        · have w4' : decide ((d.Text.size : Int) ≤ 60) = false := by simp at w4 ⊢; omega
          have e := bad (by simp only [DoneV.ok, w4', Bool.and_false, Bool.false_and])
          simp -implicitDefEqProofs only [go_sem, w3, w4, e]
      · have w3' : decide ((d.Key.size : Int) ≤ 60) = false := by simp at w3 ⊢; omega
        have e := bad (by simp only [DoneV.ok, w3', Bool.and_false, Bool.false_and])
        simp -implicitDefEqProofs only [go_sem, w3, e]
    · have e := all_end (show c.Dones.length ≤ i by simp only [decide_eq_false_iff_not] at h; omega) hp
      simp -implicitDefEqProofs only [go_sem, e]
      refine .of (c_s_l1In _ _ _) ?_
      cases g1 : win c.Id 1 2
      · simp -implicitDefEqProofs only [go_sem]
      simp -implicitDefEqProofs only [go_sem]
      refine .of (c_s_l1In _ _ _) ?_
      cases g2 : win c.Seq 0 60000
      · simp -implicitDefEqProofs only [go_sem]
      simp -implicitDefEqProofs only [go_sem]
      refine .of (c_s_l20Msg _ h') ?_
      cases g3 : c.mok
      · simp -implicitDefEqProofs only [go_sem]
      · simp -implicitDefEqProofs only [go_sem]
end Go.X

/- R -/
namespace Go.X
set_option maxRecDepth 100000
set_option maxHeartbeats 8000000
def koiL : List Int := [1102, 1072, 1073, 1094, 1076, 1077, 1092, 1075, 1093, 1080, 1081, 1082, 1083, 1084, 1085, 1086, 1087, 1103, 1088, 1089, 1090, 1091, 1078, 1074, 1100, 1099, 1079, 1096, 1101, 1097, 1095, 1098]
def winL : List Int := [8364, 0, 8218, 402, 8222, 8230, 8224, 8225, 710, 8240, 352, 8249, 338, 0, 381, 0, 0, 8216, 8217, 8220, 8221, 8226, 8211, 8212, 732, 8482, 353, 8250, 339, 0, 382, 376]
def winM : List Int := [8364, -1, 8218, 402, 8222, 8230, 8224, 8225, 710, 8240, 352, 8249, 338, -1, 381, -1, -1, 8216, 8217, 8220, 8221, 8226, 8211, 8212, 732, 8482, 353, 8250, 339, -1, 382, 376]
def nine (b : Int) : Int := bif b == 164 then 8364 else bif b == 166 then 352 else bif b == 168 then 353 else bif b == 180 then 381 else bif b == 184 then 382 else bif b == 188 then 338 else bif b == 189 then 339 else bif b == 190 then 376 else b
def koi (d b : Int) : Int := bif decide (b ≥ 224) then koiL.getD (b - 224).toNat 0 - 32 else bif decide (b ≥ 192) then koiL.getD (b - 192).toNat 0 else bif b == 163 then 1105 else bif b == 179 then 1025 else d
def winB (l : List Int) (b : Int) : Int := bif decide (b ≥ 160) then b else l.getD (b - 128).toNat 0
theorem koi_in : ∀ k : Fin 32, 0 ≤ koiL.getD k.val 0 ∧ koiL.getD k.val 0 ≤ 65535 := by decide
theorem getD_at {l : List Int} {k : Nat} (hk : k < l.length) : l[k]? = some (l.getD k 0) := by rw [List.getD_eq_getElem?_getD, List.getElem?_eq_getElem hk]; rfl
theorem koi_cel {k : Nat} (hk : k < 32) : ([Cel.pv (Value.int IntKind.i64 1102), Cel.pv (Value.int IntKind.i64 1072), Cel.pv (Value.int IntKind.i64 1073), Cel.pv (Value.int IntKind.i64 1094), Cel.pv (Value.int IntKind.i64 1076), Cel.pv (Value.int IntKind.i64 1077), Cel.pv (Value.int IntKind.i64 1092), Cel.pv (Value.int IntKind.i64 1075), Cel.pv (Value.int IntKind.i64 1093), Cel.pv (Value.int IntKind.i64 1080), Cel.pv (Value.int IntKind.i64 1081), Cel.pv (Value.int IntKind.i64 1082), Cel.pv (Value.int IntKind.i64 1083), Cel.pv (Value.int IntKind.i64 1084), Cel.pv (Value.int IntKind.i64 1085), Cel.pv (Value.int IntKind.i64 1086), Cel.pv (Value.int IntKind.i64 1087), Cel.pv (Value.int IntKind.i64 1103), Cel.pv (Value.int IntKind.i64 1088), Cel.pv (Value.int IntKind.i64 1089), Cel.pv (Value.int IntKind.i64 1090), Cel.pv (Value.int IntKind.i64 1091), Cel.pv (Value.int IntKind.i64 1078), Cel.pv (Value.int IntKind.i64 1074), Cel.pv (Value.int IntKind.i64 1100), Cel.pv (Value.int IntKind.i64 1099), Cel.pv (Value.int IntKind.i64 1079), Cel.pv (Value.int IntKind.i64 1096), Cel.pv (Value.int IntKind.i64 1101), Cel.pv (Value.int IntKind.i64 1097), Cel.pv (Value.int IntKind.i64 1095), Cel.pv (Value.int IntKind.i64 1098)] : List Cel)[k]? = some (Cel.pv (Value.int IntKind.i64 (koiL.getD k 0))) := by
  show (koiL.map fun a => Cel.pv (Value.int IntKind.i64 a))[k]? = _
  rw [List.getElem?_map, getD_at (l := koiL) hk]; rfl
theorem win_cel {k : Nat} (hk : k < 32) : ([Cel.pv (Value.int IntKind.i64 8364), Cel.pv (Value.int IntKind.i64 0), Cel.pv (Value.int IntKind.i64 8218), Cel.pv (Value.int IntKind.i64 402), Cel.pv (Value.int IntKind.i64 8222), Cel.pv (Value.int IntKind.i64 8230), Cel.pv (Value.int IntKind.i64 8224), Cel.pv (Value.int IntKind.i64 8225), Cel.pv (Value.int IntKind.i64 710), Cel.pv (Value.int IntKind.i64 8240), Cel.pv (Value.int IntKind.i64 352), Cel.pv (Value.int IntKind.i64 8249), Cel.pv (Value.int IntKind.i64 338), Cel.pv (Value.int IntKind.i64 0), Cel.pv (Value.int IntKind.i64 381), Cel.pv (Value.int IntKind.i64 0), Cel.pv (Value.int IntKind.i64 0), Cel.pv (Value.int IntKind.i64 8216), Cel.pv (Value.int IntKind.i64 8217), Cel.pv (Value.int IntKind.i64 8220), Cel.pv (Value.int IntKind.i64 8221), Cel.pv (Value.int IntKind.i64 8226), Cel.pv (Value.int IntKind.i64 8211), Cel.pv (Value.int IntKind.i64 8212), Cel.pv (Value.int IntKind.i64 732), Cel.pv (Value.int IntKind.i64 8482), Cel.pv (Value.int IntKind.i64 353), Cel.pv (Value.int IntKind.i64 8250), Cel.pv (Value.int IntKind.i64 339), Cel.pv (Value.int IntKind.i64 0), Cel.pv (Value.int IntKind.i64 382), Cel.pv (Value.int IntKind.i64 376)] : List Cel)[k]? = some (Cel.pv (Value.int IntKind.i64 (winL.getD k 0))) := by
  show (winL.map fun a => Cel.pv (Value.int IntKind.i64 a))[k]? = _
  rw [List.getElem?_map, getD_at (l := winL) hk]; rfl
theorem koi_row {k : Nat} (hk : k < 32) : ([[Tr.pv (Value.int IntKind.i64 1102)], [Tr.pv (Value.int IntKind.i64 1072)], [Tr.pv (Value.int IntKind.i64 1073)], [Tr.pv (Value.int IntKind.i64 1094)], [Tr.pv (Value.int IntKind.i64 1076)], [Tr.pv (Value.int IntKind.i64 1077)], [Tr.pv (Value.int IntKind.i64 1092)], [Tr.pv (Value.int IntKind.i64 1075)], [Tr.pv (Value.int IntKind.i64 1093)], [Tr.pv (Value.int IntKind.i64 1080)], [Tr.pv (Value.int IntKind.i64 1081)], [Tr.pv (Value.int IntKind.i64 1082)], [Tr.pv (Value.int IntKind.i64 1083)], [Tr.pv (Value.int IntKind.i64 1084)], [Tr.pv (Value.int IntKind.i64 1085)], [Tr.pv (Value.int IntKind.i64 1086)], [Tr.pv (Value.int IntKind.i64 1087)], [Tr.pv (Value.int IntKind.i64 1103)], [Tr.pv (Value.int IntKind.i64 1088)], [Tr.pv (Value.int IntKind.i64 1089)], [Tr.pv (Value.int IntKind.i64 1090)], [Tr.pv (Value.int IntKind.i64 1091)], [Tr.pv (Value.int IntKind.i64 1078)], [Tr.pv (Value.int IntKind.i64 1074)], [Tr.pv (Value.int IntKind.i64 1100)], [Tr.pv (Value.int IntKind.i64 1099)], [Tr.pv (Value.int IntKind.i64 1079)], [Tr.pv (Value.int IntKind.i64 1096)], [Tr.pv (Value.int IntKind.i64 1101)], [Tr.pv (Value.int IntKind.i64 1097)], [Tr.pv (Value.int IntKind.i64 1095)], [Tr.pv (Value.int IntKind.i64 1098)]] : List (List T))[k]? = some ([Tr.pv (Value.int IntKind.i64 (koiL.getD k 0))]) := by
  show (koiL.map fun a => [Tr.pv (Value.int IntKind.i64 a)])[k]? = _
  rw [List.getElem?_map, getD_at (l := koiL) hk]; rfl
theorem win_row {k : Nat} (hk : k < 32) : ([[Tr.pv (Value.int IntKind.i64 8364)], [Tr.pv (Value.int IntKind.i64 (-1))], [Tr.pv (Value.int IntKind.i64 8218)], [Tr.pv (Value.int IntKind.i64 402)], [Tr.pv (Value.int IntKind.i64 8222)], [Tr.pv (Value.int IntKind.i64 8230)], [Tr.pv (Value.int IntKind.i64 8224)], [Tr.pv (Value.int IntKind.i64 8225)], [Tr.pv (Value.int IntKind.i64 710)], [Tr.pv (Value.int IntKind.i64 8240)], [Tr.pv (Value.int IntKind.i64 352)], [Tr.pv (Value.int IntKind.i64 8249)], [Tr.pv (Value.int IntKind.i64 338)], [Tr.pv (Value.int IntKind.i64 (-1))], [Tr.pv (Value.int IntKind.i64 381)], [Tr.pv (Value.int IntKind.i64 (-1))], [Tr.pv (Value.int IntKind.i64 (-1))], [Tr.pv (Value.int IntKind.i64 8216)], [Tr.pv (Value.int IntKind.i64 8217)], [Tr.pv (Value.int IntKind.i64 8220)], [Tr.pv (Value.int IntKind.i64 8221)], [Tr.pv (Value.int IntKind.i64 8226)], [Tr.pv (Value.int IntKind.i64 8211)], [Tr.pv (Value.int IntKind.i64 8212)], [Tr.pv (Value.int IntKind.i64 732)], [Tr.pv (Value.int IntKind.i64 8482)], [Tr.pv (Value.int IntKind.i64 353)], [Tr.pv (Value.int IntKind.i64 8250)], [Tr.pv (Value.int IntKind.i64 339)], [Tr.pv (Value.int IntKind.i64 (-1))], [Tr.pv (Value.int IntKind.i64 382)], [Tr.pv (Value.int IntKind.i64 376)]] : List (List T))[k]? = some ([Tr.pv (Value.int IntKind.i64 (winM.getD k 0))]) := by
  show (winM.map fun a => [Tr.pv (Value.int IntKind.i64 a)])[k]? = _
  rw [List.getElem?_map, getD_at (l := winM) hk]; rfl
def x_i_nineSign : FnX := ⟨21, [.tmp 2],
  .seq (.reg [⟨none, some 2, 2, .mv (.k (.one (.pv (.int .i64 0))))⟩])
 (.seq (.seq (.reg [⟨none, some 3, 3, .mv (.t 0)⟩])
 (.block 0 (.seq (.reg [⟨none, some 5, 5, .bin .eql (.t 3) (.k (.one (.pv (.int .i64 164))))⟩,
   ⟨none, some 4, 4, .mv (.t 5)⟩])
 (.cond 4 (.seq (.reg [⟨none, some 2, 2, .mv (.k (.one (.pv (.int .i64 8364))))⟩])
 (.ret)) (.seq (.reg [⟨none, some 7, 7, .bin .eql (.t 3) (.k (.one (.pv (.int .i64 166))))⟩,
   ⟨none, some 6, 6, .mv (.t 7)⟩])
 (.cond 6 (.seq (.reg [⟨none, some 2, 2, .mv (.k (.one (.pv (.int .i64 352))))⟩])
 (.ret)) (.seq (.reg [⟨none, some 9, 9, .bin .eql (.t 3) (.k (.one (.pv (.int .i64 168))))⟩,
   ⟨none, some 8, 8, .mv (.t 9)⟩])
 (.cond 8 (.seq (.reg [⟨none, some 2, 2, .mv (.k (.one (.pv (.int .i64 353))))⟩])
 (.ret)) (.seq (.reg [⟨none, some 11, 11, .bin .eql (.t 3) (.k (.one (.pv (.int .i64 180))))⟩,
   ⟨none, some 10, 10, .mv (.t 11)⟩])
 (.cond 10 (.seq (.reg [⟨none, some 2, 2, .mv (.k (.one (.pv (.int .i64 381))))⟩])
 (.ret)) (.seq (.reg [⟨none, some 13, 13, .bin .eql (.t 3) (.k (.one (.pv (.int .i64 184))))⟩,
   ⟨none, some 12, 12, .mv (.t 13)⟩])
 (.cond 12 (.seq (.reg [⟨none, some 2, 2, .mv (.k (.one (.pv (.int .i64 382))))⟩])
 (.ret)) (.seq (.reg [⟨none, some 15, 15, .bin .eql (.t 3) (.k (.one (.pv (.int .i64 188))))⟩,
   ⟨none, some 14, 14, .mv (.t 15)⟩])
 (.cond 14 (.seq (.reg [⟨none, some 2, 2, .mv (.k (.one (.pv (.int .i64 338))))⟩])
 (.ret)) (.seq (.reg [⟨none, some 17, 17, .bin .eql (.t 3) (.k (.one (.pv (.int .i64 189))))⟩,
   ⟨none, some 16, 16, .mv (.t 17)⟩])
 (.cond 16 (.seq (.reg [⟨none, some 2, 2, .mv (.k (.one (.pv (.int .i64 339))))⟩])
 (.ret)) (.seq (.reg [⟨none, some 19, 19, .bin .eql (.t 3) (.k (.one (.pv (.int .i64 190))))⟩,
   ⟨none, some 18, 18, .mv (.t 19)⟩])
 (.cond 18 (.seq (.reg [⟨none, some 2, 2, .mv (.k (.one (.pv (.int .i64 376))))⟩])
 (.ret)) (.skip)))))))))))))))))))
 (.seq (.reg [⟨none, some 20, 20, .mv (.t 0)⟩,
   ⟨none, some 2, 2, .mv (.t 20)⟩])
 (.ret)))⟩
abbrev C_i_nineSign (Te : Nat → List AV → Res → Prop) : Prop := ∀ (b : Int), Te 228 [.one (iT b)] ⟨[.one (iT (nine b))], [[iT b]]⟩
theorem r_i_nineSign {Te : Nat → List AV → Res → Prop} : ∀ (b : Int), RunFn Te x_i_nineSign [.one (iT b)] ⟨[.one (iT (nine b))], [[iT b]]⟩ := by
  intro b
  refine ⟨by simp -implicitDefEqProofs only [x_i_nineSign, go_sem], ?_⟩
  cases g0 : (b == 164)
  rotate_left
  · simp -implicitDefEqProofs only [x_i_nineSign, go_sem, true_implies, false_implies, nine, g0]
  cases g1 : (b == 166)
  rotate_left
  · simp -implicitDefEqProofs only [x_i_nineSign, go_sem, true_implies, false_implies, nine, g1, g0]
  cases g2 : (b == 168)
  rotate_left
  · simp -implicitDefEqProofs only [x_i_nineSign, go_sem, true_implies, false_implies, nine, g2, g0, g1]
  cases g3 : (b == 180)
  rotate_left
  · simp -implicitDefEqProofs only [x_i_nineSign, go_sem, true_implies, false_implies, nine, g3, g0, g1, g2]
  cases g4 : (b == 184)
  rotate_left
  · simp -implicitDefEqProofs only [x_i_nineSign, go_sem, true_implies, false_implies, nine, g4, g0, g1, g2, g3]
  cases g5 : (b == 188)
  rotate_left
  · simp -implicitDefEqProofs only [x_i_nineSign, go_sem, true_implies, false_implies, nine, g5, g0, g1, g2, g3, g4]
  cases g6 : (b == 189)
  rotate_left
  · simp -implicitDefEqProofs only [x_i_nineSign, go_sem, true_implies, false_implies, nine, g6, g0, g1, g2, g3, g4, g5]
  cases g7 : (b == 190)
  rotate_left
  · simp -implicitDefEqProofs only [x_i_nineSign, go_sem, true_implies, false_implies, nine, g7, g0, g1, g2, g3, g4, g5, g6]
  simp -implicitDefEqProofs only [x_i_nineSign, go_sem, true_implies, false_implies, nine, g0, g1, g2, g3, g4, g5, g6, g7]
def x_s_l3Nine : FnX := ⟨21, [.tmp 2],
  .seq (.reg [⟨none, some 2, 2, .mv (.k (.one (.pv (.int .i64 0))))⟩])
 (.seq (.seq (.reg [⟨none, some 3, 3, .mv (.t 0)⟩])
 (.block 0 (.seq (.reg [⟨none, some 5, 5, .bin .eql (.t 3) (.k (.one (.pv (.int .i64 164))))⟩,
   ⟨none, some 4, 4, .mv (.t 5)⟩])
 (.cond 4 (.seq (.reg [⟨none, some 2, 2, .mv (.k (.one (.pv (.int .i64 8364))))⟩])
 (.ret)) (.seq (.reg [⟨none, some 7, 7, .bin .eql (.t 3) (.k (.one (.pv (.int .i64 166))))⟩,
   ⟨none, some 6, 6, .mv (.t 7)⟩])
 (.cond 6 (.seq (.reg [⟨none, some 2, 2, .mv (.k (.one (.pv (.int .i64 352))))⟩])
 (.ret)) (.seq (.reg [⟨none, some 9, 9, .bin .eql (.t 3) (.k (.one (.pv (.int .i64 168))))⟩,
   ⟨none, some 8, 8, .mv (.t 9)⟩])
 (.cond 8 (.seq (.reg [⟨none, some 2, 2, .mv (.k (.one (.pv (.int .i64 353))))⟩])
 (.ret)) (.seq (.reg [⟨none, some 11, 11, .bin .eql (.t 3) (.k (.one (.pv (.int .i64 180))))⟩,
   ⟨none, some 10, 10, .mv (.t 11)⟩])
 (.cond 10 (.seq (.reg [⟨none, some 2, 2, .mv (.k (.one (.pv (.int .i64 381))))⟩])
 (.ret)) (.seq (.reg [⟨none, some 13, 13, .bin .eql (.t 3) (.k (.one (.pv (.int .i64 184))))⟩,
   ⟨none, some 12, 12, .mv (.t 13)⟩])
 (.cond 12 (.seq (.reg [⟨none, some 2, 2, .mv (.k (.one (.pv (.int .i64 382))))⟩])
 (.ret)) (.seq (.reg [⟨none, some 15, 15, .bin .eql (.t 3) (.k (.one (.pv (.int .i64 188))))⟩,
   ⟨none, some 14, 14, .mv (.t 15)⟩])
 (.cond 14 (.seq (.reg [⟨none, some 2, 2, .mv (.k (.one (.pv (.int .i64 338))))⟩])
 (.ret)) (.seq (.reg [⟨none, some 17, 17, .bin .eql (.t 3) (.k (.one (.pv (.int .i64 189))))⟩,
   ⟨none, some 16, 16, .mv (.t 17)⟩])
 (.cond 16 (.seq (.reg [⟨none, some 2, 2, .mv (.k (.one (.pv (.int .i64 339))))⟩])
 (.ret)) (.seq (.reg [⟨none, some 19, 19, .bin .eql (.t 3) (.k (.one (.pv (.int .i64 190))))⟩,
   ⟨none, some 18, 18, .mv (.t 19)⟩])
 (.cond 18 (.seq (.reg [⟨none, some 2, 2, .mv (.k (.one (.pv (.int .i64 376))))⟩])
 (.ret)) (.skip)))))))))))))))))))
 (.seq (.reg [⟨none, some 20, 20, .mv (.t 0)⟩,
   ⟨none, some 2, 2, .mv (.t 20)⟩])
 (.ret)))⟩
abbrev C_s_l3Nine (Te : Nat → List AV → Res → Prop) : Prop := ∀ (b : Int), Te 223 [.one (iT b)] ⟨[.one (iT (nine b))], [[iT b]]⟩
theorem r_s_l3Nine {Te : Nat → List AV → Res → Prop} : ∀ (b : Int), RunFn Te x_s_l3Nine [.one (iT b)] ⟨[.one (iT (nine b))], [[iT b]]⟩ := by
  intro b
  refine ⟨by simp -implicitDefEqProofs only [x_s_l3Nine, go_sem], ?_⟩
  cases g0 : (b == 164)
  rotate_left
  · simp -implicitDefEqProofs only [x_s_l3Nine, go_sem, true_implies, false_implies, nine, g0]
  cases g1 : (b == 166)
  rotate_left
  · simp -implicitDefEqProofs only [x_s_l3Nine, go_sem, true_implies, false_implies, nine, g1, g0]
  cases g2 : (b == 168)
  rotate_left
  · simp -implicitDefEqProofs only [x_s_l3Nine, go_sem, true_implies, false_implies, nine, g2, g0, g1]
  cases g3 : (b == 180)
  rotate_left
  · simp -implicitDefEqProofs only [x_s_l3Nine, go_sem, true_implies, false_implies, nine, g3, g0, g1, g2]
  cases g4 : (b == 184)
  rotate_left
  · simp -implicitDefEqProofs only [x_s_l3Nine, go_sem, true_implies, false_implies, nine, g4, g0, g1, g2, g3]
  cases g5 : (b == 188)
  rotate_left
  · simp -implicitDefEqProofs only [x_s_l3Nine, go_sem, true_implies, false_implies, nine, g5, g0, g1, g2, g3, g4]
  cases g6 : (b == 189)
  rotate_left
  · simp -implicitDefEqProofs only [x_s_l3Nine, go_sem, true_implies, false_implies, nine, g6, g0, g1, g2, g3, g4, g5]
  cases g7 : (b == 190)
  rotate_left
  · simp -implicitDefEqProofs only [x_s_l3Nine, go_sem, true_implies, false_implies, nine, g7, g0, g1, g2, g3, g4, g5, g6]
  simp -implicitDefEqProofs only [x_s_l3Nine, go_sem, true_implies, false_implies, nine, g0, g1, g2, g3, g4, g5, g6, g7]
def x_i_koiSign : FnX := ⟨26, [.tmp 2],
  .seq (.reg [⟨none, some 2, 2, .mv (.k (.one (.pv (.int .i64 0))))⟩])
 (.seq (.reg [⟨none, some 4, 4, .build [.pv (.int .i64 0), .pv (.int .i64 0), .pv (.int .i64 0), .pv (.int .i64 0), .pv (.int .i64 0), .pv (.int .i64 0), .pv (.int .i64 0), .pv (.int .i64 0), .pv (.int .i64 0), .pv (.int .i64 0), .pv (.int .i64 0), .pv (.int .i64 0), .pv (.int .i64 0), .pv (.int .i64 0), .pv (.int .i64 0), .pv (.int .i64 0), .pv (.int .i64 0), .pv (.int .i64 0), .pv (.int .i64 0), .pv (.int .i64 0), .pv (.int .i64 0), .pv (.int .i64 0), .pv (.int .i64 0), .pv (.int .i64 0), .pv (.int .i64 0), .pv (.int .i64 0), .pv (.int .i64 0), .pv (.int .i64 0), .pv (.int .i64 0), .pv (.int .i64 0), .pv (.int .i64 0), .pv (.int .i64 0)] [(0, 1, (.k (.one (.pv (.int .i64 1102))))), (1, 1, (.k (.one (.pv (.int .i64 1072))))), (2, 1, (.k (.one (.pv (.int .i64 1073))))), (3, 1, (.k (.one (.pv (.int .i64 1094))))), (4, 1, (.k (.one (.pv (.int .i64 1076))))), (5, 1, (.k (.one (.pv (.int .i64 1077))))), (6, 1, (.k (.one (.pv (.int .i64 1092))))), (7, 1, (.k (.one (.pv (.int .i64 1075))))), (8, 1, (.k (.one (.pv (.int .i64 1093))))), (9, 1, (.k (.one (.pv (.int .i64 1080))))), (10, 1, (.k (.one (.pv (.int .i64 1081))))), (11, 1, (.k (.one (.pv (.int .i64 1082))))), (12, 1, (.k (.one (.pv (.int .i64 1083))))), (13, 1, (.k (.one (.pv (.int .i64 1084))))), (14, 1, (.k (.one (.pv (.int .i64 1085))))), (15, 1, (.k (.one (.pv (.int .i64 1086))))), (16, 1, (.k (.one (.pv (.int .i64 1087))))), (17, 1, (.k (.one (.pv (.int .i64 1103))))), (18, 1, (.k (.one (.pv (.int .i64 1088))))), (19, 1, (.k (.one (.pv (.int .i64 1089))))), (20, 1, (.k (.one (.pv (.int .i64 1090))))), (21, 1, (.k (.one (.pv (.int .i64 1091))))), (22, 1, (.k (.one (.pv (.int .i64 1078))))), (23, 1, (.k (.one (.pv (.int .i64 1074))))), (24, 1, (.k (.one (.pv (.int .i64 1100))))), (25, 1, (.k (.one (.pv (.int .i64 1099))))), (26, 1, (.k (.one (.pv (.int .i64 1079))))), (27, 1, (.k (.one (.pv (.int .i64 1096))))), (28, 1, (.k (.one (.pv (.int .i64 1101))))), (29, 1, (.k (.one (.pv (.int .i64 1097))))), (30, 1, (.k (.one (.pv (.int .i64 1095))))), (31, 1, (.k (.one (.pv (.int .i64 1098)))))]⟩,
   ⟨none, some 3, 3, .alloc [.pv (.int .i64 0), .pv (.int .i64 0), .pv (.int .i64 0), .pv (.int .i64 0), .pv (.int .i64 0), .pv (.int .i64 0), .pv (.int .i64 0), .pv (.int .i64 0), .pv (.int .i64 0), .pv (.int .i64 0), .pv (.int .i64 0), .pv (.int .i64 0), .pv (.int .i64 0), .pv (.int .i64 0), .pv (.int .i64 0), .pv (.int .i64 0), .pv (.int .i64 0), .pv (.int .i64 0), .pv (.int .i64 0), .pv (.int .i64 0), .pv (.int .i64 0), .pv (.int .i64 0), .pv (.int .i64 0), .pv (.int .i64 0), .pv (.int .i64 0), .pv (.int .i64 0), .pv (.int .i64 0), .pv (.int .i64 0), .pv (.int .i64 0), .pv (.int .i64 0), .pv (.int .i64 0), .pv (.int .i64 0)]⟩,
   ⟨none, none, 100001, .store 32 (.t 3) (.t 4)⟩])
 (.seq (.block 0 (.seq (.reg [⟨none, some 6, 6, .mv (.t 0)⟩,
   ⟨none, some 7, 7, .bin .geq (.t 6) (.k (.one (.pv (.int .i64 224))))⟩,
   ⟨none, some 5, 5, .mv (.t 7)⟩])
 (.cond 5 (.seq (.reg [⟨none, some 8, 8, .mv (.t 0)⟩,
   ⟨none, some 9, 9, .bin .sub (.t 8) (.k (.one (.pv (.int .i64 224))))⟩,
   ⟨none, some 10, 10, .aaddr 32 1 (.t 3) (.t 9)⟩,
   ⟨none, some 11, 11, .load none (.t 10)⟩,
   ⟨none, some 12, 12, .bin .sub (.t 11) (.k (.one (.pv (.int .i64 32))))⟩,
   ⟨none, some 2, 2, .mv (.t 12)⟩])
 (.ret)) (.seq (.reg [⟨none, some 14, 14, .mv (.t 0)⟩,
   ⟨none, some 15, 15, .bin .geq (.t 14) (.k (.one (.pv (.int .i64 192))))⟩,
   ⟨none, some 13, 13, .mv (.t 15)⟩])
 (.cond 13 (.seq (.reg [⟨none, some 16, 16, .mv (.t 0)⟩,
   ⟨none, some 17, 17, .bin .sub (.t 16) (.k (.one (.pv (.int .i64 192))))⟩,
   ⟨none, some 18, 18, .aaddr 32 1 (.t 3) (.t 17)⟩,
   ⟨none, some 19, 19, .load none (.t 18)⟩,
   ⟨none, some 2, 2, .mv (.t 19)⟩])
 (.ret)) (.seq (.reg [⟨none, some 21, 21, .mv (.t 0)⟩,
   ⟨none, some 22, 22, .bin .eql (.t 21) (.k (.one (.pv (.int .i64 163))))⟩,
   ⟨none, some 20, 20, .mv (.t 22)⟩])
 (.cond 20 (.seq (.reg [⟨none, some 2, 2, .mv (.k (.one (.pv (.int .i64 1105))))⟩])
 (.ret)) (.seq (.reg [⟨none, some 24, 24, .mv (.t 0)⟩,
   ⟨none, some 25, 25, .bin .eql (.t 24) (.k (.one (.pv (.int .i64 179))))⟩,
   ⟨none, some 23, 23, .mv (.t 25)⟩])
 (.cond 23 (.seq (.reg [⟨none, some 2, 2, .mv (.k (.one (.pv (.int .i64 1025))))⟩])
 (.ret)) (.skip))))))))))
 (.seq (.reg [⟨none, some 2, 2, .mv (.k (.one (.pv (.int .i64 0))))⟩])
 (.ret))))⟩
abbrev C_i_koiSign (Te : Nat → List AV → Res → Prop) : Prop := ∀ (b : Int) (hb : 128 ≤ b ∧ b ≤ 255), Te 229 [.one (iT b)] ⟨[.one (iT (koi 0 b))], [[iT b]]⟩
theorem r_i_koiSign {Te : Nat → List AV → Res → Prop} : ∀ (b : Int) (hb : 128 ≤ b ∧ b ≤ 255), RunFn Te x_i_koiSign [.one (iT b)] ⟨[.one (iT (koi 0 b))], [[iT b]]⟩ := by
  intro b hb
  refine ⟨by simp -implicitDefEqProofs only [x_i_koiSign, go_sem], ?_⟩
  cases g1 : decide (b ≥ 224)
  · cases g2 : decide (b ≥ 192)
    · cases g3 : (b == 163)
      · cases g4 : (b == 179)
        · simp -implicitDefEqProofs only [x_i_koiSign, go_sem, true_implies, false_implies, koi, g1, g2, g3, g4]
        · simp -implicitDefEqProofs only [x_i_koiSign, go_sem, true_implies, false_implies, koi, g1, g2, g3, g4]
      · simp -implicitDefEqProofs only [x_i_koiSign, go_sem, true_implies, false_implies, koi, g1, g2, g3]
    · simp only [decide_eq_true_eq] at g2
      have e : IntKind.i64.wrap (b - 192) = b - 192 := IntWalk.i64_in _ (by omega)
      simp only [decide_eq_false_iff_not] at g1
      have hk : (b - 192).toNat < 32 := by omega
      have q1 := decide_eq_false g1
      have q2 := decide_eq_true g2
      simp -implicitDefEqProofs only [x_i_koiSign, go_sem, true_implies, false_implies, koi, q1, q2, e, Nat.mul_one]
      repeat (refine ⟨decide_eq_true (by omega), ?_⟩)
      try simp -implicitDefEqProofs only [go_sem, true_implies, false_implies, koi_cel hk, q1, q2]
  · simp only [decide_eq_true_eq] at g1
    have e : IntKind.i64.wrap (b - 224) = b - 224 := IntWalk.i64_in _ (by omega)
    have hk : (b - 224).toNat < 32 := by omega
    have q1 := decide_eq_true g1
    have hv := koi_in ⟨(b - 224).toNat, hk⟩
    have e2 : IntKind.i64.wrap (koiL.getD (b - 224).toNat 0 - 32) = koiL.getD (b - 224).toNat 0 - 32 := IntWalk.i64_in _ (by simp only at hv; omega)
    simp -implicitDefEqProofs only [x_i_koiSign, go_sem, true_implies, false_implies, koi, q1, e, Nat.mul_one]
    repeat (refine ⟨decide_eq_true (by omega), ?_⟩)
    try simp -implicitDefEqProofs only [go_sem, true_implies, false_implies, koi_cel hk, q1, e2]
def x_s_l3Koi : FnX := ⟨28, [.tmp 2],
  .seq (.reg [⟨none, some 2, 2, .mv (.k (.one (.pv (.int .i64 0))))⟩])
 (.seq (.reg [⟨none, some 4, 4, .bslice 1 [(.k (.one (.pv (.int .i64 1102)))), (.k (.one (.pv (.int .i64 1072)))), (.k (.one (.pv (.int .i64 1073)))), (.k (.one (.pv (.int .i64 1094)))), (.k (.one (.pv (.int .i64 1076)))), (.k (.one (.pv (.int .i64 1077)))), (.k (.one (.pv (.int .i64 1092)))), (.k (.one (.pv (.int .i64 1075)))), (.k (.one (.pv (.int .i64 1093)))), (.k (.one (.pv (.int .i64 1080)))), (.k (.one (.pv (.int .i64 1081)))), (.k (.one (.pv (.int .i64 1082)))), (.k (.one (.pv (.int .i64 1083)))), (.k (.one (.pv (.int .i64 1084)))), (.k (.one (.pv (.int .i64 1085)))), (.k (.one (.pv (.int .i64 1086)))), (.k (.one (.pv (.int .i64 1087)))), (.k (.one (.pv (.int .i64 1103)))), (.k (.one (.pv (.int .i64 1088)))), (.k (.one (.pv (.int .i64 1089)))), (.k (.one (.pv (.int .i64 1090)))), (.k (.one (.pv (.int .i64 1091)))), (.k (.one (.pv (.int .i64 1078)))), (.k (.one (.pv (.int .i64 1074)))), (.k (.one (.pv (.int .i64 1100)))), (.k (.one (.pv (.int .i64 1099)))), (.k (.one (.pv (.int .i64 1079)))), (.k (.one (.pv (.int .i64 1096)))), (.k (.one (.pv (.int .i64 1101)))), (.k (.one (.pv (.int .i64 1097)))), (.k (.one (.pv (.int .i64 1095)))), (.k (.one (.pv (.int .i64 1098))))]⟩,
   ⟨none, some 3, 3, .mv (.t 4)⟩])
 (.seq (.block 0 (.seq (.reg [⟨none, some 6, 6, .mv (.t 0)⟩,
   ⟨none, some 7, 7, .bin .geq (.t 6) (.k (.one (.pv (.int .i64 224))))⟩,
   ⟨none, some 5, 5, .mv (.t 7)⟩])
 (.cond 5 (.seq (.reg [⟨none, some 8, 8, .mv (.t 3)⟩,
   ⟨none, some 9, 9, .mv (.t 0)⟩,
   ⟨none, some 10, 10, .bin .sub (.t 9) (.k (.one (.pv (.int .i64 224))))⟩,
   ⟨none, some 11, 11, .iaddr 1 (.t 8) (.t 10)⟩,
   ⟨none, some 12, 12, .load none (.t 11)⟩,
   ⟨none, some 13, 13, .bin .sub (.t 12) (.k (.one (.pv (.int .i64 32))))⟩,
   ⟨none, some 2, 2, .mv (.t 13)⟩])
 (.ret)) (.seq (.reg [⟨none, some 15, 15, .mv (.t 0)⟩,
   ⟨none, some 16, 16, .bin .geq (.t 15) (.k (.one (.pv (.int .i64 192))))⟩,
   ⟨none, some 14, 14, .mv (.t 16)⟩])
 (.cond 14 (.seq (.reg [⟨none, some 17, 17, .mv (.t 3)⟩,
   ⟨none, some 18, 18, .mv (.t 0)⟩,
   ⟨none, some 19, 19, .bin .sub (.t 18) (.k (.one (.pv (.int .i64 192))))⟩,
   ⟨none, some 20, 20, .iaddr 1 (.t 17) (.t 19)⟩,
   ⟨none, some 21, 21, .load none (.t 20)⟩,
   ⟨none, some 2, 2, .mv (.t 21)⟩])
 (.ret)) (.seq (.reg [⟨none, some 23, 23, .mv (.t 0)⟩,
   ⟨none, some 24, 24, .bin .eql (.t 23) (.k (.one (.pv (.int .i64 163))))⟩,
   ⟨none, some 22, 22, .mv (.t 24)⟩])
 (.cond 22 (.seq (.reg [⟨none, some 2, 2, .mv (.k (.one (.pv (.int .i64 1105))))⟩])
 (.ret)) (.seq (.reg [⟨none, some 26, 26, .mv (.t 0)⟩,
   ⟨none, some 27, 27, .bin .eql (.t 26) (.k (.one (.pv (.int .i64 179))))⟩,
   ⟨none, some 25, 25, .mv (.t 27)⟩])
 (.cond 25 (.seq (.reg [⟨none, some 2, 2, .mv (.k (.one (.pv (.int .i64 1025))))⟩])
 (.ret)) (.skip))))))))))
 (.seq (.reg [⟨none, some 2, 2, .mv (.k (.one (.pv (.int .i64 (-1)))))⟩])
 (.ret))))⟩
abbrev C_s_l3Koi (Te : Nat → List AV → Res → Prop) : Prop := ∀ (b : Int) (hb : 128 ≤ b ∧ b ≤ 255), Te 224 [.one (iT b)] ⟨[.one (iT (koi (-1) b))], [[iT b]]⟩
theorem r_s_l3Koi {Te : Nat → List AV → Res → Prop} : ∀ (b : Int) (hb : 128 ≤ b ∧ b ≤ 255), RunFn Te x_s_l3Koi [.one (iT b)] ⟨[.one (iT (koi (-1) b))], [[iT b]]⟩ := by
  intro b hb
  refine ⟨by simp -implicitDefEqProofs only [x_s_l3Koi, go_sem], ?_⟩
  cases g1 : decide (b ≥ 224)
  · cases g2 : decide (b ≥ 192)
    · cases g3 : (b == 163)
      · cases g4 : (b == 179)
        · simp -implicitDefEqProofs only [x_s_l3Koi, go_sem, true_implies, false_implies, koi, g1, g2, g3, g4]
        · simp -implicitDefEqProofs only [x_s_l3Koi, go_sem, true_implies, false_implies, koi, g1, g2, g3, g4]
      · simp -implicitDefEqProofs only [x_s_l3Koi, go_sem, true_implies, false_implies, koi, g1, g2, g3]
    · simp only [decide_eq_true_eq] at g2
      have e : IntKind.i64.wrap (b - 192) = b - 192 := IntWalk.i64_in _ (by omega)
      simp only [decide_eq_false_iff_not] at g1
      have hk : (b - 192).toNat < 32 := by omega
      have q1 := decide_eq_false g1
      have q2 := decide_eq_true g2
      simp -implicitDefEqProofs only [x_s_l3Koi, go_sem, true_implies, false_implies, koi, q1, q2, e, Nat.mul_one, List.getD_eq_getElem?_getD]
      repeat (refine ⟨decide_eq_true (by omega), ?_⟩)
      try simp -implicitDefEqProofs only [go_sem, true_implies, false_implies, koi_row hk, q1, q2]
      try simp only [List.getD_eq_getElem?_getD]
  · simp only [decide_eq_true_eq] at g1
    have e : IntKind.i64.wrap (b - 224) = b - 224 := IntWalk.i64_in _ (by omega)
    have hk : (b - 224).toNat < 32 := by omega
    have q1 := decide_eq_true g1
    have hv := koi_in ⟨(b - 224).toNat, hk⟩
    have e2 : IntKind.i64.wrap (koiL.getD (b - 224).toNat 0 - 32) = koiL.getD (b - 224).toNat 0 - 32 := IntWalk.i64_in _ (by simp only at hv; omega)
    simp -implicitDefEqProofs only [x_s_l3Koi, go_sem, true_implies, false_implies, koi, q1, e, Nat.mul_one, List.getD_eq_getElem?_getD]
    repeat (refine ⟨decide_eq_true (by omega), ?_⟩)
    try simp -implicitDefEqProofs only [go_sem, true_implies, false_implies, koi_row hk, q1, e2]
    try simp only [List.getD_eq_getElem?_getD]
def x_i_winSign : FnX := ⟨12, [.tmp 2],
  .seq (.reg [⟨none, some 2, 2, .mv (.k (.one (.pv (.int .i64 0))))⟩])
 (.seq (.reg [⟨none, some 4, 4, .build [.pv (.int .i64 0), .pv (.int .i64 0), .pv (.int .i64 0), .pv (.int .i64 0), .pv (.int .i64 0), .pv (.int .i64 0), .pv (.int .i64 0), .pv (.int .i64 0), .pv (.int .i64 0), .pv (.int .i64 0), .pv (.int .i64 0), .pv (.int .i64 0), .pv (.int .i64 0), .pv (.int .i64 0), .pv (.int .i64 0), .pv (.int .i64 0), .pv (.int .i64 0), .pv (.int .i64 0), .pv (.int .i64 0), .pv (.int .i64 0), .pv (.int .i64 0), .pv (.int .i64 0), .pv (.int .i64 0), .pv (.int .i64 0), .pv (.int .i64 0), .pv (.int .i64 0), .pv (.int .i64 0), .pv (.int .i64 0), .pv (.int .i64 0), .pv (.int .i64 0), .pv (.int .i64 0), .pv (.int .i64 0)] [(0, 1, (.k (.one (.pv (.int .i64 8364))))), (1, 1, (.k (.one (.pv (.int .i64 0))))), (2, 1, (.k (.one (.pv (.int .i64 8218))))), (3, 1, (.k (.one (.pv (.int .i64 402))))), (4, 1, (.k (.one (.pv (.int .i64 8222))))), (5, 1, (.k (.one (.pv (.int .i64 8230))))), (6, 1, (.k (.one (.pv (.int .i64 8224))))), (7, 1, (.k (.one (.pv (.int .i64 8225))))), (8, 1, (.k (.one (.pv (.int .i64 710))))), (9, 1, (.k (.one (.pv (.int .i64 8240))))), (10, 1, (.k (.one (.pv (.int .i64 352))))), (11, 1, (.k (.one (.pv (.int .i64 8249))))), (12, 1, (.k (.one (.pv (.int .i64 338))))), (13, 1, (.k (.one (.pv (.int .i64 0))))), (14, 1, (.k (.one (.pv (.int .i64 381))))), (15, 1, (.k (.one (.pv (.int .i64 0))))), (16, 1, (.k (.one (.pv (.int .i64 0))))), (17, 1, (.k (.one (.pv (.int .i64 8216))))), (18, 1, (.k (.one (.pv (.int .i64 8217))))), (19, 1, (.k (.one (.pv (.int .i64 8220))))), (20, 1, (.k (.one (.pv (.int .i64 8221))))), (21, 1, (.k (.one (.pv (.int .i64 8226))))), (22, 1, (.k (.one (.pv (.int .i64 8211))))), (23, 1, (.k (.one (.pv (.int .i64 8212))))), (24, 1, (.k (.one (.pv (.int .i64 732))))), (25, 1, (.k (.one (.pv (.int .i64 8482))))), (26, 1, (.k (.one (.pv (.int .i64 353))))), (27, 1, (.k (.one (.pv (.int .i64 8250))))), (28, 1, (.k (.one (.pv (.int .i64 339))))), (29, 1, (.k (.one (.pv (.int .i64 0))))), (30, 1, (.k (.one (.pv (.int .i64 382))))), (31, 1, (.k (.one (.pv (.int .i64 376)))))]⟩,
   ⟨none, some 3, 3, .alloc [.pv (.int .i64 0), .pv (.int .i64 0), .pv (.int .i64 0), .pv (.int .i64 0), .pv (.int .i64 0), .pv (.int .i64 0), .pv (.int .i64 0), .pv (.int .i64 0), .pv (.int .i64 0), .pv (.int .i64 0), .pv (.int .i64 0), .pv (.int .i64 0), .pv (.int .i64 0), .pv (.int .i64 0), .pv (.int .i64 0), .pv (.int .i64 0), .pv (.int .i64 0), .pv (.int .i64 0), .pv (.int .i64 0), .pv (.int .i64 0), .pv (.int .i64 0), .pv (.int .i64 0), .pv (.int .i64 0), .pv (.int .i64 0), .pv (.int .i64 0), .pv (.int .i64 0), .pv (.int .i64 0), .pv (.int .i64 0), .pv (.int .i64 0), .pv (.int .i64 0), .pv (.int .i64 0), .pv (.int .i64 0)]⟩,
   ⟨none, none, 100001, .store 32 (.t 3) (.t 4)⟩])
 (.seq (.seq (.reg [⟨none, some 5, 5, .mv (.t 0)⟩,
   ⟨none, some 6, 6, .bin .geq (.t 5) (.k (.one (.pv (.int .i64 160))))⟩])
 (.cond 6 (.seq (.reg [⟨none, some 7, 7, .mv (.t 0)⟩,
   ⟨none, some 2, 2, .mv (.t 7)⟩])
 (.ret)) (.skip)))
 (.seq (.reg [⟨none, some 8, 8, .mv (.t 0)⟩,
   ⟨none, some 9, 9, .bin .sub (.t 8) (.k (.one (.pv (.int .i64 128))))⟩,
   ⟨none, some 10, 10, .aaddr 32 1 (.t 3) (.t 9)⟩,
   ⟨none, some 11, 11, .load none (.t 10)⟩,
   ⟨none, some 2, 2, .mv (.t 11)⟩])
 (.ret))))⟩
abbrev C_i_winSign (Te : Nat → List AV → Res → Prop) : Prop := ∀ (b : Int) (hb : 128 ≤ b ∧ b ≤ 255), Te 230 [.one (iT b)] ⟨[.one (iT (winB winL b))], [[iT b]]⟩
theorem r_i_winSign {Te : Nat → List AV → Res → Prop} : ∀ (b : Int) (hb : 128 ≤ b ∧ b ≤ 255), RunFn Te x_i_winSign [.one (iT b)] ⟨[.one (iT (winB winL b))], [[iT b]]⟩ := by
  intro b hb
  refine ⟨by simp -implicitDefEqProofs only [x_i_winSign, go_sem], ?_⟩
  cases g1 : decide (b ≥ 160)
  · have e : IntKind.i64.wrap (b - 128) = b - 128 := IntWalk.i64_in _ (by omega)
    have hk : (b - 128).toNat < 32 := by simp only [decide_eq_false_iff_not] at g1; omega
    simp -implicitDefEqProofs only [x_i_winSign, go_sem, true_implies, false_implies, winB, g1, e, Nat.mul_one]
    repeat (refine ⟨decide_eq_true (by omega), ?_⟩)
    try simp -implicitDefEqProofs only [go_sem, true_implies, false_implies, win_cel hk, g1]
  · simp -implicitDefEqProofs only [x_i_winSign, go_sem, true_implies, false_implies, winB, g1]
def x_s_l3Win : FnX := ⟨13, [.tmp 2],
  .seq (.reg [⟨none, some 2, 2, .mv (.k (.one (.pv (.int .i64 0))))⟩])
 (.seq (.reg [⟨none, some 4, 4, .bslice 1 [(.k (.one (.pv (.int .i64 8364)))), (.k (.one (.pv (.int .i64 (-1))))), (.k (.one (.pv (.int .i64 8218)))), (.k (.one (.pv (.int .i64 402)))), (.k (.one (.pv (.int .i64 8222)))), (.k (.one (.pv (.int .i64 8230)))), (.k (.one (.pv (.int .i64 8224)))), (.k (.one (.pv (.int .i64 8225)))), (.k (.one (.pv (.int .i64 710)))), (.k (.one (.pv (.int .i64 8240)))), (.k (.one (.pv (.int .i64 352)))), (.k (.one (.pv (.int .i64 8249)))), (.k (.one (.pv (.int .i64 338)))), (.k (.one (.pv (.int .i64 (-1))))), (.k (.one (.pv (.int .i64 381)))), (.k (.one (.pv (.int .i64 (-1))))), (.k (.one (.pv (.int .i64 (-1))))), (.k (.one (.pv (.int .i64 8216)))), (.k (.one (.pv (.int .i64 8217)))), (.k (.one (.pv (.int .i64 8220)))), (.k (.one (.pv (.int .i64 8221)))), (.k (.one (.pv (.int .i64 8226)))), (.k (.one (.pv (.int .i64 8211)))), (.k (.one (.pv (.int .i64 8212)))), (.k (.one (.pv (.int .i64 732)))), (.k (.one (.pv (.int .i64 8482)))), (.k (.one (.pv (.int .i64 353)))), (.k (.one (.pv (.int .i64 8250)))), (.k (.one (.pv (.int .i64 339)))), (.k (.one (.pv (.int .i64 (-1))))), (.k (.one (.pv (.int .i64 382)))), (.k (.one (.pv (.int .i64 376))))]⟩,
   ⟨none, some 3, 3, .mv (.t 4)⟩])
 (.seq (.seq (.reg [⟨none, some 5, 5, .mv (.t 0)⟩,
   ⟨none, some 6, 6, .bin .geq (.t 5) (.k (.one (.pv (.int .i64 160))))⟩])
 (.cond 6 (.seq (.reg [⟨none, some 7, 7, .mv (.t 0)⟩,
   ⟨none, some 2, 2, .mv (.t 7)⟩])
 (.ret)) (.skip)))
 (.seq (.reg [⟨none, some 8, 8, .mv (.t 3)⟩,
   ⟨none, some 9, 9, .mv (.t 0)⟩,
   ⟨none, some 10, 10, .bin .sub (.t 9) (.k (.one (.pv (.int .i64 128))))⟩,
   ⟨none, some 11, 11, .iaddr 1 (.t 8) (.t 10)⟩,
   ⟨none, some 12, 12, .load none (.t 11)⟩,
   ⟨none, some 2, 2, .mv (.t 12)⟩])
 (.ret))))⟩
abbrev C_s_l3Win (Te : Nat → List AV → Res → Prop) : Prop := ∀ (b : Int) (hb : 128 ≤ b ∧ b ≤ 255), Te 225 [.one (iT b)] ⟨[.one (iT (winB winM b))], [[iT b]]⟩
theorem r_s_l3Win {Te : Nat → List AV → Res → Prop} : ∀ (b : Int) (hb : 128 ≤ b ∧ b ≤ 255), RunFn Te x_s_l3Win [.one (iT b)] ⟨[.one (iT (winB winM b))], [[iT b]]⟩ := by
  intro b hb
  refine ⟨by simp -implicitDefEqProofs only [x_s_l3Win, go_sem], ?_⟩
  cases g1 : decide (b ≥ 160)
  · have e : IntKind.i64.wrap (b - 128) = b - 128 := IntWalk.i64_in _ (by omega)
    have hk : (b - 128).toNat < 32 := by simp only [decide_eq_false_iff_not] at g1; omega
    simp -implicitDefEqProofs only [x_s_l3Win, go_sem, true_implies, false_implies, winB, g1, e, Nat.mul_one, List.getD_eq_getElem?_getD]
    repeat (refine ⟨decide_eq_true (by omega), ?_⟩)
    try simp -implicitDefEqProofs only [go_sem, true_implies, false_implies, win_row hk, g1]
    try simp only [List.getD_eq_getElem?_getD]
  · simp -implicitDefEqProofs only [x_s_l3Win, go_sem, true_implies, false_implies, winB, g1]
end Go.X

