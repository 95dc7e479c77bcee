/- Texts: CVg CVh CW_WorldOk XLib XUtf8. -/
import Derived.Test.YthfpiilfndlnaaaGreatDoorCg
import Derived.Test.YthfpiilfndlnaaaGreatDoorCe
import Derived.Test.YthfpiilfndlnaaaGreatDoorCd
import Derived.Test.YthfpiilfndlnaaaGreatDoorCf
import Derived.Shelf.Spec.DecodeRune
import Derived.Lib.LaidU8T
import Derived.Lib.SpaceU
set_option linter.unusedVariables false
set_option linter.unusedSimpArgs false
/- Vg -/
namespace Go.X
set_option maxRecDepth 100000
set_option maxHeartbeats 8000000
def secGood (l : List UInt8) : Bool := !decide ((l.length : Int) > 120)
def wrGood (n : Nat) (w : WrV) : Bool := win w.N 0 ((n : Int) - 1) && !decide ((w.B.length : Int) > 120)
def DevV.ok (d : DevV) : Bool := win d.Secs.length 1 64 && decide ((d.Cache.length : Int) ≤ 40) && win d.Fuse (-1) 1000 && d.Secs.all secGood && d.Cache.all (wrGood d.Secs.length)
theorem gt_le (n : Nat) : decide ((n : Int) > 40) = !decide ((n : Int) ≤ 40) := by
  by_cases h : (n : Int) ≤ 40
  · rw [decide_eq_true h, decide_eq_false (by omega)]; rfl
  · rw [decide_eq_false h, decide_eq_true (by omega)]; rfl
def x_i_DevOk : FnX := ⟨57, [.tmp 2],
  .seq (.reg [⟨none, some 1, 1, .box (.t 0)⟩,
   ⟨none, some 2, 2, .mv (.k (.one (.pv (.bool false))))⟩])
 (.seq (.seq (.reg [⟨none, some 7, 7, .faddr (.t 1) 0⟩,
   ⟨none, some 8, 8, .load none (.t 7)⟩,
   ⟨none, some 9, 9, .len (.t 8)⟩,
   ⟨none, some 10, 10, .call 31 [0, 0, 0] [(.t 9), (.k (.one (.pv (.int .i64 1)))), (.k (.one (.pv (.int .i64 64))))]⟩,
   ⟨none, some 11, 11, .not (.t 10)⟩,
   ⟨none, some 12, 12, .mv (.t 11)⟩,
   ⟨(some (12, false)), some 13, 13, .faddr (.t 1) 1⟩,
   ⟨(some (12, false)), some 14, 14, .load none (.t 13)⟩,
   ⟨(some (12, false)), some 15, 15, .len (.t 14)⟩,
   ⟨(some (12, false)), some 16, 16, .bin .gtr (.t 15) (.k (.one (.pv (.int .i64 40))))⟩,
   ⟨none, some 17, 17, .pick (.t 12) (.k (.one (.pv (.bool true)))) (.t 16)⟩,
   ⟨none, some 18, 18, .mv (.t 17)⟩,
   ⟨(some (18, false)), some 19, 19, .faddr (.t 1) 2⟩,
   ⟨(some (18, false)), some 20, 20, .load none (.t 19)⟩,
   ⟨(some (18, false)), some 21, 21, .call 31 [0, 0, 0] [(.t 20), (.k (.one (.pv (.int .i64 (-1))))), (.k (.one (.pv (.int .i64 1000))))]⟩,
   ⟨(some (18, false)), some 22, 22, .not (.t 21)⟩,
   ⟨none, some 23, 23, .pick (.t 18) (.k (.one (.pv (.bool true)))) (.t 22)⟩])
 (.cond 23 (.seq (.reg [⟨none, some 2, 2, .mv (.k (.one (.pv (.bool false))))⟩])
 (.ret)) (.skip)))
 (.seq (.seq (.reg [⟨none, some 24, 24, .faddr (.t 1) 0⟩,
   ⟨none, some 25, 25, .load none (.t 24)⟩,
   ⟨none, some 26, 26, .len (.t 25)⟩,
   ⟨none, some 27, 27, .mv (.k (.one (.pv (.int .i64 0))))⟩])
 (.block 0 (.loop [1, 25, 26, 27] (.seq (.reg [⟨none, some 28, 28, .bin .lss (.t 27) (.t 26)⟩])
 (.seq (.cond 28 (.skip) (.exit 0))
 (.seq (.block 1 (.seq (.reg [⟨none, some 29, 29, .iaddr 1 (.t 25) (.t 27)⟩,
   ⟨none, some 30, 30, .load none (.t 29)⟩,
   ⟨none, some 4, 4, .mv (.t 30)⟩])
 (.seq (.reg [⟨none, some 31, 31, .mv (.t 4)⟩,
   ⟨none, some 32, 32, .len (.t 31)⟩,
   ⟨none, some 33, 33, .bin .gtr (.t 32) (.k (.one (.pv (.int .i64 120))))⟩])
 (.cond 33 (.seq (.reg [⟨none, some 2, 2, .mv (.k (.one (.pv (.bool false))))⟩])
 (.ret)) (.skip)))))
 (.reg [⟨none, some 34, 34, .bin .add (.t 27) (.k (.one (.pv (.int .i64 1))))⟩,
   ⟨none, some 27, 27, .mv (.t 34)⟩])))))))
 (.norm [1] (.seq (.seq (.reg [⟨none, some 35, 35, .faddr (.t 1) 1⟩,
   ⟨none, some 36, 36, .load none (.t 35)⟩,
   ⟨none, some 37, 37, .len (.t 36)⟩,
   ⟨none, some 38, 38, .mv (.k (.one (.pv (.int .i64 0))))⟩])
 (.block 2 (.loop [1, 36, 37, 38] (.seq (.reg [⟨none, some 39, 39, .bin .lss (.t 38) (.t 37)⟩])
 (.seq (.cond 39 (.skip) (.exit 2))
 (.seq (.block 3 (.seq (.reg [⟨none, some 40, 40, .iaddr 2 (.t 36) (.t 38)⟩,
   ⟨none, some 41, 41, .load (some 2) (.t 40)⟩,
   ⟨none, some 6, 6, .alloc [.pv (.int .i64 0), .nils 1]⟩,
   ⟨none, none, 100001, .store 2 (.t 6) (.t 41)⟩])
 (.seq (.reg [⟨none, some 42, 42, .faddr (.t 6) 0⟩,
   ⟨none, some 43, 43, .load none (.t 42)⟩,
   ⟨none, some 44, 44, .faddr (.t 1) 0⟩,
   ⟨none, some 45, 45, .load none (.t 44)⟩,
   ⟨none, some 46, 46, .len (.t 45)⟩,
   ⟨none, some 47, 47, .bin .sub (.t 46) (.k (.one (.pv (.int .i64 1))))⟩,
   ⟨none, some 48, 48, .call 31 [0, 0, 0] [(.t 43), (.k (.one (.pv (.int .i64 0)))), (.t 47)]⟩,
   ⟨none, some 49, 49, .not (.t 48)⟩,
   ⟨none, some 50, 50, .mv (.t 49)⟩,
   ⟨(some (50, false)), some 51, 51, .faddr (.t 6) 1⟩,
   ⟨(some (50, false)), some 52, 52, .load none (.t 51)⟩,
   ⟨(some (50, false)), some 53, 53, .len (.t 52)⟩,
   ⟨(some (50, false)), some 54, 54, .bin .gtr (.t 53) (.k (.one (.pv (.int .i64 120))))⟩,
   ⟨none, some 55, 55, .pick (.t 50) (.k (.one (.pv (.bool true)))) (.t 54)⟩])
 (.cond 55 (.seq (.reg [⟨none, some 2, 2, .mv (.k (.one (.pv (.bool false))))⟩])
 (.ret)) (.skip)))))
 (.reg [⟨none, some 56, 56, .bin .add (.t 38) (.k (.one (.pv (.int .i64 1))))⟩,
   ⟨none, some 38, 38, .mv (.t 56)⟩])))))))
 (.norm [] (.seq (.reg [⟨none, some 2, 2, .mv (.k (.one (.pv (.bool true))))⟩])
 (.ret)))))))⟩
abbrev C_i_DevOk (Te : Nat → List AV → Res → Prop) : Prop := ∀ (d : DevV) (h : d.In (2 ^ 48)), Te 150 [.agg (d.enc false)] ⟨[.one (bT d.ok)], [d.enc false]⟩
theorem r_i_DevOk {Te : Nat → List AV → Res → Prop} (c_i_within : C_i_within Te) : ∀ (d : DevV) (h : d.In (2 ^ 48)), RunFn Te x_i_DevOk [.agg (d.enc false)] ⟨[.one (bT d.ok)], [d.enc false]⟩ := by
  intro d h
  refine ⟨by simp -implicitDefEqProofs only [x_i_DevOk, go_sem], ?_⟩
  obtain ⟨⟨hl, hS⟩, hl2, hC⟩ := h
  have ws : IntKind.i64.wrap ((d.Secs.length : Int) - 1) = (d.Secs.length : Int) - 1 := IntWalk.i64_in _ (by omega)
  simp -implicitDefEqProofs only [x_i_DevOk, go_sem, true_implies, false_implies]
  refine .of (c_i_within _ _ _) ?_
  try simp -implicitDefEqProofs only [go_sem, true_implies, false_implies]
  cases g1 : win (d.Secs.length : Int) 1 64
  · have e : d.ok = false := by simp only [DevV.ok, g1, Bool.false_and]
    try simp -implicitDefEqProofs only [go_sem, true_implies, false_implies, e]
  cases g2 : decide ((d.Cache.length : Int) > 40)
  · have g2' : decide ((d.Cache.length : Int) ≤ 40) = true := by rw [gt_le] at g2; simpa using g2
    try simp -implicitDefEqProofs only [go_sem, true_implies, false_implies, g2]
    refine .of (c_i_within _ _ _) ?_
    try simp -implicitDefEqProofs only [go_sem, true_implies, false_implies]
    cases g3 : win d.Fuse (-1) 1000
    · have e : d.ok = false := by simp only [DevV.ok, g3, Bool.and_false, Bool.false_and]
      try simp -implicitDefEqProofs only [go_sem, true_implies, false_implies, e]
    simp -implicitDefEqProofs only [go_sem, true_implies, false_implies, true_and]
    refine loop_of (σ := Nat) (fun i => ⟨[(1, .bp 1 0), (25, .one (.ro 1 (d.Secs.map (fun y => [slT false 1 uR y])))), (26, .one (.pv (.int .i64 d.Secs.length))), (27, .one (.pv (.int .i64 i)))], [(1, [.ro 1 (d.Secs.map (fun y => [slT false 1 uR y])), .ro 2 (d.Cache.map (WrV.enc false)), .pv (.int .i64 d.Fuse), .pv (.bool d.Down)])], [(0, d.enc false)]⟩) (fun i => i ≤ d.Secs.length ∧ (d.Secs.take i).all (secGood) = true) (fun i => d.Secs.length - i) 0 ?_ ⟨Nat.zero_le _, rfl⟩ ?_
    · simp -implicitDefEqProofs only [go_sem]
      try rfl
    · rintro i ⟨hi, hp⟩
      cases q : decide ((i : Int) < (d.Secs.length : Int))
      · have eS := all_end (p := secGood) (show d.Secs.length ≤ i by simp only [decide_eq_false_iff_not] at q; omega) hp
        try simp -implicitDefEqProofs only [go_sem, true_implies, false_implies, q]
        refine loop_of (σ := Nat) (fun i => ⟨[(1, .bp 1 0), (36, .one (.ro 2 (d.Cache.map (WrV.enc false)))), (37, .one (.pv (.int .i64 d.Cache.length))), (38, .one (.pv (.int .i64 i)))], [(1, [.ro 1 (d.Secs.map (fun y => [slT false 1 uR y])), .ro 2 (d.Cache.map (WrV.enc false)), .pv (.int .i64 d.Fuse), .pv (.bool d.Down)])], [(0, d.enc false)]⟩) (fun i => i ≤ d.Cache.length ∧ (d.Cache.take i).all (wrGood d.Secs.length) = true) (fun i => d.Cache.length - i) 0 ?_ ⟨Nat.zero_le _, rfl⟩ ?_
        · simp -implicitDefEqProofs only [go_sem]
          try rfl
        · rintro i ⟨hi, hp⟩
          cases q : decide ((i : Int) < (d.Cache.length : Int))
          · have eC := all_end (p := wrGood d.Secs.length) (show d.Cache.length ≤ i by simp only [decide_eq_false_iff_not] at q; omega) hp
            try simp -implicitDefEqProofs only [go_sem, true_implies, false_implies, q]
            have e : d.ok = true := by simp only [DevV.ok, g1, g2', g3, eS, eC, Bool.and_true]
            try simp -implicitDefEqProofs only [go_sem, true_implies, false_implies, e]
          · have k1 : i < d.Cache.length := by simp only [decide_eq_true_eq] at q; omega
            try simp -implicitDefEqProofs only [go_sem, true_implies, false_implies, q, List.getElem?_eq_getElem k1, ws]
            refine .of (c_i_within _ _ _) ?_
            try simp -implicitDefEqProofs only [go_sem, true_implies, false_implies]
            cases g : win d.Cache[i].N 0 ((d.Secs.length : Int) - 1)
            · have gg : wrGood d.Secs.length d.Cache[i] = false := by simp only [wrGood, g, Bool.false_and]
              have e : d.ok = false := by simp only [DevV.ok, all_not (p := wrGood d.Secs.length) k1 gg, Bool.and_false]
              try simp -implicitDefEqProofs only [go_sem, true_implies, false_implies, e]
            · cases g2 : decide ((d.Cache[i].B.length : Int) > 120)
              · try simp -implicitDefEqProofs only [go_sem, true_implies, false_implies, g2, List.getElem?_eq_getElem k1]
                exact ⟨i + 1, by rw [IntWalk.i64_in _ (by omega)]; rfl, ⟨k1, all_step (p := wrGood d.Secs.length) k1 hp (by simp only [wrGood, g, g2, Bool.not_false, Bool.and_true])⟩, by omega⟩
              · have gg : wrGood d.Secs.length d.Cache[i] = false := by simp only [wrGood, g2, Bool.not_true, Bool.and_false]
                have e : d.ok = false := by simp only [DevV.ok, all_not (p := wrGood d.Secs.length) k1 gg, Bool.and_false]
                try simp -implicitDefEqProofs only [go_sem, true_implies, false_implies, g2, List.getElem?_eq_getElem k1, e]
      · have k1 : i < d.Secs.length := by simp only [decide_eq_true_eq] at q; omega
        cases g : decide ((d.Secs[i].length : Int) > 120)
        · try simp -implicitDefEqProofs only [go_sem, true_implies, false_implies, q, List.getElem?_eq_getElem k1, g]
          exact ⟨i + 1, by rw [IntWalk.i64_in _ (by omega)]; rfl, ⟨k1, all_step (p := secGood) k1 hp (by simp only [secGood, g, Bool.not_false])⟩, by omega⟩
        · have gg : secGood d.Secs[i] = false := by simp only [secGood, g, Bool.not_true]
          have e : d.ok = false := by simp only [DevV.ok, all_not (p := secGood) k1 gg, Bool.and_false, Bool.false_and]
          try simp -implicitDefEqProofs only [go_sem, true_implies, false_implies, q, List.getElem?_eq_getElem k1, g, e]
  · have g2' : decide ((d.Cache.length : Int) ≤ 40) = false := by rw [gt_le] at g2; simpa using g2
    have e : d.ok = false := by simp only [DevV.ok, g2', Bool.and_false, Bool.false_and]
    try simp -implicitDefEqProofs only [go_sem, true_implies, false_implies, g2, e]
def x_s_DevOk : FnX := ⟨63, [.tmp 2],
  .seq (.reg [⟨none, some 1, 1, .box (.t 0)⟩,
   ⟨none, some 2, 2, .mv (.k (.one (.pv (.bool false))))⟩])
 (.seq (.seq (.reg [⟨none, some 3, 3, .mv (.k (.one (.pv (.int .i64 0))))⟩])
 (.block 0 (.loop [1, 3] (.seq (.seq (.reg [⟨none, some 5, 5, .mv (.t 3)⟩,
   ⟨none, some 6, 6, .faddr (.t 1) 0⟩,
   ⟨none, some 7, 7, .load none (.t 6)⟩,
   ⟨none, some 8, 8, .len (.t 7)⟩,
   ⟨none, some 9, 9, .bin .lss (.t 5) (.t 8)⟩])
 (.cond 9 (.skip) (.exit 0)))
 (.seq (.block 1 (.seq (.reg [⟨none, some 12, 12, .faddr (.t 1) 0⟩,
   ⟨none, some 13, 13, .load none (.t 12)⟩,
   ⟨none, some 14, 14, .mv (.t 3)⟩,
   ⟨none, some 15, 15, .iaddr 1 (.t 13) (.t 14)⟩,
   ⟨none, some 16, 16, .load none (.t 15)⟩,
   ⟨none, some 17, 17, .len (.t 16)⟩,
   ⟨none, some 18, 18, .bin .gtr (.t 17) (.k (.one (.pv (.int .i64 120))))⟩])
 (.cond 18 (.seq (.reg [⟨none, some 2, 2, .mv (.k (.one (.pv (.bool false))))⟩])
 (.ret)) (.skip))))
 (.reg [⟨none, some 10, 10, .mv (.t 3)⟩,
   ⟨none, some 11, 11, .bin .add (.t 10) (.k (.one (.pv (.int .i64 1))))⟩,
   ⟨none, some 3, 3, .mv (.t 11)⟩]))))))
 (.norm [1] (.seq (.seq (.reg [⟨none, some 4, 4, .mv (.k (.one (.pv (.int .i64 0))))⟩])
 (.block 2 (.loop [1, 4] (.seq (.seq (.reg [⟨none, some 19, 19, .mv (.t 4)⟩,
   ⟨none, some 20, 20, .faddr (.t 1) 1⟩,
   ⟨none, some 21, 21, .load none (.t 20)⟩,
   ⟨none, some 22, 22, .len (.t 21)⟩,
   ⟨none, some 23, 23, .bin .lss (.t 19) (.t 22)⟩])
 (.cond 23 (.skip) (.exit 2)))
 (.seq (.block 3 (.seq (.draw [⟨none, some 26, 26, .faddr (.t 1) 1⟩,
   ⟨none, some 27, 27, .load none (.t 26)⟩,
   ⟨none, some 28, 28, .mv (.t 4)⟩,
   ⟨none, some 29, 29, .iaddr 2 (.t 27) (.t 28)⟩,
   ⟨none, some 30, 30, .faddr (.t 29) 0⟩,
   ⟨none, some 31, 31, .load none (.t 30)⟩,
   ⟨none, some 32, 32, .faddr (.t 1) 0⟩,
   ⟨none, some 33, 33, .load none (.t 32)⟩,
   ⟨none, some 34, 34, .len (.t 33)⟩,
   ⟨none, some 35, 35, .bin .sub (.t 34) (.k (.one (.pv (.int .i64 1))))⟩,
   ⟨none, some 36, 36, .call 29 [0, 0, 0] [(.t 31), (.k (.one (.pv (.int .i64 0)))), (.t 35)]⟩,
   ⟨none, some 37, 37, .not (.t 36)⟩,
   ⟨none, some 38, 38, .mv (.t 37)⟩,
   ⟨(some (38, false)), some 39, 39, .faddr (.t 1) 1⟩,
   ⟨(some (38, false)), some 40, 40, .load none (.t 39)⟩,
   ⟨(some (38, false)), some 41, 41, .mv (.t 4)⟩,
   ⟨(some (38, false)), some 42, 42, .iaddr 2 (.t 40) (.t 41)⟩,
   ⟨(some (38, false)), some 43, 43, .faddr (.t 42) 1⟩,
   ⟨(some (38, false)), some 44, 44, .load none (.t 43)⟩,
   ⟨(some (38, false)), some 45, 45, .len (.t 44)⟩,
   ⟨(some (38, false)), some 46, 46, .bin .gtr (.t 45) (.k (.one (.pv (.int .i64 120))))⟩,
   ⟨none, some 47, 47, .pick (.t 38) (.k (.one (.pv (.bool true)))) (.t 46)⟩] [[], [0], [], [1, 2], [3], [4], [], [6], [7], [8], [5, 9], [10], [11, 10], [12], [13, 12], [12], [14, 15, 12], [16, 12], [17, 12], [18, 12], [19, 12], [12, 20]])
 (.cond 47 (.seq (.reg [⟨none, some 2, 2, .mv (.k (.one (.pv (.bool false))))⟩])
 (.ret)) (.skip))))
 (.reg [⟨none, some 24, 24, .mv (.t 4)⟩,
   ⟨none, some 25, 25, .bin .add (.t 24) (.k (.one (.pv (.int .i64 1))))⟩,
   ⟨none, some 4, 4, .mv (.t 25)⟩]))))))
 (.norm [1] (.seq (.reg [⟨none, some 48, 48, .faddr (.t 1) 0⟩,
   ⟨none, some 49, 49, .load none (.t 48)⟩,
   ⟨none, some 50, 50, .len (.t 49)⟩,
   ⟨none, some 51, 51, .call 29 [0, 0, 0] [(.t 50), (.k (.one (.pv (.int .i64 1)))), (.k (.one (.pv (.int .i64 64))))]⟩,
   ⟨none, some 52, 52, .mv (.t 51)⟩,
   ⟨(some (52, true)), some 53, 53, .faddr (.t 1) 1⟩,
   ⟨(some (52, true)), some 54, 54, .load none (.t 53)⟩,
   ⟨(some (52, true)), some 55, 55, .len (.t 54)⟩,
   ⟨(some (52, true)), some 56, 56, .bin .leq (.t 55) (.k (.one (.pv (.int .i64 40))))⟩,
   ⟨none, some 57, 57, .pick (.t 52) (.t 56) (.k (.one (.pv (.bool false))))⟩,
   ⟨none, some 58, 58, .mv (.t 57)⟩,
   ⟨(some (58, true)), some 59, 59, .faddr (.t 1) 2⟩,
   ⟨(some (58, true)), some 60, 60, .load none (.t 59)⟩,
   ⟨(some (58, true)), some 61, 61, .call 29 [0, 0, 0] [(.t 60), (.k (.one (.pv (.int .i64 (-1))))), (.k (.one (.pv (.int .i64 1000))))]⟩,
   ⟨none, some 62, 62, .pick (.t 58) (.t 61) (.k (.one (.pv (.bool false))))⟩,
   ⟨none, some 2, 2, .mv (.t 62)⟩])
 (.ret))))))⟩
abbrev C_s_DevOk (Te : Nat → List AV → Res → Prop) : Prop := ∀ (d : DevV) (h : d.In (2 ^ 48)), Te 146 [.agg (d.enc false)] ⟨[.one (bT d.ok)], [d.enc false]⟩
theorem r_s_DevOk {Te : Nat → List AV → Res → Prop} (c_s_l1In : C_s_l1In Te) : ∀ (d : DevV) (h : d.In (2 ^ 48)), RunFn Te x_s_DevOk [.agg (d.enc false)] ⟨[.one (bT d.ok)], [d.enc false]⟩ := by
  intro d h
  refine ⟨by simp -implicitDefEqProofs only [x_s_DevOk, go_sem], ?_⟩
  obtain ⟨⟨hl, hS⟩, hl2, hC⟩ := h
  have ws : IntKind.i64.wrap ((d.Secs.length : Int) - 1) = (d.Secs.length : Int) - 1 := IntWalk.i64_in _ (by omega)
  simp -implicitDefEqProofs only [x_s_DevOk, go_sem, true_implies, false_implies]
  refine loop_of (σ := Nat) (fun i => ⟨[(1, .bp 1 0), (3, .one (.pv (.int .i64 i)))], [(1, [.ro 1 (d.Secs.map (fun y => [slT false 1 uR y])), .ro 2 (d.Cache.map (WrV.enc false)), .pv (.int .i64 d.Fuse), .pv (.bool d.Down)])], [(0, d.enc false)]⟩) (fun i => i ≤ d.Secs.length ∧ (d.Secs.take i).all (secGood) = true) (fun i => d.Secs.length - i) 0 ?_ ⟨Nat.zero_le _, rfl⟩ ?_
  · simp -implicitDefEqProofs only [go_sem]
    try rfl
  · rintro i ⟨hi, hp⟩
    cases q : decide ((i : Int) < (d.Secs.length : Int))
    · have eS := all_end (p := secGood) (show d.Secs.length ≤ i by simp only [decide_eq_false_iff_not] at q; omega) hp
      try simp -implicitDefEqProofs only [go_sem, true_implies, false_implies, q]
      refine loop_of (σ := Nat) (fun i => ⟨[(1, .bp 1 0), (4, .one (.pv (.int .i64 i)))], [(1, [.ro 1 (d.Secs.map (fun y => [slT false 1 uR y])), .ro 2 (d.Cache.map (WrV.enc false)), .pv (.int .i64 d.Fuse), .pv (.bool d.Down)])], [(0, d.enc false)]⟩) (fun i => i ≤ d.Cache.length ∧ (d.Cache.take i).all (wrGood d.Secs.length) = true) (fun i => d.Cache.length - i) 0 ?_ ⟨Nat.zero_le _, rfl⟩ ?_
      · simp -implicitDefEqProofs only [go_sem]
        try rfl
      · rintro i ⟨hi, hp⟩
        cases q : decide ((i : Int) < (d.Cache.length : Int))
        · have eC := all_end (p := wrGood d.Secs.length) (show d.Cache.length ≤ i by simp only [decide_eq_false_iff_not] at q; omega) hp
          try simp -implicitDefEqProofs only [go_sem, true_implies, false_implies, q]
          refine .of (c_s_l1In _ _ _) ?_
          try simp -implicitDefEqProofs only [go_sem, true_implies, false_implies]
          cases g1 : win (d.Secs.length : Int) 1 64
          · have e : d.ok = false := by simp only [DevV.ok, g1, Bool.false_and]
            try simp -implicitDefEqProofs only [go_sem, true_implies, false_implies, e]
          try simp -implicitDefEqProofs only [go_sem, true_implies, false_implies]
          cases g2 : decide ((d.Cache.length : Int) ≤ 40)
          · have e : d.ok = false := by simp only [DevV.ok, g2, Bool.and_false, Bool.false_and]
            try simp -implicitDefEqProofs only [go_sem, true_implies, false_implies, g2, e]
          try simp -implicitDefEqProofs only [go_sem, true_implies, false_implies, g2]
          have e : d.ok = win d.Fuse (-1) 1000 := by simp only [DevV.ok, g1, g2, eS, eC, Bool.and_true, Bool.true_and]
          refine .of (c_s_l1In _ _ _) ?_
          try simp -implicitDefEqProofs only [go_sem, true_implies, false_implies, e]
        · have k1 : i < d.Cache.length := by simp only [decide_eq_true_eq] at q; omega
          try simp -implicitDefEqProofs only [go_sem, true_implies, false_implies, q, List.getElem?_eq_getElem k1, ws]
          refine .of (c_s_l1In _ _ _) ?_
          try simp -implicitDefEqProofs only [go_sem, true_implies, false_implies]
          cases g : win d.Cache[i].N 0 ((d.Secs.length : Int) - 1)
          · have gg : wrGood d.Secs.length d.Cache[i] = false := by simp only [wrGood, g, Bool.false_and]
            have e : d.ok = false := by simp only [DevV.ok, all_not (p := wrGood d.Secs.length) k1 gg, Bool.and_false]
            try simp -implicitDefEqProofs only [go_sem, true_implies, false_implies, e]
            try (decide)
          · cases g2 : decide ((d.Cache[i].B.length : Int) > 120)
            · try simp -implicitDefEqProofs only [go_sem, true_implies, false_implies, g2, List.getElem?_eq_getElem k1]
              repeat (refine ⟨rfl, ?_⟩)
              exact ⟨i + 1, by rw [IntWalk.i64_in _ (by omega)]; rfl, ⟨k1, all_step (p := wrGood d.Secs.length) k1 hp (by simp only [wrGood, g, g2, Bool.not_false, Bool.and_true])⟩, by omega⟩
            · have gg : wrGood d.Secs.length d.Cache[i] = false := by simp only [wrGood, g2, Bool.not_true, Bool.and_false]
              have e : d.ok = false := by simp only [DevV.ok, all_not (p := wrGood d.Secs.length) k1 gg, Bool.and_false]
              try simp -implicitDefEqProofs only [go_sem, true_implies, false_implies, g2, List.getElem?_eq_getElem k1, e]
              try (decide)
    · have k1 : i < d.Secs.length := by simp only [decide_eq_true_eq] at q; omega
      cases g : decide ((d.Secs[i].length : Int) > 120)
      · try simp -implicitDefEqProofs only [go_sem, true_implies, false_implies, q, List.getElem?_eq_getElem k1, g]
        exact ⟨i + 1, by rw [IntWalk.i64_in _ (by omega)]; rfl, ⟨k1, all_step (p := secGood) k1 hp (by simp only [secGood, g, Bool.not_false])⟩, by omega⟩
      · have gg : secGood d.Secs[i] = false := by simp only [secGood, g, Bool.not_true]
        have e : d.ok = false := by simp only [DevV.ok, all_not (p := secGood) k1 gg, Bool.and_false, Bool.false_and]
        try simp -implicitDefEqProofs only [go_sem, true_implies, false_implies, q, List.getElem?_eq_getElem k1, g, e]
def StoreV.ok (s : StoreV) : Bool := s.D.ok && ((s.D.Secs.length : Int) == 62) && (((s.D.Cache.length : Int) == 0) || s.D.Down) && s.T.ok && win s.Gen 1 60000 && win s.Place 0 30
def x_i_StoreOk : FnX := ⟨40, [.tmp 2],
  .seq (.reg [⟨none, some 1, 1, .box (.t 0)⟩,
   ⟨none, some 2, 2, .mv (.k (.one (.pv (.bool false))))⟩])
 (.seq (.reg [⟨none, some 3, 3, .faddr (.t 1) 0⟩,
   ⟨none, some 4, 4, .load (some 4) (.t 3)⟩,
   ⟨none, some 5, 5, .call 150 [0] [(.t 4)]⟩,
   ⟨none, some 6, 6, .mv (.t 5)⟩,
   ⟨(some (6, true)), some 7, 7, .faddr (.t 1) 0⟩,
   ⟨(some (6, true)), some 8, 8, .faddr (.t 7) 0⟩,
   ⟨(some (6, true)), some 9, 9, .load none (.t 8)⟩,
   ⟨(some (6, true)), some 10, 10, .len (.t 9)⟩,
   ⟨(some (6, true)), some 11, 11, .bin .eql (.t 10) (.k (.one (.pv (.int .i64 62))))⟩,
   ⟨none, some 12, 12, .pick (.t 6) (.t 11) (.k (.one (.pv (.bool false))))⟩,
   ⟨none, some 13, 13, .mv (.t 12)⟩,
   ⟨(some (13, true)), some 14, 14, .faddr (.t 1) 0⟩,
   ⟨(some (13, true)), some 15, 15, .faddr (.t 14) 1⟩,
   ⟨(some (13, true)), some 16, 16, .load none (.t 15)⟩,
   ⟨(some (13, true)), some 17, 17, .len (.t 16)⟩,
   ⟨(some (13, true)), some 18, 18, .bin .eql (.t 17) (.k (.one (.pv (.int .i64 0))))⟩,
   ⟨(some (13, true)), some 19, 19, .mv (.t 18)⟩,
   ⟨(some (19, false)), some 20, 20, .faddr (.t 1) 0⟩,
   ⟨(some (19, false)), some 21, 21, .faddr (.t 20) 3⟩,
   ⟨(some (19, false)), some 22, 22, .load none (.t 21)⟩,
   ⟨(some (13, true)), some 23, 23, .pick (.t 19) (.k (.one (.pv (.bool true)))) (.t 22)⟩,
   ⟨none, some 24, 24, .pick (.t 13) (.t 23) (.k (.one (.pv (.bool false))))⟩,
   ⟨none, some 25, 25, .mv (.t 24)⟩,
   ⟨(some (25, true)), some 26, 26, .faddr (.t 1) 4⟩,
   ⟨(some (25, true)), some 27, 27, .load (some 3) (.t 26)⟩,
   ⟨(some (25, true)), some 28, 28, .call 151 [0] [(.t 27)]⟩,
   ⟨none, some 29, 29, .pick (.t 25) (.t 28) (.k (.one (.pv (.bool false))))⟩,
   ⟨none, some 30, 30, .mv (.t 29)⟩,
   ⟨(some (30, true)), some 31, 31, .faddr (.t 1) 7⟩,
   ⟨(some (30, true)), some 32, 32, .load none (.t 31)⟩,
   ⟨(some (30, true)), some 33, 33, .call 31 [0, 0, 0] [(.t 32), (.k (.one (.pv (.int .i64 1)))), (.k (.one (.pv (.int .i64 60000))))]⟩,
   ⟨none, some 34, 34, .pick (.t 30) (.t 33) (.k (.one (.pv (.bool false))))⟩,
   ⟨none, some 35, 35, .mv (.t 34)⟩,
   ⟨(some (35, true)), some 36, 36, .faddr (.t 1) 8⟩,
   ⟨(some (35, true)), some 37, 37, .load none (.t 36)⟩,
   ⟨(some (35, true)), some 38, 38, .call 31 [0, 0, 0] [(.t 37), (.k (.one (.pv (.int .i64 0)))), (.k (.one (.pv (.int .i64 30))))]⟩,
   ⟨none, some 39, 39, .pick (.t 35) (.t 38) (.k (.one (.pv (.bool false))))⟩,
   ⟨none, some 2, 2, .mv (.t 39)⟩])
 (.ret))⟩
abbrev C_i_StoreOk (Te : Nat → List AV → Res → Prop) : Prop := ∀ (s : StoreV) (h : s.In (2 ^ 48)), Te 99 [.agg (s.enc false)] ⟨[.one (bT s.ok)], [s.enc false]⟩
theorem r_i_StoreOk {Te : Nat → List AV → Res → Prop} (c_i_DevOk : C_i_DevOk Te) (c_i_TabOk : C_i_TabOk Te) (c_i_within : C_i_within Te) : ∀ (s : StoreV) (h : s.In (2 ^ 48)), RunFn Te x_i_StoreOk [.agg (s.enc false)] ⟨[.one (bT s.ok)], [s.enc false]⟩ := by
  intro s h
  refine ⟨by simp -implicitDefEqProofs only [x_i_StoreOk, go_sem], ?_⟩
  obtain ⟨hD, hT⟩ := h
  obtain ⟨⟨secs, cache, fuse, down⟩, T, gen, place⟩ := s
  cases down
  · skip
    simp -implicitDefEqProofs only [x_i_StoreOk, go_sem, true_implies, false_implies]
    refine .of (c_i_DevOk ⟨secs, cache, fuse, false⟩ hD) ?_
    try simp -implicitDefEqProofs only [go_sem, true_implies, false_implies]
    cases g1 : DevV.ok ⟨secs, cache, fuse, false⟩
    · have e : (StoreV.mk ⟨secs, cache, fuse, false⟩ T gen place).ok = false := by simp only [StoreV.ok, g1, Bool.false_and]
      try simp -implicitDefEqProofs only [go_sem, true_implies, false_implies, e]
    cases g2 : ((secs.length : Int) == 62)
    · have e : (StoreV.mk ⟨secs, cache, fuse, false⟩ T gen place).ok = false := by simp only [StoreV.ok, g2, Bool.and_false, Bool.false_and]
      try simp -implicitDefEqProofs only [go_sem, true_implies, false_implies, g2, e]
    cases g0 : ((cache.length : Int) == 0)
    · have e : (StoreV.mk ⟨secs, cache, fuse, false⟩ T gen place).ok = false := by simp only [StoreV.ok, g0, Bool.or_self, Bool.and_false, Bool.false_and]
      try simp -implicitDefEqProofs only [go_sem, true_implies, false_implies, g2, g0, e]
    try simp -implicitDefEqProofs only [go_sem, true_implies, false_implies, g2, g0]
    refine .of (c_i_TabOk T hT) ?_
    try simp -implicitDefEqProofs only [go_sem, true_implies, false_implies]
    cases g4 : T.ok
    · have e : (StoreV.mk ⟨secs, cache, fuse, false⟩ T gen place).ok = false := by simp only [StoreV.ok, g4, Bool.and_false, Bool.false_and]
      try simp -implicitDefEqProofs only [go_sem, true_implies, false_implies, e]
    try simp -implicitDefEqProofs only [go_sem, true_implies, false_implies]
    refine .of (c_i_within _ _ _) ?_
    try simp -implicitDefEqProofs only [go_sem, true_implies, false_implies]
    cases g5 : win gen 1 60000
    · have e : (StoreV.mk ⟨secs, cache, fuse, false⟩ T gen place).ok = false := by simp only [StoreV.ok, g5, Bool.and_false, Bool.false_and]
      try simp -implicitDefEqProofs only [go_sem, true_implies, false_implies, e]
    try simp -implicitDefEqProofs only [go_sem, true_implies, false_implies]
    have e : (StoreV.mk ⟨secs, cache, fuse, false⟩ T gen place).ok = win place 0 30 := by simp only [StoreV.ok, g1, g2, g0, g4, g5, Bool.and_true, Bool.true_and, Bool.or_true, Bool.true_or]
    refine .of (c_i_within _ _ _) ?_
    try simp -implicitDefEqProofs only [go_sem, true_implies, false_implies, e]
  · skip
    simp -implicitDefEqProofs only [x_i_StoreOk, go_sem, true_implies, false_implies]
    refine .of (c_i_DevOk ⟨secs, cache, fuse, true⟩ hD) ?_
    try simp -implicitDefEqProofs only [go_sem, true_implies, false_implies]
    cases g1 : DevV.ok ⟨secs, cache, fuse, true⟩
    · have e : (StoreV.mk ⟨secs, cache, fuse, true⟩ T gen place).ok = false := by simp only [StoreV.ok, g1, Bool.false_and]
      try simp -implicitDefEqProofs only [go_sem, true_implies, false_implies, e]
    cases g2 : ((secs.length : Int) == 62)
    · have e : (StoreV.mk ⟨secs, cache, fuse, true⟩ T gen place).ok = false := by simp only [StoreV.ok, g2, Bool.and_false, Bool.false_and]
      try simp -implicitDefEqProofs only [go_sem, true_implies, false_implies, g2, e]
    cases g0 : ((cache.length : Int) == 0)
    · try simp -implicitDefEqProofs only [go_sem, true_implies, false_implies, g2, g0]
      refine .of (c_i_TabOk T hT) ?_
      try simp -implicitDefEqProofs only [go_sem, true_implies, false_implies]
      cases g4 : T.ok
      · have e : (StoreV.mk ⟨secs, cache, fuse, true⟩ T gen place).ok = false := by simp only [StoreV.ok, g4, Bool.and_false, Bool.false_and]
        try simp -implicitDefEqProofs only [go_sem, true_implies, false_implies, e]
      try simp -implicitDefEqProofs only [go_sem, true_implies, false_implies]
      refine .of (c_i_within _ _ _) ?_
      try simp -implicitDefEqProofs only [go_sem, true_implies, false_implies]
      cases g5 : win gen 1 60000
      · have e : (StoreV.mk ⟨secs, cache, fuse, true⟩ T gen place).ok = false := by simp only [StoreV.ok, g5, Bool.and_false, Bool.false_and]
        try simp -implicitDefEqProofs only [go_sem, true_implies, false_implies, e]
      try simp -implicitDefEqProofs only [go_sem, true_implies, false_implies]
      have e : (StoreV.mk ⟨secs, cache, fuse, true⟩ T gen place).ok = win place 0 30 := by simp only [StoreV.ok, g1, g2, g0, g4, g5, Bool.and_true, Bool.true_and, Bool.or_true, Bool.true_or]
      refine .of (c_i_within _ _ _) ?_
      try simp -implicitDefEqProofs only [go_sem, true_implies, false_implies, e]
    · try simp -implicitDefEqProofs only [go_sem, true_implies, false_implies, g2, g0]
      refine .of (c_i_TabOk T hT) ?_
      try simp -implicitDefEqProofs only [go_sem, true_implies, false_implies]
      cases g4 : T.ok
      · have e : (StoreV.mk ⟨secs, cache, fuse, true⟩ T gen place).ok = false := by simp only [StoreV.ok, g4, Bool.and_false, Bool.false_and]
        try simp -implicitDefEqProofs only [go_sem, true_implies, false_implies, e]
      try simp -implicitDefEqProofs only [go_sem, true_implies, false_implies]
      refine .of (c_i_within _ _ _) ?_
      try simp -implicitDefEqProofs only [go_sem, true_implies, false_implies]
      cases g5 : win gen 1 60000
      · have e : (StoreV.mk ⟨secs, cache, fuse, true⟩ T gen place).ok = false := by simp only [StoreV.ok, g5, Bool.and_false, Bool.false_and]
        try simp -implicitDefEqProofs only [go_sem, true_implies, false_implies, e]
      try simp -implicitDefEqProofs only [go_sem, true_implies, false_implies]
      have e : (StoreV.mk ⟨secs, cache, fuse, true⟩ T gen place).ok = win place 0 30 := by simp only [StoreV.ok, g1, g2, g0, g4, g5, Bool.and_true, Bool.true_and, Bool.or_true, Bool.true_or]
      refine .of (c_i_within _ _ _) ?_
      try simp -implicitDefEqProofs only [go_sem, true_implies, false_implies, e]
def x_s_StoreOk : FnX := ⟨40, [.tmp 2],
  .seq (.reg [⟨none, some 1, 1, .box (.t 0)⟩,
   ⟨none, some 2, 2, .mv (.k (.one (.pv (.bool false))))⟩])
 (.seq (.reg [⟨none, some 3, 3, .faddr (.t 1) 0⟩,
   ⟨none, some 4, 4, .load (some 4) (.t 3)⟩,
   ⟨none, some 5, 5, .call 146 [0] [(.t 4)]⟩,
   ⟨none, some 6, 6, .mv (.t 5)⟩,
   ⟨(some (6, true)), some 7, 7, .faddr (.t 1) 0⟩,
   ⟨(some (6, true)), some 8, 8, .faddr (.t 7) 0⟩,
   ⟨(some (6, true)), some 9, 9, .load none (.t 8)⟩,
   ⟨(some (6, true)), some 10, 10, .len (.t 9)⟩,
   ⟨(some (6, true)), some 11, 11, .bin .eql (.t 10) (.k (.one (.pv (.int .i64 62))))⟩,
   ⟨none, some 12, 12, .pick (.t 6) (.t 11) (.k (.one (.pv (.bool false))))⟩,
   ⟨none, some 13, 13, .mv (.t 12)⟩,
   ⟨(some (13, true)), some 14, 14, .faddr (.t 1) 0⟩,
   ⟨(some (13, true)), some 15, 15, .faddr (.t 14) 3⟩,
   ⟨(some (13, true)), some 16, 16, .load none (.t 15)⟩,
   ⟨(some (13, true)), some 17, 17, .mv (.t 16)⟩,
   ⟨(some (17, false)), some 18, 18, .faddr (.t 1) 0⟩,
   ⟨(some (17, false)), some 19, 19, .faddr (.t 18) 1⟩,
   ⟨(some (17, false)), some 20, 20, .load none (.t 19)⟩,
   ⟨(some (17, false)), some 21, 21, .len (.t 20)⟩,
   ⟨(some (17, false)), some 22, 22, .bin .eql (.t 21) (.k (.one (.pv (.int .i64 0))))⟩,
   ⟨(some (13, true)), some 23, 23, .pick (.t 17) (.k (.one (.pv (.bool true)))) (.t 22)⟩,
   ⟨none, some 24, 24, .pick (.t 13) (.t 23) (.k (.one (.pv (.bool false))))⟩,
   ⟨none, some 25, 25, .mv (.t 24)⟩,
   ⟨(some (25, true)), some 26, 26, .faddr (.t 1) 4⟩,
   ⟨(some (25, true)), some 27, 27, .load (some 3) (.t 26)⟩,
   ⟨(some (25, true)), some 28, 28, .call 147 [0] [(.t 27)]⟩,
   ⟨none, some 29, 29, .pick (.t 25) (.t 28) (.k (.one (.pv (.bool false))))⟩,
   ⟨none, some 30, 30, .mv (.t 29)⟩,
   ⟨(some (30, true)), some 31, 31, .faddr (.t 1) 7⟩,
   ⟨(some (30, true)), some 32, 32, .load none (.t 31)⟩,
   ⟨(some (30, true)), some 33, 33, .call 29 [0, 0, 0] [(.t 32), (.k (.one (.pv (.int .i64 1)))), (.k (.one (.pv (.int .i64 60000))))]⟩,
   ⟨none, some 34, 34, .pick (.t 30) (.t 33) (.k (.one (.pv (.bool false))))⟩,
   ⟨none, some 35, 35, .mv (.t 34)⟩,
   ⟨(some (35, true)), some 36, 36, .faddr (.t 1) 8⟩,
   ⟨(some (35, true)), some 37, 37, .load none (.t 36)⟩,
   ⟨(some (35, true)), some 38, 38, .call 29 [0, 0, 0] [(.t 37), (.k (.one (.pv (.int .i64 0)))), (.k (.one (.pv (.int .i64 30))))]⟩,
   ⟨none, some 39, 39, .pick (.t 35) (.t 38) (.k (.one (.pv (.bool false))))⟩,
   ⟨none, some 2, 2, .mv (.t 39)⟩])
 (.ret))⟩
abbrev C_s_StoreOk (Te : Nat → List AV → Res → Prop) : Prop := ∀ (s : StoreV) (h : s.In (2 ^ 48)), Te 90 [.agg (s.enc false)] ⟨[.one (bT s.ok)], [s.enc false]⟩
theorem r_s_StoreOk {Te : Nat → List AV → Res → Prop} (c_s_DevOk : C_s_DevOk Te) (c_s_TabOk : C_s_TabOk Te) (c_s_l1In : C_s_l1In Te) : ∀ (s : StoreV) (h : s.In (2 ^ 48)), RunFn Te x_s_StoreOk [.agg (s.enc false)] ⟨[.one (bT s.ok)], [s.enc false]⟩ := by
  intro s h
  refine ⟨by simp -implicitDefEqProofs only [x_s_StoreOk, go_sem], ?_⟩
  obtain ⟨hD, hT⟩ := h
  obtain ⟨⟨secs, cache, fuse, down⟩, T, gen, place⟩ := s
  cases down
  · skip
    simp -implicitDefEqProofs only [x_s_StoreOk, go_sem, true_implies, false_implies]
    refine .of (c_s_DevOk ⟨secs, cache, fuse, false⟩ hD) ?_
    try simp -implicitDefEqProofs only [go_sem, true_implies, false_implies]
    cases g1 : DevV.ok ⟨secs, cache, fuse, false⟩
    · have e : (StoreV.mk ⟨secs, cache, fuse, false⟩ T gen place).ok = false := by simp only [StoreV.ok, g1, Bool.false_and]
      try simp -implicitDefEqProofs only [go_sem, true_implies, false_implies, e]
    cases g2 : ((secs.length : Int) == 62)
    · have e : (StoreV.mk ⟨secs, cache, fuse, false⟩ T gen place).ok = false := by simp only [StoreV.ok, g2, Bool.and_false, Bool.false_and]
      try simp -implicitDefEqProofs only [go_sem, true_implies, false_implies, g2, e]
    cases g0 : ((cache.length : Int) == 0)
    · have e : (StoreV.mk ⟨secs, cache, fuse, false⟩ T gen place).ok = false := by simp only [StoreV.ok, g0, Bool.or_self, Bool.and_false, Bool.false_and]
      try simp -implicitDefEqProofs only [go_sem, true_implies, false_implies, g2, g0, e]
    try simp -implicitDefEqProofs only [go_sem, true_implies, false_implies, g2, g0]
    refine .of (c_s_TabOk T hT) ?_
    try simp -implicitDefEqProofs only [go_sem, true_implies, false_implies]
    cases g4 : T.ok
    · have e : (StoreV.mk ⟨secs, cache, fuse, false⟩ T gen place).ok = false := by simp only [StoreV.ok, g4, Bool.and_false, Bool.false_and]
      try simp -implicitDefEqProofs only [go_sem, true_implies, false_implies, e]
    try simp -implicitDefEqProofs only [go_sem, true_implies, false_implies]
    refine .of (c_s_l1In _ _ _) ?_
    try simp -implicitDefEqProofs only [go_sem, true_implies, false_implies]
    cases g5 : win gen 1 60000
    · have e : (StoreV.mk ⟨secs, cache, fuse, false⟩ T gen place).ok = false := by simp only [StoreV.ok, g5, Bool.and_false, Bool.false_and]
      try simp -implicitDefEqProofs only [go_sem, true_implies, false_implies, e]
    try simp -implicitDefEqProofs only [go_sem, true_implies, false_implies]
    have e : (StoreV.mk ⟨secs, cache, fuse, false⟩ T gen place).ok = win place 0 30 := by simp only [StoreV.ok, g1, g2, g0, g4, g5, Bool.and_true, Bool.true_and, Bool.or_true, Bool.true_or]
    refine .of (c_s_l1In _ _ _) ?_
    try simp -implicitDefEqProofs only [go_sem, true_implies, false_implies, e]
  · skip
    simp -implicitDefEqProofs only [x_s_StoreOk, go_sem, true_implies, false_implies]
    refine .of (c_s_DevOk ⟨secs, cache, fuse, true⟩ hD) ?_
    try simp -implicitDefEqProofs only [go_sem, true_implies, false_implies]
    cases g1 : DevV.ok ⟨secs, cache, fuse, true⟩
    · have e : (StoreV.mk ⟨secs, cache, fuse, true⟩ T gen place).ok = false := by simp only [StoreV.ok, g1, Bool.false_and]
      try simp -implicitDefEqProofs only [go_sem, true_implies, false_implies, e]
    cases g2 : ((secs.length : Int) == 62)
    · have e : (StoreV.mk ⟨secs, cache, fuse, true⟩ T gen place).ok = false := by simp only [StoreV.ok, g2, Bool.and_false, Bool.false_and]
      try simp -implicitDefEqProofs only [go_sem, true_implies, false_implies, g2, e]
    try simp -implicitDefEqProofs only [go_sem, true_implies, false_implies, g2]
    refine .of (c_s_TabOk T hT) ?_
    try simp -implicitDefEqProofs only [go_sem, true_implies, false_implies]
    cases g4 : T.ok
    · have e : (StoreV.mk ⟨secs, cache, fuse, true⟩ T gen place).ok = false := by simp only [StoreV.ok, g4, Bool.and_false, Bool.false_and]
      try simp -implicitDefEqProofs only [go_sem, true_implies, false_implies, e]
    try simp -implicitDefEqProofs only [go_sem, true_implies, false_implies]
    refine .of (c_s_l1In _ _ _) ?_
    try simp -implicitDefEqProofs only [go_sem, true_implies, false_implies]
    cases g5 : win gen 1 60000
    · have e : (StoreV.mk ⟨secs, cache, fuse, true⟩ T gen place).ok = false := by simp only [StoreV.ok, g5, Bool.and_false, Bool.false_and]
      try simp -implicitDefEqProofs only [go_sem, true_implies, false_implies, e]
    try simp -implicitDefEqProofs only [go_sem, true_implies, false_implies]
    have e : (StoreV.mk ⟨secs, cache, fuse, true⟩ T gen place).ok = win place 0 30 := by simp only [StoreV.ok, g1, g2, g4, g5, Bool.and_true, Bool.true_and, Bool.or_true, Bool.true_or]
    refine .of (c_s_l1In _ _ _) ?_
    try simp -implicitDefEqProofs only [go_sem, true_implies, false_implies, e]
def NodeV.ok (n : NodeV) : Bool := n.S.ok && win n.Cs 1 5
def x_i_NodeOk : FnX := ⟨11, [.tmp 2],
  .seq (.reg [⟨none, some 1, 1, .box (.t 0)⟩,
   ⟨none, some 2, 2, .mv (.k (.one (.pv (.bool false))))⟩])
 (.seq (.reg [⟨none, some 3, 3, .faddr (.t 1) 0⟩,
   ⟨none, some 4, 4, .load (some 9) (.t 3)⟩,
   ⟨none, some 5, 5, .call 99 [0] [(.t 4)]⟩,
   ⟨none, some 6, 6, .mv (.t 5)⟩,
   ⟨(some (6, true)), some 7, 7, .faddr (.t 1) 9⟩,
   ⟨(some (6, true)), some 8, 8, .load none (.t 7)⟩,
   ⟨(some (6, true)), some 9, 9, .call 31 [0, 0, 0] [(.t 8), (.k (.one (.pv (.int .i64 1)))), (.k (.one (.pv (.int .i64 5))))]⟩,
   ⟨none, some 10, 10, .pick (.t 6) (.t 9) (.k (.one (.pv (.bool false))))⟩,
   ⟨none, some 2, 2, .mv (.t 10)⟩])
 (.ret))⟩
abbrev C_i_NodeOk (Te : Nat → List AV → Res → Prop) : Prop := ∀ (n : NodeV) (h : n.In (2 ^ 48)), Te 54 [.agg (n.enc false)] ⟨[.one (bT n.ok)], [n.enc false]⟩
theorem r_i_NodeOk {Te : Nat → List AV → Res → Prop} (c_i_StoreOk : C_i_StoreOk Te) (c_i_within : C_i_within Te) : ∀ (n : NodeV) (h : n.In (2 ^ 48)), RunFn Te x_i_NodeOk [.agg (n.enc false)] ⟨[.one (bT n.ok)], [n.enc false]⟩ := by
  intro n h
  refine ⟨by simp -implicitDefEqProofs only [x_i_NodeOk, go_sem], ?_⟩
  simp -implicitDefEqProofs only [x_i_NodeOk, go_sem, true_implies, false_implies, NodeV.ok]
  refine .of (c_i_StoreOk n.S h) ?_
  try simp -implicitDefEqProofs only [go_sem, true_implies, false_implies]
  cases g1 : n.S.ok
  · try simp -implicitDefEqProofs only [go_sem, true_implies, false_implies]
  · try simp -implicitDefEqProofs only [go_sem, true_implies, false_implies]
    refine .of (c_i_within _ _ _) ?_
    try simp -implicitDefEqProofs only [go_sem, true_implies, false_implies]
def x_s_NodeOk : FnX := ⟨11, [.tmp 2],
  .seq (.reg [⟨none, some 1, 1, .box (.t 0)⟩,
   ⟨none, some 2, 2, .mv (.k (.one (.pv (.bool false))))⟩])
 (.seq (.reg [⟨none, some 3, 3, .faddr (.t 1) 0⟩,
   ⟨none, some 4, 4, .load (some 9) (.t 3)⟩,
   ⟨none, some 5, 5, .call 90 [0] [(.t 4)]⟩,
   ⟨none, some 6, 6, .mv (.t 5)⟩,
   ⟨(some (6, true)), some 7, 7, .faddr (.t 1) 9⟩,
   ⟨(some (6, true)), some 8, 8, .load none (.t 7)⟩,
   ⟨(some (6, true)), some 9, 9, .call 29 [0, 0, 0] [(.t 8), (.k (.one (.pv (.int .i64 1)))), (.k (.one (.pv (.int .i64 5))))]⟩,
   ⟨none, some 10, 10, .pick (.t 6) (.t 9) (.k (.one (.pv (.bool false))))⟩,
   ⟨none, some 2, 2, .mv (.t 10)⟩])
 (.ret))⟩
abbrev C_s_NodeOk (Te : Nat → List AV → Res → Prop) : Prop := ∀ (n : NodeV) (h : n.In (2 ^ 48)), Te 44 [.agg (n.enc false)] ⟨[.one (bT n.ok)], [n.enc false]⟩
theorem r_s_NodeOk {Te : Nat → List AV → Res → Prop} (c_s_StoreOk : C_s_StoreOk Te) (c_s_l1In : C_s_l1In Te) : ∀ (n : NodeV) (h : n.In (2 ^ 48)), RunFn Te x_s_NodeOk [.agg (n.enc false)] ⟨[.one (bT n.ok)], [n.enc false]⟩ := by
  intro n h
  refine ⟨by simp -implicitDefEqProofs only [x_s_NodeOk, go_sem], ?_⟩
  simp -implicitDefEqProofs only [x_s_NodeOk, go_sem, true_implies, false_implies, NodeV.ok]
  refine .of (c_s_StoreOk n.S h) ?_
  try simp -implicitDefEqProofs only [go_sem, true_implies, false_implies]
  cases g1 : n.S.ok
  · try simp -implicitDefEqProofs only [go_sem, true_implies, false_implies]
  · try simp -implicitDefEqProofs only [go_sem, true_implies, false_implies]
    refine .of (c_s_l1In _ _ _) ?_
    try simp -implicitDefEqProofs only [go_sem, true_implies, false_implies]
end Go.X

/- Vh -/
namespace Go.X
set_option maxRecDepth 100000
set_option maxHeartbeats 8000000
def ActV.ok (a : ActV) : Bool := win a.Kind 1 3 && win a.Who 0 9 && win a.Seq 0 65535 && !decide ((a.Key.size : Int) > 60) && !decide ((a.Text.size : Int) > 60) && win a.Code 0 6
theorem wf0 : ((0 : Nat) : Int) = 0 := rfl
theorem wf1 : ((1 : Nat) : Int) = 1 := rfl
theorem wf2 : IntKind.i64.wrap (0 + 1) = 1 := rfl
theorem wf3 : IntKind.i64.wrap (1 + 1) = 2 := rfl
theorem g20 {α : Type} (x y : α) : [x, y][0]? = some x := rfl
theorem g21 {α : Type} (x y : α) : [x, y][1]? = some y := rfl
theorem gt_not (n : Nat) (m : Int) : decide ((n : Int) ≤ m) = !decide ((n : Int) > m) := by
  by_cases h : (n : Int) ≤ m
  · rw [decide_eq_true h, decide_eq_false (by omega)]; rfl
  · rw [decide_eq_false h, decide_eq_true (by omega)]; rfl
def pairOk (i : Int) (n : NodeV) (c : ClientV) (m : List ActV) : Bool := n.ok && c.ok && !(c.Id != i) && !decide ((m.length : Int) > 1) && m.all ActV.ok
def WorldV.ok (w : WorldV) : Bool := w.L.ok && netOk w.Net && !decide ((w.Log.length : Int) > 200) && w.Log.all ActV.ok && (match w.Nodes, w.Clients, w.Maybe with
  | [n0, n1], [c0, c1], [m0, m1] => pairOk 1 n0 c0 m0 && pairOk 2 n1 c1 m1 && (n0.Cs == n1.Cs)
  | _, _, _ => false)
theorem world_ok (L : Lead) (n0 n1 : NodeV) (c0 c1 : ClientV) (Net : List Msg) (Log m0 m1 : List ActV) : (WorldV.mk L [n0, n1] [c0, c1] Net Log [m0, m1]).ok = (L.ok && netOk Net && !decide ((Log.length : Int) > 200) && Log.all ActV.ok && (pairOk 1 n0 c0 m0 && pairOk 2 n1 c1 m1 && (n0.Cs == n1.Cs))) := rfl
theorem two_of {α : Type} {l : List α} (h : ((l.length : Int) != 2) = false) : ∃ x y, l = [x, y] := by
  have h2 : (l.length : Int) = 2 := by simpa using h
  match l, h2 with
  | [x, y], _ => exact ⟨x, y, rfl⟩
  | [], h => simp at h
  | [_], h => simp at h
  | _ :: _ :: _ :: _, h => simp at h; omega
theorem world_lens {w : WorldV} (h : ((w.Nodes.length : Int) != 2) = true ∨ ((w.Clients.length : Int) != 2) = true ∨ ((w.Maybe.length : Int) != 2) = true) : w.ok = false := by
  obtain ⟨L, N, C, Net, Log, M⟩ := w
  simp only [WorldV.ok]
  split
  · rcases h with h | h | h <;> cases h
  · rw [Bool.and_false]
theorem world_lead {w : WorldV} (h : w.L.ok = false) : w.ok = false := by simp only [WorldV.ok, h, Bool.false_and]
theorem world_net {w : WorldV} (h : netOk w.Net = false) : w.ok = false := by simp only [WorldV.ok, h, Bool.and_false, Bool.false_and]
theorem world_log {w : WorldV} (h : decide ((w.Log.length : Int) > 200) = true) : w.ok = false := by simp only [WorldV.ok, h, Bool.not_true, Bool.and_false, Bool.false_and]
theorem world_acts {w : WorldV} (h : w.Log.all ActV.ok = false) : w.ok = false := by simp only [WorldV.ok, h, Bool.and_false, Bool.false_and]
def x_s_l21Act : FnX := ⟨33, [.tmp 2],
  .seq (.reg [⟨none, some 1, 1, .box (.t 0)⟩,
   ⟨none, some 2, 2, .mv (.k (.one (.pv (.bool false))))⟩])
 (.seq (.reg [⟨none, some 3, 3, .faddr (.t 1) 0⟩,
   ⟨none, some 4, 4, .load none (.t 3)⟩,
   ⟨none, some 5, 5, .call 29 [0, 0, 0] [(.t 4), (.k (.one (.pv (.int .i64 1)))), (.k (.one (.pv (.int .i64 3))))]⟩,
   ⟨none, some 6, 6, .mv (.t 5)⟩,
   ⟨(some (6, true)), some 7, 7, .faddr (.t 1) 1⟩,
   ⟨(some (6, true)), some 8, 8, .load none (.t 7)⟩,
   ⟨(some (6, true)), some 9, 9, .call 29 [0, 0, 0] [(.t 8), (.k (.one (.pv (.int .i64 0)))), (.k (.one (.pv (.int .i64 9))))]⟩,
   ⟨none, some 10, 10, .pick (.t 6) (.t 9) (.k (.one (.pv (.bool false))))⟩,
   ⟨none, some 11, 11, .mv (.t 10)⟩,
   ⟨(some (11, true)), some 12, 12, .faddr (.t 1) 2⟩,
   ⟨(some (11, true)), some 13, 13, .load none (.t 12)⟩,
   ⟨(some (11, true)), some 14, 14, .call 145 [0] [(.t 13)]⟩,
   ⟨none, some 15, 15, .pick (.t 11) (.t 14) (.k (.one (.pv (.bool false))))⟩,
   ⟨none, some 16, 16, .mv (.t 15)⟩,
   ⟨(some (16, true)), some 17, 17, .faddr (.t 1) 3⟩,
   ⟨(some (16, true)), some 18, 18, .load none (.t 17)⟩,
   ⟨(some (16, true)), some 19, 19, .slen (.t 18)⟩,
   ⟨(some (16, true)), some 20, 20, .bin .leq (.t 19) (.k (.one (.pv (.int .i64 60))))⟩,
   ⟨none, some 21, 21, .pick (.t 16) (.t 20) (.k (.one (.pv (.bool false))))⟩,
   ⟨none, some 22, 22, .mv (.t 21)⟩,
   ⟨(some (22, true)), some 23, 23, .faddr (.t 1) 4⟩,
   ⟨(some (22, true)), some 24, 24, .load none (.t 23)⟩,
   ⟨(some (22, true)), some 25, 25, .slen (.t 24)⟩,
   ⟨(some (22, true)), some 26, 26, .bin .leq (.t 25) (.k (.one (.pv (.int .i64 60))))⟩,
   ⟨none, some 27, 27, .pick (.t 22) (.t 26) (.k (.one (.pv (.bool false))))⟩,
   ⟨none, some 28, 28, .mv (.t 27)⟩,
   ⟨(some (28, true)), some 29, 29, .faddr (.t 1) 5⟩,
   ⟨(some (28, true)), some 30, 30, .load none (.t 29)⟩,
   ⟨(some (28, true)), some 31, 31, .call 29 [0, 0, 0] [(.t 30), (.k (.one (.pv (.int .i64 0)))), (.k (.one (.pv (.int .i64 6))))]⟩,
   ⟨none, some 32, 32, .pick (.t 28) (.t 31) (.k (.one (.pv (.bool false))))⟩,
   ⟨none, some 2, 2, .mv (.t 32)⟩])
 (.ret))⟩
abbrev C_s_l21Act (Te : Nat → List AV → Res → Prop) : Prop := ∀ (a : ActV), Te 89 [.agg a.row] ⟨[.one (bT a.ok)], [a.row]⟩
theorem r_s_l21Act {Te : Nat → List AV → Res → Prop} (c_s_l1In : C_s_l1In Te) (c_s_l1Word : C_s_l1Word Te) : ∀ (a : ActV), RunFn Te x_s_l21Act [.agg a.row] ⟨[.one (bT a.ok)], [a.row]⟩ := by
  intro a
  refine ⟨by simp -implicitDefEqProofs only [x_s_l21Act, go_sem], ?_⟩
  simp -implicitDefEqProofs only [x_s_l21Act, go_sem, true_implies, false_implies, ActV.ok]
  refine .of (c_s_l1In _ _ _) ?_
  try simp -implicitDefEqProofs only [go_sem, true_implies, false_implies]
  cases a1 : win a.Kind 1 3
  · try simp -implicitDefEqProofs only [go_sem, true_implies, false_implies, a1]
  try simp -implicitDefEqProofs only [go_sem, true_implies, false_implies, a1]
  refine .of (c_s_l1In _ _ _) ?_
  try simp -implicitDefEqProofs only [go_sem, true_implies, false_implies]
  cases a2 : win a.Who 0 9
  · try simp -implicitDefEqProofs only [go_sem, true_implies, false_implies, a2]
  try simp -implicitDefEqProofs only [go_sem, true_implies, false_implies, a2]
  refine .of (c_s_l1Word _) ?_
  try simp -implicitDefEqProofs only [go_sem, true_implies, false_implies]
  cases a3 : win a.Seq 0 65535
  · try simp -implicitDefEqProofs only [go_sem, true_implies, false_implies, a3]
  try simp -implicitDefEqProofs only [go_sem, true_implies, false_implies, a3]
  cases a4 : decide ((a.Key.size : Int) > 60)
  · cases a5 : decide ((a.Text.size : Int) > 60)
    · try simp -implicitDefEqProofs only [go_sem, true_implies, false_implies, gt_not, a4, a5]
      refine .of (c_s_l1In _ _ _) ?_
      try simp -implicitDefEqProofs only [go_sem, true_implies, false_implies]
    · try simp -implicitDefEqProofs only [go_sem, true_implies, false_implies, gt_not, a4, a5]
  · try simp -implicitDefEqProofs only [go_sem, true_implies, false_implies, gt_not, a4]
def x_i_actsOk : FnX := ⟨44, [.tmp 2],
  .seq (.reg [⟨none, some 2, 2, .mv (.k (.one (.pv (.bool false))))⟩])
 (.seq (.seq (.reg [⟨none, some 5, 5, .mv (.t 0)⟩,
   ⟨none, some 6, 6, .len (.t 5)⟩,
   ⟨none, some 7, 7, .mv (.k (.one (.pv (.int .i64 0))))⟩])
 (.block 0 (.loop [5, 6, 7] (.seq (.reg [⟨none, some 8, 8, .bin .lss (.t 7) (.t 6)⟩])
 (.seq (.cond 8 (.skip) (.exit 0))
 (.seq (.block 1 (.seq (.reg [⟨none, some 9, 9, .iaddr 6 (.t 5) (.t 7)⟩,
   ⟨none, some 10, 10, .load (some 6) (.t 9)⟩,
   ⟨none, some 4, 4, .alloc [.pv (.int .i64 0), .pv (.int .i64 0), .pv (.int .i64 0), .pv (.string ⟨#[]⟩), .pv (.string ⟨#[]⟩), .pv (.int .i64 0)]⟩,
   ⟨none, none, 100001, .store 6 (.t 4) (.t 10)⟩])
 (.seq (.seq (.reg [⟨none, some 11, 11, .faddr (.t 4) 0⟩,
   ⟨none, some 12, 12, .load none (.t 11)⟩,
   ⟨none, some 13, 13, .call 31 [0, 0, 0] [(.t 12), (.k (.one (.pv (.int .i64 1)))), (.k (.one (.pv (.int .i64 3))))]⟩,
   ⟨none, some 14, 14, .not (.t 13)⟩,
   ⟨none, some 15, 15, .mv (.t 14)⟩,
   ⟨(some (15, false)), some 16, 16, .faddr (.t 4) 1⟩,
   ⟨(some (15, false)), some 17, 17, .load none (.t 16)⟩,
   ⟨(some (15, false)), some 18, 18, .call 31 [0, 0, 0] [(.t 17), (.k (.one (.pv (.int .i64 0)))), (.k (.one (.pv (.int .i64 9))))]⟩,
   ⟨(some (15, false)), some 19, 19, .not (.t 18)⟩,
   ⟨none, some 20, 20, .pick (.t 15) (.k (.one (.pv (.bool true)))) (.t 19)⟩,
   ⟨none, some 21, 21, .mv (.t 20)⟩,
   ⟨(some (21, false)), some 22, 22, .faddr (.t 4) 2⟩,
   ⟨(some (21, false)), some 23, 23, .load none (.t 22)⟩,
   ⟨(some (21, false)), some 24, 24, .call 102 [0] [(.t 23)]⟩,
   ⟨(some (21, false)), some 25, 25, .not (.t 24)⟩,
   ⟨none, some 26, 26, .pick (.t 21) (.k (.one (.pv (.bool true)))) (.t 25)⟩,
   ⟨none, some 27, 27, .mv (.t 26)⟩,
   ⟨(some (27, false)), some 28, 28, .faddr (.t 4) 3⟩,
   ⟨(some (27, false)), some 29, 29, .load none (.t 28)⟩,
   ⟨(some (27, false)), some 30, 30, .slen (.t 29)⟩,
   ⟨(some (27, false)), some 31, 31, .bin .gtr (.t 30) (.k (.one (.pv (.int .i64 60))))⟩,
   ⟨none, some 32, 32, .pick (.t 27) (.k (.one (.pv (.bool true)))) (.t 31)⟩,
   ⟨none, some 33, 33, .mv (.t 32)⟩,
   ⟨(some (33, false)), some 34, 34, .faddr (.t 4) 4⟩,
   ⟨(some (33, false)), some 35, 35, .load none (.t 34)⟩,
   ⟨(some (33, false)), some 36, 36, .slen (.t 35)⟩,
   ⟨(some (33, false)), some 37, 37, .bin .gtr (.t 36) (.k (.one (.pv (.int .i64 60))))⟩,
   ⟨none, some 38, 38, .pick (.t 33) (.k (.one (.pv (.bool true)))) (.t 37)⟩])
 (.cond 38 (.seq (.reg [⟨none, some 2, 2, .mv (.k (.one (.pv (.bool false))))⟩])
 (.ret)) (.skip)))
 (.seq (.reg [⟨none, some 39, 39, .faddr (.t 4) 5⟩,
   ⟨none, some 40, 40, .load none (.t 39)⟩,
   ⟨none, some 41, 41, .call 31 [0, 0, 0] [(.t 40), (.k (.one (.pv (.int .i64 0)))), (.k (.one (.pv (.int .i64 6))))]⟩,
   ⟨none, some 42, 42, .not (.t 41)⟩])
 (.cond 42 (.seq (.reg [⟨none, some 2, 2, .mv (.k (.one (.pv (.bool false))))⟩])
 (.ret)) (.skip))))))
 (.reg [⟨none, some 43, 43, .bin .add (.t 7) (.k (.one (.pv (.int .i64 1))))⟩,
   ⟨none, some 7, 7, .mv (.t 43)⟩])))))))
 (.norm [] (.seq (.reg [⟨none, some 2, 2, .mv (.k (.one (.pv (.bool true))))⟩])
 (.ret))))⟩
abbrev C_i_actsOk (Te : Nat → List AV → Res → Prop) : Prop := ∀ (l : List ActV) (h : l.length ≤ 2 ^ 31), Te 56 [.one (slT false 6 ActV.row l)] ⟨[.one (bT (l.all ActV.ok))], [[slT false 6 ActV.row l]]⟩
theorem r_i_actsOk {Te : Nat → List AV → Res → Prop} (c_i_within : C_i_within Te) (c_i_isWord : C_i_isWord Te) : ∀ (l : List ActV) (h : l.length ≤ 2 ^ 31), RunFn Te x_i_actsOk [.one (slT false 6 ActV.row l)] ⟨[.one (bT (l.all ActV.ok))], [[slT false 6 ActV.row l]]⟩ := by
  intro l h
  refine ⟨by simp -implicitDefEqProofs only [x_i_actsOk, go_sem], ?_⟩
  simp -implicitDefEqProofs only [x_i_actsOk, go_sem, true_implies, false_implies]
  refine loop_of (σ := Nat) (fun i => ⟨[(5, .one (.ro 6 (l.map ActV.row))), (6, .one (.pv (.int .i64 l.length))), (7, .one (.pv (.int .i64 i)))], [], [(0, [slT false 6 ActV.row l])]⟩) (fun i => i ≤ l.length ∧ (l.take i).all ActV.ok = true) (fun i => l.length - i) 0 ?_ ⟨Nat.zero_le _, rfl⟩ ?_
  · simp -implicitDefEqProofs only [go_sem]
    try rfl
  · rintro i ⟨hi, hp⟩
    cases q : decide ((i : Int) < (l.length : Int))
    · have e := all_end (p := ActV.ok) (show l.length ≤ i by simp only [decide_eq_false_iff_not] at q; omega) hp
      try simp -implicitDefEqProofs only [go_sem, true_implies, false_implies, q, e]
    · have k1 : i < l.length := by simp only [decide_eq_true_eq] at q; omega
      try simp -implicitDefEqProofs only [go_sem, true_implies, false_implies, q, List.getElem?_eq_getElem k1]
      refine .of (c_i_within _ _ _) ?_
      try simp -implicitDefEqProofs only [go_sem, true_implies, false_implies]
      cases a1 : win l[i].Kind 1 3
      · skip
        have gg : ActV.ok l[i] = false := by simp only [ActV.ok, a1, Bool.not_true, Bool.and_false, Bool.false_and]
        have e := all_not (p := ActV.ok) k1 gg
        try simp -implicitDefEqProofs only [go_sem, true_implies, false_implies, e]
      try simp -implicitDefEqProofs only [go_sem, true_implies, false_implies]
      refine .of (c_i_within _ _ _) ?_
      try simp -implicitDefEqProofs only [go_sem, true_implies, false_implies]
      cases a2 : win l[i].Who 0 9
      · skip
        have gg : ActV.ok l[i] = false := by simp only [ActV.ok, a2, Bool.not_true, Bool.and_false, Bool.false_and]
        have e := all_not (p := ActV.ok) k1 gg
        try simp -implicitDefEqProofs only [go_sem, true_implies, false_implies, e]
      try simp -implicitDefEqProofs only [go_sem, true_implies, false_implies]
      refine .of (c_i_isWord _) ?_
      try simp -implicitDefEqProofs only [go_sem, true_implies, false_implies]
      cases a3 : win l[i].Seq 0 65535
      · skip
        have gg : ActV.ok l[i] = false := by simp only [ActV.ok, a3, Bool.not_true, Bool.and_false, Bool.false_and]
        have e := all_not (p := ActV.ok) k1 gg
        try simp -implicitDefEqProofs only [go_sem, true_implies, false_implies, e]
      try simp -implicitDefEqProofs only [go_sem, true_implies, false_implies]
      cases a4 : decide ((l[i].Key.size : Int) > 60)
      · skip
        cases a5 : decide ((l[i].Text.size : Int) > 60)
        · try simp -implicitDefEqProofs only [go_sem, true_implies, false_implies, a4, a5]
          refine .of (c_i_within _ _ _) ?_
          try simp -implicitDefEqProofs only [go_sem, true_implies, false_implies]
          cases a6 : win l[i].Code 0 6
          · skip
            have gg : ActV.ok l[i] = false := by simp only [ActV.ok, a6, Bool.not_true, Bool.and_false, Bool.false_and]
            have e := all_not (p := ActV.ok) k1 gg
            try simp -implicitDefEqProofs only [go_sem, true_implies, false_implies, e]
          · have gg : ActV.ok l[i] = true := by simp only [ActV.ok, a1, a2, a3, a4, a5, a6, Bool.not_false, Bool.and_true]
            try simp -implicitDefEqProofs only [go_sem, true_implies, false_implies]
            exact ⟨i + 1, by rw [IntWalk.i64_in _ (by omega)]; rfl, ⟨k1, all_step (p := ActV.ok) k1 hp gg⟩, by omega⟩
        · skip
          have gg : ActV.ok l[i] = false := by simp only [ActV.ok, a5, Bool.not_true, Bool.and_false, Bool.false_and]
          have e := all_not (p := ActV.ok) k1 gg
          try simp -implicitDefEqProofs only [go_sem, true_implies, false_implies, a4, a5, e]
      · skip
        have gg : ActV.ok l[i] = false := by simp only [ActV.ok, a4, Bool.not_true, Bool.and_false, Bool.false_and]
        have e := all_not (p := ActV.ok) k1 gg
        try simp -implicitDefEqProofs only [go_sem, true_implies, false_implies, a4, e]
def x_s_l21Acts : FnX := ⟨22, [.tmp 4],
  .seq (.reg [⟨none, some 4, 4, .mv (.k (.one (.pv (.bool false))))⟩])
 (.seq (.seq (.reg [⟨none, some 5, 5, .mv (.k (.one (.pv (.int .i64 0))))⟩])
 (.block 0 (.loop [0, 1, 5] (.seq (.seq (.reg [⟨none, some 6, 6, .mv (.t 5)⟩,
   ⟨none, some 7, 7, .mv (.t 0)⟩,
   ⟨none, some 8, 8, .len (.t 7)⟩,
   ⟨none, some 9, 9, .bin .lss (.t 6) (.t 8)⟩])
 (.cond 9 (.skip) (.exit 0)))
 (.seq (.block 1 (.seq (.reg [⟨none, some 12, 12, .mv (.t 0)⟩,
   ⟨none, some 13, 13, .mv (.t 5)⟩,
   ⟨none, some 14, 14, .iaddr 6 (.t 12) (.t 13)⟩,
   ⟨none, some 15, 15, .load (some 6) (.t 14)⟩,
   ⟨none, some 16, 16, .call 89 [0] [(.t 15)]⟩,
   ⟨none, some 17, 17, .not (.t 16)⟩])
 (.cond 17 (.seq (.reg [⟨none, some 4, 4, .mv (.k (.one (.pv (.bool false))))⟩])
 (.ret)) (.skip))))
 (.reg [⟨none, some 10, 10, .mv (.t 5)⟩,
   ⟨none, some 11, 11, .bin .add (.t 10) (.k (.one (.pv (.int .i64 1))))⟩,
   ⟨none, some 5, 5, .mv (.t 11)⟩]))))))
 (.norm [0, 1] (.seq (.reg [⟨none, some 18, 18, .mv (.t 0)⟩,
   ⟨none, some 19, 19, .len (.t 18)⟩,
   ⟨none, some 20, 20, .mv (.t 1)⟩,
   ⟨none, some 21, 21, .bin .leq (.t 19) (.t 20)⟩,
   ⟨none, some 4, 4, .mv (.t 21)⟩])
 (.ret))))⟩
abbrev C_s_l21Acts (Te : Nat → List AV → Res → Prop) : Prop := ∀ (l : List ActV) (most : Int) (h : l.length ≤ 2 ^ 31), Te 43 [.one (slT false 6 ActV.row l), .one (iT most)] ⟨[.one (bT (l.all ActV.ok && decide ((l.length : Int) ≤ most)))], [[slT false 6 ActV.row l], [iT most]]⟩
theorem r_s_l21Acts {Te : Nat → List AV → Res → Prop} (c_s_l21Act : C_s_l21Act Te) : ∀ (l : List ActV) (most : Int) (h : l.length ≤ 2 ^ 31), RunFn Te x_s_l21Acts [.one (slT false 6 ActV.row l), .one (iT most)] ⟨[.one (bT (l.all ActV.ok && decide ((l.length : Int) ≤ most)))], [[slT false 6 ActV.row l], [iT most]]⟩ := by
  intro l most h
  refine ⟨by simp -implicitDefEqProofs only [x_s_l21Acts, go_sem], ?_⟩
  simp -implicitDefEqProofs only [x_s_l21Acts, go_sem, true_implies, false_implies]
  refine loop_of (σ := Nat) (fun i => ⟨[(0, .one (.ro 6 (l.map ActV.row))), (1, .one (.pv (.int .i64 most))), (5, .one (.pv (.int .i64 i)))], [], [(0, [slT false 6 ActV.row l]), (1, [iT most])]⟩) (fun i => i ≤ l.length ∧ (l.take i).all ActV.ok = true) (fun i => l.length - i) 0 ?_ ⟨Nat.zero_le _, rfl⟩ ?_
  · simp -implicitDefEqProofs only [go_sem]
    try rfl
  · rintro i ⟨hi, hp⟩
    cases q : decide ((i : Int) < (l.length : Int))
    · have e := all_end (p := ActV.ok) (show l.length ≤ i by simp only [decide_eq_false_iff_not] at q; omega) hp
      try simp -implicitDefEqProofs only [go_sem, true_implies, false_implies, q, e, Bool.true_and]
    · have k1 : i < l.length := by simp only [decide_eq_true_eq] at q; omega
      try simp -implicitDefEqProofs only [go_sem, true_implies, false_implies, q, List.getElem?_eq_getElem k1]
      refine .of (c_s_l21Act l[i]) ?_
      try simp -implicitDefEqProofs only [go_sem, true_implies, false_implies]
      cases g : ActV.ok l[i]
      · have e := all_not (p := ActV.ok) k1 g
        try simp -implicitDefEqProofs only [go_sem, true_implies, false_implies, e, Bool.false_and]
      · try simp -implicitDefEqProofs only [go_sem, true_implies, false_implies]
        exact ⟨i + 1, by rw [IntWalk.i64_in _ (by omega)]; rfl, ⟨k1, all_step (p := ActV.ok) k1 hp g⟩, by omega⟩
def x_i_WorldOk : FnX := ⟨103, [.tmp 2],
  .seq (.reg [⟨none, some 1, 1, .box (.t 0)⟩,
   ⟨none, some 2, 2, .mv (.k (.one (.pv (.bool false))))⟩])
 (.seq (.seq (.reg [⟨none, some 4, 4, .faddr (.t 1) 0⟩,
   ⟨none, some 5, 5, .load (some 4) (.t 4)⟩,
   ⟨none, some 6, 6, .call 52 [0] [(.t 5)]⟩,
   ⟨none, some 7, 7, .not (.t 6)⟩,
   ⟨none, some 8, 8, .mv (.t 7)⟩,
   ⟨(some (8, false)), some 9, 9, .faddr (.t 1) 4⟩,
   ⟨(some (8, false)), some 10, 10, .load none (.t 9)⟩,
   ⟨(some (8, false)), some 11, 11, .len (.t 10)⟩,
   ⟨(some (8, false)), some 12, 12, .bin .neq (.t 11) (.k (.one (.pv (.int .i64 2))))⟩,
   ⟨none, some 13, 13, .pick (.t 8) (.k (.one (.pv (.bool true)))) (.t 12)⟩,
   ⟨none, some 14, 14, .mv (.t 13)⟩,
   ⟨(some (14, false)), some 15, 15, .faddr (.t 1) 5⟩,
   ⟨(some (14, false)), some 16, 16, .load none (.t 15)⟩,
   ⟨(some (14, false)), some 17, 17, .len (.t 16)⟩,
   ⟨(some (14, false)), some 18, 18, .bin .neq (.t 17) (.k (.one (.pv (.int .i64 2))))⟩,
   ⟨none, some 19, 19, .pick (.t 14) (.k (.one (.pv (.bool true)))) (.t 18)⟩,
   ⟨none, some 20, 20, .mv (.t 19)⟩,
   ⟨(some (20, false)), some 21, 21, .faddr (.t 1) 8⟩,
   ⟨(some (20, false)), some 22, 22, .load none (.t 21)⟩,
   ⟨(some (20, false)), some 23, 23, .len (.t 22)⟩,
   ⟨(some (20, false)), some 24, 24, .bin .neq (.t 23) (.k (.one (.pv (.int .i64 2))))⟩,
   ⟨none, some 25, 25, .pick (.t 20) (.k (.one (.pv (.bool true)))) (.t 24)⟩,
   ⟨none, some 26, 26, .mv (.t 25)⟩,
   ⟨(some (26, false)), some 27, 27, .faddr (.t 1) 6⟩,
   ⟨(some (26, false)), some 28, 28, .load none (.t 27)⟩,
   ⟨(some (26, false)), some 29, 29, .call 53 [0] [(.t 28)]⟩,
   ⟨(some (26, false)), some 30, 30, .not (.t 29)⟩,
   ⟨none, some 31, 31, .pick (.t 26) (.k (.one (.pv (.bool true)))) (.t 30)⟩,
   ⟨none, some 32, 32, .mv (.t 31)⟩,
   ⟨(some (32, false)), some 33, 33, .faddr (.t 1) 7⟩,
   ⟨(some (32, false)), some 34, 34, .load none (.t 33)⟩,
   ⟨(some (32, false)), some 35, 35, .len (.t 34)⟩,
   ⟨(some (32, false)), some 36, 36, .bin .gtr (.t 35) (.k (.one (.pv (.int .i64 200))))⟩,
   ⟨none, some 37, 37, .pick (.t 32) (.k (.one (.pv (.bool true)))) (.t 36)⟩])
 (.cond 37 (.seq (.reg [⟨none, some 2, 2, .mv (.k (.one (.pv (.bool false))))⟩])
 (.ret)) (.skip)))
 (.seq (.seq (.reg [⟨none, some 38, 38, .mv (.k (.one (.pv (.int .i64 0))))⟩])
 (.block 0 (.loop [1, 38] (.seq (.reg [⟨none, some 39, 39, .bin .lss (.t 38) (.k (.one (.pv (.int .i64 2))))⟩])
 (.seq (.cond 39 (.skip) (.exit 0))
 (.seq (.block 1 (.seq (.reg [⟨none, some 40, 40, .mv (.t 38)⟩,
   ⟨none, some 3, 3, .mv (.t 40)⟩])
 (.seq (.reg [⟨none, some 41, 41, .faddr (.t 1) 4⟩,
   ⟨none, some 42, 42, .load none (.t 41)⟩,
   ⟨none, some 43, 43, .mv (.t 3)⟩,
   ⟨none, some 44, 44, .iaddr 10 (.t 42) (.t 43)⟩,
   ⟨none, some 45, 45, .load (some 10) (.t 44)⟩,
   ⟨none, some 46, 46, .call 54 [0] [(.t 45)]⟩,
   ⟨none, some 47, 47, .not (.t 46)⟩,
   ⟨none, some 48, 48, .mv (.t 47)⟩,
   ⟨(some (48, false)), some 49, 49, .faddr (.t 1) 5⟩,
   ⟨(some (48, false)), some 50, 50, .load none (.t 49)⟩,
   ⟨(some (48, false)), some 51, 51, .mv (.t 3)⟩,
   ⟨(some (48, false)), some 52, 52, .iaddr 12 (.t 50) (.t 51)⟩,
   ⟨(some (48, false)), some 53, 53, .load (some 12) (.t 52)⟩,
   ⟨(some (48, false)), some 54, 54, .call 55 [0] [(.t 53)]⟩,
   ⟨(some (48, false)), some 55, 55, .not (.t 54)⟩,
   ⟨none, some 56, 56, .pick (.t 48) (.k (.one (.pv (.bool true)))) (.t 55)⟩,
   ⟨none, some 57, 57, .mv (.t 56)⟩,
   ⟨(some (57, false)), some 58, 58, .faddr (.t 1) 5⟩,
   ⟨(some (57, false)), some 59, 59, .load none (.t 58)⟩,
   ⟨(some (57, false)), some 60, 60, .mv (.t 3)⟩,
   ⟨(some (57, false)), some 61, 61, .iaddr 12 (.t 59) (.t 60)⟩,
   ⟨(some (57, false)), some 62, 62, .faddr (.t 61) 0⟩,
   ⟨(some (57, false)), some 63, 63, .load none (.t 62)⟩,
   ⟨(some (57, false)), some 64, 64, .mv (.t 3)⟩,
   ⟨(some (57, false)), some 65, 65, .bin .add (.t 64) (.k (.one (.pv (.int .i64 1))))⟩,
   ⟨(some (57, false)), some 66, 66, .bin .neq (.t 63) (.t 65)⟩,
   ⟨none, some 67, 67, .pick (.t 57) (.k (.one (.pv (.bool true)))) (.t 66)⟩,
   ⟨none, some 68, 68, .mv (.t 67)⟩,
   ⟨(some (68, false)), some 69, 69, .faddr (.t 1) 8⟩,
   ⟨(some (68, false)), some 70, 70, .load none (.t 69)⟩,
   ⟨(some (68, false)), some 71, 71, .mv (.t 3)⟩,
   ⟨(some (68, false)), some 72, 72, .iaddr 1 (.t 70) (.t 71)⟩,
   ⟨(some (68, false)), some 73, 73, .load none (.t 72)⟩,
   ⟨(some (68, false)), some 74, 74, .len (.t 73)⟩,
   ⟨(some (68, false)), some 75, 75, .bin .gtr (.t 74) (.k (.one (.pv (.int .i64 1))))⟩,
   ⟨none, some 76, 76, .pick (.t 68) (.k (.one (.pv (.bool true)))) (.t 75)⟩,
   ⟨none, some 77, 77, .mv (.t 76)⟩,
   ⟨(some (77, false)), some 78, 78, .faddr (.t 1) 8⟩,
   ⟨(some (77, false)), some 79, 79, .load none (.t 78)⟩,
   ⟨(some (77, false)), some 80, 80, .mv (.t 3)⟩,
   ⟨(some (77, false)), some 81, 81, .iaddr 1 (.t 79) (.t 80)⟩,
   ⟨(some (77, false)), some 82, 82, .load none (.t 81)⟩,
   ⟨(some (77, false)), some 83, 83, .call 56 [0] [(.t 82)]⟩,
   ⟨(some (77, false)), some 84, 84, .not (.t 83)⟩,
   ⟨none, some 85, 85, .pick (.t 77) (.k (.one (.pv (.bool true)))) (.t 84)⟩])
 (.cond 85 (.seq (.reg [⟨none, some 2, 2, .mv (.k (.one (.pv (.bool false))))⟩])
 (.ret)) (.skip)))))
 (.reg [⟨none, some 86, 86, .bin .add (.t 38) (.k (.one (.pv (.int .i64 1))))⟩,
   ⟨none, some 38, 38, .mv (.t 86)⟩])))))))
 (.norm [1] (.seq (.draw [⟨none, some 87, 87, .faddr (.t 1) 4⟩,
   ⟨none, some 88, 88, .load none (.t 87)⟩,
   ⟨none, some 89, 89, .iaddr 10 (.t 88) (.k (.one (.pv (.int .i64 0))))⟩,
   ⟨none, some 90, 90, .faddr (.t 89) 9⟩,
   ⟨none, some 91, 91, .load none (.t 90)⟩,
   ⟨none, some 92, 92, .faddr (.t 1) 4⟩,
   ⟨none, some 93, 93, .load none (.t 92)⟩,
   ⟨none, some 94, 94, .iaddr 10 (.t 93) (.k (.one (.pv (.int .i64 1))))⟩,
   ⟨none, some 95, 95, .faddr (.t 94) 9⟩,
   ⟨none, some 96, 96, .load none (.t 95)⟩,
   ⟨none, some 97, 97, .bin .eql (.t 91) (.t 96)⟩,
   ⟨none, some 98, 98, .mv (.t 97)⟩,
   ⟨(some (98, true)), some 99, 99, .faddr (.t 1) 7⟩,
   ⟨(some (98, true)), some 100, 100, .load none (.t 99)⟩,
   ⟨(some (98, true)), some 101, 101, .call 56 [0] [(.t 100)]⟩,
   ⟨none, some 102, 102, .pick (.t 98) (.t 101) (.k (.one (.pv (.bool false))))⟩,
   ⟨none, some 2, 2, .mv (.t 102)⟩] [[], [0], [1], [2], [3], [], [5], [6], [7], [8], [4, 9], [10], [11], [12, 11], [13, 11, 11], [11, 14], [15, 14, 0, 1, 2, 3, 4, 5, 6, 7, 8, 9, 10, 11, 12, 13, 14, 15]])
 (.ret)))))⟩
abbrev C_i_WorldOk (Te : Nat → List AV → Res → Prop) : Prop := ∀ (w : WorldV) (h : w.In (2 ^ 31)), Te 18 [.agg (w.enc false)] ⟨[.one (bT w.ok)], [w.enc false]⟩
theorem r_i_WorldOk {Te : Nat → List AV → Res → Prop} (c_i_LeadOk : C_i_LeadOk Te) (c_i_NetOk : C_i_NetOk Te) (c_i_NodeOk : C_i_NodeOk Te) (c_i_ClientOk : C_i_ClientOk Te) (c_i_actsOk : C_i_actsOk Te) : ∀ (w : WorldV) (h : w.In (2 ^ 31)), RunFn Te x_i_WorldOk [.agg (w.enc false)] ⟨[.one (bT w.ok)], [w.enc false]⟩ := by
  intro w h
  refine ⟨by simp -implicitDefEqProofs only [x_i_WorldOk, go_sem], ?_⟩
  obtain ⟨hL, hN, hC, hNet, hLog, hM⟩ := h
  obtain ⟨L, Nodes, Clients, Net, Log, Maybe⟩ := w
  simp only at hL hN hC hNet hLog hM
  simp -implicitDefEqProofs only [x_i_WorldOk, go_sem, true_implies, false_implies]
  refine .of (c_i_LeadOk L (hL.mono (by decide))) ?_
  try simp -implicitDefEqProofs only [go_sem, true_implies, false_implies]
  cases g1 : L.ok
  · have e := world_lead (w := ⟨L, Nodes, Clients, Net, Log, Maybe⟩) g1
    try simp -implicitDefEqProofs only [go_sem, true_implies, false_implies, e]
  cases q1 : ((Nodes.length : Int) != 2)
  rotate_left
  · have e := world_lens (w := ⟨L, Nodes, Clients, Net, Log, Maybe⟩) (.inl q1)
    try simp -implicitDefEqProofs only [go_sem, true_implies, false_implies, q1, e]
  cases q2 : ((Clients.length : Int) != 2)
  rotate_left
  · have e := world_lens (w := ⟨L, Nodes, Clients, Net, Log, Maybe⟩) (.inr (.inl q2))
    try simp -implicitDefEqProofs only [go_sem, true_implies, false_implies, q1, q2, e]
  cases q3 : ((Maybe.length : Int) != 2)
  rotate_left
  · have e := world_lens (w := ⟨L, Nodes, Clients, Net, Log, Maybe⟩) (.inr (.inr q3))
    try simp -implicitDefEqProofs only [go_sem, true_implies, false_implies, q1, q2, q3, e]
  try simp -implicitDefEqProofs only [go_sem, true_implies, false_implies, q1, q2, q3]
  refine .of (c_i_NetOk Net hNet.1) ?_
  try simp -implicitDefEqProofs only [go_sem, true_implies, false_implies]
  cases g2 : netOk Net
  · have e := world_net (w := ⟨L, Nodes, Clients, Net, Log, Maybe⟩) g2
    try simp -implicitDefEqProofs only [go_sem, true_implies, false_implies, e]
  cases g3 : decide ((Log.length : Int) > 200)
  rotate_left
  · have e := world_log (w := ⟨L, Nodes, Clients, Net, Log, Maybe⟩) g3
    try simp -implicitDefEqProofs only [go_sem, true_implies, false_implies, g3, e]
  obtain ⟨n0, n1, rfl⟩ := two_of q1
  obtain ⟨c0, c1, rfl⟩ := two_of q2
  obtain ⟨m0, m1, rfl⟩ := two_of q3
  have hN0 := hN.2 n0 (by simp)
  have hN1 := hN.2 n1 (by simp)
  have hC0 := hC.2 c0 (by simp)
  have hC1 := hC.2 c1 (by simp)
  have hM0 := (hM.2 m0 (by simp)).1
  have hM1 := (hM.2 m1 (by simp)).1
  simp -implicitDefEqProofs only [go_sem, g3, true_implies, false_implies]
  refine loop_of (σ := Nat) (fun i => ⟨[(1, .bp 1 0), (38, .one (.pv (.int .i64 i)))], [(1, [.pv (.int .i64 L.Phase), .ro 1 (L.Acked.map bR), .ro 1 (L.Ended.map bR), .ro 1 (L.At.map sR), .ro 10 (List.map (NodeV.enc false) [n0, n1]), .ro 12 (List.map (ClientV.enc false) [c0, c1]), .ro 8 (Net.map Msg.row), .ro 6 (Log.map ActV.row), .ro 1 (List.map (fun y => [slT false 6 ActV.row y]) [m0, m1])])], [(0, WorldV.enc false ⟨L, [n0, n1], [c0, c1], Net, Log, [m0, m1]⟩)]⟩) (fun i => i ≤ 2 ∧ (1 ≤ i → pairOk 1 n0 c0 m0 = true) ∧ (2 ≤ i → pairOk 2 n1 c1 m1 = true)) (fun i => 2 - i) 0 ?_ ⟨by decide, fun h => absurd h (by decide), fun h => absurd h (by decide)⟩ ?_
  · simp -implicitDefEqProofs only [go_sem]
    try rfl
  · rintro i ⟨hi, hp0, hp1⟩
    have hi' : i = 0 ∨ i = 1 ∨ i = 2 := by omega
    rcases hi' with rfl | rfl | rfl
    · skip
      try simp -implicitDefEqProofs only [go_sem, true_implies, false_implies, wf0, wf1, wf2, wf3, Int.toNat_zero, Int.toNat_one, g20, g21]
      refine .of (c_i_NodeOk n0 (hN0.mono (by decide))) ?_
      try simp -implicitDefEqProofs only [go_sem, true_implies, false_implies]
      cases a1 : n0.ok
      · skip
        have e : (WorldV.mk L [n0, n1] [c0, c1] Net Log [m0, m1]).ok = false := by simp only [world_ok, pairOk, a1, Bool.not_true, Bool.and_false, Bool.false_and]
        try simp -implicitDefEqProofs only [go_sem, true_implies, false_implies, e]
      try simp -implicitDefEqProofs only [go_sem, true_implies, false_implies, wf0, wf1, wf2, wf3, Int.toNat_zero, Int.toNat_one, g20, g21]
      refine .of (c_i_ClientOk c0 hC0) ?_
      try simp -implicitDefEqProofs only [go_sem, true_implies, false_implies]
      cases a2 : c0.ok
      · skip
        have e : (WorldV.mk L [n0, n1] [c0, c1] Net Log [m0, m1]).ok = false := by simp only [world_ok, pairOk, a2, Bool.not_true, Bool.and_false, Bool.false_and]
        try simp -implicitDefEqProofs only [go_sem, true_implies, false_implies, e]
      cases a3 : (c0.Id != 1)
      · skip
        cases a4 : decide ((m0.length : Int) > 1)
        · try simp -implicitDefEqProofs only [go_sem, true_implies, false_implies, wf0, wf1, wf2, wf3, Int.toNat_zero, Int.toNat_one, g20, g21, a3, a4]
          refine .of (c_i_actsOk m0 hM0) ?_
          try simp -implicitDefEqProofs only [go_sem, true_implies, false_implies]
          cases a5 : m0.all ActV.ok
          · skip
            have e : (WorldV.mk L [n0, n1] [c0, c1] Net Log [m0, m1]).ok = false := by simp only [world_ok, pairOk, a5, Bool.not_true, Bool.and_false, Bool.false_and]
            try simp -implicitDefEqProofs only [go_sem, true_implies, false_implies, e]
          · have g : pairOk 1 n0 c0 m0 = true := by simp only [pairOk, a1, a2, a3, a4, a5, Bool.not_false, Bool.and_true]
            try simp -implicitDefEqProofs only [go_sem, true_implies, false_implies]
            exact ⟨1, rfl, ⟨by decide, fun _ => g, fun h => absurd h (by decide)⟩, by decide⟩
        · skip
          have e : (WorldV.mk L [n0, n1] [c0, c1] Net Log [m0, m1]).ok = false := by simp only [world_ok, pairOk, a4, Bool.not_true, Bool.and_false, Bool.false_and]
          try simp -implicitDefEqProofs only [go_sem, true_implies, false_implies, wf0, wf1, wf2, wf3, Int.toNat_zero, Int.toNat_one, g20, g21, a3, a4, e]
      · skip
        have e : (WorldV.mk L [n0, n1] [c0, c1] Net Log [m0, m1]).ok = false := by simp only [world_ok, pairOk, a3, Bool.not_true, Bool.and_false, Bool.false_and]
        try simp -implicitDefEqProofs only [go_sem, true_implies, false_implies, wf0, wf1, wf2, wf3, Int.toNat_zero, Int.toNat_one, g20, g21, a3, e]
    · skip
      try simp -implicitDefEqProofs only [go_sem, true_implies, false_implies, wf0, wf1, wf2, wf3, Int.toNat_zero, Int.toNat_one, g20, g21]
      refine .of (c_i_NodeOk n1 (hN1.mono (by decide))) ?_
      try simp -implicitDefEqProofs only [go_sem, true_implies, false_implies]
      cases a1 : n1.ok
      · skip
        have e : (WorldV.mk L [n0, n1] [c0, c1] Net Log [m0, m1]).ok = false := by simp only [world_ok, pairOk, a1, Bool.not_true, Bool.and_false, Bool.false_and]
        try simp -implicitDefEqProofs only [go_sem, true_implies, false_implies, e]
      try simp -implicitDefEqProofs only [go_sem, true_implies, false_implies, wf0, wf1, wf2, wf3, Int.toNat_zero, Int.toNat_one, g20, g21]
      refine .of (c_i_ClientOk c1 hC1) ?_
      try simp -implicitDefEqProofs only [go_sem, true_implies, false_implies]
      cases a2 : c1.ok
      · skip
        have e : (WorldV.mk L [n0, n1] [c0, c1] Net Log [m0, m1]).ok = false := by simp only [world_ok, pairOk, a2, Bool.not_true, Bool.and_false, Bool.false_and]
        try simp -implicitDefEqProofs only [go_sem, true_implies, false_implies, e]
      cases a3 : (c1.Id != 2)
      · skip
        cases a4 : decide ((m1.length : Int) > 1)
        · try simp -implicitDefEqProofs only [go_sem, true_implies, false_implies, wf0, wf1, wf2, wf3, Int.toNat_zero, Int.toNat_one, g20, g21, a3, a4]
          refine .of (c_i_actsOk m1 hM1) ?_
          try simp -implicitDefEqProofs only [go_sem, true_implies, false_implies]
          cases a5 : m1.all ActV.ok
          · skip
            have e : (WorldV.mk L [n0, n1] [c0, c1] Net Log [m0, m1]).ok = false := by simp only [world_ok, pairOk, a5, Bool.not_true, Bool.and_false, Bool.false_and]
            try simp -implicitDefEqProofs only [go_sem, true_implies, false_implies, e]
          · have g : pairOk 2 n1 c1 m1 = true := by simp only [pairOk, a1, a2, a3, a4, a5, Bool.not_false, Bool.and_true]
            try simp -implicitDefEqProofs only [go_sem, true_implies, false_implies]
            exact ⟨2, rfl, ⟨Nat.le_refl _, fun _ => hp0 (Nat.le_refl 1), fun _ => g⟩, by decide⟩
        · skip
          have e : (WorldV.mk L [n0, n1] [c0, c1] Net Log [m0, m1]).ok = false := by simp only [world_ok, pairOk, a4, Bool.not_true, Bool.and_false, Bool.false_and]
          try simp -implicitDefEqProofs only [go_sem, true_implies, false_implies, wf0, wf1, wf2, wf3, Int.toNat_zero, Int.toNat_one, g20, g21, a3, a4, e]
      · skip
        have e : (WorldV.mk L [n0, n1] [c0, c1] Net Log [m0, m1]).ok = false := by simp only [world_ok, pairOk, a3, Bool.not_true, Bool.and_false, Bool.false_and]
        try simp -implicitDefEqProofs only [go_sem, true_implies, false_implies, wf0, wf1, wf2, wf3, Int.toNat_zero, Int.toNat_one, g20, g21, a3, e]
    · try simp -implicitDefEqProofs only [go_sem, true_implies, false_implies, show decide (((2 : Nat) : Int) < 2) = false from rfl]
      try simp -implicitDefEqProofs only [go_sem, true_implies, false_implies, wf0, wf1, wf2, wf3, Int.toNat_zero, Int.toNat_one, g20, g21]
      cases g5 : (n0.Cs == n1.Cs)
      · have e : (WorldV.mk L [n0, n1] [c0, c1] Net Log [m0, m1]).ok = false := by simp only [world_ok, g5, Bool.and_false]
        try simp -implicitDefEqProofs only [go_sem, true_implies, false_implies, wf0, wf1, wf2, wf3, Int.toNat_zero, Int.toNat_one, g20, g21, g5, e]
        try (decide)
      · have e : (WorldV.mk L [n0, n1] [c0, c1] Net Log [m0, m1]).ok = Log.all ActV.ok := by simp only [world_ok, g1, g2, g3, g5, hp0 (by decide), hp1 (by decide), Bool.not_false, Bool.and_true, Bool.true_and]
        try simp -implicitDefEqProofs only [go_sem, true_implies, false_implies, wf0, wf1, wf2, wf3, Int.toNat_zero, Int.toNat_one, g20, g21, g5]
        refine .of (c_i_actsOk Log hLog.1) ?_
        try simp -implicitDefEqProofs only [go_sem, true_implies, false_implies, e]
        try (decide)
def x_s_WorldOk : FnX := ⟨89, [.tmp 2],
  .seq (.reg [⟨none, some 1, 1, .box (.t 0)⟩,
   ⟨none, some 2, 2, .mv (.k (.one (.pv (.bool false))))⟩])
 (.seq (.seq (.reg [⟨none, some 4, 4, .faddr (.t 1) 4⟩,
   ⟨none, some 5, 5, .load none (.t 4)⟩,
   ⟨none, some 6, 6, .len (.t 5)⟩,
   ⟨none, some 7, 7, .bin .neq (.t 6) (.k (.one (.pv (.int .i64 2))))⟩,
   ⟨none, some 8, 8, .mv (.t 7)⟩,
   ⟨(some (8, false)), some 9, 9, .faddr (.t 1) 5⟩,
   ⟨(some (8, false)), some 10, 10, .load none (.t 9)⟩,
   ⟨(some (8, false)), some 11, 11, .len (.t 10)⟩,
   ⟨(some (8, false)), some 12, 12, .bin .neq (.t 11) (.k (.one (.pv (.int .i64 2))))⟩,
   ⟨none, some 13, 13, .pick (.t 8) (.k (.one (.pv (.bool true)))) (.t 12)⟩,
   ⟨none, some 14, 14, .mv (.t 13)⟩,
   ⟨(some (14, false)), some 15, 15, .faddr (.t 1) 8⟩,
   ⟨(some (14, false)), some 16, 16, .load none (.t 15)⟩,
   ⟨(some (14, false)), some 17, 17, .len (.t 16)⟩,
   ⟨(some (14, false)), some 18, 18, .bin .neq (.t 17) (.k (.one (.pv (.int .i64 2))))⟩,
   ⟨none, some 19, 19, .pick (.t 14) (.k (.one (.pv (.bool true)))) (.t 18)⟩,
   ⟨none, some 20, 20, .mv (.t 19)⟩,
   ⟨(some (20, false)), some 21, 21, .faddr (.t 1) 0⟩,
   ⟨(some (20, false)), some 22, 22, .load (some 4) (.t 21)⟩,
   ⟨(some (20, false)), some 23, 23, .call 41 [0] [(.t 22)]⟩,
   ⟨(some (20, false)), some 24, 24, .not (.t 23)⟩,
   ⟨none, some 25, 25, .pick (.t 20) (.k (.one (.pv (.bool true)))) (.t 24)⟩,
   ⟨none, some 26, 26, .mv (.t 25)⟩,
   ⟨(some (26, false)), some 27, 27, .faddr (.t 1) 6⟩,
   ⟨(some (26, false)), some 28, 28, .load none (.t 27)⟩,
   ⟨(some (26, false)), some 29, 29, .call 42 [0] [(.t 28)]⟩,
   ⟨(some (26, false)), some 30, 30, .not (.t 29)⟩,
   ⟨none, some 31, 31, .pick (.t 26) (.k (.one (.pv (.bool true)))) (.t 30)⟩,
   ⟨none, some 32, 32, .mv (.t 31)⟩,
   ⟨(some (32, false)), some 33, 33, .faddr (.t 1) 7⟩,
   ⟨(some (32, false)), some 34, 34, .load none (.t 33)⟩,
   ⟨(some (32, false)), some 35, 35, .call 43 [0, 0] [(.t 34), (.k (.one (.pv (.int .i64 200))))]⟩,
   ⟨(some (32, false)), some 36, 36, .not (.t 35)⟩,
   ⟨none, some 37, 37, .pick (.t 32) (.k (.one (.pv (.bool true)))) (.t 36)⟩])
 (.cond 37 (.seq (.reg [⟨none, some 2, 2, .mv (.k (.one (.pv (.bool false))))⟩])
 (.ret)) (.skip)))
 (.seq (.seq (.reg [⟨none, some 3, 3, .mv (.k (.one (.pv (.int .i64 0))))⟩])
 (.block 0 (.loop [1, 3] (.seq (.seq (.reg [⟨none, some 38, 38, .mv (.t 3)⟩,
   ⟨none, some 39, 39, .bin .lss (.t 38) (.k (.one (.pv (.int .i64 2))))⟩])
 (.cond 39 (.skip) (.exit 0)))
 (.seq (.block 1 (.seq (.reg [⟨none, some 42, 42, .faddr (.t 1) 4⟩,
   ⟨none, some 43, 43, .load none (.t 42)⟩,
   ⟨none, some 44, 44, .mv (.t 3)⟩,
   ⟨none, some 45, 45, .iaddr 10 (.t 43) (.t 44)⟩,
   ⟨none, some 46, 46, .load (some 10) (.t 45)⟩,
   ⟨none, some 47, 47, .call 44 [0] [(.t 46)]⟩,
   ⟨none, some 48, 48, .not (.t 47)⟩,
   ⟨none, some 49, 49, .mv (.t 48)⟩,
   ⟨(some (49, false)), some 50, 50, .faddr (.t 1) 5⟩,
   ⟨(some (49, false)), some 51, 51, .load none (.t 50)⟩,
   ⟨(some (49, false)), some 52, 52, .mv (.t 3)⟩,
   ⟨(some (49, false)), some 53, 53, .iaddr 12 (.t 51) (.t 52)⟩,
   ⟨(some (49, false)), some 54, 54, .load (some 12) (.t 53)⟩,
   ⟨(some (49, false)), some 55, 55, .call 45 [0] [(.t 54)]⟩,
   ⟨(some (49, false)), some 56, 56, .not (.t 55)⟩,
   ⟨none, some 57, 57, .pick (.t 49) (.k (.one (.pv (.bool true)))) (.t 56)⟩,
   ⟨none, some 58, 58, .mv (.t 57)⟩,
   ⟨(some (58, false)), some 59, 59, .faddr (.t 1) 5⟩,
   ⟨(some (58, false)), some 60, 60, .load none (.t 59)⟩,
   ⟨(some (58, false)), some 61, 61, .mv (.t 3)⟩,
   ⟨(some (58, false)), some 62, 62, .iaddr 12 (.t 60) (.t 61)⟩,
   ⟨(some (58, false)), some 63, 63, .faddr (.t 62) 0⟩,
   ⟨(some (58, false)), some 64, 64, .load none (.t 63)⟩,
   ⟨(some (58, false)), some 65, 65, .mv (.t 3)⟩,
   ⟨(some (58, false)), some 66, 66, .bin .add (.t 65) (.k (.one (.pv (.int .i64 1))))⟩,
   ⟨(some (58, false)), some 67, 67, .bin .neq (.t 64) (.t 66)⟩,
   ⟨none, some 68, 68, .pick (.t 58) (.k (.one (.pv (.bool true)))) (.t 67)⟩,
   ⟨none, some 69, 69, .mv (.t 68)⟩,
   ⟨(some (69, false)), some 70, 70, .faddr (.t 1) 8⟩,
   ⟨(some (69, false)), some 71, 71, .load none (.t 70)⟩,
   ⟨(some (69, false)), some 72, 72, .mv (.t 3)⟩,
   ⟨(some (69, false)), some 73, 73, .iaddr 1 (.t 71) (.t 72)⟩,
   ⟨(some (69, false)), some 74, 74, .load none (.t 73)⟩,
   ⟨(some (69, false)), some 75, 75, .call 43 [0, 0] [(.t 74), (.k (.one (.pv (.int .i64 1))))]⟩,
   ⟨(some (69, false)), some 76, 76, .not (.t 75)⟩,
   ⟨none, some 77, 77, .pick (.t 69) (.k (.one (.pv (.bool true)))) (.t 76)⟩])
 (.cond 77 (.seq (.reg [⟨none, some 2, 2, .mv (.k (.one (.pv (.bool false))))⟩])
 (.ret)) (.skip))))
 (.reg [⟨none, some 40, 40, .mv (.t 3)⟩,
   ⟨none, some 41, 41, .bin .add (.t 40) (.k (.one (.pv (.int .i64 1))))⟩,
   ⟨none, some 3, 3, .mv (.t 41)⟩]))))))
 (.norm [1] (.seq (.draw [⟨none, some 78, 78, .faddr (.t 1) 4⟩,
   ⟨none, some 79, 79, .load none (.t 78)⟩,
   ⟨none, some 80, 80, .iaddr 10 (.t 79) (.k (.one (.pv (.int .i64 0))))⟩,
   ⟨none, some 81, 81, .faddr (.t 80) 9⟩,
   ⟨none, some 82, 82, .load none (.t 81)⟩,
   ⟨none, some 83, 83, .faddr (.t 1) 4⟩,
   ⟨none, some 84, 84, .load none (.t 83)⟩,
   ⟨none, some 85, 85, .iaddr 10 (.t 84) (.k (.one (.pv (.int .i64 1))))⟩,
   ⟨none, some 86, 86, .faddr (.t 85) 9⟩,
   ⟨none, some 87, 87, .load none (.t 86)⟩,
   ⟨none, some 88, 88, .bin .eql (.t 82) (.t 87)⟩,
   ⟨none, some 2, 2, .mv (.t 88)⟩] [[], [0], [1], [2], [3], [], [5], [6], [7], [8], [4, 9], [10, 0, 1, 2, 3, 4, 5, 6, 7, 8, 9, 10]])
 (.ret)))))⟩
abbrev C_s_WorldOk (Te : Nat → List AV → Res → Prop) : Prop := ∀ (w : WorldV) (h : w.In (2 ^ 31)), Te 16 [.agg (w.enc false)] ⟨[.one (bT w.ok)], [w.enc false]⟩
theorem r_s_WorldOk {Te : Nat → List AV → Res → Prop} (c_s_LeadOk : C_s_LeadOk Te) (c_s_NetOk : C_s_NetOk Te) (c_s_l21Acts : C_s_l21Acts Te) (c_s_NodeOk : C_s_NodeOk Te) (c_s_ClientOk : C_s_ClientOk Te) : ∀ (w : WorldV) (h : w.In (2 ^ 31)), RunFn Te x_s_WorldOk [.agg (w.enc false)] ⟨[.one (bT w.ok)], [w.enc false]⟩ := by
  intro w h
  refine ⟨by simp -implicitDefEqProofs only [x_s_WorldOk, go_sem], ?_⟩
  obtain ⟨hL, hN, hC, hNet, hLog, hM⟩ := h
  obtain ⟨L, Nodes, Clients, Net, Log, Maybe⟩ := w
  simp only at hL hN hC hNet hLog hM
  simp -implicitDefEqProofs only [x_s_WorldOk, go_sem, true_implies, false_implies]
  cases q1 : ((Nodes.length : Int) != 2)
  rotate_left
  · have e := world_lens (w := ⟨L, Nodes, Clients, Net, Log, Maybe⟩) (.inl q1)
    try simp -implicitDefEqProofs only [go_sem, true_implies, false_implies, q1, e]
  cases q2 : ((Clients.length : Int) != 2)
  rotate_left
  · have e := world_lens (w := ⟨L, Nodes, Clients, Net, Log, Maybe⟩) (.inr (.inl q2))
    try simp -implicitDefEqProofs only [go_sem, true_implies, false_implies, q1, q2, e]
  cases q3 : ((Maybe.length : Int) != 2)
  rotate_left
  · have e := world_lens (w := ⟨L, Nodes, Clients, Net, Log, Maybe⟩) (.inr (.inr q3))
    try simp -implicitDefEqProofs only [go_sem, true_implies, false_implies, q1, q2, q3, e]
  try simp -implicitDefEqProofs only [go_sem, true_implies, false_implies, q1, q2, q3]
  refine .of (c_s_LeadOk L (hL.mono (by decide))) ?_
  try simp -implicitDefEqProofs only [go_sem, true_implies, false_implies]
  cases g1 : L.ok
  · have e := world_lead (w := ⟨L, Nodes, Clients, Net, Log, Maybe⟩) g1
    try simp -implicitDefEqProofs only [go_sem, true_implies, false_implies, e]
  try simp -implicitDefEqProofs only [go_sem, true_implies, false_implies]
  refine .of (c_s_NetOk Net hNet.1) ?_
  try simp -implicitDefEqProofs only [go_sem, true_implies, false_implies]
  cases g2 : netOk Net
  · have e := world_net (w := ⟨L, Nodes, Clients, Net, Log, Maybe⟩) g2
    try simp -implicitDefEqProofs only [go_sem, true_implies, false_implies, e]
  try simp -implicitDefEqProofs only [go_sem, true_implies, false_implies]
  refine .of (c_s_l21Acts Log 200 hLog.1) ?_
  try simp -implicitDefEqProofs only [go_sem, true_implies, false_implies]
  cases g4 : Log.all ActV.ok
  · have e := world_acts (w := ⟨L, Nodes, Clients, Net, Log, Maybe⟩) g4
    try simp -implicitDefEqProofs only [go_sem, true_implies, false_implies, Bool.false_and, e]
  cases g3 : decide ((Log.length : Int) > 200)
  rotate_left
  · have e := world_log (w := ⟨L, Nodes, Clients, Net, Log, Maybe⟩) g3
    try simp -implicitDefEqProofs only [go_sem, true_implies, false_implies, gt_not, g3, Bool.true_and, e]
  obtain ⟨n0, n1, rfl⟩ := two_of q1
  obtain ⟨c0, c1, rfl⟩ := two_of q2
  obtain ⟨m0, m1, rfl⟩ := two_of q3
  have hN0 := hN.2 n0 (by simp)
  have hN1 := hN.2 n1 (by simp)
  have hC0 := hC.2 c0 (by simp)
  have hC1 := hC.2 c1 (by simp)
  have hM0 := (hM.2 m0 (by simp)).1
  have hM1 := (hM.2 m1 (by simp)).1
  simp -implicitDefEqProofs only [go_sem, gt_not, g3, Bool.true_and, Bool.not_false, true_implies, false_implies]
  refine loop_of (σ := Nat) (fun i => ⟨[(1, .bp 1 0), (3, .one (.pv (.int .i64 i)))], [(1, [.pv (.int .i64 L.Phase), .ro 1 (L.Acked.map bR), .ro 1 (L.Ended.map bR), .ro 1 (L.At.map sR), .ro 10 (List.map (NodeV.enc false) [n0, n1]), .ro 12 (List.map (ClientV.enc false) [c0, c1]), .ro 8 (Net.map Msg.row), .ro 6 (Log.map ActV.row), .ro 1 (List.map (fun y => [slT false 6 ActV.row y]) [m0, m1])])], [(0, WorldV.enc false ⟨L, [n0, n1], [c0, c1], Net, Log, [m0, m1]⟩)]⟩) (fun i => i ≤ 2 ∧ (1 ≤ i → pairOk 1 n0 c0 m0 = true) ∧ (2 ≤ i → pairOk 2 n1 c1 m1 = true)) (fun i => 2 - i) 0 ?_ ⟨by decide, fun h => absurd h (by decide), fun h => absurd h (by decide)⟩ ?_
  · simp -implicitDefEqProofs only [go_sem]
    try rfl
  · rintro i ⟨hi, hp0, hp1⟩
    have hi' : i = 0 ∨ i = 1 ∨ i = 2 := by omega
    rcases hi' with rfl | rfl | rfl
    · skip
      try simp -implicitDefEqProofs only [go_sem, true_implies, false_implies, wf0, wf1, wf2, wf3, Int.toNat_zero, Int.toNat_one, g20, g21]
      refine .of (c_s_NodeOk n0 (hN0.mono (by decide))) ?_
      try simp -implicitDefEqProofs only [go_sem, true_implies, false_implies]
      cases a1 : n0.ok
      · skip
        have e : (WorldV.mk L [n0, n1] [c0, c1] Net Log [m0, m1]).ok = false := by simp only [world_ok, pairOk, a1, Bool.not_true, Bool.and_false, Bool.false_and]
        try simp -implicitDefEqProofs only [go_sem, true_implies, false_implies, e]
      try simp -implicitDefEqProofs only [go_sem, true_implies, false_implies, wf0, wf1, wf2, wf3, Int.toNat_zero, Int.toNat_one, g20, g21]
      refine .of (c_s_ClientOk c0 hC0) ?_
      try simp -implicitDefEqProofs only [go_sem, true_implies, false_implies]
      cases a2 : c0.ok
      · skip
        have e : (WorldV.mk L [n0, n1] [c0, c1] Net Log [m0, m1]).ok = false := by simp only [world_ok, pairOk, a2, Bool.not_true, Bool.and_false, Bool.false_and]
        try simp -implicitDefEqProofs only [go_sem, true_implies, false_implies, e]
      cases a3 : (c0.Id != 1)
      · skip
        try simp -implicitDefEqProofs only [go_sem, true_implies, false_implies, wf0, wf1, wf2, wf3, Int.toNat_zero, Int.toNat_one, g20, g21, a3]
        refine .of (c_s_l21Acts m0 1 hM0) ?_
        try simp -implicitDefEqProofs only [go_sem, true_implies, false_implies]
        cases a5 : m0.all ActV.ok
        · skip
          have e : (WorldV.mk L [n0, n1] [c0, c1] Net Log [m0, m1]).ok = false := by simp only [world_ok, pairOk, a5, Bool.not_true, Bool.and_false, Bool.false_and]
          try simp -implicitDefEqProofs only [go_sem, true_implies, false_implies, Bool.false_and, e]
        · cases a4 : decide ((m0.length : Int) > 1)
          · have g : pairOk 1 n0 c0 m0 = true := by simp only [pairOk, a1, a2, a3, a4, a5, Bool.not_false, Bool.and_true]
            try simp -implicitDefEqProofs only [go_sem, true_implies, false_implies, gt_not, a4, Bool.true_and]
            exact ⟨1, rfl, ⟨by decide, fun _ => g, fun h => absurd h (by decide)⟩, by decide⟩
          · skip
            have e : (WorldV.mk L [n0, n1] [c0, c1] Net Log [m0, m1]).ok = false := by simp only [world_ok, pairOk, a4, Bool.not_true, Bool.and_false, Bool.false_and]
            try simp -implicitDefEqProofs only [go_sem, true_implies, false_implies, gt_not, a4, Bool.true_and, e]
      · skip
        have e : (WorldV.mk L [n0, n1] [c0, c1] Net Log [m0, m1]).ok = false := by simp only [world_ok, pairOk, a3, Bool.not_true, Bool.and_false, Bool.false_and]
        try simp -implicitDefEqProofs only [go_sem, true_implies, false_implies, wf0, wf1, wf2, wf3, Int.toNat_zero, Int.toNat_one, g20, g21, a3, e]
    · skip
      try simp -implicitDefEqProofs only [go_sem, true_implies, false_implies, wf0, wf1, wf2, wf3, Int.toNat_zero, Int.toNat_one, g20, g21]
      refine .of (c_s_NodeOk n1 (hN1.mono (by decide))) ?_
      try simp -implicitDefEqProofs only [go_sem, true_implies, false_implies]
      cases a1 : n1.ok
      · skip
        have e : (WorldV.mk L [n0, n1] [c0, c1] Net Log [m0, m1]).ok = false := by simp only [world_ok, pairOk, a1, Bool.not_true, Bool.and_false, Bool.false_and]
        try simp -implicitDefEqProofs only [go_sem, true_implies, false_implies, e]
      try simp -implicitDefEqProofs only [go_sem, true_implies, false_implies, wf0, wf1, wf2, wf3, Int.toNat_zero, Int.toNat_one, g20, g21]
      refine .of (c_s_ClientOk c1 hC1) ?_
      try simp -implicitDefEqProofs only [go_sem, true_implies, false_implies]
      cases a2 : c1.ok
      · skip
        have e : (WorldV.mk L [n0, n1] [c0, c1] Net Log [m0, m1]).ok = false := by simp only [world_ok, pairOk, a2, Bool.not_true, Bool.and_false, Bool.false_and]
        try simp -implicitDefEqProofs only [go_sem, true_implies, false_implies, e]
      cases a3 : (c1.Id != 2)
      · skip
        try simp -implicitDefEqProofs only [go_sem, true_implies, false_implies, wf0, wf1, wf2, wf3, Int.toNat_zero, Int.toNat_one, g20, g21, a3]
        refine .of (c_s_l21Acts m1 1 hM1) ?_
        try simp -implicitDefEqProofs only [go_sem, true_implies, false_implies]
        cases a5 : m1.all ActV.ok
        · skip
          have e : (WorldV.mk L [n0, n1] [c0, c1] Net Log [m0, m1]).ok = false := by simp only [world_ok, pairOk, a5, Bool.not_true, Bool.and_false, Bool.false_and]
          try simp -implicitDefEqProofs only [go_sem, true_implies, false_implies, Bool.false_and, e]
        · cases a4 : decide ((m1.length : Int) > 1)
          · have g : pairOk 2 n1 c1 m1 = true := by simp only [pairOk, a1, a2, a3, a4, a5, Bool.not_false, Bool.and_true]
            try simp -implicitDefEqProofs only [go_sem, true_implies, false_implies, gt_not, a4, Bool.true_and]
            exact ⟨2, rfl, ⟨Nat.le_refl _, fun _ => hp0 (Nat.le_refl 1), fun _ => g⟩, by decide⟩
          · skip
            have e : (WorldV.mk L [n0, n1] [c0, c1] Net Log [m0, m1]).ok = false := by simp only [world_ok, pairOk, a4, Bool.not_true, Bool.and_false, Bool.false_and]
            try simp -implicitDefEqProofs only [go_sem, true_implies, false_implies, gt_not, a4, Bool.true_and, e]
      · skip
        have e : (WorldV.mk L [n0, n1] [c0, c1] Net Log [m0, m1]).ok = false := by simp only [world_ok, pairOk, a3, Bool.not_true, Bool.and_false, Bool.false_and]
        try simp -implicitDefEqProofs only [go_sem, true_implies, false_implies, wf0, wf1, wf2, wf3, Int.toNat_zero, Int.toNat_one, g20, g21, a3, e]
    · try simp -implicitDefEqProofs only [go_sem, true_implies, false_implies, show decide (((2 : Nat) : Int) < 2) = false from rfl]
      repeat (refine ⟨rfl, ?_⟩)
      have e : (WorldV.mk L [n0, n1] [c0, c1] Net Log [m0, m1]).ok = (n0.Cs == n1.Cs) := by simp only [world_ok, g1, g2, g3, g4, hp0 (by decide), hp1 (by decide), Bool.not_false, Bool.and_true, Bool.true_and]
      try simp -implicitDefEqProofs only [go_sem, true_implies, false_implies, wf0, wf1, wf2, wf3, Int.toNat_zero, Int.toNat_one, g20, g21, e]
end Go.X

/- W_WorldOk -/
namespace Go.X
set_option maxRecDepth 100000
set_option maxHeartbeats 8000000
def x_l_FnExactWorldOk : FnX := ⟨27, [.tmp 2],
  .seq (.reg [⟨none, some 1, 1, .box (.t 0)⟩,
   ⟨none, some 2, 2, .mv (.k (.one (.pv (.bool false))))⟩])
 (.seq (.reg [⟨none, some 3, 3, .mv (.k (.one (.pv (.int .i64 1048576))))⟩])
 (.seq (.reg [⟨none, some 7, 7, .load (some 9) (.t 1)⟩,
   ⟨none, some 8, 8, .mv (.t 3)⟩,
   ⟨none, some 9, 9, .call 15 [0, 0] [(.t 7), (.t 8)]⟩,
   ⟨none, some 3, 3, .mv (.t 9)⟩])
 (.seq (.seq (.reg [⟨none, some 10, 10, .mv (.t 3)⟩,
   ⟨none, some 11, 11, .bin .lss (.t 10) (.k (.one (.pv (.int .i64 0))))⟩])
 (.cond 11 (.seq (.reg [⟨none, some 2, 2, .mv (.k (.one (.pv (.bool true))))⟩])
 (.ret)) (.skip)))
 (.seq (.reg [⟨none, some 12, 12, .load (some 9) (.t 1)⟩,
   ⟨none, some 13, 13, .call 17 [0] [(.t 12)]⟩,
   ⟨none, some 14, 14, .call 16 [0] [(.t 13)]⟩,
   ⟨none, some 4, 4, .mv (.t 14)⟩])
 (.seq (.reg [⟨none, some 15, 15, .load (some 9) (.t 1)⟩,
   ⟨none, some 16, 16, .call 17 [0] [(.t 15)]⟩,
   ⟨none, some 5, 5, .alloc [.pv (.int .i64 0), .nils 1, .nils 1, .nils 1, .nils 10, .nils 12, .nils 8, .nils 6, .nils 1]⟩,
   ⟨none, none, 100001, .store 9 (.t 5) (.t 16)⟩])
 (.seq (.reg [⟨none, some 17, 17, .load (some 9) (.t 5)⟩,
   ⟨none, some 18, 18, .call 18 [0] [(.t 17)]⟩,
   ⟨none, some 6, 6, .mv (.t 18)⟩])
 (.seq (.seq (.reg [⟨none, some 19, 19, .mv (.t 6)⟩,
   ⟨none, some 20, 20, .mv (.t 4)⟩,
   ⟨none, some 21, 21, .beq true (.t 19) (.t 20)⟩])
 (.cond 21 (.seq (.reg [⟨none, some 2, 2, .mv (.k (.one (.pv (.bool false))))⟩])
 (.ret)) (.skip)))
 (.seq (.seq (.draw [⟨none, some 22, 22, .load (some 9) (.t 5)⟩,
   ⟨none, some 23, 23, .load (some 9) (.t 1)⟩,
   ⟨none, some 24, 24, .call 17 [0] [(.t 23)]⟩,
   ⟨none, some 25, 25, .call 19 [0, 0] [(.t 22), (.t 24)]⟩,
   ⟨none, some 26, 26, .not (.t 25)⟩] [[], [], [1], [0, 2, 2], [3]])
 (.cond 26 (.seq (.reg [⟨none, some 2, 2, .mv (.k (.one (.pv (.bool false))))⟩])
 (.ret)) (.skip)))
 (.seq (.reg [⟨none, some 2, 2, .mv (.k (.one (.pv (.bool true))))⟩])
 (.ret))))))))))⟩
abbrev C_l_FnExactWorldOk (Te : Nat → List AV → Res → Prop) : Prop := ∀ (aW : WorldV) (h_aW : aW.In (2 ^ 48)), Te 5 [.agg (aW.enc false)] ⟨[.one (bT true)], [(aW.enc false)]⟩
theorem r_l_FnExactWorldOk {Te : Nat → List AV → Res → Prop} (c_l_szWorld : C_l_szWorld Te) (c_l_toWorld : C_l_toWorld Te) (c_s_WorldOk : C_s_WorldOk Te) (c_i_WorldOk : C_i_WorldOk Te) (c_l_eqWorld : C_l_eqWorld Te) : ∀ (aW : WorldV) (h_aW : aW.In (2 ^ 48)), RunFn Te x_l_FnExactWorldOk [.agg (aW.enc false)] ⟨[.one (bT true)], [(aW.enc false)]⟩ := by
  intro aW h_aW
  refine ⟨by simp -implicitDefEqProofs only [x_l_FnExactWorldOk, go_sem], ?_⟩
  simp -implicitDefEqProofs only [x_l_FnExactWorldOk, go_sem]
  refine .of (c_l_szWorld aW (1048576) h_aW (by omega)) ?_
  simp -implicitDefEqProofs only [go_sem]
  refine fun q0 => ?_
  replace q0 : 0 ≤ (szWorld aW (1048576)) := by simpa using q0
  have cb_aW : (0 : Int) ≤ (1048576) ∧ (1048576) ≤ (1048576 : Int) := by omega
  have n_aW : aW.In (1048576) := szWorld_in (n := 1048576) cb_aW.1 cb_aW.2 q0
  have b_aW : 0 ≤ (szWorld aW (1048576)) ∧ (szWorld aW (1048576)) ≤ 1048576 := ⟨q0, Int.le_trans (szWorld_sane aW _ cb_aW.1) cb_aW.2⟩
  refine .of (c_l_toWorld aW (n_aW.len (by decide))) ?_
  simp -implicitDefEqProofs only [go_sem, eq_self, bne_self_eq_false, Bool.xor_self, true_implies, false_implies, marks_length, marks_take, take_map]
  repeat (first | refine ⟨rfl, ?_⟩ | refine ⟨by decide, ?_⟩ | refine ⟨⟨by decide, by decide⟩, ?_⟩)
  refine .of (c_s_WorldOk _ (n_aW.mono (by decide))) ?_
  simp -implicitDefEqProofs only [go_sem, eq_self, bne_self_eq_false, Bool.xor_self, true_implies, false_implies, marks_length, marks_take, take_map]
  repeat (first | refine ⟨rfl, ?_⟩ | refine ⟨by decide, ?_⟩ | refine ⟨⟨by decide, by decide⟩, ?_⟩)
  refine .of (c_l_toWorld aW (n_aW.len (by decide))) ?_
  simp -implicitDefEqProofs only [go_sem, eq_self, bne_self_eq_false, Bool.xor_self, true_implies, false_implies, marks_length, marks_take, take_map]
  repeat (first | refine ⟨rfl, ?_⟩ | refine ⟨by decide, ?_⟩ | refine ⟨⟨by decide, by decide⟩, ?_⟩)
  refine .of (c_i_WorldOk _ (n_aW.mono (by decide))) ?_
  simp -implicitDefEqProofs only [go_sem, eq_self, bne_self_eq_false, Bool.xor_self, true_implies, false_implies, marks_length, marks_take, take_map]
  repeat (first | refine ⟨rfl, ?_⟩ | refine ⟨by decide, ?_⟩ | refine ⟨⟨by decide, by decide⟩, ?_⟩)
  refine .of (c_l_toWorld aW (n_aW.len (by decide))) ?_
  simp -implicitDefEqProofs only [go_sem, eq_self, bne_self_eq_false, Bool.xor_self, true_implies, false_implies, marks_length, marks_take, take_map]
  repeat (first | refine ⟨rfl, ?_⟩ | refine ⟨by decide, ?_⟩ | refine ⟨⟨by decide, by decide⟩, ?_⟩)
  refine .of (c_l_eqWorld (aW) (aW) (n_aW.len (by decide))) ?_
  simp -implicitDefEqProofs only [go_sem, eq_self, bne_self_eq_false, Bool.xor_self, true_implies, false_implies, marks_length, marks_take, take_map]
  repeat (first | refine ⟨rfl, ?_⟩ | refine ⟨by decide, ?_⟩ | refine ⟨⟨by decide, by decide⟩, ?_⟩)
  try (first | decide | rfl)
end Go.X

/- A library function's contract of another make, as what it tells. -/
namespace Go.X
open Go.RowKit
def plainA : AV → Bool
  | .one (.pv _) => true
  | .one (.sl false _ _ _) => true
  | _ => false
theorem plainA_ts {x : GA} {a : AV} (h : x.er = a) (hp : plainA a = true) : ∃ t, x = .one t ∧ (∀ b, cnt b t = 0) := by
  subst h
  cases x with
  | one t =>
    refine ⟨t, rfl, fun b => ?_⟩
    cases t with
    | pv v => rfl
    | no v => simp [GA.er, X.er, plainA] at hp
    | sl o z v rows =>
      cases o with
      | false => rfl
      | true => simp [GA.er, X.er, plainA] at hp
  | agg ts => simp [GA.er, plainA] at hp
  | ptr A ts => simp [GA.er, plainA] at hp
theorem tells_lib {P : Program} {KP : Kept} {f : Nat} {avs : List AV} {us : List Value} (hp : avs.all plainA = true) (hu : us.all Value.oneCell' = true)
    (h : ∀ (S : Nat → Prop) (gs : List GA) (w : World), gs.map GA.er = avs → (∀ x ∈ gs, x.ok S w) → KP.ok S w → Calls P f (gs.map GA.val).toArray w fun e w' => e = .returned (resVal (us.map fun u => .one (.pv u))) ∧ Below w.heap.size w w') :
    Tells P KP f avs ⟨us.map fun u => .one (.pv u), avs.map AV.ts⟩ := by
  intro S gs w ha hS hok _ _ hK
  refine (h S gs w ha hok hK).mono ?_
  rintro e w' ⟨rfl, hB⟩
  have hpl : ∀ x ∈ gs, ∃ t, x = .one t ∧ (∀ b, cnt b t = 0) := fun x hx => by
    refine plainA_ts rfl ?_
    have : x.er ∈ avs := by rw [← ha]; exact List.mem_map_of_mem hx
    exact List.all_eq_true.1 hp _ this
  have hcl : ∀ b, ∀ l : List GA, (∀ x ∈ l, ∃ t, x = .one t ∧ (∀ b, cnt b t = 0)) → treeCnt b l = 0 ∧ ptrCnt b l = 0 ∧ cntL b (l.map GA.ts).flatten = 0 := fun b l => by
    induction l with
    | nil => intro _; exact ⟨rfl, rfl, rfl⟩
    | cons x l ih =>
      intro hl
      obtain ⟨t, rfl, ht⟩ := hl x (List.mem_cons_self ..)
      obtain ⟨h1, h2, h3⟩ := ih fun y hy => hl y (List.mem_cons_of_mem _ hy)
      have := ht b
      simp only [treeCnt, List.flatMap_cons, cntL_append, GA.ts, cntL, ptrCnt, GA.pb, List.map_cons, List.flatten_cons] at h1 h2 h3 ⊢
      omega
  have hmv : ∀ x ∈ gs, ∀ t ∈ x.ts, Rp S w' t := fun x hx t ht => by
    obtain ⟨t', rfl, hc⟩ := hpl x hx
    simp only [GA.ts, List.mem_singleton] at ht
    subst ht
    refine ((hok _ hx).1 t (by simp [GA.ts])).move (fun _ h => h) (fun b hb => hB.block b (hS b hb)) (fun b hb => ?_)
    have := hc b
    omega
  have hus : ∀ b, ∀ l : List Value, treeCnt b (l.map fun u => GA.one (.pv u)) = 0 ∧ ptrCnt b (l.map fun u => GA.one (.pv u)) = 0 := fun b l => by
    induction l with
    | nil => exact ⟨rfl, rfl⟩
    | cons u l ih =>
      obtain ⟨h1, h2⟩ := ih
      simp only [treeCnt, List.map_cons, List.flatMap_cons, cntL_append, GA.ts, cntL, cnt, ptrCnt, GA.pb] at h1 h2 ⊢
      omega
  refine ⟨us.map fun u => .one (.pv u), gs.map GA.ts, rfl, by simp [GA.er, X.er, Function.comp_def], ?_, ?_, ?_, ?_, ?_, ?_, ?_, ?_⟩
  · rw [← ha, List.map_map, List.map_map]
    exact List.map_congr_left fun x _ => (GA.er_ts x).symm
  · intro x hx
    obtain ⟨u, hu', rfl⟩ := List.mem_map.1 hx
    refine ⟨fun t ht => ?_, fun A ts e => by cases e⟩
    simp only [GA.ts, List.mem_singleton] at ht
    subst ht
    exact .pv (List.all_eq_true.1 hu _ hu')
  · intro o ho t ht
    obtain ⟨x, hx, rfl⟩ := List.mem_map.1 ho
    exact hmv x hx t ht
  · have : ∀ l : List GA, (∀ x ∈ l, ∃ t, x = .one t ∧ (∀ b, cnt b t = 0)) → OutsOK w' l (l.map GA.ts) := fun l => by
      induction l with
      | nil => intro _; trivial
      | cons x l ih =>
        intro hl
        obtain ⟨t, rfl, _⟩ := hl x (List.mem_cons_self ..)
        exact ⟨rfl, ih fun y hy => hl y (List.mem_cons_of_mem _ hy)⟩
    exact this gs hpl
  · intro b
    have h1 := hcl b gs hpl
    have h2 := hus b us
    omega
  · intro b hb
    have h1 := hcl b gs hpl
    have h2 := hus b us
    omega
  · refine ⟨hB.os, hB.tape, hB.output, hB.size, fun b hb _ => hB.block b hb, fun A ts hm => ?_⟩
    obtain ⟨t, e, _⟩ := hpl _ hm
    cases e
  · intro A ts hm
    obtain ⟨u, _, e⟩ := List.mem_map.1 hm
    cases e
/-- How bytes that are read lie in memory. -/
theorem rd_bytes {S : Nat → Prop} {w : World} {l : List UInt8} {v : Value} (h : Rd S w (.sl false 1 () (l.map fun a => [.pv (.int .u8 a.toNat)])) v) (hl : l ≠ []) :
    ∃ b off cap, v = .slice (some ⟨b, off, none⟩) l.length cap ∧ ∀ j (hj : j < l.length), w.cell? ⟨b, off + j, none⟩ = some (.int .u8 (l[j]).toNat) := by
  generalize ht : (Tr.sl false 1 () (l.map fun a => [.pv (.int .u8 a.toNat)]) : T) = t at h
  cases h with
  | pv h => cases ht
  | @sl z cap a rows u h1 h2 h3 h4 h5 =>
    cases ht
    have hlen : (l.map fun a => ([.pv (.int .u8 a.toNat)] : List T)).length = l.length := by simp
    have key : ∀ j (hj : j < l.length), ∃ ad, a = some ad ∧ w.cell? (ad.add j) = some (.int .u8 (l[j]).toNat) := fun j hj => by
      have hr : (l.map fun a => ([.pv (.int .u8 a.toNat)] : List T))[j]? = some [.pv (.int .u8 (l[j]).toNat)] := by simp [hj]
      obtain ⟨ad, e1, _, e2⟩ := h4 j _ 0 _ hr rfl
      have e3 := h5 j _ 0 _ hr rfl
      have e4 : u j 0 = .int .u8 (l[j]).toNat := by
        generalize hq : (Tr.pv (Value.int .u8 (l[j]).toNat) : T) = q at e3
        generalize u j 0 = x at e3
        cases e3 with
        | pv => cases hq; rfl
        | sl => cases hq
      exact ⟨ad, e1, by simpa [e4] using e2⟩
    obtain ⟨ad, rfl, e0⟩ := key 0 (by rcases l with _ | _; exact absurd rfl hl; simp)
    have hs : ad.spot = none := by
      have e0' : w.cell? ad = some (.int .u8 (l[0]'(by rcases l with _ | _; exact absurd rfl hl; simp)).toNat) := by simpa [Addr.add] using e0
      unfold World.cell? at e0'
      split at e0'
      · split at e0'
        · cases e0'
        · rename_i q; simpa using q
      · cases e0'
    obtain ⟨b, off, sp⟩ := ad
    simp only at hs
    subst hs
    refine ⟨b, off, cap, by rw [hlen], fun j hj => ?_⟩
    obtain ⟨ad', e1, e2⟩ := key j hj
    cases e1
    by_cases hz : j = 0
    · subst hz; simpa [Addr.add] using e2
    · simpa [Addr.add, hz] using e2
end Go.X

/- utf8.DecodeRune and utf8.ValidString, as they are told; the tables that they read stay. -/
namespace Go.X
open Go.RowKit Go.Proofs Go.Shelf
def keptU (g3 g4 : Nat) : Kept := ⟨fun S w => S g3 ∧ S g4 ∧ Lib.Utf8Tabs g3 g4 w, fun {S S' w w'} h hs hb => by
  obtain ⟨h1, h2, h3, h4⟩ := h
  refine ⟨hs _ h1, hs _ h2, fun c hc => ?_, fun i hi => ?_⟩
  · rw [World.cell?_of_block (w := w) (hb _ h1)]; exact h3 c hc
  · rw [World.cell?_of_block (w := w) (hb _ h2), World.cell?_of_block (w := w) (hb _ h2)]; exact h4 i hi⟩
theorem tells_decode {P : Program} {ρ : Ren} (L : Lays7.n32 P ρ) (l : List UInt8) (hl : l ≠ []) :
    Tells P (keptU (ρ.g 2) (ρ.g 3)) (ρ.f 32) [.one (.sl false 1 () (l.map fun a => [.pv (.int .u8 a.toNat)]))] ⟨[.one (.pv (.int .i32 (Lib.decodeGo ⟨l.toArray⟩).1)), .one (.pv (.int .i64 (Lib.decodeGo ⟨l.toArray⟩).2))], [[.sl false 1 () (l.map fun a => [.pv (.int .u8 a.toNat)])]]⟩ := by
  refine tells_lib (us := [.int .i32 (Lib.decodeGo ⟨l.toArray⟩).1, .int .i64 (Lib.decodeGo ⟨l.toArray⟩).2]) rfl rfl ?_
  intro S gs w ha hok hK
  rcases gs with _ | ⟨x, _ | ⟨y, gs⟩⟩
  · simp at ha
  · simp only [List.map_cons, List.map_nil, List.cons.injEq, and_true] at ha
    have hx := (hok x (List.mem_cons_self ..)).1
    cases x with
    | one t =>
      simp only [GA.er, AV.one.injEq] at ha
      have ht := hx t (by simp [GA.ts])
      have hrd : Rd S w (.sl false 1 () (l.map fun a => [.pv (.int .u8 a.toNat)])) (hdr t) := by
        rw [← ha]
        cases ht with
        | pv => simp [er] at ha
        | no => simp [er] at ha
        | ro h => exact h
        | nil => simp [er] at ha
        | own => simp [er] at ha
      obtain ⟨b, off, cap, e1, e2⟩ := rd_bytes hrd hl
      have := Any7.utf8_DecodeRune L ⟨l.toArray⟩ b off cap w hK.2.2 (fun j hj => by
        have hj' : j < l.length := by simpa [ByteArray.size] using hj
        rw [e2 j hj']
        congr 3
        simp [ByteArray.get!, hj'])
      have e3 : (⟨l.toArray⟩ : ByteArray).size = l.length := by simp [ByteArray.size]
      rw [e3, ← e1] at this
      exact this
    | agg ts => simp [GA.er] at ha
    | ptr A ts => simp [GA.er] at ha
  · simp at ha
theorem decodeGo_L {l : List UInt8} (hl : l ≠ []) : Lib.decodeGo ⟨l.toArray⟩ = Lib.decodeL l := by
  have : ¬ (⟨l.toArray⟩ : ByteArray).size = 0 := by
    simp only [ByteArray.size, List.size_toArray]
    intro e
    exact hl (List.length_eq_zero_iff.1 e)
  unfold Lib.decodeGo Lib.decodeL
  rw [if_neg this]
theorem tells_decodeL {P : Program} {ρ : Ren} (L : Lays7.n32 P ρ) (l : List UInt8) (hl : l ≠ []) :
    Tells P (keptU (ρ.g 2) (ρ.g 3)) (ρ.f 32) [.one (.sl false 1 () (l.map fun a => [.pv (.int .u8 a.toNat)]))] ⟨[.one (.pv (.int .i32 (Lib.decodeL l).1)), .one (.pv (.int .i64 (Lib.decodeL l).2))], [[.sl false 1 () (l.map fun a => [.pv (.int .u8 a.toNat)])]]⟩ := by
  have h := tells_decode L l hl
  rw [decodeGo_L hl] at h
  exact h
end Go.X

