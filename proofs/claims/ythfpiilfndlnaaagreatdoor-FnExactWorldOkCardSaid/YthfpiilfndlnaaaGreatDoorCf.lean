/- S -/
import Derived.Test.YthfpiilfndlnaaaGreatDoorCe
set_option linter.unusedVariables false
set_option linter.unusedSimpArgs false
namespace Go.X
set_option maxRecDepth 100000
set_option maxHeartbeats 8000000
def signOf (cs b : Int) : Int := bif cs == 2 then nine b else bif cs == 3 then koi 0 b else bif cs == 4 then winB winL b else b
def byteSign (cs b : Int) : Int × Bool := bif win cs 1 4 && win b 0 255 then (bif decide (b ≤ 127) then (b, true) else (signOf cs b, signOf cs b != 0)) else (0, false)
theorem koi_two : ∀ k : Fin 128, koi (-1) ((k.val : Int) + 128) = (bif koi 0 ((k.val : Int) + 128) == 0 then -1 else koi 0 ((k.val : Int) + 128)) ∧ 0 ≤ koi 0 ((k.val : Int) + 128) := by decide
theorem win_two : ∀ k : Fin 128, winB winM ((k.val : Int) + 128) = (bif winB winL ((k.val : Int) + 128) == 0 then -1 else winB winL ((k.val : Int) + 128)) ∧ 0 ≤ winB winL ((k.val : Int) + 128) := by decide
theorem nine_up : ∀ k : Fin 128, 0 < nine ((k.val : Int) + 128) := by decide
theorem at128 {p : Int → Prop} (h : ∀ k : Fin 128, p ((k.val : Int) + 128)) {b : Int} (hb : 128 ≤ b ∧ b ≤ 255) : p b := by
  have := h ⟨(b - 128).toNat, by omega⟩
  rwa [show (((b - 128).toNat : Nat) : Int) + 128 = b by omega] at this
theorem koi_rel {b : Int} (hb : 128 ≤ b ∧ b ≤ 255) : koi (-1) b = (bif koi 0 b == 0 then -1 else koi 0 b) ∧ 0 ≤ koi 0 b := at128 (p := fun b => koi (-1) b = (bif koi 0 b == 0 then -1 else koi 0 b) ∧ 0 ≤ koi 0 b) koi_two hb
theorem win_rel {b : Int} (hb : 128 ≤ b ∧ b ≤ 255) : winB winM b = (bif winB winL b == 0 then -1 else winB winL b) ∧ 0 ≤ winB winL b := at128 (p := fun b => winB winM b = (bif winB winL b == 0 then -1 else winB winL b) ∧ 0 ≤ winB winL b) win_two hb
theorem nine_rel {b : Int} (hb : 128 ≤ b ∧ b ≤ 255) : 0 < nine b := at128 (p := fun b => 0 < nine b) nine_up hb
def x_i_ByteSign : FnX := ⟨35, [.tmp 4, .tmp 5],
  .seq (.reg [⟨none, some 4, 4, .mv (.k (.one (.pv (.int .i64 0))))⟩,
   ⟨none, some 5, 5, .mv (.k (.one (.pv (.bool false))))⟩])
 (.seq (.seq (.reg [⟨none, some 7, 7, .mv (.t 0)⟩,
   ⟨none, some 8, 8, .call 31 [0, 0, 0] [(.t 7), (.k (.one (.pv (.int .i64 1)))), (.k (.one (.pv (.int .i64 4))))]⟩,
   ⟨none, some 9, 9, .not (.t 8)⟩,
   ⟨none, some 10, 10, .mv (.t 9)⟩,
   ⟨(some (10, false)), some 11, 11, .mv (.t 1)⟩,
   ⟨(some (10, false)), some 12, 12, .call 31 [0, 0, 0] [(.t 11), (.k (.one (.pv (.int .i64 0)))), (.k (.one (.pv (.int .i64 255))))]⟩,
   ⟨(some (10, false)), some 13, 13, .not (.t 12)⟩,
   ⟨none, some 14, 14, .pick (.t 10) (.k (.one (.pv (.bool true)))) (.t 13)⟩])
 (.cond 14 (.seq (.reg [⟨none, some 4, 4, .mv (.k (.one (.pv (.int .i64 0))))⟩,
   ⟨none, some 5, 5, .mv (.k (.one (.pv (.bool false))))⟩])
 (.ret)) (.skip)))
 (.seq (.seq (.reg [⟨none, some 15, 15, .mv (.t 1)⟩,
   ⟨none, some 16, 16, .bin .leq (.t 15) (.k (.one (.pv (.int .i64 127))))⟩])
 (.cond 16 (.seq (.reg [⟨none, some 17, 17, .mv (.t 1)⟩,
   ⟨none, some 4, 4, .mv (.t 17)⟩,
   ⟨none, some 5, 5, .mv (.k (.one (.pv (.bool true))))⟩])
 (.ret)) (.skip)))
 (.seq (.reg [⟨none, some 18, 18, .mv (.t 1)⟩,
   ⟨none, some 6, 6, .mv (.t 18)⟩])
 (.seq (.seq (.reg [⟨none, some 19, 19, .mv (.t 0)⟩])
 (.block 0 (.seq (.reg [⟨none, some 21, 21, .bin .eql (.t 19) (.k (.one (.pv (.int .i64 2))))⟩,
   ⟨none, some 20, 20, .mv (.t 21)⟩])
 (.cond 20 (.reg [⟨none, some 22, 22, .mv (.t 1)⟩,
   ⟨none, some 23, 23, .call 228 [0] [(.t 22)]⟩,
   ⟨none, some 6, 6, .mv (.t 23)⟩]) (.seq (.reg [⟨none, some 25, 25, .bin .eql (.t 19) (.k (.one (.pv (.int .i64 3))))⟩,
   ⟨none, some 24, 24, .mv (.t 25)⟩])
 (.cond 24 (.reg [⟨none, some 26, 26, .mv (.t 1)⟩,
   ⟨none, some 27, 27, .call 229 [0] [(.t 26)]⟩,
   ⟨none, some 6, 6, .mv (.t 27)⟩]) (.seq (.reg [⟨none, some 29, 29, .bin .eql (.t 19) (.k (.one (.pv (.int .i64 4))))⟩,
   ⟨none, some 28, 28, .mv (.t 29)⟩])
 (.cond 28 (.reg [⟨none, some 30, 30, .mv (.t 1)⟩,
   ⟨none, some 31, 31, .call 230 [0] [(.t 30)]⟩,
   ⟨none, some 6, 6, .mv (.t 31)⟩]) (.skip)))))))))
 (.seq (.reg [⟨none, some 32, 32, .mv (.t 6)⟩,
   ⟨none, some 33, 33, .mv (.t 6)⟩,
   ⟨none, some 34, 34, .bin .neq (.t 33) (.k (.one (.pv (.int .i64 0))))⟩,
   ⟨none, some 4, 4, .mv (.t 32)⟩,
   ⟨none, some 5, 5, .mv (.t 34)⟩])
 (.ret))))))⟩
abbrev C_i_ByteSign (Te : Nat → List AV → Res → Prop) : Prop := ∀ (cs b : Int), Te 203 [.one (iT cs), .one (iT b)] ⟨[.one (iT (byteSign cs b).1), .one (bT (byteSign cs b).2)], [[iT cs], [iT b]]⟩
theorem r_i_ByteSign {Te : Nat → List AV → Res → Prop} (c_i_within : C_i_within Te) (c_i_nineSign : C_i_nineSign Te) (c_i_koiSign : C_i_koiSign Te) (c_i_winSign : C_i_winSign Te) : ∀ (cs b : Int), RunFn Te x_i_ByteSign [.one (iT cs), .one (iT b)] ⟨[.one (iT (byteSign cs b).1), .one (bT (byteSign cs b).2)], [[iT cs], [iT b]]⟩ := by
  intro cs b
  refine ⟨by simp -implicitDefEqProofs only [x_i_ByteSign, go_sem], ?_⟩
  simp -implicitDefEqProofs only [x_i_ByteSign, go_sem, true_implies, false_implies]
  refine .of (c_i_within _ _ _) ?_
  try simp -implicitDefEqProofs only [go_sem, true_implies, false_implies]
  cases g1 : win cs 1 4
  · try simp -implicitDefEqProofs only [go_sem, true_implies, false_implies, byteSign, g1]
  · try simp -implicitDefEqProofs only [go_sem, true_implies, false_implies]
    refine .of (c_i_within _ _ _) ?_
    try simp -implicitDefEqProofs only [go_sem, true_implies, false_implies]
    cases g2 : win b 0 255
    · try simp -implicitDefEqProofs only [go_sem, true_implies, false_implies, byteSign, g1, g2]
    · cases g3 : decide (b ≤ 127)
      · have hb : 128 ≤ b ∧ b ≤ 255 := by simp only [win, Bool.and_eq_true, decide_eq_true_eq] at g2; simp only [decide_eq_false_iff_not] at g3; omega
        try simp -implicitDefEqProofs only [go_sem, true_implies, false_implies, g3]
        cases g4 : (cs == 2)
        · cases g5 : (cs == 3)
          · cases g6 : (cs == 4)
            · try simp -implicitDefEqProofs only [go_sem, true_implies, false_implies, g4, g5, g6, byteSign, signOf, g1, g2, g3]
            · try simp -implicitDefEqProofs only [go_sem, true_implies, false_implies, g4, g5, g6]
              refine .of (c_i_winSign _ hb) ?_
              try simp -implicitDefEqProofs only [go_sem, true_implies, false_implies, byteSign, signOf, g1, g2, g3, g4, g5, g6]
          · try simp -implicitDefEqProofs only [go_sem, true_implies, false_implies, g4, g5]
            refine .of (c_i_koiSign _ hb) ?_
            try simp -implicitDefEqProofs only [go_sem, true_implies, false_implies, byteSign, signOf, g1, g2, g3, g4, g5]
        · try simp -implicitDefEqProofs only [go_sem, true_implies, false_implies, g4]
          refine .of (c_i_nineSign _) ?_
          try simp -implicitDefEqProofs only [go_sem, true_implies, false_implies, byteSign, signOf, g1, g2, g3, g4]
      · try simp -implicitDefEqProofs only [go_sem, true_implies, false_implies, g3, byteSign, g1, g2]
def x_s_ByteSign : FnX := ⟨34, [.tmp 4, .tmp 5],
  .seq (.reg [⟨none, some 4, 4, .mv (.k (.one (.pv (.int .i64 0))))⟩,
   ⟨none, some 5, 5, .mv (.k (.one (.pv (.bool false))))⟩])
 (.seq (.seq (.reg [⟨none, some 7, 7, .mv (.t 0)⟩,
   ⟨none, some 8, 8, .call 29 [0, 0, 0] [(.t 7), (.k (.one (.pv (.int .i64 1)))), (.k (.one (.pv (.int .i64 4))))]⟩,
   ⟨none, some 9, 9, .not (.t 8)⟩,
   ⟨none, some 10, 10, .mv (.t 9)⟩,
   ⟨(some (10, false)), some 11, 11, .mv (.t 1)⟩,
   ⟨(some (10, false)), some 12, 12, .call 29 [0, 0, 0] [(.t 11), (.k (.one (.pv (.int .i64 0)))), (.k (.one (.pv (.int .i64 255))))]⟩,
   ⟨(some (10, false)), some 13, 13, .not (.t 12)⟩,
   ⟨none, some 14, 14, .pick (.t 10) (.k (.one (.pv (.bool true)))) (.t 13)⟩])
 (.cond 14 (.seq (.reg [⟨none, some 4, 4, .mv (.k (.one (.pv (.int .i64 0))))⟩,
   ⟨none, some 5, 5, .mv (.k (.one (.pv (.bool false))))⟩])
 (.ret)) (.skip)))
 (.seq (.reg [⟨none, some 15, 15, .mv (.t 1)⟩,
   ⟨none, some 6, 6, .mv (.t 15)⟩])
 (.seq (.seq (.reg [⟨none, some 16, 16, .mv (.t 1)⟩,
   ⟨none, some 17, 17, .bin .geq (.t 16) (.k (.one (.pv (.int .i64 128))))⟩])
 (.cond 17 (.seq (.reg [⟨none, some 18, 18, .mv (.t 0)⟩])
 (.block 0 (.seq (.reg [⟨none, some 20, 20, .bin .eql (.t 18) (.k (.one (.pv (.int .i64 2))))⟩,
   ⟨none, some 19, 19, .mv (.t 20)⟩])
 (.cond 19 (.reg [⟨none, some 21, 21, .mv (.t 1)⟩,
   ⟨none, some 22, 22, .call 223 [0] [(.t 21)]⟩,
   ⟨none, some 6, 6, .mv (.t 22)⟩]) (.seq (.reg [⟨none, some 24, 24, .bin .eql (.t 18) (.k (.one (.pv (.int .i64 3))))⟩,
   ⟨none, some 23, 23, .mv (.t 24)⟩])
 (.cond 23 (.reg [⟨none, some 25, 25, .mv (.t 1)⟩,
   ⟨none, some 26, 26, .call 224 [0] [(.t 25)]⟩,
   ⟨none, some 6, 6, .mv (.t 26)⟩]) (.seq (.reg [⟨none, some 28, 28, .bin .eql (.t 18) (.k (.one (.pv (.int .i64 4))))⟩,
   ⟨none, some 27, 27, .mv (.t 28)⟩])
 (.cond 27 (.reg [⟨none, some 29, 29, .mv (.t 1)⟩,
   ⟨none, some 30, 30, .call 225 [0] [(.t 29)]⟩,
   ⟨none, some 6, 6, .mv (.t 30)⟩]) (.skip))))))))) (.skip)))
 (.seq (.seq (.reg [⟨none, some 31, 31, .mv (.t 6)⟩,
   ⟨none, some 32, 32, .bin .lss (.t 31) (.k (.one (.pv (.int .i64 0))))⟩])
 (.cond 32 (.seq (.reg [⟨none, some 4, 4, .mv (.k (.one (.pv (.int .i64 0))))⟩,
   ⟨none, some 5, 5, .mv (.k (.one (.pv (.bool false))))⟩])
 (.ret)) (.skip)))
 (.seq (.reg [⟨none, some 33, 33, .mv (.t 6)⟩,
   ⟨none, some 4, 4, .mv (.t 33)⟩,
   ⟨none, some 5, 5, .mv (.k (.one (.pv (.bool true))))⟩])
 (.ret))))))⟩
abbrev C_s_ByteSign (Te : Nat → List AV → Res → Prop) : Prop := ∀ (cs b : Int), Te 198 [.one (iT cs), .one (iT b)] ⟨[.one (iT (byteSign cs b).1), .one (bT (byteSign cs b).2)], [[iT cs], [iT b]]⟩
theorem r_s_ByteSign {Te : Nat → List AV → Res → Prop} (c_s_l1In : C_s_l1In Te) (c_s_l3Nine : C_s_l3Nine Te) (c_s_l3Koi : C_s_l3Koi Te) (c_s_l3Win : C_s_l3Win Te) : ∀ (cs b : Int), RunFn Te x_s_ByteSign [.one (iT cs), .one (iT b)] ⟨[.one (iT (byteSign cs b).1), .one (bT (byteSign cs b).2)], [[iT cs], [iT b]]⟩ := by
  intro cs b
  refine ⟨by simp -implicitDefEqProofs only [x_s_ByteSign, go_sem], ?_⟩
  simp -implicitDefEqProofs only [x_s_ByteSign, go_sem, true_implies, false_implies]
  refine .of (c_s_l1In _ _ _) ?_
  try simp -implicitDefEqProofs only [go_sem, true_implies, false_implies]
  cases g1 : win cs 1 4
  · try simp -implicitDefEqProofs only [go_sem, true_implies, false_implies, byteSign, g1]
  · try simp -implicitDefEqProofs only [go_sem, true_implies, false_implies]
    refine .of (c_s_l1In _ _ _) ?_
    try simp -implicitDefEqProofs only [go_sem, true_implies, false_implies]
    cases g2 : win b 0 255
    · try simp -implicitDefEqProofs only [go_sem, true_implies, false_implies, byteSign, g1, g2]
    · have h2 : 0 ≤ b ∧ b ≤ 255 := by simpa only [win, Bool.and_eq_true, decide_eq_true_eq] using g2
      cases g3 : decide (b ≥ 128)
      · have g3' : decide (b ≤ 127) = true := by simp only [decide_eq_false_iff_not] at g3; exact decide_eq_true (by omega)
        have g7 : decide (b < 0) = false := decide_eq_false (by omega)
        try simp -implicitDefEqProofs only [go_sem, true_implies, false_implies, g3, g7, byteSign, g1, g2, g3']
      · have hb : 128 ≤ b ∧ b ≤ 255 := by simp only [decide_eq_true_eq] at g3; omega
        have g3' : decide (b ≤ 127) = false := decide_eq_false (by omega)
        try simp -implicitDefEqProofs only [go_sem, true_implies, false_implies, g3]
        cases g4 : (cs == 2)
        · cases g5 : (cs == 3)
          · cases g6 : (cs == 4)
            · have g7 : decide (b < 0) = false := decide_eq_false (by omega)
              have g8 : (b != 0) = true := by simp; omega
              try simp -implicitDefEqProofs only [go_sem, true_implies, false_implies, g4, g5, g6, g7, g8, byteSign, signOf, g1, g2, g3']
            · try simp -implicitDefEqProofs only [go_sem, true_implies, false_implies, g4, g5, g6]
              refine .of (c_s_l3Win _ hb) ?_
              try simp -implicitDefEqProofs only [go_sem, true_implies, false_implies]
              obtain ⟨w1, w2⟩ := win_rel hb
              cases g9 : (winB winL b == 0)
              · have g7 : decide (winB winL b < 0) = false := decide_eq_false (by omega)
                have g8 : (winB winL b != 0) = true := by simpa using g9
                simp only [g9, cond_false] at w1
                try simp -implicitDefEqProofs only [go_sem, true_implies, false_implies, w1, g7, g8, byteSign, signOf, g1, g2, g3', g4, g5, g6]
              · have g8 : winB winL b = 0 := by simpa using g9
                simp only [g9, cond_true] at w1
                try simp -implicitDefEqProofs only [go_sem, true_implies, false_implies, w1, g8, byteSign, signOf, g1, g2, g3', g4, g5, g6]
                try rfl
          · try simp -implicitDefEqProofs only [go_sem, true_implies, false_implies, g4, g5]
            refine .of (c_s_l3Koi _ hb) ?_
            try simp -implicitDefEqProofs only [go_sem, true_implies, false_implies]
            obtain ⟨w1, w2⟩ := koi_rel hb
            cases g9 : (koi 0 b == 0)
            · have g7 : decide (koi 0 b < 0) = false := decide_eq_false (by omega)
              have g8 : (koi 0 b != 0) = true := by simpa using g9
              simp only [g9, cond_false] at w1
              try simp -implicitDefEqProofs only [go_sem, true_implies, false_implies, w1, g7, g8, byteSign, signOf, g1, g2, g3', g4, g5]
            · have g8 : koi 0 b = 0 := by simpa using g9
              simp only [g9, cond_true] at w1
              try simp -implicitDefEqProofs only [go_sem, true_implies, false_implies, w1, g8, byteSign, signOf, g1, g2, g3', g4, g5]
              try rfl
        · try simp -implicitDefEqProofs only [go_sem, true_implies, false_implies, g4]
          refine .of (c_s_l3Nine _) ?_
          try simp -implicitDefEqProofs only [go_sem, true_implies, false_implies]
          have w1 := nine_rel hb
          have g7 : decide (nine b < 0) = false := decide_eq_false (by omega)
          have g8 : (nine b != 0) = true := by simp; omega
          try simp -implicitDefEqProofs only [go_sem, true_implies, false_implies, g7, g8, byteSign, signOf, g1, g2, g3', g4]
end Go.X

