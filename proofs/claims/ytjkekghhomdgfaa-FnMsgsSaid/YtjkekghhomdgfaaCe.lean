/- Texts: CR CS. -/
import Derived.Test.YtjkekghhomdgfaaCd
set_option linter.unusedVariables false
set_option linter.unusedSimpArgs false
/- R -/
namespace Go.X
set_option maxRecDepth 100000
set_option maxHeartbeats 8000000
def koiL : List Int := [1102, 1072, 1073, 1094, 1076, 1077, 1092, 1075, 1093, 1080, 1081, 1082, 1083, 1084, 1085, 1086, 1087, 1103, 1088, 1089, 1090, 1091, 1078, 1074, 1100, 1099, 1079, 1096, 1101, 1097, 1095, 1098]
def winL : List Int := [8364, 0, 8218, 402, 8222, 8230, 8224, 8225, 710, 8240, 352, 8249, 338, 0, 381, 0, 0, 8216, 8217, 8220, 8221, 8226, 8211, 8212, 732, 8482, 353, 8250, 339, 0, 382, 376]
def winM : List Int := [8364, -1, 8218, 402, 8222, 8230, 8224, 8225, 710, 8240, 352, 8249, 338, -1, 381, -1, -1, 8216, 8217, 8220, 8221, 8226, 8211, 8212, 732, 8482, 353, 8250, 339, -1, 382, 376]
def nine (b : Int) : Int := bif b == 164 then 8364 else bif b == 166 then 352 else bif b == 168 then 353 else bif b == 180 then 381 else bif b == 184 then 382 else bif b == 188 then 338 else bif b == 189 then 339 else bif b == 190 then 376 else b
def koi (d b : Int) : Int := bif decide (b ≥ 224) then koiL.getD (b - 224).toNat 0 - 32 else bif decide (b ≥ 192) then koiL.getD (b - 192).toNat 0 else bif b == 163 then 1105 else bif b == 179 then 1025 else d
def winB (l : List Int) (b : Int) : Int := bif decide (b ≥ 160) then b else l.getD (b - 128).toNat 0
theorem koi_in : ∀ k : Fin 32, 0 ≤ koiL.getD k.val 0 ∧ koiL.getD k.val 0 ≤ 65535 := by decide
theorem getD_at {l : List Int} {k : Nat} (hk : k < l.length) : l[k]? = some (l.getD k 0) := by rw [List.getD_eq_getElem?_getD, List.getElem?_eq_getElem hk]; rfl
theorem koi_cel {k : Nat} (hk : k < 32) : ([Cel.pv (Value.int IntKind.i64 1102), Cel.pv (Value.int IntKind.i64 1072), Cel.pv (Value.int IntKind.i64 1073), Cel.pv (Value.int IntKind.i64 1094), Cel.pv (Value.int IntKind.i64 1076), Cel.pv (Value.int IntKind.i64 1077), Cel.pv (Value.int IntKind.i64 1092), Cel.pv (Value.int IntKind.i64 1075), Cel.pv (Value.int IntKind.i64 1093), Cel.pv (Value.int IntKind.i64 1080), Cel.pv (Value.int IntKind.i64 1081), Cel.pv (Value.int IntKind.i64 1082), Cel.pv (Value.int IntKind.i64 1083), Cel.pv (Value.int IntKind.i64 1084), Cel.pv (Value.int IntKind.i64 1085), Cel.pv (Value.int IntKind.i64 1086), Cel.pv (Value.int IntKind.i64 1087), Cel.pv (Value.int IntKind.i64 1103), Cel.pv (Value.int IntKind.i64 1088), Cel.pv (Value.int IntKind.i64 1089), Cel.pv (Value.int IntKind.i64 1090), Cel.pv (Value.int IntKind.i64 1091), Cel.pv (Value.int IntKind.i64 1078), Cel.pv (Value.int IntKind.i64 1074), Cel.pv (Value.int IntKind.i64 1100), Cel.pv (Value.int IntKind.i64 1099), Cel.pv (Value.int IntKind.i64 1079), Cel.pv (Value.int IntKind.i64 1096), Cel.pv (Value.int IntKind.i64 1101), Cel.pv (Value.int IntKind.i64 1097), Cel.pv (Value.int IntKind.i64 1095), Cel.pv (Value.int IntKind.i64 1098)] : List Cel)[k]? = some (Cel.pv (Value.int IntKind.i64 (koiL.getD k 0))) := by
  show (koiL.map fun a => Cel.pv (Value.int IntKind.i64 a))[k]? = _
  rw [List.getElem?_map, getD_at (l := koiL) hk]; rfl
theorem win_cel {k : Nat} (hk : k < 32) : ([Cel.pv (Value.int IntKind.i64 8364), Cel.pv (Value.int IntKind.i64 0), Cel.pv (Value.int IntKind.i64 8218), Cel.pv (Value.int IntKind.i64 402), Cel.pv (Value.int IntKind.i64 8222), Cel.pv (Value.int IntKind.i64 8230), Cel.pv (Value.int IntKind.i64 8224), Cel.pv (Value.int IntKind.i64 8225), Cel.pv (Value.int IntKind.i64 710), Cel.pv (Value.int IntKind.i64 8240), Cel.pv (Value.int IntKind.i64 352), Cel.pv (Value.int IntKind.i64 8249), Cel.pv (Value.int IntKind.i64 338), Cel.pv (Value.int IntKind.i64 0), Cel.pv (Value.int IntKind.i64 381), Cel.pv (Value.int IntKind.i64 0), Cel.pv (Value.int IntKind.i64 0), Cel.pv (Value.int IntKind.i64 8216), Cel.pv (Value.int IntKind.i64 8217), Cel.pv (Value.int IntKind.i64 8220), Cel.pv (Value.int IntKind.i64 8221), Cel.pv (Value.int IntKind.i64 8226), Cel.pv (Value.int IntKind.i64 8211), Cel.pv (Value.int IntKind.i64 8212), Cel.pv (Value.int IntKind.i64 732), Cel.pv (Value.int IntKind.i64 8482), Cel.pv (Value.int IntKind.i64 353), Cel.pv (Value.int IntKind.i64 8250), Cel.pv (Value.int IntKind.i64 339), Cel.pv (Value.int IntKind.i64 0), Cel.pv (Value.int IntKind.i64 382), Cel.pv (Value.int IntKind.i64 376)] : List Cel)[k]? = some (Cel.pv (Value.int IntKind.i64 (winL.getD k 0))) := by
  show (winL.map fun a => Cel.pv (Value.int IntKind.i64 a))[k]? = _
  rw [List.getElem?_map, getD_at (l := winL) hk]; rfl
theorem koi_row {k : Nat} (hk : k < 32) : ([[Tr.pv (Value.int IntKind.i64 1102)], [Tr.pv (Value.int IntKind.i64 1072)], [Tr.pv (Value.int IntKind.i64 1073)], [Tr.pv (Value.int IntKind.i64 1094)], [Tr.pv (Value.int IntKind.i64 1076)], [Tr.pv (Value.int IntKind.i64 1077)], [Tr.pv (Value.int IntKind.i64 1092)], [Tr.pv (Value.int IntKind.i64 1075)], [Tr.pv (Value.int IntKind.i64 1093)], [Tr.pv (Value.int IntKind.i64 1080)], [Tr.pv (Value.int IntKind.i64 1081)], [Tr.pv (Value.int IntKind.i64 1082)], [Tr.pv (Value.int IntKind.i64 1083)], [Tr.pv (Value.int IntKind.i64 1084)], [Tr.pv (Value.int IntKind.i64 1085)], [Tr.pv (Value.int IntKind.i64 1086)], [Tr.pv (Value.int IntKind.i64 1087)], [Tr.pv (Value.int IntKind.i64 1103)], [Tr.pv (Value.int IntKind.i64 1088)], [Tr.pv (Value.int IntKind.i64 1089)], [Tr.pv (Value.int IntKind.i64 1090)], [Tr.pv (Value.int IntKind.i64 1091)], [Tr.pv (Value.int IntKind.i64 1078)], [Tr.pv (Value.int IntKind.i64 1074)], [Tr.pv (Value.int IntKind.i64 1100)], [Tr.pv (Value.int IntKind.i64 1099)], [Tr.pv (Value.int IntKind.i64 1079)], [Tr.pv (Value.int IntKind.i64 1096)], [Tr.pv (Value.int IntKind.i64 1101)], [Tr.pv (Value.int IntKind.i64 1097)], [Tr.pv (Value.int IntKind.i64 1095)], [Tr.pv (Value.int IntKind.i64 1098)]] : List (List T))[k]? = some ([Tr.pv (Value.int IntKind.i64 (koiL.getD k 0))]) := by
  show (koiL.map fun a => [Tr.pv (Value.int IntKind.i64 a)])[k]? = _
  rw [List.getElem?_map, getD_at (l := koiL) hk]; rfl
theorem win_row {k : Nat} (hk : k < 32) : ([[Tr.pv (Value.int IntKind.i64 8364)], [Tr.pv (Value.int IntKind.i64 (-1))], [Tr.pv (Value.int IntKind.i64 8218)], [Tr.pv (Value.int IntKind.i64 402)], [Tr.pv (Value.int IntKind.i64 8222)], [Tr.pv (Value.int IntKind.i64 8230)], [Tr.pv (Value.int IntKind.i64 8224)], [Tr.pv (Value.int IntKind.i64 8225)], [Tr.pv (Value.int IntKind.i64 710)], [Tr.pv (Value.int IntKind.i64 8240)], [Tr.pv (Value.int IntKind.i64 352)], [Tr.pv (Value.int IntKind.i64 8249)], [Tr.pv (Value.int IntKind.i64 338)], [Tr.pv (Value.int IntKind.i64 (-1))], [Tr.pv (Value.int IntKind.i64 381)], [Tr.pv (Value.int IntKind.i64 (-1))], [Tr.pv (Value.int IntKind.i64 (-1))], [Tr.pv (Value.int IntKind.i64 8216)], [Tr.pv (Value.int IntKind.i64 8217)], [Tr.pv (Value.int IntKind.i64 8220)], [Tr.pv (Value.int IntKind.i64 8221)], [Tr.pv (Value.int IntKind.i64 8226)], [Tr.pv (Value.int IntKind.i64 8211)], [Tr.pv (Value.int IntKind.i64 8212)], [Tr.pv (Value.int IntKind.i64 732)], [Tr.pv (Value.int IntKind.i64 8482)], [Tr.pv (Value.int IntKind.i64 353)], [Tr.pv (Value.int IntKind.i64 8250)], [Tr.pv (Value.int IntKind.i64 339)], [Tr.pv (Value.int IntKind.i64 (-1))], [Tr.pv (Value.int IntKind.i64 382)], [Tr.pv (Value.int IntKind.i64 376)]] : List (List T))[k]? = some ([Tr.pv (Value.int IntKind.i64 (winM.getD k 0))]) := by
  show (winM.map fun a => [Tr.pv (Value.int IntKind.i64 a)])[k]? = _
  rw [List.getElem?_map, getD_at (l := winM) hk]; rfl
def x_s_l3Nine : FnX := ⟨21, [.tmp 2],
  .seq (.reg [⟨none, some 2, 2, .mv (.k (.one (.pv (.int .i64 0))))⟩])
 (.seq (.seq (.reg [⟨none, some 3, 3, .mv (.t 0)⟩])
 (.block 0 (.seq (.reg [⟨none, some 5, 5, .bin .eql (.t 3) (.k (.one (.pv (.int .i64 164))))⟩,
   ⟨none, some 4, 4, .mv (.t 5)⟩])
 (.cond 4 (.seq (.reg [⟨none, some 2, 2, .mv (.k (.one (.pv (.int .i64 8364))))⟩])
 (.ret)) (.seq (.reg [⟨none, some 7, 7, .bin .eql (.t 3) (.k (.one (.pv (.int .i64 166))))⟩,
   ⟨none, some 6, 6, .mv (.t 7)⟩])
 (.cond 6 (.seq (.reg [⟨none, some 2, 2, .mv (.k (.one (.pv (.int .i64 352))))⟩])
 (.ret)) (.seq (.reg [⟨none, some 9, 9, .bin .eql (.t 3) (.k (.one (.pv (.int .i64 168))))⟩,
   ⟨none, some 8, 8, .mv (.t 9)⟩])
 (.cond 8 (.seq (.reg [⟨none, some 2, 2, .mv (.k (.one (.pv (.int .i64 353))))⟩])
 (.ret)) (.seq (.reg [⟨none, some 11, 11, .bin .eql (.t 3) (.k (.one (.pv (.int .i64 180))))⟩,
   ⟨none, some 10, 10, .mv (.t 11)⟩])
 (.cond 10 (.seq (.reg [⟨none, some 2, 2, .mv (.k (.one (.pv (.int .i64 381))))⟩])
 (.ret)) (.seq (.reg [⟨none, some 13, 13, .bin .eql (.t 3) (.k (.one (.pv (.int .i64 184))))⟩,
   ⟨none, some 12, 12, .mv (.t 13)⟩])
 (.cond 12 (.seq (.reg [⟨none, some 2, 2, .mv (.k (.one (.pv (.int .i64 382))))⟩])
 (.ret)) (.seq (.reg [⟨none, some 15, 15, .bin .eql (.t 3) (.k (.one (.pv (.int .i64 188))))⟩,
   ⟨none, some 14, 14, .mv (.t 15)⟩])
 (.cond 14 (.seq (.reg [⟨none, some 2, 2, .mv (.k (.one (.pv (.int .i64 338))))⟩])
 (.ret)) (.seq (.reg [⟨none, some 17, 17, .bin .eql (.t 3) (.k (.one (.pv (.int .i64 189))))⟩,
   ⟨none, some 16, 16, .mv (.t 17)⟩])
 (.cond 16 (.seq (.reg [⟨none, some 2, 2, .mv (.k (.one (.pv (.int .i64 339))))⟩])
 (.ret)) (.seq (.reg [⟨none, some 19, 19, .bin .eql (.t 3) (.k (.one (.pv (.int .i64 190))))⟩,
   ⟨none, some 18, 18, .mv (.t 19)⟩])
 (.cond 18 (.seq (.reg [⟨none, some 2, 2, .mv (.k (.one (.pv (.int .i64 376))))⟩])
 (.ret)) (.skip)))))))))))))))))))
 (.seq (.reg [⟨none, some 20, 20, .mv (.t 0)⟩,
   ⟨none, some 2, 2, .mv (.t 20)⟩])
 (.ret)))⟩
abbrev C_s_l3Nine (Te : Nat → List AV → Res → Prop) : Prop := ∀ (b : Int), Te 95 [.one (iT b)] ⟨[.one (iT (nine b))], [[iT b]]⟩
theorem r_s_l3Nine {Te : Nat → List AV → Res → Prop} : ∀ (b : Int), RunFn Te x_s_l3Nine [.one (iT b)] ⟨[.one (iT (nine b))], [[iT b]]⟩ := by
  intro b
  refine ⟨by simp -implicitDefEqProofs (maxSteps := 1000000) only [x_s_l3Nine, go_sem], ?_⟩
  cases g0 : (b == 164)
  rotate_left
  · simp -implicitDefEqProofs (maxSteps := 1000000) only [x_s_l3Nine, go_sem, true_implies, false_implies, nine, g0]
    repeat (first | refine ⟨rfl, ?_⟩ | refine ⟨by decide, ?_⟩ | refine ⟨⟨by decide, by decide⟩, ?_⟩ | refine ⟨decide_eq_true (by omega), ?_⟩ | refine ⟨⟨decide_eq_true (by omega), decide_eq_true (by omega)⟩, ?_⟩)
    try (first | done | decide | exact decide_eq_true (by omega) | exact ⟨decide_eq_true (by omega), decide_eq_true (by omega)⟩)
  cases g1 : (b == 166)
  rotate_left
  · simp -implicitDefEqProofs (maxSteps := 1000000) only [x_s_l3Nine, go_sem, true_implies, false_implies, nine, g1, g0]
    repeat (first | refine ⟨rfl, ?_⟩ | refine ⟨by decide, ?_⟩ | refine ⟨⟨by decide, by decide⟩, ?_⟩ | refine ⟨decide_eq_true (by omega), ?_⟩ | refine ⟨⟨decide_eq_true (by omega), decide_eq_true (by omega)⟩, ?_⟩)
    try (first | done | decide | exact decide_eq_true (by omega) | exact ⟨decide_eq_true (by omega), decide_eq_true (by omega)⟩)
  cases g2 : (b == 168)
  rotate_left
  · simp -implicitDefEqProofs (maxSteps := 1000000) only [x_s_l3Nine, go_sem, true_implies, false_implies, nine, g2, g0, g1]
    repeat (first | refine ⟨rfl, ?_⟩ | refine ⟨by decide, ?_⟩ | refine ⟨⟨by decide, by decide⟩, ?_⟩ | refine ⟨decide_eq_true (by omega), ?_⟩ | refine ⟨⟨decide_eq_true (by omega), decide_eq_true (by omega)⟩, ?_⟩)
    try (first | done | decide | exact decide_eq_true (by omega) | exact ⟨decide_eq_true (by omega), decide_eq_true (by omega)⟩)
  cases g3 : (b == 180)
  rotate_left
  · simp -implicitDefEqProofs (maxSteps := 1000000) only [x_s_l3Nine, go_sem, true_implies, false_implies, nine, g3, g0, g1, g2]
    repeat (first | refine ⟨rfl, ?_⟩ | refine ⟨by decide, ?_⟩ | refine ⟨⟨by decide, by decide⟩, ?_⟩ | refine ⟨decide_eq_true (by omega), ?_⟩ | refine ⟨⟨decide_eq_true (by omega), decide_eq_true (by omega)⟩, ?_⟩)
    try (first | done | decide | exact decide_eq_true (by omega) | exact ⟨decide_eq_true (by omega), decide_eq_true (by omega)⟩)
  cases g4 : (b == 184)
  rotate_left
  · simp -implicitDefEqProofs (maxSteps := 1000000) only [x_s_l3Nine, go_sem, true_implies, false_implies, nine, g4, g0, g1, g2, g3]
    repeat (first | refine ⟨rfl, ?_⟩ | refine ⟨by decide, ?_⟩ | refine ⟨⟨by decide, by decide⟩, ?_⟩ | refine ⟨decide_eq_true (by omega), ?_⟩ | refine ⟨⟨decide_eq_true (by omega), decide_eq_true (by omega)⟩, ?_⟩)
    try (first | done | decide | exact decide_eq_true (by omega) | exact ⟨decide_eq_true (by omega), decide_eq_true (by omega)⟩)
  cases g5 : (b == 188)
  rotate_left
  · simp -implicitDefEqProofs (maxSteps := 1000000) only [x_s_l3Nine, go_sem, true_implies, false_implies, nine, g5, g0, g1, g2, g3, g4]
    repeat (first | refine ⟨rfl, ?_⟩ | refine ⟨by decide, ?_⟩ | refine ⟨⟨by decide, by decide⟩, ?_⟩ | refine ⟨decide_eq_true (by omega), ?_⟩ | refine ⟨⟨decide_eq_true (by omega), decide_eq_true (by omega)⟩, ?_⟩)
    try (first | done | decide | exact decide_eq_true (by omega) | exact ⟨decide_eq_true (by omega), decide_eq_true (by omega)⟩)
  cases g6 : (b == 189)
  rotate_left
  · simp -implicitDefEqProofs (maxSteps := 1000000) only [x_s_l3Nine, go_sem, true_implies, false_implies, nine, g6, g0, g1, g2, g3, g4, g5]
    repeat (first | refine ⟨rfl, ?_⟩ | refine ⟨by decide, ?_⟩ | refine ⟨⟨by decide, by decide⟩, ?_⟩ | refine ⟨decide_eq_true (by omega), ?_⟩ | refine ⟨⟨decide_eq_true (by omega), decide_eq_true (by omega)⟩, ?_⟩)
    try (first | done | decide | exact decide_eq_true (by omega) | exact ⟨decide_eq_true (by omega), decide_eq_true (by omega)⟩)
  cases g7 : (b == 190)
  rotate_left
  · simp -implicitDefEqProofs (maxSteps := 1000000) only [x_s_l3Nine, go_sem, true_implies, false_implies, nine, g7, g0, g1, g2, g3, g4, g5, g6]
    repeat (first | refine ⟨rfl, ?_⟩ | refine ⟨by decide, ?_⟩ | refine ⟨⟨by decide, by decide⟩, ?_⟩ | refine ⟨decide_eq_true (by omega), ?_⟩ | refine ⟨⟨decide_eq_true (by omega), decide_eq_true (by omega)⟩, ?_⟩)
    try (first | done | decide | exact decide_eq_true (by omega) | exact ⟨decide_eq_true (by omega), decide_eq_true (by omega)⟩)
  simp -implicitDefEqProofs (maxSteps := 1000000) only [x_s_l3Nine, go_sem, true_implies, false_implies, nine, g0, g1, g2, g3, g4, g5, g6, g7]
  repeat (first | refine ⟨rfl, ?_⟩ | refine ⟨by decide, ?_⟩ | refine ⟨⟨by decide, by decide⟩, ?_⟩ | refine ⟨decide_eq_true (by omega), ?_⟩ | refine ⟨⟨decide_eq_true (by omega), decide_eq_true (by omega)⟩, ?_⟩)
  try (first | done | decide | exact decide_eq_true (by omega) | exact ⟨decide_eq_true (by omega), decide_eq_true (by omega)⟩)
def x_s_l3Koi : FnX := ⟨28, [.tmp 2],
  .seq (.reg [⟨none, some 2, 2, .mv (.k (.one (.pv (.int .i64 0))))⟩])
 (.seq (.reg [⟨none, some 4, 4, .bslice 1 [(.k (.one (.pv (.int .i64 1102)))), (.k (.one (.pv (.int .i64 1072)))), (.k (.one (.pv (.int .i64 1073)))), (.k (.one (.pv (.int .i64 1094)))), (.k (.one (.pv (.int .i64 1076)))), (.k (.one (.pv (.int .i64 1077)))), (.k (.one (.pv (.int .i64 1092)))), (.k (.one (.pv (.int .i64 1075)))), (.k (.one (.pv (.int .i64 1093)))), (.k (.one (.pv (.int .i64 1080)))), (.k (.one (.pv (.int .i64 1081)))), (.k (.one (.pv (.int .i64 1082)))), (.k (.one (.pv (.int .i64 1083)))), (.k (.one (.pv (.int .i64 1084)))), (.k (.one (.pv (.int .i64 1085)))), (.k (.one (.pv (.int .i64 1086)))), (.k (.one (.pv (.int .i64 1087)))), (.k (.one (.pv (.int .i64 1103)))), (.k (.one (.pv (.int .i64 1088)))), (.k (.one (.pv (.int .i64 1089)))), (.k (.one (.pv (.int .i64 1090)))), (.k (.one (.pv (.int .i64 1091)))), (.k (.one (.pv (.int .i64 1078)))), (.k (.one (.pv (.int .i64 1074)))), (.k (.one (.pv (.int .i64 1100)))), (.k (.one (.pv (.int .i64 1099)))), (.k (.one (.pv (.int .i64 1079)))), (.k (.one (.pv (.int .i64 1096)))), (.k (.one (.pv (.int .i64 1101)))), (.k (.one (.pv (.int .i64 1097)))), (.k (.one (.pv (.int .i64 1095)))), (.k (.one (.pv (.int .i64 1098))))]⟩,
   ⟨none, some 3, 3, .mv (.t 4)⟩])
 (.seq (.block 0 (.seq (.reg [⟨none, some 6, 6, .mv (.t 0)⟩,
   ⟨none, some 7, 7, .bin .geq (.t 6) (.k (.one (.pv (.int .i64 224))))⟩,
   ⟨none, some 5, 5, .mv (.t 7)⟩])
 (.cond 5 (.seq (.reg [⟨none, some 8, 8, .mv (.t 3)⟩,
   ⟨none, some 9, 9, .mv (.t 0)⟩,
   ⟨none, some 10, 10, .bin .sub (.t 9) (.k (.one (.pv (.int .i64 224))))⟩,
   ⟨none, some 11, 11, .iaddr 1 (.t 8) (.t 10)⟩,
   ⟨none, some 12, 12, .load none (.t 11)⟩,
   ⟨none, some 13, 13, .bin .sub (.t 12) (.k (.one (.pv (.int .i64 32))))⟩,
   ⟨none, some 2, 2, .mv (.t 13)⟩])
 (.ret)) (.seq (.reg [⟨none, some 15, 15, .mv (.t 0)⟩,
   ⟨none, some 16, 16, .bin .geq (.t 15) (.k (.one (.pv (.int .i64 192))))⟩,
   ⟨none, some 14, 14, .mv (.t 16)⟩])
 (.cond 14 (.seq (.reg [⟨none, some 17, 17, .mv (.t 3)⟩,
   ⟨none, some 18, 18, .mv (.t 0)⟩,
   ⟨none, some 19, 19, .bin .sub (.t 18) (.k (.one (.pv (.int .i64 192))))⟩,
   ⟨none, some 20, 20, .iaddr 1 (.t 17) (.t 19)⟩,
   ⟨none, some 21, 21, .load none (.t 20)⟩,
   ⟨none, some 2, 2, .mv (.t 21)⟩])
 (.ret)) (.seq (.reg [⟨none, some 23, 23, .mv (.t 0)⟩,
   ⟨none, some 24, 24, .bin .eql (.t 23) (.k (.one (.pv (.int .i64 163))))⟩,
   ⟨none, some 22, 22, .mv (.t 24)⟩])
 (.cond 22 (.seq (.reg [⟨none, some 2, 2, .mv (.k (.one (.pv (.int .i64 1105))))⟩])
 (.ret)) (.seq (.reg [⟨none, some 26, 26, .mv (.t 0)⟩,
   ⟨none, some 27, 27, .bin .eql (.t 26) (.k (.one (.pv (.int .i64 179))))⟩,
   ⟨none, some 25, 25, .mv (.t 27)⟩])
 (.cond 25 (.seq (.reg [⟨none, some 2, 2, .mv (.k (.one (.pv (.int .i64 1025))))⟩])
 (.ret)) (.skip))))))))))
 (.seq (.reg [⟨none, some 2, 2, .mv (.k (.one (.pv (.int .i64 (-1)))))⟩])
 (.ret))))⟩
abbrev C_s_l3Koi (Te : Nat → List AV → Res → Prop) : Prop := ∀ (b : Int) (hb : 128 ≤ b ∧ b ≤ 255), Te 96 [.one (iT b)] ⟨[.one (iT (koi (-1) b))], [[iT b]]⟩
theorem r_s_l3Koi {Te : Nat → List AV → Res → Prop} : ∀ (b : Int) (hb : 128 ≤ b ∧ b ≤ 255), RunFn Te x_s_l3Koi [.one (iT b)] ⟨[.one (iT (koi (-1) b))], [[iT b]]⟩ := by
  intro b hb
  refine ⟨by simp -implicitDefEqProofs (maxSteps := 1000000) only [x_s_l3Koi, go_sem], ?_⟩
  cases g1 : decide (b ≥ 224)
  · cases g2 : decide (b ≥ 192)
    · cases g3 : (b == 163)
      · cases g4 : (b == 179)
        · simp -implicitDefEqProofs (maxSteps := 1000000) only [x_s_l3Koi, go_sem, true_implies, false_implies, koi, g1, g2, g3, g4]
          repeat (first | refine ⟨rfl, ?_⟩ | refine ⟨by decide, ?_⟩ | refine ⟨⟨by decide, by decide⟩, ?_⟩ | refine ⟨decide_eq_true (by omega), ?_⟩ | refine ⟨⟨decide_eq_true (by omega), decide_eq_true (by omega)⟩, ?_⟩)
          try (first | done | decide | exact decide_eq_true (by omega) | exact ⟨decide_eq_true (by omega), decide_eq_true (by omega)⟩)
        · simp -implicitDefEqProofs (maxSteps := 1000000) only [x_s_l3Koi, go_sem, true_implies, false_implies, koi, g1, g2, g3, g4]
          repeat (first | refine ⟨rfl, ?_⟩ | refine ⟨by decide, ?_⟩ | refine ⟨⟨by decide, by decide⟩, ?_⟩ | refine ⟨decide_eq_true (by omega), ?_⟩ | refine ⟨⟨decide_eq_true (by omega), decide_eq_true (by omega)⟩, ?_⟩)
          try (first | done | decide | exact decide_eq_true (by omega) | exact ⟨decide_eq_true (by omega), decide_eq_true (by omega)⟩)
      · simp -implicitDefEqProofs (maxSteps := 1000000) only [x_s_l3Koi, go_sem, true_implies, false_implies, koi, g1, g2, g3]
        repeat (first | refine ⟨rfl, ?_⟩ | refine ⟨by decide, ?_⟩ | refine ⟨⟨by decide, by decide⟩, ?_⟩ | refine ⟨decide_eq_true (by omega), ?_⟩ | refine ⟨⟨decide_eq_true (by omega), decide_eq_true (by omega)⟩, ?_⟩)
        try (first | done | decide | exact decide_eq_true (by omega) | exact ⟨decide_eq_true (by omega), decide_eq_true (by omega)⟩)
    · simp only [decide_eq_true_eq] at g2
      have e : IntKind.i64.wrap (b - 192) = b - 192 := IntWalk.i64_in _ (by omega)
      simp only [decide_eq_false_iff_not] at g1
      have hk : (b - 192).toNat < 32 := by omega
      have q1 := decide_eq_false g1
      have q2 := decide_eq_true g2
      simp -implicitDefEqProofs (maxSteps := 1000000) only [x_s_l3Koi, go_sem, true_implies, false_implies, koi, q1, q2, e, Nat.mul_one, List.getD_eq_getElem?_getD]
      repeat (first | refine ⟨rfl, ?_⟩ | refine ⟨by decide, ?_⟩ | refine ⟨⟨by decide, by decide⟩, ?_⟩ | refine ⟨decide_eq_true (by omega), ?_⟩ | refine ⟨⟨decide_eq_true (by omega), decide_eq_true (by omega)⟩, ?_⟩)
      try (first | done | decide | exact decide_eq_true (by omega) | exact ⟨decide_eq_true (by omega), decide_eq_true (by omega)⟩)
      try simp -implicitDefEqProofs (maxSteps := 1000000) only [go_sem, true_implies, false_implies, koi_row hk, q1, q2]
      repeat (first | refine ⟨rfl, ?_⟩ | refine ⟨by decide, ?_⟩ | refine ⟨⟨by decide, by decide⟩, ?_⟩ | refine ⟨decide_eq_true (by omega), ?_⟩ | refine ⟨⟨decide_eq_true (by omega), decide_eq_true (by omega)⟩, ?_⟩)
      try (first | done | decide | exact decide_eq_true (by omega) | exact ⟨decide_eq_true (by omega), decide_eq_true (by omega)⟩)
      try simp only [List.getD_eq_getElem?_getD]
  · simp only [decide_eq_true_eq] at g1
    have e : IntKind.i64.wrap (b - 224) = b - 224 := IntWalk.i64_in _ (by omega)
    have hk : (b - 224).toNat < 32 := by omega
    have q1 := decide_eq_true g1
    have hv := koi_in ⟨(b - 224).toNat, hk⟩
    have e2 : IntKind.i64.wrap (koiL.getD (b - 224).toNat 0 - 32) = koiL.getD (b - 224).toNat 0 - 32 := IntWalk.i64_in _ (by simp only at hv; omega)
    simp -implicitDefEqProofs (maxSteps := 1000000) only [x_s_l3Koi, go_sem, true_implies, false_implies, koi, q1, e, Nat.mul_one, List.getD_eq_getElem?_getD]
    repeat (first | refine ⟨rfl, ?_⟩ | refine ⟨by decide, ?_⟩ | refine ⟨⟨by decide, by decide⟩, ?_⟩ | refine ⟨decide_eq_true (by omega), ?_⟩ | refine ⟨⟨decide_eq_true (by omega), decide_eq_true (by omega)⟩, ?_⟩)
    try (first | done | decide | exact decide_eq_true (by omega) | exact ⟨decide_eq_true (by omega), decide_eq_true (by omega)⟩)
    try simp -implicitDefEqProofs (maxSteps := 1000000) only [go_sem, true_implies, false_implies, koi_row hk, q1, e2]
    repeat (first | refine ⟨rfl, ?_⟩ | refine ⟨by decide, ?_⟩ | refine ⟨⟨by decide, by decide⟩, ?_⟩ | refine ⟨decide_eq_true (by omega), ?_⟩ | refine ⟨⟨decide_eq_true (by omega), decide_eq_true (by omega)⟩, ?_⟩)
    try (first | done | decide | exact decide_eq_true (by omega) | exact ⟨decide_eq_true (by omega), decide_eq_true (by omega)⟩)
    try simp only [List.getD_eq_getElem?_getD]
def x_s_l3Win : FnX := ⟨13, [.tmp 2],
  .seq (.reg [⟨none, some 2, 2, .mv (.k (.one (.pv (.int .i64 0))))⟩])
 (.seq (.reg [⟨none, some 4, 4, .bslice 1 [(.k (.one (.pv (.int .i64 8364)))), (.k (.one (.pv (.int .i64 (-1))))), (.k (.one (.pv (.int .i64 8218)))), (.k (.one (.pv (.int .i64 402)))), (.k (.one (.pv (.int .i64 8222)))), (.k (.one (.pv (.int .i64 8230)))), (.k (.one (.pv (.int .i64 8224)))), (.k (.one (.pv (.int .i64 8225)))), (.k (.one (.pv (.int .i64 710)))), (.k (.one (.pv (.int .i64 8240)))), (.k (.one (.pv (.int .i64 352)))), (.k (.one (.pv (.int .i64 8249)))), (.k (.one (.pv (.int .i64 338)))), (.k (.one (.pv (.int .i64 (-1))))), (.k (.one (.pv (.int .i64 381)))), (.k (.one (.pv (.int .i64 (-1))))), (.k (.one (.pv (.int .i64 (-1))))), (.k (.one (.pv (.int .i64 8216)))), (.k (.one (.pv (.int .i64 8217)))), (.k (.one (.pv (.int .i64 8220)))), (.k (.one (.pv (.int .i64 8221)))), (.k (.one (.pv (.int .i64 8226)))), (.k (.one (.pv (.int .i64 8211)))), (.k (.one (.pv (.int .i64 8212)))), (.k (.one (.pv (.int .i64 732)))), (.k (.one (.pv (.int .i64 8482)))), (.k (.one (.pv (.int .i64 353)))), (.k (.one (.pv (.int .i64 8250)))), (.k (.one (.pv (.int .i64 339)))), (.k (.one (.pv (.int .i64 (-1))))), (.k (.one (.pv (.int .i64 382)))), (.k (.one (.pv (.int .i64 376))))]⟩,
   ⟨none, some 3, 3, .mv (.t 4)⟩])
 (.seq (.seq (.reg [⟨none, some 5, 5, .mv (.t 0)⟩,
   ⟨none, some 6, 6, .bin .geq (.t 5) (.k (.one (.pv (.int .i64 160))))⟩])
 (.cond 6 (.seq (.reg [⟨none, some 7, 7, .mv (.t 0)⟩,
   ⟨none, some 2, 2, .mv (.t 7)⟩])
 (.ret)) (.skip)))
 (.seq (.reg [⟨none, some 8, 8, .mv (.t 3)⟩,
   ⟨none, some 9, 9, .mv (.t 0)⟩,
   ⟨none, some 10, 10, .bin .sub (.t 9) (.k (.one (.pv (.int .i64 128))))⟩,
   ⟨none, some 11, 11, .iaddr 1 (.t 8) (.t 10)⟩,
   ⟨none, some 12, 12, .load none (.t 11)⟩,
   ⟨none, some 2, 2, .mv (.t 12)⟩])
 (.ret))))⟩
abbrev C_s_l3Win (Te : Nat → List AV → Res → Prop) : Prop := ∀ (b : Int) (hb : 128 ≤ b ∧ b ≤ 255), Te 97 [.one (iT b)] ⟨[.one (iT (winB winM b))], [[iT b]]⟩
theorem r_s_l3Win {Te : Nat → List AV → Res → Prop} : ∀ (b : Int) (hb : 128 ≤ b ∧ b ≤ 255), RunFn Te x_s_l3Win [.one (iT b)] ⟨[.one (iT (winB winM b))], [[iT b]]⟩ := by
  intro b hb
  refine ⟨by simp -implicitDefEqProofs (maxSteps := 1000000) only [x_s_l3Win, go_sem], ?_⟩
  cases g1 : decide (b ≥ 160)
  · have e : IntKind.i64.wrap (b - 128) = b - 128 := IntWalk.i64_in _ (by omega)
    have hk : (b - 128).toNat < 32 := by simp only [decide_eq_false_iff_not] at g1; omega
    simp -implicitDefEqProofs (maxSteps := 1000000) only [x_s_l3Win, go_sem, true_implies, false_implies, winB, g1, e, Nat.mul_one, List.getD_eq_getElem?_getD]
    repeat (first | refine ⟨rfl, ?_⟩ | refine ⟨by decide, ?_⟩ | refine ⟨⟨by decide, by decide⟩, ?_⟩ | refine ⟨decide_eq_true (by omega), ?_⟩ | refine ⟨⟨decide_eq_true (by omega), decide_eq_true (by omega)⟩, ?_⟩)
    try (first | done | decide | exact decide_eq_true (by omega) | exact ⟨decide_eq_true (by omega), decide_eq_true (by omega)⟩)
    try simp -implicitDefEqProofs (maxSteps := 1000000) only [go_sem, true_implies, false_implies, win_row hk, g1]
    repeat (first | refine ⟨rfl, ?_⟩ | refine ⟨by decide, ?_⟩ | refine ⟨⟨by decide, by decide⟩, ?_⟩ | refine ⟨decide_eq_true (by omega), ?_⟩ | refine ⟨⟨decide_eq_true (by omega), decide_eq_true (by omega)⟩, ?_⟩)
    try (first | done | decide | exact decide_eq_true (by omega) | exact ⟨decide_eq_true (by omega), decide_eq_true (by omega)⟩)
    try simp only [List.getD_eq_getElem?_getD]
  · simp -implicitDefEqProofs (maxSteps := 1000000) only [x_s_l3Win, go_sem, true_implies, false_implies, winB, g1]
    repeat (first | refine ⟨rfl, ?_⟩ | refine ⟨by decide, ?_⟩ | refine ⟨⟨by decide, by decide⟩, ?_⟩ | refine ⟨decide_eq_true (by omega), ?_⟩ | refine ⟨⟨decide_eq_true (by omega), decide_eq_true (by omega)⟩, ?_⟩)
    try (first | done | decide | exact decide_eq_true (by omega) | exact ⟨decide_eq_true (by omega), decide_eq_true (by omega)⟩)
end Go.X

/- S -/
namespace Go.X
set_option maxRecDepth 100000
set_option maxHeartbeats 8000000
def signOf (cs b : Int) : Int := bif cs == 2 then nine b else bif cs == 3 then koi 0 b else bif cs == 4 then winB winL b else b
def byteSign (cs b : Int) : Int × Bool := bif win cs 1 4 && win b 0 255 then (bif decide (b ≤ 127) then (b, true) else (signOf cs b, signOf cs b != 0)) else (0, false)
theorem koi_two : ∀ k : Fin 128, koi (-1) ((k.val : Int) + 128) = (bif koi 0 ((k.val : Int) + 128) == 0 then -1 else koi 0 ((k.val : Int) + 128)) ∧ 0 ≤ koi 0 ((k.val : Int) + 128) := by decide
theorem win_two : ∀ k : Fin 128, winB winM ((k.val : Int) + 128) = (bif winB winL ((k.val : Int) + 128) == 0 then -1 else winB winL ((k.val : Int) + 128)) ∧ 0 ≤ winB winL ((k.val : Int) + 128) := by decide
theorem nine_up : ∀ k : Fin 128, 0 < nine ((k.val : Int) + 128) := by decide
theorem at128 {p : Int → Prop} (h : ∀ k : Fin 128, p ((k.val : Int) + 128)) {b : Int} (hb : 128 ≤ b ∧ b ≤ 255) : p b := by
  have := h ⟨(b - 128).toNat, by omega⟩
  rwa [show (((b - 128).toNat : Nat) : Int) + 128 = b by omega] at this
theorem koi_rel {b : Int} (hb : 128 ≤ b ∧ b ≤ 255) : koi (-1) b = (bif koi 0 b == 0 then -1 else koi 0 b) ∧ 0 ≤ koi 0 b := at128 (p := fun b => koi (-1) b = (bif koi 0 b == 0 then -1 else koi 0 b) ∧ 0 ≤ koi 0 b) koi_two hb
theorem win_rel {b : Int} (hb : 128 ≤ b ∧ b ≤ 255) : winB winM b = (bif winB winL b == 0 then -1 else winB winL b) ∧ 0 ≤ winB winL b := at128 (p := fun b => winB winM b = (bif winB winL b == 0 then -1 else winB winL b) ∧ 0 ≤ winB winL b) win_two hb
theorem nine_rel {b : Int} (hb : 128 ≤ b ∧ b ≤ 255) : 0 < nine b := at128 (p := fun b => 0 < nine b) nine_up hb
def x_s_ByteSign : FnX := ⟨34, [.tmp 4, .tmp 5],
  .seq (.reg [⟨none, some 4, 4, .mv (.k (.one (.pv (.int .i64 0))))⟩,
   ⟨none, some 5, 5, .mv (.k (.one (.pv (.bool false))))⟩])
 (.seq (.seq (.reg [⟨none, some 7, 7, .mv (.t 0)⟩,
   ⟨none, some 8, 8, .call 77 [0, 0, 0] [(.t 7), (.k (.one (.pv (.int .i64 1)))), (.k (.one (.pv (.int .i64 4))))]⟩,
   ⟨none, some 9, 9, .not (.t 8)⟩,
   ⟨none, some 10, 10, .mv (.t 9)⟩,
   ⟨(some (10, false)), some 11, 11, .mv (.t 1)⟩,
   ⟨(some (10, false)), some 12, 12, .call 77 [0, 0, 0] [(.t 11), (.k (.one (.pv (.int .i64 0)))), (.k (.one (.pv (.int .i64 255))))]⟩,
   ⟨(some (10, false)), some 13, 13, .not (.t 12)⟩,
   ⟨none, some 14, 14, .pick (.t 10) (.k (.one (.pv (.bool true)))) (.t 13)⟩])
 (.cond 14 (.seq (.reg [⟨none, some 4, 4, .mv (.k (.one (.pv (.int .i64 0))))⟩,
   ⟨none, some 5, 5, .mv (.k (.one (.pv (.bool false))))⟩])
 (.ret)) (.skip)))
 (.seq (.reg [⟨none, some 15, 15, .mv (.t 1)⟩,
   ⟨none, some 6, 6, .mv (.t 15)⟩])
 (.seq (.seq (.reg [⟨none, some 16, 16, .mv (.t 1)⟩,
   ⟨none, some 17, 17, .bin .geq (.t 16) (.k (.one (.pv (.int .i64 128))))⟩])
 (.cond 17 (.seq (.reg [⟨none, some 18, 18, .mv (.t 0)⟩])
 (.block 0 (.seq (.reg [⟨none, some 20, 20, .bin .eql (.t 18) (.k (.one (.pv (.int .i64 2))))⟩,
   ⟨none, some 19, 19, .mv (.t 20)⟩])
 (.cond 19 (.reg [⟨none, some 21, 21, .mv (.t 1)⟩,
   ⟨none, some 22, 22, .call 95 [0] [(.t 21)]⟩,
   ⟨none, some 6, 6, .mv (.t 22)⟩]) (.seq (.reg [⟨none, some 24, 24, .bin .eql (.t 18) (.k (.one (.pv (.int .i64 3))))⟩,
   ⟨none, some 23, 23, .mv (.t 24)⟩])
 (.cond 23 (.reg [⟨none, some 25, 25, .mv (.t 1)⟩,
   ⟨none, some 26, 26, .call 96 [0] [(.t 25)]⟩,
   ⟨none, some 6, 6, .mv (.t 26)⟩]) (.seq (.reg [⟨none, some 28, 28, .bin .eql (.t 18) (.k (.one (.pv (.int .i64 4))))⟩,
   ⟨none, some 27, 27, .mv (.t 28)⟩])
 (.cond 27 (.reg [⟨none, some 29, 29, .mv (.t 1)⟩,
   ⟨none, some 30, 30, .call 97 [0] [(.t 29)]⟩,
   ⟨none, some 6, 6, .mv (.t 30)⟩]) (.skip))))))))) (.skip)))
 (.seq (.seq (.reg [⟨none, some 31, 31, .mv (.t 6)⟩,
   ⟨none, some 32, 32, .bin .lss (.t 31) (.k (.one (.pv (.int .i64 0))))⟩])
 (.cond 32 (.seq (.reg [⟨none, some 4, 4, .mv (.k (.one (.pv (.int .i64 0))))⟩,
   ⟨none, some 5, 5, .mv (.k (.one (.pv (.bool false))))⟩])
 (.ret)) (.skip)))
 (.seq (.reg [⟨none, some 33, 33, .mv (.t 6)⟩,
   ⟨none, some 4, 4, .mv (.t 33)⟩,
   ⟨none, some 5, 5, .mv (.k (.one (.pv (.bool true))))⟩])
 (.ret))))))⟩
abbrev C_s_ByteSign (Te : Nat → List AV → Res → Prop) : Prop := ∀ (cs b : Int), Te 94 [.one (iT cs), .one (iT b)] ⟨[.one (iT (byteSign cs b).1), .one (bT (byteSign cs b).2)], [[iT cs], [iT b]]⟩
theorem r_s_ByteSign {Te : Nat → List AV → Res → Prop} (c_s_l1In : C_s_l1In Te) (c_s_l3Nine : C_s_l3Nine Te) (c_s_l3Koi : C_s_l3Koi Te) (c_s_l3Win : C_s_l3Win Te) : ∀ (cs b : Int), RunFn Te x_s_ByteSign [.one (iT cs), .one (iT b)] ⟨[.one (iT (byteSign cs b).1), .one (bT (byteSign cs b).2)], [[iT cs], [iT b]]⟩ := by
  intro cs b
  refine ⟨by simp -implicitDefEqProofs (maxSteps := 1000000) only [x_s_ByteSign, go_sem], ?_⟩
  simp -implicitDefEqProofs (maxSteps := 1000000) only [x_s_ByteSign, go_sem, true_implies, false_implies]
  repeat (first | refine ⟨rfl, ?_⟩ | refine ⟨by decide, ?_⟩ | refine ⟨⟨by decide, by decide⟩, ?_⟩ | refine ⟨decide_eq_true (by omega), ?_⟩ | refine ⟨⟨decide_eq_true (by omega), decide_eq_true (by omega)⟩, ?_⟩)
  try (first | done | decide | exact decide_eq_true (by omega) | exact ⟨decide_eq_true (by omega), decide_eq_true (by omega)⟩)
  refine .of (c_s_l1In _ _ _) ?_
  try simp -implicitDefEqProofs (maxSteps := 1000000) only [go_sem, true_implies, false_implies]
  repeat (first | refine ⟨rfl, ?_⟩ | refine ⟨by decide, ?_⟩ | refine ⟨⟨by decide, by decide⟩, ?_⟩ | refine ⟨decide_eq_true (by omega), ?_⟩ | refine ⟨⟨decide_eq_true (by omega), decide_eq_true (by omega)⟩, ?_⟩)
  try (first | done | decide | exact decide_eq_true (by omega) | exact ⟨decide_eq_true (by omega), decide_eq_true (by omega)⟩)
  cases g1 : win cs 1 4
  · try simp -implicitDefEqProofs (maxSteps := 1000000) only [go_sem, true_implies, false_implies, byteSign, g1]
    repeat (first | refine ⟨rfl, ?_⟩ | refine ⟨by decide, ?_⟩ | refine ⟨⟨by decide, by decide⟩, ?_⟩ | refine ⟨decide_eq_true (by omega), ?_⟩ | refine ⟨⟨decide_eq_true (by omega), decide_eq_true (by omega)⟩, ?_⟩)
    try (first | done | decide | exact decide_eq_true (by omega) | exact ⟨decide_eq_true (by omega), decide_eq_true (by omega)⟩)
  · try simp -implicitDefEqProofs (maxSteps := 1000000) only [go_sem, true_implies, false_implies]
    repeat (first | refine ⟨rfl, ?_⟩ | refine ⟨by decide, ?_⟩ | refine ⟨⟨by decide, by decide⟩, ?_⟩ | refine ⟨decide_eq_true (by omega), ?_⟩ | refine ⟨⟨decide_eq_true (by omega), decide_eq_true (by omega)⟩, ?_⟩)
    try (first | done | decide | exact decide_eq_true (by omega) | exact ⟨decide_eq_true (by omega), decide_eq_true (by omega)⟩)
    refine .of (c_s_l1In _ _ _) ?_
    try simp -implicitDefEqProofs (maxSteps := 1000000) only [go_sem, true_implies, false_implies]
    repeat (first | refine ⟨rfl, ?_⟩ | refine ⟨by decide, ?_⟩ | refine ⟨⟨by decide, by decide⟩, ?_⟩ | refine ⟨decide_eq_true (by omega), ?_⟩ | refine ⟨⟨decide_eq_true (by omega), decide_eq_true (by omega)⟩, ?_⟩)
    try (first | done | decide | exact decide_eq_true (by omega) | exact ⟨decide_eq_true (by omega), decide_eq_true (by omega)⟩)
    cases g2 : win b 0 255
    · try simp -implicitDefEqProofs (maxSteps := 1000000) only [go_sem, true_implies, false_implies, byteSign, g1, g2]
      repeat (first | refine ⟨rfl, ?_⟩ | refine ⟨by decide, ?_⟩ | refine ⟨⟨by decide, by decide⟩, ?_⟩ | refine ⟨decide_eq_true (by omega), ?_⟩ | refine ⟨⟨decide_eq_true (by omega), decide_eq_true (by omega)⟩, ?_⟩)
      try (first | done | decide | exact decide_eq_true (by omega) | exact ⟨decide_eq_true (by omega), decide_eq_true (by omega)⟩)
    · have h2 : 0 ≤ b ∧ b ≤ 255 := by simpa only [win, Bool.and_eq_true, decide_eq_true_eq] using g2
      cases g3 : decide (b ≥ 128)
      · have g3' : decide (b ≤ 127) = true := by simp only [decide_eq_false_iff_not] at g3; exact decide_eq_true (by omega)
        have g7 : decide (b < 0) = false := decide_eq_false (by omega)
        try simp -implicitDefEqProofs (maxSteps := 1000000) only [go_sem, true_implies, false_implies, g3, g7, byteSign, g1, g2, g3']
        repeat (first | refine ⟨rfl, ?_⟩ | refine ⟨by decide, ?_⟩ | refine ⟨⟨by decide, by decide⟩, ?_⟩ | refine ⟨decide_eq_true (by omega), ?_⟩ | refine ⟨⟨decide_eq_true (by omega), decide_eq_true (by omega)⟩, ?_⟩)
        try (first | done | decide | exact decide_eq_true (by omega) | exact ⟨decide_eq_true (by omega), decide_eq_true (by omega)⟩)
      · have hb : 128 ≤ b ∧ b ≤ 255 := by simp only [decide_eq_true_eq] at g3; omega
        have g3' : decide (b ≤ 127) = false := decide_eq_false (by omega)
        try simp -implicitDefEqProofs (maxSteps := 1000000) only [go_sem, true_implies, false_implies, g3]
        repeat (first | refine ⟨rfl, ?_⟩ | refine ⟨by decide, ?_⟩ | refine ⟨⟨by decide, by decide⟩, ?_⟩ | refine ⟨decide_eq_true (by omega), ?_⟩ | refine ⟨⟨decide_eq_true (by omega), decide_eq_true (by omega)⟩, ?_⟩)
        try (first | done | decide | exact decide_eq_true (by omega) | exact ⟨decide_eq_true (by omega), decide_eq_true (by omega)⟩)
        cases g4 : (cs == 2)
        · cases g5 : (cs == 3)
          · cases g6 : (cs == 4)
            · have g7 : decide (b < 0) = false := decide_eq_false (by omega)
              have g8 : (b != 0) = true := by simp; omega
              try simp -implicitDefEqProofs (maxSteps := 1000000) only [go_sem, true_implies, false_implies, g4, g5, g6, g7, g8, byteSign, signOf, g1, g2, g3']
              repeat (first | refine ⟨rfl, ?_⟩ | refine ⟨by decide, ?_⟩ | refine ⟨⟨by decide, by decide⟩, ?_⟩ | refine ⟨decide_eq_true (by omega), ?_⟩ | refine ⟨⟨decide_eq_true (by omega), decide_eq_true (by omega)⟩, ?_⟩)
              try (first | done | decide | exact decide_eq_true (by omega) | exact ⟨decide_eq_true (by omega), decide_eq_true (by omega)⟩)
            · try simp -implicitDefEqProofs (maxSteps := 1000000) only [go_sem, true_implies, false_implies, g4, g5, g6]
              repeat (first | refine ⟨rfl, ?_⟩ | refine ⟨by decide, ?_⟩ | refine ⟨⟨by decide, by decide⟩, ?_⟩ | refine ⟨decide_eq_true (by omega), ?_⟩ | refine ⟨⟨decide_eq_true (by omega), decide_eq_true (by omega)⟩, ?_⟩)
              try (first | done | decide | exact decide_eq_true (by omega) | exact ⟨decide_eq_true (by omega), decide_eq_true (by omega)⟩)
              refine .of (c_s_l3Win _ hb) ?_
              try simp -implicitDefEqProofs (maxSteps := 1000000) only [go_sem, true_implies, false_implies]
              repeat (first | refine ⟨rfl, ?_⟩ | refine ⟨by decide, ?_⟩ | refine ⟨⟨by decide, by decide⟩, ?_⟩ | refine ⟨decide_eq_true (by omega), ?_⟩ | refine ⟨⟨decide_eq_true (by omega), decide_eq_true (by omega)⟩, ?_⟩)
              try (first | done | decide | exact decide_eq_true (by omega) | exact ⟨decide_eq_true (by omega), decide_eq_true (by omega)⟩)
              obtain ⟨w1, w2⟩ := win_rel hb
              cases g9 : (winB winL b == 0)
              · have g7 : decide (winB winL b < 0) = false := decide_eq_false (by omega)
                have g8 : (winB winL b != 0) = true := by simpa using g9
                simp only [g9, cond_false] at w1
                try simp -implicitDefEqProofs (maxSteps := 1000000) only [go_sem, true_implies, false_implies, w1, g7, g8, byteSign, signOf, g1, g2, g3', g4, g5, g6]
                repeat (first | refine ⟨rfl, ?_⟩ | refine ⟨by decide, ?_⟩ | refine ⟨⟨by decide, by decide⟩, ?_⟩ | refine ⟨decide_eq_true (by omega), ?_⟩ | refine ⟨⟨decide_eq_true (by omega), decide_eq_true (by omega)⟩, ?_⟩)
                try (first | done | decide | exact decide_eq_true (by omega) | exact ⟨decide_eq_true (by omega), decide_eq_true (by omega)⟩)
              · have g8 : winB winL b = 0 := by simpa using g9
                simp only [g9, cond_true] at w1
                try simp -implicitDefEqProofs (maxSteps := 1000000) only [go_sem, true_implies, false_implies, w1, g8, byteSign, signOf, g1, g2, g3', g4, g5, g6]
                repeat (first | refine ⟨rfl, ?_⟩ | refine ⟨by decide, ?_⟩ | refine ⟨⟨by decide, by decide⟩, ?_⟩ | refine ⟨decide_eq_true (by omega), ?_⟩ | refine ⟨⟨decide_eq_true (by omega), decide_eq_true (by omega)⟩, ?_⟩)
                try (first | done | decide | exact decide_eq_true (by omega) | exact ⟨decide_eq_true (by omega), decide_eq_true (by omega)⟩)
                try rfl
          · try simp -implicitDefEqProofs (maxSteps := 1000000) only [go_sem, true_implies, false_implies, g4, g5]
            repeat (first | refine ⟨rfl, ?_⟩ | refine ⟨by decide, ?_⟩ | refine ⟨⟨by decide, by decide⟩, ?_⟩ | refine ⟨decide_eq_true (by omega), ?_⟩ | refine ⟨⟨decide_eq_true (by omega), decide_eq_true (by omega)⟩, ?_⟩)
            try (first | done | decide | exact decide_eq_true (by omega) | exact ⟨decide_eq_true (by omega), decide_eq_true (by omega)⟩)
            refine .of (c_s_l3Koi _ hb) ?_
            try simp -implicitDefEqProofs (maxSteps := 1000000) only [go_sem, true_implies, false_implies]
            repeat (first | refine ⟨rfl, ?_⟩ | refine ⟨by decide, ?_⟩ | refine ⟨⟨by decide, by decide⟩, ?_⟩ | refine ⟨decide_eq_true (by omega), ?_⟩ | refine ⟨⟨decide_eq_true (by omega), decide_eq_true (by omega)⟩, ?_⟩)
            try (first | done | decide | exact decide_eq_true (by omega) | exact ⟨decide_eq_true (by omega), decide_eq_true (by omega)⟩)
            obtain ⟨w1, w2⟩ := koi_rel hb
            cases g9 : (koi 0 b == 0)
            · have g7 : decide (koi 0 b < 0) = false := decide_eq_false (by omega)
              have g8 : (koi 0 b != 0) = true := by simpa using g9
              simp only [g9, cond_false] at w1
              try simp -implicitDefEqProofs (maxSteps := 1000000) only [go_sem, true_implies, false_implies, w1, g7, g8, byteSign, signOf, g1, g2, g3', g4, g5]
              repeat (first | refine ⟨rfl, ?_⟩ | refine ⟨by decide, ?_⟩ | refine ⟨⟨by decide, by decide⟩, ?_⟩ | refine ⟨decide_eq_true (by omega), ?_⟩ | refine ⟨⟨decide_eq_true (by omega), decide_eq_true (by omega)⟩, ?_⟩)
              try (first | done | decide | exact decide_eq_true (by omega) | exact ⟨decide_eq_true (by omega), decide_eq_true (by omega)⟩)
            · have g8 : koi 0 b = 0 := by simpa using g9
              simp only [g9, cond_true] at w1
              try simp -implicitDefEqProofs (maxSteps := 1000000) only [go_sem, true_implies, false_implies, w1, g8, byteSign, signOf, g1, g2, g3', g4, g5]
              repeat (first | refine ⟨rfl, ?_⟩ | refine ⟨by decide, ?_⟩ | refine ⟨⟨by decide, by decide⟩, ?_⟩ | refine ⟨decide_eq_true (by omega), ?_⟩ | refine ⟨⟨decide_eq_true (by omega), decide_eq_true (by omega)⟩, ?_⟩)
              try (first | done | decide | exact decide_eq_true (by omega) | exact ⟨decide_eq_true (by omega), decide_eq_true (by omega)⟩)
              try rfl
        · try simp -implicitDefEqProofs (maxSteps := 1000000) only [go_sem, true_implies, false_implies, g4]
          repeat (first | refine ⟨rfl, ?_⟩ | refine ⟨by decide, ?_⟩ | refine ⟨⟨by decide, by decide⟩, ?_⟩ | refine ⟨decide_eq_true (by omega), ?_⟩ | refine ⟨⟨decide_eq_true (by omega), decide_eq_true (by omega)⟩, ?_⟩)
          try (first | done | decide | exact decide_eq_true (by omega) | exact ⟨decide_eq_true (by omega), decide_eq_true (by omega)⟩)
          refine .of (c_s_l3Nine _) ?_
          try simp -implicitDefEqProofs (maxSteps := 1000000) only [go_sem, true_implies, false_implies]
          repeat (first | refine ⟨rfl, ?_⟩ | refine ⟨by decide, ?_⟩ | refine ⟨⟨by decide, by decide⟩, ?_⟩ | refine ⟨decide_eq_true (by omega), ?_⟩ | refine ⟨⟨decide_eq_true (by omega), decide_eq_true (by omega)⟩, ?_⟩)
          try (first | done | decide | exact decide_eq_true (by omega) | exact ⟨decide_eq_true (by omega), decide_eq_true (by omega)⟩)
          have w1 := nine_rel hb
          have g7 : decide (nine b < 0) = false := decide_eq_false (by omega)
          have g8 : (nine b != 0) = true := by simp; omega
          try simp -implicitDefEqProofs (maxSteps := 1000000) only [go_sem, true_implies, false_implies, g7, g8, byteSign, signOf, g1, g2, g3', g4]
          repeat (first | refine ⟨rfl, ?_⟩ | refine ⟨by decide, ?_⟩ | refine ⟨⟨by decide, by decide⟩, ?_⟩ | refine ⟨decide_eq_true (by omega), ?_⟩ | refine ⟨⟨decide_eq_true (by omega), decide_eq_true (by omega)⟩, ?_⟩)
          try (first | done | decide | exact decide_eq_true (by omega) | exact ⟨decide_eq_true (by omega), decide_eq_true (by omega)⟩)
end Go.X

