/- Texts: CVf CVg CVo CW_NodeGet XLib XUtf8. -/
import Derived.Test.YtfmkpckoghbniaaGreatDoorCe
import Derived.Test.YtfmkpckoghbniaaGreatDoorCd
import Derived.Shelf.Spec.DecodeRune
import Derived.Lib.LaidU8T
import Derived.Lib.SpaceU
set_option linter.unusedVariables false
set_option linter.unusedSimpArgs false
/- Vf -/
namespace Go.X
set_option maxRecDepth 100000
set_option maxHeartbeats 8000000
theorem rng_end {n i : Nat} {f : Nat → Bool} (h : n ≤ i) (hp : ∀ j, j < i → f j = true) : (List.range n).all f = true := by
  rw [List.all_eq_true]
  intro j hj
  exact hp j (by have := List.mem_range.1 hj; omega)
theorem rng_not {n i : Nat} {f : Nat → Bool} (h : i < n) (hf : f i = false) : (List.range n).all f = false := by
  cases g : (List.range n).all f
  · rfl
  · rw [List.all_eq_true] at g
    have := g i (List.mem_range.2 h)
    rw [hf] at this
    cases this
theorem rng_step {i : Nat} {f : Nat → Bool} (hp : ∀ j, j < i → f j = true) (hf : f i = true) : ∀ j, j < i + 1 → f j = true := by
  intro j hj
  by_cases e : j = i
  · subst e; exact hf
  · exact hp j (by omega)
def rowGood (l : List RowV) (i : Nat) : Bool := ((l[i]?.map RowV.ok).getD true) && (i == 0 || ((l[i - 1]?.bind fun x => l[i]?.map fun y => Op.bytesLess x.Key.toList y.Key.toList).getD true))
theorem rowGood_zero {l : List RowV} (h : 0 < l.length) : rowGood l 0 = l[0].ok := by
  simp only [rowGood, List.getElem?_eq_getElem h, Option.map_some, Option.getD_some, beq_self_eq_true, Bool.true_or, Bool.and_true]
theorem rowGood_succ {l : List RowV} {j : Nat} (h : j + 1 < l.length) : rowGood l (j + 1) = (l[j + 1].ok && Op.bytesLess (l[j]'(by omega)).Key.toList l[j + 1].Key.toList) := by
  have h0 : j < l.length := by omega
  simp only [rowGood, List.getElem?_eq_getElem h, Nat.add_sub_cancel, List.getElem?_eq_getElem h0, Option.map_some, Option.getD_some, Option.bind_some, show (j + 1 == 0) = false from rfl, Bool.false_or]
def MarkV.ok (m : MarkV) : Bool := win m.Who 1 9 && win m.Seq 0 65535 && win m.Code 0 6
def markGood (l : List MarkV) (i : Nat) : Bool := ((l[i]?.map MarkV.ok).getD true) && (i == 0 || ((l[i - 1]?.bind fun x => l[i]?.map fun y => !decide (x.Who ≥ y.Who)).getD true))
theorem markGood_zero {l : List MarkV} (h : 0 < l.length) : markGood l 0 = l[0].ok := by
  simp only [markGood, List.getElem?_eq_getElem h, Option.map_some, Option.getD_some, beq_self_eq_true, Bool.true_or, Bool.and_true]
theorem markGood_succ {l : List MarkV} {j : Nat} (h : j + 1 < l.length) : markGood l (j + 1) = (l[j + 1].ok && !decide ((l[j]'(by omega)).Who ≥ l[j + 1].Who)) := by
  have h0 : j < l.length := by omega
  simp only [markGood, List.getElem?_eq_getElem h, Nat.add_sub_cancel, List.getElem?_eq_getElem h0, Option.map_some, Option.getD_some, Option.bind_some, show (j + 1 == 0) = false from rfl, Bool.false_or]
def TabV.ok (t : TabV) : Bool := (List.range t.Rows.length).all (rowGood t.Rows) && (List.range t.Marks.length).all (markGood t.Marks) && (decide ((t.Rows.length : Int) ≤ 8) && win t.Phase 0 7)
def x_s_l12Mark : FnX := ⟨16, [.tmp 2],
  .q [.v 1 0, .F 2]
 (.q [.f 3 1 0, .l 4 3, .op 5 (.call 23 [0, 0, 0] [(.t 4), (.i 1), (.i 9)]), .m 6 5, ⟨(some (6, true)), some 7, 7, .faddr (.t 1) 1⟩, ⟨(some (6, true)), some 8, 8, .load none (.t 7)⟩, ⟨(some (6, true)), some 9, 9, .call 113 [0] [(.t 8)]⟩, .a 10 6 9, .m 11 10, ⟨(some (11, true)), some 12, 12, .faddr (.t 1) 2⟩, ⟨(some (11, true)), some 13, 13, .load none (.t 12)⟩, ⟨(some (11, true)), some 14, 14, .call 23 [0, 0, 0] [(.t 13), (.i 0), (.i 6)]⟩, .a 15 11 14, .m 2 15]
 .ret)⟩
abbrev C_s_l12Mark (Te : TE) : Prop := ∀ (m : MarkV), Te 133 [.agg m.row] ⟨[.one (bT m.ok)], [m.row]⟩
theorem r_s_l12Mark {Te : TE} (c_s_l1In : C_s_l1In Te) (c_s_l1Word : C_s_l1Word Te) : C_s_l12Mark (RF Te x_s_l12Mark) := by
  intro m
  refine run0 ?_
  simp -implicitDefEqProofs only [x_s_l12Mark, go_sem, MarkV.ok]
  repeat (first | refine ⟨rfl, ?_⟩ | refine ⟨by decide, ?_⟩ | refine ⟨⟨by decide, by decide⟩, ?_⟩ | refine ⟨decide_eq_true (by omega), ?_⟩ | refine ⟨⟨decide_eq_true (by omega), decide_eq_true (by omega)⟩, ?_⟩)
  try (first | done | decide | exact decide_eq_true (by omega) | exact ⟨decide_eq_true (by omega), decide_eq_true (by omega)⟩)
  refine .of (c_s_l1In _ _ _) ?_
  try simp -implicitDefEqProofs only [go_sem]
  repeat (first | refine ⟨rfl, ?_⟩ | refine ⟨by decide, ?_⟩ | refine ⟨⟨by decide, by decide⟩, ?_⟩ | refine ⟨decide_eq_true (by omega), ?_⟩ | refine ⟨⟨decide_eq_true (by omega), decide_eq_true (by omega)⟩, ?_⟩)
  try (first | done | decide | exact decide_eq_true (by omega) | exact ⟨decide_eq_true (by omega), decide_eq_true (by omega)⟩)
  cases g1 : win m.Who 1 9
  · try simp -implicitDefEqProofs only [go_sem, g1]
    repeat (first | refine ⟨rfl, ?_⟩ | refine ⟨by decide, ?_⟩ | refine ⟨⟨by decide, by decide⟩, ?_⟩ | refine ⟨decide_eq_true (by omega), ?_⟩ | refine ⟨⟨decide_eq_true (by omega), decide_eq_true (by omega)⟩, ?_⟩)
    try (first | done | decide | exact decide_eq_true (by omega) | exact ⟨decide_eq_true (by omega), decide_eq_true (by omega)⟩)
  try simp -implicitDefEqProofs only [go_sem, g1]
  repeat (first | refine ⟨rfl, ?_⟩ | refine ⟨by decide, ?_⟩ | refine ⟨⟨by decide, by decide⟩, ?_⟩ | refine ⟨decide_eq_true (by omega), ?_⟩ | refine ⟨⟨decide_eq_true (by omega), decide_eq_true (by omega)⟩, ?_⟩)
  try (first | done | decide | exact decide_eq_true (by omega) | exact ⟨decide_eq_true (by omega), decide_eq_true (by omega)⟩)
  refine .of (c_s_l1Word _) ?_
  try simp -implicitDefEqProofs only [go_sem]
  repeat (first | refine ⟨rfl, ?_⟩ | refine ⟨by decide, ?_⟩ | refine ⟨⟨by decide, by decide⟩, ?_⟩ | refine ⟨decide_eq_true (by omega), ?_⟩ | refine ⟨⟨decide_eq_true (by omega), decide_eq_true (by omega)⟩, ?_⟩)
  try (first | done | decide | exact decide_eq_true (by omega) | exact ⟨decide_eq_true (by omega), decide_eq_true (by omega)⟩)
  cases g2 : win m.Seq 0 65535
  · try simp -implicitDefEqProofs only [go_sem, g2]
    repeat (first | refine ⟨rfl, ?_⟩ | refine ⟨by decide, ?_⟩ | refine ⟨⟨by decide, by decide⟩, ?_⟩ | refine ⟨decide_eq_true (by omega), ?_⟩ | refine ⟨⟨decide_eq_true (by omega), decide_eq_true (by omega)⟩, ?_⟩)
    try (first | done | decide | exact decide_eq_true (by omega) | exact ⟨decide_eq_true (by omega), decide_eq_true (by omega)⟩)
  try simp -implicitDefEqProofs only [go_sem, g2]
  repeat (first | refine ⟨rfl, ?_⟩ | refine ⟨by decide, ?_⟩ | refine ⟨⟨by decide, by decide⟩, ?_⟩ | refine ⟨decide_eq_true (by omega), ?_⟩ | refine ⟨⟨decide_eq_true (by omega), decide_eq_true (by omega)⟩, ?_⟩)
  try (first | done | decide | exact decide_eq_true (by omega) | exact ⟨decide_eq_true (by omega), decide_eq_true (by omega)⟩)
  refine .of (c_s_l1In _ _ _) ?_
  try simp -implicitDefEqProofs only [go_sem]
  repeat (first | refine ⟨rfl, ?_⟩ | refine ⟨by decide, ?_⟩ | refine ⟨⟨by decide, by decide⟩, ?_⟩ | refine ⟨decide_eq_true (by omega), ?_⟩ | refine ⟨⟨decide_eq_true (by omega), decide_eq_true (by omega)⟩, ?_⟩)
  try (first | done | decide | exact decide_eq_true (by omega) | exact ⟨decide_eq_true (by omega), decide_eq_true (by omega)⟩)
def x_i_TabOk : FnX := ⟨85, [.tmp 2],
  .q [.v 1 0, .F 2]
 (.seq (.q [.f 7 1 0, .l 8 7, .n 9 8, .i 10 0]
 (.block 0 (.loop [1, 8, 9, 10] (.q [.b 11 .lss 10 9]
 (.seq (.cond 11 .skip (.exit 0))
 (.seq (.block 1 (.q [.m 12 10, .x 13 7 8 10, .L 14 7 13, .op 4 (.alloc [.e, .i 0, .nils 1, .i 0, .nils 1, .i 0, .F]), .m 3 12, .s 100001 7 4 14]
 (.seq (.draw [.L 15 7 4, .c 16 139 [15], .N 17 16, .m 18 17, ⟨(some (18, false)), some 19, 19, .mv (.t 3)⟩, ⟨(some (18, false)), some 20, 20, .bin .gtr (.t 19) (.i 0)⟩, ⟨(some (18, false)), some 21, 21, .mv (.t 20)⟩, ⟨(some (21, true)), some 22, 22, .faddr (.t 1) 0⟩, ⟨(some (21, true)), some 23, 23, .load none (.t 22)⟩, ⟨(some (21, true)), some 24, 24, .mv (.t 3)⟩, ⟨(some (21, true)), some 25, 25, .bin .sub (.t 24) (.i 1)⟩, ⟨(some (21, true)), some 26, 26, .iaddr 7 (.t 23) (.t 25)⟩, ⟨(some (21, true)), some 27, 27, .faddr (.t 26) 0⟩, ⟨(some (21, true)), some 28, 28, .load none (.t 27)⟩, ⟨(some (21, true)), some 29, 29, .faddr (.t 4) 0⟩, ⟨(some (21, true)), some 30, 30, .load none (.t 29)⟩, ⟨(some (21, true)), some 31, 31, .bin .geq (.t 28) (.t 30)⟩, ⟨(some (18, false)), some 32, 32, .pick (.t 21) (.t 31) .F⟩, .r 33 18 32] [[], [0], [1], [2, 1], [3], [4, 3], [5, 3, 3], [6], [7, 6], [6], [9, 6], [8, 10, 6], [11, 6], [12, 6], [6], [14, 6], [13, 15, 6], [6, 16, 3], [3, 17]])
 (.c 33 (.q [.F 2]
 .ret)))))
 (.reg [.B 34 .add 10 1, .m 10 34])))))))
 (.norm [1] (.seq (.q [.f 35 1 2, .l 36 35, .n 37 36, .i 38 0]
 (.block 2 (.loop [1, 36, 37, 38] (.q [.b 39 .lss 38 37]
 (.seq (.cond 39 .skip (.exit 2))
 (.seq (.block 3 (.q [.m 40 38, .x 41 3 36 38, .L 42 3 41, .op 6 (.alloc [.i 0, .i 0, .i 0]), .m 5 40, .s 100002 3 6 42]
 (.seq (.draw [.f 43 6 0, .l 44 43, .op 45 (.call 25 [0, 0, 0] [(.t 44), (.i 1), (.i 9)]), .N 46 45, .m 47 46, ⟨(some (47, false)), some 48, 48, .faddr (.t 6) 1⟩, ⟨(some (47, false)), some 49, 49, .load none (.t 48)⟩, ⟨(some (47, false)), some 50, 50, .call 123 [0] [(.t 49)]⟩, ⟨(some (47, false)), some 51, 51, .not (.t 50)⟩, .r 52 47 51, .m 53 52, ⟨(some (53, false)), some 54, 54, .faddr (.t 6) 2⟩, ⟨(some (53, false)), some 55, 55, .load none (.t 54)⟩, ⟨(some (53, false)), some 56, 56, .call 25 [0, 0, 0] [(.t 55), (.i 0), (.i 6)]⟩, ⟨(some (53, false)), some 57, 57, .not (.t 56)⟩, .r 58 53 57, .m 59 58, ⟨(some (59, false)), some 60, 60, .mv (.t 5)⟩, ⟨(some (59, false)), some 61, 61, .bin .gtr (.t 60) (.i 0)⟩, ⟨(some (59, false)), some 62, 62, .mv (.t 61)⟩, ⟨(some (62, true)), some 63, 63, .faddr (.t 1) 2⟩, ⟨(some (62, true)), some 64, 64, .load none (.t 63)⟩, ⟨(some (62, true)), some 65, 65, .mv (.t 5)⟩, ⟨(some (62, true)), some 66, 66, .bin .sub (.t 65) (.i 1)⟩, ⟨(some (62, true)), some 67, 67, .iaddr 3 (.t 64) (.t 66)⟩, ⟨(some (62, true)), some 68, 68, .faddr (.t 67) 0⟩, ⟨(some (62, true)), some 69, 69, .load none (.t 68)⟩, ⟨(some (62, true)), some 70, 70, .faddr (.t 6) 0⟩, ⟨(some (62, true)), some 71, 71, .load none (.t 70)⟩, ⟨(some (62, true)), some 72, 72, .bin .geq (.t 69) (.t 71)⟩, ⟨(some (59, false)), some 73, 73, .pick (.t 62) (.t 72) .F⟩, .r 74 59 73] [[], [0], [1], [2], [3, 2], [4], [5, 4], [6, 4, 4], [7, 4], [4, 8], [9, 7], [10], [11, 10], [12, 10, 10], [13, 10], [10, 14], [15, 13], [16], [17, 16], [18, 16, 16], [19], [20, 19], [19], [22, 19], [21, 23, 19], [24, 19], [25, 19], [19], [27, 19], [26, 28, 19], [19, 29, 16], [16, 30]])
 (.c 74 (.q [.F 2]
 .ret)))))
 (.reg [.B 75 .add 38 1, .m 38 75])))))))
 (.norm [1] (.q [.f 76 1 0, .l 77 76, .n 78 77, .B 79 .leq 78 8, .m 80 79, ⟨(some (80, true)), some 81, 81, .faddr (.t 1) 1⟩, ⟨(some (80, true)), some 82, 82, .load none (.t 81)⟩, ⟨(some (80, true)), some 83, 83, .call 25 [0, 0, 0] [(.t 82), (.i 0), (.i 7)]⟩, .a 84 80 83, .m 2 84]
 .ret)))))⟩
abbrev C_i_TabOk (Te : TE) : Prop := ∀ (t : TabV) (h : t.In (2 ^ 48)), Te 102 [.agg (t.enc false)] ⟨[.one (bT t.ok)], [t.enc false]⟩
theorem r_i_TabOk {Te : TE} (c_i_RowOk : C_i_RowOk Te) (c_i_within : C_i_within Te) (c_i_isWord : C_i_isWord Te) : C_i_TabOk (RF Te x_i_TabOk) := by
  intro t h
  refine run0 ?_
  obtain ⟨⟨hl, hR⟩, hM⟩ := h
  simp -implicitDefEqProofs only [x_i_TabOk, go_sem]
  repeat (first | refine ⟨rfl, ?_⟩ | refine ⟨by decide, ?_⟩ | refine ⟨⟨by decide, by decide⟩, ?_⟩ | refine ⟨decide_eq_true (by omega), ?_⟩ | refine ⟨⟨decide_eq_true (by omega), decide_eq_true (by omega)⟩, ?_⟩)
  try (first | done | decide | exact decide_eq_true (by omega) | exact ⟨decide_eq_true (by omega), decide_eq_true (by omega)⟩)
  refine loop_of (σ := Nat) (fun i => ⟨[(1, .bp 1 0), (8, .one (.ro 7 (t.Rows.map (RowV.enc false)))), (9, .one (.pv (.int .i64 t.Rows.length))), (10, .one (.pv (.int .i64 i)))], [(1, [.ro 7 (t.Rows.map (RowV.enc false)), .pv (.int .i64 t.Phase), .ro 3 (t.Marks.map MarkV.row)])], [(0, t.enc false)]⟩) (fun i => i ≤ t.Rows.length ∧ ∀ j, j < i → rowGood t.Rows j = true) (fun i => t.Rows.length - i) 0 ?_ ⟨Nat.zero_le _, fun j hj => absurd hj (Nat.not_lt_zero _)⟩ ?_
  · simp -implicitDefEqProofs only [go_sem]
    try rfl
  · rintro i ⟨hi, hp⟩
    cases q : decide ((i : Int) < (t.Rows.length : Int))
    · have eR := rng_end (f := rowGood t.Rows) (show t.Rows.length ≤ i by simp only [decide_eq_false_iff_not] at q; omega) hp
      try simp -implicitDefEqProofs only [go_sem, q]
      repeat (first | refine ⟨rfl, ?_⟩ | refine ⟨by decide, ?_⟩ | refine ⟨⟨by decide, by decide⟩, ?_⟩ | refine ⟨decide_eq_true (by omega), ?_⟩ | refine ⟨⟨decide_eq_true (by omega), decide_eq_true (by omega)⟩, ?_⟩)
      try (first | done | decide | exact decide_eq_true (by omega) | exact ⟨decide_eq_true (by omega), decide_eq_true (by omega)⟩)
      refine loop_of (σ := Nat) (fun i => ⟨[(1, .bp 1 0), (36, .one (.ro 3 (t.Marks.map MarkV.row))), (37, .one (.pv (.int .i64 t.Marks.length))), (38, .one (.pv (.int .i64 i)))], [(1, [.ro 7 (t.Rows.map (RowV.enc false)), .pv (.int .i64 t.Phase), .ro 3 (t.Marks.map MarkV.row)])], [(0, t.enc false)]⟩) (fun i => i ≤ t.Marks.length ∧ ∀ j, j < i → markGood t.Marks j = true) (fun i => t.Marks.length - i) 0 ?_ ⟨Nat.zero_le _, fun j hj => absurd hj (Nat.not_lt_zero _)⟩ ?_
      · simp -implicitDefEqProofs only [go_sem]
        try rfl
      · rintro i ⟨hi, hp⟩
        cases q : decide ((i : Int) < (t.Marks.length : Int))
        · have eM := rng_end (f := markGood t.Marks) (show t.Marks.length ≤ i by simp only [decide_eq_false_iff_not] at q; omega) hp
          try simp -implicitDefEqProofs only [go_sem, q]
          repeat (first | refine ⟨rfl, ?_⟩ | refine ⟨by decide, ?_⟩ | refine ⟨⟨by decide, by decide⟩, ?_⟩ | refine ⟨decide_eq_true (by omega), ?_⟩ | refine ⟨⟨decide_eq_true (by omega), decide_eq_true (by omega)⟩, ?_⟩)
          try (first | done | decide | exact decide_eq_true (by omega) | exact ⟨decide_eq_true (by omega), decide_eq_true (by omega)⟩)
          cases gl : decide ((t.Rows.length : Int) ≤ 8)
          · have e : t.ok = false := by simp only [TabV.ok, gl, Bool.and_false, Bool.false_and]
            try simp -implicitDefEqProofs only [go_sem, gl, e]
            repeat (first | refine ⟨rfl, ?_⟩ | refine ⟨by decide, ?_⟩ | refine ⟨⟨by decide, by decide⟩, ?_⟩ | refine ⟨decide_eq_true (by omega), ?_⟩ | refine ⟨⟨decide_eq_true (by omega), decide_eq_true (by omega)⟩, ?_⟩)
            try (first | done | decide | exact decide_eq_true (by omega) | exact ⟨decide_eq_true (by omega), decide_eq_true (by omega)⟩)
          · have e : t.ok = win t.Phase 0 7 := by simp only [TabV.ok, eR, eM, gl, Bool.true_and]
            try simp -implicitDefEqProofs only [go_sem, gl]
            repeat (first | refine ⟨rfl, ?_⟩ | refine ⟨by decide, ?_⟩ | refine ⟨⟨by decide, by decide⟩, ?_⟩ | refine ⟨decide_eq_true (by omega), ?_⟩ | refine ⟨⟨decide_eq_true (by omega), decide_eq_true (by omega)⟩, ?_⟩)
            try (first | done | decide | exact decide_eq_true (by omega) | exact ⟨decide_eq_true (by omega), decide_eq_true (by omega)⟩)
            refine .of (c_i_within _ _ _) ?_
            try simp -implicitDefEqProofs only [go_sem, e]
            repeat (first | refine ⟨rfl, ?_⟩ | refine ⟨by decide, ?_⟩ | refine ⟨⟨by decide, by decide⟩, ?_⟩ | refine ⟨decide_eq_true (by omega), ?_⟩ | refine ⟨⟨decide_eq_true (by omega), decide_eq_true (by omega)⟩, ?_⟩)
            try (first | done | decide | exact decide_eq_true (by omega) | exact ⟨decide_eq_true (by omega), decide_eq_true (by omega)⟩)
        · have k1 : i < t.Marks.length := by simp only [decide_eq_true_eq] at q; omega
          cases i with
          | zero =>
            have z : decide (((0 : Nat) : Int) > 0) = false := rfl
            have good0 := markGood_zero k1
            try simp -implicitDefEqProofs only [go_sem, q, List.getElem?_eq_getElem k1, z]
            repeat (first | refine ⟨rfl, ?_⟩ | refine ⟨by decide, ?_⟩ | refine ⟨⟨by decide, by decide⟩, ?_⟩ | refine ⟨decide_eq_true (by omega), ?_⟩ | refine ⟨⟨decide_eq_true (by omega), decide_eq_true (by omega)⟩, ?_⟩)
            try (first | done | decide | exact decide_eq_true (by omega) | exact ⟨decide_eq_true (by omega), decide_eq_true (by omega)⟩)
            refine .of (c_i_within _ _ _) ?_
            try simp -implicitDefEqProofs only [go_sem]
            repeat (first | refine ⟨rfl, ?_⟩ | refine ⟨by decide, ?_⟩ | refine ⟨⟨by decide, by decide⟩, ?_⟩ | refine ⟨decide_eq_true (by omega), ?_⟩ | refine ⟨⟨decide_eq_true (by omega), decide_eq_true (by omega)⟩, ?_⟩)
            try (first | done | decide | exact decide_eq_true (by omega) | exact ⟨decide_eq_true (by omega), decide_eq_true (by omega)⟩)
            cases a1 : win t.Marks[0].Who 1 9
            · have g : t.Marks[0].ok = false := by simp only [MarkV.ok, a1, Bool.false_and]
              have e : t.ok = false := by simp only [TabV.ok, rng_not k1 (good0.trans g), Bool.and_false, Bool.false_and]
              try simp -implicitDefEqProofs only [go_sem, e]
              repeat (first | refine ⟨rfl, ?_⟩ | refine ⟨by decide, ?_⟩ | refine ⟨⟨by decide, by decide⟩, ?_⟩ | refine ⟨decide_eq_true (by omega), ?_⟩ | refine ⟨⟨decide_eq_true (by omega), decide_eq_true (by omega)⟩, ?_⟩)
              try (first | done | decide | exact decide_eq_true (by omega) | exact ⟨decide_eq_true (by omega), decide_eq_true (by omega)⟩)
            try simp -implicitDefEqProofs only [go_sem]
            repeat (first | refine ⟨rfl, ?_⟩ | refine ⟨by decide, ?_⟩ | refine ⟨⟨by decide, by decide⟩, ?_⟩ | refine ⟨decide_eq_true (by omega), ?_⟩ | refine ⟨⟨decide_eq_true (by omega), decide_eq_true (by omega)⟩, ?_⟩)
            try (first | done | decide | exact decide_eq_true (by omega) | exact ⟨decide_eq_true (by omega), decide_eq_true (by omega)⟩)
            refine .of (c_i_isWord _) ?_
            try simp -implicitDefEqProofs only [go_sem]
            repeat (first | refine ⟨rfl, ?_⟩ | refine ⟨by decide, ?_⟩ | refine ⟨⟨by decide, by decide⟩, ?_⟩ | refine ⟨decide_eq_true (by omega), ?_⟩ | refine ⟨⟨decide_eq_true (by omega), decide_eq_true (by omega)⟩, ?_⟩)
            try (first | done | decide | exact decide_eq_true (by omega) | exact ⟨decide_eq_true (by omega), decide_eq_true (by omega)⟩)
            cases a2 : win t.Marks[0].Seq 0 65535
            · have g : t.Marks[0].ok = false := by simp only [MarkV.ok, a2, Bool.and_false, Bool.false_and]
              have e : t.ok = false := by simp only [TabV.ok, rng_not k1 (good0.trans g), Bool.and_false, Bool.false_and]
              try simp -implicitDefEqProofs only [go_sem, e]
              repeat (first | refine ⟨rfl, ?_⟩ | refine ⟨by decide, ?_⟩ | refine ⟨⟨by decide, by decide⟩, ?_⟩ | refine ⟨decide_eq_true (by omega), ?_⟩ | refine ⟨⟨decide_eq_true (by omega), decide_eq_true (by omega)⟩, ?_⟩)
              try (first | done | decide | exact decide_eq_true (by omega) | exact ⟨decide_eq_true (by omega), decide_eq_true (by omega)⟩)
            try simp -implicitDefEqProofs only [go_sem]
            repeat (first | refine ⟨rfl, ?_⟩ | refine ⟨by decide, ?_⟩ | refine ⟨⟨by decide, by decide⟩, ?_⟩ | refine ⟨decide_eq_true (by omega), ?_⟩ | refine ⟨⟨decide_eq_true (by omega), decide_eq_true (by omega)⟩, ?_⟩)
            try (first | done | decide | exact decide_eq_true (by omega) | exact ⟨decide_eq_true (by omega), decide_eq_true (by omega)⟩)
            refine .of (c_i_within _ _ _) ?_
            try simp -implicitDefEqProofs only [go_sem]
            repeat (first | refine ⟨rfl, ?_⟩ | refine ⟨by decide, ?_⟩ | refine ⟨⟨by decide, by decide⟩, ?_⟩ | refine ⟨decide_eq_true (by omega), ?_⟩ | refine ⟨⟨decide_eq_true (by omega), decide_eq_true (by omega)⟩, ?_⟩)
            try (first | done | decide | exact decide_eq_true (by omega) | exact ⟨decide_eq_true (by omega), decide_eq_true (by omega)⟩)
            cases a3 : win t.Marks[0].Code 0 6
            · have g : t.Marks[0].ok = false := by simp only [MarkV.ok, a3, Bool.and_false]
              have e : t.ok = false := by simp only [TabV.ok, rng_not k1 (good0.trans g), Bool.and_false, Bool.false_and]
              try simp -implicitDefEqProofs only [go_sem, e]
              repeat (first | refine ⟨rfl, ?_⟩ | refine ⟨by decide, ?_⟩ | refine ⟨⟨by decide, by decide⟩, ?_⟩ | refine ⟨decide_eq_true (by omega), ?_⟩ | refine ⟨⟨decide_eq_true (by omega), decide_eq_true (by omega)⟩, ?_⟩)
              try (first | done | decide | exact decide_eq_true (by omega) | exact ⟨decide_eq_true (by omega), decide_eq_true (by omega)⟩)
            have g : t.Marks[0].ok = true := by simp only [MarkV.ok, a1, a2, a3, Bool.and_true]
            try simp -implicitDefEqProofs only [go_sem, z]
            repeat (first | refine ⟨rfl, ?_⟩ | refine ⟨by decide, ?_⟩ | refine ⟨⟨by decide, by decide⟩, ?_⟩ | refine ⟨decide_eq_true (by omega), ?_⟩ | refine ⟨⟨decide_eq_true (by omega), decide_eq_true (by omega)⟩, ?_⟩)
            try (first | done | decide | exact decide_eq_true (by omega) | exact ⟨decide_eq_true (by omega), decide_eq_true (by omega)⟩)
            refine ⟨1, by rw [IntWalk.i64_in _ (by omega)]; rfl, ⟨k1, rng_step hp (good0.trans g)⟩, by omega⟩
          | succ j =>
            have k0 : j < t.Marks.length := by omega
            have z : decide (((j + 1 : Nat) : Int) > 0) = true := decide_eq_true (by omega)
            have ew : IntKind.i64.wrap (((j + 1 : Nat) : Int) - 1) = (j : Int) := by rw [IntWalk.i64_in _ (by omega)]; omega
            have good1 := markGood_succ k1
            try simp -implicitDefEqProofs only [go_sem, q, List.getElem?_eq_getElem k1, z]
            repeat (first | refine ⟨rfl, ?_⟩ | refine ⟨by decide, ?_⟩ | refine ⟨⟨by decide, by decide⟩, ?_⟩ | refine ⟨decide_eq_true (by omega), ?_⟩ | refine ⟨⟨decide_eq_true (by omega), decide_eq_true (by omega)⟩, ?_⟩)
            try (first | done | decide | exact decide_eq_true (by omega) | exact ⟨decide_eq_true (by omega), decide_eq_true (by omega)⟩)
            refine .of (c_i_within _ _ _) ?_
            try simp -implicitDefEqProofs only [go_sem]
            repeat (first | refine ⟨rfl, ?_⟩ | refine ⟨by decide, ?_⟩ | refine ⟨⟨by decide, by decide⟩, ?_⟩ | refine ⟨decide_eq_true (by omega), ?_⟩ | refine ⟨⟨decide_eq_true (by omega), decide_eq_true (by omega)⟩, ?_⟩)
            try (first | done | decide | exact decide_eq_true (by omega) | exact ⟨decide_eq_true (by omega), decide_eq_true (by omega)⟩)
            cases a1 : win t.Marks[j + 1].Who 1 9
            · have g : t.Marks[j + 1].ok = false := by simp only [MarkV.ok, a1, Bool.false_and]
              have gg : markGood t.Marks (j + 1) = false := by rw [good1, g, Bool.false_and]
              have e : t.ok = false := by simp only [TabV.ok, rng_not k1 gg, Bool.and_false, Bool.false_and]
              try simp -implicitDefEqProofs only [go_sem, e]
              repeat (first | refine ⟨rfl, ?_⟩ | refine ⟨by decide, ?_⟩ | refine ⟨⟨by decide, by decide⟩, ?_⟩ | refine ⟨decide_eq_true (by omega), ?_⟩ | refine ⟨⟨decide_eq_true (by omega), decide_eq_true (by omega)⟩, ?_⟩)
              try (first | done | decide | exact decide_eq_true (by omega) | exact ⟨decide_eq_true (by omega), decide_eq_true (by omega)⟩)
            try simp -implicitDefEqProofs only [go_sem]
            repeat (first | refine ⟨rfl, ?_⟩ | refine ⟨by decide, ?_⟩ | refine ⟨⟨by decide, by decide⟩, ?_⟩ | refine ⟨decide_eq_true (by omega), ?_⟩ | refine ⟨⟨decide_eq_true (by omega), decide_eq_true (by omega)⟩, ?_⟩)
            try (first | done | decide | exact decide_eq_true (by omega) | exact ⟨decide_eq_true (by omega), decide_eq_true (by omega)⟩)
            refine .of (c_i_isWord _) ?_
            try simp -implicitDefEqProofs only [go_sem]
            repeat (first | refine ⟨rfl, ?_⟩ | refine ⟨by decide, ?_⟩ | refine ⟨⟨by decide, by decide⟩, ?_⟩ | refine ⟨decide_eq_true (by omega), ?_⟩ | refine ⟨⟨decide_eq_true (by omega), decide_eq_true (by omega)⟩, ?_⟩)
            try (first | done | decide | exact decide_eq_true (by omega) | exact ⟨decide_eq_true (by omega), decide_eq_true (by omega)⟩)
            cases a2 : win t.Marks[j + 1].Seq 0 65535
            · have g : t.Marks[j + 1].ok = false := by simp only [MarkV.ok, a2, Bool.and_false, Bool.false_and]
              have gg : markGood t.Marks (j + 1) = false := by rw [good1, g, Bool.false_and]
              have e : t.ok = false := by simp only [TabV.ok, rng_not k1 gg, Bool.and_false, Bool.false_and]
              try simp -implicitDefEqProofs only [go_sem, e]
              repeat (first | refine ⟨rfl, ?_⟩ | refine ⟨by decide, ?_⟩ | refine ⟨⟨by decide, by decide⟩, ?_⟩ | refine ⟨decide_eq_true (by omega), ?_⟩ | refine ⟨⟨decide_eq_true (by omega), decide_eq_true (by omega)⟩, ?_⟩)
              try (first | done | decide | exact decide_eq_true (by omega) | exact ⟨decide_eq_true (by omega), decide_eq_true (by omega)⟩)
            try simp -implicitDefEqProofs only [go_sem]
            repeat (first | refine ⟨rfl, ?_⟩ | refine ⟨by decide, ?_⟩ | refine ⟨⟨by decide, by decide⟩, ?_⟩ | refine ⟨decide_eq_true (by omega), ?_⟩ | refine ⟨⟨decide_eq_true (by omega), decide_eq_true (by omega)⟩, ?_⟩)
            try (first | done | decide | exact decide_eq_true (by omega) | exact ⟨decide_eq_true (by omega), decide_eq_true (by omega)⟩)
            refine .of (c_i_within _ _ _) ?_
            try simp -implicitDefEqProofs only [go_sem]
            repeat (first | refine ⟨rfl, ?_⟩ | refine ⟨by decide, ?_⟩ | refine ⟨⟨by decide, by decide⟩, ?_⟩ | refine ⟨decide_eq_true (by omega), ?_⟩ | refine ⟨⟨decide_eq_true (by omega), decide_eq_true (by omega)⟩, ?_⟩)
            try (first | done | decide | exact decide_eq_true (by omega) | exact ⟨decide_eq_true (by omega), decide_eq_true (by omega)⟩)
            cases a3 : win t.Marks[j + 1].Code 0 6
            · have g : t.Marks[j + 1].ok = false := by simp only [MarkV.ok, a3, Bool.and_false]
              have gg : markGood t.Marks (j + 1) = false := by rw [good1, g, Bool.false_and]
              have e : t.ok = false := by simp only [TabV.ok, rng_not k1 gg, Bool.and_false, Bool.false_and]
              try simp -implicitDefEqProofs only [go_sem, e]
              repeat (first | refine ⟨rfl, ?_⟩ | refine ⟨by decide, ?_⟩ | refine ⟨⟨by decide, by decide⟩, ?_⟩ | refine ⟨decide_eq_true (by omega), ?_⟩ | refine ⟨⟨decide_eq_true (by omega), decide_eq_true (by omega)⟩, ?_⟩)
              try (first | done | decide | exact decide_eq_true (by omega) | exact ⟨decide_eq_true (by omega), decide_eq_true (by omega)⟩)
            have g : t.Marks[j + 1].ok = true := by simp only [MarkV.ok, a1, a2, a3, Bool.and_true]
            cases g2 : decide (t.Marks[j].Who ≥ t.Marks[j + 1].Who)
            · have gg : markGood t.Marks (j + 1) = true := by rw [good1, g, g2]; rfl
              try simp -implicitDefEqProofs only [go_sem, z, ew, List.getElem?_eq_getElem k0, List.getElem?_eq_getElem k1, g2]
              repeat (first | refine ⟨rfl, ?_⟩ | refine ⟨by decide, ?_⟩ | refine ⟨⟨by decide, by decide⟩, ?_⟩ | refine ⟨decide_eq_true (by omega), ?_⟩ | refine ⟨⟨decide_eq_true (by omega), decide_eq_true (by omega)⟩, ?_⟩)
              try (first | done | decide | exact decide_eq_true (by omega) | exact ⟨decide_eq_true (by omega), decide_eq_true (by omega)⟩)
              refine ⟨j + 2, by rw [IntWalk.i64_in _ (by omega)]; rfl, ⟨k1, rng_step hp gg⟩, by omega⟩
            · have gg : markGood t.Marks (j + 1) = false := by rw [good1, g2]; simp only [Bool.not_true, Bool.and_false]
              have e : t.ok = false := by simp only [TabV.ok, rng_not k1 gg, Bool.and_false, Bool.false_and]
              try simp -implicitDefEqProofs only [go_sem, z, ew, List.getElem?_eq_getElem k0, List.getElem?_eq_getElem k1, g2, e]
              repeat (first | refine ⟨rfl, ?_⟩ | refine ⟨by decide, ?_⟩ | refine ⟨⟨by decide, by decide⟩, ?_⟩ | refine ⟨decide_eq_true (by omega), ?_⟩ | refine ⟨⟨decide_eq_true (by omega), decide_eq_true (by omega)⟩, ?_⟩)
              try (first | done | decide | exact decide_eq_true (by omega) | exact ⟨decide_eq_true (by omega), decide_eq_true (by omega)⟩)
    · have k1 : i < t.Rows.length := by simp only [decide_eq_true_eq] at q; omega
      cases i with
      | zero =>
        have z : decide (((0 : Nat) : Int) > 0) = false := rfl
        have good0 := rowGood_zero k1
        try simp -implicitDefEqProofs only [go_sem, q, List.getElem?_eq_getElem k1, z]
        repeat (first | refine ⟨rfl, ?_⟩ | refine ⟨by decide, ?_⟩ | refine ⟨⟨by decide, by decide⟩, ?_⟩ | refine ⟨decide_eq_true (by omega), ?_⟩ | refine ⟨⟨decide_eq_true (by omega), decide_eq_true (by omega)⟩, ?_⟩)
        try (first | done | decide | exact decide_eq_true (by omega) | exact ⟨decide_eq_true (by omega), decide_eq_true (by omega)⟩)
        refine .of (c_i_RowOk t.Rows[0] (hR _ (List.getElem_mem k1))) ?_
        try simp -implicitDefEqProofs only [go_sem]
        repeat (first | refine ⟨rfl, ?_⟩ | refine ⟨by decide, ?_⟩ | refine ⟨⟨by decide, by decide⟩, ?_⟩ | refine ⟨decide_eq_true (by omega), ?_⟩ | refine ⟨⟨decide_eq_true (by omega), decide_eq_true (by omega)⟩, ?_⟩)
        try (first | done | decide | exact decide_eq_true (by omega) | exact ⟨decide_eq_true (by omega), decide_eq_true (by omega)⟩)
        cases g : t.Rows[0].ok
        · have e : t.ok = false := by simp only [TabV.ok, rng_not k1 (good0.trans g), Bool.false_and]
          try simp -implicitDefEqProofs only [go_sem, e]
          repeat (first | refine ⟨rfl, ?_⟩ | refine ⟨by decide, ?_⟩ | refine ⟨⟨by decide, by decide⟩, ?_⟩ | refine ⟨decide_eq_true (by omega), ?_⟩ | refine ⟨⟨decide_eq_true (by omega), decide_eq_true (by omega)⟩, ?_⟩)
          try (first | done | decide | exact decide_eq_true (by omega) | exact ⟨decide_eq_true (by omega), decide_eq_true (by omega)⟩)
        · try simp -implicitDefEqProofs only [go_sem, z]
          repeat (first | refine ⟨rfl, ?_⟩ | refine ⟨by decide, ?_⟩ | refine ⟨⟨by decide, by decide⟩, ?_⟩ | refine ⟨decide_eq_true (by omega), ?_⟩ | refine ⟨⟨decide_eq_true (by omega), decide_eq_true (by omega)⟩, ?_⟩)
          try (first | done | decide | exact decide_eq_true (by omega) | exact ⟨decide_eq_true (by omega), decide_eq_true (by omega)⟩)
          refine ⟨1, by rw [IntWalk.i64_in _ (by omega)]; rfl, ⟨k1, rng_step hp (good0.trans g)⟩, by omega⟩
      | succ j =>
        have k0 : j < t.Rows.length := by omega
        have z : decide (((j + 1 : Nat) : Int) > 0) = true := decide_eq_true (by omega)
        have ew : IntKind.i64.wrap (((j + 1 : Nat) : Int) - 1) = (j : Int) := by rw [IntWalk.i64_in _ (by omega)]; omega
        have good1 := rowGood_succ k1
        try simp -implicitDefEqProofs only [go_sem, q, List.getElem?_eq_getElem k1, z]
        repeat (first | refine ⟨rfl, ?_⟩ | refine ⟨by decide, ?_⟩ | refine ⟨⟨by decide, by decide⟩, ?_⟩ | refine ⟨decide_eq_true (by omega), ?_⟩ | refine ⟨⟨decide_eq_true (by omega), decide_eq_true (by omega)⟩, ?_⟩)
        try (first | done | decide | exact decide_eq_true (by omega) | exact ⟨decide_eq_true (by omega), decide_eq_true (by omega)⟩)
        refine .of (c_i_RowOk t.Rows[j + 1] (hR _ (List.getElem_mem k1))) ?_
        try simp -implicitDefEqProofs only [go_sem]
        repeat (first | refine ⟨rfl, ?_⟩ | refine ⟨by decide, ?_⟩ | refine ⟨⟨by decide, by decide⟩, ?_⟩ | refine ⟨decide_eq_true (by omega), ?_⟩ | refine ⟨⟨decide_eq_true (by omega), decide_eq_true (by omega)⟩, ?_⟩)
        try (first | done | decide | exact decide_eq_true (by omega) | exact ⟨decide_eq_true (by omega), decide_eq_true (by omega)⟩)
        cases g : t.Rows[j + 1].ok
        · have gg : rowGood t.Rows (j + 1) = false := by rw [good1, g, Bool.false_and]
          have e : t.ok = false := by simp only [TabV.ok, rng_not k1 gg, Bool.false_and]
          try simp -implicitDefEqProofs only [go_sem, e]
          repeat (first | refine ⟨rfl, ?_⟩ | refine ⟨by decide, ?_⟩ | refine ⟨⟨by decide, by decide⟩, ?_⟩ | refine ⟨decide_eq_true (by omega), ?_⟩ | refine ⟨⟨decide_eq_true (by omega), decide_eq_true (by omega)⟩, ?_⟩)
          try (first | done | decide | exact decide_eq_true (by omega) | exact ⟨decide_eq_true (by omega), decide_eq_true (by omega)⟩)
        · cases g2 : Op.bytesLess t.Rows[j].Key.toList t.Rows[j + 1].Key.toList
          · have gg : rowGood t.Rows (j + 1) = false := by rw [good1, g2, Bool.and_false]
            have e : t.ok = false := by simp only [TabV.ok, rng_not k1 gg, Bool.false_and]
            try simp -implicitDefEqProofs only [go_sem, z, ew, List.getElem?_eq_getElem k0, List.getElem?_eq_getElem k1, g2, e]
            repeat (first | refine ⟨rfl, ?_⟩ | refine ⟨by decide, ?_⟩ | refine ⟨⟨by decide, by decide⟩, ?_⟩ | refine ⟨decide_eq_true (by omega), ?_⟩ | refine ⟨⟨decide_eq_true (by omega), decide_eq_true (by omega)⟩, ?_⟩)
            try (first | done | decide | exact decide_eq_true (by omega) | exact ⟨decide_eq_true (by omega), decide_eq_true (by omega)⟩)
          · have gg : rowGood t.Rows (j + 1) = true := by rw [good1, g, g2]; rfl
            try simp -implicitDefEqProofs only [go_sem, z, ew, List.getElem?_eq_getElem k0, List.getElem?_eq_getElem k1, g2]
            repeat (first | refine ⟨rfl, ?_⟩ | refine ⟨by decide, ?_⟩ | refine ⟨⟨by decide, by decide⟩, ?_⟩ | refine ⟨decide_eq_true (by omega), ?_⟩ | refine ⟨⟨decide_eq_true (by omega), decide_eq_true (by omega)⟩, ?_⟩)
            try (first | done | decide | exact decide_eq_true (by omega) | exact ⟨decide_eq_true (by omega), decide_eq_true (by omega)⟩)
            refine ⟨j + 2, by rw [IntWalk.i64_in _ (by omega)]; rfl, ⟨k1, rng_step hp gg⟩, by omega⟩
def x_s_TabOk : FnX := ⟨82, [.tmp 2],
  .q [.v 1 0, .F 2]
 (.seq (.q [.i 3 0]
 (.block 0 (.loop [1, 3] (.seq (.q [.m 5 3, .f 6 1 0, .l 7 6, .n 8 7, .b 9 .lss 5 8]
 (.cond 9 .skip (.exit 0)))
 (.seq (.block 1 (.seq (.draw [.f 12 1 0, .l 13 12, .m 14 3, .x 15 7 13 14, .L 16 7 15, .c 17 132 [16], .N 18 17, .m 19 18, ⟨(some (19, false)), some 20, 20, .mv (.t 3)⟩, ⟨(some (19, false)), some 21, 21, .bin .gtr (.t 20) (.i 0)⟩, ⟨(some (19, false)), some 22, 22, .mv (.t 21)⟩, ⟨(some (22, true)), some 23, 23, .faddr (.t 1) 0⟩, ⟨(some (22, true)), some 24, 24, .load none (.t 23)⟩, ⟨(some (22, true)), some 25, 25, .mv (.t 3)⟩, ⟨(some (22, true)), some 26, 26, .bin .sub (.t 25) (.i 1)⟩, ⟨(some (22, true)), some 27, 27, .iaddr 7 (.t 24) (.t 26)⟩, ⟨(some (22, true)), some 28, 28, .faddr (.t 27) 0⟩, ⟨(some (22, true)), some 29, 29, .load none (.t 28)⟩, ⟨(some (22, true)), some 30, 30, .faddr (.t 1) 0⟩, ⟨(some (22, true)), some 31, 31, .load none (.t 30)⟩, ⟨(some (22, true)), some 32, 32, .mv (.t 3)⟩, ⟨(some (22, true)), some 33, 33, .iaddr 7 (.t 31) (.t 32)⟩, ⟨(some (22, true)), some 34, 34, .faddr (.t 33) 0⟩, ⟨(some (22, true)), some 35, 35, .load none (.t 34)⟩, ⟨(some (22, true)), some 36, 36, .bin .geq (.t 29) (.t 35)⟩, ⟨(some (19, false)), some 37, 37, .pick (.t 22) (.t 36) .F⟩, .r 38 19 37] [[], [0], [], [1, 2], [3], [4], [5], [6, 5], [7], [8, 7], [9, 7, 7], [10], [11, 10], [10], [13, 10], [12, 14, 10], [15, 10], [16, 10], [10], [18, 10], [10], [19, 20, 10], [21, 10], [22, 10], [17, 23, 10], [10, 24, 7], [7, 25]])
 (.c 38 (.q [.F 2]
 .ret))))
 (.reg [.m 10 3, .B 11 .add 10 1, .m 3 11]))))))
 (.norm [1] (.seq (.q [.i 4 0]
 (.block 2 (.loop [1, 4] (.seq (.q [.m 39 4, .f 40 1 2, .l 41 40, .n 42 41, .b 43 .lss 39 42]
 (.cond 43 .skip (.exit 2)))
 (.seq (.block 3 (.seq (.draw [.f 46 1 2, .l 47 46, .m 48 4, .x 49 3 47 48, .L 50 3 49, .c 51 133 [50], .N 52 51, .m 53 52, ⟨(some (53, false)), some 54, 54, .mv (.t 4)⟩, ⟨(some (53, false)), some 55, 55, .bin .gtr (.t 54) (.i 0)⟩, ⟨(some (53, false)), some 56, 56, .mv (.t 55)⟩, ⟨(some (56, true)), some 57, 57, .faddr (.t 1) 2⟩, ⟨(some (56, true)), some 58, 58, .load none (.t 57)⟩, ⟨(some (56, true)), some 59, 59, .mv (.t 4)⟩, ⟨(some (56, true)), some 60, 60, .bin .sub (.t 59) (.i 1)⟩, ⟨(some (56, true)), some 61, 61, .iaddr 3 (.t 58) (.t 60)⟩, ⟨(some (56, true)), some 62, 62, .faddr (.t 61) 0⟩, ⟨(some (56, true)), some 63, 63, .load none (.t 62)⟩, ⟨(some (56, true)), some 64, 64, .faddr (.t 1) 2⟩, ⟨(some (56, true)), some 65, 65, .load none (.t 64)⟩, ⟨(some (56, true)), some 66, 66, .mv (.t 4)⟩, ⟨(some (56, true)), some 67, 67, .iaddr 3 (.t 65) (.t 66)⟩, ⟨(some (56, true)), some 68, 68, .faddr (.t 67) 0⟩, ⟨(some (56, true)), some 69, 69, .load none (.t 68)⟩, ⟨(some (56, true)), some 70, 70, .bin .geq (.t 63) (.t 69)⟩, ⟨(some (53, false)), some 71, 71, .pick (.t 56) (.t 70) .F⟩, .r 72 53 71] [[], [0], [], [1, 2], [3], [4], [5], [6, 5], [7], [8, 7], [9, 7, 7], [10], [11, 10], [10], [13, 10], [12, 14, 10], [15, 10], [16, 10], [10], [18, 10], [10], [19, 20, 10], [21, 10], [22, 10], [17, 23, 10], [10, 24, 7], [7, 25]])
 (.c 72 (.q [.F 2]
 .ret))))
 (.reg [.m 44 4, .B 45 .add 44 1, .m 4 45]))))))
 (.norm [1] (.q [.f 73 1 0, .l 74 73, .n 75 74, .B 76 .leq 75 8, .m 77 76, ⟨(some (77, true)), some 78, 78, .faddr (.t 1) 1⟩, ⟨(some (77, true)), some 79, 79, .load none (.t 78)⟩, ⟨(some (77, true)), some 80, 80, .call 23 [0, 0, 0] [(.t 79), (.i 0), (.i 7)]⟩, .a 81 77 80, .m 2 81]
 .ret)))))⟩
abbrev C_s_TabOk (Te : TE) : Prop := ∀ (t : TabV) (h : t.In (2 ^ 48)), Te 93 [.agg (t.enc false)] ⟨[.one (bT t.ok)], [t.enc false]⟩
theorem r_s_TabOk {Te : TE} (c_s_RowOk : C_s_RowOk Te) (c_s_l12Mark : C_s_l12Mark Te) (c_s_l1In : C_s_l1In Te) : C_s_TabOk (RF Te x_s_TabOk) := by
  intro t h
  refine run0 ?_
  obtain ⟨⟨hl, hR⟩, hM⟩ := h
  simp -implicitDefEqProofs only [x_s_TabOk, go_sem]
  repeat (first | refine ⟨rfl, ?_⟩ | refine ⟨by decide, ?_⟩ | refine ⟨⟨by decide, by decide⟩, ?_⟩ | refine ⟨decide_eq_true (by omega), ?_⟩ | refine ⟨⟨decide_eq_true (by omega), decide_eq_true (by omega)⟩, ?_⟩)
  try (first | done | decide | exact decide_eq_true (by omega) | exact ⟨decide_eq_true (by omega), decide_eq_true (by omega)⟩)
  refine loop_of (σ := Nat) (fun i => ⟨[(1, .bp 1 0), (3, .one (.pv (.int .i64 i)))], [(1, [.ro 7 (t.Rows.map (RowV.enc false)), .pv (.int .i64 t.Phase), .ro 3 (t.Marks.map MarkV.row)])], [(0, t.enc false)]⟩) (fun i => i ≤ t.Rows.length ∧ ∀ j, j < i → rowGood t.Rows j = true) (fun i => t.Rows.length - i) 0 ?_ ⟨Nat.zero_le _, fun j hj => absurd hj (Nat.not_lt_zero _)⟩ ?_
  · simp -implicitDefEqProofs only [go_sem]
    try rfl
  · rintro i ⟨hi, hp⟩
    cases q : decide ((i : Int) < (t.Rows.length : Int))
    · have eR := rng_end (f := rowGood t.Rows) (show t.Rows.length ≤ i by simp only [decide_eq_false_iff_not] at q; omega) hp
      try simp -implicitDefEqProofs only [go_sem, q]
      repeat (first | refine ⟨rfl, ?_⟩ | refine ⟨by decide, ?_⟩ | refine ⟨⟨by decide, by decide⟩, ?_⟩ | refine ⟨decide_eq_true (by omega), ?_⟩ | refine ⟨⟨decide_eq_true (by omega), decide_eq_true (by omega)⟩, ?_⟩)
      try (first | done | decide | exact decide_eq_true (by omega) | exact ⟨decide_eq_true (by omega), decide_eq_true (by omega)⟩)
      refine loop_of (σ := Nat) (fun i => ⟨[(1, .bp 1 0), (4, .one (.pv (.int .i64 i)))], [(1, [.ro 7 (t.Rows.map (RowV.enc false)), .pv (.int .i64 t.Phase), .ro 3 (t.Marks.map MarkV.row)])], [(0, t.enc false)]⟩) (fun i => i ≤ t.Marks.length ∧ ∀ j, j < i → markGood t.Marks j = true) (fun i => t.Marks.length - i) 0 ?_ ⟨Nat.zero_le _, fun j hj => absurd hj (Nat.not_lt_zero _)⟩ ?_
      · simp -implicitDefEqProofs only [go_sem]
        try rfl
      · rintro i ⟨hi, hp⟩
        cases q : decide ((i : Int) < (t.Marks.length : Int))
        · have eM := rng_end (f := markGood t.Marks) (show t.Marks.length ≤ i by simp only [decide_eq_false_iff_not] at q; omega) hp
          try simp -implicitDefEqProofs only [go_sem, q]
          repeat (first | refine ⟨rfl, ?_⟩ | refine ⟨by decide, ?_⟩ | refine ⟨⟨by decide, by decide⟩, ?_⟩ | refine ⟨decide_eq_true (by omega), ?_⟩ | refine ⟨⟨decide_eq_true (by omega), decide_eq_true (by omega)⟩, ?_⟩)
          try (first | done | decide | exact decide_eq_true (by omega) | exact ⟨decide_eq_true (by omega), decide_eq_true (by omega)⟩)
          cases gl : decide ((t.Rows.length : Int) ≤ 8)
          · have e : t.ok = false := by simp only [TabV.ok, gl, Bool.and_false, Bool.false_and]
            try simp -implicitDefEqProofs only [go_sem, gl, e]
            repeat (first | refine ⟨rfl, ?_⟩ | refine ⟨by decide, ?_⟩ | refine ⟨⟨by decide, by decide⟩, ?_⟩ | refine ⟨decide_eq_true (by omega), ?_⟩ | refine ⟨⟨decide_eq_true (by omega), decide_eq_true (by omega)⟩, ?_⟩)
            try (first | done | decide | exact decide_eq_true (by omega) | exact ⟨decide_eq_true (by omega), decide_eq_true (by omega)⟩)
          · have e : t.ok = win t.Phase 0 7 := by simp only [TabV.ok, eR, eM, gl, Bool.true_and]
            try simp -implicitDefEqProofs only [go_sem, gl]
            repeat (first | refine ⟨rfl, ?_⟩ | refine ⟨by decide, ?_⟩ | refine ⟨⟨by decide, by decide⟩, ?_⟩ | refine ⟨decide_eq_true (by omega), ?_⟩ | refine ⟨⟨decide_eq_true (by omega), decide_eq_true (by omega)⟩, ?_⟩)
            try (first | done | decide | exact decide_eq_true (by omega) | exact ⟨decide_eq_true (by omega), decide_eq_true (by omega)⟩)
            refine .of (c_s_l1In _ _ _) ?_
            try simp -implicitDefEqProofs only [go_sem, e]
            repeat (first | refine ⟨rfl, ?_⟩ | refine ⟨by decide, ?_⟩ | refine ⟨⟨by decide, by decide⟩, ?_⟩ | refine ⟨decide_eq_true (by omega), ?_⟩ | refine ⟨⟨decide_eq_true (by omega), decide_eq_true (by omega)⟩, ?_⟩)
            try (first | done | decide | exact decide_eq_true (by omega) | exact ⟨decide_eq_true (by omega), decide_eq_true (by omega)⟩)
        · have k1 : i < t.Marks.length := by simp only [decide_eq_true_eq] at q; omega
          cases i with
          | zero =>
            have z : decide (((0 : Nat) : Int) > 0) = false := rfl
            have good0 := markGood_zero k1
            try simp -implicitDefEqProofs only [go_sem, q, List.getElem?_eq_getElem k1, z]
            repeat (first | refine ⟨rfl, ?_⟩ | refine ⟨by decide, ?_⟩ | refine ⟨⟨by decide, by decide⟩, ?_⟩ | refine ⟨decide_eq_true (by omega), ?_⟩ | refine ⟨⟨decide_eq_true (by omega), decide_eq_true (by omega)⟩, ?_⟩)
            try (first | done | decide | exact decide_eq_true (by omega) | exact ⟨decide_eq_true (by omega), decide_eq_true (by omega)⟩)
            refine .of (c_s_l12Mark t.Marks[0]) ?_
            try simp -implicitDefEqProofs only [go_sem]
            repeat (first | refine ⟨rfl, ?_⟩ | refine ⟨by decide, ?_⟩ | refine ⟨⟨by decide, by decide⟩, ?_⟩ | refine ⟨decide_eq_true (by omega), ?_⟩ | refine ⟨⟨decide_eq_true (by omega), decide_eq_true (by omega)⟩, ?_⟩)
            try (first | done | decide | exact decide_eq_true (by omega) | exact ⟨decide_eq_true (by omega), decide_eq_true (by omega)⟩)
            cases g : t.Marks[0].ok
            · have e : t.ok = false := by simp only [TabV.ok, rng_not k1 (good0.trans g), Bool.and_false, Bool.false_and]
              try simp -implicitDefEqProofs only [go_sem, e]
              repeat (first | refine ⟨rfl, ?_⟩ | refine ⟨by decide, ?_⟩ | refine ⟨⟨by decide, by decide⟩, ?_⟩ | refine ⟨decide_eq_true (by omega), ?_⟩ | refine ⟨⟨decide_eq_true (by omega), decide_eq_true (by omega)⟩, ?_⟩)
              try (first | done | decide | exact decide_eq_true (by omega) | exact ⟨decide_eq_true (by omega), decide_eq_true (by omega)⟩)
            · try simp -implicitDefEqProofs only [go_sem, z]
              repeat (first | refine ⟨rfl, ?_⟩ | refine ⟨by decide, ?_⟩ | refine ⟨⟨by decide, by decide⟩, ?_⟩ | refine ⟨decide_eq_true (by omega), ?_⟩ | refine ⟨⟨decide_eq_true (by omega), decide_eq_true (by omega)⟩, ?_⟩)
              try (first | done | decide | exact decide_eq_true (by omega) | exact ⟨decide_eq_true (by omega), decide_eq_true (by omega)⟩)
              refine ⟨1, by rw [IntWalk.i64_in _ (by omega)]; rfl, ⟨k1, rng_step hp (good0.trans g)⟩, by omega⟩
          | succ j =>
            have k0 : j < t.Marks.length := by omega
            have z : decide (((j + 1 : Nat) : Int) > 0) = true := decide_eq_true (by omega)
            have ew : IntKind.i64.wrap (((j + 1 : Nat) : Int) - 1) = (j : Int) := by rw [IntWalk.i64_in _ (by omega)]; omega
            have good1 := markGood_succ k1
            try simp -implicitDefEqProofs only [go_sem, q, List.getElem?_eq_getElem k1, z]
            repeat (first | refine ⟨rfl, ?_⟩ | refine ⟨by decide, ?_⟩ | refine ⟨⟨by decide, by decide⟩, ?_⟩ | refine ⟨decide_eq_true (by omega), ?_⟩ | refine ⟨⟨decide_eq_true (by omega), decide_eq_true (by omega)⟩, ?_⟩)
            try (first | done | decide | exact decide_eq_true (by omega) | exact ⟨decide_eq_true (by omega), decide_eq_true (by omega)⟩)
            refine .of (c_s_l12Mark t.Marks[j + 1]) ?_
            try simp -implicitDefEqProofs only [go_sem]
            repeat (first | refine ⟨rfl, ?_⟩ | refine ⟨by decide, ?_⟩ | refine ⟨⟨by decide, by decide⟩, ?_⟩ | refine ⟨decide_eq_true (by omega), ?_⟩ | refine ⟨⟨decide_eq_true (by omega), decide_eq_true (by omega)⟩, ?_⟩)
            try (first | done | decide | exact decide_eq_true (by omega) | exact ⟨decide_eq_true (by omega), decide_eq_true (by omega)⟩)
            cases g : t.Marks[j + 1].ok
            · have gg : markGood t.Marks (j + 1) = false := by rw [good1, g, Bool.false_and]
              have e : t.ok = false := by simp only [TabV.ok, rng_not k1 gg, Bool.and_false, Bool.false_and]
              try simp -implicitDefEqProofs only [go_sem, e]
              repeat (first | refine ⟨rfl, ?_⟩ | refine ⟨by decide, ?_⟩ | refine ⟨⟨by decide, by decide⟩, ?_⟩ | refine ⟨decide_eq_true (by omega), ?_⟩ | refine ⟨⟨decide_eq_true (by omega), decide_eq_true (by omega)⟩, ?_⟩)
              try (first | done | decide | exact decide_eq_true (by omega) | exact ⟨decide_eq_true (by omega), decide_eq_true (by omega)⟩)
            · cases g2 : decide (t.Marks[j].Who ≥ t.Marks[j + 1].Who)
              · have gg : markGood t.Marks (j + 1) = true := by rw [good1, g, g2]; rfl
                try simp -implicitDefEqProofs only [go_sem, z, ew, List.getElem?_eq_getElem k0, List.getElem?_eq_getElem k1, g2]
                repeat (first | refine ⟨rfl, ?_⟩ | refine ⟨by decide, ?_⟩ | refine ⟨⟨by decide, by decide⟩, ?_⟩ | refine ⟨decide_eq_true (by omega), ?_⟩ | refine ⟨⟨decide_eq_true (by omega), decide_eq_true (by omega)⟩, ?_⟩)
                try (first | done | decide | exact decide_eq_true (by omega) | exact ⟨decide_eq_true (by omega), decide_eq_true (by omega)⟩)
                refine ⟨j + 2, by rw [IntWalk.i64_in _ (by omega)]; rfl, ⟨k1, rng_step hp gg⟩, by omega⟩
              · have gg : markGood t.Marks (j + 1) = false := by rw [good1, g2]; simp only [Bool.not_true, Bool.and_false]
                have e : t.ok = false := by simp only [TabV.ok, rng_not k1 gg, Bool.and_false, Bool.false_and]
                try simp -implicitDefEqProofs only [go_sem, z, ew, List.getElem?_eq_getElem k0, List.getElem?_eq_getElem k1, g2, e]
                repeat (first | refine ⟨rfl, ?_⟩ | refine ⟨by decide, ?_⟩ | refine ⟨⟨by decide, by decide⟩, ?_⟩ | refine ⟨decide_eq_true (by omega), ?_⟩ | refine ⟨⟨decide_eq_true (by omega), decide_eq_true (by omega)⟩, ?_⟩)
                try (first | done | decide | exact decide_eq_true (by omega) | exact ⟨decide_eq_true (by omega), decide_eq_true (by omega)⟩)
    · have k1 : i < t.Rows.length := by simp only [decide_eq_true_eq] at q; omega
      cases i with
      | zero =>
        have z : decide (((0 : Nat) : Int) > 0) = false := rfl
        have good0 := rowGood_zero k1
        try simp -implicitDefEqProofs only [go_sem, q, List.getElem?_eq_getElem k1, z]
        repeat (first | refine ⟨rfl, ?_⟩ | refine ⟨by decide, ?_⟩ | refine ⟨⟨by decide, by decide⟩, ?_⟩ | refine ⟨decide_eq_true (by omega), ?_⟩ | refine ⟨⟨decide_eq_true (by omega), decide_eq_true (by omega)⟩, ?_⟩)
        try (first | done | decide | exact decide_eq_true (by omega) | exact ⟨decide_eq_true (by omega), decide_eq_true (by omega)⟩)
        refine .of (c_s_RowOk t.Rows[0] (hR _ (List.getElem_mem k1))) ?_
        try simp -implicitDefEqProofs only [go_sem]
        repeat (first | refine ⟨rfl, ?_⟩ | refine ⟨by decide, ?_⟩ | refine ⟨⟨by decide, by decide⟩, ?_⟩ | refine ⟨decide_eq_true (by omega), ?_⟩ | refine ⟨⟨decide_eq_true (by omega), decide_eq_true (by omega)⟩, ?_⟩)
        try (first | done | decide | exact decide_eq_true (by omega) | exact ⟨decide_eq_true (by omega), decide_eq_true (by omega)⟩)
        cases g : t.Rows[0].ok
        · have e : t.ok = false := by simp only [TabV.ok, rng_not k1 (good0.trans g), Bool.false_and]
          try simp -implicitDefEqProofs only [go_sem, e]
          repeat (first | refine ⟨rfl, ?_⟩ | refine ⟨by decide, ?_⟩ | refine ⟨⟨by decide, by decide⟩, ?_⟩ | refine ⟨decide_eq_true (by omega), ?_⟩ | refine ⟨⟨decide_eq_true (by omega), decide_eq_true (by omega)⟩, ?_⟩)
          try (first | done | decide | exact decide_eq_true (by omega) | exact ⟨decide_eq_true (by omega), decide_eq_true (by omega)⟩)
        · try simp -implicitDefEqProofs only [go_sem, z]
          repeat (first | refine ⟨rfl, ?_⟩ | refine ⟨by decide, ?_⟩ | refine ⟨⟨by decide, by decide⟩, ?_⟩ | refine ⟨decide_eq_true (by omega), ?_⟩ | refine ⟨⟨decide_eq_true (by omega), decide_eq_true (by omega)⟩, ?_⟩)
          try (first | done | decide | exact decide_eq_true (by omega) | exact ⟨decide_eq_true (by omega), decide_eq_true (by omega)⟩)
          refine ⟨1, by rw [IntWalk.i64_in _ (by omega)]; rfl, ⟨k1, rng_step hp (good0.trans g)⟩, by omega⟩
      | succ j =>
        have k0 : j < t.Rows.length := by omega
        have z : decide (((j + 1 : Nat) : Int) > 0) = true := decide_eq_true (by omega)
        have ew : IntKind.i64.wrap (((j + 1 : Nat) : Int) - 1) = (j : Int) := by rw [IntWalk.i64_in _ (by omega)]; omega
        have good1 := rowGood_succ k1
        try simp -implicitDefEqProofs only [go_sem, q, List.getElem?_eq_getElem k1, z]
        repeat (first | refine ⟨rfl, ?_⟩ | refine ⟨by decide, ?_⟩ | refine ⟨⟨by decide, by decide⟩, ?_⟩ | refine ⟨decide_eq_true (by omega), ?_⟩ | refine ⟨⟨decide_eq_true (by omega), decide_eq_true (by omega)⟩, ?_⟩)
        try (first | done | decide | exact decide_eq_true (by omega) | exact ⟨decide_eq_true (by omega), decide_eq_true (by omega)⟩)
        refine .of (c_s_RowOk t.Rows[j + 1] (hR _ (List.getElem_mem k1))) ?_
        try simp -implicitDefEqProofs only [go_sem]
        repeat (first | refine ⟨rfl, ?_⟩ | refine ⟨by decide, ?_⟩ | refine ⟨⟨by decide, by decide⟩, ?_⟩ | refine ⟨decide_eq_true (by omega), ?_⟩ | refine ⟨⟨decide_eq_true (by omega), decide_eq_true (by omega)⟩, ?_⟩)
        try (first | done | decide | exact decide_eq_true (by omega) | exact ⟨decide_eq_true (by omega), decide_eq_true (by omega)⟩)
        cases g : t.Rows[j + 1].ok
        · have gg : rowGood t.Rows (j + 1) = false := by rw [good1, g, Bool.false_and]
          have e : t.ok = false := by simp only [TabV.ok, rng_not k1 gg, Bool.false_and]
          try simp -implicitDefEqProofs only [go_sem, e]
          repeat (first | refine ⟨rfl, ?_⟩ | refine ⟨by decide, ?_⟩ | refine ⟨⟨by decide, by decide⟩, ?_⟩ | refine ⟨decide_eq_true (by omega), ?_⟩ | refine ⟨⟨decide_eq_true (by omega), decide_eq_true (by omega)⟩, ?_⟩)
          try (first | done | decide | exact decide_eq_true (by omega) | exact ⟨decide_eq_true (by omega), decide_eq_true (by omega)⟩)
        · cases g2 : Op.bytesLess t.Rows[j].Key.toList t.Rows[j + 1].Key.toList
          · have gg : rowGood t.Rows (j + 1) = false := by rw [good1, g2, Bool.and_false]
            have e : t.ok = false := by simp only [TabV.ok, rng_not k1 gg, Bool.false_and]
            try simp -implicitDefEqProofs only [go_sem, z, ew, List.getElem?_eq_getElem k0, List.getElem?_eq_getElem k1, g2, e]
            repeat (first | refine ⟨rfl, ?_⟩ | refine ⟨by decide, ?_⟩ | refine ⟨⟨by decide, by decide⟩, ?_⟩ | refine ⟨decide_eq_true (by omega), ?_⟩ | refine ⟨⟨decide_eq_true (by omega), decide_eq_true (by omega)⟩, ?_⟩)
            try (first | done | decide | exact decide_eq_true (by omega) | exact ⟨decide_eq_true (by omega), decide_eq_true (by omega)⟩)
          · have gg : rowGood t.Rows (j + 1) = true := by rw [good1, g, g2]; rfl
            try simp -implicitDefEqProofs only [go_sem, z, ew, List.getElem?_eq_getElem k0, List.getElem?_eq_getElem k1, g2]
            repeat (first | refine ⟨rfl, ?_⟩ | refine ⟨by decide, ?_⟩ | refine ⟨⟨by decide, by decide⟩, ?_⟩ | refine ⟨decide_eq_true (by omega), ?_⟩ | refine ⟨⟨decide_eq_true (by omega), decide_eq_true (by omega)⟩, ?_⟩)
            try (first | done | decide | exact decide_eq_true (by omega) | exact ⟨decide_eq_true (by omega), decide_eq_true (by omega)⟩)
            refine ⟨j + 2, by rw [IntWalk.i64_in _ (by omega)]; rfl, ⟨k1, rng_step hp gg⟩, by omega⟩
end Go.X

/- Vg -/
namespace Go.X
set_option maxRecDepth 100000
set_option maxHeartbeats 8000000
def secGood (l : List UInt8) : Bool := !decide ((l.length : Int) > 120)
def wrGood (n : Nat) (w : WrV) : Bool := win w.N 0 ((n : Int) - 1) && !decide ((w.B.length : Int) > 120)
def DevV.ok (d : DevV) : Bool := win d.Secs.length 1 64 && decide ((d.Cache.length : Int) ≤ 40) && win d.Fuse (-1) 1000 && d.Secs.all secGood && d.Cache.all (wrGood d.Secs.length)
theorem gt_le (n : Nat) : decide ((n : Int) > 40) = !decide ((n : Int) ≤ 40) := by
  by_cases h : (n : Int) ≤ 40
  · rw [decide_eq_true h, decide_eq_false (by omega)]; rfl
  · rw [decide_eq_false h, decide_eq_true (by omega)]; rfl
def x_i_DevOk : FnX := ⟨57, [.tmp 2],
  .q [.v 1 0, .F 2]
 (.seq (.q [.f 7 1 0, .l 8 7, .n 9 8, .op 10 (.call 25 [0, 0, 0] [(.t 9), (.i 1), (.i 64)]), .N 11 10, .m 12 11, ⟨(some (12, false)), some 13, 13, .faddr (.t 1) 1⟩, ⟨(some (12, false)), some 14, 14, .load none (.t 13)⟩, ⟨(some (12, false)), some 15, 15, .len (.t 14)⟩, ⟨(some (12, false)), some 16, 16, .bin .gtr (.t 15) (.i 40)⟩, .r 17 12 16, .m 18 17, ⟨(some (18, false)), some 19, 19, .faddr (.t 1) 2⟩, ⟨(some (18, false)), some 20, 20, .load none (.t 19)⟩, ⟨(some (18, false)), some 21, 21, .call 25 [0, 0, 0] [(.t 20), (.i (-1)), (.i 1000)]⟩, ⟨(some (18, false)), some 22, 22, .not (.t 21)⟩, .r 23 18 22]
 (.c 23 (.q [.F 2]
 .ret)))
 (.seq (.q [.f 24 1 0, .l 25 24, .n 26 25, .i 27 0]
 (.block 0 (.loop [1, 25, 26, 27] (.q [.b 28 .lss 27 26]
 (.seq (.cond 28 .skip (.exit 0))
 (.seq (.block 1 (.q [.x 29 1 25 27, .l 30 29, .m 4 30]
 (.q [.m 31 4, .n 32 31, .B 33 .gtr 32 120]
 (.c 33 (.q [.F 2]
 .ret)))))
 (.reg [.B 34 .add 27 1, .m 27 34])))))))
 (.norm [1] (.seq (.q [.f 35 1 1, .l 36 35, .n 37 36, .i 38 0]
 (.block 2 (.loop [1, 36, 37, 38] (.q [.b 39 .lss 38 37]
 (.seq (.cond 39 .skip (.exit 2))
 (.seq (.block 3 (.q [.x 40 2 36 38, .L 41 2 40, .op 6 (.alloc [.i 0, .nils 1]), .s 100001 2 6 41]
 (.q [.f 42 6 0, .l 43 42, .f 44 1 0, .l 45 44, .n 46 45, .B 47 .sub 46 1, .op 48 (.call 25 [0, 0, 0] [(.t 43), (.i 0), (.t 47)]), .N 49 48, .m 50 49, ⟨(some (50, false)), some 51, 51, .faddr (.t 6) 1⟩, ⟨(some (50, false)), some 52, 52, .load none (.t 51)⟩, ⟨(some (50, false)), some 53, 53, .len (.t 52)⟩, ⟨(some (50, false)), some 54, 54, .bin .gtr (.t 53) (.i 120)⟩, .r 55 50 54]
 (.c 55 (.q [.F 2]
 .ret)))))
 (.reg [.B 56 .add 38 1, .m 38 56])))))))
 (.norm [] (.q [.T 2]
 .ret))))))⟩
abbrev C_i_DevOk (Te : TE) : Prop := ∀ (d : DevV) (h : d.In (2 ^ 48)), Te 101 [.agg (d.enc false)] ⟨[.one (bT d.ok)], [d.enc false]⟩
theorem r_i_DevOk {Te : TE} (c_i_within : C_i_within Te) : C_i_DevOk (RF Te x_i_DevOk) := by
  intro d h
  refine run0 ?_
  obtain ⟨⟨hl, hS⟩, hl2, hC⟩ := h
  have ws : IntKind.i64.wrap ((d.Secs.length : Int) - 1) = (d.Secs.length : Int) - 1 := IntWalk.i64_in _ (by omega)
  simp -implicitDefEqProofs only [x_i_DevOk, go_sem]
  repeat (first | refine ⟨rfl, ?_⟩ | refine ⟨by decide, ?_⟩ | refine ⟨⟨by decide, by decide⟩, ?_⟩ | refine ⟨decide_eq_true (by omega), ?_⟩ | refine ⟨⟨decide_eq_true (by omega), decide_eq_true (by omega)⟩, ?_⟩)
  try (first | done | decide | exact decide_eq_true (by omega) | exact ⟨decide_eq_true (by omega), decide_eq_true (by omega)⟩)
  refine .of (c_i_within _ _ _) ?_
  try simp -implicitDefEqProofs only [go_sem]
  repeat (first | refine ⟨rfl, ?_⟩ | refine ⟨by decide, ?_⟩ | refine ⟨⟨by decide, by decide⟩, ?_⟩ | refine ⟨decide_eq_true (by omega), ?_⟩ | refine ⟨⟨decide_eq_true (by omega), decide_eq_true (by omega)⟩, ?_⟩)
  try (first | done | decide | exact decide_eq_true (by omega) | exact ⟨decide_eq_true (by omega), decide_eq_true (by omega)⟩)
  cases g1 : win (d.Secs.length : Int) 1 64
  · have e : d.ok = false := by simp only [DevV.ok, g1, Bool.false_and]
    try simp -implicitDefEqProofs only [go_sem, e]
    repeat (first | refine ⟨rfl, ?_⟩ | refine ⟨by decide, ?_⟩ | refine ⟨⟨by decide, by decide⟩, ?_⟩ | refine ⟨decide_eq_true (by omega), ?_⟩ | refine ⟨⟨decide_eq_true (by omega), decide_eq_true (by omega)⟩, ?_⟩)
    try (first | done | decide | exact decide_eq_true (by omega) | exact ⟨decide_eq_true (by omega), decide_eq_true (by omega)⟩)
  cases g2 : decide ((d.Cache.length : Int) > 40)
  · have g2' : decide ((d.Cache.length : Int) ≤ 40) = true := by rw [gt_le] at g2; simpa using g2
    try simp -implicitDefEqProofs only [go_sem, g2]
    repeat (first | refine ⟨rfl, ?_⟩ | refine ⟨by decide, ?_⟩ | refine ⟨⟨by decide, by decide⟩, ?_⟩ | refine ⟨decide_eq_true (by omega), ?_⟩ | refine ⟨⟨decide_eq_true (by omega), decide_eq_true (by omega)⟩, ?_⟩)
    try (first | done | decide | exact decide_eq_true (by omega) | exact ⟨decide_eq_true (by omega), decide_eq_true (by omega)⟩)
    refine .of (c_i_within _ _ _) ?_
    try simp -implicitDefEqProofs only [go_sem]
    repeat (first | refine ⟨rfl, ?_⟩ | refine ⟨by decide, ?_⟩ | refine ⟨⟨by decide, by decide⟩, ?_⟩ | refine ⟨decide_eq_true (by omega), ?_⟩ | refine ⟨⟨decide_eq_true (by omega), decide_eq_true (by omega)⟩, ?_⟩)
    try (first | done | decide | exact decide_eq_true (by omega) | exact ⟨decide_eq_true (by omega), decide_eq_true (by omega)⟩)
    cases g3 : win d.Fuse (-1) 1000
    · have e : d.ok = false := by simp only [DevV.ok, g3, Bool.and_false, Bool.false_and]
      try simp -implicitDefEqProofs only [go_sem, e]
      repeat (first | refine ⟨rfl, ?_⟩ | refine ⟨by decide, ?_⟩ | refine ⟨⟨by decide, by decide⟩, ?_⟩ | refine ⟨decide_eq_true (by omega), ?_⟩ | refine ⟨⟨decide_eq_true (by omega), decide_eq_true (by omega)⟩, ?_⟩)
      try (first | done | decide | exact decide_eq_true (by omega) | exact ⟨decide_eq_true (by omega), decide_eq_true (by omega)⟩)
    simp -implicitDefEqProofs only [go_sem, true_implies, false_implies, true_and]
    refine loop_of (σ := Nat) (fun i => ⟨[(1, .bp 1 0), (25, .one (.ro 1 (d.Secs.map (fun y => [slT false 1 uR y])))), (26, .one (.pv (.int .i64 d.Secs.length))), (27, .one (.pv (.int .i64 i)))], [(1, [.ro 1 (d.Secs.map (fun y => [slT false 1 uR y])), .ro 2 (d.Cache.map (WrV.enc false)), .pv (.int .i64 d.Fuse), .pv (.bool d.Down)])], [(0, d.enc false)]⟩) (fun i => i ≤ d.Secs.length ∧ (d.Secs.take i).all (secGood) = true) (fun i => d.Secs.length - i) 0 ?_ ⟨Nat.zero_le _, rfl⟩ ?_
    · simp -implicitDefEqProofs only [go_sem]
      try rfl
    · rintro i ⟨hi, hp⟩
      cases q : decide ((i : Int) < (d.Secs.length : Int))
      · have eS := all_end (p := secGood) (show d.Secs.length ≤ i by simp only [decide_eq_false_iff_not] at q; omega) hp
        try simp -implicitDefEqProofs only [go_sem, q]
        repeat (first | refine ⟨rfl, ?_⟩ | refine ⟨by decide, ?_⟩ | refine ⟨⟨by decide, by decide⟩, ?_⟩ | refine ⟨decide_eq_true (by omega), ?_⟩ | refine ⟨⟨decide_eq_true (by omega), decide_eq_true (by omega)⟩, ?_⟩)
        try (first | done | decide | exact decide_eq_true (by omega) | exact ⟨decide_eq_true (by omega), decide_eq_true (by omega)⟩)
        refine loop_of (σ := Nat) (fun i => ⟨[(1, .bp 1 0), (36, .one (.ro 2 (d.Cache.map (WrV.enc false)))), (37, .one (.pv (.int .i64 d.Cache.length))), (38, .one (.pv (.int .i64 i)))], [(1, [.ro 1 (d.Secs.map (fun y => [slT false 1 uR y])), .ro 2 (d.Cache.map (WrV.enc false)), .pv (.int .i64 d.Fuse), .pv (.bool d.Down)])], [(0, d.enc false)]⟩) (fun i => i ≤ d.Cache.length ∧ (d.Cache.take i).all (wrGood d.Secs.length) = true) (fun i => d.Cache.length - i) 0 ?_ ⟨Nat.zero_le _, rfl⟩ ?_
        · simp -implicitDefEqProofs only [go_sem]
          try rfl
        · rintro i ⟨hi, hp⟩
          cases q : decide ((i : Int) < (d.Cache.length : Int))
          · have eC := all_end (p := wrGood d.Secs.length) (show d.Cache.length ≤ i by simp only [decide_eq_false_iff_not] at q; omega) hp
            try simp -implicitDefEqProofs only [go_sem, q]
            repeat (first | refine ⟨rfl, ?_⟩ | refine ⟨by decide, ?_⟩ | refine ⟨⟨by decide, by decide⟩, ?_⟩ | refine ⟨decide_eq_true (by omega), ?_⟩ | refine ⟨⟨decide_eq_true (by omega), decide_eq_true (by omega)⟩, ?_⟩)
            try (first | done | decide | exact decide_eq_true (by omega) | exact ⟨decide_eq_true (by omega), decide_eq_true (by omega)⟩)
            have e : d.ok = true := by simp only [DevV.ok, g1, g2', g3, eS, eC, Bool.and_true]
            try simp -implicitDefEqProofs only [go_sem, e]
            repeat (first | refine ⟨rfl, ?_⟩ | refine ⟨by decide, ?_⟩ | refine ⟨⟨by decide, by decide⟩, ?_⟩ | refine ⟨decide_eq_true (by omega), ?_⟩ | refine ⟨⟨decide_eq_true (by omega), decide_eq_true (by omega)⟩, ?_⟩)
            try (first | done | decide | exact decide_eq_true (by omega) | exact ⟨decide_eq_true (by omega), decide_eq_true (by omega)⟩)
          · have k1 : i < d.Cache.length := by simp only [decide_eq_true_eq] at q; omega
            try simp -implicitDefEqProofs only [go_sem, q, List.getElem?_eq_getElem k1, ws]
            repeat (first | refine ⟨rfl, ?_⟩ | refine ⟨by decide, ?_⟩ | refine ⟨⟨by decide, by decide⟩, ?_⟩ | refine ⟨decide_eq_true (by omega), ?_⟩ | refine ⟨⟨decide_eq_true (by omega), decide_eq_true (by omega)⟩, ?_⟩)
            try (first | done | decide | exact decide_eq_true (by omega) | exact ⟨decide_eq_true (by omega), decide_eq_true (by omega)⟩)
            refine .of (c_i_within _ _ _) ?_
            try simp -implicitDefEqProofs only [go_sem]
            repeat (first | refine ⟨rfl, ?_⟩ | refine ⟨by decide, ?_⟩ | refine ⟨⟨by decide, by decide⟩, ?_⟩ | refine ⟨decide_eq_true (by omega), ?_⟩ | refine ⟨⟨decide_eq_true (by omega), decide_eq_true (by omega)⟩, ?_⟩)
            try (first | done | decide | exact decide_eq_true (by omega) | exact ⟨decide_eq_true (by omega), decide_eq_true (by omega)⟩)
            cases g : win d.Cache[i].N 0 ((d.Secs.length : Int) - 1)
            · have gg : wrGood d.Secs.length d.Cache[i] = false := by simp only [wrGood, g, Bool.false_and]
              have e : d.ok = false := by simp only [DevV.ok, all_not (p := wrGood d.Secs.length) k1 gg, Bool.and_false]
              try simp -implicitDefEqProofs only [go_sem, e]
              repeat (first | refine ⟨rfl, ?_⟩ | refine ⟨by decide, ?_⟩ | refine ⟨⟨by decide, by decide⟩, ?_⟩ | refine ⟨decide_eq_true (by omega), ?_⟩ | refine ⟨⟨decide_eq_true (by omega), decide_eq_true (by omega)⟩, ?_⟩)
              try (first | done | decide | exact decide_eq_true (by omega) | exact ⟨decide_eq_true (by omega), decide_eq_true (by omega)⟩)
            · cases g2 : decide ((d.Cache[i].B.length : Int) > 120)
              · try simp -implicitDefEqProofs only [go_sem, g2, List.getElem?_eq_getElem k1]
                repeat (first | refine ⟨rfl, ?_⟩ | refine ⟨by decide, ?_⟩ | refine ⟨⟨by decide, by decide⟩, ?_⟩ | refine ⟨decide_eq_true (by omega), ?_⟩ | refine ⟨⟨decide_eq_true (by omega), decide_eq_true (by omega)⟩, ?_⟩)
                try (first | done | decide | exact decide_eq_true (by omega) | exact ⟨decide_eq_true (by omega), decide_eq_true (by omega)⟩)
                exact ⟨i + 1, by rw [IntWalk.i64_in _ (by omega)]; rfl, ⟨k1, all_step (p := wrGood d.Secs.length) k1 hp (by simp only [wrGood, g, g2, Bool.not_false, Bool.and_true])⟩, by omega⟩
              · have gg : wrGood d.Secs.length d.Cache[i] = false := by simp only [wrGood, g2, Bool.not_true, Bool.and_false]
                have e : d.ok = false := by simp only [DevV.ok, all_not (p := wrGood d.Secs.length) k1 gg, Bool.and_false]
                try simp -implicitDefEqProofs only [go_sem, g2, List.getElem?_eq_getElem k1, e]
                repeat (first | refine ⟨rfl, ?_⟩ | refine ⟨by decide, ?_⟩ | refine ⟨⟨by decide, by decide⟩, ?_⟩ | refine ⟨decide_eq_true (by omega), ?_⟩ | refine ⟨⟨decide_eq_true (by omega), decide_eq_true (by omega)⟩, ?_⟩)
                try (first | done | decide | exact decide_eq_true (by omega) | exact ⟨decide_eq_true (by omega), decide_eq_true (by omega)⟩)
      · have k1 : i < d.Secs.length := by simp only [decide_eq_true_eq] at q; omega
        cases g : decide ((d.Secs[i].length : Int) > 120)
        · try simp -implicitDefEqProofs only [go_sem, q, List.getElem?_eq_getElem k1, g]
          repeat (first | refine ⟨rfl, ?_⟩ | refine ⟨by decide, ?_⟩ | refine ⟨⟨by decide, by decide⟩, ?_⟩ | refine ⟨decide_eq_true (by omega), ?_⟩ | refine ⟨⟨decide_eq_true (by omega), decide_eq_true (by omega)⟩, ?_⟩)
          try (first | done | decide | exact decide_eq_true (by omega) | exact ⟨decide_eq_true (by omega), decide_eq_true (by omega)⟩)
          exact ⟨i + 1, by rw [IntWalk.i64_in _ (by omega)]; rfl, ⟨k1, all_step (p := secGood) k1 hp (by simp only [secGood, g, Bool.not_false])⟩, by omega⟩
        · have gg : secGood d.Secs[i] = false := by simp only [secGood, g, Bool.not_true]
          have e : d.ok = false := by simp only [DevV.ok, all_not (p := secGood) k1 gg, Bool.and_false, Bool.false_and]
          try simp -implicitDefEqProofs only [go_sem, q, List.getElem?_eq_getElem k1, g, e]
          repeat (first | refine ⟨rfl, ?_⟩ | refine ⟨by decide, ?_⟩ | refine ⟨⟨by decide, by decide⟩, ?_⟩ | refine ⟨decide_eq_true (by omega), ?_⟩ | refine ⟨⟨decide_eq_true (by omega), decide_eq_true (by omega)⟩, ?_⟩)
          try (first | done | decide | exact decide_eq_true (by omega) | exact ⟨decide_eq_true (by omega), decide_eq_true (by omega)⟩)
  · have g2' : decide ((d.Cache.length : Int) ≤ 40) = false := by rw [gt_le] at g2; simpa using g2
    have e : d.ok = false := by simp only [DevV.ok, g2', Bool.and_false, Bool.false_and]
    try simp -implicitDefEqProofs only [go_sem, g2, e]
    repeat (first | refine ⟨rfl, ?_⟩ | refine ⟨by decide, ?_⟩ | refine ⟨⟨by decide, by decide⟩, ?_⟩ | refine ⟨decide_eq_true (by omega), ?_⟩ | refine ⟨⟨decide_eq_true (by omega), decide_eq_true (by omega)⟩, ?_⟩)
    try (first | done | decide | exact decide_eq_true (by omega) | exact ⟨decide_eq_true (by omega), decide_eq_true (by omega)⟩)
def x_s_DevOk : FnX := ⟨63, [.tmp 2],
  .q [.v 1 0, .F 2]
 (.seq (.q [.i 3 0]
 (.block 0 (.loop [1, 3] (.seq (.q [.m 5 3, .f 6 1 0, .l 7 6, .n 8 7, .b 9 .lss 5 8]
 (.cond 9 .skip (.exit 0)))
 (.seq (.block 1 (.q [.f 12 1 0, .l 13 12, .m 14 3, .x 15 1 13 14, .l 16 15, .n 17 16, .B 18 .gtr 17 120]
 (.c 18 (.q [.F 2]
 .ret))))
 (.reg [.m 10 3, .B 11 .add 10 1, .m 3 11]))))))
 (.norm [1] (.seq (.q [.i 4 0]
 (.block 2 (.loop [1, 4] (.seq (.q [.m 19 4, .f 20 1 1, .l 21 20, .n 22 21, .b 23 .lss 19 22]
 (.cond 23 .skip (.exit 2)))
 (.seq (.block 3 (.seq (.draw [.f 26 1 1, .l 27 26, .m 28 4, .x 29 2 27 28, .f 30 29 0, .l 31 30, .f 32 1 0, .l 33 32, .n 34 33, .B 35 .sub 34 1, .op 36 (.call 23 [0, 0, 0] [(.t 31), (.i 0), (.t 35)]), .N 37 36, .m 38 37, ⟨(some (38, false)), some 39, 39, .faddr (.t 1) 1⟩, ⟨(some (38, false)), some 40, 40, .load none (.t 39)⟩, ⟨(some (38, false)), some 41, 41, .mv (.t 4)⟩, ⟨(some (38, false)), some 42, 42, .iaddr 2 (.t 40) (.t 41)⟩, ⟨(some (38, false)), some 43, 43, .faddr (.t 42) 1⟩, ⟨(some (38, false)), some 44, 44, .load none (.t 43)⟩, ⟨(some (38, false)), some 45, 45, .len (.t 44)⟩, ⟨(some (38, false)), some 46, 46, .bin .gtr (.t 45) (.i 120)⟩, .r 47 38 46] [[], [0], [], [1, 2], [3], [4], [], [6], [7], [8], [5, 9], [10], [11, 10], [12], [13, 12], [12], [14, 15, 12], [16, 12], [17, 12], [18, 12], [19, 12], [12, 20]])
 (.c 47 (.q [.F 2]
 .ret))))
 (.reg [.m 24 4, .B 25 .add 24 1, .m 4 25]))))))
 (.norm [1] (.q [.f 48 1 0, .l 49 48, .n 50 49, .op 51 (.call 23 [0, 0, 0] [(.t 50), (.i 1), (.i 64)]), .m 52 51, ⟨(some (52, true)), some 53, 53, .faddr (.t 1) 1⟩, ⟨(some (52, true)), some 54, 54, .load none (.t 53)⟩, ⟨(some (52, true)), some 55, 55, .len (.t 54)⟩, ⟨(some (52, true)), some 56, 56, .bin .leq (.t 55) (.i 40)⟩, .a 57 52 56, .m 58 57, ⟨(some (58, true)), some 59, 59, .faddr (.t 1) 2⟩, ⟨(some (58, true)), some 60, 60, .load none (.t 59)⟩, ⟨(some (58, true)), some 61, 61, .call 23 [0, 0, 0] [(.t 60), (.i (-1)), (.i 1000)]⟩, .a 62 58 61, .m 2 62]
 .ret)))))⟩
abbrev C_s_DevOk (Te : TE) : Prop := ∀ (d : DevV) (h : d.In (2 ^ 48)), Te 92 [.agg (d.enc false)] ⟨[.one (bT d.ok)], [d.enc false]⟩
theorem r_s_DevOk {Te : TE} (c_s_l1In : C_s_l1In Te) : C_s_DevOk (RF Te x_s_DevOk) := by
  intro d h
  refine run0 ?_
  obtain ⟨⟨hl, hS⟩, hl2, hC⟩ := h
  have ws : IntKind.i64.wrap ((d.Secs.length : Int) - 1) = (d.Secs.length : Int) - 1 := IntWalk.i64_in _ (by omega)
  simp -implicitDefEqProofs only [x_s_DevOk, go_sem]
  repeat (first | refine ⟨rfl, ?_⟩ | refine ⟨by decide, ?_⟩ | refine ⟨⟨by decide, by decide⟩, ?_⟩ | refine ⟨decide_eq_true (by omega), ?_⟩ | refine ⟨⟨decide_eq_true (by omega), decide_eq_true (by omega)⟩, ?_⟩)
  try (first | done | decide | exact decide_eq_true (by omega) | exact ⟨decide_eq_true (by omega), decide_eq_true (by omega)⟩)
  refine loop_of (σ := Nat) (fun i => ⟨[(1, .bp 1 0), (3, .one (.pv (.int .i64 i)))], [(1, [.ro 1 (d.Secs.map (fun y => [slT false 1 uR y])), .ro 2 (d.Cache.map (WrV.enc false)), .pv (.int .i64 d.Fuse), .pv (.bool d.Down)])], [(0, d.enc false)]⟩) (fun i => i ≤ d.Secs.length ∧ (d.Secs.take i).all (secGood) = true) (fun i => d.Secs.length - i) 0 ?_ ⟨Nat.zero_le _, rfl⟩ ?_
  · simp -implicitDefEqProofs only [go_sem]
    try rfl
  · rintro i ⟨hi, hp⟩
    cases q : decide ((i : Int) < (d.Secs.length : Int))
    · have eS := all_end (p := secGood) (show d.Secs.length ≤ i by simp only [decide_eq_false_iff_not] at q; omega) hp
      try simp -implicitDefEqProofs only [go_sem, q]
      repeat (first | refine ⟨rfl, ?_⟩ | refine ⟨by decide, ?_⟩ | refine ⟨⟨by decide, by decide⟩, ?_⟩ | refine ⟨decide_eq_true (by omega), ?_⟩ | refine ⟨⟨decide_eq_true (by omega), decide_eq_true (by omega)⟩, ?_⟩)
      try (first | done | decide | exact decide_eq_true (by omega) | exact ⟨decide_eq_true (by omega), decide_eq_true (by omega)⟩)
      refine loop_of (σ := Nat) (fun i => ⟨[(1, .bp 1 0), (4, .one (.pv (.int .i64 i)))], [(1, [.ro 1 (d.Secs.map (fun y => [slT false 1 uR y])), .ro 2 (d.Cache.map (WrV.enc false)), .pv (.int .i64 d.Fuse), .pv (.bool d.Down)])], [(0, d.enc false)]⟩) (fun i => i ≤ d.Cache.length ∧ (d.Cache.take i).all (wrGood d.Secs.length) = true) (fun i => d.Cache.length - i) 0 ?_ ⟨Nat.zero_le _, rfl⟩ ?_
      · simp -implicitDefEqProofs only [go_sem]
        try rfl
      · rintro i ⟨hi, hp⟩
        cases q : decide ((i : Int) < (d.Cache.length : Int))
        · have eC := all_end (p := wrGood d.Secs.length) (show d.Cache.length ≤ i by simp only [decide_eq_false_iff_not] at q; omega) hp
          try simp -implicitDefEqProofs only [go_sem, q]
          repeat (first | refine ⟨rfl, ?_⟩ | refine ⟨by decide, ?_⟩ | refine ⟨⟨by decide, by decide⟩, ?_⟩ | refine ⟨decide_eq_true (by omega), ?_⟩ | refine ⟨⟨decide_eq_true (by omega), decide_eq_true (by omega)⟩, ?_⟩)
          try (first | done | decide | exact decide_eq_true (by omega) | exact ⟨decide_eq_true (by omega), decide_eq_true (by omega)⟩)
          refine .of (c_s_l1In _ _ _) ?_
          try simp -implicitDefEqProofs only [go_sem]
          repeat (first | refine ⟨rfl, ?_⟩ | refine ⟨by decide, ?_⟩ | refine ⟨⟨by decide, by decide⟩, ?_⟩ | refine ⟨decide_eq_true (by omega), ?_⟩ | refine ⟨⟨decide_eq_true (by omega), decide_eq_true (by omega)⟩, ?_⟩)
          try (first | done | decide | exact decide_eq_true (by omega) | exact ⟨decide_eq_true (by omega), decide_eq_true (by omega)⟩)
          cases g1 : win (d.Secs.length : Int) 1 64
          · have e : d.ok = false := by simp only [DevV.ok, g1, Bool.false_and]
            try simp -implicitDefEqProofs only [go_sem, e]
            repeat (first | refine ⟨rfl, ?_⟩ | refine ⟨by decide, ?_⟩ | refine ⟨⟨by decide, by decide⟩, ?_⟩ | refine ⟨decide_eq_true (by omega), ?_⟩ | refine ⟨⟨decide_eq_true (by omega), decide_eq_true (by omega)⟩, ?_⟩)
            try (first | done | decide | exact decide_eq_true (by omega) | exact ⟨decide_eq_true (by omega), decide_eq_true (by omega)⟩)
          try simp -implicitDefEqProofs only [go_sem]
          repeat (first | refine ⟨rfl, ?_⟩ | refine ⟨by decide, ?_⟩ | refine ⟨⟨by decide, by decide⟩, ?_⟩ | refine ⟨decide_eq_true (by omega), ?_⟩ | refine ⟨⟨decide_eq_true (by omega), decide_eq_true (by omega)⟩, ?_⟩)
          try (first | done | decide | exact decide_eq_true (by omega) | exact ⟨decide_eq_true (by omega), decide_eq_true (by omega)⟩)
          cases g2 : decide ((d.Cache.length : Int) ≤ 40)
          · have e : d.ok = false := by simp only [DevV.ok, g2, Bool.and_false, Bool.false_and]
            try simp -implicitDefEqProofs only [go_sem, g2, e]
            repeat (first | refine ⟨rfl, ?_⟩ | refine ⟨by decide, ?_⟩ | refine ⟨⟨by decide, by decide⟩, ?_⟩ | refine ⟨decide_eq_true (by omega), ?_⟩ | refine ⟨⟨decide_eq_true (by omega), decide_eq_true (by omega)⟩, ?_⟩)
            try (first | done | decide | exact decide_eq_true (by omega) | exact ⟨decide_eq_true (by omega), decide_eq_true (by omega)⟩)
          try simp -implicitDefEqProofs only [go_sem, g2]
          repeat (first | refine ⟨rfl, ?_⟩ | refine ⟨by decide, ?_⟩ | refine ⟨⟨by decide, by decide⟩, ?_⟩ | refine ⟨decide_eq_true (by omega), ?_⟩ | refine ⟨⟨decide_eq_true (by omega), decide_eq_true (by omega)⟩, ?_⟩)
          try (first | done | decide | exact decide_eq_true (by omega) | exact ⟨decide_eq_true (by omega), decide_eq_true (by omega)⟩)
          have e : d.ok = win d.Fuse (-1) 1000 := by simp only [DevV.ok, g1, g2, eS, eC, Bool.and_true, Bool.true_and]
          refine .of (c_s_l1In _ _ _) ?_
          try simp -implicitDefEqProofs only [go_sem, e]
          repeat (first | refine ⟨rfl, ?_⟩ | refine ⟨by decide, ?_⟩ | refine ⟨⟨by decide, by decide⟩, ?_⟩ | refine ⟨decide_eq_true (by omega), ?_⟩ | refine ⟨⟨decide_eq_true (by omega), decide_eq_true (by omega)⟩, ?_⟩)
          try (first | done | decide | exact decide_eq_true (by omega) | exact ⟨decide_eq_true (by omega), decide_eq_true (by omega)⟩)
        · have k1 : i < d.Cache.length := by simp only [decide_eq_true_eq] at q; omega
          try simp -implicitDefEqProofs only [go_sem, q, List.getElem?_eq_getElem k1, ws]
          repeat (first | refine ⟨rfl, ?_⟩ | refine ⟨by decide, ?_⟩ | refine ⟨⟨by decide, by decide⟩, ?_⟩ | refine ⟨decide_eq_true (by omega), ?_⟩ | refine ⟨⟨decide_eq_true (by omega), decide_eq_true (by omega)⟩, ?_⟩)
          try (first | done | decide | exact decide_eq_true (by omega) | exact ⟨decide_eq_true (by omega), decide_eq_true (by omega)⟩)
          refine .of (c_s_l1In _ _ _) ?_
          try simp -implicitDefEqProofs only [go_sem]
          repeat (first | refine ⟨rfl, ?_⟩ | refine ⟨by decide, ?_⟩ | refine ⟨⟨by decide, by decide⟩, ?_⟩ | refine ⟨decide_eq_true (by omega), ?_⟩ | refine ⟨⟨decide_eq_true (by omega), decide_eq_true (by omega)⟩, ?_⟩)
          try (first | done | decide | exact decide_eq_true (by omega) | exact ⟨decide_eq_true (by omega), decide_eq_true (by omega)⟩)
          cases g : win d.Cache[i].N 0 ((d.Secs.length : Int) - 1)
          · have gg : wrGood d.Secs.length d.Cache[i] = false := by simp only [wrGood, g, Bool.false_and]
            have e : d.ok = false := by simp only [DevV.ok, all_not (p := wrGood d.Secs.length) k1 gg, Bool.and_false]
            try simp -implicitDefEqProofs only [go_sem, e]
            repeat (first | refine ⟨rfl, ?_⟩ | refine ⟨by decide, ?_⟩ | refine ⟨⟨by decide, by decide⟩, ?_⟩ | refine ⟨decide_eq_true (by omega), ?_⟩ | refine ⟨⟨decide_eq_true (by omega), decide_eq_true (by omega)⟩, ?_⟩)
            try (first | done | decide | exact decide_eq_true (by omega) | exact ⟨decide_eq_true (by omega), decide_eq_true (by omega)⟩)
          · cases g2 : decide ((d.Cache[i].B.length : Int) > 120)
            · try simp -implicitDefEqProofs only [go_sem, g2, List.getElem?_eq_getElem k1]
              repeat (first | refine ⟨rfl, ?_⟩ | refine ⟨by decide, ?_⟩ | refine ⟨⟨by decide, by decide⟩, ?_⟩ | refine ⟨decide_eq_true (by omega), ?_⟩ | refine ⟨⟨decide_eq_true (by omega), decide_eq_true (by omega)⟩, ?_⟩)
              try (first | done | decide | exact decide_eq_true (by omega) | exact ⟨decide_eq_true (by omega), decide_eq_true (by omega)⟩)
              exact ⟨i + 1, by rw [IntWalk.i64_in _ (by omega)]; rfl, ⟨k1, all_step (p := wrGood d.Secs.length) k1 hp (by simp only [wrGood, g, g2, Bool.not_false, Bool.and_true])⟩, by omega⟩
            · have gg : wrGood d.Secs.length d.Cache[i] = false := by simp only [wrGood, g2, Bool.not_true, Bool.and_false]
              have e : d.ok = false := by simp only [DevV.ok, all_not (p := wrGood d.Secs.length) k1 gg, Bool.and_false]
              try simp -implicitDefEqProofs only [go_sem, g2, List.getElem?_eq_getElem k1, e]
              repeat (first | refine ⟨rfl, ?_⟩ | refine ⟨by decide, ?_⟩ | refine ⟨⟨by decide, by decide⟩, ?_⟩ | refine ⟨decide_eq_true (by omega), ?_⟩ | refine ⟨⟨decide_eq_true (by omega), decide_eq_true (by omega)⟩, ?_⟩)
              try (first | done | decide | exact decide_eq_true (by omega) | exact ⟨decide_eq_true (by omega), decide_eq_true (by omega)⟩)
    · have k1 : i < d.Secs.length := by simp only [decide_eq_true_eq] at q; omega
      cases g : decide ((d.Secs[i].length : Int) > 120)
      · try simp -implicitDefEqProofs only [go_sem, q, List.getElem?_eq_getElem k1, g]
        repeat (first | refine ⟨rfl, ?_⟩ | refine ⟨by decide, ?_⟩ | refine ⟨⟨by decide, by decide⟩, ?_⟩ | refine ⟨decide_eq_true (by omega), ?_⟩ | refine ⟨⟨decide_eq_true (by omega), decide_eq_true (by omega)⟩, ?_⟩)
        try (first | done | decide | exact decide_eq_true (by omega) | exact ⟨decide_eq_true (by omega), decide_eq_true (by omega)⟩)
        exact ⟨i + 1, by rw [IntWalk.i64_in _ (by omega)]; rfl, ⟨k1, all_step (p := secGood) k1 hp (by simp only [secGood, g, Bool.not_false])⟩, by omega⟩
      · have gg : secGood d.Secs[i] = false := by simp only [secGood, g, Bool.not_true]
        have e : d.ok = false := by simp only [DevV.ok, all_not (p := secGood) k1 gg, Bool.and_false, Bool.false_and]
        try simp -implicitDefEqProofs only [go_sem, q, List.getElem?_eq_getElem k1, g, e]
        repeat (first | refine ⟨rfl, ?_⟩ | refine ⟨by decide, ?_⟩ | refine ⟨⟨by decide, by decide⟩, ?_⟩ | refine ⟨decide_eq_true (by omega), ?_⟩ | refine ⟨⟨decide_eq_true (by omega), decide_eq_true (by omega)⟩, ?_⟩)
        try (first | done | decide | exact decide_eq_true (by omega) | exact ⟨decide_eq_true (by omega), decide_eq_true (by omega)⟩)
def StoreV.ok (s : StoreV) : Bool := s.D.ok && ((s.D.Secs.length : Int) == 62) && (((s.D.Cache.length : Int) == 0) || s.D.Down) && s.T.ok && win s.Gen 1 60000 && win s.Place 0 30
def x_i_StoreOk : FnX := ⟨40, [.tmp 2],
  .q [.v 1 0, .F 2]
 (.q [.f 3 1 0, .L 4 4 3, .c 5 101 [4], .m 6 5, ⟨(some (6, true)), some 7, 7, .faddr (.t 1) 0⟩, ⟨(some (6, true)), some 8, 8, .faddr (.t 7) 0⟩, ⟨(some (6, true)), some 9, 9, .load none (.t 8)⟩, ⟨(some (6, true)), some 10, 10, .len (.t 9)⟩, ⟨(some (6, true)), some 11, 11, .bin .eql (.t 10) (.i 62)⟩, .a 12 6 11, .m 13 12, ⟨(some (13, true)), some 14, 14, .faddr (.t 1) 0⟩, ⟨(some (13, true)), some 15, 15, .faddr (.t 14) 1⟩, ⟨(some (13, true)), some 16, 16, .load none (.t 15)⟩, ⟨(some (13, true)), some 17, 17, .len (.t 16)⟩, ⟨(some (13, true)), some 18, 18, .bin .eql (.t 17) (.i 0)⟩, ⟨(some (13, true)), some 19, 19, .mv (.t 18)⟩, ⟨(some (19, false)), some 20, 20, .faddr (.t 1) 0⟩, ⟨(some (19, false)), some 21, 21, .faddr (.t 20) 3⟩, ⟨(some (19, false)), some 22, 22, .load none (.t 21)⟩, ⟨(some (13, true)), some 23, 23, .pick (.t 19) .T (.t 22)⟩, .a 24 13 23, .m 25 24, ⟨(some (25, true)), some 26, 26, .faddr (.t 1) 4⟩, ⟨(some (25, true)), some 27, 27, .load (some 3) (.t 26)⟩, ⟨(some (25, true)), some 28, 28, .call 102 [0] [(.t 27)]⟩, .a 29 25 28, .m 30 29, ⟨(some (30, true)), some 31, 31, .faddr (.t 1) 7⟩, ⟨(some (30, true)), some 32, 32, .load none (.t 31)⟩, ⟨(some (30, true)), some 33, 33, .call 25 [0, 0, 0] [(.t 32), (.i 1), (.i 60000)]⟩, .a 34 30 33, .m 35 34, ⟨(some (35, true)), some 36, 36, .faddr (.t 1) 8⟩, ⟨(some (35, true)), some 37, 37, .load none (.t 36)⟩, ⟨(some (35, true)), some 38, 38, .call 25 [0, 0, 0] [(.t 37), (.i 0), (.i 30)]⟩, .a 39 35 38, .m 2 39]
 .ret)⟩
abbrev C_i_StoreOk (Te : TE) : Prop := ∀ (s : StoreV) (h : s.In (2 ^ 48)), Te 62 [.agg (s.enc false)] ⟨[.one (bT s.ok)], [s.enc false]⟩
theorem r_i_StoreOk {Te : TE} (c_i_DevOk : C_i_DevOk Te) (c_i_TabOk : C_i_TabOk Te) (c_i_within : C_i_within Te) : C_i_StoreOk (RF Te x_i_StoreOk) := by
  intro s h
  refine run0 ?_
  obtain ⟨hD, hT⟩ := h
  obtain ⟨⟨secs, cache, fuse, down⟩, T, gen, place⟩ := s
  cases down
  · skip
    simp -implicitDefEqProofs only [x_i_StoreOk, go_sem]
    repeat (first | refine ⟨rfl, ?_⟩ | refine ⟨by decide, ?_⟩ | refine ⟨⟨by decide, by decide⟩, ?_⟩ | refine ⟨decide_eq_true (by omega), ?_⟩ | refine ⟨⟨decide_eq_true (by omega), decide_eq_true (by omega)⟩, ?_⟩)
    try (first | done | decide | exact decide_eq_true (by omega) | exact ⟨decide_eq_true (by omega), decide_eq_true (by omega)⟩)
    refine .of (c_i_DevOk ⟨secs, cache, fuse, false⟩ hD) ?_
    try simp -implicitDefEqProofs only [go_sem]
    repeat (first | refine ⟨rfl, ?_⟩ | refine ⟨by decide, ?_⟩ | refine ⟨⟨by decide, by decide⟩, ?_⟩ | refine ⟨decide_eq_true (by omega), ?_⟩ | refine ⟨⟨decide_eq_true (by omega), decide_eq_true (by omega)⟩, ?_⟩)
    try (first | done | decide | exact decide_eq_true (by omega) | exact ⟨decide_eq_true (by omega), decide_eq_true (by omega)⟩)
    cases g1 : DevV.ok ⟨secs, cache, fuse, false⟩
    · have e : (StoreV.mk ⟨secs, cache, fuse, false⟩ T gen place).ok = false := by simp only [StoreV.ok, g1, Bool.false_and]
      try simp -implicitDefEqProofs only [go_sem, e]
      repeat (first | refine ⟨rfl, ?_⟩ | refine ⟨by decide, ?_⟩ | refine ⟨⟨by decide, by decide⟩, ?_⟩ | refine ⟨decide_eq_true (by omega), ?_⟩ | refine ⟨⟨decide_eq_true (by omega), decide_eq_true (by omega)⟩, ?_⟩)
      try (first | done | decide | exact decide_eq_true (by omega) | exact ⟨decide_eq_true (by omega), decide_eq_true (by omega)⟩)
    cases g2 : ((secs.length : Int) == 62)
    · have e : (StoreV.mk ⟨secs, cache, fuse, false⟩ T gen place).ok = false := by simp only [StoreV.ok, g2, Bool.and_false, Bool.false_and]
      try simp -implicitDefEqProofs only [go_sem, g2, e]
      repeat (first | refine ⟨rfl, ?_⟩ | refine ⟨by decide, ?_⟩ | refine ⟨⟨by decide, by decide⟩, ?_⟩ | refine ⟨decide_eq_true (by omega), ?_⟩ | refine ⟨⟨decide_eq_true (by omega), decide_eq_true (by omega)⟩, ?_⟩)
      try (first | done | decide | exact decide_eq_true (by omega) | exact ⟨decide_eq_true (by omega), decide_eq_true (by omega)⟩)
    cases g0 : ((cache.length : Int) == 0)
    · have e : (StoreV.mk ⟨secs, cache, fuse, false⟩ T gen place).ok = false := by simp only [StoreV.ok, g0, Bool.or_self, Bool.and_false, Bool.false_and]
      try simp -implicitDefEqProofs only [go_sem, g2, g0, e]
      repeat (first | refine ⟨rfl, ?_⟩ | refine ⟨by decide, ?_⟩ | refine ⟨⟨by decide, by decide⟩, ?_⟩ | refine ⟨decide_eq_true (by omega), ?_⟩ | refine ⟨⟨decide_eq_true (by omega), decide_eq_true (by omega)⟩, ?_⟩)
      try (first | done | decide | exact decide_eq_true (by omega) | exact ⟨decide_eq_true (by omega), decide_eq_true (by omega)⟩)
    try simp -implicitDefEqProofs only [go_sem, g2, g0]
    repeat (first | refine ⟨rfl, ?_⟩ | refine ⟨by decide, ?_⟩ | refine ⟨⟨by decide, by decide⟩, ?_⟩ | refine ⟨decide_eq_true (by omega), ?_⟩ | refine ⟨⟨decide_eq_true (by omega), decide_eq_true (by omega)⟩, ?_⟩)
    try (first | done | decide | exact decide_eq_true (by omega) | exact ⟨decide_eq_true (by omega), decide_eq_true (by omega)⟩)
    refine .of (c_i_TabOk T hT) ?_
    try simp -implicitDefEqProofs only [go_sem]
    repeat (first | refine ⟨rfl, ?_⟩ | refine ⟨by decide, ?_⟩ | refine ⟨⟨by decide, by decide⟩, ?_⟩ | refine ⟨decide_eq_true (by omega), ?_⟩ | refine ⟨⟨decide_eq_true (by omega), decide_eq_true (by omega)⟩, ?_⟩)
    try (first | done | decide | exact decide_eq_true (by omega) | exact ⟨decide_eq_true (by omega), decide_eq_true (by omega)⟩)
    cases g4 : T.ok
    · have e : (StoreV.mk ⟨secs, cache, fuse, false⟩ T gen place).ok = false := by simp only [StoreV.ok, g4, Bool.and_false, Bool.false_and]
      try simp -implicitDefEqProofs only [go_sem, e]
      repeat (first | refine ⟨rfl, ?_⟩ | refine ⟨by decide, ?_⟩ | refine ⟨⟨by decide, by decide⟩, ?_⟩ | refine ⟨decide_eq_true (by omega), ?_⟩ | refine ⟨⟨decide_eq_true (by omega), decide_eq_true (by omega)⟩, ?_⟩)
      try (first | done | decide | exact decide_eq_true (by omega) | exact ⟨decide_eq_true (by omega), decide_eq_true (by omega)⟩)
    try simp -implicitDefEqProofs only [go_sem]
    repeat (first | refine ⟨rfl, ?_⟩ | refine ⟨by decide, ?_⟩ | refine ⟨⟨by decide, by decide⟩, ?_⟩ | refine ⟨decide_eq_true (by omega), ?_⟩ | refine ⟨⟨decide_eq_true (by omega), decide_eq_true (by omega)⟩, ?_⟩)
    try (first | done | decide | exact decide_eq_true (by omega) | exact ⟨decide_eq_true (by omega), decide_eq_true (by omega)⟩)
    refine .of (c_i_within _ _ _) ?_
    try simp -implicitDefEqProofs only [go_sem]
    repeat (first | refine ⟨rfl, ?_⟩ | refine ⟨by decide, ?_⟩ | refine ⟨⟨by decide, by decide⟩, ?_⟩ | refine ⟨decide_eq_true (by omega), ?_⟩ | refine ⟨⟨decide_eq_true (by omega), decide_eq_true (by omega)⟩, ?_⟩)
    try (first | done | decide | exact decide_eq_true (by omega) | exact ⟨decide_eq_true (by omega), decide_eq_true (by omega)⟩)
    cases g5 : win gen 1 60000
    · have e : (StoreV.mk ⟨secs, cache, fuse, false⟩ T gen place).ok = false := by simp only [StoreV.ok, g5, Bool.and_false, Bool.false_and]
      try simp -implicitDefEqProofs only [go_sem, e]
      repeat (first | refine ⟨rfl, ?_⟩ | refine ⟨by decide, ?_⟩ | refine ⟨⟨by decide, by decide⟩, ?_⟩ | refine ⟨decide_eq_true (by omega), ?_⟩ | refine ⟨⟨decide_eq_true (by omega), decide_eq_true (by omega)⟩, ?_⟩)
      try (first | done | decide | exact decide_eq_true (by omega) | exact ⟨decide_eq_true (by omega), decide_eq_true (by omega)⟩)
    try simp -implicitDefEqProofs only [go_sem]
    repeat (first | refine ⟨rfl, ?_⟩ | refine ⟨by decide, ?_⟩ | refine ⟨⟨by decide, by decide⟩, ?_⟩ | refine ⟨decide_eq_true (by omega), ?_⟩ | refine ⟨⟨decide_eq_true (by omega), decide_eq_true (by omega)⟩, ?_⟩)
    try (first | done | decide | exact decide_eq_true (by omega) | exact ⟨decide_eq_true (by omega), decide_eq_true (by omega)⟩)
    have e : (StoreV.mk ⟨secs, cache, fuse, false⟩ T gen place).ok = win place 0 30 := by simp only [StoreV.ok, g1, g2, g0, g4, g5, Bool.and_true, Bool.true_and, Bool.or_true, Bool.true_or]
    refine .of (c_i_within _ _ _) ?_
    try simp -implicitDefEqProofs only [go_sem, e]
    repeat (first | refine ⟨rfl, ?_⟩ | refine ⟨by decide, ?_⟩ | refine ⟨⟨by decide, by decide⟩, ?_⟩ | refine ⟨decide_eq_true (by omega), ?_⟩ | refine ⟨⟨decide_eq_true (by omega), decide_eq_true (by omega)⟩, ?_⟩)
    try (first | done | decide | exact decide_eq_true (by omega) | exact ⟨decide_eq_true (by omega), decide_eq_true (by omega)⟩)
  · skip
    simp -implicitDefEqProofs only [x_i_StoreOk, go_sem]
    repeat (first | refine ⟨rfl, ?_⟩ | refine ⟨by decide, ?_⟩ | refine ⟨⟨by decide, by decide⟩, ?_⟩ | refine ⟨decide_eq_true (by omega), ?_⟩ | refine ⟨⟨decide_eq_true (by omega), decide_eq_true (by omega)⟩, ?_⟩)
    try (first | done | decide | exact decide_eq_true (by omega) | exact ⟨decide_eq_true (by omega), decide_eq_true (by omega)⟩)
    refine .of (c_i_DevOk ⟨secs, cache, fuse, true⟩ hD) ?_
    try simp -implicitDefEqProofs only [go_sem]
    repeat (first | refine ⟨rfl, ?_⟩ | refine ⟨by decide, ?_⟩ | refine ⟨⟨by decide, by decide⟩, ?_⟩ | refine ⟨decide_eq_true (by omega), ?_⟩ | refine ⟨⟨decide_eq_true (by omega), decide_eq_true (by omega)⟩, ?_⟩)
    try (first | done | decide | exact decide_eq_true (by omega) | exact ⟨decide_eq_true (by omega), decide_eq_true (by omega)⟩)
    cases g1 : DevV.ok ⟨secs, cache, fuse, true⟩
    · have e : (StoreV.mk ⟨secs, cache, fuse, true⟩ T gen place).ok = false := by simp only [StoreV.ok, g1, Bool.false_and]
      try simp -implicitDefEqProofs only [go_sem, e]
      repeat (first | refine ⟨rfl, ?_⟩ | refine ⟨by decide, ?_⟩ | refine ⟨⟨by decide, by decide⟩, ?_⟩ | refine ⟨decide_eq_true (by omega), ?_⟩ | refine ⟨⟨decide_eq_true (by omega), decide_eq_true (by omega)⟩, ?_⟩)
      try (first | done | decide | exact decide_eq_true (by omega) | exact ⟨decide_eq_true (by omega), decide_eq_true (by omega)⟩)
    cases g2 : ((secs.length : Int) == 62)
    · have e : (StoreV.mk ⟨secs, cache, fuse, true⟩ T gen place).ok = false := by simp only [StoreV.ok, g2, Bool.and_false, Bool.false_and]
      try simp -implicitDefEqProofs only [go_sem, g2, e]
      repeat (first | refine ⟨rfl, ?_⟩ | refine ⟨by decide, ?_⟩ | refine ⟨⟨by decide, by decide⟩, ?_⟩ | refine ⟨decide_eq_true (by omega), ?_⟩ | refine ⟨⟨decide_eq_true (by omega), decide_eq_true (by omega)⟩, ?_⟩)
      try (first | done | decide | exact decide_eq_true (by omega) | exact ⟨decide_eq_true (by omega), decide_eq_true (by omega)⟩)
    cases g0 : ((cache.length : Int) == 0)
    · try simp -implicitDefEqProofs only [go_sem, g2, g0]
      repeat (first | refine ⟨rfl, ?_⟩ | refine ⟨by decide, ?_⟩ | refine ⟨⟨by decide, by decide⟩, ?_⟩ | refine ⟨decide_eq_true (by omega), ?_⟩ | refine ⟨⟨decide_eq_true (by omega), decide_eq_true (by omega)⟩, ?_⟩)
      try (first | done | decide | exact decide_eq_true (by omega) | exact ⟨decide_eq_true (by omega), decide_eq_true (by omega)⟩)
      refine .of (c_i_TabOk T hT) ?_
      try simp -implicitDefEqProofs only [go_sem]
      repeat (first | refine ⟨rfl, ?_⟩ | refine ⟨by decide, ?_⟩ | refine ⟨⟨by decide, by decide⟩, ?_⟩ | refine ⟨decide_eq_true (by omega), ?_⟩ | refine ⟨⟨decide_eq_true (by omega), decide_eq_true (by omega)⟩, ?_⟩)
      try (first | done | decide | exact decide_eq_true (by omega) | exact ⟨decide_eq_true (by omega), decide_eq_true (by omega)⟩)
      cases g4 : T.ok
      · have e : (StoreV.mk ⟨secs, cache, fuse, true⟩ T gen place).ok = false := by simp only [StoreV.ok, g4, Bool.and_false, Bool.false_and]
        try simp -implicitDefEqProofs only [go_sem, e]
        repeat (first | refine ⟨rfl, ?_⟩ | refine ⟨by decide, ?_⟩ | refine ⟨⟨by decide, by decide⟩, ?_⟩ | refine ⟨decide_eq_true (by omega), ?_⟩ | refine ⟨⟨decide_eq_true (by omega), decide_eq_true (by omega)⟩, ?_⟩)
        try (first | done | decide | exact decide_eq_true (by omega) | exact ⟨decide_eq_true (by omega), decide_eq_true (by omega)⟩)
      try simp -implicitDefEqProofs only [go_sem]
      repeat (first | refine ⟨rfl, ?_⟩ | refine ⟨by decide, ?_⟩ | refine ⟨⟨by decide, by decide⟩, ?_⟩ | refine ⟨decide_eq_true (by omega), ?_⟩ | refine ⟨⟨decide_eq_true (by omega), decide_eq_true (by omega)⟩, ?_⟩)
      try (first | done | decide | exact decide_eq_true (by omega) | exact ⟨decide_eq_true (by omega), decide_eq_true (by omega)⟩)
      refine .of (c_i_within _ _ _) ?_
      try simp -implicitDefEqProofs only [go_sem]
      repeat (first | refine ⟨rfl, ?_⟩ | refine ⟨by decide, ?_⟩ | refine ⟨⟨by decide, by decide⟩, ?_⟩ | refine ⟨decide_eq_true (by omega), ?_⟩ | refine ⟨⟨decide_eq_true (by omega), decide_eq_true (by omega)⟩, ?_⟩)
      try (first | done | decide | exact decide_eq_true (by omega) | exact ⟨decide_eq_true (by omega), decide_eq_true (by omega)⟩)
      cases g5 : win gen 1 60000
      · have e : (StoreV.mk ⟨secs, cache, fuse, true⟩ T gen place).ok = false := by simp only [StoreV.ok, g5, Bool.and_false, Bool.false_and]
        try simp -implicitDefEqProofs only [go_sem, e]
        repeat (first | refine ⟨rfl, ?_⟩ | refine ⟨by decide, ?_⟩ | refine ⟨⟨by decide, by decide⟩, ?_⟩ | refine ⟨decide_eq_true (by omega), ?_⟩ | refine ⟨⟨decide_eq_true (by omega), decide_eq_true (by omega)⟩, ?_⟩)
        try (first | done | decide | exact decide_eq_true (by omega) | exact ⟨decide_eq_true (by omega), decide_eq_true (by omega)⟩)
      try simp -implicitDefEqProofs only [go_sem]
      repeat (first | refine ⟨rfl, ?_⟩ | refine ⟨by decide, ?_⟩ | refine ⟨⟨by decide, by decide⟩, ?_⟩ | refine ⟨decide_eq_true (by omega), ?_⟩ | refine ⟨⟨decide_eq_true (by omega), decide_eq_true (by omega)⟩, ?_⟩)
      try (first | done | decide | exact decide_eq_true (by omega) | exact ⟨decide_eq_true (by omega), decide_eq_true (by omega)⟩)
      have e : (StoreV.mk ⟨secs, cache, fuse, true⟩ T gen place).ok = win place 0 30 := by simp only [StoreV.ok, g1, g2, g0, g4, g5, Bool.and_true, Bool.true_and, Bool.or_true, Bool.true_or]
      refine .of (c_i_within _ _ _) ?_
      try simp -implicitDefEqProofs only [go_sem, e]
      repeat (first | refine ⟨rfl, ?_⟩ | refine ⟨by decide, ?_⟩ | refine ⟨⟨by decide, by decide⟩, ?_⟩ | refine ⟨decide_eq_true (by omega), ?_⟩ | refine ⟨⟨decide_eq_true (by omega), decide_eq_true (by omega)⟩, ?_⟩)
      try (first | done | decide | exact decide_eq_true (by omega) | exact ⟨decide_eq_true (by omega), decide_eq_true (by omega)⟩)
    · try simp -implicitDefEqProofs only [go_sem, g2, g0]
      repeat (first | refine ⟨rfl, ?_⟩ | refine ⟨by decide, ?_⟩ | refine ⟨⟨by decide, by decide⟩, ?_⟩ | refine ⟨decide_eq_true (by omega), ?_⟩ | refine ⟨⟨decide_eq_true (by omega), decide_eq_true (by omega)⟩, ?_⟩)
      try (first | done | decide | exact decide_eq_true (by omega) | exact ⟨decide_eq_true (by omega), decide_eq_true (by omega)⟩)
      refine .of (c_i_TabOk T hT) ?_
      try simp -implicitDefEqProofs only [go_sem]
      repeat (first | refine ⟨rfl, ?_⟩ | refine ⟨by decide, ?_⟩ | refine ⟨⟨by decide, by decide⟩, ?_⟩ | refine ⟨decide_eq_true (by omega), ?_⟩ | refine ⟨⟨decide_eq_true (by omega), decide_eq_true (by omega)⟩, ?_⟩)
      try (first | done | decide | exact decide_eq_true (by omega) | exact ⟨decide_eq_true (by omega), decide_eq_true (by omega)⟩)
      cases g4 : T.ok
      · have e : (StoreV.mk ⟨secs, cache, fuse, true⟩ T gen place).ok = false := by simp only [StoreV.ok, g4, Bool.and_false, Bool.false_and]
        try simp -implicitDefEqProofs only [go_sem, e]
        repeat (first | refine ⟨rfl, ?_⟩ | refine ⟨by decide, ?_⟩ | refine ⟨⟨by decide, by decide⟩, ?_⟩ | refine ⟨decide_eq_true (by omega), ?_⟩ | refine ⟨⟨decide_eq_true (by omega), decide_eq_true (by omega)⟩, ?_⟩)
        try (first | done | decide | exact decide_eq_true (by omega) | exact ⟨decide_eq_true (by omega), decide_eq_true (by omega)⟩)
      try simp -implicitDefEqProofs only [go_sem]
      repeat (first | refine ⟨rfl, ?_⟩ | refine ⟨by decide, ?_⟩ | refine ⟨⟨by decide, by decide⟩, ?_⟩ | refine ⟨decide_eq_true (by omega), ?_⟩ | refine ⟨⟨decide_eq_true (by omega), decide_eq_true (by omega)⟩, ?_⟩)
      try (first | done | decide | exact decide_eq_true (by omega) | exact ⟨decide_eq_true (by omega), decide_eq_true (by omega)⟩)
      refine .of (c_i_within _ _ _) ?_
      try simp -implicitDefEqProofs only [go_sem]
      repeat (first | refine ⟨rfl, ?_⟩ | refine ⟨by decide, ?_⟩ | refine ⟨⟨by decide, by decide⟩, ?_⟩ | refine ⟨decide_eq_true (by omega), ?_⟩ | refine ⟨⟨decide_eq_true (by omega), decide_eq_true (by omega)⟩, ?_⟩)
      try (first | done | decide | exact decide_eq_true (by omega) | exact ⟨decide_eq_true (by omega), decide_eq_true (by omega)⟩)
      cases g5 : win gen 1 60000
      · have e : (StoreV.mk ⟨secs, cache, fuse, true⟩ T gen place).ok = false := by simp only [StoreV.ok, g5, Bool.and_false, Bool.false_and]
        try simp -implicitDefEqProofs only [go_sem, e]
        repeat (first | refine ⟨rfl, ?_⟩ | refine ⟨by decide, ?_⟩ | refine ⟨⟨by decide, by decide⟩, ?_⟩ | refine ⟨decide_eq_true (by omega), ?_⟩ | refine ⟨⟨decide_eq_true (by omega), decide_eq_true (by omega)⟩, ?_⟩)
        try (first | done | decide | exact decide_eq_true (by omega) | exact ⟨decide_eq_true (by omega), decide_eq_true (by omega)⟩)
      try simp -implicitDefEqProofs only [go_sem]
      repeat (first | refine ⟨rfl, ?_⟩ | refine ⟨by decide, ?_⟩ | refine ⟨⟨by decide, by decide⟩, ?_⟩ | refine ⟨decide_eq_true (by omega), ?_⟩ | refine ⟨⟨decide_eq_true (by omega), decide_eq_true (by omega)⟩, ?_⟩)
      try (first | done | decide | exact decide_eq_true (by omega) | exact ⟨decide_eq_true (by omega), decide_eq_true (by omega)⟩)
      have e : (StoreV.mk ⟨secs, cache, fuse, true⟩ T gen place).ok = win place 0 30 := by simp only [StoreV.ok, g1, g2, g0, g4, g5, Bool.and_true, Bool.true_and, Bool.or_true, Bool.true_or]
      refine .of (c_i_within _ _ _) ?_
      try simp -implicitDefEqProofs only [go_sem, e]
      repeat (first | refine ⟨rfl, ?_⟩ | refine ⟨by decide, ?_⟩ | refine ⟨⟨by decide, by decide⟩, ?_⟩ | refine ⟨decide_eq_true (by omega), ?_⟩ | refine ⟨⟨decide_eq_true (by omega), decide_eq_true (by omega)⟩, ?_⟩)
      try (first | done | decide | exact decide_eq_true (by omega) | exact ⟨decide_eq_true (by omega), decide_eq_true (by omega)⟩)
def x_s_StoreOk : FnX := ⟨40, [.tmp 2],
  .q [.v 1 0, .F 2]
 (.q [.f 3 1 0, .L 4 4 3, .c 5 92 [4], .m 6 5, ⟨(some (6, true)), some 7, 7, .faddr (.t 1) 0⟩, ⟨(some (6, true)), some 8, 8, .faddr (.t 7) 0⟩, ⟨(some (6, true)), some 9, 9, .load none (.t 8)⟩, ⟨(some (6, true)), some 10, 10, .len (.t 9)⟩, ⟨(some (6, true)), some 11, 11, .bin .eql (.t 10) (.i 62)⟩, .a 12 6 11, .m 13 12, ⟨(some (13, true)), some 14, 14, .faddr (.t 1) 0⟩, ⟨(some (13, true)), some 15, 15, .faddr (.t 14) 3⟩, ⟨(some (13, true)), some 16, 16, .load none (.t 15)⟩, ⟨(some (13, true)), some 17, 17, .mv (.t 16)⟩, ⟨(some (17, false)), some 18, 18, .faddr (.t 1) 0⟩, ⟨(some (17, false)), some 19, 19, .faddr (.t 18) 1⟩, ⟨(some (17, false)), some 20, 20, .load none (.t 19)⟩, ⟨(some (17, false)), some 21, 21, .len (.t 20)⟩, ⟨(some (17, false)), some 22, 22, .bin .eql (.t 21) (.i 0)⟩, ⟨(some (13, true)), some 23, 23, .pick (.t 17) .T (.t 22)⟩, .a 24 13 23, .m 25 24, ⟨(some (25, true)), some 26, 26, .faddr (.t 1) 4⟩, ⟨(some (25, true)), some 27, 27, .load (some 3) (.t 26)⟩, ⟨(some (25, true)), some 28, 28, .call 93 [0] [(.t 27)]⟩, .a 29 25 28, .m 30 29, ⟨(some (30, true)), some 31, 31, .faddr (.t 1) 7⟩, ⟨(some (30, true)), some 32, 32, .load none (.t 31)⟩, ⟨(some (30, true)), some 33, 33, .call 23 [0, 0, 0] [(.t 32), (.i 1), (.i 60000)]⟩, .a 34 30 33, .m 35 34, ⟨(some (35, true)), some 36, 36, .faddr (.t 1) 8⟩, ⟨(some (35, true)), some 37, 37, .load none (.t 36)⟩, ⟨(some (35, true)), some 38, 38, .call 23 [0, 0, 0] [(.t 37), (.i 0), (.i 30)]⟩, .a 39 35 38, .m 2 39]
 .ret)⟩
abbrev C_s_StoreOk (Te : TE) : Prop := ∀ (s : StoreV) (h : s.In (2 ^ 48)), Te 55 [.agg (s.enc false)] ⟨[.one (bT s.ok)], [s.enc false]⟩
theorem r_s_StoreOk {Te : TE} (c_s_DevOk : C_s_DevOk Te) (c_s_TabOk : C_s_TabOk Te) (c_s_l1In : C_s_l1In Te) : C_s_StoreOk (RF Te x_s_StoreOk) := by
  intro s h
  refine run0 ?_
  obtain ⟨hD, hT⟩ := h
  obtain ⟨⟨secs, cache, fuse, down⟩, T, gen, place⟩ := s
  cases down
  · skip
    simp -implicitDefEqProofs only [x_s_StoreOk, go_sem]
    repeat (first | refine ⟨rfl, ?_⟩ | refine ⟨by decide, ?_⟩ | refine ⟨⟨by decide, by decide⟩, ?_⟩ | refine ⟨decide_eq_true (by omega), ?_⟩ | refine ⟨⟨decide_eq_true (by omega), decide_eq_true (by omega)⟩, ?_⟩)
    try (first | done | decide | exact decide_eq_true (by omega) | exact ⟨decide_eq_true (by omega), decide_eq_true (by omega)⟩)
    refine .of (c_s_DevOk ⟨secs, cache, fuse, false⟩ hD) ?_
    try simp -implicitDefEqProofs only [go_sem]
    repeat (first | refine ⟨rfl, ?_⟩ | refine ⟨by decide, ?_⟩ | refine ⟨⟨by decide, by decide⟩, ?_⟩ | refine ⟨decide_eq_true (by omega), ?_⟩ | refine ⟨⟨decide_eq_true (by omega), decide_eq_true (by omega)⟩, ?_⟩)
    try (first | done | decide | exact decide_eq_true (by omega) | exact ⟨decide_eq_true (by omega), decide_eq_true (by omega)⟩)
    cases g1 : DevV.ok ⟨secs, cache, fuse, false⟩
    · have e : (StoreV.mk ⟨secs, cache, fuse, false⟩ T gen place).ok = false := by simp only [StoreV.ok, g1, Bool.false_and]
      try simp -implicitDefEqProofs only [go_sem, e]
      repeat (first | refine ⟨rfl, ?_⟩ | refine ⟨by decide, ?_⟩ | refine ⟨⟨by decide, by decide⟩, ?_⟩ | refine ⟨decide_eq_true (by omega), ?_⟩ | refine ⟨⟨decide_eq_true (by omega), decide_eq_true (by omega)⟩, ?_⟩)
      try (first | done | decide | exact decide_eq_true (by omega) | exact ⟨decide_eq_true (by omega), decide_eq_true (by omega)⟩)
    cases g2 : ((secs.length : Int) == 62)
    · have e : (StoreV.mk ⟨secs, cache, fuse, false⟩ T gen place).ok = false := by simp only [StoreV.ok, g2, Bool.and_false, Bool.false_and]
      try simp -implicitDefEqProofs only [go_sem, g2, e]
      repeat (first | refine ⟨rfl, ?_⟩ | refine ⟨by decide, ?_⟩ | refine ⟨⟨by decide, by decide⟩, ?_⟩ | refine ⟨decide_eq_true (by omega), ?_⟩ | refine ⟨⟨decide_eq_true (by omega), decide_eq_true (by omega)⟩, ?_⟩)
      try (first | done | decide | exact decide_eq_true (by omega) | exact ⟨decide_eq_true (by omega), decide_eq_true (by omega)⟩)
    cases g0 : ((cache.length : Int) == 0)
    · have e : (StoreV.mk ⟨secs, cache, fuse, false⟩ T gen place).ok = false := by simp only [StoreV.ok, g0, Bool.or_self, Bool.and_false, Bool.false_and]
      try simp -implicitDefEqProofs only [go_sem, g2, g0, e]
      repeat (first | refine ⟨rfl, ?_⟩ | refine ⟨by decide, ?_⟩ | refine ⟨⟨by decide, by decide⟩, ?_⟩ | refine ⟨decide_eq_true (by omega), ?_⟩ | refine ⟨⟨decide_eq_true (by omega), decide_eq_true (by omega)⟩, ?_⟩)
      try (first | done | decide | exact decide_eq_true (by omega) | exact ⟨decide_eq_true (by omega), decide_eq_true (by omega)⟩)
    try simp -implicitDefEqProofs only [go_sem, g2, g0]
    repeat (first | refine ⟨rfl, ?_⟩ | refine ⟨by decide, ?_⟩ | refine ⟨⟨by decide, by decide⟩, ?_⟩ | refine ⟨decide_eq_true (by omega), ?_⟩ | refine ⟨⟨decide_eq_true (by omega), decide_eq_true (by omega)⟩, ?_⟩)
    try (first | done | decide | exact decide_eq_true (by omega) | exact ⟨decide_eq_true (by omega), decide_eq_true (by omega)⟩)
    refine .of (c_s_TabOk T hT) ?_
    try simp -implicitDefEqProofs only [go_sem]
    repeat (first | refine ⟨rfl, ?_⟩ | refine ⟨by decide, ?_⟩ | refine ⟨⟨by decide, by decide⟩, ?_⟩ | refine ⟨decide_eq_true (by omega), ?_⟩ | refine ⟨⟨decide_eq_true (by omega), decide_eq_true (by omega)⟩, ?_⟩)
    try (first | done | decide | exact decide_eq_true (by omega) | exact ⟨decide_eq_true (by omega), decide_eq_true (by omega)⟩)
    cases g4 : T.ok
    · have e : (StoreV.mk ⟨secs, cache, fuse, false⟩ T gen place).ok = false := by simp only [StoreV.ok, g4, Bool.and_false, Bool.false_and]
      try simp -implicitDefEqProofs only [go_sem, e]
      repeat (first | refine ⟨rfl, ?_⟩ | refine ⟨by decide, ?_⟩ | refine ⟨⟨by decide, by decide⟩, ?_⟩ | refine ⟨decide_eq_true (by omega), ?_⟩ | refine ⟨⟨decide_eq_true (by omega), decide_eq_true (by omega)⟩, ?_⟩)
      try (first | done | decide | exact decide_eq_true (by omega) | exact ⟨decide_eq_true (by omega), decide_eq_true (by omega)⟩)
    try simp -implicitDefEqProofs only [go_sem]
    repeat (first | refine ⟨rfl, ?_⟩ | refine ⟨by decide, ?_⟩ | refine ⟨⟨by decide, by decide⟩, ?_⟩ | refine ⟨decide_eq_true (by omega), ?_⟩ | refine ⟨⟨decide_eq_true (by omega), decide_eq_true (by omega)⟩, ?_⟩)
    try (first | done | decide | exact decide_eq_true (by omega) | exact ⟨decide_eq_true (by omega), decide_eq_true (by omega)⟩)
    refine .of (c_s_l1In _ _ _) ?_
    try simp -implicitDefEqProofs only [go_sem]
    repeat (first | refine ⟨rfl, ?_⟩ | refine ⟨by decide, ?_⟩ | refine ⟨⟨by decide, by decide⟩, ?_⟩ | refine ⟨decide_eq_true (by omega), ?_⟩ | refine ⟨⟨decide_eq_true (by omega), decide_eq_true (by omega)⟩, ?_⟩)
    try (first | done | decide | exact decide_eq_true (by omega) | exact ⟨decide_eq_true (by omega), decide_eq_true (by omega)⟩)
    cases g5 : win gen 1 60000
    · have e : (StoreV.mk ⟨secs, cache, fuse, false⟩ T gen place).ok = false := by simp only [StoreV.ok, g5, Bool.and_false, Bool.false_and]
      try simp -implicitDefEqProofs only [go_sem, e]
      repeat (first | refine ⟨rfl, ?_⟩ | refine ⟨by decide, ?_⟩ | refine ⟨⟨by decide, by decide⟩, ?_⟩ | refine ⟨decide_eq_true (by omega), ?_⟩ | refine ⟨⟨decide_eq_true (by omega), decide_eq_true (by omega)⟩, ?_⟩)
      try (first | done | decide | exact decide_eq_true (by omega) | exact ⟨decide_eq_true (by omega), decide_eq_true (by omega)⟩)
    try simp -implicitDefEqProofs only [go_sem]
    repeat (first | refine ⟨rfl, ?_⟩ | refine ⟨by decide, ?_⟩ | refine ⟨⟨by decide, by decide⟩, ?_⟩ | refine ⟨decide_eq_true (by omega), ?_⟩ | refine ⟨⟨decide_eq_true (by omega), decide_eq_true (by omega)⟩, ?_⟩)
    try (first | done | decide | exact decide_eq_true (by omega) | exact ⟨decide_eq_true (by omega), decide_eq_true (by omega)⟩)
    have e : (StoreV.mk ⟨secs, cache, fuse, false⟩ T gen place).ok = win place 0 30 := by simp only [StoreV.ok, g1, g2, g0, g4, g5, Bool.and_true, Bool.true_and, Bool.or_true, Bool.true_or]
    refine .of (c_s_l1In _ _ _) ?_
    try simp -implicitDefEqProofs only [go_sem, e]
    repeat (first | refine ⟨rfl, ?_⟩ | refine ⟨by decide, ?_⟩ | refine ⟨⟨by decide, by decide⟩, ?_⟩ | refine ⟨decide_eq_true (by omega), ?_⟩ | refine ⟨⟨decide_eq_true (by omega), decide_eq_true (by omega)⟩, ?_⟩)
    try (first | done | decide | exact decide_eq_true (by omega) | exact ⟨decide_eq_true (by omega), decide_eq_true (by omega)⟩)
  · skip
    simp -implicitDefEqProofs only [x_s_StoreOk, go_sem]
    repeat (first | refine ⟨rfl, ?_⟩ | refine ⟨by decide, ?_⟩ | refine ⟨⟨by decide, by decide⟩, ?_⟩ | refine ⟨decide_eq_true (by omega), ?_⟩ | refine ⟨⟨decide_eq_true (by omega), decide_eq_true (by omega)⟩, ?_⟩)
    try (first | done | decide | exact decide_eq_true (by omega) | exact ⟨decide_eq_true (by omega), decide_eq_true (by omega)⟩)
    refine .of (c_s_DevOk ⟨secs, cache, fuse, true⟩ hD) ?_
    try simp -implicitDefEqProofs only [go_sem]
    repeat (first | refine ⟨rfl, ?_⟩ | refine ⟨by decide, ?_⟩ | refine ⟨⟨by decide, by decide⟩, ?_⟩ | refine ⟨decide_eq_true (by omega), ?_⟩ | refine ⟨⟨decide_eq_true (by omega), decide_eq_true (by omega)⟩, ?_⟩)
    try (first | done | decide | exact decide_eq_true (by omega) | exact ⟨decide_eq_true (by omega), decide_eq_true (by omega)⟩)
    cases g1 : DevV.ok ⟨secs, cache, fuse, true⟩
    · have e : (StoreV.mk ⟨secs, cache, fuse, true⟩ T gen place).ok = false := by simp only [StoreV.ok, g1, Bool.false_and]
      try simp -implicitDefEqProofs only [go_sem, e]
      repeat (first | refine ⟨rfl, ?_⟩ | refine ⟨by decide, ?_⟩ | refine ⟨⟨by decide, by decide⟩, ?_⟩ | refine ⟨decide_eq_true (by omega), ?_⟩ | refine ⟨⟨decide_eq_true (by omega), decide_eq_true (by omega)⟩, ?_⟩)
      try (first | done | decide | exact decide_eq_true (by omega) | exact ⟨decide_eq_true (by omega), decide_eq_true (by omega)⟩)
    cases g2 : ((secs.length : Int) == 62)
    · have e : (StoreV.mk ⟨secs, cache, fuse, true⟩ T gen place).ok = false := by simp only [StoreV.ok, g2, Bool.and_false, Bool.false_and]
      try simp -implicitDefEqProofs only [go_sem, g2, e]
      repeat (first | refine ⟨rfl, ?_⟩ | refine ⟨by decide, ?_⟩ | refine ⟨⟨by decide, by decide⟩, ?_⟩ | refine ⟨decide_eq_true (by omega), ?_⟩ | refine ⟨⟨decide_eq_true (by omega), decide_eq_true (by omega)⟩, ?_⟩)
      try (first | done | decide | exact decide_eq_true (by omega) | exact ⟨decide_eq_true (by omega), decide_eq_true (by omega)⟩)
    try simp -implicitDefEqProofs only [go_sem, g2]
    repeat (first | refine ⟨rfl, ?_⟩ | refine ⟨by decide, ?_⟩ | refine ⟨⟨by decide, by decide⟩, ?_⟩ | refine ⟨decide_eq_true (by omega), ?_⟩ | refine ⟨⟨decide_eq_true (by omega), decide_eq_true (by omega)⟩, ?_⟩)
    try (first | done | decide | exact decide_eq_true (by omega) | exact ⟨decide_eq_true (by omega), decide_eq_true (by omega)⟩)
    refine .of (c_s_TabOk T hT) ?_
    try simp -implicitDefEqProofs only [go_sem]
    repeat (first | refine ⟨rfl, ?_⟩ | refine ⟨by decide, ?_⟩ | refine ⟨⟨by decide, by decide⟩, ?_⟩ | refine ⟨decide_eq_true (by omega), ?_⟩ | refine ⟨⟨decide_eq_true (by omega), decide_eq_true (by omega)⟩, ?_⟩)
    try (first | done | decide | exact decide_eq_true (by omega) | exact ⟨decide_eq_true (by omega), decide_eq_true (by omega)⟩)
    cases g4 : T.ok
    · have e : (StoreV.mk ⟨secs, cache, fuse, true⟩ T gen place).ok = false := by simp only [StoreV.ok, g4, Bool.and_false, Bool.false_and]
      try simp -implicitDefEqProofs only [go_sem, e]
      repeat (first | refine ⟨rfl, ?_⟩ | refine ⟨by decide, ?_⟩ | refine ⟨⟨by decide, by decide⟩, ?_⟩ | refine ⟨decide_eq_true (by omega), ?_⟩ | refine ⟨⟨decide_eq_true (by omega), decide_eq_true (by omega)⟩, ?_⟩)
      try (first | done | decide | exact decide_eq_true (by omega) | exact ⟨decide_eq_true (by omega), decide_eq_true (by omega)⟩)
    try simp -implicitDefEqProofs only [go_sem]
    repeat (first | refine ⟨rfl, ?_⟩ | refine ⟨by decide, ?_⟩ | refine ⟨⟨by decide, by decide⟩, ?_⟩ | refine ⟨decide_eq_true (by omega), ?_⟩ | refine ⟨⟨decide_eq_true (by omega), decide_eq_true (by omega)⟩, ?_⟩)
    try (first | done | decide | exact decide_eq_true (by omega) | exact ⟨decide_eq_true (by omega), decide_eq_true (by omega)⟩)
    refine .of (c_s_l1In _ _ _) ?_
    try simp -implicitDefEqProofs only [go_sem]
    repeat (first | refine ⟨rfl, ?_⟩ | refine ⟨by decide, ?_⟩ | refine ⟨⟨by decide, by decide⟩, ?_⟩ | refine ⟨decide_eq_true (by omega), ?_⟩ | refine ⟨⟨decide_eq_true (by omega), decide_eq_true (by omega)⟩, ?_⟩)
    try (first | done | decide | exact decide_eq_true (by omega) | exact ⟨decide_eq_true (by omega), decide_eq_true (by omega)⟩)
    cases g5 : win gen 1 60000
    · have e : (StoreV.mk ⟨secs, cache, fuse, true⟩ T gen place).ok = false := by simp only [StoreV.ok, g5, Bool.and_false, Bool.false_and]
      try simp -implicitDefEqProofs only [go_sem, e]
      repeat (first | refine ⟨rfl, ?_⟩ | refine ⟨by decide, ?_⟩ | refine ⟨⟨by decide, by decide⟩, ?_⟩ | refine ⟨decide_eq_true (by omega), ?_⟩ | refine ⟨⟨decide_eq_true (by omega), decide_eq_true (by omega)⟩, ?_⟩)
      try (first | done | decide | exact decide_eq_true (by omega) | exact ⟨decide_eq_true (by omega), decide_eq_true (by omega)⟩)
    try simp -implicitDefEqProofs only [go_sem]
    repeat (first | refine ⟨rfl, ?_⟩ | refine ⟨by decide, ?_⟩ | refine ⟨⟨by decide, by decide⟩, ?_⟩ | refine ⟨decide_eq_true (by omega), ?_⟩ | refine ⟨⟨decide_eq_true (by omega), decide_eq_true (by omega)⟩, ?_⟩)
    try (first | done | decide | exact decide_eq_true (by omega) | exact ⟨decide_eq_true (by omega), decide_eq_true (by omega)⟩)
    have e : (StoreV.mk ⟨secs, cache, fuse, true⟩ T gen place).ok = win place 0 30 := by simp only [StoreV.ok, g1, g2, g4, g5, Bool.and_true, Bool.true_and, Bool.or_true, Bool.true_or]
    refine .of (c_s_l1In _ _ _) ?_
    try simp -implicitDefEqProofs only [go_sem, e]
    repeat (first | refine ⟨rfl, ?_⟩ | refine ⟨by decide, ?_⟩ | refine ⟨⟨by decide, by decide⟩, ?_⟩ | refine ⟨decide_eq_true (by omega), ?_⟩ | refine ⟨⟨decide_eq_true (by omega), decide_eq_true (by omega)⟩, ?_⟩)
    try (first | done | decide | exact decide_eq_true (by omega) | exact ⟨decide_eq_true (by omega), decide_eq_true (by omega)⟩)
def NodeV.ok (n : NodeV) : Bool := n.S.ok && win n.Cs 1 5
def x_i_NodeOk : FnX := ⟨11, [.tmp 2],
  .q [.v 1 0, .F 2]
 (.q [.f 3 1 0, .L 4 9 3, .c 5 62 [4], .m 6 5, ⟨(some (6, true)), some 7, 7, .faddr (.t 1) 9⟩, ⟨(some (6, true)), some 8, 8, .load none (.t 7)⟩, ⟨(some (6, true)), some 9, 9, .call 25 [0, 0, 0] [(.t 8), (.i 1), (.i 5)]⟩, .a 10 6 9, .m 2 10]
 .ret)⟩
abbrev C_i_NodeOk (Te : TE) : Prop := ∀ (n : NodeV) (h : n.In (2 ^ 48)), Te 36 [.agg (n.enc false)] ⟨[.one (bT n.ok)], [n.enc false]⟩
theorem r_i_NodeOk {Te : TE} (c_i_StoreOk : C_i_StoreOk Te) (c_i_within : C_i_within Te) : C_i_NodeOk (RF Te x_i_NodeOk) := by
  intro n h
  refine run0 ?_
  simp -implicitDefEqProofs only [x_i_NodeOk, go_sem, NodeV.ok]
  repeat (first | refine ⟨rfl, ?_⟩ | refine ⟨by decide, ?_⟩ | refine ⟨⟨by decide, by decide⟩, ?_⟩ | refine ⟨decide_eq_true (by omega), ?_⟩ | refine ⟨⟨decide_eq_true (by omega), decide_eq_true (by omega)⟩, ?_⟩)
  try (first | done | decide | exact decide_eq_true (by omega) | exact ⟨decide_eq_true (by omega), decide_eq_true (by omega)⟩)
  refine .of (c_i_StoreOk n.S h) ?_
  try simp -implicitDefEqProofs only [go_sem]
  repeat (first | refine ⟨rfl, ?_⟩ | refine ⟨by decide, ?_⟩ | refine ⟨⟨by decide, by decide⟩, ?_⟩ | refine ⟨decide_eq_true (by omega), ?_⟩ | refine ⟨⟨decide_eq_true (by omega), decide_eq_true (by omega)⟩, ?_⟩)
  try (first | done | decide | exact decide_eq_true (by omega) | exact ⟨decide_eq_true (by omega), decide_eq_true (by omega)⟩)
  cases g1 : n.S.ok
  · try simp -implicitDefEqProofs only [go_sem]
    repeat (first | refine ⟨rfl, ?_⟩ | refine ⟨by decide, ?_⟩ | refine ⟨⟨by decide, by decide⟩, ?_⟩ | refine ⟨decide_eq_true (by omega), ?_⟩ | refine ⟨⟨decide_eq_true (by omega), decide_eq_true (by omega)⟩, ?_⟩)
    try (first | done | decide | exact decide_eq_true (by omega) | exact ⟨decide_eq_true (by omega), decide_eq_true (by omega)⟩)
  · try simp -implicitDefEqProofs only [go_sem]
    repeat (first | refine ⟨rfl, ?_⟩ | refine ⟨by decide, ?_⟩ | refine ⟨⟨by decide, by decide⟩, ?_⟩ | refine ⟨decide_eq_true (by omega), ?_⟩ | refine ⟨⟨decide_eq_true (by omega), decide_eq_true (by omega)⟩, ?_⟩)
    try (first | done | decide | exact decide_eq_true (by omega) | exact ⟨decide_eq_true (by omega), decide_eq_true (by omega)⟩)
    refine .of (c_i_within _ _ _) ?_
    try simp -implicitDefEqProofs only [go_sem]
    repeat (first | refine ⟨rfl, ?_⟩ | refine ⟨by decide, ?_⟩ | refine ⟨⟨by decide, by decide⟩, ?_⟩ | refine ⟨decide_eq_true (by omega), ?_⟩ | refine ⟨⟨decide_eq_true (by omega), decide_eq_true (by omega)⟩, ?_⟩)
    try (first | done | decide | exact decide_eq_true (by omega) | exact ⟨decide_eq_true (by omega), decide_eq_true (by omega)⟩)
def x_s_NodeOk : FnX := ⟨11, [.tmp 2],
  .q [.v 1 0, .F 2]
 (.q [.f 3 1 0, .L 4 9 3, .c 5 55 [4], .m 6 5, ⟨(some (6, true)), some 7, 7, .faddr (.t 1) 9⟩, ⟨(some (6, true)), some 8, 8, .load none (.t 7)⟩, ⟨(some (6, true)), some 9, 9, .call 23 [0, 0, 0] [(.t 8), (.i 1), (.i 5)]⟩, .a 10 6 9, .m 2 10]
 .ret)⟩
abbrev C_s_NodeOk (Te : TE) : Prop := ∀ (n : NodeV) (h : n.In (2 ^ 48)), Te 31 [.agg (n.enc false)] ⟨[.one (bT n.ok)], [n.enc false]⟩
theorem r_s_NodeOk {Te : TE} (c_s_StoreOk : C_s_StoreOk Te) (c_s_l1In : C_s_l1In Te) : C_s_NodeOk (RF Te x_s_NodeOk) := by
  intro n h
  refine run0 ?_
  simp -implicitDefEqProofs only [x_s_NodeOk, go_sem, NodeV.ok]
  repeat (first | refine ⟨rfl, ?_⟩ | refine ⟨by decide, ?_⟩ | refine ⟨⟨by decide, by decide⟩, ?_⟩ | refine ⟨decide_eq_true (by omega), ?_⟩ | refine ⟨⟨decide_eq_true (by omega), decide_eq_true (by omega)⟩, ?_⟩)
  try (first | done | decide | exact decide_eq_true (by omega) | exact ⟨decide_eq_true (by omega), decide_eq_true (by omega)⟩)
  refine .of (c_s_StoreOk n.S h) ?_
  try simp -implicitDefEqProofs only [go_sem]
  repeat (first | refine ⟨rfl, ?_⟩ | refine ⟨by decide, ?_⟩ | refine ⟨⟨by decide, by decide⟩, ?_⟩ | refine ⟨decide_eq_true (by omega), ?_⟩ | refine ⟨⟨decide_eq_true (by omega), decide_eq_true (by omega)⟩, ?_⟩)
  try (first | done | decide | exact decide_eq_true (by omega) | exact ⟨decide_eq_true (by omega), decide_eq_true (by omega)⟩)
  cases g1 : n.S.ok
  · try simp -implicitDefEqProofs only [go_sem]
    repeat (first | refine ⟨rfl, ?_⟩ | refine ⟨by decide, ?_⟩ | refine ⟨⟨by decide, by decide⟩, ?_⟩ | refine ⟨decide_eq_true (by omega), ?_⟩ | refine ⟨⟨decide_eq_true (by omega), decide_eq_true (by omega)⟩, ?_⟩)
    try (first | done | decide | exact decide_eq_true (by omega) | exact ⟨decide_eq_true (by omega), decide_eq_true (by omega)⟩)
  · try simp -implicitDefEqProofs only [go_sem]
    repeat (first | refine ⟨rfl, ?_⟩ | refine ⟨by decide, ?_⟩ | refine ⟨⟨by decide, by decide⟩, ?_⟩ | refine ⟨decide_eq_true (by omega), ?_⟩ | refine ⟨⟨decide_eq_true (by omega), decide_eq_true (by omega)⟩, ?_⟩)
    try (first | done | decide | exact decide_eq_true (by omega) | exact ⟨decide_eq_true (by omega), decide_eq_true (by omega)⟩)
    refine .of (c_s_l1In _ _ _) ?_
    try simp -implicitDefEqProofs only [go_sem]
    repeat (first | refine ⟨rfl, ?_⟩ | refine ⟨by decide, ?_⟩ | refine ⟨⟨by decide, by decide⟩, ?_⟩ | refine ⟨decide_eq_true (by omega), ?_⟩ | refine ⟨⟨decide_eq_true (by omega), decide_eq_true (by omega)⟩, ?_⟩)
    try (first | done | decide | exact decide_eq_true (by omega) | exact ⟨decide_eq_true (by omega), decide_eq_true (by omega)⟩)
end Go.X

/- Vo -/
namespace Go.X
set_option maxRecDepth 100000
set_option maxHeartbeats 8000000
def NodeV.up (n : NodeV) : Bool := n.ok && !n.S.D.Down
def x_i_isUp : FnX := ⟨12, [.tmp 2],
  .q [.v 1 0, .F 2]
 (.q [.L 3 10 1, .c 4 36 [3], .m 5 4, ⟨(some (5, true)), some 6, 6, .faddr (.t 1) 0⟩, ⟨(some (5, true)), some 7, 7, .faddr (.t 6) 0⟩, ⟨(some (5, true)), some 8, 8, .faddr (.t 7) 3⟩, ⟨(some (5, true)), some 9, 9, .load none (.t 8)⟩, ⟨(some (5, true)), some 10, 10, .not (.t 9)⟩, .a 11 5 10, .m 2 11]
 .ret)⟩
abbrev C_i_isUp (Te : TE) : Prop := ∀ (n : NodeV) (h : n.In (2 ^ 48)), Te 19 [.agg (n.enc false)] ⟨[.one (bT n.up)], [n.enc false]⟩
theorem r_i_isUp {Te : TE} (c_i_NodeOk : C_i_NodeOk Te) : C_i_isUp (RF Te x_i_isUp) := by
  intro n h
  refine run0 ?_
  simp -implicitDefEqProofs only [x_i_isUp, go_sem]
  repeat (first | refine ⟨rfl, ?_⟩ | refine ⟨by decide, ?_⟩ | refine ⟨⟨by decide, by decide⟩, ?_⟩ | refine ⟨decide_eq_true (by omega), ?_⟩ | refine ⟨⟨decide_eq_true (by omega), decide_eq_true (by omega)⟩, ?_⟩)
  try (first | done | decide | exact decide_eq_true (by omega) | exact ⟨decide_eq_true (by omega), decide_eq_true (by omega)⟩)
  refine .of (c_i_NodeOk n h) ?_
  try simp -implicitDefEqProofs only [go_sem]
  repeat (first | refine ⟨rfl, ?_⟩ | refine ⟨by decide, ?_⟩ | refine ⟨⟨by decide, by decide⟩, ?_⟩ | refine ⟨decide_eq_true (by omega), ?_⟩ | refine ⟨⟨decide_eq_true (by omega), decide_eq_true (by omega)⟩, ?_⟩)
  try (first | done | decide | exact decide_eq_true (by omega) | exact ⟨decide_eq_true (by omega), decide_eq_true (by omega)⟩)
  cases g : n.ok
  · have e : n.up = false := by rw [NodeV.up, g]; rfl
    try simp -implicitDefEqProofs only [go_sem, e]
    repeat (first | refine ⟨rfl, ?_⟩ | refine ⟨by decide, ?_⟩ | refine ⟨⟨by decide, by decide⟩, ?_⟩ | refine ⟨decide_eq_true (by omega), ?_⟩ | refine ⟨⟨decide_eq_true (by omega), decide_eq_true (by omega)⟩, ?_⟩)
    try (first | done | decide | exact decide_eq_true (by omega) | exact ⟨decide_eq_true (by omega), decide_eq_true (by omega)⟩)
  · have e : n.up = !n.S.D.Down := by rw [NodeV.up, g]; rfl
    try simp -implicitDefEqProofs only [go_sem, e]
    repeat (first | refine ⟨rfl, ?_⟩ | refine ⟨by decide, ?_⟩ | refine ⟨⟨by decide, by decide⟩, ?_⟩ | refine ⟨decide_eq_true (by omega), ?_⟩ | refine ⟨⟨decide_eq_true (by omega), decide_eq_true (by omega)⟩, ?_⟩)
    try (first | done | decide | exact decide_eq_true (by omega) | exact ⟨decide_eq_true (by omega), decide_eq_true (by omega)⟩)
def x_s_l15Up : FnX := ⟨12, [.tmp 2],
  .q [.v 1 0, .F 2]
 (.q [.L 3 10 1, .c 4 31 [3], .m 5 4, ⟨(some (5, true)), some 6, 6, .faddr (.t 1) 0⟩, ⟨(some (5, true)), some 7, 7, .faddr (.t 6) 0⟩, ⟨(some (5, true)), some 8, 8, .faddr (.t 7) 3⟩, ⟨(some (5, true)), some 9, 9, .load none (.t 8)⟩, ⟨(some (5, true)), some 10, 10, .not (.t 9)⟩, .a 11 5 10, .m 2 11]
 .ret)⟩
abbrev C_s_l15Up (Te : TE) : Prop := ∀ (n : NodeV) (h : n.In (2 ^ 48)), Te 15 [.agg (n.enc false)] ⟨[.one (bT n.up)], [n.enc false]⟩
theorem r_s_l15Up {Te : TE} (c_s_NodeOk : C_s_NodeOk Te) : C_s_l15Up (RF Te x_s_l15Up) := by
  intro n h
  refine run0 ?_
  simp -implicitDefEqProofs only [x_s_l15Up, go_sem]
  repeat (first | refine ⟨rfl, ?_⟩ | refine ⟨by decide, ?_⟩ | refine ⟨⟨by decide, by decide⟩, ?_⟩ | refine ⟨decide_eq_true (by omega), ?_⟩ | refine ⟨⟨decide_eq_true (by omega), decide_eq_true (by omega)⟩, ?_⟩)
  try (first | done | decide | exact decide_eq_true (by omega) | exact ⟨decide_eq_true (by omega), decide_eq_true (by omega)⟩)
  refine .of (c_s_NodeOk n h) ?_
  try simp -implicitDefEqProofs only [go_sem]
  repeat (first | refine ⟨rfl, ?_⟩ | refine ⟨by decide, ?_⟩ | refine ⟨⟨by decide, by decide⟩, ?_⟩ | refine ⟨decide_eq_true (by omega), ?_⟩ | refine ⟨⟨decide_eq_true (by omega), decide_eq_true (by omega)⟩, ?_⟩)
  try (first | done | decide | exact decide_eq_true (by omega) | exact ⟨decide_eq_true (by omega), decide_eq_true (by omega)⟩)
  cases g : n.ok
  · have e : n.up = false := by rw [NodeV.up, g]; rfl
    try simp -implicitDefEqProofs only [go_sem, e]
    repeat (first | refine ⟨rfl, ?_⟩ | refine ⟨by decide, ?_⟩ | refine ⟨⟨by decide, by decide⟩, ?_⟩ | refine ⟨decide_eq_true (by omega), ?_⟩ | refine ⟨⟨decide_eq_true (by omega), decide_eq_true (by omega)⟩, ?_⟩)
    try (first | done | decide | exact decide_eq_true (by omega) | exact ⟨decide_eq_true (by omega), decide_eq_true (by omega)⟩)
  · have e : n.up = !n.S.D.Down := by rw [NodeV.up, g]; rfl
    try simp -implicitDefEqProofs only [go_sem, e]
    repeat (first | refine ⟨rfl, ?_⟩ | refine ⟨by decide, ?_⟩ | refine ⟨⟨by decide, by decide⟩, ?_⟩ | refine ⟨decide_eq_true (by omega), ?_⟩ | refine ⟨⟨decide_eq_true (by omega), decide_eq_true (by omega)⟩, ?_⟩)
    try (first | done | decide | exact decide_eq_true (by omega) | exact ⟨decide_eq_true (by omega), decide_eq_true (by omega)⟩)
def RowV.rtext (r : RowV) : ByteArray × Bool := if r.Has = 1 then r.Old.text else r.New.text
theorem and2_ne (h : Int) (hh : h = 1 ∨ h = 2 ∨ h = 3) : (andK .i64 h 2 != 0) = decide (h ≠ 1) := by
  rw [andK_def]
  rcases hh with rfl | rfl | rfl <;> decide
def x_i_RowText : FnX := ⟨18, [.tmp 2, .tmp 3],
  .q [.v 1 0, .op 2 (.mv (.k (.one (.pv (.string ⟨#[]⟩))))), .F 3]
 (.seq (.q [.f 4 1 5, .l 5 4, .B 6 .and 5 2, .B 7 .neq 6 0]
 (.c 7 (.q [.f 8 1 3, .L 9 2 8, .c 10 39 [9], .e 11 10 0, .e 12 10 1, .m 2 11, .m 3 12]
 .ret)))
 (.q [.f 13 1 1, .L 14 2 13, .c 15 39 [14], .e 16 15 0, .e 17 15 1, .m 2 16, .m 3 17]
 .ret))⟩
abbrev C_i_RowText (Te : TE) : Prop := ∀ (r : RowV) (h : r.Has = 1 ∨ r.Has = 2 ∨ r.Has = 3), Te 21 [.agg (r.enc false)] ⟨[.one (sT r.rtext.1), .one (bT r.rtext.2)], [r.enc false]⟩
theorem r_i_RowText {Te : TE} (c_i_CellText : C_i_CellText Te) : C_i_RowText (RF Te x_i_RowText) := by
  intro r h
  refine run0 ?_
  have e := and2_ne _ h
  simp -implicitDefEqProofs only [x_i_RowText, go_sem, e]
  repeat (first | refine ⟨rfl, ?_⟩ | refine ⟨by decide, ?_⟩ | refine ⟨⟨by decide, by decide⟩, ?_⟩ | refine ⟨decide_eq_true (by omega), ?_⟩ | refine ⟨⟨decide_eq_true (by omega), decide_eq_true (by omega)⟩, ?_⟩)
  try (first | done | decide | exact decide_eq_true (by omega) | exact ⟨decide_eq_true (by omega), decide_eq_true (by omega)⟩)
  by_cases g : r.Has = 1
  · have e2 : r.rtext = r.Old.text := if_pos g
    have e3 : decide (r.Has ≠ 1) = false := by simp [g]
    try simp -implicitDefEqProofs only [go_sem, e2, e3]
    repeat (first | refine ⟨rfl, ?_⟩ | refine ⟨by decide, ?_⟩ | refine ⟨⟨by decide, by decide⟩, ?_⟩ | refine ⟨decide_eq_true (by omega), ?_⟩ | refine ⟨⟨decide_eq_true (by omega), decide_eq_true (by omega)⟩, ?_⟩)
    try (first | done | decide | exact decide_eq_true (by omega) | exact ⟨decide_eq_true (by omega), decide_eq_true (by omega)⟩)
    refine .of (c_i_CellText r.Old) ?_
    try simp -implicitDefEqProofs only [go_sem]
    repeat (first | refine ⟨rfl, ?_⟩ | refine ⟨by decide, ?_⟩ | refine ⟨⟨by decide, by decide⟩, ?_⟩ | refine ⟨decide_eq_true (by omega), ?_⟩ | refine ⟨⟨decide_eq_true (by omega), decide_eq_true (by omega)⟩, ?_⟩)
    try (first | done | decide | exact decide_eq_true (by omega) | exact ⟨decide_eq_true (by omega), decide_eq_true (by omega)⟩)
  · have e2 : r.rtext = r.New.text := if_neg g
    have e3 : decide (r.Has ≠ 1) = true := by simp [g]
    try simp -implicitDefEqProofs only [go_sem, e2, e3]
    repeat (first | refine ⟨rfl, ?_⟩ | refine ⟨by decide, ?_⟩ | refine ⟨⟨by decide, by decide⟩, ?_⟩ | refine ⟨decide_eq_true (by omega), ?_⟩ | refine ⟨⟨decide_eq_true (by omega), decide_eq_true (by omega)⟩, ?_⟩)
    try (first | done | decide | exact decide_eq_true (by omega) | exact ⟨decide_eq_true (by omega), decide_eq_true (by omega)⟩)
    refine .of (c_i_CellText r.New) ?_
    try simp -implicitDefEqProofs only [go_sem]
    repeat (first | refine ⟨rfl, ?_⟩ | refine ⟨by decide, ?_⟩ | refine ⟨⟨by decide, by decide⟩, ?_⟩ | refine ⟨decide_eq_true (by omega), ?_⟩ | refine ⟨⟨decide_eq_true (by omega), decide_eq_true (by omega)⟩, ?_⟩)
    try (first | done | decide | exact decide_eq_true (by omega) | exact ⟨decide_eq_true (by omega), decide_eq_true (by omega)⟩)
def x_s_RowText : FnX := ⟨16, [.tmp 2, .tmp 3],
  .q [.v 1 0, .op 2 (.mv (.k (.one (.pv (.string ⟨#[]⟩))))), .F 3]
 (.seq (.q [.L 4 7 1, .c 5 32 [4]]
 (.c 5 (.q [.f 6 1 3, .L 7 2 6, .c 8 33 [7], .e 9 8 0, .e 10 8 1, .m 2 9, .m 3 10]
 .ret)))
 (.q [.f 11 1 1, .L 12 2 11, .c 13 33 [12], .e 14 13 0, .e 15 13 1, .m 2 14, .m 3 15]
 .ret))⟩
abbrev C_s_RowText (Te : TE) : Prop := ∀ (r : RowV) (h : r.Has = 1 ∨ r.Has = 2 ∨ r.Has = 3), Te 17 [.agg (r.enc false)] ⟨[.one (sT r.rtext.1), .one (bT r.rtext.2)], [r.enc false]⟩
theorem r_s_RowText {Te : TE} (c_s_l9New : C_s_l9New Te) (c_s_CellText : C_s_CellText Te) : C_s_RowText (RF Te x_s_RowText) := by
  intro r h
  refine run0 ?_
  simp -implicitDefEqProofs only [x_s_RowText, go_sem]
  repeat (first | refine ⟨rfl, ?_⟩ | refine ⟨by decide, ?_⟩ | refine ⟨⟨by decide, by decide⟩, ?_⟩ | refine ⟨decide_eq_true (by omega), ?_⟩ | refine ⟨⟨decide_eq_true (by omega), decide_eq_true (by omega)⟩, ?_⟩)
  try (first | done | decide | exact decide_eq_true (by omega) | exact ⟨decide_eq_true (by omega), decide_eq_true (by omega)⟩)
  refine .of (c_s_l9New r h) ?_
  try simp -implicitDefEqProofs only [go_sem]
  repeat (first | refine ⟨rfl, ?_⟩ | refine ⟨by decide, ?_⟩ | refine ⟨⟨by decide, by decide⟩, ?_⟩ | refine ⟨decide_eq_true (by omega), ?_⟩ | refine ⟨⟨decide_eq_true (by omega), decide_eq_true (by omega)⟩, ?_⟩)
  try (first | done | decide | exact decide_eq_true (by omega) | exact ⟨decide_eq_true (by omega), decide_eq_true (by omega)⟩)
  by_cases g : r.Has = 1
  · have e2 : r.rtext = r.Old.text := if_pos g
    have e3 : decide (r.Has ≠ 1) = false := by simp [g]
    try simp -implicitDefEqProofs only [go_sem, e2, e3]
    repeat (first | refine ⟨rfl, ?_⟩ | refine ⟨by decide, ?_⟩ | refine ⟨⟨by decide, by decide⟩, ?_⟩ | refine ⟨decide_eq_true (by omega), ?_⟩ | refine ⟨⟨decide_eq_true (by omega), decide_eq_true (by omega)⟩, ?_⟩)
    try (first | done | decide | exact decide_eq_true (by omega) | exact ⟨decide_eq_true (by omega), decide_eq_true (by omega)⟩)
    refine .of (c_s_CellText r.Old) ?_
    try simp -implicitDefEqProofs only [go_sem]
    repeat (first | refine ⟨rfl, ?_⟩ | refine ⟨by decide, ?_⟩ | refine ⟨⟨by decide, by decide⟩, ?_⟩ | refine ⟨decide_eq_true (by omega), ?_⟩ | refine ⟨⟨decide_eq_true (by omega), decide_eq_true (by omega)⟩, ?_⟩)
    try (first | done | decide | exact decide_eq_true (by omega) | exact ⟨decide_eq_true (by omega), decide_eq_true (by omega)⟩)
  · have e2 : r.rtext = r.New.text := if_neg g
    have e3 : decide (r.Has ≠ 1) = true := by simp [g]
    try simp -implicitDefEqProofs only [go_sem, e2, e3]
    repeat (first | refine ⟨rfl, ?_⟩ | refine ⟨by decide, ?_⟩ | refine ⟨⟨by decide, by decide⟩, ?_⟩ | refine ⟨decide_eq_true (by omega), ?_⟩ | refine ⟨⟨decide_eq_true (by omega), decide_eq_true (by omega)⟩, ?_⟩)
    try (first | done | decide | exact decide_eq_true (by omega) | exact ⟨decide_eq_true (by omega), decide_eq_true (by omega)⟩)
    refine .of (c_s_CellText r.New) ?_
    try simp -implicitDefEqProofs only [go_sem]
    repeat (first | refine ⟨rfl, ?_⟩ | refine ⟨by decide, ?_⟩ | refine ⟨⟨by decide, by decide⟩, ?_⟩ | refine ⟨decide_eq_true (by omega), ?_⟩ | refine ⟨⟨decide_eq_true (by omega), decide_eq_true (by omega)⟩, ?_⟩)
    try (first | done | decide | exact decide_eq_true (by omega) | exact ⟨decide_eq_true (by omega), decide_eq_true (by omega)⟩)
def rowIx (l : List RowV) (key : ByteArray) : Nat := l.findIdx fun r => decide (r.Key = key)
def rowAt (l : List RowV) (key : ByteArray) : Int := if rowIx l key < l.length then (rowIx l key : Int) else -1
theorem rowAt_hit {l : List RowV} {key : ByteArray} {i : Nat} (h : i < l.length) (hp : ∀ j (hj : j < l.length), j < i → decide (l[j].Key = key) = false) (hk : decide (l[i].Key = key) = true) : rowAt l key = i ∧ rowIx l key = i := by
  have e : rowIx l key = i := by
    rw [rowIx, List.findIdx_eq h]
    exact ⟨hk, fun j hj => hp j (by omega) hj⟩
  rw [rowAt, e, if_pos h]
  exact ⟨rfl, rfl⟩
theorem rowAt_none {l : List RowV} {key : ByteArray} {i : Nat} (hi : l.length ≤ i) (hp : ∀ j (hj : j < l.length), j < i → decide (l[j].Key = key) = false) : rowAt l key = -1 := by
  have e : ¬ rowIx l key < l.length := by
    rw [rowIx, List.findIdx_lt_length]
    rintro ⟨x, hx, hk⟩
    obtain ⟨j, hj, rfl⟩ := List.mem_iff_getElem.1 hx
    rw [hp j hj (by omega)] at hk
    cases hk
  rw [rowAt, if_neg e]
theorem rowAt_step {l : List RowV} {key : ByteArray} {i : Nat} (h : i < l.length) (hp : ∀ j (hj : j < l.length), j < i → decide (l[j].Key = key) = false) (hk : decide (l[i].Key = key) = false) : ∀ j (hj : j < l.length), j < i + 1 → decide (l[j].Key = key) = false := by
  intro j hj hji
  by_cases e : j = i
  · subst e; exact hk
  · exact hp j hj (by omega)
theorem rowAt_cases (l : List RowV) (key : ByteArray) : (rowAt l key = -1 ∧ l[rowIx l key]? = none) ∨ ∃ h : rowIx l key < l.length, rowAt l key = rowIx l key ∧ l[rowIx l key]? = some l[rowIx l key] := by
  by_cases h : rowIx l key < l.length
  · exact .inr ⟨h, by rw [rowAt, if_pos h], List.getElem?_eq_getElem h⟩
  · exact .inl ⟨by rw [rowAt, if_neg h], List.getElem?_eq_none (by omega)⟩
def x_i_RowAt1 : FnX := ⟨8, [.tmp 3],
  .q [.v 2 0, .F 3]
 (.q [.f 4 2 0, .l 5 4, .l 6 1, .b 7 .eql 5 6, .m 3 7]
 .ret)⟩
abbrev C_i_RowAt1 (Te : TE) : Prop := ∀ (r : RowV) (key : ByteArray), Te 38 [.agg (r.enc false), .ptr [sT key]] ⟨[.one (bT (decide (r.Key = key)))], [r.enc false, [sT key]]⟩
theorem r_i_RowAt1 {Te : TE} : C_i_RowAt1 (RF Te x_i_RowAt1) := by
  intro r key
  refine run0 ?_
  simp -implicitDefEqProofs only [x_i_RowAt1, go_sem]
  repeat (first | refine ⟨rfl, ?_⟩ | refine ⟨by decide, ?_⟩ | refine ⟨⟨by decide, by decide⟩, ?_⟩ | refine ⟨decide_eq_true (by omega), ?_⟩ | refine ⟨⟨decide_eq_true (by omega), decide_eq_true (by omega)⟩, ?_⟩)
  try (first | done | decide | exact decide_eq_true (by omega) | exact ⟨decide_eq_true (by omega), decide_eq_true (by omega)⟩)
def x_z_IndexFuncimplRowAt1 : FnX := ⟨19, [.tmp 4],
  .q [.i 4 0]
 (.seq (.q [.m 6 0, .n 7 6, .i 8 0]
 (.block 0 (.loop [0, 1, 7, 8] (.q [.b 9 .lss 8 7]
 (.seq (.cond 9 .skip (.exit 0))
 (.seq (.block 1 (.q [.m 10 8, .m 5 10]
 (.q [.m 11 1, .m 12 0, .m 13 5, .x 14 7 12 13, .L 15 7 14, .op 16 (.dcall 38 [0, 3] [(.t 15)] (.t 11))]
 (.c 16 (.q [.m 17 5, .m 4 17]
 .ret)))))
 (.reg [.B 18 .add 8 1, .m 8 18])))))))
 (.norm [] (.q [.i 4 (-1)]
 .ret)))⟩
abbrev C_z_IndexFuncimplRowAt1 (Te : TE) : Prop := ∀ (l : List RowV) (key : ByteArray) (hl : l.length ≤ 2 ^ 48), Te 40894501 [.one (slT false 7 (RowV.enc false) l), .ptr [sT key]] ⟨[.one (iT (rowAt l key))], [[slT false 7 (RowV.enc false) l], [sT key]]⟩
theorem r_z_IndexFuncimplRowAt1 {Te : TE} (c_i_RowAt1 : C_i_RowAt1 Te) : C_z_IndexFuncimplRowAt1 (RFV Te 38 x_z_IndexFuncimplRowAt1) := by
  intro l key hl
  refine run0V ?_
  simp -implicitDefEqProofs only [x_z_IndexFuncimplRowAt1, go_sem]
  repeat (first | refine ⟨rfl, ?_⟩ | refine ⟨by decide, ?_⟩ | refine ⟨⟨by decide, by decide⟩, ?_⟩ | refine ⟨decide_eq_true (by omega), ?_⟩ | refine ⟨⟨decide_eq_true (by omega), decide_eq_true (by omega)⟩, ?_⟩)
  try (first | done | decide | exact decide_eq_true (by omega) | exact ⟨decide_eq_true (by omega), decide_eq_true (by omega)⟩)
  refine loop_of (σ := Nat) (fun i => ⟨[(0, .one (.ro 7 (l.map (RowV.enc false)))), (1, .fn 38 1 0), (7, .one (.pv (.int .i64 l.length))), (8, .one (.pv (.int .i64 i)))], [(1, [.pv (.string key)])], [(0, [slT false 7 (RowV.enc false) l]), (1, [sT key])]⟩) (fun i => i ≤ l.length ∧ ∀ j (hj : j < l.length), j < i → decide (l[j].Key = key) = false) (fun i => l.length - i) 0 ?_ ⟨Nat.zero_le _, fun j _ h => absurd h (Nat.not_lt_zero _)⟩ ?_
  · simp -implicitDefEqProofs only [go_sem]
    try rfl
  · rintro i ⟨hi, hp⟩
    cases q : decide ((i : Int) < (l.length : Int))
    · have e := rowAt_none (i := i) (by simp only [decide_eq_false_iff_not] at q; omega) hp
      try simp -implicitDefEqProofs only [go_sem, q, e]
      repeat (first | refine ⟨rfl, ?_⟩ | refine ⟨by decide, ?_⟩ | refine ⟨⟨by decide, by decide⟩, ?_⟩ | refine ⟨decide_eq_true (by omega), ?_⟩ | refine ⟨⟨decide_eq_true (by omega), decide_eq_true (by omega)⟩, ?_⟩)
      try (first | done | decide | exact decide_eq_true (by omega) | exact ⟨decide_eq_true (by omega), decide_eq_true (by omega)⟩)
      try rfl
    · have k1 : i < l.length := by simp only [decide_eq_true_eq] at q; omega
      try simp -implicitDefEqProofs only [go_sem, q, List.getElem?_eq_getElem k1]
      repeat (first | refine ⟨rfl, ?_⟩ | refine ⟨by decide, ?_⟩ | refine ⟨⟨by decide, by decide⟩, ?_⟩ | refine ⟨decide_eq_true (by omega), ?_⟩ | refine ⟨⟨decide_eq_true (by omega), decide_eq_true (by omega)⟩, ?_⟩)
      try (first | done | decide | exact decide_eq_true (by omega) | exact ⟨decide_eq_true (by omega), decide_eq_true (by omega)⟩)
      refine .of (c_i_RowAt1 l[i] key) ?_
      try simp -implicitDefEqProofs only [go_sem]
      repeat (first | refine ⟨rfl, ?_⟩ | refine ⟨by decide, ?_⟩ | refine ⟨⟨by decide, by decide⟩, ?_⟩ | refine ⟨decide_eq_true (by omega), ?_⟩ | refine ⟨⟨decide_eq_true (by omega), decide_eq_true (by omega)⟩, ?_⟩)
      try (first | done | decide | exact decide_eq_true (by omega) | exact ⟨decide_eq_true (by omega), decide_eq_true (by omega)⟩)
      cases g : decide (l[i].Key = key)
      · try simp -implicitDefEqProofs only [go_sem, g]
        repeat (first | refine ⟨rfl, ?_⟩ | refine ⟨by decide, ?_⟩ | refine ⟨⟨by decide, by decide⟩, ?_⟩ | refine ⟨decide_eq_true (by omega), ?_⟩ | refine ⟨⟨decide_eq_true (by omega), decide_eq_true (by omega)⟩, ?_⟩)
        try (first | done | decide | exact decide_eq_true (by omega) | exact ⟨decide_eq_true (by omega), decide_eq_true (by omega)⟩)
        refine ⟨i + 1, ?_, ⟨k1, rowAt_step k1 hp g⟩, by omega⟩
        rw [IntWalk.i64_in _ (by omega)]
        rfl
      · have e := (rowAt_hit k1 hp g).1
        try simp -implicitDefEqProofs only [go_sem, g, e]
        repeat (first | refine ⟨rfl, ?_⟩ | refine ⟨by decide, ?_⟩ | refine ⟨⟨by decide, by decide⟩, ?_⟩ | refine ⟨decide_eq_true (by omega), ?_⟩ | refine ⟨⟨decide_eq_true (by omega), decide_eq_true (by omega)⟩, ?_⟩)
        try (first | done | decide | exact decide_eq_true (by omega) | exact ⟨decide_eq_true (by omega), decide_eq_true (by omega)⟩)
        try rfl
def x_i_RowAt : FnX := ⟨9, [.tmp 4],
  .q [.v 2 0, .v 3 1, .i 4 0]
 (.q [.f 5 2 0, .l 6 5, .op 7 (.clos 38 (.t 3)), .op 8 (.vcall 37 38 [0, 3] [(.t 6)] (.t 7)), .m 4 8]
 .ret)⟩
abbrev C_i_RowAt (Te : TE) : Prop := ∀ (t : TabV) (key : ByteArray) (hl : t.Rows.length ≤ 2 ^ 48), Te 20 [.agg (t.enc false), .one (sT key)] ⟨[.one (iT (rowAt t.Rows key))], [t.enc false, [sT key]]⟩
theorem r_i_RowAt {Te : TE} (c_z_IndexFuncimplRowAt1 : C_z_IndexFuncimplRowAt1 Te) : C_i_RowAt (RF Te x_i_RowAt) := by
  intro t key hl
  refine run0 ?_
  simp -implicitDefEqProofs only [x_i_RowAt, go_sem]
  repeat (first | refine ⟨rfl, ?_⟩ | refine ⟨by decide, ?_⟩ | refine ⟨⟨by decide, by decide⟩, ?_⟩ | refine ⟨decide_eq_true (by omega), ?_⟩ | refine ⟨⟨decide_eq_true (by omega), decide_eq_true (by omega)⟩, ?_⟩)
  try (first | done | decide | exact decide_eq_true (by omega) | exact ⟨decide_eq_true (by omega), decide_eq_true (by omega)⟩)
  refine .of (c_z_IndexFuncimplRowAt1 t.Rows key hl) ?_
  try simp -implicitDefEqProofs only [go_sem]
  repeat (first | refine ⟨rfl, ?_⟩ | refine ⟨by decide, ?_⟩ | refine ⟨⟨by decide, by decide⟩, ?_⟩ | refine ⟨decide_eq_true (by omega), ?_⟩ | refine ⟨⟨decide_eq_true (by omega), decide_eq_true (by omega)⟩, ?_⟩)
  try (first | done | decide | exact decide_eq_true (by omega) | exact ⟨decide_eq_true (by omega), decide_eq_true (by omega)⟩)
def x_s_RowAt : FnX := ⟨22, [.tmp 4],
  .q [.v 2 0, .i 4 0]
 (.seq (.q [.i 5 0]
 (.block 0 (.loop [1, 2, 5] (.seq (.q [.m 6 5, .f 7 2 0, .l 8 7, .n 9 8, .b 10 .lss 6 9]
 (.cond 10 .skip (.exit 0)))
 (.seq (.block 1 (.q [.f 13 2 0, .l 14 13, .m 15 5, .x 16 7 14 15, .f 17 16 0, .l 18 17, .m 19 1, .b 20 .eql 18 19]
 (.c 20 (.q [.m 21 5, .m 4 21]
 .ret))))
 (.reg [.m 11 5, .B 12 .add 11 1, .m 5 12]))))))
 (.norm [] (.q [.i 4 (-1)]
 .ret)))⟩
abbrev C_s_RowAt (Te : TE) : Prop := ∀ (t : TabV) (key : ByteArray) (hl : t.Rows.length ≤ 2 ^ 48), Te 16 [.agg (t.enc false), .one (sT key)] ⟨[.one (iT (rowAt t.Rows key))], [t.enc false, [sT key]]⟩
theorem r_s_RowAt {Te : TE} : C_s_RowAt (RF Te x_s_RowAt) := by
  intro t key hl
  refine run0 ?_
  simp -implicitDefEqProofs only [x_s_RowAt, go_sem]
  repeat (first | refine ⟨rfl, ?_⟩ | refine ⟨by decide, ?_⟩ | refine ⟨⟨by decide, by decide⟩, ?_⟩ | refine ⟨decide_eq_true (by omega), ?_⟩ | refine ⟨⟨decide_eq_true (by omega), decide_eq_true (by omega)⟩, ?_⟩)
  try (first | done | decide | exact decide_eq_true (by omega) | exact ⟨decide_eq_true (by omega), decide_eq_true (by omega)⟩)
  refine loop_of (σ := Nat) (fun i => ⟨[(1, .one (.pv (.string key))), (2, .bp 2 0), (5, .one (.pv (.int .i64 i)))], [(2, [.ro 7 (t.Rows.map (RowV.enc false)), .pv (.int .i64 t.Phase), .ro 3 (t.Marks.map MarkV.row)])], [(0, t.enc false), (1, [sT key])]⟩) (fun i => i ≤ t.Rows.length ∧ ∀ j (hj : j < t.Rows.length), j < i → decide (t.Rows[j].Key = key) = false) (fun i => t.Rows.length - i) 0 ?_ ⟨Nat.zero_le _, fun j _ h => absurd h (Nat.not_lt_zero _)⟩ ?_
  · simp -implicitDefEqProofs only [go_sem]
    try rfl
  · rintro i ⟨hi, hp⟩
    cases q : decide ((i : Int) < (t.Rows.length : Int))
    · have e := rowAt_none (i := i) (by simp only [decide_eq_false_iff_not] at q; omega) hp
      try simp -implicitDefEqProofs only [go_sem, q, e]
      repeat (first | refine ⟨rfl, ?_⟩ | refine ⟨by decide, ?_⟩ | refine ⟨⟨by decide, by decide⟩, ?_⟩ | refine ⟨decide_eq_true (by omega), ?_⟩ | refine ⟨⟨decide_eq_true (by omega), decide_eq_true (by omega)⟩, ?_⟩)
      try (first | done | decide | exact decide_eq_true (by omega) | exact ⟨decide_eq_true (by omega), decide_eq_true (by omega)⟩)
      try rfl
    · have k1 : i < t.Rows.length := by simp only [decide_eq_true_eq] at q; omega
      cases g : decide (t.Rows[i].Key = key)
      · try simp -implicitDefEqProofs only [go_sem, q, List.getElem?_eq_getElem k1, g]
        repeat (first | refine ⟨rfl, ?_⟩ | refine ⟨by decide, ?_⟩ | refine ⟨⟨by decide, by decide⟩, ?_⟩ | refine ⟨decide_eq_true (by omega), ?_⟩ | refine ⟨⟨decide_eq_true (by omega), decide_eq_true (by omega)⟩, ?_⟩)
        try (first | done | decide | exact decide_eq_true (by omega) | exact ⟨decide_eq_true (by omega), decide_eq_true (by omega)⟩)
        refine ⟨i + 1, ?_, ⟨k1, rowAt_step k1 hp g⟩, by omega⟩
        rw [IntWalk.i64_in _ (by omega)]
        rfl
      · have e := (rowAt_hit k1 hp g).1
        try simp -implicitDefEqProofs only [go_sem, q, List.getElem?_eq_getElem k1, g, e]
        repeat (first | refine ⟨rfl, ?_⟩ | refine ⟨by decide, ?_⟩ | refine ⟨⟨by decide, by decide⟩, ?_⟩ | refine ⟨decide_eq_true (by omega), ?_⟩ | refine ⟨⟨decide_eq_true (by omega), decide_eq_true (by omega)⟩, ?_⟩)
        try (first | done | decide | exact decide_eq_true (by omega) | exact ⟨decide_eq_true (by omega), decide_eq_true (by omega)⟩)
        try rfl
def NodeV.get (n : NodeV) (key : ByteArray) : ByteArray × Int := if n.up = true then (match n.S.T.Rows[rowIx n.S.T.Rows key]? with
  | none => (⟨#[]⟩, 2)
  | some r => if r.rtext.2 = true then (r.rtext.1, 0) else (⟨#[]⟩, 4)) else (⟨#[]⟩, 1)
theorem TabV.ok_row {t : TabV} (h : t.ok = true) {i : Nat} (hi : i < t.Rows.length) : t.Rows[i].ok = true := by
  simp only [TabV.ok, Bool.and_eq_true, List.all_eq_true] at h
  have := h.1.1 i (List.mem_range.2 hi)
  simp only [rowGood, List.getElem?_eq_getElem hi, Option.map_some, Option.getD_some, Bool.and_eq_true] at this
  exact this.1
theorem NodeV.up_tab {n : NodeV} (h : n.up = true) : n.S.T.ok = true := by
  simp only [NodeV.up, NodeV.ok, StoreV.ok, Bool.and_eq_true] at h
  exact h.1.1.1.1.2
theorem rowOk_13 {r : RowV} (h : r.ok = true) : r.Has = 1 ∨ r.Has = 2 ∨ r.Has = 3 := by
  simp only [RowV.ok, Bool.and_eq_true] at h
  exact win13 h.1.2
def x_i_NodeGet : FnX := ⟨33, [.tmp 4, .tmp 5],
  .q [.v 2 0, .op 4 (.mv (.k (.one (.pv (.string ⟨#[]⟩))))), .i 5 0]
 (.seq (.q [.L 9 10 2, .c 10 19 [9], .N 11 10]
 (.c 11 (.q [.op 4 (.mv (.k (.one (.pv (.string ⟨#[]⟩))))), .i 5 1]
 .ret)))
 (.q [.f 12 2 0, .f 13 12 4, .L 14 3 13, .m 15 1, .c 16 20 [14, 15], .m 6 16]
 (.seq (.q [.m 17 6, .B 18 .lss 17 0]
 (.c 18 (.q [.op 4 (.mv (.k (.one (.pv (.string ⟨#[]⟩))))), .i 5 2]
 .ret)))
 (.q [.f 20 2 0, .f 21 20 4, .f 22 21 0, .l 23 22, .m 24 6, .x 25 7 23 24, .L 26 7 25, .c 27 21 [26], .m 19 27, .e 28 19 0, .e 29 19 1, .m 7 28, .m 8 29]
 (.seq (.q [.m 30 8, .N 31 30]
 (.c 31 (.q [.op 4 (.mv (.k (.one (.pv (.string ⟨#[]⟩))))), .i 5 4]
 .ret)))
 (.q [.m 32 7, .m 4 32, .i 5 0]
 .ret))))))⟩
abbrev C_i_NodeGet (Te : TE) : Prop := ∀ (n : NodeV) (key : ByteArray) (h : n.In (2 ^ 48)), Te 8 [.agg (n.enc false), .one (sT key)] ⟨[.one (sT (n.get key).1), .one (iT (n.get key).2)], [n.enc false, [sT key]]⟩
theorem r_i_NodeGet {Te : TE} (c_i_isUp : C_i_isUp Te) (c_i_RowAt : C_i_RowAt Te) (c_i_RowText : C_i_RowText Te) : C_i_NodeGet (RF Te x_i_NodeGet) := by
  intro n key h
  refine run0 ?_
  simp -implicitDefEqProofs only [x_i_NodeGet, go_sem]
  repeat (first | refine ⟨rfl, ?_⟩ | refine ⟨by decide, ?_⟩ | refine ⟨⟨by decide, by decide⟩, ?_⟩ | refine ⟨decide_eq_true (by omega), ?_⟩ | refine ⟨⟨decide_eq_true (by omega), decide_eq_true (by omega)⟩, ?_⟩)
  try (first | done | decide | exact decide_eq_true (by omega) | exact ⟨decide_eq_true (by omega), decide_eq_true (by omega)⟩)
  refine .of (c_i_isUp n h) ?_
  try simp -implicitDefEqProofs only [go_sem]
  repeat (first | refine ⟨rfl, ?_⟩ | refine ⟨by decide, ?_⟩ | refine ⟨⟨by decide, by decide⟩, ?_⟩ | refine ⟨decide_eq_true (by omega), ?_⟩ | refine ⟨⟨decide_eq_true (by omega), decide_eq_true (by omega)⟩, ?_⟩)
  try (first | done | decide | exact decide_eq_true (by omega) | exact ⟨decide_eq_true (by omega), decide_eq_true (by omega)⟩)
  cases g : n.up
  · have e : n.get key = (⟨#[]⟩, 1) := by rw [NodeV.get, g]; rfl
    try simp -implicitDefEqProofs only [go_sem, e]
    repeat (first | refine ⟨rfl, ?_⟩ | refine ⟨by decide, ?_⟩ | refine ⟨⟨by decide, by decide⟩, ?_⟩ | refine ⟨decide_eq_true (by omega), ?_⟩ | refine ⟨⟨decide_eq_true (by omega), decide_eq_true (by omega)⟩, ?_⟩)
    try (first | done | decide | exact decide_eq_true (by omega) | exact ⟨decide_eq_true (by omega), decide_eq_true (by omega)⟩)
    try rfl
  try simp -implicitDefEqProofs only [go_sem]
  repeat (first | refine ⟨rfl, ?_⟩ | refine ⟨by decide, ?_⟩ | refine ⟨⟨by decide, by decide⟩, ?_⟩ | refine ⟨decide_eq_true (by omega), ?_⟩ | refine ⟨⟨decide_eq_true (by omega), decide_eq_true (by omega)⟩, ?_⟩)
  try (first | done | decide | exact decide_eq_true (by omega) | exact ⟨decide_eq_true (by omega), decide_eq_true (by omega)⟩)
  refine .of (c_i_RowAt n.S.T key h.2.1.1) ?_
  try simp -implicitDefEqProofs only [go_sem]
  repeat (first | refine ⟨rfl, ?_⟩ | refine ⟨by decide, ?_⟩ | refine ⟨⟨by decide, by decide⟩, ?_⟩ | refine ⟨decide_eq_true (by omega), ?_⟩ | refine ⟨⟨decide_eq_true (by omega), decide_eq_true (by omega)⟩, ?_⟩)
  try (first | done | decide | exact decide_eq_true (by omega) | exact ⟨decide_eq_true (by omega), decide_eq_true (by omega)⟩)
  rcases rowAt_cases n.S.T.Rows key with ⟨e1, e2⟩ | ⟨hk, e1, e2⟩
  · have e : n.get key = (⟨#[]⟩, 2) := by rw [NodeV.get, g, e2]; rfl
    try simp -implicitDefEqProofs only [go_sem, e1, e]
    repeat (first | refine ⟨rfl, ?_⟩ | refine ⟨by decide, ?_⟩ | refine ⟨⟨by decide, by decide⟩, ?_⟩ | refine ⟨decide_eq_true (by omega), ?_⟩ | refine ⟨⟨decide_eq_true (by omega), decide_eq_true (by omega)⟩, ?_⟩)
    try (first | done | decide | exact decide_eq_true (by omega) | exact ⟨decide_eq_true (by omega), decide_eq_true (by omega)⟩)
    try rfl
  have hr := rowOk_13 (TabV.ok_row (NodeV.up_tab g) hk)
  have c1 : decide ((rowIx n.S.T.Rows key : Int) < 0) = false := decide_eq_false (by omega)
  try simp -implicitDefEqProofs only [go_sem, e1, e2, c1]
  repeat (first | refine ⟨rfl, ?_⟩ | refine ⟨by decide, ?_⟩ | refine ⟨⟨by decide, by decide⟩, ?_⟩ | refine ⟨decide_eq_true (by omega), ?_⟩ | refine ⟨⟨decide_eq_true (by omega), decide_eq_true (by omega)⟩, ?_⟩)
  try (first | done | decide | exact decide_eq_true (by omega) | exact ⟨decide_eq_true (by omega), decide_eq_true (by omega)⟩)
  refine .of (c_i_RowText n.S.T.Rows[rowIx n.S.T.Rows key] hr) ?_
  try simp -implicitDefEqProofs only [go_sem]
  repeat (first | refine ⟨rfl, ?_⟩ | refine ⟨by decide, ?_⟩ | refine ⟨⟨by decide, by decide⟩, ?_⟩ | refine ⟨decide_eq_true (by omega), ?_⟩ | refine ⟨⟨decide_eq_true (by omega), decide_eq_true (by omega)⟩, ?_⟩)
  try (first | done | decide | exact decide_eq_true (by omega) | exact ⟨decide_eq_true (by omega), decide_eq_true (by omega)⟩)
  cases g2 : n.S.T.Rows[rowIx n.S.T.Rows key].rtext.2
  · have e : n.get key = (⟨#[]⟩, 4) := by rw [NodeV.get, g, e2]; simp only [if_true, g2]; rfl
    try simp -implicitDefEqProofs only [go_sem, e, g2]
    repeat (first | refine ⟨rfl, ?_⟩ | refine ⟨by decide, ?_⟩ | refine ⟨⟨by decide, by decide⟩, ?_⟩ | refine ⟨decide_eq_true (by omega), ?_⟩ | refine ⟨⟨decide_eq_true (by omega), decide_eq_true (by omega)⟩, ?_⟩)
    try (first | done | decide | exact decide_eq_true (by omega) | exact ⟨decide_eq_true (by omega), decide_eq_true (by omega)⟩)
    try rfl
  · have e : n.get key = (n.S.T.Rows[rowIx n.S.T.Rows key].rtext.1, 0) := by rw [NodeV.get, g, e2]; simp only [if_true, g2]
    try simp -implicitDefEqProofs only [go_sem, e, g2]
    repeat (first | refine ⟨rfl, ?_⟩ | refine ⟨by decide, ?_⟩ | refine ⟨⟨by decide, by decide⟩, ?_⟩ | refine ⟨decide_eq_true (by omega), ?_⟩ | refine ⟨⟨decide_eq_true (by omega), decide_eq_true (by omega)⟩, ?_⟩)
    try (first | done | decide | exact decide_eq_true (by omega) | exact ⟨decide_eq_true (by omega), decide_eq_true (by omega)⟩)
    try rfl
def x_s_NodeGet : FnX := ⟨33, [.tmp 4, .tmp 5],
  .q [.v 2 0, .op 4 (.mv (.k (.one (.pv (.string ⟨#[]⟩))))), .i 5 0]
 (.seq (.q [.L 9 10 2, .c 10 15 [9], .N 11 10]
 (.c 11 (.q [.op 4 (.mv (.k (.one (.pv (.string ⟨#[]⟩))))), .i 5 1]
 .ret)))
 (.q [.f 12 2 0, .f 13 12 4, .L 14 3 13, .m 15 1, .c 16 16 [14, 15], .m 6 16]
 (.seq (.q [.m 17 6, .B 18 .lss 17 0]
 (.c 18 (.q [.op 4 (.mv (.k (.one (.pv (.string ⟨#[]⟩))))), .i 5 2]
 .ret)))
 (.q [.f 20 2 0, .f 21 20 4, .f 22 21 0, .l 23 22, .m 24 6, .x 25 7 23 24, .L 26 7 25, .c 27 17 [26], .m 19 27, .e 28 19 0, .e 29 19 1, .m 7 28, .m 8 29]
 (.seq (.q [.m 30 8, .N 31 30]
 (.c 31 (.q [.op 4 (.mv (.k (.one (.pv (.string ⟨#[]⟩))))), .i 5 4]
 .ret)))
 (.q [.m 32 7, .m 4 32, .i 5 0]
 .ret))))))⟩
abbrev C_s_NodeGet (Te : TE) : Prop := ∀ (n : NodeV) (key : ByteArray) (h : n.In (2 ^ 48)), Te 6 [.agg (n.enc false), .one (sT key)] ⟨[.one (sT (n.get key).1), .one (iT (n.get key).2)], [n.enc false, [sT key]]⟩
theorem r_s_NodeGet {Te : TE} (c_s_l15Up : C_s_l15Up Te) (c_s_RowAt : C_s_RowAt Te) (c_s_RowText : C_s_RowText Te) : C_s_NodeGet (RF Te x_s_NodeGet) := by
  intro n key h
  refine run0 ?_
  simp -implicitDefEqProofs only [x_s_NodeGet, go_sem]
  repeat (first | refine ⟨rfl, ?_⟩ | refine ⟨by decide, ?_⟩ | refine ⟨⟨by decide, by decide⟩, ?_⟩ | refine ⟨decide_eq_true (by omega), ?_⟩ | refine ⟨⟨decide_eq_true (by omega), decide_eq_true (by omega)⟩, ?_⟩)
  try (first | done | decide | exact decide_eq_true (by omega) | exact ⟨decide_eq_true (by omega), decide_eq_true (by omega)⟩)
  refine .of (c_s_l15Up n h) ?_
  try simp -implicitDefEqProofs only [go_sem]
  repeat (first | refine ⟨rfl, ?_⟩ | refine ⟨by decide, ?_⟩ | refine ⟨⟨by decide, by decide⟩, ?_⟩ | refine ⟨decide_eq_true (by omega), ?_⟩ | refine ⟨⟨decide_eq_true (by omega), decide_eq_true (by omega)⟩, ?_⟩)
  try (first | done | decide | exact decide_eq_true (by omega) | exact ⟨decide_eq_true (by omega), decide_eq_true (by omega)⟩)
  cases g : n.up
  · have e : n.get key = (⟨#[]⟩, 1) := by rw [NodeV.get, g]; rfl
    try simp -implicitDefEqProofs only [go_sem, e]
    repeat (first | refine ⟨rfl, ?_⟩ | refine ⟨by decide, ?_⟩ | refine ⟨⟨by decide, by decide⟩, ?_⟩ | refine ⟨decide_eq_true (by omega), ?_⟩ | refine ⟨⟨decide_eq_true (by omega), decide_eq_true (by omega)⟩, ?_⟩)
    try (first | done | decide | exact decide_eq_true (by omega) | exact ⟨decide_eq_true (by omega), decide_eq_true (by omega)⟩)
    try rfl
  try simp -implicitDefEqProofs only [go_sem]
  repeat (first | refine ⟨rfl, ?_⟩ | refine ⟨by decide, ?_⟩ | refine ⟨⟨by decide, by decide⟩, ?_⟩ | refine ⟨decide_eq_true (by omega), ?_⟩ | refine ⟨⟨decide_eq_true (by omega), decide_eq_true (by omega)⟩, ?_⟩)
  try (first | done | decide | exact decide_eq_true (by omega) | exact ⟨decide_eq_true (by omega), decide_eq_true (by omega)⟩)
  refine .of (c_s_RowAt n.S.T key h.2.1.1) ?_
  try simp -implicitDefEqProofs only [go_sem]
  repeat (first | refine ⟨rfl, ?_⟩ | refine ⟨by decide, ?_⟩ | refine ⟨⟨by decide, by decide⟩, ?_⟩ | refine ⟨decide_eq_true (by omega), ?_⟩ | refine ⟨⟨decide_eq_true (by omega), decide_eq_true (by omega)⟩, ?_⟩)
  try (first | done | decide | exact decide_eq_true (by omega) | exact ⟨decide_eq_true (by omega), decide_eq_true (by omega)⟩)
  rcases rowAt_cases n.S.T.Rows key with ⟨e1, e2⟩ | ⟨hk, e1, e2⟩
  · have e : n.get key = (⟨#[]⟩, 2) := by rw [NodeV.get, g, e2]; rfl
    try simp -implicitDefEqProofs only [go_sem, e1, e]
    repeat (first | refine ⟨rfl, ?_⟩ | refine ⟨by decide, ?_⟩ | refine ⟨⟨by decide, by decide⟩, ?_⟩ | refine ⟨decide_eq_true (by omega), ?_⟩ | refine ⟨⟨decide_eq_true (by omega), decide_eq_true (by omega)⟩, ?_⟩)
    try (first | done | decide | exact decide_eq_true (by omega) | exact ⟨decide_eq_true (by omega), decide_eq_true (by omega)⟩)
    try rfl
  have hr := rowOk_13 (TabV.ok_row (NodeV.up_tab g) hk)
  have c1 : decide ((rowIx n.S.T.Rows key : Int) < 0) = false := decide_eq_false (by omega)
  try simp -implicitDefEqProofs only [go_sem, e1, e2, c1]
  repeat (first | refine ⟨rfl, ?_⟩ | refine ⟨by decide, ?_⟩ | refine ⟨⟨by decide, by decide⟩, ?_⟩ | refine ⟨decide_eq_true (by omega), ?_⟩ | refine ⟨⟨decide_eq_true (by omega), decide_eq_true (by omega)⟩, ?_⟩)
  try (first | done | decide | exact decide_eq_true (by omega) | exact ⟨decide_eq_true (by omega), decide_eq_true (by omega)⟩)
  refine .of (c_s_RowText n.S.T.Rows[rowIx n.S.T.Rows key] hr) ?_
  try simp -implicitDefEqProofs only [go_sem]
  repeat (first | refine ⟨rfl, ?_⟩ | refine ⟨by decide, ?_⟩ | refine ⟨⟨by decide, by decide⟩, ?_⟩ | refine ⟨decide_eq_true (by omega), ?_⟩ | refine ⟨⟨decide_eq_true (by omega), decide_eq_true (by omega)⟩, ?_⟩)
  try (first | done | decide | exact decide_eq_true (by omega) | exact ⟨decide_eq_true (by omega), decide_eq_true (by omega)⟩)
  cases g2 : n.S.T.Rows[rowIx n.S.T.Rows key].rtext.2
  · have e : n.get key = (⟨#[]⟩, 4) := by rw [NodeV.get, g, e2]; simp only [if_true, g2]; rfl
    try simp -implicitDefEqProofs only [go_sem, e, g2]
    repeat (first | refine ⟨rfl, ?_⟩ | refine ⟨by decide, ?_⟩ | refine ⟨⟨by decide, by decide⟩, ?_⟩ | refine ⟨decide_eq_true (by omega), ?_⟩ | refine ⟨⟨decide_eq_true (by omega), decide_eq_true (by omega)⟩, ?_⟩)
    try (first | done | decide | exact decide_eq_true (by omega) | exact ⟨decide_eq_true (by omega), decide_eq_true (by omega)⟩)
    try rfl
  · have e : n.get key = (n.S.T.Rows[rowIx n.S.T.Rows key].rtext.1, 0) := by rw [NodeV.get, g, e2]; simp only [if_true, g2]
    try simp -implicitDefEqProofs only [go_sem, e, g2]
    repeat (first | refine ⟨rfl, ?_⟩ | refine ⟨by decide, ?_⟩ | refine ⟨⟨by decide, by decide⟩, ?_⟩ | refine ⟨decide_eq_true (by omega), ?_⟩ | refine ⟨⟨decide_eq_true (by omega), decide_eq_true (by omega)⟩, ?_⟩)
    try (first | done | decide | exact decide_eq_true (by omega) | exact ⟨decide_eq_true (by omega), decide_eq_true (by omega)⟩)
    try rfl
end Go.X

/- W_NodeGet -/
namespace Go.X
set_option maxRecDepth 100000
set_option maxHeartbeats 8000000
def x_l_FnExactNodeGet : FnX := ⟨47, [.tmp 4],
  .q [.v 2 0, .F 4]
 (.seq (.q [.m 11 1, .op 12 (.slen (.t 11)), .B 13 .gtr 12 1048576]
 (.c 13 (.q [.T 4]
 .ret)))
 (.q [.i 5 1048576]
 (.q [.L 14 10 2, .m 15 5, .c 16 5 [14, 15], .m 5 16]
 (.seq (.q [.m 17 5, .B 18 .lss 17 0]
 (.c 18 (.q [.T 4]
 .ret)))
 (.q [.L 20 10 2, .c 21 7 [20], .m 22 1, .c 23 6 [21, 22], .m 19 23, .e 24 19 0, .e 25 19 1, .m 6 24, .m 7 25]
 (.q [.L 26 10 2, .c 27 7 [26], .op 8 (.alloc [.nils 1, .nils 2, .i 0, .F, .nils 7, .i 0, .nils 3, .i 0, .i 0, .i 0]), .s 100001 10 8 27]
 (.q [.L 29 10 8, .m 30 1, .c 31 8 [29, 30], .m 28 31, .e 32 28 0, .e 33 28 1, .m 9 32, .m 10 33]
 (.seq (.q [.m 34 9, .m 35 6, .b 36 .neq 34 35, .m 37 36, ⟨(some (37, false)), some 38, 38, .mv (.t 10)⟩, ⟨(some (37, false)), some 39, 39, .mv (.t 7)⟩, ⟨(some (37, false)), some 40, 40, .bin .neq (.t 38) (.t 39)⟩, .r 41 37 40]
 (.c 41 (.q [.F 4]
 .ret)))
 (.seq (.seq (.draw [.L 42 10 8, .L 43 10 2, .c 44 7 [43], .c 45 9 [42, 44], .N 46 45] [[], [], [1], [0, 2, 2], [3]])
 (.c 46 (.q [.F 4]
 .ret)))
 (.q [.T 4]
 .ret))))))))))⟩
abbrev C_l_FnExactNodeGet (Te : TE) : Prop := ∀ (aN : NodeV) (aKey : ByteArray) (h_aN : aN.In (2 ^ 48)) (h_aKey : aKey.size ≤ 2 ^ 48), Te 3 [.agg (aN.enc false), .one (sT aKey)] ⟨[.one (bT true)], [(aN.enc false), [sT aKey]]⟩
theorem r_l_FnExactNodeGet {Te : TE} (c_l_szNode : C_l_szNode Te) (c_l_toNode : C_l_toNode Te) (c_s_NodeGet : C_s_NodeGet Te) (c_i_NodeGet : C_i_NodeGet Te) (c_l_eqNode : C_l_eqNode Te) : C_l_FnExactNodeGet (RF Te x_l_FnExactNodeGet) := by
  intro aN aKey h_aN h_aKey
  refine run0 ?_
  simp -implicitDefEqProofs only [x_l_FnExactNodeGet, go_sem]
  refine fun q0 => ?_
  have n_aKey : aKey.size ≤ 1048576 := by simp only [decide_eq_false_iff_not] at q0; omega
  refine .of (c_l_szNode aN (1048576) h_aN (by omega)) ?_
  simp -implicitDefEqProofs only [go_sem]
  refine fun q1 => ?_
  replace q1 : 0 ≤ (szNode aN (1048576)) := by simpa using q1
  have cb_aN : (0 : Int) ≤ (1048576) ∧ (1048576) ≤ (1048576 : Int) := by omega
  have n_aN : aN.In (1048576) := szNode_in (n := 1048576) cb_aN.1 cb_aN.2 q1
  have b_aN : 0 ≤ (szNode aN (1048576)) ∧ (szNode aN (1048576)) ≤ 1048576 := ⟨q1, Int.le_trans (szNode_sane aN _ cb_aN.1) cb_aN.2⟩
  refine .of (c_l_toNode aN (n_aN.len (by decide))) ?_
  simp -implicitDefEqProofs only [go_sem, eq_self, bne_self_eq_false, Bool.xor_self, true_implies, false_implies, marks_length, marks_take, take_map]
  repeat (first | refine ⟨rfl, ?_⟩ | refine ⟨by decide, ?_⟩ | refine ⟨⟨by decide, by decide⟩, ?_⟩)
  refine .of (c_s_NodeGet _ _ (n_aN.mono (by decide))) ?_
  simp -implicitDefEqProofs only [go_sem, eq_self, bne_self_eq_false, Bool.xor_self, true_implies, false_implies, marks_length, marks_take, take_map]
  repeat (first | refine ⟨rfl, ?_⟩ | refine ⟨by decide, ?_⟩ | refine ⟨⟨by decide, by decide⟩, ?_⟩)
  refine .of (c_l_toNode aN (n_aN.len (by decide))) ?_
  simp -implicitDefEqProofs only [go_sem, eq_self, bne_self_eq_false, Bool.xor_self, true_implies, false_implies, marks_length, marks_take, take_map]
  repeat (first | refine ⟨rfl, ?_⟩ | refine ⟨by decide, ?_⟩ | refine ⟨⟨by decide, by decide⟩, ?_⟩)
  refine .of (c_i_NodeGet _ _ (n_aN.mono (by decide))) ?_
  simp -implicitDefEqProofs only [go_sem, eq_self, bne_self_eq_false, Bool.xor_self, true_implies, false_implies, marks_length, marks_take, take_map]
  repeat (first | refine ⟨rfl, ?_⟩ | refine ⟨by decide, ?_⟩ | refine ⟨⟨by decide, by decide⟩, ?_⟩)
  refine .of (c_l_toNode aN (n_aN.len (by decide))) ?_
  simp -implicitDefEqProofs only [go_sem, eq_self, bne_self_eq_false, Bool.xor_self, true_implies, false_implies, marks_length, marks_take, take_map]
  repeat (first | refine ⟨rfl, ?_⟩ | refine ⟨by decide, ?_⟩ | refine ⟨⟨by decide, by decide⟩, ?_⟩)
  refine .of (c_l_eqNode (aN) (aN) (n_aN.len (by decide))) ?_
  simp -implicitDefEqProofs only [go_sem, eq_self, bne_self_eq_false, Bool.xor_self, true_implies, false_implies, marks_length, marks_take, take_map]
  repeat (first | refine ⟨rfl, ?_⟩ | refine ⟨by decide, ?_⟩ | refine ⟨⟨by decide, by decide⟩, ?_⟩)
  try (first | decide | rfl)
end Go.X

/- A library function's contract of another make, as what it tells. -/
namespace Go.X
open Go.RowKit
def plainA : AV → Bool
  | .one (.pv _) => true
  | .one (.sl false _ _ _) => true
  | _ => false
theorem plainA_ts {x : GA} {a : AV} (h : x.er = a) (hp : plainA a = true) : ∃ t, x = .one t ∧ (∀ b, cnt b t = 0) := by
  subst h
  cases x with
  | one t =>
    refine ⟨t, rfl, fun b => ?_⟩
    cases t with
    | pv v => rfl
    | no v => simp [GA.er, X.er, plainA] at hp
    | sl o z v rows =>
      cases o with
      | false => rfl
      | true => simp [GA.er, X.er, plainA] at hp
  | agg ts => simp [GA.er, plainA] at hp
  | ptr A ts => simp [GA.er, plainA] at hp
theorem tells_lib {P : Program} {KP : Kept} {f : Nat} {avs : List AV} {us : List Value} (hp : avs.all plainA = true) (hu : us.all Value.oneCell' = true)
    (h : ∀ (S : Nat → Prop) (gs : List GA) (w : World), gs.map GA.er = avs → (∀ x ∈ gs, x.ok S w) → KP.ok S w → Calls P f (gs.map GA.val).toArray w fun e w' => e = .returned (resVal (us.map fun u => .one (.pv u))) ∧ Below w.heap.size w w') (hf : Nat.ble (f + 1) VN = true) :
    Tells P KP f avs ⟨us.map fun u => .one (.pv u), avs.map AV.ts⟩ := by
  rw [tells_small (Nat.le_of_ble_eq_true hf)]
  intro S gs w ha hS hok _ _ hK
  refine (h S gs w ha hok hK).mono ?_
  rintro e w' ⟨rfl, hB⟩
  have hpl : ∀ x ∈ gs, ∃ t, x = .one t ∧ (∀ b, cnt b t = 0) := fun x hx => by
    refine plainA_ts rfl ?_
    have : x.er ∈ avs := by rw [← ha]; exact List.mem_map_of_mem hx
    exact List.all_eq_true.1 hp _ this
  have hcl : ∀ b, ∀ l : List GA, (∀ x ∈ l, ∃ t, x = .one t ∧ (∀ b, cnt b t = 0)) → treeCnt b l = 0 ∧ ptrCnt b l = 0 ∧ cntL b (l.map GA.ts).flatten = 0 := fun b l => by
    induction l with
    | nil => intro _; exact ⟨rfl, rfl, rfl⟩
    | cons x l ih =>
      intro hl
      obtain ⟨t, rfl, ht⟩ := hl x (List.mem_cons_self ..)
      obtain ⟨h1, h2, h3⟩ := ih fun y hy => hl y (List.mem_cons_of_mem _ hy)
      have := ht b
      simp only [treeCnt, List.flatMap_cons, cntL_append, GA.ts, cntL, ptrCnt, GA.pb, List.map_cons, List.flatten_cons] at h1 h2 h3 ⊢
      omega
  have hmv : ∀ x ∈ gs, ∀ t ∈ x.ts, Rp S w' t := fun x hx t ht => by
    obtain ⟨t', rfl, hc⟩ := hpl x hx
    simp only [GA.ts, List.mem_singleton] at ht
    subst ht
    refine ((hok _ hx).1 t (by simp [GA.ts])).move (fun _ h => h) (fun b hb => hB.block b (hS b hb)) (fun b hb => ?_)
    have := hc b
    omega
  have hus : ∀ b, ∀ l : List Value, treeCnt b (l.map fun u => GA.one (.pv u)) = 0 ∧ ptrCnt b (l.map fun u => GA.one (.pv u)) = 0 := fun b l => by
    induction l with
    | nil => exact ⟨rfl, rfl⟩
    | cons u l ih =>
      obtain ⟨h1, h2⟩ := ih
      simp only [treeCnt, List.map_cons, List.flatMap_cons, cntL_append, GA.ts, cntL, cnt, ptrCnt, GA.pb] at h1 h2 ⊢
      omega
  refine ⟨us.map fun u => .one (.pv u), gs.map GA.ts, rfl, by simp [GA.er, X.er, Function.comp_def], ?_, ?_, ?_, ?_, ?_, ?_, ?_, ?_⟩
  · rw [← ha, List.map_map, List.map_map]
    exact List.map_congr_left fun x _ => (GA.er_ts x).symm
  · intro x hx
    obtain ⟨u, hu', rfl⟩ := List.mem_map.1 hx
    refine ⟨fun t ht => ?_, fun A ts e => by cases e⟩
    simp only [GA.ts, List.mem_singleton] at ht
    subst ht
    exact .pv (List.all_eq_true.1 hu _ hu')
  · intro o ho t ht
    obtain ⟨x, hx, rfl⟩ := List.mem_map.1 ho
    exact hmv x hx t ht
  · have : ∀ l : List GA, (∀ x ∈ l, ∃ t, x = .one t ∧ (∀ b, cnt b t = 0)) → OutsOK w' l (l.map GA.ts) := fun l => by
      induction l with
      | nil => intro _; trivial
      | cons x l ih =>
        intro hl
        obtain ⟨t, rfl, _⟩ := hl x (List.mem_cons_self ..)
        exact ⟨rfl, ih fun y hy => hl y (List.mem_cons_of_mem _ hy)⟩
    exact this gs hpl
  · intro b
    have h1 := hcl b gs hpl
    have h2 := hus b us
    omega
  · intro b hb
    have h1 := hcl b gs hpl
    have h2 := hus b us
    omega
  · refine ⟨hB.os, hB.tape, hB.output, hB.size, fun b hb _ => hB.block b hb, fun A ts hm => ?_⟩
    obtain ⟨t, e, _⟩ := hpl _ hm
    cases e
  · intro A ts hm
    obtain ⟨u, _, e⟩ := List.mem_map.1 hm
    cases e
/-- How bytes that are read lie in memory. -/
theorem rd_bytes {S : Nat → Prop} {w : World} {l : List UInt8} {v : Value} (h : Rd S w (.sl false 1 () (l.map fun a => [.pv (.int .u8 a.toNat)])) v) (hl : l ≠ []) :
    ∃ b off cap, v = .slice (some ⟨b, off, none⟩) l.length cap ∧ ∀ j (hj : j < l.length), w.cell? ⟨b, off + j, none⟩ = some (.int .u8 (l[j]).toNat) := by
  generalize ht : (Tr.sl false 1 () (l.map fun a => [.pv (.int .u8 a.toNat)]) : T) = t at h
  cases h with
  | pv h => cases ht
  | @sl z cap a rows u h1 h2 h3 h4 h5 =>
    cases ht
    have hlen : (l.map fun a => ([.pv (.int .u8 a.toNat)] : List T)).length = l.length := by simp
    have key : ∀ j (hj : j < l.length), ∃ ad, a = some ad ∧ w.cell? (ad.add j) = some (.int .u8 (l[j]).toNat) := fun j hj => by
      have hr : (l.map fun a => ([.pv (.int .u8 a.toNat)] : List T))[j]? = some [.pv (.int .u8 (l[j]).toNat)] := by simp [hj]
      obtain ⟨ad, e1, _, e2⟩ := h4 j _ 0 _ hr rfl
      have e3 := h5 j _ 0 _ hr rfl
      have e4 : u j 0 = .int .u8 (l[j]).toNat := by
        generalize hq : (Tr.pv (Value.int .u8 (l[j]).toNat) : T) = q at e3
        generalize u j 0 = x at e3
        cases e3 with
        | pv => cases hq; rfl
        | sl => cases hq
      exact ⟨ad, e1, by simpa [e4] using e2⟩
    obtain ⟨ad, rfl, e0⟩ := key 0 (by rcases l with _ | _; exact absurd rfl hl; simp)
    have hs : ad.spot = none := by
      have e0' : w.cell? ad = some (.int .u8 (l[0]'(by rcases l with _ | _; exact absurd rfl hl; simp)).toNat) := by simpa [Addr.add] using e0
      unfold World.cell? at e0'
      split at e0'
      · split at e0'
        · cases e0'
        · rename_i q; simpa using q
      · cases e0'
    obtain ⟨b, off, sp⟩ := ad
    simp only at hs
    subst hs
    refine ⟨b, off, cap, by rw [hlen], fun j hj => ?_⟩
    obtain ⟨ad', e1, e2⟩ := key j hj
    cases e1
    by_cases hz : j = 0
    · subst hz; simpa [Addr.add] using e2
    · simpa [Addr.add, hz] using e2
end Go.X

/- utf8.DecodeRune and utf8.ValidString, as they are told; the tables that they read stay. -/
namespace Go.X
open Go.RowKit Go.Proofs Go.Shelf
def keptU (g3 g4 : Nat) : Kept := ⟨fun S w => S g3 ∧ S g4 ∧ Lib.Utf8Tabs g3 g4 w, fun {S S' w w'} h hs hb => by
  obtain ⟨h1, h2, h3, h4⟩ := h
  refine ⟨hs _ h1, hs _ h2, fun c hc => ?_, fun i hi => ?_⟩
  · rw [World.cell?_of_block (w := w) (hb _ h1)]; exact h3 c hc
  · rw [World.cell?_of_block (w := w) (hb _ h2), World.cell?_of_block (w := w) (hb _ h2)]; exact h4 i hi⟩
theorem tells_decode {P : Program} {ρ : Ren} (L : Lays7.n32 P ρ) (l : List UInt8) (hl : l ≠ []) (hf : Nat.ble (ρ.f 32 + 1) VN = true := by exact rfl) :
    Tells P (keptU (ρ.g 2) (ρ.g 3)) (ρ.f 32) [.one (.sl false 1 () (l.map fun a => [.pv (.int .u8 a.toNat)]))] ⟨[.one (.pv (.int .i32 (Lib.decodeGo ⟨l.toArray⟩).1)), .one (.pv (.int .i64 (Lib.decodeGo ⟨l.toArray⟩).2))], [[.sl false 1 () (l.map fun a => [.pv (.int .u8 a.toNat)])]]⟩ := by
  refine tells_lib (us := [.int .i32 (Lib.decodeGo ⟨l.toArray⟩).1, .int .i64 (Lib.decodeGo ⟨l.toArray⟩).2]) rfl rfl ?_ hf
  intro S gs w ha hok hK
  rcases gs with _ | ⟨x, _ | ⟨y, gs⟩⟩
  · simp at ha
  · simp only [List.map_cons, List.map_nil, List.cons.injEq, and_true] at ha
    have hx := (hok x (List.mem_cons_self ..)).1
    cases x with
    | one t =>
      simp only [GA.er, AV.one.injEq] at ha
      have ht := hx t (by simp [GA.ts])
      have hrd : Rd S w (.sl false 1 () (l.map fun a => [.pv (.int .u8 a.toNat)])) (hdr t) := by
        rw [← ha]
        cases ht with
        | pv => simp [er] at ha
        | no => simp [er] at ha
        | ro h => exact h
        | nil => simp [er] at ha
        | own => simp [er] at ha
      obtain ⟨b, off, cap, e1, e2⟩ := rd_bytes hrd hl
      have := Any7.utf8_DecodeRune L ⟨l.toArray⟩ b off cap w hK.2.2 (fun j hj => by
        have hj' : j < l.length := by simpa [ByteArray.size] using hj
        rw [e2 j hj']
        congr 3
        simp [ByteArray.get!, hj'])
      have e3 : (⟨l.toArray⟩ : ByteArray).size = l.length := by simp [ByteArray.size]
      rw [e3, ← e1] at this
      exact this
    | agg ts => simp [GA.er] at ha
    | ptr A ts => simp [GA.er] at ha
  · simp at ha
theorem decodeGo_L {l : List UInt8} (hl : l ≠ []) : Lib.decodeGo ⟨l.toArray⟩ = Lib.decodeL l := by
  have : ¬ (⟨l.toArray⟩ : ByteArray).size = 0 := by
    simp only [ByteArray.size, List.size_toArray]
    intro e
    exact hl (List.length_eq_zero_iff.1 e)
  unfold Lib.decodeGo Lib.decodeL
  rw [if_neg this]
theorem tells_decodeL {P : Program} {ρ : Ren} (L : Lays7.n32 P ρ) (l : List UInt8) (hl : l ≠ []) (hf : Nat.ble (ρ.f 32 + 1) VN = true := by exact rfl) :
    Tells P (keptU (ρ.g 2) (ρ.g 3)) (ρ.f 32) [.one (.sl false 1 () (l.map fun a => [.pv (.int .u8 a.toNat)]))] ⟨[.one (.pv (.int .i32 (Lib.decodeL l).1)), .one (.pv (.int .i64 (Lib.decodeL l).2))], [[.sl false 1 () (l.map fun a => [.pv (.int .u8 a.toNat)])]]⟩ := by
  have h := tells_decode L l hl hf
  rw [decodeGo_L hl] at h
  exact h
end Go.X

