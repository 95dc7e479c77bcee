/- Texts: CVe CVf CVg. -/
import Derived.Test.YtkclmpglcdojiaaDoorCf
set_option linter.unusedVariables false
set_option linter.unusedSimpArgs false
/- Ve -/
namespace Go.X
set_option maxRecDepth 100000
set_option maxHeartbeats 8000000
def RowV.ok (r : RowV) : Bool := nameOk r.Key && win r.Has 1 3 &&
  (if r.Has = 1 then r.Old.ok && (r.Old.Tag != 0) && (r.Old.text.2 || r.Aside) && r.New.no
   else if r.Has = 2 then r.Old.no && (r.New.Tag == 0) && r.New.text.2
   else r.Old.ok && (r.Old.Tag != 0) && r.Old.text.2 && (r.New.Tag == 0) && r.New.text.2 && sameText r.Old r.New)
theorem and1_has (h : Int) (hh : h = 1 ∨ h = 2 ∨ h = 3) : (andK .i64 h 1 == 1) = decide (h ≠ 2) := by
  rw [andK_def]
  rcases hh with rfl | rfl | rfl <;> decide
theorem and2_has (h : Int) (hh : h = 1 ∨ h = 2 ∨ h = 3) : (andK .i64 h 2 == 2) = decide (h ≠ 1) := by
  rw [andK_def]
  rcases hh with rfl | rfl | rfl <;> decide
theorem win13 {h : Int} (g : win h 1 3 = true) : h = 1 ∨ h = 2 ∨ h = 3 := by
  simp only [win, Bool.and_eq_true, decide_eq_true_eq] at g
  omega
theorem tag_no {c : CellV} (h : win c.Tag 1 5 = false) : (c.ok && (c.Tag != 0)) = false := by
  cases g : c.ok
  · rfl
  · simp only [CellV.ok, win, Bool.and_eq_true, decide_eq_true_eq] at g
    simp only [win, Bool.and_eq_false_iff, decide_eq_false_iff_not] at h
    have : c.Tag = 0 := by omega
    rw [this]
    rfl
theorem tag_yes {c : CellV} (h : win c.Tag 1 5 = true) : (c.Tag != 0) = true := by
  simp only [win, Bool.and_eq_true, decide_eq_true_eq] at h
  simp only [bne_iff_ne]
  omega
theorem rowOk_name {r : RowV} (h : nameOk r.Key = false) : r.ok = false := by simp only [RowV.ok, h, Bool.false_and]
theorem rowOk_has {r : RowV} (h : win r.Has 1 3 = false) : r.ok = false := by simp only [RowV.ok, h, Bool.and_false, Bool.false_and]
theorem rowOk_1 {k : ByteArray} {o n : CellV} {a : Bool} (h : nameOk k = true) : (RowV.mk k o n 1 a).ok = (o.ok && (o.Tag != 0) && (o.text.2 || a) && n.no) := by simp only [RowV.ok, h]; rfl
theorem rowOk_2 {k : ByteArray} {o n : CellV} {a : Bool} (h : nameOk k = true) : (RowV.mk k o n 2 a).ok = (o.no && (n.Tag == 0) && n.text.2) := by simp only [RowV.ok, h]; rfl
theorem rowOk_3 {k : ByteArray} {o n : CellV} {a : Bool} (h : nameOk k = true) : (RowV.mk k o n 3 a).ok = (o.ok && (o.Tag != 0) && o.text.2 && (n.Tag == 0) && n.text.2 && sameText o n) := by simp only [RowV.ok, h]; rfl
theorem text_no {c : CellV} (h : c.ok = false) : c.text.2 = false := by rw [CellV.text, h]; rfl
def x_s_l9Old : FnX := ⟨7, [.tmp 2],
  .seq (.reg [⟨none, some 1, 1, .box (.t 0)⟩,
   ⟨none, some 2, 2, .mv (.k (.one (.pv (.bool false))))⟩])
 (.seq (.reg [⟨none, some 3, 3, .faddr (.t 1) 5⟩,
   ⟨none, some 4, 4, .load none (.t 3)⟩,
   ⟨none, some 5, 5, .bin .and (.t 4) (.k (.one (.pv (.int .i64 1))))⟩,
   ⟨none, some 6, 6, .bin .eql (.t 5) (.k (.one (.pv (.int .i64 1))))⟩,
   ⟨none, some 2, 2, .mv (.t 6)⟩])
 (.ret))⟩
abbrev C_s_l9Old (Te : Nat → List AV → Res → Prop) : Prop := ∀ (r : RowV) (h : r.Has = 1 ∨ r.Has = 2 ∨ r.Has = 3), Te 46 [.agg (r.enc false)] ⟨[.one (bT (decide (r.Has ≠ 2)))], [r.enc false]⟩
theorem r_s_l9Old {Te : Nat → List AV → Res → Prop} : ∀ (r : RowV) (h : r.Has = 1 ∨ r.Has = 2 ∨ r.Has = 3), RunFn Te x_s_l9Old [.agg (r.enc false)] ⟨[.one (bT (decide (r.Has ≠ 2)))], [r.enc false]⟩ := by
  intro r h
  refine ⟨by simp -implicitDefEqProofs (maxSteps := 1000000) only [x_s_l9Old, go_sem], ?_⟩
  have e := and1_has _ h
  simp -implicitDefEqProofs (maxSteps := 1000000) only [x_s_l9Old, go_sem, true_implies, false_implies, e]
  repeat (first | refine ⟨rfl, ?_⟩ | refine ⟨by decide, ?_⟩ | refine ⟨⟨by decide, by decide⟩, ?_⟩ | refine ⟨decide_eq_true (by omega), ?_⟩ | refine ⟨⟨decide_eq_true (by omega), decide_eq_true (by omega)⟩, ?_⟩)
  try (first | done | decide | exact decide_eq_true (by omega) | exact ⟨decide_eq_true (by omega), decide_eq_true (by omega)⟩)
def x_s_l9New : FnX := ⟨7, [.tmp 2],
  .seq (.reg [⟨none, some 1, 1, .box (.t 0)⟩,
   ⟨none, some 2, 2, .mv (.k (.one (.pv (.bool false))))⟩])
 (.seq (.reg [⟨none, some 3, 3, .faddr (.t 1) 5⟩,
   ⟨none, some 4, 4, .load none (.t 3)⟩,
   ⟨none, some 5, 5, .bin .and (.t 4) (.k (.one (.pv (.int .i64 2))))⟩,
   ⟨none, some 6, 6, .bin .eql (.t 5) (.k (.one (.pv (.int .i64 2))))⟩,
   ⟨none, some 2, 2, .mv (.t 6)⟩])
 (.ret))⟩
abbrev C_s_l9New (Te : Nat → List AV → Res → Prop) : Prop := ∀ (r : RowV) (h : r.Has = 1 ∨ r.Has = 2 ∨ r.Has = 3), Te 48 [.agg (r.enc false)] ⟨[.one (bT (decide (r.Has ≠ 1)))], [r.enc false]⟩
theorem r_s_l9New {Te : Nat → List AV → Res → Prop} : ∀ (r : RowV) (h : r.Has = 1 ∨ r.Has = 2 ∨ r.Has = 3), RunFn Te x_s_l9New [.agg (r.enc false)] ⟨[.one (bT (decide (r.Has ≠ 1)))], [r.enc false]⟩ := by
  intro r h
  refine ⟨by simp -implicitDefEqProofs (maxSteps := 1000000) only [x_s_l9New, go_sem], ?_⟩
  have e := and2_has _ h
  simp -implicitDefEqProofs (maxSteps := 1000000) only [x_s_l9New, go_sem, true_implies, false_implies, e]
  repeat (first | refine ⟨rfl, ?_⟩ | refine ⟨by decide, ?_⟩ | refine ⟨⟨by decide, by decide⟩, ?_⟩ | refine ⟨decide_eq_true (by omega), ?_⟩ | refine ⟨⟨decide_eq_true (by omega), decide_eq_true (by omega)⟩, ?_⟩)
  try (first | done | decide | exact decide_eq_true (by omega) | exact ⟨decide_eq_true (by omega), decide_eq_true (by omega)⟩)
def x_i_RowOk : FnX := ⟨89, [.tmp 2],
  .seq (.reg [⟨none, some 1, 1, .box (.t 0)⟩,
   ⟨none, some 2, 2, .mv (.k (.one (.pv (.bool false))))⟩])
 (.seq (.seq (.reg [⟨none, some 9, 9, .faddr (.t 1) 0⟩,
   ⟨none, some 10, 10, .load none (.t 9)⟩,
   ⟨none, some 11, 11, .call 57 [0] [(.t 10)]⟩,
   ⟨none, some 12, 12, .not (.t 11)⟩,
   ⟨none, some 13, 13, .mv (.t 12)⟩,
   ⟨(some (13, false)), some 14, 14, .faddr (.t 1) 5⟩,
   ⟨(some (13, false)), some 15, 15, .load none (.t 14)⟩,
   ⟨(some (13, false)), some 16, 16, .call 14 [0, 0, 0] [(.t 15), (.k (.one (.pv (.int .i64 1)))), (.k (.one (.pv (.int .i64 3))))]⟩,
   ⟨(some (13, false)), some 17, 17, .not (.t 16)⟩,
   ⟨none, some 18, 18, .pick (.t 13) (.k (.one (.pv (.bool true)))) (.t 17)⟩])
 (.cond 18 (.seq (.reg [⟨none, some 2, 2, .mv (.k (.one (.pv (.bool false))))⟩])
 (.ret)) (.skip)))
 (.seq (.reg [⟨none, some 20, 20, .faddr (.t 1) 1⟩,
   ⟨none, some 21, 21, .load (some 2) (.t 20)⟩,
   ⟨none, some 22, 22, .call 58 [0] [(.t 21)]⟩,
   ⟨none, some 19, 19, .mv (.t 22)⟩,
   ⟨none, some 23, 23, .ext (.t 19) 0⟩,
   ⟨none, some 24, 24, .ext (.t 19) 1⟩,
   ⟨none, some 3, 3, .mv (.t 23)⟩,
   ⟨none, some 4, 4, .mv (.t 24)⟩])
 (.seq (.reg [⟨none, some 26, 26, .faddr (.t 1) 3⟩,
   ⟨none, some 27, 27, .load (some 2) (.t 26)⟩,
   ⟨none, some 28, 28, .call 58 [0] [(.t 27)]⟩,
   ⟨none, some 25, 25, .mv (.t 28)⟩,
   ⟨none, some 29, 29, .ext (.t 25) 0⟩,
   ⟨none, some 30, 30, .ext (.t 25) 1⟩,
   ⟨none, some 5, 5, .mv (.t 29)⟩,
   ⟨none, some 6, 6, .mv (.t 30)⟩])
 (.seq (.reg [⟨none, some 31, 31, .faddr (.t 1) 1⟩,
   ⟨none, some 32, 32, .load (some 2) (.t 31)⟩,
   ⟨none, some 33, 33, .build [.pv (.int .i64 0), .nils 1] []⟩,
   ⟨none, some 34, 34, .call 59 [0, 0] [(.t 32), (.t 33)]⟩,
   ⟨none, some 7, 7, .mv (.t 34)⟩])
 (.seq (.seq (.reg [⟨none, some 35, 35, .faddr (.t 1) 5⟩,
   ⟨none, some 36, 36, .load none (.t 35)⟩,
   ⟨none, some 37, 37, .bin .neq (.t 36) (.k (.one (.pv (.int .i64 2))))⟩])
 (.cond 37 (.reg [⟨none, some 38, 38, .faddr (.t 1) 1⟩,
   ⟨none, some 39, 39, .load (some 2) (.t 38)⟩,
   ⟨none, some 40, 40, .call 60 [0] [(.t 39)]⟩,
   ⟨none, some 41, 41, .mv (.t 40)⟩,
   ⟨(some (41, true)), some 42, 42, .faddr (.t 1) 1⟩,
   ⟨(some (41, true)), some 43, 43, .faddr (.t 42) 0⟩,
   ⟨(some (41, true)), some 44, 44, .load none (.t 43)⟩,
   ⟨(some (41, true)), some 45, 45, .bin .neq (.t 44) (.k (.one (.pv (.int .i64 0))))⟩,
   ⟨none, some 46, 46, .pick (.t 41) (.t 45) (.k (.one (.pv (.bool false))))⟩,
   ⟨none, some 47, 47, .mv (.t 46)⟩,
   ⟨(some (47, true)), some 48, 48, .mv (.t 4)⟩,
   ⟨(some (47, true)), some 49, 49, .mv (.t 48)⟩,
   ⟨(some (49, false)), some 50, 50, .faddr (.t 1) 6⟩,
   ⟨(some (49, false)), some 51, 51, .load none (.t 50)⟩,
   ⟨(some (49, false)), some 52, 52, .mv (.t 51)⟩,
   ⟨(some (52, true)), some 53, 53, .faddr (.t 1) 5⟩,
   ⟨(some (52, true)), some 54, 54, .load none (.t 53)⟩,
   ⟨(some (52, true)), some 55, 55, .bin .eql (.t 54) (.k (.one (.pv (.int .i64 1))))⟩,
   ⟨(some (49, false)), some 56, 56, .pick (.t 52) (.t 55) (.k (.one (.pv (.bool false))))⟩,
   ⟨(some (47, true)), some 57, 57, .pick (.t 49) (.k (.one (.pv (.bool true)))) (.t 56)⟩,
   ⟨none, some 58, 58, .pick (.t 47) (.t 57) (.k (.one (.pv (.bool false))))⟩,
   ⟨none, some 7, 7, .mv (.t 58)⟩]) (.skip)))
 (.seq (.reg [⟨none, some 59, 59, .faddr (.t 1) 3⟩,
   ⟨none, some 60, 60, .load (some 2) (.t 59)⟩,
   ⟨none, some 61, 61, .build [.pv (.int .i64 0), .nils 1] []⟩,
   ⟨none, some 62, 62, .call 59 [0, 0] [(.t 60), (.t 61)]⟩,
   ⟨none, some 8, 8, .mv (.t 62)⟩])
 (.seq (.seq (.reg [⟨none, some 63, 63, .faddr (.t 1) 5⟩,
   ⟨none, some 64, 64, .load none (.t 63)⟩,
   ⟨none, some 65, 65, .bin .neq (.t 64) (.k (.one (.pv (.int .i64 1))))⟩])
 (.cond 65 (.reg [⟨none, some 66, 66, .faddr (.t 1) 3⟩,
   ⟨none, some 67, 67, .faddr (.t 66) 0⟩,
   ⟨none, some 68, 68, .load none (.t 67)⟩,
   ⟨none, some 69, 69, .bin .eql (.t 68) (.k (.one (.pv (.int .i64 0))))⟩,
   ⟨none, some 70, 70, .mv (.t 69)⟩,
   ⟨(some (70, true)), some 71, 71, .mv (.t 6)⟩,
   ⟨none, some 72, 72, .pick (.t 70) (.t 71) (.k (.one (.pv (.bool false))))⟩,
   ⟨none, some 8, 8, .mv (.t 72)⟩]) (.skip)))
 (.seq (.reg [⟨none, some 73, 73, .mv (.t 7)⟩,
   ⟨none, some 74, 74, .mv (.t 73)⟩,
   ⟨(some (74, true)), some 75, 75, .mv (.t 8)⟩,
   ⟨none, some 76, 76, .pick (.t 74) (.t 75) (.k (.one (.pv (.bool false))))⟩,
   ⟨none, some 77, 77, .mv (.t 76)⟩,
   ⟨(some (77, true)), some 78, 78, .faddr (.t 1) 5⟩,
   ⟨(some (77, true)), some 79, 79, .load none (.t 78)⟩,
   ⟨(some (77, true)), some 80, 80, .bin .neq (.t 79) (.k (.one (.pv (.int .i64 3))))⟩,
   ⟨(some (77, true)), some 81, 81, .mv (.t 80)⟩,
   ⟨(some (81, false)), some 82, 82, .faddr (.t 1) 1⟩,
   ⟨(some (81, false)), some 83, 83, .load (some 2) (.t 82)⟩,
   ⟨(some (81, false)), some 84, 84, .faddr (.t 1) 3⟩,
   ⟨(some (81, false)), some 85, 85, .load (some 2) (.t 84)⟩,
   ⟨(some (81, false)), some 86, 86, .call 61 [0, 0] [(.t 83), (.t 85)]⟩,
   ⟨(some (77, true)), some 87, 87, .pick (.t 81) (.k (.one (.pv (.bool true)))) (.t 86)⟩,
   ⟨none, some 88, 88, .pick (.t 77) (.t 87) (.k (.one (.pv (.bool false))))⟩,
   ⟨none, some 2, 2, .mv (.t 88)⟩])
 (.ret)))))))))⟩
abbrev C_i_RowOk (Te : Nat → List AV → Res → Prop) : Prop := ∀ (r : RowV) (h : r.In (2 ^ 48)), Te 36 [.agg (r.enc false)] ⟨[.one (bT r.ok)], [r.enc false]⟩
theorem r_i_RowOk {Te : Nat → List AV → Res → Prop} (c_i_NameOk : C_i_NameOk Te) (c_i_within : C_i_within Te) (c_i_CellText : C_i_CellText Te) (c_i_sameCell : C_i_sameCell Te) (c_i_CellOk : C_i_CellOk Te) (c_i_SameText : C_i_SameText Te) : ∀ (r : RowV) (h : r.In (2 ^ 48)), RunFn Te x_i_RowOk [.agg (r.enc false)] ⟨[.one (bT r.ok)], [r.enc false]⟩ := by
  intro r h
  refine ⟨by simp -implicitDefEqProofs (maxSteps := 1000000) only [x_i_RowOk, go_sem], ?_⟩
  obtain ⟨hk, _⟩ := h
  simp -implicitDefEqProofs (maxSteps := 1000000) only [x_i_RowOk, go_sem, true_implies, false_implies]
  repeat (first | refine ⟨rfl, ?_⟩ | refine ⟨by decide, ?_⟩ | refine ⟨⟨by decide, by decide⟩, ?_⟩ | refine ⟨decide_eq_true (by omega), ?_⟩ | refine ⟨⟨decide_eq_true (by omega), decide_eq_true (by omega)⟩, ?_⟩)
  try (first | done | decide | exact decide_eq_true (by omega) | exact ⟨decide_eq_true (by omega), decide_eq_true (by omega)⟩)
  refine .of (c_i_NameOk r.Key hk) ?_
  try simp -implicitDefEqProofs (maxSteps := 1000000) only [go_sem, true_implies, false_implies]
  repeat (first | refine ⟨rfl, ?_⟩ | refine ⟨by decide, ?_⟩ | refine ⟨⟨by decide, by decide⟩, ?_⟩ | refine ⟨decide_eq_true (by omega), ?_⟩ | refine ⟨⟨decide_eq_true (by omega), decide_eq_true (by omega)⟩, ?_⟩)
  try (first | done | decide | exact decide_eq_true (by omega) | exact ⟨decide_eq_true (by omega), decide_eq_true (by omega)⟩)
  cases g1 : nameOk r.Key
  · have e := rowOk_name (r := r) g1
    try simp -implicitDefEqProofs (maxSteps := 1000000) only [go_sem, true_implies, false_implies, e]
    repeat (first | refine ⟨rfl, ?_⟩ | refine ⟨by decide, ?_⟩ | refine ⟨⟨by decide, by decide⟩, ?_⟩ | refine ⟨decide_eq_true (by omega), ?_⟩ | refine ⟨⟨decide_eq_true (by omega), decide_eq_true (by omega)⟩, ?_⟩)
    try (first | done | decide | exact decide_eq_true (by omega) | exact ⟨decide_eq_true (by omega), decide_eq_true (by omega)⟩)
  try simp -implicitDefEqProofs (maxSteps := 1000000) only [go_sem, true_implies, false_implies]
  repeat (first | refine ⟨rfl, ?_⟩ | refine ⟨by decide, ?_⟩ | refine ⟨⟨by decide, by decide⟩, ?_⟩ | refine ⟨decide_eq_true (by omega), ?_⟩ | refine ⟨⟨decide_eq_true (by omega), decide_eq_true (by omega)⟩, ?_⟩)
  try (first | done | decide | exact decide_eq_true (by omega) | exact ⟨decide_eq_true (by omega), decide_eq_true (by omega)⟩)
  refine .of (c_i_within _ _ _) ?_
  try simp -implicitDefEqProofs (maxSteps := 1000000) only [go_sem, true_implies, false_implies]
  repeat (first | refine ⟨rfl, ?_⟩ | refine ⟨by decide, ?_⟩ | refine ⟨⟨by decide, by decide⟩, ?_⟩ | refine ⟨decide_eq_true (by omega), ?_⟩ | refine ⟨⟨decide_eq_true (by omega), decide_eq_true (by omega)⟩, ?_⟩)
  try (first | done | decide | exact decide_eq_true (by omega) | exact ⟨decide_eq_true (by omega), decide_eq_true (by omega)⟩)
  cases g2 : win r.Has 1 3
  · have e := rowOk_has (r := r) g2
    try simp -implicitDefEqProofs (maxSteps := 1000000) only [go_sem, true_implies, false_implies, e]
    repeat (first | refine ⟨rfl, ?_⟩ | refine ⟨by decide, ?_⟩ | refine ⟨⟨by decide, by decide⟩, ?_⟩ | refine ⟨decide_eq_true (by omega), ?_⟩ | refine ⟨⟨decide_eq_true (by omega), decide_eq_true (by omega)⟩, ?_⟩)
    try (first | done | decide | exact decide_eq_true (by omega) | exact ⟨decide_eq_true (by omega), decide_eq_true (by omega)⟩)
  have h3 := win13 g2
  obtain ⟨key, old, new, has, aside⟩ := r
  simp only at h3 g1 hk
  clear g2
  rcases h3 with rfl | rfl | rfl
  · skip
    have e := rowOk_1 (o := old) (n := new) (a := aside) g1
    try simp -implicitDefEqProofs (maxSteps := 1000000) only [go_sem, true_implies, false_implies]
    repeat (first | refine ⟨rfl, ?_⟩ | refine ⟨by decide, ?_⟩ | refine ⟨⟨by decide, by decide⟩, ?_⟩ | refine ⟨decide_eq_true (by omega), ?_⟩ | refine ⟨⟨decide_eq_true (by omega), decide_eq_true (by omega)⟩, ?_⟩)
    try (first | done | decide | exact decide_eq_true (by omega) | exact ⟨decide_eq_true (by omega), decide_eq_true (by omega)⟩)
    refine .of (c_i_CellText old) ?_
    try simp -implicitDefEqProofs (maxSteps := 1000000) only [go_sem, true_implies, false_implies]
    repeat (first | refine ⟨rfl, ?_⟩ | refine ⟨by decide, ?_⟩ | refine ⟨⟨by decide, by decide⟩, ?_⟩ | refine ⟨decide_eq_true (by omega), ?_⟩ | refine ⟨⟨decide_eq_true (by omega), decide_eq_true (by omega)⟩, ?_⟩)
    try (first | done | decide | exact decide_eq_true (by omega) | exact ⟨decide_eq_true (by omega), decide_eq_true (by omega)⟩)
    refine .of (c_i_CellText new) ?_
    try simp -implicitDefEqProofs (maxSteps := 1000000) only [go_sem, true_implies, false_implies]
    repeat (first | refine ⟨rfl, ?_⟩ | refine ⟨by decide, ?_⟩ | refine ⟨⟨by decide, by decide⟩, ?_⟩ | refine ⟨decide_eq_true (by omega), ?_⟩ | refine ⟨⟨decide_eq_true (by omega), decide_eq_true (by omega)⟩, ?_⟩)
    try (first | done | decide | exact decide_eq_true (by omega) | exact ⟨decide_eq_true (by omega), decide_eq_true (by omega)⟩)
    refine .of (c_i_sameCell old ⟨0, []⟩) ?_
    try simp -implicitDefEqProofs (maxSteps := 1000000) only [go_sem, true_implies, false_implies, CellV.no, show ((1 : Int) != 2) = true from rfl, show ((1 : Int) != 1) = false from rfl, show ((1 : Int) == 1) = true from rfl, show ((1 : Int) != 3) = true from rfl, show ((2 : Int) != 2) = false from rfl, show ((2 : Int) != 1) = true from rfl, show ((2 : Int) != 3) = true from rfl, show ((3 : Int) != 2) = true from rfl, show ((3 : Int) != 1) = true from rfl, show ((3 : Int) != 3) = false from rfl, show ((3 : Int) == 1) = false from rfl]
    repeat (first | refine ⟨rfl, ?_⟩ | refine ⟨by decide, ?_⟩ | refine ⟨⟨by decide, by decide⟩, ?_⟩ | refine ⟨decide_eq_true (by omega), ?_⟩ | refine ⟨⟨decide_eq_true (by omega), decide_eq_true (by omega)⟩, ?_⟩)
    try (first | done | decide | exact decide_eq_true (by omega) | exact ⟨decide_eq_true (by omega), decide_eq_true (by omega)⟩)
    refine .of (c_i_CellOk old) ?_
    try simp -implicitDefEqProofs (maxSteps := 1000000) only [go_sem, true_implies, false_implies]
    repeat (first | refine ⟨rfl, ?_⟩ | refine ⟨by decide, ?_⟩ | refine ⟨⟨by decide, by decide⟩, ?_⟩ | refine ⟨decide_eq_true (by omega), ?_⟩ | refine ⟨⟨decide_eq_true (by omega), decide_eq_true (by omega)⟩, ?_⟩)
    try (first | done | decide | exact decide_eq_true (by omega) | exact ⟨decide_eq_true (by omega), decide_eq_true (by omega)⟩)
    have fin0 : ∀ z, z = false → True := fun _ _ => trivial
    cases o1 : old.ok
    · try simp -implicitDefEqProofs (maxSteps := 1000000) only [go_sem, true_implies, false_implies, o1]
      repeat (first | refine ⟨rfl, ?_⟩ | refine ⟨by decide, ?_⟩ | refine ⟨⟨by decide, by decide⟩, ?_⟩ | refine ⟨decide_eq_true (by omega), ?_⟩ | refine ⟨⟨decide_eq_true (by omega), decide_eq_true (by omega)⟩, ?_⟩)
      try (first | done | decide | exact decide_eq_true (by omega) | exact ⟨decide_eq_true (by omega), decide_eq_true (by omega)⟩)
      refine .of (c_i_sameCell new ⟨0, []⟩) ?_
      try simp -implicitDefEqProofs (maxSteps := 1000000) only [go_sem, true_implies, false_implies, CellV.no, show ((1 : Int) != 2) = true from rfl, show ((1 : Int) != 1) = false from rfl, show ((1 : Int) == 1) = true from rfl, show ((1 : Int) != 3) = true from rfl, show ((2 : Int) != 2) = false from rfl, show ((2 : Int) != 1) = true from rfl, show ((2 : Int) != 3) = true from rfl, show ((3 : Int) != 2) = true from rfl, show ((3 : Int) != 1) = true from rfl, show ((3 : Int) != 3) = false from rfl, show ((3 : Int) == 1) = false from rfl, e, o1]
      repeat (first | refine ⟨rfl, ?_⟩ | refine ⟨by decide, ?_⟩ | refine ⟨⟨by decide, by decide⟩, ?_⟩ | refine ⟨decide_eq_true (by omega), ?_⟩ | refine ⟨⟨decide_eq_true (by omega), decide_eq_true (by omega)⟩, ?_⟩)
      try (first | done | decide | exact decide_eq_true (by omega) | exact ⟨decide_eq_true (by omega), decide_eq_true (by omega)⟩)
    · cases o2 : (old.Tag != 0)
      · try simp -implicitDefEqProofs (maxSteps := 1000000) only [go_sem, true_implies, false_implies, o1, o2]
        repeat (first | refine ⟨rfl, ?_⟩ | refine ⟨by decide, ?_⟩ | refine ⟨⟨by decide, by decide⟩, ?_⟩ | refine ⟨decide_eq_true (by omega), ?_⟩ | refine ⟨⟨decide_eq_true (by omega), decide_eq_true (by omega)⟩, ?_⟩)
        try (first | done | decide | exact decide_eq_true (by omega) | exact ⟨decide_eq_true (by omega), decide_eq_true (by omega)⟩)
        refine .of (c_i_sameCell new ⟨0, []⟩) ?_
        try simp -implicitDefEqProofs (maxSteps := 1000000) only [go_sem, true_implies, false_implies, CellV.no, show ((1 : Int) != 2) = true from rfl, show ((1 : Int) != 1) = false from rfl, show ((1 : Int) == 1) = true from rfl, show ((1 : Int) != 3) = true from rfl, show ((2 : Int) != 2) = false from rfl, show ((2 : Int) != 1) = true from rfl, show ((2 : Int) != 3) = true from rfl, show ((3 : Int) != 2) = true from rfl, show ((3 : Int) != 1) = true from rfl, show ((3 : Int) != 3) = false from rfl, show ((3 : Int) == 1) = false from rfl, e, o1, o2]
        repeat (first | refine ⟨rfl, ?_⟩ | refine ⟨by decide, ?_⟩ | refine ⟨⟨by decide, by decide⟩, ?_⟩ | refine ⟨decide_eq_true (by omega), ?_⟩ | refine ⟨⟨decide_eq_true (by omega), decide_eq_true (by omega)⟩, ?_⟩)
        try (first | done | decide | exact decide_eq_true (by omega) | exact ⟨decide_eq_true (by omega), decide_eq_true (by omega)⟩)
      · cases o3 : old.text.2
        · cases aside
          · try simp -implicitDefEqProofs (maxSteps := 1000000) only [go_sem, true_implies, false_implies, o1, o2, o3]
            repeat (first | refine ⟨rfl, ?_⟩ | refine ⟨by decide, ?_⟩ | refine ⟨⟨by decide, by decide⟩, ?_⟩ | refine ⟨decide_eq_true (by omega), ?_⟩ | refine ⟨⟨decide_eq_true (by omega), decide_eq_true (by omega)⟩, ?_⟩)
            try (first | done | decide | exact decide_eq_true (by omega) | exact ⟨decide_eq_true (by omega), decide_eq_true (by omega)⟩)
            refine .of (c_i_sameCell new ⟨0, []⟩) ?_
            try simp -implicitDefEqProofs (maxSteps := 1000000) only [go_sem, true_implies, false_implies, CellV.no, show ((1 : Int) != 2) = true from rfl, show ((1 : Int) != 1) = false from rfl, show ((1 : Int) == 1) = true from rfl, show ((1 : Int) != 3) = true from rfl, show ((2 : Int) != 2) = false from rfl, show ((2 : Int) != 1) = true from rfl, show ((2 : Int) != 3) = true from rfl, show ((3 : Int) != 2) = true from rfl, show ((3 : Int) != 1) = true from rfl, show ((3 : Int) != 3) = false from rfl, show ((3 : Int) == 1) = false from rfl, e, o1, o2, o3]
            repeat (first | refine ⟨rfl, ?_⟩ | refine ⟨by decide, ?_⟩ | refine ⟨⟨by decide, by decide⟩, ?_⟩ | refine ⟨decide_eq_true (by omega), ?_⟩ | refine ⟨⟨decide_eq_true (by omega), decide_eq_true (by omega)⟩, ?_⟩)
            try (first | done | decide | exact decide_eq_true (by omega) | exact ⟨decide_eq_true (by omega), decide_eq_true (by omega)⟩)
          · try simp -implicitDefEqProofs (maxSteps := 1000000) only [go_sem, true_implies, false_implies, o1, o2, o3, CellV.no, show ((1 : Int) != 2) = true from rfl, show ((1 : Int) != 1) = false from rfl, show ((1 : Int) == 1) = true from rfl, show ((1 : Int) != 3) = true from rfl, show ((2 : Int) != 2) = false from rfl, show ((2 : Int) != 1) = true from rfl, show ((2 : Int) != 3) = true from rfl, show ((3 : Int) != 2) = true from rfl, show ((3 : Int) != 1) = true from rfl, show ((3 : Int) != 3) = false from rfl, show ((3 : Int) == 1) = false from rfl]
            repeat (first | refine ⟨rfl, ?_⟩ | refine ⟨by decide, ?_⟩ | refine ⟨⟨by decide, by decide⟩, ?_⟩ | refine ⟨decide_eq_true (by omega), ?_⟩ | refine ⟨⟨decide_eq_true (by omega), decide_eq_true (by omega)⟩, ?_⟩)
            try (first | done | decide | exact decide_eq_true (by omega) | exact ⟨decide_eq_true (by omega), decide_eq_true (by omega)⟩)
            refine .of (c_i_sameCell new ⟨0, []⟩) ?_
            try simp -implicitDefEqProofs (maxSteps := 1000000) only [go_sem, true_implies, false_implies, CellV.no, show ((1 : Int) != 2) = true from rfl, show ((1 : Int) != 1) = false from rfl, show ((1 : Int) == 1) = true from rfl, show ((1 : Int) != 3) = true from rfl, show ((2 : Int) != 2) = false from rfl, show ((2 : Int) != 1) = true from rfl, show ((2 : Int) != 3) = true from rfl, show ((3 : Int) != 2) = true from rfl, show ((3 : Int) != 1) = true from rfl, show ((3 : Int) != 3) = false from rfl, show ((3 : Int) == 1) = false from rfl]
            repeat (first | refine ⟨rfl, ?_⟩ | refine ⟨by decide, ?_⟩ | refine ⟨⟨by decide, by decide⟩, ?_⟩ | refine ⟨decide_eq_true (by omega), ?_⟩ | refine ⟨⟨decide_eq_true (by omega), decide_eq_true (by omega)⟩, ?_⟩)
            try (first | done | decide | exact decide_eq_true (by omega) | exact ⟨decide_eq_true (by omega), decide_eq_true (by omega)⟩)
            cases n1 : ((new.Tag == 0) && decide (new.B = []))
            · try simp -implicitDefEqProofs (maxSteps := 1000000) only [go_sem, true_implies, false_implies, n1, CellV.no, show ((1 : Int) != 2) = true from rfl, show ((1 : Int) != 1) = false from rfl, show ((1 : Int) == 1) = true from rfl, show ((1 : Int) != 3) = true from rfl, show ((2 : Int) != 2) = false from rfl, show ((2 : Int) != 1) = true from rfl, show ((2 : Int) != 3) = true from rfl, show ((3 : Int) != 2) = true from rfl, show ((3 : Int) != 1) = true from rfl, show ((3 : Int) != 3) = false from rfl, show ((3 : Int) == 1) = false from rfl, e, o1, o2, o3]
              repeat (first | refine ⟨rfl, ?_⟩ | refine ⟨by decide, ?_⟩ | refine ⟨⟨by decide, by decide⟩, ?_⟩ | refine ⟨decide_eq_true (by omega), ?_⟩ | refine ⟨⟨decide_eq_true (by omega), decide_eq_true (by omega)⟩, ?_⟩)
              try (first | done | decide | exact decide_eq_true (by omega) | exact ⟨decide_eq_true (by omega), decide_eq_true (by omega)⟩)
            · try simp -implicitDefEqProofs (maxSteps := 1000000) only [go_sem, true_implies, false_implies, n1, CellV.no, show ((1 : Int) != 2) = true from rfl, show ((1 : Int) != 1) = false from rfl, show ((1 : Int) == 1) = true from rfl, show ((1 : Int) != 3) = true from rfl, show ((2 : Int) != 2) = false from rfl, show ((2 : Int) != 1) = true from rfl, show ((2 : Int) != 3) = true from rfl, show ((3 : Int) != 2) = true from rfl, show ((3 : Int) != 1) = true from rfl, show ((3 : Int) != 3) = false from rfl, show ((3 : Int) == 1) = false from rfl, e, o1, o2, o3]
              repeat (first | refine ⟨rfl, ?_⟩ | refine ⟨by decide, ?_⟩ | refine ⟨⟨by decide, by decide⟩, ?_⟩ | refine ⟨decide_eq_true (by omega), ?_⟩ | refine ⟨⟨decide_eq_true (by omega), decide_eq_true (by omega)⟩, ?_⟩)
              try (first | done | decide | exact decide_eq_true (by omega) | exact ⟨decide_eq_true (by omega), decide_eq_true (by omega)⟩)
        · try simp -implicitDefEqProofs (maxSteps := 1000000) only [go_sem, true_implies, false_implies, o1, o2, o3, CellV.no, show ((1 : Int) != 2) = true from rfl, show ((1 : Int) != 1) = false from rfl, show ((1 : Int) == 1) = true from rfl, show ((1 : Int) != 3) = true from rfl, show ((2 : Int) != 2) = false from rfl, show ((2 : Int) != 1) = true from rfl, show ((2 : Int) != 3) = true from rfl, show ((3 : Int) != 2) = true from rfl, show ((3 : Int) != 1) = true from rfl, show ((3 : Int) != 3) = false from rfl, show ((3 : Int) == 1) = false from rfl]
          repeat (first | refine ⟨rfl, ?_⟩ | refine ⟨by decide, ?_⟩ | refine ⟨⟨by decide, by decide⟩, ?_⟩ | refine ⟨decide_eq_true (by omega), ?_⟩ | refine ⟨⟨decide_eq_true (by omega), decide_eq_true (by omega)⟩, ?_⟩)
          try (first | done | decide | exact decide_eq_true (by omega) | exact ⟨decide_eq_true (by omega), decide_eq_true (by omega)⟩)
          refine .of (c_i_sameCell new ⟨0, []⟩) ?_
          try simp -implicitDefEqProofs (maxSteps := 1000000) only [go_sem, true_implies, false_implies, CellV.no, show ((1 : Int) != 2) = true from rfl, show ((1 : Int) != 1) = false from rfl, show ((1 : Int) == 1) = true from rfl, show ((1 : Int) != 3) = true from rfl, show ((2 : Int) != 2) = false from rfl, show ((2 : Int) != 1) = true from rfl, show ((2 : Int) != 3) = true from rfl, show ((3 : Int) != 2) = true from rfl, show ((3 : Int) != 1) = true from rfl, show ((3 : Int) != 3) = false from rfl, show ((3 : Int) == 1) = false from rfl]
          repeat (first | refine ⟨rfl, ?_⟩ | refine ⟨by decide, ?_⟩ | refine ⟨⟨by decide, by decide⟩, ?_⟩ | refine ⟨decide_eq_true (by omega), ?_⟩ | refine ⟨⟨decide_eq_true (by omega), decide_eq_true (by omega)⟩, ?_⟩)
          try (first | done | decide | exact decide_eq_true (by omega) | exact ⟨decide_eq_true (by omega), decide_eq_true (by omega)⟩)
          cases n1 : ((new.Tag == 0) && decide (new.B = []))
          · try simp -implicitDefEqProofs (maxSteps := 1000000) only [go_sem, true_implies, false_implies, n1, CellV.no, show ((1 : Int) != 2) = true from rfl, show ((1 : Int) != 1) = false from rfl, show ((1 : Int) == 1) = true from rfl, show ((1 : Int) != 3) = true from rfl, show ((2 : Int) != 2) = false from rfl, show ((2 : Int) != 1) = true from rfl, show ((2 : Int) != 3) = true from rfl, show ((3 : Int) != 2) = true from rfl, show ((3 : Int) != 1) = true from rfl, show ((3 : Int) != 3) = false from rfl, show ((3 : Int) == 1) = false from rfl, e, o1, o2, o3]
            repeat (first | refine ⟨rfl, ?_⟩ | refine ⟨by decide, ?_⟩ | refine ⟨⟨by decide, by decide⟩, ?_⟩ | refine ⟨decide_eq_true (by omega), ?_⟩ | refine ⟨⟨decide_eq_true (by omega), decide_eq_true (by omega)⟩, ?_⟩)
            try (first | done | decide | exact decide_eq_true (by omega) | exact ⟨decide_eq_true (by omega), decide_eq_true (by omega)⟩)
          · try simp -implicitDefEqProofs (maxSteps := 1000000) only [go_sem, true_implies, false_implies, n1, CellV.no, show ((1 : Int) != 2) = true from rfl, show ((1 : Int) != 1) = false from rfl, show ((1 : Int) == 1) = true from rfl, show ((1 : Int) != 3) = true from rfl, show ((2 : Int) != 2) = false from rfl, show ((2 : Int) != 1) = true from rfl, show ((2 : Int) != 3) = true from rfl, show ((3 : Int) != 2) = true from rfl, show ((3 : Int) != 1) = true from rfl, show ((3 : Int) != 3) = false from rfl, show ((3 : Int) == 1) = false from rfl, e, o1, o2, o3]
            repeat (first | refine ⟨rfl, ?_⟩ | refine ⟨by decide, ?_⟩ | refine ⟨⟨by decide, by decide⟩, ?_⟩ | refine ⟨decide_eq_true (by omega), ?_⟩ | refine ⟨⟨decide_eq_true (by omega), decide_eq_true (by omega)⟩, ?_⟩)
            try (first | done | decide | exact decide_eq_true (by omega) | exact ⟨decide_eq_true (by omega), decide_eq_true (by omega)⟩)
  · skip
    have e := rowOk_2 (o := old) (n := new) (a := aside) g1
    try simp -implicitDefEqProofs (maxSteps := 1000000) only [go_sem, true_implies, false_implies]
    repeat (first | refine ⟨rfl, ?_⟩ | refine ⟨by decide, ?_⟩ | refine ⟨⟨by decide, by decide⟩, ?_⟩ | refine ⟨decide_eq_true (by omega), ?_⟩ | refine ⟨⟨decide_eq_true (by omega), decide_eq_true (by omega)⟩, ?_⟩)
    try (first | done | decide | exact decide_eq_true (by omega) | exact ⟨decide_eq_true (by omega), decide_eq_true (by omega)⟩)
    refine .of (c_i_CellText old) ?_
    try simp -implicitDefEqProofs (maxSteps := 1000000) only [go_sem, true_implies, false_implies]
    repeat (first | refine ⟨rfl, ?_⟩ | refine ⟨by decide, ?_⟩ | refine ⟨⟨by decide, by decide⟩, ?_⟩ | refine ⟨decide_eq_true (by omega), ?_⟩ | refine ⟨⟨decide_eq_true (by omega), decide_eq_true (by omega)⟩, ?_⟩)
    try (first | done | decide | exact decide_eq_true (by omega) | exact ⟨decide_eq_true (by omega), decide_eq_true (by omega)⟩)
    refine .of (c_i_CellText new) ?_
    try simp -implicitDefEqProofs (maxSteps := 1000000) only [go_sem, true_implies, false_implies]
    repeat (first | refine ⟨rfl, ?_⟩ | refine ⟨by decide, ?_⟩ | refine ⟨⟨by decide, by decide⟩, ?_⟩ | refine ⟨decide_eq_true (by omega), ?_⟩ | refine ⟨⟨decide_eq_true (by omega), decide_eq_true (by omega)⟩, ?_⟩)
    try (first | done | decide | exact decide_eq_true (by omega) | exact ⟨decide_eq_true (by omega), decide_eq_true (by omega)⟩)
    refine .of (c_i_sameCell old ⟨0, []⟩) ?_
    try simp -implicitDefEqProofs (maxSteps := 1000000) only [go_sem, true_implies, false_implies, CellV.no, show ((1 : Int) != 2) = true from rfl, show ((1 : Int) != 1) = false from rfl, show ((1 : Int) == 1) = true from rfl, show ((1 : Int) != 3) = true from rfl, show ((2 : Int) != 2) = false from rfl, show ((2 : Int) != 1) = true from rfl, show ((2 : Int) != 3) = true from rfl, show ((3 : Int) != 2) = true from rfl, show ((3 : Int) != 1) = true from rfl, show ((3 : Int) != 3) = false from rfl, show ((3 : Int) == 1) = false from rfl]
    repeat (first | refine ⟨rfl, ?_⟩ | refine ⟨by decide, ?_⟩ | refine ⟨⟨by decide, by decide⟩, ?_⟩ | refine ⟨decide_eq_true (by omega), ?_⟩ | refine ⟨⟨decide_eq_true (by omega), decide_eq_true (by omega)⟩, ?_⟩)
    try (first | done | decide | exact decide_eq_true (by omega) | exact ⟨decide_eq_true (by omega), decide_eq_true (by omega)⟩)
    refine .of (c_i_sameCell new ⟨0, []⟩) ?_
    try simp -implicitDefEqProofs (maxSteps := 1000000) only [go_sem, true_implies, false_implies, CellV.no, show ((1 : Int) != 2) = true from rfl, show ((1 : Int) != 1) = false from rfl, show ((1 : Int) == 1) = true from rfl, show ((1 : Int) != 3) = true from rfl, show ((2 : Int) != 2) = false from rfl, show ((2 : Int) != 1) = true from rfl, show ((2 : Int) != 3) = true from rfl, show ((3 : Int) != 2) = true from rfl, show ((3 : Int) != 1) = true from rfl, show ((3 : Int) != 3) = false from rfl, show ((3 : Int) == 1) = false from rfl]
    repeat (first | refine ⟨rfl, ?_⟩ | refine ⟨by decide, ?_⟩ | refine ⟨⟨by decide, by decide⟩, ?_⟩ | refine ⟨decide_eq_true (by omega), ?_⟩ | refine ⟨⟨decide_eq_true (by omega), decide_eq_true (by omega)⟩, ?_⟩)
    try (first | done | decide | exact decide_eq_true (by omega) | exact ⟨decide_eq_true (by omega), decide_eq_true (by omega)⟩)
    cases o1 : ((old.Tag == 0) && decide (old.B = []))
    · cases n1 : (new.Tag == 0)
      · try simp -implicitDefEqProofs (maxSteps := 1000000) only [go_sem, true_implies, false_implies, o1, n1, e, CellV.no, show ((1 : Int) != 2) = true from rfl, show ((1 : Int) != 1) = false from rfl, show ((1 : Int) == 1) = true from rfl, show ((1 : Int) != 3) = true from rfl, show ((2 : Int) != 2) = false from rfl, show ((2 : Int) != 1) = true from rfl, show ((2 : Int) != 3) = true from rfl, show ((3 : Int) != 2) = true from rfl, show ((3 : Int) != 1) = true from rfl, show ((3 : Int) != 3) = false from rfl, show ((3 : Int) == 1) = false from rfl]
        repeat (first | refine ⟨rfl, ?_⟩ | refine ⟨by decide, ?_⟩ | refine ⟨⟨by decide, by decide⟩, ?_⟩ | refine ⟨decide_eq_true (by omega), ?_⟩ | refine ⟨⟨decide_eq_true (by omega), decide_eq_true (by omega)⟩, ?_⟩)
        try (first | done | decide | exact decide_eq_true (by omega) | exact ⟨decide_eq_true (by omega), decide_eq_true (by omega)⟩)
      · try simp -implicitDefEqProofs (maxSteps := 1000000) only [go_sem, true_implies, false_implies, o1, n1, e, CellV.no, show ((1 : Int) != 2) = true from rfl, show ((1 : Int) != 1) = false from rfl, show ((1 : Int) == 1) = true from rfl, show ((1 : Int) != 3) = true from rfl, show ((2 : Int) != 2) = false from rfl, show ((2 : Int) != 1) = true from rfl, show ((2 : Int) != 3) = true from rfl, show ((3 : Int) != 2) = true from rfl, show ((3 : Int) != 1) = true from rfl, show ((3 : Int) != 3) = false from rfl, show ((3 : Int) == 1) = false from rfl]
        repeat (first | refine ⟨rfl, ?_⟩ | refine ⟨by decide, ?_⟩ | refine ⟨⟨by decide, by decide⟩, ?_⟩ | refine ⟨decide_eq_true (by omega), ?_⟩ | refine ⟨⟨decide_eq_true (by omega), decide_eq_true (by omega)⟩, ?_⟩)
        try (first | done | decide | exact decide_eq_true (by omega) | exact ⟨decide_eq_true (by omega), decide_eq_true (by omega)⟩)
    · cases n1 : (new.Tag == 0)
      · try simp -implicitDefEqProofs (maxSteps := 1000000) only [go_sem, true_implies, false_implies, o1, n1, e, CellV.no, show ((1 : Int) != 2) = true from rfl, show ((1 : Int) != 1) = false from rfl, show ((1 : Int) == 1) = true from rfl, show ((1 : Int) != 3) = true from rfl, show ((2 : Int) != 2) = false from rfl, show ((2 : Int) != 1) = true from rfl, show ((2 : Int) != 3) = true from rfl, show ((3 : Int) != 2) = true from rfl, show ((3 : Int) != 1) = true from rfl, show ((3 : Int) != 3) = false from rfl, show ((3 : Int) == 1) = false from rfl]
        repeat (first | refine ⟨rfl, ?_⟩ | refine ⟨by decide, ?_⟩ | refine ⟨⟨by decide, by decide⟩, ?_⟩ | refine ⟨decide_eq_true (by omega), ?_⟩ | refine ⟨⟨decide_eq_true (by omega), decide_eq_true (by omega)⟩, ?_⟩)
        try (first | done | decide | exact decide_eq_true (by omega) | exact ⟨decide_eq_true (by omega), decide_eq_true (by omega)⟩)
      · cases n2 : new.text.2
        · try simp -implicitDefEqProofs (maxSteps := 1000000) only [go_sem, true_implies, false_implies, o1, n1, n2, e, CellV.no, show ((1 : Int) != 2) = true from rfl, show ((1 : Int) != 1) = false from rfl, show ((1 : Int) == 1) = true from rfl, show ((1 : Int) != 3) = true from rfl, show ((2 : Int) != 2) = false from rfl, show ((2 : Int) != 1) = true from rfl, show ((2 : Int) != 3) = true from rfl, show ((3 : Int) != 2) = true from rfl, show ((3 : Int) != 1) = true from rfl, show ((3 : Int) != 3) = false from rfl, show ((3 : Int) == 1) = false from rfl]
          repeat (first | refine ⟨rfl, ?_⟩ | refine ⟨by decide, ?_⟩ | refine ⟨⟨by decide, by decide⟩, ?_⟩ | refine ⟨decide_eq_true (by omega), ?_⟩ | refine ⟨⟨decide_eq_true (by omega), decide_eq_true (by omega)⟩, ?_⟩)
          try (first | done | decide | exact decide_eq_true (by omega) | exact ⟨decide_eq_true (by omega), decide_eq_true (by omega)⟩)
        · try simp -implicitDefEqProofs (maxSteps := 1000000) only [go_sem, true_implies, false_implies, o1, n1, n2, e, CellV.no, show ((1 : Int) != 2) = true from rfl, show ((1 : Int) != 1) = false from rfl, show ((1 : Int) == 1) = true from rfl, show ((1 : Int) != 3) = true from rfl, show ((2 : Int) != 2) = false from rfl, show ((2 : Int) != 1) = true from rfl, show ((2 : Int) != 3) = true from rfl, show ((3 : Int) != 2) = true from rfl, show ((3 : Int) != 1) = true from rfl, show ((3 : Int) != 3) = false from rfl, show ((3 : Int) == 1) = false from rfl]
          repeat (first | refine ⟨rfl, ?_⟩ | refine ⟨by decide, ?_⟩ | refine ⟨⟨by decide, by decide⟩, ?_⟩ | refine ⟨decide_eq_true (by omega), ?_⟩ | refine ⟨⟨decide_eq_true (by omega), decide_eq_true (by omega)⟩, ?_⟩)
          try (first | done | decide | exact decide_eq_true (by omega) | exact ⟨decide_eq_true (by omega), decide_eq_true (by omega)⟩)
  · skip
    have e := rowOk_3 (o := old) (n := new) (a := aside) g1
    try simp -implicitDefEqProofs (maxSteps := 1000000) only [go_sem, true_implies, false_implies]
    repeat (first | refine ⟨rfl, ?_⟩ | refine ⟨by decide, ?_⟩ | refine ⟨⟨by decide, by decide⟩, ?_⟩ | refine ⟨decide_eq_true (by omega), ?_⟩ | refine ⟨⟨decide_eq_true (by omega), decide_eq_true (by omega)⟩, ?_⟩)
    try (first | done | decide | exact decide_eq_true (by omega) | exact ⟨decide_eq_true (by omega), decide_eq_true (by omega)⟩)
    refine .of (c_i_CellText old) ?_
    try simp -implicitDefEqProofs (maxSteps := 1000000) only [go_sem, true_implies, false_implies]
    repeat (first | refine ⟨rfl, ?_⟩ | refine ⟨by decide, ?_⟩ | refine ⟨⟨by decide, by decide⟩, ?_⟩ | refine ⟨decide_eq_true (by omega), ?_⟩ | refine ⟨⟨decide_eq_true (by omega), decide_eq_true (by omega)⟩, ?_⟩)
    try (first | done | decide | exact decide_eq_true (by omega) | exact ⟨decide_eq_true (by omega), decide_eq_true (by omega)⟩)
    refine .of (c_i_CellText new) ?_
    try simp -implicitDefEqProofs (maxSteps := 1000000) only [go_sem, true_implies, false_implies]
    repeat (first | refine ⟨rfl, ?_⟩ | refine ⟨by decide, ?_⟩ | refine ⟨⟨by decide, by decide⟩, ?_⟩ | refine ⟨decide_eq_true (by omega), ?_⟩ | refine ⟨⟨decide_eq_true (by omega), decide_eq_true (by omega)⟩, ?_⟩)
    try (first | done | decide | exact decide_eq_true (by omega) | exact ⟨decide_eq_true (by omega), decide_eq_true (by omega)⟩)
    refine .of (c_i_sameCell old ⟨0, []⟩) ?_
    try simp -implicitDefEqProofs (maxSteps := 1000000) only [go_sem, true_implies, false_implies, CellV.no, show ((1 : Int) != 2) = true from rfl, show ((1 : Int) != 1) = false from rfl, show ((1 : Int) == 1) = true from rfl, show ((1 : Int) != 3) = true from rfl, show ((2 : Int) != 2) = false from rfl, show ((2 : Int) != 1) = true from rfl, show ((2 : Int) != 3) = true from rfl, show ((3 : Int) != 2) = true from rfl, show ((3 : Int) != 1) = true from rfl, show ((3 : Int) != 3) = false from rfl, show ((3 : Int) == 1) = false from rfl]
    repeat (first | refine ⟨rfl, ?_⟩ | refine ⟨by decide, ?_⟩ | refine ⟨⟨by decide, by decide⟩, ?_⟩ | refine ⟨decide_eq_true (by omega), ?_⟩ | refine ⟨⟨decide_eq_true (by omega), decide_eq_true (by omega)⟩, ?_⟩)
    try (first | done | decide | exact decide_eq_true (by omega) | exact ⟨decide_eq_true (by omega), decide_eq_true (by omega)⟩)
    refine .of (c_i_CellOk old) ?_
    try simp -implicitDefEqProofs (maxSteps := 1000000) only [go_sem, true_implies, false_implies]
    repeat (first | refine ⟨rfl, ?_⟩ | refine ⟨by decide, ?_⟩ | refine ⟨⟨by decide, by decide⟩, ?_⟩ | refine ⟨decide_eq_true (by omega), ?_⟩ | refine ⟨⟨decide_eq_true (by omega), decide_eq_true (by omega)⟩, ?_⟩)
    try (first | done | decide | exact decide_eq_true (by omega) | exact ⟨decide_eq_true (by omega), decide_eq_true (by omega)⟩)
    cases o1 : old.ok
    · try simp -implicitDefEqProofs (maxSteps := 1000000) only [go_sem, true_implies, false_implies, o1]
      repeat (first | refine ⟨rfl, ?_⟩ | refine ⟨by decide, ?_⟩ | refine ⟨⟨by decide, by decide⟩, ?_⟩ | refine ⟨decide_eq_true (by omega), ?_⟩ | refine ⟨⟨decide_eq_true (by omega), decide_eq_true (by omega)⟩, ?_⟩)
      try (first | done | decide | exact decide_eq_true (by omega) | exact ⟨decide_eq_true (by omega), decide_eq_true (by omega)⟩)
      refine .of (c_i_sameCell new ⟨0, []⟩) ?_
      try simp -implicitDefEqProofs (maxSteps := 1000000) only [go_sem, true_implies, false_implies, CellV.no, show ((1 : Int) != 2) = true from rfl, show ((1 : Int) != 1) = false from rfl, show ((1 : Int) == 1) = true from rfl, show ((1 : Int) != 3) = true from rfl, show ((2 : Int) != 2) = false from rfl, show ((2 : Int) != 1) = true from rfl, show ((2 : Int) != 3) = true from rfl, show ((3 : Int) != 2) = true from rfl, show ((3 : Int) != 1) = true from rfl, show ((3 : Int) != 3) = false from rfl, show ((3 : Int) == 1) = false from rfl]
      repeat (first | refine ⟨rfl, ?_⟩ | refine ⟨by decide, ?_⟩ | refine ⟨⟨by decide, by decide⟩, ?_⟩ | refine ⟨decide_eq_true (by omega), ?_⟩ | refine ⟨⟨decide_eq_true (by omega), decide_eq_true (by omega)⟩, ?_⟩)
      try (first | done | decide | exact decide_eq_true (by omega) | exact ⟨decide_eq_true (by omega), decide_eq_true (by omega)⟩)
      cases n1 : (new.Tag == 0)
      · try simp -implicitDefEqProofs (maxSteps := 1000000) only [go_sem, true_implies, false_implies, n1, CellV.no, show ((1 : Int) != 2) = true from rfl, show ((1 : Int) != 1) = false from rfl, show ((1 : Int) == 1) = true from rfl, show ((1 : Int) != 3) = true from rfl, show ((2 : Int) != 2) = false from rfl, show ((2 : Int) != 1) = true from rfl, show ((2 : Int) != 3) = true from rfl, show ((3 : Int) != 2) = true from rfl, show ((3 : Int) != 1) = true from rfl, show ((3 : Int) != 3) = false from rfl, show ((3 : Int) == 1) = false from rfl, e, o1]
        repeat (first | refine ⟨rfl, ?_⟩ | refine ⟨by decide, ?_⟩ | refine ⟨⟨by decide, by decide⟩, ?_⟩ | refine ⟨decide_eq_true (by omega), ?_⟩ | refine ⟨⟨decide_eq_true (by omega), decide_eq_true (by omega)⟩, ?_⟩)
        try (first | done | decide | exact decide_eq_true (by omega) | exact ⟨decide_eq_true (by omega), decide_eq_true (by omega)⟩)
      · try simp -implicitDefEqProofs (maxSteps := 1000000) only [go_sem, true_implies, false_implies, n1, CellV.no, show ((1 : Int) != 2) = true from rfl, show ((1 : Int) != 1) = false from rfl, show ((1 : Int) == 1) = true from rfl, show ((1 : Int) != 3) = true from rfl, show ((2 : Int) != 2) = false from rfl, show ((2 : Int) != 1) = true from rfl, show ((2 : Int) != 3) = true from rfl, show ((3 : Int) != 2) = true from rfl, show ((3 : Int) != 1) = true from rfl, show ((3 : Int) != 3) = false from rfl, show ((3 : Int) == 1) = false from rfl, e, o1]
        repeat (first | refine ⟨rfl, ?_⟩ | refine ⟨by decide, ?_⟩ | refine ⟨⟨by decide, by decide⟩, ?_⟩ | refine ⟨decide_eq_true (by omega), ?_⟩ | refine ⟨⟨decide_eq_true (by omega), decide_eq_true (by omega)⟩, ?_⟩)
        try (first | done | decide | exact decide_eq_true (by omega) | exact ⟨decide_eq_true (by omega), decide_eq_true (by omega)⟩)
    · cases o2 : (old.Tag != 0)
      · try simp -implicitDefEqProofs (maxSteps := 1000000) only [go_sem, true_implies, false_implies, o1, o2]
        repeat (first | refine ⟨rfl, ?_⟩ | refine ⟨by decide, ?_⟩ | refine ⟨⟨by decide, by decide⟩, ?_⟩ | refine ⟨decide_eq_true (by omega), ?_⟩ | refine ⟨⟨decide_eq_true (by omega), decide_eq_true (by omega)⟩, ?_⟩)
        try (first | done | decide | exact decide_eq_true (by omega) | exact ⟨decide_eq_true (by omega), decide_eq_true (by omega)⟩)
        refine .of (c_i_sameCell new ⟨0, []⟩) ?_
        try simp -implicitDefEqProofs (maxSteps := 1000000) only [go_sem, true_implies, false_implies, CellV.no, show ((1 : Int) != 2) = true from rfl, show ((1 : Int) != 1) = false from rfl, show ((1 : Int) == 1) = true from rfl, show ((1 : Int) != 3) = true from rfl, show ((2 : Int) != 2) = false from rfl, show ((2 : Int) != 1) = true from rfl, show ((2 : Int) != 3) = true from rfl, show ((3 : Int) != 2) = true from rfl, show ((3 : Int) != 1) = true from rfl, show ((3 : Int) != 3) = false from rfl, show ((3 : Int) == 1) = false from rfl]
        repeat (first | refine ⟨rfl, ?_⟩ | refine ⟨by decide, ?_⟩ | refine ⟨⟨by decide, by decide⟩, ?_⟩ | refine ⟨decide_eq_true (by omega), ?_⟩ | refine ⟨⟨decide_eq_true (by omega), decide_eq_true (by omega)⟩, ?_⟩)
        try (first | done | decide | exact decide_eq_true (by omega) | exact ⟨decide_eq_true (by omega), decide_eq_true (by omega)⟩)
        cases n1 : (new.Tag == 0)
        · try simp -implicitDefEqProofs (maxSteps := 1000000) only [go_sem, true_implies, false_implies, n1, CellV.no, show ((1 : Int) != 2) = true from rfl, show ((1 : Int) != 1) = false from rfl, show ((1 : Int) == 1) = true from rfl, show ((1 : Int) != 3) = true from rfl, show ((2 : Int) != 2) = false from rfl, show ((2 : Int) != 1) = true from rfl, show ((2 : Int) != 3) = true from rfl, show ((3 : Int) != 2) = true from rfl, show ((3 : Int) != 1) = true from rfl, show ((3 : Int) != 3) = false from rfl, show ((3 : Int) == 1) = false from rfl, e, o1, o2]
          repeat (first | refine ⟨rfl, ?_⟩ | refine ⟨by decide, ?_⟩ | refine ⟨⟨by decide, by decide⟩, ?_⟩ | refine ⟨decide_eq_true (by omega), ?_⟩ | refine ⟨⟨decide_eq_true (by omega), decide_eq_true (by omega)⟩, ?_⟩)
          try (first | done | decide | exact decide_eq_true (by omega) | exact ⟨decide_eq_true (by omega), decide_eq_true (by omega)⟩)
        · try simp -implicitDefEqProofs (maxSteps := 1000000) only [go_sem, true_implies, false_implies, n1, CellV.no, show ((1 : Int) != 2) = true from rfl, show ((1 : Int) != 1) = false from rfl, show ((1 : Int) == 1) = true from rfl, show ((1 : Int) != 3) = true from rfl, show ((2 : Int) != 2) = false from rfl, show ((2 : Int) != 1) = true from rfl, show ((2 : Int) != 3) = true from rfl, show ((3 : Int) != 2) = true from rfl, show ((3 : Int) != 1) = true from rfl, show ((3 : Int) != 3) = false from rfl, show ((3 : Int) == 1) = false from rfl, e, o1, o2]
          repeat (first | refine ⟨rfl, ?_⟩ | refine ⟨by decide, ?_⟩ | refine ⟨⟨by decide, by decide⟩, ?_⟩ | refine ⟨decide_eq_true (by omega), ?_⟩ | refine ⟨⟨decide_eq_true (by omega), decide_eq_true (by omega)⟩, ?_⟩)
          try (first | done | decide | exact decide_eq_true (by omega) | exact ⟨decide_eq_true (by omega), decide_eq_true (by omega)⟩)
      · cases o3 : old.text.2
        · cases aside
          · try simp -implicitDefEqProofs (maxSteps := 1000000) only [go_sem, true_implies, false_implies, o1, o2, o3, CellV.no, show ((1 : Int) != 2) = true from rfl, show ((1 : Int) != 1) = false from rfl, show ((1 : Int) == 1) = true from rfl, show ((1 : Int) != 3) = true from rfl, show ((2 : Int) != 2) = false from rfl, show ((2 : Int) != 1) = true from rfl, show ((2 : Int) != 3) = true from rfl, show ((3 : Int) != 2) = true from rfl, show ((3 : Int) != 1) = true from rfl, show ((3 : Int) != 3) = false from rfl, show ((3 : Int) == 1) = false from rfl]
            repeat (first | refine ⟨rfl, ?_⟩ | refine ⟨by decide, ?_⟩ | refine ⟨⟨by decide, by decide⟩, ?_⟩ | refine ⟨decide_eq_true (by omega), ?_⟩ | refine ⟨⟨decide_eq_true (by omega), decide_eq_true (by omega)⟩, ?_⟩)
            try (first | done | decide | exact decide_eq_true (by omega) | exact ⟨decide_eq_true (by omega), decide_eq_true (by omega)⟩)
            refine .of (c_i_sameCell new ⟨0, []⟩) ?_
            try simp -implicitDefEqProofs (maxSteps := 1000000) only [go_sem, true_implies, false_implies, CellV.no, show ((1 : Int) != 2) = true from rfl, show ((1 : Int) != 1) = false from rfl, show ((1 : Int) == 1) = true from rfl, show ((1 : Int) != 3) = true from rfl, show ((2 : Int) != 2) = false from rfl, show ((2 : Int) != 1) = true from rfl, show ((2 : Int) != 3) = true from rfl, show ((3 : Int) != 2) = true from rfl, show ((3 : Int) != 1) = true from rfl, show ((3 : Int) != 3) = false from rfl, show ((3 : Int) == 1) = false from rfl]
            repeat (first | refine ⟨rfl, ?_⟩ | refine ⟨by decide, ?_⟩ | refine ⟨⟨by decide, by decide⟩, ?_⟩ | refine ⟨decide_eq_true (by omega), ?_⟩ | refine ⟨⟨decide_eq_true (by omega), decide_eq_true (by omega)⟩, ?_⟩)
            try (first | done | decide | exact decide_eq_true (by omega) | exact ⟨decide_eq_true (by omega), decide_eq_true (by omega)⟩)
            cases n1 : (new.Tag == 0)
            · try simp -implicitDefEqProofs (maxSteps := 1000000) only [go_sem, true_implies, false_implies, n1, CellV.no, show ((1 : Int) != 2) = true from rfl, show ((1 : Int) != 1) = false from rfl, show ((1 : Int) == 1) = true from rfl, show ((1 : Int) != 3) = true from rfl, show ((2 : Int) != 2) = false from rfl, show ((2 : Int) != 1) = true from rfl, show ((2 : Int) != 3) = true from rfl, show ((3 : Int) != 2) = true from rfl, show ((3 : Int) != 1) = true from rfl, show ((3 : Int) != 3) = false from rfl, show ((3 : Int) == 1) = false from rfl, e, o1, o2, o3]
              repeat (first | refine ⟨rfl, ?_⟩ | refine ⟨by decide, ?_⟩ | refine ⟨⟨by decide, by decide⟩, ?_⟩ | refine ⟨decide_eq_true (by omega), ?_⟩ | refine ⟨⟨decide_eq_true (by omega), decide_eq_true (by omega)⟩, ?_⟩)
              try (first | done | decide | exact decide_eq_true (by omega) | exact ⟨decide_eq_true (by omega), decide_eq_true (by omega)⟩)
            · try simp -implicitDefEqProofs (maxSteps := 1000000) only [go_sem, true_implies, false_implies, n1, CellV.no, show ((1 : Int) != 2) = true from rfl, show ((1 : Int) != 1) = false from rfl, show ((1 : Int) == 1) = true from rfl, show ((1 : Int) != 3) = true from rfl, show ((2 : Int) != 2) = false from rfl, show ((2 : Int) != 1) = true from rfl, show ((2 : Int) != 3) = true from rfl, show ((3 : Int) != 2) = true from rfl, show ((3 : Int) != 1) = true from rfl, show ((3 : Int) != 3) = false from rfl, show ((3 : Int) == 1) = false from rfl, e, o1, o2, o3]
              repeat (first | refine ⟨rfl, ?_⟩ | refine ⟨by decide, ?_⟩ | refine ⟨⟨by decide, by decide⟩, ?_⟩ | refine ⟨decide_eq_true (by omega), ?_⟩ | refine ⟨⟨decide_eq_true (by omega), decide_eq_true (by omega)⟩, ?_⟩)
              try (first | done | decide | exact decide_eq_true (by omega) | exact ⟨decide_eq_true (by omega), decide_eq_true (by omega)⟩)
          · try simp -implicitDefEqProofs (maxSteps := 1000000) only [go_sem, true_implies, false_implies, o1, o2, o3, CellV.no, show ((1 : Int) != 2) = true from rfl, show ((1 : Int) != 1) = false from rfl, show ((1 : Int) == 1) = true from rfl, show ((1 : Int) != 3) = true from rfl, show ((2 : Int) != 2) = false from rfl, show ((2 : Int) != 1) = true from rfl, show ((2 : Int) != 3) = true from rfl, show ((3 : Int) != 2) = true from rfl, show ((3 : Int) != 1) = true from rfl, show ((3 : Int) != 3) = false from rfl, show ((3 : Int) == 1) = false from rfl]
            repeat (first | refine ⟨rfl, ?_⟩ | refine ⟨by decide, ?_⟩ | refine ⟨⟨by decide, by decide⟩, ?_⟩ | refine ⟨decide_eq_true (by omega), ?_⟩ | refine ⟨⟨decide_eq_true (by omega), decide_eq_true (by omega)⟩, ?_⟩)
            try (first | done | decide | exact decide_eq_true (by omega) | exact ⟨decide_eq_true (by omega), decide_eq_true (by omega)⟩)
            refine .of (c_i_sameCell new ⟨0, []⟩) ?_
            try simp -implicitDefEqProofs (maxSteps := 1000000) only [go_sem, true_implies, false_implies, CellV.no, show ((1 : Int) != 2) = true from rfl, show ((1 : Int) != 1) = false from rfl, show ((1 : Int) == 1) = true from rfl, show ((1 : Int) != 3) = true from rfl, show ((2 : Int) != 2) = false from rfl, show ((2 : Int) != 1) = true from rfl, show ((2 : Int) != 3) = true from rfl, show ((3 : Int) != 2) = true from rfl, show ((3 : Int) != 1) = true from rfl, show ((3 : Int) != 3) = false from rfl, show ((3 : Int) == 1) = false from rfl]
            repeat (first | refine ⟨rfl, ?_⟩ | refine ⟨by decide, ?_⟩ | refine ⟨⟨by decide, by decide⟩, ?_⟩ | refine ⟨decide_eq_true (by omega), ?_⟩ | refine ⟨⟨decide_eq_true (by omega), decide_eq_true (by omega)⟩, ?_⟩)
            try (first | done | decide | exact decide_eq_true (by omega) | exact ⟨decide_eq_true (by omega), decide_eq_true (by omega)⟩)
            cases n1 : (new.Tag == 0)
            · try simp -implicitDefEqProofs (maxSteps := 1000000) only [go_sem, true_implies, false_implies, n1, CellV.no, show ((1 : Int) != 2) = true from rfl, show ((1 : Int) != 1) = false from rfl, show ((1 : Int) == 1) = true from rfl, show ((1 : Int) != 3) = true from rfl, show ((2 : Int) != 2) = false from rfl, show ((2 : Int) != 1) = true from rfl, show ((2 : Int) != 3) = true from rfl, show ((3 : Int) != 2) = true from rfl, show ((3 : Int) != 1) = true from rfl, show ((3 : Int) != 3) = false from rfl, show ((3 : Int) == 1) = false from rfl, e, o1, o2, o3]
              repeat (first | refine ⟨rfl, ?_⟩ | refine ⟨by decide, ?_⟩ | refine ⟨⟨by decide, by decide⟩, ?_⟩ | refine ⟨decide_eq_true (by omega), ?_⟩ | refine ⟨⟨decide_eq_true (by omega), decide_eq_true (by omega)⟩, ?_⟩)
              try (first | done | decide | exact decide_eq_true (by omega) | exact ⟨decide_eq_true (by omega), decide_eq_true (by omega)⟩)
            · try simp -implicitDefEqProofs (maxSteps := 1000000) only [go_sem, true_implies, false_implies, n1, CellV.no, show ((1 : Int) != 2) = true from rfl, show ((1 : Int) != 1) = false from rfl, show ((1 : Int) == 1) = true from rfl, show ((1 : Int) != 3) = true from rfl, show ((2 : Int) != 2) = false from rfl, show ((2 : Int) != 1) = true from rfl, show ((2 : Int) != 3) = true from rfl, show ((3 : Int) != 2) = true from rfl, show ((3 : Int) != 1) = true from rfl, show ((3 : Int) != 3) = false from rfl, show ((3 : Int) == 1) = false from rfl, e, o1, o2, o3]
              repeat (first | refine ⟨rfl, ?_⟩ | refine ⟨by decide, ?_⟩ | refine ⟨⟨by decide, by decide⟩, ?_⟩ | refine ⟨decide_eq_true (by omega), ?_⟩ | refine ⟨⟨decide_eq_true (by omega), decide_eq_true (by omega)⟩, ?_⟩)
              try (first | done | decide | exact decide_eq_true (by omega) | exact ⟨decide_eq_true (by omega), decide_eq_true (by omega)⟩)
        · try simp -implicitDefEqProofs (maxSteps := 1000000) only [go_sem, true_implies, false_implies, o1, o2, o3, CellV.no, show ((1 : Int) != 2) = true from rfl, show ((1 : Int) != 1) = false from rfl, show ((1 : Int) == 1) = true from rfl, show ((1 : Int) != 3) = true from rfl, show ((2 : Int) != 2) = false from rfl, show ((2 : Int) != 1) = true from rfl, show ((2 : Int) != 3) = true from rfl, show ((3 : Int) != 2) = true from rfl, show ((3 : Int) != 1) = true from rfl, show ((3 : Int) != 3) = false from rfl, show ((3 : Int) == 1) = false from rfl]
          repeat (first | refine ⟨rfl, ?_⟩ | refine ⟨by decide, ?_⟩ | refine ⟨⟨by decide, by decide⟩, ?_⟩ | refine ⟨decide_eq_true (by omega), ?_⟩ | refine ⟨⟨decide_eq_true (by omega), decide_eq_true (by omega)⟩, ?_⟩)
          try (first | done | decide | exact decide_eq_true (by omega) | exact ⟨decide_eq_true (by omega), decide_eq_true (by omega)⟩)
          refine .of (c_i_sameCell new ⟨0, []⟩) ?_
          try simp -implicitDefEqProofs (maxSteps := 1000000) only [go_sem, true_implies, false_implies, CellV.no, show ((1 : Int) != 2) = true from rfl, show ((1 : Int) != 1) = false from rfl, show ((1 : Int) == 1) = true from rfl, show ((1 : Int) != 3) = true from rfl, show ((2 : Int) != 2) = false from rfl, show ((2 : Int) != 1) = true from rfl, show ((2 : Int) != 3) = true from rfl, show ((3 : Int) != 2) = true from rfl, show ((3 : Int) != 1) = true from rfl, show ((3 : Int) != 3) = false from rfl, show ((3 : Int) == 1) = false from rfl]
          repeat (first | refine ⟨rfl, ?_⟩ | refine ⟨by decide, ?_⟩ | refine ⟨⟨by decide, by decide⟩, ?_⟩ | refine ⟨decide_eq_true (by omega), ?_⟩ | refine ⟨⟨decide_eq_true (by omega), decide_eq_true (by omega)⟩, ?_⟩)
          try (first | done | decide | exact decide_eq_true (by omega) | exact ⟨decide_eq_true (by omega), decide_eq_true (by omega)⟩)
          cases n1 : (new.Tag == 0)
          · try simp -implicitDefEqProofs (maxSteps := 1000000) only [go_sem, true_implies, false_implies, n1, CellV.no, show ((1 : Int) != 2) = true from rfl, show ((1 : Int) != 1) = false from rfl, show ((1 : Int) == 1) = true from rfl, show ((1 : Int) != 3) = true from rfl, show ((2 : Int) != 2) = false from rfl, show ((2 : Int) != 1) = true from rfl, show ((2 : Int) != 3) = true from rfl, show ((3 : Int) != 2) = true from rfl, show ((3 : Int) != 1) = true from rfl, show ((3 : Int) != 3) = false from rfl, show ((3 : Int) == 1) = false from rfl, e, o1, o2, o3]
            repeat (first | refine ⟨rfl, ?_⟩ | refine ⟨by decide, ?_⟩ | refine ⟨⟨by decide, by decide⟩, ?_⟩ | refine ⟨decide_eq_true (by omega), ?_⟩ | refine ⟨⟨decide_eq_true (by omega), decide_eq_true (by omega)⟩, ?_⟩)
            try (first | done | decide | exact decide_eq_true (by omega) | exact ⟨decide_eq_true (by omega), decide_eq_true (by omega)⟩)
          · cases n2 : new.text.2
            · try simp -implicitDefEqProofs (maxSteps := 1000000) only [go_sem, true_implies, false_implies, n1, n2, CellV.no, show ((1 : Int) != 2) = true from rfl, show ((1 : Int) != 1) = false from rfl, show ((1 : Int) == 1) = true from rfl, show ((1 : Int) != 3) = true from rfl, show ((2 : Int) != 2) = false from rfl, show ((2 : Int) != 1) = true from rfl, show ((2 : Int) != 3) = true from rfl, show ((3 : Int) != 2) = true from rfl, show ((3 : Int) != 1) = true from rfl, show ((3 : Int) != 3) = false from rfl, show ((3 : Int) == 1) = false from rfl, e, o1, o2, o3]
              repeat (first | refine ⟨rfl, ?_⟩ | refine ⟨by decide, ?_⟩ | refine ⟨⟨by decide, by decide⟩, ?_⟩ | refine ⟨decide_eq_true (by omega), ?_⟩ | refine ⟨⟨decide_eq_true (by omega), decide_eq_true (by omega)⟩, ?_⟩)
              try (first | done | decide | exact decide_eq_true (by omega) | exact ⟨decide_eq_true (by omega), decide_eq_true (by omega)⟩)
            · try simp -implicitDefEqProofs (maxSteps := 1000000) only [go_sem, true_implies, false_implies, n1, n2, CellV.no, show ((1 : Int) != 2) = true from rfl, show ((1 : Int) != 1) = false from rfl, show ((1 : Int) == 1) = true from rfl, show ((1 : Int) != 3) = true from rfl, show ((2 : Int) != 2) = false from rfl, show ((2 : Int) != 1) = true from rfl, show ((2 : Int) != 3) = true from rfl, show ((3 : Int) != 2) = true from rfl, show ((3 : Int) != 1) = true from rfl, show ((3 : Int) != 3) = false from rfl, show ((3 : Int) == 1) = false from rfl]
              repeat (first | refine ⟨rfl, ?_⟩ | refine ⟨by decide, ?_⟩ | refine ⟨⟨by decide, by decide⟩, ?_⟩ | refine ⟨decide_eq_true (by omega), ?_⟩ | refine ⟨⟨decide_eq_true (by omega), decide_eq_true (by omega)⟩, ?_⟩)
              try (first | done | decide | exact decide_eq_true (by omega) | exact ⟨decide_eq_true (by omega), decide_eq_true (by omega)⟩)
              refine .of (c_i_SameText old new) ?_
              try simp -implicitDefEqProofs (maxSteps := 1000000) only [go_sem, true_implies, false_implies, e, o1, o2, o3, n1, n2]
              repeat (first | refine ⟨rfl, ?_⟩ | refine ⟨by decide, ?_⟩ | refine ⟨⟨by decide, by decide⟩, ?_⟩ | refine ⟨decide_eq_true (by omega), ?_⟩ | refine ⟨⟨decide_eq_true (by omega), decide_eq_true (by omega)⟩, ?_⟩)
              try (first | done | decide | exact decide_eq_true (by omega) | exact ⟨decide_eq_true (by omega), decide_eq_true (by omega)⟩)
def x_s_RowOk : FnX := ⟨106, [.tmp 2],
  .seq (.reg [⟨none, some 1, 1, .box (.t 0)⟩,
   ⟨none, some 2, 2, .mv (.k (.one (.pv (.bool false))))⟩])
 (.seq (.seq (.reg [⟨none, some 7, 7, .faddr (.t 1) 0⟩,
   ⟨none, some 8, 8, .load none (.t 7)⟩,
   ⟨none, some 9, 9, .call 45 [0] [(.t 8)]⟩,
   ⟨none, some 10, 10, .not (.t 9)⟩,
   ⟨none, some 11, 11, .mv (.t 10)⟩,
   ⟨(some (11, false)), some 12, 12, .faddr (.t 1) 5⟩,
   ⟨(some (11, false)), some 13, 13, .load none (.t 12)⟩,
   ⟨(some (11, false)), some 14, 14, .call 11 [0, 0, 0] [(.t 13), (.k (.one (.pv (.int .i64 1)))), (.k (.one (.pv (.int .i64 3))))]⟩,
   ⟨(some (11, false)), some 15, 15, .not (.t 14)⟩,
   ⟨none, some 16, 16, .pick (.t 11) (.k (.one (.pv (.bool true)))) (.t 15)⟩,
   ⟨none, some 17, 17, .mv (.t 16)⟩,
   ⟨(some (17, false)), some 18, 18, .load (some 7) (.t 1)⟩,
   ⟨(some (17, false)), some 19, 19, .call 46 [0] [(.t 18)]⟩,
   ⟨(some (17, false)), some 20, 20, .not (.t 19)⟩,
   ⟨(some (17, false)), some 21, 21, .mv (.t 20)⟩,
   ⟨(some (21, true)), some 22, 22, .faddr (.t 1) 1⟩,
   ⟨(some (21, true)), some 23, 23, .load (some 2) (.t 22)⟩,
   ⟨(some (21, true)), some 24, 24, .call 47 [0] [(.t 23)]⟩,
   ⟨(some (21, true)), some 25, 25, .not (.t 24)⟩,
   ⟨(some (17, false)), some 26, 26, .pick (.t 21) (.t 25) (.k (.one (.pv (.bool false))))⟩,
   ⟨none, some 27, 27, .pick (.t 17) (.k (.one (.pv (.bool true)))) (.t 26)⟩,
   ⟨none, some 28, 28, .mv (.t 27)⟩,
   ⟨(some (28, false)), some 29, 29, .load (some 7) (.t 1)⟩,
   ⟨(some (28, false)), some 30, 30, .call 48 [0] [(.t 29)]⟩,
   ⟨(some (28, false)), some 31, 31, .not (.t 30)⟩,
   ⟨(some (28, false)), some 32, 32, .mv (.t 31)⟩,
   ⟨(some (32, true)), some 33, 33, .faddr (.t 1) 3⟩,
   ⟨(some (32, true)), some 34, 34, .load (some 2) (.t 33)⟩,
   ⟨(some (32, true)), some 35, 35, .call 47 [0] [(.t 34)]⟩,
   ⟨(some (32, true)), some 36, 36, .not (.t 35)⟩,
   ⟨(some (28, false)), some 37, 37, .pick (.t 32) (.t 36) (.k (.one (.pv (.bool false))))⟩,
   ⟨none, some 38, 38, .pick (.t 28) (.k (.one (.pv (.bool true)))) (.t 37)⟩])
 (.cond 38 (.seq (.reg [⟨none, some 2, 2, .mv (.k (.one (.pv (.bool false))))⟩])
 (.ret)) (.skip)))
 (.seq (.reg [⟨none, some 40, 40, .faddr (.t 1) 1⟩,
   ⟨none, some 41, 41, .load (some 2) (.t 40)⟩,
   ⟨none, some 42, 42, .call 49 [0] [(.t 41)]⟩,
   ⟨none, some 39, 39, .mv (.t 42)⟩,
   ⟨none, some 43, 43, .ext (.t 39) 0⟩,
   ⟨none, some 44, 44, .ext (.t 39) 1⟩,
   ⟨none, some 3, 3, .mv (.t 43)⟩,
   ⟨none, some 4, 4, .mv (.t 44)⟩])
 (.seq (.reg [⟨none, some 46, 46, .faddr (.t 1) 3⟩,
   ⟨none, some 47, 47, .load (some 2) (.t 46)⟩,
   ⟨none, some 48, 48, .call 49 [0] [(.t 47)]⟩,
   ⟨none, some 45, 45, .mv (.t 48)⟩,
   ⟨none, some 49, 49, .ext (.t 45) 0⟩,
   ⟨none, some 50, 50, .ext (.t 45) 1⟩,
   ⟨none, some 5, 5, .mv (.t 49)⟩,
   ⟨none, some 6, 6, .mv (.t 50)⟩])
 (.seq (.block 0 (.seq (.reg [⟨none, some 52, 52, .load (some 7) (.t 1)⟩,
   ⟨none, some 53, 53, .call 46 [0] [(.t 52)]⟩,
   ⟨none, some 54, 54, .mv (.t 53)⟩,
   ⟨(some (54, true)), some 55, 55, .faddr (.t 1) 1⟩,
   ⟨(some (54, true)), some 56, 56, .faddr (.t 55) 0⟩,
   ⟨(some (54, true)), some 57, 57, .load none (.t 56)⟩,
   ⟨(some (54, true)), some 58, 58, .call 11 [0, 0, 0] [(.t 57), (.k (.one (.pv (.int .i64 1)))), (.k (.one (.pv (.int .i64 5))))]⟩,
   ⟨(some (54, true)), some 59, 59, .not (.t 58)⟩,
   ⟨(some (54, true)), some 60, 60, .mv (.t 59)⟩,
   ⟨(some (60, false)), some 61, 61, .faddr (.t 1) 1⟩,
   ⟨(some (60, false)), some 62, 62, .load (some 2) (.t 61)⟩,
   ⟨(some (60, false)), some 63, 63, .call 50 [0] [(.t 62)]⟩,
   ⟨(some (60, false)), some 64, 64, .not (.t 63)⟩,
   ⟨(some (54, true)), some 65, 65, .pick (.t 60) (.k (.one (.pv (.bool true)))) (.t 64)⟩,
   ⟨none, some 66, 66, .pick (.t 54) (.t 65) (.k (.one (.pv (.bool false))))⟩,
   ⟨none, some 51, 51, .mv (.t 66)⟩])
 (.cond 51 (.seq (.reg [⟨none, some 2, 2, .mv (.k (.one (.pv (.bool false))))⟩])
 (.ret)) (.seq (.reg [⟨none, some 68, 68, .load (some 7) (.t 1)⟩,
   ⟨none, some 69, 69, .call 48 [0] [(.t 68)]⟩,
   ⟨none, some 70, 70, .mv (.t 69)⟩,
   ⟨(some (70, true)), some 71, 71, .faddr (.t 1) 3⟩,
   ⟨(some (70, true)), some 72, 72, .faddr (.t 71) 0⟩,
   ⟨(some (70, true)), some 73, 73, .load none (.t 72)⟩,
   ⟨(some (70, true)), some 74, 74, .bin .neq (.t 73) (.k (.one (.pv (.int .i64 0))))⟩,
   ⟨(some (70, true)), some 75, 75, .mv (.t 74)⟩,
   ⟨(some (75, false)), some 76, 76, .mv (.t 6)⟩,
   ⟨(some (75, false)), some 77, 77, .not (.t 76)⟩,
   ⟨(some (70, true)), some 78, 78, .pick (.t 75) (.k (.one (.pv (.bool true)))) (.t 77)⟩,
   ⟨none, some 79, 79, .pick (.t 70) (.t 78) (.k (.one (.pv (.bool false))))⟩,
   ⟨none, some 67, 67, .mv (.t 79)⟩])
 (.cond 67 (.seq (.reg [⟨none, some 2, 2, .mv (.k (.one (.pv (.bool false))))⟩])
 (.ret)) (.seq (.reg [⟨none, some 81, 81, .load (some 7) (.t 1)⟩,
   ⟨none, some 82, 82, .call 46 [0] [(.t 81)]⟩,
   ⟨none, some 83, 83, .mv (.t 82)⟩,
   ⟨(some (83, true)), some 84, 84, .mv (.t 4)⟩,
   ⟨(some (83, true)), some 85, 85, .not (.t 84)⟩,
   ⟨none, some 86, 86, .pick (.t 83) (.t 85) (.k (.one (.pv (.bool false))))⟩,
   ⟨none, some 87, 87, .mv (.t 86)⟩,
   ⟨(some (87, true)), some 88, 88, .faddr (.t 1) 6⟩,
   ⟨(some (87, true)), some 89, 89, .load none (.t 88)⟩,
   ⟨(some (87, true)), some 90, 90, .not (.t 89)⟩,
   ⟨(some (87, true)), some 91, 91, .mv (.t 90)⟩,
   ⟨(some (91, false)), some 92, 92, .load (some 7) (.t 1)⟩,
   ⟨(some (91, false)), some 93, 93, .call 48 [0] [(.t 92)]⟩,
   ⟨(some (87, true)), some 94, 94, .pick (.t 91) (.k (.one (.pv (.bool true)))) (.t 93)⟩,
   ⟨none, some 95, 95, .pick (.t 87) (.t 94) (.k (.one (.pv (.bool false))))⟩,
   ⟨none, some 80, 80, .mv (.t 95)⟩])
 (.cond 80 (.seq (.reg [⟨none, some 2, 2, .mv (.k (.one (.pv (.bool false))))⟩])
 (.ret)) (.skip))))))))
 (.seq (.reg [⟨none, some 96, 96, .faddr (.t 1) 5⟩,
   ⟨none, some 97, 97, .load none (.t 96)⟩,
   ⟨none, some 98, 98, .bin .neq (.t 97) (.k (.one (.pv (.int .i64 3))))⟩,
   ⟨none, some 99, 99, .mv (.t 98)⟩,
   ⟨(some (99, false)), some 100, 100, .faddr (.t 1) 1⟩,
   ⟨(some (99, false)), some 101, 101, .load (some 2) (.t 100)⟩,
   ⟨(some (99, false)), some 102, 102, .faddr (.t 1) 3⟩,
   ⟨(some (99, false)), some 103, 103, .load (some 2) (.t 102)⟩,
   ⟨(some (99, false)), some 104, 104, .call 51 [0, 0] [(.t 101), (.t 103)]⟩,
   ⟨none, some 105, 105, .pick (.t 99) (.k (.one (.pv (.bool true)))) (.t 104)⟩,
   ⟨none, some 2, 2, .mv (.t 105)⟩])
 (.ret))))))⟩
abbrev C_s_RowOk (Te : Nat → List AV → Res → Prop) : Prop := ∀ (r : RowV) (h : r.In (2 ^ 48)), Te 30 [.agg (r.enc false)] ⟨[.one (bT r.ok)], [r.enc false]⟩
theorem r_s_RowOk {Te : Nat → List AV → Res → Prop} (c_s_NameOk : C_s_NameOk Te) (c_s_l1In : C_s_l1In Te) (c_s_l9Old : C_s_l9Old Te) (c_s_l9None : C_s_l9None Te) (c_s_l9New : C_s_l9New Te) (c_s_CellText : C_s_CellText Te) (c_s_CellOk : C_s_CellOk Te) (c_s_SameText : C_s_SameText Te) : ∀ (r : RowV) (h : r.In (2 ^ 48)), RunFn Te x_s_RowOk [.agg (r.enc false)] ⟨[.one (bT r.ok)], [r.enc false]⟩ := by
  intro r h
  refine ⟨by simp -implicitDefEqProofs (maxSteps := 1000000) only [x_s_RowOk, go_sem], ?_⟩
  obtain ⟨hk, _⟩ := h
  simp -implicitDefEqProofs (maxSteps := 1000000) only [x_s_RowOk, go_sem, true_implies, false_implies]
  repeat (first | refine ⟨rfl, ?_⟩ | refine ⟨by decide, ?_⟩ | refine ⟨⟨by decide, by decide⟩, ?_⟩ | refine ⟨decide_eq_true (by omega), ?_⟩ | refine ⟨⟨decide_eq_true (by omega), decide_eq_true (by omega)⟩, ?_⟩)
  try (first | done | decide | exact decide_eq_true (by omega) | exact ⟨decide_eq_true (by omega), decide_eq_true (by omega)⟩)
  refine .of (c_s_NameOk r.Key hk) ?_
  try simp -implicitDefEqProofs (maxSteps := 1000000) only [go_sem, true_implies, false_implies]
  repeat (first | refine ⟨rfl, ?_⟩ | refine ⟨by decide, ?_⟩ | refine ⟨⟨by decide, by decide⟩, ?_⟩ | refine ⟨decide_eq_true (by omega), ?_⟩ | refine ⟨⟨decide_eq_true (by omega), decide_eq_true (by omega)⟩, ?_⟩)
  try (first | done | decide | exact decide_eq_true (by omega) | exact ⟨decide_eq_true (by omega), decide_eq_true (by omega)⟩)
  cases g1 : nameOk r.Key
  · have e := rowOk_name (r := r) g1
    try simp -implicitDefEqProofs (maxSteps := 1000000) only [go_sem, true_implies, false_implies, e]
    repeat (first | refine ⟨rfl, ?_⟩ | refine ⟨by decide, ?_⟩ | refine ⟨⟨by decide, by decide⟩, ?_⟩ | refine ⟨decide_eq_true (by omega), ?_⟩ | refine ⟨⟨decide_eq_true (by omega), decide_eq_true (by omega)⟩, ?_⟩)
    try (first | done | decide | exact decide_eq_true (by omega) | exact ⟨decide_eq_true (by omega), decide_eq_true (by omega)⟩)
  try simp -implicitDefEqProofs (maxSteps := 1000000) only [go_sem, true_implies, false_implies]
  repeat (first | refine ⟨rfl, ?_⟩ | refine ⟨by decide, ?_⟩ | refine ⟨⟨by decide, by decide⟩, ?_⟩ | refine ⟨decide_eq_true (by omega), ?_⟩ | refine ⟨⟨decide_eq_true (by omega), decide_eq_true (by omega)⟩, ?_⟩)
  try (first | done | decide | exact decide_eq_true (by omega) | exact ⟨decide_eq_true (by omega), decide_eq_true (by omega)⟩)
  refine .of (c_s_l1In _ _ _) ?_
  try simp -implicitDefEqProofs (maxSteps := 1000000) only [go_sem, true_implies, false_implies]
  repeat (first | refine ⟨rfl, ?_⟩ | refine ⟨by decide, ?_⟩ | refine ⟨⟨by decide, by decide⟩, ?_⟩ | refine ⟨decide_eq_true (by omega), ?_⟩ | refine ⟨⟨decide_eq_true (by omega), decide_eq_true (by omega)⟩, ?_⟩)
  try (first | done | decide | exact decide_eq_true (by omega) | exact ⟨decide_eq_true (by omega), decide_eq_true (by omega)⟩)
  cases g2 : win r.Has 1 3
  · have e := rowOk_has (r := r) g2
    try simp -implicitDefEqProofs (maxSteps := 1000000) only [go_sem, true_implies, false_implies, e]
    repeat (first | refine ⟨rfl, ?_⟩ | refine ⟨by decide, ?_⟩ | refine ⟨⟨by decide, by decide⟩, ?_⟩ | refine ⟨decide_eq_true (by omega), ?_⟩ | refine ⟨⟨decide_eq_true (by omega), decide_eq_true (by omega)⟩, ?_⟩)
    try (first | done | decide | exact decide_eq_true (by omega) | exact ⟨decide_eq_true (by omega), decide_eq_true (by omega)⟩)
  have h3 := win13 g2
  obtain ⟨key, old, new, has, aside⟩ := r
  simp only at h3 g1 hk
  clear g2
  rcases h3 with rfl | rfl | rfl
  · skip
    have e := rowOk_1 (o := old) (n := new) (a := aside) g1
    try simp -implicitDefEqProofs (maxSteps := 1000000) only [go_sem, true_implies, false_implies]
    repeat (first | refine ⟨rfl, ?_⟩ | refine ⟨by decide, ?_⟩ | refine ⟨⟨by decide, by decide⟩, ?_⟩ | refine ⟨decide_eq_true (by omega), ?_⟩ | refine ⟨⟨decide_eq_true (by omega), decide_eq_true (by omega)⟩, ?_⟩)
    try (first | done | decide | exact decide_eq_true (by omega) | exact ⟨decide_eq_true (by omega), decide_eq_true (by omega)⟩)
    refine .of (c_s_l9Old ⟨key, old, new, 1, aside⟩ (by simp)) ?_
    try simp -implicitDefEqProofs (maxSteps := 1000000) only [go_sem, true_implies, false_implies, show decide ((1 : Int) ≠ 2) = true from rfl, show decide ((1 : Int) ≠ 1) = false from rfl, show decide ((2 : Int) ≠ 2) = false from rfl, show decide ((2 : Int) ≠ 1) = true from rfl, show decide ((3 : Int) ≠ 2) = true from rfl, show decide ((3 : Int) ≠ 1) = true from rfl, show ((1 : Int) != 2) = true from rfl, show ((1 : Int) != 1) = false from rfl, show ((1 : Int) == 1) = true from rfl, show ((1 : Int) != 3) = true from rfl, show ((2 : Int) != 2) = false from rfl, show ((2 : Int) != 1) = true from rfl, show ((2 : Int) != 3) = true from rfl, show ((3 : Int) != 2) = true from rfl, show ((3 : Int) != 1) = true from rfl, show ((3 : Int) != 3) = false from rfl, show ((3 : Int) == 1) = false from rfl]
    repeat (first | refine ⟨rfl, ?_⟩ | refine ⟨by decide, ?_⟩ | refine ⟨⟨by decide, by decide⟩, ?_⟩ | refine ⟨decide_eq_true (by omega), ?_⟩ | refine ⟨⟨decide_eq_true (by omega), decide_eq_true (by omega)⟩, ?_⟩)
    try (first | done | decide | exact decide_eq_true (by omega) | exact ⟨decide_eq_true (by omega), decide_eq_true (by omega)⟩)
    refine .of (c_s_l9New ⟨key, old, new, 1, aside⟩ (by simp)) ?_
    try simp -implicitDefEqProofs (maxSteps := 1000000) only [go_sem, true_implies, false_implies, show decide ((1 : Int) ≠ 2) = true from rfl, show decide ((1 : Int) ≠ 1) = false from rfl, show decide ((2 : Int) ≠ 2) = false from rfl, show decide ((2 : Int) ≠ 1) = true from rfl, show decide ((3 : Int) ≠ 2) = true from rfl, show decide ((3 : Int) ≠ 1) = true from rfl, show ((1 : Int) != 2) = true from rfl, show ((1 : Int) != 1) = false from rfl, show ((1 : Int) == 1) = true from rfl, show ((1 : Int) != 3) = true from rfl, show ((2 : Int) != 2) = false from rfl, show ((2 : Int) != 1) = true from rfl, show ((2 : Int) != 3) = true from rfl, show ((3 : Int) != 2) = true from rfl, show ((3 : Int) != 1) = true from rfl, show ((3 : Int) != 3) = false from rfl, show ((3 : Int) == 1) = false from rfl]
    repeat (first | refine ⟨rfl, ?_⟩ | refine ⟨by decide, ?_⟩ | refine ⟨⟨by decide, by decide⟩, ?_⟩ | refine ⟨decide_eq_true (by omega), ?_⟩ | refine ⟨⟨decide_eq_true (by omega), decide_eq_true (by omega)⟩, ?_⟩)
    try (first | done | decide | exact decide_eq_true (by omega) | exact ⟨decide_eq_true (by omega), decide_eq_true (by omega)⟩)
    refine .of (c_s_l9None new) ?_
    try simp -implicitDefEqProofs (maxSteps := 1000000) only [go_sem, true_implies, false_implies]
    repeat (first | refine ⟨rfl, ?_⟩ | refine ⟨by decide, ?_⟩ | refine ⟨⟨by decide, by decide⟩, ?_⟩ | refine ⟨decide_eq_true (by omega), ?_⟩ | refine ⟨⟨decide_eq_true (by omega), decide_eq_true (by omega)⟩, ?_⟩)
    try (first | done | decide | exact decide_eq_true (by omega) | exact ⟨decide_eq_true (by omega), decide_eq_true (by omega)⟩)
    cases n1 : new.no
    · try simp -implicitDefEqProofs (maxSteps := 1000000) only [go_sem, true_implies, false_implies, n1, e]
      repeat (first | refine ⟨rfl, ?_⟩ | refine ⟨by decide, ?_⟩ | refine ⟨⟨by decide, by decide⟩, ?_⟩ | refine ⟨decide_eq_true (by omega), ?_⟩ | refine ⟨⟨decide_eq_true (by omega), decide_eq_true (by omega)⟩, ?_⟩)
      try (first | done | decide | exact decide_eq_true (by omega) | exact ⟨decide_eq_true (by omega), decide_eq_true (by omega)⟩)
    try simp -implicitDefEqProofs (maxSteps := 1000000) only [go_sem, true_implies, false_implies, n1]
    repeat (first | refine ⟨rfl, ?_⟩ | refine ⟨by decide, ?_⟩ | refine ⟨⟨by decide, by decide⟩, ?_⟩ | refine ⟨decide_eq_true (by omega), ?_⟩ | refine ⟨⟨decide_eq_true (by omega), decide_eq_true (by omega)⟩, ?_⟩)
    try (first | done | decide | exact decide_eq_true (by omega) | exact ⟨decide_eq_true (by omega), decide_eq_true (by omega)⟩)
    refine .of (c_s_CellText old) ?_
    try simp -implicitDefEqProofs (maxSteps := 1000000) only [go_sem, true_implies, false_implies]
    repeat (first | refine ⟨rfl, ?_⟩ | refine ⟨by decide, ?_⟩ | refine ⟨⟨by decide, by decide⟩, ?_⟩ | refine ⟨decide_eq_true (by omega), ?_⟩ | refine ⟨⟨decide_eq_true (by omega), decide_eq_true (by omega)⟩, ?_⟩)
    try (first | done | decide | exact decide_eq_true (by omega) | exact ⟨decide_eq_true (by omega), decide_eq_true (by omega)⟩)
    refine .of (c_s_CellText new) ?_
    try simp -implicitDefEqProofs (maxSteps := 1000000) only [go_sem, true_implies, false_implies]
    repeat (first | refine ⟨rfl, ?_⟩ | refine ⟨by decide, ?_⟩ | refine ⟨⟨by decide, by decide⟩, ?_⟩ | refine ⟨decide_eq_true (by omega), ?_⟩ | refine ⟨⟨decide_eq_true (by omega), decide_eq_true (by omega)⟩, ?_⟩)
    try (first | done | decide | exact decide_eq_true (by omega) | exact ⟨decide_eq_true (by omega), decide_eq_true (by omega)⟩)
    refine .of (c_s_l9Old ⟨key, old, new, 1, aside⟩ (by simp)) ?_
    try simp -implicitDefEqProofs (maxSteps := 1000000) only [go_sem, true_implies, false_implies, show decide ((1 : Int) ≠ 2) = true from rfl, show decide ((1 : Int) ≠ 1) = false from rfl, show decide ((2 : Int) ≠ 2) = false from rfl, show decide ((2 : Int) ≠ 1) = true from rfl, show decide ((3 : Int) ≠ 2) = true from rfl, show decide ((3 : Int) ≠ 1) = true from rfl, show ((1 : Int) != 2) = true from rfl, show ((1 : Int) != 1) = false from rfl, show ((1 : Int) == 1) = true from rfl, show ((1 : Int) != 3) = true from rfl, show ((2 : Int) != 2) = false from rfl, show ((2 : Int) != 1) = true from rfl, show ((2 : Int) != 3) = true from rfl, show ((3 : Int) != 2) = true from rfl, show ((3 : Int) != 1) = true from rfl, show ((3 : Int) != 3) = false from rfl, show ((3 : Int) == 1) = false from rfl]
    repeat (first | refine ⟨rfl, ?_⟩ | refine ⟨by decide, ?_⟩ | refine ⟨⟨by decide, by decide⟩, ?_⟩ | refine ⟨decide_eq_true (by omega), ?_⟩ | refine ⟨⟨decide_eq_true (by omega), decide_eq_true (by omega)⟩, ?_⟩)
    try (first | done | decide | exact decide_eq_true (by omega) | exact ⟨decide_eq_true (by omega), decide_eq_true (by omega)⟩)
    refine .of (c_s_l1In _ _ _) ?_
    try simp -implicitDefEqProofs (maxSteps := 1000000) only [go_sem, true_implies, false_implies]
    repeat (first | refine ⟨rfl, ?_⟩ | refine ⟨by decide, ?_⟩ | refine ⟨⟨by decide, by decide⟩, ?_⟩ | refine ⟨decide_eq_true (by omega), ?_⟩ | refine ⟨⟨decide_eq_true (by omega), decide_eq_true (by omega)⟩, ?_⟩)
    try (first | done | decide | exact decide_eq_true (by omega) | exact ⟨decide_eq_true (by omega), decide_eq_true (by omega)⟩)
    cases w : win old.Tag 1 5
    · have e2 := tag_no w
      try simp -implicitDefEqProofs (maxSteps := 1000000) only [go_sem, true_implies, false_implies, w, e, e2]
      repeat (first | refine ⟨rfl, ?_⟩ | refine ⟨by decide, ?_⟩ | refine ⟨⟨by decide, by decide⟩, ?_⟩ | refine ⟨decide_eq_true (by omega), ?_⟩ | refine ⟨⟨decide_eq_true (by omega), decide_eq_true (by omega)⟩, ?_⟩)
      try (first | done | decide | exact decide_eq_true (by omega) | exact ⟨decide_eq_true (by omega), decide_eq_true (by omega)⟩)
    have t := tag_yes w
    try simp -implicitDefEqProofs (maxSteps := 1000000) only [go_sem, true_implies, false_implies, w]
    repeat (first | refine ⟨rfl, ?_⟩ | refine ⟨by decide, ?_⟩ | refine ⟨⟨by decide, by decide⟩, ?_⟩ | refine ⟨decide_eq_true (by omega), ?_⟩ | refine ⟨⟨decide_eq_true (by omega), decide_eq_true (by omega)⟩, ?_⟩)
    try (first | done | decide | exact decide_eq_true (by omega) | exact ⟨decide_eq_true (by omega), decide_eq_true (by omega)⟩)
    refine .of (c_s_CellOk old) ?_
    try simp -implicitDefEqProofs (maxSteps := 1000000) only [go_sem, true_implies, false_implies]
    repeat (first | refine ⟨rfl, ?_⟩ | refine ⟨by decide, ?_⟩ | refine ⟨⟨by decide, by decide⟩, ?_⟩ | refine ⟨decide_eq_true (by omega), ?_⟩ | refine ⟨⟨decide_eq_true (by omega), decide_eq_true (by omega)⟩, ?_⟩)
    try (first | done | decide | exact decide_eq_true (by omega) | exact ⟨decide_eq_true (by omega), decide_eq_true (by omega)⟩)
    cases o1 : old.ok
    · try simp -implicitDefEqProofs (maxSteps := 1000000) only [go_sem, true_implies, false_implies, o1, e]
      repeat (first | refine ⟨rfl, ?_⟩ | refine ⟨by decide, ?_⟩ | refine ⟨⟨by decide, by decide⟩, ?_⟩ | refine ⟨decide_eq_true (by omega), ?_⟩ | refine ⟨⟨decide_eq_true (by omega), decide_eq_true (by omega)⟩, ?_⟩)
      try (first | done | decide | exact decide_eq_true (by omega) | exact ⟨decide_eq_true (by omega), decide_eq_true (by omega)⟩)
    try simp -implicitDefEqProofs (maxSteps := 1000000) only [go_sem, true_implies, false_implies, o1]
    repeat (first | refine ⟨rfl, ?_⟩ | refine ⟨by decide, ?_⟩ | refine ⟨⟨by decide, by decide⟩, ?_⟩ | refine ⟨decide_eq_true (by omega), ?_⟩ | refine ⟨⟨decide_eq_true (by omega), decide_eq_true (by omega)⟩, ?_⟩)
    try (first | done | decide | exact decide_eq_true (by omega) | exact ⟨decide_eq_true (by omega), decide_eq_true (by omega)⟩)
    refine .of (c_s_l9New ⟨key, old, new, 1, aside⟩ (by simp)) ?_
    try simp -implicitDefEqProofs (maxSteps := 1000000) only [go_sem, true_implies, false_implies, show decide ((1 : Int) ≠ 2) = true from rfl, show decide ((1 : Int) ≠ 1) = false from rfl, show decide ((2 : Int) ≠ 2) = false from rfl, show decide ((2 : Int) ≠ 1) = true from rfl, show decide ((3 : Int) ≠ 2) = true from rfl, show decide ((3 : Int) ≠ 1) = true from rfl, show ((1 : Int) != 2) = true from rfl, show ((1 : Int) != 1) = false from rfl, show ((1 : Int) == 1) = true from rfl, show ((1 : Int) != 3) = true from rfl, show ((2 : Int) != 2) = false from rfl, show ((2 : Int) != 1) = true from rfl, show ((2 : Int) != 3) = true from rfl, show ((3 : Int) != 2) = true from rfl, show ((3 : Int) != 1) = true from rfl, show ((3 : Int) != 3) = false from rfl, show ((3 : Int) == 1) = false from rfl]
    repeat (first | refine ⟨rfl, ?_⟩ | refine ⟨by decide, ?_⟩ | refine ⟨⟨by decide, by decide⟩, ?_⟩ | refine ⟨decide_eq_true (by omega), ?_⟩ | refine ⟨⟨decide_eq_true (by omega), decide_eq_true (by omega)⟩, ?_⟩)
    try (first | done | decide | exact decide_eq_true (by omega) | exact ⟨decide_eq_true (by omega), decide_eq_true (by omega)⟩)
    refine .of (c_s_l9Old ⟨key, old, new, 1, aside⟩ (by simp)) ?_
    try simp -implicitDefEqProofs (maxSteps := 1000000) only [go_sem, true_implies, false_implies, show decide ((1 : Int) ≠ 2) = true from rfl, show decide ((1 : Int) ≠ 1) = false from rfl, show decide ((2 : Int) ≠ 2) = false from rfl, show decide ((2 : Int) ≠ 1) = true from rfl, show decide ((3 : Int) ≠ 2) = true from rfl, show decide ((3 : Int) ≠ 1) = true from rfl, show ((1 : Int) != 2) = true from rfl, show ((1 : Int) != 1) = false from rfl, show ((1 : Int) == 1) = true from rfl, show ((1 : Int) != 3) = true from rfl, show ((2 : Int) != 2) = false from rfl, show ((2 : Int) != 1) = true from rfl, show ((2 : Int) != 3) = true from rfl, show ((3 : Int) != 2) = true from rfl, show ((3 : Int) != 1) = true from rfl, show ((3 : Int) != 3) = false from rfl, show ((3 : Int) == 1) = false from rfl]
    repeat (first | refine ⟨rfl, ?_⟩ | refine ⟨by decide, ?_⟩ | refine ⟨⟨by decide, by decide⟩, ?_⟩ | refine ⟨decide_eq_true (by omega), ?_⟩ | refine ⟨⟨decide_eq_true (by omega), decide_eq_true (by omega)⟩, ?_⟩)
    try (first | done | decide | exact decide_eq_true (by omega) | exact ⟨decide_eq_true (by omega), decide_eq_true (by omega)⟩)
    cases o3 : old.text.2
    · cases aside
      · try simp -implicitDefEqProofs (maxSteps := 1000000) only [go_sem, true_implies, false_implies, o3, e, o1, t, show decide ((1 : Int) ≠ 2) = true from rfl, show decide ((1 : Int) ≠ 1) = false from rfl, show decide ((2 : Int) ≠ 2) = false from rfl, show decide ((2 : Int) ≠ 1) = true from rfl, show decide ((3 : Int) ≠ 2) = true from rfl, show decide ((3 : Int) ≠ 1) = true from rfl, show ((1 : Int) != 2) = true from rfl, show ((1 : Int) != 1) = false from rfl, show ((1 : Int) == 1) = true from rfl, show ((1 : Int) != 3) = true from rfl, show ((2 : Int) != 2) = false from rfl, show ((2 : Int) != 1) = true from rfl, show ((2 : Int) != 3) = true from rfl, show ((3 : Int) != 2) = true from rfl, show ((3 : Int) != 1) = true from rfl, show ((3 : Int) != 3) = false from rfl, show ((3 : Int) == 1) = false from rfl]
        repeat (first | refine ⟨rfl, ?_⟩ | refine ⟨by decide, ?_⟩ | refine ⟨⟨by decide, by decide⟩, ?_⟩ | refine ⟨decide_eq_true (by omega), ?_⟩ | refine ⟨⟨decide_eq_true (by omega), decide_eq_true (by omega)⟩, ?_⟩)
        try (first | done | decide | exact decide_eq_true (by omega) | exact ⟨decide_eq_true (by omega), decide_eq_true (by omega)⟩)
      · try simp -implicitDefEqProofs (maxSteps := 1000000) only [go_sem, true_implies, false_implies, o3, show decide ((1 : Int) ≠ 2) = true from rfl, show decide ((1 : Int) ≠ 1) = false from rfl, show decide ((2 : Int) ≠ 2) = false from rfl, show decide ((2 : Int) ≠ 1) = true from rfl, show decide ((3 : Int) ≠ 2) = true from rfl, show decide ((3 : Int) ≠ 1) = true from rfl, show ((1 : Int) != 2) = true from rfl, show ((1 : Int) != 1) = false from rfl, show ((1 : Int) == 1) = true from rfl, show ((1 : Int) != 3) = true from rfl, show ((2 : Int) != 2) = false from rfl, show ((2 : Int) != 1) = true from rfl, show ((2 : Int) != 3) = true from rfl, show ((3 : Int) != 2) = true from rfl, show ((3 : Int) != 1) = true from rfl, show ((3 : Int) != 3) = false from rfl, show ((3 : Int) == 1) = false from rfl]
        repeat (first | refine ⟨rfl, ?_⟩ | refine ⟨by decide, ?_⟩ | refine ⟨⟨by decide, by decide⟩, ?_⟩ | refine ⟨decide_eq_true (by omega), ?_⟩ | refine ⟨⟨decide_eq_true (by omega), decide_eq_true (by omega)⟩, ?_⟩)
        try (first | done | decide | exact decide_eq_true (by omega) | exact ⟨decide_eq_true (by omega), decide_eq_true (by omega)⟩)
        refine .of (c_s_l9New ⟨key, old, new, 1, true⟩ (by simp)) ?_
        try simp -implicitDefEqProofs (maxSteps := 1000000) only [go_sem, true_implies, false_implies, show decide ((1 : Int) ≠ 2) = true from rfl, show decide ((1 : Int) ≠ 1) = false from rfl, show decide ((2 : Int) ≠ 2) = false from rfl, show decide ((2 : Int) ≠ 1) = true from rfl, show decide ((3 : Int) ≠ 2) = true from rfl, show decide ((3 : Int) ≠ 1) = true from rfl, show ((1 : Int) != 2) = true from rfl, show ((1 : Int) != 1) = false from rfl, show ((1 : Int) == 1) = true from rfl, show ((1 : Int) != 3) = true from rfl, show ((2 : Int) != 2) = false from rfl, show ((2 : Int) != 1) = true from rfl, show ((2 : Int) != 3) = true from rfl, show ((3 : Int) != 2) = true from rfl, show ((3 : Int) != 1) = true from rfl, show ((3 : Int) != 3) = false from rfl, show ((3 : Int) == 1) = false from rfl, e, o1, t, o3, n1]
        repeat (first | refine ⟨rfl, ?_⟩ | refine ⟨by decide, ?_⟩ | refine ⟨⟨by decide, by decide⟩, ?_⟩ | refine ⟨decide_eq_true (by omega), ?_⟩ | refine ⟨⟨decide_eq_true (by omega), decide_eq_true (by omega)⟩, ?_⟩)
        try (first | done | decide | exact decide_eq_true (by omega) | exact ⟨decide_eq_true (by omega), decide_eq_true (by omega)⟩)
    · try simp -implicitDefEqProofs (maxSteps := 1000000) only [go_sem, true_implies, false_implies, o3, e, o1, t, n1, show decide ((1 : Int) ≠ 2) = true from rfl, show decide ((1 : Int) ≠ 1) = false from rfl, show decide ((2 : Int) ≠ 2) = false from rfl, show decide ((2 : Int) ≠ 1) = true from rfl, show decide ((3 : Int) ≠ 2) = true from rfl, show decide ((3 : Int) ≠ 1) = true from rfl, show ((1 : Int) != 2) = true from rfl, show ((1 : Int) != 1) = false from rfl, show ((1 : Int) == 1) = true from rfl, show ((1 : Int) != 3) = true from rfl, show ((2 : Int) != 2) = false from rfl, show ((2 : Int) != 1) = true from rfl, show ((2 : Int) != 3) = true from rfl, show ((3 : Int) != 2) = true from rfl, show ((3 : Int) != 1) = true from rfl, show ((3 : Int) != 3) = false from rfl, show ((3 : Int) == 1) = false from rfl]
      repeat (first | refine ⟨rfl, ?_⟩ | refine ⟨by decide, ?_⟩ | refine ⟨⟨by decide, by decide⟩, ?_⟩ | refine ⟨decide_eq_true (by omega), ?_⟩ | refine ⟨⟨decide_eq_true (by omega), decide_eq_true (by omega)⟩, ?_⟩)
      try (first | done | decide | exact decide_eq_true (by omega) | exact ⟨decide_eq_true (by omega), decide_eq_true (by omega)⟩)
  · skip
    have e := rowOk_2 (o := old) (n := new) (a := aside) g1
    try simp -implicitDefEqProofs (maxSteps := 1000000) only [go_sem, true_implies, false_implies]
    repeat (first | refine ⟨rfl, ?_⟩ | refine ⟨by decide, ?_⟩ | refine ⟨⟨by decide, by decide⟩, ?_⟩ | refine ⟨decide_eq_true (by omega), ?_⟩ | refine ⟨⟨decide_eq_true (by omega), decide_eq_true (by omega)⟩, ?_⟩)
    try (first | done | decide | exact decide_eq_true (by omega) | exact ⟨decide_eq_true (by omega), decide_eq_true (by omega)⟩)
    refine .of (c_s_l9Old ⟨key, old, new, 2, aside⟩ (by simp)) ?_
    try simp -implicitDefEqProofs (maxSteps := 1000000) only [go_sem, true_implies, false_implies, show decide ((1 : Int) ≠ 2) = true from rfl, show decide ((1 : Int) ≠ 1) = false from rfl, show decide ((2 : Int) ≠ 2) = false from rfl, show decide ((2 : Int) ≠ 1) = true from rfl, show decide ((3 : Int) ≠ 2) = true from rfl, show decide ((3 : Int) ≠ 1) = true from rfl, show ((1 : Int) != 2) = true from rfl, show ((1 : Int) != 1) = false from rfl, show ((1 : Int) == 1) = true from rfl, show ((1 : Int) != 3) = true from rfl, show ((2 : Int) != 2) = false from rfl, show ((2 : Int) != 1) = true from rfl, show ((2 : Int) != 3) = true from rfl, show ((3 : Int) != 2) = true from rfl, show ((3 : Int) != 1) = true from rfl, show ((3 : Int) != 3) = false from rfl, show ((3 : Int) == 1) = false from rfl]
    repeat (first | refine ⟨rfl, ?_⟩ | refine ⟨by decide, ?_⟩ | refine ⟨⟨by decide, by decide⟩, ?_⟩ | refine ⟨decide_eq_true (by omega), ?_⟩ | refine ⟨⟨decide_eq_true (by omega), decide_eq_true (by omega)⟩, ?_⟩)
    try (first | done | decide | exact decide_eq_true (by omega) | exact ⟨decide_eq_true (by omega), decide_eq_true (by omega)⟩)
    refine .of (c_s_l9None old) ?_
    try simp -implicitDefEqProofs (maxSteps := 1000000) only [go_sem, true_implies, false_implies]
    repeat (first | refine ⟨rfl, ?_⟩ | refine ⟨by decide, ?_⟩ | refine ⟨⟨by decide, by decide⟩, ?_⟩ | refine ⟨decide_eq_true (by omega), ?_⟩ | refine ⟨⟨decide_eq_true (by omega), decide_eq_true (by omega)⟩, ?_⟩)
    try (first | done | decide | exact decide_eq_true (by omega) | exact ⟨decide_eq_true (by omega), decide_eq_true (by omega)⟩)
    cases o1 : old.no
    · try simp -implicitDefEqProofs (maxSteps := 1000000) only [go_sem, true_implies, false_implies, o1, e]
      repeat (first | refine ⟨rfl, ?_⟩ | refine ⟨by decide, ?_⟩ | refine ⟨⟨by decide, by decide⟩, ?_⟩ | refine ⟨decide_eq_true (by omega), ?_⟩ | refine ⟨⟨decide_eq_true (by omega), decide_eq_true (by omega)⟩, ?_⟩)
      try (first | done | decide | exact decide_eq_true (by omega) | exact ⟨decide_eq_true (by omega), decide_eq_true (by omega)⟩)
    try simp -implicitDefEqProofs (maxSteps := 1000000) only [go_sem, true_implies, false_implies, o1]
    repeat (first | refine ⟨rfl, ?_⟩ | refine ⟨by decide, ?_⟩ | refine ⟨⟨by decide, by decide⟩, ?_⟩ | refine ⟨decide_eq_true (by omega), ?_⟩ | refine ⟨⟨decide_eq_true (by omega), decide_eq_true (by omega)⟩, ?_⟩)
    try (first | done | decide | exact decide_eq_true (by omega) | exact ⟨decide_eq_true (by omega), decide_eq_true (by omega)⟩)
    refine .of (c_s_l9New ⟨key, old, new, 2, aside⟩ (by simp)) ?_
    try simp -implicitDefEqProofs (maxSteps := 1000000) only [go_sem, true_implies, false_implies, show decide ((1 : Int) ≠ 2) = true from rfl, show decide ((1 : Int) ≠ 1) = false from rfl, show decide ((2 : Int) ≠ 2) = false from rfl, show decide ((2 : Int) ≠ 1) = true from rfl, show decide ((3 : Int) ≠ 2) = true from rfl, show decide ((3 : Int) ≠ 1) = true from rfl, show ((1 : Int) != 2) = true from rfl, show ((1 : Int) != 1) = false from rfl, show ((1 : Int) == 1) = true from rfl, show ((1 : Int) != 3) = true from rfl, show ((2 : Int) != 2) = false from rfl, show ((2 : Int) != 1) = true from rfl, show ((2 : Int) != 3) = true from rfl, show ((3 : Int) != 2) = true from rfl, show ((3 : Int) != 1) = true from rfl, show ((3 : Int) != 3) = false from rfl, show ((3 : Int) == 1) = false from rfl]
    repeat (first | refine ⟨rfl, ?_⟩ | refine ⟨by decide, ?_⟩ | refine ⟨⟨by decide, by decide⟩, ?_⟩ | refine ⟨decide_eq_true (by omega), ?_⟩ | refine ⟨⟨decide_eq_true (by omega), decide_eq_true (by omega)⟩, ?_⟩)
    try (first | done | decide | exact decide_eq_true (by omega) | exact ⟨decide_eq_true (by omega), decide_eq_true (by omega)⟩)
    refine .of (c_s_CellText old) ?_
    try simp -implicitDefEqProofs (maxSteps := 1000000) only [go_sem, true_implies, false_implies]
    repeat (first | refine ⟨rfl, ?_⟩ | refine ⟨by decide, ?_⟩ | refine ⟨⟨by decide, by decide⟩, ?_⟩ | refine ⟨decide_eq_true (by omega), ?_⟩ | refine ⟨⟨decide_eq_true (by omega), decide_eq_true (by omega)⟩, ?_⟩)
    try (first | done | decide | exact decide_eq_true (by omega) | exact ⟨decide_eq_true (by omega), decide_eq_true (by omega)⟩)
    refine .of (c_s_CellText new) ?_
    try simp -implicitDefEqProofs (maxSteps := 1000000) only [go_sem, true_implies, false_implies]
    repeat (first | refine ⟨rfl, ?_⟩ | refine ⟨by decide, ?_⟩ | refine ⟨⟨by decide, by decide⟩, ?_⟩ | refine ⟨decide_eq_true (by omega), ?_⟩ | refine ⟨⟨decide_eq_true (by omega), decide_eq_true (by omega)⟩, ?_⟩)
    try (first | done | decide | exact decide_eq_true (by omega) | exact ⟨decide_eq_true (by omega), decide_eq_true (by omega)⟩)
    refine .of (c_s_l9Old ⟨key, old, new, 2, aside⟩ (by simp)) ?_
    try simp -implicitDefEqProofs (maxSteps := 1000000) only [go_sem, true_implies, false_implies, show decide ((1 : Int) ≠ 2) = true from rfl, show decide ((1 : Int) ≠ 1) = false from rfl, show decide ((2 : Int) ≠ 2) = false from rfl, show decide ((2 : Int) ≠ 1) = true from rfl, show decide ((3 : Int) ≠ 2) = true from rfl, show decide ((3 : Int) ≠ 1) = true from rfl, show ((1 : Int) != 2) = true from rfl, show ((1 : Int) != 1) = false from rfl, show ((1 : Int) == 1) = true from rfl, show ((1 : Int) != 3) = true from rfl, show ((2 : Int) != 2) = false from rfl, show ((2 : Int) != 1) = true from rfl, show ((2 : Int) != 3) = true from rfl, show ((3 : Int) != 2) = true from rfl, show ((3 : Int) != 1) = true from rfl, show ((3 : Int) != 3) = false from rfl, show ((3 : Int) == 1) = false from rfl]
    repeat (first | refine ⟨rfl, ?_⟩ | refine ⟨by decide, ?_⟩ | refine ⟨⟨by decide, by decide⟩, ?_⟩ | refine ⟨decide_eq_true (by omega), ?_⟩ | refine ⟨⟨decide_eq_true (by omega), decide_eq_true (by omega)⟩, ?_⟩)
    try (first | done | decide | exact decide_eq_true (by omega) | exact ⟨decide_eq_true (by omega), decide_eq_true (by omega)⟩)
    refine .of (c_s_l9New ⟨key, old, new, 2, aside⟩ (by simp)) ?_
    try simp -implicitDefEqProofs (maxSteps := 1000000) only [go_sem, true_implies, false_implies, show decide ((1 : Int) ≠ 2) = true from rfl, show decide ((1 : Int) ≠ 1) = false from rfl, show decide ((2 : Int) ≠ 2) = false from rfl, show decide ((2 : Int) ≠ 1) = true from rfl, show decide ((3 : Int) ≠ 2) = true from rfl, show decide ((3 : Int) ≠ 1) = true from rfl, show ((1 : Int) != 2) = true from rfl, show ((1 : Int) != 1) = false from rfl, show ((1 : Int) == 1) = true from rfl, show ((1 : Int) != 3) = true from rfl, show ((2 : Int) != 2) = false from rfl, show ((2 : Int) != 1) = true from rfl, show ((2 : Int) != 3) = true from rfl, show ((3 : Int) != 2) = true from rfl, show ((3 : Int) != 1) = true from rfl, show ((3 : Int) != 3) = false from rfl, show ((3 : Int) == 1) = false from rfl]
    repeat (first | refine ⟨rfl, ?_⟩ | refine ⟨by decide, ?_⟩ | refine ⟨⟨by decide, by decide⟩, ?_⟩ | refine ⟨decide_eq_true (by omega), ?_⟩ | refine ⟨⟨decide_eq_true (by omega), decide_eq_true (by omega)⟩, ?_⟩)
    try (first | done | decide | exact decide_eq_true (by omega) | exact ⟨decide_eq_true (by omega), decide_eq_true (by omega)⟩)
    cases n1 : (new.Tag == 0)
    · have n1' : (new.Tag != 0) = true := by rw [bne, n1]; rfl
      try simp -implicitDefEqProofs (maxSteps := 1000000) only [go_sem, true_implies, false_implies, n1', e, n1]
      repeat (first | refine ⟨rfl, ?_⟩ | refine ⟨by decide, ?_⟩ | refine ⟨⟨by decide, by decide⟩, ?_⟩ | refine ⟨decide_eq_true (by omega), ?_⟩ | refine ⟨⟨decide_eq_true (by omega), decide_eq_true (by omega)⟩, ?_⟩)
      try (first | done | decide | exact decide_eq_true (by omega) | exact ⟨decide_eq_true (by omega), decide_eq_true (by omega)⟩)
    have n1' : (new.Tag != 0) = false := by rw [bne, n1]; rfl
    cases n2 : new.text.2
    · try simp -implicitDefEqProofs (maxSteps := 1000000) only [go_sem, true_implies, false_implies, n1', n2, e]
      repeat (first | refine ⟨rfl, ?_⟩ | refine ⟨by decide, ?_⟩ | refine ⟨⟨by decide, by decide⟩, ?_⟩ | refine ⟨decide_eq_true (by omega), ?_⟩ | refine ⟨⟨decide_eq_true (by omega), decide_eq_true (by omega)⟩, ?_⟩)
      try (first | done | decide | exact decide_eq_true (by omega) | exact ⟨decide_eq_true (by omega), decide_eq_true (by omega)⟩)
    try simp -implicitDefEqProofs (maxSteps := 1000000) only [go_sem, true_implies, false_implies, n1', n2]
    repeat (first | refine ⟨rfl, ?_⟩ | refine ⟨by decide, ?_⟩ | refine ⟨⟨by decide, by decide⟩, ?_⟩ | refine ⟨decide_eq_true (by omega), ?_⟩ | refine ⟨⟨decide_eq_true (by omega), decide_eq_true (by omega)⟩, ?_⟩)
    try (first | done | decide | exact decide_eq_true (by omega) | exact ⟨decide_eq_true (by omega), decide_eq_true (by omega)⟩)
    refine .of (c_s_l9Old ⟨key, old, new, 2, aside⟩ (by simp)) ?_
    try simp -implicitDefEqProofs (maxSteps := 1000000) only [go_sem, true_implies, false_implies, show decide ((1 : Int) ≠ 2) = true from rfl, show decide ((1 : Int) ≠ 1) = false from rfl, show decide ((2 : Int) ≠ 2) = false from rfl, show decide ((2 : Int) ≠ 1) = true from rfl, show decide ((3 : Int) ≠ 2) = true from rfl, show decide ((3 : Int) ≠ 1) = true from rfl, show ((1 : Int) != 2) = true from rfl, show ((1 : Int) != 1) = false from rfl, show ((1 : Int) == 1) = true from rfl, show ((1 : Int) != 3) = true from rfl, show ((2 : Int) != 2) = false from rfl, show ((2 : Int) != 1) = true from rfl, show ((2 : Int) != 3) = true from rfl, show ((3 : Int) != 2) = true from rfl, show ((3 : Int) != 1) = true from rfl, show ((3 : Int) != 3) = false from rfl, show ((3 : Int) == 1) = false from rfl, e, o1, n1, n2]
    repeat (first | refine ⟨rfl, ?_⟩ | refine ⟨by decide, ?_⟩ | refine ⟨⟨by decide, by decide⟩, ?_⟩ | refine ⟨decide_eq_true (by omega), ?_⟩ | refine ⟨⟨decide_eq_true (by omega), decide_eq_true (by omega)⟩, ?_⟩)
    try (first | done | decide | exact decide_eq_true (by omega) | exact ⟨decide_eq_true (by omega), decide_eq_true (by omega)⟩)
  · skip
    have e := rowOk_3 (o := old) (n := new) (a := aside) g1
    try simp -implicitDefEqProofs (maxSteps := 1000000) only [go_sem, true_implies, false_implies]
    repeat (first | refine ⟨rfl, ?_⟩ | refine ⟨by decide, ?_⟩ | refine ⟨⟨by decide, by decide⟩, ?_⟩ | refine ⟨decide_eq_true (by omega), ?_⟩ | refine ⟨⟨decide_eq_true (by omega), decide_eq_true (by omega)⟩, ?_⟩)
    try (first | done | decide | exact decide_eq_true (by omega) | exact ⟨decide_eq_true (by omega), decide_eq_true (by omega)⟩)
    refine .of (c_s_l9Old ⟨key, old, new, 3, aside⟩ (by simp)) ?_
    try simp -implicitDefEqProofs (maxSteps := 1000000) only [go_sem, true_implies, false_implies, show decide ((1 : Int) ≠ 2) = true from rfl, show decide ((1 : Int) ≠ 1) = false from rfl, show decide ((2 : Int) ≠ 2) = false from rfl, show decide ((2 : Int) ≠ 1) = true from rfl, show decide ((3 : Int) ≠ 2) = true from rfl, show decide ((3 : Int) ≠ 1) = true from rfl, show ((1 : Int) != 2) = true from rfl, show ((1 : Int) != 1) = false from rfl, show ((1 : Int) == 1) = true from rfl, show ((1 : Int) != 3) = true from rfl, show ((2 : Int) != 2) = false from rfl, show ((2 : Int) != 1) = true from rfl, show ((2 : Int) != 3) = true from rfl, show ((3 : Int) != 2) = true from rfl, show ((3 : Int) != 1) = true from rfl, show ((3 : Int) != 3) = false from rfl, show ((3 : Int) == 1) = false from rfl]
    repeat (first | refine ⟨rfl, ?_⟩ | refine ⟨by decide, ?_⟩ | refine ⟨⟨by decide, by decide⟩, ?_⟩ | refine ⟨decide_eq_true (by omega), ?_⟩ | refine ⟨⟨decide_eq_true (by omega), decide_eq_true (by omega)⟩, ?_⟩)
    try (first | done | decide | exact decide_eq_true (by omega) | exact ⟨decide_eq_true (by omega), decide_eq_true (by omega)⟩)
    refine .of (c_s_l9New ⟨key, old, new, 3, aside⟩ (by simp)) ?_
    try simp -implicitDefEqProofs (maxSteps := 1000000) only [go_sem, true_implies, false_implies, show decide ((1 : Int) ≠ 2) = true from rfl, show decide ((1 : Int) ≠ 1) = false from rfl, show decide ((2 : Int) ≠ 2) = false from rfl, show decide ((2 : Int) ≠ 1) = true from rfl, show decide ((3 : Int) ≠ 2) = true from rfl, show decide ((3 : Int) ≠ 1) = true from rfl, show ((1 : Int) != 2) = true from rfl, show ((1 : Int) != 1) = false from rfl, show ((1 : Int) == 1) = true from rfl, show ((1 : Int) != 3) = true from rfl, show ((2 : Int) != 2) = false from rfl, show ((2 : Int) != 1) = true from rfl, show ((2 : Int) != 3) = true from rfl, show ((3 : Int) != 2) = true from rfl, show ((3 : Int) != 1) = true from rfl, show ((3 : Int) != 3) = false from rfl, show ((3 : Int) == 1) = false from rfl]
    repeat (first | refine ⟨rfl, ?_⟩ | refine ⟨by decide, ?_⟩ | refine ⟨⟨by decide, by decide⟩, ?_⟩ | refine ⟨decide_eq_true (by omega), ?_⟩ | refine ⟨⟨decide_eq_true (by omega), decide_eq_true (by omega)⟩, ?_⟩)
    try (first | done | decide | exact decide_eq_true (by omega) | exact ⟨decide_eq_true (by omega), decide_eq_true (by omega)⟩)
    refine .of (c_s_CellText old) ?_
    try simp -implicitDefEqProofs (maxSteps := 1000000) only [go_sem, true_implies, false_implies]
    repeat (first | refine ⟨rfl, ?_⟩ | refine ⟨by decide, ?_⟩ | refine ⟨⟨by decide, by decide⟩, ?_⟩ | refine ⟨decide_eq_true (by omega), ?_⟩ | refine ⟨⟨decide_eq_true (by omega), decide_eq_true (by omega)⟩, ?_⟩)
    try (first | done | decide | exact decide_eq_true (by omega) | exact ⟨decide_eq_true (by omega), decide_eq_true (by omega)⟩)
    refine .of (c_s_CellText new) ?_
    try simp -implicitDefEqProofs (maxSteps := 1000000) only [go_sem, true_implies, false_implies]
    repeat (first | refine ⟨rfl, ?_⟩ | refine ⟨by decide, ?_⟩ | refine ⟨⟨by decide, by decide⟩, ?_⟩ | refine ⟨decide_eq_true (by omega), ?_⟩ | refine ⟨⟨decide_eq_true (by omega), decide_eq_true (by omega)⟩, ?_⟩)
    try (first | done | decide | exact decide_eq_true (by omega) | exact ⟨decide_eq_true (by omega), decide_eq_true (by omega)⟩)
    refine .of (c_s_l9Old ⟨key, old, new, 3, aside⟩ (by simp)) ?_
    try simp -implicitDefEqProofs (maxSteps := 1000000) only [go_sem, true_implies, false_implies, show decide ((1 : Int) ≠ 2) = true from rfl, show decide ((1 : Int) ≠ 1) = false from rfl, show decide ((2 : Int) ≠ 2) = false from rfl, show decide ((2 : Int) ≠ 1) = true from rfl, show decide ((3 : Int) ≠ 2) = true from rfl, show decide ((3 : Int) ≠ 1) = true from rfl, show ((1 : Int) != 2) = true from rfl, show ((1 : Int) != 1) = false from rfl, show ((1 : Int) == 1) = true from rfl, show ((1 : Int) != 3) = true from rfl, show ((2 : Int) != 2) = false from rfl, show ((2 : Int) != 1) = true from rfl, show ((2 : Int) != 3) = true from rfl, show ((3 : Int) != 2) = true from rfl, show ((3 : Int) != 1) = true from rfl, show ((3 : Int) != 3) = false from rfl, show ((3 : Int) == 1) = false from rfl]
    repeat (first | refine ⟨rfl, ?_⟩ | refine ⟨by decide, ?_⟩ | refine ⟨⟨by decide, by decide⟩, ?_⟩ | refine ⟨decide_eq_true (by omega), ?_⟩ | refine ⟨⟨decide_eq_true (by omega), decide_eq_true (by omega)⟩, ?_⟩)
    try (first | done | decide | exact decide_eq_true (by omega) | exact ⟨decide_eq_true (by omega), decide_eq_true (by omega)⟩)
    refine .of (c_s_l1In _ _ _) ?_
    try simp -implicitDefEqProofs (maxSteps := 1000000) only [go_sem, true_implies, false_implies]
    repeat (first | refine ⟨rfl, ?_⟩ | refine ⟨by decide, ?_⟩ | refine ⟨⟨by decide, by decide⟩, ?_⟩ | refine ⟨decide_eq_true (by omega), ?_⟩ | refine ⟨⟨decide_eq_true (by omega), decide_eq_true (by omega)⟩, ?_⟩)
    try (first | done | decide | exact decide_eq_true (by omega) | exact ⟨decide_eq_true (by omega), decide_eq_true (by omega)⟩)
    cases w : win old.Tag 1 5
    · have e2 := tag_no w
      try simp -implicitDefEqProofs (maxSteps := 1000000) only [go_sem, true_implies, false_implies, w, e, e2]
      repeat (first | refine ⟨rfl, ?_⟩ | refine ⟨by decide, ?_⟩ | refine ⟨⟨by decide, by decide⟩, ?_⟩ | refine ⟨decide_eq_true (by omega), ?_⟩ | refine ⟨⟨decide_eq_true (by omega), decide_eq_true (by omega)⟩, ?_⟩)
      try (first | done | decide | exact decide_eq_true (by omega) | exact ⟨decide_eq_true (by omega), decide_eq_true (by omega)⟩)
    have t := tag_yes w
    try simp -implicitDefEqProofs (maxSteps := 1000000) only [go_sem, true_implies, false_implies, w]
    repeat (first | refine ⟨rfl, ?_⟩ | refine ⟨by decide, ?_⟩ | refine ⟨⟨by decide, by decide⟩, ?_⟩ | refine ⟨decide_eq_true (by omega), ?_⟩ | refine ⟨⟨decide_eq_true (by omega), decide_eq_true (by omega)⟩, ?_⟩)
    try (first | done | decide | exact decide_eq_true (by omega) | exact ⟨decide_eq_true (by omega), decide_eq_true (by omega)⟩)
    refine .of (c_s_CellOk old) ?_
    try simp -implicitDefEqProofs (maxSteps := 1000000) only [go_sem, true_implies, false_implies]
    repeat (first | refine ⟨rfl, ?_⟩ | refine ⟨by decide, ?_⟩ | refine ⟨⟨by decide, by decide⟩, ?_⟩ | refine ⟨decide_eq_true (by omega), ?_⟩ | refine ⟨⟨decide_eq_true (by omega), decide_eq_true (by omega)⟩, ?_⟩)
    try (first | done | decide | exact decide_eq_true (by omega) | exact ⟨decide_eq_true (by omega), decide_eq_true (by omega)⟩)
    cases o1 : old.ok
    · try simp -implicitDefEqProofs (maxSteps := 1000000) only [go_sem, true_implies, false_implies, o1, e]
      repeat (first | refine ⟨rfl, ?_⟩ | refine ⟨by decide, ?_⟩ | refine ⟨⟨by decide, by decide⟩, ?_⟩ | refine ⟨decide_eq_true (by omega), ?_⟩ | refine ⟨⟨decide_eq_true (by omega), decide_eq_true (by omega)⟩, ?_⟩)
      try (first | done | decide | exact decide_eq_true (by omega) | exact ⟨decide_eq_true (by omega), decide_eq_true (by omega)⟩)
    try simp -implicitDefEqProofs (maxSteps := 1000000) only [go_sem, true_implies, false_implies, o1]
    repeat (first | refine ⟨rfl, ?_⟩ | refine ⟨by decide, ?_⟩ | refine ⟨⟨by decide, by decide⟩, ?_⟩ | refine ⟨decide_eq_true (by omega), ?_⟩ | refine ⟨⟨decide_eq_true (by omega), decide_eq_true (by omega)⟩, ?_⟩)
    try (first | done | decide | exact decide_eq_true (by omega) | exact ⟨decide_eq_true (by omega), decide_eq_true (by omega)⟩)
    refine .of (c_s_l9New ⟨key, old, new, 3, aside⟩ (by simp)) ?_
    try simp -implicitDefEqProofs (maxSteps := 1000000) only [go_sem, true_implies, false_implies, show decide ((1 : Int) ≠ 2) = true from rfl, show decide ((1 : Int) ≠ 1) = false from rfl, show decide ((2 : Int) ≠ 2) = false from rfl, show decide ((2 : Int) ≠ 1) = true from rfl, show decide ((3 : Int) ≠ 2) = true from rfl, show decide ((3 : Int) ≠ 1) = true from rfl, show ((1 : Int) != 2) = true from rfl, show ((1 : Int) != 1) = false from rfl, show ((1 : Int) == 1) = true from rfl, show ((1 : Int) != 3) = true from rfl, show ((2 : Int) != 2) = false from rfl, show ((2 : Int) != 1) = true from rfl, show ((2 : Int) != 3) = true from rfl, show ((3 : Int) != 2) = true from rfl, show ((3 : Int) != 1) = true from rfl, show ((3 : Int) != 3) = false from rfl, show ((3 : Int) == 1) = false from rfl]
    repeat (first | refine ⟨rfl, ?_⟩ | refine ⟨by decide, ?_⟩ | refine ⟨⟨by decide, by decide⟩, ?_⟩ | refine ⟨decide_eq_true (by omega), ?_⟩ | refine ⟨⟨decide_eq_true (by omega), decide_eq_true (by omega)⟩, ?_⟩)
    try (first | done | decide | exact decide_eq_true (by omega) | exact ⟨decide_eq_true (by omega), decide_eq_true (by omega)⟩)
    cases n1 : (new.Tag == 0)
    · have n1' : (new.Tag != 0) = true := by rw [bne, n1]; rfl
      try simp -implicitDefEqProofs (maxSteps := 1000000) only [go_sem, true_implies, false_implies, n1', e, n1]
      repeat (first | refine ⟨rfl, ?_⟩ | refine ⟨by decide, ?_⟩ | refine ⟨⟨by decide, by decide⟩, ?_⟩ | refine ⟨decide_eq_true (by omega), ?_⟩ | refine ⟨⟨decide_eq_true (by omega), decide_eq_true (by omega)⟩, ?_⟩)
      try (first | done | decide | exact decide_eq_true (by omega) | exact ⟨decide_eq_true (by omega), decide_eq_true (by omega)⟩)
    have n1' : (new.Tag != 0) = false := by rw [bne, n1]; rfl
    cases n2 : new.text.2
    · try simp -implicitDefEqProofs (maxSteps := 1000000) only [go_sem, true_implies, false_implies, n1', n2, e]
      repeat (first | refine ⟨rfl, ?_⟩ | refine ⟨by decide, ?_⟩ | refine ⟨⟨by decide, by decide⟩, ?_⟩ | refine ⟨decide_eq_true (by omega), ?_⟩ | refine ⟨⟨decide_eq_true (by omega), decide_eq_true (by omega)⟩, ?_⟩)
      try (first | done | decide | exact decide_eq_true (by omega) | exact ⟨decide_eq_true (by omega), decide_eq_true (by omega)⟩)
    try simp -implicitDefEqProofs (maxSteps := 1000000) only [go_sem, true_implies, false_implies, n1', n2]
    repeat (first | refine ⟨rfl, ?_⟩ | refine ⟨by decide, ?_⟩ | refine ⟨⟨by decide, by decide⟩, ?_⟩ | refine ⟨decide_eq_true (by omega), ?_⟩ | refine ⟨⟨decide_eq_true (by omega), decide_eq_true (by omega)⟩, ?_⟩)
    try (first | done | decide | exact decide_eq_true (by omega) | exact ⟨decide_eq_true (by omega), decide_eq_true (by omega)⟩)
    refine .of (c_s_l9Old ⟨key, old, new, 3, aside⟩ (by simp)) ?_
    try simp -implicitDefEqProofs (maxSteps := 1000000) only [go_sem, true_implies, false_implies, show decide ((1 : Int) ≠ 2) = true from rfl, show decide ((1 : Int) ≠ 1) = false from rfl, show decide ((2 : Int) ≠ 2) = false from rfl, show decide ((2 : Int) ≠ 1) = true from rfl, show decide ((3 : Int) ≠ 2) = true from rfl, show decide ((3 : Int) ≠ 1) = true from rfl, show ((1 : Int) != 2) = true from rfl, show ((1 : Int) != 1) = false from rfl, show ((1 : Int) == 1) = true from rfl, show ((1 : Int) != 3) = true from rfl, show ((2 : Int) != 2) = false from rfl, show ((2 : Int) != 1) = true from rfl, show ((2 : Int) != 3) = true from rfl, show ((3 : Int) != 2) = true from rfl, show ((3 : Int) != 1) = true from rfl, show ((3 : Int) != 3) = false from rfl, show ((3 : Int) == 1) = false from rfl]
    repeat (first | refine ⟨rfl, ?_⟩ | refine ⟨by decide, ?_⟩ | refine ⟨⟨by decide, by decide⟩, ?_⟩ | refine ⟨decide_eq_true (by omega), ?_⟩ | refine ⟨⟨decide_eq_true (by omega), decide_eq_true (by omega)⟩, ?_⟩)
    try (first | done | decide | exact decide_eq_true (by omega) | exact ⟨decide_eq_true (by omega), decide_eq_true (by omega)⟩)
    cases o3 : old.text.2
    · cases aside
      · try simp -implicitDefEqProofs (maxSteps := 1000000) only [go_sem, true_implies, false_implies, o3, e, o1, t, show decide ((1 : Int) ≠ 2) = true from rfl, show decide ((1 : Int) ≠ 1) = false from rfl, show decide ((2 : Int) ≠ 2) = false from rfl, show decide ((2 : Int) ≠ 1) = true from rfl, show decide ((3 : Int) ≠ 2) = true from rfl, show decide ((3 : Int) ≠ 1) = true from rfl, show ((1 : Int) != 2) = true from rfl, show ((1 : Int) != 1) = false from rfl, show ((1 : Int) == 1) = true from rfl, show ((1 : Int) != 3) = true from rfl, show ((2 : Int) != 2) = false from rfl, show ((2 : Int) != 1) = true from rfl, show ((2 : Int) != 3) = true from rfl, show ((3 : Int) != 2) = true from rfl, show ((3 : Int) != 1) = true from rfl, show ((3 : Int) != 3) = false from rfl, show ((3 : Int) == 1) = false from rfl]
        repeat (first | refine ⟨rfl, ?_⟩ | refine ⟨by decide, ?_⟩ | refine ⟨⟨by decide, by decide⟩, ?_⟩ | refine ⟨decide_eq_true (by omega), ?_⟩ | refine ⟨⟨decide_eq_true (by omega), decide_eq_true (by omega)⟩, ?_⟩)
        try (first | done | decide | exact decide_eq_true (by omega) | exact ⟨decide_eq_true (by omega), decide_eq_true (by omega)⟩)
      · try simp -implicitDefEqProofs (maxSteps := 1000000) only [go_sem, true_implies, false_implies, o3, show decide ((1 : Int) ≠ 2) = true from rfl, show decide ((1 : Int) ≠ 1) = false from rfl, show decide ((2 : Int) ≠ 2) = false from rfl, show decide ((2 : Int) ≠ 1) = true from rfl, show decide ((3 : Int) ≠ 2) = true from rfl, show decide ((3 : Int) ≠ 1) = true from rfl, show ((1 : Int) != 2) = true from rfl, show ((1 : Int) != 1) = false from rfl, show ((1 : Int) == 1) = true from rfl, show ((1 : Int) != 3) = true from rfl, show ((2 : Int) != 2) = false from rfl, show ((2 : Int) != 1) = true from rfl, show ((2 : Int) != 3) = true from rfl, show ((3 : Int) != 2) = true from rfl, show ((3 : Int) != 1) = true from rfl, show ((3 : Int) != 3) = false from rfl, show ((3 : Int) == 1) = false from rfl]
        repeat (first | refine ⟨rfl, ?_⟩ | refine ⟨by decide, ?_⟩ | refine ⟨⟨by decide, by decide⟩, ?_⟩ | refine ⟨decide_eq_true (by omega), ?_⟩ | refine ⟨⟨decide_eq_true (by omega), decide_eq_true (by omega)⟩, ?_⟩)
        try (first | done | decide | exact decide_eq_true (by omega) | exact ⟨decide_eq_true (by omega), decide_eq_true (by omega)⟩)
        refine .of (c_s_l9New ⟨key, old, new, 3, true⟩ (by simp)) ?_
        try simp -implicitDefEqProofs (maxSteps := 1000000) only [go_sem, true_implies, false_implies, show decide ((1 : Int) ≠ 2) = true from rfl, show decide ((1 : Int) ≠ 1) = false from rfl, show decide ((2 : Int) ≠ 2) = false from rfl, show decide ((2 : Int) ≠ 1) = true from rfl, show decide ((3 : Int) ≠ 2) = true from rfl, show decide ((3 : Int) ≠ 1) = true from rfl, show ((1 : Int) != 2) = true from rfl, show ((1 : Int) != 1) = false from rfl, show ((1 : Int) == 1) = true from rfl, show ((1 : Int) != 3) = true from rfl, show ((2 : Int) != 2) = false from rfl, show ((2 : Int) != 1) = true from rfl, show ((2 : Int) != 3) = true from rfl, show ((3 : Int) != 2) = true from rfl, show ((3 : Int) != 1) = true from rfl, show ((3 : Int) != 3) = false from rfl, show ((3 : Int) == 1) = false from rfl, e, o3]
        repeat (first | refine ⟨rfl, ?_⟩ | refine ⟨by decide, ?_⟩ | refine ⟨⟨by decide, by decide⟩, ?_⟩ | refine ⟨decide_eq_true (by omega), ?_⟩ | refine ⟨⟨decide_eq_true (by omega), decide_eq_true (by omega)⟩, ?_⟩)
        try (first | done | decide | exact decide_eq_true (by omega) | exact ⟨decide_eq_true (by omega), decide_eq_true (by omega)⟩)
    try simp -implicitDefEqProofs (maxSteps := 1000000) only [go_sem, true_implies, false_implies, o3, show decide ((1 : Int) ≠ 2) = true from rfl, show decide ((1 : Int) ≠ 1) = false from rfl, show decide ((2 : Int) ≠ 2) = false from rfl, show decide ((2 : Int) ≠ 1) = true from rfl, show decide ((3 : Int) ≠ 2) = true from rfl, show decide ((3 : Int) ≠ 1) = true from rfl, show ((1 : Int) != 2) = true from rfl, show ((1 : Int) != 1) = false from rfl, show ((1 : Int) == 1) = true from rfl, show ((1 : Int) != 3) = true from rfl, show ((2 : Int) != 2) = false from rfl, show ((2 : Int) != 1) = true from rfl, show ((2 : Int) != 3) = true from rfl, show ((3 : Int) != 2) = true from rfl, show ((3 : Int) != 1) = true from rfl, show ((3 : Int) != 3) = false from rfl, show ((3 : Int) == 1) = false from rfl]
    repeat (first | refine ⟨rfl, ?_⟩ | refine ⟨by decide, ?_⟩ | refine ⟨⟨by decide, by decide⟩, ?_⟩ | refine ⟨decide_eq_true (by omega), ?_⟩ | refine ⟨⟨decide_eq_true (by omega), decide_eq_true (by omega)⟩, ?_⟩)
    try (first | done | decide | exact decide_eq_true (by omega) | exact ⟨decide_eq_true (by omega), decide_eq_true (by omega)⟩)
    refine .of (c_s_SameText old new) ?_
    try simp -implicitDefEqProofs (maxSteps := 1000000) only [go_sem, true_implies, false_implies, e, o1, t, o3, n1, n2]
    repeat (first | refine ⟨rfl, ?_⟩ | refine ⟨by decide, ?_⟩ | refine ⟨⟨by decide, by decide⟩, ?_⟩ | refine ⟨decide_eq_true (by omega), ?_⟩ | refine ⟨⟨decide_eq_true (by omega), decide_eq_true (by omega)⟩, ?_⟩)
    try (first | done | decide | exact decide_eq_true (by omega) | exact ⟨decide_eq_true (by omega), decide_eq_true (by omega)⟩)
end Go.X

/- Vf -/
namespace Go.X
set_option maxRecDepth 100000
set_option maxHeartbeats 8000000
theorem rng_end {n i : Nat} {f : Nat → Bool} (h : n ≤ i) (hp : ∀ j, j < i → f j = true) : (List.range n).all f = true := by
  rw [List.all_eq_true]
  intro j hj
  exact hp j (by have := List.mem_range.1 hj; omega)
theorem rng_not {n i : Nat} {f : Nat → Bool} (h : i < n) (hf : f i = false) : (List.range n).all f = false := by
  cases g : (List.range n).all f
  · rfl
  · rw [List.all_eq_true] at g
    have := g i (List.mem_range.2 h)
    rw [hf] at this
    cases this
theorem rng_step {i : Nat} {f : Nat → Bool} (hp : ∀ j, j < i → f j = true) (hf : f i = true) : ∀ j, j < i + 1 → f j = true := by
  intro j hj
  by_cases e : j = i
  · subst e; exact hf
  · exact hp j (by omega)
def rowGood (l : List RowV) (i : Nat) : Bool := ((l[i]?.map RowV.ok).getD true) && (i == 0 || ((l[i - 1]?.bind fun x => l[i]?.map fun y => Op.bytesLess x.Key.toList y.Key.toList).getD true))
theorem rowGood_zero {l : List RowV} (h : 0 < l.length) : rowGood l 0 = l[0].ok := by
  simp only [rowGood, List.getElem?_eq_getElem h, Option.map_some, Option.getD_some, beq_self_eq_true, Bool.true_or, Bool.and_true]
theorem rowGood_succ {l : List RowV} {j : Nat} (h : j + 1 < l.length) : rowGood l (j + 1) = (l[j + 1].ok && Op.bytesLess (l[j]'(by omega)).Key.toList l[j + 1].Key.toList) := by
  have h0 : j < l.length := by omega
  simp only [rowGood, List.getElem?_eq_getElem h, Nat.add_sub_cancel, List.getElem?_eq_getElem h0, Option.map_some, Option.getD_some, Option.bind_some, show (j + 1 == 0) = false from rfl, Bool.false_or]
def MarkV.ok (m : MarkV) : Bool := win m.Who 1 9 && win m.Seq 0 65535 && win m.Code 0 6
def markGood (l : List MarkV) (i : Nat) : Bool := ((l[i]?.map MarkV.ok).getD true) && (i == 0 || ((l[i - 1]?.bind fun x => l[i]?.map fun y => !decide (x.Who ≥ y.Who)).getD true))
theorem markGood_zero {l : List MarkV} (h : 0 < l.length) : markGood l 0 = l[0].ok := by
  simp only [markGood, List.getElem?_eq_getElem h, Option.map_some, Option.getD_some, beq_self_eq_true, Bool.true_or, Bool.and_true]
theorem markGood_succ {l : List MarkV} {j : Nat} (h : j + 1 < l.length) : markGood l (j + 1) = (l[j + 1].ok && !decide ((l[j]'(by omega)).Who ≥ l[j + 1].Who)) := by
  have h0 : j < l.length := by omega
  simp only [markGood, List.getElem?_eq_getElem h, Nat.add_sub_cancel, List.getElem?_eq_getElem h0, Option.map_some, Option.getD_some, Option.bind_some, show (j + 1 == 0) = false from rfl, Bool.false_or]
def TabV.ok (t : TabV) : Bool := (List.range t.Rows.length).all (rowGood t.Rows) && (List.range t.Marks.length).all (markGood t.Marks) && (decide ((t.Rows.length : Int) ≤ 8) && win t.Phase 0 7)
def x_s_l12Mark : FnX := ⟨16, [.tmp 2],
  .seq (.reg [⟨none, some 1, 1, .box (.t 0)⟩,
   ⟨none, some 2, 2, .mv (.k (.one (.pv (.bool false))))⟩])
 (.seq (.reg [⟨none, some 3, 3, .faddr (.t 1) 0⟩,
   ⟨none, some 4, 4, .load none (.t 3)⟩,
   ⟨none, some 5, 5, .call 11 [0, 0, 0] [(.t 4), (.k (.one (.pv (.int .i64 1)))), (.k (.one (.pv (.int .i64 9))))]⟩,
   ⟨none, some 6, 6, .mv (.t 5)⟩,
   ⟨(some (6, true)), some 7, 7, .faddr (.t 1) 1⟩,
   ⟨(some (6, true)), some 8, 8, .load none (.t 7)⟩,
   ⟨(some (6, true)), some 9, 9, .call 52 [0] [(.t 8)]⟩,
   ⟨none, some 10, 10, .pick (.t 6) (.t 9) (.k (.one (.pv (.bool false))))⟩,
   ⟨none, some 11, 11, .mv (.t 10)⟩,
   ⟨(some (11, true)), some 12, 12, .faddr (.t 1) 2⟩,
   ⟨(some (11, true)), some 13, 13, .load none (.t 12)⟩,
   ⟨(some (11, true)), some 14, 14, .call 11 [0, 0, 0] [(.t 13), (.k (.one (.pv (.int .i64 0)))), (.k (.one (.pv (.int .i64 6))))]⟩,
   ⟨none, some 15, 15, .pick (.t 11) (.t 14) (.k (.one (.pv (.bool false))))⟩,
   ⟨none, some 2, 2, .mv (.t 15)⟩])
 (.ret))⟩
abbrev C_s_l12Mark (Te : Nat → List AV → Res → Prop) : Prop := ∀ (m : MarkV), Te 31 [.agg m.row] ⟨[.one (bT m.ok)], [m.row]⟩
theorem r_s_l12Mark {Te : Nat → List AV → Res → Prop} (c_s_l1In : C_s_l1In Te) (c_s_l1Word : C_s_l1Word Te) : ∀ (m : MarkV), RunFn Te x_s_l12Mark [.agg m.row] ⟨[.one (bT m.ok)], [m.row]⟩ := by
  intro m
  refine ⟨by simp -implicitDefEqProofs (maxSteps := 1000000) only [x_s_l12Mark, go_sem], ?_⟩
  simp -implicitDefEqProofs (maxSteps := 1000000) only [x_s_l12Mark, go_sem, true_implies, false_implies, MarkV.ok]
  repeat (first | refine ⟨rfl, ?_⟩ | refine ⟨by decide, ?_⟩ | refine ⟨⟨by decide, by decide⟩, ?_⟩ | refine ⟨decide_eq_true (by omega), ?_⟩ | refine ⟨⟨decide_eq_true (by omega), decide_eq_true (by omega)⟩, ?_⟩)
  try (first | done | decide | exact decide_eq_true (by omega) | exact ⟨decide_eq_true (by omega), decide_eq_true (by omega)⟩)
  refine .of (c_s_l1In _ _ _) ?_
  try simp -implicitDefEqProofs (maxSteps := 1000000) only [go_sem, true_implies, false_implies]
  repeat (first | refine ⟨rfl, ?_⟩ | refine ⟨by decide, ?_⟩ | refine ⟨⟨by decide, by decide⟩, ?_⟩ | refine ⟨decide_eq_true (by omega), ?_⟩ | refine ⟨⟨decide_eq_true (by omega), decide_eq_true (by omega)⟩, ?_⟩)
  try (first | done | decide | exact decide_eq_true (by omega) | exact ⟨decide_eq_true (by omega), decide_eq_true (by omega)⟩)
  cases g1 : win m.Who 1 9
  · try simp -implicitDefEqProofs (maxSteps := 1000000) only [go_sem, true_implies, false_implies, g1]
    repeat (first | refine ⟨rfl, ?_⟩ | refine ⟨by decide, ?_⟩ | refine ⟨⟨by decide, by decide⟩, ?_⟩ | refine ⟨decide_eq_true (by omega), ?_⟩ | refine ⟨⟨decide_eq_true (by omega), decide_eq_true (by omega)⟩, ?_⟩)
    try (first | done | decide | exact decide_eq_true (by omega) | exact ⟨decide_eq_true (by omega), decide_eq_true (by omega)⟩)
  try simp -implicitDefEqProofs (maxSteps := 1000000) only [go_sem, true_implies, false_implies, g1]
  repeat (first | refine ⟨rfl, ?_⟩ | refine ⟨by decide, ?_⟩ | refine ⟨⟨by decide, by decide⟩, ?_⟩ | refine ⟨decide_eq_true (by omega), ?_⟩ | refine ⟨⟨decide_eq_true (by omega), decide_eq_true (by omega)⟩, ?_⟩)
  try (first | done | decide | exact decide_eq_true (by omega) | exact ⟨decide_eq_true (by omega), decide_eq_true (by omega)⟩)
  refine .of (c_s_l1Word _) ?_
  try simp -implicitDefEqProofs (maxSteps := 1000000) only [go_sem, true_implies, false_implies]
  repeat (first | refine ⟨rfl, ?_⟩ | refine ⟨by decide, ?_⟩ | refine ⟨⟨by decide, by decide⟩, ?_⟩ | refine ⟨decide_eq_true (by omega), ?_⟩ | refine ⟨⟨decide_eq_true (by omega), decide_eq_true (by omega)⟩, ?_⟩)
  try (first | done | decide | exact decide_eq_true (by omega) | exact ⟨decide_eq_true (by omega), decide_eq_true (by omega)⟩)
  cases g2 : win m.Seq 0 65535
  · try simp -implicitDefEqProofs (maxSteps := 1000000) only [go_sem, true_implies, false_implies, g2]
    repeat (first | refine ⟨rfl, ?_⟩ | refine ⟨by decide, ?_⟩ | refine ⟨⟨by decide, by decide⟩, ?_⟩ | refine ⟨decide_eq_true (by omega), ?_⟩ | refine ⟨⟨decide_eq_true (by omega), decide_eq_true (by omega)⟩, ?_⟩)
    try (first | done | decide | exact decide_eq_true (by omega) | exact ⟨decide_eq_true (by omega), decide_eq_true (by omega)⟩)
  try simp -implicitDefEqProofs (maxSteps := 1000000) only [go_sem, true_implies, false_implies, g2]
  repeat (first | refine ⟨rfl, ?_⟩ | refine ⟨by decide, ?_⟩ | refine ⟨⟨by decide, by decide⟩, ?_⟩ | refine ⟨decide_eq_true (by omega), ?_⟩ | refine ⟨⟨decide_eq_true (by omega), decide_eq_true (by omega)⟩, ?_⟩)
  try (first | done | decide | exact decide_eq_true (by omega) | exact ⟨decide_eq_true (by omega), decide_eq_true (by omega)⟩)
  refine .of (c_s_l1In _ _ _) ?_
  try simp -implicitDefEqProofs (maxSteps := 1000000) only [go_sem, true_implies, false_implies]
  repeat (first | refine ⟨rfl, ?_⟩ | refine ⟨by decide, ?_⟩ | refine ⟨⟨by decide, by decide⟩, ?_⟩ | refine ⟨decide_eq_true (by omega), ?_⟩ | refine ⟨⟨decide_eq_true (by omega), decide_eq_true (by omega)⟩, ?_⟩)
  try (first | done | decide | exact decide_eq_true (by omega) | exact ⟨decide_eq_true (by omega), decide_eq_true (by omega)⟩)
def x_i_TabOk : FnX := ⟨85, [.tmp 2],
  .seq (.reg [⟨none, some 1, 1, .box (.t 0)⟩,
   ⟨none, some 2, 2, .mv (.k (.one (.pv (.bool false))))⟩])
 (.seq (.seq (.reg [⟨none, some 7, 7, .faddr (.t 1) 0⟩,
   ⟨none, some 8, 8, .load none (.t 7)⟩,
   ⟨none, some 9, 9, .len (.t 8)⟩,
   ⟨none, some 10, 10, .mv (.k (.one (.pv (.int .i64 0))))⟩])
 (.block 0 (.loop [1, 8, 9, 10] (.seq (.reg [⟨none, some 11, 11, .bin .lss (.t 10) (.t 9)⟩])
 (.seq (.cond 11 (.skip) (.exit 0))
 (.seq (.block 1 (.seq (.reg [⟨none, some 12, 12, .mv (.t 10)⟩,
   ⟨none, some 13, 13, .iaddr 7 (.t 8) (.t 10)⟩,
   ⟨none, some 14, 14, .load (some 7) (.t 13)⟩,
   ⟨none, some 4, 4, .alloc [.pv (.string ⟨#[]⟩), .pv (.int .i64 0), .nils 1, .pv (.int .i64 0), .nils 1, .pv (.int .i64 0), .pv (.bool false)]⟩,
   ⟨none, some 3, 3, .mv (.t 12)⟩,
   ⟨none, none, 100001, .store 7 (.t 4) (.t 14)⟩])
 (.seq (.draw [⟨none, some 15, 15, .load (some 7) (.t 4)⟩,
   ⟨none, some 16, 16, .call 36 [0] [(.t 15)]⟩,
   ⟨none, some 17, 17, .not (.t 16)⟩,
   ⟨none, some 18, 18, .mv (.t 17)⟩,
   ⟨(some (18, false)), some 19, 19, .mv (.t 3)⟩,
   ⟨(some (18, false)), some 20, 20, .bin .gtr (.t 19) (.k (.one (.pv (.int .i64 0))))⟩,
   ⟨(some (18, false)), some 21, 21, .mv (.t 20)⟩,
   ⟨(some (21, true)), some 22, 22, .faddr (.t 1) 0⟩,
   ⟨(some (21, true)), some 23, 23, .load none (.t 22)⟩,
   ⟨(some (21, true)), some 24, 24, .mv (.t 3)⟩,
   ⟨(some (21, true)), some 25, 25, .bin .sub (.t 24) (.k (.one (.pv (.int .i64 1))))⟩,
   ⟨(some (21, true)), some 26, 26, .iaddr 7 (.t 23) (.t 25)⟩,
   ⟨(some (21, true)), some 27, 27, .faddr (.t 26) 0⟩,
   ⟨(some (21, true)), some 28, 28, .load none (.t 27)⟩,
   ⟨(some (21, true)), some 29, 29, .faddr (.t 4) 0⟩,
   ⟨(some (21, true)), some 30, 30, .load none (.t 29)⟩,
   ⟨(some (21, true)), some 31, 31, .bin .geq (.t 28) (.t 30)⟩,
   ⟨(some (18, false)), some 32, 32, .pick (.t 21) (.t 31) (.k (.one (.pv (.bool false))))⟩,
   ⟨none, some 33, 33, .pick (.t 18) (.k (.one (.pv (.bool true)))) (.t 32)⟩] [[], [0], [1], [2, 1], [3], [4, 3], [5, 3, 3], [6], [7, 6], [6], [9, 6], [8, 10, 6], [11, 6], [12, 6], [6], [14, 6], [13, 15, 6], [6, 16, 3], [3, 17]])
 (.cond 33 (.seq (.reg [⟨none, some 2, 2, .mv (.k (.one (.pv (.bool false))))⟩])
 (.ret)) (.skip)))))
 (.reg [⟨none, some 34, 34, .bin .add (.t 10) (.k (.one (.pv (.int .i64 1))))⟩,
   ⟨none, some 10, 10, .mv (.t 34)⟩])))))))
 (.norm [1] (.seq (.seq (.reg [⟨none, some 35, 35, .faddr (.t 1) 2⟩,
   ⟨none, some 36, 36, .load none (.t 35)⟩,
   ⟨none, some 37, 37, .len (.t 36)⟩,
   ⟨none, some 38, 38, .mv (.k (.one (.pv (.int .i64 0))))⟩])
 (.block 2 (.loop [1, 36, 37, 38] (.seq (.reg [⟨none, some 39, 39, .bin .lss (.t 38) (.t 37)⟩])
 (.seq (.cond 39 (.skip) (.exit 2))
 (.seq (.block 3 (.seq (.reg [⟨none, some 40, 40, .mv (.t 38)⟩,
   ⟨none, some 41, 41, .iaddr 3 (.t 36) (.t 38)⟩,
   ⟨none, some 42, 42, .load (some 3) (.t 41)⟩,
   ⟨none, some 6, 6, .alloc [.pv (.int .i64 0), .pv (.int .i64 0), .pv (.int .i64 0)]⟩,
   ⟨none, some 5, 5, .mv (.t 40)⟩,
   ⟨none, none, 100002, .store 3 (.t 6) (.t 42)⟩])
 (.seq (.draw [⟨none, some 43, 43, .faddr (.t 6) 0⟩,
   ⟨none, some 44, 44, .load none (.t 43)⟩,
   ⟨none, some 45, 45, .call 14 [0, 0, 0] [(.t 44), (.k (.one (.pv (.int .i64 1)))), (.k (.one (.pv (.int .i64 9))))]⟩,
   ⟨none, some 46, 46, .not (.t 45)⟩,
   ⟨none, some 47, 47, .mv (.t 46)⟩,
   ⟨(some (47, false)), some 48, 48, .faddr (.t 6) 1⟩,
   ⟨(some (47, false)), some 49, 49, .load none (.t 48)⟩,
   ⟨(some (47, false)), some 50, 50, .call 37 [0] [(.t 49)]⟩,
   ⟨(some (47, false)), some 51, 51, .not (.t 50)⟩,
   ⟨none, some 52, 52, .pick (.t 47) (.k (.one (.pv (.bool true)))) (.t 51)⟩,
   ⟨none, some 53, 53, .mv (.t 52)⟩,
   ⟨(some (53, false)), some 54, 54, .faddr (.t 6) 2⟩,
   ⟨(some (53, false)), some 55, 55, .load none (.t 54)⟩,
   ⟨(some (53, false)), some 56, 56, .call 14 [0, 0, 0] [(.t 55), (.k (.one (.pv (.int .i64 0)))), (.k (.one (.pv (.int .i64 6))))]⟩,
   ⟨(some (53, false)), some 57, 57, .not (.t 56)⟩,
   ⟨none, some 58, 58, .pick (.t 53) (.k (.one (.pv (.bool true)))) (.t 57)⟩,
   ⟨none, some 59, 59, .mv (.t 58)⟩,
   ⟨(some (59, false)), some 60, 60, .mv (.t 5)⟩,
   ⟨(some (59, false)), some 61, 61, .bin .gtr (.t 60) (.k (.one (.pv (.int .i64 0))))⟩,
   ⟨(some (59, false)), some 62, 62, .mv (.t 61)⟩,
   ⟨(some (62, true)), some 63, 63, .faddr (.t 1) 2⟩,
   ⟨(some (62, true)), some 64, 64, .load none (.t 63)⟩,
   ⟨(some (62, true)), some 65, 65, .mv (.t 5)⟩,
   ⟨(some (62, true)), some 66, 66, .bin .sub (.t 65) (.k (.one (.pv (.int .i64 1))))⟩,
   ⟨(some (62, true)), some 67, 67, .iaddr 3 (.t 64) (.t 66)⟩,
   ⟨(some (62, true)), some 68, 68, .faddr (.t 67) 0⟩,
   ⟨(some (62, true)), some 69, 69, .load none (.t 68)⟩,
   ⟨(some (62, true)), some 70, 70, .faddr (.t 6) 0⟩,
   ⟨(some (62, true)), some 71, 71, .load none (.t 70)⟩,
   ⟨(some (62, true)), some 72, 72, .bin .geq (.t 69) (.t 71)⟩,
   ⟨(some (59, false)), some 73, 73, .pick (.t 62) (.t 72) (.k (.one (.pv (.bool false))))⟩,
   ⟨none, some 74, 74, .pick (.t 59) (.k (.one (.pv (.bool true)))) (.t 73)⟩] [[], [0], [1], [2], [3, 2], [4], [5, 4], [6, 4, 4], [7, 4], [4, 8], [9, 7], [10], [11, 10], [12, 10, 10], [13, 10], [10, 14], [15, 13], [16], [17, 16], [18, 16, 16], [19], [20, 19], [19], [22, 19], [21, 23, 19], [24, 19], [25, 19], [19], [27, 19], [26, 28, 19], [19, 29, 16], [16, 30]])
 (.cond 74 (.seq (.reg [⟨none, some 2, 2, .mv (.k (.one (.pv (.bool false))))⟩])
 (.ret)) (.skip)))))
 (.reg [⟨none, some 75, 75, .bin .add (.t 38) (.k (.one (.pv (.int .i64 1))))⟩,
   ⟨none, some 38, 38, .mv (.t 75)⟩])))))))
 (.norm [1] (.seq (.reg [⟨none, some 76, 76, .faddr (.t 1) 0⟩,
   ⟨none, some 77, 77, .load none (.t 76)⟩,
   ⟨none, some 78, 78, .len (.t 77)⟩,
   ⟨none, some 79, 79, .bin .leq (.t 78) (.k (.one (.pv (.int .i64 8))))⟩,
   ⟨none, some 80, 80, .mv (.t 79)⟩,
   ⟨(some (80, true)), some 81, 81, .faddr (.t 1) 1⟩,
   ⟨(some (80, true)), some 82, 82, .load none (.t 81)⟩,
   ⟨(some (80, true)), some 83, 83, .call 14 [0, 0, 0] [(.t 82), (.k (.one (.pv (.int .i64 0)))), (.k (.one (.pv (.int .i64 7))))]⟩,
   ⟨none, some 84, 84, .pick (.t 80) (.t 83) (.k (.one (.pv (.bool false))))⟩,
   ⟨none, some 2, 2, .mv (.t 84)⟩])
 (.ret))))))⟩
abbrev C_i_TabOk (Te : Nat → List AV → Res → Prop) : Prop := ∀ (t : TabV) (h : t.In (2 ^ 48)), Te 23 [.agg (t.enc false)] ⟨[.one (bT t.ok)], [t.enc false]⟩
theorem r_i_TabOk {Te : Nat → List AV → Res → Prop} (c_i_RowOk : C_i_RowOk Te) (c_i_within : C_i_within Te) (c_i_isWord : C_i_isWord Te) : ∀ (t : TabV) (h : t.In (2 ^ 48)), RunFn Te x_i_TabOk [.agg (t.enc false)] ⟨[.one (bT t.ok)], [t.enc false]⟩ := by
  intro t h
  refine ⟨by simp -implicitDefEqProofs (maxSteps := 1000000) only [x_i_TabOk, go_sem], ?_⟩
  obtain ⟨⟨hl, hR⟩, hM⟩ := h
  simp -implicitDefEqProofs (maxSteps := 1000000) only [x_i_TabOk, go_sem, true_implies, false_implies]
  repeat (first | refine ⟨rfl, ?_⟩ | refine ⟨by decide, ?_⟩ | refine ⟨⟨by decide, by decide⟩, ?_⟩ | refine ⟨decide_eq_true (by omega), ?_⟩ | refine ⟨⟨decide_eq_true (by omega), decide_eq_true (by omega)⟩, ?_⟩)
  try (first | done | decide | exact decide_eq_true (by omega) | exact ⟨decide_eq_true (by omega), decide_eq_true (by omega)⟩)
  refine loop_of (σ := Nat) (fun i => ⟨[(1, .bp 1 0), (8, .one (.ro 7 (t.Rows.map (RowV.enc false)))), (9, .one (.pv (.int .i64 t.Rows.length))), (10, .one (.pv (.int .i64 i)))], [(1, [.ro 7 (t.Rows.map (RowV.enc false)), .pv (.int .i64 t.Phase), .ro 3 (t.Marks.map MarkV.row)])], [(0, t.enc false)]⟩) (fun i => i ≤ t.Rows.length ∧ ∀ j, j < i → rowGood t.Rows j = true) (fun i => t.Rows.length - i) 0 ?_ ⟨Nat.zero_le _, fun j hj => absurd hj (Nat.not_lt_zero _)⟩ ?_
  · simp -implicitDefEqProofs (maxSteps := 1000000) only [go_sem]
    try rfl
  · rintro i ⟨hi, hp⟩
    cases q : decide ((i : Int) < (t.Rows.length : Int))
    · have eR := rng_end (f := rowGood t.Rows) (show t.Rows.length ≤ i by simp only [decide_eq_false_iff_not] at q; omega) hp
      try simp -implicitDefEqProofs (maxSteps := 1000000) only [go_sem, true_implies, false_implies, q]
      repeat (first | refine ⟨rfl, ?_⟩ | refine ⟨by decide, ?_⟩ | refine ⟨⟨by decide, by decide⟩, ?_⟩ | refine ⟨decide_eq_true (by omega), ?_⟩ | refine ⟨⟨decide_eq_true (by omega), decide_eq_true (by omega)⟩, ?_⟩)
      try (first | done | decide | exact decide_eq_true (by omega) | exact ⟨decide_eq_true (by omega), decide_eq_true (by omega)⟩)
      refine loop_of (σ := Nat) (fun i => ⟨[(1, .bp 1 0), (36, .one (.ro 3 (t.Marks.map MarkV.row))), (37, .one (.pv (.int .i64 t.Marks.length))), (38, .one (.pv (.int .i64 i)))], [(1, [.ro 7 (t.Rows.map (RowV.enc false)), .pv (.int .i64 t.Phase), .ro 3 (t.Marks.map MarkV.row)])], [(0, t.enc false)]⟩) (fun i => i ≤ t.Marks.length ∧ ∀ j, j < i → markGood t.Marks j = true) (fun i => t.Marks.length - i) 0 ?_ ⟨Nat.zero_le _, fun j hj => absurd hj (Nat.not_lt_zero _)⟩ ?_
      · simp -implicitDefEqProofs (maxSteps := 1000000) only [go_sem]
        try rfl
      · rintro i ⟨hi, hp⟩
        cases q : decide ((i : Int) < (t.Marks.length : Int))
        · have eM := rng_end (f := markGood t.Marks) (show t.Marks.length ≤ i by simp only [decide_eq_false_iff_not] at q; omega) hp
          try simp -implicitDefEqProofs (maxSteps := 1000000) only [go_sem, true_implies, false_implies, q]
          repeat (first | refine ⟨rfl, ?_⟩ | refine ⟨by decide, ?_⟩ | refine ⟨⟨by decide, by decide⟩, ?_⟩ | refine ⟨decide_eq_true (by omega), ?_⟩ | refine ⟨⟨decide_eq_true (by omega), decide_eq_true (by omega)⟩, ?_⟩)
          try (first | done | decide | exact decide_eq_true (by omega) | exact ⟨decide_eq_true (by omega), decide_eq_true (by omega)⟩)
          cases gl : decide ((t.Rows.length : Int) ≤ 8)
          · have e : t.ok = false := by simp only [TabV.ok, gl, Bool.and_false, Bool.false_and]
            try simp -implicitDefEqProofs (maxSteps := 1000000) only [go_sem, true_implies, false_implies, gl, e]
            repeat (first | refine ⟨rfl, ?_⟩ | refine ⟨by decide, ?_⟩ | refine ⟨⟨by decide, by decide⟩, ?_⟩ | refine ⟨decide_eq_true (by omega), ?_⟩ | refine ⟨⟨decide_eq_true (by omega), decide_eq_true (by omega)⟩, ?_⟩)
            try (first | done | decide | exact decide_eq_true (by omega) | exact ⟨decide_eq_true (by omega), decide_eq_true (by omega)⟩)
          · have e : t.ok = win t.Phase 0 7 := by simp only [TabV.ok, eR, eM, gl, Bool.true_and]
            try simp -implicitDefEqProofs (maxSteps := 1000000) only [go_sem, true_implies, false_implies, gl]
            repeat (first | refine ⟨rfl, ?_⟩ | refine ⟨by decide, ?_⟩ | refine ⟨⟨by decide, by decide⟩, ?_⟩ | refine ⟨decide_eq_true (by omega), ?_⟩ | refine ⟨⟨decide_eq_true (by omega), decide_eq_true (by omega)⟩, ?_⟩)
            try (first | done | decide | exact decide_eq_true (by omega) | exact ⟨decide_eq_true (by omega), decide_eq_true (by omega)⟩)
            refine .of (c_i_within _ _ _) ?_
            try simp -implicitDefEqProofs (maxSteps := 1000000) only [go_sem, true_implies, false_implies, e]
            repeat (first | refine ⟨rfl, ?_⟩ | refine ⟨by decide, ?_⟩ | refine ⟨⟨by decide, by decide⟩, ?_⟩ | refine ⟨decide_eq_true (by omega), ?_⟩ | refine ⟨⟨decide_eq_true (by omega), decide_eq_true (by omega)⟩, ?_⟩)
            try (first | done | decide | exact decide_eq_true (by omega) | exact ⟨decide_eq_true (by omega), decide_eq_true (by omega)⟩)
        · have k1 : i < t.Marks.length := by simp only [decide_eq_true_eq] at q; omega
          cases i with
          | zero =>
            have z : decide (((0 : Nat) : Int) > 0) = false := rfl
            have good0 := markGood_zero k1
            try simp -implicitDefEqProofs (maxSteps := 1000000) only [go_sem, true_implies, false_implies, q, List.getElem?_eq_getElem k1, z]
            repeat (first | refine ⟨rfl, ?_⟩ | refine ⟨by decide, ?_⟩ | refine ⟨⟨by decide, by decide⟩, ?_⟩ | refine ⟨decide_eq_true (by omega), ?_⟩ | refine ⟨⟨decide_eq_true (by omega), decide_eq_true (by omega)⟩, ?_⟩)
            try (first | done | decide | exact decide_eq_true (by omega) | exact ⟨decide_eq_true (by omega), decide_eq_true (by omega)⟩)
            refine .of (c_i_within _ _ _) ?_
            try simp -implicitDefEqProofs (maxSteps := 1000000) only [go_sem, true_implies, false_implies]
            repeat (first | refine ⟨rfl, ?_⟩ | refine ⟨by decide, ?_⟩ | refine ⟨⟨by decide, by decide⟩, ?_⟩ | refine ⟨decide_eq_true (by omega), ?_⟩ | refine ⟨⟨decide_eq_true (by omega), decide_eq_true (by omega)⟩, ?_⟩)
            try (first | done | decide | exact decide_eq_true (by omega) | exact ⟨decide_eq_true (by omega), decide_eq_true (by omega)⟩)
            cases a1 : win t.Marks[0].Who 1 9
            · have g : t.Marks[0].ok = false := by simp only [MarkV.ok, a1, Bool.false_and]
              have e : t.ok = false := by simp only [TabV.ok, rng_not k1 (good0.trans g), Bool.and_false, Bool.false_and]
              try simp -implicitDefEqProofs (maxSteps := 1000000) only [go_sem, true_implies, false_implies, e]
              repeat (first | refine ⟨rfl, ?_⟩ | refine ⟨by decide, ?_⟩ | refine ⟨⟨by decide, by decide⟩, ?_⟩ | refine ⟨decide_eq_true (by omega), ?_⟩ | refine ⟨⟨decide_eq_true (by omega), decide_eq_true (by omega)⟩, ?_⟩)
              try (first | done | decide | exact decide_eq_true (by omega) | exact ⟨decide_eq_true (by omega), decide_eq_true (by omega)⟩)
            try simp -implicitDefEqProofs (maxSteps := 1000000) only [go_sem, true_implies, false_implies]
            repeat (first | refine ⟨rfl, ?_⟩ | refine ⟨by decide, ?_⟩ | refine ⟨⟨by decide, by decide⟩, ?_⟩ | refine ⟨decide_eq_true (by omega), ?_⟩ | refine ⟨⟨decide_eq_true (by omega), decide_eq_true (by omega)⟩, ?_⟩)
            try (first | done | decide | exact decide_eq_true (by omega) | exact ⟨decide_eq_true (by omega), decide_eq_true (by omega)⟩)
            refine .of (c_i_isWord _) ?_
            try simp -implicitDefEqProofs (maxSteps := 1000000) only [go_sem, true_implies, false_implies]
            repeat (first | refine ⟨rfl, ?_⟩ | refine ⟨by decide, ?_⟩ | refine ⟨⟨by decide, by decide⟩, ?_⟩ | refine ⟨decide_eq_true (by omega), ?_⟩ | refine ⟨⟨decide_eq_true (by omega), decide_eq_true (by omega)⟩, ?_⟩)
            try (first | done | decide | exact decide_eq_true (by omega) | exact ⟨decide_eq_true (by omega), decide_eq_true (by omega)⟩)
            cases a2 : win t.Marks[0].Seq 0 65535
            · have g : t.Marks[0].ok = false := by simp only [MarkV.ok, a2, Bool.and_false, Bool.false_and]
              have e : t.ok = false := by simp only [TabV.ok, rng_not k1 (good0.trans g), Bool.and_false, Bool.false_and]
              try simp -implicitDefEqProofs (maxSteps := 1000000) only [go_sem, true_implies, false_implies, e]
              repeat (first | refine ⟨rfl, ?_⟩ | refine ⟨by decide, ?_⟩ | refine ⟨⟨by decide, by decide⟩, ?_⟩ | refine ⟨decide_eq_true (by omega), ?_⟩ | refine ⟨⟨decide_eq_true (by omega), decide_eq_true (by omega)⟩, ?_⟩)
              try (first | done | decide | exact decide_eq_true (by omega) | exact ⟨decide_eq_true (by omega), decide_eq_true (by omega)⟩)
            try simp -implicitDefEqProofs (maxSteps := 1000000) only [go_sem, true_implies, false_implies]
            repeat (first | refine ⟨rfl, ?_⟩ | refine ⟨by decide, ?_⟩ | refine ⟨⟨by decide, by decide⟩, ?_⟩ | refine ⟨decide_eq_true (by omega), ?_⟩ | refine ⟨⟨decide_eq_true (by omega), decide_eq_true (by omega)⟩, ?_⟩)
            try (first | done | decide | exact decide_eq_true (by omega) | exact ⟨decide_eq_true (by omega), decide_eq_true (by omega)⟩)
            refine .of (c_i_within _ _ _) ?_
            try simp -implicitDefEqProofs (maxSteps := 1000000) only [go_sem, true_implies, false_implies]
            repeat (first | refine ⟨rfl, ?_⟩ | refine ⟨by decide, ?_⟩ | refine ⟨⟨by decide, by decide⟩, ?_⟩ | refine ⟨decide_eq_true (by omega), ?_⟩ | refine ⟨⟨decide_eq_true (by omega), decide_eq_true (by omega)⟩, ?_⟩)
            try (first | done | decide | exact decide_eq_true (by omega) | exact ⟨decide_eq_true (by omega), decide_eq_true (by omega)⟩)
            cases a3 : win t.Marks[0].Code 0 6
            · have g : t.Marks[0].ok = false := by simp only [MarkV.ok, a3, Bool.and_false]
              have e : t.ok = false := by simp only [TabV.ok, rng_not k1 (good0.trans g), Bool.and_false, Bool.false_and]
              try simp -implicitDefEqProofs (maxSteps := 1000000) only [go_sem, true_implies, false_implies, e]
              repeat (first | refine ⟨rfl, ?_⟩ | refine ⟨by decide, ?_⟩ | refine ⟨⟨by decide, by decide⟩, ?_⟩ | refine ⟨decide_eq_true (by omega), ?_⟩ | refine ⟨⟨decide_eq_true (by omega), decide_eq_true (by omega)⟩, ?_⟩)
              try (first | done | decide | exact decide_eq_true (by omega) | exact ⟨decide_eq_true (by omega), decide_eq_true (by omega)⟩)
            have g : t.Marks[0].ok = true := by simp only [MarkV.ok, a1, a2, a3, Bool.and_true]
            try simp -implicitDefEqProofs (maxSteps := 1000000) only [go_sem, true_implies, false_implies, z]
            repeat (first | refine ⟨rfl, ?_⟩ | refine ⟨by decide, ?_⟩ | refine ⟨⟨by decide, by decide⟩, ?_⟩ | refine ⟨decide_eq_true (by omega), ?_⟩ | refine ⟨⟨decide_eq_true (by omega), decide_eq_true (by omega)⟩, ?_⟩)
            try (first | done | decide | exact decide_eq_true (by omega) | exact ⟨decide_eq_true (by omega), decide_eq_true (by omega)⟩)
            refine ⟨1, by rw [IntWalk.i64_in _ (by omega)]; rfl, ⟨k1, rng_step hp (good0.trans g)⟩, by omega⟩
          | succ j =>
            have k0 : j < t.Marks.length := by omega
            have z : decide (((j + 1 : Nat) : Int) > 0) = true := decide_eq_true (by omega)
            have ew : IntKind.i64.wrap (((j + 1 : Nat) : Int) - 1) = (j : Int) := by rw [IntWalk.i64_in _ (by omega)]; omega
            have good1 := markGood_succ k1
            try simp -implicitDefEqProofs (maxSteps := 1000000) only [go_sem, true_implies, false_implies, q, List.getElem?_eq_getElem k1, z]
            repeat (first | refine ⟨rfl, ?_⟩ | refine ⟨by decide, ?_⟩ | refine ⟨⟨by decide, by decide⟩, ?_⟩ | refine ⟨decide_eq_true (by omega), ?_⟩ | refine ⟨⟨decide_eq_true (by omega), decide_eq_true (by omega)⟩, ?_⟩)
            try (first | done | decide | exact decide_eq_true (by omega) | exact ⟨decide_eq_true (by omega), decide_eq_true (by omega)⟩)
            refine .of (c_i_within _ _ _) ?_
            try simp -implicitDefEqProofs (maxSteps := 1000000) only [go_sem, true_implies, false_implies]
            repeat (first | refine ⟨rfl, ?_⟩ | refine ⟨by decide, ?_⟩ | refine ⟨⟨by decide, by decide⟩, ?_⟩ | refine ⟨decide_eq_true (by omega), ?_⟩ | refine ⟨⟨decide_eq_true (by omega), decide_eq_true (by omega)⟩, ?_⟩)
            try (first | done | decide | exact decide_eq_true (by omega) | exact ⟨decide_eq_true (by omega), decide_eq_true (by omega)⟩)
            cases a1 : win t.Marks[j + 1].Who 1 9
            · have g : t.Marks[j + 1].ok = false := by simp only [MarkV.ok, a1, Bool.false_and]
              have gg : markGood t.Marks (j + 1) = false := by rw [good1, g, Bool.false_and]
              have e : t.ok = false := by simp only [TabV.ok, rng_not k1 gg, Bool.and_false, Bool.false_and]
              try simp -implicitDefEqProofs (maxSteps := 1000000) only [go_sem, true_implies, false_implies, e]
              repeat (first | refine ⟨rfl, ?_⟩ | refine ⟨by decide, ?_⟩ | refine ⟨⟨by decide, by decide⟩, ?_⟩ | refine ⟨decide_eq_true (by omega), ?_⟩ | refine ⟨⟨decide_eq_true (by omega), decide_eq_true (by omega)⟩, ?_⟩)
              try (first | done | decide | exact decide_eq_true (by omega) | exact ⟨decide_eq_true (by omega), decide_eq_true (by omega)⟩)
            try simp -implicitDefEqProofs (maxSteps := 1000000) only [go_sem, true_implies, false_implies]
            repeat (first | refine ⟨rfl, ?_⟩ | refine ⟨by decide, ?_⟩ | refine ⟨⟨by decide, by decide⟩, ?_⟩ | refine ⟨decide_eq_true (by omega), ?_⟩ | refine ⟨⟨decide_eq_true (by omega), decide_eq_true (by omega)⟩, ?_⟩)
            try (first | done | decide | exact decide_eq_true (by omega) | exact ⟨decide_eq_true (by omega), decide_eq_true (by omega)⟩)
            refine .of (c_i_isWord _) ?_
            try simp -implicitDefEqProofs (maxSteps := 1000000) only [go_sem, true_implies, false_implies]
            repeat (first | refine ⟨rfl, ?_⟩ | refine ⟨by decide, ?_⟩ | refine ⟨⟨by decide, by decide⟩, ?_⟩ | refine ⟨decide_eq_true (by omega), ?_⟩ | refine ⟨⟨decide_eq_true (by omega), decide_eq_true (by omega)⟩, ?_⟩)
            try (first | done | decide | exact decide_eq_true (by omega) | exact ⟨decide_eq_true (by omega), decide_eq_true (by omega)⟩)
            cases a2 : win t.Marks[j + 1].Seq 0 65535
            · have g : t.Marks[j + 1].ok = false := by simp only [MarkV.ok, a2, Bool.and_false, Bool.false_and]
              have gg : markGood t.Marks (j + 1) = false := by rw [good1, g, Bool.false_and]
              have e : t.ok = false := by simp only [TabV.ok, rng_not k1 gg, Bool.and_false, Bool.false_and]
              try simp -implicitDefEqProofs (maxSteps := 1000000) only [go_sem, true_implies, false_implies, e]
              repeat (first | refine ⟨rfl, ?_⟩ | refine ⟨by decide, ?_⟩ | refine ⟨⟨by decide, by decide⟩, ?_⟩ | refine ⟨decide_eq_true (by omega), ?_⟩ | refine ⟨⟨decide_eq_true (by omega), decide_eq_true (by omega)⟩, ?_⟩)
              try (first | done | decide | exact decide_eq_true (by omega) | exact ⟨decide_eq_true (by omega), decide_eq_true (by omega)⟩)
            try simp -implicitDefEqProofs (maxSteps := 1000000) only [go_sem, true_implies, false_implies]
            repeat (first | refine ⟨rfl, ?_⟩ | refine ⟨by decide, ?_⟩ | refine ⟨⟨by decide, by decide⟩, ?_⟩ | refine ⟨decide_eq_true (by omega), ?_⟩ | refine ⟨⟨decide_eq_true (by omega), decide_eq_true (by omega)⟩, ?_⟩)
            try (first | done | decide | exact decide_eq_true (by omega) | exact ⟨decide_eq_true (by omega), decide_eq_true (by omega)⟩)
            refine .of (c_i_within _ _ _) ?_
            try simp -implicitDefEqProofs (maxSteps := 1000000) only [go_sem, true_implies, false_implies]
            repeat (first | refine ⟨rfl, ?_⟩ | refine ⟨by decide, ?_⟩ | refine ⟨⟨by decide, by decide⟩, ?_⟩ | refine ⟨decide_eq_true (by omega), ?_⟩ | refine ⟨⟨decide_eq_true (by omega), decide_eq_true (by omega)⟩, ?_⟩)
            try (first | done | decide | exact decide_eq_true (by omega) | exact ⟨decide_eq_true (by omega), decide_eq_true (by omega)⟩)
            cases a3 : win t.Marks[j + 1].Code 0 6
            · have g : t.Marks[j + 1].ok = false := by simp only [MarkV.ok, a3, Bool.and_false]
              have gg : markGood t.Marks (j + 1) = false := by rw [good1, g, Bool.false_and]
              have e : t.ok = false := by simp only [TabV.ok, rng_not k1 gg, Bool.and_false, Bool.false_and]
              try simp -implicitDefEqProofs (maxSteps := 1000000) only [go_sem, true_implies, false_implies, e]
              repeat (first | refine ⟨rfl, ?_⟩ | refine ⟨by decide, ?_⟩ | refine ⟨⟨by decide, by decide⟩, ?_⟩ | refine ⟨decide_eq_true (by omega), ?_⟩ | refine ⟨⟨decide_eq_true (by omega), decide_eq_true (by omega)⟩, ?_⟩)
              try (first | done | decide | exact decide_eq_true (by omega) | exact ⟨decide_eq_true (by omega), decide_eq_true (by omega)⟩)
            have g : t.Marks[j + 1].ok = true := by simp only [MarkV.ok, a1, a2, a3, Bool.and_true]
            cases g2 : decide (t.Marks[j].Who ≥ t.Marks[j + 1].Who)
            · have gg : markGood t.Marks (j + 1) = true := by rw [good1, g, g2]; rfl
              try simp -implicitDefEqProofs (maxSteps := 1000000) only [go_sem, true_implies, false_implies, z, ew, List.getElem?_eq_getElem k0, List.getElem?_eq_getElem k1, g2]
              repeat (first | refine ⟨rfl, ?_⟩ | refine ⟨by decide, ?_⟩ | refine ⟨⟨by decide, by decide⟩, ?_⟩ | refine ⟨decide_eq_true (by omega), ?_⟩ | refine ⟨⟨decide_eq_true (by omega), decide_eq_true (by omega)⟩, ?_⟩)
              try (first | done | decide | exact decide_eq_true (by omega) | exact ⟨decide_eq_true (by omega), decide_eq_true (by omega)⟩)
              refine ⟨j + 2, by rw [IntWalk.i64_in _ (by omega)]; rfl, ⟨k1, rng_step hp gg⟩, by omega⟩
            · have gg : markGood t.Marks (j + 1) = false := by rw [good1, g2]; simp only [Bool.not_true, Bool.and_false]
              have e : t.ok = false := by simp only [TabV.ok, rng_not k1 gg, Bool.and_false, Bool.false_and]
              try simp -implicitDefEqProofs (maxSteps := 1000000) only [go_sem, true_implies, false_implies, z, ew, List.getElem?_eq_getElem k0, List.getElem?_eq_getElem k1, g2, e]
              repeat (first | refine ⟨rfl, ?_⟩ | refine ⟨by decide, ?_⟩ | refine ⟨⟨by decide, by decide⟩, ?_⟩ | refine ⟨decide_eq_true (by omega), ?_⟩ | refine ⟨⟨decide_eq_true (by omega), decide_eq_true (by omega)⟩, ?_⟩)
              try (first | done | decide | exact decide_eq_true (by omega) | exact ⟨decide_eq_true (by omega), decide_eq_true (by omega)⟩)
    · have k1 : i < t.Rows.length := by simp only [decide_eq_true_eq] at q; omega
      cases i with
      | zero =>
        have z : decide (((0 : Nat) : Int) > 0) = false := rfl
        have good0 := rowGood_zero k1
        try simp -implicitDefEqProofs (maxSteps := 1000000) only [go_sem, true_implies, false_implies, q, List.getElem?_eq_getElem k1, z]
        repeat (first | refine ⟨rfl, ?_⟩ | refine ⟨by decide, ?_⟩ | refine ⟨⟨by decide, by decide⟩, ?_⟩ | refine ⟨decide_eq_true (by omega), ?_⟩ | refine ⟨⟨decide_eq_true (by omega), decide_eq_true (by omega)⟩, ?_⟩)
        try (first | done | decide | exact decide_eq_true (by omega) | exact ⟨decide_eq_true (by omega), decide_eq_true (by omega)⟩)
        refine .of (c_i_RowOk t.Rows[0] (hR _ (List.getElem_mem k1))) ?_
        try simp -implicitDefEqProofs (maxSteps := 1000000) only [go_sem, true_implies, false_implies]
        repeat (first | refine ⟨rfl, ?_⟩ | refine ⟨by decide, ?_⟩ | refine ⟨⟨by decide, by decide⟩, ?_⟩ | refine ⟨decide_eq_true (by omega), ?_⟩ | refine ⟨⟨decide_eq_true (by omega), decide_eq_true (by omega)⟩, ?_⟩)
        try (first | done | decide | exact decide_eq_true (by omega) | exact ⟨decide_eq_true (by omega), decide_eq_true (by omega)⟩)
        cases g : t.Rows[0].ok
        · have e : t.ok = false := by simp only [TabV.ok, rng_not k1 (good0.trans g), Bool.false_and]
          try simp -implicitDefEqProofs (maxSteps := 1000000) only [go_sem, true_implies, false_implies, e]
          repeat (first | refine ⟨rfl, ?_⟩ | refine ⟨by decide, ?_⟩ | refine ⟨⟨by decide, by decide⟩, ?_⟩ | refine ⟨decide_eq_true (by omega), ?_⟩ | refine ⟨⟨decide_eq_true (by omega), decide_eq_true (by omega)⟩, ?_⟩)
          try (first | done | decide | exact decide_eq_true (by omega) | exact ⟨decide_eq_true (by omega), decide_eq_true (by omega)⟩)
        · try simp -implicitDefEqProofs (maxSteps := 1000000) only [go_sem, true_implies, false_implies, z]
          repeat (first | refine ⟨rfl, ?_⟩ | refine ⟨by decide, ?_⟩ | refine ⟨⟨by decide, by decide⟩, ?_⟩ | refine ⟨decide_eq_true (by omega), ?_⟩ | refine ⟨⟨decide_eq_true (by omega), decide_eq_true (by omega)⟩, ?_⟩)
          try (first | done | decide | exact decide_eq_true (by omega) | exact ⟨decide_eq_true (by omega), decide_eq_true (by omega)⟩)
          refine ⟨1, by rw [IntWalk.i64_in _ (by omega)]; rfl, ⟨k1, rng_step hp (good0.trans g)⟩, by omega⟩
      | succ j =>
        have k0 : j < t.Rows.length := by omega
        have z : decide (((j + 1 : Nat) : Int) > 0) = true := decide_eq_true (by omega)
        have ew : IntKind.i64.wrap (((j + 1 : Nat) : Int) - 1) = (j : Int) := by rw [IntWalk.i64_in _ (by omega)]; omega
        have good1 := rowGood_succ k1
        try simp -implicitDefEqProofs (maxSteps := 1000000) only [go_sem, true_implies, false_implies, q, List.getElem?_eq_getElem k1, z]
        repeat (first | refine ⟨rfl, ?_⟩ | refine ⟨by decide, ?_⟩ | refine ⟨⟨by decide, by decide⟩, ?_⟩ | refine ⟨decide_eq_true (by omega), ?_⟩ | refine ⟨⟨decide_eq_true (by omega), decide_eq_true (by omega)⟩, ?_⟩)
        try (first | done | decide | exact decide_eq_true (by omega) | exact ⟨decide_eq_true (by omega), decide_eq_true (by omega)⟩)
        refine .of (c_i_RowOk t.Rows[j + 1] (hR _ (List.getElem_mem k1))) ?_
        try simp -implicitDefEqProofs (maxSteps := 1000000) only [go_sem, true_implies, false_implies]
        repeat (first | refine ⟨rfl, ?_⟩ | refine ⟨by decide, ?_⟩ | refine ⟨⟨by decide, by decide⟩, ?_⟩ | refine ⟨decide_eq_true (by omega), ?_⟩ | refine ⟨⟨decide_eq_true (by omega), decide_eq_true (by omega)⟩, ?_⟩)
        try (first | done | decide | exact decide_eq_true (by omega) | exact ⟨decide_eq_true (by omega), decide_eq_true (by omega)⟩)
        cases g : t.Rows[j + 1].ok
        · have gg : rowGood t.Rows (j + 1) = false := by rw [good1, g, Bool.false_and]
          have e : t.ok = false := by simp only [TabV.ok, rng_not k1 gg, Bool.false_and]
          try simp -implicitDefEqProofs (maxSteps := 1000000) only [go_sem, true_implies, false_implies, e]
          repeat (first | refine ⟨rfl, ?_⟩ | refine ⟨by decide, ?_⟩ | refine ⟨⟨by decide, by decide⟩, ?_⟩ | refine ⟨decide_eq_true (by omega), ?_⟩ | refine ⟨⟨decide_eq_true (by omega), decide_eq_true (by omega)⟩, ?_⟩)
          try (first | done | decide | exact decide_eq_true (by omega) | exact ⟨decide_eq_true (by omega), decide_eq_true (by omega)⟩)
        · cases g2 : Op.bytesLess t.Rows[j].Key.toList t.Rows[j + 1].Key.toList
          · have gg : rowGood t.Rows (j + 1) = false := by rw [good1, g2, Bool.and_false]
            have e : t.ok = false := by simp only [TabV.ok, rng_not k1 gg, Bool.false_and]
            try simp -implicitDefEqProofs (maxSteps := 1000000) only [go_sem, true_implies, false_implies, z, ew, List.getElem?_eq_getElem k0, List.getElem?_eq_getElem k1, g2, e]
            repeat (first | refine ⟨rfl, ?_⟩ | refine ⟨by decide, ?_⟩ | refine ⟨⟨by decide, by decide⟩, ?_⟩ | refine ⟨decide_eq_true (by omega), ?_⟩ | refine ⟨⟨decide_eq_true (by omega), decide_eq_true (by omega)⟩, ?_⟩)
            try (first | done | decide | exact decide_eq_true (by omega) | exact ⟨decide_eq_true (by omega), decide_eq_true (by omega)⟩)
          · have gg : rowGood t.Rows (j + 1) = true := by rw [good1, g, g2]; rfl
            try simp -implicitDefEqProofs (maxSteps := 1000000) only [go_sem, true_implies, false_implies, z, ew, List.getElem?_eq_getElem k0, List.getElem?_eq_getElem k1, g2]
            repeat (first | refine ⟨rfl, ?_⟩ | refine ⟨by decide, ?_⟩ | refine ⟨⟨by decide, by decide⟩, ?_⟩ | refine ⟨decide_eq_true (by omega), ?_⟩ | refine ⟨⟨decide_eq_true (by omega), decide_eq_true (by omega)⟩, ?_⟩)
            try (first | done | decide | exact decide_eq_true (by omega) | exact ⟨decide_eq_true (by omega), decide_eq_true (by omega)⟩)
            refine ⟨j + 2, by rw [IntWalk.i64_in _ (by omega)]; rfl, ⟨k1, rng_step hp gg⟩, by omega⟩
def x_s_TabOk : FnX := ⟨82, [.tmp 2],
  .seq (.reg [⟨none, some 1, 1, .box (.t 0)⟩,
   ⟨none, some 2, 2, .mv (.k (.one (.pv (.bool false))))⟩])
 (.seq (.seq (.reg [⟨none, some 3, 3, .mv (.k (.one (.pv (.int .i64 0))))⟩])
 (.block 0 (.loop [1, 3] (.seq (.seq (.reg [⟨none, some 5, 5, .mv (.t 3)⟩,
   ⟨none, some 6, 6, .faddr (.t 1) 0⟩,
   ⟨none, some 7, 7, .load none (.t 6)⟩,
   ⟨none, some 8, 8, .len (.t 7)⟩,
   ⟨none, some 9, 9, .bin .lss (.t 5) (.t 8)⟩])
 (.cond 9 (.skip) (.exit 0)))
 (.seq (.block 1 (.seq (.draw [⟨none, some 12, 12, .faddr (.t 1) 0⟩,
   ⟨none, some 13, 13, .load none (.t 12)⟩,
   ⟨none, some 14, 14, .mv (.t 3)⟩,
   ⟨none, some 15, 15, .iaddr 7 (.t 13) (.t 14)⟩,
   ⟨none, some 16, 16, .load (some 7) (.t 15)⟩,
   ⟨none, some 17, 17, .call 30 [0] [(.t 16)]⟩,
   ⟨none, some 18, 18, .not (.t 17)⟩,
   ⟨none, some 19, 19, .mv (.t 18)⟩,
   ⟨(some (19, false)), some 20, 20, .mv (.t 3)⟩,
   ⟨(some (19, false)), some 21, 21, .bin .gtr (.t 20) (.k (.one (.pv (.int .i64 0))))⟩,
   ⟨(some (19, false)), some 22, 22, .mv (.t 21)⟩,
   ⟨(some (22, true)), some 23, 23, .faddr (.t 1) 0⟩,
   ⟨(some (22, true)), some 24, 24, .load none (.t 23)⟩,
   ⟨(some (22, true)), some 25, 25, .mv (.t 3)⟩,
   ⟨(some (22, true)), some 26, 26, .bin .sub (.t 25) (.k (.one (.pv (.int .i64 1))))⟩,
   ⟨(some (22, true)), some 27, 27, .iaddr 7 (.t 24) (.t 26)⟩,
   ⟨(some (22, true)), some 28, 28, .faddr (.t 27) 0⟩,
   ⟨(some (22, true)), some 29, 29, .load none (.t 28)⟩,
   ⟨(some (22, true)), some 30, 30, .faddr (.t 1) 0⟩,
   ⟨(some (22, true)), some 31, 31, .load none (.t 30)⟩,
   ⟨(some (22, true)), some 32, 32, .mv (.t 3)⟩,
   ⟨(some (22, true)), some 33, 33, .iaddr 7 (.t 31) (.t 32)⟩,
   ⟨(some (22, true)), some 34, 34, .faddr (.t 33) 0⟩,
   ⟨(some (22, true)), some 35, 35, .load none (.t 34)⟩,
   ⟨(some (22, true)), some 36, 36, .bin .geq (.t 29) (.t 35)⟩,
   ⟨(some (19, false)), some 37, 37, .pick (.t 22) (.t 36) (.k (.one (.pv (.bool false))))⟩,
   ⟨none, some 38, 38, .pick (.t 19) (.k (.one (.pv (.bool true)))) (.t 37)⟩] [[], [0], [], [1, 2], [3], [4], [5], [6, 5], [7], [8, 7], [9, 7, 7], [10], [11, 10], [10], [13, 10], [12, 14, 10], [15, 10], [16, 10], [10], [18, 10], [10], [19, 20, 10], [21, 10], [22, 10], [17, 23, 10], [10, 24, 7], [7, 25]])
 (.cond 38 (.seq (.reg [⟨none, some 2, 2, .mv (.k (.one (.pv (.bool false))))⟩])
 (.ret)) (.skip))))
 (.reg [⟨none, some 10, 10, .mv (.t 3)⟩,
   ⟨none, some 11, 11, .bin .add (.t 10) (.k (.one (.pv (.int .i64 1))))⟩,
   ⟨none, some 3, 3, .mv (.t 11)⟩]))))))
 (.norm [1] (.seq (.seq (.reg [⟨none, some 4, 4, .mv (.k (.one (.pv (.int .i64 0))))⟩])
 (.block 2 (.loop [1, 4] (.seq (.seq (.reg [⟨none, some 39, 39, .mv (.t 4)⟩,
   ⟨none, some 40, 40, .faddr (.t 1) 2⟩,
   ⟨none, some 41, 41, .load none (.t 40)⟩,
   ⟨none, some 42, 42, .len (.t 41)⟩,
   ⟨none, some 43, 43, .bin .lss (.t 39) (.t 42)⟩])
 (.cond 43 (.skip) (.exit 2)))
 (.seq (.block 3 (.seq (.draw [⟨none, some 46, 46, .faddr (.t 1) 2⟩,
   ⟨none, some 47, 47, .load none (.t 46)⟩,
   ⟨none, some 48, 48, .mv (.t 4)⟩,
   ⟨none, some 49, 49, .iaddr 3 (.t 47) (.t 48)⟩,
   ⟨none, some 50, 50, .load (some 3) (.t 49)⟩,
   ⟨none, some 51, 51, .call 31 [0] [(.t 50)]⟩,
   ⟨none, some 52, 52, .not (.t 51)⟩,
   ⟨none, some 53, 53, .mv (.t 52)⟩,
   ⟨(some (53, false)), some 54, 54, .mv (.t 4)⟩,
   ⟨(some (53, false)), some 55, 55, .bin .gtr (.t 54) (.k (.one (.pv (.int .i64 0))))⟩,
   ⟨(some (53, false)), some 56, 56, .mv (.t 55)⟩,
   ⟨(some (56, true)), some 57, 57, .faddr (.t 1) 2⟩,
   ⟨(some (56, true)), some 58, 58, .load none (.t 57)⟩,
   ⟨(some (56, true)), some 59, 59, .mv (.t 4)⟩,
   ⟨(some (56, true)), some 60, 60, .bin .sub (.t 59) (.k (.one (.pv (.int .i64 1))))⟩,
   ⟨(some (56, true)), some 61, 61, .iaddr 3 (.t 58) (.t 60)⟩,
   ⟨(some (56, true)), some 62, 62, .faddr (.t 61) 0⟩,
   ⟨(some (56, true)), some 63, 63, .load none (.t 62)⟩,
   ⟨(some (56, true)), some 64, 64, .faddr (.t 1) 2⟩,
   ⟨(some (56, true)), some 65, 65, .load none (.t 64)⟩,
   ⟨(some (56, true)), some 66, 66, .mv (.t 4)⟩,
   ⟨(some (56, true)), some 67, 67, .iaddr 3 (.t 65) (.t 66)⟩,
   ⟨(some (56, true)), some 68, 68, .faddr (.t 67) 0⟩,
   ⟨(some (56, true)), some 69, 69, .load none (.t 68)⟩,
   ⟨(some (56, true)), some 70, 70, .bin .geq (.t 63) (.t 69)⟩,
   ⟨(some (53, false)), some 71, 71, .pick (.t 56) (.t 70) (.k (.one (.pv (.bool false))))⟩,
   ⟨none, some 72, 72, .pick (.t 53) (.k (.one (.pv (.bool true)))) (.t 71)⟩] [[], [0], [], [1, 2], [3], [4], [5], [6, 5], [7], [8, 7], [9, 7, 7], [10], [11, 10], [10], [13, 10], [12, 14, 10], [15, 10], [16, 10], [10], [18, 10], [10], [19, 20, 10], [21, 10], [22, 10], [17, 23, 10], [10, 24, 7], [7, 25]])
 (.cond 72 (.seq (.reg [⟨none, some 2, 2, .mv (.k (.one (.pv (.bool false))))⟩])
 (.ret)) (.skip))))
 (.reg [⟨none, some 44, 44, .mv (.t 4)⟩,
   ⟨none, some 45, 45, .bin .add (.t 44) (.k (.one (.pv (.int .i64 1))))⟩,
   ⟨none, some 4, 4, .mv (.t 45)⟩]))))))
 (.norm [1] (.seq (.reg [⟨none, some 73, 73, .faddr (.t 1) 0⟩,
   ⟨none, some 74, 74, .load none (.t 73)⟩,
   ⟨none, some 75, 75, .len (.t 74)⟩,
   ⟨none, some 76, 76, .bin .leq (.t 75) (.k (.one (.pv (.int .i64 8))))⟩,
   ⟨none, some 77, 77, .mv (.t 76)⟩,
   ⟨(some (77, true)), some 78, 78, .faddr (.t 1) 1⟩,
   ⟨(some (77, true)), some 79, 79, .load none (.t 78)⟩,
   ⟨(some (77, true)), some 80, 80, .call 11 [0, 0, 0] [(.t 79), (.k (.one (.pv (.int .i64 0)))), (.k (.one (.pv (.int .i64 7))))]⟩,
   ⟨none, some 81, 81, .pick (.t 77) (.t 80) (.k (.one (.pv (.bool false))))⟩,
   ⟨none, some 2, 2, .mv (.t 81)⟩])
 (.ret))))))⟩
abbrev C_s_TabOk (Te : Nat → List AV → Res → Prop) : Prop := ∀ (t : TabV) (h : t.In (2 ^ 48)), Te 19 [.agg (t.enc false)] ⟨[.one (bT t.ok)], [t.enc false]⟩
theorem r_s_TabOk {Te : Nat → List AV → Res → Prop} (c_s_RowOk : C_s_RowOk Te) (c_s_l12Mark : C_s_l12Mark Te) (c_s_l1In : C_s_l1In Te) : ∀ (t : TabV) (h : t.In (2 ^ 48)), RunFn Te x_s_TabOk [.agg (t.enc false)] ⟨[.one (bT t.ok)], [t.enc false]⟩ := by
  intro t h
  refine ⟨by simp -implicitDefEqProofs (maxSteps := 1000000) only [x_s_TabOk, go_sem], ?_⟩
  obtain ⟨⟨hl, hR⟩, hM⟩ := h
  simp -implicitDefEqProofs (maxSteps := 1000000) only [x_s_TabOk, go_sem, true_implies, false_implies]
  repeat (first | refine ⟨rfl, ?_⟩ | refine ⟨by decide, ?_⟩ | refine ⟨⟨by decide, by decide⟩, ?_⟩ | refine ⟨decide_eq_true (by omega), ?_⟩ | refine ⟨⟨decide_eq_true (by omega), decide_eq_true (by omega)⟩, ?_⟩)
  try (first | done | decide | exact decide_eq_true (by omega) | exact ⟨decide_eq_true (by omega), decide_eq_true (by omega)⟩)
  refine loop_of (σ := Nat) (fun i => ⟨[(1, .bp 1 0), (3, .one (.pv (.int .i64 i)))], [(1, [.ro 7 (t.Rows.map (RowV.enc false)), .pv (.int .i64 t.Phase), .ro 3 (t.Marks.map MarkV.row)])], [(0, t.enc false)]⟩) (fun i => i ≤ t.Rows.length ∧ ∀ j, j < i → rowGood t.Rows j = true) (fun i => t.Rows.length - i) 0 ?_ ⟨Nat.zero_le _, fun j hj => absurd hj (Nat.not_lt_zero _)⟩ ?_
  · simp -implicitDefEqProofs (maxSteps := 1000000) only [go_sem]
    try rfl
  · rintro i ⟨hi, hp⟩
    cases q : decide ((i : Int) < (t.Rows.length : Int))
    · have eR := rng_end (f := rowGood t.Rows) (show t.Rows.length ≤ i by simp only [decide_eq_false_iff_not] at q; omega) hp
      try simp -implicitDefEqProofs (maxSteps := 1000000) only [go_sem, true_implies, false_implies, q]
      repeat (first | refine ⟨rfl, ?_⟩ | refine ⟨by decide, ?_⟩ | refine ⟨⟨by decide, by decide⟩, ?_⟩ | refine ⟨decide_eq_true (by omega), ?_⟩ | refine ⟨⟨decide_eq_true (by omega), decide_eq_true (by omega)⟩, ?_⟩)
      try (first | done | decide | exact decide_eq_true (by omega) | exact ⟨decide_eq_true (by omega), decide_eq_true (by omega)⟩)
      refine loop_of (σ := Nat) (fun i => ⟨[(1, .bp 1 0), (4, .one (.pv (.int .i64 i)))], [(1, [.ro 7 (t.Rows.map (RowV.enc false)), .pv (.int .i64 t.Phase), .ro 3 (t.Marks.map MarkV.row)])], [(0, t.enc false)]⟩) (fun i => i ≤ t.Marks.length ∧ ∀ j, j < i → markGood t.Marks j = true) (fun i => t.Marks.length - i) 0 ?_ ⟨Nat.zero_le _, fun j hj => absurd hj (Nat.not_lt_zero _)⟩ ?_
      · simp -implicitDefEqProofs (maxSteps := 1000000) only [go_sem]
        try rfl
      · rintro i ⟨hi, hp⟩
        cases q : decide ((i : Int) < (t.Marks.length : Int))
        · have eM := rng_end (f := markGood t.Marks) (show t.Marks.length ≤ i by simp only [decide_eq_false_iff_not] at q; omega) hp
          try simp -implicitDefEqProofs (maxSteps := 1000000) only [go_sem, true_implies, false_implies, q]
          repeat (first | refine ⟨rfl, ?_⟩ | refine ⟨by decide, ?_⟩ | refine ⟨⟨by decide, by decide⟩, ?_⟩ | refine ⟨decide_eq_true (by omega), ?_⟩ | refine ⟨⟨decide_eq_true (by omega), decide_eq_true (by omega)⟩, ?_⟩)
          try (first | done | decide | exact decide_eq_true (by omega) | exact ⟨decide_eq_true (by omega), decide_eq_true (by omega)⟩)
          cases gl : decide ((t.Rows.length : Int) ≤ 8)
          · have e : t.ok = false := by simp only [TabV.ok, gl, Bool.and_false, Bool.false_and]
            try simp -implicitDefEqProofs (maxSteps := 1000000) only [go_sem, true_implies, false_implies, gl, e]
            repeat (first | refine ⟨rfl, ?_⟩ | refine ⟨by decide, ?_⟩ | refine ⟨⟨by decide, by decide⟩, ?_⟩ | refine ⟨decide_eq_true (by omega), ?_⟩ | refine ⟨⟨decide_eq_true (by omega), decide_eq_true (by omega)⟩, ?_⟩)
            try (first | done | decide | exact decide_eq_true (by omega) | exact ⟨decide_eq_true (by omega), decide_eq_true (by omega)⟩)
          · have e : t.ok = win t.Phase 0 7 := by simp only [TabV.ok, eR, eM, gl, Bool.true_and]
            try simp -implicitDefEqProofs (maxSteps := 1000000) only [go_sem, true_implies, false_implies, gl]
            repeat (first | refine ⟨rfl, ?_⟩ | refine ⟨by decide, ?_⟩ | refine ⟨⟨by decide, by decide⟩, ?_⟩ | refine ⟨decide_eq_true (by omega), ?_⟩ | refine ⟨⟨decide_eq_true (by omega), decide_eq_true (by omega)⟩, ?_⟩)
            try (first | done | decide | exact decide_eq_true (by omega) | exact ⟨decide_eq_true (by omega), decide_eq_true (by omega)⟩)
            refine .of (c_s_l1In _ _ _) ?_
            try simp -implicitDefEqProofs (maxSteps := 1000000) only [go_sem, true_implies, false_implies, e]
            repeat (first | refine ⟨rfl, ?_⟩ | refine ⟨by decide, ?_⟩ | refine ⟨⟨by decide, by decide⟩, ?_⟩ | refine ⟨decide_eq_true (by omega), ?_⟩ | refine ⟨⟨decide_eq_true (by omega), decide_eq_true (by omega)⟩, ?_⟩)
            try (first | done | decide | exact decide_eq_true (by omega) | exact ⟨decide_eq_true (by omega), decide_eq_true (by omega)⟩)
        · have k1 : i < t.Marks.length := by simp only [decide_eq_true_eq] at q; omega
          cases i with
          | zero =>
            have z : decide (((0 : Nat) : Int) > 0) = false := rfl
            have good0 := markGood_zero k1
            try simp -implicitDefEqProofs (maxSteps := 1000000) only [go_sem, true_implies, false_implies, q, List.getElem?_eq_getElem k1, z]
            repeat (first | refine ⟨rfl, ?_⟩ | refine ⟨by decide, ?_⟩ | refine ⟨⟨by decide, by decide⟩, ?_⟩ | refine ⟨decide_eq_true (by omega), ?_⟩ | refine ⟨⟨decide_eq_true (by omega), decide_eq_true (by omega)⟩, ?_⟩)
            try (first | done | decide | exact decide_eq_true (by omega) | exact ⟨decide_eq_true (by omega), decide_eq_true (by omega)⟩)
            refine .of (c_s_l12Mark t.Marks[0]) ?_
            try simp -implicitDefEqProofs (maxSteps := 1000000) only [go_sem, true_implies, false_implies]
            repeat (first | refine ⟨rfl, ?_⟩ | refine ⟨by decide, ?_⟩ | refine ⟨⟨by decide, by decide⟩, ?_⟩ | refine ⟨decide_eq_true (by omega), ?_⟩ | refine ⟨⟨decide_eq_true (by omega), decide_eq_true (by omega)⟩, ?_⟩)
            try (first | done | decide | exact decide_eq_true (by omega) | exact ⟨decide_eq_true (by omega), decide_eq_true (by omega)⟩)
            cases g : t.Marks[0].ok
            · have e : t.ok = false := by simp only [TabV.ok, rng_not k1 (good0.trans g), Bool.and_false, Bool.false_and]
              try simp -implicitDefEqProofs (maxSteps := 1000000) only [go_sem, true_implies, false_implies, e]
              repeat (first | refine ⟨rfl, ?_⟩ | refine ⟨by decide, ?_⟩ | refine ⟨⟨by decide, by decide⟩, ?_⟩ | refine ⟨decide_eq_true (by omega), ?_⟩ | refine ⟨⟨decide_eq_true (by omega), decide_eq_true (by omega)⟩, ?_⟩)
              try (first | done | decide | exact decide_eq_true (by omega) | exact ⟨decide_eq_true (by omega), decide_eq_true (by omega)⟩)
            · try simp -implicitDefEqProofs (maxSteps := 1000000) only [go_sem, true_implies, false_implies, z]
              repeat (first | refine ⟨rfl, ?_⟩ | refine ⟨by decide, ?_⟩ | refine ⟨⟨by decide, by decide⟩, ?_⟩ | refine ⟨decide_eq_true (by omega), ?_⟩ | refine ⟨⟨decide_eq_true (by omega), decide_eq_true (by omega)⟩, ?_⟩)
              try (first | done | decide | exact decide_eq_true (by omega) | exact ⟨decide_eq_true (by omega), decide_eq_true (by omega)⟩)
              refine ⟨1, by rw [IntWalk.i64_in _ (by omega)]; rfl, ⟨k1, rng_step hp (good0.trans g)⟩, by omega⟩
          | succ j =>
            have k0 : j < t.Marks.length := by omega
            have z : decide (((j + 1 : Nat) : Int) > 0) = true := decide_eq_true (by omega)
            have ew : IntKind.i64.wrap (((j + 1 : Nat) : Int) - 1) = (j : Int) := by rw [IntWalk.i64_in _ (by omega)]; omega
            have good1 := markGood_succ k1
            try simp -implicitDefEqProofs (maxSteps := 1000000) only [go_sem, true_implies, false_implies, q, List.getElem?_eq_getElem k1, z]
            repeat (first | refine ⟨rfl, ?_⟩ | refine ⟨by decide, ?_⟩ | refine ⟨⟨by decide, by decide⟩, ?_⟩ | refine ⟨decide_eq_true (by omega), ?_⟩ | refine ⟨⟨decide_eq_true (by omega), decide_eq_true (by omega)⟩, ?_⟩)
            try (first | done | decide | exact decide_eq_true (by omega) | exact ⟨decide_eq_true (by omega), decide_eq_true (by omega)⟩)
            refine .of (c_s_l12Mark t.Marks[j + 1]) ?_
            try simp -implicitDefEqProofs (maxSteps := 1000000) only [go_sem, true_implies, false_implies]
            repeat (first | refine ⟨rfl, ?_⟩ | refine ⟨by decide, ?_⟩ | refine ⟨⟨by decide, by decide⟩, ?_⟩ | refine ⟨decide_eq_true (by omega), ?_⟩ | refine ⟨⟨decide_eq_true (by omega), decide_eq_true (by omega)⟩, ?_⟩)
            try (first | done | decide | exact decide_eq_true (by omega) | exact ⟨decide_eq_true (by omega), decide_eq_true (by omega)⟩)
            cases g : t.Marks[j + 1].ok
            · have gg : markGood t.Marks (j + 1) = false := by rw [good1, g, Bool.false_and]
              have e : t.ok = false := by simp only [TabV.ok, rng_not k1 gg, Bool.and_false, Bool.false_and]
              try simp -implicitDefEqProofs (maxSteps := 1000000) only [go_sem, true_implies, false_implies, e]
              repeat (first | refine ⟨rfl, ?_⟩ | refine ⟨by decide, ?_⟩ | refine ⟨⟨by decide, by decide⟩, ?_⟩ | refine ⟨decide_eq_true (by omega), ?_⟩ | refine ⟨⟨decide_eq_true (by omega), decide_eq_true (by omega)⟩, ?_⟩)
              try (first | done | decide | exact decide_eq_true (by omega) | exact ⟨decide_eq_true (by omega), decide_eq_true (by omega)⟩)
            · cases g2 : decide (t.Marks[j].Who ≥ t.Marks[j + 1].Who)
              · have gg : markGood t.Marks (j + 1) = true := by rw [good1, g, g2]; rfl
                try simp -implicitDefEqProofs (maxSteps := 1000000) only [go_sem, true_implies, false_implies, z, ew, List.getElem?_eq_getElem k0, List.getElem?_eq_getElem k1, g2]
                repeat (first | refine ⟨rfl, ?_⟩ | refine ⟨by decide, ?_⟩ | refine ⟨⟨by decide, by decide⟩, ?_⟩ | refine ⟨decide_eq_true (by omega), ?_⟩ | refine ⟨⟨decide_eq_true (by omega), decide_eq_true (by omega)⟩, ?_⟩)
                try (first | done | decide | exact decide_eq_true (by omega) | exact ⟨decide_eq_true (by omega), decide_eq_true (by omega)⟩)
                refine ⟨j + 2, by rw [IntWalk.i64_in _ (by omega)]; rfl, ⟨k1, rng_step hp gg⟩, by omega⟩
              · have gg : markGood t.Marks (j + 1) = false := by rw [good1, g2]; simp only [Bool.not_true, Bool.and_false]
                have e : t.ok = false := by simp only [TabV.ok, rng_not k1 gg, Bool.and_false, Bool.false_and]
                try simp -implicitDefEqProofs (maxSteps := 1000000) only [go_sem, true_implies, false_implies, z, ew, List.getElem?_eq_getElem k0, List.getElem?_eq_getElem k1, g2, e]
                repeat (first | refine ⟨rfl, ?_⟩ | refine ⟨by decide, ?_⟩ | refine ⟨⟨by decide, by decide⟩, ?_⟩ | refine ⟨decide_eq_true (by omega), ?_⟩ | refine ⟨⟨decide_eq_true (by omega), decide_eq_true (by omega)⟩, ?_⟩)
                try (first | done | decide | exact decide_eq_true (by omega) | exact ⟨decide_eq_true (by omega), decide_eq_true (by omega)⟩)
    · have k1 : i < t.Rows.length := by simp only [decide_eq_true_eq] at q; omega
      cases i with
      | zero =>
        have z : decide (((0 : Nat) : Int) > 0) = false := rfl
        have good0 := rowGood_zero k1
        try simp -implicitDefEqProofs (maxSteps := 1000000) only [go_sem, true_implies, false_implies, q, List.getElem?_eq_getElem k1, z]
        repeat (first | refine ⟨rfl, ?_⟩ | refine ⟨by decide, ?_⟩ | refine ⟨⟨by decide, by decide⟩, ?_⟩ | refine ⟨decide_eq_true (by omega), ?_⟩ | refine ⟨⟨decide_eq_true (by omega), decide_eq_true (by omega)⟩, ?_⟩)
        try (first | done | decide | exact decide_eq_true (by omega) | exact ⟨decide_eq_true (by omega), decide_eq_true (by omega)⟩)
        refine .of (c_s_RowOk t.Rows[0] (hR _ (List.getElem_mem k1))) ?_
        try simp -implicitDefEqProofs (maxSteps := 1000000) only [go_sem, true_implies, false_implies]
        repeat (first | refine ⟨rfl, ?_⟩ | refine ⟨by decide, ?_⟩ | refine ⟨⟨by decide, by decide⟩, ?_⟩ | refine ⟨decide_eq_true (by omega), ?_⟩ | refine ⟨⟨decide_eq_true (by omega), decide_eq_true (by omega)⟩, ?_⟩)
        try (first | done | decide | exact decide_eq_true (by omega) | exact ⟨decide_eq_true (by omega), decide_eq_true (by omega)⟩)
        cases g : t.Rows[0].ok
        · have e : t.ok = false := by simp only [TabV.ok, rng_not k1 (good0.trans g), Bool.false_and]
          try simp -implicitDefEqProofs (maxSteps := 1000000) only [go_sem, true_implies, false_implies, e]
          repeat (first | refine ⟨rfl, ?_⟩ | refine ⟨by decide, ?_⟩ | refine ⟨⟨by decide, by decide⟩, ?_⟩ | refine ⟨decide_eq_true (by omega), ?_⟩ | refine ⟨⟨decide_eq_true (by omega), decide_eq_true (by omega)⟩, ?_⟩)
          try (first | done | decide | exact decide_eq_true (by omega) | exact ⟨decide_eq_true (by omega), decide_eq_true (by omega)⟩)
        · try simp -implicitDefEqProofs (maxSteps := 1000000) only [go_sem, true_implies, false_implies, z]
          repeat (first | refine ⟨rfl, ?_⟩ | refine ⟨by decide, ?_⟩ | refine ⟨⟨by decide, by decide⟩, ?_⟩ | refine ⟨decide_eq_true (by omega), ?_⟩ | refine ⟨⟨decide_eq_true (by omega), decide_eq_true (by omega)⟩, ?_⟩)
          try (first | done | decide | exact decide_eq_true (by omega) | exact ⟨decide_eq_true (by omega), decide_eq_true (by omega)⟩)
          refine ⟨1, by rw [IntWalk.i64_in _ (by omega)]; rfl, ⟨k1, rng_step hp (good0.trans g)⟩, by omega⟩
      | succ j =>
        have k0 : j < t.Rows.length := by omega
        have z : decide (((j + 1 : Nat) : Int) > 0) = true := decide_eq_true (by omega)
        have ew : IntKind.i64.wrap (((j + 1 : Nat) : Int) - 1) = (j : Int) := by rw [IntWalk.i64_in _ (by omega)]; omega
        have good1 := rowGood_succ k1
        try simp -implicitDefEqProofs (maxSteps := 1000000) only [go_sem, true_implies, false_implies, q, List.getElem?_eq_getElem k1, z]
        repeat (first | refine ⟨rfl, ?_⟩ | refine ⟨by decide, ?_⟩ | refine ⟨⟨by decide, by decide⟩, ?_⟩ | refine ⟨decide_eq_true (by omega), ?_⟩ | refine ⟨⟨decide_eq_true (by omega), decide_eq_true (by omega)⟩, ?_⟩)
        try (first | done | decide | exact decide_eq_true (by omega) | exact ⟨decide_eq_true (by omega), decide_eq_true (by omega)⟩)
        refine .of (c_s_RowOk t.Rows[j + 1] (hR _ (List.getElem_mem k1))) ?_
        try simp -implicitDefEqProofs (maxSteps := 1000000) only [go_sem, true_implies, false_implies]
        repeat (first | refine ⟨rfl, ?_⟩ | refine ⟨by decide, ?_⟩ | refine ⟨⟨by decide, by decide⟩, ?_⟩ | refine ⟨decide_eq_true (by omega), ?_⟩ | refine ⟨⟨decide_eq_true (by omega), decide_eq_true (by omega)⟩, ?_⟩)
        try (first | done | decide | exact decide_eq_true (by omega) | exact ⟨decide_eq_true (by omega), decide_eq_true (by omega)⟩)
        cases g : t.Rows[j + 1].ok
        · have gg : rowGood t.Rows (j + 1) = false := by rw [good1, g, Bool.false_and]
          have e : t.ok = false := by simp only [TabV.ok, rng_not k1 gg, Bool.false_and]
          try simp -implicitDefEqProofs (maxSteps := 1000000) only [go_sem, true_implies, false_implies, e]
          repeat (first | refine ⟨rfl, ?_⟩ | refine ⟨by decide, ?_⟩ | refine ⟨⟨by decide, by decide⟩, ?_⟩ | refine ⟨decide_eq_true (by omega), ?_⟩ | refine ⟨⟨decide_eq_true (by omega), decide_eq_true (by omega)⟩, ?_⟩)
          try (first | done | decide | exact decide_eq_true (by omega) | exact ⟨decide_eq_true (by omega), decide_eq_true (by omega)⟩)
        · cases g2 : Op.bytesLess t.Rows[j].Key.toList t.Rows[j + 1].Key.toList
          · have gg : rowGood t.Rows (j + 1) = false := by rw [good1, g2, Bool.and_false]
            have e : t.ok = false := by simp only [TabV.ok, rng_not k1 gg, Bool.false_and]
            try simp -implicitDefEqProofs (maxSteps := 1000000) only [go_sem, true_implies, false_implies, z, ew, List.getElem?_eq_getElem k0, List.getElem?_eq_getElem k1, g2, e]
            repeat (first | refine ⟨rfl, ?_⟩ | refine ⟨by decide, ?_⟩ | refine ⟨⟨by decide, by decide⟩, ?_⟩ | refine ⟨decide_eq_true (by omega), ?_⟩ | refine ⟨⟨decide_eq_true (by omega), decide_eq_true (by omega)⟩, ?_⟩)
            try (first | done | decide | exact decide_eq_true (by omega) | exact ⟨decide_eq_true (by omega), decide_eq_true (by omega)⟩)
          · have gg : rowGood t.Rows (j + 1) = true := by rw [good1, g, g2]; rfl
            try simp -implicitDefEqProofs (maxSteps := 1000000) only [go_sem, true_implies, false_implies, z, ew, List.getElem?_eq_getElem k0, List.getElem?_eq_getElem k1, g2]
            repeat (first | refine ⟨rfl, ?_⟩ | refine ⟨by decide, ?_⟩ | refine ⟨⟨by decide, by decide⟩, ?_⟩ | refine ⟨decide_eq_true (by omega), ?_⟩ | refine ⟨⟨decide_eq_true (by omega), decide_eq_true (by omega)⟩, ?_⟩)
            try (first | done | decide | exact decide_eq_true (by omega) | exact ⟨decide_eq_true (by omega), decide_eq_true (by omega)⟩)
            refine ⟨j + 2, by rw [IntWalk.i64_in _ (by omega)]; rfl, ⟨k1, rng_step hp gg⟩, by omega⟩
end Go.X

/- Vg -/
namespace Go.X
set_option maxRecDepth 100000
set_option maxHeartbeats 8000000
def secGood (l : List UInt8) : Bool := !decide ((l.length : Int) > 120)
def wrGood (n : Nat) (w : WrV) : Bool := win w.N 0 ((n : Int) - 1) && !decide ((w.B.length : Int) > 120)
def DevV.ok (d : DevV) : Bool := win d.Secs.length 1 64 && decide ((d.Cache.length : Int) ≤ 40) && win d.Fuse (-1) 1000 && d.Secs.all secGood && d.Cache.all (wrGood d.Secs.length)
theorem gt_le (n : Nat) : decide ((n : Int) > 40) = !decide ((n : Int) ≤ 40) := by
  by_cases h : (n : Int) ≤ 40
  · rw [decide_eq_true h, decide_eq_false (by omega)]; rfl
  · rw [decide_eq_false h, decide_eq_true (by omega)]; rfl
def x_i_DevOk : FnX := ⟨57, [.tmp 2],
  .seq (.reg [⟨none, some 1, 1, .box (.t 0)⟩,
   ⟨none, some 2, 2, .mv (.k (.one (.pv (.bool false))))⟩])
 (.seq (.seq (.reg [⟨none, some 7, 7, .faddr (.t 1) 0⟩,
   ⟨none, some 8, 8, .load none (.t 7)⟩,
   ⟨none, some 9, 9, .len (.t 8)⟩,
   ⟨none, some 10, 10, .call 14 [0, 0, 0] [(.t 9), (.k (.one (.pv (.int .i64 1)))), (.k (.one (.pv (.int .i64 64))))]⟩,
   ⟨none, some 11, 11, .not (.t 10)⟩,
   ⟨none, some 12, 12, .mv (.t 11)⟩,
   ⟨(some (12, false)), some 13, 13, .faddr (.t 1) 1⟩,
   ⟨(some (12, false)), some 14, 14, .load none (.t 13)⟩,
   ⟨(some (12, false)), some 15, 15, .len (.t 14)⟩,
   ⟨(some (12, false)), some 16, 16, .bin .gtr (.t 15) (.k (.one (.pv (.int .i64 40))))⟩,
   ⟨none, some 17, 17, .pick (.t 12) (.k (.one (.pv (.bool true)))) (.t 16)⟩,
   ⟨none, some 18, 18, .mv (.t 17)⟩,
   ⟨(some (18, false)), some 19, 19, .faddr (.t 1) 2⟩,
   ⟨(some (18, false)), some 20, 20, .load none (.t 19)⟩,
   ⟨(some (18, false)), some 21, 21, .call 14 [0, 0, 0] [(.t 20), (.k (.one (.pv (.int .i64 (-1))))), (.k (.one (.pv (.int .i64 1000))))]⟩,
   ⟨(some (18, false)), some 22, 22, .not (.t 21)⟩,
   ⟨none, some 23, 23, .pick (.t 18) (.k (.one (.pv (.bool true)))) (.t 22)⟩])
 (.cond 23 (.seq (.reg [⟨none, some 2, 2, .mv (.k (.one (.pv (.bool false))))⟩])
 (.ret)) (.skip)))
 (.seq (.seq (.reg [⟨none, some 24, 24, .faddr (.t 1) 0⟩,
   ⟨none, some 25, 25, .load none (.t 24)⟩,
   ⟨none, some 26, 26, .len (.t 25)⟩,
   ⟨none, some 27, 27, .mv (.k (.one (.pv (.int .i64 0))))⟩])
 (.block 0 (.loop [1, 25, 26, 27] (.seq (.reg [⟨none, some 28, 28, .bin .lss (.t 27) (.t 26)⟩])
 (.seq (.cond 28 (.skip) (.exit 0))
 (.seq (.block 1 (.seq (.reg [⟨none, some 29, 29, .iaddr 1 (.t 25) (.t 27)⟩,
   ⟨none, some 30, 30, .load none (.t 29)⟩,
   ⟨none, some 4, 4, .mv (.t 30)⟩])
 (.seq (.reg [⟨none, some 31, 31, .mv (.t 4)⟩,
   ⟨none, some 32, 32, .len (.t 31)⟩,
   ⟨none, some 33, 33, .bin .gtr (.t 32) (.k (.one (.pv (.int .i64 120))))⟩])
 (.cond 33 (.seq (.reg [⟨none, some 2, 2, .mv (.k (.one (.pv (.bool false))))⟩])
 (.ret)) (.skip)))))
 (.reg [⟨none, some 34, 34, .bin .add (.t 27) (.k (.one (.pv (.int .i64 1))))⟩,
   ⟨none, some 27, 27, .mv (.t 34)⟩])))))))
 (.norm [1] (.seq (.seq (.reg [⟨none, some 35, 35, .faddr (.t 1) 1⟩,
   ⟨none, some 36, 36, .load none (.t 35)⟩,
   ⟨none, some 37, 37, .len (.t 36)⟩,
   ⟨none, some 38, 38, .mv (.k (.one (.pv (.int .i64 0))))⟩])
 (.block 2 (.loop [1, 36, 37, 38] (.seq (.reg [⟨none, some 39, 39, .bin .lss (.t 38) (.t 37)⟩])
 (.seq (.cond 39 (.skip) (.exit 2))
 (.seq (.block 3 (.seq (.reg [⟨none, some 40, 40, .iaddr 2 (.t 36) (.t 38)⟩,
   ⟨none, some 41, 41, .load (some 2) (.t 40)⟩,
   ⟨none, some 6, 6, .alloc [.pv (.int .i64 0), .nils 1]⟩,
   ⟨none, none, 100001, .store 2 (.t 6) (.t 41)⟩])
 (.seq (.reg [⟨none, some 42, 42, .faddr (.t 6) 0⟩,
   ⟨none, some 43, 43, .load none (.t 42)⟩,
   ⟨none, some 44, 44, .faddr (.t 1) 0⟩,
   ⟨none, some 45, 45, .load none (.t 44)⟩,
   ⟨none, some 46, 46, .len (.t 45)⟩,
   ⟨none, some 47, 47, .bin .sub (.t 46) (.k (.one (.pv (.int .i64 1))))⟩,
   ⟨none, some 48, 48, .call 14 [0, 0, 0] [(.t 43), (.k (.one (.pv (.int .i64 0)))), (.t 47)]⟩,
   ⟨none, some 49, 49, .not (.t 48)⟩,
   ⟨none, some 50, 50, .mv (.t 49)⟩,
   ⟨(some (50, false)), some 51, 51, .faddr (.t 6) 1⟩,
   ⟨(some (50, false)), some 52, 52, .load none (.t 51)⟩,
   ⟨(some (50, false)), some 53, 53, .len (.t 52)⟩,
   ⟨(some (50, false)), some 54, 54, .bin .gtr (.t 53) (.k (.one (.pv (.int .i64 120))))⟩,
   ⟨none, some 55, 55, .pick (.t 50) (.k (.one (.pv (.bool true)))) (.t 54)⟩])
 (.cond 55 (.seq (.reg [⟨none, some 2, 2, .mv (.k (.one (.pv (.bool false))))⟩])
 (.ret)) (.skip)))))
 (.reg [⟨none, some 56, 56, .bin .add (.t 38) (.k (.one (.pv (.int .i64 1))))⟩,
   ⟨none, some 38, 38, .mv (.t 56)⟩])))))))
 (.norm [] (.seq (.reg [⟨none, some 2, 2, .mv (.k (.one (.pv (.bool true))))⟩])
 (.ret)))))))⟩
abbrev C_i_DevOk (Te : Nat → List AV → Res → Prop) : Prop := ∀ (d : DevV) (h : d.In (2 ^ 48)), Te 22 [.agg (d.enc false)] ⟨[.one (bT d.ok)], [d.enc false]⟩
theorem r_i_DevOk {Te : Nat → List AV → Res → Prop} (c_i_within : C_i_within Te) : ∀ (d : DevV) (h : d.In (2 ^ 48)), RunFn Te x_i_DevOk [.agg (d.enc false)] ⟨[.one (bT d.ok)], [d.enc false]⟩ := by
  intro d h
  refine ⟨by simp -implicitDefEqProofs (maxSteps := 1000000) only [x_i_DevOk, go_sem], ?_⟩
  obtain ⟨⟨hl, hS⟩, hl2, hC⟩ := h
  have ws : IntKind.i64.wrap ((d.Secs.length : Int) - 1) = (d.Secs.length : Int) - 1 := IntWalk.i64_in _ (by omega)
  simp -implicitDefEqProofs (maxSteps := 1000000) only [x_i_DevOk, go_sem, true_implies, false_implies]
  repeat (first | refine ⟨rfl, ?_⟩ | refine ⟨by decide, ?_⟩ | refine ⟨⟨by decide, by decide⟩, ?_⟩ | refine ⟨decide_eq_true (by omega), ?_⟩ | refine ⟨⟨decide_eq_true (by omega), decide_eq_true (by omega)⟩, ?_⟩)
  try (first | done | decide | exact decide_eq_true (by omega) | exact ⟨decide_eq_true (by omega), decide_eq_true (by omega)⟩)
  refine .of (c_i_within _ _ _) ?_
  try simp -implicitDefEqProofs (maxSteps := 1000000) only [go_sem, true_implies, false_implies]
  repeat (first | refine ⟨rfl, ?_⟩ | refine ⟨by decide, ?_⟩ | refine ⟨⟨by decide, by decide⟩, ?_⟩ | refine ⟨decide_eq_true (by omega), ?_⟩ | refine ⟨⟨decide_eq_true (by omega), decide_eq_true (by omega)⟩, ?_⟩)
  try (first | done | decide | exact decide_eq_true (by omega) | exact ⟨decide_eq_true (by omega), decide_eq_true (by omega)⟩)
  cases g1 : win (d.Secs.length : Int) 1 64
  · have e : d.ok = false := by simp only [DevV.ok, g1, Bool.false_and]
    try simp -implicitDefEqProofs (maxSteps := 1000000) only [go_sem, true_implies, false_implies, e]
    repeat (first | refine ⟨rfl, ?_⟩ | refine ⟨by decide, ?_⟩ | refine ⟨⟨by decide, by decide⟩, ?_⟩ | refine ⟨decide_eq_true (by omega), ?_⟩ | refine ⟨⟨decide_eq_true (by omega), decide_eq_true (by omega)⟩, ?_⟩)
    try (first | done | decide | exact decide_eq_true (by omega) | exact ⟨decide_eq_true (by omega), decide_eq_true (by omega)⟩)
  cases g2 : decide ((d.Cache.length : Int) > 40)
  · have g2' : decide ((d.Cache.length : Int) ≤ 40) = true := by rw [gt_le] at g2; simpa using g2
    try simp -implicitDefEqProofs (maxSteps := 1000000) only [go_sem, true_implies, false_implies, g2]
    repeat (first | refine ⟨rfl, ?_⟩ | refine ⟨by decide, ?_⟩ | refine ⟨⟨by decide, by decide⟩, ?_⟩ | refine ⟨decide_eq_true (by omega), ?_⟩ | refine ⟨⟨decide_eq_true (by omega), decide_eq_true (by omega)⟩, ?_⟩)
    try (first | done | decide | exact decide_eq_true (by omega) | exact ⟨decide_eq_true (by omega), decide_eq_true (by omega)⟩)
    refine .of (c_i_within _ _ _) ?_
    try simp -implicitDefEqProofs (maxSteps := 1000000) only [go_sem, true_implies, false_implies]
    repeat (first | refine ⟨rfl, ?_⟩ | refine ⟨by decide, ?_⟩ | refine ⟨⟨by decide, by decide⟩, ?_⟩ | refine ⟨decide_eq_true (by omega), ?_⟩ | refine ⟨⟨decide_eq_true (by omega), decide_eq_true (by omega)⟩, ?_⟩)
    try (first | done | decide | exact decide_eq_true (by omega) | exact ⟨decide_eq_true (by omega), decide_eq_true (by omega)⟩)
    cases g3 : win d.Fuse (-1) 1000
    · have e : d.ok = false := by simp only [DevV.ok, g3, Bool.and_false, Bool.false_and]
      try simp -implicitDefEqProofs (maxSteps := 1000000) only [go_sem, true_implies, false_implies, e]
      repeat (first | refine ⟨rfl, ?_⟩ | refine ⟨by decide, ?_⟩ | refine ⟨⟨by decide, by decide⟩, ?_⟩ | refine ⟨decide_eq_true (by omega), ?_⟩ | refine ⟨⟨decide_eq_true (by omega), decide_eq_true (by omega)⟩, ?_⟩)
      try (first | done | decide | exact decide_eq_true (by omega) | exact ⟨decide_eq_true (by omega), decide_eq_true (by omega)⟩)
    simp -implicitDefEqProofs (maxSteps := 1000000) only [go_sem, true_implies, false_implies, true_and]
    refine loop_of (σ := Nat) (fun i => ⟨[(1, .bp 1 0), (25, .one (.ro 1 (d.Secs.map (fun y => [slT false 1 uR y])))), (26, .one (.pv (.int .i64 d.Secs.length))), (27, .one (.pv (.int .i64 i)))], [(1, [.ro 1 (d.Secs.map (fun y => [slT false 1 uR y])), .ro 2 (d.Cache.map (WrV.enc false)), .pv (.int .i64 d.Fuse), .pv (.bool d.Down)])], [(0, d.enc false)]⟩) (fun i => i ≤ d.Secs.length ∧ (d.Secs.take i).all (secGood) = true) (fun i => d.Secs.length - i) 0 ?_ ⟨Nat.zero_le _, rfl⟩ ?_
    · simp -implicitDefEqProofs (maxSteps := 1000000) only [go_sem]
      try rfl
    · rintro i ⟨hi, hp⟩
      cases q : decide ((i : Int) < (d.Secs.length : Int))
      · have eS := all_end (p := secGood) (show d.Secs.length ≤ i by simp only [decide_eq_false_iff_not] at q; omega) hp
        try simp -implicitDefEqProofs (maxSteps := 1000000) only [go_sem, true_implies, false_implies, q]
        repeat (first | refine ⟨rfl, ?_⟩ | refine ⟨by decide, ?_⟩ | refine ⟨⟨by decide, by decide⟩, ?_⟩ | refine ⟨decide_eq_true (by omega), ?_⟩ | refine ⟨⟨decide_eq_true (by omega), decide_eq_true (by omega)⟩, ?_⟩)
        try (first | done | decide | exact decide_eq_true (by omega) | exact ⟨decide_eq_true (by omega), decide_eq_true (by omega)⟩)
        refine loop_of (σ := Nat) (fun i => ⟨[(1, .bp 1 0), (36, .one (.ro 2 (d.Cache.map (WrV.enc false)))), (37, .one (.pv (.int .i64 d.Cache.length))), (38, .one (.pv (.int .i64 i)))], [(1, [.ro 1 (d.Secs.map (fun y => [slT false 1 uR y])), .ro 2 (d.Cache.map (WrV.enc false)), .pv (.int .i64 d.Fuse), .pv (.bool d.Down)])], [(0, d.enc false)]⟩) (fun i => i ≤ d.Cache.length ∧ (d.Cache.take i).all (wrGood d.Secs.length) = true) (fun i => d.Cache.length - i) 0 ?_ ⟨Nat.zero_le _, rfl⟩ ?_
        · simp -implicitDefEqProofs (maxSteps := 1000000) only [go_sem]
          try rfl
        · rintro i ⟨hi, hp⟩
          cases q : decide ((i : Int) < (d.Cache.length : Int))
          · have eC := all_end (p := wrGood d.Secs.length) (show d.Cache.length ≤ i by simp only [decide_eq_false_iff_not] at q; omega) hp
            try simp -implicitDefEqProofs (maxSteps := 1000000) only [go_sem, true_implies, false_implies, q]
            repeat (first | refine ⟨rfl, ?_⟩ | refine ⟨by decide, ?_⟩ | refine ⟨⟨by decide, by decide⟩, ?_⟩ | refine ⟨decide_eq_true (by omega), ?_⟩ | refine ⟨⟨decide_eq_true (by omega), decide_eq_true (by omega)⟩, ?_⟩)
            try (first | done | decide | exact decide_eq_true (by omega) | exact ⟨decide_eq_true (by omega), decide_eq_true (by omega)⟩)
            have e : d.ok = true := by simp only [DevV.ok, g1, g2', g3, eS, eC, Bool.and_true]
            try simp -implicitDefEqProofs (maxSteps := 1000000) only [go_sem, true_implies, false_implies, e]
            repeat (first | refine ⟨rfl, ?_⟩ | refine ⟨by decide, ?_⟩ | refine ⟨⟨by decide, by decide⟩, ?_⟩ | refine ⟨decide_eq_true (by omega), ?_⟩ | refine ⟨⟨decide_eq_true (by omega), decide_eq_true (by omega)⟩, ?_⟩)
            try (first | done | decide | exact decide_eq_true (by omega) | exact ⟨decide_eq_true (by omega), decide_eq_true (by omega)⟩)
          · have k1 : i < d.Cache.length := by simp only [decide_eq_true_eq] at q; omega
            try simp -implicitDefEqProofs (maxSteps := 1000000) only [go_sem, true_implies, false_implies, q, List.getElem?_eq_getElem k1, ws]
            repeat (first | refine ⟨rfl, ?_⟩ | refine ⟨by decide, ?_⟩ | refine ⟨⟨by decide, by decide⟩, ?_⟩ | refine ⟨decide_eq_true (by omega), ?_⟩ | refine ⟨⟨decide_eq_true (by omega), decide_eq_true (by omega)⟩, ?_⟩)
            try (first | done | decide | exact decide_eq_true (by omega) | exact ⟨decide_eq_true (by omega), decide_eq_true (by omega)⟩)
            refine .of (c_i_within _ _ _) ?_
            try simp -implicitDefEqProofs (maxSteps := 1000000) only [go_sem, true_implies, false_implies]
            repeat (first | refine ⟨rfl, ?_⟩ | refine ⟨by decide, ?_⟩ | refine ⟨⟨by decide, by decide⟩, ?_⟩ | refine ⟨decide_eq_true (by omega), ?_⟩ | refine ⟨⟨decide_eq_true (by omega), decide_eq_true (by omega)⟩, ?_⟩)
            try (first | done | decide | exact decide_eq_true (by omega) | exact ⟨decide_eq_true (by omega), decide_eq_true (by omega)⟩)
            cases g : win d.Cache[i].N 0 ((d.Secs.length : Int) - 1)
            · have gg : wrGood d.Secs.length d.Cache[i] = false := by simp only [wrGood, g, Bool.false_and]
              have e : d.ok = false := by simp only [DevV.ok, all_not (p := wrGood d.Secs.length) k1 gg, Bool.and_false]
              try simp -implicitDefEqProofs (maxSteps := 1000000) only [go_sem, true_implies, false_implies, e]
              repeat (first | refine ⟨rfl, ?_⟩ | refine ⟨by decide, ?_⟩ | refine ⟨⟨by decide, by decide⟩, ?_⟩ | refine ⟨decide_eq_true (by omega), ?_⟩ | refine ⟨⟨decide_eq_true (by omega), decide_eq_true (by omega)⟩, ?_⟩)
              try (first | done | decide | exact decide_eq_true (by omega) | exact ⟨decide_eq_true (by omega), decide_eq_true (by omega)⟩)
            · cases g2 : decide ((d.Cache[i].B.length : Int) > 120)
              · try simp -implicitDefEqProofs (maxSteps := 1000000) only [go_sem, true_implies, false_implies, g2, List.getElem?_eq_getElem k1]
                repeat (first | refine ⟨rfl, ?_⟩ | refine ⟨by decide, ?_⟩ | refine ⟨⟨by decide, by decide⟩, ?_⟩ | refine ⟨decide_eq_true (by omega), ?_⟩ | refine ⟨⟨decide_eq_true (by omega), decide_eq_true (by omega)⟩, ?_⟩)
                try (first | done | decide | exact decide_eq_true (by omega) | exact ⟨decide_eq_true (by omega), decide_eq_true (by omega)⟩)
                exact ⟨i + 1, by rw [IntWalk.i64_in _ (by omega)]; rfl, ⟨k1, all_step (p := wrGood d.Secs.length) k1 hp (by simp only [wrGood, g, g2, Bool.not_false, Bool.and_true])⟩, by omega⟩
              · have gg : wrGood d.Secs.length d.Cache[i] = false := by simp only [wrGood, g2, Bool.not_true, Bool.and_false]
                have e : d.ok = false := by simp only [DevV.ok, all_not (p := wrGood d.Secs.length) k1 gg, Bool.and_false]
                try simp -implicitDefEqProofs (maxSteps := 1000000) only [go_sem, true_implies, false_implies, g2, List.getElem?_eq_getElem k1, e]
                repeat (first | refine ⟨rfl, ?_⟩ | refine ⟨by decide, ?_⟩ | refine ⟨⟨by decide, by decide⟩, ?_⟩ | refine ⟨decide_eq_true (by omega), ?_⟩ | refine ⟨⟨decide_eq_true (by omega), decide_eq_true (by omega)⟩, ?_⟩)
                try (first | done | decide | exact decide_eq_true (by omega) | exact ⟨decide_eq_true (by omega), decide_eq_true (by omega)⟩)
      · have k1 : i < d.Secs.length := by simp only [decide_eq_true_eq] at q; omega
        cases g : decide ((d.Secs[i].length : Int) > 120)
        · try simp -implicitDefEqProofs (maxSteps := 1000000) only [go_sem, true_implies, false_implies, q, List.getElem?_eq_getElem k1, g]
          repeat (first | refine ⟨rfl, ?_⟩ | refine ⟨by decide, ?_⟩ | refine ⟨⟨by decide, by decide⟩, ?_⟩ | refine ⟨decide_eq_true (by omega), ?_⟩ | refine ⟨⟨decide_eq_true (by omega), decide_eq_true (by omega)⟩, ?_⟩)
          try (first | done | decide | exact decide_eq_true (by omega) | exact ⟨decide_eq_true (by omega), decide_eq_true (by omega)⟩)
          exact ⟨i + 1, by rw [IntWalk.i64_in _ (by omega)]; rfl, ⟨k1, all_step (p := secGood) k1 hp (by simp only [secGood, g, Bool.not_false])⟩, by omega⟩
        · have gg : secGood d.Secs[i] = false := by simp only [secGood, g, Bool.not_true]
          have e : d.ok = false := by simp only [DevV.ok, all_not (p := secGood) k1 gg, Bool.and_false, Bool.false_and]
          try simp -implicitDefEqProofs (maxSteps := 1000000) only [go_sem, true_implies, false_implies, q, List.getElem?_eq_getElem k1, g, e]
          repeat (first | refine ⟨rfl, ?_⟩ | refine ⟨by decide, ?_⟩ | refine ⟨⟨by decide, by decide⟩, ?_⟩ | refine ⟨decide_eq_true (by omega), ?_⟩ | refine ⟨⟨decide_eq_true (by omega), decide_eq_true (by omega)⟩, ?_⟩)
          try (first | done | decide | exact decide_eq_true (by omega) | exact ⟨decide_eq_true (by omega), decide_eq_true (by omega)⟩)
  · have g2' : decide ((d.Cache.length : Int) ≤ 40) = false := by rw [gt_le] at g2; simpa using g2
    have e : d.ok = false := by simp only [DevV.ok, g2', Bool.and_false, Bool.false_and]
    try simp -implicitDefEqProofs (maxSteps := 1000000) only [go_sem, true_implies, false_implies, g2, e]
    repeat (first | refine ⟨rfl, ?_⟩ | refine ⟨by decide, ?_⟩ | refine ⟨⟨by decide, by decide⟩, ?_⟩ | refine ⟨decide_eq_true (by omega), ?_⟩ | refine ⟨⟨decide_eq_true (by omega), decide_eq_true (by omega)⟩, ?_⟩)
    try (first | done | decide | exact decide_eq_true (by omega) | exact ⟨decide_eq_true (by omega), decide_eq_true (by omega)⟩)
def x_s_DevOk : FnX := ⟨63, [.tmp 2],
  .seq (.reg [⟨none, some 1, 1, .box (.t 0)⟩,
   ⟨none, some 2, 2, .mv (.k (.one (.pv (.bool false))))⟩])
 (.seq (.seq (.reg [⟨none, some 3, 3, .mv (.k (.one (.pv (.int .i64 0))))⟩])
 (.block 0 (.loop [1, 3] (.seq (.seq (.reg [⟨none, some 5, 5, .mv (.t 3)⟩,
   ⟨none, some 6, 6, .faddr (.t 1) 0⟩,
   ⟨none, some 7, 7, .load none (.t 6)⟩,
   ⟨none, some 8, 8, .len (.t 7)⟩,
   ⟨none, some 9, 9, .bin .lss (.t 5) (.t 8)⟩])
 (.cond 9 (.skip) (.exit 0)))
 (.seq (.block 1 (.seq (.reg [⟨none, some 12, 12, .faddr (.t 1) 0⟩,
   ⟨none, some 13, 13, .load none (.t 12)⟩,
   ⟨none, some 14, 14, .mv (.t 3)⟩,
   ⟨none, some 15, 15, .iaddr 1 (.t 13) (.t 14)⟩,
   ⟨none, some 16, 16, .load none (.t 15)⟩,
   ⟨none, some 17, 17, .len (.t 16)⟩,
   ⟨none, some 18, 18, .bin .gtr (.t 17) (.k (.one (.pv (.int .i64 120))))⟩])
 (.cond 18 (.seq (.reg [⟨none, some 2, 2, .mv (.k (.one (.pv (.bool false))))⟩])
 (.ret)) (.skip))))
 (.reg [⟨none, some 10, 10, .mv (.t 3)⟩,
   ⟨none, some 11, 11, .bin .add (.t 10) (.k (.one (.pv (.int .i64 1))))⟩,
   ⟨none, some 3, 3, .mv (.t 11)⟩]))))))
 (.norm [1] (.seq (.seq (.reg [⟨none, some 4, 4, .mv (.k (.one (.pv (.int .i64 0))))⟩])
 (.block 2 (.loop [1, 4] (.seq (.seq (.reg [⟨none, some 19, 19, .mv (.t 4)⟩,
   ⟨none, some 20, 20, .faddr (.t 1) 1⟩,
   ⟨none, some 21, 21, .load none (.t 20)⟩,
   ⟨none, some 22, 22, .len (.t 21)⟩,
   ⟨none, some 23, 23, .bin .lss (.t 19) (.t 22)⟩])
 (.cond 23 (.skip) (.exit 2)))
 (.seq (.block 3 (.seq (.draw [⟨none, some 26, 26, .faddr (.t 1) 1⟩,
   ⟨none, some 27, 27, .load none (.t 26)⟩,
   ⟨none, some 28, 28, .mv (.t 4)⟩,
   ⟨none, some 29, 29, .iaddr 2 (.t 27) (.t 28)⟩,
   ⟨none, some 30, 30, .faddr (.t 29) 0⟩,
   ⟨none, some 31, 31, .load none (.t 30)⟩,
   ⟨none, some 32, 32, .faddr (.t 1) 0⟩,
   ⟨none, some 33, 33, .load none (.t 32)⟩,
   ⟨none, some 34, 34, .len (.t 33)⟩,
   ⟨none, some 35, 35, .bin .sub (.t 34) (.k (.one (.pv (.int .i64 1))))⟩,
   ⟨none, some 36, 36, .call 11 [0, 0, 0] [(.t 31), (.k (.one (.pv (.int .i64 0)))), (.t 35)]⟩,
   ⟨none, some 37, 37, .not (.t 36)⟩,
   ⟨none, some 38, 38, .mv (.t 37)⟩,
   ⟨(some (38, false)), some 39, 39, .faddr (.t 1) 1⟩,
   ⟨(some (38, false)), some 40, 40, .load none (.t 39)⟩,
   ⟨(some (38, false)), some 41, 41, .mv (.t 4)⟩,
   ⟨(some (38, false)), some 42, 42, .iaddr 2 (.t 40) (.t 41)⟩,
   ⟨(some (38, false)), some 43, 43, .faddr (.t 42) 1⟩,
   ⟨(some (38, false)), some 44, 44, .load none (.t 43)⟩,
   ⟨(some (38, false)), some 45, 45, .len (.t 44)⟩,
   ⟨(some (38, false)), some 46, 46, .bin .gtr (.t 45) (.k (.one (.pv (.int .i64 120))))⟩,
   ⟨none, some 47, 47, .pick (.t 38) (.k (.one (.pv (.bool true)))) (.t 46)⟩] [[], [0], [], [1, 2], [3], [4], [], [6], [7], [8], [5, 9], [10], [11, 10], [12], [13, 12], [12], [14, 15, 12], [16, 12], [17, 12], [18, 12], [19, 12], [12, 20]])
 (.cond 47 (.seq (.reg [⟨none, some 2, 2, .mv (.k (.one (.pv (.bool false))))⟩])
 (.ret)) (.skip))))
 (.reg [⟨none, some 24, 24, .mv (.t 4)⟩,
   ⟨none, some 25, 25, .bin .add (.t 24) (.k (.one (.pv (.int .i64 1))))⟩,
   ⟨none, some 4, 4, .mv (.t 25)⟩]))))))
 (.norm [1] (.seq (.reg [⟨none, some 48, 48, .faddr (.t 1) 0⟩,
   ⟨none, some 49, 49, .load none (.t 48)⟩,
   ⟨none, some 50, 50, .len (.t 49)⟩,
   ⟨none, some 51, 51, .call 11 [0, 0, 0] [(.t 50), (.k (.one (.pv (.int .i64 1)))), (.k (.one (.pv (.int .i64 64))))]⟩,
   ⟨none, some 52, 52, .mv (.t 51)⟩,
   ⟨(some (52, true)), some 53, 53, .faddr (.t 1) 1⟩,
   ⟨(some (52, true)), some 54, 54, .load none (.t 53)⟩,
   ⟨(some (52, true)), some 55, 55, .len (.t 54)⟩,
   ⟨(some (52, true)), some 56, 56, .bin .leq (.t 55) (.k (.one (.pv (.int .i64 40))))⟩,
   ⟨none, some 57, 57, .pick (.t 52) (.t 56) (.k (.one (.pv (.bool false))))⟩,
   ⟨none, some 58, 58, .mv (.t 57)⟩,
   ⟨(some (58, true)), some 59, 59, .faddr (.t 1) 2⟩,
   ⟨(some (58, true)), some 60, 60, .load none (.t 59)⟩,
   ⟨(some (58, true)), some 61, 61, .call 11 [0, 0, 0] [(.t 60), (.k (.one (.pv (.int .i64 (-1))))), (.k (.one (.pv (.int .i64 1000))))]⟩,
   ⟨none, some 62, 62, .pick (.t 58) (.t 61) (.k (.one (.pv (.bool false))))⟩,
   ⟨none, some 2, 2, .mv (.t 62)⟩])
 (.ret))))))⟩
abbrev C_s_DevOk (Te : Nat → List AV → Res → Prop) : Prop := ∀ (d : DevV) (h : d.In (2 ^ 48)), Te 18 [.agg (d.enc false)] ⟨[.one (bT d.ok)], [d.enc false]⟩
theorem r_s_DevOk {Te : Nat → List AV → Res → Prop} (c_s_l1In : C_s_l1In Te) : ∀ (d : DevV) (h : d.In (2 ^ 48)), RunFn Te x_s_DevOk [.agg (d.enc false)] ⟨[.one (bT d.ok)], [d.enc false]⟩ := by
  intro d h
  refine ⟨by simp -implicitDefEqProofs (maxSteps := 1000000) only [x_s_DevOk, go_sem], ?_⟩
  obtain ⟨⟨hl, hS⟩, hl2, hC⟩ := h
  have ws : IntKind.i64.wrap ((d.Secs.length : Int) - 1) = (d.Secs.length : Int) - 1 := IntWalk.i64_in _ (by omega)
  simp -implicitDefEqProofs (maxSteps := 1000000) only [x_s_DevOk, go_sem, true_implies, false_implies]
  repeat (first | refine ⟨rfl, ?_⟩ | refine ⟨by decide, ?_⟩ | refine ⟨⟨by decide, by decide⟩, ?_⟩ | refine ⟨decide_eq_true (by omega), ?_⟩ | refine ⟨⟨decide_eq_true (by omega), decide_eq_true (by omega)⟩, ?_⟩)
  try (first | done | decide | exact decide_eq_true (by omega) | exact ⟨decide_eq_true (by omega), decide_eq_true (by omega)⟩)
  refine loop_of (σ := Nat) (fun i => ⟨[(1, .bp 1 0), (3, .one (.pv (.int .i64 i)))], [(1, [.ro 1 (d.Secs.map (fun y => [slT false 1 uR y])), .ro 2 (d.Cache.map (WrV.enc false)), .pv (.int .i64 d.Fuse), .pv (.bool d.Down)])], [(0, d.enc false)]⟩) (fun i => i ≤ d.Secs.length ∧ (d.Secs.take i).all (secGood) = true) (fun i => d.Secs.length - i) 0 ?_ ⟨Nat.zero_le _, rfl⟩ ?_
  · simp -implicitDefEqProofs (maxSteps := 1000000) only [go_sem]
    try rfl
  · rintro i ⟨hi, hp⟩
    cases q : decide ((i : Int) < (d.Secs.length : Int))
    · have eS := all_end (p := secGood) (show d.Secs.length ≤ i by simp only [decide_eq_false_iff_not] at q; omega) hp
      try simp -implicitDefEqProofs (maxSteps := 1000000) only [go_sem, true_implies, false_implies, q]
      repeat (first | refine ⟨rfl, ?_⟩ | refine ⟨by decide, ?_⟩ | refine ⟨⟨by decide, by decide⟩, ?_⟩ | refine ⟨decide_eq_true (by omega), ?_⟩ | refine ⟨⟨decide_eq_true (by omega), decide_eq_true (by omega)⟩, ?_⟩)
      try (first | done | decide | exact decide_eq_true (by omega) | exact ⟨decide_eq_true (by omega), decide_eq_true (by omega)⟩)
      refine loop_of (σ := Nat) (fun i => ⟨[(1, .bp 1 0), (4, .one (.pv (.int .i64 i)))], [(1, [.ro 1 (d.Secs.map (fun y => [slT false 1 uR y])), .ro 2 (d.Cache.map (WrV.enc false)), .pv (.int .i64 d.Fuse), .pv (.bool d.Down)])], [(0, d.enc false)]⟩) (fun i => i ≤ d.Cache.length ∧ (d.Cache.take i).all (wrGood d.Secs.length) = true) (fun i => d.Cache.length - i) 0 ?_ ⟨Nat.zero_le _, rfl⟩ ?_
      · simp -implicitDefEqProofs (maxSteps := 1000000) only [go_sem]
        try rfl
      · rintro i ⟨hi, hp⟩
        cases q : decide ((i : Int) < (d.Cache.length : Int))
        · have eC := all_end (p := wrGood d.Secs.length) (show d.Cache.length ≤ i by simp only [decide_eq_false_iff_not] at q; omega) hp
          try simp -implicitDefEqProofs (maxSteps := 1000000) only [go_sem, true_implies, false_implies, q]
          repeat (first | refine ⟨rfl, ?_⟩ | refine ⟨by decide, ?_⟩ | refine ⟨⟨by decide, by decide⟩, ?_⟩ | refine ⟨decide_eq_true (by omega), ?_⟩ | refine ⟨⟨decide_eq_true (by omega), decide_eq_true (by omega)⟩, ?_⟩)
          try (first | done | decide | exact decide_eq_true (by omega) | exact ⟨decide_eq_true (by omega), decide_eq_true (by omega)⟩)
          refine .of (c_s_l1In _ _ _) ?_
          try simp -implicitDefEqProofs (maxSteps := 1000000) only [go_sem, true_implies, false_implies]
          repeat (first | refine ⟨rfl, ?_⟩ | refine ⟨by decide, ?_⟩ | refine ⟨⟨by decide, by decide⟩, ?_⟩ | refine ⟨decide_eq_true (by omega), ?_⟩ | refine ⟨⟨decide_eq_true (by omega), decide_eq_true (by omega)⟩, ?_⟩)
          try (first | done | decide | exact decide_eq_true (by omega) | exact ⟨decide_eq_true (by omega), decide_eq_true (by omega)⟩)
          cases g1 : win (d.Secs.length : Int) 1 64
          · have e : d.ok = false := by simp only [DevV.ok, g1, Bool.false_and]
            try simp -implicitDefEqProofs (maxSteps := 1000000) only [go_sem, true_implies, false_implies, e]
            repeat (first | refine ⟨rfl, ?_⟩ | refine ⟨by decide, ?_⟩ | refine ⟨⟨by decide, by decide⟩, ?_⟩ | refine ⟨decide_eq_true (by omega), ?_⟩ | refine ⟨⟨decide_eq_true (by omega), decide_eq_true (by omega)⟩, ?_⟩)
            try (first | done | decide | exact decide_eq_true (by omega) | exact ⟨decide_eq_true (by omega), decide_eq_true (by omega)⟩)
          try simp -implicitDefEqProofs (maxSteps := 1000000) only [go_sem, true_implies, false_implies]
          repeat (first | refine ⟨rfl, ?_⟩ | refine ⟨by decide, ?_⟩ | refine ⟨⟨by decide, by decide⟩, ?_⟩ | refine ⟨decide_eq_true (by omega), ?_⟩ | refine ⟨⟨decide_eq_true (by omega), decide_eq_true (by omega)⟩, ?_⟩)
          try (first | done | decide | exact decide_eq_true (by omega) | exact ⟨decide_eq_true (by omega), decide_eq_true (by omega)⟩)
          cases g2 : decide ((d.Cache.length : Int) ≤ 40)
          · have e : d.ok = false := by simp only [DevV.ok, g2, Bool.and_false, Bool.false_and]
            try simp -implicitDefEqProofs (maxSteps := 1000000) only [go_sem, true_implies, false_implies, g2, e]
            repeat (first | refine ⟨rfl, ?_⟩ | refine ⟨by decide, ?_⟩ | refine ⟨⟨by decide, by decide⟩, ?_⟩ | refine ⟨decide_eq_true (by omega), ?_⟩ | refine ⟨⟨decide_eq_true (by omega), decide_eq_true (by omega)⟩, ?_⟩)
            try (first | done | decide | exact decide_eq_true (by omega) | exact ⟨decide_eq_true (by omega), decide_eq_true (by omega)⟩)
          try simp -implicitDefEqProofs (maxSteps := 1000000) only [go_sem, true_implies, false_implies, g2]
          repeat (first | refine ⟨rfl, ?_⟩ | refine ⟨by decide, ?_⟩ | refine ⟨⟨by decide, by decide⟩, ?_⟩ | refine ⟨decide_eq_true (by omega), ?_⟩ | refine ⟨⟨decide_eq_true (by omega), decide_eq_true (by omega)⟩, ?_⟩)
          try (first | done | decide | exact decide_eq_true (by omega) | exact ⟨decide_eq_true (by omega), decide_eq_true (by omega)⟩)
          have e : d.ok = win d.Fuse (-1) 1000 := by simp only [DevV.ok, g1, g2, eS, eC, Bool.and_true, Bool.true_and]
          refine .of (c_s_l1In _ _ _) ?_
          try simp -implicitDefEqProofs (maxSteps := 1000000) only [go_sem, true_implies, false_implies, e]
          repeat (first | refine ⟨rfl, ?_⟩ | refine ⟨by decide, ?_⟩ | refine ⟨⟨by decide, by decide⟩, ?_⟩ | refine ⟨decide_eq_true (by omega), ?_⟩ | refine ⟨⟨decide_eq_true (by omega), decide_eq_true (by omega)⟩, ?_⟩)
          try (first | done | decide | exact decide_eq_true (by omega) | exact ⟨decide_eq_true (by omega), decide_eq_true (by omega)⟩)
        · have k1 : i < d.Cache.length := by simp only [decide_eq_true_eq] at q; omega
          try simp -implicitDefEqProofs (maxSteps := 1000000) only [go_sem, true_implies, false_implies, q, List.getElem?_eq_getElem k1, ws]
          repeat (first | refine ⟨rfl, ?_⟩ | refine ⟨by decide, ?_⟩ | refine ⟨⟨by decide, by decide⟩, ?_⟩ | refine ⟨decide_eq_true (by omega), ?_⟩ | refine ⟨⟨decide_eq_true (by omega), decide_eq_true (by omega)⟩, ?_⟩)
          try (first | done | decide | exact decide_eq_true (by omega) | exact ⟨decide_eq_true (by omega), decide_eq_true (by omega)⟩)
          refine .of (c_s_l1In _ _ _) ?_
          try simp -implicitDefEqProofs (maxSteps := 1000000) only [go_sem, true_implies, false_implies]
          repeat (first | refine ⟨rfl, ?_⟩ | refine ⟨by decide, ?_⟩ | refine ⟨⟨by decide, by decide⟩, ?_⟩ | refine ⟨decide_eq_true (by omega), ?_⟩ | refine ⟨⟨decide_eq_true (by omega), decide_eq_true (by omega)⟩, ?_⟩)
          try (first | done | decide | exact decide_eq_true (by omega) | exact ⟨decide_eq_true (by omega), decide_eq_true (by omega)⟩)
          cases g : win d.Cache[i].N 0 ((d.Secs.length : Int) - 1)
          · have gg : wrGood d.Secs.length d.Cache[i] = false := by simp only [wrGood, g, Bool.false_and]
            have e : d.ok = false := by simp only [DevV.ok, all_not (p := wrGood d.Secs.length) k1 gg, Bool.and_false]
            try simp -implicitDefEqProofs (maxSteps := 1000000) only [go_sem, true_implies, false_implies, e]
            repeat (first | refine ⟨rfl, ?_⟩ | refine ⟨by decide, ?_⟩ | refine ⟨⟨by decide, by decide⟩, ?_⟩ | refine ⟨decide_eq_true (by omega), ?_⟩ | refine ⟨⟨decide_eq_true (by omega), decide_eq_true (by omega)⟩, ?_⟩)
            try (first | done | decide | exact decide_eq_true (by omega) | exact ⟨decide_eq_true (by omega), decide_eq_true (by omega)⟩)
          · cases g2 : decide ((d.Cache[i].B.length : Int) > 120)
            · try simp -implicitDefEqProofs (maxSteps := 1000000) only [go_sem, true_implies, false_implies, g2, List.getElem?_eq_getElem k1]
              repeat (first | refine ⟨rfl, ?_⟩ | refine ⟨by decide, ?_⟩ | refine ⟨⟨by decide, by decide⟩, ?_⟩ | refine ⟨decide_eq_true (by omega), ?_⟩ | refine ⟨⟨decide_eq_true (by omega), decide_eq_true (by omega)⟩, ?_⟩)
              try (first | done | decide | exact decide_eq_true (by omega) | exact ⟨decide_eq_true (by omega), decide_eq_true (by omega)⟩)
              exact ⟨i + 1, by rw [IntWalk.i64_in _ (by omega)]; rfl, ⟨k1, all_step (p := wrGood d.Secs.length) k1 hp (by simp only [wrGood, g, g2, Bool.not_false, Bool.and_true])⟩, by omega⟩
            · have gg : wrGood d.Secs.length d.Cache[i] = false := by simp only [wrGood, g2, Bool.not_true, Bool.and_false]
              have e : d.ok = false := by simp only [DevV.ok, all_not (p := wrGood d.Secs.length) k1 gg, Bool.and_false]
              try simp -implicitDefEqProofs (maxSteps := 1000000) only [go_sem, true_implies, false_implies, g2, List.getElem?_eq_getElem k1, e]
              repeat (first | refine ⟨rfl, ?_⟩ | refine ⟨by decide, ?_⟩ | refine ⟨⟨by decide, by decide⟩, ?_⟩ | refine ⟨decide_eq_true (by omega), ?_⟩ | refine ⟨⟨decide_eq_true (by omega), decide_eq_true (by omega)⟩, ?_⟩)
              try (first | done | decide | exact decide_eq_true (by omega) | exact ⟨decide_eq_true (by omega), decide_eq_true (by omega)⟩)
    · have k1 : i < d.Secs.length := by simp only [decide_eq_true_eq] at q; omega
      cases g : decide ((d.Secs[i].length : Int) > 120)
      · try simp -implicitDefEqProofs (maxSteps := 1000000) only [go_sem, true_implies, false_implies, q, List.getElem?_eq_getElem k1, g]
        repeat (first | refine ⟨rfl, ?_⟩ | refine ⟨by decide, ?_⟩ | refine ⟨⟨by decide, by decide⟩, ?_⟩ | refine ⟨decide_eq_true (by omega), ?_⟩ | refine ⟨⟨decide_eq_true (by omega), decide_eq_true (by omega)⟩, ?_⟩)
        try (first | done | decide | exact decide_eq_true (by omega) | exact ⟨decide_eq_true (by omega), decide_eq_true (by omega)⟩)
        exact ⟨i + 1, by rw [IntWalk.i64_in _ (by omega)]; rfl, ⟨k1, all_step (p := secGood) k1 hp (by simp only [secGood, g, Bool.not_false])⟩, by omega⟩
      · have gg : secGood d.Secs[i] = false := by simp only [secGood, g, Bool.not_true]
        have e : d.ok = false := by simp only [DevV.ok, all_not (p := secGood) k1 gg, Bool.and_false, Bool.false_and]
        try simp -implicitDefEqProofs (maxSteps := 1000000) only [go_sem, true_implies, false_implies, q, List.getElem?_eq_getElem k1, g, e]
        repeat (first | refine ⟨rfl, ?_⟩ | refine ⟨by decide, ?_⟩ | refine ⟨⟨by decide, by decide⟩, ?_⟩ | refine ⟨decide_eq_true (by omega), ?_⟩ | refine ⟨⟨decide_eq_true (by omega), decide_eq_true (by omega)⟩, ?_⟩)
        try (first | done | decide | exact decide_eq_true (by omega) | exact ⟨decide_eq_true (by omega), decide_eq_true (by omega)⟩)
def StoreV.ok (s : StoreV) : Bool := s.D.ok && ((s.D.Secs.length : Int) == 62) && (((s.D.Cache.length : Int) == 0) || s.D.Down) && s.T.ok && win s.Gen 1 60000 && win s.Place 0 30
def x_i_StoreOk : FnX := ⟨40, [.tmp 2],
  .seq (.reg [⟨none, some 1, 1, .box (.t 0)⟩,
   ⟨none, some 2, 2, .mv (.k (.one (.pv (.bool false))))⟩])
 (.seq (.reg [⟨none, some 3, 3, .faddr (.t 1) 0⟩,
   ⟨none, some 4, 4, .load (some 4) (.t 3)⟩,
   ⟨none, some 5, 5, .call 22 [0] [(.t 4)]⟩,
   ⟨none, some 6, 6, .mv (.t 5)⟩,
   ⟨(some (6, true)), some 7, 7, .faddr (.t 1) 0⟩,
   ⟨(some (6, true)), some 8, 8, .faddr (.t 7) 0⟩,
   ⟨(some (6, true)), some 9, 9, .load none (.t 8)⟩,
   ⟨(some (6, true)), some 10, 10, .len (.t 9)⟩,
   ⟨(some (6, true)), some 11, 11, .bin .eql (.t 10) (.k (.one (.pv (.int .i64 62))))⟩,
   ⟨none, some 12, 12, .pick (.t 6) (.t 11) (.k (.one (.pv (.bool false))))⟩,
   ⟨none, some 13, 13, .mv (.t 12)⟩,
   ⟨(some (13, true)), some 14, 14, .faddr (.t 1) 0⟩,
   ⟨(some (13, true)), some 15, 15, .faddr (.t 14) 1⟩,
   ⟨(some (13, true)), some 16, 16, .load none (.t 15)⟩,
   ⟨(some (13, true)), some 17, 17, .len (.t 16)⟩,
   ⟨(some (13, true)), some 18, 18, .bin .eql (.t 17) (.k (.one (.pv (.int .i64 0))))⟩,
   ⟨(some (13, true)), some 19, 19, .mv (.t 18)⟩,
   ⟨(some (19, false)), some 20, 20, .faddr (.t 1) 0⟩,
   ⟨(some (19, false)), some 21, 21, .faddr (.t 20) 3⟩,
   ⟨(some (19, false)), some 22, 22, .load none (.t 21)⟩,
   ⟨(some (13, true)), some 23, 23, .pick (.t 19) (.k (.one (.pv (.bool true)))) (.t 22)⟩,
   ⟨none, some 24, 24, .pick (.t 13) (.t 23) (.k (.one (.pv (.bool false))))⟩,
   ⟨none, some 25, 25, .mv (.t 24)⟩,
   ⟨(some (25, true)), some 26, 26, .faddr (.t 1) 4⟩,
   ⟨(some (25, true)), some 27, 27, .load (some 3) (.t 26)⟩,
   ⟨(some (25, true)), some 28, 28, .call 23 [0] [(.t 27)]⟩,
   ⟨none, some 29, 29, .pick (.t 25) (.t 28) (.k (.one (.pv (.bool false))))⟩,
   ⟨none, some 30, 30, .mv (.t 29)⟩,
   ⟨(some (30, true)), some 31, 31, .faddr (.t 1) 7⟩,
   ⟨(some (30, true)), some 32, 32, .load none (.t 31)⟩,
   ⟨(some (30, true)), some 33, 33, .call 14 [0, 0, 0] [(.t 32), (.k (.one (.pv (.int .i64 1)))), (.k (.one (.pv (.int .i64 60000))))]⟩,
   ⟨none, some 34, 34, .pick (.t 30) (.t 33) (.k (.one (.pv (.bool false))))⟩,
   ⟨none, some 35, 35, .mv (.t 34)⟩,
   ⟨(some (35, true)), some 36, 36, .faddr (.t 1) 8⟩,
   ⟨(some (35, true)), some 37, 37, .load none (.t 36)⟩,
   ⟨(some (35, true)), some 38, 38, .call 14 [0, 0, 0] [(.t 37), (.k (.one (.pv (.int .i64 0)))), (.k (.one (.pv (.int .i64 30))))]⟩,
   ⟨none, some 39, 39, .pick (.t 35) (.t 38) (.k (.one (.pv (.bool false))))⟩,
   ⟨none, some 2, 2, .mv (.t 39)⟩])
 (.ret))⟩
abbrev C_i_StoreOk (Te : Nat → List AV → Res → Prop) : Prop := ∀ (s : StoreV) (h : s.In (2 ^ 48)), Te 13 [.agg (s.enc false)] ⟨[.one (bT s.ok)], [s.enc false]⟩
theorem r_i_StoreOk {Te : Nat → List AV → Res → Prop} (c_i_DevOk : C_i_DevOk Te) (c_i_TabOk : C_i_TabOk Te) (c_i_within : C_i_within Te) : ∀ (s : StoreV) (h : s.In (2 ^ 48)), RunFn Te x_i_StoreOk [.agg (s.enc false)] ⟨[.one (bT s.ok)], [s.enc false]⟩ := by
  intro s h
  refine ⟨by simp -implicitDefEqProofs (maxSteps := 1000000) only [x_i_StoreOk, go_sem], ?_⟩
  obtain ⟨hD, hT⟩ := h
  obtain ⟨⟨secs, cache, fuse, down⟩, T, gen, place⟩ := s
  cases down
  · skip
    simp -implicitDefEqProofs (maxSteps := 1000000) only [x_i_StoreOk, go_sem, true_implies, false_implies]
    repeat (first | refine ⟨rfl, ?_⟩ | refine ⟨by decide, ?_⟩ | refine ⟨⟨by decide, by decide⟩, ?_⟩ | refine ⟨decide_eq_true (by omega), ?_⟩ | refine ⟨⟨decide_eq_true (by omega), decide_eq_true (by omega)⟩, ?_⟩)
    try (first | done | decide | exact decide_eq_true (by omega) | exact ⟨decide_eq_true (by omega), decide_eq_true (by omega)⟩)
    refine .of (c_i_DevOk ⟨secs, cache, fuse, false⟩ hD) ?_
    try simp -implicitDefEqProofs (maxSteps := 1000000) only [go_sem, true_implies, false_implies]
    repeat (first | refine ⟨rfl, ?_⟩ | refine ⟨by decide, ?_⟩ | refine ⟨⟨by decide, by decide⟩, ?_⟩ | refine ⟨decide_eq_true (by omega), ?_⟩ | refine ⟨⟨decide_eq_true (by omega), decide_eq_true (by omega)⟩, ?_⟩)
    try (first | done | decide | exact decide_eq_true (by omega) | exact ⟨decide_eq_true (by omega), decide_eq_true (by omega)⟩)
    cases g1 : DevV.ok ⟨secs, cache, fuse, false⟩
    · have e : (StoreV.mk ⟨secs, cache, fuse, false⟩ T gen place).ok = false := by simp only [StoreV.ok, g1, Bool.false_and]
      try simp -implicitDefEqProofs (maxSteps := 1000000) only [go_sem, true_implies, false_implies, e]
      repeat (first | refine ⟨rfl, ?_⟩ | refine ⟨by decide, ?_⟩ | refine ⟨⟨by decide, by decide⟩, ?_⟩ | refine ⟨decide_eq_true (by omega), ?_⟩ | refine ⟨⟨decide_eq_true (by omega), decide_eq_true (by omega)⟩, ?_⟩)
      try (first | done | decide | exact decide_eq_true (by omega) | exact ⟨decide_eq_true (by omega), decide_eq_true (by omega)⟩)
    cases g2 : ((secs.length : Int) == 62)
    · have e : (StoreV.mk ⟨secs, cache, fuse, false⟩ T gen place).ok = false := by simp only [StoreV.ok, g2, Bool.and_false, Bool.false_and]
      try simp -implicitDefEqProofs (maxSteps := 1000000) only [go_sem, true_implies, false_implies, g2, e]
      repeat (first | refine ⟨rfl, ?_⟩ | refine ⟨by decide, ?_⟩ | refine ⟨⟨by decide, by decide⟩, ?_⟩ | refine ⟨decide_eq_true (by omega), ?_⟩ | refine ⟨⟨decide_eq_true (by omega), decide_eq_true (by omega)⟩, ?_⟩)
      try (first | done | decide | exact decide_eq_true (by omega) | exact ⟨decide_eq_true (by omega), decide_eq_true (by omega)⟩)
    cases g0 : ((cache.length : Int) == 0)
    · have e : (StoreV.mk ⟨secs, cache, fuse, false⟩ T gen place).ok = false := by simp only [StoreV.ok, g0, Bool.or_self, Bool.and_false, Bool.false_and]
      try simp -implicitDefEqProofs (maxSteps := 1000000) only [go_sem, true_implies, false_implies, g2, g0, e]
      repeat (first | refine ⟨rfl, ?_⟩ | refine ⟨by decide, ?_⟩ | refine ⟨⟨by decide, by decide⟩, ?_⟩ | refine ⟨decide_eq_true (by omega), ?_⟩ | refine ⟨⟨decide_eq_true (by omega), decide_eq_true (by omega)⟩, ?_⟩)
      try (first | done | decide | exact decide_eq_true (by omega) | exact ⟨decide_eq_true (by omega), decide_eq_true (by omega)⟩)
    try simp -implicitDefEqProofs (maxSteps := 1000000) only [go_sem, true_implies, false_implies, g2, g0]
    repeat (first | refine ⟨rfl, ?_⟩ | refine ⟨by decide, ?_⟩ | refine ⟨⟨by decide, by decide⟩, ?_⟩ | refine ⟨decide_eq_true (by omega), ?_⟩ | refine ⟨⟨decide_eq_true (by omega), decide_eq_true (by omega)⟩, ?_⟩)
    try (first | done | decide | exact decide_eq_true (by omega) | exact ⟨decide_eq_true (by omega), decide_eq_true (by omega)⟩)
    refine .of (c_i_TabOk T hT) ?_
    try simp -implicitDefEqProofs (maxSteps := 1000000) only [go_sem, true_implies, false_implies]
    repeat (first | refine ⟨rfl, ?_⟩ | refine ⟨by decide, ?_⟩ | refine ⟨⟨by decide, by decide⟩, ?_⟩ | refine ⟨decide_eq_true (by omega), ?_⟩ | refine ⟨⟨decide_eq_true (by omega), decide_eq_true (by omega)⟩, ?_⟩)
    try (first | done | decide | exact decide_eq_true (by omega) | exact ⟨decide_eq_true (by omega), decide_eq_true (by omega)⟩)
    cases g4 : T.ok
    · have e : (StoreV.mk ⟨secs, cache, fuse, false⟩ T gen place).ok = false := by simp only [StoreV.ok, g4, Bool.and_false, Bool.false_and]
      try simp -implicitDefEqProofs (maxSteps := 1000000) only [go_sem, true_implies, false_implies, e]
      repeat (first | refine ⟨rfl, ?_⟩ | refine ⟨by decide, ?_⟩ | refine ⟨⟨by decide, by decide⟩, ?_⟩ | refine ⟨decide_eq_true (by omega), ?_⟩ | refine ⟨⟨decide_eq_true (by omega), decide_eq_true (by omega)⟩, ?_⟩)
      try (first | done | decide | exact decide_eq_true (by omega) | exact ⟨decide_eq_true (by omega), decide_eq_true (by omega)⟩)
    try simp -implicitDefEqProofs (maxSteps := 1000000) only [go_sem, true_implies, false_implies]
    repeat (first | refine ⟨rfl, ?_⟩ | refine ⟨by decide, ?_⟩ | refine ⟨⟨by decide, by decide⟩, ?_⟩ | refine ⟨decide_eq_true (by omega), ?_⟩ | refine ⟨⟨decide_eq_true (by omega), decide_eq_true (by omega)⟩, ?_⟩)
    try (first | done | decide | exact decide_eq_true (by omega) | exact ⟨decide_eq_true (by omega), decide_eq_true (by omega)⟩)
    refine .of (c_i_within _ _ _) ?_
    try simp -implicitDefEqProofs (maxSteps := 1000000) only [go_sem, true_implies, false_implies]
    repeat (first | refine ⟨rfl, ?_⟩ | refine ⟨by decide, ?_⟩ | refine ⟨⟨by decide, by decide⟩, ?_⟩ | refine ⟨decide_eq_true (by omega), ?_⟩ | refine ⟨⟨decide_eq_true (by omega), decide_eq_true (by omega)⟩, ?_⟩)
    try (first | done | decide | exact decide_eq_true (by omega) | exact ⟨decide_eq_true (by omega), decide_eq_true (by omega)⟩)
    cases g5 : win gen 1 60000
    · have e : (StoreV.mk ⟨secs, cache, fuse, false⟩ T gen place).ok = false := by simp only [StoreV.ok, g5, Bool.and_false, Bool.false_and]
      try simp -implicitDefEqProofs (maxSteps := 1000000) only [go_sem, true_implies, false_implies, e]
      repeat (first | refine ⟨rfl, ?_⟩ | refine ⟨by decide, ?_⟩ | refine ⟨⟨by decide, by decide⟩, ?_⟩ | refine ⟨decide_eq_true (by omega), ?_⟩ | refine ⟨⟨decide_eq_true (by omega), decide_eq_true (by omega)⟩, ?_⟩)
      try (first | done | decide | exact decide_eq_true (by omega) | exact ⟨decide_eq_true (by omega), decide_eq_true (by omega)⟩)
    try simp -implicitDefEqProofs (maxSteps := 1000000) only [go_sem, true_implies, false_implies]
    repeat (first | refine ⟨rfl, ?_⟩ | refine ⟨by decide, ?_⟩ | refine ⟨⟨by decide, by decide⟩, ?_⟩ | refine ⟨decide_eq_true (by omega), ?_⟩ | refine ⟨⟨decide_eq_true (by omega), decide_eq_true (by omega)⟩, ?_⟩)
    try (first | done | decide | exact decide_eq_true (by omega) | exact ⟨decide_eq_true (by omega), decide_eq_true (by omega)⟩)
    have e : (StoreV.mk ⟨secs, cache, fuse, false⟩ T gen place).ok = win place 0 30 := by simp only [StoreV.ok, g1, g2, g0, g4, g5, Bool.and_true, Bool.true_and, Bool.or_true, Bool.true_or]
    refine .of (c_i_within _ _ _) ?_
    try simp -implicitDefEqProofs (maxSteps := 1000000) only [go_sem, true_implies, false_implies, e]
    repeat (first | refine ⟨rfl, ?_⟩ | refine ⟨by decide, ?_⟩ | refine ⟨⟨by decide, by decide⟩, ?_⟩ | refine ⟨decide_eq_true (by omega), ?_⟩ | refine ⟨⟨decide_eq_true (by omega), decide_eq_true (by omega)⟩, ?_⟩)
    try (first | done | decide | exact decide_eq_true (by omega) | exact ⟨decide_eq_true (by omega), decide_eq_true (by omega)⟩)
  · skip
    simp -implicitDefEqProofs (maxSteps := 1000000) only [x_i_StoreOk, go_sem, true_implies, false_implies]
    repeat (first | refine ⟨rfl, ?_⟩ | refine ⟨by decide, ?_⟩ | refine ⟨⟨by decide, by decide⟩, ?_⟩ | refine ⟨decide_eq_true (by omega), ?_⟩ | refine ⟨⟨decide_eq_true (by omega), decide_eq_true (by omega)⟩, ?_⟩)
    try (first | done | decide | exact decide_eq_true (by omega) | exact ⟨decide_eq_true (by omega), decide_eq_true (by omega)⟩)
    refine .of (c_i_DevOk ⟨secs, cache, fuse, true⟩ hD) ?_
    try simp -implicitDefEqProofs (maxSteps := 1000000) only [go_sem, true_implies, false_implies]
    repeat (first | refine ⟨rfl, ?_⟩ | refine ⟨by decide, ?_⟩ | refine ⟨⟨by decide, by decide⟩, ?_⟩ | refine ⟨decide_eq_true (by omega), ?_⟩ | refine ⟨⟨decide_eq_true (by omega), decide_eq_true (by omega)⟩, ?_⟩)
    try (first | done | decide | exact decide_eq_true (by omega) | exact ⟨decide_eq_true (by omega), decide_eq_true (by omega)⟩)
    cases g1 : DevV.ok ⟨secs, cache, fuse, true⟩
    · have e : (StoreV.mk ⟨secs, cache, fuse, true⟩ T gen place).ok = false := by simp only [StoreV.ok, g1, Bool.false_and]
      try simp -implicitDefEqProofs (maxSteps := 1000000) only [go_sem, true_implies, false_implies, e]
      repeat (first | refine ⟨rfl, ?_⟩ | refine ⟨by decide, ?_⟩ | refine ⟨⟨by decide, by decide⟩, ?_⟩ | refine ⟨decide_eq_true (by omega), ?_⟩ | refine ⟨⟨decide_eq_true (by omega), decide_eq_true (by omega)⟩, ?_⟩)
      try (first | done | decide | exact decide_eq_true (by omega) | exact ⟨decide_eq_true (by omega), decide_eq_true (by omega)⟩)
    cases g2 : ((secs.length : Int) == 62)
    · have e : (StoreV.mk ⟨secs, cache, fuse, true⟩ T gen place).ok = false := by simp only [StoreV.ok, g2, Bool.and_false, Bool.false_and]
      try simp -implicitDefEqProofs (maxSteps := 1000000) only [go_sem, true_implies, false_implies, g2, e]
      repeat (first | refine ⟨rfl, ?_⟩ | refine ⟨by decide, ?_⟩ | refine ⟨⟨by decide, by decide⟩, ?_⟩ | refine ⟨decide_eq_true (by omega), ?_⟩ | refine ⟨⟨decide_eq_true (by omega), decide_eq_true (by omega)⟩, ?_⟩)
      try (first | done | decide | exact decide_eq_true (by omega) | exact ⟨decide_eq_true (by omega), decide_eq_true (by omega)⟩)
    cases g0 : ((cache.length : Int) == 0)
    · try simp -implicitDefEqProofs (maxSteps := 1000000) only [go_sem, true_implies, false_implies, g2, g0]
      repeat (first | refine ⟨rfl, ?_⟩ | refine ⟨by decide, ?_⟩ | refine ⟨⟨by decide, by decide⟩, ?_⟩ | refine ⟨decide_eq_true (by omega), ?_⟩ | refine ⟨⟨decide_eq_true (by omega), decide_eq_true (by omega)⟩, ?_⟩)
      try (first | done | decide | exact decide_eq_true (by omega) | exact ⟨decide_eq_true (by omega), decide_eq_true (by omega)⟩)
      refine .of (c_i_TabOk T hT) ?_
      try simp -implicitDefEqProofs (maxSteps := 1000000) only [go_sem, true_implies, false_implies]
      repeat (first | refine ⟨rfl, ?_⟩ | refine ⟨by decide, ?_⟩ | refine ⟨⟨by decide, by decide⟩, ?_⟩ | refine ⟨decide_eq_true (by omega), ?_⟩ | refine ⟨⟨decide_eq_true (by omega), decide_eq_true (by omega)⟩, ?_⟩)
      try (first | done | decide | exact decide_eq_true (by omega) | exact ⟨decide_eq_true (by omega), decide_eq_true (by omega)⟩)
      cases g4 : T.ok
      · have e : (StoreV.mk ⟨secs, cache, fuse, true⟩ T gen place).ok = false := by simp only [StoreV.ok, g4, Bool.and_false, Bool.false_and]
        try simp -implicitDefEqProofs (maxSteps := 1000000) only [go_sem, true_implies, false_implies, e]
        repeat (first | refine ⟨rfl, ?_⟩ | refine ⟨by decide, ?_⟩ | refine ⟨⟨by decide, by decide⟩, ?_⟩ | refine ⟨decide_eq_true (by omega), ?_⟩ | refine ⟨⟨decide_eq_true (by omega), decide_eq_true (by omega)⟩, ?_⟩)
        try (first | done | decide | exact decide_eq_true (by omega) | exact ⟨decide_eq_true (by omega), decide_eq_true (by omega)⟩)
      try simp -implicitDefEqProofs (maxSteps := 1000000) only [go_sem, true_implies, false_implies]
      repeat (first | refine ⟨rfl, ?_⟩ | refine ⟨by decide, ?_⟩ | refine ⟨⟨by decide, by decide⟩, ?_⟩ | refine ⟨decide_eq_true (by omega), ?_⟩ | refine ⟨⟨decide_eq_true (by omega), decide_eq_true (by omega)⟩, ?_⟩)
      try (first | done | decide | exact decide_eq_true (by omega) | exact ⟨decide_eq_true (by omega), decide_eq_true (by omega)⟩)
      refine .of (c_i_within _ _ _) ?_
      try simp -implicitDefEqProofs (maxSteps := 1000000) only [go_sem, true_implies, false_implies]
      repeat (first | refine ⟨rfl, ?_⟩ | refine ⟨by decide, ?_⟩ | refine ⟨⟨by decide, by decide⟩, ?_⟩ | refine ⟨decide_eq_true (by omega), ?_⟩ | refine ⟨⟨decide_eq_true (by omega), decide_eq_true (by omega)⟩, ?_⟩)
      try (first | done | decide | exact decide_eq_true (by omega) | exact ⟨decide_eq_true (by omega), decide_eq_true (by omega)⟩)
      cases g5 : win gen 1 60000
      · have e : (StoreV.mk ⟨secs, cache, fuse, true⟩ T gen place).ok = false := by simp only [StoreV.ok, g5, Bool.and_false, Bool.false_and]
        try simp -implicitDefEqProofs (maxSteps := 1000000) only [go_sem, true_implies, false_implies, e]
        repeat (first | refine ⟨rfl, ?_⟩ | refine ⟨by decide, ?_⟩ | refine ⟨⟨by decide, by decide⟩, ?_⟩ | refine ⟨decide_eq_true (by omega), ?_⟩ | refine ⟨⟨decide_eq_true (by omega), decide_eq_true (by omega)⟩, ?_⟩)
        try (first | done | decide | exact decide_eq_true (by omega) | exact ⟨decide_eq_true (by omega), decide_eq_true (by omega)⟩)
      try simp -implicitDefEqProofs (maxSteps := 1000000) only [go_sem, true_implies, false_implies]
      repeat (first | refine ⟨rfl, ?_⟩ | refine ⟨by decide, ?_⟩ | refine ⟨⟨by decide, by decide⟩, ?_⟩ | refine ⟨decide_eq_true (by omega), ?_⟩ | refine ⟨⟨decide_eq_true (by omega), decide_eq_true (by omega)⟩, ?_⟩)
      try (first | done | decide | exact decide_eq_true (by omega) | exact ⟨decide_eq_true (by omega), decide_eq_true (by omega)⟩)
      have e : (StoreV.mk ⟨secs, cache, fuse, true⟩ T gen place).ok = win place 0 30 := by simp only [StoreV.ok, g1, g2, g0, g4, g5, Bool.and_true, Bool.true_and, Bool.or_true, Bool.true_or]
      refine .of (c_i_within _ _ _) ?_
      try simp -implicitDefEqProofs (maxSteps := 1000000) only [go_sem, true_implies, false_implies, e]
      repeat (first | refine ⟨rfl, ?_⟩ | refine ⟨by decide, ?_⟩ | refine ⟨⟨by decide, by decide⟩, ?_⟩ | refine ⟨decide_eq_true (by omega), ?_⟩ | refine ⟨⟨decide_eq_true (by omega), decide_eq_true (by omega)⟩, ?_⟩)
      try (first | done | decide | exact decide_eq_true (by omega) | exact ⟨decide_eq_true (by omega), decide_eq_true (by omega)⟩)
    · try simp -implicitDefEqProofs (maxSteps := 1000000) only [go_sem, true_implies, false_implies, g2, g0]
      repeat (first | refine ⟨rfl, ?_⟩ | refine ⟨by decide, ?_⟩ | refine ⟨⟨by decide, by decide⟩, ?_⟩ | refine ⟨decide_eq_true (by omega), ?_⟩ | refine ⟨⟨decide_eq_true (by omega), decide_eq_true (by omega)⟩, ?_⟩)
      try (first | done | decide | exact decide_eq_true (by omega) | exact ⟨decide_eq_true (by omega), decide_eq_true (by omega)⟩)
      refine .of (c_i_TabOk T hT) ?_
      try simp -implicitDefEqProofs (maxSteps := 1000000) only [go_sem, true_implies, false_implies]
      repeat (first | refine ⟨rfl, ?_⟩ | refine ⟨by decide, ?_⟩ | refine ⟨⟨by decide, by decide⟩, ?_⟩ | refine ⟨decide_eq_true (by omega), ?_⟩ | refine ⟨⟨decide_eq_true (by omega), decide_eq_true (by omega)⟩, ?_⟩)
      try (first | done | decide | exact decide_eq_true (by omega) | exact ⟨decide_eq_true (by omega), decide_eq_true (by omega)⟩)
      cases g4 : T.ok
      · have e : (StoreV.mk ⟨secs, cache, fuse, true⟩ T gen place).ok = false := by simp only [StoreV.ok, g4, Bool.and_false, Bool.false_and]
        try simp -implicitDefEqProofs (maxSteps := 1000000) only [go_sem, true_implies, false_implies, e]
        repeat (first | refine ⟨rfl, ?_⟩ | refine ⟨by decide, ?_⟩ | refine ⟨⟨by decide, by decide⟩, ?_⟩ | refine ⟨decide_eq_true (by omega), ?_⟩ | refine ⟨⟨decide_eq_true (by omega), decide_eq_true (by omega)⟩, ?_⟩)
        try (first | done | decide | exact decide_eq_true (by omega) | exact ⟨decide_eq_true (by omega), decide_eq_true (by omega)⟩)
      try simp -implicitDefEqProofs (maxSteps := 1000000) only [go_sem, true_implies, false_implies]
      repeat (first | refine ⟨rfl, ?_⟩ | refine ⟨by decide, ?_⟩ | refine ⟨⟨by decide, by decide⟩, ?_⟩ | refine ⟨decide_eq_true (by omega), ?_⟩ | refine ⟨⟨decide_eq_true (by omega), decide_eq_true (by omega)⟩, ?_⟩)
      try (first | done | decide | exact decide_eq_true (by omega) | exact ⟨decide_eq_true (by omega), decide_eq_true (by omega)⟩)
      refine .of (c_i_within _ _ _) ?_
      try simp -implicitDefEqProofs (maxSteps := 1000000) only [go_sem, true_implies, false_implies]
      repeat (first | refine ⟨rfl, ?_⟩ | refine ⟨by decide, ?_⟩ | refine ⟨⟨by decide, by decide⟩, ?_⟩ | refine ⟨decide_eq_true (by omega), ?_⟩ | refine ⟨⟨decide_eq_true (by omega), decide_eq_true (by omega)⟩, ?_⟩)
      try (first | done | decide | exact decide_eq_true (by omega) | exact ⟨decide_eq_true (by omega), decide_eq_true (by omega)⟩)
      cases g5 : win gen 1 60000
      · have e : (StoreV.mk ⟨secs, cache, fuse, true⟩ T gen place).ok = false := by simp only [StoreV.ok, g5, Bool.and_false, Bool.false_and]
        try simp -implicitDefEqProofs (maxSteps := 1000000) only [go_sem, true_implies, false_implies, e]
        repeat (first | refine ⟨rfl, ?_⟩ | refine ⟨by decide, ?_⟩ | refine ⟨⟨by decide, by decide⟩, ?_⟩ | refine ⟨decide_eq_true (by omega), ?_⟩ | refine ⟨⟨decide_eq_true (by omega), decide_eq_true (by omega)⟩, ?_⟩)
        try (first | done | decide | exact decide_eq_true (by omega) | exact ⟨decide_eq_true (by omega), decide_eq_true (by omega)⟩)
      try simp -implicitDefEqProofs (maxSteps := 1000000) only [go_sem, true_implies, false_implies]
      repeat (first | refine ⟨rfl, ?_⟩ | refine ⟨by decide, ?_⟩ | refine ⟨⟨by decide, by decide⟩, ?_⟩ | refine ⟨decide_eq_true (by omega), ?_⟩ | refine ⟨⟨decide_eq_true (by omega), decide_eq_true (by omega)⟩, ?_⟩)
      try (first | done | decide | exact decide_eq_true (by omega) | exact ⟨decide_eq_true (by omega), decide_eq_true (by omega)⟩)
      have e : (StoreV.mk ⟨secs, cache, fuse, true⟩ T gen place).ok = win place 0 30 := by simp only [StoreV.ok, g1, g2, g0, g4, g5, Bool.and_true, Bool.true_and, Bool.or_true, Bool.true_or]
      refine .of (c_i_within _ _ _) ?_
      try simp -implicitDefEqProofs (maxSteps := 1000000) only [go_sem, true_implies, false_implies, e]
      repeat (first | refine ⟨rfl, ?_⟩ | refine ⟨by decide, ?_⟩ | refine ⟨⟨by decide, by decide⟩, ?_⟩ | refine ⟨decide_eq_true (by omega), ?_⟩ | refine ⟨⟨decide_eq_true (by omega), decide_eq_true (by omega)⟩, ?_⟩)
      try (first | done | decide | exact decide_eq_true (by omega) | exact ⟨decide_eq_true (by omega), decide_eq_true (by omega)⟩)
def x_s_StoreOk : FnX := ⟨40, [.tmp 2],
  .seq (.reg [⟨none, some 1, 1, .box (.t 0)⟩,
   ⟨none, some 2, 2, .mv (.k (.one (.pv (.bool false))))⟩])
 (.seq (.reg [⟨none, some 3, 3, .faddr (.t 1) 0⟩,
   ⟨none, some 4, 4, .load (some 4) (.t 3)⟩,
   ⟨none, some 5, 5, .call 18 [0] [(.t 4)]⟩,
   ⟨none, some 6, 6, .mv (.t 5)⟩,
   ⟨(some (6, true)), some 7, 7, .faddr (.t 1) 0⟩,
   ⟨(some (6, true)), some 8, 8, .faddr (.t 7) 0⟩,
   ⟨(some (6, true)), some 9, 9, .load none (.t 8)⟩,
   ⟨(some (6, true)), some 10, 10, .len (.t 9)⟩,
   ⟨(some (6, true)), some 11, 11, .bin .eql (.t 10) (.k (.one (.pv (.int .i64 62))))⟩,
   ⟨none, some 12, 12, .pick (.t 6) (.t 11) (.k (.one (.pv (.bool false))))⟩,
   ⟨none, some 13, 13, .mv (.t 12)⟩,
   ⟨(some (13, true)), some 14, 14, .faddr (.t 1) 0⟩,
   ⟨(some (13, true)), some 15, 15, .faddr (.t 14) 3⟩,
   ⟨(some (13, true)), some 16, 16, .load none (.t 15)⟩,
   ⟨(some (13, true)), some 17, 17, .mv (.t 16)⟩,
   ⟨(some (17, false)), some 18, 18, .faddr (.t 1) 0⟩,
   ⟨(some (17, false)), some 19, 19, .faddr (.t 18) 1⟩,
   ⟨(some (17, false)), some 20, 20, .load none (.t 19)⟩,
   ⟨(some (17, false)), some 21, 21, .len (.t 20)⟩,
   ⟨(some (17, false)), some 22, 22, .bin .eql (.t 21) (.k (.one (.pv (.int .i64 0))))⟩,
   ⟨(some (13, true)), some 23, 23, .pick (.t 17) (.k (.one (.pv (.bool true)))) (.t 22)⟩,
   ⟨none, some 24, 24, .pick (.t 13) (.t 23) (.k (.one (.pv (.bool false))))⟩,
   ⟨none, some 25, 25, .mv (.t 24)⟩,
   ⟨(some (25, true)), some 26, 26, .faddr (.t 1) 4⟩,
   ⟨(some (25, true)), some 27, 27, .load (some 3) (.t 26)⟩,
   ⟨(some (25, true)), some 28, 28, .call 19 [0] [(.t 27)]⟩,
   ⟨none, some 29, 29, .pick (.t 25) (.t 28) (.k (.one (.pv (.bool false))))⟩,
   ⟨none, some 30, 30, .mv (.t 29)⟩,
   ⟨(some (30, true)), some 31, 31, .faddr (.t 1) 7⟩,
   ⟨(some (30, true)), some 32, 32, .load none (.t 31)⟩,
   ⟨(some (30, true)), some 33, 33, .call 11 [0, 0, 0] [(.t 32), (.k (.one (.pv (.int .i64 1)))), (.k (.one (.pv (.int .i64 60000))))]⟩,
   ⟨none, some 34, 34, .pick (.t 30) (.t 33) (.k (.one (.pv (.bool false))))⟩,
   ⟨none, some 35, 35, .mv (.t 34)⟩,
   ⟨(some (35, true)), some 36, 36, .faddr (.t 1) 8⟩,
   ⟨(some (35, true)), some 37, 37, .load none (.t 36)⟩,
   ⟨(some (35, true)), some 38, 38, .call 11 [0, 0, 0] [(.t 37), (.k (.one (.pv (.int .i64 0)))), (.k (.one (.pv (.int .i64 30))))]⟩,
   ⟨none, some 39, 39, .pick (.t 35) (.t 38) (.k (.one (.pv (.bool false))))⟩,
   ⟨none, some 2, 2, .mv (.t 39)⟩])
 (.ret))⟩
abbrev C_s_StoreOk (Te : Nat → List AV → Res → Prop) : Prop := ∀ (s : StoreV) (h : s.In (2 ^ 48)), Te 10 [.agg (s.enc false)] ⟨[.one (bT s.ok)], [s.enc false]⟩
theorem r_s_StoreOk {Te : Nat → List AV → Res → Prop} (c_s_DevOk : C_s_DevOk Te) (c_s_TabOk : C_s_TabOk Te) (c_s_l1In : C_s_l1In Te) : ∀ (s : StoreV) (h : s.In (2 ^ 48)), RunFn Te x_s_StoreOk [.agg (s.enc false)] ⟨[.one (bT s.ok)], [s.enc false]⟩ := by
  intro s h
  refine ⟨by simp -implicitDefEqProofs (maxSteps := 1000000) only [x_s_StoreOk, go_sem], ?_⟩
  obtain ⟨hD, hT⟩ := h
  obtain ⟨⟨secs, cache, fuse, down⟩, T, gen, place⟩ := s
  cases down
  · skip
    simp -implicitDefEqProofs (maxSteps := 1000000) only [x_s_StoreOk, go_sem, true_implies, false_implies]
    repeat (first | refine ⟨rfl, ?_⟩ | refine ⟨by decide, ?_⟩ | refine ⟨⟨by decide, by decide⟩, ?_⟩ | refine ⟨decide_eq_true (by omega), ?_⟩ | refine ⟨⟨decide_eq_true (by omega), decide_eq_true (by omega)⟩, ?_⟩)
    try (first | done | decide | exact decide_eq_true (by omega) | exact ⟨decide_eq_true (by omega), decide_eq_true (by omega)⟩)
    refine .of (c_s_DevOk ⟨secs, cache, fuse, false⟩ hD) ?_
    try simp -implicitDefEqProofs (maxSteps := 1000000) only [go_sem, true_implies, false_implies]
    repeat (first | refine ⟨rfl, ?_⟩ | refine ⟨by decide, ?_⟩ | refine ⟨⟨by decide, by decide⟩, ?_⟩ | refine ⟨decide_eq_true (by omega), ?_⟩ | refine ⟨⟨decide_eq_true (by omega), decide_eq_true (by omega)⟩, ?_⟩)
    try (first | done | decide | exact decide_eq_true (by omega) | exact ⟨decide_eq_true (by omega), decide_eq_true (by omega)⟩)
    cases g1 : DevV.ok ⟨secs, cache, fuse, false⟩
    · have e : (StoreV.mk ⟨secs, cache, fuse, false⟩ T gen place).ok = false := by simp only [StoreV.ok, g1, Bool.false_and]
      try simp -implicitDefEqProofs (maxSteps := 1000000) only [go_sem, true_implies, false_implies, e]
      repeat (first | refine ⟨rfl, ?_⟩ | refine ⟨by decide, ?_⟩ | refine ⟨⟨by decide, by decide⟩, ?_⟩ | refine ⟨decide_eq_true (by omega), ?_⟩ | refine ⟨⟨decide_eq_true (by omega), decide_eq_true (by omega)⟩, ?_⟩)
      try (first | done | decide | exact decide_eq_true (by omega) | exact ⟨decide_eq_true (by omega), decide_eq_true (by omega)⟩)
    cases g2 : ((secs.length : Int) == 62)
    · have e : (StoreV.mk ⟨secs, cache, fuse, false⟩ T gen place).ok = false := by simp only [StoreV.ok, g2, Bool.and_false, Bool.false_and]
      try simp -implicitDefEqProofs (maxSteps := 1000000) only [go_sem, true_implies, false_implies, g2, e]
      repeat (first | refine ⟨rfl, ?_⟩ | refine ⟨by decide, ?_⟩ | refine ⟨⟨by decide, by decide⟩, ?_⟩ | refine ⟨decide_eq_true (by omega), ?_⟩ | refine ⟨⟨decide_eq_true (by omega), decide_eq_true (by omega)⟩, ?_⟩)
      try (first | done | decide | exact decide_eq_true (by omega) | exact ⟨decide_eq_true (by omega), decide_eq_true (by omega)⟩)
    cases g0 : ((cache.length : Int) == 0)
    · have e : (StoreV.mk ⟨secs, cache, fuse, false⟩ T gen place).ok = false := by simp only [StoreV.ok, g0, Bool.or_self, Bool.and_false, Bool.false_and]
      try simp -implicitDefEqProofs (maxSteps := 1000000) only [go_sem, true_implies, false_implies, g2, g0, e]
      repeat (first | refine ⟨rfl, ?_⟩ | refine ⟨by decide, ?_⟩ | refine ⟨⟨by decide, by decide⟩, ?_⟩ | refine ⟨decide_eq_true (by omega), ?_⟩ | refine ⟨⟨decide_eq_true (by omega), decide_eq_true (by omega)⟩, ?_⟩)
      try (first | done | decide | exact decide_eq_true (by omega) | exact ⟨decide_eq_true (by omega), decide_eq_true (by omega)⟩)
    try simp -implicitDefEqProofs (maxSteps := 1000000) only [go_sem, true_implies, false_implies, g2, g0]
    repeat (first | refine ⟨rfl, ?_⟩ | refine ⟨by decide, ?_⟩ | refine ⟨⟨by decide, by decide⟩, ?_⟩ | refine ⟨decide_eq_true (by omega), ?_⟩ | refine ⟨⟨decide_eq_true (by omega), decide_eq_true (by omega)⟩, ?_⟩)
    try (first | done | decide | exact decide_eq_true (by omega) | exact ⟨decide_eq_true (by omega), decide_eq_true (by omega)⟩)
    refine .of (c_s_TabOk T hT) ?_
    try simp -implicitDefEqProofs (maxSteps := 1000000) only [go_sem, true_implies, false_implies]
    repeat (first | refine ⟨rfl, ?_⟩ | refine ⟨by decide, ?_⟩ | refine ⟨⟨by decide, by decide⟩, ?_⟩ | refine ⟨decide_eq_true (by omega), ?_⟩ | refine ⟨⟨decide_eq_true (by omega), decide_eq_true (by omega)⟩, ?_⟩)
    try (first | done | decide | exact decide_eq_true (by omega) | exact ⟨decide_eq_true (by omega), decide_eq_true (by omega)⟩)
    cases g4 : T.ok
    · have e : (StoreV.mk ⟨secs, cache, fuse, false⟩ T gen place).ok = false := by simp only [StoreV.ok, g4, Bool.and_false, Bool.false_and]
      try simp -implicitDefEqProofs (maxSteps := 1000000) only [go_sem, true_implies, false_implies, e]
      repeat (first | refine ⟨rfl, ?_⟩ | refine ⟨by decide, ?_⟩ | refine ⟨⟨by decide, by decide⟩, ?_⟩ | refine ⟨decide_eq_true (by omega), ?_⟩ | refine ⟨⟨decide_eq_true (by omega), decide_eq_true (by omega)⟩, ?_⟩)
      try (first | done | decide | exact decide_eq_true (by omega) | exact ⟨decide_eq_true (by omega), decide_eq_true (by omega)⟩)
    try simp -implicitDefEqProofs (maxSteps := 1000000) only [go_sem, true_implies, false_implies]
    repeat (first | refine ⟨rfl, ?_⟩ | refine ⟨by decide, ?_⟩ | refine ⟨⟨by decide, by decide⟩, ?_⟩ | refine ⟨decide_eq_true (by omega), ?_⟩ | refine ⟨⟨decide_eq_true (by omega), decide_eq_true (by omega)⟩, ?_⟩)
    try (first | done | decide | exact decide_eq_true (by omega) | exact ⟨decide_eq_true (by omega), decide_eq_true (by omega)⟩)
    refine .of (c_s_l1In _ _ _) ?_
    try simp -implicitDefEqProofs (maxSteps := 1000000) only [go_sem, true_implies, false_implies]
    repeat (first | refine ⟨rfl, ?_⟩ | refine ⟨by decide, ?_⟩ | refine ⟨⟨by decide, by decide⟩, ?_⟩ | refine ⟨decide_eq_true (by omega), ?_⟩ | refine ⟨⟨decide_eq_true (by omega), decide_eq_true (by omega)⟩, ?_⟩)
    try (first | done | decide | exact decide_eq_true (by omega) | exact ⟨decide_eq_true (by omega), decide_eq_true (by omega)⟩)
    cases g5 : win gen 1 60000
    · have e : (StoreV.mk ⟨secs, cache, fuse, false⟩ T gen place).ok = false := by simp only [StoreV.ok, g5, Bool.and_false, Bool.false_and]
      try simp -implicitDefEqProofs (maxSteps := 1000000) only [go_sem, true_implies, false_implies, e]
      repeat (first | refine ⟨rfl, ?_⟩ | refine ⟨by decide, ?_⟩ | refine ⟨⟨by decide, by decide⟩, ?_⟩ | refine ⟨decide_eq_true (by omega), ?_⟩ | refine ⟨⟨decide_eq_true (by omega), decide_eq_true (by omega)⟩, ?_⟩)
      try (first | done | decide | exact decide_eq_true (by omega) | exact ⟨decide_eq_true (by omega), decide_eq_true (by omega)⟩)
    try simp -implicitDefEqProofs (maxSteps := 1000000) only [go_sem, true_implies, false_implies]
    repeat (first | refine ⟨rfl, ?_⟩ | refine ⟨by decide, ?_⟩ | refine ⟨⟨by decide, by decide⟩, ?_⟩ | refine ⟨decide_eq_true (by omega), ?_⟩ | refine ⟨⟨decide_eq_true (by omega), decide_eq_true (by omega)⟩, ?_⟩)
    try (first | done | decide | exact decide_eq_true (by omega) | exact ⟨decide_eq_true (by omega), decide_eq_true (by omega)⟩)
    have e : (StoreV.mk ⟨secs, cache, fuse, false⟩ T gen place).ok = win place 0 30 := by simp only [StoreV.ok, g1, g2, g0, g4, g5, Bool.and_true, Bool.true_and, Bool.or_true, Bool.true_or]
    refine .of (c_s_l1In _ _ _) ?_
    try simp -implicitDefEqProofs (maxSteps := 1000000) only [go_sem, true_implies, false_implies, e]
    repeat (first | refine ⟨rfl, ?_⟩ | refine ⟨by decide, ?_⟩ | refine ⟨⟨by decide, by decide⟩, ?_⟩ | refine ⟨decide_eq_true (by omega), ?_⟩ | refine ⟨⟨decide_eq_true (by omega), decide_eq_true (by omega)⟩, ?_⟩)
    try (first | done | decide | exact decide_eq_true (by omega) | exact ⟨decide_eq_true (by omega), decide_eq_true (by omega)⟩)
  · skip
    simp -implicitDefEqProofs (maxSteps := 1000000) only [x_s_StoreOk, go_sem, true_implies, false_implies]
    repeat (first | refine ⟨rfl, ?_⟩ | refine ⟨by decide, ?_⟩ | refine ⟨⟨by decide, by decide⟩, ?_⟩ | refine ⟨decide_eq_true (by omega), ?_⟩ | refine ⟨⟨decide_eq_true (by omega), decide_eq_true (by omega)⟩, ?_⟩)
    try (first | done | decide | exact decide_eq_true (by omega) | exact ⟨decide_eq_true (by omega), decide_eq_true (by omega)⟩)
    refine .of (c_s_DevOk ⟨secs, cache, fuse, true⟩ hD) ?_
    try simp -implicitDefEqProofs (maxSteps := 1000000) only [go_sem, true_implies, false_implies]
    repeat (first | refine ⟨rfl, ?_⟩ | refine ⟨by decide, ?_⟩ | refine ⟨⟨by decide, by decide⟩, ?_⟩ | refine ⟨decide_eq_true (by omega), ?_⟩ | refine ⟨⟨decide_eq_true (by omega), decide_eq_true (by omega)⟩, ?_⟩)
    try (first | done | decide | exact decide_eq_true (by omega) | exact ⟨decide_eq_true (by omega), decide_eq_true (by omega)⟩)
    cases g1 : DevV.ok ⟨secs, cache, fuse, true⟩
    · have e : (StoreV.mk ⟨secs, cache, fuse, true⟩ T gen place).ok = false := by simp only [StoreV.ok, g1, Bool.false_and]
      try simp -implicitDefEqProofs (maxSteps := 1000000) only [go_sem, true_implies, false_implies, e]
      repeat (first | refine ⟨rfl, ?_⟩ | refine ⟨by decide, ?_⟩ | refine ⟨⟨by decide, by decide⟩, ?_⟩ | refine ⟨decide_eq_true (by omega), ?_⟩ | refine ⟨⟨decide_eq_true (by omega), decide_eq_true (by omega)⟩, ?_⟩)
      try (first | done | decide | exact decide_eq_true (by omega) | exact ⟨decide_eq_true (by omega), decide_eq_true (by omega)⟩)
    cases g2 : ((secs.length : Int) == 62)
    · have e : (StoreV.mk ⟨secs, cache, fuse, true⟩ T gen place).ok = false := by simp only [StoreV.ok, g2, Bool.and_false, Bool.false_and]
      try simp -implicitDefEqProofs (maxSteps := 1000000) only [go_sem, true_implies, false_implies, g2, e]
      repeat (first | refine ⟨rfl, ?_⟩ | refine ⟨by decide, ?_⟩ | refine ⟨⟨by decide, by decide⟩, ?_⟩ | refine ⟨decide_eq_true (by omega), ?_⟩ | refine ⟨⟨decide_eq_true (by omega), decide_eq_true (by omega)⟩, ?_⟩)
      try (first | done | decide | exact decide_eq_true (by omega) | exact ⟨decide_eq_true (by omega), decide_eq_true (by omega)⟩)
    try simp -implicitDefEqProofs (maxSteps := 1000000) only [go_sem, true_implies, false_implies, g2]
    repeat (first | refine ⟨rfl, ?_⟩ | refine ⟨by decide, ?_⟩ | refine ⟨⟨by decide, by decide⟩, ?_⟩ | refine ⟨decide_eq_true (by omega), ?_⟩ | refine ⟨⟨decide_eq_true (by omega), decide_eq_true (by omega)⟩, ?_⟩)
    try (first | done | decide | exact decide_eq_true (by omega) | exact ⟨decide_eq_true (by omega), decide_eq_true (by omega)⟩)
    refine .of (c_s_TabOk T hT) ?_
    try simp -implicitDefEqProofs (maxSteps := 1000000) only [go_sem, true_implies, false_implies]
    repeat (first | refine ⟨rfl, ?_⟩ | refine ⟨by decide, ?_⟩ | refine ⟨⟨by decide, by decide⟩, ?_⟩ | refine ⟨decide_eq_true (by omega), ?_⟩ | refine ⟨⟨decide_eq_true (by omega), decide_eq_true (by omega)⟩, ?_⟩)
    try (first | done | decide | exact decide_eq_true (by omega) | exact ⟨decide_eq_true (by omega), decide_eq_true (by omega)⟩)
    cases g4 : T.ok
    · have e : (StoreV.mk ⟨secs, cache, fuse, true⟩ T gen place).ok = false := by simp only [StoreV.ok, g4, Bool.and_false, Bool.false_and]
      try simp -implicitDefEqProofs (maxSteps := 1000000) only [go_sem, true_implies, false_implies, e]
      repeat (first | refine ⟨rfl, ?_⟩ | refine ⟨by decide, ?_⟩ | refine ⟨⟨by decide, by decide⟩, ?_⟩ | refine ⟨decide_eq_true (by omega), ?_⟩ | refine ⟨⟨decide_eq_true (by omega), decide_eq_true (by omega)⟩, ?_⟩)
      try (first | done | decide | exact decide_eq_true (by omega) | exact ⟨decide_eq_true (by omega), decide_eq_true (by omega)⟩)
    try simp -implicitDefEqProofs (maxSteps := 1000000) only [go_sem, true_implies, false_implies]
    repeat (first | refine ⟨rfl, ?_⟩ | refine ⟨by decide, ?_⟩ | refine ⟨⟨by decide, by decide⟩, ?_⟩ | refine ⟨decide_eq_true (by omega), ?_⟩ | refine ⟨⟨decide_eq_true (by omega), decide_eq_true (by omega)⟩, ?_⟩)
    try (first | done | decide | exact decide_eq_true (by omega) | exact ⟨decide_eq_true (by omega), decide_eq_true (by omega)⟩)
    refine .of (c_s_l1In _ _ _) ?_
    try simp -implicitDefEqProofs (maxSteps := 1000000) only [go_sem, true_implies, false_implies]
    repeat (first | refine ⟨rfl, ?_⟩ | refine ⟨by decide, ?_⟩ | refine ⟨⟨by decide, by decide⟩, ?_⟩ | refine ⟨decide_eq_true (by omega), ?_⟩ | refine ⟨⟨decide_eq_true (by omega), decide_eq_true (by omega)⟩, ?_⟩)
    try (first | done | decide | exact decide_eq_true (by omega) | exact ⟨decide_eq_true (by omega), decide_eq_true (by omega)⟩)
    cases g5 : win gen 1 60000
    · have e : (StoreV.mk ⟨secs, cache, fuse, true⟩ T gen place).ok = false := by simp only [StoreV.ok, g5, Bool.and_false, Bool.false_and]
      try simp -implicitDefEqProofs (maxSteps := 1000000) only [go_sem, true_implies, false_implies, e]
      repeat (first | refine ⟨rfl, ?_⟩ | refine ⟨by decide, ?_⟩ | refine ⟨⟨by decide, by decide⟩, ?_⟩ | refine ⟨decide_eq_true (by omega), ?_⟩ | refine ⟨⟨decide_eq_true (by omega), decide_eq_true (by omega)⟩, ?_⟩)
      try (first | done | decide | exact decide_eq_true (by omega) | exact ⟨decide_eq_true (by omega), decide_eq_true (by omega)⟩)
    try simp -implicitDefEqProofs (maxSteps := 1000000) only [go_sem, true_implies, false_implies]
    repeat (first | refine ⟨rfl, ?_⟩ | refine ⟨by decide, ?_⟩ | refine ⟨⟨by decide, by decide⟩, ?_⟩ | refine ⟨decide_eq_true (by omega), ?_⟩ | refine ⟨⟨decide_eq_true (by omega), decide_eq_true (by omega)⟩, ?_⟩)
    try (first | done | decide | exact decide_eq_true (by omega) | exact ⟨decide_eq_true (by omega), decide_eq_true (by omega)⟩)
    have e : (StoreV.mk ⟨secs, cache, fuse, true⟩ T gen place).ok = win place 0 30 := by simp only [StoreV.ok, g1, g2, g4, g5, Bool.and_true, Bool.true_and, Bool.or_true, Bool.true_or]
    refine .of (c_s_l1In _ _ _) ?_
    try simp -implicitDefEqProofs (maxSteps := 1000000) only [go_sem, true_implies, false_implies, e]
    repeat (first | refine ⟨rfl, ?_⟩ | refine ⟨by decide, ?_⟩ | refine ⟨⟨by decide, by decide⟩, ?_⟩ | refine ⟨decide_eq_true (by omega), ?_⟩ | refine ⟨⟨decide_eq_true (by omega), decide_eq_true (by omega)⟩, ?_⟩)
    try (first | done | decide | exact decide_eq_true (by omega) | exact ⟨decide_eq_true (by omega), decide_eq_true (by omega)⟩)
def NodeV.ok (n : NodeV) : Bool := n.S.ok && win n.Cs 1 5
def x_i_NodeOk : FnX := ⟨11, [.tmp 2],
  .seq (.reg [⟨none, some 1, 1, .box (.t 0)⟩,
   ⟨none, some 2, 2, .mv (.k (.one (.pv (.bool false))))⟩])
 (.seq (.reg [⟨none, some 3, 3, .faddr (.t 1) 0⟩,
   ⟨none, some 4, 4, .load (some 9) (.t 3)⟩,
   ⟨none, some 5, 5, .call 13 [0] [(.t 4)]⟩,
   ⟨none, some 6, 6, .mv (.t 5)⟩,
   ⟨(some (6, true)), some 7, 7, .faddr (.t 1) 9⟩,
   ⟨(some (6, true)), some 8, 8, .load none (.t 7)⟩,
   ⟨(some (6, true)), some 9, 9, .call 14 [0, 0, 0] [(.t 8), (.k (.one (.pv (.int .i64 1)))), (.k (.one (.pv (.int .i64 5))))]⟩,
   ⟨none, some 10, 10, .pick (.t 6) (.t 9) (.k (.one (.pv (.bool false))))⟩,
   ⟨none, some 2, 2, .mv (.t 10)⟩])
 (.ret))⟩
abbrev C_i_NodeOk (Te : Nat → List AV → Res → Prop) : Prop := ∀ (n : NodeV) (h : n.In (2 ^ 48)), Te 7 [.agg (n.enc false)] ⟨[.one (bT n.ok)], [n.enc false]⟩
theorem r_i_NodeOk {Te : Nat → List AV → Res → Prop} (c_i_StoreOk : C_i_StoreOk Te) (c_i_within : C_i_within Te) : ∀ (n : NodeV) (h : n.In (2 ^ 48)), RunFn Te x_i_NodeOk [.agg (n.enc false)] ⟨[.one (bT n.ok)], [n.enc false]⟩ := by
  intro n h
  refine ⟨by simp -implicitDefEqProofs (maxSteps := 1000000) only [x_i_NodeOk, go_sem], ?_⟩
  simp -implicitDefEqProofs (maxSteps := 1000000) only [x_i_NodeOk, go_sem, true_implies, false_implies, NodeV.ok]
  repeat (first | refine ⟨rfl, ?_⟩ | refine ⟨by decide, ?_⟩ | refine ⟨⟨by decide, by decide⟩, ?_⟩ | refine ⟨decide_eq_true (by omega), ?_⟩ | refine ⟨⟨decide_eq_true (by omega), decide_eq_true (by omega)⟩, ?_⟩)
  try (first | done | decide | exact decide_eq_true (by omega) | exact ⟨decide_eq_true (by omega), decide_eq_true (by omega)⟩)
  refine .of (c_i_StoreOk n.S h) ?_
  try simp -implicitDefEqProofs (maxSteps := 1000000) only [go_sem, true_implies, false_implies]
  repeat (first | refine ⟨rfl, ?_⟩ | refine ⟨by decide, ?_⟩ | refine ⟨⟨by decide, by decide⟩, ?_⟩ | refine ⟨decide_eq_true (by omega), ?_⟩ | refine ⟨⟨decide_eq_true (by omega), decide_eq_true (by omega)⟩, ?_⟩)
  try (first | done | decide | exact decide_eq_true (by omega) | exact ⟨decide_eq_true (by omega), decide_eq_true (by omega)⟩)
  cases g1 : n.S.ok
  · try simp -implicitDefEqProofs (maxSteps := 1000000) only [go_sem, true_implies, false_implies]
    repeat (first | refine ⟨rfl, ?_⟩ | refine ⟨by decide, ?_⟩ | refine ⟨⟨by decide, by decide⟩, ?_⟩ | refine ⟨decide_eq_true (by omega), ?_⟩ | refine ⟨⟨decide_eq_true (by omega), decide_eq_true (by omega)⟩, ?_⟩)
    try (first | done | decide | exact decide_eq_true (by omega) | exact ⟨decide_eq_true (by omega), decide_eq_true (by omega)⟩)
  · try simp -implicitDefEqProofs (maxSteps := 1000000) only [go_sem, true_implies, false_implies]
    repeat (first | refine ⟨rfl, ?_⟩ | refine ⟨by decide, ?_⟩ | refine ⟨⟨by decide, by decide⟩, ?_⟩ | refine ⟨decide_eq_true (by omega), ?_⟩ | refine ⟨⟨decide_eq_true (by omega), decide_eq_true (by omega)⟩, ?_⟩)
    try (first | done | decide | exact decide_eq_true (by omega) | exact ⟨decide_eq_true (by omega), decide_eq_true (by omega)⟩)
    refine .of (c_i_within _ _ _) ?_
    try simp -implicitDefEqProofs (maxSteps := 1000000) only [go_sem, true_implies, false_implies]
    repeat (first | refine ⟨rfl, ?_⟩ | refine ⟨by decide, ?_⟩ | refine ⟨⟨by decide, by decide⟩, ?_⟩ | refine ⟨decide_eq_true (by omega), ?_⟩ | refine ⟨⟨decide_eq_true (by omega), decide_eq_true (by omega)⟩, ?_⟩)
    try (first | done | decide | exact decide_eq_true (by omega) | exact ⟨decide_eq_true (by omega), decide_eq_true (by omega)⟩)
def x_s_NodeOk : FnX := ⟨11, [.tmp 2],
  .seq (.reg [⟨none, some 1, 1, .box (.t 0)⟩,
   ⟨none, some 2, 2, .mv (.k (.one (.pv (.bool false))))⟩])
 (.seq (.reg [⟨none, some 3, 3, .faddr (.t 1) 0⟩,
   ⟨none, some 4, 4, .load (some 9) (.t 3)⟩,
   ⟨none, some 5, 5, .call 10 [0] [(.t 4)]⟩,
   ⟨none, some 6, 6, .mv (.t 5)⟩,
   ⟨(some (6, true)), some 7, 7, .faddr (.t 1) 9⟩,
   ⟨(some (6, true)), some 8, 8, .load none (.t 7)⟩,
   ⟨(some (6, true)), some 9, 9, .call 11 [0, 0, 0] [(.t 8), (.k (.one (.pv (.int .i64 1)))), (.k (.one (.pv (.int .i64 5))))]⟩,
   ⟨none, some 10, 10, .pick (.t 6) (.t 9) (.k (.one (.pv (.bool false))))⟩,
   ⟨none, some 2, 2, .mv (.t 10)⟩])
 (.ret))⟩
abbrev C_s_NodeOk (Te : Nat → List AV → Res → Prop) : Prop := ∀ (n : NodeV) (h : n.In (2 ^ 48)), Te 5 [.agg (n.enc false)] ⟨[.one (bT n.ok)], [n.enc false]⟩
theorem r_s_NodeOk {Te : Nat → List AV → Res → Prop} (c_s_StoreOk : C_s_StoreOk Te) (c_s_l1In : C_s_l1In Te) : ∀ (n : NodeV) (h : n.In (2 ^ 48)), RunFn Te x_s_NodeOk [.agg (n.enc false)] ⟨[.one (bT n.ok)], [n.enc false]⟩ := by
  intro n h
  refine ⟨by simp -implicitDefEqProofs (maxSteps := 1000000) only [x_s_NodeOk, go_sem], ?_⟩
  simp -implicitDefEqProofs (maxSteps := 1000000) only [x_s_NodeOk, go_sem, true_implies, false_implies, NodeV.ok]
  repeat (first | refine ⟨rfl, ?_⟩ | refine ⟨by decide, ?_⟩ | refine ⟨⟨by decide, by decide⟩, ?_⟩ | refine ⟨decide_eq_true (by omega), ?_⟩ | refine ⟨⟨decide_eq_true (by omega), decide_eq_true (by omega)⟩, ?_⟩)
  try (first | done | decide | exact decide_eq_true (by omega) | exact ⟨decide_eq_true (by omega), decide_eq_true (by omega)⟩)
  refine .of (c_s_StoreOk n.S h) ?_
  try simp -implicitDefEqProofs (maxSteps := 1000000) only [go_sem, true_implies, false_implies]
  repeat (first | refine ⟨rfl, ?_⟩ | refine ⟨by decide, ?_⟩ | refine ⟨⟨by decide, by decide⟩, ?_⟩ | refine ⟨decide_eq_true (by omega), ?_⟩ | refine ⟨⟨decide_eq_true (by omega), decide_eq_true (by omega)⟩, ?_⟩)
  try (first | done | decide | exact decide_eq_true (by omega) | exact ⟨decide_eq_true (by omega), decide_eq_true (by omega)⟩)
  cases g1 : n.S.ok
  · try simp -implicitDefEqProofs (maxSteps := 1000000) only [go_sem, true_implies, false_implies]
    repeat (first | refine ⟨rfl, ?_⟩ | refine ⟨by decide, ?_⟩ | refine ⟨⟨by decide, by decide⟩, ?_⟩ | refine ⟨decide_eq_true (by omega), ?_⟩ | refine ⟨⟨decide_eq_true (by omega), decide_eq_true (by omega)⟩, ?_⟩)
    try (first | done | decide | exact decide_eq_true (by omega) | exact ⟨decide_eq_true (by omega), decide_eq_true (by omega)⟩)
  · try simp -implicitDefEqProofs (maxSteps := 1000000) only [go_sem, true_implies, false_implies]
    repeat (first | refine ⟨rfl, ?_⟩ | refine ⟨by decide, ?_⟩ | refine ⟨⟨by decide, by decide⟩, ?_⟩ | refine ⟨decide_eq_true (by omega), ?_⟩ | refine ⟨⟨decide_eq_true (by omega), decide_eq_true (by omega)⟩, ?_⟩)
    try (first | done | decide | exact decide_eq_true (by omega) | exact ⟨decide_eq_true (by omega), decide_eq_true (by omega)⟩)
    refine .of (c_s_l1In _ _ _) ?_
    try simp -implicitDefEqProofs (maxSteps := 1000000) only [go_sem, true_implies, false_implies]
    repeat (first | refine ⟨rfl, ?_⟩ | refine ⟨by decide, ?_⟩ | refine ⟨⟨by decide, by decide⟩, ?_⟩ | refine ⟨decide_eq_true (by omega), ?_⟩ | refine ⟨⟨decide_eq_true (by omega), decide_eq_true (by omega)⟩, ?_⟩)
    try (first | done | decide | exact decide_eq_true (by omega) | exact ⟨decide_eq_true (by omega), decide_eq_true (by omega)⟩)
end Go.X

