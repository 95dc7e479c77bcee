/- Texts: CVg CVi CVj CVk CVl. -/
import Derived.Test.YtfmkpckoghbniaaGreatDoorCd
import Derived.Test.YtfmkpckoghbniaaGreatDoorCe
set_option linter.unusedVariables false
set_option linter.unusedSimpArgs false
/- Vg -/
namespace Go.X
set_option maxRecDepth 100000
set_option maxHeartbeats 8000000
def secGood (l : List UInt8) : Bool := !decide ((l.length : Int) > 120)
def wrGood (n : Nat) (w : WrV) : Bool := win w.N 0 ((n : Int) - 1) && !decide ((w.B.length : Int) > 120)
def DevV.ok (d : DevV) : Bool := win d.Secs.length 1 64 && decide ((d.Cache.length : Int) ≤ 40) && win d.Fuse (-1) 1000 && d.Secs.all secGood && d.Cache.all (wrGood d.Secs.length)
theorem gt_le (n : Nat) : decide ((n : Int) > 40) = !decide ((n : Int) ≤ 40) := by
  by_cases h : (n : Int) ≤ 40
  · rw [decide_eq_true h, decide_eq_false (by omega)]; rfl
  · rw [decide_eq_false h, decide_eq_true (by omega)]; rfl
def x_i_DevOk : FnX := ⟨57, [.tmp 2],
  .q [.v 1 0, .F 2]
 (.seq (.q [.f 7 1 0, .l 8 7, .n 9 8, .op 10 (.call 25 [0, 0, 0] [(.t 9), (.i 1), (.i 64)]), .N 11 10, .m 12 11, ⟨(some (12, false)), some 13, 13, .faddr (.t 1) 1⟩, ⟨(some (12, false)), some 14, 14, .load none (.t 13)⟩, ⟨(some (12, false)), some 15, 15, .len (.t 14)⟩, ⟨(some (12, false)), some 16, 16, .bin .gtr (.t 15) (.i 40)⟩, .r 17 12 16, .m 18 17, ⟨(some (18, false)), some 19, 19, .faddr (.t 1) 2⟩, ⟨(some (18, false)), some 20, 20, .load none (.t 19)⟩, ⟨(some (18, false)), some 21, 21, .call 25 [0, 0, 0] [(.t 20), (.i (-1)), (.i 1000)]⟩, ⟨(some (18, false)), some 22, 22, .not (.t 21)⟩, .r 23 18 22]
 (.c 23 (.q [.F 2]
 .ret)))
 (.seq (.q [.f 24 1 0, .l 25 24, .n 26 25, .i 27 0]
 (.block 0 (.loop [1, 25, 26, 27] (.q [.b 28 .lss 27 26]
 (.seq (.cond 28 .skip (.exit 0))
 (.seq (.block 1 (.q [.x 29 1 25 27, .l 30 29, .m 4 30]
 (.q [.m 31 4, .n 32 31, .B 33 .gtr 32 120]
 (.c 33 (.q [.F 2]
 .ret)))))
 (.reg [.B 34 .add 27 1, .m 27 34])))))))
 (.norm [1] (.seq (.q [.f 35 1 1, .l 36 35, .n 37 36, .i 38 0]
 (.block 2 (.loop [1, 36, 37, 38] (.q [.b 39 .lss 38 37]
 (.seq (.cond 39 .skip (.exit 2))
 (.seq (.block 3 (.q [.x 40 2 36 38, .L 41 2 40, .op 6 (.alloc [.i 0, .nils 1]), .s 100001 2 6 41]
 (.q [.f 42 6 0, .l 43 42, .f 44 1 0, .l 45 44, .n 46 45, .B 47 .sub 46 1, .op 48 (.call 25 [0, 0, 0] [(.t 43), (.i 0), (.t 47)]), .N 49 48, .m 50 49, ⟨(some (50, false)), some 51, 51, .faddr (.t 6) 1⟩, ⟨(some (50, false)), some 52, 52, .load none (.t 51)⟩, ⟨(some (50, false)), some 53, 53, .len (.t 52)⟩, ⟨(some (50, false)), some 54, 54, .bin .gtr (.t 53) (.i 120)⟩, .r 55 50 54]
 (.c 55 (.q [.F 2]
 .ret)))))
 (.reg [.B 56 .add 38 1, .m 38 56])))))))
 (.norm [] (.q [.T 2]
 .ret))))))⟩
abbrev C_i_DevOk (Te : TE) : Prop := ∀ (d : DevV) (h : d.In (2 ^ 48)), Te 101 [.agg (d.enc false)] ⟨[.one (bT d.ok)], [d.enc false]⟩
theorem r_i_DevOk {Te : TE} (c_i_within : C_i_within Te) : C_i_DevOk (RF Te x_i_DevOk) := by
  intro d h
  refine run0 ?_
  obtain ⟨⟨hl, hS⟩, hl2, hC⟩ := h
  have ws : IntKind.i64.wrap ((d.Secs.length : Int) - 1) = (d.Secs.length : Int) - 1 := IntWalk.i64_in _ (by omega)
  simp -implicitDefEqProofs only [x_i_DevOk, go_sem]
  repeat (first | refine ⟨rfl, ?_⟩ | refine ⟨by decide, ?_⟩ | refine ⟨⟨by decide, by decide⟩, ?_⟩ | refine ⟨decide_eq_true (by omega), ?_⟩ | refine ⟨⟨decide_eq_true (by omega), decide_eq_true (by omega)⟩, ?_⟩)
  try (first | done | decide | exact decide_eq_true (by omega) | exact ⟨decide_eq_true (by omega), decide_eq_true (by omega)⟩)
  refine .of (c_i_within _ _ _) ?_
  try simp -implicitDefEqProofs only [go_sem]
  repeat (first | refine ⟨rfl, ?_⟩ | refine ⟨by decide, ?_⟩ | refine ⟨⟨by decide, by decide⟩, ?_⟩ | refine ⟨decide_eq_true (by omega), ?_⟩ | refine ⟨⟨decide_eq_true (by omega), decide_eq_true (by omega)⟩, ?_⟩)
  try (first | done | decide | exact decide_eq_true (by omega) | exact ⟨decide_eq_true (by omega), decide_eq_true (by omega)⟩)
  cases g1 : win (d.Secs.length : Int) 1 64
  · have e : d.ok = false := by simp only [DevV.ok, g1, Bool.false_and]
    try simp -implicitDefEqProofs only [go_sem, e]
    repeat (first | refine ⟨rfl, ?_⟩ | refine ⟨by decide, ?_⟩ | refine ⟨⟨by decide, by decide⟩, ?_⟩ | refine ⟨decide_eq_true (by omega), ?_⟩ | refine ⟨⟨decide_eq_true (by omega), decide_eq_true (by omega)⟩, ?_⟩)
    try (first | done | decide | exact decide_eq_true (by omega) | exact ⟨decide_eq_true (by omega), decide_eq_true (by omega)⟩)
  cases g2 : decide ((d.Cache.length : Int) > 40)
  · have g2' : decide ((d.Cache.length : Int) ≤ 40) = true := by rw [gt_le] at g2; simpa using g2
    try simp -implicitDefEqProofs only [go_sem, g2]
    repeat (first | refine ⟨rfl, ?_⟩ | refine ⟨by decide, ?_⟩ | refine ⟨⟨by decide, by decide⟩, ?_⟩ | refine ⟨decide_eq_true (by omega), ?_⟩ | refine ⟨⟨decide_eq_true (by omega), decide_eq_true (by omega)⟩, ?_⟩)
    try (first | done | decide | exact decide_eq_true (by omega) | exact ⟨decide_eq_true (by omega), decide_eq_true (by omega)⟩)
    refine .of (c_i_within _ _ _) ?_
    try simp -implicitDefEqProofs only [go_sem]
    repeat (first | refine ⟨rfl, ?_⟩ | refine ⟨by decide, ?_⟩ | refine ⟨⟨by decide, by decide⟩, ?_⟩ | refine ⟨decide_eq_true (by omega), ?_⟩ | refine ⟨⟨decide_eq_true (by omega), decide_eq_true (by omega)⟩, ?_⟩)
    try (first | done | decide | exact decide_eq_true (by omega) | exact ⟨decide_eq_true (by omega), decide_eq_true (by omega)⟩)
    cases g3 : win d.Fuse (-1) 1000
    · have e : d.ok = false := by simp only [DevV.ok, g3, Bool.and_false, Bool.false_and]
      try simp -implicitDefEqProofs only [go_sem, e]
      repeat (first | refine ⟨rfl, ?_⟩ | refine ⟨by decide, ?_⟩ | refine ⟨⟨by decide, by decide⟩, ?_⟩ | refine ⟨decide_eq_true (by omega), ?_⟩ | refine ⟨⟨decide_eq_true (by omega), decide_eq_true (by omega)⟩, ?_⟩)
      try (first | done | decide | exact decide_eq_true (by omega) | exact ⟨decide_eq_true (by omega), decide_eq_true (by omega)⟩)
    simp -implicitDefEqProofs only [go_sem, true_implies, false_implies, true_and]
    refine loop_of (σ := Nat) (fun i => ⟨[(1, .bp 1 0), (25, .one (.ro 1 (d.Secs.map (fun y => [slT false 1 uR y])))), (26, .one (.pv (.int .i64 d.Secs.length))), (27, .one (.pv (.int .i64 i)))], [(1, [.ro 1 (d.Secs.map (fun y => [slT false 1 uR y])), .ro 2 (d.Cache.map (WrV.enc false)), .pv (.int .i64 d.Fuse), .pv (.bool d.Down)])], [(0, d.enc false)]⟩) (fun i => i ≤ d.Secs.length ∧ (d.Secs.take i).all (secGood) = true) (fun i => d.Secs.length - i) 0 ?_ ⟨Nat.zero_le _, rfl⟩ ?_
    · simp -implicitDefEqProofs only [go_sem]
      try rfl
    · rintro i ⟨hi, hp⟩
      cases q : decide ((i : Int) < (d.Secs.length : Int))
      · have eS := all_end (p := secGood) (show d.Secs.length ≤ i by simp only [decide_eq_false_iff_not] at q; omega) hp
        try simp -implicitDefEqProofs only [go_sem, q]
        repeat (first | refine ⟨rfl, ?_⟩ | refine ⟨by decide, ?_⟩ | refine ⟨⟨by decide, by decide⟩, ?_⟩ | refine ⟨decide_eq_true (by omega), ?_⟩ | refine ⟨⟨decide_eq_true (by omega), decide_eq_true (by omega)⟩, ?_⟩)
        try (first | done | decide | exact decide_eq_true (by omega) | exact ⟨decide_eq_true (by omega), decide_eq_true (by omega)⟩)
        refine loop_of (σ := Nat) (fun i => ⟨[(1, .bp 1 0), (36, .one (.ro 2 (d.Cache.map (WrV.enc false)))), (37, .one (.pv (.int .i64 d.Cache.length))), (38, .one (.pv (.int .i64 i)))], [(1, [.ro 1 (d.Secs.map (fun y => [slT false 1 uR y])), .ro 2 (d.Cache.map (WrV.enc false)), .pv (.int .i64 d.Fuse), .pv (.bool d.Down)])], [(0, d.enc false)]⟩) (fun i => i ≤ d.Cache.length ∧ (d.Cache.take i).all (wrGood d.Secs.length) = true) (fun i => d.Cache.length - i) 0 ?_ ⟨Nat.zero_le _, rfl⟩ ?_
        · simp -implicitDefEqProofs only [go_sem]
          try rfl
        · rintro i ⟨hi, hp⟩
          cases q : decide ((i : Int) < (d.Cache.length : Int))
          · have eC := all_end (p := wrGood d.Secs.length) (show d.Cache.length ≤ i by simp only [decide_eq_false_iff_not] at q; omega) hp
            try simp -implicitDefEqProofs only [go_sem, q]
            repeat (first | refine ⟨rfl, ?_⟩ | refine ⟨by decide, ?_⟩ | refine ⟨⟨by decide, by decide⟩, ?_⟩ | refine ⟨decide_eq_true (by omega), ?_⟩ | refine ⟨⟨decide_eq_true (by omega), decide_eq_true (by omega)⟩, ?_⟩)
            try (first | done | decide | exact decide_eq_true (by omega) | exact ⟨decide_eq_true (by omega), decide_eq_true (by omega)⟩)
            have e : d.ok = true := by simp only [DevV.ok, g1, g2', g3, eS, eC, Bool.and_true]
            try simp -implicitDefEqProofs only [go_sem, e]
            repeat (first | refine ⟨rfl, ?_⟩ | refine ⟨by decide, ?_⟩ | refine ⟨⟨by decide, by decide⟩, ?_⟩ | refine ⟨decide_eq_true (by omega), ?_⟩ | refine ⟨⟨decide_eq_true (by omega), decide_eq_true (by omega)⟩, ?_⟩)
            try (first | done | decide | exact decide_eq_true (by omega) | exact ⟨decide_eq_true (by omega), decide_eq_true (by omega)⟩)
          · have k1 : i < d.Cache.length := by simp only [decide_eq_true_eq] at q; omega
            try simp -implicitDefEqProofs only [go_sem, q, List.getElem?_eq_getElem k1, ws]
            repeat (first | refine ⟨rfl, ?_⟩ | refine ⟨by decide, ?_⟩ | refine ⟨⟨by decide, by decide⟩, ?_⟩ | refine ⟨decide_eq_true (by omega), ?_⟩ | refine ⟨⟨decide_eq_true (by omega), decide_eq_true (by omega)⟩, ?_⟩)
            try (first | done | decide | exact decide_eq_true (by omega) | exact ⟨decide_eq_true (by omega), decide_eq_true (by omega)⟩)
            refine .of (c_i_within _ _ _) ?_
            try simp -implicitDefEqProofs only [go_sem]
            repeat (first | refine ⟨rfl, ?_⟩ | refine ⟨by decide, ?_⟩ | refine ⟨⟨by decide, by decide⟩, ?_⟩ | refine ⟨decide_eq_true (by omega), ?_⟩ | refine ⟨⟨decide_eq_true (by omega), decide_eq_true (by omega)⟩, ?_⟩)
            try (first | done | decide | exact decide_eq_true (by omega) | exact ⟨decide_eq_true (by omega), decide_eq_true (by omega)⟩)
            cases g : win d.Cache[i].N 0 ((d.Secs.length : Int) - 1)
            · have gg : wrGood d.Secs.length d.Cache[i] = false := by simp only [wrGood, g, Bool.false_and]
              have e : d.ok = false := by simp only [DevV.ok, all_not (p := wrGood d.Secs.length) k1 gg, Bool.and_false]
              try simp -implicitDefEqProofs only [go_sem, e]
              repeat (first | refine ⟨rfl, ?_⟩ | refine ⟨by decide, ?_⟩ | refine ⟨⟨by decide, by decide⟩, ?_⟩ | refine ⟨decide_eq_true (by omega), ?_⟩ | refine ⟨⟨decide_eq_true (by omega), decide_eq_true (by omega)⟩, ?_⟩)
              try (first | done | decide | exact decide_eq_true (by omega) | exact ⟨decide_eq_true (by omega), decide_eq_true (by omega)⟩)
            · cases g2 : decide ((d.Cache[i].B.length : Int) > 120)
              · try simp -implicitDefEqProofs only [go_sem, g2, List.getElem?_eq_getElem k1]
                repeat (first | refine ⟨rfl, ?_⟩ | refine ⟨by decide, ?_⟩ | refine ⟨⟨by decide, by decide⟩, ?_⟩ | refine ⟨decide_eq_true (by omega), ?_⟩ | refine ⟨⟨decide_eq_true (by omega), decide_eq_true (by omega)⟩, ?_⟩)
                try (first | done | decide | exact decide_eq_true (by omega) | exact ⟨decide_eq_true (by omega), decide_eq_true (by omega)⟩)
                exact ⟨i + 1, by rw [IntWalk.i64_in _ (by omega)]; rfl, ⟨k1, all_step (p := wrGood d.Secs.length) k1 hp (by simp only [wrGood, g, g2, Bool.not_false, Bool.and_true])⟩, by omega⟩
              · have gg : wrGood d.Secs.length d.Cache[i] = false := by simp only [wrGood, g2, Bool.not_true, Bool.and_false]
                have e : d.ok = false := by simp only [DevV.ok, all_not (p := wrGood d.Secs.length) k1 gg, Bool.and_false]
                try simp -implicitDefEqProofs only [go_sem, g2, List.getElem?_eq_getElem k1, e]
                repeat (first | refine ⟨rfl, ?_⟩ | refine ⟨by decide, ?_⟩ | refine ⟨⟨by decide, by decide⟩, ?_⟩ | refine ⟨decide_eq_true (by omega), ?_⟩ | refine ⟨⟨decide_eq_true (by omega), decide_eq_true (by omega)⟩, ?_⟩)
                try (first | done | decide | exact decide_eq_true (by omega) | exact ⟨decide_eq_true (by omega), decide_eq_true (by omega)⟩)
      · have k1 : i < d.Secs.length := by simp only [decide_eq_true_eq] at q; omega
        cases g : decide ((d.Secs[i].length : Int) > 120)
        · try simp -implicitDefEqProofs only [go_sem, q, List.getElem?_eq_getElem k1, g]
          repeat (first | refine ⟨rfl, ?_⟩ | refine ⟨by decide, ?_⟩ | refine ⟨⟨by decide, by decide⟩, ?_⟩ | refine ⟨decide_eq_true (by omega), ?_⟩ | refine ⟨⟨decide_eq_true (by omega), decide_eq_true (by omega)⟩, ?_⟩)
          try (first | done | decide | exact decide_eq_true (by omega) | exact ⟨decide_eq_true (by omega), decide_eq_true (by omega)⟩)
          exact ⟨i + 1, by rw [IntWalk.i64_in _ (by omega)]; rfl, ⟨k1, all_step (p := secGood) k1 hp (by simp only [secGood, g, Bool.not_false])⟩, by omega⟩
        · have gg : secGood d.Secs[i] = false := by simp only [secGood, g, Bool.not_true]
          have e : d.ok = false := by simp only [DevV.ok, all_not (p := secGood) k1 gg, Bool.and_false, Bool.false_and]
          try simp -implicitDefEqProofs only [go_sem, q, List.getElem?_eq_getElem k1, g, e]
          repeat (first | refine ⟨rfl, ?_⟩ | refine ⟨by decide, ?_⟩ | refine ⟨⟨by decide, by decide⟩, ?_⟩ | refine ⟨decide_eq_true (by omega), ?_⟩ | refine ⟨⟨decide_eq_true (by omega), decide_eq_true (by omega)⟩, ?_⟩)
          try (first | done | decide | exact decide_eq_true (by omega) | exact ⟨decide_eq_true (by omega), decide_eq_true (by omega)⟩)
  · have g2' : decide ((d.Cache.length : Int) ≤ 40) = false := by rw [gt_le] at g2; simpa using g2
    have e : d.ok = false := by simp only [DevV.ok, g2', Bool.and_false, Bool.false_and]
    try simp -implicitDefEqProofs only [go_sem, g2, e]
    repeat (first | refine ⟨rfl, ?_⟩ | refine ⟨by decide, ?_⟩ | refine ⟨⟨by decide, by decide⟩, ?_⟩ | refine ⟨decide_eq_true (by omega), ?_⟩ | refine ⟨⟨decide_eq_true (by omega), decide_eq_true (by omega)⟩, ?_⟩)
    try (first | done | decide | exact decide_eq_true (by omega) | exact ⟨decide_eq_true (by omega), decide_eq_true (by omega)⟩)
end Go.X

/- Vi -/
namespace Go.X
set_option maxRecDepth 100000
set_option maxHeartbeats 8000000
theorem take_rows (l : List UInt8) : List.take l.length (l.map uR) = l.map uR := List.take_of_length_le (by simp)
def x_i_copyCell : FnX := ⟨10, [.cell 2 (some 2)],
  .q [.v 1 0, .op 2 (.alloc [.i 0, .nils 1])]
 (.seq (.draw [.f 3 1 0, .l 4 3, .f 5 1 1, .l 6 5, .op 7 (.bslice 1 [(.t 6)]), .c 8 121 [7], .op 9 (.build [.i 0, .nils 1] [(0, 1, (.t 4)), (1, 1, (.t 8))]), .s 100001 2 2 9] [[], [0], [], [2], [3], [4], [1, 5], [6, 5, 0, 1, 2, 3, 4, 5, 6]])
 .ret)⟩
abbrev C_i_copyCell (Te : TE) : Prop := ∀ (c : CellV) (h : c.Len), Te 118 [.agg (c.enc false)] ⟨[.agg (c.enc true)], [c.enc false]⟩
theorem r_i_copyCell {Te : TE} (c_i_joined : C_i_joined Te) : C_i_copyCell (RF Te x_i_copyCell) := by
  intro c h
  refine run0 ?_
  have h0 : c.B.length ≤ 2 ^ 21 := h
  simp -implicitDefEqProofs only [x_i_copyCell, go_sem]
  repeat (first | refine ⟨rfl, ?_⟩ | refine ⟨by decide, ?_⟩ | refine ⟨⟨by decide, by decide⟩, ?_⟩ | refine ⟨decide_eq_true (by omega), ?_⟩ | refine ⟨⟨decide_eq_true (by omega), decide_eq_true (by omega)⟩, ?_⟩)
  try (first | done | decide | exact decide_eq_true (by omega) | exact ⟨decide_eq_true (by omega), decide_eq_true (by omega)⟩)
  refine .of (c_i_joined [c.B] (by rw [flat1]; omega) (by show 1 ≤ 2 ^ 31; decide)) ?_
  try simp -implicitDefEqProofs only [go_sem, flat1]
  repeat (first | refine ⟨rfl, ?_⟩ | refine ⟨by decide, ?_⟩ | refine ⟨⟨by decide, by decide⟩, ?_⟩ | refine ⟨decide_eq_true (by omega), ?_⟩ | refine ⟨⟨decide_eq_true (by omega), decide_eq_true (by omega)⟩, ?_⟩)
  try (first | done | decide | exact decide_eq_true (by omega) | exact ⟨decide_eq_true (by omega), decide_eq_true (by omega)⟩)
def x_s_l8Copy : FnX := ⟨10, [.cell 2 (some 2)],
  .q [.v 1 0, .op 2 (.alloc [.i 0, .nils 1])]
 (.seq (.draw [.f 3 1 0, .l 4 3, .op 5 (.bslice 1 []), .f 6 1 1, .l 7 6, .op 8 (.app 1 1 (.t 5) (.t 7)), .op 9 (.build [.i 0, .nils 1] [(0, 1, (.t 4)), (1, 1, (.t 8))]), .s 100001 2 2 9] [[], [0], [], [], [3], [2, 4], [1, 5], [6, 5, 0, 1, 2, 3, 4, 5, 6]])
 .ret)⟩
abbrev C_s_l8Copy (Te : TE) : Prop := ∀ (c : CellV) (h : c.Len), Te 146 [.agg (c.enc false)] ⟨[.agg (c.enc true)], [c.enc false]⟩
theorem r_s_l8Copy {Te : TE} : C_s_l8Copy (RF Te x_s_l8Copy) := by
  intro c h
  refine run0 ?_
  have h0 : c.B.length ≤ 2 ^ 21 := h
  simp -implicitDefEqProofs only [x_s_l8Copy, go_sem]
  repeat (first | refine ⟨rfl, ?_⟩ | refine ⟨by decide, ?_⟩ | refine ⟨⟨by decide, by decide⟩, ?_⟩ | refine ⟨decide_eq_true (by omega), ?_⟩ | refine ⟨⟨decide_eq_true (by omega), decide_eq_true (by omega)⟩, ?_⟩)
  try (first | done | decide | exact decide_eq_true (by omega) | exact ⟨decide_eq_true (by omega), decide_eq_true (by omega)⟩)
def x_i_copyRow : FnX := ⟨12, [.cell 2 (some 7)],
  .q [.v 1 0, .op 2 (.alloc [.e, .i 0, .nils 1, .i 0, .nils 1, .i 0, .F])]
 (.seq (.draw [.f 3 1 1, .L 4 2 3, .c 5 118 [4], .f 6 1 3, .L 7 2 6, .c 8 118 [7], .f 9 1 1, .s 100001 2 9 5, .f 10 1 3, .s 100002 2 10 8] [[], [0], [1], [], [3], [4, 2], [0, 1, 2, 3, 4], [6, 2, 5, 0, 1, 2, 3, 4], [0, 1, 2, 3, 4, 5, 6, 7], [8, 5, 7, 0, 1, 2, 3, 4, 5, 6, 7]])
 (.q [.L 11 7 1, .s 100003 7 2 11]
 .ret))⟩
abbrev C_i_copyRow (Te : TE) : Prop := ∀ (r : RowV) (h : r.Len), Te 75 [.agg (r.enc false)] ⟨[.agg (r.enc true)], [r.enc false]⟩
theorem r_i_copyRow {Te : TE} (c_i_copyCell : C_i_copyCell Te) : C_i_copyRow (RF Te x_i_copyRow) := by
  intro r h
  refine run0 ?_
  simp -implicitDefEqProofs only [x_i_copyRow, go_sem]
  repeat (first | refine ⟨rfl, ?_⟩ | refine ⟨by decide, ?_⟩ | refine ⟨⟨by decide, by decide⟩, ?_⟩ | refine ⟨decide_eq_true (by omega), ?_⟩ | refine ⟨⟨decide_eq_true (by omega), decide_eq_true (by omega)⟩, ?_⟩)
  try (first | done | decide | exact decide_eq_true (by omega) | exact ⟨decide_eq_true (by omega), decide_eq_true (by omega)⟩)
  refine .of (c_i_copyCell r.Old h.1) ?_
  try simp -implicitDefEqProofs only [go_sem]
  repeat (first | refine ⟨rfl, ?_⟩ | refine ⟨by decide, ?_⟩ | refine ⟨⟨by decide, by decide⟩, ?_⟩ | refine ⟨decide_eq_true (by omega), ?_⟩ | refine ⟨⟨decide_eq_true (by omega), decide_eq_true (by omega)⟩, ?_⟩)
  try (first | done | decide | exact decide_eq_true (by omega) | exact ⟨decide_eq_true (by omega), decide_eq_true (by omega)⟩)
  refine .of (c_i_copyCell r.New h.2) ?_
  try simp -implicitDefEqProofs only [go_sem]
  repeat (first | refine ⟨rfl, ?_⟩ | refine ⟨by decide, ?_⟩ | refine ⟨⟨by decide, by decide⟩, ?_⟩ | refine ⟨decide_eq_true (by omega), ?_⟩ | refine ⟨⟨decide_eq_true (by omega), decide_eq_true (by omega)⟩, ?_⟩)
  try (first | done | decide | exact decide_eq_true (by omega) | exact ⟨decide_eq_true (by omega), decide_eq_true (by omega)⟩)
def x_s_l9Copy : FnX := ⟨16, [.cell 2 (some 7)],
  .q [.v 1 0, .op 2 (.alloc [.e, .i 0, .nils 1, .i 0, .nils 1, .i 0, .F])]
 (.seq (.draw [.f 3 1 0, .l 4 3, .f 5 1 1, .L 6 2 5, .c 7 146 [6], .f 8 1 3, .L 9 2 8, .c 10 146 [9], .f 11 1 5, .l 12 11, .f 13 1 6, .l 14 13, .op 15 (.build [.e, .i 0, .nils 1, .i 0, .nils 1, .i 0, .F] [(0, 1, (.t 4)), (1, 2, (.t 7)), (3, 2, (.t 10)), (5, 1, (.t 12)), (6, 1, (.t 14))]), .s 100001 7 2 15] [[], [0], [], [2], [3], [], [5], [6, 4], [], [8], [], [10], [1, 4, 7, 9, 11], [12, 7, 0, 1, 2, 3, 4, 5, 6, 7, 8, 9, 10, 11, 12]])
 .ret)⟩
abbrev C_s_l9Copy (Te : TE) : Prop := ∀ (r : RowV) (h : r.Len), Te 110 [.agg (r.enc false)] ⟨[.agg (r.enc true)], [r.enc false]⟩
theorem r_s_l9Copy {Te : TE} (c_s_l8Copy : C_s_l8Copy Te) : C_s_l9Copy (RF Te x_s_l9Copy) := by
  intro r h
  refine run0 ?_
  simp -implicitDefEqProofs only [x_s_l9Copy, go_sem]
  repeat (first | refine ⟨rfl, ?_⟩ | refine ⟨by decide, ?_⟩ | refine ⟨⟨by decide, by decide⟩, ?_⟩ | refine ⟨decide_eq_true (by omega), ?_⟩ | refine ⟨⟨decide_eq_true (by omega), decide_eq_true (by omega)⟩, ?_⟩)
  try (first | done | decide | exact decide_eq_true (by omega) | exact ⟨decide_eq_true (by omega), decide_eq_true (by omega)⟩)
  refine .of (c_s_l8Copy r.Old h.1) ?_
  try simp -implicitDefEqProofs only [go_sem]
  repeat (first | refine ⟨rfl, ?_⟩ | refine ⟨by decide, ?_⟩ | refine ⟨⟨by decide, by decide⟩, ?_⟩ | refine ⟨decide_eq_true (by omega), ?_⟩ | refine ⟨⟨decide_eq_true (by omega), decide_eq_true (by omega)⟩, ?_⟩)
  try (first | done | decide | exact decide_eq_true (by omega) | exact ⟨decide_eq_true (by omega), decide_eq_true (by omega)⟩)
  refine .of (c_s_l8Copy r.New h.2) ?_
  try simp -implicitDefEqProofs only [go_sem]
  repeat (first | refine ⟨rfl, ?_⟩ | refine ⟨by decide, ?_⟩ | refine ⟨⟨by decide, by decide⟩, ?_⟩ | refine ⟨decide_eq_true (by omega), ?_⟩ | refine ⟨⟨decide_eq_true (by omega), decide_eq_true (by omega)⟩, ?_⟩)
  try (first | done | decide | exact decide_eq_true (by omega) | exact ⟨decide_eq_true (by omega), decide_eq_true (by omega)⟩)
def x_i_flag : FnX := ⟨4, [.tmp 2],
  .q [.op 2 (.mv (.k (.one (.pv (.int .u8 0)))))]
 (.seq (.q [.m 3 0]
 (.c 3 (.q [.op 2 (.mv (.k (.one (.pv (.int .u8 1)))))]
 .ret)))
 (.q [.op 2 (.mv (.k (.one (.pv (.int .u8 0)))))]
 .ret))⟩
abbrev C_i_flag (Te : TE) : Prop := ∀ (b : Bool), Te 155 [.one (bT b)] ⟨[.one (uT (bif b then 1 else 0))], [[bT b]]⟩
theorem r_i_flag {Te : TE} : C_i_flag (RF Te x_i_flag) := by
  intro b
  refine run0 ?_
  cases b
  · simp -implicitDefEqProofs only [x_i_flag, go_sem]
    repeat (first | refine ⟨rfl, ?_⟩ | refine ⟨by decide, ?_⟩ | refine ⟨⟨by decide, by decide⟩, ?_⟩ | refine ⟨decide_eq_true (by omega), ?_⟩ | refine ⟨⟨decide_eq_true (by omega), decide_eq_true (by omega)⟩, ?_⟩)
    try (first | done | decide | exact decide_eq_true (by omega) | exact ⟨decide_eq_true (by omega), decide_eq_true (by omega)⟩)
    try rfl
  · simp -implicitDefEqProofs only [x_i_flag, go_sem]
    repeat (first | refine ⟨rfl, ?_⟩ | refine ⟨by decide, ?_⟩ | refine ⟨⟨by decide, by decide⟩, ?_⟩ | refine ⟨decide_eq_true (by omega), ?_⟩ | refine ⟨⟨decide_eq_true (by omega), decide_eq_true (by omega)⟩, ?_⟩)
    try (first | done | decide | exact decide_eq_true (by omega) | exact ⟨decide_eq_true (by omega), decide_eq_true (by omega)⟩)
    try rfl
def x_s_l11Bit : FnX := ⟨4, [.tmp 2],
  .q [.op 2 (.mv (.k (.one (.pv (.int .u8 0)))))]
 (.seq (.q [.m 3 0]
 (.c 3 (.q [.op 2 (.mv (.k (.one (.pv (.int .u8 1)))))]
 .ret)))
 (.q [.op 2 (.mv (.k (.one (.pv (.int .u8 0)))))]
 .ret))⟩
abbrev C_s_l11Bit (Te : TE) : Prop := ∀ (b : Bool), Te 150 [.one (bT b)] ⟨[.one (uT (bif b then 1 else 0))], [[bT b]]⟩
theorem r_s_l11Bit {Te : TE} : C_s_l11Bit (RF Te x_s_l11Bit) := by
  intro b
  refine run0 ?_
  cases b
  · simp -implicitDefEqProofs only [x_s_l11Bit, go_sem]
    repeat (first | refine ⟨rfl, ?_⟩ | refine ⟨by decide, ?_⟩ | refine ⟨⟨by decide, by decide⟩, ?_⟩ | refine ⟨decide_eq_true (by omega), ?_⟩ | refine ⟨⟨decide_eq_true (by omega), decide_eq_true (by omega)⟩, ?_⟩)
    try (first | done | decide | exact decide_eq_true (by omega) | exact ⟨decide_eq_true (by omega), decide_eq_true (by omega)⟩)
    try rfl
  · simp -implicitDefEqProofs only [x_s_l11Bit, go_sem]
    repeat (first | refine ⟨rfl, ?_⟩ | refine ⟨by decide, ?_⟩ | refine ⟨⟨by decide, by decide⟩, ?_⟩ | refine ⟨decide_eq_true (by omega), ?_⟩ | refine ⟨⟨decide_eq_true (by omega), decide_eq_true (by omega)⟩, ?_⟩)
    try (first | done | decide | exact decide_eq_true (by omega) | exact ⟨decide_eq_true (by omega), decide_eq_true (by omega)⟩)
    try rfl
def RowV.no (r : RowV) : Bool := decide (r.Key = ⟨#[]⟩) && r.Old.no && r.New.no && (r.Has == 0) && !r.Aside
def RowV.zero : RowV := ⟨⟨#[]⟩, ⟨0, []⟩, ⟨0, []⟩, 0, false⟩
def cellSame (a c : CellV) : Bool := (a.Tag == c.Tag) && decide (a.B = c.B)
def rowSame (a c : RowV) : Bool := decide (a.Key = c.Key) && cellSame a.Old c.Old && cellSame a.New c.New && (a.Has == c.Has) && (a.Aside == c.Aside)
theorem rowSame_zero (r : RowV) : rowSame r RowV.zero = r.no := by
  simp only [rowSame, RowV.no, RowV.zero, cellSame, CellV.no]
  congr 1
  cases r.Aside <;> rfl
def x_i_sameRow : FnX := ⟨38, [.tmp 4],
  .q [.v 2 0, .v 3 1, .F 4]
 (.q [.f 5 2 0, .l 6 5, .f 7 3 0, .l 8 7, .b 9 .eql 6 8, .m 10 9, ⟨(some (10, true)), some 11, 11, .faddr (.t 2) 1⟩, ⟨(some (10, true)), some 12, 12, .load (some 2) (.t 11)⟩, ⟨(some (10, true)), some 13, 13, .faddr (.t 3) 1⟩, ⟨(some (10, true)), some 14, 14, .load (some 2) (.t 13)⟩, ⟨(some (10, true)), some 15, 15, .call 163 [0, 0] [(.t 12), (.t 14)]⟩, .a 16 10 15, .m 17 16, ⟨(some (17, true)), some 18, 18, .faddr (.t 2) 3⟩, ⟨(some (17, true)), some 19, 19, .load (some 2) (.t 18)⟩, ⟨(some (17, true)), some 20, 20, .faddr (.t 3) 3⟩, ⟨(some (17, true)), some 21, 21, .load (some 2) (.t 20)⟩, ⟨(some (17, true)), some 22, 22, .call 163 [0, 0] [(.t 19), (.t 21)]⟩, .a 23 17 22, .m 24 23, ⟨(some (24, true)), some 25, 25, .faddr (.t 2) 5⟩, ⟨(some (24, true)), some 26, 26, .load none (.t 25)⟩, ⟨(some (24, true)), some 27, 27, .faddr (.t 3) 5⟩, ⟨(some (24, true)), some 28, 28, .load none (.t 27)⟩, ⟨(some (24, true)), some 29, 29, .bin .eql (.t 26) (.t 28)⟩, .a 30 24 29, .m 31 30, ⟨(some (31, true)), some 32, 32, .faddr (.t 2) 6⟩, ⟨(some (31, true)), some 33, 33, .load none (.t 32)⟩, ⟨(some (31, true)), some 34, 34, .faddr (.t 3) 6⟩, ⟨(some (31, true)), some 35, 35, .load none (.t 34)⟩, ⟨(some (31, true)), some 36, 36, .beq false (.t 33) (.t 35)⟩, .a 37 31 36, .m 4 37]
 .ret)⟩
abbrev C_i_sameRow (Te : TE) : Prop := ∀ (a c : RowV), Te 153 [.agg (a.enc false), .agg (c.enc false)] ⟨[.one (bT (rowSame a c))], [a.enc false, c.enc false]⟩
theorem r_i_sameRow {Te : TE} (c_i_sameCell : C_i_sameCell Te) : C_i_sameRow (RF Te x_i_sameRow) := by
  intro a c
  refine run0 ?_
  simp -implicitDefEqProofs only [x_i_sameRow, go_sem, bytes_beq]
  repeat (first | refine ⟨rfl, ?_⟩ | refine ⟨by decide, ?_⟩ | refine ⟨⟨by decide, by decide⟩, ?_⟩ | refine ⟨decide_eq_true (by omega), ?_⟩ | refine ⟨⟨decide_eq_true (by omega), decide_eq_true (by omega)⟩, ?_⟩)
  try (first | done | decide | exact decide_eq_true (by omega) | exact ⟨decide_eq_true (by omega), decide_eq_true (by omega)⟩)
  cases g1 : decide (a.Key = c.Key)
  · try simp -implicitDefEqProofs only [go_sem, g1, rowSame]
    repeat (first | refine ⟨rfl, ?_⟩ | refine ⟨by decide, ?_⟩ | refine ⟨⟨by decide, by decide⟩, ?_⟩ | refine ⟨decide_eq_true (by omega), ?_⟩ | refine ⟨⟨decide_eq_true (by omega), decide_eq_true (by omega)⟩, ?_⟩)
    try (first | done | decide | exact decide_eq_true (by omega) | exact ⟨decide_eq_true (by omega), decide_eq_true (by omega)⟩)
  try simp -implicitDefEqProofs only [go_sem, g1]
  repeat (first | refine ⟨rfl, ?_⟩ | refine ⟨by decide, ?_⟩ | refine ⟨⟨by decide, by decide⟩, ?_⟩ | refine ⟨decide_eq_true (by omega), ?_⟩ | refine ⟨⟨decide_eq_true (by omega), decide_eq_true (by omega)⟩, ?_⟩)
  try (first | done | decide | exact decide_eq_true (by omega) | exact ⟨decide_eq_true (by omega), decide_eq_true (by omega)⟩)
  have t1 := c_i_sameCell a.Old c.Old
  have t2 := c_i_sameCell a.New c.New
  rw [← cellSame] at t1 t2
  refine .of t1 ?_
  cases g2 : cellSame a.Old c.Old
  · try simp -implicitDefEqProofs only [go_sem, g1, g2, rowSame]
    repeat (first | refine ⟨rfl, ?_⟩ | refine ⟨by decide, ?_⟩ | refine ⟨⟨by decide, by decide⟩, ?_⟩ | refine ⟨decide_eq_true (by omega), ?_⟩ | refine ⟨⟨decide_eq_true (by omega), decide_eq_true (by omega)⟩, ?_⟩)
    try (first | done | decide | exact decide_eq_true (by omega) | exact ⟨decide_eq_true (by omega), decide_eq_true (by omega)⟩)
  try simp -implicitDefEqProofs only [go_sem]
  repeat (first | refine ⟨rfl, ?_⟩ | refine ⟨by decide, ?_⟩ | refine ⟨⟨by decide, by decide⟩, ?_⟩ | refine ⟨decide_eq_true (by omega), ?_⟩ | refine ⟨⟨decide_eq_true (by omega), decide_eq_true (by omega)⟩, ?_⟩)
  try (first | done | decide | exact decide_eq_true (by omega) | exact ⟨decide_eq_true (by omega), decide_eq_true (by omega)⟩)
  refine .of t2 ?_
  cases g3 : cellSame a.New c.New
  · try simp -implicitDefEqProofs only [go_sem, g1, g2, g3, rowSame]
    repeat (first | refine ⟨rfl, ?_⟩ | refine ⟨by decide, ?_⟩ | refine ⟨⟨by decide, by decide⟩, ?_⟩ | refine ⟨decide_eq_true (by omega), ?_⟩ | refine ⟨⟨decide_eq_true (by omega), decide_eq_true (by omega)⟩, ?_⟩)
    try (first | done | decide | exact decide_eq_true (by omega) | exact ⟨decide_eq_true (by omega), decide_eq_true (by omega)⟩)
  try simp -implicitDefEqProofs only [go_sem]
  repeat (first | refine ⟨rfl, ?_⟩ | refine ⟨by decide, ?_⟩ | refine ⟨⟨by decide, by decide⟩, ?_⟩ | refine ⟨decide_eq_true (by omega), ?_⟩ | refine ⟨⟨decide_eq_true (by omega), decide_eq_true (by omega)⟩, ?_⟩)
  try (first | done | decide | exact decide_eq_true (by omega) | exact ⟨decide_eq_true (by omega), decide_eq_true (by omega)⟩)
  cases g4 : (a.Has == c.Has)
  · try simp -implicitDefEqProofs only [go_sem, g1, g2, g3, g4, rowSame]
    repeat (first | refine ⟨rfl, ?_⟩ | refine ⟨by decide, ?_⟩ | refine ⟨⟨by decide, by decide⟩, ?_⟩ | refine ⟨decide_eq_true (by omega), ?_⟩ | refine ⟨⟨decide_eq_true (by omega), decide_eq_true (by omega)⟩, ?_⟩)
    try (first | done | decide | exact decide_eq_true (by omega) | exact ⟨decide_eq_true (by omega), decide_eq_true (by omega)⟩)
  have e9 : ∀ c : Bool, (c != false) = c := fun c => by cases c <;> rfl
  try simp -implicitDefEqProofs only [go_sem, g1, g2, g3, g4, rowSame, e9]
  repeat (first | refine ⟨rfl, ?_⟩ | refine ⟨by decide, ?_⟩ | refine ⟨⟨by decide, by decide⟩, ?_⟩ | refine ⟨decide_eq_true (by omega), ?_⟩ | refine ⟨⟨decide_eq_true (by omega), decide_eq_true (by omega)⟩, ?_⟩)
  try (first | done | decide | exact decide_eq_true (by omega) | exact ⟨decide_eq_true (by omega), decide_eq_true (by omega)⟩)
def x_s_l11NoRow : FnX := ⟨26, [.tmp 2],
  .q [.v 1 0, .F 2]
 (.q [.f 3 1 0, .l 4 3, .op 5 (.bin .eql (.t 4) (.k (.one (.pv (.string ⟨#[]⟩))))), .m 6 5, ⟨(some (6, true)), some 7, 7, .faddr (.t 1) 1⟩, ⟨(some (6, true)), some 8, 8, .load (some 2) (.t 7)⟩, ⟨(some (6, true)), some 9, 9, .call 156 [0] [(.t 8)]⟩, .a 10 6 9, .m 11 10, ⟨(some (11, true)), some 12, 12, .faddr (.t 1) 3⟩, ⟨(some (11, true)), some 13, 13, .load (some 2) (.t 12)⟩, ⟨(some (11, true)), some 14, 14, .call 156 [0] [(.t 13)]⟩, .a 15 11 14, .m 16 15, ⟨(some (16, true)), some 17, 17, .faddr (.t 1) 5⟩, ⟨(some (16, true)), some 18, 18, .load none (.t 17)⟩, ⟨(some (16, true)), some 19, 19, .bin .eql (.t 18) (.i 0)⟩, .a 20 16 19, .m 21 20, ⟨(some (21, true)), some 22, 22, .faddr (.t 1) 6⟩, ⟨(some (21, true)), some 23, 23, .load none (.t 22)⟩, ⟨(some (21, true)), some 24, 24, .not (.t 23)⟩, .a 25 21 24, .m 2 25]
 .ret)⟩
abbrev C_s_l11NoRow (Te : TE) : Prop := ∀ (r : RowV), Te 147 [.agg (r.enc false)] ⟨[.one (bT r.no)], [r.enc false]⟩
theorem r_s_l11NoRow {Te : TE} (c_s_l9None : C_s_l9None Te) : C_s_l11NoRow (RF Te x_s_l11NoRow) := by
  intro r
  refine run0 ?_
  simp -implicitDefEqProofs only [x_s_l11NoRow, go_sem, bytes_beq]
  repeat (first | refine ⟨rfl, ?_⟩ | refine ⟨by decide, ?_⟩ | refine ⟨⟨by decide, by decide⟩, ?_⟩ | refine ⟨decide_eq_true (by omega), ?_⟩ | refine ⟨⟨decide_eq_true (by omega), decide_eq_true (by omega)⟩, ?_⟩)
  try (first | done | decide | exact decide_eq_true (by omega) | exact ⟨decide_eq_true (by omega), decide_eq_true (by omega)⟩)
  cases g1 : decide (r.Key = ⟨#[]⟩)
  · try simp -implicitDefEqProofs only [go_sem, g1, RowV.no]
    repeat (first | refine ⟨rfl, ?_⟩ | refine ⟨by decide, ?_⟩ | refine ⟨⟨by decide, by decide⟩, ?_⟩ | refine ⟨decide_eq_true (by omega), ?_⟩ | refine ⟨⟨decide_eq_true (by omega), decide_eq_true (by omega)⟩, ?_⟩)
    try (first | done | decide | exact decide_eq_true (by omega) | exact ⟨decide_eq_true (by omega), decide_eq_true (by omega)⟩)
  try simp -implicitDefEqProofs only [go_sem, g1]
  repeat (first | refine ⟨rfl, ?_⟩ | refine ⟨by decide, ?_⟩ | refine ⟨⟨by decide, by decide⟩, ?_⟩ | refine ⟨decide_eq_true (by omega), ?_⟩ | refine ⟨⟨decide_eq_true (by omega), decide_eq_true (by omega)⟩, ?_⟩)
  try (first | done | decide | exact decide_eq_true (by omega) | exact ⟨decide_eq_true (by omega), decide_eq_true (by omega)⟩)
  refine .of (c_s_l9None r.Old) ?_
  try simp -implicitDefEqProofs only [go_sem]
  repeat (first | refine ⟨rfl, ?_⟩ | refine ⟨by decide, ?_⟩ | refine ⟨⟨by decide, by decide⟩, ?_⟩ | refine ⟨decide_eq_true (by omega), ?_⟩ | refine ⟨⟨decide_eq_true (by omega), decide_eq_true (by omega)⟩, ?_⟩)
  try (first | done | decide | exact decide_eq_true (by omega) | exact ⟨decide_eq_true (by omega), decide_eq_true (by omega)⟩)
  cases g2 : r.Old.no
  · try simp -implicitDefEqProofs only [go_sem, g1, g2, RowV.no]
    repeat (first | refine ⟨rfl, ?_⟩ | refine ⟨by decide, ?_⟩ | refine ⟨⟨by decide, by decide⟩, ?_⟩ | refine ⟨decide_eq_true (by omega), ?_⟩ | refine ⟨⟨decide_eq_true (by omega), decide_eq_true (by omega)⟩, ?_⟩)
    try (first | done | decide | exact decide_eq_true (by omega) | exact ⟨decide_eq_true (by omega), decide_eq_true (by omega)⟩)
  try simp -implicitDefEqProofs only [go_sem]
  repeat (first | refine ⟨rfl, ?_⟩ | refine ⟨by decide, ?_⟩ | refine ⟨⟨by decide, by decide⟩, ?_⟩ | refine ⟨decide_eq_true (by omega), ?_⟩ | refine ⟨⟨decide_eq_true (by omega), decide_eq_true (by omega)⟩, ?_⟩)
  try (first | done | decide | exact decide_eq_true (by omega) | exact ⟨decide_eq_true (by omega), decide_eq_true (by omega)⟩)
  refine .of (c_s_l9None r.New) ?_
  try simp -implicitDefEqProofs only [go_sem]
  repeat (first | refine ⟨rfl, ?_⟩ | refine ⟨by decide, ?_⟩ | refine ⟨⟨by decide, by decide⟩, ?_⟩ | refine ⟨decide_eq_true (by omega), ?_⟩ | refine ⟨⟨decide_eq_true (by omega), decide_eq_true (by omega)⟩, ?_⟩)
  try (first | done | decide | exact decide_eq_true (by omega) | exact ⟨decide_eq_true (by omega), decide_eq_true (by omega)⟩)
  cases g3 : r.New.no
  · try simp -implicitDefEqProofs only [go_sem, g1, g2, g3, RowV.no]
    repeat (first | refine ⟨rfl, ?_⟩ | refine ⟨by decide, ?_⟩ | refine ⟨⟨by decide, by decide⟩, ?_⟩ | refine ⟨decide_eq_true (by omega), ?_⟩ | refine ⟨⟨decide_eq_true (by omega), decide_eq_true (by omega)⟩, ?_⟩)
    try (first | done | decide | exact decide_eq_true (by omega) | exact ⟨decide_eq_true (by omega), decide_eq_true (by omega)⟩)
  try simp -implicitDefEqProofs only [go_sem]
  repeat (first | refine ⟨rfl, ?_⟩ | refine ⟨by decide, ?_⟩ | refine ⟨⟨by decide, by decide⟩, ?_⟩ | refine ⟨decide_eq_true (by omega), ?_⟩ | refine ⟨⟨decide_eq_true (by omega), decide_eq_true (by omega)⟩, ?_⟩)
  try (first | done | decide | exact decide_eq_true (by omega) | exact ⟨decide_eq_true (by omega), decide_eq_true (by omega)⟩)
  cases g4 : (r.Has == 0)
  · try simp -implicitDefEqProofs only [go_sem, g1, g2, g3, g4, RowV.no]
    repeat (first | refine ⟨rfl, ?_⟩ | refine ⟨by decide, ?_⟩ | refine ⟨⟨by decide, by decide⟩, ?_⟩ | refine ⟨decide_eq_true (by omega), ?_⟩ | refine ⟨⟨decide_eq_true (by omega), decide_eq_true (by omega)⟩, ?_⟩)
    try (first | done | decide | exact decide_eq_true (by omega) | exact ⟨decide_eq_true (by omega), decide_eq_true (by omega)⟩)
  try simp -implicitDefEqProofs only [go_sem, g1, g2, g3, g4, RowV.no]
  repeat (first | refine ⟨rfl, ?_⟩ | refine ⟨by decide, ?_⟩ | refine ⟨⟨by decide, by decide⟩, ?_⟩ | refine ⟨decide_eq_true (by omega), ?_⟩ | refine ⟨⟨decide_eq_true (by omega), decide_eq_true (by omega)⟩, ?_⟩)
  try (first | done | decide | exact decide_eq_true (by omega) | exact ⟨decide_eq_true (by omega), decide_eq_true (by omega)⟩)
def RecV.who (r : RecV) : Bool := bif r.Who == 0 then (r.Seq == 0) && (r.Code == 0) && (r.Kind != 4) else win r.Who 1 9 && win r.Seq 0 65535 && win r.Code 0 6
def RecV.body (r : RecV) : Bool :=
  bif r.Kind == 1 then r.R.ok && decide (r.Key = ⟨#[]⟩) && (r.N == 0)
  else bif r.Kind == 2 then r.R.no && nameOk r.Key && (r.N == 0)
  else bif r.Kind == 3 then r.R.no && decide (r.Key = ⟨#[]⟩) && win r.N 0 7
  else bif r.Kind == 4 then r.R.no && decide (r.Key = ⟨#[]⟩) && (r.N == 0)
  else false
def RecV.ok (r : RecV) : Bool := r.body && r.who
def x_s_l11Who : FnX := ⟨32, [.tmp 2],
  .q [.v 1 0, .F 2]
 (.seq (.q [.f 3 1 10, .l 4 3, .B 5 .eql 4 0]
 (.c 5 (.q [.f 6 1 11, .l 7 6, .B 8 .eql 7 0, .m 9 8, ⟨(some (9, true)), some 10, 10, .faddr (.t 1) 12⟩, ⟨(some (9, true)), some 11, 11, .load none (.t 10)⟩, ⟨(some (9, true)), some 12, 12, .bin .eql (.t 11) (.i 0)⟩, .a 13 9 12, .m 14 13, ⟨(some (14, true)), some 15, 15, .faddr (.t 1) 0⟩, ⟨(some (14, true)), some 16, 16, .load none (.t 15)⟩, ⟨(some (14, true)), some 17, 17, .bin .neq (.t 16) (.i 4)⟩, .a 18 14 17, .m 2 18]
 .ret)))
 (.q [.f 19 1 10, .l 20 19, .op 21 (.call 23 [0, 0, 0] [(.t 20), (.i 1), (.i 9)]), .m 22 21, ⟨(some (22, true)), some 23, 23, .faddr (.t 1) 11⟩, ⟨(some (22, true)), some 24, 24, .load none (.t 23)⟩, ⟨(some (22, true)), some 25, 25, .call 113 [0] [(.t 24)]⟩, .a 26 22 25, .m 27 26, ⟨(some (27, true)), some 28, 28, .faddr (.t 1) 12⟩, ⟨(some (27, true)), some 29, 29, .load none (.t 28)⟩, ⟨(some (27, true)), some 30, 30, .call 23 [0, 0, 0] [(.t 29), (.i 0), (.i 6)]⟩, .a 31 27 30, .m 2 31]
 .ret))⟩
abbrev C_s_l11Who (Te : TE) : Prop := ∀ (r : RecV), Te 149 [.agg (r.enc false)] ⟨[.one (bT r.who)], [r.enc false]⟩
theorem r_s_l11Who {Te : TE} (c_s_l1In : C_s_l1In Te) (c_s_l1Word : C_s_l1Word Te) : C_s_l11Who (RF Te x_s_l11Who) := by
  intro r
  refine run0 ?_
  simp -implicitDefEqProofs only [x_s_l11Who, go_sem]
  repeat (first | refine ⟨rfl, ?_⟩ | refine ⟨by decide, ?_⟩ | refine ⟨⟨by decide, by decide⟩, ?_⟩ | refine ⟨decide_eq_true (by omega), ?_⟩ | refine ⟨⟨decide_eq_true (by omega), decide_eq_true (by omega)⟩, ?_⟩)
  try (first | done | decide | exact decide_eq_true (by omega) | exact ⟨decide_eq_true (by omega), decide_eq_true (by omega)⟩)
  cases g0 : (r.Who == 0)
  · try simp -implicitDefEqProofs only [go_sem, g0]
    repeat (first | refine ⟨rfl, ?_⟩ | refine ⟨by decide, ?_⟩ | refine ⟨⟨by decide, by decide⟩, ?_⟩ | refine ⟨decide_eq_true (by omega), ?_⟩ | refine ⟨⟨decide_eq_true (by omega), decide_eq_true (by omega)⟩, ?_⟩)
    try (first | done | decide | exact decide_eq_true (by omega) | exact ⟨decide_eq_true (by omega), decide_eq_true (by omega)⟩)
    refine .of (c_s_l1In _ _ _) ?_
    try simp -implicitDefEqProofs only [go_sem]
    repeat (first | refine ⟨rfl, ?_⟩ | refine ⟨by decide, ?_⟩ | refine ⟨⟨by decide, by decide⟩, ?_⟩ | refine ⟨decide_eq_true (by omega), ?_⟩ | refine ⟨⟨decide_eq_true (by omega), decide_eq_true (by omega)⟩, ?_⟩)
    try (first | done | decide | exact decide_eq_true (by omega) | exact ⟨decide_eq_true (by omega), decide_eq_true (by omega)⟩)
    cases g1 : win r.Who 1 9
    · try simp -implicitDefEqProofs only [go_sem, RecV.who, g0, g1]
      repeat (first | refine ⟨rfl, ?_⟩ | refine ⟨by decide, ?_⟩ | refine ⟨⟨by decide, by decide⟩, ?_⟩ | refine ⟨decide_eq_true (by omega), ?_⟩ | refine ⟨⟨decide_eq_true (by omega), decide_eq_true (by omega)⟩, ?_⟩)
      try (first | done | decide | exact decide_eq_true (by omega) | exact ⟨decide_eq_true (by omega), decide_eq_true (by omega)⟩)
    try simp -implicitDefEqProofs only [go_sem]
    repeat (first | refine ⟨rfl, ?_⟩ | refine ⟨by decide, ?_⟩ | refine ⟨⟨by decide, by decide⟩, ?_⟩ | refine ⟨decide_eq_true (by omega), ?_⟩ | refine ⟨⟨decide_eq_true (by omega), decide_eq_true (by omega)⟩, ?_⟩)
    try (first | done | decide | exact decide_eq_true (by omega) | exact ⟨decide_eq_true (by omega), decide_eq_true (by omega)⟩)
    refine .of (c_s_l1Word _) ?_
    try simp -implicitDefEqProofs only [go_sem]
    repeat (first | refine ⟨rfl, ?_⟩ | refine ⟨by decide, ?_⟩ | refine ⟨⟨by decide, by decide⟩, ?_⟩ | refine ⟨decide_eq_true (by omega), ?_⟩ | refine ⟨⟨decide_eq_true (by omega), decide_eq_true (by omega)⟩, ?_⟩)
    try (first | done | decide | exact decide_eq_true (by omega) | exact ⟨decide_eq_true (by omega), decide_eq_true (by omega)⟩)
    cases g2 : win r.Seq 0 65535
    · try simp -implicitDefEqProofs only [go_sem, RecV.who, g0, g1, g2]
      repeat (first | refine ⟨rfl, ?_⟩ | refine ⟨by decide, ?_⟩ | refine ⟨⟨by decide, by decide⟩, ?_⟩ | refine ⟨decide_eq_true (by omega), ?_⟩ | refine ⟨⟨decide_eq_true (by omega), decide_eq_true (by omega)⟩, ?_⟩)
      try (first | done | decide | exact decide_eq_true (by omega) | exact ⟨decide_eq_true (by omega), decide_eq_true (by omega)⟩)
    try simp -implicitDefEqProofs only [go_sem]
    repeat (first | refine ⟨rfl, ?_⟩ | refine ⟨by decide, ?_⟩ | refine ⟨⟨by decide, by decide⟩, ?_⟩ | refine ⟨decide_eq_true (by omega), ?_⟩ | refine ⟨⟨decide_eq_true (by omega), decide_eq_true (by omega)⟩, ?_⟩)
    try (first | done | decide | exact decide_eq_true (by omega) | exact ⟨decide_eq_true (by omega), decide_eq_true (by omega)⟩)
    refine .of (c_s_l1In _ _ _) ?_
    try simp -implicitDefEqProofs only [go_sem, RecV.who, g0, g1, g2]
    repeat (first | refine ⟨rfl, ?_⟩ | refine ⟨by decide, ?_⟩ | refine ⟨⟨by decide, by decide⟩, ?_⟩ | refine ⟨decide_eq_true (by omega), ?_⟩ | refine ⟨⟨decide_eq_true (by omega), decide_eq_true (by omega)⟩, ?_⟩)
    try (first | done | decide | exact decide_eq_true (by omega) | exact ⟨decide_eq_true (by omega), decide_eq_true (by omega)⟩)
  · try simp -implicitDefEqProofs only [go_sem, g0]
    repeat (first | refine ⟨rfl, ?_⟩ | refine ⟨by decide, ?_⟩ | refine ⟨⟨by decide, by decide⟩, ?_⟩ | refine ⟨decide_eq_true (by omega), ?_⟩ | refine ⟨⟨decide_eq_true (by omega), decide_eq_true (by omega)⟩, ?_⟩)
    try (first | done | decide | exact decide_eq_true (by omega) | exact ⟨decide_eq_true (by omega), decide_eq_true (by omega)⟩)
    cases g1 : (r.Seq == 0)
    · try simp -implicitDefEqProofs only [go_sem, RecV.who, g0, g1]
      repeat (first | refine ⟨rfl, ?_⟩ | refine ⟨by decide, ?_⟩ | refine ⟨⟨by decide, by decide⟩, ?_⟩ | refine ⟨decide_eq_true (by omega), ?_⟩ | refine ⟨⟨decide_eq_true (by omega), decide_eq_true (by omega)⟩, ?_⟩)
      try (first | done | decide | exact decide_eq_true (by omega) | exact ⟨decide_eq_true (by omega), decide_eq_true (by omega)⟩)
    try simp -implicitDefEqProofs only [go_sem, g1]
    repeat (first | refine ⟨rfl, ?_⟩ | refine ⟨by decide, ?_⟩ | refine ⟨⟨by decide, by decide⟩, ?_⟩ | refine ⟨decide_eq_true (by omega), ?_⟩ | refine ⟨⟨decide_eq_true (by omega), decide_eq_true (by omega)⟩, ?_⟩)
    try (first | done | decide | exact decide_eq_true (by omega) | exact ⟨decide_eq_true (by omega), decide_eq_true (by omega)⟩)
    cases g2 : (r.Code == 0)
    · try simp -implicitDefEqProofs only [go_sem, RecV.who, g0, g1, g2]
      repeat (first | refine ⟨rfl, ?_⟩ | refine ⟨by decide, ?_⟩ | refine ⟨⟨by decide, by decide⟩, ?_⟩ | refine ⟨decide_eq_true (by omega), ?_⟩ | refine ⟨⟨decide_eq_true (by omega), decide_eq_true (by omega)⟩, ?_⟩)
      try (first | done | decide | exact decide_eq_true (by omega) | exact ⟨decide_eq_true (by omega), decide_eq_true (by omega)⟩)
    try simp -implicitDefEqProofs only [go_sem, RecV.who, g0, g1, g2]
    repeat (first | refine ⟨rfl, ?_⟩ | refine ⟨by decide, ?_⟩ | refine ⟨⟨by decide, by decide⟩, ?_⟩ | refine ⟨decide_eq_true (by omega), ?_⟩ | refine ⟨⟨decide_eq_true (by omega), decide_eq_true (by omega)⟩, ?_⟩)
    try (first | done | decide | exact decide_eq_true (by omega) | exact ⟨decide_eq_true (by omega), decide_eq_true (by omega)⟩)
theorem kind_win {k : Int} (h : win k 1 4 = false) : (k == 1) = false ∧ (k == 2) = false ∧ (k == 3) = false ∧ (k == 4) = false := by
  simp only [win, Bool.and_eq_false_iff, decide_eq_false_iff_not] at h
  simp only [beq_eq_false_iff_ne, ne_eq]
  omega
theorem win_kind {k : Int} (h : win k 1 4 = true) : k = 1 ∨ k = 2 ∨ k = 3 ∨ k = 4 := by
  simp only [win, Bool.and_eq_true, decide_eq_true_eq] at h
  omega
def x_s_RecOk : FnX := ⟨48, [.tmp 2],
  .q [.v 1 0, .F 2]
 (.q [.f 6 1 1, .L 7 7 6, .c 8 147 [7], .m 3 8]
 (.q [.f 9 1 8, .l 10 9, .op 11 (.bin .eql (.t 10) (.k (.one (.pv (.string ⟨#[]⟩))))), .m 4 11]
 (.q [.f 12 1 9, .l 13 12, .B 14 .eql 13 0, .m 5 14]
 (.seq (.q [.f 15 1 0, .l 16 15]
 (.block 0 (.q [.B 18 .eql 16 1, .m 17 18]
 (.cond 17 (.reg [.f 19 1 1, .L 20 7 19, .c 21 132 [20], .m 3 21]) (.q [.B 23 .eql 16 2, .m 22 23]
 (.cond 22 (.reg [.f 24 1 8, .l 25 24, .c 26 148 [25], .m 4 26]) (.q [.B 28 .eql 16 3, .m 27 28]
 (.c 27 (.reg [.f 29 1 9, .l 30 29, .op 31 (.call 23 [0, 0, 0] [(.t 30), (.i 0), (.i 7)]), .m 5 31])))))))))
 (.q [.f 32 1 0, .l 33 32, .op 34 (.call 23 [0, 0, 0] [(.t 33), (.i 1), (.i 4)]), .m 35 34, ⟨(some (35, true)), some 36, 36, .mv (.t 3)⟩, .a 37 35 36, .m 38 37, ⟨(some (38, true)), some 39, 39, .mv (.t 4)⟩, .a 40 38 39, .m 41 40, ⟨(some (41, true)), some 42, 42, .mv (.t 5)⟩, .a 43 41 42, .m 44 43, ⟨(some (44, true)), some 45, 45, .load (some 13) (.t 1)⟩, ⟨(some (44, true)), some 46, 46, .call 149 [0] [(.t 45)]⟩, .a 47 44 46, .m 2 47]
 .ret)))))⟩
abbrev C_s_RecOk (Te : TE) : Prop := ∀ (r : RecV) (h : r.In (2 ^ 48)), Te 112 [.agg (r.enc false)] ⟨[.one (bT r.ok)], [r.enc false]⟩
theorem r_s_RecOk {Te : TE} (c_s_l11NoRow : C_s_l11NoRow Te) (c_s_RowOk : C_s_RowOk Te) (c_s_NameOk : C_s_NameOk Te) (c_s_l1In : C_s_l1In Te) (c_s_l11Who : C_s_l11Who Te) : C_s_RecOk (RF Te x_s_RecOk) := by
  intro r h
  refine run0 ?_
  have hR := h.1
  have hK := h.2
  simp -implicitDefEqProofs only [x_s_RecOk, go_sem, bytes_beq]
  repeat (first | refine ⟨rfl, ?_⟩ | refine ⟨by decide, ?_⟩ | refine ⟨⟨by decide, by decide⟩, ?_⟩ | refine ⟨decide_eq_true (by omega), ?_⟩ | refine ⟨⟨decide_eq_true (by omega), decide_eq_true (by omega)⟩, ?_⟩)
  try (first | done | decide | exact decide_eq_true (by omega) | exact ⟨decide_eq_true (by omega), decide_eq_true (by omega)⟩)
  refine .of (c_s_l11NoRow r.R) ?_
  try simp -implicitDefEqProofs only [go_sem, bytes_beq]
  repeat (first | refine ⟨rfl, ?_⟩ | refine ⟨by decide, ?_⟩ | refine ⟨⟨by decide, by decide⟩, ?_⟩ | refine ⟨decide_eq_true (by omega), ?_⟩ | refine ⟨⟨decide_eq_true (by omega), decide_eq_true (by omega)⟩, ?_⟩)
  try (first | done | decide | exact decide_eq_true (by omega) | exact ⟨decide_eq_true (by omega), decide_eq_true (by omega)⟩)
  cases gk : win r.Kind 1 4
  · obtain ⟨k1, k2, k3, k4⟩ := kind_win gk
    try simp -implicitDefEqProofs only [go_sem, k1, k2, k3]
    repeat (first | refine ⟨rfl, ?_⟩ | refine ⟨by decide, ?_⟩ | refine ⟨⟨by decide, by decide⟩, ?_⟩ | refine ⟨decide_eq_true (by omega), ?_⟩ | refine ⟨⟨decide_eq_true (by omega), decide_eq_true (by omega)⟩, ?_⟩)
    try (first | done | decide | exact decide_eq_true (by omega) | exact ⟨decide_eq_true (by omega), decide_eq_true (by omega)⟩)
    refine .of (c_s_l1In _ _ _) ?_
    try simp -implicitDefEqProofs only [go_sem, gk, RecV.ok, RecV.body, k1, k2, k3, k4]
    repeat (first | refine ⟨rfl, ?_⟩ | refine ⟨by decide, ?_⟩ | refine ⟨⟨by decide, by decide⟩, ?_⟩ | refine ⟨decide_eq_true (by omega), ?_⟩ | refine ⟨⟨decide_eq_true (by omega), decide_eq_true (by omega)⟩, ?_⟩)
    try (first | done | decide | exact decide_eq_true (by omega) | exact ⟨decide_eq_true (by omega), decide_eq_true (by omega)⟩)
  obtain ⟨kind, R, key, n, who, seq, code⟩ := r
  simp only at gk hR hK
  rcases win_kind gk with rfl | rfl | rfl | rfl
  · skip
    try simp -implicitDefEqProofs only [go_sem]
    repeat (first | refine ⟨rfl, ?_⟩ | refine ⟨by decide, ?_⟩ | refine ⟨⟨by decide, by decide⟩, ?_⟩ | refine ⟨decide_eq_true (by omega), ?_⟩ | refine ⟨⟨decide_eq_true (by omega), decide_eq_true (by omega)⟩, ?_⟩)
    try (first | done | decide | exact decide_eq_true (by omega) | exact ⟨decide_eq_true (by omega), decide_eq_true (by omega)⟩)
    refine .of (c_s_RowOk R hR) ?_
    try simp -implicitDefEqProofs only [go_sem]
    repeat (first | refine ⟨rfl, ?_⟩ | refine ⟨by decide, ?_⟩ | refine ⟨⟨by decide, by decide⟩, ?_⟩ | refine ⟨decide_eq_true (by omega), ?_⟩ | refine ⟨⟨decide_eq_true (by omega), decide_eq_true (by omega)⟩, ?_⟩)
    try (first | done | decide | exact decide_eq_true (by omega) | exact ⟨decide_eq_true (by omega), decide_eq_true (by omega)⟩)
    refine .of (c_s_l1In _ _ _) ?_
    try simp -implicitDefEqProofs only [go_sem, gk]
    repeat (first | refine ⟨rfl, ?_⟩ | refine ⟨by decide, ?_⟩ | refine ⟨⟨by decide, by decide⟩, ?_⟩ | refine ⟨decide_eq_true (by omega), ?_⟩ | refine ⟨⟨decide_eq_true (by omega), decide_eq_true (by omega)⟩, ?_⟩)
    try (first | done | decide | exact decide_eq_true (by omega) | exact ⟨decide_eq_true (by omega), decide_eq_true (by omega)⟩)
    cases g1 : R.ok
    · try simp -implicitDefEqProofs only [go_sem, RecV.ok, RecV.body, g1]
      repeat (first | refine ⟨rfl, ?_⟩ | refine ⟨by decide, ?_⟩ | refine ⟨⟨by decide, by decide⟩, ?_⟩ | refine ⟨decide_eq_true (by omega), ?_⟩ | refine ⟨⟨decide_eq_true (by omega), decide_eq_true (by omega)⟩, ?_⟩)
      try (first | done | decide | exact decide_eq_true (by omega) | exact ⟨decide_eq_true (by omega), decide_eq_true (by omega)⟩)
    try simp -implicitDefEqProofs only [go_sem]
    repeat (first | refine ⟨rfl, ?_⟩ | refine ⟨by decide, ?_⟩ | refine ⟨⟨by decide, by decide⟩, ?_⟩ | refine ⟨decide_eq_true (by omega), ?_⟩ | refine ⟨⟨decide_eq_true (by omega), decide_eq_true (by omega)⟩, ?_⟩)
    try (first | done | decide | exact decide_eq_true (by omega) | exact ⟨decide_eq_true (by omega), decide_eq_true (by omega)⟩)
    cases g2 : decide (key = ⟨#[]⟩)
    · try simp -implicitDefEqProofs only [go_sem, RecV.ok, RecV.body, g1, g2]
      repeat (first | refine ⟨rfl, ?_⟩ | refine ⟨by decide, ?_⟩ | refine ⟨⟨by decide, by decide⟩, ?_⟩ | refine ⟨decide_eq_true (by omega), ?_⟩ | refine ⟨⟨decide_eq_true (by omega), decide_eq_true (by omega)⟩, ?_⟩)
      try (first | done | decide | exact decide_eq_true (by omega) | exact ⟨decide_eq_true (by omega), decide_eq_true (by omega)⟩)
    try simp -implicitDefEqProofs only [go_sem]
    repeat (first | refine ⟨rfl, ?_⟩ | refine ⟨by decide, ?_⟩ | refine ⟨⟨by decide, by decide⟩, ?_⟩ | refine ⟨decide_eq_true (by omega), ?_⟩ | refine ⟨⟨decide_eq_true (by omega), decide_eq_true (by omega)⟩, ?_⟩)
    try (first | done | decide | exact decide_eq_true (by omega) | exact ⟨decide_eq_true (by omega), decide_eq_true (by omega)⟩)
    cases g3 : (n == 0)
    · try simp -implicitDefEqProofs only [go_sem, RecV.ok, RecV.body, g1, g2, g3]
      repeat (first | refine ⟨rfl, ?_⟩ | refine ⟨by decide, ?_⟩ | refine ⟨⟨by decide, by decide⟩, ?_⟩ | refine ⟨decide_eq_true (by omega), ?_⟩ | refine ⟨⟨decide_eq_true (by omega), decide_eq_true (by omega)⟩, ?_⟩)
      try (first | done | decide | exact decide_eq_true (by omega) | exact ⟨decide_eq_true (by omega), decide_eq_true (by omega)⟩)
    try simp -implicitDefEqProofs only [go_sem]
    repeat (first | refine ⟨rfl, ?_⟩ | refine ⟨by decide, ?_⟩ | refine ⟨⟨by decide, by decide⟩, ?_⟩ | refine ⟨decide_eq_true (by omega), ?_⟩ | refine ⟨⟨decide_eq_true (by omega), decide_eq_true (by omega)⟩, ?_⟩)
    try (first | done | decide | exact decide_eq_true (by omega) | exact ⟨decide_eq_true (by omega), decide_eq_true (by omega)⟩)
    refine .of (c_s_l11Who ⟨1, R, key, n, who, seq, code⟩) ?_
    try simp -implicitDefEqProofs only [go_sem, RecV.ok, RecV.body, g1, g2, g3]
    repeat (first | refine ⟨rfl, ?_⟩ | refine ⟨by decide, ?_⟩ | refine ⟨⟨by decide, by decide⟩, ?_⟩ | refine ⟨decide_eq_true (by omega), ?_⟩ | refine ⟨⟨decide_eq_true (by omega), decide_eq_true (by omega)⟩, ?_⟩)
    try (first | done | decide | exact decide_eq_true (by omega) | exact ⟨decide_eq_true (by omega), decide_eq_true (by omega)⟩)
  · skip
    try simp -implicitDefEqProofs only [go_sem]
    repeat (first | refine ⟨rfl, ?_⟩ | refine ⟨by decide, ?_⟩ | refine ⟨⟨by decide, by decide⟩, ?_⟩ | refine ⟨decide_eq_true (by omega), ?_⟩ | refine ⟨⟨decide_eq_true (by omega), decide_eq_true (by omega)⟩, ?_⟩)
    try (first | done | decide | exact decide_eq_true (by omega) | exact ⟨decide_eq_true (by omega), decide_eq_true (by omega)⟩)
    refine .of (c_s_NameOk key hK) ?_
    try simp -implicitDefEqProofs only [go_sem]
    repeat (first | refine ⟨rfl, ?_⟩ | refine ⟨by decide, ?_⟩ | refine ⟨⟨by decide, by decide⟩, ?_⟩ | refine ⟨decide_eq_true (by omega), ?_⟩ | refine ⟨⟨decide_eq_true (by omega), decide_eq_true (by omega)⟩, ?_⟩)
    try (first | done | decide | exact decide_eq_true (by omega) | exact ⟨decide_eq_true (by omega), decide_eq_true (by omega)⟩)
    refine .of (c_s_l1In _ _ _) ?_
    try simp -implicitDefEqProofs only [go_sem, gk]
    repeat (first | refine ⟨rfl, ?_⟩ | refine ⟨by decide, ?_⟩ | refine ⟨⟨by decide, by decide⟩, ?_⟩ | refine ⟨decide_eq_true (by omega), ?_⟩ | refine ⟨⟨decide_eq_true (by omega), decide_eq_true (by omega)⟩, ?_⟩)
    try (first | done | decide | exact decide_eq_true (by omega) | exact ⟨decide_eq_true (by omega), decide_eq_true (by omega)⟩)
    cases g1 : R.no
    · try simp -implicitDefEqProofs only [go_sem, RecV.ok, RecV.body, g1]
      repeat (first | refine ⟨rfl, ?_⟩ | refine ⟨by decide, ?_⟩ | refine ⟨⟨by decide, by decide⟩, ?_⟩ | refine ⟨decide_eq_true (by omega), ?_⟩ | refine ⟨⟨decide_eq_true (by omega), decide_eq_true (by omega)⟩, ?_⟩)
      try (first | done | decide | exact decide_eq_true (by omega) | exact ⟨decide_eq_true (by omega), decide_eq_true (by omega)⟩)
    try simp -implicitDefEqProofs only [go_sem]
    repeat (first | refine ⟨rfl, ?_⟩ | refine ⟨by decide, ?_⟩ | refine ⟨⟨by decide, by decide⟩, ?_⟩ | refine ⟨decide_eq_true (by omega), ?_⟩ | refine ⟨⟨decide_eq_true (by omega), decide_eq_true (by omega)⟩, ?_⟩)
    try (first | done | decide | exact decide_eq_true (by omega) | exact ⟨decide_eq_true (by omega), decide_eq_true (by omega)⟩)
    cases g2 : nameOk key
    · try simp -implicitDefEqProofs only [go_sem, RecV.ok, RecV.body, g1, g2]
      repeat (first | refine ⟨rfl, ?_⟩ | refine ⟨by decide, ?_⟩ | refine ⟨⟨by decide, by decide⟩, ?_⟩ | refine ⟨decide_eq_true (by omega), ?_⟩ | refine ⟨⟨decide_eq_true (by omega), decide_eq_true (by omega)⟩, ?_⟩)
      try (first | done | decide | exact decide_eq_true (by omega) | exact ⟨decide_eq_true (by omega), decide_eq_true (by omega)⟩)
    try simp -implicitDefEqProofs only [go_sem]
    repeat (first | refine ⟨rfl, ?_⟩ | refine ⟨by decide, ?_⟩ | refine ⟨⟨by decide, by decide⟩, ?_⟩ | refine ⟨decide_eq_true (by omega), ?_⟩ | refine ⟨⟨decide_eq_true (by omega), decide_eq_true (by omega)⟩, ?_⟩)
    try (first | done | decide | exact decide_eq_true (by omega) | exact ⟨decide_eq_true (by omega), decide_eq_true (by omega)⟩)
    cases g3 : (n == 0)
    · try simp -implicitDefEqProofs only [go_sem, RecV.ok, RecV.body, g1, g2, g3]
      repeat (first | refine ⟨rfl, ?_⟩ | refine ⟨by decide, ?_⟩ | refine ⟨⟨by decide, by decide⟩, ?_⟩ | refine ⟨decide_eq_true (by omega), ?_⟩ | refine ⟨⟨decide_eq_true (by omega), decide_eq_true (by omega)⟩, ?_⟩)
      try (first | done | decide | exact decide_eq_true (by omega) | exact ⟨decide_eq_true (by omega), decide_eq_true (by omega)⟩)
    try simp -implicitDefEqProofs only [go_sem]
    repeat (first | refine ⟨rfl, ?_⟩ | refine ⟨by decide, ?_⟩ | refine ⟨⟨by decide, by decide⟩, ?_⟩ | refine ⟨decide_eq_true (by omega), ?_⟩ | refine ⟨⟨decide_eq_true (by omega), decide_eq_true (by omega)⟩, ?_⟩)
    try (first | done | decide | exact decide_eq_true (by omega) | exact ⟨decide_eq_true (by omega), decide_eq_true (by omega)⟩)
    refine .of (c_s_l11Who ⟨2, R, key, n, who, seq, code⟩) ?_
    try simp -implicitDefEqProofs only [go_sem, RecV.ok, RecV.body, g1, g2, g3]
    repeat (first | refine ⟨rfl, ?_⟩ | refine ⟨by decide, ?_⟩ | refine ⟨⟨by decide, by decide⟩, ?_⟩ | refine ⟨decide_eq_true (by omega), ?_⟩ | refine ⟨⟨decide_eq_true (by omega), decide_eq_true (by omega)⟩, ?_⟩)
    try (first | done | decide | exact decide_eq_true (by omega) | exact ⟨decide_eq_true (by omega), decide_eq_true (by omega)⟩)
  · skip
    try simp -implicitDefEqProofs only [go_sem]
    repeat (first | refine ⟨rfl, ?_⟩ | refine ⟨by decide, ?_⟩ | refine ⟨⟨by decide, by decide⟩, ?_⟩ | refine ⟨decide_eq_true (by omega), ?_⟩ | refine ⟨⟨decide_eq_true (by omega), decide_eq_true (by omega)⟩, ?_⟩)
    try (first | done | decide | exact decide_eq_true (by omega) | exact ⟨decide_eq_true (by omega), decide_eq_true (by omega)⟩)
    refine .of (c_s_l1In _ _ _) ?_
    try simp -implicitDefEqProofs only [go_sem]
    repeat (first | refine ⟨rfl, ?_⟩ | refine ⟨by decide, ?_⟩ | refine ⟨⟨by decide, by decide⟩, ?_⟩ | refine ⟨decide_eq_true (by omega), ?_⟩ | refine ⟨⟨decide_eq_true (by omega), decide_eq_true (by omega)⟩, ?_⟩)
    try (first | done | decide | exact decide_eq_true (by omega) | exact ⟨decide_eq_true (by omega), decide_eq_true (by omega)⟩)
    refine .of (c_s_l1In _ _ _) ?_
    try simp -implicitDefEqProofs only [go_sem, gk]
    repeat (first | refine ⟨rfl, ?_⟩ | refine ⟨by decide, ?_⟩ | refine ⟨⟨by decide, by decide⟩, ?_⟩ | refine ⟨decide_eq_true (by omega), ?_⟩ | refine ⟨⟨decide_eq_true (by omega), decide_eq_true (by omega)⟩, ?_⟩)
    try (first | done | decide | exact decide_eq_true (by omega) | exact ⟨decide_eq_true (by omega), decide_eq_true (by omega)⟩)
    cases g1 : R.no
    · try simp -implicitDefEqProofs only [go_sem, RecV.ok, RecV.body, g1]
      repeat (first | refine ⟨rfl, ?_⟩ | refine ⟨by decide, ?_⟩ | refine ⟨⟨by decide, by decide⟩, ?_⟩ | refine ⟨decide_eq_true (by omega), ?_⟩ | refine ⟨⟨decide_eq_true (by omega), decide_eq_true (by omega)⟩, ?_⟩)
      try (first | done | decide | exact decide_eq_true (by omega) | exact ⟨decide_eq_true (by omega), decide_eq_true (by omega)⟩)
    try simp -implicitDefEqProofs only [go_sem]
    repeat (first | refine ⟨rfl, ?_⟩ | refine ⟨by decide, ?_⟩ | refine ⟨⟨by decide, by decide⟩, ?_⟩ | refine ⟨decide_eq_true (by omega), ?_⟩ | refine ⟨⟨decide_eq_true (by omega), decide_eq_true (by omega)⟩, ?_⟩)
    try (first | done | decide | exact decide_eq_true (by omega) | exact ⟨decide_eq_true (by omega), decide_eq_true (by omega)⟩)
    cases g2 : decide (key = ⟨#[]⟩)
    · try simp -implicitDefEqProofs only [go_sem, RecV.ok, RecV.body, g1, g2]
      repeat (first | refine ⟨rfl, ?_⟩ | refine ⟨by decide, ?_⟩ | refine ⟨⟨by decide, by decide⟩, ?_⟩ | refine ⟨decide_eq_true (by omega), ?_⟩ | refine ⟨⟨decide_eq_true (by omega), decide_eq_true (by omega)⟩, ?_⟩)
      try (first | done | decide | exact decide_eq_true (by omega) | exact ⟨decide_eq_true (by omega), decide_eq_true (by omega)⟩)
    try simp -implicitDefEqProofs only [go_sem]
    repeat (first | refine ⟨rfl, ?_⟩ | refine ⟨by decide, ?_⟩ | refine ⟨⟨by decide, by decide⟩, ?_⟩ | refine ⟨decide_eq_true (by omega), ?_⟩ | refine ⟨⟨decide_eq_true (by omega), decide_eq_true (by omega)⟩, ?_⟩)
    try (first | done | decide | exact decide_eq_true (by omega) | exact ⟨decide_eq_true (by omega), decide_eq_true (by omega)⟩)
    cases g3 : win n 0 7
    · try simp -implicitDefEqProofs only [go_sem, RecV.ok, RecV.body, g1, g2, g3]
      repeat (first | refine ⟨rfl, ?_⟩ | refine ⟨by decide, ?_⟩ | refine ⟨⟨by decide, by decide⟩, ?_⟩ | refine ⟨decide_eq_true (by omega), ?_⟩ | refine ⟨⟨decide_eq_true (by omega), decide_eq_true (by omega)⟩, ?_⟩)
      try (first | done | decide | exact decide_eq_true (by omega) | exact ⟨decide_eq_true (by omega), decide_eq_true (by omega)⟩)
    try simp -implicitDefEqProofs only [go_sem]
    repeat (first | refine ⟨rfl, ?_⟩ | refine ⟨by decide, ?_⟩ | refine ⟨⟨by decide, by decide⟩, ?_⟩ | refine ⟨decide_eq_true (by omega), ?_⟩ | refine ⟨⟨decide_eq_true (by omega), decide_eq_true (by omega)⟩, ?_⟩)
    try (first | done | decide | exact decide_eq_true (by omega) | exact ⟨decide_eq_true (by omega), decide_eq_true (by omega)⟩)
    refine .of (c_s_l11Who ⟨3, R, key, n, who, seq, code⟩) ?_
    try simp -implicitDefEqProofs only [go_sem, RecV.ok, RecV.body, g1, g2, g3]
    repeat (first | refine ⟨rfl, ?_⟩ | refine ⟨by decide, ?_⟩ | refine ⟨⟨by decide, by decide⟩, ?_⟩ | refine ⟨decide_eq_true (by omega), ?_⟩ | refine ⟨⟨decide_eq_true (by omega), decide_eq_true (by omega)⟩, ?_⟩)
    try (first | done | decide | exact decide_eq_true (by omega) | exact ⟨decide_eq_true (by omega), decide_eq_true (by omega)⟩)
  · skip
    try simp -implicitDefEqProofs only [go_sem]
    repeat (first | refine ⟨rfl, ?_⟩ | refine ⟨by decide, ?_⟩ | refine ⟨⟨by decide, by decide⟩, ?_⟩ | refine ⟨decide_eq_true (by omega), ?_⟩ | refine ⟨⟨decide_eq_true (by omega), decide_eq_true (by omega)⟩, ?_⟩)
    try (first | done | decide | exact decide_eq_true (by omega) | exact ⟨decide_eq_true (by omega), decide_eq_true (by omega)⟩)
    refine .of (c_s_l1In _ _ _) ?_
    try simp -implicitDefEqProofs only [go_sem, gk]
    repeat (first | refine ⟨rfl, ?_⟩ | refine ⟨by decide, ?_⟩ | refine ⟨⟨by decide, by decide⟩, ?_⟩ | refine ⟨decide_eq_true (by omega), ?_⟩ | refine ⟨⟨decide_eq_true (by omega), decide_eq_true (by omega)⟩, ?_⟩)
    try (first | done | decide | exact decide_eq_true (by omega) | exact ⟨decide_eq_true (by omega), decide_eq_true (by omega)⟩)
    cases g1 : R.no
    · try simp -implicitDefEqProofs only [go_sem, RecV.ok, RecV.body, g1]
      repeat (first | refine ⟨rfl, ?_⟩ | refine ⟨by decide, ?_⟩ | refine ⟨⟨by decide, by decide⟩, ?_⟩ | refine ⟨decide_eq_true (by omega), ?_⟩ | refine ⟨⟨decide_eq_true (by omega), decide_eq_true (by omega)⟩, ?_⟩)
      try (first | done | decide | exact decide_eq_true (by omega) | exact ⟨decide_eq_true (by omega), decide_eq_true (by omega)⟩)
    try simp -implicitDefEqProofs only [go_sem]
    repeat (first | refine ⟨rfl, ?_⟩ | refine ⟨by decide, ?_⟩ | refine ⟨⟨by decide, by decide⟩, ?_⟩ | refine ⟨decide_eq_true (by omega), ?_⟩ | refine ⟨⟨decide_eq_true (by omega), decide_eq_true (by omega)⟩, ?_⟩)
    try (first | done | decide | exact decide_eq_true (by omega) | exact ⟨decide_eq_true (by omega), decide_eq_true (by omega)⟩)
    cases g2 : decide (key = ⟨#[]⟩)
    · try simp -implicitDefEqProofs only [go_sem, RecV.ok, RecV.body, g1, g2]
      repeat (first | refine ⟨rfl, ?_⟩ | refine ⟨by decide, ?_⟩ | refine ⟨⟨by decide, by decide⟩, ?_⟩ | refine ⟨decide_eq_true (by omega), ?_⟩ | refine ⟨⟨decide_eq_true (by omega), decide_eq_true (by omega)⟩, ?_⟩)
      try (first | done | decide | exact decide_eq_true (by omega) | exact ⟨decide_eq_true (by omega), decide_eq_true (by omega)⟩)
    try simp -implicitDefEqProofs only [go_sem]
    repeat (first | refine ⟨rfl, ?_⟩ | refine ⟨by decide, ?_⟩ | refine ⟨⟨by decide, by decide⟩, ?_⟩ | refine ⟨decide_eq_true (by omega), ?_⟩ | refine ⟨⟨decide_eq_true (by omega), decide_eq_true (by omega)⟩, ?_⟩)
    try (first | done | decide | exact decide_eq_true (by omega) | exact ⟨decide_eq_true (by omega), decide_eq_true (by omega)⟩)
    cases g3 : (n == 0)
    · try simp -implicitDefEqProofs only [go_sem, RecV.ok, RecV.body, g1, g2, g3]
      repeat (first | refine ⟨rfl, ?_⟩ | refine ⟨by decide, ?_⟩ | refine ⟨⟨by decide, by decide⟩, ?_⟩ | refine ⟨decide_eq_true (by omega), ?_⟩ | refine ⟨⟨decide_eq_true (by omega), decide_eq_true (by omega)⟩, ?_⟩)
      try (first | done | decide | exact decide_eq_true (by omega) | exact ⟨decide_eq_true (by omega), decide_eq_true (by omega)⟩)
    try simp -implicitDefEqProofs only [go_sem]
    repeat (first | refine ⟨rfl, ?_⟩ | refine ⟨by decide, ?_⟩ | refine ⟨⟨by decide, by decide⟩, ?_⟩ | refine ⟨decide_eq_true (by omega), ?_⟩ | refine ⟨⟨decide_eq_true (by omega), decide_eq_true (by omega)⟩, ?_⟩)
    try (first | done | decide | exact decide_eq_true (by omega) | exact ⟨decide_eq_true (by omega), decide_eq_true (by omega)⟩)
    refine .of (c_s_l11Who ⟨4, R, key, n, who, seq, code⟩) ?_
    try simp -implicitDefEqProofs only [go_sem, RecV.ok, RecV.body, g1, g2, g3]
    repeat (first | refine ⟨rfl, ?_⟩ | refine ⟨by decide, ?_⟩ | refine ⟨⟨by decide, by decide⟩, ?_⟩ | refine ⟨decide_eq_true (by omega), ?_⟩ | refine ⟨⟨decide_eq_true (by omega), decide_eq_true (by omega)⟩, ?_⟩)
    try (first | done | decide | exact decide_eq_true (by omega) | exact ⟨decide_eq_true (by omega), decide_eq_true (by omega)⟩)
theorem other_kind {k : Int} (h1 : ¬ k = 1) (h2 : ¬ k = 2) (h3 : ¬ k = 3) (h4 : ¬ k = 4) : (k == 1) = false ∧ (k == 2) = false ∧ (k == 3) = false ∧ (k == 4) = false := by
  simp only [beq_eq_false_iff_ne, ne_eq]
  omega
def x_i_RecOk : FnX := ⟨98, [.tmp 2],
  .q [.v 1 0, .F 2]
 (.seq (.draw [.f 6 1 1, .L 7 7 6, .op 8 (.build [.e, .i 0, .nils 1, .i 0, .nils 1, .i 0, .F] []), .c 9 153 [7, 8], .f 10 1 8, .l 11 10, .op 12 (.bin .eql (.t 11) (.k (.one (.pv (.string ⟨#[]⟩))))), .m 3 9, .m 4 12] [[], [0], [], [1, 2], [], [4], [5], [3, 3, 0, 1, 2, 3], [6, 7, 0, 1, 2, 3, 4, 5, 6, 7]])
 (.q [.F 5]
 (.seq (.q [.f 13 1 0, .l 14 13]
 (.block 0 (.q [.B 16 .eql 14 1, .m 15 16]
 (.cond 15 (.reg [.f 17 1 1, .L 18 7 17, .c 19 139 [18], .m 20 19, ⟨(some (20, true)), some 21, 21, .mv (.t 4)⟩, .a 22 20 21, .m 23 22, ⟨(some (23, true)), some 24, 24, .faddr (.t 1) 9⟩, ⟨(some (23, true)), some 25, 25, .load none (.t 24)⟩, ⟨(some (23, true)), some 26, 26, .bin .eql (.t 25) (.i 0)⟩, .a 27 23 26, .m 5 27]) (.q [.B 29 .eql 14 2, .m 28 29]
 (.cond 28 (.reg [.m 30 3, .m 31 30, ⟨(some (31, true)), some 32, 32, .faddr (.t 1) 8⟩, ⟨(some (31, true)), some 33, 33, .load none (.t 32)⟩, ⟨(some (31, true)), some 34, 34, .call 154 [0] [(.t 33)]⟩, .a 35 31 34, .m 36 35, ⟨(some (36, true)), some 37, 37, .faddr (.t 1) 9⟩, ⟨(some (36, true)), some 38, 38, .load none (.t 37)⟩, ⟨(some (36, true)), some 39, 39, .bin .eql (.t 38) (.i 0)⟩, .a 40 36 39, .m 5 40]) (.q [.B 42 .eql 14 3, .m 41 42]
 (.cond 41 (.reg [.m 43 3, .m 44 43, ⟨(some (44, true)), some 45, 45, .mv (.t 4)⟩, .a 46 44 45, .m 47 46, ⟨(some (47, true)), some 48, 48, .faddr (.t 1) 9⟩, ⟨(some (47, true)), some 49, 49, .load none (.t 48)⟩, ⟨(some (47, true)), some 50, 50, .call 25 [0, 0, 0] [(.t 49), (.i 0), (.i 7)]⟩, .a 51 47 50, .m 5 51]) (.q [.B 53 .eql 14 4, .m 52 53]
 (.c 52 (.reg [.m 54 3, .m 55 54, ⟨(some (55, true)), some 56, 56, .mv (.t 4)⟩, .a 57 55 56, .m 58 57, ⟨(some (58, true)), some 59, 59, .faddr (.t 1) 9⟩, ⟨(some (58, true)), some 60, 60, .load none (.t 59)⟩, ⟨(some (58, true)), some 61, 61, .bin .eql (.t 60) (.i 0)⟩, .a 62 58 61, .m 63 62, ⟨(some (63, true)), some 64, 64, .faddr (.t 1) 10⟩, ⟨(some (63, true)), some 65, 65, .load none (.t 64)⟩, ⟨(some (63, true)), some 66, 66, .bin .neq (.t 65) (.i 0)⟩, .a 67 63 66, .m 5 67])))))))))))
 (.seq (.q [.f 68 1 10, .l 69 68, .B 70 .eql 69 0]
 (.c 70 (.q [.m 71 5, .m 72 71, ⟨(some (72, true)), some 73, 73, .faddr (.t 1) 11⟩, ⟨(some (72, true)), some 74, 74, .load none (.t 73)⟩, ⟨(some (72, true)), some 75, 75, .bin .eql (.t 74) (.i 0)⟩, .a 76 72 75, .m 77 76, ⟨(some (77, true)), some 78, 78, .faddr (.t 1) 12⟩, ⟨(some (77, true)), some 79, 79, .load none (.t 78)⟩, ⟨(some (77, true)), some 80, 80, .bin .eql (.t 79) (.i 0)⟩, .a 81 77 80, .m 2 81]
 .ret)))
 (.q [.m 82 5, .m 83 82, ⟨(some (83, true)), some 84, 84, .faddr (.t 1) 10⟩, ⟨(some (83, true)), some 85, 85, .load none (.t 84)⟩, ⟨(some (83, true)), some 86, 86, .call 25 [0, 0, 0] [(.t 85), (.i 1), (.i 9)]⟩, .a 87 83 86, .m 88 87, ⟨(some (88, true)), some 89, 89, .faddr (.t 1) 11⟩, ⟨(some (88, true)), some 90, 90, .load none (.t 89)⟩, ⟨(some (88, true)), some 91, 91, .call 123 [0] [(.t 90)]⟩, .a 92 88 91, .m 93 92, ⟨(some (93, true)), some 94, 94, .faddr (.t 1) 12⟩, ⟨(some (93, true)), some 95, 95, .load none (.t 94)⟩, ⟨(some (93, true)), some 96, 96, .call 25 [0, 0, 0] [(.t 95), (.i 0), (.i 6)]⟩, .a 97 93 96, .m 2 97]
 .ret)))))⟩
abbrev C_i_RecOk (Te : TE) : Prop := ∀ (r : RecV) (h : r.In (2 ^ 48)), Te 122 [.agg (r.enc false)] ⟨[.one (bT r.ok)], [r.enc false]⟩
theorem r_i_RecOk {Te : TE} (c_i_sameRow : C_i_sameRow Te) (c_i_RowOk : C_i_RowOk Te) (c_i_NameOk : C_i_NameOk Te) (c_i_within : C_i_within Te) (c_i_isWord : C_i_isWord Te) : C_i_RecOk (RF Te x_i_RecOk) := by
  intro r h
  refine run0 ?_
  have hR := h.1
  have hK := h.2
  obtain ⟨kind, R, key, n, who, seq, code⟩ := r
  simp only at hR hK
  have ts := c_i_sameRow R RowV.zero
  rw [rowSame_zero] at ts
  simp -implicitDefEqProofs only [x_i_RecOk, go_sem, bytes_beq]
  repeat (first | refine ⟨rfl, ?_⟩ | refine ⟨by decide, ?_⟩ | refine ⟨⟨by decide, by decide⟩, ?_⟩ | refine ⟨decide_eq_true (by omega), ?_⟩ | refine ⟨⟨decide_eq_true (by omega), decide_eq_true (by omega)⟩, ?_⟩)
  try (first | done | decide | exact decide_eq_true (by omega) | exact ⟨decide_eq_true (by omega), decide_eq_true (by omega)⟩)
  refine .of (ts) ?_
  try simp -implicitDefEqProofs only [go_sem, bytes_beq]
  repeat (first | refine ⟨rfl, ?_⟩ | refine ⟨by decide, ?_⟩ | refine ⟨⟨by decide, by decide⟩, ?_⟩ | refine ⟨decide_eq_true (by omega), ?_⟩ | refine ⟨⟨decide_eq_true (by omega), decide_eq_true (by omega)⟩, ?_⟩)
  try (first | done | decide | exact decide_eq_true (by omega) | exact ⟨decide_eq_true (by omega), decide_eq_true (by omega)⟩)
  by_cases q1 : kind = 1
  · subst q1
    try simp -implicitDefEqProofs only [go_sem]
    repeat (first | refine ⟨rfl, ?_⟩ | refine ⟨by decide, ?_⟩ | refine ⟨⟨by decide, by decide⟩, ?_⟩ | refine ⟨decide_eq_true (by omega), ?_⟩ | refine ⟨⟨decide_eq_true (by omega), decide_eq_true (by omega)⟩, ?_⟩)
    try (first | done | decide | exact decide_eq_true (by omega) | exact ⟨decide_eq_true (by omega), decide_eq_true (by omega)⟩)
    refine .of (c_i_RowOk R hR) ?_
    try simp -implicitDefEqProofs only [go_sem]
    repeat (first | refine ⟨rfl, ?_⟩ | refine ⟨by decide, ?_⟩ | refine ⟨⟨by decide, by decide⟩, ?_⟩ | refine ⟨decide_eq_true (by omega), ?_⟩ | refine ⟨⟨decide_eq_true (by omega), decide_eq_true (by omega)⟩, ?_⟩)
    try (first | done | decide | exact decide_eq_true (by omega) | exact ⟨decide_eq_true (by omega), decide_eq_true (by omega)⟩)
    cases g1 : R.ok
    · try simp -implicitDefEqProofs only [go_sem, g1]
      repeat (first | refine ⟨rfl, ?_⟩ | refine ⟨by decide, ?_⟩ | refine ⟨⟨by decide, by decide⟩, ?_⟩ | refine ⟨decide_eq_true (by omega), ?_⟩ | refine ⟨⟨decide_eq_true (by omega), decide_eq_true (by omega)⟩, ?_⟩)
      try (first | done | decide | exact decide_eq_true (by omega) | exact ⟨decide_eq_true (by omega), decide_eq_true (by omega)⟩)
      cases g0 : (who == 0)
      · try simp -implicitDefEqProofs only [go_sem, g0, RecV.ok, RecV.body, RecV.who, g1]
        repeat (first | refine ⟨rfl, ?_⟩ | refine ⟨by decide, ?_⟩ | refine ⟨⟨by decide, by decide⟩, ?_⟩ | refine ⟨decide_eq_true (by omega), ?_⟩ | refine ⟨⟨decide_eq_true (by omega), decide_eq_true (by omega)⟩, ?_⟩)
        try (first | done | decide | exact decide_eq_true (by omega) | exact ⟨decide_eq_true (by omega), decide_eq_true (by omega)⟩)
      · try simp -implicitDefEqProofs only [go_sem, g0, RecV.ok, RecV.body, RecV.who, g1]
        repeat (first | refine ⟨rfl, ?_⟩ | refine ⟨by decide, ?_⟩ | refine ⟨⟨by decide, by decide⟩, ?_⟩ | refine ⟨decide_eq_true (by omega), ?_⟩ | refine ⟨⟨decide_eq_true (by omega), decide_eq_true (by omega)⟩, ?_⟩)
        try (first | done | decide | exact decide_eq_true (by omega) | exact ⟨decide_eq_true (by omega), decide_eq_true (by omega)⟩)
    try simp -implicitDefEqProofs only [go_sem, g1]
    repeat (first | refine ⟨rfl, ?_⟩ | refine ⟨by decide, ?_⟩ | refine ⟨⟨by decide, by decide⟩, ?_⟩ | refine ⟨decide_eq_true (by omega), ?_⟩ | refine ⟨⟨decide_eq_true (by omega), decide_eq_true (by omega)⟩, ?_⟩)
    try (first | done | decide | exact decide_eq_true (by omega) | exact ⟨decide_eq_true (by omega), decide_eq_true (by omega)⟩)
    cases g2 : decide (key = ⟨#[]⟩)
    · try simp -implicitDefEqProofs only [go_sem, g1, g2]
      repeat (first | refine ⟨rfl, ?_⟩ | refine ⟨by decide, ?_⟩ | refine ⟨⟨by decide, by decide⟩, ?_⟩ | refine ⟨decide_eq_true (by omega), ?_⟩ | refine ⟨⟨decide_eq_true (by omega), decide_eq_true (by omega)⟩, ?_⟩)
      try (first | done | decide | exact decide_eq_true (by omega) | exact ⟨decide_eq_true (by omega), decide_eq_true (by omega)⟩)
      cases g0 : (who == 0)
      · try simp -implicitDefEqProofs only [go_sem, g0, RecV.ok, RecV.body, RecV.who, g1, g2]
        repeat (first | refine ⟨rfl, ?_⟩ | refine ⟨by decide, ?_⟩ | refine ⟨⟨by decide, by decide⟩, ?_⟩ | refine ⟨decide_eq_true (by omega), ?_⟩ | refine ⟨⟨decide_eq_true (by omega), decide_eq_true (by omega)⟩, ?_⟩)
        try (first | done | decide | exact decide_eq_true (by omega) | exact ⟨decide_eq_true (by omega), decide_eq_true (by omega)⟩)
      · try simp -implicitDefEqProofs only [go_sem, g0, RecV.ok, RecV.body, RecV.who, g1, g2]
        repeat (first | refine ⟨rfl, ?_⟩ | refine ⟨by decide, ?_⟩ | refine ⟨⟨by decide, by decide⟩, ?_⟩ | refine ⟨decide_eq_true (by omega), ?_⟩ | refine ⟨⟨decide_eq_true (by omega), decide_eq_true (by omega)⟩, ?_⟩)
        try (first | done | decide | exact decide_eq_true (by omega) | exact ⟨decide_eq_true (by omega), decide_eq_true (by omega)⟩)
    try simp -implicitDefEqProofs only [go_sem, g2]
    repeat (first | refine ⟨rfl, ?_⟩ | refine ⟨by decide, ?_⟩ | refine ⟨⟨by decide, by decide⟩, ?_⟩ | refine ⟨decide_eq_true (by omega), ?_⟩ | refine ⟨⟨decide_eq_true (by omega), decide_eq_true (by omega)⟩, ?_⟩)
    try (first | done | decide | exact decide_eq_true (by omega) | exact ⟨decide_eq_true (by omega), decide_eq_true (by omega)⟩)
    cases g3 : (n == 0)
    · try simp -implicitDefEqProofs only [go_sem, g1, g2, g3]
      repeat (first | refine ⟨rfl, ?_⟩ | refine ⟨by decide, ?_⟩ | refine ⟨⟨by decide, by decide⟩, ?_⟩ | refine ⟨decide_eq_true (by omega), ?_⟩ | refine ⟨⟨decide_eq_true (by omega), decide_eq_true (by omega)⟩, ?_⟩)
      try (first | done | decide | exact decide_eq_true (by omega) | exact ⟨decide_eq_true (by omega), decide_eq_true (by omega)⟩)
      cases g0 : (who == 0)
      · try simp -implicitDefEqProofs only [go_sem, g0, RecV.ok, RecV.body, RecV.who, g1, g2, g3]
        repeat (first | refine ⟨rfl, ?_⟩ | refine ⟨by decide, ?_⟩ | refine ⟨⟨by decide, by decide⟩, ?_⟩ | refine ⟨decide_eq_true (by omega), ?_⟩ | refine ⟨⟨decide_eq_true (by omega), decide_eq_true (by omega)⟩, ?_⟩)
        try (first | done | decide | exact decide_eq_true (by omega) | exact ⟨decide_eq_true (by omega), decide_eq_true (by omega)⟩)
      · try simp -implicitDefEqProofs only [go_sem, g0, RecV.ok, RecV.body, RecV.who, g1, g2, g3]
        repeat (first | refine ⟨rfl, ?_⟩ | refine ⟨by decide, ?_⟩ | refine ⟨⟨by decide, by decide⟩, ?_⟩ | refine ⟨decide_eq_true (by omega), ?_⟩ | refine ⟨⟨decide_eq_true (by omega), decide_eq_true (by omega)⟩, ?_⟩)
        try (first | done | decide | exact decide_eq_true (by omega) | exact ⟨decide_eq_true (by omega), decide_eq_true (by omega)⟩)
    try simp -implicitDefEqProofs only [go_sem, g3]
    repeat (first | refine ⟨rfl, ?_⟩ | refine ⟨by decide, ?_⟩ | refine ⟨⟨by decide, by decide⟩, ?_⟩ | refine ⟨decide_eq_true (by omega), ?_⟩ | refine ⟨⟨decide_eq_true (by omega), decide_eq_true (by omega)⟩, ?_⟩)
    try (first | done | decide | exact decide_eq_true (by omega) | exact ⟨decide_eq_true (by omega), decide_eq_true (by omega)⟩)
    cases g0 : (who == 0)
    · try simp -implicitDefEqProofs only [go_sem, g0]
      repeat (first | refine ⟨rfl, ?_⟩ | refine ⟨by decide, ?_⟩ | refine ⟨⟨by decide, by decide⟩, ?_⟩ | refine ⟨decide_eq_true (by omega), ?_⟩ | refine ⟨⟨decide_eq_true (by omega), decide_eq_true (by omega)⟩, ?_⟩)
      try (first | done | decide | exact decide_eq_true (by omega) | exact ⟨decide_eq_true (by omega), decide_eq_true (by omega)⟩)
      refine .of (c_i_within _ _ _) ?_
      try simp -implicitDefEqProofs only [go_sem]
      repeat (first | refine ⟨rfl, ?_⟩ | refine ⟨by decide, ?_⟩ | refine ⟨⟨by decide, by decide⟩, ?_⟩ | refine ⟨decide_eq_true (by omega), ?_⟩ | refine ⟨⟨decide_eq_true (by omega), decide_eq_true (by omega)⟩, ?_⟩)
      try (first | done | decide | exact decide_eq_true (by omega) | exact ⟨decide_eq_true (by omega), decide_eq_true (by omega)⟩)
      cases h1 : win who 1 9
      · try simp -implicitDefEqProofs only [go_sem, g0, h1, RecV.ok, RecV.body, RecV.who, g1, g2, g3]
        repeat (first | refine ⟨rfl, ?_⟩ | refine ⟨by decide, ?_⟩ | refine ⟨⟨by decide, by decide⟩, ?_⟩ | refine ⟨decide_eq_true (by omega), ?_⟩ | refine ⟨⟨decide_eq_true (by omega), decide_eq_true (by omega)⟩, ?_⟩)
        try (first | done | decide | exact decide_eq_true (by omega) | exact ⟨decide_eq_true (by omega), decide_eq_true (by omega)⟩)
      try simp -implicitDefEqProofs only [go_sem]
      repeat (first | refine ⟨rfl, ?_⟩ | refine ⟨by decide, ?_⟩ | refine ⟨⟨by decide, by decide⟩, ?_⟩ | refine ⟨decide_eq_true (by omega), ?_⟩ | refine ⟨⟨decide_eq_true (by omega), decide_eq_true (by omega)⟩, ?_⟩)
      try (first | done | decide | exact decide_eq_true (by omega) | exact ⟨decide_eq_true (by omega), decide_eq_true (by omega)⟩)
      refine .of (c_i_isWord _) ?_
      try simp -implicitDefEqProofs only [go_sem]
      repeat (first | refine ⟨rfl, ?_⟩ | refine ⟨by decide, ?_⟩ | refine ⟨⟨by decide, by decide⟩, ?_⟩ | refine ⟨decide_eq_true (by omega), ?_⟩ | refine ⟨⟨decide_eq_true (by omega), decide_eq_true (by omega)⟩, ?_⟩)
      try (first | done | decide | exact decide_eq_true (by omega) | exact ⟨decide_eq_true (by omega), decide_eq_true (by omega)⟩)
      cases h2 : win seq 0 65535
      · try simp -implicitDefEqProofs only [go_sem, g0, h1, h2, RecV.ok, RecV.body, RecV.who, g1, g2, g3]
        repeat (first | refine ⟨rfl, ?_⟩ | refine ⟨by decide, ?_⟩ | refine ⟨⟨by decide, by decide⟩, ?_⟩ | refine ⟨decide_eq_true (by omega), ?_⟩ | refine ⟨⟨decide_eq_true (by omega), decide_eq_true (by omega)⟩, ?_⟩)
        try (first | done | decide | exact decide_eq_true (by omega) | exact ⟨decide_eq_true (by omega), decide_eq_true (by omega)⟩)
        try rfl
      try simp -implicitDefEqProofs only [go_sem]
      repeat (first | refine ⟨rfl, ?_⟩ | refine ⟨by decide, ?_⟩ | refine ⟨⟨by decide, by decide⟩, ?_⟩ | refine ⟨decide_eq_true (by omega), ?_⟩ | refine ⟨⟨decide_eq_true (by omega), decide_eq_true (by omega)⟩, ?_⟩)
      try (first | done | decide | exact decide_eq_true (by omega) | exact ⟨decide_eq_true (by omega), decide_eq_true (by omega)⟩)
      refine .of (c_i_within _ _ _) ?_
      try simp -implicitDefEqProofs only [go_sem, g0, h1, h2, RecV.ok, RecV.body, RecV.who, g1, g2, g3]
      repeat (first | refine ⟨rfl, ?_⟩ | refine ⟨by decide, ?_⟩ | refine ⟨⟨by decide, by decide⟩, ?_⟩ | refine ⟨decide_eq_true (by omega), ?_⟩ | refine ⟨⟨decide_eq_true (by omega), decide_eq_true (by omega)⟩, ?_⟩)
      try (first | done | decide | exact decide_eq_true (by omega) | exact ⟨decide_eq_true (by omega), decide_eq_true (by omega)⟩)
    · try simp -implicitDefEqProofs only [go_sem, g0]
      repeat (first | refine ⟨rfl, ?_⟩ | refine ⟨by decide, ?_⟩ | refine ⟨⟨by decide, by decide⟩, ?_⟩ | refine ⟨decide_eq_true (by omega), ?_⟩ | refine ⟨⟨decide_eq_true (by omega), decide_eq_true (by omega)⟩, ?_⟩)
      try (first | done | decide | exact decide_eq_true (by omega) | exact ⟨decide_eq_true (by omega), decide_eq_true (by omega)⟩)
      cases h1 : (seq == 0)
      · try simp -implicitDefEqProofs only [go_sem, g0, h1, RecV.ok, RecV.body, RecV.who, g1, g2, g3]
        repeat (first | refine ⟨rfl, ?_⟩ | refine ⟨by decide, ?_⟩ | refine ⟨⟨by decide, by decide⟩, ?_⟩ | refine ⟨decide_eq_true (by omega), ?_⟩ | refine ⟨⟨decide_eq_true (by omega), decide_eq_true (by omega)⟩, ?_⟩)
        try (first | done | decide | exact decide_eq_true (by omega) | exact ⟨decide_eq_true (by omega), decide_eq_true (by omega)⟩)
      try simp -implicitDefEqProofs only [go_sem, h1]
      repeat (first | refine ⟨rfl, ?_⟩ | refine ⟨by decide, ?_⟩ | refine ⟨⟨by decide, by decide⟩, ?_⟩ | refine ⟨decide_eq_true (by omega), ?_⟩ | refine ⟨⟨decide_eq_true (by omega), decide_eq_true (by omega)⟩, ?_⟩)
      try (first | done | decide | exact decide_eq_true (by omega) | exact ⟨decide_eq_true (by omega), decide_eq_true (by omega)⟩)
      cases h2 : (code == 0)
      · try simp -implicitDefEqProofs only [go_sem, g0, h1, h2, RecV.ok, RecV.body, RecV.who, g1, g2, g3]
        repeat (first | refine ⟨rfl, ?_⟩ | refine ⟨by decide, ?_⟩ | refine ⟨⟨by decide, by decide⟩, ?_⟩ | refine ⟨decide_eq_true (by omega), ?_⟩ | refine ⟨⟨decide_eq_true (by omega), decide_eq_true (by omega)⟩, ?_⟩)
        try (first | done | decide | exact decide_eq_true (by omega) | exact ⟨decide_eq_true (by omega), decide_eq_true (by omega)⟩)
        try rfl
      try simp -implicitDefEqProofs only [go_sem, g0, h1, h2, RecV.ok, RecV.body, RecV.who, g1, g2, g3]
      repeat (first | refine ⟨rfl, ?_⟩ | refine ⟨by decide, ?_⟩ | refine ⟨⟨by decide, by decide⟩, ?_⟩ | refine ⟨decide_eq_true (by omega), ?_⟩ | refine ⟨⟨decide_eq_true (by omega), decide_eq_true (by omega)⟩, ?_⟩)
      try (first | done | decide | exact decide_eq_true (by omega) | exact ⟨decide_eq_true (by omega), decide_eq_true (by omega)⟩)
      try rfl
  by_cases q2 : kind = 2
  · subst q2
    try simp -implicitDefEqProofs only [go_sem]
    repeat (first | refine ⟨rfl, ?_⟩ | refine ⟨by decide, ?_⟩ | refine ⟨⟨by decide, by decide⟩, ?_⟩ | refine ⟨decide_eq_true (by omega), ?_⟩ | refine ⟨⟨decide_eq_true (by omega), decide_eq_true (by omega)⟩, ?_⟩)
    try (first | done | decide | exact decide_eq_true (by omega) | exact ⟨decide_eq_true (by omega), decide_eq_true (by omega)⟩)
    cases g1 : R.no
    · try simp -implicitDefEqProofs only [go_sem, g1]
      repeat (first | refine ⟨rfl, ?_⟩ | refine ⟨by decide, ?_⟩ | refine ⟨⟨by decide, by decide⟩, ?_⟩ | refine ⟨decide_eq_true (by omega), ?_⟩ | refine ⟨⟨decide_eq_true (by omega), decide_eq_true (by omega)⟩, ?_⟩)
      try (first | done | decide | exact decide_eq_true (by omega) | exact ⟨decide_eq_true (by omega), decide_eq_true (by omega)⟩)
      cases g0 : (who == 0)
      · try simp -implicitDefEqProofs only [go_sem, g0, RecV.ok, RecV.body, RecV.who, g1]
        repeat (first | refine ⟨rfl, ?_⟩ | refine ⟨by decide, ?_⟩ | refine ⟨⟨by decide, by decide⟩, ?_⟩ | refine ⟨decide_eq_true (by omega), ?_⟩ | refine ⟨⟨decide_eq_true (by omega), decide_eq_true (by omega)⟩, ?_⟩)
        try (first | done | decide | exact decide_eq_true (by omega) | exact ⟨decide_eq_true (by omega), decide_eq_true (by omega)⟩)
      · try simp -implicitDefEqProofs only [go_sem, g0, RecV.ok, RecV.body, RecV.who, g1]
        repeat (first | refine ⟨rfl, ?_⟩ | refine ⟨by decide, ?_⟩ | refine ⟨⟨by decide, by decide⟩, ?_⟩ | refine ⟨decide_eq_true (by omega), ?_⟩ | refine ⟨⟨decide_eq_true (by omega), decide_eq_true (by omega)⟩, ?_⟩)
        try (first | done | decide | exact decide_eq_true (by omega) | exact ⟨decide_eq_true (by omega), decide_eq_true (by omega)⟩)
    try simp -implicitDefEqProofs only [go_sem, g1]
    repeat (first | refine ⟨rfl, ?_⟩ | refine ⟨by decide, ?_⟩ | refine ⟨⟨by decide, by decide⟩, ?_⟩ | refine ⟨decide_eq_true (by omega), ?_⟩ | refine ⟨⟨decide_eq_true (by omega), decide_eq_true (by omega)⟩, ?_⟩)
    try (first | done | decide | exact decide_eq_true (by omega) | exact ⟨decide_eq_true (by omega), decide_eq_true (by omega)⟩)
    refine .of (c_i_NameOk key hK) ?_
    try simp -implicitDefEqProofs only [go_sem]
    repeat (first | refine ⟨rfl, ?_⟩ | refine ⟨by decide, ?_⟩ | refine ⟨⟨by decide, by decide⟩, ?_⟩ | refine ⟨decide_eq_true (by omega), ?_⟩ | refine ⟨⟨decide_eq_true (by omega), decide_eq_true (by omega)⟩, ?_⟩)
    try (first | done | decide | exact decide_eq_true (by omega) | exact ⟨decide_eq_true (by omega), decide_eq_true (by omega)⟩)
    cases g2 : nameOk key
    · try simp -implicitDefEqProofs only [go_sem, g1, g2]
      repeat (first | refine ⟨rfl, ?_⟩ | refine ⟨by decide, ?_⟩ | refine ⟨⟨by decide, by decide⟩, ?_⟩ | refine ⟨decide_eq_true (by omega), ?_⟩ | refine ⟨⟨decide_eq_true (by omega), decide_eq_true (by omega)⟩, ?_⟩)
      try (first | done | decide | exact decide_eq_true (by omega) | exact ⟨decide_eq_true (by omega), decide_eq_true (by omega)⟩)
      cases g0 : (who == 0)
      · try simp -implicitDefEqProofs only [go_sem, g0, RecV.ok, RecV.body, RecV.who, g1, g2]
        repeat (first | refine ⟨rfl, ?_⟩ | refine ⟨by decide, ?_⟩ | refine ⟨⟨by decide, by decide⟩, ?_⟩ | refine ⟨decide_eq_true (by omega), ?_⟩ | refine ⟨⟨decide_eq_true (by omega), decide_eq_true (by omega)⟩, ?_⟩)
        try (first | done | decide | exact decide_eq_true (by omega) | exact ⟨decide_eq_true (by omega), decide_eq_true (by omega)⟩)
      · try simp -implicitDefEqProofs only [go_sem, g0, RecV.ok, RecV.body, RecV.who, g1, g2]
        repeat (first | refine ⟨rfl, ?_⟩ | refine ⟨by decide, ?_⟩ | refine ⟨⟨by decide, by decide⟩, ?_⟩ | refine ⟨decide_eq_true (by omega), ?_⟩ | refine ⟨⟨decide_eq_true (by omega), decide_eq_true (by omega)⟩, ?_⟩)
        try (first | done | decide | exact decide_eq_true (by omega) | exact ⟨decide_eq_true (by omega), decide_eq_true (by omega)⟩)
    try simp -implicitDefEqProofs only [go_sem, g2]
    repeat (first | refine ⟨rfl, ?_⟩ | refine ⟨by decide, ?_⟩ | refine ⟨⟨by decide, by decide⟩, ?_⟩ | refine ⟨decide_eq_true (by omega), ?_⟩ | refine ⟨⟨decide_eq_true (by omega), decide_eq_true (by omega)⟩, ?_⟩)
    try (first | done | decide | exact decide_eq_true (by omega) | exact ⟨decide_eq_true (by omega), decide_eq_true (by omega)⟩)
    cases g3 : (n == 0)
    · try simp -implicitDefEqProofs only [go_sem, g1, g2, g3]
      repeat (first | refine ⟨rfl, ?_⟩ | refine ⟨by decide, ?_⟩ | refine ⟨⟨by decide, by decide⟩, ?_⟩ | refine ⟨decide_eq_true (by omega), ?_⟩ | refine ⟨⟨decide_eq_true (by omega), decide_eq_true (by omega)⟩, ?_⟩)
      try (first | done | decide | exact decide_eq_true (by omega) | exact ⟨decide_eq_true (by omega), decide_eq_true (by omega)⟩)
      cases g0 : (who == 0)
      · try simp -implicitDefEqProofs only [go_sem, g0, RecV.ok, RecV.body, RecV.who, g1, g2, g3]
        repeat (first | refine ⟨rfl, ?_⟩ | refine ⟨by decide, ?_⟩ | refine ⟨⟨by decide, by decide⟩, ?_⟩ | refine ⟨decide_eq_true (by omega), ?_⟩ | refine ⟨⟨decide_eq_true (by omega), decide_eq_true (by omega)⟩, ?_⟩)
        try (first | done | decide | exact decide_eq_true (by omega) | exact ⟨decide_eq_true (by omega), decide_eq_true (by omega)⟩)
      · try simp -implicitDefEqProofs only [go_sem, g0, RecV.ok, RecV.body, RecV.who, g1, g2, g3]
        repeat (first | refine ⟨rfl, ?_⟩ | refine ⟨by decide, ?_⟩ | refine ⟨⟨by decide, by decide⟩, ?_⟩ | refine ⟨decide_eq_true (by omega), ?_⟩ | refine ⟨⟨decide_eq_true (by omega), decide_eq_true (by omega)⟩, ?_⟩)
        try (first | done | decide | exact decide_eq_true (by omega) | exact ⟨decide_eq_true (by omega), decide_eq_true (by omega)⟩)
    try simp -implicitDefEqProofs only [go_sem, g3]
    repeat (first | refine ⟨rfl, ?_⟩ | refine ⟨by decide, ?_⟩ | refine ⟨⟨by decide, by decide⟩, ?_⟩ | refine ⟨decide_eq_true (by omega), ?_⟩ | refine ⟨⟨decide_eq_true (by omega), decide_eq_true (by omega)⟩, ?_⟩)
    try (first | done | decide | exact decide_eq_true (by omega) | exact ⟨decide_eq_true (by omega), decide_eq_true (by omega)⟩)
    cases g0 : (who == 0)
    · try simp -implicitDefEqProofs only [go_sem, g0]
      repeat (first | refine ⟨rfl, ?_⟩ | refine ⟨by decide, ?_⟩ | refine ⟨⟨by decide, by decide⟩, ?_⟩ | refine ⟨decide_eq_true (by omega), ?_⟩ | refine ⟨⟨decide_eq_true (by omega), decide_eq_true (by omega)⟩, ?_⟩)
      try (first | done | decide | exact decide_eq_true (by omega) | exact ⟨decide_eq_true (by omega), decide_eq_true (by omega)⟩)
      refine .of (c_i_within _ _ _) ?_
      try simp -implicitDefEqProofs only [go_sem]
      repeat (first | refine ⟨rfl, ?_⟩ | refine ⟨by decide, ?_⟩ | refine ⟨⟨by decide, by decide⟩, ?_⟩ | refine ⟨decide_eq_true (by omega), ?_⟩ | refine ⟨⟨decide_eq_true (by omega), decide_eq_true (by omega)⟩, ?_⟩)
      try (first | done | decide | exact decide_eq_true (by omega) | exact ⟨decide_eq_true (by omega), decide_eq_true (by omega)⟩)
      cases h1 : win who 1 9
      · try simp -implicitDefEqProofs only [go_sem, g0, h1, RecV.ok, RecV.body, RecV.who, g1, g2, g3]
        repeat (first | refine ⟨rfl, ?_⟩ | refine ⟨by decide, ?_⟩ | refine ⟨⟨by decide, by decide⟩, ?_⟩ | refine ⟨decide_eq_true (by omega), ?_⟩ | refine ⟨⟨decide_eq_true (by omega), decide_eq_true (by omega)⟩, ?_⟩)
        try (first | done | decide | exact decide_eq_true (by omega) | exact ⟨decide_eq_true (by omega), decide_eq_true (by omega)⟩)
      try simp -implicitDefEqProofs only [go_sem]
      repeat (first | refine ⟨rfl, ?_⟩ | refine ⟨by decide, ?_⟩ | refine ⟨⟨by decide, by decide⟩, ?_⟩ | refine ⟨decide_eq_true (by omega), ?_⟩ | refine ⟨⟨decide_eq_true (by omega), decide_eq_true (by omega)⟩, ?_⟩)
      try (first | done | decide | exact decide_eq_true (by omega) | exact ⟨decide_eq_true (by omega), decide_eq_true (by omega)⟩)
      refine .of (c_i_isWord _) ?_
      try simp -implicitDefEqProofs only [go_sem]
      repeat (first | refine ⟨rfl, ?_⟩ | refine ⟨by decide, ?_⟩ | refine ⟨⟨by decide, by decide⟩, ?_⟩ | refine ⟨decide_eq_true (by omega), ?_⟩ | refine ⟨⟨decide_eq_true (by omega), decide_eq_true (by omega)⟩, ?_⟩)
      try (first | done | decide | exact decide_eq_true (by omega) | exact ⟨decide_eq_true (by omega), decide_eq_true (by omega)⟩)
      cases h2 : win seq 0 65535
      · try simp -implicitDefEqProofs only [go_sem, g0, h1, h2, RecV.ok, RecV.body, RecV.who, g1, g2, g3]
        repeat (first | refine ⟨rfl, ?_⟩ | refine ⟨by decide, ?_⟩ | refine ⟨⟨by decide, by decide⟩, ?_⟩ | refine ⟨decide_eq_true (by omega), ?_⟩ | refine ⟨⟨decide_eq_true (by omega), decide_eq_true (by omega)⟩, ?_⟩)
        try (first | done | decide | exact decide_eq_true (by omega) | exact ⟨decide_eq_true (by omega), decide_eq_true (by omega)⟩)
        try rfl
      try simp -implicitDefEqProofs only [go_sem]
      repeat (first | refine ⟨rfl, ?_⟩ | refine ⟨by decide, ?_⟩ | refine ⟨⟨by decide, by decide⟩, ?_⟩ | refine ⟨decide_eq_true (by omega), ?_⟩ | refine ⟨⟨decide_eq_true (by omega), decide_eq_true (by omega)⟩, ?_⟩)
      try (first | done | decide | exact decide_eq_true (by omega) | exact ⟨decide_eq_true (by omega), decide_eq_true (by omega)⟩)
      refine .of (c_i_within _ _ _) ?_
      try simp -implicitDefEqProofs only [go_sem, g0, h1, h2, RecV.ok, RecV.body, RecV.who, g1, g2, g3]
      repeat (first | refine ⟨rfl, ?_⟩ | refine ⟨by decide, ?_⟩ | refine ⟨⟨by decide, by decide⟩, ?_⟩ | refine ⟨decide_eq_true (by omega), ?_⟩ | refine ⟨⟨decide_eq_true (by omega), decide_eq_true (by omega)⟩, ?_⟩)
      try (first | done | decide | exact decide_eq_true (by omega) | exact ⟨decide_eq_true (by omega), decide_eq_true (by omega)⟩)
    · try simp -implicitDefEqProofs only [go_sem, g0]
      repeat (first | refine ⟨rfl, ?_⟩ | refine ⟨by decide, ?_⟩ | refine ⟨⟨by decide, by decide⟩, ?_⟩ | refine ⟨decide_eq_true (by omega), ?_⟩ | refine ⟨⟨decide_eq_true (by omega), decide_eq_true (by omega)⟩, ?_⟩)
      try (first | done | decide | exact decide_eq_true (by omega) | exact ⟨decide_eq_true (by omega), decide_eq_true (by omega)⟩)
      cases h1 : (seq == 0)
      · try simp -implicitDefEqProofs only [go_sem, g0, h1, RecV.ok, RecV.body, RecV.who, g1, g2, g3]
        repeat (first | refine ⟨rfl, ?_⟩ | refine ⟨by decide, ?_⟩ | refine ⟨⟨by decide, by decide⟩, ?_⟩ | refine ⟨decide_eq_true (by omega), ?_⟩ | refine ⟨⟨decide_eq_true (by omega), decide_eq_true (by omega)⟩, ?_⟩)
        try (first | done | decide | exact decide_eq_true (by omega) | exact ⟨decide_eq_true (by omega), decide_eq_true (by omega)⟩)
      try simp -implicitDefEqProofs only [go_sem, h1]
      repeat (first | refine ⟨rfl, ?_⟩ | refine ⟨by decide, ?_⟩ | refine ⟨⟨by decide, by decide⟩, ?_⟩ | refine ⟨decide_eq_true (by omega), ?_⟩ | refine ⟨⟨decide_eq_true (by omega), decide_eq_true (by omega)⟩, ?_⟩)
      try (first | done | decide | exact decide_eq_true (by omega) | exact ⟨decide_eq_true (by omega), decide_eq_true (by omega)⟩)
      cases h2 : (code == 0)
      · try simp -implicitDefEqProofs only [go_sem, g0, h1, h2, RecV.ok, RecV.body, RecV.who, g1, g2, g3]
        repeat (first | refine ⟨rfl, ?_⟩ | refine ⟨by decide, ?_⟩ | refine ⟨⟨by decide, by decide⟩, ?_⟩ | refine ⟨decide_eq_true (by omega), ?_⟩ | refine ⟨⟨decide_eq_true (by omega), decide_eq_true (by omega)⟩, ?_⟩)
        try (first | done | decide | exact decide_eq_true (by omega) | exact ⟨decide_eq_true (by omega), decide_eq_true (by omega)⟩)
        try rfl
      try simp -implicitDefEqProofs only [go_sem, g0, h1, h2, RecV.ok, RecV.body, RecV.who, g1, g2, g3]
      repeat (first | refine ⟨rfl, ?_⟩ | refine ⟨by decide, ?_⟩ | refine ⟨⟨by decide, by decide⟩, ?_⟩ | refine ⟨decide_eq_true (by omega), ?_⟩ | refine ⟨⟨decide_eq_true (by omega), decide_eq_true (by omega)⟩, ?_⟩)
      try (first | done | decide | exact decide_eq_true (by omega) | exact ⟨decide_eq_true (by omega), decide_eq_true (by omega)⟩)
      try rfl
  by_cases q3 : kind = 3
  · subst q3
    try simp -implicitDefEqProofs only [go_sem]
    repeat (first | refine ⟨rfl, ?_⟩ | refine ⟨by decide, ?_⟩ | refine ⟨⟨by decide, by decide⟩, ?_⟩ | refine ⟨decide_eq_true (by omega), ?_⟩ | refine ⟨⟨decide_eq_true (by omega), decide_eq_true (by omega)⟩, ?_⟩)
    try (first | done | decide | exact decide_eq_true (by omega) | exact ⟨decide_eq_true (by omega), decide_eq_true (by omega)⟩)
    cases g1 : R.no
    · try simp -implicitDefEqProofs only [go_sem, g1]
      repeat (first | refine ⟨rfl, ?_⟩ | refine ⟨by decide, ?_⟩ | refine ⟨⟨by decide, by decide⟩, ?_⟩ | refine ⟨decide_eq_true (by omega), ?_⟩ | refine ⟨⟨decide_eq_true (by omega), decide_eq_true (by omega)⟩, ?_⟩)
      try (first | done | decide | exact decide_eq_true (by omega) | exact ⟨decide_eq_true (by omega), decide_eq_true (by omega)⟩)
      cases g0 : (who == 0)
      · try simp -implicitDefEqProofs only [go_sem, g0, RecV.ok, RecV.body, RecV.who, g1]
        repeat (first | refine ⟨rfl, ?_⟩ | refine ⟨by decide, ?_⟩ | refine ⟨⟨by decide, by decide⟩, ?_⟩ | refine ⟨decide_eq_true (by omega), ?_⟩ | refine ⟨⟨decide_eq_true (by omega), decide_eq_true (by omega)⟩, ?_⟩)
        try (first | done | decide | exact decide_eq_true (by omega) | exact ⟨decide_eq_true (by omega), decide_eq_true (by omega)⟩)
      · try simp -implicitDefEqProofs only [go_sem, g0, RecV.ok, RecV.body, RecV.who, g1]
        repeat (first | refine ⟨rfl, ?_⟩ | refine ⟨by decide, ?_⟩ | refine ⟨⟨by decide, by decide⟩, ?_⟩ | refine ⟨decide_eq_true (by omega), ?_⟩ | refine ⟨⟨decide_eq_true (by omega), decide_eq_true (by omega)⟩, ?_⟩)
        try (first | done | decide | exact decide_eq_true (by omega) | exact ⟨decide_eq_true (by omega), decide_eq_true (by omega)⟩)
    try simp -implicitDefEqProofs only [go_sem, g1]
    repeat (first | refine ⟨rfl, ?_⟩ | refine ⟨by decide, ?_⟩ | refine ⟨⟨by decide, by decide⟩, ?_⟩ | refine ⟨decide_eq_true (by omega), ?_⟩ | refine ⟨⟨decide_eq_true (by omega), decide_eq_true (by omega)⟩, ?_⟩)
    try (first | done | decide | exact decide_eq_true (by omega) | exact ⟨decide_eq_true (by omega), decide_eq_true (by omega)⟩)
    cases g2 : decide (key = ⟨#[]⟩)
    · try simp -implicitDefEqProofs only [go_sem, g1, g2]
      repeat (first | refine ⟨rfl, ?_⟩ | refine ⟨by decide, ?_⟩ | refine ⟨⟨by decide, by decide⟩, ?_⟩ | refine ⟨decide_eq_true (by omega), ?_⟩ | refine ⟨⟨decide_eq_true (by omega), decide_eq_true (by omega)⟩, ?_⟩)
      try (first | done | decide | exact decide_eq_true (by omega) | exact ⟨decide_eq_true (by omega), decide_eq_true (by omega)⟩)
      cases g0 : (who == 0)
      · try simp -implicitDefEqProofs only [go_sem, g0, RecV.ok, RecV.body, RecV.who, g1, g2]
        repeat (first | refine ⟨rfl, ?_⟩ | refine ⟨by decide, ?_⟩ | refine ⟨⟨by decide, by decide⟩, ?_⟩ | refine ⟨decide_eq_true (by omega), ?_⟩ | refine ⟨⟨decide_eq_true (by omega), decide_eq_true (by omega)⟩, ?_⟩)
        try (first | done | decide | exact decide_eq_true (by omega) | exact ⟨decide_eq_true (by omega), decide_eq_true (by omega)⟩)
      · try simp -implicitDefEqProofs only [go_sem, g0, RecV.ok, RecV.body, RecV.who, g1, g2]
        repeat (first | refine ⟨rfl, ?_⟩ | refine ⟨by decide, ?_⟩ | refine ⟨⟨by decide, by decide⟩, ?_⟩ | refine ⟨decide_eq_true (by omega), ?_⟩ | refine ⟨⟨decide_eq_true (by omega), decide_eq_true (by omega)⟩, ?_⟩)
        try (first | done | decide | exact decide_eq_true (by omega) | exact ⟨decide_eq_true (by omega), decide_eq_true (by omega)⟩)
    try simp -implicitDefEqProofs only [go_sem, g2]
    repeat (first | refine ⟨rfl, ?_⟩ | refine ⟨by decide, ?_⟩ | refine ⟨⟨by decide, by decide⟩, ?_⟩ | refine ⟨decide_eq_true (by omega), ?_⟩ | refine ⟨⟨decide_eq_true (by omega), decide_eq_true (by omega)⟩, ?_⟩)
    try (first | done | decide | exact decide_eq_true (by omega) | exact ⟨decide_eq_true (by omega), decide_eq_true (by omega)⟩)
    refine .of (c_i_within _ _ _) ?_
    try simp -implicitDefEqProofs only [go_sem]
    repeat (first | refine ⟨rfl, ?_⟩ | refine ⟨by decide, ?_⟩ | refine ⟨⟨by decide, by decide⟩, ?_⟩ | refine ⟨decide_eq_true (by omega), ?_⟩ | refine ⟨⟨decide_eq_true (by omega), decide_eq_true (by omega)⟩, ?_⟩)
    try (first | done | decide | exact decide_eq_true (by omega) | exact ⟨decide_eq_true (by omega), decide_eq_true (by omega)⟩)
    cases g3 : win n 0 7
    · try simp -implicitDefEqProofs only [go_sem, g1, g2, g3]
      repeat (first | refine ⟨rfl, ?_⟩ | refine ⟨by decide, ?_⟩ | refine ⟨⟨by decide, by decide⟩, ?_⟩ | refine ⟨decide_eq_true (by omega), ?_⟩ | refine ⟨⟨decide_eq_true (by omega), decide_eq_true (by omega)⟩, ?_⟩)
      try (first | done | decide | exact decide_eq_true (by omega) | exact ⟨decide_eq_true (by omega), decide_eq_true (by omega)⟩)
      cases g0 : (who == 0)
      · try simp -implicitDefEqProofs only [go_sem, g0, RecV.ok, RecV.body, RecV.who, g1, g2, g3]
        repeat (first | refine ⟨rfl, ?_⟩ | refine ⟨by decide, ?_⟩ | refine ⟨⟨by decide, by decide⟩, ?_⟩ | refine ⟨decide_eq_true (by omega), ?_⟩ | refine ⟨⟨decide_eq_true (by omega), decide_eq_true (by omega)⟩, ?_⟩)
        try (first | done | decide | exact decide_eq_true (by omega) | exact ⟨decide_eq_true (by omega), decide_eq_true (by omega)⟩)
      · try simp -implicitDefEqProofs only [go_sem, g0, RecV.ok, RecV.body, RecV.who, g1, g2, g3]
        repeat (first | refine ⟨rfl, ?_⟩ | refine ⟨by decide, ?_⟩ | refine ⟨⟨by decide, by decide⟩, ?_⟩ | refine ⟨decide_eq_true (by omega), ?_⟩ | refine ⟨⟨decide_eq_true (by omega), decide_eq_true (by omega)⟩, ?_⟩)
        try (first | done | decide | exact decide_eq_true (by omega) | exact ⟨decide_eq_true (by omega), decide_eq_true (by omega)⟩)
    try simp -implicitDefEqProofs only [go_sem, g3]
    repeat (first | refine ⟨rfl, ?_⟩ | refine ⟨by decide, ?_⟩ | refine ⟨⟨by decide, by decide⟩, ?_⟩ | refine ⟨decide_eq_true (by omega), ?_⟩ | refine ⟨⟨decide_eq_true (by omega), decide_eq_true (by omega)⟩, ?_⟩)
    try (first | done | decide | exact decide_eq_true (by omega) | exact ⟨decide_eq_true (by omega), decide_eq_true (by omega)⟩)
    cases g0 : (who == 0)
    · try simp -implicitDefEqProofs only [go_sem, g0]
      repeat (first | refine ⟨rfl, ?_⟩ | refine ⟨by decide, ?_⟩ | refine ⟨⟨by decide, by decide⟩, ?_⟩ | refine ⟨decide_eq_true (by omega), ?_⟩ | refine ⟨⟨decide_eq_true (by omega), decide_eq_true (by omega)⟩, ?_⟩)
      try (first | done | decide | exact decide_eq_true (by omega) | exact ⟨decide_eq_true (by omega), decide_eq_true (by omega)⟩)
      refine .of (c_i_within _ _ _) ?_
      try simp -implicitDefEqProofs only [go_sem]
      repeat (first | refine ⟨rfl, ?_⟩ | refine ⟨by decide, ?_⟩ | refine ⟨⟨by decide, by decide⟩, ?_⟩ | refine ⟨decide_eq_true (by omega), ?_⟩ | refine ⟨⟨decide_eq_true (by omega), decide_eq_true (by omega)⟩, ?_⟩)
      try (first | done | decide | exact decide_eq_true (by omega) | exact ⟨decide_eq_true (by omega), decide_eq_true (by omega)⟩)
      cases h1 : win who 1 9
      · try simp -implicitDefEqProofs only [go_sem, g0, h1, RecV.ok, RecV.body, RecV.who, g1, g2, g3]
        repeat (first | refine ⟨rfl, ?_⟩ | refine ⟨by decide, ?_⟩ | refine ⟨⟨by decide, by decide⟩, ?_⟩ | refine ⟨decide_eq_true (by omega), ?_⟩ | refine ⟨⟨decide_eq_true (by omega), decide_eq_true (by omega)⟩, ?_⟩)
        try (first | done | decide | exact decide_eq_true (by omega) | exact ⟨decide_eq_true (by omega), decide_eq_true (by omega)⟩)
      try simp -implicitDefEqProofs only [go_sem]
      repeat (first | refine ⟨rfl, ?_⟩ | refine ⟨by decide, ?_⟩ | refine ⟨⟨by decide, by decide⟩, ?_⟩ | refine ⟨decide_eq_true (by omega), ?_⟩ | refine ⟨⟨decide_eq_true (by omega), decide_eq_true (by omega)⟩, ?_⟩)
      try (first | done | decide | exact decide_eq_true (by omega) | exact ⟨decide_eq_true (by omega), decide_eq_true (by omega)⟩)
      refine .of (c_i_isWord _) ?_
      try simp -implicitDefEqProofs only [go_sem]
      repeat (first | refine ⟨rfl, ?_⟩ | refine ⟨by decide, ?_⟩ | refine ⟨⟨by decide, by decide⟩, ?_⟩ | refine ⟨decide_eq_true (by omega), ?_⟩ | refine ⟨⟨decide_eq_true (by omega), decide_eq_true (by omega)⟩, ?_⟩)
      try (first | done | decide | exact decide_eq_true (by omega) | exact ⟨decide_eq_true (by omega), decide_eq_true (by omega)⟩)
      cases h2 : win seq 0 65535
      · try simp -implicitDefEqProofs only [go_sem, g0, h1, h2, RecV.ok, RecV.body, RecV.who, g1, g2, g3]
        repeat (first | refine ⟨rfl, ?_⟩ | refine ⟨by decide, ?_⟩ | refine ⟨⟨by decide, by decide⟩, ?_⟩ | refine ⟨decide_eq_true (by omega), ?_⟩ | refine ⟨⟨decide_eq_true (by omega), decide_eq_true (by omega)⟩, ?_⟩)
        try (first | done | decide | exact decide_eq_true (by omega) | exact ⟨decide_eq_true (by omega), decide_eq_true (by omega)⟩)
        try rfl
      try simp -implicitDefEqProofs only [go_sem]
      repeat (first | refine ⟨rfl, ?_⟩ | refine ⟨by decide, ?_⟩ | refine ⟨⟨by decide, by decide⟩, ?_⟩ | refine ⟨decide_eq_true (by omega), ?_⟩ | refine ⟨⟨decide_eq_true (by omega), decide_eq_true (by omega)⟩, ?_⟩)
      try (first | done | decide | exact decide_eq_true (by omega) | exact ⟨decide_eq_true (by omega), decide_eq_true (by omega)⟩)
      refine .of (c_i_within _ _ _) ?_
      try simp -implicitDefEqProofs only [go_sem, g0, h1, h2, RecV.ok, RecV.body, RecV.who, g1, g2, g3]
      repeat (first | refine ⟨rfl, ?_⟩ | refine ⟨by decide, ?_⟩ | refine ⟨⟨by decide, by decide⟩, ?_⟩ | refine ⟨decide_eq_true (by omega), ?_⟩ | refine ⟨⟨decide_eq_true (by omega), decide_eq_true (by omega)⟩, ?_⟩)
      try (first | done | decide | exact decide_eq_true (by omega) | exact ⟨decide_eq_true (by omega), decide_eq_true (by omega)⟩)
    · try simp -implicitDefEqProofs only [go_sem, g0]
      repeat (first | refine ⟨rfl, ?_⟩ | refine ⟨by decide, ?_⟩ | refine ⟨⟨by decide, by decide⟩, ?_⟩ | refine ⟨decide_eq_true (by omega), ?_⟩ | refine ⟨⟨decide_eq_true (by omega), decide_eq_true (by omega)⟩, ?_⟩)
      try (first | done | decide | exact decide_eq_true (by omega) | exact ⟨decide_eq_true (by omega), decide_eq_true (by omega)⟩)
      cases h1 : (seq == 0)
      · try simp -implicitDefEqProofs only [go_sem, g0, h1, RecV.ok, RecV.body, RecV.who, g1, g2, g3]
        repeat (first | refine ⟨rfl, ?_⟩ | refine ⟨by decide, ?_⟩ | refine ⟨⟨by decide, by decide⟩, ?_⟩ | refine ⟨decide_eq_true (by omega), ?_⟩ | refine ⟨⟨decide_eq_true (by omega), decide_eq_true (by omega)⟩, ?_⟩)
        try (first | done | decide | exact decide_eq_true (by omega) | exact ⟨decide_eq_true (by omega), decide_eq_true (by omega)⟩)
      try simp -implicitDefEqProofs only [go_sem, h1]
      repeat (first | refine ⟨rfl, ?_⟩ | refine ⟨by decide, ?_⟩ | refine ⟨⟨by decide, by decide⟩, ?_⟩ | refine ⟨decide_eq_true (by omega), ?_⟩ | refine ⟨⟨decide_eq_true (by omega), decide_eq_true (by omega)⟩, ?_⟩)
      try (first | done | decide | exact decide_eq_true (by omega) | exact ⟨decide_eq_true (by omega), decide_eq_true (by omega)⟩)
      cases h2 : (code == 0)
      · try simp -implicitDefEqProofs only [go_sem, g0, h1, h2, RecV.ok, RecV.body, RecV.who, g1, g2, g3]
        repeat (first | refine ⟨rfl, ?_⟩ | refine ⟨by decide, ?_⟩ | refine ⟨⟨by decide, by decide⟩, ?_⟩ | refine ⟨decide_eq_true (by omega), ?_⟩ | refine ⟨⟨decide_eq_true (by omega), decide_eq_true (by omega)⟩, ?_⟩)
        try (first | done | decide | exact decide_eq_true (by omega) | exact ⟨decide_eq_true (by omega), decide_eq_true (by omega)⟩)
        try rfl
      try simp -implicitDefEqProofs only [go_sem, g0, h1, h2, RecV.ok, RecV.body, RecV.who, g1, g2, g3]
      repeat (first | refine ⟨rfl, ?_⟩ | refine ⟨by decide, ?_⟩ | refine ⟨⟨by decide, by decide⟩, ?_⟩ | refine ⟨decide_eq_true (by omega), ?_⟩ | refine ⟨⟨decide_eq_true (by omega), decide_eq_true (by omega)⟩, ?_⟩)
      try (first | done | decide | exact decide_eq_true (by omega) | exact ⟨decide_eq_true (by omega), decide_eq_true (by omega)⟩)
      try rfl
  by_cases q4 : kind = 4
  · subst q4
    try simp -implicitDefEqProofs only [go_sem]
    repeat (first | refine ⟨rfl, ?_⟩ | refine ⟨by decide, ?_⟩ | refine ⟨⟨by decide, by decide⟩, ?_⟩ | refine ⟨decide_eq_true (by omega), ?_⟩ | refine ⟨⟨decide_eq_true (by omega), decide_eq_true (by omega)⟩, ?_⟩)
    try (first | done | decide | exact decide_eq_true (by omega) | exact ⟨decide_eq_true (by omega), decide_eq_true (by omega)⟩)
    cases g1 : R.no
    · try simp -implicitDefEqProofs only [go_sem, g1]
      repeat (first | refine ⟨rfl, ?_⟩ | refine ⟨by decide, ?_⟩ | refine ⟨⟨by decide, by decide⟩, ?_⟩ | refine ⟨decide_eq_true (by omega), ?_⟩ | refine ⟨⟨decide_eq_true (by omega), decide_eq_true (by omega)⟩, ?_⟩)
      try (first | done | decide | exact decide_eq_true (by omega) | exact ⟨decide_eq_true (by omega), decide_eq_true (by omega)⟩)
      cases g0 : (who == 0)
      · try simp -implicitDefEqProofs only [go_sem, g0, RecV.ok, RecV.body, RecV.who, g1]
        repeat (first | refine ⟨rfl, ?_⟩ | refine ⟨by decide, ?_⟩ | refine ⟨⟨by decide, by decide⟩, ?_⟩ | refine ⟨decide_eq_true (by omega), ?_⟩ | refine ⟨⟨decide_eq_true (by omega), decide_eq_true (by omega)⟩, ?_⟩)
        try (first | done | decide | exact decide_eq_true (by omega) | exact ⟨decide_eq_true (by omega), decide_eq_true (by omega)⟩)
      · try simp -implicitDefEqProofs only [go_sem, g0, RecV.ok, RecV.body, RecV.who, g1]
        repeat (first | refine ⟨rfl, ?_⟩ | refine ⟨by decide, ?_⟩ | refine ⟨⟨by decide, by decide⟩, ?_⟩ | refine ⟨decide_eq_true (by omega), ?_⟩ | refine ⟨⟨decide_eq_true (by omega), decide_eq_true (by omega)⟩, ?_⟩)
        try (first | done | decide | exact decide_eq_true (by omega) | exact ⟨decide_eq_true (by omega), decide_eq_true (by omega)⟩)
    try simp -implicitDefEqProofs only [go_sem, g1]
    repeat (first | refine ⟨rfl, ?_⟩ | refine ⟨by decide, ?_⟩ | refine ⟨⟨by decide, by decide⟩, ?_⟩ | refine ⟨decide_eq_true (by omega), ?_⟩ | refine ⟨⟨decide_eq_true (by omega), decide_eq_true (by omega)⟩, ?_⟩)
    try (first | done | decide | exact decide_eq_true (by omega) | exact ⟨decide_eq_true (by omega), decide_eq_true (by omega)⟩)
    cases g2 : decide (key = ⟨#[]⟩)
    · try simp -implicitDefEqProofs only [go_sem, g1, g2]
      repeat (first | refine ⟨rfl, ?_⟩ | refine ⟨by decide, ?_⟩ | refine ⟨⟨by decide, by decide⟩, ?_⟩ | refine ⟨decide_eq_true (by omega), ?_⟩ | refine ⟨⟨decide_eq_true (by omega), decide_eq_true (by omega)⟩, ?_⟩)
      try (first | done | decide | exact decide_eq_true (by omega) | exact ⟨decide_eq_true (by omega), decide_eq_true (by omega)⟩)
      cases g0 : (who == 0)
      · try simp -implicitDefEqProofs only [go_sem, g0, RecV.ok, RecV.body, RecV.who, g1, g2]
        repeat (first | refine ⟨rfl, ?_⟩ | refine ⟨by decide, ?_⟩ | refine ⟨⟨by decide, by decide⟩, ?_⟩ | refine ⟨decide_eq_true (by omega), ?_⟩ | refine ⟨⟨decide_eq_true (by omega), decide_eq_true (by omega)⟩, ?_⟩)
        try (first | done | decide | exact decide_eq_true (by omega) | exact ⟨decide_eq_true (by omega), decide_eq_true (by omega)⟩)
      · try simp -implicitDefEqProofs only [go_sem, g0, RecV.ok, RecV.body, RecV.who, g1, g2]
        repeat (first | refine ⟨rfl, ?_⟩ | refine ⟨by decide, ?_⟩ | refine ⟨⟨by decide, by decide⟩, ?_⟩ | refine ⟨decide_eq_true (by omega), ?_⟩ | refine ⟨⟨decide_eq_true (by omega), decide_eq_true (by omega)⟩, ?_⟩)
        try (first | done | decide | exact decide_eq_true (by omega) | exact ⟨decide_eq_true (by omega), decide_eq_true (by omega)⟩)
    try simp -implicitDefEqProofs only [go_sem, g2]
    repeat (first | refine ⟨rfl, ?_⟩ | refine ⟨by decide, ?_⟩ | refine ⟨⟨by decide, by decide⟩, ?_⟩ | refine ⟨decide_eq_true (by omega), ?_⟩ | refine ⟨⟨decide_eq_true (by omega), decide_eq_true (by omega)⟩, ?_⟩)
    try (first | done | decide | exact decide_eq_true (by omega) | exact ⟨decide_eq_true (by omega), decide_eq_true (by omega)⟩)
    cases g3 : (n == 0)
    · try simp -implicitDefEqProofs only [go_sem, g1, g2, g3]
      repeat (first | refine ⟨rfl, ?_⟩ | refine ⟨by decide, ?_⟩ | refine ⟨⟨by decide, by decide⟩, ?_⟩ | refine ⟨decide_eq_true (by omega), ?_⟩ | refine ⟨⟨decide_eq_true (by omega), decide_eq_true (by omega)⟩, ?_⟩)
      try (first | done | decide | exact decide_eq_true (by omega) | exact ⟨decide_eq_true (by omega), decide_eq_true (by omega)⟩)
      cases g0 : (who == 0)
      · try simp -implicitDefEqProofs only [go_sem, g0, RecV.ok, RecV.body, RecV.who, g1, g2, g3]
        repeat (first | refine ⟨rfl, ?_⟩ | refine ⟨by decide, ?_⟩ | refine ⟨⟨by decide, by decide⟩, ?_⟩ | refine ⟨decide_eq_true (by omega), ?_⟩ | refine ⟨⟨decide_eq_true (by omega), decide_eq_true (by omega)⟩, ?_⟩)
        try (first | done | decide | exact decide_eq_true (by omega) | exact ⟨decide_eq_true (by omega), decide_eq_true (by omega)⟩)
      · try simp -implicitDefEqProofs only [go_sem, g0, RecV.ok, RecV.body, RecV.who, g1, g2, g3]
        repeat (first | refine ⟨rfl, ?_⟩ | refine ⟨by decide, ?_⟩ | refine ⟨⟨by decide, by decide⟩, ?_⟩ | refine ⟨decide_eq_true (by omega), ?_⟩ | refine ⟨⟨decide_eq_true (by omega), decide_eq_true (by omega)⟩, ?_⟩)
        try (first | done | decide | exact decide_eq_true (by omega) | exact ⟨decide_eq_true (by omega), decide_eq_true (by omega)⟩)
    try simp -implicitDefEqProofs only [go_sem, g3]
    repeat (first | refine ⟨rfl, ?_⟩ | refine ⟨by decide, ?_⟩ | refine ⟨⟨by decide, by decide⟩, ?_⟩ | refine ⟨decide_eq_true (by omega), ?_⟩ | refine ⟨⟨decide_eq_true (by omega), decide_eq_true (by omega)⟩, ?_⟩)
    try (first | done | decide | exact decide_eq_true (by omega) | exact ⟨decide_eq_true (by omega), decide_eq_true (by omega)⟩)
    cases g0 : (who == 0)
    · have g9 : (who != 0) = true := by rw [bne, g0]; rfl
      try simp -implicitDefEqProofs only [go_sem, g0, g9]
      repeat (first | refine ⟨rfl, ?_⟩ | refine ⟨by decide, ?_⟩ | refine ⟨⟨by decide, by decide⟩, ?_⟩ | refine ⟨decide_eq_true (by omega), ?_⟩ | refine ⟨⟨decide_eq_true (by omega), decide_eq_true (by omega)⟩, ?_⟩)
      try (first | done | decide | exact decide_eq_true (by omega) | exact ⟨decide_eq_true (by omega), decide_eq_true (by omega)⟩)
      refine .of (c_i_within _ _ _) ?_
      try simp -implicitDefEqProofs only [go_sem]
      repeat (first | refine ⟨rfl, ?_⟩ | refine ⟨by decide, ?_⟩ | refine ⟨⟨by decide, by decide⟩, ?_⟩ | refine ⟨decide_eq_true (by omega), ?_⟩ | refine ⟨⟨decide_eq_true (by omega), decide_eq_true (by omega)⟩, ?_⟩)
      try (first | done | decide | exact decide_eq_true (by omega) | exact ⟨decide_eq_true (by omega), decide_eq_true (by omega)⟩)
      cases h1 : win who 1 9
      · try simp -implicitDefEqProofs only [go_sem, g0, h1, RecV.ok, RecV.body, RecV.who, g1, g2, g3]
        repeat (first | refine ⟨rfl, ?_⟩ | refine ⟨by decide, ?_⟩ | refine ⟨⟨by decide, by decide⟩, ?_⟩ | refine ⟨decide_eq_true (by omega), ?_⟩ | refine ⟨⟨decide_eq_true (by omega), decide_eq_true (by omega)⟩, ?_⟩)
        try (first | done | decide | exact decide_eq_true (by omega) | exact ⟨decide_eq_true (by omega), decide_eq_true (by omega)⟩)
      try simp -implicitDefEqProofs only [go_sem]
      repeat (first | refine ⟨rfl, ?_⟩ | refine ⟨by decide, ?_⟩ | refine ⟨⟨by decide, by decide⟩, ?_⟩ | refine ⟨decide_eq_true (by omega), ?_⟩ | refine ⟨⟨decide_eq_true (by omega), decide_eq_true (by omega)⟩, ?_⟩)
      try (first | done | decide | exact decide_eq_true (by omega) | exact ⟨decide_eq_true (by omega), decide_eq_true (by omega)⟩)
      refine .of (c_i_isWord _) ?_
      try simp -implicitDefEqProofs only [go_sem]
      repeat (first | refine ⟨rfl, ?_⟩ | refine ⟨by decide, ?_⟩ | refine ⟨⟨by decide, by decide⟩, ?_⟩ | refine ⟨decide_eq_true (by omega), ?_⟩ | refine ⟨⟨decide_eq_true (by omega), decide_eq_true (by omega)⟩, ?_⟩)
      try (first | done | decide | exact decide_eq_true (by omega) | exact ⟨decide_eq_true (by omega), decide_eq_true (by omega)⟩)
      cases h2 : win seq 0 65535
      · try simp -implicitDefEqProofs only [go_sem, g0, h1, h2, RecV.ok, RecV.body, RecV.who, g1, g2, g3]
        repeat (first | refine ⟨rfl, ?_⟩ | refine ⟨by decide, ?_⟩ | refine ⟨⟨by decide, by decide⟩, ?_⟩ | refine ⟨decide_eq_true (by omega), ?_⟩ | refine ⟨⟨decide_eq_true (by omega), decide_eq_true (by omega)⟩, ?_⟩)
        try (first | done | decide | exact decide_eq_true (by omega) | exact ⟨decide_eq_true (by omega), decide_eq_true (by omega)⟩)
        try rfl
      try simp -implicitDefEqProofs only [go_sem]
      repeat (first | refine ⟨rfl, ?_⟩ | refine ⟨by decide, ?_⟩ | refine ⟨⟨by decide, by decide⟩, ?_⟩ | refine ⟨decide_eq_true (by omega), ?_⟩ | refine ⟨⟨decide_eq_true (by omega), decide_eq_true (by omega)⟩, ?_⟩)
      try (first | done | decide | exact decide_eq_true (by omega) | exact ⟨decide_eq_true (by omega), decide_eq_true (by omega)⟩)
      refine .of (c_i_within _ _ _) ?_
      try simp -implicitDefEqProofs only [go_sem, g0, h1, h2, RecV.ok, RecV.body, RecV.who, g1, g2, g3]
      repeat (first | refine ⟨rfl, ?_⟩ | refine ⟨by decide, ?_⟩ | refine ⟨⟨by decide, by decide⟩, ?_⟩ | refine ⟨decide_eq_true (by omega), ?_⟩ | refine ⟨⟨decide_eq_true (by omega), decide_eq_true (by omega)⟩, ?_⟩)
      try (first | done | decide | exact decide_eq_true (by omega) | exact ⟨decide_eq_true (by omega), decide_eq_true (by omega)⟩)
    · have g9 : (who != 0) = false := by rw [bne, g0]; rfl
      try simp -implicitDefEqProofs only [go_sem, g0, g9]
      repeat (first | refine ⟨rfl, ?_⟩ | refine ⟨by decide, ?_⟩ | refine ⟨⟨by decide, by decide⟩, ?_⟩ | refine ⟨decide_eq_true (by omega), ?_⟩ | refine ⟨⟨decide_eq_true (by omega), decide_eq_true (by omega)⟩, ?_⟩)
      try (first | done | decide | exact decide_eq_true (by omega) | exact ⟨decide_eq_true (by omega), decide_eq_true (by omega)⟩)
      cases h1 : (seq == 0)
      · try simp -implicitDefEqProofs only [go_sem, g0, h1, RecV.ok, RecV.body, RecV.who, g1, g2, g3]
        repeat (first | refine ⟨rfl, ?_⟩ | refine ⟨by decide, ?_⟩ | refine ⟨⟨by decide, by decide⟩, ?_⟩ | refine ⟨decide_eq_true (by omega), ?_⟩ | refine ⟨⟨decide_eq_true (by omega), decide_eq_true (by omega)⟩, ?_⟩)
        try (first | done | decide | exact decide_eq_true (by omega) | exact ⟨decide_eq_true (by omega), decide_eq_true (by omega)⟩)
      cases h2 : (code == 0)
      · try simp -implicitDefEqProofs only [go_sem, g0, h1, h2, RecV.ok, RecV.body, RecV.who, g1, g2, g3]
        repeat (first | refine ⟨rfl, ?_⟩ | refine ⟨by decide, ?_⟩ | refine ⟨⟨by decide, by decide⟩, ?_⟩ | refine ⟨decide_eq_true (by omega), ?_⟩ | refine ⟨⟨decide_eq_true (by omega), decide_eq_true (by omega)⟩, ?_⟩)
        try (first | done | decide | exact decide_eq_true (by omega) | exact ⟨decide_eq_true (by omega), decide_eq_true (by omega)⟩)
        try rfl
      try simp -implicitDefEqProofs only [go_sem, g0, h1, h2, RecV.ok, RecV.body, RecV.who, g1, g2, g3]
      repeat (first | refine ⟨rfl, ?_⟩ | refine ⟨by decide, ?_⟩ | refine ⟨⟨by decide, by decide⟩, ?_⟩ | refine ⟨decide_eq_true (by omega), ?_⟩ | refine ⟨⟨decide_eq_true (by omega), decide_eq_true (by omega)⟩, ?_⟩)
      try (first | done | decide | exact decide_eq_true (by omega) | exact ⟨decide_eq_true (by omega), decide_eq_true (by omega)⟩)
      try rfl
  obtain ⟨k1, k2, k3, k4⟩ := other_kind q1 q2 q3 q4
  try simp -implicitDefEqProofs only [go_sem, k1, k2, k3, k4]
  repeat (first | refine ⟨rfl, ?_⟩ | refine ⟨by decide, ?_⟩ | refine ⟨⟨by decide, by decide⟩, ?_⟩ | refine ⟨decide_eq_true (by omega), ?_⟩ | refine ⟨⟨decide_eq_true (by omega), decide_eq_true (by omega)⟩, ?_⟩)
  try (first | done | decide | exact decide_eq_true (by omega) | exact ⟨decide_eq_true (by omega), decide_eq_true (by omega)⟩)
  cases g0 : (who == 0)
  · try simp -implicitDefEqProofs only [go_sem, g0, RecV.ok, RecV.body, RecV.who, k1, k2, k3, k4]
    repeat (first | refine ⟨rfl, ?_⟩ | refine ⟨by decide, ?_⟩ | refine ⟨⟨by decide, by decide⟩, ?_⟩ | refine ⟨decide_eq_true (by omega), ?_⟩ | refine ⟨⟨decide_eq_true (by omega), decide_eq_true (by omega)⟩, ?_⟩)
    try (first | done | decide | exact decide_eq_true (by omega) | exact ⟨decide_eq_true (by omega), decide_eq_true (by omega)⟩)
  · try simp -implicitDefEqProofs only [go_sem, g0, RecV.ok, RecV.body, RecV.who, k1, k2, k3, k4]
    repeat (first | refine ⟨rfl, ?_⟩ | refine ⟨by decide, ?_⟩ | refine ⟨⟨by decide, by decide⟩, ?_⟩ | refine ⟨decide_eq_true (by omega), ?_⟩ | refine ⟨⟨decide_eq_true (by omega), decide_eq_true (by omega)⟩, ?_⟩)
    try (first | done | decide | exact decide_eq_true (by omega) | exact ⟨decide_eq_true (by omega), decide_eq_true (by omega)⟩)
end Go.X

/- Vj -/
namespace Go.X
set_option maxRecDepth 100000
set_option maxHeartbeats 8000000
def strOf (l : List UInt8) : ByteArray := ⟨l.toArray⟩
def putCell (b : List UInt8) (c : CellV) : List UInt8 := putText (b ++ [mkU c.Tag]) (strOf c.B)
def flagU (a : Bool) : UInt8 := bif a then 1 else 0
def putRow1 (b : List UInt8) (r : RowV) : List UInt8 := putText b r.Key ++ [mkU r.Has, flagU r.Aside]
def putRow2 (b : List UInt8) (r : RowV) : List UInt8 := if r.Has = 2 then putRow1 b r else putCell (putRow1 b r) r.Old
def putRow3 (b : List UInt8) (r : RowV) : List UInt8 := if r.Has = 1 then putRow2 b r else putCell (putRow2 b r) r.New
def putRow (b : List UInt8) (r : RowV) : List UInt8 := if r.ok = true then putRow3 b r else b
theorem app1B (l : List UInt8) (x : UInt8) : List.map uR l ++ [[uT x]] = List.map uR (l ++ [x]) := by rw [List.map_append]; rfl
theorem app2B (l : List UInt8) (x y : UInt8) : List.map uR l ++ [[uT x], [uT y]] = List.map uR (l ++ [x, y]) := by rw [List.map_append]; rfl
theorem take1B (l : List UInt8) (x : UInt8) : List.take (l.length + 1) (List.map uR (l ++ [x])) = List.map uR (l ++ [x]) := List.take_of_length_le (by simp)
theorem take2B (l : List UInt8) (x y : UInt8) : List.take (l.length + 2) (List.map uR (l ++ [x, y])) = List.map uR (l ++ [x, y]) := List.take_of_length_le (by simp)
theorem putCell_len (b : List UInt8) (c : CellV) : (putCell b c).length ≤ b.length + 63 := by
  have := putText_len (b ++ [mkU c.Tag]) (strOf c.B)
  simp only [List.length_append, List.length_cons, List.length_nil] at this
  unfold putCell
  omega
theorem putRow1_len (b : List UInt8) (r : RowV) : (putRow1 b r).length ≤ b.length + 64 := by
  have := putText_len b r.Key
  unfold putRow1
  rw [List.length_append]
  simp only [List.length_cons, List.length_nil]
  omega
theorem putRow2_len (b : List UInt8) (r : RowV) : (putRow2 b r).length ≤ b.length + 127 := by
  have h1 := putRow1_len b r
  have h2 := putCell_len (putRow1 b r) r.Old
  unfold putRow2
  split <;> omega
theorem putRow_len (b : List UInt8) (r : RowV) : (putRow b r).length ≤ b.length + 190 := by
  have h1 := putRow2_len b r
  have h2 := putCell_len (putRow2 b r) r.New
  unfold putRow putRow3
  split
  · split <;> omega
  · omega
theorem rowOk_win {r : RowV} (h : r.ok = true) : win r.Has 1 3 = true := by
  cases g : win r.Has 1 3
  · rw [rowOk_has g] at h; exact absurd h (by decide)
  · rfl
theorem rowOk_cells {r : RowV} (h : r.In (2 ^ 48)) : r.Old.B.length ≤ 2 ^ 48 ∧ r.New.B.length ≤ 2 ^ 48 := ⟨h.2.1, h.2.2⟩
theorem strOf_size (l : List UInt8) : (strOf l).size = l.length := by simp [strOf, ByteArray.size]
def x_s_l11Cell : FnX := ⟨15, [.tmp 4],
  .q [.v 3 1, .op 4 (.mv (.k (.one (.nils 1))))]
 (.seq (.draw [.m 5 0, .f 6 3 0, .l 7 6, .op 8 (.conv (.int .u8) (.t 7)), .op 9 (.bslice 1 [(.t 8)]), .op 10 (.app 1 1 (.t 5) (.t 9)), .f 11 3 1, .l 12 11, .op 13 (.conv .b2s (.t 12)), .c 14 116 [10, 13], .m 4 14] [[], [], [1], [2], [3], [0, 4], [], [6], [7], [5, 8, 5], [9, 9, 0, 1, 2, 3, 4, 5, 6, 7, 8, 9]])
 .ret)⟩
abbrev C_s_l11Cell (Te : TE) : Prop := ∀ (b : List UInt8) (c : CellV) (hb : b.length ≤ 2 ^ 28) (hc : c.B.length ≤ 2 ^ 48), Te 152 [.one (slT true 1 uR b), .agg (c.enc false)] ⟨[.one (slT true 1 uR (putCell b c))], [[.no ()], c.enc false]⟩
theorem r_s_l11Cell {Te : TE} (c_s_PutText : C_s_PutText Te) : C_s_l11Cell (RF Te x_s_l11Cell) := by
  intro b c hb hc
  refine run0 ?_
  have ea := areBytes_uR c.B
  have fa := bytesOf_uR c.B
  simp -implicitDefEqProofs only [x_s_l11Cell, go_sem, mkU_wrap, ea, fa, app1B, take1B]
  repeat (first | refine ⟨rfl, ?_⟩ | refine ⟨by decide, ?_⟩ | refine ⟨⟨by decide, by decide⟩, ?_⟩ | refine ⟨decide_eq_true (by omega), ?_⟩ | refine ⟨⟨decide_eq_true (by omega), decide_eq_true (by omega)⟩, ?_⟩)
  try (first | done | decide | exact decide_eq_true (by omega) | exact ⟨decide_eq_true (by omega), decide_eq_true (by omega)⟩)
  have tt := c_s_PutText (b ++ [mkU c.Tag]) (strOf c.B) (by rw [List.length_append]; simp only [List.length_cons, List.length_nil]; omega) (by rw [strOf_size]; exact hc)
  rw [← putCell] at tt
  refine .of (tt) ?_
  try simp -implicitDefEqProofs only [go_sem]
  repeat (first | refine ⟨rfl, ?_⟩ | refine ⟨by decide, ?_⟩ | refine ⟨⟨by decide, by decide⟩, ?_⟩ | refine ⟨decide_eq_true (by omega), ?_⟩ | refine ⟨⟨decide_eq_true (by omega), decide_eq_true (by omega)⟩, ?_⟩)
  try (first | done | decide | exact decide_eq_true (by omega) | exact ⟨decide_eq_true (by omega), decide_eq_true (by omega)⟩)
def x_i_PutRow : FnX := ⟨56, [.tmp 4],
  .q [.v 3 1, .op 4 (.mv (.k (.one (.nils 1))))]
 (.q [.m 6 0, .op 7 (.bslice 1 [(.t 6)]), .c 8 121 [7], .m 5 8]
 (.seq (.q [.L 9 7 3, .c 10 139 [9], .N 11 10]
 (.c 11 (.q [.m 12 5, .m 4 12]
 .ret)))
 (.seq (.draw [.m 13 5, .f 14 3 0, .l 15 14, .c 16 126 [13, 15], .f 17 3 5, .l 18 17, .op 19 (.conv (.int .u8) (.t 18)), .f 20 3 6, .l 21 20, .c 22 155 [21], .op 23 (.bslice 1 [(.t 19), (.t 22)]), .op 24 (.app 1 1 (.t 16) (.t 23)), .m 5 24] [[], [], [1], [0, 2], [], [4], [5], [], [7], [8, 3], [6, 9], [3, 10, 9], [11, 11, 0, 1, 2, 3, 4, 5, 6, 7, 8, 9, 10, 11]])
 (.seq (.q [.f 25 3 5, .l 26 25, .B 27 .neq 26 2]
 (.c 27 (.draw [.m 28 5, .f 29 3 1, .f 30 29 0, .l 31 30, .op 32 (.conv (.int .u8) (.t 31)), .op 33 (.bslice 1 [(.t 32)]), .op 34 (.app 1 1 (.t 28) (.t 33)), .f 35 3 1, .f 36 35 1, .l 37 36, .op 38 (.conv .b2s (.t 37)), .c 39 126 [34, 38], .m 5 39] [[], [], [1], [2], [3], [4], [0, 5], [], [7], [8], [9], [6, 10, 6], [11, 11, 0, 1, 2, 3, 4, 5, 6, 7, 8, 9, 10, 11]])))
 (.seq (.q [.f 40 3 5, .l 41 40, .B 42 .neq 41 1]
 (.c 42 (.draw [.m 43 5, .f 44 3 3, .f 45 44 0, .l 46 45, .op 47 (.conv (.int .u8) (.t 46)), .op 48 (.bslice 1 [(.t 47)]), .op 49 (.app 1 1 (.t 43) (.t 48)), .f 50 3 3, .f 51 50 1, .l 52 51, .op 53 (.conv .b2s (.t 52)), .c 54 126 [49, 53], .m 5 54] [[], [], [1], [2], [3], [4], [0, 5], [], [7], [8], [9], [6, 10, 6], [11, 11, 0, 1, 2, 3, 4, 5, 6, 7, 8, 9, 10, 11]])))
 (.q [.m 55 5, .m 4 55]
 .ret))))))⟩
abbrev C_i_PutRow (Te : TE) : Prop := ∀ (b : List UInt8) (r : RowV) (hb : b.length ≤ 2 ^ 27) (h : r.In (2 ^ 48)), Te 125 [.one (slT false 1 uR b), .agg (r.enc false)] ⟨[.one (slT true 1 uR (putRow b r))], [[slT false 1 uR b], r.enc false]⟩
theorem r_i_PutRow {Te : TE} (c_i_joined : C_i_joined Te) (c_i_RowOk : C_i_RowOk Te) (c_i_PutText : C_i_PutText Te) (c_i_flag : C_i_flag Te) : C_i_PutRow (RF Te x_i_PutRow) := by
  intro b r hb h
  refine run0 ?_
  obtain ⟨h1, h2, h3⟩ := h
  have ea := areBytes_uR r.Old.B
  have fa := bytesOf_uR r.Old.B
  have eb := areBytes_uR r.New.B
  have fb := bytesOf_uR r.New.B
  have l0 := putText_len b r.Key
  have l1 := putRow1_len b r
  have l2 := putRow2_len b r
  simp -implicitDefEqProofs only [x_i_PutRow, go_sem]
  repeat (first | refine ⟨rfl, ?_⟩ | refine ⟨by decide, ?_⟩ | refine ⟨⟨by decide, by decide⟩, ?_⟩ | refine ⟨decide_eq_true (by omega), ?_⟩ | refine ⟨⟨decide_eq_true (by omega), decide_eq_true (by omega)⟩, ?_⟩)
  try (first | done | decide | exact decide_eq_true (by omega) | exact ⟨decide_eq_true (by omega), decide_eq_true (by omega)⟩)
  refine .of (c_i_joined [b] (by rw [flat1]; omega) (by show 1 ≤ 2 ^ 31; decide)) ?_
  try simp -implicitDefEqProofs only [go_sem, flat1]
  repeat (first | refine ⟨rfl, ?_⟩ | refine ⟨by decide, ?_⟩ | refine ⟨⟨by decide, by decide⟩, ?_⟩ | refine ⟨decide_eq_true (by omega), ?_⟩ | refine ⟨⟨decide_eq_true (by omega), decide_eq_true (by omega)⟩, ?_⟩)
  try (first | done | decide | exact decide_eq_true (by omega) | exact ⟨decide_eq_true (by omega), decide_eq_true (by omega)⟩)
  refine .of (c_i_RowOk r ⟨h1, h2, h3⟩) ?_
  try simp -implicitDefEqProofs only [go_sem]
  repeat (first | refine ⟨rfl, ?_⟩ | refine ⟨by decide, ?_⟩ | refine ⟨⟨by decide, by decide⟩, ?_⟩ | refine ⟨decide_eq_true (by omega), ?_⟩ | refine ⟨⟨decide_eq_true (by omega), decide_eq_true (by omega)⟩, ?_⟩)
  try (first | done | decide | exact decide_eq_true (by omega) | exact ⟨decide_eq_true (by omega), decide_eq_true (by omega)⟩)
  cases g : r.ok
  · try simp -implicitDefEqProofs only [go_sem, putRow, g, if_false, reduceCtorEq]
    repeat (first | refine ⟨rfl, ?_⟩ | refine ⟨by decide, ?_⟩ | refine ⟨⟨by decide, by decide⟩, ?_⟩ | refine ⟨decide_eq_true (by omega), ?_⟩ | refine ⟨⟨decide_eq_true (by omega), decide_eq_true (by omega)⟩, ?_⟩)
    try (first | done | decide | exact decide_eq_true (by omega) | exact ⟨decide_eq_true (by omega), decide_eq_true (by omega)⟩)
  have ep : putRow b r = putRow3 b r := if_pos g
  try simp -implicitDefEqProofs only [go_sem]
  repeat (first | refine ⟨rfl, ?_⟩ | refine ⟨by decide, ?_⟩ | refine ⟨⟨by decide, by decide⟩, ?_⟩ | refine ⟨decide_eq_true (by omega), ?_⟩ | refine ⟨⟨decide_eq_true (by omega), decide_eq_true (by omega)⟩, ?_⟩)
  try (first | done | decide | exact decide_eq_true (by omega) | exact ⟨decide_eq_true (by omega), decide_eq_true (by omega)⟩)
  refine .of (c_i_PutText b r.Key (by omega) h1) ?_
  try simp -implicitDefEqProofs only [go_sem]
  repeat (first | refine ⟨rfl, ?_⟩ | refine ⟨by decide, ?_⟩ | refine ⟨⟨by decide, by decide⟩, ?_⟩ | refine ⟨decide_eq_true (by omega), ?_⟩ | refine ⟨⟨decide_eq_true (by omega), decide_eq_true (by omega)⟩, ?_⟩)
  try (first | done | decide | exact decide_eq_true (by omega) | exact ⟨decide_eq_true (by omega), decide_eq_true (by omega)⟩)
  refine .of (c_i_flag r.Aside) ?_
  try simp -implicitDefEqProofs only [go_sem, mkU_wrap, app2B, take2B]
  repeat (first | refine ⟨rfl, ?_⟩ | refine ⟨by decide, ?_⟩ | refine ⟨⟨by decide, by decide⟩, ?_⟩ | refine ⟨decide_eq_true (by omega), ?_⟩ | refine ⟨⟨decide_eq_true (by omega), decide_eq_true (by omega)⟩, ?_⟩)
  try (first | done | decide | exact decide_eq_true (by omega) | exact ⟨decide_eq_true (by omega), decide_eq_true (by omega)⟩)
  have e1 : putText b r.Key ++ [mkU r.Has, bif r.Aside then 1 else 0] = putRow1 b r := rfl
  have e2 : (putText b r.Key).length + 2 = (putRow1 b r).length := by rw [putRow1, List.length_append]; rfl
  simp only [e1, e2]
  have gw := win13 (rowOk_win g)
  by_cases q2 : r.Has = 2
  · have k2 : (r.Has != 2) = false := by simp only [bne_eq_false_iff_eq]; exact q2
    have k1 : (r.Has != 1) = true := by simp only [bne_iff_ne, ne_eq]; omega
    have e3 : putRow2 b r = putRow1 b r := if_pos q2
    have e4 : putRow3 b r = putCell (putRow1 b r) r.New := by rw [putRow3, if_neg (by omega), e3]
    try simp -implicitDefEqProofs only [go_sem, k2, k1, eb, fb, mkU_wrap, app1B, take1B]
    repeat (first | refine ⟨rfl, ?_⟩ | refine ⟨by decide, ?_⟩ | refine ⟨⟨by decide, by decide⟩, ?_⟩ | refine ⟨decide_eq_true (by omega), ?_⟩ | refine ⟨⟨decide_eq_true (by omega), decide_eq_true (by omega)⟩, ?_⟩)
    try (first | done | decide | exact decide_eq_true (by omega) | exact ⟨decide_eq_true (by omega), decide_eq_true (by omega)⟩)
    have tt := c_i_PutText (putRow1 b r ++ [mkU r.New.Tag]) (strOf r.New.B) (by rw [List.length_append]; simp only [List.length_cons, List.length_nil]; omega) (by rw [strOf_size]; exact h3)
    rw [← putCell] at tt
    refine .of (tt) ?_
    try simp -implicitDefEqProofs only [go_sem, ep, e4]
    repeat (first | refine ⟨rfl, ?_⟩ | refine ⟨by decide, ?_⟩ | refine ⟨⟨by decide, by decide⟩, ?_⟩ | refine ⟨decide_eq_true (by omega), ?_⟩ | refine ⟨⟨decide_eq_true (by omega), decide_eq_true (by omega)⟩, ?_⟩)
    try (first | done | decide | exact decide_eq_true (by omega) | exact ⟨decide_eq_true (by omega), decide_eq_true (by omega)⟩)
  · have k2 : (r.Has != 2) = true := by simp only [bne_iff_ne, ne_eq]; exact q2
    have e3 : putRow2 b r = putCell (putRow1 b r) r.Old := if_neg q2
    try simp -implicitDefEqProofs only [go_sem, k2, ea, fa, mkU_wrap, app1B, take1B]
    repeat (first | refine ⟨rfl, ?_⟩ | refine ⟨by decide, ?_⟩ | refine ⟨⟨by decide, by decide⟩, ?_⟩ | refine ⟨decide_eq_true (by omega), ?_⟩ | refine ⟨⟨decide_eq_true (by omega), decide_eq_true (by omega)⟩, ?_⟩)
    try (first | done | decide | exact decide_eq_true (by omega) | exact ⟨decide_eq_true (by omega), decide_eq_true (by omega)⟩)
    have tt := c_i_PutText (putRow1 b r ++ [mkU r.Old.Tag]) (strOf r.Old.B) (by rw [List.length_append]; simp only [List.length_cons, List.length_nil]; omega) (by rw [strOf_size]; exact h2)
    rw [← putCell, ← e3] at tt
    refine .of (tt) ?_
    try simp -implicitDefEqProofs only [go_sem]
    repeat (first | refine ⟨rfl, ?_⟩ | refine ⟨by decide, ?_⟩ | refine ⟨⟨by decide, by decide⟩, ?_⟩ | refine ⟨decide_eq_true (by omega), ?_⟩ | refine ⟨⟨decide_eq_true (by omega), decide_eq_true (by omega)⟩, ?_⟩)
    try (first | done | decide | exact decide_eq_true (by omega) | exact ⟨decide_eq_true (by omega), decide_eq_true (by omega)⟩)
    by_cases q1 : r.Has = 1
    · have k1 : (r.Has != 1) = false := by simp only [bne_eq_false_iff_eq]; exact q1
      have e4 : putRow3 b r = putRow2 b r := if_pos q1
      try simp -implicitDefEqProofs only [go_sem, k1, ep, e4]
      repeat (first | refine ⟨rfl, ?_⟩ | refine ⟨by decide, ?_⟩ | refine ⟨⟨by decide, by decide⟩, ?_⟩ | refine ⟨decide_eq_true (by omega), ?_⟩ | refine ⟨⟨decide_eq_true (by omega), decide_eq_true (by omega)⟩, ?_⟩)
      try (first | done | decide | exact decide_eq_true (by omega) | exact ⟨decide_eq_true (by omega), decide_eq_true (by omega)⟩)
    · have k1 : (r.Has != 1) = true := by simp only [bne_iff_ne, ne_eq]; exact q1
      have e4 : putRow3 b r = putCell (putRow2 b r) r.New := if_neg q1
      try simp -implicitDefEqProofs only [go_sem, k1, eb, fb, mkU_wrap, app1B, take1B]
      repeat (first | refine ⟨rfl, ?_⟩ | refine ⟨by decide, ?_⟩ | refine ⟨⟨by decide, by decide⟩, ?_⟩ | refine ⟨decide_eq_true (by omega), ?_⟩ | refine ⟨⟨decide_eq_true (by omega), decide_eq_true (by omega)⟩, ?_⟩)
      try (first | done | decide | exact decide_eq_true (by omega) | exact ⟨decide_eq_true (by omega), decide_eq_true (by omega)⟩)
      have tt := c_i_PutText (putRow2 b r ++ [mkU r.New.Tag]) (strOf r.New.B) (by rw [List.length_append]; simp only [List.length_cons, List.length_nil]; omega) (by rw [strOf_size]; exact h3)
      rw [← putCell] at tt
      refine .of (tt) ?_
      try simp -implicitDefEqProofs only [go_sem, ep, e4]
      repeat (first | refine ⟨rfl, ?_⟩ | refine ⟨by decide, ?_⟩ | refine ⟨⟨by decide, by decide⟩, ?_⟩ | refine ⟨decide_eq_true (by omega), ?_⟩ | refine ⟨⟨decide_eq_true (by omega), decide_eq_true (by omega)⟩, ?_⟩)
      try (first | done | decide | exact decide_eq_true (by omega) | exact ⟨decide_eq_true (by omega), decide_eq_true (by omega)⟩)
def x_s_PutRow : FnX := ⟨38, [.tmp 4],
  .q [.v 3 1, .op 4 (.mv (.k (.one (.nils 1))))]
 (.q [.op 6 (.bslice 1 []), .m 7 0, .op 8 (.app 1 1 (.t 6) (.t 7)), .m 5 8]
 (.seq (.q [.L 9 7 3, .c 10 132 [9], .N 11 10]
 (.c 11 (.q [.m 12 5, .m 4 12]
 .ret)))
 (.seq (.draw [.m 13 5, .f 14 3 0, .l 15 14, .c 16 116 [13, 15], .f 17 3 5, .l 18 17, .op 19 (.conv (.int .u8) (.t 18)), .f 20 3 6, .l 21 20, .c 22 150 [21], .op 23 (.bslice 1 [(.t 19), (.t 22)]), .op 24 (.app 1 1 (.t 16) (.t 23)), .m 5 24] [[], [], [1], [0, 2], [], [4], [5], [], [7], [8, 3], [6, 9], [3, 10, 9], [11, 11, 0, 1, 2, 3, 4, 5, 6, 7, 8, 9, 10, 11]])
 (.seq (.q [.L 25 7 3, .c 26 151 [25]]
 (.c 26 (.reg [.m 27 5, .f 28 3 1, .L 29 2 28, .op 30 (.call 152 [1, 0] [(.t 27), (.t 29)]), .m 5 30])))
 (.seq (.q [.L 31 7 3, .c 32 32 [31]]
 (.c 32 (.reg [.m 33 5, .f 34 3 3, .L 35 2 34, .op 36 (.call 152 [1, 0] [(.t 33), (.t 35)]), .m 5 36])))
 (.q [.m 37 5, .m 4 37]
 .ret))))))⟩
abbrev C_s_PutRow (Te : TE) : Prop := ∀ (b : List UInt8) (r : RowV) (hb : b.length ≤ 2 ^ 27) (h : r.In (2 ^ 48)), Te 115 [.one (slT false 1 uR b), .agg (r.enc false)] ⟨[.one (slT true 1 uR (putRow b r))], [[slT false 1 uR b], r.enc false]⟩
theorem r_s_PutRow {Te : TE} (c_s_RowOk : C_s_RowOk Te) (c_s_PutText : C_s_PutText Te) (c_s_l11Bit : C_s_l11Bit Te) (c_s_l9Old : C_s_l9Old Te) (c_s_l11Cell : C_s_l11Cell Te) (c_s_l9New : C_s_l9New Te) : C_s_PutRow (RF Te x_s_PutRow) := by
  intro b r hb h
  refine run0 ?_
  obtain ⟨h1, h2, h3⟩ := h
  have l0 := putText_len b r.Key
  have l1 := putRow1_len b r
  have l2 := putRow2_len b r
  simp -implicitDefEqProofs only [x_s_PutRow, go_sem]
  repeat (first | refine ⟨rfl, ?_⟩ | refine ⟨by decide, ?_⟩ | refine ⟨⟨by decide, by decide⟩, ?_⟩ | refine ⟨decide_eq_true (by omega), ?_⟩ | refine ⟨⟨decide_eq_true (by omega), decide_eq_true (by omega)⟩, ?_⟩)
  try (first | done | decide | exact decide_eq_true (by omega) | exact ⟨decide_eq_true (by omega), decide_eq_true (by omega)⟩)
  refine .of (c_s_RowOk r ⟨h1, h2, h3⟩) ?_
  try simp -implicitDefEqProofs only [go_sem]
  repeat (first | refine ⟨rfl, ?_⟩ | refine ⟨by decide, ?_⟩ | refine ⟨⟨by decide, by decide⟩, ?_⟩ | refine ⟨decide_eq_true (by omega), ?_⟩ | refine ⟨⟨decide_eq_true (by omega), decide_eq_true (by omega)⟩, ?_⟩)
  try (first | done | decide | exact decide_eq_true (by omega) | exact ⟨decide_eq_true (by omega), decide_eq_true (by omega)⟩)
  cases g : r.ok
  · try simp -implicitDefEqProofs only [go_sem, putRow, g, if_false, reduceCtorEq]
    repeat (first | refine ⟨rfl, ?_⟩ | refine ⟨by decide, ?_⟩ | refine ⟨⟨by decide, by decide⟩, ?_⟩ | refine ⟨decide_eq_true (by omega), ?_⟩ | refine ⟨⟨decide_eq_true (by omega), decide_eq_true (by omega)⟩, ?_⟩)
    try (first | done | decide | exact decide_eq_true (by omega) | exact ⟨decide_eq_true (by omega), decide_eq_true (by omega)⟩)
  have ep : putRow b r = putRow3 b r := if_pos g
  try simp -implicitDefEqProofs only [go_sem, take_rows]
  repeat (first | refine ⟨rfl, ?_⟩ | refine ⟨by decide, ?_⟩ | refine ⟨⟨by decide, by decide⟩, ?_⟩ | refine ⟨decide_eq_true (by omega), ?_⟩ | refine ⟨⟨decide_eq_true (by omega), decide_eq_true (by omega)⟩, ?_⟩)
  try (first | done | decide | exact decide_eq_true (by omega) | exact ⟨decide_eq_true (by omega), decide_eq_true (by omega)⟩)
  refine .of (c_s_PutText b r.Key (by omega) h1) ?_
  try simp -implicitDefEqProofs only [go_sem]
  repeat (first | refine ⟨rfl, ?_⟩ | refine ⟨by decide, ?_⟩ | refine ⟨⟨by decide, by decide⟩, ?_⟩ | refine ⟨decide_eq_true (by omega), ?_⟩ | refine ⟨⟨decide_eq_true (by omega), decide_eq_true (by omega)⟩, ?_⟩)
  try (first | done | decide | exact decide_eq_true (by omega) | exact ⟨decide_eq_true (by omega), decide_eq_true (by omega)⟩)
  refine .of (c_s_l11Bit r.Aside) ?_
  try simp -implicitDefEqProofs only [go_sem, mkU_wrap, app2B, take2B]
  repeat (first | refine ⟨rfl, ?_⟩ | refine ⟨by decide, ?_⟩ | refine ⟨⟨by decide, by decide⟩, ?_⟩ | refine ⟨decide_eq_true (by omega), ?_⟩ | refine ⟨⟨decide_eq_true (by omega), decide_eq_true (by omega)⟩, ?_⟩)
  try (first | done | decide | exact decide_eq_true (by omega) | exact ⟨decide_eq_true (by omega), decide_eq_true (by omega)⟩)
  have e1 : putText b r.Key ++ [mkU r.Has, bif r.Aside then 1 else 0] = putRow1 b r := rfl
  have e2 : (putText b r.Key).length + 2 = (putRow1 b r).length := by rw [putRow1, List.length_append]; rfl
  simp only [e1, e2]
  have gw := win13 (rowOk_win g)
  refine .of (c_s_l9Old r gw) ?_
  try simp -implicitDefEqProofs only [go_sem]
  repeat (first | refine ⟨rfl, ?_⟩ | refine ⟨by decide, ?_⟩ | refine ⟨⟨by decide, by decide⟩, ?_⟩ | refine ⟨decide_eq_true (by omega), ?_⟩ | refine ⟨⟨decide_eq_true (by omega), decide_eq_true (by omega)⟩, ?_⟩)
  try (first | done | decide | exact decide_eq_true (by omega) | exact ⟨decide_eq_true (by omega), decide_eq_true (by omega)⟩)
  by_cases q2 : r.Has = 2
  · have k2 : decide (r.Has ≠ 2) = false := by simp only [ne_eq, q2, not_true_eq_false, decide_false]
    have k1 : decide (r.Has ≠ 1) = true := decide_eq_true (by omega)
    have e3 : putRow2 b r = putRow1 b r := if_pos q2
    have e4 : putRow3 b r = putCell (putRow1 b r) r.New := by rw [putRow3, if_neg (by omega), e3]
    try simp -implicitDefEqProofs only [go_sem, k2]
    repeat (first | refine ⟨rfl, ?_⟩ | refine ⟨by decide, ?_⟩ | refine ⟨⟨by decide, by decide⟩, ?_⟩ | refine ⟨decide_eq_true (by omega), ?_⟩ | refine ⟨⟨decide_eq_true (by omega), decide_eq_true (by omega)⟩, ?_⟩)
    try (first | done | decide | exact decide_eq_true (by omega) | exact ⟨decide_eq_true (by omega), decide_eq_true (by omega)⟩)
    refine .of (c_s_l9New r gw) ?_
    try simp -implicitDefEqProofs only [go_sem, k1]
    repeat (first | refine ⟨rfl, ?_⟩ | refine ⟨by decide, ?_⟩ | refine ⟨⟨by decide, by decide⟩, ?_⟩ | refine ⟨decide_eq_true (by omega), ?_⟩ | refine ⟨⟨decide_eq_true (by omega), decide_eq_true (by omega)⟩, ?_⟩)
    try (first | done | decide | exact decide_eq_true (by omega) | exact ⟨decide_eq_true (by omega), decide_eq_true (by omega)⟩)
    refine .of (c_s_l11Cell (putRow1 b r) r.New (by omega) h3) ?_
    try simp -implicitDefEqProofs only [go_sem, ep, e4]
    repeat (first | refine ⟨rfl, ?_⟩ | refine ⟨by decide, ?_⟩ | refine ⟨⟨by decide, by decide⟩, ?_⟩ | refine ⟨decide_eq_true (by omega), ?_⟩ | refine ⟨⟨decide_eq_true (by omega), decide_eq_true (by omega)⟩, ?_⟩)
    try (first | done | decide | exact decide_eq_true (by omega) | exact ⟨decide_eq_true (by omega), decide_eq_true (by omega)⟩)
  · have k2 : decide (r.Has ≠ 2) = true := decide_eq_true q2
    have e3 : putRow2 b r = putCell (putRow1 b r) r.Old := if_neg q2
    have tt := c_s_l11Cell (putRow1 b r) r.Old (by omega) h2
    rw [← e3] at tt
    try simp -implicitDefEqProofs only [go_sem, k2]
    repeat (first | refine ⟨rfl, ?_⟩ | refine ⟨by decide, ?_⟩ | refine ⟨⟨by decide, by decide⟩, ?_⟩ | refine ⟨decide_eq_true (by omega), ?_⟩ | refine ⟨⟨decide_eq_true (by omega), decide_eq_true (by omega)⟩, ?_⟩)
    try (first | done | decide | exact decide_eq_true (by omega) | exact ⟨decide_eq_true (by omega), decide_eq_true (by omega)⟩)
    refine .of (tt) ?_
    try simp -implicitDefEqProofs only [go_sem]
    repeat (first | refine ⟨rfl, ?_⟩ | refine ⟨by decide, ?_⟩ | refine ⟨⟨by decide, by decide⟩, ?_⟩ | refine ⟨decide_eq_true (by omega), ?_⟩ | refine ⟨⟨decide_eq_true (by omega), decide_eq_true (by omega)⟩, ?_⟩)
    try (first | done | decide | exact decide_eq_true (by omega) | exact ⟨decide_eq_true (by omega), decide_eq_true (by omega)⟩)
    refine .of (c_s_l9New r gw) ?_
    try simp -implicitDefEqProofs only [go_sem]
    repeat (first | refine ⟨rfl, ?_⟩ | refine ⟨by decide, ?_⟩ | refine ⟨⟨by decide, by decide⟩, ?_⟩ | refine ⟨decide_eq_true (by omega), ?_⟩ | refine ⟨⟨decide_eq_true (by omega), decide_eq_true (by omega)⟩, ?_⟩)
    try (first | done | decide | exact decide_eq_true (by omega) | exact ⟨decide_eq_true (by omega), decide_eq_true (by omega)⟩)
    by_cases q1 : r.Has = 1
    · have k1 : decide (r.Has ≠ 1) = false := by simp only [ne_eq, q1, not_true_eq_false, decide_false]
      have e4 : putRow3 b r = putRow2 b r := if_pos q1
      try simp -implicitDefEqProofs only [go_sem, k1, ep, e4]
      repeat (first | refine ⟨rfl, ?_⟩ | refine ⟨by decide, ?_⟩ | refine ⟨⟨by decide, by decide⟩, ?_⟩ | refine ⟨decide_eq_true (by omega), ?_⟩ | refine ⟨⟨decide_eq_true (by omega), decide_eq_true (by omega)⟩, ?_⟩)
      try (first | done | decide | exact decide_eq_true (by omega) | exact ⟨decide_eq_true (by omega), decide_eq_true (by omega)⟩)
    · have k1 : decide (r.Has ≠ 1) = true := decide_eq_true q1
      have e4 : putRow3 b r = putCell (putRow2 b r) r.New := if_neg q1
      try simp -implicitDefEqProofs only [go_sem, k1]
      repeat (first | refine ⟨rfl, ?_⟩ | refine ⟨by decide, ?_⟩ | refine ⟨⟨by decide, by decide⟩, ?_⟩ | refine ⟨decide_eq_true (by omega), ?_⟩ | refine ⟨⟨decide_eq_true (by omega), decide_eq_true (by omega)⟩, ?_⟩)
      try (first | done | decide | exact decide_eq_true (by omega) | exact ⟨decide_eq_true (by omega), decide_eq_true (by omega)⟩)
      refine .of (c_s_l11Cell (putRow2 b r) r.New (by omega) h3) ?_
      try simp -implicitDefEqProofs only [go_sem, ep, e4]
      repeat (first | refine ⟨rfl, ?_⟩ | refine ⟨by decide, ?_⟩ | refine ⟨⟨by decide, by decide⟩, ?_⟩ | refine ⟨decide_eq_true (by omega), ?_⟩ | refine ⟨⟨decide_eq_true (by omega), decide_eq_true (by omega)⟩, ?_⟩)
      try (first | done | decide | exact decide_eq_true (by omega) | exact ⟨decide_eq_true (by omega), decide_eq_true (by omega)⟩)
def recKind (b : List UInt8) (r : RecV) : List UInt8 := if r.Kind = 1 then putRow b r.R else if r.Kind = 2 then putText b r.Key else if r.Kind = 3 then b ++ [mkU r.N] else b
def recHead (gen place : Int) (r : RecV) : List UInt8 := putW (putW [] gen) place ++ [mkU r.Kind]
def recBody (gen place : Int) (r : RecV) : List UInt8 := putW (recKind (recHead gen place r) r ++ [mkU r.Who, mkU r.Code]) r.Seq
def recGood (gen place : Int) (r : RecV) : Bool := r.ok && win gen 0 65535 && win place 0 65535
def putRec (gen place : Int) (r : RecV) : List UInt8 := if recGood gen place r = true then putW (recBody gen place r) (sum (recBody gen place r) : Nat) else []
theorem recHead_len (gen place : Int) (r : RecV) : (recHead gen place r).length = 5 := by
  simp only [recHead, putW, List.length_append, List.length_cons, List.length_nil]
theorem recKind_len (b : List UInt8) (r : RecV) : (recKind b r).length ≤ b.length + 190 := by
  unfold recKind
  have h1 := putRow_len b r.R
  have h2 := putText_len b r.Key
  split
  · omega
  · split
    · omega
    · split
      · simp only [List.length_append, List.length_cons, List.length_nil]; omega
      · omega
theorem recBody_len (gen place : Int) (r : RecV) : (recBody gen place r).length ≤ 199 := by
  have h1 := recKind_len (recHead gen place r) r
  rw [recHead_len] at h1
  unfold recBody
  rw [putW_len, List.length_append]
  simp only [List.length_cons, List.length_nil]
  omega
theorem putRec_len (gen place : Int) (r : RecV) : (putRec gen place r).length ≤ 201 := by
  unfold putRec
  have := recBody_len gen place r
  split
  · rw [putW_len]; omega
  · exact Nat.zero_le _
theorem recNo1 {gen place : Int} {r : RecV} (h : r.ok = false) : putRec gen place r = [] := by
  have : recGood gen place r = false := by simp only [recGood, h, Bool.false_and]
  rw [putRec, this]; rfl
theorem recNo2 {gen place : Int} {r : RecV} (h : win gen 0 65535 = false) : putRec gen place r = [] := by
  have : recGood gen place r = false := by simp only [recGood, h, Bool.false_and, Bool.and_false]
  rw [putRec, this]; rfl
theorem recNo3 {gen place : Int} {r : RecV} (h : win place 0 65535 = false) : putRec gen place r = [] := by
  have : recGood gen place r = false := by simp only [recGood, h, Bool.and_false]
  rw [putRec, this]; rfl
theorem recYes {gen place : Int} {r : RecV} (h1 : r.ok = true) (h2 : win gen 0 65535 = true) (h3 : win place 0 65535 = true) : putRec gen place r = putW (recBody gen place r) (sum (recBody gen place r) : Nat) := by
  have : recGood gen place r = true := by simp only [recGood, h1, h2, h3, Bool.and_true]
  rw [putRec, if_pos this]
theorem other3 {k : Int} (h1 : ¬ k = 1) (h2 : ¬ k = 2) (h3 : ¬ k = 3) : (k == 1) = false ∧ (k == 2) = false ∧ (k == 3) = false := by
  simp only [beq_eq_false_iff_ne, ne_eq]
  omega
def x_i_PutRec : FnX := ⟨68, [.tmp 6],
  .q [.v 5 2, .op 6 (.mv (.k (.one (.nils 1))))]
 (.seq (.q [.L 8 13 5, .c 9 122 [8], .N 10 9, .m 11 10, ⟨(some (11, false)), some 12, 12, .mv (.t 0)⟩, ⟨(some (11, false)), some 13, 13, .call 123 [0] [(.t 12)]⟩, ⟨(some (11, false)), some 14, 14, .not (.t 13)⟩, .r 15 11 14, .m 16 15, ⟨(some (16, false)), some 17, 17, .mv (.t 1)⟩, ⟨(some (16, false)), some 18, 18, .call 123 [0] [(.t 17)]⟩, ⟨(some (16, false)), some 19, 19, .not (.t 18)⟩, .r 20 16 19]
 (.c 20 (.q [.op 6 (.mv (.k (.one (.nils 1))))]
 .ret)))
 (.seq (.draw [.m 21 0, .op 22 (.call 124 [0, 0] [(.k (.one (.nils 1))), (.t 21)]), .m 23 1, .c 24 124 [22, 23], .f 25 5 0, .l 26 25, .op 27 (.conv (.int .u8) (.t 26)), .op 28 (.bslice 1 [(.t 27)]), .op 29 (.app 1 1 (.t 24) (.t 28)), .m 7 29] [[], [0], [], [1, 2, 1], [], [4], [5], [6], [3, 7, 3], [8, 8, 0, 1, 2, 3, 4, 5, 6, 7, 8]])
 (.seq (.q [.f 30 5 0, .l 31 30]
 (.block 0 (.q [.B 33 .eql 31 1, .m 32 33]
 (.cond 32 (.reg [.m 34 7, .f 35 5 1, .L 36 7 35, .c 37 125 [34, 36], .m 7 37]) (.q [.B 39 .eql 31 2, .m 38 39]
 (.cond 38 (.reg [.m 40 7, .f 41 5 8, .l 42 41, .c 43 126 [40, 42], .m 7 43]) (.q [.B 45 .eql 31 3, .m 44 45]
 (.c 44 (.reg [.m 46 7, .f 47 5 9, .l 48 47, .op 49 (.conv (.int .u8) (.t 48)), .op 50 (.bslice 1 [(.t 49)]), .op 51 (.app 1 1 (.t 46) (.t 50)), .m 7 51])))))))))
 (.seq (.draw [.m 52 7, .f 53 5 10, .l 54 53, .op 55 (.conv (.int .u8) (.t 54)), .f 56 5 12, .l 57 56, .op 58 (.conv (.int .u8) (.t 57)), .op 59 (.bslice 1 [(.t 55), (.t 58)]), .op 60 (.app 1 1 (.t 52) (.t 59)), .f 61 5 11, .l 62 61, .c 63 124 [60, 62], .m 7 63] [[], [], [1], [2], [], [4], [5], [3, 6], [0, 7], [], [9], [8, 10, 8], [11, 11, 0, 1, 2, 3, 4, 5, 6, 7, 8, 9, 10, 11]])
 (.q [.m 64 7, .m 65 7, .c 66 127 [65], .c 67 124 [64, 66], .m 6 67]
 .ret)))))⟩
abbrev C_i_PutRec (Te : TE) : Prop := ∀ (gen place : Int) (r : RecV) (h : r.In (2 ^ 48)), Te 78 [.one (iT gen), .one (iT place), .agg (r.enc false)] ⟨[.one (slT true 1 uR (putRec gen place r))], [[iT gen], [iT place], r.enc false]⟩
theorem r_i_PutRec {Te : TE} (c_i_RecOk : C_i_RecOk Te) (c_i_isWord : C_i_isWord Te) (c_i_PutW : C_i_PutW Te) (c_i_PutRow : C_i_PutRow Te) (c_i_PutText : C_i_PutText Te) (c_i_Sum : C_i_Sum Te) : C_i_PutRec (RF Te x_i_PutRec) := by
  intro gen place r h
  refine run0 ?_
  have h1 := h.1
  have h2 := h.2
  simp -implicitDefEqProofs only [x_i_PutRec, go_sem]
  repeat (first | refine ⟨rfl, ?_⟩ | refine ⟨by decide, ?_⟩ | refine ⟨⟨by decide, by decide⟩, ?_⟩ | refine ⟨decide_eq_true (by omega), ?_⟩ | refine ⟨⟨decide_eq_true (by omega), decide_eq_true (by omega)⟩, ?_⟩)
  try (first | done | decide | exact decide_eq_true (by omega) | exact ⟨decide_eq_true (by omega), decide_eq_true (by omega)⟩)
  refine .of (c_i_RecOk r h) ?_
  try simp -implicitDefEqProofs only [go_sem]
  repeat (first | refine ⟨rfl, ?_⟩ | refine ⟨by decide, ?_⟩ | refine ⟨⟨by decide, by decide⟩, ?_⟩ | refine ⟨decide_eq_true (by omega), ?_⟩ | refine ⟨⟨decide_eq_true (by omega), decide_eq_true (by omega)⟩, ?_⟩)
  try (first | done | decide | exact decide_eq_true (by omega) | exact ⟨decide_eq_true (by omega), decide_eq_true (by omega)⟩)
  cases g1 : r.ok
  · have e := recNo1 (gen := gen) (place := place) g1
    try simp -implicitDefEqProofs only [go_sem, e]
    repeat (first | refine ⟨rfl, ?_⟩ | refine ⟨by decide, ?_⟩ | refine ⟨⟨by decide, by decide⟩, ?_⟩ | refine ⟨decide_eq_true (by omega), ?_⟩ | refine ⟨⟨decide_eq_true (by omega), decide_eq_true (by omega)⟩, ?_⟩)
    try (first | done | decide | exact decide_eq_true (by omega) | exact ⟨decide_eq_true (by omega), decide_eq_true (by omega)⟩)
    try rfl
  try simp -implicitDefEqProofs only [go_sem]
  repeat (first | refine ⟨rfl, ?_⟩ | refine ⟨by decide, ?_⟩ | refine ⟨⟨by decide, by decide⟩, ?_⟩ | refine ⟨decide_eq_true (by omega), ?_⟩ | refine ⟨⟨decide_eq_true (by omega), decide_eq_true (by omega)⟩, ?_⟩)
  try (first | done | decide | exact decide_eq_true (by omega) | exact ⟨decide_eq_true (by omega), decide_eq_true (by omega)⟩)
  refine .of (c_i_isWord _) ?_
  try simp -implicitDefEqProofs only [go_sem]
  repeat (first | refine ⟨rfl, ?_⟩ | refine ⟨by decide, ?_⟩ | refine ⟨⟨by decide, by decide⟩, ?_⟩ | refine ⟨decide_eq_true (by omega), ?_⟩ | refine ⟨⟨decide_eq_true (by omega), decide_eq_true (by omega)⟩, ?_⟩)
  try (first | done | decide | exact decide_eq_true (by omega) | exact ⟨decide_eq_true (by omega), decide_eq_true (by omega)⟩)
  cases g2 : win gen 0 65535
  · have e := recNo2 (place := place) (r := r) g2
    try simp -implicitDefEqProofs only [go_sem, e]
    repeat (first | refine ⟨rfl, ?_⟩ | refine ⟨by decide, ?_⟩ | refine ⟨⟨by decide, by decide⟩, ?_⟩ | refine ⟨decide_eq_true (by omega), ?_⟩ | refine ⟨⟨decide_eq_true (by omega), decide_eq_true (by omega)⟩, ?_⟩)
    try (first | done | decide | exact decide_eq_true (by omega) | exact ⟨decide_eq_true (by omega), decide_eq_true (by omega)⟩)
    try rfl
  try simp -implicitDefEqProofs only [go_sem]
  repeat (first | refine ⟨rfl, ?_⟩ | refine ⟨by decide, ?_⟩ | refine ⟨⟨by decide, by decide⟩, ?_⟩ | refine ⟨decide_eq_true (by omega), ?_⟩ | refine ⟨⟨decide_eq_true (by omega), decide_eq_true (by omega)⟩, ?_⟩)
  try (first | done | decide | exact decide_eq_true (by omega) | exact ⟨decide_eq_true (by omega), decide_eq_true (by omega)⟩)
  refine .of (c_i_isWord _) ?_
  try simp -implicitDefEqProofs only [go_sem]
  repeat (first | refine ⟨rfl, ?_⟩ | refine ⟨by decide, ?_⟩ | refine ⟨⟨by decide, by decide⟩, ?_⟩ | refine ⟨decide_eq_true (by omega), ?_⟩ | refine ⟨⟨decide_eq_true (by omega), decide_eq_true (by omega)⟩, ?_⟩)
  try (first | done | decide | exact decide_eq_true (by omega) | exact ⟨decide_eq_true (by omega), decide_eq_true (by omega)⟩)
  cases g3 : win place 0 65535
  · have e := recNo3 (gen := gen) (r := r) g3
    try simp -implicitDefEqProofs only [go_sem, e]
    repeat (first | refine ⟨rfl, ?_⟩ | refine ⟨by decide, ?_⟩ | refine ⟨⟨by decide, by decide⟩, ?_⟩ | refine ⟨decide_eq_true (by omega), ?_⟩ | refine ⟨⟨decide_eq_true (by omega), decide_eq_true (by omega)⟩, ?_⟩)
    try (first | done | decide | exact decide_eq_true (by omega) | exact ⟨decide_eq_true (by omega), decide_eq_true (by omega)⟩)
    try rfl
  try simp -implicitDefEqProofs only [go_sem]
  repeat (first | refine ⟨rfl, ?_⟩ | refine ⟨by decide, ?_⟩ | refine ⟨⟨by decide, by decide⟩, ?_⟩ | refine ⟨decide_eq_true (by omega), ?_⟩ | refine ⟨⟨decide_eq_true (by omega), decide_eq_true (by omega)⟩, ?_⟩)
  try (first | done | decide | exact decide_eq_true (by omega) | exact ⟨decide_eq_true (by omega), decide_eq_true (by omega)⟩)
  have ey := recYes g1 g2 g3
  have lw : (putW (putW [] gen) place).length = 4 := by rw [putW_len, putW_len]; rfl
  have t1 := c_i_PutW [] gen (by show 0 ≤ 2 ^ 30; decide)
  refine .of (t1) ?_
  try simp -implicitDefEqProofs only [go_sem]
  repeat (first | refine ⟨rfl, ?_⟩ | refine ⟨by decide, ?_⟩ | refine ⟨⟨by decide, by decide⟩, ?_⟩ | refine ⟨decide_eq_true (by omega), ?_⟩ | refine ⟨⟨decide_eq_true (by omega), decide_eq_true (by omega)⟩, ?_⟩)
  try (first | done | decide | exact decide_eq_true (by omega) | exact ⟨decide_eq_true (by omega), decide_eq_true (by omega)⟩)
  refine .of (c_i_PutW (putW [] gen) place (by rw [putW_len]; show 0 + 2 ≤ 2 ^ 30; decide)) ?_
  try simp -implicitDefEqProofs only [go_sem, mkU_wrap, app1B, take1B]
  repeat (first | refine ⟨rfl, ?_⟩ | refine ⟨by decide, ?_⟩ | refine ⟨⟨by decide, by decide⟩, ?_⟩ | refine ⟨decide_eq_true (by omega), ?_⟩ | refine ⟨⟨decide_eq_true (by omega), decide_eq_true (by omega)⟩, ?_⟩)
  try (first | done | decide | exact decide_eq_true (by omega) | exact ⟨decide_eq_true (by omega), decide_eq_true (by omega)⟩)
  have e1 : putW (putW [] gen) place ++ [mkU r.Kind] = recHead gen place r := rfl
  have e2 : (putW (putW [] gen) place).length + 1 = (recHead gen place r).length := by rw [recHead, List.length_append]; rfl
  simp only [e1, e2]
  have l0 := recHead_len gen place r
  generalize eH : recHead gen place r = H at l0 ⊢
  by_cases q1 : r.Kind = 1
  · have k1 : (r.Kind == 1) = true := by rw [q1]; rfl
    try simp -implicitDefEqProofs only [go_sem, k1]
    repeat (first | refine ⟨rfl, ?_⟩ | refine ⟨by decide, ?_⟩ | refine ⟨⟨by decide, by decide⟩, ?_⟩ | refine ⟨decide_eq_true (by omega), ?_⟩ | refine ⟨⟨decide_eq_true (by omega), decide_eq_true (by omega)⟩, ?_⟩)
    try (first | done | decide | exact decide_eq_true (by omega) | exact ⟨decide_eq_true (by omega), decide_eq_true (by omega)⟩)
    refine .of (c_i_PutRow H r.R (by omega) h1) ?_
    try simp -implicitDefEqProofs only [go_sem]
    repeat (first | refine ⟨rfl, ?_⟩ | refine ⟨by decide, ?_⟩ | refine ⟨⟨by decide, by decide⟩, ?_⟩ | refine ⟨decide_eq_true (by omega), ?_⟩ | refine ⟨⟨decide_eq_true (by omega), decide_eq_true (by omega)⟩, ?_⟩)
    try (first | done | decide | exact decide_eq_true (by omega) | exact ⟨decide_eq_true (by omega), decide_eq_true (by omega)⟩)
    have e3 : putRow H r.R = recKind H r := (if_pos q1).symm
    have l3 := recKind_len H r
    try simp -implicitDefEqProofs only [go_sem, e3, mkU_wrap, app2B, take2B]
    repeat (first | refine ⟨rfl, ?_⟩ | refine ⟨by decide, ?_⟩ | refine ⟨⟨by decide, by decide⟩, ?_⟩ | refine ⟨decide_eq_true (by omega), ?_⟩ | refine ⟨⟨decide_eq_true (by omega), decide_eq_true (by omega)⟩, ?_⟩)
    try (first | done | decide | exact decide_eq_true (by omega) | exact ⟨decide_eq_true (by omega), decide_eq_true (by omega)⟩)
    have tt := c_i_PutW (recKind H r ++ [mkU r.Who, mkU r.Code]) r.Seq (by rw [List.length_append]; simp only [List.length_cons, List.length_nil]; omega)
    have e4 : putW (recKind H r ++ [mkU r.Who, mkU r.Code]) r.Seq = recBody gen place r := by rw [recBody, eH]
    rw [e4] at tt
    refine .of (tt) ?_
    try simp -implicitDefEqProofs only [go_sem]
    repeat (first | refine ⟨rfl, ?_⟩ | refine ⟨by decide, ?_⟩ | refine ⟨⟨by decide, by decide⟩, ?_⟩ | refine ⟨decide_eq_true (by omega), ?_⟩ | refine ⟨⟨decide_eq_true (by omega), decide_eq_true (by omega)⟩, ?_⟩)
    try (first | done | decide | exact decide_eq_true (by omega) | exact ⟨decide_eq_true (by omega), decide_eq_true (by omega)⟩)
    have l4 := recBody_len gen place r
    refine .of (c_i_Sum (recBody gen place r) (by omega)) ?_
    try simp -implicitDefEqProofs only [go_sem]
    repeat (first | refine ⟨rfl, ?_⟩ | refine ⟨by decide, ?_⟩ | refine ⟨⟨by decide, by decide⟩, ?_⟩ | refine ⟨decide_eq_true (by omega), ?_⟩ | refine ⟨⟨decide_eq_true (by omega), decide_eq_true (by omega)⟩, ?_⟩)
    try (first | done | decide | exact decide_eq_true (by omega) | exact ⟨decide_eq_true (by omega), decide_eq_true (by omega)⟩)
    refine .of (c_i_PutW (recBody gen place r) _ (by omega)) ?_
    try simp -implicitDefEqProofs only [go_sem, ey]
    repeat (first | refine ⟨rfl, ?_⟩ | refine ⟨by decide, ?_⟩ | refine ⟨⟨by decide, by decide⟩, ?_⟩ | refine ⟨decide_eq_true (by omega), ?_⟩ | refine ⟨⟨decide_eq_true (by omega), decide_eq_true (by omega)⟩, ?_⟩)
    try (first | done | decide | exact decide_eq_true (by omega) | exact ⟨decide_eq_true (by omega), decide_eq_true (by omega)⟩)
  by_cases q2 : r.Kind = 2
  · have k1 : (r.Kind == 1) = false := by rw [q2]; rfl
    have k2 : (r.Kind == 2) = true := by rw [q2]; rfl
    try simp -implicitDefEqProofs only [go_sem, k1, k2]
    repeat (first | refine ⟨rfl, ?_⟩ | refine ⟨by decide, ?_⟩ | refine ⟨⟨by decide, by decide⟩, ?_⟩ | refine ⟨decide_eq_true (by omega), ?_⟩ | refine ⟨⟨decide_eq_true (by omega), decide_eq_true (by omega)⟩, ?_⟩)
    try (first | done | decide | exact decide_eq_true (by omega) | exact ⟨decide_eq_true (by omega), decide_eq_true (by omega)⟩)
    refine .of (c_i_PutText H r.Key (by omega) h2) ?_
    try simp -implicitDefEqProofs only [go_sem]
    repeat (first | refine ⟨rfl, ?_⟩ | refine ⟨by decide, ?_⟩ | refine ⟨⟨by decide, by decide⟩, ?_⟩ | refine ⟨decide_eq_true (by omega), ?_⟩ | refine ⟨⟨decide_eq_true (by omega), decide_eq_true (by omega)⟩, ?_⟩)
    try (first | done | decide | exact decide_eq_true (by omega) | exact ⟨decide_eq_true (by omega), decide_eq_true (by omega)⟩)
    have e3 : putText H r.Key = recKind H r := by rw [recKind, if_neg q1, if_pos q2]
    have l3 := recKind_len H r
    try simp -implicitDefEqProofs only [go_sem, e3, mkU_wrap, app2B, take2B]
    repeat (first | refine ⟨rfl, ?_⟩ | refine ⟨by decide, ?_⟩ | refine ⟨⟨by decide, by decide⟩, ?_⟩ | refine ⟨decide_eq_true (by omega), ?_⟩ | refine ⟨⟨decide_eq_true (by omega), decide_eq_true (by omega)⟩, ?_⟩)
    try (first | done | decide | exact decide_eq_true (by omega) | exact ⟨decide_eq_true (by omega), decide_eq_true (by omega)⟩)
    have tt := c_i_PutW (recKind H r ++ [mkU r.Who, mkU r.Code]) r.Seq (by rw [List.length_append]; simp only [List.length_cons, List.length_nil]; omega)
    have e4 : putW (recKind H r ++ [mkU r.Who, mkU r.Code]) r.Seq = recBody gen place r := by rw [recBody, eH]
    rw [e4] at tt
    refine .of (tt) ?_
    try simp -implicitDefEqProofs only [go_sem]
    repeat (first | refine ⟨rfl, ?_⟩ | refine ⟨by decide, ?_⟩ | refine ⟨⟨by decide, by decide⟩, ?_⟩ | refine ⟨decide_eq_true (by omega), ?_⟩ | refine ⟨⟨decide_eq_true (by omega), decide_eq_true (by omega)⟩, ?_⟩)
    try (first | done | decide | exact decide_eq_true (by omega) | exact ⟨decide_eq_true (by omega), decide_eq_true (by omega)⟩)
    have l4 := recBody_len gen place r
    refine .of (c_i_Sum (recBody gen place r) (by omega)) ?_
    try simp -implicitDefEqProofs only [go_sem]
    repeat (first | refine ⟨rfl, ?_⟩ | refine ⟨by decide, ?_⟩ | refine ⟨⟨by decide, by decide⟩, ?_⟩ | refine ⟨decide_eq_true (by omega), ?_⟩ | refine ⟨⟨decide_eq_true (by omega), decide_eq_true (by omega)⟩, ?_⟩)
    try (first | done | decide | exact decide_eq_true (by omega) | exact ⟨decide_eq_true (by omega), decide_eq_true (by omega)⟩)
    refine .of (c_i_PutW (recBody gen place r) _ (by omega)) ?_
    try simp -implicitDefEqProofs only [go_sem, ey]
    repeat (first | refine ⟨rfl, ?_⟩ | refine ⟨by decide, ?_⟩ | refine ⟨⟨by decide, by decide⟩, ?_⟩ | refine ⟨decide_eq_true (by omega), ?_⟩ | refine ⟨⟨decide_eq_true (by omega), decide_eq_true (by omega)⟩, ?_⟩)
    try (first | done | decide | exact decide_eq_true (by omega) | exact ⟨decide_eq_true (by omega), decide_eq_true (by omega)⟩)
  by_cases q3 : r.Kind = 3
  · have k1 : (r.Kind == 1) = false := by rw [q3]; rfl
    have k2 : (r.Kind == 2) = false := by rw [q3]; rfl
    have k3 : (r.Kind == 3) = true := by rw [q3]; rfl
    have e3 : H ++ [mkU r.N] = recKind H r := by rw [recKind, if_neg q1, if_neg q2, if_pos q3]
    have e5 : H.length + 1 = (recKind H r).length := by rw [← e3, List.length_append]; rfl
    have l3 := recKind_len H r
    try simp -implicitDefEqProofs only [go_sem, k1, k2, k3, mkU_wrap, app1B, e3, e5, take_rows]
    repeat (first | refine ⟨rfl, ?_⟩ | refine ⟨by decide, ?_⟩ | refine ⟨⟨by decide, by decide⟩, ?_⟩ | refine ⟨decide_eq_true (by omega), ?_⟩ | refine ⟨⟨decide_eq_true (by omega), decide_eq_true (by omega)⟩, ?_⟩)
    try (first | done | decide | exact decide_eq_true (by omega) | exact ⟨decide_eq_true (by omega), decide_eq_true (by omega)⟩)
    try simp -implicitDefEqProofs only [go_sem, e3, mkU_wrap, app2B, take2B]
    repeat (first | refine ⟨rfl, ?_⟩ | refine ⟨by decide, ?_⟩ | refine ⟨⟨by decide, by decide⟩, ?_⟩ | refine ⟨decide_eq_true (by omega), ?_⟩ | refine ⟨⟨decide_eq_true (by omega), decide_eq_true (by omega)⟩, ?_⟩)
    try (first | done | decide | exact decide_eq_true (by omega) | exact ⟨decide_eq_true (by omega), decide_eq_true (by omega)⟩)
    have tt := c_i_PutW (recKind H r ++ [mkU r.Who, mkU r.Code]) r.Seq (by rw [List.length_append]; simp only [List.length_cons, List.length_nil]; omega)
    have e4 : putW (recKind H r ++ [mkU r.Who, mkU r.Code]) r.Seq = recBody gen place r := by rw [recBody, eH]
    rw [e4] at tt
    refine .of (tt) ?_
    try simp -implicitDefEqProofs only [go_sem]
    repeat (first | refine ⟨rfl, ?_⟩ | refine ⟨by decide, ?_⟩ | refine ⟨⟨by decide, by decide⟩, ?_⟩ | refine ⟨decide_eq_true (by omega), ?_⟩ | refine ⟨⟨decide_eq_true (by omega), decide_eq_true (by omega)⟩, ?_⟩)
    try (first | done | decide | exact decide_eq_true (by omega) | exact ⟨decide_eq_true (by omega), decide_eq_true (by omega)⟩)
    have l4 := recBody_len gen place r
    refine .of (c_i_Sum (recBody gen place r) (by omega)) ?_
    try simp -implicitDefEqProofs only [go_sem]
    repeat (first | refine ⟨rfl, ?_⟩ | refine ⟨by decide, ?_⟩ | refine ⟨⟨by decide, by decide⟩, ?_⟩ | refine ⟨decide_eq_true (by omega), ?_⟩ | refine ⟨⟨decide_eq_true (by omega), decide_eq_true (by omega)⟩, ?_⟩)
    try (first | done | decide | exact decide_eq_true (by omega) | exact ⟨decide_eq_true (by omega), decide_eq_true (by omega)⟩)
    refine .of (c_i_PutW (recBody gen place r) _ (by omega)) ?_
    try simp -implicitDefEqProofs only [go_sem, ey]
    repeat (first | refine ⟨rfl, ?_⟩ | refine ⟨by decide, ?_⟩ | refine ⟨⟨by decide, by decide⟩, ?_⟩ | refine ⟨decide_eq_true (by omega), ?_⟩ | refine ⟨⟨decide_eq_true (by omega), decide_eq_true (by omega)⟩, ?_⟩)
    try (first | done | decide | exact decide_eq_true (by omega) | exact ⟨decide_eq_true (by omega), decide_eq_true (by omega)⟩)
  obtain ⟨k1, k2, k3⟩ := other3 q1 q2 q3
  try simp -implicitDefEqProofs only [go_sem, k1, k2, k3]
  repeat (first | refine ⟨rfl, ?_⟩ | refine ⟨by decide, ?_⟩ | refine ⟨⟨by decide, by decide⟩, ?_⟩ | refine ⟨decide_eq_true (by omega), ?_⟩ | refine ⟨⟨decide_eq_true (by omega), decide_eq_true (by omega)⟩, ?_⟩)
  try (first | done | decide | exact decide_eq_true (by omega) | exact ⟨decide_eq_true (by omega), decide_eq_true (by omega)⟩)
  have e3 : recKind H r = H := by rw [recKind, if_neg q1, if_neg q2, if_neg q3]
  try simp -implicitDefEqProofs only [go_sem, mkU_wrap, app2B, take2B]
  repeat (first | refine ⟨rfl, ?_⟩ | refine ⟨by decide, ?_⟩ | refine ⟨⟨by decide, by decide⟩, ?_⟩ | refine ⟨decide_eq_true (by omega), ?_⟩ | refine ⟨⟨decide_eq_true (by omega), decide_eq_true (by omega)⟩, ?_⟩)
  try (first | done | decide | exact decide_eq_true (by omega) | exact ⟨decide_eq_true (by omega), decide_eq_true (by omega)⟩)
  have tt := c_i_PutW (H ++ [mkU r.Who, mkU r.Code]) r.Seq (by rw [List.length_append]; simp only [List.length_cons, List.length_nil]; omega)
  have e4 : putW (H ++ [mkU r.Who, mkU r.Code]) r.Seq = recBody gen place r := by rw [recBody, eH, e3]
  rw [e4] at tt
  refine .of (tt) ?_
  try simp -implicitDefEqProofs only [go_sem]
  repeat (first | refine ⟨rfl, ?_⟩ | refine ⟨by decide, ?_⟩ | refine ⟨⟨by decide, by decide⟩, ?_⟩ | refine ⟨decide_eq_true (by omega), ?_⟩ | refine ⟨⟨decide_eq_true (by omega), decide_eq_true (by omega)⟩, ?_⟩)
  try (first | done | decide | exact decide_eq_true (by omega) | exact ⟨decide_eq_true (by omega), decide_eq_true (by omega)⟩)
  have l4 := recBody_len gen place r
  refine .of (c_i_Sum (recBody gen place r) (by omega)) ?_
  try simp -implicitDefEqProofs only [go_sem]
  repeat (first | refine ⟨rfl, ?_⟩ | refine ⟨by decide, ?_⟩ | refine ⟨⟨by decide, by decide⟩, ?_⟩ | refine ⟨decide_eq_true (by omega), ?_⟩ | refine ⟨⟨decide_eq_true (by omega), decide_eq_true (by omega)⟩, ?_⟩)
  try (first | done | decide | exact decide_eq_true (by omega) | exact ⟨decide_eq_true (by omega), decide_eq_true (by omega)⟩)
  refine .of (c_i_PutW (recBody gen place r) _ (by omega)) ?_
  try simp -implicitDefEqProofs only [go_sem, ey]
  repeat (first | refine ⟨rfl, ?_⟩ | refine ⟨by decide, ?_⟩ | refine ⟨⟨by decide, by decide⟩, ?_⟩ | refine ⟨decide_eq_true (by omega), ?_⟩ | refine ⟨⟨decide_eq_true (by omega), decide_eq_true (by omega)⟩, ?_⟩)
  try (first | done | decide | exact decide_eq_true (by omega) | exact ⟨decide_eq_true (by omega), decide_eq_true (by omega)⟩)
def x_s_PutRec : FnX := ⟨70, [.tmp 6],
  .q [.v 5 2, .op 6 (.mv (.k (.one (.nils 1))))]
 (.seq (.q [.L 8 13 5, .c 9 112 [8], .N 10 9, .m 11 10, ⟨(some (11, false)), some 12, 12, .mv (.t 0)⟩, ⟨(some (11, false)), some 13, 13, .call 113 [0] [(.t 12)]⟩, ⟨(some (11, false)), some 14, 14, .not (.t 13)⟩, .r 15 11 14, .m 16 15, ⟨(some (16, false)), some 17, 17, .mv (.t 1)⟩, ⟨(some (16, false)), some 18, 18, .call 113 [0] [(.t 17)]⟩, ⟨(some (16, false)), some 19, 19, .not (.t 18)⟩, .r 20 16 19]
 (.c 20 (.q [.op 21 (.bslice 1 []), .m 6 21]
 .ret)))
 (.seq (.draw [.op 22 (.bslice 1 []), .m 23 0, .c 24 114 [22, 23], .m 25 1, .c 26 114 [24, 25], .f 27 5 0, .l 28 27, .op 29 (.conv (.int .u8) (.t 28)), .op 30 (.bslice 1 [(.t 29)]), .op 31 (.app 1 1 (.t 26) (.t 30)), .m 7 31] [[], [], [0, 1], [], [2, 3, 2], [], [5], [6], [7], [4, 8, 4], [9, 9, 0, 1, 2, 3, 4, 5, 6, 7, 8, 9]])
 (.seq (.q [.f 32 5 0, .l 33 32]
 (.block 0 (.q [.B 35 .eql 33 1, .m 34 35]
 (.cond 34 (.reg [.m 36 7, .f 37 5 1, .L 38 7 37, .c 39 115 [36, 38], .m 7 39]) (.q [.B 41 .eql 33 2, .m 40 41]
 (.cond 40 (.reg [.m 42 7, .f 43 5 8, .l 44 43, .c 45 116 [42, 44], .m 7 45]) (.q [.B 47 .eql 33 3, .m 46 47]
 (.c 46 (.reg [.m 48 7, .f 49 5 9, .l 50 49, .op 51 (.conv (.int .u8) (.t 50)), .op 52 (.bslice 1 [(.t 51)]), .op 53 (.app 1 1 (.t 48) (.t 52)), .m 7 53])))))))))
 (.seq (.draw [.m 54 7, .f 55 5 10, .l 56 55, .op 57 (.conv (.int .u8) (.t 56)), .f 58 5 12, .l 59 58, .op 60 (.conv (.int .u8) (.t 59)), .op 61 (.bslice 1 [(.t 57), (.t 60)]), .op 62 (.app 1 1 (.t 54) (.t 61)), .f 63 5 11, .l 64 63, .c 65 114 [62, 64], .m 7 65] [[], [], [1], [2], [], [4], [5], [3, 6], [0, 7], [], [9], [8, 10, 8], [11, 11, 0, 1, 2, 3, 4, 5, 6, 7, 8, 9, 10, 11]])
 (.q [.m 66 7, .m 67 7, .c 68 117 [67], .c 69 114 [66, 68], .m 6 69]
 .ret)))))⟩
abbrev C_s_PutRec (Te : TE) : Prop := ∀ (gen place : Int) (r : RecV) (h : r.In (2 ^ 48)), Te 72 [.one (iT gen), .one (iT place), .agg (r.enc false)] ⟨[.one (slT true 1 uR (putRec gen place r))], [[iT gen], [iT place], r.enc false]⟩
theorem r_s_PutRec {Te : TE} (c_s_RecOk : C_s_RecOk Te) (c_s_l1Word : C_s_l1Word Te) (c_s_PutW : C_s_PutW Te) (c_s_PutRow : C_s_PutRow Te) (c_s_PutText : C_s_PutText Te) (c_s_Sum : C_s_Sum Te) : C_s_PutRec (RF Te x_s_PutRec) := by
  intro gen place r h
  refine run0 ?_
  have h1 := h.1
  have h2 := h.2
  simp -implicitDefEqProofs only [x_s_PutRec, go_sem]
  repeat (first | refine ⟨rfl, ?_⟩ | refine ⟨by decide, ?_⟩ | refine ⟨⟨by decide, by decide⟩, ?_⟩ | refine ⟨decide_eq_true (by omega), ?_⟩ | refine ⟨⟨decide_eq_true (by omega), decide_eq_true (by omega)⟩, ?_⟩)
  try (first | done | decide | exact decide_eq_true (by omega) | exact ⟨decide_eq_true (by omega), decide_eq_true (by omega)⟩)
  refine .of (c_s_RecOk r h) ?_
  try simp -implicitDefEqProofs only [go_sem]
  repeat (first | refine ⟨rfl, ?_⟩ | refine ⟨by decide, ?_⟩ | refine ⟨⟨by decide, by decide⟩, ?_⟩ | refine ⟨decide_eq_true (by omega), ?_⟩ | refine ⟨⟨decide_eq_true (by omega), decide_eq_true (by omega)⟩, ?_⟩)
  try (first | done | decide | exact decide_eq_true (by omega) | exact ⟨decide_eq_true (by omega), decide_eq_true (by omega)⟩)
  cases g1 : r.ok
  · have e := recNo1 (gen := gen) (place := place) g1
    try simp -implicitDefEqProofs only [go_sem, e]
    repeat (first | refine ⟨rfl, ?_⟩ | refine ⟨by decide, ?_⟩ | refine ⟨⟨by decide, by decide⟩, ?_⟩ | refine ⟨decide_eq_true (by omega), ?_⟩ | refine ⟨⟨decide_eq_true (by omega), decide_eq_true (by omega)⟩, ?_⟩)
    try (first | done | decide | exact decide_eq_true (by omega) | exact ⟨decide_eq_true (by omega), decide_eq_true (by omega)⟩)
    try rfl
  try simp -implicitDefEqProofs only [go_sem]
  repeat (first | refine ⟨rfl, ?_⟩ | refine ⟨by decide, ?_⟩ | refine ⟨⟨by decide, by decide⟩, ?_⟩ | refine ⟨decide_eq_true (by omega), ?_⟩ | refine ⟨⟨decide_eq_true (by omega), decide_eq_true (by omega)⟩, ?_⟩)
  try (first | done | decide | exact decide_eq_true (by omega) | exact ⟨decide_eq_true (by omega), decide_eq_true (by omega)⟩)
  refine .of (c_s_l1Word _) ?_
  try simp -implicitDefEqProofs only [go_sem]
  repeat (first | refine ⟨rfl, ?_⟩ | refine ⟨by decide, ?_⟩ | refine ⟨⟨by decide, by decide⟩, ?_⟩ | refine ⟨decide_eq_true (by omega), ?_⟩ | refine ⟨⟨decide_eq_true (by omega), decide_eq_true (by omega)⟩, ?_⟩)
  try (first | done | decide | exact decide_eq_true (by omega) | exact ⟨decide_eq_true (by omega), decide_eq_true (by omega)⟩)
  cases g2 : win gen 0 65535
  · have e := recNo2 (place := place) (r := r) g2
    try simp -implicitDefEqProofs only [go_sem, e]
    repeat (first | refine ⟨rfl, ?_⟩ | refine ⟨by decide, ?_⟩ | refine ⟨⟨by decide, by decide⟩, ?_⟩ | refine ⟨decide_eq_true (by omega), ?_⟩ | refine ⟨⟨decide_eq_true (by omega), decide_eq_true (by omega)⟩, ?_⟩)
    try (first | done | decide | exact decide_eq_true (by omega) | exact ⟨decide_eq_true (by omega), decide_eq_true (by omega)⟩)
    try rfl
  try simp -implicitDefEqProofs only [go_sem]
  repeat (first | refine ⟨rfl, ?_⟩ | refine ⟨by decide, ?_⟩ | refine ⟨⟨by decide, by decide⟩, ?_⟩ | refine ⟨decide_eq_true (by omega), ?_⟩ | refine ⟨⟨decide_eq_true (by omega), decide_eq_true (by omega)⟩, ?_⟩)
  try (first | done | decide | exact decide_eq_true (by omega) | exact ⟨decide_eq_true (by omega), decide_eq_true (by omega)⟩)
  refine .of (c_s_l1Word _) ?_
  try simp -implicitDefEqProofs only [go_sem]
  repeat (first | refine ⟨rfl, ?_⟩ | refine ⟨by decide, ?_⟩ | refine ⟨⟨by decide, by decide⟩, ?_⟩ | refine ⟨decide_eq_true (by omega), ?_⟩ | refine ⟨⟨decide_eq_true (by omega), decide_eq_true (by omega)⟩, ?_⟩)
  try (first | done | decide | exact decide_eq_true (by omega) | exact ⟨decide_eq_true (by omega), decide_eq_true (by omega)⟩)
  cases g3 : win place 0 65535
  · have e := recNo3 (gen := gen) (r := r) g3
    try simp -implicitDefEqProofs only [go_sem, e]
    repeat (first | refine ⟨rfl, ?_⟩ | refine ⟨by decide, ?_⟩ | refine ⟨⟨by decide, by decide⟩, ?_⟩ | refine ⟨decide_eq_true (by omega), ?_⟩ | refine ⟨⟨decide_eq_true (by omega), decide_eq_true (by omega)⟩, ?_⟩)
    try (first | done | decide | exact decide_eq_true (by omega) | exact ⟨decide_eq_true (by omega), decide_eq_true (by omega)⟩)
    try rfl
  try simp -implicitDefEqProofs only [go_sem]
  repeat (first | refine ⟨rfl, ?_⟩ | refine ⟨by decide, ?_⟩ | refine ⟨⟨by decide, by decide⟩, ?_⟩ | refine ⟨decide_eq_true (by omega), ?_⟩ | refine ⟨⟨decide_eq_true (by omega), decide_eq_true (by omega)⟩, ?_⟩)
  try (first | done | decide | exact decide_eq_true (by omega) | exact ⟨decide_eq_true (by omega), decide_eq_true (by omega)⟩)
  have ey := recYes g1 g2 g3
  have lw : (putW (putW [] gen) place).length = 4 := by rw [putW_len, putW_len]; rfl
  have t1 := c_s_PutW [] gen (by show 0 ≤ 2 ^ 30; decide)
  refine .of (t1) ?_
  try simp -implicitDefEqProofs only [go_sem]
  repeat (first | refine ⟨rfl, ?_⟩ | refine ⟨by decide, ?_⟩ | refine ⟨⟨by decide, by decide⟩, ?_⟩ | refine ⟨decide_eq_true (by omega), ?_⟩ | refine ⟨⟨decide_eq_true (by omega), decide_eq_true (by omega)⟩, ?_⟩)
  try (first | done | decide | exact decide_eq_true (by omega) | exact ⟨decide_eq_true (by omega), decide_eq_true (by omega)⟩)
  refine .of (c_s_PutW (putW [] gen) place (by rw [putW_len]; show 0 + 2 ≤ 2 ^ 30; decide)) ?_
  try simp -implicitDefEqProofs only [go_sem, mkU_wrap, app1B, take1B]
  repeat (first | refine ⟨rfl, ?_⟩ | refine ⟨by decide, ?_⟩ | refine ⟨⟨by decide, by decide⟩, ?_⟩ | refine ⟨decide_eq_true (by omega), ?_⟩ | refine ⟨⟨decide_eq_true (by omega), decide_eq_true (by omega)⟩, ?_⟩)
  try (first | done | decide | exact decide_eq_true (by omega) | exact ⟨decide_eq_true (by omega), decide_eq_true (by omega)⟩)
  have e1 : putW (putW [] gen) place ++ [mkU r.Kind] = recHead gen place r := rfl
  have e2 : (putW (putW [] gen) place).length + 1 = (recHead gen place r).length := by rw [recHead, List.length_append]; rfl
  simp only [e1, e2]
  have l0 := recHead_len gen place r
  generalize eH : recHead gen place r = H at l0 ⊢
  by_cases q1 : r.Kind = 1
  · have k1 : (r.Kind == 1) = true := by rw [q1]; rfl
    try simp -implicitDefEqProofs only [go_sem, k1]
    repeat (first | refine ⟨rfl, ?_⟩ | refine ⟨by decide, ?_⟩ | refine ⟨⟨by decide, by decide⟩, ?_⟩ | refine ⟨decide_eq_true (by omega), ?_⟩ | refine ⟨⟨decide_eq_true (by omega), decide_eq_true (by omega)⟩, ?_⟩)
    try (first | done | decide | exact decide_eq_true (by omega) | exact ⟨decide_eq_true (by omega), decide_eq_true (by omega)⟩)
    refine .of (c_s_PutRow H r.R (by omega) h1) ?_
    try simp -implicitDefEqProofs only [go_sem]
    repeat (first | refine ⟨rfl, ?_⟩ | refine ⟨by decide, ?_⟩ | refine ⟨⟨by decide, by decide⟩, ?_⟩ | refine ⟨decide_eq_true (by omega), ?_⟩ | refine ⟨⟨decide_eq_true (by omega), decide_eq_true (by omega)⟩, ?_⟩)
    try (first | done | decide | exact decide_eq_true (by omega) | exact ⟨decide_eq_true (by omega), decide_eq_true (by omega)⟩)
    have e3 : putRow H r.R = recKind H r := (if_pos q1).symm
    have l3 := recKind_len H r
    try simp -implicitDefEqProofs only [go_sem, e3, mkU_wrap, app2B, take2B]
    repeat (first | refine ⟨rfl, ?_⟩ | refine ⟨by decide, ?_⟩ | refine ⟨⟨by decide, by decide⟩, ?_⟩ | refine ⟨decide_eq_true (by omega), ?_⟩ | refine ⟨⟨decide_eq_true (by omega), decide_eq_true (by omega)⟩, ?_⟩)
    try (first | done | decide | exact decide_eq_true (by omega) | exact ⟨decide_eq_true (by omega), decide_eq_true (by omega)⟩)
    have tt := c_s_PutW (recKind H r ++ [mkU r.Who, mkU r.Code]) r.Seq (by rw [List.length_append]; simp only [List.length_cons, List.length_nil]; omega)
    have e4 : putW (recKind H r ++ [mkU r.Who, mkU r.Code]) r.Seq = recBody gen place r := by rw [recBody, eH]
    rw [e4] at tt
    refine .of (tt) ?_
    try simp -implicitDefEqProofs only [go_sem]
    repeat (first | refine ⟨rfl, ?_⟩ | refine ⟨by decide, ?_⟩ | refine ⟨⟨by decide, by decide⟩, ?_⟩ | refine ⟨decide_eq_true (by omega), ?_⟩ | refine ⟨⟨decide_eq_true (by omega), decide_eq_true (by omega)⟩, ?_⟩)
    try (first | done | decide | exact decide_eq_true (by omega) | exact ⟨decide_eq_true (by omega), decide_eq_true (by omega)⟩)
    have l4 := recBody_len gen place r
    refine .of (c_s_Sum (recBody gen place r) (by omega)) ?_
    try simp -implicitDefEqProofs only [go_sem]
    repeat (first | refine ⟨rfl, ?_⟩ | refine ⟨by decide, ?_⟩ | refine ⟨⟨by decide, by decide⟩, ?_⟩ | refine ⟨decide_eq_true (by omega), ?_⟩ | refine ⟨⟨decide_eq_true (by omega), decide_eq_true (by omega)⟩, ?_⟩)
    try (first | done | decide | exact decide_eq_true (by omega) | exact ⟨decide_eq_true (by omega), decide_eq_true (by omega)⟩)
    refine .of (c_s_PutW (recBody gen place r) _ (by omega)) ?_
    try simp -implicitDefEqProofs only [go_sem, ey]
    repeat (first | refine ⟨rfl, ?_⟩ | refine ⟨by decide, ?_⟩ | refine ⟨⟨by decide, by decide⟩, ?_⟩ | refine ⟨decide_eq_true (by omega), ?_⟩ | refine ⟨⟨decide_eq_true (by omega), decide_eq_true (by omega)⟩, ?_⟩)
    try (first | done | decide | exact decide_eq_true (by omega) | exact ⟨decide_eq_true (by omega), decide_eq_true (by omega)⟩)
  by_cases q2 : r.Kind = 2
  · have k1 : (r.Kind == 1) = false := by rw [q2]; rfl
    have k2 : (r.Kind == 2) = true := by rw [q2]; rfl
    try simp -implicitDefEqProofs only [go_sem, k1, k2]
    repeat (first | refine ⟨rfl, ?_⟩ | refine ⟨by decide, ?_⟩ | refine ⟨⟨by decide, by decide⟩, ?_⟩ | refine ⟨decide_eq_true (by omega), ?_⟩ | refine ⟨⟨decide_eq_true (by omega), decide_eq_true (by omega)⟩, ?_⟩)
    try (first | done | decide | exact decide_eq_true (by omega) | exact ⟨decide_eq_true (by omega), decide_eq_true (by omega)⟩)
    refine .of (c_s_PutText H r.Key (by omega) h2) ?_
    try simp -implicitDefEqProofs only [go_sem]
    repeat (first | refine ⟨rfl, ?_⟩ | refine ⟨by decide, ?_⟩ | refine ⟨⟨by decide, by decide⟩, ?_⟩ | refine ⟨decide_eq_true (by omega), ?_⟩ | refine ⟨⟨decide_eq_true (by omega), decide_eq_true (by omega)⟩, ?_⟩)
    try (first | done | decide | exact decide_eq_true (by omega) | exact ⟨decide_eq_true (by omega), decide_eq_true (by omega)⟩)
    have e3 : putText H r.Key = recKind H r := by rw [recKind, if_neg q1, if_pos q2]
    have l3 := recKind_len H r
    try simp -implicitDefEqProofs only [go_sem, e3, mkU_wrap, app2B, take2B]
    repeat (first | refine ⟨rfl, ?_⟩ | refine ⟨by decide, ?_⟩ | refine ⟨⟨by decide, by decide⟩, ?_⟩ | refine ⟨decide_eq_true (by omega), ?_⟩ | refine ⟨⟨decide_eq_true (by omega), decide_eq_true (by omega)⟩, ?_⟩)
    try (first | done | decide | exact decide_eq_true (by omega) | exact ⟨decide_eq_true (by omega), decide_eq_true (by omega)⟩)
    have tt := c_s_PutW (recKind H r ++ [mkU r.Who, mkU r.Code]) r.Seq (by rw [List.length_append]; simp only [List.length_cons, List.length_nil]; omega)
    have e4 : putW (recKind H r ++ [mkU r.Who, mkU r.Code]) r.Seq = recBody gen place r := by rw [recBody, eH]
    rw [e4] at tt
    refine .of (tt) ?_
    try simp -implicitDefEqProofs only [go_sem]
    repeat (first | refine ⟨rfl, ?_⟩ | refine ⟨by decide, ?_⟩ | refine ⟨⟨by decide, by decide⟩, ?_⟩ | refine ⟨decide_eq_true (by omega), ?_⟩ | refine ⟨⟨decide_eq_true (by omega), decide_eq_true (by omega)⟩, ?_⟩)
    try (first | done | decide | exact decide_eq_true (by omega) | exact ⟨decide_eq_true (by omega), decide_eq_true (by omega)⟩)
    have l4 := recBody_len gen place r
    refine .of (c_s_Sum (recBody gen place r) (by omega)) ?_
    try simp -implicitDefEqProofs only [go_sem]
    repeat (first | refine ⟨rfl, ?_⟩ | refine ⟨by decide, ?_⟩ | refine ⟨⟨by decide, by decide⟩, ?_⟩ | refine ⟨decide_eq_true (by omega), ?_⟩ | refine ⟨⟨decide_eq_true (by omega), decide_eq_true (by omega)⟩, ?_⟩)
    try (first | done | decide | exact decide_eq_true (by omega) | exact ⟨decide_eq_true (by omega), decide_eq_true (by omega)⟩)
    refine .of (c_s_PutW (recBody gen place r) _ (by omega)) ?_
    try simp -implicitDefEqProofs only [go_sem, ey]
    repeat (first | refine ⟨rfl, ?_⟩ | refine ⟨by decide, ?_⟩ | refine ⟨⟨by decide, by decide⟩, ?_⟩ | refine ⟨decide_eq_true (by omega), ?_⟩ | refine ⟨⟨decide_eq_true (by omega), decide_eq_true (by omega)⟩, ?_⟩)
    try (first | done | decide | exact decide_eq_true (by omega) | exact ⟨decide_eq_true (by omega), decide_eq_true (by omega)⟩)
  by_cases q3 : r.Kind = 3
  · have k1 : (r.Kind == 1) = false := by rw [q3]; rfl
    have k2 : (r.Kind == 2) = false := by rw [q3]; rfl
    have k3 : (r.Kind == 3) = true := by rw [q3]; rfl
    have e3 : H ++ [mkU r.N] = recKind H r := by rw [recKind, if_neg q1, if_neg q2, if_pos q3]
    have e5 : H.length + 1 = (recKind H r).length := by rw [← e3, List.length_append]; rfl
    have l3 := recKind_len H r
    try simp -implicitDefEqProofs only [go_sem, k1, k2, k3, mkU_wrap, app1B, e3, e5, take_rows]
    repeat (first | refine ⟨rfl, ?_⟩ | refine ⟨by decide, ?_⟩ | refine ⟨⟨by decide, by decide⟩, ?_⟩ | refine ⟨decide_eq_true (by omega), ?_⟩ | refine ⟨⟨decide_eq_true (by omega), decide_eq_true (by omega)⟩, ?_⟩)
    try (first | done | decide | exact decide_eq_true (by omega) | exact ⟨decide_eq_true (by omega), decide_eq_true (by omega)⟩)
    try simp -implicitDefEqProofs only [go_sem, e3, mkU_wrap, app2B, take2B]
    repeat (first | refine ⟨rfl, ?_⟩ | refine ⟨by decide, ?_⟩ | refine ⟨⟨by decide, by decide⟩, ?_⟩ | refine ⟨decide_eq_true (by omega), ?_⟩ | refine ⟨⟨decide_eq_true (by omega), decide_eq_true (by omega)⟩, ?_⟩)
    try (first | done | decide | exact decide_eq_true (by omega) | exact ⟨decide_eq_true (by omega), decide_eq_true (by omega)⟩)
    have tt := c_s_PutW (recKind H r ++ [mkU r.Who, mkU r.Code]) r.Seq (by rw [List.length_append]; simp only [List.length_cons, List.length_nil]; omega)
    have e4 : putW (recKind H r ++ [mkU r.Who, mkU r.Code]) r.Seq = recBody gen place r := by rw [recBody, eH]
    rw [e4] at tt
    refine .of (tt) ?_
    try simp -implicitDefEqProofs only [go_sem]
    repeat (first | refine ⟨rfl, ?_⟩ | refine ⟨by decide, ?_⟩ | refine ⟨⟨by decide, by decide⟩, ?_⟩ | refine ⟨decide_eq_true (by omega), ?_⟩ | refine ⟨⟨decide_eq_true (by omega), decide_eq_true (by omega)⟩, ?_⟩)
    try (first | done | decide | exact decide_eq_true (by omega) | exact ⟨decide_eq_true (by omega), decide_eq_true (by omega)⟩)
    have l4 := recBody_len gen place r
    refine .of (c_s_Sum (recBody gen place r) (by omega)) ?_
    try simp -implicitDefEqProofs only [go_sem]
    repeat (first | refine ⟨rfl, ?_⟩ | refine ⟨by decide, ?_⟩ | refine ⟨⟨by decide, by decide⟩, ?_⟩ | refine ⟨decide_eq_true (by omega), ?_⟩ | refine ⟨⟨decide_eq_true (by omega), decide_eq_true (by omega)⟩, ?_⟩)
    try (first | done | decide | exact decide_eq_true (by omega) | exact ⟨decide_eq_true (by omega), decide_eq_true (by omega)⟩)
    refine .of (c_s_PutW (recBody gen place r) _ (by omega)) ?_
    try simp -implicitDefEqProofs only [go_sem, ey]
    repeat (first | refine ⟨rfl, ?_⟩ | refine ⟨by decide, ?_⟩ | refine ⟨⟨by decide, by decide⟩, ?_⟩ | refine ⟨decide_eq_true (by omega), ?_⟩ | refine ⟨⟨decide_eq_true (by omega), decide_eq_true (by omega)⟩, ?_⟩)
    try (first | done | decide | exact decide_eq_true (by omega) | exact ⟨decide_eq_true (by omega), decide_eq_true (by omega)⟩)
  obtain ⟨k1, k2, k3⟩ := other3 q1 q2 q3
  try simp -implicitDefEqProofs only [go_sem, k1, k2, k3]
  repeat (first | refine ⟨rfl, ?_⟩ | refine ⟨by decide, ?_⟩ | refine ⟨⟨by decide, by decide⟩, ?_⟩ | refine ⟨decide_eq_true (by omega), ?_⟩ | refine ⟨⟨decide_eq_true (by omega), decide_eq_true (by omega)⟩, ?_⟩)
  try (first | done | decide | exact decide_eq_true (by omega) | exact ⟨decide_eq_true (by omega), decide_eq_true (by omega)⟩)
  have e3 : recKind H r = H := by rw [recKind, if_neg q1, if_neg q2, if_neg q3]
  try simp -implicitDefEqProofs only [go_sem, mkU_wrap, app2B, take2B]
  repeat (first | refine ⟨rfl, ?_⟩ | refine ⟨by decide, ?_⟩ | refine ⟨⟨by decide, by decide⟩, ?_⟩ | refine ⟨decide_eq_true (by omega), ?_⟩ | refine ⟨⟨decide_eq_true (by omega), decide_eq_true (by omega)⟩, ?_⟩)
  try (first | done | decide | exact decide_eq_true (by omega) | exact ⟨decide_eq_true (by omega), decide_eq_true (by omega)⟩)
  have tt := c_s_PutW (H ++ [mkU r.Who, mkU r.Code]) r.Seq (by rw [List.length_append]; simp only [List.length_cons, List.length_nil]; omega)
  have e4 : putW (H ++ [mkU r.Who, mkU r.Code]) r.Seq = recBody gen place r := by rw [recBody, eH, e3]
  rw [e4] at tt
  refine .of (tt) ?_
  try simp -implicitDefEqProofs only [go_sem]
  repeat (first | refine ⟨rfl, ?_⟩ | refine ⟨by decide, ?_⟩ | refine ⟨⟨by decide, by decide⟩, ?_⟩ | refine ⟨decide_eq_true (by omega), ?_⟩ | refine ⟨⟨decide_eq_true (by omega), decide_eq_true (by omega)⟩, ?_⟩)
  try (first | done | decide | exact decide_eq_true (by omega) | exact ⟨decide_eq_true (by omega), decide_eq_true (by omega)⟩)
  have l4 := recBody_len gen place r
  refine .of (c_s_Sum (recBody gen place r) (by omega)) ?_
  try simp -implicitDefEqProofs only [go_sem]
  repeat (first | refine ⟨rfl, ?_⟩ | refine ⟨by decide, ?_⟩ | refine ⟨⟨by decide, by decide⟩, ?_⟩ | refine ⟨decide_eq_true (by omega), ?_⟩ | refine ⟨⟨decide_eq_true (by omega), decide_eq_true (by omega)⟩, ?_⟩)
  try (first | done | decide | exact decide_eq_true (by omega) | exact ⟨decide_eq_true (by omega), decide_eq_true (by omega)⟩)
  refine .of (c_s_PutW (recBody gen place r) _ (by omega)) ?_
  try simp -implicitDefEqProofs only [go_sem, ey]
  repeat (first | refine ⟨rfl, ?_⟩ | refine ⟨by decide, ?_⟩ | refine ⟨⟨by decide, by decide⟩, ?_⟩ | refine ⟨decide_eq_true (by omega), ?_⟩ | refine ⟨⟨decide_eq_true (by omega), decide_eq_true (by omega)⟩, ?_⟩)
  try (first | done | decide | exact decide_eq_true (by omega) | exact ⟨decide_eq_true (by omega), decide_eq_true (by omega)⟩)
def headGood (gen n : Int) : Bool := win gen 1 60000 && win n 0 30
def headOf (gen n : Int) : List UInt8 := if headGood gen n = true then putW (putW (putW [] gen) n) (sum (putW (putW [] gen) n) : Nat) else []
theorem headOf_len (gen n : Int) : (headOf gen n).length ≤ 6 := by
  unfold headOf
  split
  · rw [putW_len, putW_len, putW_len]; decide
  · exact Nat.zero_le _
def x_i_HeadOf : FnX := ⟨22, [.tmp 4],
  .q [.op 4 (.mv (.k (.one (.nils 1))))]
 (.seq (.q [.m 6 0, .op 7 (.call 25 [0, 0, 0] [(.t 6), (.i 1), (.i 60000)]), .N 8 7, .m 9 8, ⟨(some (9, false)), some 10, 10, .mv (.t 1)⟩, ⟨(some (9, false)), some 11, 11, .call 25 [0, 0, 0] [(.t 10), (.i 0), (.i 30)]⟩, ⟨(some (9, false)), some 12, 12, .not (.t 11)⟩, .r 13 9 12]
 (.c 13 (.q [.op 4 (.mv (.k (.one (.nils 1))))]
 .ret)))
 (.q [.m 14 0, .op 15 (.call 124 [0, 0] [(.k (.one (.nils 1))), (.t 14)]), .m 16 1, .c 17 124 [15, 16], .m 5 17]
 (.q [.m 18 5, .m 19 5, .c 20 127 [19], .c 21 124 [18, 20], .m 4 21]
 .ret)))⟩
abbrev C_i_HeadOf (Te : TE) : Prop := ∀ (gen n : Int), Te 80 [.one (iT gen), .one (iT n)] ⟨[.one (slT true 1 uR (headOf gen n))], [[iT gen], [iT n]]⟩
theorem r_i_HeadOf {Te : TE} (c_i_within : C_i_within Te) (c_i_PutW : C_i_PutW Te) (c_i_Sum : C_i_Sum Te) : C_i_HeadOf (RF Te x_i_HeadOf) := by
  intro gen n
  refine run0 ?_
  simp -implicitDefEqProofs only [x_i_HeadOf, go_sem]
  repeat (first | refine ⟨rfl, ?_⟩ | refine ⟨by decide, ?_⟩ | refine ⟨⟨by decide, by decide⟩, ?_⟩ | refine ⟨decide_eq_true (by omega), ?_⟩ | refine ⟨⟨decide_eq_true (by omega), decide_eq_true (by omega)⟩, ?_⟩)
  try (first | done | decide | exact decide_eq_true (by omega) | exact ⟨decide_eq_true (by omega), decide_eq_true (by omega)⟩)
  refine .of (c_i_within _ _ _) ?_
  try simp -implicitDefEqProofs only [go_sem]
  repeat (first | refine ⟨rfl, ?_⟩ | refine ⟨by decide, ?_⟩ | refine ⟨⟨by decide, by decide⟩, ?_⟩ | refine ⟨decide_eq_true (by omega), ?_⟩ | refine ⟨⟨decide_eq_true (by omega), decide_eq_true (by omega)⟩, ?_⟩)
  try (first | done | decide | exact decide_eq_true (by omega) | exact ⟨decide_eq_true (by omega), decide_eq_true (by omega)⟩)
  cases g1 : win gen 1 60000
  · have e : headOf gen n = [] := by rw [headOf, headGood, g1]; rfl
    try simp -implicitDefEqProofs only [go_sem, e]
    repeat (first | refine ⟨rfl, ?_⟩ | refine ⟨by decide, ?_⟩ | refine ⟨⟨by decide, by decide⟩, ?_⟩ | refine ⟨decide_eq_true (by omega), ?_⟩ | refine ⟨⟨decide_eq_true (by omega), decide_eq_true (by omega)⟩, ?_⟩)
    try (first | done | decide | exact decide_eq_true (by omega) | exact ⟨decide_eq_true (by omega), decide_eq_true (by omega)⟩)
    try rfl
  try simp -implicitDefEqProofs only [go_sem]
  repeat (first | refine ⟨rfl, ?_⟩ | refine ⟨by decide, ?_⟩ | refine ⟨⟨by decide, by decide⟩, ?_⟩ | refine ⟨decide_eq_true (by omega), ?_⟩ | refine ⟨⟨decide_eq_true (by omega), decide_eq_true (by omega)⟩, ?_⟩)
  try (first | done | decide | exact decide_eq_true (by omega) | exact ⟨decide_eq_true (by omega), decide_eq_true (by omega)⟩)
  refine .of (c_i_within _ _ _) ?_
  try simp -implicitDefEqProofs only [go_sem]
  repeat (first | refine ⟨rfl, ?_⟩ | refine ⟨by decide, ?_⟩ | refine ⟨⟨by decide, by decide⟩, ?_⟩ | refine ⟨decide_eq_true (by omega), ?_⟩ | refine ⟨⟨decide_eq_true (by omega), decide_eq_true (by omega)⟩, ?_⟩)
  try (first | done | decide | exact decide_eq_true (by omega) | exact ⟨decide_eq_true (by omega), decide_eq_true (by omega)⟩)
  cases g2 : win n 0 30
  · have e : headOf gen n = [] := by rw [headOf, headGood, g1, g2]; rfl
    try simp -implicitDefEqProofs only [go_sem, e]
    repeat (first | refine ⟨rfl, ?_⟩ | refine ⟨by decide, ?_⟩ | refine ⟨⟨by decide, by decide⟩, ?_⟩ | refine ⟨decide_eq_true (by omega), ?_⟩ | refine ⟨⟨decide_eq_true (by omega), decide_eq_true (by omega)⟩, ?_⟩)
    try (first | done | decide | exact decide_eq_true (by omega) | exact ⟨decide_eq_true (by omega), decide_eq_true (by omega)⟩)
    try rfl
  try simp -implicitDefEqProofs only [go_sem]
  repeat (first | refine ⟨rfl, ?_⟩ | refine ⟨by decide, ?_⟩ | refine ⟨⟨by decide, by decide⟩, ?_⟩ | refine ⟨decide_eq_true (by omega), ?_⟩ | refine ⟨⟨decide_eq_true (by omega), decide_eq_true (by omega)⟩, ?_⟩)
  try (first | done | decide | exact decide_eq_true (by omega) | exact ⟨decide_eq_true (by omega), decide_eq_true (by omega)⟩)
  have e : headOf gen n = putW (putW (putW [] gen) n) (sum (putW (putW [] gen) n) : Nat) := by rw [headOf, headGood, g1, g2]; rfl
  have l1 : (putW (putW [] gen) n).length = 4 := by rw [putW_len, putW_len]; rfl
  have t1 := c_i_PutW [] gen (by show 0 ≤ 2 ^ 30; decide)
  refine .of (t1) ?_
  try simp -implicitDefEqProofs only [go_sem]
  repeat (first | refine ⟨rfl, ?_⟩ | refine ⟨by decide, ?_⟩ | refine ⟨⟨by decide, by decide⟩, ?_⟩ | refine ⟨decide_eq_true (by omega), ?_⟩ | refine ⟨⟨decide_eq_true (by omega), decide_eq_true (by omega)⟩, ?_⟩)
  try (first | done | decide | exact decide_eq_true (by omega) | exact ⟨decide_eq_true (by omega), decide_eq_true (by omega)⟩)
  refine .of (c_i_PutW (putW [] gen) n (by rw [putW_len]; show 0 + 2 ≤ 2 ^ 30; decide)) ?_
  try simp -implicitDefEqProofs only [go_sem]
  repeat (first | refine ⟨rfl, ?_⟩ | refine ⟨by decide, ?_⟩ | refine ⟨⟨by decide, by decide⟩, ?_⟩ | refine ⟨decide_eq_true (by omega), ?_⟩ | refine ⟨⟨decide_eq_true (by omega), decide_eq_true (by omega)⟩, ?_⟩)
  try (first | done | decide | exact decide_eq_true (by omega) | exact ⟨decide_eq_true (by omega), decide_eq_true (by omega)⟩)
  refine .of (c_i_Sum (putW (putW [] gen) n) (by omega)) ?_
  try simp -implicitDefEqProofs only [go_sem]
  repeat (first | refine ⟨rfl, ?_⟩ | refine ⟨by decide, ?_⟩ | refine ⟨⟨by decide, by decide⟩, ?_⟩ | refine ⟨decide_eq_true (by omega), ?_⟩ | refine ⟨⟨decide_eq_true (by omega), decide_eq_true (by omega)⟩, ?_⟩)
  try (first | done | decide | exact decide_eq_true (by omega) | exact ⟨decide_eq_true (by omega), decide_eq_true (by omega)⟩)
  refine .of (c_i_PutW (putW (putW [] gen) n) _ (by omega)) ?_
  try simp -implicitDefEqProofs only [go_sem, e]
  repeat (first | refine ⟨rfl, ?_⟩ | refine ⟨by decide, ?_⟩ | refine ⟨⟨by decide, by decide⟩, ?_⟩ | refine ⟨decide_eq_true (by omega), ?_⟩ | refine ⟨⟨decide_eq_true (by omega), decide_eq_true (by omega)⟩, ?_⟩)
  try (first | done | decide | exact decide_eq_true (by omega) | exact ⟨decide_eq_true (by omega), decide_eq_true (by omega)⟩)
def x_s_HeadOf : FnX := ⟨24, [.tmp 4],
  .q [.op 4 (.mv (.k (.one (.nils 1))))]
 (.seq (.q [.m 6 0, .op 7 (.call 23 [0, 0, 0] [(.t 6), (.i 1), (.i 60000)]), .N 8 7, .m 9 8, ⟨(some (9, false)), some 10, 10, .mv (.t 1)⟩, ⟨(some (9, false)), some 11, 11, .call 23 [0, 0, 0] [(.t 10), (.i 0), (.i 30)]⟩, ⟨(some (9, false)), some 12, 12, .not (.t 11)⟩, .r 13 9 12]
 (.c 13 (.q [.op 14 (.bslice 1 []), .m 4 14]
 .ret)))
 (.q [.op 15 (.bslice 1 []), .m 16 0, .c 17 114 [15, 16], .m 18 1, .c 19 114 [17, 18], .m 5 19]
 (.q [.m 20 5, .m 21 5, .c 22 117 [21], .c 23 114 [20, 22], .m 4 23]
 .ret)))⟩
abbrev C_s_HeadOf (Te : TE) : Prop := ∀ (gen n : Int), Te 74 [.one (iT gen), .one (iT n)] ⟨[.one (slT true 1 uR (headOf gen n))], [[iT gen], [iT n]]⟩
theorem r_s_HeadOf {Te : TE} (c_s_l1In : C_s_l1In Te) (c_s_PutW : C_s_PutW Te) (c_s_Sum : C_s_Sum Te) : C_s_HeadOf (RF Te x_s_HeadOf) := by
  intro gen n
  refine run0 ?_
  simp -implicitDefEqProofs only [x_s_HeadOf, go_sem]
  repeat (first | refine ⟨rfl, ?_⟩ | refine ⟨by decide, ?_⟩ | refine ⟨⟨by decide, by decide⟩, ?_⟩ | refine ⟨decide_eq_true (by omega), ?_⟩ | refine ⟨⟨decide_eq_true (by omega), decide_eq_true (by omega)⟩, ?_⟩)
  try (first | done | decide | exact decide_eq_true (by omega) | exact ⟨decide_eq_true (by omega), decide_eq_true (by omega)⟩)
  refine .of (c_s_l1In _ _ _) ?_
  try simp -implicitDefEqProofs only [go_sem]
  repeat (first | refine ⟨rfl, ?_⟩ | refine ⟨by decide, ?_⟩ | refine ⟨⟨by decide, by decide⟩, ?_⟩ | refine ⟨decide_eq_true (by omega), ?_⟩ | refine ⟨⟨decide_eq_true (by omega), decide_eq_true (by omega)⟩, ?_⟩)
  try (first | done | decide | exact decide_eq_true (by omega) | exact ⟨decide_eq_true (by omega), decide_eq_true (by omega)⟩)
  cases g1 : win gen 1 60000
  · have e : headOf gen n = [] := by rw [headOf, headGood, g1]; rfl
    try simp -implicitDefEqProofs only [go_sem, e]
    repeat (first | refine ⟨rfl, ?_⟩ | refine ⟨by decide, ?_⟩ | refine ⟨⟨by decide, by decide⟩, ?_⟩ | refine ⟨decide_eq_true (by omega), ?_⟩ | refine ⟨⟨decide_eq_true (by omega), decide_eq_true (by omega)⟩, ?_⟩)
    try (first | done | decide | exact decide_eq_true (by omega) | exact ⟨decide_eq_true (by omega), decide_eq_true (by omega)⟩)
    try rfl
  try simp -implicitDefEqProofs only [go_sem]
  repeat (first | refine ⟨rfl, ?_⟩ | refine ⟨by decide, ?_⟩ | refine ⟨⟨by decide, by decide⟩, ?_⟩ | refine ⟨decide_eq_true (by omega), ?_⟩ | refine ⟨⟨decide_eq_true (by omega), decide_eq_true (by omega)⟩, ?_⟩)
  try (first | done | decide | exact decide_eq_true (by omega) | exact ⟨decide_eq_true (by omega), decide_eq_true (by omega)⟩)
  refine .of (c_s_l1In _ _ _) ?_
  try simp -implicitDefEqProofs only [go_sem]
  repeat (first | refine ⟨rfl, ?_⟩ | refine ⟨by decide, ?_⟩ | refine ⟨⟨by decide, by decide⟩, ?_⟩ | refine ⟨decide_eq_true (by omega), ?_⟩ | refine ⟨⟨decide_eq_true (by omega), decide_eq_true (by omega)⟩, ?_⟩)
  try (first | done | decide | exact decide_eq_true (by omega) | exact ⟨decide_eq_true (by omega), decide_eq_true (by omega)⟩)
  cases g2 : win n 0 30
  · have e : headOf gen n = [] := by rw [headOf, headGood, g1, g2]; rfl
    try simp -implicitDefEqProofs only [go_sem, e]
    repeat (first | refine ⟨rfl, ?_⟩ | refine ⟨by decide, ?_⟩ | refine ⟨⟨by decide, by decide⟩, ?_⟩ | refine ⟨decide_eq_true (by omega), ?_⟩ | refine ⟨⟨decide_eq_true (by omega), decide_eq_true (by omega)⟩, ?_⟩)
    try (first | done | decide | exact decide_eq_true (by omega) | exact ⟨decide_eq_true (by omega), decide_eq_true (by omega)⟩)
    try rfl
  try simp -implicitDefEqProofs only [go_sem]
  repeat (first | refine ⟨rfl, ?_⟩ | refine ⟨by decide, ?_⟩ | refine ⟨⟨by decide, by decide⟩, ?_⟩ | refine ⟨decide_eq_true (by omega), ?_⟩ | refine ⟨⟨decide_eq_true (by omega), decide_eq_true (by omega)⟩, ?_⟩)
  try (first | done | decide | exact decide_eq_true (by omega) | exact ⟨decide_eq_true (by omega), decide_eq_true (by omega)⟩)
  have e : headOf gen n = putW (putW (putW [] gen) n) (sum (putW (putW [] gen) n) : Nat) := by rw [headOf, headGood, g1, g2]; rfl
  have l1 : (putW (putW [] gen) n).length = 4 := by rw [putW_len, putW_len]; rfl
  have t1 := c_s_PutW [] gen (by show 0 ≤ 2 ^ 30; decide)
  refine .of (t1) ?_
  try simp -implicitDefEqProofs only [go_sem]
  repeat (first | refine ⟨rfl, ?_⟩ | refine ⟨by decide, ?_⟩ | refine ⟨⟨by decide, by decide⟩, ?_⟩ | refine ⟨decide_eq_true (by omega), ?_⟩ | refine ⟨⟨decide_eq_true (by omega), decide_eq_true (by omega)⟩, ?_⟩)
  try (first | done | decide | exact decide_eq_true (by omega) | exact ⟨decide_eq_true (by omega), decide_eq_true (by omega)⟩)
  refine .of (c_s_PutW (putW [] gen) n (by rw [putW_len]; show 0 + 2 ≤ 2 ^ 30; decide)) ?_
  try simp -implicitDefEqProofs only [go_sem]
  repeat (first | refine ⟨rfl, ?_⟩ | refine ⟨by decide, ?_⟩ | refine ⟨⟨by decide, by decide⟩, ?_⟩ | refine ⟨decide_eq_true (by omega), ?_⟩ | refine ⟨⟨decide_eq_true (by omega), decide_eq_true (by omega)⟩, ?_⟩)
  try (first | done | decide | exact decide_eq_true (by omega) | exact ⟨decide_eq_true (by omega), decide_eq_true (by omega)⟩)
  refine .of (c_s_Sum (putW (putW [] gen) n) (by omega)) ?_
  try simp -implicitDefEqProofs only [go_sem]
  repeat (first | refine ⟨rfl, ?_⟩ | refine ⟨by decide, ?_⟩ | refine ⟨⟨by decide, by decide⟩, ?_⟩ | refine ⟨decide_eq_true (by omega), ?_⟩ | refine ⟨⟨decide_eq_true (by omega), decide_eq_true (by omega)⟩, ?_⟩)
  try (first | done | decide | exact decide_eq_true (by omega) | exact ⟨decide_eq_true (by omega), decide_eq_true (by omega)⟩)
  refine .of (c_s_PutW (putW (putW [] gen) n) _ (by omega)) ?_
  try simp -implicitDefEqProofs only [go_sem, e]
  repeat (first | refine ⟨rfl, ?_⟩ | refine ⟨by decide, ?_⟩ | refine ⟨⟨by decide, by decide⟩, ?_⟩ | refine ⟨decide_eq_true (by omega), ?_⟩ | refine ⟨⟨decide_eq_true (by omega), decide_eq_true (by omega)⟩, ?_⟩)
  try (first | done | decide | exact decide_eq_true (by omega) | exact ⟨decide_eq_true (by omega), decide_eq_true (by omega)⟩)
end Go.X

/- Vk -/
namespace Go.X
set_option maxRecDepth 100000
set_option maxHeartbeats 8000000
def recRow (r : RowV) : RecV := ⟨1, r, ⟨#[]⟩, 0, 0, 0, 0⟩
def recMark (m : MarkV) : RecV := ⟨4, RowV.zero, ⟨#[]⟩, 0, m.Who, m.Seq, m.Code⟩
def recPhase (n : Int) : RecV := ⟨3, RowV.zero, ⟨#[]⟩, n, 0, 0, 0⟩
def recsOf (t : TabV) : List RecV := recPhase t.Phase :: (t.Rows.map recRow ++ t.Marks.map recMark)
theorem recsOf_len (t : TabV) : (recsOf t).length = t.Rows.length + t.Marks.length + 1 := by
  simp only [recsOf, List.length_cons, List.length_append, List.length_map]
theorem app1R (l : List RecV) (x : RecV) : List.map (RecV.enc true) l ++ [x.enc true] = List.map (RecV.enc true) (l ++ [x]) := by rw [List.map_append]; rfl
theorem recs_rows {t : TabV} {i : Nat} (h : i < t.Rows.length) : (recPhase t.Phase :: (t.Rows.take i).map recRow) ++ [recRow t.Rows[i]] = recPhase t.Phase :: (t.Rows.take (i + 1)).map recRow := by
  rw [List.take_succ_eq_append_getElem h, List.map_append]; rfl
theorem recs_marks {t : TabV} {i : Nat} (h : i < t.Marks.length) : (recPhase t.Phase :: (t.Rows.map recRow ++ (t.Marks.take i).map recMark)) ++ [recMark t.Marks[i]] = recPhase t.Phase :: (t.Rows.map recRow ++ (t.Marks.take (i + 1)).map recMark) := by
  rw [List.take_succ_eq_append_getElem h, List.map_append, List.cons_append, List.append_assoc]; rfl
def x_i_RecsOf : FnX := ⟨45, [.tmp 2],
  .q [.v 1 0, .op 2 (.mv (.k (.one (.nils 13))))]
 (.q [.f 8 1 1, .l 9 8, .op 10 (.build [.i 0, .e, .i 0, .nils 1, .i 0, .nils 1, .i 0, .F, .e, .i 0, .i 0, .i 0, .i 0] [(0, 1, (.i 3)), (9, 1, (.t 9))]), .op 11 (.bslice 13 [(.t 10)]), .m 3 11]
 (.seq (.q [.f 12 1 0, .l 13 12, .n 14 13, .i 15 0]
 (.block 0 (.loop [1, 3, 13, 14, 15] (.q [.b 16 .lss 15 14]
 (.seq (.cond 16 .skip (.exit 0))
 (.seq (.block 1 (.q [.x 17 7 13 15, .L 18 7 17, .op 5 (.alloc [.e, .i 0, .nils 1, .i 0, .nils 1, .i 0, .F]), .s 100001 7 5 18]
 (.reg [.m 19 3, .L 20 7 5, .c 21 75 [20], .op 22 (.build [.i 0, .e, .i 0, .nils 1, .i 0, .nils 1, .i 0, .F, .e, .i 0, .i 0, .i 0, .i 0] [(0, 1, (.i 1)), (1, 7, (.t 21))]), .op 23 (.bslice 13 [(.t 22)]), .op 24 (.app 13 152 (.t 19) (.t 23)), .m 3 24])))
 (.reg [.B 25 .add 15 1, .m 15 25])))))))
 (.norm [1, 3] (.seq (.q [.f 26 1 2, .l 27 26, .n 28 27, .i 29 0]
 (.block 2 (.loop [3, 27, 28, 29] (.q [.b 30 .lss 29 28]
 (.seq (.cond 30 .skip (.exit 2))
 (.seq (.block 3 (.q [.x 31 3 27 29, .L 32 3 31, .op 7 (.alloc [.i 0, .i 0, .i 0]), .s 100002 3 7 32]
 (.reg [.m 33 3, .f 34 7 0, .l 35 34, .f 36 7 1, .l 37 36, .f 38 7 2, .l 39 38, .op 40 (.build [.i 0, .e, .i 0, .nils 1, .i 0, .nils 1, .i 0, .F, .e, .i 0, .i 0, .i 0, .i 0] [(0, 1, (.i 4)), (10, 1, (.t 35)), (11, 1, (.t 37)), (12, 1, (.t 39))]), .op 41 (.bslice 13 [(.t 40)]), .op 42 (.app 13 152 (.t 33) (.t 41)), .m 3 42])))
 (.reg [.B 43 .add 29 1, .m 29 43])))))))
 (.norm [3] (.q [.m 44 3, .m 2 44]
 .ret))))))⟩
abbrev C_i_RecsOf (Te : TE) : Prop := ∀ (t : TabV) (h : t.Len), Te 44 [.agg (t.enc false)] ⟨[.one (slT true 13 (RecV.enc true) (recsOf t))], [t.enc false]⟩
theorem r_i_RecsOf {Te : TE} (c_i_copyRow : C_i_copyRow Te) : C_i_RecsOf (RF Te x_i_RecsOf) := by
  intro t h
  refine run0 ?_
  obtain ⟨⟨hR, hRl⟩, hM⟩ := h
  simp -implicitDefEqProofs only [x_i_RecsOf, go_sem]
  repeat (first | refine ⟨rfl, ?_⟩ | refine ⟨by decide, ?_⟩ | refine ⟨⟨by decide, by decide⟩, ?_⟩ | refine ⟨decide_eq_true (by omega), ?_⟩ | refine ⟨⟨decide_eq_true (by omega), decide_eq_true (by omega)⟩, ?_⟩)
  try (first | done | decide | exact decide_eq_true (by omega) | exact ⟨decide_eq_true (by omega), decide_eq_true (by omega)⟩)
  refine loop_of (σ := Nat × List RecV) (fun x => ⟨[(1, .bp 1 0), (3, .one (.rf 46 0 [] 13 0 x.2.length)), (13, .one (.ro 7 (t.Rows.map (RowV.enc false)))), (14, .one (.pv (.int .i64 t.Rows.length))), (15, .one (.pv (.int .i64 x.1)))], [(1, [.ro 7 (t.Rows.map (RowV.enc false)), .pv (.int .i64 t.Phase), .ro 3 (t.Marks.map MarkV.row)])], [(0, t.enc false), (46, [slT true 13 (RecV.enc true) x.2])]⟩) (fun x => x.1 ≤ t.Rows.length ∧ x.2.length = x.1 + 1 ∧ x.2 = recPhase t.Phase :: (t.Rows.take x.1).map recRow) (fun x => t.Rows.length - x.1) (0, [recPhase t.Phase]) ?_ ⟨Nat.zero_le _, rfl, rfl⟩ ?_
  · simp -implicitDefEqProofs only [go_sem]
    try rfl
  · rintro ⟨i, a⟩ ⟨hi, hl, he⟩
    simp only at hi hl he
    cases q : decide ((i : Int) < (t.Rows.length : Int))
    · have k0 : i = t.Rows.length := by simp only [decide_eq_false_iff_not] at q; omega
      rw [k0, List.take_length] at he
      try simp -implicitDefEqProofs only [go_sem, q]
      repeat (first | refine ⟨rfl, ?_⟩ | refine ⟨by decide, ?_⟩ | refine ⟨⟨by decide, by decide⟩, ?_⟩ | refine ⟨decide_eq_true (by omega), ?_⟩ | refine ⟨⟨decide_eq_true (by omega), decide_eq_true (by omega)⟩, ?_⟩)
      try (first | done | decide | exact decide_eq_true (by omega) | exact ⟨decide_eq_true (by omega), decide_eq_true (by omega)⟩)
      refine loop_of (σ := Nat × List RecV) (fun x => ⟨[(3, .one (.rf 46 0 [] 13 0 x.2.length)), (27, .one (.ro 3 (t.Marks.map MarkV.row))), (28, .one (.pv (.int .i64 t.Marks.length))), (29, .one (.pv (.int .i64 x.1)))], [], [(0, t.enc false), (46, [slT true 13 (RecV.enc true) x.2])]⟩) (fun x => x.1 ≤ t.Marks.length ∧ x.2.length = t.Rows.length + x.1 + 1 ∧ x.2 = recPhase t.Phase :: (t.Rows.map recRow ++ (t.Marks.take x.1).map recMark)) (fun x => t.Marks.length - x.1) (0, a) ?_ ⟨Nat.zero_le _, by simp only; omega, by simp only [List.take_zero, List.map_nil, List.append_nil]; exact he⟩ ?_
      · simp -implicitDefEqProofs only [go_sem]
        try rfl
      · rintro ⟨j, b⟩ ⟨hj, hbl, hbe⟩
        simp only at hj hbl hbe
        cases q2 : decide ((j : Int) < (t.Marks.length : Int))
        · have k2 : j = t.Marks.length := by simp only [decide_eq_false_iff_not] at q2; omega
          rw [k2, List.take_length] at hbe
          have e9 : recsOf t = b := hbe.symm
          have e8 : List.take b.length (List.map (RecV.enc true) b) = List.map (RecV.enc true) b := List.take_of_length_le (by simp)
          try simp -implicitDefEqProofs only [go_sem, q2, e9, e8]
          repeat (first | refine ⟨rfl, ?_⟩ | refine ⟨by decide, ?_⟩ | refine ⟨⟨by decide, by decide⟩, ?_⟩ | refine ⟨decide_eq_true (by omega), ?_⟩ | refine ⟨⟨decide_eq_true (by omega), decide_eq_true (by omega)⟩, ?_⟩)
          try (first | done | decide | exact decide_eq_true (by omega) | exact ⟨decide_eq_true (by omega), decide_eq_true (by omega)⟩)
        · have k2 : j < t.Marks.length := by simp only [decide_eq_true_eq] at q2; omega
          have ea : List.map (RecV.enc true) b ++ [[iT 4, sT ⟨#[]⟩, iT 0, Tr.sl true 1 () [], iT 0, Tr.sl true 1 () [], iT 0, bT false, sT ⟨#[]⟩, iT 0, iT t.Marks[j].Who, iT t.Marks[j].Seq, iT t.Marks[j].Code]] = List.map (RecV.enc true) (b ++ [recMark t.Marks[j]]) := by rw [List.map_append]; rfl
          have et : List.take b.length (List.map (RecV.enc true) b) = List.map (RecV.enc true) b := List.take_of_length_le (by simp)
          try simp -implicitDefEqProofs only [go_sem, q2, List.getElem?_eq_getElem k2, et, ea]
          repeat (first | refine ⟨rfl, ?_⟩ | refine ⟨by decide, ?_⟩ | refine ⟨⟨by decide, by decide⟩, ?_⟩ | refine ⟨decide_eq_true (by omega), ?_⟩ | refine ⟨⟨decide_eq_true (by omega), decide_eq_true (by omega)⟩, ?_⟩)
          try (first | done | decide | exact decide_eq_true (by omega) | exact ⟨decide_eq_true (by omega), decide_eq_true (by omega)⟩)
          refine ⟨(j + 1, b ++ [recMark t.Marks[j]]), ?_, ⟨k2, ?_, ?_⟩, ?_⟩
          · rw [IntWalk.i64_in _ (by omega)]
            simp only [List.length_append]
            rfl
          · simp only [List.length_append, List.length_cons, List.length_nil]; omega
          · rw [hbe, recs_marks k2]
          · simp only; omega
    · have k1 : i < t.Rows.length := by simp only [decide_eq_true_eq] at q; omega
      have ea : List.map (RecV.enc true) a ++ [[iT 1, sT t.Rows[i].Key, iT t.Rows[i].Old.Tag, slT true 1 uR t.Rows[i].Old.B, iT t.Rows[i].New.Tag, slT true 1 uR t.Rows[i].New.B, iT t.Rows[i].Has, bT t.Rows[i].Aside, sT ⟨#[]⟩, iT 0, iT 0, iT 0, iT 0]] = List.map (RecV.enc true) (a ++ [recRow t.Rows[i]]) := by rw [List.map_append]; rfl
      have et : List.take a.length (List.map (RecV.enc true) a) = List.map (RecV.enc true) a := List.take_of_length_le (by simp)
      try simp -implicitDefEqProofs only [go_sem, q, List.getElem?_eq_getElem k1]
      repeat (first | refine ⟨rfl, ?_⟩ | refine ⟨by decide, ?_⟩ | refine ⟨⟨by decide, by decide⟩, ?_⟩ | refine ⟨decide_eq_true (by omega), ?_⟩ | refine ⟨⟨decide_eq_true (by omega), decide_eq_true (by omega)⟩, ?_⟩)
      try (first | done | decide | exact decide_eq_true (by omega) | exact ⟨decide_eq_true (by omega), decide_eq_true (by omega)⟩)
      refine .of (c_i_copyRow t.Rows[i] (hRl _ (List.getElem_mem k1))) ?_
      try simp -implicitDefEqProofs only [go_sem, et, ea]
      repeat (first | refine ⟨rfl, ?_⟩ | refine ⟨by decide, ?_⟩ | refine ⟨⟨by decide, by decide⟩, ?_⟩ | refine ⟨decide_eq_true (by omega), ?_⟩ | refine ⟨⟨decide_eq_true (by omega), decide_eq_true (by omega)⟩, ?_⟩)
      try (first | done | decide | exact decide_eq_true (by omega) | exact ⟨decide_eq_true (by omega), decide_eq_true (by omega)⟩)
      refine ⟨(i + 1, a ++ [recRow t.Rows[i]]), ?_, ⟨k1, ?_, ?_⟩, ?_⟩
      · rw [IntWalk.i64_in _ (by omega)]
        simp only [List.length_append]
        rfl
      · simp only [List.length_append, List.length_cons, List.length_nil]; omega
      · rw [he, recs_rows k1]
      · simp only; omega
def x_s_RecsOf : FnX := ⟨57, [.tmp 2],
  .q [.v 1 0, .op 2 (.mv (.k (.one (.nils 13))))]
 (.q [.f 6 1 1, .l 7 6, .op 8 (.build [.i 0, .e, .i 0, .nils 1, .i 0, .nils 1, .i 0, .F, .e, .i 0, .i 0, .i 0, .i 0] [(0, 1, (.i 3)), (9, 1, (.t 7))]), .op 9 (.bslice 13 [(.t 8)]), .m 3 9]
 (.seq (.q [.i 4 0]
 (.block 0 (.loop [1, 3, 4] (.seq (.q [.m 10 4, .f 11 1 0, .l 12 11, .n 13 12, .b 14 .lss 10 13]
 (.cond 14 .skip (.exit 0)))
 (.seq (.block 1 (.reg [.m 17 3, .f 18 1 0, .l 19 18, .m 20 4, .x 21 7 19 20, .L 22 7 21, .c 23 110 [22], .op 24 (.build [.i 0, .e, .i 0, .nils 1, .i 0, .nils 1, .i 0, .F, .e, .i 0, .i 0, .i 0, .i 0] [(0, 1, (.i 1)), (1, 7, (.t 23))]), .op 25 (.bslice 13 [(.t 24)]), .op 26 (.app 13 152 (.t 17) (.t 25)), .m 3 26]))
 (.reg [.m 15 4, .B 16 .add 15 1, .m 4 16]))))))
 (.norm [1, 3] (.seq (.q [.i 5 0]
 (.block 2 (.loop [1, 3, 5] (.seq (.q [.m 27 5, .f 28 1 2, .l 29 28, .n 30 29, .b 31 .lss 27 30]
 (.cond 31 .skip (.exit 2)))
 (.seq (.block 3 (.draw [.m 34 3, .f 35 1 2, .l 36 35, .m 37 5, .x 38 3 36 37, .f 39 38 0, .l 40 39, .f 41 1 2, .l 42 41, .m 43 5, .x 44 3 42 43, .f 45 44 1, .l 46 45, .f 47 1 2, .l 48 47, .m 49 5, .x 50 3 48 49, .f 51 50 2, .l 52 51, .op 53 (.build [.i 0, .e, .i 0, .nils 1, .i 0, .nils 1, .i 0, .F, .e, .i 0, .i 0, .i 0, .i 0] [(0, 1, (.i 4)), (10, 1, (.t 40)), (11, 1, (.t 46)), (12, 1, (.t 52))]), .op 54 (.bslice 13 [(.t 53)]), .op 55 (.app 13 152 (.t 34) (.t 54)), .m 3 55] [[], [], [1], [], [2, 3], [4], [5], [], [7], [], [8, 9], [10], [11], [], [13], [], [14, 15], [16], [17], [6, 12, 18], [19], [0, 20], [21, 21, 0, 1, 2, 3, 4, 5, 6, 7, 8, 9, 10, 11, 12, 13, 14, 15, 16, 17, 18, 19, 20, 21]]))
 (.reg [.m 32 5, .B 33 .add 32 1, .m 5 33]))))))
 (.norm [3] (.q [.m 56 3, .m 2 56]
 .ret))))))⟩
abbrev C_s_RecsOf (Te : TE) : Prop := ∀ (t : TabV) (h : t.Len), Te 69 [.agg (t.enc false)] ⟨[.one (slT true 13 (RecV.enc true) (recsOf t))], [t.enc false]⟩
theorem r_s_RecsOf {Te : TE} (c_s_l9Copy : C_s_l9Copy Te) : C_s_RecsOf (RF Te x_s_RecsOf) := by
  intro t h
  refine run0 ?_
  obtain ⟨⟨hR, hRl⟩, hM⟩ := h
  simp -implicitDefEqProofs only [x_s_RecsOf, go_sem]
  repeat (first | refine ⟨rfl, ?_⟩ | refine ⟨by decide, ?_⟩ | refine ⟨⟨by decide, by decide⟩, ?_⟩ | refine ⟨decide_eq_true (by omega), ?_⟩ | refine ⟨⟨decide_eq_true (by omega), decide_eq_true (by omega)⟩, ?_⟩)
  try (first | done | decide | exact decide_eq_true (by omega) | exact ⟨decide_eq_true (by omega), decide_eq_true (by omega)⟩)
  refine loop_of (σ := Nat × List RecV) (fun x => ⟨[(1, .bp 1 0), (3, .one (.rf 58 0 [] 13 0 x.2.length)), (4, .one (.pv (.int .i64 x.1)))], [(1, [.ro 7 (t.Rows.map (RowV.enc false)), .pv (.int .i64 t.Phase), .ro 3 (t.Marks.map MarkV.row)])], [(0, t.enc false), (58, [slT true 13 (RecV.enc true) x.2])]⟩) (fun x => x.1 ≤ t.Rows.length ∧ x.2.length = x.1 + 1 ∧ x.2 = recPhase t.Phase :: (t.Rows.take x.1).map recRow) (fun x => t.Rows.length - x.1) (0, [recPhase t.Phase]) ?_ ⟨Nat.zero_le _, rfl, rfl⟩ ?_
  · simp -implicitDefEqProofs only [go_sem]
    try rfl
  · rintro ⟨i, a⟩ ⟨hi, hl, he⟩
    simp only at hi hl he
    cases q : decide ((i : Int) < (t.Rows.length : Int))
    · have k0 : i = t.Rows.length := by simp only [decide_eq_false_iff_not] at q; omega
      rw [k0, List.take_length] at he
      try simp -implicitDefEqProofs only [go_sem, q]
      repeat (first | refine ⟨rfl, ?_⟩ | refine ⟨by decide, ?_⟩ | refine ⟨⟨by decide, by decide⟩, ?_⟩ | refine ⟨decide_eq_true (by omega), ?_⟩ | refine ⟨⟨decide_eq_true (by omega), decide_eq_true (by omega)⟩, ?_⟩)
      try (first | done | decide | exact decide_eq_true (by omega) | exact ⟨decide_eq_true (by omega), decide_eq_true (by omega)⟩)
      refine loop_of (σ := Nat × List RecV) (fun x => ⟨[(1, .bp 1 0), (3, .one (.rf 58 0 [] 13 0 x.2.length)), (5, .one (.pv (.int .i64 x.1)))], [(1, [.ro 7 (t.Rows.map (RowV.enc false)), .pv (.int .i64 t.Phase), .ro 3 (t.Marks.map MarkV.row)])], [(0, t.enc false), (58, [slT true 13 (RecV.enc true) x.2])]⟩) (fun x => x.1 ≤ t.Marks.length ∧ x.2.length = t.Rows.length + x.1 + 1 ∧ x.2 = recPhase t.Phase :: (t.Rows.map recRow ++ (t.Marks.take x.1).map recMark)) (fun x => t.Marks.length - x.1) (0, a) ?_ ⟨Nat.zero_le _, by simp only; omega, by simp only [List.take_zero, List.map_nil, List.append_nil]; exact he⟩ ?_
      · simp -implicitDefEqProofs only [go_sem]
        try rfl
      · rintro ⟨j, b⟩ ⟨hj, hbl, hbe⟩
        simp only at hj hbl hbe
        cases q2 : decide ((j : Int) < (t.Marks.length : Int))
        · have k2 : j = t.Marks.length := by simp only [decide_eq_false_iff_not] at q2; omega
          rw [k2, List.take_length] at hbe
          have e9 : recsOf t = b := hbe.symm
          have e8 : List.take b.length (List.map (RecV.enc true) b) = List.map (RecV.enc true) b := List.take_of_length_le (by simp)
          try simp -implicitDefEqProofs only [go_sem, q2, e9, e8]
          repeat (first | refine ⟨rfl, ?_⟩ | refine ⟨by decide, ?_⟩ | refine ⟨⟨by decide, by decide⟩, ?_⟩ | refine ⟨decide_eq_true (by omega), ?_⟩ | refine ⟨⟨decide_eq_true (by omega), decide_eq_true (by omega)⟩, ?_⟩)
          try (first | done | decide | exact decide_eq_true (by omega) | exact ⟨decide_eq_true (by omega), decide_eq_true (by omega)⟩)
        · have k2 : j < t.Marks.length := by simp only [decide_eq_true_eq] at q2; omega
          have ea : List.map (RecV.enc true) b ++ [[iT 4, sT ⟨#[]⟩, iT 0, Tr.sl true 1 () [], iT 0, Tr.sl true 1 () [], iT 0, bT false, sT ⟨#[]⟩, iT 0, iT t.Marks[j].Who, iT t.Marks[j].Seq, iT t.Marks[j].Code]] = List.map (RecV.enc true) (b ++ [recMark t.Marks[j]]) := by rw [List.map_append]; rfl
          have et : List.take b.length (List.map (RecV.enc true) b) = List.map (RecV.enc true) b := List.take_of_length_le (by simp)
          try simp -implicitDefEqProofs only [go_sem, q2, List.getElem?_eq_getElem k2, et, ea]
          repeat (first | refine ⟨rfl, ?_⟩ | refine ⟨by decide, ?_⟩ | refine ⟨⟨by decide, by decide⟩, ?_⟩ | refine ⟨decide_eq_true (by omega), ?_⟩ | refine ⟨⟨decide_eq_true (by omega), decide_eq_true (by omega)⟩, ?_⟩)
          try (first | done | decide | exact decide_eq_true (by omega) | exact ⟨decide_eq_true (by omega), decide_eq_true (by omega)⟩)
          refine ⟨(j + 1, b ++ [recMark t.Marks[j]]), ?_, ⟨k2, ?_, ?_⟩, ?_⟩
          · rw [IntWalk.i64_in _ (by omega)]
            simp only [List.length_append]
            rfl
          · simp only [List.length_append, List.length_cons, List.length_nil]; omega
          · rw [hbe, recs_marks k2]
          · simp only; omega
    · have k1 : i < t.Rows.length := by simp only [decide_eq_true_eq] at q; omega
      have ea : List.map (RecV.enc true) a ++ [[iT 1, sT t.Rows[i].Key, iT t.Rows[i].Old.Tag, slT true 1 uR t.Rows[i].Old.B, iT t.Rows[i].New.Tag, slT true 1 uR t.Rows[i].New.B, iT t.Rows[i].Has, bT t.Rows[i].Aside, sT ⟨#[]⟩, iT 0, iT 0, iT 0, iT 0]] = List.map (RecV.enc true) (a ++ [recRow t.Rows[i]]) := by rw [List.map_append]; rfl
      have et : List.take a.length (List.map (RecV.enc true) a) = List.map (RecV.enc true) a := List.take_of_length_le (by simp)
      try simp -implicitDefEqProofs only [go_sem, q, List.getElem?_eq_getElem k1]
      repeat (first | refine ⟨rfl, ?_⟩ | refine ⟨by decide, ?_⟩ | refine ⟨⟨by decide, by decide⟩, ?_⟩ | refine ⟨decide_eq_true (by omega), ?_⟩ | refine ⟨⟨decide_eq_true (by omega), decide_eq_true (by omega)⟩, ?_⟩)
      try (first | done | decide | exact decide_eq_true (by omega) | exact ⟨decide_eq_true (by omega), decide_eq_true (by omega)⟩)
      refine .of (c_s_l9Copy t.Rows[i] (hRl _ (List.getElem_mem k1))) ?_
      try simp -implicitDefEqProofs only [go_sem, et, ea]
      repeat (first | refine ⟨rfl, ?_⟩ | refine ⟨by decide, ?_⟩ | refine ⟨⟨by decide, by decide⟩, ?_⟩ | refine ⟨decide_eq_true (by omega), ?_⟩ | refine ⟨⟨decide_eq_true (by omega), decide_eq_true (by omega)⟩, ?_⟩)
      try (first | done | decide | exact decide_eq_true (by omega) | exact ⟨decide_eq_true (by omega), decide_eq_true (by omega)⟩)
      refine ⟨(i + 1, a ++ [recRow t.Rows[i]]), ?_, ⟨k1, ?_, ?_⟩, ?_⟩
      · rw [IntWalk.i64_in _ (by omega)]
        simp only [List.length_append]
        rfl
      · simp only [List.length_append, List.length_cons, List.length_nil]; omega
      · rw [he, recs_rows k1]
      · simp only; omega
end Go.X

/- Vl -/
namespace Go.X
set_option maxRecDepth 100000
set_option maxHeartbeats 8000000
abbrev secR (o : Bool) (y : List UInt8) : List T := [slT o 1 uR y]
def devNew (n : Int) : DevV := bif win n 1 64 then ⟨List.replicate n.toNat [], [], -1, false⟩ else ⟨[], [], 0, false⟩
theorem rep_secs (k : Nat) : (List.replicate k [Tr.sl true 1 () []] : List (List T)) = List.map (secR true) (List.replicate k []) := by rw [List.map_replicate]; rfl
theorem app1S (l : List (List UInt8)) (x : List UInt8) : List.map (secR true) l ++ [[slT true 1 uR x]] = List.map (secR true) (l ++ [x]) := by rw [List.map_append]; rfl
theorem app1W (l : List WrV) (x : WrV) : List.map (WrV.enc true) l ++ [[iT x.N, slT true 1 uR x.B]] = List.map (WrV.enc true) (l ++ [x]) := by rw [List.map_append]; rfl
theorem take_all {α β : Type} (f : α → β) (l : List α) : List.take l.length (List.map f l) = List.map f l := List.take_of_length_le (by simp)
theorem rep_step (i : Nat) : (List.replicate i ([] : List UInt8)) ++ [[]] = List.replicate (i + 1) [] := by rw [List.replicate_succ']
def x_i_DevNew : FnX := ⟨10, [.cell 2 (some 4)],
  .q [.op 2 (.alloc [.nils 1, .nils 2, .i 0, .F])]
 (.seq (.q [.m 3 0, .op 4 (.call 25 [0, 0, 0] [(.t 3), (.i 1), (.i 64)]), .N 5 4]
 (.c 5 (.q [.op 6 (.build [.nils 1, .nils 2, .i 0, .F] []), .s 100001 4 2 6]
 .ret)))
 (.q [.m 7 0, .op 8 (.mks 1 24 [.sl true 1 () []] (.t 7)), .op 9 (.build [.nils 1, .nils 2, .i 0, .F] [(0, 1, (.t 8)), (2, 1, (.i (-1)))]), .s 100002 4 2 9]
 .ret))⟩
abbrev C_i_DevNew (Te : TE) : Prop := ∀ (n : Int), Te 46 [.one (iT n)] ⟨[.agg ((devNew n).enc true)], [[iT n]]⟩
theorem r_i_DevNew {Te : TE} (c_i_within : C_i_within Te) : C_i_DevNew (RF Te x_i_DevNew) := by
  intro n
  refine run0 ?_
  simp -implicitDefEqProofs only [x_i_DevNew, go_sem]
  repeat (first | refine ⟨rfl, ?_⟩ | refine ⟨by decide, ?_⟩ | refine ⟨⟨by decide, by decide⟩, ?_⟩ | refine ⟨decide_eq_true (by omega), ?_⟩ | refine ⟨⟨decide_eq_true (by omega), decide_eq_true (by omega)⟩, ?_⟩)
  try (first | done | decide | exact decide_eq_true (by omega) | exact ⟨decide_eq_true (by omega), decide_eq_true (by omega)⟩)
  refine .of (c_i_within _ _ _) ?_
  try simp -implicitDefEqProofs only [go_sem]
  repeat (first | refine ⟨rfl, ?_⟩ | refine ⟨by decide, ?_⟩ | refine ⟨⟨by decide, by decide⟩, ?_⟩ | refine ⟨decide_eq_true (by omega), ?_⟩ | refine ⟨⟨decide_eq_true (by omega), decide_eq_true (by omega)⟩, ?_⟩)
  try (first | done | decide | exact decide_eq_true (by omega) | exact ⟨decide_eq_true (by omega), decide_eq_true (by omega)⟩)
  cases g : win n 1 64
  · have e : devNew n = ⟨[], [], 0, false⟩ := by rw [devNew, g]; rfl
    try simp -implicitDefEqProofs only [go_sem, e]
    repeat (first | refine ⟨rfl, ?_⟩ | refine ⟨by decide, ?_⟩ | refine ⟨⟨by decide, by decide⟩, ?_⟩ | refine ⟨decide_eq_true (by omega), ?_⟩ | refine ⟨⟨decide_eq_true (by omega), decide_eq_true (by omega)⟩, ?_⟩)
    try (first | done | decide | exact decide_eq_true (by omega) | exact ⟨decide_eq_true (by omega), decide_eq_true (by omega)⟩)
    try rfl
  · have e : devNew n = ⟨List.replicate n.toNat [], [], -1, false⟩ := by rw [devNew, g]; rfl
    have g' := g
    simp only [win, Bool.and_eq_true, decide_eq_true_eq] at g'
    have gz : decide (0 ≤ n) = true := decide_eq_true (by omega)
    have gr := rep_secs n.toNat
    have et : List.take n.toNat (List.map (secR true) (List.replicate n.toNat [])) = List.map (secR true) (List.replicate n.toNat []) := List.take_of_length_le (by simp)
    try simp -implicitDefEqProofs only [go_sem, gz, gr, e, et]
    repeat (first | refine ⟨rfl, ?_⟩ | refine ⟨by decide, ?_⟩ | refine ⟨⟨by decide, by decide⟩, ?_⟩ | refine ⟨decide_eq_true (by omega), ?_⟩ | refine ⟨⟨decide_eq_true (by omega), decide_eq_true (by omega)⟩, ?_⟩)
    try (first | done | decide | exact decide_eq_true (by omega) | exact ⟨decide_eq_true (by omega), decide_eq_true (by omega)⟩)
    try rfl
def x_s_DevNew : FnX := ⟨22, [.cell 2 (some 4)],
  .q [.op 2 (.alloc [.nils 1, .nils 2, .i 0, .F])]
 (.seq (.q [.m 5 0, .op 6 (.call 23 [0, 0, 0] [(.t 5), (.i 1), (.i 64)]), .N 7 6]
 (.c 7 (.q [.op 8 (.build [.nils 1, .nils 2, .i 0, .F] []), .s 100001 4 2 8]
 .ret)))
 (.q [.op 9 (.build [.nils 1, .nils 2, .i 0, .F] [(2, 1, (.i (-1)))]), .op 3 (.alloc [.nils 1, .nils 2, .i 0, .F]), .s 100002 4 3 9]
 (.seq (.q [.i 4 0]
 (.up 3 0 300000 (.block 0 (.loop [0, 2, 3, 4] (.seq (.q [.m 10 4, .m 11 0, .b 12 .lss 10 11]
 (.cond 12 .skip (.exit 0)))
 (.seq (.block 1 (.reg [.f 15 3 0, .l 16 15, .op 17 (.bslice 1 []), .op 18 (.bslice 1 [(.t 17)]), .op 19 (.app 1 24 (.t 16) (.t 18)), .f 20 3 0, .s 100003 1 20 19]))
 (.reg [.m 13 4, .B 14 .add 13 1, .m 4 14])))))))
 (.norm [2, 3] (.q [.L 21 4 3, .s 100004 4 2 21]
 .ret)))))⟩
abbrev C_s_DevNew (Te : TE) : Prop := ∀ (n : Int), Te 42 [.one (iT n)] ⟨[.agg ((devNew n).enc true)], [[iT n]]⟩
theorem r_s_DevNew {Te : TE} (c_s_l1In : C_s_l1In Te) : C_s_DevNew (RF Te x_s_DevNew) := by
  intro n
  refine run0 ?_
  simp -implicitDefEqProofs only [x_s_DevNew, go_sem]
  repeat (first | refine ⟨rfl, ?_⟩ | refine ⟨by decide, ?_⟩ | refine ⟨⟨by decide, by decide⟩, ?_⟩ | refine ⟨decide_eq_true (by omega), ?_⟩ | refine ⟨⟨decide_eq_true (by omega), decide_eq_true (by omega)⟩, ?_⟩)
  try (first | done | decide | exact decide_eq_true (by omega) | exact ⟨decide_eq_true (by omega), decide_eq_true (by omega)⟩)
  refine .of (c_s_l1In _ _ _) ?_
  try simp -implicitDefEqProofs only [go_sem]
  repeat (first | refine ⟨rfl, ?_⟩ | refine ⟨by decide, ?_⟩ | refine ⟨⟨by decide, by decide⟩, ?_⟩ | refine ⟨decide_eq_true (by omega), ?_⟩ | refine ⟨⟨decide_eq_true (by omega), decide_eq_true (by omega)⟩, ?_⟩)
  try (first | done | decide | exact decide_eq_true (by omega) | exact ⟨decide_eq_true (by omega), decide_eq_true (by omega)⟩)
  cases g : win n 1 64
  · have e : devNew n = ⟨[], [], 0, false⟩ := by rw [devNew, g]; rfl
    try simp -implicitDefEqProofs only [go_sem, e]
    repeat (first | refine ⟨rfl, ?_⟩ | refine ⟨by decide, ?_⟩ | refine ⟨⟨by decide, by decide⟩, ?_⟩ | refine ⟨decide_eq_true (by omega), ?_⟩ | refine ⟨⟨decide_eq_true (by omega), decide_eq_true (by omega)⟩, ?_⟩)
    try (first | done | decide | exact decide_eq_true (by omega) | exact ⟨decide_eq_true (by omega), decide_eq_true (by omega)⟩)
    try rfl
  · have e : devNew n = ⟨List.replicate n.toNat [], [], -1, false⟩ := by rw [devNew, g]; rfl
    have g' := g
    simp only [win, Bool.and_eq_true, decide_eq_true_eq] at g'
    try simp -implicitDefEqProofs only [go_sem]
    repeat (first | refine ⟨rfl, ?_⟩ | refine ⟨by decide, ?_⟩ | refine ⟨⟨by decide, by decide⟩, ?_⟩ | refine ⟨decide_eq_true (by omega), ?_⟩ | refine ⟨⟨decide_eq_true (by omega), decide_eq_true (by omega)⟩, ?_⟩)
    try (first | done | decide | exact decide_eq_true (by omega) | exact ⟨decide_eq_true (by omega), decide_eq_true (by omega)⟩)
    refine loop_of (σ := Nat × List (List UInt8)) (fun x => ⟨[(0, .one (.pv (.int .i64 n))), (2, .bp 2 0), (3, .bp 3 0), (4, .one (.pv (.int .i64 x.1)))], [(2, [.nils 1, .nils 2, .pv (.int .i64 0), .pv (.bool false)]), (3, [.rf 23 0 [] 1 0 x.2.length, .nils 2, .pv (.int .i64 (-1)), .pv (.bool false)])], [(0, [iT n]), (23, [slT true 1 (secR true) x.2])]⟩) (fun x => x.1 ≤ n.toNat ∧ x.2 = List.replicate x.1 []) (fun x => n.toNat - x.1) (0, []) ?_ ⟨Nat.zero_le _, rfl⟩ ?_
    · simp -implicitDefEqProofs only [go_sem]
      try rfl
    · rintro ⟨i, l⟩ ⟨hi, he⟩
      simp only at hi he
      have hl : l.length = i := by rw [he, List.length_replicate]
      cases q : decide ((i : Int) < n)
      · have k0 : i = n.toNat := by simp only [decide_eq_false_iff_not] at q; omega
        have e2 : devNew n = ⟨l, [], -1, false⟩ := by rw [e, he, k0]
        try simp -implicitDefEqProofs only [go_sem, q, e2]
        repeat (first | refine ⟨rfl, ?_⟩ | refine ⟨by decide, ?_⟩ | refine ⟨⟨by decide, by decide⟩, ?_⟩ | refine ⟨decide_eq_true (by omega), ?_⟩ | refine ⟨⟨decide_eq_true (by omega), decide_eq_true (by omega)⟩, ?_⟩)
        try (first | done | decide | exact decide_eq_true (by omega) | exact ⟨decide_eq_true (by omega), decide_eq_true (by omega)⟩)
        try rfl
      · have k1 : i < n.toNat := by simp only [decide_eq_true_eq] at q; omega
        have ea : List.map (secR true) l ++ [[Tr.sl true 1 () []]] = List.map (secR true) (l ++ [[]]) := app1S l []
        try simp -implicitDefEqProofs only [go_sem, q, take_all, ea]
        repeat (first | refine ⟨rfl, ?_⟩ | refine ⟨by decide, ?_⟩ | refine ⟨⟨by decide, by decide⟩, ?_⟩ | refine ⟨decide_eq_true (by omega), ?_⟩ | refine ⟨⟨decide_eq_true (by omega), decide_eq_true (by omega)⟩, ?_⟩)
        try (first | done | decide | exact decide_eq_true (by omega) | exact ⟨decide_eq_true (by omega), decide_eq_true (by omega)⟩)
        refine ⟨(i + 1, l ++ [[]]), ?_, ⟨k1, by rw [he, rep_step]⟩, by simp only; omega⟩
        rw [IntWalk.i64_in _ (by omega)]
        simp only [List.length_append]
        rfl
def DevV.burn (d : DevV) : DevV := if d.Fuse = 0 then ⟨d.Secs, d.Cache, -1, true⟩ else if d.Fuse > 0 then ⟨d.Secs, d.Cache, IntKind.i64.wrap (d.Fuse - 1), d.Down⟩ else d
def DevV.full (d : DevV) (n : Int) (b : List UInt8) : Bool := d.Down || (!win n 0 ((d.Secs.length : Int) - 1) || (decide ((b.length : Int) > 120) || decide ((d.Cache.length : Int) ≥ 40)))
def DevV.put (d : DevV) (n : Int) (b : List UInt8) : DevV := ⟨d.Secs, d.Cache ++ [⟨n, b⟩], d.Fuse, d.Down⟩
def DevV.write (d : DevV) (n : Int) (b : List UInt8) : DevV := if d.full n b = true then d else if d.Fuse = 0 then d.burn else d.burn.put n b
def flushed (S : List (List UInt8)) (C : List WrV) : List (List UInt8) := C.foldl (fun s w => s.set w.N.toNat w.B) S
def DevV.flush (d : DevV) : DevV := if d.Down = true then d else if d.Fuse = 0 then d.burn else ⟨flushed d.Secs d.Cache, [], d.burn.Fuse, d.burn.Down⟩
theorem flushed_len (C : List WrV) : ∀ S : List (List UInt8), (flushed S C).length = S.length := by
  induction C with
  | nil => intro S; rfl
  | cons w C ih => intro S; show (flushed (S.set w.N.toNat w.B) C).length = S.length; rw [ih, List.length_set]
theorem flushed_step {C : List WrV} {i : Nat} (h : i < C.length) (S : List (List UInt8)) : (flushed S (C.take i)).set C[i].N.toNat C[i].B = flushed S (C.take (i + 1)) := by
  rw [List.take_succ_eq_append_getElem h, flushed, flushed, List.foldl_append]; rfl
theorem burn_secs (d : DevV) : d.burn.Secs = d.Secs := by
  unfold DevV.burn
  split
  · rfl
  · split <;> rfl
theorem burn_cache (d : DevV) : d.burn.Cache = d.Cache := by
  unfold DevV.burn
  split
  · rfl
  · split <;> rfl
theorem DevV.ok_in {d : DevV} (h : d.ok = true) : d.In (2 ^ 20) := by
  simp only [DevV.ok, Bool.and_eq_true, win, decide_eq_true_eq, List.all_eq_true, secGood, wrGood, Bool.not_eq_true', decide_eq_false_iff_not] at h
  obtain ⟨⟨⟨⟨⟨h1, h2⟩, h3⟩, _⟩, h4⟩, h5⟩ := h
  refine ⟨⟨by omega, fun y hy => ?_⟩, by omega, fun y hy => ?_⟩
  · have := h4 y hy; omega
  · have := (h5 y hy).2; show y.B.length ≤ 2 ^ 20; omega
theorem DevV.ok_idx {d : DevV} (h : d.ok = true) : ∀ w ∈ d.Cache, 0 ≤ w.N ∧ w.N < d.Secs.length := by
  simp only [DevV.ok, Bool.and_eq_true, win, decide_eq_true_eq, List.all_eq_true, wrGood] at h
  intro w hw
  have := (h.2 w hw).1
  omega
theorem DevV.ok_cache {d : DevV} (h : d.ok = true) : d.Cache.length ≤ 40 := by
  simp only [DevV.ok, Bool.and_eq_true, decide_eq_true_eq] at h
  omega
def x_i_copyDev : FnX := ⟨50, [.cell 2 (some 4)],
  .q [.v 1 0, .op 2 (.alloc [.nils 1, .nils 2, .i 0, .F])]
 (.q [.f 8 1 2, .l 9 8, .f 10 1 3, .l 11 10, .op 12 (.build [.nils 1, .nils 2, .i 0, .F] [(2, 1, (.t 9)), (3, 1, (.t 11))]), .op 3 (.alloc [.nils 1, .nils 2, .i 0, .F]), .s 100001 4 3 12]
 (.seq (.q [.f 13 1 0, .l 14 13, .n 15 14, .i 16 0]
 (.up 3 1 300001 (.up 3 0 300000 (.block 0 (.loop [1, 2, 3, 14, 15, 16] (.q [.b 17 .lss 16 15]
 (.seq (.cond 17 .skip (.exit 0))
 (.seq (.block 1 (.q [.x 18 1 14 16, .l 19 18, .m 5 19]
 (.draw [.f 20 3 0, .l 21 20, .m 22 5, .op 23 (.bslice 1 [(.t 22)]), .c 24 121 [23], .op 25 (.bslice 1 [(.t 24)]), .op 26 (.app 1 24 (.t 21) (.t 25)), .f 27 3 0, .s 100002 1 27 26] [[], [0], [], [2], [3], [4], [1, 5, 4], [0, 1, 2, 3, 4, 5, 6], [7, 6, 6, 0, 1, 2, 3, 4, 5, 6]])))
 (.reg [.B 28 .add 16 1, .m 16 28])))))))))
 (.norm [1, 2, 3] (.seq (.q [.f 29 1 1, .l 30 29, .n 31 30, .i 32 0]
 (.block 2 (.loop [2, 3, 30, 31, 32] (.q [.b 33 .lss 32 31]
 (.seq (.cond 33 .skip (.exit 2))
 (.seq (.block 3 (.q [.x 34 2 30 32, .L 35 2 34, .op 7 (.alloc [.i 0, .nils 1]), .s 100003 2 7 35]
 (.draw [.f 36 3 1, .l 37 36, .f 38 7 0, .l 39 38, .f 40 7 1, .l 41 40, .op 42 (.bslice 1 [(.t 41)]), .c 43 121 [42], .op 44 (.build [.i 0, .nils 1] [(0, 1, (.t 39)), (1, 1, (.t 43))]), .op 45 (.bslice 2 [(.t 44)]), .op 46 (.app 2 32 (.t 37) (.t 45)), .f 47 3 1, .s 100004 1 47 46] [[], [0], [], [2], [], [4], [5], [6], [3, 7], [8], [1, 9, 7], [0, 1, 2, 3, 4, 5, 6, 7, 8, 9, 10], [11, 10, 10, 0, 1, 2, 3, 4, 5, 6, 7, 8, 9, 10]])))
 (.reg [.B 48 .add 32 1, .m 32 48])))))))
 (.norm [2, 3] (.q [.L 49 4 3, .s 100005 4 2 49]
 .ret))))))⟩
abbrev C_i_copyDev (Te : TE) : Prop := ∀ (d : DevV) (h : d.Len), Te 119 [.agg (d.enc false)] ⟨[.agg (d.enc true)], [d.enc false]⟩
theorem r_i_copyDev {Te : TE} (c_i_joined : C_i_joined Te) : C_i_copyDev (RF Te x_i_copyDev) := by
  intro d h
  refine run0 ?_
  obtain ⟨⟨hS, hSl⟩, hC, hCl⟩ := h
  simp -implicitDefEqProofs only [x_i_copyDev, go_sem]
  repeat (first | refine ⟨rfl, ?_⟩ | refine ⟨by decide, ?_⟩ | refine ⟨⟨by decide, by decide⟩, ?_⟩ | refine ⟨decide_eq_true (by omega), ?_⟩ | refine ⟨⟨decide_eq_true (by omega), decide_eq_true (by omega)⟩, ?_⟩)
  try (first | done | decide | exact decide_eq_true (by omega) | exact ⟨decide_eq_true (by omega), decide_eq_true (by omega)⟩)
  refine loop_of (σ := Nat × List (List UInt8)) (fun x => ⟨[(1, .bp 1 0), (2, .bp 2 0), (3, .bp 3 0), (14, .one (.ro 1 (d.Secs.map (secR false)))), (15, .one (.pv (.int .i64 d.Secs.length))), (16, .one (.pv (.int .i64 x.1)))], [(1, [.ro 1 (d.Secs.map (secR false)), .ro 2 (d.Cache.map (WrV.enc false)), .pv (.int .i64 d.Fuse), .pv (.bool d.Down)]), (2, [.nils 1, .nils 2, .pv (.int .i64 0), .pv (.bool false)]), (3, [.rf 51 0 [] 1 0 x.2.length, .rf 52 0 [] 2 0 0, .pv (.int .i64 d.Fuse), .pv (.bool d.Down)])], [(0, d.enc false), (51, [slT true 1 (secR true) x.2]), (52, [slT true 2 (WrV.enc true) []])]⟩) (fun x => x.1 ≤ d.Secs.length ∧ x.2 = d.Secs.take x.1) (fun x => d.Secs.length - x.1) (0, []) ?_ ⟨Nat.zero_le _, rfl⟩ ?_
  · simp -implicitDefEqProofs only [go_sem]
    try rfl
  · rintro ⟨i, l⟩ ⟨hi, he⟩
    simp only at hi he
    have hl : l.length = i := by rw [he, List.length_take]; omega
    cases q : decide ((i : Int) < (d.Secs.length : Int))
    · have k0 : i = d.Secs.length := by simp only [decide_eq_false_iff_not] at q; omega
      rw [k0, List.take_length] at he
      subst he
      try simp -implicitDefEqProofs only [go_sem, q]
      repeat (first | refine ⟨rfl, ?_⟩ | refine ⟨by decide, ?_⟩ | refine ⟨⟨by decide, by decide⟩, ?_⟩ | refine ⟨decide_eq_true (by omega), ?_⟩ | refine ⟨⟨decide_eq_true (by omega), decide_eq_true (by omega)⟩, ?_⟩)
      try (first | done | decide | exact decide_eq_true (by omega) | exact ⟨decide_eq_true (by omega), decide_eq_true (by omega)⟩)
      refine loop_of (σ := Nat × List WrV) (fun x => ⟨[(2, .bp 2 0), (3, .bp 3 0), (30, .one (.ro 2 (d.Cache.map (WrV.enc false)))), (31, .one (.pv (.int .i64 d.Cache.length))), (32, .one (.pv (.int .i64 x.1)))], [(2, [.nils 1, .nils 2, .pv (.int .i64 0), .pv (.bool false)]), (3, [.rf 51 0 [] 1 0 d.Secs.length, .rf 52 0 [] 2 0 x.2.length, .pv (.int .i64 d.Fuse), .pv (.bool d.Down)])], [(0, d.enc false), (51, [slT true 1 (secR true) d.Secs]), (52, [slT true 2 (WrV.enc true) x.2])]⟩) (fun x => x.1 ≤ d.Cache.length ∧ x.2 = d.Cache.take x.1) (fun x => d.Cache.length - x.1) (0, []) ?_ ⟨Nat.zero_le _, rfl⟩ ?_
      · simp -implicitDefEqProofs only [go_sem]
        try rfl
      · rintro ⟨j, m⟩ ⟨hj, hm⟩
        simp only at hj hm
        have hml : m.length = j := by rw [hm, List.length_take]; omega
        cases q2 : decide ((j : Int) < (d.Cache.length : Int))
        · have k2 : j = d.Cache.length := by simp only [decide_eq_false_iff_not] at q2; omega
          rw [k2, List.take_length] at hm
          subst hm
          try simp -implicitDefEqProofs only [go_sem, q2, take_all]
          repeat (first | refine ⟨rfl, ?_⟩ | refine ⟨by decide, ?_⟩ | refine ⟨⟨by decide, by decide⟩, ?_⟩ | refine ⟨decide_eq_true (by omega), ?_⟩ | refine ⟨⟨decide_eq_true (by omega), decide_eq_true (by omega)⟩, ?_⟩)
          try (first | done | decide | exact decide_eq_true (by omega) | exact ⟨decide_eq_true (by omega), decide_eq_true (by omega)⟩)
          try rfl
        · have k2 : j < d.Cache.length := by simp only [decide_eq_true_eq] at q2; omega
          have hb : d.Cache[j].B.length ≤ 2 ^ 21 := hCl _ (List.getElem_mem k2)
          have ea := app1W m d.Cache[j]
          try simp -implicitDefEqProofs only [go_sem, q2, List.getElem?_eq_getElem k2]
          repeat (first | refine ⟨rfl, ?_⟩ | refine ⟨by decide, ?_⟩ | refine ⟨⟨by decide, by decide⟩, ?_⟩ | refine ⟨decide_eq_true (by omega), ?_⟩ | refine ⟨⟨decide_eq_true (by omega), decide_eq_true (by omega)⟩, ?_⟩)
          try (first | done | decide | exact decide_eq_true (by omega) | exact ⟨decide_eq_true (by omega), decide_eq_true (by omega)⟩)
          refine .of (c_i_joined [d.Cache[j].B] (by rw [flat1]; omega) (by show 1 ≤ 2 ^ 31; decide)) ?_
          try simp -implicitDefEqProofs only [go_sem, flat1, take_all, ea]
          repeat (first | refine ⟨rfl, ?_⟩ | refine ⟨by decide, ?_⟩ | refine ⟨⟨by decide, by decide⟩, ?_⟩ | refine ⟨decide_eq_true (by omega), ?_⟩ | refine ⟨⟨decide_eq_true (by omega), decide_eq_true (by omega)⟩, ?_⟩)
          try (first | done | decide | exact decide_eq_true (by omega) | exact ⟨decide_eq_true (by omega), decide_eq_true (by omega)⟩)
          refine ⟨(j + 1, m ++ [d.Cache[j]]), ?_, ⟨k2, by rw [hm, List.take_succ_eq_append_getElem k2]⟩, by simp only; omega⟩
          rw [IntWalk.i64_in _ (by omega)]
          simp only [List.length_append]
          rfl
    · have k1 : i < d.Secs.length := by simp only [decide_eq_true_eq] at q; omega
      have hb : d.Secs[i].length ≤ 2 ^ 21 := hSl _ (List.getElem_mem k1)
      have ea := app1S l d.Secs[i]
      try simp -implicitDefEqProofs only [go_sem, q, List.getElem?_eq_getElem k1]
      repeat (first | refine ⟨rfl, ?_⟩ | refine ⟨by decide, ?_⟩ | refine ⟨⟨by decide, by decide⟩, ?_⟩ | refine ⟨decide_eq_true (by omega), ?_⟩ | refine ⟨⟨decide_eq_true (by omega), decide_eq_true (by omega)⟩, ?_⟩)
      try (first | done | decide | exact decide_eq_true (by omega) | exact ⟨decide_eq_true (by omega), decide_eq_true (by omega)⟩)
      refine .of (c_i_joined [d.Secs[i]] (by rw [flat1]; omega) (by show 1 ≤ 2 ^ 31; decide)) ?_
      try simp -implicitDefEqProofs only [go_sem, flat1, take_all, ea]
      repeat (first | refine ⟨rfl, ?_⟩ | refine ⟨by decide, ?_⟩ | refine ⟨⟨by decide, by decide⟩, ?_⟩ | refine ⟨decide_eq_true (by omega), ?_⟩ | refine ⟨⟨decide_eq_true (by omega), decide_eq_true (by omega)⟩, ?_⟩)
      try (first | done | decide | exact decide_eq_true (by omega) | exact ⟨decide_eq_true (by omega), decide_eq_true (by omega)⟩)
      refine ⟨(i + 1, l ++ [d.Secs[i]]), ?_, ⟨k1, by rw [he, List.take_succ_eq_append_getElem k1]⟩, by simp only; omega⟩
      rw [IntWalk.i64_in _ (by omega)]
      simp only [List.length_append]
      rfl
def x_i_burn : FnX := ⟨18, [.cell 2 (some 4), .tmp 3],
  .q [.v 1 0, .op 2 (.alloc [.nils 1, .nils 2, .i 0, .F]), .F 3]
 (.seq (.q [.f 4 1 2, .l 5 4, .B 6 .eql 5 0]
 (.c 6 (.q [.f 7 1 3, ⟨none, none, 100001, .store 1 (.t 7) .T⟩, .f 8 1 2, ⟨none, none, 100002, .store 1 (.t 8) (.i (-1))⟩]
 (.q [.L 9 4 1, .s 100003 4 2 9, .F 3]
 .ret))))
 (.seq (.q [.f 10 1 2, .l 11 10, .B 12 .gtr 11 0]
 (.c 12 (.reg [.f 13 1 2, .l 14 13, .B 15 .sub 14 1, .f 16 1 2, .s 100004 1 16 15])))
 (.q [.L 17 4 1, .s 100005 4 2 17, .T 3]
 .ret)))⟩
abbrev C_i_burn (Te : TE) : Prop := ∀ (d : DevV), Te 120 [.agg (d.enc true)] ⟨[.agg (d.burn.enc true), .one (bT (!(d.Fuse == 0)))], [[.no (), .no (), iT d.Fuse, bT d.Down]]⟩
theorem r_i_burn {Te : TE} : C_i_burn (RF Te x_i_burn) := by
  intro d
  refine run0 ?_
  cases g : (d.Fuse == 0)
  · have g1 : ¬ d.Fuse = 0 := by simpa using g
    cases g2 : decide (d.Fuse > 0)
    · have e : d.burn = d := by rw [DevV.burn, if_neg g1, if_neg (by simpa using g2)]
      simp -implicitDefEqProofs only [x_i_burn, go_sem, g, g2, e, take_all]
      repeat (first | refine ⟨rfl, ?_⟩ | refine ⟨by decide, ?_⟩ | refine ⟨⟨by decide, by decide⟩, ?_⟩ | refine ⟨decide_eq_true (by omega), ?_⟩ | refine ⟨⟨decide_eq_true (by omega), decide_eq_true (by omega)⟩, ?_⟩)
      try (first | done | decide | exact decide_eq_true (by omega) | exact ⟨decide_eq_true (by omega), decide_eq_true (by omega)⟩)
      try rfl
    · have e : d.burn = ⟨d.Secs, d.Cache, IntKind.i64.wrap (d.Fuse - 1), d.Down⟩ := by rw [DevV.burn, if_neg g1, if_pos (by simpa using g2)]
      simp -implicitDefEqProofs only [x_i_burn, go_sem, g, g2, e, take_all]
      repeat (first | refine ⟨rfl, ?_⟩ | refine ⟨by decide, ?_⟩ | refine ⟨⟨by decide, by decide⟩, ?_⟩ | refine ⟨decide_eq_true (by omega), ?_⟩ | refine ⟨⟨decide_eq_true (by omega), decide_eq_true (by omega)⟩, ?_⟩)
      try (first | done | decide | exact decide_eq_true (by omega) | exact ⟨decide_eq_true (by omega), decide_eq_true (by omega)⟩)
      try rfl
  · have g1 : d.Fuse = 0 := by simpa using g
    have e : d.burn = ⟨d.Secs, d.Cache, -1, true⟩ := by rw [DevV.burn, if_pos g1]
    simp -implicitDefEqProofs only [x_i_burn, go_sem, g, e, take_all]
    repeat (first | refine ⟨rfl, ?_⟩ | refine ⟨by decide, ?_⟩ | refine ⟨⟨by decide, by decide⟩, ?_⟩ | refine ⟨decide_eq_true (by omega), ?_⟩ | refine ⟨⟨decide_eq_true (by omega), decide_eq_true (by omega)⟩, ?_⟩)
    try (first | done | decide | exact decide_eq_true (by omega) | exact ⟨decide_eq_true (by omega), decide_eq_true (by omega)⟩)
    try rfl
def x_s_l10Op : FnX := ⟨27, [.tmp 2],
  .q [.F 2]
 (.seq (.q [.m 3 0, .op 4 (.nilc (.t 3)), .f 5 4 2, .l 6 5, .B 7 .eql 6 0]
 (.c 7 (.q [.m 8 0, .op 9 (.nilc (.t 8)), .f 10 9 3, ⟨none, none, 100001, .store 1 (.t 10) .T⟩]
 (.q [.m 11 0, .op 12 (.nilc (.t 11)), .f 13 12 2, ⟨none, none, 100002, .store 1 (.t 13) (.i (-1))⟩]
 (.q [.F 2]
 .ret)))))
 (.seq (.q [.m 14 0, .op 15 (.nilc (.t 14)), .f 16 15 2, .l 17 16, .B 18 .gtr 17 0]
 (.c 18 (.reg [.m 19 0, .m 20 0, .op 21 (.nilc (.t 20)), .f 22 21 2, .l 23 22, .B 24 .sub 23 1, .op 25 (.nilc (.t 19)), .f 26 25 2, .s 100003 1 26 24])))
 (.q [.T 2]
 .ret)))⟩
abbrev C_s_l10Op (Te : TE) : Prop := ∀ (d : DevV), Te 111 [.ptr (d.enc true)] ⟨[.one (bT (!(d.Fuse == 0)))], [d.burn.enc true]⟩
theorem r_s_l10Op {Te : TE} : C_s_l10Op (RF Te x_s_l10Op) := by
  intro d
  refine run0 ?_
  cases g : (d.Fuse == 0)
  · have g1 : ¬ d.Fuse = 0 := by simpa using g
    cases g2 : decide (d.Fuse > 0)
    · have e : d.burn = d := by rw [DevV.burn, if_neg g1, if_neg (by simpa using g2)]
      simp -implicitDefEqProofs only [x_s_l10Op, go_sem, g, g2, e, take_all]
      repeat (first | refine ⟨rfl, ?_⟩ | refine ⟨by decide, ?_⟩ | refine ⟨⟨by decide, by decide⟩, ?_⟩ | refine ⟨decide_eq_true (by omega), ?_⟩ | refine ⟨⟨decide_eq_true (by omega), decide_eq_true (by omega)⟩, ?_⟩)
      try (first | done | decide | exact decide_eq_true (by omega) | exact ⟨decide_eq_true (by omega), decide_eq_true (by omega)⟩)
      try rfl
    · have e : d.burn = ⟨d.Secs, d.Cache, IntKind.i64.wrap (d.Fuse - 1), d.Down⟩ := by rw [DevV.burn, if_neg g1, if_pos (by simpa using g2)]
      simp -implicitDefEqProofs only [x_s_l10Op, go_sem, g, g2, e, take_all]
      repeat (first | refine ⟨rfl, ?_⟩ | refine ⟨by decide, ?_⟩ | refine ⟨⟨by decide, by decide⟩, ?_⟩ | refine ⟨decide_eq_true (by omega), ?_⟩ | refine ⟨⟨decide_eq_true (by omega), decide_eq_true (by omega)⟩, ?_⟩)
      try (first | done | decide | exact decide_eq_true (by omega) | exact ⟨decide_eq_true (by omega), decide_eq_true (by omega)⟩)
      try rfl
  · have g1 : d.Fuse = 0 := by simpa using g
    have e : d.burn = ⟨d.Secs, d.Cache, -1, true⟩ := by rw [DevV.burn, if_pos g1]
    simp -implicitDefEqProofs only [x_s_l10Op, go_sem, g, e, take_all]
    repeat (first | refine ⟨rfl, ?_⟩ | refine ⟨by decide, ?_⟩ | refine ⟨⟨by decide, by decide⟩, ?_⟩ | refine ⟨decide_eq_true (by omega), ?_⟩ | refine ⟨⟨decide_eq_true (by omega), decide_eq_true (by omega)⟩, ?_⟩)
    try (first | done | decide | exact decide_eq_true (by omega) | exact ⟨decide_eq_true (by omega), decide_eq_true (by omega)⟩)
    try rfl
theorem full_down {d : DevV} {n : Int} {b : List UInt8} (h : d.Down = true) : d.write n b = d := by rw [DevV.write, if_pos (by rw [DevV.full, h]; rfl)]
theorem full_win {d : DevV} {n : Int} {b : List UInt8} (h : win n 0 ((d.Secs.length : Int) - 1) = false) : d.write n b = d := by rw [DevV.write, if_pos (by rw [DevV.full, h]; simp)]
theorem full_len {d : DevV} {n : Int} {b : List UInt8} (h : decide ((b.length : Int) > 120) = true) : d.write n b = d := by rw [DevV.write, if_pos (by rw [DevV.full, h]; simp)]
theorem full_cache {d : DevV} {n : Int} {b : List UInt8} (h : decide ((d.Cache.length : Int) ≥ 40) = true) : d.write n b = d := by rw [DevV.write, if_pos (by rw [DevV.full, h]; simp)]
theorem not_full {d : DevV} {n : Int} {b : List UInt8} (h1 : d.Down = false) (h2 : win n 0 ((d.Secs.length : Int) - 1) = true) (h3 : decide ((b.length : Int) > 120) = false) (h4 : decide ((d.Cache.length : Int) ≥ 40) = false) : d.write n b = if d.Fuse = 0 then d.burn else d.burn.put n b := by
  rw [DevV.write, if_neg (by rw [DevV.full, h1, h2, h3, h4]; decide)]
def x_i_WriteSec : FnX := ⟨56, [.cell 6 (some 4)],
  .q [.v 3 0, .op 6 (.alloc [.nils 1, .nils 2, .i 0, .F])]
 (.q [.L 9 4 3, .c 10 119 [9], .op 7 (.alloc [.nils 1, .nils 2, .i 0, .F]), .s 100001 4 7 10]
 (.seq (.q [.L 11 4 3, .c 12 101 [11], .N 13 12, .m 14 13, ⟨(some (14, false)), some 15, 15, .faddr (.t 3) 3⟩, ⟨(some (14, false)), some 16, 16, .load none (.t 15)⟩, .r 17 14 16, .m 18 17, ⟨(some (18, false)), some 19, 19, .mv (.t 1)⟩, ⟨(some (18, false)), some 20, 20, .faddr (.t 3) 0⟩, ⟨(some (18, false)), some 21, 21, .load none (.t 20)⟩, ⟨(some (18, false)), some 22, 22, .len (.t 21)⟩, ⟨(some (18, false)), some 23, 23, .bin .sub (.t 22) (.i 1)⟩, ⟨(some (18, false)), some 24, 24, .call 25 [0, 0, 0] [(.t 19), (.i 0), (.t 23)]⟩, ⟨(some (18, false)), some 25, 25, .not (.t 24)⟩, .r 26 18 25, .m 27 26, ⟨(some (27, false)), some 28, 28, .mv (.t 2)⟩, ⟨(some (27, false)), some 29, 29, .len (.t 28)⟩, ⟨(some (27, false)), some 30, 30, .bin .gtr (.t 29) (.i 120)⟩, .r 31 27 30, .m 32 31, ⟨(some (32, false)), some 33, 33, .faddr (.t 3) 1⟩, ⟨(some (32, false)), some 34, 34, .load none (.t 33)⟩, ⟨(some (32, false)), some 35, 35, .len (.t 34)⟩, ⟨(some (32, false)), some 36, 36, .bin .eql (.t 35) (.i 40)⟩, .r 37 32 36]
 (.c 37 (.q [.L 38 4 7, .s 100002 4 6 38]
 .ret)))
 (.q [.L 40 4 7, .op 41 (.call 120 [1] [(.t 40)]), .m 39 41, .e 42 39 0, .e 43 39 1, .s 100003 4 7 42, .m 8 43]
 (.seq (.q [.m 44 8]
 (.c 44 (.draw [.f 45 7 1, .l 46 45, .m 47 1, .m 48 2, .op 49 (.bslice 1 [(.t 48)]), .c 50 121 [49], .op 51 (.build [.i 0, .nils 1] [(0, 1, (.t 47)), (1, 1, (.t 50))]), .op 52 (.bslice 2 [(.t 51)]), .op 53 (.app 2 32 (.t 46) (.t 52)), .f 54 7 1, .s 100004 1 54 53] [[], [0], [], [], [3], [4], [2, 5], [6], [1, 7, 5], [0, 1, 2, 3, 4, 5, 6, 7, 8], [9, 8, 8, 0, 1, 2, 3, 4, 5, 6, 7, 8]])))
 (.q [.L 55 4 7, .s 100005 4 6 55]
 .ret)))))⟩
abbrev C_i_WriteSec (Te : TE) : Prop := ∀ (d : DevV) (n : Int) (b : List UInt8) (hk : d.ok = true) (hb : b.length ≤ 2 ^ 21), Te 76 [.agg (d.enc false), .one (iT n), .one (slT false 1 uR b)] ⟨[.agg ((d.write n b).enc true)], [d.enc false, [iT n], [slT false 1 uR b]]⟩
theorem r_i_WriteSec {Te : TE} (c_i_copyDev : C_i_copyDev Te) (c_i_DevOk : C_i_DevOk Te) (c_i_within : C_i_within Te) (c_i_burn : C_i_burn Te) (c_i_joined : C_i_joined Te) : C_i_WriteSec (RF Te x_i_WriteSec) := by
  intro d n b hk hb
  refine run0 ?_
  have hin := DevV.ok_in hk
  have hL := hin.len (by decide)
  have hl := hin.1.1
  have h40 := DevV.ok_cache hk
  have ws : IntKind.i64.wrap ((d.Secs.length : Int) - 1) = (d.Secs.length : Int) - 1 := IntWalk.i64_in _ (by omega)
  simp -implicitDefEqProofs only [x_i_WriteSec, go_sem]
  repeat (first | refine ⟨rfl, ?_⟩ | refine ⟨by decide, ?_⟩ | refine ⟨⟨by decide, by decide⟩, ?_⟩ | refine ⟨decide_eq_true (by omega), ?_⟩ | refine ⟨⟨decide_eq_true (by omega), decide_eq_true (by omega)⟩, ?_⟩)
  try (first | done | decide | exact decide_eq_true (by omega) | exact ⟨decide_eq_true (by omega), decide_eq_true (by omega)⟩)
  refine .of (c_i_copyDev d hL) ?_
  try simp -implicitDefEqProofs only [go_sem]
  repeat (first | refine ⟨rfl, ?_⟩ | refine ⟨by decide, ?_⟩ | refine ⟨⟨by decide, by decide⟩, ?_⟩ | refine ⟨decide_eq_true (by omega), ?_⟩ | refine ⟨⟨decide_eq_true (by omega), decide_eq_true (by omega)⟩, ?_⟩)
  try (first | done | decide | exact decide_eq_true (by omega) | exact ⟨decide_eq_true (by omega), decide_eq_true (by omega)⟩)
  refine .of (c_i_DevOk d (hin.mono (by decide))) ?_
  try simp -implicitDefEqProofs only [go_sem, hk]
  repeat (first | refine ⟨rfl, ?_⟩ | refine ⟨by decide, ?_⟩ | refine ⟨⟨by decide, by decide⟩, ?_⟩ | refine ⟨decide_eq_true (by omega), ?_⟩ | refine ⟨⟨decide_eq_true (by omega), decide_eq_true (by omega)⟩, ?_⟩)
  try (first | done | decide | exact decide_eq_true (by omega) | exact ⟨decide_eq_true (by omega), decide_eq_true (by omega)⟩)
  cases g1 : d.Down
  rotate_left
  · have e := full_down (n := n) (b := b) g1
    try simp -implicitDefEqProofs only [go_sem, g1, e, take_all, DevV.enc]
    repeat (first | refine ⟨rfl, ?_⟩ | refine ⟨by decide, ?_⟩ | refine ⟨⟨by decide, by decide⟩, ?_⟩ | refine ⟨decide_eq_true (by omega), ?_⟩ | refine ⟨⟨decide_eq_true (by omega), decide_eq_true (by omega)⟩, ?_⟩)
    try (first | done | decide | exact decide_eq_true (by omega) | exact ⟨decide_eq_true (by omega), decide_eq_true (by omega)⟩)
    try rfl
  try simp -implicitDefEqProofs only [go_sem, g1, ws]
  repeat (first | refine ⟨rfl, ?_⟩ | refine ⟨by decide, ?_⟩ | refine ⟨⟨by decide, by decide⟩, ?_⟩ | refine ⟨decide_eq_true (by omega), ?_⟩ | refine ⟨⟨decide_eq_true (by omega), decide_eq_true (by omega)⟩, ?_⟩)
  try (first | done | decide | exact decide_eq_true (by omega) | exact ⟨decide_eq_true (by omega), decide_eq_true (by omega)⟩)
  refine .of (c_i_within _ _ _) ?_
  try simp -implicitDefEqProofs only [go_sem]
  repeat (first | refine ⟨rfl, ?_⟩ | refine ⟨by decide, ?_⟩ | refine ⟨⟨by decide, by decide⟩, ?_⟩ | refine ⟨decide_eq_true (by omega), ?_⟩ | refine ⟨⟨decide_eq_true (by omega), decide_eq_true (by omega)⟩, ?_⟩)
  try (first | done | decide | exact decide_eq_true (by omega) | exact ⟨decide_eq_true (by omega), decide_eq_true (by omega)⟩)
  cases g2 : win n 0 ((d.Secs.length : Int) - 1)
  · have e := full_win (b := b) g2
    try simp -implicitDefEqProofs only [go_sem, e, take_all, g1, DevV.enc]
    repeat (first | refine ⟨rfl, ?_⟩ | refine ⟨by decide, ?_⟩ | refine ⟨⟨by decide, by decide⟩, ?_⟩ | refine ⟨decide_eq_true (by omega), ?_⟩ | refine ⟨⟨decide_eq_true (by omega), decide_eq_true (by omega)⟩, ?_⟩)
    try (first | done | decide | exact decide_eq_true (by omega) | exact ⟨decide_eq_true (by omega), decide_eq_true (by omega)⟩)
    try rfl
  cases g3 : decide ((b.length : Int) > 120)
  rotate_left
  · have e := full_len (d := d) (n := n) g3
    try simp -implicitDefEqProofs only [go_sem, g3, e, take_all, g1, DevV.enc]
    repeat (first | refine ⟨rfl, ?_⟩ | refine ⟨by decide, ?_⟩ | refine ⟨⟨by decide, by decide⟩, ?_⟩ | refine ⟨decide_eq_true (by omega), ?_⟩ | refine ⟨⟨decide_eq_true (by omega), decide_eq_true (by omega)⟩, ?_⟩)
    try (first | done | decide | exact decide_eq_true (by omega) | exact ⟨decide_eq_true (by omega), decide_eq_true (by omega)⟩)
    try rfl
  cases g4 : decide ((d.Cache.length : Int) ≥ 40)
  rotate_left
  · have g5 : ((d.Cache.length : Int) == 40) = true := by simp only [decide_eq_true_eq] at g4; simp only [beq_iff_eq]; omega
    have e := full_cache (n := n) (b := b) g4
    try simp -implicitDefEqProofs only [go_sem, g3, g5, e, take_all, g1, DevV.enc]
    repeat (first | refine ⟨rfl, ?_⟩ | refine ⟨by decide, ?_⟩ | refine ⟨⟨by decide, by decide⟩, ?_⟩ | refine ⟨decide_eq_true (by omega), ?_⟩ | refine ⟨⟨decide_eq_true (by omega), decide_eq_true (by omega)⟩, ?_⟩)
    try (first | done | decide | exact decide_eq_true (by omega) | exact ⟨decide_eq_true (by omega), decide_eq_true (by omega)⟩)
    try rfl
  have g5 : ((d.Cache.length : Int) == 40) = false := by simp only [decide_eq_false_iff_not] at g4; simp only [beq_eq_false_iff_ne]; omega
  have e := not_full g1 g2 g3 g4
  try simp -implicitDefEqProofs only [go_sem, g3, g5, take_all]
  repeat (first | refine ⟨rfl, ?_⟩ | refine ⟨by decide, ?_⟩ | refine ⟨⟨by decide, by decide⟩, ?_⟩ | refine ⟨decide_eq_true (by omega), ?_⟩ | refine ⟨⟨decide_eq_true (by omega), decide_eq_true (by omega)⟩, ?_⟩)
  try (first | done | decide | exact decide_eq_true (by omega) | exact ⟨decide_eq_true (by omega), decide_eq_true (by omega)⟩)
  have tb := c_i_burn d
  simp only [DevV.enc, g1] at tb
  have bc := burn_cache d
  have g40 : d.burn.Cache.length < 40 := by rw [bc]; simp only [decide_eq_false_iff_not] at g4; omega
  cases g6 : (d.Fuse == 0)
  · have g7 : ¬ d.Fuse = 0 := by simpa using g6
    rw [if_neg g7] at e
    have ea := app1W d.burn.Cache ⟨n, b⟩
    have et : List.take (d.burn.Cache.length + 1) (List.map (WrV.enc true) (d.burn.Cache ++ [⟨n, b⟩])) = List.map (WrV.enc true) (d.burn.Cache ++ [⟨n, b⟩]) := List.take_of_length_le (by simp)
    refine .of (tb) ?_
    try simp -implicitDefEqProofs only [go_sem, g6, take_all]
    repeat (first | refine ⟨rfl, ?_⟩ | refine ⟨by decide, ?_⟩ | refine ⟨⟨by decide, by decide⟩, ?_⟩ | refine ⟨decide_eq_true (by omega), ?_⟩ | refine ⟨⟨decide_eq_true (by omega), decide_eq_true (by omega)⟩, ?_⟩)
    try (first | done | decide | exact decide_eq_true (by omega) | exact ⟨decide_eq_true (by omega), decide_eq_true (by omega)⟩)
    refine .of (c_i_joined [b] (by rw [flat1]; omega) (by show 1 ≤ 2 ^ 31; decide)) ?_
    try simp -implicitDefEqProofs only [go_sem, flat1, take_all, ea, et, e, g1, DevV.put, DevV.enc]
    repeat (first | refine ⟨rfl, ?_⟩ | refine ⟨by decide, ?_⟩ | refine ⟨⟨by decide, by decide⟩, ?_⟩ | refine ⟨decide_eq_true (by omega), ?_⟩ | refine ⟨⟨decide_eq_true (by omega), decide_eq_true (by omega)⟩, ?_⟩)
    try (first | done | decide | exact decide_eq_true (by omega) | exact ⟨decide_eq_true (by omega), decide_eq_true (by omega)⟩)
    try rfl
  · have g7 : d.Fuse = 0 := by simpa using g6
    rw [if_pos g7] at e
    refine .of (tb) ?_
    try simp -implicitDefEqProofs only [go_sem, g6, take_all, e, g1, DevV.enc]
    repeat (first | refine ⟨rfl, ?_⟩ | refine ⟨by decide, ?_⟩ | refine ⟨⟨by decide, by decide⟩, ?_⟩ | refine ⟨decide_eq_true (by omega), ?_⟩ | refine ⟨⟨decide_eq_true (by omega), decide_eq_true (by omega)⟩, ?_⟩)
    try (first | done | decide | exact decide_eq_true (by omega) | exact ⟨decide_eq_true (by omega), decide_eq_true (by omega)⟩)
    try rfl
def x_s_l10Write : FnX := ⟨53, [],
  .seq (.q [.m 6 0, .op 7 (.nilc (.t 6)), .f 8 7 3, .l 9 8, .m 10 9, ⟨(some (10, false)), some 11, 11, .mv (.t 1)⟩, ⟨(some (10, false)), some 12, 12, .mv (.t 0)⟩, ⟨(some (10, false)), some 13, 13, .nilc (.t 12)⟩, ⟨(some (10, false)), some 14, 14, .faddr (.t 13) 0⟩, ⟨(some (10, false)), some 15, 15, .load none (.t 14)⟩, ⟨(some (10, false)), some 16, 16, .len (.t 15)⟩, ⟨(some (10, false)), some 17, 17, .bin .sub (.t 16) (.i 1)⟩, ⟨(some (10, false)), some 18, 18, .call 23 [0, 0, 0] [(.t 11), (.i 0), (.t 17)]⟩, ⟨(some (10, false)), some 19, 19, .not (.t 18)⟩, .r 20 10 19, .m 21 20, ⟨(some (21, false)), some 22, 22, .mv (.t 2)⟩, ⟨(some (21, false)), some 23, 23, .len (.t 22)⟩, ⟨(some (21, false)), some 24, 24, .bin .gtr (.t 23) (.i 120)⟩, .r 25 21 24, .m 26 25, ⟨(some (26, false)), some 27, 27, .mv (.t 0)⟩, ⟨(some (26, false)), some 28, 28, .nilc (.t 27)⟩, ⟨(some (26, false)), some 29, 29, .faddr (.t 28) 1⟩, ⟨(some (26, false)), some 30, 30, .load none (.t 29)⟩, ⟨(some (26, false)), some 31, 31, .len (.t 30)⟩, ⟨(some (26, false)), some 32, 32, .bin .geq (.t 31) (.i 40)⟩, .r 33 26 32, .m 34 33, ⟨(some (34, false)), some 35, 35, .mv (.t 0)⟩, ⟨(some (34, false)), some 36, 36, .call 111 [6] [(.t 35)]⟩, ⟨(some (34, false)), some 37, 37, .not (.t 36)⟩, .r 38 34 37]
 (.c 38 .ret))
 (.draw [.m 39 0, .m 40 0, .op 41 (.nilc (.t 40)), .f 42 41 1, .l 43 42, .m 44 1, .op 45 (.bslice 1 []), .m 46 2, .op 47 (.app 1 1 (.t 45) (.t 46)), .op 48 (.build [.i 0, .nils 1] [(0, 1, (.t 44)), (1, 1, (.t 47))]), .op 49 (.bslice 2 [(.t 48)]), .op 50 (.app 2 32 (.t 43) (.t 49)), .op 51 (.nilc (.t 39)), .f 52 51 1, .s 100001 1 52 50] [[], [], [1], [2], [3], [], [], [], [6, 7], [5, 8], [9], [4, 10, 8], [0, 0, 1, 2, 3, 4, 5, 6, 7, 8, 9, 10, 11], [12, 0, 1, 2, 3, 4, 5, 6, 7, 8, 9, 10, 11], [13, 11, 11, 0, 1, 2, 3, 4, 5, 6, 7, 8, 9, 10, 11]])⟩
abbrev C_s_l10Write (Te : TE) : Prop := ∀ (d : DevV) (n : Int) (b : List UInt8) (hd : d.Secs.length ≤ 2 ^ 30 ∧ d.Cache.length ≤ 2 ^ 30) (hb : b.length ≤ 2 ^ 30), Te 70 [.ptr (d.enc true), .one (iT n), .one (slT false 1 uR b)] ⟨[], [(d.write n b).enc true, [iT n], [slT false 1 uR b]]⟩
theorem r_s_l10Write {Te : TE} (c_s_l1In : C_s_l1In Te) (c_s_l10Op : C_s_l10Op Te) : C_s_l10Write (RF Te x_s_l10Write) := by
  intro d n b hd hb
  refine run0 ?_
  obtain ⟨hl, hc⟩ := hd
  have ws : IntKind.i64.wrap ((d.Secs.length : Int) - 1) = (d.Secs.length : Int) - 1 := IntWalk.i64_in _ (by omega)
  simp -implicitDefEqProofs only [x_s_l10Write, go_sem]
  repeat (first | refine ⟨rfl, ?_⟩ | refine ⟨by decide, ?_⟩ | refine ⟨⟨by decide, by decide⟩, ?_⟩ | refine ⟨decide_eq_true (by omega), ?_⟩ | refine ⟨⟨decide_eq_true (by omega), decide_eq_true (by omega)⟩, ?_⟩)
  try (first | done | decide | exact decide_eq_true (by omega) | exact ⟨decide_eq_true (by omega), decide_eq_true (by omega)⟩)
  cases g1 : d.Down
  rotate_left
  · have e := full_down (n := n) (b := b) g1
    try simp -implicitDefEqProofs only [go_sem, g1, e, take_all, DevV.enc]
    repeat (first | refine ⟨rfl, ?_⟩ | refine ⟨by decide, ?_⟩ | refine ⟨⟨by decide, by decide⟩, ?_⟩ | refine ⟨decide_eq_true (by omega), ?_⟩ | refine ⟨⟨decide_eq_true (by omega), decide_eq_true (by omega)⟩, ?_⟩)
    try (first | done | decide | exact decide_eq_true (by omega) | exact ⟨decide_eq_true (by omega), decide_eq_true (by omega)⟩)
    try rfl
  try simp -implicitDefEqProofs only [go_sem, g1, ws]
  repeat (first | refine ⟨rfl, ?_⟩ | refine ⟨by decide, ?_⟩ | refine ⟨⟨by decide, by decide⟩, ?_⟩ | refine ⟨decide_eq_true (by omega), ?_⟩ | refine ⟨⟨decide_eq_true (by omega), decide_eq_true (by omega)⟩, ?_⟩)
  try (first | done | decide | exact decide_eq_true (by omega) | exact ⟨decide_eq_true (by omega), decide_eq_true (by omega)⟩)
  refine .of (c_s_l1In _ _ _) ?_
  try simp -implicitDefEqProofs only [go_sem]
  repeat (first | refine ⟨rfl, ?_⟩ | refine ⟨by decide, ?_⟩ | refine ⟨⟨by decide, by decide⟩, ?_⟩ | refine ⟨decide_eq_true (by omega), ?_⟩ | refine ⟨⟨decide_eq_true (by omega), decide_eq_true (by omega)⟩, ?_⟩)
  try (first | done | decide | exact decide_eq_true (by omega) | exact ⟨decide_eq_true (by omega), decide_eq_true (by omega)⟩)
  cases g2 : win n 0 ((d.Secs.length : Int) - 1)
  · have e := full_win (b := b) g2
    try simp -implicitDefEqProofs only [go_sem, e, take_all, g1, DevV.enc]
    repeat (first | refine ⟨rfl, ?_⟩ | refine ⟨by decide, ?_⟩ | refine ⟨⟨by decide, by decide⟩, ?_⟩ | refine ⟨decide_eq_true (by omega), ?_⟩ | refine ⟨⟨decide_eq_true (by omega), decide_eq_true (by omega)⟩, ?_⟩)
    try (first | done | decide | exact decide_eq_true (by omega) | exact ⟨decide_eq_true (by omega), decide_eq_true (by omega)⟩)
    try rfl
  cases g3 : decide ((b.length : Int) > 120)
  rotate_left
  · have e := full_len (d := d) (n := n) g3
    try simp -implicitDefEqProofs only [go_sem, g3, e, take_all, g1, DevV.enc]
    repeat (first | refine ⟨rfl, ?_⟩ | refine ⟨by decide, ?_⟩ | refine ⟨⟨by decide, by decide⟩, ?_⟩ | refine ⟨decide_eq_true (by omega), ?_⟩ | refine ⟨⟨decide_eq_true (by omega), decide_eq_true (by omega)⟩, ?_⟩)
    try (first | done | decide | exact decide_eq_true (by omega) | exact ⟨decide_eq_true (by omega), decide_eq_true (by omega)⟩)
    try rfl
  cases g4 : decide ((d.Cache.length : Int) ≥ 40)
  rotate_left
  · have e := full_cache (n := n) (b := b) g4
    try simp -implicitDefEqProofs only [go_sem, g3, g4, e, take_all, g1, DevV.enc]
    repeat (first | refine ⟨rfl, ?_⟩ | refine ⟨by decide, ?_⟩ | refine ⟨⟨by decide, by decide⟩, ?_⟩ | refine ⟨decide_eq_true (by omega), ?_⟩ | refine ⟨⟨decide_eq_true (by omega), decide_eq_true (by omega)⟩, ?_⟩)
    try (first | done | decide | exact decide_eq_true (by omega) | exact ⟨decide_eq_true (by omega), decide_eq_true (by omega)⟩)
    try rfl
  have e := not_full g1 g2 g3 g4
  try simp -implicitDefEqProofs only [go_sem, g3, g4, take_all]
  repeat (first | refine ⟨rfl, ?_⟩ | refine ⟨by decide, ?_⟩ | refine ⟨⟨by decide, by decide⟩, ?_⟩ | refine ⟨decide_eq_true (by omega), ?_⟩ | refine ⟨⟨decide_eq_true (by omega), decide_eq_true (by omega)⟩, ?_⟩)
  try (first | done | decide | exact decide_eq_true (by omega) | exact ⟨decide_eq_true (by omega), decide_eq_true (by omega)⟩)
  have tb := c_s_l10Op d
  simp only [DevV.enc, g1] at tb
  have bc := burn_cache d
  have g40 : d.burn.Cache.length < 40 := by rw [bc]; simp only [decide_eq_false_iff_not] at g4; omega
  cases g6 : (d.Fuse == 0)
  · have g7 : ¬ d.Fuse = 0 := by simpa using g6
    rw [if_neg g7] at e
    have ea := app1W d.burn.Cache ⟨n, b⟩
    have et : List.take (d.burn.Cache.length + 1) (List.map (WrV.enc true) (d.burn.Cache ++ [⟨n, b⟩])) = List.map (WrV.enc true) (d.burn.Cache ++ [⟨n, b⟩]) := List.take_of_length_le (by simp)
    refine .of (tb) ?_
    try simp -implicitDefEqProofs only [go_sem, g6, take_all, take_rows, ea, et, e, g1, DevV.put, DevV.enc]
    repeat (first | refine ⟨rfl, ?_⟩ | refine ⟨by decide, ?_⟩ | refine ⟨⟨by decide, by decide⟩, ?_⟩ | refine ⟨decide_eq_true (by omega), ?_⟩ | refine ⟨⟨decide_eq_true (by omega), decide_eq_true (by omega)⟩, ?_⟩)
    try (first | done | decide | exact decide_eq_true (by omega) | exact ⟨decide_eq_true (by omega), decide_eq_true (by omega)⟩)
    try rfl
  · have g7 : d.Fuse = 0 := by simpa using g6
    rw [if_pos g7] at e
    refine .of (tb) ?_
    try simp -implicitDefEqProofs only [go_sem, g6, take_all, e, g1, DevV.enc]
    repeat (first | refine ⟨rfl, ?_⟩ | refine ⟨by decide, ?_⟩ | refine ⟨⟨by decide, by decide⟩, ?_⟩ | refine ⟨decide_eq_true (by omega), ?_⟩ | refine ⟨⟨decide_eq_true (by omega), decide_eq_true (by omega)⟩, ?_⟩)
    try (first | done | decide | exact decide_eq_true (by omega) | exact ⟨decide_eq_true (by omega), decide_eq_true (by omega)⟩)
    try rfl
end Go.X

