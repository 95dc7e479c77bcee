/- Texts: CVl CVla CVm CVn CW_NodeNew XLib XUtf8. -/
import Derived.Test.YtfmkpckoghbniaaGreatDoorCe
import Derived.Test.YtfmkpckoghbniaaGreatDoorCd
import Derived.Shelf.Spec.DecodeRune
import Derived.Lib.LaidU8T
import Derived.Lib.SpaceU
set_option linter.unusedVariables false
set_option linter.unusedSimpArgs false
/- Vl -/
namespace Go.X
set_option maxRecDepth 100000
set_option maxHeartbeats 8000000
abbrev secR (o : Bool) (y : List UInt8) : List T := [slT o 1 uR y]
def devNew (n : Int) : DevV := bif win n 1 64 then ⟨List.replicate n.toNat [], [], -1, false⟩ else ⟨[], [], 0, false⟩
theorem rep_secs (k : Nat) : (List.replicate k [Tr.sl true 1 () []] : List (List T)) = List.map (secR true) (List.replicate k []) := by rw [List.map_replicate]; rfl
theorem app1S (l : List (List UInt8)) (x : List UInt8) : List.map (secR true) l ++ [[slT true 1 uR x]] = List.map (secR true) (l ++ [x]) := by rw [List.map_append]; rfl
theorem app1W (l : List WrV) (x : WrV) : List.map (WrV.enc true) l ++ [[iT x.N, slT true 1 uR x.B]] = List.map (WrV.enc true) (l ++ [x]) := by rw [List.map_append]; rfl
theorem take_all {α β : Type} (f : α → β) (l : List α) : List.take l.length (List.map f l) = List.map f l := List.take_of_length_le (by simp)
theorem rep_step (i : Nat) : (List.replicate i ([] : List UInt8)) ++ [[]] = List.replicate (i + 1) [] := by rw [List.replicate_succ']
def x_i_DevNew : FnX := ⟨10, [.cell 2 (some 4)],
  .q [.op 2 (.alloc [.nils 1, .nils 2, .i 0, .F])]
 (.seq (.q [.m 3 0, .op 4 (.call 25 [0, 0, 0] [(.t 3), (.i 1), (.i 64)]), .N 5 4]
 (.c 5 (.q [.op 6 (.build [.nils 1, .nils 2, .i 0, .F] []), .s 100001 4 2 6]
 .ret)))
 (.q [.m 7 0, .op 8 (.mks 1 24 [.sl true 1 () []] (.t 7)), .op 9 (.build [.nils 1, .nils 2, .i 0, .F] [(0, 1, (.t 8)), (2, 1, (.i (-1)))]), .s 100002 4 2 9]
 .ret))⟩
abbrev C_i_DevNew (Te : TE) : Prop := ∀ (n : Int), Te 46 [.one (iT n)] ⟨[.agg ((devNew n).enc true)], [[iT n]]⟩
theorem r_i_DevNew {Te : TE} (c_i_within : C_i_within Te) : C_i_DevNew (RF Te x_i_DevNew) := by
  intro n
  refine run0 ?_
  simp -implicitDefEqProofs only [x_i_DevNew, go_sem]
  repeat refine ⟨sc, ?_⟩
  try exact sf
  refine .of (c_i_within _ _ _) ?_
  try simp -implicitDefEqProofs only [go_sem]
  repeat refine ⟨sc, ?_⟩
  try exact sf
  cases g : win n 1 64
  · have e : devNew n = ⟨[], [], 0, false⟩ := by rw [devNew, g]; rfl
    try simp -implicitDefEqProofs only [go_sem, e]
    repeat refine ⟨sc, ?_⟩
    try exact sf
    try rfl
  · have e : devNew n = ⟨List.replicate n.toNat [], [], -1, false⟩ := by rw [devNew, g]; rfl
    have g' := g
    simp only [win, Bool.and_eq_true, decide_eq_true_eq] at g'
    have gz : decide (0 ≤ n) = true := decide_eq_true (by omega)
    have gr := rep_secs n.toNat
    have et : List.take n.toNat (List.map (secR true) (List.replicate n.toNat [])) = List.map (secR true) (List.replicate n.toNat []) := List.take_of_length_le (by simp)
    try simp -implicitDefEqProofs only [go_sem, gz, gr, e, et]
    repeat refine ⟨sc, ?_⟩
    try exact sf
    try rfl
def x_s_DevNew : FnX := ⟨22, [.cell 2 (some 4)],
  .q [.op 2 (.alloc [.nils 1, .nils 2, .i 0, .F])]
 (.seq (.q [.m 5 0, .op 6 (.call 23 [0, 0, 0] [(.t 5), (.i 1), (.i 64)]), .N 7 6]
 (.c 7 (.q [.op 8 (.build [.nils 1, .nils 2, .i 0, .F] []), .s 100001 4 2 8]
 .ret)))
 (.q [.op 9 (.build [.nils 1, .nils 2, .i 0, .F] [(2, 1, (.i (-1)))]), .op 3 (.alloc [.nils 1, .nils 2, .i 0, .F]), .s 100002 4 3 9]
 (.seq (.q [.i 4 0]
 (.up 3 0 300000 (.block 0 (.loop [0, 2, 3, 4] (.seq (.q [.m 10 4, .m 11 0, .b 12 .lss 10 11]
 (.cond 12 .skip (.exit 0)))
 (.seq (.block 1 (.reg [.f 15 3 0, .l 16 15, .op 17 (.bslice 1 []), .op 18 (.bslice 1 [(.t 17)]), .op 19 (.app 1 24 (.t 16) (.t 18)), .f 20 3 0, .s 100003 1 20 19]))
 (.reg [.m 13 4, .B 14 .add 13 1, .m 4 14])))))))
 (.norm [2, 3] (.q [.L 21 4 3, .s 100004 4 2 21]
 .ret)))))⟩
abbrev C_s_DevNew (Te : TE) : Prop := ∀ (n : Int), Te 42 [.one (iT n)] ⟨[.agg ((devNew n).enc true)], [[iT n]]⟩
theorem r_s_DevNew {Te : TE} (c_s_l1In : C_s_l1In Te) : C_s_DevNew (RF Te x_s_DevNew) := by
  intro n
  refine run0 ?_
  simp -implicitDefEqProofs only [x_s_DevNew, go_sem]
  repeat refine ⟨sc, ?_⟩
  try exact sf
  refine .of (c_s_l1In _ _ _) ?_
  try simp -implicitDefEqProofs only [go_sem]
  repeat refine ⟨sc, ?_⟩
  try exact sf
  cases g : win n 1 64
  · have e : devNew n = ⟨[], [], 0, false⟩ := by rw [devNew, g]; rfl
    try simp -implicitDefEqProofs only [go_sem, e]
    repeat refine ⟨sc, ?_⟩
    try exact sf
    try rfl
  · have e : devNew n = ⟨List.replicate n.toNat [], [], -1, false⟩ := by rw [devNew, g]; rfl
    have g' := g
    simp only [win, Bool.and_eq_true, decide_eq_true_eq] at g'
    try simp -implicitDefEqProofs only [go_sem]
    repeat refine ⟨sc, ?_⟩
    try exact sf
    refine loop_of (σ := Nat × List (List UInt8)) (fun x => ⟨[(0, .one (.pv (.int .i64 n))), (2, .bp 2 0), (3, .bp 3 0), (4, .one (.pv (.int .i64 x.1)))], [(2, [.nils 1, .nils 2, .pv (.int .i64 0), .pv (.bool false)]), (3, [.rf 23 0 [] 1 0 x.2.length, .nils 2, .pv (.int .i64 (-1)), .pv (.bool false)])], [(0, [iT n]), (23, [slT true 1 (secR true) x.2])]⟩) (fun x => x.1 ≤ n.toNat ∧ x.2 = List.replicate x.1 []) (fun x => n.toNat - x.1) (0, []) ?_ ⟨Nat.zero_le _, rfl⟩ ?_
    · simp -implicitDefEqProofs only [go_sem]
      try rfl
    · rintro ⟨i, l⟩ ⟨hi, he⟩
      simp only at hi he
      have hl : l.length = i := by rw [he, List.length_replicate]
      cases q : decide ((i : Int) < n)
      · have k0 : i = n.toNat := by simp only [decide_eq_false_iff_not] at q; omega
        have e2 : devNew n = ⟨l, [], -1, false⟩ := by rw [e, he, k0]
        try simp -implicitDefEqProofs only [go_sem, q, e2]
        repeat refine ⟨sc, ?_⟩
        try exact sf
        try rfl
      · have k1 : i < n.toNat := by simp only [decide_eq_true_eq] at q; omega
        have ea : List.map (secR true) l ++ [[Tr.sl true 1 () []]] = List.map (secR true) (l ++ [[]]) := app1S l []
        try simp -implicitDefEqProofs only [go_sem, q, take_all, ea]
        repeat refine ⟨sc, ?_⟩
        try exact sf
        refine ⟨(i + 1, l ++ [[]]), ?_, ⟨k1, by rw [he, rep_step]⟩, by simp only; omega⟩
        rw [IntWalk.i64_in _ (by omega)]
        simp only [List.length_append]
        rfl
def DevV.burn (d : DevV) : DevV := if d.Fuse = 0 then ⟨d.Secs, d.Cache, -1, true⟩ else if d.Fuse > 0 then ⟨d.Secs, d.Cache, IntKind.i64.wrap (d.Fuse - 1), d.Down⟩ else d
def DevV.full (d : DevV) (n : Int) (b : List UInt8) : Bool := d.Down || (!win n 0 ((d.Secs.length : Int) - 1) || (decide ((b.length : Int) > 120) || decide ((d.Cache.length : Int) ≥ 40)))
def DevV.put (d : DevV) (n : Int) (b : List UInt8) : DevV := ⟨d.Secs, d.Cache ++ [⟨n, b⟩], d.Fuse, d.Down⟩
def DevV.write (d : DevV) (n : Int) (b : List UInt8) : DevV := if d.full n b = true then d else if d.Fuse = 0 then d.burn else d.burn.put n b
def flushed (S : List (List UInt8)) (C : List WrV) : List (List UInt8) := C.foldl (fun s w => s.set w.N.toNat w.B) S
def DevV.flush (d : DevV) : DevV := if d.Down = true then d else if d.Fuse = 0 then d.burn else ⟨flushed d.Secs d.Cache, [], d.burn.Fuse, d.burn.Down⟩
theorem flushed_len (C : List WrV) : ∀ S : List (List UInt8), (flushed S C).length = S.length := by
  induction C with
  | nil => intro S; rfl
  | cons w C ih => intro S; show (flushed (S.set w.N.toNat w.B) C).length = S.length; rw [ih, List.length_set]
theorem flushed_step {C : List WrV} {i : Nat} (h : i < C.length) (S : List (List UInt8)) : (flushed S (C.take i)).set C[i].N.toNat C[i].B = flushed S (C.take (i + 1)) := by
  rw [List.take_succ_eq_append_getElem h, flushed, flushed, List.foldl_append]; rfl
theorem burn_secs (d : DevV) : d.burn.Secs = d.Secs := by
  unfold DevV.burn
  split
  · rfl
  · split <;> rfl
theorem burn_cache (d : DevV) : d.burn.Cache = d.Cache := by
  unfold DevV.burn
  split
  · rfl
  · split <;> rfl
theorem DevV.ok_in {d : DevV} (h : d.ok = true) : d.In (2 ^ 20) := by
  simp only [DevV.ok, Bool.and_eq_true, win, decide_eq_true_eq, List.all_eq_true, secGood, wrGood, Bool.not_eq_true', decide_eq_false_iff_not] at h
  obtain ⟨⟨⟨⟨⟨h1, h2⟩, h3⟩, _⟩, h4⟩, h5⟩ := h
  refine ⟨⟨by omega, fun y hy => ?_⟩, by omega, fun y hy => ?_⟩
  · have := h4 y hy; omega
  · have := (h5 y hy).2; show y.B.length ≤ 2 ^ 20; omega
theorem DevV.ok_idx {d : DevV} (h : d.ok = true) : ∀ w ∈ d.Cache, 0 ≤ w.N ∧ w.N < d.Secs.length := by
  simp only [DevV.ok, Bool.and_eq_true, win, decide_eq_true_eq, List.all_eq_true, wrGood] at h
  intro w hw
  have := (h.2 w hw).1
  omega
theorem DevV.ok_cache {d : DevV} (h : d.ok = true) : d.Cache.length ≤ 40 := by
  simp only [DevV.ok, Bool.and_eq_true, decide_eq_true_eq] at h
  omega
def x_i_copyDev : FnX := ⟨50, [.cell 2 (some 4)],
  .q [.v 1 0, .op 2 (.alloc [.nils 1, .nils 2, .i 0, .F])]
 (.q [.f 8 1 2, .l 9 8, .f 10 1 3, .l 11 10, .op 12 (.build [.nils 1, .nils 2, .i 0, .F] [(2, 1, (.t 9)), (3, 1, (.t 11))]), .op 3 (.alloc [.nils 1, .nils 2, .i 0, .F]), .s 100001 4 3 12]
 (.seq (.q [.f 13 1 0, .l 14 13, .n 15 14, .i 16 0]
 (.up 3 1 300001 (.up 3 0 300000 (.block 0 (.loop [1, 2, 3, 14, 15, 16] (.q [.b 17 .lss 16 15]
 (.seq (.cond 17 .skip (.exit 0))
 (.seq (.block 1 (.q [.x 18 1 14 16, .l 19 18, .m 5 19]
 (.draw [.f 20 3 0, .l 21 20, .m 22 5, .op 23 (.bslice 1 [(.t 22)]), .c 24 121 [23], .op 25 (.bslice 1 [(.t 24)]), .op 26 (.app 1 24 (.t 21) (.t 25)), .f 27 3 0, .s 100002 1 27 26] [[], [0], [], [2], [3], [4], [1, 5, 4], [0, 1, 2, 3, 4, 5, 6], [7, 6, 6, 0, 1, 2, 3, 4, 5, 6]])))
 (.reg [.B 28 .add 16 1, .m 16 28])))))))))
 (.norm [1, 2, 3] (.seq (.q [.f 29 1 1, .l 30 29, .n 31 30, .i 32 0]
 (.block 2 (.loop [2, 3, 30, 31, 32] (.q [.b 33 .lss 32 31]
 (.seq (.cond 33 .skip (.exit 2))
 (.seq (.block 3 (.q [.x 34 2 30 32, .L 35 2 34, .op 7 (.alloc [.i 0, .nils 1]), .s 100003 2 7 35]
 (.draw [.f 36 3 1, .l 37 36, .f 38 7 0, .l 39 38, .f 40 7 1, .l 41 40, .op 42 (.bslice 1 [(.t 41)]), .c 43 121 [42], .op 44 (.build [.i 0, .nils 1] [(0, 1, (.t 39)), (1, 1, (.t 43))]), .op 45 (.bslice 2 [(.t 44)]), .op 46 (.app 2 32 (.t 37) (.t 45)), .f 47 3 1, .s 100004 1 47 46] [[], [0], [], [2], [], [4], [5], [6], [3, 7], [8], [1, 9, 7], [0, 1, 2, 3, 4, 5, 6, 7, 8, 9, 10], [11, 10, 10, 0, 1, 2, 3, 4, 5, 6, 7, 8, 9, 10]])))
 (.reg [.B 48 .add 32 1, .m 32 48])))))))
 (.norm [2, 3] (.q [.L 49 4 3, .s 100005 4 2 49]
 .ret))))))⟩
abbrev C_i_copyDev (Te : TE) : Prop := ∀ (d : DevV) (h : d.Len), Te 119 [.agg (d.enc false)] ⟨[.agg (d.enc true)], [d.enc false]⟩
theorem r_i_copyDev {Te : TE} (c_i_joined : C_i_joined Te) : C_i_copyDev (RF Te x_i_copyDev) := by
  intro d h
  refine run0 ?_
  obtain ⟨⟨hS, hSl⟩, hC, hCl⟩ := h
  simp -implicitDefEqProofs only [x_i_copyDev, go_sem]
  repeat refine ⟨sc, ?_⟩
  try exact sf
  refine loop_of (σ := Nat × List (List UInt8)) (fun x => ⟨[(1, .bp 1 0), (2, .bp 2 0), (3, .bp 3 0), (14, .one (.ro 1 (d.Secs.map (secR false)))), (15, .one (.pv (.int .i64 d.Secs.length))), (16, .one (.pv (.int .i64 x.1)))], [(1, [.ro 1 (d.Secs.map (secR false)), .ro 2 (d.Cache.map (WrV.enc false)), .pv (.int .i64 d.Fuse), .pv (.bool d.Down)]), (2, [.nils 1, .nils 2, .pv (.int .i64 0), .pv (.bool false)]), (3, [.rf 51 0 [] 1 0 x.2.length, .rf 52 0 [] 2 0 0, .pv (.int .i64 d.Fuse), .pv (.bool d.Down)])], [(0, d.enc false), (51, [slT true 1 (secR true) x.2]), (52, [slT true 2 (WrV.enc true) []])]⟩) (fun x => x.1 ≤ d.Secs.length ∧ x.2 = d.Secs.take x.1) (fun x => d.Secs.length - x.1) (0, []) ?_ ⟨Nat.zero_le _, rfl⟩ ?_
  · simp -implicitDefEqProofs only [go_sem]
    try rfl
  · rintro ⟨i, l⟩ ⟨hi, he⟩
    simp only at hi he
    have hl : l.length = i := by rw [he, List.length_take]; omega
    cases q : decide ((i : Int) < (d.Secs.length : Int))
    · have k0 : i = d.Secs.length := by simp only [decide_eq_false_iff_not] at q; omega
      rw [k0, List.take_length] at he
      subst he
      try simp -implicitDefEqProofs only [go_sem, q]
      repeat refine ⟨sc, ?_⟩
      try exact sf
      refine loop_of (σ := Nat × List WrV) (fun x => ⟨[(2, .bp 2 0), (3, .bp 3 0), (30, .one (.ro 2 (d.Cache.map (WrV.enc false)))), (31, .one (.pv (.int .i64 d.Cache.length))), (32, .one (.pv (.int .i64 x.1)))], [(2, [.nils 1, .nils 2, .pv (.int .i64 0), .pv (.bool false)]), (3, [.rf 51 0 [] 1 0 d.Secs.length, .rf 52 0 [] 2 0 x.2.length, .pv (.int .i64 d.Fuse), .pv (.bool d.Down)])], [(0, d.enc false), (51, [slT true 1 (secR true) d.Secs]), (52, [slT true 2 (WrV.enc true) x.2])]⟩) (fun x => x.1 ≤ d.Cache.length ∧ x.2 = d.Cache.take x.1) (fun x => d.Cache.length - x.1) (0, []) ?_ ⟨Nat.zero_le _, rfl⟩ ?_
      · simp -implicitDefEqProofs only [go_sem]
        try rfl
      · rintro ⟨j, m⟩ ⟨hj, hm⟩
        simp only at hj hm
        have hml : m.length = j := by rw [hm, List.length_take]; omega
        cases q2 : decide ((j : Int) < (d.Cache.length : Int))
        · have k2 : j = d.Cache.length := by simp only [decide_eq_false_iff_not] at q2; omega
          rw [k2, List.take_length] at hm
          subst hm
          try simp -implicitDefEqProofs only [go_sem, q2, take_all]
          repeat refine ⟨sc, ?_⟩
          try exact sf
          try rfl
        · have k2 : j < d.Cache.length := by simp only [decide_eq_true_eq] at q2; omega
          have hb : d.Cache[j].B.length ≤ 2 ^ 21 := hCl _ (List.getElem_mem k2)
          have ea := app1W m d.Cache[j]
          try simp -implicitDefEqProofs only [go_sem, q2, List.getElem?_eq_getElem k2]
          repeat refine ⟨sc, ?_⟩
          try exact sf
          refine .of (c_i_joined [d.Cache[j].B] (by rw [flat1]; omega) (by show 1 ≤ 2 ^ 31; decide)) ?_
          try simp -implicitDefEqProofs only [go_sem, flat1, take_all, ea]
          repeat refine ⟨sc, ?_⟩
          try exact sf
          refine ⟨(j + 1, m ++ [d.Cache[j]]), ?_, ⟨k2, by rw [hm, List.take_succ_eq_append_getElem k2]⟩, by simp only; omega⟩
          rw [IntWalk.i64_in _ (by omega)]
          simp only [List.length_append]
          rfl
    · have k1 : i < d.Secs.length := by simp only [decide_eq_true_eq] at q; omega
      have hb : d.Secs[i].length ≤ 2 ^ 21 := hSl _ (List.getElem_mem k1)
      have ea := app1S l d.Secs[i]
      try simp -implicitDefEqProofs only [go_sem, q, List.getElem?_eq_getElem k1]
      repeat refine ⟨sc, ?_⟩
      try exact sf
      refine .of (c_i_joined [d.Secs[i]] (by rw [flat1]; omega) (by show 1 ≤ 2 ^ 31; decide)) ?_
      try simp -implicitDefEqProofs only [go_sem, flat1, take_all, ea]
      repeat refine ⟨sc, ?_⟩
      try exact sf
      refine ⟨(i + 1, l ++ [d.Secs[i]]), ?_, ⟨k1, by rw [he, List.take_succ_eq_append_getElem k1]⟩, by simp only; omega⟩
      rw [IntWalk.i64_in _ (by omega)]
      simp only [List.length_append]
      rfl
def x_i_burn : FnX := ⟨18, [.cell 2 (some 4), .tmp 3],
  .q [.v 1 0, .op 2 (.alloc [.nils 1, .nils 2, .i 0, .F]), .F 3]
 (.seq (.q [.f 4 1 2, .l 5 4, .B 6 .eql 5 0]
 (.c 6 (.q [.f 7 1 3, ⟨none, none, 100001, .store 1 (.t 7) .T⟩, .f 8 1 2, ⟨none, none, 100002, .store 1 (.t 8) (.i (-1))⟩]
 (.q [.L 9 4 1, .s 100003 4 2 9, .F 3]
 .ret))))
 (.seq (.q [.f 10 1 2, .l 11 10, .B 12 .gtr 11 0]
 (.c 12 (.reg [.f 13 1 2, .l 14 13, .B 15 .sub 14 1, .f 16 1 2, .s 100004 1 16 15])))
 (.q [.L 17 4 1, .s 100005 4 2 17, .T 3]
 .ret)))⟩
abbrev C_i_burn (Te : TE) : Prop := ∀ (d : DevV), Te 120 [.agg (d.enc true)] ⟨[.agg (d.burn.enc true), .one (bT (!(d.Fuse == 0)))], [[.no (), .no (), iT d.Fuse, bT d.Down]]⟩
theorem r_i_burn {Te : TE} : C_i_burn (RF Te x_i_burn) := by
  intro d
  refine run0 ?_
  cases g : (d.Fuse == 0)
  · have g1 : ¬ d.Fuse = 0 := by simpa using g
    cases g2 : decide (d.Fuse > 0)
    · have e : d.burn = d := by rw [DevV.burn, if_neg g1, if_neg (by simpa using g2)]
      simp -implicitDefEqProofs only [x_i_burn, go_sem, g, g2, e, take_all]
      repeat refine ⟨sc, ?_⟩
      try exact sf
      try rfl
    · have e : d.burn = ⟨d.Secs, d.Cache, IntKind.i64.wrap (d.Fuse - 1), d.Down⟩ := by rw [DevV.burn, if_neg g1, if_pos (by simpa using g2)]
      simp -implicitDefEqProofs only [x_i_burn, go_sem, g, g2, e, take_all]
      repeat refine ⟨sc, ?_⟩
      try exact sf
      try rfl
  · have g1 : d.Fuse = 0 := by simpa using g
    have e : d.burn = ⟨d.Secs, d.Cache, -1, true⟩ := by rw [DevV.burn, if_pos g1]
    simp -implicitDefEqProofs only [x_i_burn, go_sem, g, e, take_all]
    repeat refine ⟨sc, ?_⟩
    try exact sf
    try rfl
def x_s_l10Op : FnX := ⟨27, [.tmp 2],
  .q [.F 2]
 (.seq (.q [.m 3 0, .op 4 (.nilc (.t 3)), .f 5 4 2, .l 6 5, .B 7 .eql 6 0]
 (.c 7 (.q [.m 8 0, .op 9 (.nilc (.t 8)), .f 10 9 3, ⟨none, none, 100001, .store 1 (.t 10) .T⟩]
 (.q [.m 11 0, .op 12 (.nilc (.t 11)), .f 13 12 2, ⟨none, none, 100002, .store 1 (.t 13) (.i (-1))⟩]
 (.q [.F 2]
 .ret)))))
 (.seq (.q [.m 14 0, .op 15 (.nilc (.t 14)), .f 16 15 2, .l 17 16, .B 18 .gtr 17 0]
 (.c 18 (.reg [.m 19 0, .m 20 0, .op 21 (.nilc (.t 20)), .f 22 21 2, .l 23 22, .B 24 .sub 23 1, .op 25 (.nilc (.t 19)), .f 26 25 2, .s 100003 1 26 24])))
 (.q [.T 2]
 .ret)))⟩
abbrev C_s_l10Op (Te : TE) : Prop := ∀ (d : DevV), Te 111 [.ptr (d.enc true)] ⟨[.one (bT (!(d.Fuse == 0)))], [d.burn.enc true]⟩
theorem r_s_l10Op {Te : TE} : C_s_l10Op (RF Te x_s_l10Op) := by
  intro d
  refine run0 ?_
  cases g : (d.Fuse == 0)
  · have g1 : ¬ d.Fuse = 0 := by simpa using g
    cases g2 : decide (d.Fuse > 0)
    · have e : d.burn = d := by rw [DevV.burn, if_neg g1, if_neg (by simpa using g2)]
      simp -implicitDefEqProofs only [x_s_l10Op, go_sem, g, g2, e, take_all]
      repeat refine ⟨sc, ?_⟩
      try exact sf
      try rfl
    · have e : d.burn = ⟨d.Secs, d.Cache, IntKind.i64.wrap (d.Fuse - 1), d.Down⟩ := by rw [DevV.burn, if_neg g1, if_pos (by simpa using g2)]
      simp -implicitDefEqProofs only [x_s_l10Op, go_sem, g, g2, e, take_all]
      repeat refine ⟨sc, ?_⟩
      try exact sf
      try rfl
  · have g1 : d.Fuse = 0 := by simpa using g
    have e : d.burn = ⟨d.Secs, d.Cache, -1, true⟩ := by rw [DevV.burn, if_pos g1]
    simp -implicitDefEqProofs only [x_s_l10Op, go_sem, g, e, take_all]
    repeat refine ⟨sc, ?_⟩
    try exact sf
    try rfl
theorem full_down {d : DevV} {n : Int} {b : List UInt8} (h : d.Down = true) : d.write n b = d := by rw [DevV.write, if_pos (by rw [DevV.full, h]; rfl)]
theorem full_win {d : DevV} {n : Int} {b : List UInt8} (h : win n 0 ((d.Secs.length : Int) - 1) = false) : d.write n b = d := by rw [DevV.write, if_pos (by rw [DevV.full, h]; simp)]
theorem full_len {d : DevV} {n : Int} {b : List UInt8} (h : decide ((b.length : Int) > 120) = true) : d.write n b = d := by rw [DevV.write, if_pos (by rw [DevV.full, h]; simp)]
theorem full_cache {d : DevV} {n : Int} {b : List UInt8} (h : decide ((d.Cache.length : Int) ≥ 40) = true) : d.write n b = d := by rw [DevV.write, if_pos (by rw [DevV.full, h]; simp)]
theorem not_full {d : DevV} {n : Int} {b : List UInt8} (h1 : d.Down = false) (h2 : win n 0 ((d.Secs.length : Int) - 1) = true) (h3 : decide ((b.length : Int) > 120) = false) (h4 : decide ((d.Cache.length : Int) ≥ 40) = false) : d.write n b = if d.Fuse = 0 then d.burn else d.burn.put n b := by
  rw [DevV.write, if_neg (by rw [DevV.full, h1, h2, h3, h4]; decide)]
def x_i_WriteSec : FnX := ⟨56, [.cell 6 (some 4)],
  .q [.v 3 0, .op 6 (.alloc [.nils 1, .nils 2, .i 0, .F])]
 (.q [.L 9 4 3, .c 10 119 [9], .op 7 (.alloc [.nils 1, .nils 2, .i 0, .F]), .s 100001 4 7 10]
 (.seq (.q [.L 11 4 3, .c 12 101 [11], .N 13 12, .m 14 13, ⟨(some (14, false)), some 15, 15, .faddr (.t 3) 3⟩, ⟨(some (14, false)), some 16, 16, .load none (.t 15)⟩, .r 17 14 16, .m 18 17, ⟨(some (18, false)), some 19, 19, .mv (.t 1)⟩, ⟨(some (18, false)), some 20, 20, .faddr (.t 3) 0⟩, ⟨(some (18, false)), some 21, 21, .load none (.t 20)⟩, ⟨(some (18, false)), some 22, 22, .len (.t 21)⟩, ⟨(some (18, false)), some 23, 23, .bin .sub (.t 22) (.i 1)⟩, ⟨(some (18, false)), some 24, 24, .call 25 [0, 0, 0] [(.t 19), (.i 0), (.t 23)]⟩, ⟨(some (18, false)), some 25, 25, .not (.t 24)⟩, .r 26 18 25, .m 27 26, ⟨(some (27, false)), some 28, 28, .mv (.t 2)⟩, ⟨(some (27, false)), some 29, 29, .len (.t 28)⟩, ⟨(some (27, false)), some 30, 30, .bin .gtr (.t 29) (.i 120)⟩, .r 31 27 30, .m 32 31, ⟨(some (32, false)), some 33, 33, .faddr (.t 3) 1⟩, ⟨(some (32, false)), some 34, 34, .load none (.t 33)⟩, ⟨(some (32, false)), some 35, 35, .len (.t 34)⟩, ⟨(some (32, false)), some 36, 36, .bin .eql (.t 35) (.i 40)⟩, .r 37 32 36]
 (.c 37 (.q [.L 38 4 7, .s 100002 4 6 38]
 .ret)))
 (.q [.L 40 4 7, .op 41 (.call 120 [1] [(.t 40)]), .m 39 41, .e 42 39 0, .e 43 39 1, .s 100003 4 7 42, .m 8 43]
 (.seq (.q [.m 44 8]
 (.c 44 (.draw [.f 45 7 1, .l 46 45, .m 47 1, .m 48 2, .op 49 (.bslice 1 [(.t 48)]), .c 50 121 [49], .op 51 (.build [.i 0, .nils 1] [(0, 1, (.t 47)), (1, 1, (.t 50))]), .op 52 (.bslice 2 [(.t 51)]), .op 53 (.app 2 32 (.t 46) (.t 52)), .f 54 7 1, .s 100004 1 54 53] [[], [0], [], [], [3], [4], [2, 5], [6], [1, 7, 5], [0, 1, 2, 3, 4, 5, 6, 7, 8], [9, 8, 8, 0, 1, 2, 3, 4, 5, 6, 7, 8]])))
 (.q [.L 55 4 7, .s 100005 4 6 55]
 .ret)))))⟩
abbrev C_i_WriteSec (Te : TE) : Prop := ∀ (d : DevV) (n : Int) (b : List UInt8) (hk : d.ok = true) (hb : b.length ≤ 2 ^ 21), Te 76 [.agg (d.enc false), .one (iT n), .one (slT false 1 uR b)] ⟨[.agg ((d.write n b).enc true)], [d.enc false, [iT n], [slT false 1 uR b]]⟩
theorem r_i_WriteSec {Te : TE} (c_i_copyDev : C_i_copyDev Te) (c_i_DevOk : C_i_DevOk Te) (c_i_within : C_i_within Te) (c_i_burn : C_i_burn Te) (c_i_joined : C_i_joined Te) : C_i_WriteSec (RF Te x_i_WriteSec) := by
  intro d n b hk hb
  refine run0 ?_
  have hin := DevV.ok_in hk
  have hL := hin.len (by decide)
  have hl := hin.1.1
  have h40 := DevV.ok_cache hk
  have ws : IntKind.i64.wrap ((d.Secs.length : Int) - 1) = (d.Secs.length : Int) - 1 := IntWalk.i64_in _ (by omega)
  simp -implicitDefEqProofs only [x_i_WriteSec, go_sem]
  repeat refine ⟨sc, ?_⟩
  try exact sf
  refine .of (c_i_copyDev d hL) ?_
  try simp -implicitDefEqProofs only [go_sem]
  repeat refine ⟨sc, ?_⟩
  try exact sf
  refine .of (c_i_DevOk d (hin.mono (by decide))) ?_
  try simp -implicitDefEqProofs only [go_sem, hk]
  repeat refine ⟨sc, ?_⟩
  try exact sf
  cases g1 : d.Down
  rotate_left
  · have e := full_down (n := n) (b := b) g1
    try simp -implicitDefEqProofs only [go_sem, g1, e, take_all, DevV.enc]
    repeat refine ⟨sc, ?_⟩
    try exact sf
    try rfl
  try simp -implicitDefEqProofs only [go_sem, g1, ws]
  repeat refine ⟨sc, ?_⟩
  try exact sf
  refine .of (c_i_within _ _ _) ?_
  try simp -implicitDefEqProofs only [go_sem]
  repeat refine ⟨sc, ?_⟩
  try exact sf
  cases g2 : win n 0 ((d.Secs.length : Int) - 1)
  · have e := full_win (b := b) g2
    try simp -implicitDefEqProofs only [go_sem, e, take_all, g1, DevV.enc]
    repeat refine ⟨sc, ?_⟩
    try exact sf
    try rfl
  cases g3 : decide ((b.length : Int) > 120)
  rotate_left
  · have e := full_len (d := d) (n := n) g3
    try simp -implicitDefEqProofs only [go_sem, g3, e, take_all, g1, DevV.enc]
    repeat refine ⟨sc, ?_⟩
    try exact sf
    try rfl
  cases g4 : decide ((d.Cache.length : Int) ≥ 40)
  rotate_left
  · have g5 : ((d.Cache.length : Int) == 40) = true := by simp only [decide_eq_true_eq] at g4; simp only [beq_iff_eq]; omega
    have e := full_cache (n := n) (b := b) g4
    try simp -implicitDefEqProofs only [go_sem, g3, g5, e, take_all, g1, DevV.enc]
    repeat refine ⟨sc, ?_⟩
    try exact sf
    try rfl
  have g5 : ((d.Cache.length : Int) == 40) = false := by simp only [decide_eq_false_iff_not] at g4; simp only [beq_eq_false_iff_ne]; omega
  have e := not_full g1 g2 g3 g4
  try simp -implicitDefEqProofs only [go_sem, g3, g5, take_all]
  repeat refine ⟨sc, ?_⟩
  try exact sf
  have tb := c_i_burn d
  simp only [DevV.enc, g1] at tb
  have bc := burn_cache d
  have g40 : d.burn.Cache.length < 40 := by rw [bc]; simp only [decide_eq_false_iff_not] at g4; omega
  cases g6 : (d.Fuse == 0)
  · have g7 : ¬ d.Fuse = 0 := by simpa using g6
    rw [if_neg g7] at e
    have ea := app1W d.burn.Cache ⟨n, b⟩
    have et : List.take (d.burn.Cache.length + 1) (List.map (WrV.enc true) (d.burn.Cache ++ [⟨n, b⟩])) = List.map (WrV.enc true) (d.burn.Cache ++ [⟨n, b⟩]) := List.take_of_length_le (by simp)
    refine .of (tb) ?_
    try simp -implicitDefEqProofs only [go_sem, g6, take_all]
    repeat refine ⟨sc, ?_⟩
    try exact sf
    refine .of (c_i_joined [b] (by rw [flat1]; omega) (by show 1 ≤ 2 ^ 31; decide)) ?_
    try simp -implicitDefEqProofs only [go_sem, flat1, take_all, ea, et, e, g1, DevV.put, DevV.enc]
    repeat refine ⟨sc, ?_⟩
    try exact sf
    try rfl
  · have g7 : d.Fuse = 0 := by simpa using g6
    rw [if_pos g7] at e
    refine .of (tb) ?_
    try simp -implicitDefEqProofs only [go_sem, g6, take_all, e, g1, DevV.enc]
    repeat refine ⟨sc, ?_⟩
    try exact sf
    try rfl
def x_s_l10Write : FnX := ⟨53, [],
  .seq (.q [.m 6 0, .op 7 (.nilc (.t 6)), .f 8 7 3, .l 9 8, .m 10 9, ⟨(some (10, false)), some 11, 11, .mv (.t 1)⟩, ⟨(some (10, false)), some 12, 12, .mv (.t 0)⟩, ⟨(some (10, false)), some 13, 13, .nilc (.t 12)⟩, ⟨(some (10, false)), some 14, 14, .faddr (.t 13) 0⟩, ⟨(some (10, false)), some 15, 15, .load none (.t 14)⟩, ⟨(some (10, false)), some 16, 16, .len (.t 15)⟩, ⟨(some (10, false)), some 17, 17, .bin .sub (.t 16) (.i 1)⟩, ⟨(some (10, false)), some 18, 18, .call 23 [0, 0, 0] [(.t 11), (.i 0), (.t 17)]⟩, ⟨(some (10, false)), some 19, 19, .not (.t 18)⟩, .r 20 10 19, .m 21 20, ⟨(some (21, false)), some 22, 22, .mv (.t 2)⟩, ⟨(some (21, false)), some 23, 23, .len (.t 22)⟩, ⟨(some (21, false)), some 24, 24, .bin .gtr (.t 23) (.i 120)⟩, .r 25 21 24, .m 26 25, ⟨(some (26, false)), some 27, 27, .mv (.t 0)⟩, ⟨(some (26, false)), some 28, 28, .nilc (.t 27)⟩, ⟨(some (26, false)), some 29, 29, .faddr (.t 28) 1⟩, ⟨(some (26, false)), some 30, 30, .load none (.t 29)⟩, ⟨(some (26, false)), some 31, 31, .len (.t 30)⟩, ⟨(some (26, false)), some 32, 32, .bin .geq (.t 31) (.i 40)⟩, .r 33 26 32, .m 34 33, ⟨(some (34, false)), some 35, 35, .mv (.t 0)⟩, ⟨(some (34, false)), some 36, 36, .call 111 [6] [(.t 35)]⟩, ⟨(some (34, false)), some 37, 37, .not (.t 36)⟩, .r 38 34 37]
 (.c 38 .ret))
 (.draw [.m 39 0, .m 40 0, .op 41 (.nilc (.t 40)), .f 42 41 1, .l 43 42, .m 44 1, .op 45 (.bslice 1 []), .m 46 2, .op 47 (.app 1 1 (.t 45) (.t 46)), .op 48 (.build [.i 0, .nils 1] [(0, 1, (.t 44)), (1, 1, (.t 47))]), .op 49 (.bslice 2 [(.t 48)]), .op 50 (.app 2 32 (.t 43) (.t 49)), .op 51 (.nilc (.t 39)), .f 52 51 1, .s 100001 1 52 50] [[], [], [1], [2], [3], [], [], [], [6, 7], [5, 8], [9], [4, 10, 8], [0, 0, 1, 2, 3, 4, 5, 6, 7, 8, 9, 10, 11], [12, 0, 1, 2, 3, 4, 5, 6, 7, 8, 9, 10, 11], [13, 11, 11, 0, 1, 2, 3, 4, 5, 6, 7, 8, 9, 10, 11]])⟩
abbrev C_s_l10Write (Te : TE) : Prop := ∀ (d : DevV) (n : Int) (b : List UInt8) (hd : d.Secs.length ≤ 2 ^ 30 ∧ d.Cache.length ≤ 2 ^ 30) (hb : b.length ≤ 2 ^ 30), Te 70 [.ptr (d.enc true), .one (iT n), .one (slT false 1 uR b)] ⟨[], [(d.write n b).enc true, [iT n], [slT false 1 uR b]]⟩
theorem r_s_l10Write {Te : TE} (c_s_l1In : C_s_l1In Te) (c_s_l10Op : C_s_l10Op Te) : C_s_l10Write (RF Te x_s_l10Write) := by
  intro d n b hd hb
  refine run0 ?_
  obtain ⟨hl, hc⟩ := hd
  have ws : IntKind.i64.wrap ((d.Secs.length : Int) - 1) = (d.Secs.length : Int) - 1 := IntWalk.i64_in _ (by omega)
  simp -implicitDefEqProofs only [x_s_l10Write, go_sem]
  repeat refine ⟨sc, ?_⟩
  try exact sf
  cases g1 : d.Down
  rotate_left
  · have e := full_down (n := n) (b := b) g1
    try simp -implicitDefEqProofs only [go_sem, g1, e, take_all, DevV.enc]
    repeat refine ⟨sc, ?_⟩
    try exact sf
    try rfl
  try simp -implicitDefEqProofs only [go_sem, g1, ws]
  repeat refine ⟨sc, ?_⟩
  try exact sf
  refine .of (c_s_l1In _ _ _) ?_
  try simp -implicitDefEqProofs only [go_sem]
  repeat refine ⟨sc, ?_⟩
  try exact sf
  cases g2 : win n 0 ((d.Secs.length : Int) - 1)
  · have e := full_win (b := b) g2
    try simp -implicitDefEqProofs only [go_sem, e, take_all, g1, DevV.enc]
    repeat refine ⟨sc, ?_⟩
    try exact sf
    try rfl
  cases g3 : decide ((b.length : Int) > 120)
  rotate_left
  · have e := full_len (d := d) (n := n) g3
    try simp -implicitDefEqProofs only [go_sem, g3, e, take_all, g1, DevV.enc]
    repeat refine ⟨sc, ?_⟩
    try exact sf
    try rfl
  cases g4 : decide ((d.Cache.length : Int) ≥ 40)
  rotate_left
  · have e := full_cache (n := n) (b := b) g4
    try simp -implicitDefEqProofs only [go_sem, g3, g4, e, take_all, g1, DevV.enc]
    repeat refine ⟨sc, ?_⟩
    try exact sf
    try rfl
  have e := not_full g1 g2 g3 g4
  try simp -implicitDefEqProofs only [go_sem, g3, g4, take_all]
  repeat refine ⟨sc, ?_⟩
  try exact sf
  have tb := c_s_l10Op d
  simp only [DevV.enc, g1] at tb
  have bc := burn_cache d
  have g40 : d.burn.Cache.length < 40 := by rw [bc]; simp only [decide_eq_false_iff_not] at g4; omega
  cases g6 : (d.Fuse == 0)
  · have g7 : ¬ d.Fuse = 0 := by simpa using g6
    rw [if_neg g7] at e
    have ea := app1W d.burn.Cache ⟨n, b⟩
    have et : List.take (d.burn.Cache.length + 1) (List.map (WrV.enc true) (d.burn.Cache ++ [⟨n, b⟩])) = List.map (WrV.enc true) (d.burn.Cache ++ [⟨n, b⟩]) := List.take_of_length_le (by simp)
    refine .of (tb) ?_
    try simp -implicitDefEqProofs only [go_sem, g6, take_all, take_rows, ea, et, e, g1, DevV.put, DevV.enc]
    repeat refine ⟨sc, ?_⟩
    try exact sf
    try rfl
  · have g7 : d.Fuse = 0 := by simpa using g6
    rw [if_pos g7] at e
    refine .of (tb) ?_
    try simp -implicitDefEqProofs only [go_sem, g6, take_all, e, g1, DevV.enc]
    repeat refine ⟨sc, ?_⟩
    try exact sf
    try rfl
end Go.X

/- Vla -/
namespace Go.X
set_option maxRecDepth 100000
set_option maxHeartbeats 8000000
def mvRows (C : List WrV) (i : Nat) : List (List T) := (C.take i).map (fun w => [iT w.N, .no ()]) ++ (C.drop i).map (WrV.enc true)
theorem mv_len (C : List WrV) (i : Nat) : (mvRows C i).length = C.length := by
  simp only [mvRows, List.length_append, List.length_map, List.length_take, List.length_drop]; omega
theorem mv_zero (C : List WrV) : mvRows C 0 = C.map (WrV.enc true) := rfl
theorem mv_get {C : List WrV} {i : Nat} (h : i < C.length) : (mvRows C i)[i]? = some (C[i].enc true) := by
  have e : ((C.take i).map (fun w : WrV => ([iT w.N, .no ()] : List T))).length = i := by simp; omega
  rw [mvRows, List.getElem?_append_right (by omega), e, Nat.sub_self, List.getElem?_map, List.getElem?_drop, Nat.add_zero, List.getElem?_eq_getElem h]
  rfl
theorem mv_set {C : List WrV} {i : Nat} (h : i < C.length) : (mvRows C i).set i [iT C[i].N, .no ()] = mvRows C (i + 1) := by
  have e : ((C.take i).map (fun w : WrV => ([iT w.N, .no ()] : List T))).length = i := by simp; omega
  rw [mvRows, List.set_append_right _ _ (by omega), e, Nat.sub_self, List.drop_eq_getElem_cons h, List.map_cons, List.set_cons_zero, mvRows, List.take_succ_eq_append_getElem h, List.map_append, List.append_assoc]
  rfl
theorem setS (S : List (List UInt8)) (k : Nat) (B : List UInt8) : (List.map (secR true) S).set k [slT true 1 uR B] = List.map (secR true) (S.set k B) := by rw [List.map_set]
theorem getS {S : List (List UInt8)} {k : Nat} (h : k < S.length) : (List.map (secR true) S).getD k [] = [slT true 1 uR S[k]] := by
  rw [List.getD_eq_getElem?_getD, List.getElem?_map, List.getElem?_eq_getElem h]; rfl
def x_i_FlushDev : FnX := ⟨44, [.cell 2 (some 4)],
  .q [.v 1 0, .op 2 (.alloc [.nils 1, .nils 2, .i 0, .F])]
 (.q [.L 7 4 1, .c 8 119 [7], .op 3 (.alloc [.nils 1, .nils 2, .i 0, .F]), .s 100001 4 3 8]
 (.seq (.q [.L 9 4 1, .c 10 101 [9], .N 11 10, .m 12 11, ⟨(some (12, false)), some 13, 13, .faddr (.t 1) 3⟩, ⟨(some (12, false)), some 14, 14, .load none (.t 13)⟩, .r 15 12 14]
 (.c 15 (.q [.L 16 4 3, .s 100002 4 2 16]
 .ret)))
 (.q [.L 18 4 3, .op 19 (.call 120 [1] [(.t 18)]), .m 17 19, .e 20 17 0, .e 21 17 1, .s 100003 4 3 20, .m 4 21]
 (.seq (.q [.m 22 4, .N 23 22]
 (.c 23 (.q [.L 24 4 3, .s 100004 4 2 24]
 .ret)))
 (.seq (.q [.f 25 3 1, .l 26 25, .n 27 26, .i 28 0]
 (.block 0 (.loop [2, 3, 26, 27, 28] (.q [.b 29 .lss 28 27]
 (.seq (.cond 29 .skip (.exit 0))
 (.seq (.block 1 (.q [.x 30 2 26 28, .L 31 2 30, .op 6 (.alloc [.i 0, .nils 1]), .s 100005 2 6 31]
 (.draw [.f 32 3 0, .l 33 32, .f 34 6 0, .l 35 34, .f 36 6 1, .l 37 36, .op 38 (.bslice 1 [(.t 37)]), .c 39 121 [38], .x 40 1 33 35, .s 100006 1 40 39] [[], [0], [], [2], [], [4], [5], [6], [1, 3, 0, 1, 2, 3, 4, 5, 6, 7], [8, 7, 7, 0, 1, 2, 3, 4, 5, 6, 7]])))
 (.reg [.B 41 .add 28 1, .m 28 41])))))))
 (.norm [2, 3] (.q [.f 42 3 1, ⟨none, none, 100007, .store 1 (.t 42) (.k (.one (.nils 2)))⟩]
 (.q [.L 43 4 3, .s 100008 4 2 43]
 .ret))))))))⟩
abbrev C_i_FlushDev (Te : TE) : Prop := ∀ (d : DevV) (hk : d.ok = true), Te 79 [.agg (d.enc false)] ⟨[.agg (d.flush.enc true)], [d.enc false]⟩
theorem r_i_FlushDev {Te : TE} (c_i_copyDev : C_i_copyDev Te) (c_i_DevOk : C_i_DevOk Te) (c_i_burn : C_i_burn Te) (c_i_joined : C_i_joined Te) : C_i_FlushDev (RF Te x_i_FlushDev) := by
  intro d hk
  refine run0 ?_
  have hin := DevV.ok_in hk
  have h40 := DevV.ok_cache hk
  have hL := hin.len (by decide)
  have hidx := DevV.ok_idx hk
  simp -implicitDefEqProofs only [x_i_FlushDev, go_sem]
  repeat refine ⟨sc, ?_⟩
  try exact sf
  refine .of (c_i_copyDev d hL) ?_
  try simp -implicitDefEqProofs only [go_sem]
  repeat refine ⟨sc, ?_⟩
  try exact sf
  refine .of (c_i_DevOk d (hin.mono (by decide))) ?_
  try simp -implicitDefEqProofs only [go_sem, hk]
  repeat refine ⟨sc, ?_⟩
  try exact sf
  cases g1 : d.Down
  rotate_left
  · have e : d.flush = d := by rw [DevV.flush, if_pos g1]
    try simp -implicitDefEqProofs only [go_sem, g1, e, take_all, DevV.enc]
    repeat refine ⟨sc, ?_⟩
    try exact sf
    try rfl
  have e := show d.flush = if d.Fuse = 0 then d.burn else ⟨flushed d.Secs d.Cache, [], d.burn.Fuse, d.burn.Down⟩ from if_neg (by rw [g1]; decide)
  try simp -implicitDefEqProofs only [go_sem, g1, take_all]
  repeat refine ⟨sc, ?_⟩
  try exact sf
  have tb := c_i_burn d
  simp only [DevV.enc, g1] at tb
  have bc := burn_cache d
  have bs := burn_secs d
  cases g6 : (d.Fuse == 0)
  rotate_left
  · have g7 : d.Fuse = 0 := by simpa using g6
    rw [if_pos g7] at e
    refine .of (tb) ?_
    try simp -implicitDefEqProofs only [go_sem, g6, take_all, e, g1, DevV.enc]
    repeat refine ⟨sc, ?_⟩
    try exact sf
    try rfl
  have g7 : ¬ d.Fuse = 0 := by simpa using g6
  rw [if_neg g7] at e
  refine .of (tb) ?_
  try simp -implicitDefEqProofs only [go_sem, g6, take_all]
  repeat refine ⟨sc, ?_⟩
  try exact sf
  refine loop_of (σ := Nat × List (List UInt8)) (fun x => ⟨[(2, .bp 2 0), (3, .bp 3 0), (26, .one (.rf 45 1 [] 2 0 d.Cache.length)), (27, .one (.pv (.int .i64 d.Cache.length))), (28, .one (.pv (.int .i64 x.1)))], [(2, [.nils 1, .nils 2, .pv (.int .i64 0), .pv (.bool false)]), (3, [.rf 45 0 [] 1 0 d.Secs.length, .rf 45 1 [] 2 0 d.Cache.length, .pv (.int .i64 d.burn.Fuse), .pv (.bool d.burn.Down)])], [(0, d.enc false), (45, [slT true 1 (secR true) x.2, Tr.sl true 2 () (mvRows d.Cache x.1), iT d.burn.Fuse, bT d.burn.Down, bT true])]⟩) (fun x => x.1 ≤ d.Cache.length ∧ x.2 = flushed d.Secs (d.Cache.take x.1)) (fun x => d.Cache.length - x.1) (0, d.Secs) ?_ ⟨Nat.zero_le _, rfl⟩ ?_
  · simp -implicitDefEqProofs only [go_sem, bs, bc]
    try rfl
  · rintro ⟨i, S⟩ ⟨hi, he⟩
    simp only at hi he
    have hl : S.length = d.Secs.length := by rw [he, flushed_len]
    have hl2 : (List.map (secR true) S).length = d.Secs.length := by rw [List.length_map, hl]
    cases q : decide ((i : Int) < (d.Cache.length : Int))
    · have k0 : i = d.Cache.length := by simp only [decide_eq_false_iff_not] at q; omega
      rw [k0, List.take_length] at he
      have et : List.take d.Secs.length (List.map (secR true) S) = List.map (secR true) S := List.take_of_length_le (by omega)
      rw [← he] at e
      try simp -implicitDefEqProofs only [go_sem, q, et, e]
      repeat refine ⟨sc, ?_⟩
      try exact sf
      try rfl
    · have k1 : i < d.Cache.length := by simp only [decide_eq_true_eq] at q; omega
      have hw := hidx _ (List.getElem_mem k1)
      have hb : d.Cache[i].B.length ≤ 2 ^ 20 := hin.2.2 _ (List.getElem_mem k1)
      have g8 : decide (0 ≤ d.Cache[i].N) = true := decide_eq_true hw.1
      have hn : d.Cache[i].N.toNat < S.length := by omega
      have em := mv_get k1
      have ec : (mvRows d.Cache i).getD i [] = d.Cache[i].enc true := by rw [List.getD_eq_getElem?_getD, em]; rfl
      have ex := mv_set k1
      have eg := getS hn
      have es := setS S d.Cache[i].N.toNat d.Cache[i].B
      try simp -implicitDefEqProofs only [go_sem, q, em, ec, ex, mv_len]
      repeat refine ⟨sc, ?_⟩
      try exact sf
      refine .of (c_i_joined [d.Cache[i].B] (by rw [flat1]; omega) (by show 1 ≤ 2 ^ 31; decide)) ?_
      try simp -implicitDefEqProofs only [go_sem, flat1, take_all, g8, em, ec, ex, mv_len, storeAp, setCells, eg, es, hl2]
      repeat refine ⟨sc, ?_⟩
      try exact sf
      refine ⟨(i + 1, S.set d.Cache[i].N.toNat d.Cache[i].B), ?_, ⟨k1, by rw [he, flushed_step k1]⟩, by simp only; omega⟩
      rw [IntWalk.i64_in _ (by omega)]
      rfl
def x_s_l10Flush : FnX := ⟨46, [],
  .seq (.q [.m 3 0, .op 4 (.nilc (.t 3)), .f 5 4 3, .l 6 5, .m 7 6, ⟨(some (7, false)), some 8, 8, .mv (.t 0)⟩, ⟨(some (7, false)), some 9, 9, .call 111 [6] [(.t 8)]⟩, ⟨(some (7, false)), some 10, 10, .not (.t 9)⟩, .r 11 7 10]
 (.c 11 .ret))
 (.seq (.q [.i 2 0]
 (.block 0 (.loop [0, 2] (.seq (.q [.m 12 2, .m 13 0, .op 14 (.nilc (.t 13)), .f 15 14 1, .l 16 15, .n 17 16, .b 18 .lss 12 17]
 (.cond 18 .skip (.exit 0)))
 (.seq (.block 1 (.draw [.m 21 0, .op 22 (.nilc (.t 21)), .f 23 22 0, .l 24 23, .m 25 0, .op 26 (.nilc (.t 25)), .f 27 26 1, .l 28 27, .m 29 2, .x 30 2 28 29, .f 31 30 0, .l 32 31, .m 33 0, .op 34 (.nilc (.t 33)), .f 35 34 1, .l 36 35, .m 37 2, .x 38 2 36 37, .f 39 38 1, .l 40 39, .x 41 1 24 32, .s 100001 1 41 40] [[], [0], [1], [2], [], [4], [5], [6], [], [7, 8], [9], [10], [], [12], [13], [14], [], [15, 16], [17], [18], [3, 11, 0, 1, 2, 3, 4, 5, 6, 7, 8, 9, 10, 11, 12, 13, 14, 15, 16, 17, 18, 19], [20, 19, 0, 1, 2, 3, 4, 5, 6, 7, 8, 9, 10, 11, 12, 13, 14, 15, 16, 17, 18, 19]]))
 (.reg [.m 19 2, .B 20 .add 19 1, .m 2 20]))))))
 (.norm [0] (.reg [.m 42 0, .op 43 (.bslice 2 []), .op 44 (.nilc (.t 42)), .f 45 44 1, .s 100002 1 45 43])))⟩
abbrev C_s_l10Flush (Te : TE) : Prop := ∀ (d : DevV) (hd : d.Cache.length ≤ 2 ^ 30) (hidx : ∀ w ∈ d.Cache, 0 ≤ w.N ∧ w.N < d.Secs.length), Te 73 [.ptr (d.enc true)] ⟨[], [d.flush.enc true]⟩
theorem r_s_l10Flush {Te : TE} (c_s_l10Op : C_s_l10Op Te) : C_s_l10Flush (RF Te x_s_l10Flush) := by
  intro d hd hidx
  refine run0 ?_
  simp -implicitDefEqProofs only [x_s_l10Flush, go_sem]
  repeat refine ⟨sc, ?_⟩
  try exact sf
  cases g1 : d.Down
  rotate_left
  · have e : d.flush = d := by rw [DevV.flush, if_pos g1]
    try simp -implicitDefEqProofs only [go_sem, g1, e, take_all, DevV.enc]
    repeat refine ⟨sc, ?_⟩
    try exact sf
    try rfl
  have e := show d.flush = if d.Fuse = 0 then d.burn else ⟨flushed d.Secs d.Cache, [], d.burn.Fuse, d.burn.Down⟩ from if_neg (by rw [g1]; decide)
  try simp -implicitDefEqProofs only [go_sem, g1, take_all]
  repeat refine ⟨sc, ?_⟩
  try exact sf
  have tb := c_s_l10Op d
  simp only [DevV.enc, g1] at tb
  have bc := burn_cache d
  have bs := burn_secs d
  cases g6 : (d.Fuse == 0)
  rotate_left
  · have g7 : d.Fuse = 0 := by simpa using g6
    rw [if_pos g7] at e
    refine .of (tb) ?_
    try simp -implicitDefEqProofs only [go_sem, g6, take_all, e, g1, DevV.enc]
    repeat refine ⟨sc, ?_⟩
    try exact sf
    try rfl
  have g7 : ¬ d.Fuse = 0 := by simpa using g6
  rw [if_neg g7] at e
  refine .of (tb) ?_
  try simp -implicitDefEqProofs only [go_sem, g6, take_all]
  repeat refine ⟨sc, ?_⟩
  try exact sf
  refine loop_of (σ := Nat × List (List UInt8)) (fun x => ⟨[(0, .bp 0 0), (2, .one (.pv (.int .i64 x.1)))], [(0, [.rf 47 1 [] 1 0 d.Secs.length, .rf 47 2 [] 2 0 d.Cache.length, .pv (.int .i64 d.burn.Fuse), .pv (.bool d.burn.Down)])], [(0, [.no (), .no (), iT d.Fuse, bT false]), (47, [bT true, slT true 1 (secR true) x.2, Tr.sl true 2 () (mvRows d.Cache x.1), iT d.burn.Fuse, bT d.burn.Down])]⟩) (fun x => x.1 ≤ d.Cache.length ∧ x.2 = flushed d.Secs (d.Cache.take x.1)) (fun x => d.Cache.length - x.1) (0, d.Secs) ?_ ⟨Nat.zero_le _, rfl⟩ ?_
  · simp -implicitDefEqProofs only [go_sem, bs, bc]
    try rfl
  · rintro ⟨i, S⟩ ⟨hi, he⟩
    simp only at hi he
    have hl : S.length = d.Secs.length := by rw [he, flushed_len]
    have hl2 : (List.map (secR true) S).length = d.Secs.length := by rw [List.length_map, hl]
    cases q : decide ((i : Int) < (d.Cache.length : Int))
    · have k0 : i = d.Cache.length := by simp only [decide_eq_false_iff_not] at q; omega
      rw [k0, List.take_length] at he
      have et : List.take d.Secs.length (List.map (secR true) S) = List.map (secR true) S := List.take_of_length_le (by omega)
      rw [← he] at e
      try simp -implicitDefEqProofs only [go_sem, q, et, e]
      repeat refine ⟨sc, ?_⟩
      try exact sf
      try rfl
    · have k1 : i < d.Cache.length := by simp only [decide_eq_true_eq] at q; omega
      have hw := hidx _ (List.getElem_mem k1)
      have g8 : decide (0 ≤ d.Cache[i].N) = true := decide_eq_true hw.1
      have hn : d.Cache[i].N.toNat < S.length := by omega
      have em := mv_get k1
      have ec : (mvRows d.Cache i).getD i [] = d.Cache[i].enc true := by rw [List.getD_eq_getElem?_getD, em]; rfl
      have ex := mv_set k1
      have eg := getS hn
      have es := setS S d.Cache[i].N.toNat d.Cache[i].B
      try simp -implicitDefEqProofs only [go_sem, q, em, ec, ex, mv_len, take_rows, g8, storeAp, setCells, eg, es, hl2]
      repeat refine ⟨sc, ?_⟩
      try exact sf
      refine ⟨(i + 1, S.set d.Cache[i].N.toNat d.Cache[i].B), ?_, ⟨k1, by rw [he, flushed_step k1]⟩, by simp only; omega⟩
      rw [IntWalk.i64_in _ (by omega)]
      rfl
end Go.X

/- Vm -/
namespace Go.X
set_option maxRecDepth 100000
set_option maxHeartbeats 8000000
theorem DevV.ok_iff (d : DevV) : d.ok = true ↔ (1 ≤ d.Secs.length ∧ d.Secs.length ≤ 64) ∧ d.Cache.length ≤ 40 ∧ (-1 ≤ d.Fuse ∧ d.Fuse ≤ 1000) ∧ (∀ y ∈ d.Secs, y.length ≤ 120) ∧ ∀ w ∈ d.Cache, (0 ≤ w.N ∧ w.N < d.Secs.length) ∧ w.B.length ≤ 120 := by
  simp only [DevV.ok, Bool.and_eq_true, win, decide_eq_true_eq, List.all_eq_true, secGood, wrGood, Bool.not_eq_true', decide_eq_false_iff_not]
  constructor
  · rintro ⟨⟨⟨⟨h1, h2⟩, h3⟩, h4⟩, h5⟩
    exact ⟨by omega, by omega, by omega, fun y hy => by have := h4 y hy; omega, fun w hw => by have := h5 w hw; omega⟩
  · rintro ⟨h1, h2, h3, h4, h5⟩
    exact ⟨⟨⟨⟨by omega, by omega⟩, by omega⟩, fun y hy => by have := h4 y hy; omega⟩, fun w hw => by have := h5 w hw; omega⟩
theorem burn_ok {d : DevV} (h : d.ok = true) : d.burn.ok = true := by
  rw [DevV.ok_iff] at h ⊢
  obtain ⟨h1, h2, h3, h4, h5⟩ := h
  unfold DevV.burn
  split
  · exact ⟨h1, h2, by simp only; omega, h4, h5⟩
  · split
    · exact ⟨h1, h2, by simp only; rw [IntWalk.i64_in _ (by omega)]; omega, h4, h5⟩
    · exact ⟨h1, h2, h3, h4, h5⟩
theorem write_ok {d : DevV} (h : d.ok = true) (n : Int) (b : List UInt8) : (d.write n b).ok = true := by
  unfold DevV.write
  split
  · exact h
  · rename_i hf
    split
    · exact burn_ok h
    · have hb := burn_ok h
      simp only [DevV.full, Bool.or_eq_true, Bool.not_eq_true', decide_eq_true_eq, not_or, win, Bool.and_eq_false_iff, decide_eq_false_iff_not] at hf
      rw [DevV.ok_iff] at hb ⊢
      obtain ⟨h1, h2, h3, h4, h5⟩ := hb
      have bs := burn_secs d
      have bc := burn_cache d
      refine ⟨h1, ?_, h3, h4, fun w hw => ?_⟩
      · simp only [DevV.put, List.length_append, List.length_cons, List.length_nil]
        rw [bc]
        omega
      · rcases List.mem_append.1 hw with hw | hw
        · exact h5 w hw
        · simp only [List.mem_cons, List.not_mem_nil, or_false] at hw
          subst hw
          simp only [DevV.put]
          rw [bs]
          omega
theorem mem_set' {α : Type} {l : List α} {i : Nat} {x y : α} (h : y ∈ l.set i x) : y ∈ l ∨ y = x := by
  rcases List.mem_or_eq_of_mem_set h with h | h
  · exact .inl h
  · exact .inr h
theorem flushed_mem (C : List WrV) : ∀ (S : List (List UInt8)) (y : List UInt8), y ∈ flushed S C → y ∈ S ∨ ∃ w ∈ C, y = w.B := by
  induction C with
  | nil => intro S y h; exact .inl h
  | cons w C ih =>
    intro S y h
    rcases ih (S.set w.N.toNat w.B) y h with h | ⟨v, hv, e⟩
    · rcases mem_set' h with h | h
      · exact .inl h
      · exact .inr ⟨w, List.mem_cons_self .., h⟩
    · exact .inr ⟨v, List.mem_cons_of_mem _ hv, e⟩
theorem flush_ok {d : DevV} (h : d.ok = true) : d.flush.ok = true := by
  unfold DevV.flush
  split
  · exact h
  · split
    · exact burn_ok h
    · have hb := burn_ok h
      rw [DevV.ok_iff] at h hb ⊢
      refine ⟨by rw [flushed_len]; exact h.1, Nat.zero_le _, hb.2.2.1, fun y hy => ?_, fun w hw => by cases hw⟩
      rcases flushed_mem d.Cache d.Secs y hy with hy | ⟨w, hw, rfl⟩
      · exact h.2.2.2.1 y hy
      · exact (h.2.2.2.2 w hw).2
def secOf (gen place : Int) : Int := IntKind.i64.wrap (IntKind.i64.wrap (2 + IntKind.i64.wrap (30 * gen.tmod 2)) + place)
def layN (gen : Int) (recs : List RecV) (d : DevV) : Nat → DevV
  | 0 => d
  | i + 1 => (layN gen recs d i).write (secOf gen i) (putRec gen i (recs.getD i (recPhase 0)))
def layDev (gen : Int) (recs : List RecV) (d : DevV) : DevV := (((layN gen recs d recs.length).flush).write (gen.tmod 2) (headOf gen recs.length)).flush
theorem layN_ok {d : DevV} (h : d.ok = true) (gen : Int) (recs : List RecV) : ∀ i, (layN gen recs d i).ok = true
  | 0 => h
  | i + 1 => write_ok (layN_ok h gen recs i) _ _
theorem layN_step (gen : Int) (d : DevV) {recs : List RecV} {i : Nat} (h : i < recs.length) : (layN gen recs d i).write (secOf gen i) (putRec gen i recs[i]) = layN gen recs d (i + 1) := by
  rw [layN, List.getD_eq_getElem?_getD, List.getElem?_eq_getElem h, Option.getD_some]
theorem layDev_ok {d : DevV} (h : d.ok = true) (gen : Int) (recs : List RecV) : (layDev gen recs d).ok = true := flush_ok (write_ok (flush_ok (layN_ok h gen recs _)) _ _)
def x_i_sectorOf : FnX := ⟨11, [.tmp 4],
  .q [.i 4 0]
 (.q [.m 5 0, .B 6 .rem 5 2, .op 7 (.bin .mul (.i 30) (.t 6)), .op 8 (.bin .add (.i 2) (.t 7)), .m 9 1, .b 10 .add 8 9, .m 4 10]
 .ret)⟩
abbrev C_i_sectorOf (Te : TE) : Prop := ∀ (gen place : Int), Te 77 [.one (iT gen), .one (iT place)] ⟨[.one (iT (secOf gen place))], [[iT gen], [iT place]]⟩
theorem r_i_sectorOf {Te : TE} : C_i_sectorOf (RF Te x_i_sectorOf) := by
  intro gen place
  refine run0 ?_
  simp -implicitDefEqProofs only [x_i_sectorOf, go_sem]
  repeat refine ⟨sc, ?_⟩
  try exact sf
  try rfl
def x_s_l13At : FnX := ⟨11, [.tmp 4],
  .q [.i 4 0]
 (.q [.m 5 0, .B 6 .rem 5 2, .op 7 (.bin .mul (.i 30) (.t 6)), .op 8 (.bin .add (.i 2) (.t 7)), .m 9 1, .b 10 .add 8 9, .m 4 10]
 .ret)⟩
abbrev C_s_l13At (Te : TE) : Prop := ∀ (gen place : Int), Te 71 [.one (iT gen), .one (iT place)] ⟨[.one (iT (secOf gen place))], [[iT gen], [iT place]]⟩
theorem r_s_l13At {Te : TE} : C_s_l13At (RF Te x_s_l13At) := by
  intro gen place
  refine run0 ?_
  simp -implicitDefEqProofs only [x_s_l13At, go_sem]
  repeat refine ⟨sc, ?_⟩
  try exact sf
  try rfl
def x_i_laid : FnX := ⟨38, [.cell 6 (some 4)],
  .q [.v 3 0, .op 6 (.alloc [.nils 1, .nils 2, .i 0, .F])]
 (.seq (.q [.m 9 2, .n 10 9, .i 11 0]
 (.block 0 (.loop [1, 2, 3, 6, 9, 10, 11] (.q [.b 12 .lss 11 10]
 (.seq (.cond 12 .skip (.exit 0))
 (.seq (.block 1 (.q [.m 13 11, .x 14 13 9 11, .L 15 13 14, .op 8 (.alloc [.i 0, .e, .i 0, .nils 1, .i 0, .nils 1, .i 0, .F, .e, .i 0, .i 0, .i 0, .i 0]), .m 7 13, .s 100001 13 8 15]
 (.draw [.L 16 4 3, .m 17 1, .m 18 7, .c 19 77 [17, 18], .m 20 1, .m 21 7, .L 22 13 8, .c 23 78 [20, 21, 22], .c 24 76 [16, 19, 23], .s 100002 4 3 24] [[], [], [], [1, 2], [], [], [], [4, 5, 6, 3], [0, 3, 7, 7], [8, 8, 0, 1, 2, 3, 4, 5, 6, 7, 8]])))
 (.reg [.B 25 .add 11 1, .m 11 25])))))))
 (.norm [1, 2, 3, 6] (.q [.L 26 4 3, .c 27 79 [26], .s 100003 4 3 27]
 (.seq (.draw [.L 28 4 3, .m 29 1, .B 30 .rem 29 2, .m 31 1, .m 32 2, .n 33 32, .c 34 80 [31, 33], .c 35 76 [28, 30, 34], .s 100004 4 3 35] [[], [], [1], [], [], [4], [3, 5], [0, 2, 6, 6], [7, 7, 0, 1, 2, 3, 4, 5, 6, 7]])
 (.q [.L 36 4 3, .c 37 79 [36], .s 100005 4 6 37]
 .ret)))))⟩
abbrev C_i_laid (Te : TE) : Prop := ∀ (d : DevV) (gen : Int) (recs : List RecV) (hd : d.ok = true) (hr : recs.length ≤ 2 ^ 30 ∧ ∀ r ∈ recs, r.In (2 ^ 48)), Te 45 [.agg (d.enc false), .one (iT gen), .one (slT false 13 (RecV.enc false) recs)] ⟨[.agg ((layDev gen recs d).enc true)], [d.enc false, [iT gen], [slT false 13 (RecV.enc false) recs]]⟩
theorem r_i_laid {Te : TE} (c_i_sectorOf : C_i_sectorOf Te) (c_i_PutRec : C_i_PutRec Te) (c_i_WriteSec : C_i_WriteSec Te) (c_i_FlushDev : C_i_FlushDev Te) (c_i_HeadOf : C_i_HeadOf Te) : C_i_laid (RF Te x_i_laid) := by
  intro d gen recs hd hr
  refine run0 ?_
  have hrl := hr.1
  simp -implicitDefEqProofs only [x_i_laid, go_sem]
  repeat refine ⟨sc, ?_⟩
  try exact sf
  refine loop_of (σ := Bool × Nat × DevV) (fun x => cond x.1 (⟨[(1, .one (.pv (.int .i64 gen))), (2, .one (.ro 13 (recs.map (RecV.enc false)))), (3, .bp 3 0), (6, .bp 6 0), (9, .one (.ro 13 (recs.map (RecV.enc false)))), (10, .one (.pv (.int .i64 recs.length))), (11, .one (.pv (.int .i64 x.2.1)))], [(3, [.rf 41 0 [] 1 0 x.2.2.Secs.length, .rf 41 1 [] 2 0 x.2.2.Cache.length, .pv (.int .i64 x.2.2.Fuse), .pv (.bool x.2.2.Down)]), (6, [.nils 1, .nils 2, .pv (.int .i64 0), .pv (.bool false)])], [(0, d.enc false), (1, [iT gen]), (2, [slT false 13 (RecV.enc false) recs]), (41, x.2.2.enc true)]⟩) (⟨[(1, .one (.pv (.int .i64 gen))), (2, .one (.ro 13 (recs.map (RecV.enc false)))), (3, .bp 3 0), (6, .bp 6 0), (9, .one (.ro 13 (recs.map (RecV.enc false)))), (10, .one (.pv (.int .i64 recs.length))), (11, .one (.pv (.int .i64 x.2.1)))], [(3, [.ro 1 (x.2.2.Secs.map (secR false)), .ro 2 (x.2.2.Cache.map (WrV.enc false)), .pv (.int .i64 x.2.2.Fuse), .pv (.bool x.2.2.Down)]), (6, [.nils 1, .nils 2, .pv (.int .i64 0), .pv (.bool false)])], [(0, d.enc false), (1, [iT gen]), (2, [slT false 13 (RecV.enc false) recs])]⟩)) (fun x => x.2.1 ≤ recs.length ∧ x.2.2 = layN gen recs d x.2.1 ∧ x.2.2.ok = true ∧ (x.1 = false → x.2.1 = 0)) (fun x => recs.length - x.2.1) (false, 0, d) ?_ ⟨Nat.zero_le _, rfl, hd, fun _ => rfl⟩ ?_
  · simp -implicitDefEqProofs only [go_sem]
    try rfl
  · rintro ⟨b, i, D⟩ ⟨hi, hD, hk, hb⟩
    simp only at hi hD hk hb
    cases b
    · cases q : decide ((i : Int) < (recs.length : Int))
      · skip
        have k0 : i = recs.length := by simp only [decide_eq_false_iff_not] at q; omega
        have e : ((D.flush).write (gen.tmod 2) (headOf gen recs.length)).flush = layDev gen recs d := by rw [hD, k0]; rfl
        have hh := headOf_len gen recs.length
        have f1 := flush_ok hk
        have f2 := write_ok f1 (gen.tmod 2) (headOf gen recs.length)
        try simp -implicitDefEqProofs only [go_sem, q, take_all]
        repeat refine ⟨sc, ?_⟩
        try exact sf
        refine .of (c_i_FlushDev D hk) ?_
        try simp -implicitDefEqProofs only [go_sem, take_all]
        repeat refine ⟨sc, ?_⟩
        try exact sf
        refine .of (c_i_HeadOf _ _) ?_
        try simp -implicitDefEqProofs only [go_sem]
        repeat refine ⟨sc, ?_⟩
        try exact sf
        refine .of (c_i_WriteSec D.flush _ _ f1 (by omega)) ?_
        try simp -implicitDefEqProofs only [go_sem, take_all]
        repeat refine ⟨sc, ?_⟩
        try exact sf
        refine .of (c_i_FlushDev _ f2) ?_
        try simp -implicitDefEqProofs only [go_sem, take_all, e, DevV.enc]
        repeat refine ⟨sc, ?_⟩
        try exact sf
        try rfl
      · skip
        have k1 : i < recs.length := by simp only [decide_eq_true_eq] at q; omega
        have hp := putRec_len gen i recs[i]
        have hin := hr.2 _ (List.getElem_mem k1)
        have es := layN_step gen d k1
        rw [← hD] at es
        try simp -implicitDefEqProofs only [go_sem, q, List.getElem?_eq_getElem k1, take_all]
        repeat refine ⟨sc, ?_⟩
        try exact sf
        refine .of (c_i_sectorOf _ _) ?_
        try simp -implicitDefEqProofs only [go_sem]
        repeat refine ⟨sc, ?_⟩
        try exact sf
        refine .of (c_i_PutRec _ _ recs[i] hin) ?_
        try simp -implicitDefEqProofs only [go_sem]
        repeat refine ⟨sc, ?_⟩
        try exact sf
        refine .of (c_i_WriteSec D _ _ hk (by omega)) ?_
        try simp -implicitDefEqProofs only [go_sem, take_all]
        repeat refine ⟨sc, ?_⟩
        try exact sf
        refine ⟨(true, i + 1, D.write (secOf gen i) (putRec gen i recs[i])), ?_, ⟨k1, es, write_ok hk _ _, fun h => by cases h⟩, by simp only; omega⟩
        rw [IntWalk.i64_in _ (by omega)]
        rfl
    · cases q : decide ((i : Int) < (recs.length : Int))
      · skip
        have k0 : i = recs.length := by simp only [decide_eq_false_iff_not] at q; omega
        have e : ((D.flush).write (gen.tmod 2) (headOf gen recs.length)).flush = layDev gen recs d := by rw [hD, k0]; rfl
        have hh := headOf_len gen recs.length
        have f1 := flush_ok hk
        have f2 := write_ok f1 (gen.tmod 2) (headOf gen recs.length)
        try simp -implicitDefEqProofs only [go_sem, q, take_all]
        repeat refine ⟨sc, ?_⟩
        try exact sf
        refine .of (c_i_FlushDev D hk) ?_
        try simp -implicitDefEqProofs only [go_sem, take_all]
        repeat refine ⟨sc, ?_⟩
        try exact sf
        refine .of (c_i_HeadOf _ _) ?_
        try simp -implicitDefEqProofs only [go_sem]
        repeat refine ⟨sc, ?_⟩
        try exact sf
        refine .of (c_i_WriteSec D.flush _ _ f1 (by omega)) ?_
        try simp -implicitDefEqProofs only [go_sem, take_all]
        repeat refine ⟨sc, ?_⟩
        try exact sf
        refine .of (c_i_FlushDev _ f2) ?_
        try simp -implicitDefEqProofs only [go_sem, take_all, e, DevV.enc]
        repeat refine ⟨sc, ?_⟩
        try exact sf
        try rfl
      · skip
        have k1 : i < recs.length := by simp only [decide_eq_true_eq] at q; omega
        have hp := putRec_len gen i recs[i]
        have hin := hr.2 _ (List.getElem_mem k1)
        have es := layN_step gen d k1
        rw [← hD] at es
        try simp -implicitDefEqProofs only [go_sem, q, List.getElem?_eq_getElem k1, take_all]
        repeat refine ⟨sc, ?_⟩
        try exact sf
        refine .of (c_i_sectorOf _ _) ?_
        try simp -implicitDefEqProofs only [go_sem]
        repeat refine ⟨sc, ?_⟩
        try exact sf
        refine .of (c_i_PutRec _ _ recs[i] hin) ?_
        try simp -implicitDefEqProofs only [go_sem]
        repeat refine ⟨sc, ?_⟩
        try exact sf
        refine .of (c_i_WriteSec D _ _ hk (by omega)) ?_
        try simp -implicitDefEqProofs only [go_sem, take_all]
        repeat refine ⟨sc, ?_⟩
        try exact sf
        refine ⟨(true, i + 1, D.write (secOf gen i) (putRec gen i recs[i])), ?_, ⟨k1, es, write_ok hk _ _, fun h => by cases h⟩, by simp only; omega⟩
        rw [IntWalk.i64_in _ (by omega)]
        rfl
end Go.X

/- Vn -/
namespace Go.X
set_option maxRecDepth 100000
set_option maxHeartbeats 8000000
theorem RowV.zero_in (n : Nat) : RowV.zero.In n := ⟨Nat.zero_le _, Nat.zero_le _, Nat.zero_le _⟩
theorem recsOf_in {t : TabV} {n : Nat} (h : t.In n) : ∀ r ∈ recsOf t, r.In n := by
  intro r hr
  simp only [recsOf, List.mem_cons, List.mem_append, List.mem_map] at hr
  rcases hr with rfl | ⟨y, hy, rfl⟩ | ⟨y, hy, rfl⟩
  · exact ⟨RowV.zero_in n, Nat.zero_le _⟩
  · exact ⟨h.1.2 y hy, Nat.zero_le _⟩
  · exact ⟨RowV.zero_in n, Nat.zero_le _⟩
theorem recsOf_le {t : TabV} (h : t.In (2 ^ 20)) : (recsOf t).length ≤ 2 ^ 30 ∧ ∀ r ∈ recsOf t, r.In (2 ^ 48) :=
  ⟨by rw [recsOf_len]; have := h.1.1; have := h.2; omega, fun r hr => (recsOf_in h r hr).mono (by decide)⟩
def StoreV.lay (s : StoreV) (gen : Int) : StoreV :=
  if (layDev gen (recsOf s.T) s.D).Down = true then ⟨layDev gen (recsOf s.T) s.D, s.T, s.Gen, s.Place⟩ else ⟨layDev gen (recsOf s.T) s.D, s.T, gen, (recsOf s.T).length⟩
theorem lay_down {s : StoreV} {gen : Int} (h : (layDev gen (recsOf s.T) s.D).Down = true) : s.lay gen = ⟨layDev gen (recsOf s.T) s.D, s.T, s.Gen, s.Place⟩ := if_pos h
theorem lay_up {s : StoreV} {gen : Int} (h : (layDev gen (recsOf s.T) s.D).Down = false) : s.lay gen = ⟨layDev gen (recsOf s.T) s.D, s.T, gen, (recsOf s.T).length⟩ := if_neg (by rw [h]; decide)
def x_s_l13Lay : FnX := ⟨64, [],
  .q [.m 6 0, .op 7 (.nilc (.t 6)), .f 8 7 4, .L 9 3 8, .c 10 69 [9], .m 4 10]
 (.seq (.q [.i 5 0]
 (.block 0 (.loop [0, 1, 4, 5] (.seq (.q [.m 11 5, .m 12 4, .n 13 12, .b 14 .lss 11 13]
 (.cond 14 .skip (.exit 0)))
 (.seq (.block 1 (.draw [.m 17 0, .op 18 (.nilc (.t 17)), .f 19 18 0, .m 20 1, .m 21 5, .c 22 71 [20, 21], .m 23 1, .m 24 5, .m 25 4, .m 26 5, .x 27 13 25 26, .L 28 13 27, .c 29 72 [23, 24, 28], .op 30 (.call 70 [6, 0, 0] [(.t 19), (.t 22), (.t 29)])] [[], [0], [1], [], [], [3, 4], [], [], [], [], [8, 9], [10], [6, 7, 11, 5], [2, 5, 12, 12]]))
 (.reg [.m 15 5, .B 16 .add 15 1, .m 5 16]))))))
 (.norm [0, 1, 4] (.q [.m 31 0, .op 32 (.nilc (.t 31)), .f 33 32 0, .op 34 (.call 73 [6] [(.t 33)])]
 (.seq (.draw [.m 35 0, .op 36 (.nilc (.t 35)), .f 37 36 0, .m 38 1, .B 39 .rem 38 2, .m 40 1, .m 41 4, .n 42 41, .c 43 74 [40, 42], .op 44 (.call 70 [6, 0, 0] [(.t 37), (.t 39), (.t 43)])] [[], [0], [1], [], [3], [], [], [6], [5, 7], [2, 4, 8, 8]])
 (.q [.m 45 0, .op 46 (.nilc (.t 45)), .f 47 46 0, .op 48 (.call 73 [6] [(.t 47)])]
 (.q [.m 49 0, .op 50 (.nilc (.t 49)), .f 51 50 0, .f 52 51 3, .l 53 52, .N 54 53]
 (.c 54 (.q [.m 55 0, .m 56 1, .op 57 (.nilc (.t 55)), .f 58 57 7, .s 100001 1 58 56]
 (.reg [.m 59 0, .m 60 4, .n 61 60, .op 62 (.nilc (.t 59)), .f 63 62 8, .s 100002 1 63 61])))))))))⟩
abbrev C_s_l13Lay (Te : TE) : Prop := ∀ (s : StoreV) (gen : Int) (hd : s.D.ok = true) (ht : s.T.In (2 ^ 20)), Te 43 [.ptr (s.enc true), .one (iT gen)] ⟨[], [(s.lay gen).enc true, [iT gen]]⟩
theorem r_s_l13Lay {Te : TE} (c_s_RecsOf : C_s_RecsOf Te) (c_s_l13At : C_s_l13At Te) (c_s_PutRec : C_s_PutRec Te) (c_s_l10Write : C_s_l10Write Te) (c_s_l10Flush : C_s_l10Flush Te) (c_s_HeadOf : C_s_HeadOf Te) : C_s_l13Lay (RF Te x_s_l13Lay) := by
  intro s gen hd ht
  refine run0 ?_
  have hL := ht.len (by decide)
  obtain ⟨hr1, hr2⟩ := recsOf_le ht
  obtain ⟨D0, T0, G0, P0⟩ := s
  simp only at hd ht hL hr1 hr2
  obtain ⟨E0, hE⟩ : ∃ E0, E0 = D0 := ⟨_, rfl⟩
  generalize hL0 : (StoreV.mk D0 T0 G0 P0).lay gen = L0
  rw [← hE] at hL0
  simp -implicitDefEqProofs only [x_s_l13Lay, go_sem]
  repeat refine ⟨sc, ?_⟩
  try exact sf
  refine .of (c_s_RecsOf T0 hL) ?_
  try simp -implicitDefEqProofs only [go_sem]
  repeat refine ⟨sc, ?_⟩
  try exact sf
  generalize eR : recsOf T0 = R at hr1 hr2
  refine loop_of (σ := Bool × Nat × DevV) (fun x => cond x.1 (⟨[(0, .bp 0 0), (1, .one (.pv (.int .i64 gen))), (4, .one (.rf 66 0 [] 13 0 R.length)), (5, .one (.pv (.int .i64 x.2.1)))], [(0, [.rf 67 0 [] 1 0 x.2.2.Secs.length, .rf 67 1 [] 2 0 x.2.2.Cache.length, .pv (.int .i64 x.2.2.Fuse), .pv (.bool x.2.2.Down), .rf 0 4 [] 7 0 T0.Rows.length, .pv (.int .i64 T0.Phase), .rf 0 6 [] 3 0 T0.Marks.length, .pv (.int .i64 G0), .pv (.int .i64 P0)])], [(0, [.no (), .no (), iT D0.Fuse, bT D0.Down, slT true 7 (RowV.enc true) T0.Rows, iT T0.Phase, slT true 3 MarkV.row T0.Marks, iT G0, iT P0]), (1, [iT gen]), (66, [slT true 13 (RecV.enc true) R]), (67, x.2.2.enc true)]⟩) (⟨[(0, .bp 0 0), (1, .one (.pv (.int .i64 gen))), (4, .one (.rf 66 0 [] 13 0 R.length)), (5, .one (.pv (.int .i64 x.2.1)))], [(0, [.rf 0 0 [] 1 0 x.2.2.Secs.length, .rf 0 1 [] 2 0 x.2.2.Cache.length, .pv (.int .i64 x.2.2.Fuse), .pv (.bool x.2.2.Down), .rf 0 4 [] 7 0 T0.Rows.length, .pv (.int .i64 T0.Phase), .rf 0 6 [] 3 0 T0.Marks.length, .pv (.int .i64 G0), .pv (.int .i64 P0)])], [(0, (StoreV.mk D0 T0 G0 P0).enc true), (1, [iT gen]), (66, [slT true 13 (RecV.enc true) R])]⟩)) (fun x => x.2.1 ≤ R.length ∧ x.2.2 = layN gen R E0 x.2.1 ∧ x.2.2.ok = true ∧ (x.1 = false → x.2.2 = D0)) (fun x => R.length - x.2.1) (false, 0, D0) ?_ ⟨Nat.zero_le _, hE.symm, hd, fun _ => rfl⟩ ?_
  · simp -implicitDefEqProofs only [go_sem]
    try rfl
  · rintro ⟨b, i, D⟩ ⟨hi, hD, hk, hb⟩
    simp only at hi hD hk hb
    cases b
    all_goals try (have hb := hb rfl; subst hb)
    all_goals
      have hcl := (DevV.ok_iff D).1 hk
      cases q : decide ((i : Int) < (R.length : Int))
      · have k0 : i = R.length := by simp only [decide_eq_false_iff_not] at q; omega
        have e : ((D.flush).write (gen.tmod 2) (headOf gen R.length)).flush = layDev gen R E0 := by rw [hD, k0]; rfl
        have hh := headOf_len gen R.length
        have f1 := flush_ok hk
        have f2 := write_ok f1 (gen.tmod 2) (headOf gen R.length)
        have hcl1 := (DevV.ok_iff _).1 f1
        have hcl2 := (DevV.ok_iff _).1 f2
        try simp -implicitDefEqProofs only [go_sem, q]
        repeat refine ⟨sc, ?_⟩
        try exact sf
        refine .of (c_s_l10Flush D (by omega) (DevV.ok_idx hk)) ?_
        try simp -implicitDefEqProofs only [go_sem, take_all]
        repeat refine ⟨sc, ?_⟩
        try exact sf
        refine .of (c_s_HeadOf _ _) ?_
        try simp -implicitDefEqProofs only [go_sem]
        repeat refine ⟨sc, ?_⟩
        try exact sf
        refine .of (c_s_l10Write D.flush _ _ (by omega) (by omega)) ?_
        try simp -implicitDefEqProofs only [go_sem, take_all]
        repeat refine ⟨sc, ?_⟩
        try exact sf
        refine .of (c_s_l10Flush _ (by omega) (DevV.ok_idx f2)) ?_
        try simp -implicitDefEqProofs only [go_sem, take_all]
        repeat refine ⟨sc, ?_⟩
        try exact sf
        rw [e]
        cases g : (layDev gen R E0).Down
        · have e2 : L0 = ⟨layDev gen R E0, T0, gen, R.length⟩ := by rw [← hL0, ← eR]; exact lay_up (by rw [eR]; exact g)
          try simp -implicitDefEqProofs only [go_sem, g, e2, take_all, StoreV.enc]
          repeat refine ⟨sc, ?_⟩
          try exact sf
          try rfl
        · have e2 : L0 = ⟨layDev gen R E0, T0, G0, P0⟩ := by rw [← hL0, ← eR]; exact lay_down (by rw [eR]; exact g)
          try simp -implicitDefEqProofs only [go_sem, g, e2, take_all, StoreV.enc]
          repeat refine ⟨sc, ?_⟩
          try exact sf
          try rfl
      · have k1 : i < R.length := by simp only [decide_eq_true_eq] at q; omega
        have hp := putRec_len gen i R[i]
        have hin := hr2 _ (List.getElem_mem k1)
        have es := layN_step gen E0 k1
        rw [← hD] at es
        have eg : (R.map (RecV.enc true)).getD i [] = R[i].enc true := by rw [List.getD_eq_getElem?_getD, List.getElem?_map, List.getElem?_eq_getElem k1]; rfl
        try simp -implicitDefEqProofs only [go_sem, q, List.getElem?_eq_getElem k1]
        repeat refine ⟨sc, ?_⟩
        try exact sf
        refine .of (c_s_l13At _ _) ?_
        try simp -implicitDefEqProofs only [go_sem, eg, List.getElem?_eq_getElem k1]
        repeat refine ⟨sc, ?_⟩
        try exact sf
        refine .of (c_s_PutRec _ _ R[i] hin) ?_
        try simp -implicitDefEqProofs only [go_sem]
        repeat refine ⟨sc, ?_⟩
        try exact sf
        refine .of (c_s_l10Write D _ _ (by omega) (by omega)) ?_
        try simp -implicitDefEqProofs only [go_sem, take_all]
        repeat refine ⟨sc, ?_⟩
        try exact sf
        refine ⟨(true, i + 1, D.write (secOf gen i) (putRec gen i R[i])), ?_, ⟨k1, es, write_ok hk _ _, fun h => by cases h⟩, by simp only; omega⟩
        rw [IntWalk.i64_in _ (by omega)]
        rfl
def TabV.zero : TabV := ⟨[], 0, []⟩
def fmt : StoreV := (StoreV.mk (devNew 62) TabV.zero 0 0).lay 1
theorem write_fuse {d : DevV} (h : d.Fuse < 0) (hd : d.Down = false) (n : Int) (b : List UInt8) : (d.write n b).Fuse = d.Fuse ∧ (d.write n b).Down = false := by
  have hb : d.burn = d := by rw [DevV.burn, if_neg (by omega), if_neg (by omega)]
  unfold DevV.write
  split
  · exact ⟨rfl, hd⟩
  · rw [if_neg (by omega), hb]; exact ⟨rfl, hd⟩
theorem flush_fuse {d : DevV} (h : d.Fuse < 0) (hd : d.Down = false) : d.flush.Fuse = d.Fuse ∧ d.flush.Down = false := by
  have hb : d.burn = d := by rw [DevV.burn, if_neg (by omega), if_neg (by omega)]
  unfold DevV.flush
  rw [hd, if_neg (by decide), if_neg (by omega), hb]
  exact ⟨rfl, hd⟩
theorem layN_fuse {d : DevV} (h : d.Fuse < 0) (hd : d.Down = false) (gen : Int) (recs : List RecV) : ∀ i, (layN gen recs d i).Fuse = d.Fuse ∧ (layN gen recs d i).Down = false := by
  intro i
  induction i with
  | zero => exact ⟨rfl, hd⟩
  | succ i ih =>
    have := write_fuse (d := layN gen recs d i) (by rw [ih.1]; exact h) ih.2 (secOf gen i) (putRec gen i (recs.getD i (recPhase 0)))
    rw [layN]
    exact ⟨this.1.trans ih.1, this.2⟩
theorem layDev_fuse {d : DevV} (h : d.Fuse < 0) (hd : d.Down = false) (gen : Int) (recs : List RecV) : (layDev gen recs d).Fuse = d.Fuse ∧ (layDev gen recs d).Down = false := by
  obtain ⟨a1, a2⟩ := layN_fuse h hd gen recs recs.length
  obtain ⟨b1, b2⟩ := flush_fuse (d := layN gen recs d recs.length) (by omega) a2
  obtain ⟨c1, c2⟩ := write_fuse (d := (layN gen recs d recs.length).flush) (by omega) b2 (gen.tmod 2) (headOf gen recs.length)
  obtain ⟨d1, d2⟩ := flush_fuse (d := ((layN gen recs d recs.length).flush).write (gen.tmod 2) (headOf gen recs.length)) (by omega) c2
  exact ⟨by rw [layDev, d1, c1, b1, a1], d2⟩
theorem devNew_62 : devNew 62 = ⟨List.replicate 62 [], [], -1, false⟩ := rfl
theorem devNew_ok : (devNew 62).ok = true := by rw [devNew_62, DevV.ok_iff]; exact ⟨⟨by simp, by simp⟩, by simp, ⟨by simp, by simp⟩, fun y hy => by rw [List.eq_of_mem_replicate hy]; exact Nat.zero_le _, fun w hw => by cases hw⟩
theorem recsOf_zero : recsOf TabV.zero = [recPhase 0] := rfl
theorem fmt_eq : fmt = ⟨layDev 1 [recPhase 0] (devNew 62), TabV.zero, 1, 1⟩ := by
  rw [fmt, lay_up]
  · rfl
  · exact (layDev_fuse (by rw [devNew_62]; decide) (by rw [devNew_62]) 1 _).2
theorem TabV.zero_in (n : Nat) : TabV.zero.In n := ⟨⟨Nat.zero_le _, fun y hy => by cases hy⟩, Nat.zero_le _⟩
def x_i_Format : FnX := ⟨10, [.cell 0 (some 9)],
  .q [.op 0 (.alloc [.nils 1, .nils 2, .i 0, .F, .nils 7, .i 0, .nils 3, .i 0, .i 0])]
 (.q [.op 2 (.build [.nils 7, .i 0, .nils 3] []), .c 3 44 [2], .m 1 3]
 (.q [.op 4 (.call 46 [0] [(.i 62)]), .m 5 1, .op 6 (.call 45 [0, 0, 0] [(.t 4), (.i 1), (.t 5)]), .m 7 1, .n 8 7, .op 9 (.build [.nils 1, .nils 2, .i 0, .F, .nils 7, .i 0, .nils 3, .i 0, .i 0] [(0, 4, (.t 6)), (7, 1, (.i 1)), (8, 1, (.t 8))]), .s 100001 9 0 9]
 .ret))⟩
abbrev C_i_Format (Te : TE) : Prop := Te 26 [] ⟨[.agg (fmt.enc true)], []⟩
theorem r_i_Format {Te : TE} (c_i_RecsOf : C_i_RecsOf Te) (c_i_DevNew : C_i_DevNew Te) (c_i_laid : C_i_laid Te) : C_i_Format (RF Te x_i_Format) := by
  refine run0 ?_
  have hr : ([recPhase 0] : List RecV).length ≤ 2 ^ 30 ∧ ∀ r ∈ ([recPhase 0] : List RecV), r.In (2 ^ 48) := recsOf_le (TabV.zero_in _)
  have t1 := c_i_RecsOf TabV.zero ((TabV.zero_in (2 ^ 20)).len (by decide))
  rw [recsOf_zero] at t1
  have e := fmt_eq
  have h1 : (([recPhase 0] : List RecV).length : Int) = 1 := rfl
  generalize [recPhase 0] = R at hr t1 e h1
  simp -implicitDefEqProofs only [x_i_Format, go_sem]
  repeat refine ⟨sc, ?_⟩
  try exact sf
  refine .of (t1) ?_
  try simp -implicitDefEqProofs only [go_sem]
  repeat refine ⟨sc, ?_⟩
  try exact sf
  refine .of (c_i_DevNew 62) ?_
  try simp -implicitDefEqProofs only [go_sem]
  repeat refine ⟨sc, ?_⟩
  try exact sf
  refine .of (c_i_laid (devNew 62) 1 R devNew_ok hr) ?_
  try simp -implicitDefEqProofs only [go_sem, take_all, e, h1, StoreV.enc]
  repeat refine ⟨sc, ?_⟩
  try exact sf
  try rfl
def x_s_Format : FnX := ⟨7, [.cell 0 (some 9)],
  .q [.op 0 (.alloc [.nils 1, .nils 2, .i 0, .F, .nils 7, .i 0, .nils 3, .i 0, .i 0])]
 (.q [.op 2 (.call 42 [0] [(.i 62)]), .op 3 (.build [.nils 7, .i 0, .nils 3] []), .op 4 (.build [.nils 1, .nils 2, .i 0, .F, .nils 7, .i 0, .nils 3, .i 0, .i 0] [(0, 4, (.t 2)), (4, 3, (.t 3))]), .op 1 (.alloc [.nils 1, .nils 2, .i 0, .F, .nils 7, .i 0, .nils 3, .i 0, .i 0]), .s 100001 9 1 4]
 (.q [.op 5 (.call 43 [11, 0] [(.t 1), (.i 1)])]
 (.q [.L 6 9 1, .s 100002 9 0 6]
 .ret)))⟩
abbrev C_s_Format (Te : TE) : Prop := Te 24 [] ⟨[.agg (fmt.enc true)], []⟩
theorem r_s_Format {Te : TE} (c_s_DevNew : C_s_DevNew Te) (c_s_l13Lay : C_s_l13Lay Te) : C_s_Format (RF Te x_s_Format) := by
  refine run0 ?_
  simp -implicitDefEqProofs only [x_s_Format, go_sem]
  repeat refine ⟨sc, ?_⟩
  try exact sf
  refine .of (c_s_DevNew 62) ?_
  try simp -implicitDefEqProofs only [go_sem]
  repeat refine ⟨sc, ?_⟩
  try exact sf
  refine .of (c_s_l13Lay (StoreV.mk (devNew 62) TabV.zero 0 0) 1 devNew_ok (TabV.zero_in _)) ?_
  try simp -implicitDefEqProofs only [go_sem, take_all]
  repeat refine ⟨sc, ?_⟩
  try exact sf
  try rfl
def NodeV.zero : NodeV := ⟨⟨⟨[], [], 0, false⟩, TabV.zero, 0, 0⟩, 0⟩
def nodeNew (cs : Int) : NodeV := bif win cs 1 5 then ⟨fmt, cs⟩ else NodeV.zero
theorem nodeNew_len (cs : Int) : (nodeNew cs).Len := by
  unfold nodeNew
  cases win cs 1 5
  · exact ⟨⟨⟨Nat.zero_le _, fun y hy => by cases hy⟩, Nat.zero_le _, fun y hy => by cases hy⟩, (TabV.zero_in (2 ^ 20)).len (by decide)⟩
  · have h : (⟨fmt, cs⟩ : NodeV).Len := by
      show fmt.Len
      rw [fmt_eq]
      exact ⟨(DevV.ok_in (layDev_ok devNew_ok 1 [recPhase 0])).len (by decide), (TabV.zero_in (2 ^ 20)).len (by decide)⟩
    exact h
def x_i_NodeNew : FnX := ⟨10, [.cell 2 (some 10)],
  .q [.op 2 (.alloc [.nils 1, .nils 2, .i 0, .F, .nils 7, .i 0, .nils 3, .i 0, .i 0, .i 0])]
 (.seq (.q [.m 3 0, .op 4 (.call 25 [0, 0, 0] [(.t 3), (.i 1), (.i 5)]), .N 5 4]
 (.c 5 (.q [.op 6 (.build [.nils 1, .nils 2, .i 0, .F, .nils 7, .i 0, .nils 3, .i 0, .i 0, .i 0] []), .s 100001 10 2 6]
 .ret)))
 (.q [.c 7 26 [], .m 8 0, .op 9 (.build [.nils 1, .nils 2, .i 0, .F, .nils 7, .i 0, .nils 3, .i 0, .i 0, .i 0] [(0, 9, (.t 7)), (9, 1, (.t 8))]), .s 100002 10 2 9]
 .ret))⟩
abbrev C_i_NodeNew (Te : TE) : Prop := ∀ (cs : Int), Te 11 [.one (iT cs)] ⟨[.agg ((nodeNew cs).enc true)], [[iT cs]]⟩
theorem r_i_NodeNew {Te : TE} (c_i_within : C_i_within Te) (c_i_Format : C_i_Format Te) : C_i_NodeNew (RF Te x_i_NodeNew) := by
  intro cs
  refine run0 ?_
  simp -implicitDefEqProofs only [x_i_NodeNew, go_sem]
  repeat refine ⟨sc, ?_⟩
  try exact sf
  refine .of (c_i_within _ _ _) ?_
  try simp -implicitDefEqProofs only [go_sem]
  repeat refine ⟨sc, ?_⟩
  try exact sf
  cases g : win cs 1 5
  · have e : nodeNew cs = NodeV.zero := by rw [nodeNew, g]; rfl
    try simp -implicitDefEqProofs only [go_sem, e]
    repeat refine ⟨sc, ?_⟩
    try exact sf
    try rfl
  · have e : nodeNew cs = ⟨fmt, cs⟩ := by rw [nodeNew, g]; rfl
    try simp -implicitDefEqProofs only [go_sem, e]
    repeat refine ⟨sc, ?_⟩
    try exact sf
    refine .of (c_i_Format) ?_
    try simp -implicitDefEqProofs only [go_sem, take_all]
    repeat refine ⟨sc, ?_⟩
    try exact sf
    try rfl
def x_s_NodeNew : FnX := ⟨10, [.cell 2 (some 10)],
  .q [.op 2 (.alloc [.nils 1, .nils 2, .i 0, .F, .nils 7, .i 0, .nils 3, .i 0, .i 0, .i 0])]
 (.seq (.q [.m 3 0, .op 4 (.call 23 [0, 0, 0] [(.t 3), (.i 1), (.i 5)]), .N 5 4]
 (.c 5 (.q [.op 6 (.build [.nils 1, .nils 2, .i 0, .F, .nils 7, .i 0, .nils 3, .i 0, .i 0, .i 0] []), .s 100001 10 2 6]
 .ret)))
 (.q [.c 7 24 [], .m 8 0, .op 9 (.build [.nils 1, .nils 2, .i 0, .F, .nils 7, .i 0, .nils 3, .i 0, .i 0, .i 0] [(0, 9, (.t 7)), (9, 1, (.t 8))]), .s 100002 10 2 9]
 .ret))⟩
abbrev C_s_NodeNew (Te : TE) : Prop := ∀ (cs : Int), Te 10 [.one (iT cs)] ⟨[.agg ((nodeNew cs).enc true)], [[iT cs]]⟩
theorem r_s_NodeNew {Te : TE} (c_s_l1In : C_s_l1In Te) (c_s_Format : C_s_Format Te) : C_s_NodeNew (RF Te x_s_NodeNew) := by
  intro cs
  refine run0 ?_
  simp -implicitDefEqProofs only [x_s_NodeNew, go_sem]
  repeat refine ⟨sc, ?_⟩
  try exact sf
  refine .of (c_s_l1In _ _ _) ?_
  try simp -implicitDefEqProofs only [go_sem]
  repeat refine ⟨sc, ?_⟩
  try exact sf
  cases g : win cs 1 5
  · have e : nodeNew cs = NodeV.zero := by rw [nodeNew, g]; rfl
    try simp -implicitDefEqProofs only [go_sem, e]
    repeat refine ⟨sc, ?_⟩
    try exact sf
    try rfl
  · have e : nodeNew cs = ⟨fmt, cs⟩ := by rw [nodeNew, g]; rfl
    try simp -implicitDefEqProofs only [go_sem, e]
    repeat refine ⟨sc, ?_⟩
    try exact sf
    refine .of (c_s_Format) ?_
    try simp -implicitDefEqProofs only [go_sem, take_all]
    repeat refine ⟨sc, ?_⟩
    try exact sf
    try rfl
end Go.X

/- W_NodeNew -/
namespace Go.X
set_option maxRecDepth 100000
set_option maxHeartbeats 8000000
def x_l_FnExactNodeNew : FnX := ⟨41, [.tmp 2],
  .q [.F 2]
 (.q [.m 8 0, .c 9 10 [8], .op 3 (.alloc [.nils 1, .nils 2, .i 0, .F, .nils 7, .i 0, .nils 3, .i 0, .i 0, .i 0]), .s 100001 10 3 9]
 (.q [.m 10 0, .c 11 11 [10], .op 4 (.alloc [.nils 1, .nils 2, .i 0, .F, .nils 7, .i 0, .nils 3, .i 0, .i 0, .i 0]), .s 100002 10 4 11]
 (.seq (.q [.L 12 10 4, .L 13 10 3, .c 14 9 [12, 13], .N 15 14]
 (.c 15 (.q [.F 2]
 .ret)))
 (.q [.i 5 1]
 (.q [.L 16 10 4, .m 17 5, .op 18 (.io 12 (.t 16) [(.t 17)]), .m 5 18]
 (.q [.i 6 1]
 (.q [.L 19 10 4, .m 20 6, .c 21 13 [19, 20], .m 6 21]
 (.seq (.q [.m 22 6, .B 23 .lss 22 0]
 (.c 23 (.q [.F 2]
 .ret)))
 (.seq (.q [.m 24 6, .m 25 5, .b 26 .neq 24 25]
 (.c 26 (.q [.F 2]
 .ret)))
 (.q [.m 27 0, .c 28 11 [27], .op 7 (.alloc [.nils 1, .nils 2, .i 0, .F, .nils 7, .i 0, .nils 3, .i 0, .i 0, .i 0]), .s 100003 10 7 28]
 (.seq (.q [.L 29 10 7, .L 30 10 3, .c 31 9 [29, 30], .N 32 31]
 (.c 32 (.q [.F 2]
 .ret)))
 (.q [.i 6 1]
 (.q [.L 33 10 4, .m 34 6, .c 35 13 [33, 34], .m 6 35]
 (.seq (.q [.m 36 6, .B 37 .lss 36 0]
 (.c 37 (.q [.F 2]
 .ret)))
 (.seq (.q [.m 38 6, .m 39 5, .b 40 .neq 38 39]
 (.c 40 (.q [.F 2]
 .ret)))
 (.q [.T 2]
 .ret))))))))))))))))⟩
abbrev C_l_FnExactNodeNew (Te : TE) : Prop := ∀ (aCs : Int), Te 4 [.one (iT aCs)] ⟨[.one (bT true)], [[iT aCs]]⟩
theorem r_l_FnExactNodeNew {Te : TE} (c_s_NodeNew : C_s_NodeNew Te) (c_i_NodeNew : C_i_NodeNew Te) (c_l_eqNode : C_l_eqNode Te) (c_l_markNode : C_l_markNode Te) (c_l_heldNode : C_l_heldNode Te) : C_l_FnExactNodeNew (RF Te x_l_FnExactNodeNew) := by
  intro aCs
  refine run0 ?_
  simp -implicitDefEqProofs only [x_l_FnExactNodeNew, go_sem]
  refine .of (c_s_NodeNew _) ?_
  simp -implicitDefEqProofs only [go_sem, eq_self, bne_self_eq_false, Bool.xor_self, true_implies, false_implies, marks_length, marks_take, take_map, NodeV.mark_S_D_Secs, NodeV.take_S_D_Secs, NodeV.mark_S_D_Cache, NodeV.take_S_D_Cache, NodeV.mark_S_T_Rows, NodeV.take_S_T_Rows, NodeV.mark_S_T_Marks, NodeV.take_S_T_Marks]
  repeat refine ⟨sc, ?_⟩
  refine .of (c_i_NodeNew _) ?_
  simp -implicitDefEqProofs only [go_sem, eq_self, bne_self_eq_false, Bool.xor_self, true_implies, false_implies, marks_length, marks_take, take_map, NodeV.mark_S_D_Secs, NodeV.take_S_D_Secs, NodeV.mark_S_D_Cache, NodeV.take_S_D_Cache, NodeV.mark_S_T_Rows, NodeV.take_S_T_Rows, NodeV.mark_S_T_Marks, NodeV.take_S_T_Marks]
  repeat refine ⟨sc, ?_⟩
  refine .of (c_l_eqNode (nodeNew aCs) (nodeNew aCs) (nodeNew_len aCs)) ?_
  simp -implicitDefEqProofs only [go_sem, eq_self, bne_self_eq_false, Bool.xor_self, true_implies, false_implies, marks_length, marks_take, take_map, NodeV.mark_S_D_Secs, NodeV.take_S_D_Secs, NodeV.mark_S_D_Cache, NodeV.take_S_D_Cache, NodeV.mark_S_T_Rows, NodeV.take_S_T_Rows, NodeV.mark_S_T_Marks, NodeV.take_S_T_Marks]
  repeat refine ⟨sc, ?_⟩
  refine .of (c_l_markNode (nodeNew aCs) 1 (nodeNew_len aCs) (by omega)) ?_
  simp -implicitDefEqProofs only [go_sem, eq_self, bne_self_eq_false, Bool.xor_self, true_implies, false_implies, marks_length, marks_take, take_map, NodeV.mark_S_D_Secs, NodeV.take_S_D_Secs, NodeV.mark_S_D_Cache, NodeV.take_S_D_Cache, NodeV.mark_S_T_Rows, NodeV.take_S_T_Rows, NodeV.mark_S_T_Marks, NodeV.take_S_T_Marks]
  repeat refine ⟨sc, ?_⟩
  refine .of (c_l_heldNode (nodeNew aCs) 1 (nodeNew_len aCs) (by have := NodeV.far_le (nodeNew_len aCs) 1; omega)) ?_
  simp -implicitDefEqProofs only [go_sem, eq_self, bne_self_eq_false, Bool.xor_self, true_implies, false_implies, marks_length, marks_take, take_map, NodeV.mark_S_D_Secs, NodeV.take_S_D_Secs, NodeV.mark_S_D_Cache, NodeV.take_S_D_Cache, NodeV.mark_S_T_Rows, NodeV.take_S_T_Rows, NodeV.mark_S_T_Marks, NodeV.take_S_T_Marks]
  repeat refine ⟨sc, ?_⟩
  have f_q : decide (((nodeNew aCs).far 1) < 0) = false := decide_eq_false (by have := NodeV.far_le (nodeNew_len aCs) 1; have := NodeV.far_le (nodeNew_len aCs) 1; omega)
  simp -implicitDefEqProofs only [f_q, go_sem, true_implies, false_implies, marks_length, marks_take, take_map, NodeV.mark_S_D_Secs, NodeV.take_S_D_Secs, NodeV.mark_S_D_Cache, NodeV.take_S_D_Cache, NodeV.mark_S_T_Rows, NodeV.take_S_T_Rows, NodeV.mark_S_T_Marks, NodeV.take_S_T_Marks]
  repeat refine ⟨sc, ?_⟩
  try (simp -implicitDefEqProofs only [bne_self_eq_false, go_sem, true_implies, false_implies, marks_length, marks_take, take_map, NodeV.mark_S_D_Secs, NodeV.take_S_D_Secs, NodeV.mark_S_D_Cache, NodeV.take_S_D_Cache, NodeV.mark_S_T_Rows, NodeV.take_S_T_Rows, NodeV.mark_S_T_Marks, NodeV.take_S_T_Marks])
  refine .of (c_i_NodeNew _) ?_
  simp -implicitDefEqProofs only [go_sem, eq_self, bne_self_eq_false, Bool.xor_self, true_implies, false_implies, marks_length, marks_take, take_map, NodeV.mark_S_D_Secs, NodeV.take_S_D_Secs, NodeV.mark_S_D_Cache, NodeV.take_S_D_Cache, NodeV.mark_S_T_Rows, NodeV.take_S_T_Rows, NodeV.mark_S_T_Marks, NodeV.take_S_T_Marks]
  repeat refine ⟨sc, ?_⟩
  refine .of (c_l_eqNode (nodeNew aCs) (nodeNew aCs) (nodeNew_len aCs)) ?_
  simp -implicitDefEqProofs only [go_sem, eq_self, bne_self_eq_false, Bool.xor_self, true_implies, false_implies, marks_length, marks_take, take_map, NodeV.mark_S_D_Secs, NodeV.take_S_D_Secs, NodeV.mark_S_D_Cache, NodeV.take_S_D_Cache, NodeV.mark_S_T_Rows, NodeV.take_S_T_Rows, NodeV.mark_S_T_Marks, NodeV.take_S_T_Marks]
  repeat refine ⟨sc, ?_⟩
  refine .of (c_l_heldNode (nodeNew aCs) 1 (nodeNew_len aCs) (by have := NodeV.far_le (nodeNew_len aCs) 1; have := NodeV.far_le (nodeNew_len aCs) 1; omega)) ?_
  simp -implicitDefEqProofs only [go_sem, eq_self, bne_self_eq_false, Bool.xor_self, true_implies, false_implies, marks_length, marks_take, take_map, NodeV.mark_S_D_Secs, NodeV.take_S_D_Secs, NodeV.mark_S_D_Cache, NodeV.take_S_D_Cache, NodeV.mark_S_T_Rows, NodeV.take_S_T_Rows, NodeV.mark_S_T_Marks, NodeV.take_S_T_Marks]
  repeat refine ⟨sc, ?_⟩
  simp -implicitDefEqProofs only [f_q, go_sem, true_implies, false_implies, marks_length, marks_take, take_map, NodeV.mark_S_D_Secs, NodeV.take_S_D_Secs, NodeV.mark_S_D_Cache, NodeV.take_S_D_Cache, NodeV.mark_S_T_Rows, NodeV.take_S_T_Rows, NodeV.mark_S_T_Marks, NodeV.take_S_T_Marks]
  repeat refine ⟨sc, ?_⟩
  try (simp -implicitDefEqProofs only [bne_self_eq_false, go_sem, true_implies, false_implies, marks_length, marks_take, take_map, NodeV.mark_S_D_Secs, NodeV.take_S_D_Secs, NodeV.mark_S_D_Cache, NodeV.take_S_D_Cache, NodeV.mark_S_T_Rows, NodeV.take_S_T_Rows, NodeV.mark_S_T_Marks, NodeV.take_S_T_Marks])
  try (first | decide | rfl)
end Go.X

/- A library function's contract of another make, as what it tells. -/
namespace Go.X
open Go.RowKit
def plainA : AV → Bool
  | .one (.pv _) => true
  | .one (.sl false _ _ _) => true
  | _ => false
theorem plainA_ts {x : GA} {a : AV} (h : x.er = a) (hp : plainA a = true) : ∃ t, x = .one t ∧ (∀ b, cnt b t = 0) := by
  subst h
  cases x with
  | one t =>
    refine ⟨t, rfl, fun b => ?_⟩
    cases t with
    | pv v => rfl
    | no v => simp [GA.er, X.er, plainA] at hp
    | sl o z v rows =>
      cases o with
      | false => rfl
      | true => simp [GA.er, X.er, plainA] at hp
  | agg ts => simp [GA.er, plainA] at hp
  | ptr A ts => simp [GA.er, plainA] at hp
theorem tells_lib {P : Program} {KP : Kept} {f : Nat} {avs : List AV} {us : List Value} (hp : avs.all plainA = true) (hu : us.all Value.oneCell' = true)
    (h : ∀ (S : Nat → Prop) (gs : List GA) (w : World), gs.map GA.er = avs → (∀ x ∈ gs, x.ok S w) → KP.ok S w → Calls P f (gs.map GA.val).toArray w fun e w' => e = .returned (resVal (us.map fun u => .one (.pv u))) ∧ Below w.heap.size w w') (hf : Nat.ble (f + 1) VN = true) :
    Tells P KP f avs ⟨us.map fun u => .one (.pv u), avs.map AV.ts⟩ := by
  rw [tells_small (Nat.le_of_ble_eq_true hf)]
  intro S gs w ha hS hok _ _ hK
  refine (h S gs w ha hok hK).mono ?_
  rintro e w' ⟨rfl, hB⟩
  have hpl : ∀ x ∈ gs, ∃ t, x = .one t ∧ (∀ b, cnt b t = 0) := fun x hx => by
    refine plainA_ts rfl ?_
    have : x.er ∈ avs := by rw [← ha]; exact List.mem_map_of_mem hx
    exact List.all_eq_true.1 hp _ this
  have hcl : ∀ b, ∀ l : List GA, (∀ x ∈ l, ∃ t, x = .one t ∧ (∀ b, cnt b t = 0)) → treeCnt b l = 0 ∧ ptrCnt b l = 0 ∧ cntL b (l.map GA.ts).flatten = 0 := fun b l => by
    induction l with
    | nil => intro _; exact ⟨rfl, rfl, rfl⟩
    | cons x l ih =>
      intro hl
      obtain ⟨t, rfl, ht⟩ := hl x (List.mem_cons_self ..)
      obtain ⟨h1, h2, h3⟩ := ih fun y hy => hl y (List.mem_cons_of_mem _ hy)
      have := ht b
      simp only [treeCnt, List.flatMap_cons, cntL_append, GA.ts, cntL, ptrCnt, GA.pb, List.map_cons, List.flatten_cons] at h1 h2 h3 ⊢
      omega
  have hmv : ∀ x ∈ gs, ∀ t ∈ x.ts, Rp S w' t := fun x hx t ht => by
    obtain ⟨t', rfl, hc⟩ := hpl x hx
    simp only [GA.ts, List.mem_singleton] at ht
    subst ht
    refine ((hok _ hx).1 t (by simp [GA.ts])).move (fun _ h => h) (fun b hb => hB.block b (hS b hb)) (fun b hb => ?_)
    have := hc b
    omega
  have hus : ∀ b, ∀ l : List Value, treeCnt b (l.map fun u => GA.one (.pv u)) = 0 ∧ ptrCnt b (l.map fun u => GA.one (.pv u)) = 0 := fun b l => by
    induction l with
    | nil => exact ⟨rfl, rfl⟩
    | cons u l ih =>
      obtain ⟨h1, h2⟩ := ih
      simp only [treeCnt, List.map_cons, List.flatMap_cons, cntL_append, GA.ts, cntL, cnt, ptrCnt, GA.pb] at h1 h2 ⊢
      omega
  refine ⟨us.map fun u => .one (.pv u), gs.map GA.ts, rfl, by simp [GA.er, X.er, Function.comp_def], ?_, ?_, ?_, ?_, ?_, ?_, ?_, ?_⟩
  · rw [← ha, List.map_map, List.map_map]
    exact List.map_congr_left fun x _ => (GA.er_ts x).symm
  · intro x hx
    obtain ⟨u, hu', rfl⟩ := List.mem_map.1 hx
    refine ⟨fun t ht => ?_, fun A ts e => by cases e⟩
    simp only [GA.ts, List.mem_singleton] at ht
    subst ht
    exact .pv (List.all_eq_true.1 hu _ hu')
  · intro o ho t ht
    obtain ⟨x, hx, rfl⟩ := List.mem_map.1 ho
    exact hmv x hx t ht
  · have : ∀ l : List GA, (∀ x ∈ l, ∃ t, x = .one t ∧ (∀ b, cnt b t = 0)) → OutsOK w' l (l.map GA.ts) := fun l => by
      induction l with
      | nil => intro _; trivial
      | cons x l ih =>
        intro hl
        obtain ⟨t, rfl, _⟩ := hl x (List.mem_cons_self ..)
        exact ⟨rfl, ih fun y hy => hl y (List.mem_cons_of_mem _ hy)⟩
    exact this gs hpl
  · intro b
    have h1 := hcl b gs hpl
    have h2 := hus b us
    omega
  · intro b hb
    have h1 := hcl b gs hpl
    have h2 := hus b us
    omega
  · refine ⟨hB.os, hB.tape, hB.output, hB.size, fun b hb _ => hB.block b hb, fun A ts hm => ?_⟩
    obtain ⟨t, e, _⟩ := hpl _ hm
    cases e
  · intro A ts hm
    obtain ⟨u, _, e⟩ := List.mem_map.1 hm
    cases e
/-- How bytes that are read lie in memory. -/
theorem rd_bytes {S : Nat → Prop} {w : World} {l : List UInt8} {v : Value} (h : Rd S w (.sl false 1 () (l.map fun a => [.pv (.int .u8 a.toNat)])) v) (hl : l ≠ []) :
    ∃ b off cap, v = .slice (some ⟨b, off, none⟩) l.length cap ∧ ∀ j (hj : j < l.length), w.cell? ⟨b, off + j, none⟩ = some (.int .u8 (l[j]).toNat) := by
  generalize ht : (Tr.sl false 1 () (l.map fun a => [.pv (.int .u8 a.toNat)]) : T) = t at h
  cases h with
  | pv h => cases ht
  | @sl z cap a rows u h1 h2 h3 h4 h5 =>
    cases ht
    have hlen : (l.map fun a => ([.pv (.int .u8 a.toNat)] : List T)).length = l.length := by simp
    have key : ∀ j (hj : j < l.length), ∃ ad, a = some ad ∧ w.cell? (ad.add j) = some (.int .u8 (l[j]).toNat) := fun j hj => by
      have hr : (l.map fun a => ([.pv (.int .u8 a.toNat)] : List T))[j]? = some [.pv (.int .u8 (l[j]).toNat)] := by simp [hj]
      obtain ⟨ad, e1, _, e2⟩ := h4 j _ 0 _ hr rfl
      have e3 := h5 j _ 0 _ hr rfl
      have e4 : u j 0 = .int .u8 (l[j]).toNat := by
        generalize hq : (Tr.pv (Value.int .u8 (l[j]).toNat) : T) = q at e3
        generalize u j 0 = x at e3
        cases e3 with
        | pv => cases hq; rfl
        | sl => cases hq
      exact ⟨ad, e1, by simpa [e4] using e2⟩
    obtain ⟨ad, rfl, e0⟩ := key 0 (by rcases l with _ | _; exact absurd rfl hl; simp)
    have hs : ad.spot = none := by
      have e0' : w.cell? ad = some (.int .u8 (l[0]'(by rcases l with _ | _; exact absurd rfl hl; simp)).toNat) := by simpa [Addr.add] using e0
      unfold World.cell? at e0'
      split at e0'
      · split at e0'
        · cases e0'
        · rename_i q; simpa using q
      · cases e0'
    obtain ⟨b, off, sp⟩ := ad
    simp only at hs
    subst hs
    refine ⟨b, off, cap, by rw [hlen], fun j hj => ?_⟩
    obtain ⟨ad', e1, e2⟩ := key j hj
    cases e1
    by_cases hz : j = 0
    · subst hz; simpa [Addr.add] using e2
    · simpa [Addr.add, hz] using e2
end Go.X

/- utf8.DecodeRune and utf8.ValidString, as they are told; the tables that they read stay. -/
namespace Go.X
open Go.RowKit Go.Proofs Go.Shelf
def keptU (g3 g4 : Nat) : Kept := ⟨fun S w => S g3 ∧ S g4 ∧ Lib.Utf8Tabs g3 g4 w, fun {S S' w w'} h hs hb => by
  obtain ⟨h1, h2, h3, h4⟩ := h
  refine ⟨hs _ h1, hs _ h2, fun c hc => ?_, fun i hi => ?_⟩
  · rw [World.cell?_of_block (w := w) (hb _ h1)]; exact h3 c hc
  · rw [World.cell?_of_block (w := w) (hb _ h2), World.cell?_of_block (w := w) (hb _ h2)]; exact h4 i hi⟩
theorem tells_decode {P : Program} {ρ : Ren} (L : Lays7.n32 P ρ) (l : List UInt8) (hl : l ≠ []) (hf : Nat.ble (ρ.f 32 + 1) VN = true := by exact rfl) :
    Tells P (keptU (ρ.g 2) (ρ.g 3)) (ρ.f 32) [.one (.sl false 1 () (l.map fun a => [.pv (.int .u8 a.toNat)]))] ⟨[.one (.pv (.int .i32 (Lib.decodeGo ⟨l.toArray⟩).1)), .one (.pv (.int .i64 (Lib.decodeGo ⟨l.toArray⟩).2))], [[.sl false 1 () (l.map fun a => [.pv (.int .u8 a.toNat)])]]⟩ := by
  refine tells_lib (us := [.int .i32 (Lib.decodeGo ⟨l.toArray⟩).1, .int .i64 (Lib.decodeGo ⟨l.toArray⟩).2]) rfl rfl ?_ hf
  intro S gs w ha hok hK
  rcases gs with _ | ⟨x, _ | ⟨y, gs⟩⟩
  · simp at ha
  · simp only [List.map_cons, List.map_nil, List.cons.injEq, and_true] at ha
    have hx := (hok x (List.mem_cons_self ..)).1
    cases x with
    | one t =>
      simp only [GA.er, AV.one.injEq] at ha
      have ht := hx t (by simp [GA.ts])
      have hrd : Rd S w (.sl false 1 () (l.map fun a => [.pv (.int .u8 a.toNat)])) (hdr t) := by
        rw [← ha]
        cases ht with
        | pv => simp [er] at ha
        | no => simp [er] at ha
        | ro h => exact h
        | nil => simp [er] at ha
        | own => simp [er] at ha
      obtain ⟨b, off, cap, e1, e2⟩ := rd_bytes hrd hl
      have := Any7.utf8_DecodeRune L ⟨l.toArray⟩ b off cap w hK.2.2 (fun j hj => by
        have hj' : j < l.length := by simpa [ByteArray.size] using hj
        rw [e2 j hj']
        congr 3
        simp [ByteArray.get!, hj'])
      have e3 : (⟨l.toArray⟩ : ByteArray).size = l.length := by simp [ByteArray.size]
      rw [e3, ← e1] at this
      exact this
    | agg ts => simp [GA.er] at ha
    | ptr A ts => simp [GA.er] at ha
  · simp at ha
theorem decodeGo_L {l : List UInt8} (hl : l ≠ []) : Lib.decodeGo ⟨l.toArray⟩ = Lib.decodeL l := by
  have : ¬ (⟨l.toArray⟩ : ByteArray).size = 0 := by
    simp only [ByteArray.size, List.size_toArray]
    intro e
    exact hl (List.length_eq_zero_iff.1 e)
  unfold Lib.decodeGo Lib.decodeL
  rw [if_neg this]
theorem tells_decodeL {P : Program} {ρ : Ren} (L : Lays7.n32 P ρ) (l : List UInt8) (hl : l ≠ []) (hf : Nat.ble (ρ.f 32 + 1) VN = true := by exact rfl) :
    Tells P (keptU (ρ.g 2) (ρ.g 3)) (ρ.f 32) [.one (.sl false 1 () (l.map fun a => [.pv (.int .u8 a.toNat)]))] ⟨[.one (.pv (.int .i32 (Lib.decodeL l).1)), .one (.pv (.int .i64 (Lib.decodeL l).2))], [[.sl false 1 () (l.map fun a => [.pv (.int .u8 a.toNat)])]]⟩ := by
  have h := tells_decode L l hl hf
  rw [decodeGo_L hl] at h
  exact h
end Go.X

