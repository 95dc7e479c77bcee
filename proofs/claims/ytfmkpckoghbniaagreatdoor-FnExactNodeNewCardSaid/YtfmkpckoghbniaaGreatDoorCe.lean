/- Texts: CT CU CV CVa CVb CVc CVd CVe CVg CVi CVj CVk. -/
import Derived.Test.YtfmkpckoghbniaaGreatDoorCd
import Derived.Lib.ValidLaws
set_option linter.unusedVariables false
set_option linter.unusedSimpArgs false
/- T -/
namespace Go.X
set_option maxRecDepth 100000
set_option maxHeartbeats 8000000
def signOk (n : Int) : Bool := win n 0 1114111 && !win n 55296 57343
def enc8 (n : Nat) : List UInt8 :=
  if n ≤ 127 then [UInt8.ofNat n] else if n ≤ 2047 then [UInt8.ofNat (192 + n / 64), UInt8.ofNat (128 + n % 64)]
  else if n ≤ 65535 then [UInt8.ofNat (224 + n / 4096), UInt8.ofNat (128 + n / 64 % 64), UInt8.ofNat (128 + n % 64)]
  else [UInt8.ofNat (240 + n / 262144), UInt8.ofNat (128 + n / 4096 % 64), UInt8.ofNat (128 + n / 64 % 64), UInt8.ofNat (128 + n % 64)]
def putSign (b : List UInt8) (n : Int) : List UInt8 := if signOk n = true then b ++ enc8 n.toNat else b
theorem enc8_len (n : Nat) : 0 < (enc8 n).length ∧ (enc8 n).length ≤ 4 := by
  unfold enc8
  split
  · simp
  · split
    · simp
    · split <;> simp
theorem putSign_len (b : List UInt8) (n : Int) : (putSign b n).length ≤ b.length + 4 := by
  unfold putSign
  split
  · rw [List.length_append]; have := (enc8_len n.toNat).2; omega
  · omega
theorem signOk_in {n : Int} (h : signOk n = true) : 0 ≤ n ∧ n ≤ 1114111 ∧ ¬ (55296 ≤ n ∧ n ≤ 57343) := by
  simp only [signOk, win, Bool.and_eq_true, Bool.not_eq_true', decide_eq_true_eq, Bool.and_eq_false_imp, decide_eq_false_iff_not] at h
  omega
theorem or_hd (c i a : Nat) (hc : c = 2 ^ i * a) {x : Nat} (hx : x < 2 ^ i) (hb : c < 2 ^ 60 ∧ x < 2 ^ 60) : orK .i64 (c : Int) (x : Int) = ((c + x : Nat) : Int) := by
  rw [or_nat c x (by omega) (by omega), hc, Nat.two_pow_add_eq_or_of_lt hx]
theorem mkU_nat (k : Nat) : mkU (k : Int) = UInt8.ofNat k := by
  have : ((k : Int) % 256).toNat = k % 256 := by omega
  rw [mkU, this]
  apply UInt8.toNat_inj.1
  rw [UInt8.toNat_ofNat', UInt8.toNat_ofNat']
  omega
theorem and63 (m : Nat) (hm : m < 2 ^ 60) : andK .i64 (m : Int) 63 = ((m % 64 : Nat) : Int) := by
  have := and_nat m 63 (by omega) (by decide)
  rw [Nat.and_two_pow_sub_one_eq_mod m 6] at this
  exact this
theorem fdivN (m k : Nat) : (m : Int).fdiv (k : Int) = ((m / k : Nat) : Int) := by
  rw [Int.fdiv_eq_ediv_of_nonneg _ (by omega)]
  rfl
theorem wrap8 (k : Nat) (h : k < 256) : (k : Int) = ((UInt8.ofNat k).toNat : Int) := by
  rw [UInt8.toNat_ofNat']
  omega
theorem or8 (c i a : Nat) (hc : c = 2 ^ i * a) {x : Nat} (hx : x < 2 ^ i) (hb : c + x < 256) : orK .u8 (c : Int) (x : Int) = ((UInt8.ofNat (c + x)).toNat : Int) := by
  rw [orK_def]
  show IntKind.u8.wrap ((BitVec.ofInt 8 (c : Int) ||| BitVec.ofInt 8 (x : Int)).toNat) = _
  have h1 : (BitVec.ofInt 8 (c : Int)).toNat = c := by rw [BitVec.toNat_ofInt]; omega
  have h2 : (BitVec.ofInt 8 (x : Int)).toNat = x := by rw [BitVec.toNat_ofInt]; omega
  have h3 : c ||| x = c + x := by rw [hc, ← Nat.two_pow_add_eq_or_of_lt hx]
  rw [BitVec.toNat_or, h1, h2, h3, ← wrap8 _ hb, IntKind.wrap_u8]
  omega
theorem and8 (m : Nat) (hm : m < 256) : andK .u8 (m : Int) 63 = ((m % 64 : Nat) : Int) := by
  rw [andK_def]
  show IntKind.u8.wrap ((BitVec.ofInt 8 (m : Int) &&& BitVec.ofInt 8 63).toNat) = _
  have h1 : (BitVec.ofInt 8 (m : Int)).toNat = m := by rw [BitVec.toNat_ofInt]; omega
  have h2 : (BitVec.ofInt 8 63).toNat = 2 ^ 6 - 1 := by decide
  rw [BitVec.toNat_and, h1, h2, Nat.and_two_pow_sub_one_eq_mod, IntKind.wrap_u8]
  omega
theorem mkU_toNat (k : Nat) : (mkU (k : Int)).toNat = k % 256 := by rw [mkU_nat, UInt8.toNat_ofNat']
def x_s_SignOk : FnX := ⟨10, [.tmp 2],
  .q [.F 2]
 (.q [.m 3 0, .op 4 (.call 23 [0, 0, 0] [(.t 3), (.i 0), (.i 1114111)]), .m 5 4, ⟨(some (5, true)), some 6, 6, .mv (.t 0)⟩, ⟨(some (5, true)), some 7, 7, .call 23 [0, 0, 0] [(.t 6), (.i 55296), (.i 57343)]⟩, ⟨(some (5, true)), some 8, 8, .not (.t 7)⟩, .a 9 5 8, .m 2 9]
 .ret)⟩
abbrev C_s_SignOk (Te : TE) : Prop := ∀ (n : Int), Te 137 [.one (iT n)] ⟨[.one (bT (signOk n))], [[iT n]]⟩
theorem r_s_SignOk {Te : TE} (c_s_l1In : C_s_l1In Te) : C_s_SignOk (RF Te x_s_SignOk) := by
  intro n
  refine run0 ?_
  simp -implicitDefEqProofs only [x_s_SignOk, go_sem, signOk]
  repeat refine ⟨sc, ?_⟩
  try exact sf
  refine .of (c_s_l1In _ _ _) ?_
  try simp -implicitDefEqProofs only [go_sem]
  repeat refine ⟨sc, ?_⟩
  try exact sf
  cases g1 : win n 0 1114111
  · try simp -implicitDefEqProofs only [go_sem]
    repeat refine ⟨sc, ?_⟩
    try exact sf
  · try simp -implicitDefEqProofs only [go_sem]
    repeat refine ⟨sc, ?_⟩
    try exact sf
    refine .of (c_s_l1In _ _ _) ?_
    try simp -implicitDefEqProofs only [go_sem]
    repeat refine ⟨sc, ?_⟩
    try exact sf
def x_i_SignOk : FnX := ⟨10, [.tmp 2],
  .q [.F 2]
 (.q [.m 3 0, .op 4 (.call 25 [0, 0, 0] [(.t 3), (.i 0), (.i 1114111)]), .m 5 4, ⟨(some (5, true)), some 6, 6, .mv (.t 0)⟩, ⟨(some (5, true)), some 7, 7, .call 25 [0, 0, 0] [(.t 6), (.i 55296), (.i 57343)]⟩, ⟨(some (5, true)), some 8, 8, .not (.t 7)⟩, .a 9 5 8, .m 2 9]
 .ret)⟩
abbrev C_i_SignOk (Te : TE) : Prop := ∀ (n : Int), Te 143 [.one (iT n)] ⟨[.one (bT (signOk n))], [[iT n]]⟩
theorem r_i_SignOk {Te : TE} (c_i_within : C_i_within Te) : C_i_SignOk (RF Te x_i_SignOk) := by
  intro n
  refine run0 ?_
  simp -implicitDefEqProofs only [x_i_SignOk, go_sem, signOk]
  repeat refine ⟨sc, ?_⟩
  try exact sf
  refine .of (c_i_within _ _ _) ?_
  try simp -implicitDefEqProofs only [go_sem]
  repeat refine ⟨sc, ?_⟩
  try exact sf
  cases g1 : win n 0 1114111
  · try simp -implicitDefEqProofs only [go_sem]
    repeat refine ⟨sc, ?_⟩
    try exact sf
  · try simp -implicitDefEqProofs only [go_sem]
    repeat refine ⟨sc, ?_⟩
    try exact sf
    refine .of (c_i_within _ _ _) ?_
    try simp -implicitDefEqProofs only [go_sem]
    repeat refine ⟨sc, ?_⟩
    try exact sf
def x_s_PutSign : FnX := ⟨76, [.tmp 4],
  .q [.op 4 (.mv (.k (.one (.nils 1))))]
 (.q [.op 6 (.bslice 1 []), .m 7 0, .op 8 (.app 1 1 (.t 6) (.t 7)), .m 5 8]
 (.seq (.block 0 (.q [.m 10 1, .c 11 137 [10], .N 12 11, .m 9 12]
 (.cond 9 (.q [.m 13 5, .m 4 13]
 .ret) (.q [.m 15 1, .B 16 .leq 15 127, .m 14 16]
 (.cond 14 (.q [.m 17 5, .m 18 1, .op 19 (.conv (.int .u8) (.t 18)), .op 20 (.bslice 1 [(.t 19)]), .op 21 (.app 1 1 (.t 17) (.t 20)), .m 4 21]
 .ret) (.q [.m 23 1, .B 24 .leq 23 2047, .m 22 24]
 (.cond 22 (.q [.m 25 5, .m 26 1, .op 27 (.bin .shr (.t 26) (.k (.one (.pv (.int .u64 6))))), .op 28 (.bin .or (.i 192) (.t 27)), .op 29 (.conv (.int .u8) (.t 28)), .m 30 1, .B 31 .and 30 63, .op 32 (.bin .or (.i 128) (.t 31)), .op 33 (.conv (.int .u8) (.t 32)), .op 34 (.bslice 1 [(.t 29), (.t 33)]), .op 35 (.app 1 1 (.t 25) (.t 34)), .m 4 35]
 .ret) (.q [.m 37 1, .B 38 .leq 37 65535, .m 36 38]
 (.c 36 (.q [.m 39 5, .m 40 1, .op 41 (.bin .shr (.t 40) (.k (.one (.pv (.int .u64 12))))), .op 42 (.bin .or (.i 224) (.t 41)), .op 43 (.conv (.int .u8) (.t 42)), .m 44 1, .op 45 (.bin .shr (.t 44) (.k (.one (.pv (.int .u64 6))))), .B 46 .and 45 63, .op 47 (.bin .or (.i 128) (.t 46)), .op 48 (.conv (.int .u8) (.t 47)), .m 49 1, .B 50 .and 49 63, .op 51 (.bin .or (.i 128) (.t 50)), .op 52 (.conv (.int .u8) (.t 51)), .op 53 (.bslice 1 [(.t 43), (.t 48), (.t 52)]), .op 54 (.app 1 1 (.t 39) (.t 53)), .m 4 54]
 .ret))))))))))
 (.q [.m 55 5, .m 56 1, .op 57 (.bin .shr (.t 56) (.k (.one (.pv (.int .u64 18))))), .op 58 (.bin .or (.i 240) (.t 57)), .op 59 (.conv (.int .u8) (.t 58)), .m 60 1, .op 61 (.bin .shr (.t 60) (.k (.one (.pv (.int .u64 12))))), .B 62 .and 61 63, .op 63 (.bin .or (.i 128) (.t 62)), .op 64 (.conv (.int .u8) (.t 63)), .m 65 1, .op 66 (.bin .shr (.t 65) (.k (.one (.pv (.int .u64 6))))), .B 67 .and 66 63, .op 68 (.bin .or (.i 128) (.t 67)), .op 69 (.conv (.int .u8) (.t 68)), .m 70 1, .B 71 .and 70 63, .op 72 (.bin .or (.i 128) (.t 71)), .op 73 (.conv (.int .u8) (.t 72)), .op 74 (.bslice 1 [(.t 59), (.t 64), (.t 69), (.t 73)]), .op 75 (.app 1 1 (.t 55) (.t 74)), .m 4 75]
 .ret)))⟩
abbrev C_s_PutSign (Te : TE) : Prop := ∀ (b : List UInt8) (n : Int) (hb : b.length ≤ 2 ^ 30), Te 96 [.one (slT false 1 uR b), .one (iT n)] ⟨[.one (slT true 1 uR (putSign b n))], [[slT false 1 uR b], [iT n]]⟩
theorem r_s_PutSign {Te : TE} (c_s_SignOk : C_s_SignOk Te) : C_s_PutSign (RF Te x_s_PutSign) := by
  intro b n hb
  refine run0 ?_
  cases hn : signOk n
  · simp -implicitDefEqProofs only [x_s_PutSign, go_sem]
    repeat refine ⟨sc, ?_⟩
    try exact sf
    refine .of (c_s_SignOk _) ?_
    try simp -implicitDefEqProofs only [go_sem, putSign, hn, if_false]
    repeat refine ⟨sc, ?_⟩
    try exact sf
    try rfl
  obtain ⟨h0, h1, _⟩ := signOk_in hn
  obtain ⟨m, rfl⟩ : ∃ m : Nat, n = m := ⟨n.toNat, by omega⟩
  have ep : putSign b (m : Int) = b ++ enc8 m := by simp only [putSign, hn, if_true, Int.toNat_natCast]
  have d6 : (m : Int).fdiv (2 ^ 6) = ((m / 64 : Nat) : Int) := fdivN m 64
  have d12 : (m : Int).fdiv (2 ^ 12) = ((m / 4096 : Nat) : Int) := fdivN m 4096
  have d18 : (m : Int).fdiv (2 ^ 18) = ((m / 262144 : Nat) : Int) := fdivN m 262144
  have a0 := and63 m (by omega)
  have a6 := and63 (m / 64) (by omega)
  have a12 := and63 (m / 4096) (by omega)
  have o0 : orK .i64 128 ((m % 64 : Nat) : Int) = ((128 + m % 64 : Nat) : Int) := or_hd 128 6 2 rfl (by omega) (by omega)
  have o6 : orK .i64 128 ((m / 64 % 64 : Nat) : Int) = ((128 + m / 64 % 64 : Nat) : Int) := or_hd 128 6 2 rfl (by omega) (by omega)
  have o12 : orK .i64 128 ((m / 4096 % 64 : Nat) : Int) = ((128 + m / 4096 % 64 : Nat) : Int) := or_hd 128 6 2 rfl (by omega) (by omega)
  cases q : decide ((m : Int) ≤ 127)
  · have hq : ¬ m ≤ 127 := by simp only [decide_eq_false_iff_not] at q; omega
    cases q2 : decide ((m : Int) ≤ 2047)
    · have hq2 : ¬ m ≤ 2047 := by simp only [decide_eq_false_iff_not] at q2; omega
      cases q3 : decide ((m : Int) ≤ 65535)
      · have hq3 : ¬ m ≤ 65535 := by simp only [decide_eq_false_iff_not] at q3; omega
        have t : orK .i64 240 ((m / 262144 : Nat) : Int) = ((240 + m / 262144 : Nat) : Int) := or_hd 240 3 30 rfl (by omega) (by omega)
        have ee : List.take (b.length + 4) (List.map uR b ++ [[uT (mkU ((240 + m / 262144 : Nat) : Int))], [uT (mkU ((128 + m / 4096 % 64 : Nat) : Int))], [uT (mkU ((128 + m / 64 % 64 : Nat) : Int))], [uT (mkU ((128 + m % 64 : Nat) : Int))]]) = List.map uR (b ++ enc8 m) := by
          rw [List.take_of_length_le (by simp), mkU_nat, mkU_nat, mkU_nat, mkU_nat]
          simp only [enc8, if_neg hq, if_neg hq2, if_neg hq3, List.map_append, List.map_cons, List.map_nil]
        simp -implicitDefEqProofs only [x_s_PutSign, go_sem]
        repeat refine ⟨sc, ?_⟩
        try exact sf
        refine .of (c_s_SignOk _) ?_
        try simp -implicitDefEqProofs only [go_sem, hn, ep, q, q2, q3, show Nat.min 6 64 = 6 from rfl, show Nat.min 12 64 = 12 from rfl, show Nat.min 18 64 = 18 from rfl, d6, d12, d18, a0, a6, a12, o0, o6, o12, t, mkU_wrap, ee]
        repeat refine ⟨sc, ?_⟩
        try exact sf
      · have hq3 : m ≤ 65535 := by simp only [decide_eq_true_eq] at q3; omega
        have t : orK .i64 224 ((m / 4096 : Nat) : Int) = ((224 + m / 4096 : Nat) : Int) := or_hd 224 4 14 rfl (by omega) (by omega)
        have ee : List.take (b.length + 3) (List.map uR b ++ [[uT (mkU ((224 + m / 4096 : Nat) : Int))], [uT (mkU ((128 + m / 64 % 64 : Nat) : Int))], [uT (mkU ((128 + m % 64 : Nat) : Int))]]) = List.map uR (b ++ enc8 m) := by
          rw [List.take_of_length_le (by simp), mkU_nat, mkU_nat, mkU_nat]
          simp only [enc8, if_neg hq, if_neg hq2, if_pos hq3, List.map_append, List.map_cons, List.map_nil]
        simp -implicitDefEqProofs only [x_s_PutSign, go_sem]
        repeat refine ⟨sc, ?_⟩
        try exact sf
        refine .of (c_s_SignOk _) ?_
        try simp -implicitDefEqProofs only [go_sem, hn, ep, q, q2, q3, show Nat.min 6 64 = 6 from rfl, show Nat.min 12 64 = 12 from rfl, d6, d12, a0, a6, o0, o6, t, mkU_wrap, ee]
        repeat refine ⟨sc, ?_⟩
        try exact sf
    · have hq2 : m ≤ 2047 := by simp only [decide_eq_true_eq] at q2; omega
      have t : orK .i64 192 ((m / 64 : Nat) : Int) = ((192 + m / 64 : Nat) : Int) := or_hd 192 6 3 rfl (by omega) (by omega)
      have ee : List.take (b.length + 2) (List.map uR b ++ [[uT (mkU ((192 + m / 64 : Nat) : Int))], [uT (mkU ((128 + m % 64 : Nat) : Int))]]) = List.map uR (b ++ enc8 m) := by
        rw [List.take_of_length_le (by simp), mkU_nat, mkU_nat]
        simp only [enc8, if_neg hq, if_pos hq2, List.map_append, List.map_cons, List.map_nil]
      simp -implicitDefEqProofs only [x_s_PutSign, go_sem]
      repeat refine ⟨sc, ?_⟩
      try exact sf
      refine .of (c_s_SignOk _) ?_
      try simp -implicitDefEqProofs only [go_sem, hn, ep, q, q2, show Nat.min 6 64 = 6 from rfl, d6, a0, o0, t, mkU_wrap, ee]
      repeat refine ⟨sc, ?_⟩
      try exact sf
  · have hq : m ≤ 127 := by simp only [decide_eq_true_eq] at q; omega
    have ee : List.take (b.length + 1) (List.map uR b ++ [[uT (mkU (m : Int))]]) = List.map uR (b ++ enc8 m) := by
      rw [List.take_of_length_le (by simp), mkU_nat]
      simp only [enc8, if_pos hq, List.map_append, List.map_cons, List.map_nil]
    simp -implicitDefEqProofs only [x_s_PutSign, go_sem]
    repeat refine ⟨sc, ?_⟩
    try exact sf
    refine .of (c_s_SignOk _) ?_
    try simp -implicitDefEqProofs only [go_sem, hn, ep, q, mkU_wrap, ee]
    repeat refine ⟨sc, ?_⟩
    try exact sf
def x_u_appendRuneNonASCII : FnX := ⟨78, [.tmp 4],
  .q [.op 4 (.mv (.k (.one (.nils 1))))]
 (.q [.m 6 1, .op 7 (.conv (.int .u32) (.t 6)), .m 5 7]
 (.block 0 (.q [.m 12 5, .op 13 (.bin .leq (.t 12) (.k (.one (.pv (.int .u32 2047))))), .m 11 13]
 (.cond 11 (.q [.m 14 0, .m 15 1, .op 16 (.bin .shr (.t 15) (.k (.one (.pv (.int .u64 6))))), .op 17 (.conv (.int .u8) (.t 16)), .op 18 (.bin .or (.k (.one (.pv (.int .u8 192)))) (.t 17)), .m 19 1, .op 20 (.conv (.int .u8) (.t 19)), .op 21 (.bin .and (.t 20) (.k (.one (.pv (.int .u8 63))))), .op 22 (.bin .or (.k (.one (.pv (.int .u8 128)))) (.t 21)), .op 23 (.bslice 1 [(.t 18), (.t 22)]), .op 24 (.app 1 1 (.t 14) (.t 23)), .m 4 24]
 .ret) (.seq (.q [.m 26 5, .op 27 (.bin .lss (.t 26) (.k (.one (.pv (.int .u32 55296))))), .m 25 27]
 (.cond 25 .skip (.reg [.m 28 5, .op 29 (.bin .lss (.k (.one (.pv (.int .u32 57343)))) (.t 28)), .m 30 29, ⟨(some (30, true)), some 31, 31, .mv (.t 5)⟩, ⟨(some (30, true)), some 32, 32, .bin .leq (.t 31) (.k (.one (.pv (.int .u32 65535))))⟩, .a 33 30 32, .m 25 33])))
 (.cond 25 (.q [.m 34 0, .m 35 1, .op 36 (.bin .shr (.t 35) (.k (.one (.pv (.int .u64 12))))), .op 37 (.conv (.int .u8) (.t 36)), .op 38 (.bin .or (.k (.one (.pv (.int .u8 224)))) (.t 37)), .m 39 1, .op 40 (.bin .shr (.t 39) (.k (.one (.pv (.int .u64 6))))), .op 41 (.conv (.int .u8) (.t 40)), .op 42 (.bin .and (.t 41) (.k (.one (.pv (.int .u8 63))))), .op 43 (.bin .or (.k (.one (.pv (.int .u8 128)))) (.t 42)), .m 44 1, .op 45 (.conv (.int .u8) (.t 44)), .op 46 (.bin .and (.t 45) (.k (.one (.pv (.int .u8 63))))), .op 47 (.bin .or (.k (.one (.pv (.int .u8 128)))) (.t 46)), .op 48 (.bslice 1 [(.t 38), (.t 43), (.t 47)]), .op 49 (.app 1 1 (.t 34) (.t 48)), .m 4 49]
 .ret) (.q [.m 51 5, .op 52 (.bin .gtr (.t 51) (.k (.one (.pv (.int .u32 65535))))), .m 53 52, ⟨(some (53, true)), some 54, 54, .mv (.t 5)⟩, ⟨(some (53, true)), some 55, 55, .bin .leq (.t 54) (.k (.one (.pv (.int .u32 1114111))))⟩, .a 56 53 55, .m 50 56]
 (.cond 50 (.q [.m 57 0, .m 58 1, .op 59 (.bin .shr (.t 58) (.k (.one (.pv (.int .u64 18))))), .op 60 (.conv (.int .u8) (.t 59)), .op 61 (.bin .or (.k (.one (.pv (.int .u8 240)))) (.t 60)), .m 62 1, .op 63 (.bin .shr (.t 62) (.k (.one (.pv (.int .u64 12))))), .op 64 (.conv (.int .u8) (.t 63)), .op 65 (.bin .and (.t 64) (.k (.one (.pv (.int .u8 63))))), .op 66 (.bin .or (.k (.one (.pv (.int .u8 128)))) (.t 65)), .m 67 1, .op 68 (.bin .shr (.t 67) (.k (.one (.pv (.int .u64 6))))), .op 69 (.conv (.int .u8) (.t 68)), .op 70 (.bin .and (.t 69) (.k (.one (.pv (.int .u8 63))))), .op 71 (.bin .or (.k (.one (.pv (.int .u8 128)))) (.t 70)), .m 72 1, .op 73 (.conv (.int .u8) (.t 72)), .op 74 (.bin .and (.t 73) (.k (.one (.pv (.int .u8 63))))), .op 75 (.bin .or (.k (.one (.pv (.int .u8 128)))) (.t 74)), .op 76 (.bslice 1 [(.t 61), (.t 66), (.t 71), (.t 75)]), .op 77 (.app 1 1 (.t 57) (.t 76)), .m 4 77]
 .ret) (.q [.m 8 0, .op 9 (.bslice 1 [(.k (.one (.pv (.int .u8 239)))), (.k (.one (.pv (.int .u8 191)))), (.k (.one (.pv (.int .u8 189))))]), .op 10 (.app 1 1 (.t 8) (.t 9)), .m 4 10]
 .ret)))))))))⟩
abbrev C_u_appendRuneNonASCII (Te : TE) : Prop := ∀ (b : List UInt8) (m : Nat) (hb : b.length ≤ 2 ^ 30) (hm : 127 < m ∧ m ≤ 1114111 ∧ ¬ (55296 ≤ m ∧ m ≤ 57343)), Te 170 [.one (slT true 1 uR b), .one (.pv (.int .i32 m))] ⟨[.one (slT true 1 uR (b ++ enc8 m))], [[.no ()], [.pv (.int .i32 m)]]⟩
theorem r_u_appendRuneNonASCII {Te : TE} : C_u_appendRuneNonASCII (RF Te x_u_appendRuneNonASCII) := by
  intro b m hb hm
  refine run0 ?_
  obtain ⟨hq, h1, h2⟩ := hm
  replace hq : ¬ m ≤ 127 := by omega
  have w32 : IntKind.u32.wrap (m : Int) = (m : Int) := by rw [IntKind.wrap_u32]; omega
  have d6 : (m : Int).fdiv (2 ^ 6) = ((m / 64 : Nat) : Int) := fdivN m 64
  have d12 : (m : Int).fdiv (2 ^ 12) = ((m / 4096 : Nat) : Int) := fdivN m 4096
  have d18 : (m : Int).fdiv (2 ^ 18) = ((m / 262144 : Nat) : Int) := fdivN m 262144
  have n6 : Nat.min 6 32 = 6 := rfl
  have n12 : Nat.min 12 32 = 12 := rfl
  have n18 : Nat.min 18 32 = 18 := rfl
  have a0 : andK .u8 (((mkU (m : Int)).toNat : Nat) : Int) 63 = ((m % 64 : Nat) : Int) := by rw [mkU_toNat, and8 _ (by omega)]; omega
  have a6 : andK .u8 (((mkU ((m / 64 : Nat) : Int)).toNat : Nat) : Int) 63 = ((m / 64 % 64 : Nat) : Int) := by rw [mkU_toNat, and8 _ (by omega)]; omega
  have a12 : andK .u8 (((mkU ((m / 4096 : Nat) : Int)).toNat : Nat) : Int) 63 = ((m / 4096 % 64 : Nat) : Int) := by rw [mkU_toNat, and8 _ (by omega)]; omega
  have o0 : orK .u8 128 ((m % 64 : Nat) : Int) = ((UInt8.ofNat (128 + m % 64)).toNat : Int) := or8 128 6 2 rfl (by omega) (by omega)
  have o6 : orK .u8 128 ((m / 64 % 64 : Nat) : Int) = ((UInt8.ofNat (128 + m / 64 % 64)).toNat : Int) := or8 128 6 2 rfl (by omega) (by omega)
  have o12 : orK .u8 128 ((m / 4096 % 64 : Nat) : Int) = ((UInt8.ofNat (128 + m / 4096 % 64)).toNat : Int) := or8 128 6 2 rfl (by omega) (by omega)
  cases q2 : decide ((m : Int) ≤ 2047)
  · have hq2 : ¬ m ≤ 2047 := by simp only [decide_eq_false_iff_not] at q2; omega
    cases q3 : decide ((m : Int) ≤ 65535)
    · have hq3 : ¬ m ≤ 65535 := by simp only [decide_eq_false_iff_not] at q3; omega
      have t : orK .u8 240 (((mkU ((m / 262144 : Nat) : Int)).toNat : Nat) : Int) = ((UInt8.ofNat (240 + m / 262144)).toNat : Int) := by
        rw [mkU_toNat, Nat.mod_eq_of_lt (by omega)]; exact or8 240 3 30 rfl (by omega) (by omega)
      have ee : List.take (b.length + 4) (List.map uR b ++ [[uT (UInt8.ofNat (240 + m / 262144))], [uT (UInt8.ofNat (128 + m / 4096 % 64))], [uT (UInt8.ofNat (128 + m / 64 % 64))], [uT (UInt8.ofNat (128 + m % 64))]]) = List.map uR (b ++ enc8 m) := by
        rw [List.take_of_length_le (by simp)]
        simp only [enc8, if_neg hq, if_neg hq2, if_neg hq3, List.map_append, List.map_cons, List.map_nil]
      have c1 : decide ((m : Int) < 55296) = false := decide_eq_false (by omega)
      have c2 : decide ((57343 : Int) < (m : Int)) = true := decide_eq_true (by omega)
      have c3 : decide ((m : Int) > 65535) = true := decide_eq_true (by omega)
      have c4 : decide ((m : Int) ≤ 1114111) = true := decide_eq_true (by omega)
      simp -implicitDefEqProofs only [x_u_appendRuneNonASCII, go_sem, w32, q2, q3, c1, c2, c3, c4, n6, n12, n18, d6, d12, d18, mkU_wrap, a0, a6, a12, o0, o6, o12, t, ee]
      repeat refine ⟨sc, ?_⟩
      try exact sf
    · have hq3 : m ≤ 65535 := by simp only [decide_eq_true_eq] at q3; omega
      have t : orK .u8 224 (((mkU ((m / 4096 : Nat) : Int)).toNat : Nat) : Int) = ((UInt8.ofNat (224 + m / 4096)).toNat : Int) := by
        rw [mkU_toNat, Nat.mod_eq_of_lt (by omega)]; exact or8 224 4 14 rfl (by omega) (by omega)
      have ee : List.take (b.length + 3) (List.map uR b ++ [[uT (UInt8.ofNat (224 + m / 4096))], [uT (UInt8.ofNat (128 + m / 64 % 64))], [uT (UInt8.ofNat (128 + m % 64))]]) = List.map uR (b ++ enc8 m) := by
        rw [List.take_of_length_le (by simp)]
        simp only [enc8, if_neg hq, if_neg hq2, if_pos hq3, List.map_append, List.map_cons, List.map_nil]
      cases c1 : decide ((m : Int) < 55296)
      · have c2 : decide ((57343 : Int) < (m : Int)) = true := decide_eq_true (by simp only [decide_eq_false_iff_not] at c1; omega)
        simp -implicitDefEqProofs only [x_u_appendRuneNonASCII, go_sem, w32, q2, q3, c1, c2, n6, n12, d6, d12, mkU_wrap, a0, a6, o0, o6, t, ee]
        repeat refine ⟨sc, ?_⟩
        try exact sf
      · simp -implicitDefEqProofs only [x_u_appendRuneNonASCII, go_sem, w32, q2, q3, c1, n6, n12, d6, d12, mkU_wrap, a0, a6, o0, o6, t, ee]
        repeat refine ⟨sc, ?_⟩
        try exact sf
  · have hq2 : m ≤ 2047 := by simp only [decide_eq_true_eq] at q2; omega
    have t : orK .u8 192 (((mkU ((m / 64 : Nat) : Int)).toNat : Nat) : Int) = ((UInt8.ofNat (192 + m / 64)).toNat : Int) := by
      rw [mkU_toNat, Nat.mod_eq_of_lt (by omega)]; exact or8 192 6 3 rfl (by omega) (by omega)
    have ee : List.take (b.length + 2) (List.map uR b ++ [[uT (UInt8.ofNat (192 + m / 64))], [uT (UInt8.ofNat (128 + m % 64))]]) = List.map uR (b ++ enc8 m) := by
      rw [List.take_of_length_le (by simp)]
      simp only [enc8, if_neg hq, if_pos hq2, List.map_append, List.map_cons, List.map_nil]
    simp -implicitDefEqProofs only [x_u_appendRuneNonASCII, go_sem, w32, q2, n6, d6, mkU_wrap, a0, o0, t, ee]
    repeat refine ⟨sc, ?_⟩
    try exact sf
def x_u_AppendRune : FnX := ⟨16, [.tmp 4],
  .q [.op 4 (.mv (.k (.one (.nils 1))))]
 (.seq (.q [.m 5 1, .op 6 (.conv (.int .u32) (.t 5)), .op 7 (.bin .leq (.t 6) (.k (.one (.pv (.int .u32 127)))))]
 (.c 7 (.q [.m 8 0, .m 9 1, .op 10 (.conv (.int .u8) (.t 9)), .op 11 (.bslice 1 [(.t 10)]), .op 12 (.app 1 1 (.t 8) (.t 11)), .m 4 12]
 .ret)))
 (.q [.m 13 0, .m 14 1, .op 15 (.call 170 [1, 0] [(.t 13), (.t 14)]), .m 4 15]
 .ret))⟩
abbrev C_u_AppendRune (Te : TE) : Prop := ∀ (b : List UInt8) (m : Nat) (hb : b.length ≤ 2 ^ 30) (hm : m ≤ 1114111 ∧ ¬ (55296 ≤ m ∧ m ≤ 57343)), Te 144 [.one (slT true 1 uR b), .one (.pv (.int .i32 m))] ⟨[.one (slT true 1 uR (b ++ enc8 m))], [[.no ()], [.pv (.int .i32 m)]]⟩
theorem r_u_AppendRune {Te : TE} (c_u_appendRuneNonASCII : C_u_appendRuneNonASCII Te) : C_u_AppendRune (RF Te x_u_AppendRune) := by
  intro b m hb hm
  refine run0 ?_
  have w32 : IntKind.u32.wrap (m : Int) = (m : Int) := by rw [IntKind.wrap_u32]; omega
  cases q : decide ((m : Int) ≤ 127)
  · have hq : ¬ m ≤ 127 := by simp only [decide_eq_false_iff_not] at q; omega
    simp -implicitDefEqProofs only [x_u_AppendRune, go_sem, w32, q]
    repeat refine ⟨sc, ?_⟩
    try exact sf
    refine .of (c_u_appendRuneNonASCII b m hb ⟨by omega, hm⟩) ?_
    try simp -implicitDefEqProofs only [go_sem, List.length_append]
    repeat refine ⟨sc, ?_⟩
    try exact sf
    rw [← List.length_append, take_map]
  · have hq : m ≤ 127 := by simp only [decide_eq_true_eq] at q; omega
    have ee : List.take (b.length + 1) (List.map uR b ++ [[uT (mkU (m : Int))]]) = List.map uR (b ++ enc8 m) := by
      rw [List.take_of_length_le (by simp), mkU_nat]
      simp only [enc8, if_pos hq, List.map_append, List.map_cons, List.map_nil]
    simp -implicitDefEqProofs only [x_u_AppendRune, go_sem, w32, q, mkU_wrap, ee]
    repeat refine ⟨sc, ?_⟩
    try exact sf
def x_i_PutSign : FnX := ⟨17, [.tmp 4],
  .q [.op 4 (.mv (.k (.one (.nils 1))))]
 (.q [.m 6 0, .op 7 (.bslice 1 [(.t 6)]), .c 8 121 [7], .m 5 8]
 (.seq (.q [.m 9 1, .c 10 143 [9], .N 11 10]
 (.c 11 (.q [.m 12 5, .m 4 12]
 .ret)))
 (.q [.m 13 5, .m 14 1, .op 15 (.conv (.int .i32) (.t 14)), .op 16 (.call 144 [1, 0] [(.t 13), (.t 15)]), .m 4 16]
 .ret)))⟩
abbrev C_i_PutSign (Te : TE) : Prop := ∀ (b : List UInt8) (n : Int) (hb : b.length ≤ 2 ^ 30), Te 105 [.one (slT false 1 uR b), .one (iT n)] ⟨[.one (slT true 1 uR (putSign b n))], [[slT false 1 uR b], [iT n]]⟩
theorem r_i_PutSign {Te : TE} (c_i_joined : C_i_joined Te) (c_i_SignOk : C_i_SignOk Te) (c_u_AppendRune : C_u_AppendRune Te) : C_i_PutSign (RF Te x_i_PutSign) := by
  intro b n hb
  refine run0 ?_
  simp -implicitDefEqProofs only [x_i_PutSign, go_sem]
  repeat refine ⟨sc, ?_⟩
  try exact sf
  refine .of (c_i_joined [b] (by rw [flat1]; omega) (by show 1 ≤ 2 ^ 31; decide)) ?_
  try simp -implicitDefEqProofs only [go_sem, flat1]
  repeat refine ⟨sc, ?_⟩
  try exact sf
  refine .of (c_i_SignOk _) ?_
  try simp -implicitDefEqProofs only [go_sem]
  repeat refine ⟨sc, ?_⟩
  try exact sf
  cases hn : signOk n
  · try simp -implicitDefEqProofs only [go_sem, putSign, hn, if_false, take_map]
    repeat refine ⟨sc, ?_⟩
    try exact sf
    try rfl
  · obtain ⟨h0, h1, h2⟩ := signOk_in hn
    obtain ⟨m, rfl⟩ : ∃ m : Nat, n = m := ⟨n.toNat, by omega⟩
    have ep : putSign b (m : Int) = b ++ enc8 m := by simp only [putSign, hn, if_true, Int.toNat_natCast]
    have w : IntKind.i32.wrap (m : Int) = (m : Int) := by rw [IntWalk.i32_in _ (by omega)]
    try simp -implicitDefEqProofs only [go_sem, w, ep, take_map]
    repeat refine ⟨sc, ?_⟩
    try exact sf
    refine .of (c_u_AppendRune b m hb ⟨by omega, by omega⟩) ?_
    try simp -implicitDefEqProofs only [go_sem, List.length_append]
    repeat refine ⟨sc, ?_⟩
    try exact sf
    rw [← List.length_append, take_map]
end Go.X

/- U -/
namespace Go.X
set_option maxRecDepth 100000
set_option maxHeartbeats 8000000
theorem rngOn_mk {s : List (Nat × SV)} {b : List (Nat × List Cel)} {r : List (Nat × List T)} {tc td p c : Nat} : rngOn ⟨s, b, r⟩ tc td p c = ⟨put (put s tc (.tup [.one (.pv (.bool true)), .one (.pv (.int .i64 p)), .one (.pv (.int .i32 c))])) td (.one (.pv (.bool true))), b, r⟩ := rfl
theorem rngOff_mk {s : List (Nat × SV)} {b : List (Nat × List Cel)} {r : List (Nat × List T)} {tc td : Nat} : rngOff ⟨s, b, r⟩ tc td = ⟨put (put s tc (.tup [.one (.pv (.bool false))])) td (.one (.pv (.bool false))), b, r⟩ := rfl
theorem rngIn_mk {s : List (Nat × SV)} {b : List (Nat × List Cel)} {r : List (Nat × List T)} {ta tb i : Nat} {x : ByteArray} : rngIn ⟨s, b, r⟩ ta tb i x = ⟨put (put s ta (.one (.pv (.string x)))) tb (itV i), b, r⟩ := rfl
/-- The sign at the head of bytes, and how many bytes it takes. -/
def signAt (l : List UInt8) : Option (Nat × Nat) := if (Lib.decodeL l).1 = 65533 ∧ (Lib.decodeL l).2 = 1 then none else some (Lib.decodeL l)
def getSign (b : List UInt8) (i : Int) : Int × Int × Bool := if 0 ≤ i ∧ i < b.length then (match signAt (b.drop i.toNat) with | some d => ((d.1 : Int), i + (d.2 : Nat), true) | none => (0, 0, false)) else (0, 0, false)
theorem getSign_no {b : List UInt8} {i : Int} (h : ¬ (0 ≤ i ∧ i < b.length)) : getSign b i = (0, 0, false) := if_neg h
theorem getSign_bad {b : List UInt8} {i : Int} (h : 0 ≤ i ∧ i < b.length) (hd : signAt (b.drop i.toNat) = none) : getSign b i = (0, 0, false) := by rw [getSign, if_pos h, hd]
theorem getSign_good {b : List UInt8} {i : Int} {d : Nat × Nat} (h : 0 ≤ i ∧ i < b.length) (hd : signAt (b.drop i.toNat) = some d) : getSign b i = ((d.1 : Int), i + (d.2 : Nat), true) := by rw [getSign, if_pos h, hd]
theorem decodeL_bound (l : List UInt8) : (Lib.decodeL l).1 ≤ 1114111 := by
  have h0 := (l.getD 0 0).toNat_lt
  have h1 := (l.getD 1 0).toNat_lt
  have h2 := (l.getD 2 0).toNat_lt
  have h3 := (l.getD 3 0).toNat_lt
  rw [Lib.decodeL_N]
  unfold Lib.decodeN
  repeat' split
  all_goals (simp only; omega)
theorem drop_map_take {α β : Type} (f : α → β) (l : List α) (k : Nat) : List.take (l.length - k) (List.drop k (l.map f)) = (l.drop k).map f := by
  rw [← List.map_drop, List.take_of_length_le (by simp)]
abbrev C_u_DecodeRune (Te : TE) : Prop := ∀ (l : List UInt8) (hl : l ≠ []), Te 165 [.one (slT false 1 uR l)] ⟨[.one (.pv (.int .i32 (Lib.decodeL l).1)), .one (iT (Lib.decodeL l).2)], [[slT false 1 uR l]]⟩
def x_i_GetSign : FnX := ⟨35, [.tmp 4, .tmp 5, .tmp 6],
  .q [.i 4 0, .i 5 0, .F 6]
 (.seq (.q [.m 9 1, .B 10 .lss 9 0, .m 11 10, ⟨(some (11, false)), some 12, 12, .mv (.t 1)⟩, ⟨(some (11, false)), some 13, 13, .mv (.t 0)⟩, ⟨(some (11, false)), some 14, 14, .len (.t 13)⟩, ⟨(some (11, false)), some 15, 15, .bin .geq (.t 12) (.t 14)⟩, .r 16 11 15]
 (.c 16 (.q [.i 4 0, .i 5 0, .F 6]
 .ret)))
 (.q [.m 18 0, .m 19 1, .op 20 (.slice 1 (.t 18) (some (.t 19)) none), .c 21 165 [20], .m 17 21, .e 22 17 0, .e 23 17 1, .m 7 22, .m 8 23]
 (.seq (.q [.m 24 7, .op 25 (.bin .eql (.t 24) (.k (.one (.pv (.int .i32 65533))))), .m 26 25, ⟨(some (26, true)), some 27, 27, .mv (.t 8)⟩, ⟨(some (26, true)), some 28, 28, .bin .lss (.t 27) (.i 2)⟩, .a 29 26 28]
 (.c 29 (.q [.i 4 0, .i 5 0, .F 6]
 .ret)))
 (.q [.m 30 7, .op 31 (.conv (.int .i64) (.t 30)), .m 32 1, .m 33 8, .b 34 .add 32 33, .m 4 31, .m 5 34, .T 6]
 .ret))))⟩
abbrev C_i_GetSign (Te : TE) : Prop := ∀ (b : List UInt8) (i : Int) (hb : b.length ≤ 2 ^ 40), Te 140 [.one (slT false 1 uR b), .one (iT i)] ⟨[.one (iT (getSign b i).1), .one (iT (getSign b i).2.1), .one (bT (getSign b i).2.2)], [[slT false 1 uR b], [iT i]]⟩
theorem r_i_GetSign {Te : TE} (c_u_DecodeRune : C_u_DecodeRune Te) : C_i_GetSign (RF Te x_i_GetSign) := by
  intro b i hb
  refine run0 ?_
  cases q1 : decide (i < 0)
  · cases q2 : decide (i ≥ b.length)
    · have hi : 0 ≤ i ∧ i < b.length := by simp only [decide_eq_false_iff_not] at q1 q2; omega
      have hne : b.drop i.toNat ≠ [] := by
        intro e
        have := congrArg List.length e
        rw [List.length_drop] at this
        simp only [List.length_nil] at this
        omega
      simp -implicitDefEqProofs only [x_i_GetSign, go_sem, q1, q2, drop_map_take]
      repeat refine ⟨sc, ?_⟩
      try exact sf
      refine .of (c_u_DecodeRune (b.drop i.toNat) hne) ?_
      try simp -implicitDefEqProofs only [go_sem]
      repeat refine ⟨sc, ?_⟩
      try exact sf
      have hw := Lib.decodeL_width (b.drop i.toNat)
      have hc := decodeL_bound (b.drop i.toNat)
      have hl := Lib.decodeL_le (b.drop i.toNat) hne
      have hld : (b.drop i.toNat).length ≤ b.length := by rw [List.length_drop]; omega
      by_cases hd : (Lib.decodeL (b.drop i.toNat)).1 = 65533 ∧ (Lib.decodeL (b.drop i.toNat)).2 = 1
      · have e1 : ((((Lib.decodeL (b.drop i.toNat)).1 : Nat) : Int) == 65533) = true := by rw [hd.1]; rfl
        have e2 : decide ((((Lib.decodeL (b.drop i.toNat)).2 : Nat) : Int) < 2) = true := by rw [hd.2]; rfl
        have e := getSign_bad hi (show signAt _ = none from if_pos hd)
        try simp -implicitDefEqProofs only [go_sem, e1, e2, e]
        repeat refine ⟨sc, ?_⟩
        try exact sf
      · have e := getSign_good hi (show signAt _ = some _ from if_neg hd)
        have w1 : IntKind.i64.wrap (((Lib.decodeL (b.drop i.toNat)).1 : Nat) : Int) = ((Lib.decodeL (b.drop i.toNat)).1 : Nat) := IntWalk.i64_in _ (by omega)
        have w2 : IntKind.i64.wrap (i + (((Lib.decodeL (b.drop i.toNat)).2 : Nat) : Int)) = i + ((Lib.decodeL (b.drop i.toNat)).2 : Nat) := IntWalk.i64_in _ (by omega)
        cases e1 : ((((Lib.decodeL (b.drop i.toNat)).1 : Nat) : Int) == 65533)
        · try simp -implicitDefEqProofs only [go_sem, e1, e, w1, w2]
          repeat refine ⟨sc, ?_⟩
          try exact sf
        · have e2 : decide ((((Lib.decodeL (b.drop i.toNat)).2 : Nat) : Int) < 2) = false := by
            refine decide_eq_false fun q => hd ⟨?_, by omega⟩
            have := eq_of_beq e1
            omega
          try simp -implicitDefEqProofs only [go_sem, e1, e2, e, w1, w2]
          repeat refine ⟨sc, ?_⟩
          try exact sf
    · have e := getSign_no (b := b) (i := i) (by simp only [decide_eq_true_eq] at q2; omega)
      simp -implicitDefEqProofs only [x_i_GetSign, go_sem, q1, q2, e]
      repeat refine ⟨sc, ?_⟩
      try exact sf
  · have e := getSign_no (b := b) (i := i) (by simp only [decide_eq_true_eq] at q1; omega)
    simp -implicitDefEqProofs only [x_i_GetSign, go_sem, q1, e]
    repeat refine ⟨sc, ?_⟩
    try exact sf
end Go.X

/- V -/
namespace Go.X
set_option maxRecDepth 100000
set_option maxHeartbeats 8000000
def l2len (b : Nat) : Nat := if b < 128 then 1 else if 194 ≤ b ∧ b ≤ 223 then 2 else if 224 ≤ b ∧ b ≤ 239 then 3 else if 240 ≤ b ∧ b ≤ 244 then 4 else 0
def byteN (l : List UInt8) (k : Nat) : Nat := (l.getD k 0).toNat
theorem byteN_lt (l : List UInt8) (k : Nat) : byteN l k < 256 := (l.getD k 0).toNat_lt
def accN (l : List UInt8) (m : Nat) : Nat → Nat
  | 0 => m
  | j + 1 => accN l m j * 64 + byteN l (j + 1) % 64
theorem decodeL_B (l : List UInt8) : Lib.decodeL l = Lib.decodeN l.length (byteN l 0) (byteN l 1) (byteN l 2) (byteN l 3) := Lib.decodeL_N l
theorem sign_none {l : List UInt8} (h : Lib.decodeN l.length (byteN l 0) (byteN l 1) (byteN l 2) (byteN l 3) = (65533, 1)) : signAt l = none := by
  unfold signAt
  rw [decodeL_B, h]
  exact if_pos ⟨rfl, rfl⟩
theorem sign_some {l : List UInt8} {n k : Nat} (h : Lib.decodeN l.length (byteN l 0) (byteN l 1) (byteN l 2) (byteN l 3) = (n, k)) (hk : k ≠ 1 ∨ n < 128) : signAt l = some (n, k) := by
  unfold signAt
  rw [decodeL_B, h]
  exact if_neg (by simp only; omega)
theorem sign0 {l : List UInt8} (h : l2len (byteN l 0) = 0 ∨ l.length < l2len (byteN l 0)) (hl : 0 < l.length) : signAt l = none := by
  have h0 := byteN_lt l 0
  refine sign_none ?_
  unfold l2len at h
  unfold Lib.decodeN
  repeat' split at h
  all_goals (repeat' split)
  all_goals first | rfl | (exfalso; omega)
theorem sign1 {l : List UInt8} (hl : 0 < l.length) (h : byteN l 0 < 128) : signAt l = some (byteN l 0, 1) := by
  refine sign_some ?_ (.inr h)
  unfold Lib.decodeN
  rw [if_pos h]
theorem sign2 {l : List UInt8} (hl : 2 ≤ l.length) (h : 194 ≤ byteN l 0 ∧ byteN l 0 ≤ 223) : signAt l = if byteN l 1 / 64 = 2 then some (byteN l 0 % 32 * 64 + byteN l 1 % 64, 2) else none := by
  have h1 := byteN_lt l 1
  split
  · refine sign_some ?_ (.inl (by decide))
    unfold Lib.decodeN
    repeat' split
    all_goals first | rfl | (exfalso; omega)
  · refine sign_none ?_
    unfold Lib.decodeN
    repeat' split
    all_goals first | rfl | (exfalso; omega)
theorem sign3 {l : List UInt8} (hl : 3 ≤ l.length) (h : 224 ≤ byteN l 0 ∧ byteN l 0 ≤ 239) : signAt l = if byteN l 1 / 64 = 2 ∧ byteN l 2 / 64 = 2 ∧ 2048 ≤ byteN l 0 % 16 * 4096 + byteN l 1 % 64 * 64 + byteN l 2 % 64 ∧ ¬ (55296 ≤ byteN l 0 % 16 * 4096 + byteN l 1 % 64 * 64 + byteN l 2 % 64 ∧ byteN l 0 % 16 * 4096 + byteN l 1 % 64 * 64 + byteN l 2 % 64 ≤ 57343) then some (byteN l 0 % 16 * 4096 + byteN l 1 % 64 * 64 + byteN l 2 % 64, 3) else none := by
  have h1 := byteN_lt l 1
  have h2 := byteN_lt l 2
  split
  · refine sign_some ?_ (.inl (by decide))
    unfold Lib.decodeN
    repeat' split
    all_goals first | rfl | (exfalso; omega)
  · refine sign_none ?_
    unfold Lib.decodeN
    repeat' split
    all_goals first | rfl | (exfalso; omega)
theorem sign4 {l : List UInt8} (hl : 4 ≤ l.length) (h : 240 ≤ byteN l 0 ∧ byteN l 0 ≤ 244) : signAt l = if byteN l 1 / 64 = 2 ∧ byteN l 2 / 64 = 2 ∧ byteN l 3 / 64 = 2 ∧ 65536 ≤ byteN l 0 % 8 * 262144 + byteN l 1 % 64 * 4096 + byteN l 2 % 64 * 64 + byteN l 3 % 64 ∧ byteN l 0 % 8 * 262144 + byteN l 1 % 64 * 4096 + byteN l 2 % 64 * 64 + byteN l 3 % 64 ≤ 1114111 then some (byteN l 0 % 8 * 262144 + byteN l 1 % 64 * 4096 + byteN l 2 % 64 * 64 + byteN l 3 % 64, 4) else none := by
  have h1 := byteN_lt l 1
  have h2 := byteN_lt l 2
  have h3 := byteN_lt l 3
  split
  · refine sign_some ?_ (.inl (by decide))
    unfold Lib.decodeN
    repeat' split
    all_goals first | rfl | (exfalso; omega)
  · refine sign_none ?_
    unfold Lib.decodeN
    repeat' split
    all_goals first | rfl | (exfalso; omega)
theorem ofNat_eq {n : Nat} {b : UInt8} (h : n = b.toNat) : UInt8.ofNat n = b := by subst h; exact UInt8.ofNat_toNat
theorem four {l : List UInt8} (h : 4 ≤ l.length) : ∃ a b c d u, l = a :: b :: c :: d :: u := by
  match l, h with
  | a :: b :: c :: d :: u, _ => exact ⟨a, b, c, d, u, rfl⟩
/-- Whether a sign's bytes are those at the head. -/
theorem enc_take {l : List UInt8} {n k : Nat} (hk : k ≤ l.length) (h : signAt l = some (n, k)) : enc8 n = l.take k ∧ signOk n = true := by
  unfold signAt at h
  split at h
  · cases h
  · rename_i hv
    simp only [Option.some.injEq] at h
    rw [decodeL_B] at h hv
    have b0 := byteN_lt l 0
    have b1 := byteN_lt l 1
    have b2 := byteN_lt l 2
    have b3 := byteN_lt l 3
    have hok : ∀ n : Nat, n ≤ 1114111 → ¬ (55296 ≤ n ∧ n ≤ 57343) → signOk (n : Int) = true := fun n h1 h2 => by
      have e1 : win (n : Int) 0 1114111 = true := by simp only [win, Bool.and_eq_true, decide_eq_true_eq]; omega
      have e2 : win (n : Int) 55296 57343 = false := by
        simp only [win, Bool.and_eq_false_iff, decide_eq_false_iff_not]
        omega
      simp only [signOk, e1, e2, Bool.not_false, Bool.and_true]
    unfold Lib.decodeN at h hv
    split at h
    · rename_i c0
      cases h
      refine ⟨?_, hok _ (by omega) (by omega)⟩
      match l, hk with
      | a :: t, _ =>
        have c0' : a.toNat < 128 := c0
        simp only [enc8, byteN, List.getD_cons_zero]
        rw [if_pos (by omega)]
        simp only [List.take_succ_cons, List.take_zero]
        rw [ofNat_eq rfl]
    · rename_i c0
      rw [if_neg c0] at hv
      split at h
      · rename_i c1
        rw [if_pos c1] at hv
        split at h
        · rename_i c2
          cases h
          refine ⟨?_, hok _ (by omega) (by omega)⟩
          match l, hk with
          | a :: b :: t, _ =>
            simp only [byteN, List.getD_cons_zero, List.getD_cons_succ] at c0 c1 c2 b0 b1 ⊢
            simp only [enc8]
            rw [if_neg (by omega), if_pos (by omega), ofNat_eq (b := a) (by omega), ofNat_eq (b := b) (by omega)]
            rfl
        · rename_i c2
          rw [if_neg c2] at hv
          exact absurd ⟨rfl, rfl⟩ hv
      · rename_i c1
        rw [if_neg c1] at hv
        split at h
        · rename_i c3
          rw [if_pos c3] at hv
          split at h
          · rename_i c4
            cases h
            refine ⟨?_, hok _ (by omega) (by omega)⟩
            match l, hk with
            | a :: b :: c :: t, _ =>
              simp only [byteN, List.getD_cons_zero, List.getD_cons_succ] at c0 c1 c3 c4 b0 b1 b2 ⊢
              simp only [enc8]
              rw [if_neg (by omega), if_neg (by omega), if_pos (by omega), ofNat_eq (b := a) (by omega), ofNat_eq (b := b) (by omega), ofNat_eq (b := c) (by omega)]
              rfl
          · rename_i c4
            rw [if_neg c4] at hv
            exact absurd ⟨rfl, rfl⟩ hv
        · rename_i c3
          rw [if_neg c3] at hv
          split at h
          · rename_i c5
            rw [if_pos c5] at hv
            split at h
            · rename_i c6
              have e1 := congrArg Prod.fst h
              have e2 := congrArg Prod.snd h
              simp only at e1 e2
              subst e2
              subst e1
              refine ⟨?_, hok _ (by omega) (by omega)⟩
              obtain ⟨a, b, c, d, u, rfl⟩ : ∃ a b c d u, l = a :: b :: c :: d :: u := four hk
              clear hv h hk hok
              simp only [byteN, List.getD_cons_zero, List.getD_cons_succ] at c0 c1 c3 c5 c6 b0 b1 b2 b3 ⊢
              simp only [enc8]
              rw [if_neg (by omega), if_neg (by omega), if_neg (by omega), ofNat_eq (b := a) (by omega), ofNat_eq (b := b) (by omega), ofNat_eq (b := c) (by omega), ofNat_eq (b := d) (by omega)]
              rfl
            · rename_i c6
              rw [if_neg c6] at hv
              exact absurd ⟨rfl, rfl⟩ hv
          · rename_i c5
            rw [if_neg c5] at hv
            exact absurd ⟨rfl, rfl⟩ hv
def x_s_l2Len : FnX := ⟨18, [.tmp 2],
  .q [.i 2 0]
 (.seq (.block 0 (.q [.m 4 0, .op 5 (.bin .lss (.t 4) (.k (.one (.pv (.int .u8 128))))), .m 3 5]
 (.cond 3 (.q [.i 2 1]
 .ret) (.q [.m 7 0, .op 8 (.conv (.int .i64) (.t 7)), .op 9 (.call 23 [0, 0, 0] [(.t 8), (.i 194), (.i 223)]), .m 6 9]
 (.cond 6 (.q [.i 2 2]
 .ret) (.q [.m 11 0, .op 12 (.conv (.int .i64) (.t 11)), .op 13 (.call 23 [0, 0, 0] [(.t 12), (.i 224), (.i 239)]), .m 10 13]
 (.cond 10 (.q [.i 2 3]
 .ret) (.q [.m 15 0, .op 16 (.conv (.int .i64) (.t 15)), .op 17 (.call 23 [0, 0, 0] [(.t 16), (.i 240), (.i 244)]), .m 14 17]
 (.c 14 (.q [.i 2 4]
 .ret))))))))))
 (.q [.i 2 0]
 .ret))⟩
abbrev C_s_l2Len (Te : TE) : Prop := ∀ (b : UInt8), Te 158 [.one (uT b)] ⟨[.one (iT (l2len b.toNat))], [[uT b]]⟩
theorem r_s_l2Len {Te : TE} (c_s_l1In : C_s_l1In Te) : C_s_l2Len (RF Te x_s_l2Len) := by
  intro b
  refine run0 ?_
  have hb := b.toNat_lt
  have w : IntKind.i64.wrap (b.toNat : Int) = (b.toNat : Int) := IntWalk.i64_in _ (by omega)
  cases q1 : decide ((b.toNat : Int) < 128)
  · simp only [decide_eq_false_iff_not] at q1
    have q1' := decide_eq_false q1
    simp -implicitDefEqProofs only [x_s_l2Len, go_sem, q1', w]
    repeat refine ⟨sc, ?_⟩
    try exact sf
    refine .of (c_s_l1In _ _ _) ?_
    try simp -implicitDefEqProofs only [go_sem]
    repeat refine ⟨sc, ?_⟩
    try exact sf
    cases q2 : win (b.toNat : Int) 194 223
    · try simp -implicitDefEqProofs only [go_sem, w]
      repeat refine ⟨sc, ?_⟩
      try exact sf
      refine .of (c_s_l1In _ _ _) ?_
      try simp -implicitDefEqProofs only [go_sem]
      repeat refine ⟨sc, ?_⟩
      try exact sf
      cases q3 : win (b.toNat : Int) 224 239
      · try simp -implicitDefEqProofs only [go_sem, w]
        repeat refine ⟨sc, ?_⟩
        try exact sf
        refine .of (c_s_l1In _ _ _) ?_
        try simp -implicitDefEqProofs only [go_sem]
        repeat refine ⟨sc, ?_⟩
        try exact sf
        cases q4 : win (b.toNat : Int) 240 244
        · have e : l2len b.toNat = 0 := by
            simp only [win, Bool.and_eq_false_imp, decide_eq_true_eq, decide_eq_false_iff_not] at q2 q3 q4
            unfold l2len
            rw [if_neg (by omega), if_neg (by omega), if_neg (by omega), if_neg (by omega)]
          try simp -implicitDefEqProofs only [go_sem, e]
          repeat refine ⟨sc, ?_⟩
          try exact sf
          try rfl
        · have e : l2len b.toNat = 4 := by
            simp only [win, Bool.and_eq_true, decide_eq_true_eq] at q4
            unfold l2len
            rw [if_neg (by omega), if_neg (by omega), if_neg (by omega), if_pos (by omega)]
          try simp -implicitDefEqProofs only [go_sem, e]
          repeat refine ⟨sc, ?_⟩
          try exact sf
          try rfl
      · have e : l2len b.toNat = 3 := by
          simp only [win, Bool.and_eq_true, decide_eq_true_eq] at q3
          unfold l2len
          rw [if_neg (by omega), if_neg (by omega), if_pos (by omega)]
        try simp -implicitDefEqProofs only [go_sem, e]
        repeat refine ⟨sc, ?_⟩
        try exact sf
        try rfl
    · have e : l2len b.toNat = 2 := by
        simp only [win, Bool.and_eq_true, decide_eq_true_eq] at q2
        unfold l2len
        rw [if_neg (by omega), if_pos (by omega)]
      try simp -implicitDefEqProofs only [go_sem, e]
      repeat refine ⟨sc, ?_⟩
      try exact sf
      try rfl
  · simp only [decide_eq_true_eq] at q1
    have q1' := decide_eq_true q1
    have e : l2len b.toNat = 1 := if_pos (by omega)
    simp -implicitDefEqProofs only [x_s_l2Len, go_sem, q1', e]
    repeat refine ⟨sc, ?_⟩
    try exact sf
    try rfl
end Go.X

/- Va -/
namespace Go.X
set_option maxRecDepth 100000
set_option maxHeartbeats 8000000
def contB (l : List UInt8) : Nat → Bool
  | 0 => true
  | j + 1 => contB l j && (byteN l (j + 1) / 64 == 2)
theorem and192_all : ∀ m : Fin 256, (m.val &&& 192 == 128) = (m.val / 64 == 2) := by decide
theorem and192 (m : Nat) (hm : m < 256) : (andK .u8 (m : Int) 192 != 128) = !(m / 64 == 2) := by
  have h1 : (BitVec.ofInt 8 (m : Int)).toNat = m := by rw [BitVec.toNat_ofInt]; omega
  have h2 : (BitVec.ofInt 8 192).toNat = 192 := by decide
  have h3 := and192_all ⟨m, hm⟩
  simp only at h3
  have h4 : m &&& 192 < 256 := Nat.lt_of_le_of_lt Nat.and_le_right (by decide)
  rw [andK_def, show IntKind.u8.bits = 8 from rfl, BitVec.toNat_and, h1, h2, IntKind.wrap_u8, ← h3, bne]
  congr 1
  rw [Bool.eq_iff_iff, beq_iff_eq, beq_iff_eq]
  omega
theorem or_acc (a x : Nat) (ha : a < 2 ^ 40) (hx : x < 64) : orK .i64 ((a * 64 : Nat) : Int) (x : Int) = ((a * 64 + x : Nat) : Int) := by
  rw [or_nat _ _ (by omega) (by omega), Nat.mul_comm a 64, show 64 * a = 2 ^ 6 * a from rfl, Nat.two_pow_add_eq_or_of_lt (i := 6) (by omega)]
theorem accN_lt (l : List UInt8) {m : Nat} (hm : m < 256) : ∀ j, accN l m j < 256 * 64 ^ j
  | 0 => by simpa [accN] using hm
  | j + 1 => by
    have := accN_lt l hm j
    simp only [accN]
    rw [Nat.pow_succ]
    omega
theorem accN_small (l : List UInt8) {m j : Nat} (hm : m < 256) (hj : j ≤ 3) : accN l m j < 2 ^ 28 := by
  have h := accN_lt l hm j
  have : 64 ^ j ≤ 64 ^ 3 := Nat.pow_le_pow_right (by decide) hj
  omega
theorem bytesOf_uR (l : List UInt8) : bytesOf (l.map uR) = l := by
  simp only [bytesOf, List.map_map, Function.comp_def, List.headD_cons, byteOf]
  conv => rhs; rw [← List.map_id l]
  refine List.map_congr_left fun a _ => ?_
  simp
theorem areBytes_uR : ∀ l : List UInt8, areBytes (l.map uR) = true
  | [] => rfl
  | a :: l => by simp only [List.map_cons, areBytes, isByte, areBytes_uR l, Bool.and_true]
def signTail (l : List UInt8) (i : Int) (K m : Nat) : Int × Int × Bool := if (contB l (K - 1) && signOk (accN l m (K - 1) : Nat) && decide (enc8 (accN l m (K - 1)) = l.take K)) = true then (((accN l m (K - 1) : Nat) : Int), i + (K : Nat), true) else (0, 0, false)
theorem tail_no {l : List UInt8} {i : Int} {K m : Nat} (h : (contB l (K - 1) && signOk (accN l m (K - 1) : Nat) && decide (enc8 (accN l m (K - 1)) = l.take K)) = false) : signTail l i K m = (0, 0, false) := if_neg (by rw [h]; decide)
theorem contB_down (l : List UInt8) : ∀ {j k : Nat}, j ≤ k → contB l j = false → contB l k = false
  | j, 0, h, e => by have : j = 0 := by omega
                     subst this; exact e
  | j, k + 1, h, e => by
    by_cases q : j = k + 1
    · subst q; exact e
    · simp only [contB, contB_down l (show j ≤ k by omega) e, Bool.false_and]
theorem tail_some {l : List UInt8} {i : Int} {K m n : Nat} (hl : K ≤ l.length) (h : signAt l = some (n, K)) (hc : contB l (K - 1) = true) (ha : accN l m (K - 1) = n) : signTail l i K m = ((n : Int), i + (K : Nat), true) := by
  obtain ⟨h1, h2⟩ := enc_take hl h
  unfold signTail
  rw [ha, if_pos (by rw [hc, h2, decide_eq_true h1]; rfl)]
theorem signOk_no {n : Nat} (h : n > 1114111 ∨ (55296 ≤ n ∧ n ≤ 57343)) : signOk (n : Int) = false := by
  cases g : signOk (n : Int)
  · rfl
  · obtain ⟨h0, h1, h2⟩ := signOk_in g
    omega
theorem enc8_short {n K : Nat} (h : n < 2048 ∧ 3 ≤ K ∨ n < 65536 ∧ 4 ≤ K) {l : List UInt8} (hl : K ≤ l.length) : decide (enc8 n = l.take K) = false := by
  refine decide_eq_false fun e => ?_
  have e2 := congrArg List.length e
  rw [List.length_take, Nat.min_eq_left hl] at e2
  unfold enc8 at e2
  revert e2
  repeat' split
  all_goals simp only [List.length_cons, List.length_nil]
  all_goals omega
def getTail (l : List UInt8) (i : Int) : Int × Int × Bool := match signAt l with | some d => ((d.1 : Int), i + (d.2 : Nat), true) | none => (0, 0, false)
theorem getTail_some {l : List UInt8} {i : Int} {d : Nat × Nat} (h : signAt l = some d) : getTail l i = ((d.1 : Int), i + (d.2 : Nat), true) := by rw [getTail, h]
theorem getTail_none {l : List UInt8} {i : Int} (h : signAt l = none) : getTail l i = (0, 0, false) := by rw [getTail, h]
theorem tail1 {l : List UInt8} (i : Int) (hl : 1 ≤ l.length) (h : byteN l 0 < 128) : getTail l i = signTail l i 1 (byteN l 0) := by
  have hs := sign1 (by omega) h
  exact (getTail_some hs).trans (tail_some hl hs rfl rfl).symm
theorem tail2 {l : List UInt8} (i : Int) (hl : 2 ≤ l.length) (h : 194 ≤ byteN l 0 ∧ byteN l 0 ≤ 223) : getTail l i = signTail l i 2 (byteN l 0 % 32) := by
  have hs := sign2 hl h
  by_cases c : byteN l 1 / 64 = 2
  · rw [if_pos c] at hs
    exact (getTail_some hs).trans (tail_some hl hs (by simp only [contB, c]; rfl) rfl).symm
  · rw [if_neg c] at hs
    rw [getTail_none hs, tail_no]
    simp only [contB, beq_eq_false_iff_ne.2 c, Bool.and_false, Bool.false_and]
theorem tail3 {l : List UInt8} (i : Int) (hl : 3 ≤ l.length) (h : 224 ≤ byteN l 0 ∧ byteN l 0 ≤ 239) : getTail l i = signTail l i 3 (byteN l 0 % 16) := by
  have hs := sign3 hl h
  have ea : accN l (byteN l 0 % 16) 2 = byteN l 0 % 16 * 4096 + byteN l 1 % 64 * 64 + byteN l 2 % 64 := by
    show (byteN l 0 % 16 * 64 + byteN l 1 % 64) * 64 + byteN l 2 % 64 = _
    omega
  generalize hn : byteN l 0 % 16 * 4096 + byteN l 1 % 64 * 64 + byteN l 2 % 64 = n at hs ea
  by_cases c1 : byteN l 1 / 64 = 2
  · by_cases c2 : byteN l 2 / 64 = 2
    · have hc : contB l 2 = true := by simp only [contB, c1, c2]; rfl
      by_cases c3 : 2048 ≤ n ∧ ¬ (55296 ≤ n ∧ n ≤ 57343)
      · rw [if_pos ⟨c1, c2, c3⟩] at hs
        exact (getTail_some hs).trans (tail_some hl hs hc ea).symm
      · rw [if_neg (fun q => c3 q.2.2)] at hs
        rw [getTail_none hs, tail_no]
        show (contB l 2 && signOk (accN l (byteN l 0 % 16) 2 : Nat) && decide (enc8 (accN l (byteN l 0 % 16) 2) = l.take 3)) = false
        rw [ea]
        by_cases c4 : n < 2048
        · rw [enc8_short (.inl ⟨c4, by decide⟩) hl, Bool.and_false]
        · rw [signOk_no (.inr (by omega)), Bool.and_false, Bool.false_and]
    · rw [if_neg (fun q => c2 q.2.1)] at hs
      rw [getTail_none hs, tail_no]
      simp only [contB, beq_eq_false_iff_ne.2 c2, Bool.and_false, Bool.false_and]
  · rw [if_neg (fun q => c1 q.1)] at hs
    rw [getTail_none hs, tail_no]
    simp only [contB, beq_eq_false_iff_ne.2 c1, Bool.and_false, Bool.false_and]
theorem tail4 {l : List UInt8} (i : Int) (hl : 4 ≤ l.length) (h : 240 ≤ byteN l 0 ∧ byteN l 0 ≤ 244) : getTail l i = signTail l i 4 (byteN l 0 % 8) := by
  have hs := sign4 hl h
  have ea : accN l (byteN l 0 % 8) 3 = byteN l 0 % 8 * 262144 + byteN l 1 % 64 * 4096 + byteN l 2 % 64 * 64 + byteN l 3 % 64 := by
    show ((byteN l 0 % 8 * 64 + byteN l 1 % 64) * 64 + byteN l 2 % 64) * 64 + byteN l 3 % 64 = _
    omega
  generalize hn : byteN l 0 % 8 * 262144 + byteN l 1 % 64 * 4096 + byteN l 2 % 64 * 64 + byteN l 3 % 64 = n at hs ea
  by_cases c1 : byteN l 1 / 64 = 2
  · by_cases c2 : byteN l 2 / 64 = 2
    · by_cases c3 : byteN l 3 / 64 = 2
      · have hc : contB l 3 = true := by simp only [contB, c1, c2, c3]; rfl
        by_cases c4 : 65536 ≤ n ∧ n ≤ 1114111
        · rw [if_pos ⟨c1, c2, c3, c4⟩] at hs
          exact (getTail_some hs).trans (tail_some hl hs hc ea).symm
        · rw [if_neg (fun q => c4 q.2.2.2)] at hs
          rw [getTail_none hs, tail_no]
          show (contB l 3 && signOk (accN l (byteN l 0 % 8) 3 : Nat) && decide (enc8 (accN l (byteN l 0 % 8) 3) = l.take 4)) = false
          rw [ea]
          by_cases c5 : n < 65536
          · rw [enc8_short (.inr ⟨c5, by decide⟩) hl, Bool.and_false]
          · rw [signOk_no (.inl (by omega)), Bool.and_false, Bool.false_and]
      · rw [if_neg (fun q => c3 q.2.2.1)] at hs
        rw [getTail_none hs, tail_no]
        simp only [contB, beq_eq_false_iff_ne.2 c3, Bool.and_false, Bool.false_and]
    · rw [if_neg (fun q => c2 q.2.1)] at hs
      rw [getTail_none hs, tail_no]
      simp only [contB, beq_eq_false_iff_ne.2 c2, Bool.and_false, Bool.false_and]
  · rw [if_neg (fun q => c1 q.1)] at hs
    rw [getTail_none hs, tail_no]
    simp only [contB, beq_eq_false_iff_ne.2 c1, Bool.and_false, Bool.false_and]
theorem and_mask (m j : Nat) (hm : m < 256) (hj : j ≤ 8) : andK .i64 (m : Int) ((2 ^ j - 1 : Nat) : Int) = ((m % 2 ^ j : Nat) : Int) := by
  have : 2 ^ j ≤ 2 ^ 8 := Nat.pow_le_pow_right (by decide) hj
  rw [and_nat _ _ (by omega) (by omega), Nat.and_two_pow_sub_one_eq_mod]
theorem l2len_in (x : Nat) (h : l2len x ≠ 0) : (l2len x = 1 ∧ x < 128) ∨ (l2len x = 2 ∧ 194 ≤ x ∧ x ≤ 223) ∨ (l2len x = 3 ∧ 224 ≤ x ∧ x ≤ 239) ∨ (l2len x = 4 ∧ 240 ≤ x ∧ x ≤ 244) := by
  by_cases h1 : x < 128
  · exact .inl ⟨if_pos h1, h1⟩
  by_cases h2 : 194 ≤ x ∧ x ≤ 223
  · exact .inr (.inl ⟨by rw [l2len, if_neg h1, if_pos h2], h2⟩)
  by_cases h3 : 224 ≤ x ∧ x ≤ 239
  · exact .inr (.inr (.inl ⟨by rw [l2len, if_neg h1, if_neg h2, if_pos h3], h3⟩))
  by_cases h4 : 240 ≤ x ∧ x ≤ 244
  · exact .inr (.inr (.inr ⟨by rw [l2len, if_neg h1, if_neg h2, if_neg h3, if_pos h4], h4⟩))
  exact absurd (by rw [l2len, if_neg h1, if_neg h2, if_neg h3, if_neg h4]) h
def x_s_GetSign_1 : XCode := .seq (.q [.i 9 1]
 (.block 0 (.loop [0, 1, 7, 8, 9] (.seq (.q [.m 43 9, .m 44 7, .b 45 .lss 43 44]
 (.cond 45 .skip (.exit 0)))
 (.seq (.block 1 (.seq (.q [.m 48 0, .m 49 1, .m 50 9, .b 51 .add 49 50, .x 52 1 48 51, .l 53 52, .op 54 (.bin .and (.t 53) (.k (.one (.pv (.int .u8 192))))), .op 55 (.bin .neq (.t 54) (.k (.one (.pv (.int .u8 128)))))]
 (.c 55 (.q [.i 4 0, .i 5 0, .F 6]
 .ret)))
 (.reg [.m 56 8, .op 57 (.bin .shl (.t 56) (.k (.one (.pv (.int .u64 6))))), .m 58 0, .m 59 1, .m 60 9, .b 61 .add 59 60, .x 62 1 58 61, .l 63 62, .op 64 (.bin .and (.t 63) (.k (.one (.pv (.int .u8 63))))), .op 65 (.conv (.int .i64) (.t 64)), .b 66 .or 57 65, .m 8 66])))
 (.reg [.m 46 9, .B 47 .add 46 1, .m 9 47]))))))
 (.norm [0, 1, 7, 8] (.seq (.seq (.draw [.m 67 8, .c 68 137 [67], .N 69 68, .m 70 69, ⟨(some (70, false)), some 71, 71, .bslice 1 []⟩, ⟨(some (70, false)), some 72, 72, .mv (.t 8)⟩, ⟨(some (70, false)), some 73, 73, .call 96 [0, 0] [(.t 71), (.t 72)]⟩, ⟨(some (70, false)), some 74, 74, .conv .b2s (.t 73)⟩, ⟨(some (70, false)), some 75, 75, .mv (.t 0)⟩, ⟨(some (70, false)), some 76, 76, .mv (.t 1)⟩, ⟨(some (70, false)), some 77, 77, .mv (.t 1)⟩, ⟨(some (70, false)), some 78, 78, .mv (.t 7)⟩, ⟨(some (70, false)), some 79, 79, .bin .add (.t 77) (.t 78)⟩, ⟨(some (70, false)), some 80, 80, .slice 1 (.t 75) (some (.t 76)) (some (.t 79))⟩, ⟨(some (70, false)), some 81, 81, .conv .b2s (.t 80)⟩, ⟨(some (70, false)), some 82, 82, .bin .neq (.t 74) (.t 81)⟩, .r 83 70 82] [[], [0], [1], [2, 1], [3], [3], [4, 5, 3, 3], [6, 3], [3], [3], [3], [3], [10, 11, 3], [8, 9, 12, 3], [13, 3], [7, 14, 3], [3, 15]])
 (.c 83 (.q [.i 4 0, .i 5 0, .F 6]
 .ret)))
 (.q [.m 84 8, .m 85 1, .m 86 7, .b 87 .add 85 86, .m 4 84, .m 5 87, .T 6]
 .ret)))
def x_s_GetSign : FnX := ⟨88, [.tmp 4, .tmp 5, .tmp 6],
  .q [.i 4 0, .i 5 0, .F 6]
 (.seq (.q [.m 10 1, .m 11 0, .n 12 11, .B 13 .sub 12 1, .op 14 (.call 23 [0, 0, 0] [(.t 10), (.i 0), (.t 13)]), .N 15 14]
 (.c 15 (.q [.i 4 0, .i 5 0, .F 6]
 .ret)))
 (.q [.m 16 0, .m 17 1, .x 18 1 16 17, .l 19 18, .c 20 158 [19], .m 7 20]
 (.seq (.q [.m 21 7, .B 22 .eql 21 0, .m 23 22, ⟨(some (23, false)), some 24, 24, .mv (.t 7)⟩, ⟨(some (23, false)), some 25, 25, .mv (.t 0)⟩, ⟨(some (23, false)), some 26, 26, .len (.t 25)⟩, ⟨(some (23, false)), some 27, 27, .mv (.t 1)⟩, ⟨(some (23, false)), some 28, 28, .bin .sub (.t 26) (.t 27)⟩, ⟨(some (23, false)), some 29, 29, .bin .gtr (.t 24) (.t 28)⟩, .r 30 23 29]
 (.c 30 (.q [.i 4 0, .i 5 0, .F 6]
 .ret)))
 (.q [.m 31 0, .m 32 1, .x 33 1 31 32, .l 34 33, .op 35 (.conv (.int .i64) (.t 34)), .m 8 35]
 (.seq (.q [.m 36 7, .B 37 .gtr 36 1]
 (.c 37 (.reg [.m 38 8, .m 39 7, .op 40 (.conv (.int .u64) (.t 39)), .op 41 (.bin .shr (.i 127) (.t 40)), .b 42 .and 38 41, .m 8 42])))
 (.norm [0, 1, 7, 8] (x_s_GetSign_1)))))))⟩
abbrev C_s_GetSign (Te : TE) : Prop := ∀ (b : List UInt8) (i : Int) (hb : b.length ≤ 2 ^ 30), Te 134 [.one (slT false 1 uR b), .one (iT i)] ⟨[.one (iT (getSign b i).1), .one (iT (getSign b i).2.1), .one (bT (getSign b i).2.2)], [[slT false 1 uR b], [iT i]]⟩
theorem s_GetSign_tail {Te : Nat → List AV → Res → Prop} (c_S : C_s_SignOk Te) (c_P : C_s_PutSign Te) (b : List UInt8) (k K m : Nat) (hb : b.length ≤ 2 ^ 30) (hK : 1 ≤ K ∧ K ≤ 4 ∧ k + K ≤ b.length) (hm : m < 256) :
    runC Te 2 90 x_s_GetSign_1 ⟨[(0, .one (.ro 1 (b.map uR))), (1, .one (.pv (.int .i64 (k : Int)))), (7, .one (.pv (.int .i64 (K : Int)))), (8, .one (.pv (.int .i64 (m : Int))))], [], [(0, [slT false 1 uR b]), (1, [iT k])]⟩
      (EndFn Te [.one (slT false 1 uR b), .one (iT k)] [.tmp 4, .tmp 5, .tmp 6] ⟨[.one (iT (signTail (b.drop k) k K m).1), .one (iT (signTail (b.drop k) k K m).2.1), .one (bT (signTail (b.drop k) k K m).2.2)], [[slT false 1 uR b], [iT k]]⟩) := by
  simp -implicitDefEqProofs only [x_s_GetSign_1, go_sem]
  refine loop_of (σ := Nat) (fun j => ⟨[(0, .one (.ro 1 (b.map uR))), (1, .one (.pv (.int .i64 (k : Int)))), (7, .one (.pv (.int .i64 (K : Int)))), (8, .one (.pv (.int .i64 ((accN (b.drop k) m j : Nat) : Int)))), (9, .one (.pv (.int .i64 ((j + 1 : Nat) : Int))))], [], [(0, [slT false 1 uR b]), (1, [iT k])]⟩) (fun j => j + 1 ≤ K ∧ contB (b.drop k) j = true) (fun j => K - j) 0 ?_ ⟨hK.1, rfl⟩ ?_
  · simp -implicitDefEqProofs only [go_sem]; rfl
  · rintro j ⟨hj, hc⟩
    have hacc := accN_small (b.drop k) hm (show j ≤ 3 by omega)
    cases q : decide (((j + 1 : Nat) : Int) < (K : Int))
    · have hjK : j = K - 1 := by simp only [decide_eq_false_iff_not] at q; omega
      subst hjK
      try simp -implicitDefEqProofs only [go_sem, q]
      repeat refine ⟨sc, ?_⟩
      try exact sf
      refine .of (c_S _) ?_
      try simp -implicitDefEqProofs only [go_sem]
      repeat refine ⟨sc, ?_⟩
      try exact sf
      cases h1 : signOk ((accN (b.drop k) m (K - 1) : Nat) : Int)
      · have e := tail_no (l := b.drop k) (i := k) (K := K) (m := m) (by rw [h1, Bool.and_false, Bool.false_and])
        try simp -implicitDefEqProofs only [go_sem, e]
        repeat refine ⟨sc, ?_⟩
        try exact sf
      · have e1 : IntKind.i64.wrap ((k : Int) + (K : Int)) = ((k + K : Nat) : Int) := by rw [IntWalk.i64_in _ (by omega)]; rfl
        have e2 : k ≤ k + K := Nat.le_add_right _ _
        have e3 : List.take (k + K - k) (List.drop k (b.map uR)) = ((b.drop k).take K).map uR := by rw [← List.map_drop, ← List.map_take, Nat.add_sub_cancel_left]
        have e4 : decide (k + K ≤ b.length) = true := decide_eq_true hK.2.2
        try simp -implicitDefEqProofs only [go_sem]
        repeat refine ⟨sc, ?_⟩
        try exact sf
        refine .of (c_P [] _ (by decide)) ?_
        try simp -implicitDefEqProofs only [go_sem, e1, e3, take_map, bytesOf_uR, areBytes_uR, wholeLL_map]
        repeat refine ⟨sc, ?_⟩
        try exact sf
        have ep : putSign [] ((accN (b.drop k) m (K - 1) : Nat) : Int) = enc8 (accN (b.drop k) m (K - 1)) := by simp only [putSign, h1, if_true, Int.toNat_natCast, List.nil_append]
        have ed : decide ((⟨(enc8 (accN (b.drop k) m (K - 1))).toArray⟩ : ByteArray) = ⟨((b.drop k).take K).toArray⟩) = decide (enc8 (accN (b.drop k) m (K - 1)) = (b.drop k).take K) := by
          congr 1
          simp
        cases h2 : decide (enc8 (accN (b.drop k) m (K - 1)) = (b.drop k).take K)
        · have e := tail_no (l := b.drop k) (i := k) (K := K) (m := m) (by rw [h2, Bool.and_false])
          try simp -implicitDefEqProofs only [go_sem, ep, ed, h2, e]
          repeat refine ⟨sc, ?_⟩
          try exact sf
        · have e : signTail (b.drop k) k K m = (((accN (b.drop k) m (K - 1) : Nat) : Int), (k : Int) + (K : Nat), true) := if_pos (by rw [hc, h1, h2]; rfl)
          try simp -implicitDefEqProofs only [go_sem, ep, ed, h2, e]
          repeat refine ⟨sc, ?_⟩
          try exact sf
          try rfl
    · have hjK : j + 1 < K := by simp only [decide_eq_true_eq] at q; omega
      have hidx : k + (j + 1) < b.length := by omega
      have e1 : IntKind.i64.wrap ((k : Int) + ((j + 1 : Nat) : Int)) = ((k + (j + 1) : Nat) : Int) := by rw [IntWalk.i64_in _ (by omega)]; rfl
      have eb : b[k + (j + 1)].toNat = byteN (b.drop k) (j + 1) := by
        simp only [byteN, List.getD_eq_getElem?_getD, List.getElem?_drop]
        rw [List.getElem?_eq_getElem hidx]
        rfl
      have hlt := byteN_lt (b.drop k) (j + 1)
      have e2 := and192 (byteN (b.drop k) (j + 1)) hlt
      try simp -implicitDefEqProofs only [go_sem, q, e1, List.getElem?_eq_getElem hidx, eb, e2]
      repeat refine ⟨sc, ?_⟩
      try exact sf
      cases h3 : (byteN (b.drop k) (j + 1) / 64 == 2)
      · have hno : contB (b.drop k) (K - 1) = false := contB_down _ (show j + 1 ≤ K - 1 by omega) (by simp only [contB, h3, Bool.and_false])
        have e := tail_no (l := b.drop k) (i := k) (K := K) (m := m) (by rw [hno, Bool.false_and, Bool.false_and])
        try simp -implicitDefEqProofs only [go_sem, e]
        repeat refine ⟨sc, ?_⟩
        try exact sf
      · have e4 : IntKind.i64.wrap (((accN (b.drop k) m j : Nat) : Int) * 2 ^ 6) = ((accN (b.drop k) m j * 64 : Nat) : Int) := by rw [IntWalk.i64_in _ (by omega)]; omega
        have e5 := and8 (byteN (b.drop k) (j + 1)) hlt
        have e6 : IntKind.i64.wrap ((byteN (b.drop k) (j + 1) % 64 : Nat) : Int) = ((byteN (b.drop k) (j + 1) % 64 : Nat) : Int) := IntWalk.i64_in _ (by omega)
        have e7 := or_acc (accN (b.drop k) m j) (byteN (b.drop k) (j + 1) % 64) (by omega) (by omega)
        try simp -implicitDefEqProofs only [go_sem, show Nat.min 6 64 = 6 from rfl, e1, List.getElem?_eq_getElem hidx, eb, e4, e5, e6, e7]
        repeat refine ⟨sc, ?_⟩
        try exact sf
        exact ⟨j + 1, by rw [IntWalk.i64_in _ (by omega)]; rfl, ⟨hjK, by simp only [contB, hc, h3, Bool.and_true]⟩, by omega⟩
theorem r_s_GetSign {Te : TE} (c_s_l1In : C_s_l1In Te) (c_s_l2Len : C_s_l2Len Te) (c_s_SignOk : C_s_SignOk Te) (c_s_PutSign : C_s_PutSign Te) : C_s_GetSign (RF Te x_s_GetSign) := by
  intro b i hb
  refine run0 ?_
  by_cases hi : 0 ≤ i ∧ i < b.length
  · obtain ⟨k, rfl⟩ : ∃ k : Nat, i = k := ⟨i.toNat, by omega⟩
    have hk : k < b.length := by omega
    have hk' : ((k : Int)).toNat < b.length := by omega
    have hld : (b.drop k).length = b.length - k := List.length_drop
    have w1 : IntKind.i64.wrap ((b.length : Int) - 1) = (b.length : Int) - 1 := IntWalk.i64_in _ (by omega)
    have w2 : IntKind.i64.wrap ((b.length : Int) - (k : Int)) = (b.length : Int) - (k : Int) := IntWalk.i64_in _ (by omega)
    have g : win (k : Int) 0 ((b.length : Int) - 1) = true := by simp only [win, Bool.and_eq_true, decide_eq_true_eq]; omega
    have eb : b[k].toNat = byteN (b.drop k) 0 := by
      simp only [byteN, List.getD_eq_getElem?_getD, List.getElem?_drop, Nat.add_zero]
      rw [List.getElem?_eq_getElem hk]
      rfl
    have hlt := byteN_lt (b.drop k) 0
    have w3 : IntKind.i64.wrap ((byteN (b.drop k) 0 : Nat) : Int) = (byteN (b.drop k) 0 : Nat) := IntWalk.i64_in _ (by omega)
    simp -implicitDefEqProofs only [x_s_GetSign, go_sem, w1]
    repeat refine ⟨sc, ?_⟩
    try exact sf
    refine .of (c_s_l1In _ _ _) ?_
    try simp -implicitDefEqProofs only [go_sem, g, List.getElem?_eq_getElem hk]
    repeat refine ⟨sc, ?_⟩
    try exact sf
    refine .of (c_s_l2Len _) ?_
    try simp -implicitDefEqProofs only [go_sem, eb, w2]
    repeat refine ⟨sc, ?_⟩
    try exact sf
    have bad : (l2len (byteN (b.drop k) 0) = 0 ∨ (b.drop k).length < l2len (byteN (b.drop k) 0)) → getSign b k = (0, 0, false) := fun h => getSign_bad hi (by rw [Int.toNat_natCast]; exact sign0 h (by omega))
    cases q0 : (((l2len (byteN (b.drop k) 0) : Nat) : Int) == 0)
    · cases q1 : decide (((l2len (byteN (b.drop k) 0) : Nat) : Int) > (b.length : Int) - (k : Int))
      · have hK0 : l2len (byteN (b.drop k) 0) ≠ 0 := by
          intro e
          rw [e] at q0
          cases q0
        have hKl : l2len (byteN (b.drop k) 0) ≤ (b.drop k).length := by simp only [decide_eq_false_iff_not] at q1; omega
        have tail : ∀ K m : Nat, 1 ≤ K ∧ K ≤ 4 ∧ k + K ≤ b.length → m < 256 → _ := fun K m h1 h2 => s_GetSign_tail c_s_SignOk c_s_PutSign b k K m hb h1 h2
        have eg : getSign b (k : Int) = getTail (b.drop k) k := by
          cases hs : signAt (b.drop k) with
          | none => rw [getTail_none hs, getSign_bad hi (by rw [Int.toNat_natCast]; exact hs)]
          | some d => rw [getTail_some hs, getSign_good hi (by rw [Int.toNat_natCast]; exact hs)]
        rcases l2len_in _ hK0 with ⟨hK, hv⟩ | ⟨hK, hv⟩ | ⟨hK, hv⟩ | ⟨hK, hv⟩
        · rw [hK] at hKl q0 q1
          have ek : decide (((1 : Nat) : Int) > 1) = false := by decide
          rw [eg, tail1 (l := b.drop k) (k : Int) (by omega) hv]
          simp -implicitDefEqProofs only [go_sem, hK, q0, q1, w2, w3, List.getElem?_eq_getElem hk, eb, ek]
          exact tail 1 (byteN (b.drop k) 0) (by omega) (by omega)
        · rw [hK] at hKl q0 q1
          have ek : decide (((2 : Nat) : Int) > 1) = true := by decide
          rw [eg, tail2 (l := b.drop k) (k : Int) (by omega) hv]
          have em : andK .i64 ((byteN (b.drop k) 0 : Nat) : Int) ((31 : Nat) : Int) = ((byteN (b.drop k) 0 % 32 : Nat) : Int) := and_mask _ 5 hlt (by decide)
          have ew : IntKind.u64.wrap ((2 : Nat) : Int) = ((2 : Nat) : Int) := by decide
          have ef : Int.fdiv 127 (2 ^ Nat.min 2 64) = ((31 : Nat) : Int) := by decide
          simp -implicitDefEqProofs only [go_sem, hK, q0, q1, w2, w3, List.getElem?_eq_getElem hk, eb, ek, ew, ef, em]
          exact tail 2 (byteN (b.drop k) 0 % 32) (by omega) (by omega)
        · rw [hK] at hKl q0 q1
          have ek : decide (((3 : Nat) : Int) > 1) = true := by decide
          rw [eg, tail3 (l := b.drop k) (k : Int) (by omega) hv]
          have em : andK .i64 ((byteN (b.drop k) 0 : Nat) : Int) ((15 : Nat) : Int) = ((byteN (b.drop k) 0 % 16 : Nat) : Int) := and_mask _ 4 hlt (by decide)
          have ew : IntKind.u64.wrap ((3 : Nat) : Int) = ((3 : Nat) : Int) := by decide
          have ef : Int.fdiv 127 (2 ^ Nat.min 3 64) = ((15 : Nat) : Int) := by decide
          simp -implicitDefEqProofs only [go_sem, hK, q0, q1, w2, w3, List.getElem?_eq_getElem hk, eb, ek, ew, ef, em]
          exact tail 3 (byteN (b.drop k) 0 % 16) (by omega) (by omega)
        · rw [hK] at hKl q0 q1
          have ek : decide (((4 : Nat) : Int) > 1) = true := by decide
          rw [eg, tail4 (l := b.drop k) (k : Int) (by omega) hv]
          have em : andK .i64 ((byteN (b.drop k) 0 : Nat) : Int) ((7 : Nat) : Int) = ((byteN (b.drop k) 0 % 8 : Nat) : Int) := and_mask _ 3 hlt (by decide)
          have ew : IntKind.u64.wrap ((4 : Nat) : Int) = ((4 : Nat) : Int) := by decide
          have ef : Int.fdiv 127 (2 ^ Nat.min 4 64) = ((7 : Nat) : Int) := by decide
          simp -implicitDefEqProofs only [go_sem, hK, q0, q1, w2, w3, List.getElem?_eq_getElem hk, eb, ek, ew, ef, em]
          exact tail 4 (byteN (b.drop k) 0 % 8) (by omega) (by omega)
      · have e := bad (.inr (by simp only [decide_eq_true_eq] at q1; omega))
        try simp -implicitDefEqProofs only [go_sem, q0, q1, w2, e]
        repeat refine ⟨sc, ?_⟩
        try exact sf
    · have e := bad (.inl (by have := eq_of_beq q0; omega))
      try simp -implicitDefEqProofs only [go_sem, q0, e]
      repeat refine ⟨sc, ?_⟩
      try exact sf
  · have e := getSign_no hi
    have w1 : IntKind.i64.wrap ((b.length : Int) - 1) = (b.length : Int) - 1 := IntWalk.i64_in _ (by omega)
    have g : win i 0 ((b.length : Int) - 1) = false := by
      simp only [win, Bool.and_eq_false_imp, decide_eq_true_eq, decide_eq_false_iff_not]
      omega
    simp -implicitDefEqProofs only [x_s_GetSign, go_sem, w1]
    repeat refine ⟨sc, ?_⟩
    try exact sf
    refine .of (c_s_l1In _ _ _) ?_
    try simp -implicitDefEqProofs only [go_sem, g, e]
    repeat refine ⟨sc, ?_⟩
    try exact sf
end Go.X

/- Vb -/
namespace Go.X
set_option maxRecDepth 100000
set_option maxHeartbeats 8000000
def pairSign (hi lo : Int) : Int × Bool := if (hi == 164 && win lo 161 243) = true then (12353 + lo - 161, true) else if (hi == 165 && win lo 161 246) = true then (12449 + lo - 161, true) else (0, false)
def eucSign (b : List UInt8) (i : Int) : Int × Int × Bool :=
  if 0 ≤ i ∧ i < b.length then
    (if byteN (b.drop i.toNat) 0 < 128 then (((byteN (b.drop i.toNat) 0 : Nat) : Int), i + 1, true)
    else if i + 1 < b.length ∧ (pairSign (byteN (b.drop i.toNat) 0 : Nat) (byteN (b.drop i.toNat) 1 : Nat)).2 = true then ((pairSign (byteN (b.drop i.toNat) 0 : Nat) (byteN (b.drop i.toNat) 1 : Nat)).1, i + 2, true) else (0, 0, false))
  else (0, 0, false)
theorem euc_no {b : List UInt8} {i : Int} (h : ¬ (0 ≤ i ∧ i < b.length)) : eucSign b i = (0, 0, false) := if_neg h
theorem euc_one {b : List UInt8} {i : Int} (h : 0 ≤ i ∧ i < b.length) (h1 : byteN (b.drop i.toNat) 0 < 128) : eucSign b i = (((byteN (b.drop i.toNat) 0 : Nat) : Int), i + 1, true) := by rw [eucSign, if_pos h, if_pos h1]
theorem euc_end {b : List UInt8} {i : Int} (h : 0 ≤ i ∧ i < b.length) (h1 : ¬ byteN (b.drop i.toNat) 0 < 128) (h2 : ¬ i + 1 < b.length) : eucSign b i = (0, 0, false) := by rw [eucSign, if_pos h, if_neg h1, if_neg (fun q => h2 q.1)]
theorem euc_bad {b : List UInt8} {i : Int} (h : 0 ≤ i ∧ i < b.length) (h1 : ¬ byteN (b.drop i.toNat) 0 < 128) (h2 : (pairSign (byteN (b.drop i.toNat) 0 : Nat) (byteN (b.drop i.toNat) 1 : Nat)).2 = false) : eucSign b i = (0, 0, false) := by rw [eucSign, if_pos h, if_neg h1, if_neg (fun q => by rw [h2] at q; cases q.2)]
theorem euc_two {b : List UInt8} {i : Int} (h : 0 ≤ i ∧ i < b.length) (h1 : ¬ byteN (b.drop i.toNat) 0 < 128) (h3 : i + 1 < b.length) (h2 : (pairSign (byteN (b.drop i.toNat) 0 : Nat) (byteN (b.drop i.toNat) 1 : Nat)).2 = true) : eucSign b i = ((pairSign (byteN (b.drop i.toNat) 0 : Nat) (byteN (b.drop i.toNat) 1 : Nat)).1, i + 2, true) := by rw [eucSign, if_pos h, if_neg h1, if_pos ⟨h3, h2⟩]
theorem byteN_drop {b : List UInt8} {k j : Nat} (h : k + j < b.length) : b[k + j].toNat = byteN (b.drop k) j := by
  simp only [byteN, List.getD_eq_getElem?_getD, List.getElem?_drop]
  rw [List.getElem?_eq_getElem h]
  rfl
def x_i_PairSign : FnX := ⟨26, [.tmp 4, .tmp 5],
  .q [.i 4 0, .F 5]
 (.seq (.block 0 (.q [.m 7 0, .B 8 .eql 7 164, .m 9 8, ⟨(some (9, true)), some 10, 10, .mv (.t 1)⟩, ⟨(some (9, true)), some 11, 11, .call 25 [0, 0, 0] [(.t 10), (.i 161), (.i 243)]⟩, .a 12 9 11, .m 6 12]
 (.cond 6 (.q [.m 13 1, .op 14 (.bin .add (.i 12353) (.t 13)), .B 15 .sub 14 161, .m 4 15, .T 5]
 .ret) (.q [.m 17 0, .B 18 .eql 17 165, .m 19 18, ⟨(some (19, true)), some 20, 20, .mv (.t 1)⟩, ⟨(some (19, true)), some 21, 21, .call 25 [0, 0, 0] [(.t 20), (.i 161), (.i 246)]⟩, .a 22 19 21, .m 16 22]
 (.c 16 (.q [.m 23 1, .op 24 (.bin .add (.i 12449) (.t 23)), .B 25 .sub 24 161, .m 4 25, .T 5]
 .ret))))))
 (.q [.i 4 0, .F 5]
 .ret))⟩
abbrev C_i_PairSign (Te : TE) : Prop := ∀ (hi lo : Int) (h : 0 ≤ lo ∧ lo ≤ 255), Te 166 [.one (iT hi), .one (iT lo)] ⟨[.one (iT (pairSign hi lo).1), .one (bT (pairSign hi lo).2)], [[iT hi], [iT lo]]⟩
theorem r_i_PairSign {Te : TE} (c_i_within : C_i_within Te) : C_i_PairSign (RF Te x_i_PairSign) := by
  intro hi lo h
  refine run0 ?_
  have w1 : IntKind.i64.wrap (12353 + lo) = 12353 + lo := IntWalk.i64_in _ (by omega)
  have w2 : IntKind.i64.wrap (12353 + lo - 161) = 12353 + lo - 161 := IntWalk.i64_in _ (by omega)
  have w3 : IntKind.i64.wrap (12449 + lo) = 12449 + lo := IntWalk.i64_in _ (by omega)
  have w4 : IntKind.i64.wrap (12449 + lo - 161) = 12449 + lo - 161 := IntWalk.i64_in _ (by omega)
  have no : ∀ a b c d : Bool, (a && b) = false → (c && d) = false → True := fun _ _ _ _ _ _ => trivial
  cases g1 : (hi == 164)
  · cases g3 : (hi == 165)
    · have e : pairSign hi lo = (0, false) := by rw [pairSign, g1, g3]; rfl
      simp -implicitDefEqProofs only [x_i_PairSign, go_sem, g1, g3, e]
      repeat refine ⟨sc, ?_⟩
      try exact sf
    · simp -implicitDefEqProofs only [x_i_PairSign, go_sem, g1, g3]
      repeat refine ⟨sc, ?_⟩
      try exact sf
      refine .of (c_i_within _ _ _) ?_
      try simp -implicitDefEqProofs only [go_sem]
      repeat refine ⟨sc, ?_⟩
      try exact sf
      cases g4 : win lo 161 246
      · have e : pairSign hi lo = (0, false) := by rw [pairSign, g1, g3, g4]; rfl
        try simp -implicitDefEqProofs only [go_sem, e]
        repeat refine ⟨sc, ?_⟩
        try exact sf
      · have e : pairSign hi lo = (12449 + lo - 161, true) := by rw [pairSign, g1, g3, g4]; rfl
        try simp -implicitDefEqProofs only [go_sem, e, w3, w4]
        repeat refine ⟨sc, ?_⟩
        try exact sf
  · have g3 : (hi == 165) = false := by have := eq_of_beq g1; subst this; rfl
    simp -implicitDefEqProofs only [x_i_PairSign, go_sem, g1]
    repeat refine ⟨sc, ?_⟩
    try exact sf
    refine .of (c_i_within _ _ _) ?_
    try simp -implicitDefEqProofs only [go_sem]
    repeat refine ⟨sc, ?_⟩
    try exact sf
    cases g4 : win lo 161 243
    · have e : pairSign hi lo = (0, false) := by rw [pairSign, g1, g3, g4]; rfl
      try simp -implicitDefEqProofs only [go_sem, g3, e]
      repeat refine ⟨sc, ?_⟩
      try exact sf
    · have e : pairSign hi lo = (12353 + lo - 161, true) := by rw [pairSign, g1, g4]; rfl
      try simp -implicitDefEqProofs only [go_sem, e, w1, w2]
      repeat refine ⟨sc, ?_⟩
      try exact sf
def x_s_PairSign : FnX := ⟨26, [.tmp 4, .tmp 5],
  .q [.i 4 0, .F 5]
 (.seq (.block 0 (.q [.m 7 0, .B 8 .eql 7 164, .m 9 8, ⟨(some (9, true)), some 10, 10, .mv (.t 1)⟩, ⟨(some (9, true)), some 11, 11, .call 23 [0, 0, 0] [(.t 10), (.i 161), (.i 243)]⟩, .a 12 9 11, .m 6 12]
 (.cond 6 (.q [.m 13 1, .op 14 (.bin .add (.i 12353) (.t 13)), .B 15 .sub 14 161, .m 4 15, .T 5]
 .ret) (.q [.m 17 0, .B 18 .eql 17 165, .m 19 18, ⟨(some (19, true)), some 20, 20, .mv (.t 1)⟩, ⟨(some (19, true)), some 21, 21, .call 23 [0, 0, 0] [(.t 20), (.i 161), (.i 246)]⟩, .a 22 19 21, .m 16 22]
 (.c 16 (.q [.m 23 1, .op 24 (.bin .add (.i 12449) (.t 23)), .B 25 .sub 24 161, .m 4 25, .T 5]
 .ret))))))
 (.q [.i 4 0, .F 5]
 .ret))⟩
abbrev C_s_PairSign (Te : TE) : Prop := ∀ (hi lo : Int) (h : 0 ≤ lo ∧ lo ≤ 255), Te 159 [.one (iT hi), .one (iT lo)] ⟨[.one (iT (pairSign hi lo).1), .one (bT (pairSign hi lo).2)], [[iT hi], [iT lo]]⟩
theorem r_s_PairSign {Te : TE} (c_s_l1In : C_s_l1In Te) : C_s_PairSign (RF Te x_s_PairSign) := by
  intro hi lo h
  refine run0 ?_
  have w1 : IntKind.i64.wrap (12353 + lo) = 12353 + lo := IntWalk.i64_in _ (by omega)
  have w2 : IntKind.i64.wrap (12353 + lo - 161) = 12353 + lo - 161 := IntWalk.i64_in _ (by omega)
  have w3 : IntKind.i64.wrap (12449 + lo) = 12449 + lo := IntWalk.i64_in _ (by omega)
  have w4 : IntKind.i64.wrap (12449 + lo - 161) = 12449 + lo - 161 := IntWalk.i64_in _ (by omega)
  have no : ∀ a b c d : Bool, (a && b) = false → (c && d) = false → True := fun _ _ _ _ _ _ => trivial
  cases g1 : (hi == 164)
  · cases g3 : (hi == 165)
    · have e : pairSign hi lo = (0, false) := by rw [pairSign, g1, g3]; rfl
      simp -implicitDefEqProofs only [x_s_PairSign, go_sem, g1, g3, e]
      repeat refine ⟨sc, ?_⟩
      try exact sf
    · simp -implicitDefEqProofs only [x_s_PairSign, go_sem, g1, g3]
      repeat refine ⟨sc, ?_⟩
      try exact sf
      refine .of (c_s_l1In _ _ _) ?_
      try simp -implicitDefEqProofs only [go_sem]
      repeat refine ⟨sc, ?_⟩
      try exact sf
      cases g4 : win lo 161 246
      · have e : pairSign hi lo = (0, false) := by rw [pairSign, g1, g3, g4]; rfl
        try simp -implicitDefEqProofs only [go_sem, e]
        repeat refine ⟨sc, ?_⟩
        try exact sf
      · have e : pairSign hi lo = (12449 + lo - 161, true) := by rw [pairSign, g1, g3, g4]; rfl
        try simp -implicitDefEqProofs only [go_sem, e, w3, w4]
        repeat refine ⟨sc, ?_⟩
        try exact sf
  · have g3 : (hi == 165) = false := by have := eq_of_beq g1; subst this; rfl
    simp -implicitDefEqProofs only [x_s_PairSign, go_sem, g1]
    repeat refine ⟨sc, ?_⟩
    try exact sf
    refine .of (c_s_l1In _ _ _) ?_
    try simp -implicitDefEqProofs only [go_sem]
    repeat refine ⟨sc, ?_⟩
    try exact sf
    cases g4 : win lo 161 243
    · have e : pairSign hi lo = (0, false) := by rw [pairSign, g1, g3, g4]; rfl
      try simp -implicitDefEqProofs only [go_sem, g3, e]
      repeat refine ⟨sc, ?_⟩
      try exact sf
    · have e : pairSign hi lo = (12353 + lo - 161, true) := by rw [pairSign, g1, g4]; rfl
      try simp -implicitDefEqProofs only [go_sem, e, w1, w2]
      repeat refine ⟨sc, ?_⟩
      try exact sf
def x_i_EucSign : FnX := ⟨54, [.tmp 4, .tmp 5, .tmp 6],
  .q [.i 4 0, .i 5 0, .F 6]
 (.seq (.q [.m 9 1, .B 10 .lss 9 0, .m 11 10, ⟨(some (11, false)), some 12, 12, .mv (.t 1)⟩, ⟨(some (11, false)), some 13, 13, .mv (.t 0)⟩, ⟨(some (11, false)), some 14, 14, .len (.t 13)⟩, ⟨(some (11, false)), some 15, 15, .bin .geq (.t 12) (.t 14)⟩, .r 16 11 15]
 (.c 16 (.q [.i 4 0, .i 5 0, .F 6]
 .ret)))
 (.seq (.q [.m 17 0, .m 18 1, .x 19 1 17 18, .l 20 19, .op 21 (.bin .leq (.t 20) (.k (.one (.pv (.int .u8 127)))))]
 (.c 21 (.q [.m 22 0, .m 23 1, .x 24 1 22 23, .l 25 24, .op 26 (.conv (.int .i64) (.t 25)), .m 27 1, .B 28 .add 27 1, .m 4 26, .m 5 28, .T 6]
 .ret)))
 (.seq (.q [.m 29 1, .B 30 .add 29 1, .m 31 0, .n 32 31, .b 33 .eql 30 32]
 (.c 33 (.q [.i 4 0, .i 5 0, .F 6]
 .ret)))
 (.seq (.draw [.m 35 0, .m 36 1, .x 37 1 35 36, .l 38 37, .op 39 (.conv (.int .i64) (.t 38)), .m 40 0, .m 41 1, .B 42 .add 41 1, .x 43 1 40 42, .l 44 43, .op 45 (.conv (.int .i64) (.t 44)), .c 46 166 [39, 45], .m 34 46, .e 47 34 0, .e 48 34 1, .m 7 47, .m 8 48] [[], [], [0, 1], [2], [3], [], [], [6], [5, 7], [8], [9], [4, 10], [11], [12], [12], [13, 11, 0, 1, 2, 3, 4, 5, 6, 7, 8, 9, 10, 11, 12, 13], [14, 15, 0, 1, 2, 3, 4, 5, 6, 7, 8, 9, 10, 11, 12, 13, 14, 15]])
 (.seq (.q [.m 49 8, .N 50 49]
 (.c 50 (.q [.i 4 0, .i 5 0, .F 6]
 .ret)))
 (.q [.m 51 7, .m 52 1, .B 53 .add 52 2, .m 4 51, .m 5 53, .T 6]
 .ret))))))⟩
abbrev C_i_EucSign (Te : TE) : Prop := ∀ (b : List UInt8) (i : Int) (hb : b.length ≤ 2 ^ 30), Te 141 [.one (slT false 1 uR b), .one (iT i)] ⟨[.one (iT (eucSign b i).1), .one (iT (eucSign b i).2.1), .one (bT (eucSign b i).2.2)], [[slT false 1 uR b], [iT i]]⟩
theorem r_i_EucSign {Te : TE} (c_i_PairSign : C_i_PairSign Te) : C_i_EucSign (RF Te x_i_EucSign) := by
  intro b i hb
  refine run0 ?_
  by_cases hi : 0 ≤ i ∧ i < b.length
  · obtain ⟨k, rfl⟩ : ∃ k : Nat, i = k := ⟨i.toNat, by omega⟩
    have hk : k < b.length := by omega
    have eb : b[k].toNat = byteN (b.drop k) 0 := byteN_drop (j := 0) hk
    have hlt := byteN_lt (b.drop k) 0
    have hlt1 := byteN_lt (b.drop k) 1
    have w3 : IntKind.i64.wrap ((byteN (b.drop k) 0 : Nat) : Int) = (byteN (b.drop k) 0 : Nat) := IntWalk.i64_in _ (by omega)
    have w4 : IntKind.i64.wrap ((byteN (b.drop k) 1 : Nat) : Int) = (byteN (b.drop k) 1 : Nat) := IntWalk.i64_in _ (by omega)
    have w5 : IntKind.i64.wrap ((k : Int) + 1) = (k : Int) + 1 := IntWalk.i64_in _ (by omega)
    have w6 : IntKind.i64.wrap ((k : Int) + 2) = (k : Int) + 2 := IntWalk.i64_in _ (by omega)
    have w7 : ((k : Int) + 1).toNat = k + 1 := by omega
    have q8 : decide ((k : Int) < 0) = false := decide_eq_false (by omega)
    have q9 : decide ((k : Int) ≥ (b.length : Int)) = false := decide_eq_false (by omega)
    cases q : decide (((byteN (b.drop k) 0 : Nat) : Int) ≤ 127)
    · have h1 : ¬ byteN (b.drop ((k : Nat) : Int).toNat) 0 < 128 := by rw [Int.toNat_natCast]; simp only [decide_eq_false_iff_not] at q; omega
      cases q2 : ((k : Int) + 1 == (b.length : Int))
      · have h3 : (k : Int) + 1 < b.length := by
          have : (k : Int) + 1 ≠ (b.length : Int) := by simpa using q2
          omega
        have hk1 : k + 1 < b.length := by omega
        have eb1 : b[k + 1].toNat = byteN (b.drop k) 1 := byteN_drop (j := 1) hk1
        simp -implicitDefEqProofs only [x_i_EucSign, go_sem, q, q2, q8, q9, List.getElem?_eq_getElem hk, eb, w3, w5, w7, List.getElem?_eq_getElem hk1, eb1, w4]
        repeat refine ⟨sc, ?_⟩
        try exact sf
        refine .of (c_i_PairSign _ _ (by omega)) ?_
        try simp -implicitDefEqProofs only [go_sem]
        repeat refine ⟨sc, ?_⟩
        try exact sf
        cases q3 : (pairSign ((byteN (b.drop k) 0 : Nat) : Int) ((byteN (b.drop k) 1 : Nat) : Int)).2
        · have e := euc_bad hi h1 q3
          try simp -implicitDefEqProofs only [go_sem, q3, e]
          repeat refine ⟨sc, ?_⟩
          try exact sf
        · have e := euc_two hi h1 h3 q3
          try simp -implicitDefEqProofs only [go_sem, q3, e, w6]
          repeat refine ⟨sc, ?_⟩
          try exact sf
      · have e := euc_end hi h1 (by have := eq_of_beq q2; omega)
        simp -implicitDefEqProofs only [x_i_EucSign, go_sem, q, q2, q8, q9, List.getElem?_eq_getElem hk, eb, w3, w5, e]
        repeat refine ⟨sc, ?_⟩
        try exact sf
    · have e := euc_one hi (by rw [Int.toNat_natCast]; simp only [decide_eq_true_eq] at q; omega)
      simp -implicitDefEqProofs only [x_i_EucSign, go_sem, q, q8, q9, List.getElem?_eq_getElem hk, eb, w3, w5, e]
      repeat refine ⟨sc, ?_⟩
      try exact sf
  · have e := euc_no hi
    cases q8 : decide (i < 0)
    · have q9 : decide (i ≥ (b.length : Int)) = true := by simp only [decide_eq_false_iff_not] at q8; exact decide_eq_true (by omega)
      simp -implicitDefEqProofs only [x_i_EucSign, go_sem, q8, q9, e]
      repeat refine ⟨sc, ?_⟩
      try exact sf
    · simp -implicitDefEqProofs only [x_i_EucSign, go_sem, q8, e]
      repeat refine ⟨sc, ?_⟩
      try exact sf
def x_s_EucSign : FnX := ⟨52, [.tmp 4, .tmp 5, .tmp 6],
  .q [.i 4 0, .i 5 0, .F 6]
 (.seq (.q [.m 9 1, .m 10 0, .n 11 10, .B 12 .sub 11 1, .op 13 (.call 23 [0, 0, 0] [(.t 9), (.i 0), (.t 12)]), .N 14 13]
 (.c 14 (.q [.i 4 0, .i 5 0, .F 6]
 .ret)))
 (.seq (.q [.m 15 0, .m 16 1, .x 17 1 15 16, .l 18 17, .op 19 (.bin .lss (.t 18) (.k (.one (.pv (.int .u8 128)))))]
 (.c 19 (.q [.m 20 0, .m 21 1, .x 22 1 20 21, .l 23 22, .op 24 (.conv (.int .i64) (.t 23)), .m 25 1, .B 26 .add 25 1, .m 4 24, .m 5 26, .T 6]
 .ret)))
 (.seq (.q [.m 27 1, .B 28 .add 27 1, .m 29 0, .n 30 29, .b 31 .geq 28 30]
 (.c 31 (.q [.i 4 0, .i 5 0, .F 6]
 .ret)))
 (.seq (.draw [.m 33 0, .m 34 1, .x 35 1 33 34, .l 36 35, .op 37 (.conv (.int .i64) (.t 36)), .m 38 0, .m 39 1, .B 40 .add 39 1, .x 41 1 38 40, .l 42 41, .op 43 (.conv (.int .i64) (.t 42)), .c 44 159 [37, 43], .m 32 44, .e 45 32 0, .e 46 32 1, .m 7 45, .m 8 46] [[], [], [0, 1], [2], [3], [], [], [6], [5, 7], [8], [9], [4, 10], [11], [12], [12], [13, 11, 0, 1, 2, 3, 4, 5, 6, 7, 8, 9, 10, 11, 12, 13], [14, 15, 0, 1, 2, 3, 4, 5, 6, 7, 8, 9, 10, 11, 12, 13, 14, 15]])
 (.seq (.q [.m 47 8, .N 48 47]
 (.c 48 (.q [.i 4 0, .i 5 0, .F 6]
 .ret)))
 (.q [.m 49 7, .m 50 1, .B 51 .add 50 2, .m 4 49, .m 5 51, .T 6]
 .ret))))))⟩
abbrev C_s_EucSign (Te : TE) : Prop := ∀ (b : List UInt8) (i : Int) (hb : b.length ≤ 2 ^ 30), Te 135 [.one (slT false 1 uR b), .one (iT i)] ⟨[.one (iT (eucSign b i).1), .one (iT (eucSign b i).2.1), .one (bT (eucSign b i).2.2)], [[slT false 1 uR b], [iT i]]⟩
theorem r_s_EucSign {Te : TE} (c_s_l1In : C_s_l1In Te) (c_s_PairSign : C_s_PairSign Te) : C_s_EucSign (RF Te x_s_EucSign) := by
  intro b i hb
  refine run0 ?_
  have w1 : IntKind.i64.wrap ((b.length : Int) - 1) = (b.length : Int) - 1 := IntWalk.i64_in _ (by omega)
  by_cases hi : 0 ≤ i ∧ i < b.length
  · obtain ⟨k, rfl⟩ : ∃ k : Nat, i = k := ⟨i.toNat, by omega⟩
    have hk : k < b.length := by omega
    have eb : b[k].toNat = byteN (b.drop k) 0 := byteN_drop (j := 0) hk
    have hlt := byteN_lt (b.drop k) 0
    have hlt1 := byteN_lt (b.drop k) 1
    have w3 : IntKind.i64.wrap ((byteN (b.drop k) 0 : Nat) : Int) = (byteN (b.drop k) 0 : Nat) := IntWalk.i64_in _ (by omega)
    have w4 : IntKind.i64.wrap ((byteN (b.drop k) 1 : Nat) : Int) = (byteN (b.drop k) 1 : Nat) := IntWalk.i64_in _ (by omega)
    have w5 : IntKind.i64.wrap ((k : Int) + 1) = (k : Int) + 1 := IntWalk.i64_in _ (by omega)
    have w6 : IntKind.i64.wrap ((k : Int) + 2) = (k : Int) + 2 := IntWalk.i64_in _ (by omega)
    have w7 : ((k : Int) + 1).toNat = k + 1 := by omega
    have g : win (k : Int) 0 ((b.length : Int) - 1) = true := by simp only [win, Bool.and_eq_true, decide_eq_true_eq]; omega
    simp -implicitDefEqProofs only [x_s_EucSign, go_sem, w1]
    repeat refine ⟨sc, ?_⟩
    try exact sf
    refine .of (c_s_l1In _ _ _) ?_
    try simp -implicitDefEqProofs only [go_sem, g, List.getElem?_eq_getElem hk, eb, w3]
    repeat refine ⟨sc, ?_⟩
    try exact sf
    cases q : decide (((byteN (b.drop k) 0 : Nat) : Int) < 128)
    · have h1 : ¬ byteN (b.drop ((k : Nat) : Int).toNat) 0 < 128 := by rw [Int.toNat_natCast]; simp only [decide_eq_false_iff_not] at q; omega
      cases q2 : decide ((k : Int) + 1 ≥ (b.length : Int))
      · have h3 : (k : Int) + 1 < b.length := by simp only [decide_eq_false_iff_not] at q2; omega
        have hk1 : k + 1 < b.length := by omega
        have eb1 : b[k + 1].toNat = byteN (b.drop k) 1 := byteN_drop (j := 1) hk1
        try simp -implicitDefEqProofs only [go_sem, q, q2, List.getElem?_eq_getElem hk, eb, w3, w5, w7, List.getElem?_eq_getElem hk1, eb1, w4]
        repeat refine ⟨sc, ?_⟩
        try exact sf
        refine .of (c_s_PairSign _ _ (by omega)) ?_
        try simp -implicitDefEqProofs only [go_sem]
        repeat refine ⟨sc, ?_⟩
        try exact sf
        cases q3 : (pairSign ((byteN (b.drop k) 0 : Nat) : Int) ((byteN (b.drop k) 1 : Nat) : Int)).2
        · have e := euc_bad hi h1 q3
          try simp -implicitDefEqProofs only [go_sem, q3, e]
          repeat refine ⟨sc, ?_⟩
          try exact sf
        · have e := euc_two hi h1 h3 q3
          try simp -implicitDefEqProofs only [go_sem, q3, e, w6]
          repeat refine ⟨sc, ?_⟩
          try exact sf
      · have e := euc_end hi h1 (by simp only [decide_eq_true_eq] at q2; omega)
        try simp -implicitDefEqProofs only [go_sem, q, q2, List.getElem?_eq_getElem hk, eb, w3, w5, e]
        repeat refine ⟨sc, ?_⟩
        try exact sf
    · have e := euc_one hi (by rw [Int.toNat_natCast]; simp only [decide_eq_true_eq] at q; omega)
      try simp -implicitDefEqProofs only [go_sem, q, List.getElem?_eq_getElem hk, eb, w3, w5, e]
      repeat refine ⟨sc, ?_⟩
      try exact sf
  · have e := euc_no hi
    have g : win i 0 ((b.length : Int) - 1) = false := by
      simp only [win, Bool.and_eq_false_imp, decide_eq_true_eq, decide_eq_false_iff_not]
      omega
    simp -implicitDefEqProofs only [x_s_EucSign, go_sem, w1]
    repeat refine ⟨sc, ?_⟩
    try exact sf
    refine .of (c_s_l1In _ _ _) ?_
    try simp -implicitDefEqProofs only [go_sem, g, e]
    repeat refine ⟨sc, ?_⟩
    try exact sf
end Go.X

/- Vc -/
namespace Go.X
set_option maxRecDepth 100000
set_option maxHeartbeats 8000000
def signIn (cs : Int) (b : List UInt8) (i : Int) : Int × Int × Bool := if cs = 0 then getSign b i else if cs = 5 then eucSign b i else ((byteSign cs (byteN b i.toNat : Nat)).1, i + 1, (byteSign cs (byteN b i.toNat : Nat)).2)
theorem getSign_next {b : List UInt8} {i : Int} (h : (getSign b i).2.2 = true) : i < (getSign b i).2.1 ∧ (getSign b i).2.1 ≤ b.length := by
  by_cases hi : 0 ≤ i ∧ i < b.length
  · have hne : b.drop i.toNat ≠ [] := by
      intro e
      have := congrArg List.length e
      rw [List.length_drop] at this
      simp only [List.length_nil] at this
      omega
    cases hs : signAt (b.drop i.toNat) with
    | none => rw [getSign_bad hi hs] at h; cases h
    | some d =>
      rw [getSign_good hi hs]
      have hw := Lib.decodeL_width (b.drop i.toNat)
      have hl := Lib.decodeL_le (b.drop i.toNat) hne
      rw [List.length_drop] at hl
      have hd : Lib.decodeL (b.drop i.toNat) = d := by
        unfold signAt at hs
        split at hs
        · cases hs
        · exact Option.some.inj hs
      rw [hd] at hw hl
      simp only
      omega
  · rw [getSign_no hi] at h; cases h
theorem eucSign_next {b : List UInt8} {i : Int} (h : (eucSign b i).2.2 = true) : i < (eucSign b i).2.1 ∧ (eucSign b i).2.1 ≤ b.length := by
  unfold eucSign at h ⊢
  split at h
  · rename_i hi
    rw [if_pos hi]
    split at h
    · rename_i h1
      rw [if_pos h1]
      simp only
      omega
    · rename_i h1
      rw [if_neg h1]
      split at h
      · rename_i h2
        rw [if_pos h2]
        simp only
        omega
      · cases h
  · cases h
theorem signIn_next {cs : Int} {b : List UInt8} {i : Int} (hi : 0 ≤ i ∧ i < b.length) (h : (signIn cs b i).2.2 = true) : i < (signIn cs b i).2.1 ∧ (signIn cs b i).2.1 ≤ b.length := by
  unfold signIn at h ⊢
  split at h
  · rename_i q
    rw [if_pos q]
    exact getSign_next h
  · rename_i q
    rw [if_neg q]
    split at h
    · rename_i q2
      rw [if_pos q2]
      exact eucSign_next h
    · rename_i q2
      rw [if_neg q2]
      simp only
      omega
def decGo (cs : Int) (b : List UInt8) : Nat → Int → List UInt8 → ByteArray × Bool
  | 0, _, out => (⟨⟨out⟩⟩, true)
  | fu + 1, i, out => if i < b.length then (if (signIn cs b i).2.2 = true then decGo cs b fu (signIn cs b i).2.1 (putSign out (signIn cs b i).1) else (⟨#[]⟩, false)) else (⟨⟨out⟩⟩, true)
theorem dec_end {cs : Int} {b : List UInt8} {i : Int} (h : ¬ i < b.length) (fu : Nat) (out : List UInt8) : decGo cs b fu i out = (⟨⟨out⟩⟩, true) := by
  cases fu with
  | zero => rfl
  | succ f => rw [decGo, if_neg h]
theorem dec_bad {cs : Int} {b : List UInt8} {i : Int} (h : i < b.length) (h2 : (signIn cs b i).2.2 = false) (fu : Nat) (out : List UInt8) : decGo cs b (fu + 1) i out = (⟨#[]⟩, false) := by rw [decGo, if_pos h, h2]; rfl
theorem dec_step {cs : Int} {b : List UInt8} {i : Int} (h : i < b.length) (h2 : (signIn cs b i).2.2 = true) (fu : Nat) (out : List UInt8) : decGo cs b (fu + 1) i out = decGo cs b fu (signIn cs b i).2.1 (putSign out (signIn cs b i).1) := by rw [decGo, if_pos h, if_pos h2]
def decode (cs : Int) (b : List UInt8) : ByteArray × Bool := if win cs 0 5 = true then decGo cs b b.length 0 [] else (⟨#[]⟩, false)
theorem bytesOf_uD (l : List UInt8) : bytesOf (l.map uR) = l := bytesOf_uR l
def x_i_isSet : FnX := ⟨5, [.tmp 2],
  .q [.F 2]
 (.q [.m 3 0, .op 4 (.call 25 [0, 0, 0] [(.t 3), (.i 0), (.i 5)]), .m 2 4]
 .ret)⟩
abbrev C_i_isSet (Te : TE) : Prop := ∀ (cs : Int), Te 103 [.one (iT cs)] ⟨[.one (bT (win cs 0 5))], [[iT cs]]⟩
theorem r_i_isSet {Te : TE} (c_i_within : C_i_within Te) : C_i_isSet (RF Te x_i_isSet) := by
  intro cs
  refine run0 ?_
  simp -implicitDefEqProofs only [x_i_isSet, go_sem]
  repeat refine ⟨sc, ?_⟩
  try exact sf
  refine .of (c_i_within _ _ _) ?_
  try simp -implicitDefEqProofs only [go_sem]
  repeat refine ⟨sc, ?_⟩
  try exact sf
def x_s_l5Cs : FnX := ⟨5, [.tmp 2],
  .q [.F 2]
 (.q [.m 3 0, .op 4 (.call 23 [0, 0, 0] [(.t 3), (.i 0), (.i 5)]), .m 2 4]
 .ret)⟩
abbrev C_s_l5Cs (Te : TE) : Prop := ∀ (cs : Int), Te 94 [.one (iT cs)] ⟨[.one (bT (win cs 0 5))], [[iT cs]]⟩
theorem r_s_l5Cs {Te : TE} (c_s_l1In : C_s_l1In Te) : C_s_l5Cs (RF Te x_s_l5Cs) := by
  intro cs
  refine run0 ?_
  simp -implicitDefEqProofs only [x_s_l5Cs, go_sem]
  repeat refine ⟨sc, ?_⟩
  try exact sf
  refine .of (c_s_l1In _ _ _) ?_
  try simp -implicitDefEqProofs only [go_sem]
  repeat refine ⟨sc, ?_⟩
  try exact sf
def x_i_signIn : FnX := ⟨42, [.tmp 6, .tmp 7, .tmp 8],
  .q [.i 6 0, .i 7 0, .F 8]
 (.seq (.q [.m 11 0]
 (.block 0 (.q [.B 13 .eql 11 0, .m 12 13]
 (.cond 12 (.q [.m 14 1, .m 15 2, .c 16 140 [14, 15], .e 17 16 0, .e 18 16 1, .e 19 16 2, .m 6 17, .m 7 18, .m 8 19]
 .ret) (.q [.B 21 .eql 11 5, .m 20 21]
 (.c 20 (.q [.m 22 1, .m 23 2, .c 24 141 [22, 23], .e 25 24 0, .e 26 24 1, .e 27 24 2, .m 6 25, .m 7 26, .m 8 27]
 .ret)))))))
 (.q [.m 29 0, .m 30 1, .m 31 2, .x 32 1 30 31, .l 33 32, .op 34 (.conv (.int .i64) (.t 33)), .c 35 142 [29, 34], .m 28 35, .e 36 28 0, .e 37 28 1, .m 9 36, .m 10 37]
 (.q [.m 38 9, .m 39 2, .B 40 .add 39 1, .m 41 10, .m 6 38, .m 7 40, .m 8 41]
 .ret)))⟩
abbrev C_i_signIn (Te : TE) : Prop := ∀ (cs : Int) (b : List UInt8) (i : Int) (hb : b.length ≤ 2 ^ 30) (hi : 0 ≤ i ∧ i < b.length), Te 104 [.one (iT cs), .one (slT false 1 uR b), .one (iT i)] ⟨[.one (iT (signIn cs b i).1), .one (iT (signIn cs b i).2.1), .one (bT (signIn cs b i).2.2)], [[iT cs], [slT false 1 uR b], [iT i]]⟩
theorem r_i_signIn {Te : TE} (c_i_GetSign : C_i_GetSign Te) (c_i_EucSign : C_i_EucSign Te) (c_i_ByteSign : C_i_ByteSign Te) : C_i_signIn (RF Te x_i_signIn) := by
  intro cs b i hb hi
  refine run0 ?_
  cases g0 : (cs == 0)
  · have n0 : ¬ cs = 0 := by simpa using g0
    cases g5 : (cs == 5)
    · have n5 : ¬ cs = 5 := by simpa using g5
      have e : signIn cs b i = ((byteSign cs (byteN b i.toNat : Nat)).1, i + 1, (byteSign cs (byteN b i.toNat : Nat)).2) := by rw [signIn, if_neg n0, if_neg n5]
      have hk : i.toNat < b.length := by omega
      have eb : b[i.toNat].toNat = byteN b i.toNat := by
        simp only [byteN, List.getD_eq_getElem?_getD]
        rw [List.getElem?_eq_getElem hk]
        rfl
      have hlt := byteN_lt b i.toNat
      have w1 : IntKind.i64.wrap ((byteN b i.toNat : Nat) : Int) = (byteN b i.toNat : Nat) := IntWalk.i64_in _ (by omega)
      have w2 : IntKind.i64.wrap (i + 1) = i + 1 := IntWalk.i64_in _ (by omega)
      simp -implicitDefEqProofs only [x_i_signIn, go_sem, g0, g5, List.getElem?_eq_getElem hk, eb, w1]
      repeat refine ⟨sc, ?_⟩
      try exact sf
      refine .of (c_i_ByteSign _ _) ?_
      try simp -implicitDefEqProofs only [go_sem, w2, e]
      repeat refine ⟨sc, ?_⟩
      try exact sf
    · have n5 : cs = 5 := eq_of_beq g5
      subst n5
      have e : signIn 5 b i = eucSign b i := rfl
      simp -implicitDefEqProofs only [x_i_signIn, go_sem]
      repeat refine ⟨sc, ?_⟩
      try exact sf
      refine .of (c_i_EucSign b i hb) ?_
      try simp -implicitDefEqProofs only [go_sem, e]
      repeat refine ⟨sc, ?_⟩
      try exact sf
  · have n0 : cs = 0 := eq_of_beq g0
    subst n0
    have e : signIn 0 b i = getSign b i := rfl
    simp -implicitDefEqProofs only [x_i_signIn, go_sem]
    repeat refine ⟨sc, ?_⟩
    try exact sf
    refine .of (c_i_GetSign b i (by omega)) ?_
    try simp -implicitDefEqProofs only [go_sem, e]
    repeat refine ⟨sc, ?_⟩
    try exact sf
def x_s_l5Get : FnX := ⟨42, [.tmp 6, .tmp 7, .tmp 8],
  .q [.i 6 0, .i 7 0, .F 8]
 (.seq (.q [.m 11 0]
 (.block 0 (.q [.B 13 .eql 11 0, .m 12 13]
 (.cond 12 (.q [.m 14 1, .m 15 2, .c 16 134 [14, 15], .e 17 16 0, .e 18 16 1, .e 19 16 2, .m 6 17, .m 7 18, .m 8 19]
 .ret) (.q [.B 21 .eql 11 5, .m 20 21]
 (.c 20 (.q [.m 22 1, .m 23 2, .c 24 135 [22, 23], .e 25 24 0, .e 26 24 1, .e 27 24 2, .m 6 25, .m 7 26, .m 8 27]
 .ret)))))))
 (.q [.m 29 0, .m 30 1, .m 31 2, .x 32 1 30 31, .l 33 32, .op 34 (.conv (.int .i64) (.t 33)), .c 35 136 [29, 34], .m 28 35, .e 36 28 0, .e 37 28 1, .m 9 36, .m 10 37]
 (.q [.m 38 9, .m 39 2, .B 40 .add 39 1, .m 41 10, .m 6 38, .m 7 40, .m 8 41]
 .ret)))⟩
abbrev C_s_l5Get (Te : TE) : Prop := ∀ (cs : Int) (b : List UInt8) (i : Int) (hb : b.length ≤ 2 ^ 30) (hi : 0 ≤ i ∧ i < b.length), Te 95 [.one (iT cs), .one (slT false 1 uR b), .one (iT i)] ⟨[.one (iT (signIn cs b i).1), .one (iT (signIn cs b i).2.1), .one (bT (signIn cs b i).2.2)], [[iT cs], [slT false 1 uR b], [iT i]]⟩
theorem r_s_l5Get {Te : TE} (c_s_GetSign : C_s_GetSign Te) (c_s_EucSign : C_s_EucSign Te) (c_s_ByteSign : C_s_ByteSign Te) : C_s_l5Get (RF Te x_s_l5Get) := by
  intro cs b i hb hi
  refine run0 ?_
  cases g0 : (cs == 0)
  · have n0 : ¬ cs = 0 := by simpa using g0
    cases g5 : (cs == 5)
    · have n5 : ¬ cs = 5 := by simpa using g5
      have e : signIn cs b i = ((byteSign cs (byteN b i.toNat : Nat)).1, i + 1, (byteSign cs (byteN b i.toNat : Nat)).2) := by rw [signIn, if_neg n0, if_neg n5]
      have hk : i.toNat < b.length := by omega
      have eb : b[i.toNat].toNat = byteN b i.toNat := by
        simp only [byteN, List.getD_eq_getElem?_getD]
        rw [List.getElem?_eq_getElem hk]
        rfl
      have hlt := byteN_lt b i.toNat
      have w1 : IntKind.i64.wrap ((byteN b i.toNat : Nat) : Int) = (byteN b i.toNat : Nat) := IntWalk.i64_in _ (by omega)
      have w2 : IntKind.i64.wrap (i + 1) = i + 1 := IntWalk.i64_in _ (by omega)
      simp -implicitDefEqProofs only [x_s_l5Get, go_sem, g0, g5, List.getElem?_eq_getElem hk, eb, w1]
      repeat refine ⟨sc, ?_⟩
      try exact sf
      refine .of (c_s_ByteSign _ _) ?_
      try simp -implicitDefEqProofs only [go_sem, w2, e]
      repeat refine ⟨sc, ?_⟩
      try exact sf
    · have n5 : cs = 5 := eq_of_beq g5
      subst n5
      have e : signIn 5 b i = eucSign b i := rfl
      simp -implicitDefEqProofs only [x_s_l5Get, go_sem]
      repeat refine ⟨sc, ?_⟩
      try exact sf
      refine .of (c_s_EucSign b i hb) ?_
      try simp -implicitDefEqProofs only [go_sem, e]
      repeat refine ⟨sc, ?_⟩
      try exact sf
  · have n0 : cs = 0 := eq_of_beq g0
    subst n0
    have e : signIn 0 b i = getSign b i := rfl
    simp -implicitDefEqProofs only [x_s_l5Get, go_sem]
    repeat refine ⟨sc, ?_⟩
    try exact sf
    refine .of (c_s_GetSign b i (by omega)) ?_
    try simp -implicitDefEqProofs only [go_sem, e]
    repeat refine ⟨sc, ?_⟩
    try exact sf
def x_i_Decode : FnX := ⟨35, [.tmp 4, .tmp 5],
  .q [.op 4 (.mv (.k (.one (.pv (.string ⟨#[]⟩))))), .F 5]
 (.seq (.q [.m 11 0, .c 12 103 [11], .N 13 12]
 (.c 13 (.q [.op 4 (.mv (.k (.one (.pv (.string ⟨#[]⟩))))), .F 5]
 .ret)))
 (.q [.op 14 (.bslice 1 []), .m 6 14]
 (.seq (.q [.i 7 0]
 (.block 0 (.loop [0, 1, 6, 7] (.seq (.q [.m 15 7, .m 16 1, .n 17 16, .b 18 .lss 15 17]
 (.cond 18 .skip (.exit 0)))
 (.block 1 (.q [.m 20 0, .m 21 1, .m 22 7, .c 23 104 [20, 21, 22], .m 19 23, .e 24 19 0, .e 25 19 1, .e 26 19 2, .m 8 24, .m 9 25, .m 10 26]
 (.seq (.q [.m 27 10, .N 28 27]
 (.c 28 (.q [.op 4 (.mv (.k (.one (.pv (.string ⟨#[]⟩))))), .F 5]
 .ret)))
 (.q [.m 29 6, .m 30 8, .c 31 105 [29, 30], .m 6 31]
 (.reg [.m 32 9, .m 7 32])))))))))
 (.norm [6] (.q [.m 33 6, .op 34 (.conv .b2s (.t 33)), .m 4 34, .T 5]
 .ret)))))⟩
abbrev C_i_Decode (Te : TE) : Prop := ∀ (cs : Int) (b : List UInt8) (hb : b.length ≤ 2 ^ 20), Te 64 [.one (iT cs), .one (slT false 1 uR b)] ⟨[.one (sT (decode cs b).1), .one (bT (decode cs b).2)], [[iT cs], [slT false 1 uR b]]⟩
theorem r_i_Decode {Te : TE} (c_i_isSet : C_i_isSet Te) (c_i_signIn : C_i_signIn Te) (c_i_PutSign : C_i_PutSign Te) : C_i_Decode (RF Te x_i_Decode) := by
  intro cs b hb
  refine run0 ?_
  cases g : win cs 0 5
  · have e : decode cs b = (⟨#[]⟩, false) := by rw [decode, g]; rfl
    simp -implicitDefEqProofs only [x_i_Decode, go_sem]
    repeat refine ⟨sc, ?_⟩
    try exact sf
    refine .of (c_i_isSet _) ?_
    try simp -implicitDefEqProofs only [go_sem, g, e]
    repeat refine ⟨sc, ?_⟩
    try exact sf
    try rfl
  · have e : decode cs b = decGo cs b b.length 0 [] := by rw [decode, g]; rfl
    rw [e]
    generalize hD : decGo cs b b.length 0 [] = D
    simp -implicitDefEqProofs only [x_i_Decode, go_sem]
    repeat refine ⟨sc, ?_⟩
    try exact sf
    refine .of (c_i_isSet _) ?_
    try simp -implicitDefEqProofs only [go_sem, g]
    repeat refine ⟨sc, ?_⟩
    try exact sf
    refine loop_of (σ := Nat × Nat × List UInt8) (fun x => ⟨[(0, .one (.pv (.int .i64 cs))), (1, .one (.ro 1 (b.map uR))), (6, .one (.rf 37 0 [] 1 0 x.2.2.length)), (7, .one (.pv (.int .i64 x.2.1)))], [], [(0, [iT cs]), (1, [slT false 1 uR b]), (37, [slT true 1 uR x.2.2])]⟩) (fun x => x.2.1 ≤ b.length ∧ b.length ≤ x.1 + x.2.1 ∧ x.2.2.length ≤ 4 * x.2.1 ∧ decGo cs b x.1 x.2.1 x.2.2 = D) (fun x => b.length - x.2.1) (b.length, 0, []) ?_ ⟨Nat.zero_le _, Nat.le_refl _, Nat.zero_le _, hD⟩ ?_
    · simp -implicitDefEqProofs only [go_sem]
      try rfl
    · rintro ⟨fu, i, out⟩ ⟨hi, hf, ho, hd⟩
      simp only at hi hf ho hd
      cases q : decide ((i : Int) < (b.length : Int))
      · have hq : ¬ (i : Int) < (b.length : Int) := by simpa using q
        rw [dec_end hq] at hd
        subst hd
        try simp -implicitDefEqProofs only [go_sem, q]
        repeat refine ⟨sc, ?_⟩
        try exact sf
        refine ⟨areBytes_uR out, ?_⟩
        rw [bytesOf_uD]
        try rfl
      · have hq : (i : Int) < (b.length : Int) := by simpa using q
        obtain ⟨f, rfl⟩ : ∃ f, fu = f + 1 := ⟨fu - 1, by omega⟩
        have hs := c_i_signIn cs b i (by omega) ⟨by omega, hq⟩
        cases g2 : (signIn cs b i).2.2
        · rw [dec_bad hq g2] at hd
          subst hd
          try simp -implicitDefEqProofs only [go_sem, q]
          repeat refine ⟨sc, ?_⟩
          try exact sf
          refine .of (hs) ?_
          try simp -implicitDefEqProofs only [go_sem, g2]
          repeat refine ⟨sc, ?_⟩
          try exact sf
          try rfl
        · rw [dec_step hq g2] at hd
          have hn := signIn_next ⟨by omega, hq⟩ g2
          generalize signIn cs b i = r at hs g2 hd hn
          obtain ⟨n, nx, ok⟩ := r
          simp only at hs g2 hd hn
          subst g2
          obtain ⟨j, rfl⟩ : ∃ j : Nat, nx = j := ⟨nx.toNat, by omega⟩
          have hl := putSign_len out n
          try simp -implicitDefEqProofs only [go_sem, q]
          repeat refine ⟨sc, ?_⟩
          try exact sf
          refine .of (hs) ?_
          try simp -implicitDefEqProofs only [go_sem]
          repeat refine ⟨sc, ?_⟩
          try exact sf
          refine .of (c_i_PutSign out n (by omega)) ?_
          try simp -implicitDefEqProofs only [go_sem]
          repeat refine ⟨sc, ?_⟩
          try exact sf
          exact ⟨(f, j, putSign out n), rfl, ⟨by simp only; omega, by simp only; omega, by simp only; omega, hd⟩, by simp only; omega⟩
def x_s_Decode : FnX := ⟨35, [.tmp 4, .tmp 5],
  .q [.op 4 (.mv (.k (.one (.pv (.string ⟨#[]⟩))))), .F 5]
 (.q [.op 11 (.bslice 1 []), .m 6 11]
 (.seq (.q [.m 12 0, .c 13 94 [12], .N 14 13]
 (.c 14 (.q [.op 4 (.mv (.k (.one (.pv (.string ⟨#[]⟩))))), .F 5]
 .ret)))
 (.seq (.q [.i 7 0]
 (.block 0 (.loop [0, 1, 6, 7] (.seq (.q [.m 15 7, .m 16 1, .n 17 16, .b 18 .lss 15 17]
 (.cond 18 .skip (.exit 0)))
 (.block 1 (.q [.m 20 0, .m 21 1, .m 22 7, .c 23 95 [20, 21, 22], .m 19 23, .e 24 19 0, .e 25 19 1, .e 26 19 2, .m 8 24, .m 9 25, .m 10 26]
 (.seq (.q [.m 27 10, .N 28 27]
 (.c 28 (.q [.op 4 (.mv (.k (.one (.pv (.string ⟨#[]⟩))))), .F 5]
 .ret)))
 (.q [.m 29 6, .m 30 8, .c 31 96 [29, 30], .m 6 31]
 (.reg [.m 32 9, .m 7 32])))))))))
 (.norm [6] (.q [.m 33 6, .op 34 (.conv .b2s (.t 33)), .m 4 34, .T 5]
 .ret)))))⟩
abbrev C_s_Decode (Te : TE) : Prop := ∀ (cs : Int) (b : List UInt8) (hb : b.length ≤ 2 ^ 20), Te 57 [.one (iT cs), .one (slT false 1 uR b)] ⟨[.one (sT (decode cs b).1), .one (bT (decode cs b).2)], [[iT cs], [slT false 1 uR b]]⟩
theorem r_s_Decode {Te : TE} (c_s_l5Cs : C_s_l5Cs Te) (c_s_l5Get : C_s_l5Get Te) (c_s_PutSign : C_s_PutSign Te) : C_s_Decode (RF Te x_s_Decode) := by
  intro cs b hb
  refine run0 ?_
  cases g : win cs 0 5
  · have e : decode cs b = (⟨#[]⟩, false) := by rw [decode, g]; rfl
    simp -implicitDefEqProofs only [x_s_Decode, go_sem]
    repeat refine ⟨sc, ?_⟩
    try exact sf
    refine .of (c_s_l5Cs _) ?_
    try simp -implicitDefEqProofs only [go_sem, g, e]
    repeat refine ⟨sc, ?_⟩
    try exact sf
    try rfl
  · have e : decode cs b = decGo cs b b.length 0 [] := by rw [decode, g]; rfl
    rw [e]
    generalize hD : decGo cs b b.length 0 [] = D
    simp -implicitDefEqProofs only [x_s_Decode, go_sem]
    repeat refine ⟨sc, ?_⟩
    try exact sf
    refine .of (c_s_l5Cs _) ?_
    try simp -implicitDefEqProofs only [go_sem, g]
    repeat refine ⟨sc, ?_⟩
    try exact sf
    refine loop_of (σ := Nat × Nat × List UInt8) (fun x => ⟨[(0, .one (.pv (.int .i64 cs))), (1, .one (.ro 1 (b.map uR))), (6, .one (.rf 37 0 [] 1 0 x.2.2.length)), (7, .one (.pv (.int .i64 x.2.1)))], [], [(0, [iT cs]), (1, [slT false 1 uR b]), (37, [slT true 1 uR x.2.2])]⟩) (fun x => x.2.1 ≤ b.length ∧ b.length ≤ x.1 + x.2.1 ∧ x.2.2.length ≤ 4 * x.2.1 ∧ decGo cs b x.1 x.2.1 x.2.2 = D) (fun x => b.length - x.2.1) (b.length, 0, []) ?_ ⟨Nat.zero_le _, Nat.le_refl _, Nat.zero_le _, hD⟩ ?_
    · simp -implicitDefEqProofs only [go_sem]
      try rfl
    · rintro ⟨fu, i, out⟩ ⟨hi, hf, ho, hd⟩
      simp only at hi hf ho hd
      cases q : decide ((i : Int) < (b.length : Int))
      · have hq : ¬ (i : Int) < (b.length : Int) := by simpa using q
        rw [dec_end hq] at hd
        subst hd
        try simp -implicitDefEqProofs only [go_sem, q]
        repeat refine ⟨sc, ?_⟩
        try exact sf
        refine ⟨areBytes_uR out, ?_⟩
        rw [bytesOf_uD]
        try rfl
      · have hq : (i : Int) < (b.length : Int) := by simpa using q
        obtain ⟨f, rfl⟩ : ∃ f, fu = f + 1 := ⟨fu - 1, by omega⟩
        have hs := c_s_l5Get cs b i (by omega) ⟨by omega, hq⟩
        cases g2 : (signIn cs b i).2.2
        · rw [dec_bad hq g2] at hd
          subst hd
          try simp -implicitDefEqProofs only [go_sem, q]
          repeat refine ⟨sc, ?_⟩
          try exact sf
          refine .of (hs) ?_
          try simp -implicitDefEqProofs only [go_sem, g2]
          repeat refine ⟨sc, ?_⟩
          try exact sf
          try rfl
        · rw [dec_step hq g2] at hd
          have hn := signIn_next ⟨by omega, hq⟩ g2
          generalize signIn cs b i = r at hs g2 hd hn
          obtain ⟨n, nx, ok⟩ := r
          simp only at hs g2 hd hn
          subst g2
          obtain ⟨j, rfl⟩ : ∃ j : Nat, nx = j := ⟨nx.toNat, by omega⟩
          have hl := putSign_len out n
          try simp -implicitDefEqProofs only [go_sem, q]
          repeat refine ⟨sc, ?_⟩
          try exact sf
          refine .of (hs) ?_
          try simp -implicitDefEqProofs only [go_sem]
          repeat refine ⟨sc, ?_⟩
          try exact sf
          refine .of (c_s_PutSign out n (by omega)) ?_
          try simp -implicitDefEqProofs only [go_sem]
          repeat refine ⟨sc, ?_⟩
          try exact sf
          exact ⟨(f, j, putSign out n), rfl, ⟨by simp only; omega, by simp only; omega, by simp only; omega, hd⟩, by simp only; omega⟩
end Go.X

/- Vd -/
namespace Go.X
set_option maxRecDepth 100000
set_option maxHeartbeats 8000000
def CellV.ok (c : CellV) : Bool := win c.Tag 0 5 && decide ((c.B.length : Int) ≤ 20)
def CellV.text (c : CellV) : ByteArray × Bool := if c.ok = true then decode c.Tag c.B else (⟨#[]⟩, false)
def CellV.no (c : CellV) : Bool := (c.Tag == 0) && decide (c.B = [])
def sameText (a c : CellV) : Bool := a.text.2 && c.text.2 && decide (a.text.1 = c.text.1)
theorem CellV.ok_len {c : CellV} (h : c.ok = true) : c.B.length ≤ 20 := by
  simp only [CellV.ok, Bool.and_eq_true, decide_eq_true_eq] at h
  omega
def x_i_CellOk : FnX := ⟨12, [.tmp 2],
  .q [.v 1 0, .F 2]
 (.q [.f 3 1 0, .l 4 3, .c 5 103 [4], .m 6 5, ⟨(some (6, true)), some 7, 7, .faddr (.t 1) 1⟩, ⟨(some (6, true)), some 8, 8, .load none (.t 7)⟩, ⟨(some (6, true)), some 9, 9, .len (.t 8)⟩, ⟨(some (6, true)), some 10, 10, .bin .leq (.t 9) (.i 20)⟩, .a 11 6 10, .m 2 11]
 .ret)⟩
abbrev C_i_CellOk (Te : TE) : Prop := ∀ (c : CellV), Te 63 [.agg (c.enc false)] ⟨[.one (bT c.ok)], [c.enc false]⟩
theorem r_i_CellOk {Te : TE} (c_i_isSet : C_i_isSet Te) : C_i_CellOk (RF Te x_i_CellOk) := by
  intro c
  refine run0 ?_
  simp -implicitDefEqProofs only [x_i_CellOk, go_sem, CellV.ok]
  repeat refine ⟨sc, ?_⟩
  try exact sf
  refine .of (c_i_isSet _) ?_
  try simp -implicitDefEqProofs only [go_sem]
  repeat refine ⟨sc, ?_⟩
  try exact sf
  cases g : win c.Tag 0 5
  · try simp -implicitDefEqProofs only [go_sem, g]
    repeat refine ⟨sc, ?_⟩
    try exact sf
  · try simp -implicitDefEqProofs only [go_sem, g]
    repeat refine ⟨sc, ?_⟩
    try exact sf
def x_i_CellText : FnX := ⟨14, [.tmp 2, .tmp 3],
  .q [.v 1 0, .op 2 (.mv (.k (.one (.pv (.string ⟨#[]⟩))))), .F 3]
 (.seq (.q [.L 4 2 1, .c 5 63 [4], .N 6 5]
 (.c 6 (.q [.op 2 (.mv (.k (.one (.pv (.string ⟨#[]⟩))))), .F 3]
 .ret)))
 (.q [.f 7 1 0, .l 8 7, .f 9 1 1, .l 10 9, .c 11 64 [8, 10], .e 12 11 0, .e 13 11 1, .m 2 12, .m 3 13]
 .ret))⟩
abbrev C_i_CellText (Te : TE) : Prop := ∀ (c : CellV), Te 39 [.agg (c.enc false)] ⟨[.one (sT c.text.1), .one (bT c.text.2)], [c.enc false]⟩
theorem r_i_CellText {Te : TE} (c_i_CellOk : C_i_CellOk Te) (c_i_Decode : C_i_Decode Te) : C_i_CellText (RF Te x_i_CellText) := by
  intro c
  refine run0 ?_
  simp -implicitDefEqProofs only [x_i_CellText, go_sem]
  repeat refine ⟨sc, ?_⟩
  try exact sf
  refine .of (c_i_CellOk c) ?_
  try simp -implicitDefEqProofs only [go_sem]
  repeat refine ⟨sc, ?_⟩
  try exact sf
  cases g : c.ok
  · have e : c.text = (⟨#[]⟩, false) := by rw [CellV.text, g]; rfl
    try simp -implicitDefEqProofs only [go_sem, e]
    repeat refine ⟨sc, ?_⟩
    try exact sf
  · have e : c.text = decode c.Tag c.B := by rw [CellV.text, g]; rfl
    try simp -implicitDefEqProofs only [go_sem, e]
    repeat refine ⟨sc, ?_⟩
    try exact sf
    refine .of (c_i_Decode c.Tag c.B (by have := CellV.ok_len g; omega)) ?_
    try simp -implicitDefEqProofs only [go_sem, e]
    repeat refine ⟨sc, ?_⟩
    try exact sf
def x_i_SameText : FnX := ⟨28, [.tmp 4],
  .q [.v 2 0, .v 3 1, .F 4]
 (.q [.L 10 2 2, .c 11 39 [10], .m 9 11, .e 12 9 0, .e 13 9 1, .m 5 12, .m 6 13]
 (.q [.L 15 2 3, .c 16 39 [15], .m 14 16, .e 17 14 0, .e 18 14 1, .m 7 17, .m 8 18]
 (.q [.m 19 6, .m 20 19, ⟨(some (20, true)), some 21, 21, .mv (.t 8)⟩, .a 22 20 21, .m 23 22, ⟨(some (23, true)), some 24, 24, .mv (.t 5)⟩, ⟨(some (23, true)), some 25, 25, .mv (.t 7)⟩, ⟨(some (23, true)), some 26, 26, .bin .eql (.t 24) (.t 25)⟩, .a 27 23 26, .m 4 27]
 .ret)))⟩
abbrev C_i_SameText (Te : TE) : Prop := ∀ (a c : CellV), Te 164 [.agg (a.enc false), .agg (c.enc false)] ⟨[.one (bT (sameText a c))], [a.enc false, c.enc false]⟩
theorem r_i_SameText {Te : TE} (c_i_CellText : C_i_CellText Te) : C_i_SameText (RF Te x_i_SameText) := by
  intro a c
  refine run0 ?_
  simp -implicitDefEqProofs only [x_i_SameText, go_sem, sameText]
  repeat refine ⟨sc, ?_⟩
  try exact sf
  refine .of (c_i_CellText a) ?_
  try simp -implicitDefEqProofs only [go_sem]
  repeat refine ⟨sc, ?_⟩
  try exact sf
  refine .of (c_i_CellText c) ?_
  try simp -implicitDefEqProofs only [go_sem]
  repeat refine ⟨sc, ?_⟩
  try exact sf
  cases g1 : a.text.2
  · try simp -implicitDefEqProofs only [go_sem, g1]
    repeat refine ⟨sc, ?_⟩
    try exact sf
  · cases g2 : c.text.2
    · try simp -implicitDefEqProofs only [go_sem, g1, g2]
      repeat refine ⟨sc, ?_⟩
      try exact sf
    · try simp -implicitDefEqProofs only [go_sem, g1, g2, bytes_beq]
      repeat refine ⟨sc, ?_⟩
      try exact sf
def x_s_CellOk : FnX := ⟨12, [.tmp 2],
  .q [.v 1 0, .F 2]
 (.q [.f 3 1 0, .l 4 3, .c 5 94 [4], .m 6 5, ⟨(some (6, true)), some 7, 7, .faddr (.t 1) 1⟩, ⟨(some (6, true)), some 8, 8, .load none (.t 7)⟩, ⟨(some (6, true)), some 9, 9, .len (.t 8)⟩, ⟨(some (6, true)), some 10, 10, .bin .leq (.t 9) (.i 20)⟩, .a 11 6 10, .m 2 11]
 .ret)⟩
abbrev C_s_CellOk (Te : TE) : Prop := ∀ (c : CellV), Te 56 [.agg (c.enc false)] ⟨[.one (bT c.ok)], [c.enc false]⟩
theorem r_s_CellOk {Te : TE} (c_s_l5Cs : C_s_l5Cs Te) : C_s_CellOk (RF Te x_s_CellOk) := by
  intro c
  refine run0 ?_
  simp -implicitDefEqProofs only [x_s_CellOk, go_sem, CellV.ok]
  repeat refine ⟨sc, ?_⟩
  try exact sf
  refine .of (c_s_l5Cs _) ?_
  try simp -implicitDefEqProofs only [go_sem]
  repeat refine ⟨sc, ?_⟩
  try exact sf
  cases g : win c.Tag 0 5
  · try simp -implicitDefEqProofs only [go_sem, g]
    repeat refine ⟨sc, ?_⟩
    try exact sf
  · try simp -implicitDefEqProofs only [go_sem, g]
    repeat refine ⟨sc, ?_⟩
    try exact sf
def x_s_CellText : FnX := ⟨14, [.tmp 2, .tmp 3],
  .q [.v 1 0, .op 2 (.mv (.k (.one (.pv (.string ⟨#[]⟩))))), .F 3]
 (.seq (.q [.L 4 2 1, .c 5 56 [4], .N 6 5]
 (.c 6 (.q [.op 2 (.mv (.k (.one (.pv (.string ⟨#[]⟩))))), .F 3]
 .ret)))
 (.q [.f 7 1 0, .l 8 7, .f 9 1 1, .l 10 9, .c 11 57 [8, 10], .e 12 11 0, .e 13 11 1, .m 2 12, .m 3 13]
 .ret))⟩
abbrev C_s_CellText (Te : TE) : Prop := ∀ (c : CellV), Te 33 [.agg (c.enc false)] ⟨[.one (sT c.text.1), .one (bT c.text.2)], [c.enc false]⟩
theorem r_s_CellText {Te : TE} (c_s_CellOk : C_s_CellOk Te) (c_s_Decode : C_s_Decode Te) : C_s_CellText (RF Te x_s_CellText) := by
  intro c
  refine run0 ?_
  simp -implicitDefEqProofs only [x_s_CellText, go_sem]
  repeat refine ⟨sc, ?_⟩
  try exact sf
  refine .of (c_s_CellOk c) ?_
  try simp -implicitDefEqProofs only [go_sem]
  repeat refine ⟨sc, ?_⟩
  try exact sf
  cases g : c.ok
  · have e : c.text = (⟨#[]⟩, false) := by rw [CellV.text, g]; rfl
    try simp -implicitDefEqProofs only [go_sem, e]
    repeat refine ⟨sc, ?_⟩
    try exact sf
  · have e : c.text = decode c.Tag c.B := by rw [CellV.text, g]; rfl
    try simp -implicitDefEqProofs only [go_sem, e]
    repeat refine ⟨sc, ?_⟩
    try exact sf
    refine .of (c_s_Decode c.Tag c.B (by have := CellV.ok_len g; omega)) ?_
    try simp -implicitDefEqProofs only [go_sem, e]
    repeat refine ⟨sc, ?_⟩
    try exact sf
def x_s_SameText : FnX := ⟨28, [.tmp 4],
  .q [.v 2 0, .v 3 1, .F 4]
 (.q [.L 10 2 2, .c 11 33 [10], .m 9 11, .e 12 9 0, .e 13 9 1, .m 5 12, .m 6 13]
 (.q [.L 15 2 3, .c 16 33 [15], .m 14 16, .e 17 14 0, .e 18 14 1, .m 7 17, .m 8 18]
 (.q [.m 19 6, .m 20 19, ⟨(some (20, true)), some 21, 21, .mv (.t 8)⟩, .a 22 20 21, .m 23 22, ⟨(some (23, true)), some 24, 24, .mv (.t 5)⟩, ⟨(some (23, true)), some 25, 25, .mv (.t 7)⟩, ⟨(some (23, true)), some 26, 26, .bin .eql (.t 24) (.t 25)⟩, .a 27 23 26, .m 4 27]
 .ret)))⟩
abbrev C_s_SameText (Te : TE) : Prop := ∀ (a c : CellV), Te 157 [.agg (a.enc false), .agg (c.enc false)] ⟨[.one (bT (sameText a c))], [a.enc false, c.enc false]⟩
theorem r_s_SameText {Te : TE} (c_s_CellText : C_s_CellText Te) : C_s_SameText (RF Te x_s_SameText) := by
  intro a c
  refine run0 ?_
  simp -implicitDefEqProofs only [x_s_SameText, go_sem, sameText]
  repeat refine ⟨sc, ?_⟩
  try exact sf
  refine .of (c_s_CellText a) ?_
  try simp -implicitDefEqProofs only [go_sem]
  repeat refine ⟨sc, ?_⟩
  try exact sf
  refine .of (c_s_CellText c) ?_
  try simp -implicitDefEqProofs only [go_sem]
  repeat refine ⟨sc, ?_⟩
  try exact sf
  cases g1 : a.text.2
  · try simp -implicitDefEqProofs only [go_sem, g1]
    repeat refine ⟨sc, ?_⟩
    try exact sf
  · cases g2 : c.text.2
    · try simp -implicitDefEqProofs only [go_sem, g1, g2]
      repeat refine ⟨sc, ?_⟩
      try exact sf
    · try simp -implicitDefEqProofs only [go_sem, g1, g2, bytes_beq]
      repeat refine ⟨sc, ?_⟩
      try exact sf
theorem bytes_lists (a c : List UInt8) : decide ((⟨a.toArray⟩ : ByteArray) = ⟨c.toArray⟩) = decide (a = c) := by
  congr 1
  simp
def x_i_sameCell : FnX := ⟨19, [.tmp 4],
  .q [.v 2 0, .v 3 1, .F 4]
 (.q [.f 5 2 0, .l 6 5, .f 7 3 0, .l 8 7, .b 9 .eql 6 8, .m 10 9, ⟨(some (10, true)), some 11, 11, .faddr (.t 2) 1⟩, ⟨(some (10, true)), some 12, 12, .load none (.t 11)⟩, ⟨(some (10, true)), some 13, 13, .conv .b2s (.t 12)⟩, ⟨(some (10, true)), some 14, 14, .faddr (.t 3) 1⟩, ⟨(some (10, true)), some 15, 15, .load none (.t 14)⟩, ⟨(some (10, true)), some 16, 16, .conv .b2s (.t 15)⟩, ⟨(some (10, true)), some 17, 17, .bin .eql (.t 13) (.t 16)⟩, .a 18 10 17, .m 4 18]
 .ret)⟩
abbrev C_i_sameCell (Te : TE) : Prop := ∀ (a c : CellV), Te 163 [.agg (a.enc false), .agg (c.enc false)] ⟨[.one (bT ((a.Tag == c.Tag) && decide (a.B = c.B)))], [a.enc false, c.enc false]⟩
theorem r_i_sameCell {Te : TE} : C_i_sameCell (RF Te x_i_sameCell) := by
  intro a c
  refine run0 ?_
  cases g : (a.Tag == c.Tag)
  · simp -implicitDefEqProofs only [x_i_sameCell, go_sem, g]
    repeat refine ⟨sc, ?_⟩
    try exact sf
  · have ea := areBytes_uR a.B
    have ec := areBytes_uR c.B
    have fa := bytesOf_uR a.B
    have fc := bytesOf_uR c.B
    simp -implicitDefEqProofs only [x_i_sameCell, go_sem, g, ea, ec, fa, fc, bytes_beq, bytes_lists]
    repeat refine ⟨sc, ?_⟩
    try exact sf
theorem none_len (l : List UInt8) : ((l.length : Int) == 0) = decide (l = []) := by
  cases l with
  | nil => rfl
  | cons a l =>
    have h1 : (((a :: l).length : Int) == 0) = false := by simp only [beq_eq_false_iff_ne, List.length_cons]; omega
    rw [h1]
    simp
def x_s_l9None : FnX := ⟨12, [.tmp 2],
  .q [.v 1 0, .F 2]
 (.q [.f 3 1 0, .l 4 3, .B 5 .eql 4 0, .m 6 5, ⟨(some (6, true)), some 7, 7, .faddr (.t 1) 1⟩, ⟨(some (6, true)), some 8, 8, .load none (.t 7)⟩, ⟨(some (6, true)), some 9, 9, .len (.t 8)⟩, ⟨(some (6, true)), some 10, 10, .bin .eql (.t 9) (.i 0)⟩, .a 11 6 10, .m 2 11]
 .ret)⟩
abbrev C_s_l9None (Te : TE) : Prop := ∀ (c : CellV), Te 156 [.agg (c.enc false)] ⟨[.one (bT c.no)], [c.enc false]⟩
theorem r_s_l9None {Te : TE} : C_s_l9None (RF Te x_s_l9None) := by
  intro c
  refine run0 ?_
  cases g : (c.Tag == 0)
  · simp -implicitDefEqProofs only [x_s_l9None, go_sem, CellV.no, g]
    repeat refine ⟨sc, ?_⟩
    try exact sf
  · simp -implicitDefEqProofs only [x_s_l9None, go_sem, CellV.no, g, none_len]
    repeat refine ⟨sc, ?_⟩
    try exact sf
def nameCh (x : UInt8) : Bool := win x.toNat 97 122 || win x.toNat 48 57
def nameOk (s : ByteArray) : Bool := s.data.toList.all nameCh && win s.size 1 6
def x_i_NameOk : FnX := ⟨27, [.tmp 2],
  .q [.F 2]
 (.seq (.q [.i 3 0]
 (.block 0 (.loop [0, 3] (.seq (.q [.m 4 3, .m 5 0, .op 6 (.slen (.t 5)), .b 7 .lss 4 6]
 (.cond 7 .skip (.exit 0)))
 (.seq (.block 1 (.q [.m 10 0, .m 11 3, .op 12 (.sidx (.t 10) (.t 11)), .op 13 (.conv (.int .i64) (.t 12)), .op 14 (.call 25 [0, 0, 0] [(.t 13), (.i 97), (.i 122)]), .N 15 14, .m 16 15, ⟨(some (16, true)), some 17, 17, .mv (.t 0)⟩, ⟨(some (16, true)), some 18, 18, .mv (.t 3)⟩, ⟨(some (16, true)), some 19, 19, .sidx (.t 17) (.t 18)⟩, ⟨(some (16, true)), some 20, 20, .conv (.int .i64) (.t 19)⟩, ⟨(some (16, true)), some 21, 21, .call 25 [0, 0, 0] [(.t 20), (.i 48), (.i 57)]⟩, ⟨(some (16, true)), some 22, 22, .not (.t 21)⟩, .a 23 16 22]
 (.c 23 (.q [.F 2]
 .ret))))
 (.reg [.m 8 3, .B 9 .add 8 1, .m 3 9]))))))
 (.norm [0] (.q [.m 24 0, .op 25 (.slen (.t 24)), .op 26 (.call 25 [0, 0, 0] [(.t 25), (.i 1), (.i 6)]), .m 2 26]
 .ret)))⟩
abbrev C_i_NameOk (Te : TE) : Prop := ∀ (s : ByteArray) (h : s.size ≤ 2 ^ 48), Te 154 [.one (sT s)] ⟨[.one (bT (nameOk s))], [[sT s]]⟩
theorem r_i_NameOk {Te : TE} (c_i_within : C_i_within Te) : C_i_NameOk (RF Te x_i_NameOk) := by
  intro s h
  refine run0 ?_
  have hsz : s.data.toList.length = s.size := by rw [Array.length_toList]; rfl
  simp -implicitDefEqProofs only [x_i_NameOk, go_sem, nameOk]
  repeat refine ⟨sc, ?_⟩
  try exact sf
  refine loop_of (σ := Nat) (fun i => ⟨[(0, .one (.pv (.string s))), (3, .one (.pv (.int .i64 i)))], [], [(0, [sT s])]⟩) (fun i => i ≤ s.size ∧ (s.data.toList.take i).all nameCh = true) (fun i => s.size - i) 0 ?_ ⟨Nat.zero_le _, rfl⟩ ?_
  · simp -implicitDefEqProofs only [go_sem]; rfl
  · rintro i ⟨hi, hp⟩
    cases q : decide ((i : Int) < (s.size : Int))
    · have e := all_end (p := nameCh) (show s.data.toList.length ≤ i by simp only [decide_eq_false_iff_not] at q; omega) hp
      try simp -implicitDefEqProofs only [go_sem, q]
      repeat refine ⟨sc, ?_⟩
      try exact sf
      refine .of (c_i_within _ _ _) ?_
      try simp -implicitDefEqProofs only [go_sem, e]
      repeat refine ⟨sc, ?_⟩
      try exact sf
    · have hi' : i < s.size := by simp only [decide_eq_true_eq] at q; omega
      have hi2 : i < s.data.toList.length := by omega
      have q1 : decide (i < s.size) = true := decide_eq_true hi'
      have eg : s.data.toList.getD i 0 = s.data.toList[i] := by rw [List.getD_eq_getElem?_getD, List.getElem?_eq_getElem hi2]; rfl
      have hb := s.data.toList[i].toNat_lt
      have w1 : IntKind.i64.wrap ((s.data.toList[i].toNat : Nat) : Int) = (s.data.toList[i].toNat : Nat) := IntWalk.i64_in _ (by omega)
      try simp -implicitDefEqProofs only [go_sem, q, q1, eg, w1]
      repeat refine ⟨sc, ?_⟩
      try exact sf
      refine .of (c_i_within _ _ _) ?_
      try simp -implicitDefEqProofs only [go_sem]
      repeat refine ⟨sc, ?_⟩
      try exact sf
      cases g1 : win ((s.data.toList[i].toNat : Nat) : Int) 97 122
      · try simp -implicitDefEqProofs only [go_sem, q1, eg, w1]
        repeat refine ⟨sc, ?_⟩
        try exact sf
        refine .of (c_i_within _ _ _) ?_
        try simp -implicitDefEqProofs only [go_sem]
        repeat refine ⟨sc, ?_⟩
        try exact sf
        cases g2 : win ((s.data.toList[i].toNat : Nat) : Int) 48 57
        · have e := all_not (p := nameCh) hi2 (by simp only [nameCh, g1, g2, Bool.or_false])
          try simp -implicitDefEqProofs only [go_sem, e]
          repeat refine ⟨sc, ?_⟩
          try exact sf
        · try simp -implicitDefEqProofs only [go_sem]
          repeat refine ⟨sc, ?_⟩
          try exact sf
          refine ⟨i + 1, by rw [IntWalk.i64_in _ (by omega)]; rfl, ⟨hi', all_step (p := nameCh) hi2 hp (by simp only [nameCh, g1, g2, Bool.or_true])⟩, by omega⟩
      · try simp -implicitDefEqProofs only [go_sem]
        repeat refine ⟨sc, ?_⟩
        try exact sf
        refine ⟨i + 1, by rw [IntWalk.i64_in _ (by omega)]; rfl, ⟨hi', all_step (p := nameCh) hi2 hp (by simp only [nameCh, g1, Bool.true_or])⟩, by omega⟩
def x_s_NameOk : FnX := ⟨27, [.tmp 2],
  .q [.F 2]
 (.seq (.q [.i 3 0]
 (.block 0 (.loop [0, 3] (.seq (.q [.m 4 3, .m 5 0, .op 6 (.slen (.t 5)), .b 7 .lss 4 6]
 (.cond 7 .skip (.exit 0)))
 (.seq (.block 1 (.q [.m 10 0, .m 11 3, .op 12 (.sidx (.t 10) (.t 11)), .op 13 (.conv (.int .i64) (.t 12)), .op 14 (.call 23 [0, 0, 0] [(.t 13), (.i 97), (.i 122)]), .N 15 14, .m 16 15, ⟨(some (16, true)), some 17, 17, .mv (.t 0)⟩, ⟨(some (16, true)), some 18, 18, .mv (.t 3)⟩, ⟨(some (16, true)), some 19, 19, .sidx (.t 17) (.t 18)⟩, ⟨(some (16, true)), some 20, 20, .conv (.int .i64) (.t 19)⟩, ⟨(some (16, true)), some 21, 21, .call 23 [0, 0, 0] [(.t 20), (.i 48), (.i 57)]⟩, ⟨(some (16, true)), some 22, 22, .not (.t 21)⟩, .a 23 16 22]
 (.c 23 (.q [.F 2]
 .ret))))
 (.reg [.m 8 3, .B 9 .add 8 1, .m 3 9]))))))
 (.norm [0] (.q [.m 24 0, .op 25 (.slen (.t 24)), .op 26 (.call 23 [0, 0, 0] [(.t 25), (.i 1), (.i 6)]), .m 2 26]
 .ret)))⟩
abbrev C_s_NameOk (Te : TE) : Prop := ∀ (s : ByteArray) (h : s.size ≤ 2 ^ 48), Te 148 [.one (sT s)] ⟨[.one (bT (nameOk s))], [[sT s]]⟩
theorem r_s_NameOk {Te : TE} (c_s_l1In : C_s_l1In Te) : C_s_NameOk (RF Te x_s_NameOk) := by
  intro s h
  refine run0 ?_
  have hsz : s.data.toList.length = s.size := by rw [Array.length_toList]; rfl
  simp -implicitDefEqProofs only [x_s_NameOk, go_sem, nameOk]
  repeat refine ⟨sc, ?_⟩
  try exact sf
  refine loop_of (σ := Nat) (fun i => ⟨[(0, .one (.pv (.string s))), (3, .one (.pv (.int .i64 i)))], [], [(0, [sT s])]⟩) (fun i => i ≤ s.size ∧ (s.data.toList.take i).all nameCh = true) (fun i => s.size - i) 0 ?_ ⟨Nat.zero_le _, rfl⟩ ?_
  · simp -implicitDefEqProofs only [go_sem]; rfl
  · rintro i ⟨hi, hp⟩
    cases q : decide ((i : Int) < (s.size : Int))
    · have e := all_end (p := nameCh) (show s.data.toList.length ≤ i by simp only [decide_eq_false_iff_not] at q; omega) hp
      try simp -implicitDefEqProofs only [go_sem, q]
      repeat refine ⟨sc, ?_⟩
      try exact sf
      refine .of (c_s_l1In _ _ _) ?_
      try simp -implicitDefEqProofs only [go_sem, e]
      repeat refine ⟨sc, ?_⟩
      try exact sf
    · have hi' : i < s.size := by simp only [decide_eq_true_eq] at q; omega
      have hi2 : i < s.data.toList.length := by omega
      have q1 : decide (i < s.size) = true := decide_eq_true hi'
      have eg : s.data.toList.getD i 0 = s.data.toList[i] := by rw [List.getD_eq_getElem?_getD, List.getElem?_eq_getElem hi2]; rfl
      have hb := s.data.toList[i].toNat_lt
      have w1 : IntKind.i64.wrap ((s.data.toList[i].toNat : Nat) : Int) = (s.data.toList[i].toNat : Nat) := IntWalk.i64_in _ (by omega)
      try simp -implicitDefEqProofs only [go_sem, q, q1, eg, w1]
      repeat refine ⟨sc, ?_⟩
      try exact sf
      refine .of (c_s_l1In _ _ _) ?_
      try simp -implicitDefEqProofs only [go_sem]
      repeat refine ⟨sc, ?_⟩
      try exact sf
      cases g1 : win ((s.data.toList[i].toNat : Nat) : Int) 97 122
      · try simp -implicitDefEqProofs only [go_sem, q1, eg, w1]
        repeat refine ⟨sc, ?_⟩
        try exact sf
        refine .of (c_s_l1In _ _ _) ?_
        try simp -implicitDefEqProofs only [go_sem]
        repeat refine ⟨sc, ?_⟩
        try exact sf
        cases g2 : win ((s.data.toList[i].toNat : Nat) : Int) 48 57
        · have e := all_not (p := nameCh) hi2 (by simp only [nameCh, g1, g2, Bool.or_false])
          try simp -implicitDefEqProofs only [go_sem, e]
          repeat refine ⟨sc, ?_⟩
          try exact sf
        · try simp -implicitDefEqProofs only [go_sem]
          repeat refine ⟨sc, ?_⟩
          try exact sf
          refine ⟨i + 1, by rw [IntWalk.i64_in _ (by omega)]; rfl, ⟨hi', all_step (p := nameCh) hi2 hp (by simp only [nameCh, g1, g2, Bool.or_true])⟩, by omega⟩
      · try simp -implicitDefEqProofs only [go_sem]
        repeat refine ⟨sc, ?_⟩
        try exact sf
        refine ⟨i + 1, by rw [IntWalk.i64_in _ (by omega)]; rfl, ⟨hi', all_step (p := nameCh) hi2 hp (by simp only [nameCh, g1, Bool.true_or])⟩, by omega⟩
end Go.X

/- Ve -/
namespace Go.X
set_option maxRecDepth 100000
set_option maxHeartbeats 8000000
def RowV.ok (r : RowV) : Bool := nameOk r.Key && win r.Has 1 3 &&
  (if r.Has = 1 then r.Old.ok && (r.Old.Tag != 0) && (r.Old.text.2 || r.Aside) && r.New.no
   else if r.Has = 2 then r.Old.no && (r.New.Tag == 0) && r.New.text.2
   else r.Old.ok && (r.Old.Tag != 0) && r.Old.text.2 && (r.New.Tag == 0) && r.New.text.2 && sameText r.Old r.New)
theorem and1_has (h : Int) (hh : h = 1 ∨ h = 2 ∨ h = 3) : (andK .i64 h 1 == 1) = decide (h ≠ 2) := by
  rw [andK_def]
  rcases hh with rfl | rfl | rfl <;> decide
theorem and2_has (h : Int) (hh : h = 1 ∨ h = 2 ∨ h = 3) : (andK .i64 h 2 == 2) = decide (h ≠ 1) := by
  rw [andK_def]
  rcases hh with rfl | rfl | rfl <;> decide
theorem win13 {h : Int} (g : win h 1 3 = true) : h = 1 ∨ h = 2 ∨ h = 3 := by
  simp only [win, Bool.and_eq_true, decide_eq_true_eq] at g
  omega
theorem tag_no {c : CellV} (h : win c.Tag 1 5 = false) : (c.ok && (c.Tag != 0)) = false := by
  cases g : c.ok
  · rfl
  · simp only [CellV.ok, win, Bool.and_eq_true, decide_eq_true_eq] at g
    simp only [win, Bool.and_eq_false_iff, decide_eq_false_iff_not] at h
    have : c.Tag = 0 := by omega
    rw [this]
    rfl
theorem tag_yes {c : CellV} (h : win c.Tag 1 5 = true) : (c.Tag != 0) = true := by
  simp only [win, Bool.and_eq_true, decide_eq_true_eq] at h
  simp only [bne_iff_ne]
  omega
theorem rowOk_name {r : RowV} (h : nameOk r.Key = false) : r.ok = false := by simp only [RowV.ok, h, Bool.false_and]
theorem rowOk_has {r : RowV} (h : win r.Has 1 3 = false) : r.ok = false := by simp only [RowV.ok, h, Bool.and_false, Bool.false_and]
theorem rowOk_1 {k : ByteArray} {o n : CellV} {a : Bool} (h : nameOk k = true) : (RowV.mk k o n 1 a).ok = (o.ok && (o.Tag != 0) && (o.text.2 || a) && n.no) := by simp only [RowV.ok, h]; rfl
theorem rowOk_2 {k : ByteArray} {o n : CellV} {a : Bool} (h : nameOk k = true) : (RowV.mk k o n 2 a).ok = (o.no && (n.Tag == 0) && n.text.2) := by simp only [RowV.ok, h]; rfl
theorem rowOk_3 {k : ByteArray} {o n : CellV} {a : Bool} (h : nameOk k = true) : (RowV.mk k o n 3 a).ok = (o.ok && (o.Tag != 0) && o.text.2 && (n.Tag == 0) && n.text.2 && sameText o n) := by simp only [RowV.ok, h]; rfl
theorem rowOk_13 {r : RowV} (h : r.ok = true) : r.Has = 1 ∨ r.Has = 2 ∨ r.Has = 3 := by
  simp only [RowV.ok, Bool.and_eq_true] at h
  exact win13 h.1.2
theorem text_no {c : CellV} (h : c.ok = false) : c.text.2 = false := by rw [CellV.text, h]; rfl
def x_s_l9Old : FnX := ⟨7, [.tmp 2],
  .q [.v 1 0, .F 2]
 (.q [.f 3 1 5, .l 4 3, .B 5 .and 4 1, .B 6 .eql 5 1, .m 2 6]
 .ret)⟩
abbrev C_s_l9Old (Te : TE) : Prop := ∀ (r : RowV) (h : r.Has = 1 ∨ r.Has = 2 ∨ r.Has = 3), Te 151 [.agg (r.enc false)] ⟨[.one (bT (decide (r.Has ≠ 2)))], [r.enc false]⟩
theorem r_s_l9Old {Te : TE} : C_s_l9Old (RF Te x_s_l9Old) := by
  intro r h
  refine run0 ?_
  have e := and1_has _ h
  simp -implicitDefEqProofs only [x_s_l9Old, go_sem, e]
  repeat refine ⟨sc, ?_⟩
  try exact sf
def x_s_l9New : FnX := ⟨7, [.tmp 2],
  .q [.v 1 0, .F 2]
 (.q [.f 3 1 5, .l 4 3, .B 5 .and 4 2, .B 6 .eql 5 2, .m 2 6]
 .ret)⟩
abbrev C_s_l9New (Te : TE) : Prop := ∀ (r : RowV) (h : r.Has = 1 ∨ r.Has = 2 ∨ r.Has = 3), Te 32 [.agg (r.enc false)] ⟨[.one (bT (decide (r.Has ≠ 1)))], [r.enc false]⟩
theorem r_s_l9New {Te : TE} : C_s_l9New (RF Te x_s_l9New) := by
  intro r h
  refine run0 ?_
  have e := and2_has _ h
  simp -implicitDefEqProofs only [x_s_l9New, go_sem, e]
  repeat refine ⟨sc, ?_⟩
  try exact sf
def x_i_RowOk : FnX := ⟨89, [.tmp 2],
  .q [.v 1 0, .F 2]
 (.seq (.q [.f 9 1 0, .l 10 9, .c 11 154 [10], .N 12 11, .m 13 12, ⟨(some (13, false)), some 14, 14, .faddr (.t 1) 5⟩, ⟨(some (13, false)), some 15, 15, .load none (.t 14)⟩, ⟨(some (13, false)), some 16, 16, .call 25 [0, 0, 0] [(.t 15), (.i 1), (.i 3)]⟩, ⟨(some (13, false)), some 17, 17, .not (.t 16)⟩, .r 18 13 17]
 (.c 18 (.q [.F 2]
 .ret)))
 (.q [.f 20 1 1, .L 21 2 20, .c 22 39 [21], .m 19 22, .e 23 19 0, .e 24 19 1, .m 3 23, .m 4 24]
 (.q [.f 26 1 3, .L 27 2 26, .c 28 39 [27], .m 25 28, .e 29 25 0, .e 30 25 1, .m 5 29, .m 6 30]
 (.q [.f 31 1 1, .L 32 2 31, .op 33 (.build [.i 0, .nils 1] []), .c 34 163 [32, 33], .m 7 34]
 (.seq (.q [.f 35 1 5, .l 36 35, .B 37 .neq 36 2]
 (.c 37 (.reg [.f 38 1 1, .L 39 2 38, .c 40 63 [39], .m 41 40, ⟨(some (41, true)), some 42, 42, .faddr (.t 1) 1⟩, ⟨(some (41, true)), some 43, 43, .faddr (.t 42) 0⟩, ⟨(some (41, true)), some 44, 44, .load none (.t 43)⟩, ⟨(some (41, true)), some 45, 45, .bin .neq (.t 44) (.i 0)⟩, .a 46 41 45, .m 47 46, ⟨(some (47, true)), some 48, 48, .mv (.t 4)⟩, ⟨(some (47, true)), some 49, 49, .mv (.t 48)⟩, ⟨(some (49, false)), some 50, 50, .faddr (.t 1) 6⟩, ⟨(some (49, false)), some 51, 51, .load none (.t 50)⟩, ⟨(some (49, false)), some 52, 52, .mv (.t 51)⟩, ⟨(some (52, true)), some 53, 53, .faddr (.t 1) 5⟩, ⟨(some (52, true)), some 54, 54, .load none (.t 53)⟩, ⟨(some (52, true)), some 55, 55, .bin .eql (.t 54) (.i 1)⟩, ⟨(some (49, false)), some 56, 56, .pick (.t 52) (.t 55) .F⟩, ⟨(some (47, true)), some 57, 57, .pick (.t 49) .T (.t 56)⟩, .a 58 47 57, .m 7 58])))
 (.q [.f 59 1 3, .L 60 2 59, .op 61 (.build [.i 0, .nils 1] []), .c 62 163 [60, 61], .m 8 62]
 (.seq (.q [.f 63 1 5, .l 64 63, .B 65 .neq 64 1]
 (.c 65 (.reg [.f 66 1 3, .f 67 66 0, .l 68 67, .B 69 .eql 68 0, .m 70 69, ⟨(some (70, true)), some 71, 71, .mv (.t 6)⟩, .a 72 70 71, .m 8 72])))
 (.q [.m 73 7, .m 74 73, ⟨(some (74, true)), some 75, 75, .mv (.t 8)⟩, .a 76 74 75, .m 77 76, ⟨(some (77, true)), some 78, 78, .faddr (.t 1) 5⟩, ⟨(some (77, true)), some 79, 79, .load none (.t 78)⟩, ⟨(some (77, true)), some 80, 80, .bin .neq (.t 79) (.i 3)⟩, ⟨(some (77, true)), some 81, 81, .mv (.t 80)⟩, ⟨(some (81, false)), some 82, 82, .faddr (.t 1) 1⟩, ⟨(some (81, false)), some 83, 83, .load (some 2) (.t 82)⟩, ⟨(some (81, false)), some 84, 84, .faddr (.t 1) 3⟩, ⟨(some (81, false)), some 85, 85, .load (some 2) (.t 84)⟩, ⟨(some (81, false)), some 86, 86, .call 164 [0, 0] [(.t 83), (.t 85)]⟩, ⟨(some (77, true)), some 87, 87, .pick (.t 81) .T (.t 86)⟩, .a 88 77 87, .m 2 88]
 .ret))))))))⟩
abbrev C_i_RowOk (Te : TE) : Prop := ∀ (r : RowV) (h : r.In (2 ^ 48)), Te 139 [.agg (r.enc false)] ⟨[.one (bT r.ok)], [r.enc false]⟩
theorem r_i_RowOk {Te : TE} (c_i_NameOk : C_i_NameOk Te) (c_i_within : C_i_within Te) (c_i_CellText : C_i_CellText Te) (c_i_sameCell : C_i_sameCell Te) (c_i_CellOk : C_i_CellOk Te) (c_i_SameText : C_i_SameText Te) : C_i_RowOk (RF Te x_i_RowOk) := by
  intro r h
  refine run0 ?_
  obtain ⟨hk, _⟩ := h
  simp -implicitDefEqProofs only [x_i_RowOk, go_sem]
  repeat refine ⟨sc, ?_⟩
  try exact sf
  refine .of (c_i_NameOk r.Key hk) ?_
  try simp -implicitDefEqProofs only [go_sem]
  repeat refine ⟨sc, ?_⟩
  try exact sf
  cases g1 : nameOk r.Key
  · have e := rowOk_name (r := r) g1
    try simp -implicitDefEqProofs only [go_sem, e]
    repeat refine ⟨sc, ?_⟩
    try exact sf
  try simp -implicitDefEqProofs only [go_sem]
  repeat refine ⟨sc, ?_⟩
  try exact sf
  refine .of (c_i_within _ _ _) ?_
  try simp -implicitDefEqProofs only [go_sem]
  repeat refine ⟨sc, ?_⟩
  try exact sf
  cases g2 : win r.Has 1 3
  · have e := rowOk_has (r := r) g2
    try simp -implicitDefEqProofs only [go_sem, e]
    repeat refine ⟨sc, ?_⟩
    try exact sf
  have h3 := win13 g2
  obtain ⟨key, old, new, has, aside⟩ := r
  simp only at h3 g1 hk
  clear g2
  rcases h3 with rfl | rfl | rfl
  · skip
    have e := rowOk_1 (o := old) (n := new) (a := aside) g1
    try simp -implicitDefEqProofs only [go_sem]
    repeat refine ⟨sc, ?_⟩
    try exact sf
    refine .of (c_i_CellText old) ?_
    try simp -implicitDefEqProofs only [go_sem]
    repeat refine ⟨sc, ?_⟩
    try exact sf
    refine .of (c_i_CellText new) ?_
    try simp -implicitDefEqProofs only [go_sem]
    repeat refine ⟨sc, ?_⟩
    try exact sf
    refine .of (c_i_sameCell old ⟨0, []⟩) ?_
    try simp -implicitDefEqProofs only [go_sem, CellV.no]
    repeat refine ⟨sc, ?_⟩
    try exact sf
    refine .of (c_i_CellOk old) ?_
    try simp -implicitDefEqProofs only [go_sem]
    repeat refine ⟨sc, ?_⟩
    try exact sf
    have fin0 : ∀ z, z = false → True := fun _ _ => trivial
    cases o1 : old.ok
    · try simp -implicitDefEqProofs only [go_sem, o1]
      repeat refine ⟨sc, ?_⟩
      try exact sf
      refine .of (c_i_sameCell new ⟨0, []⟩) ?_
      try simp -implicitDefEqProofs only [go_sem, CellV.no, e, o1]
      repeat refine ⟨sc, ?_⟩
      try exact sf
    · cases o2 : (old.Tag != 0)
      · try simp -implicitDefEqProofs only [go_sem, o1, o2]
        repeat refine ⟨sc, ?_⟩
        try exact sf
        refine .of (c_i_sameCell new ⟨0, []⟩) ?_
        try simp -implicitDefEqProofs only [go_sem, CellV.no, e, o1, o2]
        repeat refine ⟨sc, ?_⟩
        try exact sf
      · cases o3 : old.text.2
        · cases aside
          · try simp -implicitDefEqProofs only [go_sem, o1, o2, o3]
            repeat refine ⟨sc, ?_⟩
            try exact sf
            refine .of (c_i_sameCell new ⟨0, []⟩) ?_
            try simp -implicitDefEqProofs only [go_sem, CellV.no, e, o1, o2, o3]
            repeat refine ⟨sc, ?_⟩
            try exact sf
          · try simp -implicitDefEqProofs only [go_sem, o1, o2, o3, CellV.no]
            repeat refine ⟨sc, ?_⟩
            try exact sf
            refine .of (c_i_sameCell new ⟨0, []⟩) ?_
            try simp -implicitDefEqProofs only [go_sem, CellV.no]
            repeat refine ⟨sc, ?_⟩
            try exact sf
            cases n1 : ((new.Tag == 0) && decide (new.B = []))
            · try simp -implicitDefEqProofs only [go_sem, n1, CellV.no, e, o1, o2, o3]
              repeat refine ⟨sc, ?_⟩
              try exact sf
            · try simp -implicitDefEqProofs only [go_sem, n1, CellV.no, e, o1, o2, o3]
              repeat refine ⟨sc, ?_⟩
              try exact sf
        · try simp -implicitDefEqProofs only [go_sem, o1, o2, o3, CellV.no]
          repeat refine ⟨sc, ?_⟩
          try exact sf
          refine .of (c_i_sameCell new ⟨0, []⟩) ?_
          try simp -implicitDefEqProofs only [go_sem, CellV.no]
          repeat refine ⟨sc, ?_⟩
          try exact sf
          cases n1 : ((new.Tag == 0) && decide (new.B = []))
          · try simp -implicitDefEqProofs only [go_sem, n1, CellV.no, e, o1, o2, o3]
            repeat refine ⟨sc, ?_⟩
            try exact sf
          · try simp -implicitDefEqProofs only [go_sem, n1, CellV.no, e, o1, o2, o3]
            repeat refine ⟨sc, ?_⟩
            try exact sf
  · skip
    have e := rowOk_2 (o := old) (n := new) (a := aside) g1
    try simp -implicitDefEqProofs only [go_sem]
    repeat refine ⟨sc, ?_⟩
    try exact sf
    refine .of (c_i_CellText old) ?_
    try simp -implicitDefEqProofs only [go_sem]
    repeat refine ⟨sc, ?_⟩
    try exact sf
    refine .of (c_i_CellText new) ?_
    try simp -implicitDefEqProofs only [go_sem]
    repeat refine ⟨sc, ?_⟩
    try exact sf
    refine .of (c_i_sameCell old ⟨0, []⟩) ?_
    try simp -implicitDefEqProofs only [go_sem, CellV.no]
    repeat refine ⟨sc, ?_⟩
    try exact sf
    refine .of (c_i_sameCell new ⟨0, []⟩) ?_
    try simp -implicitDefEqProofs only [go_sem, CellV.no]
    repeat refine ⟨sc, ?_⟩
    try exact sf
    cases o1 : ((old.Tag == 0) && decide (old.B = []))
    · cases n1 : (new.Tag == 0)
      · try simp -implicitDefEqProofs only [go_sem, o1, n1, e, CellV.no]
        repeat refine ⟨sc, ?_⟩
        try exact sf
      · try simp -implicitDefEqProofs only [go_sem, o1, n1, e, CellV.no]
        repeat refine ⟨sc, ?_⟩
        try exact sf
    · cases n1 : (new.Tag == 0)
      · try simp -implicitDefEqProofs only [go_sem, o1, n1, e, CellV.no]
        repeat refine ⟨sc, ?_⟩
        try exact sf
      · cases n2 : new.text.2
        · try simp -implicitDefEqProofs only [go_sem, o1, n1, n2, e, CellV.no]
          repeat refine ⟨sc, ?_⟩
          try exact sf
        · try simp -implicitDefEqProofs only [go_sem, o1, n1, n2, e, CellV.no]
          repeat refine ⟨sc, ?_⟩
          try exact sf
  · skip
    have e := rowOk_3 (o := old) (n := new) (a := aside) g1
    try simp -implicitDefEqProofs only [go_sem]
    repeat refine ⟨sc, ?_⟩
    try exact sf
    refine .of (c_i_CellText old) ?_
    try simp -implicitDefEqProofs only [go_sem]
    repeat refine ⟨sc, ?_⟩
    try exact sf
    refine .of (c_i_CellText new) ?_
    try simp -implicitDefEqProofs only [go_sem]
    repeat refine ⟨sc, ?_⟩
    try exact sf
    refine .of (c_i_sameCell old ⟨0, []⟩) ?_
    try simp -implicitDefEqProofs only [go_sem, CellV.no]
    repeat refine ⟨sc, ?_⟩
    try exact sf
    refine .of (c_i_CellOk old) ?_
    try simp -implicitDefEqProofs only [go_sem]
    repeat refine ⟨sc, ?_⟩
    try exact sf
    cases o1 : old.ok
    · try simp -implicitDefEqProofs only [go_sem, o1]
      repeat refine ⟨sc, ?_⟩
      try exact sf
      refine .of (c_i_sameCell new ⟨0, []⟩) ?_
      try simp -implicitDefEqProofs only [go_sem, CellV.no]
      repeat refine ⟨sc, ?_⟩
      try exact sf
      cases n1 : (new.Tag == 0)
      · try simp -implicitDefEqProofs only [go_sem, n1, CellV.no, e, o1]
        repeat refine ⟨sc, ?_⟩
        try exact sf
      · try simp -implicitDefEqProofs only [go_sem, n1, CellV.no, e, o1]
        repeat refine ⟨sc, ?_⟩
        try exact sf
    · cases o2 : (old.Tag != 0)
      · try simp -implicitDefEqProofs only [go_sem, o1, o2]
        repeat refine ⟨sc, ?_⟩
        try exact sf
        refine .of (c_i_sameCell new ⟨0, []⟩) ?_
        try simp -implicitDefEqProofs only [go_sem, CellV.no]
        repeat refine ⟨sc, ?_⟩
        try exact sf
        cases n1 : (new.Tag == 0)
        · try simp -implicitDefEqProofs only [go_sem, n1, CellV.no, e, o1, o2]
          repeat refine ⟨sc, ?_⟩
          try exact sf
        · try simp -implicitDefEqProofs only [go_sem, n1, CellV.no, e, o1, o2]
          repeat refine ⟨sc, ?_⟩
          try exact sf
      · cases o3 : old.text.2
        · cases aside
          · try simp -implicitDefEqProofs only [go_sem, o1, o2, o3, CellV.no]
            repeat refine ⟨sc, ?_⟩
            try exact sf
            refine .of (c_i_sameCell new ⟨0, []⟩) ?_
            try simp -implicitDefEqProofs only [go_sem, CellV.no]
            repeat refine ⟨sc, ?_⟩
            try exact sf
            cases n1 : (new.Tag == 0)
            · try simp -implicitDefEqProofs only [go_sem, n1, CellV.no, e, o1, o2, o3]
              repeat refine ⟨sc, ?_⟩
              try exact sf
            · try simp -implicitDefEqProofs only [go_sem, n1, CellV.no, e, o1, o2, o3]
              repeat refine ⟨sc, ?_⟩
              try exact sf
          · try simp -implicitDefEqProofs only [go_sem, o1, o2, o3, CellV.no]
            repeat refine ⟨sc, ?_⟩
            try exact sf
            refine .of (c_i_sameCell new ⟨0, []⟩) ?_
            try simp -implicitDefEqProofs only [go_sem, CellV.no]
            repeat refine ⟨sc, ?_⟩
            try exact sf
            cases n1 : (new.Tag == 0)
            · try simp -implicitDefEqProofs only [go_sem, n1, CellV.no, e, o1, o2, o3]
              repeat refine ⟨sc, ?_⟩
              try exact sf
            · try simp -implicitDefEqProofs only [go_sem, n1, CellV.no, e, o1, o2, o3]
              repeat refine ⟨sc, ?_⟩
              try exact sf
        · try simp -implicitDefEqProofs only [go_sem, o1, o2, o3, CellV.no]
          repeat refine ⟨sc, ?_⟩
          try exact sf
          refine .of (c_i_sameCell new ⟨0, []⟩) ?_
          try simp -implicitDefEqProofs only [go_sem, CellV.no]
          repeat refine ⟨sc, ?_⟩
          try exact sf
          cases n1 : (new.Tag == 0)
          · try simp -implicitDefEqProofs only [go_sem, n1, CellV.no, e, o1, o2, o3]
            repeat refine ⟨sc, ?_⟩
            try exact sf
          · cases n2 : new.text.2
            · try simp -implicitDefEqProofs only [go_sem, n1, n2, CellV.no, e, o1, o2, o3]
              repeat refine ⟨sc, ?_⟩
              try exact sf
            · try simp -implicitDefEqProofs only [go_sem, n1, n2, CellV.no]
              repeat refine ⟨sc, ?_⟩
              try exact sf
              refine .of (c_i_SameText old new) ?_
              try simp -implicitDefEqProofs only [go_sem, e, o1, o2, o3, n1, n2]
              repeat refine ⟨sc, ?_⟩
              try exact sf
def x_s_RowOk : FnX := ⟨106, [.tmp 2],
  .q [.v 1 0, .F 2]
 (.seq (.q [.f 7 1 0, .l 8 7, .c 9 148 [8], .N 10 9, .m 11 10, ⟨(some (11, false)), some 12, 12, .faddr (.t 1) 5⟩, ⟨(some (11, false)), some 13, 13, .load none (.t 12)⟩, ⟨(some (11, false)), some 14, 14, .call 23 [0, 0, 0] [(.t 13), (.i 1), (.i 3)]⟩, ⟨(some (11, false)), some 15, 15, .not (.t 14)⟩, .r 16 11 15, .m 17 16, ⟨(some (17, false)), some 18, 18, .load (some 7) (.t 1)⟩, ⟨(some (17, false)), some 19, 19, .call 151 [0] [(.t 18)]⟩, ⟨(some (17, false)), some 20, 20, .not (.t 19)⟩, ⟨(some (17, false)), some 21, 21, .mv (.t 20)⟩, ⟨(some (21, true)), some 22, 22, .faddr (.t 1) 1⟩, ⟨(some (21, true)), some 23, 23, .load (some 2) (.t 22)⟩, ⟨(some (21, true)), some 24, 24, .call 156 [0] [(.t 23)]⟩, ⟨(some (21, true)), some 25, 25, .not (.t 24)⟩, ⟨(some (17, false)), some 26, 26, .pick (.t 21) (.t 25) .F⟩, .r 27 17 26, .m 28 27, ⟨(some (28, false)), some 29, 29, .load (some 7) (.t 1)⟩, ⟨(some (28, false)), some 30, 30, .call 32 [0] [(.t 29)]⟩, ⟨(some (28, false)), some 31, 31, .not (.t 30)⟩, ⟨(some (28, false)), some 32, 32, .mv (.t 31)⟩, ⟨(some (32, true)), some 33, 33, .faddr (.t 1) 3⟩, ⟨(some (32, true)), some 34, 34, .load (some 2) (.t 33)⟩, ⟨(some (32, true)), some 35, 35, .call 156 [0] [(.t 34)]⟩, ⟨(some (32, true)), some 36, 36, .not (.t 35)⟩, ⟨(some (28, false)), some 37, 37, .pick (.t 32) (.t 36) .F⟩, .r 38 28 37]
 (.c 38 (.q [.F 2]
 .ret)))
 (.q [.f 40 1 1, .L 41 2 40, .c 42 33 [41], .m 39 42, .e 43 39 0, .e 44 39 1, .m 3 43, .m 4 44]
 (.q [.f 46 1 3, .L 47 2 46, .c 48 33 [47], .m 45 48, .e 49 45 0, .e 50 45 1, .m 5 49, .m 6 50]
 (.seq (.block 0 (.q [.L 52 7 1, .c 53 151 [52], .m 54 53, ⟨(some (54, true)), some 55, 55, .faddr (.t 1) 1⟩, ⟨(some (54, true)), some 56, 56, .faddr (.t 55) 0⟩, ⟨(some (54, true)), some 57, 57, .load none (.t 56)⟩, ⟨(some (54, true)), some 58, 58, .call 23 [0, 0, 0] [(.t 57), (.i 1), (.i 5)]⟩, ⟨(some (54, true)), some 59, 59, .not (.t 58)⟩, ⟨(some (54, true)), some 60, 60, .mv (.t 59)⟩, ⟨(some (60, false)), some 61, 61, .faddr (.t 1) 1⟩, ⟨(some (60, false)), some 62, 62, .load (some 2) (.t 61)⟩, ⟨(some (60, false)), some 63, 63, .call 56 [0] [(.t 62)]⟩, ⟨(some (60, false)), some 64, 64, .not (.t 63)⟩, ⟨(some (54, true)), some 65, 65, .pick (.t 60) .T (.t 64)⟩, .a 66 54 65, .m 51 66]
 (.cond 51 (.q [.F 2]
 .ret) (.q [.L 68 7 1, .c 69 32 [68], .m 70 69, ⟨(some (70, true)), some 71, 71, .faddr (.t 1) 3⟩, ⟨(some (70, true)), some 72, 72, .faddr (.t 71) 0⟩, ⟨(some (70, true)), some 73, 73, .load none (.t 72)⟩, ⟨(some (70, true)), some 74, 74, .bin .neq (.t 73) (.i 0)⟩, ⟨(some (70, true)), some 75, 75, .mv (.t 74)⟩, ⟨(some (75, false)), some 76, 76, .mv (.t 6)⟩, ⟨(some (75, false)), some 77, 77, .not (.t 76)⟩, ⟨(some (70, true)), some 78, 78, .pick (.t 75) .T (.t 77)⟩, .a 79 70 78, .m 67 79]
 (.cond 67 (.q [.F 2]
 .ret) (.q [.L 81 7 1, .c 82 151 [81], .m 83 82, ⟨(some (83, true)), some 84, 84, .mv (.t 4)⟩, ⟨(some (83, true)), some 85, 85, .not (.t 84)⟩, .a 86 83 85, .m 87 86, ⟨(some (87, true)), some 88, 88, .faddr (.t 1) 6⟩, ⟨(some (87, true)), some 89, 89, .load none (.t 88)⟩, ⟨(some (87, true)), some 90, 90, .not (.t 89)⟩, ⟨(some (87, true)), some 91, 91, .mv (.t 90)⟩, ⟨(some (91, false)), some 92, 92, .load (some 7) (.t 1)⟩, ⟨(some (91, false)), some 93, 93, .call 32 [0] [(.t 92)]⟩, ⟨(some (87, true)), some 94, 94, .pick (.t 91) .T (.t 93)⟩, .a 95 87 94, .m 80 95]
 (.c 80 (.q [.F 2]
 .ret))))))))
 (.q [.f 96 1 5, .l 97 96, .B 98 .neq 97 3, .m 99 98, ⟨(some (99, false)), some 100, 100, .faddr (.t 1) 1⟩, ⟨(some (99, false)), some 101, 101, .load (some 2) (.t 100)⟩, ⟨(some (99, false)), some 102, 102, .faddr (.t 1) 3⟩, ⟨(some (99, false)), some 103, 103, .load (some 2) (.t 102)⟩, ⟨(some (99, false)), some 104, 104, .call 157 [0, 0] [(.t 101), (.t 103)]⟩, .r 105 99 104, .m 2 105]
 .ret)))))⟩
abbrev C_s_RowOk (Te : TE) : Prop := ∀ (r : RowV) (h : r.In (2 ^ 48)), Te 132 [.agg (r.enc false)] ⟨[.one (bT r.ok)], [r.enc false]⟩
theorem r_s_RowOk {Te : TE} (c_s_NameOk : C_s_NameOk Te) (c_s_l1In : C_s_l1In Te) (c_s_l9Old : C_s_l9Old Te) (c_s_l9None : C_s_l9None Te) (c_s_l9New : C_s_l9New Te) (c_s_CellText : C_s_CellText Te) (c_s_CellOk : C_s_CellOk Te) (c_s_SameText : C_s_SameText Te) : C_s_RowOk (RF Te x_s_RowOk) := by
  intro r h
  refine run0 ?_
  obtain ⟨hk, _⟩ := h
  simp -implicitDefEqProofs only [x_s_RowOk, go_sem]
  repeat refine ⟨sc, ?_⟩
  try exact sf
  refine .of (c_s_NameOk r.Key hk) ?_
  try simp -implicitDefEqProofs only [go_sem]
  repeat refine ⟨sc, ?_⟩
  try exact sf
  cases g1 : nameOk r.Key
  · have e := rowOk_name (r := r) g1
    try simp -implicitDefEqProofs only [go_sem, e]
    repeat refine ⟨sc, ?_⟩
    try exact sf
  try simp -implicitDefEqProofs only [go_sem]
  repeat refine ⟨sc, ?_⟩
  try exact sf
  refine .of (c_s_l1In _ _ _) ?_
  try simp -implicitDefEqProofs only [go_sem]
  repeat refine ⟨sc, ?_⟩
  try exact sf
  cases g2 : win r.Has 1 3
  · have e := rowOk_has (r := r) g2
    try simp -implicitDefEqProofs only [go_sem, e]
    repeat refine ⟨sc, ?_⟩
    try exact sf
  have h3 := win13 g2
  obtain ⟨key, old, new, has, aside⟩ := r
  simp only at h3 g1 hk
  clear g2
  rcases h3 with rfl | rfl | rfl
  · skip
    have e := rowOk_1 (o := old) (n := new) (a := aside) g1
    try simp -implicitDefEqProofs only [go_sem]
    repeat refine ⟨sc, ?_⟩
    try exact sf
    refine .of (c_s_l9Old ⟨key, old, new, 1, aside⟩ (by simp)) ?_
    try simp -implicitDefEqProofs only [go_sem]
    repeat refine ⟨sc, ?_⟩
    try exact sf
    refine .of (c_s_l9New ⟨key, old, new, 1, aside⟩ (by simp)) ?_
    try simp -implicitDefEqProofs only [go_sem]
    repeat refine ⟨sc, ?_⟩
    try exact sf
    refine .of (c_s_l9None new) ?_
    try simp -implicitDefEqProofs only [go_sem]
    repeat refine ⟨sc, ?_⟩
    try exact sf
    cases n1 : new.no
    · try simp -implicitDefEqProofs only [go_sem, n1, e]
      repeat refine ⟨sc, ?_⟩
      try exact sf
    try simp -implicitDefEqProofs only [go_sem, n1]
    repeat refine ⟨sc, ?_⟩
    try exact sf
    refine .of (c_s_CellText old) ?_
    try simp -implicitDefEqProofs only [go_sem]
    repeat refine ⟨sc, ?_⟩
    try exact sf
    refine .of (c_s_CellText new) ?_
    try simp -implicitDefEqProofs only [go_sem]
    repeat refine ⟨sc, ?_⟩
    try exact sf
    refine .of (c_s_l9Old ⟨key, old, new, 1, aside⟩ (by simp)) ?_
    try simp -implicitDefEqProofs only [go_sem]
    repeat refine ⟨sc, ?_⟩
    try exact sf
    refine .of (c_s_l1In _ _ _) ?_
    try simp -implicitDefEqProofs only [go_sem]
    repeat refine ⟨sc, ?_⟩
    try exact sf
    cases w : win old.Tag 1 5
    · have e2 := tag_no w
      try simp -implicitDefEqProofs only [go_sem, w, e, e2]
      repeat refine ⟨sc, ?_⟩
      try exact sf
    have t := tag_yes w
    try simp -implicitDefEqProofs only [go_sem, w]
    repeat refine ⟨sc, ?_⟩
    try exact sf
    refine .of (c_s_CellOk old) ?_
    try simp -implicitDefEqProofs only [go_sem]
    repeat refine ⟨sc, ?_⟩
    try exact sf
    cases o1 : old.ok
    · try simp -implicitDefEqProofs only [go_sem, o1, e]
      repeat refine ⟨sc, ?_⟩
      try exact sf
    try simp -implicitDefEqProofs only [go_sem, o1]
    repeat refine ⟨sc, ?_⟩
    try exact sf
    refine .of (c_s_l9New ⟨key, old, new, 1, aside⟩ (by simp)) ?_
    try simp -implicitDefEqProofs only [go_sem]
    repeat refine ⟨sc, ?_⟩
    try exact sf
    refine .of (c_s_l9Old ⟨key, old, new, 1, aside⟩ (by simp)) ?_
    try simp -implicitDefEqProofs only [go_sem]
    repeat refine ⟨sc, ?_⟩
    try exact sf
    cases o3 : old.text.2
    · cases aside
      · try simp -implicitDefEqProofs only [go_sem, o3, e, o1, t]
        repeat refine ⟨sc, ?_⟩
        try exact sf
      · try simp -implicitDefEqProofs only [go_sem, o3]
        repeat refine ⟨sc, ?_⟩
        try exact sf
        refine .of (c_s_l9New ⟨key, old, new, 1, true⟩ (by simp)) ?_
        try simp -implicitDefEqProofs only [go_sem, e, o1, t, o3, n1]
        repeat refine ⟨sc, ?_⟩
        try exact sf
    · try simp -implicitDefEqProofs only [go_sem, o3, e, o1, t, n1]
      repeat refine ⟨sc, ?_⟩
      try exact sf
  · skip
    have e := rowOk_2 (o := old) (n := new) (a := aside) g1
    try simp -implicitDefEqProofs only [go_sem]
    repeat refine ⟨sc, ?_⟩
    try exact sf
    refine .of (c_s_l9Old ⟨key, old, new, 2, aside⟩ (by simp)) ?_
    try simp -implicitDefEqProofs only [go_sem]
    repeat refine ⟨sc, ?_⟩
    try exact sf
    refine .of (c_s_l9None old) ?_
    try simp -implicitDefEqProofs only [go_sem]
    repeat refine ⟨sc, ?_⟩
    try exact sf
    cases o1 : old.no
    · try simp -implicitDefEqProofs only [go_sem, o1, e]
      repeat refine ⟨sc, ?_⟩
      try exact sf
    try simp -implicitDefEqProofs only [go_sem, o1]
    repeat refine ⟨sc, ?_⟩
    try exact sf
    refine .of (c_s_l9New ⟨key, old, new, 2, aside⟩ (by simp)) ?_
    try simp -implicitDefEqProofs only [go_sem]
    repeat refine ⟨sc, ?_⟩
    try exact sf
    refine .of (c_s_CellText old) ?_
    try simp -implicitDefEqProofs only [go_sem]
    repeat refine ⟨sc, ?_⟩
    try exact sf
    refine .of (c_s_CellText new) ?_
    try simp -implicitDefEqProofs only [go_sem]
    repeat refine ⟨sc, ?_⟩
    try exact sf
    refine .of (c_s_l9Old ⟨key, old, new, 2, aside⟩ (by simp)) ?_
    try simp -implicitDefEqProofs only [go_sem]
    repeat refine ⟨sc, ?_⟩
    try exact sf
    refine .of (c_s_l9New ⟨key, old, new, 2, aside⟩ (by simp)) ?_
    try simp -implicitDefEqProofs only [go_sem]
    repeat refine ⟨sc, ?_⟩
    try exact sf
    cases n1 : (new.Tag == 0)
    · have n1' : (new.Tag != 0) = true := by rw [bne, n1]; rfl
      try simp -implicitDefEqProofs only [go_sem, n1', e, n1]
      repeat refine ⟨sc, ?_⟩
      try exact sf
    have n1' : (new.Tag != 0) = false := by rw [bne, n1]; rfl
    cases n2 : new.text.2
    · try simp -implicitDefEqProofs only [go_sem, n1', n2, e]
      repeat refine ⟨sc, ?_⟩
      try exact sf
    try simp -implicitDefEqProofs only [go_sem, n1', n2]
    repeat refine ⟨sc, ?_⟩
    try exact sf
    refine .of (c_s_l9Old ⟨key, old, new, 2, aside⟩ (by simp)) ?_
    try simp -implicitDefEqProofs only [go_sem, e, o1, n1, n2]
    repeat refine ⟨sc, ?_⟩
    try exact sf
  · skip
    have e := rowOk_3 (o := old) (n := new) (a := aside) g1
    try simp -implicitDefEqProofs only [go_sem]
    repeat refine ⟨sc, ?_⟩
    try exact sf
    refine .of (c_s_l9Old ⟨key, old, new, 3, aside⟩ (by simp)) ?_
    try simp -implicitDefEqProofs only [go_sem]
    repeat refine ⟨sc, ?_⟩
    try exact sf
    refine .of (c_s_l9New ⟨key, old, new, 3, aside⟩ (by simp)) ?_
    try simp -implicitDefEqProofs only [go_sem]
    repeat refine ⟨sc, ?_⟩
    try exact sf
    refine .of (c_s_CellText old) ?_
    try simp -implicitDefEqProofs only [go_sem]
    repeat refine ⟨sc, ?_⟩
    try exact sf
    refine .of (c_s_CellText new) ?_
    try simp -implicitDefEqProofs only [go_sem]
    repeat refine ⟨sc, ?_⟩
    try exact sf
    refine .of (c_s_l9Old ⟨key, old, new, 3, aside⟩ (by simp)) ?_
    try simp -implicitDefEqProofs only [go_sem]
    repeat refine ⟨sc, ?_⟩
    try exact sf
    refine .of (c_s_l1In _ _ _) ?_
    try simp -implicitDefEqProofs only [go_sem]
    repeat refine ⟨sc, ?_⟩
    try exact sf
    cases w : win old.Tag 1 5
    · have e2 := tag_no w
      try simp -implicitDefEqProofs only [go_sem, w, e, e2]
      repeat refine ⟨sc, ?_⟩
      try exact sf
    have t := tag_yes w
    try simp -implicitDefEqProofs only [go_sem, w]
    repeat refine ⟨sc, ?_⟩
    try exact sf
    refine .of (c_s_CellOk old) ?_
    try simp -implicitDefEqProofs only [go_sem]
    repeat refine ⟨sc, ?_⟩
    try exact sf
    cases o1 : old.ok
    · try simp -implicitDefEqProofs only [go_sem, o1, e]
      repeat refine ⟨sc, ?_⟩
      try exact sf
    try simp -implicitDefEqProofs only [go_sem, o1]
    repeat refine ⟨sc, ?_⟩
    try exact sf
    refine .of (c_s_l9New ⟨key, old, new, 3, aside⟩ (by simp)) ?_
    try simp -implicitDefEqProofs only [go_sem]
    repeat refine ⟨sc, ?_⟩
    try exact sf
    cases n1 : (new.Tag == 0)
    · have n1' : (new.Tag != 0) = true := by rw [bne, n1]; rfl
      try simp -implicitDefEqProofs only [go_sem, n1', e, n1]
      repeat refine ⟨sc, ?_⟩
      try exact sf
    have n1' : (new.Tag != 0) = false := by rw [bne, n1]; rfl
    cases n2 : new.text.2
    · try simp -implicitDefEqProofs only [go_sem, n1', n2, e]
      repeat refine ⟨sc, ?_⟩
      try exact sf
    try simp -implicitDefEqProofs only [go_sem, n1', n2]
    repeat refine ⟨sc, ?_⟩
    try exact sf
    refine .of (c_s_l9Old ⟨key, old, new, 3, aside⟩ (by simp)) ?_
    try simp -implicitDefEqProofs only [go_sem]
    repeat refine ⟨sc, ?_⟩
    try exact sf
    cases o3 : old.text.2
    · cases aside
      · try simp -implicitDefEqProofs only [go_sem, o3, e, o1, t]
        repeat refine ⟨sc, ?_⟩
        try exact sf
      · try simp -implicitDefEqProofs only [go_sem, o3]
        repeat refine ⟨sc, ?_⟩
        try exact sf
        refine .of (c_s_l9New ⟨key, old, new, 3, true⟩ (by simp)) ?_
        try simp -implicitDefEqProofs only [go_sem, e, o3]
        repeat refine ⟨sc, ?_⟩
        try exact sf
    try simp -implicitDefEqProofs only [go_sem, o3]
    repeat refine ⟨sc, ?_⟩
    try exact sf
    refine .of (c_s_SameText old new) ?_
    try simp -implicitDefEqProofs only [go_sem, e, o1, t, o3, n1, n2]
    repeat refine ⟨sc, ?_⟩
    try exact sf
end Go.X

/- Vg -/
namespace Go.X
set_option maxRecDepth 100000
set_option maxHeartbeats 8000000
def secGood (l : List UInt8) : Bool := !decide ((l.length : Int) > 120)
def wrGood (n : Nat) (w : WrV) : Bool := win w.N 0 ((n : Int) - 1) && !decide ((w.B.length : Int) > 120)
def DevV.ok (d : DevV) : Bool := win d.Secs.length 1 64 && decide ((d.Cache.length : Int) ≤ 40) && win d.Fuse (-1) 1000 && d.Secs.all secGood && d.Cache.all (wrGood d.Secs.length)
theorem gt_le (n : Nat) : decide ((n : Int) > 40) = !decide ((n : Int) ≤ 40) := by
  by_cases h : (n : Int) ≤ 40
  · rw [decide_eq_true h, decide_eq_false (by omega)]; rfl
  · rw [decide_eq_false h, decide_eq_true (by omega)]; rfl
def x_i_DevOk : FnX := ⟨57, [.tmp 2],
  .q [.v 1 0, .F 2]
 (.seq (.q [.f 7 1 0, .l 8 7, .n 9 8, .op 10 (.call 25 [0, 0, 0] [(.t 9), (.i 1), (.i 64)]), .N 11 10, .m 12 11, ⟨(some (12, false)), some 13, 13, .faddr (.t 1) 1⟩, ⟨(some (12, false)), some 14, 14, .load none (.t 13)⟩, ⟨(some (12, false)), some 15, 15, .len (.t 14)⟩, ⟨(some (12, false)), some 16, 16, .bin .gtr (.t 15) (.i 40)⟩, .r 17 12 16, .m 18 17, ⟨(some (18, false)), some 19, 19, .faddr (.t 1) 2⟩, ⟨(some (18, false)), some 20, 20, .load none (.t 19)⟩, ⟨(some (18, false)), some 21, 21, .call 25 [0, 0, 0] [(.t 20), (.i (-1)), (.i 1000)]⟩, ⟨(some (18, false)), some 22, 22, .not (.t 21)⟩, .r 23 18 22]
 (.c 23 (.q [.F 2]
 .ret)))
 (.seq (.q [.f 24 1 0, .l 25 24, .n 26 25, .i 27 0]
 (.block 0 (.loop [1, 25, 26, 27] (.q [.b 28 .lss 27 26]
 (.seq (.cond 28 .skip (.exit 0))
 (.seq (.block 1 (.q [.x 29 1 25 27, .l 30 29, .m 4 30]
 (.q [.m 31 4, .n 32 31, .B 33 .gtr 32 120]
 (.c 33 (.q [.F 2]
 .ret)))))
 (.reg [.B 34 .add 27 1, .m 27 34])))))))
 (.norm [1] (.seq (.q [.f 35 1 1, .l 36 35, .n 37 36, .i 38 0]
 (.block 2 (.loop [1, 36, 37, 38] (.q [.b 39 .lss 38 37]
 (.seq (.cond 39 .skip (.exit 2))
 (.seq (.block 3 (.q [.x 40 2 36 38, .L 41 2 40, .op 6 (.alloc [.i 0, .nils 1]), .s 100001 2 6 41]
 (.q [.f 42 6 0, .l 43 42, .f 44 1 0, .l 45 44, .n 46 45, .B 47 .sub 46 1, .op 48 (.call 25 [0, 0, 0] [(.t 43), (.i 0), (.t 47)]), .N 49 48, .m 50 49, ⟨(some (50, false)), some 51, 51, .faddr (.t 6) 1⟩, ⟨(some (50, false)), some 52, 52, .load none (.t 51)⟩, ⟨(some (50, false)), some 53, 53, .len (.t 52)⟩, ⟨(some (50, false)), some 54, 54, .bin .gtr (.t 53) (.i 120)⟩, .r 55 50 54]
 (.c 55 (.q [.F 2]
 .ret)))))
 (.reg [.B 56 .add 38 1, .m 38 56])))))))
 (.norm [] (.q [.T 2]
 .ret))))))⟩
abbrev C_i_DevOk (Te : TE) : Prop := ∀ (d : DevV) (h : d.In (2 ^ 48)), Te 101 [.agg (d.enc false)] ⟨[.one (bT d.ok)], [d.enc false]⟩
theorem r_i_DevOk {Te : TE} (c_i_within : C_i_within Te) : C_i_DevOk (RF Te x_i_DevOk) := by
  intro d h
  refine run0 ?_
  obtain ⟨⟨hl, hS⟩, hl2, hC⟩ := h
  have ws : IntKind.i64.wrap ((d.Secs.length : Int) - 1) = (d.Secs.length : Int) - 1 := IntWalk.i64_in _ (by omega)
  simp -implicitDefEqProofs only [x_i_DevOk, go_sem]
  repeat refine ⟨sc, ?_⟩
  try exact sf
  refine .of (c_i_within _ _ _) ?_
  try simp -implicitDefEqProofs only [go_sem]
  repeat refine ⟨sc, ?_⟩
  try exact sf
  cases g1 : win (d.Secs.length : Int) 1 64
  · have e : d.ok = false := by simp only [DevV.ok, g1, Bool.false_and]
    try simp -implicitDefEqProofs only [go_sem, e]
    repeat refine ⟨sc, ?_⟩
    try exact sf
  cases g2 : decide ((d.Cache.length : Int) > 40)
  · have g2' : decide ((d.Cache.length : Int) ≤ 40) = true := by rw [gt_le] at g2; simpa using g2
    try simp -implicitDefEqProofs only [go_sem, g2]
    repeat refine ⟨sc, ?_⟩
    try exact sf
    refine .of (c_i_within _ _ _) ?_
    try simp -implicitDefEqProofs only [go_sem]
    repeat refine ⟨sc, ?_⟩
    try exact sf
    cases g3 : win d.Fuse (-1) 1000
    · have e : d.ok = false := by simp only [DevV.ok, g3, Bool.and_false, Bool.false_and]
      try simp -implicitDefEqProofs only [go_sem, e]
      repeat refine ⟨sc, ?_⟩
      try exact sf
    simp -implicitDefEqProofs only [go_sem, true_implies, false_implies, true_and]
    refine loop_of (σ := Nat) (fun i => ⟨[(1, .bp 1 0), (25, .one (.ro 1 (d.Secs.map (fun y => [slT false 1 uR y])))), (26, .one (.pv (.int .i64 d.Secs.length))), (27, .one (.pv (.int .i64 i)))], [(1, [.ro 1 (d.Secs.map (fun y => [slT false 1 uR y])), .ro 2 (d.Cache.map (WrV.enc false)), .pv (.int .i64 d.Fuse), .pv (.bool d.Down)])], [(0, d.enc false)]⟩) (fun i => i ≤ d.Secs.length ∧ (d.Secs.take i).all (secGood) = true) (fun i => d.Secs.length - i) 0 ?_ ⟨Nat.zero_le _, rfl⟩ ?_
    · simp -implicitDefEqProofs only [go_sem]
      try rfl
    · rintro i ⟨hi, hp⟩
      cases q : decide ((i : Int) < (d.Secs.length : Int))
      · have eS := all_end (p := secGood) (show d.Secs.length ≤ i by simp only [decide_eq_false_iff_not] at q; omega) hp
        try simp -implicitDefEqProofs only [go_sem, q]
        repeat refine ⟨sc, ?_⟩
        try exact sf
        refine loop_of (σ := Nat) (fun i => ⟨[(1, .bp 1 0), (36, .one (.ro 2 (d.Cache.map (WrV.enc false)))), (37, .one (.pv (.int .i64 d.Cache.length))), (38, .one (.pv (.int .i64 i)))], [(1, [.ro 1 (d.Secs.map (fun y => [slT false 1 uR y])), .ro 2 (d.Cache.map (WrV.enc false)), .pv (.int .i64 d.Fuse), .pv (.bool d.Down)])], [(0, d.enc false)]⟩) (fun i => i ≤ d.Cache.length ∧ (d.Cache.take i).all (wrGood d.Secs.length) = true) (fun i => d.Cache.length - i) 0 ?_ ⟨Nat.zero_le _, rfl⟩ ?_
        · simp -implicitDefEqProofs only [go_sem]
          try rfl
        · rintro i ⟨hi, hp⟩
          cases q : decide ((i : Int) < (d.Cache.length : Int))
          · have eC := all_end (p := wrGood d.Secs.length) (show d.Cache.length ≤ i by simp only [decide_eq_false_iff_not] at q; omega) hp
            try simp -implicitDefEqProofs only [go_sem, q]
            repeat refine ⟨sc, ?_⟩
            try exact sf
            have e : d.ok = true := by simp only [DevV.ok, g1, g2', g3, eS, eC, Bool.and_true]
            try simp -implicitDefEqProofs only [go_sem, e]
            repeat refine ⟨sc, ?_⟩
            try exact sf
          · have k1 : i < d.Cache.length := by simp only [decide_eq_true_eq] at q; omega
            try simp -implicitDefEqProofs only [go_sem, q, List.getElem?_eq_getElem k1, ws]
            repeat refine ⟨sc, ?_⟩
            try exact sf
            refine .of (c_i_within _ _ _) ?_
            try simp -implicitDefEqProofs only [go_sem]
            repeat refine ⟨sc, ?_⟩
            try exact sf
            cases g : win d.Cache[i].N 0 ((d.Secs.length : Int) - 1)
            · have gg : wrGood d.Secs.length d.Cache[i] = false := by simp only [wrGood, g, Bool.false_and]
              have e : d.ok = false := by simp only [DevV.ok, all_not (p := wrGood d.Secs.length) k1 gg, Bool.and_false]
              try simp -implicitDefEqProofs only [go_sem, e]
              repeat refine ⟨sc, ?_⟩
              try exact sf
            · cases g2 : decide ((d.Cache[i].B.length : Int) > 120)
              · try simp -implicitDefEqProofs only [go_sem, g2, List.getElem?_eq_getElem k1]
                repeat refine ⟨sc, ?_⟩
                try exact sf
                exact ⟨i + 1, by rw [IntWalk.i64_in _ (by omega)]; rfl, ⟨k1, all_step (p := wrGood d.Secs.length) k1 hp (by simp only [wrGood, g, g2, Bool.not_false, Bool.and_true])⟩, by omega⟩
              · have gg : wrGood d.Secs.length d.Cache[i] = false := by simp only [wrGood, g2, Bool.not_true, Bool.and_false]
                have e : d.ok = false := by simp only [DevV.ok, all_not (p := wrGood d.Secs.length) k1 gg, Bool.and_false]
                try simp -implicitDefEqProofs only [go_sem, g2, List.getElem?_eq_getElem k1, e]
                repeat refine ⟨sc, ?_⟩
                try exact sf
      · have k1 : i < d.Secs.length := by simp only [decide_eq_true_eq] at q; omega
        cases g : decide ((d.Secs[i].length : Int) > 120)
        · try simp -implicitDefEqProofs only [go_sem, q, List.getElem?_eq_getElem k1, g]
          repeat refine ⟨sc, ?_⟩
          try exact sf
          exact ⟨i + 1, by rw [IntWalk.i64_in _ (by omega)]; rfl, ⟨k1, all_step (p := secGood) k1 hp (by simp only [secGood, g, Bool.not_false])⟩, by omega⟩
        · have gg : secGood d.Secs[i] = false := by simp only [secGood, g, Bool.not_true]
          have e : d.ok = false := by simp only [DevV.ok, all_not (p := secGood) k1 gg, Bool.and_false, Bool.false_and]
          try simp -implicitDefEqProofs only [go_sem, q, List.getElem?_eq_getElem k1, g, e]
          repeat refine ⟨sc, ?_⟩
          try exact sf
  · have g2' : decide ((d.Cache.length : Int) ≤ 40) = false := by rw [gt_le] at g2; simpa using g2
    have e : d.ok = false := by simp only [DevV.ok, g2', Bool.and_false, Bool.false_and]
    try simp -implicitDefEqProofs only [go_sem, g2, e]
    repeat refine ⟨sc, ?_⟩
    try exact sf
end Go.X

/- Vi -/
namespace Go.X
set_option maxRecDepth 100000
set_option maxHeartbeats 8000000
theorem take_rows (l : List UInt8) : List.take l.length (l.map uR) = l.map uR := List.take_of_length_le (by simp)
def x_i_copyCell : FnX := ⟨10, [.cell 2 (some 2)],
  .q [.v 1 0, .op 2 (.alloc [.i 0, .nils 1])]
 (.seq (.draw [.f 3 1 0, .l 4 3, .f 5 1 1, .l 6 5, .op 7 (.bslice 1 [(.t 6)]), .c 8 121 [7], .op 9 (.build [.i 0, .nils 1] [(0, 1, (.t 4)), (1, 1, (.t 8))]), .s 100001 2 2 9] [[], [0], [], [2], [3], [4], [1, 5], [6, 5, 0, 1, 2, 3, 4, 5, 6]])
 .ret)⟩
abbrev C_i_copyCell (Te : TE) : Prop := ∀ (c : CellV) (h : c.Len), Te 118 [.agg (c.enc false)] ⟨[.agg (c.enc true)], [c.enc false]⟩
theorem r_i_copyCell {Te : TE} (c_i_joined : C_i_joined Te) : C_i_copyCell (RF Te x_i_copyCell) := by
  intro c h
  refine run0 ?_
  have h0 : c.B.length ≤ 2 ^ 21 := h
  simp -implicitDefEqProofs only [x_i_copyCell, go_sem]
  repeat refine ⟨sc, ?_⟩
  try exact sf
  refine .of (c_i_joined [c.B] (by rw [flat1]; omega) (by show 1 ≤ 2 ^ 31; decide)) ?_
  try simp -implicitDefEqProofs only [go_sem, flat1]
  repeat refine ⟨sc, ?_⟩
  try exact sf
def x_s_l8Copy : FnX := ⟨10, [.cell 2 (some 2)],
  .q [.v 1 0, .op 2 (.alloc [.i 0, .nils 1])]
 (.seq (.draw [.f 3 1 0, .l 4 3, .op 5 (.bslice 1 []), .f 6 1 1, .l 7 6, .op 8 (.app 1 1 (.t 5) (.t 7)), .op 9 (.build [.i 0, .nils 1] [(0, 1, (.t 4)), (1, 1, (.t 8))]), .s 100001 2 2 9] [[], [0], [], [], [3], [2, 4], [1, 5], [6, 5, 0, 1, 2, 3, 4, 5, 6]])
 .ret)⟩
abbrev C_s_l8Copy (Te : TE) : Prop := ∀ (c : CellV) (h : c.Len), Te 146 [.agg (c.enc false)] ⟨[.agg (c.enc true)], [c.enc false]⟩
theorem r_s_l8Copy {Te : TE} : C_s_l8Copy (RF Te x_s_l8Copy) := by
  intro c h
  refine run0 ?_
  have h0 : c.B.length ≤ 2 ^ 21 := h
  simp -implicitDefEqProofs only [x_s_l8Copy, go_sem]
  repeat refine ⟨sc, ?_⟩
  try exact sf
def x_i_copyRow : FnX := ⟨12, [.cell 2 (some 7)],
  .q [.v 1 0, .op 2 (.alloc [.e, .i 0, .nils 1, .i 0, .nils 1, .i 0, .F])]
 (.seq (.draw [.f 3 1 1, .L 4 2 3, .c 5 118 [4], .f 6 1 3, .L 7 2 6, .c 8 118 [7], .f 9 1 1, .s 100001 2 9 5, .f 10 1 3, .s 100002 2 10 8] [[], [0], [1], [], [3], [4, 2], [0, 1, 2, 3, 4], [6, 2, 5, 0, 1, 2, 3, 4], [0, 1, 2, 3, 4, 5, 6, 7], [8, 5, 7, 0, 1, 2, 3, 4, 5, 6, 7]])
 (.q [.L 11 7 1, .s 100003 7 2 11]
 .ret))⟩
abbrev C_i_copyRow (Te : TE) : Prop := ∀ (r : RowV) (h : r.Len), Te 75 [.agg (r.enc false)] ⟨[.agg (r.enc true)], [r.enc false]⟩
theorem r_i_copyRow {Te : TE} (c_i_copyCell : C_i_copyCell Te) : C_i_copyRow (RF Te x_i_copyRow) := by
  intro r h
  refine run0 ?_
  simp -implicitDefEqProofs only [x_i_copyRow, go_sem]
  repeat refine ⟨sc, ?_⟩
  try exact sf
  refine .of (c_i_copyCell r.Old h.1) ?_
  try simp -implicitDefEqProofs only [go_sem]
  repeat refine ⟨sc, ?_⟩
  try exact sf
  refine .of (c_i_copyCell r.New h.2) ?_
  try simp -implicitDefEqProofs only [go_sem]
  repeat refine ⟨sc, ?_⟩
  try exact sf
def x_s_l9Copy : FnX := ⟨16, [.cell 2 (some 7)],
  .q [.v 1 0, .op 2 (.alloc [.e, .i 0, .nils 1, .i 0, .nils 1, .i 0, .F])]
 (.seq (.draw [.f 3 1 0, .l 4 3, .f 5 1 1, .L 6 2 5, .c 7 146 [6], .f 8 1 3, .L 9 2 8, .c 10 146 [9], .f 11 1 5, .l 12 11, .f 13 1 6, .l 14 13, .op 15 (.build [.e, .i 0, .nils 1, .i 0, .nils 1, .i 0, .F] [(0, 1, (.t 4)), (1, 2, (.t 7)), (3, 2, (.t 10)), (5, 1, (.t 12)), (6, 1, (.t 14))]), .s 100001 7 2 15] [[], [0], [], [2], [3], [], [5], [6, 4], [], [8], [], [10], [1, 4, 7, 9, 11], [12, 7, 0, 1, 2, 3, 4, 5, 6, 7, 8, 9, 10, 11, 12]])
 .ret)⟩
abbrev C_s_l9Copy (Te : TE) : Prop := ∀ (r : RowV) (h : r.Len), Te 110 [.agg (r.enc false)] ⟨[.agg (r.enc true)], [r.enc false]⟩
theorem r_s_l9Copy {Te : TE} (c_s_l8Copy : C_s_l8Copy Te) : C_s_l9Copy (RF Te x_s_l9Copy) := by
  intro r h
  refine run0 ?_
  simp -implicitDefEqProofs only [x_s_l9Copy, go_sem]
  repeat refine ⟨sc, ?_⟩
  try exact sf
  refine .of (c_s_l8Copy r.Old h.1) ?_
  try simp -implicitDefEqProofs only [go_sem]
  repeat refine ⟨sc, ?_⟩
  try exact sf
  refine .of (c_s_l8Copy r.New h.2) ?_
  try simp -implicitDefEqProofs only [go_sem]
  repeat refine ⟨sc, ?_⟩
  try exact sf
def x_i_flag : FnX := ⟨4, [.tmp 2],
  .q [.op 2 (.mv (.k (.one (.pv (.int .u8 0)))))]
 (.seq (.q [.m 3 0]
 (.c 3 (.q [.op 2 (.mv (.k (.one (.pv (.int .u8 1)))))]
 .ret)))
 (.q [.op 2 (.mv (.k (.one (.pv (.int .u8 0)))))]
 .ret))⟩
abbrev C_i_flag (Te : TE) : Prop := ∀ (b : Bool), Te 155 [.one (bT b)] ⟨[.one (uT (bif b then 1 else 0))], [[bT b]]⟩
theorem r_i_flag {Te : TE} : C_i_flag (RF Te x_i_flag) := by
  intro b
  refine run0 ?_
  cases b
  · simp -implicitDefEqProofs only [x_i_flag, go_sem]
    repeat refine ⟨sc, ?_⟩
    try exact sf
    try rfl
  · simp -implicitDefEqProofs only [x_i_flag, go_sem]
    repeat refine ⟨sc, ?_⟩
    try exact sf
    try rfl
def x_s_l11Bit : FnX := ⟨4, [.tmp 2],
  .q [.op 2 (.mv (.k (.one (.pv (.int .u8 0)))))]
 (.seq (.q [.m 3 0]
 (.c 3 (.q [.op 2 (.mv (.k (.one (.pv (.int .u8 1)))))]
 .ret)))
 (.q [.op 2 (.mv (.k (.one (.pv (.int .u8 0)))))]
 .ret))⟩
abbrev C_s_l11Bit (Te : TE) : Prop := ∀ (b : Bool), Te 150 [.one (bT b)] ⟨[.one (uT (bif b then 1 else 0))], [[bT b]]⟩
theorem r_s_l11Bit {Te : TE} : C_s_l11Bit (RF Te x_s_l11Bit) := by
  intro b
  refine run0 ?_
  cases b
  · simp -implicitDefEqProofs only [x_s_l11Bit, go_sem]
    repeat refine ⟨sc, ?_⟩
    try exact sf
    try rfl
  · simp -implicitDefEqProofs only [x_s_l11Bit, go_sem]
    repeat refine ⟨sc, ?_⟩
    try exact sf
    try rfl
def RowV.no (r : RowV) : Bool := decide (r.Key = ⟨#[]⟩) && r.Old.no && r.New.no && (r.Has == 0) && !r.Aside
def RowV.zero : RowV := ⟨⟨#[]⟩, ⟨0, []⟩, ⟨0, []⟩, 0, false⟩
def cellSame (a c : CellV) : Bool := (a.Tag == c.Tag) && decide (a.B = c.B)
def rowSame (a c : RowV) : Bool := decide (a.Key = c.Key) && cellSame a.Old c.Old && cellSame a.New c.New && (a.Has == c.Has) && (a.Aside == c.Aside)
theorem rowSame_zero (r : RowV) : rowSame r RowV.zero = r.no := by
  simp only [rowSame, RowV.no, RowV.zero, cellSame, CellV.no]
  congr 1
  cases r.Aside <;> rfl
def x_i_sameRow : FnX := ⟨38, [.tmp 4],
  .q [.v 2 0, .v 3 1, .F 4]
 (.q [.f 5 2 0, .l 6 5, .f 7 3 0, .l 8 7, .b 9 .eql 6 8, .m 10 9, ⟨(some (10, true)), some 11, 11, .faddr (.t 2) 1⟩, ⟨(some (10, true)), some 12, 12, .load (some 2) (.t 11)⟩, ⟨(some (10, true)), some 13, 13, .faddr (.t 3) 1⟩, ⟨(some (10, true)), some 14, 14, .load (some 2) (.t 13)⟩, ⟨(some (10, true)), some 15, 15, .call 163 [0, 0] [(.t 12), (.t 14)]⟩, .a 16 10 15, .m 17 16, ⟨(some (17, true)), some 18, 18, .faddr (.t 2) 3⟩, ⟨(some (17, true)), some 19, 19, .load (some 2) (.t 18)⟩, ⟨(some (17, true)), some 20, 20, .faddr (.t 3) 3⟩, ⟨(some (17, true)), some 21, 21, .load (some 2) (.t 20)⟩, ⟨(some (17, true)), some 22, 22, .call 163 [0, 0] [(.t 19), (.t 21)]⟩, .a 23 17 22, .m 24 23, ⟨(some (24, true)), some 25, 25, .faddr (.t 2) 5⟩, ⟨(some (24, true)), some 26, 26, .load none (.t 25)⟩, ⟨(some (24, true)), some 27, 27, .faddr (.t 3) 5⟩, ⟨(some (24, true)), some 28, 28, .load none (.t 27)⟩, ⟨(some (24, true)), some 29, 29, .bin .eql (.t 26) (.t 28)⟩, .a 30 24 29, .m 31 30, ⟨(some (31, true)), some 32, 32, .faddr (.t 2) 6⟩, ⟨(some (31, true)), some 33, 33, .load none (.t 32)⟩, ⟨(some (31, true)), some 34, 34, .faddr (.t 3) 6⟩, ⟨(some (31, true)), some 35, 35, .load none (.t 34)⟩, ⟨(some (31, true)), some 36, 36, .beq false (.t 33) (.t 35)⟩, .a 37 31 36, .m 4 37]
 .ret)⟩
abbrev C_i_sameRow (Te : TE) : Prop := ∀ (a c : RowV), Te 153 [.agg (a.enc false), .agg (c.enc false)] ⟨[.one (bT (rowSame a c))], [a.enc false, c.enc false]⟩
theorem r_i_sameRow {Te : TE} (c_i_sameCell : C_i_sameCell Te) : C_i_sameRow (RF Te x_i_sameRow) := by
  intro a c
  refine run0 ?_
  simp -implicitDefEqProofs only [x_i_sameRow, go_sem, bytes_beq]
  repeat refine ⟨sc, ?_⟩
  try exact sf
  cases g1 : decide (a.Key = c.Key)
  · try simp -implicitDefEqProofs only [go_sem, g1, rowSame]
    repeat refine ⟨sc, ?_⟩
    try exact sf
  try simp -implicitDefEqProofs only [go_sem, g1]
  repeat refine ⟨sc, ?_⟩
  try exact sf
  have t1 := c_i_sameCell a.Old c.Old
  have t2 := c_i_sameCell a.New c.New
  rw [← cellSame] at t1 t2
  refine .of t1 ?_
  cases g2 : cellSame a.Old c.Old
  · try simp -implicitDefEqProofs only [go_sem, g1, g2, rowSame]
    repeat refine ⟨sc, ?_⟩
    try exact sf
  try simp -implicitDefEqProofs only [go_sem]
  repeat refine ⟨sc, ?_⟩
  try exact sf
  refine .of t2 ?_
  cases g3 : cellSame a.New c.New
  · try simp -implicitDefEqProofs only [go_sem, g1, g2, g3, rowSame]
    repeat refine ⟨sc, ?_⟩
    try exact sf
  try simp -implicitDefEqProofs only [go_sem]
  repeat refine ⟨sc, ?_⟩
  try exact sf
  cases g4 : (a.Has == c.Has)
  · try simp -implicitDefEqProofs only [go_sem, g1, g2, g3, g4, rowSame]
    repeat refine ⟨sc, ?_⟩
    try exact sf
  have e9 : ∀ c : Bool, (c != false) = c := fun c => by cases c <;> rfl
  try simp -implicitDefEqProofs only [go_sem, g1, g2, g3, g4, rowSame, e9]
  repeat refine ⟨sc, ?_⟩
  try exact sf
def x_s_l11NoRow : FnX := ⟨26, [.tmp 2],
  .q [.v 1 0, .F 2]
 (.q [.f 3 1 0, .l 4 3, .op 5 (.bin .eql (.t 4) (.k (.one (.pv (.string ⟨#[]⟩))))), .m 6 5, ⟨(some (6, true)), some 7, 7, .faddr (.t 1) 1⟩, ⟨(some (6, true)), some 8, 8, .load (some 2) (.t 7)⟩, ⟨(some (6, true)), some 9, 9, .call 156 [0] [(.t 8)]⟩, .a 10 6 9, .m 11 10, ⟨(some (11, true)), some 12, 12, .faddr (.t 1) 3⟩, ⟨(some (11, true)), some 13, 13, .load (some 2) (.t 12)⟩, ⟨(some (11, true)), some 14, 14, .call 156 [0] [(.t 13)]⟩, .a 15 11 14, .m 16 15, ⟨(some (16, true)), some 17, 17, .faddr (.t 1) 5⟩, ⟨(some (16, true)), some 18, 18, .load none (.t 17)⟩, ⟨(some (16, true)), some 19, 19, .bin .eql (.t 18) (.i 0)⟩, .a 20 16 19, .m 21 20, ⟨(some (21, true)), some 22, 22, .faddr (.t 1) 6⟩, ⟨(some (21, true)), some 23, 23, .load none (.t 22)⟩, ⟨(some (21, true)), some 24, 24, .not (.t 23)⟩, .a 25 21 24, .m 2 25]
 .ret)⟩
abbrev C_s_l11NoRow (Te : TE) : Prop := ∀ (r : RowV), Te 147 [.agg (r.enc false)] ⟨[.one (bT r.no)], [r.enc false]⟩
theorem r_s_l11NoRow {Te : TE} (c_s_l9None : C_s_l9None Te) : C_s_l11NoRow (RF Te x_s_l11NoRow) := by
  intro r
  refine run0 ?_
  simp -implicitDefEqProofs only [x_s_l11NoRow, go_sem, bytes_beq]
  repeat refine ⟨sc, ?_⟩
  try exact sf
  cases g1 : decide (r.Key = ⟨#[]⟩)
  · try simp -implicitDefEqProofs only [go_sem, g1, RowV.no]
    repeat refine ⟨sc, ?_⟩
    try exact sf
  try simp -implicitDefEqProofs only [go_sem, g1]
  repeat refine ⟨sc, ?_⟩
  try exact sf
  refine .of (c_s_l9None r.Old) ?_
  try simp -implicitDefEqProofs only [go_sem]
  repeat refine ⟨sc, ?_⟩
  try exact sf
  cases g2 : r.Old.no
  · try simp -implicitDefEqProofs only [go_sem, g1, g2, RowV.no]
    repeat refine ⟨sc, ?_⟩
    try exact sf
  try simp -implicitDefEqProofs only [go_sem]
  repeat refine ⟨sc, ?_⟩
  try exact sf
  refine .of (c_s_l9None r.New) ?_
  try simp -implicitDefEqProofs only [go_sem]
  repeat refine ⟨sc, ?_⟩
  try exact sf
  cases g3 : r.New.no
  · try simp -implicitDefEqProofs only [go_sem, g1, g2, g3, RowV.no]
    repeat refine ⟨sc, ?_⟩
    try exact sf
  try simp -implicitDefEqProofs only [go_sem]
  repeat refine ⟨sc, ?_⟩
  try exact sf
  cases g4 : (r.Has == 0)
  · try simp -implicitDefEqProofs only [go_sem, g1, g2, g3, g4, RowV.no]
    repeat refine ⟨sc, ?_⟩
    try exact sf
  try simp -implicitDefEqProofs only [go_sem, g1, g2, g3, g4, RowV.no]
  repeat refine ⟨sc, ?_⟩
  try exact sf
def RecV.who (r : RecV) : Bool := bif r.Who == 0 then (r.Seq == 0) && (r.Code == 0) && (r.Kind != 4) else win r.Who 1 9 && win r.Seq 0 65535 && win r.Code 0 6
def RecV.body (r : RecV) : Bool :=
  bif r.Kind == 1 then r.R.ok && decide (r.Key = ⟨#[]⟩) && (r.N == 0)
  else bif r.Kind == 2 then r.R.no && nameOk r.Key && (r.N == 0)
  else bif r.Kind == 3 then r.R.no && decide (r.Key = ⟨#[]⟩) && win r.N 0 7
  else bif r.Kind == 4 then r.R.no && decide (r.Key = ⟨#[]⟩) && (r.N == 0)
  else false
def RecV.ok (r : RecV) : Bool := r.body && r.who
def x_s_l11Who : FnX := ⟨32, [.tmp 2],
  .q [.v 1 0, .F 2]
 (.seq (.q [.f 3 1 10, .l 4 3, .B 5 .eql 4 0]
 (.c 5 (.q [.f 6 1 11, .l 7 6, .B 8 .eql 7 0, .m 9 8, ⟨(some (9, true)), some 10, 10, .faddr (.t 1) 12⟩, ⟨(some (9, true)), some 11, 11, .load none (.t 10)⟩, ⟨(some (9, true)), some 12, 12, .bin .eql (.t 11) (.i 0)⟩, .a 13 9 12, .m 14 13, ⟨(some (14, true)), some 15, 15, .faddr (.t 1) 0⟩, ⟨(some (14, true)), some 16, 16, .load none (.t 15)⟩, ⟨(some (14, true)), some 17, 17, .bin .neq (.t 16) (.i 4)⟩, .a 18 14 17, .m 2 18]
 .ret)))
 (.q [.f 19 1 10, .l 20 19, .op 21 (.call 23 [0, 0, 0] [(.t 20), (.i 1), (.i 9)]), .m 22 21, ⟨(some (22, true)), some 23, 23, .faddr (.t 1) 11⟩, ⟨(some (22, true)), some 24, 24, .load none (.t 23)⟩, ⟨(some (22, true)), some 25, 25, .call 113 [0] [(.t 24)]⟩, .a 26 22 25, .m 27 26, ⟨(some (27, true)), some 28, 28, .faddr (.t 1) 12⟩, ⟨(some (27, true)), some 29, 29, .load none (.t 28)⟩, ⟨(some (27, true)), some 30, 30, .call 23 [0, 0, 0] [(.t 29), (.i 0), (.i 6)]⟩, .a 31 27 30, .m 2 31]
 .ret))⟩
abbrev C_s_l11Who (Te : TE) : Prop := ∀ (r : RecV), Te 149 [.agg (r.enc false)] ⟨[.one (bT r.who)], [r.enc false]⟩
theorem r_s_l11Who {Te : TE} (c_s_l1In : C_s_l1In Te) (c_s_l1Word : C_s_l1Word Te) : C_s_l11Who (RF Te x_s_l11Who) := by
  intro r
  refine run0 ?_
  simp -implicitDefEqProofs only [x_s_l11Who, go_sem]
  repeat refine ⟨sc, ?_⟩
  try exact sf
  cases g0 : (r.Who == 0)
  · try simp -implicitDefEqProofs only [go_sem, g0]
    repeat refine ⟨sc, ?_⟩
    try exact sf
    refine .of (c_s_l1In _ _ _) ?_
    try simp -implicitDefEqProofs only [go_sem]
    repeat refine ⟨sc, ?_⟩
    try exact sf
    cases g1 : win r.Who 1 9
    · try simp -implicitDefEqProofs only [go_sem, RecV.who, g0, g1]
      repeat refine ⟨sc, ?_⟩
      try exact sf
    try simp -implicitDefEqProofs only [go_sem]
    repeat refine ⟨sc, ?_⟩
    try exact sf
    refine .of (c_s_l1Word _) ?_
    try simp -implicitDefEqProofs only [go_sem]
    repeat refine ⟨sc, ?_⟩
    try exact sf
    cases g2 : win r.Seq 0 65535
    · try simp -implicitDefEqProofs only [go_sem, RecV.who, g0, g1, g2]
      repeat refine ⟨sc, ?_⟩
      try exact sf
    try simp -implicitDefEqProofs only [go_sem]
    repeat refine ⟨sc, ?_⟩
    try exact sf
    refine .of (c_s_l1In _ _ _) ?_
    try simp -implicitDefEqProofs only [go_sem, RecV.who, g0, g1, g2]
    repeat refine ⟨sc, ?_⟩
    try exact sf
  · try simp -implicitDefEqProofs only [go_sem, g0]
    repeat refine ⟨sc, ?_⟩
    try exact sf
    cases g1 : (r.Seq == 0)
    · try simp -implicitDefEqProofs only [go_sem, RecV.who, g0, g1]
      repeat refine ⟨sc, ?_⟩
      try exact sf
    try simp -implicitDefEqProofs only [go_sem, g1]
    repeat refine ⟨sc, ?_⟩
    try exact sf
    cases g2 : (r.Code == 0)
    · try simp -implicitDefEqProofs only [go_sem, RecV.who, g0, g1, g2]
      repeat refine ⟨sc, ?_⟩
      try exact sf
    try simp -implicitDefEqProofs only [go_sem, RecV.who, g0, g1, g2]
    repeat refine ⟨sc, ?_⟩
    try exact sf
theorem kind_win {k : Int} (h : win k 1 4 = false) : (k == 1) = false ∧ (k == 2) = false ∧ (k == 3) = false ∧ (k == 4) = false := by
  simp only [win, Bool.and_eq_false_iff, decide_eq_false_iff_not] at h
  simp only [beq_eq_false_iff_ne, ne_eq]
  omega
theorem win_kind {k : Int} (h : win k 1 4 = true) : k = 1 ∨ k = 2 ∨ k = 3 ∨ k = 4 := by
  simp only [win, Bool.and_eq_true, decide_eq_true_eq] at h
  omega
def x_s_RecOk : FnX := ⟨48, [.tmp 2],
  .q [.v 1 0, .F 2]
 (.q [.f 6 1 1, .L 7 7 6, .c 8 147 [7], .m 3 8]
 (.q [.f 9 1 8, .l 10 9, .op 11 (.bin .eql (.t 10) (.k (.one (.pv (.string ⟨#[]⟩))))), .m 4 11]
 (.q [.f 12 1 9, .l 13 12, .B 14 .eql 13 0, .m 5 14]
 (.seq (.q [.f 15 1 0, .l 16 15]
 (.block 0 (.q [.B 18 .eql 16 1, .m 17 18]
 (.cond 17 (.reg [.f 19 1 1, .L 20 7 19, .c 21 132 [20], .m 3 21]) (.q [.B 23 .eql 16 2, .m 22 23]
 (.cond 22 (.reg [.f 24 1 8, .l 25 24, .c 26 148 [25], .m 4 26]) (.q [.B 28 .eql 16 3, .m 27 28]
 (.c 27 (.reg [.f 29 1 9, .l 30 29, .op 31 (.call 23 [0, 0, 0] [(.t 30), (.i 0), (.i 7)]), .m 5 31])))))))))
 (.q [.f 32 1 0, .l 33 32, .op 34 (.call 23 [0, 0, 0] [(.t 33), (.i 1), (.i 4)]), .m 35 34, ⟨(some (35, true)), some 36, 36, .mv (.t 3)⟩, .a 37 35 36, .m 38 37, ⟨(some (38, true)), some 39, 39, .mv (.t 4)⟩, .a 40 38 39, .m 41 40, ⟨(some (41, true)), some 42, 42, .mv (.t 5)⟩, .a 43 41 42, .m 44 43, ⟨(some (44, true)), some 45, 45, .load (some 13) (.t 1)⟩, ⟨(some (44, true)), some 46, 46, .call 149 [0] [(.t 45)]⟩, .a 47 44 46, .m 2 47]
 .ret)))))⟩
abbrev C_s_RecOk (Te : TE) : Prop := ∀ (r : RecV) (h : r.In (2 ^ 48)), Te 112 [.agg (r.enc false)] ⟨[.one (bT r.ok)], [r.enc false]⟩
theorem r_s_RecOk {Te : TE} (c_s_l11NoRow : C_s_l11NoRow Te) (c_s_RowOk : C_s_RowOk Te) (c_s_NameOk : C_s_NameOk Te) (c_s_l1In : C_s_l1In Te) (c_s_l11Who : C_s_l11Who Te) : C_s_RecOk (RF Te x_s_RecOk) := by
  intro r h
  refine run0 ?_
  have hR := h.1
  have hK := h.2
  simp -implicitDefEqProofs only [x_s_RecOk, go_sem, bytes_beq]
  repeat refine ⟨sc, ?_⟩
  try exact sf
  refine .of (c_s_l11NoRow r.R) ?_
  try simp -implicitDefEqProofs only [go_sem, bytes_beq]
  repeat refine ⟨sc, ?_⟩
  try exact sf
  cases gk : win r.Kind 1 4
  · obtain ⟨k1, k2, k3, k4⟩ := kind_win gk
    try simp -implicitDefEqProofs only [go_sem, k1, k2, k3]
    repeat refine ⟨sc, ?_⟩
    try exact sf
    refine .of (c_s_l1In _ _ _) ?_
    try simp -implicitDefEqProofs only [go_sem, gk, RecV.ok, RecV.body, k1, k2, k3, k4]
    repeat refine ⟨sc, ?_⟩
    try exact sf
  obtain ⟨kind, R, key, n, who, seq, code⟩ := r
  simp only at gk hR hK
  rcases win_kind gk with rfl | rfl | rfl | rfl
  · skip
    try simp -implicitDefEqProofs only [go_sem]
    repeat refine ⟨sc, ?_⟩
    try exact sf
    refine .of (c_s_RowOk R hR) ?_
    try simp -implicitDefEqProofs only [go_sem]
    repeat refine ⟨sc, ?_⟩
    try exact sf
    refine .of (c_s_l1In _ _ _) ?_
    try simp -implicitDefEqProofs only [go_sem, gk]
    repeat refine ⟨sc, ?_⟩
    try exact sf
    cases g1 : R.ok
    · try simp -implicitDefEqProofs only [go_sem, RecV.ok, RecV.body, g1]
      repeat refine ⟨sc, ?_⟩
      try exact sf
    try simp -implicitDefEqProofs only [go_sem]
    repeat refine ⟨sc, ?_⟩
    try exact sf
    cases g2 : decide (key = ⟨#[]⟩)
    · try simp -implicitDefEqProofs only [go_sem, RecV.ok, RecV.body, g1, g2]
      repeat refine ⟨sc, ?_⟩
      try exact sf
    try simp -implicitDefEqProofs only [go_sem]
    repeat refine ⟨sc, ?_⟩
    try exact sf
    cases g3 : (n == 0)
    · try simp -implicitDefEqProofs only [go_sem, RecV.ok, RecV.body, g1, g2, g3]
      repeat refine ⟨sc, ?_⟩
      try exact sf
    try simp -implicitDefEqProofs only [go_sem]
    repeat refine ⟨sc, ?_⟩
    try exact sf
    refine .of (c_s_l11Who ⟨1, R, key, n, who, seq, code⟩) ?_
    try simp -implicitDefEqProofs only [go_sem, RecV.ok, RecV.body, g1, g2, g3]
    repeat refine ⟨sc, ?_⟩
    try exact sf
  · skip
    try simp -implicitDefEqProofs only [go_sem]
    repeat refine ⟨sc, ?_⟩
    try exact sf
    refine .of (c_s_NameOk key hK) ?_
    try simp -implicitDefEqProofs only [go_sem]
    repeat refine ⟨sc, ?_⟩
    try exact sf
    refine .of (c_s_l1In _ _ _) ?_
    try simp -implicitDefEqProofs only [go_sem, gk]
    repeat refine ⟨sc, ?_⟩
    try exact sf
    cases g1 : R.no
    · try simp -implicitDefEqProofs only [go_sem, RecV.ok, RecV.body, g1]
      repeat refine ⟨sc, ?_⟩
      try exact sf
    try simp -implicitDefEqProofs only [go_sem]
    repeat refine ⟨sc, ?_⟩
    try exact sf
    cases g2 : nameOk key
    · try simp -implicitDefEqProofs only [go_sem, RecV.ok, RecV.body, g1, g2]
      repeat refine ⟨sc, ?_⟩
      try exact sf
    try simp -implicitDefEqProofs only [go_sem]
    repeat refine ⟨sc, ?_⟩
    try exact sf
    cases g3 : (n == 0)
    · try simp -implicitDefEqProofs only [go_sem, RecV.ok, RecV.body, g1, g2, g3]
      repeat refine ⟨sc, ?_⟩
      try exact sf
    try simp -implicitDefEqProofs only [go_sem]
    repeat refine ⟨sc, ?_⟩
    try exact sf
    refine .of (c_s_l11Who ⟨2, R, key, n, who, seq, code⟩) ?_
    try simp -implicitDefEqProofs only [go_sem, RecV.ok, RecV.body, g1, g2, g3]
    repeat refine ⟨sc, ?_⟩
    try exact sf
  · skip
    try simp -implicitDefEqProofs only [go_sem]
    repeat refine ⟨sc, ?_⟩
    try exact sf
    refine .of (c_s_l1In _ _ _) ?_
    try simp -implicitDefEqProofs only [go_sem]
    repeat refine ⟨sc, ?_⟩
    try exact sf
    refine .of (c_s_l1In _ _ _) ?_
    try simp -implicitDefEqProofs only [go_sem, gk]
    repeat refine ⟨sc, ?_⟩
    try exact sf
    cases g1 : R.no
    · try simp -implicitDefEqProofs only [go_sem, RecV.ok, RecV.body, g1]
      repeat refine ⟨sc, ?_⟩
      try exact sf
    try simp -implicitDefEqProofs only [go_sem]
    repeat refine ⟨sc, ?_⟩
    try exact sf
    cases g2 : decide (key = ⟨#[]⟩)
    · try simp -implicitDefEqProofs only [go_sem, RecV.ok, RecV.body, g1, g2]
      repeat refine ⟨sc, ?_⟩
      try exact sf
    try simp -implicitDefEqProofs only [go_sem]
    repeat refine ⟨sc, ?_⟩
    try exact sf
    cases g3 : win n 0 7
    · try simp -implicitDefEqProofs only [go_sem, RecV.ok, RecV.body, g1, g2, g3]
      repeat refine ⟨sc, ?_⟩
      try exact sf
    try simp -implicitDefEqProofs only [go_sem]
    repeat refine ⟨sc, ?_⟩
    try exact sf
    refine .of (c_s_l11Who ⟨3, R, key, n, who, seq, code⟩) ?_
    try simp -implicitDefEqProofs only [go_sem, RecV.ok, RecV.body, g1, g2, g3]
    repeat refine ⟨sc, ?_⟩
    try exact sf
  · skip
    try simp -implicitDefEqProofs only [go_sem]
    repeat refine ⟨sc, ?_⟩
    try exact sf
    refine .of (c_s_l1In _ _ _) ?_
    try simp -implicitDefEqProofs only [go_sem, gk]
    repeat refine ⟨sc, ?_⟩
    try exact sf
    cases g1 : R.no
    · try simp -implicitDefEqProofs only [go_sem, RecV.ok, RecV.body, g1]
      repeat refine ⟨sc, ?_⟩
      try exact sf
    try simp -implicitDefEqProofs only [go_sem]
    repeat refine ⟨sc, ?_⟩
    try exact sf
    cases g2 : decide (key = ⟨#[]⟩)
    · try simp -implicitDefEqProofs only [go_sem, RecV.ok, RecV.body, g1, g2]
      repeat refine ⟨sc, ?_⟩
      try exact sf
    try simp -implicitDefEqProofs only [go_sem]
    repeat refine ⟨sc, ?_⟩
    try exact sf
    cases g3 : (n == 0)
    · try simp -implicitDefEqProofs only [go_sem, RecV.ok, RecV.body, g1, g2, g3]
      repeat refine ⟨sc, ?_⟩
      try exact sf
    try simp -implicitDefEqProofs only [go_sem]
    repeat refine ⟨sc, ?_⟩
    try exact sf
    refine .of (c_s_l11Who ⟨4, R, key, n, who, seq, code⟩) ?_
    try simp -implicitDefEqProofs only [go_sem, RecV.ok, RecV.body, g1, g2, g3]
    repeat refine ⟨sc, ?_⟩
    try exact sf
theorem other_kind {k : Int} (h1 : ¬ k = 1) (h2 : ¬ k = 2) (h3 : ¬ k = 3) (h4 : ¬ k = 4) : (k == 1) = false ∧ (k == 2) = false ∧ (k == 3) = false ∧ (k == 4) = false := by
  simp only [beq_eq_false_iff_ne, ne_eq]
  omega
def x_i_RecOk : FnX := ⟨98, [.tmp 2],
  .q [.v 1 0, .F 2]
 (.seq (.draw [.f 6 1 1, .L 7 7 6, .op 8 (.build [.e, .i 0, .nils 1, .i 0, .nils 1, .i 0, .F] []), .c 9 153 [7, 8], .f 10 1 8, .l 11 10, .op 12 (.bin .eql (.t 11) (.k (.one (.pv (.string ⟨#[]⟩))))), .m 3 9, .m 4 12] [[], [0], [], [1, 2], [], [4], [5], [3, 3, 0, 1, 2, 3], [6, 7, 0, 1, 2, 3, 4, 5, 6, 7]])
 (.q [.F 5]
 (.seq (.q [.f 13 1 0, .l 14 13]
 (.block 0 (.q [.B 16 .eql 14 1, .m 15 16]
 (.cond 15 (.reg [.f 17 1 1, .L 18 7 17, .c 19 139 [18], .m 20 19, ⟨(some (20, true)), some 21, 21, .mv (.t 4)⟩, .a 22 20 21, .m 23 22, ⟨(some (23, true)), some 24, 24, .faddr (.t 1) 9⟩, ⟨(some (23, true)), some 25, 25, .load none (.t 24)⟩, ⟨(some (23, true)), some 26, 26, .bin .eql (.t 25) (.i 0)⟩, .a 27 23 26, .m 5 27]) (.q [.B 29 .eql 14 2, .m 28 29]
 (.cond 28 (.reg [.m 30 3, .m 31 30, ⟨(some (31, true)), some 32, 32, .faddr (.t 1) 8⟩, ⟨(some (31, true)), some 33, 33, .load none (.t 32)⟩, ⟨(some (31, true)), some 34, 34, .call 154 [0] [(.t 33)]⟩, .a 35 31 34, .m 36 35, ⟨(some (36, true)), some 37, 37, .faddr (.t 1) 9⟩, ⟨(some (36, true)), some 38, 38, .load none (.t 37)⟩, ⟨(some (36, true)), some 39, 39, .bin .eql (.t 38) (.i 0)⟩, .a 40 36 39, .m 5 40]) (.q [.B 42 .eql 14 3, .m 41 42]
 (.cond 41 (.reg [.m 43 3, .m 44 43, ⟨(some (44, true)), some 45, 45, .mv (.t 4)⟩, .a 46 44 45, .m 47 46, ⟨(some (47, true)), some 48, 48, .faddr (.t 1) 9⟩, ⟨(some (47, true)), some 49, 49, .load none (.t 48)⟩, ⟨(some (47, true)), some 50, 50, .call 25 [0, 0, 0] [(.t 49), (.i 0), (.i 7)]⟩, .a 51 47 50, .m 5 51]) (.q [.B 53 .eql 14 4, .m 52 53]
 (.c 52 (.reg [.m 54 3, .m 55 54, ⟨(some (55, true)), some 56, 56, .mv (.t 4)⟩, .a 57 55 56, .m 58 57, ⟨(some (58, true)), some 59, 59, .faddr (.t 1) 9⟩, ⟨(some (58, true)), some 60, 60, .load none (.t 59)⟩, ⟨(some (58, true)), some 61, 61, .bin .eql (.t 60) (.i 0)⟩, .a 62 58 61, .m 63 62, ⟨(some (63, true)), some 64, 64, .faddr (.t 1) 10⟩, ⟨(some (63, true)), some 65, 65, .load none (.t 64)⟩, ⟨(some (63, true)), some 66, 66, .bin .neq (.t 65) (.i 0)⟩, .a 67 63 66, .m 5 67])))))))))))
 (.seq (.q [.f 68 1 10, .l 69 68, .B 70 .eql 69 0]
 (.c 70 (.q [.m 71 5, .m 72 71, ⟨(some (72, true)), some 73, 73, .faddr (.t 1) 11⟩, ⟨(some (72, true)), some 74, 74, .load none (.t 73)⟩, ⟨(some (72, true)), some 75, 75, .bin .eql (.t 74) (.i 0)⟩, .a 76 72 75, .m 77 76, ⟨(some (77, true)), some 78, 78, .faddr (.t 1) 12⟩, ⟨(some (77, true)), some 79, 79, .load none (.t 78)⟩, ⟨(some (77, true)), some 80, 80, .bin .eql (.t 79) (.i 0)⟩, .a 81 77 80, .m 2 81]
 .ret)))
 (.q [.m 82 5, .m 83 82, ⟨(some (83, true)), some 84, 84, .faddr (.t 1) 10⟩, ⟨(some (83, true)), some 85, 85, .load none (.t 84)⟩, ⟨(some (83, true)), some 86, 86, .call 25 [0, 0, 0] [(.t 85), (.i 1), (.i 9)]⟩, .a 87 83 86, .m 88 87, ⟨(some (88, true)), some 89, 89, .faddr (.t 1) 11⟩, ⟨(some (88, true)), some 90, 90, .load none (.t 89)⟩, ⟨(some (88, true)), some 91, 91, .call 123 [0] [(.t 90)]⟩, .a 92 88 91, .m 93 92, ⟨(some (93, true)), some 94, 94, .faddr (.t 1) 12⟩, ⟨(some (93, true)), some 95, 95, .load none (.t 94)⟩, ⟨(some (93, true)), some 96, 96, .call 25 [0, 0, 0] [(.t 95), (.i 0), (.i 6)]⟩, .a 97 93 96, .m 2 97]
 .ret)))))⟩
abbrev C_i_RecOk (Te : TE) : Prop := ∀ (r : RecV) (h : r.In (2 ^ 48)), Te 122 [.agg (r.enc false)] ⟨[.one (bT r.ok)], [r.enc false]⟩
theorem r_i_RecOk {Te : TE} (c_i_sameRow : C_i_sameRow Te) (c_i_RowOk : C_i_RowOk Te) (c_i_NameOk : C_i_NameOk Te) (c_i_within : C_i_within Te) (c_i_isWord : C_i_isWord Te) : C_i_RecOk (RF Te x_i_RecOk) := by
  intro r h
  refine run0 ?_
  have hR := h.1
  have hK := h.2
  obtain ⟨kind, R, key, n, who, seq, code⟩ := r
  simp only at hR hK
  have ts := c_i_sameRow R RowV.zero
  rw [rowSame_zero] at ts
  simp -implicitDefEqProofs only [x_i_RecOk, go_sem, bytes_beq]
  repeat refine ⟨sc, ?_⟩
  try exact sf
  refine .of (ts) ?_
  try simp -implicitDefEqProofs only [go_sem, bytes_beq]
  repeat refine ⟨sc, ?_⟩
  try exact sf
  by_cases q1 : kind = 1
  · subst q1
    try simp -implicitDefEqProofs only [go_sem]
    repeat refine ⟨sc, ?_⟩
    try exact sf
    refine .of (c_i_RowOk R hR) ?_
    try simp -implicitDefEqProofs only [go_sem]
    repeat refine ⟨sc, ?_⟩
    try exact sf
    cases g1 : R.ok
    · try simp -implicitDefEqProofs only [go_sem, g1]
      repeat refine ⟨sc, ?_⟩
      try exact sf
      cases g0 : (who == 0)
      · try simp -implicitDefEqProofs only [go_sem, g0, RecV.ok, RecV.body, RecV.who, g1]
        repeat refine ⟨sc, ?_⟩
        try exact sf
      · try simp -implicitDefEqProofs only [go_sem, g0, RecV.ok, RecV.body, RecV.who, g1]
        repeat refine ⟨sc, ?_⟩
        try exact sf
    try simp -implicitDefEqProofs only [go_sem, g1]
    repeat refine ⟨sc, ?_⟩
    try exact sf
    cases g2 : decide (key = ⟨#[]⟩)
    · try simp -implicitDefEqProofs only [go_sem, g1, g2]
      repeat refine ⟨sc, ?_⟩
      try exact sf
      cases g0 : (who == 0)
      · try simp -implicitDefEqProofs only [go_sem, g0, RecV.ok, RecV.body, RecV.who, g1, g2]
        repeat refine ⟨sc, ?_⟩
        try exact sf
      · try simp -implicitDefEqProofs only [go_sem, g0, RecV.ok, RecV.body, RecV.who, g1, g2]
        repeat refine ⟨sc, ?_⟩
        try exact sf
    try simp -implicitDefEqProofs only [go_sem, g2]
    repeat refine ⟨sc, ?_⟩
    try exact sf
    cases g3 : (n == 0)
    · try simp -implicitDefEqProofs only [go_sem, g1, g2, g3]
      repeat refine ⟨sc, ?_⟩
      try exact sf
      cases g0 : (who == 0)
      · try simp -implicitDefEqProofs only [go_sem, g0, RecV.ok, RecV.body, RecV.who, g1, g2, g3]
        repeat refine ⟨sc, ?_⟩
        try exact sf
      · try simp -implicitDefEqProofs only [go_sem, g0, RecV.ok, RecV.body, RecV.who, g1, g2, g3]
        repeat refine ⟨sc, ?_⟩
        try exact sf
    try simp -implicitDefEqProofs only [go_sem, g3]
    repeat refine ⟨sc, ?_⟩
    try exact sf
    cases g0 : (who == 0)
    · try simp -implicitDefEqProofs only [go_sem, g0]
      repeat refine ⟨sc, ?_⟩
      try exact sf
      refine .of (c_i_within _ _ _) ?_
      try simp -implicitDefEqProofs only [go_sem]
      repeat refine ⟨sc, ?_⟩
      try exact sf
      cases h1 : win who 1 9
      · try simp -implicitDefEqProofs only [go_sem, g0, h1, RecV.ok, RecV.body, RecV.who, g1, g2, g3]
        repeat refine ⟨sc, ?_⟩
        try exact sf
      try simp -implicitDefEqProofs only [go_sem]
      repeat refine ⟨sc, ?_⟩
      try exact sf
      refine .of (c_i_isWord _) ?_
      try simp -implicitDefEqProofs only [go_sem]
      repeat refine ⟨sc, ?_⟩
      try exact sf
      cases h2 : win seq 0 65535
      · try simp -implicitDefEqProofs only [go_sem, g0, h1, h2, RecV.ok, RecV.body, RecV.who, g1, g2, g3]
        repeat refine ⟨sc, ?_⟩
        try exact sf
        try rfl
      try simp -implicitDefEqProofs only [go_sem]
      repeat refine ⟨sc, ?_⟩
      try exact sf
      refine .of (c_i_within _ _ _) ?_
      try simp -implicitDefEqProofs only [go_sem, g0, h1, h2, RecV.ok, RecV.body, RecV.who, g1, g2, g3]
      repeat refine ⟨sc, ?_⟩
      try exact sf
    · try simp -implicitDefEqProofs only [go_sem, g0]
      repeat refine ⟨sc, ?_⟩
      try exact sf
      cases h1 : (seq == 0)
      · try simp -implicitDefEqProofs only [go_sem, g0, h1, RecV.ok, RecV.body, RecV.who, g1, g2, g3]
        repeat refine ⟨sc, ?_⟩
        try exact sf
      try simp -implicitDefEqProofs only [go_sem, h1]
      repeat refine ⟨sc, ?_⟩
      try exact sf
      cases h2 : (code == 0)
      · try simp -implicitDefEqProofs only [go_sem, g0, h1, h2, RecV.ok, RecV.body, RecV.who, g1, g2, g3]
        repeat refine ⟨sc, ?_⟩
        try exact sf
        try rfl
      try simp -implicitDefEqProofs only [go_sem, g0, h1, h2, RecV.ok, RecV.body, RecV.who, g1, g2, g3]
      repeat refine ⟨sc, ?_⟩
      try exact sf
      try rfl
  by_cases q2 : kind = 2
  · subst q2
    try simp -implicitDefEqProofs only [go_sem]
    repeat refine ⟨sc, ?_⟩
    try exact sf
    cases g1 : R.no
    · try simp -implicitDefEqProofs only [go_sem, g1]
      repeat refine ⟨sc, ?_⟩
      try exact sf
      cases g0 : (who == 0)
      · try simp -implicitDefEqProofs only [go_sem, g0, RecV.ok, RecV.body, RecV.who, g1]
        repeat refine ⟨sc, ?_⟩
        try exact sf
      · try simp -implicitDefEqProofs only [go_sem, g0, RecV.ok, RecV.body, RecV.who, g1]
        repeat refine ⟨sc, ?_⟩
        try exact sf
    try simp -implicitDefEqProofs only [go_sem, g1]
    repeat refine ⟨sc, ?_⟩
    try exact sf
    refine .of (c_i_NameOk key hK) ?_
    try simp -implicitDefEqProofs only [go_sem]
    repeat refine ⟨sc, ?_⟩
    try exact sf
    cases g2 : nameOk key
    · try simp -implicitDefEqProofs only [go_sem, g1, g2]
      repeat refine ⟨sc, ?_⟩
      try exact sf
      cases g0 : (who == 0)
      · try simp -implicitDefEqProofs only [go_sem, g0, RecV.ok, RecV.body, RecV.who, g1, g2]
        repeat refine ⟨sc, ?_⟩
        try exact sf
      · try simp -implicitDefEqProofs only [go_sem, g0, RecV.ok, RecV.body, RecV.who, g1, g2]
        repeat refine ⟨sc, ?_⟩
        try exact sf
    try simp -implicitDefEqProofs only [go_sem, g2]
    repeat refine ⟨sc, ?_⟩
    try exact sf
    cases g3 : (n == 0)
    · try simp -implicitDefEqProofs only [go_sem, g1, g2, g3]
      repeat refine ⟨sc, ?_⟩
      try exact sf
      cases g0 : (who == 0)
      · try simp -implicitDefEqProofs only [go_sem, g0, RecV.ok, RecV.body, RecV.who, g1, g2, g3]
        repeat refine ⟨sc, ?_⟩
        try exact sf
      · try simp -implicitDefEqProofs only [go_sem, g0, RecV.ok, RecV.body, RecV.who, g1, g2, g3]
        repeat refine ⟨sc, ?_⟩
        try exact sf
    try simp -implicitDefEqProofs only [go_sem, g3]
    repeat refine ⟨sc, ?_⟩
    try exact sf
    cases g0 : (who == 0)
    · try simp -implicitDefEqProofs only [go_sem, g0]
      repeat refine ⟨sc, ?_⟩
      try exact sf
      refine .of (c_i_within _ _ _) ?_
      try simp -implicitDefEqProofs only [go_sem]
      repeat refine ⟨sc, ?_⟩
      try exact sf
      cases h1 : win who 1 9
      · try simp -implicitDefEqProofs only [go_sem, g0, h1, RecV.ok, RecV.body, RecV.who, g1, g2, g3]
        repeat refine ⟨sc, ?_⟩
        try exact sf
      try simp -implicitDefEqProofs only [go_sem]
      repeat refine ⟨sc, ?_⟩
      try exact sf
      refine .of (c_i_isWord _) ?_
      try simp -implicitDefEqProofs only [go_sem]
      repeat refine ⟨sc, ?_⟩
      try exact sf
      cases h2 : win seq 0 65535
      · try simp -implicitDefEqProofs only [go_sem, g0, h1, h2, RecV.ok, RecV.body, RecV.who, g1, g2, g3]
        repeat refine ⟨sc, ?_⟩
        try exact sf
        try rfl
      try simp -implicitDefEqProofs only [go_sem]
      repeat refine ⟨sc, ?_⟩
      try exact sf
      refine .of (c_i_within _ _ _) ?_
      try simp -implicitDefEqProofs only [go_sem, g0, h1, h2, RecV.ok, RecV.body, RecV.who, g1, g2, g3]
      repeat refine ⟨sc, ?_⟩
      try exact sf
    · try simp -implicitDefEqProofs only [go_sem, g0]
      repeat refine ⟨sc, ?_⟩
      try exact sf
      cases h1 : (seq == 0)
      · try simp -implicitDefEqProofs only [go_sem, g0, h1, RecV.ok, RecV.body, RecV.who, g1, g2, g3]
        repeat refine ⟨sc, ?_⟩
        try exact sf
      try simp -implicitDefEqProofs only [go_sem, h1]
      repeat refine ⟨sc, ?_⟩
      try exact sf
      cases h2 : (code == 0)
      · try simp -implicitDefEqProofs only [go_sem, g0, h1, h2, RecV.ok, RecV.body, RecV.who, g1, g2, g3]
        repeat refine ⟨sc, ?_⟩
        try exact sf
        try rfl
      try simp -implicitDefEqProofs only [go_sem, g0, h1, h2, RecV.ok, RecV.body, RecV.who, g1, g2, g3]
      repeat refine ⟨sc, ?_⟩
      try exact sf
      try rfl
  by_cases q3 : kind = 3
  · subst q3
    try simp -implicitDefEqProofs only [go_sem]
    repeat refine ⟨sc, ?_⟩
    try exact sf
    cases g1 : R.no
    · try simp -implicitDefEqProofs only [go_sem, g1]
      repeat refine ⟨sc, ?_⟩
      try exact sf
      cases g0 : (who == 0)
      · try simp -implicitDefEqProofs only [go_sem, g0, RecV.ok, RecV.body, RecV.who, g1]
        repeat refine ⟨sc, ?_⟩
        try exact sf
      · try simp -implicitDefEqProofs only [go_sem, g0, RecV.ok, RecV.body, RecV.who, g1]
        repeat refine ⟨sc, ?_⟩
        try exact sf
    try simp -implicitDefEqProofs only [go_sem, g1]
    repeat refine ⟨sc, ?_⟩
    try exact sf
    cases g2 : decide (key = ⟨#[]⟩)
    · try simp -implicitDefEqProofs only [go_sem, g1, g2]
      repeat refine ⟨sc, ?_⟩
      try exact sf
      cases g0 : (who == 0)
      · try simp -implicitDefEqProofs only [go_sem, g0, RecV.ok, RecV.body, RecV.who, g1, g2]
        repeat refine ⟨sc, ?_⟩
        try exact sf
      · try simp -implicitDefEqProofs only [go_sem, g0, RecV.ok, RecV.body, RecV.who, g1, g2]
        repeat refine ⟨sc, ?_⟩
        try exact sf
    try simp -implicitDefEqProofs only [go_sem, g2]
    repeat refine ⟨sc, ?_⟩
    try exact sf
    refine .of (c_i_within _ _ _) ?_
    try simp -implicitDefEqProofs only [go_sem]
    repeat refine ⟨sc, ?_⟩
    try exact sf
    cases g3 : win n 0 7
    · try simp -implicitDefEqProofs only [go_sem, g1, g2, g3]
      repeat refine ⟨sc, ?_⟩
      try exact sf
      cases g0 : (who == 0)
      · try simp -implicitDefEqProofs only [go_sem, g0, RecV.ok, RecV.body, RecV.who, g1, g2, g3]
        repeat refine ⟨sc, ?_⟩
        try exact sf
      · try simp -implicitDefEqProofs only [go_sem, g0, RecV.ok, RecV.body, RecV.who, g1, g2, g3]
        repeat refine ⟨sc, ?_⟩
        try exact sf
    try simp -implicitDefEqProofs only [go_sem, g3]
    repeat refine ⟨sc, ?_⟩
    try exact sf
    cases g0 : (who == 0)
    · try simp -implicitDefEqProofs only [go_sem, g0]
      repeat refine ⟨sc, ?_⟩
      try exact sf
      refine .of (c_i_within _ _ _) ?_
      try simp -implicitDefEqProofs only [go_sem]
      repeat refine ⟨sc, ?_⟩
      try exact sf
      cases h1 : win who 1 9
      · try simp -implicitDefEqProofs only [go_sem, g0, h1, RecV.ok, RecV.body, RecV.who, g1, g2, g3]
        repeat refine ⟨sc, ?_⟩
        try exact sf
      try simp -implicitDefEqProofs only [go_sem]
      repeat refine ⟨sc, ?_⟩
      try exact sf
      refine .of (c_i_isWord _) ?_
      try simp -implicitDefEqProofs only [go_sem]
      repeat refine ⟨sc, ?_⟩
      try exact sf
      cases h2 : win seq 0 65535
      · try simp -implicitDefEqProofs only [go_sem, g0, h1, h2, RecV.ok, RecV.body, RecV.who, g1, g2, g3]
        repeat refine ⟨sc, ?_⟩
        try exact sf
        try rfl
      try simp -implicitDefEqProofs only [go_sem]
      repeat refine ⟨sc, ?_⟩
      try exact sf
      refine .of (c_i_within _ _ _) ?_
      try simp -implicitDefEqProofs only [go_sem, g0, h1, h2, RecV.ok, RecV.body, RecV.who, g1, g2, g3]
      repeat refine ⟨sc, ?_⟩
      try exact sf
    · try simp -implicitDefEqProofs only [go_sem, g0]
      repeat refine ⟨sc, ?_⟩
      try exact sf
      cases h1 : (seq == 0)
      · try simp -implicitDefEqProofs only [go_sem, g0, h1, RecV.ok, RecV.body, RecV.who, g1, g2, g3]
        repeat refine ⟨sc, ?_⟩
        try exact sf
      try simp -implicitDefEqProofs only [go_sem, h1]
      repeat refine ⟨sc, ?_⟩
      try exact sf
      cases h2 : (code == 0)
      · try simp -implicitDefEqProofs only [go_sem, g0, h1, h2, RecV.ok, RecV.body, RecV.who, g1, g2, g3]
        repeat refine ⟨sc, ?_⟩
        try exact sf
        try rfl
      try simp -implicitDefEqProofs only [go_sem, g0, h1, h2, RecV.ok, RecV.body, RecV.who, g1, g2, g3]
      repeat refine ⟨sc, ?_⟩
      try exact sf
      try rfl
  by_cases q4 : kind = 4
  · subst q4
    try simp -implicitDefEqProofs only [go_sem]
    repeat refine ⟨sc, ?_⟩
    try exact sf
    cases g1 : R.no
    · try simp -implicitDefEqProofs only [go_sem, g1]
      repeat refine ⟨sc, ?_⟩
      try exact sf
      cases g0 : (who == 0)
      · try simp -implicitDefEqProofs only [go_sem, g0, RecV.ok, RecV.body, RecV.who, g1]
        repeat refine ⟨sc, ?_⟩
        try exact sf
      · try simp -implicitDefEqProofs only [go_sem, g0, RecV.ok, RecV.body, RecV.who, g1]
        repeat refine ⟨sc, ?_⟩
        try exact sf
    try simp -implicitDefEqProofs only [go_sem, g1]
    repeat refine ⟨sc, ?_⟩
    try exact sf
    cases g2 : decide (key = ⟨#[]⟩)
    · try simp -implicitDefEqProofs only [go_sem, g1, g2]
      repeat refine ⟨sc, ?_⟩
      try exact sf
      cases g0 : (who == 0)
      · try simp -implicitDefEqProofs only [go_sem, g0, RecV.ok, RecV.body, RecV.who, g1, g2]
        repeat refine ⟨sc, ?_⟩
        try exact sf
      · try simp -implicitDefEqProofs only [go_sem, g0, RecV.ok, RecV.body, RecV.who, g1, g2]
        repeat refine ⟨sc, ?_⟩
        try exact sf
    try simp -implicitDefEqProofs only [go_sem, g2]
    repeat refine ⟨sc, ?_⟩
    try exact sf
    cases g3 : (n == 0)
    · try simp -implicitDefEqProofs only [go_sem, g1, g2, g3]
      repeat refine ⟨sc, ?_⟩
      try exact sf
      cases g0 : (who == 0)
      · try simp -implicitDefEqProofs only [go_sem, g0, RecV.ok, RecV.body, RecV.who, g1, g2, g3]
        repeat refine ⟨sc, ?_⟩
        try exact sf
      · try simp -implicitDefEqProofs only [go_sem, g0, RecV.ok, RecV.body, RecV.who, g1, g2, g3]
        repeat refine ⟨sc, ?_⟩
        try exact sf
    try simp -implicitDefEqProofs only [go_sem, g3]
    repeat refine ⟨sc, ?_⟩
    try exact sf
    cases g0 : (who == 0)
    · have g9 : (who != 0) = true := by rw [bne, g0]; rfl
      try simp -implicitDefEqProofs only [go_sem, g0, g9]
      repeat refine ⟨sc, ?_⟩
      try exact sf
      refine .of (c_i_within _ _ _) ?_
      try simp -implicitDefEqProofs only [go_sem]
      repeat refine ⟨sc, ?_⟩
      try exact sf
      cases h1 : win who 1 9
      · try simp -implicitDefEqProofs only [go_sem, g0, h1, RecV.ok, RecV.body, RecV.who, g1, g2, g3]
        repeat refine ⟨sc, ?_⟩
        try exact sf
      try simp -implicitDefEqProofs only [go_sem]
      repeat refine ⟨sc, ?_⟩
      try exact sf
      refine .of (c_i_isWord _) ?_
      try simp -implicitDefEqProofs only [go_sem]
      repeat refine ⟨sc, ?_⟩
      try exact sf
      cases h2 : win seq 0 65535
      · try simp -implicitDefEqProofs only [go_sem, g0, h1, h2, RecV.ok, RecV.body, RecV.who, g1, g2, g3]
        repeat refine ⟨sc, ?_⟩
        try exact sf
        try rfl
      try simp -implicitDefEqProofs only [go_sem]
      repeat refine ⟨sc, ?_⟩
      try exact sf
      refine .of (c_i_within _ _ _) ?_
      try simp -implicitDefEqProofs only [go_sem, g0, h1, h2, RecV.ok, RecV.body, RecV.who, g1, g2, g3]
      repeat refine ⟨sc, ?_⟩
      try exact sf
    · have g9 : (who != 0) = false := by rw [bne, g0]; rfl
      try simp -implicitDefEqProofs only [go_sem, g0, g9]
      repeat refine ⟨sc, ?_⟩
      try exact sf
      cases h1 : (seq == 0)
      · try simp -implicitDefEqProofs only [go_sem, g0, h1, RecV.ok, RecV.body, RecV.who, g1, g2, g3]
        repeat refine ⟨sc, ?_⟩
        try exact sf
      cases h2 : (code == 0)
      · try simp -implicitDefEqProofs only [go_sem, g0, h1, h2, RecV.ok, RecV.body, RecV.who, g1, g2, g3]
        repeat refine ⟨sc, ?_⟩
        try exact sf
        try rfl
      try simp -implicitDefEqProofs only [go_sem, g0, h1, h2, RecV.ok, RecV.body, RecV.who, g1, g2, g3]
      repeat refine ⟨sc, ?_⟩
      try exact sf
      try rfl
  obtain ⟨k1, k2, k3, k4⟩ := other_kind q1 q2 q3 q4
  try simp -implicitDefEqProofs only [go_sem, k1, k2, k3, k4]
  repeat refine ⟨sc, ?_⟩
  try exact sf
  cases g0 : (who == 0)
  · try simp -implicitDefEqProofs only [go_sem, g0, RecV.ok, RecV.body, RecV.who, k1, k2, k3, k4]
    repeat refine ⟨sc, ?_⟩
    try exact sf
  · try simp -implicitDefEqProofs only [go_sem, g0, RecV.ok, RecV.body, RecV.who, k1, k2, k3, k4]
    repeat refine ⟨sc, ?_⟩
    try exact sf
end Go.X

/- Vj -/
namespace Go.X
set_option maxRecDepth 100000
set_option maxHeartbeats 8000000
def strOf (l : List UInt8) : ByteArray := ⟨l.toArray⟩
def putCell (b : List UInt8) (c : CellV) : List UInt8 := putText (b ++ [mkU c.Tag]) (strOf c.B)
def flagU (a : Bool) : UInt8 := bif a then 1 else 0
def putRow1 (b : List UInt8) (r : RowV) : List UInt8 := putText b r.Key ++ [mkU r.Has, flagU r.Aside]
def putRow2 (b : List UInt8) (r : RowV) : List UInt8 := if r.Has = 2 then putRow1 b r else putCell (putRow1 b r) r.Old
def putRow3 (b : List UInt8) (r : RowV) : List UInt8 := if r.Has = 1 then putRow2 b r else putCell (putRow2 b r) r.New
def putRow (b : List UInt8) (r : RowV) : List UInt8 := if r.ok = true then putRow3 b r else b
theorem app1B (l : List UInt8) (x : UInt8) : List.map uR l ++ [[uT x]] = List.map uR (l ++ [x]) := by rw [List.map_append]; rfl
theorem app2B (l : List UInt8) (x y : UInt8) : List.map uR l ++ [[uT x], [uT y]] = List.map uR (l ++ [x, y]) := by rw [List.map_append]; rfl
theorem take1B (l : List UInt8) (x : UInt8) : List.take (l.length + 1) (List.map uR (l ++ [x])) = List.map uR (l ++ [x]) := List.take_of_length_le (by simp)
theorem take2B (l : List UInt8) (x y : UInt8) : List.take (l.length + 2) (List.map uR (l ++ [x, y])) = List.map uR (l ++ [x, y]) := List.take_of_length_le (by simp)
theorem putCell_len (b : List UInt8) (c : CellV) : (putCell b c).length ≤ b.length + 63 := by
  have := putText_len (b ++ [mkU c.Tag]) (strOf c.B)
  simp only [List.length_append, List.length_cons, List.length_nil] at this
  unfold putCell
  omega
theorem putRow1_len (b : List UInt8) (r : RowV) : (putRow1 b r).length ≤ b.length + 64 := by
  have := putText_len b r.Key
  unfold putRow1
  rw [List.length_append]
  simp only [List.length_cons, List.length_nil]
  omega
theorem putRow2_len (b : List UInt8) (r : RowV) : (putRow2 b r).length ≤ b.length + 127 := by
  have h1 := putRow1_len b r
  have h2 := putCell_len (putRow1 b r) r.Old
  unfold putRow2
  split <;> omega
theorem putRow_len (b : List UInt8) (r : RowV) : (putRow b r).length ≤ b.length + 190 := by
  have h1 := putRow2_len b r
  have h2 := putCell_len (putRow2 b r) r.New
  unfold putRow putRow3
  split
  · split <;> omega
  · omega
theorem rowOk_win {r : RowV} (h : r.ok = true) : win r.Has 1 3 = true := by
  cases g : win r.Has 1 3
  · rw [rowOk_has g] at h; exact absurd h (by decide)
  · rfl
theorem rowOk_cells {r : RowV} (h : r.In (2 ^ 48)) : r.Old.B.length ≤ 2 ^ 48 ∧ r.New.B.length ≤ 2 ^ 48 := ⟨h.2.1, h.2.2⟩
theorem strOf_size (l : List UInt8) : (strOf l).size = l.length := by simp [strOf, ByteArray.size]
def x_s_l11Cell : FnX := ⟨15, [.tmp 4],
  .q [.v 3 1, .op 4 (.mv (.k (.one (.nils 1))))]
 (.seq (.draw [.m 5 0, .f 6 3 0, .l 7 6, .op 8 (.conv (.int .u8) (.t 7)), .op 9 (.bslice 1 [(.t 8)]), .op 10 (.app 1 1 (.t 5) (.t 9)), .f 11 3 1, .l 12 11, .op 13 (.conv .b2s (.t 12)), .c 14 116 [10, 13], .m 4 14] [[], [], [1], [2], [3], [0, 4], [], [6], [7], [5, 8, 5], [9, 9, 0, 1, 2, 3, 4, 5, 6, 7, 8, 9]])
 .ret)⟩
abbrev C_s_l11Cell (Te : TE) : Prop := ∀ (b : List UInt8) (c : CellV) (hb : b.length ≤ 2 ^ 28) (hc : c.B.length ≤ 2 ^ 48), Te 152 [.one (slT true 1 uR b), .agg (c.enc false)] ⟨[.one (slT true 1 uR (putCell b c))], [[.no ()], c.enc false]⟩
theorem r_s_l11Cell {Te : TE} (c_s_PutText : C_s_PutText Te) : C_s_l11Cell (RF Te x_s_l11Cell) := by
  intro b c hb hc
  refine run0 ?_
  have ea := areBytes_uR c.B
  have fa := bytesOf_uR c.B
  simp -implicitDefEqProofs only [x_s_l11Cell, go_sem, mkU_wrap, ea, fa, app1B, take1B]
  repeat refine ⟨sc, ?_⟩
  try exact sf
  have tt := c_s_PutText (b ++ [mkU c.Tag]) (strOf c.B) (by rw [List.length_append]; simp only [List.length_cons, List.length_nil]; omega) (by rw [strOf_size]; exact hc)
  rw [← putCell] at tt
  refine .of (tt) ?_
  try simp -implicitDefEqProofs only [go_sem]
  repeat refine ⟨sc, ?_⟩
  try exact sf
def x_i_PutRow : FnX := ⟨56, [.tmp 4],
  .q [.v 3 1, .op 4 (.mv (.k (.one (.nils 1))))]
 (.q [.m 6 0, .op 7 (.bslice 1 [(.t 6)]), .c 8 121 [7], .m 5 8]
 (.seq (.q [.L 9 7 3, .c 10 139 [9], .N 11 10]
 (.c 11 (.q [.m 12 5, .m 4 12]
 .ret)))
 (.seq (.draw [.m 13 5, .f 14 3 0, .l 15 14, .c 16 126 [13, 15], .f 17 3 5, .l 18 17, .op 19 (.conv (.int .u8) (.t 18)), .f 20 3 6, .l 21 20, .c 22 155 [21], .op 23 (.bslice 1 [(.t 19), (.t 22)]), .op 24 (.app 1 1 (.t 16) (.t 23)), .m 5 24] [[], [], [1], [0, 2], [], [4], [5], [], [7], [8, 3], [6, 9], [3, 10, 9], [11, 11, 0, 1, 2, 3, 4, 5, 6, 7, 8, 9, 10, 11]])
 (.seq (.q [.f 25 3 5, .l 26 25, .B 27 .neq 26 2]
 (.c 27 (.draw [.m 28 5, .f 29 3 1, .f 30 29 0, .l 31 30, .op 32 (.conv (.int .u8) (.t 31)), .op 33 (.bslice 1 [(.t 32)]), .op 34 (.app 1 1 (.t 28) (.t 33)), .f 35 3 1, .f 36 35 1, .l 37 36, .op 38 (.conv .b2s (.t 37)), .c 39 126 [34, 38], .m 5 39] [[], [], [1], [2], [3], [4], [0, 5], [], [7], [8], [9], [6, 10, 6], [11, 11, 0, 1, 2, 3, 4, 5, 6, 7, 8, 9, 10, 11]])))
 (.seq (.q [.f 40 3 5, .l 41 40, .B 42 .neq 41 1]
 (.c 42 (.draw [.m 43 5, .f 44 3 3, .f 45 44 0, .l 46 45, .op 47 (.conv (.int .u8) (.t 46)), .op 48 (.bslice 1 [(.t 47)]), .op 49 (.app 1 1 (.t 43) (.t 48)), .f 50 3 3, .f 51 50 1, .l 52 51, .op 53 (.conv .b2s (.t 52)), .c 54 126 [49, 53], .m 5 54] [[], [], [1], [2], [3], [4], [0, 5], [], [7], [8], [9], [6, 10, 6], [11, 11, 0, 1, 2, 3, 4, 5, 6, 7, 8, 9, 10, 11]])))
 (.q [.m 55 5, .m 4 55]
 .ret))))))⟩
abbrev C_i_PutRow (Te : TE) : Prop := ∀ (b : List UInt8) (r : RowV) (hb : b.length ≤ 2 ^ 27) (h : r.In (2 ^ 48)), Te 125 [.one (slT false 1 uR b), .agg (r.enc false)] ⟨[.one (slT true 1 uR (putRow b r))], [[slT false 1 uR b], r.enc false]⟩
theorem r_i_PutRow {Te : TE} (c_i_joined : C_i_joined Te) (c_i_RowOk : C_i_RowOk Te) (c_i_PutText : C_i_PutText Te) (c_i_flag : C_i_flag Te) : C_i_PutRow (RF Te x_i_PutRow) := by
  intro b r hb h
  refine run0 ?_
  obtain ⟨h1, h2, h3⟩ := h
  have ea := areBytes_uR r.Old.B
  have fa := bytesOf_uR r.Old.B
  have eb := areBytes_uR r.New.B
  have fb := bytesOf_uR r.New.B
  have l0 := putText_len b r.Key
  have l1 := putRow1_len b r
  have l2 := putRow2_len b r
  simp -implicitDefEqProofs only [x_i_PutRow, go_sem]
  repeat refine ⟨sc, ?_⟩
  try exact sf
  refine .of (c_i_joined [b] (by rw [flat1]; omega) (by show 1 ≤ 2 ^ 31; decide)) ?_
  try simp -implicitDefEqProofs only [go_sem, flat1]
  repeat refine ⟨sc, ?_⟩
  try exact sf
  refine .of (c_i_RowOk r ⟨h1, h2, h3⟩) ?_
  try simp -implicitDefEqProofs only [go_sem]
  repeat refine ⟨sc, ?_⟩
  try exact sf
  cases g : r.ok
  · try simp -implicitDefEqProofs only [go_sem, putRow, g, if_false, reduceCtorEq]
    repeat refine ⟨sc, ?_⟩
    try exact sf
  have ep : putRow b r = putRow3 b r := if_pos g
  try simp -implicitDefEqProofs only [go_sem]
  repeat refine ⟨sc, ?_⟩
  try exact sf
  refine .of (c_i_PutText b r.Key (by omega) h1) ?_
  try simp -implicitDefEqProofs only [go_sem]
  repeat refine ⟨sc, ?_⟩
  try exact sf
  refine .of (c_i_flag r.Aside) ?_
  try simp -implicitDefEqProofs only [go_sem, mkU_wrap, app2B, take2B]
  repeat refine ⟨sc, ?_⟩
  try exact sf
  have e1 : putText b r.Key ++ [mkU r.Has, bif r.Aside then 1 else 0] = putRow1 b r := rfl
  have e2 : (putText b r.Key).length + 2 = (putRow1 b r).length := by rw [putRow1, List.length_append]; rfl
  simp only [e1, e2]
  have gw := win13 (rowOk_win g)
  by_cases q2 : r.Has = 2
  · have k2 : (r.Has != 2) = false := by simp only [bne_eq_false_iff_eq]; exact q2
    have k1 : (r.Has != 1) = true := by simp only [bne_iff_ne, ne_eq]; omega
    have e3 : putRow2 b r = putRow1 b r := if_pos q2
    have e4 : putRow3 b r = putCell (putRow1 b r) r.New := by rw [putRow3, if_neg (by omega), e3]
    try simp -implicitDefEqProofs only [go_sem, k2, k1, eb, fb, mkU_wrap, app1B, take1B]
    repeat refine ⟨sc, ?_⟩
    try exact sf
    have tt := c_i_PutText (putRow1 b r ++ [mkU r.New.Tag]) (strOf r.New.B) (by rw [List.length_append]; simp only [List.length_cons, List.length_nil]; omega) (by rw [strOf_size]; exact h3)
    rw [← putCell] at tt
    refine .of (tt) ?_
    try simp -implicitDefEqProofs only [go_sem, ep, e4]
    repeat refine ⟨sc, ?_⟩
    try exact sf
  · have k2 : (r.Has != 2) = true := by simp only [bne_iff_ne, ne_eq]; exact q2
    have e3 : putRow2 b r = putCell (putRow1 b r) r.Old := if_neg q2
    try simp -implicitDefEqProofs only [go_sem, k2, ea, fa, mkU_wrap, app1B, take1B]
    repeat refine ⟨sc, ?_⟩
    try exact sf
    have tt := c_i_PutText (putRow1 b r ++ [mkU r.Old.Tag]) (strOf r.Old.B) (by rw [List.length_append]; simp only [List.length_cons, List.length_nil]; omega) (by rw [strOf_size]; exact h2)
    rw [← putCell, ← e3] at tt
    refine .of (tt) ?_
    try simp -implicitDefEqProofs only [go_sem]
    repeat refine ⟨sc, ?_⟩
    try exact sf
    by_cases q1 : r.Has = 1
    · have k1 : (r.Has != 1) = false := by simp only [bne_eq_false_iff_eq]; exact q1
      have e4 : putRow3 b r = putRow2 b r := if_pos q1
      try simp -implicitDefEqProofs only [go_sem, k1, ep, e4]
      repeat refine ⟨sc, ?_⟩
      try exact sf
    · have k1 : (r.Has != 1) = true := by simp only [bne_iff_ne, ne_eq]; exact q1
      have e4 : putRow3 b r = putCell (putRow2 b r) r.New := if_neg q1
      try simp -implicitDefEqProofs only [go_sem, k1, eb, fb, mkU_wrap, app1B, take1B]
      repeat refine ⟨sc, ?_⟩
      try exact sf
      have tt := c_i_PutText (putRow2 b r ++ [mkU r.New.Tag]) (strOf r.New.B) (by rw [List.length_append]; simp only [List.length_cons, List.length_nil]; omega) (by rw [strOf_size]; exact h3)
      rw [← putCell] at tt
      refine .of (tt) ?_
      try simp -implicitDefEqProofs only [go_sem, ep, e4]
      repeat refine ⟨sc, ?_⟩
      try exact sf
def x_s_PutRow : FnX := ⟨38, [.tmp 4],
  .q [.v 3 1, .op 4 (.mv (.k (.one (.nils 1))))]
 (.q [.op 6 (.bslice 1 []), .m 7 0, .op 8 (.app 1 1 (.t 6) (.t 7)), .m 5 8]
 (.seq (.q [.L 9 7 3, .c 10 132 [9], .N 11 10]
 (.c 11 (.q [.m 12 5, .m 4 12]
 .ret)))
 (.seq (.draw [.m 13 5, .f 14 3 0, .l 15 14, .c 16 116 [13, 15], .f 17 3 5, .l 18 17, .op 19 (.conv (.int .u8) (.t 18)), .f 20 3 6, .l 21 20, .c 22 150 [21], .op 23 (.bslice 1 [(.t 19), (.t 22)]), .op 24 (.app 1 1 (.t 16) (.t 23)), .m 5 24] [[], [], [1], [0, 2], [], [4], [5], [], [7], [8, 3], [6, 9], [3, 10, 9], [11, 11, 0, 1, 2, 3, 4, 5, 6, 7, 8, 9, 10, 11]])
 (.seq (.q [.L 25 7 3, .c 26 151 [25]]
 (.c 26 (.reg [.m 27 5, .f 28 3 1, .L 29 2 28, .op 30 (.call 152 [1, 0] [(.t 27), (.t 29)]), .m 5 30])))
 (.seq (.q [.L 31 7 3, .c 32 32 [31]]
 (.c 32 (.reg [.m 33 5, .f 34 3 3, .L 35 2 34, .op 36 (.call 152 [1, 0] [(.t 33), (.t 35)]), .m 5 36])))
 (.q [.m 37 5, .m 4 37]
 .ret))))))⟩
abbrev C_s_PutRow (Te : TE) : Prop := ∀ (b : List UInt8) (r : RowV) (hb : b.length ≤ 2 ^ 27) (h : r.In (2 ^ 48)), Te 115 [.one (slT false 1 uR b), .agg (r.enc false)] ⟨[.one (slT true 1 uR (putRow b r))], [[slT false 1 uR b], r.enc false]⟩
theorem r_s_PutRow {Te : TE} (c_s_RowOk : C_s_RowOk Te) (c_s_PutText : C_s_PutText Te) (c_s_l11Bit : C_s_l11Bit Te) (c_s_l9Old : C_s_l9Old Te) (c_s_l11Cell : C_s_l11Cell Te) (c_s_l9New : C_s_l9New Te) : C_s_PutRow (RF Te x_s_PutRow) := by
  intro b r hb h
  refine run0 ?_
  obtain ⟨h1, h2, h3⟩ := h
  have l0 := putText_len b r.Key
  have l1 := putRow1_len b r
  have l2 := putRow2_len b r
  simp -implicitDefEqProofs only [x_s_PutRow, go_sem]
  repeat refine ⟨sc, ?_⟩
  try exact sf
  refine .of (c_s_RowOk r ⟨h1, h2, h3⟩) ?_
  try simp -implicitDefEqProofs only [go_sem]
  repeat refine ⟨sc, ?_⟩
  try exact sf
  cases g : r.ok
  · try simp -implicitDefEqProofs only [go_sem, putRow, g, if_false, reduceCtorEq]
    repeat refine ⟨sc, ?_⟩
    try exact sf
  have ep : putRow b r = putRow3 b r := if_pos g
  try simp -implicitDefEqProofs only [go_sem, take_rows]
  repeat refine ⟨sc, ?_⟩
  try exact sf
  refine .of (c_s_PutText b r.Key (by omega) h1) ?_
  try simp -implicitDefEqProofs only [go_sem]
  repeat refine ⟨sc, ?_⟩
  try exact sf
  refine .of (c_s_l11Bit r.Aside) ?_
  try simp -implicitDefEqProofs only [go_sem, mkU_wrap, app2B, take2B]
  repeat refine ⟨sc, ?_⟩
  try exact sf
  have e1 : putText b r.Key ++ [mkU r.Has, bif r.Aside then 1 else 0] = putRow1 b r := rfl
  have e2 : (putText b r.Key).length + 2 = (putRow1 b r).length := by rw [putRow1, List.length_append]; rfl
  simp only [e1, e2]
  have gw := win13 (rowOk_win g)
  refine .of (c_s_l9Old r gw) ?_
  try simp -implicitDefEqProofs only [go_sem]
  repeat refine ⟨sc, ?_⟩
  try exact sf
  by_cases q2 : r.Has = 2
  · have k2 : decide (r.Has ≠ 2) = false := by simp only [ne_eq, q2, not_true_eq_false, decide_false]
    have k1 : decide (r.Has ≠ 1) = true := decide_eq_true (by omega)
    have e3 : putRow2 b r = putRow1 b r := if_pos q2
    have e4 : putRow3 b r = putCell (putRow1 b r) r.New := by rw [putRow3, if_neg (by omega), e3]
    try simp -implicitDefEqProofs only [go_sem, k2]
    repeat refine ⟨sc, ?_⟩
    try exact sf
    refine .of (c_s_l9New r gw) ?_
    try simp -implicitDefEqProofs only [go_sem, k1]
    repeat refine ⟨sc, ?_⟩
    try exact sf
    refine .of (c_s_l11Cell (putRow1 b r) r.New (by omega) h3) ?_
    try simp -implicitDefEqProofs only [go_sem, ep, e4]
    repeat refine ⟨sc, ?_⟩
    try exact sf
  · have k2 : decide (r.Has ≠ 2) = true := decide_eq_true q2
    have e3 : putRow2 b r = putCell (putRow1 b r) r.Old := if_neg q2
    have tt := c_s_l11Cell (putRow1 b r) r.Old (by omega) h2
    rw [← e3] at tt
    try simp -implicitDefEqProofs only [go_sem, k2]
    repeat refine ⟨sc, ?_⟩
    try exact sf
    refine .of (tt) ?_
    try simp -implicitDefEqProofs only [go_sem]
    repeat refine ⟨sc, ?_⟩
    try exact sf
    refine .of (c_s_l9New r gw) ?_
    try simp -implicitDefEqProofs only [go_sem]
    repeat refine ⟨sc, ?_⟩
    try exact sf
    by_cases q1 : r.Has = 1
    · have k1 : decide (r.Has ≠ 1) = false := by simp only [ne_eq, q1, not_true_eq_false, decide_false]
      have e4 : putRow3 b r = putRow2 b r := if_pos q1
      try simp -implicitDefEqProofs only [go_sem, k1, ep, e4]
      repeat refine ⟨sc, ?_⟩
      try exact sf
    · have k1 : decide (r.Has ≠ 1) = true := decide_eq_true q1
      have e4 : putRow3 b r = putCell (putRow2 b r) r.New := if_neg q1
      try simp -implicitDefEqProofs only [go_sem, k1]
      repeat refine ⟨sc, ?_⟩
      try exact sf
      refine .of (c_s_l11Cell (putRow2 b r) r.New (by omega) h3) ?_
      try simp -implicitDefEqProofs only [go_sem, ep, e4]
      repeat refine ⟨sc, ?_⟩
      try exact sf
def recKind (b : List UInt8) (r : RecV) : List UInt8 := if r.Kind = 1 then putRow b r.R else if r.Kind = 2 then putText b r.Key else if r.Kind = 3 then b ++ [mkU r.N] else b
def recHead (gen place : Int) (r : RecV) : List UInt8 := putW (putW [] gen) place ++ [mkU r.Kind]
def recBody (gen place : Int) (r : RecV) : List UInt8 := putW (recKind (recHead gen place r) r ++ [mkU r.Who, mkU r.Code]) r.Seq
def recGood (gen place : Int) (r : RecV) : Bool := r.ok && win gen 0 65535 && win place 0 65535
def putRec (gen place : Int) (r : RecV) : List UInt8 := if recGood gen place r = true then putW (recBody gen place r) (sum (recBody gen place r) : Nat) else []
theorem recHead_len (gen place : Int) (r : RecV) : (recHead gen place r).length = 5 := by
  simp only [recHead, putW, List.length_append, List.length_cons, List.length_nil]
theorem recKind_len (b : List UInt8) (r : RecV) : (recKind b r).length ≤ b.length + 190 := by
  unfold recKind
  have h1 := putRow_len b r.R
  have h2 := putText_len b r.Key
  split
  · omega
  · split
    · omega
    · split
      · simp only [List.length_append, List.length_cons, List.length_nil]; omega
      · omega
theorem recBody_len (gen place : Int) (r : RecV) : (recBody gen place r).length ≤ 199 := by
  have h1 := recKind_len (recHead gen place r) r
  rw [recHead_len] at h1
  unfold recBody
  rw [putW_len, List.length_append]
  simp only [List.length_cons, List.length_nil]
  omega
theorem putRec_len (gen place : Int) (r : RecV) : (putRec gen place r).length ≤ 201 := by
  unfold putRec
  have := recBody_len gen place r
  split
  · rw [putW_len]; omega
  · exact Nat.zero_le _
theorem recNo1 {gen place : Int} {r : RecV} (h : r.ok = false) : putRec gen place r = [] := by
  have : recGood gen place r = false := by simp only [recGood, h, Bool.false_and]
  rw [putRec, this]; rfl
theorem recNo2 {gen place : Int} {r : RecV} (h : win gen 0 65535 = false) : putRec gen place r = [] := by
  have : recGood gen place r = false := by simp only [recGood, h, Bool.false_and, Bool.and_false]
  rw [putRec, this]; rfl
theorem recNo3 {gen place : Int} {r : RecV} (h : win place 0 65535 = false) : putRec gen place r = [] := by
  have : recGood gen place r = false := by simp only [recGood, h, Bool.and_false]
  rw [putRec, this]; rfl
theorem recYes {gen place : Int} {r : RecV} (h1 : r.ok = true) (h2 : win gen 0 65535 = true) (h3 : win place 0 65535 = true) : putRec gen place r = putW (recBody gen place r) (sum (recBody gen place r) : Nat) := by
  have : recGood gen place r = true := by simp only [recGood, h1, h2, h3, Bool.and_true]
  rw [putRec, if_pos this]
theorem other3 {k : Int} (h1 : ¬ k = 1) (h2 : ¬ k = 2) (h3 : ¬ k = 3) : (k == 1) = false ∧ (k == 2) = false ∧ (k == 3) = false := by
  simp only [beq_eq_false_iff_ne, ne_eq]
  omega
def x_i_PutRec : FnX := ⟨68, [.tmp 6],
  .q [.v 5 2, .op 6 (.mv (.k (.one (.nils 1))))]
 (.seq (.q [.L 8 13 5, .c 9 122 [8], .N 10 9, .m 11 10, ⟨(some (11, false)), some 12, 12, .mv (.t 0)⟩, ⟨(some (11, false)), some 13, 13, .call 123 [0] [(.t 12)]⟩, ⟨(some (11, false)), some 14, 14, .not (.t 13)⟩, .r 15 11 14, .m 16 15, ⟨(some (16, false)), some 17, 17, .mv (.t 1)⟩, ⟨(some (16, false)), some 18, 18, .call 123 [0] [(.t 17)]⟩, ⟨(some (16, false)), some 19, 19, .not (.t 18)⟩, .r 20 16 19]
 (.c 20 (.q [.op 6 (.mv (.k (.one (.nils 1))))]
 .ret)))
 (.seq (.draw [.m 21 0, .op 22 (.call 124 [0, 0] [(.k (.one (.nils 1))), (.t 21)]), .m 23 1, .c 24 124 [22, 23], .f 25 5 0, .l 26 25, .op 27 (.conv (.int .u8) (.t 26)), .op 28 (.bslice 1 [(.t 27)]), .op 29 (.app 1 1 (.t 24) (.t 28)), .m 7 29] [[], [0], [], [1, 2, 1], [], [4], [5], [6], [3, 7, 3], [8, 8, 0, 1, 2, 3, 4, 5, 6, 7, 8]])
 (.seq (.q [.f 30 5 0, .l 31 30]
 (.block 0 (.q [.B 33 .eql 31 1, .m 32 33]
 (.cond 32 (.reg [.m 34 7, .f 35 5 1, .L 36 7 35, .c 37 125 [34, 36], .m 7 37]) (.q [.B 39 .eql 31 2, .m 38 39]
 (.cond 38 (.reg [.m 40 7, .f 41 5 8, .l 42 41, .c 43 126 [40, 42], .m 7 43]) (.q [.B 45 .eql 31 3, .m 44 45]
 (.c 44 (.reg [.m 46 7, .f 47 5 9, .l 48 47, .op 49 (.conv (.int .u8) (.t 48)), .op 50 (.bslice 1 [(.t 49)]), .op 51 (.app 1 1 (.t 46) (.t 50)), .m 7 51])))))))))
 (.seq (.draw [.m 52 7, .f 53 5 10, .l 54 53, .op 55 (.conv (.int .u8) (.t 54)), .f 56 5 12, .l 57 56, .op 58 (.conv (.int .u8) (.t 57)), .op 59 (.bslice 1 [(.t 55), (.t 58)]), .op 60 (.app 1 1 (.t 52) (.t 59)), .f 61 5 11, .l 62 61, .c 63 124 [60, 62], .m 7 63] [[], [], [1], [2], [], [4], [5], [3, 6], [0, 7], [], [9], [8, 10, 8], [11, 11, 0, 1, 2, 3, 4, 5, 6, 7, 8, 9, 10, 11]])
 (.q [.m 64 7, .m 65 7, .c 66 127 [65], .c 67 124 [64, 66], .m 6 67]
 .ret)))))⟩
abbrev C_i_PutRec (Te : TE) : Prop := ∀ (gen place : Int) (r : RecV) (h : r.In (2 ^ 48)), Te 78 [.one (iT gen), .one (iT place), .agg (r.enc false)] ⟨[.one (slT true 1 uR (putRec gen place r))], [[iT gen], [iT place], r.enc false]⟩
theorem r_i_PutRec {Te : TE} (c_i_RecOk : C_i_RecOk Te) (c_i_isWord : C_i_isWord Te) (c_i_PutW : C_i_PutW Te) (c_i_PutRow : C_i_PutRow Te) (c_i_PutText : C_i_PutText Te) (c_i_Sum : C_i_Sum Te) : C_i_PutRec (RF Te x_i_PutRec) := by
  intro gen place r h
  refine run0 ?_
  have h1 := h.1
  have h2 := h.2
  simp -implicitDefEqProofs only [x_i_PutRec, go_sem]
  repeat refine ⟨sc, ?_⟩
  try exact sf
  refine .of (c_i_RecOk r h) ?_
  try simp -implicitDefEqProofs only [go_sem]
  repeat refine ⟨sc, ?_⟩
  try exact sf
  cases g1 : r.ok
  · have e := recNo1 (gen := gen) (place := place) g1
    try simp -implicitDefEqProofs only [go_sem, e]
    repeat refine ⟨sc, ?_⟩
    try exact sf
    try rfl
  try simp -implicitDefEqProofs only [go_sem]
  repeat refine ⟨sc, ?_⟩
  try exact sf
  refine .of (c_i_isWord _) ?_
  try simp -implicitDefEqProofs only [go_sem]
  repeat refine ⟨sc, ?_⟩
  try exact sf
  cases g2 : win gen 0 65535
  · have e := recNo2 (place := place) (r := r) g2
    try simp -implicitDefEqProofs only [go_sem, e]
    repeat refine ⟨sc, ?_⟩
    try exact sf
    try rfl
  try simp -implicitDefEqProofs only [go_sem]
  repeat refine ⟨sc, ?_⟩
  try exact sf
  refine .of (c_i_isWord _) ?_
  try simp -implicitDefEqProofs only [go_sem]
  repeat refine ⟨sc, ?_⟩
  try exact sf
  cases g3 : win place 0 65535
  · have e := recNo3 (gen := gen) (r := r) g3
    try simp -implicitDefEqProofs only [go_sem, e]
    repeat refine ⟨sc, ?_⟩
    try exact sf
    try rfl
  try simp -implicitDefEqProofs only [go_sem]
  repeat refine ⟨sc, ?_⟩
  try exact sf
  have ey := recYes g1 g2 g3
  have lw : (putW (putW [] gen) place).length = 4 := by rw [putW_len, putW_len]; rfl
  have t1 := c_i_PutW [] gen (by show 0 ≤ 2 ^ 30; decide)
  refine .of (t1) ?_
  try simp -implicitDefEqProofs only [go_sem]
  repeat refine ⟨sc, ?_⟩
  try exact sf
  refine .of (c_i_PutW (putW [] gen) place (by rw [putW_len]; show 0 + 2 ≤ 2 ^ 30; decide)) ?_
  try simp -implicitDefEqProofs only [go_sem, mkU_wrap, app1B, take1B]
  repeat refine ⟨sc, ?_⟩
  try exact sf
  have e1 : putW (putW [] gen) place ++ [mkU r.Kind] = recHead gen place r := rfl
  have e2 : (putW (putW [] gen) place).length + 1 = (recHead gen place r).length := by rw [recHead, List.length_append]; rfl
  simp only [e1, e2]
  have l0 := recHead_len gen place r
  generalize eH : recHead gen place r = H at l0 ⊢
  by_cases q1 : r.Kind = 1
  · have k1 : (r.Kind == 1) = true := by rw [q1]; rfl
    try simp -implicitDefEqProofs only [go_sem, k1]
    repeat refine ⟨sc, ?_⟩
    try exact sf
    refine .of (c_i_PutRow H r.R (by omega) h1) ?_
    try simp -implicitDefEqProofs only [go_sem]
    repeat refine ⟨sc, ?_⟩
    try exact sf
    have e3 : putRow H r.R = recKind H r := (if_pos q1).symm
    have l3 := recKind_len H r
    try simp -implicitDefEqProofs only [go_sem, e3, mkU_wrap, app2B, take2B]
    repeat refine ⟨sc, ?_⟩
    try exact sf
    have tt := c_i_PutW (recKind H r ++ [mkU r.Who, mkU r.Code]) r.Seq (by rw [List.length_append]; simp only [List.length_cons, List.length_nil]; omega)
    have e4 : putW (recKind H r ++ [mkU r.Who, mkU r.Code]) r.Seq = recBody gen place r := by rw [recBody, eH]
    rw [e4] at tt
    refine .of (tt) ?_
    try simp -implicitDefEqProofs only [go_sem]
    repeat refine ⟨sc, ?_⟩
    try exact sf
    have l4 := recBody_len gen place r
    refine .of (c_i_Sum (recBody gen place r) (by omega)) ?_
    try simp -implicitDefEqProofs only [go_sem]
    repeat refine ⟨sc, ?_⟩
    try exact sf
    refine .of (c_i_PutW (recBody gen place r) _ (by omega)) ?_
    try simp -implicitDefEqProofs only [go_sem, ey]
    repeat refine ⟨sc, ?_⟩
    try exact sf
  by_cases q2 : r.Kind = 2
  · have k1 : (r.Kind == 1) = false := by rw [q2]; rfl
    have k2 : (r.Kind == 2) = true := by rw [q2]; rfl
    try simp -implicitDefEqProofs only [go_sem, k1, k2]
    repeat refine ⟨sc, ?_⟩
    try exact sf
    refine .of (c_i_PutText H r.Key (by omega) h2) ?_
    try simp -implicitDefEqProofs only [go_sem]
    repeat refine ⟨sc, ?_⟩
    try exact sf
    have e3 : putText H r.Key = recKind H r := by rw [recKind, if_neg q1, if_pos q2]
    have l3 := recKind_len H r
    try simp -implicitDefEqProofs only [go_sem, e3, mkU_wrap, app2B, take2B]
    repeat refine ⟨sc, ?_⟩
    try exact sf
    have tt := c_i_PutW (recKind H r ++ [mkU r.Who, mkU r.Code]) r.Seq (by rw [List.length_append]; simp only [List.length_cons, List.length_nil]; omega)
    have e4 : putW (recKind H r ++ [mkU r.Who, mkU r.Code]) r.Seq = recBody gen place r := by rw [recBody, eH]
    rw [e4] at tt
    refine .of (tt) ?_
    try simp -implicitDefEqProofs only [go_sem]
    repeat refine ⟨sc, ?_⟩
    try exact sf
    have l4 := recBody_len gen place r
    refine .of (c_i_Sum (recBody gen place r) (by omega)) ?_
    try simp -implicitDefEqProofs only [go_sem]
    repeat refine ⟨sc, ?_⟩
    try exact sf
    refine .of (c_i_PutW (recBody gen place r) _ (by omega)) ?_
    try simp -implicitDefEqProofs only [go_sem, ey]
    repeat refine ⟨sc, ?_⟩
    try exact sf
  by_cases q3 : r.Kind = 3
  · have k1 : (r.Kind == 1) = false := by rw [q3]; rfl
    have k2 : (r.Kind == 2) = false := by rw [q3]; rfl
    have k3 : (r.Kind == 3) = true := by rw [q3]; rfl
    have e3 : H ++ [mkU r.N] = recKind H r := by rw [recKind, if_neg q1, if_neg q2, if_pos q3]
    have e5 : H.length + 1 = (recKind H r).length := by rw [← e3, List.length_append]; rfl
    have l3 := recKind_len H r
    try simp -implicitDefEqProofs only [go_sem, k1, k2, k3, mkU_wrap, app1B, e3, e5, take_rows]
    repeat refine ⟨sc, ?_⟩
    try exact sf
    try simp -implicitDefEqProofs only [go_sem, e3, mkU_wrap, app2B, take2B]
    repeat refine ⟨sc, ?_⟩
    try exact sf
    have tt := c_i_PutW (recKind H r ++ [mkU r.Who, mkU r.Code]) r.Seq (by rw [List.length_append]; simp only [List.length_cons, List.length_nil]; omega)
    have e4 : putW (recKind H r ++ [mkU r.Who, mkU r.Code]) r.Seq = recBody gen place r := by rw [recBody, eH]
    rw [e4] at tt
    refine .of (tt) ?_
    try simp -implicitDefEqProofs only [go_sem]
    repeat refine ⟨sc, ?_⟩
    try exact sf
    have l4 := recBody_len gen place r
    refine .of (c_i_Sum (recBody gen place r) (by omega)) ?_
    try simp -implicitDefEqProofs only [go_sem]
    repeat refine ⟨sc, ?_⟩
    try exact sf
    refine .of (c_i_PutW (recBody gen place r) _ (by omega)) ?_
    try simp -implicitDefEqProofs only [go_sem, ey]
    repeat refine ⟨sc, ?_⟩
    try exact sf
  obtain ⟨k1, k2, k3⟩ := other3 q1 q2 q3
  try simp -implicitDefEqProofs only [go_sem, k1, k2, k3]
  repeat refine ⟨sc, ?_⟩
  try exact sf
  have e3 : recKind H r = H := by rw [recKind, if_neg q1, if_neg q2, if_neg q3]
  try simp -implicitDefEqProofs only [go_sem, mkU_wrap, app2B, take2B]
  repeat refine ⟨sc, ?_⟩
  try exact sf
  have tt := c_i_PutW (H ++ [mkU r.Who, mkU r.Code]) r.Seq (by rw [List.length_append]; simp only [List.length_cons, List.length_nil]; omega)
  have e4 : putW (H ++ [mkU r.Who, mkU r.Code]) r.Seq = recBody gen place r := by rw [recBody, eH, e3]
  rw [e4] at tt
  refine .of (tt) ?_
  try simp -implicitDefEqProofs only [go_sem]
  repeat refine ⟨sc, ?_⟩
  try exact sf
  have l4 := recBody_len gen place r
  refine .of (c_i_Sum (recBody gen place r) (by omega)) ?_
  try simp -implicitDefEqProofs only [go_sem]
  repeat refine ⟨sc, ?_⟩
  try exact sf
  refine .of (c_i_PutW (recBody gen place r) _ (by omega)) ?_
  try simp -implicitDefEqProofs only [go_sem, ey]
  repeat refine ⟨sc, ?_⟩
  try exact sf
def x_s_PutRec : FnX := ⟨70, [.tmp 6],
  .q [.v 5 2, .op 6 (.mv (.k (.one (.nils 1))))]
 (.seq (.q [.L 8 13 5, .c 9 112 [8], .N 10 9, .m 11 10, ⟨(some (11, false)), some 12, 12, .mv (.t 0)⟩, ⟨(some (11, false)), some 13, 13, .call 113 [0] [(.t 12)]⟩, ⟨(some (11, false)), some 14, 14, .not (.t 13)⟩, .r 15 11 14, .m 16 15, ⟨(some (16, false)), some 17, 17, .mv (.t 1)⟩, ⟨(some (16, false)), some 18, 18, .call 113 [0] [(.t 17)]⟩, ⟨(some (16, false)), some 19, 19, .not (.t 18)⟩, .r 20 16 19]
 (.c 20 (.q [.op 21 (.bslice 1 []), .m 6 21]
 .ret)))
 (.seq (.draw [.op 22 (.bslice 1 []), .m 23 0, .c 24 114 [22, 23], .m 25 1, .c 26 114 [24, 25], .f 27 5 0, .l 28 27, .op 29 (.conv (.int .u8) (.t 28)), .op 30 (.bslice 1 [(.t 29)]), .op 31 (.app 1 1 (.t 26) (.t 30)), .m 7 31] [[], [], [0, 1], [], [2, 3, 2], [], [5], [6], [7], [4, 8, 4], [9, 9, 0, 1, 2, 3, 4, 5, 6, 7, 8, 9]])
 (.seq (.q [.f 32 5 0, .l 33 32]
 (.block 0 (.q [.B 35 .eql 33 1, .m 34 35]
 (.cond 34 (.reg [.m 36 7, .f 37 5 1, .L 38 7 37, .c 39 115 [36, 38], .m 7 39]) (.q [.B 41 .eql 33 2, .m 40 41]
 (.cond 40 (.reg [.m 42 7, .f 43 5 8, .l 44 43, .c 45 116 [42, 44], .m 7 45]) (.q [.B 47 .eql 33 3, .m 46 47]
 (.c 46 (.reg [.m 48 7, .f 49 5 9, .l 50 49, .op 51 (.conv (.int .u8) (.t 50)), .op 52 (.bslice 1 [(.t 51)]), .op 53 (.app 1 1 (.t 48) (.t 52)), .m 7 53])))))))))
 (.seq (.draw [.m 54 7, .f 55 5 10, .l 56 55, .op 57 (.conv (.int .u8) (.t 56)), .f 58 5 12, .l 59 58, .op 60 (.conv (.int .u8) (.t 59)), .op 61 (.bslice 1 [(.t 57), (.t 60)]), .op 62 (.app 1 1 (.t 54) (.t 61)), .f 63 5 11, .l 64 63, .c 65 114 [62, 64], .m 7 65] [[], [], [1], [2], [], [4], [5], [3, 6], [0, 7], [], [9], [8, 10, 8], [11, 11, 0, 1, 2, 3, 4, 5, 6, 7, 8, 9, 10, 11]])
 (.q [.m 66 7, .m 67 7, .c 68 117 [67], .c 69 114 [66, 68], .m 6 69]
 .ret)))))⟩
abbrev C_s_PutRec (Te : TE) : Prop := ∀ (gen place : Int) (r : RecV) (h : r.In (2 ^ 48)), Te 72 [.one (iT gen), .one (iT place), .agg (r.enc false)] ⟨[.one (slT true 1 uR (putRec gen place r))], [[iT gen], [iT place], r.enc false]⟩
theorem r_s_PutRec {Te : TE} (c_s_RecOk : C_s_RecOk Te) (c_s_l1Word : C_s_l1Word Te) (c_s_PutW : C_s_PutW Te) (c_s_PutRow : C_s_PutRow Te) (c_s_PutText : C_s_PutText Te) (c_s_Sum : C_s_Sum Te) : C_s_PutRec (RF Te x_s_PutRec) := by
  intro gen place r h
  refine run0 ?_
  have h1 := h.1
  have h2 := h.2
  simp -implicitDefEqProofs only [x_s_PutRec, go_sem]
  repeat refine ⟨sc, ?_⟩
  try exact sf
  refine .of (c_s_RecOk r h) ?_
  try simp -implicitDefEqProofs only [go_sem]
  repeat refine ⟨sc, ?_⟩
  try exact sf
  cases g1 : r.ok
  · have e := recNo1 (gen := gen) (place := place) g1
    try simp -implicitDefEqProofs only [go_sem, e]
    repeat refine ⟨sc, ?_⟩
    try exact sf
    try rfl
  try simp -implicitDefEqProofs only [go_sem]
  repeat refine ⟨sc, ?_⟩
  try exact sf
  refine .of (c_s_l1Word _) ?_
  try simp -implicitDefEqProofs only [go_sem]
  repeat refine ⟨sc, ?_⟩
  try exact sf
  cases g2 : win gen 0 65535
  · have e := recNo2 (place := place) (r := r) g2
    try simp -implicitDefEqProofs only [go_sem, e]
    repeat refine ⟨sc, ?_⟩
    try exact sf
    try rfl
  try simp -implicitDefEqProofs only [go_sem]
  repeat refine ⟨sc, ?_⟩
  try exact sf
  refine .of (c_s_l1Word _) ?_
  try simp -implicitDefEqProofs only [go_sem]
  repeat refine ⟨sc, ?_⟩
  try exact sf
  cases g3 : win place 0 65535
  · have e := recNo3 (gen := gen) (r := r) g3
    try simp -implicitDefEqProofs only [go_sem, e]
    repeat refine ⟨sc, ?_⟩
    try exact sf
    try rfl
  try simp -implicitDefEqProofs only [go_sem]
  repeat refine ⟨sc, ?_⟩
  try exact sf
  have ey := recYes g1 g2 g3
  have lw : (putW (putW [] gen) place).length = 4 := by rw [putW_len, putW_len]; rfl
  have t1 := c_s_PutW [] gen (by show 0 ≤ 2 ^ 30; decide)
  refine .of (t1) ?_
  try simp -implicitDefEqProofs only [go_sem]
  repeat refine ⟨sc, ?_⟩
  try exact sf
  refine .of (c_s_PutW (putW [] gen) place (by rw [putW_len]; show 0 + 2 ≤ 2 ^ 30; decide)) ?_
  try simp -implicitDefEqProofs only [go_sem, mkU_wrap, app1B, take1B]
  repeat refine ⟨sc, ?_⟩
  try exact sf
  have e1 : putW (putW [] gen) place ++ [mkU r.Kind] = recHead gen place r := rfl
  have e2 : (putW (putW [] gen) place).length + 1 = (recHead gen place r).length := by rw [recHead, List.length_append]; rfl
  simp only [e1, e2]
  have l0 := recHead_len gen place r
  generalize eH : recHead gen place r = H at l0 ⊢
  by_cases q1 : r.Kind = 1
  · have k1 : (r.Kind == 1) = true := by rw [q1]; rfl
    try simp -implicitDefEqProofs only [go_sem, k1]
    repeat refine ⟨sc, ?_⟩
    try exact sf
    refine .of (c_s_PutRow H r.R (by omega) h1) ?_
    try simp -implicitDefEqProofs only [go_sem]
    repeat refine ⟨sc, ?_⟩
    try exact sf
    have e3 : putRow H r.R = recKind H r := (if_pos q1).symm
    have l3 := recKind_len H r
    try simp -implicitDefEqProofs only [go_sem, e3, mkU_wrap, app2B, take2B]
    repeat refine ⟨sc, ?_⟩
    try exact sf
    have tt := c_s_PutW (recKind H r ++ [mkU r.Who, mkU r.Code]) r.Seq (by rw [List.length_append]; simp only [List.length_cons, List.length_nil]; omega)
    have e4 : putW (recKind H r ++ [mkU r.Who, mkU r.Code]) r.Seq = recBody gen place r := by rw [recBody, eH]
    rw [e4] at tt
    refine .of (tt) ?_
    try simp -implicitDefEqProofs only [go_sem]
    repeat refine ⟨sc, ?_⟩
    try exact sf
    have l4 := recBody_len gen place r
    refine .of (c_s_Sum (recBody gen place r) (by omega)) ?_
    try simp -implicitDefEqProofs only [go_sem]
    repeat refine ⟨sc, ?_⟩
    try exact sf
    refine .of (c_s_PutW (recBody gen place r) _ (by omega)) ?_
    try simp -implicitDefEqProofs only [go_sem, ey]
    repeat refine ⟨sc, ?_⟩
    try exact sf
  by_cases q2 : r.Kind = 2
  · have k1 : (r.Kind == 1) = false := by rw [q2]; rfl
    have k2 : (r.Kind == 2) = true := by rw [q2]; rfl
    try simp -implicitDefEqProofs only [go_sem, k1, k2]
    repeat refine ⟨sc, ?_⟩
    try exact sf
    refine .of (c_s_PutText H r.Key (by omega) h2) ?_
    try simp -implicitDefEqProofs only [go_sem]
    repeat refine ⟨sc, ?_⟩
    try exact sf
    have e3 : putText H r.Key = recKind H r := by rw [recKind, if_neg q1, if_pos q2]
    have l3 := recKind_len H r
    try simp -implicitDefEqProofs only [go_sem, e3, mkU_wrap, app2B, take2B]
    repeat refine ⟨sc, ?_⟩
    try exact sf
    have tt := c_s_PutW (recKind H r ++ [mkU r.Who, mkU r.Code]) r.Seq (by rw [List.length_append]; simp only [List.length_cons, List.length_nil]; omega)
    have e4 : putW (recKind H r ++ [mkU r.Who, mkU r.Code]) r.Seq = recBody gen place r := by rw [recBody, eH]
    rw [e4] at tt
    refine .of (tt) ?_
    try simp -implicitDefEqProofs only [go_sem]
    repeat refine ⟨sc, ?_⟩
    try exact sf
    have l4 := recBody_len gen place r
    refine .of (c_s_Sum (recBody gen place r) (by omega)) ?_
    try simp -implicitDefEqProofs only [go_sem]
    repeat refine ⟨sc, ?_⟩
    try exact sf
    refine .of (c_s_PutW (recBody gen place r) _ (by omega)) ?_
    try simp -implicitDefEqProofs only [go_sem, ey]
    repeat refine ⟨sc, ?_⟩
    try exact sf
  by_cases q3 : r.Kind = 3
  · have k1 : (r.Kind == 1) = false := by rw [q3]; rfl
    have k2 : (r.Kind == 2) = false := by rw [q3]; rfl
    have k3 : (r.Kind == 3) = true := by rw [q3]; rfl
    have e3 : H ++ [mkU r.N] = recKind H r := by rw [recKind, if_neg q1, if_neg q2, if_pos q3]
    have e5 : H.length + 1 = (recKind H r).length := by rw [← e3, List.length_append]; rfl
    have l3 := recKind_len H r
    try simp -implicitDefEqProofs only [go_sem, k1, k2, k3, mkU_wrap, app1B, e3, e5, take_rows]
    repeat refine ⟨sc, ?_⟩
    try exact sf
    try simp -implicitDefEqProofs only [go_sem, e3, mkU_wrap, app2B, take2B]
    repeat refine ⟨sc, ?_⟩
    try exact sf
    have tt := c_s_PutW (recKind H r ++ [mkU r.Who, mkU r.Code]) r.Seq (by rw [List.length_append]; simp only [List.length_cons, List.length_nil]; omega)
    have e4 : putW (recKind H r ++ [mkU r.Who, mkU r.Code]) r.Seq = recBody gen place r := by rw [recBody, eH]
    rw [e4] at tt
    refine .of (tt) ?_
    try simp -implicitDefEqProofs only [go_sem]
    repeat refine ⟨sc, ?_⟩
    try exact sf
    have l4 := recBody_len gen place r
    refine .of (c_s_Sum (recBody gen place r) (by omega)) ?_
    try simp -implicitDefEqProofs only [go_sem]
    repeat refine ⟨sc, ?_⟩
    try exact sf
    refine .of (c_s_PutW (recBody gen place r) _ (by omega)) ?_
    try simp -implicitDefEqProofs only [go_sem, ey]
    repeat refine ⟨sc, ?_⟩
    try exact sf
  obtain ⟨k1, k2, k3⟩ := other3 q1 q2 q3
  try simp -implicitDefEqProofs only [go_sem, k1, k2, k3]
  repeat refine ⟨sc, ?_⟩
  try exact sf
  have e3 : recKind H r = H := by rw [recKind, if_neg q1, if_neg q2, if_neg q3]
  try simp -implicitDefEqProofs only [go_sem, mkU_wrap, app2B, take2B]
  repeat refine ⟨sc, ?_⟩
  try exact sf
  have tt := c_s_PutW (H ++ [mkU r.Who, mkU r.Code]) r.Seq (by rw [List.length_append]; simp only [List.length_cons, List.length_nil]; omega)
  have e4 : putW (H ++ [mkU r.Who, mkU r.Code]) r.Seq = recBody gen place r := by rw [recBody, eH, e3]
  rw [e4] at tt
  refine .of (tt) ?_
  try simp -implicitDefEqProofs only [go_sem]
  repeat refine ⟨sc, ?_⟩
  try exact sf
  have l4 := recBody_len gen place r
  refine .of (c_s_Sum (recBody gen place r) (by omega)) ?_
  try simp -implicitDefEqProofs only [go_sem]
  repeat refine ⟨sc, ?_⟩
  try exact sf
  refine .of (c_s_PutW (recBody gen place r) _ (by omega)) ?_
  try simp -implicitDefEqProofs only [go_sem, ey]
  repeat refine ⟨sc, ?_⟩
  try exact sf
def headGood (gen n : Int) : Bool := win gen 1 60000 && win n 0 30
def headOf (gen n : Int) : List UInt8 := if headGood gen n = true then putW (putW (putW [] gen) n) (sum (putW (putW [] gen) n) : Nat) else []
theorem headOf_len (gen n : Int) : (headOf gen n).length ≤ 6 := by
  unfold headOf
  split
  · rw [putW_len, putW_len, putW_len]; decide
  · exact Nat.zero_le _
def x_i_HeadOf : FnX := ⟨22, [.tmp 4],
  .q [.op 4 (.mv (.k (.one (.nils 1))))]
 (.seq (.q [.m 6 0, .op 7 (.call 25 [0, 0, 0] [(.t 6), (.i 1), (.i 60000)]), .N 8 7, .m 9 8, ⟨(some (9, false)), some 10, 10, .mv (.t 1)⟩, ⟨(some (9, false)), some 11, 11, .call 25 [0, 0, 0] [(.t 10), (.i 0), (.i 30)]⟩, ⟨(some (9, false)), some 12, 12, .not (.t 11)⟩, .r 13 9 12]
 (.c 13 (.q [.op 4 (.mv (.k (.one (.nils 1))))]
 .ret)))
 (.q [.m 14 0, .op 15 (.call 124 [0, 0] [(.k (.one (.nils 1))), (.t 14)]), .m 16 1, .c 17 124 [15, 16], .m 5 17]
 (.q [.m 18 5, .m 19 5, .c 20 127 [19], .c 21 124 [18, 20], .m 4 21]
 .ret)))⟩
abbrev C_i_HeadOf (Te : TE) : Prop := ∀ (gen n : Int), Te 80 [.one (iT gen), .one (iT n)] ⟨[.one (slT true 1 uR (headOf gen n))], [[iT gen], [iT n]]⟩
theorem r_i_HeadOf {Te : TE} (c_i_within : C_i_within Te) (c_i_PutW : C_i_PutW Te) (c_i_Sum : C_i_Sum Te) : C_i_HeadOf (RF Te x_i_HeadOf) := by
  intro gen n
  refine run0 ?_
  simp -implicitDefEqProofs only [x_i_HeadOf, go_sem]
  repeat refine ⟨sc, ?_⟩
  try exact sf
  refine .of (c_i_within _ _ _) ?_
  try simp -implicitDefEqProofs only [go_sem]
  repeat refine ⟨sc, ?_⟩
  try exact sf
  cases g1 : win gen 1 60000
  · have e : headOf gen n = [] := by rw [headOf, headGood, g1]; rfl
    try simp -implicitDefEqProofs only [go_sem, e]
    repeat refine ⟨sc, ?_⟩
    try exact sf
    try rfl
  try simp -implicitDefEqProofs only [go_sem]
  repeat refine ⟨sc, ?_⟩
  try exact sf
  refine .of (c_i_within _ _ _) ?_
  try simp -implicitDefEqProofs only [go_sem]
  repeat refine ⟨sc, ?_⟩
  try exact sf
  cases g2 : win n 0 30
  · have e : headOf gen n = [] := by rw [headOf, headGood, g1, g2]; rfl
    try simp -implicitDefEqProofs only [go_sem, e]
    repeat refine ⟨sc, ?_⟩
    try exact sf
    try rfl
  try simp -implicitDefEqProofs only [go_sem]
  repeat refine ⟨sc, ?_⟩
  try exact sf
  have e : headOf gen n = putW (putW (putW [] gen) n) (sum (putW (putW [] gen) n) : Nat) := by rw [headOf, headGood, g1, g2]; rfl
  have l1 : (putW (putW [] gen) n).length = 4 := by rw [putW_len, putW_len]; rfl
  have t1 := c_i_PutW [] gen (by show 0 ≤ 2 ^ 30; decide)
  refine .of (t1) ?_
  try simp -implicitDefEqProofs only [go_sem]
  repeat refine ⟨sc, ?_⟩
  try exact sf
  refine .of (c_i_PutW (putW [] gen) n (by rw [putW_len]; show 0 + 2 ≤ 2 ^ 30; decide)) ?_
  try simp -implicitDefEqProofs only [go_sem]
  repeat refine ⟨sc, ?_⟩
  try exact sf
  refine .of (c_i_Sum (putW (putW [] gen) n) (by omega)) ?_
  try simp -implicitDefEqProofs only [go_sem]
  repeat refine ⟨sc, ?_⟩
  try exact sf
  refine .of (c_i_PutW (putW (putW [] gen) n) _ (by omega)) ?_
  try simp -implicitDefEqProofs only [go_sem, e]
  repeat refine ⟨sc, ?_⟩
  try exact sf
def x_s_HeadOf : FnX := ⟨24, [.tmp 4],
  .q [.op 4 (.mv (.k (.one (.nils 1))))]
 (.seq (.q [.m 6 0, .op 7 (.call 23 [0, 0, 0] [(.t 6), (.i 1), (.i 60000)]), .N 8 7, .m 9 8, ⟨(some (9, false)), some 10, 10, .mv (.t 1)⟩, ⟨(some (9, false)), some 11, 11, .call 23 [0, 0, 0] [(.t 10), (.i 0), (.i 30)]⟩, ⟨(some (9, false)), some 12, 12, .not (.t 11)⟩, .r 13 9 12]
 (.c 13 (.q [.op 14 (.bslice 1 []), .m 4 14]
 .ret)))
 (.q [.op 15 (.bslice 1 []), .m 16 0, .c 17 114 [15, 16], .m 18 1, .c 19 114 [17, 18], .m 5 19]
 (.q [.m 20 5, .m 21 5, .c 22 117 [21], .c 23 114 [20, 22], .m 4 23]
 .ret)))⟩
abbrev C_s_HeadOf (Te : TE) : Prop := ∀ (gen n : Int), Te 74 [.one (iT gen), .one (iT n)] ⟨[.one (slT true 1 uR (headOf gen n))], [[iT gen], [iT n]]⟩
theorem r_s_HeadOf {Te : TE} (c_s_l1In : C_s_l1In Te) (c_s_PutW : C_s_PutW Te) (c_s_Sum : C_s_Sum Te) : C_s_HeadOf (RF Te x_s_HeadOf) := by
  intro gen n
  refine run0 ?_
  simp -implicitDefEqProofs only [x_s_HeadOf, go_sem]
  repeat refine ⟨sc, ?_⟩
  try exact sf
  refine .of (c_s_l1In _ _ _) ?_
  try simp -implicitDefEqProofs only [go_sem]
  repeat refine ⟨sc, ?_⟩
  try exact sf
  cases g1 : win gen 1 60000
  · have e : headOf gen n = [] := by rw [headOf, headGood, g1]; rfl
    try simp -implicitDefEqProofs only [go_sem, e]
    repeat refine ⟨sc, ?_⟩
    try exact sf
    try rfl
  try simp -implicitDefEqProofs only [go_sem]
  repeat refine ⟨sc, ?_⟩
  try exact sf
  refine .of (c_s_l1In _ _ _) ?_
  try simp -implicitDefEqProofs only [go_sem]
  repeat refine ⟨sc, ?_⟩
  try exact sf
  cases g2 : win n 0 30
  · have e : headOf gen n = [] := by rw [headOf, headGood, g1, g2]; rfl
    try simp -implicitDefEqProofs only [go_sem, e]
    repeat refine ⟨sc, ?_⟩
    try exact sf
    try rfl
  try simp -implicitDefEqProofs only [go_sem]
  repeat refine ⟨sc, ?_⟩
  try exact sf
  have e : headOf gen n = putW (putW (putW [] gen) n) (sum (putW (putW [] gen) n) : Nat) := by rw [headOf, headGood, g1, g2]; rfl
  have l1 : (putW (putW [] gen) n).length = 4 := by rw [putW_len, putW_len]; rfl
  have t1 := c_s_PutW [] gen (by show 0 ≤ 2 ^ 30; decide)
  refine .of (t1) ?_
  try simp -implicitDefEqProofs only [go_sem]
  repeat refine ⟨sc, ?_⟩
  try exact sf
  refine .of (c_s_PutW (putW [] gen) n (by rw [putW_len]; show 0 + 2 ≤ 2 ^ 30; decide)) ?_
  try simp -implicitDefEqProofs only [go_sem]
  repeat refine ⟨sc, ?_⟩
  try exact sf
  refine .of (c_s_Sum (putW (putW [] gen) n) (by omega)) ?_
  try simp -implicitDefEqProofs only [go_sem]
  repeat refine ⟨sc, ?_⟩
  try exact sf
  refine .of (c_s_PutW (putW (putW [] gen) n) _ (by omega)) ?_
  try simp -implicitDefEqProofs only [go_sem, e]
  repeat refine ⟨sc, ?_⟩
  try exact sf
end Go.X

/- Vk -/
namespace Go.X
set_option maxRecDepth 100000
set_option maxHeartbeats 8000000
def recRow (r : RowV) : RecV := ⟨1, r, ⟨#[]⟩, 0, 0, 0, 0⟩
def recMark (m : MarkV) : RecV := ⟨4, RowV.zero, ⟨#[]⟩, 0, m.Who, m.Seq, m.Code⟩
def recPhase (n : Int) : RecV := ⟨3, RowV.zero, ⟨#[]⟩, n, 0, 0, 0⟩
def recsOf (t : TabV) : List RecV := recPhase t.Phase :: (t.Rows.map recRow ++ t.Marks.map recMark)
theorem recsOf_len (t : TabV) : (recsOf t).length = t.Rows.length + t.Marks.length + 1 := by
  simp only [recsOf, List.length_cons, List.length_append, List.length_map]
theorem app1R (l : List RecV) (x : RecV) : List.map (RecV.enc true) l ++ [x.enc true] = List.map (RecV.enc true) (l ++ [x]) := by rw [List.map_append]; rfl
theorem recs_rows {t : TabV} {i : Nat} (h : i < t.Rows.length) : (recPhase t.Phase :: (t.Rows.take i).map recRow) ++ [recRow t.Rows[i]] = recPhase t.Phase :: (t.Rows.take (i + 1)).map recRow := by
  rw [List.take_succ_eq_append_getElem h, List.map_append]; rfl
theorem recs_marks {t : TabV} {i : Nat} (h : i < t.Marks.length) : (recPhase t.Phase :: (t.Rows.map recRow ++ (t.Marks.take i).map recMark)) ++ [recMark t.Marks[i]] = recPhase t.Phase :: (t.Rows.map recRow ++ (t.Marks.take (i + 1)).map recMark) := by
  rw [List.take_succ_eq_append_getElem h, List.map_append, List.cons_append, List.append_assoc]; rfl
def x_i_RecsOf : FnX := ⟨45, [.tmp 2],
  .q [.v 1 0, .op 2 (.mv (.k (.one (.nils 13))))]
 (.q [.f 8 1 1, .l 9 8, .op 10 (.build [.i 0, .e, .i 0, .nils 1, .i 0, .nils 1, .i 0, .F, .e, .i 0, .i 0, .i 0, .i 0] [(0, 1, (.i 3)), (9, 1, (.t 9))]), .op 11 (.bslice 13 [(.t 10)]), .m 3 11]
 (.seq (.q [.f 12 1 0, .l 13 12, .n 14 13, .i 15 0]
 (.block 0 (.loop [1, 3, 13, 14, 15] (.q [.b 16 .lss 15 14]
 (.seq (.cond 16 .skip (.exit 0))
 (.seq (.block 1 (.q [.x 17 7 13 15, .L 18 7 17, .op 5 (.alloc [.e, .i 0, .nils 1, .i 0, .nils 1, .i 0, .F]), .s 100001 7 5 18]
 (.reg [.m 19 3, .L 20 7 5, .c 21 75 [20], .op 22 (.build [.i 0, .e, .i 0, .nils 1, .i 0, .nils 1, .i 0, .F, .e, .i 0, .i 0, .i 0, .i 0] [(0, 1, (.i 1)), (1, 7, (.t 21))]), .op 23 (.bslice 13 [(.t 22)]), .op 24 (.app 13 152 (.t 19) (.t 23)), .m 3 24])))
 (.reg [.B 25 .add 15 1, .m 15 25])))))))
 (.norm [1, 3] (.seq (.q [.f 26 1 2, .l 27 26, .n 28 27, .i 29 0]
 (.block 2 (.loop [3, 27, 28, 29] (.q [.b 30 .lss 29 28]
 (.seq (.cond 30 .skip (.exit 2))
 (.seq (.block 3 (.q [.x 31 3 27 29, .L 32 3 31, .op 7 (.alloc [.i 0, .i 0, .i 0]), .s 100002 3 7 32]
 (.reg [.m 33 3, .f 34 7 0, .l 35 34, .f 36 7 1, .l 37 36, .f 38 7 2, .l 39 38, .op 40 (.build [.i 0, .e, .i 0, .nils 1, .i 0, .nils 1, .i 0, .F, .e, .i 0, .i 0, .i 0, .i 0] [(0, 1, (.i 4)), (10, 1, (.t 35)), (11, 1, (.t 37)), (12, 1, (.t 39))]), .op 41 (.bslice 13 [(.t 40)]), .op 42 (.app 13 152 (.t 33) (.t 41)), .m 3 42])))
 (.reg [.B 43 .add 29 1, .m 29 43])))))))
 (.norm [3] (.q [.m 44 3, .m 2 44]
 .ret))))))⟩
abbrev C_i_RecsOf (Te : TE) : Prop := ∀ (t : TabV) (h : t.Len), Te 44 [.agg (t.enc false)] ⟨[.one (slT true 13 (RecV.enc true) (recsOf t))], [t.enc false]⟩
theorem r_i_RecsOf {Te : TE} (c_i_copyRow : C_i_copyRow Te) : C_i_RecsOf (RF Te x_i_RecsOf) := by
  intro t h
  refine run0 ?_
  obtain ⟨⟨hR, hRl⟩, hM⟩ := h
  simp -implicitDefEqProofs only [x_i_RecsOf, go_sem]
  repeat refine ⟨sc, ?_⟩
  try exact sf
  refine loop_of (σ := Nat × List RecV) (fun x => ⟨[(1, .bp 1 0), (3, .one (.rf 46 0 [] 13 0 x.2.length)), (13, .one (.ro 7 (t.Rows.map (RowV.enc false)))), (14, .one (.pv (.int .i64 t.Rows.length))), (15, .one (.pv (.int .i64 x.1)))], [(1, [.ro 7 (t.Rows.map (RowV.enc false)), .pv (.int .i64 t.Phase), .ro 3 (t.Marks.map MarkV.row)])], [(0, t.enc false), (46, [slT true 13 (RecV.enc true) x.2])]⟩) (fun x => x.1 ≤ t.Rows.length ∧ x.2.length = x.1 + 1 ∧ x.2 = recPhase t.Phase :: (t.Rows.take x.1).map recRow) (fun x => t.Rows.length - x.1) (0, [recPhase t.Phase]) ?_ ⟨Nat.zero_le _, rfl, rfl⟩ ?_
  · simp -implicitDefEqProofs only [go_sem]
    try rfl
  · rintro ⟨i, a⟩ ⟨hi, hl, he⟩
    simp only at hi hl he
    cases q : decide ((i : Int) < (t.Rows.length : Int))
    · have k0 : i = t.Rows.length := by simp only [decide_eq_false_iff_not] at q; omega
      rw [k0, List.take_length] at he
      try simp -implicitDefEqProofs only [go_sem, q]
      repeat refine ⟨sc, ?_⟩
      try exact sf
      refine loop_of (σ := Nat × List RecV) (fun x => ⟨[(3, .one (.rf 46 0 [] 13 0 x.2.length)), (27, .one (.ro 3 (t.Marks.map MarkV.row))), (28, .one (.pv (.int .i64 t.Marks.length))), (29, .one (.pv (.int .i64 x.1)))], [], [(0, t.enc false), (46, [slT true 13 (RecV.enc true) x.2])]⟩) (fun x => x.1 ≤ t.Marks.length ∧ x.2.length = t.Rows.length + x.1 + 1 ∧ x.2 = recPhase t.Phase :: (t.Rows.map recRow ++ (t.Marks.take x.1).map recMark)) (fun x => t.Marks.length - x.1) (0, a) ?_ ⟨Nat.zero_le _, by simp only; omega, by simp only [List.take_zero, List.map_nil, List.append_nil]; exact he⟩ ?_
      · simp -implicitDefEqProofs only [go_sem]
        try rfl
      · rintro ⟨j, b⟩ ⟨hj, hbl, hbe⟩
        simp only at hj hbl hbe
        cases q2 : decide ((j : Int) < (t.Marks.length : Int))
        · have k2 : j = t.Marks.length := by simp only [decide_eq_false_iff_not] at q2; omega
          rw [k2, List.take_length] at hbe
          have e9 : recsOf t = b := hbe.symm
          have e8 : List.take b.length (List.map (RecV.enc true) b) = List.map (RecV.enc true) b := List.take_of_length_le (by simp)
          try simp -implicitDefEqProofs only [go_sem, q2, e9, e8]
          repeat refine ⟨sc, ?_⟩
          try exact sf
        · have k2 : j < t.Marks.length := by simp only [decide_eq_true_eq] at q2; omega
          have ea : List.map (RecV.enc true) b ++ [[iT 4, sT ⟨#[]⟩, iT 0, Tr.sl true 1 () [], iT 0, Tr.sl true 1 () [], iT 0, bT false, sT ⟨#[]⟩, iT 0, iT t.Marks[j].Who, iT t.Marks[j].Seq, iT t.Marks[j].Code]] = List.map (RecV.enc true) (b ++ [recMark t.Marks[j]]) := by rw [List.map_append]; rfl
          have et : List.take b.length (List.map (RecV.enc true) b) = List.map (RecV.enc true) b := List.take_of_length_le (by simp)
          try simp -implicitDefEqProofs only [go_sem, q2, List.getElem?_eq_getElem k2, et, ea]
          repeat refine ⟨sc, ?_⟩
          try exact sf
          refine ⟨(j + 1, b ++ [recMark t.Marks[j]]), ?_, ⟨k2, ?_, ?_⟩, ?_⟩
          · rw [IntWalk.i64_in _ (by omega)]
            simp only [List.length_append]
            rfl
          · simp only [List.length_append, List.length_cons, List.length_nil]; omega
          · rw [hbe, recs_marks k2]
          · simp only; omega
    · have k1 : i < t.Rows.length := by simp only [decide_eq_true_eq] at q; omega
      have ea : List.map (RecV.enc true) a ++ [[iT 1, sT t.Rows[i].Key, iT t.Rows[i].Old.Tag, slT true 1 uR t.Rows[i].Old.B, iT t.Rows[i].New.Tag, slT true 1 uR t.Rows[i].New.B, iT t.Rows[i].Has, bT t.Rows[i].Aside, sT ⟨#[]⟩, iT 0, iT 0, iT 0, iT 0]] = List.map (RecV.enc true) (a ++ [recRow t.Rows[i]]) := by rw [List.map_append]; rfl
      have et : List.take a.length (List.map (RecV.enc true) a) = List.map (RecV.enc true) a := List.take_of_length_le (by simp)
      try simp -implicitDefEqProofs only [go_sem, q, List.getElem?_eq_getElem k1]
      repeat refine ⟨sc, ?_⟩
      try exact sf
      refine .of (c_i_copyRow t.Rows[i] (hRl _ (List.getElem_mem k1))) ?_
      try simp -implicitDefEqProofs only [go_sem, et, ea]
      repeat refine ⟨sc, ?_⟩
      try exact sf
      refine ⟨(i + 1, a ++ [recRow t.Rows[i]]), ?_, ⟨k1, ?_, ?_⟩, ?_⟩
      · rw [IntWalk.i64_in _ (by omega)]
        simp only [List.length_append]
        rfl
      · simp only [List.length_append, List.length_cons, List.length_nil]; omega
      · rw [he, recs_rows k1]
      · simp only; omega
def x_s_RecsOf : FnX := ⟨57, [.tmp 2],
  .q [.v 1 0, .op 2 (.mv (.k (.one (.nils 13))))]
 (.q [.f 6 1 1, .l 7 6, .op 8 (.build [.i 0, .e, .i 0, .nils 1, .i 0, .nils 1, .i 0, .F, .e, .i 0, .i 0, .i 0, .i 0] [(0, 1, (.i 3)), (9, 1, (.t 7))]), .op 9 (.bslice 13 [(.t 8)]), .m 3 9]
 (.seq (.q [.i 4 0]
 (.block 0 (.loop [1, 3, 4] (.seq (.q [.m 10 4, .f 11 1 0, .l 12 11, .n 13 12, .b 14 .lss 10 13]
 (.cond 14 .skip (.exit 0)))
 (.seq (.block 1 (.reg [.m 17 3, .f 18 1 0, .l 19 18, .m 20 4, .x 21 7 19 20, .L 22 7 21, .c 23 110 [22], .op 24 (.build [.i 0, .e, .i 0, .nils 1, .i 0, .nils 1, .i 0, .F, .e, .i 0, .i 0, .i 0, .i 0] [(0, 1, (.i 1)), (1, 7, (.t 23))]), .op 25 (.bslice 13 [(.t 24)]), .op 26 (.app 13 152 (.t 17) (.t 25)), .m 3 26]))
 (.reg [.m 15 4, .B 16 .add 15 1, .m 4 16]))))))
 (.norm [1, 3] (.seq (.q [.i 5 0]
 (.block 2 (.loop [1, 3, 5] (.seq (.q [.m 27 5, .f 28 1 2, .l 29 28, .n 30 29, .b 31 .lss 27 30]
 (.cond 31 .skip (.exit 2)))
 (.seq (.block 3 (.draw [.m 34 3, .f 35 1 2, .l 36 35, .m 37 5, .x 38 3 36 37, .f 39 38 0, .l 40 39, .f 41 1 2, .l 42 41, .m 43 5, .x 44 3 42 43, .f 45 44 1, .l 46 45, .f 47 1 2, .l 48 47, .m 49 5, .x 50 3 48 49, .f 51 50 2, .l 52 51, .op 53 (.build [.i 0, .e, .i 0, .nils 1, .i 0, .nils 1, .i 0, .F, .e, .i 0, .i 0, .i 0, .i 0] [(0, 1, (.i 4)), (10, 1, (.t 40)), (11, 1, (.t 46)), (12, 1, (.t 52))]), .op 54 (.bslice 13 [(.t 53)]), .op 55 (.app 13 152 (.t 34) (.t 54)), .m 3 55] [[], [], [1], [], [2, 3], [4], [5], [], [7], [], [8, 9], [10], [11], [], [13], [], [14, 15], [16], [17], [6, 12, 18], [19], [0, 20], [21, 21, 0, 1, 2, 3, 4, 5, 6, 7, 8, 9, 10, 11, 12, 13, 14, 15, 16, 17, 18, 19, 20, 21]]))
 (.reg [.m 32 5, .B 33 .add 32 1, .m 5 33]))))))
 (.norm [3] (.q [.m 56 3, .m 2 56]
 .ret))))))⟩
abbrev C_s_RecsOf (Te : TE) : Prop := ∀ (t : TabV) (h : t.Len), Te 69 [.agg (t.enc false)] ⟨[.one (slT true 13 (RecV.enc true) (recsOf t))], [t.enc false]⟩
theorem r_s_RecsOf {Te : TE} (c_s_l9Copy : C_s_l9Copy Te) : C_s_RecsOf (RF Te x_s_RecsOf) := by
  intro t h
  refine run0 ?_
  obtain ⟨⟨hR, hRl⟩, hM⟩ := h
  simp -implicitDefEqProofs only [x_s_RecsOf, go_sem]
  repeat refine ⟨sc, ?_⟩
  try exact sf
  refine loop_of (σ := Nat × List RecV) (fun x => ⟨[(1, .bp 1 0), (3, .one (.rf 58 0 [] 13 0 x.2.length)), (4, .one (.pv (.int .i64 x.1)))], [(1, [.ro 7 (t.Rows.map (RowV.enc false)), .pv (.int .i64 t.Phase), .ro 3 (t.Marks.map MarkV.row)])], [(0, t.enc false), (58, [slT true 13 (RecV.enc true) x.2])]⟩) (fun x => x.1 ≤ t.Rows.length ∧ x.2.length = x.1 + 1 ∧ x.2 = recPhase t.Phase :: (t.Rows.take x.1).map recRow) (fun x => t.Rows.length - x.1) (0, [recPhase t.Phase]) ?_ ⟨Nat.zero_le _, rfl, rfl⟩ ?_
  · simp -implicitDefEqProofs only [go_sem]
    try rfl
  · rintro ⟨i, a⟩ ⟨hi, hl, he⟩
    simp only at hi hl he
    cases q : decide ((i : Int) < (t.Rows.length : Int))
    · have k0 : i = t.Rows.length := by simp only [decide_eq_false_iff_not] at q; omega
      rw [k0, List.take_length] at he
      try simp -implicitDefEqProofs only [go_sem, q]
      repeat refine ⟨sc, ?_⟩
      try exact sf
      refine loop_of (σ := Nat × List RecV) (fun x => ⟨[(1, .bp 1 0), (3, .one (.rf 58 0 [] 13 0 x.2.length)), (5, .one (.pv (.int .i64 x.1)))], [(1, [.ro 7 (t.Rows.map (RowV.enc false)), .pv (.int .i64 t.Phase), .ro 3 (t.Marks.map MarkV.row)])], [(0, t.enc false), (58, [slT true 13 (RecV.enc true) x.2])]⟩) (fun x => x.1 ≤ t.Marks.length ∧ x.2.length = t.Rows.length + x.1 + 1 ∧ x.2 = recPhase t.Phase :: (t.Rows.map recRow ++ (t.Marks.take x.1).map recMark)) (fun x => t.Marks.length - x.1) (0, a) ?_ ⟨Nat.zero_le _, by simp only; omega, by simp only [List.take_zero, List.map_nil, List.append_nil]; exact he⟩ ?_
      · simp -implicitDefEqProofs only [go_sem]
        try rfl
      · rintro ⟨j, b⟩ ⟨hj, hbl, hbe⟩
        simp only at hj hbl hbe
        cases q2 : decide ((j : Int) < (t.Marks.length : Int))
        · have k2 : j = t.Marks.length := by simp only [decide_eq_false_iff_not] at q2; omega
          rw [k2, List.take_length] at hbe
          have e9 : recsOf t = b := hbe.symm
          have e8 : List.take b.length (List.map (RecV.enc true) b) = List.map (RecV.enc true) b := List.take_of_length_le (by simp)
          try simp -implicitDefEqProofs only [go_sem, q2, e9, e8]
          repeat refine ⟨sc, ?_⟩
          try exact sf
        · have k2 : j < t.Marks.length := by simp only [decide_eq_true_eq] at q2; omega
          have ea : List.map (RecV.enc true) b ++ [[iT 4, sT ⟨#[]⟩, iT 0, Tr.sl true 1 () [], iT 0, Tr.sl true 1 () [], iT 0, bT false, sT ⟨#[]⟩, iT 0, iT t.Marks[j].Who, iT t.Marks[j].Seq, iT t.Marks[j].Code]] = List.map (RecV.enc true) (b ++ [recMark t.Marks[j]]) := by rw [List.map_append]; rfl
          have et : List.take b.length (List.map (RecV.enc true) b) = List.map (RecV.enc true) b := List.take_of_length_le (by simp)
          try simp -implicitDefEqProofs only [go_sem, q2, List.getElem?_eq_getElem k2, et, ea]
          repeat refine ⟨sc, ?_⟩
          try exact sf
          refine ⟨(j + 1, b ++ [recMark t.Marks[j]]), ?_, ⟨k2, ?_, ?_⟩, ?_⟩
          · rw [IntWalk.i64_in _ (by omega)]
            simp only [List.length_append]
            rfl
          · simp only [List.length_append, List.length_cons, List.length_nil]; omega
          · rw [hbe, recs_marks k2]
          · simp only; omega
    · have k1 : i < t.Rows.length := by simp only [decide_eq_true_eq] at q; omega
      have ea : List.map (RecV.enc true) a ++ [[iT 1, sT t.Rows[i].Key, iT t.Rows[i].Old.Tag, slT true 1 uR t.Rows[i].Old.B, iT t.Rows[i].New.Tag, slT true 1 uR t.Rows[i].New.B, iT t.Rows[i].Has, bT t.Rows[i].Aside, sT ⟨#[]⟩, iT 0, iT 0, iT 0, iT 0]] = List.map (RecV.enc true) (a ++ [recRow t.Rows[i]]) := by rw [List.map_append]; rfl
      have et : List.take a.length (List.map (RecV.enc true) a) = List.map (RecV.enc true) a := List.take_of_length_le (by simp)
      try simp -implicitDefEqProofs only [go_sem, q, List.getElem?_eq_getElem k1]
      repeat refine ⟨sc, ?_⟩
      try exact sf
      refine .of (c_s_l9Copy t.Rows[i] (hRl _ (List.getElem_mem k1))) ?_
      try simp -implicitDefEqProofs only [go_sem, et, ea]
      repeat refine ⟨sc, ?_⟩
      try exact sf
      refine ⟨(i + 1, a ++ [recRow t.Rows[i]]), ?_, ⟨k1, ?_, ?_⟩, ?_⟩
      · rw [IntWalk.i64_in _ (by omega)]
        simp only [List.length_append]
        rfl
      · simp only [List.length_append, List.length_cons, List.length_nil]; omega
      · rw [he, recs_rows k1]
      · simp only; omega
end Go.X

