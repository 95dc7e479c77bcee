/- Texts: CT CU CV CVa CVb CVc CVd CVe CVf. -/
import Derived.Test.YthfpiilfndlnaaaGreatDoorCf
import Derived.Lib.ValidLaws
import Derived.Test.YthfpiilfndlnaaaGreatDoorCd
import Derived.Test.YthfpiilfndlnaaaGreatDoorCe
set_option linter.unusedVariables false
set_option linter.unusedSimpArgs false
/- T -/
namespace Go.X
set_option maxRecDepth 100000
set_option maxHeartbeats 8000000
def signOk (n : Int) : Bool := win n 0 1114111 && !win n 55296 57343
def enc8 (n : Nat) : List UInt8 :=
  if n ≤ 127 then [UInt8.ofNat n] else if n ≤ 2047 then [UInt8.ofNat (192 + n / 64), UInt8.ofNat (128 + n % 64)]
  else if n ≤ 65535 then [UInt8.ofNat (224 + n / 4096), UInt8.ofNat (128 + n / 64 % 64), UInt8.ofNat (128 + n % 64)]
  else [UInt8.ofNat (240 + n / 262144), UInt8.ofNat (128 + n / 4096 % 64), UInt8.ofNat (128 + n / 64 % 64), UInt8.ofNat (128 + n % 64)]
def putSign (b : List UInt8) (n : Int) : List UInt8 := if signOk n = true then b ++ enc8 n.toNat else b
theorem enc8_len (n : Nat) : 0 < (enc8 n).length ∧ (enc8 n).length ≤ 4 := by
  unfold enc8
  split
  · simp
  · split
    · simp
    · split <;> simp
theorem putSign_len (b : List UInt8) (n : Int) : (putSign b n).length ≤ b.length + 4 := by
  unfold putSign
  split
  · rw [List.length_append]; have := (enc8_len n.toNat).2; omega
  · omega
theorem signOk_in {n : Int} (h : signOk n = true) : 0 ≤ n ∧ n ≤ 1114111 ∧ ¬ (55296 ≤ n ∧ n ≤ 57343) := by
  simp only [signOk, win, Bool.and_eq_true, Bool.not_eq_true', decide_eq_true_eq, Bool.and_eq_false_imp, decide_eq_false_iff_not] at h
  omega
theorem or_hd (c i a : Nat) (hc : c = 2 ^ i * a) {x : Nat} (hx : x < 2 ^ i) (hb : c < 2 ^ 60 ∧ x < 2 ^ 60) : orK .i64 (c : Int) (x : Int) = ((c + x : Nat) : Int) := by
  rw [or_nat c x (by omega) (by omega), hc, Nat.two_pow_add_eq_or_of_lt hx]
theorem mkU_nat (k : Nat) : mkU (k : Int) = UInt8.ofNat k := by
  have : ((k : Int) % 256).toNat = k % 256 := by omega
  rw [mkU, this]
  apply UInt8.toNat_inj.1
  rw [UInt8.toNat_ofNat', UInt8.toNat_ofNat']
  omega
theorem and63 (m : Nat) (hm : m < 2 ^ 60) : andK .i64 (m : Int) 63 = ((m % 64 : Nat) : Int) := by
  have := and_nat m 63 (by omega) (by decide)
  rw [Nat.and_two_pow_sub_one_eq_mod m 6] at this
  exact this
theorem fdivN (m k : Nat) : (m : Int).fdiv (k : Int) = ((m / k : Nat) : Int) := by
  rw [Int.fdiv_eq_ediv_of_nonneg _ (by omega)]
  rfl
theorem wrap8 (k : Nat) (h : k < 256) : (k : Int) = ((UInt8.ofNat k).toNat : Int) := by
  rw [UInt8.toNat_ofNat']
  omega
theorem or8 (c i a : Nat) (hc : c = 2 ^ i * a) {x : Nat} (hx : x < 2 ^ i) (hb : c + x < 256) : orK .u8 (c : Int) (x : Int) = ((UInt8.ofNat (c + x)).toNat : Int) := by
  rw [orK_def]
  show IntKind.u8.wrap ((BitVec.ofInt 8 (c : Int) ||| BitVec.ofInt 8 (x : Int)).toNat) = _
  have h1 : (BitVec.ofInt 8 (c : Int)).toNat = c := by rw [BitVec.toNat_ofInt]; omega
  have h2 : (BitVec.ofInt 8 (x : Int)).toNat = x := by rw [BitVec.toNat_ofInt]; omega
  have h3 : c ||| x = c + x := by rw [hc, ← Nat.two_pow_add_eq_or_of_lt hx]
  rw [BitVec.toNat_or, h1, h2, h3, ← wrap8 _ hb, IntKind.wrap_u8]
  omega
theorem and8 (m : Nat) (hm : m < 256) : andK .u8 (m : Int) 63 = ((m % 64 : Nat) : Int) := by
  rw [andK_def]
  show IntKind.u8.wrap ((BitVec.ofInt 8 (m : Int) &&& BitVec.ofInt 8 63).toNat) = _
  have h1 : (BitVec.ofInt 8 (m : Int)).toNat = m := by rw [BitVec.toNat_ofInt]; omega
  have h2 : (BitVec.ofInt 8 63).toNat = 2 ^ 6 - 1 := by decide
  rw [BitVec.toNat_and, h1, h2, Nat.and_two_pow_sub_one_eq_mod, IntKind.wrap_u8]
  omega
theorem mkU_toNat (k : Nat) : (mkU (k : Int)).toNat = k % 256 := by rw [mkU_nat, UInt8.toNat_ofNat']
def x_s_SignOk : FnX := ⟨10, [.tmp 2],
  .seq (.reg [⟨none, some 2, 2, .mv (.k (.one (.pv (.bool false))))⟩])
 (.seq (.reg [⟨none, some 3, 3, .mv (.t 0)⟩,
   ⟨none, some 4, 4, .call 29 [0, 0, 0] [(.t 3), (.k (.one (.pv (.int .i64 0)))), (.k (.one (.pv (.int .i64 1114111))))]⟩,
   ⟨none, some 5, 5, .mv (.t 4)⟩,
   ⟨(some (5, true)), some 6, 6, .mv (.t 0)⟩,
   ⟨(some (5, true)), some 7, 7, .call 29 [0, 0, 0] [(.t 6), (.k (.one (.pv (.int .i64 55296)))), (.k (.one (.pv (.int .i64 57343))))]⟩,
   ⟨(some (5, true)), some 8, 8, .not (.t 7)⟩,
   ⟨none, some 9, 9, .pick (.t 5) (.t 8) (.k (.one (.pv (.bool false))))⟩,
   ⟨none, some 2, 2, .mv (.t 9)⟩])
 (.ret))⟩
abbrev C_s_SignOk (Te : Nat → List AV → Res → Prop) : Prop := ∀ (n : Int), Te 199 [.one (iT n)] ⟨[.one (bT (signOk n))], [[iT n]]⟩
theorem r_s_SignOk {Te : Nat → List AV → Res → Prop} (c_s_l1In : C_s_l1In Te) : ∀ (n : Int), RunFn Te x_s_SignOk [.one (iT n)] ⟨[.one (bT (signOk n))], [[iT n]]⟩ := by
  intro n
  refine ⟨by simp -implicitDefEqProofs only [x_s_SignOk, go_sem], ?_⟩
  simp -implicitDefEqProofs only [x_s_SignOk, go_sem, true_implies, false_implies, signOk]
  refine .of (c_s_l1In _ _ _) ?_
  try simp -implicitDefEqProofs only [go_sem, true_implies, false_implies]
  cases g1 : win n 0 1114111
  · try simp -implicitDefEqProofs only [go_sem, true_implies, false_implies]
  · try simp -implicitDefEqProofs only [go_sem, true_implies, false_implies]
    refine .of (c_s_l1In _ _ _) ?_
    try simp -implicitDefEqProofs only [go_sem, true_implies, false_implies]
def x_i_SignOk : FnX := ⟨10, [.tmp 2],
  .seq (.reg [⟨none, some 2, 2, .mv (.k (.one (.pv (.bool false))))⟩])
 (.seq (.reg [⟨none, some 3, 3, .mv (.t 0)⟩,
   ⟨none, some 4, 4, .call 31 [0, 0, 0] [(.t 3), (.k (.one (.pv (.int .i64 0)))), (.k (.one (.pv (.int .i64 1114111))))]⟩,
   ⟨none, some 5, 5, .mv (.t 4)⟩,
   ⟨(some (5, true)), some 6, 6, .mv (.t 0)⟩,
   ⟨(some (5, true)), some 7, 7, .call 31 [0, 0, 0] [(.t 6), (.k (.one (.pv (.int .i64 55296)))), (.k (.one (.pv (.int .i64 57343))))]⟩,
   ⟨(some (5, true)), some 8, 8, .not (.t 7)⟩,
   ⟨none, some 9, 9, .pick (.t 5) (.t 8) (.k (.one (.pv (.bool false))))⟩,
   ⟨none, some 2, 2, .mv (.t 9)⟩])
 (.ret))⟩
abbrev C_i_SignOk (Te : Nat → List AV → Res → Prop) : Prop := ∀ (n : Int), Te 204 [.one (iT n)] ⟨[.one (bT (signOk n))], [[iT n]]⟩
theorem r_i_SignOk {Te : Nat → List AV → Res → Prop} (c_i_within : C_i_within Te) : ∀ (n : Int), RunFn Te x_i_SignOk [.one (iT n)] ⟨[.one (bT (signOk n))], [[iT n]]⟩ := by
  intro n
  refine ⟨by simp -implicitDefEqProofs only [x_i_SignOk, go_sem], ?_⟩
  simp -implicitDefEqProofs only [x_i_SignOk, go_sem, true_implies, false_implies, signOk]
  refine .of (c_i_within _ _ _) ?_
  try simp -implicitDefEqProofs only [go_sem, true_implies, false_implies]
  cases g1 : win n 0 1114111
  · try simp -implicitDefEqProofs only [go_sem, true_implies, false_implies]
  · try simp -implicitDefEqProofs only [go_sem, true_implies, false_implies]
    refine .of (c_i_within _ _ _) ?_
    try simp -implicitDefEqProofs only [go_sem, true_implies, false_implies]
def x_s_PutSign : FnX := ⟨76, [.tmp 4],
  .seq (.reg [⟨none, some 4, 4, .mv (.k (.one (.nils 1)))⟩])
 (.seq (.reg [⟨none, some 6, 6, .bslice 1 []⟩,
   ⟨none, some 7, 7, .mv (.t 0)⟩,
   ⟨none, some 8, 8, .app 1 1 (.t 6) (.t 7)⟩,
   ⟨none, some 5, 5, .mv (.t 8)⟩])
 (.seq (.block 0 (.seq (.reg [⟨none, some 10, 10, .mv (.t 1)⟩,
   ⟨none, some 11, 11, .call 199 [0] [(.t 10)]⟩,
   ⟨none, some 12, 12, .not (.t 11)⟩,
   ⟨none, some 9, 9, .mv (.t 12)⟩])
 (.cond 9 (.seq (.reg [⟨none, some 13, 13, .mv (.t 5)⟩,
   ⟨none, some 4, 4, .mv (.t 13)⟩])
 (.ret)) (.seq (.reg [⟨none, some 15, 15, .mv (.t 1)⟩,
   ⟨none, some 16, 16, .bin .leq (.t 15) (.k (.one (.pv (.int .i64 127))))⟩,
   ⟨none, some 14, 14, .mv (.t 16)⟩])
 (.cond 14 (.seq (.reg [⟨none, some 17, 17, .mv (.t 5)⟩,
   ⟨none, some 18, 18, .mv (.t 1)⟩,
   ⟨none, some 19, 19, .conv (.int .u8) (.t 18)⟩,
   ⟨none, some 20, 20, .bslice 1 [(.t 19)]⟩,
   ⟨none, some 21, 21, .app 1 1 (.t 17) (.t 20)⟩,
   ⟨none, some 4, 4, .mv (.t 21)⟩])
 (.ret)) (.seq (.reg [⟨none, some 23, 23, .mv (.t 1)⟩,
   ⟨none, some 24, 24, .bin .leq (.t 23) (.k (.one (.pv (.int .i64 2047))))⟩,
   ⟨none, some 22, 22, .mv (.t 24)⟩])
 (.cond 22 (.seq (.reg [⟨none, some 25, 25, .mv (.t 5)⟩,
   ⟨none, some 26, 26, .mv (.t 1)⟩,
   ⟨none, some 27, 27, .bin .shr (.t 26) (.k (.one (.pv (.int .u64 6))))⟩,
   ⟨none, some 28, 28, .bin .or (.k (.one (.pv (.int .i64 192)))) (.t 27)⟩,
   ⟨none, some 29, 29, .conv (.int .u8) (.t 28)⟩,
   ⟨none, some 30, 30, .mv (.t 1)⟩,
   ⟨none, some 31, 31, .bin .and (.t 30) (.k (.one (.pv (.int .i64 63))))⟩,
   ⟨none, some 32, 32, .bin .or (.k (.one (.pv (.int .i64 128)))) (.t 31)⟩,
   ⟨none, some 33, 33, .conv (.int .u8) (.t 32)⟩,
   ⟨none, some 34, 34, .bslice 1 [(.t 29), (.t 33)]⟩,
   ⟨none, some 35, 35, .app 1 1 (.t 25) (.t 34)⟩,
   ⟨none, some 4, 4, .mv (.t 35)⟩])
 (.ret)) (.seq (.reg [⟨none, some 37, 37, .mv (.t 1)⟩,
   ⟨none, some 38, 38, .bin .leq (.t 37) (.k (.one (.pv (.int .i64 65535))))⟩,
   ⟨none, some 36, 36, .mv (.t 38)⟩])
 (.cond 36 (.seq (.reg [⟨none, some 39, 39, .mv (.t 5)⟩,
   ⟨none, some 40, 40, .mv (.t 1)⟩,
   ⟨none, some 41, 41, .bin .shr (.t 40) (.k (.one (.pv (.int .u64 12))))⟩,
   ⟨none, some 42, 42, .bin .or (.k (.one (.pv (.int .i64 224)))) (.t 41)⟩,
   ⟨none, some 43, 43, .conv (.int .u8) (.t 42)⟩,
   ⟨none, some 44, 44, .mv (.t 1)⟩,
   ⟨none, some 45, 45, .bin .shr (.t 44) (.k (.one (.pv (.int .u64 6))))⟩,
   ⟨none, some 46, 46, .bin .and (.t 45) (.k (.one (.pv (.int .i64 63))))⟩,
   ⟨none, some 47, 47, .bin .or (.k (.one (.pv (.int .i64 128)))) (.t 46)⟩,
   ⟨none, some 48, 48, .conv (.int .u8) (.t 47)⟩,
   ⟨none, some 49, 49, .mv (.t 1)⟩,
   ⟨none, some 50, 50, .bin .and (.t 49) (.k (.one (.pv (.int .i64 63))))⟩,
   ⟨none, some 51, 51, .bin .or (.k (.one (.pv (.int .i64 128)))) (.t 50)⟩,
   ⟨none, some 52, 52, .conv (.int .u8) (.t 51)⟩,
   ⟨none, some 53, 53, .bslice 1 [(.t 43), (.t 48), (.t 52)]⟩,
   ⟨none, some 54, 54, .app 1 1 (.t 39) (.t 53)⟩,
   ⟨none, some 4, 4, .mv (.t 54)⟩])
 (.ret)) (.skip))))))))))
 (.seq (.reg [⟨none, some 55, 55, .mv (.t 5)⟩,
   ⟨none, some 56, 56, .mv (.t 1)⟩,
   ⟨none, some 57, 57, .bin .shr (.t 56) (.k (.one (.pv (.int .u64 18))))⟩,
   ⟨none, some 58, 58, .bin .or (.k (.one (.pv (.int .i64 240)))) (.t 57)⟩,
   ⟨none, some 59, 59, .conv (.int .u8) (.t 58)⟩,
   ⟨none, some 60, 60, .mv (.t 1)⟩,
   ⟨none, some 61, 61, .bin .shr (.t 60) (.k (.one (.pv (.int .u64 12))))⟩,
   ⟨none, some 62, 62, .bin .and (.t 61) (.k (.one (.pv (.int .i64 63))))⟩,
   ⟨none, some 63, 63, .bin .or (.k (.one (.pv (.int .i64 128)))) (.t 62)⟩,
   ⟨none, some 64, 64, .conv (.int .u8) (.t 63)⟩,
   ⟨none, some 65, 65, .mv (.t 1)⟩,
   ⟨none, some 66, 66, .bin .shr (.t 65) (.k (.one (.pv (.int .u64 6))))⟩,
   ⟨none, some 67, 67, .bin .and (.t 66) (.k (.one (.pv (.int .i64 63))))⟩,
   ⟨none, some 68, 68, .bin .or (.k (.one (.pv (.int .i64 128)))) (.t 67)⟩,
   ⟨none, some 69, 69, .conv (.int .u8) (.t 68)⟩,
   ⟨none, some 70, 70, .mv (.t 1)⟩,
   ⟨none, some 71, 71, .bin .and (.t 70) (.k (.one (.pv (.int .i64 63))))⟩,
   ⟨none, some 72, 72, .bin .or (.k (.one (.pv (.int .i64 128)))) (.t 71)⟩,
   ⟨none, some 73, 73, .conv (.int .u8) (.t 72)⟩,
   ⟨none, some 74, 74, .bslice 1 [(.t 59), (.t 64), (.t 69), (.t 73)]⟩,
   ⟨none, some 75, 75, .app 1 1 (.t 55) (.t 74)⟩,
   ⟨none, some 4, 4, .mv (.t 75)⟩])
 (.ret))))⟩
abbrev C_s_PutSign (Te : Nat → List AV → Res → Prop) : Prop := ∀ (b : List UInt8) (n : Int) (hb : b.length ≤ 2 ^ 30), Te 158 [.one (slT false 1 uR b), .one (iT n)] ⟨[.one (slT true 1 uR (putSign b n))], [[slT false 1 uR b], [iT n]]⟩
theorem r_s_PutSign {Te : Nat → List AV → Res → Prop} (c_s_SignOk : C_s_SignOk Te) : ∀ (b : List UInt8) (n : Int) (hb : b.length ≤ 2 ^ 30), RunFn Te x_s_PutSign [.one (slT false 1 uR b), .one (iT n)] ⟨[.one (slT true 1 uR (putSign b n))], [[slT false 1 uR b], [iT n]]⟩ := by
  intro b n hb
  refine ⟨by simp -implicitDefEqProofs only [x_s_PutSign, go_sem], ?_⟩
  cases hn : signOk n
  · simp -implicitDefEqProofs only [x_s_PutSign, go_sem, true_implies, false_implies]
    repeat (refine ⟨⟨decide_eq_true (by omega), decide_eq_true (by omega)⟩, ?_⟩)
    refine .of (c_s_SignOk _) ?_
    try simp -implicitDefEqProofs only [go_sem, true_implies, false_implies, putSign, hn, if_false]
    try rfl
  obtain ⟨h0, h1, _⟩ := signOk_in hn
  obtain ⟨m, rfl⟩ : ∃ m : Nat, n = m := ⟨n.toNat, by omega⟩
  have ep : putSign b (m : Int) = b ++ enc8 m := by simp only [putSign, hn, if_true, Int.toNat_natCast]
  have d6 : (m : Int).fdiv (2 ^ 6) = ((m / 64 : Nat) : Int) := fdivN m 64
  have d12 : (m : Int).fdiv (2 ^ 12) = ((m / 4096 : Nat) : Int) := fdivN m 4096
  have d18 : (m : Int).fdiv (2 ^ 18) = ((m / 262144 : Nat) : Int) := fdivN m 262144
  have a0 := and63 m (by omega)
  have a6 := and63 (m / 64) (by omega)
  have a12 := and63 (m / 4096) (by omega)
  have o0 : orK .i64 128 ((m % 64 : Nat) : Int) = ((128 + m % 64 : Nat) : Int) := or_hd 128 6 2 rfl (by omega) (by omega)
  have o6 : orK .i64 128 ((m / 64 % 64 : Nat) : Int) = ((128 + m / 64 % 64 : Nat) : Int) := or_hd 128 6 2 rfl (by omega) (by omega)
  have o12 : orK .i64 128 ((m / 4096 % 64 : Nat) : Int) = ((128 + m / 4096 % 64 : Nat) : Int) := or_hd 128 6 2 rfl (by omega) (by omega)
  cases q : decide ((m : Int) ≤ 127)
  · have hq : ¬ m ≤ 127 := by simp only [decide_eq_false_iff_not] at q; omega
    cases q2 : decide ((m : Int) ≤ 2047)
    · have hq2 : ¬ m ≤ 2047 := by simp only [decide_eq_false_iff_not] at q2; omega
      cases q3 : decide ((m : Int) ≤ 65535)
      · have hq3 : ¬ m ≤ 65535 := by simp only [decide_eq_false_iff_not] at q3; omega
        have t : orK .i64 240 ((m / 262144 : Nat) : Int) = ((240 + m / 262144 : Nat) : Int) := or_hd 240 3 30 rfl (by omega) (by omega)
        have ee : List.take (b.length + 4) (List.map uR b ++ [[uT (mkU ((240 + m / 262144 : Nat) : Int))], [uT (mkU ((128 + m / 4096 % 64 : Nat) : Int))], [uT (mkU ((128 + m / 64 % 64 : Nat) : Int))], [uT (mkU ((128 + m % 64 : Nat) : Int))]]) = List.map uR (b ++ enc8 m) := by
          rw [List.take_of_length_le (by simp), mkU_nat, mkU_nat, mkU_nat, mkU_nat]
          simp only [enc8, if_neg hq, if_neg hq2, if_neg hq3, List.map_append, List.map_cons, List.map_nil]
        simp -implicitDefEqProofs only [x_s_PutSign, go_sem, true_implies, false_implies]
        repeat (refine ⟨⟨decide_eq_true (by omega), decide_eq_true (by omega)⟩, ?_⟩)
        refine .of (c_s_SignOk _) ?_
        try simp -implicitDefEqProofs only [go_sem, true_implies, false_implies, hn, ep, q, q2, q3, show Nat.min 6 64 = 6 from rfl, show Nat.min 12 64 = 12 from rfl, show Nat.min 18 64 = 18 from rfl, d6, d12, d18, a0, a6, a12, o0, o6, o12, t, mkU_wrap, ee]
        repeat (refine ⟨decide_eq_true (by omega), ?_⟩)
        try (exact decide_eq_true (by omega))
      · have hq3 : m ≤ 65535 := by simp only [decide_eq_true_eq] at q3; omega
        have t : orK .i64 224 ((m / 4096 : Nat) : Int) = ((224 + m / 4096 : Nat) : Int) := or_hd 224 4 14 rfl (by omega) (by omega)
        have ee : List.take (b.length + 3) (List.map uR b ++ [[uT (mkU ((224 + m / 4096 : Nat) : Int))], [uT (mkU ((128 + m / 64 % 64 : Nat) : Int))], [uT (mkU ((128 + m % 64 : Nat) : Int))]]) = List.map uR (b ++ enc8 m) := by
          rw [List.take_of_length_le (by simp), mkU_nat, mkU_nat, mkU_nat]
          simp only [enc8, if_neg hq, if_neg hq2, if_pos hq3, List.map_append, List.map_cons, List.map_nil]
        simp -implicitDefEqProofs only [x_s_PutSign, go_sem, true_implies, false_implies]
        repeat (refine ⟨⟨decide_eq_true (by omega), decide_eq_true (by omega)⟩, ?_⟩)
        refine .of (c_s_SignOk _) ?_
        try simp -implicitDefEqProofs only [go_sem, true_implies, false_implies, hn, ep, q, q2, q3, show Nat.min 6 64 = 6 from rfl, show Nat.min 12 64 = 12 from rfl, d6, d12, a0, a6, o0, o6, t, mkU_wrap, ee]
        repeat (refine ⟨decide_eq_true (by omega), ?_⟩)
        try (exact decide_eq_true (by omega))
    · have hq2 : m ≤ 2047 := by simp only [decide_eq_true_eq] at q2; omega
      have t : orK .i64 192 ((m / 64 : Nat) : Int) = ((192 + m / 64 : Nat) : Int) := or_hd 192 6 3 rfl (by omega) (by omega)
      have ee : List.take (b.length + 2) (List.map uR b ++ [[uT (mkU ((192 + m / 64 : Nat) : Int))], [uT (mkU ((128 + m % 64 : Nat) : Int))]]) = List.map uR (b ++ enc8 m) := by
        rw [List.take_of_length_le (by simp), mkU_nat, mkU_nat]
        simp only [enc8, if_neg hq, if_pos hq2, List.map_append, List.map_cons, List.map_nil]
      simp -implicitDefEqProofs only [x_s_PutSign, go_sem, true_implies, false_implies]
      repeat (refine ⟨⟨decide_eq_true (by omega), decide_eq_true (by omega)⟩, ?_⟩)
      refine .of (c_s_SignOk _) ?_
      try simp -implicitDefEqProofs only [go_sem, true_implies, false_implies, hn, ep, q, q2, show Nat.min 6 64 = 6 from rfl, d6, a0, o0, t, mkU_wrap, ee]
      repeat (refine ⟨decide_eq_true (by omega), ?_⟩)
      try (exact decide_eq_true (by omega))
  · have hq : m ≤ 127 := by simp only [decide_eq_true_eq] at q; omega
    have ee : List.take (b.length + 1) (List.map uR b ++ [[uT (mkU (m : Int))]]) = List.map uR (b ++ enc8 m) := by
      rw [List.take_of_length_le (by simp), mkU_nat]
      simp only [enc8, if_pos hq, List.map_append, List.map_cons, List.map_nil]
    simp -implicitDefEqProofs only [x_s_PutSign, go_sem, true_implies, false_implies]
    repeat (refine ⟨⟨decide_eq_true (by omega), decide_eq_true (by omega)⟩, ?_⟩)
    refine .of (c_s_SignOk _) ?_
    try simp -implicitDefEqProofs only [go_sem, true_implies, false_implies, hn, ep, q, mkU_wrap, ee]
    repeat (refine ⟨decide_eq_true (by omega), ?_⟩)
    try (exact decide_eq_true (by omega))
def x_u_appendRuneNonASCII : FnX := ⟨78, [.tmp 4],
  .seq (.reg [⟨none, some 4, 4, .mv (.k (.one (.nils 1)))⟩])
 (.seq (.reg [⟨none, some 6, 6, .mv (.t 1)⟩,
   ⟨none, some 7, 7, .conv (.int .u32) (.t 6)⟩,
   ⟨none, some 5, 5, .mv (.t 7)⟩])
 (.block 0 (.seq (.reg [⟨none, some 12, 12, .mv (.t 5)⟩,
   ⟨none, some 13, 13, .bin .leq (.t 12) (.k (.one (.pv (.int .u32 2047))))⟩,
   ⟨none, some 11, 11, .mv (.t 13)⟩])
 (.cond 11 (.seq (.reg [⟨none, some 14, 14, .mv (.t 0)⟩,
   ⟨none, some 15, 15, .mv (.t 1)⟩,
   ⟨none, some 16, 16, .bin .shr (.t 15) (.k (.one (.pv (.int .u64 6))))⟩,
   ⟨none, some 17, 17, .conv (.int .u8) (.t 16)⟩,
   ⟨none, some 18, 18, .bin .or (.k (.one (.pv (.int .u8 192)))) (.t 17)⟩,
   ⟨none, some 19, 19, .mv (.t 1)⟩,
   ⟨none, some 20, 20, .conv (.int .u8) (.t 19)⟩,
   ⟨none, some 21, 21, .bin .and (.t 20) (.k (.one (.pv (.int .u8 63))))⟩,
   ⟨none, some 22, 22, .bin .or (.k (.one (.pv (.int .u8 128)))) (.t 21)⟩,
   ⟨none, some 23, 23, .bslice 1 [(.t 18), (.t 22)]⟩,
   ⟨none, some 24, 24, .app 1 1 (.t 14) (.t 23)⟩,
   ⟨none, some 4, 4, .mv (.t 24)⟩])
 (.ret)) (.seq (.seq (.reg [⟨none, some 26, 26, .mv (.t 5)⟩,
   ⟨none, some 27, 27, .bin .lss (.t 26) (.k (.one (.pv (.int .u32 55296))))⟩,
   ⟨none, some 25, 25, .mv (.t 27)⟩])
 (.cond 25 (.skip) (.reg [⟨none, some 28, 28, .mv (.t 5)⟩,
   ⟨none, some 29, 29, .bin .lss (.k (.one (.pv (.int .u32 57343)))) (.t 28)⟩,
   ⟨none, some 30, 30, .mv (.t 29)⟩,
   ⟨(some (30, true)), some 31, 31, .mv (.t 5)⟩,
   ⟨(some (30, true)), some 32, 32, .bin .leq (.t 31) (.k (.one (.pv (.int .u32 65535))))⟩,
   ⟨none, some 33, 33, .pick (.t 30) (.t 32) (.k (.one (.pv (.bool false))))⟩,
   ⟨none, some 25, 25, .mv (.t 33)⟩])))
 (.cond 25 (.seq (.reg [⟨none, some 34, 34, .mv (.t 0)⟩,
   ⟨none, some 35, 35, .mv (.t 1)⟩,
   ⟨none, some 36, 36, .bin .shr (.t 35) (.k (.one (.pv (.int .u64 12))))⟩,
   ⟨none, some 37, 37, .conv (.int .u8) (.t 36)⟩,
   ⟨none, some 38, 38, .bin .or (.k (.one (.pv (.int .u8 224)))) (.t 37)⟩,
   ⟨none, some 39, 39, .mv (.t 1)⟩,
   ⟨none, some 40, 40, .bin .shr (.t 39) (.k (.one (.pv (.int .u64 6))))⟩,
   ⟨none, some 41, 41, .conv (.int .u8) (.t 40)⟩,
   ⟨none, some 42, 42, .bin .and (.t 41) (.k (.one (.pv (.int .u8 63))))⟩,
   ⟨none, some 43, 43, .bin .or (.k (.one (.pv (.int .u8 128)))) (.t 42)⟩,
   ⟨none, some 44, 44, .mv (.t 1)⟩,
   ⟨none, some 45, 45, .conv (.int .u8) (.t 44)⟩,
   ⟨none, some 46, 46, .bin .and (.t 45) (.k (.one (.pv (.int .u8 63))))⟩,
   ⟨none, some 47, 47, .bin .or (.k (.one (.pv (.int .u8 128)))) (.t 46)⟩,
   ⟨none, some 48, 48, .bslice 1 [(.t 38), (.t 43), (.t 47)]⟩,
   ⟨none, some 49, 49, .app 1 1 (.t 34) (.t 48)⟩,
   ⟨none, some 4, 4, .mv (.t 49)⟩])
 (.ret)) (.seq (.reg [⟨none, some 51, 51, .mv (.t 5)⟩,
   ⟨none, some 52, 52, .bin .gtr (.t 51) (.k (.one (.pv (.int .u32 65535))))⟩,
   ⟨none, some 53, 53, .mv (.t 52)⟩,
   ⟨(some (53, true)), some 54, 54, .mv (.t 5)⟩,
   ⟨(some (53, true)), some 55, 55, .bin .leq (.t 54) (.k (.one (.pv (.int .u32 1114111))))⟩,
   ⟨none, some 56, 56, .pick (.t 53) (.t 55) (.k (.one (.pv (.bool false))))⟩,
   ⟨none, some 50, 50, .mv (.t 56)⟩])
 (.cond 50 (.seq (.reg [⟨none, some 57, 57, .mv (.t 0)⟩,
   ⟨none, some 58, 58, .mv (.t 1)⟩,
   ⟨none, some 59, 59, .bin .shr (.t 58) (.k (.one (.pv (.int .u64 18))))⟩,
   ⟨none, some 60, 60, .conv (.int .u8) (.t 59)⟩,
   ⟨none, some 61, 61, .bin .or (.k (.one (.pv (.int .u8 240)))) (.t 60)⟩,
   ⟨none, some 62, 62, .mv (.t 1)⟩,
   ⟨none, some 63, 63, .bin .shr (.t 62) (.k (.one (.pv (.int .u64 12))))⟩,
   ⟨none, some 64, 64, .conv (.int .u8) (.t 63)⟩,
   ⟨none, some 65, 65, .bin .and (.t 64) (.k (.one (.pv (.int .u8 63))))⟩,
   ⟨none, some 66, 66, .bin .or (.k (.one (.pv (.int .u8 128)))) (.t 65)⟩,
   ⟨none, some 67, 67, .mv (.t 1)⟩,
   ⟨none, some 68, 68, .bin .shr (.t 67) (.k (.one (.pv (.int .u64 6))))⟩,
   ⟨none, some 69, 69, .conv (.int .u8) (.t 68)⟩,
   ⟨none, some 70, 70, .bin .and (.t 69) (.k (.one (.pv (.int .u8 63))))⟩,
   ⟨none, some 71, 71, .bin .or (.k (.one (.pv (.int .u8 128)))) (.t 70)⟩,
   ⟨none, some 72, 72, .mv (.t 1)⟩,
   ⟨none, some 73, 73, .conv (.int .u8) (.t 72)⟩,
   ⟨none, some 74, 74, .bin .and (.t 73) (.k (.one (.pv (.int .u8 63))))⟩,
   ⟨none, some 75, 75, .bin .or (.k (.one (.pv (.int .u8 128)))) (.t 74)⟩,
   ⟨none, some 76, 76, .bslice 1 [(.t 61), (.t 66), (.t 71), (.t 75)]⟩,
   ⟨none, some 77, 77, .app 1 1 (.t 57) (.t 76)⟩,
   ⟨none, some 4, 4, .mv (.t 77)⟩])
 (.ret)) (.seq (.reg [⟨none, some 8, 8, .mv (.t 0)⟩,
   ⟨none, some 9, 9, .bslice 1 [(.k (.one (.pv (.int .u8 239)))), (.k (.one (.pv (.int .u8 191)))), (.k (.one (.pv (.int .u8 189))))]⟩,
   ⟨none, some 10, 10, .app 1 1 (.t 8) (.t 9)⟩,
   ⟨none, some 4, 4, .mv (.t 10)⟩])
 (.ret))))))))))⟩
abbrev C_u_appendRuneNonASCII (Te : Nat → List AV → Res → Prop) : Prop := ∀ (b : List UInt8) (m : Nat) (hb : b.length ≤ 2 ^ 30) (hm : 127 < m ∧ m ≤ 1114111 ∧ ¬ (55296 ≤ m ∧ m ≤ 57343)), Te 231 [.one (slT true 1 uR b), .one (.pv (.int .i32 m))] ⟨[.one (slT true 1 uR (b ++ enc8 m))], [[.no ()], [.pv (.int .i32 m)]]⟩
theorem r_u_appendRuneNonASCII {Te : Nat → List AV → Res → Prop} : ∀ (b : List UInt8) (m : Nat) (hb : b.length ≤ 2 ^ 30) (hm : 127 < m ∧ m ≤ 1114111 ∧ ¬ (55296 ≤ m ∧ m ≤ 57343)), RunFn Te x_u_appendRuneNonASCII [.one (slT true 1 uR b), .one (.pv (.int .i32 m))] ⟨[.one (slT true 1 uR (b ++ enc8 m))], [[.no ()], [.pv (.int .i32 m)]]⟩ := by
  intro b m hb hm
  refine ⟨by simp -implicitDefEqProofs only [x_u_appendRuneNonASCII, go_sem], ?_⟩
  obtain ⟨hq, h1, h2⟩ := hm
  replace hq : ¬ m ≤ 127 := by omega
  have w32 : IntKind.u32.wrap (m : Int) = (m : Int) := by rw [IntKind.wrap_u32]; omega
  have d6 : (m : Int).fdiv (2 ^ 6) = ((m / 64 : Nat) : Int) := fdivN m 64
  have d12 : (m : Int).fdiv (2 ^ 12) = ((m / 4096 : Nat) : Int) := fdivN m 4096
  have d18 : (m : Int).fdiv (2 ^ 18) = ((m / 262144 : Nat) : Int) := fdivN m 262144
  have n6 : Nat.min 6 32 = 6 := rfl
  have n12 : Nat.min 12 32 = 12 := rfl
  have n18 : Nat.min 18 32 = 18 := rfl
  have a0 : andK .u8 (((mkU (m : Int)).toNat : Nat) : Int) 63 = ((m % 64 : Nat) : Int) := by rw [mkU_toNat, and8 _ (by omega)]; omega
  have a6 : andK .u8 (((mkU ((m / 64 : Nat) : Int)).toNat : Nat) : Int) 63 = ((m / 64 % 64 : Nat) : Int) := by rw [mkU_toNat, and8 _ (by omega)]; omega
  have a12 : andK .u8 (((mkU ((m / 4096 : Nat) : Int)).toNat : Nat) : Int) 63 = ((m / 4096 % 64 : Nat) : Int) := by rw [mkU_toNat, and8 _ (by omega)]; omega
  have o0 : orK .u8 128 ((m % 64 : Nat) : Int) = ((UInt8.ofNat (128 + m % 64)).toNat : Int) := or8 128 6 2 rfl (by omega) (by omega)
  have o6 : orK .u8 128 ((m / 64 % 64 : Nat) : Int) = ((UInt8.ofNat (128 + m / 64 % 64)).toNat : Int) := or8 128 6 2 rfl (by omega) (by omega)
  have o12 : orK .u8 128 ((m / 4096 % 64 : Nat) : Int) = ((UInt8.ofNat (128 + m / 4096 % 64)).toNat : Int) := or8 128 6 2 rfl (by omega) (by omega)
  cases q2 : decide ((m : Int) ≤ 2047)
  · have hq2 : ¬ m ≤ 2047 := by simp only [decide_eq_false_iff_not] at q2; omega
    cases q3 : decide ((m : Int) ≤ 65535)
    · have hq3 : ¬ m ≤ 65535 := by simp only [decide_eq_false_iff_not] at q3; omega
      have t : orK .u8 240 (((mkU ((m / 262144 : Nat) : Int)).toNat : Nat) : Int) = ((UInt8.ofNat (240 + m / 262144)).toNat : Int) := by
        rw [mkU_toNat, Nat.mod_eq_of_lt (by omega)]; exact or8 240 3 30 rfl (by omega) (by omega)
      have ee : List.take (b.length + 4) (List.map uR b ++ [[uT (UInt8.ofNat (240 + m / 262144))], [uT (UInt8.ofNat (128 + m / 4096 % 64))], [uT (UInt8.ofNat (128 + m / 64 % 64))], [uT (UInt8.ofNat (128 + m % 64))]]) = List.map uR (b ++ enc8 m) := by
        rw [List.take_of_length_le (by simp)]
        simp only [enc8, if_neg hq, if_neg hq2, if_neg hq3, List.map_append, List.map_cons, List.map_nil]
      have c1 : decide ((m : Int) < 55296) = false := decide_eq_false (by omega)
      have c2 : decide ((57343 : Int) < (m : Int)) = true := decide_eq_true (by omega)
      have c3 : decide ((m : Int) > 65535) = true := decide_eq_true (by omega)
      have c4 : decide ((m : Int) ≤ 1114111) = true := decide_eq_true (by omega)
      simp -implicitDefEqProofs only [x_u_appendRuneNonASCII, go_sem, true_implies, false_implies, w32, q2, q3, c1, c2, c3, c4, n6, n12, n18, d6, d12, d18, mkU_wrap, a0, a6, a12, o0, o6, o12, t, ee]
      repeat (refine ⟨decide_eq_true (by omega), ?_⟩)
      try (exact decide_eq_true (by omega))
    · have hq3 : m ≤ 65535 := by simp only [decide_eq_true_eq] at q3; omega
      have t : orK .u8 224 (((mkU ((m / 4096 : Nat) : Int)).toNat : Nat) : Int) = ((UInt8.ofNat (224 + m / 4096)).toNat : Int) := by
        rw [mkU_toNat, Nat.mod_eq_of_lt (by omega)]; exact or8 224 4 14 rfl (by omega) (by omega)
      have ee : List.take (b.length + 3) (List.map uR b ++ [[uT (UInt8.ofNat (224 + m / 4096))], [uT (UInt8.ofNat (128 + m / 64 % 64))], [uT (UInt8.ofNat (128 + m % 64))]]) = List.map uR (b ++ enc8 m) := by
        rw [List.take_of_length_le (by simp)]
        simp only [enc8, if_neg hq, if_neg hq2, if_pos hq3, List.map_append, List.map_cons, List.map_nil]
      cases c1 : decide ((m : Int) < 55296)
      · have c2 : decide ((57343 : Int) < (m : Int)) = true := decide_eq_true (by simp only [decide_eq_false_iff_not] at c1; omega)
        simp -implicitDefEqProofs only [x_u_appendRuneNonASCII, go_sem, true_implies, false_implies, w32, q2, q3, c1, c2, n6, n12, d6, d12, mkU_wrap, a0, a6, o0, o6, t, ee]
        repeat (refine ⟨decide_eq_true (by omega), ?_⟩)
        try (exact decide_eq_true (by omega))
      · simp -implicitDefEqProofs only [x_u_appendRuneNonASCII, go_sem, true_implies, false_implies, w32, q2, q3, c1, n6, n12, d6, d12, mkU_wrap, a0, a6, o0, o6, t, ee]
        repeat (refine ⟨decide_eq_true (by omega), ?_⟩)
        try (exact decide_eq_true (by omega))
  · have hq2 : m ≤ 2047 := by simp only [decide_eq_true_eq] at q2; omega
    have t : orK .u8 192 (((mkU ((m / 64 : Nat) : Int)).toNat : Nat) : Int) = ((UInt8.ofNat (192 + m / 64)).toNat : Int) := by
      rw [mkU_toNat, Nat.mod_eq_of_lt (by omega)]; exact or8 192 6 3 rfl (by omega) (by omega)
    have ee : List.take (b.length + 2) (List.map uR b ++ [[uT (UInt8.ofNat (192 + m / 64))], [uT (UInt8.ofNat (128 + m % 64))]]) = List.map uR (b ++ enc8 m) := by
      rw [List.take_of_length_le (by simp)]
      simp only [enc8, if_neg hq, if_pos hq2, List.map_append, List.map_cons, List.map_nil]
    simp -implicitDefEqProofs only [x_u_appendRuneNonASCII, go_sem, true_implies, false_implies, w32, q2, n6, d6, mkU_wrap, a0, o0, t, ee]
    repeat (refine ⟨decide_eq_true (by omega), ?_⟩)
    try (exact decide_eq_true (by omega))
def x_u_AppendRune : FnX := ⟨16, [.tmp 4],
  .seq (.reg [⟨none, some 4, 4, .mv (.k (.one (.nils 1)))⟩])
 (.seq (.seq (.reg [⟨none, some 5, 5, .mv (.t 1)⟩,
   ⟨none, some 6, 6, .conv (.int .u32) (.t 5)⟩,
   ⟨none, some 7, 7, .bin .leq (.t 6) (.k (.one (.pv (.int .u32 127))))⟩])
 (.cond 7 (.seq (.reg [⟨none, some 8, 8, .mv (.t 0)⟩,
   ⟨none, some 9, 9, .mv (.t 1)⟩,
   ⟨none, some 10, 10, .conv (.int .u8) (.t 9)⟩,
   ⟨none, some 11, 11, .bslice 1 [(.t 10)]⟩,
   ⟨none, some 12, 12, .app 1 1 (.t 8) (.t 11)⟩,
   ⟨none, some 4, 4, .mv (.t 12)⟩])
 (.ret)) (.skip)))
 (.seq (.reg [⟨none, some 13, 13, .mv (.t 0)⟩,
   ⟨none, some 14, 14, .mv (.t 1)⟩,
   ⟨none, some 15, 15, .call 231 [1, 0] [(.t 13), (.t 14)]⟩,
   ⟨none, some 4, 4, .mv (.t 15)⟩])
 (.ret)))⟩
abbrev C_u_AppendRune (Te : Nat → List AV → Res → Prop) : Prop := ∀ (b : List UInt8) (m : Nat) (hb : b.length ≤ 2 ^ 30) (hm : m ≤ 1114111 ∧ ¬ (55296 ≤ m ∧ m ≤ 57343)), Te 205 [.one (slT true 1 uR b), .one (.pv (.int .i32 m))] ⟨[.one (slT true 1 uR (b ++ enc8 m))], [[.no ()], [.pv (.int .i32 m)]]⟩
theorem r_u_AppendRune {Te : Nat → List AV → Res → Prop} (c_u_appendRuneNonASCII : C_u_appendRuneNonASCII Te) : ∀ (b : List UInt8) (m : Nat) (hb : b.length ≤ 2 ^ 30) (hm : m ≤ 1114111 ∧ ¬ (55296 ≤ m ∧ m ≤ 57343)), RunFn Te x_u_AppendRune [.one (slT true 1 uR b), .one (.pv (.int .i32 m))] ⟨[.one (slT true 1 uR (b ++ enc8 m))], [[.no ()], [.pv (.int .i32 m)]]⟩ := by
  intro b m hb hm
  refine ⟨by simp -implicitDefEqProofs only [x_u_AppendRune, go_sem], ?_⟩
  have w32 : IntKind.u32.wrap (m : Int) = (m : Int) := by rw [IntKind.wrap_u32]; omega
  cases q : decide ((m : Int) ≤ 127)
  · have hq : ¬ m ≤ 127 := by simp only [decide_eq_false_iff_not] at q; omega
    simp -implicitDefEqProofs only [x_u_AppendRune, go_sem, true_implies, false_implies, w32, q]
    refine .of (c_u_appendRuneNonASCII b m hb ⟨by omega, hm⟩) ?_
    try simp -implicitDefEqProofs only [go_sem, true_implies, false_implies, List.length_append]
    repeat (refine ⟨decide_eq_true (by omega), ?_⟩)
    rw [← List.length_append, take_map]
  · have hq : m ≤ 127 := by simp only [decide_eq_true_eq] at q; omega
    have ee : List.take (b.length + 1) (List.map uR b ++ [[uT (mkU (m : Int))]]) = List.map uR (b ++ enc8 m) := by
      rw [List.take_of_length_le (by simp), mkU_nat]
      simp only [enc8, if_pos hq, List.map_append, List.map_cons, List.map_nil]
    simp -implicitDefEqProofs only [x_u_AppendRune, go_sem, true_implies, false_implies, w32, q, mkU_wrap, ee]
    repeat (refine ⟨decide_eq_true (by omega), ?_⟩)
    try (exact decide_eq_true (by omega))
def x_i_PutSign : FnX := ⟨17, [.tmp 4],
  .seq (.reg [⟨none, some 4, 4, .mv (.k (.one (.nils 1)))⟩])
 (.seq (.reg [⟨none, some 6, 6, .mv (.t 0)⟩,
   ⟨none, some 7, 7, .bslice 1 [(.t 6)]⟩,
   ⟨none, some 8, 8, .call 180 [0] [(.t 7)]⟩,
   ⟨none, some 5, 5, .mv (.t 8)⟩])
 (.seq (.seq (.reg [⟨none, some 9, 9, .mv (.t 1)⟩,
   ⟨none, some 10, 10, .call 204 [0] [(.t 9)]⟩,
   ⟨none, some 11, 11, .not (.t 10)⟩])
 (.cond 11 (.seq (.reg [⟨none, some 12, 12, .mv (.t 5)⟩,
   ⟨none, some 4, 4, .mv (.t 12)⟩])
 (.ret)) (.skip)))
 (.seq (.reg [⟨none, some 13, 13, .mv (.t 5)⟩,
   ⟨none, some 14, 14, .mv (.t 1)⟩,
   ⟨none, some 15, 15, .conv (.int .i32) (.t 14)⟩,
   ⟨none, some 16, 16, .call 205 [1, 0] [(.t 13), (.t 15)]⟩,
   ⟨none, some 4, 4, .mv (.t 16)⟩])
 (.ret))))⟩
abbrev C_i_PutSign (Te : Nat → List AV → Res → Prop) : Prop := ∀ (b : List UInt8) (n : Int) (hb : b.length ≤ 2 ^ 30), Te 165 [.one (slT false 1 uR b), .one (iT n)] ⟨[.one (slT true 1 uR (putSign b n))], [[slT false 1 uR b], [iT n]]⟩
theorem r_i_PutSign {Te : Nat → List AV → Res → Prop} (c_i_joined : C_i_joined Te) (c_i_SignOk : C_i_SignOk Te) (c_u_AppendRune : C_u_AppendRune Te) : ∀ (b : List UInt8) (n : Int) (hb : b.length ≤ 2 ^ 30), RunFn Te x_i_PutSign [.one (slT false 1 uR b), .one (iT n)] ⟨[.one (slT true 1 uR (putSign b n))], [[slT false 1 uR b], [iT n]]⟩ := by
  intro b n hb
  refine ⟨by simp -implicitDefEqProofs only [x_i_PutSign, go_sem], ?_⟩
  simp -implicitDefEqProofs only [x_i_PutSign, go_sem, true_implies, false_implies]
  refine .of (c_i_joined [b] (by rw [flat1]; omega) (by show 1 ≤ 2 ^ 31; decide)) ?_
  try simp -implicitDefEqProofs only [go_sem, true_implies, false_implies, flat1]
  refine .of (c_i_SignOk _) ?_
  try simp -implicitDefEqProofs only [go_sem, true_implies, false_implies]
  cases hn : signOk n
  · try simp -implicitDefEqProofs only [go_sem, true_implies, false_implies, putSign, hn, if_false, take_map]
    try rfl
  · obtain ⟨h0, h1, h2⟩ := signOk_in hn
    obtain ⟨m, rfl⟩ : ∃ m : Nat, n = m := ⟨n.toNat, by omega⟩
    have ep : putSign b (m : Int) = b ++ enc8 m := by simp only [putSign, hn, if_true, Int.toNat_natCast]
    have w : IntKind.i32.wrap (m : Int) = (m : Int) := by rw [IntWalk.i32_in _ (by omega)]
    try simp -implicitDefEqProofs only [go_sem, true_implies, false_implies, w, ep, take_map]
    refine .of (c_u_AppendRune b m hb ⟨by omega, by omega⟩) ?_
    try simp -implicitDefEqProofs only [go_sem, true_implies, false_implies, List.length_append]
    repeat (refine ⟨decide_eq_true (by omega), ?_⟩)
    rw [← List.length_append, take_map]
end Go.X

/- U -/
namespace Go.X
set_option maxRecDepth 100000
set_option maxHeartbeats 8000000
theorem rngOn_mk {s : List (Nat × SV)} {b : List (Nat × List Cel)} {r : List (Nat × List T)} {tc td p c : Nat} : rngOn ⟨s, b, r⟩ tc td p c = ⟨put (put s tc (.tup [.one (.pv (.bool true)), .one (.pv (.int .i64 p)), .one (.pv (.int .i32 c))])) td (.one (.pv (.bool true))), b, r⟩ := rfl
theorem rngOff_mk {s : List (Nat × SV)} {b : List (Nat × List Cel)} {r : List (Nat × List T)} {tc td : Nat} : rngOff ⟨s, b, r⟩ tc td = ⟨put (put s tc (.tup [.one (.pv (.bool false))])) td (.one (.pv (.bool false))), b, r⟩ := rfl
theorem rngIn_mk {s : List (Nat × SV)} {b : List (Nat × List Cel)} {r : List (Nat × List T)} {ta tb i : Nat} {x : ByteArray} : rngIn ⟨s, b, r⟩ ta tb i x = ⟨put (put s ta (.one (.pv (.string x)))) tb (itV i), b, r⟩ := rfl
/-- The sign at the head of bytes, and how many bytes it takes. -/
def signAt (l : List UInt8) : Option (Nat × Nat) := if (Lib.decodeL l).1 = 65533 ∧ (Lib.decodeL l).2 = 1 then none else some (Lib.decodeL l)
def getSign (b : List UInt8) (i : Int) : Int × Int × Bool := if 0 ≤ i ∧ i < b.length then (match signAt (b.drop i.toNat) with | some d => ((d.1 : Int), i + (d.2 : Nat), true) | none => (0, 0, false)) else (0, 0, false)
theorem getSign_no {b : List UInt8} {i : Int} (h : ¬ (0 ≤ i ∧ i < b.length)) : getSign b i = (0, 0, false) := if_neg h
theorem getSign_bad {b : List UInt8} {i : Int} (h : 0 ≤ i ∧ i < b.length) (hd : signAt (b.drop i.toNat) = none) : getSign b i = (0, 0, false) := by rw [getSign, if_pos h, hd]
theorem getSign_good {b : List UInt8} {i : Int} {d : Nat × Nat} (h : 0 ≤ i ∧ i < b.length) (hd : signAt (b.drop i.toNat) = some d) : getSign b i = ((d.1 : Int), i + (d.2 : Nat), true) := by rw [getSign, if_pos h, hd]
theorem decodeL_bound (l : List UInt8) : (Lib.decodeL l).1 ≤ 1114111 := by
  have h0 := (l.getD 0 0).toNat_lt
  have h1 := (l.getD 1 0).toNat_lt
  have h2 := (l.getD 2 0).toNat_lt
  have h3 := (l.getD 3 0).toNat_lt
  rw [Lib.decodeL_N]
  unfold Lib.decodeN
  repeat' split
  all_goals (simp only; omega)
theorem drop_map_take {α β : Type} (f : α → β) (l : List α) (k : Nat) : List.take (l.length - k) (List.drop k (l.map f)) = (l.drop k).map f := by
  rw [← List.map_drop, List.take_of_length_le (by simp)]
abbrev C_u_DecodeRune (Te : Nat → List AV → Res → Prop) : Prop := ∀ (l : List UInt8) (hl : l ≠ []), Te 226 [.one (slT false 1 uR l)] ⟨[.one (.pv (.int .i32 (Lib.decodeL l).1)), .one (iT (Lib.decodeL l).2)], [[slT false 1 uR l]]⟩
def x_i_GetSign : FnX := ⟨35, [.tmp 4, .tmp 5, .tmp 6],
  .seq (.reg [⟨none, some 4, 4, .mv (.k (.one (.pv (.int .i64 0))))⟩,
   ⟨none, some 5, 5, .mv (.k (.one (.pv (.int .i64 0))))⟩,
   ⟨none, some 6, 6, .mv (.k (.one (.pv (.bool false))))⟩])
 (.seq (.seq (.reg [⟨none, some 9, 9, .mv (.t 1)⟩,
   ⟨none, some 10, 10, .bin .lss (.t 9) (.k (.one (.pv (.int .i64 0))))⟩,
   ⟨none, some 11, 11, .mv (.t 10)⟩,
   ⟨(some (11, false)), some 12, 12, .mv (.t 1)⟩,
   ⟨(some (11, false)), some 13, 13, .mv (.t 0)⟩,
   ⟨(some (11, false)), some 14, 14, .len (.t 13)⟩,
   ⟨(some (11, false)), some 15, 15, .bin .geq (.t 12) (.t 14)⟩,
   ⟨none, some 16, 16, .pick (.t 11) (.k (.one (.pv (.bool true)))) (.t 15)⟩])
 (.cond 16 (.seq (.reg [⟨none, some 4, 4, .mv (.k (.one (.pv (.int .i64 0))))⟩,
   ⟨none, some 5, 5, .mv (.k (.one (.pv (.int .i64 0))))⟩,
   ⟨none, some 6, 6, .mv (.k (.one (.pv (.bool false))))⟩])
 (.ret)) (.skip)))
 (.seq (.reg [⟨none, some 18, 18, .mv (.t 0)⟩,
   ⟨none, some 19, 19, .mv (.t 1)⟩,
   ⟨none, some 20, 20, .slice 1 (.t 18) (some (.t 19)) none⟩,
   ⟨none, some 21, 21, .call 226 [0] [(.t 20)]⟩,
   ⟨none, some 17, 17, .mv (.t 21)⟩,
   ⟨none, some 22, 22, .ext (.t 17) 0⟩,
   ⟨none, some 23, 23, .ext (.t 17) 1⟩,
   ⟨none, some 7, 7, .mv (.t 22)⟩,
   ⟨none, some 8, 8, .mv (.t 23)⟩])
 (.seq (.seq (.reg [⟨none, some 24, 24, .mv (.t 7)⟩,
   ⟨none, some 25, 25, .bin .eql (.t 24) (.k (.one (.pv (.int .i32 65533))))⟩,
   ⟨none, some 26, 26, .mv (.t 25)⟩,
   ⟨(some (26, true)), some 27, 27, .mv (.t 8)⟩,
   ⟨(some (26, true)), some 28, 28, .bin .lss (.t 27) (.k (.one (.pv (.int .i64 2))))⟩,
   ⟨none, some 29, 29, .pick (.t 26) (.t 28) (.k (.one (.pv (.bool false))))⟩])
 (.cond 29 (.seq (.reg [⟨none, some 4, 4, .mv (.k (.one (.pv (.int .i64 0))))⟩,
   ⟨none, some 5, 5, .mv (.k (.one (.pv (.int .i64 0))))⟩,
   ⟨none, some 6, 6, .mv (.k (.one (.pv (.bool false))))⟩])
 (.ret)) (.skip)))
 (.seq (.reg [⟨none, some 30, 30, .mv (.t 7)⟩,
   ⟨none, some 31, 31, .conv (.int .i64) (.t 30)⟩,
   ⟨none, some 32, 32, .mv (.t 1)⟩,
   ⟨none, some 33, 33, .mv (.t 8)⟩,
   ⟨none, some 34, 34, .bin .add (.t 32) (.t 33)⟩,
   ⟨none, some 4, 4, .mv (.t 31)⟩,
   ⟨none, some 5, 5, .mv (.t 34)⟩,
   ⟨none, some 6, 6, .mv (.k (.one (.pv (.bool true))))⟩])
 (.ret)))))⟩
abbrev C_i_GetSign (Te : Nat → List AV → Res → Prop) : Prop := ∀ (b : List UInt8) (i : Int) (hb : b.length ≤ 2 ^ 40), Te 201 [.one (slT false 1 uR b), .one (iT i)] ⟨[.one (iT (getSign b i).1), .one (iT (getSign b i).2.1), .one (bT (getSign b i).2.2)], [[slT false 1 uR b], [iT i]]⟩
theorem r_i_GetSign {Te : Nat → List AV → Res → Prop} (c_u_DecodeRune : C_u_DecodeRune Te) : ∀ (b : List UInt8) (i : Int) (hb : b.length ≤ 2 ^ 40), RunFn Te x_i_GetSign [.one (slT false 1 uR b), .one (iT i)] ⟨[.one (iT (getSign b i).1), .one (iT (getSign b i).2.1), .one (bT (getSign b i).2.2)], [[slT false 1 uR b], [iT i]]⟩ := by
  intro b i hb
  refine ⟨by simp -implicitDefEqProofs only [x_i_GetSign, go_sem], ?_⟩
  cases q1 : decide (i < 0)
  · cases q2 : decide (i ≥ b.length)
    · have hi : 0 ≤ i ∧ i < b.length := by simp only [decide_eq_false_iff_not] at q1 q2; omega
      have hne : b.drop i.toNat ≠ [] := by
        intro e
        have := congrArg List.length e
        rw [List.length_drop] at this
        simp only [List.length_nil] at this
        omega
      simp -implicitDefEqProofs only [x_i_GetSign, go_sem, true_implies, false_implies, q1, q2, drop_map_take]
      repeat (refine ⟨decide_eq_true (by omega), ?_⟩)
      refine .of (c_u_DecodeRune (b.drop i.toNat) hne) ?_
      try simp -implicitDefEqProofs only [go_sem, true_implies, false_implies]
      have hw := Lib.decodeL_width (b.drop i.toNat)
      have hc := decodeL_bound (b.drop i.toNat)
      have hl := Lib.decodeL_le (b.drop i.toNat) hne
      have hld : (b.drop i.toNat).length ≤ b.length := by rw [List.length_drop]; omega
      by_cases hd : (Lib.decodeL (b.drop i.toNat)).1 = 65533 ∧ (Lib.decodeL (b.drop i.toNat)).2 = 1
      · have e1 : ((((Lib.decodeL (b.drop i.toNat)).1 : Nat) : Int) == 65533) = true := by rw [hd.1]; rfl
        have e2 : decide ((((Lib.decodeL (b.drop i.toNat)).2 : Nat) : Int) < 2) = true := by rw [hd.2]; rfl
        have e := getSign_bad hi (show signAt _ = none from if_pos hd)
        try simp -implicitDefEqProofs only [go_sem, true_implies, false_implies, e1, e2, e]
      · have e := getSign_good hi (show signAt _ = some _ from if_neg hd)
        have w1 : IntKind.i64.wrap (((Lib.decodeL (b.drop i.toNat)).1 : Nat) : Int) = ((Lib.decodeL (b.drop i.toNat)).1 : Nat) := IntWalk.i64_in _ (by omega)
        have w2 : IntKind.i64.wrap (i + (((Lib.decodeL (b.drop i.toNat)).2 : Nat) : Int)) = i + ((Lib.decodeL (b.drop i.toNat)).2 : Nat) := IntWalk.i64_in _ (by omega)
        cases e1 : ((((Lib.decodeL (b.drop i.toNat)).1 : Nat) : Int) == 65533)
        · try simp -implicitDefEqProofs only [go_sem, true_implies, false_implies, e1, e, w1, w2]
        · have e2 : decide ((((Lib.decodeL (b.drop i.toNat)).2 : Nat) : Int) < 2) = false := by
            refine decide_eq_false fun q => hd ⟨?_, by omega⟩
            have := eq_of_beq e1
            omega
          try simp -implicitDefEqProofs only [go_sem, true_implies, false_implies, e1, e2, e, w1, w2]
    · have e := getSign_no (b := b) (i := i) (by simp only [decide_eq_true_eq] at q2; omega)
      simp -implicitDefEqProofs only [x_i_GetSign, go_sem, true_implies, false_implies, q1, q2, e]
  · have e := getSign_no (b := b) (i := i) (by simp only [decide_eq_true_eq] at q1; omega)
    simp -implicitDefEqProofs only [x_i_GetSign, go_sem, true_implies, false_implies, q1, e]
end Go.X

/- V -/
namespace Go.X
set_option maxRecDepth 100000
set_option maxHeartbeats 8000000
def l2len (b : Nat) : Nat := if b < 128 then 1 else if 194 ≤ b ∧ b ≤ 223 then 2 else if 224 ≤ b ∧ b ≤ 239 then 3 else if 240 ≤ b ∧ b ≤ 244 then 4 else 0
def byteN (l : List UInt8) (k : Nat) : Nat := (l.getD k 0).toNat
theorem byteN_lt (l : List UInt8) (k : Nat) : byteN l k < 256 := (l.getD k 0).toNat_lt
def accN (l : List UInt8) (m : Nat) : Nat → Nat
  | 0 => m
  | j + 1 => accN l m j * 64 + byteN l (j + 1) % 64
theorem decodeL_B (l : List UInt8) : Lib.decodeL l = Lib.decodeN l.length (byteN l 0) (byteN l 1) (byteN l 2) (byteN l 3) := Lib.decodeL_N l
theorem sign_none {l : List UInt8} (h : Lib.decodeN l.length (byteN l 0) (byteN l 1) (byteN l 2) (byteN l 3) = (65533, 1)) : signAt l = none := by
  unfold signAt
  rw [decodeL_B, h]
  exact if_pos ⟨rfl, rfl⟩
theorem sign_some {l : List UInt8} {n k : Nat} (h : Lib.decodeN l.length (byteN l 0) (byteN l 1) (byteN l 2) (byteN l 3) = (n, k)) (hk : k ≠ 1 ∨ n < 128) : signAt l = some (n, k) := by
  unfold signAt
  rw [decodeL_B, h]
  exact if_neg (by simp only; omega)
theorem sign0 {l : List UInt8} (h : l2len (byteN l 0) = 0 ∨ l.length < l2len (byteN l 0)) (hl : 0 < l.length) : signAt l = none := by
  have h0 := byteN_lt l 0
  refine sign_none ?_
  unfold l2len at h
  unfold Lib.decodeN
  repeat' split at h
  all_goals (repeat' split)
  all_goals first | rfl | (exfalso; omega)
theorem sign1 {l : List UInt8} (hl : 0 < l.length) (h : byteN l 0 < 128) : signAt l = some (byteN l 0, 1) := by
  refine sign_some ?_ (.inr h)
  unfold Lib.decodeN
  rw [if_pos h]
theorem sign2 {l : List UInt8} (hl : 2 ≤ l.length) (h : 194 ≤ byteN l 0 ∧ byteN l 0 ≤ 223) : signAt l = if byteN l 1 / 64 = 2 then some (byteN l 0 % 32 * 64 + byteN l 1 % 64, 2) else none := by
  have h1 := byteN_lt l 1
  split
  · refine sign_some ?_ (.inl (by decide))
    unfold Lib.decodeN
    repeat' split
    all_goals first | rfl | (exfalso; omega)
  · refine sign_none ?_
    unfold Lib.decodeN
    repeat' split
    all_goals first | rfl | (exfalso; omega)
theorem sign3 {l : List UInt8} (hl : 3 ≤ l.length) (h : 224 ≤ byteN l 0 ∧ byteN l 0 ≤ 239) : signAt l = if byteN l 1 / 64 = 2 ∧ byteN l 2 / 64 = 2 ∧ 2048 ≤ byteN l 0 % 16 * 4096 + byteN l 1 % 64 * 64 + byteN l 2 % 64 ∧ ¬ (55296 ≤ byteN l 0 % 16 * 4096 + byteN l 1 % 64 * 64 + byteN l 2 % 64 ∧ byteN l 0 % 16 * 4096 + byteN l 1 % 64 * 64 + byteN l 2 % 64 ≤ 57343) then some (byteN l 0 % 16 * 4096 + byteN l 1 % 64 * 64 + byteN l 2 % 64, 3) else none := by
  have h1 := byteN_lt l 1
  have h2 := byteN_lt l 2
  split
  · refine sign_some ?_ (.inl (by decide))
    unfold Lib.decodeN
    repeat' split
    all_goals first | rfl | (exfalso; omega)
  · refine sign_none ?_
    unfold Lib.decodeN
    repeat' split
    all_goals first | rfl | (exfalso; omega)
theorem sign4 {l : List UInt8} (hl : 4 ≤ l.length) (h : 240 ≤ byteN l 0 ∧ byteN l 0 ≤ 244) : signAt l = if byteN l 1 / 64 = 2 ∧ byteN l 2 / 64 = 2 ∧ byteN l 3 / 64 = 2 ∧ 65536 ≤ byteN l 0 % 8 * 262144 + byteN l 1 % 64 * 4096 + byteN l 2 % 64 * 64 + byteN l 3 % 64 ∧ byteN l 0 % 8 * 262144 + byteN l 1 % 64 * 4096 + byteN l 2 % 64 * 64 + byteN l 3 % 64 ≤ 1114111 then some (byteN l 0 % 8 * 262144 + byteN l 1 % 64 * 4096 + byteN l 2 % 64 * 64 + byteN l 3 % 64, 4) else none := by
  have h1 := byteN_lt l 1
  have h2 := byteN_lt l 2
  have h3 := byteN_lt l 3
  split
  · refine sign_some ?_ (.inl (by decide))
    unfold Lib.decodeN
    repeat' split
    all_goals first | rfl | (exfalso; omega)
  · refine sign_none ?_
    unfold Lib.decodeN
    repeat' split
    all_goals first | rfl | (exfalso; omega)
theorem ofNat_eq {n : Nat} {b : UInt8} (h : n = b.toNat) : UInt8.ofNat n = b := by subst h; exact UInt8.ofNat_toNat
theorem four {l : List UInt8} (h : 4 ≤ l.length) : ∃ a b c d u, l = a :: b :: c :: d :: u := by
  match l, h with
  | a :: b :: c :: d :: u, _ => exact ⟨a, b, c, d, u, rfl⟩
/-- Whether a sign's bytes are those at the head. -/
theorem enc_take {l : List UInt8} {n k : Nat} (hk : k ≤ l.length) (h : signAt l = some (n, k)) : enc8 n = l.take k ∧ signOk n = true := by
  unfold signAt at h
  split at h
  · cases h
  · rename_i hv
    simp only [Option.some.injEq] at h
    rw [decodeL_B] at h hv
    have b0 := byteN_lt l 0
    have b1 := byteN_lt l 1
    have b2 := byteN_lt l 2
    have b3 := byteN_lt l 3
    have hok : ∀ n : Nat, n ≤ 1114111 → ¬ (55296 ≤ n ∧ n ≤ 57343) → signOk (n : Int) = true := fun n h1 h2 => by
      have e1 : win (n : Int) 0 1114111 = true := by simp only [win, Bool.and_eq_true, decide_eq_true_eq]; omega
      have e2 : win (n : Int) 55296 57343 = false := by
        simp only [win, Bool.and_eq_false_iff, decide_eq_false_iff_not]
        omega
      simp only [signOk, e1, e2, Bool.not_false, Bool.and_true]
    unfold Lib.decodeN at h hv
    split at h
    · rename_i c0
      cases h
      refine ⟨?_, hok _ (by omega) (by omega)⟩
      match l, hk with
      | a :: t, _ =>
        have c0' : a.toNat < 128 := c0
        simp only [enc8, byteN, List.getD_cons_zero]
        rw [if_pos (by omega)]
        simp only [List.take_succ_cons, List.take_zero]
        rw [ofNat_eq rfl]
    · rename_i c0
      rw [if_neg c0] at hv
      split at h
      · rename_i c1
        rw [if_pos c1] at hv
        split at h
        · rename_i c2
          cases h
          refine ⟨?_, hok _ (by omega) (by omega)⟩
          match l, hk with
          | a :: b :: t, _ =>
            simp only [byteN, List.getD_cons_zero, List.getD_cons_succ] at c0 c1 c2 b0 b1 ⊢
            simp only [enc8]
            rw [if_neg (by omega), if_pos (by omega), ofNat_eq (b := a) (by omega), ofNat_eq (b := b) (by omega)]
            rfl
        · rename_i c2
          rw [if_neg c2] at hv
          exact absurd ⟨rfl, rfl⟩ hv
      · rename_i c1
        rw [if_neg c1] at hv
        split at h
        · rename_i c3
          rw [if_pos c3] at hv
          split at h
          · rename_i c4
            cases h
            refine ⟨?_, hok _ (by omega) (by omega)⟩
            match l, hk with
            | a :: b :: c :: t, _ =>
              simp only [byteN, List.getD_cons_zero, List.getD_cons_succ] at c0 c1 c3 c4 b0 b1 b2 ⊢
              simp only [enc8]
              rw [if_neg (by omega), if_neg (by omega), if_pos (by omega), ofNat_eq (b := a) (by omega), ofNat_eq (b := b) (by omega), ofNat_eq (b := c) (by omega)]
              rfl
          · rename_i c4
            rw [if_neg c4] at hv
            exact absurd ⟨rfl, rfl⟩ hv
        · rename_i c3
          rw [if_neg c3] at hv
          split at h
          · rename_i c5
            rw [if_pos c5] at hv
            split at h
            · rename_i c6
              have e1 := congrArg Prod.fst h
              have e2 := congrArg Prod.snd h
              simp only at e1 e2
              subst e2
              subst e1
              refine ⟨?_, hok _ (by omega) (by omega)⟩
              obtain ⟨a, b, c, d, u, rfl⟩ : ∃ a b c d u, l = a :: b :: c :: d :: u := four hk
              clear hv h hk hok
              simp only [byteN, List.getD_cons_zero, List.getD_cons_succ] at c0 c1 c3 c5 c6 b0 b1 b2 b3 ⊢
              simp only [enc8]
              rw [if_neg (by omega), if_neg (by omega), if_neg (by omega), ofNat_eq (b := a) (by omega), ofNat_eq (b := b) (by omega), ofNat_eq (b := c) (by omega), ofNat_eq (b := d) (by omega)]
              rfl
            · rename_i c6
              rw [if_neg c6] at hv
              exact absurd ⟨rfl, rfl⟩ hv
          · rename_i c5
            rw [if_neg c5] at hv
            exact absurd ⟨rfl, rfl⟩ hv
def x_s_l2Len : FnX := ⟨18, [.tmp 2],
  .seq (.reg [⟨none, some 2, 2, .mv (.k (.one (.pv (.int .i64 0))))⟩])
 (.seq (.block 0 (.seq (.reg [⟨none, some 4, 4, .mv (.t 0)⟩,
   ⟨none, some 5, 5, .bin .lss (.t 4) (.k (.one (.pv (.int .u8 128))))⟩,
   ⟨none, some 3, 3, .mv (.t 5)⟩])
 (.cond 3 (.seq (.reg [⟨none, some 2, 2, .mv (.k (.one (.pv (.int .i64 1))))⟩])
 (.ret)) (.seq (.reg [⟨none, some 7, 7, .mv (.t 0)⟩,
   ⟨none, some 8, 8, .conv (.int .i64) (.t 7)⟩,
   ⟨none, some 9, 9, .call 29 [0, 0, 0] [(.t 8), (.k (.one (.pv (.int .i64 194)))), (.k (.one (.pv (.int .i64 223))))]⟩,
   ⟨none, some 6, 6, .mv (.t 9)⟩])
 (.cond 6 (.seq (.reg [⟨none, some 2, 2, .mv (.k (.one (.pv (.int .i64 2))))⟩])
 (.ret)) (.seq (.reg [⟨none, some 11, 11, .mv (.t 0)⟩,
   ⟨none, some 12, 12, .conv (.int .i64) (.t 11)⟩,
   ⟨none, some 13, 13, .call 29 [0, 0, 0] [(.t 12), (.k (.one (.pv (.int .i64 224)))), (.k (.one (.pv (.int .i64 239))))]⟩,
   ⟨none, some 10, 10, .mv (.t 13)⟩])
 (.cond 10 (.seq (.reg [⟨none, some 2, 2, .mv (.k (.one (.pv (.int .i64 3))))⟩])
 (.ret)) (.seq (.reg [⟨none, some 15, 15, .mv (.t 0)⟩,
   ⟨none, some 16, 16, .conv (.int .i64) (.t 15)⟩,
   ⟨none, some 17, 17, .call 29 [0, 0, 0] [(.t 16), (.k (.one (.pv (.int .i64 240)))), (.k (.one (.pv (.int .i64 244))))]⟩,
   ⟨none, some 14, 14, .mv (.t 17)⟩])
 (.cond 14 (.seq (.reg [⟨none, some 2, 2, .mv (.k (.one (.pv (.int .i64 4))))⟩])
 (.ret)) (.skip))))))))))
 (.seq (.reg [⟨none, some 2, 2, .mv (.k (.one (.pv (.int .i64 0))))⟩])
 (.ret)))⟩
abbrev C_s_l2Len (Te : Nat → List AV → Res → Prop) : Prop := ∀ (b : UInt8), Te 221 [.one (uT b)] ⟨[.one (iT (l2len b.toNat))], [[uT b]]⟩
theorem r_s_l2Len {Te : Nat → List AV → Res → Prop} (c_s_l1In : C_s_l1In Te) : ∀ (b : UInt8), RunFn Te x_s_l2Len [.one (uT b)] ⟨[.one (iT (l2len b.toNat))], [[uT b]]⟩ := by
  intro b
  refine ⟨by simp -implicitDefEqProofs only [x_s_l2Len, go_sem], ?_⟩
  have hb := b.toNat_lt
  have w : IntKind.i64.wrap (b.toNat : Int) = (b.toNat : Int) := IntWalk.i64_in _ (by omega)
  cases q1 : decide ((b.toNat : Int) < 128)
  · simp only [decide_eq_false_iff_not] at q1
    have q1' := decide_eq_false q1
    simp -implicitDefEqProofs only [x_s_l2Len, go_sem, true_implies, false_implies, q1', w]
    refine .of (c_s_l1In _ _ _) ?_
    try simp -implicitDefEqProofs only [go_sem, true_implies, false_implies]
    cases q2 : win (b.toNat : Int) 194 223
    · try simp -implicitDefEqProofs only [go_sem, true_implies, false_implies, w]
      refine .of (c_s_l1In _ _ _) ?_
      try simp -implicitDefEqProofs only [go_sem, true_implies, false_implies]
      cases q3 : win (b.toNat : Int) 224 239
      · try simp -implicitDefEqProofs only [go_sem, true_implies, false_implies, w]
        refine .of (c_s_l1In _ _ _) ?_
        try simp -implicitDefEqProofs only [go_sem, true_implies, false_implies]
        cases q4 : win (b.toNat : Int) 240 244
        · have e : l2len b.toNat = 0 := by
            simp only [win, Bool.and_eq_false_imp, decide_eq_true_eq, decide_eq_false_iff_not] at q2 q3 q4
            unfold l2len
            rw [if_neg (by omega), if_neg (by omega), if_neg (by omega), if_neg (by omega)]
          try simp -implicitDefEqProofs only [go_sem, true_implies, false_implies, e]
          try rfl
        · have e : l2len b.toNat = 4 := by
            simp only [win, Bool.and_eq_true, decide_eq_true_eq] at q4
            unfold l2len
            rw [if_neg (by omega), if_neg (by omega), if_neg (by omega), if_pos (by omega)]
          try simp -implicitDefEqProofs only [go_sem, true_implies, false_implies, e]
          try rfl
      · have e : l2len b.toNat = 3 := by
          simp only [win, Bool.and_eq_true, decide_eq_true_eq] at q3
          unfold l2len
          rw [if_neg (by omega), if_neg (by omega), if_pos (by omega)]
        try simp -implicitDefEqProofs only [go_sem, true_implies, false_implies, e]
        try rfl
    · have e : l2len b.toNat = 2 := by
        simp only [win, Bool.and_eq_true, decide_eq_true_eq] at q2
        unfold l2len
        rw [if_neg (by omega), if_pos (by omega)]
      try simp -implicitDefEqProofs only [go_sem, true_implies, false_implies, e]
      try rfl
  · simp only [decide_eq_true_eq] at q1
    have q1' := decide_eq_true q1
    have e : l2len b.toNat = 1 := if_pos (by omega)
    simp -implicitDefEqProofs only [x_s_l2Len, go_sem, true_implies, false_implies, q1', e]
    try rfl
end Go.X

/- Va -/
namespace Go.X
set_option maxRecDepth 100000
set_option maxHeartbeats 8000000
def contB (l : List UInt8) : Nat → Bool
  | 0 => true
  | j + 1 => contB l j && (byteN l (j + 1) / 64 == 2)
theorem and192_all : ∀ m : Fin 256, (m.val &&& 192 == 128) = (m.val / 64 == 2) := by decide
theorem and192 (m : Nat) (hm : m < 256) : (andK .u8 (m : Int) 192 != 128) = !(m / 64 == 2) := by
  have h1 : (BitVec.ofInt 8 (m : Int)).toNat = m := by rw [BitVec.toNat_ofInt]; omega
  have h2 : (BitVec.ofInt 8 192).toNat = 192 := by decide
  have h3 := and192_all ⟨m, hm⟩
  simp only at h3
  have h4 : m &&& 192 < 256 := Nat.lt_of_le_of_lt Nat.and_le_right (by decide)
  rw [andK_def, show IntKind.u8.bits = 8 from rfl, BitVec.toNat_and, h1, h2, IntKind.wrap_u8, ← h3, bne]
  congr 1
  rw [Bool.eq_iff_iff, beq_iff_eq, beq_iff_eq]
  omega
theorem or_acc (a x : Nat) (ha : a < 2 ^ 40) (hx : x < 64) : orK .i64 ((a * 64 : Nat) : Int) (x : Int) = ((a * 64 + x : Nat) : Int) := by
  rw [or_nat _ _ (by omega) (by omega), Nat.mul_comm a 64, show 64 * a = 2 ^ 6 * a from rfl, Nat.two_pow_add_eq_or_of_lt (i := 6) (by omega)]
theorem accN_lt (l : List UInt8) {m : Nat} (hm : m < 256) : ∀ j, accN l m j < 256 * 64 ^ j
  | 0 => by simpa [accN] using hm
  | j + 1 => by
    have := accN_lt l hm j
    simp only [accN]
    rw [Nat.pow_succ]
    omega
theorem accN_small (l : List UInt8) {m j : Nat} (hm : m < 256) (hj : j ≤ 3) : accN l m j < 2 ^ 28 := by
  have h := accN_lt l hm j
  have : 64 ^ j ≤ 64 ^ 3 := Nat.pow_le_pow_right (by decide) hj
  omega
theorem bytesOf_uR (l : List UInt8) : bytesOf (l.map uR) = l := by
  simp only [bytesOf, List.map_map, Function.comp_def, List.headD_cons, byteOf]
  conv => rhs; rw [← List.map_id l]
  refine List.map_congr_left fun a _ => ?_
  simp
theorem areBytes_uR : ∀ l : List UInt8, areBytes (l.map uR) = true
  | [] => rfl
  | a :: l => by simp only [List.map_cons, areBytes, isByte, areBytes_uR l, Bool.and_true]
def signTail (l : List UInt8) (i : Int) (K m : Nat) : Int × Int × Bool := if (contB l (K - 1) && signOk (accN l m (K - 1) : Nat) && decide (enc8 (accN l m (K - 1)) = l.take K)) = true then (((accN l m (K - 1) : Nat) : Int), i + (K : Nat), true) else (0, 0, false)
theorem tail_no {l : List UInt8} {i : Int} {K m : Nat} (h : (contB l (K - 1) && signOk (accN l m (K - 1) : Nat) && decide (enc8 (accN l m (K - 1)) = l.take K)) = false) : signTail l i K m = (0, 0, false) := if_neg (by rw [h]; decide)
theorem contB_down (l : List UInt8) : ∀ {j k : Nat}, j ≤ k → contB l j = false → contB l k = false
  | j, 0, h, e => by have : j = 0 := by omega
                     subst this; exact e
  | j, k + 1, h, e => by
    by_cases q : j = k + 1
    · subst q; exact e
    · simp only [contB, contB_down l (show j ≤ k by omega) e, Bool.false_and]
theorem tail_some {l : List UInt8} {i : Int} {K m n : Nat} (hl : K ≤ l.length) (h : signAt l = some (n, K)) (hc : contB l (K - 1) = true) (ha : accN l m (K - 1) = n) : signTail l i K m = ((n : Int), i + (K : Nat), true) := by
  obtain ⟨h1, h2⟩ := enc_take hl h
  unfold signTail
  rw [ha, if_pos (by rw [hc, h2, decide_eq_true h1]; rfl)]
theorem signOk_no {n : Nat} (h : n > 1114111 ∨ (55296 ≤ n ∧ n ≤ 57343)) : signOk (n : Int) = false := by
  cases g : signOk (n : Int)
  · rfl
  · obtain ⟨h0, h1, h2⟩ := signOk_in g
    omega
theorem enc8_short {n K : Nat} (h : n < 2048 ∧ 3 ≤ K ∨ n < 65536 ∧ 4 ≤ K) {l : List UInt8} (hl : K ≤ l.length) : decide (enc8 n = l.take K) = false := by
  refine decide_eq_false fun e => ?_
  have e2 := congrArg List.length e
  rw [List.length_take, Nat.min_eq_left hl] at e2
  unfold enc8 at e2
  revert e2
  repeat' split
  all_goals simp only [List.length_cons, List.length_nil]
  all_goals omega
def getTail (l : List UInt8) (i : Int) : Int × Int × Bool := match signAt l with | some d => ((d.1 : Int), i + (d.2 : Nat), true) | none => (0, 0, false)
theorem getTail_some {l : List UInt8} {i : Int} {d : Nat × Nat} (h : signAt l = some d) : getTail l i = ((d.1 : Int), i + (d.2 : Nat), true) := by rw [getTail, h]
theorem getTail_none {l : List UInt8} {i : Int} (h : signAt l = none) : getTail l i = (0, 0, false) := by rw [getTail, h]
theorem tail1 {l : List UInt8} (i : Int) (hl : 1 ≤ l.length) (h : byteN l 0 < 128) : getTail l i = signTail l i 1 (byteN l 0) := by
  have hs := sign1 (by omega) h
  exact (getTail_some hs).trans (tail_some hl hs rfl rfl).symm
theorem tail2 {l : List UInt8} (i : Int) (hl : 2 ≤ l.length) (h : 194 ≤ byteN l 0 ∧ byteN l 0 ≤ 223) : getTail l i = signTail l i 2 (byteN l 0 % 32) := by
  have hs := sign2 hl h
  by_cases c : byteN l 1 / 64 = 2
  · rw [if_pos c] at hs
    exact (getTail_some hs).trans (tail_some hl hs (by simp only [contB, c]; rfl) rfl).symm
  · rw [if_neg c] at hs
    rw [getTail_none hs, tail_no]
    simp only [contB, beq_eq_false_iff_ne.2 c, Bool.and_false, Bool.false_and]
theorem tail3 {l : List UInt8} (i : Int) (hl : 3 ≤ l.length) (h : 224 ≤ byteN l 0 ∧ byteN l 0 ≤ 239) : getTail l i = signTail l i 3 (byteN l 0 % 16) := by
  have hs := sign3 hl h
  have ea : accN l (byteN l 0 % 16) 2 = byteN l 0 % 16 * 4096 + byteN l 1 % 64 * 64 + byteN l 2 % 64 := by
    show (byteN l 0 % 16 * 64 + byteN l 1 % 64) * 64 + byteN l 2 % 64 = _
    omega
  generalize hn : byteN l 0 % 16 * 4096 + byteN l 1 % 64 * 64 + byteN l 2 % 64 = n at hs ea
  by_cases c1 : byteN l 1 / 64 = 2
  · by_cases c2 : byteN l 2 / 64 = 2
    · have hc : contB l 2 = true := by simp only [contB, c1, c2]; rfl
      by_cases c3 : 2048 ≤ n ∧ ¬ (55296 ≤ n ∧ n ≤ 57343)
      · rw [if_pos ⟨c1, c2, c3⟩] at hs
        exact (getTail_some hs).trans (tail_some hl hs hc ea).symm
      · rw [if_neg (fun q => c3 q.2.2)] at hs
        rw [getTail_none hs, tail_no]
        show (contB l 2 && signOk (accN l (byteN l 0 % 16) 2 : Nat) && decide (enc8 (accN l (byteN l 0 % 16) 2) = l.take 3)) = false
        rw [ea]
        by_cases c4 : n < 2048
        · rw [enc8_short (.inl ⟨c4, by decide⟩) hl, Bool.and_false]
        · rw [signOk_no (.inr (by omega)), Bool.and_false, Bool.false_and]
    · rw [if_neg (fun q => c2 q.2.1)] at hs
      rw [getTail_none hs, tail_no]
      simp only [contB, beq_eq_false_iff_ne.2 c2, Bool.and_false, Bool.false_and]
  · rw [if_neg (fun q => c1 q.1)] at hs
    rw [getTail_none hs, tail_no]
    simp only [contB, beq_eq_false_iff_ne.2 c1, Bool.and_false, Bool.false_and]
theorem tail4 {l : List UInt8} (i : Int) (hl : 4 ≤ l.length) (h : 240 ≤ byteN l 0 ∧ byteN l 0 ≤ 244) : getTail l i = signTail l i 4 (byteN l 0 % 8) := by
  have hs := sign4 hl h
  have ea : accN l (byteN l 0 % 8) 3 = byteN l 0 % 8 * 262144 + byteN l 1 % 64 * 4096 + byteN l 2 % 64 * 64 + byteN l 3 % 64 := by
    show ((byteN l 0 % 8 * 64 + byteN l 1 % 64) * 64 + byteN l 2 % 64) * 64 + byteN l 3 % 64 = _
    omega
  generalize hn : byteN l 0 % 8 * 262144 + byteN l 1 % 64 * 4096 + byteN l 2 % 64 * 64 + byteN l 3 % 64 = n at hs ea
  by_cases c1 : byteN l 1 / 64 = 2
  · by_cases c2 : byteN l 2 / 64 = 2
    · by_cases c3 : byteN l 3 / 64 = 2
      · have hc : contB l 3 = true := by simp only [contB, c1, c2, c3]; rfl
        by_cases c4 : 65536 ≤ n ∧ n ≤ 1114111
        · rw [if_pos ⟨c1, c2, c3, c4⟩] at hs
          exact (getTail_some hs).trans (tail_some hl hs hc ea).symm
        · rw [if_neg (fun q => c4 q.2.2.2)] at hs
          rw [getTail_none hs, tail_no]
          show (contB l 3 && signOk (accN l (byteN l 0 % 8) 3 : Nat) && decide (enc8 (accN l (byteN l 0 % 8) 3) = l.take 4)) = false
          rw [ea]
          by_cases c5 : n < 65536
          · rw [enc8_short (.inr ⟨c5, by decide⟩) hl, Bool.and_false]
          · rw [signOk_no (.inl (by omega)), Bool.and_false, Bool.false_and]
      · rw [if_neg (fun q => c3 q.2.2.1)] at hs
        rw [getTail_none hs, tail_no]
        simp only [contB, beq_eq_false_iff_ne.2 c3, Bool.and_false, Bool.false_and]
    · rw [if_neg (fun q => c2 q.2.1)] at hs
      rw [getTail_none hs, tail_no]
      simp only [contB, beq_eq_false_iff_ne.2 c2, Bool.and_false, Bool.false_and]
  · rw [if_neg (fun q => c1 q.1)] at hs
    rw [getTail_none hs, tail_no]
    simp only [contB, beq_eq_false_iff_ne.2 c1, Bool.and_false, Bool.false_and]
theorem and_mask (m j : Nat) (hm : m < 256) (hj : j ≤ 8) : andK .i64 (m : Int) ((2 ^ j - 1 : Nat) : Int) = ((m % 2 ^ j : Nat) : Int) := by
  have : 2 ^ j ≤ 2 ^ 8 := Nat.pow_le_pow_right (by decide) hj
  rw [and_nat _ _ (by omega) (by omega), Nat.and_two_pow_sub_one_eq_mod]
theorem l2len_in (x : Nat) (h : l2len x ≠ 0) : (l2len x = 1 ∧ x < 128) ∨ (l2len x = 2 ∧ 194 ≤ x ∧ x ≤ 223) ∨ (l2len x = 3 ∧ 224 ≤ x ∧ x ≤ 239) ∨ (l2len x = 4 ∧ 240 ≤ x ∧ x ≤ 244) := by
  by_cases h1 : x < 128
  · exact .inl ⟨if_pos h1, h1⟩
  by_cases h2 : 194 ≤ x ∧ x ≤ 223
  · exact .inr (.inl ⟨by rw [l2len, if_neg h1, if_pos h2], h2⟩)
  by_cases h3 : 224 ≤ x ∧ x ≤ 239
  · exact .inr (.inr (.inl ⟨by rw [l2len, if_neg h1, if_neg h2, if_pos h3], h3⟩))
  by_cases h4 : 240 ≤ x ∧ x ≤ 244
  · exact .inr (.inr (.inr ⟨by rw [l2len, if_neg h1, if_neg h2, if_neg h3, if_pos h4], h4⟩))
  exact absurd (by rw [l2len, if_neg h1, if_neg h2, if_neg h3, if_neg h4]) h
def x_s_GetSign_1 : XCode := .seq (.seq (.reg [⟨none, some 9, 9, .mv (.k (.one (.pv (.int .i64 1))))⟩])
 (.block 0 (.loop [0, 1, 7, 8, 9] (.seq (.seq (.reg [⟨none, some 43, 43, .mv (.t 9)⟩,
   ⟨none, some 44, 44, .mv (.t 7)⟩,
   ⟨none, some 45, 45, .bin .lss (.t 43) (.t 44)⟩])
 (.cond 45 (.skip) (.exit 0)))
 (.seq (.block 1 (.seq (.seq (.reg [⟨none, some 48, 48, .mv (.t 0)⟩,
   ⟨none, some 49, 49, .mv (.t 1)⟩,
   ⟨none, some 50, 50, .mv (.t 9)⟩,
   ⟨none, some 51, 51, .bin .add (.t 49) (.t 50)⟩,
   ⟨none, some 52, 52, .iaddr 1 (.t 48) (.t 51)⟩,
   ⟨none, some 53, 53, .load none (.t 52)⟩,
   ⟨none, some 54, 54, .bin .and (.t 53) (.k (.one (.pv (.int .u8 192))))⟩,
   ⟨none, some 55, 55, .bin .neq (.t 54) (.k (.one (.pv (.int .u8 128))))⟩])
 (.cond 55 (.seq (.reg [⟨none, some 4, 4, .mv (.k (.one (.pv (.int .i64 0))))⟩,
   ⟨none, some 5, 5, .mv (.k (.one (.pv (.int .i64 0))))⟩,
   ⟨none, some 6, 6, .mv (.k (.one (.pv (.bool false))))⟩])
 (.ret)) (.skip)))
 (.reg [⟨none, some 56, 56, .mv (.t 8)⟩,
   ⟨none, some 57, 57, .bin .shl (.t 56) (.k (.one (.pv (.int .u64 6))))⟩,
   ⟨none, some 58, 58, .mv (.t 0)⟩,
   ⟨none, some 59, 59, .mv (.t 1)⟩,
   ⟨none, some 60, 60, .mv (.t 9)⟩,
   ⟨none, some 61, 61, .bin .add (.t 59) (.t 60)⟩,
   ⟨none, some 62, 62, .iaddr 1 (.t 58) (.t 61)⟩,
   ⟨none, some 63, 63, .load none (.t 62)⟩,
   ⟨none, some 64, 64, .bin .and (.t 63) (.k (.one (.pv (.int .u8 63))))⟩,
   ⟨none, some 65, 65, .conv (.int .i64) (.t 64)⟩,
   ⟨none, some 66, 66, .bin .or (.t 57) (.t 65)⟩,
   ⟨none, some 8, 8, .mv (.t 66)⟩])))
 (.reg [⟨none, some 46, 46, .mv (.t 9)⟩,
   ⟨none, some 47, 47, .bin .add (.t 46) (.k (.one (.pv (.int .i64 1))))⟩,
   ⟨none, some 9, 9, .mv (.t 47)⟩]))))))
 (.norm [0, 1, 7, 8] (.seq (.seq (.draw [⟨none, some 67, 67, .mv (.t 8)⟩,
   ⟨none, some 68, 68, .call 199 [0] [(.t 67)]⟩,
   ⟨none, some 69, 69, .not (.t 68)⟩,
   ⟨none, some 70, 70, .mv (.t 69)⟩,
   ⟨(some (70, false)), some 71, 71, .bslice 1 []⟩,
   ⟨(some (70, false)), some 72, 72, .mv (.t 8)⟩,
   ⟨(some (70, false)), some 73, 73, .call 158 [0, 0] [(.t 71), (.t 72)]⟩,
   ⟨(some (70, false)), some 74, 74, .conv .b2s (.t 73)⟩,
   ⟨(some (70, false)), some 75, 75, .mv (.t 0)⟩,
   ⟨(some (70, false)), some 76, 76, .mv (.t 1)⟩,
   ⟨(some (70, false)), some 77, 77, .mv (.t 1)⟩,
   ⟨(some (70, false)), some 78, 78, .mv (.t 7)⟩,
   ⟨(some (70, false)), some 79, 79, .bin .add (.t 77) (.t 78)⟩,
   ⟨(some (70, false)), some 80, 80, .slice 1 (.t 75) (some (.t 76)) (some (.t 79))⟩,
   ⟨(some (70, false)), some 81, 81, .conv .b2s (.t 80)⟩,
   ⟨(some (70, false)), some 82, 82, .bin .neq (.t 74) (.t 81)⟩,
   ⟨none, some 83, 83, .pick (.t 70) (.k (.one (.pv (.bool true)))) (.t 82)⟩] [[], [0], [1], [2, 1], [3], [3], [4, 5, 3, 3], [6, 3], [3], [3], [3], [3], [10, 11, 3], [8, 9, 12, 3], [13, 3], [7, 14, 3], [3, 15]])
 (.cond 83 (.seq (.reg [⟨none, some 4, 4, .mv (.k (.one (.pv (.int .i64 0))))⟩,
   ⟨none, some 5, 5, .mv (.k (.one (.pv (.int .i64 0))))⟩,
   ⟨none, some 6, 6, .mv (.k (.one (.pv (.bool false))))⟩])
 (.ret)) (.skip)))
 (.seq (.reg [⟨none, some 84, 84, .mv (.t 8)⟩,
   ⟨none, some 85, 85, .mv (.t 1)⟩,
   ⟨none, some 86, 86, .mv (.t 7)⟩,
   ⟨none, some 87, 87, .bin .add (.t 85) (.t 86)⟩,
   ⟨none, some 4, 4, .mv (.t 84)⟩,
   ⟨none, some 5, 5, .mv (.t 87)⟩,
   ⟨none, some 6, 6, .mv (.k (.one (.pv (.bool true))))⟩])
 (.ret))))
def x_s_GetSign : FnX := ⟨88, [.tmp 4, .tmp 5, .tmp 6],
  .seq (.reg [⟨none, some 4, 4, .mv (.k (.one (.pv (.int .i64 0))))⟩,
   ⟨none, some 5, 5, .mv (.k (.one (.pv (.int .i64 0))))⟩,
   ⟨none, some 6, 6, .mv (.k (.one (.pv (.bool false))))⟩])
 (.seq (.seq (.reg [⟨none, some 10, 10, .mv (.t 1)⟩,
   ⟨none, some 11, 11, .mv (.t 0)⟩,
   ⟨none, some 12, 12, .len (.t 11)⟩,
   ⟨none, some 13, 13, .bin .sub (.t 12) (.k (.one (.pv (.int .i64 1))))⟩,
   ⟨none, some 14, 14, .call 29 [0, 0, 0] [(.t 10), (.k (.one (.pv (.int .i64 0)))), (.t 13)]⟩,
   ⟨none, some 15, 15, .not (.t 14)⟩])
 (.cond 15 (.seq (.reg [⟨none, some 4, 4, .mv (.k (.one (.pv (.int .i64 0))))⟩,
   ⟨none, some 5, 5, .mv (.k (.one (.pv (.int .i64 0))))⟩,
   ⟨none, some 6, 6, .mv (.k (.one (.pv (.bool false))))⟩])
 (.ret)) (.skip)))
 (.seq (.reg [⟨none, some 16, 16, .mv (.t 0)⟩,
   ⟨none, some 17, 17, .mv (.t 1)⟩,
   ⟨none, some 18, 18, .iaddr 1 (.t 16) (.t 17)⟩,
   ⟨none, some 19, 19, .load none (.t 18)⟩,
   ⟨none, some 20, 20, .call 221 [0] [(.t 19)]⟩,
   ⟨none, some 7, 7, .mv (.t 20)⟩])
 (.seq (.seq (.reg [⟨none, some 21, 21, .mv (.t 7)⟩,
   ⟨none, some 22, 22, .bin .eql (.t 21) (.k (.one (.pv (.int .i64 0))))⟩,
   ⟨none, some 23, 23, .mv (.t 22)⟩,
   ⟨(some (23, false)), some 24, 24, .mv (.t 7)⟩,
   ⟨(some (23, false)), some 25, 25, .mv (.t 0)⟩,
   ⟨(some (23, false)), some 26, 26, .len (.t 25)⟩,
   ⟨(some (23, false)), some 27, 27, .mv (.t 1)⟩,
   ⟨(some (23, false)), some 28, 28, .bin .sub (.t 26) (.t 27)⟩,
   ⟨(some (23, false)), some 29, 29, .bin .gtr (.t 24) (.t 28)⟩,
   ⟨none, some 30, 30, .pick (.t 23) (.k (.one (.pv (.bool true)))) (.t 29)⟩])
 (.cond 30 (.seq (.reg [⟨none, some 4, 4, .mv (.k (.one (.pv (.int .i64 0))))⟩,
   ⟨none, some 5, 5, .mv (.k (.one (.pv (.int .i64 0))))⟩,
   ⟨none, some 6, 6, .mv (.k (.one (.pv (.bool false))))⟩])
 (.ret)) (.skip)))
 (.seq (.reg [⟨none, some 31, 31, .mv (.t 0)⟩,
   ⟨none, some 32, 32, .mv (.t 1)⟩,
   ⟨none, some 33, 33, .iaddr 1 (.t 31) (.t 32)⟩,
   ⟨none, some 34, 34, .load none (.t 33)⟩,
   ⟨none, some 35, 35, .conv (.int .i64) (.t 34)⟩,
   ⟨none, some 8, 8, .mv (.t 35)⟩])
 (.seq (.seq (.reg [⟨none, some 36, 36, .mv (.t 7)⟩,
   ⟨none, some 37, 37, .bin .gtr (.t 36) (.k (.one (.pv (.int .i64 1))))⟩])
 (.cond 37 (.reg [⟨none, some 38, 38, .mv (.t 8)⟩,
   ⟨none, some 39, 39, .mv (.t 7)⟩,
   ⟨none, some 40, 40, .conv (.int .u64) (.t 39)⟩,
   ⟨none, some 41, 41, .bin .shr (.k (.one (.pv (.int .i64 127)))) (.t 40)⟩,
   ⟨none, some 42, 42, .bin .and (.t 38) (.t 41)⟩,
   ⟨none, some 8, 8, .mv (.t 42)⟩]) (.skip)))
 (.norm [0, 1, 7, 8] (x_s_GetSign_1)))))))⟩
abbrev C_s_GetSign (Te : Nat → List AV → Res → Prop) : Prop := ∀ (b : List UInt8) (i : Int) (hb : b.length ≤ 2 ^ 30), Te 196 [.one (slT false 1 uR b), .one (iT i)] ⟨[.one (iT (getSign b i).1), .one (iT (getSign b i).2.1), .one (bT (getSign b i).2.2)], [[slT false 1 uR b], [iT i]]⟩
theorem s_GetSign_tail {Te : Nat → List AV → Res → Prop} (c_S : C_s_SignOk Te) (c_P : C_s_PutSign Te) (b : List UInt8) (k K m : Nat) (hb : b.length ≤ 2 ^ 30) (hK : 1 ≤ K ∧ K ≤ 4 ∧ k + K ≤ b.length) (hm : m < 256) :
    runC Te 2 90 x_s_GetSign_1 ⟨[(0, .one (.ro 1 (b.map uR))), (1, .one (.pv (.int .i64 (k : Int)))), (7, .one (.pv (.int .i64 (K : Int)))), (8, .one (.pv (.int .i64 (m : Int))))], [], [(0, [slT false 1 uR b]), (1, [iT k])]⟩
      (EndFn Te [.one (slT false 1 uR b), .one (iT k)] [.tmp 4, .tmp 5, .tmp 6] ⟨[.one (iT (signTail (b.drop k) k K m).1), .one (iT (signTail (b.drop k) k K m).2.1), .one (bT (signTail (b.drop k) k K m).2.2)], [[slT false 1 uR b], [iT k]]⟩) := by
  simp -implicitDefEqProofs only [x_s_GetSign_1, go_sem]
  refine loop_of (σ := Nat) (fun j => ⟨[(0, .one (.ro 1 (b.map uR))), (1, .one (.pv (.int .i64 (k : Int)))), (7, .one (.pv (.int .i64 (K : Int)))), (8, .one (.pv (.int .i64 ((accN (b.drop k) m j : Nat) : Int)))), (9, .one (.pv (.int .i64 ((j + 1 : Nat) : Int))))], [], [(0, [slT false 1 uR b]), (1, [iT k])]⟩) (fun j => j + 1 ≤ K ∧ contB (b.drop k) j = true) (fun j => K - j) 0 ?_ ⟨hK.1, rfl⟩ ?_
  · simp -implicitDefEqProofs only [go_sem]; rfl
  · rintro j ⟨hj, hc⟩
    have hacc := accN_small (b.drop k) hm (show j ≤ 3 by omega)
    cases q : decide (((j + 1 : Nat) : Int) < (K : Int))
    · have hjK : j = K - 1 := by simp only [decide_eq_false_iff_not] at q; omega
      subst hjK
      try simp -implicitDefEqProofs only [go_sem, true_implies, false_implies, q]
      refine .of (c_S _) ?_
      try simp -implicitDefEqProofs only [go_sem, true_implies, false_implies]
      cases h1 : signOk ((accN (b.drop k) m (K - 1) : Nat) : Int)
      · have e := tail_no (l := b.drop k) (i := k) (K := K) (m := m) (by rw [h1, Bool.and_false, Bool.false_and])
        try simp -implicitDefEqProofs only [go_sem, true_implies, false_implies, e]
        try (decide)
      · have e1 : IntKind.i64.wrap ((k : Int) + (K : Int)) = ((k + K : Nat) : Int) := by rw [IntWalk.i64_in _ (by omega)]; rfl
        have e2 : k ≤ k + K := Nat.le_add_right _ _
        have e3 : List.take (k + K - k) (List.drop k (b.map uR)) = ((b.drop k).take K).map uR := by rw [← List.map_drop, ← List.map_take, Nat.add_sub_cancel_left]
        have e4 : decide (k + K ≤ b.length) = true := decide_eq_true hK.2.2
        try simp -implicitDefEqProofs only [go_sem, true_implies, false_implies]
        refine .of (c_P [] _ (by decide)) ?_
        try simp -implicitDefEqProofs only [go_sem, true_implies, false_implies, e1, e3, take_map, bytesOf_uR, areBytes_uR, wholeLL_map]
        repeat (first | refine ⟨rfl, ?_⟩ | refine ⟨⟨decide_eq_true (by omega), decide_eq_true (by omega)⟩, ?_⟩)
        have ep : putSign [] ((accN (b.drop k) m (K - 1) : Nat) : Int) = enc8 (accN (b.drop k) m (K - 1)) := by simp only [putSign, h1, if_true, Int.toNat_natCast, List.nil_append]
        have ed : decide ((⟨(enc8 (accN (b.drop k) m (K - 1))).toArray⟩ : ByteArray) = ⟨((b.drop k).take K).toArray⟩) = decide (enc8 (accN (b.drop k) m (K - 1)) = (b.drop k).take K) := by
          congr 1
          simp
        cases h2 : decide (enc8 (accN (b.drop k) m (K - 1)) = (b.drop k).take K)
        · have e := tail_no (l := b.drop k) (i := k) (K := K) (m := m) (by rw [h2, Bool.and_false])
          try simp -implicitDefEqProofs only [go_sem, true_implies, false_implies, ep, ed, h2, e]
        · have e : signTail (b.drop k) k K m = (((accN (b.drop k) m (K - 1) : Nat) : Int), (k : Int) + (K : Nat), true) := if_pos (by rw [hc, h1, h2]; rfl)
          try simp -implicitDefEqProofs only [go_sem, true_implies, false_implies, ep, ed, h2, e]
          try rfl
    · have hjK : j + 1 < K := by simp only [decide_eq_true_eq] at q; omega
      have hidx : k + (j + 1) < b.length := by omega
      have e1 : IntKind.i64.wrap ((k : Int) + ((j + 1 : Nat) : Int)) = ((k + (j + 1) : Nat) : Int) := by rw [IntWalk.i64_in _ (by omega)]; rfl
      have eb : b[k + (j + 1)].toNat = byteN (b.drop k) (j + 1) := by
        simp only [byteN, List.getD_eq_getElem?_getD, List.getElem?_drop]
        rw [List.getElem?_eq_getElem hidx]
        rfl
      have hlt := byteN_lt (b.drop k) (j + 1)
      have e2 := and192 (byteN (b.drop k) (j + 1)) hlt
      try simp -implicitDefEqProofs only [go_sem, true_implies, false_implies, q, e1, List.getElem?_eq_getElem hidx, eb, e2]
      cases h3 : (byteN (b.drop k) (j + 1) / 64 == 2)
      · have hno : contB (b.drop k) (K - 1) = false := contB_down _ (show j + 1 ≤ K - 1 by omega) (by simp only [contB, h3, Bool.and_false])
        have e := tail_no (l := b.drop k) (i := k) (K := K) (m := m) (by rw [hno, Bool.false_and, Bool.false_and])
        try simp -implicitDefEqProofs only [go_sem, true_implies, false_implies, e]
      · have e4 : IntKind.i64.wrap (((accN (b.drop k) m j : Nat) : Int) * 2 ^ 6) = ((accN (b.drop k) m j * 64 : Nat) : Int) := by rw [IntWalk.i64_in _ (by omega)]; omega
        have e5 := and8 (byteN (b.drop k) (j + 1)) hlt
        have e6 : IntKind.i64.wrap ((byteN (b.drop k) (j + 1) % 64 : Nat) : Int) = ((byteN (b.drop k) (j + 1) % 64 : Nat) : Int) := IntWalk.i64_in _ (by omega)
        have e7 := or_acc (accN (b.drop k) m j) (byteN (b.drop k) (j + 1) % 64) (by omega) (by omega)
        try simp -implicitDefEqProofs only [go_sem, true_implies, false_implies, show Nat.min 6 64 = 6 from rfl, e1, List.getElem?_eq_getElem hidx, eb, e4, e5, e6, e7]
        exact ⟨j + 1, by rw [IntWalk.i64_in _ (by omega)]; rfl, ⟨hjK, by simp only [contB, hc, h3, Bool.and_true]⟩, by omega⟩
theorem r_s_GetSign {Te : Nat → List AV → Res → Prop} (c_s_l1In : C_s_l1In Te) (c_s_l2Len : C_s_l2Len Te) (c_s_SignOk : C_s_SignOk Te) (c_s_PutSign : C_s_PutSign Te) : ∀ (b : List UInt8) (i : Int) (hb : b.length ≤ 2 ^ 30), RunFn Te x_s_GetSign [.one (slT false 1 uR b), .one (iT i)] ⟨[.one (iT (getSign b i).1), .one (iT (getSign b i).2.1), .one (bT (getSign b i).2.2)], [[slT false 1 uR b], [iT i]]⟩ := by
  intro b i hb
  refine ⟨by simp -implicitDefEqProofs only [x_s_GetSign, go_sem], ?_⟩
  by_cases hi : 0 ≤ i ∧ i < b.length
  · obtain ⟨k, rfl⟩ : ∃ k : Nat, i = k := ⟨i.toNat, by omega⟩
    have hk : k < b.length := by omega
    have hk' : ((k : Int)).toNat < b.length := by omega
    have hld : (b.drop k).length = b.length - k := List.length_drop
    have w1 : IntKind.i64.wrap ((b.length : Int) - 1) = (b.length : Int) - 1 := IntWalk.i64_in _ (by omega)
    have w2 : IntKind.i64.wrap ((b.length : Int) - (k : Int)) = (b.length : Int) - (k : Int) := IntWalk.i64_in _ (by omega)
    have g : win (k : Int) 0 ((b.length : Int) - 1) = true := by simp only [win, Bool.and_eq_true, decide_eq_true_eq]; omega
    have eb : b[k].toNat = byteN (b.drop k) 0 := by
      simp only [byteN, List.getD_eq_getElem?_getD, List.getElem?_drop, Nat.add_zero]
      rw [List.getElem?_eq_getElem hk]
      rfl
    have hlt := byteN_lt (b.drop k) 0
    have w3 : IntKind.i64.wrap ((byteN (b.drop k) 0 : Nat) : Int) = (byteN (b.drop k) 0 : Nat) := IntWalk.i64_in _ (by omega)
    simp -implicitDefEqProofs only [x_s_GetSign, go_sem, true_implies, false_implies, w1]
    refine .of (c_s_l1In _ _ _) ?_
    try simp -implicitDefEqProofs only [go_sem, true_implies, false_implies, g, List.getElem?_eq_getElem hk]
    refine .of (c_s_l2Len _) ?_
    try simp -implicitDefEqProofs only [go_sem, true_implies, false_implies, eb, w2]
    have bad : (l2len (byteN (b.drop k) 0) = 0 ∨ (b.drop k).length < l2len (byteN (b.drop k) 0)) → getSign b k = (0, 0, false) := fun h => getSign_bad hi (by rw [Int.toNat_natCast]; exact sign0 h (by omega))
    cases q0 : (((l2len (byteN (b.drop k) 0) : Nat) : Int) == 0)
    · cases q1 : decide (((l2len (byteN (b.drop k) 0) : Nat) : Int) > (b.length : Int) - (k : Int))
      · have hK0 : l2len (byteN (b.drop k) 0) ≠ 0 := by
          intro e
          rw [e] at q0
          cases q0
        have hKl : l2len (byteN (b.drop k) 0) ≤ (b.drop k).length := by simp only [decide_eq_false_iff_not] at q1; omega
        have tail : ∀ K m : Nat, 1 ≤ K ∧ K ≤ 4 ∧ k + K ≤ b.length → m < 256 → _ := fun K m h1 h2 => s_GetSign_tail c_s_SignOk c_s_PutSign b k K m hb h1 h2
        have eg : getSign b (k : Int) = getTail (b.drop k) k := by
          cases hs : signAt (b.drop k) with
          | none => rw [getTail_none hs, getSign_bad hi (by rw [Int.toNat_natCast]; exact hs)]
          | some d => rw [getTail_some hs, getSign_good hi (by rw [Int.toNat_natCast]; exact hs)]
        rcases l2len_in _ hK0 with ⟨hK, hv⟩ | ⟨hK, hv⟩ | ⟨hK, hv⟩ | ⟨hK, hv⟩
        · rw [hK] at hKl q0 q1
          have ek : decide (((1 : Nat) : Int) > 1) = false := by decide
          rw [eg, tail1 (l := b.drop k) (k : Int) (by omega) hv]
          simp -implicitDefEqProofs only [go_sem, hK, q0, q1, w2, w3, List.getElem?_eq_getElem hk, eb, ek]
          exact tail 1 (byteN (b.drop k) 0) (by omega) (by omega)
        · rw [hK] at hKl q0 q1
          have ek : decide (((2 : Nat) : Int) > 1) = true := by decide
          rw [eg, tail2 (l := b.drop k) (k : Int) (by omega) hv]
          have em : andK .i64 ((byteN (b.drop k) 0 : Nat) : Int) ((31 : Nat) : Int) = ((byteN (b.drop k) 0 % 32 : Nat) : Int) := and_mask _ 5 hlt (by decide)
          have ew : IntKind.u64.wrap ((2 : Nat) : Int) = ((2 : Nat) : Int) := by decide
          have ef : Int.fdiv 127 (2 ^ Nat.min 2 64) = ((31 : Nat) : Int) := by decide
          simp -implicitDefEqProofs only [go_sem, hK, q0, q1, w2, w3, List.getElem?_eq_getElem hk, eb, ek, ew, ef, em]
          exact tail 2 (byteN (b.drop k) 0 % 32) (by omega) (by omega)
        · rw [hK] at hKl q0 q1
          have ek : decide (((3 : Nat) : Int) > 1) = true := by decide
          rw [eg, tail3 (l := b.drop k) (k : Int) (by omega) hv]
          have em : andK .i64 ((byteN (b.drop k) 0 : Nat) : Int) ((15 : Nat) : Int) = ((byteN (b.drop k) 0 % 16 : Nat) : Int) := and_mask _ 4 hlt (by decide)
          have ew : IntKind.u64.wrap ((3 : Nat) : Int) = ((3 : Nat) : Int) := by decide
          have ef : Int.fdiv 127 (2 ^ Nat.min 3 64) = ((15 : Nat) : Int) := by decide
          simp -implicitDefEqProofs only [go_sem, hK, q0, q1, w2, w3, List.getElem?_eq_getElem hk, eb, ek, ew, ef, em]
          exact tail 3 (byteN (b.drop k) 0 % 16) (by omega) (by omega)
        · rw [hK] at hKl q0 q1
          have ek : decide (((4 : Nat) : Int) > 1) = true := by decide
          rw [eg, tail4 (l := b.drop k) (k : Int) (by omega) hv]
          have em : andK .i64 ((byteN (b.drop k) 0 : Nat) : Int) ((7 : Nat) : Int) = ((byteN (b.drop k) 0 % 8 : Nat) : Int) := and_mask _ 3 hlt (by decide)
          have ew : IntKind.u64.wrap ((4 : Nat) : Int) = ((4 : Nat) : Int) := by decide
          have ef : Int.fdiv 127 (2 ^ Nat.min 4 64) = ((7 : Nat) : Int) := by decide
          simp -implicitDefEqProofs only [go_sem, hK, q0, q1, w2, w3, List.getElem?_eq_getElem hk, eb, ek, ew, ef, em]
          exact tail 4 (byteN (b.drop k) 0 % 8) (by omega) (by omega)
      · have e := bad (.inr (by simp only [decide_eq_true_eq] at q1; omega))
        try simp -implicitDefEqProofs only [go_sem, true_implies, false_implies, q0, q1, w2, e]
    · have e := bad (.inl (by have := eq_of_beq q0; omega))
      try simp -implicitDefEqProofs only [go_sem, true_implies, false_implies, q0, e]
  · have e := getSign_no hi
    have w1 : IntKind.i64.wrap ((b.length : Int) - 1) = (b.length : Int) - 1 := IntWalk.i64_in _ (by omega)
    have g : win i 0 ((b.length : Int) - 1) = false := by
      simp only [win, Bool.and_eq_false_imp, decide_eq_true_eq, decide_eq_false_iff_not]
      omega
    simp -implicitDefEqProofs only [x_s_GetSign, go_sem, true_implies, false_implies, w1]
    refine .of (c_s_l1In _ _ _) ?_
    try simp -implicitDefEqProofs only [go_sem, true_implies, false_implies, g, e]
end Go.X

/- Vb -/
namespace Go.X
set_option maxRecDepth 100000
set_option maxHeartbeats 8000000
def pairSign (hi lo : Int) : Int × Bool := if (hi == 164 && win lo 161 243) = true then (12353 + lo - 161, true) else if (hi == 165 && win lo 161 246) = true then (12449 + lo - 161, true) else (0, false)
def eucSign (b : List UInt8) (i : Int) : Int × Int × Bool :=
  if 0 ≤ i ∧ i < b.length then
    (if byteN (b.drop i.toNat) 0 < 128 then (((byteN (b.drop i.toNat) 0 : Nat) : Int), i + 1, true)
    else if i + 1 < b.length ∧ (pairSign (byteN (b.drop i.toNat) 0 : Nat) (byteN (b.drop i.toNat) 1 : Nat)).2 = true then ((pairSign (byteN (b.drop i.toNat) 0 : Nat) (byteN (b.drop i.toNat) 1 : Nat)).1, i + 2, true) else (0, 0, false))
  else (0, 0, false)
theorem euc_no {b : List UInt8} {i : Int} (h : ¬ (0 ≤ i ∧ i < b.length)) : eucSign b i = (0, 0, false) := if_neg h
theorem euc_one {b : List UInt8} {i : Int} (h : 0 ≤ i ∧ i < b.length) (h1 : byteN (b.drop i.toNat) 0 < 128) : eucSign b i = (((byteN (b.drop i.toNat) 0 : Nat) : Int), i + 1, true) := by rw [eucSign, if_pos h, if_pos h1]
theorem euc_end {b : List UInt8} {i : Int} (h : 0 ≤ i ∧ i < b.length) (h1 : ¬ byteN (b.drop i.toNat) 0 < 128) (h2 : ¬ i + 1 < b.length) : eucSign b i = (0, 0, false) := by rw [eucSign, if_pos h, if_neg h1, if_neg (fun q => h2 q.1)]
theorem euc_bad {b : List UInt8} {i : Int} (h : 0 ≤ i ∧ i < b.length) (h1 : ¬ byteN (b.drop i.toNat) 0 < 128) (h2 : (pairSign (byteN (b.drop i.toNat) 0 : Nat) (byteN (b.drop i.toNat) 1 : Nat)).2 = false) : eucSign b i = (0, 0, false) := by rw [eucSign, if_pos h, if_neg h1, if_neg (fun q => by rw [h2] at q; cases q.2)]
theorem euc_two {b : List UInt8} {i : Int} (h : 0 ≤ i ∧ i < b.length) (h1 : ¬ byteN (b.drop i.toNat) 0 < 128) (h3 : i + 1 < b.length) (h2 : (pairSign (byteN (b.drop i.toNat) 0 : Nat) (byteN (b.drop i.toNat) 1 : Nat)).2 = true) : eucSign b i = ((pairSign (byteN (b.drop i.toNat) 0 : Nat) (byteN (b.drop i.toNat) 1 : Nat)).1, i + 2, true) := by rw [eucSign, if_pos h, if_neg h1, if_pos ⟨h3, h2⟩]
theorem byteN_drop {b : List UInt8} {k j : Nat} (h : k + j < b.length) : b[k + j].toNat = byteN (b.drop k) j := by
  simp only [byteN, List.getD_eq_getElem?_getD, List.getElem?_drop]
  rw [List.getElem?_eq_getElem h]
  rfl
def x_i_PairSign : FnX := ⟨26, [.tmp 4, .tmp 5],
  .seq (.reg [⟨none, some 4, 4, .mv (.k (.one (.pv (.int .i64 0))))⟩,
   ⟨none, some 5, 5, .mv (.k (.one (.pv (.bool false))))⟩])
 (.seq (.block 0 (.seq (.reg [⟨none, some 7, 7, .mv (.t 0)⟩,
   ⟨none, some 8, 8, .bin .eql (.t 7) (.k (.one (.pv (.int .i64 164))))⟩,
   ⟨none, some 9, 9, .mv (.t 8)⟩,
   ⟨(some (9, true)), some 10, 10, .mv (.t 1)⟩,
   ⟨(some (9, true)), some 11, 11, .call 31 [0, 0, 0] [(.t 10), (.k (.one (.pv (.int .i64 161)))), (.k (.one (.pv (.int .i64 243))))]⟩,
   ⟨none, some 12, 12, .pick (.t 9) (.t 11) (.k (.one (.pv (.bool false))))⟩,
   ⟨none, some 6, 6, .mv (.t 12)⟩])
 (.cond 6 (.seq (.reg [⟨none, some 13, 13, .mv (.t 1)⟩,
   ⟨none, some 14, 14, .bin .add (.k (.one (.pv (.int .i64 12353)))) (.t 13)⟩,
   ⟨none, some 15, 15, .bin .sub (.t 14) (.k (.one (.pv (.int .i64 161))))⟩,
   ⟨none, some 4, 4, .mv (.t 15)⟩,
   ⟨none, some 5, 5, .mv (.k (.one (.pv (.bool true))))⟩])
 (.ret)) (.seq (.reg [⟨none, some 17, 17, .mv (.t 0)⟩,
   ⟨none, some 18, 18, .bin .eql (.t 17) (.k (.one (.pv (.int .i64 165))))⟩,
   ⟨none, some 19, 19, .mv (.t 18)⟩,
   ⟨(some (19, true)), some 20, 20, .mv (.t 1)⟩,
   ⟨(some (19, true)), some 21, 21, .call 31 [0, 0, 0] [(.t 20), (.k (.one (.pv (.int .i64 161)))), (.k (.one (.pv (.int .i64 246))))]⟩,
   ⟨none, some 22, 22, .pick (.t 19) (.t 21) (.k (.one (.pv (.bool false))))⟩,
   ⟨none, some 16, 16, .mv (.t 22)⟩])
 (.cond 16 (.seq (.reg [⟨none, some 23, 23, .mv (.t 1)⟩,
   ⟨none, some 24, 24, .bin .add (.k (.one (.pv (.int .i64 12449)))) (.t 23)⟩,
   ⟨none, some 25, 25, .bin .sub (.t 24) (.k (.one (.pv (.int .i64 161))))⟩,
   ⟨none, some 4, 4, .mv (.t 25)⟩,
   ⟨none, some 5, 5, .mv (.k (.one (.pv (.bool true))))⟩])
 (.ret)) (.skip))))))
 (.seq (.reg [⟨none, some 4, 4, .mv (.k (.one (.pv (.int .i64 0))))⟩,
   ⟨none, some 5, 5, .mv (.k (.one (.pv (.bool false))))⟩])
 (.ret)))⟩
abbrev C_i_PairSign (Te : Nat → List AV → Res → Prop) : Prop := ∀ (hi lo : Int) (h : 0 ≤ lo ∧ lo ≤ 255), Te 227 [.one (iT hi), .one (iT lo)] ⟨[.one (iT (pairSign hi lo).1), .one (bT (pairSign hi lo).2)], [[iT hi], [iT lo]]⟩
theorem r_i_PairSign {Te : Nat → List AV → Res → Prop} (c_i_within : C_i_within Te) : ∀ (hi lo : Int) (h : 0 ≤ lo ∧ lo ≤ 255), RunFn Te x_i_PairSign [.one (iT hi), .one (iT lo)] ⟨[.one (iT (pairSign hi lo).1), .one (bT (pairSign hi lo).2)], [[iT hi], [iT lo]]⟩ := by
  intro hi lo h
  refine ⟨by simp -implicitDefEqProofs only [x_i_PairSign, go_sem], ?_⟩
  have w1 : IntKind.i64.wrap (12353 + lo) = 12353 + lo := IntWalk.i64_in _ (by omega)
  have w2 : IntKind.i64.wrap (12353 + lo - 161) = 12353 + lo - 161 := IntWalk.i64_in _ (by omega)
  have w3 : IntKind.i64.wrap (12449 + lo) = 12449 + lo := IntWalk.i64_in _ (by omega)
  have w4 : IntKind.i64.wrap (12449 + lo - 161) = 12449 + lo - 161 := IntWalk.i64_in _ (by omega)
  have no : ∀ a b c d : Bool, (a && b) = false → (c && d) = false → True := fun _ _ _ _ _ _ => trivial
  cases g1 : (hi == 164)
  · cases g3 : (hi == 165)
    · have e : pairSign hi lo = (0, false) := by rw [pairSign, g1, g3]; rfl
      simp -implicitDefEqProofs only [x_i_PairSign, go_sem, true_implies, false_implies, g1, g3, e]
    · simp -implicitDefEqProofs only [x_i_PairSign, go_sem, true_implies, false_implies, g1, g3]
      refine .of (c_i_within _ _ _) ?_
      try simp -implicitDefEqProofs only [go_sem, true_implies, false_implies]
      cases g4 : win lo 161 246
      · have e : pairSign hi lo = (0, false) := by rw [pairSign, g1, g3, g4]; rfl
        try simp -implicitDefEqProofs only [go_sem, true_implies, false_implies, e]
      · have e : pairSign hi lo = (12449 + lo - 161, true) := by rw [pairSign, g1, g3, g4]; rfl
        try simp -implicitDefEqProofs only [go_sem, true_implies, false_implies, e, w3, w4]
  · have g3 : (hi == 165) = false := by have := eq_of_beq g1; subst this; rfl
    simp -implicitDefEqProofs only [x_i_PairSign, go_sem, true_implies, false_implies, g1]
    refine .of (c_i_within _ _ _) ?_
    try simp -implicitDefEqProofs only [go_sem, true_implies, false_implies]
    cases g4 : win lo 161 243
    · have e : pairSign hi lo = (0, false) := by rw [pairSign, g1, g3, g4]; rfl
      try simp -implicitDefEqProofs only [go_sem, true_implies, false_implies, g3, e]
    · have e : pairSign hi lo = (12353 + lo - 161, true) := by rw [pairSign, g1, g4]; rfl
      try simp -implicitDefEqProofs only [go_sem, true_implies, false_implies, e, w1, w2]
def x_s_PairSign : FnX := ⟨26, [.tmp 4, .tmp 5],
  .seq (.reg [⟨none, some 4, 4, .mv (.k (.one (.pv (.int .i64 0))))⟩,
   ⟨none, some 5, 5, .mv (.k (.one (.pv (.bool false))))⟩])
 (.seq (.block 0 (.seq (.reg [⟨none, some 7, 7, .mv (.t 0)⟩,
   ⟨none, some 8, 8, .bin .eql (.t 7) (.k (.one (.pv (.int .i64 164))))⟩,
   ⟨none, some 9, 9, .mv (.t 8)⟩,
   ⟨(some (9, true)), some 10, 10, .mv (.t 1)⟩,
   ⟨(some (9, true)), some 11, 11, .call 29 [0, 0, 0] [(.t 10), (.k (.one (.pv (.int .i64 161)))), (.k (.one (.pv (.int .i64 243))))]⟩,
   ⟨none, some 12, 12, .pick (.t 9) (.t 11) (.k (.one (.pv (.bool false))))⟩,
   ⟨none, some 6, 6, .mv (.t 12)⟩])
 (.cond 6 (.seq (.reg [⟨none, some 13, 13, .mv (.t 1)⟩,
   ⟨none, some 14, 14, .bin .add (.k (.one (.pv (.int .i64 12353)))) (.t 13)⟩,
   ⟨none, some 15, 15, .bin .sub (.t 14) (.k (.one (.pv (.int .i64 161))))⟩,
   ⟨none, some 4, 4, .mv (.t 15)⟩,
   ⟨none, some 5, 5, .mv (.k (.one (.pv (.bool true))))⟩])
 (.ret)) (.seq (.reg [⟨none, some 17, 17, .mv (.t 0)⟩,
   ⟨none, some 18, 18, .bin .eql (.t 17) (.k (.one (.pv (.int .i64 165))))⟩,
   ⟨none, some 19, 19, .mv (.t 18)⟩,
   ⟨(some (19, true)), some 20, 20, .mv (.t 1)⟩,
   ⟨(some (19, true)), some 21, 21, .call 29 [0, 0, 0] [(.t 20), (.k (.one (.pv (.int .i64 161)))), (.k (.one (.pv (.int .i64 246))))]⟩,
   ⟨none, some 22, 22, .pick (.t 19) (.t 21) (.k (.one (.pv (.bool false))))⟩,
   ⟨none, some 16, 16, .mv (.t 22)⟩])
 (.cond 16 (.seq (.reg [⟨none, some 23, 23, .mv (.t 1)⟩,
   ⟨none, some 24, 24, .bin .add (.k (.one (.pv (.int .i64 12449)))) (.t 23)⟩,
   ⟨none, some 25, 25, .bin .sub (.t 24) (.k (.one (.pv (.int .i64 161))))⟩,
   ⟨none, some 4, 4, .mv (.t 25)⟩,
   ⟨none, some 5, 5, .mv (.k (.one (.pv (.bool true))))⟩])
 (.ret)) (.skip))))))
 (.seq (.reg [⟨none, some 4, 4, .mv (.k (.one (.pv (.int .i64 0))))⟩,
   ⟨none, some 5, 5, .mv (.k (.one (.pv (.bool false))))⟩])
 (.ret)))⟩
abbrev C_s_PairSign (Te : Nat → List AV → Res → Prop) : Prop := ∀ (hi lo : Int) (h : 0 ≤ lo ∧ lo ≤ 255), Te 222 [.one (iT hi), .one (iT lo)] ⟨[.one (iT (pairSign hi lo).1), .one (bT (pairSign hi lo).2)], [[iT hi], [iT lo]]⟩
theorem r_s_PairSign {Te : Nat → List AV → Res → Prop} (c_s_l1In : C_s_l1In Te) : ∀ (hi lo : Int) (h : 0 ≤ lo ∧ lo ≤ 255), RunFn Te x_s_PairSign [.one (iT hi), .one (iT lo)] ⟨[.one (iT (pairSign hi lo).1), .one (bT (pairSign hi lo).2)], [[iT hi], [iT lo]]⟩ := by
  intro hi lo h
  refine ⟨by simp -implicitDefEqProofs only [x_s_PairSign, go_sem], ?_⟩
  have w1 : IntKind.i64.wrap (12353 + lo) = 12353 + lo := IntWalk.i64_in _ (by omega)
  have w2 : IntKind.i64.wrap (12353 + lo - 161) = 12353 + lo - 161 := IntWalk.i64_in _ (by omega)
  have w3 : IntKind.i64.wrap (12449 + lo) = 12449 + lo := IntWalk.i64_in _ (by omega)
  have w4 : IntKind.i64.wrap (12449 + lo - 161) = 12449 + lo - 161 := IntWalk.i64_in _ (by omega)
  have no : ∀ a b c d : Bool, (a && b) = false → (c && d) = false → True := fun _ _ _ _ _ _ => trivial
  cases g1 : (hi == 164)
  · cases g3 : (hi == 165)
    · have e : pairSign hi lo = (0, false) := by rw [pairSign, g1, g3]; rfl
      simp -implicitDefEqProofs only [x_s_PairSign, go_sem, true_implies, false_implies, g1, g3, e]
    · simp -implicitDefEqProofs only [x_s_PairSign, go_sem, true_implies, false_implies, g1, g3]
      refine .of (c_s_l1In _ _ _) ?_
      try simp -implicitDefEqProofs only [go_sem, true_implies, false_implies]
      cases g4 : win lo 161 246
      · have e : pairSign hi lo = (0, false) := by rw [pairSign, g1, g3, g4]; rfl
        try simp -implicitDefEqProofs only [go_sem, true_implies, false_implies, e]
      · have e : pairSign hi lo = (12449 + lo - 161, true) := by rw [pairSign, g1, g3, g4]; rfl
        try simp -implicitDefEqProofs only [go_sem, true_implies, false_implies, e, w3, w4]
  · have g3 : (hi == 165) = false := by have := eq_of_beq g1; subst this; rfl
    simp -implicitDefEqProofs only [x_s_PairSign, go_sem, true_implies, false_implies, g1]
    refine .of (c_s_l1In _ _ _) ?_
    try simp -implicitDefEqProofs only [go_sem, true_implies, false_implies]
    cases g4 : win lo 161 243
    · have e : pairSign hi lo = (0, false) := by rw [pairSign, g1, g3, g4]; rfl
      try simp -implicitDefEqProofs only [go_sem, true_implies, false_implies, g3, e]
    · have e : pairSign hi lo = (12353 + lo - 161, true) := by rw [pairSign, g1, g4]; rfl
      try simp -implicitDefEqProofs only [go_sem, true_implies, false_implies, e, w1, w2]
def x_i_EucSign : FnX := ⟨54, [.tmp 4, .tmp 5, .tmp 6],
  .seq (.reg [⟨none, some 4, 4, .mv (.k (.one (.pv (.int .i64 0))))⟩,
   ⟨none, some 5, 5, .mv (.k (.one (.pv (.int .i64 0))))⟩,
   ⟨none, some 6, 6, .mv (.k (.one (.pv (.bool false))))⟩])
 (.seq (.seq (.reg [⟨none, some 9, 9, .mv (.t 1)⟩,
   ⟨none, some 10, 10, .bin .lss (.t 9) (.k (.one (.pv (.int .i64 0))))⟩,
   ⟨none, some 11, 11, .mv (.t 10)⟩,
   ⟨(some (11, false)), some 12, 12, .mv (.t 1)⟩,
   ⟨(some (11, false)), some 13, 13, .mv (.t 0)⟩,
   ⟨(some (11, false)), some 14, 14, .len (.t 13)⟩,
   ⟨(some (11, false)), some 15, 15, .bin .geq (.t 12) (.t 14)⟩,
   ⟨none, some 16, 16, .pick (.t 11) (.k (.one (.pv (.bool true)))) (.t 15)⟩])
 (.cond 16 (.seq (.reg [⟨none, some 4, 4, .mv (.k (.one (.pv (.int .i64 0))))⟩,
   ⟨none, some 5, 5, .mv (.k (.one (.pv (.int .i64 0))))⟩,
   ⟨none, some 6, 6, .mv (.k (.one (.pv (.bool false))))⟩])
 (.ret)) (.skip)))
 (.seq (.seq (.reg [⟨none, some 17, 17, .mv (.t 0)⟩,
   ⟨none, some 18, 18, .mv (.t 1)⟩,
   ⟨none, some 19, 19, .iaddr 1 (.t 17) (.t 18)⟩,
   ⟨none, some 20, 20, .load none (.t 19)⟩,
   ⟨none, some 21, 21, .bin .leq (.t 20) (.k (.one (.pv (.int .u8 127))))⟩])
 (.cond 21 (.seq (.reg [⟨none, some 22, 22, .mv (.t 0)⟩,
   ⟨none, some 23, 23, .mv (.t 1)⟩,
   ⟨none, some 24, 24, .iaddr 1 (.t 22) (.t 23)⟩,
   ⟨none, some 25, 25, .load none (.t 24)⟩,
   ⟨none, some 26, 26, .conv (.int .i64) (.t 25)⟩,
   ⟨none, some 27, 27, .mv (.t 1)⟩,
   ⟨none, some 28, 28, .bin .add (.t 27) (.k (.one (.pv (.int .i64 1))))⟩,
   ⟨none, some 4, 4, .mv (.t 26)⟩,
   ⟨none, some 5, 5, .mv (.t 28)⟩,
   ⟨none, some 6, 6, .mv (.k (.one (.pv (.bool true))))⟩])
 (.ret)) (.skip)))
 (.seq (.seq (.reg [⟨none, some 29, 29, .mv (.t 1)⟩,
   ⟨none, some 30, 30, .bin .add (.t 29) (.k (.one (.pv (.int .i64 1))))⟩,
   ⟨none, some 31, 31, .mv (.t 0)⟩,
   ⟨none, some 32, 32, .len (.t 31)⟩,
   ⟨none, some 33, 33, .bin .eql (.t 30) (.t 32)⟩])
 (.cond 33 (.seq (.reg [⟨none, some 4, 4, .mv (.k (.one (.pv (.int .i64 0))))⟩,
   ⟨none, some 5, 5, .mv (.k (.one (.pv (.int .i64 0))))⟩,
   ⟨none, some 6, 6, .mv (.k (.one (.pv (.bool false))))⟩])
 (.ret)) (.skip)))
 (.seq (.draw [⟨none, some 35, 35, .mv (.t 0)⟩,
   ⟨none, some 36, 36, .mv (.t 1)⟩,
   ⟨none, some 37, 37, .iaddr 1 (.t 35) (.t 36)⟩,
   ⟨none, some 38, 38, .load none (.t 37)⟩,
   ⟨none, some 39, 39, .conv (.int .i64) (.t 38)⟩,
   ⟨none, some 40, 40, .mv (.t 0)⟩,
   ⟨none, some 41, 41, .mv (.t 1)⟩,
   ⟨none, some 42, 42, .bin .add (.t 41) (.k (.one (.pv (.int .i64 1))))⟩,
   ⟨none, some 43, 43, .iaddr 1 (.t 40) (.t 42)⟩,
   ⟨none, some 44, 44, .load none (.t 43)⟩,
   ⟨none, some 45, 45, .conv (.int .i64) (.t 44)⟩,
   ⟨none, some 46, 46, .call 227 [0, 0] [(.t 39), (.t 45)]⟩,
   ⟨none, some 34, 34, .mv (.t 46)⟩,
   ⟨none, some 47, 47, .ext (.t 34) 0⟩,
   ⟨none, some 48, 48, .ext (.t 34) 1⟩,
   ⟨none, some 7, 7, .mv (.t 47)⟩,
   ⟨none, some 8, 8, .mv (.t 48)⟩] [[], [], [0, 1], [2], [3], [], [], [6], [5, 7], [8], [9], [4, 10], [11], [12], [12], [13, 11, 0, 1, 2, 3, 4, 5, 6, 7, 8, 9, 10, 11, 12, 13], [14, 15, 0, 1, 2, 3, 4, 5, 6, 7, 8, 9, 10, 11, 12, 13, 14, 15]])
 (.seq (.seq (.reg [⟨none, some 49, 49, .mv (.t 8)⟩,
   ⟨none, some 50, 50, .not (.t 49)⟩])
 (.cond 50 (.seq (.reg [⟨none, some 4, 4, .mv (.k (.one (.pv (.int .i64 0))))⟩,
   ⟨none, some 5, 5, .mv (.k (.one (.pv (.int .i64 0))))⟩,
   ⟨none, some 6, 6, .mv (.k (.one (.pv (.bool false))))⟩])
 (.ret)) (.skip)))
 (.seq (.reg [⟨none, some 51, 51, .mv (.t 7)⟩,
   ⟨none, some 52, 52, .mv (.t 1)⟩,
   ⟨none, some 53, 53, .bin .add (.t 52) (.k (.one (.pv (.int .i64 2))))⟩,
   ⟨none, some 4, 4, .mv (.t 51)⟩,
   ⟨none, some 5, 5, .mv (.t 53)⟩,
   ⟨none, some 6, 6, .mv (.k (.one (.pv (.bool true))))⟩])
 (.ret)))))))⟩
abbrev C_i_EucSign (Te : Nat → List AV → Res → Prop) : Prop := ∀ (b : List UInt8) (i : Int) (hb : b.length ≤ 2 ^ 30), Te 202 [.one (slT false 1 uR b), .one (iT i)] ⟨[.one (iT (eucSign b i).1), .one (iT (eucSign b i).2.1), .one (bT (eucSign b i).2.2)], [[slT false 1 uR b], [iT i]]⟩
theorem r_i_EucSign {Te : Nat → List AV → Res → Prop} (c_i_PairSign : C_i_PairSign Te) : ∀ (b : List UInt8) (i : Int) (hb : b.length ≤ 2 ^ 30), RunFn Te x_i_EucSign [.one (slT false 1 uR b), .one (iT i)] ⟨[.one (iT (eucSign b i).1), .one (iT (eucSign b i).2.1), .one (bT (eucSign b i).2.2)], [[slT false 1 uR b], [iT i]]⟩ := by
  intro b i hb
  refine ⟨by simp -implicitDefEqProofs only [x_i_EucSign, go_sem], ?_⟩
  by_cases hi : 0 ≤ i ∧ i < b.length
  · obtain ⟨k, rfl⟩ : ∃ k : Nat, i = k := ⟨i.toNat, by omega⟩
    have hk : k < b.length := by omega
    have eb : b[k].toNat = byteN (b.drop k) 0 := byteN_drop (j := 0) hk
    have hlt := byteN_lt (b.drop k) 0
    have hlt1 := byteN_lt (b.drop k) 1
    have w3 : IntKind.i64.wrap ((byteN (b.drop k) 0 : Nat) : Int) = (byteN (b.drop k) 0 : Nat) := IntWalk.i64_in _ (by omega)
    have w4 : IntKind.i64.wrap ((byteN (b.drop k) 1 : Nat) : Int) = (byteN (b.drop k) 1 : Nat) := IntWalk.i64_in _ (by omega)
    have w5 : IntKind.i64.wrap ((k : Int) + 1) = (k : Int) + 1 := IntWalk.i64_in _ (by omega)
    have w6 : IntKind.i64.wrap ((k : Int) + 2) = (k : Int) + 2 := IntWalk.i64_in _ (by omega)
    have w7 : ((k : Int) + 1).toNat = k + 1 := by omega
    have q8 : decide ((k : Int) < 0) = false := decide_eq_false (by omega)
    have q9 : decide ((k : Int) ≥ (b.length : Int)) = false := decide_eq_false (by omega)
    cases q : decide (((byteN (b.drop k) 0 : Nat) : Int) ≤ 127)
    · have h1 : ¬ byteN (b.drop ((k : Nat) : Int).toNat) 0 < 128 := by rw [Int.toNat_natCast]; simp only [decide_eq_false_iff_not] at q; omega
      cases q2 : ((k : Int) + 1 == (b.length : Int))
      · have h3 : (k : Int) + 1 < b.length := by
          have : (k : Int) + 1 ≠ (b.length : Int) := by simpa using q2
          omega
        have hk1 : k + 1 < b.length := by omega
        have eb1 : b[k + 1].toNat = byteN (b.drop k) 1 := byteN_drop (j := 1) hk1
        simp -implicitDefEqProofs only [x_i_EucSign, go_sem, true_implies, false_implies, q, q2, q8, q9, List.getElem?_eq_getElem hk, eb, w3, w5, w7, List.getElem?_eq_getElem hk1, eb1, w4]
        repeat (refine ⟨rfl, ?_⟩)
        refine .of (c_i_PairSign _ _ (by omega)) ?_
        try simp -implicitDefEqProofs only [go_sem, true_implies, false_implies]
        repeat (refine ⟨rfl, ?_⟩)
        cases q3 : (pairSign ((byteN (b.drop k) 0 : Nat) : Int) ((byteN (b.drop k) 1 : Nat) : Int)).2
        · have e := euc_bad hi h1 q3
          try simp -implicitDefEqProofs only [go_sem, true_implies, false_implies, q3, e]
        · have e := euc_two hi h1 h3 q3
          try simp -implicitDefEqProofs only [go_sem, true_implies, false_implies, q3, e, w6]
      · have e := euc_end hi h1 (by have := eq_of_beq q2; omega)
        simp -implicitDefEqProofs only [x_i_EucSign, go_sem, true_implies, false_implies, q, q2, q8, q9, List.getElem?_eq_getElem hk, eb, w3, w5, e]
    · have e := euc_one hi (by rw [Int.toNat_natCast]; simp only [decide_eq_true_eq] at q; omega)
      simp -implicitDefEqProofs only [x_i_EucSign, go_sem, true_implies, false_implies, q, q8, q9, List.getElem?_eq_getElem hk, eb, w3, w5, e]
  · have e := euc_no hi
    cases q8 : decide (i < 0)
    · have q9 : decide (i ≥ (b.length : Int)) = true := by simp only [decide_eq_false_iff_not] at q8; exact decide_eq_true (by omega)
      simp -implicitDefEqProofs only [x_i_EucSign, go_sem, true_implies, false_implies, q8, q9, e]
    · simp -implicitDefEqProofs only [x_i_EucSign, go_sem, true_implies, false_implies, q8, e]
def x_s_EucSign : FnX := ⟨52, [.tmp 4, .tmp 5, .tmp 6],
  .seq (.reg [⟨none, some 4, 4, .mv (.k (.one (.pv (.int .i64 0))))⟩,
   ⟨none, some 5, 5, .mv (.k (.one (.pv (.int .i64 0))))⟩,
   ⟨none, some 6, 6, .mv (.k (.one (.pv (.bool false))))⟩])
 (.seq (.seq (.reg [⟨none, some 9, 9, .mv (.t 1)⟩,
   ⟨none, some 10, 10, .mv (.t 0)⟩,
   ⟨none, some 11, 11, .len (.t 10)⟩,
   ⟨none, some 12, 12, .bin .sub (.t 11) (.k (.one (.pv (.int .i64 1))))⟩,
   ⟨none, some 13, 13, .call 29 [0, 0, 0] [(.t 9), (.k (.one (.pv (.int .i64 0)))), (.t 12)]⟩,
   ⟨none, some 14, 14, .not (.t 13)⟩])
 (.cond 14 (.seq (.reg [⟨none, some 4, 4, .mv (.k (.one (.pv (.int .i64 0))))⟩,
   ⟨none, some 5, 5, .mv (.k (.one (.pv (.int .i64 0))))⟩,
   ⟨none, some 6, 6, .mv (.k (.one (.pv (.bool false))))⟩])
 (.ret)) (.skip)))
 (.seq (.seq (.reg [⟨none, some 15, 15, .mv (.t 0)⟩,
   ⟨none, some 16, 16, .mv (.t 1)⟩,
   ⟨none, some 17, 17, .iaddr 1 (.t 15) (.t 16)⟩,
   ⟨none, some 18, 18, .load none (.t 17)⟩,
   ⟨none, some 19, 19, .bin .lss (.t 18) (.k (.one (.pv (.int .u8 128))))⟩])
 (.cond 19 (.seq (.reg [⟨none, some 20, 20, .mv (.t 0)⟩,
   ⟨none, some 21, 21, .mv (.t 1)⟩,
   ⟨none, some 22, 22, .iaddr 1 (.t 20) (.t 21)⟩,
   ⟨none, some 23, 23, .load none (.t 22)⟩,
   ⟨none, some 24, 24, .conv (.int .i64) (.t 23)⟩,
   ⟨none, some 25, 25, .mv (.t 1)⟩,
   ⟨none, some 26, 26, .bin .add (.t 25) (.k (.one (.pv (.int .i64 1))))⟩,
   ⟨none, some 4, 4, .mv (.t 24)⟩,
   ⟨none, some 5, 5, .mv (.t 26)⟩,
   ⟨none, some 6, 6, .mv (.k (.one (.pv (.bool true))))⟩])
 (.ret)) (.skip)))
 (.seq (.seq (.reg [⟨none, some 27, 27, .mv (.t 1)⟩,
   ⟨none, some 28, 28, .bin .add (.t 27) (.k (.one (.pv (.int .i64 1))))⟩,
   ⟨none, some 29, 29, .mv (.t 0)⟩,
   ⟨none, some 30, 30, .len (.t 29)⟩,
   ⟨none, some 31, 31, .bin .geq (.t 28) (.t 30)⟩])
 (.cond 31 (.seq (.reg [⟨none, some 4, 4, .mv (.k (.one (.pv (.int .i64 0))))⟩,
   ⟨none, some 5, 5, .mv (.k (.one (.pv (.int .i64 0))))⟩,
   ⟨none, some 6, 6, .mv (.k (.one (.pv (.bool false))))⟩])
 (.ret)) (.skip)))
 (.seq (.draw [⟨none, some 33, 33, .mv (.t 0)⟩,
   ⟨none, some 34, 34, .mv (.t 1)⟩,
   ⟨none, some 35, 35, .iaddr 1 (.t 33) (.t 34)⟩,
   ⟨none, some 36, 36, .load none (.t 35)⟩,
   ⟨none, some 37, 37, .conv (.int .i64) (.t 36)⟩,
   ⟨none, some 38, 38, .mv (.t 0)⟩,
   ⟨none, some 39, 39, .mv (.t 1)⟩,
   ⟨none, some 40, 40, .bin .add (.t 39) (.k (.one (.pv (.int .i64 1))))⟩,
   ⟨none, some 41, 41, .iaddr 1 (.t 38) (.t 40)⟩,
   ⟨none, some 42, 42, .load none (.t 41)⟩,
   ⟨none, some 43, 43, .conv (.int .i64) (.t 42)⟩,
   ⟨none, some 44, 44, .call 222 [0, 0] [(.t 37), (.t 43)]⟩,
   ⟨none, some 32, 32, .mv (.t 44)⟩,
   ⟨none, some 45, 45, .ext (.t 32) 0⟩,
   ⟨none, some 46, 46, .ext (.t 32) 1⟩,
   ⟨none, some 7, 7, .mv (.t 45)⟩,
   ⟨none, some 8, 8, .mv (.t 46)⟩] [[], [], [0, 1], [2], [3], [], [], [6], [5, 7], [8], [9], [4, 10], [11], [12], [12], [13, 11, 0, 1, 2, 3, 4, 5, 6, 7, 8, 9, 10, 11, 12, 13], [14, 15, 0, 1, 2, 3, 4, 5, 6, 7, 8, 9, 10, 11, 12, 13, 14, 15]])
 (.seq (.seq (.reg [⟨none, some 47, 47, .mv (.t 8)⟩,
   ⟨none, some 48, 48, .not (.t 47)⟩])
 (.cond 48 (.seq (.reg [⟨none, some 4, 4, .mv (.k (.one (.pv (.int .i64 0))))⟩,
   ⟨none, some 5, 5, .mv (.k (.one (.pv (.int .i64 0))))⟩,
   ⟨none, some 6, 6, .mv (.k (.one (.pv (.bool false))))⟩])
 (.ret)) (.skip)))
 (.seq (.reg [⟨none, some 49, 49, .mv (.t 7)⟩,
   ⟨none, some 50, 50, .mv (.t 1)⟩,
   ⟨none, some 51, 51, .bin .add (.t 50) (.k (.one (.pv (.int .i64 2))))⟩,
   ⟨none, some 4, 4, .mv (.t 49)⟩,
   ⟨none, some 5, 5, .mv (.t 51)⟩,
   ⟨none, some 6, 6, .mv (.k (.one (.pv (.bool true))))⟩])
 (.ret)))))))⟩
abbrev C_s_EucSign (Te : Nat → List AV → Res → Prop) : Prop := ∀ (b : List UInt8) (i : Int) (hb : b.length ≤ 2 ^ 30), Te 197 [.one (slT false 1 uR b), .one (iT i)] ⟨[.one (iT (eucSign b i).1), .one (iT (eucSign b i).2.1), .one (bT (eucSign b i).2.2)], [[slT false 1 uR b], [iT i]]⟩
theorem r_s_EucSign {Te : Nat → List AV → Res → Prop} (c_s_l1In : C_s_l1In Te) (c_s_PairSign : C_s_PairSign Te) : ∀ (b : List UInt8) (i : Int) (hb : b.length ≤ 2 ^ 30), RunFn Te x_s_EucSign [.one (slT false 1 uR b), .one (iT i)] ⟨[.one (iT (eucSign b i).1), .one (iT (eucSign b i).2.1), .one (bT (eucSign b i).2.2)], [[slT false 1 uR b], [iT i]]⟩ := by
  intro b i hb
  refine ⟨by simp -implicitDefEqProofs only [x_s_EucSign, go_sem], ?_⟩
  have w1 : IntKind.i64.wrap ((b.length : Int) - 1) = (b.length : Int) - 1 := IntWalk.i64_in _ (by omega)
  by_cases hi : 0 ≤ i ∧ i < b.length
  · obtain ⟨k, rfl⟩ : ∃ k : Nat, i = k := ⟨i.toNat, by omega⟩
    have hk : k < b.length := by omega
    have eb : b[k].toNat = byteN (b.drop k) 0 := byteN_drop (j := 0) hk
    have hlt := byteN_lt (b.drop k) 0
    have hlt1 := byteN_lt (b.drop k) 1
    have w3 : IntKind.i64.wrap ((byteN (b.drop k) 0 : Nat) : Int) = (byteN (b.drop k) 0 : Nat) := IntWalk.i64_in _ (by omega)
    have w4 : IntKind.i64.wrap ((byteN (b.drop k) 1 : Nat) : Int) = (byteN (b.drop k) 1 : Nat) := IntWalk.i64_in _ (by omega)
    have w5 : IntKind.i64.wrap ((k : Int) + 1) = (k : Int) + 1 := IntWalk.i64_in _ (by omega)
    have w6 : IntKind.i64.wrap ((k : Int) + 2) = (k : Int) + 2 := IntWalk.i64_in _ (by omega)
    have w7 : ((k : Int) + 1).toNat = k + 1 := by omega
    have g : win (k : Int) 0 ((b.length : Int) - 1) = true := by simp only [win, Bool.and_eq_true, decide_eq_true_eq]; omega
    simp -implicitDefEqProofs only [x_s_EucSign, go_sem, true_implies, false_implies, w1]
    refine .of (c_s_l1In _ _ _) ?_
    try simp -implicitDefEqProofs only [go_sem, true_implies, false_implies, g, List.getElem?_eq_getElem hk, eb, w3]
    cases q : decide (((byteN (b.drop k) 0 : Nat) : Int) < 128)
    · have h1 : ¬ byteN (b.drop ((k : Nat) : Int).toNat) 0 < 128 := by rw [Int.toNat_natCast]; simp only [decide_eq_false_iff_not] at q; omega
      cases q2 : decide ((k : Int) + 1 ≥ (b.length : Int))
      · have h3 : (k : Int) + 1 < b.length := by simp only [decide_eq_false_iff_not] at q2; omega
        have hk1 : k + 1 < b.length := by omega
        have eb1 : b[k + 1].toNat = byteN (b.drop k) 1 := byteN_drop (j := 1) hk1
        try simp -implicitDefEqProofs only [go_sem, true_implies, false_implies, q, q2, List.getElem?_eq_getElem hk, eb, w3, w5, w7, List.getElem?_eq_getElem hk1, eb1, w4]
        repeat (refine ⟨rfl, ?_⟩)
        refine .of (c_s_PairSign _ _ (by omega)) ?_
        try simp -implicitDefEqProofs only [go_sem, true_implies, false_implies]
        repeat (refine ⟨rfl, ?_⟩)
        cases q3 : (pairSign ((byteN (b.drop k) 0 : Nat) : Int) ((byteN (b.drop k) 1 : Nat) : Int)).2
        · have e := euc_bad hi h1 q3
          try simp -implicitDefEqProofs only [go_sem, true_implies, false_implies, q3, e]
        · have e := euc_two hi h1 h3 q3
          try simp -implicitDefEqProofs only [go_sem, true_implies, false_implies, q3, e, w6]
      · have e := euc_end hi h1 (by simp only [decide_eq_true_eq] at q2; omega)
        try simp -implicitDefEqProofs only [go_sem, true_implies, false_implies, q, q2, List.getElem?_eq_getElem hk, eb, w3, w5, e]
    · have e := euc_one hi (by rw [Int.toNat_natCast]; simp only [decide_eq_true_eq] at q; omega)
      try simp -implicitDefEqProofs only [go_sem, true_implies, false_implies, q, List.getElem?_eq_getElem hk, eb, w3, w5, e]
  · have e := euc_no hi
    have g : win i 0 ((b.length : Int) - 1) = false := by
      simp only [win, Bool.and_eq_false_imp, decide_eq_true_eq, decide_eq_false_iff_not]
      omega
    simp -implicitDefEqProofs only [x_s_EucSign, go_sem, true_implies, false_implies, w1]
    refine .of (c_s_l1In _ _ _) ?_
    try simp -implicitDefEqProofs only [go_sem, true_implies, false_implies, g, e]
end Go.X

/- Vc -/
namespace Go.X
set_option maxRecDepth 100000
set_option maxHeartbeats 8000000
def signIn (cs : Int) (b : List UInt8) (i : Int) : Int × Int × Bool := if cs = 0 then getSign b i else if cs = 5 then eucSign b i else ((byteSign cs (byteN b i.toNat : Nat)).1, i + 1, (byteSign cs (byteN b i.toNat : Nat)).2)
theorem getSign_next {b : List UInt8} {i : Int} (h : (getSign b i).2.2 = true) : i < (getSign b i).2.1 ∧ (getSign b i).2.1 ≤ b.length := by
  by_cases hi : 0 ≤ i ∧ i < b.length
  · have hne : b.drop i.toNat ≠ [] := by
      intro e
      have := congrArg List.length e
      rw [List.length_drop] at this
      simp only [List.length_nil] at this
      omega
    cases hs : signAt (b.drop i.toNat) with
    | none => rw [getSign_bad hi hs] at h; cases h
    | some d =>
      rw [getSign_good hi hs]
      have hw := Lib.decodeL_width (b.drop i.toNat)
      have hl := Lib.decodeL_le (b.drop i.toNat) hne
      rw [List.length_drop] at hl
      have hd : Lib.decodeL (b.drop i.toNat) = d := by
        unfold signAt at hs
        split at hs
        · cases hs
        · exact Option.some.inj hs
      rw [hd] at hw hl
      simp only
      omega
  · rw [getSign_no hi] at h; cases h
theorem eucSign_next {b : List UInt8} {i : Int} (h : (eucSign b i).2.2 = true) : i < (eucSign b i).2.1 ∧ (eucSign b i).2.1 ≤ b.length := by
  unfold eucSign at h ⊢
  split at h
  · rename_i hi
    rw [if_pos hi]
    split at h
    · rename_i h1
      rw [if_pos h1]
      simp only
      omega
    · rename_i h1
      rw [if_neg h1]
      split at h
      · rename_i h2
        rw [if_pos h2]
        simp only
        omega
      · cases h
  · cases h
theorem signIn_next {cs : Int} {b : List UInt8} {i : Int} (hi : 0 ≤ i ∧ i < b.length) (h : (signIn cs b i).2.2 = true) : i < (signIn cs b i).2.1 ∧ (signIn cs b i).2.1 ≤ b.length := by
  unfold signIn at h ⊢
  split at h
  · rename_i q
    rw [if_pos q]
    exact getSign_next h
  · rename_i q
    rw [if_neg q]
    split at h
    · rename_i q2
      rw [if_pos q2]
      exact eucSign_next h
    · rename_i q2
      rw [if_neg q2]
      simp only
      omega
def decGo (cs : Int) (b : List UInt8) : Nat → Int → List UInt8 → ByteArray × Bool
  | 0, _, out => (⟨⟨out⟩⟩, true)
  | fu + 1, i, out => if i < b.length then (if (signIn cs b i).2.2 = true then decGo cs b fu (signIn cs b i).2.1 (putSign out (signIn cs b i).1) else (⟨#[]⟩, false)) else (⟨⟨out⟩⟩, true)
theorem dec_end {cs : Int} {b : List UInt8} {i : Int} (h : ¬ i < b.length) (fu : Nat) (out : List UInt8) : decGo cs b fu i out = (⟨⟨out⟩⟩, true) := by
  cases fu with
  | zero => rfl
  | succ f => rw [decGo, if_neg h]
theorem dec_bad {cs : Int} {b : List UInt8} {i : Int} (h : i < b.length) (h2 : (signIn cs b i).2.2 = false) (fu : Nat) (out : List UInt8) : decGo cs b (fu + 1) i out = (⟨#[]⟩, false) := by rw [decGo, if_pos h, h2]; rfl
theorem dec_step {cs : Int} {b : List UInt8} {i : Int} (h : i < b.length) (h2 : (signIn cs b i).2.2 = true) (fu : Nat) (out : List UInt8) : decGo cs b (fu + 1) i out = decGo cs b fu (signIn cs b i).2.1 (putSign out (signIn cs b i).1) := by rw [decGo, if_pos h, if_pos h2]
def decode (cs : Int) (b : List UInt8) : ByteArray × Bool := if win cs 0 5 = true then decGo cs b b.length 0 [] else (⟨#[]⟩, false)
theorem bytesOf_uD (l : List UInt8) : bytesOf (l.map uR) = l := bytesOf_uR l
def x_i_isSet : FnX := ⟨5, [.tmp 2],
  .seq (.reg [⟨none, some 2, 2, .mv (.k (.one (.pv (.bool false))))⟩])
 (.seq (.reg [⟨none, some 3, 3, .mv (.t 0)⟩,
   ⟨none, some 4, 4, .call 31 [0, 0, 0] [(.t 3), (.k (.one (.pv (.int .i64 0)))), (.k (.one (.pv (.int .i64 5))))]⟩,
   ⟨none, some 2, 2, .mv (.t 4)⟩])
 (.ret))⟩
abbrev C_i_isSet (Te : Nat → List AV → Res → Prop) : Prop := ∀ (cs : Int), Te 163 [.one (iT cs)] ⟨[.one (bT (win cs 0 5))], [[iT cs]]⟩
theorem r_i_isSet {Te : Nat → List AV → Res → Prop} (c_i_within : C_i_within Te) : ∀ (cs : Int), RunFn Te x_i_isSet [.one (iT cs)] ⟨[.one (bT (win cs 0 5))], [[iT cs]]⟩ := by
  intro cs
  refine ⟨by simp -implicitDefEqProofs only [x_i_isSet, go_sem], ?_⟩
  simp -implicitDefEqProofs only [x_i_isSet, go_sem, true_implies, false_implies]
  refine .of (c_i_within _ _ _) ?_
  try simp -implicitDefEqProofs only [go_sem, true_implies, false_implies]
def x_s_l5Cs : FnX := ⟨5, [.tmp 2],
  .seq (.reg [⟨none, some 2, 2, .mv (.k (.one (.pv (.bool false))))⟩])
 (.seq (.reg [⟨none, some 3, 3, .mv (.t 0)⟩,
   ⟨none, some 4, 4, .call 29 [0, 0, 0] [(.t 3), (.k (.one (.pv (.int .i64 0)))), (.k (.one (.pv (.int .i64 5))))]⟩,
   ⟨none, some 2, 2, .mv (.t 4)⟩])
 (.ret))⟩
abbrev C_s_l5Cs (Te : Nat → List AV → Res → Prop) : Prop := ∀ (cs : Int), Te 156 [.one (iT cs)] ⟨[.one (bT (win cs 0 5))], [[iT cs]]⟩
theorem r_s_l5Cs {Te : Nat → List AV → Res → Prop} (c_s_l1In : C_s_l1In Te) : ∀ (cs : Int), RunFn Te x_s_l5Cs [.one (iT cs)] ⟨[.one (bT (win cs 0 5))], [[iT cs]]⟩ := by
  intro cs
  refine ⟨by simp -implicitDefEqProofs only [x_s_l5Cs, go_sem], ?_⟩
  simp -implicitDefEqProofs only [x_s_l5Cs, go_sem, true_implies, false_implies]
  refine .of (c_s_l1In _ _ _) ?_
  try simp -implicitDefEqProofs only [go_sem, true_implies, false_implies]
def x_i_signIn : FnX := ⟨42, [.tmp 6, .tmp 7, .tmp 8],
  .seq (.reg [⟨none, some 6, 6, .mv (.k (.one (.pv (.int .i64 0))))⟩,
   ⟨none, some 7, 7, .mv (.k (.one (.pv (.int .i64 0))))⟩,
   ⟨none, some 8, 8, .mv (.k (.one (.pv (.bool false))))⟩])
 (.seq (.seq (.reg [⟨none, some 11, 11, .mv (.t 0)⟩])
 (.block 0 (.seq (.reg [⟨none, some 13, 13, .bin .eql (.t 11) (.k (.one (.pv (.int .i64 0))))⟩,
   ⟨none, some 12, 12, .mv (.t 13)⟩])
 (.cond 12 (.seq (.reg [⟨none, some 14, 14, .mv (.t 1)⟩,
   ⟨none, some 15, 15, .mv (.t 2)⟩,
   ⟨none, some 16, 16, .call 201 [0, 0] [(.t 14), (.t 15)]⟩,
   ⟨none, some 17, 17, .ext (.t 16) 0⟩,
   ⟨none, some 18, 18, .ext (.t 16) 1⟩,
   ⟨none, some 19, 19, .ext (.t 16) 2⟩,
   ⟨none, some 6, 6, .mv (.t 17)⟩,
   ⟨none, some 7, 7, .mv (.t 18)⟩,
   ⟨none, some 8, 8, .mv (.t 19)⟩])
 (.ret)) (.seq (.reg [⟨none, some 21, 21, .bin .eql (.t 11) (.k (.one (.pv (.int .i64 5))))⟩,
   ⟨none, some 20, 20, .mv (.t 21)⟩])
 (.cond 20 (.seq (.reg [⟨none, some 22, 22, .mv (.t 1)⟩,
   ⟨none, some 23, 23, .mv (.t 2)⟩,
   ⟨none, some 24, 24, .call 202 [0, 0] [(.t 22), (.t 23)]⟩,
   ⟨none, some 25, 25, .ext (.t 24) 0⟩,
   ⟨none, some 26, 26, .ext (.t 24) 1⟩,
   ⟨none, some 27, 27, .ext (.t 24) 2⟩,
   ⟨none, some 6, 6, .mv (.t 25)⟩,
   ⟨none, some 7, 7, .mv (.t 26)⟩,
   ⟨none, some 8, 8, .mv (.t 27)⟩])
 (.ret)) (.skip)))))))
 (.seq (.reg [⟨none, some 29, 29, .mv (.t 0)⟩,
   ⟨none, some 30, 30, .mv (.t 1)⟩,
   ⟨none, some 31, 31, .mv (.t 2)⟩,
   ⟨none, some 32, 32, .iaddr 1 (.t 30) (.t 31)⟩,
   ⟨none, some 33, 33, .load none (.t 32)⟩,
   ⟨none, some 34, 34, .conv (.int .i64) (.t 33)⟩,
   ⟨none, some 35, 35, .call 203 [0, 0] [(.t 29), (.t 34)]⟩,
   ⟨none, some 28, 28, .mv (.t 35)⟩,
   ⟨none, some 36, 36, .ext (.t 28) 0⟩,
   ⟨none, some 37, 37, .ext (.t 28) 1⟩,
   ⟨none, some 9, 9, .mv (.t 36)⟩,
   ⟨none, some 10, 10, .mv (.t 37)⟩])
 (.seq (.reg [⟨none, some 38, 38, .mv (.t 9)⟩,
   ⟨none, some 39, 39, .mv (.t 2)⟩,
   ⟨none, some 40, 40, .bin .add (.t 39) (.k (.one (.pv (.int .i64 1))))⟩,
   ⟨none, some 41, 41, .mv (.t 10)⟩,
   ⟨none, some 6, 6, .mv (.t 38)⟩,
   ⟨none, some 7, 7, .mv (.t 40)⟩,
   ⟨none, some 8, 8, .mv (.t 41)⟩])
 (.ret))))⟩
abbrev C_i_signIn (Te : Nat → List AV → Res → Prop) : Prop := ∀ (cs : Int) (b : List UInt8) (i : Int) (hb : b.length ≤ 2 ^ 30) (hi : 0 ≤ i ∧ i < b.length), Te 164 [.one (iT cs), .one (slT false 1 uR b), .one (iT i)] ⟨[.one (iT (signIn cs b i).1), .one (iT (signIn cs b i).2.1), .one (bT (signIn cs b i).2.2)], [[iT cs], [slT false 1 uR b], [iT i]]⟩
theorem r_i_signIn {Te : Nat → List AV → Res → Prop} (c_i_GetSign : C_i_GetSign Te) (c_i_EucSign : C_i_EucSign Te) (c_i_ByteSign : C_i_ByteSign Te) : ∀ (cs : Int) (b : List UInt8) (i : Int) (hb : b.length ≤ 2 ^ 30) (hi : 0 ≤ i ∧ i < b.length), RunFn Te x_i_signIn [.one (iT cs), .one (slT false 1 uR b), .one (iT i)] ⟨[.one (iT (signIn cs b i).1), .one (iT (signIn cs b i).2.1), .one (bT (signIn cs b i).2.2)], [[iT cs], [slT false 1 uR b], [iT i]]⟩ := by
  intro cs b i hb hi
  refine ⟨by simp -implicitDefEqProofs only [x_i_signIn, go_sem], ?_⟩
  cases g0 : (cs == 0)
  · have n0 : ¬ cs = 0 := by simpa using g0
    cases g5 : (cs == 5)
    · have n5 : ¬ cs = 5 := by simpa using g5
      have e : signIn cs b i = ((byteSign cs (byteN b i.toNat : Nat)).1, i + 1, (byteSign cs (byteN b i.toNat : Nat)).2) := by rw [signIn, if_neg n0, if_neg n5]
      have hk : i.toNat < b.length := by omega
      have eb : b[i.toNat].toNat = byteN b i.toNat := by
        simp only [byteN, List.getD_eq_getElem?_getD]
        rw [List.getElem?_eq_getElem hk]
        rfl
      have hlt := byteN_lt b i.toNat
      have w1 : IntKind.i64.wrap ((byteN b i.toNat : Nat) : Int) = (byteN b i.toNat : Nat) := IntWalk.i64_in _ (by omega)
      have w2 : IntKind.i64.wrap (i + 1) = i + 1 := IntWalk.i64_in _ (by omega)
      simp -implicitDefEqProofs only [x_i_signIn, go_sem, true_implies, false_implies, g0, g5, List.getElem?_eq_getElem hk, eb, w1]
      repeat (refine ⟨decide_eq_true (by omega), ?_⟩)
      refine .of (c_i_ByteSign _ _) ?_
      try simp -implicitDefEqProofs only [go_sem, true_implies, false_implies, w2, e]
    · have n5 : cs = 5 := eq_of_beq g5
      subst n5
      have e : signIn 5 b i = eucSign b i := rfl
      simp -implicitDefEqProofs only [x_i_signIn, go_sem, true_implies, false_implies]
      refine .of (c_i_EucSign b i hb) ?_
      try simp -implicitDefEqProofs only [go_sem, true_implies, false_implies, e]
  · have n0 : cs = 0 := eq_of_beq g0
    subst n0
    have e : signIn 0 b i = getSign b i := rfl
    simp -implicitDefEqProofs only [x_i_signIn, go_sem, true_implies, false_implies]
    refine .of (c_i_GetSign b i (by omega)) ?_
    try simp -implicitDefEqProofs only [go_sem, true_implies, false_implies, e]
def x_s_l5Get : FnX := ⟨42, [.tmp 6, .tmp 7, .tmp 8],
  .seq (.reg [⟨none, some 6, 6, .mv (.k (.one (.pv (.int .i64 0))))⟩,
   ⟨none, some 7, 7, .mv (.k (.one (.pv (.int .i64 0))))⟩,
   ⟨none, some 8, 8, .mv (.k (.one (.pv (.bool false))))⟩])
 (.seq (.seq (.reg [⟨none, some 11, 11, .mv (.t 0)⟩])
 (.block 0 (.seq (.reg [⟨none, some 13, 13, .bin .eql (.t 11) (.k (.one (.pv (.int .i64 0))))⟩,
   ⟨none, some 12, 12, .mv (.t 13)⟩])
 (.cond 12 (.seq (.reg [⟨none, some 14, 14, .mv (.t 1)⟩,
   ⟨none, some 15, 15, .mv (.t 2)⟩,
   ⟨none, some 16, 16, .call 196 [0, 0] [(.t 14), (.t 15)]⟩,
   ⟨none, some 17, 17, .ext (.t 16) 0⟩,
   ⟨none, some 18, 18, .ext (.t 16) 1⟩,
   ⟨none, some 19, 19, .ext (.t 16) 2⟩,
   ⟨none, some 6, 6, .mv (.t 17)⟩,
   ⟨none, some 7, 7, .mv (.t 18)⟩,
   ⟨none, some 8, 8, .mv (.t 19)⟩])
 (.ret)) (.seq (.reg [⟨none, some 21, 21, .bin .eql (.t 11) (.k (.one (.pv (.int .i64 5))))⟩,
   ⟨none, some 20, 20, .mv (.t 21)⟩])
 (.cond 20 (.seq (.reg [⟨none, some 22, 22, .mv (.t 1)⟩,
   ⟨none, some 23, 23, .mv (.t 2)⟩,
   ⟨none, some 24, 24, .call 197 [0, 0] [(.t 22), (.t 23)]⟩,
   ⟨none, some 25, 25, .ext (.t 24) 0⟩,
   ⟨none, some 26, 26, .ext (.t 24) 1⟩,
   ⟨none, some 27, 27, .ext (.t 24) 2⟩,
   ⟨none, some 6, 6, .mv (.t 25)⟩,
   ⟨none, some 7, 7, .mv (.t 26)⟩,
   ⟨none, some 8, 8, .mv (.t 27)⟩])
 (.ret)) (.skip)))))))
 (.seq (.reg [⟨none, some 29, 29, .mv (.t 0)⟩,
   ⟨none, some 30, 30, .mv (.t 1)⟩,
   ⟨none, some 31, 31, .mv (.t 2)⟩,
   ⟨none, some 32, 32, .iaddr 1 (.t 30) (.t 31)⟩,
   ⟨none, some 33, 33, .load none (.t 32)⟩,
   ⟨none, some 34, 34, .conv (.int .i64) (.t 33)⟩,
   ⟨none, some 35, 35, .call 198 [0, 0] [(.t 29), (.t 34)]⟩,
   ⟨none, some 28, 28, .mv (.t 35)⟩,
   ⟨none, some 36, 36, .ext (.t 28) 0⟩,
   ⟨none, some 37, 37, .ext (.t 28) 1⟩,
   ⟨none, some 9, 9, .mv (.t 36)⟩,
   ⟨none, some 10, 10, .mv (.t 37)⟩])
 (.seq (.reg [⟨none, some 38, 38, .mv (.t 9)⟩,
   ⟨none, some 39, 39, .mv (.t 2)⟩,
   ⟨none, some 40, 40, .bin .add (.t 39) (.k (.one (.pv (.int .i64 1))))⟩,
   ⟨none, some 41, 41, .mv (.t 10)⟩,
   ⟨none, some 6, 6, .mv (.t 38)⟩,
   ⟨none, some 7, 7, .mv (.t 40)⟩,
   ⟨none, some 8, 8, .mv (.t 41)⟩])
 (.ret))))⟩
abbrev C_s_l5Get (Te : Nat → List AV → Res → Prop) : Prop := ∀ (cs : Int) (b : List UInt8) (i : Int) (hb : b.length ≤ 2 ^ 30) (hi : 0 ≤ i ∧ i < b.length), Te 157 [.one (iT cs), .one (slT false 1 uR b), .one (iT i)] ⟨[.one (iT (signIn cs b i).1), .one (iT (signIn cs b i).2.1), .one (bT (signIn cs b i).2.2)], [[iT cs], [slT false 1 uR b], [iT i]]⟩
theorem r_s_l5Get {Te : Nat → List AV → Res → Prop} (c_s_GetSign : C_s_GetSign Te) (c_s_EucSign : C_s_EucSign Te) (c_s_ByteSign : C_s_ByteSign Te) : ∀ (cs : Int) (b : List UInt8) (i : Int) (hb : b.length ≤ 2 ^ 30) (hi : 0 ≤ i ∧ i < b.length), RunFn Te x_s_l5Get [.one (iT cs), .one (slT false 1 uR b), .one (iT i)] ⟨[.one (iT (signIn cs b i).1), .one (iT (signIn cs b i).2.1), .one (bT (signIn cs b i).2.2)], [[iT cs], [slT false 1 uR b], [iT i]]⟩ := by
  intro cs b i hb hi
  refine ⟨by simp -implicitDefEqProofs only [x_s_l5Get, go_sem], ?_⟩
  cases g0 : (cs == 0)
  · have n0 : ¬ cs = 0 := by simpa using g0
    cases g5 : (cs == 5)
    · have n5 : ¬ cs = 5 := by simpa using g5
      have e : signIn cs b i = ((byteSign cs (byteN b i.toNat : Nat)).1, i + 1, (byteSign cs (byteN b i.toNat : Nat)).2) := by rw [signIn, if_neg n0, if_neg n5]
      have hk : i.toNat < b.length := by omega
      have eb : b[i.toNat].toNat = byteN b i.toNat := by
        simp only [byteN, List.getD_eq_getElem?_getD]
        rw [List.getElem?_eq_getElem hk]
        rfl
      have hlt := byteN_lt b i.toNat
      have w1 : IntKind.i64.wrap ((byteN b i.toNat : Nat) : Int) = (byteN b i.toNat : Nat) := IntWalk.i64_in _ (by omega)
      have w2 : IntKind.i64.wrap (i + 1) = i + 1 := IntWalk.i64_in _ (by omega)
      simp -implicitDefEqProofs only [x_s_l5Get, go_sem, true_implies, false_implies, g0, g5, List.getElem?_eq_getElem hk, eb, w1]
      repeat (refine ⟨decide_eq_true (by omega), ?_⟩)
      refine .of (c_s_ByteSign _ _) ?_
      try simp -implicitDefEqProofs only [go_sem, true_implies, false_implies, w2, e]
    · have n5 : cs = 5 := eq_of_beq g5
      subst n5
      have e : signIn 5 b i = eucSign b i := rfl
      simp -implicitDefEqProofs only [x_s_l5Get, go_sem, true_implies, false_implies]
      refine .of (c_s_EucSign b i hb) ?_
      try simp -implicitDefEqProofs only [go_sem, true_implies, false_implies, e]
  · have n0 : cs = 0 := eq_of_beq g0
    subst n0
    have e : signIn 0 b i = getSign b i := rfl
    simp -implicitDefEqProofs only [x_s_l5Get, go_sem, true_implies, false_implies]
    refine .of (c_s_GetSign b i (by omega)) ?_
    try simp -implicitDefEqProofs only [go_sem, true_implies, false_implies, e]
def x_i_Decode : FnX := ⟨35, [.tmp 4, .tmp 5],
  .seq (.reg [⟨none, some 4, 4, .mv (.k (.one (.pv (.string ⟨#[]⟩))))⟩,
   ⟨none, some 5, 5, .mv (.k (.one (.pv (.bool false))))⟩])
 (.seq (.seq (.reg [⟨none, some 11, 11, .mv (.t 0)⟩,
   ⟨none, some 12, 12, .call 163 [0] [(.t 11)]⟩,
   ⟨none, some 13, 13, .not (.t 12)⟩])
 (.cond 13 (.seq (.reg [⟨none, some 4, 4, .mv (.k (.one (.pv (.string ⟨#[]⟩))))⟩,
   ⟨none, some 5, 5, .mv (.k (.one (.pv (.bool false))))⟩])
 (.ret)) (.skip)))
 (.seq (.reg [⟨none, some 14, 14, .bslice 1 []⟩,
   ⟨none, some 6, 6, .mv (.t 14)⟩])
 (.seq (.seq (.reg [⟨none, some 7, 7, .mv (.k (.one (.pv (.int .i64 0))))⟩])
 (.block 0 (.loop [0, 1, 6, 7] (.seq (.seq (.reg [⟨none, some 15, 15, .mv (.t 7)⟩,
   ⟨none, some 16, 16, .mv (.t 1)⟩,
   ⟨none, some 17, 17, .len (.t 16)⟩,
   ⟨none, some 18, 18, .bin .lss (.t 15) (.t 17)⟩])
 (.cond 18 (.skip) (.exit 0)))
 (.block 1 (.seq (.reg [⟨none, some 20, 20, .mv (.t 0)⟩,
   ⟨none, some 21, 21, .mv (.t 1)⟩,
   ⟨none, some 22, 22, .mv (.t 7)⟩,
   ⟨none, some 23, 23, .call 164 [0, 0, 0] [(.t 20), (.t 21), (.t 22)]⟩,
   ⟨none, some 19, 19, .mv (.t 23)⟩,
   ⟨none, some 24, 24, .ext (.t 19) 0⟩,
   ⟨none, some 25, 25, .ext (.t 19) 1⟩,
   ⟨none, some 26, 26, .ext (.t 19) 2⟩,
   ⟨none, some 8, 8, .mv (.t 24)⟩,
   ⟨none, some 9, 9, .mv (.t 25)⟩,
   ⟨none, some 10, 10, .mv (.t 26)⟩])
 (.seq (.seq (.reg [⟨none, some 27, 27, .mv (.t 10)⟩,
   ⟨none, some 28, 28, .not (.t 27)⟩])
 (.cond 28 (.seq (.reg [⟨none, some 4, 4, .mv (.k (.one (.pv (.string ⟨#[]⟩))))⟩,
   ⟨none, some 5, 5, .mv (.k (.one (.pv (.bool false))))⟩])
 (.ret)) (.skip)))
 (.seq (.reg [⟨none, some 29, 29, .mv (.t 6)⟩,
   ⟨none, some 30, 30, .mv (.t 8)⟩,
   ⟨none, some 31, 31, .call 165 [0, 0] [(.t 29), (.t 30)]⟩,
   ⟨none, some 6, 6, .mv (.t 31)⟩])
 (.reg [⟨none, some 32, 32, .mv (.t 9)⟩,
   ⟨none, some 7, 7, .mv (.t 32)⟩])))))))))
 (.norm [6] (.seq (.reg [⟨none, some 33, 33, .mv (.t 6)⟩,
   ⟨none, some 34, 34, .conv .b2s (.t 33)⟩,
   ⟨none, some 4, 4, .mv (.t 34)⟩,
   ⟨none, some 5, 5, .mv (.k (.one (.pv (.bool true))))⟩])
 (.ret))))))⟩
abbrev C_i_Decode (Te : Nat → List AV → Res → Prop) : Prop := ∀ (cs : Int) (b : List UInt8) (hb : b.length ≤ 2 ^ 20), Te 119 [.one (iT cs), .one (slT false 1 uR b)] ⟨[.one (sT (decode cs b).1), .one (bT (decode cs b).2)], [[iT cs], [slT false 1 uR b]]⟩
theorem r_i_Decode {Te : Nat → List AV → Res → Prop} (c_i_isSet : C_i_isSet Te) (c_i_signIn : C_i_signIn Te) (c_i_PutSign : C_i_PutSign Te) : ∀ (cs : Int) (b : List UInt8) (hb : b.length ≤ 2 ^ 20), RunFn Te x_i_Decode [.one (iT cs), .one (slT false 1 uR b)] ⟨[.one (sT (decode cs b).1), .one (bT (decode cs b).2)], [[iT cs], [slT false 1 uR b]]⟩ := by
  intro cs b hb
  refine ⟨by simp -implicitDefEqProofs only [x_i_Decode, go_sem], ?_⟩
  cases g : win cs 0 5
  · have e : decode cs b = (⟨#[]⟩, false) := by rw [decode, g]; rfl
    simp -implicitDefEqProofs only [x_i_Decode, go_sem, true_implies, false_implies]
    refine .of (c_i_isSet _) ?_
    try simp -implicitDefEqProofs only [go_sem, true_implies, false_implies, g, e]
    try rfl
  · have e : decode cs b = decGo cs b b.length 0 [] := by rw [decode, g]; rfl
    rw [e]
    generalize hD : decGo cs b b.length 0 [] = D
    simp -implicitDefEqProofs only [x_i_Decode, go_sem, true_implies, false_implies]
    refine .of (c_i_isSet _) ?_
    try simp -implicitDefEqProofs only [go_sem, true_implies, false_implies, g]
    refine loop_of (σ := Nat × Nat × List UInt8) (fun x => ⟨[(0, .one (.pv (.int .i64 cs))), (1, .one (.ro 1 (b.map uR))), (6, .one (.rf 37 0 [] 1 0 x.2.2.length)), (7, .one (.pv (.int .i64 x.2.1)))], [], [(0, [iT cs]), (1, [slT false 1 uR b]), (37, [slT true 1 uR x.2.2])]⟩) (fun x => x.2.1 ≤ b.length ∧ b.length ≤ x.1 + x.2.1 ∧ x.2.2.length ≤ 4 * x.2.1 ∧ decGo cs b x.1 x.2.1 x.2.2 = D) (fun x => b.length - x.2.1) (b.length, 0, []) ?_ ⟨Nat.zero_le _, Nat.le_refl _, Nat.zero_le _, hD⟩ ?_
    · simp -implicitDefEqProofs only [go_sem]
      try rfl
    · rintro ⟨fu, i, out⟩ ⟨hi, hf, ho, hd⟩
      simp only at hi hf ho hd
      cases q : decide ((i : Int) < (b.length : Int))
      · have hq : ¬ (i : Int) < (b.length : Int) := by simpa using q
        rw [dec_end hq] at hd
        subst hd
        try simp -implicitDefEqProofs only [go_sem, true_implies, false_implies, q]
        refine ⟨areBytes_uR out, ?_⟩
        rw [bytesOf_uD]
        try rfl
      · have hq : (i : Int) < (b.length : Int) := by simpa using q
        obtain ⟨f, rfl⟩ : ∃ f, fu = f + 1 := ⟨fu - 1, by omega⟩
        have hs := c_i_signIn cs b i (by omega) ⟨by omega, hq⟩
        cases g2 : (signIn cs b i).2.2
        · rw [dec_bad hq g2] at hd
          subst hd
          try simp -implicitDefEqProofs only [go_sem, true_implies, false_implies, q]
          refine .of (hs) ?_
          try simp -implicitDefEqProofs only [go_sem, true_implies, false_implies, g2]
          try rfl
        · rw [dec_step hq g2] at hd
          have hn := signIn_next ⟨by omega, hq⟩ g2
          generalize signIn cs b i = r at hs g2 hd hn
          obtain ⟨n, nx, ok⟩ := r
          simp only at hs g2 hd hn
          subst g2
          obtain ⟨j, rfl⟩ : ∃ j : Nat, nx = j := ⟨nx.toNat, by omega⟩
          have hl := putSign_len out n
          try simp -implicitDefEqProofs only [go_sem, true_implies, false_implies, q]
          refine .of (hs) ?_
          try simp -implicitDefEqProofs only [go_sem, true_implies, false_implies]
          refine .of (c_i_PutSign out n (by omega)) ?_
          try simp -implicitDefEqProofs only [go_sem, true_implies, false_implies]
          exact ⟨(f, j, putSign out n), rfl, ⟨by simp only; omega, by simp only; omega, by simp only; omega, hd⟩, by simp only; omega⟩
def x_s_Decode : FnX := ⟨35, [.tmp 4, .tmp 5],
  .seq (.reg [⟨none, some 4, 4, .mv (.k (.one (.pv (.string ⟨#[]⟩))))⟩,
   ⟨none, some 5, 5, .mv (.k (.one (.pv (.bool false))))⟩])
 (.seq (.reg [⟨none, some 11, 11, .bslice 1 []⟩,
   ⟨none, some 6, 6, .mv (.t 11)⟩])
 (.seq (.seq (.reg [⟨none, some 12, 12, .mv (.t 0)⟩,
   ⟨none, some 13, 13, .call 156 [0] [(.t 12)]⟩,
   ⟨none, some 14, 14, .not (.t 13)⟩])
 (.cond 14 (.seq (.reg [⟨none, some 4, 4, .mv (.k (.one (.pv (.string ⟨#[]⟩))))⟩,
   ⟨none, some 5, 5, .mv (.k (.one (.pv (.bool false))))⟩])
 (.ret)) (.skip)))
 (.seq (.seq (.reg [⟨none, some 7, 7, .mv (.k (.one (.pv (.int .i64 0))))⟩])
 (.block 0 (.loop [0, 1, 6, 7] (.seq (.seq (.reg [⟨none, some 15, 15, .mv (.t 7)⟩,
   ⟨none, some 16, 16, .mv (.t 1)⟩,
   ⟨none, some 17, 17, .len (.t 16)⟩,
   ⟨none, some 18, 18, .bin .lss (.t 15) (.t 17)⟩])
 (.cond 18 (.skip) (.exit 0)))
 (.block 1 (.seq (.reg [⟨none, some 20, 20, .mv (.t 0)⟩,
   ⟨none, some 21, 21, .mv (.t 1)⟩,
   ⟨none, some 22, 22, .mv (.t 7)⟩,
   ⟨none, some 23, 23, .call 157 [0, 0, 0] [(.t 20), (.t 21), (.t 22)]⟩,
   ⟨none, some 19, 19, .mv (.t 23)⟩,
   ⟨none, some 24, 24, .ext (.t 19) 0⟩,
   ⟨none, some 25, 25, .ext (.t 19) 1⟩,
   ⟨none, some 26, 26, .ext (.t 19) 2⟩,
   ⟨none, some 8, 8, .mv (.t 24)⟩,
   ⟨none, some 9, 9, .mv (.t 25)⟩,
   ⟨none, some 10, 10, .mv (.t 26)⟩])
 (.seq (.seq (.reg [⟨none, some 27, 27, .mv (.t 10)⟩,
   ⟨none, some 28, 28, .not (.t 27)⟩])
 (.cond 28 (.seq (.reg [⟨none, some 4, 4, .mv (.k (.one (.pv (.string ⟨#[]⟩))))⟩,
   ⟨none, some 5, 5, .mv (.k (.one (.pv (.bool false))))⟩])
 (.ret)) (.skip)))
 (.seq (.reg [⟨none, some 29, 29, .mv (.t 6)⟩,
   ⟨none, some 30, 30, .mv (.t 8)⟩,
   ⟨none, some 31, 31, .call 158 [0, 0] [(.t 29), (.t 30)]⟩,
   ⟨none, some 6, 6, .mv (.t 31)⟩])
 (.reg [⟨none, some 32, 32, .mv (.t 9)⟩,
   ⟨none, some 7, 7, .mv (.t 32)⟩])))))))))
 (.norm [6] (.seq (.reg [⟨none, some 33, 33, .mv (.t 6)⟩,
   ⟨none, some 34, 34, .conv .b2s (.t 33)⟩,
   ⟨none, some 4, 4, .mv (.t 34)⟩,
   ⟨none, some 5, 5, .mv (.k (.one (.pv (.bool true))))⟩])
 (.ret))))))⟩
abbrev C_s_Decode (Te : Nat → List AV → Res → Prop) : Prop := ∀ (cs : Int) (b : List UInt8) (hb : b.length ≤ 2 ^ 20), Te 113 [.one (iT cs), .one (slT false 1 uR b)] ⟨[.one (sT (decode cs b).1), .one (bT (decode cs b).2)], [[iT cs], [slT false 1 uR b]]⟩
theorem r_s_Decode {Te : Nat → List AV → Res → Prop} (c_s_l5Cs : C_s_l5Cs Te) (c_s_l5Get : C_s_l5Get Te) (c_s_PutSign : C_s_PutSign Te) : ∀ (cs : Int) (b : List UInt8) (hb : b.length ≤ 2 ^ 20), RunFn Te x_s_Decode [.one (iT cs), .one (slT false 1 uR b)] ⟨[.one (sT (decode cs b).1), .one (bT (decode cs b).2)], [[iT cs], [slT false 1 uR b]]⟩ := by
  intro cs b hb
  refine ⟨by simp -implicitDefEqProofs only [x_s_Decode, go_sem], ?_⟩
  cases g : win cs 0 5
  · have e : decode cs b = (⟨#[]⟩, false) := by rw [decode, g]; rfl
    simp -implicitDefEqProofs only [x_s_Decode, go_sem, true_implies, false_implies]
    refine .of (c_s_l5Cs _) ?_
    try simp -implicitDefEqProofs only [go_sem, true_implies, false_implies, g, e]
    try rfl
  · have e : decode cs b = decGo cs b b.length 0 [] := by rw [decode, g]; rfl
    rw [e]
    generalize hD : decGo cs b b.length 0 [] = D
    simp -implicitDefEqProofs only [x_s_Decode, go_sem, true_implies, false_implies]
    refine .of (c_s_l5Cs _) ?_
    try simp -implicitDefEqProofs only [go_sem, true_implies, false_implies, g]
    refine loop_of (σ := Nat × Nat × List UInt8) (fun x => ⟨[(0, .one (.pv (.int .i64 cs))), (1, .one (.ro 1 (b.map uR))), (6, .one (.rf 37 0 [] 1 0 x.2.2.length)), (7, .one (.pv (.int .i64 x.2.1)))], [], [(0, [iT cs]), (1, [slT false 1 uR b]), (37, [slT true 1 uR x.2.2])]⟩) (fun x => x.2.1 ≤ b.length ∧ b.length ≤ x.1 + x.2.1 ∧ x.2.2.length ≤ 4 * x.2.1 ∧ decGo cs b x.1 x.2.1 x.2.2 = D) (fun x => b.length - x.2.1) (b.length, 0, []) ?_ ⟨Nat.zero_le _, Nat.le_refl _, Nat.zero_le _, hD⟩ ?_
    · simp -implicitDefEqProofs only [go_sem]
      try rfl
    · rintro ⟨fu, i, out⟩ ⟨hi, hf, ho, hd⟩
      simp only at hi hf ho hd
      cases q : decide ((i : Int) < (b.length : Int))
      · have hq : ¬ (i : Int) < (b.length : Int) := by simpa using q
        rw [dec_end hq] at hd
        subst hd
        try simp -implicitDefEqProofs only [go_sem, true_implies, false_implies, q]
        refine ⟨areBytes_uR out, ?_⟩
        rw [bytesOf_uD]
        try rfl
      · have hq : (i : Int) < (b.length : Int) := by simpa using q
        obtain ⟨f, rfl⟩ : ∃ f, fu = f + 1 := ⟨fu - 1, by omega⟩
        have hs := c_s_l5Get cs b i (by omega) ⟨by omega, hq⟩
        cases g2 : (signIn cs b i).2.2
        · rw [dec_bad hq g2] at hd
          subst hd
          try simp -implicitDefEqProofs only [go_sem, true_implies, false_implies, q]
          refine .of (hs) ?_
          try simp -implicitDefEqProofs only [go_sem, true_implies, false_implies, g2]
          try rfl
        · rw [dec_step hq g2] at hd
          have hn := signIn_next ⟨by omega, hq⟩ g2
          generalize signIn cs b i = r at hs g2 hd hn
          obtain ⟨n, nx, ok⟩ := r
          simp only at hs g2 hd hn
          subst g2
          obtain ⟨j, rfl⟩ : ∃ j : Nat, nx = j := ⟨nx.toNat, by omega⟩
          have hl := putSign_len out n
          try simp -implicitDefEqProofs only [go_sem, true_implies, false_implies, q]
          refine .of (hs) ?_
          try simp -implicitDefEqProofs only [go_sem, true_implies, false_implies]
          refine .of (c_s_PutSign out n (by omega)) ?_
          try simp -implicitDefEqProofs only [go_sem, true_implies, false_implies]
          exact ⟨(f, j, putSign out n), rfl, ⟨by simp only; omega, by simp only; omega, by simp only; omega, hd⟩, by simp only; omega⟩
end Go.X

/- Vd -/
namespace Go.X
set_option maxRecDepth 100000
set_option maxHeartbeats 8000000
def CellV.ok (c : CellV) : Bool := win c.Tag 0 5 && decide ((c.B.length : Int) ≤ 20)
def CellV.text (c : CellV) : ByteArray × Bool := if c.ok = true then decode c.Tag c.B else (⟨#[]⟩, false)
def CellV.no (c : CellV) : Bool := (c.Tag == 0) && decide (c.B = [])
def sameText (a c : CellV) : Bool := a.text.2 && c.text.2 && decide (a.text.1 = c.text.1)
theorem CellV.ok_len {c : CellV} (h : c.ok = true) : c.B.length ≤ 20 := by
  simp only [CellV.ok, Bool.and_eq_true, decide_eq_true_eq] at h
  omega
def x_i_CellOk : FnX := ⟨12, [.tmp 2],
  .seq (.reg [⟨none, some 1, 1, .box (.t 0)⟩,
   ⟨none, some 2, 2, .mv (.k (.one (.pv (.bool false))))⟩])
 (.seq (.reg [⟨none, some 3, 3, .faddr (.t 1) 0⟩,
   ⟨none, some 4, 4, .load none (.t 3)⟩,
   ⟨none, some 5, 5, .call 163 [0] [(.t 4)]⟩,
   ⟨none, some 6, 6, .mv (.t 5)⟩,
   ⟨(some (6, true)), some 7, 7, .faddr (.t 1) 1⟩,
   ⟨(some (6, true)), some 8, 8, .load none (.t 7)⟩,
   ⟨(some (6, true)), some 9, 9, .len (.t 8)⟩,
   ⟨(some (6, true)), some 10, 10, .bin .leq (.t 9) (.k (.one (.pv (.int .i64 20))))⟩,
   ⟨none, some 11, 11, .pick (.t 6) (.t 10) (.k (.one (.pv (.bool false))))⟩,
   ⟨none, some 2, 2, .mv (.t 11)⟩])
 (.ret))⟩
abbrev C_i_CellOk (Te : Nat → List AV → Res → Prop) : Prop := ∀ (c : CellV), Te 118 [.agg (c.enc false)] ⟨[.one (bT c.ok)], [c.enc false]⟩
theorem r_i_CellOk {Te : Nat → List AV → Res → Prop} (c_i_isSet : C_i_isSet Te) : ∀ (c : CellV), RunFn Te x_i_CellOk [.agg (c.enc false)] ⟨[.one (bT c.ok)], [c.enc false]⟩ := by
  intro c
  refine ⟨by simp -implicitDefEqProofs only [x_i_CellOk, go_sem], ?_⟩
  simp -implicitDefEqProofs only [x_i_CellOk, go_sem, true_implies, false_implies, CellV.ok]
  refine .of (c_i_isSet _) ?_
  try simp -implicitDefEqProofs only [go_sem, true_implies, false_implies]
  cases g : win c.Tag 0 5
  · try simp -implicitDefEqProofs only [go_sem, true_implies, false_implies, g]
  · try simp -implicitDefEqProofs only [go_sem, true_implies, false_implies, g]
def x_i_CellText : FnX := ⟨14, [.tmp 2, .tmp 3],
  .seq (.reg [⟨none, some 1, 1, .box (.t 0)⟩,
   ⟨none, some 2, 2, .mv (.k (.one (.pv (.string ⟨#[]⟩))))⟩,
   ⟨none, some 3, 3, .mv (.k (.one (.pv (.bool false))))⟩])
 (.seq (.seq (.reg [⟨none, some 4, 4, .load (some 2) (.t 1)⟩,
   ⟨none, some 5, 5, .call 118 [0] [(.t 4)]⟩,
   ⟨none, some 6, 6, .not (.t 5)⟩])
 (.cond 6 (.seq (.reg [⟨none, some 2, 2, .mv (.k (.one (.pv (.string ⟨#[]⟩))))⟩,
   ⟨none, some 3, 3, .mv (.k (.one (.pv (.bool false))))⟩])
 (.ret)) (.skip)))
 (.seq (.reg [⟨none, some 7, 7, .faddr (.t 1) 0⟩,
   ⟨none, some 8, 8, .load none (.t 7)⟩,
   ⟨none, some 9, 9, .faddr (.t 1) 1⟩,
   ⟨none, some 10, 10, .load none (.t 9)⟩,
   ⟨none, some 11, 11, .call 119 [0, 0] [(.t 8), (.t 10)]⟩,
   ⟨none, some 12, 12, .ext (.t 11) 0⟩,
   ⟨none, some 13, 13, .ext (.t 11) 1⟩,
   ⟨none, some 2, 2, .mv (.t 12)⟩,
   ⟨none, some 3, 3, .mv (.t 13)⟩])
 (.ret)))⟩
abbrev C_i_CellText (Te : Nat → List AV → Res → Prop) : Prop := ∀ (c : CellV), Te 71 [.agg (c.enc false)] ⟨[.one (sT c.text.1), .one (bT c.text.2)], [c.enc false]⟩
theorem r_i_CellText {Te : Nat → List AV → Res → Prop} (c_i_CellOk : C_i_CellOk Te) (c_i_Decode : C_i_Decode Te) : ∀ (c : CellV), RunFn Te x_i_CellText [.agg (c.enc false)] ⟨[.one (sT c.text.1), .one (bT c.text.2)], [c.enc false]⟩ := by
  intro c
  refine ⟨by simp -implicitDefEqProofs only [x_i_CellText, go_sem], ?_⟩
  simp -implicitDefEqProofs only [x_i_CellText, go_sem, true_implies, false_implies]
  refine .of (c_i_CellOk c) ?_
  try simp -implicitDefEqProofs only [go_sem, true_implies, false_implies]
  cases g : c.ok
  · have e : c.text = (⟨#[]⟩, false) := by rw [CellV.text, g]; rfl
    try simp -implicitDefEqProofs only [go_sem, true_implies, false_implies, e]
  · have e : c.text = decode c.Tag c.B := by rw [CellV.text, g]; rfl
    try simp -implicitDefEqProofs only [go_sem, true_implies, false_implies, e]
    refine .of (c_i_Decode c.Tag c.B (by have := CellV.ok_len g; omega)) ?_
    try simp -implicitDefEqProofs only [go_sem, true_implies, false_implies, e]
def x_i_SameText : FnX := ⟨28, [.tmp 4],
  .seq (.reg [⟨none, some 2, 2, .box (.t 0)⟩,
   ⟨none, some 3, 3, .box (.t 1)⟩,
   ⟨none, some 4, 4, .mv (.k (.one (.pv (.bool false))))⟩])
 (.seq (.reg [⟨none, some 10, 10, .load (some 2) (.t 2)⟩,
   ⟨none, some 11, 11, .call 71 [0] [(.t 10)]⟩,
   ⟨none, some 9, 9, .mv (.t 11)⟩,
   ⟨none, some 12, 12, .ext (.t 9) 0⟩,
   ⟨none, some 13, 13, .ext (.t 9) 1⟩,
   ⟨none, some 5, 5, .mv (.t 12)⟩,
   ⟨none, some 6, 6, .mv (.t 13)⟩])
 (.seq (.reg [⟨none, some 15, 15, .load (some 2) (.t 3)⟩,
   ⟨none, some 16, 16, .call 71 [0] [(.t 15)]⟩,
   ⟨none, some 14, 14, .mv (.t 16)⟩,
   ⟨none, some 17, 17, .ext (.t 14) 0⟩,
   ⟨none, some 18, 18, .ext (.t 14) 1⟩,
   ⟨none, some 7, 7, .mv (.t 17)⟩,
   ⟨none, some 8, 8, .mv (.t 18)⟩])
 (.seq (.reg [⟨none, some 19, 19, .mv (.t 6)⟩,
   ⟨none, some 20, 20, .mv (.t 19)⟩,
   ⟨(some (20, true)), some 21, 21, .mv (.t 8)⟩,
   ⟨none, some 22, 22, .pick (.t 20) (.t 21) (.k (.one (.pv (.bool false))))⟩,
   ⟨none, some 23, 23, .mv (.t 22)⟩,
   ⟨(some (23, true)), some 24, 24, .mv (.t 5)⟩,
   ⟨(some (23, true)), some 25, 25, .mv (.t 7)⟩,
   ⟨(some (23, true)), some 26, 26, .bin .eql (.t 24) (.t 25)⟩,
   ⟨none, some 27, 27, .pick (.t 23) (.t 26) (.k (.one (.pv (.bool false))))⟩,
   ⟨none, some 4, 4, .mv (.t 27)⟩])
 (.ret))))⟩
abbrev C_i_SameText (Te : Nat → List AV → Res → Prop) : Prop := ∀ (a c : CellV), Te 220 [.agg (a.enc false), .agg (c.enc false)] ⟨[.one (bT (sameText a c))], [a.enc false, c.enc false]⟩
theorem r_i_SameText {Te : Nat → List AV → Res → Prop} (c_i_CellText : C_i_CellText Te) : ∀ (a c : CellV), RunFn Te x_i_SameText [.agg (a.enc false), .agg (c.enc false)] ⟨[.one (bT (sameText a c))], [a.enc false, c.enc false]⟩ := by
  intro a c
  refine ⟨by simp -implicitDefEqProofs only [x_i_SameText, go_sem], ?_⟩
  simp -implicitDefEqProofs only [x_i_SameText, go_sem, true_implies, false_implies, sameText]
  refine .of (c_i_CellText a) ?_
  try simp -implicitDefEqProofs only [go_sem, true_implies, false_implies]
  refine .of (c_i_CellText c) ?_
  try simp -implicitDefEqProofs only [go_sem, true_implies, false_implies]
  cases g1 : a.text.2
  · try simp -implicitDefEqProofs only [go_sem, true_implies, false_implies, g1]
  · cases g2 : c.text.2
    · try simp -implicitDefEqProofs only [go_sem, true_implies, false_implies, g1, g2]
    · try simp -implicitDefEqProofs only [go_sem, true_implies, false_implies, g1, g2, bytes_beq]
def x_s_CellOk : FnX := ⟨12, [.tmp 2],
  .seq (.reg [⟨none, some 1, 1, .box (.t 0)⟩,
   ⟨none, some 2, 2, .mv (.k (.one (.pv (.bool false))))⟩])
 (.seq (.reg [⟨none, some 3, 3, .faddr (.t 1) 0⟩,
   ⟨none, some 4, 4, .load none (.t 3)⟩,
   ⟨none, some 5, 5, .call 156 [0] [(.t 4)]⟩,
   ⟨none, some 6, 6, .mv (.t 5)⟩,
   ⟨(some (6, true)), some 7, 7, .faddr (.t 1) 1⟩,
   ⟨(some (6, true)), some 8, 8, .load none (.t 7)⟩,
   ⟨(some (6, true)), some 9, 9, .len (.t 8)⟩,
   ⟨(some (6, true)), some 10, 10, .bin .leq (.t 9) (.k (.one (.pv (.int .i64 20))))⟩,
   ⟨none, some 11, 11, .pick (.t 6) (.t 10) (.k (.one (.pv (.bool false))))⟩,
   ⟨none, some 2, 2, .mv (.t 11)⟩])
 (.ret))⟩
abbrev C_s_CellOk (Te : Nat → List AV → Res → Prop) : Prop := ∀ (c : CellV), Te 112 [.agg (c.enc false)] ⟨[.one (bT c.ok)], [c.enc false]⟩
theorem r_s_CellOk {Te : Nat → List AV → Res → Prop} (c_s_l5Cs : C_s_l5Cs Te) : ∀ (c : CellV), RunFn Te x_s_CellOk [.agg (c.enc false)] ⟨[.one (bT c.ok)], [c.enc false]⟩ := by
  intro c
  refine ⟨by simp -implicitDefEqProofs only [x_s_CellOk, go_sem], ?_⟩
  simp -implicitDefEqProofs only [x_s_CellOk, go_sem, true_implies, false_implies, CellV.ok]
  refine .of (c_s_l5Cs _) ?_
  try simp -implicitDefEqProofs only [go_sem, true_implies, false_implies]
  cases g : win c.Tag 0 5
  · try simp -implicitDefEqProofs only [go_sem, true_implies, false_implies, g]
  · try simp -implicitDefEqProofs only [go_sem, true_implies, false_implies, g]
def x_s_CellText : FnX := ⟨14, [.tmp 2, .tmp 3],
  .seq (.reg [⟨none, some 1, 1, .box (.t 0)⟩,
   ⟨none, some 2, 2, .mv (.k (.one (.pv (.string ⟨#[]⟩))))⟩,
   ⟨none, some 3, 3, .mv (.k (.one (.pv (.bool false))))⟩])
 (.seq (.seq (.reg [⟨none, some 4, 4, .load (some 2) (.t 1)⟩,
   ⟨none, some 5, 5, .call 112 [0] [(.t 4)]⟩,
   ⟨none, some 6, 6, .not (.t 5)⟩])
 (.cond 6 (.seq (.reg [⟨none, some 2, 2, .mv (.k (.one (.pv (.string ⟨#[]⟩))))⟩,
   ⟨none, some 3, 3, .mv (.k (.one (.pv (.bool false))))⟩])
 (.ret)) (.skip)))
 (.seq (.reg [⟨none, some 7, 7, .faddr (.t 1) 0⟩,
   ⟨none, some 8, 8, .load none (.t 7)⟩,
   ⟨none, some 9, 9, .faddr (.t 1) 1⟩,
   ⟨none, some 10, 10, .load none (.t 9)⟩,
   ⟨none, some 11, 11, .call 113 [0, 0] [(.t 8), (.t 10)]⟩,
   ⟨none, some 12, 12, .ext (.t 11) 0⟩,
   ⟨none, some 13, 13, .ext (.t 11) 1⟩,
   ⟨none, some 2, 2, .mv (.t 12)⟩,
   ⟨none, some 3, 3, .mv (.t 13)⟩])
 (.ret)))⟩
abbrev C_s_CellText (Te : Nat → List AV → Res → Prop) : Prop := ∀ (c : CellV), Te 66 [.agg (c.enc false)] ⟨[.one (sT c.text.1), .one (bT c.text.2)], [c.enc false]⟩
theorem r_s_CellText {Te : Nat → List AV → Res → Prop} (c_s_CellOk : C_s_CellOk Te) (c_s_Decode : C_s_Decode Te) : ∀ (c : CellV), RunFn Te x_s_CellText [.agg (c.enc false)] ⟨[.one (sT c.text.1), .one (bT c.text.2)], [c.enc false]⟩ := by
  intro c
  refine ⟨by simp -implicitDefEqProofs only [x_s_CellText, go_sem], ?_⟩
  simp -implicitDefEqProofs only [x_s_CellText, go_sem, true_implies, false_implies]
  refine .of (c_s_CellOk c) ?_
  try simp -implicitDefEqProofs only [go_sem, true_implies, false_implies]
  cases g : c.ok
  · have e : c.text = (⟨#[]⟩, false) := by rw [CellV.text, g]; rfl
    try simp -implicitDefEqProofs only [go_sem, true_implies, false_implies, e]
  · have e : c.text = decode c.Tag c.B := by rw [CellV.text, g]; rfl
    try simp -implicitDefEqProofs only [go_sem, true_implies, false_implies, e]
    refine .of (c_s_Decode c.Tag c.B (by have := CellV.ok_len g; omega)) ?_
    try simp -implicitDefEqProofs only [go_sem, true_implies, false_implies, e]
def x_s_SameText : FnX := ⟨28, [.tmp 4],
  .seq (.reg [⟨none, some 2, 2, .box (.t 0)⟩,
   ⟨none, some 3, 3, .box (.t 1)⟩,
   ⟨none, some 4, 4, .mv (.k (.one (.pv (.bool false))))⟩])
 (.seq (.reg [⟨none, some 10, 10, .load (some 2) (.t 2)⟩,
   ⟨none, some 11, 11, .call 66 [0] [(.t 10)]⟩,
   ⟨none, some 9, 9, .mv (.t 11)⟩,
   ⟨none, some 12, 12, .ext (.t 9) 0⟩,
   ⟨none, some 13, 13, .ext (.t 9) 1⟩,
   ⟨none, some 5, 5, .mv (.t 12)⟩,
   ⟨none, some 6, 6, .mv (.t 13)⟩])
 (.seq (.reg [⟨none, some 15, 15, .load (some 2) (.t 3)⟩,
   ⟨none, some 16, 16, .call 66 [0] [(.t 15)]⟩,
   ⟨none, some 14, 14, .mv (.t 16)⟩,
   ⟨none, some 17, 17, .ext (.t 14) 0⟩,
   ⟨none, some 18, 18, .ext (.t 14) 1⟩,
   ⟨none, some 7, 7, .mv (.t 17)⟩,
   ⟨none, some 8, 8, .mv (.t 18)⟩])
 (.seq (.reg [⟨none, some 19, 19, .mv (.t 6)⟩,
   ⟨none, some 20, 20, .mv (.t 19)⟩,
   ⟨(some (20, true)), some 21, 21, .mv (.t 8)⟩,
   ⟨none, some 22, 22, .pick (.t 20) (.t 21) (.k (.one (.pv (.bool false))))⟩,
   ⟨none, some 23, 23, .mv (.t 22)⟩,
   ⟨(some (23, true)), some 24, 24, .mv (.t 5)⟩,
   ⟨(some (23, true)), some 25, 25, .mv (.t 7)⟩,
   ⟨(some (23, true)), some 26, 26, .bin .eql (.t 24) (.t 25)⟩,
   ⟨none, some 27, 27, .pick (.t 23) (.t 26) (.k (.one (.pv (.bool false))))⟩,
   ⟨none, some 4, 4, .mv (.t 27)⟩])
 (.ret))))⟩
abbrev C_s_SameText (Te : Nat → List AV → Res → Prop) : Prop := ∀ (a c : CellV), Te 218 [.agg (a.enc false), .agg (c.enc false)] ⟨[.one (bT (sameText a c))], [a.enc false, c.enc false]⟩
theorem r_s_SameText {Te : Nat → List AV → Res → Prop} (c_s_CellText : C_s_CellText Te) : ∀ (a c : CellV), RunFn Te x_s_SameText [.agg (a.enc false), .agg (c.enc false)] ⟨[.one (bT (sameText a c))], [a.enc false, c.enc false]⟩ := by
  intro a c
  refine ⟨by simp -implicitDefEqProofs only [x_s_SameText, go_sem], ?_⟩
  simp -implicitDefEqProofs only [x_s_SameText, go_sem, true_implies, false_implies, sameText]
  refine .of (c_s_CellText a) ?_
  try simp -implicitDefEqProofs only [go_sem, true_implies, false_implies]
  refine .of (c_s_CellText c) ?_
  try simp -implicitDefEqProofs only [go_sem, true_implies, false_implies]
  cases g1 : a.text.2
  · try simp -implicitDefEqProofs only [go_sem, true_implies, false_implies, g1]
  · cases g2 : c.text.2
    · try simp -implicitDefEqProofs only [go_sem, true_implies, false_implies, g1, g2]
    · try simp -implicitDefEqProofs only [go_sem, true_implies, false_implies, g1, g2, bytes_beq]
theorem bytes_lists (a c : List UInt8) : decide ((⟨a.toArray⟩ : ByteArray) = ⟨c.toArray⟩) = decide (a = c) := by
  congr 1
  simp
def x_i_sameCell : FnX := ⟨19, [.tmp 4],
  .seq (.reg [⟨none, some 2, 2, .box (.t 0)⟩,
   ⟨none, some 3, 3, .box (.t 1)⟩,
   ⟨none, some 4, 4, .mv (.k (.one (.pv (.bool false))))⟩])
 (.seq (.reg [⟨none, some 5, 5, .faddr (.t 2) 0⟩,
   ⟨none, some 6, 6, .load none (.t 5)⟩,
   ⟨none, some 7, 7, .faddr (.t 3) 0⟩,
   ⟨none, some 8, 8, .load none (.t 7)⟩,
   ⟨none, some 9, 9, .bin .eql (.t 6) (.t 8)⟩,
   ⟨none, some 10, 10, .mv (.t 9)⟩,
   ⟨(some (10, true)), some 11, 11, .faddr (.t 2) 1⟩,
   ⟨(some (10, true)), some 12, 12, .load none (.t 11)⟩,
   ⟨(some (10, true)), some 13, 13, .conv .b2s (.t 12)⟩,
   ⟨(some (10, true)), some 14, 14, .faddr (.t 3) 1⟩,
   ⟨(some (10, true)), some 15, 15, .load none (.t 14)⟩,
   ⟨(some (10, true)), some 16, 16, .conv .b2s (.t 15)⟩,
   ⟨(some (10, true)), some 17, 17, .bin .eql (.t 13) (.t 16)⟩,
   ⟨none, some 18, 18, .pick (.t 10) (.t 17) (.k (.one (.pv (.bool false))))⟩,
   ⟨none, some 4, 4, .mv (.t 18)⟩])
 (.ret))⟩
abbrev C_i_sameCell (Te : Nat → List AV → Res → Prop) : Prop := ∀ (a c : CellV), Te 219 [.agg (a.enc false), .agg (c.enc false)] ⟨[.one (bT ((a.Tag == c.Tag) && decide (a.B = c.B)))], [a.enc false, c.enc false]⟩
theorem r_i_sameCell {Te : Nat → List AV → Res → Prop} : ∀ (a c : CellV), RunFn Te x_i_sameCell [.agg (a.enc false), .agg (c.enc false)] ⟨[.one (bT ((a.Tag == c.Tag) && decide (a.B = c.B)))], [a.enc false, c.enc false]⟩ := by
  intro a c
  refine ⟨by simp -implicitDefEqProofs only [x_i_sameCell, go_sem], ?_⟩
  cases g : (a.Tag == c.Tag)
  · simp -implicitDefEqProofs only [x_i_sameCell, go_sem, true_implies, false_implies, g]
  · have ea := areBytes_uR a.B
    have ec := areBytes_uR c.B
    have fa := bytesOf_uR a.B
    have fc := bytesOf_uR c.B
    simp -implicitDefEqProofs only [x_i_sameCell, go_sem, true_implies, false_implies, g, ea, ec, fa, fc, bytes_beq, bytes_lists]
theorem none_len (l : List UInt8) : ((l.length : Int) == 0) = decide (l = []) := by
  cases l with
  | nil => rfl
  | cons a l =>
    have h1 : (((a :: l).length : Int) == 0) = false := by simp only [beq_eq_false_iff_ne, List.length_cons]; omega
    rw [h1]
    simp
def x_s_l9None : FnX := ⟨12, [.tmp 2],
  .seq (.reg [⟨none, some 1, 1, .box (.t 0)⟩,
   ⟨none, some 2, 2, .mv (.k (.one (.pv (.bool false))))⟩])
 (.seq (.reg [⟨none, some 3, 3, .faddr (.t 1) 0⟩,
   ⟨none, some 4, 4, .load none (.t 3)⟩,
   ⟨none, some 5, 5, .bin .eql (.t 4) (.k (.one (.pv (.int .i64 0))))⟩,
   ⟨none, some 6, 6, .mv (.t 5)⟩,
   ⟨(some (6, true)), some 7, 7, .faddr (.t 1) 1⟩,
   ⟨(some (6, true)), some 8, 8, .load none (.t 7)⟩,
   ⟨(some (6, true)), some 9, 9, .len (.t 8)⟩,
   ⟨(some (6, true)), some 10, 10, .bin .eql (.t 9) (.k (.one (.pv (.int .i64 0))))⟩,
   ⟨none, some 11, 11, .pick (.t 6) (.t 10) (.k (.one (.pv (.bool false))))⟩,
   ⟨none, some 2, 2, .mv (.t 11)⟩])
 (.ret))⟩
abbrev C_s_l9None (Te : Nat → List AV → Res → Prop) : Prop := ∀ (c : CellV), Te 217 [.agg (c.enc false)] ⟨[.one (bT c.no)], [c.enc false]⟩
theorem r_s_l9None {Te : Nat → List AV → Res → Prop} : ∀ (c : CellV), RunFn Te x_s_l9None [.agg (c.enc false)] ⟨[.one (bT c.no)], [c.enc false]⟩ := by
  intro c
  refine ⟨by simp -implicitDefEqProofs only [x_s_l9None, go_sem], ?_⟩
  cases g : (c.Tag == 0)
  · simp -implicitDefEqProofs only [x_s_l9None, go_sem, true_implies, false_implies, CellV.no, g]
  · simp -implicitDefEqProofs only [x_s_l9None, go_sem, true_implies, false_implies, CellV.no, g, none_len]
def nameCh (x : UInt8) : Bool := win x.toNat 97 122 || win x.toNat 48 57
def nameOk (s : ByteArray) : Bool := s.data.toList.all nameCh && win s.size 1 6
def x_i_NameOk : FnX := ⟨27, [.tmp 2],
  .seq (.reg [⟨none, some 2, 2, .mv (.k (.one (.pv (.bool false))))⟩])
 (.seq (.seq (.reg [⟨none, some 3, 3, .mv (.k (.one (.pv (.int .i64 0))))⟩])
 (.block 0 (.loop [0, 3] (.seq (.seq (.reg [⟨none, some 4, 4, .mv (.t 3)⟩,
   ⟨none, some 5, 5, .mv (.t 0)⟩,
   ⟨none, some 6, 6, .slen (.t 5)⟩,
   ⟨none, some 7, 7, .bin .lss (.t 4) (.t 6)⟩])
 (.cond 7 (.skip) (.exit 0)))
 (.seq (.block 1 (.seq (.reg [⟨none, some 10, 10, .mv (.t 0)⟩,
   ⟨none, some 11, 11, .mv (.t 3)⟩,
   ⟨none, some 12, 12, .sidx (.t 10) (.t 11)⟩,
   ⟨none, some 13, 13, .conv (.int .i64) (.t 12)⟩,
   ⟨none, some 14, 14, .call 31 [0, 0, 0] [(.t 13), (.k (.one (.pv (.int .i64 97)))), (.k (.one (.pv (.int .i64 122))))]⟩,
   ⟨none, some 15, 15, .not (.t 14)⟩,
   ⟨none, some 16, 16, .mv (.t 15)⟩,
   ⟨(some (16, true)), some 17, 17, .mv (.t 0)⟩,
   ⟨(some (16, true)), some 18, 18, .mv (.t 3)⟩,
   ⟨(some (16, true)), some 19, 19, .sidx (.t 17) (.t 18)⟩,
   ⟨(some (16, true)), some 20, 20, .conv (.int .i64) (.t 19)⟩,
   ⟨(some (16, true)), some 21, 21, .call 31 [0, 0, 0] [(.t 20), (.k (.one (.pv (.int .i64 48)))), (.k (.one (.pv (.int .i64 57))))]⟩,
   ⟨(some (16, true)), some 22, 22, .not (.t 21)⟩,
   ⟨none, some 23, 23, .pick (.t 16) (.t 22) (.k (.one (.pv (.bool false))))⟩])
 (.cond 23 (.seq (.reg [⟨none, some 2, 2, .mv (.k (.one (.pv (.bool false))))⟩])
 (.ret)) (.skip))))
 (.reg [⟨none, some 8, 8, .mv (.t 3)⟩,
   ⟨none, some 9, 9, .bin .add (.t 8) (.k (.one (.pv (.int .i64 1))))⟩,
   ⟨none, some 3, 3, .mv (.t 9)⟩]))))))
 (.norm [0] (.seq (.reg [⟨none, some 24, 24, .mv (.t 0)⟩,
   ⟨none, some 25, 25, .slen (.t 24)⟩,
   ⟨none, some 26, 26, .call 31 [0, 0, 0] [(.t 25), (.k (.one (.pv (.int .i64 1)))), (.k (.one (.pv (.int .i64 6))))]⟩,
   ⟨none, some 2, 2, .mv (.t 26)⟩])
 (.ret))))⟩
abbrev C_i_NameOk (Te : Nat → List AV → Res → Prop) : Prop := ∀ (s : ByteArray) (h : s.size ≤ 2 ^ 48), Te 215 [.one (sT s)] ⟨[.one (bT (nameOk s))], [[sT s]]⟩
theorem r_i_NameOk {Te : Nat → List AV → Res → Prop} (c_i_within : C_i_within Te) : ∀ (s : ByteArray) (h : s.size ≤ 2 ^ 48), RunFn Te x_i_NameOk [.one (sT s)] ⟨[.one (bT (nameOk s))], [[sT s]]⟩ := by
  intro s h
  refine ⟨by simp -implicitDefEqProofs only [x_i_NameOk, go_sem], ?_⟩
  have hsz : s.data.toList.length = s.size := by rw [Array.length_toList]; rfl
  simp -implicitDefEqProofs only [x_i_NameOk, go_sem, true_implies, false_implies, nameOk]
  refine loop_of (σ := Nat) (fun i => ⟨[(0, .one (.pv (.string s))), (3, .one (.pv (.int .i64 i)))], [], [(0, [sT s])]⟩) (fun i => i ≤ s.size ∧ (s.data.toList.take i).all nameCh = true) (fun i => s.size - i) 0 ?_ ⟨Nat.zero_le _, rfl⟩ ?_
  · simp -implicitDefEqProofs only [go_sem]; rfl
  · rintro i ⟨hi, hp⟩
    cases q : decide ((i : Int) < (s.size : Int))
    · have e := all_end (p := nameCh) (show s.data.toList.length ≤ i by simp only [decide_eq_false_iff_not] at q; omega) hp
      try simp -implicitDefEqProofs only [go_sem, true_implies, false_implies, q]
      refine .of (c_i_within _ _ _) ?_
      try simp -implicitDefEqProofs only [go_sem, true_implies, false_implies, e]
    · have hi' : i < s.size := by simp only [decide_eq_true_eq] at q; omega
      have hi2 : i < s.data.toList.length := by omega
      have q1 : decide (i < s.size) = true := decide_eq_true hi'
      have eg : s.data.toList.getD i 0 = s.data.toList[i] := by rw [List.getD_eq_getElem?_getD, List.getElem?_eq_getElem hi2]; rfl
      have hb := s.data.toList[i].toNat_lt
      have w1 : IntKind.i64.wrap ((s.data.toList[i].toNat : Nat) : Int) = (s.data.toList[i].toNat : Nat) := IntWalk.i64_in _ (by omega)
      try simp -implicitDefEqProofs only [go_sem, true_implies, false_implies, q, q1, eg, w1]
      refine .of (c_i_within _ _ _) ?_
      try simp -implicitDefEqProofs only [go_sem, true_implies, false_implies]
      cases g1 : win ((s.data.toList[i].toNat : Nat) : Int) 97 122
      · try simp -implicitDefEqProofs only [go_sem, true_implies, false_implies, q1, eg, w1]
        refine .of (c_i_within _ _ _) ?_
        try simp -implicitDefEqProofs only [go_sem, true_implies, false_implies]
        cases g2 : win ((s.data.toList[i].toNat : Nat) : Int) 48 57
        · have e := all_not (p := nameCh) hi2 (by simp only [nameCh, g1, g2, Bool.or_false])
          try simp -implicitDefEqProofs only [go_sem, true_implies, false_implies, e]
        · try simp -implicitDefEqProofs only [go_sem, true_implies, false_implies]
          refine ⟨i + 1, by rw [IntWalk.i64_in _ (by omega)]; rfl, ⟨hi', all_step (p := nameCh) hi2 hp (by simp only [nameCh, g1, g2, Bool.or_true])⟩, by omega⟩
      · try simp -implicitDefEqProofs only [go_sem, true_implies, false_implies]
        refine ⟨i + 1, by rw [IntWalk.i64_in _ (by omega)]; rfl, ⟨hi', all_step (p := nameCh) hi2 hp (by simp only [nameCh, g1, Bool.true_or])⟩, by omega⟩
def x_s_NameOk : FnX := ⟨27, [.tmp 2],
  .seq (.reg [⟨none, some 2, 2, .mv (.k (.one (.pv (.bool false))))⟩])
 (.seq (.seq (.reg [⟨none, some 3, 3, .mv (.k (.one (.pv (.int .i64 0))))⟩])
 (.block 0 (.loop [0, 3] (.seq (.seq (.reg [⟨none, some 4, 4, .mv (.t 3)⟩,
   ⟨none, some 5, 5, .mv (.t 0)⟩,
   ⟨none, some 6, 6, .slen (.t 5)⟩,
   ⟨none, some 7, 7, .bin .lss (.t 4) (.t 6)⟩])
 (.cond 7 (.skip) (.exit 0)))
 (.seq (.block 1 (.seq (.reg [⟨none, some 10, 10, .mv (.t 0)⟩,
   ⟨none, some 11, 11, .mv (.t 3)⟩,
   ⟨none, some 12, 12, .sidx (.t 10) (.t 11)⟩,
   ⟨none, some 13, 13, .conv (.int .i64) (.t 12)⟩,
   ⟨none, some 14, 14, .call 29 [0, 0, 0] [(.t 13), (.k (.one (.pv (.int .i64 97)))), (.k (.one (.pv (.int .i64 122))))]⟩,
   ⟨none, some 15, 15, .not (.t 14)⟩,
   ⟨none, some 16, 16, .mv (.t 15)⟩,
   ⟨(some (16, true)), some 17, 17, .mv (.t 0)⟩,
   ⟨(some (16, true)), some 18, 18, .mv (.t 3)⟩,
   ⟨(some (16, true)), some 19, 19, .sidx (.t 17) (.t 18)⟩,
   ⟨(some (16, true)), some 20, 20, .conv (.int .i64) (.t 19)⟩,
   ⟨(some (16, true)), some 21, 21, .call 29 [0, 0, 0] [(.t 20), (.k (.one (.pv (.int .i64 48)))), (.k (.one (.pv (.int .i64 57))))]⟩,
   ⟨(some (16, true)), some 22, 22, .not (.t 21)⟩,
   ⟨none, some 23, 23, .pick (.t 16) (.t 22) (.k (.one (.pv (.bool false))))⟩])
 (.cond 23 (.seq (.reg [⟨none, some 2, 2, .mv (.k (.one (.pv (.bool false))))⟩])
 (.ret)) (.skip))))
 (.reg [⟨none, some 8, 8, .mv (.t 3)⟩,
   ⟨none, some 9, 9, .bin .add (.t 8) (.k (.one (.pv (.int .i64 1))))⟩,
   ⟨none, some 3, 3, .mv (.t 9)⟩]))))))
 (.norm [0] (.seq (.reg [⟨none, some 24, 24, .mv (.t 0)⟩,
   ⟨none, some 25, 25, .slen (.t 24)⟩,
   ⟨none, some 26, 26, .call 29 [0, 0, 0] [(.t 25), (.k (.one (.pv (.int .i64 1)))), (.k (.one (.pv (.int .i64 6))))]⟩,
   ⟨none, some 2, 2, .mv (.t 26)⟩])
 (.ret))))⟩
abbrev C_s_NameOk (Te : Nat → List AV → Res → Prop) : Prop := ∀ (s : ByteArray) (h : s.size ≤ 2 ^ 48), Te 209 [.one (sT s)] ⟨[.one (bT (nameOk s))], [[sT s]]⟩
theorem r_s_NameOk {Te : Nat → List AV → Res → Prop} (c_s_l1In : C_s_l1In Te) : ∀ (s : ByteArray) (h : s.size ≤ 2 ^ 48), RunFn Te x_s_NameOk [.one (sT s)] ⟨[.one (bT (nameOk s))], [[sT s]]⟩ := by
  intro s h
  refine ⟨by simp -implicitDefEqProofs only [x_s_NameOk, go_sem], ?_⟩
  have hsz : s.data.toList.length = s.size := by rw [Array.length_toList]; rfl
  simp -implicitDefEqProofs only [x_s_NameOk, go_sem, true_implies, false_implies, nameOk]
  refine loop_of (σ := Nat) (fun i => ⟨[(0, .one (.pv (.string s))), (3, .one (.pv (.int .i64 i)))], [], [(0, [sT s])]⟩) (fun i => i ≤ s.size ∧ (s.data.toList.take i).all nameCh = true) (fun i => s.size - i) 0 ?_ ⟨Nat.zero_le _, rfl⟩ ?_
  · simp -implicitDefEqProofs only [go_sem]; rfl
  · rintro i ⟨hi, hp⟩
    cases q : decide ((i : Int) < (s.size : Int))
    · have e := all_end (p := nameCh) (show s.data.toList.length ≤ i by simp only [decide_eq_false_iff_not] at q; omega) hp
      try simp -implicitDefEqProofs only [go_sem, true_implies, false_implies, q]
      refine .of (c_s_l1In _ _ _) ?_
      try simp -implicitDefEqProofs only [go_sem, true_implies, false_implies, e]
    · have hi' : i < s.size := by simp only [decide_eq_true_eq] at q; omega
      have hi2 : i < s.data.toList.length := by omega
      have q1 : decide (i < s.size) = true := decide_eq_true hi'
      have eg : s.data.toList.getD i 0 = s.data.toList[i] := by rw [List.getD_eq_getElem?_getD, List.getElem?_eq_getElem hi2]; rfl
      have hb := s.data.toList[i].toNat_lt
      have w1 : IntKind.i64.wrap ((s.data.toList[i].toNat : Nat) : Int) = (s.data.toList[i].toNat : Nat) := IntWalk.i64_in _ (by omega)
      try simp -implicitDefEqProofs only [go_sem, true_implies, false_implies, q, q1, eg, w1]
      refine .of (c_s_l1In _ _ _) ?_
      try simp -implicitDefEqProofs only [go_sem, true_implies, false_implies]
      cases g1 : win ((s.data.toList[i].toNat : Nat) : Int) 97 122
      · try simp -implicitDefEqProofs only [go_sem, true_implies, false_implies, q1, eg, w1]
        refine .of (c_s_l1In _ _ _) ?_
        try simp -implicitDefEqProofs only [go_sem, true_implies, false_implies]
        cases g2 : win ((s.data.toList[i].toNat : Nat) : Int) 48 57
        · have e := all_not (p := nameCh) hi2 (by simp only [nameCh, g1, g2, Bool.or_false])
          try simp -implicitDefEqProofs only [go_sem, true_implies, false_implies, e]
        · try simp -implicitDefEqProofs only [go_sem, true_implies, false_implies]
          refine ⟨i + 1, by rw [IntWalk.i64_in _ (by omega)]; rfl, ⟨hi', all_step (p := nameCh) hi2 hp (by simp only [nameCh, g1, g2, Bool.or_true])⟩, by omega⟩
      · try simp -implicitDefEqProofs only [go_sem, true_implies, false_implies]
        refine ⟨i + 1, by rw [IntWalk.i64_in _ (by omega)]; rfl, ⟨hi', all_step (p := nameCh) hi2 hp (by simp only [nameCh, g1, Bool.true_or])⟩, by omega⟩
end Go.X

/- Ve -/
namespace Go.X
set_option maxRecDepth 100000
set_option maxHeartbeats 8000000
def RowV.ok (r : RowV) : Bool := nameOk r.Key && win r.Has 1 3 &&
  (if r.Has = 1 then r.Old.ok && (r.Old.Tag != 0) && (r.Old.text.2 || r.Aside) && r.New.no
   else if r.Has = 2 then r.Old.no && (r.New.Tag == 0) && r.New.text.2
   else r.Old.ok && (r.Old.Tag != 0) && r.Old.text.2 && (r.New.Tag == 0) && r.New.text.2 && sameText r.Old r.New)
theorem and1_has (h : Int) (hh : h = 1 ∨ h = 2 ∨ h = 3) : (andK .i64 h 1 == 1) = decide (h ≠ 2) := by
  rw [andK_def]
  rcases hh with rfl | rfl | rfl <;> decide
theorem and2_has (h : Int) (hh : h = 1 ∨ h = 2 ∨ h = 3) : (andK .i64 h 2 == 2) = decide (h ≠ 1) := by
  rw [andK_def]
  rcases hh with rfl | rfl | rfl <;> decide
theorem win13 {h : Int} (g : win h 1 3 = true) : h = 1 ∨ h = 2 ∨ h = 3 := by
  simp only [win, Bool.and_eq_true, decide_eq_true_eq] at g
  omega
theorem tag_no {c : CellV} (h : win c.Tag 1 5 = false) : (c.ok && (c.Tag != 0)) = false := by
  cases g : c.ok
  · rfl
  · simp only [CellV.ok, win, Bool.and_eq_true, decide_eq_true_eq] at g
    simp only [win, Bool.and_eq_false_iff, decide_eq_false_iff_not] at h
    have : c.Tag = 0 := by omega
    rw [this]
    rfl
theorem tag_yes {c : CellV} (h : win c.Tag 1 5 = true) : (c.Tag != 0) = true := by
  simp only [win, Bool.and_eq_true, decide_eq_true_eq] at h
  simp only [bne_iff_ne]
  omega
theorem rowOk_name {r : RowV} (h : nameOk r.Key = false) : r.ok = false := by simp only [RowV.ok, h, Bool.false_and]
theorem rowOk_has {r : RowV} (h : win r.Has 1 3 = false) : r.ok = false := by simp only [RowV.ok, h, Bool.and_false, Bool.false_and]
theorem rowOk_1 {k : ByteArray} {o n : CellV} {a : Bool} (h : nameOk k = true) : (RowV.mk k o n 1 a).ok = (o.ok && (o.Tag != 0) && (o.text.2 || a) && n.no) := by simp only [RowV.ok, h]; rfl
theorem rowOk_2 {k : ByteArray} {o n : CellV} {a : Bool} (h : nameOk k = true) : (RowV.mk k o n 2 a).ok = (o.no && (n.Tag == 0) && n.text.2) := by simp only [RowV.ok, h]; rfl
theorem rowOk_3 {k : ByteArray} {o n : CellV} {a : Bool} (h : nameOk k = true) : (RowV.mk k o n 3 a).ok = (o.ok && (o.Tag != 0) && o.text.2 && (n.Tag == 0) && n.text.2 && sameText o n) := by simp only [RowV.ok, h]; rfl
theorem text_no {c : CellV} (h : c.ok = false) : c.text.2 = false := by rw [CellV.text, h]; rfl
def x_s_l9Old : FnX := ⟨7, [.tmp 2],
  .seq (.reg [⟨none, some 1, 1, .box (.t 0)⟩,
   ⟨none, some 2, 2, .mv (.k (.one (.pv (.bool false))))⟩])
 (.seq (.reg [⟨none, some 3, 3, .faddr (.t 1) 5⟩,
   ⟨none, some 4, 4, .load none (.t 3)⟩,
   ⟨none, some 5, 5, .bin .and (.t 4) (.k (.one (.pv (.int .i64 1))))⟩,
   ⟨none, some 6, 6, .bin .eql (.t 5) (.k (.one (.pv (.int .i64 1))))⟩,
   ⟨none, some 2, 2, .mv (.t 6)⟩])
 (.ret))⟩
abbrev C_s_l9Old (Te : Nat → List AV → Res → Prop) : Prop := ∀ (r : RowV) (h : r.Has = 1 ∨ r.Has = 2 ∨ r.Has = 3), Te 212 [.agg (r.enc false)] ⟨[.one (bT (decide (r.Has ≠ 2)))], [r.enc false]⟩
theorem r_s_l9Old {Te : Nat → List AV → Res → Prop} : ∀ (r : RowV) (h : r.Has = 1 ∨ r.Has = 2 ∨ r.Has = 3), RunFn Te x_s_l9Old [.agg (r.enc false)] ⟨[.one (bT (decide (r.Has ≠ 2)))], [r.enc false]⟩ := by
  intro r h
  refine ⟨by simp -implicitDefEqProofs only [x_s_l9Old, go_sem], ?_⟩
  have e := and1_has _ h
  simp -implicitDefEqProofs only [x_s_l9Old, go_sem, true_implies, false_implies, e]
def x_s_l9New : FnX := ⟨7, [.tmp 2],
  .seq (.reg [⟨none, some 1, 1, .box (.t 0)⟩,
   ⟨none, some 2, 2, .mv (.k (.one (.pv (.bool false))))⟩])
 (.seq (.reg [⟨none, some 3, 3, .faddr (.t 1) 5⟩,
   ⟨none, some 4, 4, .load none (.t 3)⟩,
   ⟨none, some 5, 5, .bin .and (.t 4) (.k (.one (.pv (.int .i64 2))))⟩,
   ⟨none, some 6, 6, .bin .eql (.t 5) (.k (.one (.pv (.int .i64 2))))⟩,
   ⟨none, some 2, 2, .mv (.t 6)⟩])
 (.ret))⟩
abbrev C_s_l9New (Te : Nat → List AV → Res → Prop) : Prop := ∀ (r : RowV) (h : r.Has = 1 ∨ r.Has = 2 ∨ r.Has = 3), Te 65 [.agg (r.enc false)] ⟨[.one (bT (decide (r.Has ≠ 1)))], [r.enc false]⟩
theorem r_s_l9New {Te : Nat → List AV → Res → Prop} : ∀ (r : RowV) (h : r.Has = 1 ∨ r.Has = 2 ∨ r.Has = 3), RunFn Te x_s_l9New [.agg (r.enc false)] ⟨[.one (bT (decide (r.Has ≠ 1)))], [r.enc false]⟩ := by
  intro r h
  refine ⟨by simp -implicitDefEqProofs only [x_s_l9New, go_sem], ?_⟩
  have e := and2_has _ h
  simp -implicitDefEqProofs only [x_s_l9New, go_sem, true_implies, false_implies, e]
def x_i_RowOk : FnX := ⟨89, [.tmp 2],
  .seq (.reg [⟨none, some 1, 1, .box (.t 0)⟩,
   ⟨none, some 2, 2, .mv (.k (.one (.pv (.bool false))))⟩])
 (.seq (.seq (.reg [⟨none, some 9, 9, .faddr (.t 1) 0⟩,
   ⟨none, some 10, 10, .load none (.t 9)⟩,
   ⟨none, some 11, 11, .call 215 [0] [(.t 10)]⟩,
   ⟨none, some 12, 12, .not (.t 11)⟩,
   ⟨none, some 13, 13, .mv (.t 12)⟩,
   ⟨(some (13, false)), some 14, 14, .faddr (.t 1) 5⟩,
   ⟨(some (13, false)), some 15, 15, .load none (.t 14)⟩,
   ⟨(some (13, false)), some 16, 16, .call 31 [0, 0, 0] [(.t 15), (.k (.one (.pv (.int .i64 1)))), (.k (.one (.pv (.int .i64 3))))]⟩,
   ⟨(some (13, false)), some 17, 17, .not (.t 16)⟩,
   ⟨none, some 18, 18, .pick (.t 13) (.k (.one (.pv (.bool true)))) (.t 17)⟩])
 (.cond 18 (.seq (.reg [⟨none, some 2, 2, .mv (.k (.one (.pv (.bool false))))⟩])
 (.ret)) (.skip)))
 (.seq (.reg [⟨none, some 20, 20, .faddr (.t 1) 1⟩,
   ⟨none, some 21, 21, .load (some 2) (.t 20)⟩,
   ⟨none, some 22, 22, .call 71 [0] [(.t 21)]⟩,
   ⟨none, some 19, 19, .mv (.t 22)⟩,
   ⟨none, some 23, 23, .ext (.t 19) 0⟩,
   ⟨none, some 24, 24, .ext (.t 19) 1⟩,
   ⟨none, some 3, 3, .mv (.t 23)⟩,
   ⟨none, some 4, 4, .mv (.t 24)⟩])
 (.seq (.reg [⟨none, some 26, 26, .faddr (.t 1) 3⟩,
   ⟨none, some 27, 27, .load (some 2) (.t 26)⟩,
   ⟨none, some 28, 28, .call 71 [0] [(.t 27)]⟩,
   ⟨none, some 25, 25, .mv (.t 28)⟩,
   ⟨none, some 29, 29, .ext (.t 25) 0⟩,
   ⟨none, some 30, 30, .ext (.t 25) 1⟩,
   ⟨none, some 5, 5, .mv (.t 29)⟩,
   ⟨none, some 6, 6, .mv (.t 30)⟩])
 (.seq (.reg [⟨none, some 31, 31, .faddr (.t 1) 1⟩,
   ⟨none, some 32, 32, .load (some 2) (.t 31)⟩,
   ⟨none, some 33, 33, .build [.pv (.int .i64 0), .nils 1] []⟩,
   ⟨none, some 34, 34, .call 219 [0, 0] [(.t 32), (.t 33)]⟩,
   ⟨none, some 7, 7, .mv (.t 34)⟩])
 (.seq (.seq (.reg [⟨none, some 35, 35, .faddr (.t 1) 5⟩,
   ⟨none, some 36, 36, .load none (.t 35)⟩,
   ⟨none, some 37, 37, .bin .neq (.t 36) (.k (.one (.pv (.int .i64 2))))⟩])
 (.cond 37 (.reg [⟨none, some 38, 38, .faddr (.t 1) 1⟩,
   ⟨none, some 39, 39, .load (some 2) (.t 38)⟩,
   ⟨none, some 40, 40, .call 118 [0] [(.t 39)]⟩,
   ⟨none, some 41, 41, .mv (.t 40)⟩,
   ⟨(some (41, true)), some 42, 42, .faddr (.t 1) 1⟩,
   ⟨(some (41, true)), some 43, 43, .faddr (.t 42) 0⟩,
   ⟨(some (41, true)), some 44, 44, .load none (.t 43)⟩,
   ⟨(some (41, true)), some 45, 45, .bin .neq (.t 44) (.k (.one (.pv (.int .i64 0))))⟩,
   ⟨none, some 46, 46, .pick (.t 41) (.t 45) (.k (.one (.pv (.bool false))))⟩,
   ⟨none, some 47, 47, .mv (.t 46)⟩,
   ⟨(some (47, true)), some 48, 48, .mv (.t 4)⟩,
   ⟨(some (47, true)), some 49, 49, .mv (.t 48)⟩,
   ⟨(some (49, false)), some 50, 50, .faddr (.t 1) 6⟩,
   ⟨(some (49, false)), some 51, 51, .load none (.t 50)⟩,
   ⟨(some (49, false)), some 52, 52, .mv (.t 51)⟩,
   ⟨(some (52, true)), some 53, 53, .faddr (.t 1) 5⟩,
   ⟨(some (52, true)), some 54, 54, .load none (.t 53)⟩,
   ⟨(some (52, true)), some 55, 55, .bin .eql (.t 54) (.k (.one (.pv (.int .i64 1))))⟩,
   ⟨(some (49, false)), some 56, 56, .pick (.t 52) (.t 55) (.k (.one (.pv (.bool false))))⟩,
   ⟨(some (47, true)), some 57, 57, .pick (.t 49) (.k (.one (.pv (.bool true)))) (.t 56)⟩,
   ⟨none, some 58, 58, .pick (.t 47) (.t 57) (.k (.one (.pv (.bool false))))⟩,
   ⟨none, some 7, 7, .mv (.t 58)⟩]) (.skip)))
 (.seq (.reg [⟨none, some 59, 59, .faddr (.t 1) 3⟩,
   ⟨none, some 60, 60, .load (some 2) (.t 59)⟩,
   ⟨none, some 61, 61, .build [.pv (.int .i64 0), .nils 1] []⟩,
   ⟨none, some 62, 62, .call 219 [0, 0] [(.t 60), (.t 61)]⟩,
   ⟨none, some 8, 8, .mv (.t 62)⟩])
 (.seq (.seq (.reg [⟨none, some 63, 63, .faddr (.t 1) 5⟩,
   ⟨none, some 64, 64, .load none (.t 63)⟩,
   ⟨none, some 65, 65, .bin .neq (.t 64) (.k (.one (.pv (.int .i64 1))))⟩])
 (.cond 65 (.reg [⟨none, some 66, 66, .faddr (.t 1) 3⟩,
   ⟨none, some 67, 67, .faddr (.t 66) 0⟩,
   ⟨none, some 68, 68, .load none (.t 67)⟩,
   ⟨none, some 69, 69, .bin .eql (.t 68) (.k (.one (.pv (.int .i64 0))))⟩,
   ⟨none, some 70, 70, .mv (.t 69)⟩,
   ⟨(some (70, true)), some 71, 71, .mv (.t 6)⟩,
   ⟨none, some 72, 72, .pick (.t 70) (.t 71) (.k (.one (.pv (.bool false))))⟩,
   ⟨none, some 8, 8, .mv (.t 72)⟩]) (.skip)))
 (.seq (.reg [⟨none, some 73, 73, .mv (.t 7)⟩,
   ⟨none, some 74, 74, .mv (.t 73)⟩,
   ⟨(some (74, true)), some 75, 75, .mv (.t 8)⟩,
   ⟨none, some 76, 76, .pick (.t 74) (.t 75) (.k (.one (.pv (.bool false))))⟩,
   ⟨none, some 77, 77, .mv (.t 76)⟩,
   ⟨(some (77, true)), some 78, 78, .faddr (.t 1) 5⟩,
   ⟨(some (77, true)), some 79, 79, .load none (.t 78)⟩,
   ⟨(some (77, true)), some 80, 80, .bin .neq (.t 79) (.k (.one (.pv (.int .i64 3))))⟩,
   ⟨(some (77, true)), some 81, 81, .mv (.t 80)⟩,
   ⟨(some (81, false)), some 82, 82, .faddr (.t 1) 1⟩,
   ⟨(some (81, false)), some 83, 83, .load (some 2) (.t 82)⟩,
   ⟨(some (81, false)), some 84, 84, .faddr (.t 1) 3⟩,
   ⟨(some (81, false)), some 85, 85, .load (some 2) (.t 84)⟩,
   ⟨(some (81, false)), some 86, 86, .call 220 [0, 0] [(.t 83), (.t 85)]⟩,
   ⟨(some (77, true)), some 87, 87, .pick (.t 81) (.k (.one (.pv (.bool true)))) (.t 86)⟩,
   ⟨none, some 88, 88, .pick (.t 77) (.t 87) (.k (.one (.pv (.bool false))))⟩,
   ⟨none, some 2, 2, .mv (.t 88)⟩])
 (.ret)))))))))⟩
abbrev C_i_RowOk (Te : Nat → List AV → Res → Prop) : Prop := ∀ (r : RowV) (h : r.In (2 ^ 48)), Te 193 [.agg (r.enc false)] ⟨[.one (bT r.ok)], [r.enc false]⟩
theorem r_i_RowOk {Te : Nat → List AV → Res → Prop} (c_i_NameOk : C_i_NameOk Te) (c_i_within : C_i_within Te) (c_i_CellText : C_i_CellText Te) (c_i_sameCell : C_i_sameCell Te) (c_i_CellOk : C_i_CellOk Te) (c_i_SameText : C_i_SameText Te) : ∀ (r : RowV) (h : r.In (2 ^ 48)), RunFn Te x_i_RowOk [.agg (r.enc false)] ⟨[.one (bT r.ok)], [r.enc false]⟩ := by
  intro r h
  refine ⟨by simp -implicitDefEqProofs only [x_i_RowOk, go_sem], ?_⟩
  obtain ⟨hk, _⟩ := h
  simp -implicitDefEqProofs only [x_i_RowOk, go_sem, true_implies, false_implies]
  refine .of (c_i_NameOk r.Key hk) ?_
  try simp -implicitDefEqProofs only [go_sem, true_implies, false_implies]
  cases g1 : nameOk r.Key
  · have e := rowOk_name (r := r) g1
    try simp -implicitDefEqProofs only [go_sem, true_implies, false_implies, e]
  try simp -implicitDefEqProofs only [go_sem, true_implies, false_implies]
  refine .of (c_i_within _ _ _) ?_
  try simp -implicitDefEqProofs only [go_sem, true_implies, false_implies]
  cases g2 : win r.Has 1 3
  · have e := rowOk_has (r := r) g2
    try simp -implicitDefEqProofs only [go_sem, true_implies, false_implies, e]
  have h3 := win13 g2
  obtain ⟨key, old, new, has, aside⟩ := r
  simp only at h3 g1 hk
  clear g2
  rcases h3 with rfl | rfl | rfl
  · skip
    have e := rowOk_1 (o := old) (n := new) (a := aside) g1
    try simp -implicitDefEqProofs only [go_sem, true_implies, false_implies]
    refine .of (c_i_CellText old) ?_
    try simp -implicitDefEqProofs only [go_sem, true_implies, false_implies]
    refine .of (c_i_CellText new) ?_
    try simp -implicitDefEqProofs only [go_sem, true_implies, false_implies]
    refine .of (c_i_sameCell old ⟨0, []⟩) ?_
    try simp -implicitDefEqProofs only [go_sem, true_implies, false_implies, CellV.no, show ((1 : Int) != 2) = true from rfl, show ((1 : Int) != 1) = false from rfl, show ((1 : Int) == 1) = true from rfl, show ((1 : Int) != 3) = true from rfl, show ((2 : Int) != 2) = false from rfl, show ((2 : Int) != 1) = true from rfl, show ((2 : Int) != 3) = true from rfl, show ((3 : Int) != 2) = true from rfl, show ((3 : Int) != 1) = true from rfl, show ((3 : Int) != 3) = false from rfl, show ((3 : Int) == 1) = false from rfl]
    refine .of (c_i_CellOk old) ?_
    try simp -implicitDefEqProofs only [go_sem, true_implies, false_implies]
    have fin0 : ∀ z, z = false → True := fun _ _ => trivial
    cases o1 : old.ok
    · try simp -implicitDefEqProofs only [go_sem, true_implies, false_implies, o1]
      refine .of (c_i_sameCell new ⟨0, []⟩) ?_
      try simp -implicitDefEqProofs only [go_sem, true_implies, false_implies, CellV.no, show ((1 : Int) != 2) = true from rfl, show ((1 : Int) != 1) = false from rfl, show ((1 : Int) == 1) = true from rfl, show ((1 : Int) != 3) = true from rfl, show ((2 : Int) != 2) = false from rfl, show ((2 : Int) != 1) = true from rfl, show ((2 : Int) != 3) = true from rfl, show ((3 : Int) != 2) = true from rfl, show ((3 : Int) != 1) = true from rfl, show ((3 : Int) != 3) = false from rfl, show ((3 : Int) == 1) = false from rfl, e, o1]
    · cases o2 : (old.Tag != 0)
      · try simp -implicitDefEqProofs only [go_sem, true_implies, false_implies, o1, o2]
        refine .of (c_i_sameCell new ⟨0, []⟩) ?_
        try simp -implicitDefEqProofs only [go_sem, true_implies, false_implies, CellV.no, show ((1 : Int) != 2) = true from rfl, show ((1 : Int) != 1) = false from rfl, show ((1 : Int) == 1) = true from rfl, show ((1 : Int) != 3) = true from rfl, show ((2 : Int) != 2) = false from rfl, show ((2 : Int) != 1) = true from rfl, show ((2 : Int) != 3) = true from rfl, show ((3 : Int) != 2) = true from rfl, show ((3 : Int) != 1) = true from rfl, show ((3 : Int) != 3) = false from rfl, show ((3 : Int) == 1) = false from rfl, e, o1, o2]
      · cases o3 : old.text.2
        · cases aside
          · try simp -implicitDefEqProofs only [go_sem, true_implies, false_implies, o1, o2, o3]
            refine .of (c_i_sameCell new ⟨0, []⟩) ?_
            try simp -implicitDefEqProofs only [go_sem, true_implies, false_implies, CellV.no, show ((1 : Int) != 2) = true from rfl, show ((1 : Int) != 1) = false from rfl, show ((1 : Int) == 1) = true from rfl, show ((1 : Int) != 3) = true from rfl, show ((2 : Int) != 2) = false from rfl, show ((2 : Int) != 1) = true from rfl, show ((2 : Int) != 3) = true from rfl, show ((3 : Int) != 2) = true from rfl, show ((3 : Int) != 1) = true from rfl, show ((3 : Int) != 3) = false from rfl, show ((3 : Int) == 1) = false from rfl, e, o1, o2, o3]
          · try simp -implicitDefEqProofs only [go_sem, true_implies, false_implies, o1, o2, o3, CellV.no, show ((1 : Int) != 2) = true from rfl, show ((1 : Int) != 1) = false from rfl, show ((1 : Int) == 1) = true from rfl, show ((1 : Int) != 3) = true from rfl, show ((2 : Int) != 2) = false from rfl, show ((2 : Int) != 1) = true from rfl, show ((2 : Int) != 3) = true from rfl, show ((3 : Int) != 2) = true from rfl, show ((3 : Int) != 1) = true from rfl, show ((3 : Int) != 3) = false from rfl, show ((3 : Int) == 1) = false from rfl]
            refine .of (c_i_sameCell new ⟨0, []⟩) ?_
            try simp -implicitDefEqProofs only [go_sem, true_implies, false_implies, CellV.no, show ((1 : Int) != 2) = true from rfl, show ((1 : Int) != 1) = false from rfl, show ((1 : Int) == 1) = true from rfl, show ((1 : Int) != 3) = true from rfl, show ((2 : Int) != 2) = false from rfl, show ((2 : Int) != 1) = true from rfl, show ((2 : Int) != 3) = true from rfl, show ((3 : Int) != 2) = true from rfl, show ((3 : Int) != 1) = true from rfl, show ((3 : Int) != 3) = false from rfl, show ((3 : Int) == 1) = false from rfl]
            cases n1 : ((new.Tag == 0) && decide (new.B = []))
            · try simp -implicitDefEqProofs only [go_sem, true_implies, false_implies, n1, CellV.no, show ((1 : Int) != 2) = true from rfl, show ((1 : Int) != 1) = false from rfl, show ((1 : Int) == 1) = true from rfl, show ((1 : Int) != 3) = true from rfl, show ((2 : Int) != 2) = false from rfl, show ((2 : Int) != 1) = true from rfl, show ((2 : Int) != 3) = true from rfl, show ((3 : Int) != 2) = true from rfl, show ((3 : Int) != 1) = true from rfl, show ((3 : Int) != 3) = false from rfl, show ((3 : Int) == 1) = false from rfl, e, o1, o2, o3]
            · try simp -implicitDefEqProofs only [go_sem, true_implies, false_implies, n1, CellV.no, show ((1 : Int) != 2) = true from rfl, show ((1 : Int) != 1) = false from rfl, show ((1 : Int) == 1) = true from rfl, show ((1 : Int) != 3) = true from rfl, show ((2 : Int) != 2) = false from rfl, show ((2 : Int) != 1) = true from rfl, show ((2 : Int) != 3) = true from rfl, show ((3 : Int) != 2) = true from rfl, show ((3 : Int) != 1) = true from rfl, show ((3 : Int) != 3) = false from rfl, show ((3 : Int) == 1) = false from rfl, e, o1, o2, o3]
        · try simp -implicitDefEqProofs only [go_sem, true_implies, false_implies, o1, o2, o3, CellV.no, show ((1 : Int) != 2) = true from rfl, show ((1 : Int) != 1) = false from rfl, show ((1 : Int) == 1) = true from rfl, show ((1 : Int) != 3) = true from rfl, show ((2 : Int) != 2) = false from rfl, show ((2 : Int) != 1) = true from rfl, show ((2 : Int) != 3) = true from rfl, show ((3 : Int) != 2) = true from rfl, show ((3 : Int) != 1) = true from rfl, show ((3 : Int) != 3) = false from rfl, show ((3 : Int) == 1) = false from rfl]
          refine .of (c_i_sameCell new ⟨0, []⟩) ?_
          try simp -implicitDefEqProofs only [go_sem, true_implies, false_implies, CellV.no, show ((1 : Int) != 2) = true from rfl, show ((1 : Int) != 1) = false from rfl, show ((1 : Int) == 1) = true from rfl, show ((1 : Int) != 3) = true from rfl, show ((2 : Int) != 2) = false from rfl, show ((2 : Int) != 1) = true from rfl, show ((2 : Int) != 3) = true from rfl, show ((3 : Int) != 2) = true from rfl, show ((3 : Int) != 1) = true from rfl, show ((3 : Int) != 3) = false from rfl, show ((3 : Int) == 1) = false from rfl]
          cases n1 : ((new.Tag == 0) && decide (new.B = []))
          · try simp -implicitDefEqProofs only [go_sem, true_implies, false_implies, n1, CellV.no, show ((1 : Int) != 2) = true from rfl, show ((1 : Int) != 1) = false from rfl, show ((1 : Int) == 1) = true from rfl, show ((1 : Int) != 3) = true from rfl, show ((2 : Int) != 2) = false from rfl, show ((2 : Int) != 1) = true from rfl, show ((2 : Int) != 3) = true from rfl, show ((3 : Int) != 2) = true from rfl, show ((3 : Int) != 1) = true from rfl, show ((3 : Int) != 3) = false from rfl, show ((3 : Int) == 1) = false from rfl, e, o1, o2, o3]
          · try simp -implicitDefEqProofs only [go_sem, true_implies, false_implies, n1, CellV.no, show ((1 : Int) != 2) = true from rfl, show ((1 : Int) != 1) = false from rfl, show ((1 : Int) == 1) = true from rfl, show ((1 : Int) != 3) = true from rfl, show ((2 : Int) != 2) = false from rfl, show ((2 : Int) != 1) = true from rfl, show ((2 : Int) != 3) = true from rfl, show ((3 : Int) != 2) = true from rfl, show ((3 : Int) != 1) = true from rfl, show ((3 : Int) != 3) = false from rfl, show ((3 : Int) == 1) = false from rfl, e, o1, o2, o3]
  · skip
    have e := rowOk_2 (o := old) (n := new) (a := aside) g1
    try simp -implicitDefEqProofs only [go_sem, true_implies, false_implies]
    refine .of (c_i_CellText old) ?_
    try simp -implicitDefEqProofs only [go_sem, true_implies, false_implies]
    refine .of (c_i_CellText new) ?_
    try simp -implicitDefEqProofs only [go_sem, true_implies, false_implies]
    refine .of (c_i_sameCell old ⟨0, []⟩) ?_
    try simp -implicitDefEqProofs only [go_sem, true_implies, false_implies, CellV.no, show ((1 : Int) != 2) = true from rfl, show ((1 : Int) != 1) = false from rfl, show ((1 : Int) == 1) = true from rfl, show ((1 : Int) != 3) = true from rfl, show ((2 : Int) != 2) = false from rfl, show ((2 : Int) != 1) = true from rfl, show ((2 : Int) != 3) = true from rfl, show ((3 : Int) != 2) = true from rfl, show ((3 : Int) != 1) = true from rfl, show ((3 : Int) != 3) = false from rfl, show ((3 : Int) == 1) = false from rfl]
    refine .of (c_i_sameCell new ⟨0, []⟩) ?_
    try simp -implicitDefEqProofs only [go_sem, true_implies, false_implies, CellV.no, show ((1 : Int) != 2) = true from rfl, show ((1 : Int) != 1) = false from rfl, show ((1 : Int) == 1) = true from rfl, show ((1 : Int) != 3) = true from rfl, show ((2 : Int) != 2) = false from rfl, show ((2 : Int) != 1) = true from rfl, show ((2 : Int) != 3) = true from rfl, show ((3 : Int) != 2) = true from rfl, show ((3 : Int) != 1) = true from rfl, show ((3 : Int) != 3) = false from rfl, show ((3 : Int) == 1) = false from rfl]
    cases o1 : ((old.Tag == 0) && decide (old.B = []))
    · cases n1 : (new.Tag == 0)
      · try simp -implicitDefEqProofs only [go_sem, true_implies, false_implies, o1, n1, e, CellV.no, show ((1 : Int) != 2) = true from rfl, show ((1 : Int) != 1) = false from rfl, show ((1 : Int) == 1) = true from rfl, show ((1 : Int) != 3) = true from rfl, show ((2 : Int) != 2) = false from rfl, show ((2 : Int) != 1) = true from rfl, show ((2 : Int) != 3) = true from rfl, show ((3 : Int) != 2) = true from rfl, show ((3 : Int) != 1) = true from rfl, show ((3 : Int) != 3) = false from rfl, show ((3 : Int) == 1) = false from rfl]
      · try simp -implicitDefEqProofs only [go_sem, true_implies, false_implies, o1, n1, e, CellV.no, show ((1 : Int) != 2) = true from rfl, show ((1 : Int) != 1) = false from rfl, show ((1 : Int) == 1) = true from rfl, show ((1 : Int) != 3) = true from rfl, show ((2 : Int) != 2) = false from rfl, show ((2 : Int) != 1) = true from rfl, show ((2 : Int) != 3) = true from rfl, show ((3 : Int) != 2) = true from rfl, show ((3 : Int) != 1) = true from rfl, show ((3 : Int) != 3) = false from rfl, show ((3 : Int) == 1) = false from rfl]
    · cases n1 : (new.Tag == 0)
      · try simp -implicitDefEqProofs only [go_sem, true_implies, false_implies, o1, n1, e, CellV.no, show ((1 : Int) != 2) = true from rfl, show ((1 : Int) != 1) = false from rfl, show ((1 : Int) == 1) = true from rfl, show ((1 : Int) != 3) = true from rfl, show ((2 : Int) != 2) = false from rfl, show ((2 : Int) != 1) = true from rfl, show ((2 : Int) != 3) = true from rfl, show ((3 : Int) != 2) = true from rfl, show ((3 : Int) != 1) = true from rfl, show ((3 : Int) != 3) = false from rfl, show ((3 : Int) == 1) = false from rfl]
      · cases n2 : new.text.2
        · try simp -implicitDefEqProofs only [go_sem, true_implies, false_implies, o1, n1, n2, e, CellV.no, show ((1 : Int) != 2) = true from rfl, show ((1 : Int) != 1) = false from rfl, show ((1 : Int) == 1) = true from rfl, show ((1 : Int) != 3) = true from rfl, show ((2 : Int) != 2) = false from rfl, show ((2 : Int) != 1) = true from rfl, show ((2 : Int) != 3) = true from rfl, show ((3 : Int) != 2) = true from rfl, show ((3 : Int) != 1) = true from rfl, show ((3 : Int) != 3) = false from rfl, show ((3 : Int) == 1) = false from rfl]
        · try simp -implicitDefEqProofs only [go_sem, true_implies, false_implies, o1, n1, n2, e, CellV.no, show ((1 : Int) != 2) = true from rfl, show ((1 : Int) != 1) = false from rfl, show ((1 : Int) == 1) = true from rfl, show ((1 : Int) != 3) = true from rfl, show ((2 : Int) != 2) = false from rfl, show ((2 : Int) != 1) = true from rfl, show ((2 : Int) != 3) = true from rfl, show ((3 : Int) != 2) = true from rfl, show ((3 : Int) != 1) = true from rfl, show ((3 : Int) != 3) = false from rfl, show ((3 : Int) == 1) = false from rfl]
  · skip
    have e := rowOk_3 (o := old) (n := new) (a := aside) g1
    try simp -implicitDefEqProofs only [go_sem, true_implies, false_implies]
    refine .of (c_i_CellText old) ?_
    try simp -implicitDefEqProofs only [go_sem, true_implies, false_implies]
    refine .of (c_i_CellText new) ?_
    try simp -implicitDefEqProofs only [go_sem, true_implies, false_implies]
    refine .of (c_i_sameCell old ⟨0, []⟩) ?_
    try simp -implicitDefEqProofs only [go_sem, true_implies, false_implies, CellV.no, show ((1 : Int) != 2) = true from rfl, show ((1 : Int) != 1) = false from rfl, show ((1 : Int) == 1) = true from rfl, show ((1 : Int) != 3) = true from rfl, show ((2 : Int) != 2) = false from rfl, show ((2 : Int) != 1) = true from rfl, show ((2 : Int) != 3) = true from rfl, show ((3 : Int) != 2) = true from rfl, show ((3 : Int) != 1) = true from rfl, show ((3 : Int) != 3) = false from rfl, show ((3 : Int) == 1) = false from rfl]
    refine .of (c_i_CellOk old) ?_
    try simp -implicitDefEqProofs only [go_sem, true_implies, false_implies]
    cases o1 : old.ok
    · try simp -implicitDefEqProofs only [go_sem, true_implies, false_implies, o1]
      refine .of (c_i_sameCell new ⟨0, []⟩) ?_
      try simp -implicitDefEqProofs only [go_sem, true_implies, false_implies, CellV.no, show ((1 : Int) != 2) = true from rfl, show ((1 : Int) != 1) = false from rfl, show ((1 : Int) == 1) = true from rfl, show ((1 : Int) != 3) = true from rfl, show ((2 : Int) != 2) = false from rfl, show ((2 : Int) != 1) = true from rfl, show ((2 : Int) != 3) = true from rfl, show ((3 : Int) != 2) = true from rfl, show ((3 : Int) != 1) = true from rfl, show ((3 : Int) != 3) = false from rfl, show ((3 : Int) == 1) = false from rfl]
      cases n1 : (new.Tag == 0)
      · try simp -implicitDefEqProofs only [go_sem, true_implies, false_implies, n1, CellV.no, show ((1 : Int) != 2) = true from rfl, show ((1 : Int) != 1) = false from rfl, show ((1 : Int) == 1) = true from rfl, show ((1 : Int) != 3) = true from rfl, show ((2 : Int) != 2) = false from rfl, show ((2 : Int) != 1) = true from rfl, show ((2 : Int) != 3) = true from rfl, show ((3 : Int) != 2) = true from rfl, show ((3 : Int) != 1) = true from rfl, show ((3 : Int) != 3) = false from rfl, show ((3 : Int) == 1) = false from rfl, e, o1]
      · try simp -implicitDefEqProofs only [go_sem, true_implies, false_implies, n1, CellV.no, show ((1 : Int) != 2) = true from rfl, show ((1 : Int) != 1) = false from rfl, show ((1 : Int) == 1) = true from rfl, show ((1 : Int) != 3) = true from rfl, show ((2 : Int) != 2) = false from rfl, show ((2 : Int) != 1) = true from rfl, show ((2 : Int) != 3) = true from rfl, show ((3 : Int) != 2) = true from rfl, show ((3 : Int) != 1) = true from rfl, show ((3 : Int) != 3) = false from rfl, show ((3 : Int) == 1) = false from rfl, e, o1]
    · cases o2 : (old.Tag != 0)
      · try simp -implicitDefEqProofs only [go_sem, true_implies, false_implies, o1, o2]
        refine .of (c_i_sameCell new ⟨0, []⟩) ?_
        try simp -implicitDefEqProofs only [go_sem, true_implies, false_implies, CellV.no, show ((1 : Int) != 2) = true from rfl, show ((1 : Int) != 1) = false from rfl, show ((1 : Int) == 1) = true from rfl, show ((1 : Int) != 3) = true from rfl, show ((2 : Int) != 2) = false from rfl, show ((2 : Int) != 1) = true from rfl, show ((2 : Int) != 3) = true from rfl, show ((3 : Int) != 2) = true from rfl, show ((3 : Int) != 1) = true from rfl, show ((3 : Int) != 3) = false from rfl, show ((3 : Int) == 1) = false from rfl]
        cases n1 : (new.Tag == 0)
        · try simp -implicitDefEqProofs only [go_sem, true_implies, false_implies, n1, CellV.no, show ((1 : Int) != 2) = true from rfl, show ((1 : Int) != 1) = false from rfl, show ((1 : Int) == 1) = true from rfl, show ((1 : Int) != 3) = true from rfl, show ((2 : Int) != 2) = false from rfl, show ((2 : Int) != 1) = true from rfl, show ((2 : Int) != 3) = true from rfl, show ((3 : Int) != 2) = true from rfl, show ((3 : Int) != 1) = true from rfl, show ((3 : Int) != 3) = false from rfl, show ((3 : Int) == 1) = false from rfl, e, o1, o2]
        · try simp -implicitDefEqProofs only [go_sem, true_implies, false_implies, n1, CellV.no, show ((1 : Int) != 2) = true from rfl, show ((1 : Int) != 1) = false from rfl, show ((1 : Int) == 1) = true from rfl, show ((1 : Int) != 3) = true from rfl, show ((2 : Int) != 2) = false from rfl, show ((2 : Int) != 1) = true from rfl, show ((2 : Int) != 3) = true from rfl, show ((3 : Int) != 2) = true from rfl, show ((3 : Int) != 1) = true from rfl, show ((3 : Int) != 3) = false from rfl, show ((3 : Int) == 1) = false from rfl, e, o1, o2]
      · cases o3 : old.text.2
        · cases aside
          · try simp -implicitDefEqProofs only [go_sem, true_implies, false_implies, o1, o2, o3, CellV.no, show ((1 : Int) != 2) = true from rfl, show ((1 : Int) != 1) = false from rfl, show ((1 : Int) == 1) = true from rfl, show ((1 : Int) != 3) = true from rfl, show ((2 : Int) != 2) = false from rfl, show ((2 : Int) != 1) = true from rfl, show ((2 : Int) != 3) = true from rfl, show ((3 : Int) != 2) = true from rfl, show ((3 : Int) != 1) = true from rfl, show ((3 : Int) != 3) = false from rfl, show ((3 : Int) == 1) = false from rfl]
            refine .of (c_i_sameCell new ⟨0, []⟩) ?_
            try simp -implicitDefEqProofs only [go_sem, true_implies, false_implies, CellV.no, show ((1 : Int) != 2) = true from rfl, show ((1 : Int) != 1) = false from rfl, show ((1 : Int) == 1) = true from rfl, show ((1 : Int) != 3) = true from rfl, show ((2 : Int) != 2) = false from rfl, show ((2 : Int) != 1) = true from rfl, show ((2 : Int) != 3) = true from rfl, show ((3 : Int) != 2) = true from rfl, show ((3 : Int) != 1) = true from rfl, show ((3 : Int) != 3) = false from rfl, show ((3 : Int) == 1) = false from rfl]
            cases n1 : (new.Tag == 0)
            · try simp -implicitDefEqProofs only [go_sem, true_implies, false_implies, n1, CellV.no, show ((1 : Int) != 2) = true from rfl, show ((1 : Int) != 1) = false from rfl, show ((1 : Int) == 1) = true from rfl, show ((1 : Int) != 3) = true from rfl, show ((2 : Int) != 2) = false from rfl, show ((2 : Int) != 1) = true from rfl, show ((2 : Int) != 3) = true from rfl, show ((3 : Int) != 2) = true from rfl, show ((3 : Int) != 1) = true from rfl, show ((3 : Int) != 3) = false from rfl, show ((3 : Int) == 1) = false from rfl, e, o1, o2, o3]
            · try simp -implicitDefEqProofs only [go_sem, true_implies, false_implies, n1, CellV.no, show ((1 : Int) != 2) = true from rfl, show ((1 : Int) != 1) = false from rfl, show ((1 : Int) == 1) = true from rfl, show ((1 : Int) != 3) = true from rfl, show ((2 : Int) != 2) = false from rfl, show ((2 : Int) != 1) = true from rfl, show ((2 : Int) != 3) = true from rfl, show ((3 : Int) != 2) = true from rfl, show ((3 : Int) != 1) = true from rfl, show ((3 : Int) != 3) = false from rfl, show ((3 : Int) == 1) = false from rfl, e, o1, o2, o3]
          · try simp -implicitDefEqProofs only [go_sem, true_implies, false_implies, o1, o2, o3, CellV.no, show ((1 : Int) != 2) = true from rfl, show ((1 : Int) != 1) = false from rfl, show ((1 : Int) == 1) = true from rfl, show ((1 : Int) != 3) = true from rfl, show ((2 : Int) != 2) = false from rfl, show ((2 : Int) != 1) = true from rfl, show ((2 : Int) != 3) = true from rfl, show ((3 : Int) != 2) = true from rfl, show ((3 : Int) != 1) = true from rfl, show ((3 : Int) != 3) = false from rfl, show ((3 : Int) == 1) = false from rfl]
            refine .of (c_i_sameCell new ⟨0, []⟩) ?_
            try simp -implicitDefEqProofs only [go_sem, true_implies, false_implies, CellV.no, show ((1 : Int) != 2) = true from rfl, show ((1 : Int) != 1) = false from rfl, show ((1 : Int) == 1) = true from rfl, show ((1 : Int) != 3) = true from rfl, show ((2 : Int) != 2) = false from rfl, show ((2 : Int) != 1) = true from rfl, show ((2 : Int) != 3) = true from rfl, show ((3 : Int) != 2) = true from rfl, show ((3 : Int) != 1) = true from rfl, show ((3 : Int) != 3) = false from rfl, show ((3 : Int) == 1) = false from rfl]
            cases n1 : (new.Tag == 0)
            · try simp -implicitDefEqProofs only [go_sem, true_implies, false_implies, n1, CellV.no, show ((1 : Int) != 2) = true from rfl, show ((1 : Int) != 1) = false from rfl, show ((1 : Int) == 1) = true from rfl, show ((1 : Int) != 3) = true from rfl, show ((2 : Int) != 2) = false from rfl, show ((2 : Int) != 1) = true from rfl, show ((2 : Int) != 3) = true from rfl, show ((3 : Int) != 2) = true from rfl, show ((3 : Int) != 1) = true from rfl, show ((3 : Int) != 3) = false from rfl, show ((3 : Int) == 1) = false from rfl, e, o1, o2, o3]
            · try simp -implicitDefEqProofs only [go_sem, true_implies, false_implies, n1, CellV.no, show ((1 : Int) != 2) = true from rfl, show ((1 : Int) != 1) = false from rfl, show ((1 : Int) == 1) = true from rfl, show ((1 : Int) != 3) = true from rfl, show ((2 : Int) != 2) = false from rfl, show ((2 : Int) != 1) = true from rfl, show ((2 : Int) != 3) = true from rfl, show ((3 : Int) != 2) = true from rfl, show ((3 : Int) != 1) = true from rfl, show ((3 : Int) != 3) = false from rfl, show ((3 : Int) == 1) = false from rfl, e, o1, o2, o3]
        · try simp -implicitDefEqProofs only [go_sem, true_implies, false_implies, o1, o2, o3, CellV.no, show ((1 : Int) != 2) = true from rfl, show ((1 : Int) != 1) = false from rfl, show ((1 : Int) == 1) = true from rfl, show ((1 : Int) != 3) = true from rfl, show ((2 : Int) != 2) = false from rfl, show ((2 : Int) != 1) = true from rfl, show ((2 : Int) != 3) = true from rfl, show ((3 : Int) != 2) = true from rfl, show ((3 : Int) != 1) = true from rfl, show ((3 : Int) != 3) = false from rfl, show ((3 : Int) == 1) = false from rfl]
          refine .of (c_i_sameCell new ⟨0, []⟩) ?_
          try simp -implicitDefEqProofs only [go_sem, true_implies, false_implies, CellV.no, show ((1 : Int) != 2) = true from rfl, show ((1 : Int) != 1) = false from rfl, show ((1 : Int) == 1) = true from rfl, show ((1 : Int) != 3) = true from rfl, show ((2 : Int) != 2) = false from rfl, show ((2 : Int) != 1) = true from rfl, show ((2 : Int) != 3) = true from rfl, show ((3 : Int) != 2) = true from rfl, show ((3 : Int) != 1) = true from rfl, show ((3 : Int) != 3) = false from rfl, show ((3 : Int) == 1) = false from rfl]
          cases n1 : (new.Tag == 0)
          · try simp -implicitDefEqProofs only [go_sem, true_implies, false_implies, n1, CellV.no, show ((1 : Int) != 2) = true from rfl, show ((1 : Int) != 1) = false from rfl, show ((1 : Int) == 1) = true from rfl, show ((1 : Int) != 3) = true from rfl, show ((2 : Int) != 2) = false from rfl, show ((2 : Int) != 1) = true from rfl, show ((2 : Int) != 3) = true from rfl, show ((3 : Int) != 2) = true from rfl, show ((3 : Int) != 1) = true from rfl, show ((3 : Int) != 3) = false from rfl, show ((3 : Int) == 1) = false from rfl, e, o1, o2, o3]
          · cases n2 : new.text.2
            · try simp -implicitDefEqProofs only [go_sem, true_implies, false_implies, n1, n2, CellV.no, show ((1 : Int) != 2) = true from rfl, show ((1 : Int) != 1) = false from rfl, show ((1 : Int) == 1) = true from rfl, show ((1 : Int) != 3) = true from rfl, show ((2 : Int) != 2) = false from rfl, show ((2 : Int) != 1) = true from rfl, show ((2 : Int) != 3) = true from rfl, show ((3 : Int) != 2) = true from rfl, show ((3 : Int) != 1) = true from rfl, show ((3 : Int) != 3) = false from rfl, show ((3 : Int) == 1) = false from rfl, e, o1, o2, o3]
            · try simp -implicitDefEqProofs only [go_sem, true_implies, false_implies, n1, n2, CellV.no, show ((1 : Int) != 2) = true from rfl, show ((1 : Int) != 1) = false from rfl, show ((1 : Int) == 1) = true from rfl, show ((1 : Int) != 3) = true from rfl, show ((2 : Int) != 2) = false from rfl, show ((2 : Int) != 1) = true from rfl, show ((2 : Int) != 3) = true from rfl, show ((3 : Int) != 2) = true from rfl, show ((3 : Int) != 1) = true from rfl, show ((3 : Int) != 3) = false from rfl, show ((3 : Int) == 1) = false from rfl]
              refine .of (c_i_SameText old new) ?_
              try simp -implicitDefEqProofs only [go_sem, true_implies, false_implies, e, o1, o2, o3, n1, n2]
def x_s_RowOk : FnX := ⟨106, [.tmp 2],
  .seq (.reg [⟨none, some 1, 1, .box (.t 0)⟩,
   ⟨none, some 2, 2, .mv (.k (.one (.pv (.bool false))))⟩])
 (.seq (.seq (.reg [⟨none, some 7, 7, .faddr (.t 1) 0⟩,
   ⟨none, some 8, 8, .load none (.t 7)⟩,
   ⟨none, some 9, 9, .call 209 [0] [(.t 8)]⟩,
   ⟨none, some 10, 10, .not (.t 9)⟩,
   ⟨none, some 11, 11, .mv (.t 10)⟩,
   ⟨(some (11, false)), some 12, 12, .faddr (.t 1) 5⟩,
   ⟨(some (11, false)), some 13, 13, .load none (.t 12)⟩,
   ⟨(some (11, false)), some 14, 14, .call 29 [0, 0, 0] [(.t 13), (.k (.one (.pv (.int .i64 1)))), (.k (.one (.pv (.int .i64 3))))]⟩,
   ⟨(some (11, false)), some 15, 15, .not (.t 14)⟩,
   ⟨none, some 16, 16, .pick (.t 11) (.k (.one (.pv (.bool true)))) (.t 15)⟩,
   ⟨none, some 17, 17, .mv (.t 16)⟩,
   ⟨(some (17, false)), some 18, 18, .load (some 7) (.t 1)⟩,
   ⟨(some (17, false)), some 19, 19, .call 212 [0] [(.t 18)]⟩,
   ⟨(some (17, false)), some 20, 20, .not (.t 19)⟩,
   ⟨(some (17, false)), some 21, 21, .mv (.t 20)⟩,
   ⟨(some (21, true)), some 22, 22, .faddr (.t 1) 1⟩,
   ⟨(some (21, true)), some 23, 23, .load (some 2) (.t 22)⟩,
   ⟨(some (21, true)), some 24, 24, .call 217 [0] [(.t 23)]⟩,
   ⟨(some (21, true)), some 25, 25, .not (.t 24)⟩,
   ⟨(some (17, false)), some 26, 26, .pick (.t 21) (.t 25) (.k (.one (.pv (.bool false))))⟩,
   ⟨none, some 27, 27, .pick (.t 17) (.k (.one (.pv (.bool true)))) (.t 26)⟩,
   ⟨none, some 28, 28, .mv (.t 27)⟩,
   ⟨(some (28, false)), some 29, 29, .load (some 7) (.t 1)⟩,
   ⟨(some (28, false)), some 30, 30, .call 65 [0] [(.t 29)]⟩,
   ⟨(some (28, false)), some 31, 31, .not (.t 30)⟩,
   ⟨(some (28, false)), some 32, 32, .mv (.t 31)⟩,
   ⟨(some (32, true)), some 33, 33, .faddr (.t 1) 3⟩,
   ⟨(some (32, true)), some 34, 34, .load (some 2) (.t 33)⟩,
   ⟨(some (32, true)), some 35, 35, .call 217 [0] [(.t 34)]⟩,
   ⟨(some (32, true)), some 36, 36, .not (.t 35)⟩,
   ⟨(some (28, false)), some 37, 37, .pick (.t 32) (.t 36) (.k (.one (.pv (.bool false))))⟩,
   ⟨none, some 38, 38, .pick (.t 28) (.k (.one (.pv (.bool true)))) (.t 37)⟩])
 (.cond 38 (.seq (.reg [⟨none, some 2, 2, .mv (.k (.one (.pv (.bool false))))⟩])
 (.ret)) (.skip)))
 (.seq (.reg [⟨none, some 40, 40, .faddr (.t 1) 1⟩,
   ⟨none, some 41, 41, .load (some 2) (.t 40)⟩,
   ⟨none, some 42, 42, .call 66 [0] [(.t 41)]⟩,
   ⟨none, some 39, 39, .mv (.t 42)⟩,
   ⟨none, some 43, 43, .ext (.t 39) 0⟩,
   ⟨none, some 44, 44, .ext (.t 39) 1⟩,
   ⟨none, some 3, 3, .mv (.t 43)⟩,
   ⟨none, some 4, 4, .mv (.t 44)⟩])
 (.seq (.reg [⟨none, some 46, 46, .faddr (.t 1) 3⟩,
   ⟨none, some 47, 47, .load (some 2) (.t 46)⟩,
   ⟨none, some 48, 48, .call 66 [0] [(.t 47)]⟩,
   ⟨none, some 45, 45, .mv (.t 48)⟩,
   ⟨none, some 49, 49, .ext (.t 45) 0⟩,
   ⟨none, some 50, 50, .ext (.t 45) 1⟩,
   ⟨none, some 5, 5, .mv (.t 49)⟩,
   ⟨none, some 6, 6, .mv (.t 50)⟩])
 (.seq (.block 0 (.seq (.reg [⟨none, some 52, 52, .load (some 7) (.t 1)⟩,
   ⟨none, some 53, 53, .call 212 [0] [(.t 52)]⟩,
   ⟨none, some 54, 54, .mv (.t 53)⟩,
   ⟨(some (54, true)), some 55, 55, .faddr (.t 1) 1⟩,
   ⟨(some (54, true)), some 56, 56, .faddr (.t 55) 0⟩,
   ⟨(some (54, true)), some 57, 57, .load none (.t 56)⟩,
   ⟨(some (54, true)), some 58, 58, .call 29 [0, 0, 0] [(.t 57), (.k (.one (.pv (.int .i64 1)))), (.k (.one (.pv (.int .i64 5))))]⟩,
   ⟨(some (54, true)), some 59, 59, .not (.t 58)⟩,
   ⟨(some (54, true)), some 60, 60, .mv (.t 59)⟩,
   ⟨(some (60, false)), some 61, 61, .faddr (.t 1) 1⟩,
   ⟨(some (60, false)), some 62, 62, .load (some 2) (.t 61)⟩,
   ⟨(some (60, false)), some 63, 63, .call 112 [0] [(.t 62)]⟩,
   ⟨(some (60, false)), some 64, 64, .not (.t 63)⟩,
   ⟨(some (54, true)), some 65, 65, .pick (.t 60) (.k (.one (.pv (.bool true)))) (.t 64)⟩,
   ⟨none, some 66, 66, .pick (.t 54) (.t 65) (.k (.one (.pv (.bool false))))⟩,
   ⟨none, some 51, 51, .mv (.t 66)⟩])
 (.cond 51 (.seq (.reg [⟨none, some 2, 2, .mv (.k (.one (.pv (.bool false))))⟩])
 (.ret)) (.seq (.reg [⟨none, some 68, 68, .load (some 7) (.t 1)⟩,
   ⟨none, some 69, 69, .call 65 [0] [(.t 68)]⟩,
   ⟨none, some 70, 70, .mv (.t 69)⟩,
   ⟨(some (70, true)), some 71, 71, .faddr (.t 1) 3⟩,
   ⟨(some (70, true)), some 72, 72, .faddr (.t 71) 0⟩,
   ⟨(some (70, true)), some 73, 73, .load none (.t 72)⟩,
   ⟨(some (70, true)), some 74, 74, .bin .neq (.t 73) (.k (.one (.pv (.int .i64 0))))⟩,
   ⟨(some (70, true)), some 75, 75, .mv (.t 74)⟩,
   ⟨(some (75, false)), some 76, 76, .mv (.t 6)⟩,
   ⟨(some (75, false)), some 77, 77, .not (.t 76)⟩,
   ⟨(some (70, true)), some 78, 78, .pick (.t 75) (.k (.one (.pv (.bool true)))) (.t 77)⟩,
   ⟨none, some 79, 79, .pick (.t 70) (.t 78) (.k (.one (.pv (.bool false))))⟩,
   ⟨none, some 67, 67, .mv (.t 79)⟩])
 (.cond 67 (.seq (.reg [⟨none, some 2, 2, .mv (.k (.one (.pv (.bool false))))⟩])
 (.ret)) (.seq (.reg [⟨none, some 81, 81, .load (some 7) (.t 1)⟩,
   ⟨none, some 82, 82, .call 212 [0] [(.t 81)]⟩,
   ⟨none, some 83, 83, .mv (.t 82)⟩,
   ⟨(some (83, true)), some 84, 84, .mv (.t 4)⟩,
   ⟨(some (83, true)), some 85, 85, .not (.t 84)⟩,
   ⟨none, some 86, 86, .pick (.t 83) (.t 85) (.k (.one (.pv (.bool false))))⟩,
   ⟨none, some 87, 87, .mv (.t 86)⟩,
   ⟨(some (87, true)), some 88, 88, .faddr (.t 1) 6⟩,
   ⟨(some (87, true)), some 89, 89, .load none (.t 88)⟩,
   ⟨(some (87, true)), some 90, 90, .not (.t 89)⟩,
   ⟨(some (87, true)), some 91, 91, .mv (.t 90)⟩,
   ⟨(some (91, false)), some 92, 92, .load (some 7) (.t 1)⟩,
   ⟨(some (91, false)), some 93, 93, .call 65 [0] [(.t 92)]⟩,
   ⟨(some (87, true)), some 94, 94, .pick (.t 91) (.k (.one (.pv (.bool true)))) (.t 93)⟩,
   ⟨none, some 95, 95, .pick (.t 87) (.t 94) (.k (.one (.pv (.bool false))))⟩,
   ⟨none, some 80, 80, .mv (.t 95)⟩])
 (.cond 80 (.seq (.reg [⟨none, some 2, 2, .mv (.k (.one (.pv (.bool false))))⟩])
 (.ret)) (.skip))))))))
 (.seq (.reg [⟨none, some 96, 96, .faddr (.t 1) 5⟩,
   ⟨none, some 97, 97, .load none (.t 96)⟩,
   ⟨none, some 98, 98, .bin .neq (.t 97) (.k (.one (.pv (.int .i64 3))))⟩,
   ⟨none, some 99, 99, .mv (.t 98)⟩,
   ⟨(some (99, false)), some 100, 100, .faddr (.t 1) 1⟩,
   ⟨(some (99, false)), some 101, 101, .load (some 2) (.t 100)⟩,
   ⟨(some (99, false)), some 102, 102, .faddr (.t 1) 3⟩,
   ⟨(some (99, false)), some 103, 103, .load (some 2) (.t 102)⟩,
   ⟨(some (99, false)), some 104, 104, .call 218 [0, 0] [(.t 101), (.t 103)]⟩,
   ⟨none, some 105, 105, .pick (.t 99) (.k (.one (.pv (.bool true)))) (.t 104)⟩,
   ⟨none, some 2, 2, .mv (.t 105)⟩])
 (.ret))))))⟩
abbrev C_s_RowOk (Te : Nat → List AV → Res → Prop) : Prop := ∀ (r : RowV) (h : r.In (2 ^ 48)), Te 190 [.agg (r.enc false)] ⟨[.one (bT r.ok)], [r.enc false]⟩
theorem r_s_RowOk {Te : Nat → List AV → Res → Prop} (c_s_NameOk : C_s_NameOk Te) (c_s_l1In : C_s_l1In Te) (c_s_l9Old : C_s_l9Old Te) (c_s_l9None : C_s_l9None Te) (c_s_l9New : C_s_l9New Te) (c_s_CellText : C_s_CellText Te) (c_s_CellOk : C_s_CellOk Te) (c_s_SameText : C_s_SameText Te) : ∀ (r : RowV) (h : r.In (2 ^ 48)), RunFn Te x_s_RowOk [.agg (r.enc false)] ⟨[.one (bT r.ok)], [r.enc false]⟩ := by
  intro r h
  refine ⟨by simp -implicitDefEqProofs only [x_s_RowOk, go_sem], ?_⟩
  obtain ⟨hk, _⟩ := h
  simp -implicitDefEqProofs only [x_s_RowOk, go_sem, true_implies, false_implies]
  refine .of (c_s_NameOk r.Key hk) ?_
  try simp -implicitDefEqProofs only [go_sem, true_implies, false_implies]
  cases g1 : nameOk r.Key
  · have e := rowOk_name (r := r) g1
    try simp -implicitDefEqProofs only [go_sem, true_implies, false_implies, e]
  try simp -implicitDefEqProofs only [go_sem, true_implies, false_implies]
  refine .of (c_s_l1In _ _ _) ?_
  try simp -implicitDefEqProofs only [go_sem, true_implies, false_implies]
  cases g2 : win r.Has 1 3
  · have e := rowOk_has (r := r) g2
    try simp -implicitDefEqProofs only [go_sem, true_implies, false_implies, e]
  have h3 := win13 g2
  obtain ⟨key, old, new, has, aside⟩ := r
  simp only at h3 g1 hk
  clear g2
  rcases h3 with rfl | rfl | rfl
  · skip
    have e := rowOk_1 (o := old) (n := new) (a := aside) g1
    try simp -implicitDefEqProofs only [go_sem, true_implies, false_implies]
    refine .of (c_s_l9Old ⟨key, old, new, 1, aside⟩ (by simp)) ?_
    try simp -implicitDefEqProofs only [go_sem, true_implies, false_implies, show decide ((1 : Int) ≠ 2) = true from rfl, show decide ((1 : Int) ≠ 1) = false from rfl, show decide ((2 : Int) ≠ 2) = false from rfl, show decide ((2 : Int) ≠ 1) = true from rfl, show decide ((3 : Int) ≠ 2) = true from rfl, show decide ((3 : Int) ≠ 1) = true from rfl, show ((1 : Int) != 2) = true from rfl, show ((1 : Int) != 1) = false from rfl, show ((1 : Int) == 1) = true from rfl, show ((1 : Int) != 3) = true from rfl, show ((2 : Int) != 2) = false from rfl, show ((2 : Int) != 1) = true from rfl, show ((2 : Int) != 3) = true from rfl, show ((3 : Int) != 2) = true from rfl, show ((3 : Int) != 1) = true from rfl, show ((3 : Int) != 3) = false from rfl, show ((3 : Int) == 1) = false from rfl]
    refine .of (c_s_l9New ⟨key, old, new, 1, aside⟩ (by simp)) ?_
    try simp -implicitDefEqProofs only [go_sem, true_implies, false_implies, show decide ((1 : Int) ≠ 2) = true from rfl, show decide ((1 : Int) ≠ 1) = false from rfl, show decide ((2 : Int) ≠ 2) = false from rfl, show decide ((2 : Int) ≠ 1) = true from rfl, show decide ((3 : Int) ≠ 2) = true from rfl, show decide ((3 : Int) ≠ 1) = true from rfl, show ((1 : Int) != 2) = true from rfl, show ((1 : Int) != 1) = false from rfl, show ((1 : Int) == 1) = true from rfl, show ((1 : Int) != 3) = true from rfl, show ((2 : Int) != 2) = false from rfl, show ((2 : Int) != 1) = true from rfl, show ((2 : Int) != 3) = true from rfl, show ((3 : Int) != 2) = true from rfl, show ((3 : Int) != 1) = true from rfl, show ((3 : Int) != 3) = false from rfl, show ((3 : Int) == 1) = false from rfl]
    refine .of (c_s_l9None new) ?_
    try simp -implicitDefEqProofs only [go_sem, true_implies, false_implies]
    cases n1 : new.no
    · try simp -implicitDefEqProofs only [go_sem, true_implies, false_implies, n1, e]
    try simp -implicitDefEqProofs only [go_sem, true_implies, false_implies, n1]
    refine .of (c_s_CellText old) ?_
    try simp -implicitDefEqProofs only [go_sem, true_implies, false_implies]
    refine .of (c_s_CellText new) ?_
    try simp -implicitDefEqProofs only [go_sem, true_implies, false_implies]
    refine .of (c_s_l9Old ⟨key, old, new, 1, aside⟩ (by simp)) ?_
    try simp -implicitDefEqProofs only [go_sem, true_implies, false_implies, show decide ((1 : Int) ≠ 2) = true from rfl, show decide ((1 : Int) ≠ 1) = false from rfl, show decide ((2 : Int) ≠ 2) = false from rfl, show decide ((2 : Int) ≠ 1) = true from rfl, show decide ((3 : Int) ≠ 2) = true from rfl, show decide ((3 : Int) ≠ 1) = true from rfl, show ((1 : Int) != 2) = true from rfl, show ((1 : Int) != 1) = false from rfl, show ((1 : Int) == 1) = true from rfl, show ((1 : Int) != 3) = true from rfl, show ((2 : Int) != 2) = false from rfl, show ((2 : Int) != 1) = true from rfl, show ((2 : Int) != 3) = true from rfl, show ((3 : Int) != 2) = true from rfl, show ((3 : Int) != 1) = true from rfl, show ((3 : Int) != 3) = false from rfl, show ((3 : Int) == 1) = false from rfl]
    refine .of (c_s_l1In _ _ _) ?_
    try simp -implicitDefEqProofs only [go_sem, true_implies, false_implies]
    cases w : win old.Tag 1 5
    · have e2 := tag_no w
      try simp -implicitDefEqProofs only [go_sem, true_implies, false_implies, w, e, e2]
    have t := tag_yes w
    try simp -implicitDefEqProofs only [go_sem, true_implies, false_implies, w]
    refine .of (c_s_CellOk old) ?_
    try simp -implicitDefEqProofs only [go_sem, true_implies, false_implies]
    cases o1 : old.ok
    · try simp -implicitDefEqProofs only [go_sem, true_implies, false_implies, o1, e]
    try simp -implicitDefEqProofs only [go_sem, true_implies, false_implies, o1]
    refine .of (c_s_l9New ⟨key, old, new, 1, aside⟩ (by simp)) ?_
    try simp -implicitDefEqProofs only [go_sem, true_implies, false_implies, show decide ((1 : Int) ≠ 2) = true from rfl, show decide ((1 : Int) ≠ 1) = false from rfl, show decide ((2 : Int) ≠ 2) = false from rfl, show decide ((2 : Int) ≠ 1) = true from rfl, show decide ((3 : Int) ≠ 2) = true from rfl, show decide ((3 : Int) ≠ 1) = true from rfl, show ((1 : Int) != 2) = true from rfl, show ((1 : Int) != 1) = false from rfl, show ((1 : Int) == 1) = true from rfl, show ((1 : Int) != 3) = true from rfl, show ((2 : Int) != 2) = false from rfl, show ((2 : Int) != 1) = true from rfl, show ((2 : Int) != 3) = true from rfl, show ((3 : Int) != 2) = true from rfl, show ((3 : Int) != 1) = true from rfl, show ((3 : Int) != 3) = false from rfl, show ((3 : Int) == 1) = false from rfl]
    refine .of (c_s_l9Old ⟨key, old, new, 1, aside⟩ (by simp)) ?_
    try simp -implicitDefEqProofs only [go_sem, true_implies, false_implies, show decide ((1 : Int) ≠ 2) = true from rfl, show decide ((1 : Int) ≠ 1) = false from rfl, show decide ((2 : Int) ≠ 2) = false from rfl, show decide ((2 : Int) ≠ 1) = true from rfl, show decide ((3 : Int) ≠ 2) = true from rfl, show decide ((3 : Int) ≠ 1) = true from rfl, show ((1 : Int) != 2) = true from rfl, show ((1 : Int) != 1) = false from rfl, show ((1 : Int) == 1) = true from rfl, show ((1 : Int) != 3) = true from rfl, show ((2 : Int) != 2) = false from rfl, show ((2 : Int) != 1) = true from rfl, show ((2 : Int) != 3) = true from rfl, show ((3 : Int) != 2) = true from rfl, show ((3 : Int) != 1) = true from rfl, show ((3 : Int) != 3) = false from rfl, show ((3 : Int) == 1) = false from rfl]
    cases o3 : old.text.2
    · cases aside
      · try simp -implicitDefEqProofs only [go_sem, true_implies, false_implies, o3, e, o1, t, show decide ((1 : Int) ≠ 2) = true from rfl, show decide ((1 : Int) ≠ 1) = false from rfl, show decide ((2 : Int) ≠ 2) = false from rfl, show decide ((2 : Int) ≠ 1) = true from rfl, show decide ((3 : Int) ≠ 2) = true from rfl, show decide ((3 : Int) ≠ 1) = true from rfl, show ((1 : Int) != 2) = true from rfl, show ((1 : Int) != 1) = false from rfl, show ((1 : Int) == 1) = true from rfl, show ((1 : Int) != 3) = true from rfl, show ((2 : Int) != 2) = false from rfl, show ((2 : Int) != 1) = true from rfl, show ((2 : Int) != 3) = true from rfl, show ((3 : Int) != 2) = true from rfl, show ((3 : Int) != 1) = true from rfl, show ((3 : Int) != 3) = false from rfl, show ((3 : Int) == 1) = false from rfl]
      · try simp -implicitDefEqProofs only [go_sem, true_implies, false_implies, o3, show decide ((1 : Int) ≠ 2) = true from rfl, show decide ((1 : Int) ≠ 1) = false from rfl, show decide ((2 : Int) ≠ 2) = false from rfl, show decide ((2 : Int) ≠ 1) = true from rfl, show decide ((3 : Int) ≠ 2) = true from rfl, show decide ((3 : Int) ≠ 1) = true from rfl, show ((1 : Int) != 2) = true from rfl, show ((1 : Int) != 1) = false from rfl, show ((1 : Int) == 1) = true from rfl, show ((1 : Int) != 3) = true from rfl, show ((2 : Int) != 2) = false from rfl, show ((2 : Int) != 1) = true from rfl, show ((2 : Int) != 3) = true from rfl, show ((3 : Int) != 2) = true from rfl, show ((3 : Int) != 1) = true from rfl, show ((3 : Int) != 3) = false from rfl, show ((3 : Int) == 1) = false from rfl]
        refine .of (c_s_l9New ⟨key, old, new, 1, true⟩ (by simp)) ?_
        try simp -implicitDefEqProofs only [go_sem, true_implies, false_implies, show decide ((1 : Int) ≠ 2) = true from rfl, show decide ((1 : Int) ≠ 1) = false from rfl, show decide ((2 : Int) ≠ 2) = false from rfl, show decide ((2 : Int) ≠ 1) = true from rfl, show decide ((3 : Int) ≠ 2) = true from rfl, show decide ((3 : Int) ≠ 1) = true from rfl, show ((1 : Int) != 2) = true from rfl, show ((1 : Int) != 1) = false from rfl, show ((1 : Int) == 1) = true from rfl, show ((1 : Int) != 3) = true from rfl, show ((2 : Int) != 2) = false from rfl, show ((2 : Int) != 1) = true from rfl, show ((2 : Int) != 3) = true from rfl, show ((3 : Int) != 2) = true from rfl, show ((3 : Int) != 1) = true from rfl, show ((3 : Int) != 3) = false from rfl, show ((3 : Int) == 1) = false from rfl, e, o1, t, o3, n1]
    · try simp -implicitDefEqProofs only [go_sem, true_implies, false_implies, o3, e, o1, t, n1, show decide ((1 : Int) ≠ 2) = true from rfl, show decide ((1 : Int) ≠ 1) = false from rfl, show decide ((2 : Int) ≠ 2) = false from rfl, show decide ((2 : Int) ≠ 1) = true from rfl, show decide ((3 : Int) ≠ 2) = true from rfl, show decide ((3 : Int) ≠ 1) = true from rfl, show ((1 : Int) != 2) = true from rfl, show ((1 : Int) != 1) = false from rfl, show ((1 : Int) == 1) = true from rfl, show ((1 : Int) != 3) = true from rfl, show ((2 : Int) != 2) = false from rfl, show ((2 : Int) != 1) = true from rfl, show ((2 : Int) != 3) = true from rfl, show ((3 : Int) != 2) = true from rfl, show ((3 : Int) != 1) = true from rfl, show ((3 : Int) != 3) = false from rfl, show ((3 : Int) == 1) = false from rfl]
  · skip
    have e := rowOk_2 (o := old) (n := new) (a := aside) g1
    try simp -implicitDefEqProofs only [go_sem, true_implies, false_implies]
    refine .of (c_s_l9Old ⟨key, old, new, 2, aside⟩ (by simp)) ?_
    try simp -implicitDefEqProofs only [go_sem, true_implies, false_implies, show decide ((1 : Int) ≠ 2) = true from rfl, show decide ((1 : Int) ≠ 1) = false from rfl, show decide ((2 : Int) ≠ 2) = false from rfl, show decide ((2 : Int) ≠ 1) = true from rfl, show decide ((3 : Int) ≠ 2) = true from rfl, show decide ((3 : Int) ≠ 1) = true from rfl, show ((1 : Int) != 2) = true from rfl, show ((1 : Int) != 1) = false from rfl, show ((1 : Int) == 1) = true from rfl, show ((1 : Int) != 3) = true from rfl, show ((2 : Int) != 2) = false from rfl, show ((2 : Int) != 1) = true from rfl, show ((2 : Int) != 3) = true from rfl, show ((3 : Int) != 2) = true from rfl, show ((3 : Int) != 1) = true from rfl, show ((3 : Int) != 3) = false from rfl, show ((3 : Int) == 1) = false from rfl]
    refine .of (c_s_l9None old) ?_
    try simp -implicitDefEqProofs only [go_sem, true_implies, false_implies]
    cases o1 : old.no
    · try simp -implicitDefEqProofs only [go_sem, true_implies, false_implies, o1, e]
    try simp -implicitDefEqProofs only [go_sem, true_implies, false_implies, o1]
    refine .of (c_s_l9New ⟨key, old, new, 2, aside⟩ (by simp)) ?_
    try simp -implicitDefEqProofs only [go_sem, true_implies, false_implies, show decide ((1 : Int) ≠ 2) = true from rfl, show decide ((1 : Int) ≠ 1) = false from rfl, show decide ((2 : Int) ≠ 2) = false from rfl, show decide ((2 : Int) ≠ 1) = true from rfl, show decide ((3 : Int) ≠ 2) = true from rfl, show decide ((3 : Int) ≠ 1) = true from rfl, show ((1 : Int) != 2) = true from rfl, show ((1 : Int) != 1) = false from rfl, show ((1 : Int) == 1) = true from rfl, show ((1 : Int) != 3) = true from rfl, show ((2 : Int) != 2) = false from rfl, show ((2 : Int) != 1) = true from rfl, show ((2 : Int) != 3) = true from rfl, show ((3 : Int) != 2) = true from rfl, show ((3 : Int) != 1) = true from rfl, show ((3 : Int) != 3) = false from rfl, show ((3 : Int) == 1) = false from rfl]
    refine .of (c_s_CellText old) ?_
    try simp -implicitDefEqProofs only [go_sem, true_implies, false_implies]
    refine .of (c_s_CellText new) ?_
    try simp -implicitDefEqProofs only [go_sem, true_implies, false_implies]
    refine .of (c_s_l9Old ⟨key, old, new, 2, aside⟩ (by simp)) ?_
    try simp -implicitDefEqProofs only [go_sem, true_implies, false_implies, show decide ((1 : Int) ≠ 2) = true from rfl, show decide ((1 : Int) ≠ 1) = false from rfl, show decide ((2 : Int) ≠ 2) = false from rfl, show decide ((2 : Int) ≠ 1) = true from rfl, show decide ((3 : Int) ≠ 2) = true from rfl, show decide ((3 : Int) ≠ 1) = true from rfl, show ((1 : Int) != 2) = true from rfl, show ((1 : Int) != 1) = false from rfl, show ((1 : Int) == 1) = true from rfl, show ((1 : Int) != 3) = true from rfl, show ((2 : Int) != 2) = false from rfl, show ((2 : Int) != 1) = true from rfl, show ((2 : Int) != 3) = true from rfl, show ((3 : Int) != 2) = true from rfl, show ((3 : Int) != 1) = true from rfl, show ((3 : Int) != 3) = false from rfl, show ((3 : Int) == 1) = false from rfl]
    refine .of (c_s_l9New ⟨key, old, new, 2, aside⟩ (by simp)) ?_
    try simp -implicitDefEqProofs only [go_sem, true_implies, false_implies, show decide ((1 : Int) ≠ 2) = true from rfl, show decide ((1 : Int) ≠ 1) = false from rfl, show decide ((2 : Int) ≠ 2) = false from rfl, show decide ((2 : Int) ≠ 1) = true from rfl, show decide ((3 : Int) ≠ 2) = true from rfl, show decide ((3 : Int) ≠ 1) = true from rfl, show ((1 : Int) != 2) = true from rfl, show ((1 : Int) != 1) = false from rfl, show ((1 : Int) == 1) = true from rfl, show ((1 : Int) != 3) = true from rfl, show ((2 : Int) != 2) = false from rfl, show ((2 : Int) != 1) = true from rfl, show ((2 : Int) != 3) = true from rfl, show ((3 : Int) != 2) = true from rfl, show ((3 : Int) != 1) = true from rfl, show ((3 : Int) != 3) = false from rfl, show ((3 : Int) == 1) = false from rfl]
    cases n1 : (new.Tag == 0)
    · have n1' : (new.Tag != 0) = true := by rw [bne, n1]; rfl
      try simp -implicitDefEqProofs only [go_sem, true_implies, false_implies, n1', e, n1]
    have n1' : (new.Tag != 0) = false := by rw [bne, n1]; rfl
    cases n2 : new.text.2
    · try simp -implicitDefEqProofs only [go_sem, true_implies, false_implies, n1', n2, e]
    try simp -implicitDefEqProofs only [go_sem, true_implies, false_implies, n1', n2]
    refine .of (c_s_l9Old ⟨key, old, new, 2, aside⟩ (by simp)) ?_
    try simp -implicitDefEqProofs only [go_sem, true_implies, false_implies, show decide ((1 : Int) ≠ 2) = true from rfl, show decide ((1 : Int) ≠ 1) = false from rfl, show decide ((2 : Int) ≠ 2) = false from rfl, show decide ((2 : Int) ≠ 1) = true from rfl, show decide ((3 : Int) ≠ 2) = true from rfl, show decide ((3 : Int) ≠ 1) = true from rfl, show ((1 : Int) != 2) = true from rfl, show ((1 : Int) != 1) = false from rfl, show ((1 : Int) == 1) = true from rfl, show ((1 : Int) != 3) = true from rfl, show ((2 : Int) != 2) = false from rfl, show ((2 : Int) != 1) = true from rfl, show ((2 : Int) != 3) = true from rfl, show ((3 : Int) != 2) = true from rfl, show ((3 : Int) != 1) = true from rfl, show ((3 : Int) != 3) = false from rfl, show ((3 : Int) == 1) = false from rfl, e, o1, n1, n2]
  · skip
    have e := rowOk_3 (o := old) (n := new) (a := aside) g1
    try simp -implicitDefEqProofs only [go_sem, true_implies, false_implies]
    refine .of (c_s_l9Old ⟨key, old, new, 3, aside⟩ (by simp)) ?_
    try simp -implicitDefEqProofs only [go_sem, true_implies, false_implies, show decide ((1 : Int) ≠ 2) = true from rfl, show decide ((1 : Int) ≠ 1) = false from rfl, show decide ((2 : Int) ≠ 2) = false from rfl, show decide ((2 : Int) ≠ 1) = true from rfl, show decide ((3 : Int) ≠ 2) = true from rfl, show decide ((3 : Int) ≠ 1) = true from rfl, show ((1 : Int) != 2) = true from rfl, show ((1 : Int) != 1) = false from rfl, show ((1 : Int) == 1) = true from rfl, show ((1 : Int) != 3) = true from rfl, show ((2 : Int) != 2) = false from rfl, show ((2 : Int) != 1) = true from rfl, show ((2 : Int) != 3) = true from rfl, show ((3 : Int) != 2) = true from rfl, show ((3 : Int) != 1) = true from rfl, show ((3 : Int) != 3) = false from rfl, show ((3 : Int) == 1) = false from rfl]
    refine .of (c_s_l9New ⟨key, old, new, 3, aside⟩ (by simp)) ?_
    try simp -implicitDefEqProofs only [go_sem, true_implies, false_implies, show decide ((1 : Int) ≠ 2) = true from rfl, show decide ((1 : Int) ≠ 1) = false from rfl, show decide ((2 : Int) ≠ 2) = false from rfl, show decide ((2 : Int) ≠ 1) = true from rfl, show decide ((3 : Int) ≠ 2) = true from rfl, show decide ((3 : Int) ≠ 1) = true from rfl, show ((1 : Int) != 2) = true from rfl, show ((1 : Int) != 1) = false from rfl, show ((1 : Int) == 1) = true from rfl, show ((1 : Int) != 3) = true from rfl, show ((2 : Int) != 2) = false from rfl, show ((2 : Int) != 1) = true from rfl, show ((2 : Int) != 3) = true from rfl, show ((3 : Int) != 2) = true from rfl, show ((3 : Int) != 1) = true from rfl, show ((3 : Int) != 3) = false from rfl, show ((3 : Int) == 1) = false from rfl]
    refine .of (c_s_CellText old) ?_
    try simp -implicitDefEqProofs only [go_sem, true_implies, false_implies]
    refine .of (c_s_CellText new) ?_
    try simp -implicitDefEqProofs only [go_sem, true_implies, false_implies]
    refine .of (c_s_l9Old ⟨key, old, new, 3, aside⟩ (by simp)) ?_
    try simp -implicitDefEqProofs only [go_sem, true_implies, false_implies, show decide ((1 : Int) ≠ 2) = true from rfl, show decide ((1 : Int) ≠ 1) = false from rfl, show decide ((2 : Int) ≠ 2) = false from rfl, show decide ((2 : Int) ≠ 1) = true from rfl, show decide ((3 : Int) ≠ 2) = true from rfl, show decide ((3 : Int) ≠ 1) = true from rfl, show ((1 : Int) != 2) = true from rfl, show ((1 : Int) != 1) = false from rfl, show ((1 : Int) == 1) = true from rfl, show ((1 : Int) != 3) = true from rfl, show ((2 : Int) != 2) = false from rfl, show ((2 : Int) != 1) = true from rfl, show ((2 : Int) != 3) = true from rfl, show ((3 : Int) != 2) = true from rfl, show ((3 : Int) != 1) = true from rfl, show ((3 : Int) != 3) = false from rfl, show ((3 : Int) == 1) = false from rfl]
    refine .of (c_s_l1In _ _ _) ?_
    try simp -implicitDefEqProofs only [go_sem, true_implies, false_implies]
    cases w : win old.Tag 1 5
    · have e2 := tag_no w
      try simp -implicitDefEqProofs only [go_sem, true_implies, false_implies, w, e, e2]
    have t := tag_yes w
    try simp -implicitDefEqProofs only [go_sem, true_implies, false_implies, w]
    refine .of (c_s_CellOk old) ?_
    try simp -implicitDefEqProofs only [go_sem, true_implies, false_implies]
    cases o1 : old.ok
    · try simp -implicitDefEqProofs only [go_sem, true_implies, false_implies, o1, e]
    try simp -implicitDefEqProofs only [go_sem, true_implies, false_implies, o1]
    refine .of (c_s_l9New ⟨key, old, new, 3, aside⟩ (by simp)) ?_
    try simp -implicitDefEqProofs only [go_sem, true_implies, false_implies, show decide ((1 : Int) ≠ 2) = true from rfl, show decide ((1 : Int) ≠ 1) = false from rfl, show decide ((2 : Int) ≠ 2) = false from rfl, show decide ((2 : Int) ≠ 1) = true from rfl, show decide ((3 : Int) ≠ 2) = true from rfl, show decide ((3 : Int) ≠ 1) = true from rfl, show ((1 : Int) != 2) = true from rfl, show ((1 : Int) != 1) = false from rfl, show ((1 : Int) == 1) = true from rfl, show ((1 : Int) != 3) = true from rfl, show ((2 : Int) != 2) = false from rfl, show ((2 : Int) != 1) = true from rfl, show ((2 : Int) != 3) = true from rfl, show ((3 : Int) != 2) = true from rfl, show ((3 : Int) != 1) = true from rfl, show ((3 : Int) != 3) = false from rfl, show ((3 : Int) == 1) = false from rfl]
    cases n1 : (new.Tag == 0)
    · have n1' : (new.Tag != 0) = true := by rw [bne, n1]; rfl
      try simp -implicitDefEqProofs only [go_sem, true_implies, false_implies, n1', e, n1]
    have n1' : (new.Tag != 0) = false := by rw [bne, n1]; rfl
    cases n2 : new.text.2
    · try simp -implicitDefEqProofs only [go_sem, true_implies, false_implies, n1', n2, e]
    try simp -implicitDefEqProofs only [go_sem, true_implies, false_implies, n1', n2]
    refine .of (c_s_l9Old ⟨key, old, new, 3, aside⟩ (by simp)) ?_
    try simp -implicitDefEqProofs only [go_sem, true_implies, false_implies, show decide ((1 : Int) ≠ 2) = true from rfl, show decide ((1 : Int) ≠ 1) = false from rfl, show decide ((2 : Int) ≠ 2) = false from rfl, show decide ((2 : Int) ≠ 1) = true from rfl, show decide ((3 : Int) ≠ 2) = true from rfl, show decide ((3 : Int) ≠ 1) = true from rfl, show ((1 : Int) != 2) = true from rfl, show ((1 : Int) != 1) = false from rfl, show ((1 : Int) == 1) = true from rfl, show ((1 : Int) != 3) = true from rfl, show ((2 : Int) != 2) = false from rfl, show ((2 : Int) != 1) = true from rfl, show ((2 : Int) != 3) = true from rfl, show ((3 : Int) != 2) = true from rfl, show ((3 : Int) != 1) = true from rfl, show ((3 : Int) != 3) = false from rfl, show ((3 : Int) == 1) = false from rfl]
    cases o3 : old.text.2
    · cases aside
      · try simp -implicitDefEqProofs only [go_sem, true_implies, false_implies, o3, e, o1, t, show decide ((1 : Int) ≠ 2) = true from rfl, show decide ((1 : Int) ≠ 1) = false from rfl, show decide ((2 : Int) ≠ 2) = false from rfl, show decide ((2 : Int) ≠ 1) = true from rfl, show decide ((3 : Int) ≠ 2) = true from rfl, show decide ((3 : Int) ≠ 1) = true from rfl, show ((1 : Int) != 2) = true from rfl, show ((1 : Int) != 1) = false from rfl, show ((1 : Int) == 1) = true from rfl, show ((1 : Int) != 3) = true from rfl, show ((2 : Int) != 2) = false from rfl, show ((2 : Int) != 1) = true from rfl, show ((2 : Int) != 3) = true from rfl, show ((3 : Int) != 2) = true from rfl, show ((3 : Int) != 1) = true from rfl, show ((3 : Int) != 3) = false from rfl, show ((3 : Int) == 1) = false from rfl]
      · try simp -implicitDefEqProofs only [go_sem, true_implies, false_implies, o3, show decide ((1 : Int) ≠ 2) = true from rfl, show decide ((1 : Int) ≠ 1) = false from rfl, show decide ((2 : Int) ≠ 2) = false from rfl, show decide ((2 : Int) ≠ 1) = true from rfl, show decide ((3 : Int) ≠ 2) = true from rfl, show decide ((3 : Int) ≠ 1) = true from rfl, show ((1 : Int) != 2) = true from rfl, show ((1 : Int) != 1) = false from rfl, show ((1 : Int) == 1) = true from rfl, show ((1 : Int) != 3) = true from rfl, show ((2 : Int) != 2) = false from rfl, show ((2 : Int) != 1) = true from rfl, show ((2 : Int) != 3) = true from rfl, show ((3 : Int) != 2) = true from rfl, show ((3 : Int) != 1) = true from rfl, show ((3 : Int) != 3) = false from rfl, show ((3 : Int) == 1) = false from rfl]
        refine .of (c_s_l9New ⟨key, old, new, 3, true⟩ (by simp)) ?_
        try simp -implicitDefEqProofs only [go_sem, true_implies, false_implies, show decide ((1 : Int) ≠ 2) = true from rfl, show decide ((1 : Int) ≠ 1) = false from rfl, show decide ((2 : Int) ≠ 2) = false from rfl, show decide ((2 : Int) ≠ 1) = true from rfl, show decide ((3 : Int) ≠ 2) = true from rfl, show decide ((3 : Int) ≠ 1) = true from rfl, show ((1 : Int) != 2) = true from rfl, show ((1 : Int) != 1) = false from rfl, show ((1 : Int) == 1) = true from rfl, show ((1 : Int) != 3) = true from rfl, show ((2 : Int) != 2) = false from rfl, show ((2 : Int) != 1) = true from rfl, show ((2 : Int) != 3) = true from rfl, show ((3 : Int) != 2) = true from rfl, show ((3 : Int) != 1) = true from rfl, show ((3 : Int) != 3) = false from rfl, show ((3 : Int) == 1) = false from rfl, e, o3]
    try simp -implicitDefEqProofs only [go_sem, true_implies, false_implies, o3, show decide ((1 : Int) ≠ 2) = true from rfl, show decide ((1 : Int) ≠ 1) = false from rfl, show decide ((2 : Int) ≠ 2) = false from rfl, show decide ((2 : Int) ≠ 1) = true from rfl, show decide ((3 : Int) ≠ 2) = true from rfl, show decide ((3 : Int) ≠ 1) = true from rfl, show ((1 : Int) != 2) = true from rfl, show ((1 : Int) != 1) = false from rfl, show ((1 : Int) == 1) = true from rfl, show ((1 : Int) != 3) = true from rfl, show ((2 : Int) != 2) = false from rfl, show ((2 : Int) != 1) = true from rfl, show ((2 : Int) != 3) = true from rfl, show ((3 : Int) != 2) = true from rfl, show ((3 : Int) != 1) = true from rfl, show ((3 : Int) != 3) = false from rfl, show ((3 : Int) == 1) = false from rfl]
    refine .of (c_s_SameText old new) ?_
    try simp -implicitDefEqProofs only [go_sem, true_implies, false_implies, e, o1, t, o3, n1, n2]
end Go.X

/- Vf -/
namespace Go.X
set_option maxRecDepth 100000
set_option maxHeartbeats 8000000
theorem rng_end {n i : Nat} {f : Nat → Bool} (h : n ≤ i) (hp : ∀ j, j < i → f j = true) : (List.range n).all f = true := by
  rw [List.all_eq_true]
  intro j hj
  exact hp j (by have := List.mem_range.1 hj; omega)
theorem rng_not {n i : Nat} {f : Nat → Bool} (h : i < n) (hf : f i = false) : (List.range n).all f = false := by
  cases g : (List.range n).all f
  · rfl
  · rw [List.all_eq_true] at g
    have := g i (List.mem_range.2 h)
    rw [hf] at this
    cases this
theorem rng_step {i : Nat} {f : Nat → Bool} (hp : ∀ j, j < i → f j = true) (hf : f i = true) : ∀ j, j < i + 1 → f j = true := by
  intro j hj
  by_cases e : j = i
  · subst e; exact hf
  · exact hp j (by omega)
def rowGood (l : List RowV) (i : Nat) : Bool := ((l[i]?.map RowV.ok).getD true) && (i == 0 || ((l[i - 1]?.bind fun x => l[i]?.map fun y => Op.bytesLess x.Key.toList y.Key.toList).getD true))
theorem rowGood_zero {l : List RowV} (h : 0 < l.length) : rowGood l 0 = l[0].ok := by
  simp only [rowGood, List.getElem?_eq_getElem h, Option.map_some, Option.getD_some, beq_self_eq_true, Bool.true_or, Bool.and_true]
theorem rowGood_succ {l : List RowV} {j : Nat} (h : j + 1 < l.length) : rowGood l (j + 1) = (l[j + 1].ok && Op.bytesLess (l[j]'(by omega)).Key.toList l[j + 1].Key.toList) := by
  have h0 : j < l.length := by omega
  simp only [rowGood, List.getElem?_eq_getElem h, Nat.add_sub_cancel, List.getElem?_eq_getElem h0, Option.map_some, Option.getD_some, Option.bind_some, show (j + 1 == 0) = false from rfl, Bool.false_or]
def MarkV.ok (m : MarkV) : Bool := win m.Who 1 9 && win m.Seq 0 65535 && win m.Code 0 6
def markGood (l : List MarkV) (i : Nat) : Bool := ((l[i]?.map MarkV.ok).getD true) && (i == 0 || ((l[i - 1]?.bind fun x => l[i]?.map fun y => !decide (x.Who ≥ y.Who)).getD true))
theorem markGood_zero {l : List MarkV} (h : 0 < l.length) : markGood l 0 = l[0].ok := by
  simp only [markGood, List.getElem?_eq_getElem h, Option.map_some, Option.getD_some, beq_self_eq_true, Bool.true_or, Bool.and_true]
theorem markGood_succ {l : List MarkV} {j : Nat} (h : j + 1 < l.length) : markGood l (j + 1) = (l[j + 1].ok && !decide ((l[j]'(by omega)).Who ≥ l[j + 1].Who)) := by
  have h0 : j < l.length := by omega
  simp only [markGood, List.getElem?_eq_getElem h, Nat.add_sub_cancel, List.getElem?_eq_getElem h0, Option.map_some, Option.getD_some, Option.bind_some, show (j + 1 == 0) = false from rfl, Bool.false_or]
def TabV.ok (t : TabV) : Bool := (List.range t.Rows.length).all (rowGood t.Rows) && (List.range t.Marks.length).all (markGood t.Marks) && (decide ((t.Rows.length : Int) ≤ 8) && win t.Phase 0 7)
def x_s_l12Mark : FnX := ⟨16, [.tmp 2],
  .seq (.reg [⟨none, some 1, 1, .box (.t 0)⟩,
   ⟨none, some 2, 2, .mv (.k (.one (.pv (.bool false))))⟩])
 (.seq (.reg [⟨none, some 3, 3, .faddr (.t 1) 0⟩,
   ⟨none, some 4, 4, .load none (.t 3)⟩,
   ⟨none, some 5, 5, .call 29 [0, 0, 0] [(.t 4), (.k (.one (.pv (.int .i64 1)))), (.k (.one (.pv (.int .i64 9))))]⟩,
   ⟨none, some 6, 6, .mv (.t 5)⟩,
   ⟨(some (6, true)), some 7, 7, .faddr (.t 1) 1⟩,
   ⟨(some (6, true)), some 8, 8, .load none (.t 7)⟩,
   ⟨(some (6, true)), some 9, 9, .call 145 [0] [(.t 8)]⟩,
   ⟨none, some 10, 10, .pick (.t 6) (.t 9) (.k (.one (.pv (.bool false))))⟩,
   ⟨none, some 11, 11, .mv (.t 10)⟩,
   ⟨(some (11, true)), some 12, 12, .faddr (.t 1) 2⟩,
   ⟨(some (11, true)), some 13, 13, .load none (.t 12)⟩,
   ⟨(some (11, true)), some 14, 14, .call 29 [0, 0, 0] [(.t 13), (.k (.one (.pv (.int .i64 0)))), (.k (.one (.pv (.int .i64 6))))]⟩,
   ⟨none, some 15, 15, .pick (.t 11) (.t 14) (.k (.one (.pv (.bool false))))⟩,
   ⟨none, some 2, 2, .mv (.t 15)⟩])
 (.ret))⟩
abbrev C_s_l12Mark (Te : Nat → List AV → Res → Prop) : Prop := ∀ (m : MarkV), Te 191 [.agg m.row] ⟨[.one (bT m.ok)], [m.row]⟩
theorem r_s_l12Mark {Te : Nat → List AV → Res → Prop} (c_s_l1In : C_s_l1In Te) (c_s_l1Word : C_s_l1Word Te) : ∀ (m : MarkV), RunFn Te x_s_l12Mark [.agg m.row] ⟨[.one (bT m.ok)], [m.row]⟩ := by
  intro m
  refine ⟨by simp -implicitDefEqProofs only [x_s_l12Mark, go_sem], ?_⟩
  simp -implicitDefEqProofs only [x_s_l12Mark, go_sem, true_implies, false_implies, MarkV.ok]
  refine .of (c_s_l1In _ _ _) ?_
  try simp -implicitDefEqProofs only [go_sem, true_implies, false_implies]
  cases g1 : win m.Who 1 9
  · try simp -implicitDefEqProofs only [go_sem, true_implies, false_implies, g1]
  try simp -implicitDefEqProofs only [go_sem, true_implies, false_implies, g1]
  refine .of (c_s_l1Word _) ?_
  try simp -implicitDefEqProofs only [go_sem, true_implies, false_implies]
  cases g2 : win m.Seq 0 65535
  · try simp -implicitDefEqProofs only [go_sem, true_implies, false_implies, g2]
  try simp -implicitDefEqProofs only [go_sem, true_implies, false_implies, g2]
  refine .of (c_s_l1In _ _ _) ?_
  try simp -implicitDefEqProofs only [go_sem, true_implies, false_implies]
def x_i_TabOk : FnX := ⟨85, [.tmp 2],
  .seq (.reg [⟨none, some 1, 1, .box (.t 0)⟩,
   ⟨none, some 2, 2, .mv (.k (.one (.pv (.bool false))))⟩])
 (.seq (.seq (.reg [⟨none, some 7, 7, .faddr (.t 1) 0⟩,
   ⟨none, some 8, 8, .load none (.t 7)⟩,
   ⟨none, some 9, 9, .len (.t 8)⟩,
   ⟨none, some 10, 10, .mv (.k (.one (.pv (.int .i64 0))))⟩])
 (.block 0 (.loop [1, 8, 9, 10] (.seq (.reg [⟨none, some 11, 11, .bin .lss (.t 10) (.t 9)⟩])
 (.seq (.cond 11 (.skip) (.exit 0))
 (.seq (.block 1 (.seq (.reg [⟨none, some 12, 12, .mv (.t 10)⟩,
   ⟨none, some 13, 13, .iaddr 7 (.t 8) (.t 10)⟩,
   ⟨none, some 14, 14, .load (some 7) (.t 13)⟩,
   ⟨none, some 4, 4, .alloc [.pv (.string ⟨#[]⟩), .pv (.int .i64 0), .nils 1, .pv (.int .i64 0), .nils 1, .pv (.int .i64 0), .pv (.bool false)]⟩,
   ⟨none, some 3, 3, .mv (.t 12)⟩,
   ⟨none, none, 100001, .store 7 (.t 4) (.t 14)⟩])
 (.seq (.draw [⟨none, some 15, 15, .load (some 7) (.t 4)⟩,
   ⟨none, some 16, 16, .call 193 [0] [(.t 15)]⟩,
   ⟨none, some 17, 17, .not (.t 16)⟩,
   ⟨none, some 18, 18, .mv (.t 17)⟩,
   ⟨(some (18, false)), some 19, 19, .mv (.t 3)⟩,
   ⟨(some (18, false)), some 20, 20, .bin .gtr (.t 19) (.k (.one (.pv (.int .i64 0))))⟩,
   ⟨(some (18, false)), some 21, 21, .mv (.t 20)⟩,
   ⟨(some (21, true)), some 22, 22, .faddr (.t 1) 0⟩,
   ⟨(some (21, true)), some 23, 23, .load none (.t 22)⟩,
   ⟨(some (21, true)), some 24, 24, .mv (.t 3)⟩,
   ⟨(some (21, true)), some 25, 25, .bin .sub (.t 24) (.k (.one (.pv (.int .i64 1))))⟩,
   ⟨(some (21, true)), some 26, 26, .iaddr 7 (.t 23) (.t 25)⟩,
   ⟨(some (21, true)), some 27, 27, .faddr (.t 26) 0⟩,
   ⟨(some (21, true)), some 28, 28, .load none (.t 27)⟩,
   ⟨(some (21, true)), some 29, 29, .faddr (.t 4) 0⟩,
   ⟨(some (21, true)), some 30, 30, .load none (.t 29)⟩,
   ⟨(some (21, true)), some 31, 31, .bin .geq (.t 28) (.t 30)⟩,
   ⟨(some (18, false)), some 32, 32, .pick (.t 21) (.t 31) (.k (.one (.pv (.bool false))))⟩,
   ⟨none, some 33, 33, .pick (.t 18) (.k (.one (.pv (.bool true)))) (.t 32)⟩] [[], [0], [1], [2, 1], [3], [4, 3], [5, 3, 3], [6], [7, 6], [6], [9, 6], [8, 10, 6], [11, 6], [12, 6], [6], [14, 6], [13, 15, 6], [6, 16, 3], [3, 17]])
 (.cond 33 (.seq (.reg [⟨none, some 2, 2, .mv (.k (.one (.pv (.bool false))))⟩])
 (.ret)) (.skip)))))
 (.reg [⟨none, some 34, 34, .bin .add (.t 10) (.k (.one (.pv (.int .i64 1))))⟩,
   ⟨none, some 10, 10, .mv (.t 34)⟩])))))))
 (.norm [1] (.seq (.seq (.reg [⟨none, some 35, 35, .faddr (.t 1) 2⟩,
   ⟨none, some 36, 36, .load none (.t 35)⟩,
   ⟨none, some 37, 37, .len (.t 36)⟩,
   ⟨none, some 38, 38, .mv (.k (.one (.pv (.int .i64 0))))⟩])
 (.block 2 (.loop [1, 36, 37, 38] (.seq (.reg [⟨none, some 39, 39, .bin .lss (.t 38) (.t 37)⟩])
 (.seq (.cond 39 (.skip) (.exit 2))
 (.seq (.block 3 (.seq (.reg [⟨none, some 40, 40, .mv (.t 38)⟩,
   ⟨none, some 41, 41, .iaddr 3 (.t 36) (.t 38)⟩,
   ⟨none, some 42, 42, .load (some 3) (.t 41)⟩,
   ⟨none, some 6, 6, .alloc [.pv (.int .i64 0), .pv (.int .i64 0), .pv (.int .i64 0)]⟩,
   ⟨none, some 5, 5, .mv (.t 40)⟩,
   ⟨none, none, 100002, .store 3 (.t 6) (.t 42)⟩])
 (.seq (.draw [⟨none, some 43, 43, .faddr (.t 6) 0⟩,
   ⟨none, some 44, 44, .load none (.t 43)⟩,
   ⟨none, some 45, 45, .call 31 [0, 0, 0] [(.t 44), (.k (.one (.pv (.int .i64 1)))), (.k (.one (.pv (.int .i64 9))))]⟩,
   ⟨none, some 46, 46, .not (.t 45)⟩,
   ⟨none, some 47, 47, .mv (.t 46)⟩,
   ⟨(some (47, false)), some 48, 48, .faddr (.t 6) 1⟩,
   ⟨(some (47, false)), some 49, 49, .load none (.t 48)⟩,
   ⟨(some (47, false)), some 50, 50, .call 102 [0] [(.t 49)]⟩,
   ⟨(some (47, false)), some 51, 51, .not (.t 50)⟩,
   ⟨none, some 52, 52, .pick (.t 47) (.k (.one (.pv (.bool true)))) (.t 51)⟩,
   ⟨none, some 53, 53, .mv (.t 52)⟩,
   ⟨(some (53, false)), some 54, 54, .faddr (.t 6) 2⟩,
   ⟨(some (53, false)), some 55, 55, .load none (.t 54)⟩,
   ⟨(some (53, false)), some 56, 56, .call 31 [0, 0, 0] [(.t 55), (.k (.one (.pv (.int .i64 0)))), (.k (.one (.pv (.int .i64 6))))]⟩,
   ⟨(some (53, false)), some 57, 57, .not (.t 56)⟩,
   ⟨none, some 58, 58, .pick (.t 53) (.k (.one (.pv (.bool true)))) (.t 57)⟩,
   ⟨none, some 59, 59, .mv (.t 58)⟩,
   ⟨(some (59, false)), some 60, 60, .mv (.t 5)⟩,
   ⟨(some (59, false)), some 61, 61, .bin .gtr (.t 60) (.k (.one (.pv (.int .i64 0))))⟩,
   ⟨(some (59, false)), some 62, 62, .mv (.t 61)⟩,
   ⟨(some (62, true)), some 63, 63, .faddr (.t 1) 2⟩,
   ⟨(some (62, true)), some 64, 64, .load none (.t 63)⟩,
   ⟨(some (62, true)), some 65, 65, .mv (.t 5)⟩,
   ⟨(some (62, true)), some 66, 66, .bin .sub (.t 65) (.k (.one (.pv (.int .i64 1))))⟩,
   ⟨(some (62, true)), some 67, 67, .iaddr 3 (.t 64) (.t 66)⟩,
   ⟨(some (62, true)), some 68, 68, .faddr (.t 67) 0⟩,
   ⟨(some (62, true)), some 69, 69, .load none (.t 68)⟩,
   ⟨(some (62, true)), some 70, 70, .faddr (.t 6) 0⟩,
   ⟨(some (62, true)), some 71, 71, .load none (.t 70)⟩,
   ⟨(some (62, true)), some 72, 72, .bin .geq (.t 69) (.t 71)⟩,
   ⟨(some (59, false)), some 73, 73, .pick (.t 62) (.t 72) (.k (.one (.pv (.bool false))))⟩,
   ⟨none, some 74, 74, .pick (.t 59) (.k (.one (.pv (.bool true)))) (.t 73)⟩] [[], [0], [1], [2], [3, 2], [4], [5, 4], [6, 4, 4], [7, 4], [4, 8], [9, 7], [10], [11, 10], [12, 10, 10], [13, 10], [10, 14], [15, 13], [16], [17, 16], [18, 16, 16], [19], [20, 19], [19], [22, 19], [21, 23, 19], [24, 19], [25, 19], [19], [27, 19], [26, 28, 19], [19, 29, 16], [16, 30]])
 (.cond 74 (.seq (.reg [⟨none, some 2, 2, .mv (.k (.one (.pv (.bool false))))⟩])
 (.ret)) (.skip)))))
 (.reg [⟨none, some 75, 75, .bin .add (.t 38) (.k (.one (.pv (.int .i64 1))))⟩,
   ⟨none, some 38, 38, .mv (.t 75)⟩])))))))
 (.norm [1] (.seq (.reg [⟨none, some 76, 76, .faddr (.t 1) 0⟩,
   ⟨none, some 77, 77, .load none (.t 76)⟩,
   ⟨none, some 78, 78, .len (.t 77)⟩,
   ⟨none, some 79, 79, .bin .leq (.t 78) (.k (.one (.pv (.int .i64 8))))⟩,
   ⟨none, some 80, 80, .mv (.t 79)⟩,
   ⟨(some (80, true)), some 81, 81, .faddr (.t 1) 1⟩,
   ⟨(some (80, true)), some 82, 82, .load none (.t 81)⟩,
   ⟨(some (80, true)), some 83, 83, .call 31 [0, 0, 0] [(.t 82), (.k (.one (.pv (.int .i64 0)))), (.k (.one (.pv (.int .i64 7))))]⟩,
   ⟨none, some 84, 84, .pick (.t 80) (.t 83) (.k (.one (.pv (.bool false))))⟩,
   ⟨none, some 2, 2, .mv (.t 84)⟩])
 (.ret))))))⟩
abbrev C_i_TabOk (Te : Nat → List AV → Res → Prop) : Prop := ∀ (t : TabV) (h : t.In (2 ^ 48)), Te 151 [.agg (t.enc false)] ⟨[.one (bT t.ok)], [t.enc false]⟩
theorem r_i_TabOk {Te : Nat → List AV → Res → Prop} (c_i_RowOk : C_i_RowOk Te) (c_i_within : C_i_within Te) (c_i_isWord : C_i_isWord Te) : ∀ (t : TabV) (h : t.In (2 ^ 48)), RunFn Te x_i_TabOk [.agg (t.enc false)] ⟨[.one (bT t.ok)], [t.enc false]⟩ := by
  intro t h
  refine ⟨by simp -implicitDefEqProofs only [x_i_TabOk, go_sem], ?_⟩
  obtain ⟨⟨hl, hR⟩, hM⟩ := h
  simp -implicitDefEqProofs only [x_i_TabOk, go_sem, true_implies, false_implies]
  refine loop_of (σ := Nat) (fun i => ⟨[(1, .bp 1 0), (8, .one (.ro 7 (t.Rows.map (RowV.enc false)))), (9, .one (.pv (.int .i64 t.Rows.length))), (10, .one (.pv (.int .i64 i)))], [(1, [.ro 7 (t.Rows.map (RowV.enc false)), .pv (.int .i64 t.Phase), .ro 3 (t.Marks.map MarkV.row)])], [(0, t.enc false)]⟩) (fun i => i ≤ t.Rows.length ∧ ∀ j, j < i → rowGood t.Rows j = true) (fun i => t.Rows.length - i) 0 ?_ ⟨Nat.zero_le _, fun j hj => absurd hj (Nat.not_lt_zero _)⟩ ?_
  · simp -implicitDefEqProofs only [go_sem]
    try rfl
  · rintro i ⟨hi, hp⟩
    cases q : decide ((i : Int) < (t.Rows.length : Int))
    · have eR := rng_end (f := rowGood t.Rows) (show t.Rows.length ≤ i by simp only [decide_eq_false_iff_not] at q; omega) hp
      try simp -implicitDefEqProofs only [go_sem, true_implies, false_implies, q]
      refine loop_of (σ := Nat) (fun i => ⟨[(1, .bp 1 0), (36, .one (.ro 3 (t.Marks.map MarkV.row))), (37, .one (.pv (.int .i64 t.Marks.length))), (38, .one (.pv (.int .i64 i)))], [(1, [.ro 7 (t.Rows.map (RowV.enc false)), .pv (.int .i64 t.Phase), .ro 3 (t.Marks.map MarkV.row)])], [(0, t.enc false)]⟩) (fun i => i ≤ t.Marks.length ∧ ∀ j, j < i → markGood t.Marks j = true) (fun i => t.Marks.length - i) 0 ?_ ⟨Nat.zero_le _, fun j hj => absurd hj (Nat.not_lt_zero _)⟩ ?_
      · simp -implicitDefEqProofs only [go_sem]
        try rfl
      · rintro i ⟨hi, hp⟩
        cases q : decide ((i : Int) < (t.Marks.length : Int))
        · have eM := rng_end (f := markGood t.Marks) (show t.Marks.length ≤ i by simp only [decide_eq_false_iff_not] at q; omega) hp
          try simp -implicitDefEqProofs only [go_sem, true_implies, false_implies, q]
          cases gl : decide ((t.Rows.length : Int) ≤ 8)
          · have e : t.ok = false := by simp only [TabV.ok, gl, Bool.and_false, Bool.false_and]
            try simp -implicitDefEqProofs only [go_sem, true_implies, false_implies, gl, e]
          · have e : t.ok = win t.Phase 0 7 := by simp only [TabV.ok, eR, eM, gl, Bool.true_and]
            try simp -implicitDefEqProofs only [go_sem, true_implies, false_implies, gl]
            refine .of (c_i_within _ _ _) ?_
            try simp -implicitDefEqProofs only [go_sem, true_implies, false_implies, e]
        · have k1 : i < t.Marks.length := by simp only [decide_eq_true_eq] at q; omega
          cases i with
          | zero =>
            have z : decide (((0 : Nat) : Int) > 0) = false := rfl
            have good0 := markGood_zero k1
            try simp -implicitDefEqProofs only [go_sem, true_implies, false_implies, q, List.getElem?_eq_getElem k1, z]
            refine .of (c_i_within _ _ _) ?_
            try simp -implicitDefEqProofs only [go_sem, true_implies, false_implies]
            cases a1 : win t.Marks[0].Who 1 9
            · have g : t.Marks[0].ok = false := by simp only [MarkV.ok, a1, Bool.false_and]
              have e : t.ok = false := by simp only [TabV.ok, rng_not k1 (good0.trans g), Bool.and_false, Bool.false_and]
              try simp -implicitDefEqProofs only [go_sem, true_implies, false_implies, e]
              try (decide)
            try simp -implicitDefEqProofs only [go_sem, true_implies, false_implies]
            refine .of (c_i_isWord _) ?_
            try simp -implicitDefEqProofs only [go_sem, true_implies, false_implies]
            cases a2 : win t.Marks[0].Seq 0 65535
            · have g : t.Marks[0].ok = false := by simp only [MarkV.ok, a2, Bool.and_false, Bool.false_and]
              have e : t.ok = false := by simp only [TabV.ok, rng_not k1 (good0.trans g), Bool.and_false, Bool.false_and]
              try simp -implicitDefEqProofs only [go_sem, true_implies, false_implies, e]
              try (decide)
            try simp -implicitDefEqProofs only [go_sem, true_implies, false_implies]
            refine .of (c_i_within _ _ _) ?_
            try simp -implicitDefEqProofs only [go_sem, true_implies, false_implies]
            cases a3 : win t.Marks[0].Code 0 6
            · have g : t.Marks[0].ok = false := by simp only [MarkV.ok, a3, Bool.and_false]
              have e : t.ok = false := by simp only [TabV.ok, rng_not k1 (good0.trans g), Bool.and_false, Bool.false_and]
              try simp -implicitDefEqProofs only [go_sem, true_implies, false_implies, e]
              try (decide)
            have g : t.Marks[0].ok = true := by simp only [MarkV.ok, a1, a2, a3, Bool.and_true]
            try simp -implicitDefEqProofs only [go_sem, true_implies, false_implies, z]
            repeat (refine ⟨rfl, ?_⟩)
            refine ⟨1, by rw [IntWalk.i64_in _ (by omega)]; rfl, ⟨k1, rng_step hp (good0.trans g)⟩, by omega⟩
          | succ j =>
            have k0 : j < t.Marks.length := by omega
            have z : decide (((j + 1 : Nat) : Int) > 0) = true := decide_eq_true (by omega)
            have ew : IntKind.i64.wrap (((j + 1 : Nat) : Int) - 1) = (j : Int) := by rw [IntWalk.i64_in _ (by omega)]; omega
            have good1 := markGood_succ k1
            try simp -implicitDefEqProofs only [go_sem, true_implies, false_implies, q, List.getElem?_eq_getElem k1, z]
            refine .of (c_i_within _ _ _) ?_
            try simp -implicitDefEqProofs only [go_sem, true_implies, false_implies]
            cases a1 : win t.Marks[j + 1].Who 1 9
            · have g : t.Marks[j + 1].ok = false := by simp only [MarkV.ok, a1, Bool.false_and]
              have gg : markGood t.Marks (j + 1) = false := by rw [good1, g, Bool.false_and]
              have e : t.ok = false := by simp only [TabV.ok, rng_not k1 gg, Bool.and_false, Bool.false_and]
              try simp -implicitDefEqProofs only [go_sem, true_implies, false_implies, e]
              try (decide)
            try simp -implicitDefEqProofs only [go_sem, true_implies, false_implies]
            refine .of (c_i_isWord _) ?_
            try simp -implicitDefEqProofs only [go_sem, true_implies, false_implies]
            cases a2 : win t.Marks[j + 1].Seq 0 65535
            · have g : t.Marks[j + 1].ok = false := by simp only [MarkV.ok, a2, Bool.and_false, Bool.false_and]
              have gg : markGood t.Marks (j + 1) = false := by rw [good1, g, Bool.false_and]
              have e : t.ok = false := by simp only [TabV.ok, rng_not k1 gg, Bool.and_false, Bool.false_and]
              try simp -implicitDefEqProofs only [go_sem, true_implies, false_implies, e]
              try (decide)
            try simp -implicitDefEqProofs only [go_sem, true_implies, false_implies]
            refine .of (c_i_within _ _ _) ?_
            try simp -implicitDefEqProofs only [go_sem, true_implies, false_implies]
            cases a3 : win t.Marks[j + 1].Code 0 6
            · have g : t.Marks[j + 1].ok = false := by simp only [MarkV.ok, a3, Bool.and_false]
              have gg : markGood t.Marks (j + 1) = false := by rw [good1, g, Bool.false_and]
              have e : t.ok = false := by simp only [TabV.ok, rng_not k1 gg, Bool.and_false, Bool.false_and]
              try simp -implicitDefEqProofs only [go_sem, true_implies, false_implies, e]
              try (decide)
            have g : t.Marks[j + 1].ok = true := by simp only [MarkV.ok, a1, a2, a3, Bool.and_true]
            cases g2 : decide (t.Marks[j].Who ≥ t.Marks[j + 1].Who)
            · have gg : markGood t.Marks (j + 1) = true := by rw [good1, g, g2]; rfl
              try simp -implicitDefEqProofs only [go_sem, true_implies, false_implies, z, ew, List.getElem?_eq_getElem k0, List.getElem?_eq_getElem k1, g2]
              repeat (refine ⟨rfl, ?_⟩)
              refine ⟨j + 2, by rw [IntWalk.i64_in _ (by omega)]; rfl, ⟨k1, rng_step hp gg⟩, by omega⟩
            · have gg : markGood t.Marks (j + 1) = false := by rw [good1, g2]; simp only [Bool.not_true, Bool.and_false]
              have e : t.ok = false := by simp only [TabV.ok, rng_not k1 gg, Bool.and_false, Bool.false_and]
              try simp -implicitDefEqProofs only [go_sem, true_implies, false_implies, z, ew, List.getElem?_eq_getElem k0, List.getElem?_eq_getElem k1, g2, e]
              try (decide)
    · have k1 : i < t.Rows.length := by simp only [decide_eq_true_eq] at q; omega
      cases i with
      | zero =>
        have z : decide (((0 : Nat) : Int) > 0) = false := rfl
        have good0 := rowGood_zero k1
        try simp -implicitDefEqProofs only [go_sem, true_implies, false_implies, q, List.getElem?_eq_getElem k1, z]
        refine .of (c_i_RowOk t.Rows[0] (hR _ (List.getElem_mem k1))) ?_
        try simp -implicitDefEqProofs only [go_sem, true_implies, false_implies]
        cases g : t.Rows[0].ok
        · have e : t.ok = false := by simp only [TabV.ok, rng_not k1 (good0.trans g), Bool.false_and]
          try simp -implicitDefEqProofs only [go_sem, true_implies, false_implies, e]
          try (decide)
        · try simp -implicitDefEqProofs only [go_sem, true_implies, false_implies, z]
          repeat (refine ⟨rfl, ?_⟩)
          refine ⟨1, by rw [IntWalk.i64_in _ (by omega)]; rfl, ⟨k1, rng_step hp (good0.trans g)⟩, by omega⟩
      | succ j =>
        have k0 : j < t.Rows.length := by omega
        have z : decide (((j + 1 : Nat) : Int) > 0) = true := decide_eq_true (by omega)
        have ew : IntKind.i64.wrap (((j + 1 : Nat) : Int) - 1) = (j : Int) := by rw [IntWalk.i64_in _ (by omega)]; omega
        have good1 := rowGood_succ k1
        try simp -implicitDefEqProofs only [go_sem, true_implies, false_implies, q, List.getElem?_eq_getElem k1, z]
        refine .of (c_i_RowOk t.Rows[j + 1] (hR _ (List.getElem_mem k1))) ?_
        try simp -implicitDefEqProofs only [go_sem, true_implies, false_implies]
        cases g : t.Rows[j + 1].ok
        · have gg : rowGood t.Rows (j + 1) = false := by rw [good1, g, Bool.false_and]
          have e : t.ok = false := by simp only [TabV.ok, rng_not k1 gg, Bool.false_and]
          try simp -implicitDefEqProofs only [go_sem, true_implies, false_implies, e]
          try (decide)
        · cases g2 : Op.bytesLess t.Rows[j].Key.toList t.Rows[j + 1].Key.toList
          · have gg : rowGood t.Rows (j + 1) = false := by rw [good1, g2, Bool.and_false]
            have e : t.ok = false := by simp only [TabV.ok, rng_not k1 gg, Bool.false_and]
            try simp -implicitDefEqProofs only [go_sem, true_implies, false_implies, z, ew, List.getElem?_eq_getElem k0, List.getElem?_eq_getElem k1, g2, e]
            try (decide)
          · have gg : rowGood t.Rows (j + 1) = true := by rw [good1, g, g2]; rfl
            try simp -implicitDefEqProofs only [go_sem, true_implies, false_implies, z, ew, List.getElem?_eq_getElem k0, List.getElem?_eq_getElem k1, g2]
            repeat (refine ⟨rfl, ?_⟩)
            refine ⟨j + 2, by rw [IntWalk.i64_in _ (by omega)]; rfl, ⟨k1, rng_step hp gg⟩, by omega⟩
def x_s_TabOk : FnX := ⟨82, [.tmp 2],
  .seq (.reg [⟨none, some 1, 1, .box (.t 0)⟩,
   ⟨none, some 2, 2, .mv (.k (.one (.pv (.bool false))))⟩])
 (.seq (.seq (.reg [⟨none, some 3, 3, .mv (.k (.one (.pv (.int .i64 0))))⟩])
 (.block 0 (.loop [1, 3] (.seq (.seq (.reg [⟨none, some 5, 5, .mv (.t 3)⟩,
   ⟨none, some 6, 6, .faddr (.t 1) 0⟩,
   ⟨none, some 7, 7, .load none (.t 6)⟩,
   ⟨none, some 8, 8, .len (.t 7)⟩,
   ⟨none, some 9, 9, .bin .lss (.t 5) (.t 8)⟩])
 (.cond 9 (.skip) (.exit 0)))
 (.seq (.block 1 (.seq (.draw [⟨none, some 12, 12, .faddr (.t 1) 0⟩,
   ⟨none, some 13, 13, .load none (.t 12)⟩,
   ⟨none, some 14, 14, .mv (.t 3)⟩,
   ⟨none, some 15, 15, .iaddr 7 (.t 13) (.t 14)⟩,
   ⟨none, some 16, 16, .load (some 7) (.t 15)⟩,
   ⟨none, some 17, 17, .call 190 [0] [(.t 16)]⟩,
   ⟨none, some 18, 18, .not (.t 17)⟩,
   ⟨none, some 19, 19, .mv (.t 18)⟩,
   ⟨(some (19, false)), some 20, 20, .mv (.t 3)⟩,
   ⟨(some (19, false)), some 21, 21, .bin .gtr (.t 20) (.k (.one (.pv (.int .i64 0))))⟩,
   ⟨(some (19, false)), some 22, 22, .mv (.t 21)⟩,
   ⟨(some (22, true)), some 23, 23, .faddr (.t 1) 0⟩,
   ⟨(some (22, true)), some 24, 24, .load none (.t 23)⟩,
   ⟨(some (22, true)), some 25, 25, .mv (.t 3)⟩,
   ⟨(some (22, true)), some 26, 26, .bin .sub (.t 25) (.k (.one (.pv (.int .i64 1))))⟩,
   ⟨(some (22, true)), some 27, 27, .iaddr 7 (.t 24) (.t 26)⟩,
   ⟨(some (22, true)), some 28, 28, .faddr (.t 27) 0⟩,
   ⟨(some (22, true)), some 29, 29, .load none (.t 28)⟩,
   ⟨(some (22, true)), some 30, 30, .faddr (.t 1) 0⟩,
   ⟨(some (22, true)), some 31, 31, .load none (.t 30)⟩,
   ⟨(some (22, true)), some 32, 32, .mv (.t 3)⟩,
   ⟨(some (22, true)), some 33, 33, .iaddr 7 (.t 31) (.t 32)⟩,
   ⟨(some (22, true)), some 34, 34, .faddr (.t 33) 0⟩,
   ⟨(some (22, true)), some 35, 35, .load none (.t 34)⟩,
   ⟨(some (22, true)), some 36, 36, .bin .geq (.t 29) (.t 35)⟩,
   ⟨(some (19, false)), some 37, 37, .pick (.t 22) (.t 36) (.k (.one (.pv (.bool false))))⟩,
   ⟨none, some 38, 38, .pick (.t 19) (.k (.one (.pv (.bool true)))) (.t 37)⟩] [[], [0], [], [1, 2], [3], [4], [5], [6, 5], [7], [8, 7], [9, 7, 7], [10], [11, 10], [10], [13, 10], [12, 14, 10], [15, 10], [16, 10], [10], [18, 10], [10], [19, 20, 10], [21, 10], [22, 10], [17, 23, 10], [10, 24, 7], [7, 25]])
 (.cond 38 (.seq (.reg [⟨none, some 2, 2, .mv (.k (.one (.pv (.bool false))))⟩])
 (.ret)) (.skip))))
 (.reg [⟨none, some 10, 10, .mv (.t 3)⟩,
   ⟨none, some 11, 11, .bin .add (.t 10) (.k (.one (.pv (.int .i64 1))))⟩,
   ⟨none, some 3, 3, .mv (.t 11)⟩]))))))
 (.norm [1] (.seq (.seq (.reg [⟨none, some 4, 4, .mv (.k (.one (.pv (.int .i64 0))))⟩])
 (.block 2 (.loop [1, 4] (.seq (.seq (.reg [⟨none, some 39, 39, .mv (.t 4)⟩,
   ⟨none, some 40, 40, .faddr (.t 1) 2⟩,
   ⟨none, some 41, 41, .load none (.t 40)⟩,
   ⟨none, some 42, 42, .len (.t 41)⟩,
   ⟨none, some 43, 43, .bin .lss (.t 39) (.t 42)⟩])
 (.cond 43 (.skip) (.exit 2)))
 (.seq (.block 3 (.seq (.draw [⟨none, some 46, 46, .faddr (.t 1) 2⟩,
   ⟨none, some 47, 47, .load none (.t 46)⟩,
   ⟨none, some 48, 48, .mv (.t 4)⟩,
   ⟨none, some 49, 49, .iaddr 3 (.t 47) (.t 48)⟩,
   ⟨none, some 50, 50, .load (some 3) (.t 49)⟩,
   ⟨none, some 51, 51, .call 191 [0] [(.t 50)]⟩,
   ⟨none, some 52, 52, .not (.t 51)⟩,
   ⟨none, some 53, 53, .mv (.t 52)⟩,
   ⟨(some (53, false)), some 54, 54, .mv (.t 4)⟩,
   ⟨(some (53, false)), some 55, 55, .bin .gtr (.t 54) (.k (.one (.pv (.int .i64 0))))⟩,
   ⟨(some (53, false)), some 56, 56, .mv (.t 55)⟩,
   ⟨(some (56, true)), some 57, 57, .faddr (.t 1) 2⟩,
   ⟨(some (56, true)), some 58, 58, .load none (.t 57)⟩,
   ⟨(some (56, true)), some 59, 59, .mv (.t 4)⟩,
   ⟨(some (56, true)), some 60, 60, .bin .sub (.t 59) (.k (.one (.pv (.int .i64 1))))⟩,
   ⟨(some (56, true)), some 61, 61, .iaddr 3 (.t 58) (.t 60)⟩,
   ⟨(some (56, true)), some 62, 62, .faddr (.t 61) 0⟩,
   ⟨(some (56, true)), some 63, 63, .load none (.t 62)⟩,
   ⟨(some (56, true)), some 64, 64, .faddr (.t 1) 2⟩,
   ⟨(some (56, true)), some 65, 65, .load none (.t 64)⟩,
   ⟨(some (56, true)), some 66, 66, .mv (.t 4)⟩,
   ⟨(some (56, true)), some 67, 67, .iaddr 3 (.t 65) (.t 66)⟩,
   ⟨(some (56, true)), some 68, 68, .faddr (.t 67) 0⟩,
   ⟨(some (56, true)), some 69, 69, .load none (.t 68)⟩,
   ⟨(some (56, true)), some 70, 70, .bin .geq (.t 63) (.t 69)⟩,
   ⟨(some (53, false)), some 71, 71, .pick (.t 56) (.t 70) (.k (.one (.pv (.bool false))))⟩,
   ⟨none, some 72, 72, .pick (.t 53) (.k (.one (.pv (.bool true)))) (.t 71)⟩] [[], [0], [], [1, 2], [3], [4], [5], [6, 5], [7], [8, 7], [9, 7, 7], [10], [11, 10], [10], [13, 10], [12, 14, 10], [15, 10], [16, 10], [10], [18, 10], [10], [19, 20, 10], [21, 10], [22, 10], [17, 23, 10], [10, 24, 7], [7, 25]])
 (.cond 72 (.seq (.reg [⟨none, some 2, 2, .mv (.k (.one (.pv (.bool false))))⟩])
 (.ret)) (.skip))))
 (.reg [⟨none, some 44, 44, .mv (.t 4)⟩,
   ⟨none, some 45, 45, .bin .add (.t 44) (.k (.one (.pv (.int .i64 1))))⟩,
   ⟨none, some 4, 4, .mv (.t 45)⟩]))))))
 (.norm [1] (.seq (.reg [⟨none, some 73, 73, .faddr (.t 1) 0⟩,
   ⟨none, some 74, 74, .load none (.t 73)⟩,
   ⟨none, some 75, 75, .len (.t 74)⟩,
   ⟨none, some 76, 76, .bin .leq (.t 75) (.k (.one (.pv (.int .i64 8))))⟩,
   ⟨none, some 77, 77, .mv (.t 76)⟩,
   ⟨(some (77, true)), some 78, 78, .faddr (.t 1) 1⟩,
   ⟨(some (77, true)), some 79, 79, .load none (.t 78)⟩,
   ⟨(some (77, true)), some 80, 80, .call 29 [0, 0, 0] [(.t 79), (.k (.one (.pv (.int .i64 0)))), (.k (.one (.pv (.int .i64 7))))]⟩,
   ⟨none, some 81, 81, .pick (.t 77) (.t 80) (.k (.one (.pv (.bool false))))⟩,
   ⟨none, some 2, 2, .mv (.t 81)⟩])
 (.ret))))))⟩
abbrev C_s_TabOk (Te : Nat → List AV → Res → Prop) : Prop := ∀ (t : TabV) (h : t.In (2 ^ 48)), Te 147 [.agg (t.enc false)] ⟨[.one (bT t.ok)], [t.enc false]⟩
theorem r_s_TabOk {Te : Nat → List AV → Res → Prop} (c_s_RowOk : C_s_RowOk Te) (c_s_l12Mark : C_s_l12Mark Te) (c_s_l1In : C_s_l1In Te) : ∀ (t : TabV) (h : t.In (2 ^ 48)), RunFn Te x_s_TabOk [.agg (t.enc false)] ⟨[.one (bT t.ok)], [t.enc false]⟩ := by
  intro t h
  refine ⟨by simp -implicitDefEqProofs only [x_s_TabOk, go_sem], ?_⟩
  obtain ⟨⟨hl, hR⟩, hM⟩ := h
  simp -implicitDefEqProofs only [x_s_TabOk, go_sem, true_implies, false_implies]
  refine loop_of (σ := Nat) (fun i => ⟨[(1, .bp 1 0), (3, .one (.pv (.int .i64 i)))], [(1, [.ro 7 (t.Rows.map (RowV.enc false)), .pv (.int .i64 t.Phase), .ro 3 (t.Marks.map MarkV.row)])], [(0, t.enc false)]⟩) (fun i => i ≤ t.Rows.length ∧ ∀ j, j < i → rowGood t.Rows j = true) (fun i => t.Rows.length - i) 0 ?_ ⟨Nat.zero_le _, fun j hj => absurd hj (Nat.not_lt_zero _)⟩ ?_
  · simp -implicitDefEqProofs only [go_sem]
    try rfl
  · rintro i ⟨hi, hp⟩
    cases q : decide ((i : Int) < (t.Rows.length : Int))
    · have eR := rng_end (f := rowGood t.Rows) (show t.Rows.length ≤ i by simp only [decide_eq_false_iff_not] at q; omega) hp
      try simp -implicitDefEqProofs only [go_sem, true_implies, false_implies, q]
      refine loop_of (σ := Nat) (fun i => ⟨[(1, .bp 1 0), (4, .one (.pv (.int .i64 i)))], [(1, [.ro 7 (t.Rows.map (RowV.enc false)), .pv (.int .i64 t.Phase), .ro 3 (t.Marks.map MarkV.row)])], [(0, t.enc false)]⟩) (fun i => i ≤ t.Marks.length ∧ ∀ j, j < i → markGood t.Marks j = true) (fun i => t.Marks.length - i) 0 ?_ ⟨Nat.zero_le _, fun j hj => absurd hj (Nat.not_lt_zero _)⟩ ?_
      · simp -implicitDefEqProofs only [go_sem]
        try rfl
      · rintro i ⟨hi, hp⟩
        cases q : decide ((i : Int) < (t.Marks.length : Int))
        · have eM := rng_end (f := markGood t.Marks) (show t.Marks.length ≤ i by simp only [decide_eq_false_iff_not] at q; omega) hp
          try simp -implicitDefEqProofs only [go_sem, true_implies, false_implies, q]
          cases gl : decide ((t.Rows.length : Int) ≤ 8)
          · have e : t.ok = false := by simp only [TabV.ok, gl, Bool.and_false, Bool.false_and]
            try simp -implicitDefEqProofs only [go_sem, true_implies, false_implies, gl, e]
          · have e : t.ok = win t.Phase 0 7 := by simp only [TabV.ok, eR, eM, gl, Bool.true_and]
            try simp -implicitDefEqProofs only [go_sem, true_implies, false_implies, gl]
            refine .of (c_s_l1In _ _ _) ?_
            try simp -implicitDefEqProofs only [go_sem, true_implies, false_implies, e]
        · have k1 : i < t.Marks.length := by simp only [decide_eq_true_eq] at q; omega
          cases i with
          | zero =>
            have z : decide (((0 : Nat) : Int) > 0) = false := rfl
            have good0 := markGood_zero k1
            try simp -implicitDefEqProofs only [go_sem, true_implies, false_implies, q, List.getElem?_eq_getElem k1, z]
            refine .of (c_s_l12Mark t.Marks[0]) ?_
            try simp -implicitDefEqProofs only [go_sem, true_implies, false_implies]
            cases g : t.Marks[0].ok
            · have e : t.ok = false := by simp only [TabV.ok, rng_not k1 (good0.trans g), Bool.and_false, Bool.false_and]
              try simp -implicitDefEqProofs only [go_sem, true_implies, false_implies, e]
              try (decide)
            · try simp -implicitDefEqProofs only [go_sem, true_implies, false_implies, z]
              repeat (refine ⟨rfl, ?_⟩)
              refine ⟨1, by rw [IntWalk.i64_in _ (by omega)]; rfl, ⟨k1, rng_step hp (good0.trans g)⟩, by omega⟩
          | succ j =>
            have k0 : j < t.Marks.length := by omega
            have z : decide (((j + 1 : Nat) : Int) > 0) = true := decide_eq_true (by omega)
            have ew : IntKind.i64.wrap (((j + 1 : Nat) : Int) - 1) = (j : Int) := by rw [IntWalk.i64_in _ (by omega)]; omega
            have good1 := markGood_succ k1
            try simp -implicitDefEqProofs only [go_sem, true_implies, false_implies, q, List.getElem?_eq_getElem k1, z]
            refine .of (c_s_l12Mark t.Marks[j + 1]) ?_
            try simp -implicitDefEqProofs only [go_sem, true_implies, false_implies]
            cases g : t.Marks[j + 1].ok
            · have gg : markGood t.Marks (j + 1) = false := by rw [good1, g, Bool.false_and]
              have e : t.ok = false := by simp only [TabV.ok, rng_not k1 gg, Bool.and_false, Bool.false_and]
              try simp -implicitDefEqProofs only [go_sem, true_implies, false_implies, e]
              try (decide)
            · cases g2 : decide (t.Marks[j].Who ≥ t.Marks[j + 1].Who)
              · have gg : markGood t.Marks (j + 1) = true := by rw [good1, g, g2]; rfl
                try simp -implicitDefEqProofs only [go_sem, true_implies, false_implies, z, ew, List.getElem?_eq_getElem k0, List.getElem?_eq_getElem k1, g2]
                repeat (refine ⟨rfl, ?_⟩)
                refine ⟨j + 2, by rw [IntWalk.i64_in _ (by omega)]; rfl, ⟨k1, rng_step hp gg⟩, by omega⟩
              · have gg : markGood t.Marks (j + 1) = false := by rw [good1, g2]; simp only [Bool.not_true, Bool.and_false]
                have e : t.ok = false := by simp only [TabV.ok, rng_not k1 gg, Bool.and_false, Bool.false_and]
                try simp -implicitDefEqProofs only [go_sem, true_implies, false_implies, z, ew, List.getElem?_eq_getElem k0, List.getElem?_eq_getElem k1, g2, e]
                try (decide)
    · have k1 : i < t.Rows.length := by simp only [decide_eq_true_eq] at q; omega
      cases i with
      | zero =>
        have z : decide (((0 : Nat) : Int) > 0) = false := rfl
        have good0 := rowGood_zero k1
        try simp -implicitDefEqProofs only [go_sem, true_implies, false_implies, q, List.getElem?_eq_getElem k1, z]
        refine .of (c_s_RowOk t.Rows[0] (hR _ (List.getElem_mem k1))) ?_
        try simp -implicitDefEqProofs only [go_sem, true_implies, false_implies]
        cases g : t.Rows[0].ok
        · have e : t.ok = false := by simp only [TabV.ok, rng_not k1 (good0.trans g), Bool.false_and]
          try simp -implicitDefEqProofs only [go_sem, true_implies, false_implies, e]
          try (decide)
        · try simp -implicitDefEqProofs only [go_sem, true_implies, false_implies, z]
          repeat (refine ⟨rfl, ?_⟩)
          refine ⟨1, by rw [IntWalk.i64_in _ (by omega)]; rfl, ⟨k1, rng_step hp (good0.trans g)⟩, by omega⟩
      | succ j =>
        have k0 : j < t.Rows.length := by omega
        have z : decide (((j + 1 : Nat) : Int) > 0) = true := decide_eq_true (by omega)
        have ew : IntKind.i64.wrap (((j + 1 : Nat) : Int) - 1) = (j : Int) := by rw [IntWalk.i64_in _ (by omega)]; omega
        have good1 := rowGood_succ k1
        try simp -implicitDefEqProofs only [go_sem, true_implies, false_implies, q, List.getElem?_eq_getElem k1, z]
        refine .of (c_s_RowOk t.Rows[j + 1] (hR _ (List.getElem_mem k1))) ?_
        try simp -implicitDefEqProofs only [go_sem, true_implies, false_implies]
        cases g : t.Rows[j + 1].ok
        · have gg : rowGood t.Rows (j + 1) = false := by rw [good1, g, Bool.false_and]
          have e : t.ok = false := by simp only [TabV.ok, rng_not k1 gg, Bool.false_and]
          try simp -implicitDefEqProofs only [go_sem, true_implies, false_implies, e]
          try (decide)
        · cases g2 : Op.bytesLess t.Rows[j].Key.toList t.Rows[j + 1].Key.toList
          · have gg : rowGood t.Rows (j + 1) = false := by rw [good1, g2, Bool.and_false]
            have e : t.ok = false := by simp only [TabV.ok, rng_not k1 gg, Bool.false_and]
            try simp -implicitDefEqProofs only [go_sem, true_implies, false_implies, z, ew, List.getElem?_eq_getElem k0, List.getElem?_eq_getElem k1, g2, e]
            try (decide)
          · have gg : rowGood t.Rows (j + 1) = true := by rw [good1, g, g2]; rfl
            try simp -implicitDefEqProofs only [go_sem, true_implies, false_implies, z, ew, List.getElem?_eq_getElem k0, List.getElem?_eq_getElem k1, g2]
            repeat (refine ⟨rfl, ?_⟩)
            refine ⟨j + 2, by rw [IntWalk.i64_in _ (by omega)]; rfl, ⟨k1, rng_step hp gg⟩, by omega⟩
end Go.X

