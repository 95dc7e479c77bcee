/- Texts: CT CUa CUb CUc CUk CUl CUm CW_FnMsgs. -/
import Derived.Test.YtjkekghhomdgfaaCe
import Derived.Test.YtjkekghhomdgfaaCd
set_option linter.unusedVariables false
set_option linter.unusedSimpArgs false
/- T -/
namespace Go.X
set_option maxRecDepth 100000
set_option maxHeartbeats 8000000
def signOk (n : Int) : Bool := win n 0 1114111 && !win n 55296 57343
def enc8 (n : Nat) : List UInt8 :=
  if n ≤ 127 then [UInt8.ofNat n] else if n ≤ 2047 then [UInt8.ofNat (192 + n / 64), UInt8.ofNat (128 + n % 64)]
  else if n ≤ 65535 then [UInt8.ofNat (224 + n / 4096), UInt8.ofNat (128 + n / 64 % 64), UInt8.ofNat (128 + n % 64)]
  else [UInt8.ofNat (240 + n / 262144), UInt8.ofNat (128 + n / 4096 % 64), UInt8.ofNat (128 + n / 64 % 64), UInt8.ofNat (128 + n % 64)]
def putSign (b : List UInt8) (n : Int) : List UInt8 := if signOk n = true then b ++ enc8 n.toNat else b
theorem enc8_len (n : Nat) : 0 < (enc8 n).length ∧ (enc8 n).length ≤ 4 := by
  unfold enc8
  split
  · simp
  · split
    · simp
    · split <;> simp
theorem putSign_len (b : List UInt8) (n : Int) : (putSign b n).length ≤ b.length + 4 := by
  unfold putSign
  split
  · rw [List.length_append]; have := (enc8_len n.toNat).2; omega
  · omega
theorem signOk_in {n : Int} (h : signOk n = true) : 0 ≤ n ∧ n ≤ 1114111 ∧ ¬ (55296 ≤ n ∧ n ≤ 57343) := by
  simp only [signOk, win, Bool.and_eq_true, Bool.not_eq_true', decide_eq_true_eq, Bool.and_eq_false_imp, decide_eq_false_iff_not] at h
  omega
theorem or_hd (c i a : Nat) (hc : c = 2 ^ i * a) {x : Nat} (hx : x < 2 ^ i) (hb : c < 2 ^ 60 ∧ x < 2 ^ 60) : orK .i64 (c : Int) (x : Int) = ((c + x : Nat) : Int) := by
  rw [or_nat c x (by omega) (by omega), hc, Nat.two_pow_add_eq_or_of_lt hx]
theorem mkU_nat (k : Nat) : mkU (k : Int) = UInt8.ofNat k := by
  have : ((k : Int) % 256).toNat = k % 256 := by omega
  rw [mkU, this]
  apply UInt8.toNat_inj.1
  rw [UInt8.toNat_ofNat', UInt8.toNat_ofNat']
  omega
theorem and63 (m : Nat) (hm : m < 2 ^ 60) : andK .i64 (m : Int) 63 = ((m % 64 : Nat) : Int) := by
  have := and_nat m 63 (by omega) (by decide)
  rw [Nat.and_two_pow_sub_one_eq_mod m 6] at this
  exact this
theorem fdivN (m k : Nat) : (m : Int).fdiv (k : Int) = ((m / k : Nat) : Int) := by
  rw [Int.fdiv_eq_ediv_of_nonneg _ (by omega)]
  rfl
theorem wrap8 (k : Nat) (h : k < 256) : (k : Int) = ((UInt8.ofNat k).toNat : Int) := by
  rw [UInt8.toNat_ofNat']
  omega
theorem or8 (c i a : Nat) (hc : c = 2 ^ i * a) {x : Nat} (hx : x < 2 ^ i) (hb : c + x < 256) : orK .u8 (c : Int) (x : Int) = ((UInt8.ofNat (c + x)).toNat : Int) := by
  rw [orK_def]
  show IntKind.u8.wrap ((BitVec.ofInt 8 (c : Int) ||| BitVec.ofInt 8 (x : Int)).toNat) = _
  have h1 : (BitVec.ofInt 8 (c : Int)).toNat = c := by rw [BitVec.toNat_ofInt]; omega
  have h2 : (BitVec.ofInt 8 (x : Int)).toNat = x := by rw [BitVec.toNat_ofInt]; omega
  have h3 : c ||| x = c + x := by rw [hc, ← Nat.two_pow_add_eq_or_of_lt hx]
  rw [BitVec.toNat_or, h1, h2, h3, ← wrap8 _ hb, IntKind.wrap_u8]
  omega
theorem and8 (m : Nat) (hm : m < 256) : andK .u8 (m : Int) 63 = ((m % 64 : Nat) : Int) := by
  rw [andK_def]
  show IntKind.u8.wrap ((BitVec.ofInt 8 (m : Int) &&& BitVec.ofInt 8 63).toNat) = _
  have h1 : (BitVec.ofInt 8 (m : Int)).toNat = m := by rw [BitVec.toNat_ofInt]; omega
  have h2 : (BitVec.ofInt 8 63).toNat = 2 ^ 6 - 1 := by decide
  rw [BitVec.toNat_and, h1, h2, Nat.and_two_pow_sub_one_eq_mod, IntKind.wrap_u8]
  omega
theorem mkU_toNat (k : Nat) : (mkU (k : Int)).toNat = k % 256 := by rw [mkU_nat, UInt8.toNat_ofNat']
def x_s_SignOk : FnX := ⟨10, [.tmp 2],
  .seq (.reg [⟨none, some 2, 2, .mv (.k (.one (.pv (.bool false))))⟩])
 (.seq (.reg [⟨none, some 3, 3, .mv (.t 0)⟩,
   ⟨none, some 4, 4, .call 77 [0, 0, 0] [(.t 3), (.k (.one (.pv (.int .i64 0)))), (.k (.one (.pv (.int .i64 1114111))))]⟩,
   ⟨none, some 5, 5, .mv (.t 4)⟩,
   ⟨(some (5, true)), some 6, 6, .mv (.t 0)⟩,
   ⟨(some (5, true)), some 7, 7, .call 77 [0, 0, 0] [(.t 6), (.k (.one (.pv (.int .i64 55296)))), (.k (.one (.pv (.int .i64 57343))))]⟩,
   ⟨(some (5, true)), some 8, 8, .not (.t 7)⟩,
   ⟨none, some 9, 9, .pick (.t 5) (.t 8) (.k (.one (.pv (.bool false))))⟩,
   ⟨none, some 2, 2, .mv (.t 9)⟩])
 (.ret))⟩
abbrev C_s_SignOk (Te : Nat → List AV → Res → Prop) : Prop := ∀ (n : Int), Te 92 [.one (iT n)] ⟨[.one (bT (signOk n))], [[iT n]]⟩
theorem r_s_SignOk {Te : Nat → List AV → Res → Prop} (c_s_l1In : C_s_l1In Te) : ∀ (n : Int), RunFn Te x_s_SignOk [.one (iT n)] ⟨[.one (bT (signOk n))], [[iT n]]⟩ := by
  intro n
  refine ⟨by simp -implicitDefEqProofs (maxSteps := 1000000) only [x_s_SignOk, go_sem], ?_⟩
  simp -implicitDefEqProofs (maxSteps := 1000000) only [x_s_SignOk, go_sem, true_implies, false_implies, signOk]
  repeat (first | refine ⟨rfl, ?_⟩ | refine ⟨by decide, ?_⟩ | refine ⟨⟨by decide, by decide⟩, ?_⟩ | refine ⟨decide_eq_true (by omega), ?_⟩ | refine ⟨⟨decide_eq_true (by omega), decide_eq_true (by omega)⟩, ?_⟩)
  try (first | done | decide | exact decide_eq_true (by omega) | exact ⟨decide_eq_true (by omega), decide_eq_true (by omega)⟩)
  refine .of (c_s_l1In _ _ _) ?_
  try simp -implicitDefEqProofs (maxSteps := 1000000) only [go_sem, true_implies, false_implies]
  repeat (first | refine ⟨rfl, ?_⟩ | refine ⟨by decide, ?_⟩ | refine ⟨⟨by decide, by decide⟩, ?_⟩ | refine ⟨decide_eq_true (by omega), ?_⟩ | refine ⟨⟨decide_eq_true (by omega), decide_eq_true (by omega)⟩, ?_⟩)
  try (first | done | decide | exact decide_eq_true (by omega) | exact ⟨decide_eq_true (by omega), decide_eq_true (by omega)⟩)
  cases g1 : win n 0 1114111
  · try simp -implicitDefEqProofs (maxSteps := 1000000) only [go_sem, true_implies, false_implies]
    repeat (first | refine ⟨rfl, ?_⟩ | refine ⟨by decide, ?_⟩ | refine ⟨⟨by decide, by decide⟩, ?_⟩ | refine ⟨decide_eq_true (by omega), ?_⟩ | refine ⟨⟨decide_eq_true (by omega), decide_eq_true (by omega)⟩, ?_⟩)
    try (first | done | decide | exact decide_eq_true (by omega) | exact ⟨decide_eq_true (by omega), decide_eq_true (by omega)⟩)
  · try simp -implicitDefEqProofs (maxSteps := 1000000) only [go_sem, true_implies, false_implies]
    repeat (first | refine ⟨rfl, ?_⟩ | refine ⟨by decide, ?_⟩ | refine ⟨⟨by decide, by decide⟩, ?_⟩ | refine ⟨decide_eq_true (by omega), ?_⟩ | refine ⟨⟨decide_eq_true (by omega), decide_eq_true (by omega)⟩, ?_⟩)
    try (first | done | decide | exact decide_eq_true (by omega) | exact ⟨decide_eq_true (by omega), decide_eq_true (by omega)⟩)
    refine .of (c_s_l1In _ _ _) ?_
    try simp -implicitDefEqProofs (maxSteps := 1000000) only [go_sem, true_implies, false_implies]
    repeat (first | refine ⟨rfl, ?_⟩ | refine ⟨by decide, ?_⟩ | refine ⟨⟨by decide, by decide⟩, ?_⟩ | refine ⟨decide_eq_true (by omega), ?_⟩ | refine ⟨⟨decide_eq_true (by omega), decide_eq_true (by omega)⟩, ?_⟩)
    try (first | done | decide | exact decide_eq_true (by omega) | exact ⟨decide_eq_true (by omega), decide_eq_true (by omega)⟩)
def x_s_PutSign : FnX := ⟨76, [.tmp 4],
  .seq (.reg [⟨none, some 4, 4, .mv (.k (.one (.nils 1)))⟩])
 (.seq (.reg [⟨none, some 6, 6, .bslice 1 []⟩,
   ⟨none, some 7, 7, .mv (.t 0)⟩,
   ⟨none, some 8, 8, .app 1 1 (.t 6) (.t 7)⟩,
   ⟨none, some 5, 5, .mv (.t 8)⟩])
 (.seq (.block 0 (.seq (.reg [⟨none, some 10, 10, .mv (.t 1)⟩,
   ⟨none, some 11, 11, .call 92 [0] [(.t 10)]⟩,
   ⟨none, some 12, 12, .not (.t 11)⟩,
   ⟨none, some 9, 9, .mv (.t 12)⟩])
 (.cond 9 (.seq (.reg [⟨none, some 13, 13, .mv (.t 5)⟩,
   ⟨none, some 4, 4, .mv (.t 13)⟩])
 (.ret)) (.seq (.reg [⟨none, some 15, 15, .mv (.t 1)⟩,
   ⟨none, some 16, 16, .bin .leq (.t 15) (.k (.one (.pv (.int .i64 127))))⟩,
   ⟨none, some 14, 14, .mv (.t 16)⟩])
 (.cond 14 (.seq (.reg [⟨none, some 17, 17, .mv (.t 5)⟩,
   ⟨none, some 18, 18, .mv (.t 1)⟩,
   ⟨none, some 19, 19, .conv (.int .u8) (.t 18)⟩,
   ⟨none, some 20, 20, .bslice 1 [(.t 19)]⟩,
   ⟨none, some 21, 21, .app 1 1 (.t 17) (.t 20)⟩,
   ⟨none, some 4, 4, .mv (.t 21)⟩])
 (.ret)) (.seq (.reg [⟨none, some 23, 23, .mv (.t 1)⟩,
   ⟨none, some 24, 24, .bin .leq (.t 23) (.k (.one (.pv (.int .i64 2047))))⟩,
   ⟨none, some 22, 22, .mv (.t 24)⟩])
 (.cond 22 (.seq (.reg [⟨none, some 25, 25, .mv (.t 5)⟩,
   ⟨none, some 26, 26, .mv (.t 1)⟩,
   ⟨none, some 27, 27, .bin .shr (.t 26) (.k (.one (.pv (.int .u64 6))))⟩,
   ⟨none, some 28, 28, .bin .or (.k (.one (.pv (.int .i64 192)))) (.t 27)⟩,
   ⟨none, some 29, 29, .conv (.int .u8) (.t 28)⟩,
   ⟨none, some 30, 30, .mv (.t 1)⟩,
   ⟨none, some 31, 31, .bin .and (.t 30) (.k (.one (.pv (.int .i64 63))))⟩,
   ⟨none, some 32, 32, .bin .or (.k (.one (.pv (.int .i64 128)))) (.t 31)⟩,
   ⟨none, some 33, 33, .conv (.int .u8) (.t 32)⟩,
   ⟨none, some 34, 34, .bslice 1 [(.t 29), (.t 33)]⟩,
   ⟨none, some 35, 35, .app 1 1 (.t 25) (.t 34)⟩,
   ⟨none, some 4, 4, .mv (.t 35)⟩])
 (.ret)) (.seq (.reg [⟨none, some 37, 37, .mv (.t 1)⟩,
   ⟨none, some 38, 38, .bin .leq (.t 37) (.k (.one (.pv (.int .i64 65535))))⟩,
   ⟨none, some 36, 36, .mv (.t 38)⟩])
 (.cond 36 (.seq (.reg [⟨none, some 39, 39, .mv (.t 5)⟩,
   ⟨none, some 40, 40, .mv (.t 1)⟩,
   ⟨none, some 41, 41, .bin .shr (.t 40) (.k (.one (.pv (.int .u64 12))))⟩,
   ⟨none, some 42, 42, .bin .or (.k (.one (.pv (.int .i64 224)))) (.t 41)⟩,
   ⟨none, some 43, 43, .conv (.int .u8) (.t 42)⟩,
   ⟨none, some 44, 44, .mv (.t 1)⟩,
   ⟨none, some 45, 45, .bin .shr (.t 44) (.k (.one (.pv (.int .u64 6))))⟩,
   ⟨none, some 46, 46, .bin .and (.t 45) (.k (.one (.pv (.int .i64 63))))⟩,
   ⟨none, some 47, 47, .bin .or (.k (.one (.pv (.int .i64 128)))) (.t 46)⟩,
   ⟨none, some 48, 48, .conv (.int .u8) (.t 47)⟩,
   ⟨none, some 49, 49, .mv (.t 1)⟩,
   ⟨none, some 50, 50, .bin .and (.t 49) (.k (.one (.pv (.int .i64 63))))⟩,
   ⟨none, some 51, 51, .bin .or (.k (.one (.pv (.int .i64 128)))) (.t 50)⟩,
   ⟨none, some 52, 52, .conv (.int .u8) (.t 51)⟩,
   ⟨none, some 53, 53, .bslice 1 [(.t 43), (.t 48), (.t 52)]⟩,
   ⟨none, some 54, 54, .app 1 1 (.t 39) (.t 53)⟩,
   ⟨none, some 4, 4, .mv (.t 54)⟩])
 (.ret)) (.skip))))))))))
 (.seq (.reg [⟨none, some 55, 55, .mv (.t 5)⟩,
   ⟨none, some 56, 56, .mv (.t 1)⟩,
   ⟨none, some 57, 57, .bin .shr (.t 56) (.k (.one (.pv (.int .u64 18))))⟩,
   ⟨none, some 58, 58, .bin .or (.k (.one (.pv (.int .i64 240)))) (.t 57)⟩,
   ⟨none, some 59, 59, .conv (.int .u8) (.t 58)⟩,
   ⟨none, some 60, 60, .mv (.t 1)⟩,
   ⟨none, some 61, 61, .bin .shr (.t 60) (.k (.one (.pv (.int .u64 12))))⟩,
   ⟨none, some 62, 62, .bin .and (.t 61) (.k (.one (.pv (.int .i64 63))))⟩,
   ⟨none, some 63, 63, .bin .or (.k (.one (.pv (.int .i64 128)))) (.t 62)⟩,
   ⟨none, some 64, 64, .conv (.int .u8) (.t 63)⟩,
   ⟨none, some 65, 65, .mv (.t 1)⟩,
   ⟨none, some 66, 66, .bin .shr (.t 65) (.k (.one (.pv (.int .u64 6))))⟩,
   ⟨none, some 67, 67, .bin .and (.t 66) (.k (.one (.pv (.int .i64 63))))⟩,
   ⟨none, some 68, 68, .bin .or (.k (.one (.pv (.int .i64 128)))) (.t 67)⟩,
   ⟨none, some 69, 69, .conv (.int .u8) (.t 68)⟩,
   ⟨none, some 70, 70, .mv (.t 1)⟩,
   ⟨none, some 71, 71, .bin .and (.t 70) (.k (.one (.pv (.int .i64 63))))⟩,
   ⟨none, some 72, 72, .bin .or (.k (.one (.pv (.int .i64 128)))) (.t 71)⟩,
   ⟨none, some 73, 73, .conv (.int .u8) (.t 72)⟩,
   ⟨none, some 74, 74, .bslice 1 [(.t 59), (.t 64), (.t 69), (.t 73)]⟩,
   ⟨none, some 75, 75, .app 1 1 (.t 55) (.t 74)⟩,
   ⟨none, some 4, 4, .mv (.t 75)⟩])
 (.ret))))⟩
abbrev C_s_PutSign (Te : Nat → List AV → Res → Prop) : Prop := ∀ (b : List UInt8) (n : Int) (hb : b.length ≤ 2 ^ 30), Te 90 [.one (slT false 1 uR b), .one (iT n)] ⟨[.one (slT true 1 uR (putSign b n))], [[slT false 1 uR b], [iT n]]⟩
theorem r_s_PutSign {Te : Nat → List AV → Res → Prop} (c_s_SignOk : C_s_SignOk Te) : ∀ (b : List UInt8) (n : Int) (hb : b.length ≤ 2 ^ 30), RunFn Te x_s_PutSign [.one (slT false 1 uR b), .one (iT n)] ⟨[.one (slT true 1 uR (putSign b n))], [[slT false 1 uR b], [iT n]]⟩ := by
  intro b n hb
  refine ⟨by simp -implicitDefEqProofs (maxSteps := 1000000) only [x_s_PutSign, go_sem], ?_⟩
  cases hn : signOk n
  · simp -implicitDefEqProofs (maxSteps := 1000000) only [x_s_PutSign, go_sem, true_implies, false_implies]
    repeat (first | refine ⟨rfl, ?_⟩ | refine ⟨by decide, ?_⟩ | refine ⟨⟨by decide, by decide⟩, ?_⟩ | refine ⟨decide_eq_true (by omega), ?_⟩ | refine ⟨⟨decide_eq_true (by omega), decide_eq_true (by omega)⟩, ?_⟩)
    try (first | done | decide | exact decide_eq_true (by omega) | exact ⟨decide_eq_true (by omega), decide_eq_true (by omega)⟩)
    refine .of (c_s_SignOk _) ?_
    try simp -implicitDefEqProofs (maxSteps := 1000000) only [go_sem, true_implies, false_implies, putSign, hn, if_false]
    repeat (first | refine ⟨rfl, ?_⟩ | refine ⟨by decide, ?_⟩ | refine ⟨⟨by decide, by decide⟩, ?_⟩ | refine ⟨decide_eq_true (by omega), ?_⟩ | refine ⟨⟨decide_eq_true (by omega), decide_eq_true (by omega)⟩, ?_⟩)
    try (first | done | decide | exact decide_eq_true (by omega) | exact ⟨decide_eq_true (by omega), decide_eq_true (by omega)⟩)
    try rfl
  obtain ⟨h0, h1, _⟩ := signOk_in hn
  obtain ⟨m, rfl⟩ : ∃ m : Nat, n = m := ⟨n.toNat, by omega⟩
  have ep : putSign b (m : Int) = b ++ enc8 m := by simp only [putSign, hn, if_true, Int.toNat_natCast]
  have d6 : (m : Int).fdiv (2 ^ 6) = ((m / 64 : Nat) : Int) := fdivN m 64
  have d12 : (m : Int).fdiv (2 ^ 12) = ((m / 4096 : Nat) : Int) := fdivN m 4096
  have d18 : (m : Int).fdiv (2 ^ 18) = ((m / 262144 : Nat) : Int) := fdivN m 262144
  have a0 := and63 m (by omega)
  have a6 := and63 (m / 64) (by omega)
  have a12 := and63 (m / 4096) (by omega)
  have o0 : orK .i64 128 ((m % 64 : Nat) : Int) = ((128 + m % 64 : Nat) : Int) := or_hd 128 6 2 rfl (by omega) (by omega)
  have o6 : orK .i64 128 ((m / 64 % 64 : Nat) : Int) = ((128 + m / 64 % 64 : Nat) : Int) := or_hd 128 6 2 rfl (by omega) (by omega)
  have o12 : orK .i64 128 ((m / 4096 % 64 : Nat) : Int) = ((128 + m / 4096 % 64 : Nat) : Int) := or_hd 128 6 2 rfl (by omega) (by omega)
  cases q : decide ((m : Int) ≤ 127)
  · have hq : ¬ m ≤ 127 := by simp only [decide_eq_false_iff_not] at q; omega
    cases q2 : decide ((m : Int) ≤ 2047)
    · have hq2 : ¬ m ≤ 2047 := by simp only [decide_eq_false_iff_not] at q2; omega
      cases q3 : decide ((m : Int) ≤ 65535)
      · have hq3 : ¬ m ≤ 65535 := by simp only [decide_eq_false_iff_not] at q3; omega
        have t : orK .i64 240 ((m / 262144 : Nat) : Int) = ((240 + m / 262144 : Nat) : Int) := or_hd 240 3 30 rfl (by omega) (by omega)
        have ee : List.take (b.length + 4) (List.map uR b ++ [[uT (mkU ((240 + m / 262144 : Nat) : Int))], [uT (mkU ((128 + m / 4096 % 64 : Nat) : Int))], [uT (mkU ((128 + m / 64 % 64 : Nat) : Int))], [uT (mkU ((128 + m % 64 : Nat) : Int))]]) = List.map uR (b ++ enc8 m) := by
          rw [List.take_of_length_le (by simp), mkU_nat, mkU_nat, mkU_nat, mkU_nat]
          simp only [enc8, if_neg hq, if_neg hq2, if_neg hq3, List.map_append, List.map_cons, List.map_nil]
        simp -implicitDefEqProofs (maxSteps := 1000000) only [x_s_PutSign, go_sem, true_implies, false_implies]
        repeat (first | refine ⟨rfl, ?_⟩ | refine ⟨by decide, ?_⟩ | refine ⟨⟨by decide, by decide⟩, ?_⟩ | refine ⟨decide_eq_true (by omega), ?_⟩ | refine ⟨⟨decide_eq_true (by omega), decide_eq_true (by omega)⟩, ?_⟩)
        try (first | done | decide | exact decide_eq_true (by omega) | exact ⟨decide_eq_true (by omega), decide_eq_true (by omega)⟩)
        refine .of (c_s_SignOk _) ?_
        try simp -implicitDefEqProofs (maxSteps := 1000000) only [go_sem, true_implies, false_implies, hn, ep, q, q2, q3, show Nat.min 6 64 = 6 from rfl, show Nat.min 12 64 = 12 from rfl, show Nat.min 18 64 = 18 from rfl, d6, d12, d18, a0, a6, a12, o0, o6, o12, t, mkU_wrap, ee]
        repeat (first | refine ⟨rfl, ?_⟩ | refine ⟨by decide, ?_⟩ | refine ⟨⟨by decide, by decide⟩, ?_⟩ | refine ⟨decide_eq_true (by omega), ?_⟩ | refine ⟨⟨decide_eq_true (by omega), decide_eq_true (by omega)⟩, ?_⟩)
        try (first | done | decide | exact decide_eq_true (by omega) | exact ⟨decide_eq_true (by omega), decide_eq_true (by omega)⟩)
      · have hq3 : m ≤ 65535 := by simp only [decide_eq_true_eq] at q3; omega
        have t : orK .i64 224 ((m / 4096 : Nat) : Int) = ((224 + m / 4096 : Nat) : Int) := or_hd 224 4 14 rfl (by omega) (by omega)
        have ee : List.take (b.length + 3) (List.map uR b ++ [[uT (mkU ((224 + m / 4096 : Nat) : Int))], [uT (mkU ((128 + m / 64 % 64 : Nat) : Int))], [uT (mkU ((128 + m % 64 : Nat) : Int))]]) = List.map uR (b ++ enc8 m) := by
          rw [List.take_of_length_le (by simp), mkU_nat, mkU_nat, mkU_nat]
          simp only [enc8, if_neg hq, if_neg hq2, if_pos hq3, List.map_append, List.map_cons, List.map_nil]
        simp -implicitDefEqProofs (maxSteps := 1000000) only [x_s_PutSign, go_sem, true_implies, false_implies]
        repeat (first | refine ⟨rfl, ?_⟩ | refine ⟨by decide, ?_⟩ | refine ⟨⟨by decide, by decide⟩, ?_⟩ | refine ⟨decide_eq_true (by omega), ?_⟩ | refine ⟨⟨decide_eq_true (by omega), decide_eq_true (by omega)⟩, ?_⟩)
        try (first | done | decide | exact decide_eq_true (by omega) | exact ⟨decide_eq_true (by omega), decide_eq_true (by omega)⟩)
        refine .of (c_s_SignOk _) ?_
        try simp -implicitDefEqProofs (maxSteps := 1000000) only [go_sem, true_implies, false_implies, hn, ep, q, q2, q3, show Nat.min 6 64 = 6 from rfl, show Nat.min 12 64 = 12 from rfl, d6, d12, a0, a6, o0, o6, t, mkU_wrap, ee]
        repeat (first | refine ⟨rfl, ?_⟩ | refine ⟨by decide, ?_⟩ | refine ⟨⟨by decide, by decide⟩, ?_⟩ | refine ⟨decide_eq_true (by omega), ?_⟩ | refine ⟨⟨decide_eq_true (by omega), decide_eq_true (by omega)⟩, ?_⟩)
        try (first | done | decide | exact decide_eq_true (by omega) | exact ⟨decide_eq_true (by omega), decide_eq_true (by omega)⟩)
    · have hq2 : m ≤ 2047 := by simp only [decide_eq_true_eq] at q2; omega
      have t : orK .i64 192 ((m / 64 : Nat) : Int) = ((192 + m / 64 : Nat) : Int) := or_hd 192 6 3 rfl (by omega) (by omega)
      have ee : List.take (b.length + 2) (List.map uR b ++ [[uT (mkU ((192 + m / 64 : Nat) : Int))], [uT (mkU ((128 + m % 64 : Nat) : Int))]]) = List.map uR (b ++ enc8 m) := by
        rw [List.take_of_length_le (by simp), mkU_nat, mkU_nat]
        simp only [enc8, if_neg hq, if_pos hq2, List.map_append, List.map_cons, List.map_nil]
      simp -implicitDefEqProofs (maxSteps := 1000000) only [x_s_PutSign, go_sem, true_implies, false_implies]
      repeat (first | refine ⟨rfl, ?_⟩ | refine ⟨by decide, ?_⟩ | refine ⟨⟨by decide, by decide⟩, ?_⟩ | refine ⟨decide_eq_true (by omega), ?_⟩ | refine ⟨⟨decide_eq_true (by omega), decide_eq_true (by omega)⟩, ?_⟩)
      try (first | done | decide | exact decide_eq_true (by omega) | exact ⟨decide_eq_true (by omega), decide_eq_true (by omega)⟩)
      refine .of (c_s_SignOk _) ?_
      try simp -implicitDefEqProofs (maxSteps := 1000000) only [go_sem, true_implies, false_implies, hn, ep, q, q2, show Nat.min 6 64 = 6 from rfl, d6, a0, o0, t, mkU_wrap, ee]
      repeat (first | refine ⟨rfl, ?_⟩ | refine ⟨by decide, ?_⟩ | refine ⟨⟨by decide, by decide⟩, ?_⟩ | refine ⟨decide_eq_true (by omega), ?_⟩ | refine ⟨⟨decide_eq_true (by omega), decide_eq_true (by omega)⟩, ?_⟩)
      try (first | done | decide | exact decide_eq_true (by omega) | exact ⟨decide_eq_true (by omega), decide_eq_true (by omega)⟩)
  · have hq : m ≤ 127 := by simp only [decide_eq_true_eq] at q; omega
    have ee : List.take (b.length + 1) (List.map uR b ++ [[uT (mkU (m : Int))]]) = List.map uR (b ++ enc8 m) := by
      rw [List.take_of_length_le (by simp), mkU_nat]
      simp only [enc8, if_pos hq, List.map_append, List.map_cons, List.map_nil]
    simp -implicitDefEqProofs (maxSteps := 1000000) only [x_s_PutSign, go_sem, true_implies, false_implies]
    repeat (first | refine ⟨rfl, ?_⟩ | refine ⟨by decide, ?_⟩ | refine ⟨⟨by decide, by decide⟩, ?_⟩ | refine ⟨decide_eq_true (by omega), ?_⟩ | refine ⟨⟨decide_eq_true (by omega), decide_eq_true (by omega)⟩, ?_⟩)
    try (first | done | decide | exact decide_eq_true (by omega) | exact ⟨decide_eq_true (by omega), decide_eq_true (by omega)⟩)
    refine .of (c_s_SignOk _) ?_
    try simp -implicitDefEqProofs (maxSteps := 1000000) only [go_sem, true_implies, false_implies, hn, ep, q, mkU_wrap, ee]
    repeat (first | refine ⟨rfl, ?_⟩ | refine ⟨by decide, ?_⟩ | refine ⟨⟨by decide, by decide⟩, ?_⟩ | refine ⟨decide_eq_true (by omega), ?_⟩ | refine ⟨⟨decide_eq_true (by omega), decide_eq_true (by omega)⟩, ?_⟩)
    try (first | done | decide | exact decide_eq_true (by omega) | exact ⟨decide_eq_true (by omega), decide_eq_true (by omega)⟩)
end Go.X

/- Ua -/
namespace Go.X
set_option maxRecDepth 100000
set_option maxHeartbeats 8000000
theorem str_small {l : List ByteArray} {r : ByteArray} (n : Nat) (hr : r ∈ l) (h : l.all (fun r => decide (r.size ≤ n)) = true) : r.size ≤ n := of_decide_eq_true (List.all_eq_true.1 h r hr)
theorem bytesOf_uL (l : List UInt8) : bytesOf (l.map uR) = l := by
  simp only [bytesOf, List.map_map, Function.comp_def, List.headD_cons, byteOf]
  conv => rhs; rw [← List.map_id l]
  refine List.map_congr_left fun a _ => ?_
  simp
theorem areBytes_uL : ∀ l : List UInt8, areBytes (l.map uR) = true
  | [] => rfl
  | a :: l => by simp only [List.map_cons, areBytes, isByte, areBytes_uL l, Bool.and_true]
def x_s_l1Name : FnX := ⟨6, [.tmp 2],
  .seq (.reg [⟨none, some 2, 2, .mv (.k (.one (.pv (.string ⟨#[]⟩))))⟩])
 (.seq (.reg [⟨none, some 3, 3, .mv (.t 0)⟩,
   ⟨none, some 4, 4, .bslice 1 [(.k (.one (.pv (.string ⟨#[97]⟩)))), (.k (.one (.pv (.string ⟨#[98]⟩)))), (.k (.one (.pv (.string ⟨#[99]⟩)))), (.k (.one (.pv (.string ⟨#[100]⟩)))), (.k (.one (.pv (.string ⟨#[101, 53]⟩))))]⟩,
   ⟨none, some 5, 5, .call 80 [5, 1] [(.t 3), (.t 4)]⟩,
   ⟨none, some 2, 2, .mv (.t 5)⟩])
 (.ret))⟩
abbrev C_s_l1Name (Te : Nat → List AV → Res → Prop) : Prop := ∀ (c : CurV) (hc : c.ok), ∃ (r : ByteArray) (d : CurV), (r.size ≤ 6 ∧ d.ok) ∧ Te 87 [.ptr c.enc] ⟨[.one (sT r)], [d.enc]⟩
theorem r_s_l1Name {Te : Nat → List AV → Res → Prop} (c_s_l1Str : C_s_l1Str Te) : ∀ (c : CurV) (hc : c.ok), ∃ r0, (∃ (r : ByteArray) (d : CurV), (r.size ≤ 6 ∧ d.ok) ∧ r0 = (⟨[.one (sT r)], [d.enc]⟩ : Res)) ∧ RunFn Te x_s_l1Name [.ptr c.enc] r0 := by
  intro c hc
  refine some_of (by simp -implicitDefEqProofs (maxSteps := 1000000) only [x_s_l1Name, go_sem]) (by rfl) ?_
  simp -implicitDefEqProofs (maxSteps := 1000000) only [x_s_l1Name, go_sem, true_implies, false_implies]
  repeat (first | refine ⟨rfl, ?_⟩ | refine ⟨by decide, ?_⟩ | refine ⟨⟨by decide, by decide⟩, ?_⟩ | refine ⟨decide_eq_true (by omega), ?_⟩ | refine ⟨⟨decide_eq_true (by omega), decide_eq_true (by omega)⟩, ?_⟩)
  try (first | done | decide | exact decide_eq_true (by omega) | exact ⟨decide_eq_true (by omega), decide_eq_true (by omega)⟩)
  obtain ⟨r, d, ⟨hr, hd⟩, ht⟩ := c_s_l1Str c [⟨#[97]⟩, ⟨#[98]⟩, ⟨#[99]⟩, ⟨#[100]⟩, ⟨#[101, 53]⟩] hc (by decide)
  refine .of (ht) ?_
  try simp -implicitDefEqProofs (maxSteps := 1000000) only [go_sem, true_implies, false_implies]
  repeat (first | refine ⟨rfl, ?_⟩ | refine ⟨by decide, ?_⟩ | refine ⟨⟨by decide, by decide⟩, ?_⟩ | refine ⟨decide_eq_true (by omega), ?_⟩ | refine ⟨⟨decide_eq_true (by omega), decide_eq_true (by omega)⟩, ?_⟩)
  try (first | done | decide | exact decide_eq_true (by omega) | exact ⟨decide_eq_true (by omega), decide_eq_true (by omega)⟩)
  exact ⟨r, d, ⟨str_small 6 hr (by decide), hd⟩, rfl⟩
def x_s_l1Text : FnX := ⟨6, [.tmp 2],
  .seq (.reg [⟨none, some 2, 2, .mv (.k (.one (.pv (.string ⟨#[]⟩))))⟩])
 (.seq (.reg [⟨none, some 3, 3, .mv (.t 0)⟩,
   ⟨none, some 4, 4, .bslice 1 [(.k (.one (.pv (.string ⟨#[]⟩)))), (.k (.one (.pv (.string ⟨#[97]⟩)))), (.k (.one (.pv (.string ⟨#[98, 49]⟩)))), (.k (.one (.pv (.string ⟨#[115, 105, 120, 108, 101, 116]⟩)))), (.k (.one (.pv (.string ⟨#[115, 101, 118, 101, 110, 108, 101]⟩)))), (.k (.one (.pv (.string ⟨#[65]⟩)))), (.k (.one (.pv (.string ⟨#[97, 32, 98]⟩)))), (.k (.one (.pv (.string ⟨#[0]⟩)))), (.k (.one (.pv (.string ⟨#[104, 101, 108, 108, 111]⟩))))]⟩,
   ⟨none, some 5, 5, .call 80 [5, 1] [(.t 3), (.t 4)]⟩,
   ⟨none, some 2, 2, .mv (.t 5)⟩])
 (.ret))⟩
abbrev C_s_l1Text (Te : Nat → List AV → Res → Prop) : Prop := ∀ (c : CurV) (hc : c.ok), ∃ (r : ByteArray) (d : CurV), (r.size ≤ 7 ∧ d.ok) ∧ Te 76 [.ptr c.enc] ⟨[.one (sT r)], [d.enc]⟩
theorem r_s_l1Text {Te : Nat → List AV → Res → Prop} (c_s_l1Str : C_s_l1Str Te) : ∀ (c : CurV) (hc : c.ok), ∃ r0, (∃ (r : ByteArray) (d : CurV), (r.size ≤ 7 ∧ d.ok) ∧ r0 = (⟨[.one (sT r)], [d.enc]⟩ : Res)) ∧ RunFn Te x_s_l1Text [.ptr c.enc] r0 := by
  intro c hc
  refine some_of (by simp -implicitDefEqProofs (maxSteps := 1000000) only [x_s_l1Text, go_sem]) (by rfl) ?_
  simp -implicitDefEqProofs (maxSteps := 1000000) only [x_s_l1Text, go_sem, true_implies, false_implies]
  repeat (first | refine ⟨rfl, ?_⟩ | refine ⟨by decide, ?_⟩ | refine ⟨⟨by decide, by decide⟩, ?_⟩ | refine ⟨decide_eq_true (by omega), ?_⟩ | refine ⟨⟨decide_eq_true (by omega), decide_eq_true (by omega)⟩, ?_⟩)
  try (first | done | decide | exact decide_eq_true (by omega) | exact ⟨decide_eq_true (by omega), decide_eq_true (by omega)⟩)
  obtain ⟨r, d, ⟨hr, hd⟩, ht⟩ := c_s_l1Str c [⟨#[]⟩, ⟨#[97]⟩, ⟨#[98, 49]⟩, ⟨#[115, 105, 120, 108, 101, 116]⟩, ⟨#[115, 101, 118, 101, 110, 108, 101]⟩, ⟨#[65]⟩, ⟨#[97, 32, 98]⟩, ⟨#[0]⟩, ⟨#[104, 101, 108, 108, 111]⟩] hc (by decide)
  refine .of (ht) ?_
  try simp -implicitDefEqProofs (maxSteps := 1000000) only [go_sem, true_implies, false_implies]
  repeat (first | refine ⟨rfl, ?_⟩ | refine ⟨by decide, ?_⟩ | refine ⟨⟨by decide, by decide⟩, ?_⟩ | refine ⟨decide_eq_true (by omega), ?_⟩ | refine ⟨⟨decide_eq_true (by omega), decide_eq_true (by omega)⟩, ?_⟩)
  try (first | done | decide | exact decide_eq_true (by omega) | exact ⟨decide_eq_true (by omega), decide_eq_true (by omega)⟩)
  exact ⟨r, d, ⟨str_small 7 hr (by decide), hd⟩, rfl⟩
def x_s_l1Num : FnX := ⟨6, [.tmp 2],
  .seq (.reg [⟨none, some 2, 2, .mv (.k (.one (.pv (.int .i64 0))))⟩])
 (.seq (.reg [⟨none, some 3, 3, .mv (.t 0)⟩,
   ⟨none, some 4, 4, .bslice 1 [(.k (.one (.pv (.int .i64 0)))), (.k (.one (.pv (.int .i64 1)))), (.k (.one (.pv (.int .i64 7)))), (.k (.one (.pv (.int .i64 255)))), (.k (.one (.pv (.int .i64 256)))), (.k (.one (.pv (.int .i64 4660)))), (.k (.one (.pv (.int .i64 65535)))), (.k (.one (.pv (.int .i64 65536)))), (.k (.one (.pv (.int .i64 (-1))))), (.k (.one (.pv (.int .i64 9223372036854775807)))), (.k (.one (.pv (.int .i64 (-9223372036854775808)))))]⟩,
   ⟨none, some 5, 5, .call 66 [5, 1] [(.t 3), (.t 4)]⟩,
   ⟨none, some 2, 2, .mv (.t 5)⟩])
 (.ret))⟩
abbrev C_s_l1Num (Te : Nat → List AV → Res → Prop) : Prop := ∀ (c : CurV) (hc : c.ok), ∃ (r : Int) (d : CurV), (d.ok) ∧ Te 84 [.ptr c.enc] ⟨[.one (iT r)], [d.enc]⟩
theorem r_s_l1Num {Te : Nat → List AV → Res → Prop} (c_s_l1Int : C_s_l1Int Te) : ∀ (c : CurV) (hc : c.ok), ∃ r0, (∃ (r : Int) (d : CurV), (d.ok) ∧ r0 = (⟨[.one (iT r)], [d.enc]⟩ : Res)) ∧ RunFn Te x_s_l1Num [.ptr c.enc] r0 := by
  intro c hc
  refine some_of (by simp -implicitDefEqProofs (maxSteps := 1000000) only [x_s_l1Num, go_sem]) (by rfl) ?_
  simp -implicitDefEqProofs (maxSteps := 1000000) only [x_s_l1Num, go_sem, true_implies, false_implies]
  repeat (first | refine ⟨rfl, ?_⟩ | refine ⟨by decide, ?_⟩ | refine ⟨⟨by decide, by decide⟩, ?_⟩ | refine ⟨decide_eq_true (by omega), ?_⟩ | refine ⟨⟨decide_eq_true (by omega), decide_eq_true (by omega)⟩, ?_⟩)
  try (first | done | decide | exact decide_eq_true (by omega) | exact ⟨decide_eq_true (by omega), decide_eq_true (by omega)⟩)
  obtain ⟨r, d, ⟨hr, hd⟩, ht⟩ := c_s_l1Int c [0, 1, 7, 255, 256, 4660, 65535, 65536, -1, 9223372036854775807, -9223372036854775808] hc (by decide)
  refine .of (ht) ?_
  try simp -implicitDefEqProofs (maxSteps := 1000000) only [go_sem, true_implies, false_implies]
  repeat (first | refine ⟨rfl, ?_⟩ | refine ⟨by decide, ?_⟩ | refine ⟨⟨by decide, by decide⟩, ?_⟩ | refine ⟨decide_eq_true (by omega), ?_⟩ | refine ⟨⟨decide_eq_true (by omega), decide_eq_true (by omega)⟩, ?_⟩)
  try (first | done | decide | exact decide_eq_true (by omega) | exact ⟨decide_eq_true (by omega), decide_eq_true (by omega)⟩)
  exact ⟨r, d, hd, rfl⟩
def x_s_l2Sign : FnX := ⟨6, [.tmp 2],
  .seq (.reg [⟨none, some 2, 2, .mv (.k (.one (.pv (.int .i64 0))))⟩])
 (.seq (.reg [⟨none, some 3, 3, .mv (.t 0)⟩,
   ⟨none, some 4, 4, .bslice 1 [(.k (.one (.pv (.int .i64 0)))), (.k (.one (.pv (.int .i64 97)))), (.k (.one (.pv (.int .i64 90)))), (.k (.one (.pv (.int .i64 127)))), (.k (.one (.pv (.int .i64 128)))), (.k (.one (.pv (.int .i64 164)))), (.k (.one (.pv (.int .i64 233)))), (.k (.one (.pv (.int .i64 2047)))), (.k (.one (.pv (.int .i64 2048)))), (.k (.one (.pv (.int .i64 8364)))), (.k (.one (.pv (.int .i64 1072)))), (.k (.one (.pv (.int .i64 1102)))), (.k (.one (.pv (.int .i64 1025)))), (.k (.one (.pv (.int .i64 12354)))), (.k (.one (.pv (.int .i64 12450)))), (.k (.one (.pv (.int .i64 352)))), (.k (.one (.pv (.int .i64 65535)))), (.k (.one (.pv (.int .i64 65536)))), (.k (.one (.pv (.int .i64 1114111))))]⟩,
   ⟨none, some 5, 5, .call 66 [5, 1] [(.t 3), (.t 4)]⟩,
   ⟨none, some 2, 2, .mv (.t 5)⟩])
 (.ret))⟩
abbrev C_s_l2Sign (Te : Nat → List AV → Res → Prop) : Prop := ∀ (c : CurV) (hc : c.ok), ∃ (r : Int) (d : CurV), (d.ok) ∧ Te 93 [.ptr c.enc] ⟨[.one (iT r)], [d.enc]⟩
theorem r_s_l2Sign {Te : Nat → List AV → Res → Prop} (c_s_l1Int : C_s_l1Int Te) : ∀ (c : CurV) (hc : c.ok), ∃ r0, (∃ (r : Int) (d : CurV), (d.ok) ∧ r0 = (⟨[.one (iT r)], [d.enc]⟩ : Res)) ∧ RunFn Te x_s_l2Sign [.ptr c.enc] r0 := by
  intro c hc
  refine some_of (by simp -implicitDefEqProofs (maxSteps := 1000000) only [x_s_l2Sign, go_sem]) (by rfl) ?_
  simp -implicitDefEqProofs (maxSteps := 1000000) only [x_s_l2Sign, go_sem, true_implies, false_implies]
  repeat (first | refine ⟨rfl, ?_⟩ | refine ⟨by decide, ?_⟩ | refine ⟨⟨by decide, by decide⟩, ?_⟩ | refine ⟨decide_eq_true (by omega), ?_⟩ | refine ⟨⟨decide_eq_true (by omega), decide_eq_true (by omega)⟩, ?_⟩)
  try (first | done | decide | exact decide_eq_true (by omega) | exact ⟨decide_eq_true (by omega), decide_eq_true (by omega)⟩)
  obtain ⟨r, d, ⟨hr, hd⟩, ht⟩ := c_s_l1Int c [0, 97, 90, 127, 128, 164, 233, 2047, 2048, 8364, 1072, 1102, 1025, 12354, 12450, 352, 65535, 65536, 1114111] hc (by decide)
  refine .of (ht) ?_
  try simp -implicitDefEqProofs (maxSteps := 1000000) only [go_sem, true_implies, false_implies]
  repeat (first | refine ⟨rfl, ?_⟩ | refine ⟨by decide, ?_⟩ | refine ⟨⟨by decide, by decide⟩, ?_⟩ | refine ⟨decide_eq_true (by omega), ?_⟩ | refine ⟨⟨decide_eq_true (by omega), decide_eq_true (by omega)⟩, ?_⟩)
  try (first | done | decide | exact decide_eq_true (by omega) | exact ⟨decide_eq_true (by omega), decide_eq_true (by omega)⟩)
  exact ⟨r, d, hd, rfl⟩
def x_s_l5Sign : FnX := ⟨27, [.tmp 4],
  .seq (.reg [⟨none, some 4, 4, .mv (.k (.one (.pv (.int .i64 0))))⟩])
 (.seq (.seq (.reg [⟨none, some 7, 7, .mv (.t 1)⟩,
   ⟨none, some 8, 8, .bin .eql (.t 7) (.k (.one (.pv (.int .i64 0))))⟩])
 (.cond 8 (.seq (.reg [⟨none, some 9, 9, .mv (.t 0)⟩,
   ⟨none, some 10, 10, .call 93 [5] [(.t 9)]⟩,
   ⟨none, some 4, 4, .mv (.t 10)⟩])
 (.ret)) (.skip)))
 (.seq (.seq (.reg [⟨none, some 11, 11, .mv (.t 1)⟩,
   ⟨none, some 12, 12, .bin .eql (.t 11) (.k (.one (.pv (.int .i64 5))))⟩])
 (.cond 12 (.seq (.reg [⟨none, some 13, 13, .mv (.t 0)⟩,
   ⟨none, some 14, 14, .bslice 1 [(.k (.one (.pv (.int .i64 97)))), (.k (.one (.pv (.int .i64 32)))), (.k (.one (.pv (.int .i64 12353)))), (.k (.one (.pv (.int .i64 12435)))), (.k (.one (.pv (.int .i64 12449)))), (.k (.one (.pv (.int .i64 12534)))), (.k (.one (.pv (.int .i64 12354))))]⟩,
   ⟨none, some 15, 15, .call 66 [5, 1] [(.t 13), (.t 14)]⟩,
   ⟨none, some 4, 4, .mv (.t 15)⟩])
 (.ret)) (.skip)))
 (.seq (.reg [⟨none, some 17, 17, .mv (.t 1)⟩,
   ⟨none, some 18, 18, .mv (.t 0)⟩,
   ⟨none, some 19, 19, .bslice 1 [(.k (.one (.pv (.int .i64 65)))), (.k (.one (.pv (.int .i64 97)))), (.k (.one (.pv (.int .i64 32)))), (.k (.one (.pv (.int .i64 164)))), (.k (.one (.pv (.int .i64 192)))), (.k (.one (.pv (.int .i64 200)))), (.k (.one (.pv (.int .i64 228)))), (.k (.one (.pv (.int .i64 255)))), (.k (.one (.pv (.int .i64 163)))), (.k (.one (.pv (.int .i64 128)))), (.k (.one (.pv (.int .i64 130)))), (.k (.one (.pv (.int .i64 189))))]⟩,
   ⟨none, some 20, 20, .call 66 [5, 1] [(.t 18), (.t 19)]⟩,
   ⟨none, some 21, 21, .call 94 [0, 0] [(.t 17), (.t 20)]⟩,
   ⟨none, some 16, 16, .mv (.t 21)⟩,
   ⟨none, some 22, 22, .ext (.t 16) 0⟩,
   ⟨none, some 23, 23, .ext (.t 16) 1⟩,
   ⟨none, some 5, 5, .mv (.t 22)⟩,
   ⟨none, some 6, 6, .mv (.t 23)⟩])
 (.seq (.seq (.reg [⟨none, some 24, 24, .mv (.t 6)⟩,
   ⟨none, some 25, 25, .not (.t 24)⟩])
 (.cond 25 (.seq (.reg [⟨none, some 4, 4, .mv (.k (.one (.pv (.int .i64 120))))⟩])
 (.ret)) (.skip)))
 (.seq (.reg [⟨none, some 26, 26, .mv (.t 5)⟩,
   ⟨none, some 4, 4, .mv (.t 26)⟩])
 (.ret))))))⟩
abbrev C_s_l5Sign (Te : Nat → List AV → Res → Prop) : Prop := ∀ (c : CurV) (cs : Int) (hc : c.ok), ∃ (r : Int) (d : CurV), (d.ok) ∧ Te 91 [.ptr c.enc, .one (iT cs)] ⟨[.one (iT r)], [d.enc, [iT cs]]⟩
theorem r_s_l5Sign {Te : Nat → List AV → Res → Prop} (c_s_l2Sign : C_s_l2Sign Te) (c_s_l1Int : C_s_l1Int Te) (c_s_ByteSign : C_s_ByteSign Te) : ∀ (c : CurV) (cs : Int) (hc : c.ok), ∃ r0, (∃ (r : Int) (d : CurV), (d.ok) ∧ r0 = (⟨[.one (iT r)], [d.enc, [iT cs]]⟩ : Res)) ∧ RunFn Te x_s_l5Sign [.ptr c.enc, .one (iT cs)] r0 := by
  intro c cs hc
  refine some_of (by simp -implicitDefEqProofs (maxSteps := 1000000) only [x_s_l5Sign, go_sem]) (by rfl) ?_
  cases g0 : (cs == 0)
  · cases g5 : (cs == 5)
    · simp -implicitDefEqProofs (maxSteps := 1000000) only [x_s_l5Sign, go_sem, true_implies, false_implies, g0, g5]
      repeat (first | refine ⟨rfl, ?_⟩ | refine ⟨by decide, ?_⟩ | refine ⟨⟨by decide, by decide⟩, ?_⟩ | refine ⟨decide_eq_true (by omega), ?_⟩ | refine ⟨⟨decide_eq_true (by omega), decide_eq_true (by omega)⟩, ?_⟩)
      try (first | done | decide | exact decide_eq_true (by omega) | exact ⟨decide_eq_true (by omega), decide_eq_true (by omega)⟩)
      obtain ⟨r, d, ⟨hr, hd⟩, ht⟩ := c_s_l1Int c [65, 97, 32, 164, 192, 200, 228, 255, 163, 128, 130, 189] hc (by decide)
      refine .of (ht) ?_
      try simp -implicitDefEqProofs (maxSteps := 1000000) only [go_sem, true_implies, false_implies]
      repeat (first | refine ⟨rfl, ?_⟩ | refine ⟨by decide, ?_⟩ | refine ⟨⟨by decide, by decide⟩, ?_⟩ | refine ⟨decide_eq_true (by omega), ?_⟩ | refine ⟨⟨decide_eq_true (by omega), decide_eq_true (by omega)⟩, ?_⟩)
      try (first | done | decide | exact decide_eq_true (by omega) | exact ⟨decide_eq_true (by omega), decide_eq_true (by omega)⟩)
      refine .of (c_s_ByteSign cs r) ?_
      try simp -implicitDefEqProofs (maxSteps := 1000000) only [go_sem, true_implies, false_implies]
      repeat (first | refine ⟨rfl, ?_⟩ | refine ⟨by decide, ?_⟩ | refine ⟨⟨by decide, by decide⟩, ?_⟩ | refine ⟨decide_eq_true (by omega), ?_⟩ | refine ⟨⟨decide_eq_true (by omega), decide_eq_true (by omega)⟩, ?_⟩)
      try (first | done | decide | exact decide_eq_true (by omega) | exact ⟨decide_eq_true (by omega), decide_eq_true (by omega)⟩)
      cases g : (byteSign cs r).2
      · try simp -implicitDefEqProofs (maxSteps := 1000000) only [go_sem, true_implies, false_implies, g]
        repeat (first | refine ⟨rfl, ?_⟩ | refine ⟨by decide, ?_⟩ | refine ⟨⟨by decide, by decide⟩, ?_⟩ | refine ⟨decide_eq_true (by omega), ?_⟩ | refine ⟨⟨decide_eq_true (by omega), decide_eq_true (by omega)⟩, ?_⟩)
        try (first | done | decide | exact decide_eq_true (by omega) | exact ⟨decide_eq_true (by omega), decide_eq_true (by omega)⟩)
        exact ⟨120, d, hd, rfl⟩
      · try simp -implicitDefEqProofs (maxSteps := 1000000) only [go_sem, true_implies, false_implies, g]
        repeat (first | refine ⟨rfl, ?_⟩ | refine ⟨by decide, ?_⟩ | refine ⟨⟨by decide, by decide⟩, ?_⟩ | refine ⟨decide_eq_true (by omega), ?_⟩ | refine ⟨⟨decide_eq_true (by omega), decide_eq_true (by omega)⟩, ?_⟩)
        try (first | done | decide | exact decide_eq_true (by omega) | exact ⟨decide_eq_true (by omega), decide_eq_true (by omega)⟩)
        exact ⟨_, d, hd, rfl⟩
    · simp -implicitDefEqProofs (maxSteps := 1000000) only [x_s_l5Sign, go_sem, true_implies, false_implies, g0, g5]
      repeat (first | refine ⟨rfl, ?_⟩ | refine ⟨by decide, ?_⟩ | refine ⟨⟨by decide, by decide⟩, ?_⟩ | refine ⟨decide_eq_true (by omega), ?_⟩ | refine ⟨⟨decide_eq_true (by omega), decide_eq_true (by omega)⟩, ?_⟩)
      try (first | done | decide | exact decide_eq_true (by omega) | exact ⟨decide_eq_true (by omega), decide_eq_true (by omega)⟩)
      obtain ⟨r, d, ⟨hr, hd⟩, ht⟩ := c_s_l1Int c [97, 32, 12353, 12435, 12449, 12534, 12354] hc (by decide)
      refine .of (ht) ?_
      try simp -implicitDefEqProofs (maxSteps := 1000000) only [go_sem, true_implies, false_implies]
      repeat (first | refine ⟨rfl, ?_⟩ | refine ⟨by decide, ?_⟩ | refine ⟨⟨by decide, by decide⟩, ?_⟩ | refine ⟨decide_eq_true (by omega), ?_⟩ | refine ⟨⟨decide_eq_true (by omega), decide_eq_true (by omega)⟩, ?_⟩)
      try (first | done | decide | exact decide_eq_true (by omega) | exact ⟨decide_eq_true (by omega), decide_eq_true (by omega)⟩)
      exact ⟨r, d, hd, rfl⟩
  · simp -implicitDefEqProofs (maxSteps := 1000000) only [x_s_l5Sign, go_sem, true_implies, false_implies, g0]
    repeat (first | refine ⟨rfl, ?_⟩ | refine ⟨by decide, ?_⟩ | refine ⟨⟨by decide, by decide⟩, ?_⟩ | refine ⟨decide_eq_true (by omega), ?_⟩ | refine ⟨⟨decide_eq_true (by omega), decide_eq_true (by omega)⟩, ?_⟩)
    try (first | done | decide | exact decide_eq_true (by omega) | exact ⟨decide_eq_true (by omega), decide_eq_true (by omega)⟩)
    obtain ⟨r, d, hd, ht⟩ := c_s_l2Sign c hc
    refine .of (ht) ?_
    try simp -implicitDefEqProofs (maxSteps := 1000000) only [go_sem, true_implies, false_implies]
    repeat (first | refine ⟨rfl, ?_⟩ | refine ⟨by decide, ?_⟩ | refine ⟨⟨by decide, by decide⟩, ?_⟩ | refine ⟨decide_eq_true (by omega), ?_⟩ | refine ⟨⟨decide_eq_true (by omega), decide_eq_true (by omega)⟩, ?_⟩)
    try (first | done | decide | exact decide_eq_true (by omega) | exact ⟨decide_eq_true (by omega), decide_eq_true (by omega)⟩)
    exact ⟨r, d, hd, rfl⟩
def x_s_l5Text : FnX := ⟨25, [.tmp 6],
  .seq (.reg [⟨none, some 6, 6, .mv (.k (.one (.pv (.string ⟨#[]⟩))))⟩])
 (.seq (.reg [⟨none, some 9, 9, .bslice 1 []⟩,
   ⟨none, some 7, 7, .mv (.t 9)⟩])
 (.seq (.seq (.reg [⟨none, some 10, 10, .mv (.t 0)⟩,
   ⟨none, some 11, 11, .mv (.t 2)⟩,
   ⟨none, some 12, 12, .bin .add (.t 11) (.k (.one (.pv (.int .i64 1))))⟩,
   ⟨none, some 13, 13, .call 74 [5, 0] [(.t 10), (.t 12)]⟩,
   ⟨none, some 8, 8, .mv (.t 13)⟩])
 (.block 0 (.loop [0, 1, 7, 8] (.seq (.seq (.reg [⟨none, some 14, 14, .mv (.t 8)⟩,
   ⟨none, some 15, 15, .bin .gtr (.t 14) (.k (.one (.pv (.int .i64 0))))⟩])
 (.cond 15 (.skip) (.exit 0)))
 (.seq (.block 1 (.reg [⟨none, some 18, 18, .mv (.t 7)⟩,
   ⟨none, some 19, 19, .mv (.t 0)⟩,
   ⟨none, some 20, 20, .mv (.t 1)⟩,
   ⟨none, some 21, 21, .call 91 [5, 0] [(.t 19), (.t 20)]⟩,
   ⟨none, some 22, 22, .call 90 [0, 0] [(.t 18), (.t 21)]⟩,
   ⟨none, some 7, 7, .mv (.t 22)⟩]))
 (.reg [⟨none, some 16, 16, .mv (.t 8)⟩,
   ⟨none, some 17, 17, .bin .sub (.t 16) (.k (.one (.pv (.int .i64 1))))⟩,
   ⟨none, some 8, 8, .mv (.t 17)⟩]))))))
 (.norm [7] (.seq (.reg [⟨none, some 23, 23, .mv (.t 7)⟩,
   ⟨none, some 24, 24, .conv .b2s (.t 23)⟩,
   ⟨none, some 6, 6, .mv (.t 24)⟩])
 (.ret)))))⟩
abbrev C_s_l5Text (Te : Nat → List AV → Res → Prop) : Prop := ∀ (c : CurV) (cs most : Int) (hc : c.ok) (hm : 0 ≤ most ∧ most ≤ 100), ∃ (r : ByteArray) (d : CurV), (r.size ≤ 4 * most.toNat ∧ d.ok) ∧ Te 88 [.ptr c.enc, .one (iT cs), .one (iT most)] ⟨[.one (sT r)], [d.enc, [iT cs], [iT most]]⟩
theorem r_s_l5Text {Te : Nat → List AV → Res → Prop} (c_s_l1Below : C_s_l1Below Te) (c_s_l5Sign : C_s_l5Sign Te) (c_s_PutSign : C_s_PutSign Te) : ∀ (c : CurV) (cs most : Int) (hc : c.ok) (hm : 0 ≤ most ∧ most ≤ 100), ∃ r0, (∃ (r : ByteArray) (d : CurV), (r.size ≤ 4 * most.toNat ∧ d.ok) ∧ r0 = (⟨[.one (sT r)], [d.enc, [iT cs], [iT most]]⟩ : Res)) ∧ RunFn Te x_s_l5Text [.ptr c.enc, .one (iT cs), .one (iT most)] r0 := by
  intro c cs most hc hm
  refine some_of (by simp -implicitDefEqProofs (maxSteps := 1000000) only [x_s_l5Text, go_sem]) (by rfl) ?_
  have w1 : IntKind.i64.wrap (most + 1) = most + 1 := IntWalk.i64_in _ (by omega)
  simp -implicitDefEqProofs (maxSteps := 1000000) only [x_s_l5Text, go_sem, true_implies, false_implies, w1]
  repeat (first | refine ⟨rfl, ?_⟩ | refine ⟨by decide, ?_⟩ | refine ⟨⟨by decide, by decide⟩, ?_⟩ | refine ⟨decide_eq_true (by omega), ?_⟩ | refine ⟨⟨decide_eq_true (by omega), decide_eq_true (by omega)⟩, ?_⟩)
  try (first | done | decide | exact decide_eq_true (by omega) | exact ⟨decide_eq_true (by omega), decide_eq_true (by omega)⟩)
  obtain ⟨k, d0, ⟨hk, hd0⟩, ht⟩ := c_s_l1Below c (most + 1) hc
  have hk1 := hk.2.1 (by omega)
  obtain ⟨K, rfl⟩ : ∃ K : Nat, k = K := ⟨k.toNat, by omega⟩
  refine .of (ht) ?_
  try simp -implicitDefEqProofs (maxSteps := 1000000) only [go_sem, true_implies, false_implies]
  repeat (first | refine ⟨rfl, ?_⟩ | refine ⟨by decide, ?_⟩ | refine ⟨⟨by decide, by decide⟩, ?_⟩ | refine ⟨decide_eq_true (by omega), ?_⟩ | refine ⟨⟨decide_eq_true (by omega), decide_eq_true (by omega)⟩, ?_⟩)
  try (first | done | decide | exact decide_eq_true (by omega) | exact ⟨decide_eq_true (by omega), decide_eq_true (by omega)⟩)
  refine loop_of (σ := Nat × List UInt8 × CurV) (fun x => ⟨[(0, .bp 0 0), (1, .one (.pv (.int .i64 cs))), (7, .one (.rf 28 0 [] 1 0 x.2.1.length)), (8, .one (.pv (.int .i64 x.1)))], [(0, [.ro 1 (x.2.2.b.map uR), .pv (.int .i64 x.2.2.i), .pv (.int .i64 x.2.2.h)])], [(0, c.enc), (1, [iT cs]), (2, [iT most]), (28, [slT true 1 uR x.2.1])]⟩) (fun x => x.1 ≤ K ∧ x.2.1.length ≤ 4 * (K - x.1) ∧ x.2.2.ok) (fun x => x.1) (K, [], d0) ?_ ⟨Nat.le_refl _, Nat.zero_le _, hd0⟩ ?_
  · simp -implicitDefEqProofs (maxSteps := 1000000) only [go_sem]
    rfl
  · rintro ⟨i, b, d⟩ ⟨hi, hb, hd⟩
    simp only at hi hb hd
    cases q : decide ((i : Int) > 0)
    · try simp -implicitDefEqProofs (maxSteps := 1000000) only [go_sem, true_implies, false_implies, q]
      repeat (first | refine ⟨rfl, ?_⟩ | refine ⟨by decide, ?_⟩ | refine ⟨⟨by decide, by decide⟩, ?_⟩ | refine ⟨decide_eq_true (by omega), ?_⟩ | refine ⟨⟨decide_eq_true (by omega), decide_eq_true (by omega)⟩, ?_⟩)
      try (first | done | decide | exact decide_eq_true (by omega) | exact ⟨decide_eq_true (by omega), decide_eq_true (by omega)⟩)
      have hi0 : i = 0 := by simp only [decide_eq_false_iff_not] at q; omega
      refine ⟨areBytes_uL b, ⟨(bytesOf (b.map uR)).toArray⟩, d, ⟨?_, hd⟩, rfl⟩
      show (bytesOf (b.map uR)).length ≤ _
      rw [bytesOf_uL]
      omega
    · simp only [decide_eq_true_eq] at q
      have w2 : IntKind.i64.wrap ((i : Int) - 1) = ((i - 1 : Nat) : Int) := by rw [IntWalk.i64_in _ (by omega)]; omega
      obtain ⟨r, d1, hd1, ht⟩ := c_s_l5Sign d cs hd
      have q' : decide ((i : Int) > 0) = true := decide_eq_true q
      try simp -implicitDefEqProofs (maxSteps := 1000000) only [go_sem, true_implies, false_implies, q']
      repeat (first | refine ⟨rfl, ?_⟩ | refine ⟨by decide, ?_⟩ | refine ⟨⟨by decide, by decide⟩, ?_⟩ | refine ⟨decide_eq_true (by omega), ?_⟩ | refine ⟨⟨decide_eq_true (by omega), decide_eq_true (by omega)⟩, ?_⟩)
      try (first | done | decide | exact decide_eq_true (by omega) | exact ⟨decide_eq_true (by omega), decide_eq_true (by omega)⟩)
      refine .of (ht) ?_
      try simp -implicitDefEqProofs (maxSteps := 1000000) only [go_sem, true_implies, false_implies]
      repeat (first | refine ⟨rfl, ?_⟩ | refine ⟨by decide, ?_⟩ | refine ⟨⟨by decide, by decide⟩, ?_⟩ | refine ⟨decide_eq_true (by omega), ?_⟩ | refine ⟨⟨decide_eq_true (by omega), decide_eq_true (by omega)⟩, ?_⟩)
      try (first | done | decide | exact decide_eq_true (by omega) | exact ⟨decide_eq_true (by omega), decide_eq_true (by omega)⟩)
      refine .of (c_s_PutSign b r (by omega)) ?_
      try simp -implicitDefEqProofs (maxSteps := 1000000) only [go_sem, true_implies, false_implies, w2]
      repeat (first | refine ⟨rfl, ?_⟩ | refine ⟨by decide, ?_⟩ | refine ⟨⟨by decide, by decide⟩, ?_⟩ | refine ⟨decide_eq_true (by omega), ?_⟩ | refine ⟨⟨decide_eq_true (by omega), decide_eq_true (by omega)⟩, ?_⟩)
      try (first | done | decide | exact decide_eq_true (by omega) | exact ⟨decide_eq_true (by omega), decide_eq_true (by omega)⟩)
      have hl := putSign_len b r
      exact ⟨(i - 1, putSign b r, d1), rfl, ⟨by simp only; omega, by simp only; omega, hd1⟩, by simp only; omega⟩
end Go.X

/- Ub -/
namespace Go.X
set_option maxRecDepth 100000
set_option maxHeartbeats 8000000
def msgS (m : Msg) : Prop := m.Key.size ≤ 61 ∧ m.Text.size ≤ 61
theorem msgS_In {m : Msg} (h : msgS m) {n : Nat} (hn : 61 ≤ n := by decide) : m.In n := ⟨Nat.le_trans h.1 hn, Nat.le_trans h.2 hn⟩
def x_s_l16Draw : FnX := ⟨59, [.cell 2 (some 8)],
  .seq (.reg [⟨none, some 2, 2, .alloc [.pv (.int .i64 0), .pv (.int .i64 0), .pv (.int .i64 0), .pv (.int .i64 0), .pv (.string ⟨#[]⟩), .pv (.string ⟨#[]⟩), .pv (.int .i64 0), .pv (.int .i64 0)]⟩])
 (.seq (.reg [⟨none, some 4, 4, .mv (.t 0)⟩,
   ⟨none, some 5, 5, .call 74 [5, 0] [(.t 4), (.k (.one (.pv (.int .i64 9))))]⟩,
   ⟨none, some 6, 6, .bin .add (.k (.one (.pv (.int .i64 1)))) (.t 5)⟩,
   ⟨none, some 7, 7, .mv (.t 0)⟩,
   ⟨none, some 8, 8, .bslice 1 [(.k (.one (.pv (.int .i64 0)))), (.k (.one (.pv (.int .i64 1)))), (.k (.one (.pv (.int .i64 2)))), (.k (.one (.pv (.int .i64 31)))), (.k (.one (.pv (.int .i64 65535))))]⟩,
   ⟨none, some 9, 9, .call 66 [5, 1] [(.t 7), (.t 8)]⟩,
   ⟨none, some 10, 10, .mv (.t 0)⟩,
   ⟨none, some 11, 11, .call 87 [5] [(.t 10)]⟩,
   ⟨none, some 12, 12, .mv (.t 0)⟩,
   ⟨none, some 13, 13, .call 74 [5, 0] [(.t 12), (.k (.one (.pv (.int .i64 7))))]⟩,
   ⟨none, some 14, 14, .mv (.t 0)⟩,
   ⟨none, some 15, 15, .call 74 [5, 0] [(.t 14), (.k (.one (.pv (.int .i64 8))))]⟩,
   ⟨none, some 16, 16, .build [.pv (.int .i64 0), .pv (.int .i64 0), .pv (.int .i64 0), .pv (.int .i64 0), .pv (.string ⟨#[]⟩), .pv (.string ⟨#[]⟩), .pv (.int .i64 0), .pv (.int .i64 0)] [(0, 1, (.t 6)), (3, 1, (.t 9)), (4, 1, (.t 11)), (7, 1, (.t 13)), (6, 1, (.t 15))]⟩,
   ⟨none, some 3, 3, .alloc [.pv (.int .i64 0), .pv (.int .i64 0), .pv (.int .i64 0), .pv (.int .i64 0), .pv (.string ⟨#[]⟩), .pv (.string ⟨#[]⟩), .pv (.int .i64 0), .pv (.int .i64 0)]⟩,
   ⟨none, none, 100001, .store 8 (.t 3) (.t 16)⟩])
 (.seq (.reg [⟨none, some 17, 17, .mv (.t 0)⟩,
   ⟨none, some 18, 18, .mv (.t 0)⟩,
   ⟨none, some 19, 19, .call 74 [5, 0] [(.t 18), (.k (.one (.pv (.int .i64 6))))]⟩,
   ⟨none, some 20, 20, .call 88 [5, 0, 0] [(.t 17), (.t 19), (.k (.one (.pv (.int .i64 4))))]⟩,
   ⟨none, some 21, 21, .faddr (.t 3) 5⟩,
   ⟨none, none, 100002, .store 1 (.t 21) (.t 20)⟩])
 (.seq (.seq (.reg [⟨none, some 22, 22, .faddr (.t 3) 0⟩,
   ⟨none, some 23, 23, .load none (.t 22)⟩])
 (.block 0 (.seq (.seq (.reg [⟨none, some 29, 29, .bin .eql (.t 23) (.k (.one (.pv (.int .i64 1))))⟩,
   ⟨none, some 28, 28, .mv (.t 29)⟩])
 (.cond 28 (.skip) (.seq (.reg [⟨none, some 30, 30, .bin .eql (.t 23) (.k (.one (.pv (.int .i64 3))))⟩,
   ⟨none, some 28, 28, .mv (.t 30)⟩])
 (.cond 28 (.skip) (.reg [⟨none, some 31, 31, .bin .eql (.t 23) (.k (.one (.pv (.int .i64 4))))⟩,
   ⟨none, some 28, 28, .mv (.t 31)⟩])))))
 (.cond 28 (.seq (.reg [⟨none, some 32, 32, .mv (.t 0)⟩,
   ⟨none, some 33, 33, .call 74 [5, 0] [(.t 32), (.k (.one (.pv (.int .i64 2))))]⟩,
   ⟨none, some 34, 34, .bin .add (.k (.one (.pv (.int .i64 1)))) (.t 33)⟩,
   ⟨none, some 35, 35, .faddr (.t 3) 1⟩,
   ⟨none, none, 100003, .store 1 (.t 35) (.t 34)⟩])
 (.reg [⟨none, some 36, 36, .mv (.t 0)⟩,
   ⟨none, some 37, 37, .call 74 [5, 0] [(.t 36), (.k (.one (.pv (.int .i64 2))))]⟩,
   ⟨none, some 38, 38, .bin .add (.k (.one (.pv (.int .i64 3)))) (.t 37)⟩,
   ⟨none, some 39, 39, .faddr (.t 3) 2⟩,
   ⟨none, none, 100004, .store 1 (.t 39) (.t 38)⟩])) (.seq (.seq (.reg [⟨none, some 41, 41, .bin .eql (.t 23) (.k (.one (.pv (.int .i64 2))))⟩,
   ⟨none, some 40, 40, .mv (.t 41)⟩])
 (.cond 40 (.skip) (.reg [⟨none, some 42, 42, .bin .eql (.t 23) (.k (.one (.pv (.int .i64 5))))⟩,
   ⟨none, some 40, 40, .mv (.t 42)⟩])))
 (.cond 40 (.seq (.reg [⟨none, some 43, 43, .mv (.t 0)⟩,
   ⟨none, some 44, 44, .call 74 [5, 0] [(.t 43), (.k (.one (.pv (.int .i64 2))))]⟩,
   ⟨none, some 45, 45, .bin .add (.k (.one (.pv (.int .i64 3)))) (.t 44)⟩,
   ⟨none, some 46, 46, .faddr (.t 3) 1⟩,
   ⟨none, none, 100005, .store 1 (.t 46) (.t 45)⟩])
 (.reg [⟨none, some 47, 47, .mv (.t 0)⟩,
   ⟨none, some 48, 48, .call 74 [5, 0] [(.t 47), (.k (.one (.pv (.int .i64 2))))]⟩,
   ⟨none, some 49, 49, .bin .add (.k (.one (.pv (.int .i64 1)))) (.t 48)⟩,
   ⟨none, some 50, 50, .faddr (.t 3) 2⟩,
   ⟨none, none, 100006, .store 1 (.t 50) (.t 49)⟩])) (.seq (.seq (.reg [⟨none, some 52, 52, .bin .eql (.t 23) (.k (.one (.pv (.int .i64 6))))⟩,
   ⟨none, some 51, 51, .mv (.t 52)⟩])
 (.cond 51 (.skip) (.reg [⟨none, some 53, 53, .bin .eql (.t 23) (.k (.one (.pv (.int .i64 8))))⟩,
   ⟨none, some 51, 51, .mv (.t 53)⟩])))
 (.cond 51 (.reg [⟨none, some 54, 54, .mv (.t 0)⟩,
   ⟨none, some 55, 55, .call 74 [5, 0] [(.t 54), (.k (.one (.pv (.int .i64 2))))]⟩,
   ⟨none, some 56, 56, .bin .add (.k (.one (.pv (.int .i64 3)))) (.t 55)⟩,
   ⟨none, some 57, 57, .faddr (.t 3) 2⟩,
   ⟨none, none, 100007, .store 1 (.t 57) (.t 56)⟩]) (.reg [⟨none, some 24, 24, .mv (.t 0)⟩,
   ⟨none, some 25, 25, .call 74 [5, 0] [(.t 24), (.k (.one (.pv (.int .i64 2))))]⟩,
   ⟨none, some 26, 26, .bin .add (.k (.one (.pv (.int .i64 3)))) (.t 25)⟩,
   ⟨none, some 27, 27, .faddr (.t 3) 1⟩,
   ⟨none, none, 100008, .store 1 (.t 27) (.t 26)⟩])))))))))
 (.seq (.reg [⟨none, some 58, 58, .load (some 8) (.t 3)⟩,
   ⟨none, none, 100009, .store 8 (.t 2) (.t 58)⟩])
 (.ret)))))⟩
abbrev C_s_l16Draw (Te : Nat → List AV → Res → Prop) : Prop := ∀ (c : CurV) (hc : c.ok), ∃ (m : Msg) (d : CurV), (msgS m ∧ d.ok) ∧ Te 72 [.ptr c.enc] ⟨[.agg m.row], [d.enc]⟩
theorem r_s_l16Draw {Te : Nat → List AV → Res → Prop} (c_s_l1Below : C_s_l1Below Te) (c_s_l1Int : C_s_l1Int Te) (c_s_l1Name : C_s_l1Name Te) (c_s_l5Text : C_s_l5Text Te) : ∀ (c : CurV) (hc : c.ok), ∃ r0, (∃ (m : Msg) (d : CurV), (msgS m ∧ d.ok) ∧ r0 = (⟨[.agg m.row], [d.enc]⟩ : Res)) ∧ RunFn Te x_s_l16Draw [.ptr c.enc] r0 := by
  intro c hc
  refine some_of (by simp -implicitDefEqProofs (maxSteps := 1000000) only [x_s_l16Draw, go_sem]) (by rfl) ?_
  simp -implicitDefEqProofs (maxSteps := 1000000) only [x_s_l16Draw, go_sem, true_implies, false_implies]
  repeat (first | refine ⟨rfl, ?_⟩ | refine ⟨by decide, ?_⟩ | refine ⟨⟨by decide, by decide⟩, ?_⟩ | refine ⟨decide_eq_true (by omega), ?_⟩ | refine ⟨⟨decide_eq_true (by omega), decide_eq_true (by omega)⟩, ?_⟩)
  try (first | done | decide | exact decide_eq_true (by omega) | exact ⟨decide_eq_true (by omega), decide_eq_true (by omega)⟩)
  obtain ⟨k, d1, ⟨hk, hd1⟩, ht⟩ := c_s_l1Below c 9 hc
  have hk1 := hk.2.1 (by decide)
  obtain ⟨K, wk⟩ : ∃ K, IntKind.i64.wrap (1 + k) = K := ⟨_, rfl⟩
  refine .of (ht) ?_
  try simp -implicitDefEqProofs (maxSteps := 1000000) only [go_sem, true_implies, false_implies, wk]
  repeat (first | refine ⟨rfl, ?_⟩ | refine ⟨by decide, ?_⟩ | refine ⟨⟨by decide, by decide⟩, ?_⟩ | refine ⟨decide_eq_true (by omega), ?_⟩ | refine ⟨⟨decide_eq_true (by omega), decide_eq_true (by omega)⟩, ?_⟩)
  try (first | done | decide | exact decide_eq_true (by omega) | exact ⟨decide_eq_true (by omega), decide_eq_true (by omega)⟩)
  obtain ⟨sq, d2, ⟨_, hd2⟩, ht⟩ := c_s_l1Int d1 [0, 1, 2, 31, 65535] hd1 (by decide)
  refine .of (ht) ?_
  try simp -implicitDefEqProofs (maxSteps := 1000000) only [go_sem, true_implies, false_implies]
  repeat (first | refine ⟨rfl, ?_⟩ | refine ⟨by decide, ?_⟩ | refine ⟨⟨by decide, by decide⟩, ?_⟩ | refine ⟨decide_eq_true (by omega), ?_⟩ | refine ⟨⟨decide_eq_true (by omega), decide_eq_true (by omega)⟩, ?_⟩)
  try (first | done | decide | exact decide_eq_true (by omega) | exact ⟨decide_eq_true (by omega), decide_eq_true (by omega)⟩)
  obtain ⟨key, d3, ⟨hkey, hd3⟩, ht⟩ := c_s_l1Name d2 hd2
  refine .of (ht) ?_
  try simp -implicitDefEqProofs (maxSteps := 1000000) only [go_sem, true_implies, false_implies]
  repeat (first | refine ⟨rfl, ?_⟩ | refine ⟨by decide, ?_⟩ | refine ⟨⟨by decide, by decide⟩, ?_⟩ | refine ⟨decide_eq_true (by omega), ?_⟩ | refine ⟨⟨decide_eq_true (by omega), decide_eq_true (by omega)⟩, ?_⟩)
  try (first | done | decide | exact decide_eq_true (by omega) | exact ⟨decide_eq_true (by omega), decide_eq_true (by omega)⟩)
  obtain ⟨cd, d4, ⟨_, hd4⟩, ht⟩ := c_s_l1Below d3 7 hd3
  refine .of (ht) ?_
  try simp -implicitDefEqProofs (maxSteps := 1000000) only [go_sem, true_implies, false_implies]
  repeat (first | refine ⟨rfl, ?_⟩ | refine ⟨by decide, ?_⟩ | refine ⟨⟨by decide, by decide⟩, ?_⟩ | refine ⟨decide_eq_true (by omega), ?_⟩ | refine ⟨⟨decide_eq_true (by omega), decide_eq_true (by omega)⟩, ?_⟩)
  try (first | done | decide | exact decide_eq_true (by omega) | exact ⟨decide_eq_true (by omega), decide_eq_true (by omega)⟩)
  obtain ⟨n, d5, ⟨_, hd5⟩, ht⟩ := c_s_l1Below d4 8 hd4
  refine .of (ht) ?_
  try simp -implicitDefEqProofs (maxSteps := 1000000) only [go_sem, true_implies, false_implies]
  repeat (first | refine ⟨rfl, ?_⟩ | refine ⟨by decide, ?_⟩ | refine ⟨⟨by decide, by decide⟩, ?_⟩ | refine ⟨decide_eq_true (by omega), ?_⟩ | refine ⟨⟨decide_eq_true (by omega), decide_eq_true (by omega)⟩, ?_⟩)
  try (first | done | decide | exact decide_eq_true (by omega) | exact ⟨decide_eq_true (by omega), decide_eq_true (by omega)⟩)
  obtain ⟨cs, d6, ⟨_, hd6⟩, ht⟩ := c_s_l1Below d5 6 hd5
  refine .of (ht) ?_
  try simp -implicitDefEqProofs (maxSteps := 1000000) only [go_sem, true_implies, false_implies]
  repeat (first | refine ⟨rfl, ?_⟩ | refine ⟨by decide, ?_⟩ | refine ⟨⟨by decide, by decide⟩, ?_⟩ | refine ⟨decide_eq_true (by omega), ?_⟩ | refine ⟨⟨decide_eq_true (by omega), decide_eq_true (by omega)⟩, ?_⟩)
  try (first | done | decide | exact decide_eq_true (by omega) | exact ⟨decide_eq_true (by omega), decide_eq_true (by omega)⟩)
  obtain ⟨tx, d7, ⟨htx, hd7⟩, ht⟩ := c_s_l5Text d6 cs 4 hd6 (by decide)
  have hS : ∀ a b : Int, msgS ⟨K, a, b, sq, key, tx, n, cd⟩ := fun a b => ⟨by show key.size ≤ 61; omega, by show tx.size ≤ 61; have : tx.size ≤ 4 * 4 := htx; omega⟩
  cases g1 : (K == 1)
  · cases g3 : (K == 3)
    · cases g4 : (K == 4)
      · cases g2 : (K == 2)
        · cases g5 : (K == 5)
          · cases g6 : (K == 6)
            · cases g8 : (K == 8)
              · refine .of (ht) ?_
                try simp -implicitDefEqProofs (maxSteps := 1000000) only [go_sem, true_implies, false_implies, g1, g2, g3, g4, g5, g6, g8]
                repeat (first | refine ⟨rfl, ?_⟩ | refine ⟨by decide, ?_⟩ | refine ⟨⟨by decide, by decide⟩, ?_⟩ | refine ⟨decide_eq_true (by omega), ?_⟩ | refine ⟨⟨decide_eq_true (by omega), decide_eq_true (by omega)⟩, ?_⟩)
                try (first | done | decide | exact decide_eq_true (by omega) | exact ⟨decide_eq_true (by omega), decide_eq_true (by omega)⟩)
                obtain ⟨u, e1, ⟨_, he1⟩, ht⟩ := c_s_l1Below d7 2 hd7
                refine .of (ht) ?_
                try simp -implicitDefEqProofs (maxSteps := 1000000) only [go_sem, true_implies, false_implies]
                repeat (first | refine ⟨rfl, ?_⟩ | refine ⟨by decide, ?_⟩ | refine ⟨⟨by decide, by decide⟩, ?_⟩ | refine ⟨decide_eq_true (by omega), ?_⟩ | refine ⟨⟨decide_eq_true (by omega), decide_eq_true (by omega)⟩, ?_⟩)
                try (first | done | decide | exact decide_eq_true (by omega) | exact ⟨decide_eq_true (by omega), decide_eq_true (by omega)⟩)
                exact ⟨⟨K, IntKind.i64.wrap (3 + u), 0, sq, key, tx, n, cd⟩, e1, ⟨hS _ _, he1⟩, rfl⟩
              · refine .of (ht) ?_
                try simp -implicitDefEqProofs (maxSteps := 1000000) only [go_sem, true_implies, false_implies, g1, g2, g3, g4, g5, g6, g8]
                repeat (first | refine ⟨rfl, ?_⟩ | refine ⟨by decide, ?_⟩ | refine ⟨⟨by decide, by decide⟩, ?_⟩ | refine ⟨decide_eq_true (by omega), ?_⟩ | refine ⟨⟨decide_eq_true (by omega), decide_eq_true (by omega)⟩, ?_⟩)
                try (first | done | decide | exact decide_eq_true (by omega) | exact ⟨decide_eq_true (by omega), decide_eq_true (by omega)⟩)
                obtain ⟨u, e1, ⟨_, he1⟩, ht⟩ := c_s_l1Below d7 2 hd7
                refine .of (ht) ?_
                try simp -implicitDefEqProofs (maxSteps := 1000000) only [go_sem, true_implies, false_implies]
                repeat (first | refine ⟨rfl, ?_⟩ | refine ⟨by decide, ?_⟩ | refine ⟨⟨by decide, by decide⟩, ?_⟩ | refine ⟨decide_eq_true (by omega), ?_⟩ | refine ⟨⟨decide_eq_true (by omega), decide_eq_true (by omega)⟩, ?_⟩)
                try (first | done | decide | exact decide_eq_true (by omega) | exact ⟨decide_eq_true (by omega), decide_eq_true (by omega)⟩)
                exact ⟨⟨K, 0, IntKind.i64.wrap (3 + u), sq, key, tx, n, cd⟩, e1, ⟨hS _ _, he1⟩, rfl⟩
            · refine .of (ht) ?_
              try simp -implicitDefEqProofs (maxSteps := 1000000) only [go_sem, true_implies, false_implies, g1, g2, g3, g4, g5, g6]
              repeat (first | refine ⟨rfl, ?_⟩ | refine ⟨by decide, ?_⟩ | refine ⟨⟨by decide, by decide⟩, ?_⟩ | refine ⟨decide_eq_true (by omega), ?_⟩ | refine ⟨⟨decide_eq_true (by omega), decide_eq_true (by omega)⟩, ?_⟩)
              try (first | done | decide | exact decide_eq_true (by omega) | exact ⟨decide_eq_true (by omega), decide_eq_true (by omega)⟩)
              obtain ⟨u, e1, ⟨_, he1⟩, ht⟩ := c_s_l1Below d7 2 hd7
              refine .of (ht) ?_
              try simp -implicitDefEqProofs (maxSteps := 1000000) only [go_sem, true_implies, false_implies]
              repeat (first | refine ⟨rfl, ?_⟩ | refine ⟨by decide, ?_⟩ | refine ⟨⟨by decide, by decide⟩, ?_⟩ | refine ⟨decide_eq_true (by omega), ?_⟩ | refine ⟨⟨decide_eq_true (by omega), decide_eq_true (by omega)⟩, ?_⟩)
              try (first | done | decide | exact decide_eq_true (by omega) | exact ⟨decide_eq_true (by omega), decide_eq_true (by omega)⟩)
              exact ⟨⟨K, 0, IntKind.i64.wrap (3 + u), sq, key, tx, n, cd⟩, e1, ⟨hS _ _, he1⟩, rfl⟩
          · refine .of (ht) ?_
            try simp -implicitDefEqProofs (maxSteps := 1000000) only [go_sem, true_implies, false_implies, g1, g2, g3, g4, g5]
            repeat (first | refine ⟨rfl, ?_⟩ | refine ⟨by decide, ?_⟩ | refine ⟨⟨by decide, by decide⟩, ?_⟩ | refine ⟨decide_eq_true (by omega), ?_⟩ | refine ⟨⟨decide_eq_true (by omega), decide_eq_true (by omega)⟩, ?_⟩)
            try (first | done | decide | exact decide_eq_true (by omega) | exact ⟨decide_eq_true (by omega), decide_eq_true (by omega)⟩)
            obtain ⟨u, e1, ⟨_, he1⟩, ht⟩ := c_s_l1Below d7 2 hd7
            refine .of (ht) ?_
            try simp -implicitDefEqProofs (maxSteps := 1000000) only [go_sem, true_implies, false_implies]
            repeat (first | refine ⟨rfl, ?_⟩ | refine ⟨by decide, ?_⟩ | refine ⟨⟨by decide, by decide⟩, ?_⟩ | refine ⟨decide_eq_true (by omega), ?_⟩ | refine ⟨⟨decide_eq_true (by omega), decide_eq_true (by omega)⟩, ?_⟩)
            try (first | done | decide | exact decide_eq_true (by omega) | exact ⟨decide_eq_true (by omega), decide_eq_true (by omega)⟩)
            obtain ⟨v, e2, ⟨_, he2⟩, ht⟩ := c_s_l1Below e1 2 he1
            refine .of (ht) ?_
            try simp -implicitDefEqProofs (maxSteps := 1000000) only [go_sem, true_implies, false_implies]
            repeat (first | refine ⟨rfl, ?_⟩ | refine ⟨by decide, ?_⟩ | refine ⟨⟨by decide, by decide⟩, ?_⟩ | refine ⟨decide_eq_true (by omega), ?_⟩ | refine ⟨⟨decide_eq_true (by omega), decide_eq_true (by omega)⟩, ?_⟩)
            try (first | done | decide | exact decide_eq_true (by omega) | exact ⟨decide_eq_true (by omega), decide_eq_true (by omega)⟩)
            exact ⟨⟨K, IntKind.i64.wrap (3 + u), IntKind.i64.wrap (1 + v), sq, key, tx, n, cd⟩, e2, ⟨hS _ _, he2⟩, rfl⟩
        · refine .of (ht) ?_
          try simp -implicitDefEqProofs (maxSteps := 1000000) only [go_sem, true_implies, false_implies, g1, g2, g3, g4]
          repeat (first | refine ⟨rfl, ?_⟩ | refine ⟨by decide, ?_⟩ | refine ⟨⟨by decide, by decide⟩, ?_⟩ | refine ⟨decide_eq_true (by omega), ?_⟩ | refine ⟨⟨decide_eq_true (by omega), decide_eq_true (by omega)⟩, ?_⟩)
          try (first | done | decide | exact decide_eq_true (by omega) | exact ⟨decide_eq_true (by omega), decide_eq_true (by omega)⟩)
          obtain ⟨u, e1, ⟨_, he1⟩, ht⟩ := c_s_l1Below d7 2 hd7
          refine .of (ht) ?_
          try simp -implicitDefEqProofs (maxSteps := 1000000) only [go_sem, true_implies, false_implies]
          repeat (first | refine ⟨rfl, ?_⟩ | refine ⟨by decide, ?_⟩ | refine ⟨⟨by decide, by decide⟩, ?_⟩ | refine ⟨decide_eq_true (by omega), ?_⟩ | refine ⟨⟨decide_eq_true (by omega), decide_eq_true (by omega)⟩, ?_⟩)
          try (first | done | decide | exact decide_eq_true (by omega) | exact ⟨decide_eq_true (by omega), decide_eq_true (by omega)⟩)
          obtain ⟨v, e2, ⟨_, he2⟩, ht⟩ := c_s_l1Below e1 2 he1
          refine .of (ht) ?_
          try simp -implicitDefEqProofs (maxSteps := 1000000) only [go_sem, true_implies, false_implies]
          repeat (first | refine ⟨rfl, ?_⟩ | refine ⟨by decide, ?_⟩ | refine ⟨⟨by decide, by decide⟩, ?_⟩ | refine ⟨decide_eq_true (by omega), ?_⟩ | refine ⟨⟨decide_eq_true (by omega), decide_eq_true (by omega)⟩, ?_⟩)
          try (first | done | decide | exact decide_eq_true (by omega) | exact ⟨decide_eq_true (by omega), decide_eq_true (by omega)⟩)
          exact ⟨⟨K, IntKind.i64.wrap (3 + u), IntKind.i64.wrap (1 + v), sq, key, tx, n, cd⟩, e2, ⟨hS _ _, he2⟩, rfl⟩
      · refine .of (ht) ?_
        try simp -implicitDefEqProofs (maxSteps := 1000000) only [go_sem, true_implies, false_implies, g1, g3, g4]
        repeat (first | refine ⟨rfl, ?_⟩ | refine ⟨by decide, ?_⟩ | refine ⟨⟨by decide, by decide⟩, ?_⟩ | refine ⟨decide_eq_true (by omega), ?_⟩ | refine ⟨⟨decide_eq_true (by omega), decide_eq_true (by omega)⟩, ?_⟩)
        try (first | done | decide | exact decide_eq_true (by omega) | exact ⟨decide_eq_true (by omega), decide_eq_true (by omega)⟩)
        obtain ⟨u, e1, ⟨_, he1⟩, ht⟩ := c_s_l1Below d7 2 hd7
        refine .of (ht) ?_
        try simp -implicitDefEqProofs (maxSteps := 1000000) only [go_sem, true_implies, false_implies]
        repeat (first | refine ⟨rfl, ?_⟩ | refine ⟨by decide, ?_⟩ | refine ⟨⟨by decide, by decide⟩, ?_⟩ | refine ⟨decide_eq_true (by omega), ?_⟩ | refine ⟨⟨decide_eq_true (by omega), decide_eq_true (by omega)⟩, ?_⟩)
        try (first | done | decide | exact decide_eq_true (by omega) | exact ⟨decide_eq_true (by omega), decide_eq_true (by omega)⟩)
        obtain ⟨v, e2, ⟨_, he2⟩, ht⟩ := c_s_l1Below e1 2 he1
        refine .of (ht) ?_
        try simp -implicitDefEqProofs (maxSteps := 1000000) only [go_sem, true_implies, false_implies]
        repeat (first | refine ⟨rfl, ?_⟩ | refine ⟨by decide, ?_⟩ | refine ⟨⟨by decide, by decide⟩, ?_⟩ | refine ⟨decide_eq_true (by omega), ?_⟩ | refine ⟨⟨decide_eq_true (by omega), decide_eq_true (by omega)⟩, ?_⟩)
        try (first | done | decide | exact decide_eq_true (by omega) | exact ⟨decide_eq_true (by omega), decide_eq_true (by omega)⟩)
        exact ⟨⟨K, IntKind.i64.wrap (1 + u), IntKind.i64.wrap (3 + v), sq, key, tx, n, cd⟩, e2, ⟨hS _ _, he2⟩, rfl⟩
    · refine .of (ht) ?_
      try simp -implicitDefEqProofs (maxSteps := 1000000) only [go_sem, true_implies, false_implies, g1, g3]
      repeat (first | refine ⟨rfl, ?_⟩ | refine ⟨by decide, ?_⟩ | refine ⟨⟨by decide, by decide⟩, ?_⟩ | refine ⟨decide_eq_true (by omega), ?_⟩ | refine ⟨⟨decide_eq_true (by omega), decide_eq_true (by omega)⟩, ?_⟩)
      try (first | done | decide | exact decide_eq_true (by omega) | exact ⟨decide_eq_true (by omega), decide_eq_true (by omega)⟩)
      obtain ⟨u, e1, ⟨_, he1⟩, ht⟩ := c_s_l1Below d7 2 hd7
      refine .of (ht) ?_
      try simp -implicitDefEqProofs (maxSteps := 1000000) only [go_sem, true_implies, false_implies]
      repeat (first | refine ⟨rfl, ?_⟩ | refine ⟨by decide, ?_⟩ | refine ⟨⟨by decide, by decide⟩, ?_⟩ | refine ⟨decide_eq_true (by omega), ?_⟩ | refine ⟨⟨decide_eq_true (by omega), decide_eq_true (by omega)⟩, ?_⟩)
      try (first | done | decide | exact decide_eq_true (by omega) | exact ⟨decide_eq_true (by omega), decide_eq_true (by omega)⟩)
      obtain ⟨v, e2, ⟨_, he2⟩, ht⟩ := c_s_l1Below e1 2 he1
      refine .of (ht) ?_
      try simp -implicitDefEqProofs (maxSteps := 1000000) only [go_sem, true_implies, false_implies]
      repeat (first | refine ⟨rfl, ?_⟩ | refine ⟨by decide, ?_⟩ | refine ⟨⟨by decide, by decide⟩, ?_⟩ | refine ⟨decide_eq_true (by omega), ?_⟩ | refine ⟨⟨decide_eq_true (by omega), decide_eq_true (by omega)⟩, ?_⟩)
      try (first | done | decide | exact decide_eq_true (by omega) | exact ⟨decide_eq_true (by omega), decide_eq_true (by omega)⟩)
      exact ⟨⟨K, IntKind.i64.wrap (1 + u), IntKind.i64.wrap (3 + v), sq, key, tx, n, cd⟩, e2, ⟨hS _ _, he2⟩, rfl⟩
  · refine .of (ht) ?_
    try simp -implicitDefEqProofs (maxSteps := 1000000) only [go_sem, true_implies, false_implies, g1]
    repeat (first | refine ⟨rfl, ?_⟩ | refine ⟨by decide, ?_⟩ | refine ⟨⟨by decide, by decide⟩, ?_⟩ | refine ⟨decide_eq_true (by omega), ?_⟩ | refine ⟨⟨decide_eq_true (by omega), decide_eq_true (by omega)⟩, ?_⟩)
    try (first | done | decide | exact decide_eq_true (by omega) | exact ⟨decide_eq_true (by omega), decide_eq_true (by omega)⟩)
    obtain ⟨u, e1, ⟨_, he1⟩, ht⟩ := c_s_l1Below d7 2 hd7
    refine .of (ht) ?_
    try simp -implicitDefEqProofs (maxSteps := 1000000) only [go_sem, true_implies, false_implies]
    repeat (first | refine ⟨rfl, ?_⟩ | refine ⟨by decide, ?_⟩ | refine ⟨⟨by decide, by decide⟩, ?_⟩ | refine ⟨decide_eq_true (by omega), ?_⟩ | refine ⟨⟨decide_eq_true (by omega), decide_eq_true (by omega)⟩, ?_⟩)
    try (first | done | decide | exact decide_eq_true (by omega) | exact ⟨decide_eq_true (by omega), decide_eq_true (by omega)⟩)
    obtain ⟨v, e2, ⟨_, he2⟩, ht⟩ := c_s_l1Below e1 2 he1
    refine .of (ht) ?_
    try simp -implicitDefEqProofs (maxSteps := 1000000) only [go_sem, true_implies, false_implies]
    repeat (first | refine ⟨rfl, ?_⟩ | refine ⟨by decide, ?_⟩ | refine ⟨⟨by decide, by decide⟩, ?_⟩ | refine ⟨decide_eq_true (by omega), ?_⟩ | refine ⟨⟨decide_eq_true (by omega), decide_eq_true (by omega)⟩, ?_⟩)
    try (first | done | decide | exact decide_eq_true (by omega) | exact ⟨decide_eq_true (by omega), decide_eq_true (by omega)⟩)
    exact ⟨⟨K, IntKind.i64.wrap (1 + u), IntKind.i64.wrap (3 + v), sq, key, tx, n, cd⟩, e2, ⟨hS _ _, he2⟩, rfl⟩
end Go.X

/- Uc -/
namespace Go.X
set_option maxRecDepth 100000
set_option maxHeartbeats 8000000
abbrev zeroL (u : Int) : List (List T) := lentLL (List.take (60 + u).toNat (List.replicate (60 + u).toNat [Tr.pv (Value.int IntKind.u8 0)]))
theorem zero60 {u : Int} (h : 0 ≤ u) (h1 : u < 2) : (decide ((60 + u).toNat ≤ (60 + u).toNat) = true ∧ wholeLL (List.take (60 + u).toNat (List.replicate (60 + u).toNat [(Tr.pv (Value.int IntKind.u8 0) : T)])) = true) ∧ areBytes (zeroL u) = true ∧ (bytesOf (zeroL u)).length ≤ 61 := by
  rcases (show u = 0 ∨ u = 1 by omega) with rfl | rfl
  · exact ⟨⟨rfl, rfl⟩, rfl, by decide⟩
  · exact ⟨⟨rfl, rfl⟩, rfl, by decide⟩
def x_s_l16Any : FnX := ⟨60, [.cell 2 (some 8)],
  .seq (.reg [⟨none, some 2, 2, .alloc [.pv (.int .i64 0), .pv (.int .i64 0), .pv (.int .i64 0), .pv (.int .i64 0), .pv (.string ⟨#[]⟩), .pv (.string ⟨#[]⟩), .pv (.int .i64 0), .pv (.int .i64 0)]⟩])
 (.seq (.reg [⟨none, some 4, 4, .mv (.t 0)⟩,
   ⟨none, some 5, 5, .call 72 [5] [(.t 4)]⟩,
   ⟨none, some 3, 3, .alloc [.pv (.int .i64 0), .pv (.int .i64 0), .pv (.int .i64 0), .pv (.int .i64 0), .pv (.string ⟨#[]⟩), .pv (.string ⟨#[]⟩), .pv (.int .i64 0), .pv (.int .i64 0)]⟩,
   ⟨none, none, 100001, .store 8 (.t 3) (.t 5)⟩])
 (.seq (.seq (.reg [⟨none, some 6, 6, .mv (.t 0)⟩,
   ⟨none, some 7, 7, .call 74 [5, 0] [(.t 6), (.k (.one (.pv (.int .i64 14))))]⟩])
 (.block 0 (.seq (.reg [⟨none, some 9, 9, .bin .eql (.t 7) (.k (.one (.pv (.int .i64 0))))⟩,
   ⟨none, some 8, 8, .mv (.t 9)⟩])
 (.cond 8 (.reg [⟨none, some 10, 10, .mv (.t 0)⟩,
   ⟨none, some 11, 11, .bslice 1 [(.k (.one (.pv (.int .i64 0)))), (.k (.one (.pv (.int .i64 10)))), (.k (.one (.pv (.int .i64 1)))), (.k (.one (.pv (.int .i64 3))))]⟩,
   ⟨none, some 12, 12, .call 66 [5, 1] [(.t 10), (.t 11)]⟩,
   ⟨none, some 13, 13, .faddr (.t 3) 0⟩,
   ⟨none, none, 100002, .store 1 (.t 13) (.t 12)⟩]) (.seq (.reg [⟨none, some 15, 15, .bin .eql (.t 7) (.k (.one (.pv (.int .i64 1))))⟩,
   ⟨none, some 14, 14, .mv (.t 15)⟩])
 (.cond 14 (.reg [⟨none, some 16, 16, .mv (.t 0)⟩,
   ⟨none, some 17, 17, .bslice 1 [(.k (.one (.pv (.int .i64 (-1))))), (.k (.one (.pv (.int .i64 0)))), (.k (.one (.pv (.int .i64 4)))), (.k (.one (.pv (.int .i64 5))))]⟩,
   ⟨none, some 18, 18, .call 66 [5, 1] [(.t 16), (.t 17)]⟩,
   ⟨none, some 19, 19, .faddr (.t 3) 1⟩,
   ⟨none, none, 100003, .store 1 (.t 19) (.t 18)⟩]) (.seq (.reg [⟨none, some 21, 21, .bin .eql (.t 7) (.k (.one (.pv (.int .i64 2))))⟩,
   ⟨none, some 20, 20, .mv (.t 21)⟩])
 (.cond 20 (.reg [⟨none, some 22, 22, .mv (.t 0)⟩,
   ⟨none, some 23, 23, .bslice 1 [(.k (.one (.pv (.int .i64 (-1))))), (.k (.one (.pv (.int .i64 0)))), (.k (.one (.pv (.int .i64 4)))), (.k (.one (.pv (.int .i64 5))))]⟩,
   ⟨none, some 24, 24, .call 66 [5, 1] [(.t 22), (.t 23)]⟩,
   ⟨none, some 25, 25, .faddr (.t 3) 2⟩,
   ⟨none, none, 100004, .store 1 (.t 25) (.t 24)⟩]) (.seq (.reg [⟨none, some 27, 27, .bin .eql (.t 7) (.k (.one (.pv (.int .i64 3))))⟩,
   ⟨none, some 26, 26, .mv (.t 27)⟩])
 (.cond 26 (.reg [⟨none, some 28, 28, .mv (.t 0)⟩,
   ⟨none, some 29, 29, .call 84 [5] [(.t 28)]⟩,
   ⟨none, some 30, 30, .faddr (.t 3) 3⟩,
   ⟨none, none, 100005, .store 1 (.t 30) (.t 29)⟩]) (.seq (.reg [⟨none, some 32, 32, .bin .eql (.t 7) (.k (.one (.pv (.int .i64 4))))⟩,
   ⟨none, some 31, 31, .mv (.t 32)⟩])
 (.cond 31 (.reg [⟨none, some 33, 33, .mv (.t 0)⟩,
   ⟨none, some 34, 34, .call 74 [5, 0] [(.t 33), (.k (.one (.pv (.int .i64 2))))]⟩,
   ⟨none, some 35, 35, .bin .add (.k (.one (.pv (.int .i64 60)))) (.t 34)⟩,
   ⟨none, some 36, 36, .mks 1 1 [.pv (.int .u8 0)] (.t 35)⟩,
   ⟨none, some 37, 37, .conv .b2s (.t 36)⟩,
   ⟨none, some 38, 38, .faddr (.t 3) 4⟩,
   ⟨none, none, 100006, .store 1 (.t 38) (.t 37)⟩]) (.seq (.reg [⟨none, some 40, 40, .bin .eql (.t 7) (.k (.one (.pv (.int .i64 5))))⟩,
   ⟨none, some 39, 39, .mv (.t 40)⟩])
 (.cond 39 (.reg [⟨none, some 41, 41, .mv (.t 0)⟩,
   ⟨none, some 42, 42, .call 74 [5, 0] [(.t 41), (.k (.one (.pv (.int .i64 2))))]⟩,
   ⟨none, some 43, 43, .bin .add (.k (.one (.pv (.int .i64 60)))) (.t 42)⟩,
   ⟨none, some 44, 44, .mks 1 1 [.pv (.int .u8 0)] (.t 43)⟩,
   ⟨none, some 45, 45, .conv .b2s (.t 44)⟩,
   ⟨none, some 46, 46, .faddr (.t 3) 5⟩,
   ⟨none, none, 100007, .store 1 (.t 46) (.t 45)⟩]) (.seq (.reg [⟨none, some 48, 48, .bin .eql (.t 7) (.k (.one (.pv (.int .i64 6))))⟩,
   ⟨none, some 47, 47, .mv (.t 48)⟩])
 (.cond 47 (.reg [⟨none, some 49, 49, .mv (.t 0)⟩,
   ⟨none, some 50, 50, .bslice 1 [(.k (.one (.pv (.int .i64 (-1))))), (.k (.one (.pv (.int .i64 255)))), (.k (.one (.pv (.int .i64 256))))]⟩,
   ⟨none, some 51, 51, .call 66 [5, 1] [(.t 49), (.t 50)]⟩,
   ⟨none, some 52, 52, .faddr (.t 3) 6⟩,
   ⟨none, none, 100008, .store 1 (.t 52) (.t 51)⟩]) (.seq (.reg [⟨none, some 54, 54, .bin .eql (.t 7) (.k (.one (.pv (.int .i64 7))))⟩,
   ⟨none, some 53, 53, .mv (.t 54)⟩])
 (.cond 53 (.reg [⟨none, some 55, 55, .mv (.t 0)⟩,
   ⟨none, some 56, 56, .bslice 1 [(.k (.one (.pv (.int .i64 (-1))))), (.k (.one (.pv (.int .i64 6)))), (.k (.one (.pv (.int .i64 7))))]⟩,
   ⟨none, some 57, 57, .call 66 [5, 1] [(.t 55), (.t 56)]⟩,
   ⟨none, some 58, 58, .faddr (.t 3) 7⟩,
   ⟨none, none, 100009, .store 1 (.t 58) (.t 57)⟩]) (.skip)))))))))))))))))))
 (.seq (.reg [⟨none, some 59, 59, .load (some 8) (.t 3)⟩,
   ⟨none, none, 100010, .store 8 (.t 2) (.t 59)⟩])
 (.ret))))⟩
abbrev C_s_l16Any (Te : Nat → List AV → Res → Prop) : Prop := ∀ (c : CurV) (hc : c.ok), ∃ (m : Msg) (d : CurV), (msgS m ∧ d.ok) ∧ Te 63 [.ptr c.enc] ⟨[.agg m.row], [d.enc]⟩
theorem r_s_l16Any {Te : Nat → List AV → Res → Prop} (c_s_l16Draw : C_s_l16Draw Te) (c_s_l1Below : C_s_l1Below Te) (c_s_l1Int : C_s_l1Int Te) (c_s_l1Num : C_s_l1Num Te) : ∀ (c : CurV) (hc : c.ok), ∃ r0, (∃ (m : Msg) (d : CurV), (msgS m ∧ d.ok) ∧ r0 = (⟨[.agg m.row], [d.enc]⟩ : Res)) ∧ RunFn Te x_s_l16Any [.ptr c.enc] r0 := by
  intro c hc
  refine some_of (by simp -implicitDefEqProofs (maxSteps := 1000000) only [x_s_l16Any, go_sem]) (by rfl) ?_
  simp -implicitDefEqProofs (maxSteps := 1000000) only [x_s_l16Any, go_sem, true_implies, false_implies]
  repeat (first | refine ⟨rfl, ?_⟩ | refine ⟨by decide, ?_⟩ | refine ⟨⟨by decide, by decide⟩, ?_⟩ | refine ⟨decide_eq_true (by omega), ?_⟩ | refine ⟨⟨decide_eq_true (by omega), decide_eq_true (by omega)⟩, ?_⟩)
  try (first | done | decide | exact decide_eq_true (by omega) | exact ⟨decide_eq_true (by omega), decide_eq_true (by omega)⟩)
  obtain ⟨m, d0, ⟨⟨hk, htx⟩, hd0⟩, ht⟩ := c_s_l16Draw c hc
  refine .of (ht) ?_
  try simp -implicitDefEqProofs (maxSteps := 1000000) only [go_sem, true_implies, false_implies]
  repeat (first | refine ⟨rfl, ?_⟩ | refine ⟨by decide, ?_⟩ | refine ⟨⟨by decide, by decide⟩, ?_⟩ | refine ⟨decide_eq_true (by omega), ?_⟩ | refine ⟨⟨decide_eq_true (by omega), decide_eq_true (by omega)⟩, ?_⟩)
  try (first | done | decide | exact decide_eq_true (by omega) | exact ⟨decide_eq_true (by omega), decide_eq_true (by omega)⟩)
  obtain ⟨k, d, ⟨⟨hk0, hk1, _⟩, hd⟩, ht⟩ := c_s_l1Below d0 14 hd0
  have hk14 := hk1 (by decide)
  by_cases h0 : k = 0
  · subst h0
    refine .of (ht) ?_
    try simp -implicitDefEqProofs (maxSteps := 1000000) only [go_sem, true_implies, false_implies]
    repeat (first | refine ⟨rfl, ?_⟩ | refine ⟨by decide, ?_⟩ | refine ⟨⟨by decide, by decide⟩, ?_⟩ | refine ⟨decide_eq_true (by omega), ?_⟩ | refine ⟨⟨decide_eq_true (by omega), decide_eq_true (by omega)⟩, ?_⟩)
    try (first | done | decide | exact decide_eq_true (by omega) | exact ⟨decide_eq_true (by omega), decide_eq_true (by omega)⟩)
    obtain ⟨r, d, ⟨_, hd⟩, ht⟩ := c_s_l1Int d [0, 10, 1, 3] hd (by decide)
    refine .of (ht) ?_
    try simp -implicitDefEqProofs (maxSteps := 1000000) only [go_sem, true_implies, false_implies]
    repeat (first | refine ⟨rfl, ?_⟩ | refine ⟨by decide, ?_⟩ | refine ⟨⟨by decide, by decide⟩, ?_⟩ | refine ⟨decide_eq_true (by omega), ?_⟩ | refine ⟨⟨decide_eq_true (by omega), decide_eq_true (by omega)⟩, ?_⟩)
    try (first | done | decide | exact decide_eq_true (by omega) | exact ⟨decide_eq_true (by omega), decide_eq_true (by omega)⟩)
    exact ⟨⟨r, m.From, m.To, m.Seq, m.Key, m.Text, m.N, m.Code⟩, d, ⟨⟨hk, htx⟩, hd⟩, rfl⟩
  by_cases h1 : k = 1
  · subst h1
    refine .of (ht) ?_
    try simp -implicitDefEqProofs (maxSteps := 1000000) only [go_sem, true_implies, false_implies]
    repeat (first | refine ⟨rfl, ?_⟩ | refine ⟨by decide, ?_⟩ | refine ⟨⟨by decide, by decide⟩, ?_⟩ | refine ⟨decide_eq_true (by omega), ?_⟩ | refine ⟨⟨decide_eq_true (by omega), decide_eq_true (by omega)⟩, ?_⟩)
    try (first | done | decide | exact decide_eq_true (by omega) | exact ⟨decide_eq_true (by omega), decide_eq_true (by omega)⟩)
    obtain ⟨r, d, ⟨_, hd⟩, ht⟩ := c_s_l1Int d [-1, 0, 4, 5] hd (by decide)
    refine .of (ht) ?_
    try simp -implicitDefEqProofs (maxSteps := 1000000) only [go_sem, true_implies, false_implies]
    repeat (first | refine ⟨rfl, ?_⟩ | refine ⟨by decide, ?_⟩ | refine ⟨⟨by decide, by decide⟩, ?_⟩ | refine ⟨decide_eq_true (by omega), ?_⟩ | refine ⟨⟨decide_eq_true (by omega), decide_eq_true (by omega)⟩, ?_⟩)
    try (first | done | decide | exact decide_eq_true (by omega) | exact ⟨decide_eq_true (by omega), decide_eq_true (by omega)⟩)
    exact ⟨⟨m.Kind, r, m.To, m.Seq, m.Key, m.Text, m.N, m.Code⟩, d, ⟨⟨hk, htx⟩, hd⟩, rfl⟩
  by_cases h2 : k = 2
  · subst h2
    refine .of (ht) ?_
    try simp -implicitDefEqProofs (maxSteps := 1000000) only [go_sem, true_implies, false_implies]
    repeat (first | refine ⟨rfl, ?_⟩ | refine ⟨by decide, ?_⟩ | refine ⟨⟨by decide, by decide⟩, ?_⟩ | refine ⟨decide_eq_true (by omega), ?_⟩ | refine ⟨⟨decide_eq_true (by omega), decide_eq_true (by omega)⟩, ?_⟩)
    try (first | done | decide | exact decide_eq_true (by omega) | exact ⟨decide_eq_true (by omega), decide_eq_true (by omega)⟩)
    obtain ⟨r, d, ⟨_, hd⟩, ht⟩ := c_s_l1Int d [-1, 0, 4, 5] hd (by decide)
    refine .of (ht) ?_
    try simp -implicitDefEqProofs (maxSteps := 1000000) only [go_sem, true_implies, false_implies]
    repeat (first | refine ⟨rfl, ?_⟩ | refine ⟨by decide, ?_⟩ | refine ⟨⟨by decide, by decide⟩, ?_⟩ | refine ⟨decide_eq_true (by omega), ?_⟩ | refine ⟨⟨decide_eq_true (by omega), decide_eq_true (by omega)⟩, ?_⟩)
    try (first | done | decide | exact decide_eq_true (by omega) | exact ⟨decide_eq_true (by omega), decide_eq_true (by omega)⟩)
    exact ⟨⟨m.Kind, m.From, r, m.Seq, m.Key, m.Text, m.N, m.Code⟩, d, ⟨⟨hk, htx⟩, hd⟩, rfl⟩
  by_cases h3 : k = 3
  · subst h3
    refine .of (ht) ?_
    try simp -implicitDefEqProofs (maxSteps := 1000000) only [go_sem, true_implies, false_implies]
    repeat (first | refine ⟨rfl, ?_⟩ | refine ⟨by decide, ?_⟩ | refine ⟨⟨by decide, by decide⟩, ?_⟩ | refine ⟨decide_eq_true (by omega), ?_⟩ | refine ⟨⟨decide_eq_true (by omega), decide_eq_true (by omega)⟩, ?_⟩)
    try (first | done | decide | exact decide_eq_true (by omega) | exact ⟨decide_eq_true (by omega), decide_eq_true (by omega)⟩)
    obtain ⟨r, d, hd, ht⟩ := c_s_l1Num d hd
    refine .of (ht) ?_
    try simp -implicitDefEqProofs (maxSteps := 1000000) only [go_sem, true_implies, false_implies]
    repeat (first | refine ⟨rfl, ?_⟩ | refine ⟨by decide, ?_⟩ | refine ⟨⟨by decide, by decide⟩, ?_⟩ | refine ⟨decide_eq_true (by omega), ?_⟩ | refine ⟨⟨decide_eq_true (by omega), decide_eq_true (by omega)⟩, ?_⟩)
    try (first | done | decide | exact decide_eq_true (by omega) | exact ⟨decide_eq_true (by omega), decide_eq_true (by omega)⟩)
    exact ⟨⟨m.Kind, m.From, m.To, r, m.Key, m.Text, m.N, m.Code⟩, d, ⟨⟨hk, htx⟩, hd⟩, rfl⟩
  by_cases h4 : k = 4
  · subst h4
    refine .of (ht) ?_
    try simp -implicitDefEqProofs (maxSteps := 1000000) only [go_sem, true_implies, false_implies]
    repeat (first | refine ⟨rfl, ?_⟩ | refine ⟨by decide, ?_⟩ | refine ⟨⟨by decide, by decide⟩, ?_⟩ | refine ⟨decide_eq_true (by omega), ?_⟩ | refine ⟨⟨decide_eq_true (by omega), decide_eq_true (by omega)⟩, ?_⟩)
    try (first | done | decide | exact decide_eq_true (by omega) | exact ⟨decide_eq_true (by omega), decide_eq_true (by omega)⟩)
    obtain ⟨u, d, ⟨hu, hd⟩, ht⟩ := c_s_l1Below d 2 hd
    have hu1 := hu.2.1 (by decide)
    have wu : IntKind.i64.wrap (60 + u) = 60 + u := IntWalk.i64_in _ (by omega)
    have z := zero60 hu.1 hu1
    refine .of (ht) ?_
    try simp -implicitDefEqProofs (maxSteps := 1000000) only [go_sem, true_implies, false_implies, wu]
    repeat (first | refine ⟨rfl, ?_⟩ | refine ⟨by decide, ?_⟩ | refine ⟨⟨by decide, by decide⟩, ?_⟩ | refine ⟨decide_eq_true (by omega), ?_⟩ | refine ⟨⟨decide_eq_true (by omega), decide_eq_true (by omega)⟩, ?_⟩)
    try (first | done | decide | exact decide_eq_true (by omega) | exact ⟨decide_eq_true (by omega), decide_eq_true (by omega)⟩)
    exact ⟨z.1, z.2.1, ⟨m.Kind, m.From, m.To, m.Seq, ⟨(bytesOf (zeroL u)).toArray⟩, m.Text, m.N, m.Code⟩, d, ⟨⟨z.2.2, htx⟩, hd⟩, rfl⟩
  by_cases h5 : k = 5
  · subst h5
    refine .of (ht) ?_
    try simp -implicitDefEqProofs (maxSteps := 1000000) only [go_sem, true_implies, false_implies]
    repeat (first | refine ⟨rfl, ?_⟩ | refine ⟨by decide, ?_⟩ | refine ⟨⟨by decide, by decide⟩, ?_⟩ | refine ⟨decide_eq_true (by omega), ?_⟩ | refine ⟨⟨decide_eq_true (by omega), decide_eq_true (by omega)⟩, ?_⟩)
    try (first | done | decide | exact decide_eq_true (by omega) | exact ⟨decide_eq_true (by omega), decide_eq_true (by omega)⟩)
    obtain ⟨u, d, ⟨hu, hd⟩, ht⟩ := c_s_l1Below d 2 hd
    have hu1 := hu.2.1 (by decide)
    have wu : IntKind.i64.wrap (60 + u) = 60 + u := IntWalk.i64_in _ (by omega)
    have z := zero60 hu.1 hu1
    refine .of (ht) ?_
    try simp -implicitDefEqProofs (maxSteps := 1000000) only [go_sem, true_implies, false_implies, wu]
    repeat (first | refine ⟨rfl, ?_⟩ | refine ⟨by decide, ?_⟩ | refine ⟨⟨by decide, by decide⟩, ?_⟩ | refine ⟨decide_eq_true (by omega), ?_⟩ | refine ⟨⟨decide_eq_true (by omega), decide_eq_true (by omega)⟩, ?_⟩)
    try (first | done | decide | exact decide_eq_true (by omega) | exact ⟨decide_eq_true (by omega), decide_eq_true (by omega)⟩)
    exact ⟨z.1, z.2.1, ⟨m.Kind, m.From, m.To, m.Seq, m.Key, ⟨(bytesOf (zeroL u)).toArray⟩, m.N, m.Code⟩, d, ⟨⟨hk, z.2.2⟩, hd⟩, rfl⟩
  by_cases h6 : k = 6
  · subst h6
    refine .of (ht) ?_
    try simp -implicitDefEqProofs (maxSteps := 1000000) only [go_sem, true_implies, false_implies]
    repeat (first | refine ⟨rfl, ?_⟩ | refine ⟨by decide, ?_⟩ | refine ⟨⟨by decide, by decide⟩, ?_⟩ | refine ⟨decide_eq_true (by omega), ?_⟩ | refine ⟨⟨decide_eq_true (by omega), decide_eq_true (by omega)⟩, ?_⟩)
    try (first | done | decide | exact decide_eq_true (by omega) | exact ⟨decide_eq_true (by omega), decide_eq_true (by omega)⟩)
    obtain ⟨r, d, ⟨_, hd⟩, ht⟩ := c_s_l1Int d [-1, 255, 256] hd (by decide)
    refine .of (ht) ?_
    try simp -implicitDefEqProofs (maxSteps := 1000000) only [go_sem, true_implies, false_implies]
    repeat (first | refine ⟨rfl, ?_⟩ | refine ⟨by decide, ?_⟩ | refine ⟨⟨by decide, by decide⟩, ?_⟩ | refine ⟨decide_eq_true (by omega), ?_⟩ | refine ⟨⟨decide_eq_true (by omega), decide_eq_true (by omega)⟩, ?_⟩)
    try (first | done | decide | exact decide_eq_true (by omega) | exact ⟨decide_eq_true (by omega), decide_eq_true (by omega)⟩)
    exact ⟨⟨m.Kind, m.From, m.To, m.Seq, m.Key, m.Text, r, m.Code⟩, d, ⟨⟨hk, htx⟩, hd⟩, rfl⟩
  by_cases h7 : k = 7
  · subst h7
    refine .of (ht) ?_
    try simp -implicitDefEqProofs (maxSteps := 1000000) only [go_sem, true_implies, false_implies]
    repeat (first | refine ⟨rfl, ?_⟩ | refine ⟨by decide, ?_⟩ | refine ⟨⟨by decide, by decide⟩, ?_⟩ | refine ⟨decide_eq_true (by omega), ?_⟩ | refine ⟨⟨decide_eq_true (by omega), decide_eq_true (by omega)⟩, ?_⟩)
    try (first | done | decide | exact decide_eq_true (by omega) | exact ⟨decide_eq_true (by omega), decide_eq_true (by omega)⟩)
    obtain ⟨r, d, ⟨_, hd⟩, ht⟩ := c_s_l1Int d [-1, 6, 7] hd (by decide)
    refine .of (ht) ?_
    try simp -implicitDefEqProofs (maxSteps := 1000000) only [go_sem, true_implies, false_implies]
    repeat (first | refine ⟨rfl, ?_⟩ | refine ⟨by decide, ?_⟩ | refine ⟨⟨by decide, by decide⟩, ?_⟩ | refine ⟨decide_eq_true (by omega), ?_⟩ | refine ⟨⟨decide_eq_true (by omega), decide_eq_true (by omega)⟩, ?_⟩)
    try (first | done | decide | exact decide_eq_true (by omega) | exact ⟨decide_eq_true (by omega), decide_eq_true (by omega)⟩)
    exact ⟨⟨m.Kind, m.From, m.To, m.Seq, m.Key, m.Text, m.N, r⟩, d, ⟨⟨hk, htx⟩, hd⟩, rfl⟩
  have e : ∀ j : Int, k ≠ j → (k == j) = false := fun j h => by simpa using h
  refine .of (ht) ?_
  try simp -implicitDefEqProofs (maxSteps := 1000000) only [go_sem, true_implies, false_implies, e 0 h0, e 1 h1, e 2 h2, e 3 h3, e 4 h4, e 5 h5, e 6 h6, e 7 h7]
  repeat (first | refine ⟨rfl, ?_⟩ | refine ⟨by decide, ?_⟩ | refine ⟨⟨by decide, by decide⟩, ?_⟩ | refine ⟨decide_eq_true (by omega), ?_⟩ | refine ⟨⟨decide_eq_true (by omega), decide_eq_true (by omega)⟩, ?_⟩)
  try (first | done | decide | exact decide_eq_true (by omega) | exact ⟨decide_eq_true (by omega), decide_eq_true (by omega)⟩)
  exact ⟨m, d, ⟨⟨hk, htx⟩, hd⟩, rfl⟩
end Go.X

/- Uk -/
namespace Go.X
set_option maxRecDepth 100000
set_option maxHeartbeats 8000000
theorem sumBit_inj {s t : Nat} (h : sumBit s = sumBit t) : s = t := by
  have par : ∀ a b : Nat, 2 * a ^^^ 69665 = 2 * b → False := by
    intro a b e
    have : (2 * a ^^^ 69665).testBit 0 = (2 * b).testBit 0 := by rw [e]
    have h1 : (2 * a) % 2 = 0 := by omega
    have h2 : (2 * b) % 2 = 0 := by omega
    rw [Nat.testBit_xor, Nat.testBit_zero, Nat.testBit_zero, Nat.testBit_zero, h1, h2] at this
    revert this
    decide
  unfold sumBit at h
  split at h <;> split at h
  · have := congrArg (fun z => z ^^^ 69665) h
    simp only [Nat.xor_assoc, Nat.xor_self, Nat.xor_zero] at this
    omega
  · exact (par _ _ h).elim
  · exact (par _ _ h.symm).elim
  · omega
theorem sumBits_inj {s t : Nat} : ∀ n, sumBits n s = sumBits n t → s = t
  | 0, h => h
  | n + 1, h => sumBits_inj n (sumBit_inj h)
theorem xor_right_inj {a b c : Nat} (h : a ^^^ c = b ^^^ c) : a = b := by
  have := congrArg (fun z => z ^^^ c) h
  simpa only [Nat.xor_assoc, Nat.xor_self, Nat.xor_zero] using this
theorem xor_left_inj {a b c : Nat} (h : c ^^^ a = c ^^^ b) : a = b := xor_right_inj (c := c) (by rw [Nat.xor_comm a, Nat.xor_comm b]; exact h)
theorem sumByte_inj_s {s t : Nat} {b : UInt8} (h : sumByte s b = sumByte t b) : s = t := by
  unfold sumByte at h
  exact xor_right_inj (sumBits_inj 8 h)
theorem sumByte_inj_b {s : Nat} {a b : UInt8} (h : sumByte s a = sumByte s b) : a = b := by
  unfold sumByte at h
  have := xor_left_inj (sumBits_inj 8 h)
  exact UInt8.toNat_inj.1 (by omega)
theorem fold_inj (l : List UInt8) : ∀ s t : Nat, l.foldl sumByte s = l.foldl sumByte t → s = t := by
  induction l with
  | nil =>
    intro s t h
    rw [List.foldl_nil, List.foldl_nil] at h
    exact h
  | cons b l ih =>
    intro s t h
    rw [List.foldl_cons, List.foldl_cons] at h
    exact sumByte_inj_s (b := b) (ih _ _ h)
theorem fold_lt (l : List UInt8) : ∀ s : Nat, s < 65536 → l.foldl sumByte s < 65536 := by
  induction l with
  | nil =>
    intro s h
    rw [List.foldl_nil]
    exact h
  | cons b l ih =>
    intro s h
    rw [List.foldl_cons]
    exact ih _ (sumByte_lt b h)
theorem sum_eq (l : List UInt8) : sum l = l.foldl sumByte 65535 := by
  unfold sum
  rw [show (65535 : Nat) = 2 ^ 16 - 1 from rfl, Nat.and_two_pow_sub_one_eq_mod]
  exact Nat.mod_eq_of_lt (fold_lt l _ (by decide))
theorem sum_lt (l : List UInt8) : sum l < 65536 := by
  rw [sum_eq]
  exact fold_lt l _ (by decide)
theorem sum_set {l : List UInt8} {j : Nat} (hj : j < l.length) {x : UInt8} (h : sum (l.set j x) = sum l) : x = l[j] := by
  have e : l = l.take j ++ l[j] :: l.drop (j + 1) := by rw [List.getElem_cons_drop, List.take_append_drop]
  have e2 : l.set j x = l.take j ++ x :: l.drop (j + 1) := List.set_eq_take_append_cons_drop ▸ (by rw [if_pos hj])
  rw [sum_eq, sum_eq, e2] at h
  conv at h => rhs; rw [e]
  rw [List.foldl_append, List.foldl_append, List.foldl_cons, List.foldl_cons] at h
  exact sumByte_inj_b (fold_inj _ _ _ h)
theorem hiB_nat (v : Nat) (h : v < 65536) : (hiB (v : Int)).toNat = v / 256 := by
  unfold hiB
  rw [show ((v : Int)).fdiv 256 = ((v / 256 : Nat) : Int) by rw [Int.fdiv_eq_ediv_of_nonneg _ (by decide)]; rfl]
  simp only [mkU]
  rw [UInt8.toNat_ofNat']
  omega
theorem loB_nat (v : Nat) : (mkU (v : Int)).toNat = v % 256 := by
  simp only [mkU]
  rw [UInt8.toNat_ofNat']
  omega
theorem hiB_of (a b : UInt8) : hiB ((256 * a.toNat + b.toNat : Nat) : Int) = a := by
  have h1 := a.toNat_lt
  have h2 := b.toNat_lt
  refine UInt8.toNat_inj.1 ?_
  rw [hiB_nat _ (by omega)]
  omega
theorem loB_of (a b : UInt8) : mkU ((256 * a.toNat + b.toNat : Nat) : Int) = b := by
  have h2 := b.toNat_lt
  refine UInt8.toNat_inj.1 ?_
  rw [loB_nat]
  omega
theorem mkU_byteZ (a : UInt8) : mkU ((a.toNat : Nat) : Int) = a := by
  have h2 := a.toNat_lt
  refine UInt8.toNat_inj.1 ?_
  rw [loB_nat]
  omega
theorem byteZ_at {l : List UInt8} {k : Nat} (h : k < l.length) : byteZ l k = l[k].toNat := (byteZ_get h).symm
/-- What a read word leaves of the rest. -/
theorem drop_word {l : List UInt8} {i : Nat} (h : (getW l i).2.2 = true) : i + 2 ≤ l.length ∧ (getW l i).2.1 = ((i + 2 : Nat) : Int) ∧ l.drop i = hiB (getW l i).1 :: mkU (getW l i).1 :: l.drop (i + 2) := by
  obtain ⟨w1, w2, w3, w4, w5⟩ := getW_bound _ _ h
  have h1 : i < l.length := by omega
  have h2 : i + 1 < l.length := by omega
  cases g : win (i : Int) 0 ((l.length : Int) - 2)
  · rw [getW_no g] at h; cases h
  · have e := getW_yes g
    refine ⟨by omega, by rw [w3]; omega, ?_⟩
    rw [e]
    simp only [Int.toNat_natCast]
    rw [byteZ_at h1, byteZ_at h2, hiB_of, loB_of, ← List.getElem_cons_drop h1, ← List.getElem_cons_drop h2]
theorem drop_text {l : List UInt8} {i : Nat} (h : (getText l i).2.2 = true) : ∃ e : Nat, (getText l i).2.1 = e ∧ e ≤ l.length ∧ (getText l i).1.size ≤ 60 ∧ l.drop i = putW [] ((getText l i).1.size : Nat) ++ (getText l i).1.data.toList ++ l.drop e := by
  obtain ⟨t1, t2, t3, t4⟩ := getText_ok h
  obtain ⟨d1, d2, d3⟩ := drop_word t1
  obtain ⟨w1, w2, w3, w4, w5⟩ := getW_bound _ _ t1
  obtain ⟨v, hv⟩ : ∃ v : Nat, (getW l i).1 = v := ⟨(getW l i).1.toNat, by omega⟩
  rw [t4]
  rw [d2] at t3 ⊢
  rw [hv] at t2 t3 d3 ⊢
  have es : (cutS l ((i + 2 : Nat) : Int) (v : Int)).size = v := by
    show ((l.drop ((i + 2 : Nat) : Int).toNat).take (v : Int).toNat).length = v
    rw [Int.toNat_natCast, Int.toNat_natCast, List.length_take, List.length_drop]
    omega
  refine ⟨i + 2 + v, by simp only; omega, by omega, by rw [es]; omega, ?_⟩
  rw [es, d3]
  have ed : (cutS l ((i + 2 : Nat) : Int) (v : Int)).data.toList = (l.drop (i + 2)).take v := by
    show ((l.drop ((i + 2 : Nat) : Int).toNat).take (v : Int).toNat) = _
    rw [Int.toNat_natCast, Int.toNat_natCast]
  rw [ed, putW]
  simp only [List.nil_append, List.cons_append]
  have e9 : l.drop (i + 2 + v) = (l.drop (i + 2)).drop v := by rw [List.drop_drop]
  rw [e9, List.take_append_drop]
theorem msgBytes_eq {m : Msg} (hk : m.Key.size ≤ 60) (ht : m.Text.size ≤ 60) : msgBytes m = [mkU m.Kind, mkU m.From, mkU m.To, mkU m.N, mkU m.Code] ++ ([hiB m.Seq, mkU m.Seq] ++ (putW [] (m.Key.size : Nat) ++ m.Key.data.toList ++ (putW [] (m.Text.size : Nat) ++ m.Text.data.toList))) := by
  unfold msgBytes putText
  rw [if_neg (by omega), if_neg (by omega)]
  simp only [putW, List.append_assoc, List.nil_append, List.cons_append]
theorem five (c : List UInt8) (h : 5 ≤ c.length) : c = [c[0]'(by omega), c[1]'(by omega), c[2]'(by omega), c[3]'(by omega), c[4]'(by omega)] ++ c.drop 5 := by
  match c, h with
  | a0 :: a1 :: a2 :: a3 :: a4 :: l, _ => rfl
/-- What is read is what is put. -/
theorem getMsg_shape {b : List UInt8} {y : Msg} (h : getMsg b = (y, true)) : y.ok = true ∧ b.take (b.length - 2) = msgBytes y ∧ 7 ≤ b.length ∧ (getW b ((b.length : Int) - 2)).1 = (sum (b.take (b.length - 2)) : Nat) := by
  unfold getMsg at h
  split at h
  · cases h
  · rename_i hn
    dsimp only at h
    split at h
    · rename_i C
      obtain ⟨rfl, -⟩ := Prod.mk.inj h
      clear h
      have hlc : (b.take (b.length - 2)).length = b.length - 2 := by rw [List.length_take]; omega
      simp only [Bool.and_eq_true, beq_iff_eq] at C
      obtain ⟨c1, c2, c3, c4, c5, c6⟩ := C
      refine ⟨c6, ?_, by omega, c5⟩
      have b0 : ∀ k, k < 5 → byteZ b k = byteZ (b.take (b.length - 2)) k := fun k hk => (byteZ_take (by omega)).symm
      rw [b0 0 (by decide), b0 1 (by decide), b0 2 (by decide), b0 3 (by decide), b0 4 (by decide)]
      clear b0 c5 c6
      generalize hc : b.take (b.length - 2) = c at c1 c2 c3 c4 hlc ⊢
      obtain ⟨w1, w2, w3⟩ := drop_word (l := c) (i := 5) c1
      rw [show ((5 : Nat) : Int) = 5 from rfl] at w2 w3
      rw [w2] at c2 c3 c4 ⊢
      obtain ⟨e1, k1, k2, k3, k4⟩ := drop_text (l := c) (i := 5 + 2) c2
      rw [k1] at c3 c4 ⊢
      obtain ⟨e2, t1, t2, t3, t4⟩ := drop_text (l := c) (i := e1) c3
      rw [t1] at c4
      have he : e2 = c.length := by omega
      rw [he, List.drop_length, List.append_nil] at t4
      rw [msgBytes_eq k3 t3]
      have h5 : ∀ k (hk : k < 5), mkU ((byteZ c k : Nat) : Int) = c[k]'(by omega) := fun k hk => by rw [byteZ_at (by omega), mkU_byteZ]
      simp only
      rw [h5 0 (by decide), h5 1 (by decide), h5 2 (by decide), h5 3 (by decide), h5 4 (by decide), ← t4, ← k4]
      have e5 := five c (by omega)
      conv => lhs; rw [e5]
      rw [w3]
      rfl
    · cases h
theorem getW_put (p r : List UInt8) (v : Nat) (hv : v < 65536) : getW (p ++ hiB (v : Int) :: mkU (v : Int) :: r) (p.length : Nat) = ((v : Int), ((p.length : Nat) : Int) + 2, true) := by
  have hl : (p ++ hiB (v : Int) :: mkU (v : Int) :: r).length = p.length + (r.length + 2) := by simp
  rw [getW_yes (by simp only [win, Bool.and_eq_true, decide_eq_true_eq]; omega)]
  rw [Int.toNat_natCast, byteZ_at (by omega), byteZ_at (by omega)]
  have e1 : (p ++ hiB (v : Int) :: mkU (v : Int) :: r)[p.length]'(by omega) = hiB (v : Int) := by rw [List.getElem_append_right (Nat.le_refl _)]; simp
  have e2 : (p ++ hiB (v : Int) :: mkU (v : Int) :: r)[p.length + 1]'(by omega) = mkU (v : Int) := by rw [List.getElem_append_right (by omega)]; simp
  rw [e1, e2, hiB_nat _ hv, loB_nat]
  have : 256 * (v / 256) + v % 256 = v := by omega
  rw [this]
theorem getText_put (p r : List UInt8) (s : ByteArray) (hs : s.size ≤ 60) : getText (p ++ (putW [] (s.size : Nat) ++ s.data.toList ++ r)) (p.length : Nat) = (s, ((p.length + 2 + s.size : Nat) : Int), true) := by
  have e0 : p ++ (putW [] (s.size : Nat) ++ s.data.toList ++ r) = p ++ hiB ((s.size : Nat) : Int) :: mkU ((s.size : Nat) : Int) :: (s.data.toList ++ r) := by simp [putW]
  have hd : s.data.toList.length = s.size := by rw [Array.length_toList]; rfl
  have hl : (p ++ hiB ((s.size : Nat) : Int) :: mkU ((s.size : Nat) : Int) :: (s.data.toList ++ r)).length = p.length + (s.size + r.length + 2) := by simp [hd]
  have ew := getW_put p (s.data.toList ++ r) s.size (by omega)
  rw [e0]
  rw [getText_yes (by rw [ew, hl]; simp only [Bool.true_and, Bool.and_eq_true, decide_eq_true_eq]; omega), ew]
  simp only
  have ec : cutS (p ++ hiB ((s.size : Nat) : Int) :: mkU ((s.size : Nat) : Int) :: (s.data.toList ++ r)) ((p.length : Nat) + 2) (s.size : Nat) = s := by
    unfold cutS
    rw [show (((p.length : Nat) : Int) + 2).toNat = p.length + 2 by omega, Int.toNat_natCast, ← List.drop_drop, List.drop_left]
    simp only [List.drop_succ_cons, List.drop_zero]
    rw [List.take_left' hd]
  rw [ec]
  simp only [Prod.mk.injEq, and_true, true_and]
  omega
theorem getMsg_put {m : Msg} (h : m.ok = true) : getMsg (putMsg m) = (m, true) := by
  have hok := h
  simp only [Msg.ok, Bool.and_eq_true, win, decide_eq_true_eq] at h
  obtain ⟨⟨⟨⟨⟨⟨⟨⟨h1, h2⟩, h3⟩, _⟩, h4⟩, h5⟩, h6⟩, h7⟩, h8⟩ := h
  have hp : putMsg m = msgBytes m ++ hiB ((sum (msgBytes m) : Nat) : Int) :: mkU ((sum (msgBytes m) : Nat) : Int) :: [] := by
    unfold putMsg
    rw [if_pos hok]
    rfl
  have hm := msgBytes_eq (m := m) (by omega) (by omega)
  obtain ⟨sq, hsq⟩ : ∃ v : Nat, m.Seq = v := ⟨m.Seq.toNat, by omega⟩
  have hlen : (putMsg m).length = (msgBytes m).length + 2 := by rw [hp]; simp
  have hml : 5 ≤ (msgBytes m).length := by rw [hm]; simp only [List.length_append, List.length_cons, List.length_nil]; omega
  have ht : (putMsg m).take ((putMsg m).length - 2) = msgBytes m := by
    rw [hlen, hp]
    exact List.take_left' (by omega)
  have es := getW_put (msgBytes m) [] (sum (msgBytes m)) (sum_lt _)
  have e1 : getW (msgBytes m) 5 = (m.Seq, 7, true) := by
    rw [hm, hsq]
    exact getW_put [mkU m.Kind, mkU m.From, mkU m.To, mkU m.N, mkU m.Code] _ sq (by omega)
  have e2 : getText (msgBytes m) 7 = (m.Key, ((7 + 2 + m.Key.size : Nat) : Int), true) := by
    rw [hm]
    exact getText_put ([mkU m.Kind, mkU m.From, mkU m.To, mkU m.N, mkU m.Code] ++ [hiB m.Seq, mkU m.Seq]) _ m.Key (by omega)
  have e3 : getText (msgBytes m) ((7 + 2 + m.Key.size : Nat) : Int) = (m.Text, ((7 + 2 + m.Key.size + 2 + m.Text.size : Nat) : Int), true) := by
    have hd : m.Key.data.toList.length = m.Key.size := by rw [Array.length_toList]; rfl
    have := getText_put ([mkU m.Kind, mkU m.From, mkU m.To, mkU m.N, mkU m.Code] ++ [hiB m.Seq, mkU m.Seq] ++ (putW [] (m.Key.size : Nat) ++ m.Key.data.toList)) [] m.Text (by omega)
    rw [List.append_nil] at this
    have hl : ([mkU m.Kind, mkU m.From, mkU m.To, mkU m.N, mkU m.Code] ++ [hiB m.Seq, mkU m.Seq] ++ (putW [] (m.Key.size : Nat) ++ m.Key.data.toList)).length = 7 + 2 + m.Key.size := by simp [putW, hd]; omega
    rw [hl] at this
    rw [hm]
    rw [← this]
    simp only [List.append_assoc]
  have hend : (msgBytes m).length = 7 + 2 + m.Key.size + 2 + m.Text.size := by
    have hd : m.Key.data.toList.length = m.Key.size := by rw [Array.length_toList]; rfl
    have hd2 : m.Text.data.toList.length = m.Text.size := by rw [Array.length_toList]; rfl
    rw [hm]
    simp [putW, hd, hd2]
    omega
  have bz : ∀ (k : Nat) (hk : k < 5) (v : Int), [mkU m.Kind, mkU m.From, mkU m.To, mkU m.N, mkU m.Code][k]'hk = mkU v → 0 ≤ v ∧ v ≤ 255 → ((byteZ (putMsg m) k : Nat) : Int) = v := by
    intro k hk v e hv
    have hk2 : k < (putMsg m).length := by omega
    rw [byteZ_at hk2]
    have : (putMsg m)[k] = [mkU m.Kind, mkU m.From, mkU m.To, mkU m.N, mkU m.Code][k]'hk := by
      simp only [hp, hm]
      rw [List.getElem_append_left (by simp only [List.length_append, List.length_cons, List.length_nil]; omega), List.getElem_append_left]
    rw [this, e]
    obtain ⟨n, rfl⟩ : ∃ n : Nat, v = n := ⟨v.toNat, by omega⟩
    rw [loB_nat]
    omega
  unfold getMsg
  rw [if_neg (by omega)]
  simp only [ht, e1, e2, e3]
  rw [bz 0 (by decide) m.Kind rfl (by omega), bz 1 (by decide) m.From rfl (by omega), bz 2 (by decide) m.To rfl (by omega), bz 3 (by decide) m.N rfl (by omega), bz 4 (by decide) m.Code rfl (by omega)]
  rw [if_pos]
  simp only [Bool.true_and, Bool.and_eq_true, beq_iff_eq]
  refine ⟨by rw [hlen, hend]; omega, ?_, hok⟩
  rw [hp]
  rw [show (((msgBytes m ++ hiB ((sum (msgBytes m) : Nat) : Int) :: mkU ((sum (msgBytes m) : Nat) : Int) :: []).length : Int) - 2) = ((msgBytes m).length : Nat) by simp]
  rw [es]
/-- What is read puts itself again. -/
theorem putMsg_get {b : List UInt8} {y : Msg} (h : getMsg b = (y, true)) : putMsg y = b := by
  obtain ⟨h1, h2, h3, h4⟩ := getMsg_shape h
  have hw : (getW b ((b.length - 2 : Nat) : Int)).2.2 = true := by rw [getW_yes (by simp only [win, Bool.and_eq_true, decide_eq_true_eq]; omega)]
  obtain ⟨d1, d2, d3⟩ := drop_word hw
  rw [show ((b.length - 2 : Nat) : Int) = (b.length : Int) - 2 by omega, h4, h2] at d3
  rw [show b.length - 2 + 2 = b.length by omega, List.drop_length] at d3
  unfold putMsg
  rw [if_pos h1, putW, ← d3]
  conv => lhs; lhs; rw [← h2]
  exact List.take_append_drop _ _
/-- One byte turned is seen. -/
theorem getMsg_turned {m : Msg} (h : m.ok = true) {j : Nat} (hj : j < (putMsg m).length) {x : UInt8} (hx : x ≠ (putMsg m)[j]) : (getMsg ((putMsg m).set j x)).2 = false := by
  cases g : (getMsg ((putMsg m).set j x)).2
  · rfl
  · exfalso
    have hg : getMsg ((putMsg m).set j x) = ((getMsg ((putMsg m).set j x)).1, true) := by rw [← g]
    obtain ⟨_, _, h3, h4⟩ := getMsg_shape hg
    obtain ⟨_, _, k3, k4⟩ := getMsg_shape (getMsg_put h)
    generalize putMsg m = b at hj hx h3 h4 k3 k4
    rw [List.length_set] at h3 h4
    have hc : ((b.length : Int) - 2).toNat = b.length - 2 := by omega
    have W : ∀ c : List UInt8, c.length = b.length → (getW c ((b.length : Int) - 2)).1 = ((256 * byteZ c (b.length - 2) + byteZ c (b.length - 2 + 1) : Nat) : Int) := by
      intro c hcl
      rw [getW_yes (by simp only [win, Bool.and_eq_true, decide_eq_true_eq]; omega), hc]
    rw [W _ (List.length_set ..)] at h4
    rw [W _ rfl] at k4
    by_cases hjn : j < b.length - 2
    · have z : ∀ k, j < k → byteZ (b.set j x) k = byteZ b k := by
        intro k hk
        simp only [byteZ, List.getD_eq_getElem?_getD]
        rw [List.getElem?_set_ne (by omega)]
      rw [z _ (by omega), z _ (by omega), k4, List.take_set] at h4
      have hj' : j < (b.take (b.length - 2)).length := by rw [List.length_take]; omega
      have := sum_set hj' (x := x) (by omega)
      rw [List.getElem_take] at this
      exact hx this
    · rw [List.take_set_of_le (by omega)] at h4
      have hz : byteZ (b.set j x) j = x.toNat := by rw [byteZ_at (by rw [List.length_set]; exact hj)]; simp
      have hz0 : byteZ b j = b[j].toNat := byteZ_at hj
      have hne : x.toNat ≠ b[j].toNat := fun e => hx (UInt8.toNat_inj.1 e)
      have z : ∀ k, j ≠ k → byteZ (b.set j x) k = byteZ b k := by
        intro k hk
        simp only [byteZ, List.getD_eq_getElem?_getD]
        rw [List.getElem?_set_ne hk]
      have b1 := byteZ_lt (b.set j x) (b.length - 2 + 1)
      have b2 := byteZ_lt b (b.length - 2 + 1)
      rcases (show j = b.length - 2 ∨ j = b.length - 2 + 1 by omega) with e | e
      · rw [← e] at h4 k4 b1 b2
        rw [z (j + 1) (by omega), hz] at h4
        rw [hz0] at k4
        omega
      · rw [← e] at h4 k4 b1 b2
        rw [z (b.length - 2) (by omega), hz] at h4
        rw [hz0] at k4
        omega
end Go.X

/- Ul -/
namespace Go.X
set_option maxRecDepth 100000
set_option maxHeartbeats 8000000
theorem xor_u8 (a : UInt8) {w : Int} (h0 : 0 ≤ w) (h1 : w ≤ 255) : xorK .u8 (a.toNat : Int) (IntKind.u8.wrap w) = ((a ^^^ mkU w).toNat : Int) := by
  obtain ⟨n, rfl⟩ : ∃ n : Nat, w = n := ⟨w.toNat, by omega⟩
  have hn : n < 256 := by omega
  have hw : IntKind.u8.wrap (n : Int) = n := by rw [IntKind.wrap_u8]; omega
  rw [hw, xorK_def]
  show IntKind.u8.wrap ((BitVec.ofInt 8 (a.toNat : Int) ^^^ BitVec.ofInt 8 (n : Int)).toNat) = _
  have ha := a.toNat_lt
  have e1 : (BitVec.ofInt 8 (a.toNat : Int)).toNat = a.toNat := by rw [BitVec.toNat_ofInt]; omega
  have e2 : (BitVec.ofInt 8 (n : Int)).toNat = n := by rw [BitVec.toNat_ofInt]; omega
  have e3 : (mkU (n : Int)).toNat = n := by rw [loB_nat]; omega
  have hx : a.toNat ^^^ n < 256 := Nat.xor_lt_two_pow (n := 8) ha hn
  rw [BitVec.toNat_xor, e1, e2, UInt8.toNat_xor, e3, IntKind.wrap_u8]
  omega
theorem xor_ne (a : UInt8) {w : Int} (h0 : 0 < w) (h1 : w ≤ 255) : a ^^^ mkU w ≠ a := by
  intro h
  have h2 := congrArg (fun z => (a ^^^ z).toNat) h
  obtain ⟨n, rfl⟩ : ∃ n : Nat, w = n := ⟨w.toNat, by omega⟩
  have e3 : (mkU (n : Int)).toNat = n := by rw [loB_nat]; omega
  simp only [UInt8.toNat_xor, e3, ← Nat.xor_assoc, Nat.xor_self, Nat.zero_xor] at h2
  omega
theorem set_u8 {b : List UInt8} {i : Nat} {a W : UInt8} : (List.map uR b).set i (setCells [uT a] 0 [uT W]) = List.map uR (b.set i W) := by
  rw [List.map_set]
  rfl
def x_s_DrawPutMsg : FnX := ⟨8, [.cell 2 (some 8)],
  .seq (.reg [⟨none, some 2, 2, .alloc [.pv (.int .i64 0), .pv (.int .i64 0), .pv (.int .i64 0), .pv (.int .i64 0), .pv (.string ⟨#[]⟩), .pv (.string ⟨#[]⟩), .pv (.int .i64 0), .pv (.int .i64 0)]⟩])
 (.seq (.reg [⟨none, some 4, 4, .mv (.t 0)⟩,
   ⟨none, some 5, 5, .call 47 [0] [(.t 4)]⟩,
   ⟨none, some 3, 3, .mv (.t 5)⟩])
 (.seq (.reg [⟨none, some 6, 6, .mv (.t 3)⟩,
   ⟨none, some 7, 7, .call 63 [5] [(.t 6)]⟩,
   ⟨none, none, 100001, .store 8 (.t 2) (.t 7)⟩])
 (.ret)))⟩
abbrev C_s_DrawPutMsg (Te : Nat → List AV → Res → Prop) : Prop := ∀ (l : List UInt8) (hl : l.length ≤ 2 ^ 31), ∃ (m : Msg), (msgS m) ∧ Te 39 [.one (slT false 1 uR l)] ⟨[.agg m.row], [[slT false 1 uR l]]⟩
theorem r_s_DrawPutMsg {Te : Nat → List AV → Res → Prop} (c_s_l1New : C_s_l1New Te) (c_s_l16Any : C_s_l16Any Te) : ∀ (l : List UInt8) (hl : l.length ≤ 2 ^ 31), ∃ r0, (∃ (m : Msg), (msgS m) ∧ r0 = (⟨[.agg m.row], [[slT false 1 uR l]]⟩ : Res)) ∧ RunFn Te x_s_DrawPutMsg [.one (slT false 1 uR l)] r0 := by
  intro l hl
  refine some_of (by simp -implicitDefEqProofs (maxSteps := 1000000) only [x_s_DrawPutMsg, go_sem]) (by rfl) ?_
  simp -implicitDefEqProofs (maxSteps := 1000000) only [x_s_DrawPutMsg, go_sem, true_implies, false_implies]
  repeat (first | refine ⟨rfl, ?_⟩ | refine ⟨by decide, ?_⟩ | refine ⟨⟨by decide, by decide⟩, ?_⟩ | refine ⟨decide_eq_true (by omega), ?_⟩ | refine ⟨⟨decide_eq_true (by omega), decide_eq_true (by omega)⟩, ?_⟩)
  try (first | done | decide | exact decide_eq_true (by omega) | exact ⟨decide_eq_true (by omega), decide_eq_true (by omega)⟩)
  obtain ⟨c, hc, ht⟩ := c_s_l1New l hl
  refine .of (ht) ?_
  try simp -implicitDefEqProofs (maxSteps := 1000000) only [go_sem, true_implies, false_implies]
  repeat (first | refine ⟨rfl, ?_⟩ | refine ⟨by decide, ?_⟩ | refine ⟨⟨by decide, by decide⟩, ?_⟩ | refine ⟨decide_eq_true (by omega), ?_⟩ | refine ⟨⟨decide_eq_true (by omega), decide_eq_true (by omega)⟩, ?_⟩)
  try (first | done | decide | exact decide_eq_true (by omega) | exact ⟨decide_eq_true (by omega), decide_eq_true (by omega)⟩)
  obtain ⟨a, d, ⟨ha, hd⟩, ht⟩ := c_s_l16Any c hc
  refine .of (ht) ?_
  try simp -implicitDefEqProofs (maxSteps := 1000000) only [go_sem, true_implies, false_implies]
  repeat (first | refine ⟨rfl, ?_⟩ | refine ⟨by decide, ?_⟩ | refine ⟨⟨by decide, by decide⟩, ?_⟩ | refine ⟨decide_eq_true (by omega), ?_⟩ | refine ⟨⟨decide_eq_true (by omega), decide_eq_true (by omega)⟩, ?_⟩)
  try (first | done | decide | exact decide_eq_true (by omega) | exact ⟨decide_eq_true (by omega), decide_eq_true (by omega)⟩)
  exact ⟨a, ha, rfl⟩
def x_s_DrawMsgOk : FnX := ⟨8, [.cell 2 (some 8)],
  .seq (.reg [⟨none, some 2, 2, .alloc [.pv (.int .i64 0), .pv (.int .i64 0), .pv (.int .i64 0), .pv (.int .i64 0), .pv (.string ⟨#[]⟩), .pv (.string ⟨#[]⟩), .pv (.int .i64 0), .pv (.int .i64 0)]⟩])
 (.seq (.reg [⟨none, some 4, 4, .mv (.t 0)⟩,
   ⟨none, some 5, 5, .call 47 [0] [(.t 4)]⟩,
   ⟨none, some 3, 3, .mv (.t 5)⟩])
 (.seq (.reg [⟨none, some 6, 6, .mv (.t 3)⟩,
   ⟨none, some 7, 7, .call 63 [5] [(.t 6)]⟩,
   ⟨none, none, 100001, .store 8 (.t 2) (.t 7)⟩])
 (.ret)))⟩
abbrev C_s_DrawMsgOk (Te : Nat → List AV → Res → Prop) : Prop := ∀ (l : List UInt8) (hl : l.length ≤ 2 ^ 31), ∃ (m : Msg), (msgS m) ∧ Te 42 [.one (slT false 1 uR l)] ⟨[.agg m.row], [[slT false 1 uR l]]⟩
theorem r_s_DrawMsgOk {Te : Nat → List AV → Res → Prop} (c_s_l1New : C_s_l1New Te) (c_s_l16Any : C_s_l16Any Te) : ∀ (l : List UInt8) (hl : l.length ≤ 2 ^ 31), ∃ r0, (∃ (m : Msg), (msgS m) ∧ r0 = (⟨[.agg m.row], [[slT false 1 uR l]]⟩ : Res)) ∧ RunFn Te x_s_DrawMsgOk [.one (slT false 1 uR l)] r0 := by
  intro l hl
  refine some_of (by simp -implicitDefEqProofs (maxSteps := 1000000) only [x_s_DrawMsgOk, go_sem]) (by rfl) ?_
  simp -implicitDefEqProofs (maxSteps := 1000000) only [x_s_DrawMsgOk, go_sem, true_implies, false_implies]
  repeat (first | refine ⟨rfl, ?_⟩ | refine ⟨by decide, ?_⟩ | refine ⟨⟨by decide, by decide⟩, ?_⟩ | refine ⟨decide_eq_true (by omega), ?_⟩ | refine ⟨⟨decide_eq_true (by omega), decide_eq_true (by omega)⟩, ?_⟩)
  try (first | done | decide | exact decide_eq_true (by omega) | exact ⟨decide_eq_true (by omega), decide_eq_true (by omega)⟩)
  obtain ⟨c, hc, ht⟩ := c_s_l1New l hl
  refine .of (ht) ?_
  try simp -implicitDefEqProofs (maxSteps := 1000000) only [go_sem, true_implies, false_implies]
  repeat (first | refine ⟨rfl, ?_⟩ | refine ⟨by decide, ?_⟩ | refine ⟨⟨by decide, by decide⟩, ?_⟩ | refine ⟨decide_eq_true (by omega), ?_⟩ | refine ⟨⟨decide_eq_true (by omega), decide_eq_true (by omega)⟩, ?_⟩)
  try (first | done | decide | exact decide_eq_true (by omega) | exact ⟨decide_eq_true (by omega), decide_eq_true (by omega)⟩)
  obtain ⟨a, d, ⟨ha, hd⟩, ht⟩ := c_s_l16Any c hc
  refine .of (ht) ?_
  try simp -implicitDefEqProofs (maxSteps := 1000000) only [go_sem, true_implies, false_implies]
  repeat (first | refine ⟨rfl, ?_⟩ | refine ⟨by decide, ?_⟩ | refine ⟨⟨by decide, by decide⟩, ?_⟩ | refine ⟨decide_eq_true (by omega), ?_⟩ | refine ⟨⟨decide_eq_true (by omega), decide_eq_true (by omega)⟩, ?_⟩)
  try (first | done | decide | exact decide_eq_true (by omega) | exact ⟨decide_eq_true (by omega), decide_eq_true (by omega)⟩)
  exact ⟨a, ha, rfl⟩
def x_s_DrawNodeOf : FnX := ⟨8, [.tmp 2],
  .seq (.reg [⟨none, some 2, 2, .mv (.k (.one (.pv (.string ⟨#[]⟩))))⟩])
 (.seq (.reg [⟨none, some 4, 4, .mv (.t 0)⟩,
   ⟨none, some 5, 5, .call 47 [0] [(.t 4)]⟩,
   ⟨none, some 3, 3, .mv (.t 5)⟩])
 (.seq (.reg [⟨none, some 6, 6, .mv (.t 3)⟩,
   ⟨none, some 7, 7, .call 76 [5] [(.t 6)]⟩,
   ⟨none, some 2, 2, .mv (.t 7)⟩])
 (.ret)))⟩
abbrev C_s_DrawNodeOf (Te : Nat → List AV → Res → Prop) : Prop := ∀ (l : List UInt8) (hl : l.length ≤ 2 ^ 31), ∃ (s : ByteArray), (s.size ≤ 7) ∧ Te 43 [.one (slT false 1 uR l)] ⟨[.one (sT s)], [[slT false 1 uR l]]⟩
theorem r_s_DrawNodeOf {Te : Nat → List AV → Res → Prop} (c_s_l1New : C_s_l1New Te) (c_s_l1Text : C_s_l1Text Te) : ∀ (l : List UInt8) (hl : l.length ≤ 2 ^ 31), ∃ r0, (∃ (s : ByteArray), (s.size ≤ 7) ∧ r0 = (⟨[.one (sT s)], [[slT false 1 uR l]]⟩ : Res)) ∧ RunFn Te x_s_DrawNodeOf [.one (slT false 1 uR l)] r0 := by
  intro l hl
  refine some_of (by simp -implicitDefEqProofs (maxSteps := 1000000) only [x_s_DrawNodeOf, go_sem]) (by rfl) ?_
  simp -implicitDefEqProofs (maxSteps := 1000000) only [x_s_DrawNodeOf, go_sem, true_implies, false_implies]
  repeat (first | refine ⟨rfl, ?_⟩ | refine ⟨by decide, ?_⟩ | refine ⟨⟨by decide, by decide⟩, ?_⟩ | refine ⟨decide_eq_true (by omega), ?_⟩ | refine ⟨⟨decide_eq_true (by omega), decide_eq_true (by omega)⟩, ?_⟩)
  try (first | done | decide | exact decide_eq_true (by omega) | exact ⟨decide_eq_true (by omega), decide_eq_true (by omega)⟩)
  obtain ⟨c, hc, ht⟩ := c_s_l1New l hl
  refine .of (ht) ?_
  try simp -implicitDefEqProofs (maxSteps := 1000000) only [go_sem, true_implies, false_implies]
  repeat (first | refine ⟨rfl, ?_⟩ | refine ⟨by decide, ?_⟩ | refine ⟨⟨by decide, by decide⟩, ?_⟩ | refine ⟨decide_eq_true (by omega), ?_⟩ | refine ⟨⟨decide_eq_true (by omega), decide_eq_true (by omega)⟩, ?_⟩)
  try (first | done | decide | exact decide_eq_true (by omega) | exact ⟨decide_eq_true (by omega), decide_eq_true (by omega)⟩)
  obtain ⟨a, d, ⟨ha, hd⟩, ht⟩ := c_s_l1Text c hc
  refine .of (ht) ?_
  try simp -implicitDefEqProofs (maxSteps := 1000000) only [go_sem, true_implies, false_implies]
  repeat (first | refine ⟨rfl, ?_⟩ | refine ⟨by decide, ?_⟩ | refine ⟨⟨by decide, by decide⟩, ?_⟩ | refine ⟨decide_eq_true (by omega), ?_⟩ | refine ⟨⟨decide_eq_true (by omega), decide_eq_true (by omega)⟩, ?_⟩)
  try (first | done | decide | exact decide_eq_true (by omega) | exact ⟨decide_eq_true (by omega), decide_eq_true (by omega)⟩)
  exact ⟨a, ha, rfl⟩
def x_s_l1Bend : FnX := ⟨39, [.tmp 4],
  .seq (.reg [⟨none, some 4, 4, .mv (.k (.one (.nils 1)))⟩])
 (.seq (.reg [⟨none, some 6, 6, .bslice 1 []⟩,
   ⟨none, some 7, 7, .mv (.t 1)⟩,
   ⟨none, some 8, 8, .app 1 1 (.t 6) (.t 7)⟩,
   ⟨none, some 5, 5, .mv (.t 8)⟩])
 (.seq (.seq (.reg [⟨none, some 9, 9, .mv (.t 0)⟩,
   ⟨none, some 10, 10, .call 74 [5, 0] [(.t 9), (.k (.one (.pv (.int .i64 5))))]⟩])
 (.block 0 (.seq (.reg [⟨none, some 12, 12, .bin .eql (.t 10) (.k (.one (.pv (.int .i64 0))))⟩,
   ⟨none, some 11, 11, .mv (.t 12)⟩])
 (.cond 11 (.seq (.reg [⟨none, some 13, 13, .mv (.t 5)⟩,
   ⟨none, some 14, 14, .mv (.t 0)⟩,
   ⟨none, some 15, 15, .mv (.t 5)⟩,
   ⟨none, some 16, 16, .len (.t 15)⟩,
   ⟨none, some 17, 17, .bin .add (.t 16) (.k (.one (.pv (.int .i64 1))))⟩,
   ⟨none, some 18, 18, .call 74 [5, 0] [(.t 14), (.t 17)]⟩,
   ⟨none, some 19, 19, .slice 1 (.t 13) none (some (.t 18))⟩,
   ⟨none, some 4, 4, .mv (.t 19)⟩])
 (.ret)) (.seq (.reg [⟨none, some 21, 21, .bin .eql (.t 10) (.k (.one (.pv (.int .i64 1))))⟩,
   ⟨none, some 20, 20, .mv (.t 21)⟩])
 (.cond 20 (.seq (.reg [⟨none, some 22, 22, .mv (.t 5)⟩,
   ⟨none, some 23, 23, .len (.t 22)⟩,
   ⟨none, some 24, 24, .bin .gtr (.t 23) (.k (.one (.pv (.int .i64 0))))⟩])
 (.cond 24 (.draw [⟨none, some 25, 25, .mv (.t 5)⟩,
   ⟨none, some 26, 26, .mv (.t 0)⟩,
   ⟨none, some 27, 27, .mv (.t 5)⟩,
   ⟨none, some 28, 28, .len (.t 27)⟩,
   ⟨none, some 29, 29, .call 74 [5, 0] [(.t 26), (.t 28)]⟩,
   ⟨none, some 30, 30, .iaddr 1 (.t 25) (.t 29)⟩,
   ⟨none, some 31, 31, .load none (.t 30)⟩,
   ⟨none, some 32, 32, .mv (.t 0)⟩,
   ⟨none, some 33, 33, .call 74 [5, 0] [(.t 32), (.k (.one (.pv (.int .i64 255))))]⟩,
   ⟨none, some 34, 34, .bin .add (.k (.one (.pv (.int .i64 1)))) (.t 33)⟩,
   ⟨none, some 35, 35, .conv (.int .u8) (.t 34)⟩,
   ⟨none, some 36, 36, .bin .xor (.t 31) (.t 35)⟩,
   ⟨none, some 37, 37, .iaddr 1 (.t 25) (.t 29)⟩,
   ⟨none, none, 100001, .store 1 (.t 37) (.t 36)⟩] [[], [], [], [2], [1, 3], [0, 4], [5], [], [7, 4], [8], [9], [6, 10], [0, 4, 0, 1, 2, 3, 4, 5, 6, 7, 8, 9, 10, 11], [12, 11, 8, 0, 1, 2, 3, 4, 5, 6, 7, 8, 9, 10, 11]]) (.skip))) (.skip)))))))
 (.seq (.reg [⟨none, some 38, 38, .mv (.t 5)⟩,
   ⟨none, some 4, 4, .mv (.t 38)⟩])
 (.ret))))⟩
abbrev C_s_l1Bend (Te : Nat → List AV → Res → Prop) : Prop := ∀ (c : CurV) (b : List UInt8) (hc : c.ok) (hb : b.length ≤ 2 ^ 20), ∃ (r : List UInt8) (d : CurV), (r.length ≤ b.length ∧ d.ok) ∧ Te 70 [.ptr c.enc, .one (slT true 1 uR b)] ⟨[.one (slT true 1 uR r)], [d.enc, [slT true 1 uR b]]⟩
theorem r_s_l1Bend {Te : Nat → List AV → Res → Prop} (c_s_l1Below : C_s_l1Below Te) : ∀ (c : CurV) (b : List UInt8) (hc : c.ok) (hb : b.length ≤ 2 ^ 20), ∃ r0, (∃ (r : List UInt8) (d : CurV), (r.length ≤ b.length ∧ d.ok) ∧ r0 = (⟨[.one (slT true 1 uR r)], [d.enc, [slT true 1 uR b]]⟩ : Res)) ∧ RunFn Te x_s_l1Bend [.ptr c.enc, .one (slT true 1 uR b)] r0 := by
  intro c b hc hb
  refine some_of (by simp -implicitDefEqProofs (maxSteps := 1000000) only [x_s_l1Bend, go_sem]) (by rfl) ?_
  obtain ⟨k, d0, ⟨hk, hd0⟩, ht⟩ := c_s_l1Below c 5 hc
  have hk5 := hk.2.1 (by decide)
  have wl : IntKind.i64.wrap ((b.length : Int) + 1) = (b.length : Int) + 1 := IntWalk.i64_in _ (by omega)
  by_cases q0 : k = 0
  · subst q0
    obtain ⟨u, d1, ⟨hu, hd1⟩, ht1⟩ := c_s_l1Below d0 ((b.length : Int) + 1) hd0
    have hu1 := hu.2.1 (by omega)
    simp -implicitDefEqProofs (maxSteps := 1000000) only [x_s_l1Bend, go_sem, true_implies, false_implies]
    repeat (first | refine ⟨rfl, ?_⟩ | refine ⟨by decide, ?_⟩ | refine ⟨⟨by decide, by decide⟩, ?_⟩ | refine ⟨decide_eq_true (by omega), ?_⟩ | refine ⟨⟨decide_eq_true (by omega), decide_eq_true (by omega)⟩, ?_⟩)
    try (first | done | decide | exact decide_eq_true (by omega) | exact ⟨decide_eq_true (by omega), decide_eq_true (by omega)⟩)
    refine .of (ht) ?_
    try simp -implicitDefEqProofs (maxSteps := 1000000) only [go_sem, true_implies, false_implies, wl]
    repeat (first | refine ⟨rfl, ?_⟩ | refine ⟨by decide, ?_⟩ | refine ⟨⟨by decide, by decide⟩, ?_⟩ | refine ⟨decide_eq_true (by omega), ?_⟩ | refine ⟨⟨decide_eq_true (by omega), decide_eq_true (by omega)⟩, ?_⟩)
    try (first | done | decide | exact decide_eq_true (by omega) | exact ⟨decide_eq_true (by omega), decide_eq_true (by omega)⟩)
    refine .of (ht1) ?_
    try simp -implicitDefEqProofs (maxSteps := 1000000) only [go_sem, true_implies, false_implies]
    repeat (first | refine ⟨rfl, ?_⟩ | refine ⟨by decide, ?_⟩ | refine ⟨⟨by decide, by decide⟩, ?_⟩ | refine ⟨decide_eq_true (by omega), ?_⟩ | refine ⟨⟨decide_eq_true (by omega), decide_eq_true (by omega)⟩, ?_⟩)
    try (first | done | decide | exact decide_eq_true (by omega) | exact ⟨decide_eq_true (by omega), decide_eq_true (by omega)⟩)
    have et : List.take (u.toNat - 0) (List.map uR b) = List.map uR (b.take u.toNat) := by rw [Nat.sub_zero, ← List.map_take]
    exact ⟨b.take u.toNat, d1, ⟨by rw [List.length_take]; omega, hd1⟩, by rw [et]⟩
  by_cases q1 : k = 1
  · subst q1
    cases q : decide ((b.length : Int) > 0)
    · simp -implicitDefEqProofs (maxSteps := 1000000) only [x_s_l1Bend, go_sem, true_implies, false_implies]
      repeat (first | refine ⟨rfl, ?_⟩ | refine ⟨by decide, ?_⟩ | refine ⟨⟨by decide, by decide⟩, ?_⟩ | refine ⟨decide_eq_true (by omega), ?_⟩ | refine ⟨⟨decide_eq_true (by omega), decide_eq_true (by omega)⟩, ?_⟩)
      try (first | done | decide | exact decide_eq_true (by omega) | exact ⟨decide_eq_true (by omega), decide_eq_true (by omega)⟩)
      refine .of (ht) ?_
      try simp -implicitDefEqProofs (maxSteps := 1000000) only [go_sem, true_implies, false_implies, q]
      repeat (first | refine ⟨rfl, ?_⟩ | refine ⟨by decide, ?_⟩ | refine ⟨⟨by decide, by decide⟩, ?_⟩ | refine ⟨decide_eq_true (by omega), ?_⟩ | refine ⟨⟨decide_eq_true (by omega), decide_eq_true (by omega)⟩, ?_⟩)
      try (first | done | decide | exact decide_eq_true (by omega) | exact ⟨decide_eq_true (by omega), decide_eq_true (by omega)⟩)
      exact ⟨b, d0, ⟨Nat.le_refl _, hd0⟩, rfl⟩
    · have hpos : 0 < b.length := by simp only [decide_eq_true_eq] at q; omega
      obtain ⟨u, d1, ⟨hu, hd1⟩, ht1⟩ := c_s_l1Below d0 (b.length : Int) hd0
      have hu1 := hu.2.1 (by omega)
      obtain ⟨v, d2, ⟨hv, hd2⟩, ht2⟩ := c_s_l1Below d1 255 hd1
      have hv1 := hv.2.1 (by omega)
      have wv : IntKind.i64.wrap (1 + v) = 1 + v := IntWalk.i64_in _ (by omega)
      have hu2 : u.toNat < b.length := by omega
      have eg : (List.map uR b).getD u.toNat [] = [uT b[u.toNat]] := by simp [List.getD, List.getElem?_eq_getElem hu2]
      have q1 : decide (u.toNat < b.length) = true := decide_eq_true hu2
      have ex := xor_u8 b[u.toNat] (w := 1 + v) (by omega) (by omega)
      have es := set_u8 (b := b) (i := u.toNat) (a := b[u.toNat]) (W := b[u.toNat] ^^^ mkU (1 + v))
      have el : (b.set u.toNat (b[u.toNat] ^^^ mkU (1 + v))).length = b.length := List.length_set ..
      generalize b[u.toNat] ^^^ mkU (1 + v) = W at ex es el
      simp -implicitDefEqProofs (maxSteps := 1000000) only [x_s_l1Bend, go_sem, true_implies, false_implies]
      repeat (first | refine ⟨rfl, ?_⟩ | refine ⟨by decide, ?_⟩ | refine ⟨⟨by decide, by decide⟩, ?_⟩ | refine ⟨decide_eq_true (by omega), ?_⟩ | refine ⟨⟨decide_eq_true (by omega), decide_eq_true (by omega)⟩, ?_⟩)
      try (first | done | decide | exact decide_eq_true (by omega) | exact ⟨decide_eq_true (by omega), decide_eq_true (by omega)⟩)
      refine .of (ht) ?_
      try simp -implicitDefEqProofs (maxSteps := 1000000) only [go_sem, true_implies, false_implies, q]
      repeat (first | refine ⟨rfl, ?_⟩ | refine ⟨by decide, ?_⟩ | refine ⟨⟨by decide, by decide⟩, ?_⟩ | refine ⟨decide_eq_true (by omega), ?_⟩ | refine ⟨⟨decide_eq_true (by omega), decide_eq_true (by omega)⟩, ?_⟩)
      try (first | done | decide | exact decide_eq_true (by omega) | exact ⟨decide_eq_true (by omega), decide_eq_true (by omega)⟩)
      refine .of (ht1) ?_
      try simp -implicitDefEqProofs (maxSteps := 1000000) only [go_sem, true_implies, false_implies, eg, q1, wl]
      repeat (first | refine ⟨rfl, ?_⟩ | refine ⟨by decide, ?_⟩ | refine ⟨⟨by decide, by decide⟩, ?_⟩ | refine ⟨decide_eq_true (by omega), ?_⟩ | refine ⟨⟨decide_eq_true (by omega), decide_eq_true (by omega)⟩, ?_⟩)
      try (first | done | decide | exact decide_eq_true (by omega) | exact ⟨decide_eq_true (by omega), decide_eq_true (by omega)⟩)
      refine .of (ht2) ?_
      try simp -implicitDefEqProofs (maxSteps := 1000000) only [go_sem, true_implies, false_implies, wv, ex, storeAp]
      repeat (first | refine ⟨rfl, ?_⟩ | refine ⟨by decide, ?_⟩ | refine ⟨⟨by decide, by decide⟩, ?_⟩ | refine ⟨decide_eq_true (by omega), ?_⟩ | refine ⟨⟨decide_eq_true (by omega), decide_eq_true (by omega)⟩, ?_⟩)
      try (first | done | decide | exact decide_eq_true (by omega) | exact ⟨decide_eq_true (by omega), decide_eq_true (by omega)⟩)
      simp -implicitDefEqProofs (maxSteps := 1000000) only [go_sem, eg, es, q1, Nat.zero_add, List.length_cons, List.length_nil, wv, ex]
      refine ⟨decide_eq_true (by omega), b.set u.toNat W, d2, ⟨by omega, hd2⟩, ?_⟩
      rw [List.take_of_length_le (by rw [List.length_map]; omega)]
  have e : ∀ j : Int, k ≠ j → (k == j) = false := fun j h => by simpa using h
  simp -implicitDefEqProofs (maxSteps := 1000000) only [x_s_l1Bend, go_sem, true_implies, false_implies]
  repeat (first | refine ⟨rfl, ?_⟩ | refine ⟨by decide, ?_⟩ | refine ⟨⟨by decide, by decide⟩, ?_⟩ | refine ⟨decide_eq_true (by omega), ?_⟩ | refine ⟨⟨decide_eq_true (by omega), decide_eq_true (by omega)⟩, ?_⟩)
  try (first | done | decide | exact decide_eq_true (by omega) | exact ⟨decide_eq_true (by omega), decide_eq_true (by omega)⟩)
  refine .of (ht) ?_
  try simp -implicitDefEqProofs (maxSteps := 1000000) only [go_sem, true_implies, false_implies, e 0 q0, e 1 q1]
  repeat (first | refine ⟨rfl, ?_⟩ | refine ⟨by decide, ?_⟩ | refine ⟨⟨by decide, by decide⟩, ?_⟩ | refine ⟨decide_eq_true (by omega), ?_⟩ | refine ⟨⟨decide_eq_true (by omega), decide_eq_true (by omega)⟩, ?_⟩)
  try (first | done | decide | exact decide_eq_true (by omega) | exact ⟨decide_eq_true (by omega), decide_eq_true (by omega)⟩)
  exact ⟨b, d0, ⟨Nat.le_refl _, hd0⟩, rfl⟩
def x_s_DrawGetMsg : FnX := ⟨37, [.tmp 2],
  .seq (.reg [⟨none, some 2, 2, .mv (.k (.one (.nils 1)))⟩])
 (.seq (.reg [⟨none, some 6, 6, .mv (.t 0)⟩,
   ⟨none, some 7, 7, .call 47 [0] [(.t 6)]⟩,
   ⟨none, some 3, 3, .mv (.t 7)⟩])
 (.seq (.reg [⟨none, some 8, 8, .mv (.t 3)⟩,
   ⟨none, some 9, 9, .mv (.t 3)⟩,
   ⟨none, some 10, 10, .call 72 [5] [(.t 9)]⟩,
   ⟨none, some 11, 11, .call 71 [0] [(.t 10)]⟩,
   ⟨none, some 12, 12, .call 70 [5, 1] [(.t 8), (.t 11)]⟩,
   ⟨none, some 4, 4, .mv (.t 12)⟩])
 (.seq (.seq (.reg [⟨none, some 13, 13, .mv (.t 3)⟩,
   ⟨none, some 14, 14, .call 73 [5, 0] [(.t 13), (.k (.one (.pv (.int .i64 5))))]⟩,
   ⟨none, some 15, 15, .mv (.t 14)⟩,
   ⟨(some (15, true)), some 16, 16, .mv (.t 4)⟩,
   ⟨(some (15, true)), some 17, 17, .len (.t 16)⟩,
   ⟨(some (15, true)), some 18, 18, .bin .gtr (.t 17) (.k (.one (.pv (.int .i64 7))))⟩,
   ⟨none, some 19, 19, .pick (.t 15) (.t 18) (.k (.one (.pv (.bool false))))⟩])
 (.cond 19 (.seq (.reg [⟨none, some 20, 20, .mv (.t 4)⟩,
   ⟨none, some 21, 21, .mv (.t 4)⟩,
   ⟨none, some 22, 22, .len (.t 21)⟩,
   ⟨none, some 23, 23, .bin .sub (.t 22) (.k (.one (.pv (.int .i64 2))))⟩,
   ⟨none, some 24, 24, .slice 1 (.t 20) none (some (.t 23))⟩,
   ⟨none, some 5, 5, .mv (.t 24)⟩])
 (.seq (.reg [⟨none, some 25, 25, .mv (.t 5)⟩,
   ⟨none, some 26, 26, .mv (.t 3)⟩,
   ⟨none, some 27, 27, .call 74 [5, 0] [(.t 26), (.k (.one (.pv (.int .i64 5))))]⟩,
   ⟨none, some 28, 28, .mv (.t 3)⟩,
   ⟨none, some 29, 29, .call 74 [5, 0] [(.t 28), (.k (.one (.pv (.int .i64 12))))]⟩,
   ⟨none, some 30, 30, .conv (.int .u8) (.t 29)⟩,
   ⟨none, some 31, 31, .iaddr 1 (.t 25) (.t 27)⟩,
   ⟨none, none, 100001, .store 1 (.t 31) (.t 30)⟩])
 (.seq (.reg [⟨none, some 32, 32, .mv (.t 5)⟩,
   ⟨none, some 33, 33, .mv (.t 5)⟩,
   ⟨none, some 34, 34, .call 57 [0] [(.t 33)]⟩,
   ⟨none, some 35, 35, .call 75 [0, 0] [(.t 32), (.t 34)]⟩,
   ⟨none, some 2, 2, .mv (.t 35)⟩])
 (.ret)))) (.skip)))
 (.seq (.reg [⟨none, some 36, 36, .mv (.t 4)⟩,
   ⟨none, some 2, 2, .mv (.t 36)⟩])
 (.ret)))))⟩
abbrev C_s_DrawGetMsg (Te : Nat → List AV → Res → Prop) : Prop := ∀ (l : List UInt8) (hl : l.length ≤ 2 ^ 31), ∃ (b : List UInt8), (b.length ≤ 2 ^ 20) ∧ Te 41 [.one (slT false 1 uR l)] ⟨[.one (slT true 1 uR b)], [[slT false 1 uR l]]⟩
theorem r_s_DrawGetMsg {Te : Nat → List AV → Res → Prop} (c_s_l1New : C_s_l1New Te) (c_s_l16Draw : C_s_l16Draw Te) (c_s_PutMsg : C_s_PutMsg Te) (c_s_l1Bend : C_s_l1Bend Te) (c_s_l1Once : C_s_l1Once Te) (c_s_l1Below : C_s_l1Below Te) (c_s_Sum : C_s_Sum Te) (c_s_PutW : C_s_PutW Te) : ∀ (l : List UInt8) (hl : l.length ≤ 2 ^ 31), ∃ r0, (∃ (b : List UInt8), (b.length ≤ 2 ^ 20) ∧ r0 = (⟨[.one (slT true 1 uR b)], [[slT false 1 uR l]]⟩ : Res)) ∧ RunFn Te x_s_DrawGetMsg [.one (slT false 1 uR l)] r0 := by
  intro l hl
  refine some_of (by simp -implicitDefEqProofs (maxSteps := 1000000) only [x_s_DrawGetMsg, go_sem]) (by rfl) ?_
  simp -implicitDefEqProofs (maxSteps := 1000000) only [x_s_DrawGetMsg, go_sem, true_implies, false_implies]
  repeat (first | refine ⟨rfl, ?_⟩ | refine ⟨by decide, ?_⟩ | refine ⟨⟨by decide, by decide⟩, ?_⟩ | refine ⟨decide_eq_true (by omega), ?_⟩ | refine ⟨⟨decide_eq_true (by omega), decide_eq_true (by omega)⟩, ?_⟩)
  try (first | done | decide | exact decide_eq_true (by omega) | exact ⟨decide_eq_true (by omega), decide_eq_true (by omega)⟩)
  obtain ⟨c, hc, ht⟩ := c_s_l1New l hl
  refine .of (ht) ?_
  try simp -implicitDefEqProofs (maxSteps := 1000000) only [go_sem, true_implies, false_implies]
  repeat (first | refine ⟨rfl, ?_⟩ | refine ⟨by decide, ?_⟩ | refine ⟨⟨by decide, by decide⟩, ?_⟩ | refine ⟨decide_eq_true (by omega), ?_⟩ | refine ⟨⟨decide_eq_true (by omega), decide_eq_true (by omega)⟩, ?_⟩)
  try (first | done | decide | exact decide_eq_true (by omega) | exact ⟨decide_eq_true (by omega), decide_eq_true (by omega)⟩)
  obtain ⟨m, d, ⟨hm, hd⟩, ht⟩ := c_s_l16Draw c hc
  refine .of (ht) ?_
  try simp -implicitDefEqProofs (maxSteps := 1000000) only [go_sem, true_implies, false_implies]
  repeat (first | refine ⟨rfl, ?_⟩ | refine ⟨by decide, ?_⟩ | refine ⟨⟨by decide, by decide⟩, ?_⟩ | refine ⟨decide_eq_true (by omega), ?_⟩ | refine ⟨⟨decide_eq_true (by omega), decide_eq_true (by omega)⟩, ?_⟩)
  try (first | done | decide | exact decide_eq_true (by omega) | exact ⟨decide_eq_true (by omega), decide_eq_true (by omega)⟩)
  have hpl := putMsg_len m
  refine .of (c_s_PutMsg m (msgS_In hm)) ?_
  try simp -implicitDefEqProofs (maxSteps := 1000000) only [go_sem, true_implies, false_implies]
  repeat (first | refine ⟨rfl, ?_⟩ | refine ⟨by decide, ?_⟩ | refine ⟨⟨by decide, by decide⟩, ?_⟩ | refine ⟨decide_eq_true (by omega), ?_⟩ | refine ⟨⟨decide_eq_true (by omega), decide_eq_true (by omega)⟩, ?_⟩)
  try (first | done | decide | exact decide_eq_true (by omega) | exact ⟨decide_eq_true (by omega), decide_eq_true (by omega)⟩)
  obtain ⟨b, d, ⟨hb, hd⟩, ht⟩ := c_s_l1Bend d (putMsg m) hd (by omega)
  refine .of (ht) ?_
  try simp -implicitDefEqProofs (maxSteps := 1000000) only [go_sem, true_implies, false_implies]
  repeat (first | refine ⟨rfl, ?_⟩ | refine ⟨by decide, ?_⟩ | refine ⟨⟨by decide, by decide⟩, ?_⟩ | refine ⟨decide_eq_true (by omega), ?_⟩ | refine ⟨⟨decide_eq_true (by omega), decide_eq_true (by omega)⟩, ?_⟩)
  try (first | done | decide | exact decide_eq_true (by omega) | exact ⟨decide_eq_true (by omega), decide_eq_true (by omega)⟩)
  obtain ⟨r, d, hd, ht⟩ := c_s_l1Once d 5 hd
  refine .of (ht) ?_
  try simp -implicitDefEqProofs (maxSteps := 1000000) only [go_sem, true_implies, false_implies]
  repeat (first | refine ⟨rfl, ?_⟩ | refine ⟨by decide, ?_⟩ | refine ⟨⟨by decide, by decide⟩, ?_⟩ | refine ⟨decide_eq_true (by omega), ?_⟩ | refine ⟨⟨decide_eq_true (by omega), decide_eq_true (by omega)⟩, ?_⟩)
  try (first | done | decide | exact decide_eq_true (by omega) | exact ⟨decide_eq_true (by omega), decide_eq_true (by omega)⟩)
  cases r
  · try simp -implicitDefEqProofs (maxSteps := 1000000) only [go_sem, true_implies, false_implies]
    repeat (first | refine ⟨rfl, ?_⟩ | refine ⟨by decide, ?_⟩ | refine ⟨⟨by decide, by decide⟩, ?_⟩ | refine ⟨decide_eq_true (by omega), ?_⟩ | refine ⟨⟨decide_eq_true (by omega), decide_eq_true (by omega)⟩, ?_⟩)
    try (first | done | decide | exact decide_eq_true (by omega) | exact ⟨decide_eq_true (by omega), decide_eq_true (by omega)⟩)
    exact ⟨b, by omega, rfl⟩
  · cases q : decide ((b.length : Int) > 7)
    · try simp -implicitDefEqProofs (maxSteps := 1000000) only [go_sem, true_implies, false_implies, q]
      repeat (first | refine ⟨rfl, ?_⟩ | refine ⟨by decide, ?_⟩ | refine ⟨⟨by decide, by decide⟩, ?_⟩ | refine ⟨decide_eq_true (by omega), ?_⟩ | refine ⟨⟨decide_eq_true (by omega), decide_eq_true (by omega)⟩, ?_⟩)
      try (first | done | decide | exact decide_eq_true (by omega) | exact ⟨decide_eq_true (by omega), decide_eq_true (by omega)⟩)
      exact ⟨b, by omega, rfl⟩
    · simp only [decide_eq_true_eq] at q
      have q' : decide ((b.length : Int) > 7) = true := decide_eq_true q
      have w1 : IntKind.i64.wrap ((b.length : Int) - 2) = (b.length : Int) - 2 := IntWalk.i64_in _ (by omega)
      obtain ⟨u, d, ⟨hu, hd⟩, ht1⟩ := c_s_l1Below d 5 hd
      have hu1 := hu.2.1 (by decide)
      obtain ⟨v, d, ⟨hv, hd⟩, ht2⟩ := c_s_l1Below d 12 hd
      have hv1 := hv.2.1 (by decide)
      have hu2 : u.toNat < b.length := by omega
      have eg : (List.map uR b).getD u.toNat [] = [uT b[u.toNat]] := by simp [List.getD, List.getElem?_eq_getElem hu2]
      have q1 : decide (u.toNat < b.length) = true := decide_eq_true hu2
      have q2 : decide (u.toNat < ((b.length : Int) - 2).toNat) = true := decide_eq_true (by omega)
      have wv8 : IntKind.u8.wrap v = ((mkU v).toNat : Int) := by
        obtain ⟨n, rfl⟩ : ∃ n : Nat, v = n := ⟨v.toNat, by omega⟩
        rw [IntKind.wrap_u8, loB_nat]
        omega
      have eK : ((b.length : Int) - 2).toNat - 0 = b.length - 2 := by omega
      have es := set_u8 (b := b) (i := u.toNat) (a := b[u.toNat]) (W := mkU v)
      have el : (b.set u.toNat (mkU v)).length = b.length := List.length_set ..
      generalize hW : b.set u.toNat (mkU v) = B at es el
      have et : List.take (b.length - 2) (List.map uR B) = List.map uR (B.take (b.length - 2)) := by rw [← List.map_take]
      have elx : (B.take (b.length - 2)).length = b.length - 2 := by rw [List.length_take]; omega
      have q3 : decide (b.length - 2 ≤ B.length) = true := decide_eq_true (by omega)
      generalize hX : B.take (b.length - 2) = X at et elx
      try simp -implicitDefEqProofs (maxSteps := 1000000) only [go_sem, true_implies, false_implies, q', w1, eK]
      repeat (first | refine ⟨rfl, ?_⟩ | refine ⟨by decide, ?_⟩ | refine ⟨⟨by decide, by decide⟩, ?_⟩ | refine ⟨decide_eq_true (by omega), ?_⟩ | refine ⟨⟨decide_eq_true (by omega), decide_eq_true (by omega)⟩, ?_⟩)
      try (first | done | decide | exact decide_eq_true (by omega) | exact ⟨decide_eq_true (by omega), decide_eq_true (by omega)⟩)
      refine .of (ht1) ?_
      try simp -implicitDefEqProofs (maxSteps := 1000000) only [go_sem, true_implies, false_implies]
      repeat (first | refine ⟨rfl, ?_⟩ | refine ⟨by decide, ?_⟩ | refine ⟨⟨by decide, by decide⟩, ?_⟩ | refine ⟨decide_eq_true (by omega), ?_⟩ | refine ⟨⟨decide_eq_true (by omega), decide_eq_true (by omega)⟩, ?_⟩)
      try (first | done | decide | exact decide_eq_true (by omega) | exact ⟨decide_eq_true (by omega), decide_eq_true (by omega)⟩)
      refine .of (ht2) ?_
      try simp -implicitDefEqProofs (maxSteps := 1000000) only [go_sem, true_implies, false_implies, eg, q1, q2, wv8, eK]
      repeat (first | refine ⟨rfl, ?_⟩ | refine ⟨by decide, ?_⟩ | refine ⟨⟨by decide, by decide⟩, ?_⟩ | refine ⟨decide_eq_true (by omega), ?_⟩ | refine ⟨⟨decide_eq_true (by omega), decide_eq_true (by omega)⟩, ?_⟩)
      try (first | done | decide | exact decide_eq_true (by omega) | exact ⟨decide_eq_true (by omega), decide_eq_true (by omega)⟩)
      simp -implicitDefEqProofs (maxSteps := 1000000) only [go_sem, eg, es, q1, q2, q3, Nat.zero_add, List.length_cons, List.length_nil, wv8, eK, et, el]
      repeat (first | refine ⟨rfl, ?_⟩ | refine ⟨by decide, ?_⟩ | refine ⟨decide_eq_true (by omega), ?_⟩ | refine ⟨⟨by decide, by decide⟩, ?_⟩)
      refine .of (c_s_Sum X (by omega)) ?_
      try simp -implicitDefEqProofs (maxSteps := 1000000) only [go_sem, true_implies, false_implies, et, q3, eK, el]
      repeat (first | refine ⟨rfl, ?_⟩ | refine ⟨by decide, ?_⟩ | refine ⟨⟨by decide, by decide⟩, ?_⟩ | refine ⟨decide_eq_true (by omega), ?_⟩ | refine ⟨⟨decide_eq_true (by omega), decide_eq_true (by omega)⟩, ?_⟩)
      try (first | done | decide | exact decide_eq_true (by omega) | exact ⟨decide_eq_true (by omega), decide_eq_true (by omega)⟩)
      refine .of (c_s_PutW X _ (by omega)) ?_
      try simp -implicitDefEqProofs (maxSteps := 1000000) only [go_sem, true_implies, false_implies]
      repeat (first | refine ⟨rfl, ?_⟩ | refine ⟨by decide, ?_⟩ | refine ⟨⟨by decide, by decide⟩, ?_⟩ | refine ⟨decide_eq_true (by omega), ?_⟩ | refine ⟨⟨decide_eq_true (by omega), decide_eq_true (by omega)⟩, ?_⟩)
      try (first | done | decide | exact decide_eq_true (by omega) | exact ⟨decide_eq_true (by omega), decide_eq_true (by omega)⟩)
      refine ⟨putW X (sum X : Nat), ?_, rfl⟩
      rw [putW_len]
      omega
end Go.X

/- Um -/
namespace Go.X
set_option maxRecDepth 100000
set_option maxHeartbeats 8000000
theorem nodeOf_in' (s : ByteArray) : 3 ≤ nodeOf s ∧ nodeOf s ≤ 4 := by
  unfold nodeOf
  split
  · decide
  · omega
theorem msgok_In {m : Msg} (h : m.ok = true) {n : Nat} (hn : 60 ≤ n := by decide) : m.In n := by
  simp only [Msg.ok, Bool.and_eq_true, decide_eq_true_eq] at h
  obtain ⟨⟨⟨⟨_, h6⟩, h7⟩, _⟩, _⟩ := h
  exact ⟨by omega, by omega⟩
theorem msg_eqs2 (m n : Msg) : eqL [0, 0, 0, 0, 2, 2, 0, 0] [.pv (.int .i64 m.Kind), .pv (.int .i64 m.From), .pv (.int .i64 m.To), .pv (.int .i64 m.Seq), .pv (.string m.Key), .pv (.string m.Text), .pv (.int .i64 m.N), .pv (.int .i64 m.Code)]
    [.pv (.int .i64 n.Kind), .pv (.int .i64 n.From), .pv (.int .i64 n.To), .pv (.int .i64 n.Seq), .pv (.string n.Key), .pv (.string n.Text), .pv (.int .i64 n.N), .pv (.int .i64 n.Code)] = some (decide (m = n)) := by
  have key : (m = n) ↔ m.Kind = n.Kind ∧ m.From = n.From ∧ m.To = n.To ∧ m.Seq = n.Seq ∧ m.Key = n.Key ∧ m.Text = n.Text ∧ m.N = n.N ∧ m.Code = n.Code := by cases m; cases n; simp
  simp only [eqL, eqV, bytes_beq, beq_self_eq_true, cond_true, Option.bind_some, Option.map_some, key]
  congr 1
  rw [Bool.eq_iff_iff]
  simp
end Go.X

/- W_FnMsgs -/
namespace Go.X
set_option maxRecDepth 100000
set_option maxHeartbeats 8000000
def x_l_FnMsgs_3 : XCode := .seq (.reg [⟨none, some 83, 83, .mv (.t 4)⟩,
   ⟨none, some 84, 84, .call 20 [0] [(.t 83)]⟩,
   ⟨none, some 82, 82, .mv (.t 84)⟩,
   ⟨none, some 85, 85, .ext (.t 82) 0⟩,
   ⟨none, some 86, 86, .ext (.t 82) 1⟩,
   ⟨none, some 13, 13, .alloc [.pv (.int .i64 0), .pv (.int .i64 0), .pv (.int .i64 0), .pv (.int .i64 0), .pv (.string ⟨#[]⟩), .pv (.string ⟨#[]⟩), .pv (.int .i64 0), .pv (.int .i64 0)]⟩,
   ⟨none, none, 100005, .store 8 (.t 13) (.t 85)⟩,
   ⟨none, some 14, 14, .mv (.t 86)⟩])
 (.seq (.draw [⟨none, some 87, 87, .mv (.t 4)⟩,
   ⟨none, some 88, 88, .mv (.t 0)⟩,
   ⟨none, some 89, 89, .call 9 [0, 0] [(.t 88), (.k (.one (.pv (.int .i64 2))))]⟩,
   ⟨none, some 90, 90, .mv (.t 4)⟩,
   ⟨none, some 91, 91, .len (.t 90)⟩,
   ⟨none, some 92, 92, .bin .rem (.t 89) (.t 91)⟩,
   ⟨none, some 93, 93, .iaddr 1 (.t 87) (.t 92)⟩,
   ⟨none, some 94, 94, .load none (.t 93)⟩,
   ⟨none, some 95, 95, .mv (.t 0)⟩,
   ⟨none, some 96, 96, .call 9 [0, 0] [(.t 95), (.k (.one (.pv (.int .i64 3))))]⟩,
   ⟨none, some 97, 97, .bin .rem (.t 96) (.k (.one (.pv (.int .i64 255))))⟩,
   ⟨none, some 98, 98, .bin .add (.k (.one (.pv (.int .i64 1)))) (.t 97)⟩,
   ⟨none, some 99, 99, .conv (.int .u8) (.t 98)⟩,
   ⟨none, some 100, 100, .bin .xor (.t 94) (.t 99)⟩,
   ⟨none, some 101, 101, .iaddr 1 (.t 87) (.t 92)⟩,
   ⟨none, none, 100006, .store 1 (.t 101) (.t 100)⟩] [[], [], [1], [], [3], [2, 4], [0, 5], [6], [], [8, 2], [9], [10], [11], [7, 12], [0, 5, 0, 1, 2, 3, 4, 5, 6, 7, 8, 9, 10, 11, 12, 13], [14, 13, 9, 0, 1, 2, 3, 4, 5, 6, 7, 8, 9, 10, 11, 12, 13]])
 (.seq (.reg [⟨none, some 103, 103, .mv (.t 4)⟩,
   ⟨none, some 104, 104, .call 20 [0] [(.t 103)]⟩,
   ⟨none, some 102, 102, .mv (.t 104)⟩,
   ⟨none, some 105, 105, .ext (.t 102) 0⟩,
   ⟨none, some 106, 106, .ext (.t 102) 1⟩,
   ⟨none, some 15, 15, .alloc [.pv (.int .i64 0), .pv (.int .i64 0), .pv (.int .i64 0), .pv (.int .i64 0), .pv (.string ⟨#[]⟩), .pv (.string ⟨#[]⟩), .pv (.int .i64 0), .pv (.int .i64 0)]⟩,
   ⟨none, none, 100007, .store 8 (.t 15) (.t 105)⟩,
   ⟨none, some 16, 16, .mv (.t 106)⟩])
 (.seq (.reg [⟨none, some 107, 107, .mv (.t 14)⟩,
   ⟨none, some 108, 108, .mv (.t 107)⟩,
   ⟨(some (108, true)), some 109, 109, .load (some 8) (.t 13)⟩,
   ⟨(some (108, true)), some 110, 110, .load (some 8) (.t 3)⟩,
   ⟨(some (108, true)), some 111, 111, .eqs false [0, 0, 0, 0, 2, 2, 0, 0] (.t 109) (.t 110)⟩,
   ⟨none, some 112, 112, .pick (.t 108) (.t 111) (.k (.one (.pv (.bool false))))⟩,
   ⟨none, some 113, 113, .mv (.t 112)⟩,
   ⟨(some (113, true)), some 114, 114, .mv (.t 16)⟩,
   ⟨(some (113, true)), some 115, 115, .not (.t 114)⟩,
   ⟨none, some 116, 116, .pick (.t 113) (.t 115) (.k (.one (.pv (.bool false))))⟩,
   ⟨none, some 2, 2, .mv (.t 116)⟩])
 (.ret))))
def x_l_FnMsgs_2 : XCode := .seq (.seq (.reg [⟨none, some 76, 76, .load (some 8) (.t 3)⟩,
   ⟨none, some 77, 77, .call 15 [0] [(.t 76)]⟩,
   ⟨none, some 78, 78, .not (.t 77)⟩])
 (.cond 78 (.seq (.reg [⟨none, some 79, 79, .mv (.t 4)⟩,
   ⟨none, some 80, 80, .len (.t 79)⟩,
   ⟨none, some 81, 81, .bin .eql (.t 80) (.k (.one (.pv (.int .i64 0))))⟩,
   ⟨none, some 2, 2, .mv (.t 81)⟩])
 (.ret)) (.skip)))
 (.norm [0, 3, 4] (x_l_FnMsgs_3))
def x_l_FnMsgs_1 : XCode := .seq (.reg [⟨none, some 35, 35, .mv (.t 0)⟩,
   ⟨none, some 36, 36, .call 42 [0] [(.t 35)]⟩,
   ⟨none, some 10, 10, .alloc [.pv (.int .i64 0), .pv (.int .i64 0), .pv (.int .i64 0), .pv (.int .i64 0), .pv (.string ⟨#[]⟩), .pv (.string ⟨#[]⟩), .pv (.int .i64 0), .pv (.int .i64 0)]⟩,
   ⟨none, none, 100004, .store 8 (.t 10) (.t 36)⟩])
 (.seq (.reg [⟨none, some 37, 37, .mv (.t 0)⟩,
   ⟨none, some 38, 38, .call 43 [0] [(.t 37)]⟩,
   ⟨none, some 11, 11, .mv (.t 38)⟩])
 (.seq (.reg [⟨none, some 39, 39, .mv (.t 11)⟩,
   ⟨none, some 40, 40, .call 44 [0] [(.t 39)]⟩,
   ⟨none, some 12, 12, .mv (.t 40)⟩])
 (.seq (.seq (.draw [⟨none, some 41, 41, .mv (.t 7)⟩,
   ⟨none, some 42, 42, .mv (.t 9)⟩,
   ⟨none, some 43, 43, .beq true (.t 41) (.t 42)⟩,
   ⟨none, some 44, 44, .mv (.t 43)⟩,
   ⟨(some (44, false)), some 45, 45, .mv (.t 7)⟩,
   ⟨(some (44, false)), some 46, 46, .mv (.t 45)⟩,
   ⟨(some (46, true)), some 47, 47, .load (some 8) (.t 6)⟩,
   ⟨(some (46, true)), some 48, 48, .call 40 [0] [(.t 47)]⟩,
   ⟨(some (46, true)), some 49, 49, .conv .b2s (.t 48)⟩,
   ⟨(some (46, true)), some 50, 50, .mv (.t 5)⟩,
   ⟨(some (46, true)), some 51, 51, .conv .b2s (.t 50)⟩,
   ⟨(some (46, true)), some 52, 52, .bin .neq (.t 49) (.t 51)⟩,
   ⟨(some (44, false)), some 53, 53, .pick (.t 46) (.t 52) (.k (.one (.pv (.bool false))))⟩,
   ⟨none, some 54, 54, .pick (.t 44) (.k (.one (.pv (.bool true)))) (.t 53)⟩,
   ⟨none, some 55, 55, .mv (.t 54)⟩,
   ⟨(some (55, false)), some 56, 56, .load (some 8) (.t 10)⟩,
   ⟨(some (55, false)), some 57, 57, .call 15 [0] [(.t 56)]⟩,
   ⟨(some (55, false)), some 58, 58, .load (some 8) (.t 10)⟩,
   ⟨(some (55, false)), some 59, 59, .call 45 [0] [(.t 58)]⟩,
   ⟨(some (55, false)), some 60, 60, .beq true (.t 57) (.t 59)⟩,
   ⟨none, some 61, 61, .pick (.t 55) (.k (.one (.pv (.bool true)))) (.t 60)⟩,
   ⟨none, some 62, 62, .mv (.t 61)⟩,
   ⟨(some (62, false)), some 63, 63, .mv (.t 12)⟩,
   ⟨(some (62, false)), some 64, 64, .mv (.t 11)⟩,
   ⟨(some (62, false)), some 65, 65, .call 46 [0] [(.t 64)]⟩,
   ⟨(some (62, false)), some 66, 66, .bin .neq (.t 63) (.t 65)⟩,
   ⟨none, some 67, 67, .pick (.t 62) (.k (.one (.pv (.bool true)))) (.t 66)⟩,
   ⟨none, some 68, 68, .mv (.t 67)⟩,
   ⟨(some (68, false)), some 69, 69, .mv (.t 12)⟩,
   ⟨(some (68, false)), some 70, 70, .bin .lss (.t 69) (.k (.one (.pv (.int .i64 3))))⟩,
   ⟨none, some 71, 71, .pick (.t 68) (.k (.one (.pv (.bool true)))) (.t 70)⟩,
   ⟨none, some 72, 72, .mv (.t 71)⟩,
   ⟨(some (72, false)), some 73, 73, .mv (.t 12)⟩,
   ⟨(some (72, false)), some 74, 74, .bin .gtr (.t 73) (.k (.one (.pv (.int .i64 4))))⟩,
   ⟨none, some 75, 75, .pick (.t 72) (.k (.one (.pv (.bool true)))) (.t 74)⟩] [[], [], [0, 1], [2], [3], [4, 3, 3], [5], [6, 5, 5], [7, 5], [5], [9, 5], [8, 10, 5], [5, 11, 3], [3, 12], [13, 7], [14], [15, 14, 14], [14], [17, 16, 14], [16, 18, 14], [14, 19], [20, 18], [21], [21], [23, 21, 21], [22, 24, 21], [21, 25], [26, 24], [27], [28, 27], [27, 29], [30, 27], [31], [32, 31], [31, 33]])
 (.cond 75 (.seq (.reg [⟨none, some 2, 2, .mv (.k (.one (.pv (.bool false))))⟩])
 (.ret)) (.skip)))
 (.norm [0, 3, 4] (x_l_FnMsgs_2)))))
def x_l_FnMsgs : FnX := ⟨117, [.tmp 2],
  .seq (.reg [⟨none, some 2, 2, .mv (.k (.one (.pv (.bool false))))⟩])
 (.seq (.seq (.reg [⟨none, some 17, 17, .mv (.t 0)⟩,
   ⟨none, some 18, 18, .call 7 [0] [(.t 17)]⟩])
 (.cond 18 (.seq (.reg [⟨none, some 2, 2, .mv (.k (.one (.pv (.bool true))))⟩])
 (.ret)) (.skip)))
 (.seq (.reg [⟨none, some 19, 19, .mv (.t 0)⟩,
   ⟨none, some 20, 20, .call 39 [0] [(.t 19)]⟩,
   ⟨none, some 3, 3, .alloc [.pv (.int .i64 0), .pv (.int .i64 0), .pv (.int .i64 0), .pv (.int .i64 0), .pv (.string ⟨#[]⟩), .pv (.string ⟨#[]⟩), .pv (.int .i64 0), .pv (.int .i64 0)]⟩,
   ⟨none, none, 100001, .store 8 (.t 3) (.t 20)⟩])
 (.seq (.reg [⟨none, some 21, 21, .load (some 8) (.t 3)⟩,
   ⟨none, some 22, 22, .call 40 [0] [(.t 21)]⟩,
   ⟨none, some 4, 4, .mv (.t 22)⟩])
 (.seq (.reg [⟨none, some 23, 23, .mv (.t 0)⟩,
   ⟨none, some 24, 24, .call 41 [0] [(.t 23)]⟩,
   ⟨none, some 5, 5, .mv (.t 24)⟩])
 (.seq (.reg [⟨none, some 26, 26, .mv (.t 5)⟩,
   ⟨none, some 27, 27, .call 20 [0] [(.t 26)]⟩,
   ⟨none, some 25, 25, .mv (.t 27)⟩,
   ⟨none, some 28, 28, .ext (.t 25) 0⟩,
   ⟨none, some 29, 29, .ext (.t 25) 1⟩,
   ⟨none, some 6, 6, .alloc [.pv (.int .i64 0), .pv (.int .i64 0), .pv (.int .i64 0), .pv (.int .i64 0), .pv (.string ⟨#[]⟩), .pv (.string ⟨#[]⟩), .pv (.int .i64 0), .pv (.int .i64 0)]⟩,
   ⟨none, none, 100002, .store 8 (.t 6) (.t 28)⟩,
   ⟨none, some 7, 7, .mv (.t 29)⟩])
 (.seq (.reg [⟨none, some 31, 31, .mv (.t 5)⟩,
   ⟨none, some 32, 32, .call 18 [0] [(.t 31)]⟩,
   ⟨none, some 30, 30, .mv (.t 32)⟩,
   ⟨none, some 33, 33, .ext (.t 30) 0⟩,
   ⟨none, some 34, 34, .ext (.t 30) 1⟩,
   ⟨none, some 8, 8, .alloc [.pv (.int .i64 0), .pv (.int .i64 0), .pv (.int .i64 0), .pv (.int .i64 0), .pv (.string ⟨#[]⟩), .pv (.string ⟨#[]⟩), .pv (.int .i64 0), .pv (.int .i64 0)]⟩,
   ⟨none, none, 100003, .store 8 (.t 8) (.t 33)⟩,
   ⟨none, some 9, 9, .mv (.t 34)⟩])
 (.norm [0, 3, 4, 5, 6, 7, 9] (x_l_FnMsgs_1))))))))⟩
abbrev C_l_FnMsgs (Te : Nat → List AV → Res → Prop) : Prop := ∀ (code : List UInt8) (h : code.length ≤ 2 ^ 48), Te 6 [.one (slT false 1 uR code)] ⟨[.one (bT true)], [[slT false 1 uR code]]⟩
theorem r_l_FnMsgs {Te : Nat → List AV → Res → Prop} (c_l_big : C_l_big Te) (c_s_DrawPutMsg : C_s_DrawPutMsg Te) (c_i_PutMsg : C_i_PutMsg Te) (c_s_DrawGetMsg : C_s_DrawGetMsg Te) (c_i_GetMsg : C_i_GetMsg Te) (c_s_GetMsg : C_s_GetMsg Te) (c_s_DrawMsgOk : C_s_DrawMsgOk Te) (c_s_DrawNodeOf : C_s_DrawNodeOf Te) (c_i_NodeOf : C_i_NodeOf Te) (c_i_MsgOk : C_i_MsgOk Te) (c_s_MsgOk : C_s_MsgOk Te) (c_s_NodeOf : C_s_NodeOf Te) (c_l_at : C_l_at Te) : ∀ (code : List UInt8) (h : code.length ≤ 2 ^ 48), RunFn Te x_l_FnMsgs [.one (slT false 1 uR code)] ⟨[.one (bT true)], [[slT false 1 uR code]]⟩ := by
  intro code h
  refine ⟨by simp -implicitDefEqProofs (maxSteps := 1000000) only [x_l_FnMsgs, go_sem], ?_⟩
  have xT : (true != false) = true := rfl
  have xF : (false != true) = true := rfl
  have xB : (true != true) = false := rfl
  have eM : ∀ z : Msg, decide (z = z) = true := fun z => decide_eq_true rfl
  simp -implicitDefEqProofs (maxSteps := 1000000) only [x_l_FnMsgs, go_sem, true_implies, false_implies]
  repeat (first | refine ⟨rfl, ?_⟩ | refine ⟨by decide, ?_⟩ | refine ⟨⟨by decide, by decide⟩, ?_⟩ | refine ⟨decide_eq_true (by omega), ?_⟩ | refine ⟨⟨decide_eq_true (by omega), decide_eq_true (by omega)⟩, ?_⟩)
  try (first | done | decide | exact decide_eq_true (by omega) | exact ⟨decide_eq_true (by omega), decide_eq_true (by omega)⟩)
  refine .of (c_l_big _) ?_
  try simp -implicitDefEqProofs (maxSteps := 1000000) only [go_sem, true_implies, false_implies]
  repeat (first | refine ⟨rfl, ?_⟩ | refine ⟨by decide, ?_⟩ | refine ⟨⟨by decide, by decide⟩, ?_⟩ | refine ⟨decide_eq_true (by omega), ?_⟩ | refine ⟨⟨decide_eq_true (by omega), decide_eq_true (by omega)⟩, ?_⟩)
  try (first | done | decide | exact decide_eq_true (by omega) | exact ⟨decide_eq_true (by omega), decide_eq_true (by omega)⟩)
  refine fun q => ?_
  have hc : code.length ≤ 2 ^ 31 := by simp only [decide_eq_false_iff_not] at q; omega
  try simp -implicitDefEqProofs (maxSteps := 1000000) only [go_sem, true_implies, false_implies]
  repeat (first | refine ⟨rfl, ?_⟩ | refine ⟨by decide, ?_⟩ | refine ⟨⟨by decide, by decide⟩, ?_⟩ | refine ⟨decide_eq_true (by omega), ?_⟩ | refine ⟨⟨decide_eq_true (by omega), decide_eq_true (by omega)⟩, ?_⟩)
  try (first | done | decide | exact decide_eq_true (by omega) | exact ⟨decide_eq_true (by omega), decide_eq_true (by omega)⟩)
  obtain ⟨m, hm, ht⟩ := c_s_DrawPutMsg code hc
  refine .of (ht) ?_
  try simp -implicitDefEqProofs (maxSteps := 1000000) only [go_sem, true_implies, false_implies]
  repeat (first | refine ⟨rfl, ?_⟩ | refine ⟨by decide, ?_⟩ | refine ⟨⟨by decide, by decide⟩, ?_⟩ | refine ⟨decide_eq_true (by omega), ?_⟩ | refine ⟨⟨decide_eq_true (by omega), decide_eq_true (by omega)⟩, ?_⟩)
  try (first | done | decide | exact decide_eq_true (by omega) | exact ⟨decide_eq_true (by omega), decide_eq_true (by omega)⟩)
  have hpl := putMsg_len m
  refine .of (c_i_PutMsg m (msgS_In hm)) ?_
  try simp -implicitDefEqProofs (maxSteps := 1000000) only [go_sem, true_implies, false_implies]
  repeat (first | refine ⟨rfl, ?_⟩ | refine ⟨by decide, ?_⟩ | refine ⟨⟨by decide, by decide⟩, ?_⟩ | refine ⟨decide_eq_true (by omega), ?_⟩ | refine ⟨⟨decide_eq_true (by omega), decide_eq_true (by omega)⟩, ?_⟩)
  try (first | done | decide | exact decide_eq_true (by omega) | exact ⟨decide_eq_true (by omega), decide_eq_true (by omega)⟩)
  obtain ⟨C, hC, ht⟩ := c_s_DrawGetMsg code hc
  refine .of (ht) ?_
  try simp -implicitDefEqProofs (maxSteps := 1000000) only [go_sem, true_implies, false_implies]
  repeat (first | refine ⟨rfl, ?_⟩ | refine ⟨by decide, ?_⟩ | refine ⟨⟨by decide, by decide⟩, ?_⟩ | refine ⟨decide_eq_true (by omega), ?_⟩ | refine ⟨⟨decide_eq_true (by omega), decide_eq_true (by omega)⟩, ?_⟩)
  try (first | done | decide | exact decide_eq_true (by omega) | exact ⟨decide_eq_true (by omega), decide_eq_true (by omega)⟩)
  have h1 := c_i_GetMsg C (by omega)
  have h2 := c_s_GetMsg C (by omega)
  have hput : (getMsg C).2 = true → (getMsg C).1.ok = true ∧ putMsg (getMsg C).1 = C := by
    intro g
    have hg : getMsg C = ((getMsg C).1, true) := by rw [← g]
    exact ⟨(getMsg_shape hg).1, putMsg_get hg⟩
  generalize getMsg C = r at h1 h2 hput
  obtain ⟨y, is⟩ := r
  simp only at h1 h2 hput
  refine .of (h1) ?_
  try simp -implicitDefEqProofs (maxSteps := 1000000) only [go_sem, true_implies, false_implies]
  repeat (first | refine ⟨rfl, ?_⟩ | refine ⟨by decide, ?_⟩ | refine ⟨⟨by decide, by decide⟩, ?_⟩ | refine ⟨decide_eq_true (by omega), ?_⟩ | refine ⟨⟨decide_eq_true (by omega), decide_eq_true (by omega)⟩, ?_⟩)
  try (first | done | decide | exact decide_eq_true (by omega) | exact ⟨decide_eq_true (by omega), decide_eq_true (by omega)⟩)
  refine .of (h2) ?_
  try simp -implicitDefEqProofs (maxSteps := 1000000) only [go_sem, true_implies, false_implies, x_l_FnMsgs_1]
  repeat (first | refine ⟨rfl, ?_⟩ | refine ⟨by decide, ?_⟩ | refine ⟨⟨by decide, by decide⟩, ?_⟩ | refine ⟨decide_eq_true (by omega), ?_⟩ | refine ⟨⟨decide_eq_true (by omega), decide_eq_true (by omega)⟩, ?_⟩)
  try (first | done | decide | exact decide_eq_true (by omega) | exact ⟨decide_eq_true (by omega), decide_eq_true (by omega)⟩)
  obtain ⟨a, ha, ht⟩ := c_s_DrawMsgOk code hc
  refine .of (ht) ?_
  try simp -implicitDefEqProofs (maxSteps := 1000000) only [go_sem, true_implies, false_implies]
  repeat (first | refine ⟨rfl, ?_⟩ | refine ⟨by decide, ?_⟩ | refine ⟨⟨by decide, by decide⟩, ?_⟩ | refine ⟨decide_eq_true (by omega), ?_⟩ | refine ⟨⟨decide_eq_true (by omega), decide_eq_true (by omega)⟩, ?_⟩)
  try (first | done | decide | exact decide_eq_true (by omega) | exact ⟨decide_eq_true (by omega), decide_eq_true (by omega)⟩)
  obtain ⟨s, hs, ht⟩ := c_s_DrawNodeOf code hc
  refine .of (ht) ?_
  try simp -implicitDefEqProofs (maxSteps := 1000000) only [go_sem, true_implies, false_implies]
  repeat (first | refine ⟨rfl, ?_⟩ | refine ⟨by decide, ?_⟩ | refine ⟨⟨by decide, by decide⟩, ?_⟩ | refine ⟨decide_eq_true (by omega), ?_⟩ | refine ⟨⟨decide_eq_true (by omega), decide_eq_true (by omega)⟩, ?_⟩)
  try (first | done | decide | exact decide_eq_true (by omega) | exact ⟨decide_eq_true (by omega), decide_eq_true (by omega)⟩)
  obtain ⟨n3, n4⟩ := nodeOf_in' s
  have k3 : decide (nodeOf s < 3) = false := decide_eq_false (by omega)
  have k4 : decide (nodeOf s > 4) = false := decide_eq_false (by omega)
  refine .of (c_i_NodeOf s (by omega)) ?_
  try simp -implicitDefEqProofs (maxSteps := 1000000) only [go_sem, true_implies, false_implies, bne_self_eq_false, xB]
  repeat (first | refine ⟨rfl, ?_⟩ | refine ⟨by decide, ?_⟩ | refine ⟨⟨by decide, by decide⟩, ?_⟩ | refine ⟨decide_eq_true (by omega), ?_⟩ | refine ⟨⟨decide_eq_true (by omega), decide_eq_true (by omega)⟩, ?_⟩)
  try (first | done | decide | exact decide_eq_true (by omega) | exact ⟨decide_eq_true (by omega), decide_eq_true (by omega)⟩)
  cases is
  · try simp -implicitDefEqProofs (maxSteps := 1000000) only [go_sem, true_implies, false_implies]
    repeat (first | refine ⟨rfl, ?_⟩ | refine ⟨by decide, ?_⟩ | refine ⟨⟨by decide, by decide⟩, ?_⟩ | refine ⟨decide_eq_true (by omega), ?_⟩ | refine ⟨⟨decide_eq_true (by omega), decide_eq_true (by omega)⟩, ?_⟩)
    try (first | done | decide | exact decide_eq_true (by omega) | exact ⟨decide_eq_true (by omega), decide_eq_true (by omega)⟩)
    refine .of (c_i_MsgOk a) ?_
    try simp -implicitDefEqProofs (maxSteps := 1000000) only [go_sem, true_implies, false_implies]
    repeat (first | refine ⟨rfl, ?_⟩ | refine ⟨by decide, ?_⟩ | refine ⟨⟨by decide, by decide⟩, ?_⟩ | refine ⟨decide_eq_true (by omega), ?_⟩ | refine ⟨⟨decide_eq_true (by omega), decide_eq_true (by omega)⟩, ?_⟩)
    try (first | done | decide | exact decide_eq_true (by omega) | exact ⟨decide_eq_true (by omega), decide_eq_true (by omega)⟩)
    refine .of (c_s_MsgOk a) ?_
    try simp -implicitDefEqProofs (maxSteps := 1000000) only [go_sem, true_implies, false_implies, bne_self_eq_false, beq_self_eq_true, xT, xF, xB]
    repeat (first | refine ⟨rfl, ?_⟩ | refine ⟨by decide, ?_⟩ | refine ⟨⟨by decide, by decide⟩, ?_⟩ | refine ⟨decide_eq_true (by omega), ?_⟩ | refine ⟨⟨decide_eq_true (by omega), decide_eq_true (by omega)⟩, ?_⟩)
    try (first | done | decide | exact decide_eq_true (by omega) | exact ⟨decide_eq_true (by omega), decide_eq_true (by omega)⟩)
    refine .of (c_s_NodeOf s (by omega)) ?_
    try simp -implicitDefEqProofs (maxSteps := 1000000) only [go_sem, true_implies, false_implies, bne_self_eq_false, xB, k3, k4, x_l_FnMsgs_2]
    repeat (first | refine ⟨rfl, ?_⟩ | refine ⟨by decide, ?_⟩ | refine ⟨⟨by decide, by decide⟩, ?_⟩ | refine ⟨decide_eq_true (by omega), ?_⟩ | refine ⟨⟨decide_eq_true (by omega), decide_eq_true (by omega)⟩, ?_⟩)
    try (first | done | decide | exact decide_eq_true (by omega) | exact ⟨decide_eq_true (by omega), decide_eq_true (by omega)⟩)
    refine .of (c_i_MsgOk m) ?_
    try simp -implicitDefEqProofs (maxSteps := 1000000) only [go_sem, true_implies, false_implies]
    repeat (first | refine ⟨rfl, ?_⟩ | refine ⟨by decide, ?_⟩ | refine ⟨⟨by decide, by decide⟩, ?_⟩ | refine ⟨decide_eq_true (by omega), ?_⟩ | refine ⟨⟨decide_eq_true (by omega), decide_eq_true (by omega)⟩, ?_⟩)
    try (first | done | decide | exact decide_eq_true (by omega) | exact ⟨decide_eq_true (by omega), decide_eq_true (by omega)⟩)
    cases hok : m.ok
    · have e0 : putMsg m = [] := by unfold putMsg; rw [hok]; rfl
      rw [e0]
      try simp -implicitDefEqProofs (maxSteps := 1000000) only [go_sem, true_implies, false_implies, hok, x_l_FnMsgs_3, List.length_nil, show (((0 : Nat) : Int) == 0) = true from rfl]
      repeat (first | refine ⟨rfl, ?_⟩ | refine ⟨by decide, ?_⟩ | refine ⟨⟨by decide, by decide⟩, ?_⟩ | refine ⟨decide_eq_true (by omega), ?_⟩ | refine ⟨⟨decide_eq_true (by omega), decide_eq_true (by omega)⟩, ?_⟩)
      try (first | done | decide | exact decide_eq_true (by omega) | exact ⟨decide_eq_true (by omega), decide_eq_true (by omega)⟩)
    · have h3 := c_i_GetMsg (putMsg m) (by omega)
      rw [getMsg_put hok] at h3
      have hl7 : 7 ≤ (putMsg m).length := (getMsg_shape (getMsg_put hok)).2.2.1
      try simp -implicitDefEqProofs (maxSteps := 1000000) only [go_sem, true_implies, false_implies, hok, x_l_FnMsgs_3]
      repeat (first | refine ⟨rfl, ?_⟩ | refine ⟨by decide, ?_⟩ | refine ⟨⟨by decide, by decide⟩, ?_⟩ | refine ⟨decide_eq_true (by omega), ?_⟩ | refine ⟨⟨decide_eq_true (by omega), decide_eq_true (by omega)⟩, ?_⟩)
      try (first | done | decide | exact decide_eq_true (by omega) | exact ⟨decide_eq_true (by omega), decide_eq_true (by omega)⟩)
      refine .of (h3) ?_
      try simp -implicitDefEqProofs (maxSteps := 1000000) only [go_sem, true_implies, false_implies]
      repeat (first | refine ⟨rfl, ?_⟩ | refine ⟨by decide, ?_⟩ | refine ⟨⟨by decide, by decide⟩, ?_⟩ | refine ⟨decide_eq_true (by omega), ?_⟩ | refine ⟨⟨decide_eq_true (by omega), decide_eq_true (by omega)⟩, ?_⟩)
      try (first | done | decide | exact decide_eq_true (by omega) | exact ⟨decide_eq_true (by omega), decide_eq_true (by omega)⟩)
      obtain ⟨i0, hi0, ht⟩ := c_l_at code 2 (by decide) hc
      obtain ⟨v0, hv0, ht2⟩ := c_l_at code 3 (by decide) hc
      have hI := tmod_in hi0.1 (show (0 : Int) < (putMsg m).length by omega)
      have hV := tmod_in hv0.1 (show (0 : Int) < 255 by decide)
      have hz : (!(((putMsg m).length : Int) == 0)) = true := by simp; intro e; rw [e] at hl7; simp at hl7
      have turned := fun j hj x hx => getMsg_turned hok (j := j) hj (x := x) hx
      generalize putMsg m = b at hpl hl7 hI hz turned
      obtain ⟨i, hi⟩ : ∃ i, i = i0.tmod (b.length : Int) := ⟨_, rfl⟩
      obtain ⟨v, hv⟩ : ∃ v, v = v0.tmod 255 := ⟨_, rfl⟩
      rw [← hi] at hI
      rw [← hv] at hV
      have hu2 : i.toNat < b.length := by omega
      have eg : (List.map uR b).getD i.toNat [] = [uT b[i.toNat]] := by simp [List.getD, List.getElem?_eq_getElem hu2]
      have q1 : decide (i.toNat < b.length) = true := decide_eq_true hu2
      have wv : IntKind.i64.wrap (1 + v) = 1 + v := IntWalk.i64_in _ (by omega)
      have ex := xor_u8 b[i.toNat] (w := 1 + v) (by omega) (by omega)
      have es := set_u8 (b := b) (i := i.toNat) (a := b[i.toNat]) (W := b[i.toNat] ^^^ mkU (1 + v))
      have el : (b.set i.toNat (b[i.toNat] ^^^ mkU (1 + v))).length = b.length := List.length_set ..
      have tb := turned i.toNat hu2 _ (xor_ne b[i.toNat] (w := 1 + v) (by omega) (by omega))
      have h4 := c_i_GetMsg (b.set i.toNat (b[i.toNat] ^^^ mkU (1 + v))) (by omega)
      generalize hW : b[i.toNat] ^^^ mkU (1 + v) = W at ex es el tb h4
      generalize hB : b.set i.toNat W = B at es el tb h4
      have et : List.take b.length (List.map uR B) = List.map uR B := List.take_of_length_le (by rw [List.length_map]; omega)
      have q3 : decide (b.length ≤ B.length) = true := decide_eq_true (by omega)
      refine .of (ht) ?_
      try simp -implicitDefEqProofs (maxSteps := 1000000) only [go_sem, true_implies, false_implies, hz, ← hi, eg, q1]
      repeat (first | refine ⟨rfl, ?_⟩ | refine ⟨by decide, ?_⟩ | refine ⟨⟨by decide, by decide⟩, ?_⟩ | refine ⟨decide_eq_true (by omega), ?_⟩ | refine ⟨⟨decide_eq_true (by omega), decide_eq_true (by omega)⟩, ?_⟩)
      try (first | done | decide | exact decide_eq_true (by omega) | exact ⟨decide_eq_true (by omega), decide_eq_true (by omega)⟩)
      refine .of (ht2) ?_
      try simp -implicitDefEqProofs (maxSteps := 1000000) only [go_sem, true_implies, false_implies, ← hv, wv, ex, storeAp, eg, q1, es]
      repeat (first | refine ⟨rfl, ?_⟩ | refine ⟨by decide, ?_⟩ | refine ⟨⟨by decide, by decide⟩, ?_⟩ | refine ⟨decide_eq_true (by omega), ?_⟩ | refine ⟨⟨decide_eq_true (by omega), decide_eq_true (by omega)⟩, ?_⟩)
      try (first | done | decide | exact decide_eq_true (by omega) | exact ⟨decide_eq_true (by omega), decide_eq_true (by omega)⟩)
      simp -implicitDefEqProofs (maxSteps := 1000000) only [go_sem, et, q3]
      repeat (first | refine ⟨rfl, ?_⟩ | refine ⟨by decide, ?_⟩ | refine ⟨decide_eq_true (by omega), ?_⟩ | refine ⟨⟨by decide, by decide⟩, ?_⟩)
      refine .of (h4) ?_
      try simp -implicitDefEqProofs (maxSteps := 1000000) only [go_sem, true_implies, false_implies, msg_eqs2, eM, tb, xT, xF, xB]
      repeat (first | refine ⟨rfl, ?_⟩ | refine ⟨by decide, ?_⟩ | refine ⟨⟨by decide, by decide⟩, ?_⟩ | refine ⟨decide_eq_true (by omega), ?_⟩ | refine ⟨⟨decide_eq_true (by omega), decide_eq_true (by omega)⟩, ?_⟩)
      try (first | done | decide | exact decide_eq_true (by omega) | exact ⟨decide_eq_true (by omega), decide_eq_true (by omega)⟩)
  · obtain ⟨y1, y2⟩ := hput rfl
    have eC := areBytes_uL C
    have eD := bytesOf_uL C
    have h5 := c_i_PutMsg y (msgok_In y1)
    rw [y2] at h5
    try simp -implicitDefEqProofs (maxSteps := 1000000) only [go_sem, true_implies, false_implies]
    repeat (first | refine ⟨rfl, ?_⟩ | refine ⟨by decide, ?_⟩ | refine ⟨⟨by decide, by decide⟩, ?_⟩ | refine ⟨decide_eq_true (by omega), ?_⟩ | refine ⟨⟨decide_eq_true (by omega), decide_eq_true (by omega)⟩, ?_⟩)
    try (first | done | decide | exact decide_eq_true (by omega) | exact ⟨decide_eq_true (by omega), decide_eq_true (by omega)⟩)
    refine .of (h5) ?_
    try simp -implicitDefEqProofs (maxSteps := 1000000) only [go_sem, true_implies, false_implies, eC, eD, bytes_beq]
    repeat (first | refine ⟨rfl, ?_⟩ | refine ⟨by decide, ?_⟩ | refine ⟨⟨by decide, by decide⟩, ?_⟩ | refine ⟨decide_eq_true (by omega), ?_⟩ | refine ⟨⟨decide_eq_true (by omega), decide_eq_true (by omega)⟩, ?_⟩)
    try (first | done | decide | exact decide_eq_true (by omega) | exact ⟨decide_eq_true (by omega), decide_eq_true (by omega)⟩)
    refine .of (c_i_MsgOk a) ?_
    try simp -implicitDefEqProofs (maxSteps := 1000000) only [go_sem, true_implies, false_implies]
    repeat (first | refine ⟨rfl, ?_⟩ | refine ⟨by decide, ?_⟩ | refine ⟨⟨by decide, by decide⟩, ?_⟩ | refine ⟨decide_eq_true (by omega), ?_⟩ | refine ⟨⟨decide_eq_true (by omega), decide_eq_true (by omega)⟩, ?_⟩)
    try (first | done | decide | exact decide_eq_true (by omega) | exact ⟨decide_eq_true (by omega), decide_eq_true (by omega)⟩)
    refine .of (c_s_MsgOk a) ?_
    try simp -implicitDefEqProofs (maxSteps := 1000000) only [go_sem, true_implies, false_implies, bne_self_eq_false, beq_self_eq_true, xT, xF, xB]
    repeat (first | refine ⟨rfl, ?_⟩ | refine ⟨by decide, ?_⟩ | refine ⟨⟨by decide, by decide⟩, ?_⟩ | refine ⟨decide_eq_true (by omega), ?_⟩ | refine ⟨⟨decide_eq_true (by omega), decide_eq_true (by omega)⟩, ?_⟩)
    try (first | done | decide | exact decide_eq_true (by omega) | exact ⟨decide_eq_true (by omega), decide_eq_true (by omega)⟩)
    refine .of (c_s_NodeOf s (by omega)) ?_
    try simp -implicitDefEqProofs (maxSteps := 1000000) only [go_sem, true_implies, false_implies, bne_self_eq_false, xB, k3, k4, x_l_FnMsgs_2]
    repeat (first | refine ⟨rfl, ?_⟩ | refine ⟨by decide, ?_⟩ | refine ⟨⟨by decide, by decide⟩, ?_⟩ | refine ⟨decide_eq_true (by omega), ?_⟩ | refine ⟨⟨decide_eq_true (by omega), decide_eq_true (by omega)⟩, ?_⟩)
    try (first | done | decide | exact decide_eq_true (by omega) | exact ⟨decide_eq_true (by omega), decide_eq_true (by omega)⟩)
    refine .of (c_i_MsgOk m) ?_
    try simp -implicitDefEqProofs (maxSteps := 1000000) only [go_sem, true_implies, false_implies]
    repeat (first | refine ⟨rfl, ?_⟩ | refine ⟨by decide, ?_⟩ | refine ⟨⟨by decide, by decide⟩, ?_⟩ | refine ⟨decide_eq_true (by omega), ?_⟩ | refine ⟨⟨decide_eq_true (by omega), decide_eq_true (by omega)⟩, ?_⟩)
    try (first | done | decide | exact decide_eq_true (by omega) | exact ⟨decide_eq_true (by omega), decide_eq_true (by omega)⟩)
    cases hok : m.ok
    · have e0 : putMsg m = [] := by unfold putMsg; rw [hok]; rfl
      rw [e0]
      try simp -implicitDefEqProofs (maxSteps := 1000000) only [go_sem, true_implies, false_implies, hok, x_l_FnMsgs_3, List.length_nil, show (((0 : Nat) : Int) == 0) = true from rfl]
      repeat (first | refine ⟨rfl, ?_⟩ | refine ⟨by decide, ?_⟩ | refine ⟨⟨by decide, by decide⟩, ?_⟩ | refine ⟨decide_eq_true (by omega), ?_⟩ | refine ⟨⟨decide_eq_true (by omega), decide_eq_true (by omega)⟩, ?_⟩)
      try (first | done | decide | exact decide_eq_true (by omega) | exact ⟨decide_eq_true (by omega), decide_eq_true (by omega)⟩)
    · have h3 := c_i_GetMsg (putMsg m) (by omega)
      rw [getMsg_put hok] at h3
      have hl7 : 7 ≤ (putMsg m).length := (getMsg_shape (getMsg_put hok)).2.2.1
      try simp -implicitDefEqProofs (maxSteps := 1000000) only [go_sem, true_implies, false_implies, hok, x_l_FnMsgs_3]
      repeat (first | refine ⟨rfl, ?_⟩ | refine ⟨by decide, ?_⟩ | refine ⟨⟨by decide, by decide⟩, ?_⟩ | refine ⟨decide_eq_true (by omega), ?_⟩ | refine ⟨⟨decide_eq_true (by omega), decide_eq_true (by omega)⟩, ?_⟩)
      try (first | done | decide | exact decide_eq_true (by omega) | exact ⟨decide_eq_true (by omega), decide_eq_true (by omega)⟩)
      refine .of (h3) ?_
      try simp -implicitDefEqProofs (maxSteps := 1000000) only [go_sem, true_implies, false_implies]
      repeat (first | refine ⟨rfl, ?_⟩ | refine ⟨by decide, ?_⟩ | refine ⟨⟨by decide, by decide⟩, ?_⟩ | refine ⟨decide_eq_true (by omega), ?_⟩ | refine ⟨⟨decide_eq_true (by omega), decide_eq_true (by omega)⟩, ?_⟩)
      try (first | done | decide | exact decide_eq_true (by omega) | exact ⟨decide_eq_true (by omega), decide_eq_true (by omega)⟩)
      obtain ⟨i0, hi0, ht⟩ := c_l_at code 2 (by decide) hc
      obtain ⟨v0, hv0, ht2⟩ := c_l_at code 3 (by decide) hc
      have hI := tmod_in hi0.1 (show (0 : Int) < (putMsg m).length by omega)
      have hV := tmod_in hv0.1 (show (0 : Int) < 255 by decide)
      have hz : (!(((putMsg m).length : Int) == 0)) = true := by simp; intro e; rw [e] at hl7; simp at hl7
      have turned := fun j hj x hx => getMsg_turned hok (j := j) hj (x := x) hx
      generalize putMsg m = b at hpl hl7 hI hz turned
      obtain ⟨i, hi⟩ : ∃ i, i = i0.tmod (b.length : Int) := ⟨_, rfl⟩
      obtain ⟨v, hv⟩ : ∃ v, v = v0.tmod 255 := ⟨_, rfl⟩
      rw [← hi] at hI
      rw [← hv] at hV
      have hu2 : i.toNat < b.length := by omega
      have eg : (List.map uR b).getD i.toNat [] = [uT b[i.toNat]] := by simp [List.getD, List.getElem?_eq_getElem hu2]
      have q1 : decide (i.toNat < b.length) = true := decide_eq_true hu2
      have wv : IntKind.i64.wrap (1 + v) = 1 + v := IntWalk.i64_in _ (by omega)
      have ex := xor_u8 b[i.toNat] (w := 1 + v) (by omega) (by omega)
      have es := set_u8 (b := b) (i := i.toNat) (a := b[i.toNat]) (W := b[i.toNat] ^^^ mkU (1 + v))
      have el : (b.set i.toNat (b[i.toNat] ^^^ mkU (1 + v))).length = b.length := List.length_set ..
      have tb := turned i.toNat hu2 _ (xor_ne b[i.toNat] (w := 1 + v) (by omega) (by omega))
      have h4 := c_i_GetMsg (b.set i.toNat (b[i.toNat] ^^^ mkU (1 + v))) (by omega)
      generalize hW : b[i.toNat] ^^^ mkU (1 + v) = W at ex es el tb h4
      generalize hB : b.set i.toNat W = B at es el tb h4
      have et : List.take b.length (List.map uR B) = List.map uR B := List.take_of_length_le (by rw [List.length_map]; omega)
      have q3 : decide (b.length ≤ B.length) = true := decide_eq_true (by omega)
      refine .of (ht) ?_
      try simp -implicitDefEqProofs (maxSteps := 1000000) only [go_sem, true_implies, false_implies, hz, ← hi, eg, q1]
      repeat (first | refine ⟨rfl, ?_⟩ | refine ⟨by decide, ?_⟩ | refine ⟨⟨by decide, by decide⟩, ?_⟩ | refine ⟨decide_eq_true (by omega), ?_⟩ | refine ⟨⟨decide_eq_true (by omega), decide_eq_true (by omega)⟩, ?_⟩)
      try (first | done | decide | exact decide_eq_true (by omega) | exact ⟨decide_eq_true (by omega), decide_eq_true (by omega)⟩)
      refine .of (ht2) ?_
      try simp -implicitDefEqProofs (maxSteps := 1000000) only [go_sem, true_implies, false_implies, ← hv, wv, ex, storeAp, eg, q1, es]
      repeat (first | refine ⟨rfl, ?_⟩ | refine ⟨by decide, ?_⟩ | refine ⟨⟨by decide, by decide⟩, ?_⟩ | refine ⟨decide_eq_true (by omega), ?_⟩ | refine ⟨⟨decide_eq_true (by omega), decide_eq_true (by omega)⟩, ?_⟩)
      try (first | done | decide | exact decide_eq_true (by omega) | exact ⟨decide_eq_true (by omega), decide_eq_true (by omega)⟩)
      simp -implicitDefEqProofs (maxSteps := 1000000) only [go_sem, et, q3]
      repeat (first | refine ⟨rfl, ?_⟩ | refine ⟨by decide, ?_⟩ | refine ⟨decide_eq_true (by omega), ?_⟩ | refine ⟨⟨by decide, by decide⟩, ?_⟩)
      refine .of (h4) ?_
      try simp -implicitDefEqProofs (maxSteps := 1000000) only [go_sem, true_implies, false_implies, msg_eqs2, eM, tb, xT, xF, xB]
      repeat (first | refine ⟨rfl, ?_⟩ | refine ⟨by decide, ?_⟩ | refine ⟨⟨by decide, by decide⟩, ?_⟩ | refine ⟨decide_eq_true (by omega), ?_⟩ | refine ⟨⟨decide_eq_true (by omega), decide_eq_true (by omega)⟩, ?_⟩)
      try (first | done | decide | exact decide_eq_true (by omega) | exact ⟨decide_eq_true (by omega), decide_eq_true (by omega)⟩)
end Go.X

