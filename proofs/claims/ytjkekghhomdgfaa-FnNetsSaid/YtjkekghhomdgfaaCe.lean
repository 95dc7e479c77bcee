/- Texts: CT CUa CUb CUc CUd CUi CUj CW_FnNets. -/
import Derived.Test.YtjkekghhomdgfaaCd
set_option linter.unusedVariables false
set_option linter.unusedSimpArgs false
/- T -/
namespace Go.X
set_option maxRecDepth 100000
set_option maxHeartbeats 8000000
def signOk (n : Int) : Bool := win n 0 1114111 && !win n 55296 57343
def enc8 (n : Nat) : List UInt8 :=
  if n ≤ 127 then [UInt8.ofNat n] else if n ≤ 2047 then [UInt8.ofNat (192 + n / 64), UInt8.ofNat (128 + n % 64)]
  else if n ≤ 65535 then [UInt8.ofNat (224 + n / 4096), UInt8.ofNat (128 + n / 64 % 64), UInt8.ofNat (128 + n % 64)]
  else [UInt8.ofNat (240 + n / 262144), UInt8.ofNat (128 + n / 4096 % 64), UInt8.ofNat (128 + n / 64 % 64), UInt8.ofNat (128 + n % 64)]
def putSign (b : List UInt8) (n : Int) : List UInt8 := if signOk n = true then b ++ enc8 n.toNat else b
theorem enc8_len (n : Nat) : 0 < (enc8 n).length ∧ (enc8 n).length ≤ 4 := by
  unfold enc8
  split
  · simp
  · split
    · simp
    · split <;> simp
theorem putSign_len (b : List UInt8) (n : Int) : (putSign b n).length ≤ b.length + 4 := by
  unfold putSign
  split
  · rw [List.length_append]; have := (enc8_len n.toNat).2; omega
  · omega
theorem signOk_in {n : Int} (h : signOk n = true) : 0 ≤ n ∧ n ≤ 1114111 ∧ ¬ (55296 ≤ n ∧ n ≤ 57343) := by
  simp only [signOk, win, Bool.and_eq_true, Bool.not_eq_true', decide_eq_true_eq, Bool.and_eq_false_imp, decide_eq_false_iff_not] at h
  omega
theorem or_hd (c i a : Nat) (hc : c = 2 ^ i * a) {x : Nat} (hx : x < 2 ^ i) (hb : c < 2 ^ 60 ∧ x < 2 ^ 60) : orK .i64 (c : Int) (x : Int) = ((c + x : Nat) : Int) := by
  rw [or_nat c x (by omega) (by omega), hc, Nat.two_pow_add_eq_or_of_lt hx]
theorem mkU_nat (k : Nat) : mkU (k : Int) = UInt8.ofNat k := by
  have : ((k : Int) % 256).toNat = k % 256 := by omega
  rw [mkU, this]
  apply UInt8.toNat_inj.1
  rw [UInt8.toNat_ofNat', UInt8.toNat_ofNat']
  omega
theorem and63 (m : Nat) (hm : m < 2 ^ 60) : andK .i64 (m : Int) 63 = ((m % 64 : Nat) : Int) := by
  have := and_nat m 63 (by omega) (by decide)
  rw [Nat.and_two_pow_sub_one_eq_mod m 6] at this
  exact this
theorem fdivN (m k : Nat) : (m : Int).fdiv (k : Int) = ((m / k : Nat) : Int) := by
  rw [Int.fdiv_eq_ediv_of_nonneg _ (by omega)]
  rfl
theorem wrap8 (k : Nat) (h : k < 256) : (k : Int) = ((UInt8.ofNat k).toNat : Int) := by
  rw [UInt8.toNat_ofNat']
  omega
theorem or8 (c i a : Nat) (hc : c = 2 ^ i * a) {x : Nat} (hx : x < 2 ^ i) (hb : c + x < 256) : orK .u8 (c : Int) (x : Int) = ((UInt8.ofNat (c + x)).toNat : Int) := by
  rw [orK_def]
  show IntKind.u8.wrap ((BitVec.ofInt 8 (c : Int) ||| BitVec.ofInt 8 (x : Int)).toNat) = _
  have h1 : (BitVec.ofInt 8 (c : Int)).toNat = c := by rw [BitVec.toNat_ofInt]; omega
  have h2 : (BitVec.ofInt 8 (x : Int)).toNat = x := by rw [BitVec.toNat_ofInt]; omega
  have h3 : c ||| x = c + x := by rw [hc, ← Nat.two_pow_add_eq_or_of_lt hx]
  rw [BitVec.toNat_or, h1, h2, h3, ← wrap8 _ hb, IntKind.wrap_u8]
  omega
theorem and8 (m : Nat) (hm : m < 256) : andK .u8 (m : Int) 63 = ((m % 64 : Nat) : Int) := by
  rw [andK_def]
  show IntKind.u8.wrap ((BitVec.ofInt 8 (m : Int) &&& BitVec.ofInt 8 63).toNat) = _
  have h1 : (BitVec.ofInt 8 (m : Int)).toNat = m := by rw [BitVec.toNat_ofInt]; omega
  have h2 : (BitVec.ofInt 8 63).toNat = 2 ^ 6 - 1 := by decide
  rw [BitVec.toNat_and, h1, h2, Nat.and_two_pow_sub_one_eq_mod, IntKind.wrap_u8]
  omega
theorem mkU_toNat (k : Nat) : (mkU (k : Int)).toNat = k % 256 := by rw [mkU_nat, UInt8.toNat_ofNat']
def x_s_SignOk : FnX := ⟨10, [.tmp 2],
  .seq (.reg [⟨none, some 2, 2, .mv (.k (.one (.pv (.bool false))))⟩])
 (.seq (.reg [⟨none, some 3, 3, .mv (.t 0)⟩,
   ⟨none, some 4, 4, .call 77 [0, 0, 0] [(.t 3), (.k (.one (.pv (.int .i64 0)))), (.k (.one (.pv (.int .i64 1114111))))]⟩,
   ⟨none, some 5, 5, .mv (.t 4)⟩,
   ⟨(some (5, true)), some 6, 6, .mv (.t 0)⟩,
   ⟨(some (5, true)), some 7, 7, .call 77 [0, 0, 0] [(.t 6), (.k (.one (.pv (.int .i64 55296)))), (.k (.one (.pv (.int .i64 57343))))]⟩,
   ⟨(some (5, true)), some 8, 8, .not (.t 7)⟩,
   ⟨none, some 9, 9, .pick (.t 5) (.t 8) (.k (.one (.pv (.bool false))))⟩,
   ⟨none, some 2, 2, .mv (.t 9)⟩])
 (.ret))⟩
abbrev C_s_SignOk (Te : Nat → List AV → Res → Prop) : Prop := ∀ (n : Int), Te 92 [.one (iT n)] ⟨[.one (bT (signOk n))], [[iT n]]⟩
theorem r_s_SignOk {Te : Nat → List AV → Res → Prop} (c_s_l1In : C_s_l1In Te) : ∀ (n : Int), RunFn Te x_s_SignOk [.one (iT n)] ⟨[.one (bT (signOk n))], [[iT n]]⟩ := by
  intro n
  refine ⟨by simp -implicitDefEqProofs (maxSteps := 1000000) only [x_s_SignOk, go_sem], ?_⟩
  simp -implicitDefEqProofs (maxSteps := 1000000) only [x_s_SignOk, go_sem, true_implies, false_implies, signOk]
  repeat (first | refine ⟨rfl, ?_⟩ | refine ⟨by decide, ?_⟩ | refine ⟨⟨by decide, by decide⟩, ?_⟩ | refine ⟨decide_eq_true (by omega), ?_⟩ | refine ⟨⟨decide_eq_true (by omega), decide_eq_true (by omega)⟩, ?_⟩)
  try (first | done | decide | exact decide_eq_true (by omega) | exact ⟨decide_eq_true (by omega), decide_eq_true (by omega)⟩)
  refine .of (c_s_l1In _ _ _) ?_
  try simp -implicitDefEqProofs (maxSteps := 1000000) only [go_sem, true_implies, false_implies]
  repeat (first | refine ⟨rfl, ?_⟩ | refine ⟨by decide, ?_⟩ | refine ⟨⟨by decide, by decide⟩, ?_⟩ | refine ⟨decide_eq_true (by omega), ?_⟩ | refine ⟨⟨decide_eq_true (by omega), decide_eq_true (by omega)⟩, ?_⟩)
  try (first | done | decide | exact decide_eq_true (by omega) | exact ⟨decide_eq_true (by omega), decide_eq_true (by omega)⟩)
  cases g1 : win n 0 1114111
  · try simp -implicitDefEqProofs (maxSteps := 1000000) only [go_sem, true_implies, false_implies]
    repeat (first | refine ⟨rfl, ?_⟩ | refine ⟨by decide, ?_⟩ | refine ⟨⟨by decide, by decide⟩, ?_⟩ | refine ⟨decide_eq_true (by omega), ?_⟩ | refine ⟨⟨decide_eq_true (by omega), decide_eq_true (by omega)⟩, ?_⟩)
    try (first | done | decide | exact decide_eq_true (by omega) | exact ⟨decide_eq_true (by omega), decide_eq_true (by omega)⟩)
  · try simp -implicitDefEqProofs (maxSteps := 1000000) only [go_sem, true_implies, false_implies]
    repeat (first | refine ⟨rfl, ?_⟩ | refine ⟨by decide, ?_⟩ | refine ⟨⟨by decide, by decide⟩, ?_⟩ | refine ⟨decide_eq_true (by omega), ?_⟩ | refine ⟨⟨decide_eq_true (by omega), decide_eq_true (by omega)⟩, ?_⟩)
    try (first | done | decide | exact decide_eq_true (by omega) | exact ⟨decide_eq_true (by omega), decide_eq_true (by omega)⟩)
    refine .of (c_s_l1In _ _ _) ?_
    try simp -implicitDefEqProofs (maxSteps := 1000000) only [go_sem, true_implies, false_implies]
    repeat (first | refine ⟨rfl, ?_⟩ | refine ⟨by decide, ?_⟩ | refine ⟨⟨by decide, by decide⟩, ?_⟩ | refine ⟨decide_eq_true (by omega), ?_⟩ | refine ⟨⟨decide_eq_true (by omega), decide_eq_true (by omega)⟩, ?_⟩)
    try (first | done | decide | exact decide_eq_true (by omega) | exact ⟨decide_eq_true (by omega), decide_eq_true (by omega)⟩)
def x_s_PutSign : FnX := ⟨76, [.tmp 4],
  .seq (.reg [⟨none, some 4, 4, .mv (.k (.one (.nils 1)))⟩])
 (.seq (.reg [⟨none, some 6, 6, .bslice 1 []⟩,
   ⟨none, some 7, 7, .mv (.t 0)⟩,
   ⟨none, some 8, 8, .app 1 1 (.t 6) (.t 7)⟩,
   ⟨none, some 5, 5, .mv (.t 8)⟩])
 (.seq (.block 0 (.seq (.reg [⟨none, some 10, 10, .mv (.t 1)⟩,
   ⟨none, some 11, 11, .call 92 [0] [(.t 10)]⟩,
   ⟨none, some 12, 12, .not (.t 11)⟩,
   ⟨none, some 9, 9, .mv (.t 12)⟩])
 (.cond 9 (.seq (.reg [⟨none, some 13, 13, .mv (.t 5)⟩,
   ⟨none, some 4, 4, .mv (.t 13)⟩])
 (.ret)) (.seq (.reg [⟨none, some 15, 15, .mv (.t 1)⟩,
   ⟨none, some 16, 16, .bin .leq (.t 15) (.k (.one (.pv (.int .i64 127))))⟩,
   ⟨none, some 14, 14, .mv (.t 16)⟩])
 (.cond 14 (.seq (.reg [⟨none, some 17, 17, .mv (.t 5)⟩,
   ⟨none, some 18, 18, .mv (.t 1)⟩,
   ⟨none, some 19, 19, .conv (.int .u8) (.t 18)⟩,
   ⟨none, some 20, 20, .bslice 1 [(.t 19)]⟩,
   ⟨none, some 21, 21, .app 1 1 (.t 17) (.t 20)⟩,
   ⟨none, some 4, 4, .mv (.t 21)⟩])
 (.ret)) (.seq (.reg [⟨none, some 23, 23, .mv (.t 1)⟩,
   ⟨none, some 24, 24, .bin .leq (.t 23) (.k (.one (.pv (.int .i64 2047))))⟩,
   ⟨none, some 22, 22, .mv (.t 24)⟩])
 (.cond 22 (.seq (.reg [⟨none, some 25, 25, .mv (.t 5)⟩,
   ⟨none, some 26, 26, .mv (.t 1)⟩,
   ⟨none, some 27, 27, .bin .shr (.t 26) (.k (.one (.pv (.int .u64 6))))⟩,
   ⟨none, some 28, 28, .bin .or (.k (.one (.pv (.int .i64 192)))) (.t 27)⟩,
   ⟨none, some 29, 29, .conv (.int .u8) (.t 28)⟩,
   ⟨none, some 30, 30, .mv (.t 1)⟩,
   ⟨none, some 31, 31, .bin .and (.t 30) (.k (.one (.pv (.int .i64 63))))⟩,
   ⟨none, some 32, 32, .bin .or (.k (.one (.pv (.int .i64 128)))) (.t 31)⟩,
   ⟨none, some 33, 33, .conv (.int .u8) (.t 32)⟩,
   ⟨none, some 34, 34, .bslice 1 [(.t 29), (.t 33)]⟩,
   ⟨none, some 35, 35, .app 1 1 (.t 25) (.t 34)⟩,
   ⟨none, some 4, 4, .mv (.t 35)⟩])
 (.ret)) (.seq (.reg [⟨none, some 37, 37, .mv (.t 1)⟩,
   ⟨none, some 38, 38, .bin .leq (.t 37) (.k (.one (.pv (.int .i64 65535))))⟩,
   ⟨none, some 36, 36, .mv (.t 38)⟩])
 (.cond 36 (.seq (.reg [⟨none, some 39, 39, .mv (.t 5)⟩,
   ⟨none, some 40, 40, .mv (.t 1)⟩,
   ⟨none, some 41, 41, .bin .shr (.t 40) (.k (.one (.pv (.int .u64 12))))⟩,
   ⟨none, some 42, 42, .bin .or (.k (.one (.pv (.int .i64 224)))) (.t 41)⟩,
   ⟨none, some 43, 43, .conv (.int .u8) (.t 42)⟩,
   ⟨none, some 44, 44, .mv (.t 1)⟩,
   ⟨none, some 45, 45, .bin .shr (.t 44) (.k (.one (.pv (.int .u64 6))))⟩,
   ⟨none, some 46, 46, .bin .and (.t 45) (.k (.one (.pv (.int .i64 63))))⟩,
   ⟨none, some 47, 47, .bin .or (.k (.one (.pv (.int .i64 128)))) (.t 46)⟩,
   ⟨none, some 48, 48, .conv (.int .u8) (.t 47)⟩,
   ⟨none, some 49, 49, .mv (.t 1)⟩,
   ⟨none, some 50, 50, .bin .and (.t 49) (.k (.one (.pv (.int .i64 63))))⟩,
   ⟨none, some 51, 51, .bin .or (.k (.one (.pv (.int .i64 128)))) (.t 50)⟩,
   ⟨none, some 52, 52, .conv (.int .u8) (.t 51)⟩,
   ⟨none, some 53, 53, .bslice 1 [(.t 43), (.t 48), (.t 52)]⟩,
   ⟨none, some 54, 54, .app 1 1 (.t 39) (.t 53)⟩,
   ⟨none, some 4, 4, .mv (.t 54)⟩])
 (.ret)) (.skip))))))))))
 (.seq (.reg [⟨none, some 55, 55, .mv (.t 5)⟩,
   ⟨none, some 56, 56, .mv (.t 1)⟩,
   ⟨none, some 57, 57, .bin .shr (.t 56) (.k (.one (.pv (.int .u64 18))))⟩,
   ⟨none, some 58, 58, .bin .or (.k (.one (.pv (.int .i64 240)))) (.t 57)⟩,
   ⟨none, some 59, 59, .conv (.int .u8) (.t 58)⟩,
   ⟨none, some 60, 60, .mv (.t 1)⟩,
   ⟨none, some 61, 61, .bin .shr (.t 60) (.k (.one (.pv (.int .u64 12))))⟩,
   ⟨none, some 62, 62, .bin .and (.t 61) (.k (.one (.pv (.int .i64 63))))⟩,
   ⟨none, some 63, 63, .bin .or (.k (.one (.pv (.int .i64 128)))) (.t 62)⟩,
   ⟨none, some 64, 64, .conv (.int .u8) (.t 63)⟩,
   ⟨none, some 65, 65, .mv (.t 1)⟩,
   ⟨none, some 66, 66, .bin .shr (.t 65) (.k (.one (.pv (.int .u64 6))))⟩,
   ⟨none, some 67, 67, .bin .and (.t 66) (.k (.one (.pv (.int .i64 63))))⟩,
   ⟨none, some 68, 68, .bin .or (.k (.one (.pv (.int .i64 128)))) (.t 67)⟩,
   ⟨none, some 69, 69, .conv (.int .u8) (.t 68)⟩,
   ⟨none, some 70, 70, .mv (.t 1)⟩,
   ⟨none, some 71, 71, .bin .and (.t 70) (.k (.one (.pv (.int .i64 63))))⟩,
   ⟨none, some 72, 72, .bin .or (.k (.one (.pv (.int .i64 128)))) (.t 71)⟩,
   ⟨none, some 73, 73, .conv (.int .u8) (.t 72)⟩,
   ⟨none, some 74, 74, .bslice 1 [(.t 59), (.t 64), (.t 69), (.t 73)]⟩,
   ⟨none, some 75, 75, .app 1 1 (.t 55) (.t 74)⟩,
   ⟨none, some 4, 4, .mv (.t 75)⟩])
 (.ret))))⟩
abbrev C_s_PutSign (Te : Nat → List AV → Res → Prop) : Prop := ∀ (b : List UInt8) (n : Int) (hb : b.length ≤ 2 ^ 30), Te 90 [.one (slT false 1 uR b), .one (iT n)] ⟨[.one (slT true 1 uR (putSign b n))], [[slT false 1 uR b], [iT n]]⟩
theorem r_s_PutSign {Te : Nat → List AV → Res → Prop} (c_s_SignOk : C_s_SignOk Te) : ∀ (b : List UInt8) (n : Int) (hb : b.length ≤ 2 ^ 30), RunFn Te x_s_PutSign [.one (slT false 1 uR b), .one (iT n)] ⟨[.one (slT true 1 uR (putSign b n))], [[slT false 1 uR b], [iT n]]⟩ := by
  intro b n hb
  refine ⟨by simp -implicitDefEqProofs (maxSteps := 1000000) only [x_s_PutSign, go_sem], ?_⟩
  cases hn : signOk n
  · simp -implicitDefEqProofs (maxSteps := 1000000) only [x_s_PutSign, go_sem, true_implies, false_implies]
    repeat (first | refine ⟨rfl, ?_⟩ | refine ⟨by decide, ?_⟩ | refine ⟨⟨by decide, by decide⟩, ?_⟩ | refine ⟨decide_eq_true (by omega), ?_⟩ | refine ⟨⟨decide_eq_true (by omega), decide_eq_true (by omega)⟩, ?_⟩)
    try (first | done | decide | exact decide_eq_true (by omega) | exact ⟨decide_eq_true (by omega), decide_eq_true (by omega)⟩)
    refine .of (c_s_SignOk _) ?_
    try simp -implicitDefEqProofs (maxSteps := 1000000) only [go_sem, true_implies, false_implies, putSign, hn, if_false]
    repeat (first | refine ⟨rfl, ?_⟩ | refine ⟨by decide, ?_⟩ | refine ⟨⟨by decide, by decide⟩, ?_⟩ | refine ⟨decide_eq_true (by omega), ?_⟩ | refine ⟨⟨decide_eq_true (by omega), decide_eq_true (by omega)⟩, ?_⟩)
    try (first | done | decide | exact decide_eq_true (by omega) | exact ⟨decide_eq_true (by omega), decide_eq_true (by omega)⟩)
    try rfl
  obtain ⟨h0, h1, _⟩ := signOk_in hn
  obtain ⟨m, rfl⟩ : ∃ m : Nat, n = m := ⟨n.toNat, by omega⟩
  have ep : putSign b (m : Int) = b ++ enc8 m := by simp only [putSign, hn, if_true, Int.toNat_natCast]
  have d6 : (m : Int).fdiv (2 ^ 6) = ((m / 64 : Nat) : Int) := fdivN m 64
  have d12 : (m : Int).fdiv (2 ^ 12) = ((m / 4096 : Nat) : Int) := fdivN m 4096
  have d18 : (m : Int).fdiv (2 ^ 18) = ((m / 262144 : Nat) : Int) := fdivN m 262144
  have a0 := and63 m (by omega)
  have a6 := and63 (m / 64) (by omega)
  have a12 := and63 (m / 4096) (by omega)
  have o0 : orK .i64 128 ((m % 64 : Nat) : Int) = ((128 + m % 64 : Nat) : Int) := or_hd 128 6 2 rfl (by omega) (by omega)
  have o6 : orK .i64 128 ((m / 64 % 64 : Nat) : Int) = ((128 + m / 64 % 64 : Nat) : Int) := or_hd 128 6 2 rfl (by omega) (by omega)
  have o12 : orK .i64 128 ((m / 4096 % 64 : Nat) : Int) = ((128 + m / 4096 % 64 : Nat) : Int) := or_hd 128 6 2 rfl (by omega) (by omega)
  cases q : decide ((m : Int) ≤ 127)
  · have hq : ¬ m ≤ 127 := by simp only [decide_eq_false_iff_not] at q; omega
    cases q2 : decide ((m : Int) ≤ 2047)
    · have hq2 : ¬ m ≤ 2047 := by simp only [decide_eq_false_iff_not] at q2; omega
      cases q3 : decide ((m : Int) ≤ 65535)
      · have hq3 : ¬ m ≤ 65535 := by simp only [decide_eq_false_iff_not] at q3; omega
        have t : orK .i64 240 ((m / 262144 : Nat) : Int) = ((240 + m / 262144 : Nat) : Int) := or_hd 240 3 30 rfl (by omega) (by omega)
        have ee : List.take (b.length + 4) (List.map uR b ++ [[uT (mkU ((240 + m / 262144 : Nat) : Int))], [uT (mkU ((128 + m / 4096 % 64 : Nat) : Int))], [uT (mkU ((128 + m / 64 % 64 : Nat) : Int))], [uT (mkU ((128 + m % 64 : Nat) : Int))]]) = List.map uR (b ++ enc8 m) := by
          rw [List.take_of_length_le (by simp), mkU_nat, mkU_nat, mkU_nat, mkU_nat]
          simp only [enc8, if_neg hq, if_neg hq2, if_neg hq3, List.map_append, List.map_cons, List.map_nil]
        simp -implicitDefEqProofs (maxSteps := 1000000) only [x_s_PutSign, go_sem, true_implies, false_implies]
        repeat (first | refine ⟨rfl, ?_⟩ | refine ⟨by decide, ?_⟩ | refine ⟨⟨by decide, by decide⟩, ?_⟩ | refine ⟨decide_eq_true (by omega), ?_⟩ | refine ⟨⟨decide_eq_true (by omega), decide_eq_true (by omega)⟩, ?_⟩)
        try (first | done | decide | exact decide_eq_true (by omega) | exact ⟨decide_eq_true (by omega), decide_eq_true (by omega)⟩)
        refine .of (c_s_SignOk _) ?_
        try simp -implicitDefEqProofs (maxSteps := 1000000) only [go_sem, true_implies, false_implies, hn, ep, q, q2, q3, show Nat.min 6 64 = 6 from rfl, show Nat.min 12 64 = 12 from rfl, show Nat.min 18 64 = 18 from rfl, d6, d12, d18, a0, a6, a12, o0, o6, o12, t, mkU_wrap, ee]
        repeat (first | refine ⟨rfl, ?_⟩ | refine ⟨by decide, ?_⟩ | refine ⟨⟨by decide, by decide⟩, ?_⟩ | refine ⟨decide_eq_true (by omega), ?_⟩ | refine ⟨⟨decide_eq_true (by omega), decide_eq_true (by omega)⟩, ?_⟩)
        try (first | done | decide | exact decide_eq_true (by omega) | exact ⟨decide_eq_true (by omega), decide_eq_true (by omega)⟩)
      · have hq3 : m ≤ 65535 := by simp only [decide_eq_true_eq] at q3; omega
        have t : orK .i64 224 ((m / 4096 : Nat) : Int) = ((224 + m / 4096 : Nat) : Int) := or_hd 224 4 14 rfl (by omega) (by omega)
        have ee : List.take (b.length + 3) (List.map uR b ++ [[uT (mkU ((224 + m / 4096 : Nat) : Int))], [uT (mkU ((128 + m / 64 % 64 : Nat) : Int))], [uT (mkU ((128 + m % 64 : Nat) : Int))]]) = List.map uR (b ++ enc8 m) := by
          rw [List.take_of_length_le (by simp), mkU_nat, mkU_nat, mkU_nat]
          simp only [enc8, if_neg hq, if_neg hq2, if_pos hq3, List.map_append, List.map_cons, List.map_nil]
        simp -implicitDefEqProofs (maxSteps := 1000000) only [x_s_PutSign, go_sem, true_implies, false_implies]
        repeat (first | refine ⟨rfl, ?_⟩ | refine ⟨by decide, ?_⟩ | refine ⟨⟨by decide, by decide⟩, ?_⟩ | refine ⟨decide_eq_true (by omega), ?_⟩ | refine ⟨⟨decide_eq_true (by omega), decide_eq_true (by omega)⟩, ?_⟩)
        try (first | done | decide | exact decide_eq_true (by omega) | exact ⟨decide_eq_true (by omega), decide_eq_true (by omega)⟩)
        refine .of (c_s_SignOk _) ?_
        try simp -implicitDefEqProofs (maxSteps := 1000000) only [go_sem, true_implies, false_implies, hn, ep, q, q2, q3, show Nat.min 6 64 = 6 from rfl, show Nat.min 12 64 = 12 from rfl, d6, d12, a0, a6, o0, o6, t, mkU_wrap, ee]
        repeat (first | refine ⟨rfl, ?_⟩ | refine ⟨by decide, ?_⟩ | refine ⟨⟨by decide, by decide⟩, ?_⟩ | refine ⟨decide_eq_true (by omega), ?_⟩ | refine ⟨⟨decide_eq_true (by omega), decide_eq_true (by omega)⟩, ?_⟩)
        try (first | done | decide | exact decide_eq_true (by omega) | exact ⟨decide_eq_true (by omega), decide_eq_true (by omega)⟩)
    · have hq2 : m ≤ 2047 := by simp only [decide_eq_true_eq] at q2; omega
      have t : orK .i64 192 ((m / 64 : Nat) : Int) = ((192 + m / 64 : Nat) : Int) := or_hd 192 6 3 rfl (by omega) (by omega)
      have ee : List.take (b.length + 2) (List.map uR b ++ [[uT (mkU ((192 + m / 64 : Nat) : Int))], [uT (mkU ((128 + m % 64 : Nat) : Int))]]) = List.map uR (b ++ enc8 m) := by
        rw [List.take_of_length_le (by simp), mkU_nat, mkU_nat]
        simp only [enc8, if_neg hq, if_pos hq2, List.map_append, List.map_cons, List.map_nil]
      simp -implicitDefEqProofs (maxSteps := 1000000) only [x_s_PutSign, go_sem, true_implies, false_implies]
      repeat (first | refine ⟨rfl, ?_⟩ | refine ⟨by decide, ?_⟩ | refine ⟨⟨by decide, by decide⟩, ?_⟩ | refine ⟨decide_eq_true (by omega), ?_⟩ | refine ⟨⟨decide_eq_true (by omega), decide_eq_true (by omega)⟩, ?_⟩)
      try (first | done | decide | exact decide_eq_true (by omega) | exact ⟨decide_eq_true (by omega), decide_eq_true (by omega)⟩)
      refine .of (c_s_SignOk _) ?_
      try simp -implicitDefEqProofs (maxSteps := 1000000) only [go_sem, true_implies, false_implies, hn, ep, q, q2, show Nat.min 6 64 = 6 from rfl, d6, a0, o0, t, mkU_wrap, ee]
      repeat (first | refine ⟨rfl, ?_⟩ | refine ⟨by decide, ?_⟩ | refine ⟨⟨by decide, by decide⟩, ?_⟩ | refine ⟨decide_eq_true (by omega), ?_⟩ | refine ⟨⟨decide_eq_true (by omega), decide_eq_true (by omega)⟩, ?_⟩)
      try (first | done | decide | exact decide_eq_true (by omega) | exact ⟨decide_eq_true (by omega), decide_eq_true (by omega)⟩)
  · have hq : m ≤ 127 := by simp only [decide_eq_true_eq] at q; omega
    have ee : List.take (b.length + 1) (List.map uR b ++ [[uT (mkU (m : Int))]]) = List.map uR (b ++ enc8 m) := by
      rw [List.take_of_length_le (by simp), mkU_nat]
      simp only [enc8, if_pos hq, List.map_append, List.map_cons, List.map_nil]
    simp -implicitDefEqProofs (maxSteps := 1000000) only [x_s_PutSign, go_sem, true_implies, false_implies]
    repeat (first | refine ⟨rfl, ?_⟩ | refine ⟨by decide, ?_⟩ | refine ⟨⟨by decide, by decide⟩, ?_⟩ | refine ⟨decide_eq_true (by omega), ?_⟩ | refine ⟨⟨decide_eq_true (by omega), decide_eq_true (by omega)⟩, ?_⟩)
    try (first | done | decide | exact decide_eq_true (by omega) | exact ⟨decide_eq_true (by omega), decide_eq_true (by omega)⟩)
    refine .of (c_s_SignOk _) ?_
    try simp -implicitDefEqProofs (maxSteps := 1000000) only [go_sem, true_implies, false_implies, hn, ep, q, mkU_wrap, ee]
    repeat (first | refine ⟨rfl, ?_⟩ | refine ⟨by decide, ?_⟩ | refine ⟨⟨by decide, by decide⟩, ?_⟩ | refine ⟨decide_eq_true (by omega), ?_⟩ | refine ⟨⟨decide_eq_true (by omega), decide_eq_true (by omega)⟩, ?_⟩)
    try (first | done | decide | exact decide_eq_true (by omega) | exact ⟨decide_eq_true (by omega), decide_eq_true (by omega)⟩)
end Go.X

/- Ua -/
namespace Go.X
set_option maxRecDepth 100000
set_option maxHeartbeats 8000000
theorem str_small {l : List ByteArray} {r : ByteArray} (n : Nat) (hr : r ∈ l) (h : l.all (fun r => decide (r.size ≤ n)) = true) : r.size ≤ n := of_decide_eq_true (List.all_eq_true.1 h r hr)
theorem bytesOf_uL (l : List UInt8) : bytesOf (l.map uR) = l := by
  simp only [bytesOf, List.map_map, Function.comp_def, List.headD_cons, byteOf]
  conv => rhs; rw [← List.map_id l]
  refine List.map_congr_left fun a _ => ?_
  simp
theorem areBytes_uL : ∀ l : List UInt8, areBytes (l.map uR) = true
  | [] => rfl
  | a :: l => by simp only [List.map_cons, areBytes, isByte, areBytes_uL l, Bool.and_true]
def x_s_l1Name : FnX := ⟨6, [.tmp 2],
  .seq (.reg [⟨none, some 2, 2, .mv (.k (.one (.pv (.string ⟨#[]⟩))))⟩])
 (.seq (.reg [⟨none, some 3, 3, .mv (.t 0)⟩,
   ⟨none, some 4, 4, .bslice 1 [(.k (.one (.pv (.string ⟨#[97]⟩)))), (.k (.one (.pv (.string ⟨#[98]⟩)))), (.k (.one (.pv (.string ⟨#[99]⟩)))), (.k (.one (.pv (.string ⟨#[100]⟩)))), (.k (.one (.pv (.string ⟨#[101, 53]⟩))))]⟩,
   ⟨none, some 5, 5, .call 80 [5, 1] [(.t 3), (.t 4)]⟩,
   ⟨none, some 2, 2, .mv (.t 5)⟩])
 (.ret))⟩
abbrev C_s_l1Name (Te : Nat → List AV → Res → Prop) : Prop := ∀ (c : CurV) (hc : c.ok), ∃ (r : ByteArray) (d : CurV), (r.size ≤ 6 ∧ d.ok) ∧ Te 87 [.ptr c.enc] ⟨[.one (sT r)], [d.enc]⟩
theorem r_s_l1Name {Te : Nat → List AV → Res → Prop} (c_s_l1Str : C_s_l1Str Te) : ∀ (c : CurV) (hc : c.ok), ∃ r0, (∃ (r : ByteArray) (d : CurV), (r.size ≤ 6 ∧ d.ok) ∧ r0 = (⟨[.one (sT r)], [d.enc]⟩ : Res)) ∧ RunFn Te x_s_l1Name [.ptr c.enc] r0 := by
  intro c hc
  refine some_of (by simp -implicitDefEqProofs (maxSteps := 1000000) only [x_s_l1Name, go_sem]) (by rfl) ?_
  simp -implicitDefEqProofs (maxSteps := 1000000) only [x_s_l1Name, go_sem, true_implies, false_implies]
  repeat (first | refine ⟨rfl, ?_⟩ | refine ⟨by decide, ?_⟩ | refine ⟨⟨by decide, by decide⟩, ?_⟩ | refine ⟨decide_eq_true (by omega), ?_⟩ | refine ⟨⟨decide_eq_true (by omega), decide_eq_true (by omega)⟩, ?_⟩)
  try (first | done | decide | exact decide_eq_true (by omega) | exact ⟨decide_eq_true (by omega), decide_eq_true (by omega)⟩)
  obtain ⟨r, d, ⟨hr, hd⟩, ht⟩ := c_s_l1Str c [⟨#[97]⟩, ⟨#[98]⟩, ⟨#[99]⟩, ⟨#[100]⟩, ⟨#[101, 53]⟩] hc (by decide)
  refine .of (ht) ?_
  try simp -implicitDefEqProofs (maxSteps := 1000000) only [go_sem, true_implies, false_implies]
  repeat (first | refine ⟨rfl, ?_⟩ | refine ⟨by decide, ?_⟩ | refine ⟨⟨by decide, by decide⟩, ?_⟩ | refine ⟨decide_eq_true (by omega), ?_⟩ | refine ⟨⟨decide_eq_true (by omega), decide_eq_true (by omega)⟩, ?_⟩)
  try (first | done | decide | exact decide_eq_true (by omega) | exact ⟨decide_eq_true (by omega), decide_eq_true (by omega)⟩)
  exact ⟨r, d, ⟨str_small 6 hr (by decide), hd⟩, rfl⟩
def x_s_l1Num : FnX := ⟨6, [.tmp 2],
  .seq (.reg [⟨none, some 2, 2, .mv (.k (.one (.pv (.int .i64 0))))⟩])
 (.seq (.reg [⟨none, some 3, 3, .mv (.t 0)⟩,
   ⟨none, some 4, 4, .bslice 1 [(.k (.one (.pv (.int .i64 0)))), (.k (.one (.pv (.int .i64 1)))), (.k (.one (.pv (.int .i64 7)))), (.k (.one (.pv (.int .i64 255)))), (.k (.one (.pv (.int .i64 256)))), (.k (.one (.pv (.int .i64 4660)))), (.k (.one (.pv (.int .i64 65535)))), (.k (.one (.pv (.int .i64 65536)))), (.k (.one (.pv (.int .i64 (-1))))), (.k (.one (.pv (.int .i64 9223372036854775807)))), (.k (.one (.pv (.int .i64 (-9223372036854775808)))))]⟩,
   ⟨none, some 5, 5, .call 66 [5, 1] [(.t 3), (.t 4)]⟩,
   ⟨none, some 2, 2, .mv (.t 5)⟩])
 (.ret))⟩
abbrev C_s_l1Num (Te : Nat → List AV → Res → Prop) : Prop := ∀ (c : CurV) (hc : c.ok), ∃ (r : Int) (d : CurV), (d.ok) ∧ Te 84 [.ptr c.enc] ⟨[.one (iT r)], [d.enc]⟩
theorem r_s_l1Num {Te : Nat → List AV → Res → Prop} (c_s_l1Int : C_s_l1Int Te) : ∀ (c : CurV) (hc : c.ok), ∃ r0, (∃ (r : Int) (d : CurV), (d.ok) ∧ r0 = (⟨[.one (iT r)], [d.enc]⟩ : Res)) ∧ RunFn Te x_s_l1Num [.ptr c.enc] r0 := by
  intro c hc
  refine some_of (by simp -implicitDefEqProofs (maxSteps := 1000000) only [x_s_l1Num, go_sem]) (by rfl) ?_
  simp -implicitDefEqProofs (maxSteps := 1000000) only [x_s_l1Num, go_sem, true_implies, false_implies]
  repeat (first | refine ⟨rfl, ?_⟩ | refine ⟨by decide, ?_⟩ | refine ⟨⟨by decide, by decide⟩, ?_⟩ | refine ⟨decide_eq_true (by omega), ?_⟩ | refine ⟨⟨decide_eq_true (by omega), decide_eq_true (by omega)⟩, ?_⟩)
  try (first | done | decide | exact decide_eq_true (by omega) | exact ⟨decide_eq_true (by omega), decide_eq_true (by omega)⟩)
  obtain ⟨r, d, ⟨hr, hd⟩, ht⟩ := c_s_l1Int c [0, 1, 7, 255, 256, 4660, 65535, 65536, -1, 9223372036854775807, -9223372036854775808] hc (by decide)
  refine .of (ht) ?_
  try simp -implicitDefEqProofs (maxSteps := 1000000) only [go_sem, true_implies, false_implies]
  repeat (first | refine ⟨rfl, ?_⟩ | refine ⟨by decide, ?_⟩ | refine ⟨⟨by decide, by decide⟩, ?_⟩ | refine ⟨decide_eq_true (by omega), ?_⟩ | refine ⟨⟨decide_eq_true (by omega), decide_eq_true (by omega)⟩, ?_⟩)
  try (first | done | decide | exact decide_eq_true (by omega) | exact ⟨decide_eq_true (by omega), decide_eq_true (by omega)⟩)
  exact ⟨r, d, hd, rfl⟩
def x_s_l2Sign : FnX := ⟨6, [.tmp 2],
  .seq (.reg [⟨none, some 2, 2, .mv (.k (.one (.pv (.int .i64 0))))⟩])
 (.seq (.reg [⟨none, some 3, 3, .mv (.t 0)⟩,
   ⟨none, some 4, 4, .bslice 1 [(.k (.one (.pv (.int .i64 0)))), (.k (.one (.pv (.int .i64 97)))), (.k (.one (.pv (.int .i64 90)))), (.k (.one (.pv (.int .i64 127)))), (.k (.one (.pv (.int .i64 128)))), (.k (.one (.pv (.int .i64 164)))), (.k (.one (.pv (.int .i64 233)))), (.k (.one (.pv (.int .i64 2047)))), (.k (.one (.pv (.int .i64 2048)))), (.k (.one (.pv (.int .i64 8364)))), (.k (.one (.pv (.int .i64 1072)))), (.k (.one (.pv (.int .i64 1102)))), (.k (.one (.pv (.int .i64 1025)))), (.k (.one (.pv (.int .i64 12354)))), (.k (.one (.pv (.int .i64 12450)))), (.k (.one (.pv (.int .i64 352)))), (.k (.one (.pv (.int .i64 65535)))), (.k (.one (.pv (.int .i64 65536)))), (.k (.one (.pv (.int .i64 1114111))))]⟩,
   ⟨none, some 5, 5, .call 66 [5, 1] [(.t 3), (.t 4)]⟩,
   ⟨none, some 2, 2, .mv (.t 5)⟩])
 (.ret))⟩
abbrev C_s_l2Sign (Te : Nat → List AV → Res → Prop) : Prop := ∀ (c : CurV) (hc : c.ok), ∃ (r : Int) (d : CurV), (d.ok) ∧ Te 93 [.ptr c.enc] ⟨[.one (iT r)], [d.enc]⟩
theorem r_s_l2Sign {Te : Nat → List AV → Res → Prop} (c_s_l1Int : C_s_l1Int Te) : ∀ (c : CurV) (hc : c.ok), ∃ r0, (∃ (r : Int) (d : CurV), (d.ok) ∧ r0 = (⟨[.one (iT r)], [d.enc]⟩ : Res)) ∧ RunFn Te x_s_l2Sign [.ptr c.enc] r0 := by
  intro c hc
  refine some_of (by simp -implicitDefEqProofs (maxSteps := 1000000) only [x_s_l2Sign, go_sem]) (by rfl) ?_
  simp -implicitDefEqProofs (maxSteps := 1000000) only [x_s_l2Sign, go_sem, true_implies, false_implies]
  repeat (first | refine ⟨rfl, ?_⟩ | refine ⟨by decide, ?_⟩ | refine ⟨⟨by decide, by decide⟩, ?_⟩ | refine ⟨decide_eq_true (by omega), ?_⟩ | refine ⟨⟨decide_eq_true (by omega), decide_eq_true (by omega)⟩, ?_⟩)
  try (first | done | decide | exact decide_eq_true (by omega) | exact ⟨decide_eq_true (by omega), decide_eq_true (by omega)⟩)
  obtain ⟨r, d, ⟨hr, hd⟩, ht⟩ := c_s_l1Int c [0, 97, 90, 127, 128, 164, 233, 2047, 2048, 8364, 1072, 1102, 1025, 12354, 12450, 352, 65535, 65536, 1114111] hc (by decide)
  refine .of (ht) ?_
  try simp -implicitDefEqProofs (maxSteps := 1000000) only [go_sem, true_implies, false_implies]
  repeat (first | refine ⟨rfl, ?_⟩ | refine ⟨by decide, ?_⟩ | refine ⟨⟨by decide, by decide⟩, ?_⟩ | refine ⟨decide_eq_true (by omega), ?_⟩ | refine ⟨⟨decide_eq_true (by omega), decide_eq_true (by omega)⟩, ?_⟩)
  try (first | done | decide | exact decide_eq_true (by omega) | exact ⟨decide_eq_true (by omega), decide_eq_true (by omega)⟩)
  exact ⟨r, d, hd, rfl⟩
def x_s_l5Sign : FnX := ⟨27, [.tmp 4],
  .seq (.reg [⟨none, some 4, 4, .mv (.k (.one (.pv (.int .i64 0))))⟩])
 (.seq (.seq (.reg [⟨none, some 7, 7, .mv (.t 1)⟩,
   ⟨none, some 8, 8, .bin .eql (.t 7) (.k (.one (.pv (.int .i64 0))))⟩])
 (.cond 8 (.seq (.reg [⟨none, some 9, 9, .mv (.t 0)⟩,
   ⟨none, some 10, 10, .call 93 [5] [(.t 9)]⟩,
   ⟨none, some 4, 4, .mv (.t 10)⟩])
 (.ret)) (.skip)))
 (.seq (.seq (.reg [⟨none, some 11, 11, .mv (.t 1)⟩,
   ⟨none, some 12, 12, .bin .eql (.t 11) (.k (.one (.pv (.int .i64 5))))⟩])
 (.cond 12 (.seq (.reg [⟨none, some 13, 13, .mv (.t 0)⟩,
   ⟨none, some 14, 14, .bslice 1 [(.k (.one (.pv (.int .i64 97)))), (.k (.one (.pv (.int .i64 32)))), (.k (.one (.pv (.int .i64 12353)))), (.k (.one (.pv (.int .i64 12435)))), (.k (.one (.pv (.int .i64 12449)))), (.k (.one (.pv (.int .i64 12534)))), (.k (.one (.pv (.int .i64 12354))))]⟩,
   ⟨none, some 15, 15, .call 66 [5, 1] [(.t 13), (.t 14)]⟩,
   ⟨none, some 4, 4, .mv (.t 15)⟩])
 (.ret)) (.skip)))
 (.seq (.reg [⟨none, some 17, 17, .mv (.t 1)⟩,
   ⟨none, some 18, 18, .mv (.t 0)⟩,
   ⟨none, some 19, 19, .bslice 1 [(.k (.one (.pv (.int .i64 65)))), (.k (.one (.pv (.int .i64 97)))), (.k (.one (.pv (.int .i64 32)))), (.k (.one (.pv (.int .i64 164)))), (.k (.one (.pv (.int .i64 192)))), (.k (.one (.pv (.int .i64 200)))), (.k (.one (.pv (.int .i64 228)))), (.k (.one (.pv (.int .i64 255)))), (.k (.one (.pv (.int .i64 163)))), (.k (.one (.pv (.int .i64 128)))), (.k (.one (.pv (.int .i64 130)))), (.k (.one (.pv (.int .i64 189))))]⟩,
   ⟨none, some 20, 20, .call 66 [5, 1] [(.t 18), (.t 19)]⟩,
   ⟨none, some 21, 21, .call 94 [0, 0] [(.t 17), (.t 20)]⟩,
   ⟨none, some 16, 16, .mv (.t 21)⟩,
   ⟨none, some 22, 22, .ext (.t 16) 0⟩,
   ⟨none, some 23, 23, .ext (.t 16) 1⟩,
   ⟨none, some 5, 5, .mv (.t 22)⟩,
   ⟨none, some 6, 6, .mv (.t 23)⟩])
 (.seq (.seq (.reg [⟨none, some 24, 24, .mv (.t 6)⟩,
   ⟨none, some 25, 25, .not (.t 24)⟩])
 (.cond 25 (.seq (.reg [⟨none, some 4, 4, .mv (.k (.one (.pv (.int .i64 120))))⟩])
 (.ret)) (.skip)))
 (.seq (.reg [⟨none, some 26, 26, .mv (.t 5)⟩,
   ⟨none, some 4, 4, .mv (.t 26)⟩])
 (.ret))))))⟩
abbrev C_s_l5Sign (Te : Nat → List AV → Res → Prop) : Prop := ∀ (c : CurV) (cs : Int) (hc : c.ok), ∃ (r : Int) (d : CurV), (d.ok) ∧ Te 91 [.ptr c.enc, .one (iT cs)] ⟨[.one (iT r)], [d.enc, [iT cs]]⟩
theorem r_s_l5Sign {Te : Nat → List AV → Res → Prop} (c_s_l2Sign : C_s_l2Sign Te) (c_s_l1Int : C_s_l1Int Te) (c_s_ByteSign : C_s_ByteSign Te) : ∀ (c : CurV) (cs : Int) (hc : c.ok), ∃ r0, (∃ (r : Int) (d : CurV), (d.ok) ∧ r0 = (⟨[.one (iT r)], [d.enc, [iT cs]]⟩ : Res)) ∧ RunFn Te x_s_l5Sign [.ptr c.enc, .one (iT cs)] r0 := by
  intro c cs hc
  refine some_of (by simp -implicitDefEqProofs (maxSteps := 1000000) only [x_s_l5Sign, go_sem]) (by rfl) ?_
  cases g0 : (cs == 0)
  · cases g5 : (cs == 5)
    · simp -implicitDefEqProofs (maxSteps := 1000000) only [x_s_l5Sign, go_sem, true_implies, false_implies, g0, g5]
      repeat (first | refine ⟨rfl, ?_⟩ | refine ⟨by decide, ?_⟩ | refine ⟨⟨by decide, by decide⟩, ?_⟩ | refine ⟨decide_eq_true (by omega), ?_⟩ | refine ⟨⟨decide_eq_true (by omega), decide_eq_true (by omega)⟩, ?_⟩)
      try (first | done | decide | exact decide_eq_true (by omega) | exact ⟨decide_eq_true (by omega), decide_eq_true (by omega)⟩)
      obtain ⟨r, d, ⟨hr, hd⟩, ht⟩ := c_s_l1Int c [65, 97, 32, 164, 192, 200, 228, 255, 163, 128, 130, 189] hc (by decide)
      refine .of (ht) ?_
      try simp -implicitDefEqProofs (maxSteps := 1000000) only [go_sem, true_implies, false_implies]
      repeat (first | refine ⟨rfl, ?_⟩ | refine ⟨by decide, ?_⟩ | refine ⟨⟨by decide, by decide⟩, ?_⟩ | refine ⟨decide_eq_true (by omega), ?_⟩ | refine ⟨⟨decide_eq_true (by omega), decide_eq_true (by omega)⟩, ?_⟩)
      try (first | done | decide | exact decide_eq_true (by omega) | exact ⟨decide_eq_true (by omega), decide_eq_true (by omega)⟩)
      refine .of (c_s_ByteSign cs r) ?_
      try simp -implicitDefEqProofs (maxSteps := 1000000) only [go_sem, true_implies, false_implies]
      repeat (first | refine ⟨rfl, ?_⟩ | refine ⟨by decide, ?_⟩ | refine ⟨⟨by decide, by decide⟩, ?_⟩ | refine ⟨decide_eq_true (by omega), ?_⟩ | refine ⟨⟨decide_eq_true (by omega), decide_eq_true (by omega)⟩, ?_⟩)
      try (first | done | decide | exact decide_eq_true (by omega) | exact ⟨decide_eq_true (by omega), decide_eq_true (by omega)⟩)
      cases g : (byteSign cs r).2
      · try simp -implicitDefEqProofs (maxSteps := 1000000) only [go_sem, true_implies, false_implies, g]
        repeat (first | refine ⟨rfl, ?_⟩ | refine ⟨by decide, ?_⟩ | refine ⟨⟨by decide, by decide⟩, ?_⟩ | refine ⟨decide_eq_true (by omega), ?_⟩ | refine ⟨⟨decide_eq_true (by omega), decide_eq_true (by omega)⟩, ?_⟩)
        try (first | done | decide | exact decide_eq_true (by omega) | exact ⟨decide_eq_true (by omega), decide_eq_true (by omega)⟩)
        exact ⟨120, d, hd, rfl⟩
      · try simp -implicitDefEqProofs (maxSteps := 1000000) only [go_sem, true_implies, false_implies, g]
        repeat (first | refine ⟨rfl, ?_⟩ | refine ⟨by decide, ?_⟩ | refine ⟨⟨by decide, by decide⟩, ?_⟩ | refine ⟨decide_eq_true (by omega), ?_⟩ | refine ⟨⟨decide_eq_true (by omega), decide_eq_true (by omega)⟩, ?_⟩)
        try (first | done | decide | exact decide_eq_true (by omega) | exact ⟨decide_eq_true (by omega), decide_eq_true (by omega)⟩)
        exact ⟨_, d, hd, rfl⟩
    · simp -implicitDefEqProofs (maxSteps := 1000000) only [x_s_l5Sign, go_sem, true_implies, false_implies, g0, g5]
      repeat (first | refine ⟨rfl, ?_⟩ | refine ⟨by decide, ?_⟩ | refine ⟨⟨by decide, by decide⟩, ?_⟩ | refine ⟨decide_eq_true (by omega), ?_⟩ | refine ⟨⟨decide_eq_true (by omega), decide_eq_true (by omega)⟩, ?_⟩)
      try (first | done | decide | exact decide_eq_true (by omega) | exact ⟨decide_eq_true (by omega), decide_eq_true (by omega)⟩)
      obtain ⟨r, d, ⟨hr, hd⟩, ht⟩ := c_s_l1Int c [97, 32, 12353, 12435, 12449, 12534, 12354] hc (by decide)
      refine .of (ht) ?_
      try simp -implicitDefEqProofs (maxSteps := 1000000) only [go_sem, true_implies, false_implies]
      repeat (first | refine ⟨rfl, ?_⟩ | refine ⟨by decide, ?_⟩ | refine ⟨⟨by decide, by decide⟩, ?_⟩ | refine ⟨decide_eq_true (by omega), ?_⟩ | refine ⟨⟨decide_eq_true (by omega), decide_eq_true (by omega)⟩, ?_⟩)
      try (first | done | decide | exact decide_eq_true (by omega) | exact ⟨decide_eq_true (by omega), decide_eq_true (by omega)⟩)
      exact ⟨r, d, hd, rfl⟩
  · simp -implicitDefEqProofs (maxSteps := 1000000) only [x_s_l5Sign, go_sem, true_implies, false_implies, g0]
    repeat (first | refine ⟨rfl, ?_⟩ | refine ⟨by decide, ?_⟩ | refine ⟨⟨by decide, by decide⟩, ?_⟩ | refine ⟨decide_eq_true (by omega), ?_⟩ | refine ⟨⟨decide_eq_true (by omega), decide_eq_true (by omega)⟩, ?_⟩)
    try (first | done | decide | exact decide_eq_true (by omega) | exact ⟨decide_eq_true (by omega), decide_eq_true (by omega)⟩)
    obtain ⟨r, d, hd, ht⟩ := c_s_l2Sign c hc
    refine .of (ht) ?_
    try simp -implicitDefEqProofs (maxSteps := 1000000) only [go_sem, true_implies, false_implies]
    repeat (first | refine ⟨rfl, ?_⟩ | refine ⟨by decide, ?_⟩ | refine ⟨⟨by decide, by decide⟩, ?_⟩ | refine ⟨decide_eq_true (by omega), ?_⟩ | refine ⟨⟨decide_eq_true (by omega), decide_eq_true (by omega)⟩, ?_⟩)
    try (first | done | decide | exact decide_eq_true (by omega) | exact ⟨decide_eq_true (by omega), decide_eq_true (by omega)⟩)
    exact ⟨r, d, hd, rfl⟩
def x_s_l5Text : FnX := ⟨25, [.tmp 6],
  .seq (.reg [⟨none, some 6, 6, .mv (.k (.one (.pv (.string ⟨#[]⟩))))⟩])
 (.seq (.reg [⟨none, some 9, 9, .bslice 1 []⟩,
   ⟨none, some 7, 7, .mv (.t 9)⟩])
 (.seq (.seq (.reg [⟨none, some 10, 10, .mv (.t 0)⟩,
   ⟨none, some 11, 11, .mv (.t 2)⟩,
   ⟨none, some 12, 12, .bin .add (.t 11) (.k (.one (.pv (.int .i64 1))))⟩,
   ⟨none, some 13, 13, .call 74 [5, 0] [(.t 10), (.t 12)]⟩,
   ⟨none, some 8, 8, .mv (.t 13)⟩])
 (.block 0 (.loop [0, 1, 7, 8] (.seq (.seq (.reg [⟨none, some 14, 14, .mv (.t 8)⟩,
   ⟨none, some 15, 15, .bin .gtr (.t 14) (.k (.one (.pv (.int .i64 0))))⟩])
 (.cond 15 (.skip) (.exit 0)))
 (.seq (.block 1 (.reg [⟨none, some 18, 18, .mv (.t 7)⟩,
   ⟨none, some 19, 19, .mv (.t 0)⟩,
   ⟨none, some 20, 20, .mv (.t 1)⟩,
   ⟨none, some 21, 21, .call 91 [5, 0] [(.t 19), (.t 20)]⟩,
   ⟨none, some 22, 22, .call 90 [0, 0] [(.t 18), (.t 21)]⟩,
   ⟨none, some 7, 7, .mv (.t 22)⟩]))
 (.reg [⟨none, some 16, 16, .mv (.t 8)⟩,
   ⟨none, some 17, 17, .bin .sub (.t 16) (.k (.one (.pv (.int .i64 1))))⟩,
   ⟨none, some 8, 8, .mv (.t 17)⟩]))))))
 (.norm [7] (.seq (.reg [⟨none, some 23, 23, .mv (.t 7)⟩,
   ⟨none, some 24, 24, .conv .b2s (.t 23)⟩,
   ⟨none, some 6, 6, .mv (.t 24)⟩])
 (.ret)))))⟩
abbrev C_s_l5Text (Te : Nat → List AV → Res → Prop) : Prop := ∀ (c : CurV) (cs most : Int) (hc : c.ok) (hm : 0 ≤ most ∧ most ≤ 100), ∃ (r : ByteArray) (d : CurV), (r.size ≤ 4 * most.toNat ∧ d.ok) ∧ Te 88 [.ptr c.enc, .one (iT cs), .one (iT most)] ⟨[.one (sT r)], [d.enc, [iT cs], [iT most]]⟩
theorem r_s_l5Text {Te : Nat → List AV → Res → Prop} (c_s_l1Below : C_s_l1Below Te) (c_s_l5Sign : C_s_l5Sign Te) (c_s_PutSign : C_s_PutSign Te) : ∀ (c : CurV) (cs most : Int) (hc : c.ok) (hm : 0 ≤ most ∧ most ≤ 100), ∃ r0, (∃ (r : ByteArray) (d : CurV), (r.size ≤ 4 * most.toNat ∧ d.ok) ∧ r0 = (⟨[.one (sT r)], [d.enc, [iT cs], [iT most]]⟩ : Res)) ∧ RunFn Te x_s_l5Text [.ptr c.enc, .one (iT cs), .one (iT most)] r0 := by
  intro c cs most hc hm
  refine some_of (by simp -implicitDefEqProofs (maxSteps := 1000000) only [x_s_l5Text, go_sem]) (by rfl) ?_
  have w1 : IntKind.i64.wrap (most + 1) = most + 1 := IntWalk.i64_in _ (by omega)
  simp -implicitDefEqProofs (maxSteps := 1000000) only [x_s_l5Text, go_sem, true_implies, false_implies, w1]
  repeat (first | refine ⟨rfl, ?_⟩ | refine ⟨by decide, ?_⟩ | refine ⟨⟨by decide, by decide⟩, ?_⟩ | refine ⟨decide_eq_true (by omega), ?_⟩ | refine ⟨⟨decide_eq_true (by omega), decide_eq_true (by omega)⟩, ?_⟩)
  try (first | done | decide | exact decide_eq_true (by omega) | exact ⟨decide_eq_true (by omega), decide_eq_true (by omega)⟩)
  obtain ⟨k, d0, ⟨hk, hd0⟩, ht⟩ := c_s_l1Below c (most + 1) hc
  have hk1 := hk.2.1 (by omega)
  obtain ⟨K, rfl⟩ : ∃ K : Nat, k = K := ⟨k.toNat, by omega⟩
  refine .of (ht) ?_
  try simp -implicitDefEqProofs (maxSteps := 1000000) only [go_sem, true_implies, false_implies]
  repeat (first | refine ⟨rfl, ?_⟩ | refine ⟨by decide, ?_⟩ | refine ⟨⟨by decide, by decide⟩, ?_⟩ | refine ⟨decide_eq_true (by omega), ?_⟩ | refine ⟨⟨decide_eq_true (by omega), decide_eq_true (by omega)⟩, ?_⟩)
  try (first | done | decide | exact decide_eq_true (by omega) | exact ⟨decide_eq_true (by omega), decide_eq_true (by omega)⟩)
  refine loop_of (σ := Nat × List UInt8 × CurV) (fun x => ⟨[(0, .bp 0 0), (1, .one (.pv (.int .i64 cs))), (7, .one (.rf 28 0 [] 1 0 x.2.1.length)), (8, .one (.pv (.int .i64 x.1)))], [(0, [.ro 1 (x.2.2.b.map uR), .pv (.int .i64 x.2.2.i), .pv (.int .i64 x.2.2.h)])], [(0, c.enc), (1, [iT cs]), (2, [iT most]), (28, [slT true 1 uR x.2.1])]⟩) (fun x => x.1 ≤ K ∧ x.2.1.length ≤ 4 * (K - x.1) ∧ x.2.2.ok) (fun x => x.1) (K, [], d0) ?_ ⟨Nat.le_refl _, Nat.zero_le _, hd0⟩ ?_
  · simp -implicitDefEqProofs (maxSteps := 1000000) only [go_sem]
    rfl
  · rintro ⟨i, b, d⟩ ⟨hi, hb, hd⟩
    simp only at hi hb hd
    cases q : decide ((i : Int) > 0)
    · try simp -implicitDefEqProofs (maxSteps := 1000000) only [go_sem, true_implies, false_implies, q]
      repeat (first | refine ⟨rfl, ?_⟩ | refine ⟨by decide, ?_⟩ | refine ⟨⟨by decide, by decide⟩, ?_⟩ | refine ⟨decide_eq_true (by omega), ?_⟩ | refine ⟨⟨decide_eq_true (by omega), decide_eq_true (by omega)⟩, ?_⟩)
      try (first | done | decide | exact decide_eq_true (by omega) | exact ⟨decide_eq_true (by omega), decide_eq_true (by omega)⟩)
      have hi0 : i = 0 := by simp only [decide_eq_false_iff_not] at q; omega
      refine ⟨areBytes_uL b, ⟨(bytesOf (b.map uR)).toArray⟩, d, ⟨?_, hd⟩, rfl⟩
      show (bytesOf (b.map uR)).length ≤ _
      rw [bytesOf_uL]
      omega
    · simp only [decide_eq_true_eq] at q
      have w2 : IntKind.i64.wrap ((i : Int) - 1) = ((i - 1 : Nat) : Int) := by rw [IntWalk.i64_in _ (by omega)]; omega
      obtain ⟨r, d1, hd1, ht⟩ := c_s_l5Sign d cs hd
      have q' : decide ((i : Int) > 0) = true := decide_eq_true q
      try simp -implicitDefEqProofs (maxSteps := 1000000) only [go_sem, true_implies, false_implies, q']
      repeat (first | refine ⟨rfl, ?_⟩ | refine ⟨by decide, ?_⟩ | refine ⟨⟨by decide, by decide⟩, ?_⟩ | refine ⟨decide_eq_true (by omega), ?_⟩ | refine ⟨⟨decide_eq_true (by omega), decide_eq_true (by omega)⟩, ?_⟩)
      try (first | done | decide | exact decide_eq_true (by omega) | exact ⟨decide_eq_true (by omega), decide_eq_true (by omega)⟩)
      refine .of (ht) ?_
      try simp -implicitDefEqProofs (maxSteps := 1000000) only [go_sem, true_implies, false_implies]
      repeat (first | refine ⟨rfl, ?_⟩ | refine ⟨by decide, ?_⟩ | refine ⟨⟨by decide, by decide⟩, ?_⟩ | refine ⟨decide_eq_true (by omega), ?_⟩ | refine ⟨⟨decide_eq_true (by omega), decide_eq_true (by omega)⟩, ?_⟩)
      try (first | done | decide | exact decide_eq_true (by omega) | exact ⟨decide_eq_true (by omega), decide_eq_true (by omega)⟩)
      refine .of (c_s_PutSign b r (by omega)) ?_
      try simp -implicitDefEqProofs (maxSteps := 1000000) only [go_sem, true_implies, false_implies, w2]
      repeat (first | refine ⟨rfl, ?_⟩ | refine ⟨by decide, ?_⟩ | refine ⟨⟨by decide, by decide⟩, ?_⟩ | refine ⟨decide_eq_true (by omega), ?_⟩ | refine ⟨⟨decide_eq_true (by omega), decide_eq_true (by omega)⟩, ?_⟩)
      try (first | done | decide | exact decide_eq_true (by omega) | exact ⟨decide_eq_true (by omega), decide_eq_true (by omega)⟩)
      have hl := putSign_len b r
      exact ⟨(i - 1, putSign b r, d1), rfl, ⟨by simp only; omega, by simp only; omega, hd1⟩, by simp only; omega⟩
end Go.X

/- Ub -/
namespace Go.X
set_option maxRecDepth 100000
set_option maxHeartbeats 8000000
def msgS (m : Msg) : Prop := m.Key.size ≤ 61 ∧ m.Text.size ≤ 61
theorem msgS_In {m : Msg} (h : msgS m) {n : Nat} (hn : 61 ≤ n := by decide) : m.In n := ⟨Nat.le_trans h.1 hn, Nat.le_trans h.2 hn⟩
def x_s_l16Draw : FnX := ⟨59, [.cell 2 (some 8)],
  .seq (.reg [⟨none, some 2, 2, .alloc [.pv (.int .i64 0), .pv (.int .i64 0), .pv (.int .i64 0), .pv (.int .i64 0), .pv (.string ⟨#[]⟩), .pv (.string ⟨#[]⟩), .pv (.int .i64 0), .pv (.int .i64 0)]⟩])
 (.seq (.reg [⟨none, some 4, 4, .mv (.t 0)⟩,
   ⟨none, some 5, 5, .call 74 [5, 0] [(.t 4), (.k (.one (.pv (.int .i64 9))))]⟩,
   ⟨none, some 6, 6, .bin .add (.k (.one (.pv (.int .i64 1)))) (.t 5)⟩,
   ⟨none, some 7, 7, .mv (.t 0)⟩,
   ⟨none, some 8, 8, .bslice 1 [(.k (.one (.pv (.int .i64 0)))), (.k (.one (.pv (.int .i64 1)))), (.k (.one (.pv (.int .i64 2)))), (.k (.one (.pv (.int .i64 31)))), (.k (.one (.pv (.int .i64 65535))))]⟩,
   ⟨none, some 9, 9, .call 66 [5, 1] [(.t 7), (.t 8)]⟩,
   ⟨none, some 10, 10, .mv (.t 0)⟩,
   ⟨none, some 11, 11, .call 87 [5] [(.t 10)]⟩,
   ⟨none, some 12, 12, .mv (.t 0)⟩,
   ⟨none, some 13, 13, .call 74 [5, 0] [(.t 12), (.k (.one (.pv (.int .i64 7))))]⟩,
   ⟨none, some 14, 14, .mv (.t 0)⟩,
   ⟨none, some 15, 15, .call 74 [5, 0] [(.t 14), (.k (.one (.pv (.int .i64 8))))]⟩,
   ⟨none, some 16, 16, .build [.pv (.int .i64 0), .pv (.int .i64 0), .pv (.int .i64 0), .pv (.int .i64 0), .pv (.string ⟨#[]⟩), .pv (.string ⟨#[]⟩), .pv (.int .i64 0), .pv (.int .i64 0)] [(0, 1, (.t 6)), (3, 1, (.t 9)), (4, 1, (.t 11)), (7, 1, (.t 13)), (6, 1, (.t 15))]⟩,
   ⟨none, some 3, 3, .alloc [.pv (.int .i64 0), .pv (.int .i64 0), .pv (.int .i64 0), .pv (.int .i64 0), .pv (.string ⟨#[]⟩), .pv (.string ⟨#[]⟩), .pv (.int .i64 0), .pv (.int .i64 0)]⟩,
   ⟨none, none, 100001, .store 8 (.t 3) (.t 16)⟩])
 (.seq (.reg [⟨none, some 17, 17, .mv (.t 0)⟩,
   ⟨none, some 18, 18, .mv (.t 0)⟩,
   ⟨none, some 19, 19, .call 74 [5, 0] [(.t 18), (.k (.one (.pv (.int .i64 6))))]⟩,
   ⟨none, some 20, 20, .call 88 [5, 0, 0] [(.t 17), (.t 19), (.k (.one (.pv (.int .i64 4))))]⟩,
   ⟨none, some 21, 21, .faddr (.t 3) 5⟩,
   ⟨none, none, 100002, .store 1 (.t 21) (.t 20)⟩])
 (.seq (.seq (.reg [⟨none, some 22, 22, .faddr (.t 3) 0⟩,
   ⟨none, some 23, 23, .load none (.t 22)⟩])
 (.block 0 (.seq (.seq (.reg [⟨none, some 29, 29, .bin .eql (.t 23) (.k (.one (.pv (.int .i64 1))))⟩,
   ⟨none, some 28, 28, .mv (.t 29)⟩])
 (.cond 28 (.skip) (.seq (.reg [⟨none, some 30, 30, .bin .eql (.t 23) (.k (.one (.pv (.int .i64 3))))⟩,
   ⟨none, some 28, 28, .mv (.t 30)⟩])
 (.cond 28 (.skip) (.reg [⟨none, some 31, 31, .bin .eql (.t 23) (.k (.one (.pv (.int .i64 4))))⟩,
   ⟨none, some 28, 28, .mv (.t 31)⟩])))))
 (.cond 28 (.seq (.reg [⟨none, some 32, 32, .mv (.t 0)⟩,
   ⟨none, some 33, 33, .call 74 [5, 0] [(.t 32), (.k (.one (.pv (.int .i64 2))))]⟩,
   ⟨none, some 34, 34, .bin .add (.k (.one (.pv (.int .i64 1)))) (.t 33)⟩,
   ⟨none, some 35, 35, .faddr (.t 3) 1⟩,
   ⟨none, none, 100003, .store 1 (.t 35) (.t 34)⟩])
 (.reg [⟨none, some 36, 36, .mv (.t 0)⟩,
   ⟨none, some 37, 37, .call 74 [5, 0] [(.t 36), (.k (.one (.pv (.int .i64 2))))]⟩,
   ⟨none, some 38, 38, .bin .add (.k (.one (.pv (.int .i64 3)))) (.t 37)⟩,
   ⟨none, some 39, 39, .faddr (.t 3) 2⟩,
   ⟨none, none, 100004, .store 1 (.t 39) (.t 38)⟩])) (.seq (.seq (.reg [⟨none, some 41, 41, .bin .eql (.t 23) (.k (.one (.pv (.int .i64 2))))⟩,
   ⟨none, some 40, 40, .mv (.t 41)⟩])
 (.cond 40 (.skip) (.reg [⟨none, some 42, 42, .bin .eql (.t 23) (.k (.one (.pv (.int .i64 5))))⟩,
   ⟨none, some 40, 40, .mv (.t 42)⟩])))
 (.cond 40 (.seq (.reg [⟨none, some 43, 43, .mv (.t 0)⟩,
   ⟨none, some 44, 44, .call 74 [5, 0] [(.t 43), (.k (.one (.pv (.int .i64 2))))]⟩,
   ⟨none, some 45, 45, .bin .add (.k (.one (.pv (.int .i64 3)))) (.t 44)⟩,
   ⟨none, some 46, 46, .faddr (.t 3) 1⟩,
   ⟨none, none, 100005, .store 1 (.t 46) (.t 45)⟩])
 (.reg [⟨none, some 47, 47, .mv (.t 0)⟩,
   ⟨none, some 48, 48, .call 74 [5, 0] [(.t 47), (.k (.one (.pv (.int .i64 2))))]⟩,
   ⟨none, some 49, 49, .bin .add (.k (.one (.pv (.int .i64 1)))) (.t 48)⟩,
   ⟨none, some 50, 50, .faddr (.t 3) 2⟩,
   ⟨none, none, 100006, .store 1 (.t 50) (.t 49)⟩])) (.seq (.seq (.reg [⟨none, some 52, 52, .bin .eql (.t 23) (.k (.one (.pv (.int .i64 6))))⟩,
   ⟨none, some 51, 51, .mv (.t 52)⟩])
 (.cond 51 (.skip) (.reg [⟨none, some 53, 53, .bin .eql (.t 23) (.k (.one (.pv (.int .i64 8))))⟩,
   ⟨none, some 51, 51, .mv (.t 53)⟩])))
 (.cond 51 (.reg [⟨none, some 54, 54, .mv (.t 0)⟩,
   ⟨none, some 55, 55, .call 74 [5, 0] [(.t 54), (.k (.one (.pv (.int .i64 2))))]⟩,
   ⟨none, some 56, 56, .bin .add (.k (.one (.pv (.int .i64 3)))) (.t 55)⟩,
   ⟨none, some 57, 57, .faddr (.t 3) 2⟩,
   ⟨none, none, 100007, .store 1 (.t 57) (.t 56)⟩]) (.reg [⟨none, some 24, 24, .mv (.t 0)⟩,
   ⟨none, some 25, 25, .call 74 [5, 0] [(.t 24), (.k (.one (.pv (.int .i64 2))))]⟩,
   ⟨none, some 26, 26, .bin .add (.k (.one (.pv (.int .i64 3)))) (.t 25)⟩,
   ⟨none, some 27, 27, .faddr (.t 3) 1⟩,
   ⟨none, none, 100008, .store 1 (.t 27) (.t 26)⟩])))))))))
 (.seq (.reg [⟨none, some 58, 58, .load (some 8) (.t 3)⟩,
   ⟨none, none, 100009, .store 8 (.t 2) (.t 58)⟩])
 (.ret)))))⟩
abbrev C_s_l16Draw (Te : Nat → List AV → Res → Prop) : Prop := ∀ (c : CurV) (hc : c.ok), ∃ (m : Msg) (d : CurV), (msgS m ∧ d.ok) ∧ Te 72 [.ptr c.enc] ⟨[.agg m.row], [d.enc]⟩
theorem r_s_l16Draw {Te : Nat → List AV → Res → Prop} (c_s_l1Below : C_s_l1Below Te) (c_s_l1Int : C_s_l1Int Te) (c_s_l1Name : C_s_l1Name Te) (c_s_l5Text : C_s_l5Text Te) : ∀ (c : CurV) (hc : c.ok), ∃ r0, (∃ (m : Msg) (d : CurV), (msgS m ∧ d.ok) ∧ r0 = (⟨[.agg m.row], [d.enc]⟩ : Res)) ∧ RunFn Te x_s_l16Draw [.ptr c.enc] r0 := by
  intro c hc
  refine some_of (by simp -implicitDefEqProofs (maxSteps := 1000000) only [x_s_l16Draw, go_sem]) (by rfl) ?_
  simp -implicitDefEqProofs (maxSteps := 1000000) only [x_s_l16Draw, go_sem, true_implies, false_implies]
  repeat (first | refine ⟨rfl, ?_⟩ | refine ⟨by decide, ?_⟩ | refine ⟨⟨by decide, by decide⟩, ?_⟩ | refine ⟨decide_eq_true (by omega), ?_⟩ | refine ⟨⟨decide_eq_true (by omega), decide_eq_true (by omega)⟩, ?_⟩)
  try (first | done | decide | exact decide_eq_true (by omega) | exact ⟨decide_eq_true (by omega), decide_eq_true (by omega)⟩)
  obtain ⟨k, d1, ⟨hk, hd1⟩, ht⟩ := c_s_l1Below c 9 hc
  have hk1 := hk.2.1 (by decide)
  obtain ⟨K, wk⟩ : ∃ K, IntKind.i64.wrap (1 + k) = K := ⟨_, rfl⟩
  refine .of (ht) ?_
  try simp -implicitDefEqProofs (maxSteps := 1000000) only [go_sem, true_implies, false_implies, wk]
  repeat (first | refine ⟨rfl, ?_⟩ | refine ⟨by decide, ?_⟩ | refine ⟨⟨by decide, by decide⟩, ?_⟩ | refine ⟨decide_eq_true (by omega), ?_⟩ | refine ⟨⟨decide_eq_true (by omega), decide_eq_true (by omega)⟩, ?_⟩)
  try (first | done | decide | exact decide_eq_true (by omega) | exact ⟨decide_eq_true (by omega), decide_eq_true (by omega)⟩)
  obtain ⟨sq, d2, ⟨_, hd2⟩, ht⟩ := c_s_l1Int d1 [0, 1, 2, 31, 65535] hd1 (by decide)
  refine .of (ht) ?_
  try simp -implicitDefEqProofs (maxSteps := 1000000) only [go_sem, true_implies, false_implies]
  repeat (first | refine ⟨rfl, ?_⟩ | refine ⟨by decide, ?_⟩ | refine ⟨⟨by decide, by decide⟩, ?_⟩ | refine ⟨decide_eq_true (by omega), ?_⟩ | refine ⟨⟨decide_eq_true (by omega), decide_eq_true (by omega)⟩, ?_⟩)
  try (first | done | decide | exact decide_eq_true (by omega) | exact ⟨decide_eq_true (by omega), decide_eq_true (by omega)⟩)
  obtain ⟨key, d3, ⟨hkey, hd3⟩, ht⟩ := c_s_l1Name d2 hd2
  refine .of (ht) ?_
  try simp -implicitDefEqProofs (maxSteps := 1000000) only [go_sem, true_implies, false_implies]
  repeat (first | refine ⟨rfl, ?_⟩ | refine ⟨by decide, ?_⟩ | refine ⟨⟨by decide, by decide⟩, ?_⟩ | refine ⟨decide_eq_true (by omega), ?_⟩ | refine ⟨⟨decide_eq_true (by omega), decide_eq_true (by omega)⟩, ?_⟩)
  try (first | done | decide | exact decide_eq_true (by omega) | exact ⟨decide_eq_true (by omega), decide_eq_true (by omega)⟩)
  obtain ⟨cd, d4, ⟨_, hd4⟩, ht⟩ := c_s_l1Below d3 7 hd3
  refine .of (ht) ?_
  try simp -implicitDefEqProofs (maxSteps := 1000000) only [go_sem, true_implies, false_implies]
  repeat (first | refine ⟨rfl, ?_⟩ | refine ⟨by decide, ?_⟩ | refine ⟨⟨by decide, by decide⟩, ?_⟩ | refine ⟨decide_eq_true (by omega), ?_⟩ | refine ⟨⟨decide_eq_true (by omega), decide_eq_true (by omega)⟩, ?_⟩)
  try (first | done | decide | exact decide_eq_true (by omega) | exact ⟨decide_eq_true (by omega), decide_eq_true (by omega)⟩)
  obtain ⟨n, d5, ⟨_, hd5⟩, ht⟩ := c_s_l1Below d4 8 hd4
  refine .of (ht) ?_
  try simp -implicitDefEqProofs (maxSteps := 1000000) only [go_sem, true_implies, false_implies]
  repeat (first | refine ⟨rfl, ?_⟩ | refine ⟨by decide, ?_⟩ | refine ⟨⟨by decide, by decide⟩, ?_⟩ | refine ⟨decide_eq_true (by omega), ?_⟩ | refine ⟨⟨decide_eq_true (by omega), decide_eq_true (by omega)⟩, ?_⟩)
  try (first | done | decide | exact decide_eq_true (by omega) | exact ⟨decide_eq_true (by omega), decide_eq_true (by omega)⟩)
  obtain ⟨cs, d6, ⟨_, hd6⟩, ht⟩ := c_s_l1Below d5 6 hd5
  refine .of (ht) ?_
  try simp -implicitDefEqProofs (maxSteps := 1000000) only [go_sem, true_implies, false_implies]
  repeat (first | refine ⟨rfl, ?_⟩ | refine ⟨by decide, ?_⟩ | refine ⟨⟨by decide, by decide⟩, ?_⟩ | refine ⟨decide_eq_true (by omega), ?_⟩ | refine ⟨⟨decide_eq_true (by omega), decide_eq_true (by omega)⟩, ?_⟩)
  try (first | done | decide | exact decide_eq_true (by omega) | exact ⟨decide_eq_true (by omega), decide_eq_true (by omega)⟩)
  obtain ⟨tx, d7, ⟨htx, hd7⟩, ht⟩ := c_s_l5Text d6 cs 4 hd6 (by decide)
  have hS : ∀ a b : Int, msgS ⟨K, a, b, sq, key, tx, n, cd⟩ := fun a b => ⟨by show key.size ≤ 61; omega, by show tx.size ≤ 61; have : tx.size ≤ 4 * 4 := htx; omega⟩
  cases g1 : (K == 1)
  · cases g3 : (K == 3)
    · cases g4 : (K == 4)
      · cases g2 : (K == 2)
        · cases g5 : (K == 5)
          · cases g6 : (K == 6)
            · cases g8 : (K == 8)
              · refine .of (ht) ?_
                try simp -implicitDefEqProofs (maxSteps := 1000000) only [go_sem, true_implies, false_implies, g1, g2, g3, g4, g5, g6, g8]
                repeat (first | refine ⟨rfl, ?_⟩ | refine ⟨by decide, ?_⟩ | refine ⟨⟨by decide, by decide⟩, ?_⟩ | refine ⟨decide_eq_true (by omega), ?_⟩ | refine ⟨⟨decide_eq_true (by omega), decide_eq_true (by omega)⟩, ?_⟩)
                try (first | done | decide | exact decide_eq_true (by omega) | exact ⟨decide_eq_true (by omega), decide_eq_true (by omega)⟩)
                obtain ⟨u, e1, ⟨_, he1⟩, ht⟩ := c_s_l1Below d7 2 hd7
                refine .of (ht) ?_
                try simp -implicitDefEqProofs (maxSteps := 1000000) only [go_sem, true_implies, false_implies]
                repeat (first | refine ⟨rfl, ?_⟩ | refine ⟨by decide, ?_⟩ | refine ⟨⟨by decide, by decide⟩, ?_⟩ | refine ⟨decide_eq_true (by omega), ?_⟩ | refine ⟨⟨decide_eq_true (by omega), decide_eq_true (by omega)⟩, ?_⟩)
                try (first | done | decide | exact decide_eq_true (by omega) | exact ⟨decide_eq_true (by omega), decide_eq_true (by omega)⟩)
                exact ⟨⟨K, IntKind.i64.wrap (3 + u), 0, sq, key, tx, n, cd⟩, e1, ⟨hS _ _, he1⟩, rfl⟩
              · refine .of (ht) ?_
                try simp -implicitDefEqProofs (maxSteps := 1000000) only [go_sem, true_implies, false_implies, g1, g2, g3, g4, g5, g6, g8]
                repeat (first | refine ⟨rfl, ?_⟩ | refine ⟨by decide, ?_⟩ | refine ⟨⟨by decide, by decide⟩, ?_⟩ | refine ⟨decide_eq_true (by omega), ?_⟩ | refine ⟨⟨decide_eq_true (by omega), decide_eq_true (by omega)⟩, ?_⟩)
                try (first | done | decide | exact decide_eq_true (by omega) | exact ⟨decide_eq_true (by omega), decide_eq_true (by omega)⟩)
                obtain ⟨u, e1, ⟨_, he1⟩, ht⟩ := c_s_l1Below d7 2 hd7
                refine .of (ht) ?_
                try simp -implicitDefEqProofs (maxSteps := 1000000) only [go_sem, true_implies, false_implies]
                repeat (first | refine ⟨rfl, ?_⟩ | refine ⟨by decide, ?_⟩ | refine ⟨⟨by decide, by decide⟩, ?_⟩ | refine ⟨decide_eq_true (by omega), ?_⟩ | refine ⟨⟨decide_eq_true (by omega), decide_eq_true (by omega)⟩, ?_⟩)
                try (first | done | decide | exact decide_eq_true (by omega) | exact ⟨decide_eq_true (by omega), decide_eq_true (by omega)⟩)
                exact ⟨⟨K, 0, IntKind.i64.wrap (3 + u), sq, key, tx, n, cd⟩, e1, ⟨hS _ _, he1⟩, rfl⟩
            · refine .of (ht) ?_
              try simp -implicitDefEqProofs (maxSteps := 1000000) only [go_sem, true_implies, false_implies, g1, g2, g3, g4, g5, g6]
              repeat (first | refine ⟨rfl, ?_⟩ | refine ⟨by decide, ?_⟩ | refine ⟨⟨by decide, by decide⟩, ?_⟩ | refine ⟨decide_eq_true (by omega), ?_⟩ | refine ⟨⟨decide_eq_true (by omega), decide_eq_true (by omega)⟩, ?_⟩)
              try (first | done | decide | exact decide_eq_true (by omega) | exact ⟨decide_eq_true (by omega), decide_eq_true (by omega)⟩)
              obtain ⟨u, e1, ⟨_, he1⟩, ht⟩ := c_s_l1Below d7 2 hd7
              refine .of (ht) ?_
              try simp -implicitDefEqProofs (maxSteps := 1000000) only [go_sem, true_implies, false_implies]
              repeat (first | refine ⟨rfl, ?_⟩ | refine ⟨by decide, ?_⟩ | refine ⟨⟨by decide, by decide⟩, ?_⟩ | refine ⟨decide_eq_true (by omega), ?_⟩ | refine ⟨⟨decide_eq_true (by omega), decide_eq_true (by omega)⟩, ?_⟩)
              try (first | done | decide | exact decide_eq_true (by omega) | exact ⟨decide_eq_true (by omega), decide_eq_true (by omega)⟩)
              exact ⟨⟨K, 0, IntKind.i64.wrap (3 + u), sq, key, tx, n, cd⟩, e1, ⟨hS _ _, he1⟩, rfl⟩
          · refine .of (ht) ?_
            try simp -implicitDefEqProofs (maxSteps := 1000000) only [go_sem, true_implies, false_implies, g1, g2, g3, g4, g5]
            repeat (first | refine ⟨rfl, ?_⟩ | refine ⟨by decide, ?_⟩ | refine ⟨⟨by decide, by decide⟩, ?_⟩ | refine ⟨decide_eq_true (by omega), ?_⟩ | refine ⟨⟨decide_eq_true (by omega), decide_eq_true (by omega)⟩, ?_⟩)
            try (first | done | decide | exact decide_eq_true (by omega) | exact ⟨decide_eq_true (by omega), decide_eq_true (by omega)⟩)
            obtain ⟨u, e1, ⟨_, he1⟩, ht⟩ := c_s_l1Below d7 2 hd7
            refine .of (ht) ?_
            try simp -implicitDefEqProofs (maxSteps := 1000000) only [go_sem, true_implies, false_implies]
            repeat (first | refine ⟨rfl, ?_⟩ | refine ⟨by decide, ?_⟩ | refine ⟨⟨by decide, by decide⟩, ?_⟩ | refine ⟨decide_eq_true (by omega), ?_⟩ | refine ⟨⟨decide_eq_true (by omega), decide_eq_true (by omega)⟩, ?_⟩)
            try (first | done | decide | exact decide_eq_true (by omega) | exact ⟨decide_eq_true (by omega), decide_eq_true (by omega)⟩)
            obtain ⟨v, e2, ⟨_, he2⟩, ht⟩ := c_s_l1Below e1 2 he1
            refine .of (ht) ?_
            try simp -implicitDefEqProofs (maxSteps := 1000000) only [go_sem, true_implies, false_implies]
            repeat (first | refine ⟨rfl, ?_⟩ | refine ⟨by decide, ?_⟩ | refine ⟨⟨by decide, by decide⟩, ?_⟩ | refine ⟨decide_eq_true (by omega), ?_⟩ | refine ⟨⟨decide_eq_true (by omega), decide_eq_true (by omega)⟩, ?_⟩)
            try (first | done | decide | exact decide_eq_true (by omega) | exact ⟨decide_eq_true (by omega), decide_eq_true (by omega)⟩)
            exact ⟨⟨K, IntKind.i64.wrap (3 + u), IntKind.i64.wrap (1 + v), sq, key, tx, n, cd⟩, e2, ⟨hS _ _, he2⟩, rfl⟩
        · refine .of (ht) ?_
          try simp -implicitDefEqProofs (maxSteps := 1000000) only [go_sem, true_implies, false_implies, g1, g2, g3, g4]
          repeat (first | refine ⟨rfl, ?_⟩ | refine ⟨by decide, ?_⟩ | refine ⟨⟨by decide, by decide⟩, ?_⟩ | refine ⟨decide_eq_true (by omega), ?_⟩ | refine ⟨⟨decide_eq_true (by omega), decide_eq_true (by omega)⟩, ?_⟩)
          try (first | done | decide | exact decide_eq_true (by omega) | exact ⟨decide_eq_true (by omega), decide_eq_true (by omega)⟩)
          obtain ⟨u, e1, ⟨_, he1⟩, ht⟩ := c_s_l1Below d7 2 hd7
          refine .of (ht) ?_
          try simp -implicitDefEqProofs (maxSteps := 1000000) only [go_sem, true_implies, false_implies]
          repeat (first | refine ⟨rfl, ?_⟩ | refine ⟨by decide, ?_⟩ | refine ⟨⟨by decide, by decide⟩, ?_⟩ | refine ⟨decide_eq_true (by omega), ?_⟩ | refine ⟨⟨decide_eq_true (by omega), decide_eq_true (by omega)⟩, ?_⟩)
          try (first | done | decide | exact decide_eq_true (by omega) | exact ⟨decide_eq_true (by omega), decide_eq_true (by omega)⟩)
          obtain ⟨v, e2, ⟨_, he2⟩, ht⟩ := c_s_l1Below e1 2 he1
          refine .of (ht) ?_
          try simp -implicitDefEqProofs (maxSteps := 1000000) only [go_sem, true_implies, false_implies]
          repeat (first | refine ⟨rfl, ?_⟩ | refine ⟨by decide, ?_⟩ | refine ⟨⟨by decide, by decide⟩, ?_⟩ | refine ⟨decide_eq_true (by omega), ?_⟩ | refine ⟨⟨decide_eq_true (by omega), decide_eq_true (by omega)⟩, ?_⟩)
          try (first | done | decide | exact decide_eq_true (by omega) | exact ⟨decide_eq_true (by omega), decide_eq_true (by omega)⟩)
          exact ⟨⟨K, IntKind.i64.wrap (3 + u), IntKind.i64.wrap (1 + v), sq, key, tx, n, cd⟩, e2, ⟨hS _ _, he2⟩, rfl⟩
      · refine .of (ht) ?_
        try simp -implicitDefEqProofs (maxSteps := 1000000) only [go_sem, true_implies, false_implies, g1, g3, g4]
        repeat (first | refine ⟨rfl, ?_⟩ | refine ⟨by decide, ?_⟩ | refine ⟨⟨by decide, by decide⟩, ?_⟩ | refine ⟨decide_eq_true (by omega), ?_⟩ | refine ⟨⟨decide_eq_true (by omega), decide_eq_true (by omega)⟩, ?_⟩)
        try (first | done | decide | exact decide_eq_true (by omega) | exact ⟨decide_eq_true (by omega), decide_eq_true (by omega)⟩)
        obtain ⟨u, e1, ⟨_, he1⟩, ht⟩ := c_s_l1Below d7 2 hd7
        refine .of (ht) ?_
        try simp -implicitDefEqProofs (maxSteps := 1000000) only [go_sem, true_implies, false_implies]
        repeat (first | refine ⟨rfl, ?_⟩ | refine ⟨by decide, ?_⟩ | refine ⟨⟨by decide, by decide⟩, ?_⟩ | refine ⟨decide_eq_true (by omega), ?_⟩ | refine ⟨⟨decide_eq_true (by omega), decide_eq_true (by omega)⟩, ?_⟩)
        try (first | done | decide | exact decide_eq_true (by omega) | exact ⟨decide_eq_true (by omega), decide_eq_true (by omega)⟩)
        obtain ⟨v, e2, ⟨_, he2⟩, ht⟩ := c_s_l1Below e1 2 he1
        refine .of (ht) ?_
        try simp -implicitDefEqProofs (maxSteps := 1000000) only [go_sem, true_implies, false_implies]
        repeat (first | refine ⟨rfl, ?_⟩ | refine ⟨by decide, ?_⟩ | refine ⟨⟨by decide, by decide⟩, ?_⟩ | refine ⟨decide_eq_true (by omega), ?_⟩ | refine ⟨⟨decide_eq_true (by omega), decide_eq_true (by omega)⟩, ?_⟩)
        try (first | done | decide | exact decide_eq_true (by omega) | exact ⟨decide_eq_true (by omega), decide_eq_true (by omega)⟩)
        exact ⟨⟨K, IntKind.i64.wrap (1 + u), IntKind.i64.wrap (3 + v), sq, key, tx, n, cd⟩, e2, ⟨hS _ _, he2⟩, rfl⟩
    · refine .of (ht) ?_
      try simp -implicitDefEqProofs (maxSteps := 1000000) only [go_sem, true_implies, false_implies, g1, g3]
      repeat (first | refine ⟨rfl, ?_⟩ | refine ⟨by decide, ?_⟩ | refine ⟨⟨by decide, by decide⟩, ?_⟩ | refine ⟨decide_eq_true (by omega), ?_⟩ | refine ⟨⟨decide_eq_true (by omega), decide_eq_true (by omega)⟩, ?_⟩)
      try (first | done | decide | exact decide_eq_true (by omega) | exact ⟨decide_eq_true (by omega), decide_eq_true (by omega)⟩)
      obtain ⟨u, e1, ⟨_, he1⟩, ht⟩ := c_s_l1Below d7 2 hd7
      refine .of (ht) ?_
      try simp -implicitDefEqProofs (maxSteps := 1000000) only [go_sem, true_implies, false_implies]
      repeat (first | refine ⟨rfl, ?_⟩ | refine ⟨by decide, ?_⟩ | refine ⟨⟨by decide, by decide⟩, ?_⟩ | refine ⟨decide_eq_true (by omega), ?_⟩ | refine ⟨⟨decide_eq_true (by omega), decide_eq_true (by omega)⟩, ?_⟩)
      try (first | done | decide | exact decide_eq_true (by omega) | exact ⟨decide_eq_true (by omega), decide_eq_true (by omega)⟩)
      obtain ⟨v, e2, ⟨_, he2⟩, ht⟩ := c_s_l1Below e1 2 he1
      refine .of (ht) ?_
      try simp -implicitDefEqProofs (maxSteps := 1000000) only [go_sem, true_implies, false_implies]
      repeat (first | refine ⟨rfl, ?_⟩ | refine ⟨by decide, ?_⟩ | refine ⟨⟨by decide, by decide⟩, ?_⟩ | refine ⟨decide_eq_true (by omega), ?_⟩ | refine ⟨⟨decide_eq_true (by omega), decide_eq_true (by omega)⟩, ?_⟩)
      try (first | done | decide | exact decide_eq_true (by omega) | exact ⟨decide_eq_true (by omega), decide_eq_true (by omega)⟩)
      exact ⟨⟨K, IntKind.i64.wrap (1 + u), IntKind.i64.wrap (3 + v), sq, key, tx, n, cd⟩, e2, ⟨hS _ _, he2⟩, rfl⟩
  · refine .of (ht) ?_
    try simp -implicitDefEqProofs (maxSteps := 1000000) only [go_sem, true_implies, false_implies, g1]
    repeat (first | refine ⟨rfl, ?_⟩ | refine ⟨by decide, ?_⟩ | refine ⟨⟨by decide, by decide⟩, ?_⟩ | refine ⟨decide_eq_true (by omega), ?_⟩ | refine ⟨⟨decide_eq_true (by omega), decide_eq_true (by omega)⟩, ?_⟩)
    try (first | done | decide | exact decide_eq_true (by omega) | exact ⟨decide_eq_true (by omega), decide_eq_true (by omega)⟩)
    obtain ⟨u, e1, ⟨_, he1⟩, ht⟩ := c_s_l1Below d7 2 hd7
    refine .of (ht) ?_
    try simp -implicitDefEqProofs (maxSteps := 1000000) only [go_sem, true_implies, false_implies]
    repeat (first | refine ⟨rfl, ?_⟩ | refine ⟨by decide, ?_⟩ | refine ⟨⟨by decide, by decide⟩, ?_⟩ | refine ⟨decide_eq_true (by omega), ?_⟩ | refine ⟨⟨decide_eq_true (by omega), decide_eq_true (by omega)⟩, ?_⟩)
    try (first | done | decide | exact decide_eq_true (by omega) | exact ⟨decide_eq_true (by omega), decide_eq_true (by omega)⟩)
    obtain ⟨v, e2, ⟨_, he2⟩, ht⟩ := c_s_l1Below e1 2 he1
    refine .of (ht) ?_
    try simp -implicitDefEqProofs (maxSteps := 1000000) only [go_sem, true_implies, false_implies]
    repeat (first | refine ⟨rfl, ?_⟩ | refine ⟨by decide, ?_⟩ | refine ⟨⟨by decide, by decide⟩, ?_⟩ | refine ⟨decide_eq_true (by omega), ?_⟩ | refine ⟨⟨decide_eq_true (by omega), decide_eq_true (by omega)⟩, ?_⟩)
    try (first | done | decide | exact decide_eq_true (by omega) | exact ⟨decide_eq_true (by omega), decide_eq_true (by omega)⟩)
    exact ⟨⟨K, IntKind.i64.wrap (1 + u), IntKind.i64.wrap (3 + v), sq, key, tx, n, cd⟩, e2, ⟨hS _ _, he2⟩, rfl⟩
end Go.X

/- Uc -/
namespace Go.X
set_option maxRecDepth 100000
set_option maxHeartbeats 8000000
abbrev zeroL (u : Int) : List (List T) := lentLL (List.take (60 + u).toNat (List.replicate (60 + u).toNat [Tr.pv (Value.int IntKind.u8 0)]))
theorem zero60 {u : Int} (h : 0 ≤ u) (h1 : u < 2) : (decide ((60 + u).toNat ≤ (60 + u).toNat) = true ∧ wholeLL (List.take (60 + u).toNat (List.replicate (60 + u).toNat [(Tr.pv (Value.int IntKind.u8 0) : T)])) = true) ∧ areBytes (zeroL u) = true ∧ (bytesOf (zeroL u)).length ≤ 61 := by
  rcases (show u = 0 ∨ u = 1 by omega) with rfl | rfl
  · exact ⟨⟨rfl, rfl⟩, rfl, by decide⟩
  · exact ⟨⟨rfl, rfl⟩, rfl, by decide⟩
def x_s_l16Any : FnX := ⟨60, [.cell 2 (some 8)],
  .seq (.reg [⟨none, some 2, 2, .alloc [.pv (.int .i64 0), .pv (.int .i64 0), .pv (.int .i64 0), .pv (.int .i64 0), .pv (.string ⟨#[]⟩), .pv (.string ⟨#[]⟩), .pv (.int .i64 0), .pv (.int .i64 0)]⟩])
 (.seq (.reg [⟨none, some 4, 4, .mv (.t 0)⟩,
   ⟨none, some 5, 5, .call 72 [5] [(.t 4)]⟩,
   ⟨none, some 3, 3, .alloc [.pv (.int .i64 0), .pv (.int .i64 0), .pv (.int .i64 0), .pv (.int .i64 0), .pv (.string ⟨#[]⟩), .pv (.string ⟨#[]⟩), .pv (.int .i64 0), .pv (.int .i64 0)]⟩,
   ⟨none, none, 100001, .store 8 (.t 3) (.t 5)⟩])
 (.seq (.seq (.reg [⟨none, some 6, 6, .mv (.t 0)⟩,
   ⟨none, some 7, 7, .call 74 [5, 0] [(.t 6), (.k (.one (.pv (.int .i64 14))))]⟩])
 (.block 0 (.seq (.reg [⟨none, some 9, 9, .bin .eql (.t 7) (.k (.one (.pv (.int .i64 0))))⟩,
   ⟨none, some 8, 8, .mv (.t 9)⟩])
 (.cond 8 (.reg [⟨none, some 10, 10, .mv (.t 0)⟩,
   ⟨none, some 11, 11, .bslice 1 [(.k (.one (.pv (.int .i64 0)))), (.k (.one (.pv (.int .i64 10)))), (.k (.one (.pv (.int .i64 1)))), (.k (.one (.pv (.int .i64 3))))]⟩,
   ⟨none, some 12, 12, .call 66 [5, 1] [(.t 10), (.t 11)]⟩,
   ⟨none, some 13, 13, .faddr (.t 3) 0⟩,
   ⟨none, none, 100002, .store 1 (.t 13) (.t 12)⟩]) (.seq (.reg [⟨none, some 15, 15, .bin .eql (.t 7) (.k (.one (.pv (.int .i64 1))))⟩,
   ⟨none, some 14, 14, .mv (.t 15)⟩])
 (.cond 14 (.reg [⟨none, some 16, 16, .mv (.t 0)⟩,
   ⟨none, some 17, 17, .bslice 1 [(.k (.one (.pv (.int .i64 (-1))))), (.k (.one (.pv (.int .i64 0)))), (.k (.one (.pv (.int .i64 4)))), (.k (.one (.pv (.int .i64 5))))]⟩,
   ⟨none, some 18, 18, .call 66 [5, 1] [(.t 16), (.t 17)]⟩,
   ⟨none, some 19, 19, .faddr (.t 3) 1⟩,
   ⟨none, none, 100003, .store 1 (.t 19) (.t 18)⟩]) (.seq (.reg [⟨none, some 21, 21, .bin .eql (.t 7) (.k (.one (.pv (.int .i64 2))))⟩,
   ⟨none, some 20, 20, .mv (.t 21)⟩])
 (.cond 20 (.reg [⟨none, some 22, 22, .mv (.t 0)⟩,
   ⟨none, some 23, 23, .bslice 1 [(.k (.one (.pv (.int .i64 (-1))))), (.k (.one (.pv (.int .i64 0)))), (.k (.one (.pv (.int .i64 4)))), (.k (.one (.pv (.int .i64 5))))]⟩,
   ⟨none, some 24, 24, .call 66 [5, 1] [(.t 22), (.t 23)]⟩,
   ⟨none, some 25, 25, .faddr (.t 3) 2⟩,
   ⟨none, none, 100004, .store 1 (.t 25) (.t 24)⟩]) (.seq (.reg [⟨none, some 27, 27, .bin .eql (.t 7) (.k (.one (.pv (.int .i64 3))))⟩,
   ⟨none, some 26, 26, .mv (.t 27)⟩])
 (.cond 26 (.reg [⟨none, some 28, 28, .mv (.t 0)⟩,
   ⟨none, some 29, 29, .call 84 [5] [(.t 28)]⟩,
   ⟨none, some 30, 30, .faddr (.t 3) 3⟩,
   ⟨none, none, 100005, .store 1 (.t 30) (.t 29)⟩]) (.seq (.reg [⟨none, some 32, 32, .bin .eql (.t 7) (.k (.one (.pv (.int .i64 4))))⟩,
   ⟨none, some 31, 31, .mv (.t 32)⟩])
 (.cond 31 (.reg [⟨none, some 33, 33, .mv (.t 0)⟩,
   ⟨none, some 34, 34, .call 74 [5, 0] [(.t 33), (.k (.one (.pv (.int .i64 2))))]⟩,
   ⟨none, some 35, 35, .bin .add (.k (.one (.pv (.int .i64 60)))) (.t 34)⟩,
   ⟨none, some 36, 36, .mks 1 1 [.pv (.int .u8 0)] (.t 35)⟩,
   ⟨none, some 37, 37, .conv .b2s (.t 36)⟩,
   ⟨none, some 38, 38, .faddr (.t 3) 4⟩,
   ⟨none, none, 100006, .store 1 (.t 38) (.t 37)⟩]) (.seq (.reg [⟨none, some 40, 40, .bin .eql (.t 7) (.k (.one (.pv (.int .i64 5))))⟩,
   ⟨none, some 39, 39, .mv (.t 40)⟩])
 (.cond 39 (.reg [⟨none, some 41, 41, .mv (.t 0)⟩,
   ⟨none, some 42, 42, .call 74 [5, 0] [(.t 41), (.k (.one (.pv (.int .i64 2))))]⟩,
   ⟨none, some 43, 43, .bin .add (.k (.one (.pv (.int .i64 60)))) (.t 42)⟩,
   ⟨none, some 44, 44, .mks 1 1 [.pv (.int .u8 0)] (.t 43)⟩,
   ⟨none, some 45, 45, .conv .b2s (.t 44)⟩,
   ⟨none, some 46, 46, .faddr (.t 3) 5⟩,
   ⟨none, none, 100007, .store 1 (.t 46) (.t 45)⟩]) (.seq (.reg [⟨none, some 48, 48, .bin .eql (.t 7) (.k (.one (.pv (.int .i64 6))))⟩,
   ⟨none, some 47, 47, .mv (.t 48)⟩])
 (.cond 47 (.reg [⟨none, some 49, 49, .mv (.t 0)⟩,
   ⟨none, some 50, 50, .bslice 1 [(.k (.one (.pv (.int .i64 (-1))))), (.k (.one (.pv (.int .i64 255)))), (.k (.one (.pv (.int .i64 256))))]⟩,
   ⟨none, some 51, 51, .call 66 [5, 1] [(.t 49), (.t 50)]⟩,
   ⟨none, some 52, 52, .faddr (.t 3) 6⟩,
   ⟨none, none, 100008, .store 1 (.t 52) (.t 51)⟩]) (.seq (.reg [⟨none, some 54, 54, .bin .eql (.t 7) (.k (.one (.pv (.int .i64 7))))⟩,
   ⟨none, some 53, 53, .mv (.t 54)⟩])
 (.cond 53 (.reg [⟨none, some 55, 55, .mv (.t 0)⟩,
   ⟨none, some 56, 56, .bslice 1 [(.k (.one (.pv (.int .i64 (-1))))), (.k (.one (.pv (.int .i64 6)))), (.k (.one (.pv (.int .i64 7))))]⟩,
   ⟨none, some 57, 57, .call 66 [5, 1] [(.t 55), (.t 56)]⟩,
   ⟨none, some 58, 58, .faddr (.t 3) 7⟩,
   ⟨none, none, 100009, .store 1 (.t 58) (.t 57)⟩]) (.skip)))))))))))))))))))
 (.seq (.reg [⟨none, some 59, 59, .load (some 8) (.t 3)⟩,
   ⟨none, none, 100010, .store 8 (.t 2) (.t 59)⟩])
 (.ret))))⟩
abbrev C_s_l16Any (Te : Nat → List AV → Res → Prop) : Prop := ∀ (c : CurV) (hc : c.ok), ∃ (m : Msg) (d : CurV), (msgS m ∧ d.ok) ∧ Te 63 [.ptr c.enc] ⟨[.agg m.row], [d.enc]⟩
theorem r_s_l16Any {Te : Nat → List AV → Res → Prop} (c_s_l16Draw : C_s_l16Draw Te) (c_s_l1Below : C_s_l1Below Te) (c_s_l1Int : C_s_l1Int Te) (c_s_l1Num : C_s_l1Num Te) : ∀ (c : CurV) (hc : c.ok), ∃ r0, (∃ (m : Msg) (d : CurV), (msgS m ∧ d.ok) ∧ r0 = (⟨[.agg m.row], [d.enc]⟩ : Res)) ∧ RunFn Te x_s_l16Any [.ptr c.enc] r0 := by
  intro c hc
  refine some_of (by simp -implicitDefEqProofs (maxSteps := 1000000) only [x_s_l16Any, go_sem]) (by rfl) ?_
  simp -implicitDefEqProofs (maxSteps := 1000000) only [x_s_l16Any, go_sem, true_implies, false_implies]
  repeat (first | refine ⟨rfl, ?_⟩ | refine ⟨by decide, ?_⟩ | refine ⟨⟨by decide, by decide⟩, ?_⟩ | refine ⟨decide_eq_true (by omega), ?_⟩ | refine ⟨⟨decide_eq_true (by omega), decide_eq_true (by omega)⟩, ?_⟩)
  try (first | done | decide | exact decide_eq_true (by omega) | exact ⟨decide_eq_true (by omega), decide_eq_true (by omega)⟩)
  obtain ⟨m, d0, ⟨⟨hk, htx⟩, hd0⟩, ht⟩ := c_s_l16Draw c hc
  refine .of (ht) ?_
  try simp -implicitDefEqProofs (maxSteps := 1000000) only [go_sem, true_implies, false_implies]
  repeat (first | refine ⟨rfl, ?_⟩ | refine ⟨by decide, ?_⟩ | refine ⟨⟨by decide, by decide⟩, ?_⟩ | refine ⟨decide_eq_true (by omega), ?_⟩ | refine ⟨⟨decide_eq_true (by omega), decide_eq_true (by omega)⟩, ?_⟩)
  try (first | done | decide | exact decide_eq_true (by omega) | exact ⟨decide_eq_true (by omega), decide_eq_true (by omega)⟩)
  obtain ⟨k, d, ⟨⟨hk0, hk1, _⟩, hd⟩, ht⟩ := c_s_l1Below d0 14 hd0
  have hk14 := hk1 (by decide)
  by_cases h0 : k = 0
  · subst h0
    refine .of (ht) ?_
    try simp -implicitDefEqProofs (maxSteps := 1000000) only [go_sem, true_implies, false_implies]
    repeat (first | refine ⟨rfl, ?_⟩ | refine ⟨by decide, ?_⟩ | refine ⟨⟨by decide, by decide⟩, ?_⟩ | refine ⟨decide_eq_true (by omega), ?_⟩ | refine ⟨⟨decide_eq_true (by omega), decide_eq_true (by omega)⟩, ?_⟩)
    try (first | done | decide | exact decide_eq_true (by omega) | exact ⟨decide_eq_true (by omega), decide_eq_true (by omega)⟩)
    obtain ⟨r, d, ⟨_, hd⟩, ht⟩ := c_s_l1Int d [0, 10, 1, 3] hd (by decide)
    refine .of (ht) ?_
    try simp -implicitDefEqProofs (maxSteps := 1000000) only [go_sem, true_implies, false_implies]
    repeat (first | refine ⟨rfl, ?_⟩ | refine ⟨by decide, ?_⟩ | refine ⟨⟨by decide, by decide⟩, ?_⟩ | refine ⟨decide_eq_true (by omega), ?_⟩ | refine ⟨⟨decide_eq_true (by omega), decide_eq_true (by omega)⟩, ?_⟩)
    try (first | done | decide | exact decide_eq_true (by omega) | exact ⟨decide_eq_true (by omega), decide_eq_true (by omega)⟩)
    exact ⟨⟨r, m.From, m.To, m.Seq, m.Key, m.Text, m.N, m.Code⟩, d, ⟨⟨hk, htx⟩, hd⟩, rfl⟩
  by_cases h1 : k = 1
  · subst h1
    refine .of (ht) ?_
    try simp -implicitDefEqProofs (maxSteps := 1000000) only [go_sem, true_implies, false_implies]
    repeat (first | refine ⟨rfl, ?_⟩ | refine ⟨by decide, ?_⟩ | refine ⟨⟨by decide, by decide⟩, ?_⟩ | refine ⟨decide_eq_true (by omega), ?_⟩ | refine ⟨⟨decide_eq_true (by omega), decide_eq_true (by omega)⟩, ?_⟩)
    try (first | done | decide | exact decide_eq_true (by omega) | exact ⟨decide_eq_true (by omega), decide_eq_true (by omega)⟩)
    obtain ⟨r, d, ⟨_, hd⟩, ht⟩ := c_s_l1Int d [-1, 0, 4, 5] hd (by decide)
    refine .of (ht) ?_
    try simp -implicitDefEqProofs (maxSteps := 1000000) only [go_sem, true_implies, false_implies]
    repeat (first | refine ⟨rfl, ?_⟩ | refine ⟨by decide, ?_⟩ | refine ⟨⟨by decide, by decide⟩, ?_⟩ | refine ⟨decide_eq_true (by omega), ?_⟩ | refine ⟨⟨decide_eq_true (by omega), decide_eq_true (by omega)⟩, ?_⟩)
    try (first | done | decide | exact decide_eq_true (by omega) | exact ⟨decide_eq_true (by omega), decide_eq_true (by omega)⟩)
    exact ⟨⟨m.Kind, r, m.To, m.Seq, m.Key, m.Text, m.N, m.Code⟩, d, ⟨⟨hk, htx⟩, hd⟩, rfl⟩
  by_cases h2 : k = 2
  · subst h2
    refine .of (ht) ?_
    try simp -implicitDefEqProofs (maxSteps := 1000000) only [go_sem, true_implies, false_implies]
    repeat (first | refine ⟨rfl, ?_⟩ | refine ⟨by decide, ?_⟩ | refine ⟨⟨by decide, by decide⟩, ?_⟩ | refine ⟨decide_eq_true (by omega), ?_⟩ | refine ⟨⟨decide_eq_true (by omega), decide_eq_true (by omega)⟩, ?_⟩)
    try (first | done | decide | exact decide_eq_true (by omega) | exact ⟨decide_eq_true (by omega), decide_eq_true (by omega)⟩)
    obtain ⟨r, d, ⟨_, hd⟩, ht⟩ := c_s_l1Int d [-1, 0, 4, 5] hd (by decide)
    refine .of (ht) ?_
    try simp -implicitDefEqProofs (maxSteps := 1000000) only [go_sem, true_implies, false_implies]
    repeat (first | refine ⟨rfl, ?_⟩ | refine ⟨by decide, ?_⟩ | refine ⟨⟨by decide, by decide⟩, ?_⟩ | refine ⟨decide_eq_true (by omega), ?_⟩ | refine ⟨⟨decide_eq_true (by omega), decide_eq_true (by omega)⟩, ?_⟩)
    try (first | done | decide | exact decide_eq_true (by omega) | exact ⟨decide_eq_true (by omega), decide_eq_true (by omega)⟩)
    exact ⟨⟨m.Kind, m.From, r, m.Seq, m.Key, m.Text, m.N, m.Code⟩, d, ⟨⟨hk, htx⟩, hd⟩, rfl⟩
  by_cases h3 : k = 3
  · subst h3
    refine .of (ht) ?_
    try simp -implicitDefEqProofs (maxSteps := 1000000) only [go_sem, true_implies, false_implies]
    repeat (first | refine ⟨rfl, ?_⟩ | refine ⟨by decide, ?_⟩ | refine ⟨⟨by decide, by decide⟩, ?_⟩ | refine ⟨decide_eq_true (by omega), ?_⟩ | refine ⟨⟨decide_eq_true (by omega), decide_eq_true (by omega)⟩, ?_⟩)
    try (first | done | decide | exact decide_eq_true (by omega) | exact ⟨decide_eq_true (by omega), decide_eq_true (by omega)⟩)
    obtain ⟨r, d, hd, ht⟩ := c_s_l1Num d hd
    refine .of (ht) ?_
    try simp -implicitDefEqProofs (maxSteps := 1000000) only [go_sem, true_implies, false_implies]
    repeat (first | refine ⟨rfl, ?_⟩ | refine ⟨by decide, ?_⟩ | refine ⟨⟨by decide, by decide⟩, ?_⟩ | refine ⟨decide_eq_true (by omega), ?_⟩ | refine ⟨⟨decide_eq_true (by omega), decide_eq_true (by omega)⟩, ?_⟩)
    try (first | done | decide | exact decide_eq_true (by omega) | exact ⟨decide_eq_true (by omega), decide_eq_true (by omega)⟩)
    exact ⟨⟨m.Kind, m.From, m.To, r, m.Key, m.Text, m.N, m.Code⟩, d, ⟨⟨hk, htx⟩, hd⟩, rfl⟩
  by_cases h4 : k = 4
  · subst h4
    refine .of (ht) ?_
    try simp -implicitDefEqProofs (maxSteps := 1000000) only [go_sem, true_implies, false_implies]
    repeat (first | refine ⟨rfl, ?_⟩ | refine ⟨by decide, ?_⟩ | refine ⟨⟨by decide, by decide⟩, ?_⟩ | refine ⟨decide_eq_true (by omega), ?_⟩ | refine ⟨⟨decide_eq_true (by omega), decide_eq_true (by omega)⟩, ?_⟩)
    try (first | done | decide | exact decide_eq_true (by omega) | exact ⟨decide_eq_true (by omega), decide_eq_true (by omega)⟩)
    obtain ⟨u, d, ⟨hu, hd⟩, ht⟩ := c_s_l1Below d 2 hd
    have hu1 := hu.2.1 (by decide)
    have wu : IntKind.i64.wrap (60 + u) = 60 + u := IntWalk.i64_in _ (by omega)
    have z := zero60 hu.1 hu1
    refine .of (ht) ?_
    try simp -implicitDefEqProofs (maxSteps := 1000000) only [go_sem, true_implies, false_implies, wu]
    repeat (first | refine ⟨rfl, ?_⟩ | refine ⟨by decide, ?_⟩ | refine ⟨⟨by decide, by decide⟩, ?_⟩ | refine ⟨decide_eq_true (by omega), ?_⟩ | refine ⟨⟨decide_eq_true (by omega), decide_eq_true (by omega)⟩, ?_⟩)
    try (first | done | decide | exact decide_eq_true (by omega) | exact ⟨decide_eq_true (by omega), decide_eq_true (by omega)⟩)
    exact ⟨z.1, z.2.1, ⟨m.Kind, m.From, m.To, m.Seq, ⟨(bytesOf (zeroL u)).toArray⟩, m.Text, m.N, m.Code⟩, d, ⟨⟨z.2.2, htx⟩, hd⟩, rfl⟩
  by_cases h5 : k = 5
  · subst h5
    refine .of (ht) ?_
    try simp -implicitDefEqProofs (maxSteps := 1000000) only [go_sem, true_implies, false_implies]
    repeat (first | refine ⟨rfl, ?_⟩ | refine ⟨by decide, ?_⟩ | refine ⟨⟨by decide, by decide⟩, ?_⟩ | refine ⟨decide_eq_true (by omega), ?_⟩ | refine ⟨⟨decide_eq_true (by omega), decide_eq_true (by omega)⟩, ?_⟩)
    try (first | done | decide | exact decide_eq_true (by omega) | exact ⟨decide_eq_true (by omega), decide_eq_true (by omega)⟩)
    obtain ⟨u, d, ⟨hu, hd⟩, ht⟩ := c_s_l1Below d 2 hd
    have hu1 := hu.2.1 (by decide)
    have wu : IntKind.i64.wrap (60 + u) = 60 + u := IntWalk.i64_in _ (by omega)
    have z := zero60 hu.1 hu1
    refine .of (ht) ?_
    try simp -implicitDefEqProofs (maxSteps := 1000000) only [go_sem, true_implies, false_implies, wu]
    repeat (first | refine ⟨rfl, ?_⟩ | refine ⟨by decide, ?_⟩ | refine ⟨⟨by decide, by decide⟩, ?_⟩ | refine ⟨decide_eq_true (by omega), ?_⟩ | refine ⟨⟨decide_eq_true (by omega), decide_eq_true (by omega)⟩, ?_⟩)
    try (first | done | decide | exact decide_eq_true (by omega) | exact ⟨decide_eq_true (by omega), decide_eq_true (by omega)⟩)
    exact ⟨z.1, z.2.1, ⟨m.Kind, m.From, m.To, m.Seq, m.Key, ⟨(bytesOf (zeroL u)).toArray⟩, m.N, m.Code⟩, d, ⟨⟨hk, z.2.2⟩, hd⟩, rfl⟩
  by_cases h6 : k = 6
  · subst h6
    refine .of (ht) ?_
    try simp -implicitDefEqProofs (maxSteps := 1000000) only [go_sem, true_implies, false_implies]
    repeat (first | refine ⟨rfl, ?_⟩ | refine ⟨by decide, ?_⟩ | refine ⟨⟨by decide, by decide⟩, ?_⟩ | refine ⟨decide_eq_true (by omega), ?_⟩ | refine ⟨⟨decide_eq_true (by omega), decide_eq_true (by omega)⟩, ?_⟩)
    try (first | done | decide | exact decide_eq_true (by omega) | exact ⟨decide_eq_true (by omega), decide_eq_true (by omega)⟩)
    obtain ⟨r, d, ⟨_, hd⟩, ht⟩ := c_s_l1Int d [-1, 255, 256] hd (by decide)
    refine .of (ht) ?_
    try simp -implicitDefEqProofs (maxSteps := 1000000) only [go_sem, true_implies, false_implies]
    repeat (first | refine ⟨rfl, ?_⟩ | refine ⟨by decide, ?_⟩ | refine ⟨⟨by decide, by decide⟩, ?_⟩ | refine ⟨decide_eq_true (by omega), ?_⟩ | refine ⟨⟨decide_eq_true (by omega), decide_eq_true (by omega)⟩, ?_⟩)
    try (first | done | decide | exact decide_eq_true (by omega) | exact ⟨decide_eq_true (by omega), decide_eq_true (by omega)⟩)
    exact ⟨⟨m.Kind, m.From, m.To, m.Seq, m.Key, m.Text, r, m.Code⟩, d, ⟨⟨hk, htx⟩, hd⟩, rfl⟩
  by_cases h7 : k = 7
  · subst h7
    refine .of (ht) ?_
    try simp -implicitDefEqProofs (maxSteps := 1000000) only [go_sem, true_implies, false_implies]
    repeat (first | refine ⟨rfl, ?_⟩ | refine ⟨by decide, ?_⟩ | refine ⟨⟨by decide, by decide⟩, ?_⟩ | refine ⟨decide_eq_true (by omega), ?_⟩ | refine ⟨⟨decide_eq_true (by omega), decide_eq_true (by omega)⟩, ?_⟩)
    try (first | done | decide | exact decide_eq_true (by omega) | exact ⟨decide_eq_true (by omega), decide_eq_true (by omega)⟩)
    obtain ⟨r, d, ⟨_, hd⟩, ht⟩ := c_s_l1Int d [-1, 6, 7] hd (by decide)
    refine .of (ht) ?_
    try simp -implicitDefEqProofs (maxSteps := 1000000) only [go_sem, true_implies, false_implies]
    repeat (first | refine ⟨rfl, ?_⟩ | refine ⟨by decide, ?_⟩ | refine ⟨⟨by decide, by decide⟩, ?_⟩ | refine ⟨decide_eq_true (by omega), ?_⟩ | refine ⟨⟨decide_eq_true (by omega), decide_eq_true (by omega)⟩, ?_⟩)
    try (first | done | decide | exact decide_eq_true (by omega) | exact ⟨decide_eq_true (by omega), decide_eq_true (by omega)⟩)
    exact ⟨⟨m.Kind, m.From, m.To, m.Seq, m.Key, m.Text, m.N, r⟩, d, ⟨⟨hk, htx⟩, hd⟩, rfl⟩
  have e : ∀ j : Int, k ≠ j → (k == j) = false := fun j h => by simpa using h
  refine .of (ht) ?_
  try simp -implicitDefEqProofs (maxSteps := 1000000) only [go_sem, true_implies, false_implies, e 0 h0, e 1 h1, e 2 h2, e 3 h3, e 4 h4, e 5 h5, e 6 h6, e 7 h7]
  repeat (first | refine ⟨rfl, ?_⟩ | refine ⟨by decide, ?_⟩ | refine ⟨⟨by decide, by decide⟩, ?_⟩ | refine ⟨decide_eq_true (by omega), ?_⟩ | refine ⟨⟨decide_eq_true (by omega), decide_eq_true (by omega)⟩, ?_⟩)
  try (first | done | decide | exact decide_eq_true (by omega) | exact ⟨decide_eq_true (by omega), decide_eq_true (by omega)⟩)
  exact ⟨m, d, ⟨⟨hk, htx⟩, hd⟩, rfl⟩
end Go.X

/- Ud -/
namespace Go.X
set_option maxRecDepth 100000
set_option maxHeartbeats 8000000
theorem msg_beq (x y : Msg) : (x.Kind == y.Kind && (x.From == y.From && (x.To == y.To && (x.Seq == y.Seq && (x.Key.toList == y.Key.toList && (x.Text.toList == y.Text.toList && (x.N == y.N && (x.Code == y.Code && true)))))))) = decide (x = y) := by
  have key : (x = y) ↔ x.Kind = y.Kind ∧ x.From = y.From ∧ x.To = y.To ∧ x.Seq = y.Seq ∧ x.Key = y.Key ∧ x.Text = y.Text ∧ x.N = y.N ∧ x.Code = y.Code := by cases x; cases y; simp
  rw [Bool.eq_iff_iff]
  simp only [bytes_beq, Bool.and_eq_true, beq_iff_eq, decide_eq_true_eq, and_true, key]
def x_l_sameMsgs : FnX := ⟨26, [.tmp 4],
  .seq (.reg [⟨none, some 4, 4, .mv (.k (.one (.pv (.bool false))))⟩])
 (.seq (.seq (.reg [⟨none, some 6, 6, .mv (.t 0)⟩,
   ⟨none, some 7, 7, .len (.t 6)⟩,
   ⟨none, some 8, 8, .mv (.t 1)⟩,
   ⟨none, some 9, 9, .len (.t 8)⟩,
   ⟨none, some 10, 10, .bin .neq (.t 7) (.t 9)⟩])
 (.cond 10 (.seq (.reg [⟨none, some 4, 4, .mv (.k (.one (.pv (.bool false))))⟩])
 (.ret)) (.skip)))
 (.seq (.seq (.reg [⟨none, some 5, 5, .mv (.k (.one (.pv (.int .i64 0))))⟩])
 (.block 0 (.loop [0, 1, 5] (.seq (.seq (.reg [⟨none, some 11, 11, .mv (.t 5)⟩,
   ⟨none, some 12, 12, .mv (.t 0)⟩,
   ⟨none, some 13, 13, .len (.t 12)⟩,
   ⟨none, some 14, 14, .bin .lss (.t 11) (.t 13)⟩])
 (.cond 14 (.skip) (.exit 0)))
 (.seq (.block 1 (.seq (.draw [⟨none, some 17, 17, .mv (.t 0)⟩,
   ⟨none, some 18, 18, .mv (.t 5)⟩,
   ⟨none, some 19, 19, .iaddr 8 (.t 17) (.t 18)⟩,
   ⟨none, some 20, 20, .load (some 8) (.t 19)⟩,
   ⟨none, some 21, 21, .mv (.t 1)⟩,
   ⟨none, some 22, 22, .mv (.t 5)⟩,
   ⟨none, some 23, 23, .iaddr 8 (.t 21) (.t 22)⟩,
   ⟨none, some 24, 24, .load (some 8) (.t 23)⟩,
   ⟨none, some 25, 25, .eqs true [0, 0, 0, 0, 2, 2, 0, 0] (.t 20) (.t 24)⟩] [[], [], [0, 1], [2], [], [], [4, 5], [6], [3, 7]])
 (.cond 25 (.seq (.reg [⟨none, some 4, 4, .mv (.k (.one (.pv (.bool false))))⟩])
 (.ret)) (.skip))))
 (.reg [⟨none, some 15, 15, .mv (.t 5)⟩,
   ⟨none, some 16, 16, .bin .add (.t 15) (.k (.one (.pv (.int .i64 1))))⟩,
   ⟨none, some 5, 5, .mv (.t 16)⟩]))))))
 (.norm [] (.seq (.reg [⟨none, some 4, 4, .mv (.k (.one (.pv (.bool true))))⟩])
 (.ret)))))⟩
abbrev C_l_sameMsgs (Te : Nat → List AV → Res → Prop) : Prop := ∀ (x y : List Msg) (hx : x.length ≤ 2 ^ 31), Te 34 [.one (slT false 8 Msg.row x), .one (slT false 8 Msg.row y)] ⟨[.one (bT (decide (x = y)))], [[slT false 8 Msg.row x], [slT false 8 Msg.row y]]⟩
theorem r_l_sameMsgs {Te : Nat → List AV → Res → Prop} : ∀ (x y : List Msg) (hx : x.length ≤ 2 ^ 31), RunFn Te x_l_sameMsgs [.one (slT false 8 Msg.row x), .one (slT false 8 Msg.row y)] ⟨[.one (bT (decide (x = y)))], [[slT false 8 Msg.row x], [slT false 8 Msg.row y]]⟩ := by
  intro x y hx
  refine ⟨by simp -implicitDefEqProofs (maxSteps := 1000000) only [x_l_sameMsgs, go_sem], ?_⟩
  cases q3 : ((x.length : Int) == y.length)
  · have e : decide (x = y) = false := decide_eq_false fun h => by subst h; simp at q3
    simp -implicitDefEqProofs (maxSteps := 1000000) only [x_l_sameMsgs, go_sem, true_implies, false_implies, bne, q3, e]
    repeat (first | refine ⟨rfl, ?_⟩ | refine ⟨by decide, ?_⟩ | refine ⟨⟨by decide, by decide⟩, ?_⟩ | refine ⟨decide_eq_true (by omega), ?_⟩ | refine ⟨⟨decide_eq_true (by omega), decide_eq_true (by omega)⟩, ?_⟩)
    try (first | done | decide | exact decide_eq_true (by omega) | exact ⟨decide_eq_true (by omega), decide_eq_true (by omega)⟩)
  · simp -implicitDefEqProofs (maxSteps := 1000000) only [x_l_sameMsgs, go_sem, true_implies, false_implies, bne, q3]
    repeat (first | refine ⟨rfl, ?_⟩ | refine ⟨by decide, ?_⟩ | refine ⟨⟨by decide, by decide⟩, ?_⟩ | refine ⟨decide_eq_true (by omega), ?_⟩ | refine ⟨⟨decide_eq_true (by omega), decide_eq_true (by omega)⟩, ?_⟩)
    try (first | done | decide | exact decide_eq_true (by omega) | exact ⟨decide_eq_true (by omega), decide_eq_true (by omega)⟩)
    have l3 : x.length = y.length := by have := eq_of_beq q3; omega
    refine loop_of (σ := Nat) (fun i => ⟨[(0, .one (.ro 8 (x.map Msg.row))), (1, .one (.ro 8 (y.map Msg.row))), (5, .one (.pv (.int .i64 i)))], [], [(0, [slT false 8 Msg.row x]), (1, [slT false 8 Msg.row y])]⟩) (fun i => i ≤ x.length ∧ x.take i = y.take i) (fun i => x.length - i) 0 ?_ ⟨Nat.zero_le _, rfl⟩ ?_
    · simp -implicitDefEqProofs (maxSteps := 1000000) only [go_sem]; rfl
    · rintro i ⟨hi, hq⟩
      cases q : decide ((i : Int) < (x.length : Int))
      · have e3 : x = y := by
          have hx : x.length ≤ i := by simp only [decide_eq_false_iff_not] at q; omega
          rw [List.take_of_length_le hx, List.take_of_length_le (by omega)] at hq
          exact hq
        try simp -implicitDefEqProofs (maxSteps := 1000000) only [go_sem, true_implies, false_implies, q, decide_eq_true e3]
        repeat (first | refine ⟨rfl, ?_⟩ | refine ⟨by decide, ?_⟩ | refine ⟨⟨by decide, by decide⟩, ?_⟩ | refine ⟨decide_eq_true (by omega), ?_⟩ | refine ⟨⟨decide_eq_true (by omega), decide_eq_true (by omega)⟩, ?_⟩)
        try (first | done | decide | exact decide_eq_true (by omega) | exact ⟨decide_eq_true (by omega), decide_eq_true (by omega)⟩)
      · have k1 : i < x.length := by simp only [decide_eq_true_eq] at q; omega
        have k2 : i < y.length := by omega
        have eb := msg_beq x[i] y[i]
        cases g : decide (x[i] = y[i])
        · have e : decide (x = y) = false := decide_eq_false fun h => by subst h; simp at g
          try simp -implicitDefEqProofs (maxSteps := 1000000) only [go_sem, true_implies, false_implies, q, List.getElem?_eq_getElem k1, List.getElem?_eq_getElem k2]
          repeat (first | refine ⟨rfl, ?_⟩ | refine ⟨by decide, ?_⟩ | refine ⟨⟨by decide, by decide⟩, ?_⟩ | refine ⟨decide_eq_true (by omega), ?_⟩ | refine ⟨⟨decide_eq_true (by omega), decide_eq_true (by omega)⟩, ?_⟩)
          try (first | done | decide | exact decide_eq_true (by omega) | exact ⟨decide_eq_true (by omega), decide_eq_true (by omega)⟩)
          simp only [eb, g, condC_some]
          refine ⟨fun _ => ?_, fun q => absurd q (by decide)⟩
          try simp -implicitDefEqProofs (maxSteps := 1000000) only [go_sem, true_implies, false_implies, e]
          repeat (first | refine ⟨rfl, ?_⟩ | refine ⟨by decide, ?_⟩ | refine ⟨⟨by decide, by decide⟩, ?_⟩ | refine ⟨decide_eq_true (by omega), ?_⟩ | refine ⟨⟨decide_eq_true (by omega), decide_eq_true (by omega)⟩, ?_⟩)
          try (first | done | decide | exact decide_eq_true (by omega) | exact ⟨decide_eq_true (by omega), decide_eq_true (by omega)⟩)
          try trivial
        · try simp -implicitDefEqProofs (maxSteps := 1000000) only [go_sem, true_implies, false_implies, q, List.getElem?_eq_getElem k1, List.getElem?_eq_getElem k2]
          repeat (first | refine ⟨rfl, ?_⟩ | refine ⟨by decide, ?_⟩ | refine ⟨⟨by decide, by decide⟩, ?_⟩ | refine ⟨decide_eq_true (by omega), ?_⟩ | refine ⟨⟨decide_eq_true (by omega), decide_eq_true (by omega)⟩, ?_⟩)
          try (first | done | decide | exact decide_eq_true (by omega) | exact ⟨decide_eq_true (by omega), decide_eq_true (by omega)⟩)
          simp only [eb, g, condC_some]
          refine ⟨fun q => absurd q (by decide), fun _ => ?_⟩
          refine ⟨i + 1, by rw [IntWalk.i64_in _ (by omega)]; rfl, ⟨k1, ?_⟩, by omega⟩
          rw [List.take_succ_eq_append_getElem k1, List.take_succ_eq_append_getElem k2, hq, of_decide_eq_true g]
end Go.X

/- Ui -/
namespace Go.X
set_option maxRecDepth 100000
set_option maxHeartbeats 8000000
theorem msg_eqs' (m n : Msg) : eqL [0, 0, 0, 0, 2, 2, 0, 0] [.pv (.int .i64 m.Kind), .pv (.int .i64 m.From), .pv (.int .i64 m.To), .pv (.int .i64 m.Seq), .pv (.string m.Key), .pv (.string m.Text), .pv (.int .i64 m.N), .pv (.int .i64 m.Code)]
    [.pv (.int .i64 n.Kind), .pv (.int .i64 n.From), .pv (.int .i64 n.To), .pv (.int .i64 n.Seq), .pv (.string n.Key), .pv (.string n.Text), .pv (.int .i64 n.N), .pv (.int .i64 n.Code)] = some (decide (m = n)) := by
  have key : (m = n) ↔ m.Kind = n.Kind ∧ m.From = n.From ∧ m.To = n.To ∧ m.Seq = n.Seq ∧ m.Key = n.Key ∧ m.Text = n.Text ∧ m.N = n.N ∧ m.Code = n.Code := by cases m; cases n; simp
  simp only [eqL, eqV, bytes_beq, beq_self_eq_true, cond_true, Option.bind_some, Option.map_some, key]
  congr 1
  rw [Bool.eq_iff_iff]
  simp
def x_s_l17Draw : FnX := ⟨24, [.tmp 4],
  .seq (.reg [⟨none, some 4, 4, .mv (.k (.one (.nils 8)))⟩])
 (.seq (.reg [⟨none, some 7, 7, .bslice 8 []⟩,
   ⟨none, some 5, 5, .mv (.t 7)⟩])
 (.seq (.seq (.reg [⟨none, some 8, 8, .mv (.t 0)⟩,
   ⟨none, some 9, 9, .mv (.t 1)⟩,
   ⟨none, some 10, 10, .bin .add (.t 9) (.k (.one (.pv (.int .i64 1))))⟩,
   ⟨none, some 11, 11, .call 74 [5, 0] [(.t 8), (.t 10)]⟩,
   ⟨none, some 6, 6, .mv (.t 11)⟩])
 (.block 0 (.loop [0, 5, 6] (.seq (.seq (.reg [⟨none, some 12, 12, .mv (.t 6)⟩,
   ⟨none, some 13, 13, .bin .gtr (.t 12) (.k (.one (.pv (.int .i64 0))))⟩])
 (.cond 13 (.skip) (.exit 0)))
 (.seq (.block 1 (.reg [⟨none, some 17, 17, .mv (.t 5)⟩,
   ⟨none, some 18, 18, .mv (.t 0)⟩,
   ⟨none, some 19, 19, .call 72 [5] [(.t 18)]⟩,
   ⟨none, some 20, 20, .call 25 [0, 0] [(.t 17), (.t 19)]⟩,
   ⟨none, some 16, 16, .mv (.t 20)⟩,
   ⟨none, some 21, 21, .ext (.t 16) 0⟩,
   ⟨none, some 22, 22, .ext (.t 16) 1⟩,
   ⟨none, some 5, 5, .mv (.t 21)⟩]))
 (.reg [⟨none, some 14, 14, .mv (.t 6)⟩,
   ⟨none, some 15, 15, .bin .sub (.t 14) (.k (.one (.pv (.int .i64 1))))⟩,
   ⟨none, some 6, 6, .mv (.t 15)⟩]))))))
 (.norm [5] (.seq (.reg [⟨none, some 23, 23, .mv (.t 5)⟩,
   ⟨none, some 4, 4, .mv (.t 23)⟩])
 (.ret)))))⟩
abbrev C_s_l17Draw (Te : Nat → List AV → Res → Prop) : Prop := ∀ (c : CurV) (most : Int) (hc : c.ok) (hm : 0 ≤ most ∧ most ≤ 20), ∃ (l : List Msg) (d : CurV), (l.length ≤ most.toNat ∧ d.ok) ∧ Te 83 [.ptr c.enc, .one (iT most)] ⟨[.one (slT true 8 Msg.row l)], [d.enc, [iT most]]⟩
theorem r_s_l17Draw {Te : Nat → List AV → Res → Prop} (c_s_l1Below : C_s_l1Below Te) (c_s_l16Draw : C_s_l16Draw Te) (c_s_Send : C_s_Send Te) : ∀ (c : CurV) (most : Int) (hc : c.ok) (hm : 0 ≤ most ∧ most ≤ 20), ∃ r0, (∃ (l : List Msg) (d : CurV), (l.length ≤ most.toNat ∧ d.ok) ∧ r0 = (⟨[.one (slT true 8 Msg.row l)], [d.enc, [iT most]]⟩ : Res)) ∧ RunFn Te x_s_l17Draw [.ptr c.enc, .one (iT most)] r0 := by
  intro c most hc hm
  refine some_of (by simp -implicitDefEqProofs (maxSteps := 1000000) only [x_s_l17Draw, go_sem]) (by rfl) ?_
  have w1 : IntKind.i64.wrap (most + 1) = most + 1 := IntWalk.i64_in _ (by omega)
  simp -implicitDefEqProofs (maxSteps := 1000000) only [x_s_l17Draw, go_sem, true_implies, false_implies, w1]
  repeat (first | refine ⟨rfl, ?_⟩ | refine ⟨by decide, ?_⟩ | refine ⟨⟨by decide, by decide⟩, ?_⟩ | refine ⟨decide_eq_true (by omega), ?_⟩ | refine ⟨⟨decide_eq_true (by omega), decide_eq_true (by omega)⟩, ?_⟩)
  try (first | done | decide | exact decide_eq_true (by omega) | exact ⟨decide_eq_true (by omega), decide_eq_true (by omega)⟩)
  obtain ⟨k, d0, ⟨hk, hd0⟩, ht⟩ := c_s_l1Below c (most + 1) hc
  have hk1 := hk.2.1 (by omega)
  obtain ⟨K, rfl⟩ : ∃ K : Nat, k = K := ⟨k.toNat, by omega⟩
  refine .of (ht) ?_
  try simp -implicitDefEqProofs (maxSteps := 1000000) only [go_sem, true_implies, false_implies]
  repeat (first | refine ⟨rfl, ?_⟩ | refine ⟨by decide, ?_⟩ | refine ⟨⟨by decide, by decide⟩, ?_⟩ | refine ⟨decide_eq_true (by omega), ?_⟩ | refine ⟨⟨decide_eq_true (by omega), decide_eq_true (by omega)⟩, ?_⟩)
  try (first | done | decide | exact decide_eq_true (by omega) | exact ⟨decide_eq_true (by omega), decide_eq_true (by omega)⟩)
  refine loop_of (σ := Nat × List Msg × List Go.X.T × CurV) (fun x => ⟨[(0, .bp 0 0), (5, .one (.rf 26 0 [] 8 0 x.2.1.length)), (6, .one (.pv (.int .i64 x.1)))], [(0, [.ro 1 (x.2.2.2.b.map uR), .pv (.int .i64 x.2.2.2.i), .pv (.int .i64 x.2.2.2.h)])], [(0, c.enc), (1, [iT most]), (26, slT true 8 Msg.row x.2.1 :: x.2.2.1)]⟩) (fun x => x.1 ≤ K ∧ x.2.1.length ≤ K - x.1 ∧ x.2.2.2.ok) (fun x => x.1) (K, [], [], d0) ?_ ⟨Nat.le_refl _, Nat.zero_le _, hd0⟩ ?_
  · simp -implicitDefEqProofs (maxSteps := 1000000) only [go_sem]
    try rfl
  · rintro ⟨i, l, ex, d⟩ ⟨hi, hl, hd⟩
    simp only at hi hl hd
    cases q : decide ((i : Int) > 0)
    · try simp -implicitDefEqProofs (maxSteps := 1000000) only [go_sem, true_implies, false_implies, q]
      repeat (first | refine ⟨rfl, ?_⟩ | refine ⟨by decide, ?_⟩ | refine ⟨⟨by decide, by decide⟩, ?_⟩ | refine ⟨decide_eq_true (by omega), ?_⟩ | refine ⟨⟨decide_eq_true (by omega), decide_eq_true (by omega)⟩, ?_⟩)
      try (first | done | decide | exact decide_eq_true (by omega) | exact ⟨decide_eq_true (by omega), decide_eq_true (by omega)⟩)
      exact ⟨l, d, ⟨by omega, hd⟩, rfl⟩
    · simp only [decide_eq_true_eq] at q
      have w2 : IntKind.i64.wrap ((i : Int) - 1) = ((i - 1 : Nat) : Int) := by rw [IntWalk.i64_in _ (by omega)]; omega
      obtain ⟨m, d1, ⟨_, hd1⟩, ht⟩ := c_s_l16Draw d hd
      have q' : decide ((i : Int) > 0) = true := decide_eq_true q
      have hs := c_s_Send l m (by omega)
      have hsl : (send l m).1.length ≤ l.length + 1 := by
        unfold send
        split
        · simp
        · simp
      generalize send l m = r at hs hsl
      obtain ⟨r, b⟩ := r
      simp only at hs hsl
      try simp -implicitDefEqProofs (maxSteps := 1000000) only [go_sem, true_implies, false_implies, q']
      repeat (first | refine ⟨rfl, ?_⟩ | refine ⟨by decide, ?_⟩ | refine ⟨⟨by decide, by decide⟩, ?_⟩ | refine ⟨decide_eq_true (by omega), ?_⟩ | refine ⟨⟨decide_eq_true (by omega), decide_eq_true (by omega)⟩, ?_⟩)
      try (first | done | decide | exact decide_eq_true (by omega) | exact ⟨decide_eq_true (by omega), decide_eq_true (by omega)⟩)
      refine .of (ht) ?_
      try simp -implicitDefEqProofs (maxSteps := 1000000) only [go_sem, true_implies, false_implies]
      repeat (first | refine ⟨rfl, ?_⟩ | refine ⟨by decide, ?_⟩ | refine ⟨⟨by decide, by decide⟩, ?_⟩ | refine ⟨decide_eq_true (by omega), ?_⟩ | refine ⟨⟨decide_eq_true (by omega), decide_eq_true (by omega)⟩, ?_⟩)
      try (first | done | decide | exact decide_eq_true (by omega) | exact ⟨decide_eq_true (by omega), decide_eq_true (by omega)⟩)
      refine .of (hs) ?_
      try simp -implicitDefEqProofs (maxSteps := 1000000) only [go_sem, true_implies, false_implies, w2]
      repeat (first | refine ⟨rfl, ?_⟩ | refine ⟨by decide, ?_⟩ | refine ⟨⟨by decide, by decide⟩, ?_⟩ | refine ⟨decide_eq_true (by omega), ?_⟩ | refine ⟨⟨decide_eq_true (by omega), decide_eq_true (by omega)⟩, ?_⟩)
      try (first | done | decide | exact decide_eq_true (by omega) | exact ⟨decide_eq_true (by omega), decide_eq_true (by omega)⟩)
      exact ⟨(i - 1, r, [bT b], d1), rfl, ⟨by simp only; omega, by simp only; omega, hd1⟩, by simp only; omega⟩
def x_s_l17Any : FnX := ⟨29, [.tmp 2],
  .seq (.reg [⟨none, some 2, 2, .mv (.k (.one (.nils 8)))⟩])
 (.seq (.reg [⟨none, some 4, 4, .mv (.t 0)⟩,
   ⟨none, some 5, 5, .call 83 [5, 0] [(.t 4), (.k (.one (.pv (.int .i64 5))))]⟩,
   ⟨none, some 3, 3, .mv (.t 5)⟩])
 (.seq (.seq (.reg [⟨none, some 6, 6, .mv (.t 0)⟩,
   ⟨none, some 7, 7, .call 74 [5, 0] [(.t 6), (.k (.one (.pv (.int .i64 8))))]⟩])
 (.block 0 (.seq (.reg [⟨none, some 9, 9, .bin .eql (.t 7) (.k (.one (.pv (.int .i64 0))))⟩,
   ⟨none, some 8, 8, .mv (.t 9)⟩])
 (.cond 8 (.reg [⟨none, some 10, 10, .mv (.t 3)⟩,
   ⟨none, some 11, 11, .mv (.t 0)⟩,
   ⟨none, some 12, 12, .call 63 [5] [(.t 11)]⟩,
   ⟨none, some 13, 13, .bslice 8 [(.t 12)]⟩,
   ⟨none, some 14, 14, .app 8 80 (.t 10) (.t 13)⟩,
   ⟨none, some 3, 3, .mv (.t 14)⟩]) (.seq (.reg [⟨none, some 16, 16, .bin .eql (.t 7) (.k (.one (.pv (.int .i64 1))))⟩,
   ⟨none, some 15, 15, .mv (.t 16)⟩])
 (.cond 15 (.block 1 (.loop [0, 3] (.seq (.seq (.reg [⟨none, some 17, 17, .mv (.t 3)⟩,
   ⟨none, some 18, 18, .len (.t 17)⟩,
   ⟨none, some 19, 19, .mv (.t 0)⟩,
   ⟨none, some 20, 20, .call 74 [5, 0] [(.t 19), (.k (.one (.pv (.int .i64 3))))]⟩,
   ⟨none, some 21, 21, .bin .add (.k (.one (.pv (.int .i64 19)))) (.t 20)⟩,
   ⟨none, some 22, 22, .bin .lss (.t 18) (.t 21)⟩])
 (.cond 22 (.skip) (.exit 1)))
 (.block 2 (.reg [⟨none, some 23, 23, .mv (.t 3)⟩,
   ⟨none, some 24, 24, .mv (.t 0)⟩,
   ⟨none, some 25, 25, .call 72 [5] [(.t 24)]⟩,
   ⟨none, some 26, 26, .bslice 8 [(.t 25)]⟩,
   ⟨none, some 27, 27, .app 8 80 (.t 23) (.t 26)⟩,
   ⟨none, some 3, 3, .mv (.t 27)⟩]))))) (.skip)))))))
 (.norm [3] (.seq (.reg [⟨none, some 28, 28, .mv (.t 3)⟩,
   ⟨none, some 2, 2, .mv (.t 28)⟩])
 (.ret)))))⟩
abbrev C_s_l17Any (Te : Nat → List AV → Res → Prop) : Prop := ∀ (c : CurV) (hc : c.ok), ∃ (l : List Msg) (d : CurV), (l.length ≤ 21 ∧ d.ok) ∧ Te 62 [.ptr c.enc] ⟨[.one (slT true 8 Msg.row l)], [d.enc]⟩
theorem r_s_l17Any {Te : Nat → List AV → Res → Prop} (c_s_l17Draw : C_s_l17Draw Te) (c_s_l1Below : C_s_l1Below Te) (c_s_l16Any : C_s_l16Any Te) (c_s_l16Draw : C_s_l16Draw Te) : ∀ (c : CurV) (hc : c.ok), ∃ r0, (∃ (l : List Msg) (d : CurV), (l.length ≤ 21 ∧ d.ok) ∧ r0 = (⟨[.one (slT true 8 Msg.row l)], [d.enc]⟩ : Res)) ∧ RunFn Te x_s_l17Any [.ptr c.enc] r0 := by
  intro c hc
  refine some_of (by simp -implicitDefEqProofs (maxSteps := 1000000) only [x_s_l17Any, go_sem]) (by rfl) ?_
  simp -implicitDefEqProofs (maxSteps := 1000000) only [x_s_l17Any, go_sem, true_implies, false_implies]
  repeat (first | refine ⟨rfl, ?_⟩ | refine ⟨by decide, ?_⟩ | refine ⟨⟨by decide, by decide⟩, ?_⟩ | refine ⟨decide_eq_true (by omega), ?_⟩ | refine ⟨⟨decide_eq_true (by omega), decide_eq_true (by omega)⟩, ?_⟩)
  try (first | done | decide | exact decide_eq_true (by omega) | exact ⟨decide_eq_true (by omega), decide_eq_true (by omega)⟩)
  obtain ⟨l, d0, ⟨hl, hd0⟩, ht⟩ := c_s_l17Draw c 5 hc (by decide)
  replace hl : l.length ≤ 5 := hl
  refine .of (ht) ?_
  try simp -implicitDefEqProofs (maxSteps := 1000000) only [go_sem, true_implies, false_implies]
  repeat (first | refine ⟨rfl, ?_⟩ | refine ⟨by decide, ?_⟩ | refine ⟨⟨by decide, by decide⟩, ?_⟩ | refine ⟨decide_eq_true (by omega), ?_⟩ | refine ⟨⟨decide_eq_true (by omega), decide_eq_true (by omega)⟩, ?_⟩)
  try (first | done | decide | exact decide_eq_true (by omega) | exact ⟨decide_eq_true (by omega), decide_eq_true (by omega)⟩)
  obtain ⟨k, d, ⟨⟨hk0, hk1, _⟩, hd⟩, ht⟩ := c_s_l1Below d0 8 hd0
  have hk8 := hk1 (by decide)
  by_cases q0 : k = 0
  · subst q0
    obtain ⟨m, d1, ⟨_, hd1⟩, ht1⟩ := c_s_l16Any d hd
    have ea : List.map Msg.row l ++ [[.pv (.int .i64 m.Kind), .pv (.int .i64 m.From), .pv (.int .i64 m.To), .pv (.int .i64 m.Seq), .pv (.string m.Key), .pv (.string m.Text), .pv (.int .i64 m.N), .pv (.int .i64 m.Code)]] = List.map Msg.row (l ++ [m]) := by rw [List.map_append]; rfl
    have et : List.take (l.length + 1) (List.map Msg.row (l ++ [m])) = List.map Msg.row (l ++ [m]) := List.take_of_length_le (by simp)
    refine .of (ht) ?_
    try simp -implicitDefEqProofs (maxSteps := 1000000) only [go_sem, true_implies, false_implies]
    repeat (first | refine ⟨rfl, ?_⟩ | refine ⟨by decide, ?_⟩ | refine ⟨⟨by decide, by decide⟩, ?_⟩ | refine ⟨decide_eq_true (by omega), ?_⟩ | refine ⟨⟨decide_eq_true (by omega), decide_eq_true (by omega)⟩, ?_⟩)
    try (first | done | decide | exact decide_eq_true (by omega) | exact ⟨decide_eq_true (by omega), decide_eq_true (by omega)⟩)
    refine .of (ht1) ?_
    try simp -implicitDefEqProofs (maxSteps := 1000000) only [go_sem, true_implies, false_implies, ea, et]
    repeat (first | refine ⟨rfl, ?_⟩ | refine ⟨by decide, ?_⟩ | refine ⟨⟨by decide, by decide⟩, ?_⟩ | refine ⟨decide_eq_true (by omega), ?_⟩ | refine ⟨⟨decide_eq_true (by omega), decide_eq_true (by omega)⟩, ?_⟩)
    try (first | done | decide | exact decide_eq_true (by omega) | exact ⟨decide_eq_true (by omega), decide_eq_true (by omega)⟩)
    exact ⟨l ++ [m], d1, ⟨by simp only [List.length_append, List.length_cons, List.length_nil]; omega, hd1⟩, rfl⟩
  by_cases q1 : k = 1
  · subst q1
    refine .of (ht) ?_
    try simp -implicitDefEqProofs (maxSteps := 1000000) only [go_sem, true_implies, false_implies]
    repeat (first | refine ⟨rfl, ?_⟩ | refine ⟨by decide, ?_⟩ | refine ⟨⟨by decide, by decide⟩, ?_⟩ | refine ⟨decide_eq_true (by omega), ?_⟩ | refine ⟨⟨decide_eq_true (by omega), decide_eq_true (by omega)⟩, ?_⟩)
    try (first | done | decide | exact decide_eq_true (by omega) | exact ⟨decide_eq_true (by omega), decide_eq_true (by omega)⟩)
    refine loop_of (σ := List Msg × List Go.X.T × CurV) (fun x => ⟨[(0, .bp 0 0), (3, .one (.rf 30 0 [] 8 0 x.1.length))], [(0, [.ro 1 (x.2.2.b.map uR), .pv (.int .i64 x.2.2.i), .pv (.int .i64 x.2.2.h)])], [(0, c.enc), (30, slT true 8 Msg.row x.1 :: x.2.1)]⟩) (fun x => x.1.length ≤ 21 ∧ x.2.2.ok) (fun x => 22 - x.1.length) (l, d0.enc, d) ?_ ⟨Nat.le_trans hl (by decide), hd⟩ ?_
    · simp -implicitDefEqProofs (maxSteps := 1000000) only [go_sem]
      try rfl
    · rintro ⟨l, ex, d⟩ ⟨hl, hd⟩
      simp only at hl hd
      obtain ⟨u, d1, ⟨hu, hd1⟩, ht1⟩ := c_s_l1Below d 3 hd
      have hu1 := hu.2.1 (by decide)
      have wu : IntKind.i64.wrap (19 + u) = 19 + u := IntWalk.i64_in _ (by omega)
      try simp -implicitDefEqProofs (maxSteps := 1000000) only [go_sem, true_implies, false_implies]
      repeat (first | refine ⟨rfl, ?_⟩ | refine ⟨by decide, ?_⟩ | refine ⟨⟨by decide, by decide⟩, ?_⟩ | refine ⟨decide_eq_true (by omega), ?_⟩ | refine ⟨⟨decide_eq_true (by omega), decide_eq_true (by omega)⟩, ?_⟩)
      try (first | done | decide | exact decide_eq_true (by omega) | exact ⟨decide_eq_true (by omega), decide_eq_true (by omega)⟩)
      cases q : decide ((l.length : Int) < 19 + u)
      · refine .of (ht1) ?_
        try simp -implicitDefEqProofs (maxSteps := 1000000) only [go_sem, true_implies, false_implies, wu, q]
        repeat (first | refine ⟨rfl, ?_⟩ | refine ⟨by decide, ?_⟩ | refine ⟨⟨by decide, by decide⟩, ?_⟩ | refine ⟨decide_eq_true (by omega), ?_⟩ | refine ⟨⟨decide_eq_true (by omega), decide_eq_true (by omega)⟩, ?_⟩)
        try (first | done | decide | exact decide_eq_true (by omega) | exact ⟨decide_eq_true (by omega), decide_eq_true (by omega)⟩)
        exact ⟨l, d1, ⟨hl, hd1⟩, rfl⟩
      · have hl' : l.length ≤ 20 := by simp only [decide_eq_true_eq] at q; omega
        obtain ⟨m, d2, ⟨_, hd2⟩, ht2⟩ := c_s_l16Draw d1 hd1
        have ea : List.map Msg.row l ++ [[.pv (.int .i64 m.Kind), .pv (.int .i64 m.From), .pv (.int .i64 m.To), .pv (.int .i64 m.Seq), .pv (.string m.Key), .pv (.string m.Text), .pv (.int .i64 m.N), .pv (.int .i64 m.Code)]] = List.map Msg.row (l ++ [m]) := by rw [List.map_append]; rfl
        have et : List.take (l.length + 1) (List.map Msg.row (l ++ [m])) = List.map Msg.row (l ++ [m]) := List.take_of_length_le (by simp)
        refine .of (ht1) ?_
        try simp -implicitDefEqProofs (maxSteps := 1000000) only [go_sem, true_implies, false_implies, wu, q]
        repeat (first | refine ⟨rfl, ?_⟩ | refine ⟨by decide, ?_⟩ | refine ⟨⟨by decide, by decide⟩, ?_⟩ | refine ⟨decide_eq_true (by omega), ?_⟩ | refine ⟨⟨decide_eq_true (by omega), decide_eq_true (by omega)⟩, ?_⟩)
        try (first | done | decide | exact decide_eq_true (by omega) | exact ⟨decide_eq_true (by omega), decide_eq_true (by omega)⟩)
        refine .of (ht2) ?_
        try simp -implicitDefEqProofs (maxSteps := 1000000) only [go_sem, true_implies, false_implies, ea, et]
        repeat (first | refine ⟨rfl, ?_⟩ | refine ⟨by decide, ?_⟩ | refine ⟨⟨by decide, by decide⟩, ?_⟩ | refine ⟨decide_eq_true (by omega), ?_⟩ | refine ⟨⟨decide_eq_true (by omega), decide_eq_true (by omega)⟩, ?_⟩)
        try (first | done | decide | exact decide_eq_true (by omega) | exact ⟨decide_eq_true (by omega), decide_eq_true (by omega)⟩)
        exact ⟨(l ++ [m], [], d2), by simp only [List.length_append]; rfl, ⟨by simp only [List.length_append, List.length_cons, List.length_nil]; omega, hd2⟩, by simp only [List.length_append, List.length_cons, List.length_nil]; omega⟩
  have e : ∀ j : Int, k ≠ j → (k == j) = false := fun j h => by simpa using h
  refine .of (ht) ?_
  try simp -implicitDefEqProofs (maxSteps := 1000000) only [go_sem, true_implies, false_implies, e 0 q0, e 1 q1]
  repeat (first | refine ⟨rfl, ?_⟩ | refine ⟨by decide, ?_⟩ | refine ⟨⟨by decide, by decide⟩, ?_⟩ | refine ⟨decide_eq_true (by omega), ?_⟩ | refine ⟨⟨decide_eq_true (by omega), decide_eq_true (by omega)⟩, ?_⟩)
  try (first | done | decide | exact decide_eq_true (by omega) | exact ⟨decide_eq_true (by omega), decide_eq_true (by omega)⟩)
  exact ⟨l, d, ⟨by omega, hd⟩, rfl⟩
def x_s_DrawNetOk : FnX := ⟨8, [.tmp 2],
  .seq (.reg [⟨none, some 2, 2, .mv (.k (.one (.nils 8)))⟩])
 (.seq (.reg [⟨none, some 4, 4, .mv (.t 0)⟩,
   ⟨none, some 5, 5, .call 47 [0] [(.t 4)]⟩,
   ⟨none, some 3, 3, .mv (.t 5)⟩])
 (.seq (.reg [⟨none, some 6, 6, .mv (.t 3)⟩,
   ⟨none, some 7, 7, .call 62 [5] [(.t 6)]⟩,
   ⟨none, some 2, 2, .mv (.t 7)⟩])
 (.ret)))⟩
abbrev C_s_DrawNetOk (Te : Nat → List AV → Res → Prop) : Prop := ∀ (l : List UInt8) (hl : l.length ≤ 2 ^ 31), ∃ (a : List Msg), (a.length ≤ 21) ∧ Te 33 [.one (slT false 1 uR l)] ⟨[.one (slT true 8 Msg.row a)], [[slT false 1 uR l]]⟩
theorem r_s_DrawNetOk {Te : Nat → List AV → Res → Prop} (c_s_l1New : C_s_l1New Te) (c_s_l17Any : C_s_l17Any Te) : ∀ (l : List UInt8) (hl : l.length ≤ 2 ^ 31), ∃ r0, (∃ (a : List Msg), (a.length ≤ 21) ∧ r0 = (⟨[.one (slT true 8 Msg.row a)], [[slT false 1 uR l]]⟩ : Res)) ∧ RunFn Te x_s_DrawNetOk [.one (slT false 1 uR l)] r0 := by
  intro l hl
  refine some_of (by simp -implicitDefEqProofs (maxSteps := 1000000) only [x_s_DrawNetOk, go_sem]) (by rfl) ?_
  simp -implicitDefEqProofs (maxSteps := 1000000) only [x_s_DrawNetOk, go_sem, true_implies, false_implies]
  repeat (first | refine ⟨rfl, ?_⟩ | refine ⟨by decide, ?_⟩ | refine ⟨⟨by decide, by decide⟩, ?_⟩ | refine ⟨decide_eq_true (by omega), ?_⟩ | refine ⟨⟨decide_eq_true (by omega), decide_eq_true (by omega)⟩, ?_⟩)
  try (first | done | decide | exact decide_eq_true (by omega) | exact ⟨decide_eq_true (by omega), decide_eq_true (by omega)⟩)
  obtain ⟨c, hc, ht⟩ := c_s_l1New l hl
  refine .of (ht) ?_
  try simp -implicitDefEqProofs (maxSteps := 1000000) only [go_sem, true_implies, false_implies]
  repeat (first | refine ⟨rfl, ?_⟩ | refine ⟨by decide, ?_⟩ | refine ⟨⟨by decide, by decide⟩, ?_⟩ | refine ⟨decide_eq_true (by omega), ?_⟩ | refine ⟨⟨decide_eq_true (by omega), decide_eq_true (by omega)⟩, ?_⟩)
  try (first | done | decide | exact decide_eq_true (by omega) | exact ⟨decide_eq_true (by omega), decide_eq_true (by omega)⟩)
  obtain ⟨a, d, ⟨ha, hd⟩, ht⟩ := c_s_l17Any c hc
  refine .of (ht) ?_
  try simp -implicitDefEqProofs (maxSteps := 1000000) only [go_sem, true_implies, false_implies]
  repeat (first | refine ⟨rfl, ?_⟩ | refine ⟨by decide, ?_⟩ | refine ⟨⟨by decide, by decide⟩, ?_⟩ | refine ⟨decide_eq_true (by omega), ?_⟩ | refine ⟨⟨decide_eq_true (by omega), decide_eq_true (by omega)⟩, ?_⟩)
  try (first | done | decide | exact decide_eq_true (by omega) | exact ⟨decide_eq_true (by omega), decide_eq_true (by omega)⟩)
  exact ⟨a, ha, rfl⟩
def x_s_DrawSend : FnX := ⟨13, [.tmp 2, .cell 3 (some 8)],
  .seq (.reg [⟨none, some 2, 2, .mv (.k (.one (.nils 8)))⟩,
   ⟨none, some 3, 3, .alloc [.pv (.int .i64 0), .pv (.int .i64 0), .pv (.int .i64 0), .pv (.int .i64 0), .pv (.string ⟨#[]⟩), .pv (.string ⟨#[]⟩), .pv (.int .i64 0), .pv (.int .i64 0)]⟩])
 (.seq (.reg [⟨none, some 6, 6, .mv (.t 0)⟩,
   ⟨none, some 7, 7, .call 47 [0] [(.t 6)]⟩,
   ⟨none, some 4, 4, .mv (.t 7)⟩])
 (.seq (.reg [⟨none, some 8, 8, .mv (.t 4)⟩,
   ⟨none, some 9, 9, .call 62 [5] [(.t 8)]⟩,
   ⟨none, some 5, 5, .mv (.t 9)⟩])
 (.seq (.reg [⟨none, some 10, 10, .mv (.t 5)⟩,
   ⟨none, some 11, 11, .mv (.t 4)⟩,
   ⟨none, some 12, 12, .call 63 [5] [(.t 11)]⟩,
   ⟨none, some 2, 2, .mv (.t 10)⟩,
   ⟨none, none, 100001, .store 8 (.t 3) (.t 12)⟩])
 (.ret))))⟩
abbrev C_s_DrawSend (Te : Nat → List AV → Res → Prop) : Prop := ∀ (l : List UInt8) (hl : l.length ≤ 2 ^ 31), ∃ (a : List Msg) (m : Msg), (a.length ≤ 21) ∧ Te 23 [.one (slT false 1 uR l)] ⟨[.one (slT true 8 Msg.row a), .agg m.row], [[slT false 1 uR l]]⟩
theorem r_s_DrawSend {Te : Nat → List AV → Res → Prop} (c_s_l1New : C_s_l1New Te) (c_s_l17Any : C_s_l17Any Te) (c_s_l16Any : C_s_l16Any Te) : ∀ (l : List UInt8) (hl : l.length ≤ 2 ^ 31), ∃ r0, (∃ (a : List Msg) (m : Msg), (a.length ≤ 21) ∧ r0 = (⟨[.one (slT true 8 Msg.row a), .agg m.row], [[slT false 1 uR l]]⟩ : Res)) ∧ RunFn Te x_s_DrawSend [.one (slT false 1 uR l)] r0 := by
  intro l hl
  refine some_of (by simp -implicitDefEqProofs (maxSteps := 1000000) only [x_s_DrawSend, go_sem]) (by rfl) ?_
  simp -implicitDefEqProofs (maxSteps := 1000000) only [x_s_DrawSend, go_sem, true_implies, false_implies]
  repeat (first | refine ⟨rfl, ?_⟩ | refine ⟨by decide, ?_⟩ | refine ⟨⟨by decide, by decide⟩, ?_⟩ | refine ⟨decide_eq_true (by omega), ?_⟩ | refine ⟨⟨decide_eq_true (by omega), decide_eq_true (by omega)⟩, ?_⟩)
  try (first | done | decide | exact decide_eq_true (by omega) | exact ⟨decide_eq_true (by omega), decide_eq_true (by omega)⟩)
  obtain ⟨c, hc, ht⟩ := c_s_l1New l hl
  refine .of (ht) ?_
  try simp -implicitDefEqProofs (maxSteps := 1000000) only [go_sem, true_implies, false_implies]
  repeat (first | refine ⟨rfl, ?_⟩ | refine ⟨by decide, ?_⟩ | refine ⟨⟨by decide, by decide⟩, ?_⟩ | refine ⟨decide_eq_true (by omega), ?_⟩ | refine ⟨⟨decide_eq_true (by omega), decide_eq_true (by omega)⟩, ?_⟩)
  try (first | done | decide | exact decide_eq_true (by omega) | exact ⟨decide_eq_true (by omega), decide_eq_true (by omega)⟩)
  obtain ⟨a, d, ⟨ha, hd⟩, ht⟩ := c_s_l17Any c hc
  refine .of (ht) ?_
  try simp -implicitDefEqProofs (maxSteps := 1000000) only [go_sem, true_implies, false_implies]
  repeat (first | refine ⟨rfl, ?_⟩ | refine ⟨by decide, ?_⟩ | refine ⟨⟨by decide, by decide⟩, ?_⟩ | refine ⟨decide_eq_true (by omega), ?_⟩ | refine ⟨⟨decide_eq_true (by omega), decide_eq_true (by omega)⟩, ?_⟩)
  try (first | done | decide | exact decide_eq_true (by omega) | exact ⟨decide_eq_true (by omega), decide_eq_true (by omega)⟩)
  obtain ⟨m, d, ⟨_, hd⟩, ht⟩ := c_s_l16Any d hd
  refine .of (ht) ?_
  try simp -implicitDefEqProofs (maxSteps := 1000000) only [go_sem, true_implies, false_implies]
  repeat (first | refine ⟨rfl, ?_⟩ | refine ⟨by decide, ?_⟩ | refine ⟨⟨by decide, by decide⟩, ?_⟩ | refine ⟨decide_eq_true (by omega), ?_⟩ | refine ⟨⟨decide_eq_true (by omega), decide_eq_true (by omega)⟩, ?_⟩)
  try (first | done | decide | exact decide_eq_true (by omega) | exact ⟨decide_eq_true (by omega), decide_eq_true (by omega)⟩)
  exact ⟨a, m, ha, rfl⟩
def x_s_DrawSendAll : FnX := ⟨13, [.tmp 2, .tmp 3],
  .seq (.reg [⟨none, some 2, 2, .mv (.k (.one (.nils 8)))⟩,
   ⟨none, some 3, 3, .mv (.k (.one (.nils 8)))⟩])
 (.seq (.reg [⟨none, some 6, 6, .mv (.t 0)⟩,
   ⟨none, some 7, 7, .call 47 [0] [(.t 6)]⟩,
   ⟨none, some 4, 4, .mv (.t 7)⟩])
 (.seq (.reg [⟨none, some 8, 8, .mv (.t 4)⟩,
   ⟨none, some 9, 9, .call 62 [5] [(.t 8)]⟩,
   ⟨none, some 5, 5, .mv (.t 9)⟩])
 (.seq (.reg [⟨none, some 10, 10, .mv (.t 5)⟩,
   ⟨none, some 11, 11, .mv (.t 4)⟩,
   ⟨none, some 12, 12, .call 62 [5] [(.t 11)]⟩,
   ⟨none, some 2, 2, .mv (.t 10)⟩,
   ⟨none, some 3, 3, .mv (.t 12)⟩])
 (.ret))))⟩
abbrev C_s_DrawSendAll (Te : Nat → List AV → Res → Prop) : Prop := ∀ (l : List UInt8) (hl : l.length ≤ 2 ^ 31), ∃ (a b : List Msg), (a.length ≤ 21 ∧ b.length ≤ 21) ∧ Te 32 [.one (slT false 1 uR l)] ⟨[.one (slT true 8 Msg.row a), .one (slT true 8 Msg.row b)], [[slT false 1 uR l]]⟩
theorem r_s_DrawSendAll {Te : Nat → List AV → Res → Prop} (c_s_l1New : C_s_l1New Te) (c_s_l17Any : C_s_l17Any Te) : ∀ (l : List UInt8) (hl : l.length ≤ 2 ^ 31), ∃ r0, (∃ (a b : List Msg), (a.length ≤ 21 ∧ b.length ≤ 21) ∧ r0 = (⟨[.one (slT true 8 Msg.row a), .one (slT true 8 Msg.row b)], [[slT false 1 uR l]]⟩ : Res)) ∧ RunFn Te x_s_DrawSendAll [.one (slT false 1 uR l)] r0 := by
  intro l hl
  refine some_of (by simp -implicitDefEqProofs (maxSteps := 1000000) only [x_s_DrawSendAll, go_sem]) (by rfl) ?_
  simp -implicitDefEqProofs (maxSteps := 1000000) only [x_s_DrawSendAll, go_sem, true_implies, false_implies]
  repeat (first | refine ⟨rfl, ?_⟩ | refine ⟨by decide, ?_⟩ | refine ⟨⟨by decide, by decide⟩, ?_⟩ | refine ⟨decide_eq_true (by omega), ?_⟩ | refine ⟨⟨decide_eq_true (by omega), decide_eq_true (by omega)⟩, ?_⟩)
  try (first | done | decide | exact decide_eq_true (by omega) | exact ⟨decide_eq_true (by omega), decide_eq_true (by omega)⟩)
  obtain ⟨c, hc, ht⟩ := c_s_l1New l hl
  refine .of (ht) ?_
  try simp -implicitDefEqProofs (maxSteps := 1000000) only [go_sem, true_implies, false_implies]
  repeat (first | refine ⟨rfl, ?_⟩ | refine ⟨by decide, ?_⟩ | refine ⟨⟨by decide, by decide⟩, ?_⟩ | refine ⟨decide_eq_true (by omega), ?_⟩ | refine ⟨⟨decide_eq_true (by omega), decide_eq_true (by omega)⟩, ?_⟩)
  try (first | done | decide | exact decide_eq_true (by omega) | exact ⟨decide_eq_true (by omega), decide_eq_true (by omega)⟩)
  obtain ⟨a, d, ⟨ha, hd⟩, ht⟩ := c_s_l17Any c hc
  refine .of (ht) ?_
  try simp -implicitDefEqProofs (maxSteps := 1000000) only [go_sem, true_implies, false_implies]
  repeat (first | refine ⟨rfl, ?_⟩ | refine ⟨by decide, ?_⟩ | refine ⟨⟨by decide, by decide⟩, ?_⟩ | refine ⟨decide_eq_true (by omega), ?_⟩ | refine ⟨⟨decide_eq_true (by omega), decide_eq_true (by omega)⟩, ?_⟩)
  try (first | done | decide | exact decide_eq_true (by omega) | exact ⟨decide_eq_true (by omega), decide_eq_true (by omega)⟩)
  obtain ⟨b, d, ⟨hb, hd⟩, ht⟩ := c_s_l17Any d hd
  refine .of (ht) ?_
  try simp -implicitDefEqProofs (maxSteps := 1000000) only [go_sem, true_implies, false_implies]
  repeat (first | refine ⟨rfl, ?_⟩ | refine ⟨by decide, ?_⟩ | refine ⟨⟨by decide, by decide⟩, ?_⟩ | refine ⟨decide_eq_true (by omega), ?_⟩ | refine ⟨⟨decide_eq_true (by omega), decide_eq_true (by omega)⟩, ?_⟩)
  try (first | done | decide | exact decide_eq_true (by omega) | exact ⟨decide_eq_true (by omega), decide_eq_true (by omega)⟩)
  exact ⟨a, b, ⟨ha, hb⟩, rfl⟩
def x_s_DrawTakeOut : FnX := ⟨12, [.tmp 2, .tmp 3],
  .seq (.reg [⟨none, some 2, 2, .mv (.k (.one (.nils 8)))⟩,
   ⟨none, some 3, 3, .mv (.k (.one (.pv (.int .i64 0))))⟩])
 (.seq (.reg [⟨none, some 5, 5, .mv (.t 0)⟩,
   ⟨none, some 6, 6, .call 47 [0] [(.t 5)]⟩,
   ⟨none, some 4, 4, .mv (.t 6)⟩])
 (.seq (.reg [⟨none, some 7, 7, .mv (.t 4)⟩,
   ⟨none, some 8, 8, .call 62 [5] [(.t 7)]⟩,
   ⟨none, some 9, 9, .mv (.t 4)⟩,
   ⟨none, some 10, 10, .bslice 1 [(.k (.one (.pv (.int .i64 0)))), (.k (.one (.pv (.int .i64 1)))), (.k (.one (.pv (.int .i64 2)))), (.k (.one (.pv (.int .i64 7)))), (.k (.one (.pv (.int .i64 (-1))))), (.k (.one (.pv (.int .i64 9223372036854775807))))]⟩,
   ⟨none, some 11, 11, .call 66 [5, 1] [(.t 9), (.t 10)]⟩,
   ⟨none, some 2, 2, .mv (.t 8)⟩,
   ⟨none, some 3, 3, .mv (.t 11)⟩])
 (.ret)))⟩
abbrev C_s_DrawTakeOut (Te : Nat → List AV → Res → Prop) : Prop := ∀ (l : List UInt8) (hl : l.length ≤ 2 ^ 31), ∃ (a : List Msg) (i : Int), (a.length ≤ 21) ∧ Te 26 [.one (slT false 1 uR l)] ⟨[.one (slT true 8 Msg.row a), .one (iT i)], [[slT false 1 uR l]]⟩
theorem r_s_DrawTakeOut {Te : Nat → List AV → Res → Prop} (c_s_l1New : C_s_l1New Te) (c_s_l17Any : C_s_l17Any Te) (c_s_l1Int : C_s_l1Int Te) : ∀ (l : List UInt8) (hl : l.length ≤ 2 ^ 31), ∃ r0, (∃ (a : List Msg) (i : Int), (a.length ≤ 21) ∧ r0 = (⟨[.one (slT true 8 Msg.row a), .one (iT i)], [[slT false 1 uR l]]⟩ : Res)) ∧ RunFn Te x_s_DrawTakeOut [.one (slT false 1 uR l)] r0 := by
  intro l hl
  refine some_of (by simp -implicitDefEqProofs (maxSteps := 1000000) only [x_s_DrawTakeOut, go_sem]) (by rfl) ?_
  simp -implicitDefEqProofs (maxSteps := 1000000) only [x_s_DrawTakeOut, go_sem, true_implies, false_implies]
  repeat (first | refine ⟨rfl, ?_⟩ | refine ⟨by decide, ?_⟩ | refine ⟨⟨by decide, by decide⟩, ?_⟩ | refine ⟨decide_eq_true (by omega), ?_⟩ | refine ⟨⟨decide_eq_true (by omega), decide_eq_true (by omega)⟩, ?_⟩)
  try (first | done | decide | exact decide_eq_true (by omega) | exact ⟨decide_eq_true (by omega), decide_eq_true (by omega)⟩)
  obtain ⟨c, hc, ht⟩ := c_s_l1New l hl
  refine .of (ht) ?_
  try simp -implicitDefEqProofs (maxSteps := 1000000) only [go_sem, true_implies, false_implies]
  repeat (first | refine ⟨rfl, ?_⟩ | refine ⟨by decide, ?_⟩ | refine ⟨⟨by decide, by decide⟩, ?_⟩ | refine ⟨decide_eq_true (by omega), ?_⟩ | refine ⟨⟨decide_eq_true (by omega), decide_eq_true (by omega)⟩, ?_⟩)
  try (first | done | decide | exact decide_eq_true (by omega) | exact ⟨decide_eq_true (by omega), decide_eq_true (by omega)⟩)
  obtain ⟨a, d, ⟨ha, hd⟩, ht⟩ := c_s_l17Any c hc
  refine .of (ht) ?_
  try simp -implicitDefEqProofs (maxSteps := 1000000) only [go_sem, true_implies, false_implies]
  repeat (first | refine ⟨rfl, ?_⟩ | refine ⟨by decide, ?_⟩ | refine ⟨⟨by decide, by decide⟩, ?_⟩ | refine ⟨decide_eq_true (by omega), ?_⟩ | refine ⟨⟨decide_eq_true (by omega), decide_eq_true (by omega)⟩, ?_⟩)
  try (first | done | decide | exact decide_eq_true (by omega) | exact ⟨decide_eq_true (by omega), decide_eq_true (by omega)⟩)
  obtain ⟨i, d, ⟨_, hd⟩, ht⟩ := c_s_l1Int d [0, 1, 2, 7, -1, 9223372036854775807] hd (by decide)
  refine .of (ht) ?_
  try simp -implicitDefEqProofs (maxSteps := 1000000) only [go_sem, true_implies, false_implies]
  repeat (first | refine ⟨rfl, ?_⟩ | refine ⟨by decide, ?_⟩ | refine ⟨⟨by decide, by decide⟩, ?_⟩ | refine ⟨decide_eq_true (by omega), ?_⟩ | refine ⟨⟨decide_eq_true (by omega), decide_eq_true (by omega)⟩, ?_⟩)
  try (first | done | decide | exact decide_eq_true (by omega) | exact ⟨decide_eq_true (by omega), decide_eq_true (by omega)⟩)
  exact ⟨a, i, ha, rfl⟩
def x_s_DrawTwice : FnX := ⟨8, [.tmp 2, .tmp 3],
  .seq (.reg [⟨none, some 2, 2, .mv (.k (.one (.nils 8)))⟩,
   ⟨none, some 3, 3, .mv (.k (.one (.pv (.int .i64 0))))⟩])
 (.seq (.reg [⟨none, some 4, 4, .mv (.t 0)⟩,
   ⟨none, some 5, 5, .call 26 [0] [(.t 4)]⟩,
   ⟨none, some 6, 6, .ext (.t 5) 0⟩,
   ⟨none, some 7, 7, .ext (.t 5) 1⟩,
   ⟨none, some 2, 2, .mv (.t 6)⟩,
   ⟨none, some 3, 3, .mv (.t 7)⟩])
 (.ret))⟩
abbrev C_s_DrawTwice (Te : Nat → List AV → Res → Prop) : Prop := ∀ (l : List UInt8) (hl : l.length ≤ 2 ^ 31), ∃ (a : List Msg) (i : Int), (a.length ≤ 21) ∧ Te 29 [.one (slT false 1 uR l)] ⟨[.one (slT true 8 Msg.row a), .one (iT i)], [[slT false 1 uR l]]⟩
theorem r_s_DrawTwice {Te : Nat → List AV → Res → Prop} (c_s_DrawTakeOut : C_s_DrawTakeOut Te) : ∀ (l : List UInt8) (hl : l.length ≤ 2 ^ 31), ∃ r0, (∃ (a : List Msg) (i : Int), (a.length ≤ 21) ∧ r0 = (⟨[.one (slT true 8 Msg.row a), .one (iT i)], [[slT false 1 uR l]]⟩ : Res)) ∧ RunFn Te x_s_DrawTwice [.one (slT false 1 uR l)] r0 := by
  intro l hl
  refine some_of (by simp -implicitDefEqProofs (maxSteps := 1000000) only [x_s_DrawTwice, go_sem]) (by rfl) ?_
  simp -implicitDefEqProofs (maxSteps := 1000000) only [x_s_DrawTwice, go_sem, true_implies, false_implies]
  repeat (first | refine ⟨rfl, ?_⟩ | refine ⟨by decide, ?_⟩ | refine ⟨⟨by decide, by decide⟩, ?_⟩ | refine ⟨decide_eq_true (by omega), ?_⟩ | refine ⟨⟨decide_eq_true (by omega), decide_eq_true (by omega)⟩, ?_⟩)
  try (first | done | decide | exact decide_eq_true (by omega) | exact ⟨decide_eq_true (by omega), decide_eq_true (by omega)⟩)
  obtain ⟨a, i, ha, ht⟩ := c_s_DrawTakeOut l hl
  refine .of (ht) ?_
  try simp -implicitDefEqProofs (maxSteps := 1000000) only [go_sem, true_implies, false_implies]
  repeat (first | refine ⟨rfl, ?_⟩ | refine ⟨by decide, ?_⟩ | refine ⟨⟨by decide, by decide⟩, ?_⟩ | refine ⟨decide_eq_true (by omega), ?_⟩ | refine ⟨⟨decide_eq_true (by omega), decide_eq_true (by omega)⟩, ?_⟩)
  try (first | done | decide | exact decide_eq_true (by omega) | exact ⟨decide_eq_true (by omega), decide_eq_true (by omega)⟩)
  exact ⟨a, i, ha, rfl⟩
end Go.X

/- Uj -/
namespace Go.X
set_option maxRecDepth 100000
set_option maxHeartbeats 8000000
theorem nets_law {l x : List Msg} {m : Msg} (h : send l m = (x, true)) : x.length ≤ 20 ∧ netOk x = true ∧ takeOut x ((x.length : Int) - 1) = (l, m, true) ∧ ((twice x ((x.length : Int) - 1) = (x, false) ∧ x.length = 20) ∨ ∃ E, twice x ((x.length : Int) - 1) = (E, true) ∧ E.length = x.length + 1 ∧
    (List.map Msg.row E).getD x.length [] = [.pv (.int .i64 m.Kind), .pv (.int .i64 m.From), .pv (.int .i64 m.To), .pv (.int .i64 m.Seq), .pv (.string m.Key), .pv (.string m.Text), .pv (.int .i64 m.N), .pv (.int .i64 m.Code)]) := by
  unfold send at h
  split at h
  · rename_i hok
    simp only [Prod.mk.injEq, and_true] at h
    subst h
    have hlen := netOk_len hok
    have hl : (l ++ [m]).length = l.length + 1 := by simp
    have e0 : (((l ++ [m]).length : Int) - 1) = (l.length : Int) := by rw [hl]; omega
    have e1 : ((l.length : Int)).toNat % (l ++ [m]).length = l.length := by rw [hl, Int.toNat_natCast]; exact Nat.mod_eq_of_lt (by omega)
    have ne : ¬ (l ++ [m] = [] ∨ ((l.length : Nat) : Int) < 0) := by
      rintro (h | h)
      · simp at h
      · omega
    have eg : (l ++ [m]).getD l.length msg0 = m := by simp [List.getD]
    refine ⟨hlen, hok, ?_, ?_⟩
    · rw [takeOut, e0, if_neg ne, e1, eg]
      simp [List.take_append, List.drop_append]
    · rw [e0, twice, if_neg ne, e1, eg]
      by_cases hm : (l ++ [m]).length + 1 ≤ 20
      · refine .inr ⟨(l ++ [m]) ++ [m], ?_, by simp, ?_⟩
        · unfold send
          rw [if_pos]
          simp only [netOk, Bool.and_eq_true, decide_eq_true_eq, List.all_append, List.all_cons, List.all_nil] at hok ⊢
          obtain ⟨⟨h1, h2⟩, _⟩ := hok
          refine ⟨⟨⟨h1, h2⟩, h2⟩, ?_⟩
          rw [List.length_append]
          simp only [List.length_cons, List.length_nil]
          omega
        · rw [List.getD_eq_getElem?_getD, List.getElem?_map, List.getElem?_append_right (Nat.le_refl _)]
          simp
      · refine .inl ⟨?_, by omega⟩
        unfold send
        rw [if_neg]
        intro q
        have := netOk_len q
        rw [List.length_append] at this
        simp only [List.length_cons, List.length_nil] at this
        omega
  · simp at h
end Go.X

/- W_FnNets -/
namespace Go.X
set_option maxRecDepth 100000
set_option maxHeartbeats 8000000
def x_l_FnNets_5 : XCode := .seq (.reg [⟨none, some 152, 152, .mv (.t 5)⟩,
   ⟨none, some 153, 153, .mv (.t 5)⟩,
   ⟨none, some 154, 154, .len (.t 153)⟩,
   ⟨none, some 155, 155, .bin .sub (.t 154) (.k (.one (.pv (.int .i64 1))))⟩,
   ⟨none, some 156, 156, .call 27 [0, 0] [(.t 152), (.t 155)]⟩,
   ⟨none, some 151, 151, .mv (.t 156)⟩,
   ⟨none, some 157, 157, .ext (.t 151) 0⟩,
   ⟨none, some 158, 158, .ext (.t 151) 1⟩,
   ⟨none, some 159, 159, .ext (.t 151) 2⟩,
   ⟨none, some 27, 27, .alloc [.pv (.int .i64 0), .pv (.int .i64 0), .pv (.int .i64 0), .pv (.int .i64 0), .pv (.string ⟨#[]⟩), .pv (.string ⟨#[]⟩), .pv (.int .i64 0), .pv (.int .i64 0)]⟩,
   ⟨none, some 26, 26, .mv (.t 157)⟩,
   ⟨none, none, 100004, .store 8 (.t 27) (.t 158)⟩,
   ⟨none, some 28, 28, .mv (.t 159)⟩])
 (.seq (.reg [⟨none, some 161, 161, .mv (.t 5)⟩,
   ⟨none, some 162, 162, .mv (.t 5)⟩,
   ⟨none, some 163, 163, .len (.t 162)⟩,
   ⟨none, some 164, 164, .bin .sub (.t 163) (.k (.one (.pv (.int .i64 1))))⟩,
   ⟨none, some 165, 165, .call 30 [0, 0] [(.t 161), (.t 164)]⟩,
   ⟨none, some 160, 160, .mv (.t 165)⟩,
   ⟨none, some 166, 166, .ext (.t 160) 0⟩,
   ⟨none, some 167, 167, .ext (.t 160) 1⟩,
   ⟨none, some 29, 29, .mv (.t 166)⟩,
   ⟨none, some 30, 30, .mv (.t 167)⟩])
 (.seq (.draw [⟨none, some 168, 168, .mv (.t 28)⟩,
   ⟨none, some 169, 169, .mv (.t 168)⟩,
   ⟨(some (169, true)), some 170, 170, .load (some 8) (.t 27)⟩,
   ⟨(some (169, true)), some 171, 171, .load (some 8) (.t 4)⟩,
   ⟨(some (169, true)), some 172, 172, .eqs false [0, 0, 0, 0, 2, 2, 0, 0] (.t 170) (.t 171)⟩,
   ⟨none, some 173, 173, .pick (.t 169) (.t 172) (.k (.one (.pv (.bool false))))⟩,
   ⟨none, some 174, 174, .mv (.t 173)⟩,
   ⟨(some (174, true)), some 175, 175, .mv (.t 26)⟩,
   ⟨(some (174, true)), some 176, 176, .mv (.t 3)⟩,
   ⟨(some (174, true)), some 177, 177, .call 34 [0, 0] [(.t 175), (.t 176)]⟩,
   ⟨none, some 178, 178, .pick (.t 174) (.t 177) (.k (.one (.pv (.bool false))))⟩,
   ⟨none, some 179, 179, .mv (.t 178)⟩,
   ⟨(some (179, true)), some 180, 180, .mv (.t 5)⟩,
   ⟨(some (179, true)), some 181, 181, .call 37 [0] [(.t 180)]⟩,
   ⟨none, some 182, 182, .pick (.t 179) (.t 181) (.k (.one (.pv (.bool false))))⟩,
   ⟨none, some 183, 183, .mv (.t 182)⟩,
   ⟨(some (183, true)), some 184, 184, .mv (.t 30)⟩,
   ⟨(some (183, true)), some 185, 185, .not (.t 184)⟩,
   ⟨(some (183, true)), some 186, 186, .mv (.t 185)⟩,
   ⟨(some (186, true)), some 187, 187, .mv (.t 5)⟩,
   ⟨(some (186, true)), some 188, 188, .len (.t 187)⟩,
   ⟨(some (186, true)), some 189, 189, .bin .eql (.t 188) (.k (.one (.pv (.int .i64 20))))⟩,
   ⟨(some (183, true)), some 190, 190, .pick (.t 186) (.t 189) (.k (.one (.pv (.bool false))))⟩,
   ⟨(some (183, true)), some 191, 191, .mv (.t 190)⟩,
   ⟨(some (191, false)), some 192, 192, .mv (.t 30)⟩,
   ⟨(some (191, false)), some 193, 193, .mv (.t 192)⟩,
   ⟨(some (193, true)), some 194, 194, .mv (.t 29)⟩,
   ⟨(some (193, true)), some 195, 195, .len (.t 194)⟩,
   ⟨(some (193, true)), some 196, 196, .mv (.t 5)⟩,
   ⟨(some (193, true)), some 197, 197, .len (.t 196)⟩,
   ⟨(some (193, true)), some 198, 198, .bin .add (.t 197) (.k (.one (.pv (.int .i64 1))))⟩,
   ⟨(some (193, true)), some 199, 199, .bin .eql (.t 195) (.t 198)⟩,
   ⟨(some (191, false)), some 200, 200, .pick (.t 193) (.t 199) (.k (.one (.pv (.bool false))))⟩,
   ⟨(some (191, false)), some 201, 201, .mv (.t 200)⟩,
   ⟨(some (201, true)), some 202, 202, .mv (.t 29)⟩,
   ⟨(some (201, true)), some 203, 203, .mv (.t 5)⟩,
   ⟨(some (201, true)), some 204, 204, .len (.t 203)⟩,
   ⟨(some (201, true)), some 205, 205, .iaddr 8 (.t 202) (.t 204)⟩,
   ⟨(some (201, true)), some 206, 206, .load (some 8) (.t 205)⟩,
   ⟨(some (201, true)), some 207, 207, .load (some 8) (.t 4)⟩,
   ⟨(some (201, true)), some 208, 208, .eqs false [0, 0, 0, 0, 2, 2, 0, 0] (.t 206) (.t 207)⟩,
   ⟨(some (191, false)), some 209, 209, .pick (.t 201) (.t 208) (.k (.one (.pv (.bool false))))⟩,
   ⟨(some (183, true)), some 210, 210, .pick (.t 191) (.k (.one (.pv (.bool true)))) (.t 209)⟩,
   ⟨none, some 211, 211, .pick (.t 183) (.t 210) (.k (.one (.pv (.bool false))))⟩,
   ⟨none, some 2, 2, .mv (.t 211)⟩] [[], [0], [1], [1], [2, 3, 1], [1, 4], [5, 1], [6], [6], [7, 8, 6, 6], [6, 9], [10, 9], [11], [12, 11, 11], [11, 13], [14, 13], [15], [16, 15], [17, 15, 15], [18], [19, 18], [20, 18], [18, 21, 15], [22, 18, 15], [23], [24, 23, 23], [25], [26, 25], [25], [28, 25], [29, 25], [27, 30, 25], [25, 31, 23], [32, 25, 23], [33], [33], [35, 33], [34, 36, 33], [37, 33], [33], [38, 39, 33], [33, 40, 23], [23, 41, 15], [15, 42], [43, 33, 0, 1, 2, 3, 4, 5, 6, 7, 8, 9, 10, 11, 12, 13, 14, 15, 16, 17, 18, 19, 20, 21, 22, 23, 24, 25, 26, 27, 28, 29, 30, 31, 32, 33, 34, 35, 36, 37, 38, 39, 40, 41, 42, 43]])
 (.ret)))
def x_l_FnNets_4 : XCode := .seq (.seq (.reg [⟨none, some 93, 93, .mv (.t 6)⟩,
   ⟨none, some 94, 94, .mv (.t 8)⟩,
   ⟨none, some 95, 95, .beq true (.t 93) (.t 94)⟩,
   ⟨none, some 96, 96, .mv (.t 95)⟩,
   ⟨(some (96, false)), some 97, 97, .mv (.t 5)⟩,
   ⟨(some (96, false)), some 98, 98, .mv (.t 7)⟩,
   ⟨(some (96, false)), some 99, 99, .call 34 [0, 0] [(.t 97), (.t 98)]⟩,
   ⟨(some (96, false)), some 100, 100, .not (.t 99)⟩,
   ⟨none, some 101, 101, .pick (.t 96) (.k (.one (.pv (.bool true)))) (.t 100)⟩,
   ⟨none, some 102, 102, .mv (.t 101)⟩,
   ⟨(some (102, false)), some 103, 103, .mv (.t 13)⟩,
   ⟨(some (102, false)), some 104, 104, .mv (.t 16)⟩,
   ⟨(some (102, false)), some 105, 105, .beq true (.t 103) (.t 104)⟩,
   ⟨none, some 106, 106, .pick (.t 102) (.k (.one (.pv (.bool true)))) (.t 105)⟩,
   ⟨none, some 107, 107, .mv (.t 106)⟩,
   ⟨(some (107, false)), some 108, 108, .load (some 8) (.t 12)⟩,
   ⟨(some (107, false)), some 109, 109, .load (some 8) (.t 15)⟩,
   ⟨(some (107, false)), some 110, 110, .eqs true [0, 0, 0, 0, 2, 2, 0, 0] (.t 108) (.t 109)⟩,
   ⟨none, some 111, 111, .pick (.t 107) (.k (.one (.pv (.bool true)))) (.t 110)⟩,
   ⟨none, some 112, 112, .mv (.t 111)⟩,
   ⟨(some (112, false)), some 113, 113, .mv (.t 11)⟩,
   ⟨(some (112, false)), some 114, 114, .mv (.t 14)⟩,
   ⟨(some (112, false)), some 115, 115, .call 34 [0, 0] [(.t 113), (.t 114)]⟩,
   ⟨(some (112, false)), some 116, 116, .not (.t 115)⟩,
   ⟨none, some 117, 117, .pick (.t 112) (.k (.one (.pv (.bool true)))) (.t 116)⟩,
   ⟨none, some 118, 118, .mv (.t 117)⟩,
   ⟨(some (118, false)), some 119, 119, .mv (.t 20)⟩,
   ⟨(some (118, false)), some 120, 120, .mv (.t 22)⟩,
   ⟨(some (118, false)), some 121, 121, .beq true (.t 119) (.t 120)⟩,
   ⟨none, some 122, 122, .pick (.t 118) (.k (.one (.pv (.bool true)))) (.t 121)⟩,
   ⟨none, some 123, 123, .mv (.t 122)⟩,
   ⟨(some (123, false)), some 124, 124, .mv (.t 19)⟩,
   ⟨(some (123, false)), some 125, 125, .mv (.t 21)⟩,
   ⟨(some (123, false)), some 126, 126, .call 34 [0, 0] [(.t 124), (.t 125)]⟩,
   ⟨(some (123, false)), some 127, 127, .not (.t 126)⟩,
   ⟨none, some 128, 128, .pick (.t 123) (.k (.one (.pv (.bool true)))) (.t 127)⟩,
   ⟨none, some 129, 129, .mv (.t 128)⟩,
   ⟨(some (129, false)), some 130, 130, .mv (.t 23)⟩,
   ⟨(some (129, false)), some 131, 131, .mv (.t 24)⟩,
   ⟨(some (129, false)), some 132, 132, .call 35 [0, 0] [(.t 130), (.t 131)]⟩,
   ⟨(some (129, false)), some 133, 133, .mv (.t 23)⟩,
   ⟨(some (129, false)), some 134, 134, .mv (.t 24)⟩,
   ⟨(some (129, false)), some 135, 135, .call 36 [0, 0] [(.t 133), (.t 134)]⟩,
   ⟨(some (129, false)), some 136, 136, .call 34 [0, 0] [(.t 132), (.t 135)]⟩,
   ⟨(some (129, false)), some 137, 137, .not (.t 136)⟩,
   ⟨none, some 138, 138, .pick (.t 129) (.k (.one (.pv (.bool true)))) (.t 137)⟩,
   ⟨none, some 139, 139, .mv (.t 138)⟩,
   ⟨(some (139, false)), some 140, 140, .mv (.t 25)⟩,
   ⟨(some (139, false)), some 141, 141, .call 37 [0] [(.t 140)]⟩,
   ⟨(some (139, false)), some 142, 142, .mv (.t 25)⟩,
   ⟨(some (139, false)), some 143, 143, .call 38 [0] [(.t 142)]⟩,
   ⟨(some (139, false)), some 144, 144, .beq true (.t 141) (.t 143)⟩,
   ⟨none, some 145, 145, .pick (.t 139) (.k (.one (.pv (.bool true)))) (.t 144)⟩])
 (.cond 145 (.seq (.reg [⟨none, some 2, 2, .mv (.k (.one (.pv (.bool false))))⟩])
 (.ret)) (.skip)))
 (.seq (.seq (.reg [⟨none, some 146, 146, .mv (.t 6)⟩,
   ⟨none, some 147, 147, .not (.t 146)⟩])
 (.cond 147 (.seq (.reg [⟨none, some 148, 148, .mv (.t 5)⟩,
   ⟨none, some 149, 149, .mv (.t 3)⟩,
   ⟨none, some 150, 150, .call 34 [0, 0] [(.t 148), (.t 149)]⟩,
   ⟨none, some 2, 2, .mv (.t 150)⟩])
 (.ret)) (.skip)))
 (.norm [3, 4, 5] (x_l_FnNets_5)))
def x_l_FnNets_3 : XCode := .seq (.reg [⟨none, some 87, 87, .mv (.t 0)⟩,
   ⟨none, some 88, 88, .call 32 [0] [(.t 87)]⟩,
   ⟨none, some 86, 86, .mv (.t 88)⟩,
   ⟨none, some 89, 89, .ext (.t 86) 0⟩,
   ⟨none, some 90, 90, .ext (.t 86) 1⟩,
   ⟨none, some 23, 23, .mv (.t 89)⟩,
   ⟨none, some 24, 24, .mv (.t 90)⟩])
 (.seq (.reg [⟨none, some 91, 91, .mv (.t 0)⟩,
   ⟨none, some 92, 92, .call 33 [0] [(.t 91)]⟩,
   ⟨none, some 25, 25, .mv (.t 92)⟩])
 (.norm [3, 4, 5, 6, 7, 8, 11, 12, 13, 14, 15, 16, 19, 20, 21, 22, 23, 24, 25] (x_l_FnNets_4)))
def x_l_FnNets_2 : XCode := .seq (.reg [⟨none, some 70, 70, .mv (.t 0)⟩,
   ⟨none, some 71, 71, .call 29 [0] [(.t 70)]⟩,
   ⟨none, some 69, 69, .mv (.t 71)⟩,
   ⟨none, some 72, 72, .ext (.t 69) 0⟩,
   ⟨none, some 73, 73, .ext (.t 69) 1⟩,
   ⟨none, some 17, 17, .mv (.t 72)⟩,
   ⟨none, some 18, 18, .mv (.t 73)⟩])
 (.seq (.reg [⟨none, some 75, 75, .mv (.t 17)⟩,
   ⟨none, some 76, 76, .mv (.t 18)⟩,
   ⟨none, some 77, 77, .call 30 [0, 0] [(.t 75), (.t 76)]⟩,
   ⟨none, some 74, 74, .mv (.t 77)⟩,
   ⟨none, some 78, 78, .ext (.t 74) 0⟩,
   ⟨none, some 79, 79, .ext (.t 74) 1⟩,
   ⟨none, some 19, 19, .mv (.t 78)⟩,
   ⟨none, some 20, 20, .mv (.t 79)⟩])
 (.seq (.reg [⟨none, some 81, 81, .mv (.t 17)⟩,
   ⟨none, some 82, 82, .mv (.t 18)⟩,
   ⟨none, some 83, 83, .call 31 [0, 0] [(.t 81), (.t 82)]⟩,
   ⟨none, some 80, 80, .mv (.t 83)⟩,
   ⟨none, some 84, 84, .ext (.t 80) 0⟩,
   ⟨none, some 85, 85, .ext (.t 80) 1⟩,
   ⟨none, some 21, 21, .mv (.t 84)⟩,
   ⟨none, some 22, 22, .mv (.t 85)⟩])
 (.norm [0, 3, 4, 5, 6, 7, 8, 11, 12, 13, 14, 15, 16, 19, 20, 21, 22] (x_l_FnNets_3))))
def x_l_FnNets_1 : XCode := .seq (.reg [⟨none, some 51, 51, .mv (.t 0)⟩,
   ⟨none, some 52, 52, .call 26 [0] [(.t 51)]⟩,
   ⟨none, some 50, 50, .mv (.t 52)⟩,
   ⟨none, some 53, 53, .ext (.t 50) 0⟩,
   ⟨none, some 54, 54, .ext (.t 50) 1⟩,
   ⟨none, some 9, 9, .mv (.t 53)⟩,
   ⟨none, some 10, 10, .mv (.t 54)⟩])
 (.seq (.reg [⟨none, some 56, 56, .mv (.t 9)⟩,
   ⟨none, some 57, 57, .mv (.t 10)⟩,
   ⟨none, some 58, 58, .call 27 [0, 0] [(.t 56), (.t 57)]⟩,
   ⟨none, some 55, 55, .mv (.t 58)⟩,
   ⟨none, some 59, 59, .ext (.t 55) 0⟩,
   ⟨none, some 60, 60, .ext (.t 55) 1⟩,
   ⟨none, some 61, 61, .ext (.t 55) 2⟩,
   ⟨none, some 12, 12, .alloc [.pv (.int .i64 0), .pv (.int .i64 0), .pv (.int .i64 0), .pv (.int .i64 0), .pv (.string ⟨#[]⟩), .pv (.string ⟨#[]⟩), .pv (.int .i64 0), .pv (.int .i64 0)]⟩,
   ⟨none, some 11, 11, .mv (.t 59)⟩,
   ⟨none, none, 100002, .store 8 (.t 12) (.t 60)⟩,
   ⟨none, some 13, 13, .mv (.t 61)⟩])
 (.seq (.reg [⟨none, some 63, 63, .mv (.t 9)⟩,
   ⟨none, some 64, 64, .mv (.t 10)⟩,
   ⟨none, some 65, 65, .call 28 [0, 0] [(.t 63), (.t 64)]⟩,
   ⟨none, some 62, 62, .mv (.t 65)⟩,
   ⟨none, some 66, 66, .ext (.t 62) 0⟩,
   ⟨none, some 67, 67, .ext (.t 62) 1⟩,
   ⟨none, some 68, 68, .ext (.t 62) 2⟩,
   ⟨none, some 15, 15, .alloc [.pv (.int .i64 0), .pv (.int .i64 0), .pv (.int .i64 0), .pv (.int .i64 0), .pv (.string ⟨#[]⟩), .pv (.string ⟨#[]⟩), .pv (.int .i64 0), .pv (.int .i64 0)]⟩,
   ⟨none, some 14, 14, .mv (.t 66)⟩,
   ⟨none, none, 100003, .store 8 (.t 15) (.t 67)⟩,
   ⟨none, some 16, 16, .mv (.t 68)⟩])
 (.norm [0, 3, 4, 5, 6, 7, 8, 11, 12, 13, 14, 15, 16] (x_l_FnNets_2))))
def x_l_FnNets : FnX := ⟨212, [.tmp 2],
  .seq (.reg [⟨none, some 2, 2, .mv (.k (.one (.pv (.bool false))))⟩])
 (.seq (.seq (.reg [⟨none, some 31, 31, .mv (.t 0)⟩,
   ⟨none, some 32, 32, .call 7 [0] [(.t 31)]⟩])
 (.cond 32 (.seq (.reg [⟨none, some 2, 2, .mv (.k (.one (.pv (.bool true))))⟩])
 (.ret)) (.skip)))
 (.seq (.reg [⟨none, some 34, 34, .mv (.t 0)⟩,
   ⟨none, some 35, 35, .call 23 [0] [(.t 34)]⟩,
   ⟨none, some 33, 33, .mv (.t 35)⟩,
   ⟨none, some 36, 36, .ext (.t 33) 0⟩,
   ⟨none, some 37, 37, .ext (.t 33) 1⟩,
   ⟨none, some 4, 4, .alloc [.pv (.int .i64 0), .pv (.int .i64 0), .pv (.int .i64 0), .pv (.int .i64 0), .pv (.string ⟨#[]⟩), .pv (.string ⟨#[]⟩), .pv (.int .i64 0), .pv (.int .i64 0)]⟩,
   ⟨none, some 3, 3, .mv (.t 36)⟩,
   ⟨none, none, 100001, .store 8 (.t 4) (.t 37)⟩])
 (.seq (.reg [⟨none, some 39, 39, .mv (.t 3)⟩,
   ⟨none, some 40, 40, .load (some 8) (.t 4)⟩,
   ⟨none, some 41, 41, .call 24 [0, 0] [(.t 39), (.t 40)]⟩,
   ⟨none, some 38, 38, .mv (.t 41)⟩,
   ⟨none, some 42, 42, .ext (.t 38) 0⟩,
   ⟨none, some 43, 43, .ext (.t 38) 1⟩,
   ⟨none, some 5, 5, .mv (.t 42)⟩,
   ⟨none, some 6, 6, .mv (.t 43)⟩])
 (.seq (.reg [⟨none, some 45, 45, .mv (.t 3)⟩,
   ⟨none, some 46, 46, .load (some 8) (.t 4)⟩,
   ⟨none, some 47, 47, .call 25 [0, 0] [(.t 45), (.t 46)]⟩,
   ⟨none, some 44, 44, .mv (.t 47)⟩,
   ⟨none, some 48, 48, .ext (.t 44) 0⟩,
   ⟨none, some 49, 49, .ext (.t 44) 1⟩,
   ⟨none, some 7, 7, .mv (.t 48)⟩,
   ⟨none, some 8, 8, .mv (.t 49)⟩])
 (.norm [0, 3, 4, 5, 6, 7, 8] (x_l_FnNets_1))))))⟩
abbrev C_l_FnNets (Te : Nat → List AV → Res → Prop) : Prop := ∀ (code : List UInt8) (h : code.length ≤ 2 ^ 48), Te 5 [.one (slT false 1 uR code)] ⟨[.one (bT true)], [[slT false 1 uR code]]⟩
theorem r_l_FnNets {Te : Nat → List AV → Res → Prop} (c_l_big : C_l_big Te) (c_s_DrawSend : C_s_DrawSend Te) (c_i_Send : C_i_Send Te) (c_s_Send : C_s_Send Te) (c_s_DrawTakeOut : C_s_DrawTakeOut Te) (c_i_TakeOut : C_i_TakeOut Te) (c_s_TakeOut : C_s_TakeOut Te) (c_s_DrawTwice : C_s_DrawTwice Te) (c_i_Twice : C_i_Twice Te) (c_s_Twice : C_s_Twice Te) (c_s_DrawSendAll : C_s_DrawSendAll Te) (c_s_DrawNetOk : C_s_DrawNetOk Te) (c_l_sameMsgs : C_l_sameMsgs Te) (c_i_SendAll : C_i_SendAll Te) (c_s_SendAll : C_s_SendAll Te) (c_i_NetOk : C_i_NetOk Te) (c_s_NetOk : C_s_NetOk Te) : ∀ (code : List UInt8) (h : code.length ≤ 2 ^ 48), RunFn Te x_l_FnNets [.one (slT false 1 uR code)] ⟨[.one (bT true)], [[slT false 1 uR code]]⟩ := by
  intro code h
  refine ⟨by simp -implicitDefEqProofs (maxSteps := 1000000) only [x_l_FnNets, go_sem], ?_⟩
  have eM : ∀ z : Msg, decide (z = z) = true := fun z => decide_eq_true rfl
  have eL : ∀ z : List Msg, decide (z = z) = true := fun z => decide_eq_true rfl
  have xT : (true != false) = true := rfl
  have xF : (false != true) = true := rfl
  have xB : (true != true) = false := rfl
  simp -implicitDefEqProofs (maxSteps := 1000000) only [x_l_FnNets, go_sem, true_implies, false_implies]
  repeat (first | refine ⟨rfl, ?_⟩ | refine ⟨by decide, ?_⟩ | refine ⟨⟨by decide, by decide⟩, ?_⟩ | refine ⟨decide_eq_true (by omega), ?_⟩ | refine ⟨⟨decide_eq_true (by omega), decide_eq_true (by omega)⟩, ?_⟩)
  try (first | done | decide | exact decide_eq_true (by omega) | exact ⟨decide_eq_true (by omega), decide_eq_true (by omega)⟩)
  refine .of (c_l_big _) ?_
  try simp -implicitDefEqProofs (maxSteps := 1000000) only [go_sem, true_implies, false_implies]
  repeat (first | refine ⟨rfl, ?_⟩ | refine ⟨by decide, ?_⟩ | refine ⟨⟨by decide, by decide⟩, ?_⟩ | refine ⟨decide_eq_true (by omega), ?_⟩ | refine ⟨⟨decide_eq_true (by omega), decide_eq_true (by omega)⟩, ?_⟩)
  try (first | done | decide | exact decide_eq_true (by omega) | exact ⟨decide_eq_true (by omega), decide_eq_true (by omega)⟩)
  refine fun q => ?_
  have hc : code.length ≤ 2 ^ 31 := by simp only [decide_eq_false_iff_not] at q; omega
  try simp -implicitDefEqProofs (maxSteps := 1000000) only [go_sem, true_implies, false_implies]
  repeat (first | refine ⟨rfl, ?_⟩ | refine ⟨by decide, ?_⟩ | refine ⟨⟨by decide, by decide⟩, ?_⟩ | refine ⟨decide_eq_true (by omega), ?_⟩ | refine ⟨⟨decide_eq_true (by omega), decide_eq_true (by omega)⟩, ?_⟩)
  try (first | done | decide | exact decide_eq_true (by omega) | exact ⟨decide_eq_true (by omega), decide_eq_true (by omega)⟩)
  obtain ⟨l, m, hl, ht⟩ := c_s_DrawSend code hc
  refine .of (ht) ?_
  try simp -implicitDefEqProofs (maxSteps := 1000000) only [go_sem, true_implies, false_implies]
  repeat (first | refine ⟨rfl, ?_⟩ | refine ⟨by decide, ?_⟩ | refine ⟨⟨by decide, by decide⟩, ?_⟩ | refine ⟨decide_eq_true (by omega), ?_⟩ | refine ⟨⟨decide_eq_true (by omega), decide_eq_true (by omega)⟩, ?_⟩)
  try (first | done | decide | exact decide_eq_true (by omega) | exact ⟨decide_eq_true (by omega), decide_eq_true (by omega)⟩)
  have hA := c_i_Send l m (by omega)
  have hB := c_s_Send l m (by omega)
  have hx := send_len m hl (by decide)
  have hno : (send l m).2 = false → (send l m).1 = l := by
    intro e
    unfold send at e ⊢
    split at e
    · cases e
    · rename_i g
      rw [if_neg g]
  generalize hr : send l m = r at hA hB hx hno
  obtain ⟨x, ok⟩ := r
  simp only at hx hno hA hB
  refine .of (hA) ?_
  try simp -implicitDefEqProofs (maxSteps := 1000000) only [go_sem, true_implies, false_implies]
  repeat (first | refine ⟨rfl, ?_⟩ | refine ⟨by decide, ?_⟩ | refine ⟨⟨by decide, by decide⟩, ?_⟩ | refine ⟨decide_eq_true (by omega), ?_⟩ | refine ⟨⟨decide_eq_true (by omega), decide_eq_true (by omega)⟩, ?_⟩)
  try (first | done | decide | exact decide_eq_true (by omega) | exact ⟨decide_eq_true (by omega), decide_eq_true (by omega)⟩)
  refine .of (hB) ?_
  try simp -implicitDefEqProofs (maxSteps := 1000000) only [go_sem, true_implies, false_implies, x_l_FnNets_1]
  repeat (first | refine ⟨rfl, ?_⟩ | refine ⟨by decide, ?_⟩ | refine ⟨⟨by decide, by decide⟩, ?_⟩ | refine ⟨decide_eq_true (by omega), ?_⟩ | refine ⟨⟨decide_eq_true (by omega), decide_eq_true (by omega)⟩, ?_⟩)
  try (first | done | decide | exact decide_eq_true (by omega) | exact ⟨decide_eq_true (by omega), decide_eq_true (by omega)⟩)
  obtain ⟨a, i, ha, ht⟩ := c_s_DrawTakeOut code hc
  refine .of (ht) ?_
  try simp -implicitDefEqProofs (maxSteps := 1000000) only [go_sem, true_implies, false_implies]
  repeat (first | refine ⟨rfl, ?_⟩ | refine ⟨by decide, ?_⟩ | refine ⟨⟨by decide, by decide⟩, ?_⟩ | refine ⟨decide_eq_true (by omega), ?_⟩ | refine ⟨⟨decide_eq_true (by omega), decide_eq_true (by omega)⟩, ?_⟩)
  try (first | done | decide | exact decide_eq_true (by omega) | exact ⟨decide_eq_true (by omega), decide_eq_true (by omega)⟩)
  refine .of (c_i_TakeOut a i (by omega)) ?_
  try simp -implicitDefEqProofs (maxSteps := 1000000) only [go_sem, true_implies, false_implies]
  repeat (first | refine ⟨rfl, ?_⟩ | refine ⟨by decide, ?_⟩ | refine ⟨⟨by decide, by decide⟩, ?_⟩ | refine ⟨decide_eq_true (by omega), ?_⟩ | refine ⟨⟨decide_eq_true (by omega), decide_eq_true (by omega)⟩, ?_⟩)
  try (first | done | decide | exact decide_eq_true (by omega) | exact ⟨decide_eq_true (by omega), decide_eq_true (by omega)⟩)
  refine .of (c_s_TakeOut a i (by omega)) ?_
  try simp -implicitDefEqProofs (maxSteps := 1000000) only [go_sem, true_implies, false_implies, x_l_FnNets_2]
  repeat (first | refine ⟨rfl, ?_⟩ | refine ⟨by decide, ?_⟩ | refine ⟨⟨by decide, by decide⟩, ?_⟩ | refine ⟨decide_eq_true (by omega), ?_⟩ | refine ⟨⟨decide_eq_true (by omega), decide_eq_true (by omega)⟩, ?_⟩)
  try (first | done | decide | exact decide_eq_true (by omega) | exact ⟨decide_eq_true (by omega), decide_eq_true (by omega)⟩)
  obtain ⟨b, k, hb, ht⟩ := c_s_DrawTwice code hc
  refine .of (ht) ?_
  try simp -implicitDefEqProofs (maxSteps := 1000000) only [go_sem, true_implies, false_implies]
  repeat (first | refine ⟨rfl, ?_⟩ | refine ⟨by decide, ?_⟩ | refine ⟨⟨by decide, by decide⟩, ?_⟩ | refine ⟨decide_eq_true (by omega), ?_⟩ | refine ⟨⟨decide_eq_true (by omega), decide_eq_true (by omega)⟩, ?_⟩)
  try (first | done | decide | exact decide_eq_true (by omega) | exact ⟨decide_eq_true (by omega), decide_eq_true (by omega)⟩)
  refine .of (c_i_Twice b k (by omega)) ?_
  try simp -implicitDefEqProofs (maxSteps := 1000000) only [go_sem, true_implies, false_implies]
  repeat (first | refine ⟨rfl, ?_⟩ | refine ⟨by decide, ?_⟩ | refine ⟨⟨by decide, by decide⟩, ?_⟩ | refine ⟨decide_eq_true (by omega), ?_⟩ | refine ⟨⟨decide_eq_true (by omega), decide_eq_true (by omega)⟩, ?_⟩)
  try (first | done | decide | exact decide_eq_true (by omega) | exact ⟨decide_eq_true (by omega), decide_eq_true (by omega)⟩)
  refine .of (c_s_Twice b k (by omega)) ?_
  try simp -implicitDefEqProofs (maxSteps := 1000000) only [go_sem, true_implies, false_implies, x_l_FnNets_3]
  repeat (first | refine ⟨rfl, ?_⟩ | refine ⟨by decide, ?_⟩ | refine ⟨⟨by decide, by decide⟩, ?_⟩ | refine ⟨decide_eq_true (by omega), ?_⟩ | refine ⟨⟨decide_eq_true (by omega), decide_eq_true (by omega)⟩, ?_⟩)
  try (first | done | decide | exact decide_eq_true (by omega) | exact ⟨decide_eq_true (by omega), decide_eq_true (by omega)⟩)
  obtain ⟨c, d, ⟨hcl, hdl⟩, ht⟩ := c_s_DrawSendAll code hc
  refine .of (ht) ?_
  try simp -implicitDefEqProofs (maxSteps := 1000000) only [go_sem, true_implies, false_implies]
  repeat (first | refine ⟨rfl, ?_⟩ | refine ⟨by decide, ?_⟩ | refine ⟨⟨by decide, by decide⟩, ?_⟩ | refine ⟨decide_eq_true (by omega), ?_⟩ | refine ⟨⟨decide_eq_true (by omega), decide_eq_true (by omega)⟩, ?_⟩)
  try (first | done | decide | exact decide_eq_true (by omega) | exact ⟨decide_eq_true (by omega), decide_eq_true (by omega)⟩)
  obtain ⟨n, hn, ht⟩ := c_s_DrawNetOk code hc
  refine .of (ht) ?_
  try simp -implicitDefEqProofs (maxSteps := 1000000) only [go_sem, true_implies, false_implies, x_l_FnNets_4, bne_self_eq_false, beq_self_eq_true, msg_eqs', eM, xT, xF, xB]
  repeat (first | refine ⟨rfl, ?_⟩ | refine ⟨by decide, ?_⟩ | refine ⟨⟨by decide, by decide⟩, ?_⟩ | refine ⟨decide_eq_true (by omega), ?_⟩ | refine ⟨⟨decide_eq_true (by omega), decide_eq_true (by omega)⟩, ?_⟩)
  try (first | done | decide | exact decide_eq_true (by omega) | exact ⟨decide_eq_true (by omega), decide_eq_true (by omega)⟩)
  refine .of (c_l_sameMsgs x x (by omega)) ?_
  try simp -implicitDefEqProofs (maxSteps := 1000000) only [go_sem, true_implies, false_implies, eL, bne_self_eq_false, beq_self_eq_true, msg_eqs', eM, xT, xF, xB]
  repeat (first | refine ⟨rfl, ?_⟩ | refine ⟨by decide, ?_⟩ | refine ⟨⟨by decide, by decide⟩, ?_⟩ | refine ⟨decide_eq_true (by omega), ?_⟩ | refine ⟨⟨decide_eq_true (by omega), decide_eq_true (by omega)⟩, ?_⟩)
  try (first | done | decide | exact decide_eq_true (by omega) | exact ⟨decide_eq_true (by omega), decide_eq_true (by omega)⟩)
  refine .of (c_l_sameMsgs (takeOut a i).1 (takeOut a i).1 (by have := takeOut_len a i; omega)) ?_
  try simp -implicitDefEqProofs (maxSteps := 1000000) only [go_sem, true_implies, false_implies, eL, bne_self_eq_false, beq_self_eq_true, msg_eqs', eM, xT, xF, xB]
  repeat (first | refine ⟨rfl, ?_⟩ | refine ⟨by decide, ?_⟩ | refine ⟨⟨by decide, by decide⟩, ?_⟩ | refine ⟨decide_eq_true (by omega), ?_⟩ | refine ⟨⟨decide_eq_true (by omega), decide_eq_true (by omega)⟩, ?_⟩)
  try (first | done | decide | exact decide_eq_true (by omega) | exact ⟨decide_eq_true (by omega), decide_eq_true (by omega)⟩)
  refine .of (c_l_sameMsgs (twice b k).1 (twice b k).1 (by have := twice_len k hb (by decide); omega)) ?_
  try simp -implicitDefEqProofs (maxSteps := 1000000) only [go_sem, true_implies, false_implies, eL, bne_self_eq_false, beq_self_eq_true, msg_eqs', eM, xT, xF, xB]
  repeat (first | refine ⟨rfl, ?_⟩ | refine ⟨by decide, ?_⟩ | refine ⟨⟨by decide, by decide⟩, ?_⟩ | refine ⟨decide_eq_true (by omega), ?_⟩ | refine ⟨⟨decide_eq_true (by omega), decide_eq_true (by omega)⟩, ?_⟩)
  try (first | done | decide | exact decide_eq_true (by omega) | exact ⟨decide_eq_true (by omega), decide_eq_true (by omega)⟩)
  refine .of (c_i_SendAll c d (by omega) (by omega)) ?_
  try simp -implicitDefEqProofs (maxSteps := 1000000) only [go_sem, true_implies, false_implies]
  repeat (first | refine ⟨rfl, ?_⟩ | refine ⟨by decide, ?_⟩ | refine ⟨⟨by decide, by decide⟩, ?_⟩ | refine ⟨decide_eq_true (by omega), ?_⟩ | refine ⟨⟨decide_eq_true (by omega), decide_eq_true (by omega)⟩, ?_⟩)
  try (first | done | decide | exact decide_eq_true (by omega) | exact ⟨decide_eq_true (by omega), decide_eq_true (by omega)⟩)
  refine .of (c_s_SendAll c d (by omega) (by omega)) ?_
  try simp -implicitDefEqProofs (maxSteps := 1000000) only [go_sem, true_implies, false_implies]
  repeat (first | refine ⟨rfl, ?_⟩ | refine ⟨by decide, ?_⟩ | refine ⟨⟨by decide, by decide⟩, ?_⟩ | refine ⟨decide_eq_true (by omega), ?_⟩ | refine ⟨⟨decide_eq_true (by omega), decide_eq_true (by omega)⟩, ?_⟩)
  try (first | done | decide | exact decide_eq_true (by omega) | exact ⟨decide_eq_true (by omega), decide_eq_true (by omega)⟩)
  refine .of (c_l_sameMsgs (sendAll c d) (sendAll c d) (by have := sendAll_len d hcl (by decide); omega)) ?_
  try simp -implicitDefEqProofs (maxSteps := 1000000) only [go_sem, true_implies, false_implies, eL, bne_self_eq_false, beq_self_eq_true, msg_eqs', eM, xT, xF, xB]
  repeat (first | refine ⟨rfl, ?_⟩ | refine ⟨by decide, ?_⟩ | refine ⟨⟨by decide, by decide⟩, ?_⟩ | refine ⟨decide_eq_true (by omega), ?_⟩ | refine ⟨⟨decide_eq_true (by omega), decide_eq_true (by omega)⟩, ?_⟩)
  try (first | done | decide | exact decide_eq_true (by omega) | exact ⟨decide_eq_true (by omega), decide_eq_true (by omega)⟩)
  refine .of (c_i_NetOk n (by omega)) ?_
  try simp -implicitDefEqProofs (maxSteps := 1000000) only [go_sem, true_implies, false_implies]
  repeat (first | refine ⟨rfl, ?_⟩ | refine ⟨by decide, ?_⟩ | refine ⟨⟨by decide, by decide⟩, ?_⟩ | refine ⟨decide_eq_true (by omega), ?_⟩ | refine ⟨⟨decide_eq_true (by omega), decide_eq_true (by omega)⟩, ?_⟩)
  try (first | done | decide | exact decide_eq_true (by omega) | exact ⟨decide_eq_true (by omega), decide_eq_true (by omega)⟩)
  refine .of (c_s_NetOk n (by omega)) ?_
  try simp -implicitDefEqProofs (maxSteps := 1000000) only [go_sem, true_implies, false_implies, bne_self_eq_false, beq_self_eq_true, xT, xF, xB]
  repeat (first | refine ⟨rfl, ?_⟩ | refine ⟨by decide, ?_⟩ | refine ⟨⟨by decide, by decide⟩, ?_⟩ | refine ⟨decide_eq_true (by omega), ?_⟩ | refine ⟨⟨decide_eq_true (by omega), decide_eq_true (by omega)⟩, ?_⟩)
  try (first | done | decide | exact decide_eq_true (by omega) | exact ⟨decide_eq_true (by omega), decide_eq_true (by omega)⟩)
  cases ok
  · try simp -implicitDefEqProofs (maxSteps := 1000000) only [go_sem, true_implies, false_implies]
    repeat (first | refine ⟨rfl, ?_⟩ | refine ⟨by decide, ?_⟩ | refine ⟨⟨by decide, by decide⟩, ?_⟩ | refine ⟨decide_eq_true (by omega), ?_⟩ | refine ⟨⟨decide_eq_true (by omega), decide_eq_true (by omega)⟩, ?_⟩)
    try (first | done | decide | exact decide_eq_true (by omega) | exact ⟨decide_eq_true (by omega), decide_eq_true (by omega)⟩)
    refine .of (c_l_sameMsgs x l (by omega)) ?_
    try simp -implicitDefEqProofs (maxSteps := 1000000) only [go_sem, true_implies, false_implies, decide_eq_true (hno rfl)]
    repeat (first | refine ⟨rfl, ?_⟩ | refine ⟨by decide, ?_⟩ | refine ⟨⟨by decide, by decide⟩, ?_⟩ | refine ⟨decide_eq_true (by omega), ?_⟩ | refine ⟨⟨decide_eq_true (by omega), decide_eq_true (by omega)⟩, ?_⟩)
    try (first | done | decide | exact decide_eq_true (by omega) | exact ⟨decide_eq_true (by omega), decide_eq_true (by omega)⟩)
  · obtain ⟨f1, f2, f3, f4⟩ := nets_law hr
    have w1 : IntKind.i64.wrap ((x.length : Int) - 1) = (x.length : Int) - 1 := IntWalk.i64_in _ (by omega)
    have w2 : IntKind.i64.wrap ((x.length : Int) + 1) = (x.length : Int) + 1 := IntWalk.i64_in _ (by omega)
    have h1 := c_i_TakeOut x ((x.length : Int) - 1) (by omega)
    have h2 := c_i_Twice x ((x.length : Int) - 1) (by omega)
    rw [f3] at h1
    try simp -implicitDefEqProofs (maxSteps := 1000000) only [go_sem, true_implies, false_implies, x_l_FnNets_5, w1]
    repeat (first | refine ⟨rfl, ?_⟩ | refine ⟨by decide, ?_⟩ | refine ⟨⟨by decide, by decide⟩, ?_⟩ | refine ⟨decide_eq_true (by omega), ?_⟩ | refine ⟨⟨decide_eq_true (by omega), decide_eq_true (by omega)⟩, ?_⟩)
    try (first | done | decide | exact decide_eq_true (by omega) | exact ⟨decide_eq_true (by omega), decide_eq_true (by omega)⟩)
    refine .of (h1) ?_
    try simp -implicitDefEqProofs (maxSteps := 1000000) only [go_sem, true_implies, false_implies, w1]
    repeat (first | refine ⟨rfl, ?_⟩ | refine ⟨by decide, ?_⟩ | refine ⟨⟨by decide, by decide⟩, ?_⟩ | refine ⟨decide_eq_true (by omega), ?_⟩ | refine ⟨⟨decide_eq_true (by omega), decide_eq_true (by omega)⟩, ?_⟩)
    try (first | done | decide | exact decide_eq_true (by omega) | exact ⟨decide_eq_true (by omega), decide_eq_true (by omega)⟩)
    rcases f4 with ⟨f4, f5⟩ | ⟨E, f4, f5, f6⟩
    · rw [f4] at h2
      have e20 : ((x.length : Int) == 20) = true := by rw [f5]; rfl
      refine .of (h2) ?_
      try simp -implicitDefEqProofs (maxSteps := 1000000) only [go_sem, true_implies, false_implies, msg_eqs', eM, xT, xF, xB]
      repeat (first | refine ⟨rfl, ?_⟩ | refine ⟨by decide, ?_⟩ | refine ⟨⟨by decide, by decide⟩, ?_⟩ | refine ⟨decide_eq_true (by omega), ?_⟩ | refine ⟨⟨decide_eq_true (by omega), decide_eq_true (by omega)⟩, ?_⟩)
      try (first | done | decide | exact decide_eq_true (by omega) | exact ⟨decide_eq_true (by omega), decide_eq_true (by omega)⟩)
      refine .of (c_l_sameMsgs l l (by omega)) ?_
      try simp -implicitDefEqProofs (maxSteps := 1000000) only [go_sem, true_implies, false_implies, eL]
      repeat (first | refine ⟨rfl, ?_⟩ | refine ⟨by decide, ?_⟩ | refine ⟨⟨by decide, by decide⟩, ?_⟩ | refine ⟨decide_eq_true (by omega), ?_⟩ | refine ⟨⟨decide_eq_true (by omega), decide_eq_true (by omega)⟩, ?_⟩)
      try (first | done | decide | exact decide_eq_true (by omega) | exact ⟨decide_eq_true (by omega), decide_eq_true (by omega)⟩)
      refine .of (c_i_NetOk x (by omega)) ?_
      try simp -implicitDefEqProofs (maxSteps := 1000000) only [go_sem, true_implies, false_implies, f2, e20]
      repeat (first | refine ⟨rfl, ?_⟩ | refine ⟨by decide, ?_⟩ | refine ⟨⟨by decide, by decide⟩, ?_⟩ | refine ⟨decide_eq_true (by omega), ?_⟩ | refine ⟨⟨decide_eq_true (by omega), decide_eq_true (by omega)⟩, ?_⟩)
      try (first | done | decide | exact decide_eq_true (by omega) | exact ⟨decide_eq_true (by omega), decide_eq_true (by omega)⟩)
    · rw [f4] at h2
      have e21 : ((E.length : Int) == (x.length : Int) + 1) = true := by rw [f5]; simp
      have q1 : decide (x.length < E.length) = true := decide_eq_true (by omega)
      refine .of (h2) ?_
      try simp -implicitDefEqProofs (maxSteps := 1000000) only [go_sem, true_implies, false_implies, msg_eqs', eM, xT, xF, xB]
      repeat (first | refine ⟨rfl, ?_⟩ | refine ⟨by decide, ?_⟩ | refine ⟨⟨by decide, by decide⟩, ?_⟩ | refine ⟨decide_eq_true (by omega), ?_⟩ | refine ⟨⟨decide_eq_true (by omega), decide_eq_true (by omega)⟩, ?_⟩)
      try (first | done | decide | exact decide_eq_true (by omega) | exact ⟨decide_eq_true (by omega), decide_eq_true (by omega)⟩)
      refine .of (c_l_sameMsgs l l (by omega)) ?_
      try simp -implicitDefEqProofs (maxSteps := 1000000) only [go_sem, true_implies, false_implies, eL]
      repeat (first | refine ⟨rfl, ?_⟩ | refine ⟨by decide, ?_⟩ | refine ⟨⟨by decide, by decide⟩, ?_⟩ | refine ⟨decide_eq_true (by omega), ?_⟩ | refine ⟨⟨decide_eq_true (by omega), decide_eq_true (by omega)⟩, ?_⟩)
      try (first | done | decide | exact decide_eq_true (by omega) | exact ⟨decide_eq_true (by omega), decide_eq_true (by omega)⟩)
      refine .of (c_i_NetOk x (by omega)) ?_
      try simp -implicitDefEqProofs (maxSteps := 1000000) only [go_sem, true_implies, false_implies, f2, w2, e21, f6, q1, msg_eqs', eM, xT, xF, xB]
      repeat (first | refine ⟨rfl, ?_⟩ | refine ⟨by decide, ?_⟩ | refine ⟨⟨by decide, by decide⟩, ?_⟩ | refine ⟨decide_eq_true (by omega), ?_⟩ | refine ⟨⟨decide_eq_true (by omega), decide_eq_true (by omega)⟩, ?_⟩)
      try (first | done | decide | exact decide_eq_true (by omega) | exact ⟨decide_eq_true (by omega), decide_eq_true (by omega)⟩)
end Go.X

