/- Texts: CT CUa CUb CUc CUe CUf CUg CUh CW_FnClients. -/
import Derived.Test.YteefgdjifjkogaaCe
import Derived.Test.YteefgdjifjkogaaCd
set_option linter.unusedVariables false
set_option linter.unusedSimpArgs false
/- T -/
namespace Go.X
set_option maxRecDepth 100000
set_option maxHeartbeats 8000000
def signOk (n : Int) : Bool := win n 0 1114111 && !win n 55296 57343
def enc8 (n : Nat) : List UInt8 :=
  if n ≤ 127 then [UInt8.ofNat n] else if n ≤ 2047 then [UInt8.ofNat (192 + n / 64), UInt8.ofNat (128 + n % 64)]
  else if n ≤ 65535 then [UInt8.ofNat (224 + n / 4096), UInt8.ofNat (128 + n / 64 % 64), UInt8.ofNat (128 + n % 64)]
  else [UInt8.ofNat (240 + n / 262144), UInt8.ofNat (128 + n / 4096 % 64), UInt8.ofNat (128 + n / 64 % 64), UInt8.ofNat (128 + n % 64)]
def putSign (b : List UInt8) (n : Int) : List UInt8 := if signOk n = true then b ++ enc8 n.toNat else b
theorem enc8_len (n : Nat) : 0 < (enc8 n).length ∧ (enc8 n).length ≤ 4 := by
  unfold enc8
  split
  · simp
  · split
    · simp
    · split <;> simp
theorem putSign_len (b : List UInt8) (n : Int) : (putSign b n).length ≤ b.length + 4 := by
  unfold putSign
  split
  · rw [List.length_append]; have := (enc8_len n.toNat).2; omega
  · omega
theorem signOk_in {n : Int} (h : signOk n = true) : 0 ≤ n ∧ n ≤ 1114111 ∧ ¬ (55296 ≤ n ∧ n ≤ 57343) := by
  simp only [signOk, win, Bool.and_eq_true, Bool.not_eq_true', decide_eq_true_eq, Bool.and_eq_false_imp, decide_eq_false_iff_not] at h
  omega
theorem or_hd (c i a : Nat) (hc : c = 2 ^ i * a) {x : Nat} (hx : x < 2 ^ i) (hb : c < 2 ^ 60 ∧ x < 2 ^ 60) : orK .i64 (c : Int) (x : Int) = ((c + x : Nat) : Int) := by
  rw [or_nat c x (by omega) (by omega), hc, Nat.two_pow_add_eq_or_of_lt hx]
theorem mkU_nat (k : Nat) : mkU (k : Int) = UInt8.ofNat k := by
  have : ((k : Int) % 256).toNat = k % 256 := by omega
  rw [mkU, this]
  apply UInt8.toNat_inj.1
  rw [UInt8.toNat_ofNat', UInt8.toNat_ofNat']
  omega
theorem and63 (m : Nat) (hm : m < 2 ^ 60) : andK .i64 (m : Int) 63 = ((m % 64 : Nat) : Int) := by
  have := and_nat m 63 (by omega) (by decide)
  rw [Nat.and_two_pow_sub_one_eq_mod m 6] at this
  exact this
theorem fdivN (m k : Nat) : (m : Int).fdiv (k : Int) = ((m / k : Nat) : Int) := by
  rw [Int.fdiv_eq_ediv_of_nonneg _ (by omega)]
  rfl
theorem wrap8 (k : Nat) (h : k < 256) : (k : Int) = ((UInt8.ofNat k).toNat : Int) := by
  rw [UInt8.toNat_ofNat']
  omega
theorem or8 (c i a : Nat) (hc : c = 2 ^ i * a) {x : Nat} (hx : x < 2 ^ i) (hb : c + x < 256) : orK .u8 (c : Int) (x : Int) = ((UInt8.ofNat (c + x)).toNat : Int) := by
  rw [orK_def]
  show IntKind.u8.wrap ((BitVec.ofInt 8 (c : Int) ||| BitVec.ofInt 8 (x : Int)).toNat) = _
  have h1 : (BitVec.ofInt 8 (c : Int)).toNat = c := by rw [BitVec.toNat_ofInt]; omega
  have h2 : (BitVec.ofInt 8 (x : Int)).toNat = x := by rw [BitVec.toNat_ofInt]; omega
  have h3 : c ||| x = c + x := by rw [hc, ← Nat.two_pow_add_eq_or_of_lt hx]
  rw [BitVec.toNat_or, h1, h2, h3, ← wrap8 _ hb, IntKind.wrap_u8]
  omega
theorem and8 (m : Nat) (hm : m < 256) : andK .u8 (m : Int) 63 = ((m % 64 : Nat) : Int) := by
  rw [andK_def]
  show IntKind.u8.wrap ((BitVec.ofInt 8 (m : Int) &&& BitVec.ofInt 8 63).toNat) = _
  have h1 : (BitVec.ofInt 8 (m : Int)).toNat = m := by rw [BitVec.toNat_ofInt]; omega
  have h2 : (BitVec.ofInt 8 63).toNat = 2 ^ 6 - 1 := by decide
  rw [BitVec.toNat_and, h1, h2, Nat.and_two_pow_sub_one_eq_mod, IntKind.wrap_u8]
  omega
theorem mkU_toNat (k : Nat) : (mkU (k : Int)).toNat = k % 256 := by rw [mkU_nat, UInt8.toNat_ofNat']
def x_s_SignOk : FnX := ⟨10, [.tmp 2],
  .seq (.reg [⟨none, some 2, 2, .mv (.k (.one (.pv (.bool false))))⟩])
 (.seq (.reg [⟨none, some 3, 3, .mv (.t 0)⟩,
   ⟨none, some 4, 4, .call 59 [0, 0, 0] [(.t 3), (.k (.one (.pv (.int .i64 0)))), (.k (.one (.pv (.int .i64 1114111))))]⟩,
   ⟨none, some 5, 5, .mv (.t 4)⟩,
   ⟨(some (5, true)), some 6, 6, .mv (.t 0)⟩,
   ⟨(some (5, true)), some 7, 7, .call 59 [0, 0, 0] [(.t 6), (.k (.one (.pv (.int .i64 55296)))), (.k (.one (.pv (.int .i64 57343))))]⟩,
   ⟨(some (5, true)), some 8, 8, .not (.t 7)⟩,
   ⟨none, some 9, 9, .pick (.t 5) (.t 8) (.k (.one (.pv (.bool false))))⟩,
   ⟨none, some 2, 2, .mv (.t 9)⟩])
 (.ret))⟩
abbrev C_s_SignOk (Te : Nat → List AV → Res → Prop) : Prop := ∀ (n : Int), Te 83 [.one (iT n)] ⟨[.one (bT (signOk n))], [[iT n]]⟩
theorem r_s_SignOk {Te : Nat → List AV → Res → Prop} (c_s_l1In : C_s_l1In Te) : ∀ (n : Int), RunFn Te x_s_SignOk [.one (iT n)] ⟨[.one (bT (signOk n))], [[iT n]]⟩ := by
  intro n
  refine ⟨by simp -implicitDefEqProofs (maxSteps := 1000000) only [x_s_SignOk, go_sem], ?_⟩
  simp -implicitDefEqProofs (maxSteps := 1000000) only [x_s_SignOk, go_sem, true_implies, false_implies, signOk]
  repeat (first | refine ⟨rfl, ?_⟩ | refine ⟨by decide, ?_⟩ | refine ⟨⟨by decide, by decide⟩, ?_⟩ | refine ⟨decide_eq_true (by omega), ?_⟩ | refine ⟨⟨decide_eq_true (by omega), decide_eq_true (by omega)⟩, ?_⟩)
  try (first | done | decide | exact decide_eq_true (by omega) | exact ⟨decide_eq_true (by omega), decide_eq_true (by omega)⟩)
  refine .of (c_s_l1In _ _ _) ?_
  try simp -implicitDefEqProofs (maxSteps := 1000000) only [go_sem, true_implies, false_implies]
  repeat (first | refine ⟨rfl, ?_⟩ | refine ⟨by decide, ?_⟩ | refine ⟨⟨by decide, by decide⟩, ?_⟩ | refine ⟨decide_eq_true (by omega), ?_⟩ | refine ⟨⟨decide_eq_true (by omega), decide_eq_true (by omega)⟩, ?_⟩)
  try (first | done | decide | exact decide_eq_true (by omega) | exact ⟨decide_eq_true (by omega), decide_eq_true (by omega)⟩)
  cases g1 : win n 0 1114111
  · try simp -implicitDefEqProofs (maxSteps := 1000000) only [go_sem, true_implies, false_implies]
    repeat (first | refine ⟨rfl, ?_⟩ | refine ⟨by decide, ?_⟩ | refine ⟨⟨by decide, by decide⟩, ?_⟩ | refine ⟨decide_eq_true (by omega), ?_⟩ | refine ⟨⟨decide_eq_true (by omega), decide_eq_true (by omega)⟩, ?_⟩)
    try (first | done | decide | exact decide_eq_true (by omega) | exact ⟨decide_eq_true (by omega), decide_eq_true (by omega)⟩)
  · try simp -implicitDefEqProofs (maxSteps := 1000000) only [go_sem, true_implies, false_implies]
    repeat (first | refine ⟨rfl, ?_⟩ | refine ⟨by decide, ?_⟩ | refine ⟨⟨by decide, by decide⟩, ?_⟩ | refine ⟨decide_eq_true (by omega), ?_⟩ | refine ⟨⟨decide_eq_true (by omega), decide_eq_true (by omega)⟩, ?_⟩)
    try (first | done | decide | exact decide_eq_true (by omega) | exact ⟨decide_eq_true (by omega), decide_eq_true (by omega)⟩)
    refine .of (c_s_l1In _ _ _) ?_
    try simp -implicitDefEqProofs (maxSteps := 1000000) only [go_sem, true_implies, false_implies]
    repeat (first | refine ⟨rfl, ?_⟩ | refine ⟨by decide, ?_⟩ | refine ⟨⟨by decide, by decide⟩, ?_⟩ | refine ⟨decide_eq_true (by omega), ?_⟩ | refine ⟨⟨decide_eq_true (by omega), decide_eq_true (by omega)⟩, ?_⟩)
    try (first | done | decide | exact decide_eq_true (by omega) | exact ⟨decide_eq_true (by omega), decide_eq_true (by omega)⟩)
def x_s_PutSign : FnX := ⟨76, [.tmp 4],
  .seq (.reg [⟨none, some 4, 4, .mv (.k (.one (.nils 1)))⟩])
 (.seq (.reg [⟨none, some 6, 6, .bslice 1 []⟩,
   ⟨none, some 7, 7, .mv (.t 0)⟩,
   ⟨none, some 8, 8, .app 1 1 (.t 6) (.t 7)⟩,
   ⟨none, some 5, 5, .mv (.t 8)⟩])
 (.seq (.block 0 (.seq (.reg [⟨none, some 10, 10, .mv (.t 1)⟩,
   ⟨none, some 11, 11, .call 83 [0] [(.t 10)]⟩,
   ⟨none, some 12, 12, .not (.t 11)⟩,
   ⟨none, some 9, 9, .mv (.t 12)⟩])
 (.cond 9 (.seq (.reg [⟨none, some 13, 13, .mv (.t 5)⟩,
   ⟨none, some 4, 4, .mv (.t 13)⟩])
 (.ret)) (.seq (.reg [⟨none, some 15, 15, .mv (.t 1)⟩,
   ⟨none, some 16, 16, .bin .leq (.t 15) (.k (.one (.pv (.int .i64 127))))⟩,
   ⟨none, some 14, 14, .mv (.t 16)⟩])
 (.cond 14 (.seq (.reg [⟨none, some 17, 17, .mv (.t 5)⟩,
   ⟨none, some 18, 18, .mv (.t 1)⟩,
   ⟨none, some 19, 19, .conv (.int .u8) (.t 18)⟩,
   ⟨none, some 20, 20, .bslice 1 [(.t 19)]⟩,
   ⟨none, some 21, 21, .app 1 1 (.t 17) (.t 20)⟩,
   ⟨none, some 4, 4, .mv (.t 21)⟩])
 (.ret)) (.seq (.reg [⟨none, some 23, 23, .mv (.t 1)⟩,
   ⟨none, some 24, 24, .bin .leq (.t 23) (.k (.one (.pv (.int .i64 2047))))⟩,
   ⟨none, some 22, 22, .mv (.t 24)⟩])
 (.cond 22 (.seq (.reg [⟨none, some 25, 25, .mv (.t 5)⟩,
   ⟨none, some 26, 26, .mv (.t 1)⟩,
   ⟨none, some 27, 27, .bin .shr (.t 26) (.k (.one (.pv (.int .u64 6))))⟩,
   ⟨none, some 28, 28, .bin .or (.k (.one (.pv (.int .i64 192)))) (.t 27)⟩,
   ⟨none, some 29, 29, .conv (.int .u8) (.t 28)⟩,
   ⟨none, some 30, 30, .mv (.t 1)⟩,
   ⟨none, some 31, 31, .bin .and (.t 30) (.k (.one (.pv (.int .i64 63))))⟩,
   ⟨none, some 32, 32, .bin .or (.k (.one (.pv (.int .i64 128)))) (.t 31)⟩,
   ⟨none, some 33, 33, .conv (.int .u8) (.t 32)⟩,
   ⟨none, some 34, 34, .bslice 1 [(.t 29), (.t 33)]⟩,
   ⟨none, some 35, 35, .app 1 1 (.t 25) (.t 34)⟩,
   ⟨none, some 4, 4, .mv (.t 35)⟩])
 (.ret)) (.seq (.reg [⟨none, some 37, 37, .mv (.t 1)⟩,
   ⟨none, some 38, 38, .bin .leq (.t 37) (.k (.one (.pv (.int .i64 65535))))⟩,
   ⟨none, some 36, 36, .mv (.t 38)⟩])
 (.cond 36 (.seq (.reg [⟨none, some 39, 39, .mv (.t 5)⟩,
   ⟨none, some 40, 40, .mv (.t 1)⟩,
   ⟨none, some 41, 41, .bin .shr (.t 40) (.k (.one (.pv (.int .u64 12))))⟩,
   ⟨none, some 42, 42, .bin .or (.k (.one (.pv (.int .i64 224)))) (.t 41)⟩,
   ⟨none, some 43, 43, .conv (.int .u8) (.t 42)⟩,
   ⟨none, some 44, 44, .mv (.t 1)⟩,
   ⟨none, some 45, 45, .bin .shr (.t 44) (.k (.one (.pv (.int .u64 6))))⟩,
   ⟨none, some 46, 46, .bin .and (.t 45) (.k (.one (.pv (.int .i64 63))))⟩,
   ⟨none, some 47, 47, .bin .or (.k (.one (.pv (.int .i64 128)))) (.t 46)⟩,
   ⟨none, some 48, 48, .conv (.int .u8) (.t 47)⟩,
   ⟨none, some 49, 49, .mv (.t 1)⟩,
   ⟨none, some 50, 50, .bin .and (.t 49) (.k (.one (.pv (.int .i64 63))))⟩,
   ⟨none, some 51, 51, .bin .or (.k (.one (.pv (.int .i64 128)))) (.t 50)⟩,
   ⟨none, some 52, 52, .conv (.int .u8) (.t 51)⟩,
   ⟨none, some 53, 53, .bslice 1 [(.t 43), (.t 48), (.t 52)]⟩,
   ⟨none, some 54, 54, .app 1 1 (.t 39) (.t 53)⟩,
   ⟨none, some 4, 4, .mv (.t 54)⟩])
 (.ret)) (.skip))))))))))
 (.seq (.reg [⟨none, some 55, 55, .mv (.t 5)⟩,
   ⟨none, some 56, 56, .mv (.t 1)⟩,
   ⟨none, some 57, 57, .bin .shr (.t 56) (.k (.one (.pv (.int .u64 18))))⟩,
   ⟨none, some 58, 58, .bin .or (.k (.one (.pv (.int .i64 240)))) (.t 57)⟩,
   ⟨none, some 59, 59, .conv (.int .u8) (.t 58)⟩,
   ⟨none, some 60, 60, .mv (.t 1)⟩,
   ⟨none, some 61, 61, .bin .shr (.t 60) (.k (.one (.pv (.int .u64 12))))⟩,
   ⟨none, some 62, 62, .bin .and (.t 61) (.k (.one (.pv (.int .i64 63))))⟩,
   ⟨none, some 63, 63, .bin .or (.k (.one (.pv (.int .i64 128)))) (.t 62)⟩,
   ⟨none, some 64, 64, .conv (.int .u8) (.t 63)⟩,
   ⟨none, some 65, 65, .mv (.t 1)⟩,
   ⟨none, some 66, 66, .bin .shr (.t 65) (.k (.one (.pv (.int .u64 6))))⟩,
   ⟨none, some 67, 67, .bin .and (.t 66) (.k (.one (.pv (.int .i64 63))))⟩,
   ⟨none, some 68, 68, .bin .or (.k (.one (.pv (.int .i64 128)))) (.t 67)⟩,
   ⟨none, some 69, 69, .conv (.int .u8) (.t 68)⟩,
   ⟨none, some 70, 70, .mv (.t 1)⟩,
   ⟨none, some 71, 71, .bin .and (.t 70) (.k (.one (.pv (.int .i64 63))))⟩,
   ⟨none, some 72, 72, .bin .or (.k (.one (.pv (.int .i64 128)))) (.t 71)⟩,
   ⟨none, some 73, 73, .conv (.int .u8) (.t 72)⟩,
   ⟨none, some 74, 74, .bslice 1 [(.t 59), (.t 64), (.t 69), (.t 73)]⟩,
   ⟨none, some 75, 75, .app 1 1 (.t 55) (.t 74)⟩,
   ⟨none, some 4, 4, .mv (.t 75)⟩])
 (.ret))))⟩
abbrev C_s_PutSign (Te : Nat → List AV → Res → Prop) : Prop := ∀ (b : List UInt8) (n : Int) (hb : b.length ≤ 2 ^ 30), Te 74 [.one (slT false 1 uR b), .one (iT n)] ⟨[.one (slT true 1 uR (putSign b n))], [[slT false 1 uR b], [iT n]]⟩
theorem r_s_PutSign {Te : Nat → List AV → Res → Prop} (c_s_SignOk : C_s_SignOk Te) : ∀ (b : List UInt8) (n : Int) (hb : b.length ≤ 2 ^ 30), RunFn Te x_s_PutSign [.one (slT false 1 uR b), .one (iT n)] ⟨[.one (slT true 1 uR (putSign b n))], [[slT false 1 uR b], [iT n]]⟩ := by
  intro b n hb
  refine ⟨by simp -implicitDefEqProofs (maxSteps := 1000000) only [x_s_PutSign, go_sem], ?_⟩
  cases hn : signOk n
  · simp -implicitDefEqProofs (maxSteps := 1000000) only [x_s_PutSign, go_sem, true_implies, false_implies]
    repeat (first | refine ⟨rfl, ?_⟩ | refine ⟨by decide, ?_⟩ | refine ⟨⟨by decide, by decide⟩, ?_⟩ | refine ⟨decide_eq_true (by omega), ?_⟩ | refine ⟨⟨decide_eq_true (by omega), decide_eq_true (by omega)⟩, ?_⟩)
    try (first | done | decide | exact decide_eq_true (by omega) | exact ⟨decide_eq_true (by omega), decide_eq_true (by omega)⟩)
    refine .of (c_s_SignOk _) ?_
    try simp -implicitDefEqProofs (maxSteps := 1000000) only [go_sem, true_implies, false_implies, putSign, hn, if_false]
    repeat (first | refine ⟨rfl, ?_⟩ | refine ⟨by decide, ?_⟩ | refine ⟨⟨by decide, by decide⟩, ?_⟩ | refine ⟨decide_eq_true (by omega), ?_⟩ | refine ⟨⟨decide_eq_true (by omega), decide_eq_true (by omega)⟩, ?_⟩)
    try (first | done | decide | exact decide_eq_true (by omega) | exact ⟨decide_eq_true (by omega), decide_eq_true (by omega)⟩)
    try rfl
  obtain ⟨h0, h1, _⟩ := signOk_in hn
  obtain ⟨m, rfl⟩ : ∃ m : Nat, n = m := ⟨n.toNat, by omega⟩
  have ep : putSign b (m : Int) = b ++ enc8 m := by simp only [putSign, hn, if_true, Int.toNat_natCast]
  have d6 : (m : Int).fdiv (2 ^ 6) = ((m / 64 : Nat) : Int) := fdivN m 64
  have d12 : (m : Int).fdiv (2 ^ 12) = ((m / 4096 : Nat) : Int) := fdivN m 4096
  have d18 : (m : Int).fdiv (2 ^ 18) = ((m / 262144 : Nat) : Int) := fdivN m 262144
  have a0 := and63 m (by omega)
  have a6 := and63 (m / 64) (by omega)
  have a12 := and63 (m / 4096) (by omega)
  have o0 : orK .i64 128 ((m % 64 : Nat) : Int) = ((128 + m % 64 : Nat) : Int) := or_hd 128 6 2 rfl (by omega) (by omega)
  have o6 : orK .i64 128 ((m / 64 % 64 : Nat) : Int) = ((128 + m / 64 % 64 : Nat) : Int) := or_hd 128 6 2 rfl (by omega) (by omega)
  have o12 : orK .i64 128 ((m / 4096 % 64 : Nat) : Int) = ((128 + m / 4096 % 64 : Nat) : Int) := or_hd 128 6 2 rfl (by omega) (by omega)
  cases q : decide ((m : Int) ≤ 127)
  · have hq : ¬ m ≤ 127 := by simp only [decide_eq_false_iff_not] at q; omega
    cases q2 : decide ((m : Int) ≤ 2047)
    · have hq2 : ¬ m ≤ 2047 := by simp only [decide_eq_false_iff_not] at q2; omega
      cases q3 : decide ((m : Int) ≤ 65535)
      · have hq3 : ¬ m ≤ 65535 := by simp only [decide_eq_false_iff_not] at q3; omega
        have t : orK .i64 240 ((m / 262144 : Nat) : Int) = ((240 + m / 262144 : Nat) : Int) := or_hd 240 3 30 rfl (by omega) (by omega)
        have ee : List.take (b.length + 4) (List.map uR b ++ [[uT (mkU ((240 + m / 262144 : Nat) : Int))], [uT (mkU ((128 + m / 4096 % 64 : Nat) : Int))], [uT (mkU ((128 + m / 64 % 64 : Nat) : Int))], [uT (mkU ((128 + m % 64 : Nat) : Int))]]) = List.map uR (b ++ enc8 m) := by
          rw [List.take_of_length_le (by simp), mkU_nat, mkU_nat, mkU_nat, mkU_nat]
          simp only [enc8, if_neg hq, if_neg hq2, if_neg hq3, List.map_append, List.map_cons, List.map_nil]
        simp -implicitDefEqProofs (maxSteps := 1000000) only [x_s_PutSign, go_sem, true_implies, false_implies]
        repeat (first | refine ⟨rfl, ?_⟩ | refine ⟨by decide, ?_⟩ | refine ⟨⟨by decide, by decide⟩, ?_⟩ | refine ⟨decide_eq_true (by omega), ?_⟩ | refine ⟨⟨decide_eq_true (by omega), decide_eq_true (by omega)⟩, ?_⟩)
        try (first | done | decide | exact decide_eq_true (by omega) | exact ⟨decide_eq_true (by omega), decide_eq_true (by omega)⟩)
        refine .of (c_s_SignOk _) ?_
        try simp -implicitDefEqProofs (maxSteps := 1000000) only [go_sem, true_implies, false_implies, hn, ep, q, q2, q3, show Nat.min 6 64 = 6 from rfl, show Nat.min 12 64 = 12 from rfl, show Nat.min 18 64 = 18 from rfl, d6, d12, d18, a0, a6, a12, o0, o6, o12, t, mkU_wrap, ee]
        repeat (first | refine ⟨rfl, ?_⟩ | refine ⟨by decide, ?_⟩ | refine ⟨⟨by decide, by decide⟩, ?_⟩ | refine ⟨decide_eq_true (by omega), ?_⟩ | refine ⟨⟨decide_eq_true (by omega), decide_eq_true (by omega)⟩, ?_⟩)
        try (first | done | decide | exact decide_eq_true (by omega) | exact ⟨decide_eq_true (by omega), decide_eq_true (by omega)⟩)
      · have hq3 : m ≤ 65535 := by simp only [decide_eq_true_eq] at q3; omega
        have t : orK .i64 224 ((m / 4096 : Nat) : Int) = ((224 + m / 4096 : Nat) : Int) := or_hd 224 4 14 rfl (by omega) (by omega)
        have ee : List.take (b.length + 3) (List.map uR b ++ [[uT (mkU ((224 + m / 4096 : Nat) : Int))], [uT (mkU ((128 + m / 64 % 64 : Nat) : Int))], [uT (mkU ((128 + m % 64 : Nat) : Int))]]) = List.map uR (b ++ enc8 m) := by
          rw [List.take_of_length_le (by simp), mkU_nat, mkU_nat, mkU_nat]
          simp only [enc8, if_neg hq, if_neg hq2, if_pos hq3, List.map_append, List.map_cons, List.map_nil]
        simp -implicitDefEqProofs (maxSteps := 1000000) only [x_s_PutSign, go_sem, true_implies, false_implies]
        repeat (first | refine ⟨rfl, ?_⟩ | refine ⟨by decide, ?_⟩ | refine ⟨⟨by decide, by decide⟩, ?_⟩ | refine ⟨decide_eq_true (by omega), ?_⟩ | refine ⟨⟨decide_eq_true (by omega), decide_eq_true (by omega)⟩, ?_⟩)
        try (first | done | decide | exact decide_eq_true (by omega) | exact ⟨decide_eq_true (by omega), decide_eq_true (by omega)⟩)
        refine .of (c_s_SignOk _) ?_
        try simp -implicitDefEqProofs (maxSteps := 1000000) only [go_sem, true_implies, false_implies, hn, ep, q, q2, q3, show Nat.min 6 64 = 6 from rfl, show Nat.min 12 64 = 12 from rfl, d6, d12, a0, a6, o0, o6, t, mkU_wrap, ee]
        repeat (first | refine ⟨rfl, ?_⟩ | refine ⟨by decide, ?_⟩ | refine ⟨⟨by decide, by decide⟩, ?_⟩ | refine ⟨decide_eq_true (by omega), ?_⟩ | refine ⟨⟨decide_eq_true (by omega), decide_eq_true (by omega)⟩, ?_⟩)
        try (first | done | decide | exact decide_eq_true (by omega) | exact ⟨decide_eq_true (by omega), decide_eq_true (by omega)⟩)
    · have hq2 : m ≤ 2047 := by simp only [decide_eq_true_eq] at q2; omega
      have t : orK .i64 192 ((m / 64 : Nat) : Int) = ((192 + m / 64 : Nat) : Int) := or_hd 192 6 3 rfl (by omega) (by omega)
      have ee : List.take (b.length + 2) (List.map uR b ++ [[uT (mkU ((192 + m / 64 : Nat) : Int))], [uT (mkU ((128 + m % 64 : Nat) : Int))]]) = List.map uR (b ++ enc8 m) := by
        rw [List.take_of_length_le (by simp), mkU_nat, mkU_nat]
        simp only [enc8, if_neg hq, if_pos hq2, List.map_append, List.map_cons, List.map_nil]
      simp -implicitDefEqProofs (maxSteps := 1000000) only [x_s_PutSign, go_sem, true_implies, false_implies]
      repeat (first | refine ⟨rfl, ?_⟩ | refine ⟨by decide, ?_⟩ | refine ⟨⟨by decide, by decide⟩, ?_⟩ | refine ⟨decide_eq_true (by omega), ?_⟩ | refine ⟨⟨decide_eq_true (by omega), decide_eq_true (by omega)⟩, ?_⟩)
      try (first | done | decide | exact decide_eq_true (by omega) | exact ⟨decide_eq_true (by omega), decide_eq_true (by omega)⟩)
      refine .of (c_s_SignOk _) ?_
      try simp -implicitDefEqProofs (maxSteps := 1000000) only [go_sem, true_implies, false_implies, hn, ep, q, q2, show Nat.min 6 64 = 6 from rfl, d6, a0, o0, t, mkU_wrap, ee]
      repeat (first | refine ⟨rfl, ?_⟩ | refine ⟨by decide, ?_⟩ | refine ⟨⟨by decide, by decide⟩, ?_⟩ | refine ⟨decide_eq_true (by omega), ?_⟩ | refine ⟨⟨decide_eq_true (by omega), decide_eq_true (by omega)⟩, ?_⟩)
      try (first | done | decide | exact decide_eq_true (by omega) | exact ⟨decide_eq_true (by omega), decide_eq_true (by omega)⟩)
  · have hq : m ≤ 127 := by simp only [decide_eq_true_eq] at q; omega
    have ee : List.take (b.length + 1) (List.map uR b ++ [[uT (mkU (m : Int))]]) = List.map uR (b ++ enc8 m) := by
      rw [List.take_of_length_le (by simp), mkU_nat]
      simp only [enc8, if_pos hq, List.map_append, List.map_cons, List.map_nil]
    simp -implicitDefEqProofs (maxSteps := 1000000) only [x_s_PutSign, go_sem, true_implies, false_implies]
    repeat (first | refine ⟨rfl, ?_⟩ | refine ⟨by decide, ?_⟩ | refine ⟨⟨by decide, by decide⟩, ?_⟩ | refine ⟨decide_eq_true (by omega), ?_⟩ | refine ⟨⟨decide_eq_true (by omega), decide_eq_true (by omega)⟩, ?_⟩)
    try (first | done | decide | exact decide_eq_true (by omega) | exact ⟨decide_eq_true (by omega), decide_eq_true (by omega)⟩)
    refine .of (c_s_SignOk _) ?_
    try simp -implicitDefEqProofs (maxSteps := 1000000) only [go_sem, true_implies, false_implies, hn, ep, q, mkU_wrap, ee]
    repeat (first | refine ⟨rfl, ?_⟩ | refine ⟨by decide, ?_⟩ | refine ⟨⟨by decide, by decide⟩, ?_⟩ | refine ⟨decide_eq_true (by omega), ?_⟩ | refine ⟨⟨decide_eq_true (by omega), decide_eq_true (by omega)⟩, ?_⟩)
    try (first | done | decide | exact decide_eq_true (by omega) | exact ⟨decide_eq_true (by omega), decide_eq_true (by omega)⟩)
end Go.X

/- Ua -/
namespace Go.X
set_option maxRecDepth 100000
set_option maxHeartbeats 8000000
theorem str_small {l : List ByteArray} {r : ByteArray} (n : Nat) (hr : r ∈ l) (h : l.all (fun r => decide (r.size ≤ n)) = true) : r.size ≤ n := of_decide_eq_true (List.all_eq_true.1 h r hr)
theorem bytesOf_uL (l : List UInt8) : bytesOf (l.map uR) = l := by
  simp only [bytesOf, List.map_map, Function.comp_def, List.headD_cons, byteOf]
  conv => rhs; rw [← List.map_id l]
  refine List.map_congr_left fun a _ => ?_
  simp
theorem areBytes_uL : ∀ l : List UInt8, areBytes (l.map uR) = true
  | [] => rfl
  | a :: l => by simp only [List.map_cons, areBytes, isByte, areBytes_uL l, Bool.and_true]
def x_s_l1Name : FnX := ⟨6, [.tmp 2],
  .seq (.reg [⟨none, some 2, 2, .mv (.k (.one (.pv (.string ⟨#[]⟩))))⟩])
 (.seq (.reg [⟨none, some 3, 3, .mv (.t 0)⟩,
   ⟨none, some 4, 4, .bslice 1 [(.k (.one (.pv (.string ⟨#[97]⟩)))), (.k (.one (.pv (.string ⟨#[98]⟩)))), (.k (.one (.pv (.string ⟨#[99]⟩)))), (.k (.one (.pv (.string ⟨#[100]⟩)))), (.k (.one (.pv (.string ⟨#[101, 53]⟩))))]⟩,
   ⟨none, some 5, 5, .call 72 [5, 1] [(.t 3), (.t 4)]⟩,
   ⟨none, some 2, 2, .mv (.t 5)⟩])
 (.ret))⟩
abbrev C_s_l1Name (Te : Nat → List AV → Res → Prop) : Prop := ∀ (c : CurV) (hc : c.ok), ∃ (r : ByteArray) (d : CurV), (r.size ≤ 6 ∧ d.ok) ∧ Te 43 [.ptr c.enc] ⟨[.one (sT r)], [d.enc]⟩
theorem r_s_l1Name {Te : Nat → List AV → Res → Prop} (c_s_l1Str : C_s_l1Str Te) : ∀ (c : CurV) (hc : c.ok), ∃ r0, (∃ (r : ByteArray) (d : CurV), (r.size ≤ 6 ∧ d.ok) ∧ r0 = (⟨[.one (sT r)], [d.enc]⟩ : Res)) ∧ RunFn Te x_s_l1Name [.ptr c.enc] r0 := by
  intro c hc
  refine some_of (by simp -implicitDefEqProofs (maxSteps := 1000000) only [x_s_l1Name, go_sem]) (by rfl) ?_
  simp -implicitDefEqProofs (maxSteps := 1000000) only [x_s_l1Name, go_sem, true_implies, false_implies]
  repeat (first | refine ⟨rfl, ?_⟩ | refine ⟨by decide, ?_⟩ | refine ⟨⟨by decide, by decide⟩, ?_⟩ | refine ⟨decide_eq_true (by omega), ?_⟩ | refine ⟨⟨decide_eq_true (by omega), decide_eq_true (by omega)⟩, ?_⟩)
  try (first | done | decide | exact decide_eq_true (by omega) | exact ⟨decide_eq_true (by omega), decide_eq_true (by omega)⟩)
  obtain ⟨r, d, ⟨hr, hd⟩, ht⟩ := c_s_l1Str c [⟨#[97]⟩, ⟨#[98]⟩, ⟨#[99]⟩, ⟨#[100]⟩, ⟨#[101, 53]⟩] hc (by decide)
  refine .of (ht) ?_
  try simp -implicitDefEqProofs (maxSteps := 1000000) only [go_sem, true_implies, false_implies]
  repeat (first | refine ⟨rfl, ?_⟩ | refine ⟨by decide, ?_⟩ | refine ⟨⟨by decide, by decide⟩, ?_⟩ | refine ⟨decide_eq_true (by omega), ?_⟩ | refine ⟨⟨decide_eq_true (by omega), decide_eq_true (by omega)⟩, ?_⟩)
  try (first | done | decide | exact decide_eq_true (by omega) | exact ⟨decide_eq_true (by omega), decide_eq_true (by omega)⟩)
  exact ⟨r, d, ⟨str_small 6 hr (by decide), hd⟩, rfl⟩
def x_s_l1Num : FnX := ⟨6, [.tmp 2],
  .seq (.reg [⟨none, some 2, 2, .mv (.k (.one (.pv (.int .i64 0))))⟩])
 (.seq (.reg [⟨none, some 3, 3, .mv (.t 0)⟩,
   ⟨none, some 4, 4, .bslice 1 [(.k (.one (.pv (.int .i64 0)))), (.k (.one (.pv (.int .i64 1)))), (.k (.one (.pv (.int .i64 7)))), (.k (.one (.pv (.int .i64 255)))), (.k (.one (.pv (.int .i64 256)))), (.k (.one (.pv (.int .i64 4660)))), (.k (.one (.pv (.int .i64 65535)))), (.k (.one (.pv (.int .i64 65536)))), (.k (.one (.pv (.int .i64 (-1))))), (.k (.one (.pv (.int .i64 9223372036854775807)))), (.k (.one (.pv (.int .i64 (-9223372036854775808)))))]⟩,
   ⟨none, some 5, 5, .call 46 [5, 1] [(.t 3), (.t 4)]⟩,
   ⟨none, some 2, 2, .mv (.t 5)⟩])
 (.ret))⟩
abbrev C_s_l1Num (Te : Nat → List AV → Res → Prop) : Prop := ∀ (c : CurV) (hc : c.ok), ∃ (r : Int) (d : CurV), (d.ok) ∧ Te 79 [.ptr c.enc] ⟨[.one (iT r)], [d.enc]⟩
theorem r_s_l1Num {Te : Nat → List AV → Res → Prop} (c_s_l1Int : C_s_l1Int Te) : ∀ (c : CurV) (hc : c.ok), ∃ r0, (∃ (r : Int) (d : CurV), (d.ok) ∧ r0 = (⟨[.one (iT r)], [d.enc]⟩ : Res)) ∧ RunFn Te x_s_l1Num [.ptr c.enc] r0 := by
  intro c hc
  refine some_of (by simp -implicitDefEqProofs (maxSteps := 1000000) only [x_s_l1Num, go_sem]) (by rfl) ?_
  simp -implicitDefEqProofs (maxSteps := 1000000) only [x_s_l1Num, go_sem, true_implies, false_implies]
  repeat (first | refine ⟨rfl, ?_⟩ | refine ⟨by decide, ?_⟩ | refine ⟨⟨by decide, by decide⟩, ?_⟩ | refine ⟨decide_eq_true (by omega), ?_⟩ | refine ⟨⟨decide_eq_true (by omega), decide_eq_true (by omega)⟩, ?_⟩)
  try (first | done | decide | exact decide_eq_true (by omega) | exact ⟨decide_eq_true (by omega), decide_eq_true (by omega)⟩)
  obtain ⟨r, d, ⟨hr, hd⟩, ht⟩ := c_s_l1Int c [0, 1, 7, 255, 256, 4660, 65535, 65536, -1, 9223372036854775807, -9223372036854775808] hc (by decide)
  refine .of (ht) ?_
  try simp -implicitDefEqProofs (maxSteps := 1000000) only [go_sem, true_implies, false_implies]
  repeat (first | refine ⟨rfl, ?_⟩ | refine ⟨by decide, ?_⟩ | refine ⟨⟨by decide, by decide⟩, ?_⟩ | refine ⟨decide_eq_true (by omega), ?_⟩ | refine ⟨⟨decide_eq_true (by omega), decide_eq_true (by omega)⟩, ?_⟩)
  try (first | done | decide | exact decide_eq_true (by omega) | exact ⟨decide_eq_true (by omega), decide_eq_true (by omega)⟩)
  exact ⟨r, d, hd, rfl⟩
def x_s_l2Sign : FnX := ⟨6, [.tmp 2],
  .seq (.reg [⟨none, some 2, 2, .mv (.k (.one (.pv (.int .i64 0))))⟩])
 (.seq (.reg [⟨none, some 3, 3, .mv (.t 0)⟩,
   ⟨none, some 4, 4, .bslice 1 [(.k (.one (.pv (.int .i64 0)))), (.k (.one (.pv (.int .i64 97)))), (.k (.one (.pv (.int .i64 90)))), (.k (.one (.pv (.int .i64 127)))), (.k (.one (.pv (.int .i64 128)))), (.k (.one (.pv (.int .i64 164)))), (.k (.one (.pv (.int .i64 233)))), (.k (.one (.pv (.int .i64 2047)))), (.k (.one (.pv (.int .i64 2048)))), (.k (.one (.pv (.int .i64 8364)))), (.k (.one (.pv (.int .i64 1072)))), (.k (.one (.pv (.int .i64 1102)))), (.k (.one (.pv (.int .i64 1025)))), (.k (.one (.pv (.int .i64 12354)))), (.k (.one (.pv (.int .i64 12450)))), (.k (.one (.pv (.int .i64 352)))), (.k (.one (.pv (.int .i64 65535)))), (.k (.one (.pv (.int .i64 65536)))), (.k (.one (.pv (.int .i64 1114111))))]⟩,
   ⟨none, some 5, 5, .call 46 [5, 1] [(.t 3), (.t 4)]⟩,
   ⟨none, some 2, 2, .mv (.t 5)⟩])
 (.ret))⟩
abbrev C_s_l2Sign (Te : Nat → List AV → Res → Prop) : Prop := ∀ (c : CurV) (hc : c.ok), ∃ (r : Int) (d : CurV), (d.ok) ∧ Te 75 [.ptr c.enc] ⟨[.one (iT r)], [d.enc]⟩
theorem r_s_l2Sign {Te : Nat → List AV → Res → Prop} (c_s_l1Int : C_s_l1Int Te) : ∀ (c : CurV) (hc : c.ok), ∃ r0, (∃ (r : Int) (d : CurV), (d.ok) ∧ r0 = (⟨[.one (iT r)], [d.enc]⟩ : Res)) ∧ RunFn Te x_s_l2Sign [.ptr c.enc] r0 := by
  intro c hc
  refine some_of (by simp -implicitDefEqProofs (maxSteps := 1000000) only [x_s_l2Sign, go_sem]) (by rfl) ?_
  simp -implicitDefEqProofs (maxSteps := 1000000) only [x_s_l2Sign, go_sem, true_implies, false_implies]
  repeat (first | refine ⟨rfl, ?_⟩ | refine ⟨by decide, ?_⟩ | refine ⟨⟨by decide, by decide⟩, ?_⟩ | refine ⟨decide_eq_true (by omega), ?_⟩ | refine ⟨⟨decide_eq_true (by omega), decide_eq_true (by omega)⟩, ?_⟩)
  try (first | done | decide | exact decide_eq_true (by omega) | exact ⟨decide_eq_true (by omega), decide_eq_true (by omega)⟩)
  obtain ⟨r, d, ⟨hr, hd⟩, ht⟩ := c_s_l1Int c [0, 97, 90, 127, 128, 164, 233, 2047, 2048, 8364, 1072, 1102, 1025, 12354, 12450, 352, 65535, 65536, 1114111] hc (by decide)
  refine .of (ht) ?_
  try simp -implicitDefEqProofs (maxSteps := 1000000) only [go_sem, true_implies, false_implies]
  repeat (first | refine ⟨rfl, ?_⟩ | refine ⟨by decide, ?_⟩ | refine ⟨⟨by decide, by decide⟩, ?_⟩ | refine ⟨decide_eq_true (by omega), ?_⟩ | refine ⟨⟨decide_eq_true (by omega), decide_eq_true (by omega)⟩, ?_⟩)
  try (first | done | decide | exact decide_eq_true (by omega) | exact ⟨decide_eq_true (by omega), decide_eq_true (by omega)⟩)
  exact ⟨r, d, hd, rfl⟩
def x_s_l5Sign : FnX := ⟨27, [.tmp 4],
  .seq (.reg [⟨none, some 4, 4, .mv (.k (.one (.pv (.int .i64 0))))⟩])
 (.seq (.seq (.reg [⟨none, some 7, 7, .mv (.t 1)⟩,
   ⟨none, some 8, 8, .bin .eql (.t 7) (.k (.one (.pv (.int .i64 0))))⟩])
 (.cond 8 (.seq (.reg [⟨none, some 9, 9, .mv (.t 0)⟩,
   ⟨none, some 10, 10, .call 75 [5] [(.t 9)]⟩,
   ⟨none, some 4, 4, .mv (.t 10)⟩])
 (.ret)) (.skip)))
 (.seq (.seq (.reg [⟨none, some 11, 11, .mv (.t 1)⟩,
   ⟨none, some 12, 12, .bin .eql (.t 11) (.k (.one (.pv (.int .i64 5))))⟩])
 (.cond 12 (.seq (.reg [⟨none, some 13, 13, .mv (.t 0)⟩,
   ⟨none, some 14, 14, .bslice 1 [(.k (.one (.pv (.int .i64 97)))), (.k (.one (.pv (.int .i64 32)))), (.k (.one (.pv (.int .i64 12353)))), (.k (.one (.pv (.int .i64 12435)))), (.k (.one (.pv (.int .i64 12449)))), (.k (.one (.pv (.int .i64 12534)))), (.k (.one (.pv (.int .i64 12354))))]⟩,
   ⟨none, some 15, 15, .call 46 [5, 1] [(.t 13), (.t 14)]⟩,
   ⟨none, some 4, 4, .mv (.t 15)⟩])
 (.ret)) (.skip)))
 (.seq (.reg [⟨none, some 17, 17, .mv (.t 1)⟩,
   ⟨none, some 18, 18, .mv (.t 0)⟩,
   ⟨none, some 19, 19, .bslice 1 [(.k (.one (.pv (.int .i64 65)))), (.k (.one (.pv (.int .i64 97)))), (.k (.one (.pv (.int .i64 32)))), (.k (.one (.pv (.int .i64 164)))), (.k (.one (.pv (.int .i64 192)))), (.k (.one (.pv (.int .i64 200)))), (.k (.one (.pv (.int .i64 228)))), (.k (.one (.pv (.int .i64 255)))), (.k (.one (.pv (.int .i64 163)))), (.k (.one (.pv (.int .i64 128)))), (.k (.one (.pv (.int .i64 130)))), (.k (.one (.pv (.int .i64 189))))]⟩,
   ⟨none, some 20, 20, .call 46 [5, 1] [(.t 18), (.t 19)]⟩,
   ⟨none, some 21, 21, .call 85 [0, 0] [(.t 17), (.t 20)]⟩,
   ⟨none, some 16, 16, .mv (.t 21)⟩,
   ⟨none, some 22, 22, .ext (.t 16) 0⟩,
   ⟨none, some 23, 23, .ext (.t 16) 1⟩,
   ⟨none, some 5, 5, .mv (.t 22)⟩,
   ⟨none, some 6, 6, .mv (.t 23)⟩])
 (.seq (.seq (.reg [⟨none, some 24, 24, .mv (.t 6)⟩,
   ⟨none, some 25, 25, .not (.t 24)⟩])
 (.cond 25 (.seq (.reg [⟨none, some 4, 4, .mv (.k (.one (.pv (.int .i64 120))))⟩])
 (.ret)) (.skip)))
 (.seq (.reg [⟨none, some 26, 26, .mv (.t 5)⟩,
   ⟨none, some 4, 4, .mv (.t 26)⟩])
 (.ret))))))⟩
abbrev C_s_l5Sign (Te : Nat → List AV → Res → Prop) : Prop := ∀ (c : CurV) (cs : Int) (hc : c.ok), ∃ (r : Int) (d : CurV), (d.ok) ∧ Te 84 [.ptr c.enc, .one (iT cs)] ⟨[.one (iT r)], [d.enc, [iT cs]]⟩
theorem r_s_l5Sign {Te : Nat → List AV → Res → Prop} (c_s_l2Sign : C_s_l2Sign Te) (c_s_l1Int : C_s_l1Int Te) (c_s_ByteSign : C_s_ByteSign Te) : ∀ (c : CurV) (cs : Int) (hc : c.ok), ∃ r0, (∃ (r : Int) (d : CurV), (d.ok) ∧ r0 = (⟨[.one (iT r)], [d.enc, [iT cs]]⟩ : Res)) ∧ RunFn Te x_s_l5Sign [.ptr c.enc, .one (iT cs)] r0 := by
  intro c cs hc
  refine some_of (by simp -implicitDefEqProofs (maxSteps := 1000000) only [x_s_l5Sign, go_sem]) (by rfl) ?_
  cases g0 : (cs == 0)
  · cases g5 : (cs == 5)
    · simp -implicitDefEqProofs (maxSteps := 1000000) only [x_s_l5Sign, go_sem, true_implies, false_implies, g0, g5]
      repeat (first | refine ⟨rfl, ?_⟩ | refine ⟨by decide, ?_⟩ | refine ⟨⟨by decide, by decide⟩, ?_⟩ | refine ⟨decide_eq_true (by omega), ?_⟩ | refine ⟨⟨decide_eq_true (by omega), decide_eq_true (by omega)⟩, ?_⟩)
      try (first | done | decide | exact decide_eq_true (by omega) | exact ⟨decide_eq_true (by omega), decide_eq_true (by omega)⟩)
      obtain ⟨r, d, ⟨hr, hd⟩, ht⟩ := c_s_l1Int c [65, 97, 32, 164, 192, 200, 228, 255, 163, 128, 130, 189] hc (by decide)
      refine .of (ht) ?_
      try simp -implicitDefEqProofs (maxSteps := 1000000) only [go_sem, true_implies, false_implies]
      repeat (first | refine ⟨rfl, ?_⟩ | refine ⟨by decide, ?_⟩ | refine ⟨⟨by decide, by decide⟩, ?_⟩ | refine ⟨decide_eq_true (by omega), ?_⟩ | refine ⟨⟨decide_eq_true (by omega), decide_eq_true (by omega)⟩, ?_⟩)
      try (first | done | decide | exact decide_eq_true (by omega) | exact ⟨decide_eq_true (by omega), decide_eq_true (by omega)⟩)
      refine .of (c_s_ByteSign cs r) ?_
      try simp -implicitDefEqProofs (maxSteps := 1000000) only [go_sem, true_implies, false_implies]
      repeat (first | refine ⟨rfl, ?_⟩ | refine ⟨by decide, ?_⟩ | refine ⟨⟨by decide, by decide⟩, ?_⟩ | refine ⟨decide_eq_true (by omega), ?_⟩ | refine ⟨⟨decide_eq_true (by omega), decide_eq_true (by omega)⟩, ?_⟩)
      try (first | done | decide | exact decide_eq_true (by omega) | exact ⟨decide_eq_true (by omega), decide_eq_true (by omega)⟩)
      cases g : (byteSign cs r).2
      · try simp -implicitDefEqProofs (maxSteps := 1000000) only [go_sem, true_implies, false_implies, g]
        repeat (first | refine ⟨rfl, ?_⟩ | refine ⟨by decide, ?_⟩ | refine ⟨⟨by decide, by decide⟩, ?_⟩ | refine ⟨decide_eq_true (by omega), ?_⟩ | refine ⟨⟨decide_eq_true (by omega), decide_eq_true (by omega)⟩, ?_⟩)
        try (first | done | decide | exact decide_eq_true (by omega) | exact ⟨decide_eq_true (by omega), decide_eq_true (by omega)⟩)
        exact ⟨120, d, hd, rfl⟩
      · try simp -implicitDefEqProofs (maxSteps := 1000000) only [go_sem, true_implies, false_implies, g]
        repeat (first | refine ⟨rfl, ?_⟩ | refine ⟨by decide, ?_⟩ | refine ⟨⟨by decide, by decide⟩, ?_⟩ | refine ⟨decide_eq_true (by omega), ?_⟩ | refine ⟨⟨decide_eq_true (by omega), decide_eq_true (by omega)⟩, ?_⟩)
        try (first | done | decide | exact decide_eq_true (by omega) | exact ⟨decide_eq_true (by omega), decide_eq_true (by omega)⟩)
        exact ⟨_, d, hd, rfl⟩
    · simp -implicitDefEqProofs (maxSteps := 1000000) only [x_s_l5Sign, go_sem, true_implies, false_implies, g0, g5]
      repeat (first | refine ⟨rfl, ?_⟩ | refine ⟨by decide, ?_⟩ | refine ⟨⟨by decide, by decide⟩, ?_⟩ | refine ⟨decide_eq_true (by omega), ?_⟩ | refine ⟨⟨decide_eq_true (by omega), decide_eq_true (by omega)⟩, ?_⟩)
      try (first | done | decide | exact decide_eq_true (by omega) | exact ⟨decide_eq_true (by omega), decide_eq_true (by omega)⟩)
      obtain ⟨r, d, ⟨hr, hd⟩, ht⟩ := c_s_l1Int c [97, 32, 12353, 12435, 12449, 12534, 12354] hc (by decide)
      refine .of (ht) ?_
      try simp -implicitDefEqProofs (maxSteps := 1000000) only [go_sem, true_implies, false_implies]
      repeat (first | refine ⟨rfl, ?_⟩ | refine ⟨by decide, ?_⟩ | refine ⟨⟨by decide, by decide⟩, ?_⟩ | refine ⟨decide_eq_true (by omega), ?_⟩ | refine ⟨⟨decide_eq_true (by omega), decide_eq_true (by omega)⟩, ?_⟩)
      try (first | done | decide | exact decide_eq_true (by omega) | exact ⟨decide_eq_true (by omega), decide_eq_true (by omega)⟩)
      exact ⟨r, d, hd, rfl⟩
  · simp -implicitDefEqProofs (maxSteps := 1000000) only [x_s_l5Sign, go_sem, true_implies, false_implies, g0]
    repeat (first | refine ⟨rfl, ?_⟩ | refine ⟨by decide, ?_⟩ | refine ⟨⟨by decide, by decide⟩, ?_⟩ | refine ⟨decide_eq_true (by omega), ?_⟩ | refine ⟨⟨decide_eq_true (by omega), decide_eq_true (by omega)⟩, ?_⟩)
    try (first | done | decide | exact decide_eq_true (by omega) | exact ⟨decide_eq_true (by omega), decide_eq_true (by omega)⟩)
    obtain ⟨r, d, hd, ht⟩ := c_s_l2Sign c hc
    refine .of (ht) ?_
    try simp -implicitDefEqProofs (maxSteps := 1000000) only [go_sem, true_implies, false_implies]
    repeat (first | refine ⟨rfl, ?_⟩ | refine ⟨by decide, ?_⟩ | refine ⟨⟨by decide, by decide⟩, ?_⟩ | refine ⟨decide_eq_true (by omega), ?_⟩ | refine ⟨⟨decide_eq_true (by omega), decide_eq_true (by omega)⟩, ?_⟩)
    try (first | done | decide | exact decide_eq_true (by omega) | exact ⟨decide_eq_true (by omega), decide_eq_true (by omega)⟩)
    exact ⟨r, d, hd, rfl⟩
def x_s_l5Text : FnX := ⟨25, [.tmp 6],
  .seq (.reg [⟨none, some 6, 6, .mv (.k (.one (.pv (.string ⟨#[]⟩))))⟩])
 (.seq (.reg [⟨none, some 9, 9, .bslice 1 []⟩,
   ⟨none, some 7, 7, .mv (.t 9)⟩])
 (.seq (.seq (.reg [⟨none, some 10, 10, .mv (.t 0)⟩,
   ⟨none, some 11, 11, .mv (.t 2)⟩,
   ⟨none, some 12, 12, .bin .add (.t 11) (.k (.one (.pv (.int .i64 1))))⟩,
   ⟨none, some 13, 13, .call 45 [5, 0] [(.t 10), (.t 12)]⟩,
   ⟨none, some 8, 8, .mv (.t 13)⟩])
 (.block 0 (.loop [0, 1, 7, 8] (.seq (.seq (.reg [⟨none, some 14, 14, .mv (.t 8)⟩,
   ⟨none, some 15, 15, .bin .gtr (.t 14) (.k (.one (.pv (.int .i64 0))))⟩])
 (.cond 15 (.skip) (.exit 0)))
 (.seq (.block 1 (.reg [⟨none, some 18, 18, .mv (.t 7)⟩,
   ⟨none, some 19, 19, .mv (.t 0)⟩,
   ⟨none, some 20, 20, .mv (.t 1)⟩,
   ⟨none, some 21, 21, .call 84 [5, 0] [(.t 19), (.t 20)]⟩,
   ⟨none, some 22, 22, .call 74 [0, 0] [(.t 18), (.t 21)]⟩,
   ⟨none, some 7, 7, .mv (.t 22)⟩]))
 (.reg [⟨none, some 16, 16, .mv (.t 8)⟩,
   ⟨none, some 17, 17, .bin .sub (.t 16) (.k (.one (.pv (.int .i64 1))))⟩,
   ⟨none, some 8, 8, .mv (.t 17)⟩]))))))
 (.norm [7] (.seq (.reg [⟨none, some 23, 23, .mv (.t 7)⟩,
   ⟨none, some 24, 24, .conv .b2s (.t 23)⟩,
   ⟨none, some 6, 6, .mv (.t 24)⟩])
 (.ret)))))⟩
abbrev C_s_l5Text (Te : Nat → List AV → Res → Prop) : Prop := ∀ (c : CurV) (cs most : Int) (hc : c.ok) (hm : 0 ≤ most ∧ most ≤ 100), ∃ (r : ByteArray) (d : CurV), (r.size ≤ 4 * most.toNat ∧ d.ok) ∧ Te 82 [.ptr c.enc, .one (iT cs), .one (iT most)] ⟨[.one (sT r)], [d.enc, [iT cs], [iT most]]⟩
theorem r_s_l5Text {Te : Nat → List AV → Res → Prop} (c_s_l1Below : C_s_l1Below Te) (c_s_l5Sign : C_s_l5Sign Te) (c_s_PutSign : C_s_PutSign Te) : ∀ (c : CurV) (cs most : Int) (hc : c.ok) (hm : 0 ≤ most ∧ most ≤ 100), ∃ r0, (∃ (r : ByteArray) (d : CurV), (r.size ≤ 4 * most.toNat ∧ d.ok) ∧ r0 = (⟨[.one (sT r)], [d.enc, [iT cs], [iT most]]⟩ : Res)) ∧ RunFn Te x_s_l5Text [.ptr c.enc, .one (iT cs), .one (iT most)] r0 := by
  intro c cs most hc hm
  refine some_of (by simp -implicitDefEqProofs (maxSteps := 1000000) only [x_s_l5Text, go_sem]) (by rfl) ?_
  have w1 : IntKind.i64.wrap (most + 1) = most + 1 := IntWalk.i64_in _ (by omega)
  simp -implicitDefEqProofs (maxSteps := 1000000) only [x_s_l5Text, go_sem, true_implies, false_implies, w1]
  repeat (first | refine ⟨rfl, ?_⟩ | refine ⟨by decide, ?_⟩ | refine ⟨⟨by decide, by decide⟩, ?_⟩ | refine ⟨decide_eq_true (by omega), ?_⟩ | refine ⟨⟨decide_eq_true (by omega), decide_eq_true (by omega)⟩, ?_⟩)
  try (first | done | decide | exact decide_eq_true (by omega) | exact ⟨decide_eq_true (by omega), decide_eq_true (by omega)⟩)
  obtain ⟨k, d0, ⟨hk, hd0⟩, ht⟩ := c_s_l1Below c (most + 1) hc
  have hk1 := hk.2.1 (by omega)
  obtain ⟨K, rfl⟩ : ∃ K : Nat, k = K := ⟨k.toNat, by omega⟩
  refine .of (ht) ?_
  try simp -implicitDefEqProofs (maxSteps := 1000000) only [go_sem, true_implies, false_implies]
  repeat (first | refine ⟨rfl, ?_⟩ | refine ⟨by decide, ?_⟩ | refine ⟨⟨by decide, by decide⟩, ?_⟩ | refine ⟨decide_eq_true (by omega), ?_⟩ | refine ⟨⟨decide_eq_true (by omega), decide_eq_true (by omega)⟩, ?_⟩)
  try (first | done | decide | exact decide_eq_true (by omega) | exact ⟨decide_eq_true (by omega), decide_eq_true (by omega)⟩)
  refine loop_of (σ := Nat × List UInt8 × CurV) (fun x => ⟨[(0, .bp 0 0), (1, .one (.pv (.int .i64 cs))), (7, .one (.rf 28 0 [] 1 0 x.2.1.length)), (8, .one (.pv (.int .i64 x.1)))], [(0, [.ro 1 (x.2.2.b.map uR), .pv (.int .i64 x.2.2.i), .pv (.int .i64 x.2.2.h)])], [(0, c.enc), (1, [iT cs]), (2, [iT most]), (28, [slT true 1 uR x.2.1])]⟩) (fun x => x.1 ≤ K ∧ x.2.1.length ≤ 4 * (K - x.1) ∧ x.2.2.ok) (fun x => x.1) (K, [], d0) ?_ ⟨Nat.le_refl _, Nat.zero_le _, hd0⟩ ?_
  · simp -implicitDefEqProofs (maxSteps := 1000000) only [go_sem]
    rfl
  · rintro ⟨i, b, d⟩ ⟨hi, hb, hd⟩
    simp only at hi hb hd
    cases q : decide ((i : Int) > 0)
    · try simp -implicitDefEqProofs (maxSteps := 1000000) only [go_sem, true_implies, false_implies, q]
      repeat (first | refine ⟨rfl, ?_⟩ | refine ⟨by decide, ?_⟩ | refine ⟨⟨by decide, by decide⟩, ?_⟩ | refine ⟨decide_eq_true (by omega), ?_⟩ | refine ⟨⟨decide_eq_true (by omega), decide_eq_true (by omega)⟩, ?_⟩)
      try (first | done | decide | exact decide_eq_true (by omega) | exact ⟨decide_eq_true (by omega), decide_eq_true (by omega)⟩)
      have hi0 : i = 0 := by simp only [decide_eq_false_iff_not] at q; omega
      refine ⟨areBytes_uL b, ⟨(bytesOf (b.map uR)).toArray⟩, d, ⟨?_, hd⟩, rfl⟩
      show (bytesOf (b.map uR)).length ≤ _
      rw [bytesOf_uL]
      omega
    · simp only [decide_eq_true_eq] at q
      have w2 : IntKind.i64.wrap ((i : Int) - 1) = ((i - 1 : Nat) : Int) := by rw [IntWalk.i64_in _ (by omega)]; omega
      obtain ⟨r, d1, hd1, ht⟩ := c_s_l5Sign d cs hd
      have q' : decide ((i : Int) > 0) = true := decide_eq_true q
      try simp -implicitDefEqProofs (maxSteps := 1000000) only [go_sem, true_implies, false_implies, q']
      repeat (first | refine ⟨rfl, ?_⟩ | refine ⟨by decide, ?_⟩ | refine ⟨⟨by decide, by decide⟩, ?_⟩ | refine ⟨decide_eq_true (by omega), ?_⟩ | refine ⟨⟨decide_eq_true (by omega), decide_eq_true (by omega)⟩, ?_⟩)
      try (first | done | decide | exact decide_eq_true (by omega) | exact ⟨decide_eq_true (by omega), decide_eq_true (by omega)⟩)
      refine .of (ht) ?_
      try simp -implicitDefEqProofs (maxSteps := 1000000) only [go_sem, true_implies, false_implies]
      repeat (first | refine ⟨rfl, ?_⟩ | refine ⟨by decide, ?_⟩ | refine ⟨⟨by decide, by decide⟩, ?_⟩ | refine ⟨decide_eq_true (by omega), ?_⟩ | refine ⟨⟨decide_eq_true (by omega), decide_eq_true (by omega)⟩, ?_⟩)
      try (first | done | decide | exact decide_eq_true (by omega) | exact ⟨decide_eq_true (by omega), decide_eq_true (by omega)⟩)
      refine .of (c_s_PutSign b r (by omega)) ?_
      try simp -implicitDefEqProofs (maxSteps := 1000000) only [go_sem, true_implies, false_implies, w2]
      repeat (first | refine ⟨rfl, ?_⟩ | refine ⟨by decide, ?_⟩ | refine ⟨⟨by decide, by decide⟩, ?_⟩ | refine ⟨decide_eq_true (by omega), ?_⟩ | refine ⟨⟨decide_eq_true (by omega), decide_eq_true (by omega)⟩, ?_⟩)
      try (first | done | decide | exact decide_eq_true (by omega) | exact ⟨decide_eq_true (by omega), decide_eq_true (by omega)⟩)
      have hl := putSign_len b r
      exact ⟨(i - 1, putSign b r, d1), rfl, ⟨by simp only; omega, by simp only; omega, hd1⟩, by simp only; omega⟩
end Go.X

/- Ub -/
namespace Go.X
set_option maxRecDepth 100000
set_option maxHeartbeats 8000000
def msgS (m : Msg) : Prop := m.Key.size ≤ 61 ∧ m.Text.size ≤ 61
theorem msgS_In {m : Msg} (h : msgS m) {n : Nat} (hn : 61 ≤ n := by decide) : m.In n := ⟨Nat.le_trans h.1 hn, Nat.le_trans h.2 hn⟩
def x_s_l16Draw : FnX := ⟨59, [.cell 2 (some 8)],
  .seq (.reg [⟨none, some 2, 2, .alloc [.pv (.int .i64 0), .pv (.int .i64 0), .pv (.int .i64 0), .pv (.int .i64 0), .pv (.string ⟨#[]⟩), .pv (.string ⟨#[]⟩), .pv (.int .i64 0), .pv (.int .i64 0)]⟩])
 (.seq (.reg [⟨none, some 4, 4, .mv (.t 0)⟩,
   ⟨none, some 5, 5, .call 45 [5, 0] [(.t 4), (.k (.one (.pv (.int .i64 9))))]⟩,
   ⟨none, some 6, 6, .bin .add (.k (.one (.pv (.int .i64 1)))) (.t 5)⟩,
   ⟨none, some 7, 7, .mv (.t 0)⟩,
   ⟨none, some 8, 8, .bslice 1 [(.k (.one (.pv (.int .i64 0)))), (.k (.one (.pv (.int .i64 1)))), (.k (.one (.pv (.int .i64 2)))), (.k (.one (.pv (.int .i64 31)))), (.k (.one (.pv (.int .i64 65535))))]⟩,
   ⟨none, some 9, 9, .call 46 [5, 1] [(.t 7), (.t 8)]⟩,
   ⟨none, some 10, 10, .mv (.t 0)⟩,
   ⟨none, some 11, 11, .call 43 [5] [(.t 10)]⟩,
   ⟨none, some 12, 12, .mv (.t 0)⟩,
   ⟨none, some 13, 13, .call 45 [5, 0] [(.t 12), (.k (.one (.pv (.int .i64 7))))]⟩,
   ⟨none, some 14, 14, .mv (.t 0)⟩,
   ⟨none, some 15, 15, .call 45 [5, 0] [(.t 14), (.k (.one (.pv (.int .i64 8))))]⟩,
   ⟨none, some 16, 16, .build [.pv (.int .i64 0), .pv (.int .i64 0), .pv (.int .i64 0), .pv (.int .i64 0), .pv (.string ⟨#[]⟩), .pv (.string ⟨#[]⟩), .pv (.int .i64 0), .pv (.int .i64 0)] [(0, 1, (.t 6)), (3, 1, (.t 9)), (4, 1, (.t 11)), (7, 1, (.t 13)), (6, 1, (.t 15))]⟩,
   ⟨none, some 3, 3, .alloc [.pv (.int .i64 0), .pv (.int .i64 0), .pv (.int .i64 0), .pv (.int .i64 0), .pv (.string ⟨#[]⟩), .pv (.string ⟨#[]⟩), .pv (.int .i64 0), .pv (.int .i64 0)]⟩,
   ⟨none, none, 100001, .store 8 (.t 3) (.t 16)⟩])
 (.seq (.reg [⟨none, some 17, 17, .mv (.t 0)⟩,
   ⟨none, some 18, 18, .mv (.t 0)⟩,
   ⟨none, some 19, 19, .call 45 [5, 0] [(.t 18), (.k (.one (.pv (.int .i64 6))))]⟩,
   ⟨none, some 20, 20, .call 82 [5, 0, 0] [(.t 17), (.t 19), (.k (.one (.pv (.int .i64 4))))]⟩,
   ⟨none, some 21, 21, .faddr (.t 3) 5⟩,
   ⟨none, none, 100002, .store 1 (.t 21) (.t 20)⟩])
 (.seq (.seq (.reg [⟨none, some 22, 22, .faddr (.t 3) 0⟩,
   ⟨none, some 23, 23, .load none (.t 22)⟩])
 (.block 0 (.seq (.seq (.reg [⟨none, some 29, 29, .bin .eql (.t 23) (.k (.one (.pv (.int .i64 1))))⟩,
   ⟨none, some 28, 28, .mv (.t 29)⟩])
 (.cond 28 (.skip) (.seq (.reg [⟨none, some 30, 30, .bin .eql (.t 23) (.k (.one (.pv (.int .i64 3))))⟩,
   ⟨none, some 28, 28, .mv (.t 30)⟩])
 (.cond 28 (.skip) (.reg [⟨none, some 31, 31, .bin .eql (.t 23) (.k (.one (.pv (.int .i64 4))))⟩,
   ⟨none, some 28, 28, .mv (.t 31)⟩])))))
 (.cond 28 (.seq (.reg [⟨none, some 32, 32, .mv (.t 0)⟩,
   ⟨none, some 33, 33, .call 45 [5, 0] [(.t 32), (.k (.one (.pv (.int .i64 2))))]⟩,
   ⟨none, some 34, 34, .bin .add (.k (.one (.pv (.int .i64 1)))) (.t 33)⟩,
   ⟨none, some 35, 35, .faddr (.t 3) 1⟩,
   ⟨none, none, 100003, .store 1 (.t 35) (.t 34)⟩])
 (.reg [⟨none, some 36, 36, .mv (.t 0)⟩,
   ⟨none, some 37, 37, .call 45 [5, 0] [(.t 36), (.k (.one (.pv (.int .i64 2))))]⟩,
   ⟨none, some 38, 38, .bin .add (.k (.one (.pv (.int .i64 3)))) (.t 37)⟩,
   ⟨none, some 39, 39, .faddr (.t 3) 2⟩,
   ⟨none, none, 100004, .store 1 (.t 39) (.t 38)⟩])) (.seq (.seq (.reg [⟨none, some 41, 41, .bin .eql (.t 23) (.k (.one (.pv (.int .i64 2))))⟩,
   ⟨none, some 40, 40, .mv (.t 41)⟩])
 (.cond 40 (.skip) (.reg [⟨none, some 42, 42, .bin .eql (.t 23) (.k (.one (.pv (.int .i64 5))))⟩,
   ⟨none, some 40, 40, .mv (.t 42)⟩])))
 (.cond 40 (.seq (.reg [⟨none, some 43, 43, .mv (.t 0)⟩,
   ⟨none, some 44, 44, .call 45 [5, 0] [(.t 43), (.k (.one (.pv (.int .i64 2))))]⟩,
   ⟨none, some 45, 45, .bin .add (.k (.one (.pv (.int .i64 3)))) (.t 44)⟩,
   ⟨none, some 46, 46, .faddr (.t 3) 1⟩,
   ⟨none, none, 100005, .store 1 (.t 46) (.t 45)⟩])
 (.reg [⟨none, some 47, 47, .mv (.t 0)⟩,
   ⟨none, some 48, 48, .call 45 [5, 0] [(.t 47), (.k (.one (.pv (.int .i64 2))))]⟩,
   ⟨none, some 49, 49, .bin .add (.k (.one (.pv (.int .i64 1)))) (.t 48)⟩,
   ⟨none, some 50, 50, .faddr (.t 3) 2⟩,
   ⟨none, none, 100006, .store 1 (.t 50) (.t 49)⟩])) (.seq (.seq (.reg [⟨none, some 52, 52, .bin .eql (.t 23) (.k (.one (.pv (.int .i64 6))))⟩,
   ⟨none, some 51, 51, .mv (.t 52)⟩])
 (.cond 51 (.skip) (.reg [⟨none, some 53, 53, .bin .eql (.t 23) (.k (.one (.pv (.int .i64 8))))⟩,
   ⟨none, some 51, 51, .mv (.t 53)⟩])))
 (.cond 51 (.reg [⟨none, some 54, 54, .mv (.t 0)⟩,
   ⟨none, some 55, 55, .call 45 [5, 0] [(.t 54), (.k (.one (.pv (.int .i64 2))))]⟩,
   ⟨none, some 56, 56, .bin .add (.k (.one (.pv (.int .i64 3)))) (.t 55)⟩,
   ⟨none, some 57, 57, .faddr (.t 3) 2⟩,
   ⟨none, none, 100007, .store 1 (.t 57) (.t 56)⟩]) (.reg [⟨none, some 24, 24, .mv (.t 0)⟩,
   ⟨none, some 25, 25, .call 45 [5, 0] [(.t 24), (.k (.one (.pv (.int .i64 2))))]⟩,
   ⟨none, some 26, 26, .bin .add (.k (.one (.pv (.int .i64 3)))) (.t 25)⟩,
   ⟨none, some 27, 27, .faddr (.t 3) 1⟩,
   ⟨none, none, 100008, .store 1 (.t 27) (.t 26)⟩])))))))))
 (.seq (.reg [⟨none, some 58, 58, .load (some 8) (.t 3)⟩,
   ⟨none, none, 100009, .store 8 (.t 2) (.t 58)⟩])
 (.ret)))))⟩
abbrev C_s_l16Draw (Te : Nat → List AV → Res → Prop) : Prop := ∀ (c : CurV) (hc : c.ok), ∃ (m : Msg) (d : CurV), (msgS m ∧ d.ok) ∧ Te 78 [.ptr c.enc] ⟨[.agg m.row], [d.enc]⟩
theorem r_s_l16Draw {Te : Nat → List AV → Res → Prop} (c_s_l1Below : C_s_l1Below Te) (c_s_l1Int : C_s_l1Int Te) (c_s_l1Name : C_s_l1Name Te) (c_s_l5Text : C_s_l5Text Te) : ∀ (c : CurV) (hc : c.ok), ∃ r0, (∃ (m : Msg) (d : CurV), (msgS m ∧ d.ok) ∧ r0 = (⟨[.agg m.row], [d.enc]⟩ : Res)) ∧ RunFn Te x_s_l16Draw [.ptr c.enc] r0 := by
  intro c hc
  refine some_of (by simp -implicitDefEqProofs (maxSteps := 1000000) only [x_s_l16Draw, go_sem]) (by rfl) ?_
  simp -implicitDefEqProofs (maxSteps := 1000000) only [x_s_l16Draw, go_sem, true_implies, false_implies]
  repeat (first | refine ⟨rfl, ?_⟩ | refine ⟨by decide, ?_⟩ | refine ⟨⟨by decide, by decide⟩, ?_⟩ | refine ⟨decide_eq_true (by omega), ?_⟩ | refine ⟨⟨decide_eq_true (by omega), decide_eq_true (by omega)⟩, ?_⟩)
  try (first | done | decide | exact decide_eq_true (by omega) | exact ⟨decide_eq_true (by omega), decide_eq_true (by omega)⟩)
  obtain ⟨k, d1, ⟨hk, hd1⟩, ht⟩ := c_s_l1Below c 9 hc
  have hk1 := hk.2.1 (by decide)
  obtain ⟨K, wk⟩ : ∃ K, IntKind.i64.wrap (1 + k) = K := ⟨_, rfl⟩
  refine .of (ht) ?_
  try simp -implicitDefEqProofs (maxSteps := 1000000) only [go_sem, true_implies, false_implies, wk]
  repeat (first | refine ⟨rfl, ?_⟩ | refine ⟨by decide, ?_⟩ | refine ⟨⟨by decide, by decide⟩, ?_⟩ | refine ⟨decide_eq_true (by omega), ?_⟩ | refine ⟨⟨decide_eq_true (by omega), decide_eq_true (by omega)⟩, ?_⟩)
  try (first | done | decide | exact decide_eq_true (by omega) | exact ⟨decide_eq_true (by omega), decide_eq_true (by omega)⟩)
  obtain ⟨sq, d2, ⟨_, hd2⟩, ht⟩ := c_s_l1Int d1 [0, 1, 2, 31, 65535] hd1 (by decide)
  refine .of (ht) ?_
  try simp -implicitDefEqProofs (maxSteps := 1000000) only [go_sem, true_implies, false_implies]
  repeat (first | refine ⟨rfl, ?_⟩ | refine ⟨by decide, ?_⟩ | refine ⟨⟨by decide, by decide⟩, ?_⟩ | refine ⟨decide_eq_true (by omega), ?_⟩ | refine ⟨⟨decide_eq_true (by omega), decide_eq_true (by omega)⟩, ?_⟩)
  try (first | done | decide | exact decide_eq_true (by omega) | exact ⟨decide_eq_true (by omega), decide_eq_true (by omega)⟩)
  obtain ⟨key, d3, ⟨hkey, hd3⟩, ht⟩ := c_s_l1Name d2 hd2
  refine .of (ht) ?_
  try simp -implicitDefEqProofs (maxSteps := 1000000) only [go_sem, true_implies, false_implies]
  repeat (first | refine ⟨rfl, ?_⟩ | refine ⟨by decide, ?_⟩ | refine ⟨⟨by decide, by decide⟩, ?_⟩ | refine ⟨decide_eq_true (by omega), ?_⟩ | refine ⟨⟨decide_eq_true (by omega), decide_eq_true (by omega)⟩, ?_⟩)
  try (first | done | decide | exact decide_eq_true (by omega) | exact ⟨decide_eq_true (by omega), decide_eq_true (by omega)⟩)
  obtain ⟨cd, d4, ⟨_, hd4⟩, ht⟩ := c_s_l1Below d3 7 hd3
  refine .of (ht) ?_
  try simp -implicitDefEqProofs (maxSteps := 1000000) only [go_sem, true_implies, false_implies]
  repeat (first | refine ⟨rfl, ?_⟩ | refine ⟨by decide, ?_⟩ | refine ⟨⟨by decide, by decide⟩, ?_⟩ | refine ⟨decide_eq_true (by omega), ?_⟩ | refine ⟨⟨decide_eq_true (by omega), decide_eq_true (by omega)⟩, ?_⟩)
  try (first | done | decide | exact decide_eq_true (by omega) | exact ⟨decide_eq_true (by omega), decide_eq_true (by omega)⟩)
  obtain ⟨n, d5, ⟨_, hd5⟩, ht⟩ := c_s_l1Below d4 8 hd4
  refine .of (ht) ?_
  try simp -implicitDefEqProofs (maxSteps := 1000000) only [go_sem, true_implies, false_implies]
  repeat (first | refine ⟨rfl, ?_⟩ | refine ⟨by decide, ?_⟩ | refine ⟨⟨by decide, by decide⟩, ?_⟩ | refine ⟨decide_eq_true (by omega), ?_⟩ | refine ⟨⟨decide_eq_true (by omega), decide_eq_true (by omega)⟩, ?_⟩)
  try (first | done | decide | exact decide_eq_true (by omega) | exact ⟨decide_eq_true (by omega), decide_eq_true (by omega)⟩)
  obtain ⟨cs, d6, ⟨_, hd6⟩, ht⟩ := c_s_l1Below d5 6 hd5
  refine .of (ht) ?_
  try simp -implicitDefEqProofs (maxSteps := 1000000) only [go_sem, true_implies, false_implies]
  repeat (first | refine ⟨rfl, ?_⟩ | refine ⟨by decide, ?_⟩ | refine ⟨⟨by decide, by decide⟩, ?_⟩ | refine ⟨decide_eq_true (by omega), ?_⟩ | refine ⟨⟨decide_eq_true (by omega), decide_eq_true (by omega)⟩, ?_⟩)
  try (first | done | decide | exact decide_eq_true (by omega) | exact ⟨decide_eq_true (by omega), decide_eq_true (by omega)⟩)
  obtain ⟨tx, d7, ⟨htx, hd7⟩, ht⟩ := c_s_l5Text d6 cs 4 hd6 (by decide)
  have hS : ∀ a b : Int, msgS ⟨K, a, b, sq, key, tx, n, cd⟩ := fun a b => ⟨by show key.size ≤ 61; omega, by show tx.size ≤ 61; have : tx.size ≤ 4 * 4 := htx; omega⟩
  cases g1 : (K == 1)
  · cases g3 : (K == 3)
    · cases g4 : (K == 4)
      · cases g2 : (K == 2)
        · cases g5 : (K == 5)
          · cases g6 : (K == 6)
            · cases g8 : (K == 8)
              · refine .of (ht) ?_
                try simp -implicitDefEqProofs (maxSteps := 1000000) only [go_sem, true_implies, false_implies, g1, g2, g3, g4, g5, g6, g8]
                repeat (first | refine ⟨rfl, ?_⟩ | refine ⟨by decide, ?_⟩ | refine ⟨⟨by decide, by decide⟩, ?_⟩ | refine ⟨decide_eq_true (by omega), ?_⟩ | refine ⟨⟨decide_eq_true (by omega), decide_eq_true (by omega)⟩, ?_⟩)
                try (first | done | decide | exact decide_eq_true (by omega) | exact ⟨decide_eq_true (by omega), decide_eq_true (by omega)⟩)
                obtain ⟨u, e1, ⟨_, he1⟩, ht⟩ := c_s_l1Below d7 2 hd7
                refine .of (ht) ?_
                try simp -implicitDefEqProofs (maxSteps := 1000000) only [go_sem, true_implies, false_implies]
                repeat (first | refine ⟨rfl, ?_⟩ | refine ⟨by decide, ?_⟩ | refine ⟨⟨by decide, by decide⟩, ?_⟩ | refine ⟨decide_eq_true (by omega), ?_⟩ | refine ⟨⟨decide_eq_true (by omega), decide_eq_true (by omega)⟩, ?_⟩)
                try (first | done | decide | exact decide_eq_true (by omega) | exact ⟨decide_eq_true (by omega), decide_eq_true (by omega)⟩)
                exact ⟨⟨K, IntKind.i64.wrap (3 + u), 0, sq, key, tx, n, cd⟩, e1, ⟨hS _ _, he1⟩, rfl⟩
              · refine .of (ht) ?_
                try simp -implicitDefEqProofs (maxSteps := 1000000) only [go_sem, true_implies, false_implies, g1, g2, g3, g4, g5, g6, g8]
                repeat (first | refine ⟨rfl, ?_⟩ | refine ⟨by decide, ?_⟩ | refine ⟨⟨by decide, by decide⟩, ?_⟩ | refine ⟨decide_eq_true (by omega), ?_⟩ | refine ⟨⟨decide_eq_true (by omega), decide_eq_true (by omega)⟩, ?_⟩)
                try (first | done | decide | exact decide_eq_true (by omega) | exact ⟨decide_eq_true (by omega), decide_eq_true (by omega)⟩)
                obtain ⟨u, e1, ⟨_, he1⟩, ht⟩ := c_s_l1Below d7 2 hd7
                refine .of (ht) ?_
                try simp -implicitDefEqProofs (maxSteps := 1000000) only [go_sem, true_implies, false_implies]
                repeat (first | refine ⟨rfl, ?_⟩ | refine ⟨by decide, ?_⟩ | refine ⟨⟨by decide, by decide⟩, ?_⟩ | refine ⟨decide_eq_true (by omega), ?_⟩ | refine ⟨⟨decide_eq_true (by omega), decide_eq_true (by omega)⟩, ?_⟩)
                try (first | done | decide | exact decide_eq_true (by omega) | exact ⟨decide_eq_true (by omega), decide_eq_true (by omega)⟩)
                exact ⟨⟨K, 0, IntKind.i64.wrap (3 + u), sq, key, tx, n, cd⟩, e1, ⟨hS _ _, he1⟩, rfl⟩
            · refine .of (ht) ?_
              try simp -implicitDefEqProofs (maxSteps := 1000000) only [go_sem, true_implies, false_implies, g1, g2, g3, g4, g5, g6]
              repeat (first | refine ⟨rfl, ?_⟩ | refine ⟨by decide, ?_⟩ | refine ⟨⟨by decide, by decide⟩, ?_⟩ | refine ⟨decide_eq_true (by omega), ?_⟩ | refine ⟨⟨decide_eq_true (by omega), decide_eq_true (by omega)⟩, ?_⟩)
              try (first | done | decide | exact decide_eq_true (by omega) | exact ⟨decide_eq_true (by omega), decide_eq_true (by omega)⟩)
              obtain ⟨u, e1, ⟨_, he1⟩, ht⟩ := c_s_l1Below d7 2 hd7
              refine .of (ht) ?_
              try simp -implicitDefEqProofs (maxSteps := 1000000) only [go_sem, true_implies, false_implies]
              repeat (first | refine ⟨rfl, ?_⟩ | refine ⟨by decide, ?_⟩ | refine ⟨⟨by decide, by decide⟩, ?_⟩ | refine ⟨decide_eq_true (by omega), ?_⟩ | refine ⟨⟨decide_eq_true (by omega), decide_eq_true (by omega)⟩, ?_⟩)
              try (first | done | decide | exact decide_eq_true (by omega) | exact ⟨decide_eq_true (by omega), decide_eq_true (by omega)⟩)
              exact ⟨⟨K, 0, IntKind.i64.wrap (3 + u), sq, key, tx, n, cd⟩, e1, ⟨hS _ _, he1⟩, rfl⟩
          · refine .of (ht) ?_
            try simp -implicitDefEqProofs (maxSteps := 1000000) only [go_sem, true_implies, false_implies, g1, g2, g3, g4, g5]
            repeat (first | refine ⟨rfl, ?_⟩ | refine ⟨by decide, ?_⟩ | refine ⟨⟨by decide, by decide⟩, ?_⟩ | refine ⟨decide_eq_true (by omega), ?_⟩ | refine ⟨⟨decide_eq_true (by omega), decide_eq_true (by omega)⟩, ?_⟩)
            try (first | done | decide | exact decide_eq_true (by omega) | exact ⟨decide_eq_true (by omega), decide_eq_true (by omega)⟩)
            obtain ⟨u, e1, ⟨_, he1⟩, ht⟩ := c_s_l1Below d7 2 hd7
            refine .of (ht) ?_
            try simp -implicitDefEqProofs (maxSteps := 1000000) only [go_sem, true_implies, false_implies]
            repeat (first | refine ⟨rfl, ?_⟩ | refine ⟨by decide, ?_⟩ | refine ⟨⟨by decide, by decide⟩, ?_⟩ | refine ⟨decide_eq_true (by omega), ?_⟩ | refine ⟨⟨decide_eq_true (by omega), decide_eq_true (by omega)⟩, ?_⟩)
            try (first | done | decide | exact decide_eq_true (by omega) | exact ⟨decide_eq_true (by omega), decide_eq_true (by omega)⟩)
            obtain ⟨v, e2, ⟨_, he2⟩, ht⟩ := c_s_l1Below e1 2 he1
            refine .of (ht) ?_
            try simp -implicitDefEqProofs (maxSteps := 1000000) only [go_sem, true_implies, false_implies]
            repeat (first | refine ⟨rfl, ?_⟩ | refine ⟨by decide, ?_⟩ | refine ⟨⟨by decide, by decide⟩, ?_⟩ | refine ⟨decide_eq_true (by omega), ?_⟩ | refine ⟨⟨decide_eq_true (by omega), decide_eq_true (by omega)⟩, ?_⟩)
            try (first | done | decide | exact decide_eq_true (by omega) | exact ⟨decide_eq_true (by omega), decide_eq_true (by omega)⟩)
            exact ⟨⟨K, IntKind.i64.wrap (3 + u), IntKind.i64.wrap (1 + v), sq, key, tx, n, cd⟩, e2, ⟨hS _ _, he2⟩, rfl⟩
        · refine .of (ht) ?_
          try simp -implicitDefEqProofs (maxSteps := 1000000) only [go_sem, true_implies, false_implies, g1, g2, g3, g4]
          repeat (first | refine ⟨rfl, ?_⟩ | refine ⟨by decide, ?_⟩ | refine ⟨⟨by decide, by decide⟩, ?_⟩ | refine ⟨decide_eq_true (by omega), ?_⟩ | refine ⟨⟨decide_eq_true (by omega), decide_eq_true (by omega)⟩, ?_⟩)
          try (first | done | decide | exact decide_eq_true (by omega) | exact ⟨decide_eq_true (by omega), decide_eq_true (by omega)⟩)
          obtain ⟨u, e1, ⟨_, he1⟩, ht⟩ := c_s_l1Below d7 2 hd7
          refine .of (ht) ?_
          try simp -implicitDefEqProofs (maxSteps := 1000000) only [go_sem, true_implies, false_implies]
          repeat (first | refine ⟨rfl, ?_⟩ | refine ⟨by decide, ?_⟩ | refine ⟨⟨by decide, by decide⟩, ?_⟩ | refine ⟨decide_eq_true (by omega), ?_⟩ | refine ⟨⟨decide_eq_true (by omega), decide_eq_true (by omega)⟩, ?_⟩)
          try (first | done | decide | exact decide_eq_true (by omega) | exact ⟨decide_eq_true (by omega), decide_eq_true (by omega)⟩)
          obtain ⟨v, e2, ⟨_, he2⟩, ht⟩ := c_s_l1Below e1 2 he1
          refine .of (ht) ?_
          try simp -implicitDefEqProofs (maxSteps := 1000000) only [go_sem, true_implies, false_implies]
          repeat (first | refine ⟨rfl, ?_⟩ | refine ⟨by decide, ?_⟩ | refine ⟨⟨by decide, by decide⟩, ?_⟩ | refine ⟨decide_eq_true (by omega), ?_⟩ | refine ⟨⟨decide_eq_true (by omega), decide_eq_true (by omega)⟩, ?_⟩)
          try (first | done | decide | exact decide_eq_true (by omega) | exact ⟨decide_eq_true (by omega), decide_eq_true (by omega)⟩)
          exact ⟨⟨K, IntKind.i64.wrap (3 + u), IntKind.i64.wrap (1 + v), sq, key, tx, n, cd⟩, e2, ⟨hS _ _, he2⟩, rfl⟩
      · refine .of (ht) ?_
        try simp -implicitDefEqProofs (maxSteps := 1000000) only [go_sem, true_implies, false_implies, g1, g3, g4]
        repeat (first | refine ⟨rfl, ?_⟩ | refine ⟨by decide, ?_⟩ | refine ⟨⟨by decide, by decide⟩, ?_⟩ | refine ⟨decide_eq_true (by omega), ?_⟩ | refine ⟨⟨decide_eq_true (by omega), decide_eq_true (by omega)⟩, ?_⟩)
        try (first | done | decide | exact decide_eq_true (by omega) | exact ⟨decide_eq_true (by omega), decide_eq_true (by omega)⟩)
        obtain ⟨u, e1, ⟨_, he1⟩, ht⟩ := c_s_l1Below d7 2 hd7
        refine .of (ht) ?_
        try simp -implicitDefEqProofs (maxSteps := 1000000) only [go_sem, true_implies, false_implies]
        repeat (first | refine ⟨rfl, ?_⟩ | refine ⟨by decide, ?_⟩ | refine ⟨⟨by decide, by decide⟩, ?_⟩ | refine ⟨decide_eq_true (by omega), ?_⟩ | refine ⟨⟨decide_eq_true (by omega), decide_eq_true (by omega)⟩, ?_⟩)
        try (first | done | decide | exact decide_eq_true (by omega) | exact ⟨decide_eq_true (by omega), decide_eq_true (by omega)⟩)
        obtain ⟨v, e2, ⟨_, he2⟩, ht⟩ := c_s_l1Below e1 2 he1
        refine .of (ht) ?_
        try simp -implicitDefEqProofs (maxSteps := 1000000) only [go_sem, true_implies, false_implies]
        repeat (first | refine ⟨rfl, ?_⟩ | refine ⟨by decide, ?_⟩ | refine ⟨⟨by decide, by decide⟩, ?_⟩ | refine ⟨decide_eq_true (by omega), ?_⟩ | refine ⟨⟨decide_eq_true (by omega), decide_eq_true (by omega)⟩, ?_⟩)
        try (first | done | decide | exact decide_eq_true (by omega) | exact ⟨decide_eq_true (by omega), decide_eq_true (by omega)⟩)
        exact ⟨⟨K, IntKind.i64.wrap (1 + u), IntKind.i64.wrap (3 + v), sq, key, tx, n, cd⟩, e2, ⟨hS _ _, he2⟩, rfl⟩
    · refine .of (ht) ?_
      try simp -implicitDefEqProofs (maxSteps := 1000000) only [go_sem, true_implies, false_implies, g1, g3]
      repeat (first | refine ⟨rfl, ?_⟩ | refine ⟨by decide, ?_⟩ | refine ⟨⟨by decide, by decide⟩, ?_⟩ | refine ⟨decide_eq_true (by omega), ?_⟩ | refine ⟨⟨decide_eq_true (by omega), decide_eq_true (by omega)⟩, ?_⟩)
      try (first | done | decide | exact decide_eq_true (by omega) | exact ⟨decide_eq_true (by omega), decide_eq_true (by omega)⟩)
      obtain ⟨u, e1, ⟨_, he1⟩, ht⟩ := c_s_l1Below d7 2 hd7
      refine .of (ht) ?_
      try simp -implicitDefEqProofs (maxSteps := 1000000) only [go_sem, true_implies, false_implies]
      repeat (first | refine ⟨rfl, ?_⟩ | refine ⟨by decide, ?_⟩ | refine ⟨⟨by decide, by decide⟩, ?_⟩ | refine ⟨decide_eq_true (by omega), ?_⟩ | refine ⟨⟨decide_eq_true (by omega), decide_eq_true (by omega)⟩, ?_⟩)
      try (first | done | decide | exact decide_eq_true (by omega) | exact ⟨decide_eq_true (by omega), decide_eq_true (by omega)⟩)
      obtain ⟨v, e2, ⟨_, he2⟩, ht⟩ := c_s_l1Below e1 2 he1
      refine .of (ht) ?_
      try simp -implicitDefEqProofs (maxSteps := 1000000) only [go_sem, true_implies, false_implies]
      repeat (first | refine ⟨rfl, ?_⟩ | refine ⟨by decide, ?_⟩ | refine ⟨⟨by decide, by decide⟩, ?_⟩ | refine ⟨decide_eq_true (by omega), ?_⟩ | refine ⟨⟨decide_eq_true (by omega), decide_eq_true (by omega)⟩, ?_⟩)
      try (first | done | decide | exact decide_eq_true (by omega) | exact ⟨decide_eq_true (by omega), decide_eq_true (by omega)⟩)
      exact ⟨⟨K, IntKind.i64.wrap (1 + u), IntKind.i64.wrap (3 + v), sq, key, tx, n, cd⟩, e2, ⟨hS _ _, he2⟩, rfl⟩
  · refine .of (ht) ?_
    try simp -implicitDefEqProofs (maxSteps := 1000000) only [go_sem, true_implies, false_implies, g1]
    repeat (first | refine ⟨rfl, ?_⟩ | refine ⟨by decide, ?_⟩ | refine ⟨⟨by decide, by decide⟩, ?_⟩ | refine ⟨decide_eq_true (by omega), ?_⟩ | refine ⟨⟨decide_eq_true (by omega), decide_eq_true (by omega)⟩, ?_⟩)
    try (first | done | decide | exact decide_eq_true (by omega) | exact ⟨decide_eq_true (by omega), decide_eq_true (by omega)⟩)
    obtain ⟨u, e1, ⟨_, he1⟩, ht⟩ := c_s_l1Below d7 2 hd7
    refine .of (ht) ?_
    try simp -implicitDefEqProofs (maxSteps := 1000000) only [go_sem, true_implies, false_implies]
    repeat (first | refine ⟨rfl, ?_⟩ | refine ⟨by decide, ?_⟩ | refine ⟨⟨by decide, by decide⟩, ?_⟩ | refine ⟨decide_eq_true (by omega), ?_⟩ | refine ⟨⟨decide_eq_true (by omega), decide_eq_true (by omega)⟩, ?_⟩)
    try (first | done | decide | exact decide_eq_true (by omega) | exact ⟨decide_eq_true (by omega), decide_eq_true (by omega)⟩)
    obtain ⟨v, e2, ⟨_, he2⟩, ht⟩ := c_s_l1Below e1 2 he1
    refine .of (ht) ?_
    try simp -implicitDefEqProofs (maxSteps := 1000000) only [go_sem, true_implies, false_implies]
    repeat (first | refine ⟨rfl, ?_⟩ | refine ⟨by decide, ?_⟩ | refine ⟨⟨by decide, by decide⟩, ?_⟩ | refine ⟨decide_eq_true (by omega), ?_⟩ | refine ⟨⟨decide_eq_true (by omega), decide_eq_true (by omega)⟩, ?_⟩)
    try (first | done | decide | exact decide_eq_true (by omega) | exact ⟨decide_eq_true (by omega), decide_eq_true (by omega)⟩)
    exact ⟨⟨K, IntKind.i64.wrap (1 + u), IntKind.i64.wrap (3 + v), sq, key, tx, n, cd⟩, e2, ⟨hS _ _, he2⟩, rfl⟩
end Go.X

/- Uc -/
namespace Go.X
set_option maxRecDepth 100000
set_option maxHeartbeats 8000000
abbrev zeroL (u : Int) : List (List T) := lentLL (List.take (60 + u).toNat (List.replicate (60 + u).toNat [Tr.pv (Value.int IntKind.u8 0)]))
theorem zero60 {u : Int} (h : 0 ≤ u) (h1 : u < 2) : (decide ((60 + u).toNat ≤ (60 + u).toNat) = true ∧ wholeLL (List.take (60 + u).toNat (List.replicate (60 + u).toNat [(Tr.pv (Value.int IntKind.u8 0) : T)])) = true) ∧ areBytes (zeroL u) = true ∧ (bytesOf (zeroL u)).length ≤ 61 := by
  rcases (show u = 0 ∨ u = 1 by omega) with rfl | rfl
  · exact ⟨⟨rfl, rfl⟩, rfl, by decide⟩
  · exact ⟨⟨rfl, rfl⟩, rfl, by decide⟩
def x_s_l16Any : FnX := ⟨60, [.cell 2 (some 8)],
  .seq (.reg [⟨none, some 2, 2, .alloc [.pv (.int .i64 0), .pv (.int .i64 0), .pv (.int .i64 0), .pv (.int .i64 0), .pv (.string ⟨#[]⟩), .pv (.string ⟨#[]⟩), .pv (.int .i64 0), .pv (.int .i64 0)]⟩])
 (.seq (.reg [⟨none, some 4, 4, .mv (.t 0)⟩,
   ⟨none, some 5, 5, .call 78 [5] [(.t 4)]⟩,
   ⟨none, some 3, 3, .alloc [.pv (.int .i64 0), .pv (.int .i64 0), .pv (.int .i64 0), .pv (.int .i64 0), .pv (.string ⟨#[]⟩), .pv (.string ⟨#[]⟩), .pv (.int .i64 0), .pv (.int .i64 0)]⟩,
   ⟨none, none, 100001, .store 8 (.t 3) (.t 5)⟩])
 (.seq (.seq (.reg [⟨none, some 6, 6, .mv (.t 0)⟩,
   ⟨none, some 7, 7, .call 45 [5, 0] [(.t 6), (.k (.one (.pv (.int .i64 14))))]⟩])
 (.block 0 (.seq (.reg [⟨none, some 9, 9, .bin .eql (.t 7) (.k (.one (.pv (.int .i64 0))))⟩,
   ⟨none, some 8, 8, .mv (.t 9)⟩])
 (.cond 8 (.reg [⟨none, some 10, 10, .mv (.t 0)⟩,
   ⟨none, some 11, 11, .bslice 1 [(.k (.one (.pv (.int .i64 0)))), (.k (.one (.pv (.int .i64 10)))), (.k (.one (.pv (.int .i64 1)))), (.k (.one (.pv (.int .i64 3))))]⟩,
   ⟨none, some 12, 12, .call 46 [5, 1] [(.t 10), (.t 11)]⟩,
   ⟨none, some 13, 13, .faddr (.t 3) 0⟩,
   ⟨none, none, 100002, .store 1 (.t 13) (.t 12)⟩]) (.seq (.reg [⟨none, some 15, 15, .bin .eql (.t 7) (.k (.one (.pv (.int .i64 1))))⟩,
   ⟨none, some 14, 14, .mv (.t 15)⟩])
 (.cond 14 (.reg [⟨none, some 16, 16, .mv (.t 0)⟩,
   ⟨none, some 17, 17, .bslice 1 [(.k (.one (.pv (.int .i64 (-1))))), (.k (.one (.pv (.int .i64 0)))), (.k (.one (.pv (.int .i64 4)))), (.k (.one (.pv (.int .i64 5))))]⟩,
   ⟨none, some 18, 18, .call 46 [5, 1] [(.t 16), (.t 17)]⟩,
   ⟨none, some 19, 19, .faddr (.t 3) 1⟩,
   ⟨none, none, 100003, .store 1 (.t 19) (.t 18)⟩]) (.seq (.reg [⟨none, some 21, 21, .bin .eql (.t 7) (.k (.one (.pv (.int .i64 2))))⟩,
   ⟨none, some 20, 20, .mv (.t 21)⟩])
 (.cond 20 (.reg [⟨none, some 22, 22, .mv (.t 0)⟩,
   ⟨none, some 23, 23, .bslice 1 [(.k (.one (.pv (.int .i64 (-1))))), (.k (.one (.pv (.int .i64 0)))), (.k (.one (.pv (.int .i64 4)))), (.k (.one (.pv (.int .i64 5))))]⟩,
   ⟨none, some 24, 24, .call 46 [5, 1] [(.t 22), (.t 23)]⟩,
   ⟨none, some 25, 25, .faddr (.t 3) 2⟩,
   ⟨none, none, 100004, .store 1 (.t 25) (.t 24)⟩]) (.seq (.reg [⟨none, some 27, 27, .bin .eql (.t 7) (.k (.one (.pv (.int .i64 3))))⟩,
   ⟨none, some 26, 26, .mv (.t 27)⟩])
 (.cond 26 (.reg [⟨none, some 28, 28, .mv (.t 0)⟩,
   ⟨none, some 29, 29, .call 79 [5] [(.t 28)]⟩,
   ⟨none, some 30, 30, .faddr (.t 3) 3⟩,
   ⟨none, none, 100005, .store 1 (.t 30) (.t 29)⟩]) (.seq (.reg [⟨none, some 32, 32, .bin .eql (.t 7) (.k (.one (.pv (.int .i64 4))))⟩,
   ⟨none, some 31, 31, .mv (.t 32)⟩])
 (.cond 31 (.reg [⟨none, some 33, 33, .mv (.t 0)⟩,
   ⟨none, some 34, 34, .call 45 [5, 0] [(.t 33), (.k (.one (.pv (.int .i64 2))))]⟩,
   ⟨none, some 35, 35, .bin .add (.k (.one (.pv (.int .i64 60)))) (.t 34)⟩,
   ⟨none, some 36, 36, .mks 1 1 [.pv (.int .u8 0)] (.t 35)⟩,
   ⟨none, some 37, 37, .conv .b2s (.t 36)⟩,
   ⟨none, some 38, 38, .faddr (.t 3) 4⟩,
   ⟨none, none, 100006, .store 1 (.t 38) (.t 37)⟩]) (.seq (.reg [⟨none, some 40, 40, .bin .eql (.t 7) (.k (.one (.pv (.int .i64 5))))⟩,
   ⟨none, some 39, 39, .mv (.t 40)⟩])
 (.cond 39 (.reg [⟨none, some 41, 41, .mv (.t 0)⟩,
   ⟨none, some 42, 42, .call 45 [5, 0] [(.t 41), (.k (.one (.pv (.int .i64 2))))]⟩,
   ⟨none, some 43, 43, .bin .add (.k (.one (.pv (.int .i64 60)))) (.t 42)⟩,
   ⟨none, some 44, 44, .mks 1 1 [.pv (.int .u8 0)] (.t 43)⟩,
   ⟨none, some 45, 45, .conv .b2s (.t 44)⟩,
   ⟨none, some 46, 46, .faddr (.t 3) 5⟩,
   ⟨none, none, 100007, .store 1 (.t 46) (.t 45)⟩]) (.seq (.reg [⟨none, some 48, 48, .bin .eql (.t 7) (.k (.one (.pv (.int .i64 6))))⟩,
   ⟨none, some 47, 47, .mv (.t 48)⟩])
 (.cond 47 (.reg [⟨none, some 49, 49, .mv (.t 0)⟩,
   ⟨none, some 50, 50, .bslice 1 [(.k (.one (.pv (.int .i64 (-1))))), (.k (.one (.pv (.int .i64 255)))), (.k (.one (.pv (.int .i64 256))))]⟩,
   ⟨none, some 51, 51, .call 46 [5, 1] [(.t 49), (.t 50)]⟩,
   ⟨none, some 52, 52, .faddr (.t 3) 6⟩,
   ⟨none, none, 100008, .store 1 (.t 52) (.t 51)⟩]) (.seq (.reg [⟨none, some 54, 54, .bin .eql (.t 7) (.k (.one (.pv (.int .i64 7))))⟩,
   ⟨none, some 53, 53, .mv (.t 54)⟩])
 (.cond 53 (.reg [⟨none, some 55, 55, .mv (.t 0)⟩,
   ⟨none, some 56, 56, .bslice 1 [(.k (.one (.pv (.int .i64 (-1))))), (.k (.one (.pv (.int .i64 6)))), (.k (.one (.pv (.int .i64 7))))]⟩,
   ⟨none, some 57, 57, .call 46 [5, 1] [(.t 55), (.t 56)]⟩,
   ⟨none, some 58, 58, .faddr (.t 3) 7⟩,
   ⟨none, none, 100009, .store 1 (.t 58) (.t 57)⟩]) (.skip)))))))))))))))))))
 (.seq (.reg [⟨none, some 59, 59, .load (some 8) (.t 3)⟩,
   ⟨none, none, 100010, .store 8 (.t 2) (.t 59)⟩])
 (.ret))))⟩
abbrev C_s_l16Any (Te : Nat → List AV → Res → Prop) : Prop := ∀ (c : CurV) (hc : c.ok), ∃ (m : Msg) (d : CurV), (msgS m ∧ d.ok) ∧ Te 57 [.ptr c.enc] ⟨[.agg m.row], [d.enc]⟩
theorem r_s_l16Any {Te : Nat → List AV → Res → Prop} (c_s_l16Draw : C_s_l16Draw Te) (c_s_l1Below : C_s_l1Below Te) (c_s_l1Int : C_s_l1Int Te) (c_s_l1Num : C_s_l1Num Te) : ∀ (c : CurV) (hc : c.ok), ∃ r0, (∃ (m : Msg) (d : CurV), (msgS m ∧ d.ok) ∧ r0 = (⟨[.agg m.row], [d.enc]⟩ : Res)) ∧ RunFn Te x_s_l16Any [.ptr c.enc] r0 := by
  intro c hc
  refine some_of (by simp -implicitDefEqProofs (maxSteps := 1000000) only [x_s_l16Any, go_sem]) (by rfl) ?_
  simp -implicitDefEqProofs (maxSteps := 1000000) only [x_s_l16Any, go_sem, true_implies, false_implies]
  repeat (first | refine ⟨rfl, ?_⟩ | refine ⟨by decide, ?_⟩ | refine ⟨⟨by decide, by decide⟩, ?_⟩ | refine ⟨decide_eq_true (by omega), ?_⟩ | refine ⟨⟨decide_eq_true (by omega), decide_eq_true (by omega)⟩, ?_⟩)
  try (first | done | decide | exact decide_eq_true (by omega) | exact ⟨decide_eq_true (by omega), decide_eq_true (by omega)⟩)
  obtain ⟨m, d0, ⟨⟨hk, htx⟩, hd0⟩, ht⟩ := c_s_l16Draw c hc
  refine .of (ht) ?_
  try simp -implicitDefEqProofs (maxSteps := 1000000) only [go_sem, true_implies, false_implies]
  repeat (first | refine ⟨rfl, ?_⟩ | refine ⟨by decide, ?_⟩ | refine ⟨⟨by decide, by decide⟩, ?_⟩ | refine ⟨decide_eq_true (by omega), ?_⟩ | refine ⟨⟨decide_eq_true (by omega), decide_eq_true (by omega)⟩, ?_⟩)
  try (first | done | decide | exact decide_eq_true (by omega) | exact ⟨decide_eq_true (by omega), decide_eq_true (by omega)⟩)
  obtain ⟨k, d, ⟨⟨hk0, hk1, _⟩, hd⟩, ht⟩ := c_s_l1Below d0 14 hd0
  have hk14 := hk1 (by decide)
  by_cases h0 : k = 0
  · subst h0
    refine .of (ht) ?_
    try simp -implicitDefEqProofs (maxSteps := 1000000) only [go_sem, true_implies, false_implies]
    repeat (first | refine ⟨rfl, ?_⟩ | refine ⟨by decide, ?_⟩ | refine ⟨⟨by decide, by decide⟩, ?_⟩ | refine ⟨decide_eq_true (by omega), ?_⟩ | refine ⟨⟨decide_eq_true (by omega), decide_eq_true (by omega)⟩, ?_⟩)
    try (first | done | decide | exact decide_eq_true (by omega) | exact ⟨decide_eq_true (by omega), decide_eq_true (by omega)⟩)
    obtain ⟨r, d, ⟨_, hd⟩, ht⟩ := c_s_l1Int d [0, 10, 1, 3] hd (by decide)
    refine .of (ht) ?_
    try simp -implicitDefEqProofs (maxSteps := 1000000) only [go_sem, true_implies, false_implies]
    repeat (first | refine ⟨rfl, ?_⟩ | refine ⟨by decide, ?_⟩ | refine ⟨⟨by decide, by decide⟩, ?_⟩ | refine ⟨decide_eq_true (by omega), ?_⟩ | refine ⟨⟨decide_eq_true (by omega), decide_eq_true (by omega)⟩, ?_⟩)
    try (first | done | decide | exact decide_eq_true (by omega) | exact ⟨decide_eq_true (by omega), decide_eq_true (by omega)⟩)
    exact ⟨⟨r, m.From, m.To, m.Seq, m.Key, m.Text, m.N, m.Code⟩, d, ⟨⟨hk, htx⟩, hd⟩, rfl⟩
  by_cases h1 : k = 1
  · subst h1
    refine .of (ht) ?_
    try simp -implicitDefEqProofs (maxSteps := 1000000) only [go_sem, true_implies, false_implies]
    repeat (first | refine ⟨rfl, ?_⟩ | refine ⟨by decide, ?_⟩ | refine ⟨⟨by decide, by decide⟩, ?_⟩ | refine ⟨decide_eq_true (by omega), ?_⟩ | refine ⟨⟨decide_eq_true (by omega), decide_eq_true (by omega)⟩, ?_⟩)
    try (first | done | decide | exact decide_eq_true (by omega) | exact ⟨decide_eq_true (by omega), decide_eq_true (by omega)⟩)
    obtain ⟨r, d, ⟨_, hd⟩, ht⟩ := c_s_l1Int d [-1, 0, 4, 5] hd (by decide)
    refine .of (ht) ?_
    try simp -implicitDefEqProofs (maxSteps := 1000000) only [go_sem, true_implies, false_implies]
    repeat (first | refine ⟨rfl, ?_⟩ | refine ⟨by decide, ?_⟩ | refine ⟨⟨by decide, by decide⟩, ?_⟩ | refine ⟨decide_eq_true (by omega), ?_⟩ | refine ⟨⟨decide_eq_true (by omega), decide_eq_true (by omega)⟩, ?_⟩)
    try (first | done | decide | exact decide_eq_true (by omega) | exact ⟨decide_eq_true (by omega), decide_eq_true (by omega)⟩)
    exact ⟨⟨m.Kind, r, m.To, m.Seq, m.Key, m.Text, m.N, m.Code⟩, d, ⟨⟨hk, htx⟩, hd⟩, rfl⟩
  by_cases h2 : k = 2
  · subst h2
    refine .of (ht) ?_
    try simp -implicitDefEqProofs (maxSteps := 1000000) only [go_sem, true_implies, false_implies]
    repeat (first | refine ⟨rfl, ?_⟩ | refine ⟨by decide, ?_⟩ | refine ⟨⟨by decide, by decide⟩, ?_⟩ | refine ⟨decide_eq_true (by omega), ?_⟩ | refine ⟨⟨decide_eq_true (by omega), decide_eq_true (by omega)⟩, ?_⟩)
    try (first | done | decide | exact decide_eq_true (by omega) | exact ⟨decide_eq_true (by omega), decide_eq_true (by omega)⟩)
    obtain ⟨r, d, ⟨_, hd⟩, ht⟩ := c_s_l1Int d [-1, 0, 4, 5] hd (by decide)
    refine .of (ht) ?_
    try simp -implicitDefEqProofs (maxSteps := 1000000) only [go_sem, true_implies, false_implies]
    repeat (first | refine ⟨rfl, ?_⟩ | refine ⟨by decide, ?_⟩ | refine ⟨⟨by decide, by decide⟩, ?_⟩ | refine ⟨decide_eq_true (by omega), ?_⟩ | refine ⟨⟨decide_eq_true (by omega), decide_eq_true (by omega)⟩, ?_⟩)
    try (first | done | decide | exact decide_eq_true (by omega) | exact ⟨decide_eq_true (by omega), decide_eq_true (by omega)⟩)
    exact ⟨⟨m.Kind, m.From, r, m.Seq, m.Key, m.Text, m.N, m.Code⟩, d, ⟨⟨hk, htx⟩, hd⟩, rfl⟩
  by_cases h3 : k = 3
  · subst h3
    refine .of (ht) ?_
    try simp -implicitDefEqProofs (maxSteps := 1000000) only [go_sem, true_implies, false_implies]
    repeat (first | refine ⟨rfl, ?_⟩ | refine ⟨by decide, ?_⟩ | refine ⟨⟨by decide, by decide⟩, ?_⟩ | refine ⟨decide_eq_true (by omega), ?_⟩ | refine ⟨⟨decide_eq_true (by omega), decide_eq_true (by omega)⟩, ?_⟩)
    try (first | done | decide | exact decide_eq_true (by omega) | exact ⟨decide_eq_true (by omega), decide_eq_true (by omega)⟩)
    obtain ⟨r, d, hd, ht⟩ := c_s_l1Num d hd
    refine .of (ht) ?_
    try simp -implicitDefEqProofs (maxSteps := 1000000) only [go_sem, true_implies, false_implies]
    repeat (first | refine ⟨rfl, ?_⟩ | refine ⟨by decide, ?_⟩ | refine ⟨⟨by decide, by decide⟩, ?_⟩ | refine ⟨decide_eq_true (by omega), ?_⟩ | refine ⟨⟨decide_eq_true (by omega), decide_eq_true (by omega)⟩, ?_⟩)
    try (first | done | decide | exact decide_eq_true (by omega) | exact ⟨decide_eq_true (by omega), decide_eq_true (by omega)⟩)
    exact ⟨⟨m.Kind, m.From, m.To, r, m.Key, m.Text, m.N, m.Code⟩, d, ⟨⟨hk, htx⟩, hd⟩, rfl⟩
  by_cases h4 : k = 4
  · subst h4
    refine .of (ht) ?_
    try simp -implicitDefEqProofs (maxSteps := 1000000) only [go_sem, true_implies, false_implies]
    repeat (first | refine ⟨rfl, ?_⟩ | refine ⟨by decide, ?_⟩ | refine ⟨⟨by decide, by decide⟩, ?_⟩ | refine ⟨decide_eq_true (by omega), ?_⟩ | refine ⟨⟨decide_eq_true (by omega), decide_eq_true (by omega)⟩, ?_⟩)
    try (first | done | decide | exact decide_eq_true (by omega) | exact ⟨decide_eq_true (by omega), decide_eq_true (by omega)⟩)
    obtain ⟨u, d, ⟨hu, hd⟩, ht⟩ := c_s_l1Below d 2 hd
    have hu1 := hu.2.1 (by decide)
    have wu : IntKind.i64.wrap (60 + u) = 60 + u := IntWalk.i64_in _ (by omega)
    have z := zero60 hu.1 hu1
    refine .of (ht) ?_
    try simp -implicitDefEqProofs (maxSteps := 1000000) only [go_sem, true_implies, false_implies, wu]
    repeat (first | refine ⟨rfl, ?_⟩ | refine ⟨by decide, ?_⟩ | refine ⟨⟨by decide, by decide⟩, ?_⟩ | refine ⟨decide_eq_true (by omega), ?_⟩ | refine ⟨⟨decide_eq_true (by omega), decide_eq_true (by omega)⟩, ?_⟩)
    try (first | done | decide | exact decide_eq_true (by omega) | exact ⟨decide_eq_true (by omega), decide_eq_true (by omega)⟩)
    exact ⟨z.1, z.2.1, ⟨m.Kind, m.From, m.To, m.Seq, ⟨(bytesOf (zeroL u)).toArray⟩, m.Text, m.N, m.Code⟩, d, ⟨⟨z.2.2, htx⟩, hd⟩, rfl⟩
  by_cases h5 : k = 5
  · subst h5
    refine .of (ht) ?_
    try simp -implicitDefEqProofs (maxSteps := 1000000) only [go_sem, true_implies, false_implies]
    repeat (first | refine ⟨rfl, ?_⟩ | refine ⟨by decide, ?_⟩ | refine ⟨⟨by decide, by decide⟩, ?_⟩ | refine ⟨decide_eq_true (by omega), ?_⟩ | refine ⟨⟨decide_eq_true (by omega), decide_eq_true (by omega)⟩, ?_⟩)
    try (first | done | decide | exact decide_eq_true (by omega) | exact ⟨decide_eq_true (by omega), decide_eq_true (by omega)⟩)
    obtain ⟨u, d, ⟨hu, hd⟩, ht⟩ := c_s_l1Below d 2 hd
    have hu1 := hu.2.1 (by decide)
    have wu : IntKind.i64.wrap (60 + u) = 60 + u := IntWalk.i64_in _ (by omega)
    have z := zero60 hu.1 hu1
    refine .of (ht) ?_
    try simp -implicitDefEqProofs (maxSteps := 1000000) only [go_sem, true_implies, false_implies, wu]
    repeat (first | refine ⟨rfl, ?_⟩ | refine ⟨by decide, ?_⟩ | refine ⟨⟨by decide, by decide⟩, ?_⟩ | refine ⟨decide_eq_true (by omega), ?_⟩ | refine ⟨⟨decide_eq_true (by omega), decide_eq_true (by omega)⟩, ?_⟩)
    try (first | done | decide | exact decide_eq_true (by omega) | exact ⟨decide_eq_true (by omega), decide_eq_true (by omega)⟩)
    exact ⟨z.1, z.2.1, ⟨m.Kind, m.From, m.To, m.Seq, m.Key, ⟨(bytesOf (zeroL u)).toArray⟩, m.N, m.Code⟩, d, ⟨⟨hk, z.2.2⟩, hd⟩, rfl⟩
  by_cases h6 : k = 6
  · subst h6
    refine .of (ht) ?_
    try simp -implicitDefEqProofs (maxSteps := 1000000) only [go_sem, true_implies, false_implies]
    repeat (first | refine ⟨rfl, ?_⟩ | refine ⟨by decide, ?_⟩ | refine ⟨⟨by decide, by decide⟩, ?_⟩ | refine ⟨decide_eq_true (by omega), ?_⟩ | refine ⟨⟨decide_eq_true (by omega), decide_eq_true (by omega)⟩, ?_⟩)
    try (first | done | decide | exact decide_eq_true (by omega) | exact ⟨decide_eq_true (by omega), decide_eq_true (by omega)⟩)
    obtain ⟨r, d, ⟨_, hd⟩, ht⟩ := c_s_l1Int d [-1, 255, 256] hd (by decide)
    refine .of (ht) ?_
    try simp -implicitDefEqProofs (maxSteps := 1000000) only [go_sem, true_implies, false_implies]
    repeat (first | refine ⟨rfl, ?_⟩ | refine ⟨by decide, ?_⟩ | refine ⟨⟨by decide, by decide⟩, ?_⟩ | refine ⟨decide_eq_true (by omega), ?_⟩ | refine ⟨⟨decide_eq_true (by omega), decide_eq_true (by omega)⟩, ?_⟩)
    try (first | done | decide | exact decide_eq_true (by omega) | exact ⟨decide_eq_true (by omega), decide_eq_true (by omega)⟩)
    exact ⟨⟨m.Kind, m.From, m.To, m.Seq, m.Key, m.Text, r, m.Code⟩, d, ⟨⟨hk, htx⟩, hd⟩, rfl⟩
  by_cases h7 : k = 7
  · subst h7
    refine .of (ht) ?_
    try simp -implicitDefEqProofs (maxSteps := 1000000) only [go_sem, true_implies, false_implies]
    repeat (first | refine ⟨rfl, ?_⟩ | refine ⟨by decide, ?_⟩ | refine ⟨⟨by decide, by decide⟩, ?_⟩ | refine ⟨decide_eq_true (by omega), ?_⟩ | refine ⟨⟨decide_eq_true (by omega), decide_eq_true (by omega)⟩, ?_⟩)
    try (first | done | decide | exact decide_eq_true (by omega) | exact ⟨decide_eq_true (by omega), decide_eq_true (by omega)⟩)
    obtain ⟨r, d, ⟨_, hd⟩, ht⟩ := c_s_l1Int d [-1, 6, 7] hd (by decide)
    refine .of (ht) ?_
    try simp -implicitDefEqProofs (maxSteps := 1000000) only [go_sem, true_implies, false_implies]
    repeat (first | refine ⟨rfl, ?_⟩ | refine ⟨by decide, ?_⟩ | refine ⟨⟨by decide, by decide⟩, ?_⟩ | refine ⟨decide_eq_true (by omega), ?_⟩ | refine ⟨⟨decide_eq_true (by omega), decide_eq_true (by omega)⟩, ?_⟩)
    try (first | done | decide | exact decide_eq_true (by omega) | exact ⟨decide_eq_true (by omega), decide_eq_true (by omega)⟩)
    exact ⟨⟨m.Kind, m.From, m.To, m.Seq, m.Key, m.Text, m.N, r⟩, d, ⟨⟨hk, htx⟩, hd⟩, rfl⟩
  have e : ∀ j : Int, k ≠ j → (k == j) = false := fun j h => by simpa using h
  refine .of (ht) ?_
  try simp -implicitDefEqProofs (maxSteps := 1000000) only [go_sem, true_implies, false_implies, e 0 h0, e 1 h1, e 2 h2, e 3 h3, e 4 h4, e 5 h5, e 6 h6, e 7 h7]
  repeat (first | refine ⟨rfl, ?_⟩ | refine ⟨by decide, ?_⟩ | refine ⟨⟨by decide, by decide⟩, ?_⟩ | refine ⟨decide_eq_true (by omega), ?_⟩ | refine ⟨⟨decide_eq_true (by omega), decide_eq_true (by omega)⟩, ?_⟩)
  try (first | done | decide | exact decide_eq_true (by omega) | exact ⟨decide_eq_true (by omega), decide_eq_true (by omega)⟩)
  exact ⟨m, d, ⟨⟨hk, htx⟩, hd⟩, rfl⟩
end Go.X

/- Ue -/
namespace Go.X
set_option maxRecDepth 100000
set_option maxHeartbeats 8000000
def back (m : Msg) (k : Int) : Msg := ⟨k, m.To, m.From, m.Seq, ⟨#[]⟩, ⟨#[]⟩, 0, 0⟩
theorem askFor_In {c : ClientV} {n : Nat} (h : c.In n) (kind : Int) {key text : ByteArray} (hk : key.size ≤ n) (ht : text.size ≤ n) : (askFor c kind key text).1.In n ∧ (askFor c kind key text).2.1.In n := by
  unfold askFor
  split
  · have hm : (askMsg c kind key text).In n := by
      refine ⟨hk, ?_⟩
      show (if kind = 3 then text else ⟨#[]⟩ : ByteArray).size ≤ n
      split
      · exact ht
      · exact Nat.zero_le _
    exact ⟨⟨hm, h.2⟩, hm⟩
  · exact ⟨h, Nat.zero_le _, Nat.zero_le _⟩
theorem askFor_dones (c : ClientV) (kind : Int) (key text : ByteArray) : (askFor c kind key text).1.Dones = c.Dones := by
  unfold askFor
  split <;> rfl
theorem toldDone_In {c : ClientV} {n : Nat} (h : c.In n) {m : Msg} (ht : m.Text.size ≤ n) : (toldDone c m).In n := by
  refine ⟨h.1.1, ?_⟩
  show (if c.M.Kind = 1 then m.Text else c.M.Text : ByteArray).size ≤ n
  split
  · exact ht
  · exact h.1.2
theorem told_In {c : ClientV} {n : Nat} (h : c.In n) (hn : 60 ≤ n) {m : Msg} (ht : m.Text.size ≤ n) : (told c m).1.In n := by
  unfold told
  split
  · refine ⟨⟨Nat.zero_le _, Nat.zero_le _⟩, ?_⟩
    dsimp only
    split
    · refine ⟨by simp only [List.length_append, List.length_cons, List.length_nil]; omega, fun y hy => ?_⟩
      rcases List.mem_append.1 hy with hy | hy
      · exact h.2.2 y hy
      · simp only [List.mem_cons, List.not_mem_nil, or_false] at hy
        subst hy
        exact toldDone_In h ht
    · exact h.2
  · exact h
theorem told_dones {c : ClientV} (h : c.Dones.length ≤ 60) (m : Msg) : (told c m).1.Dones.length ≤ 60 := by
  unfold told
  split
  · dsimp only
    split
    · simp only [List.length_append, List.length_cons, List.length_nil]; omega
    · exact h
  · exact h
def clS (c : ClientV) : Prop := c.In 61
theorem clS_In {c : ClientV} (h : clS c) {n : Nat} (hn : 61 ≤ n := by decide) : c.In n := ClientV.In.mono h hn
def x_s_l18Back : FnX := ⟨13, [.cell 4 (some 8)],
  .seq (.reg [⟨none, some 2, 2, .box (.t 0)⟩,
   ⟨none, some 4, 4, .alloc [.pv (.int .i64 0), .pv (.int .i64 0), .pv (.int .i64 0), .pv (.int .i64 0), .pv (.string ⟨#[]⟩), .pv (.string ⟨#[]⟩), .pv (.int .i64 0), .pv (.int .i64 0)]⟩])
 (.seq (.reg [⟨none, some 5, 5, .mv (.t 1)⟩,
   ⟨none, some 6, 6, .faddr (.t 2) 2⟩,
   ⟨none, some 7, 7, .load none (.t 6)⟩,
   ⟨none, some 8, 8, .faddr (.t 2) 1⟩,
   ⟨none, some 9, 9, .load none (.t 8)⟩,
   ⟨none, some 10, 10, .faddr (.t 2) 3⟩,
   ⟨none, some 11, 11, .load none (.t 10)⟩,
   ⟨none, some 12, 12, .build [.pv (.int .i64 0), .pv (.int .i64 0), .pv (.int .i64 0), .pv (.int .i64 0), .pv (.string ⟨#[]⟩), .pv (.string ⟨#[]⟩), .pv (.int .i64 0), .pv (.int .i64 0)] [(0, 1, (.t 5)), (1, 1, (.t 7)), (2, 1, (.t 9)), (3, 1, (.t 11))]⟩,
   ⟨none, none, 100001, .store 8 (.t 4) (.t 12)⟩])
 (.ret))⟩
abbrev C_s_l18Back (Te : Nat → List AV → Res → Prop) : Prop := ∀ (m : Msg) (k : Int), Te 56 [.agg m.row, .one (iT k)] ⟨[.agg (back m k).row], [m.row, [iT k]]⟩
theorem r_s_l18Back {Te : Nat → List AV → Res → Prop} : ∀ (m : Msg) (k : Int), RunFn Te x_s_l18Back [.agg m.row, .one (iT k)] ⟨[.agg (back m k).row], [m.row, [iT k]]⟩ := by
  intro m k
  refine ⟨by simp -implicitDefEqProofs (maxSteps := 1000000) only [x_s_l18Back, go_sem], ?_⟩
  simp -implicitDefEqProofs (maxSteps := 1000000) only [x_s_l18Back, go_sem, true_implies, false_implies]
  repeat (first | refine ⟨rfl, ?_⟩ | refine ⟨by decide, ?_⟩ | refine ⟨⟨by decide, by decide⟩, ?_⟩ | refine ⟨decide_eq_true (by omega), ?_⟩ | refine ⟨⟨decide_eq_true (by omega), decide_eq_true (by omega)⟩, ?_⟩)
  try (first | done | decide | exact decide_eq_true (by omega) | exact ⟨decide_eq_true (by omega), decide_eq_true (by omega)⟩)
  try rfl
def x_s_l2Text : FnX := ⟨22, [.tmp 4],
  .seq (.reg [⟨none, some 4, 4, .mv (.k (.one (.pv (.string ⟨#[]⟩))))⟩])
 (.seq (.reg [⟨none, some 7, 7, .bslice 1 []⟩,
   ⟨none, some 5, 5, .mv (.t 7)⟩])
 (.seq (.seq (.reg [⟨none, some 8, 8, .mv (.t 0)⟩,
   ⟨none, some 9, 9, .mv (.t 1)⟩,
   ⟨none, some 10, 10, .bin .add (.t 9) (.k (.one (.pv (.int .i64 1))))⟩,
   ⟨none, some 11, 11, .call 45 [5, 0] [(.t 8), (.t 10)]⟩,
   ⟨none, some 6, 6, .mv (.t 11)⟩])
 (.block 0 (.loop [0, 5, 6] (.seq (.seq (.reg [⟨none, some 12, 12, .mv (.t 6)⟩,
   ⟨none, some 13, 13, .bin .gtr (.t 12) (.k (.one (.pv (.int .i64 0))))⟩])
 (.cond 13 (.skip) (.exit 0)))
 (.seq (.block 1 (.reg [⟨none, some 16, 16, .mv (.t 5)⟩,
   ⟨none, some 17, 17, .mv (.t 0)⟩,
   ⟨none, some 18, 18, .call 75 [5] [(.t 17)]⟩,
   ⟨none, some 19, 19, .call 74 [0, 0] [(.t 16), (.t 18)]⟩,
   ⟨none, some 5, 5, .mv (.t 19)⟩]))
 (.reg [⟨none, some 14, 14, .mv (.t 6)⟩,
   ⟨none, some 15, 15, .bin .sub (.t 14) (.k (.one (.pv (.int .i64 1))))⟩,
   ⟨none, some 6, 6, .mv (.t 15)⟩]))))))
 (.norm [5] (.seq (.reg [⟨none, some 20, 20, .mv (.t 5)⟩,
   ⟨none, some 21, 21, .conv .b2s (.t 20)⟩,
   ⟨none, some 4, 4, .mv (.t 21)⟩])
 (.ret)))))⟩
abbrev C_s_l2Text (Te : Nat → List AV → Res → Prop) : Prop := ∀ (c : CurV) (most : Int) (hc : c.ok) (hm : 0 ≤ most ∧ most ≤ 100), ∃ (r : ByteArray) (d : CurV), (r.size ≤ 4 * most.toNat ∧ d.ok) ∧ Te 47 [.ptr c.enc, .one (iT most)] ⟨[.one (sT r)], [d.enc, [iT most]]⟩
theorem r_s_l2Text {Te : Nat → List AV → Res → Prop} (c_s_l1Below : C_s_l1Below Te) (c_s_l2Sign : C_s_l2Sign Te) (c_s_PutSign : C_s_PutSign Te) : ∀ (c : CurV) (most : Int) (hc : c.ok) (hm : 0 ≤ most ∧ most ≤ 100), ∃ r0, (∃ (r : ByteArray) (d : CurV), (r.size ≤ 4 * most.toNat ∧ d.ok) ∧ r0 = (⟨[.one (sT r)], [d.enc, [iT most]]⟩ : Res)) ∧ RunFn Te x_s_l2Text [.ptr c.enc, .one (iT most)] r0 := by
  intro c most hc hm
  refine some_of (by simp -implicitDefEqProofs (maxSteps := 1000000) only [x_s_l2Text, go_sem]) (by rfl) ?_
  have w1 : IntKind.i64.wrap (most + 1) = most + 1 := IntWalk.i64_in _ (by omega)
  simp -implicitDefEqProofs (maxSteps := 1000000) only [x_s_l2Text, go_sem, true_implies, false_implies, w1]
  repeat (first | refine ⟨rfl, ?_⟩ | refine ⟨by decide, ?_⟩ | refine ⟨⟨by decide, by decide⟩, ?_⟩ | refine ⟨decide_eq_true (by omega), ?_⟩ | refine ⟨⟨decide_eq_true (by omega), decide_eq_true (by omega)⟩, ?_⟩)
  try (first | done | decide | exact decide_eq_true (by omega) | exact ⟨decide_eq_true (by omega), decide_eq_true (by omega)⟩)
  obtain ⟨k, d0, ⟨hk, hd0⟩, ht⟩ := c_s_l1Below c (most + 1) hc
  have hk1 := hk.2.1 (by omega)
  obtain ⟨K, rfl⟩ : ∃ K : Nat, k = K := ⟨k.toNat, by omega⟩
  refine .of (ht) ?_
  try simp -implicitDefEqProofs (maxSteps := 1000000) only [go_sem, true_implies, false_implies]
  repeat (first | refine ⟨rfl, ?_⟩ | refine ⟨by decide, ?_⟩ | refine ⟨⟨by decide, by decide⟩, ?_⟩ | refine ⟨decide_eq_true (by omega), ?_⟩ | refine ⟨⟨decide_eq_true (by omega), decide_eq_true (by omega)⟩, ?_⟩)
  try (first | done | decide | exact decide_eq_true (by omega) | exact ⟨decide_eq_true (by omega), decide_eq_true (by omega)⟩)
  refine loop_of (σ := Nat × List UInt8 × CurV) (fun x => ⟨[(0, .bp 0 0), (5, .one (.rf 24 0 [] 1 0 x.2.1.length)), (6, .one (.pv (.int .i64 x.1)))], [(0, [.ro 1 (x.2.2.b.map uR), .pv (.int .i64 x.2.2.i), .pv (.int .i64 x.2.2.h)])], [(0, c.enc), (1, [iT most]), (24, [slT true 1 uR x.2.1])]⟩) (fun x => x.1 ≤ K ∧ x.2.1.length ≤ 4 * (K - x.1) ∧ x.2.2.ok) (fun x => x.1) (K, [], d0) ?_ ⟨Nat.le_refl _, Nat.zero_le _, hd0⟩ ?_
  · simp -implicitDefEqProofs (maxSteps := 1000000) only [go_sem]
    rfl
  · rintro ⟨i, b, d⟩ ⟨hi, hb, hd⟩
    simp only at hi hb hd
    cases q : decide ((i : Int) > 0)
    · try simp -implicitDefEqProofs (maxSteps := 1000000) only [go_sem, true_implies, false_implies, q]
      repeat (first | refine ⟨rfl, ?_⟩ | refine ⟨by decide, ?_⟩ | refine ⟨⟨by decide, by decide⟩, ?_⟩ | refine ⟨decide_eq_true (by omega), ?_⟩ | refine ⟨⟨decide_eq_true (by omega), decide_eq_true (by omega)⟩, ?_⟩)
      try (first | done | decide | exact decide_eq_true (by omega) | exact ⟨decide_eq_true (by omega), decide_eq_true (by omega)⟩)
      have hi0 : i = 0 := by simp only [decide_eq_false_iff_not] at q; omega
      refine ⟨areBytes_uL b, ⟨(bytesOf (b.map uR)).toArray⟩, d, ⟨?_, hd⟩, rfl⟩
      show (bytesOf (b.map uR)).length ≤ _
      rw [bytesOf_uL]
      omega
    · simp only [decide_eq_true_eq] at q
      have w2 : IntKind.i64.wrap ((i : Int) - 1) = ((i - 1 : Nat) : Int) := by rw [IntWalk.i64_in _ (by omega)]; omega
      obtain ⟨r, d1, hd1, ht⟩ := c_s_l2Sign d hd
      have q' : decide ((i : Int) > 0) = true := decide_eq_true q
      try simp -implicitDefEqProofs (maxSteps := 1000000) only [go_sem, true_implies, false_implies, q']
      repeat (first | refine ⟨rfl, ?_⟩ | refine ⟨by decide, ?_⟩ | refine ⟨⟨by decide, by decide⟩, ?_⟩ | refine ⟨decide_eq_true (by omega), ?_⟩ | refine ⟨⟨decide_eq_true (by omega), decide_eq_true (by omega)⟩, ?_⟩)
      try (first | done | decide | exact decide_eq_true (by omega) | exact ⟨decide_eq_true (by omega), decide_eq_true (by omega)⟩)
      refine .of (ht) ?_
      try simp -implicitDefEqProofs (maxSteps := 1000000) only [go_sem, true_implies, false_implies]
      repeat (first | refine ⟨rfl, ?_⟩ | refine ⟨by decide, ?_⟩ | refine ⟨⟨by decide, by decide⟩, ?_⟩ | refine ⟨decide_eq_true (by omega), ?_⟩ | refine ⟨⟨decide_eq_true (by omega), decide_eq_true (by omega)⟩, ?_⟩)
      try (first | done | decide | exact decide_eq_true (by omega) | exact ⟨decide_eq_true (by omega), decide_eq_true (by omega)⟩)
      refine .of (c_s_PutSign b r (by omega)) ?_
      try simp -implicitDefEqProofs (maxSteps := 1000000) only [go_sem, true_implies, false_implies, w2]
      repeat (first | refine ⟨rfl, ?_⟩ | refine ⟨by decide, ?_⟩ | refine ⟨⟨by decide, by decide⟩, ?_⟩ | refine ⟨decide_eq_true (by omega), ?_⟩ | refine ⟨⟨decide_eq_true (by omega), decide_eq_true (by omega)⟩, ?_⟩)
      try (first | done | decide | exact decide_eq_true (by omega) | exact ⟨decide_eq_true (by omega), decide_eq_true (by omega)⟩)
      have hl := putSign_len b r
      exact ⟨(i - 1, putSign b r, d1), rfl, ⟨by simp only; omega, by simp only; omega, hd1⟩, by simp only; omega⟩
def x_s_l20Draw : FnX := ⟨52, [.cell 2 (some 12)],
  .seq (.reg [⟨none, some 2, 2, .alloc [.pv (.int .i64 0), .pv (.int .i64 0), .pv (.bool false), .pv (.int .i64 0), .pv (.int .i64 0), .pv (.int .i64 0), .pv (.int .i64 0), .pv (.string ⟨#[]⟩), .pv (.string ⟨#[]⟩), .pv (.int .i64 0), .pv (.int .i64 0), .nils 5]⟩])
 (.seq (.reg [⟨none, some 9, 9, .mv (.t 0)⟩,
   ⟨none, some 10, 10, .call 45 [5, 0] [(.t 9), (.k (.one (.pv (.int .i64 2))))]⟩,
   ⟨none, some 11, 11, .bin .add (.k (.one (.pv (.int .i64 1)))) (.t 10)⟩,
   ⟨none, some 12, 12, .call 81 [0] [(.t 11)]⟩,
   ⟨none, some 3, 3, .alloc [.pv (.int .i64 0), .pv (.int .i64 0), .pv (.bool false), .pv (.int .i64 0), .pv (.int .i64 0), .pv (.int .i64 0), .pv (.int .i64 0), .pv (.string ⟨#[]⟩), .pv (.string ⟨#[]⟩), .pv (.int .i64 0), .pv (.int .i64 0), .nils 5]⟩,
   ⟨none, none, 100001, .store 12 (.t 3) (.t 12)⟩])
 (.seq (.seq (.reg [⟨none, some 13, 13, .mv (.t 0)⟩,
   ⟨none, some 14, 14, .call 45 [5, 0] [(.t 13), (.k (.one (.pv (.int .i64 5))))]⟩,
   ⟨none, some 4, 4, .mv (.t 14)⟩])
 (.block 0 (.loop [0, 2, 3, 4] (.seq (.seq (.reg [⟨none, some 15, 15, .mv (.t 4)⟩,
   ⟨none, some 16, 16, .bin .gtr (.t 15) (.k (.one (.pv (.int .i64 0))))⟩])
 (.cond 16 (.skip) (.exit 0)))
 (.seq (.block 1 (.seq (.draw [⟨none, some 20, 20, .load (some 12) (.t 3)⟩,
   ⟨none, some 21, 21, .mv (.t 0)⟩,
   ⟨none, some 22, 22, .bslice 1 [(.k (.one (.pv (.int .i64 1)))), (.k (.one (.pv (.int .i64 3)))), (.k (.one (.pv (.int .i64 4))))]⟩,
   ⟨none, some 23, 23, .call 46 [5, 1] [(.t 21), (.t 22)]⟩,
   ⟨none, some 24, 24, .mv (.t 0)⟩,
   ⟨none, some 25, 25, .call 43 [5] [(.t 24)]⟩,
   ⟨none, some 26, 26, .mv (.t 0)⟩,
   ⟨none, some 27, 27, .call 82 [5, 0, 0] [(.t 26), (.k (.one (.pv (.int .i64 1)))), (.k (.one (.pv (.int .i64 3))))]⟩,
   ⟨none, some 28, 28, .call 8 [0, 0, 0, 0] [(.t 20), (.t 23), (.t 25), (.t 27)]⟩,
   ⟨none, some 19, 19, .mv (.t 28)⟩,
   ⟨none, some 29, 29, .ext (.t 19) 0⟩,
   ⟨none, some 30, 30, .ext (.t 19) 1⟩,
   ⟨none, some 31, 31, .ext (.t 19) 2⟩,
   ⟨none, some 5, 5, .alloc [.pv (.int .i64 0), .pv (.int .i64 0), .pv (.bool false), .pv (.int .i64 0), .pv (.int .i64 0), .pv (.int .i64 0), .pv (.int .i64 0), .pv (.string ⟨#[]⟩), .pv (.string ⟨#[]⟩), .pv (.int .i64 0), .pv (.int .i64 0), .nils 5]⟩,
   ⟨none, some 6, 6, .alloc [.pv (.int .i64 0), .pv (.int .i64 0), .pv (.int .i64 0), .pv (.int .i64 0), .pv (.string ⟨#[]⟩), .pv (.string ⟨#[]⟩), .pv (.int .i64 0), .pv (.int .i64 0)]⟩,
   ⟨none, none, 100002, .store 12 (.t 5) (.t 29)⟩,
   ⟨none, none, 100003, .store 8 (.t 6) (.t 30)⟩,
   ⟨none, some 7, 7, .mv (.t 31)⟩] [[], [], [], [1, 2], [], [4, 3], [], [6, 5], [0, 3, 5, 7, 7], [8], [9], [9], [9], [], [], [13, 10, 8, 0, 1, 2, 3, 4, 5, 6, 7, 8, 9, 10, 13, 14], [14, 11, 15, 0, 1, 2, 3, 4, 5, 6, 7, 8, 9, 10, 11, 13, 14, 15], [12, 16, 0, 1, 2, 3, 4, 5, 6, 7, 8, 9, 10, 11, 12, 13, 14, 15, 16]])
 (.seq (.reg [⟨none, some 32, 32, .load (some 12) (.t 5)⟩,
   ⟨none, none, 100004, .store 12 (.t 3) (.t 32)⟩])
 (.seq (.reg [⟨none, some 33, 33, .mv (.t 7)⟩,
   ⟨none, some 34, 34, .mv (.t 33)⟩,
   ⟨(some (34, true)), some 35, 35, .mv (.t 0)⟩,
   ⟨(some (34, true)), some 36, 36, .call 44 [5, 0] [(.t 35), (.k (.one (.pv (.int .i64 4))))]⟩,
   ⟨(some (34, true)), some 37, 37, .not (.t 36)⟩,
   ⟨none, some 38, 38, .pick (.t 34) (.t 37) (.k (.one (.pv (.bool false))))⟩])
 (.cond 38 (.seq (.reg [⟨none, some 39, 39, .load (some 8) (.t 6)⟩,
   ⟨none, some 40, 40, .call 56 [0, 0] [(.t 39), (.k (.one (.pv (.int .i64 5))))]⟩,
   ⟨none, some 8, 8, .alloc [.pv (.int .i64 0), .pv (.int .i64 0), .pv (.int .i64 0), .pv (.int .i64 0), .pv (.string ⟨#[]⟩), .pv (.string ⟨#[]⟩), .pv (.int .i64 0), .pv (.int .i64 0)]⟩,
   ⟨none, none, 100005, .store 8 (.t 8) (.t 40)⟩])
 (.seq (.seq (.reg [⟨none, some 41, 41, .faddr (.t 6) 0⟩,
   ⟨none, some 42, 42, .load none (.t 41)⟩,
   ⟨none, some 43, 43, .bin .eql (.t 42) (.k (.one (.pv (.int .i64 1))))⟩])
 (.cond 43 (.reg [⟨none, some 44, 44, .faddr (.t 8) 0⟩,
   ⟨none, none, 100006, .store 1 (.t 44) (.k (.one (.pv (.int .i64 2))))⟩]) (.skip)))
 (.reg [⟨none, some 46, 46, .load (some 12) (.t 3)⟩,
   ⟨none, some 47, 47, .load (some 8) (.t 8)⟩,
   ⟨none, some 48, 48, .call 14 [0, 0] [(.t 46), (.t 47)]⟩,
   ⟨none, some 45, 45, .mv (.t 48)⟩,
   ⟨none, some 49, 49, .ext (.t 45) 0⟩,
   ⟨none, some 50, 50, .ext (.t 45) 1⟩,
   ⟨none, none, 100007, .store 12 (.t 3) (.t 49)⟩]))) (.skip))))))
 (.reg [⟨none, some 17, 17, .mv (.t 4)⟩,
   ⟨none, some 18, 18, .bin .sub (.t 17) (.k (.one (.pv (.int .i64 1))))⟩,
   ⟨none, some 4, 4, .mv (.t 18)⟩]))))))
 (.norm [2, 3] (.seq (.reg [⟨none, some 51, 51, .load (some 12) (.t 3)⟩,
   ⟨none, none, 100008, .store 12 (.t 2) (.t 51)⟩])
 (.ret)))))⟩
abbrev C_s_l20Draw (Te : Nat → List AV → Res → Prop) : Prop := ∀ (c : CurV) (hc : c.ok), ∃ (x : ClientV) (d : CurV), ((clS x ∧ x.Dones.length ≤ 60) ∧ d.ok) ∧ Te 71 [.ptr c.enc] ⟨[.agg (x.enc true)], [d.enc]⟩
theorem r_s_l20Draw {Te : Nat → List AV → Res → Prop} (c_s_l1Below : C_s_l1Below Te) (c_s_ClientNew : C_s_ClientNew Te) (c_s_l1Int : C_s_l1Int Te) (c_s_l1Name : C_s_l1Name Te) (c_s_l5Text : C_s_l5Text Te) (c_s_AskFor : C_s_AskFor Te) (c_s_l1Once : C_s_l1Once Te) (c_s_l18Back : C_s_l18Back Te) (c_s_Told : C_s_Told Te) : ∀ (c : CurV) (hc : c.ok), ∃ r0, (∃ (x : ClientV) (d : CurV), ((clS x ∧ x.Dones.length ≤ 60) ∧ d.ok) ∧ r0 = (⟨[.agg (x.enc true)], [d.enc]⟩ : Res)) ∧ RunFn Te x_s_l20Draw [.ptr c.enc] r0 := by
  intro c hc
  refine some_of (by simp -implicitDefEqProofs (maxSteps := 1000000) only [x_s_l20Draw, go_sem]) (by rfl) ?_
  simp -implicitDefEqProofs (maxSteps := 1000000) only [x_s_l20Draw, go_sem, true_implies, false_implies]
  repeat (first | refine ⟨rfl, ?_⟩ | refine ⟨by decide, ?_⟩ | refine ⟨⟨by decide, by decide⟩, ?_⟩ | refine ⟨decide_eq_true (by omega), ?_⟩ | refine ⟨⟨decide_eq_true (by omega), decide_eq_true (by omega)⟩, ?_⟩)
  try (first | done | decide | exact decide_eq_true (by omega) | exact ⟨decide_eq_true (by omega), decide_eq_true (by omega)⟩)
  obtain ⟨k, d, ⟨hk, hd⟩, ht⟩ := c_s_l1Below c 2 hc
  obtain ⟨w, wk⟩ : ∃ w, IntKind.i64.wrap (1 + k) = w := ⟨_, rfl⟩
  refine .of (ht) ?_
  try simp -implicitDefEqProofs (maxSteps := 1000000) only [go_sem, true_implies, false_implies, wk]
  repeat (first | refine ⟨rfl, ?_⟩ | refine ⟨by decide, ?_⟩ | refine ⟨⟨by decide, by decide⟩, ?_⟩ | refine ⟨decide_eq_true (by omega), ?_⟩ | refine ⟨⟨decide_eq_true (by omega), decide_eq_true (by omega)⟩, ?_⟩)
  try (first | done | decide | exact decide_eq_true (by omega) | exact ⟨decide_eq_true (by omega), decide_eq_true (by omega)⟩)
  refine .of (c_s_ClientNew w) ?_
  try simp -implicitDefEqProofs (maxSteps := 1000000) only [go_sem, true_implies, false_implies]
  repeat (first | refine ⟨rfl, ?_⟩ | refine ⟨by decide, ?_⟩ | refine ⟨⟨by decide, by decide⟩, ?_⟩ | refine ⟨decide_eq_true (by omega), ?_⟩ | refine ⟨⟨decide_eq_true (by omega), decide_eq_true (by omega)⟩, ?_⟩)
  try (first | done | decide | exact decide_eq_true (by omega) | exact ⟨decide_eq_true (by omega), decide_eq_true (by omega)⟩)
  obtain ⟨k2, d0, ⟨hk2, hd0⟩, ht⟩ := c_s_l1Below d 5 hd
  have hk3 := hk2.2.1 (by decide)
  obtain ⟨K, rfl⟩ : ∃ K : Nat, k2 = K := ⟨k2.toNat, by omega⟩
  refine .of (ht) ?_
  try simp -implicitDefEqProofs (maxSteps := 1000000) only [go_sem, true_implies, false_implies]
  repeat (first | refine ⟨rfl, ?_⟩ | refine ⟨by decide, ?_⟩ | refine ⟨⟨by decide, by decide⟩, ?_⟩ | refine ⟨decide_eq_true (by omega), ?_⟩ | refine ⟨⟨decide_eq_true (by omega), decide_eq_true (by omega)⟩, ?_⟩)
  try (first | done | decide | exact decide_eq_true (by omega) | exact ⟨decide_eq_true (by omega), decide_eq_true (by omega)⟩)
  refine loop_of (σ := Nat × ClientV × List Go.X.T × CurV) (fun x => ⟨[(0, .bp 0 0), (2, .bp 2 0), (3, .bp 3 0), (4, .one (.pv (.int .i64 x.1)))], [(0, [.ro 1 (x.2.2.2.b.map uR), .pv (.int .i64 x.2.2.2.i), .pv (.int .i64 x.2.2.2.h)]), (2, [.pv (.int .i64 0), .pv (.int .i64 0), .pv (.bool false), .pv (.int .i64 0), .pv (.int .i64 0), .pv (.int .i64 0), .pv (.int .i64 0), .pv (.string ⟨#[]⟩), .pv (.string ⟨#[]⟩), .pv (.int .i64 0), .pv (.int .i64 0), .nils 5]), (3, [.pv (.int .i64 x.2.1.Id), .pv (.int .i64 x.2.1.Seq), .pv (.bool x.2.1.Busy), .pv (.int .i64 x.2.1.M.Kind), .pv (.int .i64 x.2.1.M.From), .pv (.int .i64 x.2.1.M.To), .pv (.int .i64 x.2.1.M.Seq), .pv (.string x.2.1.M.Key), .pv (.string x.2.1.M.Text), .pv (.int .i64 x.2.1.M.N), .pv (.int .i64 x.2.1.M.Code), .rf 53 11 [] 5 0 x.2.1.Dones.length])], [(0, c.enc), (53, iT x.2.1.Id :: iT x.2.1.Seq :: bT x.2.1.Busy :: iT x.2.1.M.Kind :: iT x.2.1.M.From :: iT x.2.1.M.To :: iT x.2.1.M.Seq :: sT x.2.1.M.Key :: sT x.2.1.M.Text :: iT x.2.1.M.N :: iT x.2.1.M.Code :: slT true 5 DoneV.row x.2.1.Dones :: x.2.2.1)]⟩) (fun x => x.1 ≤ K ∧ (clS x.2.1 ∧ x.2.1.Dones.length ≤ 60) ∧ x.2.2.2.ok) (fun x => x.1) (K, client0 w, [], d0) ?_ ⟨Nat.le_refl _, ⟨⟨⟨Nat.zero_le _, Nat.zero_le _⟩, Nat.zero_le _, fun y hy => by cases hy⟩, Nat.zero_le _⟩, hd0⟩ ?_
  · simp -implicitDefEqProofs (maxSteps := 1000000) only [go_sem]
    try rfl
  · rintro ⟨i, x, ex, d⟩ ⟨hi, ⟨hx, hx6⟩, hd⟩
    simp only at hi hx hx6 hd
    cases q : decide ((i : Int) > 0)
    · try simp -implicitDefEqProofs (maxSteps := 1000000) only [go_sem, true_implies, false_implies, q]
      repeat (first | refine ⟨rfl, ?_⟩ | refine ⟨by decide, ?_⟩ | refine ⟨⟨by decide, by decide⟩, ?_⟩ | refine ⟨decide_eq_true (by omega), ?_⟩ | refine ⟨⟨decide_eq_true (by omega), decide_eq_true (by omega)⟩, ?_⟩)
      try (first | done | decide | exact decide_eq_true (by omega) | exact ⟨decide_eq_true (by omega), decide_eq_true (by omega)⟩)
      exact ⟨x, d, ⟨⟨hx, hx6⟩, hd⟩, rfl⟩
    · simp only [decide_eq_true_eq] at q
      have w2 : IntKind.i64.wrap ((i : Int) - 1) = ((i - 1 : Nat) : Int) := by rw [IntWalk.i64_in _ (by omega)]; omega
      have q' : decide ((i : Int) > 0) = true := decide_eq_true q
      obtain ⟨kd, d1, ⟨_, hd1⟩, ht1⟩ := c_s_l1Int d [1, 3, 4] hd (by decide)
      obtain ⟨key, d2, ⟨hkey, hd2⟩, ht2⟩ := c_s_l1Name d1 hd1
      obtain ⟨tx, d3, ⟨htx, hd3⟩, ht3⟩ := c_s_l5Text d2 1 3 hd2 (by decide)
      have htx' : tx.size ≤ 12 := htx
      have ha := c_s_AskFor x kd key tx (clS_In hx) (by omega)
      have hy := askFor_In (n := 61) hx kd (show key.size ≤ 61 by omega) (show tx.size ≤ 61 by omega)
      have hy6 : (askFor x kd key tx).1.Dones.length ≤ 60 := by rw [askFor_dones]; exact hx6
      try simp -implicitDefEqProofs (maxSteps := 1000000) only [go_sem, true_implies, false_implies, q']
      repeat (first | refine ⟨rfl, ?_⟩ | refine ⟨by decide, ?_⟩ | refine ⟨⟨by decide, by decide⟩, ?_⟩ | refine ⟨decide_eq_true (by omega), ?_⟩ | refine ⟨⟨decide_eq_true (by omega), decide_eq_true (by omega)⟩, ?_⟩)
      try (first | done | decide | exact decide_eq_true (by omega) | exact ⟨decide_eq_true (by omega), decide_eq_true (by omega)⟩)
      refine .of (ht1) ?_
      try simp -implicitDefEqProofs (maxSteps := 1000000) only [go_sem, true_implies, false_implies]
      repeat (first | refine ⟨rfl, ?_⟩ | refine ⟨by decide, ?_⟩ | refine ⟨⟨by decide, by decide⟩, ?_⟩ | refine ⟨decide_eq_true (by omega), ?_⟩ | refine ⟨⟨decide_eq_true (by omega), decide_eq_true (by omega)⟩, ?_⟩)
      try (first | done | decide | exact decide_eq_true (by omega) | exact ⟨decide_eq_true (by omega), decide_eq_true (by omega)⟩)
      refine .of (ht2) ?_
      try simp -implicitDefEqProofs (maxSteps := 1000000) only [go_sem, true_implies, false_implies]
      repeat (first | refine ⟨rfl, ?_⟩ | refine ⟨by decide, ?_⟩ | refine ⟨⟨by decide, by decide⟩, ?_⟩ | refine ⟨decide_eq_true (by omega), ?_⟩ | refine ⟨⟨decide_eq_true (by omega), decide_eq_true (by omega)⟩, ?_⟩)
      try (first | done | decide | exact decide_eq_true (by omega) | exact ⟨decide_eq_true (by omega), decide_eq_true (by omega)⟩)
      refine .of (ht3) ?_
      try simp -implicitDefEqProofs (maxSteps := 1000000) only [go_sem, true_implies, false_implies]
      repeat (first | refine ⟨rfl, ?_⟩ | refine ⟨by decide, ?_⟩ | refine ⟨⟨by decide, by decide⟩, ?_⟩ | refine ⟨decide_eq_true (by omega), ?_⟩ | refine ⟨⟨decide_eq_true (by omega), decide_eq_true (by omega)⟩, ?_⟩)
      try (first | done | decide | exact decide_eq_true (by omega) | exact ⟨decide_eq_true (by omega), decide_eq_true (by omega)⟩)
      generalize askFor x kd key tx = y at ha hy hy6
      obtain ⟨y, m, b⟩ := y
      simp only at ha hy hy6
      refine .of (ha) ?_
      try simp -implicitDefEqProofs (maxSteps := 1000000) only [go_sem, true_implies, false_implies]
      repeat (first | refine ⟨rfl, ?_⟩ | refine ⟨by decide, ?_⟩ | refine ⟨⟨by decide, by decide⟩, ?_⟩ | refine ⟨decide_eq_true (by omega), ?_⟩ | refine ⟨⟨decide_eq_true (by omega), decide_eq_true (by omega)⟩, ?_⟩)
      try (first | done | decide | exact decide_eq_true (by omega) | exact ⟨decide_eq_true (by omega), decide_eq_true (by omega)⟩)
      cases b
      · try simp -implicitDefEqProofs (maxSteps := 1000000) only [go_sem, true_implies, false_implies, w2]
        repeat (first | refine ⟨rfl, ?_⟩ | refine ⟨by decide, ?_⟩ | refine ⟨⟨by decide, by decide⟩, ?_⟩ | refine ⟨decide_eq_true (by omega), ?_⟩ | refine ⟨⟨decide_eq_true (by omega), decide_eq_true (by omega)⟩, ?_⟩)
        try (first | done | decide | exact decide_eq_true (by omega) | exact ⟨decide_eq_true (by omega), decide_eq_true (by omega)⟩)
        exact ⟨(i - 1, y, [iT m.Kind, iT m.From, iT m.To, iT m.Seq, sT m.Key, sT m.Text, iT m.N, iT m.Code, bT false], d3), rfl, ⟨by simp only; omega, ⟨hy.1, hy6⟩, hd3⟩, by simp only; omega⟩
      · try simp -implicitDefEqProofs (maxSteps := 1000000) only [go_sem, true_implies, false_implies]
        repeat (first | refine ⟨rfl, ?_⟩ | refine ⟨by decide, ?_⟩ | refine ⟨⟨by decide, by decide⟩, ?_⟩ | refine ⟨decide_eq_true (by omega), ?_⟩ | refine ⟨⟨decide_eq_true (by omega), decide_eq_true (by omega)⟩, ?_⟩)
        try (first | done | decide | exact decide_eq_true (by omega) | exact ⟨decide_eq_true (by omega), decide_eq_true (by omega)⟩)
        obtain ⟨r, d4, hd4, ht4⟩ := c_s_l1Once d3 4 hd3
        refine .of (ht4) ?_
        try simp -implicitDefEqProofs (maxSteps := 1000000) only [go_sem, true_implies, false_implies]
        repeat (first | refine ⟨rfl, ?_⟩ | refine ⟨by decide, ?_⟩ | refine ⟨⟨by decide, by decide⟩, ?_⟩ | refine ⟨decide_eq_true (by omega), ?_⟩ | refine ⟨⟨decide_eq_true (by omega), decide_eq_true (by omega)⟩, ?_⟩)
        try (first | done | decide | exact decide_eq_true (by omega) | exact ⟨decide_eq_true (by omega), decide_eq_true (by omega)⟩)
        cases r
        · try simp -implicitDefEqProofs (maxSteps := 1000000) only [go_sem, true_implies, false_implies]
          repeat (first | refine ⟨rfl, ?_⟩ | refine ⟨by decide, ?_⟩ | refine ⟨⟨by decide, by decide⟩, ?_⟩ | refine ⟨decide_eq_true (by omega), ?_⟩ | refine ⟨⟨decide_eq_true (by omega), decide_eq_true (by omega)⟩, ?_⟩)
          try (first | done | decide | exact decide_eq_true (by omega) | exact ⟨decide_eq_true (by omega), decide_eq_true (by omega)⟩)
          refine .of (c_s_l18Back m 5) ?_
          try simp -implicitDefEqProofs (maxSteps := 1000000) only [go_sem, true_implies, false_implies]
          repeat (first | refine ⟨rfl, ?_⟩ | refine ⟨by decide, ?_⟩ | refine ⟨⟨by decide, by decide⟩, ?_⟩ | refine ⟨decide_eq_true (by omega), ?_⟩ | refine ⟨⟨decide_eq_true (by omega), decide_eq_true (by omega)⟩, ?_⟩)
          try (first | done | decide | exact decide_eq_true (by omega) | exact ⟨decide_eq_true (by omega), decide_eq_true (by omega)⟩)
          cases g : (m.Kind == 1)
          · have hT := c_s_Told y ⟨5, m.To, m.From, m.Seq, ⟨#[]⟩, ⟨#[]⟩, 0, 0⟩ (clS_In hy.1)
            have hz := told_In hy.1 (by decide) (m := ⟨5, m.To, m.From, m.Seq, ⟨#[]⟩, ⟨#[]⟩, 0, 0⟩) (Nat.zero_le _)
            have hz6 := told_dones hy6 ⟨5, m.To, m.From, m.Seq, ⟨#[]⟩, ⟨#[]⟩, 0, 0⟩
            generalize told y ⟨5, m.To, m.From, m.Seq, ⟨#[]⟩, ⟨#[]⟩, 0, 0⟩ = z at hT hz hz6
            obtain ⟨z, u⟩ := z
            simp only at hT hz hz6
            try simp -implicitDefEqProofs (maxSteps := 1000000) only [go_sem, true_implies, false_implies, g]
            repeat (first | refine ⟨rfl, ?_⟩ | refine ⟨by decide, ?_⟩ | refine ⟨⟨by decide, by decide⟩, ?_⟩ | refine ⟨decide_eq_true (by omega), ?_⟩ | refine ⟨⟨decide_eq_true (by omega), decide_eq_true (by omega)⟩, ?_⟩)
            try (first | done | decide | exact decide_eq_true (by omega) | exact ⟨decide_eq_true (by omega), decide_eq_true (by omega)⟩)
            refine .of (hT) ?_
            try simp -implicitDefEqProofs (maxSteps := 1000000) only [go_sem, true_implies, false_implies, w2]
            repeat (first | refine ⟨rfl, ?_⟩ | refine ⟨by decide, ?_⟩ | refine ⟨⟨by decide, by decide⟩, ?_⟩ | refine ⟨decide_eq_true (by omega), ?_⟩ | refine ⟨⟨decide_eq_true (by omega), decide_eq_true (by omega)⟩, ?_⟩)
            try (first | done | decide | exact decide_eq_true (by omega) | exact ⟨decide_eq_true (by omega), decide_eq_true (by omega)⟩)
            exact ⟨(i - 1, z, [bT u], d4), rfl, ⟨by simp only; omega, ⟨hz, hz6⟩, hd4⟩, by simp only; omega⟩
          · have hT := c_s_Told y ⟨2, m.To, m.From, m.Seq, ⟨#[]⟩, ⟨#[]⟩, 0, 0⟩ (clS_In hy.1)
            have hz := told_In hy.1 (by decide) (m := ⟨2, m.To, m.From, m.Seq, ⟨#[]⟩, ⟨#[]⟩, 0, 0⟩) (Nat.zero_le _)
            have hz6 := told_dones hy6 ⟨2, m.To, m.From, m.Seq, ⟨#[]⟩, ⟨#[]⟩, 0, 0⟩
            generalize told y ⟨2, m.To, m.From, m.Seq, ⟨#[]⟩, ⟨#[]⟩, 0, 0⟩ = z at hT hz hz6
            obtain ⟨z, u⟩ := z
            simp only at hT hz hz6
            try simp -implicitDefEqProofs (maxSteps := 1000000) only [go_sem, true_implies, false_implies, g]
            repeat (first | refine ⟨rfl, ?_⟩ | refine ⟨by decide, ?_⟩ | refine ⟨⟨by decide, by decide⟩, ?_⟩ | refine ⟨decide_eq_true (by omega), ?_⟩ | refine ⟨⟨decide_eq_true (by omega), decide_eq_true (by omega)⟩, ?_⟩)
            try (first | done | decide | exact decide_eq_true (by omega) | exact ⟨decide_eq_true (by omega), decide_eq_true (by omega)⟩)
            refine .of (hT) ?_
            try simp -implicitDefEqProofs (maxSteps := 1000000) only [go_sem, true_implies, false_implies, w2]
            repeat (first | refine ⟨rfl, ?_⟩ | refine ⟨by decide, ?_⟩ | refine ⟨⟨by decide, by decide⟩, ?_⟩ | refine ⟨decide_eq_true (by omega), ?_⟩ | refine ⟨⟨decide_eq_true (by omega), decide_eq_true (by omega)⟩, ?_⟩)
            try (first | done | decide | exact decide_eq_true (by omega) | exact ⟨decide_eq_true (by omega), decide_eq_true (by omega)⟩)
            exact ⟨(i - 1, z, [bT u], d4), rfl, ⟨by simp only; omega, ⟨hz, hz6⟩, hd4⟩, by simp only; omega⟩
        · try simp -implicitDefEqProofs (maxSteps := 1000000) only [go_sem, true_implies, false_implies, w2]
          repeat (first | refine ⟨rfl, ?_⟩ | refine ⟨by decide, ?_⟩ | refine ⟨⟨by decide, by decide⟩, ?_⟩ | refine ⟨decide_eq_true (by omega), ?_⟩ | refine ⟨⟨decide_eq_true (by omega), decide_eq_true (by omega)⟩, ?_⟩)
          try (first | done | decide | exact decide_eq_true (by omega) | exact ⟨decide_eq_true (by omega), decide_eq_true (by omega)⟩)
          exact ⟨(i - 1, y, [iT m.Kind, iT m.From, iT m.To, iT m.Seq, sT m.Key, sT m.Text, iT m.N, iT m.Code, bT true], d4), rfl, ⟨by simp only; omega, ⟨hy.1, hy6⟩, hd4⟩, by simp only; omega⟩
end Go.X

/- Uf -/
namespace Go.X
set_option maxRecDepth 100000
set_option maxHeartbeats 8000000
theorem done_beq (x y : DoneV) : eqL [0, 0, 2, 2, 0] [.pv (.int .i64 x.Seq), .pv (.int .i64 x.Kind), .pv (.string x.Key), .pv (.string x.Text), .pv (.int .i64 x.Code)] [.pv (.int .i64 y.Seq), .pv (.int .i64 y.Kind), .pv (.string y.Key), .pv (.string y.Text), .pv (.int .i64 y.Code)] = some (decide (x = y)) := by
  have key : (x = y) ↔ x.Seq = y.Seq ∧ x.Kind = y.Kind ∧ x.Key = y.Key ∧ x.Text = y.Text ∧ x.Code = y.Code := by cases x; cases y; simp
  simp only [eqL, eqV, bytes_beq, beq_self_eq_true, cond_true, Option.bind_some, Option.map_some, key]
  congr 1
  rw [Bool.eq_iff_iff]
  simp
abbrev clCells (x : ClientV) (r : Nat) : List Cel := [.pv (.int .i64 x.Id), .pv (.int .i64 x.Seq), .pv (.bool x.Busy), .pv (.int .i64 x.M.Kind), .pv (.int .i64 x.M.From), .pv (.int .i64 x.M.To), .pv (.int .i64 x.M.Seq), .pv (.string x.M.Key), .pv (.string x.M.Text), .pv (.int .i64 x.M.N), .pv (.int .i64 x.M.Code), .rf r 11 [] 5 0 x.Dones.length]
def x_s_l20Any : FnX := ⟨63, [.cell 2 (some 12)],
  .seq (.reg [⟨none, some 2, 2, .alloc [.pv (.int .i64 0), .pv (.int .i64 0), .pv (.bool false), .pv (.int .i64 0), .pv (.int .i64 0), .pv (.int .i64 0), .pv (.int .i64 0), .pv (.string ⟨#[]⟩), .pv (.string ⟨#[]⟩), .pv (.int .i64 0), .pv (.int .i64 0), .nils 5]⟩])
 (.seq (.reg [⟨none, some 4, 4, .mv (.t 0)⟩,
   ⟨none, some 5, 5, .call 71 [5] [(.t 4)]⟩,
   ⟨none, some 3, 3, .alloc [.pv (.int .i64 0), .pv (.int .i64 0), .pv (.bool false), .pv (.int .i64 0), .pv (.int .i64 0), .pv (.int .i64 0), .pv (.int .i64 0), .pv (.string ⟨#[]⟩), .pv (.string ⟨#[]⟩), .pv (.int .i64 0), .pv (.int .i64 0), .nils 5]⟩,
   ⟨none, none, 100001, .store 12 (.t 3) (.t 5)⟩])
 (.seq (.seq (.reg [⟨none, some 6, 6, .mv (.t 0)⟩,
   ⟨none, some 7, 7, .call 45 [5, 0] [(.t 6), (.k (.one (.pv (.int .i64 12))))]⟩])
 (.block 0 (.seq (.reg [⟨none, some 9, 9, .bin .eql (.t 7) (.k (.one (.pv (.int .i64 0))))⟩,
   ⟨none, some 8, 8, .mv (.t 9)⟩])
 (.cond 8 (.reg [⟨none, some 10, 10, .mv (.t 0)⟩,
   ⟨none, some 11, 11, .bslice 1 [(.k (.one (.pv (.int .i64 0)))), (.k (.one (.pv (.int .i64 1)))), (.k (.one (.pv (.int .i64 3))))]⟩,
   ⟨none, some 12, 12, .call 46 [5, 1] [(.t 10), (.t 11)]⟩,
   ⟨none, some 13, 13, .faddr (.t 3) 0⟩,
   ⟨none, none, 100002, .store 1 (.t 13) (.t 12)⟩]) (.seq (.reg [⟨none, some 15, 15, .bin .eql (.t 7) (.k (.one (.pv (.int .i64 1))))⟩,
   ⟨none, some 14, 14, .mv (.t 15)⟩])
 (.cond 14 (.reg [⟨none, some 16, 16, .mv (.t 0)⟩,
   ⟨none, some 17, 17, .bslice 1 [(.k (.one (.pv (.int .i64 (-1))))), (.k (.one (.pv (.int .i64 0)))), (.k (.one (.pv (.int .i64 60000)))), (.k (.one (.pv (.int .i64 60001))))]⟩,
   ⟨none, some 18, 18, .call 46 [5, 1] [(.t 16), (.t 17)]⟩,
   ⟨none, some 19, 19, .faddr (.t 3) 1⟩,
   ⟨none, none, 100003, .store 1 (.t 19) (.t 18)⟩]) (.seq (.reg [⟨none, some 21, 21, .bin .eql (.t 7) (.k (.one (.pv (.int .i64 2))))⟩,
   ⟨none, some 20, 20, .mv (.t 21)⟩])
 (.cond 20 (.reg [⟨none, some 22, 22, .faddr (.t 3) 2⟩,
   ⟨none, some 23, 23, .load none (.t 22)⟩,
   ⟨none, some 24, 24, .not (.t 23)⟩,
   ⟨none, some 25, 25, .faddr (.t 3) 2⟩,
   ⟨none, none, 100004, .store 1 (.t 25) (.t 24)⟩]) (.seq (.reg [⟨none, some 27, 27, .bin .eql (.t 7) (.k (.one (.pv (.int .i64 3))))⟩,
   ⟨none, some 26, 26, .mv (.t 27)⟩])
 (.cond 26 (.reg [⟨none, some 28, 28, .mv (.t 0)⟩,
   ⟨none, some 29, 29, .call 57 [5] [(.t 28)]⟩,
   ⟨none, some 30, 30, .faddr (.t 3) 3⟩,
   ⟨none, none, 100005, .store 8 (.t 30) (.t 29)⟩]) (.seq (.reg [⟨none, some 32, 32, .bin .eql (.t 7) (.k (.one (.pv (.int .i64 4))))⟩,
   ⟨none, some 31, 31, .mv (.t 32)⟩])
 (.cond 31 (.draw [⟨none, some 33, 33, .faddr (.t 3) 11⟩,
   ⟨none, some 34, 34, .load none (.t 33)⟩,
   ⟨none, some 35, 35, .mv (.t 0)⟩,
   ⟨none, some 36, 36, .call 45 [5, 0] [(.t 35), (.k (.one (.pv (.int .i64 9))))]⟩,
   ⟨none, some 37, 37, .mv (.t 0)⟩,
   ⟨none, some 38, 38, .call 45 [5, 0] [(.t 37), (.k (.one (.pv (.int .i64 5))))]⟩,
   ⟨none, some 39, 39, .mv (.t 0)⟩,
   ⟨none, some 40, 40, .bslice 1 [(.k (.one (.pv (.int .i64 0)))), (.k (.one (.pv (.int .i64 7))))]⟩,
   ⟨none, some 41, 41, .call 46 [5, 1] [(.t 39), (.t 40)]⟩,
   ⟨none, some 42, 42, .build [.pv (.int .i64 0), .pv (.int .i64 0), .pv (.string ⟨#[]⟩), .pv (.string ⟨#[]⟩), .pv (.int .i64 0)] [(0, 1, (.t 36)), (1, 1, (.t 38)), (4, 1, (.t 41))]⟩,
   ⟨none, some 43, 43, .bslice 5 [(.t 42)]⟩,
   ⟨none, some 44, 44, .app 5 56 (.t 34) (.t 43)⟩,
   ⟨none, some 45, 45, .faddr (.t 3) 11⟩,
   ⟨none, none, 100006, .store 1 (.t 45) (.t 44)⟩] [[], [0], [], [2], [], [4, 3], [], [], [6, 7, 5], [3, 5, 8], [9], [1, 10, 8], [0, 1, 2, 3, 4, 5, 6, 7, 8, 9, 10, 11], [12, 11, 11, 0, 1, 2, 3, 4, 5, 6, 7, 8, 9, 10, 11]]) (.seq (.reg [⟨none, some 47, 47, .bin .eql (.t 7) (.k (.one (.pv (.int .i64 5))))⟩,
   ⟨none, some 46, 46, .mv (.t 47)⟩])
 (.cond 46 (.block 1 (.loop [0, 2, 3] (.seq (.seq (.draw [⟨none, some 48, 48, .faddr (.t 3) 11⟩,
   ⟨none, some 49, 49, .load none (.t 48)⟩,
   ⟨none, some 50, 50, .len (.t 49)⟩,
   ⟨none, some 51, 51, .mv (.t 0)⟩,
   ⟨none, some 52, 52, .call 45 [5, 0] [(.t 51), (.k (.one (.pv (.int .i64 3))))]⟩,
   ⟨none, some 53, 53, .bin .add (.k (.one (.pv (.int .i64 59)))) (.t 52)⟩,
   ⟨none, some 54, 54, .bin .lss (.t 50) (.t 53)⟩] [[], [0], [1], [], [3], [4], [2, 5]])
 (.cond 54 (.skip) (.exit 1)))
 (.block 2 (.seq (.reg [⟨none, some 55, 55, .faddr (.t 3) 1⟩,
   ⟨none, none, 100007, .store 1 (.t 55) (.k (.one (.pv (.int .i64 60))))⟩])
 (.reg [⟨none, some 56, 56, .faddr (.t 3) 11⟩,
   ⟨none, some 57, 57, .load none (.t 56)⟩,
   ⟨none, some 58, 58, .build [.pv (.int .i64 0), .pv (.int .i64 0), .pv (.string ⟨#[]⟩), .pv (.string ⟨#[]⟩), .pv (.int .i64 0)] [(0, 1, (.k (.one (.pv (.int .i64 1))))), (1, 1, (.k (.one (.pv (.int .i64 1)))))]⟩,
   ⟨none, some 59, 59, .bslice 5 [(.t 58)]⟩,
   ⟨none, some 60, 60, .app 5 56 (.t 57) (.t 59)⟩,
   ⟨none, some 61, 61, .faddr (.t 3) 11⟩,
   ⟨none, none, 100008, .store 1 (.t 61) (.t 60)⟩])))))) (.skip)))))))))))))))
 (.norm [2, 3] (.seq (.reg [⟨none, some 62, 62, .load (some 12) (.t 3)⟩,
   ⟨none, none, 100009, .store 12 (.t 2) (.t 62)⟩])
 (.ret)))))⟩
abbrev C_s_l20Any (Te : Nat → List AV → Res → Prop) : Prop := ∀ (c : CurV) (hc : c.ok), ∃ (x : ClientV) (d : CurV), (clS x ∧ d.ok) ∧ Te 42 [.ptr c.enc] ⟨[.agg (x.enc true)], [d.enc]⟩
theorem r_s_l20Any {Te : Nat → List AV → Res → Prop} (c_s_l20Draw : C_s_l20Draw Te) (c_s_l1Below : C_s_l1Below Te) (c_s_l1Int : C_s_l1Int Te) (c_s_l16Any : C_s_l16Any Te) : ∀ (c : CurV) (hc : c.ok), ∃ r0, (∃ (x : ClientV) (d : CurV), (clS x ∧ d.ok) ∧ r0 = (⟨[.agg (x.enc true)], [d.enc]⟩ : Res)) ∧ RunFn Te x_s_l20Any [.ptr c.enc] r0 := by
  intro c hc
  refine some_of (by simp -implicitDefEqProofs (maxSteps := 1000000) only [x_s_l20Any, go_sem]) (by rfl) ?_
  simp -implicitDefEqProofs (maxSteps := 1000000) only [x_s_l20Any, go_sem, true_implies, false_implies]
  repeat (first | refine ⟨rfl, ?_⟩ | refine ⟨by decide, ?_⟩ | refine ⟨⟨by decide, by decide⟩, ?_⟩ | refine ⟨decide_eq_true (by omega), ?_⟩ | refine ⟨⟨decide_eq_true (by omega), decide_eq_true (by omega)⟩, ?_⟩)
  try (first | done | decide | exact decide_eq_true (by omega) | exact ⟨decide_eq_true (by omega), decide_eq_true (by omega)⟩)
  obtain ⟨x, d0, ⟨⟨hx, hx6⟩, hd0⟩, ht⟩ := c_s_l20Draw c hc
  refine .of (ht) ?_
  try simp -implicitDefEqProofs (maxSteps := 1000000) only [go_sem, true_implies, false_implies]
  repeat (first | refine ⟨rfl, ?_⟩ | refine ⟨by decide, ?_⟩ | refine ⟨⟨by decide, by decide⟩, ?_⟩ | refine ⟨decide_eq_true (by omega), ?_⟩ | refine ⟨⟨decide_eq_true (by omega), decide_eq_true (by omega)⟩, ?_⟩)
  try (first | done | decide | exact decide_eq_true (by omega) | exact ⟨decide_eq_true (by omega), decide_eq_true (by omega)⟩)
  obtain ⟨k, d, ⟨⟨hk0, hk1, _⟩, hd⟩, ht⟩ := c_s_l1Below d0 12 hd0
  have hk12 := hk1 (by decide)
  obtain ⟨hM, hD⟩ := hx
  by_cases q0 : k = 0
  · subst q0
    refine .of (ht) ?_
    try simp -implicitDefEqProofs (maxSteps := 1000000) only [go_sem, true_implies, false_implies]
    repeat (first | refine ⟨rfl, ?_⟩ | refine ⟨by decide, ?_⟩ | refine ⟨⟨by decide, by decide⟩, ?_⟩ | refine ⟨decide_eq_true (by omega), ?_⟩ | refine ⟨⟨decide_eq_true (by omega), decide_eq_true (by omega)⟩, ?_⟩)
    try (first | done | decide | exact decide_eq_true (by omega) | exact ⟨decide_eq_true (by omega), decide_eq_true (by omega)⟩)
    obtain ⟨r, d, ⟨_, hd⟩, ht⟩ := c_s_l1Int d [0, 1, 3] hd (by decide)
    refine .of (ht) ?_
    try simp -implicitDefEqProofs (maxSteps := 1000000) only [go_sem, true_implies, false_implies]
    repeat (first | refine ⟨rfl, ?_⟩ | refine ⟨by decide, ?_⟩ | refine ⟨⟨by decide, by decide⟩, ?_⟩ | refine ⟨decide_eq_true (by omega), ?_⟩ | refine ⟨⟨decide_eq_true (by omega), decide_eq_true (by omega)⟩, ?_⟩)
    try (first | done | decide | exact decide_eq_true (by omega) | exact ⟨decide_eq_true (by omega), decide_eq_true (by omega)⟩)
    exact ⟨⟨r, x.Seq, x.Busy, x.M, x.Dones⟩, d, ⟨⟨hM, hD⟩, hd⟩, rfl⟩
  by_cases q1 : k = 1
  · subst q1
    refine .of (ht) ?_
    try simp -implicitDefEqProofs (maxSteps := 1000000) only [go_sem, true_implies, false_implies]
    repeat (first | refine ⟨rfl, ?_⟩ | refine ⟨by decide, ?_⟩ | refine ⟨⟨by decide, by decide⟩, ?_⟩ | refine ⟨decide_eq_true (by omega), ?_⟩ | refine ⟨⟨decide_eq_true (by omega), decide_eq_true (by omega)⟩, ?_⟩)
    try (first | done | decide | exact decide_eq_true (by omega) | exact ⟨decide_eq_true (by omega), decide_eq_true (by omega)⟩)
    obtain ⟨r, d, ⟨_, hd⟩, ht⟩ := c_s_l1Int d [-1, 0, 60000, 60001] hd (by decide)
    refine .of (ht) ?_
    try simp -implicitDefEqProofs (maxSteps := 1000000) only [go_sem, true_implies, false_implies]
    repeat (first | refine ⟨rfl, ?_⟩ | refine ⟨by decide, ?_⟩ | refine ⟨⟨by decide, by decide⟩, ?_⟩ | refine ⟨decide_eq_true (by omega), ?_⟩ | refine ⟨⟨decide_eq_true (by omega), decide_eq_true (by omega)⟩, ?_⟩)
    try (first | done | decide | exact decide_eq_true (by omega) | exact ⟨decide_eq_true (by omega), decide_eq_true (by omega)⟩)
    exact ⟨⟨x.Id, r, x.Busy, x.M, x.Dones⟩, d, ⟨⟨hM, hD⟩, hd⟩, rfl⟩
  by_cases q2 : k = 2
  · subst q2
    refine .of (ht) ?_
    try simp -implicitDefEqProofs (maxSteps := 1000000) only [go_sem, true_implies, false_implies]
    repeat (first | refine ⟨rfl, ?_⟩ | refine ⟨by decide, ?_⟩ | refine ⟨⟨by decide, by decide⟩, ?_⟩ | refine ⟨decide_eq_true (by omega), ?_⟩ | refine ⟨⟨decide_eq_true (by omega), decide_eq_true (by omega)⟩, ?_⟩)
    try (first | done | decide | exact decide_eq_true (by omega) | exact ⟨decide_eq_true (by omega), decide_eq_true (by omega)⟩)
    exact ⟨⟨x.Id, x.Seq, !x.Busy, x.M, x.Dones⟩, d, ⟨⟨hM, hD⟩, hd⟩, rfl⟩
  by_cases q3 : k = 3
  · subst q3
    refine .of (ht) ?_
    try simp -implicitDefEqProofs (maxSteps := 1000000) only [go_sem, true_implies, false_implies]
    repeat (first | refine ⟨rfl, ?_⟩ | refine ⟨by decide, ?_⟩ | refine ⟨⟨by decide, by decide⟩, ?_⟩ | refine ⟨decide_eq_true (by omega), ?_⟩ | refine ⟨⟨decide_eq_true (by omega), decide_eq_true (by omega)⟩, ?_⟩)
    try (first | done | decide | exact decide_eq_true (by omega) | exact ⟨decide_eq_true (by omega), decide_eq_true (by omega)⟩)
    obtain ⟨m, d, ⟨hm, hd⟩, ht⟩ := c_s_l16Any d hd
    refine .of (ht) ?_
    try simp -implicitDefEqProofs (maxSteps := 1000000) only [go_sem, true_implies, false_implies]
    repeat (first | refine ⟨rfl, ?_⟩ | refine ⟨by decide, ?_⟩ | refine ⟨⟨by decide, by decide⟩, ?_⟩ | refine ⟨decide_eq_true (by omega), ?_⟩ | refine ⟨⟨decide_eq_true (by omega), decide_eq_true (by omega)⟩, ?_⟩)
    try (first | done | decide | exact decide_eq_true (by omega) | exact ⟨decide_eq_true (by omega), decide_eq_true (by omega)⟩)
    exact ⟨⟨x.Id, x.Seq, x.Busy, m, x.Dones⟩, d, ⟨⟨hm, hD⟩, hd⟩, rfl⟩
  by_cases q4 : k = 4
  · subst q4
    obtain ⟨u, d, ⟨_, hd⟩, ht1⟩ := c_s_l1Below d 9 hd
    obtain ⟨v, d, ⟨_, hd⟩, ht2⟩ := c_s_l1Below d 5 hd
    obtain ⟨w, d, ⟨_, hd⟩, ht3⟩ := c_s_l1Int d [0, 7] hd (by decide)
    have ea : List.map DoneV.row x.Dones ++ [[iT u, iT v, sT ⟨#[]⟩, sT ⟨#[]⟩, iT w]] = List.map DoneV.row (x.Dones ++ [⟨u, v, ⟨#[]⟩, ⟨#[]⟩, w⟩]) := by rw [List.map_append]; rfl
    have et : List.take (x.Dones.length + 1) (List.map DoneV.row (x.Dones ++ [⟨u, v, ⟨#[]⟩, ⟨#[]⟩, w⟩])) = List.map DoneV.row (x.Dones ++ [⟨u, v, ⟨#[]⟩, ⟨#[]⟩, w⟩]) := List.take_of_length_le (by simp)
    refine .of (ht) ?_
    try simp -implicitDefEqProofs (maxSteps := 1000000) only [go_sem, true_implies, false_implies]
    repeat (first | refine ⟨rfl, ?_⟩ | refine ⟨by decide, ?_⟩ | refine ⟨⟨by decide, by decide⟩, ?_⟩ | refine ⟨decide_eq_true (by omega), ?_⟩ | refine ⟨⟨decide_eq_true (by omega), decide_eq_true (by omega)⟩, ?_⟩)
    try (first | done | decide | exact decide_eq_true (by omega) | exact ⟨decide_eq_true (by omega), decide_eq_true (by omega)⟩)
    refine .of (ht1) ?_
    try simp -implicitDefEqProofs (maxSteps := 1000000) only [go_sem, true_implies, false_implies]
    repeat (first | refine ⟨rfl, ?_⟩ | refine ⟨by decide, ?_⟩ | refine ⟨⟨by decide, by decide⟩, ?_⟩ | refine ⟨decide_eq_true (by omega), ?_⟩ | refine ⟨⟨decide_eq_true (by omega), decide_eq_true (by omega)⟩, ?_⟩)
    try (first | done | decide | exact decide_eq_true (by omega) | exact ⟨decide_eq_true (by omega), decide_eq_true (by omega)⟩)
    refine .of (ht2) ?_
    try simp -implicitDefEqProofs (maxSteps := 1000000) only [go_sem, true_implies, false_implies]
    repeat (first | refine ⟨rfl, ?_⟩ | refine ⟨by decide, ?_⟩ | refine ⟨⟨by decide, by decide⟩, ?_⟩ | refine ⟨decide_eq_true (by omega), ?_⟩ | refine ⟨⟨decide_eq_true (by omega), decide_eq_true (by omega)⟩, ?_⟩)
    try (first | done | decide | exact decide_eq_true (by omega) | exact ⟨decide_eq_true (by omega), decide_eq_true (by omega)⟩)
    refine .of (ht3) ?_
    try simp -implicitDefEqProofs (maxSteps := 1000000) only [go_sem, true_implies, false_implies, ea, et]
    repeat (first | refine ⟨rfl, ?_⟩ | refine ⟨by decide, ?_⟩ | refine ⟨⟨by decide, by decide⟩, ?_⟩ | refine ⟨decide_eq_true (by omega), ?_⟩ | refine ⟨⟨decide_eq_true (by omega), decide_eq_true (by omega)⟩, ?_⟩)
    try (first | done | decide | exact decide_eq_true (by omega) | exact ⟨decide_eq_true (by omega), decide_eq_true (by omega)⟩)
    exact ⟨⟨x.Id, x.Seq, x.Busy, x.M, x.Dones ++ [⟨u, v, ⟨#[]⟩, ⟨#[]⟩, w⟩]⟩, d, ⟨⟨hM, by simp only [List.length_append, List.length_cons, List.length_nil]; omega, fun y hy => by
      rcases List.mem_append.1 hy with hy | hy
      · exact hD.2 y hy
      · simp only [List.mem_cons, List.not_mem_nil, or_false] at hy
        subst hy
        exact ⟨Nat.zero_le _, Nat.zero_le _⟩⟩, hd⟩, rfl⟩
  by_cases q5 : k = 5
  · subst q5
    refine .of (ht) ?_
    try simp -implicitDefEqProofs (maxSteps := 1000000) only [go_sem, true_implies, false_implies]
    repeat (first | refine ⟨rfl, ?_⟩ | refine ⟨by decide, ?_⟩ | refine ⟨⟨by decide, by decide⟩, ?_⟩ | refine ⟨decide_eq_true (by omega), ?_⟩ | refine ⟨⟨decide_eq_true (by omega), decide_eq_true (by omega)⟩, ?_⟩)
    try (first | done | decide | exact decide_eq_true (by omega) | exact ⟨decide_eq_true (by omega), decide_eq_true (by omega)⟩)
    refine loop_of (σ := ClientV × Bool × List Go.X.T × CurV) (fun x => cond x.2.1 (⟨[(0, .bp 0 0), (2, .bp 2 0), (3, .bp 3 0)], [(0, [.ro 1 (x.2.2.2.b.map uR), .pv (.int .i64 x.2.2.2.i), .pv (.int .i64 x.2.2.2.h)]), (2, [.pv (.int .i64 0), .pv (.int .i64 0), .pv (.bool false), .pv (.int .i64 0), .pv (.int .i64 0), .pv (.int .i64 0), .pv (.int .i64 0), .pv (.string ⟨#[]⟩), .pv (.string ⟨#[]⟩), .pv (.int .i64 0), .pv (.int .i64 0), .nils 5]), (3, [.pv (.int .i64 x.1.Id), .pv (.int .i64 x.1.Seq), .pv (.bool x.1.Busy), .pv (.int .i64 x.1.M.Kind), .pv (.int .i64 x.1.M.From), .pv (.int .i64 x.1.M.To), .pv (.int .i64 x.1.M.Seq), .pv (.string x.1.M.Key), .pv (.string x.1.M.Text), .pv (.int .i64 x.1.M.N), .pv (.int .i64 x.1.M.Code), .rf 64 0 [] 5 0 x.1.Dones.length])], [(0, c.enc), (64, [slT true 5 DoneV.row x.1.Dones])]⟩) (⟨[(0, .bp 0 0), (2, .bp 2 0), (3, .bp 3 0)], [(0, [.ro 1 (x.2.2.2.b.map uR), .pv (.int .i64 x.2.2.2.i), .pv (.int .i64 x.2.2.2.h)]), (2, [.pv (.int .i64 0), .pv (.int .i64 0), .pv (.bool false), .pv (.int .i64 0), .pv (.int .i64 0), .pv (.int .i64 0), .pv (.int .i64 0), .pv (.string ⟨#[]⟩), .pv (.string ⟨#[]⟩), .pv (.int .i64 0), .pv (.int .i64 0), .nils 5]), (3, [.pv (.int .i64 x.1.Id), .pv (.int .i64 x.1.Seq), .pv (.bool x.1.Busy), .pv (.int .i64 x.1.M.Kind), .pv (.int .i64 x.1.M.From), .pv (.int .i64 x.1.M.To), .pv (.int .i64 x.1.M.Seq), .pv (.string x.1.M.Key), .pv (.string x.1.M.Text), .pv (.int .i64 x.1.M.N), .pv (.int .i64 x.1.M.Code), .rf 64 11 [] 5 0 x.1.Dones.length])], [(0, c.enc), (64, iT x.1.Id :: iT x.1.Seq :: bT x.1.Busy :: iT x.1.M.Kind :: iT x.1.M.From :: iT x.1.M.To :: iT x.1.M.Seq :: sT x.1.M.Key :: sT x.1.M.Text :: iT x.1.M.N :: iT x.1.M.Code :: slT true 5 DoneV.row x.1.Dones :: x.2.2.1)]⟩)) (fun x => clS x.1 ∧ x.2.2.2.ok) (fun x => 62 - x.1.Dones.length) (x, false, d0.enc, d) ?_ ⟨⟨hM, hD⟩, hd⟩ ?_
    · simp -implicitDefEqProofs (maxSteps := 1000000) only [go_sem]
    · rintro ⟨x, b, ex, d⟩ ⟨⟨hM, hD⟩, hd⟩
      simp only at hM hD hd
      cases b
      · skip
        obtain ⟨u, d1, ⟨hu, hd1⟩, ht⟩ := c_s_l1Below d 3 hd
        have hu1 := hu.2.1 (by decide)
        have wu : IntKind.i64.wrap (59 + u) = 59 + u := IntWalk.i64_in _ (by omega)
        have ea : List.map DoneV.row x.Dones ++ [[iT 1, iT 1, sT ⟨#[]⟩, sT ⟨#[]⟩, iT 0]] = List.map DoneV.row (x.Dones ++ [⟨1, 1, ⟨#[]⟩, ⟨#[]⟩, 0⟩]) := by rw [List.map_append]; rfl
        have et : List.take (x.Dones.length + 1) (List.map DoneV.row (x.Dones ++ [⟨1, 1, ⟨#[]⟩, ⟨#[]⟩, 0⟩])) = List.map DoneV.row (x.Dones ++ [⟨1, 1, ⟨#[]⟩, ⟨#[]⟩, 0⟩]) := List.take_of_length_le (by simp)
        try simp -implicitDefEqProofs (maxSteps := 1000000) only [go_sem, true_implies, false_implies]
        repeat (first | refine ⟨rfl, ?_⟩ | refine ⟨by decide, ?_⟩ | refine ⟨⟨by decide, by decide⟩, ?_⟩ | refine ⟨decide_eq_true (by omega), ?_⟩ | refine ⟨⟨decide_eq_true (by omega), decide_eq_true (by omega)⟩, ?_⟩)
        try (first | done | decide | exact decide_eq_true (by omega) | exact ⟨decide_eq_true (by omega), decide_eq_true (by omega)⟩)
        cases q : decide ((x.Dones.length : Int) < 59 + u)
        · refine .of (ht) ?_
          try simp -implicitDefEqProofs (maxSteps := 1000000) only [go_sem, true_implies, false_implies, wu, q]
          repeat (first | refine ⟨rfl, ?_⟩ | refine ⟨by decide, ?_⟩ | refine ⟨⟨by decide, by decide⟩, ?_⟩ | refine ⟨decide_eq_true (by omega), ?_⟩ | refine ⟨⟨decide_eq_true (by omega), decide_eq_true (by omega)⟩, ?_⟩)
          try (first | done | decide | exact decide_eq_true (by omega) | exact ⟨decide_eq_true (by omega), decide_eq_true (by omega)⟩)
          exact ⟨x, d1, ⟨⟨hM, hD⟩, hd1⟩, rfl⟩
        · have q' : x.Dones.length ≤ 60 := by simp only [decide_eq_true_eq] at q; omega
          refine .of (ht) ?_
          try simp -implicitDefEqProofs (maxSteps := 1000000) only [go_sem, true_implies, false_implies, wu, q, ea, et]
          repeat (first | refine ⟨rfl, ?_⟩ | refine ⟨by decide, ?_⟩ | refine ⟨⟨by decide, by decide⟩, ?_⟩ | refine ⟨decide_eq_true (by omega), ?_⟩ | refine ⟨⟨decide_eq_true (by omega), decide_eq_true (by omega)⟩, ?_⟩)
          try (first | done | decide | exact decide_eq_true (by omega) | exact ⟨decide_eq_true (by omega), decide_eq_true (by omega)⟩)
          exact ⟨(⟨x.Id, 60, x.Busy, x.M, x.Dones ++ [⟨1, 1, ⟨#[]⟩, ⟨#[]⟩, 0⟩]⟩, true, [], d1), by simp only [List.length_append]; rfl, ⟨⟨hM, by simp only [List.length_append, List.length_cons, List.length_nil]; omega, fun y hy => by
            rcases List.mem_append.1 hy with hy | hy
            · exact hD.2 y hy
            · simp only [List.mem_cons, List.not_mem_nil, or_false] at hy
              subst hy
              exact ⟨Nat.zero_le _, Nat.zero_le _⟩⟩, hd1⟩, by simp only [List.length_append, List.length_cons, List.length_nil]; omega⟩
      · skip
        obtain ⟨u, d1, ⟨hu, hd1⟩, ht⟩ := c_s_l1Below d 3 hd
        have hu1 := hu.2.1 (by decide)
        have wu : IntKind.i64.wrap (59 + u) = 59 + u := IntWalk.i64_in _ (by omega)
        have ea : List.map DoneV.row x.Dones ++ [[iT 1, iT 1, sT ⟨#[]⟩, sT ⟨#[]⟩, iT 0]] = List.map DoneV.row (x.Dones ++ [⟨1, 1, ⟨#[]⟩, ⟨#[]⟩, 0⟩]) := by rw [List.map_append]; rfl
        have et : List.take (x.Dones.length + 1) (List.map DoneV.row (x.Dones ++ [⟨1, 1, ⟨#[]⟩, ⟨#[]⟩, 0⟩])) = List.map DoneV.row (x.Dones ++ [⟨1, 1, ⟨#[]⟩, ⟨#[]⟩, 0⟩]) := List.take_of_length_le (by simp)
        try simp -implicitDefEqProofs (maxSteps := 1000000) only [go_sem, true_implies, false_implies]
        repeat (first | refine ⟨rfl, ?_⟩ | refine ⟨by decide, ?_⟩ | refine ⟨⟨by decide, by decide⟩, ?_⟩ | refine ⟨decide_eq_true (by omega), ?_⟩ | refine ⟨⟨decide_eq_true (by omega), decide_eq_true (by omega)⟩, ?_⟩)
        try (first | done | decide | exact decide_eq_true (by omega) | exact ⟨decide_eq_true (by omega), decide_eq_true (by omega)⟩)
        cases q : decide ((x.Dones.length : Int) < 59 + u)
        · refine .of (ht) ?_
          try simp -implicitDefEqProofs (maxSteps := 1000000) only [go_sem, true_implies, false_implies, wu, q]
          repeat (first | refine ⟨rfl, ?_⟩ | refine ⟨by decide, ?_⟩ | refine ⟨⟨by decide, by decide⟩, ?_⟩ | refine ⟨decide_eq_true (by omega), ?_⟩ | refine ⟨⟨decide_eq_true (by omega), decide_eq_true (by omega)⟩, ?_⟩)
          try (first | done | decide | exact decide_eq_true (by omega) | exact ⟨decide_eq_true (by omega), decide_eq_true (by omega)⟩)
          exact ⟨x, d1, ⟨⟨hM, hD⟩, hd1⟩, rfl⟩
        · have q' : x.Dones.length ≤ 60 := by simp only [decide_eq_true_eq] at q; omega
          refine .of (ht) ?_
          try simp -implicitDefEqProofs (maxSteps := 1000000) only [go_sem, true_implies, false_implies, wu, q, ea, et]
          repeat (first | refine ⟨rfl, ?_⟩ | refine ⟨by decide, ?_⟩ | refine ⟨⟨by decide, by decide⟩, ?_⟩ | refine ⟨decide_eq_true (by omega), ?_⟩ | refine ⟨⟨decide_eq_true (by omega), decide_eq_true (by omega)⟩, ?_⟩)
          try (first | done | decide | exact decide_eq_true (by omega) | exact ⟨decide_eq_true (by omega), decide_eq_true (by omega)⟩)
          exact ⟨(⟨x.Id, 60, x.Busy, x.M, x.Dones ++ [⟨1, 1, ⟨#[]⟩, ⟨#[]⟩, 0⟩]⟩, true, [], d1), by simp only [List.length_append]; rfl, ⟨⟨hM, by simp only [List.length_append, List.length_cons, List.length_nil]; omega, fun y hy => by
            rcases List.mem_append.1 hy with hy | hy
            · exact hD.2 y hy
            · simp only [List.mem_cons, List.not_mem_nil, or_false] at hy
              subst hy
              exact ⟨Nat.zero_le _, Nat.zero_le _⟩⟩, hd1⟩, by simp only [List.length_append, List.length_cons, List.length_nil]; omega⟩
  have e : ∀ j : Int, k ≠ j → (k == j) = false := fun j h => by simpa using h
  refine .of (ht) ?_
  try simp -implicitDefEqProofs (maxSteps := 1000000) only [go_sem, true_implies, false_implies, e 0 q0, e 1 q1, e 2 q2, e 3 q3, e 4 q4, e 5 q5]
  repeat (first | refine ⟨rfl, ?_⟩ | refine ⟨by decide, ?_⟩ | refine ⟨⟨by decide, by decide⟩, ?_⟩ | refine ⟨decide_eq_true (by omega), ?_⟩ | refine ⟨⟨decide_eq_true (by omega), decide_eq_true (by omega)⟩, ?_⟩)
  try (first | done | decide | exact decide_eq_true (by omega) | exact ⟨decide_eq_true (by omega), decide_eq_true (by omega)⟩)
  exact ⟨x, d, ⟨⟨hM, hD⟩, hd⟩, rfl⟩
end Go.X

/- Ug -/
namespace Go.X
set_option maxRecDepth 100000
set_option maxHeartbeats 8000000
def x_s_DrawClientNew : FnX := ⟨8, [.tmp 2],
  .seq (.reg [⟨none, some 2, 2, .mv (.k (.one (.pv (.int .i64 0))))⟩])
 (.seq (.reg [⟨none, some 4, 4, .mv (.t 0)⟩,
   ⟨none, some 5, 5, .call 41 [0] [(.t 4)]⟩,
   ⟨none, some 3, 3, .mv (.t 5)⟩])
 (.seq (.reg [⟨none, some 6, 6, .mv (.t 3)⟩,
   ⟨none, some 7, 7, .call 45 [5, 0] [(.t 6), (.k (.one (.pv (.int .i64 4))))]⟩,
   ⟨none, some 2, 2, .mv (.t 7)⟩])
 (.ret)))⟩
abbrev C_s_DrawClientNew (Te : Nat → List AV → Res → Prop) : Prop := ∀ (l : List UInt8) (hl : l.length ≤ 2 ^ 31), ∃ (a : Int), (True) ∧ Te 16 [.one (slT false 1 uR l)] ⟨[.one (iT a)], [[slT false 1 uR l]]⟩
theorem r_s_DrawClientNew {Te : Nat → List AV → Res → Prop} (c_s_l1New : C_s_l1New Te) (c_s_l1Below : C_s_l1Below Te) : ∀ (l : List UInt8) (hl : l.length ≤ 2 ^ 31), ∃ r0, (∃ (a : Int), (True) ∧ r0 = (⟨[.one (iT a)], [[slT false 1 uR l]]⟩ : Res)) ∧ RunFn Te x_s_DrawClientNew [.one (slT false 1 uR l)] r0 := by
  intro l hl
  refine some_of (by simp -implicitDefEqProofs (maxSteps := 1000000) only [x_s_DrawClientNew, go_sem]) (by rfl) ?_
  simp -implicitDefEqProofs (maxSteps := 1000000) only [x_s_DrawClientNew, go_sem, true_implies, false_implies]
  repeat (first | refine ⟨rfl, ?_⟩ | refine ⟨by decide, ?_⟩ | refine ⟨⟨by decide, by decide⟩, ?_⟩ | refine ⟨decide_eq_true (by omega), ?_⟩ | refine ⟨⟨decide_eq_true (by omega), decide_eq_true (by omega)⟩, ?_⟩)
  try (first | done | decide | exact decide_eq_true (by omega) | exact ⟨decide_eq_true (by omega), decide_eq_true (by omega)⟩)
  obtain ⟨c, hc, ht⟩ := c_s_l1New l hl
  refine .of (ht) ?_
  try simp -implicitDefEqProofs (maxSteps := 1000000) only [go_sem, true_implies, false_implies]
  repeat (first | refine ⟨rfl, ?_⟩ | refine ⟨by decide, ?_⟩ | refine ⟨⟨by decide, by decide⟩, ?_⟩ | refine ⟨decide_eq_true (by omega), ?_⟩ | refine ⟨⟨decide_eq_true (by omega), decide_eq_true (by omega)⟩, ?_⟩)
  try (first | done | decide | exact decide_eq_true (by omega) | exact ⟨decide_eq_true (by omega), decide_eq_true (by omega)⟩)
  obtain ⟨a, d, ⟨_, hd⟩, ht⟩ := c_s_l1Below c 4 hc
  refine .of (ht) ?_
  try simp -implicitDefEqProofs (maxSteps := 1000000) only [go_sem, true_implies, false_implies]
  repeat (first | refine ⟨rfl, ?_⟩ | refine ⟨by decide, ?_⟩ | refine ⟨⟨by decide, by decide⟩, ?_⟩ | refine ⟨decide_eq_true (by omega), ?_⟩ | refine ⟨⟨decide_eq_true (by omega), decide_eq_true (by omega)⟩, ?_⟩)
  try (first | done | decide | exact decide_eq_true (by omega) | exact ⟨decide_eq_true (by omega), decide_eq_true (by omega)⟩)
  exact ⟨a, rfl⟩
def x_s_DrawClientOk : FnX := ⟨8, [.cell 2 (some 12)],
  .seq (.reg [⟨none, some 2, 2, .alloc [.pv (.int .i64 0), .pv (.int .i64 0), .pv (.bool false), .pv (.int .i64 0), .pv (.int .i64 0), .pv (.int .i64 0), .pv (.int .i64 0), .pv (.string ⟨#[]⟩), .pv (.string ⟨#[]⟩), .pv (.int .i64 0), .pv (.int .i64 0), .nils 5]⟩])
 (.seq (.reg [⟨none, some 4, 4, .mv (.t 0)⟩,
   ⟨none, some 5, 5, .call 41 [0] [(.t 4)]⟩,
   ⟨none, some 3, 3, .mv (.t 5)⟩])
 (.seq (.reg [⟨none, some 6, 6, .mv (.t 3)⟩,
   ⟨none, some 7, 7, .call 42 [5] [(.t 6)]⟩,
   ⟨none, none, 100001, .store 12 (.t 2) (.t 7)⟩])
 (.ret)))⟩
abbrev C_s_DrawClientOk (Te : Nat → List AV → Res → Prop) : Prop := ∀ (l : List UInt8) (hl : l.length ≤ 2 ^ 31), ∃ (a : ClientV), (clS a) ∧ Te 15 [.one (slT false 1 uR l)] ⟨[.agg (a.enc true)], [[slT false 1 uR l]]⟩
theorem r_s_DrawClientOk {Te : Nat → List AV → Res → Prop} (c_s_l1New : C_s_l1New Te) (c_s_l20Any : C_s_l20Any Te) : ∀ (l : List UInt8) (hl : l.length ≤ 2 ^ 31), ∃ r0, (∃ (a : ClientV), (clS a) ∧ r0 = (⟨[.agg (a.enc true)], [[slT false 1 uR l]]⟩ : Res)) ∧ RunFn Te x_s_DrawClientOk [.one (slT false 1 uR l)] r0 := by
  intro l hl
  refine some_of (by simp -implicitDefEqProofs (maxSteps := 1000000) only [x_s_DrawClientOk, go_sem]) (by rfl) ?_
  simp -implicitDefEqProofs (maxSteps := 1000000) only [x_s_DrawClientOk, go_sem, true_implies, false_implies]
  repeat (first | refine ⟨rfl, ?_⟩ | refine ⟨by decide, ?_⟩ | refine ⟨⟨by decide, by decide⟩, ?_⟩ | refine ⟨decide_eq_true (by omega), ?_⟩ | refine ⟨⟨decide_eq_true (by omega), decide_eq_true (by omega)⟩, ?_⟩)
  try (first | done | decide | exact decide_eq_true (by omega) | exact ⟨decide_eq_true (by omega), decide_eq_true (by omega)⟩)
  obtain ⟨c, hc, ht⟩ := c_s_l1New l hl
  refine .of (ht) ?_
  try simp -implicitDefEqProofs (maxSteps := 1000000) only [go_sem, true_implies, false_implies]
  repeat (first | refine ⟨rfl, ?_⟩ | refine ⟨by decide, ?_⟩ | refine ⟨⟨by decide, by decide⟩, ?_⟩ | refine ⟨decide_eq_true (by omega), ?_⟩ | refine ⟨⟨decide_eq_true (by omega), decide_eq_true (by omega)⟩, ?_⟩)
  try (first | done | decide | exact decide_eq_true (by omega) | exact ⟨decide_eq_true (by omega), decide_eq_true (by omega)⟩)
  obtain ⟨a, d, ⟨ha, hd⟩, ht⟩ := c_s_l20Any c hc
  refine .of (ht) ?_
  try simp -implicitDefEqProofs (maxSteps := 1000000) only [go_sem, true_implies, false_implies]
  repeat (first | refine ⟨rfl, ?_⟩ | refine ⟨by decide, ?_⟩ | refine ⟨⟨by decide, by decide⟩, ?_⟩ | refine ⟨decide_eq_true (by omega), ?_⟩ | refine ⟨⟨decide_eq_true (by omega), decide_eq_true (by omega)⟩, ?_⟩)
  try (first | done | decide | exact decide_eq_true (by omega) | exact ⟨decide_eq_true (by omega), decide_eq_true (by omega)⟩)
  exact ⟨a, ha, rfl⟩
def x_s_DrawAgain : FnX := ⟨8, [.cell 2 (some 12)],
  .seq (.reg [⟨none, some 2, 2, .alloc [.pv (.int .i64 0), .pv (.int .i64 0), .pv (.bool false), .pv (.int .i64 0), .pv (.int .i64 0), .pv (.int .i64 0), .pv (.int .i64 0), .pv (.string ⟨#[]⟩), .pv (.string ⟨#[]⟩), .pv (.int .i64 0), .pv (.int .i64 0), .nils 5]⟩])
 (.seq (.reg [⟨none, some 4, 4, .mv (.t 0)⟩,
   ⟨none, some 5, 5, .call 41 [0] [(.t 4)]⟩,
   ⟨none, some 3, 3, .mv (.t 5)⟩])
 (.seq (.reg [⟨none, some 6, 6, .mv (.t 3)⟩,
   ⟨none, some 7, 7, .call 42 [5] [(.t 6)]⟩,
   ⟨none, none, 100001, .store 12 (.t 2) (.t 7)⟩])
 (.ret)))⟩
abbrev C_s_DrawAgain (Te : Nat → List AV → Res → Prop) : Prop := ∀ (l : List UInt8) (hl : l.length ≤ 2 ^ 31), ∃ (a : ClientV), (clS a) ∧ Te 9 [.one (slT false 1 uR l)] ⟨[.agg (a.enc true)], [[slT false 1 uR l]]⟩
theorem r_s_DrawAgain {Te : Nat → List AV → Res → Prop} (c_s_l1New : C_s_l1New Te) (c_s_l20Any : C_s_l20Any Te) : ∀ (l : List UInt8) (hl : l.length ≤ 2 ^ 31), ∃ r0, (∃ (a : ClientV), (clS a) ∧ r0 = (⟨[.agg (a.enc true)], [[slT false 1 uR l]]⟩ : Res)) ∧ RunFn Te x_s_DrawAgain [.one (slT false 1 uR l)] r0 := by
  intro l hl
  refine some_of (by simp -implicitDefEqProofs (maxSteps := 1000000) only [x_s_DrawAgain, go_sem]) (by rfl) ?_
  simp -implicitDefEqProofs (maxSteps := 1000000) only [x_s_DrawAgain, go_sem, true_implies, false_implies]
  repeat (first | refine ⟨rfl, ?_⟩ | refine ⟨by decide, ?_⟩ | refine ⟨⟨by decide, by decide⟩, ?_⟩ | refine ⟨decide_eq_true (by omega), ?_⟩ | refine ⟨⟨decide_eq_true (by omega), decide_eq_true (by omega)⟩, ?_⟩)
  try (first | done | decide | exact decide_eq_true (by omega) | exact ⟨decide_eq_true (by omega), decide_eq_true (by omega)⟩)
  obtain ⟨c, hc, ht⟩ := c_s_l1New l hl
  refine .of (ht) ?_
  try simp -implicitDefEqProofs (maxSteps := 1000000) only [go_sem, true_implies, false_implies]
  repeat (first | refine ⟨rfl, ?_⟩ | refine ⟨by decide, ?_⟩ | refine ⟨⟨by decide, by decide⟩, ?_⟩ | refine ⟨decide_eq_true (by omega), ?_⟩ | refine ⟨⟨decide_eq_true (by omega), decide_eq_true (by omega)⟩, ?_⟩)
  try (first | done | decide | exact decide_eq_true (by omega) | exact ⟨decide_eq_true (by omega), decide_eq_true (by omega)⟩)
  obtain ⟨a, d, ⟨ha, hd⟩, ht⟩ := c_s_l20Any c hc
  refine .of (ht) ?_
  try simp -implicitDefEqProofs (maxSteps := 1000000) only [go_sem, true_implies, false_implies]
  repeat (first | refine ⟨rfl, ?_⟩ | refine ⟨by decide, ?_⟩ | refine ⟨⟨by decide, by decide⟩, ?_⟩ | refine ⟨decide_eq_true (by omega), ?_⟩ | refine ⟨⟨decide_eq_true (by omega), decide_eq_true (by omega)⟩, ?_⟩)
  try (first | done | decide | exact decide_eq_true (by omega) | exact ⟨decide_eq_true (by omega), decide_eq_true (by omega)⟩)
  exact ⟨a, ha, rfl⟩
def x_s_DrawAskFor : FnX := ⟨29, [.cell 2 (some 12), .tmp 3, .tmp 4, .tmp 5],
  .seq (.reg [⟨none, some 2, 2, .alloc [.pv (.int .i64 0), .pv (.int .i64 0), .pv (.bool false), .pv (.int .i64 0), .pv (.int .i64 0), .pv (.int .i64 0), .pv (.int .i64 0), .pv (.string ⟨#[]⟩), .pv (.string ⟨#[]⟩), .pv (.int .i64 0), .pv (.int .i64 0), .nils 5]⟩,
   ⟨none, some 3, 3, .mv (.k (.one (.pv (.int .i64 0))))⟩,
   ⟨none, some 4, 4, .mv (.k (.one (.pv (.string ⟨#[]⟩))))⟩,
   ⟨none, some 5, 5, .mv (.k (.one (.pv (.string ⟨#[]⟩))))⟩])
 (.seq (.reg [⟨none, some 9, 9, .mv (.t 0)⟩,
   ⟨none, some 10, 10, .call 41 [0] [(.t 9)]⟩,
   ⟨none, some 6, 6, .mv (.t 10)⟩])
 (.seq (.reg [⟨none, some 11, 11, .mv (.t 6)⟩,
   ⟨none, some 12, 12, .call 42 [5] [(.t 11)]⟩,
   ⟨none, some 7, 7, .alloc [.pv (.int .i64 0), .pv (.int .i64 0), .pv (.bool false), .pv (.int .i64 0), .pv (.int .i64 0), .pv (.int .i64 0), .pv (.int .i64 0), .pv (.string ⟨#[]⟩), .pv (.string ⟨#[]⟩), .pv (.int .i64 0), .pv (.int .i64 0), .nils 5]⟩,
   ⟨none, none, 100001, .store 12 (.t 7) (.t 12)⟩])
 (.seq (.reg [⟨none, some 13, 13, .mv (.t 6)⟩,
   ⟨none, some 14, 14, .call 43 [5] [(.t 13)]⟩,
   ⟨none, some 8, 8, .mv (.t 14)⟩])
 (.seq (.seq (.reg [⟨none, some 15, 15, .mv (.t 6)⟩,
   ⟨none, some 16, 16, .call 44 [5, 0] [(.t 15), (.k (.one (.pv (.int .i64 10))))]⟩])
 (.cond 16 (.reg [⟨none, some 17, 17, .mv (.t 6)⟩,
   ⟨none, some 18, 18, .call 45 [5, 0] [(.t 17), (.k (.one (.pv (.int .i64 2))))]⟩,
   ⟨none, some 19, 19, .bin .add (.k (.one (.pv (.int .i64 60)))) (.t 18)⟩,
   ⟨none, some 20, 20, .mks 1 1 [.pv (.int .u8 0)] (.t 19)⟩,
   ⟨none, some 21, 21, .conv .b2s (.t 20)⟩,
   ⟨none, some 8, 8, .mv (.t 21)⟩]) (.skip)))
 (.seq (.draw [⟨none, some 22, 22, .load (some 12) (.t 7)⟩,
   ⟨none, some 23, 23, .mv (.t 6)⟩,
   ⟨none, some 24, 24, .bslice 1 [(.k (.one (.pv (.int .i64 1)))), (.k (.one (.pv (.int .i64 3)))), (.k (.one (.pv (.int .i64 4)))), (.k (.one (.pv (.int .i64 2)))), (.k (.one (.pv (.int .i64 0))))]⟩,
   ⟨none, some 25, 25, .call 46 [5, 1] [(.t 23), (.t 24)]⟩,
   ⟨none, some 26, 26, .mv (.t 8)⟩,
   ⟨none, some 27, 27, .mv (.t 6)⟩,
   ⟨none, some 28, 28, .call 47 [5, 0] [(.t 27), (.k (.one (.pv (.int .i64 4))))]⟩,
   ⟨none, none, 100002, .store 12 (.t 2) (.t 22)⟩,
   ⟨none, some 3, 3, .mv (.t 25)⟩,
   ⟨none, some 4, 4, .mv (.t 26)⟩,
   ⟨none, some 5, 5, .mv (.t 28)⟩] [[], [], [], [1, 2], [], [], [5, 3], [0, 6, 0], [3, 7, 0, 1, 2, 3, 7], [4, 8, 0, 1, 2, 3, 4, 7, 8], [6, 9, 0, 1, 2, 3, 4, 5, 6, 7, 8, 9]])
 (.ret))))))⟩
abbrev C_s_DrawAskFor (Te : Nat → List AV → Res → Prop) : Prop := ∀ (l : List UInt8) (hl : l.length ≤ 2 ^ 31), ∃ (a : ClientV) (k : Int) (s t : ByteArray), (clS a ∧ s.size ≤ 61 ∧ t.size ≤ 61) ∧ Te 6 [.one (slT false 1 uR l)] ⟨[.agg (a.enc true), .one (iT k), .one (sT s), .one (sT t)], [[slT false 1 uR l]]⟩
theorem r_s_DrawAskFor {Te : Nat → List AV → Res → Prop} (c_s_l1New : C_s_l1New Te) (c_s_l20Any : C_s_l20Any Te) (c_s_l1Name : C_s_l1Name Te) (c_s_l1Once : C_s_l1Once Te) (c_s_l1Below : C_s_l1Below Te) (c_s_l1Int : C_s_l1Int Te) (c_s_l2Text : C_s_l2Text Te) : ∀ (l : List UInt8) (hl : l.length ≤ 2 ^ 31), ∃ r0, (∃ (a : ClientV) (k : Int) (s t : ByteArray), (clS a ∧ s.size ≤ 61 ∧ t.size ≤ 61) ∧ r0 = (⟨[.agg (a.enc true), .one (iT k), .one (sT s), .one (sT t)], [[slT false 1 uR l]]⟩ : Res)) ∧ RunFn Te x_s_DrawAskFor [.one (slT false 1 uR l)] r0 := by
  intro l hl
  refine some_of (by simp -implicitDefEqProofs (maxSteps := 1000000) only [x_s_DrawAskFor, go_sem]) (by rfl) ?_
  simp -implicitDefEqProofs (maxSteps := 1000000) only [x_s_DrawAskFor, go_sem, true_implies, false_implies]
  repeat (first | refine ⟨rfl, ?_⟩ | refine ⟨by decide, ?_⟩ | refine ⟨⟨by decide, by decide⟩, ?_⟩ | refine ⟨decide_eq_true (by omega), ?_⟩ | refine ⟨⟨decide_eq_true (by omega), decide_eq_true (by omega)⟩, ?_⟩)
  try (first | done | decide | exact decide_eq_true (by omega) | exact ⟨decide_eq_true (by omega), decide_eq_true (by omega)⟩)
  obtain ⟨c, hc, ht⟩ := c_s_l1New l hl
  refine .of (ht) ?_
  try simp -implicitDefEqProofs (maxSteps := 1000000) only [go_sem, true_implies, false_implies]
  repeat (first | refine ⟨rfl, ?_⟩ | refine ⟨by decide, ?_⟩ | refine ⟨⟨by decide, by decide⟩, ?_⟩ | refine ⟨decide_eq_true (by omega), ?_⟩ | refine ⟨⟨decide_eq_true (by omega), decide_eq_true (by omega)⟩, ?_⟩)
  try (first | done | decide | exact decide_eq_true (by omega) | exact ⟨decide_eq_true (by omega), decide_eq_true (by omega)⟩)
  obtain ⟨a, d, ⟨ha, hd⟩, ht⟩ := c_s_l20Any c hc
  refine .of (ht) ?_
  try simp -implicitDefEqProofs (maxSteps := 1000000) only [go_sem, true_implies, false_implies]
  repeat (first | refine ⟨rfl, ?_⟩ | refine ⟨by decide, ?_⟩ | refine ⟨⟨by decide, by decide⟩, ?_⟩ | refine ⟨decide_eq_true (by omega), ?_⟩ | refine ⟨⟨decide_eq_true (by omega), decide_eq_true (by omega)⟩, ?_⟩)
  try (first | done | decide | exact decide_eq_true (by omega) | exact ⟨decide_eq_true (by omega), decide_eq_true (by omega)⟩)
  obtain ⟨key, d, ⟨hkey, hd⟩, ht⟩ := c_s_l1Name d hd
  refine .of (ht) ?_
  try simp -implicitDefEqProofs (maxSteps := 1000000) only [go_sem, true_implies, false_implies]
  repeat (first | refine ⟨rfl, ?_⟩ | refine ⟨by decide, ?_⟩ | refine ⟨⟨by decide, by decide⟩, ?_⟩ | refine ⟨decide_eq_true (by omega), ?_⟩ | refine ⟨⟨decide_eq_true (by omega), decide_eq_true (by omega)⟩, ?_⟩)
  try (first | done | decide | exact decide_eq_true (by omega) | exact ⟨decide_eq_true (by omega), decide_eq_true (by omega)⟩)
  obtain ⟨r, d, hd, ht⟩ := c_s_l1Once d 10 hd
  refine .of (ht) ?_
  try simp -implicitDefEqProofs (maxSteps := 1000000) only [go_sem, true_implies, false_implies]
  repeat (first | refine ⟨rfl, ?_⟩ | refine ⟨by decide, ?_⟩ | refine ⟨⟨by decide, by decide⟩, ?_⟩ | refine ⟨decide_eq_true (by omega), ?_⟩ | refine ⟨⟨decide_eq_true (by omega), decide_eq_true (by omega)⟩, ?_⟩)
  try (first | done | decide | exact decide_eq_true (by omega) | exact ⟨decide_eq_true (by omega), decide_eq_true (by omega)⟩)
  cases r
  · try simp -implicitDefEqProofs (maxSteps := 1000000) only [go_sem, true_implies, false_implies]
    repeat (first | refine ⟨rfl, ?_⟩ | refine ⟨by decide, ?_⟩ | refine ⟨⟨by decide, by decide⟩, ?_⟩ | refine ⟨decide_eq_true (by omega), ?_⟩ | refine ⟨⟨decide_eq_true (by omega), decide_eq_true (by omega)⟩, ?_⟩)
    try (first | done | decide | exact decide_eq_true (by omega) | exact ⟨decide_eq_true (by omega), decide_eq_true (by omega)⟩)
    obtain ⟨k, d, ⟨_, hd⟩, ht⟩ := c_s_l1Int d [1, 3, 4, 2, 0] hd (by decide)
    refine .of (ht) ?_
    try simp -implicitDefEqProofs (maxSteps := 1000000) only [go_sem, true_implies, false_implies]
    repeat (first | refine ⟨rfl, ?_⟩ | refine ⟨by decide, ?_⟩ | refine ⟨⟨by decide, by decide⟩, ?_⟩ | refine ⟨decide_eq_true (by omega), ?_⟩ | refine ⟨⟨decide_eq_true (by omega), decide_eq_true (by omega)⟩, ?_⟩)
    try (first | done | decide | exact decide_eq_true (by omega) | exact ⟨decide_eq_true (by omega), decide_eq_true (by omega)⟩)
    obtain ⟨tx, d, ⟨htx, hd⟩, ht⟩ := c_s_l2Text d 4 hd (by decide)
    have htx' : tx.size ≤ 16 := htx
    refine .of (ht) ?_
    try simp -implicitDefEqProofs (maxSteps := 1000000) only [go_sem, true_implies, false_implies]
    repeat (first | refine ⟨rfl, ?_⟩ | refine ⟨by decide, ?_⟩ | refine ⟨⟨by decide, by decide⟩, ?_⟩ | refine ⟨decide_eq_true (by omega), ?_⟩ | refine ⟨⟨decide_eq_true (by omega), decide_eq_true (by omega)⟩, ?_⟩)
    try (first | done | decide | exact decide_eq_true (by omega) | exact ⟨decide_eq_true (by omega), decide_eq_true (by omega)⟩)
    exact ⟨a, k, key, tx, ⟨ha, by omega, by omega⟩, rfl⟩
  · try simp -implicitDefEqProofs (maxSteps := 1000000) only [go_sem, true_implies, false_implies]
    repeat (first | refine ⟨rfl, ?_⟩ | refine ⟨by decide, ?_⟩ | refine ⟨⟨by decide, by decide⟩, ?_⟩ | refine ⟨decide_eq_true (by omega), ?_⟩ | refine ⟨⟨decide_eq_true (by omega), decide_eq_true (by omega)⟩, ?_⟩)
    try (first | done | decide | exact decide_eq_true (by omega) | exact ⟨decide_eq_true (by omega), decide_eq_true (by omega)⟩)
    obtain ⟨u, d, ⟨hu, hd⟩, ht⟩ := c_s_l1Below d 2 hd
    have hu1 := hu.2.1 (by decide)
    have wu : IntKind.i64.wrap (60 + u) = 60 + u := IntWalk.i64_in _ (by omega)
    have z := zero60 hu.1 hu1
    refine .of (ht) ?_
    try simp -implicitDefEqProofs (maxSteps := 1000000) only [go_sem, true_implies, false_implies, wu]
    repeat (first | refine ⟨rfl, ?_⟩ | refine ⟨by decide, ?_⟩ | refine ⟨⟨by decide, by decide⟩, ?_⟩ | refine ⟨decide_eq_true (by omega), ?_⟩ | refine ⟨⟨decide_eq_true (by omega), decide_eq_true (by omega)⟩, ?_⟩)
    try (first | done | decide | exact decide_eq_true (by omega) | exact ⟨decide_eq_true (by omega), decide_eq_true (by omega)⟩)
    refine ⟨z.1, z.2.1, ?_⟩
    try simp -implicitDefEqProofs (maxSteps := 1000000) only [go_sem, true_implies, false_implies]
    repeat (first | refine ⟨rfl, ?_⟩ | refine ⟨by decide, ?_⟩ | refine ⟨⟨by decide, by decide⟩, ?_⟩ | refine ⟨decide_eq_true (by omega), ?_⟩ | refine ⟨⟨decide_eq_true (by omega), decide_eq_true (by omega)⟩, ?_⟩)
    try (first | done | decide | exact decide_eq_true (by omega) | exact ⟨decide_eq_true (by omega), decide_eq_true (by omega)⟩)
    obtain ⟨k, d, ⟨_, hd⟩, ht⟩ := c_s_l1Int d [1, 3, 4, 2, 0] hd (by decide)
    refine .of (ht) ?_
    try simp -implicitDefEqProofs (maxSteps := 1000000) only [go_sem, true_implies, false_implies]
    repeat (first | refine ⟨rfl, ?_⟩ | refine ⟨by decide, ?_⟩ | refine ⟨⟨by decide, by decide⟩, ?_⟩ | refine ⟨decide_eq_true (by omega), ?_⟩ | refine ⟨⟨decide_eq_true (by omega), decide_eq_true (by omega)⟩, ?_⟩)
    try (first | done | decide | exact decide_eq_true (by omega) | exact ⟨decide_eq_true (by omega), decide_eq_true (by omega)⟩)
    obtain ⟨tx, d, ⟨htx, hd⟩, ht⟩ := c_s_l2Text d 4 hd (by decide)
    have htx' : tx.size ≤ 16 := htx
    refine .of (ht) ?_
    try simp -implicitDefEqProofs (maxSteps := 1000000) only [go_sem, true_implies, false_implies]
    repeat (first | refine ⟨rfl, ?_⟩ | refine ⟨by decide, ?_⟩ | refine ⟨⟨by decide, by decide⟩, ?_⟩ | refine ⟨decide_eq_true (by omega), ?_⟩ | refine ⟨⟨decide_eq_true (by omega), decide_eq_true (by omega)⟩, ?_⟩)
    try (first | done | decide | exact decide_eq_true (by omega) | exact ⟨decide_eq_true (by omega), decide_eq_true (by omega)⟩)
    exact ⟨a, k, ⟨(bytesOf (zeroL u)).toArray⟩, tx, ⟨ha, z.2.2, by omega⟩, rfl⟩
def x_s_DrawTold : FnX := ⟨57, [.cell 2 (some 12), .cell 3 (some 8)],
  .seq (.reg [⟨none, some 2, 2, .alloc [.pv (.int .i64 0), .pv (.int .i64 0), .pv (.bool false), .pv (.int .i64 0), .pv (.int .i64 0), .pv (.int .i64 0), .pv (.int .i64 0), .pv (.string ⟨#[]⟩), .pv (.string ⟨#[]⟩), .pv (.int .i64 0), .pv (.int .i64 0), .nils 5]⟩,
   ⟨none, some 3, 3, .alloc [.pv (.int .i64 0), .pv (.int .i64 0), .pv (.int .i64 0), .pv (.int .i64 0), .pv (.string ⟨#[]⟩), .pv (.string ⟨#[]⟩), .pv (.int .i64 0), .pv (.int .i64 0)]⟩])
 (.seq (.reg [⟨none, some 7, 7, .mv (.t 0)⟩,
   ⟨none, some 8, 8, .call 41 [0] [(.t 7)]⟩,
   ⟨none, some 4, 4, .mv (.t 8)⟩])
 (.seq (.reg [⟨none, some 9, 9, .mv (.t 4)⟩,
   ⟨none, some 10, 10, .call 42 [5] [(.t 9)]⟩,
   ⟨none, some 5, 5, .alloc [.pv (.int .i64 0), .pv (.int .i64 0), .pv (.bool false), .pv (.int .i64 0), .pv (.int .i64 0), .pv (.int .i64 0), .pv (.int .i64 0), .pv (.string ⟨#[]⟩), .pv (.string ⟨#[]⟩), .pv (.int .i64 0), .pv (.int .i64 0), .nils 5]⟩,
   ⟨none, none, 100001, .store 12 (.t 5) (.t 10)⟩])
 (.seq (.seq (.reg [⟨none, some 11, 11, .faddr (.t 5) 2⟩,
   ⟨none, some 12, 12, .load none (.t 11)⟩,
   ⟨none, some 13, 13, .not (.t 12)⟩])
 (.cond 13 (.draw [⟨none, some 15, 15, .load (some 12) (.t 5)⟩,
   ⟨none, some 16, 16, .mv (.t 4)⟩,
   ⟨none, some 17, 17, .bslice 1 [(.k (.one (.pv (.int .i64 1)))), (.k (.one (.pv (.int .i64 3)))), (.k (.one (.pv (.int .i64 4))))]⟩,
   ⟨none, some 18, 18, .call 46 [5, 1] [(.t 16), (.t 17)]⟩,
   ⟨none, some 19, 19, .mv (.t 4)⟩,
   ⟨none, some 20, 20, .call 43 [5] [(.t 19)]⟩,
   ⟨none, some 21, 21, .call 8 [0, 0, 0, 0] [(.t 15), (.t 18), (.t 20), (.k (.one (.pv (.string ⟨#[116]⟩))))]⟩,
   ⟨none, some 14, 14, .mv (.t 21)⟩,
   ⟨none, some 22, 22, .ext (.t 14) 0⟩,
   ⟨none, some 23, 23, .ext (.t 14) 1⟩,
   ⟨none, some 24, 24, .ext (.t 14) 2⟩,
   ⟨none, none, 100002, .store 12 (.t 5) (.t 22)⟩] [[], [], [], [1, 2], [], [4, 3], [0, 3, 5, 5], [6], [7], [7], [7], [8, 6, 0, 1, 2, 3, 4, 5, 6, 7, 8]]) (.skip)))
 (.seq (.reg [⟨none, some 25, 25, .faddr (.t 5) 3⟩,
   ⟨none, some 26, 26, .load (some 8) (.t 25)⟩,
   ⟨none, some 27, 27, .call 56 [0, 0] [(.t 26), (.k (.one (.pv (.int .i64 5))))]⟩,
   ⟨none, some 6, 6, .alloc [.pv (.int .i64 0), .pv (.int .i64 0), .pv (.int .i64 0), .pv (.int .i64 0), .pv (.string ⟨#[]⟩), .pv (.string ⟨#[]⟩), .pv (.int .i64 0), .pv (.int .i64 0)]⟩,
   ⟨none, none, 100003, .store 8 (.t 6) (.t 27)⟩])
 (.seq (.reg [⟨none, some 28, 28, .mv (.t 4)⟩,
   ⟨none, some 29, 29, .call 45 [5, 0] [(.t 28), (.k (.one (.pv (.int .i64 7))))]⟩,
   ⟨none, some 30, 30, .faddr (.t 6) 7⟩,
   ⟨none, none, 100004, .store 1 (.t 30) (.t 29)⟩])
 (.seq (.seq (.reg [⟨none, some 31, 31, .faddr (.t 5) 3⟩,
   ⟨none, some 32, 32, .faddr (.t 31) 0⟩,
   ⟨none, some 33, 33, .load none (.t 32)⟩,
   ⟨none, some 34, 34, .bin .eql (.t 33) (.k (.one (.pv (.int .i64 1))))⟩])
 (.cond 34 (.seq (.reg [⟨none, some 35, 35, .faddr (.t 6) 0⟩,
   ⟨none, none, 100005, .store 1 (.t 35) (.k (.one (.pv (.int .i64 2))))⟩])
 (.reg [⟨none, some 36, 36, .faddr (.t 6) 5⟩,
   ⟨none, none, 100006, .store 1 (.t 36) (.k (.one (.pv (.string ⟨#[103, 111, 116]⟩))))⟩])) (.skip)))
 (.seq (.seq (.reg [⟨none, some 37, 37, .mv (.t 4)⟩,
   ⟨none, some 38, 38, .call 45 [5, 0] [(.t 37), (.k (.one (.pv (.int .i64 8))))]⟩])
 (.block 0 (.seq (.reg [⟨none, some 40, 40, .bin .eql (.t 38) (.k (.one (.pv (.int .i64 0))))⟩,
   ⟨none, some 39, 39, .mv (.t 40)⟩])
 (.cond 39 (.reg [⟨none, some 41, 41, .faddr (.t 6) 3⟩,
   ⟨none, some 42, 42, .load none (.t 41)⟩,
   ⟨none, some 43, 43, .bin .add (.t 42) (.k (.one (.pv (.int .i64 1))))⟩,
   ⟨none, some 44, 44, .faddr (.t 6) 3⟩,
   ⟨none, none, 100007, .store 1 (.t 44) (.t 43)⟩]) (.seq (.reg [⟨none, some 46, 46, .bin .eql (.t 38) (.k (.one (.pv (.int .i64 1))))⟩,
   ⟨none, some 45, 45, .mv (.t 46)⟩])
 (.cond 45 (.reg [⟨none, some 47, 47, .mv (.t 4)⟩,
   ⟨none, some 48, 48, .bslice 1 [(.k (.one (.pv (.int .i64 2)))), (.k (.one (.pv (.int .i64 5))))]⟩,
   ⟨none, some 49, 49, .call 46 [5, 1] [(.t 47), (.t 48)]⟩,
   ⟨none, some 50, 50, .faddr (.t 6) 0⟩,
   ⟨none, none, 100008, .store 1 (.t 50) (.t 49)⟩]) (.seq (.reg [⟨none, some 52, 52, .bin .eql (.t 38) (.k (.one (.pv (.int .i64 2))))⟩,
   ⟨none, some 51, 51, .mv (.t 52)⟩])
 (.cond 51 (.reg [⟨none, some 53, 53, .mv (.t 4)⟩,
   ⟨none, some 54, 54, .call 57 [5] [(.t 53)]⟩,
   ⟨none, none, 100009, .store 8 (.t 6) (.t 54)⟩]) (.skip)))))))))
 (.seq (.draw [⟨none, some 55, 55, .load (some 12) (.t 5)⟩,
   ⟨none, some 56, 56, .load (some 8) (.t 6)⟩,
   ⟨none, none, 100010, .store 12 (.t 2) (.t 55)⟩,
   ⟨none, none, 100011, .store 8 (.t 3) (.t 56)⟩] [[], [], [0, 0], [1, 2, 0, 1, 2]])
 (.ret)))))))))⟩
abbrev C_s_DrawTold (Te : Nat → List AV → Res → Prop) : Prop := ∀ (l : List UInt8) (hl : l.length ≤ 2 ^ 31), ∃ (a : ClientV) (m : Msg), (clS a) ∧ Te 12 [.one (slT false 1 uR l)] ⟨[.agg (a.enc true), .agg m.row], [[slT false 1 uR l]]⟩
theorem r_s_DrawTold {Te : Nat → List AV → Res → Prop} (c_s_l1New : C_s_l1New Te) (c_s_l20Any : C_s_l20Any Te) (c_s_l1Int : C_s_l1Int Te) (c_s_l1Name : C_s_l1Name Te) (c_s_AskFor : C_s_AskFor Te) (c_s_l18Back : C_s_l18Back Te) (c_s_l1Below : C_s_l1Below Te) (c_s_l16Any : C_s_l16Any Te) : ∀ (l : List UInt8) (hl : l.length ≤ 2 ^ 31), ∃ r0, (∃ (a : ClientV) (m : Msg), (clS a) ∧ r0 = (⟨[.agg (a.enc true), .agg m.row], [[slT false 1 uR l]]⟩ : Res)) ∧ RunFn Te x_s_DrawTold [.one (slT false 1 uR l)] r0 := by
  intro l hl
  refine some_of (by simp -implicitDefEqProofs (maxSteps := 1000000) only [x_s_DrawTold, go_sem]) (by rfl) ?_
  simp -implicitDefEqProofs (maxSteps := 1000000) only [x_s_DrawTold, go_sem, true_implies, false_implies]
  repeat (first | refine ⟨rfl, ?_⟩ | refine ⟨by decide, ?_⟩ | refine ⟨⟨by decide, by decide⟩, ?_⟩ | refine ⟨decide_eq_true (by omega), ?_⟩ | refine ⟨⟨decide_eq_true (by omega), decide_eq_true (by omega)⟩, ?_⟩)
  try (first | done | decide | exact decide_eq_true (by omega) | exact ⟨decide_eq_true (by omega), decide_eq_true (by omega)⟩)
  obtain ⟨c, hc, ht⟩ := c_s_l1New l hl
  refine .of (ht) ?_
  try simp -implicitDefEqProofs (maxSteps := 1000000) only [go_sem, true_implies, false_implies]
  repeat (first | refine ⟨rfl, ?_⟩ | refine ⟨by decide, ?_⟩ | refine ⟨⟨by decide, by decide⟩, ?_⟩ | refine ⟨decide_eq_true (by omega), ?_⟩ | refine ⟨⟨decide_eq_true (by omega), decide_eq_true (by omega)⟩, ?_⟩)
  try (first | done | decide | exact decide_eq_true (by omega) | exact ⟨decide_eq_true (by omega), decide_eq_true (by omega)⟩)
  obtain ⟨a, d, ⟨ha, hd⟩, ht⟩ := c_s_l20Any c hc
  refine .of (ht) ?_
  try simp -implicitDefEqProofs (maxSteps := 1000000) only [go_sem, true_implies, false_implies]
  repeat (first | refine ⟨rfl, ?_⟩ | refine ⟨by decide, ?_⟩ | refine ⟨⟨by decide, by decide⟩, ?_⟩ | refine ⟨decide_eq_true (by omega), ?_⟩ | refine ⟨⟨decide_eq_true (by omega), decide_eq_true (by omega)⟩, ?_⟩)
  try (first | done | decide | exact decide_eq_true (by omega) | exact ⟨decide_eq_true (by omega), decide_eq_true (by omega)⟩)
  refine ⟨fun gb => ?_, fun gb => ?_⟩
  · skip
    obtain ⟨kd, d, ⟨_, hd⟩, ht⟩ := c_s_l1Int d [1, 3, 4] hd (by decide)
    refine .of (ht) ?_
    try simp -implicitDefEqProofs (maxSteps := 1000000) only [go_sem, true_implies, false_implies]
    repeat (first | refine ⟨rfl, ?_⟩ | refine ⟨by decide, ?_⟩ | refine ⟨⟨by decide, by decide⟩, ?_⟩ | refine ⟨decide_eq_true (by omega), ?_⟩ | refine ⟨⟨decide_eq_true (by omega), decide_eq_true (by omega)⟩, ?_⟩)
    try (first | done | decide | exact decide_eq_true (by omega) | exact ⟨decide_eq_true (by omega), decide_eq_true (by omega)⟩)
    obtain ⟨key, d, ⟨hkey, hd⟩, ht⟩ := c_s_l1Name d hd
    refine .of (ht) ?_
    try simp -implicitDefEqProofs (maxSteps := 1000000) only [go_sem, true_implies, false_implies]
    repeat (first | refine ⟨rfl, ?_⟩ | refine ⟨by decide, ?_⟩ | refine ⟨⟨by decide, by decide⟩, ?_⟩ | refine ⟨decide_eq_true (by omega), ?_⟩ | refine ⟨⟨decide_eq_true (by omega), decide_eq_true (by omega)⟩, ?_⟩)
    try (first | done | decide | exact decide_eq_true (by omega) | exact ⟨decide_eq_true (by omega), decide_eq_true (by omega)⟩)
    have h2 := c_s_AskFor a kd key ⟨#[116]⟩ (clS_In ha) (by omega)
    have hy := (askFor_In (n := 61) ha kd (show key.size ≤ 61 by omega) (text := ⟨#[116]⟩) (by decide)).1
    generalize askFor a kd key ⟨#[116]⟩ = y at h2 hy
    obtain ⟨y, m, b⟩ := y
    simp only at h2 hy
    have hy' : clS y := hy
    refine .of (h2) ?_
    try simp -implicitDefEqProofs (maxSteps := 1000000) only [go_sem, true_implies, false_implies]
    repeat (first | refine ⟨rfl, ?_⟩ | refine ⟨by decide, ?_⟩ | refine ⟨⟨by decide, by decide⟩, ?_⟩ | refine ⟨decide_eq_true (by omega), ?_⟩ | refine ⟨⟨decide_eq_true (by omega), decide_eq_true (by omega)⟩, ?_⟩)
    try (first | done | decide | exact decide_eq_true (by omega) | exact ⟨decide_eq_true (by omega), decide_eq_true (by omega)⟩)
    refine .of (c_s_l18Back y.M 5) ?_
    try simp -implicitDefEqProofs (maxSteps := 1000000) only [go_sem, true_implies, false_implies]
    repeat (first | refine ⟨rfl, ?_⟩ | refine ⟨by decide, ?_⟩ | refine ⟨⟨by decide, by decide⟩, ?_⟩ | refine ⟨decide_eq_true (by omega), ?_⟩ | refine ⟨⟨decide_eq_true (by omega), decide_eq_true (by omega)⟩, ?_⟩)
    try (first | done | decide | exact decide_eq_true (by omega) | exact ⟨decide_eq_true (by omega), decide_eq_true (by omega)⟩)
    obtain ⟨cd, d, ⟨_, hd⟩, ht⟩ := c_s_l1Below d 7 hd
    refine .of (ht) ?_
    try simp -implicitDefEqProofs (maxSteps := 1000000) only [go_sem, true_implies, false_implies]
    repeat (first | refine ⟨rfl, ?_⟩ | refine ⟨by decide, ?_⟩ | refine ⟨⟨by decide, by decide⟩, ?_⟩ | refine ⟨decide_eq_true (by omega), ?_⟩ | refine ⟨⟨decide_eq_true (by omega), decide_eq_true (by omega)⟩, ?_⟩)
    try (first | done | decide | exact decide_eq_true (by omega) | exact ⟨decide_eq_true (by omega), decide_eq_true (by omega)⟩)
    cases gk : (y.M.Kind == 1)
    · try simp -implicitDefEqProofs (maxSteps := 1000000) only [go_sem, true_implies, false_implies, gk]
      repeat (first | refine ⟨rfl, ?_⟩ | refine ⟨by decide, ?_⟩ | refine ⟨⟨by decide, by decide⟩, ?_⟩ | refine ⟨decide_eq_true (by omega), ?_⟩ | refine ⟨⟨decide_eq_true (by omega), decide_eq_true (by omega)⟩, ?_⟩)
      try (first | done | decide | exact decide_eq_true (by omega) | exact ⟨decide_eq_true (by omega), decide_eq_true (by omega)⟩)
      obtain ⟨k, d, ⟨_, hd⟩, ht⟩ := c_s_l1Below d 8 hd
      have e : ∀ j : Int, k ≠ j → (k == j) = false := fun j h => by simpa using h
      by_cases q0 : k = 0
      · subst q0
        refine .of (ht) ?_
        try simp -implicitDefEqProofs (maxSteps := 1000000) only [go_sem, true_implies, false_implies]
        repeat (first | refine ⟨rfl, ?_⟩ | refine ⟨by decide, ?_⟩ | refine ⟨⟨by decide, by decide⟩, ?_⟩ | refine ⟨decide_eq_true (by omega), ?_⟩ | refine ⟨⟨decide_eq_true (by omega), decide_eq_true (by omega)⟩, ?_⟩)
        try (first | done | decide | exact decide_eq_true (by omega) | exact ⟨decide_eq_true (by omega), decide_eq_true (by omega)⟩)
        exact ⟨y, ⟨5, y.M.To, y.M.From, IntKind.i64.wrap (y.M.Seq + 1), ⟨#[]⟩, ⟨#[]⟩, 0, cd⟩, hy', rfl⟩
      by_cases q1 : k = 1
      · subst q1
        refine .of (ht) ?_
        try simp -implicitDefEqProofs (maxSteps := 1000000) only [go_sem, true_implies, false_implies]
        repeat (first | refine ⟨rfl, ?_⟩ | refine ⟨by decide, ?_⟩ | refine ⟨⟨by decide, by decide⟩, ?_⟩ | refine ⟨decide_eq_true (by omega), ?_⟩ | refine ⟨⟨decide_eq_true (by omega), decide_eq_true (by omega)⟩, ?_⟩)
        try (first | done | decide | exact decide_eq_true (by omega) | exact ⟨decide_eq_true (by omega), decide_eq_true (by omega)⟩)
        obtain ⟨r, d, ⟨_, hd⟩, ht⟩ := c_s_l1Int d [2, 5] hd (by decide)
        refine .of (ht) ?_
        try simp -implicitDefEqProofs (maxSteps := 1000000) only [go_sem, true_implies, false_implies]
        repeat (first | refine ⟨rfl, ?_⟩ | refine ⟨by decide, ?_⟩ | refine ⟨⟨by decide, by decide⟩, ?_⟩ | refine ⟨decide_eq_true (by omega), ?_⟩ | refine ⟨⟨decide_eq_true (by omega), decide_eq_true (by omega)⟩, ?_⟩)
        try (first | done | decide | exact decide_eq_true (by omega) | exact ⟨decide_eq_true (by omega), decide_eq_true (by omega)⟩)
        exact ⟨y, ⟨r, y.M.To, y.M.From, y.M.Seq, ⟨#[]⟩, ⟨#[]⟩, 0, cd⟩, hy', rfl⟩
      by_cases q2 : k = 2
      · subst q2
        refine .of (ht) ?_
        try simp -implicitDefEqProofs (maxSteps := 1000000) only [go_sem, true_implies, false_implies]
        repeat (first | refine ⟨rfl, ?_⟩ | refine ⟨by decide, ?_⟩ | refine ⟨⟨by decide, by decide⟩, ?_⟩ | refine ⟨decide_eq_true (by omega), ?_⟩ | refine ⟨⟨decide_eq_true (by omega), decide_eq_true (by omega)⟩, ?_⟩)
        try (first | done | decide | exact decide_eq_true (by omega) | exact ⟨decide_eq_true (by omega), decide_eq_true (by omega)⟩)
        obtain ⟨m, d, ⟨_, hd⟩, ht⟩ := c_s_l16Any d hd
        refine .of (ht) ?_
        try simp -implicitDefEqProofs (maxSteps := 1000000) only [go_sem, true_implies, false_implies]
        repeat (first | refine ⟨rfl, ?_⟩ | refine ⟨by decide, ?_⟩ | refine ⟨⟨by decide, by decide⟩, ?_⟩ | refine ⟨decide_eq_true (by omega), ?_⟩ | refine ⟨⟨decide_eq_true (by omega), decide_eq_true (by omega)⟩, ?_⟩)
        try (first | done | decide | exact decide_eq_true (by omega) | exact ⟨decide_eq_true (by omega), decide_eq_true (by omega)⟩)
        exact ⟨y, m, hy', rfl⟩
      refine .of (ht) ?_
      try simp -implicitDefEqProofs (maxSteps := 1000000) only [go_sem, true_implies, false_implies, e 0 q0, e 1 q1, e 2 q2]
      repeat (first | refine ⟨rfl, ?_⟩ | refine ⟨by decide, ?_⟩ | refine ⟨⟨by decide, by decide⟩, ?_⟩ | refine ⟨decide_eq_true (by omega), ?_⟩ | refine ⟨⟨decide_eq_true (by omega), decide_eq_true (by omega)⟩, ?_⟩)
      try (first | done | decide | exact decide_eq_true (by omega) | exact ⟨decide_eq_true (by omega), decide_eq_true (by omega)⟩)
      exact ⟨y, ⟨5, y.M.To, y.M.From, y.M.Seq, ⟨#[]⟩, ⟨#[]⟩, 0, cd⟩, hy', rfl⟩
    · try simp -implicitDefEqProofs (maxSteps := 1000000) only [go_sem, true_implies, false_implies, gk]
      repeat (first | refine ⟨rfl, ?_⟩ | refine ⟨by decide, ?_⟩ | refine ⟨⟨by decide, by decide⟩, ?_⟩ | refine ⟨decide_eq_true (by omega), ?_⟩ | refine ⟨⟨decide_eq_true (by omega), decide_eq_true (by omega)⟩, ?_⟩)
      try (first | done | decide | exact decide_eq_true (by omega) | exact ⟨decide_eq_true (by omega), decide_eq_true (by omega)⟩)
      obtain ⟨k, d, ⟨_, hd⟩, ht⟩ := c_s_l1Below d 8 hd
      have e : ∀ j : Int, k ≠ j → (k == j) = false := fun j h => by simpa using h
      by_cases q0 : k = 0
      · subst q0
        refine .of (ht) ?_
        try simp -implicitDefEqProofs (maxSteps := 1000000) only [go_sem, true_implies, false_implies]
        repeat (first | refine ⟨rfl, ?_⟩ | refine ⟨by decide, ?_⟩ | refine ⟨⟨by decide, by decide⟩, ?_⟩ | refine ⟨decide_eq_true (by omega), ?_⟩ | refine ⟨⟨decide_eq_true (by omega), decide_eq_true (by omega)⟩, ?_⟩)
        try (first | done | decide | exact decide_eq_true (by omega) | exact ⟨decide_eq_true (by omega), decide_eq_true (by omega)⟩)
        exact ⟨y, ⟨2, y.M.To, y.M.From, IntKind.i64.wrap (y.M.Seq + 1), ⟨#[]⟩, ⟨#[103, 111, 116]⟩, 0, cd⟩, hy', rfl⟩
      by_cases q1 : k = 1
      · subst q1
        refine .of (ht) ?_
        try simp -implicitDefEqProofs (maxSteps := 1000000) only [go_sem, true_implies, false_implies]
        repeat (first | refine ⟨rfl, ?_⟩ | refine ⟨by decide, ?_⟩ | refine ⟨⟨by decide, by decide⟩, ?_⟩ | refine ⟨decide_eq_true (by omega), ?_⟩ | refine ⟨⟨decide_eq_true (by omega), decide_eq_true (by omega)⟩, ?_⟩)
        try (first | done | decide | exact decide_eq_true (by omega) | exact ⟨decide_eq_true (by omega), decide_eq_true (by omega)⟩)
        obtain ⟨r, d, ⟨_, hd⟩, ht⟩ := c_s_l1Int d [2, 5] hd (by decide)
        refine .of (ht) ?_
        try simp -implicitDefEqProofs (maxSteps := 1000000) only [go_sem, true_implies, false_implies]
        repeat (first | refine ⟨rfl, ?_⟩ | refine ⟨by decide, ?_⟩ | refine ⟨⟨by decide, by decide⟩, ?_⟩ | refine ⟨decide_eq_true (by omega), ?_⟩ | refine ⟨⟨decide_eq_true (by omega), decide_eq_true (by omega)⟩, ?_⟩)
        try (first | done | decide | exact decide_eq_true (by omega) | exact ⟨decide_eq_true (by omega), decide_eq_true (by omega)⟩)
        exact ⟨y, ⟨r, y.M.To, y.M.From, y.M.Seq, ⟨#[]⟩, ⟨#[103, 111, 116]⟩, 0, cd⟩, hy', rfl⟩
      by_cases q2 : k = 2
      · subst q2
        refine .of (ht) ?_
        try simp -implicitDefEqProofs (maxSteps := 1000000) only [go_sem, true_implies, false_implies]
        repeat (first | refine ⟨rfl, ?_⟩ | refine ⟨by decide, ?_⟩ | refine ⟨⟨by decide, by decide⟩, ?_⟩ | refine ⟨decide_eq_true (by omega), ?_⟩ | refine ⟨⟨decide_eq_true (by omega), decide_eq_true (by omega)⟩, ?_⟩)
        try (first | done | decide | exact decide_eq_true (by omega) | exact ⟨decide_eq_true (by omega), decide_eq_true (by omega)⟩)
        obtain ⟨m, d, ⟨_, hd⟩, ht⟩ := c_s_l16Any d hd
        refine .of (ht) ?_
        try simp -implicitDefEqProofs (maxSteps := 1000000) only [go_sem, true_implies, false_implies]
        repeat (first | refine ⟨rfl, ?_⟩ | refine ⟨by decide, ?_⟩ | refine ⟨⟨by decide, by decide⟩, ?_⟩ | refine ⟨decide_eq_true (by omega), ?_⟩ | refine ⟨⟨decide_eq_true (by omega), decide_eq_true (by omega)⟩, ?_⟩)
        try (first | done | decide | exact decide_eq_true (by omega) | exact ⟨decide_eq_true (by omega), decide_eq_true (by omega)⟩)
        exact ⟨y, m, hy', rfl⟩
      refine .of (ht) ?_
      try simp -implicitDefEqProofs (maxSteps := 1000000) only [go_sem, true_implies, false_implies, e 0 q0, e 1 q1, e 2 q2]
      repeat (first | refine ⟨rfl, ?_⟩ | refine ⟨by decide, ?_⟩ | refine ⟨⟨by decide, by decide⟩, ?_⟩ | refine ⟨decide_eq_true (by omega), ?_⟩ | refine ⟨⟨decide_eq_true (by omega), decide_eq_true (by omega)⟩, ?_⟩)
      try (first | done | decide | exact decide_eq_true (by omega) | exact ⟨decide_eq_true (by omega), decide_eq_true (by omega)⟩)
      exact ⟨y, ⟨2, y.M.To, y.M.From, y.M.Seq, ⟨#[]⟩, ⟨#[103, 111, 116]⟩, 0, cd⟩, hy', rfl⟩
  · skip
    refine .of (c_s_l18Back a.M 5) ?_
    try simp -implicitDefEqProofs (maxSteps := 1000000) only [go_sem, true_implies, false_implies]
    repeat (first | refine ⟨rfl, ?_⟩ | refine ⟨by decide, ?_⟩ | refine ⟨⟨by decide, by decide⟩, ?_⟩ | refine ⟨decide_eq_true (by omega), ?_⟩ | refine ⟨⟨decide_eq_true (by omega), decide_eq_true (by omega)⟩, ?_⟩)
    try (first | done | decide | exact decide_eq_true (by omega) | exact ⟨decide_eq_true (by omega), decide_eq_true (by omega)⟩)
    obtain ⟨cd, d, ⟨_, hd⟩, ht⟩ := c_s_l1Below d 7 hd
    refine .of (ht) ?_
    try simp -implicitDefEqProofs (maxSteps := 1000000) only [go_sem, true_implies, false_implies]
    repeat (first | refine ⟨rfl, ?_⟩ | refine ⟨by decide, ?_⟩ | refine ⟨⟨by decide, by decide⟩, ?_⟩ | refine ⟨decide_eq_true (by omega), ?_⟩ | refine ⟨⟨decide_eq_true (by omega), decide_eq_true (by omega)⟩, ?_⟩)
    try (first | done | decide | exact decide_eq_true (by omega) | exact ⟨decide_eq_true (by omega), decide_eq_true (by omega)⟩)
    cases gk : (a.M.Kind == 1)
    · try simp -implicitDefEqProofs (maxSteps := 1000000) only [go_sem, true_implies, false_implies, gk]
      repeat (first | refine ⟨rfl, ?_⟩ | refine ⟨by decide, ?_⟩ | refine ⟨⟨by decide, by decide⟩, ?_⟩ | refine ⟨decide_eq_true (by omega), ?_⟩ | refine ⟨⟨decide_eq_true (by omega), decide_eq_true (by omega)⟩, ?_⟩)
      try (first | done | decide | exact decide_eq_true (by omega) | exact ⟨decide_eq_true (by omega), decide_eq_true (by omega)⟩)
      obtain ⟨k, d, ⟨_, hd⟩, ht⟩ := c_s_l1Below d 8 hd
      have e : ∀ j : Int, k ≠ j → (k == j) = false := fun j h => by simpa using h
      by_cases q0 : k = 0
      · subst q0
        refine .of (ht) ?_
        try simp -implicitDefEqProofs (maxSteps := 1000000) only [go_sem, true_implies, false_implies]
        repeat (first | refine ⟨rfl, ?_⟩ | refine ⟨by decide, ?_⟩ | refine ⟨⟨by decide, by decide⟩, ?_⟩ | refine ⟨decide_eq_true (by omega), ?_⟩ | refine ⟨⟨decide_eq_true (by omega), decide_eq_true (by omega)⟩, ?_⟩)
        try (first | done | decide | exact decide_eq_true (by omega) | exact ⟨decide_eq_true (by omega), decide_eq_true (by omega)⟩)
        exact ⟨a, ⟨5, a.M.To, a.M.From, IntKind.i64.wrap (a.M.Seq + 1), ⟨#[]⟩, ⟨#[]⟩, 0, cd⟩, ha, rfl⟩
      by_cases q1 : k = 1
      · subst q1
        refine .of (ht) ?_
        try simp -implicitDefEqProofs (maxSteps := 1000000) only [go_sem, true_implies, false_implies]
        repeat (first | refine ⟨rfl, ?_⟩ | refine ⟨by decide, ?_⟩ | refine ⟨⟨by decide, by decide⟩, ?_⟩ | refine ⟨decide_eq_true (by omega), ?_⟩ | refine ⟨⟨decide_eq_true (by omega), decide_eq_true (by omega)⟩, ?_⟩)
        try (first | done | decide | exact decide_eq_true (by omega) | exact ⟨decide_eq_true (by omega), decide_eq_true (by omega)⟩)
        obtain ⟨r, d, ⟨_, hd⟩, ht⟩ := c_s_l1Int d [2, 5] hd (by decide)
        refine .of (ht) ?_
        try simp -implicitDefEqProofs (maxSteps := 1000000) only [go_sem, true_implies, false_implies]
        repeat (first | refine ⟨rfl, ?_⟩ | refine ⟨by decide, ?_⟩ | refine ⟨⟨by decide, by decide⟩, ?_⟩ | refine ⟨decide_eq_true (by omega), ?_⟩ | refine ⟨⟨decide_eq_true (by omega), decide_eq_true (by omega)⟩, ?_⟩)
        try (first | done | decide | exact decide_eq_true (by omega) | exact ⟨decide_eq_true (by omega), decide_eq_true (by omega)⟩)
        exact ⟨a, ⟨r, a.M.To, a.M.From, a.M.Seq, ⟨#[]⟩, ⟨#[]⟩, 0, cd⟩, ha, rfl⟩
      by_cases q2 : k = 2
      · subst q2
        refine .of (ht) ?_
        try simp -implicitDefEqProofs (maxSteps := 1000000) only [go_sem, true_implies, false_implies]
        repeat (first | refine ⟨rfl, ?_⟩ | refine ⟨by decide, ?_⟩ | refine ⟨⟨by decide, by decide⟩, ?_⟩ | refine ⟨decide_eq_true (by omega), ?_⟩ | refine ⟨⟨decide_eq_true (by omega), decide_eq_true (by omega)⟩, ?_⟩)
        try (first | done | decide | exact decide_eq_true (by omega) | exact ⟨decide_eq_true (by omega), decide_eq_true (by omega)⟩)
        obtain ⟨m, d, ⟨_, hd⟩, ht⟩ := c_s_l16Any d hd
        refine .of (ht) ?_
        try simp -implicitDefEqProofs (maxSteps := 1000000) only [go_sem, true_implies, false_implies]
        repeat (first | refine ⟨rfl, ?_⟩ | refine ⟨by decide, ?_⟩ | refine ⟨⟨by decide, by decide⟩, ?_⟩ | refine ⟨decide_eq_true (by omega), ?_⟩ | refine ⟨⟨decide_eq_true (by omega), decide_eq_true (by omega)⟩, ?_⟩)
        try (first | done | decide | exact decide_eq_true (by omega) | exact ⟨decide_eq_true (by omega), decide_eq_true (by omega)⟩)
        exact ⟨a, m, ha, rfl⟩
      refine .of (ht) ?_
      try simp -implicitDefEqProofs (maxSteps := 1000000) only [go_sem, true_implies, false_implies, e 0 q0, e 1 q1, e 2 q2]
      repeat (first | refine ⟨rfl, ?_⟩ | refine ⟨by decide, ?_⟩ | refine ⟨⟨by decide, by decide⟩, ?_⟩ | refine ⟨decide_eq_true (by omega), ?_⟩ | refine ⟨⟨decide_eq_true (by omega), decide_eq_true (by omega)⟩, ?_⟩)
      try (first | done | decide | exact decide_eq_true (by omega) | exact ⟨decide_eq_true (by omega), decide_eq_true (by omega)⟩)
      exact ⟨a, ⟨5, a.M.To, a.M.From, a.M.Seq, ⟨#[]⟩, ⟨#[]⟩, 0, cd⟩, ha, rfl⟩
    · try simp -implicitDefEqProofs (maxSteps := 1000000) only [go_sem, true_implies, false_implies, gk]
      repeat (first | refine ⟨rfl, ?_⟩ | refine ⟨by decide, ?_⟩ | refine ⟨⟨by decide, by decide⟩, ?_⟩ | refine ⟨decide_eq_true (by omega), ?_⟩ | refine ⟨⟨decide_eq_true (by omega), decide_eq_true (by omega)⟩, ?_⟩)
      try (first | done | decide | exact decide_eq_true (by omega) | exact ⟨decide_eq_true (by omega), decide_eq_true (by omega)⟩)
      obtain ⟨k, d, ⟨_, hd⟩, ht⟩ := c_s_l1Below d 8 hd
      have e : ∀ j : Int, k ≠ j → (k == j) = false := fun j h => by simpa using h
      by_cases q0 : k = 0
      · subst q0
        refine .of (ht) ?_
        try simp -implicitDefEqProofs (maxSteps := 1000000) only [go_sem, true_implies, false_implies]
        repeat (first | refine ⟨rfl, ?_⟩ | refine ⟨by decide, ?_⟩ | refine ⟨⟨by decide, by decide⟩, ?_⟩ | refine ⟨decide_eq_true (by omega), ?_⟩ | refine ⟨⟨decide_eq_true (by omega), decide_eq_true (by omega)⟩, ?_⟩)
        try (first | done | decide | exact decide_eq_true (by omega) | exact ⟨decide_eq_true (by omega), decide_eq_true (by omega)⟩)
        exact ⟨a, ⟨2, a.M.To, a.M.From, IntKind.i64.wrap (a.M.Seq + 1), ⟨#[]⟩, ⟨#[103, 111, 116]⟩, 0, cd⟩, ha, rfl⟩
      by_cases q1 : k = 1
      · subst q1
        refine .of (ht) ?_
        try simp -implicitDefEqProofs (maxSteps := 1000000) only [go_sem, true_implies, false_implies]
        repeat (first | refine ⟨rfl, ?_⟩ | refine ⟨by decide, ?_⟩ | refine ⟨⟨by decide, by decide⟩, ?_⟩ | refine ⟨decide_eq_true (by omega), ?_⟩ | refine ⟨⟨decide_eq_true (by omega), decide_eq_true (by omega)⟩, ?_⟩)
        try (first | done | decide | exact decide_eq_true (by omega) | exact ⟨decide_eq_true (by omega), decide_eq_true (by omega)⟩)
        obtain ⟨r, d, ⟨_, hd⟩, ht⟩ := c_s_l1Int d [2, 5] hd (by decide)
        refine .of (ht) ?_
        try simp -implicitDefEqProofs (maxSteps := 1000000) only [go_sem, true_implies, false_implies]
        repeat (first | refine ⟨rfl, ?_⟩ | refine ⟨by decide, ?_⟩ | refine ⟨⟨by decide, by decide⟩, ?_⟩ | refine ⟨decide_eq_true (by omega), ?_⟩ | refine ⟨⟨decide_eq_true (by omega), decide_eq_true (by omega)⟩, ?_⟩)
        try (first | done | decide | exact decide_eq_true (by omega) | exact ⟨decide_eq_true (by omega), decide_eq_true (by omega)⟩)
        exact ⟨a, ⟨r, a.M.To, a.M.From, a.M.Seq, ⟨#[]⟩, ⟨#[103, 111, 116]⟩, 0, cd⟩, ha, rfl⟩
      by_cases q2 : k = 2
      · subst q2
        refine .of (ht) ?_
        try simp -implicitDefEqProofs (maxSteps := 1000000) only [go_sem, true_implies, false_implies]
        repeat (first | refine ⟨rfl, ?_⟩ | refine ⟨by decide, ?_⟩ | refine ⟨⟨by decide, by decide⟩, ?_⟩ | refine ⟨decide_eq_true (by omega), ?_⟩ | refine ⟨⟨decide_eq_true (by omega), decide_eq_true (by omega)⟩, ?_⟩)
        try (first | done | decide | exact decide_eq_true (by omega) | exact ⟨decide_eq_true (by omega), decide_eq_true (by omega)⟩)
        obtain ⟨m, d, ⟨_, hd⟩, ht⟩ := c_s_l16Any d hd
        refine .of (ht) ?_
        try simp -implicitDefEqProofs (maxSteps := 1000000) only [go_sem, true_implies, false_implies]
        repeat (first | refine ⟨rfl, ?_⟩ | refine ⟨by decide, ?_⟩ | refine ⟨⟨by decide, by decide⟩, ?_⟩ | refine ⟨decide_eq_true (by omega), ?_⟩ | refine ⟨⟨decide_eq_true (by omega), decide_eq_true (by omega)⟩, ?_⟩)
        try (first | done | decide | exact decide_eq_true (by omega) | exact ⟨decide_eq_true (by omega), decide_eq_true (by omega)⟩)
        exact ⟨a, m, ha, rfl⟩
      refine .of (ht) ?_
      try simp -implicitDefEqProofs (maxSteps := 1000000) only [go_sem, true_implies, false_implies, e 0 q0, e 1 q1, e 2 q2]
      repeat (first | refine ⟨rfl, ?_⟩ | refine ⟨by decide, ?_⟩ | refine ⟨⟨by decide, by decide⟩, ?_⟩ | refine ⟨decide_eq_true (by omega), ?_⟩ | refine ⟨⟨decide_eq_true (by omega), decide_eq_true (by omega)⟩, ?_⟩)
      try (first | done | decide | exact decide_eq_true (by omega) | exact ⟨decide_eq_true (by omega), decide_eq_true (by omega)⟩)
      exact ⟨a, ⟨2, a.M.To, a.M.From, a.M.Seq, ⟨#[]⟩, ⟨#[103, 111, 116]⟩, 0, cd⟩, ha, rfl⟩
def x_l_sameClient : FnX := ⟨59, [.tmp 4],
  .seq (.reg [⟨none, some 2, 2, .box (.t 0)⟩,
   ⟨none, some 3, 3, .box (.t 1)⟩,
   ⟨none, some 4, 4, .mv (.k (.one (.pv (.bool false))))⟩])
 (.seq (.seq (.reg [⟨none, some 6, 6, .faddr (.t 2) 0⟩,
   ⟨none, some 7, 7, .load none (.t 6)⟩,
   ⟨none, some 8, 8, .faddr (.t 3) 0⟩,
   ⟨none, some 9, 9, .load none (.t 8)⟩,
   ⟨none, some 10, 10, .bin .neq (.t 7) (.t 9)⟩,
   ⟨none, some 11, 11, .mv (.t 10)⟩,
   ⟨(some (11, false)), some 12, 12, .faddr (.t 2) 1⟩,
   ⟨(some (11, false)), some 13, 13, .load none (.t 12)⟩,
   ⟨(some (11, false)), some 14, 14, .faddr (.t 3) 1⟩,
   ⟨(some (11, false)), some 15, 15, .load none (.t 14)⟩,
   ⟨(some (11, false)), some 16, 16, .bin .neq (.t 13) (.t 15)⟩,
   ⟨none, some 17, 17, .pick (.t 11) (.k (.one (.pv (.bool true)))) (.t 16)⟩,
   ⟨none, some 18, 18, .mv (.t 17)⟩,
   ⟨(some (18, false)), some 19, 19, .faddr (.t 2) 2⟩,
   ⟨(some (18, false)), some 20, 20, .load none (.t 19)⟩,
   ⟨(some (18, false)), some 21, 21, .faddr (.t 3) 2⟩,
   ⟨(some (18, false)), some 22, 22, .load none (.t 21)⟩,
   ⟨(some (18, false)), some 23, 23, .beq true (.t 20) (.t 22)⟩,
   ⟨none, some 24, 24, .pick (.t 18) (.k (.one (.pv (.bool true)))) (.t 23)⟩,
   ⟨none, some 25, 25, .mv (.t 24)⟩,
   ⟨(some (25, false)), some 26, 26, .faddr (.t 2) 3⟩,
   ⟨(some (25, false)), some 27, 27, .load (some 8) (.t 26)⟩,
   ⟨(some (25, false)), some 28, 28, .faddr (.t 3) 3⟩,
   ⟨(some (25, false)), some 29, 29, .load (some 8) (.t 28)⟩,
   ⟨(some (25, false)), some 30, 30, .eqs true [0, 0, 0, 0, 2, 2, 0, 0] (.t 27) (.t 29)⟩,
   ⟨none, some 31, 31, .pick (.t 25) (.k (.one (.pv (.bool true)))) (.t 30)⟩,
   ⟨none, some 32, 32, .mv (.t 31)⟩,
   ⟨(some (32, false)), some 33, 33, .faddr (.t 2) 11⟩,
   ⟨(some (32, false)), some 34, 34, .load none (.t 33)⟩,
   ⟨(some (32, false)), some 35, 35, .len (.t 34)⟩,
   ⟨(some (32, false)), some 36, 36, .faddr (.t 3) 11⟩,
   ⟨(some (32, false)), some 37, 37, .load none (.t 36)⟩,
   ⟨(some (32, false)), some 38, 38, .len (.t 37)⟩,
   ⟨(some (32, false)), some 39, 39, .bin .neq (.t 35) (.t 38)⟩,
   ⟨none, some 40, 40, .pick (.t 32) (.k (.one (.pv (.bool true)))) (.t 39)⟩])
 (.cond 40 (.seq (.reg [⟨none, some 4, 4, .mv (.k (.one (.pv (.bool false))))⟩])
 (.ret)) (.skip)))
 (.seq (.seq (.reg [⟨none, some 5, 5, .mv (.k (.one (.pv (.int .i64 0))))⟩])
 (.block 0 (.loop [2, 3, 5] (.seq (.seq (.reg [⟨none, some 41, 41, .mv (.t 5)⟩,
   ⟨none, some 42, 42, .faddr (.t 2) 11⟩,
   ⟨none, some 43, 43, .load none (.t 42)⟩,
   ⟨none, some 44, 44, .len (.t 43)⟩,
   ⟨none, some 45, 45, .bin .lss (.t 41) (.t 44)⟩])
 (.cond 45 (.skip) (.exit 0)))
 (.seq (.block 1 (.seq (.draw [⟨none, some 48, 48, .faddr (.t 2) 11⟩,
   ⟨none, some 49, 49, .load none (.t 48)⟩,
   ⟨none, some 50, 50, .mv (.t 5)⟩,
   ⟨none, some 51, 51, .iaddr 5 (.t 49) (.t 50)⟩,
   ⟨none, some 52, 52, .load (some 5) (.t 51)⟩,
   ⟨none, some 53, 53, .faddr (.t 3) 11⟩,
   ⟨none, some 54, 54, .load none (.t 53)⟩,
   ⟨none, some 55, 55, .mv (.t 5)⟩,
   ⟨none, some 56, 56, .iaddr 5 (.t 54) (.t 55)⟩,
   ⟨none, some 57, 57, .load (some 5) (.t 56)⟩,
   ⟨none, some 58, 58, .eqs true [0, 0, 2, 2, 0] (.t 52) (.t 57)⟩] [[], [0], [], [1, 2], [3], [], [5], [], [6, 7], [8], [4, 9]])
 (.cond 58 (.seq (.reg [⟨none, some 4, 4, .mv (.k (.one (.pv (.bool false))))⟩])
 (.ret)) (.skip))))
 (.reg [⟨none, some 46, 46, .mv (.t 5)⟩,
   ⟨none, some 47, 47, .bin .add (.t 46) (.k (.one (.pv (.int .i64 1))))⟩,
   ⟨none, some 5, 5, .mv (.t 47)⟩]))))))
 (.norm [] (.seq (.reg [⟨none, some 4, 4, .mv (.k (.one (.pv (.bool true))))⟩])
 (.ret)))))⟩
abbrev C_l_sameClient (Te : Nat → List AV → Res → Prop) : Prop := ∀ (x y : ClientV) (hx : x.Len), Te 17 [.agg (x.enc false), .agg (y.enc false)] ⟨[.one (bT (decide (x = y)))], [x.enc false, y.enc false]⟩
theorem r_l_sameClient {Te : Nat → List AV → Res → Prop} : ∀ (x y : ClientV) (hx : x.Len), RunFn Te x_l_sameClient [.agg (x.enc false), .agg (y.enc false)] ⟨[.one (bT (decide (x = y)))], [x.enc false, y.enc false]⟩ := by
  intro x y hx
  refine ⟨by simp -implicitDefEqProofs (maxSteps := 1000000) only [x_l_sameClient, go_sem], ?_⟩
  cases q0 : (x.Id == y.Id)
  · have e : decide (x = y) = false := decide_eq_false fun h => by subst h; simp at q0
    simp -implicitDefEqProofs (maxSteps := 1000000) only [x_l_sameClient, go_sem, true_implies, false_implies, bne, q0, e]
    repeat (first | refine ⟨rfl, ?_⟩ | refine ⟨by decide, ?_⟩ | refine ⟨⟨by decide, by decide⟩, ?_⟩ | refine ⟨decide_eq_true (by omega), ?_⟩ | refine ⟨⟨decide_eq_true (by omega), decide_eq_true (by omega)⟩, ?_⟩)
    try (first | done | decide | exact decide_eq_true (by omega) | exact ⟨decide_eq_true (by omega), decide_eq_true (by omega)⟩)
  cases q1 : (x.Seq == y.Seq)
  · have e : decide (x = y) = false := decide_eq_false fun h => by subst h; simp at q1
    simp -implicitDefEqProofs (maxSteps := 1000000) only [x_l_sameClient, go_sem, true_implies, false_implies, bne, q0, q1, e]
    repeat (first | refine ⟨rfl, ?_⟩ | refine ⟨by decide, ?_⟩ | refine ⟨⟨by decide, by decide⟩, ?_⟩ | refine ⟨decide_eq_true (by omega), ?_⟩ | refine ⟨⟨decide_eq_true (by omega), decide_eq_true (by omega)⟩, ?_⟩)
    try (first | done | decide | exact decide_eq_true (by omega) | exact ⟨decide_eq_true (by omega), decide_eq_true (by omega)⟩)
  cases q2 : (x.Busy == y.Busy)
  · have e : decide (x = y) = false := decide_eq_false fun h => by subst h; simp at q2
    simp -implicitDefEqProofs (maxSteps := 1000000) only [x_l_sameClient, go_sem, true_implies, false_implies, bne, q0, q1, q2, e]
    repeat (first | refine ⟨rfl, ?_⟩ | refine ⟨by decide, ?_⟩ | refine ⟨⟨by decide, by decide⟩, ?_⟩ | refine ⟨decide_eq_true (by omega), ?_⟩ | refine ⟨⟨decide_eq_true (by omega), decide_eq_true (by omega)⟩, ?_⟩)
    try (first | done | decide | exact decide_eq_true (by omega) | exact ⟨decide_eq_true (by omega), decide_eq_true (by omega)⟩)
  cases q3 : decide (x.M = y.M)
  · have e : decide (x = y) = false := decide_eq_false fun h => by subst h; simp at q3
    simp -implicitDefEqProofs (maxSteps := 1000000) only [x_l_sameClient, go_sem, true_implies, false_implies, bne, q0, q1, q2, msg_eqs, q3, e]
    repeat (first | refine ⟨rfl, ?_⟩ | refine ⟨by decide, ?_⟩ | refine ⟨⟨by decide, by decide⟩, ?_⟩ | refine ⟨decide_eq_true (by omega), ?_⟩ | refine ⟨⟨decide_eq_true (by omega), decide_eq_true (by omega)⟩, ?_⟩)
    try (first | done | decide | exact decide_eq_true (by omega) | exact ⟨decide_eq_true (by omega), decide_eq_true (by omega)⟩)
  cases q4 : ((x.Dones.length : Int) == y.Dones.length)
  · have e : decide (x = y) = false := decide_eq_false fun h => by subst h; simp at q4
    simp -implicitDefEqProofs (maxSteps := 1000000) only [x_l_sameClient, go_sem, true_implies, false_implies, bne, q0, q1, q2, msg_eqs, q3, q4, e]
    repeat (first | refine ⟨rfl, ?_⟩ | refine ⟨by decide, ?_⟩ | refine ⟨⟨by decide, by decide⟩, ?_⟩ | refine ⟨decide_eq_true (by omega), ?_⟩ | refine ⟨⟨decide_eq_true (by omega), decide_eq_true (by omega)⟩, ?_⟩)
    try (first | done | decide | exact decide_eq_true (by omega) | exact ⟨decide_eq_true (by omega), decide_eq_true (by omega)⟩)
  have l3 : x.Dones.length = y.Dones.length := by have := eq_of_beq q4; omega
  have hx' : x.Dones.length ≤ 2 ^ 31 := hx
  simp -implicitDefEqProofs (maxSteps := 1000000) only [x_l_sameClient, go_sem, true_implies, false_implies, bne, q0, q1, q2, msg_eqs, q3, q4]
  repeat (first | refine ⟨rfl, ?_⟩ | refine ⟨by decide, ?_⟩ | refine ⟨⟨by decide, by decide⟩, ?_⟩ | refine ⟨decide_eq_true (by omega), ?_⟩ | refine ⟨⟨decide_eq_true (by omega), decide_eq_true (by omega)⟩, ?_⟩)
  try (first | done | decide | exact decide_eq_true (by omega) | exact ⟨decide_eq_true (by omega), decide_eq_true (by omega)⟩)
  refine loop_of (σ := Nat) (fun i => ⟨[(2, .bp 2 0), (3, .bp 3 0), (5, .one (.pv (.int .i64 i)))], [(2, [.pv (.int .i64 x.Id), .pv (.int .i64 x.Seq), .pv (.bool x.Busy), .pv (.int .i64 x.M.Kind), .pv (.int .i64 x.M.From), .pv (.int .i64 x.M.To), .pv (.int .i64 x.M.Seq), .pv (.string x.M.Key), .pv (.string x.M.Text), .pv (.int .i64 x.M.N), .pv (.int .i64 x.M.Code), .ro 5 (x.Dones.map DoneV.row)]), (3, [.pv (.int .i64 y.Id), .pv (.int .i64 y.Seq), .pv (.bool y.Busy), .pv (.int .i64 y.M.Kind), .pv (.int .i64 y.M.From), .pv (.int .i64 y.M.To), .pv (.int .i64 y.M.Seq), .pv (.string y.M.Key), .pv (.string y.M.Text), .pv (.int .i64 y.M.N), .pv (.int .i64 y.M.Code), .ro 5 (y.Dones.map DoneV.row)])], [(0, x.enc false), (1, y.enc false)]⟩) (fun i => i ≤ x.Dones.length ∧ x.Dones.take i = y.Dones.take i) (fun i => x.Dones.length - i) 0 ?_ ⟨Nat.zero_le _, rfl⟩ ?_
  · simp -implicitDefEqProofs (maxSteps := 1000000) only [go_sem]; rfl
  · rintro i ⟨hi, hq⟩
    cases q : decide ((i : Int) < (x.Dones.length : Int))
    · have e1 : x.Dones = y.Dones := by
        have hx : x.Dones.length ≤ i := by simp only [decide_eq_false_iff_not] at q; omega
        rw [List.take_of_length_le hx, List.take_of_length_le (by omega)] at hq
        exact hq
      have e : decide (x = y) = true := decide_eq_true (by
        cases x
        cases y
        simp only at e1 q0 q1 q2 q3
        subst e1
        rw [eq_of_beq q0, eq_of_beq q1, eq_of_beq q2, of_decide_eq_true q3])
      try simp -implicitDefEqProofs (maxSteps := 1000000) only [go_sem, true_implies, false_implies, q, e]
      repeat (first | refine ⟨rfl, ?_⟩ | refine ⟨by decide, ?_⟩ | refine ⟨⟨by decide, by decide⟩, ?_⟩ | refine ⟨decide_eq_true (by omega), ?_⟩ | refine ⟨⟨decide_eq_true (by omega), decide_eq_true (by omega)⟩, ?_⟩)
      try (first | done | decide | exact decide_eq_true (by omega) | exact ⟨decide_eq_true (by omega), decide_eq_true (by omega)⟩)
    · have k1 : i < x.Dones.length := by simp only [decide_eq_true_eq] at q; omega
      have k2 : i < y.Dones.length := by omega
      cases g : decide (x.Dones[i] = y.Dones[i])
      · have e : decide (x = y) = false := decide_eq_false fun h => by subst h; simp at g
        try simp -implicitDefEqProofs (maxSteps := 1000000) only [go_sem, true_implies, false_implies, q, List.getElem?_eq_getElem k1, List.getElem?_eq_getElem k2, done_beq, g, e, show (false != true) = true from rfl]
        repeat (first | refine ⟨rfl, ?_⟩ | refine ⟨by decide, ?_⟩ | refine ⟨⟨by decide, by decide⟩, ?_⟩ | refine ⟨decide_eq_true (by omega), ?_⟩ | refine ⟨⟨decide_eq_true (by omega), decide_eq_true (by omega)⟩, ?_⟩)
        try (first | done | decide | exact decide_eq_true (by omega) | exact ⟨decide_eq_true (by omega), decide_eq_true (by omega)⟩)
        try trivial
      · try simp -implicitDefEqProofs (maxSteps := 1000000) only [go_sem, true_implies, false_implies, q, List.getElem?_eq_getElem k1, List.getElem?_eq_getElem k2, done_beq, g, show (true != true) = false from rfl]
        repeat (first | refine ⟨rfl, ?_⟩ | refine ⟨by decide, ?_⟩ | refine ⟨⟨by decide, by decide⟩, ?_⟩ | refine ⟨decide_eq_true (by omega), ?_⟩ | refine ⟨⟨decide_eq_true (by omega), decide_eq_true (by omega)⟩, ?_⟩)
        try (first | done | decide | exact decide_eq_true (by omega) | exact ⟨decide_eq_true (by omega), decide_eq_true (by omega)⟩)
        refine ⟨i + 1, by rw [IntWalk.i64_in _ (by omega)]; rfl, ⟨k1, ?_⟩, by omega⟩
        rw [List.take_succ_eq_append_getElem k1, List.take_succ_eq_append_getElem k2, hq, of_decide_eq_true g]
end Go.X

/- Uh -/
namespace Go.X
set_option maxRecDepth 100000
set_option maxHeartbeats 8000000
theorem nodeOf_in (s : ByteArray) : 3 ≤ nodeOf s ∧ nodeOf s ≤ 4 := by
  unfold nodeOf
  split
  · decide
  · omega
theorem win_iff {n a b : Int} : win n a b = true ↔ a ≤ n ∧ n ≤ b := by simp only [win, Bool.and_eq_true, decide_eq_true_eq, ge_iff_le]
/-- What asking and being told leave. -/
structure AskGood (c : ClientV) (kind : Int) (key text : ByteArray) (K : Int) : Prop where
  seq : IntKind.i64.wrap (c.Seq + 1) = c.Seq + 1
  id : 1 ≤ c.Id ∧ c.Id ≤ 2
  bnd : 0 ≤ c.Seq ∧ c.Seq < 60000
  dones : c.Dones.length < 60
  xok : (ClientV.mk c.Id (c.Seq + 1) true (askMsg c kind key text) c.Dones).ok = true
  old : toldMay (ClientV.mk c.Id (c.Seq + 1) true (askMsg c kind key text) c.Dones) ⟨K, nodeOf key, c.Id, c.Seq, ⟨#[]⟩, ⟨#[]⟩, 0, 0⟩ = false
  new : toldMay (ClientV.mk c.Id (c.Seq + 1) true (askMsg c kind key text) c.Dones) ⟨K, nodeOf key, c.Id, c.Seq + 1, ⟨#[]⟩, ⟨#[]⟩, 0, 0⟩ = true
  fok : (ClientV.mk c.Id (c.Seq + 1) false ⟨0, 0, 0, 0, ⟨#[]⟩, ⟨#[]⟩, 0, 0⟩ (c.Dones ++ [toldDone (ClientV.mk c.Id (c.Seq + 1) true (askMsg c kind key text) c.Dones) ⟨K, nodeOf key, c.Id, c.Seq + 1, ⟨#[]⟩, ⟨#[]⟩, 0, 0⟩])).ok = true
theorem doneOk_mono {q r : Int} (h : q ≤ r) {d : DoneV} (hd : d.ok q = true) : d.ok r = true := by
  simp only [DoneV.ok, Bool.and_eq_true, win_iff] at hd ⊢
  obtain ⟨⟨⟨⟨h1, h2⟩, h3⟩, h4⟩, h5⟩ := hd
  exact ⟨⟨⟨⟨⟨h1.1, by omega⟩, h2⟩, h3⟩, h4⟩, h5⟩
theorem ask_good {c : ClientV} {kind : Int} {key text : ByteArray} (h : askMay c kind key text = true) : AskGood c kind key text (if kind = 1 then 2 else 5) := by
  simp only [askMay, Bool.and_eq_true, Bool.not_eq_true', decide_eq_false_iff_not] at h
  obtain ⟨⟨⟨⟨⟨hok, hb⟩, hd⟩, hs⟩, hk⟩, hm⟩ := h
  have hn := nodeOf_in key
  have hcok := hok
  simp only [ClientV.ok, Bool.and_eq_true, win_iff, decide_eq_true_eq] at hok
  obtain ⟨⟨⟨⟨hid, hseq⟩, hdl⟩, hall⟩, hmok⟩ := hok
  have ew : IntKind.i64.wrap (c.Seq + 1) = c.Seq + 1 := IntWalk.i64_in _ (by omega)
  have em : askMsg c kind key text = ⟨kind, c.Id, nodeOf key, c.Seq + 1, key, if kind = 3 then text else ⟨#[]⟩, 0, 0⟩ := by rw [askMsg, ew]
  have hall' : c.Dones.all (DoneV.ok (c.Seq + 1)) = true := by
    rw [List.all_eq_true] at hall ⊢
    exact fun d hd => doneOk_mono (by omega) (hall d hd)
  have hk1 : kind = 1 ∨ kind = 3 ∨ kind = 4 := by simpa [asked1, or_assoc] using hk
  have hK : (if kind = 1 then (2 : Int) else 5) = 2 ∨ (if kind = 1 then (2 : Int) else 5) = 5 := by split <;> simp
  have xok : (ClientV.mk c.Id (c.Seq + 1) true (askMsg c kind key text) c.Dones).ok = true := by
    simp only [ClientV.ok, Bool.and_eq_true, win_iff, decide_eq_true_eq]
    refine ⟨⟨⟨⟨hid, by omega, by omega⟩, hdl⟩, hall'⟩, ?_⟩
    simp only [ClientV.mok, if_true, hm, Bool.true_and]
    rw [em]
    simp only [hk, beq_self_eq_true, Bool.true_and, decide_eq_true_eq]
    omega
  have bok : ∀ q : Int, 0 ≤ q → q ≤ 60000 → Msg.ok ⟨if kind = 1 then 2 else 5, nodeOf key, c.Id, q, ⟨#[]⟩, ⟨#[]⟩, 0, 0⟩ = true := by
    intro q h0 h1
    simp only [Msg.ok, Bool.and_eq_true, win_iff, decide_eq_true_eq, bne_iff_ne]
    refine ⟨⟨⟨⟨⟨⟨⟨⟨⟨by omega, by omega⟩, ⟨by omega, by omega⟩⟩, ⟨by omega, by omega⟩⟩, by omega⟩, ⟨by omega, by omega⟩⟩, by decide⟩, by decide⟩, by decide⟩, by decide⟩
  refine ⟨ew, hid, by omega, by omega, xok, ?_, ?_, ?_⟩
  · have : (c.Seq == c.Seq + 1) = false := by simp only [beq_eq_false_iff_ne]; omega
    simp only [toldMay, this, Bool.and_false, Bool.false_and]
  · have xok2 := xok
    rw [em] at xok2
    simp only [toldMay, em, xok2, bok (c.Seq + 1) (by omega) (by omega), beq_self_eq_true, Bool.and_true, Bool.true_and]
  · simp only [ClientV.ok, Bool.and_eq_true, win_iff, decide_eq_true_eq]
    refine ⟨⟨⟨⟨hid, by omega, by omega⟩, by simp only [List.length_append, List.length_cons, List.length_nil]; omega⟩, ?_⟩, ?_⟩
    · rw [List.all_append, hall']
      simp only [List.all_cons, List.all_nil, Bool.and_true, Bool.true_and]
      simp only [Msg.ok, em, Bool.and_eq_true, win_iff, decide_eq_true_eq] at hm
      obtain ⟨⟨⟨⟨_, h6⟩, h7⟩, _⟩, _⟩ := hm
      simp only [DoneV.ok, toldDone, em, Bool.and_eq_true, win_iff, decide_eq_true_eq]
      refine ⟨⟨⟨⟨by omega, hk⟩, h6⟩, ?_⟩, by decide⟩
      split
      · decide
      · exact h7
    · simp only [ClientV.mok]
      rfl
theorem clients_law {c x : ClientV} {kind : Int} {key text : ByteArray} {m : Msg} (hr : askFor c kind key text = (x, m, true)) : (x.ok = true ∧ x.Busy = true ∧ x.again = m ∧ m.Seq = IntKind.i64.wrap (c.Seq + 1)) ∧ ∀ K : Int, (K = if m.Kind = 1 then 2 else 5) →
    (told x ⟨K, m.To, m.From, IntKind.i64.wrap (m.Seq - 1), ⟨#[]⟩, ⟨#[]⟩, 0, 0⟩).2 = false ∧ ∃ f, told x ⟨K, m.To, m.From, m.Seq, ⟨#[]⟩, ⟨#[]⟩, 0, 0⟩ = (f, true) ∧ f.Busy = false ∧ f.Dones.length = c.Dones.length + 1 ∧ f.ok = true ∧ (told f ⟨K, m.To, m.From, m.Seq, ⟨#[]⟩, ⟨#[]⟩, 0, 0⟩).2 = false := by
  cases g : askMay c kind key text
  · rw [askFor_no g] at hr
    cases hr
  · have G := ask_good g
    rw [askFor_yes g, G.seq] at hr
    obtain ⟨rfl, rfl, -⟩ := hr
    obtain ⟨eq, hid, hb, hd, hx, ho, hn, hf⟩ := G
    have es : (askMsg c kind key text).Seq = c.Seq + 1 := eq
    have ew : IntKind.i64.wrap ((askMsg c kind key text).Seq - 1) = c.Seq := by rw [es, IntWalk.i64_in _ (by omega)]; omega
    refine ⟨⟨hx, rfl, ?_, by rw [es, eq]⟩, fun K hK => ?_⟩
    · unfold ClientV.again
      rw [if_pos ⟨hx, rfl⟩]
    · subst hK
      have eK : (askMsg c kind key text).Kind = kind := rfl
      rw [ew, es, eK]
      refine ⟨?_, _, told_more hn (decide_eq_true (by show (c.Dones.length : Int) < 60; omega)), rfl, by simp only [List.length_append, List.length_cons, List.length_nil], hf, ?_⟩
      · exact congrArg Prod.snd (told_no ho)
      · refine congrArg Prod.snd (told_no ?_)
        simp only [toldMay, Bool.and_false, Bool.false_and]
end Go.X

/- W_FnClients -/
namespace Go.X
set_option maxRecDepth 100000
set_option maxHeartbeats 8000000
def x_l_FnClients_5 : XCode := .seq (.reg [⟨none, some 151, 151, .load (some 12) (.t 7)⟩,
   ⟨none, some 152, 152, .call 10 [0] [(.t 151)]⟩,
   ⟨none, some 150, 150, .mv (.t 152)⟩,
   ⟨none, some 153, 153, .ext (.t 150) 0⟩,
   ⟨none, some 154, 154, .ext (.t 150) 1⟩,
   ⟨none, some 26, 26, .alloc [.pv (.int .i64 0), .pv (.int .i64 0), .pv (.int .i64 0), .pv (.int .i64 0), .pv (.string ⟨#[]⟩), .pv (.string ⟨#[]⟩), .pv (.int .i64 0), .pv (.int .i64 0)]⟩,
   ⟨none, none, 100014, .store 8 (.t 26) (.t 153)⟩,
   ⟨none, some 27, 27, .mv (.t 154)⟩])
 (.seq (.reg [⟨none, some 155, 155, .faddr (.t 8) 2⟩,
   ⟨none, some 156, 156, .load none (.t 155)⟩,
   ⟨none, some 157, 157, .faddr (.t 8) 1⟩,
   ⟨none, some 158, 158, .load none (.t 157)⟩,
   ⟨none, some 159, 159, .faddr (.t 8) 3⟩,
   ⟨none, some 160, 160, .load none (.t 159)⟩,
   ⟨none, some 161, 161, .build [.pv (.int .i64 0), .pv (.int .i64 0), .pv (.int .i64 0), .pv (.int .i64 0), .pv (.string ⟨#[]⟩), .pv (.string ⟨#[]⟩), .pv (.int .i64 0), .pv (.int .i64 0)] [(0, 1, (.k (.one (.pv (.int .i64 5))))), (1, 1, (.t 156)), (2, 1, (.t 158)), (3, 1, (.t 160))]⟩,
   ⟨none, some 28, 28, .alloc [.pv (.int .i64 0), .pv (.int .i64 0), .pv (.int .i64 0), .pv (.int .i64 0), .pv (.string ⟨#[]⟩), .pv (.string ⟨#[]⟩), .pv (.int .i64 0), .pv (.int .i64 0)]⟩,
   ⟨none, none, 100015, .store 8 (.t 28) (.t 161)⟩])
 (.seq (.seq (.reg [⟨none, some 162, 162, .faddr (.t 8) 0⟩,
   ⟨none, some 163, 163, .load none (.t 162)⟩,
   ⟨none, some 164, 164, .bin .eql (.t 163) (.k (.one (.pv (.int .i64 1))))⟩])
 (.cond 164 (.reg [⟨none, some 165, 165, .faddr (.t 28) 0⟩,
   ⟨none, none, 100016, .store 1 (.t 165) (.k (.one (.pv (.int .i64 2))))⟩]) (.skip)))
 (.seq (.reg [⟨none, some 166, 166, .load (some 8) (.t 28)⟩,
   ⟨none, some 29, 29, .alloc [.pv (.int .i64 0), .pv (.int .i64 0), .pv (.int .i64 0), .pv (.int .i64 0), .pv (.string ⟨#[]⟩), .pv (.string ⟨#[]⟩), .pv (.int .i64 0), .pv (.int .i64 0)]⟩,
   ⟨none, none, 100017, .store 8 (.t 29) (.t 166)⟩])
 (.seq (.reg [⟨none, some 167, 167, .faddr (.t 28) 3⟩,
   ⟨none, some 168, 168, .load none (.t 167)⟩,
   ⟨none, some 169, 169, .bin .sub (.t 168) (.k (.one (.pv (.int .i64 1))))⟩,
   ⟨none, some 170, 170, .faddr (.t 29) 3⟩,
   ⟨none, none, 100018, .store 1 (.t 170) (.t 169)⟩])
 (.seq (.reg [⟨none, some 172, 172, .load (some 12) (.t 7)⟩,
   ⟨none, some 173, 173, .load (some 8) (.t 29)⟩,
   ⟨none, some 174, 174, .call 13 [0, 0] [(.t 172), (.t 173)]⟩,
   ⟨none, some 171, 171, .mv (.t 174)⟩,
   ⟨none, some 175, 175, .ext (.t 171) 0⟩,
   ⟨none, some 176, 176, .ext (.t 171) 1⟩,
   ⟨none, some 30, 30, .alloc [.pv (.int .i64 0), .pv (.int .i64 0), .pv (.bool false), .pv (.int .i64 0), .pv (.int .i64 0), .pv (.int .i64 0), .pv (.int .i64 0), .pv (.string ⟨#[]⟩), .pv (.string ⟨#[]⟩), .pv (.int .i64 0), .pv (.int .i64 0), .nils 5]⟩,
   ⟨none, none, 100019, .store 12 (.t 30) (.t 175)⟩,
   ⟨none, some 31, 31, .mv (.t 176)⟩])
 (.seq (.reg [⟨none, some 178, 178, .load (some 12) (.t 7)⟩,
   ⟨none, some 179, 179, .load (some 8) (.t 28)⟩,
   ⟨none, some 180, 180, .call 13 [0, 0] [(.t 178), (.t 179)]⟩,
   ⟨none, some 177, 177, .mv (.t 180)⟩,
   ⟨none, some 181, 181, .ext (.t 177) 0⟩,
   ⟨none, some 182, 182, .ext (.t 177) 1⟩,
   ⟨none, some 32, 32, .alloc [.pv (.int .i64 0), .pv (.int .i64 0), .pv (.bool false), .pv (.int .i64 0), .pv (.int .i64 0), .pv (.int .i64 0), .pv (.int .i64 0), .pv (.string ⟨#[]⟩), .pv (.string ⟨#[]⟩), .pv (.int .i64 0), .pv (.int .i64 0), .nils 5]⟩,
   ⟨none, none, 100020, .store 12 (.t 32) (.t 181)⟩,
   ⟨none, some 33, 33, .mv (.t 182)⟩])
 (.seq (.reg [⟨none, some 184, 184, .load (some 12) (.t 32)⟩,
   ⟨none, some 185, 185, .load (some 8) (.t 28)⟩,
   ⟨none, some 186, 186, .call 13 [0, 0] [(.t 184), (.t 185)]⟩,
   ⟨none, some 183, 183, .mv (.t 186)⟩,
   ⟨none, some 187, 187, .ext (.t 183) 0⟩,
   ⟨none, some 188, 188, .ext (.t 183) 1⟩,
   ⟨none, some 34, 34, .alloc [.pv (.int .i64 0), .pv (.int .i64 0), .pv (.bool false), .pv (.int .i64 0), .pv (.int .i64 0), .pv (.int .i64 0), .pv (.int .i64 0), .pv (.string ⟨#[]⟩), .pv (.string ⟨#[]⟩), .pv (.int .i64 0), .pv (.int .i64 0), .nils 5]⟩,
   ⟨none, none, 100021, .store 12 (.t 34) (.t 187)⟩,
   ⟨none, some 35, 35, .mv (.t 188)⟩])
 (.seq (.reg [⟨none, some 189, 189, .mv (.t 27)⟩,
   ⟨none, some 190, 190, .mv (.t 189)⟩,
   ⟨(some (190, true)), some 191, 191, .load (some 8) (.t 26)⟩,
   ⟨(some (190, true)), some 192, 192, .load (some 8) (.t 8)⟩,
   ⟨(some (190, true)), some 193, 193, .eqs false [0, 0, 0, 0, 2, 2, 0, 0] (.t 191) (.t 192)⟩,
   ⟨none, some 194, 194, .pick (.t 190) (.t 193) (.k (.one (.pv (.bool false))))⟩,
   ⟨none, some 195, 195, .mv (.t 194)⟩,
   ⟨(some (195, true)), some 196, 196, .mv (.t 31)⟩,
   ⟨(some (195, true)), some 197, 197, .not (.t 196)⟩,
   ⟨none, some 198, 198, .pick (.t 195) (.t 197) (.k (.one (.pv (.bool false))))⟩,
   ⟨none, some 199, 199, .mv (.t 198)⟩,
   ⟨(some (199, true)), some 200, 200, .mv (.t 33)⟩,
   ⟨none, some 201, 201, .pick (.t 199) (.t 200) (.k (.one (.pv (.bool false))))⟩,
   ⟨none, some 202, 202, .mv (.t 201)⟩,
   ⟨(some (202, true)), some 203, 203, .mv (.t 35)⟩,
   ⟨(some (202, true)), some 204, 204, .not (.t 203)⟩,
   ⟨none, some 205, 205, .pick (.t 202) (.t 204) (.k (.one (.pv (.bool false))))⟩,
   ⟨none, some 206, 206, .mv (.t 205)⟩,
   ⟨(some (206, true)), some 207, 207, .faddr (.t 32) 2⟩,
   ⟨(some (206, true)), some 208, 208, .load none (.t 207)⟩,
   ⟨(some (206, true)), some 209, 209, .not (.t 208)⟩,
   ⟨none, some 210, 210, .pick (.t 206) (.t 209) (.k (.one (.pv (.bool false))))⟩,
   ⟨none, some 211, 211, .mv (.t 210)⟩,
   ⟨(some (211, true)), some 212, 212, .faddr (.t 32) 11⟩,
   ⟨(some (211, true)), some 213, 213, .load none (.t 212)⟩,
   ⟨(some (211, true)), some 214, 214, .len (.t 213)⟩,
   ⟨(some (211, true)), some 215, 215, .faddr (.t 3) 11⟩,
   ⟨(some (211, true)), some 216, 216, .load none (.t 215)⟩,
   ⟨(some (211, true)), some 217, 217, .len (.t 216)⟩,
   ⟨(some (211, true)), some 218, 218, .bin .add (.t 217) (.k (.one (.pv (.int .i64 1))))⟩,
   ⟨(some (211, true)), some 219, 219, .bin .eql (.t 214) (.t 218)⟩,
   ⟨none, some 220, 220, .pick (.t 211) (.t 219) (.k (.one (.pv (.bool false))))⟩,
   ⟨none, some 221, 221, .mv (.t 220)⟩,
   ⟨(some (221, true)), some 222, 222, .load (some 12) (.t 32)⟩,
   ⟨(some (221, true)), some 223, 223, .call 18 [0] [(.t 222)]⟩,
   ⟨none, some 224, 224, .pick (.t 221) (.t 223) (.k (.one (.pv (.bool false))))⟩,
   ⟨none, some 225, 225, .mv (.t 224)⟩,
   ⟨(some (225, true)), some 226, 226, .faddr (.t 8) 3⟩,
   ⟨(some (225, true)), some 227, 227, .load none (.t 226)⟩,
   ⟨(some (225, true)), some 228, 228, .faddr (.t 3) 1⟩,
   ⟨(some (225, true)), some 229, 229, .load none (.t 228)⟩,
   ⟨(some (225, true)), some 230, 230, .bin .add (.t 229) (.k (.one (.pv (.int .i64 1))))⟩,
   ⟨(some (225, true)), some 231, 231, .bin .eql (.t 227) (.t 230)⟩,
   ⟨none, some 232, 232, .pick (.t 225) (.t 231) (.k (.one (.pv (.bool false))))⟩,
   ⟨none, some 2, 2, .mv (.t 232)⟩])
 (.ret)))))))))
def x_l_FnClients_4 : XCode := .seq (.seq (.draw [⟨none, some 96, 96, .mv (.t 9)⟩,
   ⟨none, some 97, 97, .mv (.t 12)⟩,
   ⟨none, some 98, 98, .beq true (.t 96) (.t 97)⟩,
   ⟨none, some 99, 99, .mv (.t 98)⟩,
   ⟨(some (99, false)), some 100, 100, .load (some 8) (.t 8)⟩,
   ⟨(some (99, false)), some 101, 101, .load (some 8) (.t 11)⟩,
   ⟨(some (99, false)), some 102, 102, .eqs true [0, 0, 0, 0, 2, 2, 0, 0] (.t 100) (.t 101)⟩,
   ⟨none, some 103, 103, .pick (.t 99) (.k (.one (.pv (.bool true)))) (.t 102)⟩,
   ⟨none, some 104, 104, .mv (.t 103)⟩,
   ⟨(some (104, false)), some 105, 105, .load (some 12) (.t 7)⟩,
   ⟨(some (104, false)), some 106, 106, .load (some 12) (.t 10)⟩,
   ⟨(some (104, false)), some 107, 107, .call 17 [0, 0] [(.t 105), (.t 106)]⟩,
   ⟨(some (104, false)), some 108, 108, .not (.t 107)⟩,
   ⟨none, some 109, 109, .pick (.t 104) (.k (.one (.pv (.bool true)))) (.t 108)⟩,
   ⟨none, some 110, 110, .mv (.t 109)⟩,
   ⟨(some (110, false)), some 111, 111, .mv (.t 15)⟩,
   ⟨(some (110, false)), some 112, 112, .mv (.t 17)⟩,
   ⟨(some (110, false)), some 113, 113, .beq true (.t 111) (.t 112)⟩,
   ⟨none, some 114, 114, .pick (.t 110) (.k (.one (.pv (.bool true)))) (.t 113)⟩,
   ⟨none, some 115, 115, .mv (.t 114)⟩,
   ⟨(some (115, false)), some 116, 116, .load (some 8) (.t 14)⟩,
   ⟨(some (115, false)), some 117, 117, .load (some 8) (.t 16)⟩,
   ⟨(some (115, false)), some 118, 118, .eqs true [0, 0, 0, 0, 2, 2, 0, 0] (.t 116) (.t 117)⟩,
   ⟨none, some 119, 119, .pick (.t 115) (.k (.one (.pv (.bool true)))) (.t 118)⟩,
   ⟨none, some 120, 120, .mv (.t 119)⟩,
   ⟨(some (120, false)), some 121, 121, .mv (.t 21)⟩,
   ⟨(some (120, false)), some 122, 122, .mv (.t 23)⟩,
   ⟨(some (120, false)), some 123, 123, .beq true (.t 121) (.t 122)⟩,
   ⟨none, some 124, 124, .pick (.t 120) (.k (.one (.pv (.bool true)))) (.t 123)⟩,
   ⟨none, some 125, 125, .mv (.t 124)⟩,
   ⟨(some (125, false)), some 126, 126, .load (some 12) (.t 20)⟩,
   ⟨(some (125, false)), some 127, 127, .load (some 12) (.t 22)⟩,
   ⟨(some (125, false)), some 128, 128, .call 17 [0, 0] [(.t 126), (.t 127)]⟩,
   ⟨(some (125, false)), some 129, 129, .not (.t 128)⟩,
   ⟨none, some 130, 130, .pick (.t 125) (.k (.one (.pv (.bool true)))) (.t 129)⟩,
   ⟨none, some 131, 131, .mv (.t 130)⟩,
   ⟨(some (131, false)), some 132, 132, .load (some 12) (.t 24)⟩,
   ⟨(some (131, false)), some 133, 133, .call 18 [0] [(.t 132)]⟩,
   ⟨(some (131, false)), some 134, 134, .load (some 12) (.t 24)⟩,
   ⟨(some (131, false)), some 135, 135, .call 19 [0] [(.t 134)]⟩,
   ⟨(some (131, false)), some 136, 136, .beq true (.t 133) (.t 135)⟩,
   ⟨none, some 137, 137, .pick (.t 131) (.k (.one (.pv (.bool true)))) (.t 136)⟩,
   ⟨none, some 138, 138, .mv (.t 137)⟩,
   ⟨(some (138, false)), some 139, 139, .mv (.t 25)⟩,
   ⟨(some (138, false)), some 140, 140, .call 20 [0] [(.t 139)]⟩,
   ⟨(some (138, false)), some 141, 141, .fld none (.t 140) 0⟩,
   ⟨(some (138, false)), some 142, 142, .mv (.t 25)⟩,
   ⟨(some (138, false)), some 143, 143, .bin .neq (.t 141) (.t 142)⟩,
   ⟨none, some 144, 144, .pick (.t 138) (.k (.one (.pv (.bool true)))) (.t 143)⟩] [[], [], [0, 1], [2], [3], [3], [4, 5, 3], [3, 6], [7, 3], [8], [8], [9, 10, 8, 8], [11, 8], [8, 12], [13, 11], [14], [14], [15, 16, 14], [14, 17], [18, 14], [19], [19], [20, 21, 19], [19, 22], [23, 19], [24], [24], [25, 26, 24], [24, 27], [28, 24], [29], [29], [30, 31, 29, 29], [32, 29], [29, 33], [34, 32], [35], [36, 35, 35], [35], [38, 37, 35], [37, 39, 35], [35, 40], [41, 39], [42], [43, 42, 42], [44, 42], [42], [45, 46, 42], [42, 47]])
 (.cond 144 (.seq (.reg [⟨none, some 2, 2, .mv (.k (.one (.pv (.bool false))))⟩])
 (.ret)) (.skip)))
 (.seq (.seq (.reg [⟨none, some 145, 145, .mv (.t 9)⟩,
   ⟨none, some 146, 146, .not (.t 145)⟩])
 (.cond 146 (.seq (.reg [⟨none, some 147, 147, .load (some 12) (.t 7)⟩,
   ⟨none, some 148, 148, .load (some 12) (.t 3)⟩,
   ⟨none, some 149, 149, .call 17 [0, 0] [(.t 147), (.t 148)]⟩,
   ⟨none, some 2, 2, .mv (.t 149)⟩])
 (.ret)) (.skip)))
 (.norm [3, 7, 8] (x_l_FnClients_5)))
def x_l_FnClients_3 : XCode := .seq (.reg [⟨none, some 92, 92, .mv (.t 0)⟩,
   ⟨none, some 93, 93, .call 15 [0] [(.t 92)]⟩,
   ⟨none, some 24, 24, .alloc [.pv (.int .i64 0), .pv (.int .i64 0), .pv (.bool false), .pv (.int .i64 0), .pv (.int .i64 0), .pv (.int .i64 0), .pv (.int .i64 0), .pv (.string ⟨#[]⟩), .pv (.string ⟨#[]⟩), .pv (.int .i64 0), .pv (.int .i64 0), .nils 5]⟩,
   ⟨none, none, 100013, .store 12 (.t 24) (.t 93)⟩])
 (.seq (.reg [⟨none, some 94, 94, .mv (.t 0)⟩,
   ⟨none, some 95, 95, .call 16 [0] [(.t 94)]⟩,
   ⟨none, some 25, 25, .mv (.t 95)⟩])
 (.norm [3, 7, 8, 9, 10, 11, 12, 14, 15, 16, 17, 20, 21, 22, 23, 24, 25] (x_l_FnClients_4)))
def x_l_FnClients_2 : XCode := .seq (.reg [⟨none, some 76, 76, .mv (.t 0)⟩,
   ⟨none, some 77, 77, .call 12 [0] [(.t 76)]⟩,
   ⟨none, some 75, 75, .mv (.t 77)⟩,
   ⟨none, some 78, 78, .ext (.t 75) 0⟩,
   ⟨none, some 79, 79, .ext (.t 75) 1⟩,
   ⟨none, some 18, 18, .alloc [.pv (.int .i64 0), .pv (.int .i64 0), .pv (.bool false), .pv (.int .i64 0), .pv (.int .i64 0), .pv (.int .i64 0), .pv (.int .i64 0), .pv (.string ⟨#[]⟩), .pv (.string ⟨#[]⟩), .pv (.int .i64 0), .pv (.int .i64 0), .nils 5]⟩,
   ⟨none, some 19, 19, .alloc [.pv (.int .i64 0), .pv (.int .i64 0), .pv (.int .i64 0), .pv (.int .i64 0), .pv (.string ⟨#[]⟩), .pv (.string ⟨#[]⟩), .pv (.int .i64 0), .pv (.int .i64 0)]⟩,
   ⟨none, none, 100009, .store 12 (.t 18) (.t 78)⟩,
   ⟨none, none, 100010, .store 8 (.t 19) (.t 79)⟩])
 (.seq (.reg [⟨none, some 81, 81, .load (some 12) (.t 18)⟩,
   ⟨none, some 82, 82, .load (some 8) (.t 19)⟩,
   ⟨none, some 83, 83, .call 13 [0, 0] [(.t 81), (.t 82)]⟩,
   ⟨none, some 80, 80, .mv (.t 83)⟩,
   ⟨none, some 84, 84, .ext (.t 80) 0⟩,
   ⟨none, some 85, 85, .ext (.t 80) 1⟩,
   ⟨none, some 20, 20, .alloc [.pv (.int .i64 0), .pv (.int .i64 0), .pv (.bool false), .pv (.int .i64 0), .pv (.int .i64 0), .pv (.int .i64 0), .pv (.int .i64 0), .pv (.string ⟨#[]⟩), .pv (.string ⟨#[]⟩), .pv (.int .i64 0), .pv (.int .i64 0), .nils 5]⟩,
   ⟨none, none, 100011, .store 12 (.t 20) (.t 84)⟩,
   ⟨none, some 21, 21, .mv (.t 85)⟩])
 (.seq (.reg [⟨none, some 87, 87, .load (some 12) (.t 18)⟩,
   ⟨none, some 88, 88, .load (some 8) (.t 19)⟩,
   ⟨none, some 89, 89, .call 14 [0, 0] [(.t 87), (.t 88)]⟩,
   ⟨none, some 86, 86, .mv (.t 89)⟩,
   ⟨none, some 90, 90, .ext (.t 86) 0⟩,
   ⟨none, some 91, 91, .ext (.t 86) 1⟩,
   ⟨none, some 22, 22, .alloc [.pv (.int .i64 0), .pv (.int .i64 0), .pv (.bool false), .pv (.int .i64 0), .pv (.int .i64 0), .pv (.int .i64 0), .pv (.int .i64 0), .pv (.string ⟨#[]⟩), .pv (.string ⟨#[]⟩), .pv (.int .i64 0), .pv (.int .i64 0), .nils 5]⟩,
   ⟨none, none, 100012, .store 12 (.t 22) (.t 90)⟩,
   ⟨none, some 23, 23, .mv (.t 91)⟩])
 (.norm [0, 3, 7, 8, 9, 10, 11, 12, 14, 15, 16, 17, 20, 21, 22, 23] (x_l_FnClients_3))))
def x_l_FnClients_1 : XCode := .seq (.reg [⟨none, some 63, 63, .mv (.t 0)⟩,
   ⟨none, some 64, 64, .call 9 [0] [(.t 63)]⟩,
   ⟨none, some 13, 13, .alloc [.pv (.int .i64 0), .pv (.int .i64 0), .pv (.bool false), .pv (.int .i64 0), .pv (.int .i64 0), .pv (.int .i64 0), .pv (.int .i64 0), .pv (.string ⟨#[]⟩), .pv (.string ⟨#[]⟩), .pv (.int .i64 0), .pv (.int .i64 0), .nils 5]⟩,
   ⟨none, none, 100006, .store 12 (.t 13) (.t 64)⟩])
 (.seq (.reg [⟨none, some 66, 66, .load (some 12) (.t 13)⟩,
   ⟨none, some 67, 67, .call 10 [0] [(.t 66)]⟩,
   ⟨none, some 65, 65, .mv (.t 67)⟩,
   ⟨none, some 68, 68, .ext (.t 65) 0⟩,
   ⟨none, some 69, 69, .ext (.t 65) 1⟩,
   ⟨none, some 14, 14, .alloc [.pv (.int .i64 0), .pv (.int .i64 0), .pv (.int .i64 0), .pv (.int .i64 0), .pv (.string ⟨#[]⟩), .pv (.string ⟨#[]⟩), .pv (.int .i64 0), .pv (.int .i64 0)]⟩,
   ⟨none, none, 100007, .store 8 (.t 14) (.t 68)⟩,
   ⟨none, some 15, 15, .mv (.t 69)⟩])
 (.seq (.reg [⟨none, some 71, 71, .load (some 12) (.t 13)⟩,
   ⟨none, some 72, 72, .call 11 [0] [(.t 71)]⟩,
   ⟨none, some 70, 70, .mv (.t 72)⟩,
   ⟨none, some 73, 73, .ext (.t 70) 0⟩,
   ⟨none, some 74, 74, .ext (.t 70) 1⟩,
   ⟨none, some 16, 16, .alloc [.pv (.int .i64 0), .pv (.int .i64 0), .pv (.int .i64 0), .pv (.int .i64 0), .pv (.string ⟨#[]⟩), .pv (.string ⟨#[]⟩), .pv (.int .i64 0), .pv (.int .i64 0)]⟩,
   ⟨none, none, 100008, .store 8 (.t 16) (.t 73)⟩,
   ⟨none, some 17, 17, .mv (.t 74)⟩])
 (.norm [0, 3, 7, 8, 9, 10, 11, 12, 14, 15, 16, 17] (x_l_FnClients_2))))
def x_l_FnClients : FnX := ⟨233, [.tmp 2],
  .seq (.reg [⟨none, some 2, 2, .mv (.k (.one (.pv (.bool false))))⟩])
 (.seq (.seq (.reg [⟨none, some 36, 36, .mv (.t 0)⟩,
   ⟨none, some 37, 37, .call 5 [0] [(.t 36)]⟩])
 (.cond 37 (.seq (.reg [⟨none, some 2, 2, .mv (.k (.one (.pv (.bool true))))⟩])
 (.ret)) (.skip)))
 (.seq (.reg [⟨none, some 39, 39, .mv (.t 0)⟩,
   ⟨none, some 40, 40, .call 6 [0] [(.t 39)]⟩,
   ⟨none, some 38, 38, .mv (.t 40)⟩,
   ⟨none, some 41, 41, .ext (.t 38) 0⟩,
   ⟨none, some 42, 42, .ext (.t 38) 1⟩,
   ⟨none, some 43, 43, .ext (.t 38) 2⟩,
   ⟨none, some 44, 44, .ext (.t 38) 3⟩,
   ⟨none, some 3, 3, .alloc [.pv (.int .i64 0), .pv (.int .i64 0), .pv (.bool false), .pv (.int .i64 0), .pv (.int .i64 0), .pv (.int .i64 0), .pv (.int .i64 0), .pv (.string ⟨#[]⟩), .pv (.string ⟨#[]⟩), .pv (.int .i64 0), .pv (.int .i64 0), .nils 5]⟩,
   ⟨none, none, 100001, .store 12 (.t 3) (.t 41)⟩,
   ⟨none, some 4, 4, .mv (.t 42)⟩,
   ⟨none, some 5, 5, .mv (.t 43)⟩,
   ⟨none, some 6, 6, .mv (.t 44)⟩])
 (.seq (.reg [⟨none, some 46, 46, .load (some 12) (.t 3)⟩,
   ⟨none, some 47, 47, .mv (.t 4)⟩,
   ⟨none, some 48, 48, .mv (.t 5)⟩,
   ⟨none, some 49, 49, .mv (.t 6)⟩,
   ⟨none, some 50, 50, .call 7 [0, 0, 0, 0] [(.t 46), (.t 47), (.t 48), (.t 49)]⟩,
   ⟨none, some 45, 45, .mv (.t 50)⟩,
   ⟨none, some 51, 51, .ext (.t 45) 0⟩,
   ⟨none, some 52, 52, .ext (.t 45) 1⟩,
   ⟨none, some 53, 53, .ext (.t 45) 2⟩,
   ⟨none, some 7, 7, .alloc [.pv (.int .i64 0), .pv (.int .i64 0), .pv (.bool false), .pv (.int .i64 0), .pv (.int .i64 0), .pv (.int .i64 0), .pv (.int .i64 0), .pv (.string ⟨#[]⟩), .pv (.string ⟨#[]⟩), .pv (.int .i64 0), .pv (.int .i64 0), .nils 5]⟩,
   ⟨none, some 8, 8, .alloc [.pv (.int .i64 0), .pv (.int .i64 0), .pv (.int .i64 0), .pv (.int .i64 0), .pv (.string ⟨#[]⟩), .pv (.string ⟨#[]⟩), .pv (.int .i64 0), .pv (.int .i64 0)]⟩,
   ⟨none, none, 100002, .store 12 (.t 7) (.t 51)⟩,
   ⟨none, none, 100003, .store 8 (.t 8) (.t 52)⟩,
   ⟨none, some 9, 9, .mv (.t 53)⟩])
 (.seq (.reg [⟨none, some 55, 55, .load (some 12) (.t 3)⟩,
   ⟨none, some 56, 56, .mv (.t 4)⟩,
   ⟨none, some 57, 57, .mv (.t 5)⟩,
   ⟨none, some 58, 58, .mv (.t 6)⟩,
   ⟨none, some 59, 59, .call 8 [0, 0, 0, 0] [(.t 55), (.t 56), (.t 57), (.t 58)]⟩,
   ⟨none, some 54, 54, .mv (.t 59)⟩,
   ⟨none, some 60, 60, .ext (.t 54) 0⟩,
   ⟨none, some 61, 61, .ext (.t 54) 1⟩,
   ⟨none, some 62, 62, .ext (.t 54) 2⟩,
   ⟨none, some 10, 10, .alloc [.pv (.int .i64 0), .pv (.int .i64 0), .pv (.bool false), .pv (.int .i64 0), .pv (.int .i64 0), .pv (.int .i64 0), .pv (.int .i64 0), .pv (.string ⟨#[]⟩), .pv (.string ⟨#[]⟩), .pv (.int .i64 0), .pv (.int .i64 0), .nils 5]⟩,
   ⟨none, some 11, 11, .alloc [.pv (.int .i64 0), .pv (.int .i64 0), .pv (.int .i64 0), .pv (.int .i64 0), .pv (.string ⟨#[]⟩), .pv (.string ⟨#[]⟩), .pv (.int .i64 0), .pv (.int .i64 0)]⟩,
   ⟨none, none, 100004, .store 12 (.t 10) (.t 60)⟩,
   ⟨none, none, 100005, .store 8 (.t 11) (.t 61)⟩,
   ⟨none, some 12, 12, .mv (.t 62)⟩])
 (.norm [0, 3, 7, 8, 9, 10, 11, 12] (x_l_FnClients_1))))))⟩
abbrev C_l_FnClients (Te : Nat → List AV → Res → Prop) : Prop := ∀ (code : List UInt8) (h : code.length ≤ 2 ^ 48), Te 3 [.one (slT false 1 uR code)] ⟨[.one (bT true)], [[slT false 1 uR code]]⟩
theorem r_l_FnClients {Te : Nat → List AV → Res → Prop} (c_l_big : C_l_big Te) (c_s_DrawAskFor : C_s_DrawAskFor Te) (c_i_AskFor : C_i_AskFor Te) (c_s_AskFor : C_s_AskFor Te) (c_s_DrawAgain : C_s_DrawAgain Te) (c_i_Again : C_i_Again Te) (c_s_Again : C_s_Again Te) (c_s_DrawTold : C_s_DrawTold Te) (c_i_Told : C_i_Told Te) (c_s_Told : C_s_Told Te) (c_s_DrawClientOk : C_s_DrawClientOk Te) (c_s_DrawClientNew : C_s_DrawClientNew Te) (c_l_sameClient : C_l_sameClient Te) (c_i_ClientOk : C_i_ClientOk Te) (c_s_ClientOk : C_s_ClientOk Te) (c_i_ClientNew : C_i_ClientNew Te) : ∀ (code : List UInt8) (h : code.length ≤ 2 ^ 48), RunFn Te x_l_FnClients [.one (slT false 1 uR code)] ⟨[.one (bT true)], [[slT false 1 uR code]]⟩ := by
  intro code h
  refine ⟨by simp -implicitDefEqProofs (maxSteps := 1000000) only [x_l_FnClients, go_sem], ?_⟩
  have eM : ∀ z : Msg, decide (z = z) = true := fun z => decide_eq_true rfl
  have eC : ∀ z : ClientV, decide (z = z) = true := fun z => decide_eq_true rfl
  have xT : (true != false) = true := rfl
  have xF : (false != true) = true := rfl
  have xB : (true != true) = false := rfl
  simp -implicitDefEqProofs (maxSteps := 1000000) only [x_l_FnClients, go_sem, true_implies, false_implies]
  repeat (first | refine ⟨rfl, ?_⟩ | refine ⟨by decide, ?_⟩ | refine ⟨⟨by decide, by decide⟩, ?_⟩ | refine ⟨decide_eq_true (by omega), ?_⟩ | refine ⟨⟨decide_eq_true (by omega), decide_eq_true (by omega)⟩, ?_⟩)
  try (first | done | decide | exact decide_eq_true (by omega) | exact ⟨decide_eq_true (by omega), decide_eq_true (by omega)⟩)
  refine .of (c_l_big _) ?_
  try simp -implicitDefEqProofs (maxSteps := 1000000) only [go_sem, true_implies, false_implies]
  repeat (first | refine ⟨rfl, ?_⟩ | refine ⟨by decide, ?_⟩ | refine ⟨⟨by decide, by decide⟩, ?_⟩ | refine ⟨decide_eq_true (by omega), ?_⟩ | refine ⟨⟨decide_eq_true (by omega), decide_eq_true (by omega)⟩, ?_⟩)
  try (first | done | decide | exact decide_eq_true (by omega) | exact ⟨decide_eq_true (by omega), decide_eq_true (by omega)⟩)
  refine fun q => ?_
  have hc : code.length ≤ 2 ^ 31 := by simp only [decide_eq_false_iff_not] at q; omega
  try simp -implicitDefEqProofs (maxSteps := 1000000) only [go_sem, true_implies, false_implies]
  repeat (first | refine ⟨rfl, ?_⟩ | refine ⟨by decide, ?_⟩ | refine ⟨⟨by decide, by decide⟩, ?_⟩ | refine ⟨decide_eq_true (by omega), ?_⟩ | refine ⟨⟨decide_eq_true (by omega), decide_eq_true (by omega)⟩, ?_⟩)
  try (first | done | decide | exact decide_eq_true (by omega) | exact ⟨decide_eq_true (by omega), decide_eq_true (by omega)⟩)
  obtain ⟨c, kind, key, text, ⟨hcS, hkey, htext⟩, ht⟩ := c_s_DrawAskFor code hc
  refine .of (ht) ?_
  try simp -implicitDefEqProofs (maxSteps := 1000000) only [go_sem, true_implies, false_implies]
  repeat (first | refine ⟨rfl, ?_⟩ | refine ⟨by decide, ?_⟩ | refine ⟨⟨by decide, by decide⟩, ?_⟩ | refine ⟨decide_eq_true (by omega), ?_⟩ | refine ⟨⟨decide_eq_true (by omega), decide_eq_true (by omega)⟩, ?_⟩)
  try (first | done | decide | exact decide_eq_true (by omega) | exact ⟨decide_eq_true (by omega), decide_eq_true (by omega)⟩)
  have hA := c_i_AskFor c kind key text (clS_In hcS) (by omega)
  have hB := c_s_AskFor c kind key text (clS_In hcS) (by omega)
  have hx := askFor_In hcS kind hkey htext
  have hno : (askFor c kind key text).2.2 = false → (askFor c kind key text).1 = c := by
    intro e
    cases g : askMay c kind key text
    · rw [askFor_no g]
    · rw [askFor_yes g] at e; cases e
  generalize hr : askFor c kind key text = r at hA hB hx hno
  obtain ⟨x, m, ok⟩ := r
  obtain ⟨hx, hm⟩ := hx
  simp only at hx hm hno hA hB
  have hxl : x.Len := hx.len (by decide)
  refine .of (hA) ?_
  try simp -implicitDefEqProofs (maxSteps := 1000000) only [go_sem, true_implies, false_implies]
  repeat (first | refine ⟨rfl, ?_⟩ | refine ⟨by decide, ?_⟩ | refine ⟨⟨by decide, by decide⟩, ?_⟩ | refine ⟨decide_eq_true (by omega), ?_⟩ | refine ⟨⟨decide_eq_true (by omega), decide_eq_true (by omega)⟩, ?_⟩)
  try (first | done | decide | exact decide_eq_true (by omega) | exact ⟨decide_eq_true (by omega), decide_eq_true (by omega)⟩)
  refine .of (hB) ?_
  try simp -implicitDefEqProofs (maxSteps := 1000000) only [go_sem, true_implies, false_implies, x_l_FnClients_1]
  repeat (first | refine ⟨rfl, ?_⟩ | refine ⟨by decide, ?_⟩ | refine ⟨⟨by decide, by decide⟩, ?_⟩ | refine ⟨decide_eq_true (by omega), ?_⟩ | refine ⟨⟨decide_eq_true (by omega), decide_eq_true (by omega)⟩, ?_⟩)
  try (first | done | decide | exact decide_eq_true (by omega) | exact ⟨decide_eq_true (by omega), decide_eq_true (by omega)⟩)
  obtain ⟨a, ha, ht⟩ := c_s_DrawAgain code hc
  refine .of (ht) ?_
  try simp -implicitDefEqProofs (maxSteps := 1000000) only [go_sem, true_implies, false_implies]
  repeat (first | refine ⟨rfl, ?_⟩ | refine ⟨by decide, ?_⟩ | refine ⟨⟨by decide, by decide⟩, ?_⟩ | refine ⟨decide_eq_true (by omega), ?_⟩ | refine ⟨⟨decide_eq_true (by omega), decide_eq_true (by omega)⟩, ?_⟩)
  try (first | done | decide | exact decide_eq_true (by omega) | exact ⟨decide_eq_true (by omega), decide_eq_true (by omega)⟩)
  refine .of (c_i_Again a (clS_In ha)) ?_
  try simp -implicitDefEqProofs (maxSteps := 1000000) only [go_sem, true_implies, false_implies]
  repeat (first | refine ⟨rfl, ?_⟩ | refine ⟨by decide, ?_⟩ | refine ⟨⟨by decide, by decide⟩, ?_⟩ | refine ⟨decide_eq_true (by omega), ?_⟩ | refine ⟨⟨decide_eq_true (by omega), decide_eq_true (by omega)⟩, ?_⟩)
  try (first | done | decide | exact decide_eq_true (by omega) | exact ⟨decide_eq_true (by omega), decide_eq_true (by omega)⟩)
  refine .of (c_s_Again a (clS_In ha)) ?_
  try simp -implicitDefEqProofs (maxSteps := 1000000) only [go_sem, true_implies, false_implies, x_l_FnClients_2]
  repeat (first | refine ⟨rfl, ?_⟩ | refine ⟨by decide, ?_⟩ | refine ⟨⟨by decide, by decide⟩, ?_⟩ | refine ⟨decide_eq_true (by omega), ?_⟩ | refine ⟨⟨decide_eq_true (by omega), decide_eq_true (by omega)⟩, ?_⟩)
  try (first | done | decide | exact decide_eq_true (by omega) | exact ⟨decide_eq_true (by omega), decide_eq_true (by omega)⟩)
  obtain ⟨t, r, htS, ht⟩ := c_s_DrawTold code hc
  refine .of (ht) ?_
  try simp -implicitDefEqProofs (maxSteps := 1000000) only [go_sem, true_implies, false_implies]
  repeat (first | refine ⟨rfl, ?_⟩ | refine ⟨by decide, ?_⟩ | refine ⟨⟨by decide, by decide⟩, ?_⟩ | refine ⟨decide_eq_true (by omega), ?_⟩ | refine ⟨⟨decide_eq_true (by omega), decide_eq_true (by omega)⟩, ?_⟩)
  try (first | done | decide | exact decide_eq_true (by omega) | exact ⟨decide_eq_true (by omega), decide_eq_true (by omega)⟩)
  refine .of (c_i_Told t r (clS_In htS)) ?_
  try simp -implicitDefEqProofs (maxSteps := 1000000) only [go_sem, true_implies, false_implies]
  repeat (first | refine ⟨rfl, ?_⟩ | refine ⟨by decide, ?_⟩ | refine ⟨⟨by decide, by decide⟩, ?_⟩ | refine ⟨decide_eq_true (by omega), ?_⟩ | refine ⟨⟨decide_eq_true (by omega), decide_eq_true (by omega)⟩, ?_⟩)
  try (first | done | decide | exact decide_eq_true (by omega) | exact ⟨decide_eq_true (by omega), decide_eq_true (by omega)⟩)
  refine .of (c_s_Told t r (clS_In htS)) ?_
  try simp -implicitDefEqProofs (maxSteps := 1000000) only [go_sem, true_implies, false_implies, x_l_FnClients_3]
  repeat (first | refine ⟨rfl, ?_⟩ | refine ⟨by decide, ?_⟩ | refine ⟨⟨by decide, by decide⟩, ?_⟩ | refine ⟨decide_eq_true (by omega), ?_⟩ | refine ⟨⟨decide_eq_true (by omega), decide_eq_true (by omega)⟩, ?_⟩)
  try (first | done | decide | exact decide_eq_true (by omega) | exact ⟨decide_eq_true (by omega), decide_eq_true (by omega)⟩)
  obtain ⟨d, hd, ht⟩ := c_s_DrawClientOk code hc
  refine .of (ht) ?_
  try simp -implicitDefEqProofs (maxSteps := 1000000) only [go_sem, true_implies, false_implies]
  repeat (first | refine ⟨rfl, ?_⟩ | refine ⟨by decide, ?_⟩ | refine ⟨⟨by decide, by decide⟩, ?_⟩ | refine ⟨decide_eq_true (by omega), ?_⟩ | refine ⟨⟨decide_eq_true (by omega), decide_eq_true (by omega)⟩, ?_⟩)
  try (first | done | decide | exact decide_eq_true (by omega) | exact ⟨decide_eq_true (by omega), decide_eq_true (by omega)⟩)
  obtain ⟨id, _, ht⟩ := c_s_DrawClientNew code hc
  refine .of (ht) ?_
  try simp -implicitDefEqProofs (maxSteps := 1000000) only [go_sem, true_implies, false_implies, x_l_FnClients_4, bne_self_eq_false, beq_self_eq_true, msg_eqs, eM, xT, xF, xB]
  repeat (first | refine ⟨rfl, ?_⟩ | refine ⟨by decide, ?_⟩ | refine ⟨⟨by decide, by decide⟩, ?_⟩ | refine ⟨decide_eq_true (by omega), ?_⟩ | refine ⟨⟨decide_eq_true (by omega), decide_eq_true (by omega)⟩, ?_⟩)
  try (first | done | decide | exact decide_eq_true (by omega) | exact ⟨decide_eq_true (by omega), decide_eq_true (by omega)⟩)
  refine .of (c_l_sameClient x x hxl) ?_
  try simp -implicitDefEqProofs (maxSteps := 1000000) only [go_sem, true_implies, false_implies, eC, bne_self_eq_false, beq_self_eq_true, msg_eqs, eM, xT, xF, xB]
  repeat (first | refine ⟨rfl, ?_⟩ | refine ⟨by decide, ?_⟩ | refine ⟨⟨by decide, by decide⟩, ?_⟩ | refine ⟨decide_eq_true (by omega), ?_⟩ | refine ⟨⟨decide_eq_true (by omega), decide_eq_true (by omega)⟩, ?_⟩)
  try (first | done | decide | exact decide_eq_true (by omega) | exact ⟨decide_eq_true (by omega), decide_eq_true (by omega)⟩)
  refine .of (c_l_sameClient (told t r).1 (told t r).1 (told_len r (show t.Dones.length ≤ 61 from htS.2.1) (by decide))) ?_
  try simp -implicitDefEqProofs (maxSteps := 1000000) only [go_sem, true_implies, false_implies, eC, bne_self_eq_false, beq_self_eq_true, msg_eqs, eM, xT, xF, xB]
  repeat (first | refine ⟨rfl, ?_⟩ | refine ⟨by decide, ?_⟩ | refine ⟨⟨by decide, by decide⟩, ?_⟩ | refine ⟨decide_eq_true (by omega), ?_⟩ | refine ⟨⟨decide_eq_true (by omega), decide_eq_true (by omega)⟩, ?_⟩)
  try (first | done | decide | exact decide_eq_true (by omega) | exact ⟨decide_eq_true (by omega), decide_eq_true (by omega)⟩)
  refine .of (c_i_ClientOk d (clS_In hd)) ?_
  try simp -implicitDefEqProofs (maxSteps := 1000000) only [go_sem, true_implies, false_implies]
  repeat (first | refine ⟨rfl, ?_⟩ | refine ⟨by decide, ?_⟩ | refine ⟨⟨by decide, by decide⟩, ?_⟩ | refine ⟨decide_eq_true (by omega), ?_⟩ | refine ⟨⟨decide_eq_true (by omega), decide_eq_true (by omega)⟩, ?_⟩)
  try (first | done | decide | exact decide_eq_true (by omega) | exact ⟨decide_eq_true (by omega), decide_eq_true (by omega)⟩)
  refine .of (c_s_ClientOk d (clS_In hd)) ?_
  try simp -implicitDefEqProofs (maxSteps := 1000000) only [go_sem, true_implies, false_implies, bne_self_eq_false, beq_self_eq_true, xT, xF, xB]
  repeat (first | refine ⟨rfl, ?_⟩ | refine ⟨by decide, ?_⟩ | refine ⟨⟨by decide, by decide⟩, ?_⟩ | refine ⟨decide_eq_true (by omega), ?_⟩ | refine ⟨⟨decide_eq_true (by omega), decide_eq_true (by omega)⟩, ?_⟩)
  try (first | done | decide | exact decide_eq_true (by omega) | exact ⟨decide_eq_true (by omega), decide_eq_true (by omega)⟩)
  refine .of (c_i_ClientNew id) ?_
  try simp -implicitDefEqProofs (maxSteps := 1000000) only [go_sem, true_implies, false_implies, show ∀ i, (client0 i).Id = i from fun _ => rfl, bne_self_eq_false, xT, xF, xB]
  repeat (first | refine ⟨rfl, ?_⟩ | refine ⟨by decide, ?_⟩ | refine ⟨⟨by decide, by decide⟩, ?_⟩ | refine ⟨decide_eq_true (by omega), ?_⟩ | refine ⟨⟨decide_eq_true (by omega), decide_eq_true (by omega)⟩, ?_⟩)
  try (first | done | decide | exact decide_eq_true (by omega) | exact ⟨decide_eq_true (by omega), decide_eq_true (by omega)⟩)
  cases ok
  · try simp -implicitDefEqProofs (maxSteps := 1000000) only [go_sem, true_implies, false_implies]
    repeat (first | refine ⟨rfl, ?_⟩ | refine ⟨by decide, ?_⟩ | refine ⟨⟨by decide, by decide⟩, ?_⟩ | refine ⟨decide_eq_true (by omega), ?_⟩ | refine ⟨⟨decide_eq_true (by omega), decide_eq_true (by omega)⟩, ?_⟩)
    try (first | done | decide | exact decide_eq_true (by omega) | exact ⟨decide_eq_true (by omega), decide_eq_true (by omega)⟩)
    refine .of (c_l_sameClient x c hxl) ?_
    try simp -implicitDefEqProofs (maxSteps := 1000000) only [go_sem, true_implies, false_implies, decide_eq_true (hno rfl)]
    repeat (first | refine ⟨rfl, ?_⟩ | refine ⟨by decide, ?_⟩ | refine ⟨⟨by decide, by decide⟩, ?_⟩ | refine ⟨decide_eq_true (by omega), ?_⟩ | refine ⟨⟨decide_eq_true (by omega), decide_eq_true (by omega)⟩, ?_⟩)
    try (first | done | decide | exact decide_eq_true (by omega) | exact ⟨decide_eq_true (by omega), decide_eq_true (by omega)⟩)
  · obtain ⟨⟨f1, f2, f3, f4⟩, f5⟩ := clients_law hr
    have fAB : (x.ok && x.Busy) = true := by rw [f1, f2]; rfl
    have e4 : (m.Seq == IntKind.i64.wrap (c.Seq + 1)) = true := by rw [f4]; exact beq_self_eq_true _
    have hcd : c.Dones.length ≤ 61 := hcS.2.1
    have wd : IntKind.i64.wrap ((c.Dones.length : Int) + 1) = (c.Dones.length : Int) + 1 := IntWalk.i64_in _ (by omega)
    try simp -implicitDefEqProofs (maxSteps := 1000000) only [go_sem, true_implies, false_implies, x_l_FnClients_5]
    repeat (first | refine ⟨rfl, ?_⟩ | refine ⟨by decide, ?_⟩ | refine ⟨⟨by decide, by decide⟩, ?_⟩ | refine ⟨decide_eq_true (by omega), ?_⟩ | refine ⟨⟨decide_eq_true (by omega), decide_eq_true (by omega)⟩, ?_⟩)
    try (first | done | decide | exact decide_eq_true (by omega) | exact ⟨decide_eq_true (by omega), decide_eq_true (by omega)⟩)
    refine .of (c_i_Again x (hx.mono (by decide))) ?_
    try simp -implicitDefEqProofs (maxSteps := 1000000) only [go_sem, true_implies, false_implies, fAB, f3]
    repeat (first | refine ⟨rfl, ?_⟩ | refine ⟨by decide, ?_⟩ | refine ⟨⟨by decide, by decide⟩, ?_⟩ | refine ⟨decide_eq_true (by omega), ?_⟩ | refine ⟨⟨decide_eq_true (by omega), decide_eq_true (by omega)⟩, ?_⟩)
    try (first | done | decide | exact decide_eq_true (by omega) | exact ⟨decide_eq_true (by omega), decide_eq_true (by omega)⟩)
    refine ⟨fun gk => ?_, fun gk => ?_⟩
    · skip
      obtain ⟨o1, f, o2, o3, o4, o5, o6⟩ := f5 2 (by rw [if_pos (eq_of_beq gk)])
      obtain ⟨fi, fs, fb, fm, fd⟩ := f
      simp only at o3 o4
      subst o3
      have hT1 := c_i_Told x ⟨2, m.To, m.From, IntKind.i64.wrap (m.Seq - 1), ⟨#[]⟩, ⟨#[]⟩, 0, 0⟩ (hx.mono (by decide))
      have hT2 := c_i_Told x ⟨2, m.To, m.From, m.Seq, ⟨#[]⟩, ⟨#[]⟩, 0, 0⟩ (hx.mono (by decide))
      have hf := told_In hx (by decide) (m := ⟨2, m.To, m.From, m.Seq, ⟨#[]⟩, ⟨#[]⟩, 0, 0⟩) (Nat.zero_le _)
      rw [o2] at hT2 hf
      have hT3 := c_i_Told ⟨fi, fs, false, fm, fd⟩ ⟨2, m.To, m.From, m.Seq, ⟨#[]⟩, ⟨#[]⟩, 0, 0⟩ (hf.mono (by decide))
      have ed : ((fd.length : Int) == (c.Dones.length : Int) + 1) = true := by rw [o4]; simp
      refine .of (hT1) ?_
      try simp -implicitDefEqProofs (maxSteps := 1000000) only [go_sem, true_implies, false_implies, o1]
      repeat (first | refine ⟨rfl, ?_⟩ | refine ⟨by decide, ?_⟩ | refine ⟨⟨by decide, by decide⟩, ?_⟩ | refine ⟨decide_eq_true (by omega), ?_⟩ | refine ⟨⟨decide_eq_true (by omega), decide_eq_true (by omega)⟩, ?_⟩)
      try (first | done | decide | exact decide_eq_true (by omega) | exact ⟨decide_eq_true (by omega), decide_eq_true (by omega)⟩)
      refine .of (hT2) ?_
      try simp -implicitDefEqProofs (maxSteps := 1000000) only [go_sem, true_implies, false_implies]
      repeat (first | refine ⟨rfl, ?_⟩ | refine ⟨by decide, ?_⟩ | refine ⟨⟨by decide, by decide⟩, ?_⟩ | refine ⟨decide_eq_true (by omega), ?_⟩ | refine ⟨⟨decide_eq_true (by omega), decide_eq_true (by omega)⟩, ?_⟩)
      try (first | done | decide | exact decide_eq_true (by omega) | exact ⟨decide_eq_true (by omega), decide_eq_true (by omega)⟩)
      refine .of (hT3) ?_
      try simp -implicitDefEqProofs (maxSteps := 1000000) only [go_sem, true_implies, false_implies, o6, msg_eqs, eM, ed, wd, xT, xF, xB]
      repeat (first | refine ⟨rfl, ?_⟩ | refine ⟨by decide, ?_⟩ | refine ⟨⟨by decide, by decide⟩, ?_⟩ | refine ⟨decide_eq_true (by omega), ?_⟩ | refine ⟨⟨decide_eq_true (by omega), decide_eq_true (by omega)⟩, ?_⟩)
      try (first | done | decide | exact decide_eq_true (by omega) | exact ⟨decide_eq_true (by omega), decide_eq_true (by omega)⟩)
      refine .of (c_i_ClientOk ⟨fi, fs, false, fm, fd⟩ (hf.mono (by decide))) ?_
      try simp -implicitDefEqProofs (maxSteps := 1000000) only [go_sem, true_implies, false_implies, o5, e4]
      repeat (first | refine ⟨rfl, ?_⟩ | refine ⟨by decide, ?_⟩ | refine ⟨⟨by decide, by decide⟩, ?_⟩ | refine ⟨decide_eq_true (by omega), ?_⟩ | refine ⟨⟨decide_eq_true (by omega), decide_eq_true (by omega)⟩, ?_⟩)
      try (first | done | decide | exact decide_eq_true (by omega) | exact ⟨decide_eq_true (by omega), decide_eq_true (by omega)⟩)
    · skip
      obtain ⟨o1, f, o2, o3, o4, o5, o6⟩ := f5 5 (by rw [if_neg (by simpa using gk)])
      obtain ⟨fi, fs, fb, fm, fd⟩ := f
      simp only at o3 o4
      subst o3
      have hT1 := c_i_Told x ⟨5, m.To, m.From, IntKind.i64.wrap (m.Seq - 1), ⟨#[]⟩, ⟨#[]⟩, 0, 0⟩ (hx.mono (by decide))
      have hT2 := c_i_Told x ⟨5, m.To, m.From, m.Seq, ⟨#[]⟩, ⟨#[]⟩, 0, 0⟩ (hx.mono (by decide))
      have hf := told_In hx (by decide) (m := ⟨5, m.To, m.From, m.Seq, ⟨#[]⟩, ⟨#[]⟩, 0, 0⟩) (Nat.zero_le _)
      rw [o2] at hT2 hf
      have hT3 := c_i_Told ⟨fi, fs, false, fm, fd⟩ ⟨5, m.To, m.From, m.Seq, ⟨#[]⟩, ⟨#[]⟩, 0, 0⟩ (hf.mono (by decide))
      have ed : ((fd.length : Int) == (c.Dones.length : Int) + 1) = true := by rw [o4]; simp
      refine .of (hT1) ?_
      try simp -implicitDefEqProofs (maxSteps := 1000000) only [go_sem, true_implies, false_implies, o1]
      repeat (first | refine ⟨rfl, ?_⟩ | refine ⟨by decide, ?_⟩ | refine ⟨⟨by decide, by decide⟩, ?_⟩ | refine ⟨decide_eq_true (by omega), ?_⟩ | refine ⟨⟨decide_eq_true (by omega), decide_eq_true (by omega)⟩, ?_⟩)
      try (first | done | decide | exact decide_eq_true (by omega) | exact ⟨decide_eq_true (by omega), decide_eq_true (by omega)⟩)
      refine .of (hT2) ?_
      try simp -implicitDefEqProofs (maxSteps := 1000000) only [go_sem, true_implies, false_implies]
      repeat (first | refine ⟨rfl, ?_⟩ | refine ⟨by decide, ?_⟩ | refine ⟨⟨by decide, by decide⟩, ?_⟩ | refine ⟨decide_eq_true (by omega), ?_⟩ | refine ⟨⟨decide_eq_true (by omega), decide_eq_true (by omega)⟩, ?_⟩)
      try (first | done | decide | exact decide_eq_true (by omega) | exact ⟨decide_eq_true (by omega), decide_eq_true (by omega)⟩)
      refine .of (hT3) ?_
      try simp -implicitDefEqProofs (maxSteps := 1000000) only [go_sem, true_implies, false_implies, o6, msg_eqs, eM, ed, wd, xT, xF, xB]
      repeat (first | refine ⟨rfl, ?_⟩ | refine ⟨by decide, ?_⟩ | refine ⟨⟨by decide, by decide⟩, ?_⟩ | refine ⟨decide_eq_true (by omega), ?_⟩ | refine ⟨⟨decide_eq_true (by omega), decide_eq_true (by omega)⟩, ?_⟩)
      try (first | done | decide | exact decide_eq_true (by omega) | exact ⟨decide_eq_true (by omega), decide_eq_true (by omega)⟩)
      refine .of (c_i_ClientOk ⟨fi, fs, false, fm, fd⟩ (hf.mono (by decide))) ?_
      try simp -implicitDefEqProofs (maxSteps := 1000000) only [go_sem, true_implies, false_implies, o5, e4]
      repeat (first | refine ⟨rfl, ?_⟩ | refine ⟨by decide, ?_⟩ | refine ⟨⟨by decide, by decide⟩, ?_⟩ | refine ⟨decide_eq_true (by omega), ?_⟩ | refine ⟨⟨decide_eq_true (by omega), decide_eq_true (by omega)⟩, ?_⟩)
      try (first | done | decide | exact decide_eq_true (by omega) | exact ⟨decide_eq_true (by omega), decide_eq_true (by omega)⟩)
end Go.X

