/- Marks in strings. -/
import Derived.Test.YtihpdefnajimgaaS1
namespace Go.X
set_option maxRecDepth 100000
set_option maxHeartbeats 8000000
/-- laws.markText -/
def x_laws_markText : FnX := ⟨20, [.tmp 2],
  .seq (.reg [⟨none, some 2, 2, .mv (.k (.one (.pv (.string ⟨#[]⟩))))⟩])
 (.seq (.seq (.reg [⟨none, some 4, 4, .mv (.t 0)⟩,
   ⟨none, some 5, 5, .bin .leq (.t 4) (.k (.one (.pv (.int .i64 0))))⟩])
 (.cond 5 (.seq (.reg [⟨none, some 2, 2, .mv (.k (.one (.pv (.string ⟨#[109, 48]⟩))))⟩])
 (.ret)) (.skip)))
 (.seq (.reg [⟨none, some 3, 3, .mv (.k (.one (.pv (.string ⟨#[]⟩))))⟩])
 (.seq (.block 0 (.loop [0, 3] (.seq (.seq (.reg [⟨none, some 6, 6, .mv (.t 0)⟩,
   ⟨none, some 7, 7, .bin .gtr (.t 6) (.k (.one (.pv (.int .i64 0))))⟩])
 (.cond 7 (.skip) (.exit 0)))
 (.block 1 (.seq (.reg [⟨none, some 8, 8, .mv (.t 0)⟩,
   ⟨none, some 9, 9, .bin .rem (.t 8) (.k (.one (.pv (.int .i64 10))))⟩,
   ⟨none, some 10, 10, .bin .add (.k (.one (.pv (.int .i64 48)))) (.t 9)⟩,
   ⟨none, some 11, 11, .conv (.int .u8) (.t 10)⟩,
   ⟨none, some 12, 12, .bslice 1 [(.t 11)]⟩,
   ⟨none, some 13, 13, .conv .b2s (.t 12)⟩,
   ⟨none, some 14, 14, .mv (.t 3)⟩,
   ⟨none, some 15, 15, .bin .add (.t 13) (.t 14)⟩,
   ⟨none, some 3, 3, .mv (.t 15)⟩])
 (.reg [⟨none, some 16, 16, .mv (.t 0)⟩,
   ⟨none, some 17, 17, .bin .quo (.t 16) (.k (.one (.pv (.int .i64 10))))⟩,
   ⟨none, some 0, 0, .mv (.t 17)⟩]))))))
 (.norm [3] (.seq (.reg [⟨none, some 18, 18, .mv (.t 3)⟩,
   ⟨none, some 19, 19, .bin .add (.k (.one (.pv (.string ⟨#[109]⟩)))) (.t 18)⟩,
   ⟨none, some 2, 2, .mv (.t 19)⟩])
 (.ret))))))⟩
/-- laws.markStringS -/
def x_laws_markStringS : FnX := ⟨20, [.tmp 4],
  .seq (.reg [⟨none, some 4, 4, .mv (.k (.one (.pv (.int .i64 0))))⟩])
 (.seq (.seq (.reg [⟨none, some 5, 5, .mv (.k (.one (.pv (.int .i64 0))))⟩])
 (.block 0 (.loop [0, 1, 5] (.seq (.seq (.reg [⟨none, some 6, 6, .mv (.t 5)⟩,
   ⟨none, some 7, 7, .mv (.t 0)⟩,
   ⟨none, some 8, 8, .len (.t 7)⟩,
   ⟨none, some 9, 9, .bin .lss (.t 6) (.t 8)⟩])
 (.cond 9 (.skip) (.exit 0)))
 (.seq (.block 1 (.seq (.reg [⟨none, some 12, 12, .mv (.t 0)⟩,
   ⟨none, some 13, 13, .mv (.t 5)⟩,
   ⟨none, some 14, 14, .mv (.t 1)⟩,
   ⟨none, some 15, 15, .call 63 [0] [(.t 14)]⟩,
   ⟨none, some 16, 16, .iaddr 1 (.t 12) (.t 13)⟩,
   ⟨none, none, 100001, .store 1 (.t 16) (.t 15)⟩])
 (.reg [⟨none, some 17, 17, .mv (.t 1)⟩,
   ⟨none, some 18, 18, .bin .add (.t 17) (.k (.one (.pv (.int .i64 1))))⟩,
   ⟨none, some 1, 1, .mv (.t 18)⟩])))
 (.reg [⟨none, some 10, 10, .mv (.t 5)⟩,
   ⟨none, some 11, 11, .bin .add (.t 10) (.k (.one (.pv (.int .i64 1))))⟩,
   ⟨none, some 5, 5, .mv (.t 11)⟩]))))))
 (.norm [1] (.seq (.reg [⟨none, some 19, 19, .mv (.t 1)⟩,
   ⟨none, some 4, 4, .mv (.t 19)⟩])
 (.ret))))⟩
/-- laws.heldStringS -/
def x_laws_heldStringS : FnX := ⟨22, [.tmp 4],
  .seq (.reg [⟨none, some 4, 4, .mv (.k (.one (.pv (.int .i64 0))))⟩])
 (.seq (.seq (.reg [⟨none, some 5, 5, .mv (.k (.one (.pv (.int .i64 0))))⟩])
 (.block 0 (.loop [0, 1, 5] (.seq (.seq (.reg [⟨none, some 6, 6, .mv (.t 5)⟩,
   ⟨none, some 7, 7, .mv (.t 0)⟩,
   ⟨none, some 8, 8, .len (.t 7)⟩,
   ⟨none, some 9, 9, .bin .lss (.t 6) (.t 8)⟩])
 (.cond 9 (.skip) (.exit 0)))
 (.seq (.block 1 (.seq (.seq (.draw [⟨none, some 12, 12, .mv (.t 0)⟩,
   ⟨none, some 13, 13, .mv (.t 5)⟩,
   ⟨none, some 14, 14, .iaddr 1 (.t 12) (.t 13)⟩,
   ⟨none, some 15, 15, .load none (.t 14)⟩,
   ⟨none, some 16, 16, .mv (.t 1)⟩,
   ⟨none, some 17, 17, .call 63 [0] [(.t 16)]⟩,
   ⟨none, some 18, 18, .bin .neq (.t 15) (.t 17)⟩] [[], [], [0, 1], [2], [], [4], [3, 5]])
 (.cond 18 (.seq (.reg [⟨none, some 4, 4, .mv (.k (.one (.pv (.int .i64 (-1)))))⟩])
 (.ret)) (.skip)))
 (.reg [⟨none, some 19, 19, .mv (.t 1)⟩,
   ⟨none, some 20, 20, .bin .add (.t 19) (.k (.one (.pv (.int .i64 1))))⟩,
   ⟨none, some 1, 1, .mv (.t 20)⟩])))
 (.reg [⟨none, some 10, 10, .mv (.t 5)⟩,
   ⟨none, some 11, 11, .bin .add (.t 10) (.k (.one (.pv (.int .i64 1))))⟩,
   ⟨none, some 5, 5, .mv (.t 11)⟩]))))))
 (.norm [1] (.seq (.reg [⟨none, some 21, 21, .mv (.t 1)⟩,
   ⟨none, some 4, 4, .mv (.t 21)⟩])
 (.ret))))⟩
section
variable {Te : Nat → List AV → Res → Prop}
def digs (n : Nat) (out : ByteArray) : ByteArray := if h : n = 0 then out else digs (n / 10) (⟨#[UInt8.ofNat (48 + n % 10)]⟩ ++ out)
termination_by n
decreasing_by omega
def mkS (k : Int) : ByteArray := if k ≤ 0 then ⟨#[109, 48]⟩ else ⟨#[109]⟩ ++ digs k.toNat ⟨#[]⟩
theorem markText_run (k : Int) (hk : 0 ≤ k ∧ k ≤ 2 ^ 48) : RunFn Te x_laws_markText [.one (iT k)] ⟨[.one (sT (mkS k))], [[iT k]]⟩ := by
  refine ⟨by simp only [x_laws_markText, go_sem], ?_⟩
  simp only [x_laws_markText, go_sem]
  refine ⟨fun h => ?_, fun h => ?_⟩
  · simp only [decide_eq_true_eq] at h
    simp only [mkS, if_pos h]
  · simp only [decide_eq_false_iff_not] at h
    refine loop_of (σ := Nat × ByteArray) (fun x => ⟨[(0, .one (.pv (.int .i64 x.1))), (3, .one (.pv (.string x.2)))], [], [(0, [iT k])]⟩) (fun x => x.2.size ≤ 15 ∧ x.1 * 10 ^ x.2.size ≤ 2 ^ 48 ∧ digs k.toNat ⟨#[]⟩ = digs x.1 x.2) (fun x => x.1) (k.toNat, ⟨#[]⟩) ?_ ?_ ?_
    · simp only [go_sem]
      rw [Int.toNat_of_nonneg hk.1]
    · exact ⟨by simp [ByteArray.size], by simp [ByteArray.size]; omega, rfl⟩
    · rintro ⟨j, s⟩ ⟨h1, h2, h3⟩
      simp only at h1 h2 h3
      simp only [go_sem]
      have hj : j ≤ 2 ^ 48 := Nat.le_trans (Nat.le_mul_of_pos_right j (Nat.pow_pos (by decide))) h2
      refine ⟨fun h0 => ?_, fun h0 => ?_⟩
      · have h0' : 0 < j := by simp only [decide_eq_true_eq] at h0; omega
        have hs : s.size ≤ 14 := by
          by_cases h15 : s.size ≤ 14
          · exact h15
          · have e1 := Nat.pow_le_pow_right (n := 10) (by decide) (show 15 ≤ s.size by omega)
            have e2 := Nat.le_mul_of_pos_left (10 ^ s.size) h0'
            omega
        have em : (j : Int).tmod 10 = ((j % 10 : Nat) : Int) := by rw [Int.tmod_eq_emod_of_nonneg (by omega)]; rfl
        have ed : (j : Int).tdiv 10 = ((j / 10 : Nat) : Int) := by rw [Int.tdiv_eq_ediv_of_nonneg (by omega)]; rfl
        have hlt : j % 10 < 10 := Nat.mod_lt _ (by decide)
        rw [em, ed, IntWalk.i64_in _ (by omega), IntWalk.i64_in _ (by omega), IntWalk.u8_in _ (by omega)]
        refine ⟨rfl, ?_⟩
        have e5 : bytesOf [[(Tr.pv (Value.int IntKind.u8 (48 + ((j % 10 : Nat) : Int))) : T)]] = [UInt8.ofNat (48 + j % 10)] := by
          simp only [bytesOf, List.map_cons, List.map_nil, List.headD_cons, byteOf]
          rw [show (48 + ((j % 10 : Nat) : Int)).toNat = 48 + j % 10 by omega]
        rw [e5, show decide ([UInt8.ofNat (48 + j % 10)].toArray.size + s.size ≤ 4294967296) = true by simp; omega]
        simp only [cond_true, onSome]
        have esz : ((⟨[UInt8.ofNat (48 + j % 10)].toArray⟩ : ByteArray) ++ s).size = s.size + 1 := by rw [ByteArray.size_append]; show 1 + s.size = s.size + 1; omega
        refine ⟨(j / 10, ⟨[UInt8.ofNat (48 + j % 10)].toArray⟩ ++ s), rfl, ⟨by simp only [esz]; omega, ?_, ?_⟩, Nat.div_lt_self h0' (by decide)⟩
        · simp only [esz]
          have e6 : j / 10 * 10 ^ (s.size + 1) = (j / 10 * 10) * 10 ^ s.size := by rw [Nat.pow_succ, Nat.mul_assoc, Nat.mul_comm 10]
          rw [e6]
          exact Nat.le_trans (Nat.mul_le_mul_right _ (by omega)) h2
        · rw [h3, digs, dif_neg (by omega)]
      · have h0' : j = 0 := by simp only [decide_eq_false_iff_not] at h0; omega
        subst h0'
        rw [show decide (#[(109 : UInt8)].size + s.size ≤ 4294967296) = true by simp; omega]
        simp only [cond_true, onSome]
        have e0 : digs 0 s = s := by rw [digs, dif_pos rfl]
        rw [e0] at h3
        simp only [mkS, if_neg h, h3]
theorem markStringS_run (cT : ∀ k : Int, 0 ≤ k ∧ k ≤ 2 ^ 48 → Te 63 [.one (iT k)] ⟨[.one (sT (mkS k))], [[iT k]]⟩) (l : List ByteArray) (k : Int) (hl : l.length ≤ 2 ^ 31) (hk : 0 ≤ k ∧ k ≤ 2 ^ 47) :
    RunFn Te x_laws_markStringS [.one (slT true 1 sR l), .one (iT k)] ⟨[.one (iT (k + l.length))], [[slT true 1 sR (marks mkS l.length k)], [iT k]]⟩ := by
  refine ⟨by simp only [x_laws_markStringS, go_sem], ?_⟩
  simp (disch := omega) only [x_laws_markStringS, go_sem, IntWalk.i64_in]
  refine loop_of (σ := Nat) (fun i => ⟨[(0, .one (.rf 0 0 [] 1 0 l.length)), (1, .one (.pv (.int .i64 (k + i)))), (5, .one (.pv (.int .i64 i)))], [], [(0, [.sl true 1 () ((marks mkS i k).map sR ++ (l.drop i).map sR)]), (1, [iT k])]⟩) (fun i => i ≤ l.length) (fun i => l.length - i) 0 ?_ (Nat.zero_le _) ?_
  · simp only [go_sem]; simp [marks]
  · intro i hi
    simp only [go_sem]
    refine ⟨fun h => ?_, fun h => ?_⟩
    · have hi' : i < l.length := by simp only [decide_eq_true_eq] at h; omega
      refine .of (cT _ (by omega)) ?_
      simp (disch := omega) only [go_sem, storeAp, setCells, mark_len sR mkS l k hi, List.getD_eq_getElem?_getD, mark_get sR mkS l k hi', IntWalk.i64_in]
      refine ⟨by simpa using hi', by simpa using hi', i + 1, ?_, hi', by omega⟩
      rw [← mark_set sR mkS l k hi', show k + ((i + 1 : Nat) : Int) = k + i + 1 by omega]
      rfl
    · have : i = l.length := by simp only [decide_eq_false_iff_not] at h; omega
      subst this
      simp only [go_sem, mark_end]
theorem heldStringS_run (cT : ∀ k : Int, 0 ≤ k ∧ k ≤ 2 ^ 48 → Te 63 [.one (iT k)] ⟨[.one (sT (mkS k))], [[iT k]]⟩) (n : Nat) (k : Int) (hl : n ≤ 2 ^ 31) (hk : 0 ≤ k ∧ k ≤ 2 ^ 47) :
    RunFn Te x_laws_heldStringS [.one (slT false 1 sR (marks mkS n k)), .one (iT k)] ⟨[.one (iT (k + n))], [[slT false 1 sR (marks mkS n k)], [iT k]]⟩ := by
  refine ⟨by simp only [x_laws_heldStringS, go_sem], ?_⟩
  simp (disch := omega) only [x_laws_heldStringS, go_sem, IntWalk.i64_in]
  refine loop_of (σ := Nat) (fun i => ⟨[(0, .one (.ro 1 ((marks mkS n k).map sR))), (1, .one (.pv (.int .i64 (k + i)))), (5, .one (.pv (.int .i64 i)))], [], [(0, [slT false 1 sR (marks mkS n k)]), (1, [iT k])]⟩) (fun i => i ≤ n) (fun i => n - i) 0 ?_ (Nat.zero_le _) ?_
  · simp only [go_sem]; simp
  · intro i hi
    simp only [go_sem, marks_length]
    refine ⟨fun h => ?_, fun h => ?_⟩
    · have hi' : i < n := by simp only [decide_eq_true_eq] at h; omega
      simp (disch := omega) only [go_sem, marks_get mkS k hi', IntWalk.i64_in]
      refine .of (cT _ (by omega)) ?_
      simp (disch := omega) only [go_sem, IntWalk.i64_in]
      refine ⟨by decide, i + 1, ?_, hi', by omega⟩
      rw [show k + ((i + 1 : Nat) : Int) = k + i + 1 by omega]
      rfl
    · have : i = n := by simp only [decide_eq_false_iff_not] at h; omega
      subst this
      simp only [go_sem]
end
end Go.X
