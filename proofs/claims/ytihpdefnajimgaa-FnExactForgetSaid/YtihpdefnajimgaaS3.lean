/- Who leads: measured, copied, compared, marked, held. -/
import Derived.Test.YtihpdefnajimgaaS2
namespace Go.X
set_option maxRecDepth 100000
set_option maxHeartbeats 8000000
/-- laws.szLead -/
def x_laws_szLead : FnX := ⟨24, [.tmp 4],
  .seq (.reg [⟨none, some 2, 2, .box (.t 0)⟩,
   ⟨none, some 4, 4, .mv (.k (.one (.pv (.int .i64 0))))⟩])
 (.seq (.reg [⟨none, some 5, 5, .faddr (.t 2) 1⟩,
   ⟨none, some 6, 6, .load none (.t 5)⟩,
   ⟨none, some 7, 7, .mv (.t 1)⟩,
   ⟨none, some 8, 8, .call 54 [0, 0] [(.t 6), (.t 7)]⟩,
   ⟨none, some 1, 1, .mv (.t 8)⟩])
 (.seq (.seq (.reg [⟨none, some 9, 9, .mv (.t 1)⟩,
   ⟨none, some 10, 10, .bin .lss (.t 9) (.k (.one (.pv (.int .i64 0))))⟩])
 (.cond 10 (.seq (.reg [⟨none, some 4, 4, .mv (.k (.one (.pv (.int .i64 (-1)))))⟩])
 (.ret)) (.skip)))
 (.seq (.reg [⟨none, some 11, 11, .faddr (.t 2) 2⟩,
   ⟨none, some 12, 12, .load none (.t 11)⟩,
   ⟨none, some 13, 13, .mv (.t 1)⟩,
   ⟨none, some 14, 14, .call 54 [0, 0] [(.t 12), (.t 13)]⟩,
   ⟨none, some 1, 1, .mv (.t 14)⟩])
 (.seq (.seq (.reg [⟨none, some 15, 15, .mv (.t 1)⟩,
   ⟨none, some 16, 16, .bin .lss (.t 15) (.k (.one (.pv (.int .i64 0))))⟩])
 (.cond 16 (.seq (.reg [⟨none, some 4, 4, .mv (.k (.one (.pv (.int .i64 (-1)))))⟩])
 (.ret)) (.skip)))
 (.seq (.reg [⟨none, some 17, 17, .faddr (.t 2) 3⟩,
   ⟨none, some 18, 18, .load none (.t 17)⟩,
   ⟨none, some 19, 19, .mv (.t 1)⟩,
   ⟨none, some 20, 20, .call 55 [0, 0] [(.t 18), (.t 19)]⟩,
   ⟨none, some 1, 1, .mv (.t 20)⟩])
 (.seq (.seq (.reg [⟨none, some 21, 21, .mv (.t 1)⟩,
   ⟨none, some 22, 22, .bin .lss (.t 21) (.k (.one (.pv (.int .i64 0))))⟩])
 (.cond 22 (.seq (.reg [⟨none, some 4, 4, .mv (.k (.one (.pv (.int .i64 (-1)))))⟩])
 (.ret)) (.skip)))
 (.seq (.reg [⟨none, some 23, 23, .mv (.t 1)⟩,
   ⟨none, some 4, 4, .mv (.t 23)⟩])
 (.ret))))))))⟩
/-- laws.toLead -/
def x_laws_toLead : FnX := ⟨20, [.cell 2 (some 4)],
  .seq (.reg [⟨none, some 1, 1, .box (.t 0)⟩,
   ⟨none, some 2, 2, .alloc [.pv (.int .i64 0), .nils 1, .nils 1, .nils 1]⟩])
 (.seq (.reg [⟨none, some 3, 3, .alloc [.pv (.int .i64 0), .nils 1, .nils 1, .nils 1]⟩])
 (.seq (.reg [⟨none, some 4, 4, .faddr (.t 1) 0⟩,
   ⟨none, some 5, 5, .load none (.t 4)⟩,
   ⟨none, some 6, 6, .faddr (.t 3) 0⟩,
   ⟨none, none, 100001, .store 1 (.t 6) (.t 5)⟩])
 (.seq (.reg [⟨none, some 7, 7, .faddr (.t 1) 1⟩,
   ⟨none, some 8, 8, .load none (.t 7)⟩,
   ⟨none, some 9, 9, .call 56 [0] [(.t 8)]⟩,
   ⟨none, some 10, 10, .faddr (.t 3) 1⟩,
   ⟨none, none, 100002, .store 1 (.t 10) (.t 9)⟩])
 (.seq (.reg [⟨none, some 11, 11, .faddr (.t 1) 2⟩,
   ⟨none, some 12, 12, .load none (.t 11)⟩,
   ⟨none, some 13, 13, .call 56 [0] [(.t 12)]⟩,
   ⟨none, some 14, 14, .faddr (.t 3) 2⟩,
   ⟨none, none, 100003, .store 1 (.t 14) (.t 13)⟩])
 (.seq (.reg [⟨none, some 15, 15, .faddr (.t 1) 3⟩,
   ⟨none, some 16, 16, .load none (.t 15)⟩,
   ⟨none, some 17, 17, .call 57 [0] [(.t 16)]⟩,
   ⟨none, some 18, 18, .faddr (.t 3) 3⟩,
   ⟨none, none, 100004, .store 1 (.t 18) (.t 17)⟩])
 (.seq (.reg [⟨none, some 19, 19, .load (some 4) (.t 3)⟩,
   ⟨none, none, 100005, .store 4 (.t 2) (.t 19)⟩])
 (.ret)))))))⟩
/-- laws.eqLead -/
def x_laws_eqLead : FnX := ⟨28, [.tmp 4],
  .seq (.reg [⟨none, some 2, 2, .box (.t 0)⟩,
   ⟨none, some 3, 3, .box (.t 1)⟩,
   ⟨none, some 4, 4, .mv (.k (.one (.pv (.bool false))))⟩])
 (.seq (.seq (.reg [⟨none, some 5, 5, .faddr (.t 2) 0⟩,
   ⟨none, some 6, 6, .load none (.t 5)⟩,
   ⟨none, some 7, 7, .faddr (.t 3) 0⟩,
   ⟨none, some 8, 8, .load none (.t 7)⟩,
   ⟨none, some 9, 9, .bin .neq (.t 6) (.t 8)⟩])
 (.cond 9 (.seq (.reg [⟨none, some 4, 4, .mv (.k (.one (.pv (.bool false))))⟩])
 (.ret)) (.skip)))
 (.seq (.seq (.reg [⟨none, some 10, 10, .faddr (.t 2) 1⟩,
   ⟨none, some 11, 11, .load none (.t 10)⟩,
   ⟨none, some 12, 12, .faddr (.t 3) 1⟩,
   ⟨none, some 13, 13, .load none (.t 12)⟩,
   ⟨none, some 14, 14, .call 41 [0, 0] [(.t 11), (.t 13)]⟩,
   ⟨none, some 15, 15, .not (.t 14)⟩])
 (.cond 15 (.seq (.reg [⟨none, some 4, 4, .mv (.k (.one (.pv (.bool false))))⟩])
 (.ret)) (.skip)))
 (.seq (.seq (.reg [⟨none, some 16, 16, .faddr (.t 2) 2⟩,
   ⟨none, some 17, 17, .load none (.t 16)⟩,
   ⟨none, some 18, 18, .faddr (.t 3) 2⟩,
   ⟨none, some 19, 19, .load none (.t 18)⟩,
   ⟨none, some 20, 20, .call 41 [0, 0] [(.t 17), (.t 19)]⟩,
   ⟨none, some 21, 21, .not (.t 20)⟩])
 (.cond 21 (.seq (.reg [⟨none, some 4, 4, .mv (.k (.one (.pv (.bool false))))⟩])
 (.ret)) (.skip)))
 (.seq (.seq (.reg [⟨none, some 22, 22, .faddr (.t 2) 3⟩,
   ⟨none, some 23, 23, .load none (.t 22)⟩,
   ⟨none, some 24, 24, .faddr (.t 3) 3⟩,
   ⟨none, some 25, 25, .load none (.t 24)⟩,
   ⟨none, some 26, 26, .call 42 [0, 0] [(.t 23), (.t 25)]⟩,
   ⟨none, some 27, 27, .not (.t 26)⟩])
 (.cond 27 (.seq (.reg [⟨none, some 4, 4, .mv (.k (.one (.pv (.bool false))))⟩])
 (.ret)) (.skip)))
 (.seq (.reg [⟨none, some 4, 4, .mv (.k (.one (.pv (.bool true))))⟩])
 (.ret))))))⟩
/-- laws.markLead -/
def x_laws_markLead : FnX := ⟨18, [.tmp 4],
  .seq (.reg [⟨none, some 2, 2, .box (.t 0)⟩,
   ⟨none, some 4, 4, .mv (.k (.one (.pv (.int .i64 0))))⟩])
 (.seq (.reg [⟨none, some 5, 5, .faddr (.t 2) 1⟩,
   ⟨none, some 6, 6, .load none (.t 5)⟩,
   ⟨none, some 7, 7, .mv (.t 1)⟩,
   ⟨none, some 8, 8, .io 43 (.t 6) [(.t 7)]⟩,
   ⟨none, some 1, 1, .mv (.t 8)⟩])
 (.seq (.reg [⟨none, some 9, 9, .faddr (.t 2) 2⟩,
   ⟨none, some 10, 10, .load none (.t 9)⟩,
   ⟨none, some 11, 11, .mv (.t 1)⟩,
   ⟨none, some 12, 12, .io 43 (.t 10) [(.t 11)]⟩,
   ⟨none, some 1, 1, .mv (.t 12)⟩])
 (.seq (.reg [⟨none, some 13, 13, .faddr (.t 2) 3⟩,
   ⟨none, some 14, 14, .load none (.t 13)⟩,
   ⟨none, some 15, 15, .mv (.t 1)⟩,
   ⟨none, some 16, 16, .io 44 (.t 14) [(.t 15)]⟩,
   ⟨none, some 1, 1, .mv (.t 16)⟩])
 (.seq (.reg [⟨none, some 17, 17, .mv (.t 1)⟩,
   ⟨none, some 4, 4, .mv (.t 17)⟩])
 (.ret)))))⟩
/-- laws.heldLead -/
def x_laws_heldLead : FnX := ⟨24, [.tmp 4],
  .seq (.reg [⟨none, some 2, 2, .box (.t 0)⟩,
   ⟨none, some 4, 4, .mv (.k (.one (.pv (.int .i64 0))))⟩])
 (.seq (.reg [⟨none, some 5, 5, .faddr (.t 2) 1⟩,
   ⟨none, some 6, 6, .load none (.t 5)⟩,
   ⟨none, some 7, 7, .mv (.t 1)⟩,
   ⟨none, some 8, 8, .call 45 [0, 0] [(.t 6), (.t 7)]⟩,
   ⟨none, some 1, 1, .mv (.t 8)⟩])
 (.seq (.seq (.reg [⟨none, some 9, 9, .mv (.t 1)⟩,
   ⟨none, some 10, 10, .bin .lss (.t 9) (.k (.one (.pv (.int .i64 0))))⟩])
 (.cond 10 (.seq (.reg [⟨none, some 4, 4, .mv (.k (.one (.pv (.int .i64 (-1)))))⟩])
 (.ret)) (.skip)))
 (.seq (.reg [⟨none, some 11, 11, .faddr (.t 2) 2⟩,
   ⟨none, some 12, 12, .load none (.t 11)⟩,
   ⟨none, some 13, 13, .mv (.t 1)⟩,
   ⟨none, some 14, 14, .call 45 [0, 0] [(.t 12), (.t 13)]⟩,
   ⟨none, some 1, 1, .mv (.t 14)⟩])
 (.seq (.seq (.reg [⟨none, some 15, 15, .mv (.t 1)⟩,
   ⟨none, some 16, 16, .bin .lss (.t 15) (.k (.one (.pv (.int .i64 0))))⟩])
 (.cond 16 (.seq (.reg [⟨none, some 4, 4, .mv (.k (.one (.pv (.int .i64 (-1)))))⟩])
 (.ret)) (.skip)))
 (.seq (.reg [⟨none, some 17, 17, .faddr (.t 2) 3⟩,
   ⟨none, some 18, 18, .load none (.t 17)⟩,
   ⟨none, some 19, 19, .mv (.t 1)⟩,
   ⟨none, some 20, 20, .call 46 [0, 0] [(.t 18), (.t 19)]⟩,
   ⟨none, some 1, 1, .mv (.t 20)⟩])
 (.seq (.seq (.reg [⟨none, some 21, 21, .mv (.t 1)⟩,
   ⟨none, some 22, 22, .bin .lss (.t 21) (.k (.one (.pv (.int .i64 0))))⟩])
 (.cond 22 (.seq (.reg [⟨none, some 4, 4, .mv (.k (.one (.pv (.int .i64 (-1)))))⟩])
 (.ret)) (.skip)))
 (.seq (.reg [⟨none, some 23, 23, .mv (.t 1)⟩,
   ⟨none, some 4, 4, .mv (.t 23)⟩])
 (.ret))))))))⟩
/-- impl.leadIn -/
def x_impl_leadIn : FnX := ⟨8, [.cell 2 (some 4)],
  .seq (.reg [⟨none, some 2, 2, .alloc [.pv (.int .i64 0), .nils 1, .nils 1, .nils 1]⟩])
 (.seq (.draw [⟨none, some 3, 3, .mv (.t 0)⟩,
   ⟨none, some 4, 4, .mks 1 1 [.pv (.bool false)] (.k (.one (.pv (.int .i64 2))))⟩,
   ⟨none, some 5, 5, .mks 1 1 [.pv (.bool false)] (.k (.one (.pv (.int .i64 2))))⟩,
   ⟨none, some 6, 6, .mks 1 16 [.pv (.string ⟨#[]⟩)] (.k (.one (.pv (.int .i64 2))))⟩,
   ⟨none, some 7, 7, .build [.pv (.int .i64 0), .nils 1, .nils 1, .nils 1] [(0, 1, (.t 3)), (1, 1, (.t 4)), (2, 1, (.t 5)), (3, 1, (.t 6))]⟩,
   ⟨none, none, 100001, .store 4 (.t 2) (.t 7)⟩] [[], [], [], [], [0, 1, 2, 3], [4, 0, 1, 2, 3, 4]])
 (.ret))⟩
/-- impl.Forget -/
def x_impl_Forget : FnX := ⟨6, [.cell 2 (some 4)],
  .seq (.reg [⟨none, some 1, 1, .box (.t 0)⟩,
   ⟨none, some 2, 2, .alloc [.pv (.int .i64 0), .nils 1, .nils 1, .nils 1]⟩])
 (.seq (.reg [⟨none, some 3, 3, .faddr (.t 1) 0⟩,
   ⟨none, some 4, 4, .load none (.t 3)⟩,
   ⟨none, some 5, 5, .call 40 [0] [(.t 4)]⟩,
   ⟨none, none, 100001, .store 4 (.t 2) (.t 5)⟩])
 (.ret))⟩
/-- spec.l19At -/
def x_spec_l19At : FnX := ⟨8, [.cell 2 (some 4)],
  .seq (.reg [⟨none, some 2, 2, .alloc [.pv (.int .i64 0), .nils 1, .nils 1, .nils 1]⟩])
 (.seq (.draw [⟨none, some 3, 3, .mv (.t 0)⟩,
   ⟨none, some 4, 4, .mks 1 1 [.pv (.bool false)] (.k (.one (.pv (.int .i64 2))))⟩,
   ⟨none, some 5, 5, .mks 1 1 [.pv (.bool false)] (.k (.one (.pv (.int .i64 2))))⟩,
   ⟨none, some 6, 6, .mks 1 16 [.pv (.string ⟨#[]⟩)] (.k (.one (.pv (.int .i64 2))))⟩,
   ⟨none, some 7, 7, .build [.pv (.int .i64 0), .nils 1, .nils 1, .nils 1] [(0, 1, (.t 3)), (1, 1, (.t 4)), (2, 1, (.t 5)), (3, 1, (.t 6))]⟩,
   ⟨none, none, 100001, .store 4 (.t 2) (.t 7)⟩] [[], [], [], [], [0, 1, 2, 3], [4, 0, 1, 2, 3, 4]])
 (.ret))⟩
/-- spec.Forget -/
def x_spec_Forget : FnX := ⟨6, [.cell 2 (some 4)],
  .seq (.reg [⟨none, some 1, 1, .box (.t 0)⟩,
   ⟨none, some 2, 2, .alloc [.pv (.int .i64 0), .nils 1, .nils 1, .nils 1]⟩])
 (.seq (.reg [⟨none, some 3, 3, .faddr (.t 1) 0⟩,
   ⟨none, some 4, 4, .load none (.t 3)⟩,
   ⟨none, some 5, 5, .call 39 [0] [(.t 4)]⟩,
   ⟨none, none, 100001, .store 4 (.t 2) (.t 5)⟩])
 (.ret))⟩
section
variable {Te : Nat → List AV → Res → Prop}
structure Lead where
  p : Int
  a : List Bool
  e : List Bool
  t : List ByteArray
  deriving DecidableEq
abbrev Lead.enc (o : Bool) (l : Lead) : List T := [iT l.p, slT o 1 bR l.a, slT o 1 bR l.e, slT o 1 sR l.t]
def Lead.Small (l : Lead) : Prop := l.a.length ≤ 2 ^ 31 ∧ l.e.length ≤ 2 ^ 31 ∧ l.t.length ≤ 2 ^ 31
def leadIn (p : Int) : Lead := ⟨p, [false, false], [false, false], [⟨#[]⟩, ⟨#[]⟩]⟩
theorem leadIn_run (p : Int) : RunFn Te x_impl_leadIn [.one (iT p)] ⟨[.agg ((leadIn p).enc true)], [[iT p]]⟩ := by
  refine ⟨by simp only [x_impl_leadIn, go_sem], ?_⟩
  simp only [x_impl_leadIn, go_sem]
  exact ⟨rfl, rfl⟩
theorem l19At_run (p : Int) : RunFn Te x_spec_l19At [.one (iT p)] ⟨[.agg ((leadIn p).enc true)], [[iT p]]⟩ := by
  refine ⟨by simp only [x_spec_l19At, go_sem], ?_⟩
  simp only [x_spec_l19At, go_sem]
  exact ⟨rfl, rfl⟩
theorem implForget_run (c : ∀ p : Int, Te 40 [.one (iT p)] ⟨[.agg ((leadIn p).enc true)], [[iT p]]⟩) (l : Lead) : RunFn Te x_impl_Forget [.agg (l.enc false)] ⟨[.agg ((leadIn l.p).enc true)], [l.enc false]⟩ := by
  refine ⟨by simp only [x_impl_Forget, go_sem], ?_⟩
  simp only [x_impl_Forget, go_sem]
  refine .of (c _) ?_
  simp only [go_sem]
theorem specForget_run (c : ∀ p : Int, Te 39 [.one (iT p)] ⟨[.agg ((leadIn p).enc true)], [[iT p]]⟩) (l : Lead) : RunFn Te x_spec_Forget [.agg (l.enc false)] ⟨[.agg ((leadIn l.p).enc true)], [l.enc false]⟩ := by
  refine ⟨by simp only [x_spec_Forget, go_sem], ?_⟩
  simp only [x_spec_Forget, go_sem]
  refine .of (c _) ?_
  simp only [go_sem]
theorem left_nn {a : Int} (h : ¬ left a < 0) : left a = a := by
  unfold left at h ⊢
  split at h
  · omega
  · rw [if_neg (by assumption)]
def szLead (l : Lead) (k : Int) : Int :=
  if left (k - l.a.length) < 0 then -1 else if left (left (k - l.a.length) - l.e.length) < 0 then -1 else
    if szSl szStr l.t (left (left (k - l.a.length) - l.e.length)) < 0 then -1 else szSl szStr l.t (left (left (k - l.a.length) - l.e.length))
theorem szLead_run (c1 : ∀ (l : List Bool) (k : Int), l.length ≤ 2 ^ 48 → (0 ≤ k ∧ k ≤ 2 ^ 48) → Te 54 [.one (slT false 1 bR l), .one (iT k)] ⟨[.one (iT (left (k - l.length)))], [[slT false 1 bR l], [iT k]]⟩)
    (c2 : ∀ (l : List ByteArray) (k : Int), (0 ≤ k ∧ k ≤ 2 ^ 48) → l.length ≤ 2 ^ 48 → (∀ s ∈ l, s.size ≤ 2 ^ 48) → Te 55 [.one (slT false 1 sR l), .one (iT k)] ⟨[.one (iT (szSl szStr l k))], [[slT false 1 sR l], [iT k]]⟩)
    (l : Lead) (k : Int) (hk : 0 ≤ k ∧ k ≤ 2 ^ 48) (h1 : l.a.length ≤ 2 ^ 48) (h2 : l.e.length ≤ 2 ^ 48) (h3 : l.t.length ≤ 2 ^ 48) (h4 : ∀ s ∈ l.t, s.size ≤ 2 ^ 48) : RunFn Te x_laws_szLead [.agg (l.enc false), .one (iT k)] ⟨[.one (iT (szLead l k))], [l.enc false, [iT k]]⟩ := by
  refine ⟨by simp only [x_laws_szLead, go_sem], ?_⟩
  simp only [x_laws_szLead, go_sem]
  refine .of (c1 _ _ h1 hk) ?_
  simp only [go_sem]
  refine ⟨fun q1 => ?_, fun q1 => ?_⟩
  · simp only [decide_eq_true_eq] at q1
    simp only [szLead, if_pos q1]
  · simp only [decide_eq_false_iff_not] at q1
    have e1 := left_nn q1
    refine .of (c1 _ _ h2 (by rw [e1] at q1 ⊢; omega)) ?_
    simp only [go_sem]
    refine ⟨fun q2 => ?_, fun q2 => ?_⟩
    · simp only [decide_eq_true_eq] at q2
      simp only [szLead, if_neg q1, if_pos q2]
    · simp only [decide_eq_false_iff_not] at q2
      have e2 := left_nn q2
      refine .of (c2 _ _ (by rw [e2] at q2 ⊢; rw [e1] at q1 q2 ⊢; omega) h3 h4) ?_
      simp only [go_sem]
      refine ⟨fun q3 => ?_, fun q3 => ?_⟩
      · simp only [decide_eq_true_eq] at q3
        simp only [szLead, if_neg q1, if_neg q2, if_pos q3]
      · simp only [decide_eq_false_iff_not] at q3
        simp only [szLead, if_neg q1, if_neg q2, if_neg q3]
theorem toLead_run (c1 : ∀ l : List Bool, l.length ≤ 2 ^ 31 → Te 56 [.one (slT false 1 bR l)] ⟨[.one (slT true 1 bR l)], [[slT false 1 bR l]]⟩)
    (c2 : ∀ l : List ByteArray, l.length ≤ 2 ^ 31 → Te 57 [.one (slT false 1 sR l)] ⟨[.one (slT true 1 sR l)], [[slT false 1 sR l]]⟩) (l : Lead) (hl : l.Small) : RunFn Te x_laws_toLead [.agg (l.enc false)] ⟨[.agg (l.enc true)], [l.enc false]⟩ := by
  obtain ⟨h1, h2, h3⟩ := hl
  refine ⟨by simp only [x_laws_toLead, go_sem], ?_⟩
  simp only [x_laws_toLead, go_sem]
  refine .of (c1 _ h1) ?_
  simp only [go_sem]
  refine .of (c1 _ h2) ?_
  simp only [go_sem]
  refine .of (c2 _ h3) ?_
  simp only [go_sem]
theorem eqLead_run (c1 : ∀ l m : List Bool, l.length ≤ 2 ^ 31 → Te 41 [.one (slT false 1 bR l), .one (slT false 1 bR m)] ⟨[.one (bT (decide (l = m)))], [[slT false 1 bR l], [slT false 1 bR m]]⟩)
    (c2 : ∀ l m : List ByteArray, l.length ≤ 2 ^ 31 → Te 42 [.one (slT false 1 sR l), .one (slT false 1 sR m)] ⟨[.one (bT (decide (l = m)))], [[slT false 1 sR l], [slT false 1 sR m]]⟩) (l m : Lead) (hl : l.Small) : RunFn Te x_laws_eqLead [.agg (l.enc false), .agg (m.enc false)] ⟨[.one (bT (decide (l = m)))], [l.enc false, m.enc false]⟩ := by
  obtain ⟨h1, h2, h3⟩ := hl
  have key : (l = m) ↔ l.p = m.p ∧ l.a = m.a ∧ l.e = m.e ∧ l.t = m.t := by cases l; cases m; simp
  simp only [key]
  refine ⟨by simp only [x_laws_eqLead, go_sem], ?_⟩
  simp only [x_laws_eqLead, go_sem]
  refine ⟨fun q => by simp_all, fun q => ?_⟩
  refine .of (c1 _ _ h1) ?_
  simp only [go_sem]
  refine ⟨fun q => by simp_all, fun q2 => ?_⟩
  refine .of (c1 _ _ h2) ?_
  simp only [go_sem]
  refine ⟨fun q => by simp_all, fun q3 => ?_⟩
  refine .of (c2 _ _ h3) ?_
  simp only [go_sem]
  refine ⟨fun q => by simp_all, fun q4 => by simp_all⟩
def Lead.mark (l : Lead) (k : Int) : Lead := ⟨l.p, marks mkB l.a.length k, marks mkB l.e.length (k + l.a.length), marks mkS l.t.length (k + l.a.length + l.e.length)⟩
def Lead.far (l : Lead) (k : Int) : Int := k + l.a.length + l.e.length + l.t.length
theorem markLead_run (c1 : ∀ (l : List Bool) (k : Int), l.length ≤ 2 ^ 31 → (0 ≤ k ∧ k ≤ 2 ^ 48) → Te 43 [.one (slT true 1 bR l), .one (iT k)] ⟨[.one (iT (k + l.length))], [[slT true 1 bR (marks mkB l.length k)], [iT k]]⟩)
    (c2 : ∀ (l : List ByteArray) (k : Int), l.length ≤ 2 ^ 31 → (0 ≤ k ∧ k ≤ 2 ^ 47) → Te 44 [.one (slT true 1 sR l), .one (iT k)] ⟨[.one (iT (k + l.length))], [[slT true 1 sR (marks mkS l.length k)], [iT k]]⟩)
    (l : Lead) (hl : l.Small) (k : Int) (hk : 0 ≤ k ∧ k ≤ 2 ^ 40) : RunFn Te x_laws_markLead [.agg (l.enc true), .one (iT k)] ⟨[.one (iT (l.far k))], [(l.mark k).enc true, [iT k]]⟩ := by
  obtain ⟨h1, h2, h3⟩ := hl
  refine ⟨by simp only [x_laws_markLead, go_sem], ?_⟩
  simp only [x_laws_markLead, go_sem]
  refine .of (c1 _ _ h1 (by omega)) ?_
  simp only [go_sem]
  refine .of (c1 _ _ h2 (by omega)) ?_
  simp only [go_sem]
  refine .of (c2 _ _ h3 (by omega)) ?_
  simp only [go_sem]
  rfl
theorem heldLead_run (c1 : ∀ (n : Nat) (k : Int), n ≤ 2 ^ 31 → (0 ≤ k ∧ k ≤ 2 ^ 48) → Te 45 [.one (slT false 1 bR (marks mkB n k)), .one (iT k)] ⟨[.one (iT (k + n))], [[slT false 1 bR (marks mkB n k)], [iT k]]⟩)
    (c2 : ∀ (n : Nat) (k : Int), n ≤ 2 ^ 31 → (0 ≤ k ∧ k ≤ 2 ^ 47) → Te 46 [.one (slT false 1 sR (marks mkS n k)), .one (iT k)] ⟨[.one (iT (k + n))], [[slT false 1 sR (marks mkS n k)], [iT k]]⟩)
    (l : Lead) (hl : l.Small) (k : Int) (hk : 0 ≤ k ∧ k ≤ 2 ^ 40) : RunFn Te x_laws_heldLead [.agg ((l.mark k).enc false), .one (iT k)] ⟨[.one (iT (l.far k))], [(l.mark k).enc false, [iT k]]⟩ := by
  obtain ⟨h1, h2, h3⟩ := hl
  refine ⟨by simp only [x_laws_heldLead, go_sem], ?_⟩
  simp only [x_laws_heldLead, go_sem]
  refine .of (c1 _ _ h1 (by omega)) ?_
  simp only [go_sem]
  refine ⟨fun q => by simp only [decide_eq_true_eq] at q; omega, fun _ => ?_⟩
  refine .of (c1 _ _ h2 (by omega)) ?_
  simp only [go_sem]
  refine ⟨fun q => by simp only [decide_eq_true_eq] at q; omega, fun _ => ?_⟩
  refine .of (c2 _ _ h3 (by omega)) ?_
  simp only [go_sem]
  refine ⟨fun q => by simp only [decide_eq_true_eq] at q; omega, fun _ => ?_⟩
  rfl
end
end Go.X
