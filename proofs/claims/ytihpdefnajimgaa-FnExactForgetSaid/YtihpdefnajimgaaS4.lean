/- The law of Forget, run. -/
import Derived.Test.YtihpdefnajimgaaS3
namespace Go.X
set_option maxRecDepth 100000
set_option maxHeartbeats 2000000
/-- laws.FnExactForget -/
def x_laws_FnExactForget : FnX := ⟨69, [.tmp 2],
  .seq (.reg [⟨none, some 1, 1, .box (.t 0)⟩,
   ⟨none, some 2, 2, .mv (.k (.one (.pv (.bool false))))⟩])
 (.seq (.reg [⟨none, some 3, 3, .mv (.k (.one (.pv (.int .i64 1048576))))⟩])
 (.seq (.reg [⟨none, some 11, 11, .load (some 4) (.t 1)⟩,
   ⟨none, some 12, 12, .mv (.t 3)⟩,
   ⟨none, some 13, 13, .call 25 [0, 0] [(.t 11), (.t 12)]⟩,
   ⟨none, some 3, 3, .mv (.t 13)⟩])
 (.seq (.seq (.reg [⟨none, some 14, 14, .mv (.t 3)⟩,
   ⟨none, some 15, 15, .bin .lss (.t 14) (.k (.one (.pv (.int .i64 0))))⟩])
 (.cond 15 (.seq (.reg [⟨none, some 2, 2, .mv (.k (.one (.pv (.bool true))))⟩])
 (.ret)) (.skip)))
 (.seq (.reg [⟨none, some 16, 16, .load (some 4) (.t 1)⟩,
   ⟨none, some 17, 17, .call 27 [0] [(.t 16)]⟩,
   ⟨none, some 18, 18, .call 26 [0] [(.t 17)]⟩,
   ⟨none, some 4, 4, .alloc [.pv (.int .i64 0), .nils 1, .nils 1, .nils 1]⟩,
   ⟨none, none, 100001, .store 4 (.t 4) (.t 18)⟩])
 (.seq (.reg [⟨none, some 19, 19, .load (some 4) (.t 1)⟩,
   ⟨none, some 20, 20, .call 27 [0] [(.t 19)]⟩,
   ⟨none, some 5, 5, .alloc [.pv (.int .i64 0), .nils 1, .nils 1, .nils 1]⟩,
   ⟨none, none, 100002, .store 4 (.t 5) (.t 20)⟩])
 (.seq (.reg [⟨none, some 21, 21, .load (some 4) (.t 5)⟩,
   ⟨none, some 22, 22, .call 24 [0] [(.t 21)]⟩,
   ⟨none, some 6, 6, .alloc [.pv (.int .i64 0), .nils 1, .nils 1, .nils 1]⟩,
   ⟨none, none, 100003, .store 4 (.t 6) (.t 22)⟩])
 (.seq (.seq (.reg [⟨none, some 23, 23, .load (some 4) (.t 6)⟩,
   ⟨none, some 24, 24, .load (some 4) (.t 4)⟩,
   ⟨none, some 25, 25, .call 12 [0, 0] [(.t 23), (.t 24)]⟩,
   ⟨none, some 26, 26, .not (.t 25)⟩])
 (.cond 26 (.seq (.reg [⟨none, some 2, 2, .mv (.k (.one (.pv (.bool false))))⟩])
 (.ret)) (.skip)))
 (.seq (.seq (.draw [⟨none, some 27, 27, .load (some 4) (.t 5)⟩,
   ⟨none, some 28, 28, .load (some 4) (.t 1)⟩,
   ⟨none, some 29, 29, .call 27 [0] [(.t 28)]⟩,
   ⟨none, some 30, 30, .call 12 [0, 0] [(.t 27), (.t 29)]⟩,
   ⟨none, some 31, 31, .not (.t 30)⟩] [[], [], [1], [0, 2, 2], [3]])
 (.cond 31 (.seq (.reg [⟨none, some 2, 2, .mv (.k (.one (.pv (.bool false))))⟩])
 (.ret)) (.skip)))
 (.seq (.reg [⟨none, some 7, 7, .mv (.k (.one (.pv (.int .i64 1))))⟩])
 (.seq (.reg [⟨none, some 32, 32, .load (some 4) (.t 5)⟩,
   ⟨none, some 33, 33, .mv (.t 7)⟩,
   ⟨none, some 34, 34, .io 13 (.t 32) [(.t 33)]⟩,
   ⟨none, some 7, 7, .mv (.t 34)⟩])
 (.seq (.seq (.reg [⟨none, some 35, 35, .mv (.t 7)⟩,
   ⟨none, some 36, 36, .bin .lss (.t 35) (.k (.one (.pv (.int .i64 0))))⟩,
   ⟨none, some 37, 37, .mv (.t 36)⟩,
   ⟨(some (37, false)), some 38, 38, .load (some 4) (.t 6)⟩,
   ⟨(some (37, false)), some 39, 39, .load (some 4) (.t 4)⟩,
   ⟨(some (37, false)), some 40, 40, .call 12 [0, 0] [(.t 38), (.t 39)]⟩,
   ⟨(some (37, false)), some 41, 41, .not (.t 40)⟩,
   ⟨none, some 42, 42, .pick (.t 37) (.k (.one (.pv (.bool true)))) (.t 41)⟩])
 (.cond 42 (.seq (.reg [⟨none, some 2, 2, .mv (.k (.one (.pv (.bool false))))⟩])
 (.ret)) (.skip)))
 (.seq (.reg [⟨none, some 8, 8, .mv (.k (.one (.pv (.int .i64 1))))⟩])
 (.seq (.reg [⟨none, some 43, 43, .load (some 4) (.t 6)⟩,
   ⟨none, some 44, 44, .mv (.t 8)⟩,
   ⟨none, some 45, 45, .io 13 (.t 43) [(.t 44)]⟩,
   ⟨none, some 8, 8, .mv (.t 45)⟩])
 (.seq (.reg [⟨none, some 9, 9, .mv (.k (.one (.pv (.int .i64 1))))⟩])
 (.seq (.reg [⟨none, some 46, 46, .load (some 4) (.t 6)⟩,
   ⟨none, some 47, 47, .mv (.t 9)⟩,
   ⟨none, some 48, 48, .call 14 [0, 0] [(.t 46), (.t 47)]⟩,
   ⟨none, some 9, 9, .mv (.t 48)⟩])
 (.seq (.seq (.reg [⟨none, some 49, 49, .mv (.t 9)⟩,
   ⟨none, some 50, 50, .bin .lss (.t 49) (.k (.one (.pv (.int .i64 0))))⟩])
 (.cond 50 (.seq (.reg [⟨none, some 2, 2, .mv (.k (.one (.pv (.bool false))))⟩])
 (.ret)) (.skip)))
 (.seq (.seq (.reg [⟨none, some 51, 51, .mv (.t 9)⟩,
   ⟨none, some 52, 52, .mv (.t 8)⟩,
   ⟨none, some 53, 53, .bin .neq (.t 51) (.t 52)⟩])
 (.cond 53 (.seq (.reg [⟨none, some 2, 2, .mv (.k (.one (.pv (.bool false))))⟩])
 (.ret)) (.skip)))
 (.seq (.reg [⟨none, some 54, 54, .load (some 4) (.t 1)⟩,
   ⟨none, some 55, 55, .call 27 [0] [(.t 54)]⟩,
   ⟨none, some 56, 56, .call 24 [0] [(.t 55)]⟩,
   ⟨none, some 10, 10, .alloc [.pv (.int .i64 0), .nils 1, .nils 1, .nils 1]⟩,
   ⟨none, none, 100004, .store 4 (.t 10) (.t 56)⟩])
 (.seq (.seq (.reg [⟨none, some 57, 57, .load (some 4) (.t 10)⟩,
   ⟨none, some 58, 58, .load (some 4) (.t 4)⟩,
   ⟨none, some 59, 59, .call 12 [0, 0] [(.t 57), (.t 58)]⟩,
   ⟨none, some 60, 60, .not (.t 59)⟩])
 (.cond 60 (.seq (.reg [⟨none, some 2, 2, .mv (.k (.one (.pv (.bool false))))⟩])
 (.ret)) (.skip)))
 (.seq (.reg [⟨none, some 9, 9, .mv (.k (.one (.pv (.int .i64 1))))⟩])
 (.seq (.reg [⟨none, some 61, 61, .load (some 4) (.t 6)⟩,
   ⟨none, some 62, 62, .mv (.t 9)⟩,
   ⟨none, some 63, 63, .call 14 [0, 0] [(.t 61), (.t 62)]⟩,
   ⟨none, some 9, 9, .mv (.t 63)⟩])
 (.seq (.seq (.reg [⟨none, some 64, 64, .mv (.t 9)⟩,
   ⟨none, some 65, 65, .bin .lss (.t 64) (.k (.one (.pv (.int .i64 0))))⟩])
 (.cond 65 (.seq (.reg [⟨none, some 2, 2, .mv (.k (.one (.pv (.bool false))))⟩])
 (.ret)) (.skip)))
 (.seq (.seq (.reg [⟨none, some 66, 66, .mv (.t 9)⟩,
   ⟨none, some 67, 67, .mv (.t 8)⟩,
   ⟨none, some 68, 68, .bin .neq (.t 66) (.t 67)⟩])
 (.cond 68 (.seq (.reg [⟨none, some 2, 2, .mv (.k (.one (.pv (.bool false))))⟩])
 (.ret)) (.skip)))
 (.seq (.reg [⟨none, some 2, 2, .mv (.k (.one (.pv (.bool true))))⟩])
 (.ret)))))))))))))))))))))))))⟩
section
variable {Te : Nat → List AV → Res → Prop}
theorem szLead_small {l : Lead} {k : Int} (hk : 0 ≤ k ∧ k ≤ 2 ^ 20) (h : ¬ szLead l k < 0) : l.a.length ≤ 2 ^ 20 ∧ l.e.length ≤ 2 ^ 20 ∧ l.t.length ≤ 2 ^ 20 := by
  unfold szLead at h
  split at h
  · omega
  · rename_i q1
    have e1 := left_nn q1
    split at h
    · omega
    · rename_i q2
      have e2 := left_nn q2
      split at h
      · omega
      · have h3 := (szSl_ok (f := szStr) (fun s j hj => by unfold szStr; split <;> omega) l.t (left (left (k - l.a.length) - l.e.length)) (by omega)).2.2 (by omega)
        omega
theorem Lead.mark_a (m : Lead) (k : Int) : (m.mark k).a.length = m.a.length := by simp [Lead.mark, marks_length]
theorem Lead.mark_e (m : Lead) (k : Int) : (m.mark k).e.length = m.e.length := by simp [Lead.mark, marks_length]
theorem Lead.mark_t (m : Lead) (k : Int) : (m.mark k).t.length = m.t.length := by simp [Lead.mark, marks_length]
theorem Lead.take_a {β : Type} (f : Bool → β) (m : Lead) (k : Int) : ((m.mark k).a.map f).take m.a.length = (m.mark k).a.map f := by rw [← m.mark_a k, take_map]
theorem Lead.take_e {β : Type} (f : Bool → β) (m : Lead) (k : Int) : ((m.mark k).e.map f).take m.e.length = (m.mark k).e.map f := by rw [← m.mark_e k, take_map]
theorem Lead.take_t {β : Type} (f : ByteArray → β) (m : Lead) (k : Int) : ((m.mark k).t.map f).take m.t.length = (m.mark k).t.map f := by rw [← m.mark_t k, take_map]
theorem FnExactForget_run
    (sz : ∀ (l : Lead) (k : Int), (0 ≤ k ∧ k ≤ 2 ^ 48) → l.a.length ≤ 2 ^ 48 → l.e.length ≤ 2 ^ 48 → l.t.length ≤ 2 ^ 48 → (∀ s ∈ l.t, s.size ≤ 2 ^ 48) → Te 25 [.agg (l.enc false), .one (iT k)] ⟨[.one (iT (szLead l k))], [l.enc false, [iT k]]⟩)
    (to : ∀ l : Lead, l.Small → Te 27 [.agg (l.enc false)] ⟨[.agg (l.enc true)], [l.enc false]⟩)
    (eq : ∀ l m : Lead, l.Small → Te 12 [.agg (l.enc false), .agg (m.enc false)] ⟨[.one (bT (decide (l = m)))], [l.enc false, m.enc false]⟩)
    (mark : ∀ (l : Lead) (k : Int), l.Small → (0 ≤ k ∧ k ≤ 2 ^ 40) → Te 13 [.agg (l.enc true), .one (iT k)] ⟨[.one (iT (l.far k))], [(l.mark k).enc true, [iT k]]⟩)
    (held : ∀ (l : Lead) (k : Int), l.Small → (0 ≤ k ∧ k ≤ 2 ^ 40) → Te 14 [.agg ((l.mark k).enc false), .one (iT k)] ⟨[.one (iT (l.far k))], [(l.mark k).enc false, [iT k]]⟩)
    (f1 : ∀ l : Lead, Te 26 [.agg (l.enc false)] ⟨[.agg ((leadIn l.p).enc true)], [l.enc false]⟩)
    (f2 : ∀ l : Lead, Te 24 [.agg (l.enc false)] ⟨[.agg ((leadIn l.p).enc true)], [l.enc false]⟩)
    (l : Lead) (h1 : l.a.length ≤ 2 ^ 48) (h2 : l.e.length ≤ 2 ^ 48) (h3 : l.t.length ≤ 2 ^ 48) (h4 : ∀ s ∈ l.t, s.size ≤ 2 ^ 48) : RunFn Te x_laws_FnExactForget [.agg (l.enc false)] ⟨[.one (bT true)], [l.enc false]⟩ := by
  have small : ∀ p, (leadIn p).Small := fun p => by simp [leadIn, Lead.Small]
  refine ⟨by simp only [x_laws_FnExactForget, go_sem], ?_⟩
  simp only [x_laws_FnExactForget, go_sem]
  refine .of (sz l _ (by omega) h1 h2 h3 h4) ?_
  simp only [go_sem]
  refine fun q => ?_
  have hs := szLead_small (k := 1048576) (by omega) (by simpa using q)
  have hl : l.Small := ⟨by omega, by omega, by omega⟩
  clear q
  refine .of (to l hl) ?_
  simp only [go_sem]
  refine .of (f1 l) ?_
  simp only [go_sem]
  refine .of (to l hl) ?_
  simp only [go_sem]
  refine .of (f2 l) ?_
  simp only [go_sem]
  refine .of (eq (leadIn l.p) (leadIn l.p) (small _)) ?_
  simp only [go_sem, eq_self]
  refine .of (to l hl) ?_
  simp only [go_sem]
  refine .of (eq l l hl) ?_
  simp only [go_sem, eq_self]
  refine ⟨rfl, ⟨by decide, by decide⟩, ?_⟩
  have far : ∀ m : Lead, m.Small → 1 ≤ m.far 1 := fun m _ => by simp only [Lead.far]; omega
  refine .of (mark l 1 hl (by omega)) ?_
  simp only [go_sem]
  have q1 : decide (l.far 1 < 0) = false := decide_eq_false (by have := far l hl; omega)
  simp only [q1, go_sem]
  refine .of (eq (leadIn l.p) (leadIn l.p) (small _)) ?_
  simp only [go_sem, eq_self]
  refine ⟨⟨by decide, by decide⟩, ?_⟩
  refine .of (mark (leadIn l.p) 1 (small _) (by omega)) ?_
  simp only [go_sem, Lead.mark_a, Lead.mark_e, Lead.mark_t, Lead.take_a, Lead.take_e, Lead.take_t]
  refine .of (held (leadIn l.p) 1 (small _) (by omega)) ?_
  simp only [go_sem]
  have q2 : decide ((leadIn l.p).far 1 < 0) = false := decide_eq_false (by have := far _ (small l.p); omega)
  simp only [q2, go_sem, bne_self_eq_false]
  refine .of (to l hl) ?_
  simp only [go_sem]
  refine .of (f2 l) ?_
  simp only [go_sem]
  refine .of (eq (leadIn l.p) (leadIn l.p) (small _)) ?_
  simp only [go_sem, eq_self, Lead.mark_a, Lead.mark_e, Lead.mark_t, Lead.take_a, Lead.take_e, Lead.take_t]
  refine .of (held (leadIn l.p) 1 (small _) (by omega)) ?_
  simp only [go_sem]
  simp only [q2, go_sem, bne_self_eq_false]
end
end Go.X
