/- The law of Forget: what it tells. -/
import Derived.Test.YtihpdefnajimgaaS4
import Derived.Test.YtihpdefnajimgaaProg
namespace Go.X
open Go.Proofs
theorem hm : Try.prog.follows .mixedOrders = true := by kernel_rfl
theorem t_szBoolS (l : List Bool) (k : Int) (hl : l.length ≤ 2 ^ 48) (hk : 0 ≤ k ∧ k ≤ 2 ^ 48) : Tells Try.prog 54 [.one (slT false 1 bR l), .one (iT k)] ⟨[.one (iT (left (k - l.length)))], [[slT false 1 bR l], [iT k]]⟩ :=
  tells hm (by kernel_rfl) (szBoolS_run l k hl hk)
theorem t_szStringS (l : List ByteArray) (k : Int) (hk : 0 ≤ k ∧ k ≤ 2 ^ 48) (hl : l.length ≤ 2 ^ 48) (hs : ∀ s ∈ l, s.size ≤ 2 ^ 48) : Tells Try.prog 55 [.one (slT false 1 sR l), .one (iT k)] ⟨[.one (iT (szSl szStr l k))], [[slT false 1 sR l], [iT k]]⟩ :=
  tells hm (by kernel_rfl) (szStringS_run l k hk hl hs)
theorem t_toBoolS (l : List Bool) (hl : l.length ≤ 2 ^ 31) : Tells Try.prog 56 [.one (slT false 1 bR l)] ⟨[.one (slT true 1 bR l)], [[slT false 1 bR l]]⟩ := tells hm (x := x_to 1 (.bool false)) (by kernel_rfl) (to_run (fun a => .bool a) 1 (.bool false) l hl (by omega))
theorem t_toStringS (l : List ByteArray) (hl : l.length ≤ 2 ^ 31) : Tells Try.prog 57 [.one (slT false 1 sR l)] ⟨[.one (slT true 1 sR l)], [[slT false 1 sR l]]⟩ := tells hm (x := x_to 16 (.string ⟨#[]⟩)) (by kernel_rfl) (to_run (fun a => .string a) 16 (.string ⟨#[]⟩) l hl (by omega))
theorem t_eqBoolS (l m : List Bool) (hl : l.length ≤ 2 ^ 31) : Tells Try.prog 41 [.one (slT false 1 bR l), .one (slT false 1 bR m)] ⟨[.one (bT (decide (l = m)))], [[slT false 1 bR l], [slT false 1 bR m]]⟩ :=
  tells hm (by kernel_rfl) (eqBoolS_run l m hl)
theorem t_eqStringS (l m : List ByteArray) (hl : l.length ≤ 2 ^ 31) : Tells Try.prog 42 [.one (slT false 1 sR l), .one (slT false 1 sR m)] ⟨[.one (bT (decide (l = m)))], [[slT false 1 sR l], [slT false 1 sR m]]⟩ := tells hm (x := x_eqBin ()) (by kernel_rfl) (eqBin_run (fun a => .string a) (fun a b => bS_neq a b) l m hl)
theorem t_markBoolS (l : List Bool) (k : Int) (hl : l.length ≤ 2 ^ 31) (hk : 0 ≤ k ∧ k ≤ 2 ^ 48) : Tells Try.prog 43 [.one (slT true 1 bR l), .one (iT k)] ⟨[.one (iT (k + l.length))], [[slT true 1 bR (marks mkB l.length k)], [iT k]]⟩ :=
  tells hm (by kernel_rfl) (markBoolS_run l k hl hk)
theorem t_heldBoolS (n : Nat) (k : Int) (hl : n ≤ 2 ^ 31) (hk : 0 ≤ k ∧ k ≤ 2 ^ 48) : Tells Try.prog 45 [.one (slT false 1 bR (marks mkB n k)), .one (iT k)] ⟨[.one (iT (k + n))], [[slT false 1 bR (marks mkB n k)], [iT k]]⟩ :=
  tells hm (by kernel_rfl) (heldBoolS_run n k hl hk)
theorem t_markText (k : Int) (hk : 0 ≤ k ∧ k ≤ 2 ^ 48) : Tells Try.prog 63 [.one (iT k)] ⟨[.one (sT (mkS k))], [[iT k]]⟩ :=
  tells hm (by kernel_rfl) (markText_run k hk)
theorem t_markStringS (l : List ByteArray) (k : Int) (hl : l.length ≤ 2 ^ 31) (hk : 0 ≤ k ∧ k ≤ 2 ^ 47) : Tells Try.prog 44 [.one (slT true 1 sR l), .one (iT k)] ⟨[.one (iT (k + l.length))], [[slT true 1 sR (marks mkS l.length k)], [iT k]]⟩ :=
  tells hm (by kernel_rfl) (markStringS_run t_markText l k hl hk)
theorem t_heldStringS (n : Nat) (k : Int) (hl : n ≤ 2 ^ 31) (hk : 0 ≤ k ∧ k ≤ 2 ^ 47) : Tells Try.prog 46 [.one (slT false 1 sR (marks mkS n k)), .one (iT k)] ⟨[.one (iT (k + n))], [[slT false 1 sR (marks mkS n k)], [iT k]]⟩ :=
  tells hm (by kernel_rfl) (heldStringS_run t_markText n k hl hk)
theorem t_szLead (l : Lead) (k : Int) (hk : 0 ≤ k ∧ k ≤ 2 ^ 48) (h1 : l.a.length ≤ 2 ^ 48) (h2 : l.e.length ≤ 2 ^ 48) (h3 : l.t.length ≤ 2 ^ 48) (h4 : ∀ s ∈ l.t, s.size ≤ 2 ^ 48) : Tells Try.prog 25 [.agg (l.enc false), .one (iT k)] ⟨[.one (iT (szLead l k))], [l.enc false, [iT k]]⟩ :=
  tells hm (by kernel_rfl) (szLead_run t_szBoolS t_szStringS l k hk h1 h2 h3 h4)
theorem t_toLead (l : Lead) (hl : l.Small) : Tells Try.prog 27 [.agg (l.enc false)] ⟨[.agg (l.enc true)], [l.enc false]⟩ :=
  tells hm (by kernel_rfl) (toLead_run t_toBoolS t_toStringS l hl)
theorem t_eqLead (l m : Lead) (hl : l.Small) : Tells Try.prog 12 [.agg (l.enc false), .agg (m.enc false)] ⟨[.one (bT (decide (l = m)))], [l.enc false, m.enc false]⟩ :=
  tells hm (by kernel_rfl) (eqLead_run t_eqBoolS t_eqStringS l m hl)
theorem t_markLead (l : Lead) (hl : l.Small) (k : Int) (hk : 0 ≤ k ∧ k ≤ 2 ^ 40) : Tells Try.prog 13 [.agg (l.enc true), .one (iT k)] ⟨[.one (iT (l.far k))], [(l.mark k).enc true, [iT k]]⟩ :=
  tells hm (by kernel_rfl) (markLead_run t_markBoolS t_markStringS l hl k hk)
theorem t_heldLead (l : Lead) (hl : l.Small) (k : Int) (hk : 0 ≤ k ∧ k ≤ 2 ^ 40) : Tells Try.prog 14 [.agg ((l.mark k).enc false), .one (iT k)] ⟨[.one (iT (l.far k))], [(l.mark k).enc false, [iT k]]⟩ :=
  tells hm (by kernel_rfl) (heldLead_run t_heldBoolS t_heldStringS l hl k hk)
theorem t_leadIn (p : Int) : Tells Try.prog 40 [.one (iT p)] ⟨[.agg ((leadIn p).enc true)], [[iT p]]⟩ :=
  tells hm (by kernel_rfl) (leadIn_run p)
theorem t_l19At (p : Int) : Tells Try.prog 39 [.one (iT p)] ⟨[.agg ((leadIn p).enc true)], [[iT p]]⟩ :=
  tells hm (by kernel_rfl) (l19At_run p)
theorem t_implForget (l : Lead) : Tells Try.prog 24 [.agg (l.enc false)] ⟨[.agg ((leadIn l.p).enc true)], [l.enc false]⟩ :=
  tells hm (by kernel_rfl) (implForget_run t_leadIn l)
theorem t_specForget (l : Lead) : Tells Try.prog 26 [.agg (l.enc false)] ⟨[.agg ((leadIn l.p).enc true)], [l.enc false]⟩ :=
  tells hm (by kernel_rfl) (specForget_run t_l19At l)
theorem t_FnExactForget (l : Lead) (h1 : l.a.length ≤ 2 ^ 48) (h2 : l.e.length ≤ 2 ^ 48) (h3 : l.t.length ≤ 2 ^ 48) (h4 : ∀ s ∈ l.t, s.size ≤ 2 ^ 48) : Tells Try.prog 5 [.agg (l.enc false)] ⟨[.one (bT true)], [l.enc false]⟩ :=
  tells hm (by kernel_rfl) (FnExactForget_run t_szLead t_toLead t_eqLead (fun l k h1 h2 => t_markLead l h1 k h2) (fun l k h1 h2 => t_heldLead l h1 k h2) t_specForget t_implForget l h1 h2 h3 h4)
end Go.X
