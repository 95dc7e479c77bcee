/- The law FnExactLeadOk answers true at every Lead: both bodies ask the phase, the three lengths and the two sizes. -/
import Derived.Test.YtblfonlminnpmaaPFnExactLeadOkx3
import Derived.Test.YtblfonlminnpmaaPLib
namespace Go.Proofs.Ytblfonlminnpmaa.Pure.FnExactLeadOk
open Go.RowKit Go.Proofs.Ytblfonlminnpmaa.PFnExactLeadOk Go.Proofs.YtblfonlminnpmaaW.PrintWords Go.Proofs.YtblfonlminnpmaaW.PrintLast Go.Proofs.YtblfonlminnpmaaW.PLib
theorem szBoolS_some (l : List Bool) (a : Int) : ∃ r, laws_szBoolS.f l a = some r := by
  unfold laws_szBoolS.f
  split <;> exact ⟨_, rfl⟩

theorem szStringS_ev (l : List ByteArray) (h : l.length ≤ 140737488351232) (a : Int) : ∃ r, Tells (fun k => laws_szStringS.f k l a) r := by
  unfold laws_szStringS.f
  by_cases c : wrap64 (a - (l.length : Int)) < 0
  · exact ⟨_, Tells.ite_pos c (Tells.of rfl)⟩
  have key : ∀ d i : Nat, i + d = l.length → ∀ x : Int, ∃ r, Tells (fun k => laws_szStringS.l0 k l x (i : Int)) r := by
    intro d
    induction d with
    | zero => exact fun i hi x => ⟨x, ev_end fun k => by simp only [laws_szStringS.l0]; rw [if_neg (by omega)]⟩
    | succ d ih =>
      intro i hi x
      by_cases c2 : wrap64 (x - ((rdOf ByteArray.empty l (i : Int)).size : Int)) < 0
      · exact ⟨-1, ev_end fun k => by simp only [laws_szStringS.l0]; rw [if_pos (by omega), if_pos (by omega), if_pos c2]⟩
      · obtain ⟨r, hr⟩ := ih (i + 1) (by omega) (wrap64 (x - ((rdOf ByteArray.empty l (i : Int)).size : Int)))
        exact ⟨r, Tells.succ (hr.congr fun k => by simp only [laws_szStringS.l0]; rw [if_pos (by omega), if_pos (by omega), if_neg c2, wrap_nat (by omega)])⟩
  obtain ⟨r, hr⟩ := key l.length 0 (by omega) (wrap64 (a - (l.length : Int)))
  exact ⟨r, Tells.ite_neg c hr⟩

theorem szLead_ev (a : Int) (l1 l2 : List Bool) (l3 : List ByteArray) (h3 : l3.length ≤ 140737488351232) (x : Int) : ∃ r, Tells (fun k => laws_szLead.f k a l1 l2 l3 x) r := by
  unfold laws_szLead.f
  obtain ⟨r1, h1⟩ := szBoolS_some l1 x
  by_cases c1 : r1 < 0
  · exact ⟨-1, Tells.bind (Tells.of h1) (Tells.ite_pos c1 (Tells.of rfl))⟩
  obtain ⟨r2, h2⟩ := szBoolS_some l2 r1
  by_cases c2 : r2 < 0
  · exact ⟨-1, Tells.bind (Tells.of h1) (Tells.ite_neg c1 (Tells.bind (Tells.of h2) (Tells.ite_pos c2 (Tells.of rfl))))⟩
  obtain ⟨r3, h3⟩ := szStringS_ev l3 h3 r2
  by_cases c3 : r3 < 0
  · exact ⟨-1, Tells.bind (Tells.of h1) (Tells.ite_neg c1 (Tells.bind (Tells.of h2) (Tells.ite_neg c2 (Tells.bind h3 (Tells.ite_pos c3 (Tells.of rfl))))))⟩
  · exact ⟨r3, Tells.bind (Tells.of h1) (Tells.ite_neg c1 (Tells.bind (Tells.of h2) (Tells.ite_neg c2 (Tells.bind h3 (Tells.ite_neg c3 (Tells.of rfl))))))⟩

theorem toBoolS_ev (l : List Bool) (h : l.length ≤ 140737488351232) : Tells (fun k => laws_toBoolS.f k l) l := by
  unfold laws_toBoolS.f
  refine Tells.ite_pos (by omega) (Tells.ite_pos (by rw [Int.toNat_natCast]; omega) ?_)
  have hc := chain (fun i k => laws_toBoolS.l0 k l (fill l false i) (i : Int)) l.length l (fun i hi => ⟨0, fun k _ => by
    simp only [laws_toBoolS.l0]
    rw [if_pos (by omega), if_pos (by omega), if_pos (by rw [fill_length _ _ (by omega)]; omega), rdOf_get hi, Int.toNat_natCast, fill_set _ _ hi, wrap_nat (by omega)]⟩) (ev_end fun k => by
    simp only [laws_toBoolS.l0]
    rw [if_neg (by omega), fill_all])
  simpa [fill_zero] using hc

theorem toStringS_ev (l : List ByteArray) (h : l.length ≤ 8796093022208) : Tells (fun k => laws_toStringS.f k l) l := by
  unfold laws_toStringS.f
  refine Tells.ite_pos (by omega) (Tells.ite_pos (by rw [Int.toNat_natCast]; omega) ?_)
  have hc := chain (fun i k => laws_toStringS.l0 k l (fill l (⟨#[]⟩ : ByteArray) i) (i : Int)) l.length l (fun i hi => ⟨0, fun k _ => by
    simp only [laws_toStringS.l0]
    rw [if_pos (by omega), if_pos (by omega), if_pos (by rw [fill_length _ _ (by omega)]; omega), rdOf_get hi, Int.toNat_natCast, fill_set _ _ hi, wrap_nat (by omega)]⟩) (ev_end fun k => by
    simp only [laws_toStringS.l0]
    rw [if_neg (by omega), fill_all])
  simpa [fill_zero] using hc

theorem toLead_ev (a : Int) (l1 l2 : List Bool) (l3 : List ByteArray) (h1 : l1.length ≤ 140737488351232) (h2 : l2.length ≤ 140737488351232) (h3 : l3.length ≤ 8796093022208) : Tells (fun k => laws_toLead.f k a l1 l2 l3) (a, l1, l2, l3) := by
  unfold laws_toLead.f
  exact Tells.bind (toBoolS_ev l1 h1) (Tells.bind (toBoolS_ev l2 h2) (Tells.bind (toStringS_ev l3 h3) (Tells.of rfl)))

theorem eqBoolS_ev (l : List Bool) (h : l.length ≤ 140737488351232) : Tells (fun k => laws_eqBoolS.f k l l) true := by
  unfold laws_eqBoolS.f
  refine Tells.ite_pos rfl ?_
  exact chain (fun i k => laws_eqBoolS.l0 k l l (i : Int)) l.length true (fun i hi => ⟨0, fun k _ => by
    simp only [laws_eqBoolS.l0]
    rw [if_pos (by omega), if_pos (by omega), if_pos (by omega), if_neg (by simp), wrap_nat (by omega)]⟩) (ev_end fun k => by
    simp only [laws_eqBoolS.l0]
    rw [if_neg (by omega)])

theorem eqStringS_ev (l : List ByteArray) (h : l.length ≤ 140737488351232) : Tells (fun k => laws_eqStringS.f k l l) true := by
  unfold laws_eqStringS.f
  refine Tells.ite_pos rfl ?_
  exact chain (fun i k => laws_eqStringS.l0 k l l (i : Int)) l.length true (fun i hi => ⟨0, fun k _ => by
    simp only [laws_eqStringS.l0]
    rw [if_pos (by omega), if_pos (by omega), if_pos (by omega), if_pos trivial, wrap_nat (by omega)]⟩) (ev_end fun k => by
    simp only [laws_eqStringS.l0]
    rw [if_neg (by omega)])

theorem eqLead_ev (a : Int) (l1 l2 : List Bool) (l3 : List ByteArray) (h1 : l1.length ≤ 140737488351232) (h2 : l2.length ≤ 140737488351232) (h3 : l3.length ≤ 140737488351232) : Tells (fun k => laws_eqLead.f k a l1 l2 l3 a l1 l2 l3) true := by
  unfold laws_eqLead.f
  exact Tells.ite_pos rfl (Tells.bind (eqBoolS_ev l1 h1) (Tells.ite_pos rfl (Tells.bind (eqBoolS_ev l2 h2) (Tells.ite_pos rfl (Tells.bind (eqStringS_ev l3 h3) (Tells.ite_pos rfl (Tells.of rfl)))))))

def LeadOkB (a : Int) (l1 l2 : List Bool) (l3 : List ByteArray) : Bool := decide (0 ≤ a ∧ a ≤ 7) && (decide (l1.length = 2) && (decide (l2.length = 2) && (decide (l3.length = 2) && l3.all (fun s => decide (s.size ≤ 60)))))
theorem specLeadOk (a : Int) (l1 l2 : List Bool) (l3 : List ByteArray) : spec_LeadOk.f a l1 l2 l3 = some (LeadOkB a l1 l2 l3) := by
  unfold spec_LeadOk.f spec_l1In.f LeadOkB
  by_cases h0 : a ≥ 0
  · by_cases h7 : a ≤ 7
    · have hd : decide (a ≤ 7) = true := decide_eq_true h7
      rw [if_pos h0, hd]
      simp only [Option.bind_some, if_true]
      have hr : decide (0 ≤ a ∧ a ≤ 7) = true := decide_eq_true ⟨h0, h7⟩
      rw [hr]
      by_cases e1 : l1.length = 2
      · by_cases e2 : l2.length = 2
        · by_cases e3 : l3.length = 2
          · obtain ⟨s, t, rfl⟩ : ∃ s t, l3 = [s, t] := by
              match l3, e3 with
              | [s, t], _ => exact ⟨s, t, rfl⟩
            have i1 : ((s.size : Int) ≤ 60) = (s.size ≤ 60) := propext (by omega)
            have i2 : ((t.size : Int) ≤ 60) = (t.size ≤ 60) := propext (by omega)
            simp [rdOf, i1, i2, e1, e2]
            by_cases c1 : s.size ≤ 60 <;> simp [c1]
          · rw [if_pos (by omega), if_pos (by omega), if_neg (by omega)]
            simp [e1, e2, e3]
        · rw [if_pos (by omega), if_neg (by omega)]
          simp [e1, e2]
      · rw [if_neg (by omega)]
        simp [e1]
    · have hd : decide (a ≤ 7) = false := decide_eq_false h7
      rw [if_pos h0, hd]
      have hr : decide (0 ≤ a ∧ a ≤ 7) = false := decide_eq_false (fun h => h7 h.2)
      simp [hr]
  · rw [if_neg h0]
    have hr : decide (0 ≤ a ∧ a ≤ 7) = false := decide_eq_false (fun h => h0 h.1)
    simp [hr]
theorem implLeadOk (a : Int) (l1 l2 : List Bool) (l3 : List ByteArray) (h3 : l3.length ≤ 140737488351232) : Tells (fun k => impl_LeadOk.f k a l1 l2 l3) (LeadOkB a l1 l2 l3) := by
  unfold impl_LeadOk.f
  have hc := chainI (fun i k => impl_LeadOk.l0 k l3 (l3.length : Int) (i : Int) a l1 l2 l3) (fun r => r = LeadOkB a l1 l2 l3) (fun i => ∀ s ∈ l3.take i, s.size ≤ 60) l3.length (by simp) (fun i hi hI => by
    by_cases c : (rdOf ByteArray.empty l3 (i : Int)).size ≤ 60
    · refine .inl ⟨fun s hs => ?_, 0, fun k _ => by
        simp only [impl_LeadOk.l0]
        rw [if_pos (by omega), if_pos (by omega), if_pos (by omega), if_neg (by omega), wrap_nat (by omega)]⟩
      rw [List.take_succ_eq_append_getElem hi, List.mem_append] at hs
      rcases hs with hs | hs
      · exact hI s hs
      · rw [List.mem_singleton.1 hs]
        rwa [rdOf_get hi] at c
    · refine .inr ⟨false, ?_, ev_end fun k => by
        simp only [impl_LeadOk.l0]
        rw [if_pos (by omega), if_pos (by omega), if_pos (by omega), if_pos (by omega)]⟩
      have hn : l3.all (fun s => decide (s.size ≤ 60)) = false := by
        rw [List.all_eq_false]
        exact ⟨l3[i], List.getElem_mem hi, by rw [rdOf_get hi] at c; simpa using c⟩
      simp [LeadOkB, hn]) (fun hI => ⟨_, rfl, ev_end fun k => by
      have ha : l3.all (fun s => decide (s.size ≤ 60)) = true := by
        rw [List.all_eq_true]
        exact fun s hs => decide_eq_true (hI s (by rwa [List.take_length]))
      simp only [impl_LeadOk.l0]
      rw [if_neg (by omega)]
      unfold impl_within.f LeadOkB
      rw [ha]
      by_cases h0 : a ≥ 0
      · by_cases h7 : a ≤ 7
        · have hd : decide (a ≤ 7) = true := decide_eq_true h7
          have hr : decide (0 ≤ a ∧ a ≤ 7) = true := decide_eq_true ⟨h0, h7⟩
          rw [if_pos h0, hd, hr]
          simp only [Option.bind_some, if_true]
          by_cases e1 : l1.length = 2
          · by_cases e2 : l2.length = 2
            · rw [if_pos (by omega), if_pos (by omega)]
              by_cases e3 : l3.length = 2
              · have : ((l3.length : Int) == 2) = true := by rw [beq_iff_eq]; omega
                rw [this]; simp [e1, e2, e3]
              · have : ((l3.length : Int) == 2) = false := by rw [beq_eq_false_iff_ne]; omega
                rw [this]; simp [e1, e2, e3]
            · rw [if_pos (by omega), if_neg (by omega)]; simp [e1, e2]
          · rw [if_neg (by omega)]; simp [e1]
        · have hd : decide (a ≤ 7) = false := decide_eq_false h7
          have hr : decide (0 ≤ a ∧ a ≤ 7) = false := decide_eq_false (fun h => h7 h.2)
          rw [if_pos h0, hd, hr]; simp
      · have hr : decide (0 ≤ a ∧ a ≤ 7) = false := decide_eq_false (fun h => h0 h.1)
        rw [if_neg h0, hr]; simp⟩)
  obtain ⟨r, rfl, hr⟩ := hc
  simpa using hr

theorem holds : ∀ (a0_0 : Int) (l0_1 : List (Bool)) (l0_2 : List (Bool)) (l0_3 : List (ByteArray)), (Lit.int .i64 a0_0).wf = true → (l0_1.length * 1 ≤ 140737488351232 ∧ ∀ y_ ∈ l0_1, True) → (l0_2.length * 1 ≤ 140737488351232 ∧ ∀ y_ ∈ l0_2, True) → (l0_3.length * 16 ≤ 140737488351232 ∧ ∀ y_ ∈ l0_3, y_.size ≤ 140737488351232) → ∃ k, laws_FnExactLeadOk.f k a0_0 l0_1 l0_2 l0_3 = some true := by
  intro a l1 l2 l3 _ h1 h2 h3
  refine Tells.ex (r := true) ?_
  unfold laws_FnExactLeadOk.f
  obtain ⟨q, hq⟩ := szLead_ev a l1 l2 l3 (by omega) 1048576
  refine Tells.bind hq ?_
  by_cases c : q < 0
  · exact Tells.ite_pos c (Tells.of rfl)
  have hto := toLead_ev a l1 l2 l3 (by omega) (by omega) (by omega)
  refine Tells.ite_neg c (Tells.bind hto (Tells.bind (Tells.of (specLeadOk a l1 l2 l3)) (Tells.bind hto (Tells.bind (implLeadOk a l1 l2 l3 (by omega)) (Tells.ite_neg (by simp) (Tells.bind hto (Tells.bind (eqLead_ev a l1 l2 l3 (by omega) (by omega) (by omega)) (Tells.ite_pos rfl (Tells.of rfl)))))))))
end Go.Proofs.Ytblfonlminnpmaa.Pure.FnExactLeadOk
