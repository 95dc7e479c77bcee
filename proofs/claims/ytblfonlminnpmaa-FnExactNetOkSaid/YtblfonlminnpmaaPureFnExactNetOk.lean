/- The law FnExactNetOk answers true at every list of Msgs: both loops ask MsgOk of each, then the length. -/
import Derived.Test.YtblfonlminnpmaaPFnExactNetOkx2
import Derived.Test.YtblfonlminnpmaaPLib
namespace Go.Proofs.Ytblfonlminnpmaa.Pure.FnExactNetOk
open Go.RowKit Go.Proofs.Ytblfonlminnpmaa.PFnExactNetOk Go.Proofs.YtblfonlminnpmaaW.PrintWords Go.Proofs.YtblfonlminnpmaaW.PrintLast Go.Proofs.YtblfonlminnpmaaW.PLib
def wf28 (x : S28) : Prop := ((Lit.int .i64 x.f0).wf = true) ∧ ((Lit.int .i64 x.f1).wf = true) ∧ ((Lit.int .i64 x.f2).wf = true) ∧ ((Lit.int .i64 x.f3).wf = true) ∧ (x.f4.size ≤ 140737488351232) ∧ (x.f5.size ≤ 140737488351232) ∧ ((Lit.int .i64 x.f6).wf = true) ∧ ((Lit.int .i64 x.f7).wf = true)
theorem szMsg_some (a0 a1 a2 a3 : Int) (s t : ByteArray) (a6 a7 x : Int) : ∃ r, laws_szMsg.f a0 a1 a2 a3 s t a6 a7 x = some r := by
  unfold laws_szMsg.f
  repeat' (first | exact ⟨_, rfl⟩ | split)

theorem szMsgS_ev (l : List S28) (h : l.length ≤ 140737488351232) (a : Int) : ∃ r, Tells (fun k => laws_szMsgS.f k l a) r := by
  unfold laws_szMsgS.f
  by_cases c : wrap64 (a - (l.length : Int)) < 0
  · exact ⟨_, Tells.ite_pos c (Tells.of rfl)⟩
  have key : ∀ d i : Nat, i + d = l.length → ∀ x : Int, ∃ r, Tells (fun k => laws_szMsgS.l0 k l x (i : Int)) r := by
    intro d
    induction d with
    | zero => exact fun i hi x => ⟨x, ev_end fun k => by simp only [laws_szMsgS.l0]; rw [if_neg (by omega)]⟩
    | succ d ih =>
      intro i hi x
      obtain ⟨q, hq⟩ := szMsg_some (rd_T28 l (i : Int)).f0 (rd_T28 l (i : Int)).f1 (rd_T28 l (i : Int)).f2 (rd_T28 l (i : Int)).f3 (rd_T28 l (i : Int)).f4 (rd_T28 l (i : Int)).f5 (rd_T28 l (i : Int)).f6 (rd_T28 l (i : Int)).f7 x
      by_cases c2 : q < 0
      · exact ⟨-1, ev_end fun k => by simp only [laws_szMsgS.l0]; rw [if_pos (by omega), if_pos (by omega), hq, Option.bind_some, if_pos c2]⟩
      · obtain ⟨r, hr⟩ := ih (i + 1) (by omega) q
        exact ⟨r, Tells.succ (hr.congr fun k => by simp only [laws_szMsgS.l0]; rw [if_pos (by omega), if_pos (by omega), hq, Option.bind_some, if_neg c2, wrap_nat (by omega)])⟩
  obtain ⟨r, hr⟩ := key l.length 0 (by omega) (wrap64 (a - (l.length : Int)))
  exact ⟨r, Tells.ite_neg c hr⟩

def convMsg (x : S28) : S31 := ⟨x.f0, x.f1, x.f2, x.f3, x.f4, x.f5, x.f6, x.f7⟩

theorem toMsgS_ev (l : List S28) (h : l.length ≤ 3518437208883) : Tells (fun k => laws_toMsgS.f k l) (l.map convMsg) := by
  unfold laws_toMsgS.f
  refine Tells.ite_pos (by omega) (Tells.ite_pos (by rw [Int.toNat_natCast]; omega) ?_)
  have hl : (l.map convMsg).length = l.length := List.length_map ..
  have hc := chain (fun i k => laws_toMsgS.l0 k l (fill (l.map convMsg) z31 i) (i : Int)) l.length (l.map convMsg) (fun i hi => ⟨0, fun k _ => by
    have hi' : i < (l.map convMsg).length := by omega
    have he : rd_T28 l (i : Int) = l[i] := getD_get hi
    simp only [laws_toMsgS.l0, laws_toMsg.f, Option.bind_some]
    rw [if_pos (by omega), if_pos (by omega), if_pos (by rw [fill_length _ _ (by omega)]; omega), he, Int.toNat_natCast, wrap_nat (by omega)]
    have hs := fill_set (l.map convMsg) z31 hi'
    rw [List.getElem_map] at hs
    rw [← hs]
    rfl⟩) (ev_end fun k => by
    simp only [laws_toMsgS.l0]
    rw [if_neg (by omega), ← hl, fill_all])
  rw [fill_zero] at hc
  simpa using hc

theorem eqMsg_true (x : S31) : laws_eqMsg.f x.f0 x.f1 x.f2 x.f3 x.f4 x.f5 x.f6 x.f7 x.f0 x.f1 x.f2 x.f3 x.f4 x.f5 x.f6 x.f7 = some true := by
  unfold laws_eqMsg.f
  simp

theorem eqMsgS_ev (l : List S31) (h : l.length ≤ 140737488351232) : Tells (fun k => laws_eqMsgS.f k l l) true := by
  unfold laws_eqMsgS.f
  refine Tells.ite_pos rfl ?_
  exact chain (fun i k => laws_eqMsgS.l0 k l l (i : Int)) l.length true (fun i hi => ⟨0, fun k _ => by
    simp only [laws_eqMsgS.l0]
    rw [if_pos (by omega), if_pos (by omega), if_pos (by omega), eqMsg_true, Option.bind_some, if_pos rfl, wrap_nat (by omega)]⟩) (ev_end fun k => by
    simp only [laws_eqMsgS.l0]
    rw [if_neg (by omega)])

theorem msgOk_same (a0 a1 a2 a3 : Int) (s t : ByteArray) (a6 a7 : Int) : impl_MsgOk.f a0 a1 a2 a3 s t a6 a7 = spec_MsgOk.f a0 a1 a2 a3 s t a6 a7 := rfl
theorem msgOk_some (a0 a1 a2 a3 : Int) (s t : ByteArray) (a6 a7 : Int) : ∃ r, spec_MsgOk.f a0 a1 a2 a3 s t a6 a7 = some r := by
  unfold spec_MsgOk.f spec_l1Word.f spec_l1In.f
  have hin : ∀ x lo hi : Int, ∃ b, (if x ≥ lo then some (decide (x ≤ hi)) else some false) = some b := fun x lo hi => by split <;> exact ⟨_, rfl⟩
  obtain ⟨b0, h0⟩ := hin a0 1 9
  obtain ⟨b1, h1⟩ := hin a1 0 4
  obtain ⟨b2, h2⟩ := hin a2 0 4
  obtain ⟨b3, h3⟩ := hin a3 0 65535
  obtain ⟨b6, h6⟩ := hin a6 0 255
  obtain ⟨b7, h7⟩ := hin a7 0 6
  rw [h0, h1, h2, h3, h6, h7]
  simp only [Option.bind_some]
  repeat' (first | exact ⟨_, rfl⟩ | split)

def MsgOkB (x : S31) : Bool := (spec_MsgOk.f x.f0 x.f1 x.f2 x.f3 x.f4 x.f5 x.f6 x.f7).getD false
theorem msgOk_eq (x : S31) : spec_MsgOk.f x.f0 x.f1 x.f2 x.f3 x.f4 x.f5 x.f6 x.f7 = some (MsgOkB x) := by
  obtain ⟨r, hr⟩ := msgOk_some x.f0 x.f1 x.f2 x.f3 x.f4 x.f5 x.f6 x.f7
  simp [MsgOkB, hr]
def NetOkB (l : List S31) : Bool := l.all MsgOkB && decide ((l.length : Int) ≤ 20)
theorem netOk_loop (g : Nat → Nat → Option Bool) (l : List S31) (hs : ∀ i (hi : i < l.length) k, g i (k + 1) = if MsgOkB l[i] = true then g (i + 1) k else some false) (he : ∀ k, g l.length (k + 1) = some (decide ((l.length : Int) ≤ 20))) : Tells (g 0) (NetOkB l) := by
  have hc := chainI g (fun r => r = NetOkB l) (fun i => ∀ x ∈ l.take i, MsgOkB x = true) l.length (by simp) (fun i hi hI => by
    by_cases c : MsgOkB l[i] = true
    · refine .inl ⟨fun x hx => ?_, 0, fun k _ => by rw [hs i hi, if_pos c]⟩
      rw [List.take_succ_eq_append_getElem hi, List.mem_append] at hx
      rcases hx with hx | hx
      · exact hI x hx
      · rw [List.mem_singleton.1 hx]; exact c
    · refine .inr ⟨false, ?_, ev_end fun k => by rw [hs i hi, if_neg c]⟩
      have : l.all MsgOkB = false := by
        rw [List.all_eq_false]
        exact ⟨l[i], List.getElem_mem hi, c⟩
      simp [NetOkB, this]) (fun hI => ⟨_, rfl, ev_end fun k => by
      have : l.all MsgOkB = true := by
        rw [List.all_eq_true]
        exact fun x hx => hI x (by rwa [List.take_length])
      rw [he]
      simp [NetOkB, this]⟩)
  obtain ⟨r, rfl, hr⟩ := hc
  exact hr
theorem specNetOk (l : List S31) (h : l.length ≤ 140737488351232) : Tells (fun k => spec_NetOk.f k l) (NetOkB l) := by
  unfold spec_NetOk.f
  exact netOk_loop (fun i k => spec_NetOk.l0 k l (i : Int)) l (fun i hi k => by
    have he : rd_T31 l (i : Int) = l[i] := getD_get hi
    simp only [spec_NetOk.l0]
    rw [if_pos (by omega), if_pos (by omega), msgOk_eq, he, Option.bind_some, wrap_nat (by omega)]) (fun k => by
    simp only [spec_NetOk.l0]
    rw [if_neg (by omega)])
theorem implNetOk (l : List S31) (h : l.length ≤ 140737488351232) : Tells (fun k => impl_NetOk.f k l) (NetOkB l) := by
  unfold impl_NetOk.f
  exact netOk_loop (fun i k => impl_NetOk.l0 k l l (l.length : Int) (i : Int)) l (fun i hi k => by
    have he : rd_T31 l (i : Int) = l[i] := getD_get hi
    simp only [impl_NetOk.l0]
    rw [if_pos (by omega), if_pos (by omega), if_pos (by omega), msgOk_same, msgOk_eq, he, Option.bind_some, wrap_nat (by omega)]) (fun k => by
    simp only [impl_NetOk.l0]
    rw [if_neg (by omega)])

theorem holds : ∀ (l0 : List (S28)), (l0.length * 80 ≤ 140737488351232 ∧ ∀ y_ ∈ l0, wf28 y_) → ∃ k, laws_FnExactNetOk.f k l0 = some true := by
  intro l hl
  refine Tells.ex (r := true) ?_
  unfold laws_FnExactNetOk.f
  obtain ⟨q, hq⟩ := szMsgS_ev l (by omega) 1048576
  refine Tells.bind hq ?_
  by_cases c : q < 0
  · exact Tells.ite_pos c (Tells.of rfl)
  have hto := toMsgS_ev l (by omega)
  have hlm : (l.map convMsg).length = l.length := List.length_map ..
  refine Tells.ite_neg c (Tells.bind hto (Tells.bind (specNetOk (l.map convMsg) (by omega)) (Tells.bind hto (Tells.bind (implNetOk (l.map convMsg) (by omega)) (Tells.ite_neg (by simp) (Tells.bind hto (Tells.bind (eqMsgS_ev (l.map convMsg) (by omega)) (Tells.ite_pos rfl (Tells.of rfl)))))))))
end Go.Proofs.Ytblfonlminnpmaa.Pure.FnExactNetOk
