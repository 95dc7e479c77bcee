/- How the small steps are run by rewriting. -/
import Derived.Test.YtihpdefnajimgaaXRun
namespace Go.X
section
variable {α : Type} {Te : Nat → List AV → Res → Prop}
theorem bif_cases {c : Bool} {p q : Prg α} {st : St} {Q : α → St → Prop} (h1 : c = true → runP Te p st Q) (h2 : c = false → runP Te q st Q) : runP Te (bif c then p else q) st Q := by
  cases c
  · exact h2 rfl
  · exact h1 rfl
theorem bifL_cases {c : Bool} {p q : Prg α} {st : St} {rd wr : List Loc} {Q : α → St → List Loc → List Loc → Prop} (h1 : c = true → runL Te p st rd wr Q) (h2 : c = false → runL Te q st rd wr Q) : runL Te (bif c then p else q) st rd wr Q := by
  cases c
  · exact h2 rfl
  · exact h1 rfl
section
variable {s : List (Nat × SV)} {b : List (Nat × List Cel)} {r : List (Nat × List T)} {na base : Nat} {Q : Post}
theorem C_skip : runC Te na base .skip ⟨s, b, r⟩ Q = Q .nrm ⟨s, b, r⟩ := rfl
theorem C_reg {os : List GOp} : runC Te na base (.reg os) ⟨s, b, r⟩ Q = runOps Te os ⟨s, b, r⟩ (Q .nrm) := rfl
theorem C_draw {os : List GOp} {es : List (List Nat)} : runC Te na base (.draw os es) ⟨s, b, r⟩ Q = runDraw Te os ⟨s, b, r⟩ [] (fun st' l => drawOk es l = true ∧ Q .nrm st') := rfl
theorem C_seq {x y : XCode} : runC Te na base (.seq x y) ⟨s, b, r⟩ Q = runC Te na base x ⟨s, b, r⟩ (Then (fun st' => runC Te na base y st' Q) Q) := rfl
theorem C_block {i : Nat} {x : XCode} : runC Te na base (.block i x) ⟨s, b, r⟩ Q = runC Te na base x ⟨s, b, r⟩ (InBlock i Q) := rfl
theorem C_norm {ks : List Nat} {x : XCode} : runC Te na base (.norm ks x) ⟨s, b, r⟩ Q = runC Te na base x (norm na base ks ⟨s, b, r⟩) Q := rfl
theorem C_exit {i : Nat} : runC Te na base (.exit i) ⟨s, b, r⟩ Q = Q (.exit i) ⟨s, b, r⟩ := rfl
theorem C_ret : runC Te na base .ret ⟨s, b, r⟩ Q = Q .ret ⟨s, b, r⟩ := rfl
def condC (v : Option SV) (p q : Prop) : Prop := match v with
  | some (.one (.pv (.bool c))) => (c = true → p) ∧ (c = false → q)
  | _ => False
theorem C_cond {t : Nat} {x y : XCode} : runC Te na base (.cond t x y) ⟨s, b, r⟩ Q = condC (get s t) (runC Te na base x ⟨s, b, r⟩ Q) (runC Te na base y ⟨s, b, r⟩ Q) := rfl
theorem condC_some {c : Bool} {p q : Prop} : condC (some (.one (.pv (.bool c)))) p q = ((c = true → p) ∧ (c = false → q)) := rfl
theorem T_nrm {K : St → Prop} : Then K Q .nrm ⟨s, b, r⟩ = K ⟨s, b, r⟩ := rfl
theorem T_ret {K : St → Prop} : Then K Q .ret ⟨s, b, r⟩ = Q .ret ⟨s, b, r⟩ := rfl
theorem T_exit {K : St → Prop} {i : Nat} : Then K Q (.exit i) ⟨s, b, r⟩ = Q (.exit i) ⟨s, b, r⟩ := rfl
theorem B_nrm {i : Nat} : InBlock i Q .nrm ⟨s, b, r⟩ = Q .nrm ⟨s, b, r⟩ := rfl
theorem B_ret {i : Nat} : InBlock i Q .ret ⟨s, b, r⟩ = Q .ret ⟨s, b, r⟩ := rfl
theorem B_exit {i : Nat} : InBlock i Q (.exit i) ⟨s, b, r⟩ = Q .nrm ⟨s, b, r⟩ := if_pos rfl
theorem B_out {i j : Nat} (h : (j == i) = false) : InBlock i Q (.exit j) ⟨s, b, r⟩ = Q (.exit j) ⟨s, b, r⟩ := if_neg (by simpa using h)
theorem E_nrm {as : List AV} {rs : List RV} {r0 : Res} : EndFn Te as rs r0 .nrm ⟨s, b, r⟩ = runP Te (leaveP as rs) ⟨s, b, r⟩ (fun r _ => r = r0) := by simp [EndFn]
theorem E_ret {as : List AV} {rs : List RV} {r0 : Res} : EndFn Te as rs r0 .ret ⟨s, b, r⟩ = runP Te (leaveP as rs) ⟨s, b, r⟩ (fun r _ => r = r0) := by simp [EndFn]
theorem O_nil {K : St → Prop} : runOps Te [] ⟨s, b, r⟩ K = K ⟨s, b, r⟩ := rfl
theorem O_cons {o : GOp} {os : List GOp} {K : St → Prop} : runOps Te (o :: os) ⟨s, b, r⟩ K = runP Te o.prg ⟨s, b, r⟩ (fun _ st' => runOps Te os st' K) := rfl
theorem D_nil {l : List Log} {K : St → List Log → Prop} : runDraw Te [] ⟨s, b, r⟩ l K = K ⟨s, b, r⟩ l := rfl
theorem D_cons {o : GOp} {os : List GOp} {l : List Log} {K : St → List Log → Prop} : runDraw Te (o :: os) ⟨s, b, r⟩ l K = runL Te o.prg ⟨s, b, r⟩ [] [] (fun _ st' rd wr => runDraw Te os st' (l ++ [(rd, wr)]) K) := rfl
end
section
variable {s : List (Nat × SV)} {b : List (Nat × List Cel)} {r : List (Nat × List T)} {Q : α → St → Prop}
def onSome {β γ : Type} (d : γ) (v : Option β) (f : β → γ) : γ := match v with | some x => f x | none => d
def onNone {β γ : Type} (d : γ) (v : Option β) (f : γ) : γ := match v with | some _ => d | none => f
theorem onSome_some {β γ : Type} {d : γ} {x : β} {f : β → γ} : onSome d (some x) f = f x := rfl
theorem onNone_none {β γ : Type} {d : γ} {f : γ} : onNone d (none : Option β) f = f := rfl
theorem P_done {x : α} : runP Te (.done x) ⟨s, b, r⟩ Q = Q x ⟨s, b, r⟩ := rfl
theorem P_gs {t : Nat} {k : SV → Prg α} : runP Te (.gs t k) ⟨s, b, r⟩ Q = runP Te (k ((get s t).getD .un)) ⟨s, b, r⟩ Q := rfl
theorem P_ss {t : Nat} {v : SV} {k : Prg α} : runP Te (.ss t v k) ⟨s, b, r⟩ Q = runP Te k ⟨rep s t v, b, r⟩ Q := rfl
theorem P_gb {t : Nat} {k : List Cel → Prg α} : runP Te (.gb t k) ⟨s, b, r⟩ Q = onSome False (get b t) (fun cs => runP Te (k cs) ⟨s, b, r⟩ Q) := by simp only [runP, onSome, onNone]; cases get b t <;> rfl
theorem P_sb {t : Nat} {v : List Cel} {k : Prg α} : runP Te (.sb t v k) ⟨s, b, r⟩ Q = onSome False (get b t) (fun _ => runP Te k ⟨s, rep b t v, r⟩ Q) := by simp only [runP, onSome, onNone]; cases get b t <;> rfl
theorem P_nb {t : Nat} {v : List Cel} {k : Prg α} : runP Te (.nb t v k) ⟨s, b, r⟩ Q = onNone False (get b t) (runP Te k ⟨s, rep b t v, r⟩ Q) := by simp only [runP, onSome, onNone]; cases get b t <;> rfl
theorem P_gr {t : Nat} {k : List T → Prg α} : runP Te (.gr t k) ⟨s, b, r⟩ Q = onSome False (get r t) (fun cs => runP Te (k cs) ⟨s, b, r⟩ Q) := by simp only [runP, onSome, onNone]; cases get r t <;> rfl
theorem P_sr {t : Nat} {v : List T} {k : Prg α} : runP Te (.sr t v k) ⟨s, b, r⟩ Q = onSome False (get r t) (fun _ => runP Te k ⟨s, b, rep r t v⟩ Q) := by simp only [runP, onSome, onNone]; cases get r t <;> rfl
theorem P_nr {t : Nat} {v : List T} {k : Prg α} : runP Te (.nr t v k) ⟨s, b, r⟩ Q = onNone False (get r t) (runP Te k ⟨s, b, rep r t v⟩ Q) := by simp only [runP, onSome, onNone]; cases get r t <;> rfl
theorem P_chk {c : Bool} {k : Prg α} : runP Te (.chk c k) ⟨s, b, r⟩ Q = (c = true ∧ runP Te k ⟨s, b, r⟩ Q) := rfl
theorem P_ov {o : Option Value} {k : Value → Prg α} : runP Te (.ov o k) ⟨s, b, r⟩ Q = onSome False o (fun v => runP Te (k v) ⟨s, b, r⟩ Q) := by cases o <;> rfl
def CallP (Te : Nat → List AV → Res → Prop) (f : Nat) (as : List AV) (k : Res → Prg α) (st : St) (Q : α → St → Prop) : Prop := ∃ x, Te f as x ∧ runP Te (k x) st Q
theorem P_call {f : Nat} {as : List AV} {k : Res → Prg α} : runP Te (.call f as k) ⟨s, b, r⟩ Q = CallP Te f as k ⟨s, b, r⟩ Q := rfl
theorem CallP.of {f : Nat} {as : List AV} {k : Res → Prg α} {st : St} {x : Res} (h : Te f as x) (hk : runP Te (k x) st Q) : CallP Te f as k st Q := ⟨x, h, hk⟩
theorem P_all {c : St → Bool} {k : Prg α} : runP Te (.all c k) ⟨s, b, r⟩ Q = (c ⟨s, b, r⟩ = true ∧ runP Te k ⟨s, b, r⟩ Q) := rfl
end
section
variable {s : List (Nat × SV)} {b : List (Nat × List Cel)} {r : List (Nat × List T)} {rd wr : List Loc} {Q : α → St → List Loc → List Loc → Prop}
theorem L_done {x : α} : runL Te (.done x) ⟨s, b, r⟩ rd wr Q = Q x ⟨s, b, r⟩ rd wr := rfl
theorem L_gs {t : Nat} {k : SV → Prg α} : runL Te (.gs t k) ⟨s, b, r⟩ rd wr Q = runL Te (k ((get s t).getD .un)) ⟨s, b, r⟩ (.s t :: rd) wr Q := rfl
theorem L_ss {t : Nat} {v : SV} {k : Prg α} : runL Te (.ss t v k) ⟨s, b, r⟩ rd wr Q = runL Te k ⟨rep s t v, b, r⟩ rd (.s t :: wr) Q := rfl
theorem L_gb {t : Nat} {k : List Cel → Prg α} : runL Te (.gb t k) ⟨s, b, r⟩ rd wr Q = onSome False (get b t) (fun cs => runL Te (k cs) ⟨s, b, r⟩ (.b t :: rd) wr Q) := by simp only [runL, onSome, onNone]; cases get b t <;> rfl
theorem L_sb {t : Nat} {v : List Cel} {k : Prg α} : runL Te (.sb t v k) ⟨s, b, r⟩ rd wr Q = onSome False (get b t) (fun _ => runL Te k ⟨s, rep b t v, r⟩ (.b t :: rd) (.b t :: wr) Q) := by simp only [runL, onSome, onNone]; cases get b t <;> rfl
theorem L_nb {t : Nat} {v : List Cel} {k : Prg α} : runL Te (.nb t v k) ⟨s, b, r⟩ rd wr Q = onNone False (get b t) (runL Te k ⟨s, rep b t v, r⟩ (.b t :: rd) (.b t :: wr) Q) := by simp only [runL, onSome, onNone]; cases get b t <;> rfl
theorem L_gr {t : Nat} {k : List T → Prg α} : runL Te (.gr t k) ⟨s, b, r⟩ rd wr Q = onSome False (get r t) (fun cs => runL Te (k cs) ⟨s, b, r⟩ (.r t :: rd) wr Q) := by simp only [runL, onSome, onNone]; cases get r t <;> rfl
theorem L_sr {t : Nat} {v : List T} {k : Prg α} : runL Te (.sr t v k) ⟨s, b, r⟩ rd wr Q = onSome False (get r t) (fun _ => runL Te k ⟨s, b, rep r t v⟩ (.r t :: rd) (.r t :: wr) Q) := by simp only [runL, onSome, onNone]; cases get r t <;> rfl
theorem L_nr {t : Nat} {v : List T} {k : Prg α} : runL Te (.nr t v k) ⟨s, b, r⟩ rd wr Q = onNone False (get r t) (runL Te k ⟨s, b, rep r t v⟩ (.r t :: rd) (.r t :: wr) Q) := by simp only [runL, onSome, onNone]; cases get r t <;> rfl
theorem L_chk {c : Bool} {k : Prg α} : runL Te (.chk c k) ⟨s, b, r⟩ rd wr Q = (c = true ∧ runL Te k ⟨s, b, r⟩ rd wr Q) := rfl
theorem L_ov {o : Option Value} {k : Value → Prg α} : runL Te (.ov o k) ⟨s, b, r⟩ rd wr Q = onSome False o (fun v => runL Te (k v) ⟨s, b, r⟩ rd wr Q) := by cases o <;> rfl
def CallL (Te : Nat → List AV → Res → Prop) (f : Nat) (as : List AV) (k : Res → Prg α) (st : St) (rd wr : List Loc) (Q : α → St → List Loc → List Loc → Prop) : Prop := ∃ x, Te f as x ∧ runL Te (k x) st rd wr Q
theorem L_call {f : Nat} {as : List AV} {k : Res → Prg α} : runL Te (.call f as k) ⟨s, b, r⟩ rd wr Q = CallL Te f as k ⟨s, b, r⟩ rd wr Q := rfl
theorem CallL.of {f : Nat} {as : List AV} {k : Res → Prg α} {st : St} {x : Res} (h : Te f as x) (hk : runL Te (k x) st rd wr Q) : CallL Te f as k st rd wr Q := ⟨x, h, hk⟩
end
end
/-- A loop, told by what is the same in each round. -/
theorem loop_of {Te : Nat → List AV → Res → Prop} {σ : Type} (f : σ → St) (inv : σ → Prop) (μ : σ → Nat) (x0 : σ) {na base : Nat} {ks : List Nat} {x : XCode} {st : St} {Q : Post} (h0 : norm na base ks st = f x0) (h1 : inv x0)
    (hr : ∀ y, inv y → runC Te na base x (f y) (Then (fun s' => ∃ z, norm na base ks s' = f z ∧ inv z ∧ μ z < μ y) Q)) : runC Te na base (.loop ks x) st Q := by
  refine ⟨fun k s => ∃ y, s = f y ∧ inv y ∧ μ y = k, μ x0, ⟨x0, h0, h1, rfl⟩, ?_⟩
  rintro k s ⟨y, rfl, h2, rfl⟩
  have e : (Then (fun s' => ∃ z, norm na base ks s' = f z ∧ inv z ∧ μ z < μ y) Q) = Then (fun s' => ∃ k', k' < μ y ∧ ∃ z, norm na base ks s' = f z ∧ inv z ∧ μ z = k') Q := by
    funext ex s
    cases ex with
    | nrm => exact propext ⟨fun ⟨z, q1, q2, q3⟩ => ⟨_, q3, z, q1, q2, rfl⟩, fun ⟨_, q3, z, q1, q2, q4⟩ => ⟨z, q1, q2, by omega⟩⟩
    | _ => rfl
  have := hr y h2
  rw [e] at this
  exact this
theorem lentLL_map {α : Type} (f : α → List T) : ∀ l : List α, lentLL (l.map f) = l.map fun x => lentL (f x)
  | [] => rfl
  | x :: l => by simp only [List.map_cons, lentLL, lentLL_map f l]
theorem wholeLL_map {α : Type} (f : α → List T) : ∀ l : List α, wholeLL (l.map f) = l.all fun x => wholeL (f x)
  | [] => rfl
  | x :: l => by simp only [List.map_cons, wholeLL, wholeLL_map f l, List.all_cons]
theorem noRoLL_map {α : Type} (f : α → List T) : ∀ l : List α, noRoLL (l.map f) = l.all fun x => noRoL (f x)
  | [] => rfl
  | x :: l => by simp only [List.map_cons, noRoLL, noRoLL_map f l, List.all_cons]
theorem flat_map {α : Type} (f : α → List T) : ∀ l : List α, flat (l.map f) = l.all fun x => (f x).all isPv
  | [] => rfl
  | x :: l => by simp only [List.map_cons, flat, flat_map f l, List.all_cons]
theorem all_yes {α : Type} (l : List α) : (l.all fun _ => true) = true := by simp
theorem N_norm {na base : Nat} {ks : List Nat} {s : List (Nat × SV)} {b : List (Nat × List Cel)} {r : List (Nat × List T)} : norm na base ks ⟨s, b, r⟩ = normS na base ⟨s, b, r⟩ (pickS s ks) := rfl
theorem take_map {α β : Type} (f : α → β) (l : List α) : (l.map f).take l.length = l.map f := by rw [List.take_of_length_le (by simp)]
theorem bI_add (k : IntKind) (a b : Int) : binV .add (.int k a) (.int k b) = some (.int k (k.wrap (a + b))) := by simp [binV]
theorem bI_sub (k : IntKind) (a b : Int) : binV .sub (.int k a) (.int k b) = some (.int k (k.wrap (a - b))) := by simp [binV]
theorem bI_mul (k : IntKind) (a b : Int) : binV .mul (.int k a) (.int k b) = some (.int k (k.wrap (a * b))) := by simp [binV]
theorem bI_eql (k : IntKind) (a b : Int) : binV .eql (.int k a) (.int k b) = some (.bool (a == b)) := by simp [binV]
theorem bI_neq (k : IntKind) (a b : Int) : binV .neq (.int k a) (.int k b) = some (.bool (a != b)) := by simp [binV]
theorem bI_lss (k : IntKind) (a b : Int) : binV .lss (.int k a) (.int k b) = some (.bool (decide (a < b))) := by simp [binV]
theorem bI_leq (k : IntKind) (a b : Int) : binV .leq (.int k a) (.int k b) = some (.bool (decide (a ≤ b))) := by simp [binV]
theorem bI_gtr (k : IntKind) (a b : Int) : binV .gtr (.int k a) (.int k b) = some (.bool (decide (a > b))) := by simp [binV]
theorem bI_geq (k : IntKind) (a b : Int) : binV .geq (.int k a) (.int k b) = some (.bool (decide (a ≥ b))) := by simp [binV]
theorem bI_and (k : IntKind) (a b : Int) : binV .and (.int k a) (.int k b) = some (.int k (k.wrap (BitVec.ofInt k.bits a &&& BitVec.ofInt k.bits b).toNat)) := by simp [binV]
theorem bI_or (k : IntKind) (a b : Int) : binV .or (.int k a) (.int k b) = some (.int k (k.wrap (BitVec.ofInt k.bits a ||| BitVec.ofInt k.bits b).toNat)) := by simp [binV]
theorem bI_xor (k : IntKind) (a b : Int) : binV .xor (.int k a) (.int k b) = some (.int k (k.wrap (BitVec.ofInt k.bits a ^^^ BitVec.ofInt k.bits b).toNat)) := by simp [binV]
theorem bI_quo (k : IntKind) (a b : Int) : binV .quo (.int k a) (.int k b) = bif !(b == 0) then some (.int k (k.wrap (a.tdiv b))) else none := by simp [binV]
theorem bI_rem (k : IntKind) (a b : Int) : binV .rem (.int k a) (.int k b) = bif !(b == 0) then some (.int k (a.tmod b)) else none := by simp [binV]
theorem bI_shl (k k' : IntKind) (a b : Int) : binV .shl (.int k a) (.int k' b) = bif decide (0 ≤ b) then some (.int k (k.wrap (a * 2 ^ (Nat.min b.toNat k.bits)))) else none := by simp [binV]
theorem bI_shr (k k' : IntKind) (a b : Int) : binV .shr (.int k a) (.int k' b) = bif decide (0 ≤ b) then some (.int k (a.fdiv (2 ^ (Nat.min b.toNat k.bits)))) else none := by simp [binV]
theorem bytes_beq (a b : ByteArray) : (a.toList == b.toList) = decide (a = b) := by
  rcases a with ⟨⟨a⟩⟩
  rcases b with ⟨⟨b⟩⟩
  by_cases h : a = b
  · subst h; simp
  · have : ¬ (ByteArray.toList ⟨⟨a⟩⟩ = ByteArray.toList ⟨⟨b⟩⟩) := by
      rw [ByteArray.toList_eq, ByteArray.toList_eq]
      exact h
    rw [decide_eq_false (by simpa using h)]
    simpa using this
theorem bS_eql (a b : ByteArray) : binV .eql (.string a) (.string b) = some (.bool (decide (a = b))) := by simp [binV, ← bytes_beq]
theorem bS_neq (a b : ByteArray) : binV .neq (.string a) (.string b) = some (.bool (!decide (a = b))) := by simp [binV, ← bytes_beq]
theorem bS_lss (a b : ByteArray) : binV .lss (.string a) (.string b) = some (.bool (Op.bytesLess a.toList b.toList)) := by simp [binV]
theorem bS_leq (a b : ByteArray) : binV .leq (.string a) (.string b) = some (.bool (Op.bytesLess a.toList b.toList || a.toList == b.toList)) := by simp [binV]
theorem bS_gtr (a b : ByteArray) : binV .gtr (.string a) (.string b) = some (.bool (!(Op.bytesLess a.toList b.toList || a.toList == b.toList))) := by simp [binV]
theorem bS_geq (a b : ByteArray) : binV .geq (.string a) (.string b) = some (.bool (!Op.bytesLess a.toList b.toList)) := by simp [binV]
theorem bS_add (a b : ByteArray) : binV .add (.string a) (.string b) = bif decide (a.size + b.size ≤ 4294967296) then some (.string (a ++ b)) else none := by simp [binV]
theorem rows_sl {τ : Type} {o : Bool} {z : Nat} {h : τ} {rs : List (List (Tr τ))} : Tr.rows (.sl o z h rs) = rs := rfl
theorem lenB {α : Type} (l : List α) : decide (l.length ≤ l.length) = true := by simp
attribute [go_sem ↓] C_skip C_reg C_draw C_seq C_block C_norm C_exit C_ret C_cond T_nrm T_ret T_exit B_nrm B_ret B_exit B_out E_nrm E_ret O_nil O_cons D_nil D_cons P_done P_gs P_ss P_gb P_sb P_nb P_gr P_sr P_nr P_chk P_ov P_call P_all
  L_done L_gs L_ss L_gb L_sb L_nb L_gr L_sr L_nr L_chk L_ov L_call
attribute [go_sem] bI_add bI_sub bI_mul bI_eql bI_neq bI_lss bI_leq bI_gtr bI_geq bI_and bI_or bI_xor bI_quo bI_rem bI_shl bI_shr bS_eql bS_neq bS_lss bS_leq bS_gtr bS_geq bS_add
attribute [go_sem] rows_sl noLower lower SV.lower N_norm lentLL_map wholeLL_map noRoLL_map flat_map all_yes List.all_map List.getElem?_map Int.toNat_natCast Int.natCast_nonneg Function.comp_def isPv takeRows List.length_map List.length_replicate List.length_append condC_some onSome_some onNone_none GOp.prg COp.prg Opd.ev evL evPs enterSt enterS enterB enterR slotOf celOf plant get rep fin cond_true cond_false Option.getD_some Option.getD_none AV.ts AV.slot
  nat? opt? withCels SV.cels takeC takeL lendC lendL node putAt fillC lentOwn passOwn passLend callP backP slotsP slots boxesOf loneN ptrOuts ioP plains plainV takeW takeWs keyOf lone backC backL newSl srcP appP readR readO leaveP leaveR leaveO resV goneC wholeLL wholeL whole noRoL noRo noRoLL lentLL lentL lent
  normS normB normWith pickS keepB olds idx renR renC renV renVs refC refV refVs boxV boxVs argR newR
  List.length_cons List.length_nil Nat.reduceAdd Nat.reduceMul Nat.reduceBEq beq_self_eq_true Nat.reduceLT Nat.reduceLeDiff Int.reduceLE Int.reduceLT Int.reduceToNat Int.reduceBEq decide_true decide_false Bool.or_true Bool.or_false Bool.true_or Bool.false_or Bool.and_true Bool.true_and Bool.and_false Bool.false_and Bool.not_true Bool.not_false
  beq_true beq_false true_and and_true List.nil_append List.cons_append List.append_nil List.map_cons List.map_nil List.flatMap_cons List.flatMap_nil Option.bind_some Option.bind_none Option.map_some Option.map_none
  List.take_succ_cons List.drop_succ_cons List.take_zero List.drop_zero List.take_nil List.drop_nil List.getElem?_cons_zero List.getElem?_cons_succ List.getElem?_nil List.contains_cons List.contains_nil Nat.reduceSub Nat.zero_add Nat.add_zero
  List.set_cons_zero List.set_cons_succ atP setP List.zipIdx_cons List.all_cons List.all_nil List.any_cons List.any_nil lenB take_map List.take_length Bool.and_eq_true hasRf isRf
  forall_const imp_self Bool.true_eq_false Bool.false_eq_true false_implies implies_true reduceCtorEq
end Go.X
