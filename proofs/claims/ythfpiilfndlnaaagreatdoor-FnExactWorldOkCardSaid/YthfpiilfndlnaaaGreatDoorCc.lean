/- Texts: XSet XDet XPtr. -/
import Derived.Test.YthfpiilfndlnaaaGreatDoorCb
set_option linter.unusedVariables false
set_option linter.unusedSimpArgs false
/- How the small steps are run by rewriting. -/
namespace Go.X
section
variable {α : Type} {Te : Nat → List AV → Res → Prop}
theorem bif_cases {c : Bool} {p q : Prg α} {st : St} {Q : α → St → Prop} (h1 : c = true → runP Te p st Q) (h2 : c = false → runP Te q st Q) : runP Te (bif c then p else q) st Q := by
  cases c
  · exact h2 rfl
  · exact h1 rfl
theorem bifL_cases {c : Bool} {p q : Prg α} {st : St} {rd wr : List Loc} {Q : α → St → List Loc → List Loc → Prop} (h1 : c = true → runL Te p st rd wr Q) (h2 : c = false → runL Te q st rd wr Q) : runL Te (bif c then p else q) st rd wr Q := by
  cases c
  · exact h2 rfl
  · exact h1 rfl
section
variable {s : List (Nat × SV)} {b : List (Nat × List Cel)} {r : List (Nat × List T)} {na base : Nat} {Q : Post}
theorem C_skip : runC Te na base .skip ⟨s, b, r⟩ Q = Q .nrm ⟨s, b, r⟩ := rfl
theorem C_reg {os : List GOp} : runC Te na base (.reg os) ⟨s, b, r⟩ Q = runOps Te os ⟨s, b, r⟩ (Q .nrm) := rfl
theorem C_draw {os : List GOp} {es : List (List Nat)} : runC Te na base (.draw os es) ⟨s, b, r⟩ Q = runDraw Te os ⟨s, b, r⟩ [] (fun st' l => drawOk es l = true ∧ Q .nrm st') := rfl
theorem C_seq {x y : XCode} : runC Te na base (.seq x y) ⟨s, b, r⟩ Q = runC Te na base x ⟨s, b, r⟩ (Then (fun st' => runC Te na base y st' Q) Q) := rfl
theorem C_block {i : Nat} {x : XCode} : runC Te na base (.block i x) ⟨s, b, r⟩ Q = runC Te na base x ⟨s, b, r⟩ (InBlock i Q) := rfl
theorem C_norm {ks : List Nat} {x : XCode} : runC Te na base (.norm ks x) ⟨s, b, r⟩ Q = runC Te na base x (norm na base ks ⟨s, b, r⟩) Q := rfl
theorem C_exit {i : Nat} : runC Te na base (.exit i) ⟨s, b, r⟩ Q = Q (.exit i) ⟨s, b, r⟩ := rfl
theorem C_ret : runC Te na base .ret ⟨s, b, r⟩ Q = Q .ret ⟨s, b, r⟩ := rfl
def condC (v : Option SV) (p q : Prop) : Prop := match v with
  | some (.one (.pv (.bool c))) => (c = true → p) ∧ (c = false → q)
  | _ => False
theorem C_cond {t : Nat} {x y : XCode} : runC Te na base (.cond t x y) ⟨s, b, r⟩ Q = condC (get s t) (runC Te na base x ⟨s, b, r⟩ Q) (runC Te na base y ⟨s, b, r⟩ Q) := rfl
theorem condC_some {c : Bool} {p q : Prop} : condC (some (.one (.pv (.bool c)))) p q = ((c = true → p) ∧ (c = false → q)) := rfl
theorem T_nrm {K : St → Prop} : Then K Q .nrm ⟨s, b, r⟩ = K ⟨s, b, r⟩ := rfl
theorem T_ret {K : St → Prop} : Then K Q .ret ⟨s, b, r⟩ = Q .ret ⟨s, b, r⟩ := rfl
theorem T_exit {K : St → Prop} {i : Nat} : Then K Q (.exit i) ⟨s, b, r⟩ = Q (.exit i) ⟨s, b, r⟩ := rfl
theorem B_nrm {i : Nat} : InBlock i Q .nrm ⟨s, b, r⟩ = Q .nrm ⟨s, b, r⟩ := rfl
theorem B_ret {i : Nat} : InBlock i Q .ret ⟨s, b, r⟩ = Q .ret ⟨s, b, r⟩ := rfl
theorem B_exit {i : Nat} : InBlock i Q (.exit i) ⟨s, b, r⟩ = Q .nrm ⟨s, b, r⟩ := if_pos rfl
theorem B_out {i j : Nat} (h : (j == i) = false) : InBlock i Q (.exit j) ⟨s, b, r⟩ = Q (.exit j) ⟨s, b, r⟩ := if_neg (by simpa using h)
theorem E_nrm {as : List AV} {rs : List RV} {r0 : Res} : EndFn Te as rs r0 .nrm ⟨s, b, r⟩ = runP Te (leaveP as rs) ⟨s, b, r⟩ (fun r _ => r = r0) := by simp [EndFn]
theorem E_ret {as : List AV} {rs : List RV} {r0 : Res} : EndFn Te as rs r0 .ret ⟨s, b, r⟩ = runP Te (leaveP as rs) ⟨s, b, r⟩ (fun r _ => r = r0) := by simp [EndFn]
theorem O_nil {K : St → Prop} : runOps Te [] ⟨s, b, r⟩ K = K ⟨s, b, r⟩ := rfl
theorem O_cons {o : GOp} {os : List GOp} {K : St → Prop} : runOps Te (o :: os) ⟨s, b, r⟩ K = runP Te o.prg ⟨s, b, r⟩ (fun _ st' => runOps Te os st' K) := rfl
theorem D_nil {l : List Log} {K : St → List Log → Prop} : runDraw Te [] ⟨s, b, r⟩ l K = K ⟨s, b, r⟩ l := rfl
theorem D_cons {o : GOp} {os : List GOp} {l : List Log} {K : St → List Log → Prop} : runDraw Te (o :: os) ⟨s, b, r⟩ l K = runL Te o.prg ⟨s, b, r⟩ [] [] (fun _ st' rd wr => runDraw Te os st' (l ++ [(rd, wr)]) K) := rfl
end
section
variable {s : List (Nat × SV)} {b : List (Nat × List Cel)} {r : List (Nat × List T)} {Q : α → St → Prop}
def onSome {β γ : Type} (d : γ) (v : Option β) (f : β → γ) : γ := match v with | some x => f x | none => d
def onNone {β γ : Type} (d : γ) (v : Option β) (f : γ) : γ := match v with | some _ => d | none => f
theorem onSome_some {β γ : Type} {d : γ} {x : β} {f : β → γ} : onSome d (some x) f = f x := rfl
theorem onNone_none {β γ : Type} {d : γ} {f : γ} : onNone d (none : Option β) f = f := rfl
theorem P_done {x : α} : runP Te (.done x) ⟨s, b, r⟩ Q = Q x ⟨s, b, r⟩ := rfl
theorem P_gs {t : Nat} {k : SV → Prg α} : runP Te (.gs t k) ⟨s, b, r⟩ Q = runP Te (k ((get s t).getD .un)) ⟨s, b, r⟩ Q := rfl
theorem P_ss {t : Nat} {v : SV} {k : Prg α} : runP Te (.ss t v k) ⟨s, b, r⟩ Q = runP Te k ⟨put s t v, b, r⟩ Q := rfl
theorem P_gb {t : Nat} {k : List Cel → Prg α} : runP Te (.gb t k) ⟨s, b, r⟩ Q = onSome False (get b t) (fun cs => runP Te (k cs) ⟨s, b, r⟩ Q) := by simp only [runP, onSome, onNone]; cases get b t <;> rfl
theorem P_sb {t : Nat} {v : List Cel} {k : Prg α} : runP Te (.sb t v k) ⟨s, b, r⟩ Q = onSome False (get b t) (fun _ => runP Te k ⟨s, rep b t v, r⟩ Q) := by simp only [runP, onSome, onNone]; cases get b t <;> rfl
theorem P_nb {t : Nat} {v : List Cel} {k : Prg α} : runP Te (.nb t v k) ⟨s, b, r⟩ Q = onNone False (get b t) (runP Te k ⟨s, rep b t v, r⟩ Q) := by simp only [runP, onSome, onNone]; cases get b t <;> rfl
theorem P_gr {t : Nat} {k : List T → Prg α} : runP Te (.gr t k) ⟨s, b, r⟩ Q = onSome False (get r t) (fun cs => runP Te (k cs) ⟨s, b, r⟩ Q) := by simp only [runP, onSome, onNone]; cases get r t <;> rfl
theorem P_sr {t : Nat} {v : List T} {k : Prg α} : runP Te (.sr t v k) ⟨s, b, r⟩ Q = onSome False (get r t) (fun _ => runP Te k ⟨s, b, rep r t v⟩ Q) := by simp only [runP, onSome, onNone]; cases get r t <;> rfl
theorem P_nr {t : Nat} {v : List T} {k : Prg α} : runP Te (.nr t v k) ⟨s, b, r⟩ Q = onNone False (get r t) (runP Te k ⟨s, b, rep r t v⟩ Q) := by simp only [runP, onSome, onNone]; cases get r t <;> rfl
theorem P_chk {c : Bool} {k : Prg α} : runP Te (.chk c k) ⟨s, b, r⟩ Q = (c = true ∧ runP Te k ⟨s, b, r⟩ Q) := rfl
theorem P_ov {o : Option Value} {k : Value → Prg α} : runP Te (.ov o k) ⟨s, b, r⟩ Q = onSome False o (fun v => runP Te (k v) ⟨s, b, r⟩ Q) := by cases o <;> rfl
def CallP (Te : Nat → List AV → Res → Prop) (f : Nat) (as : List AV) (k : Res → Prg α) (st : St) (Q : α → St → Prop) : Prop := ∃ x, Te f as x ∧ runP Te (k x) st Q
theorem P_call {f : Nat} {as : List AV} {k : Res → Prg α} : runP Te (.call f as k) ⟨s, b, r⟩ Q = CallP Te f as k ⟨s, b, r⟩ Q := rfl
theorem CallP.of {f : Nat} {as : List AV} {k : Res → Prg α} {st : St} {x : Res} (h : Te f as x) (hk : runP Te (k x) st Q) : CallP Te f as k st Q := ⟨x, h, hk⟩
theorem P_all {c : St → Bool} {k : Prg α} : runP Te (.all c k) ⟨s, b, r⟩ Q = (c ⟨s, b, r⟩ = true ∧ runP Te k ⟨s, b, r⟩ Q) := rfl
end
section
variable {s : List (Nat × SV)} {b : List (Nat × List Cel)} {r : List (Nat × List T)} {rd wr : List Loc} {Q : α → St → List Loc → List Loc → Prop}
theorem L_done {x : α} : runL Te (.done x) ⟨s, b, r⟩ rd wr Q = Q x ⟨s, b, r⟩ rd wr := rfl
theorem L_gs {t : Nat} {k : SV → Prg α} : runL Te (.gs t k) ⟨s, b, r⟩ rd wr Q = runL Te (k ((get s t).getD .un)) ⟨s, b, r⟩ (.s t :: rd) wr Q := rfl
theorem L_ss {t : Nat} {v : SV} {k : Prg α} : runL Te (.ss t v k) ⟨s, b, r⟩ rd wr Q = runL Te k ⟨put s t v, b, r⟩ rd (.s t :: wr) Q := rfl
theorem L_gb {t : Nat} {k : List Cel → Prg α} : runL Te (.gb t k) ⟨s, b, r⟩ rd wr Q = onSome False (get b t) (fun cs => runL Te (k cs) ⟨s, b, r⟩ (.b t :: rd) wr Q) := by simp only [runL, onSome, onNone]; cases get b t <;> rfl
theorem L_sb {t : Nat} {v : List Cel} {k : Prg α} : runL Te (.sb t v k) ⟨s, b, r⟩ rd wr Q = onSome False (get b t) (fun _ => runL Te k ⟨s, rep b t v, r⟩ (.b t :: rd) (.b t :: wr) Q) := by simp only [runL, onSome, onNone]; cases get b t <;> rfl
theorem L_nb {t : Nat} {v : List Cel} {k : Prg α} : runL Te (.nb t v k) ⟨s, b, r⟩ rd wr Q = onNone False (get b t) (runL Te k ⟨s, rep b t v, r⟩ (.b t :: rd) (.b t :: wr) Q) := by simp only [runL, onSome, onNone]; cases get b t <;> rfl
theorem L_gr {t : Nat} {k : List T → Prg α} : runL Te (.gr t k) ⟨s, b, r⟩ rd wr Q = onSome False (get r t) (fun cs => runL Te (k cs) ⟨s, b, r⟩ (.r t :: rd) wr Q) := by simp only [runL, onSome, onNone]; cases get r t <;> rfl
theorem L_sr {t : Nat} {v : List T} {k : Prg α} : runL Te (.sr t v k) ⟨s, b, r⟩ rd wr Q = onSome False (get r t) (fun _ => runL Te k ⟨s, b, rep r t v⟩ (.r t :: rd) (.r t :: wr) Q) := by simp only [runL, onSome, onNone]; cases get r t <;> rfl
theorem L_nr {t : Nat} {v : List T} {k : Prg α} : runL Te (.nr t v k) ⟨s, b, r⟩ rd wr Q = onNone False (get r t) (runL Te k ⟨s, b, rep r t v⟩ (.r t :: rd) (.r t :: wr) Q) := by simp only [runL, onSome, onNone]; cases get r t <;> rfl
theorem L_chk {c : Bool} {k : Prg α} : runL Te (.chk c k) ⟨s, b, r⟩ rd wr Q = (c = true ∧ runL Te k ⟨s, b, r⟩ rd wr Q) := rfl
theorem L_ov {o : Option Value} {k : Value → Prg α} : runL Te (.ov o k) ⟨s, b, r⟩ rd wr Q = onSome False o (fun v => runL Te (k v) ⟨s, b, r⟩ rd wr Q) := by cases o <;> rfl
def CallL (Te : Nat → List AV → Res → Prop) (f : Nat) (as : List AV) (k : Res → Prg α) (st : St) (rd wr : List Loc) (Q : α → St → List Loc → List Loc → Prop) : Prop := ∃ x, Te f as x ∧ runL Te (k x) st rd wr Q
theorem L_call {f : Nat} {as : List AV} {k : Res → Prg α} : runL Te (.call f as k) ⟨s, b, r⟩ rd wr Q = CallL Te f as k ⟨s, b, r⟩ rd wr Q := rfl
theorem CallL.of {f : Nat} {as : List AV} {k : Res → Prg α} {st : St} {x : Res} (h : Te f as x) (hk : runL Te (k x) st rd wr Q) : CallL Te f as k st rd wr Q := ⟨x, h, hk⟩
end
end
/-- A loop, told by what is the same in each round. -/
theorem loop_of {Te : Nat → List AV → Res → Prop} {σ : Type} (f : σ → St) (inv : σ → Prop) (μ : σ → Nat) (x0 : σ) {na base : Nat} {ks : List Nat} {x : XCode} {st : St} {Q : Post} (h0 : norm na base ks st = f x0) (h1 : inv x0)
    (hr : ∀ y, inv y → runC Te na base x (f y) (Then (fun s' => ∃ z, norm na base ks s' = f z ∧ inv z ∧ μ z < μ y) Q)) : runC Te na base (.loop ks x) st Q := by
  refine ⟨fun k s => ∃ y, s = f y ∧ inv y ∧ μ y = k, μ x0, ⟨x0, h0, h1, rfl⟩, ?_⟩
  rintro k s ⟨y, rfl, h2, rfl⟩
  have e : (Then (fun s' => ∃ z, norm na base ks s' = f z ∧ inv z ∧ μ z < μ y) Q) = Then (fun s' => ∃ k', k' < μ y ∧ ∃ z, norm na base ks s' = f z ∧ inv z ∧ μ z = k') Q := by
    funext ex s
    cases ex with
    | nrm => exact propext ⟨fun ⟨z, q1, q2, q3⟩ => ⟨_, q3, z, q1, q2, rfl⟩, fun ⟨_, q3, z, q1, q2, q4⟩ => ⟨z, q1, q2, by omega⟩⟩
    | _ => rfl
  have := hr y h2
  rw [e] at this
  exact this
/-- A range over a string, told by what is the same in each round. -/
theorem rng_of {Te : Nat → List AV → Res → Prop} {σ : Type} (s : ByteArray) (f : Nat → σ → St) (inv : Nat → σ → Prop) (x0 : σ) {na base B src ta tb tc td : Nat} {ks : List Nat} {x : XCode} {st : St} {Q : Post} (hs : get st.s src = some (.one (.pv (.string s)))) (hb : st.b = [])
    (h0 : ∀ r, norm na base ks (rngIn st ta tb r s) = f r x0) (h1 : inv 0 x0) (hf : ∀ r y, (f r y).b = [] ∧ get (f r y).s tb = some (itV r))
    (hr : ∀ r p y, inv p y → p < s.size → runC Te na base x (rngOn (f r y) tc td p (Utf8.decode s p).1) (Then (fun s' => ∃ z, norm na base ks s' = f r z ∧ inv (p + (Utf8.decode s p).2) z) (InBlock B Q)))
    (ho : ∀ r p y, inv p y → s.size ≤ p → Q .nrm (rngOff (f r y) tc td)) : runC Te na base (.rng B src ta tb tc td ks x) st Q := by
  unfold runC
  rw [hs]
  refine ⟨hb, fun r p s1 => ∃ y, s1 = f r y ∧ inv p y, fun r => ⟨x0, h0 r, h1⟩, ?_, ?_, ?_⟩
  · rintro r p s1 ⟨y, rfl, _⟩
    exact hf r y
  · rintro r p s1 ⟨y, rfl, hi⟩ hp
    have := hr r p y hi hp
    have e : (Then (fun s' => ∃ z, norm na base ks s' = f r z ∧ inv (p + (Utf8.decode s p).2) z) (InBlock B Q)) = Then (fun s' => ∃ y, norm na base ks s' = f r y ∧ inv (p + (Utf8.decode s p).2) y) (InBlock B Q) := rfl
    rw [e] at this
    exact this
  · rintro r p s1 ⟨y, rfl, hi⟩ hp
    exact ho r p y hi hp
theorem lentLL_map {α : Type} (f : α → List T) : ∀ l : List α, lentLL (l.map f) = l.map fun x => lentL (f x)
  | [] => rfl
  | x :: l => by simp only [List.map_cons, lentLL, lentLL_map f l]
theorem wholeLL_map {α : Type} (f : α → List T) : ∀ l : List α, wholeLL (l.map f) = l.all fun x => wholeL (f x)
  | [] => rfl
  | x :: l => by simp only [List.map_cons, wholeLL, wholeLL_map f l, List.all_cons]
theorem noRoLL_map {α : Type} (f : α → List T) : ∀ l : List α, noRoLL (l.map f) = l.all fun x => noRoL (f x)
  | [] => rfl
  | x :: l => by simp only [List.map_cons, noRoLL, noRoLL_map f l, List.all_cons]
theorem flat_map {α : Type} (f : α → List T) : ∀ l : List α, flat (l.map f) = l.all fun x => (f x).all isPv
  | [] => rfl
  | x :: l => by simp only [List.map_cons, flat, flat_map f l, List.all_cons]
theorem flat_nil {τ : Type} : flat (τ := τ) [] = true := rfl
theorem flat_cons {τ : Type} (r : List (Tr τ)) (rs : List (List (Tr τ))) : flat (r :: rs) = (r.all isPv && flat rs) := rfl
theorem flat_append {τ : Type} : ∀ (r s : List (List (Tr τ))), flat (r ++ s) = (flat r && flat s)
  | [], s => rfl
  | a :: r, s => by rw [List.cons_append, flat_cons, flat_cons, flat_append r s, Bool.and_assoc]
theorem all_yes {α : Type} (l : List α) : (l.all fun _ => true) = true := by simp
theorem N_norm {na base : Nat} {ks : List Nat} {s : List (Nat × SV)} {b : List (Nat × List Cel)} {r : List (Nat × List T)} : norm na base ks ⟨s, b, r⟩ = normS na base ⟨s, b, r⟩ (pickS s ks) := rfl
theorem take_map {α β : Type} (f : α → β) (l : List α) : (l.map f).take l.length = l.map f := by rw [List.take_of_length_le (by simp)]
theorem bI_add (k : IntKind) (a b : Int) : binV .add (.int k a) (.int k b) = some (.int k (k.wrap (a + b))) := by simp [binV]
theorem bI_sub (k : IntKind) (a b : Int) : binV .sub (.int k a) (.int k b) = some (.int k (k.wrap (a - b))) := by simp [binV]
theorem bI_mul (k : IntKind) (a b : Int) : binV .mul (.int k a) (.int k b) = some (.int k (k.wrap (a * b))) := by simp [binV]
theorem bI_eql (k : IntKind) (a b : Int) : binV .eql (.int k a) (.int k b) = some (.bool (a == b)) := by simp [binV]
theorem bI_neq (k : IntKind) (a b : Int) : binV .neq (.int k a) (.int k b) = some (.bool (a != b)) := by simp [binV]
theorem bI_lss (k : IntKind) (a b : Int) : binV .lss (.int k a) (.int k b) = some (.bool (decide (a < b))) := by simp [binV]
theorem bI_leq (k : IntKind) (a b : Int) : binV .leq (.int k a) (.int k b) = some (.bool (decide (a ≤ b))) := by simp [binV]
theorem bI_gtr (k : IntKind) (a b : Int) : binV .gtr (.int k a) (.int k b) = some (.bool (decide (a > b))) := by simp [binV]
theorem bI_geq (k : IntKind) (a b : Int) : binV .geq (.int k a) (.int k b) = some (.bool (decide (a ≥ b))) := by simp [binV]
/-- A function behind a name that is never unfolded. -/
theorem some_fn (f : IntKind → Int → Int → Int) : ∃ g, g = f := ⟨f, rfl⟩
noncomputable def andK : IntKind → Int → Int → Int := Classical.choose (some_fn fun k a b => k.wrap (BitVec.ofInt k.bits a &&& BitVec.ofInt k.bits b).toNat)
theorem andK_def (k : IntKind) (a b : Int) : andK k a b = k.wrap (BitVec.ofInt k.bits a &&& BitVec.ofInt k.bits b).toNat := congrFun (congrFun (congrFun (Classical.choose_spec (some_fn fun k a b => k.wrap (BitVec.ofInt k.bits a &&& BitVec.ofInt k.bits b).toNat)) k) a) b
theorem bI_and (k : IntKind) (a b : Int) : binV .and (.int k a) (.int k b) = some (.int k (andK k a b)) := by simp [binV, andK_def]
noncomputable def orK : IntKind → Int → Int → Int := Classical.choose (some_fn fun k a b => k.wrap (BitVec.ofInt k.bits a ||| BitVec.ofInt k.bits b).toNat)
theorem orK_def (k : IntKind) (a b : Int) : orK k a b = k.wrap (BitVec.ofInt k.bits a ||| BitVec.ofInt k.bits b).toNat := congrFun (congrFun (congrFun (Classical.choose_spec (some_fn fun k a b => k.wrap (BitVec.ofInt k.bits a ||| BitVec.ofInt k.bits b).toNat)) k) a) b
theorem bI_or (k : IntKind) (a b : Int) : binV .or (.int k a) (.int k b) = some (.int k (orK k a b)) := by simp [binV, orK_def]
noncomputable def xorK : IntKind → Int → Int → Int := Classical.choose (some_fn fun k a b => k.wrap (BitVec.ofInt k.bits a ^^^ BitVec.ofInt k.bits b).toNat)
theorem xorK_def (k : IntKind) (a b : Int) : xorK k a b = k.wrap (BitVec.ofInt k.bits a ^^^ BitVec.ofInt k.bits b).toNat := congrFun (congrFun (congrFun (Classical.choose_spec (some_fn fun k a b => k.wrap (BitVec.ofInt k.bits a ^^^ BitVec.ofInt k.bits b).toNat)) k) a) b
theorem bI_xor (k : IntKind) (a b : Int) : binV .xor (.int k a) (.int k b) = some (.int k (xorK k a b)) := by simp [binV, xorK_def]
theorem bI_quo (k : IntKind) (a b : Int) : binV .quo (.int k a) (.int k b) = bif !(b == 0) then some (.int k (k.wrap (a.tdiv b))) else none := by simp [binV]
theorem bI_rem (k : IntKind) (a b : Int) : binV .rem (.int k a) (.int k b) = bif !(b == 0) then some (.int k (a.tmod b)) else none := by simp [binV]
theorem bI_shl (k k' : IntKind) (a b : Int) : binV .shl (.int k a) (.int k' b) = bif decide (0 ≤ b) then some (.int k (k.wrap (a * 2 ^ (Nat.min b.toNat k.bits)))) else none := by simp [binV]
theorem bI_shr (k k' : IntKind) (a b : Int) : binV .shr (.int k a) (.int k' b) = bif decide (0 ≤ b) then some (.int k (a.fdiv (2 ^ (Nat.min b.toNat k.bits)))) else none := by simp [binV]
theorem bytes_beq (a b : ByteArray) : (a.toList == b.toList) = decide (a = b) := by
  rcases a with ⟨⟨a⟩⟩
  rcases b with ⟨⟨b⟩⟩
  by_cases h : a = b
  · subst h; simp
  · have : ¬ (ByteArray.toList ⟨⟨a⟩⟩ = ByteArray.toList ⟨⟨b⟩⟩) := by
      rw [ByteArray.toList_eq, ByteArray.toList_eq]
      exact h
    rw [decide_eq_false (by simpa using h)]
    simpa using this
theorem bS_eql (a b : ByteArray) : binV .eql (.string a) (.string b) = some (.bool (decide (a = b))) := by simp [binV, ← bytes_beq]
theorem bS_neq (a b : ByteArray) : binV .neq (.string a) (.string b) = some (.bool (!decide (a = b))) := by simp [binV, ← bytes_beq]
theorem bS_lss (a b : ByteArray) : binV .lss (.string a) (.string b) = some (.bool (Op.bytesLess a.toList b.toList)) := by simp [binV]
theorem bS_leq (a b : ByteArray) : binV .leq (.string a) (.string b) = some (.bool (Op.bytesLess a.toList b.toList || a.toList == b.toList)) := by simp [binV]
theorem bS_gtr (a b : ByteArray) : binV .gtr (.string a) (.string b) = some (.bool (!(Op.bytesLess a.toList b.toList || a.toList == b.toList))) := by simp [binV]
theorem bS_geq (a b : ByteArray) : binV .geq (.string a) (.string b) = some (.bool (!Op.bytesLess a.toList b.toList)) := by simp [binV]
theorem bS_add (a b : ByteArray) : binV .add (.string a) (.string b) = bif decide (a.size + b.size ≤ 4294967296) then some (.string (a ++ b)) else none := by simp [binV]
theorem rows_sl {τ : Type} {o : Bool} {z : Nat} {h : τ} {rs : List (List (Tr τ))} : Tr.rows (.sl o z h rs) = rs := rfl
theorem lenB {α : Type} (l : List α) : decide (l.length ≤ l.length) = true := by simp
theorem condC_true {p q : Prop} : condC (some (.one (.pv (.bool true)))) p q = p := by simp [condC]
theorem condC_false {p q : Prop} : condC (some (.one (.pv (.bool false)))) p q = q := by simp [condC]
theorem condC_congr {v v' : Option SV} {p q : Prop} (h : v = v') : condC v p q = condC v' p q := by rw [h]
theorem cond_congr {β : Type} {c c' : Bool} {p q : β} (h : c = c') : cond c p q = cond c' p q := by rw [h]
theorem onSome_congr {β γ : Type} {d : γ} {v v' : Option β} {f : β → γ} (h : v = v') : onSome d v f = onSome d v' f := by rw [h]
theorem onNone_congr {β γ : Type} {d : γ} {v v' : Option β} {f : γ} (h : v = v') : onNone d v f = onNone d v' f := by rw [h]
attribute [congr] condC_congr cond_congr onSome_congr onNone_congr
theorem imp_tb {c b : Bool} : (c = b → True) = True := by simp
theorem get_hit {α : Type} {l : List (Nat × α)} {k : Nat} {v : α} : get ((k, v) :: l) k = some v := by simp [get]
attribute [go_sem ↓] get_hit
attribute [go_sem high] condC_true condC_false
attribute [go_sem] imp_tb
attribute [go_sem ↓] C_skip C_reg C_draw C_seq C_block C_norm C_exit C_ret C_cond T_nrm T_ret T_exit B_nrm B_ret B_exit B_out E_nrm E_ret O_nil O_cons D_nil D_cons P_done P_gs P_ss P_gb P_sb P_nb P_gr P_sr P_nr P_chk P_ov P_call P_all
  L_done L_gs L_ss L_gb L_sb L_nb L_gr L_sr L_nr L_chk L_ov L_call
attribute [go_sem] bI_add bI_sub bI_mul bI_eql bI_neq bI_lss bI_leq bI_gtr bI_geq bI_and bI_or bI_xor bI_quo bI_rem bI_shl bI_shr bS_eql bS_neq bS_lss bS_leq bS_gtr bS_geq bS_add
attribute [go_sem] rows_sl noLower lower SV.lower N_norm lentLL_map wholeLL_map noRoLL_map flat_map flat_nil flat_cons flat_append all_yes List.all_map List.getElem?_map Int.toNat_natCast Int.natCast_nonneg Function.comp_def isPv takeRows List.length_map List.length_replicate List.length_append condC_some onSome_some onNone_none GOp.prg COp.prg Opd.ev evL evPs enterSt enterS enterB enterR slotOf celOf plant get rep put fin cond_true cond_false Option.getD_some Option.getD_none AV.ts AV.slot
  nat? opt? withCels SV.cels takeC takeL lendC lendL node putAt fillC lentOwn passOwn passLend callP backP slotsP slots boxesOf loneN ptrOuts ioP plains plainV takeW takeWs keyOf lone backC backL newSl srcP appP readR readO leaveP leaveR leaveO resV goneC wholeLL wholeL whole noRoL noRo noRoLL lentLL lentL lent
  normS normB normWith pickS keepB olds idx renR renC renV renVs refC refV refVs boxV boxVs argR newR
  List.length_cons List.length_nil Nat.reduceAdd Nat.reduceMul Nat.reduceBEq beq_self_eq_true Nat.reduceLT Nat.reduceLeDiff Int.reduceLE Int.reduceLT Int.reduceToNat Int.reduceBEq decide_true decide_false Bool.or_true Bool.or_false Bool.true_or Bool.false_or Bool.and_true Bool.true_and Bool.and_false Bool.false_and Bool.not_true Bool.not_false
  beq_true beq_false true_and and_true List.nil_append List.cons_append List.append_nil List.map_cons List.map_nil List.flatMap_cons List.flatMap_nil Option.bind_some Option.bind_none Option.map_some Option.map_none
  List.take_succ_cons List.drop_succ_cons List.take_zero List.drop_zero List.take_nil List.drop_nil List.getElem?_cons_zero List.getElem?_cons_succ List.getElem?_nil List.getD_cons_zero List.getD_cons_succ List.contains_cons List.contains_nil Nat.reduceSub Nat.zero_add Nat.add_zero
  List.set_cons_zero List.set_cons_succ atP setP List.zipIdx_cons List.all_cons List.all_nil List.any_cons List.any_nil lenB take_map List.take_length Bool.and_eq_true hasRf isRf
  Bool.true_eq_false Bool.false_eq_true reduceCtorEq
end Go.X

/- What is so behind code is so of one end: existence can be drawn out. -/
namespace Go.X
section
variable {α : Type} {Te : Nat → List AV → Res → Prop}
theorem runP_det : ∀ (p : Prg α) (st : St) (Q : α → St → Prop), runP Te p st Q → ∃ a st', Q a st' ∧ ∀ Q' : α → St → Prop, Q' a st' → runP Te p st Q'
  | .done a, st, Q, h => ⟨a, st, h, fun _ h => h⟩
  | .fail, st, Q, h => h.elim
  | .gs t k, st, Q, h => runP_det (k _) st Q h
  | .ss t v k, st, Q, h => runP_det k _ Q h
  | .gb t k, st, Q, h => by
    simp only [runP] at h ⊢
    split at h
    · exact runP_det (k _) st Q h
    · exact h.elim
  | .sb t v k, st, Q, h => by
    simp only [runP] at h ⊢
    split at h
    · exact runP_det k _ Q h
    · exact h.elim
  | .nb t v k, st, Q, h => by
    simp only [runP] at h ⊢
    split at h
    · exact h.elim
    · exact runP_det k _ Q h
  | .gr t k, st, Q, h => by
    simp only [runP] at h ⊢
    split at h
    · exact runP_det (k _) st Q h
    · exact h.elim
  | .sr t v k, st, Q, h => by
    simp only [runP] at h ⊢
    split at h
    · exact runP_det k _ Q h
    · exact h.elim
  | .nr t v k, st, Q, h => by
    simp only [runP] at h ⊢
    split at h
    · exact h.elim
    · exact runP_det k _ Q h
  | .chk c k, st, Q, h => by
    obtain ⟨a, st', h1, h2⟩ := runP_det k st Q h.2
    exact ⟨a, st', h1, fun Q' q => ⟨h.1, h2 Q' q⟩⟩
  | .ov none k, st, Q, h => h.elim
  | .ov (some v) k, st, Q, h => runP_det (k v) st Q h
  | .call f as k, st, Q, h => by
    obtain ⟨r, hr, h⟩ := h
    obtain ⟨a, st', h1, h2⟩ := runP_det (k r) st Q h
    exact ⟨a, st', h1, fun Q' q => ⟨r, hr, h2 Q' q⟩⟩
  | .all c k, st, Q, h => by
    obtain ⟨a, st', h1, h2⟩ := runP_det k st Q h.2
    exact ⟨a, st', h1, fun Q' q => ⟨h.1, h2 Q' q⟩⟩
theorem runL_det : ∀ (p : Prg α) (st : St) (rd wr : List Loc) (Q : α → St → List Loc → List Loc → Prop), runL Te p st rd wr Q → ∃ a st' rd' wr', Q a st' rd' wr' ∧ ∀ Q' : α → St → List Loc → List Loc → Prop, Q' a st' rd' wr' → runL Te p st rd wr Q'
  | .done a, st, rd, wr, Q, h => ⟨a, st, rd, wr, h, fun _ h => h⟩
  | .fail, st, rd, wr, Q, h => h.elim
  | .gs t k, st, rd, wr, Q, h => runL_det (k _) st _ _ Q h
  | .ss t v k, st, rd, wr, Q, h => runL_det k _ _ _ Q h
  | .gb t k, st, rd, wr, Q, h => by
    simp only [runL] at h ⊢
    split at h
    · exact runL_det (k _) st _ _ Q h
    · exact h.elim
  | .sb t v k, st, rd, wr, Q, h => by
    simp only [runL] at h ⊢
    split at h
    · exact runL_det k _ _ _ Q h
    · exact h.elim
  | .nb t v k, st, rd, wr, Q, h => by
    simp only [runL] at h ⊢
    split at h
    · exact h.elim
    · exact runL_det k _ _ _ Q h
  | .gr t k, st, rd, wr, Q, h => by
    simp only [runL] at h ⊢
    split at h
    · exact runL_det (k _) st _ _ Q h
    · exact h.elim
  | .sr t v k, st, rd, wr, Q, h => by
    simp only [runL] at h ⊢
    split at h
    · exact runL_det k _ _ _ Q h
    · exact h.elim
  | .nr t v k, st, rd, wr, Q, h => by
    simp only [runL] at h ⊢
    split at h
    · exact h.elim
    · exact runL_det k _ _ _ Q h
  | .chk c k, st, rd, wr, Q, h => by
    obtain ⟨a, st', rd', wr', h1, h2⟩ := runL_det k st _ _ Q h.2
    exact ⟨a, st', rd', wr', h1, fun Q' q => ⟨h.1, h2 Q' q⟩⟩
  | .ov none k, st, rd, wr, Q, h => h.elim
  | .ov (some v) k, st, rd, wr, Q, h => runL_det (k v) st _ _ Q h
  | .call f as k, st, rd, wr, Q, h => by
    obtain ⟨r, hr, h⟩ := h
    obtain ⟨a, st', rd', wr', h1, h2⟩ := runL_det (k r) st _ _ Q h
    exact ⟨a, st', rd', wr', h1, fun Q' q => ⟨r, hr, h2 Q' q⟩⟩
  | .all c k, st, rd, wr, Q, h => h.elim
theorem runOps_det : ∀ (os : List GOp) (st : St) (Q : St → Prop), runOps Te os st Q → ∃ st', Q st' ∧ ∀ Q' : St → Prop, Q' st' → runOps Te os st Q'
  | [], st, Q, h => ⟨st, h, fun _ h => h⟩
  | o :: os, st, Q, h => by
    obtain ⟨a, s1, h1, h2⟩ := runP_det _ _ _ h
    obtain ⟨s2, h3, h4⟩ := runOps_det os s1 Q h1
    exact ⟨s2, h3, fun Q' q => h2 _ (h4 Q' q)⟩
theorem runDraw_det : ∀ (os : List GOp) (st : St) (l : List Log) (Q : St → List Log → Prop), runDraw Te os st l Q → ∃ st' l', Q st' l' ∧ ∀ Q' : St → List Log → Prop, Q' st' l' → runDraw Te os st l Q'
  | [], st, l, Q, h => ⟨st, l, h, fun _ h => h⟩
  | o :: os, st, l, Q, h => by
    obtain ⟨a, s1, rd, wr, h1, h2⟩ := runL_det _ _ _ _ _ h
    obtain ⟨s2, l2, h3, h4⟩ := runDraw_det os s1 _ Q h1
    exact ⟨s2, l2, h3, fun Q' q => h2 _ (h4 Q' q)⟩
/-- It has no range over a string. -/
def noRng : XCode → Bool
  | .seq a b => noRng a && noRng b
  | .cond _ a b => noRng a && noRng b
  | .block _ a => noRng a
  | .loop _ a => noRng a
  | .norm _ a => noRng a
  | .rng .. => false
  | _ => true
theorem runC_det {na base : Nat} : ∀ (x : XCode) (st : St) (Q : Post), noRng x = true → runC Te na base x st Q → ∃ ex st', Q ex st' ∧ ∀ Q' : Post, Q' ex st' → runC Te na base x st Q'
  | .skip, st, Q, _, h => ⟨.nrm, st, h, fun _ h => h⟩
  | .reg os, st, Q, _, h => by
    obtain ⟨s, h1, h2⟩ := runOps_det os st _ h
    exact ⟨.nrm, s, h1, fun Q' q => h2 _ q⟩
  | .draw os es, st, Q, _, h => by
    obtain ⟨s, l, h1, h2⟩ := runDraw_det os st _ _ h
    exact ⟨.nrm, s, h1.2, fun Q' q => h2 _ ⟨h1.1, q⟩⟩
  | .seq a b, st, Q, hn, h => by
    simp only [noRng, Bool.and_eq_true] at hn
    obtain ⟨ex, s, h1, h2⟩ := runC_det a st _ hn.1 h
    cases ex with
    | nrm =>
      obtain ⟨ex2, s2, h3, h4⟩ := runC_det b s Q hn.2 h1
      exact ⟨ex2, s2, h3, fun Q' q => h2 _ (h4 Q' q)⟩
    | exit i => exact ⟨_, s, h1, fun Q' q => h2 _ q⟩
    | ret => exact ⟨_, s, h1, fun Q' q => h2 _ q⟩
  | .cond t a b, st, Q, hn, h => by
    simp only [noRng, Bool.and_eq_true] at hn
    simp only [runC] at h ⊢
    split at h
    · rename_i c hc
      cases c with
      | true =>
        obtain ⟨ex, s, h1, h2⟩ := runC_det a st Q hn.1 (h.1 rfl)
        exact ⟨ex, s, h1, fun Q' q => ⟨fun _ => h2 Q' q, fun e => Bool.noConfusion e⟩⟩
      | false =>
        obtain ⟨ex, s, h1, h2⟩ := runC_det b st Q hn.2 (h.2 rfl)
        exact ⟨ex, s, h1, fun Q' q => ⟨fun e => Bool.noConfusion e, fun _ => h2 Q' q⟩⟩
    · exact h.elim
  | .block id a, st, Q, hn, h => by
    simp only [noRng] at hn
    obtain ⟨ex, s, h1, h2⟩ := runC_det a st _ hn h
    cases ex with
    | nrm => exact ⟨_, s, h1, fun Q' q => h2 _ q⟩
    | ret => exact ⟨_, s, h1, fun Q' q => h2 _ q⟩
    | exit i =>
      by_cases e : i = id
      · exact ⟨.nrm, s, by simpa only [InBlock, if_pos e] using h1, fun Q' q => h2 _ (by simpa only [InBlock, if_pos e] using q)⟩
      · exact ⟨.exit i, s, by simpa only [InBlock, if_neg e] using h1, fun Q' q => h2 _ (by simpa only [InBlock, if_neg e] using q)⟩
  | .loop ks a, st, Q, hn, h => by
    simp only [noRng] at hn
    obtain ⟨I, m, h0, hr⟩ := h
    have mono : ∀ (s : St) (Q1 Q2 : Post), runC Te na base a s Q1 → (∀ e s, Q1 e s → Q2 e s) → runC Te na base a s Q2 := fun s Q1 Q2 q1 q2 => by
      obtain ⟨e, s', q3, q4⟩ := runC_det a s Q1 hn q1
      exact q4 Q2 (q2 _ _ q3)
    have key : ∀ (n k : Nat), k < n → ∀ s, I k s → ∃ ex st', Q ex st' ∧ ∀ Q' : Post, Q' ex st' → ∃ (J : Nat → St → Prop) (m : Nat), J m s ∧ ∀ k s, J k s → runC Te na base a s (Then (fun s' => ∃ k', k' < k ∧ J k' (norm na base ks s')) Q') := by
      intro n
      induction n with
      | zero => intro k hk; omega
      | succ n ih =>
        intro k hk s hs
        obtain ⟨ex, s1, q1, q2⟩ := runC_det a s _ hn (hr k s hs)
        cases ex with
        | nrm =>
          obtain ⟨k', q3, q4⟩ := q1
          obtain ⟨ex2, s2, q5, q6⟩ := ih k' (by omega) _ q4
          refine ⟨ex2, s2, q5, fun Q' q => ?_⟩
          obtain ⟨J, m', q7, q8⟩ := q6 Q' q
          refine ⟨fun k s0 => J k s0 ∨ (k = m' + 1 ∧ s0 = s), m' + 1, .inr ⟨rfl, rfl⟩, ?_⟩
          rintro k0 s0 (q9 | ⟨rfl, rfl⟩)
          · refine mono _ _ _ (q8 k0 s0 q9) (fun e s q => ?_)
            cases e with
            | nrm => obtain ⟨k', z1, z2⟩ := q; exact ⟨k', z1, .inl z2⟩
            | exit i => exact q
            | ret => exact q
          · exact q2 _ ⟨m', by omega, .inl q7⟩
        | exit i => exact ⟨_, s1, q1, fun Q' q => ⟨fun k s0 => s0 = s, 0, rfl, fun k s0 e => by subst e; exact q2 _ q⟩⟩
        | ret => exact ⟨_, s1, q1, fun Q' q => ⟨fun k s0 => s0 = s, 0, rfl, fun k s0 e => by subst e; exact q2 _ q⟩⟩
    exact key (m + 1) m (by omega) _ h0
  | .norm ks a, st, Q, hn, h => runC_det a _ Q (by simpa only [noRng] using hn) h
  | .rng .., st, Q, hn, h => by simp [noRng] at hn
  | .exit id, st, Q, _, h => ⟨_, st, h, fun _ h => h⟩
  | .ret, st, Q, _, h => ⟨_, st, h, fun _ h => h⟩
end
/-- A function's end, where more than one answer is good. -/
def EndFnE (Te : Nat → List AV → Res → Prop) (as : List AV) (rs : List RV) (R : Res → Prop) : Post := fun ex st => (ex = .nrm ∨ ex = .ret) ∧ runP Te (leaveP as rs) st (fun r _ => R r)
theorem EE_nrm {Te : Nat → List AV → Res → Prop} {as : List AV} {rs : List RV} {R : Res → Prop} {s : List (Nat × SV)} {b : List (Nat × List Cel)} {r : List (Nat × List T)} : EndFnE Te as rs R .nrm ⟨s, b, r⟩ = runP Te (leaveP as rs) ⟨s, b, r⟩ (fun r _ => R r) := by simp [EndFnE]
theorem EE_ret {Te : Nat → List AV → Res → Prop} {as : List AV} {rs : List RV} {R : Res → Prop} {s : List (Nat × SV)} {b : List (Nat × List Cel)} {r : List (Nat × List T)} : EndFnE Te as rs R .ret ⟨s, b, r⟩ = runP Te (leaveP as rs) ⟨s, b, r⟩ (fun r _ => R r) := by simp [EndFnE]
attribute [go_sem ↓] EE_nrm EE_ret
theorem some_of {Te : Nat → List AV → Res → Prop} {x : FnX} {as : List AV} {R : Res → Prop} (h1 : as.length ≤ x.n) (hn : noRng x.code = true) (h : runC Te as.length (x.n + as.length) x.code (enterSt as) (EndFnE Te as x.rs R)) : ∃ r0, R r0 ∧ RunFn Te x as r0 := by
  obtain ⟨ex, st, ⟨h2, h3⟩, h4⟩ := runC_det _ _ _ hn h
  obtain ⟨r, st', h5, h6⟩ := runP_det _ _ _ h3
  exact ⟨r, h5, h1, h4 _ ⟨h2, h6 _ rfl⟩⟩
end Go.X

/- Functions that hand back a pointer to what they have made. -/
namespace Go.X
structure FnP where
  n : Nat
  t : Nat
  code : XCode
def fnPOk (P : Program) (f : Nat) (x : FnP) : Bool :=
  match P.funcs[f]? with
  | some fn => fn.ntmps == x.n && (match fn.results.toList with | [.tmp t] => t == x.t | _ => false) && (match fn.body with
    | some c => codeOk P x.n c x.code
    | none => false)
  | none => false
def EndFnP (Te : Nat → List AV → Res → Prop) (as : List AV) (t : Nat) (R : Res → Prop) : Post := fun ex st => (ex = .nrm ∨ ex = .ret) ∧ runP Te (leavePtr as t) st (fun r _ => R r)
def RunFnP (Te : Nat → List AV → Res → Prop) (x : FnP) (as : List AV) (R : Res → Prop) : Prop :=
  as.length ≤ x.n ∧ runC Te as.length (x.n + as.length) x.code (enterSt as) (EndFnP Te as x.t R)
theorem EP_nrm {Te : Nat → List AV → Res → Prop} {as : List AV} {t : Nat} {R : Res → Prop} {s : List (Nat × SV)} {b : List (Nat × List Cel)} {r : List (Nat × List T)} : EndFnP Te as t R .nrm ⟨s, b, r⟩ = runP Te (leavePtr as t) ⟨s, b, r⟩ (fun r _ => R r) := by simp [EndFnP]
theorem EP_ret {Te : Nat → List AV → Res → Prop} {as : List AV} {t : Nat} {R : Res → Prop} {s : List (Nat × SV)} {b : List (Nat × List Cel)} {r : List (Nat × List T)} : EndFnP Te as t R .ret ⟨s, b, r⟩ = runP Te (leavePtr as t) ⟨s, b, r⟩ (fun r _ => R r) := by simp [EndFnP]
attribute [go_sem ↓] EP_nrm EP_ret
attribute [go_sem] leavePtr
theorem some_ofP {Te : Nat → List AV → Res → Prop} {x : FnP} {as : List AV} {R : Res → Prop} (hn : noRng x.code = true) (h : RunFnP Te x as R) : ∃ r0, R r0 ∧ RunFnP Te x as (fun r => r = r0) := by
  obtain ⟨h1, h⟩ := h
  obtain ⟨ex, st, ⟨h2, h3⟩, h4⟩ := runC_det _ _ _ hn h
  obtain ⟨r, st', h5, h6⟩ := runP_det _ _ _ h3
  exact ⟨r, h5, h1, h4 _ ⟨h2, h6 _ rfl⟩⟩
theorem tellsP {P : Program} {KP : Kept} {f : Nat} {x : FnP} {as : List AV} {r0 : Res} (hm : P.follows .mixedOrders = true) (hf : fnPOk P f x = true) (h : RunFnP (Tells P KP) x as (fun r => r = r0)) : Tells P KP f as r0 := by
  unfold fnPOk at hf
  split at hf
  · rename_i fn hfn
    simp only [Bool.and_eq_true, beq_iff_eq] at hf
    obtain ⟨⟨h1, h2⟩, h3⟩ := hf
    split at h3
    · rename_i c hc
      split at h2
      · rename_i t ht
        simp only [beq_iff_eq] at h2
        subst h2
        rw [← h1] at h3
        obtain ⟨h4, h5⟩ := h
        have hr : fn.results = #[.tmp x.t] := by
          apply Array.toList_inj.1
          rw [ht]
        refine Tells.ofPtr hfn hc (by omega) hr fun X eX hX => by subst eX; exact runC_ok hm hX (by omega) _ _ h3 h5
      · cases h2
    · cases h3
  · cases hf
end Go.X

