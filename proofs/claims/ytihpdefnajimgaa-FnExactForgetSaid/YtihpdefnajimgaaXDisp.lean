/- Which small steps an operation of the program takes: held by reckoning. -/
import Derived.Test.YtihpdefnajimgaaXIo2
namespace Go.X
def intO : Operand → Operand → Bool
  | .tmp i, .tmp j => i == j
  | .const (.int k a), .const (.int k' b) => k == k' && a == b
  | _, _ => false
def optB : Option Operand → Option Opd → Bool
  | none, none => true
  | some x, some y => opdOk x y
  | _, _ => false
def zeroC (P : Program) (e : TypeId) (z : List Cel) : Bool :=
  match P.info? e with
  | some ti => (match ti.zero with
    | some zv => constL zv.cells.toList z
    | none => false)
  | none => false
def zeroT (P : Program) (e : TypeId) (z bytes : Nat) (zc : List T) : Bool :=
  match P.info? e with
  | some ti => (match ti.zero with
    | some zv => ti.size == z && ti.bytes == bytes && zv.cells.size == z && decide (0 < z) && constTs zv.cells.toList zc
    | none => false)
  | none => false
def elemT (P : Program) (e : TypeId) (z bytes : Nat) : Bool :=
  match P.info? e with
  | some ti => (match ti.zero with
    | some zv => ti.size == z && ti.bytes == bytes && zv.cells.size == z && decide (0 < z)
    | none => false)
  | none => false
def sizeT (P : Program) (e : TypeId) (z : Nat) : Bool :=
  match P.info? e with
  | some ti => ti.size == z && decide (0 < z)
  | none => false
def isStr (P : Program) (t : TypeId) : Bool :=
  match P.underlying t with
  | some .string => true
  | _ => false
def isBool (P : Program) (t : TypeId) : Bool :=
  match P.underlying t with
  | some .bool => true
  | _ => false
def isInt (P : Program) (t : TypeId) (k : IntKind) : Bool :=
  match P.underlying t with
  | some (.int k') => k' == k
  | _ => false
def slOf (P : Program) (t : TypeId) : Option TypeId :=
  match P.underlying t with
  | some (.slice e) => some e
  | _ => none
def isSlBytes (P : Program) (t : TypeId) : Bool :=
  match slOf P t with
  | some e => isInt P e .u8 && (P.info? e).isSome
  | none => false
def buildOk (P : Program) (t : TypeId) (parts : List (Nat × Operand)) (z : List Cel) (ys : List (Nat × Nat × Opd)) : Bool :=
  match P.info? t, P.underlying t with
  | some it, some (.array _ e) =>
    (match it.zero, P.info? e with
    | some zv, some ie => constL zv.cells.toList z && psOk parts ys (fun i => some (i * ie.size, ie.size))
    | _, _ => false)
  | some it, some (.struct fields) =>
    (match it.zero, fields.toList.mapM (fun f => (P.info? f.type).map fun i => (f.offset, i.size)) with
    | some zv, some places => constL zv.cells.toList z && psOk parts ys (places.toArray[·]?)
    | _, _ => false)
  | _, _ => false
def callOk (P : Program) (c : Call) (d : Option Nat) (id : Nat) : COp → Bool
  | .len x => (match c.callee, c.args.toList, c.argTypes.toList with
    | .builtin .len, [y], [t] => (slOf P t).isSome && opdOk y x
    | _, _, _ => false)
  | .slen x => (match c.callee, c.args.toList, c.argTypes.toList with
    | .builtin .len, [y], [t] => isStr P t && opdOk y x
    | _, _, _ => false)
  | .min x y => (match c.callee, c.args.toList with
    | .builtin .min, [x', y'] => opdOk x' x && opdOk y' y
    | _, _ => false)
  | .max x y => (match c.callee, c.args.toList with
    | .builtin .max, [x', y'] => opdOk x' x && opdOk y' y
    | _, _ => false)
  | .app z bytes x y => d == some id && (match c.callee, c.args.toList, c.argTypes.toList with
    | .builtin .append, [x', y'], [t, t2] => opdOk x' x && opdOk y' y && (match slOf P t with
      | some e => elemT P e z bytes
      | none => false) && (slOf P t2).isSome
    | _, _, _ => false)
  | .apps z bytes x y => d == some id && (match c.callee, c.args.toList, c.argTypes.toList with
    | .builtin .append, [x', y'], [t, t2] => opdOk x' x && opdOk y' y && (match slOf P t with
      | some e => elemT P e z bytes
      | none => false) && isStr P t2
    | _, _, _ => false)
  | .call f _ ys => (match c.callee with
    | .value (.func f') => f' == f && (match P.funcs[f]? with
      | some fn => !(fn.name == "runtime.NumGoroutine") && fn.body.isSome
      | none => false) && opdsOk c.args.toList ys
    | _ => false)
  | .io f x ys => (match c.callee with
    | .value (.func f') => f' == f && (match P.funcs[f]? with
      | some fn => !(fn.name == "runtime.NumGoroutine") && fn.body.isSome
      | none => false) && opdsOk c.args.toList (x :: ys)
    | _ => false)
  | _ => false
def opOk (P : Program) (n : Nat) (o : Oper) (id : Nat) (c : COp) : Bool :=
  (match o.dst with
    | some d => decide (d < n)
    | none => true) &&
  (match o.op, c with
  | .move x, .mv y => opdOk x y
  | .assign x, .mv y => opdOk x y
  | .pick x y z, .pick x' y' z' => opdOk x x' && opdOk y y' && opdOk z z'
  | .alloc e, .alloc z => zeroC P e z
  | .box _ x, .box y => opdOk x y
  | .build t parts, .build z ys => buildOk P t parts.toList z ys
  | .buildSlice t m parts, .bslice z ys => o.dst == some id && (match slOf P t with
    | some e => zeroT' P e z
    | none => false) && parts.toList.map (·.1) == List.range m && opdsOk (parts.toList.map (·.2)) ys
  | .load t x, .load m y => aggT P t m && opdOk x y
  | .store t x y, .store m x' y' => o.dst == none && sizeT P t m && opdOk x x' && opdOk y y'
  | .nilCheck x, .nilc y => opdOk x y
  | .binOp op t x y _, .bin op' x' y' => op == op' && opdOk x x' && opdOk y y'
  | .binOp op t x y _, .beq neg x' y' => op == (bif neg then .neq else .eql) && isBool P t && opdOk x x' && opdOk y y'
  | .binOp op t x y _, .eqs neg ks x' y' => op == (bif neg then .neq else .eql) && (match P.underlying t with | some (.struct _) => true | _ => false) && !P.stoodInHeld t && !P.eqGuardType P.depth t && flatF P 0 (P.fieldsOf t).toList ks && opdOk x x' && opdOk y y'
  | .unOp .not _ x, .not y => opdOk x y
  | .convert src dst x, .conv (.int k) y => (P.underlying src).isSome && isInt P dst k && opdOk x y
  | .convert src dst x, .conv .b2s y => isSlBytes P src && isStr P dst && opdOk x y
  | .convert src dst x, .conv .s2b y => o.dst == some id && isStr P src && isSlBytes P dst && opdOk x y
  | .makeSlice t x y, .mks z bytes zc x' => o.dst == some id && intO x y && (match slOf P t with
    | some e => zeroT P e z bytes zc
    | none => false) && opdOk x x'
  | .slice t x lo hi none, .slice z x' lo' hi' => (match slOf P t with
    | some e => (match P.info? e with | some ti => ti.size == z | none => false)
    | none => false) && opdOk x x' && optB lo lo' && optB hi hi'
  | .slice t x lo hi none, .sslice x' lo' hi' => isStr P t && opdOk x x' && optB lo lo' && optB hi hi'
  | .fieldAddr s x i, .faddr x' off => (match P.underlying s with
    | some (.struct fs) => (match fs.toList[i]? with
      | some f => f.offset == off && (match P.info? f.type with | some ti => !(ti.size == 0) | none => false)
      | none => false)
    | _ => false) && opdOk x x'
  | .indexAddr t x y, .iaddr z x' y' => (match slOf P t with
    | some e => sizeT P e z
    | none => false) && opdOk x x' && opdOk y y'
  | .indexAddr t x y, .aaddr m z x' y' => (match P.underlying t with
    | some (.array len e) => len == m && (match P.info? e with | some ti => ti.size == z | none => false)
    | _ => false) && opdOk x x' && opdOk y y'
  | .index t x y, .sidx x' y' => isStr P t && opdOk x x' && opdOk y y'
  | .extract x i, .ext x' i' => i == i' && opdOk x x'
  | .call c', c => callOk P c' o.dst id c
  | _, _ => false)
where zeroT' (P : Program) (e : TypeId) (z : Nat) : Bool :=
  match P.info? e with
  | some ti => (match ti.zero with
    | some _ => ti.size == z && decide (0 < z)
    | none => false)
  | none => false
section
variable {P : Program} {X : Ctx} {n : Nat} {g : Gh} {st : St} {a : Act} {w : World} {o : Oper} {K : St → Prop} {Q : Exit → Act → World → Prop}
theorem arr1 {α : Type} {xs : Array α} {x : α} (h : xs.toList = [x]) : xs = #[x] := by cases xs; simp at h; simp [h]
theorem arr2 {α : Type} {xs : Array α} {x y : α} (h : xs.toList = [x, y]) : xs = #[x, y] := by cases xs; simp at h; simp [h]
theorem slOf_ok {t e : TypeId} (h : slOf P t = some e) : P.underlying t = some (.slice e) := by
  unfold slOf at h
  split at h
  · simp at h; subst h; assumption
  · cases h
theorem isStr_ok {t : TypeId} (h : isStr P t = true) : P.underlying t = some .string := by
  unfold isStr at h
  split at h
  · assumption
  · cases h
theorem isBool_ok {t : TypeId} (h : isBool P t = true) : P.underlying t = some .bool := by
  unfold isBool at h
  split at h
  · assumption
  · cases h
theorem isInt_ok {t : TypeId} {k : IntKind} (h : isInt P t k = true) : P.underlying t = some (.int k) := by
  unfold isInt at h
  split at h
  · simp at h; subst h; assumption
  · cases h
theorem elemT_ok {e : TypeId} {z bytes : Nat} (h : elemT P e z bytes = true) : ∃ ti zv, P.info? e = some ti ∧ ti.zero = some zv ∧ ti.size = z ∧ ti.bytes = bytes ∧ zv.cells.size = z ∧ 0 < z := by
  unfold elemT at h
  split at h
  · rename_i ti hi
    split at h
    · rename_i zv hz
      simp only [Bool.and_eq_true, beq_iff_eq, decide_eq_true_eq] at h
      exact ⟨ti, zv, hi, hz, h.1.1.1, h.1.1.2, h.1.2, h.2⟩
    · cases h
  · cases h
theorem call_ok {c : COp} {c' : Call} {id : Nat} (h : Sim X n g st [] a w) (ho : o.op = .call c') (hd : ∀ k, o.dst = some k → k < n) (hk : callOk P c' o.dst id c = true) (hp : runP (Tells P) (c.prg o.dst id) st (fun _ st' => K st')) : o.wp P a w (Goal X n K) Q := by
  cases c <;> simp only [callOk] at hk <;> try (cases hk; done)
  case len x =>
    split at hk
    · rename_i y t e1 e2 e3
      simp only [Bool.and_eq_true, Option.isSome_iff_exists] at hk
      obtain ⟨⟨e, he⟩, hx⟩ := hk
      exact do_len h ho e1 (arr1 e2) (arr1 e3) (slOf_ok he) hx hd id hp
    · cases hk
  case slen x =>
    split at hk
    · rename_i y t e1 e2 e3
      simp only [Bool.and_eq_true] at hk
      exact do_slen h ho e1 (arr1 e2) (arr1 e3) (isStr_ok hk.1) hk.2 hd id hp
    · cases hk
  case min x y =>
    split at hk
    · rename_i x' y' e1 e2
      simp only [Bool.and_eq_true] at hk
      exact do_min h ho e1 (arr2 e2) hk.1 hk.2 hd id hp
    · cases hk
  case max x y =>
    split at hk
    · rename_i x' y' e1 e2
      simp only [Bool.and_eq_true] at hk
      exact do_max h ho e1 (arr2 e2) hk.1 hk.2 hd id hp
    · cases hk
  case app z bytes x y =>
    simp only [Bool.and_eq_true, beq_iff_eq] at hk
    obtain ⟨hd', hk⟩ := hk
    split at hk
    · rename_i x' y' t t2 e1 e2 e3
      simp only [Bool.and_eq_true, Option.isSome_iff_exists] at hk
      obtain ⟨⟨⟨hx, hy⟩, hz⟩, ⟨e2', he2⟩⟩ := hk
      split at hz
      · rename_i e he
        obtain ⟨ti, zv, q1, q2, q3, q4, q5, q6⟩ := elemT_ok hz
        exact do_app h ho e1 (arr2 e2) (arr2 e3) (slOf_ok he) q1 q2 q3 q4 q5 q6 (slOf_ok he2) hx hy hd' (hd _ hd') (by rw [hd'] at hp; exact hp)
      · cases hz
    · cases hk
  case apps z bytes x y =>
    simp only [Bool.and_eq_true, beq_iff_eq] at hk
    obtain ⟨hd', hk⟩ := hk
    split at hk
    · rename_i x' y' t t2 e1 e2 e3
      simp only [Bool.and_eq_true] at hk
      obtain ⟨⟨⟨hx, hy⟩, hz⟩, he2⟩ := hk
      split at hz
      · rename_i e he
        obtain ⟨ti, zv, q1, q2, q3, q4, q5, q6⟩ := elemT_ok hz
        exact do_apps h ho e1 (arr2 e2) (arr2 e3) (slOf_ok he) q1 q2 q3 q4 q5 q6 (isStr_ok he2) hx hy hd' (hd _ hd') (by rw [hd'] at hp; exact hp)
      · cases hz
    · cases hk
  case call f ms ys =>
    split at hk
    · rename_i f' e1
      simp only [Bool.and_eq_true, beq_iff_eq] at hk
      obtain ⟨⟨rfl, hf⟩, hx⟩ := hk
      split at hf
      · rename_i fn hfn
        simp only [Bool.and_eq_true, Bool.not_eq_true'] at hf
        exact do_call h ho e1 hfn hf.1 hf.2 hx hd hp
      · cases hf
    · cases hk
  case io f x ys =>
    split at hk
    · rename_i f' e1
      simp only [Bool.and_eq_true, beq_iff_eq] at hk
      obtain ⟨⟨rfl, hf⟩, hx⟩ := hk
      split at hf
      · rename_i fn hfn
        simp only [Bool.and_eq_true, Bool.not_eq_true'] at hf
        exact do_io (id := id) h ho e1 hfn hf.1 hf.2 hx hd hp
      · cases hf
    · cases hk
theorem sizeT_ok {e : TypeId} {z : Nat} (h : sizeT P e z = true) : ∃ ti, P.info? e = some ti ∧ ti.size = z ∧ 0 < z := by
  unfold sizeT at h
  split at h
  · rename_i ti hi
    simp only [Bool.and_eq_true, beq_iff_eq, decide_eq_true_eq] at h
    exact ⟨ti, hi, h.1, h.2⟩
  · cases h
theorem optB_ok {x : Option Operand} {y : Option Opd} (h : optB x y = true) : optOk x y := by
  cases x <;> cases y <;> simp_all [optB, optOk]
theorem isSlBytes_ok {t : TypeId} (h : isSlBytes P t = true) : ∃ e ti, P.underlying t = some (.slice e) ∧ P.underlying e = some (.int .u8) ∧ P.info? e = some ti := by
  unfold isSlBytes at h
  split at h
  · rename_i e he
    simp only [Bool.and_eq_true, Option.isSome_iff_exists] at h
    obtain ⟨h1, ti, h2⟩ := h
    exact ⟨e, ti, slOf_ok he, isInt_ok h1, h2⟩
  · cases h
theorem intO_ok {x y : Operand} (h : intO x y = true) : x = y := by
  unfold intO at h
  split at h
  · simp at h; rw [h]
  · simp at h; rw [h.1, h.2]
  · cases h
theorem op_ok {c : COp} {id : Nat} (h : Sim X n g st [] a w) (hk : opOk P n o id c = true) (hp : runP (Tells P) (c.prg o.dst id) st (fun _ st' => K st')) : o.wp P a w (Goal X n K) Q := by
  unfold opOk at hk
  simp only [Bool.and_eq_true] at hk
  obtain ⟨hd0, hk⟩ := hk
  have hd : ∀ k, o.dst = some k → k < n := fun k hk => by simpa [hk] using hd0
  clear hd0
  split at hk
  · rename_i x y ho; exact do_mv h (.inl ho) hk hd id hp
  · rename_i x y ho; exact do_mv h (.inr ho) hk hd id hp
  · rename_i ho; simp only [Bool.and_eq_true] at hk; exact do_pick h ho hk.1.1 hk.1.2 hk.2 hd id hp
  · rename_i e z ho
    unfold zeroC at hk
    split at hk
    · rename_i ti hi
      split at hk
      · rename_i zv hz; exact do_alloc h ho hi hz hk hd hp
      · cases hk
    · cases hk
  · rename_i ho; exact do_box h ho hk hd hp
  · rename_i t parts z ys ho
    unfold buildOk at hk
    split at hk
    · rename_i it _ e hi hu
      split at hk
      · rename_i zv ie hz hie
        simp only [Bool.and_eq_true] at hk
        exact do_build h ho hk.1 (fun xs => by simp only [Program.built, hi, hu, hz, hie]) hk.2 hd id hp
      · cases hk
    · rename_i it fields hi hu
      split at hk
      · rename_i zv places hz hpl
        simp only [Bool.and_eq_true] at hk
        exact do_build h ho hk.1 (fun xs => by simp only [Program.built, hi, hu, hz, hpl]) hk.2 hd id hp
      · cases hk
    · cases hk
  · rename_i t m parts z ys ho
    simp only [Bool.and_eq_true, beq_iff_eq] at hk
    obtain ⟨⟨⟨hd', hz⟩, hm⟩, hx⟩ := hk
    split at hz
    · rename_i e he
      unfold opOk.zeroT' at hz
      split at hz
      · rename_i ti hi
        split at hz
        · rename_i zv hzv
          simp only [Bool.and_eq_true, beq_iff_eq, decide_eq_true_eq] at hz
          exact do_bslice h ho (slOf_ok he) hi hzv hz.1 hz.2 hm hx hd' (hd _ hd') (by rw [hd'] at hp; exact hp)
        · cases hz
      · cases hz
    · cases hz
  · rename_i ho; simp only [Bool.and_eq_true] at hk; exact do_load h ho hk.1 hk.2 hd id hp
  · rename_i ho
    simp only [Bool.and_eq_true, beq_iff_eq] at hk
    obtain ⟨⟨⟨h1, h2⟩, hx⟩, hy⟩ := hk
    obtain ⟨ti, q1, q2, q3⟩ := sizeT_ok h2
    exact do_store h ho q1 q2 q3 hx hy h1 id hp
  · rename_i ho; exact do_nilc h ho hk hd id hp
  · rename_i ho
    simp only [Bool.and_eq_true, beq_iff_eq] at hk
    obtain ⟨⟨rfl, hx⟩, hy⟩ := hk
    exact do_bin h ho hx hy hd id hp
  · rename_i ho
    simp only [Bool.and_eq_true, beq_iff_eq] at hk
    obtain ⟨⟨⟨h1, h2⟩, hx⟩, hy⟩ := hk
    exact do_beq h ho h1 (isBool_ok h2) hx hy hd id hp
  · rename_i op t x y _ neg ks x' y' ho
    simp only [Bool.and_eq_true, beq_iff_eq, Bool.not_eq_true'] at hk
    obtain ⟨⟨⟨⟨⟨⟨h1, h2⟩, h3⟩, h4⟩, h5⟩, hx⟩, hy⟩ := hk
    have h2' : P.underlying t = some (.struct (P.fieldsOf t)) := by
      split at h2
      · rename_i fs e; rw [e]; simp [Program.fieldsOf, e]
      · cases h2
    exact do_eqs h ho h1 h2' h3 h4 h5 hx hy hd id hp
  · rename_i ho; exact do_not h ho hk hd id hp
  · rename_i ho
    simp only [Bool.and_eq_true, Option.isSome_iff_exists] at hk
    obtain ⟨⟨⟨d0, h1⟩, h2⟩, hx⟩ := hk
    exact do_convInt h ho h1 (isInt_ok h2) hx hd id hp
  · rename_i ho
    simp only [Bool.and_eq_true] at hk
    obtain ⟨e, ti, q1, q2, q3⟩ := isSlBytes_ok hk.1.1
    exact do_b2s h ho q1 q2 (isStr_ok hk.1.2) hk.2 hd id hp
  · rename_i ho
    simp only [Bool.and_eq_true, beq_iff_eq] at hk
    obtain ⟨⟨⟨hd', h1⟩, h2⟩, hx⟩ := hk
    obtain ⟨e, ti, q1, q2, q3⟩ := isSlBytes_ok h2
    exact do_s2b h ho (isStr_ok h1) q1 q2 q3 hx hd' (hd _ hd') (by rw [hd'] at hp; exact hp)
  · rename_i t x y z bytes zc x' ho
    simp only [Bool.and_eq_true, beq_iff_eq] at hk
    obtain ⟨⟨⟨hd', h1⟩, hz⟩, hx⟩ := hk
    obtain rfl := intO_ok h1
    split at hz
    · rename_i e he
      unfold zeroT at hz
      split at hz
      · rename_i ti hi
        split at hz
        · rename_i zv hzv
          simp only [Bool.and_eq_true, beq_iff_eq, decide_eq_true_eq] at hz
          obtain ⟨⟨⟨⟨q1, q2⟩, q3⟩, q4⟩, q5⟩ := hz
          exact do_mks h ho (slOf_ok he) hi hzv q1 q2 q3 q4 q5 hx hd' (hd _ hd') (by rw [hd'] at hp; exact hp)
        · cases hz
      · cases hz
    · cases hz
  · rename_i ho
    simp only [Bool.and_eq_true] at hk
    obtain ⟨⟨⟨hz, hx⟩, hl⟩, hh⟩ := hk
    split at hz
    · rename_i e he
      split at hz
      · rename_i ti hi
        simp only [beq_iff_eq] at hz
        exact do_slice h ho (slOf_ok he) hi hz hx (optB_ok hl) (optB_ok hh) hd id hp
      · cases hz
    · cases hz
  · rename_i ho
    simp only [Bool.and_eq_true] at hk
    obtain ⟨⟨⟨hz, hx⟩, hl⟩, hh⟩ := hk
    exact do_sslice h ho (isStr_ok hz) hx (optB_ok hl) (optB_ok hh) hd id hp
  · rename_i s x i x' off ho
    simp only [Bool.and_eq_true] at hk
    obtain ⟨hz, hx⟩ := hk
    split at hz
    · rename_i fs hs
      split at hz
      · rename_i f hf
        simp only [Bool.and_eq_true, beq_iff_eq] at hz
        obtain ⟨h1, h2⟩ := hz
        split at h2
        · rename_i ti hi
          simp only [Bool.not_eq_true', beq_eq_false_iff_ne] at h2
          exact do_faddr h ho hs (by rw [← Array.getElem?_toList]; exact hf) hi h2 h1 hx hd id hp
        · cases h2
      · cases hz
    · cases hz
  · rename_i ho
    simp only [Bool.and_eq_true] at hk
    obtain ⟨⟨hz, hx⟩, hy⟩ := hk
    split at hz
    · rename_i e he
      obtain ⟨ti, q1, q2, q3⟩ := sizeT_ok hz
      exact do_iaddr h ho (slOf_ok he) q1 q2 q3 hx hy hd id hp
    · cases hz
  · rename_i ho
    simp only [Bool.and_eq_true] at hk
    obtain ⟨⟨hz, hx⟩, hy⟩ := hk
    split at hz
    · rename_i len e he
      simp only [Bool.and_eq_true, beq_iff_eq] at hz
      obtain ⟨rfl, hz⟩ := hz
      split at hz
      · rename_i ti hi
        simp only [beq_iff_eq] at hz
        exact do_aaddr h ho he hi hz hx hy hd id hp
      · cases hz
    · cases hz
  · rename_i ho
    simp only [Bool.and_eq_true] at hk
    exact do_sidx h ho (isStr_ok hk.1.1) hk.1.2 hk.2 hd id hp
  · rename_i ho
    simp only [Bool.and_eq_true, beq_iff_eq] at hk
    obtain ⟨rfl, hx⟩ := hk
    exact do_ext h ho hx hd id hp
  · rename_i ho; exact call_ok h ho hd hk hp
  · cases hk
end
end Go.X
