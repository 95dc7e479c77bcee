/- What an operation does to the state of a call, seen from above: definitions. -/
import Derived.Test.YtihpdefnajimgaaXTree
namespace Go.X

inductive Cel where
  | pv (v : Value)
  | nils (z : Nat)
  | ro (z : Nat) (rows : List (List T))
  | rf (r c : Nat) (p : List (Nat × Nat)) (z off len : Nat)
  | dead
  deriving Inhabited

inductive SV where
  | un
  | one (c : Cel)
  | agg (cs : List Cel)
  | tup (vs : List SV)
  | bp (b off : Nat)
  | ap (r c : Nat) (p : List (Nat × Nat)) (z i j : Nat)
  | rp (cs : List T)
  deriving Inhabited

inductive AV where
  | one (t : T)
  | agg (ts : List T)
  | ptr (ts : List T)
  deriving Inhabited

structure Res where
  res : List AV
  outs : List (List T)

structure St where
  s : List (Nat × SV)
  b : List (Nat × List Cel)
  r : List (Nat × List T)

section
variable {α : Type}
def get : List (Nat × α) → Nat → Option α
  | [], _ => none
  | (j, v) :: l, k => bif j == k then some v else get l k
def rep : List (Nat × α) → Nat → α → List (Nat × α)
  | [], k, v => [(k, v)]
  | (j, u) :: l, k, v => bif j == k then (j, v) :: l else (j, u) :: rep l k v
end

abbrev Key := Nat × Nat
/-- The small steps of an operation. -/
inductive Prg (α : Type) : Type where
  | done (a : α)
  | fail
  | gs (t : Nat) (k : SV → Prg α)
  | ss (t : Nat) (v : SV) (k : Prg α)
  | gb (b : Nat) (k : List Cel → Prg α)
  | sb (b : Nat) (v : List Cel) (k : Prg α)
  | nb (b : Nat) (v : List Cel) (k : Prg α)
  | gr (r : Nat) (k : List T → Prg α)
  | sr (r : Nat) (v : List T) (k : Prg α)
  | nr (r : Nat) (v : List T) (k : Prg α)
  | chk (c : Bool) (k : Prg α)
  | ov (o : Option Value) (k : Value → Prg α)
  | call (f : Nat) (as : List AV) (k : Res → Prg α)
  | all (c : St → Bool) (k : Prg α)

/-- What is so behind the small steps; `Te f as r`: the function tells r. -/
def runP {α : Type} (Te : Nat → List AV → Res → Prop) : Prg α → St → (α → St → Prop) → Prop
  | .done a, st, Q => Q a st
  | .fail, _, _ => False
  | .gs t k, st, Q => runP Te (k ((get st.s t).getD .un)) st Q
  | .ss t v k, st, Q => runP Te k { st with s := rep st.s t v } Q
  | .gb b k, st, Q => match get st.b b with
    | some cs => runP Te (k cs) st Q
    | none => False
  | .sb b v k, st, Q => match get st.b b with
    | some _ => runP Te k { st with b := rep st.b b v } Q
    | none => False
  | .nb b v k, st, Q => match get st.b b with
    | some _ => False
    | none => runP Te k { st with b := rep st.b b v } Q
  | .gr r k, st, Q => match get st.r r with
    | some cs => runP Te (k cs) st Q
    | none => False
  | .sr r v k, st, Q => match get st.r r with
    | some _ => runP Te k { st with r := rep st.r r v } Q
    | none => False
  | .nr r v k, st, Q => match get st.r r with
    | some _ => False
    | none => runP Te k { st with r := rep st.r r v } Q
  | .chk c k, st, Q => c = true ∧ runP Te k st Q
  | .ov o k, st, Q => match o with
    | some v => runP Te (k v) st Q
    | none => False
  | .call f as k, st, Q => ∃ r, Te f as r ∧ runP Te (k r) st Q
  | .all c k, st, Q => c st = true ∧ runP Te k st Q

section
variable {α : Type}
/-! ### Trees -/
def isPv {τ : Type} : Tr τ → Bool
  | .pv _ => true
  | _ => false
def flat {τ : Type} : List (List (Tr τ)) → Bool
  | [] => true
  | r :: rs => r.all isPv && flat rs
mutual
def lent : T → T
  | .sl _ z _ rows => .sl false z () (lentLL rows)
  | t => t
def lentL : List T → List T
  | [] => []
  | t :: ts => lent t :: lentL ts
def lentLL : List (List T) → List (List T)
  | [] => []
  | r :: rs => lentL r :: lentLL rs
end
mutual
/-- nothing in it was handed on -/
def whole : T → Bool
  | .pv _ => true
  | .no _ => false
  | .sl _ _ _ rows => wholeLL rows
def wholeL : List T → Bool
  | [] => true
  | t :: ts => whole t && wholeL ts
def wholeLL : List (List T) → Bool
  | [] => true
  | r :: rs => wholeL r && wholeLL rs
end
mutual
/-- nothing in it is another's -/
def noRo : T → Bool
  | .pv _ => true
  | .no _ => true
  | .sl o _ _ rows => o && noRoLL rows
def noRoL : List T → Bool
  | [] => true
  | t :: ts => noRo t && noRoL ts
def noRoLL : List (List T) → Bool
  | [] => true
  | r :: rs => noRoL r && noRoLL rs
end

/-- What stands for a cell of a tree that lies under a name. -/
def celOf (r c : Nat) (p : List (Nat × Nat)) : T → Cel
  | .pv v => .pv v
  | .sl true z _ rows => .rf r c p z 0 rows.length
  | .sl false z _ rows => .ro z rows
  | .no _ => .dead
def plant (r : Nat) : Nat → List T → List Cel
  | _, [] => []
  | k, t :: ts => celOf r k [] t :: plant r (k + 1) ts
def readO (r c : Nat) (p : List (Nat × Nat)) (i : Nat) : Nat → List T → List Cel
  | _, [] => []
  | j, t :: ts => celOf r c (p ++ [(i, j)]) t :: readO r c p i (j + 1) ts
def readR : List T → List Cel
  | [] => []
  | .pv v :: ts => .pv v :: readR ts
  | .sl _ z _ rows :: ts => .ro z rows :: readR ts
  | .no _ :: ts => .dead :: readR ts

/-- The node of the call's own at a place. -/
def node (cs : List T) (c : Nat) (p : List (Nat × Nat)) (z : Nat) (k : List (List T) → Prg α) : Prg α :=
  match (cs[c]?).bind (atP · p) with
  | some (.sl true z' _ rows) => .chk (z' == z) (k rows)
  | _ => .fail
def putAt (cs : List T) (c : Nat) (p : List (Nat × Nat)) (u : T) : List T :=
  match cs[c]? with
  | some t => cs.set c (setP t p u)
  | none => cs

def takeC (x : Cel) (k : T → Prg α) : Prg α :=
  match x with
  | .pv v => k (.pv v)
  | .nils z => k (.sl true z () [])
  | .ro z rows => k (.sl false z () rows)
  | .rf r c p z off len => .gr r fun cs => node cs c p z fun rows => .chk (off == 0 && decide (len ≤ rows.length))
      (.sr r (putAt cs c p (.no ())) (k (.sl true z () (rows.take len))))
  | .dead => .fail
def takeL : List Cel → (List T → Prg α) → Prg α
  | [], k => k []
  | x :: xs, k => takeC x fun t => takeL xs fun ts => k (t :: ts)
def lendC (x : Cel) (k : T → Prg α) : Prg α :=
  match x with
  | .pv v => k (.pv v)
  | .nils z => k (.sl false z () [])
  | .ro z rows => k (.sl false z () rows)
  | .rf r c p z off len => .gr r fun cs => node cs c p z fun rows => .chk (decide (off + len ≤ rows.length) && wholeLL ((rows.drop off).take len))
      (k (.sl false z () (lentLL ((rows.drop off).take len))))
  | .dead => .fail
def lendL : List Cel → (List T → Prg α) → Prg α
  | [], k => k []
  | x :: xs, k => lendC x fun t => lendL xs fun ts => k (t :: ts)
def SV.cels : SV → Option (List Cel)
  | .one c => some [c]
  | .agg cs => some cs
  | _ => none
def withCels (v : SV) (k : List Cel → Prg α) : Prg α :=
  match v.cels with
  | some cs => k cs
  | none => .fail

/-! ### Operations -/
inductive Opd where
  | t (n : Nat)
  | k (v : SV)
def Opd.ev (x : Opd) (k : SV → Prg α) : Prg α :=
  match x with
  | .t n => .gs n k
  | .k v => k v
def evL : List Opd → (List SV → Prg α) → Prg α
  | [], k => k []
  | x :: xs, k => x.ev fun v => evL xs fun vs => k (v :: vs)
def evPs : List (Nat × Nat × Opd) → (List (Nat × Nat × SV) → Prg α) → Prg α
  | [], k => k []
  | (o, m, x) :: xs, k => x.ev fun v => evPs xs fun vs => k ((o, m, v) :: vs)
end

inductive Cv where
  | int (k : IntKind)
  | b2s
  | s2b

inductive COp where
  | mv (x : Opd)
  | pick (c a b : Opd)
  | alloc (z : List Cel)
  | box (x : Opd)
  | build (z : List Cel) (ps : List (Nat × Nat × Opd))
  | bslice (z : Nat) (ps : List Opd)
  | load (n : Option Nat) (a : Opd)
  | store (m : Nat) (a x : Opd)
  | nilc (x : Opd)
  | bin (o : BinOp) (x y : Opd)
  | beq (neg : Bool) (x y : Opd)
  | eqs (neg : Bool) (ts : List Nat) (x y : Opd)
  | not (x : Opd)
  | conv (c : Cv) (x : Opd)
  | len (x : Opd)
  | slen (x : Opd)
  | min (x y : Opd)
  | max (x y : Opd)
  | app (z bytes : Nat) (s x : Opd)
  | apps (z bytes : Nat) (s x : Opd)
  | slice (z : Nat) (x : Opd) (lo hi : Option Opd)
  | sslice (x : Opd) (lo hi : Option Opd)
  | faddr (x : Opd) (off : Nat)
  | iaddr (z : Nat) (x i : Opd)
  | aaddr (n z : Nat) (x i : Opd)
  | sidx (x i : Opd)
  | mks (z bytes : Nat) (zc : List T) (n : Opd)
  | ext (x : Opd) (i : Nat)
  | call (f : Nat) (ms : List Nat) (xs : List Opd)
  | io (f : Nat) (x : Opd) (ys : List Opd)

def binV (o : BinOp) (x y : Value) : Option Value :=
  match x, y with
  | .int k a, .int k' b =>
    match o with
    | .shl => bif decide (0 ≤ b) then some (.int k (k.wrap (a * 2 ^ (Nat.min b.toNat k.bits)))) else none
    | .shr => bif decide (0 ≤ b) then some (.int k (a.fdiv (2 ^ (Nat.min b.toNat k.bits)))) else none
    | .add => bif k == k' then some (.int k (k.wrap (a + b))) else none
    | .sub => bif k == k' then some (.int k (k.wrap (a - b))) else none
    | .mul => bif k == k' then some (.int k (k.wrap (a * b))) else none
    | .quo => bif k == k' && !(b == 0) then some (.int k (k.wrap (a.tdiv b))) else none
    | .rem => bif k == k' && !(b == 0) then some (.int k (a.tmod b)) else none
    | .and => bif k == k' then some (.int k (k.wrap (BitVec.ofInt k.bits a &&& BitVec.ofInt k.bits b).toNat)) else none
    | .or => bif k == k' then some (.int k (k.wrap (BitVec.ofInt k.bits a ||| BitVec.ofInt k.bits b).toNat)) else none
    | .xor => bif k == k' then some (.int k (k.wrap (BitVec.ofInt k.bits a ^^^ BitVec.ofInt k.bits b).toNat)) else none
    | .andNot => bif k == k' then some (.int k (k.wrap (BitVec.ofInt k.bits a &&& ~~~ BitVec.ofInt k.bits b).toNat)) else none
    | .eql => bif k == k' then some (.bool (a == b)) else none
    | .neq => bif k == k' then some (.bool (a != b)) else none
    | .lss => bif k == k' then some (.bool (decide (a < b))) else none
    | .leq => bif k == k' then some (.bool (decide (a ≤ b))) else none
    | .gtr => bif k == k' then some (.bool (decide (a > b))) else none
    | .geq => bif k == k' then some (.bool (decide (a ≥ b))) else none
  | .string a, .string b =>
    match o with
    | .add => bif decide (a.size + b.size ≤ 4294967296) then some (.string (a ++ b)) else none
    | .eql => some (.bool (a.toList == b.toList))
    | .neq => some (.bool (!(a.toList == b.toList)))
    | .lss => some (.bool (Op.bytesLess a.toList b.toList))
    | .leq => some (.bool (Op.bytesLess a.toList b.toList || a.toList == b.toList))
    | .gtr => some (.bool (!(Op.bytesLess a.toList b.toList || a.toList == b.toList)))
    | .geq => some (.bool (!Op.bytesLess a.toList b.toList))
    | _ => none
  | _, _ => none

/-- Of a kind: 0 whole numbers, 1 bools, 2 strings. -/
def eqV (t : Nat) (x y : Value) : Option Bool :=
  match t, x, y with
  | 0, .int k a, .int k' b => bif k == k' then some (a == b) else none
  | 1, .bool a, .bool b => some (a == b)
  | 2, .string a, .string b => some (a.toList == b.toList)
  | _, _, _ => none
def eqL : List Nat → List Cel → List Cel → Option Bool
  | [], [], [] => some true
  | t :: ts, .pv x :: xs, .pv y :: ys => (eqV t x y).bind fun b => (eqL ts xs ys).map fun r => b && r
  | _, _, _ => none

section
variable {α : Type}
def nat? (v : SV) (k : Nat → Prg α) : Prg α :=
  match v with
  | .one (.pv (.int _ n)) => .chk (decide (0 ≤ n)) (k n.toNat)
  | _ => .fail
def opt? (v : Option Opd) (z : Nat) (k : Nat → Prg α) : Prg α :=
  match v with
  | none => k z
  | some x => x.ev fun v => nat? v k
def byteOf : T → UInt8
  | .pv (.int _ n) => UInt8.ofNat n.toNat
  | _ => 0
def isByte : T → Bool
  | .pv (.int .u8 _) => true
  | _ => false
def bytesOf (rows : List (List T)) : List UInt8 := rows.map fun r => byteOf (r.headD (.no ()))
def areBytes : List (List T) → Bool
  | [] => true
  | r :: rs => (match r with | [t] => isByte t | _ => false) && areBytes rs
def byteT (b : UInt8) : List T := [.pv (.int .u8 b.toNat)]
/-- The rows of a slice's bytes. -/
def ofBytes (bs : List UInt8) : List (List T) := bs.map byteT

def goneC {τ : Type} : Tr τ → Tr τ
  | .sl true _ h _ => .no h
  | t => t
def goneRows {τ : Type} (rows : List (List (Tr τ))) (off len : Nat) : List (List (Tr τ)) := rows.take off ++ (((rows.drop off).take len).map fun r => r.map goneC) ++ rows.drop (off + len)
/-- The rows that are to be appended. -/
def srcP (z : Nat) (v : SV) (k : List (List T) → Prg α) : Prg α :=
  match v with
  | .one (.nils z') => .chk (z' == z) (k [])
  | .one (.ro z' rs) => .chk (z' == z) (k rs)
  | .one (.rf r c p z' off len) => .gr r fun cs => node cs c p z' fun rows => .chk (z' == z && decide (off + len ≤ rows.length))
      (bif flat ((rows.drop off).take len) then k ((rows.drop off).take len)
       else .sr r (putAt cs c p (.sl true z () (goneRows rows off len))) (k ((rows.drop off).take len)))
  | _ => .fail

def fin (d : Option Nat) (v : SV) : Prg Unit :=
  match d with
  | some d => .ss d v (.done ())
  | none => .done ()
def newSl (d z : Nat) (rows : List (List T)) : Prg Unit :=
  .nr d [.sl true z () rows] (.ss d (.one (.rf d 0 [] z 0 rows.length)) (.done ()))
/-- The slice that is appended to goes into the one that comes out. -/
def appP (d z bytes : Nat) (s : SV) (new : List (List T)) : Prg Unit :=
  .chk (new.all (·.length == z)) (match s with
  | .one (.nils z') => .chk (z' == z && decide (new.length * bytes ≤ 140737488355328) && decide (new.length ≤ 4294967296)) (newSl d z new)
  | .one (.rf r c p z' off len) => .gr r fun cs => node cs c p z' fun rows =>
      .chk (z' == z && off == 0 && decide (len ≤ rows.length) && decide ((len + new.length) * bytes ≤ 140737488355328) && decide (len + new.length ≤ 4294967296))
        (.sr r (putAt cs c p (.no ())) (newSl d z (rows.take len ++ new)))
  | _ => .fail)
def takeRows : List SV → (List (List T) → Prg α) → Prg α
  | [], k => k []
  | v :: vs, k => withCels v fun cs => takeL cs fun r => takeRows vs fun rs => k (r :: rs)

def fillC : List (Nat × Nat × SV) → List Cel → Option (List Cel)
  | [], z => some z
  | (off, m, v) :: ps, z => v.cels.bind fun cs => bif cs.length == m && decide (off + cs.length ≤ z.length) then fillC ps (z.take off ++ cs ++ z.drop (off + cs.length)) else none

/-- Is a path below another? -/
def lower (r c : Nat) (p : List (Nat × Nat)) : Cel → Bool
  | .rf r' c' p' _ _ _ => r == r' && c == c' && decide (p.length < p'.length) && p'.take p.length == p
  | _ => false
def SV.lower (r c : Nat) (p : List (Nat × Nat)) : SV → Bool
  | .one x => X.lower r c p x
  | .agg cs => cs.any (X.lower r c p)
  | .ap r' c' p' _ _ _ => r == r' && c == c' && decide (p.length < p'.length) && p'.take p.length == p
  | .tup _ => true
  | _ => false
def noLower (r c : Nat) (p : List (Nat × Nat)) (st : St) : Bool := (st.s.all fun x => !(x.2.lower r c p)) && (st.b.all fun x => !(x.2.any (lower r c p)))

def setCells {τ : Type} (row : List (Tr τ)) (j : Nat) (ts : List (Tr τ)) : List (Tr τ) := row.take j ++ ts ++ row.drop (j + ts.length)

/-- Handed over for good, or to be handed back. -/
def passOwn : List Nat → List SV → (List (Option AV) → Prg α) → Prg α
  | m :: ms, v :: vs, k =>
    match m, v with
    | 0, _ => passOwn ms vs fun l => k (none :: l)
    | 1, .one c => takeC c fun t => passOwn ms vs fun l => k (some (.one t) :: l)
    | 1, .agg cs => takeL cs fun ts => passOwn ms vs fun l => k (some (.agg ts) :: l)
    | m + 2, .bp b off => .gb b fun cs => .chk (decide (off + m ≤ cs.length)) (takeL ((cs.drop off).take m) fun ts => passOwn ms vs fun l => k (some (.ptr ts) :: l))
    | _, _ => .fail
  | [], [], k => k []
  | _, _, _ => .fail
def passLend : List SV → List (Option AV) → (List AV → Prg α) → Prg α
  | _ :: vs, some a :: as, k => passLend vs as fun l => k (a :: l)
  | .one c :: vs, none :: as, k => lendC c fun t => passLend vs as fun l => k (.one t :: l)
  | .agg cs :: vs, none :: as, k => lendL cs fun ts => passLend vs as fun l => k (.agg ts :: l)
  | [], [], k => k []
  | _, _, _ => .fail

end

def AV.ts : AV → List T
  | .one t => [t]
  | .agg ts => ts
  | .ptr ts => ts
def AV.slot (d k : Nat) : AV → SV
  | .one t => .one (celOf d k [] t)
  | .agg ts => .agg (plant d k ts)
  | .ptr _ => .un
def slots (d : Nat) : Nat → List AV → List SV
  | _, [] => []
  | k, a :: as => a.slot d k :: slots d (k + a.ts.length) as
def slotsP (d : Option Nat) (id : Nat) : List AV → Prg Unit
  | [.ptr ts] => .nb id (plant id 0 ts) (fin d (.bp id 0))
  | [a] => fin d (a.slot id 0)
  | as => fin d (.tup (slots id 0 as))
def isRf : Cel → Bool
  | .rf .. => true
  | _ => false
def hasRf : SV → Bool
  | .one c => isRf c
  | .agg cs => cs.any isRf
  | _ => false
def lentOwn : List Nat → List SV → Bool
  | m :: ms, v :: vs => (m == 0 && hasRf v) || lentOwn ms vs
  | _, _ => false
def ptrOuts : List Nat → List (List T) → List T
  | (_ + 2) :: ms, o :: os => o ++ ptrOuts ms os
  | _ :: ms, _ :: os => ptrOuts ms os
  | _, _ => []
section
variable {α : Type}
def backC (c : Cel) (t : T) (k : Prg α) : Prg α :=
  match c with
  | .rf r c p _ _ _ => .gr r fun cs => match (cs[c]?).bind (atP · p) with
    | some (.no _) => bif flat t.rows then .sr r (putAt cs c p t) k else .all (noLower r c p) (.sr r (putAt cs c p t) k)
    | _ => .fail
  | _ => k
def backL : List Cel → List T → Prg α → Prg α
  | c :: cs, t :: ts, k => backC c t (backL cs ts k)
  | [], [], k => k
  | _, _, _ => .fail
def takeW (x : Cel) (k : T → Prg α) : Prg α :=
  match x with
  | .pv v => k (.pv v)
  | .nils z => k (.sl true z () [])
  | .rf r c p z off len => .gr r fun cs => node cs c p z fun rows => .chk (off == 0 && len == rows.length) (.sr r (putAt cs c p (.no ())) (k (.sl true z () rows)))
  | _ => .fail
def takeWs : List Cel → (List T → Prg α) → Prg α
  | [], k => k []
  | x :: xs, k => takeW x fun t => takeWs xs fun ts => k (t :: ts)
def keyOf : Cel → List (Nat × Nat)
  | .rf r c _ _ _ _ => [(r, c)]
  | _ => []
def lone : List (Nat × Nat) → Bool
  | [] => true
  | x :: xs => !xs.contains x && lone xs
def plainV : SV → Option T
  | .one (.pv v) => some (.pv v)
  | _ => none
def plains : List SV → Option (List AV)
  | [] => some []
  | v :: vs => (plainV v).bind fun t => (plains vs).map fun l => .one t :: l
def boxesOf : List Nat → List SV → List Nat
  | (_ + 2) :: ms, .bp b _ :: vs => b :: boxesOf ms vs
  | _ :: ms, _ :: vs => boxesOf ms vs
  | _, _ => []
def loneN : List Nat → Bool
  | [] => true
  | x :: xs => !xs.contains x && loneN xs
/-- What pointers point to, as it came back. -/
def backP (d : Nat) : List Nat → List SV → List (List T) → Nat → Prg α → Prg α
  | m :: ms, v :: vs, o :: os, n, k =>
    match m, v with
    | m + 2, .bp b off => .gb b fun cs => .chk (o.length == m && decide (off + m ≤ cs.length)) (.sb b (cs.take off ++ plant d n o ++ cs.drop (off + m)) (backP d ms vs os (n + m) k))
    | 0, _ => backP d ms vs os n k
    | 1, _ => backP d ms vs os n k
    | _, _ => .fail
  | [], [], [], _, k => k
  | _, _, _, _, _ => .fail
end
def callP (d : Option Nat) (id f : Nat) (ms : List Nat) (vs : List SV) : Prg Unit :=
  .chk (loneN (boxesOf ms vs)) (passOwn ms vs fun os => passLend vs os fun as => .call f as fun r =>
    .chk (!lentOwn ms vs || (noRoL (r.res.flatMap AV.ts) && noRoL (ptrOuts ms r.outs)))
    (.nr id (r.res.flatMap AV.ts ++ ptrOuts ms r.outs) (backP id ms vs r.outs (r.res.flatMap AV.ts).length (slotsP d id r.res))))
/-- A call that writes to what is handed over first, and tells one plain thing. -/
def ioP (d : Option Nat) (f : Nat) (v : SV) (ys : List SV) : Prg Unit :=
  match plains ys with
  | none => .fail
  | some as => match v with
    | .one c => takeWs [c] fun ts => match ts with
      | [t] => .call f (.one t :: as) fun r => match r with
        | ⟨[.one (.pv u)], o :: _⟩ => backL [c] o (fin d (.one (.pv u)))
        | _ => .fail
      | _ => .fail
    | .agg cs => .chk (lone (cs.flatMap keyOf)) (takeWs cs fun ts => .call f (.agg ts :: as) fun r => match r with
      | ⟨[.one (.pv u)], o :: _⟩ => backL cs o (fin d (.one (.pv u)))
      | _ => .fail)
    | _ => .fail

def storeAp (r c : Nat) (p : List (Nat × Nat)) (z i j : Nat) (ts : List T) : Prg Unit :=
  .gr r fun root => node root c p z fun rows => .chk (decide (i < rows.length) && decide (j + ts.length ≤ z))
    (bif ts.all isPv then
      .sr r (putAt root c p (.sl true z () (rows.set i (setCells (rows.getD i []) j ts)))) (.done ())
     else .all (noLower r c p) (.sr r (putAt root c p (.sl true z () (rows.set i (setCells (rows.getD i []) j ts)))) (.done ())))

def COp.prg (d : Option Nat) (id : Nat) : COp → Prg Unit
  | .mv x => x.ev fun v => fin d v
  | .pick c a b => c.ev fun c => a.ev fun a => b.ev fun b =>
    match c with
    | .one (.pv (.bool c)) => fin d (bif c then a else b)
    | _ => .fail
  | .alloc z => .nb id z (fin d (.bp id 0))
  | .box x => x.ev fun v => withCels v fun cs => .nb id cs (fin d (.bp id 0))
  | .build z ps => evPs ps fun ps =>
    match fillC ps z with
    | some cs => fin d (.agg cs)
    | none => .fail
  | .bslice z ps => evL ps fun vs => takeRows vs fun rs => .chk (rs.all (·.length == z) && decide (rs.length * z ≤ 16777216)) (newSl id z rs)
  | .load n a => a.ev fun v =>
    match v with
    | .bp b off => .gb b fun cs =>
      match n with
      | none => match cs[off]? with
        | some c => fin d (.one c)
        | none => .fail
      | some m => .chk (decide (off + m ≤ cs.length)) (fin d (.agg ((cs.drop off).take m)))
    | .rp ts =>
      match n with
      | none => match readR (ts.take 1) with
        | [c] => fin d (.one c)
        | _ => .fail
      | some m => .chk (decide (m ≤ ts.length)) (fin d (.agg (readR (ts.take m))))
    | .ap r c p z i j => .gr r fun cs => node cs c p z fun rows =>
      match n with
      | none => match readO r c p i j (((rows.getD i []).drop j).take 1) with
        | [x] => fin d (.one x)
        | _ => .fail
      | some m => .chk (decide (j + m ≤ (rows.getD i []).length)) (fin d (.agg (readO r c p i j (((rows.getD i []).drop j).take m))))
    | _ => .fail
  | .store m a x => a.ev fun a => x.ev fun v => withCels v fun cs => .chk (cs.length == m) (match a with
    | .bp b off => .gb b fun old => .chk (decide (off + cs.length ≤ old.length)) (.sb b (old.take off ++ cs ++ old.drop (off + cs.length)) (.done ()))
    | .ap r c p z i j => takeL cs fun ts => storeAp r c p z i j ts
    | _ => .fail)
  | .nilc x => x.ev fun v =>
    match v with
    | .bp .. => fin d v
    | .ap .. => fin d v
    | .rp .. => fin d v
    | _ => .fail
  | .bin o x y => x.ev fun x => y.ev fun y =>
    match x, y with
    | .one (.pv x), .one (.pv y) => .ov (binV o x y) fun v => fin d (.one (.pv v))
    | _, _ => .fail
  | .beq neg x y => x.ev fun x => y.ev fun y =>
    match x, y with
    | .one (.pv (.bool x)), .one (.pv (.bool y)) => fin d (.one (.pv (.bool ((x == y) != neg))))
    | _, _ => .fail
  | .eqs neg kinds x y => x.ev fun x => y.ev fun y =>
    match x, y with
    | .agg xs, .agg ys => .ov ((eqL kinds xs ys).map fun b => .bool (b != neg)) fun v => fin d (.one (.pv v))
    | _, _ => .fail
  | .not x => x.ev fun v =>
    match v with
    | .one (.pv (.bool b)) => fin d (.one (.pv (.bool (!b))))
    | _ => .fail
  | .conv c x => x.ev fun v =>
    match c with
    | .int k => match v with
      | .one (.pv (.int _ n)) => fin d (.one (.pv (.int k (k.wrap n))))
      | _ => .fail
    | .b2s => match v with
      | .one c => lendC c fun t => match t with
        | .sl _ z _ rows => .chk (z == 1 && areBytes rows) (fin d (.one (.pv (.string ⟨(bytesOf rows).toArray⟩))))
        | _ => .fail
      | _ => .fail
    | .s2b => match v with
      | .one (.pv (.string s)) => .chk (decide (s.size ≤ 4294967296)) (newSl id 1 (ofBytes s.data.toList))
      | _ => .fail
  | .len x => x.ev fun v =>
    match v with
    | .one (.nils _) => fin d (.one (.pv (.int .i64 0)))
    | .one (.ro _ rs) => fin d (.one (.pv (.int .i64 rs.length)))
    | .one (.rf _ _ _ _ _ n) => fin d (.one (.pv (.int .i64 n)))
    | _ => .fail
  | .slen x => x.ev fun v =>
    match v with
    | .one (.pv (.string s)) => fin d (.one (.pv (.int .i64 s.size)))
    | _ => .fail
  | .min x y => x.ev fun x => y.ev fun y =>
    match x, y with
    | .one (.pv (.int k a)), .one (.pv (.int _ b)) => fin d (.one (.pv (.int k (bif decide (b < a) then b else a))))
    | _, _ => .fail
  | .max x y => x.ev fun x => y.ev fun y =>
    match x, y with
    | .one (.pv (.string a)), .one (.pv (.string b)) => fin d (.one (.pv (.string (bif !(Op.bytesLess a.toList b.toList) then a else b))))
    | _, _ => .fail
  | .app z bytes s x => s.ev fun s => x.ev fun x => srcP z x fun new => appP id z bytes s new
  | .apps z bytes s x => s.ev fun s => x.ev fun x => match x with
    | .one (.pv (.string y)) => .chk (z == 1) (appP id z bytes s (ofBytes y.data.toList))
    | _ => .fail
  | .sslice x lo hi => x.ev fun v =>
    match v with
    | .one (.pv (.string s)) => opt? lo 0 fun l => opt? hi s.size fun h => .chk (decide (l ≤ h) && decide (h ≤ s.size)) (fin d (.one (.pv (.string (s.extract l h)))))
    | _ => .fail
  | .slice z x lo hi => x.ev fun v =>
    match v with
    | .one (.nils z') => opt? lo 0 fun l => opt? hi 0 fun h => .chk (decide (l ≤ h) && decide (h ≤ 0)) (fin d (.one (.nils z')))
    | .one (.ro z' rs) => opt? lo 0 fun l => opt? hi rs.length fun h => .chk (z' == z && decide (l ≤ h) && decide (h ≤ rs.length)) (fin d (.one (.ro z' ((rs.drop l).take (h - l)))))
    | .one (.rf r c p z' off n) => .gr r fun cs => node cs c p z' fun _ => opt? lo 0 fun l => opt? hi n fun h => .chk (z' == z && decide (l ≤ h) && decide (h ≤ n)) (fin d (.one (.rf r c p z' (off + l) (h - l))))
    | _ => .fail
  | .faddr x off => x.ev fun v =>
    match v with
    | .bp b o => fin d (.bp b (o + off))
    | .ap r c p z i j => fin d (.ap r c p z i (j + off))
    | .rp ts => fin d (.rp (ts.drop off))
    | _ => .fail
  | .iaddr z x i => x.ev fun v => i.ev fun i => nat? i fun n =>
    match v with
    | .one (.ro z' rs) => match rs[n]? with
      | some r => .chk (z' == z) (fin d (.rp r))
      | none => .fail
    | .one (.rf r c p z' off m) => .gr r fun cs => node cs c p z' fun _ => .chk (z' == z && decide (n < m)) (fin d (.ap r c p z (off + n) 0))
    | _ => .fail
  | .aaddr n z x i => x.ev fun v => i.ev fun i => nat? i fun m =>
    match v with
    | .bp b o => .chk (decide (m < n)) (fin d (.bp b (o + m * z)))
    | _ => .fail
  | .sidx x i => x.ev fun v => i.ev fun i => nat? i fun n =>
    match v with
    | .one (.pv (.string s)) => .chk (decide (n < s.size)) (fin d (.one (.pv (.int .u8 (s.data.toList.getD n 0).toNat))))
    | _ => .fail
  | .mks z bytes zc n => n.ev fun n => nat? n fun n => .chk (decide (n * bytes ≤ 140737488355328) && decide (n ≤ 4294967296)) (newSl id z (List.replicate n zc))
  | .ext x i => x.ev fun v =>
    match v with
    | .tup vs => match vs[i]? with
      | some v => fin d v
      | none => .fail
    | _ => .fail
  | .call f ms xs => evL xs fun vs => callP d id f ms vs
  | .io f x ys => x.ev fun v => evL ys fun vs => ioP d f v vs

structure GOp where
  g : Option (Nat × Bool)
  d : Option Nat
  id : Nat
  o : COp
def GOp.prg (x : GOp) : Prg Unit :=
  match x.g with
  | none => x.o.prg x.d x.id
  | some (t, want) => .gs t fun v =>
    match v with
    | .one (.pv (.bool b)) => bif b == want then x.o.prg x.d x.id else fin x.d (.tup [])
    | .tup [] => fin x.d (.tup [])
    | _ => .fail
/-- One behind the other. -/
def runOps (Te : Nat → List AV → Res → Prop) : List GOp → St → (St → Prop) → Prop
  | [], st, Q => Q st
  | o :: os, st, Q => runP Te o.prg st fun _ st' => runOps Te os st' Q
end Go.X
