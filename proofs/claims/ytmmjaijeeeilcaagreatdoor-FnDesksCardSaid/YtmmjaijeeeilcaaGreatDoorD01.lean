/- Texts: XCall XLeave XFun XCallOp XCallB XCallC XCallD XIo XIo2 XClear XDisp XReg XDraw XNorm XRng XRng2 XRun. -/
import Derived.Test.YtmmjaijeeeilcaaGreatDoorD00
import Derived.Deep.LoopGhost
import Derived.Orders
import Derived.Laws.RangeString
import Derived.Laws.RangeAny
set_option linter.unusedVariables false
set_option linter.unusedSimpArgs false
namespace Go.X
inductive GA where
 | one (t:G)
 | agg (ts:List G)
 | ptr (A:Addr) (ts:List G)
def GA.er:GA→AV
 | .one t=>.one (X.er t)
 | .agg ts=>.agg (ts.map X.er)
 | .ptr _ ts=>.ptr (ts.map X.er)
def GA.val:GA→Value
 | .one t=>hdr t
 | .agg ts=>.agg (ts.map hdr).toArray
 | .ptr A _=>.pointer (some ⟨A.block,A.off,none⟩)
def GA.ts:GA→List G
 | .one t=>[t]
 | .agg ts=>ts
 | .ptr _ ts=>ts
def GA.pb (b:Nat):GA→Nat
 | .ptr A _=>if A.block=b then 1 else 0
 | _=>0
def treeCnt (b:Nat) (gs:List GA):Nat:=cntL b (gs.flatMap GA.ts)
def ptrCnt (b:Nat):List GA→Nat
 | []=>0
 | x::xs=>x.pb b + ptrCnt b xs
def GA.ok (S:Nat→Prop) (w:World) (x:GA):Prop:=(∀ t∈x.ts,Rp S w t)∧∀ A ts,x = .ptr A ts→A.block < w.heap.size∧InMem w A (ts.map hdr)
def resVal:List GA→Value
 | [x]=>x.val
 | xs=>.tuple (xs.map GA.val).toArray
def OutsOK (w:World):List GA→List (List G)→Prop
 | [],[]=>True
 | .one t::xs,o::os=>o.map hdr=[hdr t]∧OutsOK w xs os
 | .agg ts::xs,o::os=>o.map hdr=ts.map hdr∧OutsOK w xs os
 | .ptr A ts::xs,o::os=>o.length=ts.length∧InMem w A (o.map hdr)∧OutsOK w xs os
 | _,_=>False
structure FrameOf (w:World) (gs:List GA) (w':World):Prop where
 os:w'.os=w.os
 tape:w'.tape=w.tape
 output:w'.output=w.output
 size:w.heap.size≤w'.heap.size
 block:∀ b,b < w.heap.size→treeCnt b gs + ptrCnt b gs=0→w'.heap[b]?=w.heap[b]?
 range:∀ A ts,GA.ptr A ts∈gs→∀ o,¬ (A.off≤o∧o < A.off + ts.length)→w'.cell? ⟨A.block,o,none⟩=w.cell? ⟨A.block,o,none⟩∧w'.frozen? ⟨A.block,o,none⟩=w.frozen? ⟨A.block,o,none⟩
def wrapV:Nat→List Value→List Value
 | 0,vs=>vs
 | g + 1,vs=>vs.take (vs.length - 1)++(vs.drop (vs.length - 1)).map fun v=>.func (.func g) #[] #[v]
def TellsW (P:Program) (KP:Kept) (q f:Nat) (as:List AV) (r:Res):Prop :=
 ∀ (S:Nat→Prop) (gs:List GA) (w:World),gs.map GA.er=as→(∀ b,S b→b < w.heap.size)→(∀ x∈gs,x.ok S w)→(∀ b,treeCnt b gs + ptrCnt b gs≤1)→(∀ b,0 < treeCnt b gs + ptrCnt b gs→¬ S b)→KP.ok S w→
  Calls P f (wrapV q (gs.map GA.val)).toArray w fun e w'=>∃ (rs:List GA) (os:List (List G)),e = .returned (resVal rs)∧rs.map GA.er=r.res∧os.map (·.map X.er)=r.outs∧(∀ x∈rs,x.ok S w')∧(∀ o∈os,∀ t∈o,Rp S w' t)∧OutsOK w' gs os∧
   (∀ b,treeCnt b rs + ptrCnt b rs + cntL b os.flatten + ptrCnt b gs≤1)∧(∀ b,0 < treeCnt b rs + ptrCnt b rs + cntL b os.flatten→w.heap.size≤b∨0 < treeCnt b gs)∧FrameOf w gs w'∧∀ A ts,GA.ptr A ts∈rs→w.heap.size≤A.block
def Tells (P:Program) (KP:Kept) (F:Nat) (as:List AV) (r:Res):Prop:=TellsW P KP (F / VN) (F % VN) as r
theorem tells_small {P:Program} {KP:Kept} {f:Nat} {as:List AV} {r:Res} (h:f < VN):Tells P KP f as r=TellsW P KP 0 f as r:=by
 rw [Tells,Nat.div_eq_of_lt h,Nat.mod_eq_of_lt h]
theorem tells_val {P:Program} {KP:Kept} {f g:Nat} {as:List AV} {r:Res} (h:f < VN):Tells P KP (f + VN * (g + 1)) as r=TellsW P KP (g + 1) f as r:=by
 have e1:(f + VN * (g + 1)) / VN=g + 1:=by rw [Nat.add_mul_div_left _ _ (by decide),Nat.div_eq_of_lt h,Nat.zero_add]
 have e2:(f + VN * (g + 1)) % VN=f:=by rw [Nat.add_mul_mod_self_left,Nat.mod_eq_of_lt h]
 rw [Tells,e1,e2]
def slotOf (i:Nat):AV→SV
 | .one t=>.one (celOf i 0 [] t)
 | .agg ts=>.agg (plant i 0 ts)
 | .ptr _=>.bp i 0
def enterS:Nat→List AV→List (Nat×SV)
 | _,[]=>[]
 | i,x::xs=>(i,slotOf i x)::enterS (i + 1) xs
def enterB:Nat→List AV→List (Nat×List Cel)
 | _,[]=>[]
 | i,.ptr ts::xs=>(i,plant i 0 ts)::enterB (i + 1) xs
 | i,_::xs=>enterB (i + 1) xs
def enterR:Nat→List AV→List (Nat×List T)
 | _,[]=>[]
 | i,x::xs=>(i,x.ts)::enterR (i + 1) xs
def enterSt (as:List AV):St:=⟨enterS 0 as,enterB 0 as,enterR 0 as⟩
def GA.addr:GA→Option Addr
 | .ptr A _=>some ⟨A.block,A.off,none⟩
 | _=>none
def enterG (gs:List GA):Gh:=⟨fun k=>(gs[k]?).bind GA.addr,fun k=>(gs[k]?).map GA.ts⟩
theorem get_enterS:∀ (as:List AV) (i k:Nat),get (enterS i as) k=if i≤k then (as[k - i]?).map (slotOf k) else none
 | [],i,k=>by simp [enterS,get]
 | x::xs,i,k=>by
  simp only [enterS,get,get_enterS xs (i + 1) k]
  by_cases e:i=k
  ·subst e; simp
  ·rw [beq_eq_false_iff_ne.2 e]
   simp only [cond_false]
   by_cases h:i≤k
   ·rw [if_pos (by omega),if_pos h,show k - i=(k - (i + 1)) + 1 by omega]; rfl
   ·rw [if_neg (by omega),if_neg h]
theorem get_enterR:∀ (as:List AV) (i k:Nat),get (enterR i as) k=if i≤k then (as[k - i]?).map AV.ts else none
 | [],i,k=>by simp [enterR,get]
 | x::xs,i,k=>by
  simp only [enterR,get,get_enterR xs (i + 1) k]
  by_cases e:i=k
  ·subst e; simp
  ·rw [beq_eq_false_iff_ne.2 e]
   simp only [cond_false]
   by_cases h:i≤k
   ·rw [if_pos (by omega),if_pos h,show k - i=(k - (i + 1)) + 1 by omega]; rfl
   ·rw [if_neg (by omega),if_neg h]
def boxOf (k:Nat):AV→Option (List Cel)
 | .ptr ts=>some (plant k 0 ts)
 | _=>none
theorem get_enterB:∀ (as:List AV) (i k:Nat),get (enterB i as) k=if i≤k then (as[k - i]?).bind (boxOf k) else none
 | [],i,k=>by simp [enterB,get]
 | x::xs,i,k=>by
  have ih:=get_enterB xs (i + 1) k
  by_cases e:i=k
  ·subst e
   cases x with
   | ptr ts=>simp [enterB,get,boxOf]
   | _=>simp [enterB,ih,boxOf]; omega
  ·have h2:get (enterB i (x::xs)) k=get (enterB (i + 1) xs) k:=by
    cases x with
    | ptr ts=>simp [enterB,get,beq_eq_false_iff_ne.2 e]
    | _=>simp [enterB]
   rw [h2,ih]
   by_cases h:i≤k
   ·rw [if_pos (by omega),if_pos h,show k - i=(k - (i + 1)) + 1 by omega]; rfl
   ·rw [if_neg (by omega),if_neg h]
theorem GA.er_ts (x:GA):x.er.ts=x.ts.map X.er:=by cases x <;> rfl
theorem plant_ok {S:Nat→Prop} {g:Gh} {w:World} {r:Nat} {gs:List G} (hg:g.gr r=some gs) (hR:∀ t∈gs,Rp S w t):∀ (ts:List G) (k:Nat),(∀ (l:Nat) (t:G),ts[l]?=some t→gs[k + l]?=some t)→CelsOK S g w (plant r k (ts.map X.er)) (ts.map hdr)
 | [],k,_=>⟨rfl,fun i c u h=>by simp [plant] at h⟩
 | t::ts,k,h=>by
  have h0:gs[k]?=some t:=h 0 t rfl
  have ih:=plant_ok hg hR ts (k + 1) (fun l t' ht'=>by have:=h (l + 1) t' (by simpa using ht'); rwa [show k + (l + 1)=k + 1 + l by omega] at this)
  have h1:CelOK S g w (celOf r k [] (X.er t)) (hdr t):=by
   cases hR t (List.mem_of_getElem? h0) with
   | pv h1=>exact ⟨rfl,h1⟩
   | no h1=>exact h1
   | ro h1=>simpa only [X.er,celOf,CelOK,hdr] using h1
   | @nil z =>
    simp only [X.er,celOf,CelOK,hdr,erLL]
    refine ⟨⟨_,_,rfl,Nat.le_refl _⟩,by rw [hg]; simp,fun m h1 _=>?_⟩
    have:m = .sl true z (.slice none 0 0) []:=by simp [nodeAt,hg,h0,atP] at h1; exact h1.symm
    rw [this]
    exact ⟨none,0,0,none,rfl,rfl,Nat.le_refl _,fun _=>rfl,fun h=>by omega⟩
   | @own z q cap e cur fz rows h1 h2 h3 h4 h5 h6 h7 h8 =>
    simp only [X.er,celOf,CelOK,hdr,erLL_eq,List.length_map]
    refine ⟨⟨_,_,rfl,h3⟩,by rw [hg]; simp,fun m h9 _=>?_⟩
    have:m = .sl true z (.slice (some ⟨q,0,none⟩) rows.length cap) rows:=by simp [nodeAt,hg,h0,atP] at h9; exact h9.symm
    rw [this]
    exact ⟨some ⟨q,0,none⟩,rows.length,cap,some ⟨q,0,none⟩,rfl,rfl,by omega,fun _=>rfl,fun _=>⟨q,rfl,by simp⟩⟩
  have h2:CelsOK S g w [celOf r k [] (X.er t)] [hdr t]:=⟨rfl,fun l c' u hc hu=>by
   cases l with
   | zero=>simp at hc hu; subst hc; subst hu; exact h1
   | succ l=>simp at hc⟩
  simpa [plant] using h2.append ih
theorem plant_length (r:Nat):∀ (ts:List T) (k:Nat),(plant r k ts).length=ts.length
 | [],_=>rfl
 | t::ts,k=>by simp [plant,plant_length r ts (k + 1)]
def rangesOf:List GA→List (Nat×Nat×Nat)
 | []=>[]
 | .ptr A ts::xs=>(A.block,A.off,ts.length)::rangesOf xs
 | _::xs=>rangesOf xs
theorem mem_ranges {gs:List GA} {x:Nat×Nat×Nat} (h:x∈rangesOf gs):∃ A ts,GA.ptr A ts∈gs∧x=(A.block,A.off,ts.length):=by
 induction gs with
 | nil=>simp [rangesOf] at h
 | cons y gs ih =>
  cases y with
  | ptr A ts =>
   simp only [rangesOf,List.mem_cons] at h
   rcases h with rfl | h
   ·exact ⟨A,ts,List.mem_cons_self ..,rfl⟩
   ·obtain ⟨A',ts',h1,h2⟩:=ih h
    exact ⟨A',ts',List.mem_cons_of_mem _ h1,h2⟩
  | _ =>
   obtain ⟨A',ts',h1,h2⟩:=ih h
   exact ⟨A',ts',List.mem_cons_of_mem _ h1,h2⟩
theorem ranges_mem {gs:List GA} {A:Addr} {ts:List G} (h:GA.ptr A ts∈gs):(A.block,A.off,ts.length)∈rangesOf gs:=by
 induction gs with
 | nil=>cases h
 | cons y gs ih =>
  rcases List.mem_cons.1 h with rfl | h'
  ·simp [rangesOf]
  ·have:=ih h'
   cases y <;> simp [rangesOf,this]
theorem ptrCnt_mem {gs:List GA} {A:Addr} {ts:List G} (h:GA.ptr A ts∈gs):1≤ptrCnt A.block gs:=by
 induction gs with
 | nil=>cases h
 | cons y gs ih =>
  simp only [ptrCnt]
  rcases List.mem_cons.1 h with rfl | h
  ·simp [GA.pb]
  ·have:=ih h; omega
theorem ptrCnt_two {gs:List GA} {x y:Nat×Nat×Nat} (hx:x∈rangesOf gs) (hy:y∈rangesOf gs) (e:x.1=y.1) (h1:ptrCnt x.1 gs≤1):x=y:=by
 induction gs with
 | nil=>simp [rangesOf] at hx
 | cons z gs ih =>
  cases z with
  | ptr A ts =>
   simp only [rangesOf,List.mem_cons] at hx hy
   simp only [ptrCnt,GA.pb] at h1
   rcases hx with rfl | hx <;> rcases hy with rfl | hy
   ·rfl
   ·obtain ⟨B,us,h2,h3⟩:=mem_ranges hy
    have:=ptrCnt_mem h2
    rw [h3] at e
    simp at e h1
    rw [← e] at this
    omega
   ·obtain ⟨B,us,h2,h3⟩:=mem_ranges hx
    have:=ptrCnt_mem h2
    rw [h3] at e h1
    simp at e
    simp only [← e,if_true] at h1
    omega
   ·exact ih hx hy (by omega)
  | _ =>
   simp only [rangesOf] at hx hy
   simp only [ptrCnt,GA.pb] at h1
   exact ih hx hy (by omega)
def ctxOf (S:Nat→Prop) (gs:List GA) (w:World) (hS:∀ b,S b→b < w.heap.size) (hok:∀ x∈gs,x.ok S w) (h1:∀ b,treeCnt b gs + ptrCnt b gs≤1) (h2:∀ b,0 < treeCnt b gs + ptrCnt b gs→¬ S b) {KP:Kept} (hK:KP.ok S w):Ctx where
 KP:=KP
 laid:=hK
 w0:=w
 S:=S
 F:=fun b=>0 < treeCnt b gs
 R:=rangesOf gs
 stay:=fun b hb=>⟨hS b hb,fun h=>h2 b (by omega) hb,fun x hx e=>by
  obtain ⟨A,ts,h,rfl⟩:=mem_ranges hx
  have:=ptrCnt_mem h
  simp at e
  rw [e] at this
  exact h2 b (by omega) hb⟩
 apart:=fun x hx=>by
  obtain ⟨A,ts,h,rfl⟩:=mem_ranges hx
  have h3:=ptrCnt_mem h
  have:=h1 A.block
  exact ⟨by simp only; omega,((hok _ h).2 A ts rfl).1⟩
 uniq:=fun x hx y hy e=>ptrCnt_two hx hy e (by have:=h1 x.1; omega)
 H:=fun k=>(gs[k]?).map fun x=>x.ts.map hdr
 isP:=fun k=>decide (k < gs.length)
 PA:=fun k=>(gs[k]?).bind GA.addr
theorem cntL_flatMap_get (b:Nat):∀ (gs:List GA) (k:Nat),cntL b (((gs[k]?).map GA.ts).getD []) + ptrCnt b (gs.take 0)≤treeCnt b gs
 | [],k=>by simp [treeCnt,cntL,ptrCnt]
 | x::xs,0=>by simp [treeCnt,cntL_append,ptrCnt]
 | x::xs,k + 1=>by
  have:=cntL_flatMap_get b xs k
  simp only [treeCnt,List.flatMap_cons,cntL_append,List.getElem?_cons_succ,List.take_zero] at this ⊢
  omega
theorem tot_enter (b:Nat):∀ (gs:List GA),tot ((enterG gs).has b) gs.length=treeCnt b gs + ptrCnt b gs:=by
 have key:∀ (gs:List GA) (m:Nat),m≤gs.length→tot ((enterG gs).has b) m=treeCnt b (gs.take m) + ptrCnt b (gs.take m):=by
  intro gs m
  induction m with
  | zero=>intro _; simp [tot,treeCnt,cntL,ptrCnt]
  | succ m ih =>
   intro hm
   have hk:gs[m]?=some gs[m]:=List.getElem?_eq_getElem (by omega)
   have e:gs.take (m + 1)=gs.take m++[gs[m]]:=by rw [List.take_succ_eq_append_getElem (by omega)]
   have pa:∀ xs ys:List GA,ptrCnt b (xs++ys)=ptrCnt b xs + ptrCnt b ys:=fun xs ys=>by
    induction xs with
    | nil=>simp [ptrCnt]
    | cons x xs ih=>simp only [List.cons_append,ptrCnt,ih]; omega
   have hm1:(enterG gs).has b m=cntL b gs[m].ts + gs[m].pb b:=by
    simp only [Gh.has,enterG,hk,Option.bind_some,Option.map_some,rcnt]
    cases gs[m] <;> simp [GA.addr,bcnt,GA.pb] <;> omega
   show tot ((enterG gs).has b) m + (enterG gs).has b m=_
   rw [ih (by omega),hm1,e,pa]
   simp only [treeCnt,List.flatMap_append,cntL_append,List.flatMap_cons,List.flatMap_nil,List.append_nil,ptrCnt]
   omega
 intro gs
 have:=key gs gs.length (Nat.le_refl _)
 rwa [List.take_length] at this
theorem enter_ok {S:Nat→Prop} {gs:List GA} {w:World} {as:List AV} (ha:gs.map GA.er=as) (hS:∀ b,S b→b < w.heap.size) (hok:∀ x∈gs,x.ok S w) (h1:∀ b,treeCnt b gs + ptrCnt b gs≤1) (h2:∀ b,0 < treeCnt b gs + ptrCnt b gs→¬ S b) {KP:Kept} (hK:KP.ok S w) {n:Nat} (hn:gs.length≤n) :
    Sim (ctxOf S gs w hS hok h1 h2 hK) n (enterG gs) (enterSt as) [] { tmps:=(gs.map GA.val).toArray++Array.replicate (n - (gs.map GA.val).toArray.size) undef,defers:=[] } w:=by
  subst ha
  have hreps:∀ r ts,(enterG gs).gr r=some ts→∀ t∈ts,Rp S w t:=fun r ts hr t ht=>by
    simp only [enterG,Option.map_eq_some_iff] at hr
    obtain ⟨x,hx,rfl⟩:=hr
    exact (hok x (List.mem_of_getElem? hx)).1 t ht
  have hpl:∀ (k:Nat) (x:GA),gs[k]?=some x→CelsOK S (enterG gs) w (plant k 0 (x.ts.map X.er)) (x.ts.map hdr):=fun k x hx =>
    plant_ok (gs:=x.ts) (by simp [enterG,hx]) (fun t ht=>(hok x (List.mem_of_getElem? hx)).1 t ht) x.ts 0 (fun l t h=>by simpa using h)
  refine { frame:=⟨rfl,rfl,rfl,Nat.le_refl _,fun _ _ _ _=>rfl,fun _ _ _ _=>⟨rfl,rfl⟩⟩,defers:=rfl,tmps:=by simp; omega,slots:=fun t v ht=>?_,boxes:=fun b cs hb=>?_,nobox:=fun b hb=>?_,roots:=fun r ts hr=>?_,noroot:=fun r hr=>?_,reps:=hreps,
           held:=fun t ht=>(by cases ht),sole:=⟨gs.length,fun k hk=>?_,fun b=>?_⟩,pb:=fun i A h=>h,hold:=fun i hs hi=>?_,mine:=fun b k hb=>?_ }
  · simp only [enterSt,get_enterS,Nat.zero_le,if_true,Nat.sub_zero,List.getElem?_map,Option.map_map,Option.map_eq_some_iff] at ht
    obtain ⟨x,hx,rfl⟩:=ht
    have hlt:=(List.getElem?_eq_some_iff.1 hx).1
    have hv:((gs.map GA.val).toArray++Array.replicate (n - (gs.map GA.val).toArray.size) undef).getD t undef=x.val:=by
      rw [Array.getD_eq_getD_getElem?,Array.getElem?_append_left (by simpa using hlt)]
      simp [hx]
    show SlotOK S _ _ _ _
    rw [hv]
    have:=hpl t x hx
    cases x with
    | one t0 =>
      simp only [Function.comp,GA.er,slotOf,SlotOK,GA.val]
      exact this.2 0 _ _ rfl rfl
    | agg ts =>
      simp only [Function.comp,GA.er,slotOf,SlotOK,GA.val]
      exact ⟨_,rfl,this⟩
    | ptr A ts =>
      simp only [Function.comp,GA.er,slotOf,SlotOK,GA.val]
      exact ⟨⟨A.block,A.off,none⟩,by simp [enterG,hx,GA.addr],rfl⟩
  · simp only [enterSt,get_enterB,Nat.zero_le,if_true,Nat.sub_zero,List.getElem?_map] at hb
    cases hx:gs[b]? with
    | none=>simp [hx] at hb
    | some x =>
      simp only [hx,Option.map_some,Option.bind_some] at hb
      cases x with
      | ptr A ts =>
        simp only [GA.er,boxOf,Option.some.injEq] at hb
        subst hb
        have hm:=List.mem_of_getElem? hx
        obtain ⟨p1,p2⟩:=(hok _ hm).2 A ts rfl
        have:=hpl b _ hx
        refine ⟨⟨A.block,A.off,none⟩,ts.map hdr,by simp [enterG,hx,GA.addr],p1,p2,this,.inr ⟨by simp [ctxOf,(List.getElem?_eq_some_iff.1 hx).1],_,ranges_mem hm,rfl,rfl,by simp [plant_length]⟩⟩
      | _=>simp [GA.er,boxOf] at hb
  · simp only [enterSt,get_enterB,Nat.zero_le,if_true,Nat.sub_zero,List.getElem?_map] at hb
    simp only [enterG]
    cases hx:gs[b]? with
    | none=>rfl
    | some x=>cases x <;> simp [hx,GA.er,boxOf] at hb <;> rfl
  · simp only [enterSt,get_enterR,Nat.zero_le,if_true,Nat.sub_zero,List.getElem?_map,Option.map_map,Option.map_eq_some_iff] at hr
    obtain ⟨x,hx,rfl⟩:=hr
    exact ⟨x.ts,by simp [enterG,hx],by simp [GA.er_ts]⟩
  · simp only [enterSt,get_enterR,Nat.zero_le,if_true,Nat.sub_zero,List.getElem?_map,Option.map_map,Option.map_eq_none_iff] at hr
    simp [enterG,hr]
  · simp [enterG,List.getElem?_eq_none hk]
  · rw [tot_enter]
    simpa [cntL] using h1 b
  · simp only [ctxOf,Option.map_eq_some_iff] at hi
    obtain ⟨x,hx,rfl⟩:=hi
    exact ⟨x.ts,by simp [enterG,hx],rfl⟩
  · have hk:rcnt b ((enterG gs).gr k)≤treeCnt b gs:=by
      have:=cntL_flatMap_get b gs k
      simp only [enterG]
      cases hx:gs[k]? with
      | none=>simp [rcnt]
      | some x=>simp only [hx,Option.map_some,Option.getD_some,List.take_zero,ptrCnt] at this; simpa [rcnt] using this
    simp only [cntL] at hb
    exact ⟨h2 b (by omega),.inr (by show 0 < treeCnt b gs; omega)⟩
def enterV (q:Nat) (as:List AV):St :=
 match q with
 | 0=>enterSt as
 | g + 1=>{ enterSt as with s:=put (enterSt as).s (as.length - 1) (.fn g (as.length - 1) 0) }
theorem enterV_ok {q:Nat} {S:Nat→Prop} {gs:List GA} {w:World} {as:List AV} (hq:q=0∨∃ xs ts,as=xs++[.ptr ts]) (ha:gs.map GA.er=as) (hS:∀ b,S b→b < w.heap.size) (hok:∀ x∈gs,x.ok S w) (h1:∀ b,treeCnt b gs + ptrCnt b gs≤1) (h2:∀ b,0 < treeCnt b gs + ptrCnt b gs→¬ S b) {KP:Kept} (hK:KP.ok S w) {n:Nat} (hn:gs.length≤n) :
  Sim (ctxOf S gs w hS hok h1 h2 hK) n (enterG gs) (enterV q as) [] { tmps:=(wrapV q (gs.map GA.val)).toArray++Array.replicate (n - (wrapV q (gs.map GA.val)).toArray.size) undef,defers:=[] } w:=by
 have h:=enter_ok ha hS hok h1 h2 hK hn
 cases q with
 | zero=>exact h
 | succ g =>
  rcases hq with hq | ⟨xs,ts,hq⟩
  ·cases hq
  ·have hl:gs.length=xs.length + 1:=by
    have:=congrArg List.length (ha.trans hq)
    simpa using this
   obtain ⟨A,us,hx⟩:∃ A us,gs[xs.length]?=some (.ptr A us):=by
    have e:(gs.map GA.er)[xs.length]?=some (.ptr ts):=by rw [ha,hq]; simp
    rw [List.getElem?_map] at e
    cases hy:gs[xs.length]? with
    | none=>simp [hy] at e
    | some y =>
     simp only [hy,Option.map_some,Option.some.injEq] at e
     cases y with
     | ptr A us=>exact ⟨A,us,rfl⟩
     | _=>simp [GA.er] at e
   have hal:as.length - 1=xs.length:=by rw [hq]; simp
   have h':=h.slot (d:=xs.length) (v:=.fn g xs.length 0) (u:=.func (.func g) #[] #[.pointer (some ⟨A.block,A.off,none⟩)]) (by omega) (by
    simp only [SlotOK]
    exact ⟨⟨A.block,A.off,none⟩,by simp [enterG,hx,GA.addr],rfl⟩)
   have e:({ tmps:=(wrapV (g + 1) (gs.map GA.val)).toArray++Array.replicate (n - (wrapV (g + 1) (gs.map GA.val)).toArray.size) undef,defers:=[] }:Act)=Act.put { tmps:=(gs.map GA.val).toArray++Array.replicate (n - (gs.map GA.val).toArray.size) undef,defers:=[] } (some xs.length) (.func (.func g) #[] #[.pointer (some ⟨A.block,A.off,none⟩)]):=by
    have ew:wrapV (g + 1) (gs.map GA.val)=(gs.map GA.val).set xs.length (.func (.func g) #[] #[.pointer (some ⟨A.block,A.off,none⟩)]):=by
     have hxs:(gs.map GA.val)[xs.length]?=some (.pointer (some ⟨A.block,A.off,none⟩)):=by simp [hx,GA.val]
     have hml:(gs.map GA.val).length=xs.length + 1:=by simpa using hl
     generalize gs.map GA.val=l at hxs hml
     rw [wrapV,hml,Nat.add_sub_cancel]
     have hd:l.drop xs.length=[.pointer (some ⟨A.block,A.off,none⟩)]:=by
      obtain ⟨hlt,e⟩:=List.getElem?_eq_some_iff.1 hxs
      rw [List.drop_eq_getElem_cons hlt,e,List.drop_of_length_le (by omega)]
     rw [hd,List.set_eq_take_append_cons_drop,if_pos (by omega),List.drop_of_length_le (by omega)]
     rfl
    rw [ew]
    simp only [Act.put]
    congr 1
    apply Array.toList_inj.1
    simp [List.set_append,hl]
   rw [e]
   simp only [enterV,hal]
   exact h'
end Go.X

namespace Go.X
section
variable {P:Program} {X:Ctx} {n:Nat} {g:Gh} {st:St} {hand:List G} {a:Act} {w:World} {α:Type} {Te:Nat→List AV→Res→Prop}
inductive RV where
 | tmp (t:Nat)
 | cell (t:Nat) (m:Option Nat)
def resV (v:SV) (k:AV→Prg α):Prg α :=
 match v with
 | .one c=>takeC c fun t=>k (.one t)
 | .agg cs=>takeL cs fun ts=>k (.agg ts)
 | _=>.fail
def leaveR:List RV→(List AV→Prg α)→Prg α
 | [],k=>k []
 | .tmp t::rs,k=>.gs t fun v=>resV v fun x=>leaveR rs fun l=>k (x::l)
 | .cell t m::rs,k=>.gs t fun v=>match v with
  | .bp b off=>.gb b fun cs=>match m with
   | none=>match cs[off]? with
    | some c=>takeC c fun x=>leaveR rs fun l=>k (.one x::l)
    | none=>.fail
   | some m=>.chk (decide (off + m≤cs.length)) (takeL ((cs.drop off).take m) fun xs=>leaveR rs fun l=>k (.agg xs::l))
  | _=>.fail
def leaveO:Nat→List AV→(List (List T)→Prg α)→Prg α
 | _,[],k=>k []
 | i,.ptr _::as,k=>.gb i fun cs=>takeL cs fun ts=>leaveO (i + 1) as fun l=>k (ts::l)
 | i,_::as,k=>.gr i fun ts=>.sr i (ts.map goneC) (leaveO (i + 1) as fun l=>k (ts::l))
def leaveP (as:List AV) (rs:List RV):Prg Res:=leaveR rs fun r=>leaveO 0 as fun os=>.done ⟨r,os⟩
def leavePtr (as:List AV) (t:Nat):Prg Res:=.gs t fun v=>match v with
 | .bp b 0=>.chk (decide (as.length≤b)) (.gb b fun cs=>takeL cs fun ts=>leaveO 0 as fun os=>.done ⟨[.ptr ts],os⟩)
 | _=>.fail
def rvsOk (P:Program):List ResultVar→List RV→Bool
 | [],[]=>true
 | .tmp t::xs,.tmp t'::ys=>t==t'&&rvsOk P xs ys
 | .cell t ty::xs,.cell t' m::ys=>t==t'&&aggT P ty m&&rvsOk P xs ys
 | _,_=>false
def noPtr:GA→Prop
 | .ptr ..=>False
 | _=>True
theorem resV_ok {v:SV} {u:Value} {k:AV→Prg α} {R:α→St→Prop} (h:Sim X n g st hand a w) (hv:SlotOK X.S g w v u) (hp:runP Te (resV v k) st R) :
  ∃ g' st' x,Sim X n g' st' (GA.ts x++hand) a w∧Keeps Never g g'∧x.val=u∧noPtr x∧runP Te (k x.er) st' R∧g'.gb=g.gb∧st'.b=st.b:=by
 unfold resV at hp
 split at hp
 ·simp only [SlotOK] at hv
  obtain ⟨g',st',t,h1,h2,h3,h4,h5,h6,h7⟩:=take_ok h hv hp
  exact ⟨g',st',.one t,h1,h2,h3,trivial,h4,h5,h7⟩
 ·simp only [SlotOK] at hv
  obtain ⟨us,rfl,hc⟩:=hv
  obtain ⟨g',st',ts,h1,h2,h3,h4,h5,h6,h7⟩:=takes_ok h hc hp
  exact ⟨g',st',.agg ts,h1,h2,by simp [GA.val,h3],trivial,h4,h5,h7⟩
 ·exact hp.elim
def runRes (P:Program) (tmps:Array Value) (w:World):List ResultVar→List Value→Prop
 | [],[]=>True
 | .tmp t::xs,v::vs=>v=tmps.getD t undef∧runRes P tmps w xs vs
 | .cell t ty::xs,v::vs=>(∃ ad,tmps.getD t undef = .pointer (some ad)∧(loadVar ty ad).run P w = .ok v w)∧runRes P tmps w xs vs
 | _,_=>False
theorem leaveR_ok {R:α→St→Prop}:∀ {xs:List ResultVar} {rs:List RV} {k:List AV→Prg α} {g:Gh} {st:St} {hand:List G},Sim X n g st hand a w→rvsOk P xs rs=true→runP Te (leaveR rs k) st R→
  ∃ (g':Gh) (st':St) (ys:List GA),Sim X n g' st' (ys.flatMap GA.ts++hand) a w∧runRes P a.tmps w xs (ys.map GA.val)∧(∀ y∈ys,noPtr y)∧runP Te (k (ys.map GA.er)) st' R∧g'.gb=g.gb∧st'.b=st.b
 | [],[],k,g,st,hand,h,_,hp=>⟨g,st,[],h,trivial,fun _ h=>(by cases h),hp,rfl,rfl⟩
 | .tmp t::xs,.tmp t'::rs,k,g,st,hand,h,ho,hp=>by
  simp only [rvsOk,Bool.and_eq_true,beq_iff_eq] at ho
  obtain ⟨rfl,ho⟩:=ho
  simp only [leaveR,runP] at hp
  have hv:∃ v,SlotOK X.S g w v (a.tmps.getD t undef)∧(get st.s t).getD .un=v:=by
   cases hg:get st.s t with
   | none=>exact ⟨.un,by simp [SlotOK],rfl⟩
   | some v=>exact ⟨v,h.slots t v hg,rfl⟩
  obtain ⟨v,hv,e⟩:=hv
  rw [e] at hp
  obtain ⟨g1,st1,x,h1,_,e1,hn1,hp1,b1,bb1⟩:=resV_ok h hv hp
  obtain ⟨g2,st2,ys,h2,e2,hn2,hp2,b2,bb2⟩:=leaveR_ok h1 ho hp1
  refine ⟨g2,st2,x::ys,h2.sub (fun t ht=>?_) (fun b=>?_),⟨e1,e2⟩,fun y hy=>?_,hp2,b2.trans b1,bb2.trans bb1⟩
  ·simp only [List.flatMap_cons,List.mem_append] at ht ⊢
   rcases ht with (h | h) | h
   ·exact .inr (.inl h)
   ·exact .inl h
   ·exact .inr (.inr h)
  ·simp only [List.flatMap_cons,cntL_append]; omega
  ·rcases List.mem_cons.1 hy with rfl | hy
   ·exact hn1
   ·exact hn2 y hy
 | .cell t ty::xs,.cell t' m::rs,k,g,st,hand,h,ho,hp=>by
  simp only [rvsOk,Bool.and_eq_true,beq_iff_eq] at ho
  obtain ⟨⟨rfl,hty⟩,ho⟩:=ho
  simp only [leaveR,runP] at hp
  cases hg:get st.s t with
  | none=>simp [hg] at hp; exact hp.elim
  | some v =>
   rw [hg] at hp
   simp only [Option.getD_some] at hp
   have hv:=h.slots t v hg
   split at hp
   ·rename_i b off
    simp only [SlotOK] at hv
    obtain ⟨A,hA,e⟩:=hv
    simp only [runP] at hp
    cases hb:get st.b b with
    | none=>simp [hb] at hp
    | some cs =>
     simp only [hb] at hp
     obtain ⟨A',us,hA',_,hM,hC,_⟩:=h.boxes b cs hb
     rw [hA] at hA'
     simp at hA'
     subst hA'
     have fin:∀ (y:GA) (g1:Gh) (st1:St),Sim X n g1 st1 (y.ts++hand) a w→(loadVar ty ⟨A.block,A.off + off,none⟩).run P w = .ok y.val w→noPtr y→g1.gb=g.gb→st1.b=st.b→runP Te (leaveR rs fun l=>k (y.er::l)) st1 R→
       ∃ (g':Gh) (st':St) (ys:List GA),Sim X n g' st' (ys.flatMap GA.ts++hand) a w∧runRes P a.tmps w (.cell t ty::xs) (ys.map GA.val)∧(∀ y∈ys,noPtr y)∧runP Te (k (ys.map GA.er)) st' R∧g'.gb=g.gb∧st'.b=st.b:=by
      intro y g1 st1 h1 hl hn1 b1 bb1 hp1
      obtain ⟨g2,st2,ys,h2,e2,hn2,hp2,b2,bb2⟩:=leaveR_ok h1 ho hp1
      refine ⟨g2,st2,y::ys,h2.sub (fun t ht=>?_) (fun b=>?_),⟨⟨_,e,hl⟩,e2⟩,fun y' hy=>?_,hp2,b2.trans b1,bb2.trans bb1⟩
      ·simp only [List.flatMap_cons,List.mem_append] at ht ⊢
       rcases ht with (h | h) | h
       ·exact .inr (.inl h)
       ·exact .inl h
       ·exact .inr (.inr h)
      ·simp only [List.flatMap_cons,cntL_append]; omega
      ·rcases List.mem_cons.1 hy with rfl | hy
       ·exact hn1
       ·exact hn2 y' hy
     cases m with
     | none =>
      simp only at hp
      split at hp
      ·rename_i c hc
       obtain ⟨u,hu,hcu⟩:=hC.get hc
       obtain ⟨g1,st1,x,h1,_,e1,hp1,b1,_,bb1⟩:=take_ok h hcu hp
       have hl:=run_loadOne (P:=P) (w:=w) hty (hM off u hu).1
       simp only [Instr.loadAt,Instr.sureAddr,Sem.run_bind,Sem.run_pure,Result.andThen_ok] at hl
       exact fin (.one x) g1 st1 h1 (by rw [hl]; simp [GA.val,e1]) trivial b1 bb1 hp1
      ·exact hp.elim
     | some m =>
      simp only [runP,decide_eq_true_eq] at hp
      obtain ⟨hle,hp⟩:=hp
      obtain ⟨g1,st1,ts,h1,_,e1,hp1,b1,_,bb1⟩:=takes_ok h ((hC.drop off).take m) hp
      have hl2:((us.drop off).take m).length=m:=by have:=hC.1; simp; omega
      have hl:=run_loadAgg (P:=P) (w:=w) (t:=ty) (ad:=⟨A.block,A.off + off,none⟩) (us:=(us.drop off).take m) (by rw [hl2]; exact hty) (fun j u hj=>by
       rw [List.getElem?_take] at hj
       split at hj
       ·rw [List.getElem?_drop] at hj
        rw [add_none,Nat.add_assoc]
        exact (hM _ u hj).1
       ·cases hj)
      simp only [Instr.loadAt,Instr.sureAddr,Sem.run_bind,Sem.run_pure,Result.andThen_ok] at hl
      exact fin (.agg ts) g1 st1 h1 (by rw [hl]; simp [GA.val,e1]) trivial b1 bb1 hp1
   ·exact hp.elim
 | [],_::_,_,_,_,_,_,ho,_=>by simp [rvsOk] at ho
 | _::_,[],_,_,_,_,_,ho,_=>by simp [rvsOk] at ho
 | .tmp _::_,.cell _ _::_,_,_,_,_,_,ho,_=>by simp [rvsOk] at ho
 | .cell _ _::_,.tmp _::_,_,_,_,_,_,ho,_=>by simp [rvsOk] at ho
def resOf (tmps:Array Value):ResultVar→Sem Value
 | .tmp t=>pure (tmps.getD t undef)
 | .cell t ty=>do loadVar ty (← asAddr (tmps.getD t undef))
theorem runRes_ok:∀ {xs:List ResultVar} {vs:List Value},runRes P a.tmps w xs vs→(xs.mapM (resOf a.tmps)).run P w = .ok vs w
 | [],[],_=>by simp
 | .tmp t::xs,v::vs,h=>by
  have:=runRes_ok h.2
  simp [List.mapM_cons,this,h.1,resOf]
 | .cell t ty::xs,v::vs,h=>by
  have:=runRes_ok h.2
  obtain ⟨ad,e,hl⟩:=h.1
  simp only [Array.getD_eq_getD_getElem?] at e
  simp [List.mapM_cons,this,e,asAddr,hl,resOf]
 | [],_::_,h=>h.elim
 | .tmp _::_,[],h=>h.elim
 | .cell _ _::_,[],h=>h.elim
theorem results_eq (fn:Func) (tmps:Array Value):results fn tmps=(do let vs ← fn.results.mapM (resOf tmps); pure (if h:vs.size=1 then vs[0] else .tuple vs)):=by
 unfold results
 congr 1
theorem results_ok {fn:Func} {ys:List GA} (h:runRes P a.tmps w fn.results.toList (ys.map GA.val)):(results fn a.tmps).run P w = .ok (resVal ys) w:=by
 have h1:=runRes_ok h
 rw [results_eq,Array.mapM_eq_mapM_toList]
 simp only [Sem.run_bind,Sem.run_map,h1,Result.andThen_ok]
 match ys with
 | []=>simp [resVal]
 | [y]=>simp [resVal]
 | y::y'::ys=>simp [resVal]
theorem Sim.giveAll (h:Sim X n g st hand a w) {i:Nat} {ts:List T} (hr:get st.r i=some ts):∃ g' gs,Sim X n g' { st with r:=rep st.r i (ts.map goneC) } (gs++hand) a w∧g.gr i=some gs∧gs.map er=ts∧g'.gb=g.gb∧∀ k,k≠i→g'.gr k=g.gr k:=by
 obtain ⟨gs,hg,rfl⟩:=h.roots i ts hr
 have hk:Keeps Never g (g.setR i (gs.map goneC)):=by
  refine ⟨fun _ _ h=>h,fun k hk=>?_,fun r c p m' _ hr hn hh=>?_⟩
  ·by_cases e:k=i
   ·subst e; rw [setR_same]; simp
   ·rwa [setR_ne _ _ e]
  ·by_cases e:r=i
   ·subst e
    simp only [nodeAt,setR_same,Option.bind_some,hg,List.getElem?_map] at hn ⊢
    cases hc:gs[c]? with
    | none=>simp [hc] at hn
    | some t =>
     simp only [hc,Option.map_some,Option.bind_some] at hn ⊢
     cases t with
     | pv v=>exact ⟨m',hn,hh,rfl⟩
     | no v=>exact ⟨m',hn,hh,rfl⟩
     | sl o z v rows =>
      cases o with
      | false=>exact ⟨m',hn,hh,rfl⟩
      | true =>
       simp only [goneC] at hn
       cases p with
       | nil=>simp [atP] at hn; subst hn; exact ⟨_,rfl,rfl,rfl⟩
       | cons x p=>simp [atP,Tr.own] at hn
   ·rw [nodeAt_setR_ne _ _ e] at hn
    exact ⟨m',hn,hh,rfl⟩
 have e:(gs.map goneC).map er=(gs.map er).map goneC:=by
  rw [List.map_map,List.map_map]
  apply List.map_congr_left
  intro t _
  exact goneC_er t
 have:=h.reroot (hand':=gs++hand) i (gs.map goneC) hk (fun t ht=>by obtain ⟨u,hu,rfl⟩:=List.mem_map.1 ht; exact goneC_rp (h.reps i gs hg u hu))
  (fun t ht=>(List.mem_append.1 ht).elim (fun ht=>h.reps i gs hg t ht) (fun ht=>h.held t ht)) (fun b=>by
   have z:cntL b (gs.map goneC)=0:=by
    generalize gs=l
    induction l with
    | nil=>rfl
    | cons t l ih=>simp [cntL,ih,goneC_cnt]
   rw [z,hg,cntL_append]
   simp [rcnt])
  (fun old ho=>by
   rw [hg] at ho
   simp at ho
   subst ho
   rw [List.map_map]
   apply List.map_congr_left
   intro t _
   exact goneC_hdr t)
 rw [e] at this
 exact ⟨_,gs,this,hg,rfl,rfl,fun k hk=>setR_ne _ _ hk⟩
inductive Ex where
 | nrm
 | exit (id:Nat)
 | ret
def exOf:Exit→Ex→Prop
 | .normal,.nrm=>True
 | .exit i,.exit j=>i=j
 | .ret,.ret=>True
 | _,_=>False
abbrev Done (X:Ctx) (n:Nat) (Q:Ex→St→Prop):Exit→Act→World→Prop:=fun e a w=>∃ ex g st,exOf e ex∧Q ex st∧Sim X n g st [] a w
def xC (P:Program) (X:Ctx) (n:Nat) (c:Code) (st:St) (Q:Ex→St→Prop):Prop:=∀ g a w,Sim X n g st [] a w→c.wp P (Done X n Q) a w
def Then (K:St→Prop) (Q:Ex→St→Prop):Ex→St→Prop
 | .nrm,st=>K st
 | e,st=>Q e st
theorem x_seq {c d:Code} {st:St} {Q:Ex→St→Prop} (h:xC P X n c st (Then (fun st'=>xC P X n d st' Q) Q)):xC P X n (.seq c d) st Q:=fun g a w hs =>
 wp_seq (wp_mono (h g a w hs) fun e a' w' hq=>by
  obtain ⟨ex,g',st',h1,h2,h3⟩:=hq
  cases e <;> cases ex <;> simp only [exOf] at h1 <;> first
   | exact h2 g' a' w' h3
   | exact ⟨.exit _,g',st',h1,h2,h3⟩
   | exact ⟨.ret,g',st',trivial,h2,h3⟩)
theorem x_skip {st:St} {Q:Ex→St→Prop} (h:Q .nrm st):xC P X n .skip st Q:=fun g a w hs=>wp_skip ⟨.nrm,g,st,trivial,h,hs⟩
theorem x_ret {st:St} {Q:Ex→St→Prop} (h:Q .ret st):xC P X n .ret st Q:=fun g a w hs=>wp_ret ⟨.ret,g,st,trivial,h,hs⟩
theorem x_exit {id:Nat} {st:St} {Q:Ex→St→Prop} (h:Q (.exit id) st):xC P X n (.exit id) st Q:=fun g a w hs=>wp_exit ⟨.exit id,g,st,rfl,h,hs⟩
def InBlock (id:Nat) (Q:Ex→St→Prop):Ex→St→Prop
 | .exit i,st=>if i=id then Q .nrm st else Q (.exit i) st
 | e,st=>Q e st
theorem x_block {id:Nat} {c:Code} {st:St} {Q:Ex→St→Prop} (h:xC P X n c st (InBlock id Q)):xC P X n (.block id c) st Q:=fun g a w hs =>
 wp_block (wp_mono (h g a w hs) fun e a' w' hq=>by
  obtain ⟨ex,g',st',h1,h2,h3⟩:=hq
  cases e <;> cases ex <;> simp only [exOf] at h1
  ·exact ⟨.nrm,g',st',trivial,h2,h3⟩
  ·subst h1
   rename_i i
   simp only [InBlock] at h2
   simp only [Exit.inBlock]
   split
   ·rename_i e; rw [if_pos e] at h2; exact ⟨.nrm,g',st',trivial,h2,h3⟩
   ·rename_i e; rw [if_neg e] at h2; exact ⟨.exit i,g',st',rfl,h2,h3⟩
  ·exact ⟨.ret,g',st',trivial,h2,h3⟩)
theorem x_cond {t:Nat} {c d:Code} {st:St} {Q:Ex→St→Prop} {b:Bool} (hb:get st.s t=some (.one (.pv (.bool b)))) (h1:b=true→xC P X n c st Q) (h2:b=false→xC P X n d st Q):xC P X n (.cond (.tmp t) c d) st Q:=fun g a w hs=>by
 have hv:=hs.slots t _ hb
 have e:=one_pv hv
 cases b with
 | true=>exact wp_cond_true (by exact e) (h1 rfl g a w hs)
 | false=>exact wp_cond_false (by exact e) (h2 rfl g a w hs)
theorem x_mono {c:Code} {st:St} {Q Q':Ex→St→Prop} (h:xC P X n c st Q) (hq:∀ e s,Q e s→Q' e s):xC P X n c st Q':=fun g a w hs =>
 wp_mono (h g a w hs) fun _ _ _ ⟨ex,g',st',h1,h2,h3⟩=>⟨ex,g',st',h1,hq _ _ h2,h3⟩
def Weak (X:Ctx) (n:Nat) (s s':St):Prop:=∀ g a w,Sim X n g s [] a w→∃ g',Sim X n g' s' [] a w
theorem Weak.refl (s:St):Weak X n s s:=fun g _ _ h=>⟨g,h⟩
theorem Weak.trans {s s1 s2:St} (h:Weak X n s s1) (k:Weak X n s1 s2):Weak X n s s2:=fun g a w hs=>let ⟨g1,h1⟩:=h g a w hs; k g1 a w h1
theorem x_weak {c:Code} {s s':St} {Q:Ex→St→Prop} (hw:Weak X n s s') (h:xC P X n c s' Q):xC P X n c s Q:=fun g a w hs=>let ⟨g',h'⟩:=hw g a w hs; h g' a w h'
theorem x_loop {c:Code} {st s0:St} {Q:Ex→St→Prop} (I:Nat→St→Prop) (m:Nat) (hw:Weak X n st s0) (h0:I m s0) (round:∀ k s,I k s→xC P X n c s (Then (fun s'=>∃ s'' k',Weak X n s' s''∧k' < k∧I k' s'') Q)):xC P X n (.loop c) st Q:=fun g a w hs=>by
 obtain ⟨g0,hs0⟩:=hw g a w hs
 refine wp_loop_ghost (fun k a w=>∃ s g,I k s∧Sim X n g s [] a w) m ⟨s0,g0,h0,hs0⟩ ?_
 rintro k a w ⟨s,g,hI,hs⟩
 refine wp_mono (round k s hI g a w hs) fun e a' w' hq=>?_
 obtain ⟨ex,g',st',h1,h2,h3⟩:=hq
 cases e <;> cases ex <;> simp only [exOf] at h1
 ·obtain ⟨s'',k',w1,w2,w3⟩:=h2
  obtain ⟨g'',h4⟩:=w1 g' a' w' h3
  exact ⟨k',w2,s'',g'',w3,h4⟩
 ·exact ⟨.exit _,g',st',h1,h2,h3⟩
 ·exact ⟨.ret,g',st',trivial,h2,h3⟩
end
end Go.X

namespace Go.X
section
variable {P:Program} {n:Nat} {g:Gh} {st:St} {hand:List G} {a:Act} {w w':World} {α:Type} {Te:Nat→List AV→Res→Prop}
def NA (X:Ctx) (na:Nat):Prop:=∀ i,na≤i→X.H i=none∧X.PA i=none
theorem leaveO_ok {R:α→St→Prop} {S:Nat→Prop} {gs:List GA} {hS:∀ b,S b→b < w.heap.size} {hok:∀ x∈gs,x.ok S w} {c1:∀ b,treeCnt b gs + ptrCnt b gs≤1} {c2:∀ b,0 < treeCnt b gs + ptrCnt b gs→¬ S b} {KP:Kept} {hK:KP.ok S w} :
  ∀ (xs:List GA) (i:Nat) {k:List (List T)→Prg α} {g:Gh} {st:St} {hand:List G},(∀ (l:Nat) (x:GA),xs[l]?=some x→gs[i + l]?=some x)→Sim (ctxOf S gs w hS hok c1 c2 hK) n g st hand a w'→runP Te (leaveO i (xs.map GA.er) k) st R→
  ∃ (g':Gh) (st':St) (os:List (List G)),Sim (ctxOf S gs w hS hok c1 c2 hK) n g' st' (os.flatten++hand) a w'∧runP Te (k (os.map (·.map er))) st' R∧OutsOK w' xs os∧g'.gb=g.gb
 | [],i,k,g,st,hand,_,h,hp=>⟨g,st,[],h,hp,trivial,rfl⟩
 | x::xs,i,k,g,st,hand,hx,h,hp=>by
  have hx0:gs[i]?=some x:=hx 0 x rfl
  have hxs:∀ (l:Nat) (y:GA),xs[l]?=some y→gs[i + 1 + l]?=some y:=fun l y hy=>by have:=hx (l + 1) y (by simpa using hy); rwa [show i + (l + 1)=i + 1 + l by omega] at this
  have plain:∀ {k':List T→Prg α},(.gr i fun ts=>.sr i (ts.map goneC) (leaveO (i + 1) (xs.map GA.er) fun l=>k (ts::l)):Prg α)=(.gr i fun ts=>.sr i (ts.map goneC) (leaveO (i + 1) (xs.map GA.er) fun l=>k (ts::l))):=rfl
  have doPlain:runP Te (.gr i fun ts=>.sr i (ts.map goneC) (leaveO (i + 1) (xs.map GA.er) fun l=>k (ts::l))) st R→∃ (g':Gh) (st':St) (os:List (List G)) (o:List G),Sim (ctxOf S gs w hS hok c1 c2 hK) n g' st' ((o::os).flatten++hand) a w'∧runP Te (k ((o::os).map (·.map er))) st' R∧o.map hdr=x.ts.map hdr∧OutsOK w' xs os∧g'.gb=g.gb:=by
   intro hp
   simp only [runP] at hp
   cases hr:get st.r i with
   | none=>simp [hr] at hp
   | some ts =>
    simp only [hr] at hp
    obtain ⟨g1,o,h1,e1,rfl,b1,_⟩:=h.giveAll hr
    obtain ⟨g2,st2,os,h2,hp2,ho,b2⟩:=leaveO_ok xs (i + 1) hxs h1 hp
    obtain ⟨o',e2,e3⟩:=h.hold i (x.ts.map hdr) (by simp [ctxOf,hx0])
    rw [e1] at e2
    simp at e2
    subst e2
    refine ⟨g2,st2,os,o,h2.sub (fun t ht=>?_) (fun b=>?_),hp2,e3,ho,b2.trans b1⟩
    ·simp only [List.flatten_cons,List.mem_append] at ht ⊢
     rcases ht with (h | h) | h
     ·exact .inr (.inl h)
     ·exact .inl h
     ·exact .inr (.inr h)
    ·simp only [List.flatten_cons,cntL_append]; omega
  cases x with
  | one t =>
   obtain ⟨g',st',os,o,h1,h2,h3,h4,h5⟩:=doPlain hp
   exact ⟨g',st',o::os,h1,h2,⟨h3,h4⟩,h5⟩
  | agg ts =>
   obtain ⟨g',st',os,o,h1,h2,h3,h4,h5⟩:=doPlain hp
   exact ⟨g',st',o::os,h1,h2,⟨h3,h4⟩,h5⟩
  | ptr A ts =>
   simp only [List.map_cons,GA.er,leaveO,runP] at hp
   cases hb:get st.b i with
   | none=>simp [hb] at hp
   | some cs =>
    simp only [hb] at hp
    obtain ⟨A',us,hA',_,hM,hC,hR⟩:=h.boxes i cs hb
    have hpb:=h.pb i ⟨A.block,A.off,none⟩ (by simp [ctxOf,hx0,GA.addr])
    rw [hA'] at hpb
    simp at hpb
    subst hpb
    have hm:=List.mem_of_getElem? hx0
    have hAl:=((hok _ hm).2 A ts rfl).1
    have hlen:cs.length=ts.length:=by
     rcases hR with hR | ⟨_,y,hy,e1,e2,e3⟩
     ·have:w.heap.size≤A.block:=hR
      omega
     ·have:=(ctxOf S gs w hS hok c1 c2 hK).uniq y hy _ (ranges_mem hm) e1.symm
      rw [e3,this]
    obtain ⟨g1,st1,o,h1,_,e1,hp1,b1,_,_⟩:=takes_ok h hC hp
    obtain ⟨g2,st2,os,h2,hp2,ho,b2⟩:=leaveO_ok xs (i + 1) hxs h1 hp1
    refine ⟨g2,st2,o::os,h2.sub (fun t ht=>?_) (fun b=>?_),hp2,⟨?_,?_,ho⟩,b2.trans b1⟩
    ·simp only [List.flatten_cons,List.mem_append] at ht ⊢
     rcases ht with (h | h) | h
     ·exact .inr (.inl h)
     ·exact .inl h
     ·exact .inr (.inr h)
    ·simp only [List.flatten_cons,cntL_append]; omega
    ·rw [← hlen,hC.1,← e1,List.length_map]
    ·rw [e1]; exact hM
theorem tot_mono {f : Nat → Nat} {m : Nat} : ∀ {N : Nat}, m ≤ N → tot f m ≤ tot f N
  | 0, h => by have : m = 0 := by omega
               subst this; exact Nat.le_refl _
  | N + 1, h => by
    by_cases e : m = N + 1
    · subst e; exact Nat.le_refl _
    · have := tot_mono (f := f) (m := m) (N := N) (by omega)
      simp only [tot]; omega
theorem tot_plus {f:Nat→Nat} {m k:Nat} (h:m≤k):∀ {N:Nat},k < N→tot f m + f k≤tot f N
 | 0,h=>by omega
 | N + 1,h'=>by
  simp only [tot]
  by_cases e:k=N
  ·subst e
   have:=tot_mono (f:=f) h
   omega
  ·have:=tot_plus (f:=f) h (N:=N) (by omega)
   omega
theorem ptr_tot {gs:List GA} (hp:∀ (i:Nat) (A:Addr),(gs[i]?).bind GA.addr=some A→g.gb i=some A) (b:Nat):∀ m,m≤gs.length→ptrCnt b (gs.take m)≤tot (g.has b) m
 | 0,_=>by simp [ptrCnt]
 | m + 1,hm=>by
  have ih:=ptr_tot hp b m (by omega)
  have pa:∀ xs ys:List GA,ptrCnt b (xs++ys)=ptrCnt b xs + ptrCnt b ys:=fun xs ys=>by
   induction xs with
   | nil=>simp [ptrCnt]
   | cons x xs ih=>simp only [List.cons_append,ptrCnt,ih]; omega
  rw [List.take_succ_eq_append_getElem (by omega),pa]
  simp only [ptrCnt,tot]
  have:gs[m].pb b≤g.has b m:=by
   have hk:gs[m]?=some gs[m]:=List.getElem?_eq_getElem (by omega)
   cases hx:gs[m] with
   | ptr A ts =>
    have:=hp m ⟨A.block,A.off,none⟩ (by rw [hk,hx]; rfl)
    simp only [Gh.has,this,bcnt,GA.pb]
    omega
   | _=>simp [GA.pb]
  omega
theorem frameOf {X:Ctx} {gs:List GA} (h:Frame X w') (hw:X.w0=w) (hF:∀ b,X.F b→0 < treeCnt b gs) (hR:X.R=rangesOf gs):FrameOf w gs w':=by
 subst hw
 refine ⟨h.os,h.tape,h.output,h.size,fun b hb hc=>h.block b hb (fun hF'=>by have:=hF b hF'; omega) (fun x hx e=>?_),fun A ts hm o ho=>?_⟩
 ·rw [hR] at hx
  obtain ⟨A,ts,h1,rfl⟩:=mem_ranges hx
  have:=ptrCnt_mem h1
  simp at e
  rw [e] at this
  omega
 ·exact h.range (A.block,A.off,ts.length) (by rw [hR]; exact ranges_mem hm) o ho
theorem noPtr_cnt (b:Nat):∀ {ys:List GA},(∀ y∈ys,noPtr y)→ptrCnt b ys=0
 | [],_=>rfl
 | y::ys,h=>by
  have h1:=h y (List.mem_cons_self ..)
  have h2:=noPtr_cnt b (ys:=ys) (fun y hy=>h y (List.mem_cons_of_mem _ hy))
  cases y <;> simp [ptrCnt,GA.pb,h2] <;> exact h1.elim
theorem sole_ptr {gs:List GA} (hs:Sole g hand) (hp:∀ (i:Nat) (A:Addr),(gs[i]?).bind GA.addr=some A→g.gb i=some A) (b:Nat):ptrCnt b gs + cntL b hand≤1∧∀ k,gs.length≤k→ptrCnt b gs + bcnt b (g.gb k) + cntL b hand≤1:=by
 obtain ⟨N,h1,h2⟩:=hs
 have e:=tot_more (f:=g.has b) (N:=N) (max N gs.length) (by omega) (fun j hj=>has_none (h1 j hj) b)
 have a1:=ptr_tot hp b gs.length (Nat.le_refl _)
 rw [List.take_length] at a1
 have a2:=tot_mono (f:=g.has b) (m:=gs.length) (N:=max N gs.length) (by omega)
 have a3:=h2 b
 refine ⟨by omega,fun k hk=>?_⟩
 have e':=tot_more (f:=g.has b) (N:=N) (max N (k + 1)) (by omega) (fun j hj=>has_none (h1 j hj) b)
 have a4:=tot_plus (f:=g.has b) hk (N:=max N (k + 1)) (by omega)
 have:bcnt b (g.gb k)≤g.has b k:=by simp only [Gh.has]; omega
 omega
theorem TellsW.of {KP:Kept} {q f:Nat} {fn:Func} {c:Code} {as:List AV} {rs:List RV} {r0:Res} (hf:P.funcs[f]?=some fn) (hb:fn.body=some c) (hn:as.length≤fn.ntmps) (hq:q=0∨∃ xs ts,as=xs++[.ptr ts]) (hr:rvsOk P fn.results.toList rs=true)
  (h:∀ X,X.KP=KP→NA X as.length→xC P X fn.ntmps c (enterV q as) (fun ex st=>(ex = .nrm∨ex = .ret)∧runP (Tells P KP) (leaveP as rs) st (fun r _=>r=r0))):TellsW P KP q f as r0:=by
 intro S gs w ha hS hok c1 c2 hK
 have hlen:gs.length=as.length:=by rw [← ha]; simp
 refine calls_of_wp hf hb (wp_mono (h (ctxOf S gs w hS hok c1 c2 hK) rfl (fun i hi=>by simp [ctxOf,List.getElem?_eq_none (show gs.length≤i by omega)]) _ _ _ (enterV_ok hq ha hS hok c1 c2 hK (n:=fn.ntmps) (by omega))) ?_)
 intro e a' w' hq
 obtain ⟨ex,g',st',h1,⟨h2,hp⟩,hs⟩:=hq
 have fin:bodyPost P fn (fun e w'=>∃ (rs:List GA) (os:List (List G)),e = .returned (resVal rs)∧rs.map GA.er=r0.res∧os.map (·.map X.er)=r0.outs∧(∀ x∈rs,x.ok S w')∧(∀ o∈os,∀ t∈o,Rp S w' t)∧OutsOK w' gs os∧
   (∀ b,treeCnt b rs + ptrCnt b rs + cntL b os.flatten + ptrCnt b gs≤1)∧(∀ b,0 < treeCnt b rs + ptrCnt b rs + cntL b os.flatten→w.heap.size≤b∨0 < treeCnt b gs)∧FrameOf w gs w'∧∀ A ts,GA.ptr A ts∈rs→w.heap.size≤A.block) .ret a' w':=by
  obtain ⟨g1,st1,ys,k1,k2,k3,k4,k5,_⟩:=leaveR_ok hs hr hp
  rw [← ha] at k4
  obtain ⟨g2,st2,os,k6,k7,k8,k9⟩:=leaveO_ok (S:=S) (gs:=gs) gs 0 (fun l x hx=>by simpa using hx) k1 k4
  simp only [runP] at k7
  subst k7
  refine ⟨hs.defers,resVal ys,results_ok k2,ys,os,rfl,rfl,rfl,fun x hx=>⟨fun t ht=>k6.held t ?_,fun A ts e=>?_⟩,fun o ho t ht=>k6.held t ?_,k8,fun b=>?_,fun b hb=>?_,frameOf hs.frame rfl (fun b hb=>hb) rfl,fun A ts hm=>(k3 _ hm).elim⟩
  ·simp only [List.append_nil,List.mem_append]
   exact .inr (List.mem_flatMap.2 ⟨x,hx,ht⟩)
  ·have:=k3 x hx
   rw [e] at this
   exact this.elim
  ·simp only [List.mem_append]
   exact .inl (List.mem_flatten.2 ⟨o,ho,ht⟩)
  ·have:=(sole_ptr (gs:=gs) k6.sole (fun i A hi=>k6.pb i A hi) b).1
   rw [noPtr_cnt b k3]
   simp only [cntL_append,List.append_nil] at this
   simp only [treeCnt]
   omega
  ·rw [noPtr_cnt b k3] at hb
   have:=(k6.mine b 0 (by simp only [cntL_append,List.append_nil,treeCnt] at hb ⊢; omega)).2
   exact this
 rcases h2 with rfl | rfl
 ·cases e <;> simp only [exOf] at h1
  exact fin
 ·cases e <;> simp only [exOf] at h1
  exact fin
theorem TellsW.ofPtr {KP:Kept} {f:Nat} {fn:Func} {c:Code} {as:List AV} {t:Nat} {r0:Res} (hf:P.funcs[f]?=some fn) (hb:fn.body=some c) (hn:as.length≤fn.ntmps) (hr:fn.results = #[.tmp t])
  (h:∀ X,X.KP=KP→NA X as.length→xC P X fn.ntmps c (enterSt as) (fun ex st=>(ex = .nrm∨ex = .ret)∧runP (Tells P KP) (leavePtr as t) st (fun r _=>r=r0))):TellsW P KP 0 f as r0:=by
 intro S gs w ha hS hok c1 c2 hK
 have hlen:gs.length=as.length:=by rw [← ha]; simp
 refine calls_of_wp hf hb (wp_mono (h (ctxOf S gs w hS hok c1 c2 hK) rfl (fun i hi=>by simp [ctxOf,List.getElem?_eq_none (show gs.length≤i by omega)]) _ _ _ (enter_ok ha hS hok c1 c2 hK (n:=fn.ntmps) (by omega))) ?_)
 intro e a' w' hq
 obtain ⟨ex,g',st',h1,⟨h2,hp⟩,hs⟩:=hq
 have fin:bodyPost P fn (fun e w'=>∃ (rs:List GA) (os:List (List G)),e = .returned (resVal rs)∧rs.map GA.er=r0.res∧os.map (·.map X.er)=r0.outs∧(∀ x∈rs,x.ok S w')∧(∀ o∈os,∀ t∈o,Rp S w' t)∧OutsOK w' gs os∧
   (∀ b,treeCnt b rs + ptrCnt b rs + cntL b os.flatten + ptrCnt b gs≤1)∧(∀ b,0 < treeCnt b rs + ptrCnt b rs + cntL b os.flatten→w.heap.size≤b∨0 < treeCnt b gs)∧FrameOf w gs w'∧∀ A ts,GA.ptr A ts∈rs→w.heap.size≤A.block) .ret a' w':=by
  simp only [leavePtr,runP] at hp
  cases hg:get st'.s t with
  | none=>simp [hg] at hp; exact hp.elim
  | some v =>
   rw [hg] at hp
   simp only [Option.getD_some] at hp
   have hv:=hs.slots t v hg
   split at hp
   ·rename_i b
    simp only [SlotOK] at hv
    obtain ⟨A,hA,ev⟩:=hv
    simp only [runP,decide_eq_true_eq] at hp
    obtain ⟨hbn,hp⟩:=hp
    cases hb:get st'.b b with
    | none=>simp [hb] at hp
    | some cs =>
     simp only [hb] at hp
     obtain ⟨A',us,hA',hlt,hM,hC,hR⟩:=hs.boxes b cs hb
     rw [hA] at hA'
     simp at hA'
     subst hA'
     have hge:w.heap.size≤A.block:=by
      rcases hR with hR | ⟨hR,_⟩
      ·exact hR
      ·simp only [ctxOf,decide_eq_true_eq] at hR
       omega
     obtain ⟨g1,st1,ts,k1,_,e1,k4,b1,_,_⟩:=takes_ok hs hC hp
     rw [← ha] at k4
     obtain ⟨g2,st2,os,k6,k7,k8,k9⟩:=leaveO_ok (S:=S) (gs:=gs) gs 0 (fun l x hx=>by simpa using hx) k1 k4
     simp only [runP] at k7
     subst k7
     have hgb:g2.gb b=some A:=by rw [k9,b1,hA]
     refine ⟨hs.defers,resVal [.ptr A ts],?_,[.ptr A ts],os,rfl,rfl,rfl,fun x hx=>?_,fun o ho t ht=>k6.held t ?_,k8,fun x=>?_,fun x hx=>?_,frameOf hs.frame rfl (fun b hb=>hb) rfl,fun A' ts' hm=>by simp only [List.mem_singleton,GA.ptr.injEq] at hm; rw [hm.1]; exact hge⟩
     ·have:(results fn a'.tmps).run P w' = .ok (a'.tmps.getD t undef) w':=by
       rw [results_eq,hr]
       simp [resOf]
      rw [this,ev]
      rfl
     ·simp only [List.mem_singleton] at hx
      subst hx
      refine ⟨fun t ht=>k6.held t ?_,fun A' ts' e=>?_⟩
      ·simp only [List.append_nil,List.mem_append]
       exact .inr ht
      ·simp only [GA.ptr.injEq] at e
       obtain ⟨rfl,rfl⟩:=e
       exact ⟨hlt,by rw [e1]; exact hM⟩
     ·simp only [List.mem_append]
      exact .inl (List.mem_flatten.2 ⟨o,ho,ht⟩)
     ·have:=(sole_ptr (gs:=gs) k6.sole (fun i A hi=>k6.pb i A hi) x).2 b (by omega)
      rw [hgb] at this
      simp only [cntL_append,List.append_nil,bcnt] at this
      simp only [treeCnt,ptrCnt,GA.pb,List.flatMap_cons,List.flatMap_nil,GA.ts,List.append_nil]
      omega
     ·by_cases h0:A.block=x
      ·left; omega
      ·simp only [treeCnt,ptrCnt,GA.pb,List.flatMap_cons,List.flatMap_nil,GA.ts,List.append_nil,if_neg h0] at hx
       have:=(k6.mine x 0 (by simp only [cntL_append,List.append_nil]; omega)).2
       exact this
   ·exact hp.elim
 rcases h2 with rfl | rfl
 ·cases e <;> simp only [exOf] at h1
  exact fin
 ·cases e <;> simp only [exOf] at h1
  exact fin
end
end Go.X

namespace Go.X
section
variable {P:Program} {X:Ctx} {n:Nat} {g:Gh} {st:St} {hand:List G} {a:Act} {w w':World} {α:Type} {Te:Nat→List AV→Res→Prop} {o:Oper} {K:St→Prop} {Q:Exit→Act→World→Prop}
theorem Sim.ext {st':St} (h:Sim X n g st hand a w) (h1:∀ k,get st'.s k=get st.s k) (h2:∀ k,get st'.b k=get st.b k) (h3:∀ k,get st'.r k=get st.r k):Sim X n g st' hand a w :=
 { h with slots:=fun t v ht=>h.slots t v (by rw [← h1]; exact ht),boxes:=fun b cs hb=>h.boxes b cs (by rw [← h2]; exact hb),nobox:=fun b hb=>h.nobox b (by rw [← h2]; exact hb),roots:=fun r ts hr=>h.roots r ts (by rw [← h3]; exact hr),noroot:=fun r hr=>h.noroot r (by rw [← h3]; exact hr) }
theorem Sim.recel (h:Sim X n g st hand a w) {b off:Nat} {cs pl:List Cel} {A:Addr} {vs:List Value} (hb:get st.b b=some cs) (hA:g.gb b=some A) (hl:off + pl.length≤cs.length) (hp:CelsOK X.S g w pl vs) (hM:InMem w ⟨A.block,A.off + off,none⟩ vs) :
    Sim X n g { st with b:=rep st.b b (cs.take off++pl++cs.drop (off + pl.length)) } hand a w :=
  { h with
    boxes:=fun k ks hk=>by
      simp only [get_rep_if] at hk
      split at hk
      · rename_i e
        subst e
        simp only [Option.some.injEq] at hk
        subst hk
        obtain ⟨A',us,hA',f2,f3,f4,f5⟩:=h.boxes k cs hb
        rw [hA] at hA'
        simp at hA'
        subst hA'
        have hvl:vs.length=pl.length:=hp.1.symm
        have hul:us.length=cs.length:=f4.1.symm
        refine ⟨A,us.take off++vs++us.drop (off + pl.length),hA,f2,fun i u hu=>?_,((f4.take off).append hp).append (f4.drop _),?_⟩
        · by_cases hin:off≤i∧i < off + vs.length
          · have e1:=seg_in us off vs (by omega) (i - off) (by omega)
            rw [hvl,show off + (i - off)=i by omega,hu] at e1
            have:=hM (i - off) u e1.symm
            simp only [Nat.add_assoc] at this
            rwa [show off + (i - off)=i by omega] at this
          · have hi:i < us.length:=by
              have:=(List.getElem?_eq_some_iff.1 hu).1
              rw [← hvl,seg_len us off vs (by omega)] at this
              exact this
            have e1:=seg_out us off vs (by omega) i (by omega)
            rw [hvl] at e1
            rw [e1] at hu
            exact f3 i u hu
        · rcases f5 with f5 | ⟨f5,x,hx,e1,e2,e3⟩
          · exact .inl f5
          · exact .inr ⟨f5,x,hx,e1,e2,by rw [← e3]; simp; omega⟩
      · exact h.boxes k ks hk
    nobox:=fun k hk=>by
      simp only [get_rep_if] at hk
      split at hk
      · cases hk
      · exact h.nobox k hk }
theorem Sim.boxS (h:Sim X n g st hand a w) {k:Nat} {A:Addr} (hA:g.gb k=some A):¬ X.S A.block∧A.block < w.heap.size∧(∀ b,b < X.w0.heap.size→¬ X.F b→(∀ x∈X.R,x.1≠b)→A.block≠b):=by
 cases hb:get st.b k with
 | none=>rw [h.nobox k hb] at hA; cases hA
 | some cs =>
  obtain ⟨A',us,e,f2,_,_,f5⟩:=h.boxes k cs hb
  rw [hA] at e
  simp at e
  subst e
  refine ⟨fun hS=>?_,f2,fun b hb hF hR e=>?_⟩
  ·obtain ⟨s1,_,s3⟩:=X.stay _ hS
   rcases f5 with f5 | ⟨_,x,hx,e1,_⟩
   ·omega
   ·exact s3 x hx e1.symm
  ·rcases f5 with f5 | ⟨_,x,hx,e1,_⟩
   ·omega
   ·exact hR x hx (by rw [← e1,e])
theorem Sim.after {us news:List G} (h:Sim X n g st (us++hand) a w) (Pk:Nat→Prop) (hos:w'.os=w.os) (htp:w'.tape=w.tape) (hout:w'.output=w.output) (hsz:w.heap.size≤w'.heap.size)
    (hblk:∀ b,b < w.heap.size→cntL b us=0→(∀ k A,Pk k→g.gb k=some A→A.block≠b)→w'.heap[b]?=w.heap[b]?)
    (hbox:∀ k A cs,Pk k→g.gb k=some A→get st.b k=some cs→∃ off vs,off + vs.length≤cs.length∧InMem w' ⟨A.block,A.off + off,none⟩ vs∧(∀ i,off≤i→i < off + vs.length→cs[i]?=some .dead)∧
      ∀ o,¬ (A.off + off≤o∧o < A.off + off + vs.length)→w'.cell? ⟨A.block,o,none⟩=w.cell? ⟨A.block,o,none⟩∧w'.frozen? ⟨A.block,o,none⟩=w.frozen? ⟨A.block,o,none⟩)
    (hr:∀ t∈news,Rp X.S w' t) (hc:∀ b,cntL b news≤cntL b us∨(w.heap.size≤b∧cntL b news≤1)):Sim X n g st (news++hand) a w':=by
  have hS:∀ b,X.S b→w'.heap[b]?=w.heap[b]?:=fun b hb=>hblk b (Nat.lt_of_lt_of_le (X.stay b hb).1 h.frame.size)
    (by
      by_cases h0:0 < cntL b us
      · exact absurd hb (h.mine b 0 (by rw [cntL_append]; omega)).1
      · omega) (fun k A _ hA e=>(h.boxS hA).1 (e ▸ hb))
  have hF0:∀ b,b < X.w0.heap.size→¬ X.F b→cntL b us=0:=fun b hb hF=>by
    by_cases h0:0 < cntL b us
    · rcases (h.mine b 0 (by rw [cntL_append]; omega)).2 with h1 | h1
      · omega
      · exact absurd h1 hF
    · omega
  have hroot:∀ r gs,g.gr r=some gs→∀ b,0 < cntL b gs→w'.heap[b]?=w.heap[b]?:=fun r gs hg b hb=>by
    have h1:=h.sole.one b r
    have h2:cntL b gs≤g.has b r:=by simp [Gh.has,hg,rcnt]
    rw [cntL_append] at h1
    refine hblk b (h.lt b r (by omega)) (by omega) (fun k A _ hA e=>?_)
    subst e
    by_cases ek:k=r
    · subst ek
      simp only [Gh.has,hA,bcnt,hg,rcnt,if_true] at h1
      omega
    · have:=h.sole.two ek A.block
      simp only [Gh.has,hA,bcnt,hg,rcnt,if_true] at this
      omega
  have hhand:∀ b,0 < cntL b hand→w'.heap[b]?=w.heap[b]?:=fun b hb=>by
    have h1:=h.sole.one b 0
    rw [cntL_append] at h1
    refine hblk b (h.lt b 0 (by rw [cntL_append]; omega)) (by omega) (fun k A _ hA e=>?_)
    subst e
    have:=h.sole.one A.block k
    simp only [Gh.has,hA,bcnt,if_true,cntL_append] at this
    omega
  refine { frame:=⟨hos.trans h.frame.os,htp.trans h.frame.tape,hout.trans h.frame.output,Nat.le_trans h.frame.size hsz,fun b hb hF hR=>?_,fun x hx o ho=>?_⟩,
           defers:=h.defers,tmps:=h.tmps,slots:=fun t v ht=>SlotOK.keep (Keeps.refl Never g) hS v _ (never_slot v) (fun _ _ _ _ _ h=>h) (h.slots t v ht),boxes:=fun b cs hb=>?_,nobox:=h.nobox,roots:=h.roots,noroot:=h.noroot,
           reps:=fun r gs hg t ht=>(h.reps r gs hg t ht).move (fun _ h=>h) hS (fun b hb=>hroot r gs hg b (by have:=cnt_mem b gs t ht; omega)),held:=fun t ht=>?_,sole:=?_,pb:=h.pb,hold:=h.hold,mine:=fun b k hb=>?_ }
  · exact (hblk b (Nat.lt_of_lt_of_le hb h.frame.size) (hF0 b hb hF) (fun k A _ hA=>(h.boxS hA).2.2 b hb hF hR)).trans (h.frame.block b hb hF hR)
  · have base:=h.frame.range x hx o ho
    by_cases ht:∃ k A,Pk k∧g.gb k=some A∧A.block=x.1
    · obtain ⟨k,A,hk,hA,e⟩:=ht
      cases hb:get st.b k with
      | none=>rw [h.nobox k hb] at hA; cases hA
      | some cs =>
        obtain ⟨off,vs,h1,h2,h3,h4⟩:=hbox k A cs hk hA hb
        obtain ⟨A',us',e',_,_,_,f5⟩:=h.boxes k cs hb
        rw [hA] at e'
        simp at e'
        subst e'
        rcases f5 with f5 | ⟨_,y,hy,e1,e2,e3⟩
        · have:=(X.apart x hx).2; omega
        · have exy:=X.uniq x hx y hy (by rw [← e,e1])
          subst exy
          rw [← base.1,← base.2,← e]
          exact h4 o (by omega)
    · have hs:w'.heap[x.1]?=w.heap[x.1]?:=hblk x.1 (Nat.lt_of_lt_of_le (X.apart x hx).2 h.frame.size) (hF0 x.1 (X.apart x hx).2 (X.apart x hx).1) (fun k A hk hA e=>ht ⟨k,A,hk,hA,e⟩)
      rw [World.cell?_of_block (w:=w) (a:=⟨x.1,o,none⟩) hs,World.frozen?_of_block (w:=w) (a:=⟨x.1,o,none⟩) hs]
      exact base
  · obtain ⟨A,vs,h1,h2,h3,h4,h5⟩:=h.boxes b cs hb
    by_cases hk:Pk b
    · obtain ⟨off,ws,k1,k2,k3,k4⟩:=hbox b A cs hk h1 hb
      have hvl:vs.length=cs.length:=h4.1.symm
      refine ⟨A,vs.take off++ws++vs.drop (off + ws.length),h1,Nat.lt_of_lt_of_le h2 hsz,fun i u hu=>?_,⟨by rw [seg_len vs off ws (by omega)]; exact hvl.symm,fun i c u hc hu=>?_⟩,h5⟩
      · by_cases hin:off≤i∧i < off + ws.length
        · have e1:=seg_in vs off ws (by omega) (i - off) (by omega)
          rw [show off + (i - off)=i by omega,hu] at e1
          have:=k2 (i - off) u e1.symm
          simp only [Nat.add_assoc] at this
          rwa [show off + (i - off)=i by omega] at this
        · rw [seg_out vs off ws (by omega) i (by omega)] at hu
          obtain ⟨m1,m2,m3⟩:=h3 i u hu
          obtain ⟨m4,m5⟩:=k4 (A.off + i) (by omega)
          exact ⟨by rw [m4]; exact m1,by rw [m5]; exact m2,m3⟩
      · by_cases hin:off≤i∧i < off + ws.length
        · have:=k3 i hin.1 hin.2
          rw [hc] at this
          simp at this
          subst this
          have e1:=seg_in vs off ws (by omega) (i - off) (by omega)
          rw [show off + (i - off)=i by omega,hu] at e1
          exact (k2 (i - off) u e1.symm).2.2
        · rw [seg_out vs off ws (by omega) i (by omega)] at hu
          exact (h4.2 i c u hc hu).keep (Keeps.refl Never g) hS (never_cel c)
    · have hz:cntL A.block us=0:=by
        have:=h.sole.one A.block b
        rw [cntL_append] at this
        have:1≤g.has A.block b:=by simp [Gh.has,h1,bcnt]
        omega
      refine ⟨A,vs,h1,Nat.lt_of_lt_of_le h2 hsz,h3.move (hblk _ h2 hz (fun k B hk' hB e=>?_)),h4.keep (Keeps.refl Never g) hS (fun c _=>never_cel c),h5⟩
      have ek:k≠b:=fun e=>hk (e ▸ hk')
      have:=h.sole.two ek A.block
      have e1:1≤g.has A.block k:=by simp [Gh.has,hB,bcnt,e]
      have e2:1≤g.has A.block b:=by simp [Gh.has,h1,bcnt]
      omega
  · rcases List.mem_append.1 ht with ht | ht
    · exact hr t ht
    · exact (h.held t (List.mem_append_right _ ht)).move (fun _ h=>h) hS (fun b hb=>hhand b (by have:=cnt_mem b hand t ht; omega))
  · obtain ⟨N,h1,h2⟩:=h.sole
    refine ⟨N,h1,fun b=>?_⟩
    have:=h2 b
    rw [cntL_append] at this ⊢
    rcases hc b with hc | ⟨hf,hc⟩
    · omega
    · have hz:∀ k,g.has b k=0:=fun k=>by
        have:=fun h0=>h.lt b k h0
        rw [cntL_append] at this
        omega
      have hz2:=fun h0=>h.lt b 0 h0
      rw [cntL_append] at hz2
      rw [cnt_zero_sum hz]
      omega
  · rw [cntL_append] at hb
    rcases hc b with hc | ⟨hf,hc⟩
    · exact h.mine b k (by rw [cntL_append]; omega)
    · exact ⟨fun hS=>by have:=(X.stay b hS).1; have:=h.frame.size; omega,.inl (Nat.le_trans h.frame.size hf)⟩
theorem Rp.noRo {S S':Nat→Prop} {t:G} (h:Rp S w t) (hn:noRo (er t)=true):Rp S' w t:=by
 induction h with
 | pv h=>exact .pv h
 | no h=>exact .no h
 | ro h=>simp [er,X.noRo] at hn
 | nil=>exact .nil
 | own h1 h2 h3 h4 h5 h6 h7 _ ih =>
  simp only [er,erLL_eq,X.noRo,Bool.true_and,noRoLL_eq,List.all_eq_true,List.mem_map,forall_exists_index,and_imp,forall_apply_eq_imp_iff₂] at hn
  exact .own h1 h2 h3 h4 h5 h6 h7 (fun r hr t ht=>ih r hr t ht (hn r hr t ht))
def oTs:Option GA→List G
 | some x=>x.ts
 | none=>[]
def OwnOK (g:Gh) (st:St) (w:World):List Nat→List SV→List Value→List (Option GA)→Prop
 | [],[],[],[]=>True
 | m::ms,v::vs,u::us,x::xs=>(match m,v,x with
  | 0,_,none=>True
  | 1,_,some y=>noPtr y∧y.val=u
  | m + 2,.bp b off,some (.ptr A ts)=>ts.length=m∧∃ B cs,g.gb b=some B∧get st.b b=some cs∧off + m≤cs.length∧A=⟨B.block,B.off + off,none⟩∧u = .pointer (some A)∧InMem w A (ts.map hdr)
  | _,_,_=>False)∧OwnOK g st w ms vs us xs
 | _,_,_,_=>False
theorem passOwn_ok {R:α→St→Prop}:∀ (ms:List Nat) (vs:List SV) (us:List Value) {k:List (Option AV)→Prg α} {g:Gh} {st:St} {hand:List G},Sim X n g st hand a w→SlotsOK X.S g w vs us→runP Te (passOwn ms vs k) st R→
  ∃ (g':Gh) (st':St) (xs:List (Option GA)),Sim X n g' st' (xs.flatMap oTs++hand) a w∧Keeps Never g g'∧g'.gb=g.gb∧st'.s=st.s∧st'.b=st.b∧runP Te (k (xs.map (Option.map GA.er))) st' R∧OwnOK g st w ms vs us xs
 | [],[],[],k,g,st,hand,h,_,hp=>⟨g,st,[],h,Keeps.refl _ _,rfl,rfl,rfl,hp,trivial⟩
 | m::ms,v::vs,u::us,k,g,st,hand,h,hs,hp=>by
  simp only [SlotsOK] at hs
  have next:∀ (x:Option GA) {g1:Gh} {st1:St},Sim X n g1 st1 (oTs x++hand) a w→Keeps Never g g1→g1.gb=g.gb→st1.s=st.s→st1.b=st.b→runP Te (passOwn ms vs fun l=>k (x.map GA.er::l)) st1 R→
    ∃ (g':Gh) (st':St) (xs:List (Option GA)),Sim X n g' st' ((x::xs).flatMap oTs++hand) a w∧Keeps Never g g'∧g'.gb=g.gb∧st'.s=st.s∧st'.b=st.b∧runP Te (k ((x::xs).map (Option.map GA.er))) st' R∧OwnOK g st w ms vs us xs:=by
   intro x g1 st1 h1 k1 b1 s1 bb1 hp1
   obtain ⟨g2,st2,xs,h2,k2,b2,s2,bb2,hp2,ho⟩:=passOwn_ok ms vs us h1 (SlotsOK.keep k1 (fun _ _=>rfl) (fun _ _ _ h=>h) vs us hs.2) hp1
   refine ⟨g2,st2,xs,h2.sub (fun t ht=>?_) (fun b=>?_),k1.trans k2,b2.trans b1,s2.trans s1,bb2.trans bb1,hp2,?_⟩
   ·simp only [List.flatMap_cons,List.mem_append] at ht ⊢
    rcases ht with (h | h) | h
    ·exact .inr (.inl h)
    ·exact .inl h
    ·exact .inr (.inr h)
   ·simp only [List.flatMap_cons,cntL_append]; omega
   ·have conv:∀ (ms:List Nat) (vs:List SV) (us:List Value) (xs:List (Option GA)),OwnOK g1 st1 w ms vs us xs→OwnOK g st w ms vs us xs:=by
     intro ms
     induction ms with
     | nil=>intro vs us xs h; cases vs <;> cases us <;> cases xs <;> simp_all [OwnOK]
     | cons m ms ih =>
      intro vs us xs h
      cases vs <;> cases us <;> cases xs <;> simp only [OwnOK] at h ⊢
      refine ⟨?_,ih _ _ _ h.2⟩
      have h1:=h.1
      rw [b1,bb1] at h1
      exact h1
    exact conv _ _ _ _ ho
  match m,v,hp,hs with
  | 0,v,hp,hs =>
   simp only [passOwn] at hp
   obtain ⟨g',st',xs,h1,h2,h3,h4,h5,h6,h7⟩:=next none h (Keeps.refl _ _) rfl rfl rfl hp
   exact ⟨g',st',none::xs,h1,h2,h3,h4,h5,h6,trivial,h7⟩
  | 1,.one c,hp,hs =>
   simp only [passOwn] at hp
   simp only [SlotOK] at hs
   obtain ⟨g1,st1,t,h1,k1,e1,hp1,b1,s1,bb1⟩:=take_ok h hs.1 hp
   obtain ⟨g',st',xs,h1,h2,h3,h4,h5,h6,h7⟩:=next (some (.one t)) h1 k1 b1 s1 bb1 hp1
   exact ⟨g',st',some (.one t)::xs,h1,h2,h3,h4,h5,h6,⟨trivial,e1⟩,h7⟩
  | 1,.agg cs,hp,hs =>
   simp only [passOwn] at hp
   simp only [SlotOK] at hs
   obtain ⟨⟨ws,rfl,hc⟩,hs2⟩:=hs
   obtain ⟨g1,st1,ts,h1,k1,e1,hp1,b1,s1,bb1⟩:=takes_ok h hc hp
   obtain ⟨g',st',xs,h1,h2,h3,h4,h5,h6,h7⟩:=next (some (.agg ts)) h1 k1 b1 s1 bb1 hp1
   exact ⟨g',st',some (.agg ts)::xs,h1,h2,h3,h4,h5,h6,⟨trivial,by simp [GA.val,e1]⟩,h7⟩
  | m + 2,.bp b off,hp,hs =>
   simp only [passOwn,runP] at hp
   simp only [SlotOK] at hs
   obtain ⟨⟨A,hA,e⟩,hs2⟩:=hs
   cases hb:get st.b b with
   | none=>simp [hb] at hp
   | some cs =>
    simp only [hb,decide_eq_true_eq] at hp
    obtain ⟨hl,hp⟩:=hp
    obtain ⟨A',ws,hA',_,hM,hC,_⟩:=h.boxes b cs hb
    rw [hA] at hA'
    simp at hA'
    subst hA'
    obtain ⟨g1,st1,ts,h1,k1,e1,hp1,b1,s1,bb1⟩:=takes_ok h ((hC.drop off).take m) hp
    obtain ⟨g',st',xs,h1,h2,h3,h4,h5,h6,h7⟩:=next (some (.ptr ⟨A.block,A.off + off,none⟩ ts)) h1 k1 b1 s1 bb1 hp1
    refine ⟨g',st',some (.ptr ⟨A.block,A.off + off,none⟩ ts)::xs,h1,h2,h3,h4,h5,h6,⟨?_,A,cs,hA,hb,hl,rfl,e,fun i v hv=>?_⟩,h7⟩
    ·have:=congrArg List.length e1
     have:=hC.1
     simp at *
     omega
    ·rw [e1,List.getElem?_take] at hv
     split at hv
     ·rw [List.getElem?_drop] at hv
      have:=hM _ v hv
      simpa only [Nat.add_assoc] using this
     ·cases hv
  | 1,.un,hp,_=>simp [passOwn,runP] at hp
  | 1,.tup _,hp,_=>simp [passOwn,runP] at hp
  | 1,.bp _ _,hp,_=>simp [passOwn,runP] at hp
  | 1,.ap _ _ _ _ _ _,hp,_=>simp [passOwn,runP] at hp
  | 1,.rp _,hp,_=>simp [passOwn,runP] at hp
  | 1,.fn _ _ _,hp,_=>simp [passOwn,runP] at hp
  | _ + 2,.un,hp,_=>simp [passOwn,runP] at hp
  | _ + 2,.one _,hp,_=>simp [passOwn,runP] at hp
  | _ + 2,.agg _,hp,_=>simp [passOwn,runP] at hp
  | _ + 2,.tup _,hp,_=>simp [passOwn,runP] at hp
  | _ + 2,.ap _ _ _ _ _ _,hp,_=>simp [passOwn,runP] at hp
  | _ + 2,.rp _,hp,_=>simp [passOwn,runP] at hp
  | _ + 2,.fn _ _ _,hp,_=>simp [passOwn,runP] at hp
 | [],_::_,_,_,_,_,_,_,_,hp=>by simp [passOwn,runP] at hp
 | _::_,[],_,_,_,_,_,_,_,hp=>by simp [passOwn,runP] at hp
 | [],[],_::_,_,_,_,_,_,hs,_=>by simp [SlotsOK] at hs
 | _::_,_::_,[],_,_,_,_,_,hs,_=>by simp [SlotsOK] at hs
def LentOK (S1:Nat→Prop) (w:World):List (Option GA)→List Value→List GA→Prop
 | [],[],[]=>True
 | x::xs,u::us,y::ys=>(match x with
  | some z=>y=z
  | none=>noPtr y∧y.val=u∧∀ t∈y.ts,Rp S1 w t∧∀ b,cnt b t=0)∧LentOK S1 w xs us ys
 | _,_,_=>False
theorem passLend_ok {R:α→St→Prop} {S1:Nat→Prop} (hS:∀ b,X.S b→S1 b) (h:Sim X n g st hand a w):∀ (vs:List SV) (us:List Value) (xs:List (Option GA)) {k:List AV→Prg α},SlotsOK X.S g w vs us→runP Te (passLend vs (xs.map (Option.map GA.er)) k) st R→
  (∀ (i:Nat) (v:SV),vs[i]?=some v→xs[i]?=some none→hasRf v=true→∀ b,LendS X g b→S1 b)→∃ ys:List GA,runP Te (k (ys.map GA.er)) st R∧LentOK S1 w xs us ys
 | [],us,[],k,hs,hp,_=>by
  cases us with
  | nil=>exact ⟨[],hp,trivial⟩
  | cons=>simp [SlotsOK] at hs
 | v::vs,[],_,_,hs,_,_=>by simp [SlotsOK] at hs
 | v::vs,u::us,some x::xs,k,hs,hp,hx=>by
  simp only [SlotsOK] at hs
  have hp':runP Te (passLend vs (xs.map (Option.map GA.er)) fun l=>k (x.er::l)) st R:=by
   cases v <;> simpa [passLend] using hp
  obtain ⟨ys,h1,h2⟩:=passLend_ok hS h vs us xs hs.2 hp' (fun i v hv hn=>hx (i + 1) v (by simpa using hv) (by simpa using hn))
  exact ⟨x::ys,h1,rfl,h2⟩
 | .one c::vs,u::us,none::xs,k,hs,hp,hx=>by
  simp only [SlotsOK,SlotOK] at hs
  simp only [List.map_cons,Option.map_none,passLend] at hp
  obtain ⟨t,hR,hp1⟩:=lend_ok h hs.1 hp
  obtain ⟨ys,h1,h2⟩:=passLend_ok hS h vs us xs hs.2 hp1 (fun i v hv hn=>hx (i + 1) v (by simpa using hv) (by simpa using hn))
  have hR':Rd S1 w t u:=by
   cases hrf:isRf c with
   | true=>rw [hrf] at hR; exact hR.up_ (hx 0 (.one c) rfl rfl hrf)
   | false=>rw [hrf] at hR; exact hR.up_ hS
  obtain ⟨e1,e2,e3⟩:=gro_ok hR'
  refine ⟨.one (gro t u)::ys,by simpa [GA.er,gro_er] using h1,⟨trivial,e1,fun t' ht'=>?_⟩,h2⟩
  simp only [GA.ts,List.mem_singleton] at ht'
  subst ht'
  exact ⟨e2,e3⟩
 | .agg cs::vs,u::us,none::xs,k,hs,hp,hx=>by
  simp only [SlotsOK,SlotOK] at hs
  obtain ⟨⟨ws,rfl,hc⟩,hs2⟩:=hs
  simp only [List.map_cons,Option.map_none,passLend] at hp
  obtain ⟨ts,hl,hR,hp1⟩:=lends_ok hS h hc hp (fun hrf=>hx 0 (.agg cs) rfl rfl hrf)
  obtain ⟨ys,h1,h2⟩:=passLend_ok hS h vs us xs hs2 hp1 (fun i v hv hn=>hx (i + 1) v (by simpa using hv) (by simpa using hn))
  have zl:∀ (ts:List T) (ws:List Value),ts.length=ws.length→(∀ (i:Nat) (t:T) (v:Value),ts[i]?=some t→ws[i]?=some v→Rd S1 w t v)→∃ gs:List G,gs.map er=ts∧gs.map hdr=ws∧∀ t∈gs,Rp S1 w t∧∀ b,cnt b t=0:=by
   intro ts
   induction ts with
   | nil=>intro ws hl _; cases ws with
    | nil=>exact ⟨[],rfl,rfl,fun t h=>by cases h⟩
    | cons=>simp at hl
   | cons t ts ih =>
    intro ws hl hr
    cases ws with
    | nil=>simp at hl
    | cons v ws =>
     obtain ⟨gs,e1,e2,e3⟩:=ih ws (by simpa using hl) (fun i t v h h'=>hr (i + 1) t v (by simpa using h) (by simpa using h'))
     obtain ⟨f1,f2,f3⟩:=gro_ok (hr 0 t v rfl rfl)
     exact ⟨gro t v::gs,by simp [gro_er,e1],by simp [f1,e2],fun t' ht'=>by
      rcases List.mem_cons.1 ht' with rfl | ht'
      ·exact ⟨f2,f3⟩
      ·exact e3 t' ht'⟩
  obtain ⟨gs,e1,e2,e3⟩:=zl ts ws hl hR
  exact ⟨.agg gs::ys,by simpa [GA.er,e1] using h1,⟨trivial,by simp [GA.val,e2],e3⟩,h2⟩
 | .un::_,_::_,none::_,_,_,hp,_=>by simp [passLend,runP] at hp
 | .tup _::_,_::_,none::_,_,_,hp,_=>by simp [passLend,runP] at hp
 | .bp _ _::_,_::_,none::_,_,_,hp,_=>by simp [passLend,runP] at hp
 | .ap _ _ _ _ _ _::_,_::_,none::_,_,_,hp,_=>by simp [passLend,runP] at hp
 | .rp _::_,_::_,none::_,_,_,hp,_=>by simp [passLend,runP] at hp
 | .fn _ _ _::_,_::_,none::_,_,_,hp,_=>by simp [passLend,runP] at hp
 | [],_,_::_,_,_,hp,_=>by simp [passLend,runP] at hp
 | v::_,_::_,[],_,_,hp,_=>by cases v <;> simp [passLend,runP] at hp
end
end Go.X

namespace Go.X
section
variable {P:Program} {X:Ctx} {n:Nat} {g:Gh} {st:St} {hand:List G} {a:Act} {w w':World} {α:Type} {Te:Nat→List AV→Res→Prop} {o:Oper} {K:St→Prop} {Q:Exit→Act→World→Prop}
def ptsOf:List Nat→List SV→List (Nat×Nat×Nat)
 | m::ms,v::vs=>(match m,v with
  | m + 2,.bp b off=>[(b,off,m)]
  | _,_=>[])++ptsOf ms vs
 | _,_=>[]
theorem ptsOf_boxes:∀ (ms:List Nat) (vs:List SV),(ptsOf ms vs).map (·.1)=boxesOf ms vs
 | [],_=>by simp [ptsOf,boxesOf]
 | _::_,[]=>by simp [ptsOf,boxesOf]
 | m::ms,v::vs=>by
  have ih:=ptsOf_boxes ms vs
  match m,v with
  | 0,_=>simpa [ptsOf,boxesOf] using ih
  | 1,_=>simpa [ptsOf,boxesOf] using ih
  | m + 2,.bp b off=>simpa [ptsOf,boxesOf] using ih
  | m + 2,.un=>simpa [ptsOf,boxesOf] using ih
  | m + 2,.one _=>simpa [ptsOf,boxesOf] using ih
  | m + 2,.agg _=>simpa [ptsOf,boxesOf] using ih
  | m + 2,.tup _=>simpa [ptsOf,boxesOf] using ih
  | m + 2,.ap ..=>simpa [ptsOf,boxesOf] using ih
  | m + 2,.rp _=>simpa [ptsOf,boxesOf] using ih
  | m + 2,.fn _ _ _=>simpa [ptsOf,boxesOf] using ih
theorem loneN_nodup:∀ {l:List Nat},loneN l=true→l.Nodup
 | [],_=>List.nodup_nil
 | x::xs,h=>by
  simp only [loneN,Bool.and_eq_true,Bool.not_eq_true',List.contains_eq_mem] at h
  exact List.nodup_cons.2 ⟨by simpa using h.1,loneN_nodup h.2⟩
def seg (cs:List Cel) (off:Nat) (pl:List Cel):List Cel:=cs.take off++pl++cs.drop (off + pl.length)
def deadS:List (Nat×Nat×Nat)→St→St
 | [],st=>st
 | x::l,st=>deadS l { st with b:=rep st.b x.1 (seg ((get st.b x.1).getD []) x.2.1 (List.replicate x.2.2 .dead)) }
def PtsIn (g:Gh) (st:St) (l:List (Nat×Nat×Nat)):Prop:=∀ x∈l,∃ B cs,g.gb x.1=some B∧get st.b x.1=some cs∧x.2.1 + x.2.2≤cs.length
theorem seg_get {us:List Value} {off m i:Nat} {u:Value} (h:((us.drop off).take m)[i]?=some u):us[off + i]?=some u:=by
 have:=take_get h
 rwa [List.getElem?_drop] at this
theorem dead_ok:∀ {l:List (Nat×Nat×Nat)} {st:St},Sim X n g st hand a w→PtsIn g st l→(l.map (·.1)).Nodup→
  Sim X n g (deadS l st) hand a w∧(deadS l st).s=st.s∧(deadS l st).r=st.r∧(∀ k,k∉l.map (·.1)→get (deadS l st).b k=get st.b k)∧∀ x∈l,∀ cs,get st.b x.1=some cs→get (deadS l st).b x.1=some (seg cs x.2.1 (List.replicate x.2.2 .dead))
 | [],st,h,_,_=>⟨h,rfl,rfl,fun _ _=>rfl,fun x hx=>by cases hx⟩
 | x::l,st,h,hp,hd=>by
  obtain ⟨B,cs,hB,hb,hl⟩:=hp x (List.mem_cons_self ..)
  simp only [List.map_cons,List.nodup_cons] at hd
  obtain ⟨B',us,hB',_,hM,hC,_⟩:=h.boxes x.1 cs hb
  rw [hB] at hB'
  simp at hB'
  subst hB'
  have hul:us.length=cs.length:=hC.1.symm
  have h1:=h.recel (off:=x.2.1) (pl:=List.replicate x.2.2 .dead) (vs:=(us.drop x.2.1).take x.2.2) hb hB (by simpa using hl) ⟨by simp; omega,fun i c u hc hu=>by
    obtain rfl:=(List.mem_replicate.1 (List.mem_of_getElem? hc)).2
    exact (hM _ u (seg_get hu)).2.2⟩ (fun i u hu=>by
    have:=hM _ u (seg_get hu)
    simpa only [Nat.add_assoc] using this)
  have e:deadS (x::l) st=deadS l { st with b:=rep st.b x.1 (seg cs x.2.1 (List.replicate x.2.2 .dead)) }:=by simp [deadS,hb]
  have hne:∀ y∈l,y.1≠x.1:=fun y hy e=>hd.1 (by rw [← e]; exact List.mem_map_of_mem hy)
  obtain ⟨k1,k2,k3,k4,k5⟩:=dead_ok (l:=l) (st:={ st with b:=rep st.b x.1 (seg cs x.2.1 (List.replicate x.2.2 .dead)) }) h1 (fun y hy=>by
   obtain ⟨B',cs',q1,q2,q3⟩:=hp y (List.mem_cons_of_mem _ hy)
   exact ⟨B',cs',q1,by simp only [get_rep_if,if_neg (hne y hy)]; exact q2,q3⟩) hd.2
  rw [e]
  refine ⟨k1,k2,k3,fun k hk=>?_,fun y hy cs' hcs=>?_⟩
  ·simp only [List.map_cons,List.mem_cons,not_or] at hk
   rw [k4 k hk.2]
   simp [get_rep_if,hk.1]
  ·rcases List.mem_cons.1 hy with rfl | hy
   ·rw [hb] at hcs
    simp at hcs
    subst hcs
    rw [k4 _ hd.1]
    simp [get_rep_if]
   ·exact k5 y hy cs' (by simp only [get_rep_if,if_neg (hne y hy)]; exact hcs)
theorem seg_seg (cs:List Cel) (off:Nat) (p q:List Cel) (e:p.length=q.length) (hl:off + p.length≤cs.length):seg (seg cs off p) off q=seg cs off q:=by
 have h1:(cs.take off).length=off:=by simp; omega
 have e1:(cs.take off++p++cs.drop (off + p.length)).take off=cs.take off:=by rw [List.append_assoc]; exact List.take_left' h1
 have e2:(cs.take off++p++cs.drop (off + p.length)).drop (off + p.length)=cs.drop (off + p.length):=List.drop_left' (by simp; omega)
 unfold seg
 rw [e1,← e,e2]
def BackOK (gb:Nat→Option Addr) (w:World):List Nat→List SV→List (List G)→Prop
 | m::ms,v::vs,o::os=>(match m,v with
  | m + 2,.bp b off=>∃ B,gb b=some B∧o.length=m∧InMem w ⟨B.block,B.off + off,none⟩ (o.map hdr)
  | _,_=>True)∧BackOK gb w ms vs os
 | _,_,_=>True
def ptrO:List Nat→List (List G)→List G
 | m::ms,o::os=>(match m with | _ + 2=>o | _=>[])++ptrO ms os
 | _,_=>[]
theorem ptrO_er:∀ (ms:List Nat) (os:List (List G)),(ptrO ms os).map er=ptrOuts ms (os.map (·.map er))
 | [],_=>by simp [ptrO,ptrOuts]
 | m::ms,[]=>by match m with
  | 0=>simp [ptrO,ptrOuts]
  | 1=>simp [ptrO,ptrOuts]
  | m + 2=>simp [ptrO,ptrOuts]
 | m::ms,o::os=>by
  have ih:=ptrO_er ms os
  match m with
  | 0=>simpa [ptrO,ptrOuts] using ih
  | 1=>simpa [ptrO,ptrOuts] using ih
  | m + 2=>simp [ptrO,ptrOuts,ih]
structure Same (st sd:St):Prop where
 s:∀ k,get sd.s k=get st.s k
 r:∀ k,get sd.r k=get st.r k
theorem back_ok {R:α→St→Prop} {id:Nat} {news:List G}:∀ (ms:List Nat) (vs:List SV) (os:List (List G)) (nn:Nat) {k:Prg α} {st sd:St},Sim X n g sd hand a w→Same st sd→(∀ k,k∉(ptsOf ms vs).map (·.1)→get sd.b k=get st.b k)→
  (∀ x∈ptsOf ms vs,∃ cs,get st.b x.1=some cs∧x.2.1 + x.2.2≤cs.length∧get sd.b x.1=some (seg cs x.2.1 (List.replicate x.2.2 .dead)))→((ptsOf ms vs).map (·.1)).Nodup→g.gr id=some news→
  news.drop nn=ptrO ms os→BackOK g.gb w ms vs os→runP Te (backP id ms vs (os.map (·.map er)) nn k) st R→∃ st',Sim X n g st' hand a w∧st'.s=st.s∧st'.r=st.r∧runP Te k st' R
 | [],[],[],nn,k,st,sd,h,hs,hb,_,_,_,_,_,hp=>⟨st,h.ext (fun k=>(hs.s k).symm) (fun k=>(hb k (by simp [ptsOf])).symm) (fun k=>(hs.r k).symm),rfl,rfl,hp⟩
 | m::ms,v::vs,o::os,nn,k,st,sd,h,hs,hb,hd,hn,hg,hnn,hB,hp=>by
  have plain:∀ (mm:Nat),(match mm,v with | m + 2,.bp b off=>[(b,off,m)] | _,_=>([]:List (Nat×Nat×Nat)))=[]→mm=m→
    runP Te (backP id ms vs (os.map (·.map er)) (nn + (match m with | mm + 2=>mm | _=>0)) k) st R→news.drop (nn + (match m with | mm + 2=>mm | _=>0))=ptrO ms os→∃ st',Sim X n g st' hand a w∧st'.s=st.s∧st'.r=st.r∧runP Te k st' R:=by
   intro mm e1 e2 hp1 hnn1
   subst e2
   have e:ptsOf (mm::ms) (v::vs)=ptsOf ms vs:=by simp only [ptsOf]; rw [e1]; rfl
   rw [e] at hb hd hn
   simp only [BackOK] at hB
   exact back_ok ms vs os _ h hs hb hd hn hg hnn1 hB.2 hp1
  rcases m with _ | _ | m
  ·exact plain 0 rfl rfl (by simpa [backP] using hp) (by simpa [ptrO] using hnn)
  ·exact plain 1 rfl rfl (by simpa [backP] using hp) (by simpa [ptrO] using hnn)
  cases v with
  | bp b off =>
   simp only [List.map_cons,backP,runP] at hp
   obtain ⟨cs,q1,q2,q3⟩:=hd (b,off,m) (by simp [ptsOf])
   simp only at q1 q2 q3
   simp only [q1,Bool.and_eq_true,beq_iff_eq,decide_eq_true_eq,List.length_map] at hp
   obtain ⟨⟨hol,_⟩,hp⟩:=hp
   simp only [BackOK] at hB
   obtain ⟨⟨B,hgb,_,hM⟩,hB2⟩:=hB
   simp only [ptrO] at hnn
   have hpl:CelsOK X.S g w (plant id nn (o.map er)) (o.map hdr):=plant_ok hg (h.reps id news hg) o nn (fun l t ht=>by
    have:(news.drop nn)[l]?=some t:=by rw [hnn,List.getElem?_append_left (List.getElem?_eq_some_iff.1 ht).1]; exact ht
    rwa [List.getElem?_drop] at this)
   have hll:(plant id nn (o.map er)).length=m:=by rw [plant_length]; simpa using hol
   have hsl:(seg cs off (List.replicate m .dead)).length=cs.length:=by simp [seg]; omega
   have h1:=h.recel (off:=off) q3 hgb (by rw [hll,hsl]; omega) hpl hM
   have e1:(seg cs off (List.replicate m .dead)).take off++plant id nn (o.map er)++(seg cs off (List.replicate m .dead)).drop (off + (plant id nn (o.map er)).length)=cs.take off++plant id nn (o.map er)++cs.drop (off + m):=by
    have:=seg_seg cs off (List.replicate m .dead) (plant id nn (o.map er)) (by rw [hll]; simp) (by simpa using q2)
    rw [show cs.drop (off + m)=cs.drop (off + (plant id nn (o.map er)).length) by rw [hll]]
    exact this
   rw [e1] at h1
   have hn':((ptsOf ms vs).map (·.1)).Nodup∧b∉(ptsOf ms vs).map (·.1):=by
    simp only [ptsOf,List.cons_append,List.nil_append,List.map_cons,List.nodup_cons] at hn
    exact ⟨hn.2,hn.1⟩
   obtain ⟨st',r1,r2,r3,r4⟩:=back_ok ms vs os (nn + m) (st:={ st with b:=rep st.b b (cs.take off++plant id nn (o.map er)++cs.drop (off + m)) }) h1 ⟨hs.s,hs.r⟩ (fun k hk=>by
     simp only [get_rep_if]
     split
     ·rfl
     ·rename_i e
      exact hb k (by simp only [ptsOf,List.cons_append,List.nil_append,List.map_cons,List.mem_cons,not_or]; exact ⟨e,hk⟩)) (fun x hx=>by
     have e:x.1≠b:=fun e=>hn'.2 (by rw [← e]; exact List.mem_map_of_mem hx)
     simp only [get_rep_if,if_neg e]
     exact hd x (by simp [ptsOf,hx])) hn'.1 hg (by
     rw [← List.drop_drop,hnn,List.drop_append]
     simp [hol]) hB2 hp
   exact ⟨st',r1,r2,r3,r4⟩
  | _=>simp [backP,runP] at hp
 | [],[],_::_,_,_,_,_,_,_,_,_,_,_,_,_,hp=>by simp [backP,runP] at hp
 | [],_::_,_,_,_,_,_,_,_,_,_,_,_,_,_,hp=>by simp [backP,runP] at hp
 | _::_,[],_,_,_,_,_,_,_,_,_,_,_,_,_,hp=>by simp [backP,runP] at hp
 | _::_,_::_,[],_,_,_,_,_,_,_,_,_,_,_,_,hp=>by simp [backP,runP] at hp
end
end Go.X

namespace Go.X
section
variable {P:Program} {X:Ctx} {n:Nat} {g:Gh} {st:St} {hand:List G} {a:Act} {w w':World} {α:Type} {Te:Nat→List AV→Res→Prop} {o:Oper} {K:St→Prop} {Q:Exit→Act→World→Prop} {S1:Nat→Prop}
abbrev atB (B:Addr) (off:Nat):Addr:=⟨B.block,B.off + off,none⟩
inductive PassOK (gb:Nat→Option Addr) (st:St) (w:World) (S1:Nat→Prop):List Nat→List SV→List Value→List (Option GA)→List GA→Prop
 | nil:PassOK gb st w S1 [] [] [] [] []
 | lent {y:GA} {v:SV} {u:Value} {ms:List Nat} {vs:List SV} {us:List Value} {xs:List (Option GA)} {ys:List GA}:noPtr y→y.val=u→(∀ t∈y.ts,Rp S1 w t∧∀ b,cnt b t=0)→PassOK gb st w S1 ms vs us xs ys→PassOK gb st w S1 (0::ms) (v::vs) (u::us) (none::xs) (y::ys)
 | own {y:GA} {v:SV} {u:Value} {ms:List Nat} {vs:List SV} {us:List Value} {xs:List (Option GA)} {ys:List GA}:noPtr y→y.val=u→PassOK gb st w S1 ms vs us xs ys→PassOK gb st w S1 (1::ms) (v::vs) (u::us) (some y::xs) (y::ys)
 | ptr {b off:Nat} {B:Addr} {cs:List Cel} {ts:List G} {ms:List Nat} {vs:List SV} {us:List Value} {xs:List (Option GA)} {ys:List GA}:gb b=some B→get st.b b=some cs→off + ts.length≤cs.length→InMem w (atB B off) (ts.map hdr)→
  PassOK gb st w S1 ms vs us xs ys→PassOK gb st w S1 ((ts.length + 2)::ms) (.bp b off::vs) (.pointer (some (atB B off))::us) (some (.ptr (atB B off) ts)::xs) (.ptr (atB B off) ts::ys)
theorem passOK:∀ {ms:List Nat} {vs:List SV} {us:List Value} {xs:List (Option GA)} {ys:List GA},OwnOK g st w ms vs us xs→LentOK S1 w xs us ys→PassOK g.gb st w S1 ms vs us xs ys
 | [],[],[],[],[],_,_=>.nil
 | m::ms,v::vs,u::us,x::xs,y::ys,h1,h2=>by
  simp only [OwnOK] at h1
  simp only [LentOK] at h2
  have ih:=passOK h1.2 h2.2
  replace h1:=h1.1
  replace h2:=h2.1
  rcases m with _ | _ | m
  ·cases x with
   | none=>exact .lent h2.1 h2.2.1 h2.2.2 ih
   | some x=>exact h1.elim
  ·cases x with
   | none=>exact h1.elim
   | some x =>
    simp only at h2
    subst h2
    exact .own h1.1 h1.2 ih
  ·cases v <;> cases x <;> try exact h1.elim
   rename_i b off x
   cases x <;> try exact h1.elim
   rename_i A ts
   simp only at h1 h2
   subst h2
   obtain ⟨rfl,B,cs,e1,e2,e3,rfl,rfl,e4⟩:=h1
   exact .ptr e1 e2 e3 e4 ih
 | [],_,_,_::_,_,h1,_=>by cases ‹List SV› <;> cases ‹List Value› <;> simp [OwnOK] at h1
 | [],_::_,_,[],_,h1,_=>by simp [OwnOK] at h1
 | [],[],_::_,[],_,h1,_=>by simp [OwnOK] at h1
 | [],[],[],[],_::_,_,h2=>by simp [LentOK] at h2
 | _::_,[],_,_,_,h1,_=>by simp [OwnOK] at h1
 | _::_,_::_,[],_,_,h1,_=>by simp [OwnOK] at h1
 | _::_,_::_,_::_,[],_,h1,_=>by simp [OwnOK] at h1
 | _::_,_::_,_::_,_::_,[],_,h2=>by simp [LentOK] at h2
section
variable {gb:Nat→Option Addr} {ms:List Nat} {vs:List SV} {us:List Value} {xs:List (Option GA)} {ys:List GA}
theorem PassOK.vals (h:PassOK gb st w S1 ms vs us xs ys):ys.map GA.val=us:=by
 induction h with
 | nil=>rfl
 | lent _ h2 _ _ ih=>simp [h2,ih]
 | own _ h2 _ ih=>simp [h2,ih]
 | ptr _ _ _ _ _ ih=>simp [GA.val,ih]
theorem PassOK.trees (h:PassOK gb st w S1 ms vs us xs ys) (b:Nat):treeCnt b ys=cntL b (xs.flatMap oTs):=by
 induction h with
 | nil=>rfl
 | @lent y v u ms vs us xs ys _ _ h3 _ ih =>
  simp only [treeCnt,List.flatMap_cons,cntL_append,oTs,cntL,Nat.zero_add] at ih ⊢
  have:cntL b y.ts=0:=by
   have:∀ l:List G,(∀ t∈l,cnt b t=0)→cntL b l=0:=fun l=>by
    induction l with
    | nil=>intro _; rfl
    | cons t l ih=>intro h; simp [cntL,h t (List.mem_cons_self ..),ih (fun t ht=>h t (List.mem_cons_of_mem _ ht))]
   exact this _ (fun t ht=>(h3 t ht).2 b)
  omega
 | own _ _ _ ih=>simp only [treeCnt,List.flatMap_cons,cntL_append,oTs] at ih ⊢; omega
 | ptr _ _ _ _ _ ih=>simp only [treeCnt,List.flatMap_cons,cntL_append,oTs] at ih ⊢; omega
theorem PassOK.reps (h:PassOK gb st w S1 ms vs us xs ys) (ho:∀ t∈xs.flatMap oTs,Rp S1 w t):∀ y∈ys,∀ t∈y.ts,Rp S1 w t:=by
 induction h with
 | nil=>intro y hy; cases hy
 | lent _ _ h3 _ ih =>
  intro y hy t ht
  rcases List.mem_cons.1 hy with rfl | hy
  ·exact (h3 t ht).1
  ·exact ih (fun t ht=>ho t (by simpa [oTs] using ht)) y hy t ht
 | own _ _ _ ih =>
  intro y hy t ht
  rcases List.mem_cons.1 hy with rfl | hy
  ·exact ho t (by simp [oTs,ht])
  ·exact ih (fun t ht=>ho t (by simp only [List.flatMap_cons,List.mem_append]; exact .inr ht)) y hy t ht
 | ptr _ _ _ _ _ ih =>
  intro y hy t ht
  rcases List.mem_cons.1 hy with rfl | hy
  ·exact ho t (by simp only [List.flatMap_cons,List.mem_append]; exact .inl ht)
  ·exact ih (fun t ht=>ho t (by simp only [List.flatMap_cons,List.mem_append]; exact .inr ht)) y hy t ht
theorem PassOK.ptrs (h:PassOK gb st w S1 ms vs us xs ys):(∀ A ts,GA.ptr A ts∈ys→InMem w A (ts.map hdr)∧∃ b∈boxesOf ms vs,∃ B,gb b=some B∧A.block=B.block)∧
  (∀ x∈ptsOf ms vs,∃ B cs ts,gb x.1=some B∧get st.b x.1=some cs∧x.2.1 + x.2.2≤cs.length∧ts.length=x.2.2∧GA.ptr (atB B x.2.1) ts∈ys):=by
 induction h with
 | nil=>exact ⟨fun A ts h=>(by cases h),fun x hx=>by simp [ptsOf] at hx⟩
 | @lent y v u ms vs us xs ys h1 _ _ _ ih =>
  refine ⟨fun A ts hm=>?_,fun x hx=>?_⟩
  ·rcases List.mem_cons.1 hm with rfl | hm
   ·exact h1.elim
   ·obtain ⟨a1,b,a2,a3⟩:=ih.1 A ts hm
    exact ⟨a1,b,by simpa [boxesOf] using a2,a3⟩
  ·obtain ⟨B,cs,ts,a1,a2,a3,a4,a5⟩:=ih.2 x (by simpa [ptsOf] using hx)
   exact ⟨B,cs,ts,a1,a2,a3,a4,List.mem_cons_of_mem _ a5⟩
 | @own y v u ms vs us xs ys h1 _ _ ih =>
  refine ⟨fun A ts hm=>?_,fun x hx=>?_⟩
  ·rcases List.mem_cons.1 hm with rfl | hm
   ·exact h1.elim
   ·obtain ⟨a1,b,a2,a3⟩:=ih.1 A ts hm
    exact ⟨a1,b,by simpa [boxesOf] using a2,a3⟩
  ·obtain ⟨B,cs,ts,a1,a2,a3,a4,a5⟩:=ih.2 x (by simpa [ptsOf] using hx)
   exact ⟨B,cs,ts,a1,a2,a3,a4,List.mem_cons_of_mem _ a5⟩
 | @ptr b off B cs ts ms vs us xs ys h1 h2 h3 h4 _ ih =>
  refine ⟨fun A ts' hm=>?_,fun x hx=>?_⟩
  ·rcases List.mem_cons.1 hm with e | hm
   ·simp only [GA.ptr.injEq] at e
    obtain ⟨rfl,rfl⟩:=e
    exact ⟨h4,b,by simp [boxesOf],B,h1,rfl⟩
   ·obtain ⟨a1,b',a2,a3⟩:=ih.1 A ts' hm
    exact ⟨a1,b',by simp [boxesOf,a2],a3⟩
  ·simp only [ptsOf,List.cons_append,List.nil_append,List.mem_cons] at hx
   rcases hx with rfl | hx
   ·exact ⟨B,cs,ts,h1,h2,h3,rfl,List.mem_cons_self ..⟩
   ·obtain ⟨B,cs,ts,a1,a2,a3,a4,a5⟩:=ih.2 x hx
    exact ⟨B,cs,ts,a1,a2,a3,a4,List.mem_cons_of_mem _ a5⟩
theorem PassOK.cnts (h:PassOK gb st w S1 ms vs us xs ys) (b:Nat):ptrCnt b ys≤((boxesOf ms vs).map fun k=>bcnt b (gb k)).sum:=by
 induction h with
 | nil=>simp [ptrCnt]
 | @lent y v u ms vs us xs ys h1 _ _ _ ih =>
  have:y.pb b=0:=by cases y <;> first | rfl | exact h1.elim
  simpa [ptrCnt,boxesOf,this] using ih
 | @own y v u ms vs us xs ys h1 _ _ ih =>
  have:y.pb b=0:=by cases y <;> first | rfl | exact h1.elim
  simpa [ptrCnt,boxesOf,this] using ih
 | ptr h1 _ _ _ _ ih =>
  have e:=congrArg (bcnt b) h1
  rw [show bcnt b (some _)=if _ then 1 else 0 from rfl] at e
  simp only [ptrCnt,boxesOf,List.map_cons,List.sum_cons,GA.pb,e]
  omega
theorem PassOK.back (h:PassOK gb st w S1 ms vs us xs ys):∀ {os:List (List G)},OutsOK w' ys os→BackOK gb w' ms vs os∧∀ x∈ptsOf ms vs,∃ (B:Addr) (o:List G),gb x.1=some B∧o.length=x.2.2∧InMem w' (atB B x.2.1) (o.map hdr):=by
 induction h with
 | nil=>exact fun _=>⟨trivial,fun x hx=>by simp [ptsOf] at hx⟩
 | @lent y v u ms vs us xs ys h1 _ _ _ ih =>
  intro os ho
  cases os with
  | nil=>cases y <;> simp [OutsOK] at ho
  | cons o os =>
   have:OutsOK w' ys os:=by cases y <;> first | exact ho.2 | exact h1.elim
   obtain ⟨a1,a2⟩:=ih this
   exact ⟨⟨trivial,a1⟩,fun x hx=>a2 x (by simpa [ptsOf] using hx)⟩
 | @own y v u ms vs us xs ys h1 _ _ ih =>
  intro os ho
  cases os with
  | nil=>cases y <;> simp [OutsOK] at ho
  | cons o os =>
   have:OutsOK w' ys os:=by cases y <;> first | exact ho.2 | exact h1.elim
   obtain ⟨a1,a2⟩:=ih this
   exact ⟨⟨trivial,a1⟩,fun x hx=>a2 x (by simpa [ptsOf] using hx)⟩
 | @ptr b off B cs ts ms vs us xs ys h1 h2 h3 h4 _ ih =>
  intro os ho
  cases os with
  | nil=>simp [OutsOK] at ho
  | cons o os =>
   simp only [OutsOK] at ho
   obtain ⟨a1,a2⟩:=ih ho.2.2
   refine ⟨⟨⟨B,h1,ho.1,ho.2.1⟩,a1⟩,fun x hx=>?_⟩
   simp only [ptsOf,List.cons_append,List.nil_append,List.mem_cons] at hx
   rcases hx with rfl | hx
   ·exact ⟨B,o,h1,ho.1,ho.2.1⟩
   ·exact a2 x hx
theorem PassOK.none (h:PassOK gb st w S1 ms vs us xs ys):∀ {i:Nat} {v:SV},vs[i]?=some v→xs[i]?=some none→hasRf v=true→lentOwn ms vs=true:=by
 induction h with
 | nil=>intro i v h; simp at h
 | lent _ _ _ _ ih =>
  intro i v hv hx hr
  cases i with
  | zero=>simp at hv; subst hv; simp [lentOwn,hr]
  | succ i=>simp [lentOwn,ih (by simpa using hv) (by simpa using hx) hr]
 | own _ _ _ ih =>
  intro i v hv hx hr
  cases i with
  | zero=>simp at hx
  | succ i=>simp [lentOwn,ih (by simpa using hv) (by simpa using hx) hr]
 | ptr _ _ _ _ _ ih =>
  intro i v hv hx hr
  cases i with
  | zero=>simp at hx
  | succ i=>simp [lentOwn,ih (by simpa using hv) (by simpa using hx) hr]
end
theorem OwnOK.none:∀ {ms:List Nat} {vs:List SV} {us:List Value} {xs:List (Option GA)},OwnOK g st w ms vs us xs→∀ {i:Nat} {v:SV},vs[i]?=some v→xs[i]?=some none→hasRf v=true→lentOwn ms vs=true
 | m::ms,v::vs,u::us,x::xs,h,i,v',hv,hx,hr=>by
  simp only [OwnOK] at h
  cases i with
  | zero =>
   simp at hv hx
   subst hv; subst hx
   rcases m with _ | _ | m
   ·simp [lentOwn,hr]
   ·exact h.1.elim
   ·cases v <;> exact h.1.elim
  | succ i=>simp [lentOwn,OwnOK.none h.2 (by simpa using hv) (by simpa using hx) hr]
 | [],[],[],[],_,_,_,hv,_,_=>by simp at hv
 | [],_::_,_,_,h,_,_,_,_,_=>by simp [OwnOK] at h
 | [],[],_::_,_,h,_,_,_,_,_=>by simp [OwnOK] at h
 | [],[],[],_::_,h,_,_,_,_,_=>by simp [OwnOK] at h
 | _::_,[],_,_,h,_,_,_,_,_=>by simp [OwnOK] at h
 | _::_,_::_,[],_,h,_,_,_,_,_=>by simp [OwnOK] at h
 | _::_,_::_,_::_,[],h,_,_,_,_,_=>by simp [OwnOK] at h
theorem lone_sum:∀ (l:List Nat) {f:Nat→Nat} {N:Nat},l.Nodup→(∀ k∈l,k < N)→(l.map f).sum≤tot f N
 | [],_,_,_,_=>by simp
 | x::xs,f,N,hn,hl=>by
  simp only [List.nodup_cons] at hn
  have h1:=tot_upd (f:=f) (f':=fun j=>if j=x then 0 else f j) (k:=x) (hl x (List.mem_cons_self ..)) (fun j hj=>if_neg hj)
  have h2:=lone_sum xs (f:=fun j=>if j=x then 0 else f j) (N:=N) hn.2 (fun k hk=>hl k (List.mem_cons_of_mem _ hk))
  have e:xs.map (fun j=>if j=x then 0 else f j)=xs.map f:=List.map_congr_left fun j hj=>if_neg (fun e=>hn.1 (by rw [← e]; exact hj))
  rw [e] at h2
  simp only [List.map_cons,List.sum_cons,if_true] at h1 ⊢
  omega
theorem Sim.newBoxAt (h:Sim X n g st hand a w) {b:Nat} (hb:get st.b b=none) {A:Addr} {cs:List Cel} {us:List Value} (hA:A.block < w.heap.size) (hz:∀ k,g.has A.block k + cntL A.block hand=0) (hf:X.w0.heap.size≤A.block) (hM:InMem w A us) (hc:CelsOK X.S g w cs us) :
    Sim X n (g.setB b A) { st with b:=rep st.b b cs } hand a w:=by
  have hg:=h.nobox b hb
  have hk:Keeps Never g (g.setB b A):=keeps_newb hg
  refine { frame:=h.frame,defers:=h.defers,tmps:=h.tmps,slots:=fun t v ht=>SlotOK.keep hk (fun _ _=>rfl) v _ (never_slot v) (fun _ _ _ _ _ h=>h) (h.slots t v ht),
           boxes:=fun k ks hk'=>?_,nobox:=fun k hk'=>?_,roots:=h.roots,noroot:=h.noroot,reps:=h.reps,held:=h.held,sole:=?_,pb:=fun i A hi=>by
             have e:=h.pb i A hi
             have:i≠b:=fun e'=>by rw [e',hg] at e; cases e
             simp [Gh.setB,this,e],
           hold:=h.hold,mine:=h.mine }
  · simp only [get_rep_if] at hk'
    split at hk'
    · rename_i ek
      subst ek
      simp at hk'
      subst hk'
      exact ⟨A,us,by simp [Gh.setB],hA,hM,hc.keep hk (fun _ _=>rfl) (fun c _=>never_cel c),.inl hf⟩
    · rename_i ek
      obtain ⟨A,vs,e1,e2,e3,e4,e5⟩:=h.boxes k ks hk'
      exact ⟨A,vs,by simp [Gh.setB,ek,e1],e2,e3,e4.keep hk (fun _ _=>rfl) (fun c _=>never_cel c),e5⟩
  · simp only [get_rep_if] at hk'
    split at hk'
    · cases hk'
    · rename_i ek; simp [Gh.setB,ek,h.nobox k hk']
  · refine h.sole.upd b (fun j hj=>by simp [Gh.setB,hj]) (fun _ _=>rfl) (fun x=>?_)
    by_cases ex:x=A.block
    · subst ex
      refine .inr ⟨fun j=>by have:=hz j; omega,?_⟩
      have:=hz b
      simp only [Gh.has,Gh.setB,bcnt,if_true] at this ⊢
      omega
    · refine .inl ?_
      simp only [Gh.has,Gh.setB,bcnt,if_true]
      rw [if_neg (fun e=>ex e.symm)]
      omega
theorem slot_ok {id k:Nat} {news:List G} (hg:g.gr id=some news) (hR:∀ t∈news,Rp X.S w t) (x:GA) (hx:∀ (l:Nat) (t:G),x.ts[l]?=some t→news[k + l]?=some t):SlotOK X.S g w (x.er.slot id k) x.val:=by
 cases x with
 | one t =>
  have:=plant_ok hg hR [t] k hx
  simp only [GA.er,AV.slot,SlotOK,GA.val]
  exact this.2 0 _ _ rfl rfl
 | agg ts =>
  simp only [GA.er,AV.slot,SlotOK,GA.val]
  exact ⟨_,rfl,plant_ok hg hR ts k hx⟩
 | ptr=>simp [GA.er,AV.slot,SlotOK]
theorem slots_ok {id:Nat} {news:List G} (hg:g.gr id=some news) (hR:∀ t∈news,Rp X.S w t):∀ (xs:List GA) (k:Nat),(∀ (l:Nat) (t:G),(xs.flatMap GA.ts)[l]?=some t→news[k + l]?=some t)→SlotsOK X.S g w (slots id k (xs.map GA.er)) (xs.map GA.val)
 | [],_,_=>by simp [slots,SlotsOK]
 | x::xs,k,h=>by
  simp only [List.map_cons,slots,SlotsOK]
  refine ⟨slot_ok hg hR x (fun l t ht=>h l t (by rw [List.flatMap_cons,List.getElem?_append_left (List.getElem?_eq_some_iff.1 ht).1]; exact ht)),slots_ok hg hR xs _ (fun l t ht=>?_)⟩
  rw [GA.er_ts,List.length_map]
  have:=h (x.ts.length + l) t (by rw [List.flatMap_cons,List.getElem?_append_right (by omega)]; simpa using ht)
  rwa [← Nat.add_assoc] at this
theorem results_in {d:Option Nat} {id:Nat} {news tl:List G} {rs:List GA} (h:Sim X n g st [] a w) (hd:∀ k,d=some k→k < n) (hg:g.gr id=some news) (he:news=rs.flatMap GA.ts++tl)
  (hP:∀ A ts,GA.ptr A ts∈rs→A.block < w.heap.size∧InMem w A (ts.map hdr)∧X.w0.heap.size≤A.block∧∀ k,g.has A.block k=0) (hp:runP Te (slotsP d id (rs.map GA.er)) st (fun _ st'=>K st')):Goal X n K (a.put d (resVal rs)) w:=by
 have hR:∀ t∈news,Rp X.S w t:=h.reps id news hg
 have hx:∀ (l:Nat) (t:G),(rs.flatMap GA.ts)[l]?=some t→news[0 + l]?=some t:=fun l t ht=>by
  rw [he,Nat.zero_add,List.getElem?_append_left (List.getElem?_eq_some_iff.1 ht).1]; exact ht
 have hall:=slots_ok hg hR rs 0 hx
 match rs,hall,hx,hP,hp with
 | [],hall,_,_,hp=>exact fin_ok h hd (by simp only [SlotOK]; exact ⟨_,rfl,hall⟩) hp
 | x::y::zs,hall,_,_,hp =>
  have e:slotsP d id ((x::y::zs).map GA.er)=fin d (.tup (slots id 0 ((x::y::zs).map GA.er))):=by cases x <;> rfl
  rw [e] at hp
  exact fin_ok h hd (by simp only [SlotOK]; exact ⟨_,rfl,hall⟩) hp
 | [.one t],hall,_,_,hp=>exact fin_ok h hd hall.1 hp
 | [.agg ts],hall,_,_,hp=>exact fin_ok h hd hall.1 hp
 | [.ptr A ts],_,hx,hP,hp =>
  obtain ⟨p1,p2,p3,p4⟩:=hP A ts (List.mem_cons_self ..)
  simp only [List.map_cons,List.map_nil,GA.er,slotsP,runP] at hp
  cases hb:get st.b id with
  | some _=>simp [hb] at hp
  | none =>
   simp only [hb] at hp
   have h1:=h.newBoxAt hb p1 (fun k=>by simp [p4 k,cntL]) p3 p2 (plant_ok hg hR ts 0 (fun l t ht=>hx l t (by simpa [GA.ts] using ht)))
   exact fin_ok h1 hd (by simp only [SlotOK]; exact ⟨A,by simp [Gh.setB],rfl⟩) hp
end
end Go.X

namespace Go.X
section
variable {P:Program} {X:Ctx} {n:Nat} {g:Gh} {st:St} {hand:List G} {a:Act} {w w':World} {α:Type} {Te:Nat→List AV→Res→Prop} {o:Oper} {K:St→Prop} {Q:Exit→Act→World→Prop}
theorem run_callF {c : Call} {f : FuncId} {fn : Func} (ho : o.op = .call c) (hc : c.callee = .value (.func f)) (hf : P.funcs[f]? = some fn) (hname : (fn.name == "runtime.NumGoroutine") = false) (hb : fn.body.isSome = true) :
  (execOp a.eval o).run P w = .ok (.enter f (c.args.map a.eval)) w:=by
 have h1 : ¬ fn.name = "runtime.NumGoroutine" := by simpa using hname
 have h2:¬ fn.body=none:=by cases hx:fn.body <;> simp_all
 unfold execOp
 simp [ho,resolve,hc,Deferred.ofValue,invoke,callFunc,hf,h1,h2,Act.eval]
theorem ptrO_sub:∀ {ms:List Nat} {os:List (List G)},∀ t∈ptrO ms os,t∈os.flatten
 | [],_,t,h=>by simp [ptrO] at h
 | m::ms,[],t,h=>by simp [ptrO] at h
 | m::ms,o::os,t,h=>by
  simp only [ptrO,List.mem_append] at h
  simp only [List.flatten_cons,List.mem_append]
  rcases h with h | h
  ·rcases m with _ | _ | m
   ·cases h
   ·cases h
   ·exact .inl h
  ·exact .inr (ptrO_sub t h)
theorem ptrO_cnt (b:Nat):∀ (ms:List Nat) (os:List (List G)),cntL b (ptrO ms os)≤cntL b os.flatten
 | [],_=>by simp [ptrO,cntL]
 | m::ms,[]=>by simp [ptrO,cntL]
 | m::ms,o::os=>by
  have:=ptrO_cnt b ms os
  simp only [ptrO,List.flatten_cons,cntL_append]
  rcases m with _ | _ | m <;> simp only [cntL] <;> omega
theorem call_core {F:Nat} {ms:List Nat} {vs:List SV} {us:List Value} {id:Nat} (h:Sim X n g st [] a w) (hr:(execOp a.eval o).run P w = .ok (.enter (F % VN) (wrapV (F / VN) us).toArray) w) (hvs:SlotsOK X.S g w vs us)
  (hd:∀ k,o.dst=some k→k < n) (hp:runP (Tells P X.KP) (callP o.dst id F ms vs) st (fun _ st'=>K st')):o.wp P a w (Goal X n K) Q:=by
 simp only [callP,runP] at hp
 obtain ⟨hl,hp⟩:=hp
 have hnd:=loneN_nodup hl
 obtain ⟨g1,st1,xs,h1,k1,b1,s1,bb1,hp,hO⟩:=passOwn_ok ms vs _ h hvs hp
 have hvs1:=SlotsOK.keep k1 (fun _ _=>rfl) (fun _ _ _ h=>h) vs _ hvs
 obtain ⟨zs,hp,hL⟩:=passLend_ok (S1:=fun b=>X.S b∨(lentOwn ms vs=true∧LendS X g1 b)) (fun b hb=>.inl hb) h1 vs _ xs hvs1 hp (fun i v hv hn hr b hb=>.inr ⟨hO.none hv hn hr,hb⟩)
 have hok:=passOK hO hL
 simp only [runP] at hp
 obtain ⟨r,hT,hck,hp⟩:=hp
 cases hid:get st1.r id with
 | some _=>simp [hid] at hp
 | none =>
 simp only [hid] at hp
 have hlive:∀ b r,0 < rcnt b (g1.gr r)→b < w.heap.size:=fun b r h0=>h1.lt b r (by simp only [Gh.has]; omega)
 have hbox:∀ x∈boxesOf ms vs,∃ B,g1.gb x=some B:=fun x hx=>by
  rw [← ptsOf_boxes] at hx
  obtain ⟨y,hy,rfl⟩:=List.mem_map.1 hx
  obtain ⟨B,_,_,e,_⟩:=hok.ptrs.2 y hy
  exact ⟨B,by rw [b1]; exact e⟩
 have htree:∀ b,treeCnt b zs=cntL b (xs.flatMap oTs):=hok.trees
 have hposP:∀ b,0 < ptrCnt b zs→∃ x∈boxesOf ms vs,∃ B,g1.gb x=some B∧B.block=b:=fun b h0=>by
  have:=hok.cnts b
  by_cases hex:∃ x∈boxesOf ms vs,∃ B,g1.gb x=some B∧B.block=b
  ·exact hex
  ·have:((boxesOf ms vs).map fun k=>bcnt b (g.gb k)).sum=0:=by
    have:∀ l:List Nat,(∀ x∈l,x∈boxesOf ms vs)→(l.map fun k=>bcnt b (g.gb k)).sum=0:=fun l=>by
     induction l with
     | nil=>intro _; rfl
     | cons x l ih =>
      intro hm
      obtain ⟨B,hB⟩:=hbox x (hm x (List.mem_cons_self ..))
      rw [b1] at hB
      have:¬ B.block=b:=fun e=>hex ⟨x,hm x (List.mem_cons_self ..),B,by rw [b1]; exact hB,e⟩
      have e0:bcnt b (g.gb x)=0:=by rw [hB]; exact if_neg this
      have e1:=ih (fun y hy=>hm y (List.mem_cons_of_mem _ hy))
      simp only [List.map_cons,List.sum_cons,e0,e1]
    exact this _ (fun _ h=>h)
   omega
 have hle:∀ b,treeCnt b zs + ptrCnt b zs≤1:=fun b=>by
  obtain ⟨N,q1,q2⟩:=h1.sole
  have a1:=lone_sum (boxesOf ms vs) (f:=g1.has b) (N:=N) (by rw [← ptsOf_boxes] at hnd ⊢; exact hnd) (fun k hk=>by
   obtain ⟨B,hB⟩:=hbox k hk
   by_cases hkN:k < N
   ·exact hkN
   ·rw [(q1 k (by omega)).1] at hB; cases hB)
  have a2:((boxesOf ms vs).map fun k=>bcnt b (g.gb k)).sum≤((boxesOf ms vs).map (g1.has b)).sum:=by
   rw [← b1]
   have:∀ l:List Nat,(l.map fun k=>bcnt b (g1.gb k)).sum≤(l.map (g1.has b)).sum:=fun l=>by
    induction l with
    | nil=>simp
    | cons x l ih=>simp only [List.map_cons,List.sum_cons,Gh.has]; omega
   exact this _
  have a3:=q2 b
  have a4:=hok.cnts b
  have a5:=htree b
  rw [cntL_append] at a3
  omega
 have hnS:∀ b,0 < treeCnt b zs + ptrCnt b zs→¬ (X.S b∨(lentOwn ms vs=true∧LendS X g1 b)):=fun b h0 hS=>by
  by_cases ht:0 < treeCnt b zs
  ·rw [htree] at ht
   have hm:=h1.mine b 0 (by rw [cntL_append]; omega)
   rcases hS with hS | ⟨_,hS | ⟨r,hr⟩⟩
   ·exact hm.1 hS
   ·exact hm.1 hS
   ·have:=h1.sole.one b r
    simp only [Gh.has,cntL_append] at this
    omega
  ·obtain ⟨x,_,B,hB,rfl⟩:=hposP b (by omega)
   rcases hS with hS | ⟨_,hS | ⟨r,hr⟩⟩
   ·exact (h1.boxS hB).1 hS
   ·exact (h1.boxS hB).1 hS
   ·by_cases e:x=r
    ·subst e
     have:=h1.sole.one B.block x
     simp only [Gh.has,hB,bcnt,if_true] at this
     omega
    ·have:=h1.sole.two e B.block
     simp only [Gh.has,hB,bcnt,if_true] at this
     omega
 have hcall:=hT _ zs w rfl (fun b hb=>by
   rcases hb with hb | ⟨_,hb | ⟨r,hr⟩⟩
   ·exact Nat.lt_of_lt_of_le (X.stay b hb).1 h.frame.size
   ·exact Nat.lt_of_lt_of_le (X.stay b hb).1 h.frame.size
   ·exact hlive b r hr) (fun x hx=>⟨hok.reps (fun t ht=>(h1.held t (List.mem_append_left _ ht)).move (fun b hb=>.inl hb) (fun _ _=>rfl) (fun _ _=>rfl)) x hx,fun A ts e=>by
    subst e
    obtain ⟨q1,b,_,B,q2,q3⟩:=hok.ptrs.1 A ts hx
    exact ⟨by rw [q3]; exact (h.boxS q2).2.1,q1⟩⟩) hle hnS (kept_on h.frame fun b hb=>.inl hb)
 unfold Oper.wp
 rw [hr,Oper.upon_enter]
 have ea:us=zs.map GA.val:=by rw [hok.vals]
 rw [ea]
 refine hcall.mono ?_
 rintro e w1 ⟨rs,os,rfl,er1,er2,hrs,hos,hOut,hc1,hc2,hF,hnew⟩
 have e_os:r.outs=os.map (·.map er):=er2.symm
 have e_rs:r.res.flatMap AV.ts=(rs.flatMap GA.ts).map er:=by
  rw [← er1]
  have:∀ l:List GA,(l.map GA.er).flatMap AV.ts=(l.flatMap GA.ts).map er:=fun l=>by
   induction l with
   | nil=>rfl
   | cons x l ih=>simp [GA.er_ts,ih]
  exact this rs
 have e_ln:(r.res.flatMap AV.ts).length=(rs.flatMap GA.ts).length:=by rw [e_rs,List.length_map]
 have hnews:∀ t,t∈rs.flatMap GA.ts∨t∈ptrO ms os→Rp X.S w1 t:=fun t ht=>by
  have h0:Rp (fun b=>X.S b∨(lentOwn ms vs=true∧LendS X g1 b)) w1 t:=by
   rcases ht with ht | ht
   ·obtain ⟨x,hx,ht⟩:=List.mem_flatMap.1 ht
    exact (hrs x hx).1 t ht
   ·obtain ⟨o',ho',ht⟩:=List.mem_flatten.1 (ptrO_sub t ht)
    exact hos o' ho' t ht
  cases hlo:lentOwn ms vs with
  | false =>
   refine h0.move (fun b hb=>?_) (fun _ _=>rfl) (fun _ _=>rfl)
   rcases hb with hb | hb
   ·exact hb
   ·rw [hlo] at hb; cases hb.1
  | true =>
   simp only [hlo,Bool.not_true,Bool.false_or,Bool.and_eq_true] at hck
   refine h0.noRo ?_
   rcases ht with ht | ht
   ·have:=hck.1
    rw [noRoL_eq,e_rs] at this
    simp only [List.all_eq_true,List.mem_map,forall_exists_index,and_imp,forall_apply_eq_imp_iff₂] at this
    exact this t ht
   ·have:=hck.2
    rw [noRoL_eq,e_os,← ptrO_er] at this
    simp only [List.all_eq_true,List.mem_map,forall_exists_index,and_imp,forall_apply_eq_imp_iff₂] at this
    exact this t ht
 have hnn:∀ b,cntL b (rs.flatMap GA.ts++ptrO ms os) + ptrCnt b rs≤treeCnt b rs + ptrCnt b rs + cntL b os.flatten:=fun b=>by
  have:=ptrO_cnt b ms os
  simp only [cntL_append,treeCnt]
  omega
 have hpts:PtsIn g1 st1 (ptsOf ms vs):=fun x hx=>by
  obtain ⟨B,cs,_,q1,q2,q3,_⟩:=hok.ptrs.2 x hx
  exact ⟨B,cs,by rw [b1]; exact q1,by rw [bb1]; exact q2,q3⟩
 obtain ⟨d1,d2,d3,d4,d5⟩:=dead_ok h1 hpts (by rw [ptsOf_boxes]; exact hnd)
 obtain ⟨hBack,hBx⟩:=hok.back hOut
 have hA:=d1.after (news:=rs.flatMap GA.ts++ptrO ms os) (fun k=>k∈boxesOf ms vs) hF.os hF.tape hF.output hF.size (fun b hb hc hk=>by
   refine hF.block b hb ?_
   have e1:=htree b
   by_cases h0:0 < ptrCnt b zs
   ·obtain ⟨x,hx,B,hB,e⟩:=hposP b h0
    exact absurd e (hk x B hx hB)
   ·omega) (fun k A cs hk hA hcs=>by
   rw [← ptsOf_boxes] at hk
   obtain ⟨x,hx,rfl⟩:=List.mem_map.1 hk
   obtain ⟨B,cs0,ts,q1,q2,q3,q4,q5⟩:=hok.ptrs.2 x hx
   obtain ⟨B',o',p1,p2,p3⟩:=hBx x hx
   rw [q1] at p1
   simp at p1
   subst p1
   rw [b1,q1] at hA
   simp at hA
   subst hA
   rw [d5 x hx cs0 (by rw [bb1]; exact q2)] at hcs
   simp at hcs
   subst hcs
   refine ⟨x.2.1,o'.map hdr,?_,p3,fun i hi1 hi2=>?_,fun oo hoo=>?_⟩
   ·simp [seg]; omega
   ·have e1:(cs0.take x.2.1).length=x.2.1:=by simp; omega
    simp only [List.length_map] at hi2
    unfold seg
    rw [List.getElem?_append_left (by simp; omega),List.getElem?_append_right (by omega),List.getElem?_replicate,if_pos (by omega)]
   ·refine hF.range (atB B x.2.1) ts q5 oo ?_
    simpa [q4,p2] using hoo) (fun t ht=>hnews t (by
   rcases List.mem_append.1 ht with ht | ht
   ·exact .inl ht
   ·exact .inr ht)) (fun b=>by
   have a1:=hnn b
   have a2:=hc1 b
   have a3:=hc2 b
   have a4:=htree b
   by_cases h0:cntL b (rs.flatMap GA.ts++ptrO ms os)=0
   ·left; omega
   ·rcases a3 (by omega) with a3 | a3
    ·right; exact ⟨a3,by omega⟩
    ·left; omega)
 have hA2:=hA.newRoot (d:=id) (by rw [d3]; exact hid)
 have e_news:(rs.flatMap GA.ts++ptrO ms os).map er=r.res.flatMap AV.ts++ptrOuts ms r.outs:=by rw [List.map_append,ptrO_er,e_rs,e_os]
 have hp2:runP (Tells P X.KP) (backP id ms vs (os.map (·.map er)) (rs.flatMap GA.ts).length (slotsP o.dst id r.res)) { s:=st1.s,b:=st1.b,r:=rep st1.r id (r.res.flatMap AV.ts++ptrOuts ms r.outs) } (fun _ st'=>K st'):=by
  rw [← e_os,← e_ln]; exact hp
 rw [e_news] at hA2
 obtain ⟨st',r1,r2,r3,r4⟩:=back_ok (id:=id) (news:=rs.flatMap GA.ts++ptrO ms os) ms vs os (rs.flatMap GA.ts).length (sd:={ deadS (ptsOf ms vs) st1 with r:=rep (deadS (ptsOf ms vs) st1).r id (r.res.flatMap AV.ts++ptrOuts ms r.outs) })
  (st:={ s:=st1.s,b:=st1.b,r:=rep st1.r id (r.res.flatMap AV.ts++ptrOuts ms r.outs) }) hA2 ⟨fun k=>by simp only [d2],fun k=>by simp only [d3]⟩ (fun k hk=>d4 k hk) (fun x hx=>by
   obtain ⟨B,cs0,ts,q1,q2,q3,q4,q5⟩:=hok.ptrs.2 x hx
   exact ⟨cs0,by simp only [bb1]; exact q2,q3,d5 x hx cs0 (by rw [bb1]; exact q2)⟩) (by rw [ptsOf_boxes]; exact hnd) (setR_same _ _ _) (by simp) (by
   have:(g1.setR id (rs.flatMap GA.ts++ptrO ms os)).gb=g.gb:=b1
   rw [this]
   exact hBack) hp2
 rw [← er1] at r4
 refine results_in r1 hd (setR_same _ _ _) rfl (fun A ts hm=>?_) r4
 have p1:=(hrs _ hm).2 A ts rfl
 have p2:=hnew A ts hm
 have p3:=ptrCnt_mem hm
 have p4:=hnn A.block
 have p5:=hc1 A.block
 refine ⟨p1.1,p1.2,Nat.le_trans h.frame.size p2,fun k=>?_⟩
 have z:∀ k,g1.has A.block k=0:=fun k=>by
  have:=fun h0=>h1.lt A.block k h0
  omega
 by_cases e:k=id
 ·subst e
  have:=z k
  simp only [Gh.has] at this ⊢
  rw [setR_same]
  show bcnt A.block (g1.gb k) + _=0
  simp only [rcnt]
  omega
 ·have:=z k
  simp only [Gh.has] at this ⊢
  rw [setR_ne _ _ e]
  exact this
theorem run_callV {c : Call} {f : FuncId} {fn : Func} {y : Operand} {caps : Array Value} (ho : o.op = .call c) (hc : c.callee = .value y) (hv : a.eval y = .func (.func f) #[] caps) (hf : P.funcs[f]? = some fn) (hname : (fn.name == "runtime.NumGoroutine") = false) (hb : fn.body.isSome = true) :
  (execOp a.eval o).run P w = .ok (.enter f (c.args.map a.eval++caps)) w:=by
 have h1 : ¬ fn.name = "runtime.NumGoroutine" := by simpa using hname
 have h2:¬ fn.body=none:=by cases hx:fn.body <;> simp_all
 unfold execOp
 simp [ho,resolve,hc,hv,Deferred.ofValue,invoke,callFunc,hf,h1,h2]
theorem SlotsOK.snoc {S:Nat→Prop}:∀ {vs:List SV} {us:List Value} {v:SV} {u:Value},SlotsOK S g w vs us→SlotOK S g w v u→SlotsOK S g w (vs++[v]) (us++[u])
 | [],[],_,_,_,h=>⟨h,trivial⟩
 | x::xs,y::ys,_,_,h,h'=>by
  simp only [SlotsOK,List.cons_append] at h ⊢
  exact ⟨h.1,h.2.snoc h'⟩
 | [],_::_,_,_,h,_=>by simp [SlotsOK] at h
 | _::_,[],_,_,h,_=>by simp [SlotsOK] at h
theorem Sim.dim (h:Sim X n g st [] a w) {b:Nat} {cs:List Cel} (hb:get st.b b=some cs):Sim X n g { st with b:=rep st.b b (cs.map deadRo) } [] a w :=
  { h with
    boxes:=fun k ks hk=>by
      simp only [get_rep_if] at hk
      split at hk
      · rename_i e
        subst e
        simp at hk
        subst hk
        obtain ⟨A,us,e1,e2,e3,e4,e5⟩:=h.boxes k cs hb
        refine ⟨A,us,e1,e2,e3,⟨by simpa using e4.1,fun i c u hc hu=>?_⟩,by simpa using e5⟩
        rw [List.getElem?_map] at hc
        cases hi:cs[i]? with
        | none=>simp [hi] at hc
        | some c0 =>
          simp only [hi,Option.map_some,Option.some.injEq] at hc
          subst hc
          have:=e4.2 i c0 u hi hu
          cases c0 <;> simp only [deadRo] <;> first | exact this | exact this.one
      · exact h.boxes k ks hk
    nobox:=fun k hk=>by
      simp only [get_rep_if] at hk
      split at hk
      · cases hk
      · exact h.nobox k hk }
theorem do_call {c : Call} {f : FuncId} {fn : Func} {ms : List Nat} {ys : List Opd} {id : Nat} (h : Sim X n g st [] a w) (ho : o.op = .call c) (hc : c.callee = .value (.func f)) (hf : P.funcs[f]? = some fn) (hname : (fn.name == "runtime.NumGoroutine") = false) (hb : fn.body.isSome = true) (hfs : f < VN)
  (hx:opdsOk c.args.toList ys=true) (hd:∀ k,o.dst=some k→k < n) (hp:runP (Tells P X.KP) ((COp.call f ms ys).prg o.dst id) st (fun _ st'=>K st')):o.wp P a w (Goal X n K) Q:=by
 replace hp:=evL_ok h hx hp
 obtain ⟨vs,hvs,hp⟩:=hp
 refine call_core h ?_ hvs hd hp
 rw [run_callF ho hc hf hname hb,Nat.div_eq_of_lt hfs,Nat.mod_eq_of_lt hfs]
 congr 2
 apply Array.toList_inj.1
 simp [wrapV]
theorem do_vcall {c : Call} {f k : FuncId} {fn : Func} {ms : List Nat} {xs : List Operand} {y : Operand} {ys : List Opd} {y' : Opd} {id : Nat} (h : Sim X n g st [] a w) (ho : o.op = .call c) (hc : c.callee = .value (.func f)) (hf : P.funcs[f]? = some fn) (hname : (fn.name == "runtime.NumGoroutine") = false) (hb : fn.body.isSome = true) (hfs : f < VN)
  (ha:c.args.toList=xs++[y]) (hx:opdsOk xs ys=true) (hy:opdOk y y'=true) (hd:∀ k,o.dst=some k→k < n) (hp:runP (Tells P X.KP) ((COp.vcall f k ms ys y').prg o.dst id) st (fun _ st'=>K st')):o.wp P a w (Goal X n K) Q:=by
 replace hp:=evL_ok h hx hp
 obtain ⟨vs,hvs,hp⟩:=hp
 replace hp:=ev_ok h hy hp
 obtain ⟨v,hv,hp⟩:=hp
 split at hp
 ·rename_i g' b off
  simp only [runP,beq_iff_eq] at hp
  obtain ⟨rfl,hp⟩:=hp
  cases hbb:get st.b b with
  | none=>simp [hbb] at hp
  | some cs =>
  simp only [hbb] at hp
  replace h:=h.dim hbb
  simp only [SlotOK] at hv
  obtain ⟨A,hA,e⟩:=hv
  have hv':SlotOK X.S g w (.bp b off) (.pointer (some ⟨A.block,A.off + off,none⟩)):=by
   simp only [SlotOK]
   exact ⟨A,hA,rfl⟩
  have e1:(f + VN * (g' + 1)) / VN=g' + 1:=by rw [Nat.add_mul_div_left _ _ (by decide),Nat.div_eq_of_lt hfs,Nat.zero_add]
  have e2:(f + VN * (g' + 1)) % VN=f:=by rw [Nat.add_mul_mod_self_left,Nat.mod_eq_of_lt hfs]
  refine call_core h ?_ (hvs.snoc hv') hd hp
  rw [run_callF ho hc hf hname hb,e1,e2]
  have ea:(c.args.map a.eval).toList=xs.map a.eval++[a.eval y]:=by simp [ha]
  have eb:c.args.map a.eval=(xs.map a.eval++[a.eval y]).toArray:=by rw [← ea]
  rw [eb,e]
  simp [wrapV]
 ·exact hp.elim
theorem do_dcall {c : Call} {k : FuncId} {fn : Func} {ms : List Nat} {y : Operand} {ys : List Opd} {y' : Opd} {id : Nat} (h : Sim X n g st [] a w) (ho : o.op = .call c) (hc : c.callee = .value y) (hf : P.funcs[k]? = some fn) (hname : (fn.name == "runtime.NumGoroutine") = false) (hb : fn.body.isSome = true) (hfs : k < VN)
  (hx:opdsOk c.args.toList ys=true) (hy:opdOk y y'=true) (hd:∀ k,o.dst=some k→k < n) (hp:runP (Tells P X.KP) ((COp.dcall k ms ys y').prg o.dst id) st (fun _ st'=>K st')):o.wp P a w (Goal X n K) Q:=by
 replace hp:=evL_ok h hx hp
 obtain ⟨vs,hvs,hp⟩:=hp
 replace hp:=ev_ok h hy hp
 obtain ⟨v,hv,hp⟩:=hp
 split at hp
 ·rename_i g' b off
  simp only [runP,beq_iff_eq] at hp
  obtain ⟨rfl,hp⟩:=hp
  cases hbb:get st.b b with
  | none=>simp [hbb] at hp
  | some cs =>
  simp only [hbb] at hp
  replace h:=h.dim hbb
  simp only [SlotOK] at hv
  obtain ⟨A,hA,e⟩:=hv
  have hv':SlotOK X.S g w (.bp b off) (.pointer (some ⟨A.block,A.off + off,none⟩)):=by
   simp only [SlotOK]
   exact ⟨A,hA,rfl⟩
  refine call_core h ?_ (hvs.snoc hv') hd hp
  rw [run_callV ho hc e hf hname hb,Nat.div_eq_of_lt hfs,Nat.mod_eq_of_lt hfs]
  congr 2
  apply Array.toList_inj.1
  simp [wrapV]
 ·exact hp.elim
theorem do_clos {k:FuncId} {x:Operand} {x':Opd} (h:Sim X n g st [] a w) (ho:o.op = .makeFunc (.func k) #[] #[x]) (hx:opdOk x x'=true) (hd:∀ k,o.dst=some k→k < n) (id:Nat)
  (hp:runP Te ((COp.clos k x').prg o.dst id) st (fun _ st'=>K st')):o.wp P a w (Goal X n K) Q:=by
 replace hp:=ev_ok h hx hp
 obtain ⟨v,hv,hp⟩:=hp
 split at hp
 ·rename_i b off
  simp only [SlotOK] at hv
  obtain ⟨A,hA,e⟩:=hv
  refine step_value (v:=.func (.func k) #[] #[a.eval x]) (w':=w) ?_ (fin_ok h hd ?_ hp)
  ·simp [execOp,ho,Instr.makeFunc]
  ·simp only [SlotOK]
   exact ⟨A,hA,by rw [e]⟩
 ·exact hp.elim
end
end Go.X

namespace Go.X
section
variable {P:Program} {X:Ctx} {n:Nat} {g:Gh} {st:St} {hand:List G} {a:Act} {w w':World} {α:Type} {Te:Nat→List AV→Res→Prop} {o:Oper} {K:St→Prop} {Q:Exit→Act→World→Prop}
theorem Sim.rerootE {hand':List G} {Ex:Nat→Nat→List (Nat×Nat)→Prop} (h:Sim X n g st hand a w) (r:Nat) (gs':List G) (hk:Keeps Ex g (g.setR r gs')) (hsl:∀ k v,get st.s k=some v→¬ SlotEx Ex v∧∀ vs,v = .tup vs→∀ r' c' p',¬ Ex r' c' p') (hbx:∀ b cs,get st.b b=some cs→∀ x∈cs,¬ CelEx Ex x)
    (hreps:∀ t∈gs',Rp X.S w t) (hheld:∀ t∈hand',Rp X.S w t)
    (hc:∀ b,cntL b gs' + cntL b hand'≤rcnt b (g.gr r) + cntL b hand) (hh:∀ old,g.gr r=some old→gs'.map hdr=old.map hdr):Sim X n (g.setR r gs') { st with r:=rep st.r r (gs'.map er) } hand' a w :=
  { frame:=h.frame,defers:=h.defers,tmps:=h.tmps,
    slots:=fun t v ht=>SlotOK.keep hk (fun _ _=>rfl) v _ (hsl t v ht).1 (hsl t v ht).2 (h.slots t v ht),
    boxes:=fun b cs hb=>by
      obtain ⟨A,us,h1,h2,h3,h4,h5⟩:=h.boxes b cs hb
      exact ⟨A,us,hk.b _ _ h1,h2,h3,h4.keep hk (fun _ _=>rfl) (hbx b cs hb),h5⟩,
    nobox:=h.nobox,
    roots:=fun k ts hk'=>by
      simp only [get_rep_if] at hk'
      split at hk'
      · rename_i e; subst e; simp at hk'; exact ⟨gs',setR_same _ _ _,hk'⟩
      · rename_i e; rw [setR_ne _ _ e]; exact h.roots k ts hk',
    noroot:=fun k hk'=>by
      simp only [get_rep_if] at hk'
      split at hk'
      · cases hk'
      · rename_i e; rw [setR_ne _ _ e]; exact h.noroot k hk',
    reps:=fun k gs hg t ht=>by
      by_cases e:k=r
      · subst e; rw [setR_same] at hg; simp at hg; subst hg; exact hreps t ht
      · rw [setR_ne _ _ e] at hg; exact h.reps k gs hg t ht,
    held:=hheld,
    sole:=h.sole.upd r (fun _ _=>rfl) (fun j hj=>setR_ne _ _ hj) (fun b=>.inl (by
      have:=hc b
      simp only [Gh.has,setR_same,rcnt,Gh.setR] at this ⊢
      simp
      omega)),
    pb:=h.pb,
    hold:=fun i hs hi=>by
      obtain ⟨gs,h1,h2⟩:=h.hold i hs hi
      by_cases e:i=r
      · subst e; exact ⟨gs',setR_same _ _ _,by rw [hh gs h1]; exact h2⟩
      · exact ⟨gs,by rw [setR_ne _ _ e]; exact h1,h2⟩,
    mine:=fun b k hb=>by
      have:=hc b
      by_cases e:k=r
      · subst e
        rw [setR_same] at hb
        simp only [rcnt] at hb
        exact h.mine b k (by omega)
      · rw [setR_ne _ _ e] at hb
        by_cases h0:0 < rcnt b (g.gr k) + cntL b hand
        · exact h.mine b k h0
        · exact h.mine b r (by omega) }
theorem flat_below:∀ {rows:List (List T)},flat rows=true→∀ r∈rows,∀ t∈r,isPv t=true
 | [],_,r,hr=>by cases hr
 | r0::rs,h,r,hr=>by
  simp only [flat,Bool.and_eq_true,List.all_eq_true] at h
  rcases List.mem_cons.1 hr with rfl | hr
  ·exact h.1
  ·exact flat_below h.2 r hr
theorem flat_atP {u m:G} (hf:flat (er u).rows=true):∀ {s:List (Nat×Nat)},s≠[]→atP u s=some m→m.held=false
 | [],h,_=>absurd rfl h
 | (i,j)::s,_,h=>by
  simp only [atP] at h
  cases ho:u.own with
  | false=>simp [ho] at h
  | true =>
   simp only [ho,cond_true] at h
   cases hc:cellAt u i j with
   | none=>simp [hc] at h
   | some d =>
    simp only [hc,Option.bind_some] at h
    have hd:∃ v,d = .pv v:=by
     cases u with
     | pv v=>simp [Tr.own] at ho
     | no v=>simp [Tr.own] at ho
     | sl o z hv rows =>
      simp only [cellAt,Tr.rows] at hc
      cases hr:rows[i]? with
      | none=>simp [hr] at hc
      | some row =>
       simp only [hr,Option.bind_some] at hc
       have:=flat_below hf (row.map er) (by simp only [er,Tr.rows,erLL_eq]; exact List.mem_map_of_mem (List.mem_of_getElem? hr)) (er d) (List.mem_map_of_mem (List.mem_of_getElem? hc))
       cases d <;> simp_all [er,isPv]
    obtain ⟨v,rfl⟩:=hd
    cases s with
    | nil=>simp [atP] at h; subst h; rfl
    | cons x s=>simp [atP,Tr.own] at h
theorem keeps_back {r c:Nat} {p:List (Nat×Nat)} {gs:List G} {t m u:G} (hg:g.gr r=some gs) (ht:gs[c]?=some t) (hm:atP t p=some m) (hh:m.held=true) (hu:hdr u=hdr m) (hf:flat (er u).rows=true) :
  Keeps Never g (g.setR r (gs.set c (setP t p u))):=by
 have h:=keeps_setP hg ht hm hh hu
 refine ⟨h.b,h.r,fun r' c' q m' _ hr' hn hh'=>?_⟩
 by_cases e:Below' r c p r' c' q
 ·obtain ⟨rfl,rfl,s,rfl,hs⟩:=e
  exfalso
  have hc:=(List.getElem?_eq_some_iff.1 ht).1
  simp only [nodeAt,setR_same,Option.bind_some,List.getElem?_set_self hc] at hn
  have:∀ (p:List (Nat×Nat)) {t m:G},atP t p=some m→atP (setP t p u) (p++s)=atP u s:=by
   intro p
   induction p with
   | nil=>intro t m hm; simp [setP]
   | cons x p ih =>
    obtain ⟨i,j⟩:=x
    intro t m hm
    simp only [atP] at hm
    cases ho:t.own with
    | false=>simp [ho] at hm
    | true =>
     simp only [ho,cond_true] at hm
     cases hc:cellAt t i j with
     | none=>simp [hc] at hm
     | some d =>
      simp only [hc,Option.bind_some] at hm
      simp only [setP,hc,List.cons_append,atP,setCell_own ho hc,cond_true,cellAt_setCell ho hc,and_self,if_true,Option.bind_some]
      exact ih hm
  rw [this p hm] at hn
  rw [flat_atP hf hs hn] at hh'
  cases hh'
 ·exact h.h r' c' q m' e hr' hn hh'
def GoneAt (g:Gh) (cs:List Cel) (vs:List Value):Prop:=∀ (i r c z o l:Nat) (p:List (Nat×Nat)) (v:Value),cs[i]?=some (.rf r c p z o l)→vs[i]?=some v→nodeAt g r c p=some (.no v)
theorem lone_cons {x:Nat×Nat} {xs:List (Nat×Nat)} (h:lone (x::xs)=true):x∉xs∧lone xs=true:=by
 simp only [lone,Bool.and_eq_true,Bool.not_eq_true',List.contains_eq_mem,decide_eq_false_iff_not] at h
 exact h
theorem lone_app:∀ {xs ys:List (Nat×Nat)},lone (xs++ys)=true→lone ys=true∧∀ x∈xs,x∉ys
 | [],ys,h=>⟨h,fun x hx=>by cases hx⟩
 | x::xs,ys,h=>by
  obtain ⟨h1,h2⟩:=lone_cons h
  obtain ⟨h3,h4⟩:=lone_app h2
  refine ⟨h3,fun y hy=>?_⟩
  rcases List.mem_cons.1 hy with rfl | hy
  ·exact fun e=>h1 (List.mem_append_right _ e)
  ·exact h4 y hy
theorem takeW_ok {k:T→Prg α} {R:α→St→Prop} {c:Cel} {v:Value} (h:Sim X n g st hand a w) (hc:CelOK X.S g w c v) (hp:runP Te (takeW c k) st R) :
  ∃ g' st' u,Sim X n g' st' (u::hand) a w∧Keeps Never g g'∧hdr u=v∧runP Te (k (er u)) st' R∧g'.gb=g.gb∧st'.s=st.s∧st'.b=st.b∧
   GoneAt g' [c] [v]∧∀ r' c' p',(r',c')∉keyOf c→nodeAt g' r' c' p'=nodeAt g r' c' p':=by
 cases c with
 | pv u =>
  obtain ⟨rfl,h1⟩:=hc
  exact ⟨g,st,.pv v,h.more (.pv h1) (fun b=>by simp [cnt]),Keeps.refl _ _,rfl,by simpa [takeW,er] using hp,rfl,rfl,rfl,fun i r c z o l p v h=>by
   cases i <;> simp at h,fun _ _ _ _=>rfl⟩
 | nils z =>
  obtain rfl:=hc
  exact ⟨g,st,.sl true z (.slice none 0 0) [],h.more .nil (fun b=>by simp [cnt,cntLL,hb]),Keeps.refl _ _,rfl,by simpa [takeW,er,erLL] using hp,rfl,rfl,rfl,fun i r c z o l p v h=>by
   cases i <;> simp at h,fun _ _ _ _=>rfl⟩
 | ro=>simp [takeW,runP] at hp
 | dead=>simp [takeW,runP] at hp
 | rf r c p z off len =>
  simp only [takeW,runP] at hp
  cases hr:get st.r r with
  | none=>simp [hr] at hp
  | some cs =>
   simp only [hr,node] at hp
   split at hp
   ·rename_i z' hh rows hn
    simp only [runP,hr,Bool.and_eq_true,beq_iff_eq] at hp
    obtain ⟨rfl,⟨rfl,hl⟩,hp⟩:=hp
    obtain ⟨g',u,h1,k1,e1,e2,e3,e4,e5⟩:=h.take hr hn (by omega) hc
    obtain ⟨gs,hg,_⟩:=h.roots r cs hr
    obtain ⟨hv,t,ht,hg',hvv⟩:=e4 gs hg
    have hvv:=hvv hl
    subst hvv
    have hcl:=(List.getElem?_eq_some_iff.1 ht).1
    obtain ⟨gs2,t2,hv2,rs2,hg2,ecs,ht2,hm2,_⟩:=h.node hr hn
    rw [hg] at hg2
    simp at hg2
    subst hg2
    rw [ht] at ht2
    simp at ht2
    subst ht2
    have e2':er u = .sl true z' () rows:=by rw [e2,hl,List.take_length]
    refine ⟨g',_,u,h1,k1,e1,by rw [e2']; exact hp,e5,rfl,rfl,fun i r' c' z o l p' v' h h'=>?_,fun r' c' p' hne=>?_⟩
    ·cases i with
     | zero =>
      simp at h h'
      obtain ⟨rfl,rfl,rfl,_⟩:=h
      subst h'
      simp only [nodeAt,hg',Option.bind_some,List.getElem?_set_self hcl]
      exact atP_setP_self _ hm2
     | succ i=>simp at h
    ·simp only [keyOf,List.mem_singleton,Prod.mk.injEq] at hne
     by_cases er':r'=r
     ·subst er'
      simp only [nodeAt,hg',hg,Option.bind_some]
      rw [List.getElem?_set_ne (fun e=>hne ⟨rfl,e.symm⟩)]
     ·simp only [nodeAt,e3 r' er']
   ·simp [runP] at hp
theorem takeWs_ok:∀ {cs:List Cel} {vs:List Value} {k:List T→Prg α} {g:Gh} {st:St} {hand:List G} {R:α→St→Prop},Sim X n g st hand a w→CelsOK X.S g w cs vs→lone (cs.flatMap keyOf)=true→runP Te (takeWs cs k) st R→
  ∃ g' st' us,Sim X n g' st' (us++hand) a w∧Keeps Never g g'∧us.map hdr=vs∧runP Te (k (us.map er)) st' R∧g'.gb=g.gb∧st'.s=st.s∧st'.b=st.b∧
   GoneAt g' cs vs∧∀ r' c' p',(r',c')∉cs.flatMap keyOf→nodeAt g' r' c' p'=nodeAt g r' c' p'
 | [],vs,k,g,st,hand,R,h,hc,_,hp=>by
  have:vs=[]:=List.eq_nil_of_length_eq_zero (by simpa using hc.1.symm)
  subst this
  exact ⟨g,st,[],h,Keeps.refl _ _,rfl,hp,rfl,rfl,rfl,fun i r c z o l p v h=>by simp at h,fun _ _ _ _=>rfl⟩
 | c::cs,[],k,g,st,hand,R,h,hc,_,hp=>by simp [CelsOK] at hc
 | c::cs,v::vs,k,g,st,hand,R,h,hc,hl,hp=>by
  simp only [takeWs] at hp
  simp only [List.flatMap_cons] at hl
  obtain ⟨hl1,hl2⟩:=lone_app hl
  obtain ⟨g1,st1,u,h1,k1,e1,hp1,b1,s1,bb1,G1,F1⟩:=takeW_ok h (hc.2 0 c v rfl rfl) hp
  have hcs:CelsOK X.S g1 w cs vs:=⟨by simpa using hc.1,fun i c v h h'=>(hc.2 (i + 1) c v (by simpa using h) (by simpa using h')).keep k1 (fun _ _=>rfl) (never_cel c)⟩
  obtain ⟨g2,st2,us,h2,k2,e2,hp2,b2,s2,bb2,G2,F2⟩:=takeWs_ok h1 hcs hl1 hp1
  refine ⟨g2,st2,u::us,h2.sub (fun t ht=>?_) (fun b=>?_),k1.trans k2,by simp [e1,e2],hp2,b2.trans b1,s2.trans s1,bb2.trans bb1,fun i r c' z o l p v' hc' hv'=>?_,fun r' c' p' hne=>?_⟩
  ·simp only [List.cons_append,List.mem_cons,List.mem_append] at ht ⊢
   rcases ht with h | h | h
   ·exact .inr (.inl h)
   ·exact .inl h
   ·exact .inr (.inr h)
  ·simp only [List.cons_append,cntL,cntL_append]; omega
  ·cases i with
   | zero =>
    simp at hc' hv'
    subst hc'; subst hv'
    rw [F2 r c' p (hl2 (r,c') (by simp [keyOf]))]
    exact G1 0 r c' z o l p v rfl rfl
   | succ i=>exact G2 i r c' z o l p v' (by simpa using hc') (by simpa using hv')
  ·simp only [List.flatMap_cons,List.mem_append,not_or] at hne
   rw [F2 r' c' p' hne.2,F1 r' c' p' hne.1]
theorem backC_ok {k:Prg α} {R:α→St→Prop} {c:Cel} {v:Value} {u:G} (h:Sim X n g st (u::hand) a w) (hu:hdr u=v) (hG:GoneAt g [c] [v]) (hp:runP Te (backC c (er u) k) st R) :
  ∃ g' st',Sim X n g' st' hand a w∧runP Te k st' R∧∀ r' c' p',(r',c')∉keyOf c→nodeAt g' r' c' p'=nodeAt g r' c' p':=by
 have drop:runP Te k st R→∃ g' st',Sim X n g' st' hand a w∧runP Te k st' R∧∀ r' c' p',(r',c')∉keyOf c→nodeAt g' r' c' p'=nodeAt g r' c' p':=fun hp =>
  ⟨g,st,h.sub (fun t ht=>List.mem_cons_of_mem _ ht) (fun b=>by simp only [cntL]; omega),hp,fun _ _ _ _=>rfl⟩
 cases c with
 | rf r c p z off len =>
  simp only [backC,runP] at hp
  cases hr:get st.r r with
  | none=>simp [hr] at hp
  | some cs =>
   simp only [hr] at hp
   split at hp
   ·rename_i hn
    have hno:=hG 0 r c z off len p v rfl rfl
    obtain ⟨gs,hg,ecs⟩:=h.roots r cs hr
    simp only [nodeAt,hg,Option.bind_some] at hno
    cases ht:gs[c]? with
    | none=>simp [ht] at hno
    | some t =>
     simp only [ht,Option.bind_some] at hno
     have hcl:=(List.getElem?_eq_some_iff.1 ht).1
     have hR:=h.reps r gs hg t (List.mem_of_getElem? ht)
     have hRu:=h.held u (List.mem_cons_self ..)
     have e1:putAt cs c p (er u)=(gs.set c (setP t p u)).map er:=by
      rw [map_set_er,er_setP,← ecs]
      simp [putAt,List.getElem?_map,ht]
     have huv:hdr u=hdr (.no v:G):=by rw [hu]; rfl
     have hreps:∀ x∈gs.set c (setP t p u),Rp X.S w x:=fun x hx=>by
      rcases List.mem_or_eq_of_mem_set hx with hx | rfl
      ·exact h.reps r gs hg x hx
      ·exact hR.setP (fun _ h=>h) (fun _ _=>rfl) p hno hRu huv (fun _ _=>rfl)
     have hheld:∀ x∈hand,Rp X.S w x:=fun x hx=>h.held x (List.mem_cons_of_mem _ hx)
     have hcnt:∀ b,cntL b (gs.set c (setP t p u)) + cntL b hand≤rcnt b (g.gr r) + cntL b (u::hand):=fun b=>by
      have a1:=cntL_set b gs c t (setP t p u) ht
      have a2:=cnt_setP b p (u:=u) hno
      simp only [cntL,cnt,hg,rcnt] at a2 ⊢
      omega
     have hhd:∀ old,g.gr r=some old→(gs.set c (setP t p u)).map hdr=old.map hdr:=fun old ho=>by
      rw [hg] at ho
      simp at ho
      subst ho
      exact map_hdr_set ht (hdr_setP p hno huv)
     have hfar:∀ r' c' p',(r',c')∉keyOf (.rf r c p z off len)→nodeAt (g.setR r (gs.set c (setP t p u))) r' c' p'=nodeAt g r' c' p':=fun r' c' p' hne=>by
      simp only [keyOf,List.mem_singleton,Prod.mk.injEq] at hne
      by_cases er':r'=r
      ·subst er'
       simp only [nodeAt,setR_same,hg,Option.bind_some]
       rw [List.getElem?_set_ne (fun e=>hne ⟨rfl,e.symm⟩)]
      ·rw [nodeAt_setR_ne _ _ er']
     cases hf:flat (er u).rows with
     | true =>
      rw [hf] at hp
      simp only [cond_true,runP,hr] at hp
      rw [e1] at hp
      exact ⟨_,_,h.reroot r _ (keeps_back hg ht hno rfl huv hf) hreps hheld hcnt hhd,hp,hfar⟩
     | false =>
      rw [hf] at hp
      simp only [cond_false,runP,hr] at hp
      obtain ⟨hlo,hp⟩:=hp
      rw [e1] at hp
      obtain ⟨hsl,hbx⟩:=noLower_ok hlo
      exact ⟨_,_,h.rerootE r _ (keeps_setP hg ht hno rfl huv) hsl hbx hreps hheld hcnt hhd,hp,hfar⟩
   ·exact hp.elim
 | _=>exact drop hp
theorem backL_ok:∀ {cs:List Cel} {vs:List Value} {us:List G} {k:Prg α} {g:Gh} {st:St} {hand:List G} {R:α→St→Prop},Sim X n g st (us++hand) a w→us.map hdr=vs→lone (cs.flatMap keyOf)=true→GoneAt g cs vs→runP Te (backL cs (us.map er) k) st R→
  ∃ g' st',Sim X n g' st' hand a w∧runP Te k st' R
 | [],vs,[],k,g,st,hand,R,h,_,_,_,hp=>⟨g,st,h,hp⟩
 | c::cs,vs,u::us,k,g,st,hand,R,h,hv,hl,hG,hp=>by
  subst hv
  simp only [List.map_cons,backL] at hp
  simp only [List.flatMap_cons] at hl
  obtain ⟨hl1,hl2⟩:=lone_app hl
  obtain ⟨g1,st1,h1,hp1,F1⟩:=backC_ok (v:=hdr u) h rfl (fun i r c' z o l p v h h'=>hG i r c' z o l p v (by cases i with | zero=>simpa using h | succ i=>simp at h) (by cases i with | zero=>simpa using h' | succ i=>simp at h)) hp
  exact backL_ok h1 rfl hl1 (fun i r c' z o l p v h h'=>by
   have hm:(r,c')∈cs.flatMap keyOf:=List.mem_flatMap.2 ⟨_,List.mem_of_getElem? h,by simp [keyOf]⟩
   rw [F1 r c' p (fun e=>hl2 _ e hm)]
   exact hG (i + 1) r c' z o l p v (by simpa using h) (by simpa using h')) hp1
 | [],_,_::_,_,_,_,_,_,_,_,_,_,hp=>by simp [backL,runP] at hp
 | _::_,_,[],_,_,_,_,_,_,_,_,_,hp=>by simp [backL,runP] at hp
end
end Go.X

namespace Go.X
section
variable {P:Program} {X:Ctx} {n:Nat} {g:Gh} {st:St} {hand:List G} {a:Act} {w w':World} {α:Type} {o:Oper} {K:St→Prop} {Q:Exit→Act→World→Prop}
theorem plains_ok {S:Nat→Prop}:∀ {ys:List SV} {us:List Value} {as:List AV},plains ys=some as→SlotsOK S g w ys us→∃ gs:List GA,gs.map GA.er=as∧gs.map GA.val=us∧(∀ x∈gs,x.ok S w)∧∀ b,treeCnt b gs + ptrCnt b gs=0
 | [],[],as,h,_=>by simp [plains] at h; subst h; exact ⟨[],rfl,rfl,fun x hx=>(by cases hx),fun b=>rfl⟩
 | y::ys,u::us,as,h,hs=>by
  simp only [plains] at h
  cases hy:plainV y with
  | none=>simp [hy] at h
  | some t =>
   cases hr:plains ys with
   | none=>simp [hy,hr] at h
   | some l =>
    simp only [hy,hr,Option.bind_some,Option.map_some,Option.some.injEq] at h
    subst h
    simp only [SlotsOK] at hs
    obtain ⟨gs,e1,e2,e3,e4⟩:=plains_ok hr hs.2
    have:∃ v,y = .one (.pv v)∧t = .pv v:=by
     unfold plainV at hy
     split at hy
     ·simp at hy; exact ⟨_,rfl,hy.symm⟩
     ·cases hy
    obtain ⟨v,rfl,rfl⟩:=this
    obtain ⟨h0,_⟩:=hs
    simp only [SlotOK,CelOK] at h0
    obtain ⟨rfl,h1⟩:=h0
    refine ⟨.one (.pv u)::gs,by simp [GA.er,er,e1],by simp [GA.val,hdr,e2],fun x hx=>?_,fun b=>?_⟩
    ·rcases List.mem_cons.1 hx with rfl | hx
     ·exact ⟨fun t ht=>by simp only [GA.ts,List.mem_singleton] at ht; subst ht; exact .pv h1,fun A ts e=>by cases e⟩
     ·exact e3 x hx
    ·have:=e4 b
     simp only [treeCnt,ptrCnt,List.flatMap_cons,cntL_append,GA.ts,GA.pb,cntL,cnt] at this ⊢
     omega
 | [],_::_,_,_,hs=>by simp [SlotsOK] at hs
 | _::_,[],_,_,hs=>by simp [SlotsOK] at hs
theorem io_core {c : Call} {f : FuncId} {fn : Func} {id : Nat} {x0 : GA} {us : List G} {cs : List Cel} {gs : List GA} {r : Res} {u : Value} {ot : List T} {oss : List (List T)} (h : Sim X n g st us a w) (ho : o.op = .call c) (hc : c.callee = .value (.func f)) (hf : P.funcs[f]? = some fn) (hname : (fn.name == "runtime.NumGoroutine") = false)
  (hb:fn.body.isSome=true) (hd:∀ k,o.dst=some k→k < n) (hx0:x0 = .agg us∨∃ t,us=[t]∧x0 = .one t) (hval:c.args.map a.eval=((x0::gs).map GA.val).toArray) (hgok:∀ x∈gs,x.ok X.S w) (hgc:∀ b,treeCnt b gs + ptrCnt b gs=0)
  (hfs:f < VN) (hT:Tells P X.KP f ((x0::gs).map GA.er) r) (hr:r=⟨[.one (.pv u)],ot::oss⟩) (hl:lone (cs.flatMap keyOf)=true) (hG:GoneAt g cs (us.map hdr)) (hp:runP (Tells P X.KP) (backL cs ot (fin o.dst (.one (.pv u)))) st (fun _ st'=>K st')):o.wp P a w (Goal X n K) Q:=by
 subst hr
 have hts:x0.ts=us∧(∀ b,x0.pb b=0)∧∀ A ts,x0≠.ptr A ts:=by
  rcases hx0 with rfl | ⟨t,rfl,rfl⟩
  ·exact ⟨rfl,fun _=>rfl,fun _ _ e=>by cases e⟩
  ·exact ⟨rfl,fun _=>rfl,fun _ _ e=>by cases e⟩
 have htc:∀ b,treeCnt b (x0::gs) + ptrCnt b (x0::gs)=cntL b us:=fun b=>by
  have:=hgc b
  have:=hts.2.1 b
  simp only [treeCnt,ptrCnt,List.flatMap_cons,cntL_append,hts.1] at *
  omega
 have h':Sim X n g st (us++[]) a w:=by rw [List.append_nil]; exact h
 rw [tells_small hfs] at hT
 have hcall:=hT X.S (x0::gs) w rfl (fun b hb=>Nat.lt_of_lt_of_le (X.stay b hb).1 h.frame.size) (fun x hx=>by
   rcases List.mem_cons.1 hx with rfl | hx
   ·exact ⟨fun t ht=>h.held t (by rw [hts.1] at ht; exact ht),fun A ts e=>absurd e (hts.2.2 A ts)⟩
   ·exact hgok x hx) (fun b=>by
   rw [htc]
   have:=h.sole.one b 0
   omega) (fun b hb=>by
   rw [htc] at hb
   exact (h.mine b 0 (by omega)).1) (kept_on h.frame fun b hb=>hb)
 unfold Oper.wp
 rw [run_callF ho hc hf hname hb,Oper.upon_enter,hval]
 refine hcall.mono ?_
 rintro e w1 ⟨rs,os,rfl,er1,er2,hrs,hos,hOut,hc1,hc2,hF,_⟩
 have hrs':rs=[.one (.pv u)]:=by
  cases rs with
  | nil=>simp at er1
  | cons y ys =>
   cases ys with
   | cons=>simp at er1
   | nil =>
    simp at er1
    cases y with
    | one t =>
     simp only [GA.er,AV.one.injEq] at er1
     cases t <;> simp_all [er]
    | _=>simp [GA.er] at er1
 subst hrs'
 cases os with
 | nil=>simp at er2
 | cons o0 os' =>
  simp only [List.map_cons,List.cons.injEq] at er2
  obtain ⟨rfl,_⟩:=er2
  have hhd:o0.map hdr=us.map hdr:=by
   rcases hx0 with rfl | ⟨t,rfl,rfl⟩
   ·exact hOut.1
   ·exact hOut.1
  have hu1:u.oneCell'=true:=by
   have:=(hrs _ (List.mem_cons_self ..)).1 (.pv u) (by simp [GA.ts])
   cases this with
   | pv h=>exact h
  have hA:=h'.after (news:=o0) (fun _=>False) hF.os hF.tape hF.output hF.size (fun b hb hc _=>hF.block b hb (by rw [htc]; exact hc)) (fun k A cs hk=>hk.elim) (fun t ht=>hos o0 (List.mem_cons_self ..) t ht) (fun b=>by
   have a1:=hc1 b
   have a2:=hc2 b
   have a3:=htc b
   have a4:=hgc b
   have a5:treeCnt b (x0::gs)=cntL b us:=by
    simp only [treeCnt,List.flatMap_cons,cntL_append,hts.1] at *
    omega
   have z0:treeCnt b [GA.one (.pv u)]=0:=by simp [treeCnt,GA.ts,cntL,cnt]
   have z1:ptrCnt b [GA.one (.pv u)]=0:=by simp [ptrCnt,GA.pb]
   rw [z0,z1,List.flatten_cons,cntL_append] at a1 a2
   by_cases h0:cntL b o0=0
   ·left; omega
   ·rcases a2 (by omega) with a2 | a2
    ·right; exact ⟨a2,by omega⟩
    ·left
     have:0 < cntL b us:=by rw [← a5]; exact a2
     omega)
  obtain ⟨g2,st2,h2,hp2⟩:=backL_ok (hand:=[]) hA rfl hl (by rw [hhd]; exact hG) hp
  exact fin_ok h2 hd (slot_pv X.S g2 w1 hu1) hp2
theorem do_io {c : Call} {f : FuncId} {fn : Func} {x : Opd} {ys : List Opd} {id : Nat} (h : Sim X n g st [] a w) (ho : o.op = .call c) (hc : c.callee = .value (.func f)) (hf : P.funcs[f]? = some fn) (hname : (fn.name == "runtime.NumGoroutine") = false) (hb : fn.body.isSome = true) (hfs : f < VN)
  (hx:opdsOk c.args.toList (x::ys)=true) (hd:∀ k,o.dst=some k→k < n) (hp:runP (Tells P X.KP) ((COp.io f x ys).prg o.dst id) st (fun _ st'=>K st')):o.wp P a w (Goal X n K) Q:=by
 cases hargs:c.args.toList with
 | nil=>rw [hargs] at hx; simp [opdsOk] at hx
 | cons x' ys' =>
  rw [hargs] at hx
  simp only [opdsOk,Bool.and_eq_true] at hx
  simp only [COp.prg] at hp
  replace hp:=ev_ok h hx.1 hp
  obtain ⟨v,hv,hp⟩:=hp
  replace hp:=evL_ok h hx.2 hp
  obtain ⟨vs,hvs,hp⟩:=hp
  unfold ioP at hp
  cases has:plains vs with
  | none=>simp [has,runP] at hp
  | some as =>
   simp only [has] at hp
   obtain ⟨gs,e1,e2,e3,e4⟩:=plains_ok has hvs
   have hval:∀ x0:GA,x0.val=a.eval x'→c.args.map a.eval=((x0::gs).map GA.val).toArray:=fun x0 e=>by
    apply Array.toList_inj.1
    simp [hargs,e,e2]
   cases v with
   | one cl =>
    simp only at hp
    simp only [SlotOK] at hv
    have hcs:CelsOK X.S g w [cl] [a.eval x']:=⟨rfl,fun i c v h h'=>by
     cases i with
     | zero=>simp at h h'; subst h; subst h'; exact hv
     | succ i=>simp at h⟩
    have hl:lone ([cl].flatMap keyOf)=true:=by cases cl <;> simp [keyOf,lone]
    obtain ⟨g1,st1,us,h1,k1,f1,hp,b1,s1,bb1,G1,_⟩:=takeWs_ok h hcs hl hp
    rw [List.append_nil] at h1
    cases us with
    | nil=>simp at f1
    | cons t us =>
     cases us with
     | cons=>simp at f1
     | nil =>
      simp only [List.map_cons,List.map_nil,List.cons.injEq,and_true] at f1
      simp only [List.map_cons,List.map_nil,runP] at hp
      obtain ⟨r,hT,hp⟩:=hp
      split at hp
      ·rename_i u ot oss
       refine io_core (id:=id) (x0:=.one t) (gs:=gs) h1 ho hc hf hname hb hd (.inr ⟨t,rfl,rfl⟩) (hval _ (by simpa [GA.val] using f1)) (fun y hy=>e3 y hy) e4 hfs (by simpa [GA.er,e1] using hT) rfl hl (by simpa [f1] using G1) hp
      ·exact hp.elim
   | agg cls =>
    simp only [runP] at hp
    simp only [SlotOK] at hv
    obtain ⟨us0,hv,hcs⟩:=hv
    obtain ⟨hl,hp⟩:=hp
    obtain ⟨g1,st1,us,h1,k1,f1,hp,b1,s1,bb1,G1,_⟩:=takeWs_ok h hcs hl hp
    rw [List.append_nil] at h1
    simp only [runP] at hp
    obtain ⟨r,hT,hp⟩:=hp
    split at hp
    ·rename_i u ot oss
     refine io_core (id:=id) (x0:=.agg us) (gs:=gs) h1 ho hc hf hname hb hd (.inl rfl) (hval _ (by simp [GA.val,f1,hv])) (fun y hy=>e3 y hy) e4 hfs (by simpa [GA.er,e1] using hT) rfl hl (by rw [f1]; exact G1) hp
    ·exact hp.elim
   | _=>exact hp.elim
end
end Go.X

namespace Go.X
section
variable {P:Program} {X:Ctx} {n:Nat} {g:Gh} {st:St} {hand:List G} {a:Act} {w:World} {α:Type} {Te:Nat→List AV→Res→Prop} {o:Oper} {K:St→Prop} {Q:Exit→Act→World→Prop}
theorem rep_self {β:Type}:∀ {l:List (Nat×β)} {k:Nat} {v:β},get l k=some v→rep l k v=l
 | [],_,_,h=>by simp [get] at h
 | (j,u)::l,k,v,h=>by
  simp only [get] at h
  simp only [rep]
  cases e:j==k with
  | true=>simp only [e,cond_true,Option.some.injEq] at h ⊢; rw [h]
  | false=>simp only [e,cond_false] at h ⊢; rw [rep_self h]
theorem rep_rep {β:Type}:∀ (l:List (Nat×β)) (k:Nat) (u v:β),rep (rep l k u) k v=rep l k v
 | [],k,u,v=>by simp [rep]
 | (j,x)::l,k,u,v=>by
  simp only [rep]
  cases e:j==k with
  | true=>simp only [cond_true,rep,e]
  | false=>simp only [cond_false,rep,e,rep_rep l k u v]
theorem storeCells_append (b:Addr):∀ (xs ys:List Value) (i:Nat),storeCells b (xs++ys) i=(do storeCells b xs i; storeCells b ys (i + xs.length))
 | [],ys,i=>by simp [storeCells]
 | x::xs,ys,i=>by
  simp only [List.cons_append,storeCells,storeCells_append b xs ys (i + 1),bind_assoc,List.length_cons]
  congr 1
  funext _
  congr 1
  funext _
  congr 1
  omega
theorem storeCells_shift (q o:Nat):∀ (ys:List Value) (i j:Nat),storeCells ⟨q,o,none⟩ ys (i + j)=storeCells ⟨q,o + i,none⟩ ys j
 | [],_,_=>rfl
 | y::ys,i,j=>by
  simp only [storeCells]
  rw [show i + j + 1=i + (j + 1) by omega,storeCells_shift q o ys i (j + 1)]
  congr 1
  rw [add_none,add_none,Nat.add_assoc]
theorem Sim.hold0 {zs:List G} (h:Sim X n g st [] a w) (hz:∀ t∈zs,(∀ b,cnt b t=0)∧∀ (S:Nat→Prop) (w:World),Rp S w t):Sim X n g st (zs++[]) a w :=
 h.world (us:=[]) (us':=zs) ⟨rfl,rfl,rfl,Nat.le_refl _,fun _ _ _=>rfl⟩ (fun t ht=>(hz t ht).2 _ _) (fun b=>.inl (by
  have:∀ l:List G,(∀ t∈l,cnt b t=0)→cntL b l=0:=fun l=>by
   induction l with
   | nil=>intro _; rfl
   | cons x l ih=>intro hl; simp only [cntL,hl x (List.mem_cons_self ..),ih fun t ht=>hl t (List.mem_cons_of_mem _ ht)]
  rw [this zs fun t ht=>(hz t ht).1 b]
  exact Nat.zero_le _))
theorem Sim.clearRows {r c z q hn hc:Nat} {zs:List G} (hz:∀ t∈zs,(∀ b,cnt b t=0)∧∀ (S:Nat→Prop) (w:World),Rp S w t) (hzl:zs.length=z) :
  ∀ (m i:Nat) {g:Gh} {st:St} {w:World} {gs:List G} {rs:List (List G)},Sim X n g st [] a w→g.gr r=some gs→gs[c]?=some (.sl true z (.slice (some ⟨q,0,none⟩) hn hc) rs)→i + m≤rs.length→(∀ row∈rs,row.length=z)→
   (∀ k v,get st.s k=some v→¬ SlotEx (Below' r c []) v∧∀ vs,v = .tup vs→∀ r' c' p',¬ Below' r c [] r' c' p')→(∀ b cs,get st.b b=some cs→∀ x∈cs,¬ CelEx (Below' r c []) x)→
   ∃ w' g',(storeCells ⟨q,i * z,none⟩ (List.replicate m (zs.map hdr)).flatten 0).run P w = .ok () w'∧
    Sim X n g' { st with r:=rep st.r r ((gs.set c (.sl true z (.slice (some ⟨q,0,none⟩) hn hc) (rs.take i++List.replicate m zs++rs.drop (i + m)))).map er) } [] a w'
 | 0,i,g,st,w,gs,rs,h,hg,ht,hl,hrz,hsl,hbx=>by
  refine ⟨w,g,rfl,?_⟩
  have e1:rs.take i++List.replicate 0 zs++rs.drop (i + 0)=rs:=by simp
  have e2:gs.set c (.sl true z (.slice (some ⟨q,0,none⟩) hn hc) rs)=gs:=by
   obtain ⟨hlt,e⟩:=List.getElem?_eq_some_iff.1 ht
   rw [← e,List.set_getElem_self]
  have e3:rep st.r r (gs.map er)=st.r:=by
   cases hr:get st.r r with
   | none=>rw [h.noroot r hr] at hg; cases hg
   | some ts =>
    obtain ⟨gs',q1,q2⟩:=h.roots r ts hr
    rw [hg,Option.some.injEq] at q1
    subst q1
    rw [q2]
    exact rep_self hr
  rw [e1,e2,e3]
  exact h
 | m + 1,i,g,st,w,gs,rs,h,hg,ht,hl,hrz,hsl,hbx=>by
  have hi:i < rs.length:=by omega
  have hrow:rs[i]?=some rs[i]:=List.getElem?_eq_getElem hi
  have hrl:=hrz _ (List.getElem_mem hi)
  have hsub:∀ r' c' p',BelowR r c [] i r' c' p'→Below' r c [] r' c' p':=fun r' c' p' ⟨e1,e2,j,s,e3⟩=>⟨e1,e2,(i,j)::s,e3,by simp⟩
  have hce:∀ x:Cel,CelEx (BelowR r c [] i) x→CelEx (Below' r c []) x:=fun x hx=>by
   cases x with
   | rf=>exact hsub _ _ _ hx
   | _=>exact hx
  obtain ⟨w1,hr1,h1⟩:=(h.hold0 hz).storeAp (P:=P) (p:=[]) (i:=i) (j:=0) hg ht rfl hrow (by omega) (keeps_row hg ht rfl) (fun k v hk=>⟨fun he=>(hsl k v hk).1 (by
    cases v with
    | one x=>exact hce x he
    | agg cs=>obtain ⟨x,hx,he⟩:=he; exact ⟨x,hx,hce x he⟩
    | ap=>exact hsub _ _ _ he
    | tup vs=>obtain ⟨r',c',p',he⟩:=he; exact ⟨r',c',p',hsub _ _ _ he⟩
    | _=>exact he),fun vs e r' c' p' hb=>(hsl k v hk).2 vs e r' c' p' (hsub _ _ _ hb)⟩) (fun b cs hb x hx he=>hbx b cs hb x hx (hce x he))
  have esc:setCells rs[i] 0 zs=zs:=by
   simp only [setCells,List.take_zero,List.nil_append,Nat.zero_add]
   rw [List.drop_of_length_le (by omega),List.append_nil]
  simp only [esc,setP,Nat.add_zero] at hr1 h1
  have hc':=(List.getElem?_eq_some_iff.1 ht).1
  obtain ⟨w2,g2,hr2,h2⟩:=Sim.clearRows hz hzl m (i + 1) h1 (setR_same _ _ _) (by rw [List.getElem?_set_self hc']) (by simp; omega) (fun row hm=>by
    rcases List.mem_or_eq_of_mem_set hm with hm | hm
    ·exact hrz row hm
    ·rw [hm]; exact hzl) hsl hbx
  refine ⟨w2,g2,?_,?_⟩
  ·rw [List.replicate_succ,List.flatten_cons,storeCells_append,Sem.run_bind,hr1,Result.andThen_ok]
   have:=storeCells_shift q (i * z) (List.replicate m (zs.map hdr)).flatten z 0
   simp only [Nat.add_zero] at this
   rw [List.length_map,hzl,Nat.zero_add,this,show i * z + z=(i + 1) * z by rw [Nat.add_mul]; omega]
   exact hr2
  ·simp only [rep_rep,List.set_set] at h2
   have e:rs.take i++List.replicate (m + 1) zs++rs.drop (i + (m + 1))=(rs.set i zs).take (i + 1)++List.replicate m zs++(rs.set i zs).drop (i + 1 + m):=by
    rw [List.take_succ_eq_append_getElem (by simp; omega),List.take_set_of_le (by omega),List.getElem_set_self,List.drop_set_of_lt (by omega),List.replicate_succ,show i + (m + 1)=i + 1 + m by omega]
    simp
   rw [e]
   exact h2
theorem zero_list (z:Array Value) (hz:0 < z.size) (k:Nat):(Builtin.zeroCells z k).toList=(List.replicate k z.toList).flatten:=made_list z hz k
theorem do_clear {c:Call} {t e:TypeId} {ti:TypeInfo} {zv:Value} {z:Nat} {zc:List T} {x:Operand} {x':Opd} (h:Sim X n g st [] a w) (ho:o.op = .call c) (hcl:c.callee = .builtin .clear) (ha:c.args = #[x]) (hat:c.argTypes = #[t]) (ht:P.underlying t=some (.slice e)) (hi:P.info? e=some ti) (hz:ti.zero=some zv)
  (hsz:zv.cells.size=z) (hz0:0 < z) (hzc:constTs zv.cells.toList zc=true) (hx:opdOk x x'=true) (hd:∀ k,o.dst=some k→k < n) (hdn:o.dst=none) (id:Nat)
  (hp:runP Te ((COp.clear z zc x').prg o.dst id) st (fun _ st'=>K st')):o.wp P a w (Goal X n K) Q:=by
 subst hsz
 replace hp:=ev_ok h hx hp
 obtain ⟨v,hv,hp⟩:=hp
 split at hp
 ·rename_i r c' p z' off len
  simp only [runP] at hp
  cases hr:get st.r r with
  | none=>simp [hr] at hp
  | some root =>
   simp only [hr,node] at hp
   split at hp
   ·rename_i z2 hh rows hn
    simp only [runP,beq_iff_eq,Bool.and_eq_true,decide_eq_true_eq,hr] at hp
    obtain ⟨hzz,⟨hz',hp0,hl⟩,hlo,hp⟩:=hp
    subst hzz
    subst hz'
    subst hp0
    obtain ⟨gs,t0,hvv,rs,hg,rfl,ht0,hm0',rfl,hna,hR,hRm⟩:=h.node hr hn
    obtain rfl:t0 = .sl true zv.cells.size hvv rs:=by simpa [atP] using hm0'
    simp only [SlotOK,CelOK] at hv
    obtain ⟨_,_,hf⟩:=hv
    obtain ⟨hA,hn',hcc,a',e1,e2,e3,e4,e5⟩:=hf _ hna rfl
    simp only [hdr] at e1
    subst e1
    obtain ⟨zs,z1,z2,z3⟩:=constTs_ok hzc
    have hzl:zs.length=zv.cells.size:=by rw [← List.length_map (f:=hdr),z2]; simp
    have run:∀ {w':World},(Builtin.clear_ c.argTypes o.type #[a.eval x]).run P w = .ok (.tuple #[]) w'→(execOp a.eval o).run P w = .ok (.value (.tuple #[])) w':=fun hr=>by
     rw [hat] at hr
     simp [execOp,ho,resolve,hcl,ha,hat,invoke,builtin,hr]
    have eqr:∀ rs':List (List G),(gs.set c' (.sl true zv.cells.size (.slice hA hn' hcc) rs')).map er=putAt (gs.map er) c' [] (.sl true zv.cells.size () (rs'.map (·.map er))):=fun rs'=>by
     rw [map_set_er]
     simp [putAt,List.getElem?_map,ht0,er,erLL_eq,setP]
    have erw:(rs.map (·.map er)).take off++List.replicate len zc++(rs.map (·.map er)).drop (off + len)=(rs.take off++List.replicate len zs++rs.drop (off + len)).map (·.map er):=by
     simp [List.map_append,List.map_take,List.map_drop,z1]
    rw [erw] at hp
    have hl':off + len≤rs.length:=by simpa using hl
    cases len with
    | zero =>
     refine step_value (w':=w) (run ?_) ?_
     ·rw [hat]
      have:∀ u:Value,u = .slice a' 0 (hcc - off)→(Builtin.clear_ #[t] o.type #[u]).run P w = .ok (.tuple #[]) w:=fun u hu=>by
       subst hu
       cases a' <;> simp [Builtin.clear_,run_underlying ht]
      exact this _ e2
     ·rw [hdn]
      have e6:rs.take off++List.replicate 0 zs++rs.drop (off + 0)=rs:=by simp
      have e7:putAt (gs.map er) c' [] (.sl true zv.cells.size () (rs.map (·.map er)))=gs.map er:=by
       rw [← eqr]
       obtain ⟨hlt,e⟩:=List.getElem?_eq_some_iff.1 ht0
       rw [← e,List.set_getElem_self]
      rw [e6,e7] at hp
      have e8:rep st.r r (gs.map er)=st.r:=rep_self hr
      rw [e8] at hp
      exact ⟨g,st,hp,h⟩
    | succ m =>
     obtain ⟨q,q1,q2⟩:=e5 (by omega)
     subst q1
     obtain ⟨hsl,hbx⟩:=noLower_ok hlo
     have hrz:∀ row∈rs,row.length=zv.cells.size:=by
      cases hRm with
      | own _ _ _ _ _ h5 _ _=>exact h5
     obtain ⟨w',g',hr',hs'⟩:=Sim.clearRows (P:=P) z3 hzl (m + 1) off h hg ht0 hl' hrz hsl hbx
     refine step_value (w':=w') (run ?_) ?_
     ·rw [hat,e2,q2]
      rw [z2,← zero_list _ hz0] at hr'
      simp [Builtin.clear_,run_underlying ht,zeroValue,typeInfo,hi,hz,hr']
     ·rw [hdn]
      rw [eqr] at hs'
      exact ⟨g',_,hp,hs'⟩
   ·exact hp.elim
 ·exact hp.elim
end
end Go.X

namespace Go.X
def intO:Operand→Operand→Bool
 | .tmp i,.tmp j=>i==j
 | .const (.int k a),.const (.int k' b)=>k==k'&&a==b
 | _,_=>false
def optB:Option Operand→Option Opd→Bool
 | none,none=>true
 | some x,some y=>opdOk x y
 | _,_=>false
def zeroC (P:Program) (e:TypeId) (z:List Cel):Bool :=
 match P.info? e with
 | some ti=>(match ti.zero with
  | some zv=>constL zv.cells.toList z
  | none=>false)
 | none=>false
def zeroT (P:Program) (e:TypeId) (z bytes:Nat) (zc:List T):Bool :=
 match P.info? e with
 | some ti=>(match ti.zero with
  | some zv=>ti.size==z&&ti.bytes==bytes&&zv.cells.size==z&&decide (0 < z)&&constTs zv.cells.toList zc
  | none=>false)
 | none=>false
def elemT (P:Program) (e:TypeId) (z bytes:Nat):Bool :=
 match P.info? e with
 | some ti=>(match ti.zero with
  | some zv=>ti.size==z&&ti.bytes==bytes&&zv.cells.size==z&&decide (0 < z)
  | none=>false)
 | none=>false
def sizeT (P:Program) (e:TypeId) (z:Nat):Bool :=
 match P.info? e with
 | some ti=>ti.size==z&&decide (0 < z)
 | none=>false
def isStr (P:Program) (t:TypeId):Bool :=
 match P.underlying t with
 | some .string=>true
 | _=>false
def isBool (P:Program) (t:TypeId):Bool :=
 match P.underlying t with
 | some .bool=>true
 | _=>false
def isInt (P:Program) (t:TypeId) (k:IntKind):Bool :=
 match P.underlying t with
 | some (.int k')=>k'==k
 | _=>false
def slOf (P:Program) (t:TypeId):Option TypeId :=
 match P.underlying t with
 | some (.slice e)=>some e
 | _=>none
def isSlBytes (P:Program) (t:TypeId):Bool :=
 match slOf P t with
 | some e=>isInt P e .u8&&(P.info? e).isSome
 | none=>false
def buildOk (P:Program) (t:TypeId) (parts:List (Nat×Operand)) (z:List Cel) (ys:List (Nat×Nat×Opd)):Bool :=
 match P.info? t,P.underlying t with
 | some it,some (.array _ e) =>
  (match it.zero,P.info? e with
  | some zv,some ie=>constL zv.cells.toList z&&psOk parts ys (fun i=>some (i * ie.size,ie.size))
  | _,_=>false)
 | some it,some (.struct fields) =>
  (match it.zero,fields.toList.mapM (fun f=>(P.info? f.type).map fun i=>(f.offset,i.size)) with
  | some zv,some places=>constL zv.cells.toList z&&psOk parts ys (places.toArray[·]?)
  | _,_=>false)
 | _,_=>false
def bodyOk (P:Program) (f:Nat):Bool:=(match P.funcs[f]? with
 | some fn => !(fn.name == "runtime.NumGoroutine") && fn.body.isSome
 | none=>false)&&decide (f < VN)
theorem bodyOk_ok {P : Program} {f : Nat} (h : bodyOk P f = true) : ∃ fn, P.funcs[f]? = some fn ∧ (fn.name == "runtime.NumGoroutine") = false ∧ fn.body.isSome = true ∧ f < VN := by
 unfold bodyOk at h
 simp only [Bool.and_eq_true,decide_eq_true_eq] at h
 obtain ⟨h,h'⟩:=h
 split at h
 ·rename_i fn hfn
  simp only [Bool.and_eq_true,Bool.not_eq_true'] at h
  exact ⟨fn,hfn,h.1,h.2,h'⟩
 ·cases h
def callOk (P:Program) (c:Call) (d:Option Nat) (id:Nat):COp→Bool
 | .len x=>(match c.callee,c.args.toList,c.argTypes.toList with
  | .builtin .len,[y],[t]=>(slOf P t).isSome&&opdOk y x
  | _,_,_=>false)
 | .slen x=>(match c.callee,c.args.toList,c.argTypes.toList with
  | .builtin .len,[y],[t]=>isStr P t&&opdOk y x
  | _,_,_=>false)
 | .min x y=>(match c.callee,c.args.toList with
  | .builtin .min,[x',y']=>opdOk x' x&&opdOk y' y
  | _,_=>false)
 | .max x y=>(match c.callee,c.args.toList with
  | .builtin .max,[x',y']=>opdOk x' x&&opdOk y' y
  | _,_=>false)
 | .app z bytes x y=>d==some id&&(match c.callee,c.args.toList,c.argTypes.toList with
  | .builtin .append,[x',y'],[t,t2]=>opdOk x' x&&opdOk y' y&&(match slOf P t with
   | some e=>elemT P e z bytes
   | none=>false)&&(slOf P t2).isSome
  | _,_,_=>false)
 | .apps z bytes x y=>d==some id&&(match c.callee,c.args.toList,c.argTypes.toList with
  | .builtin .append,[x',y'],[t,t2]=>opdOk x' x&&opdOk y' y&&(match slOf P t with
   | some e=>elemT P e z bytes
   | none=>false)&&isStr P t2
  | _,_,_=>false)
 | .call f _ ys=>(match c.callee with
  | .value (.func f')=>f'==f&&bodyOk P f&&opdsOk c.args.toList ys
  | _=>false)
 | .io f x ys=>(match c.callee with
  | .value (.func f')=>f'==f&&bodyOk P f&&opdsOk c.args.toList (x::ys)
  | _=>false)
 | .vcall f _ _ ys y=>(match c.callee with
  | .value (.func f')=>f'==f&&bodyOk P f&&(match c.args.toList.getLast? with
   | some x=>opdsOk c.args.toList.dropLast ys&&opdOk x y
   | none=>false)
  | _=>false)
 | .clear z zc x=>d==none&&(match c.callee,c.args.toList,c.argTypes.toList with
  | .builtin .clear,[y],[t]=>opdOk y x&&(match slOf P t with
   | some e=>(match P.info? e with
    | some ti=>(match ti.zero with
     | some zv=>zv.cells.size==z&&decide (0 < z)&&constTs zv.cells.toList zc
     | none=>false)
    | none=>false)
   | none=>false)
  | _,_,_=>false)
 | .dcall k _ ys y=>(match c.callee with
  | .value x=>opdOk x y&&bodyOk P k&&opdsOk c.args.toList ys
  | _=>false)
 | _=>false
def opOk (P:Program) (n:Nat) (o:Oper) (id:Nat) (c:COp):Bool :=
 (match o.dst with
  | some d=>decide (d < n)
  | none=>true) &&
 (match o.op,c with
 | .move x,.mv y=>opdOk x y
 | .assign x,.mv y=>opdOk x y
 | .pick x y z,.pick x' y' z'=>opdOk x x'&&opdOk y y'&&opdOk z z'
 | .alloc e,.alloc z=>zeroC P e z
 | .box _ x,.box y=>opdOk x y
 | .build t parts,.build z ys=>buildOk P t parts.toList z ys
 | .buildSlice t m parts,.bslice z ys=>o.dst==some id&&(match slOf P t with
  | some e=>zeroT' P e z
  | none=>false)&&parts.toList.map (·.1)==List.range m&&opdsOk (parts.toList.map (·.2)) ys
 | .load t x,.load m y=>aggT P t m&&opdOk x y
 | .store t x y,.store m x' y'=>o.dst==none&&sizeT P t m&&opdOk x x'&&opdOk y y'
 | .nilCheck x,.nilc y=>opdOk x y
 | .binOp op t x y _,.bin op' x' y'=>op==op'&&opdOk x x'&&opdOk y y'
 | .binOp op t x y _,.beq neg x' y'=>op==(bif neg then .neq else .eql)&&isBool P t&&opdOk x x'&&opdOk y y'
 | .binOp op t x y _,.eqs neg ks x' y'=>op==(bif neg then .neq else .eql)&&(match P.underlying t with | some (.struct _)=>true | _=>false) && !P.stoodInHeld t && !P.eqGuardType P.depth t&&flatF P 0 (P.fieldsOf t).toList ks&&opdOk x x'&&opdOk y y'
 | .unOp .not _ x,.not y=>opdOk x y
 | .convert src dst x,.conv (.int k) y=>(P.underlying src).isSome&&isInt P dst k&&opdOk x y
 | .convert src dst x,.conv .b2s y=>isSlBytes P src&&isStr P dst&&opdOk x y
 | .convert src dst x,.conv .s2b y=>o.dst==some id&&isStr P src&&isSlBytes P dst&&opdOk x y
 | .makeSlice t x y,.mks z bytes zc x'=>o.dst==some id&&intO x y&&(match slOf P t with
  | some e=>zeroT P e z bytes zc
  | none=>false)&&opdOk x x'
 | .slice t x lo hi none,.slice z x' lo' hi'=>(match slOf P t with
  | some e=>(match P.info? e with | some ti=>ti.size==z | none=>false)
  | none=>false)&&opdOk x x'&&optB lo lo'&&optB hi hi'
 | .slice t x lo hi none,.sslice x' lo' hi'=>isStr P t&&opdOk x x'&&optB lo lo'&&optB hi hi'
 | .fieldAddr s x i,.faddr x' off=>(match P.underlying s with
  | some (.struct fs)=>(match fs.toList[i]? with
   | some f=>f.offset==off&&(match P.info? f.type with | some ti=>!(ti.size==0) | none=>false)
   | none=>false)
  | _=>false)&&opdOk x x'
 | .indexAddr t x y,.iaddr z x' y'=>(match slOf P t with
  | some e=>sizeT P e z
  | none=>false)&&opdOk x x'&&opdOk y y'
 | .indexAddr t x y,.aaddr m z x' y'=>(match P.underlying t with
  | some (.array len e)=>len==m&&(match P.info? e with | some ti=>ti.size==z | none=>false)
  | _=>false)&&opdOk x x'&&opdOk y y'
 | .index t x y,.sidx x' y'=>isStr P t&&opdOk x x'&&opdOk y y'
 | .extract x i,.ext x' i'=>i==i'&&opdOk x x'
 | .field t x i,.fld m x' off=>(match P.underlying t with
  | some (.struct fs)=>(match fs.toList[i]? with
   | some f=>f.offset==off&&aggT P f.type m
   | none=>false)
  | _=>false)&&opdOk x x'
 | .makeFunc (.func k) first caps,.clos k' x=>k==k'&&(match first.toList,caps.toList with
  | [],[y]=>opdOk y x
  | _,_=>false)
 | .call c',c=>callOk P c' o.dst id c
 | _,_=>false)
where zeroT' (P:Program) (e:TypeId) (z:Nat):Bool :=
 match P.info? e with
 | some ti=>(match ti.zero with
  | some _=>ti.size==z&&decide (0 < z)
  | none=>false)
 | none=>false
section
variable {P:Program} {X:Ctx} {n:Nat} {g:Gh} {st:St} {a:Act} {w:World} {o:Oper} {K:St→Prop} {Q:Exit→Act→World→Prop}
theorem arr1 {α:Type} {xs:Array α} {x:α} (h:xs.toList=[x]):xs = #[x]:=by cases xs; simp at h; simp [h]
theorem arr2 {α:Type} {xs:Array α} {x y:α} (h:xs.toList=[x,y]):xs = #[x,y]:=by cases xs; simp at h; simp [h]
theorem slOf_ok {t e:TypeId} (h:slOf P t=some e):P.underlying t=some (.slice e):=by
 unfold slOf at h
 split at h
 ·simp at h; subst h; assumption
 ·cases h
theorem isStr_ok {t:TypeId} (h:isStr P t=true):P.underlying t=some .string:=by
 unfold isStr at h
 split at h
 ·assumption
 ·cases h
theorem isBool_ok {t:TypeId} (h:isBool P t=true):P.underlying t=some .bool:=by
 unfold isBool at h
 split at h
 ·assumption
 ·cases h
theorem isInt_ok {t:TypeId} {k:IntKind} (h:isInt P t k=true):P.underlying t=some (.int k):=by
 unfold isInt at h
 split at h
 ·simp at h; subst h; assumption
 ·cases h
theorem elemT_ok {e:TypeId} {z bytes:Nat} (h:elemT P e z bytes=true):∃ ti zv,P.info? e=some ti∧ti.zero=some zv∧ti.size=z∧ti.bytes=bytes∧zv.cells.size=z∧0 < z:=by
 unfold elemT at h
 split at h
 ·rename_i ti hi
  split at h
  ·rename_i zv hz
   simp only [Bool.and_eq_true,beq_iff_eq,decide_eq_true_eq] at h
   exact ⟨ti,zv,hi,hz,h.1.1.1,h.1.1.2,h.1.2,h.2⟩
  ·cases h
 ·cases h
theorem call_ok {c:COp} {c':Call} {id:Nat} (h:Sim X n g st [] a w) (ho:o.op = .call c') (hd:∀ k,o.dst=some k→k < n) (hk:callOk P c' o.dst id c=true) (hp:runP (Tells P X.KP) (c.prg o.dst id) st (fun _ st'=>K st')):o.wp P a w (Goal X n K) Q:=by
 cases c <;> simp only [callOk] at hk <;> try (cases hk; done)
 case len x =>
  split at hk
  ·rename_i y t e1 e2 e3
   simp only [Bool.and_eq_true,Option.isSome_iff_exists] at hk
   obtain ⟨⟨e,he⟩,hx⟩:=hk
   exact do_len h ho e1 (arr1 e2) (arr1 e3) (slOf_ok he) hx hd id hp
  ·cases hk
 case slen x =>
  split at hk
  ·rename_i y t e1 e2 e3
   simp only [Bool.and_eq_true] at hk
   exact do_slen h ho e1 (arr1 e2) (arr1 e3) (isStr_ok hk.1) hk.2 hd id hp
  ·cases hk
 case min x y =>
  split at hk
  ·rename_i x' y' e1 e2
   simp only [Bool.and_eq_true] at hk
   exact do_min h ho e1 (arr2 e2) hk.1 hk.2 hd id hp
  ·cases hk
 case max x y =>
  split at hk
  ·rename_i x' y' e1 e2
   simp only [Bool.and_eq_true] at hk
   exact do_max h ho e1 (arr2 e2) hk.1 hk.2 hd id hp
  ·cases hk
 case app z bytes x y =>
  simp only [Bool.and_eq_true,beq_iff_eq] at hk
  obtain ⟨hd',hk⟩:=hk
  split at hk
  ·rename_i x' y' t t2 e1 e2 e3
   simp only [Bool.and_eq_true,Option.isSome_iff_exists] at hk
   obtain ⟨⟨⟨hx,hy⟩,hz⟩,⟨e2',he2⟩⟩:=hk
   split at hz
   ·rename_i e he
    obtain ⟨ti,zv,q1,q2,q3,q4,q5,q6⟩:=elemT_ok hz
    exact do_app h ho e1 (arr2 e2) (arr2 e3) (slOf_ok he) q1 q2 q3 q4 q5 q6 (slOf_ok he2) hx hy hd' (hd _ hd') (by rw [hd'] at hp; exact hp)
   ·cases hz
  ·cases hk
 case apps z bytes x y =>
  simp only [Bool.and_eq_true,beq_iff_eq] at hk
  obtain ⟨hd',hk⟩:=hk
  split at hk
  ·rename_i x' y' t t2 e1 e2 e3
   simp only [Bool.and_eq_true] at hk
   obtain ⟨⟨⟨hx,hy⟩,hz⟩,he2⟩:=hk
   split at hz
   ·rename_i e he
    obtain ⟨ti,zv,q1,q2,q3,q4,q5,q6⟩:=elemT_ok hz
    exact do_apps h ho e1 (arr2 e2) (arr2 e3) (slOf_ok he) q1 q2 q3 q4 q5 q6 (isStr_ok he2) hx hy hd' (hd _ hd') (by rw [hd'] at hp; exact hp)
   ·cases hz
  ·cases hk
 case call f ms ys =>
  split at hk
  ·rename_i f' e1
   simp only [Bool.and_eq_true,beq_iff_eq] at hk
   obtain ⟨⟨rfl,hf⟩,hx⟩:=hk
   obtain ⟨fn,q1,q2,q3,q4⟩:=bodyOk_ok hf
   exact do_call h ho e1 q1 q2 q3 q4 hx hd hp
  ·cases hk
 case io f x ys =>
  split at hk
  ·rename_i f' e1
   simp only [Bool.and_eq_true,beq_iff_eq] at hk
   obtain ⟨⟨rfl,hf⟩,hx⟩:=hk
   obtain ⟨fn,q1,q2,q3,q4⟩:=bodyOk_ok hf
   exact do_io (id:=id) h ho e1 q1 q2 q3 q4 hx hd hp
  ·cases hk
 case vcall f k ms ys y =>
  split at hk
  ·rename_i f' e1
   simp only [Bool.and_eq_true,beq_iff_eq] at hk
   obtain ⟨⟨rfl,hf⟩,hx⟩:=hk
   obtain ⟨fn,q1,q2,q3,q4⟩:=bodyOk_ok hf
   split at hx
   ·rename_i x e2
    simp only [Bool.and_eq_true] at hx
    have e3:c'.args.toList=c'.args.toList.dropLast++[x]:=by
     have hne:c'.args.toList≠[]:=fun e=>by rw [e] at e2; cases e2
     rw [List.getLast?_eq_some_getLast hne,Option.some.injEq] at e2
     rw [← e2,List.dropLast_concat_getLast]
    exact do_vcall h ho e1 q1 q2 q3 q4 e3 hx.1 hx.2 hd hp
   ·cases hx
  ·cases hk
 case clear z zc x =>
  simp only [Bool.and_eq_true,beq_iff_eq] at hk
  obtain ⟨hd',hk⟩:=hk
  split at hk
  ·rename_i y t e1 e2 e3
   simp only [Bool.and_eq_true] at hk
   obtain ⟨hx,hk⟩:=hk
   split at hk
   ·rename_i e he
    split at hk
    ·rename_i ti hi
     split at hk
     ·rename_i zv hz
      simp only [Bool.and_eq_true,beq_iff_eq,decide_eq_true_eq] at hk
      exact do_clear h ho e1 (arr1 e2) (arr1 e3) (slOf_ok he) hi hz hk.1.1 hk.1.2 hk.2 hx hd hd' id hp
     ·cases hk
    ·cases hk
   ·cases hk
  ·cases hk
 case dcall k ms ys y =>
  split at hk
  ·rename_i x e1
   simp only [Bool.and_eq_true] at hk
   obtain ⟨⟨hx,hf⟩,hxs⟩:=hk
   obtain ⟨fn,q1,q2,q3,q4⟩:=bodyOk_ok hf
   exact do_dcall h ho e1 q1 q2 q3 q4 hxs hx hd hp
  ·cases hk
theorem sizeT_ok {e:TypeId} {z:Nat} (h:sizeT P e z=true):∃ ti,P.info? e=some ti∧ti.size=z∧0 < z:=by
 unfold sizeT at h
 split at h
 ·rename_i ti hi
  simp only [Bool.and_eq_true,beq_iff_eq,decide_eq_true_eq] at h
  exact ⟨ti,hi,h.1,h.2⟩
 ·cases h
theorem optB_ok {x:Option Operand} {y:Option Opd} (h:optB x y=true):optOk x y:=by
 cases x <;> cases y <;> simp_all [optB,optOk]
theorem isSlBytes_ok {t:TypeId} (h:isSlBytes P t=true):∃ e ti,P.underlying t=some (.slice e)∧P.underlying e=some (.int .u8)∧P.info? e=some ti:=by
 unfold isSlBytes at h
 split at h
 ·rename_i e he
  simp only [Bool.and_eq_true,Option.isSome_iff_exists] at h
  obtain ⟨h1,ti,h2⟩:=h
  exact ⟨e,ti,slOf_ok he,isInt_ok h1,h2⟩
 ·cases h
theorem intO_ok {x y:Operand} (h:intO x y=true):x=y:=by
 unfold intO at h
 split at h
 ·simp at h; rw [h]
 ·simp at h; rw [h.1,h.2]
 ·cases h
theorem op_ok {c:COp} {id:Nat} (h:Sim X n g st [] a w) (hk:opOk P n o id c=true) (hp:runP (Tells P X.KP) (c.prg o.dst id) st (fun _ st'=>K st')):o.wp P a w (Goal X n K) Q:=by
 unfold opOk at hk
 simp only [Bool.and_eq_true] at hk
 obtain ⟨hd0,hk⟩:=hk
 have hd:∀ k,o.dst=some k→k < n:=fun k hk=>by simpa [hk] using hd0
 clear hd0
 split at hk
 ·rename_i x y ho; exact do_mv h (.inl ho) hk hd id hp
 ·rename_i x y ho; exact do_mv h (.inr ho) hk hd id hp
 ·rename_i ho; simp only [Bool.and_eq_true] at hk; exact do_pick h ho hk.1.1 hk.1.2 hk.2 hd id hp
 ·rename_i e z ho
  unfold zeroC at hk
  split at hk
  ·rename_i ti hi
   split at hk
   ·rename_i zv hz; exact do_alloc h ho hi hz hk hd hp
   ·cases hk
  ·cases hk
 ·rename_i ho; exact do_box h ho hk hd hp
 ·rename_i t parts z ys ho
  unfold buildOk at hk
  split at hk
  ·rename_i it _ e hi hu
   split at hk
   ·rename_i zv ie hz hie
    simp only [Bool.and_eq_true] at hk
    exact do_build h ho hk.1 (fun xs=>by simp only [Program.built,hi,hu,hz,hie]) hk.2 hd id hp
   ·cases hk
  ·rename_i it fields hi hu
   split at hk
   ·rename_i zv places hz hpl
    simp only [Bool.and_eq_true] at hk
    exact do_build h ho hk.1 (fun xs=>by simp only [Program.built,hi,hu,hz,hpl]) hk.2 hd id hp
   ·cases hk
  ·cases hk
 ·rename_i t m parts z ys ho
  simp only [Bool.and_eq_true,beq_iff_eq] at hk
  obtain ⟨⟨⟨hd',hz⟩,hm⟩,hx⟩:=hk
  split at hz
  ·rename_i e he
   unfold opOk.zeroT' at hz
   split at hz
   ·rename_i ti hi
    split at hz
    ·rename_i zv hzv
     simp only [Bool.and_eq_true,beq_iff_eq,decide_eq_true_eq] at hz
     exact do_bslice h ho (slOf_ok he) hi hzv hz.1 hz.2 hm hx hd' (hd _ hd') (by rw [hd'] at hp; exact hp)
    ·cases hz
   ·cases hz
  ·cases hz
 ·rename_i ho; simp only [Bool.and_eq_true] at hk; exact do_load h ho hk.1 hk.2 hd id hp
 ·rename_i ho
  simp only [Bool.and_eq_true,beq_iff_eq] at hk
  obtain ⟨⟨⟨h1,h2⟩,hx⟩,hy⟩:=hk
  obtain ⟨ti,q1,q2,q3⟩:=sizeT_ok h2
  exact do_store h ho q1 q2 q3 hx hy h1 id hp
 ·rename_i ho; exact do_nilc h ho hk hd id hp
 ·rename_i ho
  simp only [Bool.and_eq_true,beq_iff_eq] at hk
  obtain ⟨⟨rfl,hx⟩,hy⟩:=hk
  exact do_bin h ho hx hy hd id hp
 ·rename_i ho
  simp only [Bool.and_eq_true,beq_iff_eq] at hk
  obtain ⟨⟨⟨h1,h2⟩,hx⟩,hy⟩:=hk
  exact do_beq h ho h1 (isBool_ok h2) hx hy hd id hp
 ·rename_i op t x y _ neg ks x' y' ho
  simp only [Bool.and_eq_true,beq_iff_eq,Bool.not_eq_true'] at hk
  obtain ⟨⟨⟨⟨⟨⟨h1,h2⟩,h3⟩,h4⟩,h5⟩,hx⟩,hy⟩:=hk
  have h2':P.underlying t=some (.struct (P.fieldsOf t)):=by
   split at h2
   ·rename_i fs e; rw [e]; simp [Program.fieldsOf,e]
   ·cases h2
  exact do_eqs h ho h1 h2' h3 h4 h5 hx hy hd id hp
 ·rename_i ho; exact do_not h ho hk hd id hp
 ·rename_i ho
  simp only [Bool.and_eq_true,Option.isSome_iff_exists] at hk
  obtain ⟨⟨⟨d0,h1⟩,h2⟩,hx⟩:=hk
  exact do_convInt h ho h1 (isInt_ok h2) hx hd id hp
 ·rename_i ho
  simp only [Bool.and_eq_true] at hk
  obtain ⟨e,ti,q1,q2,q3⟩:=isSlBytes_ok hk.1.1
  exact do_b2s h ho q1 q2 (isStr_ok hk.1.2) hk.2 hd id hp
 ·rename_i ho
  simp only [Bool.and_eq_true,beq_iff_eq] at hk
  obtain ⟨⟨⟨hd',h1⟩,h2⟩,hx⟩:=hk
  obtain ⟨e,ti,q1,q2,q3⟩:=isSlBytes_ok h2
  exact do_s2b h ho (isStr_ok h1) q1 q2 q3 hx hd' (hd _ hd') (by rw [hd'] at hp; exact hp)
 ·rename_i t x y z bytes zc x' ho
  simp only [Bool.and_eq_true,beq_iff_eq] at hk
  obtain ⟨⟨⟨hd',h1⟩,hz⟩,hx⟩:=hk
  obtain rfl:=intO_ok h1
  split at hz
  ·rename_i e he
   unfold zeroT at hz
   split at hz
   ·rename_i ti hi
    split at hz
    ·rename_i zv hzv
     simp only [Bool.and_eq_true,beq_iff_eq,decide_eq_true_eq] at hz
     obtain ⟨⟨⟨⟨q1,q2⟩,q3⟩,q4⟩,q5⟩:=hz
     exact do_mks h ho (slOf_ok he) hi hzv q1 q2 q3 q4 q5 hx hd' (hd _ hd') (by rw [hd'] at hp; exact hp)
    ·cases hz
   ·cases hz
  ·cases hz
 ·rename_i ho
  simp only [Bool.and_eq_true] at hk
  obtain ⟨⟨⟨hz,hx⟩,hl⟩,hh⟩:=hk
  split at hz
  ·rename_i e he
   split at hz
   ·rename_i ti hi
    simp only [beq_iff_eq] at hz
    exact do_slice h ho (slOf_ok he) hi hz hx (optB_ok hl) (optB_ok hh) hd id hp
   ·cases hz
  ·cases hz
 ·rename_i ho
  simp only [Bool.and_eq_true] at hk
  obtain ⟨⟨⟨hz,hx⟩,hl⟩,hh⟩:=hk
  exact do_sslice h ho (isStr_ok hz) hx (optB_ok hl) (optB_ok hh) hd id hp
 ·rename_i s x i x' off ho
  simp only [Bool.and_eq_true] at hk
  obtain ⟨hz,hx⟩:=hk
  split at hz
  ·rename_i fs hs
   split at hz
   ·rename_i f hf
    simp only [Bool.and_eq_true,beq_iff_eq] at hz
    obtain ⟨h1,h2⟩:=hz
    split at h2
    ·rename_i ti hi
     simp only [Bool.not_eq_true',beq_eq_false_iff_ne] at h2
     exact do_faddr h ho hs (by rw [← Array.getElem?_toList]; exact hf) hi h2 h1 hx hd id hp
    ·cases h2
   ·cases hz
  ·cases hz
 ·rename_i ho
  simp only [Bool.and_eq_true] at hk
  obtain ⟨⟨hz,hx⟩,hy⟩:=hk
  split at hz
  ·rename_i e he
   obtain ⟨ti,q1,q2,q3⟩:=sizeT_ok hz
   exact do_iaddr h ho (slOf_ok he) q1 q2 q3 hx hy hd id hp
  ·cases hz
 ·rename_i ho
  simp only [Bool.and_eq_true] at hk
  obtain ⟨⟨hz,hx⟩,hy⟩:=hk
  split at hz
  ·rename_i len e he
   simp only [Bool.and_eq_true,beq_iff_eq] at hz
   obtain ⟨rfl,hz⟩:=hz
   split at hz
   ·rename_i ti hi
    simp only [beq_iff_eq] at hz
    exact do_aaddr h ho he hi hz hx hy hd id hp
   ·cases hz
  ·cases hz
 ·rename_i ho
  simp only [Bool.and_eq_true] at hk
  exact do_sidx h ho (isStr_ok hk.1.1) hk.1.2 hk.2 hd id hp
 ·rename_i ho
  simp only [Bool.and_eq_true,beq_iff_eq] at hk
  obtain ⟨rfl,hx⟩:=hk
  exact do_ext h ho hx hd id hp
 ·rename_i ho
  simp only [Bool.and_eq_true] at hk
  obtain ⟨hz,hx⟩:=hk
  split at hz
  ·rename_i fs hs
   split at hz
   ·rename_i f hf
    simp only [Bool.and_eq_true,beq_iff_eq] at hz
    exact do_fld h ho hs (by simpa using hf) hz.1 hz.2 hx hd id hp
   ·cases hz
  ·cases hz
 ·rename_i k first caps k' x ho
  simp only [Bool.and_eq_true,beq_iff_eq] at hk
  obtain ⟨rfl,hx⟩:=hk
  split at hx
  ·rename_i y e1 e2
   exact do_clos h (by rw [ho,arr1 e2,show first = #[] from Array.toList_inj.1 e1]) hx hd id hp
  ·cases hx
 ·rename_i ho; exact call_ok h ho hd hk hp
 ·cases hk
end
end Go.X

namespace Go.X
def gopOk (P:Program) (n:Nat) (ops:Array Oper) (o:Oper) (x:GOp):Bool :=
 (match o.guard,x.g with
  | none,none=>true
  | some (j,want),some (t,want')=>want==want'&&(match ops.toList[j]? with | some o'=>o'.dst==some t | none=>false)
  | _,_=>false)&&x.d==o.dst&&opOk P n o x.id x.o
def regL (P:Program) (n:Nat) (ops:Array Oper):List Oper→List GOp→Bool
 | [],[]=>true
 | o::os,x::xs=>gopOk P n ops o x&&regL P n ops os xs
 | _,_=>false
section
variable {P:Program} {X:Ctx} {n:Nat} {g:Gh} {st:St} {a:Act} {w:World} {o:Oper} {K:St→Prop} {Q:Exit→Act→World→Prop} {ops:Array Oper}
theorem gop_ok {i:Nat} {x:GOp} (h:Sim X n g st [] a w) (hi:ops[i]?=some o) (hk:gopOk P n ops o x=true) (hp:runP (Tells P X.KP) x.prg st (fun _ st'=>K st')):wpOp P ops Q i (Goal X n K) a w:=by
 unfold gopOk at hk
 simp only [Bool.and_eq_true,beq_iff_eq] at hk
 obtain ⟨⟨hg,hd⟩,hk⟩:=hk
 have hdn:∀ k,o.dst=some k→k < n:=fun k e=>by
  unfold opOk at hk
  simp only [Bool.and_eq_true] at hk
  simpa [e] using hk.1
 unfold wpOp
 simp only [hi]
 unfold GOp.prg at hp
 rw [hd] at hp
 split at hg
 ·rename_i e1 e2
  simp only [e2] at hp
  rw [if_pos (by simp [Region.wanted,e1])]
  exact .inl (op_ok h hk hp)
 ·rename_i j want t want' e1 e2
  simp only [e2,runP] at hp
  simp only [Bool.and_eq_true,beq_iff_eq] at hg
  obtain ⟨rfl,hg⟩:=hg
  split at hg
  ·rename_i o' ho'
   rw [Array.getElem?_toList] at ho'
   simp only [beq_iff_eq] at hg
   have hy:yielded ops a.tmps j=match a.tmps[t]? with | some (.bool b)=>some b | _=>none:=by
    unfold yielded
    simp only [ho',hg,Option.bind_some]
    cases a.tmps[t]? with
    | none=>rfl
    | some u=>cases u <;> rfl
   cases hv:get st.s t with
   | none=>simp [hv,runP] at hp
   | some v =>
    have hs:=h.slots t v hv
    rw [hv] at hp
    simp only [Option.getD_some] at hp
    split at hp
    ·rename_i b
     have e:=one_pv hs
     have e':a.tmps[t]?=some (.bool b):=by
      rw [Array.getD_eq_getD_getElem?] at e
      cases hh:a.tmps[t]? with
      | none=>rw [hh] at e; simp [undef] at e
      | some u=>rw [hh] at e; simp at e; rw [e]
     rw [e'] at hy
     simp only at hy
     by_cases hb:b=want
     ·subst hb
      rw [if_pos (by simp [Region.wanted,e1,hy])]
      simp only [beq_self_eq_true,cond_true] at hp
      exact .inl (op_ok h hk hp)
     ·rw [if_neg (by simp [Region.wanted,e1,hy,hb])]
      rw [beq_eq_false_iff_ne.2 hb,cond_false] at hp
      exact fin_ok (u:=undef) h hdn (by simp [SlotOK,SlotsOK,undef]) hp
    ·have e:a.tmps.getD t undef = .tuple #[]:=by
      simp only [SlotOK] at hs
      obtain ⟨us,e,hs⟩:=hs
      cases us with
      | nil=>exact e
      | cons=>simp [SlotsOK] at hs
     have hy':yielded ops a.tmps j=none:=by
      rw [hy]
      rw [Array.getD_eq_getD_getElem?] at e
      cases hh:a.tmps[t]? with
      | none=>rfl
      | some u=>rw [hh] at e; simp at e; rw [e]
     rw [if_neg (by simp [Region.wanted,e1,hy'])]
     exact fin_ok (u:=undef) h hdn (by simp [SlotOK,SlotsOK,undef]) hp
    ·exact hp.elim
  ·cases hg
 ·cases hg
theorem regL_get:∀ {os:List Oper} {xs:List GOp},regL P n ops os xs=true→os.length=xs.length∧∀ (i:Nat) (o:Oper),os[i]?=some o→∃ x,xs[i]?=some x∧gopOk P n ops o x=true
 | [],[],_=>⟨rfl,fun i o h=>by simp at h⟩
 | o::os,x::xs,h=>by
  simp only [regL,Bool.and_eq_true] at h
  obtain ⟨h1,h2⟩:=regL_get h.2
  refine ⟨by simp [h1],fun i o' ho=>?_⟩
  cases i with
  | zero=>simp at ho; subst ho; exact ⟨x,rfl,h.1⟩
  | succ i=>exact h2 i o' (by simpa using ho)
 | [],_::_,h=>by simp [regL] at h
 | _::_,[],h=>by simp [regL] at h
theorem reg_list (hQ:∀ g st a w,K st→Sim X n g st [] a w→Q .normal a w):∀ (xs:List GOp) (i:Nat) {g:Gh} {st:St} {a:Act} {w:World},(∀ (k:Nat) (x:GOp),xs[k]?=some x→∃ o,ops[i + k]?=some o∧gopOk P n ops o x=true)→
  Sim X n g st [] a w→runOps (Tells P X.KP) xs st K→wpOps P ops Q (List.range' i xs.length) a w
 | [],i,g,st,a,w,_,h,hp=>hQ g st a w hp h
 | x::xs,i,g,st,a,w,hx,h,hp=>by
  obtain ⟨o,ho,hk⟩:=hx 0 x rfl
  simp only [List.length_cons,List.range'_succ]
  rw [wpOps_cons]
  simp only [runOps] at hp
  refine wpOp_mono ?_ (gop_ok h ho hk hp)
  rintro a' w' ⟨g',st',hp',h'⟩
  exact reg_list hQ xs (i + 1) (fun k y hy=>by have:=hx (k + 1) y (by simpa using hy); rwa [show i + (k + 1)=i + 1 + k by omega] at this) h' hp'
theorem x_region {id:Nat} {st:St} {Q:Ex→St→Prop} {xs:List GOp} (hr:regL P n ops ops.toList xs=true) (hp:runOps (Tells P X.KP) xs st (Q .nrm)):xC P X n (.region id ops false) st Q:=fun g a w hs=>by
 obtain ⟨h1,h2⟩:=regL_get hr
 refine wp_region ?_
 have hsz:ops.size=xs.length:=by simpa using h1
 rw [List.range_eq_range',hsz]
 refine reg_list (K:=Q .nrm) (fun g st a w hk h=>⟨.nrm,g,st,trivial,hk,h⟩) xs 0 (fun k x hx=>?_) hs hp
 have hk:k < ops.toList.length:=by rw [h1]; exact (List.getElem?_eq_some_iff.1 hx).1
 obtain ⟨x',e,hk'⟩:=h2 k ops.toList[k] (List.getElem?_eq_getElem hk)
 rw [hx] at e
 simp at e
 subst e
 refine ⟨_,?_,hk'⟩
 rw [Nat.zero_add,← Array.getElem?_toList]
 exact List.getElem?_eq_getElem hk
end
inductive Loc where
 | s (t:Nat)
 | b (t:Nat)
 | r (t:Nat)
 | all
 deriving DecidableEq
section
variable {α:Type}
def runL {α:Type} (Te:Nat→List AV→Res→Prop):Prg α→St→List Loc→List Loc→(α→St→List Loc→List Loc→Prop)→Prop
 | .done a,st,rd,wr,Q=>Q a st rd wr
 | .fail,_,_,_,_=>False
 | .gs t k,st,rd,wr,Q=>runL Te (k ((get st.s t).getD .un)) st (.s t::rd) wr Q
 | .ss t v k,st,rd,wr,Q=>runL Te k { st with s:=put st.s t v } rd (.s t::wr) Q
 | .gb b k,st,rd,wr,Q=>match get st.b b with
  | some cs=>runL Te (k cs) st (.b b::rd) wr Q
  | none=>False
 | .sb b v k,st,rd,wr,Q=>match get st.b b with
  | some _=>runL Te k { st with b:=rep st.b b v } (.b b::rd) (.b b::wr) Q
  | none=>False
 | .nb b v k,st,rd,wr,Q=>match get st.b b with
  | some _=>False
  | none=>runL Te k { st with b:=rep st.b b v } (.b b::rd) (.b b::wr) Q
 | .gr r k,st,rd,wr,Q=>match get st.r r with
  | some cs=>runL Te (k cs) st (.r r::rd) wr Q
  | none=>False
 | .sr r v k,st,rd,wr,Q=>match get st.r r with
  | some _=>runL Te k { st with r:=rep st.r r v } (.r r::rd) (.r r::wr) Q
  | none=>False
 | .nr r v k,st,rd,wr,Q=>match get st.r r with
  | some _=>False
  | none=>runL Te k { st with r:=rep st.r r v } (.r r::rd) (.r r::wr) Q
 | .chk c k,st,rd,wr,Q=>c=true∧runL Te k st rd wr Q
 | .ov o k,st,rd,wr,Q=>match o with
  | some v=>runL Te (k v) st rd wr Q
  | none=>False
 | .call f as k,st,rd,wr,Q=>∃ r,Te f as r∧runL Te (k r) st rd wr Q
 | .all c k,st,rd,wr,Q=>AllX c st∧runL Te k st (.all::rd) wr Q
def Agree (st st2:St):Loc→Prop
 | .s t=>get st.s t=get st2.s t
 | .b t=>get st.b t=get st2.b t
 | .r t=>get st.r t=get st2.r t
 | .all=>True
theorem Agree.refl (st:St) (k:Loc):Agree st st k:=by cases k <;> first | rfl | trivial
theorem Agree.symm {st st2:St} {k:Loc} (h:Agree st st2 k):Agree st2 st k:=by cases k <;> first | exact Eq.symm h | trivial
theorem Agree.trans {st st2 st3:St} {k:Loc} (h:Agree st st2 k) (h':Agree st2 st3 k):Agree st st3 k:=by cases k <;> first | exact Eq.trans h h' | trivial
theorem agree_s {st st2:St} (t:Nat) (v:SV) {k:Loc} (h:k = .s t∨Agree st st2 k):Agree { st with s:=put st.s t v } { st2 with s:=put st2.s t v } k:=by
 cases k with
 | s u =>
  simp only [Agree,get_put_if] at h ⊢
  split
  ·rfl
  ·rename_i e; exact h.resolve_left (fun e'=>e (by cases e'; rfl))
 | b u=>exact h.resolve_left (fun e=>by cases e)
 | r u=>exact h.resolve_left (fun e=>by cases e)
 | all=>trivial
theorem agree_b {st st2:St} (t:Nat) (v:List Cel) {k:Loc} (h:k = .b t∨Agree st st2 k):Agree { st with b:=rep st.b t v } { st2 with b:=rep st2.b t v } k:=by
 cases k with
 | b u =>
  simp only [Agree,get_rep_if] at h ⊢
  split
  ·rfl
  ·rename_i e; exact h.resolve_left (fun e'=>e (by cases e'; rfl))
 | s u=>exact h.resolve_left (fun e=>by cases e)
 | r u=>exact h.resolve_left (fun e=>by cases e)
 | all=>trivial
theorem agree_r {st st2:St} (t:Nat) (v:List T) {k:Loc} (h:k = .r t∨Agree st st2 k):Agree { st with r:=rep st.r t v } { st2 with r:=rep st2.r t v } k:=by
 cases k with
 | r u =>
  simp only [Agree,get_rep_if] at h ⊢
  split
  ·rfl
  ·rename_i e; exact h.resolve_left (fun e'=>e (by cases e'; rfl))
 | s u=>exact h.resolve_left (fun e=>by cases e)
 | b u=>exact h.resolve_left (fun e=>by cases e)
 | all=>trivial
theorem keep_s (st:St) (t:Nat) (v:SV) {k:Loc} (h:k≠.s t):Agree st { st with s:=put st.s t v } k:=by
 cases k with
 | s u=>simp only [Agree,get_put_if]; rw [if_neg (fun e=>h (by rw [e]))]
 | all=>trivial
 | _=>rfl
theorem keep_b (st:St) (t:Nat) (v:List Cel) {k:Loc} (h:k≠.b t):Agree st { st with b:=rep st.b t v } k:=by
 cases k with
 | b u=>simp only [Agree,get_rep_if]; rw [if_neg (fun e=>h (by rw [e]))]
 | all=>trivial
 | _=>rfl
theorem keep_r (st:St) (t:Nat) (v:List T) {k:Loc} (h:k≠.r t):Agree st { st with r:=rep st.r t v } k:=by
 cases k with
 | r u=>simp only [Agree,get_rep_if]; rw [if_neg (fun e=>h (by rw [e]))]
 | all=>trivial
 | _=>rfl
theorem runP_imp' {Te:Nat→List AV→Res→Prop} {Q Q':α→St→Prop} (hq:∀ a s,Q a s→Q' a s):∀ (p:Prg α) {st:St},runP Te p st Q→runP Te p st Q'
 | .done _,_,h=>hq _ _ h
 | .fail,_,h=>h.elim
 | .gs _ k,_,h=>runP_imp' hq (k _) h
 | .ss _ _ k,_,h=>runP_imp' hq k h
 | .gb b k,st,h=>by
  simp only [runP] at h ⊢
  cases hb:get st.b b with
  | none=>simp [hb] at h
  | some cs=>simp only [hb] at h ⊢; exact runP_imp' hq (k _) h
 | .sb b v k,st,h=>by
  simp only [runP] at h ⊢
  cases hb:get st.b b with
  | none=>simp [hb] at h
  | some cs=>simp only [hb] at h ⊢; exact runP_imp' hq k h
 | .nb b v k,st,h=>by
  simp only [runP] at h ⊢
  cases hb:get st.b b with
  | some cs=>simp [hb] at h
  | none=>simp only [hb] at h ⊢; exact runP_imp' hq k h
 | .gr b k,st,h=>by
  simp only [runP] at h ⊢
  cases hb:get st.r b with
  | none=>simp [hb] at h
  | some cs=>simp only [hb] at h ⊢; exact runP_imp' hq (k _) h
 | .sr b v k,st,h=>by
  simp only [runP] at h ⊢
  cases hb:get st.r b with
  | none=>simp [hb] at h
  | some cs=>simp only [hb] at h ⊢; exact runP_imp' hq k h
 | .nr b v k,st,h=>by
  simp only [runP] at h ⊢
  cases hb:get st.r b with
  | some cs=>simp [hb] at h
  | none=>simp only [hb] at h ⊢; exact runP_imp' hq k h
 | .chk _ k,_,h=>⟨h.1,runP_imp' hq k h.2⟩
 | .ov o k,st,h=>by
  cases o with
  | none=>exact h.elim
  | some v=>exact runP_imp' hq (k v) h
 | .call f as k,st,h=>by
  obtain ⟨r,hr,h⟩:=h
  exact ⟨r,hr,runP_imp' hq (k r) h⟩
 | .all _ k,_,h=>⟨h.1,runP_imp' hq k h.2⟩
theorem runL_frame {Te:Nat→List AV→Res→Prop} {Φ:α→St→List Loc→List Loc→Prop}:∀ (p:Prg α) (st:St) (rd wr:List Loc),runL Te p st rd wr Φ→∃ a st' rd' wr',Φ a st' rd' wr'∧(∀ k∈rd,k∈rd')∧(∀ k∈wr,k∈wr')∧(∀ k,k∉wr'→Agree st st' k)∧
  ∀ st2,(∀ k∈rd',Agree st st2 k)→(∀ k∈wr,Agree st st2 k)→(.all∈rd'→∀ k,Agree st st2 k)→runP Te p st2 (fun _ st2'=>(∀ k∈wr',Agree st' st2' k)∧∀ k,k∉wr'→Agree st2 st2' k)
 | .done a,st,rd,wr,h=>⟨a,st,rd,wr,h,fun _ h=>h,fun _ h=>h,fun _ _=>Agree.refl _ _,fun st2 _ h2 _=>⟨h2,fun _ _=>Agree.refl _ _⟩⟩
 | .fail,_,_,_,h=>h.elim
 | .gs t k,st,rd,wr,h=>by
  obtain ⟨a,st',rd',wr',q1,q2,q3,q4,q5⟩:=runL_frame (k _) st _ wr h
  refine ⟨a,st',rd',wr',q1,fun x hx=>q2 x (List.mem_cons_of_mem _ hx),q3,q4,fun st2 h1 h2 h3=>?_⟩
  have e:get st.s t=get st2.s t:=h1 (.s t) (q2 _ (List.mem_cons_self ..))
  simp only [runP,← e]
  exact q5 st2 h1 h2 h3
 | .ss t v k,st,rd,wr,h=>by
  obtain ⟨a,st',rd',wr',q1,q2,q3,q4,q5⟩:=runL_frame k _ _ _ h
  refine ⟨a,st',rd',wr',q1,q2,fun x hx=>q3 x (List.mem_cons_of_mem _ hx),fun x hx=>(keep_s st t v (fun e=>hx (q3 _ (by rw [e]; exact List.mem_cons_self ..)))).trans (q4 x hx),fun st2 h1 h2 h3=>?_⟩
  have:=q5 { st2 with s:=put st2.s t v } (fun x hx=>agree_s t v (.inr (h1 x hx))) (fun x hx=>agree_s t v ((List.mem_cons.1 hx).imp id (h2 x))) (fun hm x=>agree_s t v (.inr (h3 hm x)))
  simp only [runP]
  refine runP_imp' (fun _ s hs=>⟨hs.1,fun x hx=>(keep_s st2 t v (fun e=>hx (q3 _ (by rw [e]; exact List.mem_cons_self ..)))).trans (hs.2 x hx)⟩) _ this
 | .gb b k,st,rd,wr,h=>by
  simp only [runL] at h
  cases hb:get st.b b with
  | none=>simp [hb] at h
  | some cs =>
   simp only [hb] at h
   obtain ⟨a,st',rd',wr',q1,q2,q3,q4,q5⟩:=runL_frame (k _) st _ wr h
   refine ⟨a,st',rd',wr',q1,fun x hx=>q2 x (List.mem_cons_of_mem _ hx),q3,q4,fun st2 h1 h2 h3=>?_⟩
   have e:get st.b b=get st2.b b:=h1 (.b b) (q2 _ (List.mem_cons_self ..))
   simp only [runP,← e,hb]
   exact q5 st2 h1 h2 h3
 | .sb b v k,st,rd,wr,h=>by
  simp only [runL] at h
  cases hb:get st.b b with
  | none=>simp [hb] at h
  | some cs =>
   simp only [hb] at h
   obtain ⟨a,st',rd',wr',q1,q2,q3,q4,q5⟩:=runL_frame k _ _ _ h
   refine ⟨a,st',rd',wr',q1,fun x hx=>q2 x (List.mem_cons_of_mem _ hx),fun x hx=>q3 x (List.mem_cons_of_mem _ hx),fun x hx=>(keep_b st b v (fun e=>hx (q3 _ (by rw [e]; exact List.mem_cons_self ..)))).trans (q4 x hx),fun st2 h1 h2 h3=>?_⟩
   have e:get st.b b=get st2.b b:=h1 (.b b) (q2 _ (List.mem_cons_self ..))
   have:=q5 { st2 with b:=rep st2.b b v } (fun x hx=>agree_b b v (.inr (h1 x hx))) (fun x hx=>agree_b b v ((List.mem_cons.1 hx).imp id (h2 x))) (fun hm x=>agree_b b v (.inr (h3 hm x)))
   simp only [runP,← e,hb]
   refine runP_imp' (fun _ s hs=>⟨hs.1,fun x hx=>(keep_b st2 b v (fun e=>hx (q3 _ (by rw [e]; exact List.mem_cons_self ..)))).trans (hs.2 x hx)⟩) _ this
 | .nb b v k,st,rd,wr,h=>by
  simp only [runL] at h
  cases hb:get st.b b with
  | some cs=>simp [hb] at h
  | none =>
   simp only [hb] at h
   obtain ⟨a,st',rd',wr',q1,q2,q3,q4,q5⟩:=runL_frame k _ _ _ h
   refine ⟨a,st',rd',wr',q1,fun x hx=>q2 x (List.mem_cons_of_mem _ hx),fun x hx=>q3 x (List.mem_cons_of_mem _ hx),fun x hx=>(keep_b st b v (fun e=>hx (q3 _ (by rw [e]; exact List.mem_cons_self ..)))).trans (q4 x hx),fun st2 h1 h2 h3=>?_⟩
   have e:get st.b b=get st2.b b:=h1 (.b b) (q2 _ (List.mem_cons_self ..))
   have:=q5 { st2 with b:=rep st2.b b v } (fun x hx=>agree_b b v (.inr (h1 x hx))) (fun x hx=>agree_b b v ((List.mem_cons.1 hx).imp id (h2 x))) (fun hm x=>agree_b b v (.inr (h3 hm x)))
   simp only [runP,← e,hb]
   refine runP_imp' (fun _ s hs=>⟨hs.1,fun x hx=>(keep_b st2 b v (fun e=>hx (q3 _ (by rw [e]; exact List.mem_cons_self ..)))).trans (hs.2 x hx)⟩) _ this
 | .gr b k,st,rd,wr,h=>by
  simp only [runL] at h
  cases hb:get st.r b with
  | none=>simp [hb] at h
  | some cs =>
   simp only [hb] at h
   obtain ⟨a,st',rd',wr',q1,q2,q3,q4,q5⟩:=runL_frame (k _) st _ wr h
   refine ⟨a,st',rd',wr',q1,fun x hx=>q2 x (List.mem_cons_of_mem _ hx),q3,q4,fun st2 h1 h2 h3=>?_⟩
   have e:get st.r b=get st2.r b:=h1 (.r b) (q2 _ (List.mem_cons_self ..))
   simp only [runP,← e,hb]
   exact q5 st2 h1 h2 h3
 | .sr b v k,st,rd,wr,h=>by
  simp only [runL] at h
  cases hb:get st.r b with
  | none=>simp [hb] at h
  | some cs =>
   simp only [hb] at h
   obtain ⟨a,st',rd',wr',q1,q2,q3,q4,q5⟩:=runL_frame k _ _ _ h
   refine ⟨a,st',rd',wr',q1,fun x hx=>q2 x (List.mem_cons_of_mem _ hx),fun x hx=>q3 x (List.mem_cons_of_mem _ hx),fun x hx=>(keep_r st b v (fun e=>hx (q3 _ (by rw [e]; exact List.mem_cons_self ..)))).trans (q4 x hx),fun st2 h1 h2 h3=>?_⟩
   have e:get st.r b=get st2.r b:=h1 (.r b) (q2 _ (List.mem_cons_self ..))
   have:=q5 { st2 with r:=rep st2.r b v } (fun x hx=>agree_r b v (.inr (h1 x hx))) (fun x hx=>agree_r b v ((List.mem_cons.1 hx).imp id (h2 x))) (fun hm x=>agree_r b v (.inr (h3 hm x)))
   simp only [runP,← e,hb]
   refine runP_imp' (fun _ s hs=>⟨hs.1,fun x hx=>(keep_r st2 b v (fun e=>hx (q3 _ (by rw [e]; exact List.mem_cons_self ..)))).trans (hs.2 x hx)⟩) _ this
 | .nr b v k,st,rd,wr,h=>by
  simp only [runL] at h
  cases hb:get st.r b with
  | some cs=>simp [hb] at h
  | none =>
   simp only [hb] at h
   obtain ⟨a,st',rd',wr',q1,q2,q3,q4,q5⟩:=runL_frame k _ _ _ h
   refine ⟨a,st',rd',wr',q1,fun x hx=>q2 x (List.mem_cons_of_mem _ hx),fun x hx=>q3 x (List.mem_cons_of_mem _ hx),fun x hx=>(keep_r st b v (fun e=>hx (q3 _ (by rw [e]; exact List.mem_cons_self ..)))).trans (q4 x hx),fun st2 h1 h2 h3=>?_⟩
   have e:get st.r b=get st2.r b:=h1 (.r b) (q2 _ (List.mem_cons_self ..))
   have:=q5 { st2 with r:=rep st2.r b v } (fun x hx=>agree_r b v (.inr (h1 x hx))) (fun x hx=>agree_r b v ((List.mem_cons.1 hx).imp id (h2 x))) (fun hm x=>agree_r b v (.inr (h3 hm x)))
   simp only [runP,← e,hb]
   refine runP_imp' (fun _ s hs=>⟨hs.1,fun x hx=>(keep_r st2 b v (fun e=>hx (q3 _ (by rw [e]; exact List.mem_cons_self ..)))).trans (hs.2 x hx)⟩) _ this
 | .chk c k,st,rd,wr,h=>by
  obtain ⟨hc,h⟩:=h
  obtain ⟨a,st',rd',wr',q1,q2,q3,q4,q5⟩:=runL_frame k _ _ _ h
  exact ⟨a,st',rd',wr',q1,q2,q3,q4,fun st2 h1 h2 h3=>⟨hc,q5 st2 h1 h2 h3⟩⟩
 | .ov o k,st,rd,wr,h=>by
  cases o with
  | none=>exact h.elim
  | some v=>exact runL_frame (k v) _ _ _ h
 | .call f as k,st,rd,wr,h=>by
  obtain ⟨r,hr,h⟩:=h
  obtain ⟨a,st',rd',wr',q1,q2,q3,q4,q5⟩:=runL_frame (k r) _ _ _ h
  exact ⟨a,st',rd',wr',q1,q2,q3,q4,fun st2 h1 h2 h3=>⟨r,hr,q5 st2 h1 h2 h3⟩⟩
 | .all c k,st,rd,wr,h=>by
  obtain ⟨⟨s',e1,e2,hc⟩,h⟩:=h
  obtain ⟨a,st',rd',wr',q1,q2,q3,q4,q5⟩:=runL_frame k st _ wr h
  refine ⟨a,st',rd',wr',q1,fun x hx=>q2 x (List.mem_cons_of_mem _ hx),q3,q4,fun st2 h1 h2 h3=>?_⟩
  have ha:=h3 (q2 _ (List.mem_cons_self ..))
  exact ⟨⟨s',fun t=>(e1 t).trans (ha (.s t)),fun t=>(e2 t).trans (ha (.b t)),hc⟩,q5 st2 h1 h2 h3⟩
end
end Go.X

namespace Go.X
abbrev Log:=List Loc×List Loc
def runDraw (Te:Nat→List AV→Res→Prop):List GOp→St→List Log→(St→List Log→Prop)→Prop
 | [],st,l,Q=>Q st l
 | o::os,st,l,Q=>runL Te o.prg st [] [] fun _ st' rd wr=>runDraw Te os st' (l++[(rd,wr)]) Q
def clear (x y:Log):Bool:=((x.2.all fun k=>!y.1.contains k && !y.2.contains k)&&y.2.all fun k=>!x.1.contains k)&&((x.2.isEmpty || !y.1.contains .all)&&(y.2.isEmpty || !x.1.contains .all))
def logsOk:List Log→List Log→List (List Nat)→Bool
 | _,[],_=>true
 | l,x::xs,es=>(l.zipIdx.all fun y=>clear y.1 x||(es.getD l.length []).contains y.2)&&logsOk (l++[x]) xs es
def ancs:List (List Nat)→List (List Nat)→List (List Nat)
 | tab,[]=>tab
 | tab,e::es=>ancs (tab++[(e++e.flatMap fun i=>tab.getD i []).eraseDups]) es
def drawOk (es:List (List Nat)) (ls:List Log):Bool:=logsOk [] ls (ancs [] es)&&es.zipIdx.all fun x=>x.1.all fun i=>decide (i < x.2)
def edgesOf (ops:Array Oper):List (List Nat):=ops.toList.map fun o=>(o.after.toList.filter (Region.binds .any)).map (·.on)
inductive Anc (es:List (List Nat)):Nat→Nat→Prop
 | base {i j:Nat} {e:List Nat}:es[j]?=some e→i∈e→Anc es i j
 | step {i j k:Nat} {e:List Nat}:es[j]?=some e→k∈e→Anc es i k→Anc es i j
theorem ancs_ok (all:List (List Nat)):∀ (es tab:List (List Nat)),(∀ k (e:List Nat),es[k]?=some e→all[tab.length + k]?=some e)→(∀ j e,tab[j]?=some e→∀ i∈e,Anc all i j)→∀ j e,(ancs tab es)[j]?=some e→∀ i∈e,Anc all i j
 | [],tab,_,ht,j,e,h=>ht j e h
 | x::es,tab,he,ht,j,e,h=>by
  refine ancs_ok all es _ (fun k e' h'=>?_) (fun j' e' h' i hi=>?_) j e h
  ·have:=he (k + 1) e' (by simpa using h')
   simpa [Nat.add_assoc,Nat.add_comm 1 k] using this
  ·rw [List.getElem?_append] at h'
   split at h'
   ·exact ht j' e' h' i hi
   ·rename_i hl
    have hj:j'=tab.length:=by
     have:=(List.getElem?_eq_some_iff.1 h').1
     simp at this
     omega
    subst hj
    simp at h'
    subst h'
    have hx:=he 0 x rfl
    simp only [Nat.add_zero] at hx
    rw [List.mem_eraseDups] at hi
    rcases List.mem_append.1 hi with hi | hi
    ·exact .base hx hi
    ·obtain ⟨k,hk,hi⟩:=List.mem_flatMap.1 hi
     cases hkt:tab[k]? with
     | none=>simp [List.getD_eq_getElem?_getD,hkt] at hi
     | some e'' =>
      simp only [List.getD_eq_getElem?_getD,hkt,Option.getD_some] at hi
      exact .step hx hk (ht k e'' hkt i hi)
theorem clear_spec {x y:Log} (h:clear x y=true):(∀ k∈x.2,(k∉y.1∧.all∉y.1)∧k∉y.2)∧∀ k∈y.2,k∉x.1∧.all∉x.1:=by
 simp only [clear,Bool.and_eq_true,List.all_eq_true,Bool.not_eq_true',List.contains_eq_mem,decide_eq_false_iff_not,Bool.or_eq_true,List.isEmpty_iff] at h
 obtain ⟨⟨h1,h2⟩,h3,h4⟩:=h
 refine ⟨fun k hk=>⟨⟨(h1 k hk).1,?_⟩,(h1 k hk).2⟩,fun k hk=>⟨h2 k hk,?_⟩⟩
 ·rcases h3 with h3 | h3
  ·rw [h3] at hk; cases hk
  ·exact h3
 ·rcases h4 with h4 | h4
  ·rw [h4] at hk; cases hk
  ·exact h4
theorem logsOk_spec:∀ (xs l:List Log) (es:List (List Nat)),logsOk l xs es=true→∀ (j:Nat) (y:Log),xs[j]?=some y→∀ (i:Nat) (x:Log),(l++xs)[i]?=some x→i < l.length + j→clear x y=true∨i∈es.getD (l.length + j) []
 | [],_,_,_,j,y,h,_,_,_,_=>by simp at h
 | z::xs,l,es,h,j,y,hy,i,x,hx,hi=>by
  simp only [logsOk,Bool.and_eq_true,List.all_eq_true,Bool.or_eq_true,List.contains_eq_mem,decide_eq_true_eq] at h
  cases j with
  | zero =>
   simp at hy
   subst hy
   simp only [Nat.add_zero] at hi ⊢
   have hx':l[i]?=some x:=by rwa [List.getElem?_append_left hi] at hx
   exact h.1 (x,i) (List.mk_mem_zipIdx_iff_getElem?.2 hx')
  | succ j =>
   have:=logsOk_spec xs (l++[z]) es h.2 j y (by simpa using hy) i x (by simpa using hx) (by simp; omega)
   simpa [Nat.add_assoc,Nat.add_comm 1 j] using this
section
variable {P:Program} {X:Ctx} {n:Nat} {g:Gh} {st:St} {a:Act} {w:World} {o:Oper} {ops:Array Oper} {Te:Nat→List AV→Res→Prop}
def StepOf (Te:Nat→List AV→Res→Prop) (x:GOp) (st st':St) (l:Log):Prop:=(∀ k,k∉l.2→Agree st st' k)∧
 ∀ st2,(∀ k∈l.1,Agree st st2 k)→(.all∈l.1→∀ k,Agree st st2 k)→runP Te x.prg st2 (fun _ st2'=>(∀ k∈l.2,Agree st' st2' k)∧∀ k,k∉l.2→Agree st2 st2' k)
theorem draw_seq {Q:St→List Log→Prop}:∀ (xs:List GOp) (st:St) (l:List Log),runDraw Te xs st l Q→∃ (sts:Nat→St) (L:List Log),sts 0=st∧L.length=xs.length∧Q (sts xs.length) (l++L)∧∀ (i:Nat) (x:GOp) (y:Log),xs[i]?=some x→L[i]?=some y→StepOf Te x (sts i) (sts (i + 1)) y
 | [],st,l,h=>⟨fun _=>st,[],rfl,rfl,by simpa [runDraw] using h,fun i x y hx=>by simp at hx⟩
 | x::xs,st,l,h=>by
  obtain ⟨_,st',rd,wr,h1,_,_,h2,h3⟩:=runL_frame _ _ _ _ h
  obtain ⟨sts,L,e0,el,hq,hs⟩:=draw_seq xs st' _ h1
  refine ⟨fun i=>match i with | 0=>st | i + 1=>sts i,(rd,wr)::L,rfl,by simp [el],by simpa using hq,fun i y z hy hz=>?_⟩
  cases i with
  | zero =>
   simp at hy hz
   subst hy; subst hz
   simp only [e0]
   exact ⟨h2,fun st2 hh ha=>h3 st2 hh (fun k hk=>by cases hk) ha⟩
  | succ i=>exact hs i y z (by simpa using hy) (by simpa using hz)
theorem chain {sts:Nat→St} {L:List Log} {N:Nat} (hs:∀ i,i < N→∀ y,L[i]?=some y→∀ k,k∉y.2→Agree (sts i) (sts (i + 1)) k) (hL:L.length=N) {k:Loc}:∀ (b a:Nat),a≤b→b≤N→(∀ i y,a≤i→i < b→L[i]?=some y→k∉y.2)→Agree (sts a) (sts b) k
 | 0,a,h,_,_=>by
  have:a=0:=by omega
  subst this
  exact Agree.refl _ _
 | b + 1,a,h,hb,hn=>by
  by_cases e:a=b + 1
  ·subst e; exact Agree.refl _ _
  ·have h1:=chain hs hL b a (by omega) (by omega) (fun i y h1 h2 hy=>hn i y h1 (by omega) hy)
   have hy:L[b]?=some L[b]:=List.getElem?_eq_getElem (by omega)
   exact h1.trans (hs b (by omega) _ hy k (hn b _ (by omega) (by omega) hy))
def RelOf (sts:Nat→St) (L:List Log) (S:Nat→Prop) (cur:St):Prop:=∀ k,(∃ i y,S i∧L[i]?=some y∧k∈y.2∧(∀ i' y',S i'→L[i']?=some y'→k∈y'.2→i'≤i)∧Agree (sts (i + 1)) cur k)∨((∀ i y,S i→L[i]?=some y→k∉y.2)∧Agree (sts 0) cur k)
structure DrawFacts (es:List (List Nat)) (sts:Nat→St) (L:List Log):Prop where
 ord:∀ (i j:Nat) (x y:Log),i < j→L[i]?=some x→L[j]?=some y→clear x y=true∨Anc es i j
 low:∀ (j:Nat) (e:List Nat),es[j]?=some e→∀ i∈e,i < j
 keep:∀ (i:Nat) (y:Log),L[i]?=some y→∀ k,k∉y.2→Agree (sts i) (sts (i + 1)) k
theorem Anc.lt {es:List (List Nat)} (hl:∀ (j:Nat) (e:List Nat),es[j]?=some e→∀ i∈e,i < j) {i j:Nat} (h:Anc es i j):i < j:=by
 induction h with
 | base h1 h2=>exact hl _ _ h1 _ h2
 | step h1 h2 _ ih=>have:=hl _ _ h1 _ h2; omega
theorem Anc.inS {es:List (List Nat)} {S:Nat→Prop} (hc:∀ (j:Nat) (e:List Nat),S j→es[j]?=some e→∀ i∈e,S i) {i j:Nat} (h:Anc es i j) (hj:∀ (e:List Nat),es[j]?=some e→∀ i∈e,S i):S i:=by
 induction h with
 | base h1 h2=>exact hj _ h1 _ h2
 | step h1 h2 _ ih=>exact ih (fun e he=>hc _ e (hj _ h1 _ h2) he)
theorem rel_before {es:List (List Nat)} {sts:Nat→St} {L:List Log} {S:Nat→Prop} {cur:St} (F:DrawFacts es sts L) (hc:∀ (j:Nat) (e:List Nat),S j→es[j]?=some e→∀ i∈e,S i) (hr:RelOf sts L S cur) {j:Nat} {y:Log} (hy:L[j]?=some y) (hj:¬ S j) (hp:∀ e,es[j]?=some e→∀ i∈e,S i) :
  ∀ k,(k∈y.1∨.all∈y.1)→Agree (sts j) cur k:=by
 intro k hk
 have hjl:=(List.getElem?_eq_some_iff.1 hy).1
 have conf:∀ i x,i < j→L[i]?=some x→k∈x.2→S i:=fun i x hi hx hkx=>by
  rcases F.ord i j x y hi hx hy with h | h
  ·exact (hk.elim ((clear_spec h).1 k hkx).1.1 ((clear_spec h).1 k hkx).1.2).elim
  ·exact h.inS hc hp
 rcases hr k with ⟨i,x,hi,hx,hkx,hm,ha⟩ | ⟨hn,ha⟩
 ·have hne:i≠j:=fun e=>hj (e ▸ hi)
  by_cases hlt:i < j
  ·exact (chain (N:=L.length) (fun i _=>F.keep i) rfl j (i + 1) (by omega) (by omega) (fun i' y' h1 h2 hy' hk'=>by
    have:=hm i' y' (conf i' y' h2 hy' hk') hy' hk'
    omega)).symm.trans ha
  ·rcases F.ord j i y x (by omega) hy hx with h | h
   ·exact (hk.elim ((clear_spec h).2 k hkx).1 ((clear_spec h).2 k hkx).2).elim
   ·exact absurd (h.inS hc (fun e he=>hc i e hi he)) hj
 ·exact (chain (N:=L.length) (fun i _=>F.keep i) rfl j 0 (by omega) (by omega) (fun i' y' _ h2 hy' hk'=>hn i' y' (conf i' y' h2 hy' hk') hy' hk')).symm.trans ha
theorem rel_after {es:List (List Nat)} {sts:Nat→St} {L:List Log} {S:Nat→Prop} {cur cur':St} (F:DrawFacts es sts L) (hc:∀ (j:Nat) (e:List Nat),S j→es[j]?=some e→∀ i∈e,S i) (hr:RelOf sts L S cur) {j:Nat} {y:Log} (hy:L[j]?=some y) (hj:¬ S j)
  (h1:∀ k∈y.2,Agree (sts (j + 1)) cur' k) (h2:∀ k,k∉y.2→Agree cur cur' k):RelOf sts L (fun i=>S i∨i=j) cur':=by
 intro k
 by_cases hk:k∈y.2
 ·refine .inl ⟨j,y,.inr rfl,hy,hk,fun i' y' hi' hy' hk'=>?_,h1 k hk⟩
  rcases hi' with hi' | rfl
  ·by_cases hlt:j < i'
   ·rcases F.ord j i' y y' hlt hy hy' with h | h
    ·exact absurd hk' ((clear_spec h).1 k hk).2
    ·exact absurd (h.inS hc (fun e he=>hc i' e hi' he)) hj
   ·omega
  ·exact Nat.le_refl _
 ·rcases hr k with ⟨i,x,hi,hx,hkx,hm,ha⟩ | ⟨hn,ha⟩
  ·refine .inl ⟨i,x,.inl hi,hx,hkx,fun i' y' hi' hy' hk'=>?_,ha.trans (h2 k hk)⟩
   rcases hi' with hi' | rfl
   ·exact hm i' y' hi' hy' hk'
   ·rw [hy] at hy'
    simp at hy'
    subst hy'
    exact absurd hk' hk
  ·refine .inr ⟨fun i x hi hx=>?_,ha.trans (h2 k hk)⟩
   rcases hi with hi | rfl
   ·exact hn i x hi hx
   ·rw [hy] at hx
    simp at hx
    subst hx
    exact hk
theorem rel_end {es:List (List Nat)} {sts:Nat→St} {L:List Log} {S:Nat→Prop} {cur:St} (F:DrawFacts es sts L) (hr:RelOf sts L S cur) (hS:∀ i,i < L.length→S i) (k:Loc):Agree (sts L.length) cur k:=by
 rcases hr k with ⟨i,x,hi,hx,hkx,hm,ha⟩ | ⟨hn,ha⟩
 ·have hil:=(List.getElem?_eq_some_iff.1 hx).1
  exact (chain (N:=L.length) (fun i _=>F.keep i) rfl L.length (i + 1) (by omega) (Nat.le_refl _) (fun i' y' h1 h2 hy' hk'=>by
   have:=hm i' y' (hS i' h2) hy' hk'
   omega)).symm.trans ha
 ·exact (chain (N:=L.length) (fun i _=>F.keep i) rfl L.length 0 (by omega) (Nat.le_refl _) (fun i' y' _ h2 hy' hk'=>hn i' y' (hS i' h2) hy' hk')).symm.trans ha
theorem drawOk_spec {es:List (List Nat)} {sts:Nat→St} {L:List Log} (h:drawOk es L=true) (hk:∀ (i:Nat) (y:Log),L[i]?=some y→∀ k,k∉y.2→Agree (sts i) (sts (i + 1)) k):DrawFacts es sts L:=by
 simp only [drawOk,Bool.and_eq_true] at h
 obtain ⟨h1,h2⟩:=h
 refine ⟨fun i j x y hij hx hy=>?_,fun j e he i hi=>?_,hk⟩
 ·rcases logsOk_spec L [] _ h1 j y hy i x (by simpa using hx) (by simpa using hij) with h | h
  ·exact .inl h
  ·right
   simp only [List.length_nil,Nat.zero_add,List.getD_eq_getElem?_getD] at h
   cases ht:(ancs [] es)[j]? with
   | none=>simp [ht] at h
   | some e =>
    simp only [ht,Option.getD_some] at h
    exact ancs_ok es es [] (fun k e h=>by simpa using h) (fun j e h=>by simp at h) j e ht i h
 ·simp only [List.all_eq_true] at h2
  simpa using h2 (e,j) (List.mk_mem_zipIdx_iff_getElem?.2 he) i hi
theorem edges_get {j:Nat} {o:Oper} (h:ops[j]?=some o):(edgesOf ops)[j]?=some ((o.after.toList.filter (Region.binds .any)).map (·.on)):=by
 simp [edgesOf,h]
theorem draw_any {es:List (List Nat)} {sts:Nat→St} {L:List Log} {xs:List GOp} {Q:Exit→Act→World→Prop} (hes:es=edgesOf ops) (F:DrawFacts es sts L) (hlen:L.length=ops.size)
  (hx:∀ (i:Nat) (o:Oper),ops[i]?=some o→∃ x,xs[i]?=some x∧gopOk P n ops o x=true) (hs:∀ (i:Nat) (x:GOp) (y:Log),xs[i]?=some x→L[i]?=some y→StepOf (Tells P X.KP) x (sts i) (sts (i + 1)) y)
  (hQ:∀ g a w,Sim X n g (sts L.length) [] a w→Q .normal a w):∀ (fuel:Nat) (listed:Array Bool) {g:Gh} {cur:St} {a:Act} {w:World},listed.size=ops.size→
  tot (fun i=>if listed.getD i true then 0 else 1) ops.size=fuel→(∀ (j:Nat) (e:List Nat),listed.getD j false=true→es[j]?=some e→∀ i∈e,listed.getD i false=true)→
  RelOf sts L (fun i=>listed.getD i false=true) cur→Sim X n g cur [] a w→wpAny P .any ops Q fuel listed a w:=by
 have fin:∀ (listed:Array Bool) {g:Gh} {cur:St} {a:Act} {w:World},listed.size=ops.size→Region.ready .any ops listed=[]→RelOf sts L (fun i=>listed.getD i false=true) cur→Sim X n g cur [] a w→Q .normal a w:=by
  intro listed g cur a w hsz hr hrel h
  have hall:∀ i,i < L.length→listed.getD i false=true:=by
   intro i
   induction i using Nat.strongRecOn with
   | _ i ih =>
    intro hi
    cases hb:listed.getD i false with
    | true=>rfl
    | false =>
     have hi':i < ops.size:=by omega
     have ho:ops[i]?=some ops[i]:=Array.getElem?_eq_getElem hi'
     have:i∈Region.ready .any ops listed:=mem_ready.2 ⟨by
      rw [Array.getD_eq_getD_getElem?] at hb ⊢
      rw [Array.getElem?_eq_getElem (by omega)] at hb ⊢
      simpa using hb,_,ho,fun e he hbnd=>by
      have hlt:=F.low i _ (by rw [hes]; exact edges_get ho) e.on (List.mem_map.2 ⟨e,List.mem_filter.2 ⟨by simpa using he,hbnd⟩,rfl⟩)
      exact ih e.on hlt (by omega)⟩
     rw [hr] at this
     cases this
  have:=rel_end F hrel hall
  exact hQ g a w (h.ext (fun k=>(this (.s k))) (fun k=>this (.b k)) (fun k=>this (.r k)))
 intro fuel
 induction fuel with
 | zero =>
  intro listed g cur a w hsz ht hc hrel h
  have hr:Region.ready .any ops listed=[]:=by
   cases hr:Region.ready .any ops listed with
   | nil=>rfl
   | cons j l =>
    have hj:j∈Region.ready .any ops listed:=by rw [hr]; exact List.mem_cons_self ..
    obtain ⟨h1,o,ho,_⟩:=mem_ready.1 hj
    have:=tot_le (f:=fun i=>if listed.getD i true then 0 else 1) (k:=j) (n:=ops.size) (Array.getElem?_eq_some_iff.1 ho).1
    simp only [h1] at this
    rw [ht] at this
    simp at this
  exact ⟨hr,fin listed hsz hr hrel h⟩
 | succ fuel ih =>
  intro listed g cur a w hsz ht hc hrel h
  refine ⟨fun hr=>fin listed hsz hr hrel h,fun j hj=>?_⟩
  obtain ⟨h1,o,ho,hed⟩:=mem_ready.1 hj
  have hjs:=(Array.getElem?_eq_some_iff.1 ho).1
  obtain ⟨x,hxj,hk⟩:=hx j o ho
  have hy:L[j]?=some L[j]:=List.getElem?_eq_getElem (by omega)
  have hnS:¬ listed.getD j false=true:=by
   rw [Array.getD_eq_getD_getElem?] at h1 ⊢
   rw [Array.getElem?_eq_getElem (by omega)] at h1 ⊢
   simpa using h1
  have hp:∀ e,es[j]?=some e→∀ i∈e,listed.getD i false=true:=fun e he i hi=>by
   rw [hes,edges_get ho] at he
   simp at he
   subst he
   obtain ⟨e',he',rfl⟩:=List.mem_map.1 hi
   obtain ⟨h3,h4⟩:=List.mem_filter.1 he'
   exact hed e' (by simpa using h3) h4
  have hst:=hs j x _ hxj hy
  have hb:=rel_before (S:=fun i=>listed.getD i false=true) F hc hrel hy hnS hp
  have hrun:=hst.2 cur (fun k hk=>hb k (.inl hk)) (fun hm k=>hb k (.inr hm))
  refine wpOp_mono ?_ (gop_ok (Q:=Q) h ho hk hrun)
  rintro a' w' ⟨g',st',⟨r1,r2⟩,h'⟩
  have hset:∀ i d,(listed.setIfInBounds j true).getD i d=if i=j then true else listed.getD i d:=fun i d=>by
   rw [Array.getD_eq_getD_getElem?,Array.getD_eq_getD_getElem?,Array.getElem?_setIfInBounds]
   by_cases e:i=j
   ·subst e; simp [show i < listed.size by omega]
   ·rw [if_neg (fun e'=>e e'.symm),if_neg e]
  refine ih (listed.setIfInBounds j true) (by simpa using hsz) ?_ (fun i e hi he k hk'=>?_) ?_ h'
  ·have:=tot_upd (f:=fun i=>if listed.getD i true then 0 else 1) (f':=fun i=>if (listed.setIfInBounds j true).getD i true then 0 else 1) (k:=j) (n:=ops.size) hjs (fun i hi=>by simp only [hset,if_neg hi])
   simp only [hset,if_true,h1] at this
   rw [ht] at this
   simp only [hset]
   simp at this ⊢
   omega
  ·rw [hset] at hi ⊢
   split
   ·rfl
   ·split at hi
    ·rename_i e'; subst e'; exact hp e he k hk'
    ·exact hc i e hi he k hk'
  ·have:=rel_after (S:=fun i=>listed.getD i false=true) F hc hrel hy hnS r1 r2
   have e:(fun i=>(listed.setIfInBounds j true).getD i false=true)=(fun i=>listed.getD i false=true∨i=j):=by
    funext i
    simp only [hset]
    by_cases e:i=j
    ·simp [e]
    ·simp [e]
   rw [e]
   exact this
theorem x_draw {id:Nat} {st:St} {Q:Ex→St→Prop} {xs:List GOp} {es:List (List Nat)} (hm:P.follows .mixedOrders=true) (hr:regL P n ops ops.toList xs=true) (hes:edgesOf ops=es)
  (hp:runDraw (Tells P X.KP) xs st [] (fun st' l=>drawOk es l=true∧Q .nrm st')):xC P X n (.region id ops true) st Q:=fun g a w hs=>by
 obtain ⟨h1,h2⟩:=regL_get hr
 obtain ⟨sts,L,e0,el,⟨hd,hq⟩,hst⟩:=draw_seq xs st [] hp
 rw [List.nil_append] at hd
 have hlen:L.length=ops.size:=by rw [el,← h1]; simp
 have hkeep:∀ (i:Nat) (y:Log),L[i]?=some y→∀ k,k∉y.2→Agree (sts i) (sts (i + 1)) k:=fun i y hy=>by
  have hi:=(List.getElem?_eq_some_iff.1 hy).1
  exact (hst i xs[i] y (List.getElem?_eq_getElem (by omega)) hy).1
 have F:=drawOk_spec hd hkeep
 refine wp_region_any hm ?_
 refine draw_any (X:=X) (n:=n) (xs:=xs) hes.symm F hlen (fun i o ho=>h2 i o (by rw [Array.getElem?_toList]; exact ho)) hst (fun g a w h=>⟨.nrm,g,_,trivial,by rw [← el] at hq; exact hq,h⟩) ops.size (Array.replicate ops.size false) (cur:=st) (by simp) ?_ ?_ ?_ (hs.quiet (w':={ w with drawn:=w.drawn + 1 }) ⟨rfl,rfl,rfl,Nat.le_refl _,fun _ _ _=>rfl⟩)
 ·have:∀ m,m≤ops.size→tot (fun i=>if (Array.replicate ops.size false).getD i true then 0 else 1) m=m:=by
   intro m
   induction m with
   | zero=>intro _; rfl
   | succ m ih =>
    intro hm
    have e:(Array.replicate ops.size false).getD m true=false:=by
     rw [Array.getD_eq_getD_getElem?,Array.getElem?_replicate,if_pos (by omega)]; rfl
    simp only [tot,ih (by omega),e]
    simp
  exact this _ (Nat.le_refl _)
 ·intro j e hj
  rw [Array.getD_eq_getD_getElem?,Array.getElem?_replicate] at hj
  split at hj <;> simp at hj
 ·intro k
  refine .inr ⟨fun i y hi=>?_,by rw [e0]; exact Agree.refl _ _⟩
  simp only [Array.getD_eq_getD_getElem?,Array.getElem?_replicate] at hi
  split at hi <;> simp at hi
end
end Go.X

namespace Go.X
def renC (f:Nat→Nat):Cel→Cel
 | .rf r c p z off len=>.rf (f r) c p z off len
 | c=>c
mutual
def renV (f:Nat→Nat):SV→SV
 | .one c=>.one (renC f c)
 | .agg cs=>.agg (cs.map (renC f))
 | .tup vs=>.tup (renVs f vs)
 | .ap r c p z i j=>.ap (f r) c p z i j
 | v=>v
def renVs (f:Nat→Nat):List SV→List SV
 | []=>[]
 | v::vs=>renV f v::renVs f vs
end
def refC:Cel→List Nat
 | .rf r _ _ _ _ _=>[r]
 | _=>[]
mutual
def refV:SV→List Nat
 | .one c=>refC c
 | .agg cs=>cs.flatMap refC
 | .tup vs=>refVs vs
 | .ap r _ _ _ _ _=>[r]
 | _=>[]
def refVs:List SV→List Nat
 | []=>[]
 | v::vs=>refV v++refVs vs
end
mutual
def boxV:SV→List Nat
 | .bp b _=>[b]
 | .fn _ b _=>[b]
 | .tup vs=>boxVs vs
 | _=>[]
def boxVs:List SV→List Nat
 | []=>[]
 | v::vs=>boxV v++boxVs vs
end
def pickS (s:List (Nat×SV)):List Nat→List (Nat×SV)
 | []=>[]
 | k::ks=>match get s k with
  | some v=>(k,v)::pickS s ks
  | none=>pickS s ks
def olds (na:Nat):List Nat→List Nat→List Nat
 | acc,[]=>acc
 | acc,r::rs=>bif decide (r < na)||acc.contains r then olds na acc rs else olds na (acc++[r]) rs
def idx (r:Nat):List Nat→Nat→Option Nat
 | [],_=>none
 | x::xs,i=>bif x==r then some i else idx r xs (i + 1)
def renR (na base:Nat) (os:List Nat) (r:Nat):Nat:=bif decide (r < na) then r else match idx r os base with | some i=>i | none=>r
def argR (r:List (Nat×List T)):Nat→Nat→List (Nat×List T)
 | 0,_=>[]
 | n + 1,i=>match get r i with
  | some ts=>(i,ts)::argR r n (i + 1)
  | none=>argR r n (i + 1)
def newR (r:List (Nat×List T)):List Nat→Nat→List (Nat×List T)
 | [],_=>[]
 | o::os,i=>match get r o with
  | some ts=>(i,ts)::newR r os (i + 1)
  | none=>newR r os (i + 1)
def keepB (na:Nat) (bs:List Nat):List (Nat×List Cel)→List (Nat×List Cel)
 | []=>[]
 | (b,cs)::l=>bif decide (b < na)||bs.contains b then (b,cs)::keepB na bs l else keepB na bs l
def normWith (na base:Nat) (st:St) (s:List (Nat×SV)) (b:List (Nat×List Cel)) (os:List Nat):St :=
 ⟨s.map fun x=>(x.1,renV (renR na base os) x.2),b.map fun x=>(x.1,x.2.map (renC (renR na base os))),argR st.r na 0++newR st.r os base⟩
def normB (na base:Nat) (st:St) (s:List (Nat×SV)) (b:List (Nat×List Cel)):St :=
 normWith na base st s b (olds na [] (s.flatMap (fun x=>refV x.2)++b.flatMap fun x=>x.2.flatMap refC))
def normS (na base:Nat) (st:St) (s:List (Nat×SV)):St:=normB na base st s (keepB na (s.flatMap fun x=>boxV x.2) st.b)
def norm (na base:Nat) (ks:List Nat) (st:St):St:=normS na base st (pickS st.s ks)
theorem get_cons {α:Type} (j:Nat) (v:α) (l:List (Nat×α)) (k:Nat):get ((j,v)::l) k=if j=k then some v else get l k:=by
 simp only [get]
 by_cases h:j=k
 ·rw [if_pos h,show (j==k)=true by simpa using h]; rfl
 ·rw [if_neg h,show (j==k)=false by simpa using h]; rfl
theorem get_map {α β:Type} (f:α→β) (k:Nat):∀ l:List (Nat×α),get (l.map fun x=>(x.1,f x.2)) k=(get l k).map f
 | []=>rfl
 | (j,v)::l=>by
  simp only [List.map_cons,get_cons,get_map f k l]
  split <;> rfl
theorem get_app {α:Type} (l l':List (Nat×α)) (k:Nat):get (l++l') k=(get l k).or (get l' k):=by
 induction l with
 | nil=>simp [get]
 | cons x l ih =>
  obtain ⟨j,v⟩:=x
  simp only [List.cons_append,get_cons,ih]
  split <;> rfl
theorem get_mem {α:Type} {l:List (Nat×α)} {k:Nat} {v:α} (h:get l k=some v):(k,v)∈l:=by
 induction l with
 | nil=>simp [get] at h
 | cons x l ih =>
  obtain ⟨j,u⟩:=x
  rw [get_cons] at h
  split at h
  ·rename_i e; simp at h; subst e; subst h; exact List.mem_cons_self ..
  ·exact List.mem_cons_of_mem _ (ih h)
theorem get_pickS {s:List (Nat×SV)} {k:Nat} {v:SV}:∀ {ks:List Nat},get (pickS s ks) k=some v→get s k=some v
 | [],h=>by simp [pickS,get] at h
 | j::ks,h=>by
  simp only [pickS] at h
  cases hj:get s j with
  | none=>simp only [hj] at h; exact get_pickS h
  | some u =>
   simp only [hj,get_cons] at h
   split at h
   ·rename_i e; subst e; rw [hj]; exact h
   ·exact get_pickS h
theorem get_argR (r:List (Nat×List T)) (k:Nat):∀ n i,get (argR r n i) k=if i≤k∧k < i + n then get r k else none
 | 0,i=>by simp [argR,get]; omega
 | n + 1,i=>by
  simp only [argR]
  cases hi:get r i with
  | none =>
   simp only [get_argR r k n (i + 1)]
   by_cases e:k=i
   ·subst e; simp [hi]
   ·by_cases h:i + 1≤k∧k < i + 1 + n
    ·rw [if_pos h,if_pos (by omega)]
    ·rw [if_neg h,if_neg (by omega)]
  | some ts =>
   simp only [get_cons,get_argR r k n (i + 1)]
   by_cases e:i=k
   ·subst e; simp [hi]
   ·rw [if_neg e]
    by_cases h:i + 1≤k∧k < i + 1 + n
    ·rw [if_pos h,if_pos (by omega)]
    ·rw [if_neg h,if_neg (by omega)]
theorem get_newR (r:List (Nat×List T)) (k:Nat):∀ (os:List Nat) (i:Nat),get (newR r os i) k=if i≤k then (os[k - i]?).bind (get r) else none
 | [],i=>by simp [newR,get]
 | o::os,i=>by
  have e0:∀ x,(if i + 1≤k then (os[k - (i + 1)]?).bind (get r) else none)=x→i≠k→x=if i≤k then ((o::os)[k - i]?).bind (get r) else none:=fun x hx hik=>by
   subst hx
   by_cases h:i + 1≤k
   ·rw [if_pos h,if_pos (by omega),show k - i=(k - (i + 1)) + 1 by omega]; rfl
   ·rw [if_neg h,if_neg (by omega)]
  simp only [newR]
  cases ho:get r o with
  | none =>
   simp only [get_newR r k os (i + 1)]
   by_cases e:i=k
   ·subst e; simp [ho]; omega
   ·exact e0 _ rfl e
  | some ts =>
   simp only [get_cons,get_newR r k os (i + 1)]
   by_cases e:i=k
   ·subst e; simp [ho]
   ·rw [if_neg e]; exact e0 _ rfl e
theorem olds_spec (na:Nat):∀ (rs acc:List Nat),acc.Nodup→(∀ x∈acc,na≤x)→(olds na acc rs).Nodup∧(∀ x∈olds na acc rs,na≤x)∧(∀ x∈acc,x∈olds na acc rs)∧∀ x∈rs,x < na∨x∈olds na acc rs
 | [],acc,h1,h2=>⟨h1,h2,fun _ h=>h,fun x h=>by cases h⟩
 | r::rs,acc,h1,h2=>by
  simp only [olds]
  by_cases h:r < na∨r∈acc
  ·rw [show (decide (r < na)||acc.contains r)=true by simpa using h]
   obtain ⟨q1,q2,q3,q4⟩:=olds_spec na rs acc h1 h2
   refine ⟨q1,q2,q3,fun x hx=>?_⟩
   rcases List.mem_cons.1 hx with rfl | hx
   ·exact h.imp id (q3 _)
   ·exact q4 x hx
  ·rw [show (decide (r < na)||acc.contains r)=false by simpa using h]
   obtain ⟨q1,q2,q3,q4⟩:=olds_spec na rs (acc++[r]) (by
    rw [List.nodup_append]
    exact ⟨h1,by simp,fun x hx y hy=>by simp at hy; subst hy; exact fun e=>h (.inr (e ▸ hx))⟩) (fun x hx=>by
    rcases List.mem_append.1 hx with hx | hx
    ·exact h2 x hx
    ·simp at hx; subst hx; omega)
   refine ⟨q1,q2,fun x hx=>q3 x (List.mem_append_left _ hx),fun x hx=>?_⟩
   rcases List.mem_cons.1 hx with rfl | hx
   ·exact .inr (q3 _ (by simp))
   ·exact q4 x hx
theorem idx_spec {r:Nat}:∀ {os:List Nat} (i:Nat),r∈os→∃ j,idx r os i=some (i + j)∧os[j]?=some r
 | [],_,h=>by cases h
 | x::xs,i,h=>by
  simp only [idx]
  by_cases e:x=r
  ·subst e; exact ⟨0,by simp,rfl⟩
  ·rw [show (x==r)=false by simpa using e]
   obtain ⟨j,h1,h2⟩:=idx_spec (i + 1) ((List.mem_cons.1 h).resolve_left (fun e'=>e e'.symm))
   exact ⟨j + 1,by simp [h1]; omega,by simpa using h2⟩
theorem get_keepB {na:Nat} {bs:List Nat} {k:Nat}:∀ {l:List (Nat×List Cel)},get (keepB na bs l) k=if k < na∨k∈bs then get l k else none
 | []=>by simp [keepB,get]
 | (b,cs)::l=>by
  simp only [keepB]
  by_cases h:b < na∨b∈bs
  ·rw [show (decide (b < na)||bs.contains b)=true by simpa using h]
   simp only [cond_true,get_cons,get_keepB (l:=l)]
   by_cases e:b=k
   ·subst e; simp [h]
   ·simp [e]
  ·rw [show (decide (b < na)||bs.contains b)=false by simpa using h]
   simp only [cond_false,get_cons,get_keepB (l:=l)]
   by_cases e:b=k
   ·subst e; simp [h]
   ·simp [e]
section
variable {X:Ctx} {n:Nat} {g g':Gh} {st:St} {a:Act} {w:World} {S:Nat→Prop}
theorem CelOK.ren {f:Nat→Nat} {c:Cel} {v:Value} (hr:∀ r∈refC c,g'.gr (f r)=g.gr r) (h:CelOK S g w c v):CelOK S g' w (renC f c) v:=by
 cases c with
 | rf r c p z off len =>
  have e:=hr r (by simp [refC])
  obtain ⟨h1,h2,h3⟩:=h
  refine ⟨h1,by rw [e]; exact h2,fun m hm hh=>h3 m ?_ hh⟩
  simp only [nodeAt,e] at hm
  exact hm
 | _=>exact h
theorem CelsOK.ren {f:Nat→Nat} {cs:List Cel} {us:List Value} (hr:∀ r∈cs.flatMap refC,g'.gr (f r)=g.gr r) (h:CelsOK S g w cs us):CelsOK S g' w (cs.map (renC f)) us :=
 ⟨by simpa using h.1,fun k c u hc hu=>by
  rw [List.getElem?_map] at hc
  cases hk:cs[k]? with
  | none=>simp [hk] at hc
  | some c0 =>
   simp [hk] at hc
   subst hc
   exact (h.2 k c0 u hk hu).ren (fun r hr'=>hr r (List.mem_flatMap.2 ⟨c0,List.mem_of_getElem? hk,hr'⟩))⟩
mutual
theorem SlotOK.ren {f:Nat→Nat}:∀ (v:SV) (u:Value),(∀ r∈refV v,g'.gr (f r)=g.gr r)→(∀ b∈boxV v,g'.gb b=g.gb b)→SlotOK S g w v u→SlotOK S g' w (renV f v) u
 | .un,_,_,_,h=>by simp [renV,SlotOK]
 | .one c,u,hr,_,h=>by
  simp only [renV,SlotOK] at h ⊢
  exact h.ren (by simpa [refV] using hr)
 | .agg cs,u,hr,_,h=>by
  simp only [renV,SlotOK] at h ⊢
  obtain ⟨us,e,h⟩:=h
  exact ⟨us,e,h.ren (by simpa only [refV] using hr)⟩
 | .tup vs,u,hr,hb,h=>by
  simp only [renV,SlotOK] at h ⊢
  obtain ⟨us,e,h⟩:=h
  exact ⟨us,e,SlotsOK.ren vs us (by simpa only [refV] using hr) (by simpa only [boxV] using hb) h⟩
 | .bp b off,u,_,hb,h=>by
  simp only [renV,SlotOK] at h ⊢
  rw [hb b (by simp [boxV])]
  exact h
 | .fn f' b off,u,_,hb,h=>by
  simp only [renV,SlotOK] at h ⊢
  rw [hb b (by simp [boxV])]
  exact h
 | .ap r c p z i j,u,hr,_,h=>by
  simp only [renV,SlotOK] at h ⊢
  have e:=hr r (by simp [refV])
  obtain ⟨h1,h2,h3⟩:=h
  refine ⟨h1,by rw [e]; exact h2,fun m hm hh=>h3 m ?_ hh⟩
  simp only [nodeAt,e] at hm
  exact hm
 | .rp ts,u,_,_,h=>by simpa only [renV,SlotOK] using h
theorem SlotsOK.ren {f:Nat→Nat}:∀ (vs:List SV) (us:List Value),(∀ r∈refVs vs,g'.gr (f r)=g.gr r)→(∀ b∈boxVs vs,g'.gb b=g.gb b)→SlotsOK S g w vs us→SlotsOK S g' w (renVs f vs) us
 | [],[],_,_,_=>by simp [renVs,SlotsOK]
 | v::vs,u::us,hr,hb,h=>by
  simp only [renVs,SlotsOK] at h ⊢
  simp only [refVs,boxVs,List.mem_append] at hr hb
  exact ⟨SlotOK.ren v u (fun r h=>hr r (.inl h)) (fun b h=>hb b (.inl h)) h.1,SlotsOK.ren vs us (fun r h=>hr r (.inr h)) (fun b h=>hb b (.inr h)) h.2⟩
 | [],_::_,_,_,h=>by simp [SlotsOK] at h
 | _::_,[],_,_,h=>by simp [SlotsOK] at h
end
theorem tot_inj:∀ {N':Nat} {f f':Nat→Nat} {N:Nat} (σ:Nat→Nat),(∀ k,k < N'→f' k≠0→σ k < N∧f' k≤f (σ k))→(∀ j k,j < N'→k < N'→f' j≠0→f' k≠0→σ j=σ k→j=k)→tot f' N'≤tot f N
 | 0,f,f',N,_,_,_=>by simp [tot]
 | M + 1,f,f',N,σ,h1,h2=>by
  simp only [tot]
  by_cases h0:f' M=0
  ·have:=tot_inj (N':=M) (f:=f) (f':=f') (N:=N) σ (fun k hk=>h1 k (by omega)) (fun j k hj hk=>h2 j k (by omega) (by omega))
   omega
  ·obtain ⟨q1,q2⟩:=h1 M (by omega) h0
   have e1:=tot_upd (f:=f) (f':=fun j=>if j=σ M then 0 else f j) (k:=σ M) q1 (fun j hj=>if_neg hj)
   have e2:=tot_inj (N':=M) (f:=fun j=>if j=σ M then 0 else f j) (f':=f') (N:=N) σ (fun k hk hf=>by
    obtain ⟨a1,a2⟩:=h1 k (by omega) hf
    refine ⟨a1,?_⟩
    rw [if_neg (fun e=>by have:=h2 k M (by omega) (by omega) hf h0 e; omega)]
    exact a2) (fun j k hj hk=>h2 j k (by omega) (by omega))
   simp only [if_true] at e1
   omega
theorem tot_add (f f':Nat→Nat):∀ N,tot (fun k=>f k + f' k) N=tot f N + tot f' N
 | 0=>rfl
 | N + 1=>by simp only [tot,tot_add f f' N]; omega
theorem nodup_inj {os:List Nat} (h:os.Nodup) {i j x:Nat} (hi:os[i]?=some x) (hj:os[j]?=some x):i=j:=by
 induction os generalizing i j with
 | nil=>simp at hi
 | cons y ys ih =>
  simp only [List.nodup_cons] at h
  cases i with
  | zero =>
   cases j with
   | zero=>rfl
   | succ j =>
    simp at hi hj
    subst hi
    exact absurd (List.mem_of_getElem? hj) h.1
  | succ i =>
   cases j with
   | zero =>
    simp at hi hj
    subst hj
    exact absurd (List.mem_of_getElem? hi) h.1
   | succ j=>exact congrArg (· + 1) (ih h.2 (by simpa using hi) (by simpa using hj))
theorem normWith_ok {na base:Nat} {s:List (Nat×SV)} {b:List (Nat×List Cel)} {os:List Nat} (hX:NA X na) (hna:na≤base) (h:Sim X n g st [] a w) (hs:∀ k v,get s k=some v→get st.s k=some v) (hb:∀ k cs,get b k=some cs→get st.b k=some cs)
  (hba:∀ k,k < na→get b k=get st.b k) (hbs:∀ k v,get s k=some v→∀ j∈boxV v,get b j=get st.b j) (hos:os.Nodup) (hos2:∀ x∈os,na≤x) (hrs:∀ k v,get s k=some v→∀ r∈refV v,r < na∨r∈os)
  (hrb:∀ k cs,get b k=some cs→∀ r∈cs.flatMap refC,r < na∨r∈os):∃ g',Sim X n g' (normWith na base st s b os) [] a w:=by
 let g':Gh:=⟨fun k=>if (get b k).isSome then g.gb k else none,fun k=>if k < na then g.gr k else if base≤k then (os[k - base]?).bind g.gr else none⟩
 have hren:∀ r,r < na∨r∈os→g'.gr (renR na base os r)=g.gr r:=fun r hr=>by
  unfold renR
  by_cases h0:r < na
  ·rw [show decide (r < na)=true by simpa using h0]
   exact if_pos h0
  ·rw [show decide (r < na)=false by simpa using h0]
   obtain ⟨j,e1,e2⟩:=idx_spec base (hr.resolve_left h0)
   rw [e1]
   have e3:g'.gr (base + j)=g.gr r:=by
    show (if base + j < na then g.gr (base + j) else if base≤base + j then (os[base + j - base]?).bind g.gr else none)=_
    rw [if_neg (by omega),if_pos (by omega),show base + j - base=j by omega,e2]
    rfl
   exact e3
 have hgb:∀ k v,get s k=some v→∀ j∈boxV v,g'.gb j=g.gb j:=fun k v hk j hj=>by
  show (if (get b j).isSome then g.gb j else none)=_
  cases hbj:get b j with
  | some _=>rfl
  | none=>rw [hbs k v hk j hj] at hbj; simp [h.nobox j hbj]
 have hr':∀ k,get (normWith na base st s b os).r k=if k < na then get st.r k else if base≤k then (os[k - base]?).bind (get st.r) else none:=fun k=>by
  simp only [normWith,get_app,get_argR,get_newR]
  by_cases h0:k < na
  ·rw [if_pos (by omega),if_pos h0,if_neg (by omega)]
   cases get st.r k <;> rfl
  ·rw [if_neg (by omega),if_neg h0]; rfl
 have hgr:∀ k,g'.gr k=if k < na then g.gr k else if base≤k then (os[k - base]?).bind g.gr else none:=fun k=>rfl
 have hfrom:∀ k gs,g'.gr k=some gs→∃ k',g.gr k'=some gs:=fun k gs hk=>by
  rw [hgr] at hk
  split at hk
  ·exact ⟨k,hk⟩
  ·split at hk
   ·cases ho:os[k - base]? with
    | none=>simp [ho] at hk
    | some o=>simp [ho] at hk; exact ⟨o,hk⟩
   ·cases hk
 refine ⟨g',{ frame:=h.frame,defers:=h.defers,tmps:=h.tmps,slots:=fun t v ht=>?_,boxes:=fun k cs hk=>?_,nobox:=fun k hk=>?_,roots:=fun r ts hr=>?_,noroot:=fun r hr=>?_,reps:=fun r gs hg=>?_,held:=fun t ht=>(by cases ht),sole:=?_,pb:=fun i A hi=>?_,hold:=fun i hs hi=>?_,mine:=fun b k hb=>?_ }⟩
 ·simp only [normWith,get_map,Option.map_eq_some_iff] at ht
  obtain ⟨v0,hv0,rfl⟩:=ht
  exact SlotOK.ren v0 _ (fun r hr=>hren r (hrs t v0 hv0 r hr)) (fun j hj=>hgb t v0 hv0 j hj) (h.slots t v0 (hs t v0 hv0))
 ·simp only [normWith,get_map,Option.map_eq_some_iff] at hk
  obtain ⟨cs0,hc0,rfl⟩:=hk
  obtain ⟨A,us,e1,e2,e3,e4,e5⟩:=h.boxes k cs0 (hb k cs0 hc0)
  refine ⟨A,us,?_,e2,e3,e4.ren (fun r hr=>hren r (hrb k cs0 hc0 r hr)),?_⟩
  ·show (if (get b k).isSome then g.gb k else none)=_
   rw [hc0]
   exact e1
  ·rcases e5 with e5 | ⟨e5,x,e6,e7,e8,e9⟩
   ·exact .inl e5
   ·exact .inr ⟨e5,x,e6,e7,e8,by simpa using e9⟩
 ·simp only [normWith,get_map,Option.map_eq_none_iff] at hk
  show (if (get b k).isSome then g.gb k else none)=_
  rw [hk]
  rfl
 ·rw [hr'] at hr
  rw [hgr]
  split at hr
  ·rename_i h0; rw [if_pos h0]; exact h.roots r ts hr
  ·rename_i h0
   rw [if_neg h0]
   split at hr
   ·rename_i h1
    rw [if_pos h1]
    cases ho:os[r - base]? with
    | none=>simp [ho] at hr
    | some o=>simp [ho] at hr ⊢; exact h.roots o ts hr
   ·cases hr
 ·rw [hr'] at hr
  rw [hgr]
  split at hr
  ·rename_i h0; rw [if_pos h0]; exact h.noroot r hr
  ·rename_i h0
   rw [if_neg h0]
   split at hr
   ·rename_i h1
    rw [if_pos h1]
    cases ho:os[r - base]? with
    | none=>rfl
    | some o=>simp [ho] at hr ⊢; exact h.noroot o hr
   ·rename_i h1; rw [if_neg h1]
 ·obtain ⟨k',hk'⟩:=hfrom r gs hg
  exact h.reps k' gs hk'
 ·obtain ⟨N,q1,q2⟩:=h.sole
  have hzb:∀ k,N≤k→g'.gb k=none:=fun k hk=>by
   show (if (get b k).isSome then g.gb k else none)=_
   rw [(q1 k hk).1]; simp
  refine ⟨N + na + base + os.length,fun k hk=>⟨hzb k (by omega),?_⟩,fun b'=>?_⟩
  ·rw [hgr,if_neg (by omega),if_pos (by omega),List.getElem?_eq_none (by omega)]
   rfl
  ·have e1:g'.has b'=fun k=>bcnt b' (g'.gb k) + rcnt b' (g'.gr k):=rfl
   have e2:g.has b'=fun k=>bcnt b' (g.gb k) + rcnt b' (g.gr k):=rfl
   have h3:=q2 b'
   rw [e1,tot_add]
   rw [e2,tot_add] at h3
   have t1:tot (fun k=>bcnt b' (g'.gb k)) (N + na + base + os.length)≤tot (fun k=>bcnt b' (g.gb k)) N:=tot_inj id (fun k _ hk=>by
    have hle:bcnt b' (g'.gb k)≤bcnt b' (g.gb k):=by
     show bcnt b' (if (get b k).isSome then g.gb k else none)≤_
     split
     ·exact Nat.le_refl _
     ·simp [bcnt]
    refine ⟨?_,hle⟩
    by_cases hkN:k < N
    ·exact hkN
    ·rw [hzb k (by omega)] at hk; simp [bcnt] at hk) (fun j k _ _ _ _ e=>e)
   have t2:tot (fun k=>rcnt b' (g'.gr k)) (N + na + base + os.length)≤tot (fun k=>rcnt b' (g.gr k)) N:=tot_inj (fun k=>if k < na then k else os.getD (k - base) 0) (fun k _ hk=>by
    simp only [hgr] at hk ⊢
    by_cases h0:k < na
    ·simp only [if_pos h0] at hk ⊢
     refine ⟨?_,Nat.le_refl _⟩
     by_cases hkN:k < N
     ·exact hkN
     ·rw [(q1 k (by omega)).2] at hk; simp [rcnt] at hk
    ·simp only [if_neg h0] at hk ⊢
     by_cases h1:base≤k
     ·simp only [if_pos h1] at hk ⊢
      cases ho:os[k - base]? with
      | none=>simp [ho,rcnt] at hk
      | some o =>
       simp only [ho,Option.bind_some,List.getD_eq_getElem?_getD,Option.getD_some] at hk ⊢
       refine ⟨?_,Nat.le_refl _⟩
       by_cases hkN:o < N
       ·exact hkN
       ·rw [(q1 o (by omega)).2] at hk; simp [rcnt] at hk
     ·simp [if_neg h1,rcnt] at hk) (fun j k _ _ hj hk e=>by
    have key:∀ k,rcnt b' (g'.gr k)≠0→¬ k < na→∃ o,os[k - base]?=some o∧base≤k:=fun k hk h0=>by
     simp only [hgr,if_neg h0] at hk
     by_cases h1:base≤k
     ·simp only [if_pos h1] at hk
      cases ho:os[k - base]? with
      | none=>simp [ho,rcnt] at hk
      | some o=>exact ⟨o,rfl,h1⟩
     ·simp [if_neg h1,rcnt] at hk
    by_cases hjn:j < na
    ·by_cases hkn:k < na
     ·simpa [hjn,hkn] using e
     ·obtain ⟨o,ho,_⟩:=key k hk hkn
      rw [if_pos hjn,if_neg hkn,List.getD_eq_getElem?_getD,ho] at e
      have:=hos2 o (List.mem_of_getElem? ho)
      simp at e
      omega
    ·obtain ⟨o,ho,hj'⟩:=key j hj hjn
     by_cases hkn:k < na
     ·rw [if_neg hjn,if_pos hkn,List.getD_eq_getElem?_getD,ho] at e
      have:=hos2 o (List.mem_of_getElem? ho)
      simp at e
      omega
     ·obtain ⟨o',ho',hk'⟩:=key k hk hkn
      rw [if_neg hjn,if_neg hkn,List.getD_eq_getElem?_getD,List.getD_eq_getElem?_getD,ho,ho'] at e
      simp at e
      subst e
      have:=nodup_inj hos ho ho'
      omega)
   simp only [cntL] at h3 ⊢
   omega
 ·by_cases hi':na≤i
  ·rw [(hX i hi').2] at hi; cases hi
  ·have:=h.pb i A hi
   show (if (get b i).isSome then g.gb i else none)=_
   rw [hba i (by omega)]
   cases hbi:get st.b i with
   | none=>rw [h.nobox i hbi] at this; cases this
   | some _=>exact this
 ·by_cases hi':na≤i
  ·rw [(hX i hi').1] at hi; cases hi
  ·rw [hgr,if_pos (by omega)]
   exact h.hold i hs hi
 ·cases hk:g'.gr k with
  | none=>simp [hk,rcnt,cntL] at hb
  | some gs =>
   obtain ⟨k',hk'⟩:=hfrom k gs hk
   exact h.mine b k' (by rw [hk'] ; rw [hk] at hb; exact hb)
theorem norm_ok {na base:Nat} (ks:List Nat) (hX:NA X na) (hna:na≤base) (h:Sim X n g st [] a w):∃ g',Sim X n g' (norm na base ks st) [] a w:=by
 have hmem:∀ {l:List (Nat×SV)} {k:Nat} {v:SV},get l k=some v→(k,v)∈l:=get_mem
 obtain ⟨o1,o2,_,o4⟩:=olds_spec na ((pickS st.s ks).flatMap (fun x=>refV x.2)++(keepB na ((pickS st.s ks).flatMap fun x=>boxV x.2) st.b).flatMap fun x=>x.2.flatMap refC) [] List.nodup_nil (fun x hx=>by cases hx)
 refine normWith_ok hX hna h (fun k v hk=>get_pickS hk) (fun k cs hk=>?_) (fun k hk=>?_) (fun k v hk j hj=>?_) o1 o2 (fun k v hk r hr=>?_) (fun k cs hk r hr=>?_)
 ·rw [get_keepB] at hk
  split at hk
  ·exact hk
  ·cases hk
 ·rw [get_keepB,if_pos (.inl hk)]
 ·rw [get_keepB,if_pos (.inr (List.mem_flatMap.2 ⟨(k,v),get_mem hk,hj⟩))]
 ·exact o4 r (List.mem_append_left _ (List.mem_flatMap.2 ⟨(k,v),get_mem hk,hr⟩))
 ·exact o4 r (List.mem_append_right _ (List.mem_flatMap.2 ⟨(k,cs),get_mem hk,hr⟩))
end
end Go.X

namespace Go.X
section
variable {S S':Nat→Prop} {g:Gh} {w:World}
theorem CelOK.mono (hs:∀ b,S b→S' b) {c:Cel} {v:Value} (h:CelOK S g w c v):CelOK S' g w c v:=by
 cases c with
 | ro z rows=>exact Rd.move h hs (fun _ _=>rfl)
 | _=>exact h
theorem CelsOK.mono (hs:∀ b,S b→S' b) {cs:List Cel} {us:List Value} (h:CelsOK S g w cs us):CelsOK S' g w cs us:=⟨h.1,fun k c u h1 h2=>(h.2 k c u h1 h2).mono hs⟩
mutual
theorem SlotOK.mono (hs:∀ b,S b→S' b):∀ (v:SV) (u:Value),SlotOK S g w v u→SlotOK S' g w v u
 | .un,u,_=>by simp [SlotOK]
 | .one c,u,h=>by simp only [SlotOK] at h ⊢; exact h.mono hs
 | .agg cs,u,h=>by
  simp only [SlotOK] at h ⊢
  obtain ⟨us,h1,h2⟩:=h
  exact ⟨us,h1,h2.mono hs⟩
 | .tup vs,u,h=>by
  simp only [SlotOK] at h ⊢
  obtain ⟨us,h1,h2⟩:=h
  exact ⟨us,h1,SlotsOK.mono hs vs us h2⟩
 | .bp b off,u,h=>by simp only [SlotOK] at h ⊢; exact h
 | .fn f b off,u,h=>by simp only [SlotOK] at h ⊢; exact h
 | .ap r c p z i j,u,h=>by simp only [SlotOK] at h ⊢; exact h
 | .rp ts,u,h=>by
  simp only [SlotOK] at h ⊢
  obtain ⟨ad,h1,h2⟩:=h
  refine ⟨ad,h1,fun j t ht=>?_⟩
  obtain ⟨h3,x,h4,h5⟩:=h2 j t ht
  exact ⟨hs _ h3,x,h4,h5.move hs (fun _ _=>rfl)⟩
theorem SlotsOK.mono (hs:∀ b,S b→S' b):∀ (vs:List SV) (us:List Value),SlotsOK S g w vs us→SlotsOK S' g w vs us
 | [],[],_=>by simp [SlotsOK]
 | v::vs,u::us,h=>by
  simp only [SlotsOK] at h ⊢
  exact ⟨SlotOK.mono hs v u h.1,SlotsOK.mono hs vs us h.2⟩
 | [],_::_,h=>by simp [SlotsOK] at h
 | _::_,[],h=>by simp [SlotsOK] at h
end
def NoCells (w:World) (r:Nat):Prop:=∀ ad:Addr,ad.block=r→w.cell? ad=none
variable {r:Nat}
theorem Rd.narrow (hr:NoCells w r) {t:T} {v:Value} (h:Rd (fun b=>S b∨b=r) w t v):Rd S w t v:=by
 induction h with
 | pv h=>exact .pv h
 | sl u h1 h2 h3 h4 h5 ih =>
  refine .sl u h1 h2 h3 (fun i r' j t hr' ht=>?_) (fun i r' j t hr' ht=>ih i r' j t hr' ht)
  obtain ⟨ad,ha,hS,hc⟩:=h4 i r' j t hr' ht
  refine ⟨ad,ha,?_,hc⟩
  rcases hS with hS | hS
  ·exact hS
  ·rw [hr _ (by rw [add_block]; exact hS)] at hc; cases hc
theorem Rp.narrow (hr:NoCells w r) {t:G} (h:Rp (fun b=>S b∨b=r) w t):Rp S w t:=by
 induction h with
 | pv h=>exact .pv h
 | no h=>exact .no h
 | ro h=>exact .ro (h.narrow hr)
 | nil=>exact .nil
 | own hg h1 h2 h3 h4 h5 h6 h7 ih=>exact .own hg h1 h2 h3 h4 h5 h6 ih
theorem CelOK.narrow (hr:NoCells w r) {c:Cel} {v:Value} (h:CelOK (fun b=>S b∨b=r) g w c v):CelOK S g w c v:=by
 cases c with
 | ro z rows=>exact Rd.narrow hr h
 | _=>exact h
theorem CelsOK.narrow (hr:NoCells w r) {cs:List Cel} {us:List Value} (h:CelsOK (fun b=>S b∨b=r) g w cs us):CelsOK S g w cs us:=⟨h.1,fun k c u h1 h2=>(h.2 k c u h1 h2).narrow hr⟩
mutual
theorem SlotOK.narrow (hr:NoCells w r):∀ (v:SV) (u:Value),SlotOK (fun b=>S b∨b=r) g w v u→SlotOK S g w v u
 | .un,u,_=>by simp [SlotOK]
 | .one c,u,h=>by simp only [SlotOK] at h ⊢; exact h.narrow hr
 | .agg cs,u,h=>by
  simp only [SlotOK] at h ⊢
  obtain ⟨us,h1,h2⟩:=h
  exact ⟨us,h1,h2.narrow hr⟩
 | .tup vs,u,h=>by
  simp only [SlotOK] at h ⊢
  obtain ⟨us,h1,h2⟩:=h
  exact ⟨us,h1,SlotsOK.narrow hr vs us h2⟩
 | .bp b off,u,h=>by simp only [SlotOK] at h ⊢; exact h
 | .fn f b off,u,h=>by simp only [SlotOK] at h ⊢; exact h
 | .ap r c p z i j,u,h=>by simp only [SlotOK] at h ⊢; exact h
 | .rp ts,u,h=>by
  simp only [SlotOK] at h ⊢
  obtain ⟨ad,h1,h2⟩:=h
  refine ⟨ad,h1,fun j t ht=>?_⟩
  obtain ⟨h3,x,h4,h5⟩:=h2 j t ht
  refine ⟨?_,x,h4,h5.narrow hr⟩
  rcases h3 with h3 | h3
  ·exact h3
  ·rw [hr _ (by rw [add_block]; exact h3)] at h4; cases h4
theorem SlotsOK.narrow (hr:NoCells w r):∀ (vs:List SV) (us:List Value),SlotsOK (fun b=>S b∨b=r) g w vs us→SlotsOK S g w vs us
 | [],[],_=>by simp [SlotsOK]
 | v::vs,u::us,h=>by
  simp only [SlotsOK] at h ⊢
  exact ⟨SlotOK.narrow hr v u h.1,SlotsOK.narrow hr vs us h.2⟩
 | [],_::_,h=>by simp [SlotsOK] at h
 | _::_,[],h=>by simp [SlotsOK] at h
end
end
section
variable {P:Program} {X:Ctx} {n:Nat} {g:Gh} {st:St} {hand:List G} {a:Act} {w w':World} {r:Nat}
theorem Sim.turn (h:Sim X n g st hand a w) (ho:w'.os=w.os) (ht:w'.tape=w.tape) (hou:w'.output=w.output) (hsz:w'.heap.size=w.heap.size) (hb:∀ b,b≠r→w'.heap[b]?=w.heap[b]?)
    (h0:X.w0.heap.size≤r) (hS:¬ X.S r) (hz:∀ k,g.has r k + cntL r hand=0):Sim X n g st hand a w':=by
  have hS':∀ b,X.S b→w'.heap[b]?=w.heap[b]?:=fun b hb'=>hb b (fun e=>hS (by rw [← e]; exact hb'))
  have hold:∀ b,b < X.w0.heap.size→w'.heap[b]?=w.heap[b]?:=fun b hb'=>hb b (by omega)
  refine { frame:=⟨ho.trans h.frame.os,ht.trans h.frame.tape,hou.trans h.frame.output,by rw [hsz]; exact h.frame.size,fun b hb' hF hR=>(hold b hb').trans (h.frame.block b hb' hF hR),fun x hx o hoo=>?_⟩,
           defers:=h.defers,tmps:=h.tmps,slots:=fun t v hv=>?_,boxes:=fun b cs hb'=>?_,nobox:=h.nobox,roots:=h.roots,noroot:=h.noroot,reps:=fun k gs hg t ht'=>?_,held:=fun t ht'=>?_,sole:=h.sole,pb:=h.pb,hold:=h.hold,mine:=h.mine }
  · have e:=hold x.1 (X.apart x hx).2
    rw [World.cell?_of_block (w:=w) (by exact e),World.frozen?_of_block (w:=w) (by exact e)]
    exact h.frame.range x hx o hoo
  · exact SlotOK.keep (Keeps.refl Never g) hS' v _ (never_slot v) (fun _ _ _ _ _ h=>h) (h.slots t v hv)
  · obtain ⟨A,vs,h1,h2,h3,h4,h5⟩:=h.boxes b cs hb'
    have hA:A.block≠r:=fun e=>by
      have:=hz b
      simp [Gh.has,h1,bcnt,e] at this
    exact ⟨A,vs,h1,by rw [hsz]; exact h2,h3.move (hb _ hA),h4.keep (Keeps.refl Never g) hS' (fun c _=>never_cel c),h5⟩
  · refine (h.reps k gs hg t ht').move (fun _ h=>h) hS' (fun b hb'=>hb b fun e=>?_)
    have h1:=cnt_mem b gs t ht'
    have h2:=hz k
    simp only [Gh.has,hg,rcnt] at h2
    subst e
    omega
  · refine (h.held t ht').move (fun _ h=>h) hS' (fun b hb'=>hb b fun e=>?_)
    have h1:=cnt_mem b hand t ht'
    have h2:=hz 0
    subst e
    omega
structure Aside (X:Ctx) (g:Gh) (w:World) (r:Nat):Prop where
 new:X.w0.heap.size≤r
 lt:r < w.heap.size
 ns:¬ X.S r
 nz:∀ k,g.has r k=0
def Ctx.here (X:Ctx) (g:Gh) (w:World) (r:Nat) (h:Sim X n g st [] a w) (hr:Aside X g w r):Ctx where
 KP:=X.KP
 w0:=w
 S:=fun b=>X.S b∨b=r
 F:=fun b=>(X.F b∧b≠r)∨∃ k,0 < rcnt b (g.gr k)
 R:=X.R
 laid:=kept_on h.frame fun b hb=>.inl hb
 stay:=fun b hb=>by
  have hown:∀ b k,0 < rcnt b (g.gr k)→¬ X.S b∧(X.w0.heap.size≤b∨X.F b):=fun b k h0=>h.mine b k (by omega)
  rcases hb with hb | rfl
  ·refine ⟨Nat.lt_of_lt_of_le (X.stay b hb).1 h.frame.size,?_,(X.stay b hb).2.2⟩
   rintro (⟨h1,_⟩ | ⟨k,h1⟩)
   ·exact (X.stay b hb).2.1 h1
   ·exact (hown b k h1).1 hb
  ·refine ⟨hr.lt,?_,fun x hx e=>?_⟩
   ·rintro (⟨_,h1⟩ | ⟨k,h1⟩)
    ·exact h1 rfl
    ·have:=hr.nz k
     simp only [Gh.has] at this
     omega
   ·have:=(X.apart x hx).2
    have:=hr.new
    omega
 apart:=fun x hx=>by
  refine ⟨?_,Nat.lt_of_lt_of_le (X.apart x hx).2 h.frame.size⟩
  rintro (⟨h1,_⟩ | ⟨k,h1⟩)
  ·exact (X.apart x hx).1 h1
  ·rcases (h.mine x.1 k (by omega)).2 with h2 | h2
   ·have:=(X.apart x hx).2; omega
   ·exact (X.apart x hx).1 h2
 uniq:=X.uniq
 H:=X.H
 isP:=X.isP
 PA:=X.PA
theorem Sim.here (h:Sim X n g st [] a w) (hr:Aside X g w r) (hb:∀ b,get st.b b=none):Sim (X.here g w r h hr) n g st [] a w where
 frame:=⟨rfl,rfl,rfl,Nat.le_refl _,fun _ _ _ _=>rfl,fun _ _ _ _=>⟨rfl,rfl⟩⟩
 defers:=h.defers
 tmps:=h.tmps
 slots:=fun t v hv=>SlotOK.mono (fun _ h=>.inl h) v _ (h.slots t v hv)
 boxes:=fun b cs e=>by rw [hb] at e; cases e
 nobox:=h.nobox
 roots:=h.roots
 noroot:=h.noroot
 reps:=fun k gs hg t ht=>(h.reps k gs hg t ht).move (fun _ h=>.inl h) (fun b hb=>rfl) (fun _ _=>rfl)
 held:=fun t ht=>by cases ht
 sole:=h.sole
 pb:=h.pb
 hold:=h.hold
 mine:=fun b k h0=>by
  have h1:0 < rcnt b (g.gr k):=by simpa [cntL] using h0
  refine ⟨?_,.inr (.inr ⟨k,h1⟩)⟩
  rintro (h2 | rfl)
  ·exact (h.mine b k h0).1 h2
  ·have:=hr.nz k
   simp only [Gh.has] at this
   omega
theorem Sim.there {g':Gh} {st':St} {a':Act} (h:Sim X n g st [] a w) (hr:Aside X g w r) (h':Sim (X.here g w r h hr) n g' st' [] a' w') (hc:NoCells w r) :
  w'.heap[r]?=w.heap[r]?∧Sim X n g' st' [] a' w'∧Aside X g' w' r:=by
 have hS:∀ b,(X.here g w r h hr).S b↔X.S b∨b=r:=fun _=>Iff.rfl
 have e1:w'.heap[r]?=w.heap[r]?:=h'.frame.block r hr.lt ((X.here g w r h hr).stay r (.inr rfl)).2.1 ((X.here g w r h hr).stay r (.inr rfl)).2.2
 have hc':NoCells w' r:=fun ad e=>by rw [World.cell?_of_block (w:=w) (by rw [e]; exact e1)]; exact hc ad e
 have hF:∀ b,b < X.w0.heap.size→¬ X.F b→¬ (X.here g w r h hr).F b:=fun b hb hF=>by
  rintro (⟨h1,_⟩ | ⟨k,h1⟩)
  ·exact hF h1
  ·rcases (h.mine b k (by omega)).2 with h2 | h2
   ·omega
   ·exact hF h2
 have fr:Frame X w':=⟨h'.frame.os.trans h.frame.os,h'.frame.tape.trans h.frame.tape,h'.frame.output.trans h.frame.output,Nat.le_trans h.frame.size h'.frame.size,fun b hb hF1 hR=>(h'.frame.block b (Nat.lt_of_lt_of_le hb h.frame.size) (hF b hb hF1) hR).trans (h.frame.block b hb hF1 hR),fun x hx o ho=>⟨(h'.frame.range x hx o ho).1.trans (h.frame.range x hx o ho).1,(h'.frame.range x hx o ho).2.trans (h.frame.range x hx o ho).2⟩⟩
 refine ⟨e1,⟨fr,h'.defers,h'.tmps,fun t v hv=>SlotOK.narrow hc' v _ (h'.slots t v hv),fun b cs hb=>?_,h'.nobox,h'.roots,h'.noroot,fun k gs hg t ht=>Rp.narrow hc' (h'.reps k gs hg t ht),fun t ht=>(by cases ht),h'.sole,h'.pb,h'.hold,fun b k h0=>?_⟩,⟨hr.new,Nat.lt_of_lt_of_le hr.lt h'.frame.size,hr.ns,fun k=>?_⟩⟩
 ·obtain ⟨A,us,h1,h2,h3,h4,h5⟩:=h'.boxes b cs hb
  refine ⟨A,us,h1,h2,h3,CelsOK.narrow hc' h4,?_⟩
  rcases h5 with h5 | h5
  ·exact .inl (Nat.le_trans h.frame.size h5)
  ·exact .inr h5
 ·obtain ⟨q1,q2⟩:=h'.mine b k h0
  refine ⟨fun hb=>q1 (.inl hb),?_⟩
  rcases q2 with q2 | ⟨q2,_⟩ | ⟨j,q2⟩
  ·exact .inl (Nat.le_trans h.frame.size q2)
  ·exact .inr q2
  ·exact (h.mine b j (by omega)).2
 ·simp only [Gh.has]
  have z1:rcnt r (g'.gr k)=0:=by
   by_cases h0:0 < rcnt r (g'.gr k)
   ·exact absurd (.inr rfl) (h'.mine r k (by omega)).1
   ·omega
  have z2:bcnt r (g'.gb k)=0:=by
   cases hb:get st'.b k with
   | none=>rw [h'.nobox k hb]; rfl
   | some cs =>
    obtain ⟨A,us,h1,h2,h3,h4,h5⟩:=h'.boxes k cs hb
    rw [h1]
    refine if_neg fun e=>?_
    rcases h5 with h5 | ⟨_,x,hx,e2,_⟩
    ·have:=hr.lt
     have:w.heap.size≤A.block:=h5
     omega
    ·have:=(X.apart x hx).2
     have:=hr.new
     omega
  omega
end
theorem wpOp_plain {P:Program} {ops:Array Oper} {Q:Exit→Act→World→Prop} {i:Nat} {o:Oper} {K:Act→World→Prop} {a:Act} {w:World} (hi:ops[i]?=some o) (hg:o.guard=none) (h:o.wp P a w K Q):wpOp P ops Q i K a w:=by
 unfold wpOp
 simp only [hi]
 rw [if_pos (by simp [Region.wanted,hg])]
 exact .inl h
theorem run_next_some {P:Program} {r:Nat} {w:World} {s:ByteArray} {pos:Nat} (ty:TypeId) (hr:w.heap[r]?=some (.stringIter s pos)) (h:pos < s.size) :
  (Instr.next (.pointer (some ⟨r,0,none⟩)) true ty).run P w = .ok (.tuple #[.bool true,.int .i64 pos,.int .i32 (Utf8.decode s pos).1]) { w with heap:=w.heap.setIfInBounds r (.stringIter s (pos + (Utf8.decode s pos).2)) }:=by
 simp [Instr.next,getObj,setObj,Sem.run_bind,Sem.run,hr,Result.andThen,h,goInt]
theorem run_next_over {P:Program} {r:Nat} {w:World} {s:ByteArray} {pos:Nat} (ty:TypeId) (hr:w.heap[r]?=some (.stringIter s pos)) (h:¬ pos < s.size) :
  (Instr.next (.pointer (some ⟨r,0,none⟩)) true ty).run P w = .ok (.tuple #[.bool false]) w:=by
 simp [Instr.next,getObj,Sem.run,hr,h]
theorem decode_wide (s:ByteArray) (pos:Nat):1≤(Utf8.decode s pos).2:=by
 simp only [Utf8.decode]
 repeat' split
 all_goals simp
def rngA (P:Program) (n src ta tb:Nat):List Oper→Bool
 | [o1,o2]=>o1.guard.isNone&&o2.guard.isNone&&o1.dst==some ta&&o2.dst==some tb&&(match o1.op with | .move (.tmp s)=>s==src | _=>false) &&
  (match o2.op with | .range ty (.tmp t)=>t==ta&&(match P.underlying ty with | some .string=>true | _=>false) | _=>false)&&decide (ta < n)&&decide (tb < n)
 | _=>false
def rngB (n tb tc td:Nat):List Oper→Bool
 | [o1,o2]=>o1.guard.isNone&&o2.guard.isNone&&o1.dst==some tc&&o2.dst==some td&&(match o1.op with | .next (.tmp t) true=>t==tb | _=>false)&&(match o2.op with | .extract (.tmp t) 0=>t==tc | _=>false)&&decide (tc < n)&&decide (td < n)
 | _=>false
abbrev itV (r:Nat):SV:=.one (.pv (.pointer (some ⟨r,0,none⟩)))
def rngIn (st:St) (ta tb r:Nat) (s:ByteArray):St:={ st with s:=put (put st.s ta (.one (.pv (.string s)))) tb (itV r) }
def rngOn (st:St) (tc td p c:Nat):St:={ st with s:=put (put st.s tc (.tup [.one (.pv (.bool true)),.one (.pv (.int .i64 p)),.one (.pv (.int .i32 c))])) td (.one (.pv (.bool true))) }
def rngOff (st:St) (tc td:Nat):St:={ st with s:=put (put st.s tc (.tup [.one (.pv (.bool false))])) td (.one (.pv (.bool false))) }
end Go.X

namespace Go.X
section
variable {P:Program} {n:Nat}
theorem slotPv {S:Nat→Prop} {g:Gh} {w:World} {u:Value} (h:u.oneCell'=true):SlotOK S g w (.one (.pv u)) u:=by
 rw [SlotOK]
 exact ⟨rfl,h⟩
theorem list2 {α:Type} {ops:Array α} {a b:α} (h:ops.toList=[a,b]):ops = #[a,b]:=Array.toList_inj.1 (by rw [h])
theorem x_rng {X:Ctx} {opsA opsB:Array Oper} {iA iB B src ta tb tc td:Nat} {s:ByteArray} {body:Code} {st:St} {Q:Ex→St→Prop} (hA:rngA P n src ta tb opsA.toList=true) (hB:rngB n tb tc td opsB.toList=true)
  (hs:get st.s src=some (.one (.pv (.string s)))) (hbx:st.b=[]) (I:Nat→Nat→St→Prop)
  (start:∀ (X':Ctx) (r:Nat),X'.KP=X.KP→X'.H=X.H→X'.PA=X.PA→∃ s0,Weak X' n (rngIn st ta tb r s) s0∧I r 0 s0)
  (keep:∀ r p s1,I r p s1→s1.b=[]∧get s1.s tb=some (itV r))
  (round:∀ (X':Ctx) (r p:Nat) (s1:St),X'.KP=X.KP→X'.H=X.H→X'.PA=X.PA→I r p s1→p < s.size→xC P X' n body (rngOn s1 tc td p (Utf8.decode s p).1) (Then (fun s'=>∃ s'',Weak X' n s' s''∧I r (p + (Utf8.decode s p).2) s'') (InBlock B Q)))
  (over:∀ r p s1,I r p s1→s.size≤p→Q .nrm (rngOff s1 tc td)) :
  xC P X n (.seq (.region iA opsA false) (.block B (.loop (.seq (.region iB opsB false) (.seq (.cond (.tmp td) .skip (.exit B)) body))))) st Q:=fun g a w hsim=>by
 unfold rngA at hA
 split at hA
 case h_2=>cases hA
 rename_i o1 o2 eA
 unfold rngB at hB
 split at hB
 case h_2=>cases hB
 rename_i o3 o4 eB
 have eA':=list2 eA
 have eB':=list2 eB
 subst eA'
 subst eB'
 simp only [Bool.and_eq_true,Option.isNone_iff_eq_none,beq_iff_eq,decide_eq_true_eq] at hA hB
 obtain ⟨⟨⟨⟨⟨⟨⟨g1,g2⟩,d1⟩,d2⟩,m1⟩,m2⟩,hta⟩,htb⟩:=hA
 obtain ⟨⟨⟨⟨⟨⟨⟨g3,g4⟩,d3⟩,d4⟩,m3⟩,m4⟩,htc⟩,htd⟩:=hB
 split at m1
 case h_2=>cases m1
 rename_i s' p1
 simp only [beq_iff_eq] at m1
 subst m1
 split at m2
 case h_2=>cases m2
 rename_i ty t' p2
 simp only [Bool.and_eq_true,beq_iff_eq] at m2
 obtain ⟨rfl,m2⟩:=m2
 split at m2
 case h_2=>cases m2
 rename_i hty
 split at m3
 case h_2=>cases m3
 rename_i t3 p3
 simp only [beq_iff_eq] at m3
 subst m3
 split at m4
 case h_2=>cases m4
 rename_i t4 p4
 simp only [beq_iff_eq] at m4
 subst m4
 refine wp_seq (wp_region ?_)
 show wpOps P #[o1,o2] _ [0,1] a w
 rw [wpOps_cons]
 refine wpOp_plain (o:=o1) rfl g1 ?_
 have hv:a.eval (.tmp s') = .string s:=by
  have:=hsim.slots s' _ hs
  simp only [SlotOK,CelOK] at this
  exact this.1
 refine step_value (v:=.string s) (w':=w) (by simp [execOp,p1,hv]) ?_
 have h1:=hsim.slot (v:=.one (.pv (.string s))) (u:=.string s) hta (slotPv rfl)
 rw [d1]
 rw [wpOps_cons]
 refine wpOp_plain (o:=o2) rfl g2 ?_
 have hv2:(a.put (some t') (.string s)).eval (.tmp t') = .string s:=by
  have:=h1.slots t' (.one (.pv (.string s))) (by simp [put,get])
  simp only [SlotOK,CelOK] at this
  exact this.1
 refine step_value (v:=.pointer (some ⟨w.heap.size,0,none⟩)) (w':=w.iter s 0) (by simp [execOp,p2,hv2,run_range_string w ty s hty]) ?_
 have h2:=h1.quiet (alloc_step w (.stringIter s 0) _)
 have h3:=h2.slot (v:=itV w.heap.size) (u:=.pointer (some ⟨w.heap.size,0,none⟩)) htb (slotPv rfl)
 rw [d2]
 generalize ha2:(a.put (some t') (.string s)).put (some t3) (.pointer (some ⟨w.heap.size,0,none⟩))=a2 at h3
 have hheap:(w.iter s 0).heap[w.heap.size]?=some (.stringIter s 0):=World.iter_heap w s 0
 have has:Aside X g (w.iter s 0) w.heap.size:=⟨hsim.frame.size,by show _ < (w.heap.push _).size; simp,fun hS=>by have:=(X.stay _ hS).1; have:=hsim.frame.size; omega,fun k=>by
  by_cases h0:0 < g.has w.heap.size k
  ·have:=hsim.lt w.heap.size k (by omega)
   omega
  ·omega⟩
 have hnc:∀ (w:World) (r p:Nat),w.heap[r]?=some (.stringIter s p)→NoCells w r:=fun w r p e ad ha=>by
  unfold World.cell?
  rw [ha,e]
 show Code.wp P (Code.block B _) _ a2 (w.iter s 0)
 obtain ⟨r,hr⟩:∃ r,w.heap.size=r:=⟨_,rfl⟩
 rw [hr] at h3 hheap has
 replace h3:Sim X n g (rngIn st t' t3 r s) [] a2 (w.iter s 0):=h3
 generalize w.iter s 0=w2 at h3 hheap has ⊢
 clear hsim h1 h2 ha2 hv hv2
 have hbx3:∀ b,get (rngIn st t' t3 r s).b b=none:=fun b=>by show get st.b b=none; rw [hbx]; rfl
 obtain ⟨s0,hw0,hI0⟩:=start (X.here g w2 r h3 has) r rfl rfl rfl
 obtain ⟨g0,h4⟩:=hw0 _ _ _ (h3.here has hbx3)
 obtain ⟨_,h5,has5⟩:=h3.there has h4 (hnc _ _ _ hheap)
 refine wp_block (wp_loop_ghost (fun k a w=>∃ p s1 g1,I r p s1∧k=s.size - p∧Sim X n g1 s1 [] a w∧w.heap[r]?=some (.stringIter s p)∧Aside X g1 w r) s.size ⟨0,s0,g0,hI0,rfl,h5,hheap,has5⟩ ?_)
 clear h3 h4 h5 has5 hI0 hw0 hheap has hbx3
 rintro k a w ⟨p,s1,g1,hI,rfl,h,hh,has⟩
 obtain ⟨hb1,ht1⟩:=keep r p s1 hI
 have hev:a.eval (.tmp t3) = .pointer (some ⟨r,0,none⟩):=by
  have:=h.slots t3 _ ht1
  simp only [itV,SlotOK,CelOK] at this
  exact this.1
 refine wp_seq (wp_region ?_)
 show wpOps P #[o3,o4] _ [0,1] a w
 rw [wpOps_cons]
 refine wpOp_plain (o:=o3) rfl g3 ?_
 by_cases hp:p < s.size
 ·refine step_value (v:=.tuple #[.bool true,.int .i64 p,.int .i32 (Utf8.decode s p).1]) (w':={ w with heap:=w.heap.setIfInBounds r (.stringIter s (p + (Utf8.decode s p).2)) }) (by simp [execOp,p3,hev,run_next_some _ hh hp]) ?_
  have hsz:({ w with heap:=w.heap.setIfInBounds r (.stringIter s (p + (Utf8.decode s p).2)) }:World).heap.size=w.heap.size:=by simp
  have hne:∀ b,b≠r→({ w with heap:=w.heap.setIfInBounds r (.stringIter s (p + (Utf8.decode s p).2)) }:World).heap[b]?=w.heap[b]?:=fun b hb=>by
   simp only [Array.getElem?_setIfInBounds]
   rw [if_neg (fun e=>hb e.symm)]
  have heq:({ w with heap:=w.heap.setIfInBounds r (.stringIter s (p + (Utf8.decode s p).2)) }:World).heap[r]?=some (.stringIter s (p + (Utf8.decode s p).2)):=by
   simp only [Array.getElem?_setIfInBounds]
   simp [has.lt]
  have h6:=h.turn (w':={ w with heap:=w.heap.setIfInBounds r (.stringIter s (p + (Utf8.decode s p).2)) }) (r:=r) rfl rfl rfl hsz hne has.new has.ns (fun k=>by simp only [cntL,Nat.add_zero]; exact has.nz k)
  generalize ({ w with heap:=w.heap.setIfInBounds r (.stringIter s (p + (Utf8.decode s p).2)) }:World)=w3 at hsz hne heq h6
  have has6:Aside X g1 w3 r:=⟨has.new,by rw [hsz]; exact has.lt,has.ns,has.nz⟩
  have h7:=h6.slot (v:=.tup [.one (.pv (.bool true)),.one (.pv (.int .i64 p)),.one (.pv (.int .i32 (Utf8.decode s p).1))]) (u:=.tuple #[.bool true,.int .i64 p,.int .i32 (Utf8.decode s p).1]) htc (by
   rw [SlotOK]
   refine ⟨[.bool true,.int .i64 p,.int .i32 (Utf8.decode s p).1],rfl,?_⟩
   simp only [SlotsOK,and_true]
   exact ⟨slotPv rfl,slotPv rfl,slotPv rfl⟩)
  rw [d3,wpOps_cons]
  refine wpOp_plain (o:=o4) rfl g4 ?_
  refine step_value (v:=.bool true) (w':=w3) ?_ ?_
  ·have e:(a.put (some t4) (.tuple #[.bool true,.int .i64 p,.int .i32 (Utf8.decode s p).1])).eval (.tmp t4) = .tuple #[.bool true,.int .i64 p,.int .i32 (Utf8.decode s p).1]:=by
    have:=h7.tmps
    simp [Act.put] at this
    simp [Act.eval,Act.put,Array.getD_eq_getD_getElem?,this,htc]
   simp [execOp,p4,e,Instr.extract]
  have h8:=h7.slot (v:=.one (.pv (.bool true))) (u:=.bool true) htd (slotPv rfl)
  rw [d4]
  generalize ha3:((a.put (some t4) (.tuple #[.bool true,.int .i64 p,.int .i32 (Utf8.decode s p).1])).put (some td) (.bool true))=a3 at h8
  have hbx8:∀ b,get (rngOn s1 t4 td p (Utf8.decode s p).1).b b=none:=fun b=>by show get s1.b b=none; rw [hb1]; rfl
  show Code.wp P (Code.seq _ body) _ a3 w3
  have hc:a3.eval (.tmp td) = .bool true:=by
   have:=h8.slots td (.one (.pv (.bool true))) (by simp [put,get])
   simp only [SlotOK,CelOK] at this
   exact this.1
  refine wp_seq (wp_cond_true hc (wp_skip ?_))
  show Code.wp P body _ a3 w3
  refine wp_mono (round (X.here g1 w3 r h8 has6) r p s1 rfl rfl rfl hI hp g1 a3 w3 (h8.here has6 hbx8)) fun e a' w' hq=>?_
  obtain ⟨ex,g',st',q1,q2,q3⟩:=hq
  cases e <;> cases ex <;> simp only [exOf] at q1
  ·obtain ⟨s'',q4,q5⟩:=q2
   obtain ⟨g'',q6⟩:=q4 _ _ _ q3
   obtain ⟨q7,q8,q9⟩:=h8.there has6 q6 (hnc _ _ _ heq)
   have:=decode_wide s p
   exact ⟨_,by omega,p + (Utf8.decode s p).2,s'',g'',q5,rfl,q8,by rw [q7]; exact heq,q9⟩
  ·subst q1
   rename_i i
   obtain ⟨_,q8,_⟩:=h8.there has6 q3 (hnc _ _ _ heq)
   by_cases e:i=B
   ·subst e
    simp only [Then,InBlock,if_true] at q2
    show Exit.inBlock i _ (.exit i) a' w'
    simp only [Exit.inBlock,if_true]
    exact ⟨.nrm,g',st',trivial,q2,q8⟩
   ·simp only [Then,InBlock,if_neg e] at q2
    show Exit.inBlock B _ (.exit i) a' w'
    simp only [Exit.inBlock,if_neg e]
    exact ⟨.exit i,g',st',rfl,q2,q8⟩
  ·obtain ⟨_,q8,_⟩:=h8.there has6 q3 (hnc _ _ _ heq)
   exact ⟨.ret,g',st',trivial,q2,q8⟩
 ·refine step_value (v:=.tuple #[.bool false]) (w':=w) (by simp [execOp,p3,hev,run_next_over _ hh hp]) ?_
  have h7:=h.slot (v:=.tup [.one (.pv (.bool false))]) (u:=.tuple #[.bool false]) htc (by
   rw [SlotOK]
   refine ⟨[.bool false],rfl,?_⟩
   simp only [SlotsOK,and_true]
   exact slotPv rfl)
  rw [d3,wpOps_cons]
  refine wpOp_plain (o:=o4) rfl g4 ?_
  refine step_value (v:=.bool false) (w':=w) ?_ ?_
  ·have e:(a.put (some t4) (.tuple #[.bool false])).eval (.tmp t4) = .tuple #[.bool false]:=by
    have:=h7.tmps
    simp [Act.put] at this
    simp [Act.eval,Act.put,Array.getD_eq_getD_getElem?,this,htc]
   simp [execOp,p4,e,Instr.extract]
  have h8:=h7.slot (v:=.one (.pv (.bool false))) (u:=.bool false) htd (slotPv rfl)
  rw [d4]
  generalize ((a.put (some t4) (.tuple #[.bool false])).put (some td) (.bool false))=a3 at h8
  show Code.wp P (Code.seq _ body) _ a3 w
  have hc:a3.eval (.tmp td) = .bool false:=by
   have:=h8.slots td (.one (.pv (.bool false))) (by simp [put,get])
   simp only [SlotOK,CelOK] at this
   exact this.1
  refine wp_seq (wp_cond_false hc (wp_exit ?_))
  show Exit.inBlock B _ (.exit B) a3 w
  simp only [Exit.inBlock,if_true]
  exact ⟨.nrm,g1,_,trivial,over r p s1 hI (by omega),h8⟩
end
end Go.X

namespace Go.X
inductive XCode where
 | skip
 | reg (os:List GOp)
 | draw (os:List GOp) (es:List (List Nat))
 | seq (a b:XCode)
 | cond (t:Nat) (a b:XCode)
 | block (id:Nat) (a:XCode)
 | loop (ks:List Nat) (a:XCode)
 | norm (ks:List Nat) (a:XCode)
 | up (b off r:Nat) (a:XCode)
 | exit (id:Nat)
 | ret
 | rng (B src ta tb tc td:Nat) (ks:List Nat) (a:XCode)
def XCode.q (os:List GOp) (a:XCode):XCode:=.seq (.reg os) a
def XCode.c (t:Nat) (a:XCode):XCode:=.cond t a .skip
abbrev Post:=Ex→St→Prop
def upC (c:Cel) (f:Nat→Prop):Prop:=match c with
 | .nils z=>f z
 | _=>False
def upS (st:St) (b off r z:Nat) (cs:List Cel):St:={ st with b:=rep st.b b (cs.take off++[.rf r 0 [] z 0 0]++cs.drop (off + 1)),r:=rep st.r r [.sl true z () []] }
def upQ (st:St) (b off r:Nat) (f:St→Prop):Prop:=match get st.b b with
 | some cs=>match cs[off]? with
  | some c=>upC c fun z=>match get st.r r with
   | none=>f (upS st b off r z cs)
   | some _=>False
  | none=>False
 | none=>False
def runC (Te:Nat→List AV→Res→Prop) (na base:Nat):XCode→St→Post→Prop
 | .skip,st,Q=>Q .nrm st
 | .reg os,st,Q=>runOps Te os st (Q .nrm)
 | .draw os es,st,Q=>runDraw Te os st [] (fun st' l=>drawOk es l=true∧Q .nrm st')
 | .seq a b,st,Q=>runC Te na base a st (Then (fun st'=>runC Te na base b st' Q) Q)
 | .cond t a b,st,Q=>match get st.s t with
  | some (.one (.pv (.bool c)))=>(c=true→runC Te na base a st Q)∧(c=false→runC Te na base b st Q)
  | _=>False
 | .block id a,st,Q=>runC Te na base a st (InBlock id Q)
 | .loop ks a,st,Q=>∃ (I:Nat→St→Prop) (m:Nat),I m (norm na base ks st)∧∀ k s,I k s→runC Te na base a s (Then (fun s'=>∃ k',k' < k∧I k' (norm na base ks s')) Q)
 | .norm ks a,st,Q=>runC Te na base a (norm na base ks st) Q
 | .up b off r a,st,Q=>upQ st b off r fun st'=>runC Te na base a st' Q
 | .exit id,st,Q=>Q (.exit id) st
 | .ret,st,Q=>Q .ret st
 | .rng B src ta tb tc td ks a,st,Q=>match get st.s src with
  | some (.one (.pv (.string s)))=>st.b=[]∧∃ I:Nat→Nat→St→Prop,(∀ r,I r 0 (norm na base ks (rngIn st ta tb r s)))∧(∀ r p s1,I r p s1→s1.b=[]∧get s1.s tb=some (itV r))∧
   (∀ r p s1,I r p s1→p < s.size→runC Te na base a (rngOn s1 tc td p (Utf8.decode s p).1) (Then (fun s'=>I r (p + (Utf8.decode s p).2) (norm na base ks s')) (InBlock B Q)))∧(∀ r p s1,I r p s1→s.size≤p→Q .nrm (rngOff s1 tc td))
  | _=>False
def codeOk (P:Program) (n:Nat):Code→XCode→Bool
 | c,.norm _ x=>codeOk P n c x
 | c,.up _ _ _ x=>codeOk P n c x
 | .seq (.region _ opsA false) (.block b (.loop (.seq (.region _ opsB false) (.seq (.cond (.tmp t) .skip (.exit b')) body)))),.rng B src ta tb tc td _ x=>b==B&&b'==B&&t==td&&rngA P n src ta tb opsA.toList&&rngB n tb tc td opsB.toList&&codeOk P n body x
 | .skip,.skip=>true
 | .region _ ops false,.reg os=>regL P n ops ops.toList os
 | .region _ ops true,.draw os es=>regL P n ops ops.toList os&&edgesOf ops==es
 | .seq a b,.seq x y=>codeOk P n a x&&codeOk P n b y
 | .cond (.tmp t) a b,.cond t' x y=>t==t'&&codeOk P n a x&&codeOk P n b y
 | .block i a,.block j x=>i==j&&codeOk P n a x
 | .loop a,.loop _ x=>codeOk P n a x
 | .exit i,.exit j=>i==j
 | .ret,.ret=>true
 | _,_=>false
section
variable {P:Program} {X:Ctx} {n na base:Nat}
theorem weak_norm (hX:NA X na) (hb:na≤base) (ks:List Nat) (st:St):Weak X n st (norm na base ks st):=fun _ _ _ h=>norm_ok ks hX hb h
theorem weak_up {st:St} {b off r z:Nat} {cs:List Cel} (hb:get st.b b=some cs) (hc:cs[off]?=some (.nils z)) (hr:get st.r r=none):Weak X n st (upS st b off r z cs):=fun g a w h=>by
 have h2:=Sim.newRoot (us:=[.sl true z (.slice none 0 0) []]) (hand:=[]) (h.more .nil (fun b=>by simp [cnt,Go.X.hb,cntLL])) hr
 obtain ⟨A,us,hA,_,hM,hC,_⟩:=h2.boxes b cs hb
 have hl:=(List.getElem?_eq_some_iff.1 hc).1
 have hu:us[off]?=some (us[off]'(by rw [← hC.1]; exact hl)):=List.getElem?_eq_getElem _
 have hv:=hC.2 off _ _ hc hu
 simp only [CelOK] at hv
 have hcel:=celOf_ok (X:=X) (w:=w) (g:=g.setR r [.sl true z (.slice none 0 0) []]) (r:=r) (c:=0) (p:=[]) (t:=.sl true z (.slice none 0 0) []) .nil (by rw [setR_same]; simp) (fun m hm _=>by simp [nodeAt,setR_same,atP] at hm; exact hm.symm)
 have h3:=h2.recel (b:=b) (off:=off) (pl:=[.rf r 0 [] z 0 0]) (vs:=[.slice none 0 0]) hb hA (by simp only [List.length_cons,List.length_nil]; exact hl) ⟨rfl,fun k c u hk hk'=>by
  cases k with
  | zero =>
   simp at hk hk'
   subst hk; subst hk'
   simpa [er,erLL,celOf,hdr] using hcel
  | succ k=>simp at hk⟩ (fun k u hk=>by
  cases k with
  | zero =>
   simp at hk
   subst hk
   have:=hM off _ hu
   rw [hv] at this
   simpa using this
  | succ k=>simp at hk)
 exact ⟨_,by simpa [upS,er,erLL] using h3⟩
theorem runC_ok {X:Ctx} (hm:P.follows .mixedOrders=true) (hX:NA X na) (hb0:na≤base):∀ (x:XCode) (c:Code) {st:St} {Q:Post},codeOk P n c x=true→runC (Tells P X.KP) na base x st Q→xC P X n c st Q
 | .norm ks x,c,st,Q,hk,h=>x_weak (weak_norm hX hb0 ks st) (runC_ok hm hX hb0 x c (by cases c <;> simpa [codeOk] using hk) h)
 | .up b off r x,c,st,Q,hk,h=>by
  have hk':codeOk P n c x=true:=by cases c <;> simpa [codeOk] using hk
  simp only [runC,upQ] at h
  split at h
  ·rename_i cs hb
   split at h
   ·rename_i c0 hc
    cases c0 with
    | nils z =>
     simp only [upC] at h
     split at h
     ·rename_i hr
      exact x_weak (weak_up hb hc hr) (runC_ok hm hX hb0 x c hk' h)
     ·exact h.elim
    | _=>exact h.elim
   ·exact h.elim
  ·exact h.elim
 | .skip,c,st,Q,hk,h=>by
  cases c <;> simp [codeOk] at hk
  exact x_skip h
 | .reg os,c,st,Q,hk,h=>by
  cases c <;> try (simp [codeOk] at hk; done)
  rename_i id ops d
  cases d <;> simp only [codeOk] at hk
  ·exact x_region hk h
  ·cases hk
 | .draw os es,c,st,Q,hk,h=>by
  cases c <;> try (simp [codeOk] at hk; done)
  rename_i id ops d
  cases d <;> simp only [codeOk,Bool.and_eq_true,beq_iff_eq] at hk
  ·cases hk
  ·exact x_draw hm hk.1 hk.2 h
 | .seq x y,c,st,Q,hk,h=>by
  cases c <;> simp [codeOk] at hk
  exact x_seq (x_mono (runC_ok hm hX hb0 x _ hk.1 h) (fun e s hq=>by
   cases e with
   | nrm=>exact runC_ok hm hX hb0 y _ hk.2 hq
   | _=>exact hq))
 | .cond t x y,c,st,Q,hk,h=>by
  cases c <;> try (simp [codeOk] at hk; done)
  rename_i o a b
  cases o <;> simp [codeOk] at hk
  obtain ⟨⟨rfl,h1⟩,h2⟩:=hk
  simp only [runC] at h
  split at h
  ·rename_i b' hg
   exact x_cond hg (fun e=>runC_ok hm hX hb0 x _ h1 (h.1 e)) (fun e=>runC_ok hm hX hb0 y _ h2 (h.2 e))
  ·exact h.elim
 | .block id x,c,st,Q,hk,h=>by
  cases c <;> simp [codeOk] at hk
  obtain ⟨rfl,hk⟩:=hk
  exact x_block (runC_ok hm hX hb0 x _ hk h)
 | .loop ks x,c,st,Q,hk,h=>by
  cases c <;> simp [codeOk] at hk
  obtain ⟨I,m,h0,hr⟩:=h
  refine x_loop I m (weak_norm hX hb0 ks st) h0 (fun k s hI=>x_mono (runC_ok hm hX hb0 x _ hk (hr k s hI)) (fun e s' hq=>?_))
  cases e with
  | nrm =>
   obtain ⟨k',h1,h2⟩:=hq
   exact ⟨_,k',weak_norm hX hb0 ks s',h1,h2⟩
  | _=>exact hq
 | .exit id,c,st,Q,hk,h=>by
  cases c <;> simp [codeOk] at hk
  obtain rfl:=hk
  exact x_exit h
 | .ret,c,st,Q,hk,h=>by
  cases c <;> simp [codeOk] at hk
  exact x_ret h
 | .rng B src ta tb tc td ks x,c,st,Q,hk,h=>by
  unfold codeOk at hk
  split at hk
  case h_3 e1 e2 =>
   cases e2
   simp only [Bool.and_eq_true,beq_iff_eq] at hk
   obtain ⟨⟨⟨⟨⟨rfl,rfl⟩,rfl⟩,hA⟩,hB⟩,hk⟩:=hk
   simp only [runC] at h
   split at h
   ·rename_i s hs
    obtain ⟨hb,I,i0,i1,i2,i3⟩:=h
    exact x_rng hA hB hs hb I (fun X' r e1 e2 e3=>⟨_,weak_norm (fun i hi=>by rw [e2,e3]; exact hX i hi) hb0 ks _,i0 r⟩) i1
     (fun X' r p s1 e1 e2 e3 hI hp=>x_mono (runC_ok hm (fun i hi=>by rw [e2,e3]; exact hX i hi) hb0 x _ hk (by rw [e1]; exact i2 r p s1 hI hp)) (fun ex s' hq=>by
      cases ex with
      | nrm=>exact ⟨_,weak_norm (fun i hi=>by rw [e2,e3]; exact hX i hi) hb0 ks s',hq⟩
      | _=>exact hq)) i3
   ·exact h.elim
  all_goals first | (cases hk; done) | (rename_i e; cases e; done)
end
structure FnX where
 n:Nat
 rs:List RV
 code:XCode
def fnOk (P:Program) (f:Nat) (x:FnX):Bool :=
 match P.funcs[f]? with
 | some fn=>fn.ntmps==x.n&&decide (f < VN)&&rvsOk P fn.results.toList x.rs&&(match fn.body with
  | some c=>codeOk P x.n c x.code
  | none=>false)
 | none=>false
def EndFn (Te:Nat→List AV→Res→Prop) (as:List AV) (rs:List RV) (r0:Res):Post:=fun ex st=>(ex = .nrm∨ex = .ret)∧runP Te (leaveP as rs) st (fun r _=>r=r0)
def RunFn (Te:Nat→List AV→Res→Prop) (x:FnX) (as:List AV) (r0:Res):Prop :=
 as.length≤x.n∧runC Te as.length (x.n + as.length) x.code (enterSt as) (EndFn Te as x.rs r0)
abbrev TE:=Nat→List AV→Res→Prop
abbrev RF (Te:TE) (x:FnX):TE:=fun _ as r=>RunFn Te x as r
theorem run0 {Te:TE} {x:FnX} {as:List AV} {r0:Res} (h:runC Te as.length (x.n + as.length) x.code (enterSt as) (EndFn Te as x.rs r0)) (h0:as.length≤x.n:=by exact Nat.le_of_ble_eq_true rfl):RunFn Te x as r0:=⟨h0,h⟩
theorem tells {P:Program} {KP:Kept} {f:Nat} {x:FnX} {as:List AV} {r0:Res} (hm:P.follows .mixedOrders=true) (hf:fnOk P f x=true) (h:RunFn (Tells P KP) x as r0):Tells P KP f as r0:=by
 unfold fnOk at hf
 split at hf
 ·rename_i fn hfn
  simp only [Bool.and_eq_true,beq_iff_eq,decide_eq_true_eq] at hf
  obtain ⟨⟨⟨h1,h0⟩,h2⟩,h3⟩:=hf
  split at h3
  ·rename_i c hc
   rw [← h1] at h3
   obtain ⟨h4,h5⟩:=h
   rw [tells_small h0]
   refine TellsW.of hfn hc (by omega) (.inl rfl) h2 fun X eX hX=>by subst eX; exact runC_ok hm hX (by omega) _ _ h3 h5
  ·cases h3
 ·cases hf
def lastPtr:List AV→Bool
 | []=>false
 | [.ptr _]=>true
 | _::xs=>lastPtr xs
theorem lastPtr_ok:∀ {as:List AV},lastPtr as=true→∃ xs ts,as=xs++[.ptr ts]
 | [],h=>by cases h
 | [.ptr ts],_=>⟨[],ts,rfl⟩
 | [.one _],h=>by cases h
 | [.agg _],h=>by cases h
 | x::y::xs,h=>by
  obtain ⟨zs,ts,e⟩:=lastPtr_ok (as:=y::xs) (by cases x <;> exact h)
  exact ⟨x::zs,ts,by rw [e]; rfl⟩
def RunFnV (Te:Nat→List AV→Res→Prop) (k:Nat) (x:FnX) (as:List AV) (r0:Res):Prop :=
 (as.length≤x.n∧lastPtr as=true)∧runC Te as.length (x.n + as.length) x.code (enterV (k + 1) as) (EndFn Te as x.rs r0)
abbrev RFV (Te:TE) (k:Nat) (x:FnX):TE:=fun _ as r=>RunFnV Te k x as r
theorem run0V {Te:TE} {k:Nat} {x:FnX} {as:List AV} {r0:Res} (h:runC Te as.length (x.n + as.length) x.code (enterV (k + 1) as) (EndFn Te as x.rs r0)) (h0:as.length≤x.n:=by exact Nat.le_of_ble_eq_true rfl) (h1:lastPtr as=true:=by exact rfl):RunFnV Te k x as r0:=⟨⟨h0,h1⟩,h⟩
theorem enterV_eq {k:Nat} {as:List AV}:enterV (k + 1) as=⟨put (enterS 0 as) (as.length - 1) (.fn k (as.length - 1) 0),enterB 0 as,enterR 0 as⟩:=rfl
theorem tellsV {P:Program} {KP:Kept} {f k F:Nat} {x:FnX} {as:List AV} {r0:Res} (hm:P.follows .mixedOrders=true) (hf:fnOk P f x=true) (hF:F=f + VN * (k + 1)) (h:RunFnV (Tells P KP) k x as r0):Tells P KP F as r0:=by
 unfold fnOk at hf
 split at hf
 ·rename_i fn hfn
  simp only [Bool.and_eq_true,beq_iff_eq,decide_eq_true_eq] at hf
  obtain ⟨⟨⟨h1,h0⟩,h2⟩,h3⟩:=hf
  split at h3
  ·rename_i c hc
   rw [← h1] at h3
   obtain ⟨⟨h4,h6⟩,h5⟩:=h
   rw [hF,tells_val h0]
   refine TellsW.of hfn hc (by omega) (.inr (lastPtr_ok h6)) h2 fun X eX hX=>by subst eX; exact runC_ok hm hX (by omega) _ _ h3 h5
  ·cases h3
 ·cases hf
end Go.X

