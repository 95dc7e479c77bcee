/- Texts: XTree XProg XSim XMove XStep XHand XOps XOps2 XOps3 XOps4 XOps5 XOps6 XOps7. -/
import Derived.Below
import Derived.WalkKit
set_option linter.unusedVariables false
set_option linter.unusedSimpArgs false
namespace Go.X
inductive Tr (τ:Type) where
 | pv (v:Value)
 | sl (o:Bool) (z:Nat) (h:τ) (rows:List (List (Tr τ)))
 | no (h:τ)
abbrev T:=Tr Unit
abbrev G:=Tr Value
instance {τ:Type}:Inhabited (Tr τ):=⟨.pv undef⟩
section
variable {τ:Type}
mutual
def er:Tr τ→T
 | .pv v=>.pv v
 | .sl o z _ rows=>.sl o z () (erLL rows)
 | .no _=>.no ()
def erL:List (Tr τ)→List T
 | []=>[]
 | t::ts=>er t::erL ts
def erLL:List (List (Tr τ))→List (List T)
 | []=>[]
 | r::rs=>erL r::erLL rs
end
theorem erL_eq:∀ ts:List (Tr τ),erL ts=ts.map er
 | []=>by simp [erL]
 | t::ts=>by simp [erL,erL_eq ts]
theorem erLL_eq:∀ rs:List (List (Tr τ)),erLL rs=rs.map (·.map er)
 | []=>by simp [erLL]
 | r::rs=>by simp [erLL,erL_eq,erLL_eq rs]
end
def hb (b:Nat):Value→Nat
 | .slice (some a) _ _=>if a.block=b then 1 else 0
 | _=>0
mutual
def cnt (b:Nat):G→Nat
 | .sl true _ h rows=>hb b h + cntLL b rows
 | _=>0
def cntL (b:Nat):List G→Nat
 | []=>0
 | t::ts=>cnt b t + cntL b ts
def cntLL (b:Nat):List (List G)→Nat
 | []=>0
 | r::rs=>cntL b r + cntLL b rs
end
theorem cntL_append (b:Nat):∀ xs ys:List G,cntL b (xs++ys)=cntL b xs + cntL b ys
 | [],ys=>by simp [cntL]
 | x::xs,ys=>by simp only [List.cons_append,cntL,cntL_append b xs ys]; omega
theorem cntLL_append (b:Nat):∀ xs ys:List (List G),cntLL b (xs++ys)=cntLL b xs + cntLL b ys
 | [],ys=>by simp [cntLL]
 | x::xs,ys=>by simp only [List.cons_append,cntLL,cntLL_append b xs ys]; omega
theorem cntL_set (b:Nat):∀ (ts:List G) (j:Nat) (t u:G),ts[j]?=some t→cntL b (ts.set j u) + cnt b t=cntL b ts + cnt b u
 | [],_,_,_,h=>by simp at h
 | x::xs,0,t,u,h=>by simp at h; subst h; simp only [List.set_cons_zero,cntL]; omega
 | x::xs,j + 1,t,u,h=>by
  have:=cntL_set b xs j t u (by simpa using h)
  simp only [List.set_cons_succ,cntL]; omega
theorem cntLL_set (b:Nat):∀ (ts:List (List G)) (j:Nat) (t u:List G),ts[j]?=some t→cntLL b (ts.set j u) + cntL b t=cntLL b ts + cntL b u
 | [],_,_,_,h=>by simp at h
 | x::xs,0,t,u,h=>by simp at h; subst h; simp only [List.set_cons_zero,cntLL]; omega
 | x::xs,j + 1,t,u,h=>by
  have:=cntLL_set b xs j t u (by simpa using h)
  simp only [List.set_cons_succ,cntLL]; omega
theorem cnt_mem (b:Nat):∀ (ts:List G) (t:G),t∈ts→cnt b t≤cntL b ts
 | x::xs,t,h=>by
  simp only [cntL]
  rcases List.mem_cons.1 h with rfl | h
  ·omega
  ·have:=cnt_mem b xs t h; omega
theorem cntL_mem (b:Nat):∀ (rs:List (List G)) (r:List G),r∈rs→cntL b r≤cntLL b rs
 | x::xs,t,h=>by
  simp only [cntLL]
  rcases List.mem_cons.1 h with rfl | h
  ·omega
  ·have:=cntL_mem b xs t h; omega
theorem cntLL_take_drop (b:Nat) (rs:List (List G)) (n:Nat):cntLL b (rs.take n) + cntLL b (rs.drop n)=cntLL b rs:=by
 rw [← cntLL_append,List.take_append_drop]
theorem cntL_take_drop (b:Nat) (rs:List G) (n:Nat):cntL b (rs.take n) + cntL b (rs.drop n)=cntL b rs:=by
 rw [← cntL_append,List.take_append_drop]
def hdr:G→Value
 | .pv v=>v
 | .sl _ _ h _=>h
 | .no h=>h
def hds (rows:List (List G)):List Value:=rows.flatMap (·.map hdr)
theorem hds_cons (r:List G) (rs:List (List G)):hds (r::rs)=r.map hdr++hds rs:=by simp [hds]
theorem hds_append (xs ys:List (List G)):hds (xs++ys)=hds xs++hds ys:=by simp [hds]
theorem hds_length {z:Nat}:∀ {rows:List (List G)},(∀ r∈rows,r.length=z)→(hds rows).length=rows.length * z
 | [],_=>by simp [hds]
 | r::rs,h=>by
  rw [hds_cons,List.length_append,List.length_map,hds_length (fun r hr=>h r (List.mem_cons_of_mem _ hr)),h r (List.mem_cons_self ..),List.length_cons,Nat.add_mul]; omega
theorem hds_take {z:Nat}:∀ {rows:List (List G)} (n:Nat),(∀ r∈rows,r.length=z)→(hds rows).take (n * z)=hds (rows.take n)
 | [],n,_=>by simp [hds]
 | r::rs,0,h=>by simp [hds]
 | r::rs,n + 1,h=>by
  have hr:=h r (List.mem_cons_self ..)
  have e:(n + 1) * z=(r.map hdr).length + n * z:=by rw [List.length_map,hr,Nat.add_mul]; omega
  rw [List.take_succ_cons,hds_cons,hds_cons,e,List.take_length_add_append,hds_take n (fun r hr=>h r (List.mem_cons_of_mem _ hr))]
theorem hds_get {z:Nat}:∀ {rows:List (List G)} (i j:Nat) (r:List G) (t:G),(∀ r∈rows,r.length=z)→rows[i]?=some r→r[j]?=some t→(hds rows)[i * z + j]?=some (hdr t)
 | [],i,j,r,t,_,h,_=>by simp at h
 | x::xs,0,j,r,t,hz,h,ht=>by
  simp at h; subst h
  have hj:=(List.getElem?_eq_some_iff.1 ht).1
  rw [hds_cons,List.getElem?_append_left (by simp; omega)]
  simp [ht]
 | x::xs,i + 1,j,r,t,hz,h,ht=>by
  have:=hds_get i j r t (fun r hr=>hz r (List.mem_cons_of_mem _ hr)) (by simpa using h) ht
  have hx:=hz x (List.mem_cons_self ..)
  have e:(i + 1) * z=z + i * z:=by rw [Nat.add_mul]; omega
  rw [hds_cons,List.getElem?_append_right (by simp [hx,e]; omega)]
  simpa [hx,e,show z + i * z + j - z=i * z + j by omega] using this
theorem hds_set {z:Nat}:∀ {rows:List (List G)} (i j:Nat) (r:List G) (t:G),(∀ r∈rows,r.length=z)→rows[i]?=some r→j < r.length→hds (rows.set i (r.set j t))=(hds rows).set (i * z + j) (hdr t)
 | [],i,j,r,t,_,h,_=>by simp at h
 | x::xs,0,j,r,t,hz,h,ht=>by
  simp at h; subst h
  rw [List.set_cons_zero,hds_cons,hds_cons,List.set_append_left _ _ (by simp; omega)]
  simp
 | x::xs,i + 1,j,r,t,hz,h,ht=>by
  have:=hds_set i j r t (fun r hr=>hz r (List.mem_cons_of_mem _ hr)) (by simpa using h) ht
  have hx:=hz x (List.mem_cons_self ..)
  have e:(i + 1) * z=z + i * z:=by rw [Nat.add_mul]; omega
  rw [List.set_cons_succ,hds_cons,hds_cons,List.set_append_right _ _ (by simp [hx,e]; omega),this]
  simp [hx,e,show z + i * z + j - z=i * z + j by omega]
theorem mem_hds {rows:List (List G)} {u:Value} (h:u∈hds rows):∃ r∈rows,∃ t∈r,u=hdr t:=by
 simp only [hds,List.mem_flatMap,List.mem_map] at h
 obtain ⟨r,hr,t,ht,rfl⟩:=h
 exact ⟨r,hr,t,ht,rfl⟩
inductive Rd (S:Nat→Prop) (w:World):T→Value→Prop
 | pv {u:Value}:u.oneCell'=true→Rd S w (.pv u) u
 | sl {z cap:Nat} {a:Option Addr} {rows:List (List T)} (u:Nat→Nat→Value):rows.length≤cap→cap≤maxLen→(∀ r∈rows,r.length=z)→
  (∀ i r j t,rows[i]?=some r→r[j]?=some t→∃ ad,a=some ad∧S ad.block∧w.cell? (ad.add (i * z + j))=some (u i j))→
  (∀ i r j t,rows[i]?=some r→r[j]?=some t→Rd S w t (u i j))→Rd S w (.sl false z () rows) (.slice a rows.length cap)
theorem add_block (ad:Addr) (n:Nat):(ad.add n).block=ad.block:=by unfold Addr.add; split <;> rfl
theorem Rd.one {S:Nat→Prop} {w:World} {t:T} {v:Value} (h:Rd S w t v):v.oneCell'=true:=by
 cases h with
 | pv h=>exact h
 | sl=>rfl
theorem Rd.move {S S':Nat→Prop} {w w':World} {t:T} {v:Value} (h:Rd S w t v) (hs:∀ b,S b→S' b) (hw:∀ b,S b→w'.heap[b]?=w.heap[b]?):Rd S' w' t v:=by
 induction h with
 | pv h=>exact .pv h
 | sl u h1 h2 h3 h4 h5 ih =>
  refine .sl u h1 h2 h3 (fun i r j t hr ht=>?_) (fun i r j t hr ht=>ih i r j t hr ht)
  obtain ⟨ad,ha,hS,hc⟩:=h4 i r j t hr ht
  exact ⟨ad,ha,hs _ hS,by rw [World.cell?_of_block (w:=w) (by rw [add_block]; exact hw _ hS)]; exact hc⟩
inductive Rp (S:Nat→Prop) (w:World):G→Prop
 | pv {u:Value}:u.oneCell'=true→Rp S w (.pv u)
 | no {u:Value}:u.oneCell'=true→Rp S w (.no u)
 | ro {z:Nat} {h:Value} {rows:List (List G)}:Rd S w (er (.sl false z h rows)) h→Rp S w (.sl false z h rows)
 | nil {z:Nat}:Rp S w (.sl true z (.slice none 0 0) [])
 | own {z g cap e:Nat} {cur:Array Value} {fz:Nat×Nat} {rows:List (List G)}:w.heap[g]?=some (.cells cur e fz)→(∀ o,o < cur.size→¬ (fz.1≤o∧o < fz.2))→rows.length≤cap→cap≤maxLen→
  cur.size=cap * z→(∀ r∈rows,r.length=z)→cur.toList.take (rows.length * z)=hds rows→(∀ r∈rows,∀ t∈r,Rp S w t)→Rp S w (.sl true z (.slice (some ⟨g,0,none⟩) rows.length cap) rows)
theorem Rp.one {S:Nat→Prop} {w:World} {t:G} (h:Rp S w t):(hdr t).oneCell'=true:=by
 cases h with
 | pv h=>exact h
 | no h=>exact h
 | ro h=>exact h.one
 | nil=>rfl
 | own=>rfl
theorem Rp.lt {S:Nat→Prop} {w:World} {t:G} (h:Rp S w t):∀ b,0 < cnt b t→b < w.heap.size:=by
 induction h with
 | pv=>intro b hb; simp [cnt] at hb
 | no=>intro b hb; simp [cnt] at hb
 | ro=>intro b hb; simp [cnt] at hb
 | nil=>intro b h; simp [cnt,hb,cntLL] at h
 | @own z g cap e cur fz rows hg _ _ _ _ _ _ hr ih =>
  intro b h
  simp only [cnt,hb] at h
  by_cases hgb:g=b
  ·subst hgb; exact (Array.getElem?_eq_some_iff.1 hg).1
  ·rw [if_neg hgb] at h
   have aux:∀ rs:List (List G),(∀ r∈rs,∀ t∈r,0 < cnt b t→b < w.heap.size)→0 < cntLL b rs→b < w.heap.size:=by
    intro rs
    induction rs with
    | nil=>intro _ h; simp [cntLL] at h
    | cons r rs ih2 =>
     intro hh h
     have aux2:∀ ts:List G,(∀ t∈ts,0 < cnt b t→b < w.heap.size)→0 < cntL b ts→b < w.heap.size:=by
      intro ts
      induction ts with
      | nil=>intro _ h; simp [cntL] at h
      | cons t ts ih3 =>
       intro hh h
       simp only [cntL] at h
       by_cases h0:0 < cnt b t
       ·exact hh t (List.mem_cons_self ..) h0
       ·exact ih3 (fun t ht=>hh t (List.mem_cons_of_mem _ ht)) (by omega)
     simp only [cntLL] at h
     by_cases h0:0 < cntL b r
     ·exact aux2 r (hh r (List.mem_cons_self ..)) h0
     ·exact ih2 (fun r hr=>hh r (List.mem_cons_of_mem _ hr)) (by omega)
   exact aux rows (fun r hr t ht h0=>ih r hr t ht b h0) (by omega)
theorem Rp.move {S S':Nat→Prop} {w w':World} {t:G} (h:Rp S w t) (hs:∀ b,S b→S' b) (hw:∀ b,S b→w'.heap[b]?=w.heap[b]?) (hc:∀ b,0 < cnt b t→w'.heap[b]?=w.heap[b]?):Rp S' w' t:=by
 induction h with
 | pv h=>exact .pv h
 | no h=>exact .no h
 | ro h=>exact .ro (h.move hs hw)
 | nil=>exact .nil
 | @own z g cap e cur fz rows hg h1 h2 h3 h4 h5 h6 h7 ih =>
  refine .own ((hc g (by simp [cnt,hb]; omega)).trans hg) h1 h2 h3 h4 h5 h6 (fun r hr t ht=>ih r hr t ht (fun b hb'=>hc b ?_))
  have a1:=cnt_mem b r t ht
  have a2:=cntL_mem b rows r hr
  simp only [cnt]
  omega
section
variable {τ:Type}
def Tr.rows:Tr τ→List (List (Tr τ))
 | .sl _ _ _ rs=>rs
 | _=>[]
def Tr.own:Tr τ→Bool
 | .sl o _ _ _=>o
 | _=>false
def cellAt (t:Tr τ) (i j:Nat):Option (Tr τ):=(t.rows[i]?).bind (·[j]?)
def atP:Tr τ→List (Nat×Nat)→Option (Tr τ)
 | t,[]=>some t
 | t,(i,j)::p=>bif t.own then (cellAt t i j).bind (atP · p) else none
def setRows:Tr τ→List (List (Tr τ))→Tr τ
 | .sl o z h _,rs=>.sl o z h rs
 | t,_=>t
def setCell (t:Tr τ) (i j:Nat) (u:Tr τ):Tr τ:=setRows t (t.rows.set i ((t.rows.getD i []).set j u))
def setP:Tr τ→List (Nat×Nat)→Tr τ→Tr τ
 | _,[],u=>u
 | t,(i,j)::p,u=>match cellAt t i j with
  | some c=>setCell t i j (setP c p u)
  | none=>t
end
theorem er_rows (t:G):(er t).rows=t.rows.map (·.map er):=by cases t <;> simp [er,Tr.rows,erLL_eq]
theorem er_own (t:G):(er t).own=t.own:=by cases t <;> simp [er,Tr.own]
theorem er_cellAt (t:G) (i j:Nat):cellAt (er t) i j=(cellAt t i j).map er:=by
 unfold cellAt
 rw [er_rows,List.getElem?_map]
 cases t.rows[i]? <;> simp
theorem er_atP:∀ (p:List (Nat×Nat)) (t:G),atP (er t) p=(atP t p).map er
 | [],t=>by simp [atP]
 | (i,j)::p,t=>by
  simp only [atP,er_own,er_cellAt]
  cases t.own <;> simp
  cases cellAt t i j with
  | none=>simp
  | some c=>simpa using er_atP p c
theorem er_setRows (t:G) (rs:List (List G)):er (setRows t rs)=setRows (er t) (rs.map (·.map er)):=by cases t <;> simp [er,setRows,erLL_eq]
theorem er_setCell (t:G) (i j:Nat) (u:G):er (setCell t i j u)=setCell (er t) i j (er u):=by
 unfold setCell
 rw [er_setRows,er_rows,List.map_set,List.map_set]
 congr 3
 simp only [List.getD_eq_getElem?_getD,List.getElem?_map]
 cases t.rows[i]? <;> simp
theorem er_setP:∀ (p:List (Nat×Nat)) (t u:G),er (setP t p u)=setP (er t) p (er u)
 | [],t,u=>by simp [setP]
 | (i,j)::p,t,u=>by
  simp only [setP,er_cellAt]
  cases cellAt t i j with
  | none=>simp
  | some c=>simp [er_setCell,er_setP p c u]
theorem cellAt_some {τ:Type} {t:Tr τ} {i j:Nat} {c:Tr τ} (h:cellAt t i j=some c):∃ r,t.rows[i]?=some r∧r[j]?=some c:=by
 unfold cellAt at h
 cases hr:t.rows[i]? with
 | none=>rw [hr] at h; simp at h
 | some r=>rw [hr] at h; exact ⟨r,rfl,by simpa using h⟩
theorem own_form {t:G} (h:t.own=true):∃ z v rows,t = .sl true z v rows:=by
 cases t with
 | pv=>simp [Tr.own] at h
 | no=>simp [Tr.own] at h
 | sl o z v rows=>simp [Tr.own] at h; subst h; exact ⟨z,v,rows,rfl⟩
theorem setCell_form {z:Nat} {v:Value} {rows:List (List G)} {i j:Nat} {r:List G} {u:G} (hr:rows[i]?=some r):setCell (.sl true z v rows) i j u = .sl true z v (rows.set i (r.set j u)):=by
 simp [setCell,setRows,Tr.rows,List.getD_eq_getElem?_getD,hr]
theorem cnt_setCell (b:Nat) {t c u:G} {i j:Nat} (ho:t.own=true) (h:cellAt t i j=some c):cnt b (setCell t i j u) + cnt b c=cnt b t + cnt b u:=by
 obtain ⟨z,v,rows,rfl⟩:=own_form ho
 obtain ⟨r,hr,hc⟩:=cellAt_some h
 have hr':rows[i]?=some r:=hr
 rw [setCell_form hr']
 have h1:=cntL_set b r j c u hc
 have h2:=cntLL_set b rows i r (r.set j u) hr'
 simp only [cnt]
 omega
theorem cnt_setP (b:Nat):∀ (p:List (Nat×Nat)) {t c u:G},atP t p=some c→cnt b (setP t p u) + cnt b c=cnt b t + cnt b u
 | [],t,c,u,h=>by simp [atP] at h; subst h; simp [setP]; omega
 | (i,j)::p,t,c,u,h=>by
  simp only [atP] at h
  cases ho:t.own with
  | false=>simp [ho] at h
  | true =>
   simp only [ho,cond_true] at h
   cases hc:cellAt t i j with
   | none=>simp [hc] at h
   | some d =>
    simp only [hc,Option.bind_some] at h
    have h1:=cnt_setP b p (u:=u) h
    have h2:=cnt_setCell b (u:=setP d p u) ho hc
    simp only [setP,hc]
    omega
theorem cnt_atP (b:Nat):∀ (p:List (Nat×Nat)) {t c:G},atP t p=some c→cnt b c≤cnt b t:=fun p {t c} h=>by
 have:=cnt_setP b p (u:=.pv undef) h
 simp [cnt] at this
 omega
theorem Rp.cells {S:Nat→Prop} {w:World} {z:Nat} {v:Value} {rows:List (List G)} (h:Rp S w (.sl true z v rows)):∀ r∈rows,∀ t∈r,Rp S w t:=by
 cases h with
 | nil=>intro r hr; cases hr
 | own _ _ _ _ _ _ _ h=>exact h
theorem Rp.cellAt {S:Nat→Prop} {w:World} {t c:G} {i j:Nat} (h:Rp S w t) (ho:t.own=true) (hc:cellAt t i j=some c):Rp S w c:=by
 obtain ⟨z,v,rows,rfl⟩:=own_form ho
 obtain ⟨r,hr,hc⟩:=cellAt_some hc
 exact h.cells r (List.mem_of_getElem? hr) c (List.mem_of_getElem? hc)
theorem Rp.atP {S:Nat→Prop} {w:World}:∀ (p:List (Nat×Nat)) {t c:G},Rp S w t→X.atP t p=some c→Rp S w c
 | [],t,c,h,hc=>by simp [X.atP] at hc; subst hc; exact h
 | (i,j)::p,t,c,h,hc=>by
  simp only [X.atP] at hc
  cases ho:t.own with
  | false=>simp [ho] at hc
  | true =>
   simp only [ho,cond_true] at hc
   cases hd:X.cellAt t i j with
   | none=>simp [hd] at hc
   | some d =>
    simp only [hd,Option.bind_some] at hc
    exact Rp.atP p (h.cellAt ho hd) hc
theorem Rp.exchange {S S':Nat→Prop} {w w':World} {t c u:G} {i j:Nat} (h:Rp S w t) (ho:t.own=true) (hc:X.cellAt t i j=some c) (hu:Rp S' w' u) (hh:hdr u=hdr c)
  (hs:∀ b,S b→S' b) (hS:∀ b,S b→w'.heap[b]?=w.heap[b]?) (hw:∀ b,cnt b c < cnt b t→w'.heap[b]?=w.heap[b]?):Rp S' w' (setCell t i j u):=by
 obtain ⟨z,v,rows,rfl⟩:=own_form ho
 obtain ⟨r,hr,hcc⟩:=cellAt_some hc
 replace hr:rows[i]?=some r:=hr
 rw [setCell_form hr]
 have hj:=(List.getElem?_eq_some_iff.1 hcc).1
 have hi:=(List.getElem?_eq_some_iff.1 hr).1
 cases h with
 | nil=>simp at hr
 | @own _ g cap e cur fz _ hg h1 h2 h3 h4 h5 h6 h7 =>
  have cle:∀ b,cnt b c≤cntLL b rows:=fun b=>by
   have a1:=cnt_mem b r c (List.mem_of_getElem? hcc)
   have a2:=cntL_mem b rows r (List.mem_of_getElem? hr)
   omega
  have key:Rp S' w' (.sl true z (.slice (some ⟨g,0,none⟩) (rows.set i (r.set j u)).length cap) (rows.set i (r.set j u))):=by
   refine .own (cur:=cur) (fz:=fz) (e:=e) ?_ h1 (by simpa using h2) h3 h4 ?_ ?_ ?_
   ·refine (hw g ?_).trans hg
    have:=cle g
    simp only [cnt,hb,if_true]
    omega
   ·intro x hx
    rcases List.mem_or_eq_of_mem_set hx with hx | rfl
    ·exact h5 x hx
    ·rw [List.length_set]; exact h5 r (List.mem_of_getElem? hr)
   ·rw [hds_set i j r u h5 hr hj,List.length_set,hh,h6]
    have:=hds_get i j r c h5 hr hcc
    apply List.ext_getElem?
    intro k
    rw [List.getElem?_set]
    split
    ·rename_i hk; subst hk
     split
     ·exact this
     ·rename_i hlt; rw [List.getElem?_eq_none (by omega)] at this; simp at this
    ·rfl
   ·intro x hx y hy
    have old:∀ y:G,Rp S w y→(∀ b,cnt b y + cnt b c≤cntLL b rows)→Rp S' w' y:=fun y h hle=>h.move hs hS (fun b hb0=>hw b (by
     have:=hle b
     simp only [cnt]
     omega))
    obtain ⟨i',hi',rfl⟩:=List.mem_iff_getElem.1 hx
    rw [List.getElem_set] at hy
    split at hy
    ·obtain ⟨j',hj',rfl⟩:=List.mem_iff_getElem.1 hy
     rw [List.getElem_set]
     split
     ·exact hu
     ·rename_i hne
      refine old _ (h7 r (List.mem_of_getElem? hr) _ (List.getElem_mem _)) fun b=>?_
      have a1:=cntL_set b r j c (.pv undef) hcc
      have hj2:j' < r.length:=by simpa using hj'
      have a2:cnt b r[j']≤cntL b (r.set j (.pv undef)):=cnt_mem b _ _ (by
       have:r[j']=(r.set j (.pv undef))[j']'(by simpa using hj2):=by rw [List.getElem_set_ne hne]
       rw [this]; exact List.getElem_mem _)
      have a3:=cntL_mem b rows r (List.mem_of_getElem? hr)
      simp only [cnt] at a1
      omega
    ·rename_i hne
     refine old y (h7 _ (List.getElem_mem _) y hy) fun b=>?_
     have a1:=cntLL_set b rows i r [] hr
     have hi2:i' < rows.length:=by simpa using hi'
     have a2:cntL b rows[i']≤cntLL b (rows.set i []):=cntL_mem b _ _ (by
      have:rows[i']=(rows.set i [])[i']'(by simpa using hi2):=by rw [List.getElem_set_ne hne]
      rw [this]; exact List.getElem_mem _)
     have a3:=cnt_mem b _ y hy
     have a4:=cnt_mem b r c (List.mem_of_getElem? hcc)
     simp only [cntL] at a1
     omega
  simpa using key
theorem hdr_setP:∀ (p:List (Nat×Nat)) {t c u:G},atP t p=some c→hdr u=hdr c→hdr (setP t p u)=hdr t
 | [],t,c,u,h,hh=>by simp [atP] at h; subst h; simpa [setP] using hh
 | (i,j)::p,t,c,u,h,hh=>by
  simp only [setP]
  cases hc:X.cellAt t i j with
  | none=>rfl
  | some d=>cases t <;> simp [setCell,setRows,hdr]
theorem Rp.setP {S S':Nat→Prop} {w w':World} (hs:∀ b,S b→S' b) (hS:∀ b,S b→w'.heap[b]?=w.heap[b]?):∀ (p:List (Nat×Nat)) {t c u:G},Rp S w t→X.atP t p=some c→Rp S' w' u→hdr u=hdr c→
  (∀ b,cnt b c < cnt b t→w'.heap[b]?=w.heap[b]?)→Rp S' w' (X.setP t p u)
 | [],t,c,u,_,_,hu,_,_=>by simpa [X.setP] using hu
 | (i,j)::p,t,c,u,h,hc,hu,hh,hw=>by
  simp only [X.atP] at hc
  cases ho:t.own with
  | false=>simp [ho] at hc
  | true =>
   simp only [ho,cond_true] at hc
   cases hd:X.cellAt t i j with
   | none=>simp [hd] at hc
   | some d =>
    simp only [hd,Option.bind_some] at hc
    have hdt:∀ b,cnt b d≤cnt b t:=fun b=>cnt_atP b [(i,j)] (by simp [X.atP,ho,hd])
    have hcd:∀ b,cnt b c≤cnt b d:=fun b=>cnt_atP b p hc
    simp only [X.setP,hd]
    exact h.exchange ho hd (Rp.setP hs hS p (h.cellAt ho hd) hc hu hh (fun b hb0=>hw b (by have:=hdt b; omega))) (hdr_setP p hc hh) hs hS (fun b hb0=>hw b (by have:=hcd b; omega))
theorem Rp.remade {S:Nat→Prop} {w w':World} {z g cap e:Nat} {cur:Array Value} {fz:Nat×Nat} {rows:List (List G)} (hg:w'.heap[g]?=some (.cells cur e fz)) (h1:∀ o,o < cur.size→¬ (fz.1≤o∧o < fz.2))
  (h2:rows.length≤cap) (h3:cap≤maxLen) (h4:cur.size=cap * z) (h5:∀ r∈rows,r.length=z) (h6:cur.toList.take (rows.length * z)=hds rows) (h7:∀ r∈rows,∀ t∈r,Rp S w t) (h8:∀ b,S b→w'.heap[b]?=w.heap[b]?)
  (h9:∀ b,0 < cntLL b rows→w'.heap[b]?=w.heap[b]?):Rp S w' (.sl true z (.slice (some ⟨g,0,none⟩) rows.length cap) rows) :=
 .own hg h1 h2 h3 h4 h5 h6 fun r hr t ht=>(h7 r hr t ht).move (fun _ h=>h) h8 (fun b hb0=>h9 b (by
  have a1:=cnt_mem b r t ht
  have a2:=cntL_mem b rows r hr
  omega))
end Go.X

namespace Go.X
inductive Cel where
 | pv (v:Value)
 | nils (z:Nat)
 | ro (z:Nat) (rows:List (List T))
 | rf (r c:Nat) (p:List (Nat×Nat)) (z off len:Nat)
 | dead
 deriving Inhabited
inductive SV where
 | un
 | one (c:Cel)
 | agg (cs:List Cel)
 | tup (vs:List SV)
 | bp (b off:Nat)
 | ap (r c:Nat) (p:List (Nat×Nat)) (z i j:Nat)
 | rp (cs:List T)
 | fn (g b off:Nat)
 deriving Inhabited
inductive AV where
 | one (t:T)
 | agg (ts:List T)
 | ptr (ts:List T)
 deriving Inhabited
structure Res where
 res:List AV
 outs:List (List T)
structure St where
 s:List (Nat×SV)
 b:List (Nat×List Cel)
 r:List (Nat×List T)
section
variable {α:Type}
def get:List (Nat×α)→Nat→Option α
 | [],_=>none
 | (j,v)::l,k=>bif j==k then some v else get l k
def put (l:List (Nat×α)) (k:Nat) (v:α):List (Nat×α):=(k,v)::l
def rep:List (Nat×α)→Nat→α→List (Nat×α)
 | [],k,v=>[(k,v)]
 | (j,u)::l,k,v=>bif j==k then (j,v)::l else (j,u)::rep l k v
end
abbrev Key:=Nat×Nat
inductive Prg (α:Type):Type where
 | done (a:α)
 | fail
 | gs (t:Nat) (k:SV→Prg α)
 | ss (t:Nat) (v:SV) (k:Prg α)
 | gb (b:Nat) (k:List Cel→Prg α)
 | sb (b:Nat) (v:List Cel) (k:Prg α)
 | nb (b:Nat) (v:List Cel) (k:Prg α)
 | gr (r:Nat) (k:List T→Prg α)
 | sr (r:Nat) (v:List T) (k:Prg α)
 | nr (r:Nat) (v:List T) (k:Prg α)
 | chk (c:Bool) (k:Prg α)
 | ov (o:Option Value) (k:Value→Prg α)
 | call (f:Nat) (as:List AV) (k:Res→Prg α)
 | all (c:St→Bool) (k:Prg α)
def AllX (c:St→Bool) (st:St):Prop:=∃ st',(∀ t,get st'.s t=get st.s t)∧(∀ t,get st'.b t=get st.b t)∧c st'=true
def runP {α:Type} (Te:Nat→List AV→Res→Prop):Prg α→St→(α→St→Prop)→Prop
 | .done a,st,Q=>Q a st
 | .fail,_,_=>False
 | .gs t k,st,Q=>runP Te (k ((get st.s t).getD .un)) st Q
 | .ss t v k,st,Q=>runP Te k { st with s:=put st.s t v } Q
 | .gb b k,st,Q=>match get st.b b with
  | some cs=>runP Te (k cs) st Q
  | none=>False
 | .sb b v k,st,Q=>match get st.b b with
  | some _=>runP Te k { st with b:=rep st.b b v } Q
  | none=>False
 | .nb b v k,st,Q=>match get st.b b with
  | some _=>False
  | none=>runP Te k { st with b:=rep st.b b v } Q
 | .gr r k,st,Q=>match get st.r r with
  | some cs=>runP Te (k cs) st Q
  | none=>False
 | .sr r v k,st,Q=>match get st.r r with
  | some _=>runP Te k { st with r:=rep st.r r v } Q
  | none=>False
 | .nr r v k,st,Q=>match get st.r r with
  | some _=>False
  | none=>runP Te k { st with r:=rep st.r r v } Q
 | .chk c k,st,Q=>c=true∧runP Te k st Q
 | .ov o k,st,Q=>match o with
  | some v=>runP Te (k v) st Q
  | none=>False
 | .call f as k,st,Q=>∃ r,Te f as r∧runP Te (k r) st Q
 | .all c k,st,Q=>AllX c st∧runP Te k st Q
section
variable {α:Type}
def isPv {τ:Type}:Tr τ→Bool
 | .pv _=>true
 | _=>false
def flat {τ:Type}:List (List (Tr τ))→Bool
 | []=>true
 | r::rs=>r.all isPv&&flat rs
mutual
def lent:T→T
 | .sl _ z _ rows=>.sl false z () (lentLL rows)
 | t=>t
def lentL:List T→List T
 | []=>[]
 | t::ts=>lent t::lentL ts
def lentLL:List (List T)→List (List T)
 | []=>[]
 | r::rs=>lentL r::lentLL rs
end
mutual
def whole:T→Bool
 | .pv _=>true
 | .no _=>false
 | .sl _ _ _ rows=>wholeLL rows
def wholeL:List T→Bool
 | []=>true
 | t::ts=>whole t&&wholeL ts
def wholeLL:List (List T)→Bool
 | []=>true
 | r::rs=>wholeL r&&wholeLL rs
end
mutual
def noRo:T→Bool
 | .pv _=>true
 | .no _=>true
 | .sl o _ _ rows=>o&&noRoLL rows
def noRoL:List T→Bool
 | []=>true
 | t::ts=>noRo t&&noRoL ts
def noRoLL:List (List T)→Bool
 | []=>true
 | r::rs=>noRoL r&&noRoLL rs
end
def celOf (r c:Nat) (p:List (Nat×Nat)):T→Cel
 | .pv v=>.pv v
 | .sl true z _ rows=>.rf r c p z 0 rows.length
 | .sl false z _ rows=>.ro z rows
 | .no _=>.dead
def plant (r:Nat):Nat→List T→List Cel
 | _,[]=>[]
 | k,t::ts=>celOf r k [] t::plant r (k + 1) ts
def readO (r c:Nat) (p:List (Nat×Nat)) (i:Nat):Nat→List T→List Cel
 | _,[]=>[]
 | j,t::ts=>celOf r c (p++[(i,j)]) t::readO r c p i (j + 1) ts
def readR:List T→List Cel
 | []=>[]
 | .pv v::ts=>.pv v::readR ts
 | .sl _ z _ rows::ts=>.ro z rows::readR ts
 | .no _::ts=>.dead::readR ts
def node (cs:List T) (c:Nat) (p:List (Nat×Nat)) (z:Nat) (k:List (List T)→Prg α):Prg α :=
 match (cs[c]?).bind (atP · p) with
 | some (.sl true z' _ rows)=>.chk (z'==z) (k rows)
 | _=>.fail
def putAt (cs:List T) (c:Nat) (p:List (Nat×Nat)) (u:T):List T :=
 match cs[c]? with
 | some t=>cs.set c (setP t p u)
 | none=>cs
def takeC (x:Cel) (k:T→Prg α):Prg α :=
 match x with
 | .pv v=>k (.pv v)
 | .nils z=>k (.sl true z () [])
 | .ro z rows=>k (.sl false z () rows)
 | .rf r c p z off len=>.gr r fun cs=>node cs c p z fun rows=>.chk (off==0&&decide (len≤rows.length))
  (.sr r (putAt cs c p (.no ())) (k (.sl true z () (rows.take len))))
 | .dead=>k (.no ())
def takeL:List Cel→(List T→Prg α)→Prg α
 | [],k=>k []
 | x::xs,k=>takeC x fun t=>takeL xs fun ts=>k (t::ts)
def lendC (x:Cel) (k:T→Prg α):Prg α :=
 match x with
 | .pv v=>k (.pv v)
 | .nils z=>k (.sl false z () [])
 | .ro z rows=>k (.sl false z () rows)
 | .rf r c p z off len=>.gr r fun cs=>node cs c p z fun rows=>.chk (decide (off + len≤rows.length)&&wholeLL ((rows.drop off).take len))
  (k (.sl false z () (lentLL ((rows.drop off).take len))))
 | .dead=>.fail
def lendL:List Cel→(List T→Prg α)→Prg α
 | [],k=>k []
 | x::xs,k=>lendC x fun t=>lendL xs fun ts=>k (t::ts)
def SV.cels:SV→Option (List Cel)
 | .one c=>some [c]
 | .agg cs=>some cs
 | _=>none
def withCels (v:SV) (k:List Cel→Prg α):Prg α :=
 match v.cels with
 | some cs=>k cs
 | none=>.fail
inductive Opd where
 | t (n:Nat)
 | k (v:SV)
def Opd.ev (x:Opd) (k:SV→Prg α):Prg α :=
 match x with
 | .t n=>.gs n k
 | .k v=>k v
def evL:List Opd→(List SV→Prg α)→Prg α
 | [],k=>k []
 | x::xs,k=>x.ev fun v=>evL xs fun vs=>k (v::vs)
def evPs:List (Nat×Nat×Opd)→(List (Nat×Nat×SV)→Prg α)→Prg α
 | [],k=>k []
 | (o,m,x)::xs,k=>x.ev fun v=>evPs xs fun vs=>k ((o,m,v)::vs)
end
inductive Cv where
 | int (k:IntKind)
 | b2s
 | s2b
inductive COp where
 | mv (x:Opd)
 | pick (c a b:Opd)
 | alloc (z:List Cel)
 | box (x:Opd)
 | build (z:List Cel) (ps:List (Nat×Nat×Opd))
 | bslice (z:Nat) (ps:List Opd)
 | load (n:Option Nat) (a:Opd)
 | store (m:Nat) (a x:Opd)
 | nilc (x:Opd)
 | bin (o:BinOp) (x y:Opd)
 | beq (neg:Bool) (x y:Opd)
 | eqs (neg:Bool) (ts:List Nat) (x y:Opd)
 | not (x:Opd)
 | conv (c:Cv) (x:Opd)
 | len (x:Opd)
 | slen (x:Opd)
 | min (x y:Opd)
 | max (x y:Opd)
 | app (z bytes:Nat) (s x:Opd)
 | apps (z bytes:Nat) (s x:Opd)
 | slice (z:Nat) (x:Opd) (lo hi:Option Opd)
 | sslice (x:Opd) (lo hi:Option Opd)
 | faddr (x:Opd) (off:Nat)
 | iaddr (z:Nat) (x i:Opd)
 | aaddr (n z:Nat) (x i:Opd)
 | sidx (x i:Opd)
 | mks (z bytes:Nat) (zc:List T) (n:Opd)
 | ext (x:Opd) (i:Nat)
 | fld (m:Option Nat) (x:Opd) (off:Nat)
 | call (f:Nat) (ms:List Nat) (xs:List Opd)
 | io (f:Nat) (x:Opd) (ys:List Opd)
 | clos (g:Nat) (x:Opd)
 | vcall (f g:Nat) (ms:List Nat) (xs:List Opd) (y:Opd)
 | dcall (g:Nat) (ms:List Nat) (xs:List Opd) (y:Opd)
 | clear (z:Nat) (zc:List T) (x:Opd)
def VN:Nat:=1048576
def binV (o:BinOp) (x y:Value):Option Value :=
 match x,y with
 | .int k a,.int k' b =>
  match o with
  | .shl=>bif decide (0≤b) then some (.int k (k.wrap (a * 2 ^ (Nat.min b.toNat k.bits)))) else none
  | .shr=>bif decide (0≤b) then some (.int k (a.fdiv (2 ^ (Nat.min b.toNat k.bits)))) else none
  | .add=>bif k==k' then some (.int k (k.wrap (a + b))) else none
  | .sub=>bif k==k' then some (.int k (k.wrap (a - b))) else none
  | .mul=>bif k==k' then some (.int k (k.wrap (a * b))) else none
  | .quo=>bif k==k' && !(b==0) then some (.int k (k.wrap (a.tdiv b))) else none
  | .rem=>bif k==k' && !(b==0) then some (.int k (a.tmod b)) else none
  | .and=>bif k==k' then some (.int k (k.wrap (BitVec.ofInt k.bits a &&& BitVec.ofInt k.bits b).toNat)) else none
  | .or=>bif k==k' then some (.int k (k.wrap (BitVec.ofInt k.bits a ||| BitVec.ofInt k.bits b).toNat)) else none
  | .xor=>bif k==k' then some (.int k (k.wrap (BitVec.ofInt k.bits a ^^^ BitVec.ofInt k.bits b).toNat)) else none
  | .andNot=>bif k==k' then some (.int k (k.wrap (BitVec.ofInt k.bits a &&& ~~~ BitVec.ofInt k.bits b).toNat)) else none
  | .eql=>bif k==k' then some (.bool (a==b)) else none
  | .neq=>bif k==k' then some (.bool (a != b)) else none
  | .lss=>bif k==k' then some (.bool (decide (a < b))) else none
  | .leq=>bif k==k' then some (.bool (decide (a≤b))) else none
  | .gtr=>bif k==k' then some (.bool (decide (a > b))) else none
  | .geq=>bif k==k' then some (.bool (decide (a≥b))) else none
 | .string a,.string b =>
  match o with
  | .add=>bif decide (a.size + b.size≤4294967296) then some (.string (a++b)) else none
  | .eql=>some (.bool (a.toList==b.toList))
  | .neq=>some (.bool (!(a.toList==b.toList)))
  | .lss=>some (.bool (Op.bytesLess a.toList b.toList))
  | .leq=>some (.bool (Op.bytesLess a.toList b.toList||a.toList==b.toList))
  | .gtr=>some (.bool (!(Op.bytesLess a.toList b.toList||a.toList==b.toList)))
  | .geq=>some (.bool (!Op.bytesLess a.toList b.toList))
  | _=>none
 | _,_=>none
def eqV (t:Nat) (x y:Value):Option Bool :=
 match t,x,y with
 | 0,.int k a,.int k' b=>bif k==k' then some (a==b) else none
 | 1,.bool a,.bool b=>some (a==b)
 | 2,.string a,.string b=>some (a.toList==b.toList)
 | _,_,_=>none
def eqL:List Nat→List Cel→List Cel→Option Bool
 | [],[],[]=>some true
 | t::ts,.pv x::xs,.pv y::ys=>(eqV t x y).bind fun b=>(eqL ts xs ys).map fun r=>b&&r
 | _,_,_=>none
section
variable {α:Type}
def nat? (v:SV) (k:Nat→Prg α):Prg α :=
 match v with
 | .one (.pv (.int _ n))=>.chk (decide (0≤n)) (k n.toNat)
 | _=>.fail
def opt? (v:Option Opd) (z:Nat) (k:Nat→Prg α):Prg α :=
 match v with
 | none=>k z
 | some x=>x.ev fun v=>nat? v k
def byteOf:T→UInt8
 | .pv (.int _ n)=>UInt8.ofNat n.toNat
 | _=>0
def isByte:T→Bool
 | .pv (.int .u8 _)=>true
 | _=>false
def bytesOf (rows:List (List T)):List UInt8:=rows.map fun r=>byteOf (r.headD (.no ()))
def areBytes:List (List T)→Bool
 | []=>true
 | r::rs=>(match r with | [t]=>isByte t | _=>false)&&areBytes rs
def byteT (b:UInt8):List T:=[.pv (.int .u8 b.toNat)]
def ofBytes (bs:List UInt8):List (List T):=bs.map byteT
def goneC {τ:Type}:Tr τ→Tr τ
 | .sl true _ h _=>.no h
 | t=>t
def goneRows {τ:Type} (rows:List (List (Tr τ))) (off len:Nat):List (List (Tr τ)):=rows.take off++(((rows.drop off).take len).map fun r=>r.map goneC)++rows.drop (off + len)
def srcP (z:Nat) (v:SV) (k:List (List T)→Prg α):Prg α :=
 match v with
 | .one (.nils z')=>.chk (z'==z) (k [])
 | .one (.ro z' rs)=>.chk (z'==z) (k rs)
 | .one (.rf r c p z' off len)=>.gr r fun cs=>node cs c p z' fun rows=>.chk (z'==z&&decide (off + len≤rows.length))
  (bif flat ((rows.drop off).take len) then k ((rows.drop off).take len)
   else .sr r (putAt cs c p (.sl true z () (goneRows rows off len))) (k ((rows.drop off).take len)))
 | _=>.fail
def fin (d:Option Nat) (v:SV):Prg Unit :=
 match d with
 | some d=>.ss d v (.done ())
 | none=>.done ()
def newSl (d z:Nat) (rows:List (List T)):Prg Unit :=
 .nr d [.sl true z () rows] (.ss d (.one (.rf d 0 [] z 0 rows.length)) (.done ()))
def appP (d z bytes:Nat) (s:SV) (new:List (List T)):Prg Unit :=
 .chk (new.all (·.length==z)) (match s with
 | .one (.nils z')=>.chk (z'==z&&decide (new.length * bytes≤140737488355328)&&decide (new.length≤4294967296)) (newSl d z new)
 | .one (.rf r c p z' off len)=>.gr r fun cs=>node cs c p z' fun rows =>
  .chk (z'==z&&off==0&&decide (len≤rows.length)&&decide ((len + new.length) * bytes≤140737488355328)&&decide (len + new.length≤4294967296))
   (.sr r (putAt cs c p (.no ())) (newSl d z (rows.take len++new)))
 | _=>.fail)
def takeRows:List SV→(List (List T)→Prg α)→Prg α
 | [],k=>k []
 | v::vs,k=>withCels v fun cs=>takeL cs fun r=>takeRows vs fun rs=>k (r::rs)
def fillC:List (Nat×Nat×SV)→List Cel→Option (List Cel)
 | [],z=>some z
 | (off,m,v)::ps,z=>v.cels.bind fun cs=>bif cs.length==m&&decide (off + cs.length≤z.length) then fillC ps (z.take off++cs++z.drop (off + cs.length)) else none
def lowerR (r c:Nat) (p:List (Nat×Nat)) (i:Nat) (r' c':Nat) (p':List (Nat×Nat)):Bool:=r==r'&&c==c'&&p'.take p.length==p&&(match p'.drop p.length with
 | []=>false
 | x::_=>x.1==i)
def lowerC (r c:Nat) (p:List (Nat×Nat)) (i:Nat):Cel→Bool
 | .rf r' c' p' _ _ _=>lowerR r c p i r' c' p'
 | _=>false
def SV.lowerS (r c:Nat) (p:List (Nat×Nat)) (i:Nat):SV→Bool
 | .one x=>lowerC r c p i x
 | .agg cs=>cs.any (lowerC r c p i)
 | .ap r' c' p' _ _ _=>lowerR r c p i r' c' p'
 | .tup _=>true
 | _=>false
def noLowerR (r c:Nat) (p:List (Nat×Nat)) (i:Nat) (st:St):Bool:=(st.s.all fun x=>!(x.2.lowerS r c p i))&&(st.b.all fun x=>!(x.2.any (lowerC r c p i)))
def lower (r c:Nat) (p:List (Nat×Nat)):Cel→Bool
 | .rf r' c' p' _ _ _=>r==r'&&c==c'&&decide (p.length < p'.length)&&p'.take p.length==p
 | _=>false
def SV.lower (r c:Nat) (p:List (Nat×Nat)):SV→Bool
 | .one x=>X.lower r c p x
 | .agg cs=>cs.any (X.lower r c p)
 | .ap r' c' p' _ _ _=>r==r'&&c==c'&&decide (p.length < p'.length)&&p'.take p.length==p
 | .tup _=>true
 | _=>false
def noLower (r c:Nat) (p:List (Nat×Nat)) (st:St):Bool:=(st.s.all fun x=>!(x.2.lower r c p))&&(st.b.all fun x=>!(x.2.any (lower r c p)))
def setCells {τ:Type} (row:List (Tr τ)) (j:Nat) (ts:List (Tr τ)):List (Tr τ):=row.take j++ts++row.drop (j + ts.length)
def passOwn:List Nat→List SV→(List (Option AV)→Prg α)→Prg α
 | m::ms,v::vs,k =>
  match m,v with
  | 0,_=>passOwn ms vs fun l=>k (none::l)
  | 1,.one c=>takeC c fun t=>passOwn ms vs fun l=>k (some (.one t)::l)
  | 1,.agg cs=>takeL cs fun ts=>passOwn ms vs fun l=>k (some (.agg ts)::l)
  | m + 2,.bp b off=>.gb b fun cs=>.chk (decide (off + m≤cs.length)) (takeL ((cs.drop off).take m) fun ts=>passOwn ms vs fun l=>k (some (.ptr ts)::l))
  | _,_=>.fail
 | [],[],k=>k []
 | _,_,_=>.fail
def passLend:List SV→List (Option AV)→(List AV→Prg α)→Prg α
 | _::vs,some a::as,k=>passLend vs as fun l=>k (a::l)
 | .one c::vs,none::as,k=>lendC c fun t=>passLend vs as fun l=>k (.one t::l)
 | .agg cs::vs,none::as,k=>lendL cs fun ts=>passLend vs as fun l=>k (.agg ts::l)
 | [],[],k=>k []
 | _,_,_=>.fail
end
def AV.ts:AV→List T
 | .one t=>[t]
 | .agg ts=>ts
 | .ptr ts=>ts
def AV.slot (d k:Nat):AV→SV
 | .one t=>.one (celOf d k [] t)
 | .agg ts=>.agg (plant d k ts)
 | .ptr _=>.un
def slots (d:Nat):Nat→List AV→List SV
 | _,[]=>[]
 | k,a::as=>a.slot d k::slots d (k + a.ts.length) as
def slotsP (d:Option Nat) (id:Nat):List AV→Prg Unit
 | [.ptr ts]=>.nb id (plant id 0 ts) (fin d (.bp id 0))
 | [a]=>fin d (a.slot id 0)
 | as=>fin d (.tup (slots id 0 as))
def isRf:Cel→Bool
 | .rf ..=>true
 | _=>false
def hasRf:SV→Bool
 | .one c=>isRf c
 | .agg cs=>cs.any isRf
 | _=>false
def lentOwn:List Nat→List SV→Bool
 | m::ms,v::vs=>(m==0&&hasRf v)||lentOwn ms vs
 | _,_=>false
def ptrOuts:List Nat→List (List T)→List T
 | (_ + 2)::ms,o::os=>o++ptrOuts ms os
 | _::ms,_::os=>ptrOuts ms os
 | _,_=>[]
section
variable {α:Type}
def backC (c:Cel) (t:T) (k:Prg α):Prg α :=
 match c with
 | .rf r c p _ _ _=>.gr r fun cs=>match (cs[c]?).bind (atP · p) with
  | some (.no _)=>bif flat t.rows then .sr r (putAt cs c p t) k else .all (noLower r c p) (.sr r (putAt cs c p t) k)
  | _=>.fail
 | _=>k
def backL:List Cel→List T→Prg α→Prg α
 | c::cs,t::ts,k=>backC c t (backL cs ts k)
 | [],[],k=>k
 | _,_,_=>.fail
def takeW (x:Cel) (k:T→Prg α):Prg α :=
 match x with
 | .pv v=>k (.pv v)
 | .nils z=>k (.sl true z () [])
 | .rf r c p z off len=>.gr r fun cs=>node cs c p z fun rows=>.chk (off==0&&len==rows.length) (.sr r (putAt cs c p (.no ())) (k (.sl true z () rows)))
 | _=>.fail
def takeWs:List Cel→(List T→Prg α)→Prg α
 | [],k=>k []
 | x::xs,k=>takeW x fun t=>takeWs xs fun ts=>k (t::ts)
def keyOf:Cel→List (Nat×Nat)
 | .rf r c _ _ _ _=>[(r,c)]
 | _=>[]
def lone:List (Nat×Nat)→Bool
 | []=>true
 | x::xs=>!xs.contains x&&lone xs
def plainV:SV→Option T
 | .one (.pv v)=>some (.pv v)
 | _=>none
def plains:List SV→Option (List AV)
 | []=>some []
 | v::vs=>(plainV v).bind fun t=>(plains vs).map fun l=>.one t::l
def boxesOf:List Nat→List SV→List Nat
 | (_ + 2)::ms,.bp b _::vs=>b::boxesOf ms vs
 | _::ms,_::vs=>boxesOf ms vs
 | _,_=>[]
def loneN:List Nat→Bool
 | []=>true
 | x::xs=>!xs.contains x&&loneN xs
def backP (d:Nat):List Nat→List SV→List (List T)→Nat→Prg α→Prg α
 | m::ms,v::vs,o::os,n,k =>
  match m,v with
  | m + 2,.bp b off=>.gb b fun cs=>.chk (o.length==m&&decide (off + m≤cs.length)) (.sb b (cs.take off++plant d n o++cs.drop (off + m)) (backP d ms vs os (n + m) k))
  | 0,_=>backP d ms vs os n k
  | 1,_=>backP d ms vs os n k
  | _,_=>.fail
 | [],[],[],_,k=>k
 | _,_,_,_,_=>.fail
end
def deadRo:Cel→Cel
 | .ro _ _=>.dead
 | c=>c
def callP (d:Option Nat) (id f:Nat) (ms:List Nat) (vs:List SV):Prg Unit :=
 .chk (loneN (boxesOf ms vs)) (passOwn ms vs fun os=>passLend vs os fun as=>.call f as fun r =>
  .chk (!lentOwn ms vs||(noRoL (r.res.flatMap AV.ts)&&noRoL (ptrOuts ms r.outs)))
  (.nr id (r.res.flatMap AV.ts++ptrOuts ms r.outs) (backP id ms vs r.outs (r.res.flatMap AV.ts).length (slotsP d id r.res))))
def ioP (d:Option Nat) (f:Nat) (v:SV) (ys:List SV):Prg Unit :=
 match plains ys with
 | none=>.fail
 | some as=>match v with
  | .one c=>takeWs [c] fun ts=>match ts with
   | [t]=>.call f (.one t::as) fun r=>match r with
    | ⟨[.one (.pv u)],o::_⟩=>backL [c] o (fin d (.one (.pv u)))
    | _=>.fail
   | _=>.fail
  | .agg cs=>.chk (lone (cs.flatMap keyOf)) (takeWs cs fun ts=>.call f (.agg ts::as) fun r=>match r with
   | ⟨[.one (.pv u)],o::_⟩=>backL cs o (fin d (.one (.pv u)))
   | _=>.fail)
  | _=>.fail
def storeAp (r c:Nat) (p:List (Nat×Nat)) (z i j:Nat) (ts:List T):Prg Unit :=
 .gr r fun root=>node root c p z fun rows=>.chk (decide (i < rows.length)&&decide (j + ts.length≤z))
  (bif ts.all isPv then
    .sr r (putAt root c p (.sl true z () (rows.set i (setCells (rows.getD i []) j ts)))) (.done ())
   else .all (noLowerR r c p i) (.sr r (putAt root c p (.sl true z () (rows.set i (setCells (rows.getD i []) j ts)))) (.done ())))
def COp.prg (d:Option Nat) (id:Nat):COp→Prg Unit
 | .mv x=>x.ev fun v=>fin d v
 | .pick c a b=>c.ev fun c=>a.ev fun a=>b.ev fun b =>
  match c with
  | .one (.pv (.bool c))=>fin d (bif c then a else b)
  | _=>.fail
 | .alloc z=>.nb id z (fin d (.bp id 0))
 | .box x=>x.ev fun v=>withCels v fun cs=>.nb id cs (fin d (.bp id 0))
 | .build z ps=>evPs ps fun ps =>
  match fillC ps z with
  | some cs=>fin d (.agg cs)
  | none=>.fail
 | .bslice z ps=>evL ps fun vs=>takeRows vs fun rs=>.chk (rs.all (·.length==z)&&decide (rs.length * z≤16777216)) (newSl id z rs)
 | .load n a=>a.ev fun v =>
  match v with
  | .bp b off=>.gb b fun cs =>
   match n with
   | none=>match cs[off]? with
    | some c=>fin d (.one c)
    | none=>.fail
   | some m=>.chk (decide (off + m≤cs.length)) (fin d (.agg ((cs.drop off).take m)))
  | .rp ts =>
   match n with
   | none=>match readR (ts.take 1) with
    | [c]=>fin d (.one c)
    | _=>.fail
   | some m=>.chk (decide (m≤ts.length)) (fin d (.agg (readR (ts.take m))))
  | .ap r c p z i j=>.gr r fun cs=>node cs c p z fun rows =>
   match n with
   | none=>match readO r c p i j (((rows.getD i []).drop j).take 1) with
    | [x]=>fin d (.one x)
    | _=>.fail
   | some m=>.chk (decide (j + m≤(rows.getD i []).length)) (fin d (.agg (readO r c p i j (((rows.getD i []).drop j).take m))))
  | _=>.fail
 | .store m a x=>a.ev fun a=>x.ev fun v=>withCels v fun cs=>.chk (cs.length==m) (match a with
  | .bp b off=>.gb b fun old=>.chk (decide (off + cs.length≤old.length)) (.sb b (old.take off++cs++old.drop (off + cs.length)) (.done ()))
  | .ap r c p z i j=>takeL cs fun ts=>storeAp r c p z i j ts
  | _=>.fail)
 | .nilc x=>x.ev fun v =>
  match v with
  | .bp ..=>fin d v
  | .ap ..=>fin d v
  | .rp ..=>fin d v
  | _=>.fail
 | .bin o x y=>x.ev fun x=>y.ev fun y =>
  match x,y with
  | .one (.pv x),.one (.pv y)=>.ov (binV o x y) fun v=>fin d (.one (.pv v))
  | _,_=>.fail
 | .beq neg x y=>x.ev fun x=>y.ev fun y =>
  match x,y with
  | .one (.pv (.bool x)),.one (.pv (.bool y))=>fin d (.one (.pv (.bool ((x==y) != neg))))
  | _,_=>.fail
 | .eqs neg kinds x y=>x.ev fun x=>y.ev fun y =>
  match x,y with
  | .agg xs,.agg ys=>.ov ((eqL kinds xs ys).map fun b=>.bool (b != neg)) fun v=>fin d (.one (.pv v))
  | _,_=>.fail
 | .not x=>x.ev fun v =>
  match v with
  | .one (.pv (.bool b))=>fin d (.one (.pv (.bool (!b))))
  | _=>.fail
 | .conv c x=>x.ev fun v =>
  match c with
  | .int k=>match v with
   | .one (.pv (.int _ n))=>fin d (.one (.pv (.int k (k.wrap n))))
   | _=>.fail
  | .b2s=>match v with
   | .one c=>lendC c fun t=>match t with
    | .sl _ z _ rows=>.chk (z==1&&areBytes rows) (fin d (.one (.pv (.string ⟨(bytesOf rows).toArray⟩))))
    | _=>.fail
   | _=>.fail
  | .s2b=>match v with
   | .one (.pv (.string s))=>.chk (decide (s.size≤4294967296)) (newSl id 1 (ofBytes s.data.toList))
   | _=>.fail
 | .len x=>x.ev fun v =>
  match v with
  | .one (.nils _)=>fin d (.one (.pv (.int .i64 0)))
  | .one (.ro _ rs)=>fin d (.one (.pv (.int .i64 rs.length)))
  | .one (.rf _ _ _ _ _ n)=>fin d (.one (.pv (.int .i64 n)))
  | _=>.fail
 | .slen x=>x.ev fun v =>
  match v with
  | .one (.pv (.string s))=>fin d (.one (.pv (.int .i64 s.size)))
  | _=>.fail
 | .min x y=>x.ev fun x=>y.ev fun y =>
  match x,y with
  | .one (.pv (.int k a)),.one (.pv (.int _ b))=>fin d (.one (.pv (.int k (bif decide (b < a) then b else a))))
  | _,_=>.fail
 | .max x y=>x.ev fun x=>y.ev fun y =>
  match x,y with
  | .one (.pv (.string a)),.one (.pv (.string b))=>fin d (.one (.pv (.string (bif !(Op.bytesLess a.toList b.toList) then a else b))))
  | _,_=>.fail
 | .app z bytes s x=>s.ev fun s=>x.ev fun x=>srcP z x fun new=>appP id z bytes s new
 | .apps z bytes s x=>s.ev fun s=>x.ev fun x=>match x with
  | .one (.pv (.string y))=>.chk (z==1) (appP id z bytes s (ofBytes y.data.toList))
  | _=>.fail
 | .sslice x lo hi=>x.ev fun v =>
  match v with
  | .one (.pv (.string s))=>opt? lo 0 fun l=>opt? hi s.size fun h=>.chk (decide (l≤h)&&decide (h≤s.size)) (fin d (.one (.pv (.string (s.extract l h)))))
  | _=>.fail
 | .slice z x lo hi=>x.ev fun v =>
  match v with
  | .one (.nils z')=>opt? lo 0 fun l=>opt? hi 0 fun h=>.chk (decide (l≤h)&&decide (h≤0)) (fin d (.one (.nils z')))
  | .one (.ro z' rs)=>opt? lo 0 fun l=>opt? hi rs.length fun h=>.chk (z'==z&&decide (l≤h)&&decide (h≤rs.length)) (fin d (.one (.ro z' ((rs.drop l).take (h - l)))))
  | .one (.rf r c p z' off n)=>opt? lo 0 fun l=>opt? hi n fun h=>.chk (z'==z&&decide (l≤h)&&decide (h≤n)) (fin d (.one (.rf r c p z' (off + l) (h - l))))
  | _=>.fail
 | .faddr x off=>x.ev fun v =>
  match v with
  | .bp b o=>fin d (.bp b (o + off))
  | .ap r c p z i j=>fin d (.ap r c p z i (j + off))
  | .rp ts=>fin d (.rp (ts.drop off))
  | _=>.fail
 | .iaddr z x i=>x.ev fun v=>i.ev fun i=>nat? i fun n =>
  match v with
  | .one (.ro z' rs)=>match rs[n]? with
   | some r=>.chk (z'==z) (fin d (.rp r))
   | none=>.fail
  | .one (.rf r c p z' off m)=>.gr r fun cs=>node cs c p z' fun _=>.chk (z'==z&&decide (n < m)) (fin d (.ap r c p z (off + n) 0))
  | _=>.fail
 | .aaddr n z x i=>x.ev fun v=>i.ev fun i=>nat? i fun m =>
  match v with
  | .bp b o=>.chk (decide (m < n)) (fin d (.bp b (o + m * z)))
  | _=>.fail
 | .sidx x i=>x.ev fun v=>i.ev fun i=>nat? i fun n =>
  match v with
  | .one (.pv (.string s))=>.chk (decide (n < s.size)) (fin d (.one (.pv (.int .u8 (s.data.toList.getD n 0).toNat))))
  | _=>.fail
 | .mks z bytes zc n=>n.ev fun n=>nat? n fun n=>.chk (decide (n * bytes≤140737488355328)&&decide (n≤4294967296)) (newSl id z (List.replicate n zc))
 | .ext x i=>x.ev fun v =>
  match v with
  | .tup vs=>match vs[i]? with
   | some v=>fin d v
   | none=>.fail
  | _=>.fail
 | .fld m x off=>x.ev fun v =>
  match v with
  | .agg cs=>match m with
   | none=>match cs[off]? with
    | some c=>fin d (.one c)
    | none=>.fail
   | some k=>.chk (decide (off + k≤cs.length)) (fin d (.agg ((cs.drop off).take k)))
  | _=>.fail
 | .call f ms xs=>evL xs fun vs=>callP d id f ms vs
 | .io f x ys=>x.ev fun v=>evL ys fun vs=>ioP d f v vs
 | .clos g x=>x.ev fun v=>match v with
  | .bp b off=>fin d (.fn g b off)
  | _=>.fail
 | .vcall f g ms xs y=>evL xs fun vs=>y.ev fun v=>match v with
  | .fn g' b off=>.chk (g'==g) (.gb b fun cs=>.sb b (cs.map deadRo) (callP d id (f + VN * (g + 1)) ms (vs++[.bp b off])))
  | _=>.fail
 | .dcall g ms xs y=>evL xs fun vs=>y.ev fun v=>match v with
  | .fn g' b off=>.chk (g'==g) (.gb b fun cs=>.sb b (cs.map deadRo) (callP d id g ms (vs++[.bp b off])))
  | _=>.fail
 | .clear z zc x=>x.ev fun v=>match v with
  | .one (.rf r c p z' o m)=>.gr r fun cs=>node cs c p z fun rows=>.chk (z'==z&&(p==[]&&decide (o + m≤rows.length)))
   (.all (noLower r c p) (.sr r (putAt cs c p (.sl true z () (rows.take o++List.replicate m zc++rows.drop (o + m)))) (.done ())))
  | _=>.fail
structure GOp where
 g:Option (Nat×Bool)
 d:Option Nat
 id:Nat
 o:COp
def GOp.prg (x:GOp):Prg Unit :=
 match x.g with
 | none=>x.o.prg x.d x.id
 | some (t,want)=>.gs t fun v =>
  match v with
  | .one (.pv (.bool b))=>bif b==want then x.o.prg x.d x.id else fin x.d (.tup [])
  | .tup []=>fin x.d (.tup [])
  | _=>.fail
def Opd.i (z:Int):Opd:=.k (.one (.pv (.int .i64 z)))
def Opd.F:Opd:=.k (.one (.pv (.bool false)))
def Opd.T:Opd:=.k (.one (.pv (.bool true)))
def Cel.i (z:Int):Cel:=.pv (.int .i64 z)
def Cel.F:Cel:=.pv (.bool false)
def Cel.e:Cel:=.pv (.string ⟨#[]⟩)
def GOp.op (d:Nat) (o:COp):GOp:=⟨none,some d,d,o⟩
def GOp.m (d a:Nat):GOp:=⟨none,some d,d,.mv (.t a)⟩
def GOp.v (d a:Nat):GOp:=⟨none,some d,d,.box (.t a)⟩
def GOp.f (d a o:Nat):GOp:=⟨none,some d,d,.faddr (.t a) o⟩
def GOp.l (d a:Nat):GOp:=⟨none,some d,d,.load none (.t a)⟩
def GOp.L (d n a:Nat):GOp:=⟨none,some d,d,.load (some n) (.t a)⟩
def GOp.s (id n a x:Nat):GOp:=⟨none,none,id,.store n (.t a) (.t x)⟩
def GOp.b (d:Nat) (o:BinOp) (x y:Nat):GOp:=⟨none,some d,d,.bin o (.t x) (.t y)⟩
def GOp.B (d:Nat) (o:BinOp) (x:Nat) (z:Int):GOp:=⟨none,some d,d,.bin o (.t x) (.k (.one (.pv (.int .i64 z))))⟩
def GOp.i (d:Nat) (z:Int):GOp:=⟨none,some d,d,.mv (.k (.one (.pv (.int .i64 z))))⟩
def GOp.F (d:Nat):GOp:=⟨none,some d,d,.mv (.k (.one (.pv (.bool false))))⟩
def GOp.T (d:Nat):GOp:=⟨none,some d,d,.mv (.k (.one (.pv (.bool true))))⟩
def GOp.a (d x y:Nat):GOp:=⟨none,some d,d,.pick (.t x) (.t y) (.k (.one (.pv (.bool false))))⟩
def GOp.r (d x y:Nat):GOp:=⟨none,some d,d,.pick (.t x) (.k (.one (.pv (.bool true)))) (.t y)⟩
def GOp.x (d z a i:Nat):GOp:=⟨none,some d,d,.iaddr z (.t a) (.t i)⟩
def GOp.n (d a:Nat):GOp:=⟨none,some d,d,.len (.t a)⟩
def GOp.N (d a:Nat):GOp:=⟨none,some d,d,.not (.t a)⟩
def GOp.e (d a i:Nat):GOp:=⟨none,some d,d,.ext (.t a) i⟩
def GOp.c (d f:Nat) (xs:List Nat):GOp:=⟨none,some d,d,.call f (xs.map fun _=>0) (xs.map .t)⟩
def GOp.y (t:Nat) (o:GOp):GOp:=⟨some (t,true),o.d,o.id,o.o⟩
def GOp.z (t:Nat) (o:GOp):GOp:=⟨some (t,false),o.d,o.id,o.o⟩
def runOps (Te:Nat→List AV→Res→Prop):List GOp→St→(St→Prop)→Prop
 | [],st,Q=>Q st
 | o::os,st,Q=>runP Te o.prg st fun _ st'=>runOps Te os st' Q
end Go.X

namespace Go.X
structure Kept where
 ok:(Nat→Prop)→World→Prop
 keep:∀ {S S':Nat→Prop} {w w':World},ok S w→(∀ b,S b→S' b)→(∀ b,S b→w'.heap[b]?=w.heap[b]?)→ok S' w'
structure Ctx where
 KP:Kept
 w0:World
 S:Nat→Prop
 F:Nat→Prop
 R:List (Nat×Nat×Nat)
 laid:KP.ok S w0
 stay:∀ b,S b→b < w0.heap.size∧¬ F b∧∀ x∈R,x.1≠b
 apart:∀ x∈R,¬ F x.1∧x.1 < w0.heap.size
 uniq:∀ x∈R,∀ y∈R,x.1=y.1→x=y
 H:Nat→Option (List Value)
 isP:Nat→Bool
 PA:Nat→Option Addr
structure Gh where
 gb:Nat→Option Addr
 gr:Nat→Option (List G)
def bcnt (b:Nat):Option Addr→Nat
 | some A=>if A.block=b then 1 else 0
 | none=>0
def rcnt (b:Nat):Option (List G)→Nat
 | some ts=>cntL b ts
 | none=>0
def Gh.has (g:Gh) (b k:Nat):Nat:=bcnt b (g.gb k) + rcnt b (g.gr k)
def tot (f:Nat→Nat):Nat→Nat
 | 0=>0
 | n + 1=>tot f n + f n
theorem tot_congr {f f':Nat→Nat}:∀ {n:Nat},(∀ k,k < n→f k=f' k)→tot f n=tot f' n
 | 0,_=>rfl
 | n + 1,h=>by simp only [tot]; rw [tot_congr (fun k hk=>h k (by omega)),h n (by omega)]
theorem tot_more {f : Nat → Nat} {N : Nat} : ∀ (M : Nat), N ≤ M → (∀ k, N ≤ k → f k = 0) → tot f M = tot f N
  | 0, h, _ => by have : N = 0 := by omega
                  subst this; rfl
  | M + 1, h, hz => by
    by_cases e : N = M + 1
    · subst e; rfl
    · simp only [tot]; rw [tot_more M (by omega) hz, hz M (by omega)]; rfl
theorem tot_upd {f f':Nat→Nat} {k:Nat}:∀ {n:Nat},k < n→(∀ j,j≠k→f' j=f j)→tot f' n + f k=tot f n + f' k
 | 0,h,_=>by omega
 | n + 1,h,hj=>by
  simp only [tot]
  by_cases e:k=n
  ·subst e; rw [tot_congr (n:=k) (f:=f') (f':=f) (fun i hi=>hj i (by omega))]; omega
  ·have:=tot_upd (n:=n) (by omega) hj
   have:=hj n (fun h=>e h.symm)
   omega
theorem tot_le {f:Nat→Nat} {k:Nat}:∀ {n:Nat},k < n→f k≤tot f n
 | 0,h=>by omega
 | n + 1,h=>by
  simp only [tot]
  by_cases e:k=n
  ·subst e; omega
  ·have:=tot_le (f:=f) (k:=k) (n:=n) (by omega); omega
theorem tot_two {f:Nat→Nat} {j k:Nat} (hjk:j≠k):∀ {n:Nat},j < n→k < n→f j + f k≤tot f n
 | 0,h,_=>by omega
 | n + 1,h,h'=>by
  simp only [tot]
  by_cases e:k=n
  ·subst e; have:=tot_le (f:=f) (k:=j) (n:=k) (by omega); omega
  ·by_cases e':j=n
   ·subst e'; have:=tot_le (f:=f) (k:=k) (n:=j) (by omega); omega
   ·have:=tot_two (f:=f) hjk (n:=n) (by omega) (by omega); omega
def Sole (g:Gh) (hand:List G):Prop:=∃ N,(∀ k,N≤k→g.gb k=none∧g.gr k=none)∧∀ b,tot (g.has b) N + cntL b hand≤1
theorem has_none {g:Gh} {k:Nat} (h:g.gb k=none∧g.gr k=none) (b:Nat):g.has b k=0:=by simp [Gh.has,h.1,h.2,bcnt,rcnt]
theorem Sole.one {g:Gh} {hand:List G} (h:Sole g hand) (b k:Nat):g.has b k + cntL b hand≤1:=by
 obtain ⟨N,h1,h2⟩:=h
 by_cases hk:k < N
 ·have:=tot_le (f:=g.has b) hk; have:=h2 b; omega
 ·rw [has_none (h1 k (by omega))]; have:=h2 b; omega
theorem Sole.two {g:Gh} {hand:List G} (h:Sole g hand) {j k:Nat} (hjk:j≠k) (b:Nat):g.has b j + g.has b k + cntL b hand≤1:=by
 have hj:=h.one b j
 have hk:=h.one b k
 obtain ⟨N,h1,h2⟩:=h
 by_cases e:j < N
 ·by_cases e':k < N
  ·have:=tot_two (f:=g.has b) hjk e e'; have:=h2 b; omega
  ·rw [has_none (h1 k (by omega))]; omega
 ·rw [has_none (h1 j (by omega))]; omega
theorem Sole.upd {g g':Gh} {hand hand':List G} (h:Sole g hand) (k:Nat) (hb:∀ j,j≠k→g'.gb j=g.gb j) (hr:∀ j,j≠k→g'.gr j=g.gr j)
  (hc:∀ b,g'.has b k + cntL b hand'≤g.has b k + cntL b hand∨((∀ j,g.has b j=0)∧g'.has b k + cntL b hand'≤1)):Sole g' hand':=by
 obtain ⟨N,h1,h2⟩:=h
 refine ⟨max N (k + 1),fun j hj=>?_,fun b=>?_⟩
 ·rw [hb j (by omega),hr j (by omega)]; exact h1 j (by omega)
 ·have e:∀ j,j≠k→g'.has b j=g.has b j:=fun j hj=>by simp [Gh.has,hb j hj,hr j hj]
  have a1:=tot_upd (n:=max N (k + 1)) (f:=g.has b) (f':=g'.has b) (k:=k) (by omega) e
  have a2:=tot_more (f:=g.has b) (N:=N) (max N (k + 1)) (by omega) (fun j hj=>has_none (h1 j hj) b)
  have a3:=h2 b
  rcases hc b with hc | ⟨hz,hc⟩
  ·have:=tot_le (f:=g.has b) (k:=k) (n:=max N (k + 1)) (by omega); omega
  ·have z:tot (g.has b) (max N (k + 1))=tot (fun _=>0) (max N (k + 1)):=tot_congr fun j _=>hz j
   have z0:∀ n,tot (fun _=>0) n=0:=fun n=>by induction n <;> simp_all [tot]
   rw [z0] at z
   have:=hz k
   omega
def RfOK (h:Value) (z off len:Nat) (v:Value):Prop :=
 ∃ hA hn hc a',h = .slice hA hn hc∧v = .slice a' len (hc - off)∧off + len≤hc∧(off=0→a'=hA)∧(off < hc→∃ q,hA=some ⟨q,0,none⟩∧a'=some ⟨q,off * z,none⟩)
def nodeAt (g:Gh) (r c:Nat) (p:List (Nat×Nat)):Option G:=(g.gr r).bind fun ts=>(ts[c]?).bind (atP · p)
def Tr.held {τ:Type}:Tr τ→Bool
 | .sl o _ _ _=>o
 | .no _=>true
 | .pv _=>false
def CelOK (S:Nat→Prop) (g:Gh) (w:World):Cel→Value→Prop
 | .pv u,v=>v=u∧v.oneCell'=true
 | .nils _,v=>v = .slice none 0 0
 | .ro z rows,v=>Rd S w (.sl false z () rows) v
 | .rf r c p z off len,v=>(∃ A cap,v = .slice A len cap∧len≤cap)∧g.gr r≠none∧∀ m,nodeAt g r c p=some m→m.held=true→RfOK (hdr m) z off len v
 | .dead,v=>v.oneCell'=true
theorem CelOK.one {S:Nat→Prop} {g:Gh} {w:World} {c:Cel} {v:Value} (h:CelOK S g w c v):v.oneCell'=true:=by
 cases c with
 | pv u=>exact h.2
 | nils z=>obtain rfl:=h; rfl
 | ro z rows=>exact Rd.one h
 | rf=>obtain ⟨⟨A,cap,rfl,_⟩,_⟩:=h; rfl
 | dead=>exact h
def CelsOK (S:Nat→Prop) (g:Gh) (w:World) (cs:List Cel) (us:List Value):Prop:=cs.length=us.length∧∀ (k:Nat) (c:Cel) (u:Value),cs[k]?=some c→us[k]?=some u→CelOK S g w c u
mutual
def SlotOK (S:Nat→Prop) (g:Gh) (w:World):SV→Value→Prop
 | .un,_=>True
 | .one c,v=>CelOK S g w c v
 | .agg cs,v=>∃ us:List Value,v = .agg us.toArray∧CelsOK S g w cs us
 | .tup vs,v=>∃ us:List Value,v = .tuple us.toArray∧SlotsOK S g w vs us
 | .bp b off,v=>∃ A,g.gb b=some A∧v = .pointer (some ⟨A.block,A.off + off,none⟩)
 | .ap r c p z i j,v=>(∃ ad,v = .pointer (some ad))∧g.gr r≠none∧∀ m,nodeAt g r c p=some m→m.held=true→∃ q hn hc,hdr m = .slice (some ⟨q,0,none⟩) hn hc∧v = .pointer (some ⟨q,i * z + j,none⟩)
 | .fn f b off,v=>∃ A,g.gb b=some A∧v = .func (.func f) #[] #[.pointer (some ⟨A.block,A.off + off,none⟩)]
 | .rp ts,v=>∃ ad,v = .pointer (some ad)∧∀ (j:Nat) (t:T),ts[j]?=some t→S ad.block∧∃ u,w.cell? (ad.add j)=some u∧Rd S w t u
def SlotsOK (S:Nat→Prop) (g:Gh) (w:World):List SV→List Value→Prop
 | [],[]=>True
 | s::ss,u::us=>SlotOK S g w s u∧SlotsOK S g w ss us
 | _,_=>False
end
structure Frame (X:Ctx) (w:World):Prop where
 os:w.os=X.w0.os
 tape:w.tape=X.w0.tape
 output:w.output=X.w0.output
 size:X.w0.heap.size≤w.heap.size
 block:∀ b,b < X.w0.heap.size→¬ X.F b→(∀ x∈X.R,x.1≠b)→w.heap[b]?=X.w0.heap[b]?
 range:∀ x∈X.R,∀ o,¬ (x.2.1≤o∧o < x.2.1 + x.2.2)→w.cell? ⟨x.1,o,none⟩=X.w0.cell? ⟨x.1,o,none⟩∧w.frozen? ⟨x.1,o,none⟩=X.w0.frozen? ⟨x.1,o,none⟩
theorem kept_on {X:Ctx} {w:World} (h:Frame X w) {S':Nat→Prop} (hs:∀ b,X.S b→S' b):X.KP.ok S' w:=X.KP.keep X.laid hs fun b hb=>h.block b (X.stay b hb).1 (X.stay b hb).2.1 (X.stay b hb).2.2
def InMem (w:World) (A:Addr) (us:List Value):Prop:=∀ (k:Nat) (u:Value),us[k]?=some u→w.cell? ⟨A.block,A.off + k,none⟩=some u∧w.frozen? ⟨A.block,A.off + k,none⟩=false∧u.oneCell'=true
structure Sim (X:Ctx) (n:Nat) (g:Gh) (st:St) (hand:List G) (a:Act) (w:World):Prop where
 frame:Frame X w
 defers:a.defers=[]
 tmps:a.tmps.size=n
 slots:∀ t v,get st.s t=some v→SlotOK X.S g w v (a.tmps.getD t undef)
 boxes:∀ b cs,get st.b b=some cs→∃ A us,g.gb b=some A∧A.block < w.heap.size∧InMem w A us∧CelsOK X.S g w cs us∧
  (X.w0.heap.size≤A.block∨X.isP b=true∧∃ x∈X.R,A.block=x.1∧A.off=x.2.1∧cs.length=x.2.2)
 nobox:∀ b,get st.b b=none→g.gb b=none
 roots:∀ r ts,get st.r r=some ts→∃ gs,g.gr r=some gs∧gs.map er=ts
 noroot:∀ r,get st.r r=none→g.gr r=none
 reps:∀ r gs,g.gr r=some gs→∀ t∈gs,Rp X.S w t
 held:∀ t∈hand,Rp X.S w t
 sole:Sole g hand
 pb:∀ i A,X.PA i=some A→g.gb i=some A
 hold:∀ i hs,X.H i=some hs→∃ gs,g.gr i=some gs∧gs.map hdr=hs
 mine:∀ b k,0 < rcnt b (g.gr k) + cntL b hand→¬ X.S b∧(X.w0.heap.size≤b∨X.F b)
section gets
variable {α:Type}
theorem get_rep (l:List (Nat×α)) (k:Nat) (v:α):get (rep l k v) k=some v:=by
 induction l with
 | nil=>simp [rep,get]
 | cons x l ih =>
  obtain ⟨j,u⟩:=x
  simp only [rep]
  cases h:j==k <;> simp [get,h,ih]
theorem get_rep_ne (l:List (Nat×α)) {j k:Nat} (v:α) (h:j≠k):get (rep l k v) j=get l j:=by
 induction l with
 | nil=>simp [rep,get,beq_eq_false_iff_ne.2 (Ne.symm h)]
 | cons x l ih =>
  obtain ⟨i,u⟩:=x
  simp only [rep]
  cases e:i==k with
  | true =>
   have:i=k:=by simpa using e
   subst this
   simp [get,beq_eq_false_iff_ne.2 (Ne.symm h)]
  | false =>
   simp only [cond_false,get,ih]
end gets
theorem get_rep_if {α:Type} (l:List (Nat×α)) (j k:Nat) (v:α):get (rep l k v) j=if j=k then some v else get l j:=by
 split
 ·rename_i h; subst h; exact get_rep l j v
 ·rename_i h; exact get_rep_ne l v h
theorem get_put_if {α:Type} (l:List (Nat×α)) (j k:Nat) (v:α):get (put l k v) j=if j=k then some v else get l j:=by
 simp only [put,get]
 by_cases h:j=k
 ·subst h; simp
 ·rw [if_neg h,beq_eq_false_iff_ne.2 (Ne.symm h)]; rfl
end Go.X

namespace Go.X
structure Keeps (Ex:Nat→Nat→List (Nat×Nat)→Prop) (g g':Gh):Prop where
 b:∀ k A,g.gb k=some A→g'.gb k=some A
 r:∀ k,g.gr k≠none→g'.gr k≠none
 h:∀ r c p m',¬ Ex r c p→g.gr r≠none→nodeAt g' r c p=some m'→m'.held=true→∃ m,nodeAt g r c p=some m∧m.held=true∧hdr m'=hdr m
def Never:Nat→Nat→List (Nat×Nat)→Prop:=fun _ _ _=>False
def CelEx (Ex:Nat→Nat→List (Nat×Nat)→Prop):Cel→Prop
 | .rf r c p _ _ _=>Ex r c p
 | _=>False
def SlotEx (Ex:Nat→Nat→List (Nat×Nat)→Prop):SV→Prop
 | .one c=>CelEx Ex c
 | .agg cs=>∃ c∈cs,CelEx Ex c
 | .ap r c p _ _ _=>Ex r c p
 | .tup _=>∃ r c p,Ex r c p
 | _=>False
theorem never_cel (c:Cel):¬ CelEx Never c:=by cases c <;> simp [CelEx,Never]
theorem never_slot (v:SV):¬ SlotEx Never v:=by cases v <;> simp [SlotEx,Never,never_cel]
theorem Keeps.refl (Ex:Nat→Nat→List (Nat×Nat)→Prop) (g:Gh):Keeps Ex g g:=⟨fun _ _ h=>h,fun _ h=>h,fun _ _ _ m' _ _ h hh=>⟨m',h,hh,rfl⟩⟩
theorem Keeps.trans {g g1 g2:Gh} (h:Keeps Never g g1) (k:Keeps Never g1 g2):Keeps Never g g2 :=
 ⟨fun j A e=>k.b j A (h.b j A e),fun j e=>k.r j (h.r j e),fun r c p m' _ hr hm hh=>by
  obtain ⟨m,h1,h2,h3⟩:=k.h r c p m' (by simp [Never]) (h.r r hr) hm hh
  obtain ⟨m0,h4,h5,h6⟩:=h.h r c p m (by simp [Never]) hr h1 h2
  exact ⟨m0,h4,h5,h3.trans h6⟩⟩
section
variable {Ex:Nat→Nat→List (Nat×Nat)→Prop} {g g':Gh} {S:Nat→Prop} {w w':World}
theorem CelOK.keep (hk:Keeps Ex g g') (hS:∀ b,S b→w'.heap[b]?=w.heap[b]?) {c:Cel} {v:Value} (hx:¬ CelEx Ex c) (h:CelOK S g w c v):CelOK S g' w' c v:=by
 cases c with
 | pv u=>exact h
 | nils z=>exact h
 | dead=>exact h
 | ro z rows=>exact Rd.move h (fun _ h=>h) hS
 | rf r c p z off len =>
  obtain ⟨h1,h2,h3⟩:=h
  refine ⟨h1,hk.r _ h2,fun m' hm hh=>?_⟩
  obtain ⟨m,a1,a2,a3⟩:=hk.h r c p m' hx h2 hm hh
  rw [a3]
  exact h3 m a1 a2
theorem CelsOK.keep (hk:Keeps Ex g g') (hS:∀ b,S b→w'.heap[b]?=w.heap[b]?) {cs:List Cel} {us:List Value} (hx:∀ c∈cs,¬ CelEx Ex c) (h:CelsOK S g w cs us):CelsOK S g' w' cs us :=
 ⟨h.1,fun k c u hc hu=>(h.2 k c u hc hu).keep hk hS (hx c (List.mem_of_getElem? hc))⟩
mutual
theorem SlotOK.keep (hk:Keeps Ex g g') (hS:∀ b,S b→w'.heap[b]?=w.heap[b]?):∀ (v:SV) (u:Value),¬ SlotEx Ex v→(∀ vs,v = .tup vs→∀ r c p,¬ Ex r c p)→SlotOK S g w v u→SlotOK S g' w' v u
 | .un,u,_,_,_=>by simp [SlotOK]
 | .one c,u,hx,_,h=>by simp only [SlotOK] at h ⊢; exact h.keep hk hS hx
 | .agg cs,u,hx,_,h=>by
  simp only [SlotOK] at h ⊢
  obtain ⟨us,h1,h2⟩:=h
  exact ⟨us,h1,h2.keep hk hS (fun c hc he=>hx ⟨c,hc,he⟩)⟩
 | .tup vs,u,hx,hn,h=>by
  simp only [SlotOK] at h ⊢
  obtain ⟨us,h1,h2⟩:=h
  exact ⟨us,h1,SlotsOK.keep hk hS (hn vs rfl) vs us h2⟩
 | .bp b off,u,_,_,h=>by
  simp only [SlotOK] at h ⊢
  obtain ⟨A,h1,h2⟩:=h
  exact ⟨A,hk.b _ _ h1,h2⟩
 | .fn f b off,u,_,_,h=>by
  simp only [SlotOK] at h ⊢
  obtain ⟨A,h1,h2⟩:=h
  exact ⟨A,hk.b _ _ h1,h2⟩
 | .ap r c p z i j,u,hx,_,h=>by
  simp only [SlotOK] at h ⊢
  refine ⟨h.1,hk.r _ h.2.1,fun m' hm hh=>?_⟩
  obtain ⟨m,a1,a2,a3⟩:=hk.h r c p m' hx h.2.1 hm hh
  rw [a3]
  exact h.2.2 m a1 a2
 | .rp ts,u,_,_,h=>by
  simp only [SlotOK] at h ⊢
  obtain ⟨ad,h1,h2⟩:=h
  refine ⟨ad,h1,fun j t ht=>?_⟩
  obtain ⟨hs,u',hc,hr⟩:=h2 j t ht
  exact ⟨hs,u',by rw [World.cell?_of_block (w:=w) (by rw [add_block]; exact hS _ hs)]; exact hc,hr.move (fun _ h=>h) hS⟩
theorem SlotsOK.keep (hk:Keeps Ex g g') (hS:∀ b,S b→w'.heap[b]?=w.heap[b]?) (hn:∀ r c p,¬ Ex r c p):∀ (vs:List SV) (us:List Value),SlotsOK S g w vs us→SlotsOK S g' w' vs us
 | [],[],_=>by simp [SlotsOK]
 | v::vs,u::us,h=>by
  simp only [SlotsOK] at h ⊢
  have hx:∀ v:SV,¬ SlotEx Ex v:=fun v he=>by
   cases v with
   | one c=>cases c <;> simp_all [SlotEx,CelEx]
   | agg cs=>obtain ⟨c,_,he⟩:=he; cases c <;> simp_all [CelEx]
   | ap=>exact hn _ _ _ he
   | tup=>obtain ⟨r,c,p,he⟩:=he; exact hn _ _ _ he
   | _=>exact he
  exact ⟨SlotOK.keep hk hS v u (hx v) (fun _ _=>hn) h.1,SlotsOK.keep hk hS hn vs us h.2⟩
 | [],_::_,h=>by simp [SlotsOK] at h
 | _::_,[],h=>by simp [SlotsOK] at h
end
end
theorem cellAt_setCell {t d x:G} {i j i' j':Nat} (ho:t.own=true) (hc:cellAt t i j=some d):cellAt (setCell t i j x) i' j'=if i'=i∧j'=j then some x else cellAt t i' j':=by
 obtain ⟨z,v,rows,rfl⟩:=own_form ho
 obtain ⟨r,hr,hcc⟩:=cellAt_some hc
 replace hr:rows[i]?=some r:=hr
 rw [setCell_form hr]
 have hi:=(List.getElem?_eq_some_iff.1 hr).1
 have hj:=(List.getElem?_eq_some_iff.1 hcc).1
 simp only [cellAt,Tr.rows]
 by_cases e:i'=i
 ·subst e
  rw [List.getElem?_set_self hi,hr]
  simp only [Option.bind_some]
  by_cases e':j'=j
  ·subst e'; rw [List.getElem?_set_self hj]; simp
  ·rw [List.getElem?_set_ne (fun h=>e' h.symm)]; simp [e']
 ·rw [List.getElem?_set_ne (fun h=>e h.symm)]; simp [e]
theorem setCell_own {t d x:G} {i j:Nat} (ho:t.own=true) (hc:cellAt t i j=some d):(setCell t i j x).own=true:=by
 obtain ⟨z,v,rows,rfl⟩:=own_form ho
 simp [setCell,setRows,Tr.own]
theorem setCell_hdr (t x:G) (i j:Nat):hdr (setCell t i j x)=hdr t:=by cases t <;> simp [setCell,setRows,hdr]
theorem own_held {τ:Type} {t:Tr τ} (h:t.own=true):t.held=true:=by cases t <;> simp_all [Tr.own,Tr.held]
theorem atP_setP:∀ (p:List (Nat×Nat)) {t m u:G},atP t p=some m→m.held=true→hdr u=hdr m→∀ (q:List (Nat×Nat)) {m':G},atP (setP t p u) q=some m'→m'.held=true→
  (∃ s,q=p++s∧s≠[]∧atP u s=some m')∨∃ k,atP t q=some k∧k.held=true∧hdr m'=hdr k
 | [],t,m,u,hm,hh,hu,q,m',hq,_=>by
  simp only [atP,Option.some.injEq] at hm
  subst hm
  simp only [setP] at hq
  cases q with
  | nil=>simp only [atP,Option.some.injEq] at hq; subst hq; exact .inr ⟨t,by simp [atP],hh,hu⟩
  | cons x s=>exact .inl ⟨x::s,by simp,by simp,hq⟩
 | (i,j)::p,t,m,u,hm,hh,hu,q,m',hq,hh'=>by
  simp only [atP] at hm
  cases ho:t.own with
  | false=>simp [ho] at hm
  | true =>
   simp only [ho,cond_true] at hm
   cases hc:cellAt t i j with
   | none=>simp [hc] at hm
   | some d =>
    simp only [hc,Option.bind_some] at hm
    simp only [setP,hc] at hq
    cases q with
    | nil =>
     simp only [atP,Option.some.injEq] at hq
     subst hq
     exact .inr ⟨t,by simp [atP],own_held ho,setCell_hdr _ _ _ _⟩
    | cons x q =>
     obtain ⟨i',j'⟩:=x
     simp only [atP,setCell_own ho hc,cond_true,cellAt_setCell ho hc] at hq
     split at hq
     ·rename_i e
      obtain ⟨rfl,rfl⟩:=e
      simp only [Option.bind_some] at hq
      rcases atP_setP p hm hh hu q hq hh' with ⟨s,rfl,hs,hk⟩ | ⟨k,hk,h1,h2⟩
      ·exact .inl ⟨s,by simp,hs,hk⟩
      ·exact .inr ⟨k,by simp [atP,ho,hc,hk],h1,h2⟩
     ·exact .inr ⟨m',by simp only [atP,ho,cond_true]; exact hq,hh',rfl⟩
theorem atP_setP_self:∀ (p:List (Nat×Nat)) {t m u:G},atP t p=some m→atP (setP t p u) p=some u
 | [],t,m,u,_=>by simp [setP,atP]
 | (i,j)::p,t,m,u,hm=>by
  simp only [atP] at hm
  cases ho:t.own with
  | false=>simp [ho] at hm
  | true =>
   simp only [ho,cond_true] at hm
   cases hc:cellAt t i j with
   | none=>simp [hc] at hm
   | some d =>
    simp only [hc,Option.bind_some] at hm
    simp only [setP,hc,atP,setCell_own ho hc,cond_true,cellAt_setCell ho hc]
    simpa using atP_setP_self p hm
def Below' (r c:Nat) (p:List (Nat×Nat)):Nat→Nat→List (Nat×Nat)→Prop:=fun r' c' q=>r'=r∧c'=c∧∃ s,q=p++s∧s≠[]
def Gh.setR (g:Gh) (r:Nat) (ts:List G):Gh:={ g with gr:=fun k=>if k=r then some ts else g.gr k }
def Gh.setB (g:Gh) (b:Nat) (A:Addr):Gh:={ g with gb:=fun k=>if k=b then some A else g.gb k }
theorem setR_same (g:Gh) (r:Nat) (ts:List G):(g.setR r ts).gr r=some ts:=by simp [Gh.setR]
theorem setR_ne (g:Gh) {r k:Nat} (ts:List G) (h:k≠r):(g.setR r ts).gr k=g.gr k:=by simp [Gh.setR,h]
theorem nodeAt_setR_ne (g:Gh) {r k c:Nat} {p:List (Nat×Nat)} (ts:List G) (h:k≠r):nodeAt (g.setR r ts) k c p=nodeAt g k c p:=by simp [nodeAt,setR_ne g ts h]
theorem keeps_setP {g:Gh} {r c:Nat} {p:List (Nat×Nat)} {gs:List G} {t m u:G} (hg:g.gr r=some gs) (ht:gs[c]?=some t) (hm:atP t p=some m) (hh:m.held=true) (hu:hdr u=hdr m) :
  Keeps (Below' r c p) g (g.setR r (gs.set c (setP t p u))):=by
 refine ⟨fun _ _ h=>h,fun k hk=>?_,fun r' c' q m' hx hr' hn hh'=>?_⟩
 ·by_cases e:k=r
  ·subst e; rw [setR_same]; simp
  ·rwa [setR_ne _ _ e]
 ·by_cases e:r'=r
  ·subst e
   have hc:=(List.getElem?_eq_some_iff.1 ht).1
   simp only [nodeAt,setR_same,Option.bind_some,hg] at hn ⊢
   by_cases e':c'=c
   ·subst e'
    rw [List.getElem?_set_self hc] at hn
    simp only [Option.bind_some,ht] at hn ⊢
    rcases atP_setP p hm hh hu q hn hh' with ⟨s,hs,hs',_⟩ | h
    ·exact absurd ⟨rfl,rfl,s,hs,hs'⟩ hx
    ·exact h
   ·rw [List.getElem?_set_ne (fun h=>e' h.symm)] at hn
    exact ⟨m',hn,hh',rfl⟩
  ·rw [nodeAt_setR_ne _ _ e] at hn
   exact ⟨m',hn,hh',rfl⟩
theorem keeps_gone {g:Gh} {r c:Nat} {p:List (Nat×Nat)} {gs:List G} {t m:G} (hg:g.gr r=some gs) (ht:gs[c]?=some t) (hm:atP t p=some m) (hh:m.held=true) :
  Keeps Never g (g.setR r (gs.set c (setP t p (.no (hdr m))))):=by
 have h:=keeps_setP (u:=.no (hdr m)) hg ht hm hh rfl
 refine ⟨h.b,h.r,fun r' c' q m' _ hr' hn hh'=>?_⟩
 by_cases e:Below' r c p r' c' q
 ·obtain ⟨rfl,rfl,s,rfl,hs⟩:=e
  exfalso
  have hc:=(List.getElem?_eq_some_iff.1 ht).1
  simp only [nodeAt,setR_same,Option.bind_some,List.getElem?_set_self hc] at hn
  have:∀ (p:List (Nat×Nat)) {t m:G},atP t p=some m→atP (setP t p (.no (hdr m))) (p++s)=none:=by
   intro p
   induction p with
   | nil=>intro t m hm; cases s with
    | nil=>exact absurd rfl hs
    | cons x s=>simp [setP,atP,Tr.own]
   | cons x p ih =>
    obtain ⟨i,j⟩:=x
    intro t m hm
    simp only [atP] at hm
    cases ho:t.own with
    | false=>simp [ho] at hm
    | true =>
     simp only [ho,cond_true] at hm
     cases hc:cellAt t i j with
     | none=>simp [hc] at hm
     | some d =>
      simp only [hc,Option.bind_some] at hm
      simp only [setP,hc,List.cons_append,atP,setCell_own ho hc,cond_true,cellAt_setCell ho hc,and_self,if_true,Option.bind_some]
      exact ih hm
  rw [this p hm] at hn
  cases hn
 ·exact h.h r' c' q m' e hr' hn hh'
theorem keeps_new {g:Gh} {r:Nat} {ts:List G} (hr:g.gr r=none):Keeps Never g (g.setR r ts):=by
 refine ⟨fun _ _ h=>h,fun k hk=>?_,fun r' c' q m' _ hr' hn hh'=>?_⟩
 ·rw [setR_ne _ _ (fun e=>hk (by rw [e]; exact hr))]; exact hk
 ·rw [nodeAt_setR_ne _ _ (fun e=>hr' (by rw [e]; exact hr))] at hn; exact ⟨m',hn,hh',rfl⟩
theorem keeps_newb {g:Gh} {b:Nat} {A:Addr} (hb:g.gb b=none):Keeps Never g (g.setB b A) :=
 ⟨fun k B h=>by simp only [Gh.setB]; rw [if_neg (fun e=>by rw [e,hb] at h; cases h)]; exact h,fun _ h=>h,fun _ _ _ m' _ _ hn hh'=>⟨m',hn,hh',rfl⟩⟩
end Go.X

namespace Go.X
section
variable {X:Ctx} {n:Nat} {g:Gh} {st:St} {hand:List G} {a:Act} {w:World}
theorem Rp.ltL {S:Nat→Prop} {w:World}:∀ (ts:List G),(∀ t∈ts,Rp S w t)→∀ b,0 < cntL b ts→b < w.heap.size
 | [],_,b,h=>by simp [cntL] at h
 | t::ts,ht,b,h=>by
  simp only [cntL] at h
  by_cases h0:0 < cnt b t
  ·exact (ht t (List.mem_cons_self ..)).lt b h0
  ·exact Rp.ltL ts (fun t h=>ht t (List.mem_cons_of_mem _ h)) b (by omega)
theorem Sim.lt (h:Sim X n g st hand a w) (b k:Nat) (hc:0 < g.has b k + cntL b hand):b < w.heap.size:=by
 by_cases h0:0 < cntL b hand
 ·exact Rp.ltL hand h.held b h0
 ·by_cases h1:0 < rcnt b (g.gr k)
  ·cases hr:g.gr k with
   | none=>simp [hr,rcnt] at h1
   | some gs=>rw [hr] at h1; exact Rp.ltL gs (h.reps k gs hr) b h1
  ·have h2:0 < bcnt b (g.gb k):=by simp only [Gh.has] at hc; omega
   cases hb:g.gb k with
   | none=>simp [hb,bcnt] at h2
   | some A =>
    cases hs:get st.b k with
    | none=>rw [h.nobox k hs] at hb; cases hb
    | some cs =>
     obtain ⟨A',us,e,hA,_⟩:=h.boxes k cs hs
     rw [hb] at e
     simp only [hb,bcnt] at h2
     simp at e
     split at h2
     ·rename_i e2; rw [← e2,e]; exact hA
     ·omega
structure Step (D:Nat→Prop) (w w':World):Prop where
 os:w'.os=w.os
 tape:w'.tape=w.tape
 output:w'.output=w.output
 size:w.heap.size≤w'.heap.size
 block:∀ b,b < w.heap.size→¬ D b→w'.heap[b]?=w.heap[b]?
theorem InMem.move {w w':World} {A:Addr} {us:List Value} (h:InMem w A us) (hb:w'.heap[A.block]?=w.heap[A.block]?):InMem w' A us:=fun k u hu=>by
 obtain ⟨h1,h2,h3⟩:=h k u hu
 exact ⟨by rw [World.cell?_of_block (w:=w) (a:=⟨A.block,A.off + k,none⟩) hb]; exact h1,by rw [World.frozen?_of_block (w:=w) (a:=⟨A.block,A.off + k,none⟩) hb]; exact h2,h3⟩
theorem cnt_zero_sum {g:Gh} {b N:Nat} (h:∀ k,g.has b k=0):tot (g.has b) N=0:=by
 induction N with
 | zero=>rfl
 | succ N ih=>simp [tot,ih,h]
theorem Sim.world {us us':List G} {w':World} (h:Sim X n g st (us++hand) a w) (hs:Step (fun b=>0 < cntL b us) w w') (hr:∀ t∈us',Rp X.S w' t)
    (hc:∀ b,cntL b us'≤cntL b us∨(w.heap.size≤b∧cntL b us'≤1)):Sim X n g st (us'++hand) a w':=by
  have hS:∀ b,X.S b→w'.heap[b]?=w.heap[b]?:=fun b hb=>hs.block b (Nat.lt_of_lt_of_le (X.stay b hb).1 h.frame.size) (fun h0=>(h.mine b 0 (by rw [cntL_append]; omega)).1 hb)
  have hold:∀ b,b < X.w0.heap.size→¬ X.F b→w'.heap[b]?=w.heap[b]?:=fun b hb hF=>hs.block b (Nat.lt_of_lt_of_le hb h.frame.size) (fun h0=>by
    rcases (h.mine b 0 (by rw [cntL_append]; omega)).2 with h1 | h1
    · omega
    · exact hF h1)
  have hroot:∀ r gs,g.gr r=some gs→∀ b,0 < cntL b gs→w'.heap[b]?=w.heap[b]?:=fun r gs hg b hb=>by
    have h1:=h.sole.one b r
    have h2:cntL b gs≤g.has b r:=by simp [Gh.has,hg,rcnt]
    rw [cntL_append] at h1
    exact hs.block b (h.lt b r (by omega)) (by omega)
  have hhand:∀ b,0 < cntL b hand→w'.heap[b]?=w.heap[b]?:=fun b hb=>by
    have h1:=h.sole.one b 0
    rw [cntL_append] at h1
    exact hs.block b (h.lt b 0 (by rw [cntL_append]; omega)) (by omega)
  refine { frame:=⟨hs.os.trans h.frame.os,hs.tape.trans h.frame.tape,hs.output.trans h.frame.output,Nat.le_trans h.frame.size hs.size,fun b hb hF hR=>(hold b hb hF).trans (h.frame.block b hb hF hR),fun x hx o ho=>?_⟩,
           defers:=h.defers,tmps:=h.tmps,slots:=fun t v ht=>?_,boxes:=fun b cs hb=>?_,nobox:=h.nobox,roots:=h.roots,noroot:=h.noroot,reps:=fun r gs hg t ht=>?_,held:=fun t ht=>?_,sole:=?_,pb:=h.pb,hold:=h.hold,mine:=fun b k hb=>?_ }
  · have e:=hold x.1 (X.apart x hx).2 (X.apart x hx).1
    rw [World.cell?_of_block (w:=w) (by exact e),World.frozen?_of_block (w:=w) (by exact e)]
    exact h.frame.range x hx o ho
  · exact SlotOK.keep (Keeps.refl Never g) hS v _ (never_slot v) (fun _ _ _ _ _ h=>h) (h.slots t v ht)
  · obtain ⟨A,vs,h1,h2,h3,h4,h5⟩:=h.boxes b cs hb
    have hz:¬ 0 < cntL A.block us:=by
      have:=h.sole.one A.block b
      rw [cntL_append] at this
      have:1≤g.has A.block b:=by simp [Gh.has,h1,bcnt]
      omega
    exact ⟨A,vs,h1,Nat.lt_of_lt_of_le h2 hs.size,h3.move (hs.block _ h2 hz),h4.keep (Keeps.refl Never g) hS (fun c _=>never_cel c),h5⟩
  · exact (h.reps r gs hg t ht).move (fun _ h=>h) hS (fun b hb=>hroot r gs hg b (by have:=cnt_mem b gs t ht; omega))
  · rcases List.mem_append.1 ht with ht | ht
    · exact hr t ht
    · exact (h.held t (List.mem_append_right _ ht)).move (fun _ h=>h) hS (fun b hb=>hhand b (by have:=cnt_mem b hand t ht; omega))
  · obtain ⟨N,h1,h2⟩:=h.sole
    refine ⟨N,h1,fun b=>?_⟩
    have:=h2 b
    rw [cntL_append] at this ⊢
    rcases hc b with hc | ⟨hf,hc⟩
    · omega
    · have hz:∀ k,g.has b k=0:=fun k=>by
        have:=fun h0=>h.lt b k h0
        rw [cntL_append] at this
        omega
      have hz2:=fun h0=>h.lt b 0 h0
      rw [cntL_append] at hz2
      rw [cnt_zero_sum hz]
      omega
  · rw [cntL_append] at hb
    rcases hc b with hc | ⟨hf,hc⟩
    · exact h.mine b k (by rw [cntL_append]; omega)
    · exact ⟨fun hS=>by have:=(X.stay b hS).1; have:=h.frame.size; omega,.inl (Nat.le_trans h.frame.size hf)⟩
theorem getD_set (l:Array Value) (d t:Nat) (u x:Value) (hd:d < l.size):(l.setIfInBounds d u).getD t x=if t=d then u else l.getD t x:=by
 simp only [Array.getD_eq_getD_getElem?,Array.getElem?_setIfInBounds]
 split
 ·rename_i h; subst h; simp [hd]
 ·rename_i h; simp [show ¬ t=d from fun e=>h e.symm]
theorem Sim.slot (h:Sim X n g st hand a w) {d:Nat} {v:SV} {u:Value} (hd:d < n) (hv:SlotOK X.S g w v u):Sim X n g { st with s:=put st.s d v } hand (a.put (some d) u) w :=
  { frame:=h.frame,defers:=h.defers,tmps:=by simp [Act.put,h.tmps],
    slots:=fun t v' ht=>by
      rw [show (a.put (some d) u).tmps=a.tmps.setIfInBounds d u from rfl,getD_set _ _ _ _ _ (by rw [h.tmps]; exact hd)]
      simp only [get_put_if] at ht
      split at ht
      · rename_i e; subst e; simp at ht; subst ht; simpa using hv
      · rename_i e; rw [if_neg e]; exact h.slots t v' ht,
    boxes:=h.boxes,nobox:=h.nobox,roots:=h.roots,noroot:=h.noroot,reps:=h.reps,held:=h.held,sole:=h.sole,pb:=h.pb,hold:=h.hold,mine:=h.mine }
theorem Sim.reroot {hand':List G} (h:Sim X n g st hand a w) (r:Nat) (gs':List G) (hk:Keeps Never g (g.setR r gs')) (hreps:∀ t∈gs',Rp X.S w t) (hheld:∀ t∈hand',Rp X.S w t)
    (hc:∀ b,cntL b gs' + cntL b hand'≤rcnt b (g.gr r) + cntL b hand) (hh:∀ old,g.gr r=some old→gs'.map hdr=old.map hdr):Sim X n (g.setR r gs') { st with r:=rep st.r r (gs'.map er) } hand' a w :=
  { frame:=h.frame,defers:=h.defers,tmps:=h.tmps,
    slots:=fun t v ht=>SlotOK.keep hk (fun _ _=>rfl) v _ (never_slot v) (fun _ _ _ _ _ h=>h) (h.slots t v ht),
    boxes:=fun b cs hb=>by
      obtain ⟨A,us,h1,h2,h3,h4,h5⟩:=h.boxes b cs hb
      exact ⟨A,us,hk.b _ _ h1,h2,h3,h4.keep hk (fun _ _=>rfl) (fun c _=>never_cel c),h5⟩,
    nobox:=h.nobox,
    roots:=fun k ts hk'=>by
      simp only [get_rep_if] at hk'
      split at hk'
      · rename_i e; subst e; simp at hk'; exact ⟨gs',setR_same _ _ _,hk'⟩
      · rename_i e; rw [setR_ne _ _ e]; exact h.roots k ts hk',
    noroot:=fun k hk'=>by
      simp only [get_rep_if] at hk'
      split at hk'
      · cases hk'
      · rename_i e; rw [setR_ne _ _ e]; exact h.noroot k hk',
    reps:=fun k gs hg t ht=>by
      by_cases e:k=r
      · subst e; rw [setR_same] at hg; simp at hg; subst hg; exact hreps t ht
      · rw [setR_ne _ _ e] at hg; exact h.reps k gs hg t ht,
    held:=hheld,
    sole:=h.sole.upd r (fun _ _=>rfl) (fun j hj=>setR_ne _ _ hj) (fun b=>.inl (by
      have:=hc b
      simp only [Gh.has,setR_same,rcnt,Gh.setR] at this ⊢
      simp
      omega)),
    pb:=h.pb,
    hold:=fun i hs hi=>by
      obtain ⟨gs,h1,h2⟩:=h.hold i hs hi
      by_cases e:i=r
      · subst e; exact ⟨gs',setR_same _ _ _,by rw [hh gs h1]; exact h2⟩
      · exact ⟨gs,by rw [setR_ne _ _ e]; exact h1,h2⟩,
    mine:=fun b k hb=>by
      have:=hc b
      by_cases e:k=r
      · subst e
        rw [setR_same] at hb
        simp only [rcnt] at hb
        exact h.mine b k (by omega)
      · rw [setR_ne _ _ e] at hb
        by_cases h0:0 < rcnt b (g.gr k) + cntL b hand
        · exact h.mine b k h0
        · exact h.mine b r (by omega) }
theorem map_hdr_set {gs:List G} {c:Nat} {t u:G} (ht:gs[c]?=some t) (h:hdr u=hdr t):(gs.set c u).map hdr=gs.map hdr:=by
 rw [List.map_set,h]
 apply List.ext_getElem?
 intro i
 rw [List.getElem?_set]
 split
 ·rename_i e; subst e; split
  ·rw [List.getElem?_map,ht]; rfl
  ·rename_i hl; rw [List.getElem?_eq_none (by omega)]
 ·rfl
theorem map_set_er (gs:List G) (c:Nat) (u:G):(gs.set c u).map er=(gs.map er).set c (er u):=by rw [List.map_set]
theorem cntL_get (b:Nat) {gs:List G} {c:Nat} {t:G} (h:gs[c]?=some t):cnt b t≤cntL b gs:=cnt_mem b gs t (List.mem_of_getElem? h)
theorem Sim.node (h:Sim X n g st hand a w) {r c z:Nat} {p:List (Nat×Nat)} {cs:List T} {rows:List (List T)} {hh:Unit} (hr:get st.r r=some cs) (hn:(cs[c]?).bind (atP · p)=some (.sl true z hh rows)) :
  ∃ gs t hv rs,g.gr r=some gs∧gs.map er=cs∧gs[c]?=some t∧atP t p=some (.sl true z hv rs)∧rs.map (·.map er)=rows∧nodeAt g r c p=some (.sl true z hv rs)∧Rp X.S w t∧Rp X.S w (.sl true z hv rs):=by
 obtain ⟨gs,hg,rfl⟩:=h.roots r cs hr
 rw [List.getElem?_map] at hn
 cases ht:gs[c]? with
 | none=>simp [ht] at hn
 | some t =>
  simp only [ht,Option.map_some,Option.bind_some,er_atP] at hn
  cases hm:atP t p with
  | none=>simp [hm] at hn
  | some m =>
   simp only [hm,Option.map_some,Option.some.injEq] at hn
   cases m with
   | pv=>simp [er] at hn
   | no=>simp [er] at hn
   | sl o z' hv rs =>
    simp only [er,erLL_eq,Tr.sl.injEq] at hn
    obtain ⟨rfl,rfl,_,rfl⟩:=hn
    have hR:=h.reps r gs hg t (List.mem_of_getElem? ht)
    exact ⟨gs,t,hv,rs,hg,rfl,ht,hm,rfl,by simp [nodeAt,hg,ht,hm],hR,hR.atP p hm⟩
theorem rp_take {S:Nat→Prop} {w:World} {z len:Nat} {hv v:Value} {rs:List (List G)} (h:Rp S w (.sl true z hv rs)) (hl:len≤rs.length) (hf:RfOK hv z 0 len v):Rp S w (.sl true z v (rs.take len)):=by
 obtain ⟨hA,hn,hc,a',rfl,rfl,_,h0,_⟩:=hf
 obtain rfl:=h0 rfl
 cases h with
 | nil =>
  have:len=0:=by simpa using hl
  subst this
  exact .nil
 | own hg h1 h2 h3 h4 h5 h6 h7 =>
  have e:len=(rs.take len).length:=by simp; omega
  have key:=Rp.own (z:=z) (rows:=rs.take len) hg h1 (by simp; omega) h3 h4 (fun r hr=>h5 r (List.mem_of_mem_take hr))
   (by
    rw [← hds_take len h5,← h6,List.take_take,← e]
    congr 1
    have:=Nat.mul_le_mul_right z hl
    omega)
   (fun r hr t ht=>h7 r (List.mem_of_mem_take hr) t ht)
  rw [← e] at key
  simpa using key
theorem Sim.take (h:Sim X n g st hand a w) {r c z len:Nat} {p:List (Nat×Nat)} {cs:List T} {rows:List (List T)} {hh:Unit} {v:Value} (hr:get st.r r=some cs) (hn:(cs[c]?).bind (atP · p)=some (.sl true z hh rows))
  (hl:len≤rows.length) (hv:CelOK X.S g w (.rf r c p z 0 len) v) :
  ∃ g' u,Sim X n g' { st with r:=rep st.r r (putAt cs c p (.no ())) } (u::hand) a w∧Keeps Never g g'∧hdr u=v∧er u = .sl true z () (rows.take len)∧
   (∀ k,k≠r→g'.gr k=g.gr k)∧(∀ gs,g.gr r=some gs→∃ hv t,gs[c]?=some t∧g'.gr r=some (gs.set c (setP t p (.no hv)))∧(len=rows.length→hv=v))∧g'.gb=g.gb:=by
 obtain ⟨gs,t,hv',rs,hg,rfl,ht,hm,rfl,hna,hR,hRm⟩:=h.node hr hn
 have hf:=hv.2.2 _ hna rfl
 simp only [hdr] at hf
 have hl':len≤rs.length:=by simpa using hl
 have hru:=rp_take hRm hl' hf
 have e1:putAt (gs.map er) c p (.no ())=(gs.set c (setP t p (.no hv'))).map er:=by
  rw [map_set_er,er_setP]
  simp [putAt,List.getElem?_map,ht,er]
 rw [e1]
 refine ⟨g.setR r (gs.set c (setP t p (.no hv'))),.sl true z v (rs.take len),?_,keeps_gone hg ht hm rfl,rfl,by simp [er,erLL_eq,List.map_take],fun k hk=>setR_ne _ _ hk,fun gs' hg'=>?_,rfl⟩
 ·refine h.reroot r _ (keeps_gone hg ht hm rfl) ?_ ?_ ?_ (fun old ho=>by
   rw [hg] at ho
   simp at ho
   subst ho
   exact map_hdr_set ht (hdr_setP p hm rfl))
  ·intro x hx
   rcases List.mem_or_eq_of_mem_set hx with hx | rfl
   ·exact h.reps r gs hg x hx
   ·exact hR.setP (fun _ h=>h) (fun _ _=>rfl) p hm (.no hRm.one) rfl (fun _ _=>rfl)
  ·intro x hx
   rcases List.mem_cons.1 hx with rfl | hx
   ·exact hru
   ·exact h.held x hx
  ·intro b
   have a1:=cntL_set b gs c t (setP t p (.no hv')) ht
   have a2:=cnt_setP b p (u:=.no hv') hm
   have a3:=cntLL_take_drop b rs len
   have a4:hb b v≤hb b hv':=by
    obtain ⟨hA,hn,hc,a',rfl,rfl,_,h0,_⟩:=hf
    obtain rfl:=h0 rfl
    cases a' <;> simp [Go.X.hb]
   simp only [cntL,cnt,hg,rcnt] at a2 ⊢
   omega
 ·rw [hg] at hg'
  simp at hg'
  subst hg'
  refine ⟨hv',t,ht,setR_same _ _ _,fun e=>?_⟩
  obtain ⟨hA,hn,hc,a',rfl,rfl,_,h0,_⟩:=hf
  obtain rfl:=h0 rfl
  cases hRm with
  | nil=>simp at e; simp [e]
  | own=>simp at e; simp [e]
end
end Go.X

namespace Go.X
mutual
def up:T→G
 | .pv v=>.pv v
 | .sl o z _ rows=>.sl o z undef (upLL rows)
 | .no _=>.no undef
def upL:List T→List G
 | []=>[]
 | t::ts=>up t::upL ts
def upLL:List (List T)→List (List G)
 | []=>[]
 | r::rs=>upL r::upLL rs
end
mutual
theorem er_up:∀ t:T,er (up t)=t
 | .pv v=>by simp [up,er]
 | .sl o z h rows=>by simp [up,er,erLL_upLL rows]
 | .no _=>by simp [up,er]
theorem erL_upL:∀ ts:List T,erL (upL ts)=ts
 | []=>by simp [upL,erL]
 | t::ts=>by simp [upL,erL,er_up t,erL_upL ts]
theorem erLL_upLL:∀ rs:List (List T),erLL (upLL rs)=rs
 | []=>by simp [upLL,erLL]
 | r::rs=>by simp [upLL,erLL,erL_upL r,erLL_upLL rs]
end
theorem lentL_eq:∀ ts:List T,lentL ts=ts.map lent
 | []=>by simp [lentL]
 | t::ts=>by simp [lentL,lentL_eq ts]
theorem lentLL_eq:∀ rs:List (List T),lentLL rs=rs.map (·.map lent)
 | []=>by simp [lentLL]
 | r::rs=>by simp [lentLL,lentL_eq,lentLL_eq rs]
theorem wholeL_eq:∀ ts:List T,wholeL ts=ts.all whole
 | []=>by simp [wholeL]
 | t::ts=>by simp [wholeL,wholeL_eq ts]
theorem wholeLL_eq:∀ rs:List (List T),wholeLL rs=rs.all (·.all whole)
 | []=>by simp [wholeLL]
 | r::rs=>by simp [wholeLL,wholeL_eq,wholeLL_eq rs]
theorem noRoL_eq:∀ ts:List T,noRoL ts=ts.all noRo
 | []=>by simp [noRoL]
 | t::ts=>by simp [noRoL,noRoL_eq ts]
theorem noRoLL_eq:∀ rs:List (List T),noRoLL rs=rs.all (·.all noRo)
 | []=>by simp [noRoLL]
 | r::rs=>by simp [noRoLL,noRoL_eq,noRoLL_eq rs]
theorem Rd.inv {S:Nat→Prop} {w:World} {z:Nat} {rows:List (List T)} {v:Value} (h:Rd S w (.sl false z () rows) v):∃ (a:Option Addr) (cap:Nat) (u:Nat→Nat→Value),v = .slice a rows.length cap∧rows.length≤cap∧cap≤maxLen∧(∀ r∈rows,r.length=z)∧
  (∀ i r j t,rows[i]?=some r→r[j]?=some t→∃ ad,a=some ad∧S ad.block∧w.cell? (ad.add (i * z + j))=some (u i j))∧(∀ i r j t,rows[i]?=some r→r[j]?=some t→Rd S w t (u i j)):=by
 cases h with
 | sl u h1 h2 h3 h4 h5=>exact ⟨_,_,u,rfl,h1,h2,h3,h4,h5⟩
theorem Rd.lent_eq {S:Nat→Prop} {w:World} {t:T} {v:Value} (h:Rd S w t v):lent t=t:=by
 induction h with
 | pv=>simp [lent]
 | @sl z cap a rows u _ _ _ _ _ ih =>
  simp only [lent,lentLL_eq]
  congr 1
  apply List.ext_getElem?
  intro i
  rw [List.getElem?_map]
  cases hr:rows[i]? with
  | none=>rfl
  | some r =>
   simp only [Option.map_some,Option.some.injEq]
   apply List.ext_getElem?
   intro j
   rw [List.getElem?_map]
   cases ht:r[j]? with
   | none=>rfl
   | some t=>simp [ih i r j t hr ht]
theorem cell_at {w:World} {q e o:Nat} {cur:Array Value} {fz:Nat×Nat} (h:w.heap[q]?=some (.cells cur e fz)):w.cell? ⟨q,o,none⟩=cur[o]?:=cell_of_row w q o cur e fz h
theorem add_none (q o k:Nat):(⟨q,o,none⟩:Addr).add k=⟨q,o + k,none⟩:=by unfold Addr.add; split <;> simp_all
theorem add_zero (ad:Addr):ad.add 0=ad:=rfl
theorem add_pos (ad:Addr) {x:Nat} (h:x≠0):ad.add x = { ad with off:=ad.off + x,spot:=none }:=if_neg h
theorem add_add (ad:Addr) (x y:Nat):(ad.add x).add y=ad.add (x + y):=by
 by_cases hx:x=0
 ·subst hx; rw [add_zero,Nat.zero_add]
 ·by_cases hy:y=0
  ·subst hy; rw [add_zero,Nat.add_zero]
  ·rw [add_pos ad hx,add_pos _ hy,add_pos ad (by omega)]
   simp [Nat.add_assoc]
theorem take_get {l:List Value} {m k:Nat} {u:Value} (h:(l.take m)[k]?=some u):l[k]?=some u:=by
 rw [List.getElem?_take] at h
 split at h
 ·exact h
 ·cases h
theorem rp_lend {S S1:Nat→Prop} {w:World} {t:G} (h:Rp S w t) (hw:whole (er t)=true) (h1:∀ b,S b→S1 b) (h2:∀ b,0 < cnt b t→S1 b):Rd S1 w (lent (er t)) (hdr t):=by
 induction h with
 | pv h=>exact .pv h
 | no=>simp [er,whole] at hw
 | ro h=>rw [h.lent_eq]; exact h.move h1 (fun _ _=>rfl)
 | @nil z =>
  exact Rd.sl (rows:=[]) (fun _ _=>undef) (Nat.le_refl _) (by simp [maxLen]) (fun r hr=>by cases hr) (fun i r j t hr=>by simp at hr) (fun i r j t hr=>by simp at hr)
 | @own z q cap e cur fz rows hg hz hl hm hs hr hd _ ih =>
  simp only [er,erLL_eq,whole,wholeLL_eq,List.all_eq_true,List.mem_map,forall_exists_index,and_imp,forall_apply_eq_imp_iff₂] at hw
  simp only [er,erLL_eq,lent,lentLL_eq,hdr,List.map_map]
  have hlen:rows.length=(rows.map (fun r=>(r.map er).map lent)).length:=by simp
  have key:=Rd.sl (S:=S1) (w:=w) (z:=z) (a:=some ⟨q,0,none⟩) (cap:=cap) (rows:=rows.map (fun r=>(r.map er).map lent)) (fun i j=>cur.toList.getD (i * z + j) undef) (by simpa using hl) hm
   (fun r hr'=>by obtain ⟨r',h',rfl⟩:=List.mem_map.1 hr'; simpa using hr r' h') (fun i r j t hri htj=>?_) (fun i r j t hri htj=>?_)
  ·rw [← hlen] at key
   exact key
  ·rw [List.getElem?_map] at hri
   cases hri':rows[i]? with
   | none=>simp [hri'] at hri
   | some r0 =>
    simp [hri'] at hri
    subst hri
    rw [List.getElem?_map] at htj
    cases htj':r0[j]? with
    | none=>simp [htj'] at htj
    | some t0 =>
     refine ⟨⟨q,0,none⟩,rfl,h2 q (by simp [cnt,hb]; omega),?_⟩
     have e:=hds_get i j r0 t0 hr hri' htj'
     rw [← hd] at e
     have e:=take_get e
     rw [add_none,cell_at hg,Nat.zero_add,List.getD_eq_getElem?_getD,e]
     simpa using e
  ·rw [List.getElem?_map] at hri
   cases hri':rows[i]? with
   | none=>simp [hri'] at hri
   | some r0 =>
    simp [hri'] at hri
    subst hri
    rw [List.getElem?_map] at htj
    cases htj':r0[j]? with
    | none=>simp [htj'] at htj
    | some t0 =>
     simp [htj'] at htj
     subst htj
     have e:=hds_get i j r0 t0 hr hri' htj'
     rw [← hd] at e
     have e:=take_get e
     have hr0:=List.mem_of_getElem? hri'
     have ht0:=List.mem_of_getElem? htj'
     have:=ih r0 hr0 t0 ht0 (hw r0 hr0 t0 ht0) (fun b hb0=>h2 b (by
      have a1:=cnt_mem b r0 t0 ht0
      have a2:=cntL_mem b rows r0 hr0
      simp only [cnt]
      omega))
     simp only [List.getD_eq_getElem?_getD,e,Option.getD_some]
     exact this
theorem Rd.part {S:Nat→Prop} {w:World} {z l m len cap:Nat} {a:Option Addr} {rows:List (List T)} (h:Rd S w (.sl false z () rows) (.slice a len cap)) (hl:l≤m) (hm:m≤rows.length) :
  Rd S w (.sl false z () ((rows.drop l).take (m - l))) (.slice (if cap=l then a else a.map (·.add (l * z))) (m - l) (cap - l)):=by
 cases h with
 | sl u h1 h2 h3 h4 h5 =>
  have hlen:m - l=((rows.drop l).take (m - l)).length:=by simp; omega
  have key:=Rd.sl (S:=S) (w:=w) (z:=z) (a:=if cap=l then a else a.map (·.add (l * z))) (cap:=cap - l) (rows:=(rows.drop l).take (m - l)) (fun i j=>u (l + i) j) (by rw [← hlen]; omega) (by omega)
   (fun r hr=>h3 r (List.mem_of_mem_drop (List.mem_of_mem_take hr))) (fun i r j t hr ht=>?_) (fun i r j t hr ht=>?_)
  ·rw [← hlen] at key
   exact key
  ·rw [List.getElem?_take] at hr
   split at hr
   ·rename_i hi
    rw [List.getElem?_drop] at hr
    obtain ⟨ad,rfl,hS,hc⟩:=h4 (l + i) r j t hr ht
    rw [if_neg (by omega)]
    refine ⟨ad.add (l * z),rfl,by rw [add_block]; exact hS,?_⟩
    rw [Nat.add_mul,Nat.add_assoc] at hc
    rw [add_add]
    exact hc
   ·cases hr
  ·rw [List.getElem?_take] at hr
   split at hr
   ·rw [List.getElem?_drop] at hr
    exact h5 (l + i) r j t hr ht
   ·cases hr
theorem rf_lend {S S1:Nat→Prop} {w:World} {z off len:Nat} {hv v:Value} {rs:List (List G)} (h:Rp S w (.sl true z hv rs)) (hf:RfOK hv z off len v) (hl:off + len≤rs.length) (hw:wholeLL (((rs.map (·.map er)).drop off).take len)=true)
  (h1:∀ b,S b→S1 b) (h2:∀ b,0 < cnt b (.sl true z hv rs)→S1 b):Rd S1 w (.sl false z () (lentLL (((rs.map (·.map er)).drop off).take len))) v:=by
 have h1w:Rd S1 w (lent (er (.sl true z hv ((rs.drop off).take len)))) v∨True:=.inr trivial
 obtain ⟨hA,hn,hc,a',rfl,rfl,hle,h0,hlt⟩:=hf
 rw [wholeLL_eq] at hw
 simp only [lentLL_eq]
 have hlen:len=((((rs.map (·.map er)).drop off).take len).map (·.map lent)).length:=by simp; omega
 cases h with
 | nil =>
  have:len=0:=by simp at hl; omega
  subst this
  exact Rd.sl (rows:=[]) (fun _ _=>undef) (Nat.zero_le _) (by simp [maxLen]) (fun r hr=>by cases hr) (fun i r j t hr=>by simp at hr) (fun i r j t hr=>by simp at hr)
 | @own _ q cap e cur fz _ hg hz hl2 hm hs hr hd hR =>
  have get:∀ (i:Nat) (r:List T) (j:Nat) (t:T),((((rs.map (·.map er)).drop off).take len).map (·.map lent))[i]?=some r→r[j]?=some t→i < len∧∃ r0 t0,rs[off + i]?=some r0∧r0[j]?=some t0∧t=lent (er t0)∧whole (er t0)=true:=by
   intro i r j t hri htj
   rw [List.getElem?_map,List.getElem?_take] at hri
   split at hri
   ·rename_i hi
    rw [List.getElem?_drop,List.getElem?_map] at hri
    cases hr0:rs[off + i]? with
    | none=>simp [hr0] at hri
    | some r0 =>
     simp [hr0] at hri
     subst hri
     rw [List.getElem?_map] at htj
     cases ht0:r0[j]? with
     | none=>simp [ht0] at htj
     | some t0 =>
      simp [ht0] at htj
      refine ⟨hi,r0,t0,rfl,ht0,htj.symm,?_⟩
      have:=List.all_eq_true.1 hw (r0.map er) (List.mem_of_getElem? (i:=i) (by rw [List.getElem?_take,if_pos hi,List.getElem?_drop,List.getElem?_map,hr0]; rfl))
      exact List.all_eq_true.1 this (er t0) (List.mem_map.2 ⟨t0,List.mem_of_getElem? ht0,rfl⟩)
   ·simp at hri
  have key:=Rd.sl (S:=S1) (w:=w) (z:=z) (a:=a') (cap:=hc - off) (rows:=(((rs.map (·.map er)).drop off).take len).map (·.map lent)) (fun i j=>cur.toList.getD ((off + i) * z + j) undef)
   (by rw [← hlen]; omega) (by omega)
   (fun r hr'=>by
    obtain ⟨r1,h',rfl⟩:=List.mem_map.1 hr'
    have:=List.mem_of_mem_drop (List.mem_of_mem_take h')
    obtain ⟨r2,h'',rfl⟩:=List.mem_map.1 this
    simpa using hr r2 h'') (fun i r j t hri htj=>?_) (fun i r j t hri htj=>?_)
  ·rw [← hlen] at key
   exact key
  ·obtain ⟨hi,r0,t0,hr0,ht0,rfl,_⟩:=get i r j t hri htj
   obtain ⟨q',hq,rfl⟩:=hlt (by omega)
   simp at hq
   subst hq
   refine ⟨_,rfl,h2 q (by simp [cnt,hb]; omega),?_⟩
   have e:=hds_get (off + i) j r0 t0 hr hr0 ht0
   rw [← hd] at e
   have e:=take_get e
   rw [add_none,cell_at hg,List.getD_eq_getElem?_getD,e]
   rw [Nat.add_mul,Nat.add_assoc] at e
   simpa using e
  ·obtain ⟨hi,r0,t0,hr0,ht0,rfl,hw0⟩:=get i r j t hri htj
   have e:=hds_get (off + i) j r0 t0 hr hr0 ht0
   rw [← hd] at e
   have e:=take_get e
   have m1:=List.mem_of_getElem? hr0
   have m2:=List.mem_of_getElem? ht0
   simp only [List.getD_eq_getElem?_getD,e,Option.getD_some]
   exact rp_lend (hR r0 m1 t0 m2) hw0 h1 (fun b hb0=>h2 b (by
    have a1:=cnt_mem b r0 t0 m2
    have a2:=cntL_mem b rs r0 m1
    simp only [cnt]
    omega))
section
variable {X:Ctx} {n:Nat} {g:Gh} {st:St} {hand:List G} {a:Act} {w:World} {α:Type} {Te:Nat→List AV→Res→Prop} {Q:α→St→Prop}
theorem Sim.sub {hand':List G} (h:Sim X n g st hand a w) (hm:∀ t∈hand',t∈hand) (hc:∀ b,cntL b hand'≤cntL b hand):Sim X n g st hand' a w :=
  { h with
    held:=fun t ht=>h.held t (hm t ht)
    sole:=by obtain ⟨N,h1,h2⟩:=h.sole; exact ⟨N,h1,fun b=>by have:=h2 b; have:=hc b; omega⟩
    mine:=fun b k hb=>h.mine b k (by have:=hc b; omega) }
theorem Sim.more {u:G} (h:Sim X n g st hand a w) (hu:Rp X.S w u) (hc:∀ b,cnt b u=0):Sim X n g st (u::hand) a w :=
  { h with
    held:=fun t ht=>by
      rcases List.mem_cons.1 ht with rfl | ht
      · exact hu
      · exact h.held t ht
    sole:=by obtain ⟨N,h1,h2⟩:=h.sole; exact ⟨N,h1,fun b=>by have:=h2 b; have:=hc b; simp only [cntL]; omega⟩
    mine:=fun b k hb=>h.mine b k (by have:=hc b; simp only [cntL] at hb; omega) }
theorem take_ok {k:T→Prg α} {c:Cel} {v:Value} (h:Sim X n g st hand a w) (hc:CelOK X.S g w c v) (hp:runP Te (takeC c k) st Q) :
  ∃ g' st' u,Sim X n g' st' (u::hand) a w∧Keeps Never g g'∧hdr u=v∧runP Te (k (er u)) st' Q∧g'.gb=g.gb∧st'.s=st.s∧st'.b=st.b:=by
 cases c with
 | pv u =>
  obtain ⟨rfl,h1⟩:=hc
  exact ⟨g,st,.pv v,h.more (.pv h1) (fun b=>by simp [cnt]),Keeps.refl _ _,rfl,by simpa [takeC,er] using hp,rfl,rfl,rfl⟩
 | nils z =>
  obtain rfl:=hc
  exact ⟨g,st,.sl true z (.slice none 0 0) [],h.more .nil (fun b=>by simp [cnt,hb,cntLL]),Keeps.refl _ _,rfl,by simpa [takeC,er,erLL] using hp,rfl,rfl,rfl⟩
 | ro z rows =>
  have he:er (.sl false z v (upLL rows)) = .sl false z () rows:=by simp [er,erLL_upLL]
  exact ⟨g,st,.sl false z v (upLL rows),h.more (.ro (by rw [show er (.sl false z v (upLL rows))=er (Tr.sl false z v (upLL rows)) from rfl,he]; exact hc)) (fun b=>by simp [cnt]),Keeps.refl _ _,rfl,by rw [he]; simpa [takeC] using hp,rfl,rfl,rfl⟩
 | dead =>
  exact ⟨g,st,.no v,h.more (.no hc) (fun b=>by simp [cnt]),Keeps.refl _ _,rfl,by simpa [takeC,er] using hp,rfl,rfl,rfl⟩
 | rf r c p z off len =>
  simp only [takeC,runP] at hp
  cases hr:get st.r r with
  | none=>simp [hr] at hp
  | some cs =>
   simp only [hr,node] at hp
   split at hp
   ·rename_i z' hh rows hn
    simp only [runP,Bool.and_eq_true,beq_iff_eq,decide_eq_true_eq,hr] at hp
    obtain ⟨rfl,⟨rfl,hl⟩,hp⟩:=hp
    obtain ⟨g',u,h1,h2,h3,h4,_,_,h7⟩:=h.take hr hn hl hc
    exact ⟨g',_,u,h1,h2,h3,by rw [h4]; exact hp,h7,rfl,rfl⟩
   ·simp [runP] at hp
theorem takes_ok:∀ {cs:List Cel} {vs:List Value} {k:List T→Prg α} {g:Gh} {st:St} {hand:List G},Sim X n g st hand a w→CelsOK X.S g w cs vs→runP Te (takeL cs k) st Q→
  ∃ g' st' us,Sim X n g' st' (us++hand) a w∧Keeps Never g g'∧us.map hdr=vs∧runP Te (k (us.map er)) st' Q∧g'.gb=g.gb∧st'.s=st.s∧st'.b=st.b
 | [],vs,k,g,st,hand,h,hc,hp=>by
  have:vs=[]:=List.eq_nil_of_length_eq_zero (by simpa using hc.1.symm)
  subst this
  exact ⟨g,st,[],h,Keeps.refl _ _,rfl,by simpa [takeL] using hp,rfl,rfl,rfl⟩
 | c::cs,[],k,g,st,hand,h,hc,hp=>by simp [CelsOK] at hc
 | c::cs,v::vs,k,g,st,hand,h,hc,hp=>by
  simp only [takeL] at hp
  obtain ⟨g1,st1,u,h1,k1,e1,hp1,b1,s1,bb1⟩:=take_ok h (hc.2 0 c v rfl rfl) hp
  have hcs:CelsOK X.S g1 w cs vs:=⟨by simpa using hc.1,fun i c v h h'=>(hc.2 (i + 1) c v (by simpa using h) (by simpa using h')).keep k1 (fun _ _=>rfl) (never_cel c)⟩
  obtain ⟨g2,st2,us,h2,k2,e2,hp2,b2,s2,bb2⟩:=takes_ok h1 hcs hp1
  refine ⟨g2,st2,u::us,h2.sub (fun t ht=>?_) (fun b=>?_),k1.trans k2,by simp [e1,e2],hp2,b2.trans b1,s2.trans s1,bb2.trans bb1⟩
  ·simp only [List.cons_append,List.mem_cons,List.mem_append] at ht ⊢
   rcases ht with h | h | h
   ·exact .inr (.inl h)
   ·exact .inl h
   ·exact .inr (.inr h)
  ·simp only [List.cons_append,cntL,cntL_append]; omega
def LendS (X:Ctx) (g:Gh):Nat→Prop:=fun b=>X.S b∨∃ r,0 < rcnt b (g.gr r)
theorem lend_ok {k:T→Prg α} {c:Cel} {v:Value} (h:Sim X n g st hand a w) (hc:CelOK X.S g w c v) (hp:runP Te (lendC c k) st Q) :
  ∃ t,Rd (if isRf c then LendS X g else X.S) w t v∧runP Te (k t) st Q:=by
 cases c with
 | pv u =>
  obtain ⟨rfl,h1⟩:=hc
  exact ⟨.pv v,.pv h1,by simpa [lendC] using hp⟩
 | nils z =>
  obtain rfl:=hc
  exact ⟨.sl false z () [],Rd.sl (rows:=[]) (fun _ _=>undef) (Nat.le_refl _) (by simp [maxLen]) (fun r hr=>by cases hr) (fun i r j t hr=>by simp at hr) (fun i r j t hr=>by simp at hr),by simpa [lendC] using hp⟩
 | ro z rows=>exact ⟨_,hc,by simpa [lendC] using hp⟩
 | dead=>simp [lendC,runP] at hp
 | rf r c p z off len =>
  simp only [lendC,runP] at hp
  cases hr:get st.r r with
  | none=>simp [hr] at hp
  | some cs =>
   simp only [hr,node] at hp
   split at hp
   ·rename_i z' hh rows hn
    simp only [runP,Bool.and_eq_true,beq_iff_eq,decide_eq_true_eq] at hp
    obtain ⟨rfl,⟨hl,hwh⟩,hp⟩:=hp
    obtain ⟨gs,t,hv',rs,hg,rfl,ht,hm,rfl,hna,hR,hRm⟩:=h.node hr hn
    have hf:=hc.2.2 _ hna rfl
    refine ⟨_,rf_lend hRm hf (by simpa using hl) hwh (fun b hb=>.inl hb) (fun b hb=>.inr ⟨r,?_⟩),hp⟩
    have a1:=cnt_atP b p hm
    have a2:=cntL_get b ht
    rw [hg]
    simp only [rcnt]
    omega
   ·simp [runP] at hp
theorem Rd.up_ {S S':Nat→Prop} {w:World} {t:T} {v:Value} (h:Rd S w t v) (hs:∀ b,S b→S' b):Rd S' w t v:=h.move hs (fun _ _=>rfl)
theorem lends_ok {S1:Nat→Prop} (hS:∀ b,X.S b→S1 b):∀ {cs:List Cel} {vs:List Value} {k:List T→Prg α},Sim X n g st hand a w→CelsOK X.S g w cs vs→runP Te (lendL cs k) st Q→(cs.any isRf=true→∀ b,LendS X g b→S1 b)→
  ∃ ts,ts.length=vs.length∧(∀ (i:Nat) (t:T) (v:Value),ts[i]?=some t→vs[i]?=some v→Rd S1 w t v)∧runP Te (k ts) st Q
 | [],vs,k,h,hc,hp,_=>by
  have:vs=[]:=List.eq_nil_of_length_eq_zero (by simpa using hc.1.symm)
  subst this
  exact ⟨[],rfl,fun i t v h=>by simp at h,by simpa [lendL] using hp⟩
 | c::cs,[],k,h,hc,hp,_=>by simp [CelsOK] at hc
 | c::cs,v::vs,k,h,hc,hp,hx=>by
  simp only [lendL] at hp
  obtain ⟨t,ht,hp1⟩:=lend_ok h (hc.2 0 c v rfl rfl) hp
  have hcs:CelsOK X.S g w cs vs:=⟨by simpa using hc.1,fun i c v h h'=>hc.2 (i + 1) c v (by simpa using h) (by simpa using h')⟩
  obtain ⟨ts,e,hts,hp2⟩:=lends_ok hS h hcs hp1 (fun hh=>hx (by simp [hh]))
  refine ⟨t::ts,by simp [e],fun i t' v' h1 h2=>?_,hp2⟩
  cases i with
  | zero =>
   simp at h1 h2
   subst h1; subst h2
   cases hrf:isRf c with
   | true=>rw [hrf] at ht; exact ht.up_ (hx (by simp [hrf]))
   | false=>rw [hrf] at ht; exact ht.up_ hS
  | succ i=>exact hts i t' v' (by simpa using h1) (by simpa using h2)
end
end Go.X

namespace Go.X
def constC:Value→Cel→Bool
 | .int k n,.pv (.int k' n')=>k==k'&&n==n'
 | .bool b,.pv (.bool b')=>b==b'
 | .string s,.pv (.string s')=>s.data.toList==s'.data.toList
 | .slice none 0 0,.nils _=>true
 | .pointer none,.pv (.pointer none)=>true
 | _,_=>false
def constL:List Value→List Cel→Bool
 | [],[]=>true
 | v::vs,c::cs=>constC v c&&constL vs cs
 | _,_=>false
def constS:Value→SV→Bool
 | .agg vs,.agg cs=>constL vs.toList cs
 | v,.one c=>constC v c
 | _,_=>false
def opdOk:Operand→Opd→Bool
 | .tmp t,.t t'=>t==t'
 | .const v,.k s=>constS v s
 | _,_=>false
theorem constC_ok {v:Value} {c:Cel} (h:constC v c=true) (S:Nat→Prop) (g:Gh) (w:World):CelOK S g w c v:=by
 unfold constC at h
 split at h
 ·simp only [Bool.and_eq_true,beq_iff_eq] at h
  obtain ⟨rfl,rfl⟩:=h
  exact ⟨rfl,rfl⟩
 ·simp only [beq_iff_eq] at h; subst h; exact ⟨rfl,rfl⟩
 ·rename_i s s'
  have:s=s':=by
   have h:=eq_of_beq h
   cases s; cases s'; simp at h; simp [h]
  subst this
  exact ⟨rfl,rfl⟩
 ·exact rfl
 ·exact ⟨rfl,rfl⟩
 ·cases h
theorem constL_ok:∀ {vs:List Value} {cs:List Cel},constL vs cs=true→∀ (S:Nat→Prop) (g:Gh) (w:World),CelsOK S g w cs vs
 | [],[],_,S,g,w=>⟨rfl,fun k c u h=>by simp at h⟩
 | v::vs,c::cs,h,S,g,w=>by
  simp only [constL,Bool.and_eq_true] at h
  have:=constL_ok h.2 S g w
  refine ⟨by simpa using this.1,fun k c' u h1 h2=>?_⟩
  cases k with
  | zero=>simp at h1 h2; subst h1; subst h2; exact constC_ok h.1 S g w
  | succ k=>exact this.2 k c' u (by simpa using h1) (by simpa using h2)
 | [],_::_,h,_,_,_=>by simp [constL] at h
 | _::_,[],h,_,_,_=>by simp [constL] at h
theorem constS_ok {v:Value} {s:SV} (h:constS v s=true) (S:Nat→Prop) (g:Gh) (w:World):SlotOK S g w s v:=by
 unfold constS at h
 split at h
 ·rename_i vs cs
  simp only [SlotOK]
  exact ⟨vs.toList,by simp,constL_ok h S g w⟩
 ·simp only [SlotOK]; exact constC_ok h S g w
 ·cases h
section
variable {P:Program} {X:Ctx} {n:Nat} {g:Gh} {st:St} {hand:List G} {a:Act} {w:World} {α:Type} {Te:Nat→List AV→Res→Prop}
abbrev Goal (X:Ctx) (n:Nat) (K:St→Prop):Act→World→Prop:=fun a w=>∃ g st,K st∧Sim X n g st [] a w
theorem ev_ok {x:Operand} {o:Opd} {k:SV→Prg α} {Q:α→St→Prop} (h:Sim X n g st hand a w) (ho:opdOk x o=true) (hp:runP Te (o.ev k) st Q):∃ v,SlotOK X.S g w v (a.eval x)∧runP Te (k v) st Q:=by
 unfold opdOk at ho
 split at ho
 ·rename_i t t'
  have:=eq_of_beq ho
  subst this
  simp only [Opd.ev,runP] at hp
  cases hg:get st.s t with
  | none=>rw [hg] at hp; exact ⟨.un,by simp [SlotOK],hp⟩
  | some v=>rw [hg] at hp; exact ⟨v,h.slots t v hg,hp⟩
 ·rename_i v s
  exact ⟨s,constS_ok ho _ _ _,hp⟩
 ·cases ho
theorem fin_ok {d:Option Nat} {v:SV} {u:Value} {K:St→Prop} (h:Sim X n g st [] a w) (hd:∀ k,d=some k→k < n) (hv:SlotOK X.S g w v u) (hp:runP Te (fin d v) st (fun _ st'=>K st')):Goal X n K (a.put d u) w:=by
 cases d with
 | none=>exact ⟨g,st,hp,h⟩
 | some k=>exact ⟨g,_,hp,h.slot (hd k rfl) hv⟩
theorem step_value {o:Oper} {K:Act→World→Prop} {Q:Exit→Act→World→Prop} {v:Value} {w':World} (hr:(execOp a.eval o).run P w = .ok (.value v) w') (h:K (a.put o.dst v) w'):o.wp P a w K Q:=by
 unfold Oper.wp; rw [hr]; exact h
theorem step_skip {o:Oper} {K:Act→World→Prop} {Q:Exit→Act→World→Prop} {w':World} (hr:(execOp a.eval o).run P w = .ok .skip w') (h:K (a.put o.dst undef) w'):o.wp P a w K Q:=by
 unfold Oper.wp; rw [hr]; exact h
section ops
variable {o:Oper} {K:St→Prop} {Q:Exit→Act→World→Prop}
theorem do_mv {x:Operand} {y:Opd} (h:Sim X n g st [] a w) (ho:o.op = .move x∨o.op = .assign x) (hx:opdOk x y=true) (hd:∀ k,o.dst=some k→k < n) (id:Nat)
  (hp:runP Te ((COp.mv y).prg o.dst id) st (fun _ st'=>K st')):o.wp P a w (Goal X n K) Q:=by
 replace hp:=ev_ok h hx hp
 obtain ⟨v,hv,hp⟩:=hp
 refine step_value (v:=a.eval x) (w':=w) ?_ (fin_ok h hd hv hp)
 rcases ho with ho | ho <;> simp [execOp,ho]
theorem do_pick {x y z:Operand} {x' y' z':Opd} (h:Sim X n g st [] a w) (ho:o.op = .pick x y z) (hx:opdOk x x'=true) (hy:opdOk y y'=true) (hz:opdOk z z'=true) (hd:∀ k,o.dst=some k→k < n) (id:Nat)
  (hp:runP Te ((COp.pick x' y' z').prg o.dst id) st (fun _ st'=>K st')):o.wp P a w (Goal X n K) Q:=by
 replace hp:=ev_ok h hx hp
 obtain ⟨v,hv,hp⟩:=hp
 replace hp:=ev_ok h hy hp
 obtain ⟨v1,hv1,hp⟩:=hp
 replace hp:=ev_ok h hz hp
 obtain ⟨v2,hv2,hp⟩:=hp
 split at hp
 ·rename_i b
  obtain ⟨hb,_⟩:a.eval x = .bool b∧_:=by simpa [SlotOK,CelOK] using hv
  refine step_value (v:=if b then a.eval y else a.eval z) (w':=w) ?_ (fin_ok h hd ?_ hp)
  ·simp [execOp,ho,hb,asBool]
  ·cases b <;> simpa
 ·exact hp.elim
theorem do_nilc {x:Operand} {x':Opd} (h:Sim X n g st [] a w) (ho:o.op = .nilCheck x) (hx:opdOk x x'=true) (hd:∀ k,o.dst=some k→k < n) (id:Nat)
  (hp:runP Te ((COp.nilc x').prg o.dst id) st (fun _ st'=>K st')):o.wp P a w (Goal X n K) Q:=by
 replace hp:=ev_ok h hx hp
 obtain ⟨v,hv,hp⟩:=hp
 have key:∀ ad,a.eval x = .pointer (some ad)→(execOp a.eval o).run P w = .ok (.value (a.eval x)) w:=fun ad e=>by simp [execOp,ho,e]
 split at hp
 ·have hv':=hv
  simp only [SlotOK] at hv
  obtain ⟨A,_,e⟩:=hv
  exact step_value (key _ e) (fin_ok h hd hv' hp)
 ·have hv':=hv
  simp only [SlotOK] at hv
  obtain ⟨⟨ad,e⟩,_⟩:=hv
  exact step_value (key _ e) (fin_ok h hd hv' hp)
 ·have hv':=hv
  simp only [SlotOK] at hv
  obtain ⟨ad,e,_⟩:=hv
  exact step_value (key _ e) (fin_ok h hd hv' hp)
 ·exact hp.elim
theorem run_binV {t:TypeId} {op:BinOp} {x y v:Value} (h:binV op x y=some v) (w:World):(binOp op t x y).run P w = .ok v w:=by
 unfold binV at h
 split at h
 ·rename_i k i k' j
  cases op <;> simp only at h
  case shl=>cases hj:decide (0≤j) <;> simp [hj] at h; subst h; simp at hj; simp [binOp,Op.shift,show ¬ j < 0 by omega]
  case shr=>cases hj:decide (0≤j) <;> simp [hj] at h; subst h; simp at hj; simp [binOp,Op.shift,show ¬ j < 0 by omega]
  all_goals
   cases hk:(k==k') with
   | false=>simp [hk] at h
   | true =>
    have:=eq_of_beq hk
    subst this
    first
    | (simp at h; subst h; simp [binOp,Op.intArith,Op.intBits,Op.intCmp]; done)
    | (simp at h; subst h; simp [binOp,Op.intArith,Op.intBits,Op.intCmp]; rfl)
    | (cases hj:(j==0) with
      | true=>simp [hj] at h
      | false=>simp [hj] at h; subst h; simp at hj; simp [binOp,Op.intDiv,hj])
 ·rename_i s s'
  cases op <;> simp only at h <;> first
   | (cases h; done)
   | (simp at h; subst h; simp [binOp,Op.stringOp]; done)
   | (cases hl:decide (s.size + s'.size≤4294967296) with
     | false=>simp [hl] at h
     | true =>
      simp [hl] at h; subst h
      have hl:=of_decide_eq_true hl
      have:¬ (((s.size + s'.size:Nat):Int) > IntKind.i64.max):=by
       have:IntKind.i64.max=9223372036854775807:=by decide
       omega
      simp only [binOp,Op.stringOp,if_neg this]; rfl)
 ·cases h
theorem slot_pv (S:Nat→Prop) (g:Gh) (w:World) {u:Value} (h:u.oneCell'=true):SlotOK S g w (.one (.pv u)) u:=by simp only [SlotOK,CelOK]; exact ⟨trivial,h⟩
theorem one_pv {S:Nat→Prop} {g:Gh} {w:World} {u v:Value} (h:SlotOK S g w (.one (.pv u)) v):v=u:=by simp only [SlotOK,CelOK] at h; exact h.1
theorem eqGuard_run {op:BinOp} {t:TypeId} {x y:Operand} {u v:Value} (w:World) (h2:u≠.nilIface) (h3:∀ c,u≠.agg c):(eqGuard op t x y u v).run P w = .ok () w:=by
 cases u <;> (first | exact absurd rfl h2 | exact absurd rfl (h3 _) | (cases op <;> rfl))
theorem binV_one {op:BinOp} {x y v:Value} (h:binV op x y=some v):v.oneCell'=true∧x≠.nilIface∧∀ c,x≠.agg c:=by
 unfold binV at h
 split at h
 ·rename_i k i k' j
  refine ⟨?_,by simp,by simp⟩
  cases op <;> simp only at h
  case shl=>cases hj:decide (0≤j) <;> simp [hj] at h; subst h; rfl
  case shr=>cases hj:decide (0≤j) <;> simp [hj] at h; subst h; rfl
  all_goals
   cases hk:(k==k') with
   | false=>simp [hk] at h
   | true =>
    simp only [hk,Bool.true_and,cond_true] at h
    first
    | (simp at h; subst h; rfl)
    | (cases hj:(j==0) with
      | true=>simp [hj] at h
      | false=>simp [hj] at h; subst h; rfl)
 ·rename_i s s'
  refine ⟨?_,by simp,by simp⟩
  cases op <;> simp only at h <;> first
   | (cases h; done)
   | (simp at h; subst h; rfl)
   | (cases hl:decide (s.size + s'.size≤4294967296) with
     | false=>simp [hl] at h
     | true=>simp [hl] at h; subst h; rfl)
 ·cases h
theorem do_bin {t yt:TypeId} {op:BinOp} {x y:Operand} {x' y':Opd} (h:Sim X n g st [] a w) (ho:o.op = .binOp op t x y yt) (hx:opdOk x x'=true) (hy:opdOk y y'=true) (hd:∀ k,o.dst=some k→k < n) (id:Nat)
  (hp:runP Te ((COp.bin op x' y').prg o.dst id) st (fun _ st'=>K st')):o.wp P a w (Goal X n K) Q:=by
 replace hp:=ev_ok h hx hp
 obtain ⟨v,hv,hp⟩:=hp
 replace hp:=ev_ok h hy hp
 obtain ⟨v1,hv1,hp⟩:=hp
 split at hp
 ·rename_i u1 u2
  have e1:=one_pv hv
  have e2:=one_pv hv1
  cases hb:binV op u1 u2 with
  | none=>simp [runP,hb] at hp
  | some u =>
   simp only [runP,hb] at hp
   have hr:=run_binV (P:=P) (t:=t) hb w
   obtain ⟨b1,b2,b3⟩:=binV_one hb
   refine step_value (v:=u) (w':=w) ?_ (fin_ok h hd ?_ hp)
   ·simp only [execOp,ho,e1,e2,Sem.run_bind,eqGuard_run w b2 b3,Result.andThen_ok,hr]
    rfl
   ·simp only [SlotOK,CelOK]
    exact ⟨trivial,b1⟩
 ·exact hp.elim
theorem run_equal_bool {t:TypeId} (ht:P.underlying t=some .bool) (x y:Bool) (w:World):(Op.equal t (.bool x) (.bool y)).run P w = .ok (x==y) w:=by
 show (Op.equalIn (9999 + 1) t (.bool x) (.bool y)).run P w=_
 rw [Op.equalIn]
 simp [run_underlying ht]
theorem run_binOp_bool {t:TypeId} (ht:P.underlying t=some .bool) (neg x y:Bool) (w:World):(binOp (bif neg then .neq else .eql) t (.bool x) (.bool y)).run P w = .ok (.bool ((x==y) != neg)) w:=by
 cases neg
 ·show (do pure (Value.bool (← Op.equal t (.bool x) (.bool y)))).run P w=_
  simp [run_equal_bool ht]
 ·show (do pure (Value.bool (!(← Op.equal t (.bool x) (.bool y))))).run P w=_
  simp [run_equal_bool ht]
theorem do_beq {t yt:TypeId} {op:BinOp} {neg:Bool} {x y:Operand} {x' y':Opd} (h:Sim X n g st [] a w) (ho:o.op = .binOp op t x y yt) (hop:op=bif neg then .neq else .eql) (ht:P.underlying t=some .bool) (hx:opdOk x x'=true) (hy:opdOk y y'=true) (hd:∀ k,o.dst=some k→k < n) (id:Nat)
  (hp:runP Te ((COp.beq neg x' y').prg o.dst id) st (fun _ st'=>K st')):o.wp P a w (Goal X n K) Q:=by
 replace hp:=ev_ok h hx hp
 obtain ⟨v,hv,hp⟩:=hp
 replace hp:=ev_ok h hy hp
 obtain ⟨v1,hv1,hp⟩:=hp
 split at hp
 ·rename_i u1 u2
  have e1:=one_pv hv
  have e2:=one_pv hv1
  refine step_value (v:=.bool ((u1==u2) != neg)) (w':=w) ?_ (fin_ok h hd ?_ hp)
  ·simp only [execOp,ho,e1,e2,Sem.run_bind,eqGuard_run (P:=P) (op:=op) (t:=t) (x:=x) (y:=y) (u:=.bool u1) (v:=.bool u2) w (by simp) (by simp),Result.andThen_ok]
   subst hop
   rw [run_binOp_bool ht]
   simp
  ·simp only [SlotOK,CelOK]
   exact ⟨trivial,rfl⟩
 ·exact hp.elim
theorem do_not {t:TypeId} {x:Operand} {x':Opd} (h:Sim X n g st [] a w) (ho:o.op = .unOp .not t x) (hx:opdOk x x'=true) (hd:∀ k,o.dst=some k→k < n) (id:Nat)
  (hp:runP Te ((COp.not x').prg o.dst id) st (fun _ st'=>K st')):o.wp P a w (Goal X n K) Q:=by
 replace hp:=ev_ok h hx hp
 obtain ⟨v,hv,hp⟩:=hp
 split at hp
 ·rename_i b
  have e1:=one_pv hv
  refine step_value (v:=.bool (!b)) (w':=w) ?_ (fin_ok h hd ?_ hp)
  ·simp [execOp,ho,e1,Op.unary]
  ·simp only [SlotOK,CelOK]
   exact ⟨trivial,rfl⟩
 ·exact hp.elim
theorem do_convInt {src dst:TypeId} {k:IntKind} {x:Operand} {x':Opd} {d0:TypeDesc} (h:Sim X n g st [] a w) (ho:o.op = .convert src dst x) (hs:P.underlying src=some d0) (ht:P.underlying dst=some (.int k)) (hx:opdOk x x'=true) (hd:∀ k,o.dst=some k→k < n) (id:Nat)
  (hp:runP Te ((COp.conv (.int k) x').prg o.dst id) st (fun _ st'=>K st')):o.wp P a w (Goal X n K) Q:=by
 replace hp:=ev_ok h hx hp
 obtain ⟨v,hv,hp⟩:=hp
 simp only at hp
 split at hp
 ·rename_i k0 m
  have e1:=one_pv hv
  refine step_value (v:=.int k (k.wrap m)) (w':=w) ?_ (fin_ok h hd ?_ hp)
  ·simp [execOp,ho,e1,convert,run_underlying hs,run_underlying ht,Conv.intToInt]
  ·simp only [SlotOK,CelOK]
   exact ⟨trivial,rfl⟩
 ·exact hp.elim
theorem do_min {c:Call} {x y:Operand} {x' y':Opd} (h:Sim X n g st [] a w) (ho:o.op = .call c) (hc:c.callee = .builtin .min) (ha:c.args = #[x,y]) (hx:opdOk x x'=true) (hy:opdOk y y'=true) (hd:∀ k,o.dst=some k→k < n) (id:Nat)
  (hp:runP Te ((COp.min x' y').prg o.dst id) st (fun _ st'=>K st')):o.wp P a w (Goal X n K) Q:=by
 replace hp:=ev_ok h hx hp
 obtain ⟨v,hv,hp⟩:=hp
 replace hp:=ev_ok h hy hp
 obtain ⟨v1,hv1,hp⟩:=hp
 split at hp
 ·rename_i k i k' j
  have e1:=one_pv hv
  have e2:=one_pv hv1
  refine step_value (v:=.int k (bif decide (j < i) then j else i)) (w':=w) ?_ (fin_ok h hd ?_ hp)
  ·simp [execOp,ho,resolve,hc,ha,invoke,builtin,e1,e2,Builtin.min_,Builtin.min2]
  ·simp only [SlotOK,CelOK]
   exact ⟨trivial,rfl⟩
 ·exact hp.elim
theorem do_max {c:Call} {x y:Operand} {x' y':Opd} (h:Sim X n g st [] a w) (ho:o.op = .call c) (hc:c.callee = .builtin .max) (ha:c.args = #[x,y]) (hx:opdOk x x'=true) (hy:opdOk y y'=true) (hd:∀ k,o.dst=some k→k < n) (id:Nat)
  (hp:runP Te ((COp.max x' y').prg o.dst id) st (fun _ st'=>K st')):o.wp P a w (Goal X n K) Q:=by
 replace hp:=ev_ok h hx hp
 obtain ⟨v,hv,hp⟩:=hp
 replace hp:=ev_ok h hy hp
 obtain ⟨v1,hv1,hp⟩:=hp
 split at hp
 ·rename_i s s'
  have e1:=one_pv hv
  have e2:=one_pv hv1
  refine step_value (v:=.string (bif !(Op.bytesLess s.toList s'.toList) then s else s')) (w':=w) ?_ (fin_ok h hd ?_ hp)
  ·simp [execOp,ho,resolve,hc,ha,invoke,builtin,e1,e2,Builtin.max_,Builtin.max2,Op.stringOp,asBool]
   cases Op.bytesLess s.toList s'.toList <;> simp
  ·simp only [SlotOK,CelOK]
   exact ⟨trivial,rfl⟩
 ·exact hp.elim
theorem do_slen {c:Call} {t:TypeId} {x:Operand} {x':Opd} (h:Sim X n g st [] a w) (ho:o.op = .call c) (hc:c.callee = .builtin .len) (ha:c.args = #[x]) (ht:c.argTypes = #[t]) (hu:P.underlying t=some .string) (hx:opdOk x x'=true) (hd:∀ k,o.dst=some k→k < n) (id:Nat)
  (hp:runP Te ((COp.slen x').prg o.dst id) st (fun _ st'=>K st')):o.wp P a w (Goal X n K) Q:=by
 replace hp:=ev_ok h hx hp
 obtain ⟨v,hv,hp⟩:=hp
 split at hp
 ·rename_i s
  have e:=one_pv hv
  refine step_value (v:=.int .i64 s.size) (w':=w) ?_ (fin_ok h hd ?_ hp)
  ·simp [execOp,ho,resolve,hc,ha,ht,invoke,builtin,e,Builtin.len_,run_underlying hu,goInt]
  ·simp only [SlotOK,CelOK]
   exact ⟨trivial,rfl⟩
 ·exact hp.elim
theorem do_len {c:Call} {t e:TypeId} {x:Operand} {x':Opd} (h:Sim X n g st [] a w) (ho:o.op = .call c) (hc:c.callee = .builtin .len) (ha:c.args = #[x]) (ht:c.argTypes = #[t]) (hu:P.underlying t=some (.slice e)) (hx:opdOk x x'=true) (hd:∀ k,o.dst=some k→k < n) (id:Nat)
  (hp:runP Te ((COp.len x').prg o.dst id) st (fun _ st'=>K st')):o.wp P a w (Goal X n K) Q:=by
 replace hp:=ev_ok h hx hp
 obtain ⟨v,hv,hp⟩:=hp
 have key:∀ (m:Nat) A cap,a.eval x = .slice A m cap→(execOp a.eval o).run P w = .ok (.value (.int .i64 m)) w:=by
  intro m A cap e
  simp [execOp,ho,resolve,hc,ha,ht,invoke,builtin,e,Builtin.len_,run_underlying hu,goInt]
 split at hp
 ·simp only [SlotOK,CelOK] at hv
  exact step_value (key 0 _ _ hv) (fin_ok h hd (slot_pv _ _ _ rfl) hp)
 ·rename_i z rs
  simp only [SlotOK,CelOK] at hv
  cases hv':a.eval x <;> rw [hv'] at hv <;> cases hv
  exact step_value (key _ _ _ hv') (fin_ok h hd (slot_pv _ _ _ rfl) hp)
 ·rename_i r c0 p z off len
  simp only [SlotOK] at hv
  obtain ⟨⟨A,cap,e,_⟩,_⟩:=hv
  exact step_value (key _ _ _ e) (fin_ok h hd (slot_pv _ _ _ rfl) hp)
 ·exact hp.elim
end ops
end
end Go.X

namespace Go.X
section
variable {P:Program} {X:Ctx} {n:Nat} {g:Gh} {st:St} {hand:List G} {a:Act} {w:World} {α:Type} {Te:Nat→List AV→Res→Prop} {o:Oper} {K:St→Prop} {Q:Exit→Act→World→Prop}
theorem nat_ok {v:SV} {u:Value} {k:Nat→Prg α} {R:α→St→Prop} {S:Nat→Prop} (hv:SlotOK S g w v u) (hp:runP Te (nat? v k) st R):∃ (kd:IntKind) (i:Int) (m:Nat),u = .int kd i∧0≤i∧i.toNat=m∧runP Te (k m) st R:=by
 unfold nat? at hp
 split at hp
 ·rename_i kd i
  simp only [runP,decide_eq_true_eq] at hp
  exact ⟨kd,i,_,one_pv hv,hp.1,rfl,hp.2⟩
 ·exact hp.elim
theorem opt_ok {x:Option Operand} {x':Option Opd} {z:Nat} {k:Nat→Prg α} {R:α→St→Prop} (h:Sim X n g st hand a w) (hx:match x,x' with | none,none=>True | some x,some x'=>opdOk x x'=true | _,_=>False) (hp:runP Te (opt? x' z k) st R) :
  ∃ m,runP Te (k m) st R∧((x=none∧m=z)∨∃ (y:Operand) (kd:IntKind) (i:Int),x=some y∧a.eval y = .int kd i∧0≤i∧i.toNat=m):=by
 unfold opt? at hp
 split at hp
 ·cases x with
  | none=>exact ⟨z,hp,.inl ⟨rfl,rfl⟩⟩
  | some x=>exact hx.elim
 ·cases x with
  | none=>exact hx.elim
  | some y =>
   obtain ⟨v,hv,hp⟩:=ev_ok h hx hp
   obtain ⟨kd,i,m,e,h0,rfl,hp⟩:=nat_ok hv hp
   exact ⟨_,hp,.inr ⟨y,kd,i,rfl,e,h0,rfl⟩⟩
theorem do_ext {x:Operand} {x':Opd} {i:Nat} (h:Sim X n g st [] a w) (ho:o.op = .extract x i) (hx:opdOk x x'=true) (hd:∀ k,o.dst=some k→k < n) (id:Nat)
  (hp:runP Te ((COp.ext x' i).prg o.dst id) st (fun _ st'=>K st')):o.wp P a w (Goal X n K) Q:=by
 replace hp:=ev_ok h hx hp
 obtain ⟨v,hv,hp⟩:=hp
 split at hp
 ·rename_i vs
  simp only [SlotOK] at hv
  obtain ⟨us,e,hs⟩:=hv
  split at hp
  ·rename_i v0 hv0
   have key:∀ (vs:List SV) (us:List Value) (i:Nat),SlotsOK X.S g w vs us→vs[i]?=some v0→∃ u,us[i]?=some u∧SlotOK X.S g w v0 u:=by
    intro vs
    induction vs with
    | nil=>intro us i _ h; simp at h
    | cons v vs ih =>
     intro us i hs hi
     cases us with
     | nil=>simp [SlotsOK] at hs
     | cons u us =>
      simp only [SlotsOK] at hs
      cases i with
      | zero=>simp at hi; subst hi; exact ⟨u,rfl,hs.1⟩
      | succ i=>simpa using ih us i hs.2 (by simpa using hi)
   obtain ⟨u,hu,hu'⟩:=key vs us i hs hv0
   refine step_value (v:=u) (w':=w) ?_ (fin_ok h hd hu' hp)
   simp [execOp,ho,e,Instr.extract,hu]
  ·exact hp.elim
 ·exact hp.elim
theorem do_sidx {t:TypeId} {x y:Operand} {x' y':Opd} (h:Sim X n g st [] a w) (ho:o.op = .index t x y) (ht:P.underlying t=some .string) (hx:opdOk x x'=true) (hy:opdOk y y'=true) (hd:∀ k,o.dst=some k→k < n) (id:Nat)
  (hp:runP Te ((COp.sidx x' y').prg o.dst id) st (fun _ st'=>K st')):o.wp P a w (Goal X n K) Q:=by
 replace hp:=ev_ok h hx hp
 obtain ⟨v,hv,hp⟩:=hp
 replace hp:=ev_ok h hy hp
 obtain ⟨v1,hv1,hp⟩:=hp
 replace hp:=nat_ok hv1 hp
 obtain ⟨kd,i,m,e1,h0,rfl,hp⟩:=hp
 split at hp
 ·rename_i s
  have e:=one_pv hv
  simp only [runP,decide_eq_true_eq] at hp
  obtain ⟨hlt,hp⟩:=hp
  refine step_value (v:=.int .u8 (s.data.toList.getD i.toNat 0).toNat) (w':=w) ?_ (fin_ok h hd (slot_pv _ _ _ rfl) hp)
  have hlt':i.toNat < s.data.size:=hlt
  have hs:(if 0≤i then s[i.toNat]? else none)=some (s.data.toList.getD i.toNat 0):=by
   rw [if_pos h0]
   have e2:s[i.toNat]?=some s[i.toNat]:=getElem?_pos s i.toNat hlt
   rw [e2]
   congr 1
   show s.data[i.toNat]=_
   rw [List.getD_eq_getElem?_getD,Array.getElem?_toList,Array.getElem?_eq_getElem hlt']
   rfl
  simp only [execOp,ho,e,e1,Instr.index,asIntOf,Sem.run_bind,Sem.run_pure,Result.andThen_ok,run_underlying ht,hs]
 ·exact hp.elim
theorem do_faddr {s:TypeId} {x:Operand} {x':Opd} {i off:Nat} {fs:Array Field} {f:Field} {ti:TypeInfo} (h:Sim X n g st [] a w) (ho:o.op = .fieldAddr s x i) (hs:P.underlying s=some (.struct fs)) (hf:fs[i]?=some f) (hi:P.info? f.type=some ti) (h0:ti.size≠0) (hoff:f.offset=off)
  (hx:opdOk x x'=true) (hd:∀ k,o.dst=some k→k < n) (id:Nat) (hp:runP Te ((COp.faddr x' off).prg o.dst id) st (fun _ st'=>K st')):o.wp P a w (Goal X n K) Q:=by
 subst hoff
 replace hp:=ev_ok h hx hp
 obtain ⟨v,hv,hp⟩:=hp
 have key:∀ ad,a.eval x = .pointer (some ad)→(execOp a.eval o).run P w = .ok (.value (.pointer (some (ad.add f.offset)))) w:=fun ad e=>by
  simp [execOp,ho,e,Instr.fieldAt,run_underlying hs,hf,Instr.sureAddr,fieldPlace,sizeOf,typeInfo,hi,h0]
 split at hp
 ·simp only [SlotOK] at hv
  obtain ⟨A,hA,e⟩:=hv
  refine step_value (key _ e) (fin_ok h hd ?_ hp)
  simp only [SlotOK]
  exact ⟨A,hA,by rw [add_none,Nat.add_assoc]⟩
 ·simp only [SlotOK] at hv
  obtain ⟨⟨ad,e⟩,hr,hm⟩:=hv
  refine step_value (key _ e) (fin_ok h hd ?_ hp)
  simp only [SlotOK]
  refine ⟨⟨_,rfl⟩,hr,fun m h1 h2=>?_⟩
  obtain ⟨q,hn,hc,e1,e2⟩:=hm m h1 h2
  rw [e] at e2
  simp at e2
  subst e2
  exact ⟨q,hn,hc,e1,by rw [add_none,Nat.add_assoc]⟩
 ·simp only [SlotOK] at hv
  obtain ⟨ad,e,hc⟩:=hv
  refine step_value (key _ e) (fin_ok h hd ?_ hp)
  simp only [SlotOK]
  refine ⟨_,rfl,fun j t ht=>?_⟩
  rw [List.getElem?_drop] at ht
  obtain ⟨h1,u,h2,h3⟩:=hc _ t ht
  exact ⟨by rw [add_block]; exact h1,u,by rw [add_add]; exact h2,h3⟩
 ·exact hp.elim
theorem do_iaddr {t e:TypeId} {ti:TypeInfo} {z:Nat} {x y:Operand} {x' y':Opd} (h:Sim X n g st [] a w) (ho:o.op = .indexAddr t x y) (ht:P.underlying t=some (.slice e)) (hi:P.info? e=some ti) (hz:ti.size=z) (hz0:0 < z)
  (hx:opdOk x x'=true) (hy:opdOk y y'=true) (hd:∀ k,o.dst=some k→k < n) (id:Nat) (hp:runP Te ((COp.iaddr z x' y').prg o.dst id) st (fun _ st'=>K st')):o.wp P a w (Goal X n K) Q:=by
 subst hz
 replace hp:=ev_ok h hx hp
 obtain ⟨v,hv,hp⟩:=hp
 replace hp:=ev_ok h hy hp
 obtain ⟨v1,hv1,hp⟩:=hp
 replace hp:=nat_ok hv1 hp
 obtain ⟨kd,i,m,e1,h0,hm,hp⟩:=hp
 have key:∀ ad len cap,a.eval x = .slice (some ad) len cap→m < len→(execOp a.eval o).run P w = .ok (.value (.pointer (some (ad.add (m * ti.size))))) w:=fun ad len cap e0 hl=>by
  have hin:0≤i∧i < (len:Int):=⟨h0,by omega⟩
  simp [execOp,ho,e0,e1,Instr.indexAt,asIntOf,run_underlying ht,sizeOf,typeInfo,hi,hin,hm]
 split at hp
 ·rename_i z' rs
  split at hp
  ·rename_i r hr
   simp only [runP,beq_iff_eq] at hp
   obtain ⟨rfl,hp⟩:=hp
   simp only [SlotOK,CelOK] at hv
   obtain ⟨ad,cap,u,he,h1,h2,h3,h4,h5⟩:=hv.inv
   have hrl:=h3 r (List.mem_of_getElem? hr)
   have hml:=(List.getElem?_eq_some_iff.1 hr).1
   obtain ⟨b,rfl,hS,hc⟩:=h4 m r 0 _ hr (List.getElem?_eq_getElem (by omega))
   refine step_value (key b _ _ he hml) (fin_ok h hd ?_ hp)
   simp only [SlotOK]
   refine ⟨_,rfl,fun j t ht=>?_⟩
   obtain ⟨b',hb',hS',hc'⟩:=h4 m r j t hr ht
   simp at hb'
   subst hb'
   exact ⟨by rw [add_block]; exact hS',_,by rw [add_add]; exact hc',h5 m r j t hr ht⟩
  ·exact hp.elim
 ·rename_i r c p z' off len
  simp only [runP] at hp
  cases hr:get st.r r with
  | none=>simp [hr] at hp
  | some cs =>
   simp only [hr,node] at hp
   split at hp
   ·rename_i z2 hh rows hn
    simp only [runP,Bool.and_eq_true,beq_iff_eq,decide_eq_true_eq] at hp
    obtain ⟨rfl,⟨rfl,hl⟩,hp⟩:=hp
    simp only [SlotOK] at hv
    obtain ⟨gs,t0,hv',rs,hg,rfl,ht0,hm0,rfl,hna,hR,hRm⟩:=h.node hr hn
    obtain ⟨_,hrr,hf⟩:=hv
    obtain ⟨hA,hn',hc,a',e2,e3,hle,_,hlt⟩:=hf _ hna rfl
    obtain ⟨q,rfl,rfl⟩:=hlt (by omega)
    refine step_value (key _ _ _ e3 hl) (fin_ok h hd ?_ hp)
    simp only [SlotOK]
    refine ⟨⟨_,rfl⟩,hrr,fun m' h1 h2=>?_⟩
    rw [hna] at h1
    simp at h1
    subst h1
    exact ⟨q,_,_,e2,by rw [add_none,Nat.add_mul,Nat.add_zero]⟩
   ·exact hp.elim
 ·exact hp.elim
theorem do_aaddr {t e:TypeId} {ti:TypeInfo} {len z:Nat} {x y:Operand} {x' y':Opd} (h:Sim X n g st [] a w) (ho:o.op = .indexAddr t x y) (ht:P.underlying t=some (.array len e)) (hi:P.info? e=some ti) (hz:ti.size=z)
  (hx:opdOk x x'=true) (hy:opdOk y y'=true) (hd:∀ k,o.dst=some k→k < n) (id:Nat) (hp:runP Te ((COp.aaddr len z x' y').prg o.dst id) st (fun _ st'=>K st')):o.wp P a w (Goal X n K) Q:=by
 subst hz
 replace hp:=ev_ok h hx hp
 obtain ⟨v,hv,hp⟩:=hp
 replace hp:=ev_ok h hy hp
 obtain ⟨v1,hv1,hp⟩:=hp
 replace hp:=nat_ok hv1 hp
 obtain ⟨kd,i,m,e1,h0,hm,hp⟩:=hp
 split at hp
 ·rename_i b off
  simp only [SlotOK] at hv
  obtain ⟨A,hA,e2⟩:=hv
  simp only [runP,decide_eq_true_eq] at hp
  obtain ⟨hl,hp⟩:=hp
  have hin:0≤i∧i < (len:Int):=⟨h0,by omega⟩
  refine step_value (v:=.pointer (some ((⟨A.block,A.off + off,none⟩:Addr).add (m * ti.size)))) (w':=w) ?_ (fin_ok h hd ?_ hp)
  ·simp [execOp,ho,e2,e1,Instr.indexAt,asIntOf,run_underlying ht,sizeOf,typeInfo,hi,hin,hm,Instr.sureAddr]
  ·simp only [SlotOK]
   exact ⟨A,hA,by rw [add_none,Nat.add_assoc]⟩
 ·exact hp.elim
theorem run_bound {x:Operand} {kd:IntKind} {i:Int} {y:Nat} {code:BoundsCode} (e:a.eval x = .int kd i) (h0:0≤i) (h1:i.toNat≤y):(Instr.sliceBound (a.eval x) y code).run P w = .ok i.toNat w:=by
 simp [Instr.sliceBound,e,asIntOf,h0,show i≤(y:Int) by omega]
theorem run_bounds {lo hi:Option Operand} {b:Bool} {len cap l m:Nat} (hl:(lo=none∧l=0)∨∃ (y:Operand) (kd:IntKind) (i:Int),lo=some y∧a.eval y = .int kd i∧0≤i∧i.toNat=l)
  (hh:(hi=none∧m=len)∨∃ (y:Operand) (kd:IntKind) (i:Int),hi=some y∧a.eval y = .int kd i∧0≤i∧i.toNat=m) (h1:l≤m) (h2:m≤cap) :
  (Instr.sliceBounds b len cap (lo.map a.eval) (hi.map a.eval) none).run P w = .ok (l,m,cap) w:=by
 rcases hh with ⟨rfl,rfl⟩ | ⟨y,kd,i,rfl,e,h0,rfl⟩
 ·rcases hl with ⟨rfl,rfl⟩ | ⟨y',kd',i',rfl,e',h0',rfl⟩
  ·simp [Instr.sliceBounds]
  ·simp [Instr.sliceBounds,run_bound (P:=P) (w:=w) e' h0' h1]
 ·rcases hl with ⟨rfl,rfl⟩ | ⟨y',kd',i',rfl,e',h0',rfl⟩
  ·simp [Instr.sliceBounds,run_bound (P:=P) (w:=w) e h0 h2]
  ·simp [Instr.sliceBounds,run_bound (P:=P) (w:=w) e h0 h2,run_bound (P:=P) (w:=w) e' h0' h1]
def optOk:Option Operand→Option Opd→Prop
 | none,none=>True
 | some x,some x'=>opdOk x x'=true
 | _,_=>False
theorem do_sslice {t:TypeId} {x:Operand} {x':Opd} {lo hi:Option Operand} {lo' hi':Option Opd} (h:Sim X n g st [] a w) (ho:o.op = .slice t x lo hi none) (ht:P.underlying t=some .string) (hx:opdOk x x'=true) (hlo:optOk lo lo') (hhi:optOk hi hi') (hd:∀ k,o.dst=some k→k < n) (id:Nat)
  (hp:runP Te ((COp.sslice x' lo' hi').prg o.dst id) st (fun _ st'=>K st')):o.wp P a w (Goal X n K) Q:=by
 replace hp:=ev_ok h hx hp
 obtain ⟨v,hv,hp⟩:=hp
 split at hp
 ·rename_i s
  have e:=one_pv hv
  replace hp:=opt_ok h (x:=lo) (by cases lo <;> cases lo' <;> exact hlo) hp
  obtain ⟨l,hp,hl⟩:=hp
  replace hp:=opt_ok h (x:=hi) (by cases hi <;> cases hi' <;> exact hhi) hp
  obtain ⟨m,hp,hm⟩:=hp
  simp only [runP,Bool.and_eq_true,decide_eq_true_eq] at hp
  obtain ⟨⟨h1,h2⟩,hp⟩:=hp
  refine step_value (v:=.string (s.extract l m)) (w':=w) ?_ (fin_ok h hd (slot_pv _ _ _ rfl) hp)
  have hb:=run_bounds (P:=P) (w:=w) (b:=false) (cap:=s.size) hl hm h1 h2
  simp [execOp,ho,e,Instr.sliceAt,run_underlying ht,Instr.slice,hb]
 ·exact hp.elim
theorem do_slice {t el:TypeId} {ti:TypeInfo} {z:Nat} {x:Operand} {x':Opd} {lo hi:Option Operand} {lo' hi':Option Opd} (h:Sim X n g st [] a w) (ho:o.op = .slice t x lo hi none) (ht:P.underlying t=some (.slice el)) (hti:P.info? el=some ti) (hz:ti.size=z) (hx:opdOk x x'=true) (hlo:optOk lo lo') (hhi:optOk hi hi') (hd:∀ k,o.dst=some k→k < n) (id:Nat)
  (hp:runP Te ((COp.slice z x' lo' hi').prg o.dst id) st (fun _ st'=>K st')):o.wp P a w (Goal X n K) Q:=by
 subst hz
 replace hp:=ev_ok h hx hp
 obtain ⟨v,hv,hp⟩:=hp
 have key:∀ (A:Option Addr) (len cap l m:Nat),a.eval x = .slice A len cap→((lo=none∧l=0)∨∃ (y:Operand) (kd:IntKind) (i:Int),lo=some y∧a.eval y = .int kd i∧0≤i∧i.toNat=l)→
   ((hi=none∧m=len)∨∃ (y:Operand) (kd:IntKind) (i:Int),hi=some y∧a.eval y = .int kd i∧0≤i∧i.toNat=m)→l≤m→m≤cap→
   (execOp a.eval o).run P w = .ok (.value (.slice (if cap=l then A else A.map (·.add (l * ti.size))) (m - l) (cap - l))) w:=by
  intro A len cap l m e hl hm h1 h2
  have hb:=run_bounds (P:=P) (w:=w) (b:=true) (len:=len) hl hm h1 h2
  simp [execOp,ho,e,Instr.sliceAt,run_underlying ht,Instr.slice,hb,sizeOf,typeInfo,hti]
 split at hp
 ·simp only [SlotOK,CelOK] at hv
  replace hp:=opt_ok h (x:=lo) (by cases lo <;> cases lo' <;> exact hlo) hp
  obtain ⟨l,hp,hl⟩:=hp
  replace hp:=opt_ok h (x:=hi) (by cases hi <;> cases hi' <;> exact hhi) hp
  obtain ⟨m,hp,hm⟩:=hp
  simp only [runP,Bool.and_eq_true,decide_eq_true_eq] at hp
  obtain ⟨⟨h1,h2⟩,hp⟩:=hp
  have e0:m=0:=by omega
  have e1:l=0:=by omega
  subst e0
  subst e1
  refine step_value (key none 0 0 0 0 hv hl hm (Nat.le_refl _) (Nat.le_refl _)) (fin_ok h hd ?_ hp)
  simp [SlotOK,CelOK]
 ·rename_i z' rs
  simp only [SlotOK,CelOK] at hv
  replace hp:=opt_ok h (x:=lo) (by cases lo <;> cases lo' <;> exact hlo) hp
  obtain ⟨l,hp,hl⟩:=hp
  replace hp:=opt_ok h (x:=hi) (by cases hi <;> cases hi' <;> exact hhi) hp
  obtain ⟨m,hp,hm⟩:=hp
  simp only [runP,Bool.and_eq_true,beq_iff_eq,decide_eq_true_eq] at hp
  obtain ⟨⟨⟨rfl,h1⟩,h2⟩,hp⟩:=hp
  obtain ⟨ad,cap,u,he,hc1,_⟩:=hv.inv
  refine step_value (key ad rs.length cap l m he hl hm h1 (by omega)) (fin_ok h hd ?_ hp)
  simp only [SlotOK,CelOK]
  rw [he] at hv
  exact hv.part h1 h2
 ·rename_i r c p z' off len
  replace hp:=opt_ok h (x:=lo) (by cases lo <;> cases lo' <;> exact hlo) hp
  obtain ⟨l,hp,hl⟩:=hp
  replace hp:=opt_ok h (x:=hi) (by cases hi <;> cases hi' <;> exact hhi) hp
  obtain ⟨m,hp,hm⟩:=hp
  simp only [runP,Bool.and_eq_true,beq_iff_eq,decide_eq_true_eq] at hp
  obtain ⟨⟨⟨rfl,h1⟩,h2⟩,hp⟩:=hp
  simp only [SlotOK] at hv
  obtain ⟨⟨A,cap,e3,hlc⟩,hrr,hf⟩:=hv
  refine step_value (key _ _ _ l m e3 hl hm h1 (by omega)) (fin_ok h hd ?_ hp)
  simp only [SlotOK]
  refine ⟨⟨_,_,rfl,by omega⟩,hrr,fun m' hm1 hm2=>?_⟩
  obtain ⟨hA,hn',hc,a',e2,e3',hle,hz0,hlt⟩:=hf m' hm1 hm2
  rw [e3] at e3'
  simp only [Value.slice.injEq,true_and] at e3'
  obtain ⟨rfl,rfl⟩:=e3'
  refine ⟨hA,hn',hc,_,e2,by rw [show hc - off - l=hc - (off + l) by omega],by omega,fun e=>?_,fun hlt'=>?_⟩
  ·have o0:off=0:=by omega
   have l0:l=0:=by omega
   subst o0
   subst l0
   rw [hz0 rfl]
   split
   ·rfl
   ·simp only [Nat.zero_mul,add_zero,Option.map_id']
  ·obtain ⟨q,rfl,rfl⟩:=hlt (by omega)
   refine ⟨q,rfl,?_⟩
   rw [if_neg (by omega)]
   simp [add_none,Nat.add_mul]
 ·exact hp.elim
def kindT (P:Program) (t:Nat) (ty:TypeId):Bool :=
 match t,P.underlying ty with
 | 0,some (.int _)=>true
 | 1,some .bool=>true
 | 2,some .string=>true
 | _,_=>false
theorem eqV_run {k:Nat} {t:TypeId} {d:Nat} {u v:Value} {b:Bool} (ht:kindT P k t=true) (h:eqV k u v=some b) (w:World):(Op.equalIn (d + 1) t u v).run P w = .ok b w:=by
 unfold eqV at h
 split at h
 ·rename_i k x k' y
  cases hu:P.underlying t with
  | none=>simp [kindT,hu] at ht
  | some td =>
   cases td <;> simp [kindT,hu] at ht
   cases hk:k==k' with
   | false=>simp [hk] at h
   | true =>
    simp only [hk,cond_true,Option.some.injEq] at h
    have:=eq_of_beq hk
    subst this
    subst h
    exact run_equalIn_int (P:=P) w d t k _ x y hu
 ·rename_i x y
  cases hu:P.underlying t with
  | none=>simp [kindT,hu] at ht
  | some td =>
   cases td <;> simp [kindT,hu] at ht
   simp at h; subst h; exact run_equalIn_bool' (P:=P) w d t x y hu
 ·rename_i x y
  cases hu:P.underlying t with
  | none=>simp [kindT,hu] at ht
  | some td =>
   cases td <;> simp [kindT,hu] at ht
   simp at h; subst h; exact run_equalIn_string (P:=P) w d t x y hu
 ·cases h
def flatF (P:Program):Nat→List Field→List Nat→Bool
 | _,[],[]=>true
 | k, f :: fs, t :: ts => f.offset == k && f.name != "_" && kindT P t f.type && flatF P (k + 1) fs ts
 | _,_,_=>false
theorem run_part {t:TypeId} {k:Nat} (ht:kindT P k t=true) {cs:Array Value} {off:Nat} {u:Value} (hu:cs[off]?=some u) (w:World):(part t cs off).run P w = .ok u w:=by
 have hd:∃ d,P.underlying t=some d∧(match d with | .struct _=>true | .array _ _=>true | _=>false)=false:=by
  unfold kindT at ht
  split at ht <;> (first | (cases ht; done) | (rename_i h; exact ⟨_,h,rfl⟩))
 obtain ⟨d,hd,hn⟩:=hd
 have:(isAgg t).run P w = .ok false w:=by
  cases d <;> simp at hn <;> simp [isAgg,run_underlying hd]
 simp [part,this,hu]
theorem eqFields_run (d:Nat) (xs ys:List Value) (w:World):∀ (fs:List Field) (ts:List Nat) (k:Nat) (cx cy:List Cel) (b:Bool),flatF P k fs ts=true→CelsOK X.S g w cx (xs.drop k)→CelsOK X.S g w cy (ys.drop k)→eqL ts cx cy=some b→
  (Op.eqFields (d + 1) xs.toArray ys.toArray fs).run P w = .ok b w
 | [],[],k,cx,cy,b,_,_,_,he=>by
  cases cx with
  | nil=>cases cy with
   | nil=>simp [eqL] at he; subst he; simp [Op.eqFields]
   | cons=>simp [eqL] at he
  | cons=>simp [eqL] at he
 | f::fs,t::ts,k,cx,cy,b,hf,hx,hy,he=>by
  simp only [flatF,Bool.and_eq_true,beq_iff_eq,bne_iff_ne] at hf
  obtain ⟨⟨⟨h1,h2⟩,h3⟩,h4⟩:=hf
  match cx,cy,he with
  | .pv x::cx,.pv y::cy,he =>
   simp only [eqL] at he
   cases hv:eqV t x y with
   | none=>simp [hv] at he
   | some b1 =>
    simp only [hv,Option.bind_some] at he
    cases hr:eqL ts cx cy with
    | none=>simp [hr] at he
    | some b2 =>
     simp [hr] at he
     have gx:xs[k]?=some x:=by
      have h0:=hx.1
      cases hd0:xs.drop k with
      | nil=>simp [hd0] at h0
      | cons v vs =>
       have:=(hx.2 0 (.pv x) v rfl (by rw [hd0]; rfl)).1
       subst this
       have e:(xs.drop k)[0]?=some v:=by rw [hd0]; rfl
       simpa [List.getElem?_drop] using e
     have gy:ys[k]?=some y:=by
      have h0:=hy.1
      cases hd0:ys.drop k with
      | nil=>simp [hd0] at h0
      | cons v vs =>
       have:=(hy.2 0 (.pv y) v rfl (by rw [hd0]; rfl)).1
       subst this
       have e:(ys.drop k)[0]?=some v:=by rw [hd0]; rfl
       simpa [List.getElem?_drop] using e
     have tx:CelsOK X.S g w cx (xs.drop (k + 1)):=by
      have e:xs.drop (k + 1)=(xs.drop k).drop 1:=by rw [List.drop_drop]
      rw [e]
      refine ⟨by have:=hx.1; simp at this ⊢; omega,fun i c u h h'=>hx.2 (i + 1) c u (by simpa using h) ?_⟩
      rw [List.getElem?_drop] at h'
      rwa [Nat.add_comm] at h'
     have ty:CelsOK X.S g w cy (ys.drop (k + 1)):=by
      have e:ys.drop (k + 1)=(ys.drop k).drop 1:=by rw [List.drop_drop]
      rw [e]
      refine ⟨by have:=hy.1; simp at this ⊢; omega,fun i c u h h'=>hy.2 (i + 1) c u (by simpa using h) ?_⟩
      rw [List.getElem?_drop] at h'
      rwa [Nat.add_comm] at h'
     have ih:=eqFields_run d xs ys w fs ts (k + 1) cx cy b2 h4 tx ty hr
     have p1:=run_part (P:=P) h3 (cs:=xs.toArray) (off:=k) (by simpa using gx) w
     have p2:=run_part (P:=P) h3 (cs:=ys.toArray) (off:=k) (by simpa using gy) w
     have p3:=eqV_run (P:=P) (d:=d) h3 hv w
     simp only [Op.eqFields,h1,ne_eq,h2,not_false_eq_true,if_true,Sem.run_bind,p1,p2,p3,Result.andThen_ok]
     subst he
     cases b1
     ·simp
     ·simpa using ih
 | [],_::_,_,_,_,_,h,_,_,_=>by simp [flatF] at h
 | _::_,[],_,_,_,_,h,_,_,_=>by simp [flatF] at h
theorem do_eqs {t yt:TypeId} {op:BinOp} {neg:Bool} {ts:List Nat} {x y:Operand} {x' y':Opd} (h:Sim X n g st [] a w) (ho:o.op = .binOp op t x y yt) (hop:op=bif neg then .neq else .eql) (ht:P.underlying t=some (.struct (P.fieldsOf t))) (hs:P.stoodInHeld t=false) (hm:P.eqGuardType P.depth t=false)
  (hf:flatF P 0 (P.fieldsOf t).toList ts=true) (hx:opdOk x x'=true) (hy:opdOk y y'=true) (hd:∀ k,o.dst=some k→k < n) (id:Nat)
  (hp:runP Te ((COp.eqs neg ts x' y').prg o.dst id) st (fun _ st'=>K st')):o.wp P a w (Goal X n K) Q:=by
 replace hp:=ev_ok h hx hp
 obtain ⟨v,hv,hp⟩:=hp
 replace hp:=ev_ok h hy hp
 obtain ⟨v1,hv1,hp⟩:=hp
 split at hp
 ·rename_i xs ys
  cases he:eqL ts xs ys with
  | none=>simp [runP,he] at hp
  | some b =>
   simp only [runP,he,Option.map_some] at hp
   simp only [SlotOK] at hv hv1
   obtain ⟨us,e1,c1⟩:=hv
   obtain ⟨vs,e2,c2⟩:=hv1
   have hr:=eqFields_run (P:=P) (X:=X) (g:=g) 9998 us vs w _ ts 0 xs ys b hf (by simpa using c1) (by simpa using c2) he
   have hq:(Op.equalIn 10000 t (.agg us.toArray) (.agg vs.toArray)).run P w = .ok b w:=by
    show (Op.equalIn (9999 + 1) t (.agg us.toArray) (.agg vs.toArray)).run P w=_
    rw [run_equalIn_agg (P:=P) w 9999 t _ _ ht hs]
    exact hr
   refine step_value (v:=.bool (b != neg)) (w':=w) ?_ (fin_ok h hd (slot_pv _ _ _ rfl) hp)
   simp only [execOp,ho,e1,e2,Sem.run_bind,run_eqGuard_agg (P:=P) w op t x y _ _ hm,Result.andThen_ok]
   subst hop
   cases neg
   ·simp only [cond_false,run_eql_struct,hq,Result.andThen_ok]; simp
   ·simp only [cond_true,run_neq_struct,hq,Result.andThen_ok]; simp
 ·exact hp.elim
end
end Go.X

namespace Go.X
theorem run_storeCells_fz (P:Program) (q o:Nat) (t:TypeId) (fz:Nat×Nat):∀ (vs:List Value) (i:Nat) (cur:Array Value) (w:World),w.heap[q]?=some (.cells cur t fz)→o + i + vs.length≤cur.size→(∀ k,k < vs.length→¬ (fz.1≤o + i + k∧o + i + k < fz.2))→(∀ v∈vs,v.oneCell'=true)→
  (storeCells ⟨q,o,none⟩ vs i).run P w = .ok () (w.setRow q (cur.toList.take (o + i)++vs++cur.toList.drop (o + i + vs.length)).toArray)
 | [],i,cur,w,hg,_,_,_=>by
  simp only [storeCells,List.append_nil,List.length_nil,Nat.add_zero,List.take_append_drop,Array.toArray_toList]
  rw [setRow_self w q cur t fz hg]
  rfl
 | v::rest,i,cur,w,hg,hl,hf,h1=>by
  have hi:o + i < cur.size:=by simp at hl; omega
  have hcell:w.cell? ⟨q,o + i,none⟩=some cur[o + i]:=by simp [World.cell?,hg,hi]
  have hfro:w.frozen? ⟨q,o + i,none⟩=false:=by
   have:=hf 0 (by simp)
   simp only [World.frozen?,hg]
   cases fz
   simp at this ⊢
   omega
  have hst:(store ((⟨q,o,none⟩:Addr).add i) v).run P w = .ok () (w.setRow q (cur.setIfInBounds (o + i) v)):=by
   rw [add_none,run_store P w _ v _ (h1 v (by simp)),hcell]
   simp [hfro,setCell_eq_setRow w q (o + i) cur t fz v hg]
  have ih:=run_storeCells_fz P q o t fz rest (i + 1) (cur.setIfInBounds (o + i) v) (w.setRow q (cur.setIfInBounds (o + i) v)) (setRow_heap w q cur _ t _ hg) (by simp at hl ⊢; omega)
   (fun k hk=>by have:=hf (k + 1) (by simp; omega); rwa [show o + (i + 1) + k=o + i + (k + 1) by omega]) (fun x hx=>h1 x (by simp [hx]))
  simp only [storeCells,Sem.run_bind,hst,Result.andThen_ok,ih,setRow_setRow]
  congr 3
  have e:=list_seg_step cur.toList (o + i) v rest (by simp at hl ⊢; omega)
  simpa [Array.toList_setIfInBounds,Nat.add_assoc] using e
theorem setRow_step (w:World) (q:Nat) (cs:Array Value) {D:Nat→Prop} (hD:D q):Step D w (w.setRow q cs) :=
 ⟨rfl,rfl,rfl,by simp [World.setRow],fun b _ hb=>setRow_other w q b cs (fun e=>hb (by rw [e]; exact hD))⟩
section
variable {P:Program} {X:Ctx} {n:Nat} {g:Gh} {st:St} {hand:List G} {a:Act} {w:World} {α:Type} {Te:Nat→List AV→Res→Prop} {o:Oper} {K:St→Prop} {Q:Exit→Act→World→Prop}
theorem alloc_step (w:World) (ob:Obj) (D:Nat→Prop):Step D w (w.alloc ob):=⟨rfl,rfl,rfl,by simp,fun b hb _=>RowKit.Below.heap_alloc w ob b hb⟩
theorem Sim.quiet {w':World} (h:Sim X n g st hand a w) (hs:Step (fun _=>False) w w'):Sim X n g st hand a w' :=
 h.world (us:=[]) (us':=[]) ⟨hs.os,hs.tape,hs.output,hs.size,fun b hb _=>hs.block b hb id⟩ (fun t ht=>by cases ht) (fun b=>.inl (Nat.le_refl _))
theorem Step.cels {D:Nat→Prop} {w':World} (h:Sim X n g st hand a w) (hs:Step (fun _=>False) w w') {cs:List Cel} {us:List Value} (hc:CelsOK X.S g w cs us):CelsOK X.S g w' cs us :=
 hc.keep (Keeps.refl Never g) (fun b hb=>hs.block b (Nat.lt_of_lt_of_le (X.stay b hb).1 h.frame.size) id) (fun c _=>never_cel c)
theorem Sim.newBox (h:Sim X n g st hand a w) {b:Nat} (hb:get st.b b=none) {cs:List Cel} {us:List Value} (e:TypeId) (hc:CelsOK X.S g w cs us) :
    Sim X n (g.setB b ⟨w.heap.size,0,none⟩) { st with b:=rep st.b b cs } hand a (w.alloc (.cells us.toArray e)):=by
  have hs:=alloc_step w (.cells us.toArray e) (fun _=>False)
  have h1:=h.quiet hs
  have hg:=h.nobox b hb
  have hk:Keeps Never g (g.setB b ⟨w.heap.size,0,none⟩):=keeps_newb hg
  have hc1:=Step.cels (D:=fun _=>False) h hs hc
  refine { frame:=h1.frame,defers:=h1.defers,tmps:=h1.tmps,slots:=fun t v ht=>SlotOK.keep hk (fun _ _=>rfl) v _ (never_slot v) (fun _ _ _ _ _ h=>h) (h1.slots t v ht),
           boxes:=fun k ks hk'=>?_,nobox:=fun k hk'=>?_,roots:=h1.roots,noroot:=h1.noroot,reps:=h1.reps,held:=h1.held,sole:=?_,pb:=fun i A hi=>by
             have e:=h1.pb i A hi
             have:i≠b:=fun e'=>by rw [e',hg] at e; cases e
             simp [Gh.setB,this,e],
           hold:=h1.hold,mine:=h1.mine }
  · simp only [get_rep_if] at hk'
    split at hk'
    · rename_i ek
      subst ek
      simp at hk'
      subst hk'
      refine ⟨⟨w.heap.size,0,none⟩,us,by simp [Gh.setB],by simp,fun i u hu=>⟨?_,?_,?_⟩,hc1.keep hk (fun _ _=>rfl) (fun c _=>never_cel c),.inl h.frame.size⟩
      · simp only [Nat.zero_add]
        rw [cell_at (heap_alloc_new w _)]
        simpa using hu
      · simp only [Nat.zero_add]; exact World.frozen?_alloc_new ..
      · obtain ⟨hi,_⟩:=List.getElem?_eq_some_iff.1 hu
        have:i < cs.length:=by rw [hc.1]; exact hi
        exact (hc.2 i _ u (List.getElem?_eq_getElem this) hu).one
    · rename_i ek
      obtain ⟨A,vs,e1,e2,e3,e4,e5⟩:=h1.boxes k ks hk'
      exact ⟨A,vs,by simp [Gh.setB,ek,e1],e2,e3,e4.keep hk (fun _ _=>rfl) (fun c _=>never_cel c),e5⟩
  · simp only [get_rep_if] at hk'
    split at hk'
    · cases hk'
    · rename_i ek; simp [Gh.setB,ek,h1.nobox k hk']
  · refine h1.sole.upd b (fun j hj=>by simp [Gh.setB,hj]) (fun _ _=>rfl) (fun x=>?_)
    by_cases ex:x=w.heap.size
    · subst ex
      have z:∀ j,g.has w.heap.size j + cntL w.heap.size hand=0:=fun j=>by
        have:=fun h0=>h.lt w.heap.size j h0
        omega
      refine .inr ⟨fun j=>by have:=z j; omega,?_⟩
      have:=z b
      simp only [Gh.has,Gh.setB,bcnt,if_true] at this ⊢
      omega
    · refine .inl ?_
      simp only [Gh.has,Gh.setB,bcnt,if_true]
      rw [if_neg (fun e=>ex e.symm)]
      omega
theorem cels_ok {v:SV} {u:Value} {k:List Cel→Prg α} {R:α→St→Prop} {S:Nat→Prop} (hv:SlotOK S g w v u) (hp:runP Te (withCels v k) st R):∃ cs us,u.cells=us.toArray∧CelsOK S g w cs us∧runP Te (k cs) st R:=by
 cases v with
 | one c =>
  simp only [SlotOK] at hv
  have h1:=hv.one
  refine ⟨[c],[u],?_,⟨rfl,fun i c' u' h h'=>?_⟩,hp⟩
  ·cases u <;> simp_all [Value.cells,Value.oneCell']
  ·cases i with
   | zero=>simp at h h'; subst h; subst h'; exact hv
   | succ i=>simp at h
 | agg cs =>
  simp only [SlotOK] at hv
  obtain ⟨us,rfl,hc⟩:=hv
  exact ⟨cs,us,rfl,hc,hp⟩
 | _=>exact hp.elim
theorem do_box {e:TypeId} {x:Operand} {x':Opd} {id:Nat} (h:Sim X n g st [] a w) (ho:o.op = .box e x) (hx:opdOk x x'=true) (hd:∀ k,o.dst=some k→k < n)
  (hp:runP Te ((COp.box x').prg o.dst id) st (fun _ st'=>K st')):o.wp P a w (Goal X n K) Q:=by
 replace hp:=ev_ok h hx hp
 obtain ⟨v,hv,hp⟩:=hp
 replace hp:=cels_ok hv hp
 obtain ⟨cs,us,he,hc,hp⟩:=hp
 simp only [runP] at hp
 cases hb:get st.b id with
 | some _=>simp [hb] at hp
 | none =>
  simp only [hb] at hp
  have h1:=h.newBox hb e hc
  refine step_value (v:=.pointer (some ⟨w.heap.size,0,none⟩)) (w':=w.alloc (.cells us.toArray e)) ?_ (fin_ok h1 hd ?_ hp)
  ·simp [execOp,ho,Instr.box,newVar,newRow,he]
  ·simp only [SlotOK]
   exact ⟨_,by simp [Gh.setB]; rfl,rfl⟩
theorem do_alloc {e:TypeId} {ti:TypeInfo} {zv:Value} {z:List Cel} {id:Nat} (h:Sim X n g st [] a w) (ho:o.op = .alloc e) (hi:P.info? e=some ti) (hz:ti.zero=some zv) (hzc:constL zv.cells.toList z=true) (hd:∀ k,o.dst=some k→k < n)
  (hp:runP Te ((COp.alloc z).prg o.dst id) st (fun _ st'=>K st')):o.wp P a w (Goal X n K) Q:=by
 simp only [COp.prg,runP] at hp
 cases hb:get st.b id with
 | some _=>simp [hb] at hp
 | none =>
  simp only [hb] at hp
  have h1:=h.newBox hb e (constL_ok hzc X.S g w)
  refine step_value (v:=.pointer (some ⟨w.heap.size,0,none⟩)) (w':=w.alloc (.cells zv.cells.toList.toArray e)) ?_ (fin_ok h1 hd ?_ hp)
  ·simp [execOp,ho,Instr.alloc,zeroValue,typeInfo,hi,hz,newVar,newRow]
  ·simp only [SlotOK]
   exact ⟨_,by simp [Gh.setB]; rfl,rfl⟩
def aggT (P:Program) (t:TypeId):Option Nat→Bool
 | none=>match P.underlying t with
  | some (.struct _) | some (.array _ _) | none=>false
  | _=>true
 | some m=>(match P.underlying t with
  | some (.struct _) | some (.array _ _)=>true
  | _=>false)&&((P.info? t).map (·.size))==some m
theorem run_isAgg {t:TypeId} (w:World):(aggT P t none=true→(isAgg t).run P w = .ok false w)∧(∀ m,aggT P t (some m)=true→(isAgg t).run P w = .ok true w∧(sizeOf t).run P w = .ok m w):=by
 refine ⟨fun h=>?_,fun m h=>?_⟩
 ·unfold aggT at h
  cases hu:P.underlying t with
  | none=>simp [hu] at h
  | some d=>cases d <;> simp [hu] at h <;> simp [isAgg,run_underlying hu]
 ·simp only [aggT,Bool.and_eq_true,beq_iff_eq] at h
  obtain ⟨h1,h2⟩:=h
  cases hi:P.info? t with
  | none=>simp [hi] at h2
  | some ti =>
   simp [hi] at h2
   refine ⟨?_,by simp [sizeOf,typeInfo,hi,h2]⟩
   cases hu:P.underlying t with
   | none=>simp [hu] at h1
   | some d=>cases d <;> simp [hu] at h1 <;> simp [isAgg,run_underlying hu]
theorem run_loadOne {t:TypeId} {ad:Addr} {u:Value} (ht:aggT P t none=true) (hc:w.cell? ad=some u):(Instr.loadAt t (.pointer (some ad))).run P w = .ok u w:=by
 simp [Instr.loadAt,Instr.sureAddr,loadVar,(run_isAgg w).1 ht,hc]
theorem run_loadAgg {t:TypeId} {ad:Addr} {us:List Value} (ht:aggT P t (some us.length)=true) (hc:∀ (j:Nat) (u:Value),us[j]?=some u→w.cell? (ad.add j)=some u):(Instr.loadAt t (.pointer (some ad))).run P w = .ok (.agg us.toArray) w:=by
 obtain ⟨h1,h2⟩:=(run_isAgg (P:=P) w).2 _ ht
 have h3:=run_loadCells_list (P:=P) (w:=w) ad us hc
 simp [Instr.loadAt,Instr.sureAddr,loadVar,h1,h2,h3]
theorem CelsOK.get {S:Nat→Prop} {cs:List Cel} {us:List Value} (h:CelsOK S g w cs us) {k:Nat} {c:Cel} (hc:cs[k]?=some c):∃ u,us[k]?=some u∧CelOK S g w c u:=by
 have hk:=(List.getElem?_eq_some_iff.1 hc).1
 have hk':k < us.length:=by rw [← h.1]; exact hk
 exact ⟨us[k],List.getElem?_eq_getElem hk',h.2 k c _ hc (List.getElem?_eq_getElem hk')⟩
theorem CelsOK.drop {S:Nat→Prop} {cs:List Cel} {us:List Value} (h:CelsOK S g w cs us) (k:Nat):CelsOK S g w (cs.drop k) (us.drop k) :=
 ⟨by simp [h.1],fun i c u hc hu=>h.2 (k + i) c u (by simpa using hc) (by simpa using hu)⟩
theorem CelsOK.take {S:Nat→Prop} {cs:List Cel} {us:List Value} (h:CelsOK S g w cs us) (k:Nat):CelsOK S g w (cs.take k) (us.take k) :=
 ⟨by simp [h.1],fun i c u hc hu=>by
  rw [List.getElem?_take] at hc hu
  split at hc
  ·rename_i hi; rw [if_pos hi] at hu; exact h.2 i c u hc hu
  ·cases hc⟩
theorem CelsOK.append {S:Nat→Prop} {cs ds:List Cel} {us vs:List Value} (h:CelsOK S g w cs us) (h':CelsOK S g w ds vs):CelsOK S g w (cs++ds) (us++vs) :=
 ⟨by simp [h.1,h'.1],fun i c u hc hu=>by
  by_cases hi:i < cs.length
  ·rw [List.getElem?_append_left hi] at hc
   rw [List.getElem?_append_left (by rw [← h.1]; exact hi)] at hu
   exact h.2 i c u hc hu
  ·rw [List.getElem?_append_right (by omega)] at hc
   rw [List.getElem?_append_right (by rw [← h.1]; omega),← h.1] at hu
   exact h'.2 _ c u hc hu⟩
theorem atP_append {τ:Type}:∀ (p s:List (Nat×Nat)) (t:Tr τ),atP t (p++s)=(atP t p).bind (atP · s)
 | [],s,t=>by simp [atP]
 | (i,j)::p,s,t=>by
  simp only [List.cons_append,atP]
  cases t.own with
  | false=>simp
  | true =>
   simp only [cond_true]
   cases cellAt t i j with
   | none=>simp
   | some d=>simpa using atP_append p s d
theorem nodeAt_append {r c:Nat} {p s:List (Nat×Nat)} {m:G} (h:nodeAt g r c p=some m):nodeAt g r c (p++s)=atP m s:=by
 unfold nodeAt at h ⊢
 cases hg:g.gr r with
 | none=>simp [hg] at h
 | some gs =>
  simp only [hg,Option.bind_some] at h ⊢
  cases ht:gs[c]? with
  | none=>simp [ht] at h
  | some t =>
   simp only [ht,Option.bind_some] at h ⊢
   rw [atP_append,h]
   rfl
theorem celOf_ok {r c:Nat} {p:List (Nat×Nat)} {t:G} (hR:Rp X.S w t) (hr:g.gr r≠none) (hn:∀ m,nodeAt g r c p=some m→m.held=true→m=t):CelOK X.S g w (celOf r c p (er t)) (hdr t):=by
 cases hR with
 | pv h1=>exact ⟨rfl,h1⟩
 | no h1=>exact h1
 | ro h1=>simpa only [er,celOf,CelOK,hdr] using h1
 | @nil z =>
  simp only [er,celOf,CelOK,hdr,erLL]
  refine ⟨⟨_,_,rfl,Nat.le_refl _⟩,hr,fun m h1 h2=>?_⟩
  rw [hn m h1 h2]
  exact ⟨none,0,0,none,rfl,rfl,Nat.le_refl _,fun _=>rfl,fun h=>by omega⟩
 | @own z q cap e cur fz rows h1 h2 h3 h4 h5 h6 h7 h8 =>
  simp only [er,celOf,CelOK,hdr,erLL_eq,List.length_map]
  refine ⟨⟨_,_,rfl,h3⟩,hr,fun m h1 h2=>?_⟩
  rw [hn m h1 h2]
  exact ⟨some ⟨q,0,none⟩,rows.length,cap,some ⟨q,0,none⟩,rfl,rfl,by omega,fun _=>rfl,fun _=>⟨q,rfl,by simp⟩⟩
theorem readO_ok {r c i z:Nat} {p:List (Nat×Nat)} {hv:Value} {rs:List (List G)} {row:List G} (hr:g.gr r≠none) (hna:nodeAt g r c p=some (.sl true z hv rs)) (hrow:rs[i]?=some row) (hR:Rp X.S w (.sl true z hv rs)) :
  ∀ (ts:List G) (k:Nat),(∀ (l:Nat) (t:G),ts[l]?=some t→row[k + l]?=some t)→CelsOK X.S g w (readO r c p i k (ts.map er)) (ts.map hdr)
 | [],k,_=>⟨rfl,fun i c u h=>by simp [readO] at h⟩
 | t::ts,k,h=>by
  have h0:=h 0 t rfl
  have ih:=readO_ok hr hna hrow hR ts (k + 1) (fun l t' ht'=>by have:=h (l + 1) t' (by simpa using ht'); rwa [show k + (l + 1)=k + 1 + l by omega] at this)
  have h1:CelOK X.S g w (celOf r c (p++[(i,k)]) (er t)) (hdr t):=by
   refine celOf_ok (hR.cells row (List.mem_of_getElem? hrow) t (List.mem_of_getElem? h0)) hr (fun m hm _=>?_)
   rw [nodeAt_append hna] at hm
   simp [atP,Tr.own,cellAt,Tr.rows,hrow,show row[k]?=some t from h0] at hm
   exact hm.symm
  have h2:CelsOK X.S g w [celOf r c (p++[(i,k)]) (er t)] [hdr t]:=⟨rfl,fun l c' u hc hu=>by
   cases l with
   | zero=>simp at hc hu; subst hc; subst hu; exact h1
   | succ l=>simp at hc⟩
  simpa [readO] using h2.append ih
theorem readO_length (r c:Nat) (p:List (Nat×Nat)) (i:Nat):∀ (ts:List T) (k:Nat),(readO r c p i k ts).length=ts.length
 | [],_=>rfl
 | t::ts,k=>by simp [readO,readO_length r c p i ts (k + 1)]
theorem do_fld {t:TypeId} {x:Operand} {x':Opd} {i off:Nat} {m:Option Nat} {fs:Array Field} {f:Field} (h:Sim X n g st [] a w) (ho:o.op = .field t x i) (hs:P.underlying t=some (.struct fs)) (hf:fs[i]?=some f) (hoff:f.offset=off) (ht:aggT P f.type m=true) (hx:opdOk x x'=true) (hd:∀ k,o.dst=some k→k < n) (id:Nat)
  (hp:runP Te ((COp.fld m x' off).prg o.dst id) st (fun _ st'=>K st')):o.wp P a w (Goal X n K) Q:=by
 subst hoff
 replace hp:=ev_ok h hx hp
 obtain ⟨v,hv,hp⟩:=hp
 split at hp
 ·rename_i cs
  simp only [SlotOK] at hv
  obtain ⟨us,e,hC⟩:=hv
  split at hp
  ·split at hp
   ·rename_i c hc
    obtain ⟨u,hu,hcu⟩:=hC.get hc
    refine step_value (v:=u) (w':=w) ?_ (fin_ok h hd (by simpa only [SlotOK] using hcu) hp)
    simp [execOp,ho,e,Instr.field,run_underlying hs,hf,part,(run_isAgg w).1 ht,asAgg,hu]
   ·exact hp.elim
  ·rename_i k
   simp only [runP,decide_eq_true_eq] at hp
   obtain ⟨hl,hp⟩:=hp
   have hl2:=hC.1
   refine step_value (v:=.agg ((us.drop f.offset).take k).toArray) (w':=w) ?_ (fin_ok h hd ?_ hp)
   ·simp [execOp,ho,e,Instr.field,run_underlying hs,hf,part,((run_isAgg w).2 k ht).1,((run_isAgg w).2 k ht).2,asAgg]
   ·simp only [SlotOK]
    exact ⟨_,rfl,(hC.drop f.offset).take k⟩
 ·exact hp.elim
theorem do_load {t:TypeId} {x:Operand} {x':Opd} {m:Option Nat} (h:Sim X n g st [] a w) (ho:o.op = .load t x) (ht:aggT P t m=true) (hx:opdOk x x'=true) (hd:∀ k,o.dst=some k→k < n) (id:Nat)
  (hp:runP Te ((COp.load m x').prg o.dst id) st (fun _ st'=>K st')):o.wp P a w (Goal X n K) Q:=by
 replace hp:=ev_ok h hx hp
 obtain ⟨v,hv,hp⟩:=hp
 have run1:∀ ad u,a.eval x = .pointer (some ad)→m=none→w.cell? ad=some u→(execOp a.eval o).run P w = .ok (.value u) w:=fun ad u e em hc=>by
  subst em
  simp [execOp,ho,e,run_loadOne ht hc]
 have runM:∀ ad (us:List Value),a.eval x = .pointer (some ad)→m=some us.length→(∀ (j:Nat) (u:Value),us[j]?=some u→w.cell? (ad.add j)=some u)→(execOp a.eval o).run P w = .ok (.value (.agg us.toArray)) w:=fun ad us e em hc=>by
  subst em
  simp [execOp,ho,e,run_loadAgg ht hc]
 split at hp
 ·rename_i b off
  simp only [SlotOK] at hv
  obtain ⟨A,hA,e⟩:=hv
  simp only [runP] at hp
  cases hb:get st.b b with
  | none=>simp [hb] at hp
  | some cs =>
   simp only [hb] at hp
   obtain ⟨A',us,hA',_,hM,hC,_⟩:=h.boxes b cs hb
   rw [hA] at hA'
   simp at hA'
   subst hA'
   split at hp
   ·split at hp
    ·rename_i c hc
     obtain ⟨u,hu,hcu⟩:=hC.get hc
     exact step_value (run1 _ u e rfl (hM off u hu).1) (fin_ok h hd (by simpa only [SlotOK] using hcu) hp)
    ·exact hp.elim
   ·rename_i k
    simp only [runP,decide_eq_true_eq] at hp
    obtain ⟨hl,hp⟩:=hp
    have hl2:((us.drop off).take k).length=k:=by have:=hC.1; simp; omega
    refine step_value (runM _ ((us.drop off).take k) e (by rw [hl2]) (fun j u hj=>?_)) (fin_ok h hd ?_ hp)
    ·rw [List.getElem?_take] at hj
     split at hj
     ·rw [List.getElem?_drop] at hj
      rw [add_none,Nat.add_assoc]
      exact (hM _ u hj).1
     ·cases hj
    ·simp only [SlotOK]
     exact ⟨_,rfl,(hC.drop off).take k⟩
 ·rename_i ts
  simp only [SlotOK] at hv
  obtain ⟨ad,e,hc⟩:=hv
  have cel:∀ (k:Nat),∀ (ts:List T) (ad:Addr),(∀ (j:Nat) (t:T),ts[j]?=some t→X.S ad.block∧∃ u,w.cell? (ad.add (k + j))=some u∧Rd X.S w t u)→∃ us:List Value,us.length=ts.length∧(∀ (j:Nat) (u:Value),us[j]?=some u→w.cell? (ad.add (k + j))=some u)∧CelsOK X.S g w (readR ts) us:=by
   intro k ts
   induction ts generalizing k with
   | nil=>exact fun ad _=>⟨[],rfl,fun j u h=>by simp at h,⟨rfl,fun i c u h=>by simp [readR] at h⟩⟩
   | cons t ts ih =>
    intro ad hc
    obtain ⟨_,u,hu,hr⟩:=hc 0 t rfl
    obtain ⟨us,l,hm,hcs⟩:=ih (k + 1) ad (fun j t' ht'=>by have:=hc (j + 1) t' (by simpa using ht'); rwa [show k + (j + 1)=k + 1 + j by omega] at this)
    have hone:CelsOK X.S g w (readR [t]) [u]:=by
     cases hr with
     | pv h1 =>
      refine ⟨rfl,fun i c v h h'=>?_⟩
      cases i with
      | zero=>simp [readR] at h h'; subst h; subst h'; exact ⟨rfl,h1⟩
      | succ i=>simp [readR] at h
     | @sl z cap a rows u h1 h2 h3 h4 h5 =>
      refine ⟨rfl,fun i c v h h'=>?_⟩
      cases i with
      | zero=>simp [readR] at h h'; subst h; subst h'; exact Rd.sl u h1 h2 h3 h4 h5
      | succ i=>simp [readR] at h
    refine ⟨u::us,by simp [l],fun j v hj=>?_,?_⟩
    ·cases j with
     | zero=>simp at hj; subst hj; exact hu
     | succ j=>have:=hm j v (by simpa using hj); rwa [show k + 1 + j=k + (j + 1) by omega] at this
    ·have:=hone.append hcs
     have e:readR [t]++readR ts=readR (t::ts):=by cases t <;> simp [readR]
     rw [e] at this
     exact this
  have rl:∀ ts:List T,(readR ts).length=ts.length:=by
   intro ts
   induction ts with
   | nil=>rfl
   | cons t ts ih=>cases t <;> simp [readR,ih]
  split at hp
  ·split at hp
   ·rename_i c hc1
    obtain ⟨us,l,hm,hcs⟩:=cel 0 (ts.take 1) ad (fun j t hj=>by
     rw [List.getElem?_take] at hj
     split at hj
     ·simpa using hc j t hj
     ·cases hj)
    rw [hc1] at hcs
    obtain ⟨u,hu,hcu⟩:=hcs.get (k:=0) (c:=c) rfl
    exact step_value (run1 _ u e rfl (by have:=hm 0 u hu; simpa [add_zero] using this)) (fin_ok h hd (by simpa only [SlotOK] using hcu) hp)
   ·exact hp.elim
  ·rename_i k
   simp only [runP,decide_eq_true_eq] at hp
   obtain ⟨hl,hp⟩:=hp
   obtain ⟨us,l,hm,hcs⟩:=cel 0 (ts.take k) ad (fun j t hj=>by
    rw [List.getElem?_take] at hj
    split at hj
    ·simpa using hc j t hj
    ·cases hj)
   refine step_value (runM _ us e (by rw [l]; simp; omega) (fun j u hj=>by simpa using hm j u hj)) (fin_ok h hd ?_ hp)
   simp only [SlotOK]
   exact ⟨us,rfl,hcs⟩
 ·rename_i r c p z i j
  simp only [SlotOK] at hv
  obtain ⟨_,hrr,hf⟩:=hv
  simp only [runP] at hp
  cases hr:get st.r r with
  | none=>simp [hr] at hp
  | some cs =>
   simp only [hr,node] at hp
   split at hp
   ·rename_i z2 hh rows hn
    simp only [runP,beq_iff_eq] at hp
    obtain ⟨rfl,hp⟩:=hp
    obtain ⟨gs,t0,hv',rs,hg,rfl,ht0,hm0,rfl,hna,hR,hRm⟩:=h.node hr hn
    obtain ⟨q,hn',hc,e2,e⟩:=hf _ hna rfl
    simp only [hdr] at e2
    subst e2
    have rowE:(rs.map (·.map er)).getD i []=(rs.getD i []).map er:=by
     simp only [List.getD_eq_getElem?_getD,List.getElem?_map]
     cases rs[i]? <;> rfl
    rw [rowE,← List.map_drop] at hp
    cases hRm with
    | @own _ _ cap e' cur fz _ hg0 hz hl hmx hs0 hrl hd0 hcel =>
     have main:∀ k:Nat,((rs.getD i []).drop j).length≥k→k≠0→∃ row,rs[i]?=some row∧row=rs.getD i []∧CelsOK X.S g w (readO r c p i j ((((rs.getD i []).drop j).take k).map er)) ((((rs.getD i []).drop j).take k).map hdr)∧
       ∀ (l:Nat) (u:Value),((((rs.getD i []).drop j).take k).map hdr)[l]?=some u→w.cell? ((⟨q,i * z2 + j,none⟩:Addr).add l)=some u:=by
      intro k hk hk0
      cases hrow:rs[i]? with
      | none =>
       rw [List.getD_eq_getElem?_getD,hrow] at hk
       simp at hk
       omega
      | some row =>
       have er0:rs.getD i []=row:=by rw [List.getD_eq_getElem?_getD,hrow]; rfl
       have sub:∀ (l:Nat) (t:G),((row.drop j).take k)[l]?=some t→row[j + l]?=some t:=fun l t hl=>by
        rw [List.getElem?_take] at hl
        split at hl
        ·rwa [List.getElem?_drop] at hl
        ·cases hl
       refine ⟨row,rfl,er0.symm,?_,?_⟩
       ·rw [er0]
        exact readO_ok hrr hna hrow (.own hg0 hz hl hmx hs0 hrl hd0 hcel) _ j sub
       ·intro l u hu
        rw [er0,List.getElem?_map] at hu
        cases ht:((row.drop j).take k)[l]? with
        | none=>simp [ht] at hu
        | some t1 =>
         simp [ht] at hu
         subst hu
         have:=hds_get i (j + l) row t1 hrl hrow (sub l t1 ht)
         rw [← hd0] at this
         have:=take_get this
         rw [add_none,cell_at hg0,Nat.add_assoc]
         simpa using this
     split at hp
     ·split at hp
      ·rename_i x0 hx0
       have hlen:((rs.getD i []).drop j).length≥1:=by
        have:=congrArg List.length hx0
        rw [← List.map_take,readO_length] at this
        simp at this
        simp
        omega
       obtain ⟨row,_,_,m1,m2⟩:=main 1 hlen (by omega)
       rw [← List.map_take] at hx0
       rw [hx0] at m1
       obtain ⟨u,hu,hcu⟩:=m1.get (k:=0) (c:=x0) rfl
       exact step_value (run1 _ u e rfl (by have:=m2 0 u hu; simpa [add_zero] using this)) (fin_ok h hd (by simpa only [SlotOK] using hcu) hp)
      ·exact hp.elim
     ·rename_i k
      simp only [runP,decide_eq_true_eq,List.length_map] at hp
      obtain ⟨hl0,hp⟩:=hp
      by_cases hk0:k=0
      ·subst hk0
       refine step_value (runM _ [] e rfl (fun l u hu=>by simp at hu)) (fin_ok h hd ?_ hp)
       simp only [SlotOK]
       exact ⟨[],rfl,rfl,fun i c u h=>by simp [readO] at h⟩
      ·have hlen:((rs.getD i []).drop j).length≥k:=by rw [List.length_drop]; omega
       obtain ⟨row,_,_,m1,m2⟩:=main k hlen hk0
       refine step_value (runM _ ((((rs.getD i []).drop j).take k).map hdr) e (by rw [List.length_map,List.length_take]; rw [Nat.min_eq_left hlen]) m2) (fin_ok h hd ?_ hp)
       simp only [SlotOK]
       refine ⟨_,rfl,?_⟩
       rw [← List.map_take]
       exact m1
   ·exact hp.elim
 ·exact hp.elim
end
end Go.X

namespace Go.X
section
variable {P:Program} {X:Ctx} {n:Nat} {g:Gh} {st:St} {hand:List G} {a:Act} {w:World} {α:Type} {Te:Nat→List AV→Res→Prop} {o:Oper} {K:St→Prop} {Q:Exit→Act→World→Prop}
theorem cells_of_cell {w:World} {q o:Nat} {u:Value} (h:w.cell? ⟨q,o,none⟩=some u):∃ cur e fz,w.heap[q]?=some (.cells cur e fz)∧cur[o]?=some u:=by
 unfold World.cell? at h
 split at h
 ·rename_i c e fz hg
  exact ⟨c,e,fz,hg,by simpa using h⟩
 ·cases h
theorem notfrozen {w:World} {q o e:Nat} {cur:Array Value} {fz:Nat×Nat} (hg:w.heap[q]?=some (.cells cur e fz)) (h:w.frozen? ⟨q,o,none⟩=false):¬ (fz.1≤o∧o < fz.2):=by
 simp only [World.frozen?,hg] at h
 cases fz
 simpa using h
theorem seg_len (l:List Value) (o:Nat) (vs:List Value) (h:o + vs.length≤l.length):(l.take o++vs++l.drop (o + vs.length)).length=l.length:=by simp; omega
theorem seg_in (l:List Value) (o:Nat) (vs:List Value) (h:o + vs.length≤l.length) (k:Nat) (hk:k < vs.length):(l.take o++vs++l.drop (o + vs.length))[o + k]?=vs[k]?:=by
 rw [List.append_assoc,List.getElem?_append_right (by simp; omega),List.getElem?_append_left (by simp; omega)]
 congr 1
 simp
 omega
theorem seg_out (l:List Value) (o:Nat) (vs:List Value) (h:o + vs.length≤l.length) (k:Nat) (hk:k < o∨o + vs.length≤k):(l.take o++vs++l.drop (o + vs.length))[k]?=l[k]?:=by
 rcases hk with hk | hk
 ·rw [List.append_assoc,List.getElem?_append_left (by simp; omega),List.getElem?_take,if_pos hk]
 ·rw [List.getElem?_append_right (by simp; omega),List.getElem?_drop]
  congr 1
  simp
  omega
theorem Sim.storeBox (h:Sim X n g st hand a w) {b off:Nat} {cs new:List Cel} {vs:List Value} {A:Addr} (hb:get st.b b=some cs) (hA:g.gb b=some A) (hc:CelsOK X.S g w new vs) (hl:off + new.length≤cs.length) (h0:0 < new.length) :
    ∃ w',(storeCells ⟨A.block,A.off + off,none⟩ vs 0).run P w = .ok () w'∧Sim X n g { st with b:=rep st.b b (cs.take off++new++cs.drop (off + new.length)) } hand a w':=by
  obtain ⟨A',us,hA',hlt,hM,hC,hR⟩:=h.boxes b cs hb
  rw [hA] at hA'
  simp at hA'
  subst hA'
  have hvs:vs.length=new.length:=hc.1.symm
  have hus:us.length=cs.length:=hC.1.symm
  obtain ⟨cur,e,fz,hg,_⟩:=cells_of_cell (hM off us[off] (List.getElem?_eq_getElem (by omega))).1
  have hcur:∀ k u,us[k]?=some u→cur[A.off + k]?=some u:=fun k u hu=>by
    have:=(hM k u hu).1
    rw [cell_at hg] at this
    exact this
  have hfz:∀ k,k < us.length→¬ (fz.1≤A.off + k∧A.off + k < fz.2):=fun k hk=>notfrozen hg (hM k us[k] (List.getElem?_eq_getElem hk)).2.1
  have hsize:A.off + us.length≤cur.size:=by
    have:=hcur (us.length - 1) us[us.length - 1] (List.getElem?_eq_getElem (by omega))
    have:=(Array.getElem?_eq_some_iff.1 this).1
    omega
  have hrun:=run_storeCells_fz P A.block (A.off + off) e fz vs 0 cur w hg (by omega) (fun k hk=>by have:=hfz (off + k) (by omega); rwa [show A.off + off + 0 + k=A.off + (off + k) by omega]) (fun v hv=>by
    obtain ⟨i,hi,rfl⟩:=List.mem_iff_getElem.1 hv
    exact (hc.2 i new[i] _ (List.getElem?_eq_getElem (by omega)) (List.getElem?_eq_getElem hi)).one)
  simp only [Nat.add_zero] at hrun
  refine ⟨_,hrun,?_⟩
  have hst:=setRow_step w A.block (cur.toList.take (A.off + off)++vs++cur.toList.drop (A.off + off + vs.length)).toArray (D:=fun b=>b=A.block) rfl
  have hgn:=setRow_heap w A.block cur (cur.toList.take (A.off + off)++vs++cur.toList.drop (A.off + off + vs.length)).toArray e fz hg
  generalize hw':w.setRow A.block (cur.toList.take (A.off + off)++vs++cur.toList.drop (A.off + off + vs.length)).toArray=w' at hst hgn
  have hne:∀ b,X.S b→b≠A.block:=fun x hx e=>by
    subst e
    obtain ⟨s1,_,s3⟩:=X.stay _ hx
    rcases hR with hR | ⟨_,y,hy,e,_⟩
    · omega
    · exact s3 y hy e.symm
  have hS:∀ b,X.S b→w'.heap[b]?=w.heap[b]?:=fun x hx=>hst.block x (Nat.lt_of_lt_of_le (X.stay x hx).1 h.frame.size) (hne x hx)
  have hb1:bcnt A.block (g.gb b)=1:=by simp [hA,bcnt]
  have hroot:∀ r gs,g.gr r=some gs→∀ x,0 < cntL x gs→w'.heap[x]?=w.heap[x]?:=fun r gs hgr x hx=>by
    have hxw:=h.lt x r (by simp only [Gh.has,hgr,rcnt]; omega)
    refine hst.block x hxw (fun e=>?_)
    subst e
    by_cases hrb:r=b
    · subst hrb
      have:=h.sole.one A.block r
      simp only [Gh.has,hgr,rcnt] at this
      omega
    · have:=h.sole.two hrb A.block
      simp only [Gh.has,hgr,rcnt] at this
      omega
  refine { frame:=⟨hst.os.trans h.frame.os,hst.tape.trans h.frame.tape,hst.output.trans h.frame.output,Nat.le_trans h.frame.size hst.size,fun x hx hF hRx=>?_,fun x hx k hk=>?_⟩,
           defers:=h.defers,tmps:=h.tmps,slots:=fun t v ht=>SlotOK.keep (Keeps.refl Never g) hS v _ (never_slot v) (fun _ _ _ _ _ h=>h) (h.slots t v ht),
           boxes:=fun k ks hk=>?_,nobox:=fun k hk=>?_,roots:=h.roots,noroot:=h.noroot,
           reps:=fun r gs hgr t ht=>(h.reps r gs hgr t ht).move (fun _ h=>h) hS (fun x hx=>hroot r gs hgr x (by have:=cnt_mem x gs t ht; omega)),
           held:=fun t ht=>(h.held t ht).move (fun _ h=>h) hS (fun x hx=>?_),sole:=h.sole,pb:=h.pb,hold:=h.hold,mine:=h.mine }
  · refine (hst.block x (Nat.lt_of_lt_of_le hx h.frame.size) (fun e=>?_)).trans (h.frame.block x hx hF hRx)
    subst e
    rcases hR with hR | ⟨_,y,hy,e,_⟩
    · omega
    · exact hRx y hy e.symm
  · have base:=h.frame.range x hx k hk
    by_cases ex:x.1=A.block
    · rcases hR with hR | ⟨hip,y,hy,e1,e2,e3⟩
      · have:=(X.apart x hx).2; omega
      · have exy:=X.uniq x hx y hy (by rw [ex,e1])
        subst exy
        rw [← base.1,← base.2,ex]
        have hout:k < A.off + off∨A.off + off + vs.length≤k:=by omega
        refine ⟨?_,?_⟩
        · rw [cell_at hgn,cell_at hg]
          have:=seg_out cur.toList (A.off + off) vs (by simp; omega) k hout
          simpa using this
        · simp only [World.frozen?,hgn,hg]
    · have:=hst.block x.1 (Nat.lt_of_lt_of_le (X.apart x hx).2 h.frame.size) ex
      rw [World.cell?_of_block (w:=w) (a:=⟨x.1,k,none⟩) this,World.frozen?_of_block (w:=w) (a:=⟨x.1,k,none⟩) this]
      exact base
  · simp only [get_rep_if] at hk
    split at hk
    · rename_i ek
      subst ek
      simp at hk
      subst hk
      refine ⟨A,us.take off++vs++us.drop (off + new.length),hA,Nat.lt_of_lt_of_le hlt hst.size,fun i u hu=>?_,?_,?_⟩
      · have hi:i < us.length:=by
          have:=(List.getElem?_eq_some_iff.1 hu).1
          rw [← hvs,seg_len us off vs (by omega)] at this
          exact this
        by_cases hin:off≤i∧i < off + vs.length
        · have e1:=seg_in us off vs (by omega) (i - off) (by omega)
          rw [hvs,show off + (i - off)=i by omega,hu] at e1
          have e2:=seg_in cur.toList (A.off + off) vs (by simp; omega) (i - off) (by omega)
          rw [show A.off + off + (i - off)=A.off + i by omega,← e1] at e2
          refine ⟨by rw [cell_at hgn]; simpa using e2,?_,?_⟩
          · have:=hfz i hi
            simp only [World.frozen?,hgn]
            cases fz
            simpa using this
          · have:=hc.2 (i - off) new[i - off] u (List.getElem?_eq_getElem (by omega)) e1.symm
            exact this.one
        · have e1:=seg_out us off vs (by omega) i (by omega)
          rw [hvs] at e1
          rw [e1] at hu
          have e2:=seg_out cur.toList (A.off + off) vs (by simp; omega) (A.off + i) (by omega)
          refine ⟨?_,?_,(hM i u hu).2.2⟩
          · rw [cell_at hgn]
            have:=hcur i u hu
            simp at e2
            simpa [e2] using this
          · have:=hfz i hi
            simp only [World.frozen?,hgn]
            cases fz
            simpa using this
      · have k1:CelsOK X.S g w' (cs.take off++new++cs.drop (off + new.length)) (us.take off++vs++us.drop (off + new.length)) :=
          (((hC.take off).append hc).append (hC.drop (off + new.length))).keep (Keeps.refl Never g) hS (fun c _=>never_cel c)
        simpa using k1
      · rcases hR with hR | ⟨hip,y,hy,e1,e2,e3⟩
        · exact .inl hR
        · exact .inr ⟨hip,y,hy,e1,e2,by rw [← e3]; simp; omega⟩
    · rename_i ek
      obtain ⟨B,ws,f1,f2,f3,f4,f5⟩:=h.boxes k ks hk
      have hBA:B.block≠A.block:=fun e=>by
        have:=h.sole.two ek A.block
        have:1≤g.has A.block k:=by simp [Gh.has,f1,bcnt,e]
        have:1≤g.has A.block b:=by simp [Gh.has,hA,bcnt]
        omega
      exact ⟨B,ws,f1,Nat.lt_of_lt_of_le f2 hst.size,f3.move (hst.block _ f2 hBA),f4.keep (Keeps.refl Never g) hS (fun c _=>never_cel c),f5⟩
  · simp only [get_rep_if] at hk
    split at hk
    · cases hk
    · exact h.nobox k hk
  · have hxw:=h.lt x b (by have:=cnt_mem x hand t ht; omega)
    refine hst.block x hxw (fun e=>?_)
    subst e
    have:=h.sole.one A.block b
    have:=cnt_mem A.block hand t ht
    simp only [Gh.has] at *
    omega
theorem hds_split {z:Nat} {rs:List (List G)} {i:Nat} {row:List G} (h:rs[i]?=some row) (row':List G):hds (rs.set i row')=hds (rs.take i)++row'.map hdr++hds (rs.drop (i + 1)):=by
 have hi:=(List.getElem?_eq_some_iff.1 h).1
 rw [List.set_eq_take_append_cons_drop,if_pos hi,hds_append,hds_cons,List.append_assoc]
theorem hds_seg {z:Nat} {rs:List (List G)} {i j:Nat} {row us:List G} (hz:∀ r∈rs,r.length=z) (h:rs[i]?=some row) (hl:j + us.length≤row.length) :
  hds (rs.set i (setCells row j us))=(hds rs).take (i * z + j)++us.map hdr++(hds rs).drop (i * z + j + us.length):=by
 have e0:hds rs=hds (rs.take i)++row.map hdr++hds (rs.drop (i + 1)):=by
  rw [← hds_split (z:=z) h row]
  congr 1
  have hi:=(List.getElem?_eq_some_iff.1 h).1
  have:rs[i]=row:=(List.getElem?_eq_some_iff.1 h).2
  rw [← this,List.set_getElem_self]
 have hi:=(List.getElem?_eq_some_iff.1 h).1
 have hA:(hds (rs.take i)).length=i * z:=by
  rw [hds_length (fun r hr=>hz r (List.mem_of_mem_take hr)),List.length_take,Nat.min_eq_left (by omega)]
 rw [hds_split (z:=z) h,e0]
 generalize hds (rs.take i)=A at hA
 generalize hds (rs.drop (i + 1))=B
 rw [← hA]
 simp only [setCells,List.map_append,List.map_take,List.map_drop,List.append_assoc]
 rw [List.take_length_add_append,Nat.add_assoc,List.drop_length_add_append]
 rw [List.take_append_of_le_length (by simp; omega),List.drop_append_of_le_length (by simp; omega)]
 simp
theorem cntL_drop_le (b:Nat) (l:List G) (i j:Nat) (h:i≤j):cntL b (l.drop j)≤cntL b (l.drop i):=by
 have:=cntL_take_drop b (l.drop i) (j - i)
 rw [List.drop_drop,show i + (j - i)=j by omega] at this
 omega
theorem cnt_setCells (b:Nat) (row us:List G) (j:Nat):cntL b (setCells row j us)≤cntL b row + cntL b us:=by
 simp only [setCells,cntL_append]
 have:=cntL_take_drop b row j
 have:=cntL_drop_le b row j (j + us.length) (by omega)
 omega
theorem mem_setCells {row us:List G} {j:Nat} {t:G} (h:t∈setCells row j us):t∈row∨t∈us:=by
 simp only [setCells,List.mem_append] at h
 rcases h with (h | h) | h
 ·exact .inl (List.mem_of_mem_take h)
 ·exact .inr h
 ·exact .inl (List.mem_of_mem_drop h)
theorem Sim.storeAp {us:List G} (h:Sim X n g st (us++hand) a w) {r c z i j q hn hc:Nat} {p:List (Nat×Nat)} {gs:List G} {t:G} {rs:List (List G)} {Ex:Nat→Nat→List (Nat×Nat)→Prop}
    (hg:g.gr r=some gs) (ht:gs[c]?=some t) (hm:atP t p=some (.sl true z (.slice (some ⟨q,0,none⟩) hn hc) rs)) {row:List G} (hrow:rs[i]?=some row) (hl:j + us.length≤z)
    (hk:Keeps Ex g (g.setR r (gs.set c (setP t p (.sl true z (.slice (some ⟨q,0,none⟩) hn hc) (rs.set i (setCells row j us)))))))
    (hslots:∀ k v,get st.s k=some v→¬ SlotEx Ex v∧∀ vs,v = .tup vs→∀ r c p,¬ Ex r c p) (hboxes:∀ b cs,get st.b b=some cs→∀ x∈cs,¬ CelEx Ex x) :
    ∃ w',(storeCells ⟨q,i * z + j,none⟩ (us.map hdr) 0).run P w = .ok () w'∧
      Sim X n (g.setR r (gs.set c (setP t p (.sl true z (.slice (some ⟨q,0,none⟩) hn hc) (rs.set i (setCells row j us))))))
        { st with r:=rep st.r r ((gs.set c (setP t p (.sl true z (.slice (some ⟨q,0,none⟩) hn hc) (rs.set i (setCells row j us))))).map er) } hand a w':=by
  have hR:=h.reps r gs hg t (List.mem_of_getElem? ht)
  have hRm:=hR.atP p hm
  have cN:∀ b,cnt b (.sl true z (.slice (some ⟨q,0,none⟩) hn hc) rs)≤cntL b gs:=fun b=>by
    have a1:=cnt_atP b p hm
    have a2:=cntL_get b ht
    omega
  have hsole:=fun b=>h.sole.one b r
  simp only [Gh.has,hg,rcnt,cntL_append] at hsole
  have hq1:cnt q (.sl true z (.slice (some ⟨q,0,none⟩) hn hc) rs)=1 + cntLL q rs:=by simp [cnt,hb]
  have hqz:cntLL q rs=0∧cntL q us=0∧cntL q hand=0∧bcnt q (g.gb r)=0∧cntL q gs=1:=by
    have:=hsole q
    have:=cN q
    omega
  have hqS:¬ X.S q∧(X.w0.heap.size≤q∨X.F q):=h.mine q r (by rw [hg]; simp only [rcnt,cntL_append]; omega)
  have hi:=(List.getElem?_eq_some_iff.1 hrow).1
  cases hRm with
  | @own _ _ _ e cur fz _ hgq hz hlc hmx hs0 hrl hd0 hcel =>
    have hrz:=hrl row (List.mem_of_getElem? hrow)
    have hbound:i * z + z≤rs.length * z:=by
      have:=Nat.mul_le_mul_right z (show i + 1≤rs.length by omega)
      rw [Nat.add_mul] at this
      omega
    have hcz:rs.length * z≤cur.size:=by rw [hs0]; exact Nat.mul_le_mul_right z hlc
    have hrun:=run_storeCells_fz P q (i * z + j) e fz (us.map hdr) 0 cur w hgq (by simp; omega) (fun k hk=>hz _ (by simp at hk; omega)) (fun v hv=>by
      obtain ⟨t,ht,rfl⟩:=List.mem_map.1 hv
      exact (h.held t (List.mem_append_left _ ht)).one)
    simp only [Nat.add_zero] at hrun
    refine ⟨_,hrun,?_⟩
    have hst:=setRow_step w q (cur.toList.take (i * z + j)++us.map hdr++cur.toList.drop (i * z + j + (us.map hdr).length)).toArray (D:=fun b=>b=q) rfl
    have hgn:=setRow_heap w q cur (cur.toList.take (i * z + j)++us.map hdr++cur.toList.drop (i * z + j + (us.map hdr).length)).toArray e fz hgq
    generalize w.setRow q (cur.toList.take (i * z + j)++us.map hdr++cur.toList.drop (i * z + j + (us.map hdr).length)).toArray=w' at hst hgn
    have hS:∀ b,X.S b→w'.heap[b]?=w.heap[b]?:=fun b hb=>hst.block b (Nat.lt_of_lt_of_le (X.stay b hb).1 h.frame.size) (fun e=>hqS.1 (e ▸ hb))
    have cnew:∀ b,cntLL b (rs.set i (setCells row j us))≤cntLL b rs + cntL b us:=fun b=>by
      have a1:=cntLL_set b rs i row (setCells row j us) hrow
      have a2:=cnt_setCells b row us j
      omega
    have hRn:Rp X.S w' (.sl true z (.slice (some ⟨q,0,none⟩) rs.length hc) (rs.set i (setCells row j us))):=by
      have hlen:rs.length=(rs.set i (setCells row j us)).length:=by simp
      rw [hlen]
      refine Rp.remade (w:=w) (cur:=(cur.toList.take (i * z + j)++us.map hdr++cur.toList.drop (i * z + j + (us.map hdr).length)).toArray) hgn ?_ (by rw [← hlen]; exact hlc) hmx ?_ ?_ ?_ ?_ hS ?_
      · intro o ho
        refine hz o ?_
        have:=seg_len cur.toList (i * z + j) (us.map hdr) (by simp; omega)
        simp only [List.size_toArray] at ho
        rw [this] at ho
        simpa using ho
      · rw [List.size_toArray,seg_len _ _ _ (by simp; omega),Array.length_toList,hs0]
      · intro x hx
        rcases List.mem_or_eq_of_mem_set hx with hx | rfl
        · exact hrl x hx
        · simp only [setCells,List.length_append,List.length_take,List.length_drop]; omega
      · rw [← hlen,hds_seg hrl hrow (by omega),← hd0]
        apply List.ext_getElem?
        intro k
        rw [List.getElem?_take]
        have hl1:(cur.toList.take (rs.length * z)).length=rs.length * z:=by simp; omega
        by_cases hk:k < rs.length * z
        · rw [if_pos hk]
          by_cases hin:i * z + j≤k∧k < i * z + j + us.length
          · have e1:=seg_in cur.toList (i * z + j) (us.map hdr) (by simp; omega) (k - (i * z + j)) (by simp; omega)
            have e2:=seg_in (cur.toList.take (rs.length * z)) (i * z + j) (us.map hdr) (by rw [hl1]; simp; omega) (k - (i * z + j)) (by simp; omega)
            rw [show i * z + j + (k - (i * z + j))=k by omega] at e1 e2
            simp only [List.length_map] at e1 e2
            simp only [List.length_map]
            rw [e1,e2]
          · have e1:=seg_out cur.toList (i * z + j) (us.map hdr) (by simp; omega) k (by simp; omega)
            have e2:=seg_out (cur.toList.take (rs.length * z)) (i * z + j) (us.map hdr) (by rw [hl1]; simp; omega) k (by simp; omega)
            simp only [List.length_map] at e1 e2
            simp only [List.length_map]
            rw [e1,e2,List.getElem?_take,if_pos hk]
        · rw [if_neg hk]
          symm
          apply List.getElem?_eq_none
          have:=seg_len (cur.toList.take (rs.length * z)) (i * z + j) (us.map hdr) (by rw [hl1]; simp; omega)
          simp only [List.length_map] at this
          rw [this,hl1]
          omega
      · intro x hx y hy
        rcases List.mem_or_eq_of_mem_set hx with hx | rfl
        · exact hcel x hx y hy
        · rcases mem_setCells hy with hy | hy
          · exact hcel row (List.mem_of_getElem? hrow) y hy
          · exact h.held y (List.mem_append_left _ hy)
      · intro b hb
        have hne:b≠q:=fun e=>by
          subst e
          have:=cnew b
          omega
        have hw:b < w.heap.size:=by
          have:=cnew b
          have:=cN b
          simp only [cnt] at this
          exact h.lt b r (by simp only [Gh.has,hg,rcnt,cntL_append]; omega)
        exact hst.block b hw hne
    have hRt:Rp X.S w' (setP t p (.sl true z (.slice (some ⟨q,0,none⟩) rs.length hc) (rs.set i (setCells row j us)))) :=
      hR.setP (fun _ h=>h) hS p hm hRn rfl (fun b hb=>by
        have a2:=cntL_get b ht
        have hne:b≠q:=fun e=>by subst e; omega
        exact hst.block b (h.lt b r (by simp only [Gh.has,hg,rcnt]; omega)) hne)
    have cset:∀ b,cntL b (gs.set c (setP t p (.sl true z (.slice (some ⟨q,0,none⟩) rs.length hc) (rs.set i (setCells row j us)))))≤cntL b gs + cntL b us:=fun b=>by
      have a1:=cntL_set b gs c t (setP t p (.sl true z (.slice (some ⟨q,0,none⟩) rs.length hc) (rs.set i (setCells row j us)))) ht
      have a2:=cnt_setP b p (u:=.sl true z (.slice (some ⟨q,0,none⟩) rs.length hc) (rs.set i (setCells row j us))) hm
      have a3:=cnew b
      simp only [cnt] at a2
      omega
    generalize hgs':gs.set c (setP t p (.sl true z (.slice (some ⟨q,0,none⟩) rs.length hc) (rs.set i (setCells row j us))))=gs' at *
    have hother:∀ b,b < w.heap.size→b≠q→w'.heap[b]?=w.heap[b]?:=fun b hb hne=>hst.block b hb hne
    refine { frame:=⟨hst.os.trans h.frame.os,hst.tape.trans h.frame.tape,hst.output.trans h.frame.output,Nat.le_trans h.frame.size hst.size,fun x hx hF hRx=>?_,fun x hx k hk=>?_⟩,
             defers:=h.defers,tmps:=h.tmps,slots:=fun k v hkv=>SlotOK.keep hk hS v _ (hslots k v hkv).1 (hslots k v hkv).2 (h.slots k v hkv),
             boxes:=fun k ks hkk=>?_,nobox:=h.nobox,roots:=fun k ts hkk=>?_,noroot:=fun k hkk=>?_,
             reps:=fun k gs2 hgk x hx=>?_,held:=fun x hx=>(h.held x (List.mem_append_right _ hx)).move (fun _ h=>h) hS (fun b hb=>?_),
             sole:=h.sole.upd r (fun _ _=>rfl) (fun j hj=>setR_ne _ _ hj) (fun b=>.inl ?_),mine:=fun b k hb=>?_,pb:=h.pb,hold:=fun i' hs hi'=>by
               obtain ⟨gs2,h1,h2⟩:=h.hold i' hs hi'
               by_cases e:i'=r
               · subst e
                 rw [hg] at h1
                 simp at h1
                 subst h1
                 exact ⟨gs',setR_same _ _ _,by rw [← hgs']; exact (map_hdr_set ht (hdr_setP (u:=.sl true z (.slice (some ⟨q,0,none⟩) rs.length hc) (rs.set i (setCells row j us))) p hm rfl)).trans h2⟩
               · exact ⟨gs2,by rw [setR_ne _ _ e]; exact h1,h2⟩ }
    · refine (hother x (Nat.lt_of_lt_of_le hx h.frame.size) (fun e=>?_)).trans (h.frame.block x hx hF hRx)
      subst e
      rcases hqS.2 with h1 | h1
      · omega
      · exact hF h1
    · have hne:x.1≠q:=fun e=>by
        rcases hqS.2 with h1 | h1
        · have:=(X.apart x hx).2; omega
        · exact (X.apart x hx).1 (e ▸ h1)
      have:=hother x.1 (Nat.lt_of_lt_of_le (X.apart x hx).2 h.frame.size) hne
      rw [World.cell?_of_block (w:=w) (a:=⟨x.1,k,none⟩) this,World.frozen?_of_block (w:=w) (a:=⟨x.1,k,none⟩) this]
      exact h.frame.range x hx k hk
    · obtain ⟨A,ws,f1,f2,f3,f4,f5⟩:=h.boxes k ks hkk
      have hBA:A.block≠q:=fun e=>by
        by_cases ek:k=r
        · subst ek
          simp only [f1,bcnt,e,if_true] at hqz
          omega
        · have:=h.sole.two ek q
          simp only [Gh.has,f1,bcnt,e,if_true,hg,rcnt] at this
          omega
      exact ⟨A,ws,hk.b _ _ f1,Nat.lt_of_lt_of_le f2 hst.size,f3.move (hother _ f2 hBA),f4.keep hk hS (fun c' hc'=>hboxes k ks hkk c' hc'),f5⟩
    · simp only [get_rep_if] at hkk
      split at hkk
      · rename_i ek; subst ek; simp at hkk; exact ⟨gs',setR_same _ _ _,hkk⟩
      · rename_i ek; rw [setR_ne _ _ ek]; exact h.roots k ts hkk
    · simp only [get_rep_if] at hkk
      split at hkk
      · cases hkk
      · rename_i ek; rw [setR_ne _ _ ek]; exact h.noroot k hkk
    · by_cases ek:k=r
      · subst ek
        rw [setR_same] at hgk
        simp at hgk
        subst hgk
        rw [← hgs'] at hx
        obtain ⟨l,hl',rfl⟩:=List.mem_iff_getElem.1 hx
        rw [List.getElem_set]
        split
        · exact hRt
        · rename_i hlc'
          have hl2:l < gs.length:=by simpa using hl'
          refine (h.reps k gs hg _ (List.getElem_mem hl2)).move (fun _ h=>h) hS (fun b hb=>hother b ?_ ?_)
          · exact h.lt b k (by
              have:=cnt_mem b gs _ (List.getElem_mem hl2)
              simp only [Gh.has,hg,rcnt]
              omega)
          · intro e
            subst e
            have a1:=cntL_set b gs c t (.pv undef) ht
            have a2:cnt b gs[l]≤cntL b (gs.set c (.pv undef)):=cnt_mem b _ _ (by
              have:gs[l]=(gs.set c (.pv undef))[l]'(by simpa using hl2):=by rw [List.getElem_set_ne hlc']
              rw [this]; exact List.getElem_mem _)
            have a3:=cnt_atP b p hm
            simp only [cnt] at a1 a3
            simp only [Go.X.hb,if_true] at a3
            omega
      · rw [setR_ne _ _ ek] at hgk
        refine (h.reps k gs2 hgk x hx).move (fun _ h=>h) hS (fun b hb=>hother b ?_ ?_)
        · exact h.lt b k (by
            have:=cnt_mem b gs2 x hx
            simp only [Gh.has,hgk,rcnt]
            omega)
        · intro e
          subst e
          have s1:=h.sole.two ek b
          have:=cnt_mem b gs2 x hx
          simp only [Gh.has,hgk,hg,rcnt] at s1
          omega
    · refine hother b ?_ ?_
      · exact h.lt b r (by
          have:=cnt_mem b hand x hx
          rw [cntL_append]
          omega)
      · intro e
        subst e
        have:=cnt_mem b hand x hx
        omega
    · have:=cset b
      simp only [Gh.has,setR_same,rcnt,Gh.setR,hg,cntL_append]
      simp
      omega
    · have:=cset b
      by_cases ek:k=r
      · subst ek
        rw [setR_same] at hb
        simp only [rcnt] at hb
        exact h.mine b k (by rw [hg]; simp only [rcnt,cntL_append]; omega)
      · rw [setR_ne _ _ ek] at hb
        exact h.mine b k (by rw [cntL_append]; omega)
theorem getmem {α:Type} {l:List (Nat×α)} {k:Nat} {v:α} (h:get l k=some v):(k,v)∈l:=by
 induction l with
 | nil=>simp [get] at h
 | cons x l ih =>
  obtain ⟨j,u⟩:=x
  simp only [get] at h
  cases e:j==k with
  | true=>simp [e] at h; subst h; have:=eq_of_beq e; subst this; simp
  | false=>simp [e] at h; exact List.mem_cons_of_mem _ (ih h)
theorem below_lower {r c:Nat} {p:List (Nat×Nat)} {x:Cel} (h:CelEx (Below' r c p) x):lower r c p x=true:=by
 cases x with
 | rf r' c' q z o l =>
  obtain ⟨rfl,rfl,s,rfl,hs⟩:=h
  have:0 < s.length:=List.length_pos_iff.2 hs
  simp [lower,this]
 | _=>exact h.elim
theorem noLower_ok {r c:Nat} {p:List (Nat×Nat)} (h:AllX (noLower r c p) st):(∀ k v,get st.s k=some v→¬ SlotEx (Below' r c p) v∧∀ vs,v = .tup vs→∀ r' c' p',¬ Below' r c p r' c' p')∧(∀ b cs,get st.b b=some cs→∀ x∈cs,¬ CelEx (Below' r c p) x):=by
 obtain ⟨st',e1,e2,h⟩:=h
 simp only [noLower,Bool.and_eq_true,List.all_eq_true,Bool.not_eq_true'] at h
 refine ⟨fun k v hk=>?_,fun b cs hb x hx he=>?_⟩
 ·have h1:=h.1 _ (getmem ((e1 k).trans hk))
  refine ⟨fun he=>?_,fun vs e=>?_⟩
  ·cases v with
   | one x=>simp only [SlotEx] at he; have:=below_lower he; simp [SV.lower,this] at h1
   | agg cs =>
    obtain ⟨x,hx,he⟩:=he
    have:=below_lower he
    simp only [SV.lower,List.any_eq_false] at h1
    exact h1 x hx this
   | ap r' c' q z i j =>
    obtain ⟨rfl,rfl,s,rfl,hs⟩:=he
    have:0 < s.length:=List.length_pos_iff.2 hs
    simp [SV.lower,this] at h1
   | tup vs=>simp [SV.lower] at h1
   | _=>exact he
  ·subst e
   simp [SV.lower] at h1
 ·have h1:=h.2 _ (getmem ((e2 b).trans hb))
  simp only [List.any_eq_false] at h1
  exact h1 x hx (below_lower he)
def BelowR (r c:Nat) (p:List (Nat×Nat)) (i:Nat):Nat→Nat→List (Nat×Nat)→Prop:=fun r' c' q=>r'=r∧c'=c∧∃ j s,q=p++(i,j)::s
theorem belowR_lower {r c i r' c':Nat} {p q:List (Nat×Nat)} (h:BelowR r c p i r' c' q):lowerR r c p i r' c' q=true:=by
 obtain ⟨rfl,rfl,j,s,rfl⟩:=h
 simp [lowerR]
theorem noLowerR_ok {r c i:Nat} {p:List (Nat×Nat)} (h:AllX (noLowerR r c p i) st):(∀ k v,get st.s k=some v→¬ SlotEx (BelowR r c p i) v∧∀ vs,v = .tup vs→∀ r' c' p',¬ BelowR r c p i r' c' p')∧(∀ b cs,get st.b b=some cs→∀ x∈cs,¬ CelEx (BelowR r c p i) x):=by
 obtain ⟨st',e1,e2,h⟩:=h
 simp only [noLowerR,Bool.and_eq_true,List.all_eq_true,Bool.not_eq_true'] at h
 have hc:∀ x:Cel,CelEx (BelowR r c p i) x→lowerC r c p i x=true:=fun x he=>by
  cases x with
  | rf r' c' q z o l=>exact belowR_lower he
  | _=>exact he.elim
 refine ⟨fun k v hk=>?_,fun b cs hb x hx he=>?_⟩
 ·have h1:=h.1 _ (getmem ((e1 k).trans hk))
  refine ⟨fun he=>?_,fun vs e=>?_⟩
  ·cases v with
   | one x=>have:=hc x he; simp [SV.lowerS,this] at h1
   | agg cs =>
    obtain ⟨x,hx,he⟩:=he
    have:=hc x he
    simp only [SV.lowerS,List.any_eq_false] at h1
    exact h1 x hx this
   | ap r' c' q z i j=>have:=belowR_lower he; simp [SV.lowerS,this] at h1
   | tup vs=>simp [SV.lowerS] at h1
   | _=>exact he
  ·subst e
   simp [SV.lowerS] at h1
 ·have h1:=h.2 _ (getmem ((e2 b).trans hb))
  simp only [List.any_eq_false] at h1
  exact h1 x hx (hc x he)
theorem keeps_row {r c z i:Nat} {p:List (Nat×Nat)} {gs:List G} {t:G} {hv:Value} {rs:List (List G)} {row:List G} (hg:g.gr r=some gs) (ht:gs[c]?=some t) (hm:atP t p=some (.sl true z hv rs)) :
  Keeps (BelowR r c p i) g (g.setR r (gs.set c (setP t p (.sl true z hv (rs.set i row))))):=by
 have h:=keeps_setP (u:=.sl true z hv (rs.set i row)) hg ht hm rfl rfl
 refine ⟨h.b,h.r,fun r' c' q m' hx hr' hn hh'=>?_⟩
 by_cases e:Below' r c p r' c' q
 ·obtain ⟨rfl,rfl,s,rfl,hs⟩:=e
  have hc:=(List.getElem?_eq_some_iff.1 ht).1
  have n1:nodeAt (g.setR r' (gs.set c' (setP t p (.sl true z hv (rs.set i row))))) r' c' p=some (.sl true z hv (rs.set i row)):=by
   simp only [nodeAt,setR_same,Option.bind_some,List.getElem?_set_self hc]
   exact atP_setP_self p hm
  have n0:nodeAt g r' c' p=some (.sl true z hv rs):=by simp [nodeAt,hg,ht,hm]
  rw [nodeAt_append n1] at hn
  rw [nodeAt_append n0]
  cases s with
  | nil=>exact absurd rfl hs
  | cons x s =>
   obtain ⟨i',j'⟩:=x
   simp only [atP,Tr.own,cond_true,cellAt,Tr.rows] at hn ⊢
   have ei:i'≠i:=fun e=>hx ⟨rfl,rfl,j',s,by rw [e]⟩
   rw [List.getElem?_set_ne (fun h=>ei h.symm)] at hn
   exact ⟨m',hn,hh',rfl⟩
 ·exact h.h r' c' q m' e hr' hn hh'
theorem keeps_plain {r c z i j:Nat} {p:List (Nat×Nat)} {gs:List G} {t:G} {hv:Value} {rs:List (List G)} {row us:List G} (hg:g.gr r=some gs) (ht:gs[c]?=some t) (hm:atP t p=some (.sl true z hv rs)) (hrow:rs[i]?=some row)
  (hu:us.all isPv=true) (hl:j + us.length≤row.length):Keeps Never g (g.setR r (gs.set c (setP t p (.sl true z hv (rs.set i (setCells row j us)))))):=by
 have h:=keeps_setP (u:=.sl true z hv (rs.set i (setCells row j us))) hg ht hm rfl rfl
 refine ⟨h.b,h.r,fun r' c' q m' _ hr' hn hh'=>?_⟩
 by_cases e:Below' r c p r' c' q
 ·obtain ⟨rfl,rfl,s,rfl,hs⟩:=e
  have hc:=(List.getElem?_eq_some_iff.1 ht).1
  have n1:nodeAt (g.setR r' (gs.set c' (setP t p (.sl true z hv (rs.set i (setCells row j us)))))) r' c' p=some (.sl true z hv (rs.set i (setCells row j us))):=by
   simp only [nodeAt,setR_same,Option.bind_some,List.getElem?_set_self hc]
   exact atP_setP_self p hm
  have n0:nodeAt g r' c' p=some (.sl true z hv rs):=by simp [nodeAt,hg,ht,hm]
  rw [nodeAt_append n1] at hn
  rw [nodeAt_append n0]
  cases s with
  | nil=>exact absurd rfl hs
  | cons x s =>
   obtain ⟨i',j'⟩:=x
   have hi:=(List.getElem?_eq_some_iff.1 hrow).1
   simp only [atP,Tr.own,cond_true,cellAt,Tr.rows] at hn ⊢
   by_cases ei:i'=i
   ·subst ei
    rw [List.getElem?_set_self hi] at hn
    rw [hrow]
    simp only [Option.bind_some] at hn ⊢
    by_cases ej:j≤j'∧j' < j + us.length
    ·exfalso
     have e1:(setCells row j us)[j']?=us[j' - j]?:=by
      rw [setCells,List.append_assoc,List.getElem?_append_right (by simp; omega),List.getElem?_append_left (by simp; omega)]
      congr 1; simp; omega
     rw [e1,List.getElem?_eq_getElem (by omega)] at hn
     have hp:=List.all_eq_true.1 hu _ (List.getElem_mem (show j' - j < us.length by omega))
     cases hx:us[j' - j]'(by omega) with
     | pv v =>
      rw [hx] at hn
      cases s with
      | nil=>simp [atP] at hn; subst hn; simp [Tr.held] at hh'
      | cons y s=>simp [atP,Tr.own] at hn
     | sl=>rw [hx] at hp; simp [isPv] at hp
     | no=>rw [hx] at hp; simp [isPv] at hp
    ·have e1:(setCells row j us)[j']?=row[j']?:=by
      rw [setCells]
      by_cases h1:j' < j
      ·rw [List.append_assoc,List.getElem?_append_left (by simp; omega),List.getElem?_take,if_pos h1]
      ·rw [List.getElem?_append_right (by simp; omega),List.getElem?_drop]
       congr 1; simp; omega
     rw [e1] at hn
     exact ⟨m',hn,hh',rfl⟩
   ·rw [List.getElem?_set_ne (fun h=>ei h.symm)] at hn
    exact ⟨m',hn,hh',rfl⟩
 ·exact h.h r' c' q m' e hr' hn hh'
theorem run_store {t:TypeId} {m:Nat} {ti:TypeInfo} {x y:Operand} (ho:o.op = .store t x y) (hi:P.info? t=some ti) (hs:ti.size=m) {ad:Addr} {us:List Value} {w':World} (e:a.eval x = .pointer (some ad)) (hu:(a.eval y).cells=us.toArray) (hl:us.length=m)
  (hr:(storeCells ad us 0).run P w = .ok () w'):(execOp a.eval o).run P w = .ok .skip w':=by
 simp [execOp,ho,e,Instr.storeAt,Instr.sureAddr,storeVar,hu,sizeOf,typeInfo,hi,hs,hl,hr]
theorem do_store {t:TypeId} {m:Nat} {ti:TypeInfo} {x y:Operand} {x' y':Opd} (h:Sim X n g st [] a w) (ho:o.op = .store t x y) (hi:P.info? t=some ti) (hs:ti.size=m) (hm0:0 < m) (hx:opdOk x x'=true) (hy:opdOk y y'=true) (hd:o.dst=none) (id:Nat)
  (hp:runP Te ((COp.store m x' y').prg o.dst id) st (fun _ st'=>K st')):o.wp P a w (Goal X n K) Q:=by
 replace hp:=ev_ok h hx hp
 obtain ⟨v,hv,hp⟩:=hp
 replace hp:=ev_ok h hy hp
 obtain ⟨v1,hv1,hp⟩:=hp
 replace hp:=cels_ok hv1 hp
 obtain ⟨cs,us,hu,hc,hp⟩:=hp
 simp only [runP,beq_iff_eq] at hp
 obtain ⟨hcm,hp⟩:=hp
 have hul:us.length=m:=by rw [← hc.1]; exact hcm
 have fin:∀ {w':World} {g':Gh} {st':St},(execOp a.eval o).run P w = .ok .skip w'→K st'→Sim X n g' st' [] a w'→o.wp P a w (Goal X n K) Q:=fun hr hk hsim=>by
  refine step_skip hr ?_
  rw [hd]
  exact ⟨_,_,hk,hsim⟩
 split at hp
 ·rename_i b off
  simp only [SlotOK] at hv
  obtain ⟨A,hA,e⟩:=hv
  simp only [runP] at hp
  cases hb:get st.b b with
  | none=>simp [hb] at hp
  | some old =>
   simp only [hb,decide_eq_true_eq] at hp
   obtain ⟨hl,hp⟩:=hp
   obtain ⟨w',hr,hsim⟩:=h.storeBox (P:=P) hb hA hc hl (by omega)
   exact fin (run_store ho hi hs e hu hul hr) hp hsim
 ·rename_i r c p z i j
  replace hp:=takes_ok (hand:=[]) h hc hp
  obtain ⟨g1,st1,ts,h1,k1,e1,hp,hb1,hs1,hbb1⟩:=hp
  have hv':=SlotOK.keep (S:=X.S) k1 (fun _ _=>rfl) (.ap r c p z i j) _ (never_slot _) (fun _ _ _ _ _ h=>h) hv
  simp only [SlotOK] at hv'
  obtain ⟨_,hrr,hf⟩:=hv'
  simp only [storeAp,runP] at hp
  cases hr:get st1.r r with
  | none=>simp [hr] at hp
  | some root =>
   simp only [hr,node] at hp
   split at hp
   ·rename_i z2 hh rows hn
    simp only [runP,beq_iff_eq,Bool.and_eq_true,decide_eq_true_eq] at hp
    obtain ⟨rfl,⟨hil,hjl⟩,hp⟩:=hp
    obtain ⟨gs,t0,hvv,rs,hg,rfl,ht0,hm0',rfl,hna,hR,hRm⟩:=h1.node hr hn
    obtain ⟨q,hn',hcc,e2,e⟩:=hf _ hna rfl
    simp only [hdr] at e2
    subst e2
    have hil':i < rs.length:=by simpa using hil
    obtain ⟨row,hrow⟩:∃ row,rs[i]?=some row:=⟨rs[i],List.getElem?_eq_getElem hil'⟩
    have rowE:(rs.map (·.map er)).getD i []=row.map er:=by
     simp only [List.getD_eq_getElem?_getD,List.getElem?_map,hrow]
     rfl
    have hrl:row.length=z2:=by
     cases hRm with
     | own _ _ _ _ _ h5 _ _=>exact h5 row (List.mem_of_getElem? hrow)
    have hjl':j + ts.length≤z2:=by simpa using hjl
    have tsl:ts.length=us.length:=by rw [← e1]; simp
    have eqr:(gs.set c (setP t0 p (.sl true z2 (.slice (some ⟨q,0,none⟩) hn' hcc) (rs.set i (setCells row j ts))))).map er =
      putAt (gs.map er) c p (.sl true z2 () ((rs.map (·.map er)).set i (setCells ((rs.map (·.map er)).getD i []) j (ts.map er)))):=by
     rw [map_set_er,er_setP,rowE]
     simp [putAt,List.getElem?_map,ht0,er,erLL_eq,List.map_set,setCells]
    rw [rowE] at hp
    have allE:∀ l:List G,(l.map er).all isPv=l.all isPv:=fun l=>by
     induction l with
     | nil=>rfl
     | cons x l ih=>cases x <;> simp [isPv,er] <;> simpa using ih
    rw [allE] at hp
    have close:∀ (Ex:Nat→Nat→List (Nat×Nat)→Prop),Keeps Ex g1 (g1.setR r (gs.set c (setP t0 p (.sl true z2 (.slice (some ⟨q,0,none⟩) hn' hcc) (rs.set i (setCells row j ts))))))→
      (∀ k v,get st1.s k=some v→¬ SlotEx Ex v∧∀ vs,v = .tup vs→∀ r c p,¬ Ex r c p)→(∀ b cs,get st1.b b=some cs→∀ x∈cs,¬ CelEx Ex x)→
      K { st1 with r:=rep st1.r r (putAt (gs.map er) c p (.sl true z2 () ((rs.map (·.map er)).set i (setCells (row.map er) j (ts.map er))))) }→o.wp P a w (Goal X n K) Q:=fun Ex hk hsl hbx hK=>by
     obtain ⟨w',hr',hsim⟩:=h1.storeAp (P:=P) hg ht0 hm0' hrow hjl' hk hsl hbx
     rw [eqr,rowE] at hsim
     rw [e1] at hr'
     exact fin (run_store ho hi hs e hu hul hr') hK hsim
    cases hall:ts.all isPv with
    | true =>
     simp only [hall,cond_true,runP,hr] at hp
     exact close Never (keeps_plain hg ht0 hm0' hrow hall (by omega)) (fun k v _=>⟨never_slot v,fun _ _ _ _ _ h=>h⟩) (fun b cs _ x _=>never_cel x) hp
    | false =>
     simp only [hall,cond_false,runP,hr] at hp
     obtain ⟨hlo,hp⟩:=hp
     obtain ⟨hsl,hbx⟩:=noLowerR_ok hlo
     exact close (BelowR r c p i) (keeps_row hg ht0 hm0') hsl hbx hp
   ·exact hp.elim
 ·exact hp.elim
end
end Go.X

namespace Go.X
section
variable {P:Program} {X:Ctx} {n:Nat} {g:Gh} {st:St} {hand:List G} {a:Act} {w:World} {α:Type} {Te:Nat→List AV→Res→Prop} {o:Oper} {K:St→Prop} {Q:Exit→Act→World→Prop}
theorem Sim.newRoot {us:List G} (h:Sim X n g st (us++hand) a w) {d:Nat} (hr:get st.r d=none):Sim X n (g.setR d us) { st with r:=rep st.r d (us.map er) } hand a w :=
 h.reroot d us (keeps_new (h.noroot d hr)) (fun t ht=>h.held t (List.mem_append_left _ ht)) (fun t ht=>h.held t (List.mem_append_right _ ht)) (fun b=>by rw [h.noroot d hr,cntL_append]; simp [rcnt]) (fun old ho=>by rw [h.noroot d hr] at ho; cases ho)
theorem newSl_ok {d z:Nat} {v:Value} {rs:List (List G)} {rows:List (List T)} (h:Sim X n g st [.sl true z v rs] a w) (hd:d < n) (he:rs.map (·.map er)=rows) (hp:runP Te (newSl d z rows) st (fun _ st'=>K st')):Goal X n K (a.put (some d) v) w:=by
 simp only [newSl,runP] at hp
 cases hr:get st.r d with
 | some _=>simp [hr] at hp
 | none =>
  simp only [hr] at hp
  have h1:=Sim.newRoot (us:=[.sl true z v rs]) (hand:=[]) h hr
  have e:([.sl true z v rs]:List G).map er=[.sl true z () rows]:=by simp [er,erLL_eq,he]
  rw [e] at h1
  refine ⟨_,_,hp,h1.slot hd ?_⟩
  simp only [SlotOK]
  have:=celOf_ok (g:=g.setR d [.sl true z v rs]) (r:=d) (c:=0) (p:=[]) (h.held _ (List.mem_cons_self ..)) (by rw [setR_same]; simp) (fun m hm _=>by simp [nodeAt,setR_same,atP] at hm; exact hm.symm)
  rw [show er (.sl true z v rs) = .sl true z () rows by simp [er,erLL_eq,he]] at this
  exact this
theorem cntL_flatten (b:Nat):∀ rs:List (List G),cntL b rs.flatten=cntLL b rs
 | []=>rfl
 | r::rs=>by simp only [List.flatten_cons,cntL_append,cntLL,cntL_flatten b rs]
theorem hds_inv {z:Nat}:∀ {rows:List (List G)} {k:Nat} {v:Value},(∀ r∈rows,r.length=z)→(hds rows)[k]?=some v→∃ i j r t,rows[i]?=some r∧r[j]?=some t∧k=i * z + j∧v=hdr t
 | [],k,v,_,h=>by simp [hds] at h
 | r::rs,k,v,hz,h=>by
  have hr:=hz r (List.mem_cons_self ..)
  rw [hds_cons] at h
  by_cases hk:k < z
  ·rw [List.getElem?_append_left (by simp; omega),List.getElem?_map] at h
   cases ht:r[k]? with
   | none=>simp [ht] at h
   | some t=>simp [ht] at h; exact ⟨0,k,r,t,rfl,ht,by omega,h.symm⟩
  ·rw [List.getElem?_append_right (by simp; omega)] at h
   obtain ⟨i,j,r',t,h1,h2,h3,h4⟩:=hds_inv (k:=k - z) (fun r hr=>hz r (List.mem_cons_of_mem _ hr)) (by simpa [hr] using h)
   exact ⟨i + 1,j,r',t,by simpa using h1,h2,by rw [Nat.add_mul]; omega,h4⟩
theorem run_app_grow {t t2 ty e:TypeId} {ti:TypeInfo} {zv:Value} (ht:P.underlying t=some (.slice e)) (hi:P.info? e=some ti) (hz:ti.zero=some zv) {d2:TypeDesc} (ht2:P.underlying t2=some d2) (hd2:d2 = .string∨∃ e2,d2 = .slice e2)
  {q:Option Addr} {len cap m:Nat} {x:Value} {olds news:Array Value} (hc:cap < len + m) (hl:len + m≤4294967296) (hby2:(len + m) * ti.bytes≤140737488355328)
  (ho:(Builtin.firstCells ti.size len (.slice q len cap)).run P w.drew = .ok olds w.drew) (hx1:∀ w,(Builtin.lenOf x).run P w = .ok m w) (hx2:(Builtin.firstCells ti.size m x).run P w.drew = .ok news w.drew) :
  (Builtin.append_ #[t,t2] ty #[.slice q len cap,x]).run P w = .ok (.slice (some ⟨w.heap.size,0,none⟩) (len + m) (grownCap w (len + m) cap e)) (w.drew.alloc (.cells (olds++news++Builtin.zeroCells zv.cells (grownCap w (len + m) cap e - (len + m))) e)):=by
 have hfit:=growslice_fits (old:=cap) (bytes:=ti.bytes) hc hby2
 have hn1:¬ (len + m≤cap):=by omega
 have h63':¬ (9223372036854775807 < ((len:Int) + (m:Int))):=by omega
 have h48':¬ (281474976710656 < Builtin.nextslicecap (len + m) cap * ti.bytes):=by omega
 rcases hd2 with rfl | ⟨e2,rfl⟩
 ·simp [Builtin.append_,run_underlying ht,run_underlying ht2,sizeOf,typeInfo,zeroValue,hi,hz,hx1,hn1,h63',h48',Question.forced,ho,hx2,newRow,grownCap]
 ·simp [Builtin.append_,run_underlying ht,run_underlying ht2,sizeOf,typeInfo,zeroValue,hi,hz,hx1,hn1,h63',h48',Question.forced,ho,hx2,newRow,grownCap]
theorem run_app_room {t t2 ty e:TypeId} {ti:TypeInfo} (ht:P.underlying t=some (.slice e)) (hi:P.info? e=some ti) {d2:TypeDesc} (ht2:P.underlying t2=some d2) (hd2:d2 = .string∨∃ e2,d2 = .slice e2)
  {q len cap m:Nat} {x:Value} {news:List Value} {w':World} (hc:len + m≤cap) (hx1:∀ w,(Builtin.lenOf x).run P w = .ok m w) (hx2:(Builtin.firstCells ti.size m x).run P w = .ok news.toArray w) (hst:(storeCells ⟨q,len * ti.size,none⟩ news 0).run P w = .ok () w') :
  (Builtin.append_ #[t,t2] ty #[.slice (some ⟨q,0,none⟩) len cap,x]).run P w = .ok (.slice (some ⟨q,0,none⟩) (len + m) cap) w':=by
 have e:(⟨q,0,none⟩:Addr).add (len * ti.size)=⟨q,len * ti.size,none⟩:=by rw [add_none,Nat.zero_add]
 rcases hd2 with rfl | ⟨e2,rfl⟩
 ·simp [Builtin.append_,run_underlying ht,run_underlying ht2,sizeOf,typeInfo,hi,hx1,hx2,hc,e,hst]
 ·simp [Builtin.append_,run_underlying ht,run_underlying ht2,sizeOf,typeInfo,hi,hx1,hx2,hc,e,hst]
theorem run_app_none {t t2 ty e:TypeId} {ti:TypeInfo} (ht:P.underlying t=some (.slice e)) (hi:P.info? e=some ti) {d2:TypeDesc} (ht2:P.underlying t2=some d2) (hd2:d2 = .string∨∃ e2,d2 = .slice e2)
  {x:Value} (hx1:∀ w,(Builtin.lenOf x).run P w = .ok 0 w) (hx2:(Builtin.firstCells ti.size 0 x).run P w = .ok #[] w):(Builtin.append_ #[t,t2] ty #[.slice none 0 0,x]).run P w = .ok (.slice none 0 0) w:=by
 rcases hd2 with rfl | ⟨e2,rfl⟩
 ·simp [Builtin.append_,run_underlying ht,run_underlying ht2,sizeOf,typeInfo,hi,hx1,hx2]
 ·simp [Builtin.append_,run_underlying ht,run_underlying ht2,sizeOf,typeInfo,hi,hx1,hx2]
theorem rp_append {S:Nat→Prop} {t t2 ty e:TypeId} {ti:TypeInfo} {zv:Value} {z bytes:Nat} (ht:P.underlying t=some (.slice e)) (hi:P.info? e=some ti) (hz:ti.zero=some zv) (hsz:ti.size=z) (hby:ti.bytes=bytes) (hzs:zv.cells.size=z) (_hz0:0 < z)
  {d2:TypeDesc} (ht2:P.underlying t2=some d2) (hd2:d2 = .string∨∃ e2,d2 = .slice e2) (hSlt:∀ b,S b→b < w.heap.size) {v x:Value} {rows news:List (List G)} (hu:Rp S w (.sl true z v rows)) (hn:∀ r∈news,r.length=z) (hR:∀ r∈news,∀ t∈r,Rp S w t)
  (hS:∀ q,0 < hb q v→¬ S q) (hd:∀ q,0 < hb q v→cntLL q rows=0∧cntLL q news=0) (hx1:∀ w,(Builtin.lenOf x).run P w = .ok news.length w) (hx2:∀ w':World,w'.heap=w.heap→(Builtin.firstCells z news.length x).run P w' = .ok (hds news).toArray w')
  (hl:rows.length + news.length≤4294967296) (hby2:(rows.length + news.length) * bytes≤140737488355328) :
  ∃ v' w',(Builtin.append_ #[t,t2] ty #[v,x]).run P w = .ok v' w'∧Rp S w' (.sl true z v' (rows++news))∧Step (fun b=>0 < hb b v) w w'∧∀ b,hb b v'≤hb b v∨(w.heap.size≤b∧hb b v'≤1):=by
 subst hsz
 subst hby
 have hnl:=hds_length hn
 have grow:∀ (q:Option Addr) (cap:Nat) (olds:List Value),v = .slice q rows.length cap→cap < rows.length + news.length→(∀ w':World,w'.heap=w.heap→(Builtin.firstCells ti.size rows.length v).run P w' = .ok olds.toArray w')→olds=hds rows→(∀ r∈rows,r.length=ti.size)→(∀ r∈rows,∀ t∈r,Rp S w t)→
   ∃ v' w',(Builtin.append_ #[t,t2] ty #[v,x]).run P w = .ok v' w'∧Rp S w' (.sl true ti.size v' (rows++news))∧Step (fun b=>0 < hb b v) w w'∧∀ b,hb b v'≤hb b v∨(w.heap.size≤b∧hb b v'≤1):=by
  intro q cap olds hv hc ho hol hrl hRr
  have hge:=grownCap_ge w (rows.length + news.length) cap e
  have hmx:=grownCap_le_maxLen w (rows.length + news.length) cap e (by simp only [maxLen]; omega)
  refine ⟨.slice (some ⟨w.heap.size,0,none⟩) (rows.length + news.length) (grownCap w (rows.length + news.length) cap e),
   w.drew.alloc (.cells (olds.toArray++(hds news).toArray++Builtin.zeroCells zv.cells (grownCap w (rows.length + news.length) cap e - (rows.length + news.length))) e),?_,?_,?_,?_⟩
  ·have ho':=ho w.drew rfl
   rw [hv] at ho'
   rw [hv]
   exact run_app_grow ht hi hz ht2 hd2 hc hl hby2 ho' hx1 (hx2 w.drew rfl)
  ·have hlen:rows.length + news.length=(rows++news).length:=by simp
   rw [hlen]
   refine .own (fz:=(0,0)) (heap_alloc_new w.drew _) (fun o _=>by omega) (by rw [← hlen]; exact hge) (by rw [← hlen]; exact hmx) ?_ ?_ ?_ ?_
   ·simp only [Array.size_append,List.size_toArray,size_zeroCells,hzs,hol,hds_length hrl,hnl,← Nat.add_mul,← hlen]
    congr 1
    omega
   ·intro r hr
    rcases List.mem_append.1 hr with h | h
    ·exact hrl r h
    ·exact hn r h
   ·simp only [Array.toList_append,hol]
    rw [hds_append,← hlen,Nat.add_mul,← hds_length hrl,← hnl,← List.length_append]
    exact List.take_left
   ·intro r hr t' ht'
    have hR':Rp S w t':=by
     rcases List.mem_append.1 hr with h | h
     ·exact hRr r h t' ht'
     ·exact hR r h t' ht'
    exact hR'.move (fun _ h=>h) (fun b hb=>RowKit.Below.heap_alloc w.drew _ b (hSlt b hb)) (fun b hb=>RowKit.Below.heap_alloc w.drew _ b (hR'.lt b hb))
  ·exact ⟨rfl,rfl,rfl,by simp,fun b hb _=>RowKit.Below.heap_alloc w.drew _ b hb⟩
  ·intro b
   by_cases e:w.heap.size=b
   ·exact .inr ⟨by omega,by simp [hb,e]⟩
   ·exact .inl (by simp [hb,e])
 cases hu with
 | @nil =>
  by_cases hn0:news=[]
  ·subst hn0
   refine ⟨.slice none 0 0,w,?_,?_,⟨rfl,rfl,rfl,Nat.le_refl _,fun _ _ _=>rfl⟩,fun b=>.inl (Nat.le_refl _)⟩
   ·exact run_app_none ht hi ht2 hd2 hx1 (hx2 w rfl)
   ·exact .nil
  ·have h0:0 < news.length:=List.length_pos_iff.2 hn0
   exact grow none 0 [] rfl (by simpa using h0) (fun w' _=>by simp [Builtin.firstCells]) rfl (fun r hr=>by cases hr) (fun r hr=>by cases hr)
 | @own _ q cap e' cur fz _ hg hfz hlc hmx hs0 hrl hd0 hcel =>
  have hbq:∀ b,hb b (.slice (some ⟨q,0,none⟩) rows.length cap)=if q=b then 1 else 0:=fun b=>rfl
  by_cases hroom:rows.length + news.length≤cap
  ·have hbound:(rows.length + news.length) * ti.size≤cur.size:=by rw [hs0]; exact Nat.mul_le_mul_right _ hroom
   rw [Nat.add_mul] at hbound
   have hrun:=run_storeCells_fz P q (rows.length * ti.size) e' fz (hds news) 0 cur w hg (by omega) (fun k hk=>hfz _ (by omega)) (fun u hu=>by
    obtain ⟨r,hr,t,ht,rfl⟩:=mem_hds hu
    exact (hR r hr t ht).one)
   simp only [Nat.add_zero] at hrun
   have hst:=setRow_step w q (cur.toList.take (rows.length * ti.size)++hds news++cur.toList.drop (rows.length * ti.size + (hds news).length)).toArray (D:=fun b=>0 < hb b (.slice (some ⟨q,0,none⟩) rows.length cap)) (by simp [hb])
   have hgn:=setRow_heap w q cur (cur.toList.take (rows.length * ti.size)++hds news++cur.toList.drop (rows.length * ti.size + (hds news).length)).toArray e' fz hg
   refine ⟨.slice (some ⟨q,0,none⟩) (rows.length + news.length) cap,_,?_,?_,hst,fun b=>.inl (Nat.le_refl _)⟩
   ·exact run_app_room ht hi ht2 hd2 hroom hx1 (hx2 w rfl) hrun
   ·have hlen:rows.length + news.length=(rows++news).length:=by simp
    have hsl:=seg_len cur.toList (rows.length * ti.size) (hds news) (by simp; omega)
    have hz1:=hd q (by simp [hb])
    rw [hlen]
    refine Rp.remade (w:=w) hgn (fun o ho=>hfz o (by rw [List.size_toArray,hsl] at ho; simpa using ho)) (by rw [← hlen]; exact hroom) hmx (by rw [List.size_toArray,hsl]; simpa using hs0) ?_ ?_ ?_ (fun b hb'=>?_) (fun b hb'=>?_)
    ·intro r hr
     rcases List.mem_append.1 hr with h | h
     ·exact hrl r h
     ·exact hn r h
    ·rw [hds_append,← hlen,Nat.add_mul,hd0,← hds_length hrl,← hnl,← List.length_append]
     exact List.take_left
    ·intro r hr t' ht'
     rcases List.mem_append.1 hr with h | h
     ·exact hcel r h t' ht'
     ·exact hR r h t' ht'
    ·have hne:b≠q:=fun e=>hS q (by simp [hb]) (e ▸ hb')
     exact setRow_other w q b _ hne
    ·have hne:b≠q:=fun e=>by subst e; rw [cntLL_append] at hb'; omega
     exact setRow_other w q b _ hne
  ·refine grow (some ⟨q,0,none⟩) cap (hds rows) rfl (by omega) (fun w' hw'=>?_) rfl hrl hcel
   refine run_firstCells_some (P:=P) w' ti.size rows.length ⟨q,0,none⟩ rows.length cap (hds rows) (hds_length hrl) (fun j u hj=>?_)
   rw [← hd0] at hj
   have:=take_get hj
   rw [add_none,Nat.zero_add]
   simp only [World.cell?,hw',hg]
   simpa using this
def gro:T→Value→G
 | .pv v,_=>.pv v
 | .sl o z _ rows,u=>.sl o z u (upLL rows)
 | .no _,u=>.no u
theorem gro_er (t:T) (u:Value):er (gro t u)=t:=by cases t <;> simp [gro,er,erLL_upLL]
theorem gro_ok {S:Nat→Prop} {t:T} {u:Value} (h:Rd S w t u):hdr (gro t u)=u∧Rp S w (gro t u)∧∀ b,cnt b (gro t u)=0:=by
 cases h with
 | pv h=>exact ⟨rfl,.pv h,fun b=>by simp [gro,cnt]⟩
 | @sl z cap a rows u h1 h2 h3 h4 h5 =>
  refine ⟨rfl,.ro ?_,fun b=>by simp [gro,cnt]⟩
  have:=gro_er (.sl false z () rows) (.slice a rows.length cap)
  simp only [gro] at this
  rw [this]
  exact .sl u h1 h2 h3 h4 h5
theorem gros_ok {S:Nat→Prop} {z cap:Nat} {A:Option Addr} {rows:List (List T)} (h:Rd S w (.sl false z () rows) (.slice A rows.length cap)) :
  ∃ news:List (List G),news.map (·.map er)=rows∧(∀ r∈news,r.length=z)∧(∀ r∈news,∀ t∈r,Rp S w t∧∀ b,cnt b t=0)∧∀ (k:Nat) (v:Value),(hds news)[k]?=some v→∃ ad,A=some ad∧S ad.block∧w.cell? (ad.add k)=some v:=by
 cases h with
 | sl u h1 h2 h3 h4 h5 =>
  refine ⟨rows.mapIdx fun i r=>r.mapIdx fun j t=>gro t (u i j),?_,?_,?_,?_⟩
  ·apply List.ext_getElem?
   intro i
   rw [List.getElem?_map,List.getElem?_mapIdx]
   cases hr:rows[i]? with
   | none=>rfl
   | some r =>
    simp only [Option.map_some,Option.some.injEq]
    apply List.ext_getElem?
    intro j
    rw [List.getElem?_map,List.getElem?_mapIdx]
    cases r[j]? with
    | none=>rfl
    | some t=>simp [gro_er]
  ·intro r hr
   obtain ⟨i,hi,rfl⟩:=List.mem_iff_getElem.1 hr
   rw [List.getElem_mapIdx]
   simpa using h3 _ (List.getElem_mem _)
  ·intro r hr t ht
   obtain ⟨i,hi,rfl⟩:=List.mem_iff_getElem.1 hr
   rw [List.getElem_mapIdx] at ht
   obtain ⟨j,hj,rfl⟩:=List.mem_iff_getElem.1 ht
   rw [List.getElem_mapIdx]
   have:=gro_ok (h5 i _ j _ (List.getElem?_eq_getElem (by simpa using hi)) (List.getElem?_eq_getElem (by simpa using hj)))
   exact ⟨this.2.1,this.2.2⟩
  ·intro k v hv
   obtain ⟨i,j,r,t,hi,hj,rfl,rfl⟩:=hds_inv (z:=z) (fun r hr=>by
    obtain ⟨i,hi,rfl⟩:=List.mem_iff_getElem.1 hr
    rw [List.getElem_mapIdx]
    simpa using h3 _ (List.getElem_mem _)) hv
   rw [List.getElem?_mapIdx] at hi
   cases hr:rows[i]? with
   | none=>simp [hr] at hi
   | some r0 =>
    simp [hr] at hi
    subst hi
    rw [List.getElem?_mapIdx] at hj
    cases ht:r0[j]? with
    | none=>simp [ht] at hj
    | some t0 =>
     simp [ht] at hj
     subst hj
     rw [(gro_ok (h5 i r0 j t0 hr ht)).1]
     exact h4 i r0 j t0 hr ht
theorem fc_ok {z m cap:Nat} {A:Option Addr} {news:List (List G)} (hm:news.length=m) (hz:∀ r∈news,r.length=z) (h:∀ (k:Nat) (v:Value),(hds news)[k]?=some v→∃ ad,A=some ad∧w.cell? (ad.add k)=some v) :
  ∀ w':World,w'.heap=w.heap→(Builtin.firstCells z news.length (.slice A m cap)).run P w' = .ok (hds news).toArray w':=by
 intro w' hw'
 cases A with
 | none =>
  have:hds news=[]:=by
   cases hh:hds news with
   | nil=>rfl
   | cons v vs=>obtain ⟨ad,e,_⟩:=h 0 v (by rw [hh]; rfl); cases e
  rw [this]
  simp [Builtin.firstCells]
 | some ad =>
  refine run_firstCells_some (P:=P) w' z news.length ad m cap (hds news) (hds_length hz) (fun k v hv=>?_)
  obtain ⟨ad',e,hc⟩:=h k v hv
  simp at e
  subst e
  simpa [World.cell?,hw'] using hc
theorem Sim.moreL:∀ {us:List G},Sim X n g st hand a w→(∀ t∈us,Rp X.S w t∧∀ b,cnt b t=0)→Sim X n g st (us++hand) a w
 | [],h,_=>h
 | u::us,h,hu=>(Sim.moreL h (fun t ht=>hu t (List.mem_cons_of_mem _ ht))).more (hu u (List.mem_cons_self ..)).1 (hu u (List.mem_cons_self ..)).2
theorem goneC_hdr (t:G):hdr (goneC t)=hdr t:=by cases t with
 | sl o z h rows=>cases o <;> rfl
 | _=>rfl
theorem goneC_er (t:G):er (goneC t)=goneC (er t):=by cases t with
 | sl o z h rows=>cases o <;> simp [goneC,er]
 | _=>rfl
theorem goneC_cnt (b:Nat) (t:G):cnt b (goneC t)=0:=by cases t with
 | sl o z h rows=>cases o <;> simp [goneC,cnt]
 | _=>simp [goneC,cnt]
theorem goneC_rp {S:Nat→Prop} {t:G} (h:Rp S w t):Rp S w (goneC t):=by
 have:=h.one
 cases t with
 | sl o z hv rows=>cases o with
  | true=>exact .no this
  | false=>exact h
 | _=>exact h
theorem goneRows_get {τ:Type} (rs:List (List (Tr τ))) (off len:Nat) (hl:off + len≤rs.length) (i:Nat):(goneRows rs off len)[i]?=if off≤i∧i < off + len then (rs[i]?).map (·.map goneC) else rs[i]?:=by
 have hlen:(((rs.drop off).take len).map fun r=>r.map goneC).length=len:=by simp; omega
 unfold goneRows
 split
 ·rename_i h
  rw [List.append_assoc,List.getElem?_append_right (by simp; omega),List.getElem?_append_left (by rw [hlen]; simp; omega)]
  rw [List.getElem?_map,List.getElem?_take,if_pos (by simp; omega),List.getElem?_drop]
  congr 2
  simp
  omega
 ·rename_i h
  by_cases h1:i < off
  ·rw [List.append_assoc,List.getElem?_append_left (by simp; omega),List.getElem?_take,if_pos h1]
  ·rw [List.getElem?_append_right (by rw [List.length_append,hlen]; simp; omega),List.getElem?_drop]
   congr 1
   rw [List.length_append,hlen]
   simp
   omega
theorem goneRows_len {τ:Type} (rs:List (List (Tr τ))) (off len:Nat) (hl:off + len≤rs.length):(goneRows rs off len).length=rs.length:=by simp [goneRows]; omega
theorem hds_gone (rs:List (List G)) (off len:Nat):hds (goneRows rs off len)=hds rs:=by
 have e:hds (((rs.drop off).take len).map fun r=>r.map goneC)=hds ((rs.drop off).take len):=by
  simp only [hds,List.flatMap_map,List.map_map]
  congr 1
  funext r
  apply List.map_congr_left
  intro t _
  exact goneC_hdr t
 unfold goneRows
 rw [hds_append,hds_append,e,← hds_append,← hds_append,List.append_assoc,← List.drop_drop,List.take_append_drop,List.take_append_drop]
theorem cnt_gone (b:Nat) (rs:List (List G)) (off len:Nat):cntLL b (goneRows rs off len) + cntLL b ((rs.drop off).take len)=cntLL b rs:=by
 have z:cntLL b (((rs.drop off).take len).map fun r=>r.map goneC)=0:=by
  generalize (rs.drop off).take len=l
  induction l with
  | nil=>rfl
  | cons r l ih =>
   simp only [List.map_cons,cntLL,ih]
   have:∀ r:List G,cntL b (r.map goneC)=0:=fun r=>by
    induction r with
    | nil=>rfl
    | cons t r ih=>simp [cntL,ih,goneC_cnt]
   rw [this]
 have a1:=cntLL_take_drop b rs off
 have a2:=cntLL_take_drop b (rs.drop off) len
 rw [List.drop_drop] at a2
 unfold goneRows
 rw [cntLL_append,cntLL_append,z]
 omega
theorem goneRows_er (rs:List (List G)) (off len:Nat):(goneRows rs off len).map (·.map er)=goneRows (rs.map (·.map er)) off len:=by
 have e:∀ l:List (List G),(l.map fun r=>r.map goneC).map (·.map er)=(l.map (·.map er)).map fun r=>r.map goneC:=by
  intro l
  rw [List.map_map,List.map_map]
  apply List.map_congr_left
  intro r _
  simp only [Function.comp,List.map_map]
  apply List.map_congr_left
  intro t _
  exact goneC_er t
 simp only [goneRows,List.map_append,e,List.map_take,List.map_drop]
theorem keeps_rows {r c z off len:Nat} {p:List (Nat×Nat)} {gs:List G} {t:G} {hv:Value} {rs:List (List G)} (hg:g.gr r=some gs) (ht:gs[c]?=some t) (hm:atP t p=some (.sl true z hv rs)) (hl:off + len≤rs.length) :
  Keeps Never g (g.setR r (gs.set c (setP t p (.sl true z hv (goneRows rs off len))))):=by
 have h:=keeps_setP (u:=.sl true z hv (goneRows rs off len)) hg ht hm rfl rfl
 refine ⟨h.b,h.r,fun r' c' q m' _ hr' hn hh'=>?_⟩
 by_cases e:Below' r c p r' c' q
 ·obtain ⟨rfl,rfl,s,rfl,hs⟩:=e
  have hc:=(List.getElem?_eq_some_iff.1 ht).1
  have n1:nodeAt (g.setR r' (gs.set c' (setP t p (.sl true z hv (goneRows rs off len))))) r' c' p=some (.sl true z hv (goneRows rs off len)):=by
   simp only [nodeAt,setR_same,Option.bind_some,List.getElem?_set_self hc]
   exact atP_setP_self p hm
  have n0:nodeAt g r' c' p=some (.sl true z hv rs):=by simp [nodeAt,hg,ht,hm]
  rw [nodeAt_append n1] at hn
  rw [nodeAt_append n0]
  cases s with
  | nil=>exact absurd rfl hs
  | cons x s =>
   obtain ⟨i,j⟩:=x
   simp only [atP,Tr.own,cond_true,cellAt,Tr.rows,goneRows_get rs off len hl] at hn ⊢
   split at hn
   ·cases hr:rs[i]? with
    | none=>simp [hr] at hn
    | some row =>
     simp only [hr,Option.map_some,Option.bind_some,List.getElem?_map] at hn ⊢
     cases hj:row[j]? with
     | none=>simp [hj] at hn
     | some t0 =>
      simp only [hj,Option.map_some,Option.bind_some] at hn ⊢
      cases t0 with
      | pv v=>exact ⟨m',hn,hh',rfl⟩
      | no v=>exact ⟨m',hn,hh',rfl⟩
      | sl o z0 h0 rows0 =>
       cases o with
       | false=>exact ⟨m',hn,hh',rfl⟩
       | true =>
        simp only [goneC] at hn
        cases s with
        | nil=>simp [atP] at hn; subst hn; exact ⟨_,rfl,rfl,rfl⟩
        | cons y s=>simp [atP,Tr.own] at hn
   ·exact ⟨m',hn,hh',rfl⟩
 ·exact h.h r' c' q m' e hr' hn hh'
theorem rf_cells {S:Nat→Prop} {z off len:Nat} {hv v:Value} {rs:List (List G)} (h:Rp S w (.sl true z hv rs)) (hf:RfOK hv z off len v) (hl:off + len≤rs.length) :
  ∃ A cap,v = .slice A len cap∧∀ (k:Nat) (u:Value),(hds ((rs.drop off).take len))[k]?=some u→∃ ad,A=some ad∧w.cell? (ad.add k)=some u:=by
 obtain ⟨hA,hn,hc,a',rfl,rfl,hle,h0,hlt⟩:=hf
 refine ⟨a',_,rfl,fun k u hu=>?_⟩
 cases h with
 | nil =>
  have:len=0:=by simp at hl; omega
  subst this
  simp [hds] at hu
 | @own _ q cap e cur fz _ hg hz hl2 hm hs hr hd hR =>
  obtain ⟨i,j,row,t,hi,hj,rfl,rfl⟩:=hds_inv (fun r hr'=>hr r (List.mem_of_mem_drop (List.mem_of_mem_take hr'))) hu
  rw [List.getElem?_take] at hi
  split at hi
  ·rename_i hil
   rw [List.getElem?_drop] at hi
   obtain ⟨q',hq,rfl⟩:=hlt (by omega)
   simp at hq
   subst hq
   refine ⟨_,rfl,?_⟩
   have e:=hds_get (off + i) j row t hr hi hj
   rw [← hd] at e
   have e:=take_get e
   rw [add_none,cell_at hg]
   rw [Nat.add_mul,Nat.add_assoc] at e
   simpa using e
  ·cases hi
theorem src_ok {z:Nat} {v:SV} {x:Value} {k:List (List T)→Prg α} {R:α→St→Prop} (h:Sim X n g st [] a w) (hv:SlotOK X.S g w v x) (hp:runP Te (srcP z v k) st R) :
  ∃ g' st' news,Sim X n g' st' news.flatten a w∧Keeps Never g g'∧(∀ r∈news,r.length=z)∧(∀ w,(Builtin.lenOf x).run P w = .ok news.length w)∧(∀ w':World,w'.heap=w.heap→(Builtin.firstCells z news.length x).run P w' = .ok (hds news).toArray w')∧
   runP Te (k (news.map (·.map er))) st' R∧st'.s=st.s∧st'.b=st.b:=by
 unfold srcP at hp
 split at hp
 ·simp only [SlotOK,CelOK] at hv
  subst hv
  simp only [runP] at hp
  exact ⟨g,st,[],h,Keeps.refl _ _,(fun r hr=>by cases hr),(fun w=>by simp [Builtin.lenOf]),(fun w' _=>by simp [Builtin.firstCells,hds]),by simpa using hp.2,rfl,rfl⟩
 ·rename_i z' rs
  simp only [SlotOK,CelOK] at hv
  simp only [runP,beq_iff_eq] at hp
  obtain ⟨rfl,hp⟩:=hp
  obtain ⟨A,cap,u,rfl,hc1,_⟩:=hv.inv
  obtain ⟨news,e1,e2,e3,e4⟩:=gros_ok hv
  have hm:news.length=rs.length:=by rw [← e1]; simp
  refine ⟨g,st,news,?_,Keeps.refl _ _,e2,(fun w=>by simp [Builtin.lenOf,hm]),fc_ok hm e2 (fun k v hk=>by obtain ⟨ad,h1,_,h2⟩:=e4 k v hk; exact ⟨ad,h1,h2⟩),by rw [e1]; exact hp,rfl,rfl⟩
  have:=h.moreL (us:=news.flatten) (fun t ht=>by
   obtain ⟨r,hr,ht⟩:=List.mem_flatten.1 ht
   exact e3 r hr t ht)
  simpa using this
 ·rename_i r c p z' off len
  simp only [SlotOK] at hv
  obtain ⟨_,hrr,hf⟩:=hv
  simp only [runP] at hp
  cases hr:get st.r r with
  | none=>simp [hr] at hp
  | some cs =>
   simp only [hr,node] at hp
   split at hp
   ·rename_i z2 hh rows hn
    simp only [runP,beq_iff_eq,Bool.and_eq_true,decide_eq_true_eq] at hp
    obtain ⟨rfl,⟨rfl,hl⟩,hp⟩:=hp
    obtain ⟨gs,t0,hvv,rs,hg,rfl,ht0,hm0,rfl,hna,hR,hRm⟩:=h.node hr hn
    have hl':off + len≤rs.length:=by simpa using hl
    have hRf:=hf _ hna rfl
    obtain ⟨A,cap,e0,hcell⟩:=rf_cells hRm hRf hl'
    have hsub:((rs.map (·.map er)).drop off).take len=((rs.drop off).take len).map (·.map er):=by rw [← List.map_drop,← List.map_take]
    have hm:((rs.drop off).take len).length=len:=by simp; omega
    have hrl:∀ r∈rs,r.length=z2:=by
     cases hRm with
     | nil=>intro r hr; cases hr
     | own _ _ _ _ _ h5 _ _=>exact h5
    have hzr:∀ r∈(rs.drop off).take len,r.length=z2:=fun r hr=>hrl r (List.mem_of_mem_drop (List.mem_of_mem_take hr))
    have hl1:∀ w,(Builtin.lenOf x).run P w = .ok ((rs.drop off).take len).length w:=fun w=>by rw [e0,hm]; simp [Builtin.lenOf]
    have hf1:∀ w':World,w'.heap=w.heap→(Builtin.firstCells z2 ((rs.drop off).take len).length x).run P w' = .ok (hds ((rs.drop off).take len)).toArray w':=by
     rw [e0]
     exact fc_ok hm hzr hcell
    rw [hsub] at hp
    have hcr:∀ r∈(rs.drop off).take len,∀ t∈r,Rp X.S w t:=fun r hr t ht=>hRm.cells r (List.mem_of_mem_drop (List.mem_of_mem_take hr)) t ht
    cases hfl:flat (((rs.drop off).take len).map (·.map er)) with
    | true =>
     simp only [hfl,cond_true] at hp
     refine ⟨g,st,(rs.drop off).take len,?_,Keeps.refl _ _,hzr,hl1,hf1,hp,rfl,rfl⟩
     have fl:∀ l:List (List G),flat (l.map (·.map er))=true→∀ r∈l,∀ t∈r,∀ b,cnt b t=0:=by
      intro l
      induction l with
      | nil=>intro _ r hr; cases hr
      | cons r l ih =>
       intro hh r' hr' t ht b
       simp only [List.map_cons,flat,Bool.and_eq_true] at hh
       rcases List.mem_cons.1 hr' with rfl | hr'
       ·have:=List.all_eq_true.1 hh.1 (er t) (List.mem_map.2 ⟨t,ht,rfl⟩)
        cases t <;> simp [er,isPv] at this
        simp [cnt]
       ·exact ih hh.2 r' hr' t ht b
     have:=h.moreL (us:=((rs.drop off).take len).flatten) (fun t ht=>by
      obtain ⟨r,hr,ht⟩:=List.mem_flatten.1 ht
      exact ⟨hcr r hr t ht,fl _ hfl r hr t ht⟩)
     simpa using this
    | false =>
     simp only [hfl,cond_false,runP,hr] at hp
     have eq:(gs.set c (setP t0 p (.sl true z2 hvv (goneRows rs off len)))).map er=putAt (gs.map er) c p (.sl true z2 () (goneRows (rs.map (·.map er)) off len)):=by
      rw [map_set_er,er_setP]
      simp [putAt,List.getElem?_map,ht0,er,erLL_eq,← goneRows_er]
     rw [← eq] at hp
     have hk:=keeps_rows (off:=off) (len:=len) hg ht0 hm0 hl'
     have hRn:Rp X.S w (.sl true z2 hvv (goneRows rs off len)):=by
      cases hRm with
      | nil =>
       have e:goneRows ([]:List (List G)) off len=[]:=by simp [goneRows]
       rw [e]; exact .nil
      | @own _ q cap e cur fz _ g1 g2 g3 g4 g5 g6 g7 g8 =>
       have elen:=goneRows_len rs off len hl'
       have key:=Rp.own (S:=X.S) (z:=z2) (rows:=goneRows rs off len) g1 g2 (by rw [elen]; exact g3) g4 g5 (fun r hr=>by
        obtain ⟨i,hi,rfl⟩:=List.mem_iff_getElem.1 hr
        have:=goneRows_get rs off len hl' i
        rw [List.getElem?_eq_getElem hi] at this
        split at this
        ·cases hri:rs[i]? with
         | none=>simp [hri] at this
         | some row=>simp [hri] at this; rw [this]; simpa using g6 row (List.mem_of_getElem? hri)
        ·exact g6 _ (List.mem_of_getElem? this.symm)) (by rw [elen,hds_gone]; exact g7) (fun r hr t ht=>by
        obtain ⟨i,hi,rfl⟩:=List.mem_iff_getElem.1 hr
        have:=goneRows_get rs off len hl' i
        rw [List.getElem?_eq_getElem hi] at this
        split at this
        ·cases hri:rs[i]? with
         | none=>simp [hri] at this
         | some row =>
          simp [hri] at this
          rw [this] at ht
          obtain ⟨t',ht',rfl⟩:=List.mem_map.1 ht
          exact goneC_rp (g8 row (List.mem_of_getElem? hri) t' ht')
        ·exact g8 _ (List.mem_of_getElem? this.symm) t ht)
       rw [elen] at key
       exact key
     refine ⟨_,_,(rs.drop off).take len,h.reroot (hand':=((rs.drop off).take len).flatten) r _ hk ?_ ?_ ?_ (fun old ho=>by
      rw [hg] at ho
      simp at ho
      subst ho
      exact map_hdr_set ht0 (hdr_setP p hm0 rfl)),hk,hzr,hl1,hf1,hp,rfl,rfl⟩
     ·intro y hy
      rcases List.mem_or_eq_of_mem_set hy with hy | rfl
      ·exact h.reps r gs hg y hy
      ·exact hR.setP (fun _ h=>h) (fun _ _=>rfl) p hm0 hRn rfl (fun _ _=>rfl)
     ·intro y hy
      obtain ⟨r,hr,ht⟩:=List.mem_flatten.1 hy
      exact hcr r hr y ht
     ·intro b
      have a1:=cntL_set b gs c t0 (setP t0 p (.sl true z2 hvv (goneRows rs off len))) ht0
      have a2:=cnt_setP b p (u:=.sl true z2 hvv (goneRows rs off len)) hm0
      have a3:=cnt_gone b rs off len
      rw [cntL_flatten]
      simp only [cnt,hg,rcnt,cntL] at a2 ⊢
      omega
   ·exact hp.elim
 ·exact hp.elim
theorem Step.weaken {D D':Nat→Prop} {w w':World} (h:Step D w w') (hd:∀ b,D b→D' b):Step D' w w':=⟨h.os,h.tape,h.output,h.size,fun b hb hn=>h.block b hb (fun hD=>hn (hd b hD))⟩
theorem app_ok {t t2 e:TypeId} {ti:TypeInfo} {zv:Value} {z bytes d:Nat} {c:Call} {x y:Operand} (ho:o.op = .call c) (hc:c.callee = .builtin .append) (ha:c.args = #[x,y]) (hat:c.argTypes = #[t,t2])
  (ht:P.underlying t=some (.slice e)) (hi:P.info? e=some ti) (hz:ti.zero=some zv) (hsz:ti.size=z) (hby:ti.bytes=bytes) (hzs:zv.cells.size=z) (hz0:0 < z) {d2:TypeDesc} (ht2:P.underlying t2=some d2) (hd2:d2 = .string∨∃ e2,d2 = .slice e2)
  {v:SV} {news:List (List G)} (h:Sim X n g st news.flatten a w) (hv:SlotOK X.S g w v (a.eval x)) (hdst:o.dst=some d) (hdn:d < n) (hnz:∀ r∈news,r.length=z)
  (hx1:∀ w,(Builtin.lenOf (a.eval y)).run P w = .ok news.length w) (hx2:∀ w':World,w'.heap=w.heap→(Builtin.firstCells z news.length (a.eval y)).run P w' = .ok (hds news).toArray w')
  (hp:runP Te (appP d z bytes v (news.map (·.map er))) st (fun _ st'=>K st')):o.wp P a w (Goal X n K) Q:=by
 have main:∀ {g':Gh} {st':St} {u:Value} {rows:List (List G)},a.eval x=u→Sim X n g' st' (.sl true z u rows::news.flatten) a w→rows.length + news.length≤4294967296→(rows.length + news.length) * bytes≤140737488355328→
   runP Te (newSl d z ((rows++news).map (·.map er))) st' (fun _ st'=>K st')→o.wp P a w (Goal X n K) Q:=by
  intro g' st' u rows eu hs hl hb2 hp
  have hS:∀ q,0 < hb q u→¬ X.S q:=fun q hq=>(hs.mine q 0 (by simp only [cntL,cnt]; omega)).1
  obtain ⟨v',w',hr,hR,hst,hfr⟩:=rp_append (P:=P) (w:=w) (S:=X.S) (ty:=o.type) ht hi hz hsz hby hzs hz0 ht2 hd2 (fun b hb=>Nat.lt_of_lt_of_le (X.stay b hb).1 hs.frame.size) (v:=u) (x:=a.eval y) (rows:=rows) (news:=news)
   (hs.held _ (List.mem_cons_self ..)) hnz (fun r hr t ht=>hs.held t (List.mem_cons_of_mem _ (List.mem_flatten.2 ⟨r,hr,ht⟩))) hS
   (fun q hq=>by
    have:=hs.sole.one q 0
    simp only [cntL,cnt,cntL_flatten] at this
    omega) hx1 hx2 hl hb2
  have lo:∀ b,0 < cntL b (.sl true z u rows::news.flatten)→b < w.heap.size:=fun b hb=>hs.lt b 0 (by omega)
  have h2:Sim X n g' st' ([.sl true z v' (rows++news)]++[]) a w':=Sim.world (us:=.sl true z u rows::news.flatten) (hand:=[]) (by simpa using hs) (hst.weaken (fun b hb=>by simp only [cntL,cnt]; omega)) (fun t ht=>by simp at ht; subst ht; exact hR) (fun b=>by
   simp only [cntL,cnt,cntL_flatten,cntLL_append] at lo ⊢
   rcases hfr b with h1 | ⟨h1,h2⟩
   ·left; omega
   ·right
    have:=fun h0=>lo b h0
    refine ⟨h1,?_⟩
    omega)
  have hg:=newSl_ok (by simpa using h2) hdn rfl hp
  refine step_value (v:=v') (w':=w') ?_ (by rw [hdst]; exact hg)
  simp only [execOp,ho,resolve,hc,ha,hat,Sem.run_bind,Sem.run_pure,Result.andThen_ok,invoke,builtin,List.map_toArray,List.map_cons,List.map_nil,eu,hr]
 simp only [appP,runP] at hp
 obtain ⟨_,hp⟩:=hp
 split at hp
 ·simp only [SlotOK,CelOK] at hv
  simp only [runP,Bool.and_eq_true,beq_iff_eq,decide_eq_true_eq,List.length_map] at hp
  obtain ⟨⟨⟨rfl,h1⟩,h2⟩,hp⟩:=hp
  exact main (rows:=[]) hv (h.more (u:=.sl true _ (.slice none 0 0) []) .nil (fun b=>by simp [cnt,hb,cntLL])) (by simpa using h2) (by simpa using h1) (by simpa using hp)
 ·rename_i r c0 p z' off len
  simp only [SlotOK] at hv
  simp only [runP] at hp
  cases hr:get st.r r with
  | none=>simp [hr] at hp
  | some cs =>
   simp only [hr,node] at hp
   split at hp
   ·rename_i z2 hh rows hn
    simp only [runP,beq_iff_eq,Bool.and_eq_true,decide_eq_true_eq,List.length_map,hr] at hp
    obtain ⟨rfl,⟨⟨⟨⟨rfl,rfl⟩,h1⟩,h2⟩,h3⟩,hp⟩:=hp
    obtain ⟨g',u,k1,_,k3,k4,_⟩:=h.take hr hn h1 hv
    cases u with
    | pv=>simp [er] at k4
    | no=>simp [er] at k4
    | sl o' z3 hv' rs =>
     simp only [er,erLL_eq,Tr.sl.injEq,true_and] at k4
     obtain ⟨rfl,rfl,k4⟩:=k4
     simp only [hdr] at k3
     have kl:rs.length=len:=by
      have:=congrArg List.length k4
      simp at this
      omega
     refine main (rows:=rs) k3.symm k1 (by omega) (by rw [kl]; exact h2) ?_
     rw [List.map_append,k4]
     exact hp
   ·exact hp.elim
 ·exact hp.elim
theorem do_app {t t2 e e2:TypeId} {ti:TypeInfo} {zv:Value} {z bytes d:Nat} {c:Call} {x y:Operand} {x' y':Opd} (h:Sim X n g st [] a w) (ho:o.op = .call c) (hc:c.callee = .builtin .append) (ha:c.args = #[x,y]) (hat:c.argTypes = #[t,t2])
  (ht:P.underlying t=some (.slice e)) (hi:P.info? e=some ti) (hz:ti.zero=some zv) (hsz:ti.size=z) (hby:ti.bytes=bytes) (hzs:zv.cells.size=z) (hz0:0 < z) (ht2:P.underlying t2=some (.slice e2))
  (hx:opdOk x x'=true) (hy:opdOk y y'=true) (hdst:o.dst=some d) (hdn:d < n)
  (hp:runP Te ((COp.app z bytes x' y').prg o.dst d) st (fun _ st'=>K st')):o.wp P a w (Goal X n K) Q:=by
 replace hp:=ev_ok h hx hp
 obtain ⟨v,hv,hp⟩:=hp
 replace hp:=ev_ok h hy hp
 obtain ⟨v1,hv1,hp⟩:=hp
 replace hp:=src_ok (P:=P) h hv1 hp
 obtain ⟨g',st',news,h1,k1,h2,h3,h4,hp,_,_⟩:=hp
 exact app_ok ho hc ha hat ht hi hz hsz hby hzs hz0 ht2 (.inr ⟨e2,rfl⟩) h1 (SlotOK.keep k1 (fun _ _=>rfl) v _ (never_slot v) (fun _ _ _ _ _ h=>h) hv) hdst hdn h2 h3 h4 hp
theorem bytes_news (s:ByteArray):∃ news:List (List G),news.map (·.map er)=ofBytes s.data.toList∧news.length=s.size∧(∀ r∈news,r.length=1)∧(∀ r∈news,∀ t∈r,(∀ (S:Nat→Prop) (w:World),Rp S w t)∧∀ b,cnt b t=0)∧hds news=s.data.toList.map fun b=>Value.int .u8 b.toNat:=by
 refine ⟨s.data.toList.map fun b=>[.pv (.int .u8 b.toNat)],?_,?_,?_,?_,?_⟩
 ·simp [ofBytes,byteT,er]
 ·rw [List.length_map,Array.length_toList]; rfl
 ·intro r hr; obtain ⟨b,_,rfl⟩:=List.mem_map.1 hr; rfl
 ·intro r hr t ht
  obtain ⟨b,_,rfl⟩:=List.mem_map.1 hr
  simp at ht
  subst ht
  exact ⟨fun S w=>.pv rfl,fun b=>by simp [cnt]⟩
 ·simp only [hds,List.flatMap_map,hdr,List.map_cons,List.map_nil]
  induction s.data.toList with
  | nil=>rfl
  | cons b l ih=>simp [ih]
theorem do_apps {t t2 e:TypeId} {ti:TypeInfo} {zv:Value} {z bytes d:Nat} {c:Call} {x y:Operand} {x' y':Opd} (h:Sim X n g st [] a w) (ho:o.op = .call c) (hc:c.callee = .builtin .append) (ha:c.args = #[x,y]) (hat:c.argTypes = #[t,t2])
  (ht:P.underlying t=some (.slice e)) (hi:P.info? e=some ti) (hz:ti.zero=some zv) (hsz:ti.size=z) (hby:ti.bytes=bytes) (hzs:zv.cells.size=z) (hz0:0 < z) (ht2:P.underlying t2=some .string)
  (hx:opdOk x x'=true) (hy:opdOk y y'=true) (hdst:o.dst=some d) (hdn:d < n)
  (hp:runP Te ((COp.apps z bytes x' y').prg o.dst d) st (fun _ st'=>K st')):o.wp P a w (Goal X n K) Q:=by
 replace hp:=ev_ok h hx hp
 obtain ⟨v,hv,hp⟩:=hp
 replace hp:=ev_ok h hy hp
 obtain ⟨v1,hv1,hp⟩:=hp
 split at hp
 ·rename_i s
  have e1:=one_pv hv1
  simp only [runP,beq_iff_eq] at hp
  obtain ⟨rfl,hp⟩:=hp
  obtain ⟨news,n1,n2,n3,n4,n5⟩:=bytes_news s
  rw [← n1] at hp
  refine app_ok ho hc ha hat ht hi hz hsz hby hzs hz0 ht2 (.inl rfl) (news:=news) ?_ hv hdst hdn n3 (fun w=>by rw [e1,n2]; simp [Builtin.lenOf]) (fun w' _=>?_) hp
  ·have:=h.moreL (us:=news.flatten) (fun t ht=>by
    obtain ⟨r,hr,ht⟩:=List.mem_flatten.1 ht
    exact ⟨(n4 r hr t ht).1 _ _,(n4 r hr t ht).2⟩)
   simpa using this
  ·rw [e1,n2,n5]
   have hx:(s.extract 0 s.size).data=s.data:=by simp
   simp only [Builtin.firstCells,Sem.run_pure,hx]
   congr 1
   apply Array.ext'
   simp
 ·exact hp.elim
end
end Go.X

namespace Go.X
section
variable {P:Program} {X:Ctx} {n:Nat} {g:Gh} {st:St} {hand:List G} {a:Act} {w:World} {α:Type} {Te:Nat→List AV→Res→Prop} {o:Oper} {K:St→Prop} {Q:Exit→Act→World→Prop}
theorem newArr_ok {w1:World} {d z cap e:Nat} {cur:Array Value} {fz:Nat×Nat} {rs:List (List G)} {rows:List (List T)} (h:Sim X n g st rs.flatten a w) (hs:Step (fun _=>False) w w1) (hg:w1.heap[w.heap.size]?=some (.cells cur e fz)) (hfz:∀ o,o < cur.size→¬ (fz.1≤o∧o < fz.2))
  (hl:rs.length≤cap) (hm:cap≤maxLen) (hsz:cur.size=cap * z) (hz:∀ r∈rs,r.length=z) (hd0:cur.toList.take (rs.length * z)=hds rs) (hrun:(execOp a.eval o).run P w = .ok (.value (.slice (some ⟨w.heap.size,0,none⟩) rs.length cap)) w1)
  (hdst:o.dst=some d) (hdn:d < n) (he:rs.map (·.map er)=rows) (hp:runP Te (newSl d z rows) st (fun _ st'=>K st')):o.wp P a w (Goal X n K) Q:=by
 have lo:∀ b,0 < cntL b rs.flatten→b < w.heap.size:=fun b hb=>h.lt b 0 (by omega)
 have h1:Sim X n g st ([.sl true z (.slice (some ⟨w.heap.size,0,none⟩) rs.length cap) rs]++[]) a w1:=Sim.world (us:=rs.flatten) (hand:=[]) (by simpa using h) (hs.weaken (fun _ h=>h.elim)) (fun t ht=>by
   simp at ht
   subst ht
   refine .own hg hfz hl hm hsz hz hd0 (fun r hr t ht=>(h.held t (List.mem_flatten.2 ⟨r,hr,ht⟩)).move (fun _ h=>h) (fun b hb=>hs.block b (Nat.lt_of_lt_of_le (X.stay b hb).1 h.frame.size) id) (fun b hb=>hs.block b ((h.held t (List.mem_flatten.2 ⟨r,hr,ht⟩)).lt b hb) id)))
  (fun b=>by
   simp only [cntL,cnt,cntL_flatten] at lo ⊢
   by_cases e:w.heap.size=b
   ·right
    have:=fun h0=>lo b h0
    simp only [hb,e,if_true]
    omega
   ·left
    simp only [hb,e,if_false]
    omega)
 refine step_value hrun ?_
 rw [hdst]
 exact newSl_ok (by simpa using h1) hdn he hp
def constT:Value→T→Bool
 | .int k n,.pv (.int k' n')=>k==k'&&n==n'
 | .bool b,.pv (.bool b')=>b==b'
 | .string s,.pv (.string s')=>s.data.toList==s'.data.toList
 | .slice none 0 0,.sl true _ _ []=>true
 | _,_=>false
def constTs:List Value→List T→Bool
 | [],[]=>true
 | v::vs,c::cs=>constT v c&&constTs vs cs
 | _,_=>false
theorem constT_ok {v:Value} {c:T} (h:constT v c=true):∃ t:G,er t=c∧hdr t=v∧(∀ b,cnt b t=0)∧∀ (S:Nat→Prop) (w:World),Rp S w t:=by
 unfold constT at h
 split at h
 ·simp only [Bool.and_eq_true,beq_iff_eq] at h
  obtain ⟨rfl,rfl⟩:=h
  exact ⟨.pv _,rfl,rfl,fun b=>by simp [cnt],fun S w=>.pv rfl⟩
 ·simp only [beq_iff_eq] at h; subst h; exact ⟨.pv _,rfl,rfl,fun b=>by simp [cnt],fun S w=>.pv rfl⟩
 ·rename_i s s'
  have:s=s':=by
   have h:=eq_of_beq h
   cases s; cases s'; simp at h; simp [h]
  subst this
  exact ⟨.pv _,rfl,rfl,fun b=>by simp [cnt],fun S w=>.pv rfl⟩
 ·rename_i z u
  exact ⟨.sl true z (.slice none 0 0) [],by cases u; simp [er,erLL],rfl,fun b=>by simp [cnt,hb,cntLL],fun S w=>.nil⟩
 ·cases h
theorem constTs_ok:∀ {vs:List Value} {cs:List T},constTs vs cs=true→∃ ts:List G,ts.map er=cs∧ts.map hdr=vs∧∀ t∈ts,(∀ b,cnt b t=0)∧∀ (S:Nat→Prop) (w:World),Rp S w t
 | [],[],_=>⟨[],rfl,rfl,fun t h=>by cases h⟩
 | v::vs,c::cs,h=>by
  simp only [constTs,Bool.and_eq_true] at h
  obtain ⟨t,h1,h2,h3,h4⟩:=constT_ok h.1
  obtain ⟨ts,h5,h6,h7⟩:=constTs_ok h.2
  exact ⟨t::ts,by simp [h1,h5],by simp [h2,h6],fun t' ht=>by
   rcases List.mem_cons.1 ht with rfl | ht
   ·exact ⟨h3,h4⟩
   ·exact h7 t' ht⟩
 | [],_::_,h=>by simp [constTs] at h
 | _::_,[],h=>by simp [constTs] at h
theorem made_list (z:Array Value) (hz:0 < z.size) (k:Nat):(madeCells z (k * z.size)).toList=(List.replicate k z.toList).flatten:=by
 apply List.ext_getElem?
 intro i
 have hlen:∀ k,((List.replicate k z.toList).flatten).length=k * z.size:=fun k=>by
  induction k with
  | zero=>simp
  | succ k ih=>rw [List.replicate_succ,List.flatten_cons,List.length_append,ih,Array.length_toList,Nat.add_mul]; omega
 by_cases hi:i < k * z.size
 ·have h1:(madeCells z (k * z.size)).toList[i]?=some z[i % z.size]!:=by
   simp [madeCells,hi]
  rw [h1]
  clear h1
  induction k generalizing i with
  | zero=>omega
  | succ k ih =>
   rw [List.replicate_succ,List.flatten_cons]
   have hmod:i % z.size < z.size:=Nat.mod_lt _ hz
   by_cases h0:i < z.size
   ·rw [List.getElem?_append_left (by simpa using h0),Nat.mod_eq_of_lt h0]
    simp [h0]
   ·rw [List.getElem?_append_right (by simp; omega),Array.length_toList]
    have:=ih (i - z.size) (by rw [Nat.add_mul] at hi; omega)
    rw [← this]
    congr 2
    rw [Nat.mod_eq_sub_mod (by omega)]
 ·rw [List.getElem?_eq_none (by rw [Array.length_toList,size_madeCells]; omega),List.getElem?_eq_none (by rw [hlen]; omega)]
theorem do_mks {t e:TypeId} {ti:TypeInfo} {zv:Value} {z bytes d:Nat} {zc:List T} {x:Operand} {x':Opd} (h:Sim X n g st [] a w) (ho:o.op = .makeSlice t x x) (ht:P.underlying t=some (.slice e)) (hi:P.info? e=some ti) (hz:ti.zero=some zv) (hsz:ti.size=z) (hby:ti.bytes=bytes) (hzs:zv.cells.size=z) (hz0:0 < z)
  (hzc:constTs zv.cells.toList zc=true) (hx:opdOk x x'=true) (hdst:o.dst=some d) (hdn:d < n) (hp:runP Te ((COp.mks z bytes zc x').prg o.dst d) st (fun _ st'=>K st')):o.wp P a w (Goal X n K) Q:=by
 subst hsz
 subst hby
 replace hp:=ev_ok h hx hp
 obtain ⟨v,hv,hp⟩:=hp
 replace hp:=nat_ok hv hp
 obtain ⟨kd,i,m,e1,h0,rfl,hp⟩:=hp
 simp only [runP,Bool.and_eq_true,decide_eq_true_eq] at hp
 obtain ⟨⟨hb,hm⟩,hp⟩:=hp
 obtain ⟨ts,t1,t2,t3⟩:=constTs_ok hzc
 have hi0:i=(i.toNat:Int):=by omega
 have hb':(ti.bytes:Int) * i≤281474976710656:=by
  rw [hi0]
  have:((i.toNat * ti.bytes:Nat):Int)≤281474976710656:=by omega
  rw [Int.natCast_mul] at this
  rwa [Int.mul_comm]
 have hr:=run_make (P:=P) w t e ti zv ht hi hz kd kd i i h0 (Int.le_refl _) hb' (by omega)
 have hsum:∀ k,hds (List.replicate k ts)=(List.replicate k zv.cells.toList).flatten:=fun k=>by
  induction k with
  | zero=>rfl
  | succ k ih=>rw [List.replicate_succ,hds_cons,ih,List.replicate_succ,List.flatten_cons,t2]
 have hrl:(List.replicate i.toNat ts).length=i.toNat:=by simp
 have htl:ts.length=ti.size:=by rw [← hzs,← Array.length_toList,← t2,List.length_map]
 refine newArr_ok (g:=g) (rs:=List.replicate i.toNat ts) (cap:=i.toNat) (z:=ti.size) (w1:=w.alloc (.cells (madeCells zv.cells (i.toNat * ti.size)) e)) (fz:=(0,0)) ?_ (alloc_step w _ _) (heap_alloc_new w _) (fun o _=>by omega) (by rw [hrl]; exact Nat.le_refl _) (by simp only [maxLen]; omega)
  (size_madeCells _ _) (fun r hr=>by rw [List.mem_replicate] at hr; rw [hr.2,htl]) ?_ ?_ hdst hdn ?_ hp
 ·have:=h.moreL (us:=(List.replicate i.toNat ts).flatten) (fun t ht=>by
   obtain ⟨r,hr,ht'⟩:=List.mem_flatten.1 ht
   rw [List.mem_replicate] at hr
   rw [hr.2] at ht'
   exact ⟨(t3 t ht').2 _ _,(t3 t ht').1⟩)
  simpa using this
 ·rw [hrl,hsum,← hzs,made_list _ (by omega)]
  apply List.take_of_length_le
  have:∀ k,((List.replicate k zv.cells.toList).flatten).length=k * zv.cells.size:=fun k=>by
   induction k with
   | zero=>simp
   | succ k ih=>rw [List.replicate_succ,List.flatten_cons,List.length_append,ih,Array.length_toList,Nat.add_mul]; omega
  rw [this]
  exact Nat.le_refl _
 ·rw [hrl]
  simp only [execOp,ho,e1,Sem.run_bind,hr,Result.andThen_ok]
  rfl
 ·rw [List.map_replicate,t1]
theorem do_s2b {src dst e d:Nat} {x:Operand} {x':Opd} {ti:TypeInfo} (h:Sim X n g st [] a w) (ho:o.op = .convert src dst x) (hs:P.underlying src=some .string) (ht:P.underlying dst=some (.slice e)) (he:P.underlying e=some (.int .u8)) (_hi:P.info? e=some ti)
  (hx:opdOk x x'=true) (hdst:o.dst=some d) (hdn:d < n) (hp:runP Te ((COp.conv .s2b x').prg o.dst d) st (fun _ st'=>K st')):o.wp P a w (Goal X n K) Q:=by
 replace hp:=ev_ok h hx hp
 obtain ⟨v,hv,hp⟩:=hp
 simp only at hp
 split at hp
 ·rename_i s
  have e1:=one_pv hv
  simp only [runP,decide_eq_true_eq] at hp
  obtain ⟨hl,hp⟩:=hp
  obtain ⟨news,n1,n2,n3,n4,n5⟩:=bytes_news s
  have hge:=grownCap_ge w s.size 0 e
  have hmx:=grownCap_le_maxLen w s.size 0 e (by simp only [maxLen]; omega)
  generalize hcap:grownCap w s.size 0 e=cap at hge hmx
  have hcs:((s.data.map fun b:UInt8=>Value.int IntKind.u8 (b.toNat:Int))++Array.replicate (cap - s.size) (Value.int IntKind.u8 0)).size=cap * 1:=by
   have:s.data.size=s.size:=rfl
   simp
   omega
  refine newArr_ok (g:=g) (rs:=news) (cap:=cap) (z:=1) (cur:=(s.data.map fun b:UInt8=>Value.int IntKind.u8 (b.toNat:Int))++Array.replicate (cap - s.size) (Value.int IntKind.u8 0)) (e:=e) (fz:=(cap,cap + 1))
   (w1:=(w.drew.alloc (.cells ((s.data.map fun b:UInt8=>Value.int IntKind.u8 (b.toNat:Int))++Array.replicate (cap - s.size) (Value.int IntKind.u8 0)) e)).freeze ⟨w.heap.size,cap,none⟩ 1) ?_ ?_ ?_ (fun o ho=>by rw [hcs] at ho; simp; omega) (by rw [n2]; exact hge) hmx hcs n3 ?_ ?_ hdst hdn n1 hp
  ·have:=h.moreL (us:=news.flatten) (fun t ht=>by
    obtain ⟨r,hr,ht⟩:=List.mem_flatten.1 ht
    exact ⟨(n4 r hr t ht).1 _ _,(n4 r hr t ht).2⟩)
   simpa using this
  ·refine ⟨rfl,rfl,rfl,?_,fun b hb _=>?_⟩
   ·simp [World.freeze]
   ·show (Array.modify _ _ _)[b]?=_
    rw [Array.getElem?_modify,if_neg (by show ¬ w.heap.size=b; omega)]
    exact RowKit.Below.heap_alloc w.drew _ b hb
  ·have:=heap_alloc_new w.drew (.cells ((s.data.map fun b:UInt8=>Value.int IntKind.u8 (b.toNat:Int))++Array.replicate (cap - s.size) (Value.int IntKind.u8 0)) e)
   simp only [World.size_drew] at this
   show (Array.modify _ _ _)[w.heap.size]?=_
   rw [Array.getElem?_modify,if_pos rfl,this]
   rfl
  ·rw [n2,n5]
   simp only [Array.toList_append,Array.toList_map,Nat.mul_one]
   apply List.take_left'
   rw [List.length_map,Array.length_toList]
   rfl
  ·rw [n2]
   subst hcap
   have hsh:(w.drew.alloc (.cells ((s.data.map fun b:UInt8=>Value.int IntKind.u8 (b.toNat:Int))++Array.replicate (grownCap w s.size 0 e - s.size) (Value.int IntKind.u8 0)) e)).shape? w.heap.size=some (e,grownCap w s.size 0 e):=by
    have:=heap_alloc_new w.drew (.cells ((s.data.map fun b:UInt8=>Value.int IntKind.u8 (b.toNat:Int))++Array.replicate (grownCap w s.size 0 e - s.size) (Value.int IntKind.u8 0)) e)
    simp only [World.size_drew] at this
    simp only [World.shape?,this]
    rw [hcs,Nat.mul_one]
   simp only [grownCap] at hsh ⊢
   simp [execOp,ho,e1,convert,run_underlying hs,run_underlying ht,run_underlying he,Conv.stringToBytes,Question.forced,newRow,markStringish,hsh]
 ·exact hp.elim
theorem bytes_nums {S:Nat→Prop}:∀ (rows:List (List T)),areBytes rows=true→∃ ns:List Int,rows=ns.map (fun m=>[Tr.pv (.int .u8 m)])∧bytesOf rows=ns.map fun m=>UInt8.ofNat m.toNat
 | [],_=>⟨[],rfl,rfl⟩
 | r::rs,h=>by
  simp only [areBytes,Bool.and_eq_true] at h
  obtain ⟨ns,e1,e2⟩:=bytes_nums (S:=S) rs h.2
  have h1:=h.1
  split at h1
  ·rename_i t
   cases t with
   | pv v =>
    unfold isByte at h1
    split at h1
    ·rename_i m hm
     have hm':v = .int .u8 m:=by cases hm; rfl
     subst hm'
     exact ⟨m::ns,by simp [e1],by simp only [bytesOf,List.map_cons,List.headD_cons,byteOf] at e2 ⊢; rw [e2]⟩
    ·cases h1
   | sl=>simp [isByte] at h1
   | no=>simp [isByte] at h1
  ·cases h1
theorem do_b2s {src dst e:Nat} {x:Operand} {x':Opd} (h:Sim X n g st [] a w) (ho:o.op = .convert src dst x) (hs:P.underlying src=some (.slice e)) (he:P.underlying e=some (.int .u8)) (ht:P.underlying dst=some .string)
  (hx:opdOk x x'=true) (hd:∀ k,o.dst=some k→k < n) (id:Nat) (hp:runP Te ((COp.conv .b2s x').prg o.dst id) st (fun _ st'=>K st')):o.wp P a w (Goal X n K) Q:=by
 replace hp:=ev_ok h hx hp
 obtain ⟨v,hv,hp⟩:=hp
 simp only at hp
 split at hp
 ·rename_i c
  simp only [SlotOK] at hv
  replace hp:=lend_ok h hv hp
  obtain ⟨t,hR,hp⟩:=hp
  split at hp
  ·rename_i o' z u0 rows
   simp only [runP,Bool.and_eq_true,beq_iff_eq] at hp
   obtain ⟨⟨rfl,hab⟩,hp⟩:=hp
   generalize (if isRf c then LendS X g else X.S)=S at hR
   refine step_value (v:=.string ⟨(bytesOf rows).toArray⟩) (w':=w) ?_ (fin_ok h hd (slot_pv _ _ _ rfl) hp)
   generalize hvx:a.eval x=vx at hR
   cases hR with
   | @sl _ cap A _ u h1 h2 h3 h4 h5 =>
    obtain ⟨ns,e1,e2⟩:=bytes_nums (S:=S) rows hab
    have hlen:rows.length=ns.length:=by rw [e1]; simp
    have hu:∀ k m,ns[k]?=some m→∃ ad,A=some ad∧w.cell? (ad.add k)=some (.int .u8 m):=fun k m hk=>by
     have hr:rows[k]?=some [Tr.pv (.int .u8 m)]:=by rw [e1,List.getElem?_map,hk]; rfl
     obtain ⟨ad,h6,_,h7⟩:=h4 k _ 0 _ hr rfl
     have h8:=h5 k _ 0 _ hr rfl
     cases hh:u k 0 <;> rw [hh] at h8 h7 <;> cases h8
     exact ⟨ad,h6,by simpa using h7⟩
    rw [e2]
    cases A with
    | none =>
     have:ns=[]:=by
      cases ns with
      | nil=>rfl
      | cons m ns=>obtain ⟨ad,e,_⟩:=hu 0 m rfl; cases e
     subst this
     simp only [execOp,ho,hvx,Sem.run_bind,run_convert_bytes_string w src dst e none rows.length cap hs he ht,Conv.bytesToString]
     rfl
    | some ad =>
     have hl:(loadCells ad rows.length).run P w = .ok (ns.map (Value.int .u8)).toArray w:=by
      have:=run_loadCells_list (P:=P) (w:=w) ad (ns.map (Value.int .u8)) (fun j v hj=>by
       rw [List.getElem?_map] at hj
       cases hk:ns[j]? with
       | none=>simp [hk] at hj
       | some m =>
        simp [hk] at hj
        subst hj
        obtain ⟨ad',e,hc⟩:=hu j m hk
        simp at e
        subst e
        exact hc)
      rw [hlen]
      simpa using this
     simp only [execOp,ho,hvx,Sem.run_bind,run_convert_bytes_string w src dst e (some ad) rows.length cap hs he ht,run_bytesToString w ad rows.length cap ns hl,Result.andThen_ok,foldl_push_bytes]
     simp [ByteArray.empty,ByteArray.emptyWithCapacity]
     rfl
  ·exact hp.elim
 ·exact hp.elim
end
end Go.X

namespace Go.X
section
variable {P:Program} {X:Ctx} {n:Nat} {g:Gh} {st:St} {hand:List G} {a:Act} {w:World} {α:Type} {Te:Nat→List AV→Res→Prop} {o:Oper} {K:St→Prop} {Q:Exit→Act→World→Prop}
theorem foldset (off:Nat):∀ (us:List Value) (k:Nat) (cs:Array Value),off + k + us.length≤cs.size→((us.zipIdx k).foldl (fun cs (x:Value×Nat)=>cs.setIfInBounds (off + x.2) x.1) cs).toList=cs.toList.take (off + k)++us++cs.toList.drop (off + k + us.length)
 | [],k,cs,_=>by simp
 | u::us,k,cs,h=>by
  simp only [List.zipIdx_cons,List.foldl_cons]
  rw [foldset off us (k + 1) _ (by simp at h ⊢; omega)]
  have e:=list_seg_step cs.toList (off + k) u us (by simp at h ⊢; omega)
  simpa [Array.toList_setIfInBounds,Nat.add_assoc] using e
theorem fill_step {place:Nat→Option (Nat×Nat)} {cells:Array Value} {i off:Nat} {v:Value} {rest:List (Nat×Value)} (hp:place i=some (off,v.cells.size)) (hl:off + v.cells.size≤cells.size) :
  Instr.fill place cells ((i,v)::rest)=Instr.fill place (cells.toList.take off++v.cells.toList++cells.toList.drop (off + v.cells.size)).toArray rest:=by
 simp only [Instr.fill,hp]
 rw [if_neg (by simp; omega)]
 congr 1
 apply Array.ext'
 have:=foldset off v.cells.toList 0 cells (by simpa using hl)
 simp only [Nat.add_zero,Array.length_toList] at this
 rw [← Array.foldl_toList,Array.toList_zipIdx]
 rw [List.toList_toArray]
 exact this
def opdsOk:List Operand→List Opd→Bool
 | [],[]=>true
 | x::xs,y::ys=>opdOk x y&&opdsOk xs ys
 | _,_=>false
theorem evL_ok {R:α→St→Prop}:∀ {xs:List Operand} {ys:List Opd} {k:List SV→Prg α},Sim X n g st hand a w→opdsOk xs ys=true→runP Te (evL ys k) st R→∃ vs,SlotsOK X.S g w vs (xs.map a.eval)∧runP Te (k vs) st R
 | [],[],k,_,_,hp=>⟨[],by simp [SlotsOK],hp⟩
 | x::xs,y::ys,k,h,ho,hp=>by
  simp only [opdsOk,Bool.and_eq_true] at ho
  obtain ⟨v,hv,hp1⟩:=ev_ok h ho.1 hp
  obtain ⟨vs,hvs,hp2⟩:=evL_ok h ho.2 hp1
  exact ⟨v::vs,by simp [SlotsOK,hv,hvs],hp2⟩
 | [],_::_,_,_,ho,_=>by simp [opdsOk] at ho
 | _::_,[],_,_,ho,_=>by simp [opdsOk] at ho
theorem takeRows_ok {R:α→St→Prop}:∀ {vs:List SV} {us:List Value} {k:List (List T)→Prg α} {g:Gh} {st:St} {hand:List G},Sim X n g st hand a w→SlotsOK X.S g w vs us→runP Te (takeRows vs k) st R→
  ∃ (g':Gh) (st':St) (rows:List (List G)),Sim X n g' st' (rows.flatten++hand) a w∧Keeps Never g g'∧rows.map (·.map hdr)=us.map (·.cells.toList)∧runP Te (k (rows.map (·.map er))) st' R
 | [],us,k,g,st,hand,h,hs,hp=>by
  cases us with
  | nil=>exact ⟨g,st,[],h,Keeps.refl _ _,rfl,hp⟩
  | cons=>simp [SlotsOK] at hs
 | v::vs,[],k,g,st,hand,h,hs,hp=>by simp [SlotsOK] at hs
 | v::vs,u::us,k,g,st,hand,h,hs,hp=>by
  simp only [SlotsOK] at hs
  simp only [takeRows] at hp
  obtain ⟨cs,ws,e0,hc,hp1⟩:=cels_ok hs.1 hp
  obtain ⟨g1,st1,ts,h1,k1,e1,hp2,_,_,_⟩:=takes_ok h hc hp1
  obtain ⟨g2,st2,rows,h2,k2,e2,hp3⟩:=takeRows_ok h1 (SlotsOK.keep k1 (fun _ _=>rfl) (fun _ _ _ h=>h) vs us hs.2) hp2
  refine ⟨g2,st2,ts::rows,h2.sub (fun t ht=>?_) (fun b=>?_),k1.trans k2,by simp [e1,e2,e0],hp3⟩
  ·simp only [List.flatten_cons,List.mem_append] at ht ⊢
   rcases ht with (h | h) | h
   ·exact .inr (.inl h)
   ·exact .inl h
   ·exact .inr (.inr h)
  ·simp only [List.flatten_cons,cntL_append]; omega
theorem fill_seq {z:Nat}:∀ (us:List Value) (k:Nat) (cells:Array Value),(∀ u∈us,u.cells.size=z)→cells.size=(k + us.length) * z→
  ∃ cells',Instr.fill (fun i=>some (i * z,z)) cells ((us.zipIdx k).map fun x=>(x.2,x.1))=some cells'∧cells'.toList=cells.toList.take (k * z)++us.flatMap (·.cells.toList)
 | [],k,cells,_,hs=>⟨cells,rfl,by
  rw [List.flatMap_nil,List.append_nil,List.take_of_length_le]
  simp at hs
  rw [Array.length_toList,hs]
  exact Nat.le_refl _⟩
 | u::us,k,cells,hz,hs=>by
  have hu:=hz u (List.mem_cons_self ..)
  have hs':cells.size=k * z + z + us.length * z:=by rw [hs,List.length_cons,Nat.add_mul,Nat.add_mul]; omega
  have hst:=fill_step (place:=fun i=>some (i * z,z)) (cells:=cells) (i:=k) (off:=k * z) (v:=u) (rest:=((us.zipIdx (k + 1)).map fun x=>(x.2,x.1))) (by simp [hu]) (by omega)
  have hl:((cells.toList.take (k * z)++u.cells.toList++cells.toList.drop (k * z + u.cells.size)).toArray).size=(k + 1 + us.length) * z:=by
   rw [Nat.add_mul,Nat.add_mul]
   simp
   omega
  obtain ⟨cells',h1,h2⟩:=fill_seq us (k + 1) _ (fun u hu=>hz u (List.mem_cons_of_mem _ hu)) hl
  refine ⟨cells',?_,?_⟩
  ·simp only [List.zipIdx_cons,List.map_cons]
   rw [hst]
   exact h1
  ·rw [h2]
   have e:(k + 1) * z=(cells.toList.take (k * z)++u.cells.toList).length:=by
    rw [Nat.add_mul]
    simp [hu]
    omega
   rw [e,List.take_left]
   simp
theorem hds_flat (rows:List (List G)):hds rows=(rows.map (·.map hdr)).flatten:=by simp [hds,List.flatMap]
theorem do_bslice {t e:TypeId} {ti:TypeInfo} {zv:Value} {z m d:Nat} {parts:Array (Nat×Operand)} {ys:List Opd} (h:Sim X n g st [] a w) (ho:o.op = .buildSlice t m parts) (ht:P.underlying t=some (.slice e)) (hi:P.info? e=some ti) (hz:ti.zero=some zv) (hsz:ti.size=z) (hz0:0 < z)
  (hm:parts.toList.map (·.1)=List.range m) (hx:opdsOk (parts.toList.map (·.2)) ys=true) (hdst:o.dst=some d) (hdn:d < n) (hp:runP Te ((COp.bslice z ys).prg o.dst d) st (fun _ st'=>K st')):o.wp P a w (Goal X n K) Q:=by
 subst hsz
 replace hp:=evL_ok h hx hp
 obtain ⟨vs,hv,hp⟩:=hp
 replace hp:=takeRows_ok h hv hp
 obtain ⟨g',st',rows,h1,k1,e1,hp⟩:=hp
 simp only [runP,Bool.and_eq_true,decide_eq_true_eq,List.length_map] at hp
 obtain ⟨⟨hw,hl⟩,hp⟩:=hp
 have hrl:∀ r∈rows,r.length=ti.size:=fun r hr=>by
  have:=List.all_eq_true.1 hw (r.map er) (List.mem_map.2 ⟨r,hr,rfl⟩)
  simpa using this
 have hrm:rows.length=m:=by
  have:=congrArg List.length e1
  have h2:=congrArg List.length hm
  simp at this h2
  omega
 have huz:∀ u∈(parts.toList.map (·.2)).map a.eval,u.cells.size=ti.size:=fun u hu=>by
  have:u.cells.toList∈rows.map (·.map hdr):=by rw [e1]; exact List.mem_map.2 ⟨u,hu,rfl⟩
  obtain ⟨r,hr,e⟩:=List.mem_map.1 this
  rw [← Array.length_toList,← e,List.length_map]
  exact hrl r hr
 have hpl:((parts.toList.map (·.2)).map a.eval).length=m:=by
  have h2:=congrArg List.length hm
  simpa using h2
 have hparts:(parts.map fun x=>(x.1,a.eval x.2)).toList=((((parts.toList.map (·.2)).map a.eval).zipIdx 0).map fun x=>(x.2,x.1)):=by
  rw [Array.toList_map]
  apply List.ext_getElem?
  intro i
  rw [List.getElem?_map,List.getElem?_map,List.getElem?_zipIdx,List.getElem?_map,List.getElem?_map]
  cases hpi:parts.toList[i]? with
  | none=>simp
  | some q =>
   have h3:(parts.toList.map (·.1))[i]?=some q.1:=by rw [List.getElem?_map,hpi]; rfl
   rw [hm] at h3
   have h4:q.1=i:=by
    obtain ⟨hlt,e⟩:=List.getElem?_eq_some_iff.1 h3
    simpa using e.symm
   simp [h4]
 obtain ⟨cells',f1,f2⟩:=fill_seq (z:=ti.size) ((parts.toList.map (·.2)).map a.eval) 0 ((Array.range (m * ti.size)).map ((if m * ti.size=0 then #[] else zv.cells)[· % (if m * ti.size=0 then #[] else zv.cells).size]!)) huz (by simp only [Nat.zero_add,hpl]; simp)
 have f3:cells'.toList=hds rows:=by
  rw [f2,hds_flat,e1]
  simp [List.flatMap]
 have hcs:cells'.size=m * ti.size:=by
  rw [← Array.length_toList,f3,hds_length hrl,hrm]
 refine newArr_ok (g:=g') (rs:=rows) (cap:=m) (z:=ti.size) (cur:=cells') (e:=e) (fz:=(0,0)) (w1:=w.alloc (.cells cells' e)) (by simpa using h1) (alloc_step w _ _) (heap_alloc_new w _) (fun o _=>by omega) (by omega) ?_ hcs hrl ?_ ?_ hdst hdn rfl hp
 ·have:m≤rows.length * ti.size:=by rw [hrm]; exact Nat.le_mul_of_pos_right m hz0
  simp only [maxLen]
  omega
 ·rw [f3]
  exact List.take_of_length_le (by rw [hds_length hrl]; exact Nat.le_refl _)
 ·rw [hrm]
  have hle:¬ (16777216 < m * ti.size):=by rw [← hrm]; omega
  rw [← hparts,Array.toList_map] at f1
  have z0:∀ f:Nat→Value,(Array.range 0).map f = #[]:=fun f=>by simp [Array.range_zero']
  by_cases h0:m * ti.size=0
  ·simp only [h0,if_true,z0] at f1
   simp [execOp,ho,Instr.buildSlice,run_underlying ht,sizeOf,typeInfo,hi,h0,z0,f1,newRow]
  ·simp only [h0,if_false] at f1
   simp [execOp,ho,Instr.buildSlice,run_underlying ht,sizeOf,typeInfo,zeroValue,hi,hz,h0,hle,f1,newRow]
def psOk:List (Nat×Operand)→List (Nat×Nat×Opd)→(Nat→Option (Nat×Nat))→Bool
 | [],[],_=>true
 | (i,x)::xs,(off,m,y)::ys,place=>place i==some (off,m)&&opdOk x y&&psOk xs ys place
 | _,_,_=>false
theorem evPs_ok {R:α→St→Prop} {place:Nat→Option (Nat×Nat)}:∀ {xs:List (Nat×Operand)} {ys:List (Nat×Nat×Opd)} {k:List (Nat×Nat×SV)→Prg α},Sim X n g st hand a w→psOk xs ys place=true→runP Te (evPs ys k) st R→
  ∃ vs:List (Nat×Nat×SV),SlotsOK X.S g w (vs.map (·.2.2)) (xs.map fun x=>a.eval x.2)∧xs.map (fun x=>place x.1)=vs.map (fun v=>some (v.1,v.2.1))∧runP Te (k vs) st R
 | [],[],k,_,_,hp=>⟨[],by simp [SlotsOK],rfl,hp⟩
 | (i,x)::xs,(off,m,y)::ys,k,h,ho,hp=>by
  simp only [psOk,Bool.and_eq_true,beq_iff_eq] at ho
  obtain ⟨v,hv,hp1⟩:=ev_ok h ho.1.2 hp
  obtain ⟨vs,hvs,e,hp2⟩:=evPs_ok h ho.2 hp1
  exact ⟨(off,m,v)::vs,by simp [SlotsOK,hv,hvs],by simp [ho.1.1,e],hp2⟩
 | [],_::_,_,_,ho,_=>by simp [psOk] at ho
 | _::_,[],_,_,ho,_=>by simp [psOk] at ho
theorem fillC_ok {place:Nat→Option (Nat×Nat)}:∀ (vs:List (Nat×Nat×SV)) (xs:List (Nat×Value)) (z:List Cel) (cells:Array Value) (cs:List Cel),SlotsOK X.S g w (vs.map (·.2.2)) (xs.map (·.2))→xs.map (fun x=>place x.1)=vs.map (fun v=>some (v.1,v.2.1))→CelsOK X.S g w z cells.toList→fillC vs z=some cs→
  ∃ cells',Instr.fill place cells xs=some cells'∧CelsOK X.S g w cs cells'.toList
 | [],[],z,cells,cs,_,_,hz,hf=>by simp [fillC] at hf; subst hf; exact ⟨cells,rfl,hz⟩
 | (off,m,v)::vs,(i,u)::xs,z,cells,cs,hs,hpl,hz,hf=>by
  simp only [List.map_cons,SlotsOK] at hs
  simp only [List.map_cons,List.cons.injEq] at hpl
  simp only [fillC] at hf
  cases hvc:v.cels with
  | none=>simp [hvc] at hf
  | some ds =>
   simp only [hvc,Option.bind_some] at hf
   cases hb:(ds.length==m&&decide (off + ds.length≤z.length)) with
   | false=>simp [hb] at hf
   | true =>
    simp only [hb,cond_true] at hf
    simp only [Bool.and_eq_true,beq_iff_eq,decide_eq_true_eq] at hb
    obtain ⟨rfl,hl⟩:=hb
    obtain ⟨cs',us,e0,hc,hq⟩:=cels_ok (α:=Unit) (Te:=fun _ _ _=>True) (st:=⟨[],[],[]⟩) (k:=fun c=>.chk (c.length==ds.length) (.done ())) (R:=fun _ _=>True) hs.1 (by simp [withCels,hvc,runP])
    have hds:cs'=ds∨True:=.inr trivial
    have hc':CelsOK X.S g w ds us:=by
     cases v with
     | one c =>
      simp [SV.cels] at hvc
      subst hvc
      have h1:=hs.1
      simp only [SlotOK] at h1
      have h2:=h1.one
      have:us=[u]:=by
       have:u.cells = #[u]:=by cases u <;> simp_all [Value.cells,Value.oneCell']
       rw [this] at e0
       simpa using (congrArg Array.toList e0).symm
      subst this
      exact ⟨rfl,fun k c' u' h h'=>by
       cases k with
       | zero=>simp at h h'; subst h; subst h'; exact h1
       | succ k=>simp at h⟩
     | agg ds' =>
      simp [SV.cels] at hvc
      subst hvc
      have h1:=hs.1
      simp only [SlotOK] at h1
      obtain ⟨us',rfl,h3⟩:=h1
      have:us=us':=by simpa [Value.cells] using (congrArg Array.toList e0).symm
      subst this
      exact h3
     | _=>simp [SV.cels] at hvc
    have hus:u.cells.size=ds.length:=by rw [e0,List.size_toArray,← hc'.1]
    have hcl:cells.size=z.length:=by rw [hz.1,Array.length_toList]
    have hst:=fill_step (place:=place) (cells:=cells) (i:=i) (off:=off) (v:=u) (rest:=xs) (by rw [hus]; exact hpl.1) (by omega)
    have hz':CelsOK X.S g w (z.take off++ds++z.drop (off + ds.length)) ((cells.toList.take off++u.cells.toList++cells.toList.drop (off + u.cells.size)).toArray).toList:=by
     rw [hus]
     simpa [e0] using ((hz.take off).append hc').append (hz.drop (off + ds.length))
    obtain ⟨cells',h1,h2⟩:=fillC_ok vs xs _ _ cs hs.2 hpl.2 hz' hf
    exact ⟨cells',by rw [hst]; exact h1,h2⟩
 | [],_::_,_,_,_,hs,_,_,_=>by simp [SlotsOK] at hs
 | _::_,[],_,_,_,hs,_,_,_=>by simp [SlotsOK] at hs
theorem do_build {t:TypeId} {zv:Value} {z:List Cel} {parts:Array (Nat×Operand)} {ys:List (Nat×Nat×Opd)} {place:Nat→Option (Nat×Nat)} (h:Sim X n g st [] a w) (ho:o.op = .build t parts) (hzc:constL zv.cells.toList z=true)
  (hb:∀ xs,P.built t xs=Instr.fill place zv.cells xs) (hx:psOk parts.toList ys place=true) (hd:∀ k,o.dst=some k→k < n) (id:Nat)
  (hp:runP Te ((COp.build z ys).prg o.dst id) st (fun _ st'=>K st')):o.wp P a w (Goal X n K) Q:=by
 replace hp:=evPs_ok h hx hp
 obtain ⟨vs,hv,hpl,hp⟩:=hp
 split at hp
 ·rename_i cs hf
  obtain ⟨cells,f1,f2⟩:=fillC_ok (X:=X) (g:=g) (w:=w) (place:=place) vs (parts.toList.map fun x=>(x.1,a.eval x.2)) z zv.cells cs (by rw [List.map_map]; exact hv) (by rw [List.map_map]; exact hpl) (constL_ok hzc X.S g w) hf
  refine step_value (v:=.agg cells) (w':=w) ?_ (fin_ok h hd ?_ hp)
  ·have hbt:P.built t (parts.map fun x=>(x.1,a.eval x.2)).toList=some cells:=by rw [hb,Array.toList_map]; exact f1
   simp only [execOp,ho,Sem.run_bind,run_build (P:=P) w t (parts.map fun x=>(x.1,a.eval x.2)) cells hbt,Result.andThen_ok]
   rfl
  ·simp only [SlotOK]
   exact ⟨cells.toList,by simp,f2⟩
 ·exact hp.elim
end
end Go.X

