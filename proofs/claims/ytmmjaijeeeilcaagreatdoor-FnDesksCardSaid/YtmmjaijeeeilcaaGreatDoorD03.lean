/- Texts: XLib XUtf8 XUtf8V. -/
import Derived.Test.YtmmjaijeeeilcaaGreatDoorD02
import Derived.Shelf.Spec.DecodeRune
import Derived.Lib.LaidU8T
import Derived.Lib.SpaceU
import Derived.Shelf.Unicode.ValidAny
set_option linter.unusedVariables false
set_option linter.unusedSimpArgs false
namespace Go.X
open Go.RowKit
def plainA:AV→Bool
 | .one (.pv _)=>true
 | .one (.sl false _ _ _)=>true
 | _=>false
theorem plainA_ts {x:GA} {a:AV} (h:x.er=a) (hp:plainA a=true):∃ t,x = .one t∧(∀ b,cnt b t=0):=by
 subst h
 cases x with
 | one t =>
  refine ⟨t,rfl,fun b=>?_⟩
  cases t with
  | pv v=>rfl
  | no v=>simp [GA.er,X.er,plainA] at hp
  | sl o z v rows =>
   cases o with
   | false=>rfl
   | true=>simp [GA.er,X.er,plainA] at hp
 | agg ts=>simp [GA.er,plainA] at hp
 | ptr A ts=>simp [GA.er,plainA] at hp
theorem tells_lib {P:Program} {KP:Kept} {f:Nat} {avs:List AV} {us:List Value} (hp:avs.all plainA=true) (hu:us.all Value.oneCell'=true)
  (h:∀ (S:Nat→Prop) (gs:List GA) (w:World),gs.map GA.er=avs→(∀ x∈gs,x.ok S w)→KP.ok S w→Calls P f (gs.map GA.val).toArray w fun e w'=>e = .returned (resVal (us.map fun u=>.one (.pv u)))∧Below w.heap.size w w') (hf:Nat.ble (f + 1) VN=true) :
  Tells P KP f avs ⟨us.map fun u=>.one (.pv u),avs.map AV.ts⟩:=by
 rw [tells_small (Nat.le_of_ble_eq_true hf)]
 intro S gs w ha hS hok _ _ hK
 refine (h S gs w ha hok hK).mono ?_
 rintro e w' ⟨rfl,hB⟩
 have hpl:∀ x∈gs,∃ t,x = .one t∧(∀ b,cnt b t=0):=fun x hx=>by
  refine plainA_ts rfl ?_
  have:x.er∈avs:=by rw [← ha]; exact List.mem_map_of_mem hx
  exact List.all_eq_true.1 hp _ this
 have hcl:∀ b,∀ l:List GA,(∀ x∈l,∃ t,x = .one t∧(∀ b,cnt b t=0))→treeCnt b l=0∧ptrCnt b l=0∧cntL b (l.map GA.ts).flatten=0:=fun b l=>by
  induction l with
  | nil=>intro _; exact ⟨rfl,rfl,rfl⟩
  | cons x l ih =>
   intro hl
   obtain ⟨t,rfl,ht⟩:=hl x (List.mem_cons_self ..)
   obtain ⟨h1,h2,h3⟩:=ih fun y hy=>hl y (List.mem_cons_of_mem _ hy)
   have:=ht b
   simp only [treeCnt,List.flatMap_cons,cntL_append,GA.ts,cntL,ptrCnt,GA.pb,List.map_cons,List.flatten_cons] at h1 h2 h3 ⊢
   omega
 have hmv:∀ x∈gs,∀ t∈x.ts,Rp S w' t:=fun x hx t ht=>by
  obtain ⟨t',rfl,hc⟩:=hpl x hx
  simp only [GA.ts,List.mem_singleton] at ht
  subst ht
  refine ((hok _ hx).1 t (by simp [GA.ts])).move (fun _ h=>h) (fun b hb=>hB.block b (hS b hb)) (fun b hb=>?_)
  have:=hc b
  omega
 have hus:∀ b,∀ l:List Value,treeCnt b (l.map fun u=>GA.one (.pv u))=0∧ptrCnt b (l.map fun u=>GA.one (.pv u))=0:=fun b l=>by
  induction l with
  | nil=>exact ⟨rfl,rfl⟩
  | cons u l ih =>
   obtain ⟨h1,h2⟩:=ih
   simp only [treeCnt,List.map_cons,List.flatMap_cons,cntL_append,GA.ts,cntL,cnt,ptrCnt,GA.pb] at h1 h2 ⊢
   omega
 refine ⟨us.map fun u=>.one (.pv u),gs.map GA.ts,rfl,by simp [GA.er,X.er,Function.comp_def],?_,?_,?_,?_,?_,?_,?_,?_⟩
 ·rw [← ha,List.map_map,List.map_map]
  exact List.map_congr_left fun x _=>(GA.er_ts x).symm
 ·intro x hx
  obtain ⟨u,hu',rfl⟩:=List.mem_map.1 hx
  refine ⟨fun t ht=>?_,fun A ts e=>by cases e⟩
  simp only [GA.ts,List.mem_singleton] at ht
  subst ht
  exact .pv (List.all_eq_true.1 hu _ hu')
 ·intro o ho t ht
  obtain ⟨x,hx,rfl⟩:=List.mem_map.1 ho
  exact hmv x hx t ht
 ·have:∀ l:List GA,(∀ x∈l,∃ t,x = .one t∧(∀ b,cnt b t=0))→OutsOK w' l (l.map GA.ts):=fun l=>by
   induction l with
   | nil=>intro _; trivial
   | cons x l ih =>
    intro hl
    obtain ⟨t,rfl,_⟩:=hl x (List.mem_cons_self ..)
    exact ⟨rfl,ih fun y hy=>hl y (List.mem_cons_of_mem _ hy)⟩
  exact this gs hpl
 ·intro b
  have h1:=hcl b gs hpl
  have h2:=hus b us
  omega
 ·intro b hb
  have h1:=hcl b gs hpl
  have h2:=hus b us
  omega
 ·refine ⟨hB.os,hB.tape,hB.output,hB.size,fun b hb _=>hB.block b hb,fun A ts hm=>?_⟩
  obtain ⟨t,e,_⟩:=hpl _ hm
  cases e
 ·intro A ts hm
  obtain ⟨u,_,e⟩:=List.mem_map.1 hm
  cases e
theorem rd_bytes {S:Nat→Prop} {w:World} {l:List UInt8} {v:Value} (h:Rd S w (.sl false 1 () (l.map fun a=>[.pv (.int .u8 a.toNat)])) v) (hl:l≠[]) :
  ∃ b off cap,v = .slice (some ⟨b,off,none⟩) l.length cap∧∀ j (hj:j < l.length),w.cell? ⟨b,off + j,none⟩=some (.int .u8 (l[j]).toNat):=by
 generalize ht:(Tr.sl false 1 () (l.map fun a=>[.pv (.int .u8 a.toNat)]):T)=t at h
 cases h with
 | pv h=>cases ht
 | @sl z cap a rows u h1 h2 h3 h4 h5 =>
  cases ht
  have hlen:(l.map fun a=>([.pv (.int .u8 a.toNat)]:List T)).length=l.length:=by simp
  have key:∀ j (hj:j < l.length),∃ ad,a=some ad∧w.cell? (ad.add j)=some (.int .u8 (l[j]).toNat):=fun j hj=>by
   have hr:(l.map fun a=>([.pv (.int .u8 a.toNat)]:List T))[j]?=some [.pv (.int .u8 (l[j]).toNat)]:=by simp [hj]
   obtain ⟨ad,e1,_,e2⟩:=h4 j _ 0 _ hr rfl
   have e3:=h5 j _ 0 _ hr rfl
   have e4:u j 0 = .int .u8 (l[j]).toNat:=by
    generalize hq:(Tr.pv (Value.int .u8 (l[j]).toNat):T)=q at e3
    generalize u j 0=x at e3
    cases e3 with
    | pv=>cases hq; rfl
    | sl=>cases hq
   exact ⟨ad,e1,by simpa [e4] using e2⟩
  obtain ⟨ad,rfl,e0⟩:=key 0 (by rcases l with _ | _; exact absurd rfl hl; simp)
  have hs:ad.spot=none:=by
   have e0':w.cell? ad=some (.int .u8 (l[0]'(by rcases l with _ | _; exact absurd rfl hl; simp)).toNat):=by simpa [Addr.add] using e0
   unfold World.cell? at e0'
   split at e0'
   ·split at e0'
    ·cases e0'
    ·rename_i q; simpa using q
   ·cases e0'
  obtain ⟨b,off,sp⟩:=ad
  simp only at hs
  subst hs
  refine ⟨b,off,cap,by rw [hlen],fun j hj=>?_⟩
  obtain ⟨ad',e1,e2⟩:=key j hj
  cases e1
  by_cases hz:j=0
  ·subst hz; simpa [Addr.add] using e2
  ·simpa [Addr.add,hz] using e2
end Go.X

namespace Go.X
open Go.RowKit Go.Proofs Go.Shelf
def keptU (g3 g4:Nat):Kept:=⟨fun S w=>S g3∧S g4∧Lib.Utf8Tabs g3 g4 w,fun {S S' w w'} h hs hb=>by
 obtain ⟨h1,h2,h3,h4⟩:=h
 refine ⟨hs _ h1,hs _ h2,fun c hc=>?_,fun i hi=>?_⟩
 ·rw [World.cell?_of_block (w:=w) (hb _ h1)]; exact h3 c hc
 ·rw [World.cell?_of_block (w:=w) (hb _ h2),World.cell?_of_block (w:=w) (hb _ h2)]; exact h4 i hi⟩
theorem tells_decode {P:Program} {ρ:Ren} (L:Lays7.n32 P ρ) (l:List UInt8) (hl:l≠[]) (hf:Nat.ble (ρ.f 32 + 1) VN=true:=by exact rfl) :
  Tells P (keptU (ρ.g 2) (ρ.g 3)) (ρ.f 32) [.one (.sl false 1 () (l.map fun a=>[.pv (.int .u8 a.toNat)]))] ⟨[.one (.pv (.int .i32 (Lib.decodeGo ⟨l.toArray⟩).1)),.one (.pv (.int .i64 (Lib.decodeGo ⟨l.toArray⟩).2))],[[.sl false 1 () (l.map fun a=>[.pv (.int .u8 a.toNat)])]]⟩:=by
 refine tells_lib (us:=[.int .i32 (Lib.decodeGo ⟨l.toArray⟩).1,.int .i64 (Lib.decodeGo ⟨l.toArray⟩).2]) rfl rfl ?_ hf
 intro S gs w ha hok hK
 rcases gs with _ | ⟨x,_ | ⟨y,gs⟩⟩
 ·simp at ha
 ·simp only [List.map_cons,List.map_nil,List.cons.injEq,and_true] at ha
  have hx:=(hok x (List.mem_cons_self ..)).1
  cases x with
  | one t =>
   simp only [GA.er,AV.one.injEq] at ha
   have ht:=hx t (by simp [GA.ts])
   have hrd:Rd S w (.sl false 1 () (l.map fun a=>[.pv (.int .u8 a.toNat)])) (hdr t):=by
    rw [← ha]
    cases ht with
    | pv=>simp [er] at ha
    | no=>simp [er] at ha
    | ro h=>exact h
    | nil=>simp [er] at ha
    | own=>simp [er] at ha
   obtain ⟨b,off,cap,e1,e2⟩:=rd_bytes hrd hl
   have:=Any7.utf8_DecodeRune L ⟨l.toArray⟩ b off cap w hK.2.2 (fun j hj=>by
    have hj':j < l.length:=by simpa [ByteArray.size] using hj
    rw [e2 j hj']
    congr 3
    simp [ByteArray.get!,hj'])
   have e3:(⟨l.toArray⟩:ByteArray).size=l.length:=by simp [ByteArray.size]
   rw [e3,← e1] at this
   exact this
  | agg ts=>simp [GA.er] at ha
  | ptr A ts=>simp [GA.er] at ha
 ·simp at ha
theorem decodeGo_L {l:List UInt8} (hl:l≠[]):Lib.decodeGo ⟨l.toArray⟩=Lib.decodeL l:=by
 have:¬ (⟨l.toArray⟩:ByteArray).size=0:=by
  simp only [ByteArray.size,List.size_toArray]
  intro e
  exact hl (List.length_eq_zero_iff.1 e)
 unfold Lib.decodeGo Lib.decodeL
 rw [if_neg this]
theorem tells_decodeL {P:Program} {ρ:Ren} (L:Lays7.n32 P ρ) (l:List UInt8) (hl:l≠[]) (hf:Nat.ble (ρ.f 32 + 1) VN=true:=by exact rfl) :
  Tells P (keptU (ρ.g 2) (ρ.g 3)) (ρ.f 32) [.one (.sl false 1 () (l.map fun a=>[.pv (.int .u8 a.toNat)]))] ⟨[.one (.pv (.int .i32 (Lib.decodeL l).1)),.one (.pv (.int .i64 (Lib.decodeL l).2))],[[.sl false 1 () (l.map fun a=>[.pv (.int .u8 a.toNat)])]]⟩:=by
 have h:=tells_decode L l hl hf
 rw [decodeGo_L hl] at h
 exact h
end Go.X

namespace Go.X
open Go.RowKit Go.Proofs Go.Shelf
theorem tells_valid {P:Program} {ρ:Ren} (L:Lays.n196 P ρ) (s:ByteArray) (hs:s.size≤2 ^ 48) (hf:Nat.ble (ρ.f 196 + 1) VN=true:=by exact rfl) :
  Tells P (keptU (ρ.g 3) (ρ.g 4)) (ρ.f 196) [.one (.pv (.string s))] ⟨[.one (.pv (.bool (Lib.validD s.data.toList)))],[[.pv (.string s)]]⟩:=by
 refine tells_lib (us:=[.bool (Lib.validD s.data.toList)]) rfl rfl ?_ hf
 intro S gs w ha hok hK
 rcases gs with _ | ⟨x,_ | ⟨y,gs⟩⟩
 ·simp at ha
 ·simp only [List.map_cons,List.map_nil,List.cons.injEq,and_true] at ha
  cases x with
  | one t =>
   simp only [GA.er,AV.one.injEq] at ha
   have e1:t = .pv (.string s):=by
    cases t with
    | pv v=>simp only [er,Tr.pv.injEq] at ha; rw [ha]
    | sl=>simp [er] at ha
    | no=>simp [er] at ha
   subst e1
   exact Any.utf8_ValidString L s w (Nat.le_trans hs (by decide)) hK.2.2
  | agg ts=>simp [GA.er] at ha
  | ptr A ts=>simp [GA.er] at ha
 ·simp at ha
end Go.X

