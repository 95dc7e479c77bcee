/- Texts: CA_d CC_d CF_d CD_d CG_d CK_d CP_d CQ_d CR_d CS_d CT_d CU_d CUa_d CUl_d CV_d CVa_d CVb_d CVc_d CEa_d CEb_d CVd_d CVe_d CVf_d CVg_d CVi_d CVj_d CVk_d CVl_d CVla_d CVm_d CVn_d CVo_d CVp_d CVq_d CVr_d CVs_d CVt_d CVu_d CVv_d CVw_d CVx_d CVy_d CVz_d CVza_d CVzb_d CVzc_d CVua_d CVze_d CVzea_d CVzd_d CVzh_d CVzm_d CVzs_d CE_d CVzi_d CVzj_d CVzk_d CVzl_d CW_FnNodes_d CW_FnSteps_d. -/
import Derived.Test.YtmmjaijeeeilcaaGreatDoorX02
import Derived.Lib.ValidLaws
set_option linter.unusedVariables false
set_option linter.unusedSimpArgs false
namespace Go.X
set_option maxRecDepth 100000
set_option maxHeartbeats 8000000
abbrev iT (a:Int):T:=.pv (.int .i64 a)
abbrev bT (a:Bool):T:=.pv (.bool a)
abbrev sT (s:ByteArray):T:=.pv (.string s)
abbrev uT (a:UInt8):T:=.pv (.int .u8 a.toNat)
abbrev slT {α:Type} (o:Bool) (z:Nat) (f:α→List T) (l:List α):T:=.sl o z () (l.map f)
abbrev bR (a:Bool):List T:=[bT a]
abbrev sR (a:ByteArray):List T:=[sT a]
abbrev iR (a:Int):List T:=[iT a]
abbrev uR (a:UInt8):List T:=[uT a]
def left (a:Int):Int:=if a < 0 then -1 else a
def Sane (f:Int→Int):Prop:=∀ k,0≤k→f k≤k
def SaneL (fs:List (Int→Int)):Prop:=∀ f∈fs,Sane f
theorem SaneL.nil:SaneL []:=fun _ h=>by cases h
theorem SaneL.cons {f:Int→Int} {fs:List (Int→Int)} (h:Sane f) (t:SaneL fs):SaneL (f::fs):=fun g hg=>by
 rcases List.mem_cons.1 hg with rfl | hg
 ·exact h
 ·exact t _ hg
def szAll:List (Int→Int)→Int→Int
 | [],k=>k
 | f::fs,k=>if f k < 0 then -1 else szAll fs (f k)
def ExL (n:Int):List (Int→Int)→Prop
 | []=>True
 | f::fs=>(∃ j,0≤j∧j≤n∧0≤f j)∧ExL n fs
theorem Sane.all {fs:List (Int→Int)} (h:SaneL fs):Sane (szAll fs):=by
 induction fs with
 | nil=>intro k hk; exact Int.le_refl _
 | cons f fs ih =>
  intro k hk
  have h1:=h f (List.mem_cons_self ..) k hk
  simp only [szAll]
  split
  ·omega
  ·have:=ih (fun g hg=>h g (List.mem_cons_of_mem _ hg)) (f k) (by omega)
   omega
theorem szAll_ex {fs:List (Int→Int)} (h:SaneL fs) {k n:Int} (hk:0≤k) (hn:k≤n) (h0:0≤szAll fs k):ExL n fs:=by
 induction fs generalizing k with
 | nil=>trivial
 | cons f fs ih =>
  have h1:=h f (List.mem_cons_self ..) k hk
  simp only [szAll] at h0
  split at h0
  ·omega
  ·exact ⟨⟨k,hk,hn,by omega⟩,ih (fun g hg=>h g (List.mem_cons_of_mem _ hg)) (k:=f k) (by omega) (by omega) h0⟩
theorem Sane.sub (n:Nat):Sane (fun k=>k - n):=fun k hk=>by show k - (n:Int)≤k; omega
theorem Sane.left (n:Nat):Sane (fun k=>left (k - n)):=fun k hk=>by
 show Go.X.left (k - (n:Int))≤k
 unfold Go.X.left
 split <;> omega
theorem left_nn {a:Int} (h:¬ left a < 0):left a=a:=by
 unfold left at h ⊢
 split at h
 ·omega
 ·rw [if_neg (by assumption)]
theorem left_in {k:Int} {n:Nat} (h:0≤left (k - n)):(n:Int)≤k:=by
 unfold left at h
 split at h <;> omega
def szSl {α:Type} (f:α→Int→Int) (l:List α) (k:Int):Int:=szAll ((fun k=>k - l.length)::l.map f) k
theorem Sane.sl {α:Type} {f:α→Int→Int} (hf:∀ a,Sane (f a)) (l:List α):Sane (szSl f l):=by
 refine Sane.all (.cons (.sub _) fun g hg=>?_)
 obtain ⟨a,_,rfl⟩:=List.mem_map.1 hg
 exact hf a
theorem ExL_map {α:Type} {f:α→Int→Int} {n:Int}:∀ {l:List α},ExL n (l.map f)→∀ a∈l,∃ j,0≤j∧j≤n∧0≤f a j
 | [],_,a,h=>by cases h
 | b::l,⟨h1,h2⟩,a,h=>by
  rcases List.mem_cons.1 h with rfl | h
  ·exact h1
  ·exact ExL_map h2 a h
theorem szSl_in {α:Type} {f:α→Int→Int} {P:α→Prop} {n:Nat} (hf:∀ a,Sane (f a)) (hP:∀ a j,0≤j→j≤(n:Int)→0≤f a j→P a) {l:List α} {k:Int} (hk:0≤k) (hn:k≤n) (h:0≤szSl f l k):l.length≤n∧∀ a∈l,P a:=by
 obtain ⟨⟨j,h1,h2,h3⟩,h4⟩:=szAll_ex (.cons (.sub _) fun g hg=>by obtain ⟨a,_,rfl⟩:=List.mem_map.1 hg; exact hf a) hk hn h
 refine ⟨by have h5:(0:Int)≤j - (l.length:Nat):=h3; omega,fun a ha=>?_⟩
 obtain ⟨j,q1,q2,q3⟩:=ExL_map h4 a ha
 exact hP a j q1 q2 q3
def szStr (s:ByteArray) (k:Int):Int:=left (k - s.size)
theorem szStr_sane (s:ByteArray):Sane (szStr s):=Sane.left _
theorem fill_get {α:Type} (f:α→List T) (l:List α) (z:List T) {i:Nat} (hi:i < l.length):((l.take i).map f++List.replicate (l.length - i) z)[i]?=some z:=by
 rw [List.getElem?_append_right (by simp; omega),List.getElem?_replicate,if_pos (by simp; omega)]
theorem fill_set {α:Type} (f:α→List T) (l:List α) (z:List T) {i:Nat} (hi:i < l.length):((l.take i).map f++List.replicate (l.length - i) z).set i (f l[i])=(l.take (i + 1)).map f++List.replicate (l.length - (i + 1)) z:=by
 rw [List.set_append_right _ _ (by simp; omega),List.take_succ_eq_append_getElem hi,List.map_append,List.append_assoc]
 congr 1
 have e:l.length - i=(l.length - (i + 1)) + 1:=by omega
 rw [e,List.replicate_succ]
 have:i - ((l.take i).map f).length=0:=by simp; omega
 rw [this]
 rfl
theorem fill_len {α:Type} (f:α→List T) (l:List α) (z:List T) {i:Nat} (hi:i≤l.length):((l.take i).map f++List.replicate (l.length - i) z).length=l.length:=by simp; omega
theorem fill_end {α:Type} (f:α→List T) (l:List α) (z:List T):(l.take l.length).map f++List.replicate (l.length - l.length) z=l.map f:=by simp
theorem same_step {α:Type} {l m:List α} {i:Nat} (hl:i < l.length) (hm:i < m.length) (h:l.take i=m.take i) (he:l[i]=m[i]):l.take (i + 1)=m.take (i + 1):=by
 rw [List.take_succ_eq_append_getElem hl,List.take_succ_eq_append_getElem hm,h,he]
theorem same_end {α:Type} {l m:List α} {i:Nat} (hl:l.length≤i) (hm:m.length≤i) (h:l.take i=m.take i):l=m:=by
 rwa [List.take_of_length_le hl,List.take_of_length_le hm] at h
theorem all_step {α:Type} {l:List α} {p:α→Bool} {i:Nat} (hi:i < l.length) (h:(l.take i).all p=true) (h2:p l[i]=true):(l.take (i + 1)).all p=true:=by
 rw [List.take_succ_eq_append_getElem hi,List.all_append,h,List.all_cons,h2]; rfl
theorem all_not {α:Type} {l:List α} {p:α→Bool} {i:Nat} (hi:i < l.length) (h2:p l[i]=false):l.all p=false:=by
 rw [List.all_eq_false]; exact ⟨l[i],List.getElem_mem hi,by simp [h2]⟩
theorem all_end {α:Type} {l:List α} {p:α→Bool} {i:Nat} (hi:l.length≤i) (h:(l.take i).all p=true):l.all p=true:=by
 rwa [List.take_of_length_le hi] at h
def marks {α:Type} (w:Nat) (mk:Int→α) (n:Nat) (k:Int):List α:=(List.range n).map fun i=>mk (k + (w * i:Nat))
theorem marks_length {α:Type} (w:Nat) (mk:Int→α) (n:Nat) (k:Int):(marks w mk n k).length=n:=by simp [marks]
theorem marks_succ {α:Type} (w:Nat) (mk:Int→α) (n:Nat) (k:Int):marks w mk (n + 1) k=marks w mk n k++[mk (k + (w * n:Nat))]:=by simp [marks,List.range_succ]
theorem marks_get {α:Type} (w:Nat) (mk:Int→α) {n i:Nat} (k:Int) (h:i < n):(marks w mk n k)[i]?=some (mk (k + (w * i:Nat))):=by simp [marks,h]
theorem mark_get {α:Type} (f:α→List T) (w:Nat) (mk:Int→α) (l:List α) (k:Int) {i:Nat} (hi:i < l.length):((marks w mk i k).map f++(l.drop i).map f)[i]?=some (f l[i]):=by
 rw [List.getElem?_append_right (by simp [marks_length]),List.length_map,marks_length,Nat.sub_self,List.getElem?_map,List.getElem?_drop]
 simp [hi]
theorem mark_set {α:Type} (f:α→List T) (w:Nat) (mk:Int→α) (l:List α) (k:Int) {i:Nat} (hi:i < l.length):((marks w mk i k).map f++(l.drop i).map f).set i (f (mk (k + (w * i:Nat))))=(marks w mk (i + 1) k).map f++(l.drop (i + 1)).map f:=by
 rw [List.set_append_right _ _ (by simp [marks_length]),List.length_map,marks_length,Nat.sub_self,List.drop_eq_getElem_cons hi,List.map_cons,List.set_cons_zero,marks_succ,List.map_append,List.append_assoc]
 rfl
theorem mark_len {α:Type} (f:α→List T) (w:Nat) (mk:Int→α) (l:List α) (k:Int) {i:Nat} (hi:i≤l.length):((marks w mk i k).map f++(l.drop i).map f).length=l.length:=by simp [marks_length]; omega
theorem mark_reget {α:Type} (f:α→List T) (w:Nat) (mk:Int→α) (l:List α) (k:Int) {i:Nat} (hi:i < l.length) (r:List T):(((marks w mk i k).map f++(l.drop i).map f).set i r)[i]?=some r:=by
 rw [List.getElem?_set_self (by rw [mark_len f w mk l k (by omega)]; exact hi)]
theorem mark_end {α:Type} (f:α→List T) (w:Nat) (mk:Int→α) (l:List α) (k:Int):(marks w mk l.length k).map f++(l.drop l.length).map f=(marks w mk l.length k).map f:=by simp
theorem marks_take {α β:Type} (f:α→β) (w:Nat) (mk:Int→α) (n:Nat) (k:Int):((marks w mk n k).map f).take n=(marks w mk n k).map f:=by rw [List.take_of_length_le (by simp [marks_length])]
def markL {α:Type} (m:α→Int→α) (f:α→Int→Int):List α→Int→List α
 | [],_=>[]
 | x::l,k=>m x k::markL m f l (f x k)
def farL {α:Type} (f:α→Int→Int):List α→Int→Int
 | [],k=>k
 | x::l,k=>farL f l (f x k)
theorem markL_length {α:Type} (m:α→Int→α) (f:α→Int→Int):∀ (l:List α) (k:Int),(markL m f l k).length=l.length
 | [],_=>rfl
 | x::l,k=>by simp only [markL,List.length_cons,markL_length m f l]
theorem farL_take {α:Type} (f:α→Int→Int):∀ (l:List α) (k:Int) {i:Nat} (h:i < l.length),farL f (l.take (i + 1)) k=f l[i] (farL f (l.take i) k)
 | x::l,k,0,h=>by simp [farL]
 | x::l,k,i + 1,h=>by
  simp only [List.take_succ_cons,farL,List.getElem_cons_succ]
  exact farL_take f l _ (by simpa using h)
theorem markL_get {α:Type} (m:α→Int→α) (f:α→Int→Int):∀ (l:List α) (k:Int) {i:Nat} (h:i < l.length),(markL m f l k)[i]?=some (m l[i] (farL f (l.take i) k))
 | x::l,k,0,h=>by simp [markL,farL]
 | x::l,k,i + 1,h=>by
  simp only [markL,List.getElem?_cons_succ,List.take_succ_cons,farL,List.getElem_cons_succ]
  exact markL_get m f l _ (by simpa using h)
theorem markL_take {α:Type} (m:α→Int→α) (f:α→Int→Int):∀ (l:List α) (k:Int) {i:Nat} (h:i < l.length),markL m f (l.take (i + 1)) k=markL m f (l.take i) k++[m l[i] (farL f (l.take i) k)]
 | x::l,k,0,h=>by simp [markL,farL]
 | x::l,k,i + 1,h=>by
  simp only [List.take_succ_cons,markL,farL,List.cons_append,List.getElem_cons_succ]
  rw [markL_take m f l _ (by simpa using h)]
theorem farL_le {α:Type} {f:α→Int→Int} {p:α→Prop} {l:List α} {n c:Nat} {k:Int} (h:l.length≤n∧∀ y∈l,p y) (hf:∀ y,p y→∀ k,k≤f y k∧f y k≤k + (c:Nat)):k≤farL f l k∧farL f l k≤k + ((n * c:Nat):Int):=by
 obtain ⟨h1,h2⟩:=h
 have key:∀ (l:List α) (k:Int),(∀ y∈l,p y)→k≤farL f l k∧farL f l k≤k + ((l.length * c:Nat):Int):=by
  intro l
  induction l with
  | nil=>intro k _; simp [farL]
  | cons x l ih =>
   intro k hp
   have a:=hf x (hp x (List.mem_cons_self ..)) k
   have b:=ih (f x k) fun y hy=>hp y (List.mem_cons_of_mem _ hy)
   simp only [farL,List.length_cons,Nat.add_mul,Nat.one_mul]
   omega
 have a:=key l k h2
 have b:=Nat.mul_le_mul_right c h1
 omega
theorem markL_len {α:Type} (R:α→List T) (m:α→Int→α) (f:α→Int→Int) (l:List α) (k:Int) {i:Nat} (hi:i≤l.length):((markL m f (l.take i) k).map R++(l.drop i).map R).length=l.length:=by simp [markL_length]; omega
theorem markL_at {α:Type} (R:α→List T) (m:α→Int→α) (f:α→Int→Int) (l:List α) (k:Int) {i:Nat} (hi:i < l.length):((markL m f (l.take i) k).map R++(l.drop i).map R)[i]?=some (R l[i]):=by
 rw [List.getElem?_append_right (by simp [markL_length]; omega),List.length_map,markL_length,List.length_take,Nat.min_eq_left (by omega),Nat.sub_self,List.getElem?_map,List.getElem?_drop]
 simp [hi]
theorem markL_reat {α:Type} (R:α→List T) (m:α→Int→α) (f:α→Int→Int) (l:List α) (k:Int) {i:Nat} (hi:i < l.length) (r:List T):(((markL m f (l.take i) k).map R++(l.drop i).map R).set i r)[i]?=some r:=by
 rw [List.getElem?_set_self (by rw [markL_len R m f l k (by omega)]; exact hi)]
theorem markL_set {α:Type} (R:α→List T) (m:α→Int→α) (f:α→Int→Int) (l:List α) (k:Int) {i:Nat} (hi:i < l.length):((markL m f (l.take i) k).map R++(l.drop i).map R).set i (R (m l[i] (farL f (l.take i) k)))=(markL m f (l.take (i + 1)) k).map R++(l.drop (i + 1)).map R:=by
 have e:((markL m f (l.take i) k).map R).length=i:=by rw [List.length_map,markL_length,List.length_take]; omega
 rw [List.set_append_right _ _ (by omega),e,Nat.sub_self,List.drop_eq_getElem_cons hi,List.map_cons,List.set_cons_zero,markL_take m f l k hi,List.map_append,List.append_assoc]
 rfl
def mkB (k:Int):Bool:=k.tmod 3==0
theorem byte_neq (a b:UInt8):binV .neq (.int .u8 a.toNat) (.int .u8 b.toNat)=some (.bool (!decide (a=b))):=by
 have:((a.toNat:Int)=b.toNat)↔a=b:=by rw [Int.ofNat_inj]; exact UInt8.toNat_inj
 rw [bI_neq]
 by_cases h:a=b
 ·subst h; simp
 ·have h2:¬ ((a.toNat:Int)=b.toNat):=fun e=>h (this.1 e)
  simp [h,bne,h2]
def digs (n:Nat) (out:ByteArray):ByteArray:=if h:n=0 then out else digs (n / 10) (⟨#[UInt8.ofNat (48 + n % 10)]⟩++out)
termination_by n
decreasing_by omega
def mkS (k:Int):ByteArray:=if k≤0 then ⟨#[109,48]⟩ else ⟨#[109]⟩++digs k.toNat ⟨#[]⟩
def mkI (k:Int):Int:=k
def mkU (k:Int):UInt8:=UInt8.ofNat (k % 256).toNat
theorem mkU_wrap (k:Int):IntKind.u8.wrap k=((mkU k).toNat:Int):=by
 have h1:=Int.emod_nonneg k (show (256:Int)≠0 by decide)
 have h2:=Int.emod_lt_of_pos k (show (0:Int) < 256 by decide)
 have h3:(mkU k).toNat=(k % 256).toNat:=by
  rw [mkU,UInt8.toNat_ofNat',Nat.mod_eq_of_lt (by omega)]
 rw [h3,IntKind.wrap_u8]
 omega
structure Msg where
 Kind:Int
 From:Int
 To:Int
 Seq:Int
 Key:ByteArray
 Text:ByteArray
 N:Int
 Code:Int
 deriving DecidableEq
abbrev Msg.row (x:Msg):List Go.X.T:=[iT x.Kind,iT x.From,iT x.To,iT x.Seq,sT x.Key,sT x.Text,iT x.N,iT x.Code]
def Msg.In (n:Nat) (x:Msg):Prop:=x.Key.size≤n∧x.Text.size≤n
theorem Msg.In.mono {x:Msg} {n m:Nat} (h:x.In n) (hn:n≤m):x.In m:=by
 simp only [Msg.In] at h ⊢
 exact ⟨Nat.le_trans h.1 hn,Nat.le_trans h.2 hn⟩
def szMsg (x:Msg) (k:Int):Int:=szAll [(fun k=>k - (x.Key.size:Nat)),(fun k=>k - (x.Text.size:Nat))] k
theorem szMsg_sane (x:Msg):Sane (szMsg x):=Sane.all (.cons (Sane.sub _) (.cons (Sane.sub _) .nil))
theorem szMsg_in {x:Msg} {k:Int} {n:Nat} (hk:0≤k) (hn:k≤n) (h:0≤szMsg x k):x.In n:=by
 obtain ⟨⟨j0,a0,b0,c0⟩,⟨j1,a1,b1,c1⟩,_⟩:=szAll_ex (.cons (Sane.sub _) (.cons (Sane.sub _) .nil)) hk hn h
 exact ⟨(by have q:(0:Int)≤j0 - _:=c0; omega),(by have q:(0:Int)≤j1 - _:=c1; omega)⟩
def mkMsg (k:Int):Msg:=⟨k,k + 1,k + 1 + 1,k + 1 + 1 + 1,mkS (k + 1 + 1 + 1 + 1),mkS (k + 1 + 1 + 1 + 1 + 1),k + 1 + 1 + 1 + 1 + 1 + 1,k + 1 + 1 + 1 + 1 + 1 + 1 + 1⟩
def win (n a b:Int):Bool:=decide (n≥a)&&decide (n≤b)
abbrev C_i_within (Te:TE):Prop:=∀ (n a b:Int),Te 90 [.one (iT n),.one (iT a),.one (iT b)] ⟨[.one (bT (win n a b))],[[iT n],[iT a],[iT b]]⟩
abbrev C_s_l1In (Te:TE):Prop:=∀ (n a b:Int),Te 120 [.one (iT n),.one (iT a),.one (iT b)] ⟨[.one (bT (win n a b))],[[iT n],[iT a],[iT b]]⟩
abbrev C_i_isWord (Te:TE):Prop:=∀ (n:Int),Te 247 [.one (iT n)] ⟨[.one (bT (win n 0 65535))],[[iT n]]⟩
abbrev C_s_l1Word (Te:TE):Prop:=∀ (n:Int),Te 161 [.one (iT n)] ⟨[.one (bT (win n 0 65535))],[[iT n]]⟩
structure Lead where
 Phase:Int
 Acked:List Bool
 Ended:List Bool
 At:List ByteArray
 deriving DecidableEq
abbrev Lead.enc (o:Bool) (x:Lead):List Go.X.T:=[iT x.Phase,slT o 1 bR x.Acked,slT o 1 bR x.Ended,slT o 1 sR x.At]
def Lead.In (n:Nat) (x:Lead):Prop:=x.Acked.length≤n∧x.Ended.length≤n∧(x.At.length≤n∧∀ y∈x.At,y.size≤n)
theorem Lead.In.mono {x:Lead} {n m:Nat} (h:x.In n) (hn:n≤m):x.In m:=by
 simp only [Lead.In] at h ⊢
 exact ⟨Nat.le_trans h.1 hn,Nat.le_trans h.2.1 hn,⟨Nat.le_trans h.2.2.1 hn,fun y hy=>Nat.le_trans (h.2.2.2 y hy) hn⟩⟩
def szLead (x:Lead) (k:Int):Int:=szAll [(fun k=>left (k - (x.Acked.length:Nat))),(fun k=>left (k - (x.Ended.length:Nat))),(szSl szStr x.At)] k
theorem szLead_sane (x:Lead):Sane (szLead x):=Sane.all (.cons (Sane.left _) (.cons (Sane.left _) (.cons (Sane.sl szStr_sane _) .nil)))
theorem szLead_in {x:Lead} {k:Int} {n:Nat} (hk:0≤k) (hn:k≤n) (h:0≤szLead x k):x.In n:=by
 obtain ⟨⟨j0,a0,b0,c0⟩,⟨j1,a1,b1,c1⟩,⟨j2,a2,b2,c2⟩,_⟩:=szAll_ex (.cons (Sane.left _) (.cons (Sane.left _) (.cons (Sane.sl szStr_sane _) .nil))) hk hn h
 exact ⟨(by have:=left_in c0; omega),(by have:=left_in c1; omega),(szSl_in szStr_sane (fun a j h0 hn h=>by have:=left_in h; omega) a2 b2 c2)⟩
def Lead.Len (x:Lead):Prop:=x.Acked.length≤2 ^ 31∧x.Ended.length≤2 ^ 31∧x.At.length≤2 ^ 31
theorem Lead.In.len {x:Lead} {n:Nat} (h:x.In n) (hn:n≤2 ^ 31):x.Len:=by
 obtain ⟨h0,h1,h2⟩:=h
 exact ⟨Nat.le_trans h0 hn,Nat.le_trans h1 hn,Nat.le_trans h2.1 hn⟩
def Lead.mark (x:Lead) (k:Int):Lead:=⟨x.Phase,marks 1 mkB x.Acked.length (k),marks 1 mkB x.Ended.length (k + (1 * x.Acked.length:Nat)),marks 1 mkS x.At.length (k + (1 * x.Acked.length:Nat) + (1 * x.Ended.length:Nat))⟩
def Lead.far (x:Lead) (k:Int):Int:=k + (1 * x.Acked.length:Nat) + (1 * x.Ended.length:Nat) + (1 * x.At.length:Nat)
theorem Lead.mark_Acked (x:Lead) (k:Int):(x.mark k).Acked.length=x.Acked.length:=by simp [Lead.mark,marks_length,markL_length]
theorem Lead.take_Acked {β:Type} (f:Bool→β) (x:Lead) (k:Int):((x.mark k).Acked.map f).take x.Acked.length=(x.mark k).Acked.map f:=by rw [← x.mark_Acked k,take_map]
theorem Lead.mark_Ended (x:Lead) (k:Int):(x.mark k).Ended.length=x.Ended.length:=by simp [Lead.mark,marks_length,markL_length]
theorem Lead.take_Ended {β:Type} (f:Bool→β) (x:Lead) (k:Int):((x.mark k).Ended.map f).take x.Ended.length=(x.mark k).Ended.map f:=by rw [← x.mark_Ended k,take_map]
theorem Lead.mark_At (x:Lead) (k:Int):(x.mark k).At.length=x.At.length:=by simp [Lead.mark,marks_length,markL_length]
theorem Lead.take_At {β:Type} (f:ByteArray→β) (x:Lead) (k:Int):((x.mark k).At.map f).take x.At.length=(x.mark k).At.map f:=by rw [← x.mark_At k,take_map]
def walks (p:Int):Bool:=(p==2)||(p==3)||(p==4)||(p==6)
def final (p:Int):Bool:=(p==5)||(p==7)
abbrev C_i_Walks (Te:TE):Prop:=∀ (p:Int),Te 21 [.one (iT p)] ⟨[.one (bT (walks p))],[[iT p]]⟩
abbrev C_s_Walks (Te:TE):Prop:=∀ (p:Int),Te 115 [.one (iT p)] ⟨[.one (bT (walks p))],[[iT p]]⟩
abbrev bytesR (o:Bool) (l:List UInt8):List T:=[slT o 1 uR l]
theorem toNat_ofInt (a:Nat) (h:a < 2 ^ 62):(BitVec.ofInt 64 (a:Int)).toNat=a:=by
 rw [BitVec.toNat_ofInt]
 omega
theorem xor_nat (a b:Nat) (ha:a < 2 ^ 62) (hb:b < 2 ^ 62):xorK .i64 (a:Int) (b:Int)=((a ^^^ b:Nat):Int):=by
 rw [xorK_def,show IntKind.i64.bits=64 from rfl,BitVec.toNat_xor,toNat_ofInt a ha,toNat_ofInt b hb,IntWalk.i64_in]
 have:=Nat.xor_lt_two_pow ha hb
 omega
theorem or_nat (a b:Nat) (ha:a < 2 ^ 62) (hb:b < 2 ^ 62):orK .i64 (a:Int) (b:Int)=((a ||| b:Nat):Int):=by
 rw [orK_def,show IntKind.i64.bits=64 from rfl,BitVec.toNat_or,toNat_ofInt a ha,toNat_ofInt b hb,IntWalk.i64_in]
 have:=Nat.or_lt_two_pow ha hb
 omega
theorem and_nat (a b:Nat) (ha:a < 2 ^ 62) (hb:b < 2 ^ 62):andK .i64 (a:Int) (b:Int)=((a &&& b:Nat):Int):=by
 rw [andK_def,show IntKind.i64.bits=64 from rfl,BitVec.toNat_and,toNat_ofInt a ha,toNat_ofInt b hb,IntWalk.i64_in]
 have:=Nat.and_lt_two_pow a hb
 omega
theorem min8:Nat.min 8 64=8:=rfl
theorem and255 (a:Int):mkU (andK .i64 a 255)=mkU a:=by
 rw [andK_def]
 show mkU (IntKind.i64.wrap ((BitVec.ofInt 64 a &&& BitVec.ofInt 64 255).toNat))=mkU a
 have e:(BitVec.ofInt 64 a &&& BitVec.ofInt 64 255).toNat=(a % 256).toNat:=by
  rw [BitVec.toNat_and,BitVec.toNat_ofInt,show (BitVec.ofInt 64 255).toNat=2 ^ 8 - 1 by decide,Nat.and_two_pow_sub_one_eq_mod]
  omega
 rw [e,IntWalk.i64_in _ (by omega)]
 simp only [mkU]
 congr 1
 omega
theorem ofBytes_eq (l:List UInt8):ofBytes l=l.map uR:=rfl
def hiB (n:Int):UInt8:=mkU (n.fdiv 256)
def putW (b:List UInt8) (n:Int):List UInt8:=b++[hiB n,mkU n]
def putText (b:List UInt8) (s:ByteArray):List UInt8:=if (s.size:Int) > 60 then b else putW b s.size++s.data.toList
def sumBit (s:Nat):Nat:=if 2 * s > 65535 then 2 * s ^^^ 69665 else 2 * s
def sumBits:Nat→Nat→Nat
 | 0,s=>s
 | n + 1,s=>sumBit (sumBits n s)
def sumByte (s:Nat) (b:UInt8):Nat:=sumBits 8 (s ^^^ (256 * b.toNat))
def sum (l:List UInt8):Nat:=l.foldl sumByte 65535 &&& 65535
theorem sumBit_lt {s:Nat} (h:s < 65536):sumBit s < 65536:=by
 unfold sumBit
 split
 ·rename_i q
  have h1:2 * s < 2 ^ 17:=by omega
  refine Nat.lt_pow_two_of_testBit (n:=16) _ fun i hi=>?_
  rw [Nat.testBit_xor]
  by_cases h16:i=16
  ·subst h16
   have:(2 * s).testBit 16=true:=by
    rw [Nat.testBit_eq_decide_div_mod_eq]
    have:2 * s / 2 ^ 16=1:=by omega
    simp [this]
   rw [this]; decide
  ·rw [Nat.testBit_lt_two_pow (Nat.lt_of_lt_of_le h1 (Nat.pow_le_pow_right (by decide) (by omega))),Nat.testBit_lt_two_pow (Nat.lt_of_lt_of_le (show 69665 < 2 ^ 17 by decide) (Nat.pow_le_pow_right (by decide) (by omega)))]
   rfl
 ·omega
theorem sumBits_lt (n:Nat) {s:Nat} (h:s < 65536):sumBits n s < 65536:=by
 induction n with
 | zero=>exact h
 | succ n ih=>exact sumBit_lt ih
theorem sumX_lt {s:Nat} (b:UInt8) (h:s < 65536):s ^^^ (256 * b.toNat) < 65536:=Nat.xor_lt_two_pow (n:=16) h (by have:=b.toNat_lt; omega)
theorem sumByte_lt {s:Nat} (b:UInt8) (h:s < 65536):sumByte s b < 65536:=sumBits_lt 8 (sumX_lt b h)
abbrev C_i_joined (Te:TE):Prop:=∀ (ps:List (List UInt8)) (h:ps.flatten.length≤2 ^ 31) (h2:ps.length≤2 ^ 31),Te 100 [.one (slT false 1 (bytesR false) ps)] ⟨[.one (slT true 1 uR ps.flatten)],[[slT false 1 (bytesR false) ps]]⟩
abbrev C_i_Sum (Te:TE):Prop:=∀ (l:List UInt8) (h:l.length≤2 ^ 31),Te 315 [.one (slT false 1 uR l)] ⟨[.one (iT (sum l))],[[slT false 1 uR l]]⟩
abbrev C_s_Sum (Te:TE):Prop:=∀ (l:List UInt8) (h:l.length≤2 ^ 31),Te 285 [.one (slT false 1 uR l)] ⟨[.one (iT (sum l))],[[slT false 1 uR l]]⟩
abbrev C_i_PutW (Te:TE):Prop:=∀ (b:List UInt8) (n:Int) (h:b.length≤2 ^ 30),Te 312 [.one (slT false 1 uR b),.one (iT n)] ⟨[.one (slT true 1 uR (putW b n))],[[slT false 1 uR b],[iT n]]⟩
abbrev C_s_PutW (Te:TE):Prop:=∀ (b:List UInt8) (n:Int) (h:b.length≤2 ^ 30),Te 282 [.one (slT false 1 uR b),.one (iT n)] ⟨[.one (slT true 1 uR (putW b n))],[[slT false 1 uR b],[iT n]]⟩
theorem putW_len (b:List UInt8) (n:Int):(putW b n).length=b.length + 2:=by simp only [putW,List.length_append]; rfl
theorem putText_len (b:List UInt8) (t:ByteArray):(putText b t).length≤b.length + 62:=by
 unfold putText
 split
 ·omega
 ·have:t.data.toList.length=t.size:=by rw [Array.length_toList]; rfl
  rw [List.length_append,putW_len]
  omega
theorem flat1 {α:Type} (a:List α):[a].flatten=a:=by rw [List.flatten_cons,List.flatten_nil,List.append_nil]
theorem flat2 {α:Type} (a b:List α):[a,b].flatten=a++b:=by rw [List.flatten_cons,flat1]
abbrev C_s_PutText (Te:TE):Prop:=∀ (b:List UInt8) (t:ByteArray) (h:b.length≤2 ^ 29) (ht:t.size≤2 ^ 48),Te 284 [.one (slT false 1 uR b),.one (sT t)] ⟨[.one (slT true 1 uR (putText b t))],[[slT false 1 uR b],[sT t]]⟩
abbrev C_i_PutText (Te:TE):Prop:=∀ (b:List UInt8) (t:ByteArray) (h:b.length≤2 ^ 29) (ht:t.size≤2 ^ 48),Te 314 [.one (slT false 1 uR b),.one (sT t)] ⟨[.one (slT true 1 uR (putText b t))],[[slT false 1 uR b],[sT t]]⟩
structure CurV where
 b:List UInt8
 i:Int
 h:Int
abbrev CurV.enc (c:CurV):List Go.X.T:=[slT false 1 uR c.b,iT c.i,iT c.h]
def CurV.ok (c:CurV):Prop:=0≤c.i∧c.i≤c.b.length∧c.b.length≤2 ^ 31
theorem andK_255 (a:Int):0≤andK .i64 a 255∧andK .i64 a 255≤255:=by
 rw [andK_def]
 show 0≤IntKind.i64.wrap ((BitVec.ofInt 64 a &&& BitVec.ofInt 64 255).toNat)∧IntKind.i64.wrap ((BitVec.ofInt 64 a &&& BitVec.ofInt 64 255).toNat)≤255
 have e:(BitVec.ofInt 64 a &&& BitVec.ofInt 64 255).toNat=(a % 256).toNat:=by
  rw [BitVec.toNat_and,BitVec.toNat_ofInt,show (BitVec.ofInt 64 255).toNat=2 ^ 8 - 1 by decide,Nat.and_two_pow_sub_one_eq_mod]
  omega
 rw [e,IntWalk.i64_in _ (by omega)]
 omega
theorem tmod_in {a n:Int} (ha:0≤a) (hn:0 < n):0≤a.tmod n∧a.tmod n < n:=by
 rw [Int.tmod_eq_emod_of_nonneg ha]
 exact ⟨Int.emod_nonneg _ (by omega),Int.emod_lt_of_pos _ hn⟩
abbrev C_l_big (Te:TE):Prop:=∀ (l:List UInt8),Te 9 [.one (slT false 1 uR l)] ⟨[.one (bT (decide ((l.length:Int) > 1048576)))],[[slT false 1 uR l]]⟩
abbrev C_l_at (Te:TE):Prop:=∀ (l:List UInt8) (i:Int) (hi:0≤i∧i≤2 ^ 31) (hl:l.length≤2 ^ 31),∃ (r:Int),(0≤r∧r≤255)∧Te 24 [.one (slT false 1 uR l),.one (iT i)] ⟨[.one (iT r)],[[slT false 1 uR l],[iT i]]⟩
abbrev C_s_l1New (Te:TE):Prop:=∀ (l:List UInt8) (hl:l.length≤2 ^ 31),∃ (c:CurV),(c.ok)∧Te 58 [.one (slT false 1 uR l)] ⟨[.ptr c.enc],[[slT false 1 uR l]]⟩
abbrev C_s_l1Byte (Te:TE):Prop:=∀ (c:CurV) (hc:c.ok),∃ (r:Int) (d:CurV),((0≤r∧r≤255)∧d.ok)∧Te 181 [.ptr c.enc] ⟨[.one (iT r)],[d.enc]⟩
abbrev C_s_l1Below (Te:TE):Prop:=∀ (c:CurV) (n:Int) (hc:c.ok),∃ (r:Int) (d:CurV),((0≤r∧(0 < n→r < n)∧(n≤0→r=0))∧d.ok)∧Te 96 [.ptr c.enc,.one (iT n)] ⟨[.one (iT r)],[d.enc,[iT n]]⟩
abbrev C_s_l1Int (Te:TE):Prop:=∀ (c:CurV) (l:List Int) (hc:c.ok) (hl:0 < l.length∧l.length≤2 ^ 31),∃ (r:Int) (d:CurV),(r∈l∧d.ok)∧Te 70 [.ptr c.enc,.one (slT true 1 iR l)] ⟨[.one (iT r)],[d.enc,[slT true 1 iR l]]⟩
abbrev C_s_l1Str (Te:TE):Prop:=∀ (c:CurV) (l:List ByteArray) (hc:c.ok) (hl:0 < l.length∧l.length≤2 ^ 31),∃ (r:ByteArray) (d:CurV),(r∈l∧d.ok)∧Te 114 [.ptr c.enc,.one (slT true 1 sR l)] ⟨[.one (sT r)],[d.enc,[slT true 1 sR l]]⟩
def nextOk (a b:Int):Bool:=(win a 0 4&&(b==IntKind.i64.wrap (a + 1)))||(win a 0 3&&(b==6))||((a==6)&&(b==7))
abbrev C_s_NextOk (Te:TE):Prop:=∀ (a b:Int),Te 113 [.one (iT a),.one (iT b)] ⟨[.one (bT (nextOk a b))],[[iT a],[iT b]]⟩
def koiL:List Int:=[1102,1072,1073,1094,1076,1077,1092,1075,1093,1080,1081,1082,1083,1084,1085,1086,1087,1103,1088,1089,1090,1091,1078,1074,1100,1099,1079,1096,1101,1097,1095,1098]
def winL:List Int:=[8364,0,8218,402,8222,8230,8224,8225,710,8240,352,8249,338,0,381,0,0,8216,8217,8220,8221,8226,8211,8212,732,8482,353,8250,339,0,382,376]
def winM:List Int:=[8364,-1,8218,402,8222,8230,8224,8225,710,8240,352,8249,338,-1,381,-1,-1,8216,8217,8220,8221,8226,8211,8212,732,8482,353,8250,339,-1,382,376]
def nine (b:Int):Int:=bif b==164 then 8364 else bif b==166 then 352 else bif b==168 then 353 else bif b==180 then 381 else bif b==184 then 382 else bif b==188 then 338 else bif b==189 then 339 else bif b==190 then 376 else b
def koi (d b:Int):Int:=bif decide (b≥224) then koiL.getD (b - 224).toNat 0 - 32 else bif decide (b≥192) then koiL.getD (b - 192).toNat 0 else bif b==163 then 1105 else bif b==179 then 1025 else d
def winB (l:List Int) (b:Int):Int:=bif decide (b≥160) then b else l.getD (b - 128).toNat 0
theorem koi_in:∀ k:Fin 32,0≤koiL.getD k.val 0∧koiL.getD k.val 0≤65535:=by decide
theorem getD_at {l:List Int} {k:Nat} (hk:k < l.length):l[k]?=some (l.getD k 0):=by rw [List.getD_eq_getElem?_getD,List.getElem?_eq_getElem hk]; rfl
theorem koi_cel {k:Nat} (hk:k < 32):([Cel.pv (Value.int IntKind.i64 1102),Cel.pv (Value.int IntKind.i64 1072),Cel.pv (Value.int IntKind.i64 1073),Cel.pv (Value.int IntKind.i64 1094),Cel.pv (Value.int IntKind.i64 1076),Cel.pv (Value.int IntKind.i64 1077),Cel.pv (Value.int IntKind.i64 1092),Cel.pv (Value.int IntKind.i64 1075),Cel.pv (Value.int IntKind.i64 1093),Cel.pv (Value.int IntKind.i64 1080),Cel.pv (Value.int IntKind.i64 1081),Cel.pv (Value.int IntKind.i64 1082),Cel.pv (Value.int IntKind.i64 1083),Cel.pv (Value.int IntKind.i64 1084),Cel.pv (Value.int IntKind.i64 1085),Cel.pv (Value.int IntKind.i64 1086),Cel.pv (Value.int IntKind.i64 1087),Cel.pv (Value.int IntKind.i64 1103),Cel.pv (Value.int IntKind.i64 1088),Cel.pv (Value.int IntKind.i64 1089),Cel.pv (Value.int IntKind.i64 1090),Cel.pv (Value.int IntKind.i64 1091),Cel.pv (Value.int IntKind.i64 1078),Cel.pv (Value.int IntKind.i64 1074),Cel.pv (Value.int IntKind.i64 1100),Cel.pv (Value.int IntKind.i64 1099),Cel.pv (Value.int IntKind.i64 1079),Cel.pv (Value.int IntKind.i64 1096),Cel.pv (Value.int IntKind.i64 1101),Cel.pv (Value.int IntKind.i64 1097),Cel.pv (Value.int IntKind.i64 1095),Cel.pv (Value.int IntKind.i64 1098)]:List Cel)[k]?=some (Cel.pv (Value.int IntKind.i64 (koiL.getD k 0))):=by
 show (koiL.map fun a=>Cel.pv (Value.int IntKind.i64 a))[k]?=_
 rw [List.getElem?_map,getD_at (l:=koiL) hk]; rfl
theorem win_cel {k:Nat} (hk:k < 32):([Cel.pv (Value.int IntKind.i64 8364),Cel.pv (Value.int IntKind.i64 0),Cel.pv (Value.int IntKind.i64 8218),Cel.pv (Value.int IntKind.i64 402),Cel.pv (Value.int IntKind.i64 8222),Cel.pv (Value.int IntKind.i64 8230),Cel.pv (Value.int IntKind.i64 8224),Cel.pv (Value.int IntKind.i64 8225),Cel.pv (Value.int IntKind.i64 710),Cel.pv (Value.int IntKind.i64 8240),Cel.pv (Value.int IntKind.i64 352),Cel.pv (Value.int IntKind.i64 8249),Cel.pv (Value.int IntKind.i64 338),Cel.pv (Value.int IntKind.i64 0),Cel.pv (Value.int IntKind.i64 381),Cel.pv (Value.int IntKind.i64 0),Cel.pv (Value.int IntKind.i64 0),Cel.pv (Value.int IntKind.i64 8216),Cel.pv (Value.int IntKind.i64 8217),Cel.pv (Value.int IntKind.i64 8220),Cel.pv (Value.int IntKind.i64 8221),Cel.pv (Value.int IntKind.i64 8226),Cel.pv (Value.int IntKind.i64 8211),Cel.pv (Value.int IntKind.i64 8212),Cel.pv (Value.int IntKind.i64 732),Cel.pv (Value.int IntKind.i64 8482),Cel.pv (Value.int IntKind.i64 353),Cel.pv (Value.int IntKind.i64 8250),Cel.pv (Value.int IntKind.i64 339),Cel.pv (Value.int IntKind.i64 0),Cel.pv (Value.int IntKind.i64 382),Cel.pv (Value.int IntKind.i64 376)]:List Cel)[k]?=some (Cel.pv (Value.int IntKind.i64 (winL.getD k 0))):=by
 show (winL.map fun a=>Cel.pv (Value.int IntKind.i64 a))[k]?=_
 rw [List.getElem?_map,getD_at (l:=winL) hk]; rfl
theorem koi_row {k:Nat} (hk:k < 32):([[Tr.pv (Value.int IntKind.i64 1102)],[Tr.pv (Value.int IntKind.i64 1072)],[Tr.pv (Value.int IntKind.i64 1073)],[Tr.pv (Value.int IntKind.i64 1094)],[Tr.pv (Value.int IntKind.i64 1076)],[Tr.pv (Value.int IntKind.i64 1077)],[Tr.pv (Value.int IntKind.i64 1092)],[Tr.pv (Value.int IntKind.i64 1075)],[Tr.pv (Value.int IntKind.i64 1093)],[Tr.pv (Value.int IntKind.i64 1080)],[Tr.pv (Value.int IntKind.i64 1081)],[Tr.pv (Value.int IntKind.i64 1082)],[Tr.pv (Value.int IntKind.i64 1083)],[Tr.pv (Value.int IntKind.i64 1084)],[Tr.pv (Value.int IntKind.i64 1085)],[Tr.pv (Value.int IntKind.i64 1086)],[Tr.pv (Value.int IntKind.i64 1087)],[Tr.pv (Value.int IntKind.i64 1103)],[Tr.pv (Value.int IntKind.i64 1088)],[Tr.pv (Value.int IntKind.i64 1089)],[Tr.pv (Value.int IntKind.i64 1090)],[Tr.pv (Value.int IntKind.i64 1091)],[Tr.pv (Value.int IntKind.i64 1078)],[Tr.pv (Value.int IntKind.i64 1074)],[Tr.pv (Value.int IntKind.i64 1100)],[Tr.pv (Value.int IntKind.i64 1099)],[Tr.pv (Value.int IntKind.i64 1079)],[Tr.pv (Value.int IntKind.i64 1096)],[Tr.pv (Value.int IntKind.i64 1101)],[Tr.pv (Value.int IntKind.i64 1097)],[Tr.pv (Value.int IntKind.i64 1095)],[Tr.pv (Value.int IntKind.i64 1098)]]:List (List T))[k]?=some ([Tr.pv (Value.int IntKind.i64 (koiL.getD k 0))]):=by
 show (koiL.map fun a=>[Tr.pv (Value.int IntKind.i64 a)])[k]?=_
 rw [List.getElem?_map,getD_at (l:=koiL) hk]; rfl
theorem win_row {k:Nat} (hk:k < 32):([[Tr.pv (Value.int IntKind.i64 8364)],[Tr.pv (Value.int IntKind.i64 (-1))],[Tr.pv (Value.int IntKind.i64 8218)],[Tr.pv (Value.int IntKind.i64 402)],[Tr.pv (Value.int IntKind.i64 8222)],[Tr.pv (Value.int IntKind.i64 8230)],[Tr.pv (Value.int IntKind.i64 8224)],[Tr.pv (Value.int IntKind.i64 8225)],[Tr.pv (Value.int IntKind.i64 710)],[Tr.pv (Value.int IntKind.i64 8240)],[Tr.pv (Value.int IntKind.i64 352)],[Tr.pv (Value.int IntKind.i64 8249)],[Tr.pv (Value.int IntKind.i64 338)],[Tr.pv (Value.int IntKind.i64 (-1))],[Tr.pv (Value.int IntKind.i64 381)],[Tr.pv (Value.int IntKind.i64 (-1))],[Tr.pv (Value.int IntKind.i64 (-1))],[Tr.pv (Value.int IntKind.i64 8216)],[Tr.pv (Value.int IntKind.i64 8217)],[Tr.pv (Value.int IntKind.i64 8220)],[Tr.pv (Value.int IntKind.i64 8221)],[Tr.pv (Value.int IntKind.i64 8226)],[Tr.pv (Value.int IntKind.i64 8211)],[Tr.pv (Value.int IntKind.i64 8212)],[Tr.pv (Value.int IntKind.i64 732)],[Tr.pv (Value.int IntKind.i64 8482)],[Tr.pv (Value.int IntKind.i64 353)],[Tr.pv (Value.int IntKind.i64 8250)],[Tr.pv (Value.int IntKind.i64 339)],[Tr.pv (Value.int IntKind.i64 (-1))],[Tr.pv (Value.int IntKind.i64 382)],[Tr.pv (Value.int IntKind.i64 376)]]:List (List T))[k]?=some ([Tr.pv (Value.int IntKind.i64 (winM.getD k 0))]):=by
 show (winM.map fun a=>[Tr.pv (Value.int IntKind.i64 a)])[k]?=_
 rw [List.getElem?_map,getD_at (l:=winM) hk]; rfl
abbrev C_i_nineSign (Te:TE):Prop:=∀ (b:Int),Te 325 [.one (iT b)] ⟨[.one (iT (nine b))],[[iT b]]⟩
abbrev C_s_l3Nine (Te:TE):Prop:=∀ (b:Int),Te 331 [.one (iT b)] ⟨[.one (iT (nine b))],[[iT b]]⟩
abbrev C_i_koiSign (Te:TE):Prop:=∀ (b:Int) (hb:128≤b∧b≤255),Te 326 [.one (iT b)] ⟨[.one (iT (koi 0 b))],[[iT b]]⟩
abbrev C_s_l3Koi (Te:TE):Prop:=∀ (b:Int) (hb:128≤b∧b≤255),Te 332 [.one (iT b)] ⟨[.one (iT (koi (-1) b))],[[iT b]]⟩
abbrev C_i_winSign (Te:TE):Prop:=∀ (b:Int) (hb:128≤b∧b≤255),Te 327 [.one (iT b)] ⟨[.one (iT (winB winL b))],[[iT b]]⟩
abbrev C_s_l3Win (Te:TE):Prop:=∀ (b:Int) (hb:128≤b∧b≤255),Te 333 [.one (iT b)] ⟨[.one (iT (winB winM b))],[[iT b]]⟩
def signOf (cs b:Int):Int:=bif cs==2 then nine b else bif cs==3 then koi 0 b else bif cs==4 then winB winL b else b
def byteSign (cs b:Int):Int×Bool:=bif win cs 1 4&&win b 0 255 then (bif decide (b≤127) then (b,true) else (signOf cs b,signOf cs b != 0)) else (0,false)
theorem koi_two:∀ k:Fin 128,koi (-1) ((k.val:Int) + 128)=(bif koi 0 ((k.val:Int) + 128)==0 then -1 else koi 0 ((k.val:Int) + 128))∧0≤koi 0 ((k.val:Int) + 128):=by decide
theorem win_two:∀ k:Fin 128,winB winM ((k.val:Int) + 128)=(bif winB winL ((k.val:Int) + 128)==0 then -1 else winB winL ((k.val:Int) + 128))∧0≤winB winL ((k.val:Int) + 128):=by decide
theorem nine_up:∀ k:Fin 128,0 < nine ((k.val:Int) + 128):=by decide
theorem at128 {p:Int→Prop} (h:∀ k:Fin 128,p ((k.val:Int) + 128)) {b:Int} (hb:128≤b∧b≤255):p b:=by
 have:=h ⟨(b - 128).toNat,by omega⟩
 rwa [show (((b - 128).toNat:Nat):Int) + 128=b by omega] at this
theorem koi_rel {b:Int} (hb:128≤b∧b≤255):koi (-1) b=(bif koi 0 b==0 then -1 else koi 0 b)∧0≤koi 0 b:=at128 (p:=fun b=>koi (-1) b=(bif koi 0 b==0 then -1 else koi 0 b)∧0≤koi 0 b) koi_two hb
theorem win_rel {b:Int} (hb:128≤b∧b≤255):winB winM b=(bif winB winL b==0 then -1 else winB winL b)∧0≤winB winL b:=at128 (p:=fun b=>winB winM b=(bif winB winL b==0 then -1 else winB winL b)∧0≤winB winL b) win_two hb
theorem nine_rel {b:Int} (hb:128≤b∧b≤255):0 < nine b:=at128 (p:=fun b=>0 < nine b) nine_up hb
abbrev C_i_ByteSign (Te:TE):Prop:=∀ (cs b:Int),Te 269 [.one (iT cs),.one (iT b)] ⟨[.one (iT (byteSign cs b).1),.one (bT (byteSign cs b).2)],[[iT cs],[iT b]]⟩
abbrev C_s_ByteSign (Te:TE):Prop:=∀ (cs b:Int),Te 274 [.one (iT cs),.one (iT b)] ⟨[.one (iT (byteSign cs b).1),.one (bT (byteSign cs b).2)],[[iT cs],[iT b]]⟩
def signOk (n:Int):Bool:=win n 0 1114111 && !win n 55296 57343
def enc8 (n:Nat):List UInt8 :=
 if n≤127 then [UInt8.ofNat n] else if n≤2047 then [UInt8.ofNat (192 + n / 64),UInt8.ofNat (128 + n % 64)]
 else if n≤65535 then [UInt8.ofNat (224 + n / 4096),UInt8.ofNat (128 + n / 64 % 64),UInt8.ofNat (128 + n % 64)]
 else [UInt8.ofNat (240 + n / 262144),UInt8.ofNat (128 + n / 4096 % 64),UInt8.ofNat (128 + n / 64 % 64),UInt8.ofNat (128 + n % 64)]
def putSign (b:List UInt8) (n:Int):List UInt8:=if signOk n=true then b++enc8 n.toNat else b
theorem enc8_len (n:Nat):0 < (enc8 n).length∧(enc8 n).length≤4:=by
 unfold enc8
 split
 ·simp
 ·split
  ·simp
  ·split <;> simp
theorem putSign_len (b:List UInt8) (n:Int):(putSign b n).length≤b.length + 4:=by
 unfold putSign
 split
 ·rw [List.length_append]; have:=(enc8_len n.toNat).2; omega
 ·omega
theorem signOk_in {n:Int} (h:signOk n=true):0≤n∧n≤1114111∧¬ (55296≤n∧n≤57343):=by
 simp only [signOk,win,Bool.and_eq_true,Bool.not_eq_true',decide_eq_true_eq,Bool.and_eq_false_imp,decide_eq_false_iff_not] at h
 omega
theorem or_hd (c i a:Nat) (hc:c=2 ^ i * a) {x:Nat} (hx:x < 2 ^ i) (hb:c < 2 ^ 60∧x < 2 ^ 60):orK .i64 (c:Int) (x:Int)=((c + x:Nat):Int):=by
 rw [or_nat c x (by omega) (by omega),hc,Nat.two_pow_add_eq_or_of_lt hx]
theorem mkU_nat (k:Nat):mkU (k:Int)=UInt8.ofNat k:=by
 have:((k:Int) % 256).toNat=k % 256:=by omega
 rw [mkU,this]
 apply UInt8.toNat_inj.1
 rw [UInt8.toNat_ofNat',UInt8.toNat_ofNat']
 omega
theorem and63 (m:Nat) (hm:m < 2 ^ 60):andK .i64 (m:Int) 63=((m % 64:Nat):Int):=by
 have:=and_nat m 63 (by omega) (by decide)
 rw [Nat.and_two_pow_sub_one_eq_mod m 6] at this
 exact this
theorem fdivN (m k:Nat):(m:Int).fdiv (k:Int)=((m / k:Nat):Int):=by
 rw [Int.fdiv_eq_ediv_of_nonneg _ (by omega)]
 rfl
theorem wrap8 (k:Nat) (h:k < 256):(k:Int)=((UInt8.ofNat k).toNat:Int):=by
 rw [UInt8.toNat_ofNat']
 omega
theorem or8 (c i a:Nat) (hc:c=2 ^ i * a) {x:Nat} (hx:x < 2 ^ i) (hb:c + x < 256):orK .u8 (c:Int) (x:Int)=((UInt8.ofNat (c + x)).toNat:Int):=by
 rw [orK_def]
 show IntKind.u8.wrap ((BitVec.ofInt 8 (c:Int) ||| BitVec.ofInt 8 (x:Int)).toNat)=_
 have h1:(BitVec.ofInt 8 (c:Int)).toNat=c:=by rw [BitVec.toNat_ofInt]; omega
 have h2:(BitVec.ofInt 8 (x:Int)).toNat=x:=by rw [BitVec.toNat_ofInt]; omega
 have h3:c ||| x=c + x:=by rw [hc,← Nat.two_pow_add_eq_or_of_lt hx]
 rw [BitVec.toNat_or,h1,h2,h3,← wrap8 _ hb,IntKind.wrap_u8]
 omega
theorem and8 (m:Nat) (hm:m < 256):andK .u8 (m:Int) 63=((m % 64:Nat):Int):=by
 rw [andK_def]
 show IntKind.u8.wrap ((BitVec.ofInt 8 (m:Int) &&& BitVec.ofInt 8 63).toNat)=_
 have h1:(BitVec.ofInt 8 (m:Int)).toNat=m:=by rw [BitVec.toNat_ofInt]; omega
 have h2:(BitVec.ofInt 8 63).toNat=2 ^ 6 - 1:=by decide
 rw [BitVec.toNat_and,h1,h2,Nat.and_two_pow_sub_one_eq_mod,IntKind.wrap_u8]
 omega
theorem mkU_toNat (k:Nat):(mkU (k:Int)).toNat=k % 256:=by rw [mkU_nat,UInt8.toNat_ofNat']
abbrev C_s_SignOk (Te:TE):Prop:=∀ (n:Int),Te 275 [.one (iT n)] ⟨[.one (bT (signOk n))],[[iT n]]⟩
abbrev C_i_SignOk (Te:TE):Prop:=∀ (n:Int),Te 270 [.one (iT n)] ⟨[.one (bT (signOk n))],[[iT n]]⟩
abbrev C_s_PutSign (Te:TE):Prop:=∀ (b:List UInt8) (n:Int) (hb:b.length≤2 ^ 30),Te 189 [.one (slT false 1 uR b),.one (iT n)] ⟨[.one (slT true 1 uR (putSign b n))],[[slT false 1 uR b],[iT n]]⟩
abbrev C_u_appendRuneNonASCII (Te:TE):Prop:=∀ (b:List UInt8) (m:Nat) (hb:b.length≤2 ^ 30) (hm:127 < m∧m≤1114111∧¬ (55296≤m∧m≤57343)),Te 328 [.one (slT true 1 uR b),.one (.pv (.int .i32 m))] ⟨[.one (slT true 1 uR (b++enc8 m))],[[.no ()],[.pv (.int .i32 m)]]⟩
abbrev C_u_AppendRune (Te:TE):Prop:=∀ (b:List UInt8) (m:Nat) (hb:b.length≤2 ^ 30) (hm:m≤1114111∧¬ (55296≤m∧m≤57343)),Te 271 [.one (slT true 1 uR b),.one (.pv (.int .i32 m))] ⟨[.one (slT true 1 uR (b++enc8 m))],[[.no ()],[.pv (.int .i32 m)]]⟩
abbrev C_i_PutSign (Te:TE):Prop:=∀ (b:List UInt8) (n:Int) (hb:b.length≤2 ^ 30),Te 186 [.one (slT false 1 uR b),.one (iT n)] ⟨[.one (slT true 1 uR (putSign b n))],[[slT false 1 uR b],[iT n]]⟩
theorem rngOn_mk {s:List (Nat×SV)} {b:List (Nat×List Cel)} {r:List (Nat×List T)} {tc td p c:Nat}:rngOn ⟨s,b,r⟩ tc td p c=⟨put (put s tc (.tup [.one (.pv (.bool true)),.one (.pv (.int .i64 p)),.one (.pv (.int .i32 c))])) td (.one (.pv (.bool true))),b,r⟩:=rfl
theorem rngOff_mk {s:List (Nat×SV)} {b:List (Nat×List Cel)} {r:List (Nat×List T)} {tc td:Nat}:rngOff ⟨s,b,r⟩ tc td=⟨put (put s tc (.tup [.one (.pv (.bool false))])) td (.one (.pv (.bool false))),b,r⟩:=rfl
theorem rngIn_mk {s:List (Nat×SV)} {b:List (Nat×List Cel)} {r:List (Nat×List T)} {ta tb i:Nat} {x:ByteArray}:rngIn ⟨s,b,r⟩ ta tb i x=⟨put (put s ta (.one (.pv (.string x)))) tb (itV i),b,r⟩:=rfl
def signAt (l:List UInt8):Option (Nat×Nat):=if (Lib.decodeL l).1=65533∧(Lib.decodeL l).2=1 then none else some (Lib.decodeL l)
def getSign (b:List UInt8) (i:Int):Int×Int×Bool:=if 0≤i∧i < b.length then (match signAt (b.drop i.toNat) with | some d=>((d.1:Int),i + (d.2:Nat),true) | none=>(0,0,false)) else (0,0,false)
theorem getSign_no {b:List UInt8} {i:Int} (h:¬ (0≤i∧i < b.length)):getSign b i=(0,0,false):=if_neg h
theorem getSign_bad {b:List UInt8} {i:Int} (h:0≤i∧i < b.length) (hd:signAt (b.drop i.toNat)=none):getSign b i=(0,0,false):=by rw [getSign,if_pos h,hd]
theorem getSign_good {b:List UInt8} {i:Int} {d:Nat×Nat} (h:0≤i∧i < b.length) (hd:signAt (b.drop i.toNat)=some d):getSign b i=((d.1:Int),i + (d.2:Nat),true):=by rw [getSign,if_pos h,hd]
theorem decodeL_bound (l:List UInt8):(Lib.decodeL l).1≤1114111:=by
 have h0:=(l.getD 0 0).toNat_lt
 have h1:=(l.getD 1 0).toNat_lt
 have h2:=(l.getD 2 0).toNat_lt
 have h3:=(l.getD 3 0).toNat_lt
 rw [Lib.decodeL_N]
 unfold Lib.decodeN
 repeat' split
 all_goals (simp only; omega)
theorem drop_map_take {α β:Type} (f:α→β) (l:List α) (k:Nat):List.take (l.length - k) (List.drop k (l.map f))=(l.drop k).map f:=by
 rw [← List.map_drop,List.take_of_length_le (by simp)]
abbrev C_u_DecodeRune (Te:TE):Prop:=∀ (l:List UInt8) (hl:l≠[]),Te 323 [.one (slT false 1 uR l)] ⟨[.one (.pv (.int .i32 (Lib.decodeL l).1)),.one (iT (Lib.decodeL l).2)],[[slT false 1 uR l]]⟩
abbrev C_u_ValidString (Te:TE):Prop:=∀ (s:ByteArray) (hs:s.size≤2 ^ 48),Te 369 [.one (sT s)] ⟨[.one (bT (Lib.validD s.data.toList))],[[sT s]]⟩
abbrev C_i_GetSign (Te:TE):Prop:=∀ (b:List UInt8) (i:Int) (hb:b.length≤2 ^ 40),Te 267 [.one (slT false 1 uR b),.one (iT i)] ⟨[.one (iT (getSign b i).1),.one (iT (getSign b i).2.1),.one (bT (getSign b i).2.2)],[[slT false 1 uR b],[iT i]]⟩
def signsF:Nat→List UInt8→List Int
 | 0,_=>[]
 | n + 1,l=>if l=[] then [] else ((Lib.decodeL l).1:Int)::signsF n (l.drop (Lib.decodeL l).2)
def signs (l:List UInt8):List Int:=signsF l.length l
theorem signsF_more:∀ (n m:Nat) (l:List UInt8),l.length≤n→l.length≤m→signsF n l=signsF m l
 | 0,0,l,_,_=>rfl
 | 0,m + 1,l,h,_=>by have:l=[]:=List.length_eq_zero_iff.1 (by omega); subst this; simp [signsF]
 | n + 1,0,l,_,h=>by have:l=[]:=List.length_eq_zero_iff.1 (by omega); subst this; simp [signsF]
 | n + 1,m + 1,l,h,h'=>by
  unfold signsF
  by_cases hne:l=[]
  ·simp [hne]
  ·have hw:=Lib.decodeL_width l
   have hl:0 < l.length:=List.length_pos_iff.2 hne
   rw [if_neg hne,if_neg hne,signsF_more n m (l.drop (Lib.decodeL l).2) (by rw [List.length_drop]; omega) (by rw [List.length_drop]; omega)]
theorem signs_nil:signs []=[]:=rfl
theorem signs_step {l:List UInt8} (hne:l≠[]):signs l=((Lib.decodeL l).1:Int)::signs (l.drop (Lib.decodeL l).2):=by
 have hw:=Lib.decodeL_width l
 have hl:0 < l.length:=List.length_pos_iff.2 hne
 obtain ⟨n,hn⟩:∃ n,l.length=n + 1:=⟨l.length - 1,by omega⟩
 unfold signs
 rw [hn]
 show (if l=[] then [] else _)=_
 rw [if_neg hne,signsF_more n (l.drop (Lib.decodeL l).2).length _ (by rw [List.length_drop]; omega) (Nat.le_refl _)]
theorem signs_len:∀ (n:Nat) (l:List UInt8),(signsF n l).length≤n
 | 0,_=>Nat.le_refl _
 | n + 1,l=>by
  unfold signsF
  split
  ·exact Nat.zero_le _
  ·rw [List.length_cons]; exact Nat.succ_le_succ (signs_len n _)
def signsOf (s:ByteArray):List Int×Bool:=if Lib.validD s.data.toList=true then (signs s.data.toList,true) else ([],false)
theorem sizeL (s:ByteArray):s.data.toList.length=s.size:=by rw [Array.length_toList]; rfl
abbrev C_i_Signs (Te:TE):Prop:=∀ (s:ByteArray) (hs:s.size≤2 ^ 31),Te 350 [.one (sT s)] ⟨[.one (slT true 1 iR (signsOf s).1),.one (bT (signsOf s).2)],[[sT s]]⟩
theorem str_small {l:List ByteArray} {r:ByteArray} (n:Nat) (hr:r∈l) (h:l.all (fun r=>decide (r.size≤n))=true):r.size≤n:=of_decide_eq_true (List.all_eq_true.1 h r hr)
theorem bytesOf_uL (l:List UInt8):bytesOf (l.map uR)=l:=by
 simp only [bytesOf,List.map_map,Function.comp_def,List.headD_cons,byteOf]
 conv=>rhs; rw [← List.map_id l]
 refine List.map_congr_left fun a _=>?_
 simp
theorem areBytes_uL:∀ l:List UInt8,areBytes (l.map uR)=true
 | []=>rfl
 | a::l=>by simp only [List.map_cons,areBytes,isByte,areBytes_uL l,Bool.and_true]
abbrev C_s_l1Name (Te:TE):Prop:=∀ (c:CurV) (hc:c.ok),∃ (r:ByteArray) (d:CurV),(r.size≤6∧d.ok)∧Te 93 [.ptr c.enc] ⟨[.one (sT r)],[d.enc]⟩
abbrev C_s_l2Sign (Te:TE):Prop:=∀ (c:CurV) (hc:c.ok),∃ (r:Int) (d:CurV),(d.ok)∧Te 287 [.ptr c.enc] ⟨[.one (iT r)],[d.enc]⟩
abbrev C_s_l5Sign (Te:TE):Prop:=∀ (c:CurV) (cs:Int) (hc:c.ok),∃ (r:Int) (d:CurV),(d.ok)∧Te 198 [.ptr c.enc,.one (iT cs)] ⟨[.one (iT r)],[d.enc,[iT cs]]⟩
abbrev C_s_l5Text (Te:TE):Prop:=∀ (c:CurV) (cs most:Int) (hc:c.ok) (hm:0≤most∧most≤100),∃ (r:ByteArray) (d:CurV),(r.size≤4 * most.toNat∧d.ok)∧Te 106 [.ptr c.enc,.one (iT cs),.one (iT most)] ⟨[.one (sT r)],[d.enc,[iT cs],[iT most]]⟩
abbrev C_s_l1Bend (Te:TE):Prop:=∀ (c:CurV) (b:List UInt8) (hc:c.ok) (hb:b.length≤2 ^ 20),∃ (r:List UInt8) (d:CurV),(r.length≤b.length∧d.ok)∧Te 183 [.ptr c.enc,.one (slT true 1 uR b)] ⟨[.one (slT true 1 uR r)],[d.enc,[slT true 1 uR b]]⟩
def l2len (b:Nat):Nat:=if b < 128 then 1 else if 194≤b∧b≤223 then 2 else if 224≤b∧b≤239 then 3 else if 240≤b∧b≤244 then 4 else 0
def byteN (l:List UInt8) (k:Nat):Nat:=(l.getD k 0).toNat
theorem byteN_lt (l:List UInt8) (k:Nat):byteN l k < 256:=(l.getD k 0).toNat_lt
def accN (l:List UInt8) (m:Nat):Nat→Nat
 | 0=>m
 | j + 1=>accN l m j * 64 + byteN l (j + 1) % 64
theorem decodeL_B (l:List UInt8):Lib.decodeL l=Lib.decodeN l.length (byteN l 0) (byteN l 1) (byteN l 2) (byteN l 3):=Lib.decodeL_N l
theorem sign_none {l:List UInt8} (h:Lib.decodeN l.length (byteN l 0) (byteN l 1) (byteN l 2) (byteN l 3)=(65533,1)):signAt l=none:=by
 unfold signAt
 rw [decodeL_B,h]
 exact if_pos ⟨rfl,rfl⟩
theorem sign_some {l:List UInt8} {n k:Nat} (h:Lib.decodeN l.length (byteN l 0) (byteN l 1) (byteN l 2) (byteN l 3)=(n,k)) (hk:k≠1∨n < 128):signAt l=some (n,k):=by
 unfold signAt
 rw [decodeL_B,h]
 exact if_neg (by simp only; omega)
theorem sign0 {l:List UInt8} (h:l2len (byteN l 0)=0∨l.length < l2len (byteN l 0)) (hl:0 < l.length):signAt l=none:=by
 have h0:=byteN_lt l 0
 refine sign_none ?_
 unfold l2len at h
 unfold Lib.decodeN
 repeat' split at h
 all_goals (repeat' split)
 all_goals first | rfl | (exfalso; omega)
theorem sign1 {l:List UInt8} (hl:0 < l.length) (h:byteN l 0 < 128):signAt l=some (byteN l 0,1):=by
 refine sign_some ?_ (.inr h)
 unfold Lib.decodeN
 rw [if_pos h]
theorem sign2 {l:List UInt8} (hl:2≤l.length) (h:194≤byteN l 0∧byteN l 0≤223):signAt l=if byteN l 1 / 64=2 then some (byteN l 0 % 32 * 64 + byteN l 1 % 64,2) else none:=by
 have h1:=byteN_lt l 1
 split
 ·refine sign_some ?_ (.inl (by decide))
  unfold Lib.decodeN
  repeat' split
  all_goals first | rfl | (exfalso; omega)
 ·refine sign_none ?_
  unfold Lib.decodeN
  repeat' split
  all_goals first | rfl | (exfalso; omega)
theorem sign3 {l:List UInt8} (hl:3≤l.length) (h:224≤byteN l 0∧byteN l 0≤239):signAt l=if byteN l 1 / 64=2∧byteN l 2 / 64=2∧2048≤byteN l 0 % 16 * 4096 + byteN l 1 % 64 * 64 + byteN l 2 % 64∧¬ (55296≤byteN l 0 % 16 * 4096 + byteN l 1 % 64 * 64 + byteN l 2 % 64∧byteN l 0 % 16 * 4096 + byteN l 1 % 64 * 64 + byteN l 2 % 64≤57343) then some (byteN l 0 % 16 * 4096 + byteN l 1 % 64 * 64 + byteN l 2 % 64,3) else none:=by
 have h1:=byteN_lt l 1
 have h2:=byteN_lt l 2
 split
 ·refine sign_some ?_ (.inl (by decide))
  unfold Lib.decodeN
  repeat' split
  all_goals first | rfl | (exfalso; omega)
 ·refine sign_none ?_
  unfold Lib.decodeN
  repeat' split
  all_goals first | rfl | (exfalso; omega)
theorem sign4 {l:List UInt8} (hl:4≤l.length) (h:240≤byteN l 0∧byteN l 0≤244):signAt l=if byteN l 1 / 64=2∧byteN l 2 / 64=2∧byteN l 3 / 64=2∧65536≤byteN l 0 % 8 * 262144 + byteN l 1 % 64 * 4096 + byteN l 2 % 64 * 64 + byteN l 3 % 64∧byteN l 0 % 8 * 262144 + byteN l 1 % 64 * 4096 + byteN l 2 % 64 * 64 + byteN l 3 % 64≤1114111 then some (byteN l 0 % 8 * 262144 + byteN l 1 % 64 * 4096 + byteN l 2 % 64 * 64 + byteN l 3 % 64,4) else none:=by
 have h1:=byteN_lt l 1
 have h2:=byteN_lt l 2
 have h3:=byteN_lt l 3
 split
 ·refine sign_some ?_ (.inl (by decide))
  unfold Lib.decodeN
  repeat' split
  all_goals first | rfl | (exfalso; omega)
 ·refine sign_none ?_
  unfold Lib.decodeN
  repeat' split
  all_goals first | rfl | (exfalso; omega)
theorem ofNat_eq {n:Nat} {b:UInt8} (h:n=b.toNat):UInt8.ofNat n=b:=by subst h; exact UInt8.ofNat_toNat
theorem four {l:List UInt8} (h:4≤l.length):∃ a b c d u,l=a::b::c::d::u:=by
 match l,h with
 | a::b::c::d::u,_=>exact ⟨a,b,c,d,u,rfl⟩
theorem enc_take {l:List UInt8} {n k:Nat} (hk:k≤l.length) (h:signAt l=some (n,k)):enc8 n=l.take k∧signOk n=true:=by
 unfold signAt at h
 split at h
 ·cases h
 ·rename_i hv
  simp only [Option.some.injEq] at h
  rw [decodeL_B] at h hv
  have b0:=byteN_lt l 0
  have b1:=byteN_lt l 1
  have b2:=byteN_lt l 2
  have b3:=byteN_lt l 3
  have hok:∀ n:Nat,n≤1114111→¬ (55296≤n∧n≤57343)→signOk (n:Int)=true:=fun n h1 h2=>by
   have e1:win (n:Int) 0 1114111=true:=by simp only [win,Bool.and_eq_true,decide_eq_true_eq]; omega
   have e2:win (n:Int) 55296 57343=false:=by
    simp only [win,Bool.and_eq_false_iff,decide_eq_false_iff_not]
    omega
   simp only [signOk,e1,e2,Bool.not_false,Bool.and_true]
  unfold Lib.decodeN at h hv
  split at h
  ·rename_i c0
   cases h
   refine ⟨?_,hok _ (by omega) (by omega)⟩
   match l,hk with
   | a::t,_ =>
    have c0':a.toNat < 128:=c0
    simp only [enc8,byteN,List.getD_cons_zero]
    rw [if_pos (by omega)]
    simp only [List.take_succ_cons,List.take_zero]
    rw [ofNat_eq rfl]
  ·rename_i c0
   rw [if_neg c0] at hv
   split at h
   ·rename_i c1
    rw [if_pos c1] at hv
    split at h
    ·rename_i c2
     cases h
     refine ⟨?_,hok _ (by omega) (by omega)⟩
     match l,hk with
     | a::b::t,_ =>
      simp only [byteN,List.getD_cons_zero,List.getD_cons_succ] at c0 c1 c2 b0 b1 ⊢
      simp only [enc8]
      rw [if_neg (by omega),if_pos (by omega),ofNat_eq (b:=a) (by omega),ofNat_eq (b:=b) (by omega)]
      rfl
    ·rename_i c2
     rw [if_neg c2] at hv
     exact absurd ⟨rfl,rfl⟩ hv
   ·rename_i c1
    rw [if_neg c1] at hv
    split at h
    ·rename_i c3
     rw [if_pos c3] at hv
     split at h
     ·rename_i c4
      cases h
      refine ⟨?_,hok _ (by omega) (by omega)⟩
      match l,hk with
      | a::b::c::t,_ =>
       simp only [byteN,List.getD_cons_zero,List.getD_cons_succ] at c0 c1 c3 c4 b0 b1 b2 ⊢
       simp only [enc8]
       rw [if_neg (by omega),if_neg (by omega),if_pos (by omega),ofNat_eq (b:=a) (by omega),ofNat_eq (b:=b) (by omega),ofNat_eq (b:=c) (by omega)]
       rfl
     ·rename_i c4
      rw [if_neg c4] at hv
      exact absurd ⟨rfl,rfl⟩ hv
    ·rename_i c3
     rw [if_neg c3] at hv
     split at h
     ·rename_i c5
      rw [if_pos c5] at hv
      split at h
      ·rename_i c6
       have e1:=congrArg Prod.fst h
       have e2:=congrArg Prod.snd h
       simp only at e1 e2
       subst e2
       subst e1
       refine ⟨?_,hok _ (by omega) (by omega)⟩
       obtain ⟨a,b,c,d,u,rfl⟩:∃ a b c d u,l=a::b::c::d::u:=four hk
       clear hv h hk hok
       simp only [byteN,List.getD_cons_zero,List.getD_cons_succ] at c0 c1 c3 c5 c6 b0 b1 b2 b3 ⊢
       simp only [enc8]
       rw [if_neg (by omega),if_neg (by omega),if_neg (by omega),ofNat_eq (b:=a) (by omega),ofNat_eq (b:=b) (by omega),ofNat_eq (b:=c) (by omega),ofNat_eq (b:=d) (by omega)]
       rfl
      ·rename_i c6
       rw [if_neg c6] at hv
       exact absurd ⟨rfl,rfl⟩ hv
     ·rename_i c5
      rw [if_neg c5] at hv
      exact absurd ⟨rfl,rfl⟩ hv
abbrev C_s_l2Len (Te:TE):Prop:=∀ (b:UInt8),Te 329 [.one (uT b)] ⟨[.one (iT (l2len b.toNat))],[[uT b]]⟩
def contB (l:List UInt8):Nat→Bool
 | 0=>true
 | j + 1=>contB l j&&(byteN l (j + 1) / 64==2)
theorem and192_all:∀ m:Fin 256,(m.val &&& 192==128)=(m.val / 64==2):=by decide
theorem and192 (m:Nat) (hm:m < 256):(andK .u8 (m:Int) 192 != 128) = !(m / 64==2):=by
 have h1:(BitVec.ofInt 8 (m:Int)).toNat=m:=by rw [BitVec.toNat_ofInt]; omega
 have h2:(BitVec.ofInt 8 192).toNat=192:=by decide
 have h3:=and192_all ⟨m,hm⟩
 simp only at h3
 have h4:m &&& 192 < 256:=Nat.lt_of_le_of_lt Nat.and_le_right (by decide)
 rw [andK_def,show IntKind.u8.bits=8 from rfl,BitVec.toNat_and,h1,h2,IntKind.wrap_u8,← h3,bne]
 congr 1
 rw [Bool.eq_iff_iff,beq_iff_eq,beq_iff_eq]
 omega
theorem or_acc (a x:Nat) (ha:a < 2 ^ 40) (hx:x < 64):orK .i64 ((a * 64:Nat):Int) (x:Int)=((a * 64 + x:Nat):Int):=by
 rw [or_nat _ _ (by omega) (by omega),Nat.mul_comm a 64,show 64 * a=2 ^ 6 * a from rfl,Nat.two_pow_add_eq_or_of_lt (i:=6) (by omega)]
theorem accN_lt (l:List UInt8) {m:Nat} (hm:m < 256):∀ j,accN l m j < 256 * 64 ^ j
 | 0=>by simpa [accN] using hm
 | j + 1=>by
  have:=accN_lt l hm j
  simp only [accN]
  rw [Nat.pow_succ]
  omega
theorem accN_small (l:List UInt8) {m j:Nat} (hm:m < 256) (hj:j≤3):accN l m j < 2 ^ 28:=by
 have h:=accN_lt l hm j
 have:64 ^ j≤64 ^ 3:=Nat.pow_le_pow_right (by decide) hj
 omega
theorem bytesOf_uR (l:List UInt8):bytesOf (l.map uR)=l:=by
 simp only [bytesOf,List.map_map,Function.comp_def,List.headD_cons,byteOf]
 conv=>rhs; rw [← List.map_id l]
 refine List.map_congr_left fun a _=>?_
 simp
theorem areBytes_uR:∀ l:List UInt8,areBytes (l.map uR)=true
 | []=>rfl
 | a::l=>by simp only [List.map_cons,areBytes,isByte,areBytes_uR l,Bool.and_true]
def signTail (l:List UInt8) (i:Int) (K m:Nat):Int×Int×Bool:=if (contB l (K - 1)&&signOk (accN l m (K - 1):Nat)&&decide (enc8 (accN l m (K - 1))=l.take K))=true then (((accN l m (K - 1):Nat):Int),i + (K:Nat),true) else (0,0,false)
theorem tail_no {l:List UInt8} {i:Int} {K m:Nat} (h:(contB l (K - 1)&&signOk (accN l m (K - 1):Nat)&&decide (enc8 (accN l m (K - 1))=l.take K))=false):signTail l i K m=(0,0,false):=if_neg (by rw [h]; decide)
theorem contB_down (l : List UInt8) : ∀ {j k : Nat}, j ≤ k → contB l j = false → contB l k = false
  | j, 0, h, e => by have : j = 0 := by omega
                     subst this; exact e
  | j, k + 1, h, e => by
    by_cases q : j = k + 1
    · subst q; exact e
    · simp only [contB, contB_down l (show j ≤ k by omega) e, Bool.false_and]
theorem tail_some {l:List UInt8} {i:Int} {K m n:Nat} (hl:K≤l.length) (h:signAt l=some (n,K)) (hc:contB l (K - 1)=true) (ha:accN l m (K - 1)=n):signTail l i K m=((n:Int),i + (K:Nat),true):=by
 obtain ⟨h1,h2⟩:=enc_take hl h
 unfold signTail
 rw [ha,if_pos (by rw [hc,h2,decide_eq_true h1]; rfl)]
theorem signOk_no {n:Nat} (h:n > 1114111∨(55296≤n∧n≤57343)):signOk (n:Int)=false:=by
 cases g:signOk (n:Int)
 ·rfl
 ·obtain ⟨h0,h1,h2⟩:=signOk_in g
  omega
theorem enc8_short {n K:Nat} (h:n < 2048∧3≤K∨n < 65536∧4≤K) {l:List UInt8} (hl:K≤l.length):decide (enc8 n=l.take K)=false:=by
 refine decide_eq_false fun e=>?_
 have e2:=congrArg List.length e
 rw [List.length_take,Nat.min_eq_left hl] at e2
 unfold enc8 at e2
 revert e2
 repeat' split
 all_goals simp only [List.length_cons,List.length_nil]
 all_goals omega
def getTail (l:List UInt8) (i:Int):Int×Int×Bool:=match signAt l with | some d=>((d.1:Int),i + (d.2:Nat),true) | none=>(0,0,false)
theorem getTail_some {l:List UInt8} {i:Int} {d:Nat×Nat} (h:signAt l=some d):getTail l i=((d.1:Int),i + (d.2:Nat),true):=by rw [getTail,h]
theorem getTail_none {l:List UInt8} {i:Int} (h:signAt l=none):getTail l i=(0,0,false):=by rw [getTail,h]
theorem tail1 {l:List UInt8} (i:Int) (hl:1≤l.length) (h:byteN l 0 < 128):getTail l i=signTail l i 1 (byteN l 0):=by
 have hs:=sign1 (by omega) h
 exact (getTail_some hs).trans (tail_some hl hs rfl rfl).symm
theorem tail2 {l:List UInt8} (i:Int) (hl:2≤l.length) (h:194≤byteN l 0∧byteN l 0≤223):getTail l i=signTail l i 2 (byteN l 0 % 32):=by
 have hs:=sign2 hl h
 by_cases c:byteN l 1 / 64=2
 ·rw [if_pos c] at hs
  exact (getTail_some hs).trans (tail_some hl hs (by simp only [contB,c]; rfl) rfl).symm
 ·rw [if_neg c] at hs
  rw [getTail_none hs,tail_no]
  simp only [contB,beq_eq_false_iff_ne.2 c,Bool.and_false,Bool.false_and]
theorem tail3 {l:List UInt8} (i:Int) (hl:3≤l.length) (h:224≤byteN l 0∧byteN l 0≤239):getTail l i=signTail l i 3 (byteN l 0 % 16):=by
 have hs:=sign3 hl h
 have ea:accN l (byteN l 0 % 16) 2=byteN l 0 % 16 * 4096 + byteN l 1 % 64 * 64 + byteN l 2 % 64:=by
  show (byteN l 0 % 16 * 64 + byteN l 1 % 64) * 64 + byteN l 2 % 64=_
  omega
 generalize hn:byteN l 0 % 16 * 4096 + byteN l 1 % 64 * 64 + byteN l 2 % 64=n at hs ea
 by_cases c1:byteN l 1 / 64=2
 ·by_cases c2:byteN l 2 / 64=2
  ·have hc:contB l 2=true:=by simp only [contB,c1,c2]; rfl
   by_cases c3:2048≤n∧¬ (55296≤n∧n≤57343)
   ·rw [if_pos ⟨c1,c2,c3⟩] at hs
    exact (getTail_some hs).trans (tail_some hl hs hc ea).symm
   ·rw [if_neg (fun q=>c3 q.2.2)] at hs
    rw [getTail_none hs,tail_no]
    show (contB l 2&&signOk (accN l (byteN l 0 % 16) 2:Nat)&&decide (enc8 (accN l (byteN l 0 % 16) 2)=l.take 3))=false
    rw [ea]
    by_cases c4:n < 2048
    ·rw [enc8_short (.inl ⟨c4,by decide⟩) hl,Bool.and_false]
    ·rw [signOk_no (.inr (by omega)),Bool.and_false,Bool.false_and]
  ·rw [if_neg (fun q=>c2 q.2.1)] at hs
   rw [getTail_none hs,tail_no]
   simp only [contB,beq_eq_false_iff_ne.2 c2,Bool.and_false,Bool.false_and]
 ·rw [if_neg (fun q=>c1 q.1)] at hs
  rw [getTail_none hs,tail_no]
  simp only [contB,beq_eq_false_iff_ne.2 c1,Bool.and_false,Bool.false_and]
theorem tail4 {l:List UInt8} (i:Int) (hl:4≤l.length) (h:240≤byteN l 0∧byteN l 0≤244):getTail l i=signTail l i 4 (byteN l 0 % 8):=by
 have hs:=sign4 hl h
 have ea:accN l (byteN l 0 % 8) 3=byteN l 0 % 8 * 262144 + byteN l 1 % 64 * 4096 + byteN l 2 % 64 * 64 + byteN l 3 % 64:=by
  show ((byteN l 0 % 8 * 64 + byteN l 1 % 64) * 64 + byteN l 2 % 64) * 64 + byteN l 3 % 64=_
  omega
 generalize hn:byteN l 0 % 8 * 262144 + byteN l 1 % 64 * 4096 + byteN l 2 % 64 * 64 + byteN l 3 % 64=n at hs ea
 by_cases c1:byteN l 1 / 64=2
 ·by_cases c2:byteN l 2 / 64=2
  ·by_cases c3:byteN l 3 / 64=2
   ·have hc:contB l 3=true:=by simp only [contB,c1,c2,c3]; rfl
    by_cases c4:65536≤n∧n≤1114111
    ·rw [if_pos ⟨c1,c2,c3,c4⟩] at hs
     exact (getTail_some hs).trans (tail_some hl hs hc ea).symm
    ·rw [if_neg (fun q=>c4 q.2.2.2)] at hs
     rw [getTail_none hs,tail_no]
     show (contB l 3&&signOk (accN l (byteN l 0 % 8) 3:Nat)&&decide (enc8 (accN l (byteN l 0 % 8) 3)=l.take 4))=false
     rw [ea]
     by_cases c5:n < 65536
     ·rw [enc8_short (.inr ⟨c5,by decide⟩) hl,Bool.and_false]
     ·rw [signOk_no (.inl (by omega)),Bool.and_false,Bool.false_and]
   ·rw [if_neg (fun q=>c3 q.2.2.1)] at hs
    rw [getTail_none hs,tail_no]
    simp only [contB,beq_eq_false_iff_ne.2 c3,Bool.and_false,Bool.false_and]
  ·rw [if_neg (fun q=>c2 q.2.1)] at hs
   rw [getTail_none hs,tail_no]
   simp only [contB,beq_eq_false_iff_ne.2 c2,Bool.and_false,Bool.false_and]
 ·rw [if_neg (fun q=>c1 q.1)] at hs
  rw [getTail_none hs,tail_no]
  simp only [contB,beq_eq_false_iff_ne.2 c1,Bool.and_false,Bool.false_and]
theorem and_mask (m j:Nat) (hm:m < 256) (hj:j≤8):andK .i64 (m:Int) ((2 ^ j - 1:Nat):Int)=((m % 2 ^ j:Nat):Int):=by
 have:2 ^ j≤2 ^ 8:=Nat.pow_le_pow_right (by decide) hj
 rw [and_nat _ _ (by omega) (by omega),Nat.and_two_pow_sub_one_eq_mod]
theorem l2len_in (x:Nat) (h:l2len x≠0):(l2len x=1∧x < 128)∨(l2len x=2∧194≤x∧x≤223)∨(l2len x=3∧224≤x∧x≤239)∨(l2len x=4∧240≤x∧x≤244):=by
 by_cases h1:x < 128
 ·exact .inl ⟨if_pos h1,h1⟩
 by_cases h2:194≤x∧x≤223
 ·exact .inr (.inl ⟨by rw [l2len,if_neg h1,if_pos h2],h2⟩)
 by_cases h3:224≤x∧x≤239
 ·exact .inr (.inr (.inl ⟨by rw [l2len,if_neg h1,if_neg h2,if_pos h3],h3⟩))
 by_cases h4:240≤x∧x≤244
 ·exact .inr (.inr (.inr ⟨by rw [l2len,if_neg h1,if_neg h2,if_neg h3,if_pos h4],h4⟩))
 exact absurd (by rw [l2len,if_neg h1,if_neg h2,if_neg h3,if_neg h4]) h
abbrev C_s_GetSign (Te:TE):Prop:=∀ (b:List UInt8) (i:Int) (hb:b.length≤2 ^ 30),Te 272 [.one (slT false 1 uR b),.one (iT i)] ⟨[.one (iT (getSign b i).1),.one (iT (getSign b i).2.1),.one (bT (getSign b i).2.2)],[[slT false 1 uR b],[iT i]]⟩
def pairSign (hi lo:Int):Int×Bool:=if (hi==164&&win lo 161 243)=true then (12353 + lo - 161,true) else if (hi==165&&win lo 161 246)=true then (12449 + lo - 161,true) else (0,false)
def eucSign (b:List UInt8) (i:Int):Int×Int×Bool :=
 if 0≤i∧i < b.length then
  (if byteN (b.drop i.toNat) 0 < 128 then (((byteN (b.drop i.toNat) 0:Nat):Int),i + 1,true)
  else if i + 1 < b.length∧(pairSign (byteN (b.drop i.toNat) 0:Nat) (byteN (b.drop i.toNat) 1:Nat)).2=true then ((pairSign (byteN (b.drop i.toNat) 0:Nat) (byteN (b.drop i.toNat) 1:Nat)).1,i + 2,true) else (0,0,false))
 else (0,0,false)
theorem euc_no {b:List UInt8} {i:Int} (h:¬ (0≤i∧i < b.length)):eucSign b i=(0,0,false):=if_neg h
theorem euc_one {b:List UInt8} {i:Int} (h:0≤i∧i < b.length) (h1:byteN (b.drop i.toNat) 0 < 128):eucSign b i=(((byteN (b.drop i.toNat) 0:Nat):Int),i + 1,true):=by rw [eucSign,if_pos h,if_pos h1]
theorem euc_end {b:List UInt8} {i:Int} (h:0≤i∧i < b.length) (h1:¬ byteN (b.drop i.toNat) 0 < 128) (h2:¬ i + 1 < b.length):eucSign b i=(0,0,false):=by rw [eucSign,if_pos h,if_neg h1,if_neg (fun q=>h2 q.1)]
theorem euc_bad {b:List UInt8} {i:Int} (h:0≤i∧i < b.length) (h1:¬ byteN (b.drop i.toNat) 0 < 128) (h2:(pairSign (byteN (b.drop i.toNat) 0:Nat) (byteN (b.drop i.toNat) 1:Nat)).2=false):eucSign b i=(0,0,false):=by rw [eucSign,if_pos h,if_neg h1,if_neg (fun q=>by rw [h2] at q; cases q.2)]
theorem euc_two {b:List UInt8} {i:Int} (h:0≤i∧i < b.length) (h1:¬ byteN (b.drop i.toNat) 0 < 128) (h3:i + 1 < b.length) (h2:(pairSign (byteN (b.drop i.toNat) 0:Nat) (byteN (b.drop i.toNat) 1:Nat)).2=true):eucSign b i=((pairSign (byteN (b.drop i.toNat) 0:Nat) (byteN (b.drop i.toNat) 1:Nat)).1,i + 2,true):=by rw [eucSign,if_pos h,if_neg h1,if_pos ⟨h3,h2⟩]
theorem byteN_drop {b:List UInt8} {k j:Nat} (h:k + j < b.length):b[k + j].toNat=byteN (b.drop k) j:=by
 simp only [byteN,List.getD_eq_getElem?_getD,List.getElem?_drop]
 rw [List.getElem?_eq_getElem h]
 rfl
abbrev C_i_PairSign (Te:TE):Prop:=∀ (hi lo:Int) (h:0≤lo∧lo≤255),Te 324 [.one (iT hi),.one (iT lo)] ⟨[.one (iT (pairSign hi lo).1),.one (bT (pairSign hi lo).2)],[[iT hi],[iT lo]]⟩
abbrev C_s_PairSign (Te:TE):Prop:=∀ (hi lo:Int) (h:0≤lo∧lo≤255),Te 330 [.one (iT hi),.one (iT lo)] ⟨[.one (iT (pairSign hi lo).1),.one (bT (pairSign hi lo).2)],[[iT hi],[iT lo]]⟩
abbrev C_i_EucSign (Te:TE):Prop:=∀ (b:List UInt8) (i:Int) (hb:b.length≤2 ^ 30),Te 268 [.one (slT false 1 uR b),.one (iT i)] ⟨[.one (iT (eucSign b i).1),.one (iT (eucSign b i).2.1),.one (bT (eucSign b i).2.2)],[[slT false 1 uR b],[iT i]]⟩
abbrev C_s_EucSign (Te:TE):Prop:=∀ (b:List UInt8) (i:Int) (hb:b.length≤2 ^ 30),Te 273 [.one (slT false 1 uR b),.one (iT i)] ⟨[.one (iT (eucSign b i).1),.one (iT (eucSign b i).2.1),.one (bT (eucSign b i).2.2)],[[slT false 1 uR b],[iT i]]⟩
def signIn (cs:Int) (b:List UInt8) (i:Int):Int×Int×Bool:=if cs=0 then getSign b i else if cs=5 then eucSign b i else ((byteSign cs (byteN b i.toNat:Nat)).1,i + 1,(byteSign cs (byteN b i.toNat:Nat)).2)
theorem getSign_next {b:List UInt8} {i:Int} (h:(getSign b i).2.2=true):i < (getSign b i).2.1∧(getSign b i).2.1≤b.length:=by
 by_cases hi:0≤i∧i < b.length
 ·have hne:b.drop i.toNat≠[]:=by
   intro e
   have:=congrArg List.length e
   rw [List.length_drop] at this
   simp only [List.length_nil] at this
   omega
  cases hs:signAt (b.drop i.toNat) with
  | none=>rw [getSign_bad hi hs] at h; cases h
  | some d =>
   rw [getSign_good hi hs]
   have hw:=Lib.decodeL_width (b.drop i.toNat)
   have hl:=Lib.decodeL_le (b.drop i.toNat) hne
   rw [List.length_drop] at hl
   have hd:Lib.decodeL (b.drop i.toNat)=d:=by
    unfold signAt at hs
    split at hs
    ·cases hs
    ·exact Option.some.inj hs
   rw [hd] at hw hl
   simp only
   omega
 ·rw [getSign_no hi] at h; cases h
theorem eucSign_next {b:List UInt8} {i:Int} (h:(eucSign b i).2.2=true):i < (eucSign b i).2.1∧(eucSign b i).2.1≤b.length:=by
 unfold eucSign at h ⊢
 split at h
 ·rename_i hi
  rw [if_pos hi]
  split at h
  ·rename_i h1
   rw [if_pos h1]
   simp only
   omega
  ·rename_i h1
   rw [if_neg h1]
   split at h
   ·rename_i h2
    rw [if_pos h2]
    simp only
    omega
   ·cases h
 ·cases h
theorem signIn_next {cs:Int} {b:List UInt8} {i:Int} (hi:0≤i∧i < b.length) (h:(signIn cs b i).2.2=true):i < (signIn cs b i).2.1∧(signIn cs b i).2.1≤b.length:=by
 unfold signIn at h ⊢
 split at h
 ·rename_i q
  rw [if_pos q]
  exact getSign_next h
 ·rename_i q
  rw [if_neg q]
  split at h
  ·rename_i q2
   rw [if_pos q2]
   exact eucSign_next h
  ·rename_i q2
   rw [if_neg q2]
   simp only
   omega
def decGo (cs:Int) (b:List UInt8):Nat→Int→List UInt8→ByteArray×Bool
 | 0,_,out=>(⟨⟨out⟩⟩,true)
 | fu + 1,i,out=>if i < b.length then (if (signIn cs b i).2.2=true then decGo cs b fu (signIn cs b i).2.1 (putSign out (signIn cs b i).1) else (⟨#[]⟩,false)) else (⟨⟨out⟩⟩,true)
theorem dec_end {cs:Int} {b:List UInt8} {i:Int} (h:¬ i < b.length) (fu:Nat) (out:List UInt8):decGo cs b fu i out=(⟨⟨out⟩⟩,true):=by
 cases fu with
 | zero=>rfl
 | succ f=>rw [decGo,if_neg h]
theorem dec_bad {cs:Int} {b:List UInt8} {i:Int} (h:i < b.length) (h2:(signIn cs b i).2.2=false) (fu:Nat) (out:List UInt8):decGo cs b (fu + 1) i out=(⟨#[]⟩,false):=by rw [decGo,if_pos h,h2]; rfl
theorem dec_step {cs:Int} {b:List UInt8} {i:Int} (h:i < b.length) (h2:(signIn cs b i).2.2=true) (fu:Nat) (out:List UInt8):decGo cs b (fu + 1) i out=decGo cs b fu (signIn cs b i).2.1 (putSign out (signIn cs b i).1):=by rw [decGo,if_pos h,if_pos h2]
def decode (cs:Int) (b:List UInt8):ByteArray×Bool:=if win cs 0 5=true then decGo cs b b.length 0 [] else (⟨#[]⟩,false)
theorem bytesOf_uD (l:List UInt8):bytesOf (l.map uR)=l:=bytesOf_uR l
abbrev C_i_isSet (Te:TE):Prop:=∀ (cs:Int),Te 184 [.one (iT cs)] ⟨[.one (bT (win cs 0 5))],[[iT cs]]⟩
abbrev C_s_l5Cs (Te:TE):Prop:=∀ (cs:Int),Te 187 [.one (iT cs)] ⟨[.one (bT (win cs 0 5))],[[iT cs]]⟩
abbrev C_i_signIn (Te:TE):Prop:=∀ (cs:Int) (b:List UInt8) (i:Int) (hb:b.length≤2 ^ 30) (hi:0≤i∧i < b.length),Te 185 [.one (iT cs),.one (slT false 1 uR b),.one (iT i)] ⟨[.one (iT (signIn cs b i).1),.one (iT (signIn cs b i).2.1),.one (bT (signIn cs b i).2.2)],[[iT cs],[slT false 1 uR b],[iT i]]⟩
abbrev C_s_l5Get (Te:TE):Prop:=∀ (cs:Int) (b:List UInt8) (i:Int) (hb:b.length≤2 ^ 30) (hi:0≤i∧i < b.length),Te 188 [.one (iT cs),.one (slT false 1 uR b),.one (iT i)] ⟨[.one (iT (signIn cs b i).1),.one (iT (signIn cs b i).2.1),.one (bT (signIn cs b i).2.2)],[[iT cs],[slT false 1 uR b],[iT i]]⟩
abbrev C_i_Decode (Te:TE):Prop:=∀ (cs:Int) (b:List UInt8) (hb:b.length≤2 ^ 20),Te 99 [.one (iT cs),.one (slT false 1 uR b)] ⟨[.one (sT (decode cs b).1),.one (bT (decode cs b).2)],[[iT cs],[slT false 1 uR b]]⟩
abbrev C_s_Decode (Te:TE):Prop:=∀ (cs:Int) (b:List UInt8) (hb:b.length≤2 ^ 20),Te 102 [.one (iT cs),.one (slT false 1 uR b)] ⟨[.one (sT (decode cs b).1),.one (bT (decode cs b).2)],[[iT cs],[slT false 1 uR b]]⟩
theorem own_sl {τ:Type} {o:Bool} {z:Nat} {h:τ} {rows:List (List (Tr τ))}:Tr.own (.sl o z h rows)=o:=rfl
theorem cellAt_sl {τ:Type} {o:Bool} {z:Nat} {h:τ} {rows:List (List (Tr τ))} {i j:Nat}:cellAt (.sl o z h rows) i j=(rows[i]?).bind (·[j]?):=rfl
theorem setCell_sl {τ:Type} {o:Bool} {z:Nat} {h:τ} {rows:List (List (Tr τ))} {i j:Nat} {u:Tr τ}:setCell (.sl o z h rows) i j u = .sl o z h (rows.set i ((rows[i]?.getD []).set j u)):=by
 simp only [setCell,setRows,Tr.rows,List.getD_eq_getElem?_getD]
attribute [go_sem] own_sl cellAt_sl setCell_sl
theorem back_bif {α:Type} {Te:Nat→List AV→Res→Prop} {c:Bool} {f:St→Bool} {p:Prg α} {st:St} {Q:α→St→Prop} (h:f st=true) (hp:runP Te p st Q):runP Te (bif c then p else .all f p) st Q:=by
 cases c
 ·exact ⟨⟨_,fun _=>rfl,fun _=>rfl,h⟩,hp⟩
 ·exact hp
structure CellV where
 Tag:Int
 B:List UInt8
 deriving DecidableEq
abbrev CellV.enc (o:Bool) (x:CellV):List Go.X.T:=[iT x.Tag,slT o 1 uR x.B]
def CellV.In (n:Nat) (x:CellV):Prop:=x.B.length≤n
theorem CellV.In.mono {x:CellV} {n m:Nat} (h:x.In n) (hn:n≤m):x.In m:=by
 simp only [CellV.In] at h ⊢
 exact Nat.le_trans h hn
def szCell (x:CellV) (k:Int):Int:=szAll [(fun k=>left (k - (x.B.length:Nat)))] k
theorem szCell_sane (x:CellV):Sane (szCell x):=Sane.all (.cons (Sane.left _) .nil)
theorem szCell_in {x:CellV} {k:Int} {n:Nat} (hk:0≤k) (hn:k≤n) (h:0≤szCell x k):x.In n:=by
 obtain ⟨⟨j0,a0,b0,c0⟩,_⟩:=szAll_ex (.cons (Sane.left _) .nil) hk hn h
 show x.B.length≤n
 exact (by have:=left_in c0; omega)
def CellV.Len (x:CellV):Prop:=x.B.length≤2 ^ 21
theorem CellV.In.len {x:CellV} {n:Nat} (h:x.In n) (hn:n≤2 ^ 21):x.Len:=by
 have h0:x.B.length≤n:=h
 exact Nat.le_trans h0 hn
def CellV.mark (x:CellV) (k:Int):CellV:=⟨x.Tag,marks 1 mkU x.B.length (k)⟩
def CellV.far (x:CellV) (k:Int):Int:=k + (1 * x.B.length:Nat)
theorem CellV.mark_B (x:CellV) (k:Int):(x.mark k).B.length=x.B.length:=by simp [CellV.mark,marks_length,markL_length]
theorem CellV.take_B {β:Type} (f:UInt8→β) (x:CellV) (k:Int):((x.mark k).B.map f).take x.B.length=(x.mark k).B.map f:=by rw [← x.mark_B k,take_map]
theorem CellV.far_le {x:CellV} (hx:x.Len) (k:Int):k≤x.far k∧x.far k≤k + 2097152:=by
 have h0:x.B.length≤2 ^ 21:=hx
 simp only [CellV.far]
 omega
structure RowV where
 Key:ByteArray
 Old:CellV
 New:CellV
 Has:Int
 Aside:Bool
 deriving DecidableEq
abbrev RowV.enc (o:Bool) (x:RowV):List Go.X.T:=[sT x.Key,iT x.Old.Tag,slT o 1 uR x.Old.B,iT x.New.Tag,slT o 1 uR x.New.B,iT x.Has,bT x.Aside]
def RowV.In (n:Nat) (x:RowV):Prop:=x.Key.size≤n∧x.Old.In (n)∧x.New.In (n)
theorem RowV.In.mono {x:RowV} {n m:Nat} (h:x.In n) (hn:n≤m):x.In m:=by
 simp only [RowV.In] at h ⊢
 exact ⟨Nat.le_trans h.1 hn,h.2.1.mono hn,h.2.2.mono hn⟩
def szRow (x:RowV) (k:Int):Int:=szAll [(fun k=>k - (x.Key.size:Nat)),(szCell x.Old),(szCell x.New)] k
theorem szRow_sane (x:RowV):Sane (szRow x):=Sane.all (.cons (Sane.sub _) (.cons (szCell_sane _) (.cons (szCell_sane _) .nil)))
theorem szRow_in {x:RowV} {k:Int} {n:Nat} (hk:0≤k) (hn:k≤n) (h:0≤szRow x k):x.In n:=by
 obtain ⟨⟨j0,a0,b0,c0⟩,⟨j1,a1,b1,c1⟩,⟨j2,a2,b2,c2⟩,_⟩:=szAll_ex (.cons (Sane.sub _) (.cons (szCell_sane _) (.cons (szCell_sane _) .nil))) hk hn h
 exact ⟨(by have q:(0:Int)≤j0 - _:=c0; omega),(szCell_in a1 b1 c1),(szCell_in a2 b2 c2)⟩
def RowV.Len (x:RowV):Prop:=x.Old.Len∧x.New.Len
theorem RowV.In.len {x:RowV} {n:Nat} (h:x.In n) (hn:n≤2 ^ 21):x.Len:=by
 obtain ⟨h0,h1,h2⟩:=h
 exact ⟨(h1).len hn,(h2).len hn⟩
def RowV.mark (x:RowV) (k:Int):RowV:=⟨x.Key,x.Old.mark (k),x.New.mark (x.Old.far (k)),x.Has,x.Aside⟩
def RowV.far (x:RowV) (k:Int):Int:=x.New.far (x.Old.far (k))
theorem RowV.mark_Old_B (x:RowV) (k:Int):(x.mark k).Old.B.length=x.Old.B.length:=by simp [RowV.mark,CellV.mark,marks_length,markL_length]
theorem RowV.take_Old_B {β:Type} (f:UInt8→β) (x:RowV) (k:Int):((x.mark k).Old.B.map f).take x.Old.B.length=(x.mark k).Old.B.map f:=by rw [← x.mark_Old_B k,take_map]
theorem RowV.mark_New_B (x:RowV) (k:Int):(x.mark k).New.B.length=x.New.B.length:=by simp [RowV.mark,CellV.mark,marks_length,markL_length]
theorem RowV.take_New_B {β:Type} (f:UInt8→β) (x:RowV) (k:Int):((x.mark k).New.B.map f).take x.New.B.length=(x.mark k).New.B.map f:=by rw [← x.mark_New_B k,take_map]
theorem RowV.far_le {x:RowV} (hx:x.Len) (k:Int):k≤x.far k∧x.far k≤k + 4194304:=by
 obtain ⟨h0,h1⟩:=hx
 have w0:=CellV.far_le h0 k
 have w1:=CellV.far_le h1 (x.Old.far k)
 simp only [RowV.far]
 omega
def RowV.markE (x:RowV) (k:Int):RowV:=⟨mkS (k),⟨k + 1,marks 1 mkU x.Old.B.length (k + 1 + 1)⟩,⟨k + 1 + 1 + (1 * x.Old.B.length:Nat),marks 1 mkU x.New.B.length (k + 1 + 1 + (1 * x.Old.B.length:Nat) + 1)⟩,k + 1 + 1 + (1 * x.Old.B.length:Nat) + 1 + (1 * x.New.B.length:Nat),mkB (k + 1 + 1 + (1 * x.Old.B.length:Nat) + 1 + (1 * x.New.B.length:Nat) + 1)⟩
def RowV.farE (x:RowV) (k:Int):Int:=k + 1 + 1 + (1 * x.Old.B.length:Nat) + 1 + (1 * x.New.B.length:Nat) + 1 + 1
theorem RowV.farE_le {x:RowV} (hx:x.Len) (k:Int):k≤x.farE k∧x.farE k≤k + 4194309:=by
 obtain ⟨h0,h1⟩:=hx
 have h0':x.Old.B.length≤2 ^ 21:=h0
 have h1':x.New.B.length≤2 ^ 21:=h1
 simp only [RowV.farE]
 omega
structure WrV where
 N:Int
 B:List UInt8
 deriving DecidableEq
abbrev WrV.enc (o:Bool) (x:WrV):List Go.X.T:=[iT x.N,slT o 1 uR x.B]
def WrV.In (n:Nat) (x:WrV):Prop:=x.B.length≤n
theorem WrV.In.mono {x:WrV} {n m:Nat} (h:x.In n) (hn:n≤m):x.In m:=by
 simp only [WrV.In] at h ⊢
 exact Nat.le_trans h hn
def szWr (x:WrV) (k:Int):Int:=szAll [(fun k=>left (k - (x.B.length:Nat)))] k
theorem szWr_sane (x:WrV):Sane (szWr x):=Sane.all (.cons (Sane.left _) .nil)
theorem szWr_in {x:WrV} {k:Int} {n:Nat} (hk:0≤k) (hn:k≤n) (h:0≤szWr x k):x.In n:=by
 obtain ⟨⟨j0,a0,b0,c0⟩,_⟩:=szAll_ex (.cons (Sane.left _) .nil) hk hn h
 show x.B.length≤n
 exact (by have:=left_in c0; omega)
def WrV.Len (x:WrV):Prop:=x.B.length≤2 ^ 21
theorem WrV.In.len {x:WrV} {n:Nat} (h:x.In n) (hn:n≤2 ^ 21):x.Len:=by
 have h0:x.B.length≤n:=h
 exact Nat.le_trans h0 hn
def WrV.mark (x:WrV) (k:Int):WrV:=⟨x.N,marks 1 mkU x.B.length (k)⟩
def WrV.far (x:WrV) (k:Int):Int:=k + (1 * x.B.length:Nat)
theorem WrV.mark_B (x:WrV) (k:Int):(x.mark k).B.length=x.B.length:=by simp [WrV.mark,marks_length,markL_length]
theorem WrV.take_B {β:Type} (f:UInt8→β) (x:WrV) (k:Int):((x.mark k).B.map f).take x.B.length=(x.mark k).B.map f:=by rw [← x.mark_B k,take_map]
theorem WrV.far_le {x:WrV} (hx:x.Len) (k:Int):k≤x.far k∧x.far k≤k + 2097152:=by
 have h0:x.B.length≤2 ^ 21:=hx
 simp only [WrV.far]
 omega
def WrV.markE (x:WrV) (k:Int):WrV:=⟨k,marks 1 mkU x.B.length (k + 1)⟩
def WrV.farE (x:WrV) (k:Int):Int:=k + 1 + (1 * x.B.length:Nat)
theorem WrV.farE_le {x:WrV} (hx:x.Len) (k:Int):k≤x.farE k∧x.farE k≤k + 2097153:=by
 have h0:x.B.length≤2 ^ 21:=hx
 simp only [WrV.farE]
 omega
structure DevV where
 Secs:List (List UInt8)
 Cache:List WrV
 Fuse:Int
 Down:Bool
 deriving DecidableEq
abbrev DevV.enc (o:Bool) (x:DevV):List Go.X.T:=[slT o 1 (fun y=>[slT o 1 uR y]) x.Secs,slT o 2 (WrV.enc o) x.Cache,iT x.Fuse,bT x.Down]
def DevV.In (n:Nat) (x:DevV):Prop:=(x.Secs.length≤n∧∀ y∈x.Secs,y.length≤n)∧(x.Cache.length≤n∧∀ y∈x.Cache,y.In (n))
theorem DevV.In.mono {x:DevV} {n m:Nat} (h:x.In n) (hn:n≤m):x.In m:=by
 simp only [DevV.In] at h ⊢
 exact ⟨⟨Nat.le_trans h.1.1 hn,fun y hy=>Nat.le_trans (h.1.2 y hy) hn⟩,⟨Nat.le_trans h.2.1 hn,fun y hy=>(h.2.2 y hy).mono hn⟩⟩
def szDev (x:DevV) (k:Int):Int:=szAll [(szSl (fun y k=>left (k - y.length)) x.Secs),(szSl szWr x.Cache)] k
theorem szDev_sane (x:DevV):Sane (szDev x):=Sane.all (.cons (Sane.sl (fun _=>Sane.left _) _) (.cons (Sane.sl szWr_sane _) .nil))
theorem szDev_in {x:DevV} {k:Int} {n:Nat} (hk:0≤k) (hn:k≤n) (h:0≤szDev x k):x.In n:=by
 obtain ⟨⟨j0,a0,b0,c0⟩,⟨j1,a1,b1,c1⟩,_⟩:=szAll_ex (.cons (Sane.sl (fun _=>Sane.left _) _) (.cons (Sane.sl szWr_sane _) .nil)) hk hn h
 exact ⟨(szSl_in (fun _=>Sane.left _) (fun a j h0 hn h=>by have:=left_in h; omega) a0 b0 c0),(szSl_in szWr_sane (fun a j h0 hn h=>szWr_in h0 hn h) a1 b1 c1)⟩
def DevV.Len (x:DevV):Prop:=(x.Secs.length≤2 ^ 21∧∀ y∈x.Secs,y.length≤2 ^ 21)∧(x.Cache.length≤2 ^ 21∧∀ y∈x.Cache,y.Len)
theorem DevV.In.len {x:DevV} {n:Nat} (h:x.In n) (hn:n≤2 ^ 21):x.Len:=by
 obtain ⟨h0,h1⟩:=h
 exact ⟨⟨Nat.le_trans h0.1 hn,fun y hy=>Nat.le_trans (h0.2 y hy) hn⟩,⟨Nat.le_trans h1.1 hn,fun y hy=>((h1.2 y hy)).len hn⟩⟩
def DevV.mark (x:DevV) (k:Int):DevV:=⟨markL (fun y k=>marks 1 mkU y.length k) (fun y k=>k + (1 * y.length:Nat)) x.Secs (k),markL WrV.markE WrV.farE x.Cache (farL (fun y k=>k + (1 * y.length:Nat)) x.Secs (k)),x.Fuse,x.Down⟩
def DevV.far (x:DevV) (k:Int):Int:=farL WrV.farE x.Cache (farL (fun y k=>k + (1 * y.length:Nat)) x.Secs (k))
theorem DevV.mark_Secs (x:DevV) (k:Int):(x.mark k).Secs.length=x.Secs.length:=by simp [DevV.mark,marks_length,markL_length]
theorem DevV.take_Secs {β:Type} (f:List UInt8→β) (x:DevV) (k:Int):((x.mark k).Secs.map f).take x.Secs.length=(x.mark k).Secs.map f:=by rw [← x.mark_Secs k,take_map]
theorem DevV.mark_Cache (x:DevV) (k:Int):(x.mark k).Cache.length=x.Cache.length:=by simp [DevV.mark,marks_length,markL_length]
theorem DevV.take_Cache {β:Type} (f:WrV→β) (x:DevV) (k:Int):((x.mark k).Cache.map f).take x.Cache.length=(x.mark k).Cache.map f:=by rw [← x.mark_Cache k,take_map]
theorem DevV.far_le {x:DevV} (hx:x.Len) (k:Int):k≤x.far k∧x.far k≤k + 8796095119360:=by
 obtain ⟨h0,h1⟩:=hx
 have w0:=farL_le (k:=k) (c:=2097152) h0 (fun (y:List UInt8) (hy:y.length≤2 ^ 21) (k:Int)=>⟨by show k≤k + ((1 * y.length:Nat):Int); omega,by show k + ((1 * y.length:Nat):Int)≤_; omega⟩)
 have w1:=farL_le (k:=(farL (fun y k=>k + (1 * y.length:Nat)) x.Secs (k))) (c:=2097153) h1 (fun y hy k=>WrV.farE_le hy k)
 simp only [DevV.far]
 omega
structure MarkV where
 Who:Int
 Seq:Int
 Code:Int
 deriving DecidableEq
abbrev MarkV.row (x:MarkV):List Go.X.T:=[iT x.Who,iT x.Seq,iT x.Code]
def mkMark (k:Int):MarkV:=⟨k,k + 1,k + 1 + 1⟩
structure TabV where
 Rows:List RowV
 Phase:Int
 Marks:List MarkV
 deriving DecidableEq
abbrev TabV.enc (o:Bool) (x:TabV):List Go.X.T:=[slT o 7 (RowV.enc o) x.Rows,iT x.Phase,slT o 3 MarkV.row x.Marks]
def TabV.In (n:Nat) (x:TabV):Prop:=(x.Rows.length≤n∧∀ y∈x.Rows,y.In (n))∧x.Marks.length≤n
theorem TabV.In.mono {x:TabV} {n m:Nat} (h:x.In n) (hn:n≤m):x.In m:=by
 simp only [TabV.In] at h ⊢
 exact ⟨⟨Nat.le_trans h.1.1 hn,fun y hy=>(h.1.2 y hy).mono hn⟩,Nat.le_trans h.2 hn⟩
def szTab (x:TabV) (k:Int):Int:=szAll [(szSl szRow x.Rows),(fun k=>left (k - (x.Marks.length:Nat)))] k
theorem szTab_sane (x:TabV):Sane (szTab x):=Sane.all (.cons (Sane.sl szRow_sane _) (.cons (Sane.left _) .nil))
theorem szTab_in {x:TabV} {k:Int} {n:Nat} (hk:0≤k) (hn:k≤n) (h:0≤szTab x k):x.In n:=by
 obtain ⟨⟨j0,a0,b0,c0⟩,⟨j1,a1,b1,c1⟩,_⟩:=szAll_ex (.cons (Sane.sl szRow_sane _) (.cons (Sane.left _) .nil)) hk hn h
 exact ⟨(szSl_in szRow_sane (fun a j h0 hn h=>szRow_in h0 hn h) a0 b0 c0),(by have:=left_in c1; omega)⟩
def TabV.Len (x:TabV):Prop:=(x.Rows.length≤2 ^ 21∧∀ y∈x.Rows,y.Len)∧x.Marks.length≤2 ^ 21
theorem TabV.In.len {x:TabV} {n:Nat} (h:x.In n) (hn:n≤2 ^ 21):x.Len:=by
 obtain ⟨h0,h1⟩:=h
 exact ⟨⟨Nat.le_trans h0.1 hn,fun y hy=>((h0.2 y hy)).len hn⟩,Nat.le_trans h1 hn⟩
def TabV.mark (x:TabV) (k:Int):TabV:=⟨markL RowV.markE RowV.farE x.Rows (k),x.Phase,marks 3 mkMark x.Marks.length (farL RowV.farE x.Rows (k))⟩
def TabV.far (x:TabV) (k:Int):Int:=farL RowV.farE x.Rows (k) + (3 * x.Marks.length:Nat)
theorem TabV.mark_Rows (x:TabV) (k:Int):(x.mark k).Rows.length=x.Rows.length:=by simp [TabV.mark,marks_length,markL_length]
theorem TabV.take_Rows {β:Type} (f:RowV→β) (x:TabV) (k:Int):((x.mark k).Rows.map f).take x.Rows.length=(x.mark k).Rows.map f:=by rw [← x.mark_Rows k,take_map]
theorem TabV.mark_Marks (x:TabV) (k:Int):(x.mark k).Marks.length=x.Marks.length:=by simp [TabV.mark,marks_length,markL_length]
theorem TabV.take_Marks {β:Type} (f:MarkV→β) (x:TabV) (k:Int):((x.mark k).Marks.map f).take x.Marks.length=(x.mark k).Marks.map f:=by rw [← x.mark_Marks k,take_map]
theorem TabV.far_le {x:TabV} (hx:x.Len) (k:Int):k≤x.far k∧x.far k≤k + 8796109799424:=by
 obtain ⟨h0,h1⟩:=hx
 have w0:=farL_le (k:=k) (c:=4194309) h0 (fun y hy k=>RowV.farE_le hy k)
 simp only [TabV.far]
 omega
structure StoreV where
 D:DevV
 T:TabV
 Gen:Int
 Place:Int
 deriving DecidableEq
abbrev StoreV.enc (o:Bool) (x:StoreV):List Go.X.T:=[slT o 1 (fun y=>[slT o 1 uR y]) x.D.Secs,slT o 2 (WrV.enc o) x.D.Cache,iT x.D.Fuse,bT x.D.Down,slT o 7 (RowV.enc o) x.T.Rows,iT x.T.Phase,slT o 3 MarkV.row x.T.Marks,iT x.Gen,iT x.Place]
def StoreV.In (n:Nat) (x:StoreV):Prop:=x.D.In (n)∧x.T.In (n)
theorem StoreV.In.mono {x:StoreV} {n m:Nat} (h:x.In n) (hn:n≤m):x.In m:=by
 simp only [StoreV.In] at h ⊢
 exact ⟨h.1.mono hn,h.2.mono hn⟩
def szStore (x:StoreV) (k:Int):Int:=szAll [(szDev x.D),(szTab x.T)] k
theorem szStore_sane (x:StoreV):Sane (szStore x):=Sane.all (.cons (szDev_sane _) (.cons (szTab_sane _) .nil))
theorem szStore_in {x:StoreV} {k:Int} {n:Nat} (hk:0≤k) (hn:k≤n) (h:0≤szStore x k):x.In n:=by
 obtain ⟨⟨j0,a0,b0,c0⟩,⟨j1,a1,b1,c1⟩,_⟩:=szAll_ex (.cons (szDev_sane _) (.cons (szTab_sane _) .nil)) hk hn h
 exact ⟨(szDev_in a0 b0 c0),(szTab_in a1 b1 c1)⟩
def StoreV.Len (x:StoreV):Prop:=x.D.Len∧x.T.Len
theorem StoreV.In.len {x:StoreV} {n:Nat} (h:x.In n) (hn:n≤2 ^ 21):x.Len:=by
 obtain ⟨h0,h1⟩:=h
 exact ⟨(h0).len hn,(h1).len hn⟩
def StoreV.mark (x:StoreV) (k:Int):StoreV:=⟨x.D.mark (k),x.T.mark (x.D.far (k)),x.Gen,x.Place⟩
def StoreV.far (x:StoreV) (k:Int):Int:=x.T.far (x.D.far (k))
theorem StoreV.mark_D_Secs (x:StoreV) (k:Int):(x.mark k).D.Secs.length=x.D.Secs.length:=by simp [StoreV.mark,DevV.mark,TabV.mark,marks_length,markL_length]
theorem StoreV.take_D_Secs {β:Type} (f:List UInt8→β) (x:StoreV) (k:Int):((x.mark k).D.Secs.map f).take x.D.Secs.length=(x.mark k).D.Secs.map f:=by rw [← x.mark_D_Secs k,take_map]
theorem StoreV.mark_D_Cache (x:StoreV) (k:Int):(x.mark k).D.Cache.length=x.D.Cache.length:=by simp [StoreV.mark,DevV.mark,TabV.mark,marks_length,markL_length]
theorem StoreV.take_D_Cache {β:Type} (f:WrV→β) (x:StoreV) (k:Int):((x.mark k).D.Cache.map f).take x.D.Cache.length=(x.mark k).D.Cache.map f:=by rw [← x.mark_D_Cache k,take_map]
theorem StoreV.mark_T_Rows (x:StoreV) (k:Int):(x.mark k).T.Rows.length=x.T.Rows.length:=by simp [StoreV.mark,DevV.mark,TabV.mark,marks_length,markL_length]
theorem StoreV.take_T_Rows {β:Type} (f:RowV→β) (x:StoreV) (k:Int):((x.mark k).T.Rows.map f).take x.T.Rows.length=(x.mark k).T.Rows.map f:=by rw [← x.mark_T_Rows k,take_map]
theorem StoreV.mark_T_Marks (x:StoreV) (k:Int):(x.mark k).T.Marks.length=x.T.Marks.length:=by simp [StoreV.mark,DevV.mark,TabV.mark,marks_length,markL_length]
theorem StoreV.take_T_Marks {β:Type} (f:MarkV→β) (x:StoreV) (k:Int):((x.mark k).T.Marks.map f).take x.T.Marks.length=(x.mark k).T.Marks.map f:=by rw [← x.mark_T_Marks k,take_map]
theorem StoreV.far_le {x:StoreV} (hx:x.Len) (k:Int):k≤x.far k∧x.far k≤k + 17592204918784:=by
 obtain ⟨h0,h1⟩:=hx
 have w0:=DevV.far_le h0 k
 have w1:=TabV.far_le h1 (x.D.far k)
 simp only [StoreV.far]
 omega
structure NodeV where
 S:StoreV
 Cs:Int
 deriving DecidableEq
abbrev NodeV.enc (o:Bool) (x:NodeV):List Go.X.T:=[slT o 1 (fun y=>[slT o 1 uR y]) x.S.D.Secs,slT o 2 (WrV.enc o) x.S.D.Cache,iT x.S.D.Fuse,bT x.S.D.Down,slT o 7 (RowV.enc o) x.S.T.Rows,iT x.S.T.Phase,slT o 3 MarkV.row x.S.T.Marks,iT x.S.Gen,iT x.S.Place,iT x.Cs]
def NodeV.In (n:Nat) (x:NodeV):Prop:=x.S.In (n)
theorem NodeV.In.mono {x:NodeV} {n m:Nat} (h:x.In n) (hn:n≤m):x.In m:=by
 simp only [NodeV.In] at h ⊢
 exact h.mono hn
def szNode (x:NodeV) (k:Int):Int:=szAll [(szStore x.S)] k
theorem szNode_sane (x:NodeV):Sane (szNode x):=Sane.all (.cons (szStore_sane _) .nil)
theorem szNode_in {x:NodeV} {k:Int} {n:Nat} (hk:0≤k) (hn:k≤n) (h:0≤szNode x k):x.In n:=by
 obtain ⟨⟨j0,a0,b0,c0⟩,_⟩:=szAll_ex (.cons (szStore_sane _) .nil) hk hn h
 show x.S.In (n)
 exact (szStore_in a0 b0 c0)
def NodeV.Len (x:NodeV):Prop:=x.S.Len
theorem NodeV.In.len {x:NodeV} {n:Nat} (h:x.In n) (hn:n≤2 ^ 21):x.Len:=by
 have h0:x.S.In (n):=h
 exact (h0).len hn
def NodeV.mark (x:NodeV) (k:Int):NodeV:=⟨x.S.mark (k),x.Cs⟩
def NodeV.far (x:NodeV) (k:Int):Int:=x.S.far (k)
theorem NodeV.mark_S_D_Secs (x:NodeV) (k:Int):(x.mark k).S.D.Secs.length=x.S.D.Secs.length:=by simp [NodeV.mark,StoreV.mark,DevV.mark,TabV.mark,marks_length,markL_length]
theorem NodeV.take_S_D_Secs {β:Type} (f:List UInt8→β) (x:NodeV) (k:Int):((x.mark k).S.D.Secs.map f).take x.S.D.Secs.length=(x.mark k).S.D.Secs.map f:=by rw [← x.mark_S_D_Secs k,take_map]
theorem NodeV.mark_S_D_Cache (x:NodeV) (k:Int):(x.mark k).S.D.Cache.length=x.S.D.Cache.length:=by simp [NodeV.mark,StoreV.mark,DevV.mark,TabV.mark,marks_length,markL_length]
theorem NodeV.take_S_D_Cache {β:Type} (f:WrV→β) (x:NodeV) (k:Int):((x.mark k).S.D.Cache.map f).take x.S.D.Cache.length=(x.mark k).S.D.Cache.map f:=by rw [← x.mark_S_D_Cache k,take_map]
theorem NodeV.mark_S_T_Rows (x:NodeV) (k:Int):(x.mark k).S.T.Rows.length=x.S.T.Rows.length:=by simp [NodeV.mark,StoreV.mark,DevV.mark,TabV.mark,marks_length,markL_length]
theorem NodeV.take_S_T_Rows {β:Type} (f:RowV→β) (x:NodeV) (k:Int):((x.mark k).S.T.Rows.map f).take x.S.T.Rows.length=(x.mark k).S.T.Rows.map f:=by rw [← x.mark_S_T_Rows k,take_map]
theorem NodeV.mark_S_T_Marks (x:NodeV) (k:Int):(x.mark k).S.T.Marks.length=x.S.T.Marks.length:=by simp [NodeV.mark,StoreV.mark,DevV.mark,TabV.mark,marks_length,markL_length]
theorem NodeV.take_S_T_Marks {β:Type} (f:MarkV→β) (x:NodeV) (k:Int):((x.mark k).S.T.Marks.map f).take x.S.T.Marks.length=(x.mark k).S.T.Marks.map f:=by rw [← x.mark_S_T_Marks k,take_map]
theorem NodeV.far_le {x:NodeV} (hx:x.Len) (k:Int):k≤x.far k∧x.far k≤k + 17592204918784:=by
 have h0:x.S.Len:=hx
 have w0:=StoreV.far_le h0 k
 simp only [NodeV.far]
 omega
structure RecV where
 Kind:Int
 R:RowV
 Key:ByteArray
 N:Int
 Who:Int
 Seq:Int
 Code:Int
 deriving DecidableEq
abbrev RecV.enc (o:Bool) (x:RecV):List Go.X.T:=[iT x.Kind,sT x.R.Key,iT x.R.Old.Tag,slT o 1 uR x.R.Old.B,iT x.R.New.Tag,slT o 1 uR x.R.New.B,iT x.R.Has,bT x.R.Aside,sT x.Key,iT x.N,iT x.Who,iT x.Seq,iT x.Code]
def RecV.In (n:Nat) (x:RecV):Prop:=x.R.In (n)∧x.Key.size≤n
theorem RecV.In.mono {x:RecV} {n m:Nat} (h:x.In n) (hn:n≤m):x.In m:=by
 simp only [RecV.In] at h ⊢
 exact ⟨h.1.mono hn,Nat.le_trans h.2 hn⟩
def szRec (x:RecV) (k:Int):Int:=szAll [(szRow x.R),(fun k=>k - (x.Key.size:Nat))] k
theorem szRec_sane (x:RecV):Sane (szRec x):=Sane.all (.cons (szRow_sane _) (.cons (Sane.sub _) .nil))
theorem szRec_in {x:RecV} {k:Int} {n:Nat} (hk:0≤k) (hn:k≤n) (h:0≤szRec x k):x.In n:=by
 obtain ⟨⟨j0,a0,b0,c0⟩,⟨j1,a1,b1,c1⟩,_⟩:=szAll_ex (.cons (szRow_sane _) (.cons (Sane.sub _) .nil)) hk hn h
 exact ⟨(szRow_in a0 b0 c0),(by have q:(0:Int)≤j1 - _:=c1; omega)⟩
def RecV.Len (x:RecV):Prop:=x.R.Len
theorem RecV.In.len {x:RecV} {n:Nat} (h:x.In n) (hn:n≤2 ^ 21):x.Len:=by
 obtain ⟨h0,h1⟩:=h
 exact (h0).len hn
def RecV.mark (x:RecV) (k:Int):RecV:=⟨x.Kind,x.R.mark (k),x.Key,x.N,x.Who,x.Seq,x.Code⟩
def RecV.far (x:RecV) (k:Int):Int:=x.R.far (k)
theorem RecV.mark_R_Old_B (x:RecV) (k:Int):(x.mark k).R.Old.B.length=x.R.Old.B.length:=by simp [RecV.mark,RowV.mark,CellV.mark,marks_length,markL_length]
theorem RecV.take_R_Old_B {β:Type} (f:UInt8→β) (x:RecV) (k:Int):((x.mark k).R.Old.B.map f).take x.R.Old.B.length=(x.mark k).R.Old.B.map f:=by rw [← x.mark_R_Old_B k,take_map]
theorem RecV.mark_R_New_B (x:RecV) (k:Int):(x.mark k).R.New.B.length=x.R.New.B.length:=by simp [RecV.mark,RowV.mark,CellV.mark,marks_length,markL_length]
theorem RecV.take_R_New_B {β:Type} (f:UInt8→β) (x:RecV) (k:Int):((x.mark k).R.New.B.map f).take x.R.New.B.length=(x.mark k).R.New.B.map f:=by rw [← x.mark_R_New_B k,take_map]
theorem RecV.far_le {x:RecV} (hx:x.Len) (k:Int):k≤x.far k∧x.far k≤k + 4194304:=by
 have h0:x.R.Len:=hx
 have w0:=RowV.far_le h0 k
 simp only [RecV.far]
 omega
structure ActV where
 Kind:Int
 Who:Int
 Seq:Int
 Key:ByteArray
 Text:ByteArray
 Code:Int
 deriving DecidableEq
abbrev ActV.row (x:ActV):List Go.X.T:=[iT x.Kind,iT x.Who,iT x.Seq,sT x.Key,sT x.Text,iT x.Code]
def ActV.In (n:Nat) (x:ActV):Prop:=x.Key.size≤n∧x.Text.size≤n
theorem ActV.In.mono {x:ActV} {n m:Nat} (h:x.In n) (hn:n≤m):x.In m:=by
 simp only [ActV.In] at h ⊢
 exact ⟨Nat.le_trans h.1 hn,Nat.le_trans h.2 hn⟩
def szAct (x:ActV) (k:Int):Int:=szAll [(fun k=>k - (x.Key.size:Nat)),(fun k=>k - (x.Text.size:Nat))] k
theorem szAct_sane (x:ActV):Sane (szAct x):=Sane.all (.cons (Sane.sub _) (.cons (Sane.sub _) .nil))
theorem szAct_in {x:ActV} {k:Int} {n:Nat} (hk:0≤k) (hn:k≤n) (h:0≤szAct x k):x.In n:=by
 obtain ⟨⟨j0,a0,b0,c0⟩,⟨j1,a1,b1,c1⟩,_⟩:=szAll_ex (.cons (Sane.sub _) (.cons (Sane.sub _) .nil)) hk hn h
 exact ⟨(by have q:(0:Int)≤j0 - _:=c0; omega),(by have q:(0:Int)≤j1 - _:=c1; omega)⟩
def mkAct (k:Int):ActV:=⟨k,k + 1,k + 1 + 1,mkS (k + 1 + 1 + 1),mkS (k + 1 + 1 + 1 + 1),k + 1 + 1 + 1 + 1 + 1⟩
def CellV.ok (c:CellV):Bool:=win c.Tag 0 5&&decide ((c.B.length:Int)≤20)
def CellV.text (c:CellV):ByteArray×Bool:=if c.ok=true then decode c.Tag c.B else (⟨#[]⟩,false)
def CellV.no (c:CellV):Bool:=(c.Tag==0)&&decide (c.B=[])
def sameText (a c:CellV):Bool:=a.text.2&&c.text.2&&decide (a.text.1=c.text.1)
theorem CellV.ok_len {c:CellV} (h:c.ok=true):c.B.length≤20:=by
 simp only [CellV.ok,Bool.and_eq_true,decide_eq_true_eq] at h
 omega
abbrev C_i_CellOk (Te:TE):Prop:=∀ (c:CellV),Te 261 [.agg (c.enc false)] ⟨[.one (bT c.ok)],[c.enc false]⟩
abbrev C_i_CellText (Te:TE):Prop:=∀ (c:CellV),Te 177 [.agg (c.enc false)] ⟨[.one (sT c.text.1),.one (bT c.text.2)],[c.enc false]⟩
abbrev C_i_SameText (Te:TE):Prop:=∀ (a c:CellV),Te 305 [.agg (a.enc false),.agg (c.enc false)] ⟨[.one (bT (sameText a c))],[a.enc false,c.enc false]⟩
abbrev C_s_CellOk (Te:TE):Prop:=∀ (c:CellV),Te 286 [.agg (c.enc false)] ⟨[.one (bT c.ok)],[c.enc false]⟩
abbrev C_s_CellText (Te:TE):Prop:=∀ (c:CellV),Te 197 [.agg (c.enc false)] ⟨[.one (sT c.text.1),.one (bT c.text.2)],[c.enc false]⟩
abbrev C_s_SameText (Te:TE):Prop:=∀ (a c:CellV),Te 340 [.agg (a.enc false),.agg (c.enc false)] ⟨[.one (bT (sameText a c))],[a.enc false,c.enc false]⟩
theorem bytes_lists (a c:List UInt8):decide ((⟨a.toArray⟩:ByteArray)=⟨c.toArray⟩)=decide (a=c):=by
 congr 1
 simp
abbrev C_i_sameCell (Te:TE):Prop:=∀ (a c:CellV),Te 173 [.agg (a.enc false),.agg (c.enc false)] ⟨[.one (bT ((a.Tag==c.Tag)&&decide (a.B=c.B)))],[a.enc false,c.enc false]⟩
theorem none_len (l:List UInt8):((l.length:Int)==0)=decide (l=[]):=by
 cases l with
 | nil=>rfl
 | cons a l =>
  have h1:(((a::l).length:Int)==0)=false:=by simp only [beq_eq_false_iff_ne,List.length_cons]; omega
  rw [h1]
  simp
abbrev C_s_l9None (Te:TE):Prop:=∀ (c:CellV),Te 339 [.agg (c.enc false)] ⟨[.one (bT c.no)],[c.enc false]⟩
def nameCh (x:UInt8):Bool:=win x.toNat 97 122||win x.toNat 48 57
def nameOk (s:ByteArray):Bool:=s.data.toList.all nameCh&&win s.size 1 6
abbrev C_i_NameOk (Te:TE):Prop:=∀ (s:ByteArray) (h:s.size≤2 ^ 48),Te 98 [.one (sT s)] ⟨[.one (bT (nameOk s))],[[sT s]]⟩
abbrev C_s_NameOk (Te:TE):Prop:=∀ (s:ByteArray) (h:s.size≤2 ^ 48),Te 101 [.one (sT s)] ⟨[.one (bT (nameOk s))],[[sT s]]⟩
def RowV.ok (r:RowV):Bool:=nameOk r.Key&&win r.Has 1 3 &&
 (if r.Has=1 then r.Old.ok&&(r.Old.Tag != 0)&&(r.Old.text.2||r.Aside)&&r.New.no
  else if r.Has=2 then r.Old.no&&(r.New.Tag==0)&&r.New.text.2
  else r.Old.ok&&(r.Old.Tag != 0)&&r.Old.text.2&&(r.New.Tag==0)&&r.New.text.2&&sameText r.Old r.New)
theorem and1_has (h:Int) (hh:h=1∨h=2∨h=3):(andK .i64 h 1==1)=decide (h≠2):=by
 rw [andK_def]
 rcases hh with rfl | rfl | rfl <;> decide
theorem and2_has (h:Int) (hh:h=1∨h=2∨h=3):(andK .i64 h 2==2)=decide (h≠1):=by
 rw [andK_def]
 rcases hh with rfl | rfl | rfl <;> decide
theorem win13 {h:Int} (g:win h 1 3=true):h=1∨h=2∨h=3:=by
 simp only [win,Bool.and_eq_true,decide_eq_true_eq] at g
 omega
theorem tag_no {c:CellV} (h:win c.Tag 1 5=false):(c.ok&&(c.Tag != 0))=false:=by
 cases g:c.ok
 ·rfl
 ·simp only [CellV.ok,win,Bool.and_eq_true,decide_eq_true_eq] at g
  simp only [win,Bool.and_eq_false_iff,decide_eq_false_iff_not] at h
  have:c.Tag=0:=by omega
  rw [this]
  rfl
theorem tag_yes {c:CellV} (h:win c.Tag 1 5=true):(c.Tag != 0)=true:=by
 simp only [win,Bool.and_eq_true,decide_eq_true_eq] at h
 simp only [bne_iff_ne]
 omega
theorem rowOk_name {r:RowV} (h:nameOk r.Key=false):r.ok=false:=by simp only [RowV.ok,h,Bool.false_and]
theorem rowOk_has {r:RowV} (h:win r.Has 1 3=false):r.ok=false:=by simp only [RowV.ok,h,Bool.and_false,Bool.false_and]
theorem rowOk_1 {k:ByteArray} {o n:CellV} {a:Bool} (h:nameOk k=true):(RowV.mk k o n 1 a).ok=(o.ok&&(o.Tag != 0)&&(o.text.2||a)&&n.no):=by simp only [RowV.ok,h]; rfl
theorem rowOk_2 {k:ByteArray} {o n:CellV} {a:Bool} (h:nameOk k=true):(RowV.mk k o n 2 a).ok=(o.no&&(n.Tag==0)&&n.text.2):=by simp only [RowV.ok,h]; rfl
theorem rowOk_3 {k:ByteArray} {o n:CellV} {a:Bool} (h:nameOk k=true):(RowV.mk k o n 3 a).ok=(o.ok&&(o.Tag != 0)&&o.text.2&&(n.Tag==0)&&n.text.2&&sameText o n):=by simp only [RowV.ok,h]; rfl
theorem rowOk_13 {r:RowV} (h:r.ok=true):r.Has=1∨r.Has=2∨r.Has=3:=by
 simp only [RowV.ok,Bool.and_eq_true] at h
 exact win13 h.1.2
theorem text_no {c:CellV} (h:c.ok=false):c.text.2=false:=by rw [CellV.text,h]; rfl
abbrev C_s_l9Old (Te:TE):Prop:=∀ (r:RowV) (h:r.Has=1∨r.Has=2∨r.Has=3),Te 291 [.agg (r.enc false)] ⟨[.one (bT (decide (r.Has≠2)))],[r.enc false]⟩
abbrev C_s_l9New (Te:TE):Prop:=∀ (r:RowV) (h:r.Has=1∨r.Has=2∨r.Has=3),Te 196 [.agg (r.enc false)] ⟨[.one (bT (decide (r.Has≠1)))],[r.enc false]⟩
abbrev C_i_RowOk (Te:TE):Prop:=∀ (r:RowV) (h:r.In (2 ^ 48)),Te 253 [.agg (r.enc false)] ⟨[.one (bT r.ok)],[r.enc false]⟩
abbrev C_s_RowOk (Te:TE):Prop:=∀ (r:RowV) (h:r.In (2 ^ 48)),Te 289 [.agg (r.enc false)] ⟨[.one (bT r.ok)],[r.enc false]⟩
theorem rng_end {n i:Nat} {f:Nat→Bool} (h:n≤i) (hp:∀ j,j < i→f j=true):(List.range n).all f=true:=by
 rw [List.all_eq_true]
 intro j hj
 exact hp j (by have:=List.mem_range.1 hj; omega)
theorem rng_not {n i:Nat} {f:Nat→Bool} (h:i < n) (hf:f i=false):(List.range n).all f=false:=by
 cases g:(List.range n).all f
 ·rfl
 ·rw [List.all_eq_true] at g
  have:=g i (List.mem_range.2 h)
  rw [hf] at this
  cases this
theorem rng_step {i:Nat} {f:Nat→Bool} (hp:∀ j,j < i→f j=true) (hf:f i=true):∀ j,j < i + 1→f j=true:=by
 intro j hj
 by_cases e:j=i
 ·subst e; exact hf
 ·exact hp j (by omega)
def rowGood (l:List RowV) (i:Nat):Bool:=((l[i]?.map RowV.ok).getD true)&&(i==0||((l[i - 1]?.bind fun x=>l[i]?.map fun y=>Op.bytesLess x.Key.toList y.Key.toList).getD true))
theorem rowGood_zero {l:List RowV} (h:0 < l.length):rowGood l 0=l[0].ok:=by
 simp only [rowGood,List.getElem?_eq_getElem h,Option.map_some,Option.getD_some,beq_self_eq_true,Bool.true_or,Bool.and_true]
theorem rowGood_succ {l:List RowV} {j:Nat} (h:j + 1 < l.length):rowGood l (j + 1)=(l[j + 1].ok&&Op.bytesLess (l[j]'(by omega)).Key.toList l[j + 1].Key.toList):=by
 have h0:j < l.length:=by omega
 simp only [rowGood,List.getElem?_eq_getElem h,Nat.add_sub_cancel,List.getElem?_eq_getElem h0,Option.map_some,Option.getD_some,Option.bind_some,show (j + 1==0)=false from rfl,Bool.false_or]
def MarkV.ok (m:MarkV):Bool:=win m.Who 1 9&&win m.Seq 0 65535&&win m.Code 0 6
def markGood (l:List MarkV) (i:Nat):Bool:=((l[i]?.map MarkV.ok).getD true)&&(i==0||((l[i - 1]?.bind fun x=>l[i]?.map fun y=>!decide (x.Who≥y.Who)).getD true))
theorem markGood_zero {l:List MarkV} (h:0 < l.length):markGood l 0=l[0].ok:=by
 simp only [markGood,List.getElem?_eq_getElem h,Option.map_some,Option.getD_some,beq_self_eq_true,Bool.true_or,Bool.and_true]
theorem markGood_succ {l:List MarkV} {j:Nat} (h:j + 1 < l.length):markGood l (j + 1)=(l[j + 1].ok && !decide ((l[j]'(by omega)).Who≥l[j + 1].Who)):=by
 have h0:j < l.length:=by omega
 simp only [markGood,List.getElem?_eq_getElem h,Nat.add_sub_cancel,List.getElem?_eq_getElem h0,Option.map_some,Option.getD_some,Option.bind_some,show (j + 1==0)=false from rfl,Bool.false_or]
def TabV.ok (t:TabV):Bool:=(List.range t.Rows.length).all (rowGood t.Rows)&&(List.range t.Marks.length).all (markGood t.Marks)&&(decide ((t.Rows.length:Int)≤8)&&win t.Phase 0 7)
abbrev C_s_l12Mark (Te:TE):Prop:=∀ (m:MarkV),Te 292 [.agg m.row] ⟨[.one (bT m.ok)],[m.row]⟩
abbrev C_i_TabOk (Te:TE):Prop:=∀ (t:TabV) (h:t.In (2 ^ 48)),Te 179 [.agg (t.enc false)] ⟨[.one (bT t.ok)],[t.enc false]⟩
abbrev C_s_TabOk (Te:TE):Prop:=∀ (t:TabV) (h:t.In (2 ^ 48)),Te 206 [.agg (t.enc false)] ⟨[.one (bT t.ok)],[t.enc false]⟩
def secGood (l:List UInt8):Bool:=!decide ((l.length:Int) > 120)
def wrGood (n:Nat) (w:WrV):Bool:=win w.N 0 ((n:Int) - 1) && !decide ((w.B.length:Int) > 120)
def DevV.ok (d:DevV):Bool:=win d.Secs.length 1 64&&decide ((d.Cache.length:Int)≤40)&&win d.Fuse (-1) 1000&&d.Secs.all secGood&&d.Cache.all (wrGood d.Secs.length)
theorem gt_le (n:Nat):decide ((n:Int) > 40) = !decide ((n:Int)≤40):=by
 by_cases h:(n:Int)≤40
 ·rw [decide_eq_true h,decide_eq_false (by omega)]; rfl
 ·rw [decide_eq_false h,decide_eq_true (by omega)]; rfl
abbrev C_i_DevOk (Te:TE):Prop:=∀ (d:DevV) (h:d.In (2 ^ 48)),Te 178 [.agg (d.enc false)] ⟨[.one (bT d.ok)],[d.enc false]⟩
abbrev C_s_DevOk (Te:TE):Prop:=∀ (d:DevV) (h:d.In (2 ^ 48)),Te 205 [.agg (d.enc false)] ⟨[.one (bT d.ok)],[d.enc false]⟩
def StoreV.ok (s:StoreV):Bool:=s.D.ok&&((s.D.Secs.length:Int)==62)&&(((s.D.Cache.length:Int)==0)||s.D.Down)&&s.T.ok&&win s.Gen 1 60000&&win s.Place 0 30
abbrev C_i_StoreOk (Te:TE):Prop:=∀ (s:StoreV) (h:s.In (2 ^ 48)),Te 89 [.agg (s.enc false)] ⟨[.one (bT s.ok)],[s.enc false]⟩
abbrev C_s_StoreOk (Te:TE):Prop:=∀ (s:StoreV) (h:s.In (2 ^ 48)),Te 119 [.agg (s.enc false)] ⟨[.one (bT s.ok)],[s.enc false]⟩
def NodeV.ok (n:NodeV):Bool:=n.S.ok&&win n.Cs 1 5
abbrev C_i_NodeOk (Te:TE):Prop:=∀ (n:NodeV) (h:n.In (2 ^ 48)),Te 23 [.agg (n.enc false)] ⟨[.one (bT n.ok)],[n.enc false]⟩
abbrev C_s_NodeOk (Te:TE):Prop:=∀ (n:NodeV) (h:n.In (2 ^ 48)),Te 43 [.agg (n.enc false)] ⟨[.one (bT n.ok)],[n.enc false]⟩
theorem take_rows (l:List UInt8):List.take l.length (l.map uR)=l.map uR:=List.take_of_length_le (by simp)
attribute [go_sem] take_rows
abbrev C_i_copyCell (Te:TE):Prop:=∀ (c:CellV) (h:c.Len),Te 304 [.agg (c.enc false)] ⟨[.agg (c.enc true)],[c.enc false]⟩
abbrev C_s_l8Copy (Te:TE):Prop:=∀ (c:CellV) (h:c.Len),Te 338 [.agg (c.enc false)] ⟨[.agg (c.enc true)],[c.enc false]⟩
abbrev C_i_copyRow (Te:TE):Prop:=∀ (r:RowV) (h:r.Len),Te 252 [.agg (r.enc false)] ⟨[.agg (r.enc true)],[r.enc false]⟩
abbrev C_s_l9Copy (Te:TE):Prop:=∀ (r:RowV) (h:r.Len),Te 288 [.agg (r.enc false)] ⟨[.agg (r.enc true)],[r.enc false]⟩
abbrev C_i_flag (Te:TE):Prop:=∀ (b:Bool),Te 352 [.one (bT b)] ⟨[.one (uT (bif b then 1 else 0))],[[bT b]]⟩
abbrev C_s_l11Bit (Te:TE):Prop:=∀ (b:Bool),Te 336 [.one (bT b)] ⟨[.one (uT (bif b then 1 else 0))],[[bT b]]⟩
def RowV.no (r:RowV):Bool:=decide (r.Key=⟨#[]⟩)&&r.Old.no&&r.New.no&&(r.Has==0) && !r.Aside
def RowV.zero:RowV:=⟨⟨#[]⟩,⟨0,[]⟩,⟨0,[]⟩,0,false⟩
def cellSame (a c:CellV):Bool:=(a.Tag==c.Tag)&&decide (a.B=c.B)
def rowSame (a c:RowV):Bool:=decide (a.Key=c.Key)&&cellSame a.Old c.Old&&cellSame a.New c.New&&(a.Has==c.Has)&&(a.Aside==c.Aside)
theorem rowSame_zero (r:RowV):rowSame r RowV.zero=r.no:=by
 simp only [rowSame,RowV.no,RowV.zero,cellSame,CellV.no]
 congr 1
 cases r.Aside <;> rfl
abbrev C_i_sameRow (Te:TE):Prop:=∀ (a c:RowV),Te 85 [.agg (a.enc false),.agg (c.enc false)] ⟨[.one (bT (rowSame a c))],[a.enc false,c.enc false]⟩
abbrev C_s_l11NoRow (Te:TE):Prop:=∀ (r:RowV),Te 334 [.agg (r.enc false)] ⟨[.one (bT r.no)],[r.enc false]⟩
def RecV.who (r:RecV):Bool:=bif r.Who==0 then (r.Seq==0)&&(r.Code==0)&&(r.Kind != 4) else win r.Who 1 9&&win r.Seq 0 65535&&win r.Code 0 6
def RecV.body (r:RecV):Bool :=
 bif r.Kind==1 then r.R.ok&&decide (r.Key=⟨#[]⟩)&&(r.N==0)
 else bif r.Kind==2 then r.R.no&&nameOk r.Key&&(r.N==0)
 else bif r.Kind==3 then r.R.no&&decide (r.Key=⟨#[]⟩)&&win r.N 0 7
 else bif r.Kind==4 then r.R.no&&decide (r.Key=⟨#[]⟩)&&(r.N==0)
 else false
def RecV.ok (r:RecV):Bool:=r.body&&r.who
abbrev C_s_l11Who (Te:TE):Prop:=∀ (r:RecV),Te 335 [.agg (r.enc false)] ⟨[.one (bT r.who)],[r.enc false]⟩
theorem kind_win {k:Int} (h:win k 1 4=false):(k==1)=false∧(k==2)=false∧(k==3)=false∧(k==4)=false:=by
 simp only [win,Bool.and_eq_false_iff,decide_eq_false_iff_not] at h
 simp only [beq_eq_false_iff_ne,ne_eq]
 omega
theorem win_kind {k:Int} (h:win k 1 4=true):k=1∨k=2∨k=3∨k=4:=by
 simp only [win,Bool.and_eq_true,decide_eq_true_eq] at h
 omega
abbrev C_s_RecOk (Te:TE):Prop:=∀ (r:RecV) (h:r.In (2 ^ 48)),Te 276 [.agg (r.enc false)] ⟨[.one (bT r.ok)],[r.enc false]⟩
theorem other_kind {k:Int} (h1:¬ k=1) (h2:¬ k=2) (h3:¬ k=3) (h4:¬ k=4):(k==1)=false∧(k==2)=false∧(k==3)=false∧(k==4)=false:=by
 simp only [beq_eq_false_iff_ne,ne_eq]
 omega
abbrev C_i_RecOk (Te:TE):Prop:=∀ (r:RecV) (h:r.In (2 ^ 48)),Te 306 [.agg (r.enc false)] ⟨[.one (bT r.ok)],[r.enc false]⟩
def strOf (l:List UInt8):ByteArray:=⟨l.toArray⟩
def putCell (b:List UInt8) (c:CellV):List UInt8:=putText (b++[mkU c.Tag]) (strOf c.B)
def flagU (a:Bool):UInt8:=bif a then 1 else 0
def putRow1 (b:List UInt8) (r:RowV):List UInt8:=putText b r.Key++[mkU r.Has,flagU r.Aside]
def putRow2 (b:List UInt8) (r:RowV):List UInt8:=if r.Has=2 then putRow1 b r else putCell (putRow1 b r) r.Old
def putRow3 (b:List UInt8) (r:RowV):List UInt8:=if r.Has=1 then putRow2 b r else putCell (putRow2 b r) r.New
def putRow (b:List UInt8) (r:RowV):List UInt8:=if r.ok=true then putRow3 b r else b
theorem app1B (l:List UInt8) (x:UInt8):List.map uR l++[[uT x]]=List.map uR (l++[x]):=by rw [List.map_append]; rfl
theorem app2B (l:List UInt8) (x y:UInt8):List.map uR l++[[uT x],[uT y]]=List.map uR (l++[x,y]):=by rw [List.map_append]; rfl
theorem take1B (l:List UInt8) (x:UInt8):List.take (l.length + 1) (List.map uR (l++[x]))=List.map uR (l++[x]):=List.take_of_length_le (by simp)
theorem take2B (l:List UInt8) (x y:UInt8):List.take (l.length + 2) (List.map uR (l++[x,y]))=List.map uR (l++[x,y]):=List.take_of_length_le (by simp)
theorem putCell_len (b:List UInt8) (c:CellV):(putCell b c).length≤b.length + 63:=by
 have:=putText_len (b++[mkU c.Tag]) (strOf c.B)
 simp only [List.length_append,List.length_cons,List.length_nil] at this
 unfold putCell
 omega
theorem putRow1_len (b:List UInt8) (r:RowV):(putRow1 b r).length≤b.length + 64:=by
 have:=putText_len b r.Key
 unfold putRow1
 rw [List.length_append]
 simp only [List.length_cons,List.length_nil]
 omega
theorem putRow2_len (b:List UInt8) (r:RowV):(putRow2 b r).length≤b.length + 127:=by
 have h1:=putRow1_len b r
 have h2:=putCell_len (putRow1 b r) r.Old
 unfold putRow2
 split <;> omega
theorem putRow_len (b:List UInt8) (r:RowV):(putRow b r).length≤b.length + 190:=by
 have h1:=putRow2_len b r
 have h2:=putCell_len (putRow2 b r) r.New
 unfold putRow putRow3
 split
 ·split <;> omega
 ·omega
theorem rowOk_win {r:RowV} (h:r.ok=true):win r.Has 1 3=true:=by
 cases g:win r.Has 1 3
 ·rw [rowOk_has g] at h; exact absurd h (by decide)
 ·rfl
theorem rowOk_cells {r:RowV} (h:r.In (2 ^ 48)):r.Old.B.length≤2 ^ 48∧r.New.B.length≤2 ^ 48:=⟨h.2.1,h.2.2⟩
theorem strOf_size (l:List UInt8):(strOf l).size=l.length:=by simp [strOf,ByteArray.size]
abbrev C_s_l11Cell (Te:TE):Prop:=∀ (b:List UInt8) (c:CellV) (hb:b.length≤2 ^ 28) (hc:c.B.length≤2 ^ 48),Te 337 [.one (slT true 1 uR b),.agg (c.enc false)] ⟨[.one (slT true 1 uR (putCell b c))],[[.no ()],c.enc false]⟩
abbrev C_i_PutRow (Te:TE):Prop:=∀ (b:List UInt8) (r:RowV) (hb:b.length≤2 ^ 27) (h:r.In (2 ^ 48)),Te 313 [.one (slT false 1 uR b),.agg (r.enc false)] ⟨[.one (slT true 1 uR (putRow b r))],[[slT false 1 uR b],r.enc false]⟩
abbrev C_s_PutRow (Te:TE):Prop:=∀ (b:List UInt8) (r:RowV) (hb:b.length≤2 ^ 27) (h:r.In (2 ^ 48)),Te 283 [.one (slT false 1 uR b),.agg (r.enc false)] ⟨[.one (slT true 1 uR (putRow b r))],[[slT false 1 uR b],r.enc false]⟩
def recKind (b:List UInt8) (r:RecV):List UInt8:=if r.Kind=1 then putRow b r.R else if r.Kind=2 then putText b r.Key else if r.Kind=3 then b++[mkU r.N] else b
def recHead (gen place:Int) (r:RecV):List UInt8:=putW (putW [] gen) place++[mkU r.Kind]
def recBody (gen place:Int) (r:RecV):List UInt8:=putW (recKind (recHead gen place r) r++[mkU r.Who,mkU r.Code]) r.Seq
def recGood (gen place:Int) (r:RecV):Bool:=r.ok&&win gen 0 65535&&win place 0 65535
def putRec (gen place:Int) (r:RecV):List UInt8:=if recGood gen place r=true then putW (recBody gen place r) (sum (recBody gen place r):Nat) else []
theorem recHead_len (gen place:Int) (r:RecV):(recHead gen place r).length=5:=by
 simp only [recHead,putW,List.length_append,List.length_cons,List.length_nil]
theorem recKind_len (b:List UInt8) (r:RecV):(recKind b r).length≤b.length + 190:=by
 unfold recKind
 have h1:=putRow_len b r.R
 have h2:=putText_len b r.Key
 split
 ·omega
 ·split
  ·omega
  ·split
   ·simp only [List.length_append,List.length_cons,List.length_nil]; omega
   ·omega
theorem recBody_len (gen place:Int) (r:RecV):(recBody gen place r).length≤199:=by
 have h1:=recKind_len (recHead gen place r) r
 rw [recHead_len] at h1
 unfold recBody
 rw [putW_len,List.length_append]
 simp only [List.length_cons,List.length_nil]
 omega
theorem putRec_len (gen place:Int) (r:RecV):(putRec gen place r).length≤201:=by
 unfold putRec
 have:=recBody_len gen place r
 split
 ·rw [putW_len]; omega
 ·exact Nat.zero_le _
theorem recNo1 {gen place:Int} {r:RecV} (h:r.ok=false):putRec gen place r=[]:=by
 have:recGood gen place r=false:=by simp only [recGood,h,Bool.false_and]
 rw [putRec,this]; rfl
theorem recNo2 {gen place:Int} {r:RecV} (h:win gen 0 65535=false):putRec gen place r=[]:=by
 have:recGood gen place r=false:=by simp only [recGood,h,Bool.false_and,Bool.and_false]
 rw [putRec,this]; rfl
theorem recNo3 {gen place:Int} {r:RecV} (h:win place 0 65535=false):putRec gen place r=[]:=by
 have:recGood gen place r=false:=by simp only [recGood,h,Bool.and_false]
 rw [putRec,this]; rfl
theorem recYes {gen place:Int} {r:RecV} (h1:r.ok=true) (h2:win gen 0 65535=true) (h3:win place 0 65535=true):putRec gen place r=putW (recBody gen place r) (sum (recBody gen place r):Nat):=by
 have:recGood gen place r=true:=by simp only [recGood,h1,h2,h3,Bool.and_true]
 rw [putRec,if_pos this]
theorem other3 {k:Int} (h1:¬ k=1) (h2:¬ k=2) (h3:¬ k=3):(k==1)=false∧(k==2)=false∧(k==3)=false:=by
 simp only [beq_eq_false_iff_ne,ne_eq]
 omega
abbrev C_i_PutRec (Te:TE):Prop:=∀ (gen place:Int) (r:RecV) (h:r.In (2 ^ 48)),Te 259 [.one (iT gen),.one (iT place),.agg (r.enc false)] ⟨[.one (slT true 1 uR (putRec gen place r))],[[iT gen],[iT place],r.enc false]⟩
abbrev C_s_PutRec (Te:TE):Prop:=∀ (gen place:Int) (r:RecV) (h:r.In (2 ^ 48)),Te 194 [.one (iT gen),.one (iT place),.agg (r.enc false)] ⟨[.one (slT true 1 uR (putRec gen place r))],[[iT gen],[iT place],r.enc false]⟩
def headGood (gen n:Int):Bool:=win gen 1 60000&&win n 0 30
def headOf (gen n:Int):List UInt8:=if headGood gen n=true then putW (putW (putW [] gen) n) (sum (putW (putW [] gen) n):Nat) else []
theorem headOf_len (gen n:Int):(headOf gen n).length≤6:=by
 unfold headOf
 split
 ·rw [putW_len,putW_len,putW_len]; decide
 ·exact Nat.zero_le _
abbrev C_i_HeadOf (Te:TE):Prop:=∀ (gen n:Int),Te 293 [.one (iT gen),.one (iT n)] ⟨[.one (slT true 1 uR (headOf gen n))],[[iT gen],[iT n]]⟩
abbrev C_s_HeadOf (Te:TE):Prop:=∀ (gen n:Int),Te 280 [.one (iT gen),.one (iT n)] ⟨[.one (slT true 1 uR (headOf gen n))],[[iT gen],[iT n]]⟩
def recRow (r:RowV):RecV:=⟨1,r,⟨#[]⟩,0,0,0,0⟩
def recMark (m:MarkV):RecV:=⟨4,RowV.zero,⟨#[]⟩,0,m.Who,m.Seq,m.Code⟩
def recPhase (n:Int):RecV:=⟨3,RowV.zero,⟨#[]⟩,n,0,0,0⟩
def recsOf (t:TabV):List RecV:=recPhase t.Phase::(t.Rows.map recRow++t.Marks.map recMark)
theorem recsOf_len (t:TabV):(recsOf t).length=t.Rows.length + t.Marks.length + 1:=by
 simp only [recsOf,List.length_cons,List.length_append,List.length_map]
theorem app1R (l:List RecV) (x:RecV):List.map (RecV.enc true) l++[x.enc true]=List.map (RecV.enc true) (l++[x]):=by rw [List.map_append]; rfl
theorem recs_rows {t:TabV} {i:Nat} (h:i < t.Rows.length):(recPhase t.Phase::(t.Rows.take i).map recRow)++[recRow t.Rows[i]]=recPhase t.Phase::(t.Rows.take (i + 1)).map recRow:=by
 rw [List.take_succ_eq_append_getElem h,List.map_append]; rfl
theorem recs_marks {t:TabV} {i:Nat} (h:i < t.Marks.length):(recPhase t.Phase::(t.Rows.map recRow++(t.Marks.take i).map recMark))++[recMark t.Marks[i]]=recPhase t.Phase::(t.Rows.map recRow++(t.Marks.take (i + 1)).map recMark):=by
 rw [List.take_succ_eq_append_getElem h,List.map_append,List.cons_append,List.append_assoc]; rfl
abbrev C_i_RecsOf (Te:TE):Prop:=∀ (t:TabV) (h:t.Len),Te 207 [.agg (t.enc false)] ⟨[.one (slT true 13 (RecV.enc true) (recsOf t))],[t.enc false]⟩
abbrev C_s_RecsOf (Te:TE):Prop:=∀ (t:TabV) (h:t.Len),Te 279 [.agg (t.enc false)] ⟨[.one (slT true 13 (RecV.enc true) (recsOf t))],[t.enc false]⟩
abbrev secR (o:Bool) (y:List UInt8):List T:=[slT o 1 uR y]
def devNew (n:Int):DevV:=bif win n 1 64 then ⟨List.replicate n.toNat [],[],-1,false⟩ else ⟨[],[],0,false⟩
theorem rep_secs (k:Nat):(List.replicate k [Tr.sl true 1 () []]:List (List T))=List.map (secR true) (List.replicate k []):=by rw [List.map_replicate]; rfl
theorem app1S (l:List (List UInt8)) (x:List UInt8):List.map (secR true) l++[[slT true 1 uR x]]=List.map (secR true) (l++[x]):=by rw [List.map_append]; rfl
theorem app1W (l:List WrV) (x:WrV):List.map (WrV.enc true) l++[[iT x.N,slT true 1 uR x.B]]=List.map (WrV.enc true) (l++[x]):=by rw [List.map_append]; rfl
theorem take_all {α β:Type} (f:α→β) (l:List α):List.take l.length (List.map f l)=List.map f l:=List.take_of_length_le (by simp)
attribute [go_sem] take_all
theorem rep_step (i:Nat):(List.replicate i ([]:List UInt8))++[[]]=List.replicate (i + 1) []:=by rw [List.replicate_succ']
abbrev C_s_DevNew (Te:TE):Prop:=∀ (n:Int),Te 210 [.one (iT n)] ⟨[.agg ((devNew n).enc true)],[[iT n]]⟩
def DevV.burn (d:DevV):DevV:=if d.Fuse=0 then ⟨d.Secs,d.Cache,-1,true⟩ else if d.Fuse > 0 then ⟨d.Secs,d.Cache,IntKind.i64.wrap (d.Fuse - 1),d.Down⟩ else d
def DevV.full (d:DevV) (n:Int) (b:List UInt8):Bool:=d.Down||(!win n 0 ((d.Secs.length:Int) - 1)||(decide ((b.length:Int) > 120)||decide ((d.Cache.length:Int)≥40)))
def DevV.put (d:DevV) (n:Int) (b:List UInt8):DevV:=⟨d.Secs,d.Cache++[⟨n,b⟩],d.Fuse,d.Down⟩
def DevV.write (d:DevV) (n:Int) (b:List UInt8):DevV:=if d.full n b=true then d else if d.Fuse=0 then d.burn else d.burn.put n b
def flushed (S:List (List UInt8)) (C:List WrV):List (List UInt8):=C.foldl (fun s w=>s.set w.N.toNat w.B) S
def DevV.flush (d:DevV):DevV:=if d.Down=true then d else if d.Fuse=0 then d.burn else ⟨flushed d.Secs d.Cache,[],d.burn.Fuse,d.burn.Down⟩
theorem flushed_len (C:List WrV):∀ S:List (List UInt8),(flushed S C).length=S.length:=by
 induction C with
 | nil=>intro S; rfl
 | cons w C ih=>intro S; show (flushed (S.set w.N.toNat w.B) C).length=S.length; rw [ih,List.length_set]
theorem flushed_step {C:List WrV} {i:Nat} (h:i < C.length) (S:List (List UInt8)):(flushed S (C.take i)).set C[i].N.toNat C[i].B=flushed S (C.take (i + 1)):=by
 rw [List.take_succ_eq_append_getElem h,flushed,flushed,List.foldl_append]; rfl
theorem burn_secs (d:DevV):d.burn.Secs=d.Secs:=by
 unfold DevV.burn
 split
 ·rfl
 ·split <;> rfl
theorem burn_cache (d:DevV):d.burn.Cache=d.Cache:=by
 unfold DevV.burn
 split
 ·rfl
 ·split <;> rfl
theorem DevV.ok_in {d:DevV} (h:d.ok=true):d.In (2 ^ 20):=by
 simp only [DevV.ok,Bool.and_eq_true,win,decide_eq_true_eq,List.all_eq_true,secGood,wrGood,Bool.not_eq_true',decide_eq_false_iff_not] at h
 obtain ⟨⟨⟨⟨⟨h1,h2⟩,h3⟩,_⟩,h4⟩,h5⟩:=h
 refine ⟨⟨by omega,fun y hy=>?_⟩,by omega,fun y hy=>?_⟩
 ·have:=h4 y hy; omega
 ·have:=(h5 y hy).2; show y.B.length≤2 ^ 20; omega
theorem DevV.ok_idx {d:DevV} (h:d.ok=true):∀ w∈d.Cache,0≤w.N∧w.N < d.Secs.length:=by
 simp only [DevV.ok,Bool.and_eq_true,win,decide_eq_true_eq,List.all_eq_true,wrGood] at h
 intro w hw
 have:=(h.2 w hw).1
 omega
theorem DevV.ok_cache {d:DevV} (h:d.ok=true):d.Cache.length≤40:=by
 simp only [DevV.ok,Bool.and_eq_true,decide_eq_true_eq] at h
 omega
abbrev C_i_copyDev (Te:TE):Prop:=∀ (d:DevV) (h:d.Len),Te 245 [.agg (d.enc false)] ⟨[.agg (d.enc true)],[d.enc false]⟩
abbrev C_i_burn (Te:TE):Prop:=∀ (d:DevV),Te 311 [.agg (d.enc true)] ⟨[.agg (d.burn.enc true),.one (bT (!(d.Fuse==0)))],[[.no (),.no (),iT d.Fuse,bT d.Down]]⟩
abbrev C_s_l10Op (Te:TE):Prop:=∀ (d:DevV),Te 281 [.ptr (d.enc true)] ⟨[.one (bT (!(d.Fuse==0)))],[d.burn.enc true]⟩
theorem full_down {d:DevV} {n:Int} {b:List UInt8} (h:d.Down=true):d.write n b=d:=by rw [DevV.write,if_pos (by rw [DevV.full,h]; rfl)]
theorem full_win {d:DevV} {n:Int} {b:List UInt8} (h:win n 0 ((d.Secs.length:Int) - 1)=false):d.write n b=d:=by rw [DevV.write,if_pos (by rw [DevV.full,h]; simp)]
theorem full_len {d:DevV} {n:Int} {b:List UInt8} (h:decide ((b.length:Int) > 120)=true):d.write n b=d:=by rw [DevV.write,if_pos (by rw [DevV.full,h]; simp)]
theorem full_cache {d:DevV} {n:Int} {b:List UInt8} (h:decide ((d.Cache.length:Int)≥40)=true):d.write n b=d:=by rw [DevV.write,if_pos (by rw [DevV.full,h]; simp)]
theorem not_full {d:DevV} {n:Int} {b:List UInt8} (h1:d.Down=false) (h2:win n 0 ((d.Secs.length:Int) - 1)=true) (h3:decide ((b.length:Int) > 120)=false) (h4:decide ((d.Cache.length:Int)≥40)=false):d.write n b=if d.Fuse=0 then d.burn else d.burn.put n b:=by
 rw [DevV.write,if_neg (by rw [DevV.full,h1,h2,h3,h4]; decide)]
abbrev C_i_WriteSec (Te:TE):Prop:=∀ (d:DevV) (n:Int) (b:List UInt8) (hk:d.ok=true) (hb:b.length≤2 ^ 21),Te 257 [.agg (d.enc false),.one (iT n),.one (slT false 1 uR b)] ⟨[.agg ((d.write n b).enc true)],[d.enc false,[iT n],[slT false 1 uR b]]⟩
abbrev C_s_l10Write (Te:TE):Prop:=∀ (d:DevV) (n:Int) (b:List UInt8) (hd:d.Secs.length≤2 ^ 30∧d.Cache.length≤2 ^ 30) (hb:b.length≤2 ^ 30),Te 192 [.ptr (d.enc true),.one (iT n),.one (slT false 1 uR b)] ⟨[],[(d.write n b).enc true,[iT n],[slT false 1 uR b]]⟩
def mvRows (C:List WrV) (i:Nat):List (List T):=(C.take i).map (fun w=>[iT w.N,.no ()])++(C.drop i).map (WrV.enc true)
theorem mv_len (C:List WrV) (i:Nat):(mvRows C i).length=C.length:=by
 simp only [mvRows,List.length_append,List.length_map,List.length_take,List.length_drop]; omega
theorem mv_zero (C:List WrV):mvRows C 0=C.map (WrV.enc true):=rfl
theorem mv_get {C:List WrV} {i:Nat} (h:i < C.length):(mvRows C i)[i]?=some (C[i].enc true):=by
 have e:((C.take i).map (fun w:WrV=>([iT w.N,.no ()]:List T))).length=i:=by simp; omega
 rw [mvRows,List.getElem?_append_right (by omega),e,Nat.sub_self,List.getElem?_map,List.getElem?_drop,Nat.add_zero,List.getElem?_eq_getElem h]
 rfl
theorem mv_set {C:List WrV} {i:Nat} (h:i < C.length):(mvRows C i).set i [iT C[i].N,.no ()]=mvRows C (i + 1):=by
 have e:((C.take i).map (fun w:WrV=>([iT w.N,.no ()]:List T))).length=i:=by simp; omega
 rw [mvRows,List.set_append_right _ _ (by omega),e,Nat.sub_self,List.drop_eq_getElem_cons h,List.map_cons,List.set_cons_zero,mvRows,List.take_succ_eq_append_getElem h,List.map_append,List.append_assoc]
 rfl
theorem setS (S:List (List UInt8)) (k:Nat) (B:List UInt8):(List.map (secR true) S).set k [slT true 1 uR B]=List.map (secR true) (S.set k B):=by rw [List.map_set]
theorem getS {S:List (List UInt8)} {k:Nat} (h:k < S.length):(List.map (secR true) S).getD k []=[slT true 1 uR S[k]]:=by
 rw [List.getD_eq_getElem?_getD,List.getElem?_map,List.getElem?_eq_getElem h]; rfl
abbrev C_i_FlushDev (Te:TE):Prop:=∀ (d:DevV) (hk:d.ok=true),Te 260 [.agg (d.enc false)] ⟨[.agg (d.flush.enc true)],[d.enc false]⟩
abbrev C_s_l10Flush (Te:TE):Prop:=∀ (d:DevV) (hd:d.Cache.length≤2 ^ 30) (hidx:∀ w∈d.Cache,0≤w.N∧w.N < d.Secs.length),Te 195 [.ptr (d.enc true)] ⟨[],[d.flush.enc true]⟩
theorem DevV.ok_iff (d:DevV):d.ok=true↔(1≤d.Secs.length∧d.Secs.length≤64)∧d.Cache.length≤40∧(-1≤d.Fuse∧d.Fuse≤1000)∧(∀ y∈d.Secs,y.length≤120)∧∀ w∈d.Cache,(0≤w.N∧w.N < d.Secs.length)∧w.B.length≤120:=by
 simp only [DevV.ok,Bool.and_eq_true,win,decide_eq_true_eq,List.all_eq_true,secGood,wrGood,Bool.not_eq_true',decide_eq_false_iff_not]
 constructor
 ·rintro ⟨⟨⟨⟨h1,h2⟩,h3⟩,h4⟩,h5⟩
  exact ⟨by omega,by omega,by omega,fun y hy=>by have:=h4 y hy; omega,fun w hw=>by have:=h5 w hw; omega⟩
 ·rintro ⟨h1,h2,h3,h4,h5⟩
  exact ⟨⟨⟨⟨by omega,by omega⟩,by omega⟩,fun y hy=>by have:=h4 y hy; omega⟩,fun w hw=>by have:=h5 w hw; omega⟩
theorem burn_ok {d:DevV} (h:d.ok=true):d.burn.ok=true:=by
 rw [DevV.ok_iff] at h ⊢
 obtain ⟨h1,h2,h3,h4,h5⟩:=h
 unfold DevV.burn
 split
 ·exact ⟨h1,h2,by simp only; omega,h4,h5⟩
 ·split
  ·exact ⟨h1,h2,by simp only; rw [IntWalk.i64_in _ (by omega)]; omega,h4,h5⟩
  ·exact ⟨h1,h2,h3,h4,h5⟩
theorem write_ok {d:DevV} (h:d.ok=true) (n:Int) (b:List UInt8):(d.write n b).ok=true:=by
 unfold DevV.write
 split
 ·exact h
 ·rename_i hf
  split
  ·exact burn_ok h
  ·have hb:=burn_ok h
   simp only [DevV.full,Bool.or_eq_true,Bool.not_eq_true',decide_eq_true_eq,not_or,win,Bool.and_eq_false_iff,decide_eq_false_iff_not] at hf
   rw [DevV.ok_iff] at hb ⊢
   obtain ⟨h1,h2,h3,h4,h5⟩:=hb
   have bs:=burn_secs d
   have bc:=burn_cache d
   refine ⟨h1,?_,h3,h4,fun w hw=>?_⟩
   ·simp only [DevV.put,List.length_append,List.length_cons,List.length_nil]
    rw [bc]
    omega
   ·rcases List.mem_append.1 hw with hw | hw
    ·exact h5 w hw
    ·simp only [List.mem_cons,List.not_mem_nil,or_false] at hw
     subst hw
     simp only [DevV.put]
     rw [bs]
     omega
theorem mem_set' {α:Type} {l:List α} {i:Nat} {x y:α} (h:y∈l.set i x):y∈l∨y=x:=by
 rcases List.mem_or_eq_of_mem_set h with h | h
 ·exact .inl h
 ·exact .inr h
theorem flushed_mem (C:List WrV):∀ (S:List (List UInt8)) (y:List UInt8),y∈flushed S C→y∈S∨∃ w∈C,y=w.B:=by
 induction C with
 | nil=>intro S y h; exact .inl h
 | cons w C ih =>
  intro S y h
  rcases ih (S.set w.N.toNat w.B) y h with h | ⟨v,hv,e⟩
  ·rcases mem_set' h with h | h
   ·exact .inl h
   ·exact .inr ⟨w,List.mem_cons_self ..,h⟩
  ·exact .inr ⟨v,List.mem_cons_of_mem _ hv,e⟩
theorem flush_ok {d:DevV} (h:d.ok=true):d.flush.ok=true:=by
 unfold DevV.flush
 split
 ·exact h
 ·split
  ·exact burn_ok h
  ·have hb:=burn_ok h
   rw [DevV.ok_iff] at h hb ⊢
   refine ⟨by rw [flushed_len]; exact h.1,Nat.zero_le _,hb.2.2.1,fun y hy=>?_,fun w hw=>by cases hw⟩
   rcases flushed_mem d.Cache d.Secs y hy with hy | ⟨w,hw,rfl⟩
   ·exact h.2.2.2.1 y hy
   ·exact (h.2.2.2.2 w hw).2
def secOf (gen place:Int):Int:=IntKind.i64.wrap (IntKind.i64.wrap (2 + IntKind.i64.wrap (30 * gen.tmod 2)) + place)
def layN (gen:Int) (recs:List RecV) (d:DevV):Nat→DevV
 | 0=>d
 | i + 1=>(layN gen recs d i).write (secOf gen i) (putRec gen i (recs.getD i (recPhase 0)))
def layDev (gen:Int) (recs:List RecV) (d:DevV):DevV:=(((layN gen recs d recs.length).flush).write (gen.tmod 2) (headOf gen recs.length)).flush
theorem layN_ok {d:DevV} (h:d.ok=true) (gen:Int) (recs:List RecV):∀ i,(layN gen recs d i).ok=true
 | 0=>h
 | i + 1=>write_ok (layN_ok h gen recs i) _ _
theorem layN_step (gen:Int) (d:DevV) {recs:List RecV} {i:Nat} (h:i < recs.length):(layN gen recs d i).write (secOf gen i) (putRec gen i recs[i])=layN gen recs d (i + 1):=by
 rw [layN,List.getD_eq_getElem?_getD,List.getElem?_eq_getElem h,Option.getD_some]
theorem layDev_ok {d:DevV} (h:d.ok=true) (gen:Int) (recs:List RecV):(layDev gen recs d).ok=true:=flush_ok (write_ok (flush_ok (layN_ok h gen recs _)) _ _)
abbrev C_i_sectorOf (Te:TE):Prop:=∀ (gen place:Int),Te 258 [.one (iT gen),.one (iT place)] ⟨[.one (iT (secOf gen place))],[[iT gen],[iT place]]⟩
abbrev C_s_l13At (Te:TE):Prop:=∀ (gen place:Int),Te 193 [.one (iT gen),.one (iT place)] ⟨[.one (iT (secOf gen place))],[[iT gen],[iT place]]⟩
abbrev C_i_laid (Te:TE):Prop:=∀ (d:DevV) (gen:Int) (recs:List RecV) (hd:d.ok=true) (hr:recs.length≤2 ^ 30∧∀ r∈recs,r.In (2 ^ 48)),Te 208 [.agg (d.enc false),.one (iT gen),.one (slT false 13 (RecV.enc false) recs)] ⟨[.agg ((layDev gen recs d).enc true)],[d.enc false,[iT gen],[slT false 13 (RecV.enc false) recs]]⟩
theorem RowV.zero_in (n:Nat):RowV.zero.In n:=⟨Nat.zero_le _,Nat.zero_le _,Nat.zero_le _⟩
theorem recsOf_in {t:TabV} {n:Nat} (h:t.In n):∀ r∈recsOf t,r.In n:=by
 intro r hr
 simp only [recsOf,List.mem_cons,List.mem_append,List.mem_map] at hr
 rcases hr with rfl | ⟨y,hy,rfl⟩ | ⟨y,hy,rfl⟩
 ·exact ⟨RowV.zero_in n,Nat.zero_le _⟩
 ·exact ⟨h.1.2 y hy,Nat.zero_le _⟩
 ·exact ⟨RowV.zero_in n,Nat.zero_le _⟩
theorem recsOf_le {t:TabV} (h:t.In (2 ^ 20)):(recsOf t).length≤2 ^ 30∧∀ r∈recsOf t,r.In (2 ^ 48) :=
 ⟨by rw [recsOf_len]; have:=h.1.1; have:=h.2; omega,fun r hr=>(recsOf_in h r hr).mono (by decide)⟩
def StoreV.lay (s:StoreV) (gen:Int):StoreV :=
 if (layDev gen (recsOf s.T) s.D).Down=true then ⟨layDev gen (recsOf s.T) s.D,s.T,s.Gen,s.Place⟩ else ⟨layDev gen (recsOf s.T) s.D,s.T,gen,(recsOf s.T).length⟩
theorem lay_down {s:StoreV} {gen:Int} (h:(layDev gen (recsOf s.T) s.D).Down=true):s.lay gen=⟨layDev gen (recsOf s.T) s.D,s.T,s.Gen,s.Place⟩:=if_pos h
theorem lay_up {s:StoreV} {gen:Int} (h:(layDev gen (recsOf s.T) s.D).Down=false):s.lay gen=⟨layDev gen (recsOf s.T) s.D,s.T,gen,(recsOf s.T).length⟩:=if_neg (by rw [h]; decide)
abbrev C_s_l13Lay (Te:TE):Prop:=∀ (s:StoreV) (gen:Int) (hd:s.D.ok=true) (ht:s.T.In (2 ^ 20)),Te 191 [.ptr (s.enc true),.one (iT gen)] ⟨[],[(s.lay gen).enc true,[iT gen]]⟩
def TabV.zero:TabV:=⟨[],0,[]⟩
def fmt:StoreV:=(StoreV.mk (devNew 62) TabV.zero 0 0).lay 1
theorem write_fuse {d:DevV} (h:d.Fuse < 0) (hd:d.Down=false) (n:Int) (b:List UInt8):(d.write n b).Fuse=d.Fuse∧(d.write n b).Down=false:=by
 have hb:d.burn=d:=by rw [DevV.burn,if_neg (by omega),if_neg (by omega)]
 unfold DevV.write
 split
 ·exact ⟨rfl,hd⟩
 ·rw [if_neg (by omega),hb]; exact ⟨rfl,hd⟩
theorem flush_fuse {d:DevV} (h:d.Fuse < 0) (hd:d.Down=false):d.flush.Fuse=d.Fuse∧d.flush.Down=false:=by
 have hb:d.burn=d:=by rw [DevV.burn,if_neg (by omega),if_neg (by omega)]
 unfold DevV.flush
 rw [hd,if_neg (by decide),if_neg (by omega),hb]
 exact ⟨rfl,hd⟩
theorem layN_fuse {d:DevV} (h:d.Fuse < 0) (hd:d.Down=false) (gen:Int) (recs:List RecV):∀ i,(layN gen recs d i).Fuse=d.Fuse∧(layN gen recs d i).Down=false:=by
 intro i
 induction i with
 | zero=>exact ⟨rfl,hd⟩
 | succ i ih =>
  have:=write_fuse (d:=layN gen recs d i) (by rw [ih.1]; exact h) ih.2 (secOf gen i) (putRec gen i (recs.getD i (recPhase 0)))
  rw [layN]
  exact ⟨this.1.trans ih.1,this.2⟩
theorem layDev_fuse {d:DevV} (h:d.Fuse < 0) (hd:d.Down=false) (gen:Int) (recs:List RecV):(layDev gen recs d).Fuse=d.Fuse∧(layDev gen recs d).Down=false:=by
 obtain ⟨a1,a2⟩:=layN_fuse h hd gen recs recs.length
 obtain ⟨b1,b2⟩:=flush_fuse (d:=layN gen recs d recs.length) (by omega) a2
 obtain ⟨c1,c2⟩:=write_fuse (d:=(layN gen recs d recs.length).flush) (by omega) b2 (gen.tmod 2) (headOf gen recs.length)
 obtain ⟨d1,d2⟩:=flush_fuse (d:=((layN gen recs d recs.length).flush).write (gen.tmod 2) (headOf gen recs.length)) (by omega) c2
 exact ⟨by rw [layDev,d1,c1,b1,a1],d2⟩
theorem devNew_62:devNew 62=⟨List.replicate 62 [],[],-1,false⟩:=rfl
theorem devNew_ok:(devNew 62).ok=true:=by rw [devNew_62,DevV.ok_iff]; exact ⟨⟨by simp,by simp⟩,by simp,⟨by simp,by simp⟩,fun y hy=>by rw [List.eq_of_mem_replicate hy]; exact Nat.zero_le _,fun w hw=>by cases hw⟩
theorem recsOf_zero:recsOf TabV.zero=[recPhase 0]:=rfl
theorem fmt_eq:fmt=⟨layDev 1 [recPhase 0] (devNew 62),TabV.zero,1,1⟩:=by
 rw [fmt,lay_up]
 ·rfl
 ·exact (layDev_fuse (by rw [devNew_62]; decide) (by rw [devNew_62]) 1 _).2
theorem TabV.zero_in (n:Nat):TabV.zero.In n:=⟨⟨Nat.zero_le _,fun y hy=>by cases hy⟩,Nat.zero_le _⟩
abbrev C_s_Format (Te:TE):Prop:=Te 122 [] ⟨[.agg (fmt.enc true)],[]⟩
def NodeV.zero:NodeV:=⟨⟨⟨[],[],0,false⟩,TabV.zero,0,0⟩,0⟩
def nodeNew (cs:Int):NodeV:=bif win cs 1 5 then ⟨fmt,cs⟩ else NodeV.zero
theorem nodeNew_len (cs:Int):(nodeNew cs).Len:=by
 unfold nodeNew
 cases win cs 1 5
 ·exact ⟨⟨⟨Nat.zero_le _,fun y hy=>by cases hy⟩,Nat.zero_le _,fun y hy=>by cases hy⟩,(TabV.zero_in (2 ^ 20)).len (by decide)⟩
 ·have h:(⟨fmt,cs⟩:NodeV).Len:=by
   show fmt.Len
   rw [fmt_eq]
   exact ⟨(DevV.ok_in (layDev_ok devNew_ok 1 [recPhase 0])).len (by decide),(TabV.zero_in (2 ^ 20)).len (by decide)⟩
  exact h
abbrev C_s_NodeNew (Te:TE):Prop:=∀ (cs:Int),Te 45 [.one (iT cs)] ⟨[.agg ((nodeNew cs).enc true)],[[iT cs]]⟩
def NodeV.up (n:NodeV):Bool:=n.ok && !n.S.D.Down
abbrev C_i_isUp (Te:TE):Prop:=∀ (n:NodeV) (h:n.In (2 ^ 48)),Te 82 [.agg (n.enc false)] ⟨[.one (bT n.up)],[n.enc false]⟩
abbrev C_s_l15Up (Te:TE):Prop:=∀ (n:NodeV) (h:n.In (2 ^ 48)),Te 64 [.agg (n.enc false)] ⟨[.one (bT n.up)],[n.enc false]⟩
def RowV.rtext (r:RowV):ByteArray×Bool:=if r.Has=1 then r.Old.text else r.New.text
theorem and2_ne (h:Int) (hh:h=1∨h=2∨h=3):(andK .i64 h 2 != 0)=decide (h≠1):=by
 rw [andK_def]
 rcases hh with rfl | rfl | rfl <;> decide
abbrev C_i_RowText (Te:TE):Prop:=∀ (r:RowV) (h:r.Has=1∨r.Has=2∨r.Has=3),Te 88 [.agg (r.enc false)] ⟨[.one (sT r.rtext.1),.one (bT r.rtext.2)],[r.enc false]⟩
def rowIx (l:List RowV) (key:ByteArray):Nat:=l.findIdx fun r=>decide (r.Key=key)
def rowAt (l:List RowV) (key:ByteArray):Int:=if rowIx l key < l.length then (rowIx l key:Int) else -1
theorem rowAt_hit {l:List RowV} {key:ByteArray} {i:Nat} (h:i < l.length) (hp:∀ j (hj:j < l.length),j < i→decide (l[j].Key=key)=false) (hk:decide (l[i].Key=key)=true):rowAt l key=i∧rowIx l key=i:=by
 have e:rowIx l key=i:=by
  rw [rowIx,List.findIdx_eq h]
  exact ⟨hk,fun j hj=>hp j (by omega) hj⟩
 rw [rowAt,e,if_pos h]
 exact ⟨rfl,rfl⟩
theorem rowAt_none {l:List RowV} {key:ByteArray} {i:Nat} (hi:l.length≤i) (hp:∀ j (hj:j < l.length),j < i→decide (l[j].Key=key)=false):rowAt l key = -1:=by
 have e:¬ rowIx l key < l.length:=by
  rw [rowIx,List.findIdx_lt_length]
  rintro ⟨x,hx,hk⟩
  obtain ⟨j,hj,rfl⟩:=List.mem_iff_getElem.1 hx
  rw [hp j hj (by omega)] at hk
  cases hk
 rw [rowAt,if_neg e]
theorem rowAt_step {l:List RowV} {key:ByteArray} {i:Nat} (h:i < l.length) (hp:∀ j (hj:j < l.length),j < i→decide (l[j].Key=key)=false) (hk:decide (l[i].Key=key)=false):∀ j (hj:j < l.length),j < i + 1→decide (l[j].Key=key)=false:=by
 intro j hj hji
 by_cases e:j=i
 ·subst e; exact hk
 ·exact hp j hj (by omega)
theorem rowAt_cases (l:List RowV) (key:ByteArray):(rowAt l key = -1∧l[rowIx l key]?=none)∨∃ h:rowIx l key < l.length,rowAt l key=rowIx l key∧l[rowIx l key]?=some l[rowIx l key]:=by
 by_cases h:rowIx l key < l.length
 ·exact .inr ⟨h,by rw [rowAt,if_pos h],List.getElem?_eq_getElem h⟩
 ·exact .inl ⟨by rw [rowAt,if_neg h],List.getElem?_eq_none (by omega)⟩
abbrev C_i_RowAt1 (Te:TE):Prop:=∀ (r:RowV) (key:ByteArray),Te 176 [.agg (r.enc false),.ptr [sT key]] ⟨[.one (bT (decide (r.Key=key)))],[r.enc false,[sT key]]⟩
abbrev C_z_IndexFuncimplRowAt1 (Te:TE):Prop:=∀ (l:List RowV) (key:ByteArray) (hl:l.length≤2 ^ 48),Te 185598127 [.one (slT false 7 (RowV.enc false) l),.ptr [sT key]] ⟨[.one (iT (rowAt l key))],[[slT false 7 (RowV.enc false) l],[sT key]]⟩
abbrev C_i_RowAt (Te:TE):Prop:=∀ (t:TabV) (key:ByteArray) (hl:t.Rows.length≤2 ^ 48),Te 87 [.agg (t.enc false),.one (sT key)] ⟨[.one (iT (rowAt t.Rows key))],[t.enc false,[sT key]]⟩
abbrev C_s_RowAt (Te:TE):Prop:=∀ (t:TabV) (key:ByteArray) (hl:t.Rows.length≤2 ^ 48),Te 104 [.agg (t.enc false),.one (sT key)] ⟨[.one (iT (rowAt t.Rows key))],[t.enc false,[sT key]]⟩
def NodeV.get (n:NodeV) (key:ByteArray):ByteArray×Int:=if n.up=true then (match n.S.T.Rows[rowIx n.S.T.Rows key]? with
 | none=>(⟨#[]⟩,2)
 | some r=>if r.rtext.2=true then (r.rtext.1,0) else (⟨#[]⟩,4)) else (⟨#[]⟩,1)
theorem TabV.ok_row {t:TabV} (h:t.ok=true) {i:Nat} (hi:i < t.Rows.length):t.Rows[i].ok=true:=by
 simp only [TabV.ok,Bool.and_eq_true,List.all_eq_true] at h
 have:=h.1.1 i (List.mem_range.2 hi)
 simp only [rowGood,List.getElem?_eq_getElem hi,Option.map_some,Option.getD_some,Bool.and_eq_true] at this
 exact this.1
theorem NodeV.up_tab {n:NodeV} (h:n.up=true):n.S.T.ok=true:=by
 simp only [NodeV.up,NodeV.ok,StoreV.ok,Bool.and_eq_true] at h
 exact h.1.1.1.1.2
abbrev C_i_NodeGet (Te:TE):Prop:=∀ (n:NodeV) (key:ByteArray) (h:n.In (2 ^ 48)),Te 22 [.agg (n.enc false),.one (sT key)] ⟨[.one (sT (n.get key).1),.one (iT (n.get key).2)],[n.enc false,[sT key]]⟩
theorem app1Rw (l:List RowV) (x:RowV):List.map (RowV.enc true) l++[x.enc true]=List.map (RowV.enc true) (l++[x]):=by rw [List.map_append]; rfl
theorem take_marks (l:List MarkV):List.take l.length (l.map MarkV.row)=l.map MarkV.row:=List.take_of_length_le (by simp)
attribute [go_sem] take_marks
abbrev C_s_l10Copy (Te:TE):Prop:=∀ (d:DevV) (h:d.Len),Te 248 [.agg (d.enc false)] ⟨[.agg (d.enc true)],[d.enc false]⟩
abbrev C_i_copyTab (Te:TE):Prop:=∀ (t:TabV) (h:t.Len),Te 246 [.agg (t.enc false)] ⟨[.agg (t.enc true)],[t.enc false]⟩
abbrev C_s_l12Copy (Te:TE):Prop:=∀ (t:TabV) (h:t.Len),Te 249 [.agg (t.enc false)] ⟨[.agg (t.enc true)],[t.enc false]⟩
abbrev C_i_copyStore (Te:TE):Prop:=∀ (s:StoreV) (h:s.Len),Te 158 [.agg (s.enc false)] ⟨[.agg (s.enc true)],[s.enc false]⟩
abbrev C_s_l13Copy (Te:TE):Prop:=∀ (s:StoreV) (h:s.Len),Te 162 [.agg (s.enc false)] ⟨[.agg (s.enc true)],[s.enc false]⟩
abbrev C_i_copyNode (Te:TE):Prop:=∀ (n:NodeV) (h:n.Len),Te 60 [.agg (n.enc false)] ⟨[.agg (n.enc true)],[n.enc false]⟩
abbrev C_s_l15Copy (Te:TE):Prop:=∀ (n:NodeV) (h:n.Len),Te 65 [.agg (n.enc false)] ⟨[.agg (n.enc true)],[n.enc false]⟩
def insM (m:MarkV) (s:List MarkV×Bool) (x:MarkV):List MarkV×Bool :=
 let o1:=if !s.2&&decide (x.Who≥m.Who) then s.1++[m] else s.1
 (if decide (x.Who≠m.Who) then o1++[x] else o1,s.2||decide (x.Who≥m.Who))
def insMark (l:List MarkV) (m:MarkV):List MarkV:=let s:=l.foldl (insM m) ([],false); if s.2 then s.1 else s.1++[m]
theorem insM_step {l:List MarkV} {m:MarkV} {i:Nat} (h:i < l.length):insM m ((l.take i).foldl (insM m) ([],false)) l[i]=(l.take (i + 1)).foldl (insM m) ([],false):=by
 rw [List.take_succ_eq_append_getElem h,List.foldl_append]; rfl
theorem app1M (l:List MarkV) (x:MarkV):List.map MarkV.row l++[[iT x.Who,iT x.Seq,iT x.Code]]=List.map MarkV.row (l++[x]):=by rw [List.map_append]; rfl
theorem insM_len (m:MarkV) (s:List MarkV×Bool) (x:MarkV):(insM m s x).1.length≤s.1.length + 2:=by
 simp only [insM]
 split <;> split <;> (try simp only [List.length_append,List.length_cons,List.length_nil]) <;> omega
theorem insM_le (m:MarkV) (l:List MarkV):∀ s,(l.foldl (insM m) s).1.length≤s.1.length + 2 * l.length:=by
 induction l with
 | nil=>intro s; exact Nat.le_add_right _ _
 | cons x l ih =>
  intro s
  have h1:=ih (insM m s x)
  have h2:=insM_len m s x
  simp only [List.foldl_cons,List.length_cons]
  omega
abbrev C_i_withMark (Te:TE):Prop:=∀ (l:List MarkV) (m:MarkV) (h:l.length≤2 ^ 24),Te 310 [.one (slT false 3 MarkV.row l),.agg m.row] ⟨[.one (slT true 3 MarkV.row (insMark l m))],[[slT false 3 MarkV.row l],m.row]⟩
abbrev C_s_l12Put (Te:TE):Prop:=∀ (l:List MarkV) (m:MarkV) (h:l.length≤2 ^ 24),Te 278 [.one (slT false 3 MarkV.row l),.agg m.row] ⟨[.one (slT true 3 MarkV.row (insMark l m))],[[slT false 3 MarkV.row l],m.row]⟩
def insR (r:RowV) (s:List RowV×Bool) (x:RowV):List RowV×Bool :=
 let o1:=if !s.2 && !Op.bytesLess x.Key.toList r.Key.toList then s.1++[r] else s.1
 (if decide (x.Key=r.Key) then o1 else o1++[x],s.2 || !Op.bytesLess x.Key.toList r.Key.toList)
def insRow (l:List RowV) (r:RowV):List RowV:=let s:=l.foldl (insR r) ([],false); if s.2 then s.1 else s.1++[r]
theorem insR_step {l:List RowV} {r:RowV} {i:Nat} (h:i < l.length):insR r ((l.take i).foldl (insR r) ([],false)) l[i]=(l.take (i + 1)).foldl (insR r) ([],false):=by
 rw [List.take_succ_eq_append_getElem h,List.foldl_append]; rfl
theorem insR_len (r:RowV) (s:List RowV×Bool) (x:RowV):(insR r s x).1.length≤s.1.length + 2:=by
 simp only [insR]
 split <;> split <;> (try simp only [List.length_append,List.length_cons,List.length_nil]) <;> omega
theorem insR_le (r:RowV) (l:List RowV):∀ s,(l.foldl (insR r) s).1.length≤s.1.length + 2 * l.length:=by
 induction l with
 | nil=>intro s; exact Nat.le_add_right _ _
 | cons x l ih =>
  intro s
  have h1:=ih (insR r s x)
  have h2:=insR_len r s x
  simp only [List.foldl_cons,List.length_cons]
  omega
def leftR (r:RowV) (x:RowV):List T:=if decide (x.Key=r.Key) then x.enc true else [sT x.Key,iT x.Old.Tag,.no (),iT x.New.Tag,.no (),iT x.Has,bT x.Aside]
def leftRows (r:RowV) (l:List RowV) (i:Nat):List (List T):=(l.take i).map (leftR r)++(l.drop i).map (RowV.enc true)
theorem left_len (r:RowV) (l:List RowV) (i:Nat):(leftRows r l i).length=l.length:=by
 simp only [leftRows,List.length_append,List.length_map,List.length_take,List.length_drop]; omega
theorem left_zero (r:RowV) (l:List RowV):leftRows r l 0=l.map (RowV.enc true):=rfl
theorem left_get {r:RowV} {l:List RowV} {i:Nat} (h:i < l.length):(leftRows r l i)[i]?=some (l[i].enc true):=by
 have e:((l.take i).map (leftR r)).length=i:=by simp; omega
 rw [leftRows,List.getElem?_append_right (by omega),e,Nat.sub_self,List.getElem?_map,List.getElem?_drop,Nat.add_zero,List.getElem?_eq_getElem h]
 rfl
theorem left_set {r:RowV} {l:List RowV} {i:Nat} (h:i < l.length):(leftRows r l i).set i (leftR r l[i])=leftRows r l (i + 1):=by
 have e:((l.take i).map (leftR r)).length=i:=by simp; omega
 rw [leftRows,List.set_append_right _ _ (by omega),e,Nat.sub_self,List.drop_eq_getElem_cons h,List.map_cons,List.set_cons_zero,leftRows,List.take_succ_eq_append_getElem h,List.map_append,List.append_assoc]
 rfl
theorem left_same {r:RowV} {l:List RowV} {i:Nat} (h:i < l.length) (hk:decide (l[i].Key=r.Key)=true):leftRows r l i=leftRows r l (i + 1):=by
 have e:=left_set (r:=r) h
 have e2:leftR r l[i]=l[i].enc true:=if_pos hk
 rw [e2] at e
 rw [← e]
 have h2:i < (leftRows r l i).length:=by rw [left_len]; exact h
 have h3:(leftRows r l i)[i]=l[i].enc true:=by
  have:=left_get (r:=r) h
  rw [List.getElem?_eq_getElem h2] at this
  exact Option.some.inj this
 rw [← h3,List.set_getElem_self]
abbrev C_i_withRow (Te:TE):Prop:=∀ (l:List RowV) (r:RowV) (h:l.length≤2 ^ 24) (hr:r.Len),Te 307 [.one (slT true 7 (RowV.enc true) l),.agg (r.enc false)] ⟨[.one (slT true 7 (RowV.enc true) (insRow l r))],[[Tr.sl true 7 () (leftRows r l l.length)],r.enc false]⟩
abbrev C_s_l12Row (Te:TE):Prop:=∀ (l:List RowV) (r:RowV) (h:l.length≤2 ^ 24) (hr:r.Len),Te 277 [.one (slT true 7 (RowV.enc true) l),.agg (r.enc false)] ⟨[.one (slT true 7 (RowV.enc true) (insRow l r))],[[Tr.sl true 7 () (leftRows r l l.length)],r.enc false]⟩
def delRows (l:List RowV) (key:ByteArray):List RowV:=l.filter fun x=>!decide (x.Key=key)
theorem delRows_none {l:List RowV} {key:ByteArray} (h:rowAt l key = -1):delRows l key=l:=by
 rcases rowAt_cases l key with ⟨_,h2⟩ | ⟨h1,h2,_⟩
 ·rw [delRows,List.filter_eq_self]
  intro x hx
  have:¬ rowIx l key < l.length:=fun hl=>by rw [List.getElem?_eq_getElem hl] at h2; cases h2
  rw [rowIx,List.findIdx_lt_length] at this
  cases g:decide (x.Key=key)
  ·rfl
  ·exact absurd ⟨x,hx,g⟩ this
 ·rw [h2] at h; omega
theorem before_ix {l:List RowV} {key:ByteArray} {j:Nat} (hj:j < l.length) (h:j < rowIx l key):decide (l[j].Key=key)=false:=by
 have:=List.not_of_lt_findIdx (p:=fun r:RowV=>decide (r.Key=key)) h
 simpa using this
theorem delRows_take {l:List RowV} {key:ByteArray} (h:rowIx l key < l.length):delRows (l.take (rowIx l key + 1)) key=l.take (rowIx l key):=by
 have hk:decide (l[rowIx l key].Key=key)=true:=List.findIdx_getElem (w:=h)
 rw [List.take_succ_eq_append_getElem h,delRows,List.filter_append]
 have e1:(l.take (rowIx l key)).filter (fun x=>!decide (x.Key=key))=l.take (rowIx l key):=by
  rw [List.filter_eq_self]
  intro x hx
  obtain ⟨j,hj,rfl⟩:=List.mem_iff_getElem.1 hx
  have hj':j < rowIx l key:=by simp only [List.length_take] at hj; omega
  rw [List.getElem_take,before_ix (by omega) hj']
  rfl
 rw [e1,List.filter_cons,hk]
 simp
theorem delRows_step {l:List RowV} {key:ByteArray} {j:Nat} (h:j < l.length):delRows (l.take (j + 1)) key=if decide (l[j].Key=key)=true then delRows (l.take j) key else delRows (l.take j) key++[l[j]]:=by
 rw [List.take_succ_eq_append_getElem h,delRows,List.filter_append,List.filter_cons]
 cases decide (l[j].Key=key) <;> simp [delRows]
def goneR (x:RowV):List T:=[sT x.Key,iT x.Old.Tag,.no (),iT x.New.Tag,.no (),iT x.Has,bT x.Aside]
def delSt (l k:List RowV) (m:List (List T)) (j:Nat):List (List T):=k.map (RowV.enc true)++m++(l.drop j).map (RowV.enc true)
theorem delSt_len {l k:List RowV} {m:List (List T)} {j:Nat} (hj:j≤l.length) (h:k.length + m.length=j):(delSt l k m j).length=l.length:=by
 simp only [delSt,List.length_append,List.length_map,List.length_drop]; omega
theorem delSt_get {l k:List RowV} {m:List (List T)} {j:Nat} (hj:j < l.length) (h:k.length + m.length=j):(delSt l k m j)[j]?=some (l[j].enc true):=by
 rw [delSt,List.getElem?_append_right (by simp; omega),List.getElem?_map,List.getElem?_drop]
 simp only [List.length_append,List.length_map,h,Nat.sub_self,Nat.add_zero,List.getElem?_eq_getElem hj]
 rfl
theorem delSt_skip {l k:List RowV} {m:List (List T)} {j:Nat} (hj:j < l.length):delSt l k m j=delSt l k (m++[l[j].enc true]) (j + 1):=by
 simp only [delSt,List.drop_eq_getElem_cons hj,List.map_cons,List.append_assoc,List.cons_append,List.nil_append]
theorem delSt_move {l k:List RowV} {m:List (List T)} {x:List T} {j:Nat} (hj:j < l.length) (h:k.length + (x::m).length=j):((delSt l k (x::m) j).set j (goneR l[j])).set k.length (l[j].enc true)=delSt l (k++[l[j]]) (m++[goneR l[j]]) (j + 1):=by
 have e1:(k.map (RowV.enc true)++x::m).length=j:=by simpa using h
 rw [delSt,List.set_append_right _ _ (by omega),e1,Nat.sub_self,List.drop_eq_getElem_cons hj,List.map_cons,List.set_cons_zero,List.append_assoc,List.set_append_right _ _ (by simp),List.length_map,Nat.sub_self,List.cons_append,List.set_cons_zero,delSt,List.map_append]
 simp
theorem delSt_row {l k:List RowV} {m:List (List T)} {x:List T} {j:Nat}:(delSt l k (x::m) j).getD k.length []=x:=by
 rw [List.getD_eq_getElem?_getD,delSt,List.append_assoc,List.getElem?_append_right (by simp)]
 simp
abbrev RecV.dim (r:RecV):List T:=[iT r.Kind,sT r.R.Key,iT r.R.Old.Tag,.no (),iT r.R.New.Tag,.no (),iT r.R.Has,bT r.R.Aside,sT r.Key,iT r.N,iT r.Who,iT r.Seq,iT r.Code]
abbrev C_i_Apply1 (Te:TE):Prop:=∀ (x:RowV) (r:RecV),Te 309 [.agg (x.enc false),.ptr r.dim] ⟨[.one (bT (decide (x.Key=r.Key)))],[x.enc false,r.dim]⟩
abbrev C_z_IndexFuncimplApply1 (Te:TE):Prop:=∀ (l:List RowV) (r:RecV) (hl:l.length≤2 ^ 48),Te 325058735 [.one (slT false 7 (RowV.enc false) l),.ptr r.dim] ⟨[.one (iT (rowAt l r.Key))],[[slT false 7 (RowV.enc false) l],r.dim]⟩
abbrev C_z_DeleteFuncimplApply1 (Te:TE):Prop:=∀ (l:List RowV) (r:RecV) (hl:l.length≤2 ^ 24),Te 325058868 [.one (slT true 7 (RowV.enc true) l),.ptr r.dim] ⟨[.one (slT true 7 (RowV.enc true) (delRows l r.Key))],[[.no ()],r.dim]⟩
def TabV.put (t:TabV) (r:RecV):TabV :=
 bif r.Kind==1 then ⟨insRow t.Rows r.R,t.Phase,t.Marks⟩ else bif r.Kind==2 then ⟨delRows t.Rows r.Key,t.Phase,t.Marks⟩ else bif r.Kind==3 then ⟨t.Rows,r.N,t.Marks⟩ else t
def TabV.change (t:TabV) (r:RecV):TabV:=bif decide (r.Who > 0) then ⟨(t.put r).Rows,(t.put r).Phase,insMark (t.put r).Marks ⟨r.Who,r.Seq,r.Code⟩⟩ else t.put r
def TabV.apply (t:TabV) (r:RecV):TabV×Bool:=bif r.ok&&t.ok&&(t.change r).ok then (t.change r,true) else (t,false)
theorem insR_mem (r:RowV) (s:List RowV×Bool) (x y:RowV) (h:y∈(insR r s x).1):y∈s.1∨y=r∨y=x:=by
 simp only [insR] at h
 split at h <;> split at h <;> (try simp only [List.mem_append,List.mem_cons,List.not_mem_nil,or_false] at h)
 ·rcases h with h | h
  ·exact .inl h
  ·exact .inr (.inl h)
 ·exact .inl h
 ·rcases h with (h | h) | h
  ·exact .inl h
  ·exact .inr (.inl h)
  ·exact .inr (.inr h)
 ·rcases h with h | h
  ·exact .inl h
  ·exact .inr (.inr h)
theorem insR_all (r:RowV) (l:List RowV):∀ s y,y∈(l.foldl (insR r) s).1→y∈s.1∨y=r∨y∈l:=by
 induction l with
 | nil=>intro s y h; exact .inl h
 | cons x l ih =>
  intro s y h
  rcases ih _ y h with h | h | h
  ·rcases insR_mem r s x y h with h | h | h
   ·exact .inl h
   ·exact .inr (.inl h)
   ·exact .inr (.inr (by rw [h]; exact List.mem_cons_self ..))
  ·exact .inr (.inl h)
  ·exact .inr (.inr (List.mem_cons_of_mem _ h))
theorem insRow_mem {l:List RowV} {r y:RowV} (h:y∈insRow l r):y=r∨y∈l:=by
 simp only [insRow] at h
 split at h
 ·rcases insR_all r l _ y h with h | h | h
  ·cases h
  ·exact .inl h
  ·exact .inr h
 ·rcases List.mem_append.1 h with h | h
  ·rcases insR_all r l _ y h with h | h | h
   ·cases h
   ·exact .inl h
   ·exact .inr h
  ·simp only [List.mem_cons,List.not_mem_nil,or_false] at h
   exact .inl h
theorem insRow_le (l:List RowV) (r:RowV):(insRow l r).length≤2 * l.length + 1:=by
 have:=insR_le r l ([],false)
 simp only [List.length_nil,Nat.zero_add] at this
 simp only [insRow]
 split
 ·omega
 ·simp only [List.length_append,List.length_cons,List.length_nil]; omega
theorem insMark_le (l:List MarkV) (m:MarkV):(insMark l m).length≤2 * l.length + 1:=by
 have:=insM_le m l ([],false)
 simp only [List.length_nil,Nat.zero_add] at this
 simp only [insMark]
 split
 ·omega
 ·simp only [List.length_append,List.length_cons,List.length_nil]; omega
theorem put_in {t:TabV} {r:RecV} {n:Nat} (ht:t.In n) (hr:r.In n):(t.put r).In (2 * n + 1):=by
 obtain ⟨⟨h1,h2⟩,h3⟩:=ht
 unfold TabV.put
 cases r.Kind==1
 ·cases r.Kind==2
  ·cases r.Kind==3 <;> exact ⟨⟨by simp only [cond_true,cond_false]; omega,fun y hy=>(h2 y hy).mono (by omega)⟩,by simp only [cond_true,cond_false]; omega⟩
  ·exact ⟨⟨Nat.le_trans (List.length_filter_le ..) (by omega),fun y hy=>(h2 y (List.mem_filter.1 hy).1).mono (by omega)⟩,by simp only [cond_true,cond_false]; omega⟩
 ·refine ⟨⟨by simp only [cond_true]; have:=insRow_le t.Rows r.R; omega,fun y hy=>?_⟩,by simp only [cond_true]; omega⟩
  rcases insRow_mem hy with rfl | hy
  ·exact hr.1.mono (by omega)
  ·exact (h2 y hy).mono (by omega)
theorem change_in {t:TabV} {r:RecV} {n:Nat} (ht:t.In n) (hr:r.In n):(t.change r).In (4 * n + 3):=by
 have h:=put_in ht hr
 unfold TabV.change
 cases decide (r.Who > 0)
 ·exact h.mono (by omega)
 ·refine ⟨⟨Nat.le_trans h.1.1 (by omega),fun y hy=>(h.1.2 y hy).mono (by omega)⟩,?_⟩
  have:=insMark_le (t.put r).Marks ⟨r.Who,r.Seq,r.Code⟩
  have:=h.2
  simp only [cond_true]
  omega
theorem kinds (k:Int):(k==1)=true∨((k==1)=false∧(k==2)=true)∨((k==1)=false∧(k==2)=false∧(k==3)=true)∨((k==1)=false∧(k==2)=false∧(k==3)=false):=by
 cases k==1 <;> cases k==2 <;> cases k==3 <;> simp
abbrev C_i_Apply (Te:TE):Prop:=∀ (t:TabV) (r:RecV) (ht:t.In (2 ^ 20)) (hr:r.In (2 ^ 20)),Te 255 [.agg (t.enc false),.agg (r.enc false)] ⟨[.agg ((t.apply r).1.enc true),.one (bT (t.apply r).2)],[t.enc false,r.enc false]⟩
theorem less_trans:∀ {a b c:List UInt8},Op.bytesLess a b=true→Op.bytesLess b c=true→Op.bytesLess a c=true
 | [],[],_,h,_=>by simp [Op.bytesLess] at h
 | [],_::_,[],_,h=>by simp [Op.bytesLess] at h
 | [],_::_,_::_,_,_=>by simp [Op.bytesLess]
 | _::_,[],_,h,_=>by simp [Op.bytesLess] at h
 | _::_,_::_,[],_,h=>by simp [Op.bytesLess] at h
 | a::as,b::bs,c::cs,h1,h2=>by
  simp only [Op.bytesLess,Bool.or_eq_true,Bool.and_eq_true,decide_eq_true_eq,beq_iff_eq] at h1 h2 ⊢
  rcases h1 with h1 | ⟨rfl,h1⟩
  ·rcases h2 with h2 | ⟨rfl,h2⟩
   ·exact .inl (UInt8.lt_trans h1 h2)
   ·exact .inl h1
  ·rcases h2 with h2 | ⟨rfl,h2⟩
   ·exact .inl h2
   ·exact .inr ⟨rfl,less_trans h1 h2⟩
theorem less_irrefl:∀ a:List UInt8,Op.bytesLess a a=false
 | []=>by simp [Op.bytesLess]
 | a::as=>by simp [Op.bytesLess,less_irrefl as]
theorem keys_less {t:TabV} (h:t.ok=true) {i:Nat}:∀ (d:Nat) (hd:i + d + 1 < t.Rows.length),Op.bytesLess (t.Rows[i]'(by omega)).Key.toList (t.Rows[i + d + 1]'hd).Key.toList=true:=by
 have step:∀ j (hj:j + 1 < t.Rows.length),Op.bytesLess (t.Rows[j]'(by omega)).Key.toList (t.Rows[j + 1]'hj).Key.toList=true:=fun j hj=>by
  simp only [TabV.ok,Bool.and_eq_true,List.all_eq_true] at h
  have:=h.1.1 (j + 1) (List.mem_range.2 hj)
  rw [rowGood_succ hj,Bool.and_eq_true] at this
  exact this.2
 intro d
 induction d with
 | zero=>intro hd; exact step i hd
 | succ d ih=>intro hd; exact less_trans (ih (by omega)) (step (i + d + 1) hd)
theorem delRows_ok {t:TabV} (h:t.ok=true) {key:ByteArray} (hk:rowIx t.Rows key < t.Rows.length):delRows t.Rows key=t.Rows.take (rowIx t.Rows key)++t.Rows.drop (rowIx t.Rows key + 1):=by
 have e0:=delRows_take hk
 have hkk:decide (t.Rows[rowIx t.Rows key].Key=key)=true:=List.findIdx_getElem (w:=hk)
 have e1:delRows (t.Rows.drop (rowIx t.Rows key + 1)) key=t.Rows.drop (rowIx t.Rows key + 1):=by
  rw [delRows,List.filter_eq_self]
  intro x hx
  obtain ⟨j,hj,rfl⟩:=List.mem_iff_getElem.1 hx
  rw [List.getElem_drop]
  rw [List.length_drop] at hj
  have hl:=keys_less h (i:=rowIx t.Rows key) j (by omega)
  rw [Bool.not_eq_true',decide_eq_false_iff_not]
  intro he
  have e2:t.Rows[rowIx t.Rows key].Key=key:=by simpa using hkk
  have e3:(t.Rows[rowIx t.Rows key + j + 1]'(by omega)).Key=key:=by
   have e4:rowIx t.Rows key + j + 1=rowIx t.Rows key + 1 + j:=by omega
   simp only [e4]
   exact he
  rw [e2,e3,less_irrefl] at hl
  cases hl
 have e2:delRows t.Rows key=delRows (t.Rows.take (rowIx t.Rows key + 1)) key++delRows (t.Rows.drop (rowIx t.Rows key + 1)) key:=by
  rw [delRows,delRows,delRows,← List.filter_append,List.take_append_drop]
 rw [e2,e0,e1]
theorem whoPos {r:RecV} (h:r.ok=true):decide (r.Who > 0)=(r.Who != 0):=by
 have:0≤r.Who:=by
  simp only [RecV.ok,Bool.and_eq_true] at h
  have h2:=h.2
  cases g:r.Who==0
  ·rw [RecV.who,g] at h2
   simp only [cond_false,win,Bool.and_eq_true,decide_eq_true_eq] at h2
   omega
  ·have:=eq_of_beq g
   omega
 by_cases e:r.Who=0
 ·rw [e]; rfl
 ·rw [decide_eq_true (by omega),bne_iff_ne.2 e]
abbrev C_s_Apply (Te:TE):Prop:=∀ (t:TabV) (r:RecV) (ht:t.In (2 ^ 20)) (hr:r.In (2 ^ 20)),Te 190 [.agg (t.enc false),.agg (r.enc false)] ⟨[.agg ((t.apply r).1.enc true),.one (bT (t.apply r).2)],[t.enc false,r.enc false]⟩
theorem burn_secs2 (d:DevV):d.burn.Secs.length=d.Secs.length:=by rw [burn_secs]
theorem write_secs (d:DevV) (n:Int) (b:List UInt8):(d.write n b).Secs.length=d.Secs.length:=by
 unfold DevV.write
 split
 ·rfl
 ·split
  ·exact burn_secs2 d
  ·exact burn_secs2 d
theorem flush_secs (d:DevV):d.flush.Secs.length=d.Secs.length:=by
 unfold DevV.flush
 split
 ·rfl
 ·split
  ·exact burn_secs2 d
  ·exact flushed_len d.Cache d.Secs
theorem layN_secs (gen:Int) (recs:List RecV) (d:DevV):∀ i,(layN gen recs d i).Secs.length=d.Secs.length:=by
 intro i
 induction i with
 | zero=>rfl
 | succ i ih=>rw [layN,write_secs,ih]
theorem layDev_secs (gen:Int) (recs:List RecV) (d:DevV):(layDev gen recs d).Secs.length=d.Secs.length:=by
 rw [layDev,flush_secs,write_secs,flush_secs,layN_secs]
def StoreV.relay (s:StoreV):StoreV:=bif s.ok && !s.D.Down && !(s.Gen==60000) then s.lay (s.Gen + 1) else s
theorem StoreV.ok_iff (s:StoreV):s.ok=true↔s.D.ok=true∧s.D.Secs.length=62∧(s.D.Cache.length=0∨s.D.Down=true)∧s.T.ok=true∧(1≤s.Gen∧s.Gen≤60000)∧(0≤s.Place∧s.Place≤30):=by
 simp only [StoreV.ok,Bool.and_eq_true,Bool.or_eq_true,beq_iff_eq,win,decide_eq_true_eq,and_assoc]
 constructor
 ·rintro ⟨h1,h2,h3,h4,h5⟩
  exact ⟨h1,by omega,h3.imp (fun h=>by omega) id,h4,h5⟩
 ·rintro ⟨h1,h2,h3,h4,h5⟩
  exact ⟨h1,by omega,h3.imp (fun h=>by omega) id,h4,h5⟩
abbrev C_i_Lay (Te:TE):Prop:=∀ (s:StoreV) (h:s.In (2 ^ 20)),Te 256 [.agg (s.enc false)] ⟨[.agg (s.relay.enc true)],[s.enc false]⟩
def StoreV.fits (s:StoreV) (r:RecV):Bool:=s.ok && !s.D.Down&&(s.T.apply r).2
def StoreV.room (s:StoreV):StoreV:=bif s.Place==30 then s.relay else s
def StoreV.log (s:StoreV) (r:RecV):DevV:=(s.D.write (secOf s.Gen s.Place) (putRec s.Gen s.Place r)).flush
def StoreV.end (s:StoreV) (t:TabV) (r:RecV):StoreV×Bool :=
 bif s.D.Down||(s.Place==30) then (s,false) else bif (s.log r).Down then (⟨s.log r,s.T,s.Gen,s.Place⟩,false) else (⟨s.log r,t,s.Gen,s.Place + 1⟩,true)
def StoreV.add (s:StoreV) (r:RecV):StoreV×Bool:=bif s.fits r then s.room.end (s.T.apply r).1 r else (s,false)
theorem relay_ok {s:StoreV} (h:s.ok=true):s.relay.D.ok=true∧(1≤s.relay.Gen∧s.relay.Gen≤60000)∧s.relay.T=s.T∧s.relay.D.Secs.length=62:=by
 have hk:=(StoreV.ok_iff s).1 h
 unfold StoreV.relay
 cases g:(s.ok && !s.D.Down && !(s.Gen==60000))
 ·exact ⟨hk.1,hk.2.2.2.2.1,rfl,hk.2.1⟩
 ·have hg:¬ s.Gen=60000:=by
   simp only [Bool.and_eq_true,Bool.not_eq_true',beq_eq_false_iff_ne] at g
   exact g.2
  have hL:=layDev_ok hk.1 (s.Gen + 1) (recsOf s.T)
  have hl:=layDev_secs (s.Gen + 1) (recsOf s.T) s.D
  simp only [cond_true,StoreV.lay]
  split
  ·exact ⟨hL,hk.2.2.2.2.1,rfl,hl.trans hk.2.1⟩
  ·exact ⟨hL,by simp only; omega,rfl,hl.trans hk.2.1⟩
theorem room_ok {s:StoreV} (h:s.ok=true) (hT:s.T.In (2 ^ 20)):s.room.D.ok=true∧(1≤s.room.Gen∧s.room.Gen≤60000)∧s.room.T=s.T∧s.room.D.Secs.length=62∧(0≤s.room.Place∧s.room.Place≤2 ^ 30):=by
 have hk:=(StoreV.ok_iff s).1 h
 obtain ⟨r1,r2,r3,r4⟩:=relay_ok h
 unfold StoreV.room
 cases s.Place==30
 ·exact ⟨hk.1,hk.2.2.2.2.1,rfl,hk.2.1,by simp only [cond_false]; omega⟩
 ·refine ⟨r1,r2,r3,r4,?_⟩
  simp only [cond_true]
  unfold StoreV.relay
  cases g:(s.ok && !s.D.Down && !(s.Gen==60000))
  ·simp only [cond_false]; omega
  ·have hl:=(recsOf_le hT).1
   simp only [cond_true,StoreV.lay]
   split
   ·simp only; omega
   ·simp only; omega
abbrev C_i_Add (Te:TE):Prop:=∀ (s:StoreV) (r:RecV) (hs:s.In (2 ^ 20)) (hr:r.In (2 ^ 20)),Te 174 [.agg (s.enc false),.agg (r.enc false)] ⟨[.agg ((s.add r).1.enc true),.one (bT (s.add r).2)],[s.enc false,r.enc false]⟩
abbrev C_i_added (Te:TE):Prop:=∀ (n:NodeV) (r:RecV) (hn:n.In (2 ^ 20)) (hr:r.In (2 ^ 20)),Te 86 [.agg (n.enc false),.agg (r.enc false)] ⟨[.agg ((NodeV.mk (n.S.add r).1 n.Cs).enc true),.one (bT (n.S.add r).2)],[n.enc false,r.enc false]⟩
abbrev C_s_l13Add (Te:TE):Prop:=∀ (s:StoreV) (r:RecV) (hk:s.ok=true) (hd:s.D.Down=false) (hT:s.T.In (2 ^ 20)) (hr:r.In (2 ^ 20)),Te 103 [.ptr (s.enc true),.agg (r.enc false)] ⟨[.one (bT (s.add r).2)],[(s.add r).1.enc true,r.enc false]⟩
def markAt (l:List MarkV) (who:Int):Option MarkV:=l.find? fun m=>m.Who==who
def MarkV.zero:MarkV:=⟨0,0,0⟩
theorem markAt_hit {l:List MarkV} {who:Int} {i:Nat} (h:i < l.length) (hp:∀ j (hj:j < l.length),j < i→(l[j].Who==who)=false) (hk:(l[i].Who==who)=true):markAt l who=some l[i]:=by
 rw [markAt,List.find?_eq_some_iff_getElem]
 exact ⟨hk,i,h,rfl,fun j hj=>by simpa using hp j (by omega) hj⟩
theorem markAt_none {l:List MarkV} {who:Int} {i:Nat} (hi:l.length≤i) (hp:∀ j (hj:j < l.length),j < i→(l[j].Who==who)=false):markAt l who=none:=by
 rw [markAt,List.find?_eq_none]
 intro x hx
 obtain ⟨j,hj,rfl⟩:=List.mem_iff_getElem.1 hx
 simpa using hp j hj (by omega)
theorem markAt_step {l:List MarkV} {who:Int} {i:Nat} (h:i < l.length) (hp:∀ j (hj:j < l.length),j < i→(l[j].Who==who)=false) (hk:(l[i].Who==who)=false):∀ j (hj:j < l.length),j < i + 1→(l[j].Who==who)=false:=by
 intro j hj hji
 by_cases e:j=i
 ·subst e; exact hk
 ·exact hp j hj (by omega)
abbrev C_i_MarkAt (Te:TE):Prop:=∀ (t:TabV) (who:Int) (hl:t.Marks.length≤2 ^ 48),Te 160 [.agg (t.enc false),.one (iT who)] ⟨[.agg ((markAt t.Marks who).getD MarkV.zero).row,.one (bT (markAt t.Marks who).isSome)],[t.enc false,[iT who]]⟩
abbrev C_s_MarkAt (Te:TE):Prop:=∀ (t:TabV) (who:Int) (hl:t.Marks.length≤2 ^ 48),Te 78 [.agg (t.enc false),.one (iT who)] ⟨[.agg ((markAt t.Marks who).getD MarkV.zero).row,.one (bT (markAt t.Marks who).isSome)],[t.enc false,[iT who]]⟩
def oldOf (m:Option MarkV) (seq:Int):Int×Bool:=match m with
 | none=>(0,false)
 | some m=>bif decide (m.Seq > seq) then (1,true) else bif m.Seq==seq then (m.Code,true) else (0,false)
def NodeV.old (n:NodeV) (who seq:Int):Int×Bool:=bif !n.up || !win who 1 9 || !win seq 1 65535 then (1,true) else oldOf (markAt n.S.T.Marks who) seq
abbrev C_i_mayAsk (Te:TE):Prop:=∀ (who seq:Int),Te 72 [.one (iT who),.one (iT seq)] ⟨[.one (bT (win who 1 9&&win seq 1 65535))],[[iT who],[iT seq]]⟩
abbrev C_i_askedBefore (Te:TE):Prop:=∀ (n:NodeV) (who seq:Int) (hl:n.S.T.Marks.length≤2 ^ 48),Te 73 [.agg (n.enc false),.one (iT who),.one (iT seq)] ⟨[.one (iT (oldOf (markAt n.S.T.Marks who) seq).1),.one (bT (oldOf (markAt n.S.T.Marks who) seq).2)],[n.enc false,[iT who],[iT seq]]⟩
abbrev C_s_l15Old (Te:TE):Prop:=∀ (n:NodeV) (who seq:Int) (h:n.In (2 ^ 48)),Te 108 [.agg (n.enc false),.one (iT who),.one (iT seq)] ⟨[.one (iT (n.old who seq).1),.one (bT (n.old who seq).2)],[n.enc false,[iT who],[iT seq]]⟩
theorem up_ok {n:NodeV} (h:n.up=true):n.S.ok=true∧n.S.D.Down=false∧win n.Cs 1 5=true:=by
 simp only [NodeV.up,NodeV.ok,Bool.and_eq_true,Bool.not_eq_true'] at h
 exact ⟨h.1.1,h.2,h.1.2⟩
def recWho (who seq code:Int):RecV:=⟨4,RowV.zero,⟨#[]⟩,0,who,seq,code⟩
def RecV.by (r:RecV) (who seq code:Int):RecV:=⟨r.Kind,r.R,r.Key,r.N,who,seq,code⟩
def RecV.told (r:RecV):RecV:=bif r.Code != 0 then recWho r.Who r.Seq r.Code else r
def NodeV.added (n:NodeV) (r:RecV):NodeV:=⟨(n.S.add r).1,n.Cs⟩
def NodeV.changed (n:NodeV) (r:RecV):NodeV×Int×Bool:=(n.added r,bif (n.S.add r).2 then r.Code else 5,(n.S.add r).2)
theorem recWho_in (who seq code:Int) (k:Nat):(recWho who seq code).In k:=⟨RowV.zero_in k,Nat.zero_le _⟩
abbrev C_i_change (Te:TE):Prop:=∀ (n:NodeV) (who seq:Int) (r:RecV) (code:Int) (hn:n.In (2 ^ 20)) (hr:r.In (2 ^ 20)),Te 91 [.agg (n.enc false),.one (iT who),.one (iT seq),.agg (r.enc false),.one (iT code)] ⟨[.agg ((n.changed (r.by who seq code)).1.enc true),.one (iT (n.changed (r.by who seq code)).2.1),.one (bT (n.changed (r.by who seq code)).2.2)],[n.enc false,[iT who],[iT seq],r.enc false,[iT code]]⟩
def NodeV.delCode (n:NodeV) (key:ByteArray):Int:=bif nameOk key then (bif decide (rowAt n.S.T.Rows key < 0) then 2 else 0) else 1
def delRec (code:Int) (key:ByteArray):RecV:=bif code != 0 then recWho 0 0 0 else ⟨2,RowV.zero,key,0,0,0,0⟩
abbrev C_i_delRec (Te:TE):Prop:=∀ (n:NodeV) (key:ByteArray) (hn:n.S.T.Rows.length≤2 ^ 48) (hk:key.size≤2 ^ 48),Te 74 [.agg (n.enc false),.one (sT key)] ⟨[.agg ((delRec (n.delCode key) key).enc true),.one (iT (n.delCode key))],[n.enc false,[sT key]]⟩
def NodeV.del (n:NodeV) (who seq:Int) (key:ByteArray):NodeV×Int×Bool :=
 bif (n.old who seq).2 then (n,(n.old who seq).1,false) else n.changed ((RecV.mk 2 RowV.zero key 0 who seq (n.delCode key)).told)
theorem delRec_by (code:Int) (key:ByteArray) (who seq:Int):(delRec code key).by who seq code=(RecV.mk 2 RowV.zero key 0 who seq code).told:=by
 unfold delRec RecV.told
 simp only
 cases code != 0 <;> rfl
theorem delRec_in (code:Int) {key:ByteArray} {k:Nat} (h:key.size≤k):(delRec code key).In k:=by
 unfold delRec
 cases code != 0
 ·exact ⟨RowV.zero_in k,h⟩
 ·exact recWho_in 0 0 0 k
theorem old_no {n:NodeV} {who seq:Int} (h:(n.up&&(win who 1 9&&win seq 1 65535))=false):n.old who seq=(1,true):=by
 unfold NodeV.old
 cases g1:n.up <;> cases g2:win who 1 9 <;> cases g3:win seq 1 65535 <;> first | rfl | (rw [g1,g2,g3] at h; cases h)
theorem old_yes {n:NodeV} {who seq:Int} (h1:n.up=true) (h2:(win who 1 9&&win seq 1 65535)=true):n.old who seq=oldOf (markAt n.S.T.Marks who) seq:=by
 simp only [Bool.and_eq_true] at h2
 rw [NodeV.old,h1,h2.1,h2.2]
 rfl
abbrev C_i_NodeDel (Te:TE):Prop:=∀ (n:NodeV) (who seq:Int) (key:ByteArray) (hn:n.In (2 ^ 20)) (hk:key.size≤2 ^ 20),Te 26 [.agg (n.enc false),.one (iT who),.one (iT seq),.one (sT key)] ⟨[.agg ((n.del who seq key).1.enc true),.one (iT (n.del who seq key).2.1),.one (bT (n.del who seq key).2.2)],[n.enc false,[iT who],[iT seq],[sT key]]⟩
def recPh (p:Int):RecV:=⟨3,RowV.zero,⟨#[]⟩,p,0,0,0⟩
def NodeV.phase1 (n:NodeV) (p:Int):NodeV:=bif nextOk n.S.T.Phase p then n.added (recPh p) else n
def NodeV.phase (n:NodeV) (p:Int):NodeV×Bool:=bif n.up then (n.phase1 p,(n.phase1 p).S.T.Phase==p) else (n,false)
theorem recPh_in (p:Int) (k:Nat):(recPh p).In k:=⟨RowV.zero_in k,Nat.zero_le _⟩
def sbHit (cs n:Int) (b:Nat):Bool:=(byteSign cs b).2&&((byteSign cs b).1==n)
def signByte (cs n:Int):Int×Bool:=match (List.range 256).find? (sbHit cs n) with
 | some b=>((b:Int),true)
 | none=>(0,false)
theorem signByte_hit {cs n:Int} {i:Nat} (h:i < 256) (hp:∀ j,j < i→sbHit cs n j=false) (hk:sbHit cs n i=true):signByte cs n=((i:Int),true):=by
 have e:(List.range 256).find? (sbHit cs n)=some i:=by
  rw [List.find?_eq_some_iff_getElem]
  exact ⟨hk,i,by simpa using h,by simp,fun j hj=>by simp [hp j hj]⟩
 rw [signByte,e]
theorem signByte_none {cs n:Int} (hp:∀ j,j < 256→sbHit cs n j=false):signByte cs n=(0,false):=by
 have e:(List.range 256).find? (sbHit cs n)=none:=by
  rw [List.find?_eq_none]
  intro x hx
  rw [hp x (List.mem_range.1 hx)]
  decide
 rw [signByte,e]
abbrev C_i_SignByte (Te:TE):Prop:=∀ (cs n:Int),Te 371 [.one (iT cs),.one (iT n)] ⟨[.one (iT (signByte cs n).1),.one (bT (signByte cs n).2)],[[iT cs],[iT n]]⟩
abbrev C_s_SignByte (Te:TE):Prop:=∀ (cs n:Int),Te 322 [.one (iT cs),.one (iT n)] ⟨[.one (iT (signByte cs n).1),.one (bT (signByte cs n).2)],[[iT cs],[iT n]]⟩
def signPair (n:Int):Int×Int×Bool:=bif win n 12353 12435 then (164,n - 12353 + 161,true) else bif win n 12449 12534 then (165,n - 12449 + 161,true) else (0,0,false)
abbrev C_i_SignPair (Te:TE):Prop:=∀ (n:Int),Te 385 [.one (iT n)] ⟨[.one (iT (signPair n).1),.one (iT (signPair n).2.1),.one (bT (signPair n).2.2)],[[iT n]]⟩
abbrev C_s_SignPair (Te:TE):Prop:=∀ (n:Int),Te 355 [.one (iT n)] ⟨[.one (iT (signPair n).1),.one (iT (signPair n).2.1),.one (bT (signPair n).2.2)],[[iT n]]⟩
def putEuc (b:List UInt8) (n:Int):List UInt8×Bool:=bif win n 0 127 then (b++[mkU n],true) else bif (signPair n).2.2 then (b++[mkU (signPair n).1,mkU (signPair n).2.1],true) else (b,false)
theorem uR1 (x:UInt8):([[uT x]]:List (List T))=List.map uR [x]:=rfl
theorem uR2 (x y:UInt8):([[uT x],[uT y]]:List (List T))=List.map uR [x,y]:=rfl
abbrev C_i_PutEuc (Te:TE):Prop:=∀ (b:List UInt8) (n:Int) (hb:b.length≤2 ^ 30),Te 370 [.one (slT false 1 uR b),.one (iT n)] ⟨[.one (slT true 1 uR (putEuc b n).1),.one (bT (putEuc b n).2)],[[slT false 1 uR b],[iT n]]⟩
abbrev C_s_PutEuc (Te:TE):Prop:=∀ (b:List UInt8) (n:Int) (hb:b.length≤2 ^ 30),Te 321 [.one (slT false 1 uR b),.one (iT n)] ⟨[.one (slT true 1 uR (putEuc b n).1),.one (bT (putEuc b n).2)],[[slT false 1 uR b],[iT n]]⟩
abbrev C_s_Signs (Te:TE):Prop:=∀ (s:ByteArray) (hs:s.size≤2 ^ 20),Te 265 [.one (sT s)] ⟨[.one (slT true 1 iR (signsOf s).1),.one (bT (signsOf s).2)],[[sT s]]⟩
def putIn (cs:Int) (b:List UInt8) (n:Int):List UInt8×Bool:=bif cs==0 then (putSign b n,true) else bif cs==5 then putEuc b n else bif (signByte cs n).2 then (b++[mkU (signByte cs n).1],true) else (b,false)
def putLeft (cs:Int) (b:List UInt8) (n:Int):T:=bif cs==0||cs==5 then slT true 1 uR b else .no ()
theorem putEuc_len (b:List UInt8) (n:Int):(putEuc b n).1.length≤b.length + 2:=by
 unfold putEuc
 cases win n 0 127
 ·cases (signPair n).2.2 <;> simp
 ·simp
theorem putIn_len (cs:Int) (b:List UInt8) (n:Int):(putIn cs b n).1.length≤b.length + 4:=by
 unfold putIn
 cases cs==0
 ·cases cs==5
  ·cases (signByte cs n).2 <;> simp
  ·have:=putEuc_len b n
   simp only [cond_true,cond_false]
   omega
 ·exact putSign_len b n
theorem putIn_utf {cs:Int} (h:(cs==0)=true) (b:List UInt8) (n:Int):putIn cs b n=(putSign b n,true):=by rw [putIn,h]; rfl
theorem putIn_euc {cs:Int} (h:(cs==0)=false) (h5:(cs==5)=true) (b:List UInt8) (n:Int):putIn cs b n=putEuc b n:=by rw [putIn,h,h5]; rfl
theorem putIn_no {cs:Int} {n:Int} (h:(cs==0)=false) (h5:(cs==5)=false) (g:(signByte cs n).2=false) (b:List UInt8):putIn cs b n=(b,false):=by rw [putIn,h,h5,g]; rfl
theorem putIn_yes {cs:Int} {n:Int} (h:(cs==0)=false) (h5:(cs==5)=false) (g:(signByte cs n).2=true) (b:List UInt8):putIn cs b n=(b++[mkU (signByte cs n).1],true):=by rw [putIn,h,h5,g]; rfl
abbrev C_i_putIn (Te:TE):Prop:=∀ (cs:Int) (b:List UInt8) (n:Int) (hb:b.length≤2 ^ 30),Te 351 [.one (iT cs),.one (slT true 1 uR b),.one (iT n)] ⟨[.one (slT true 1 uR (putIn cs b n).1),.one (bT (putIn cs b n).2)],[[iT cs],[putLeft cs b n],[iT n]]⟩
abbrev C_s_l5Put (Te:TE):Prop:=∀ (cs:Int) (b:List UInt8) (n:Int) (hb:b.length≤2 ^ 30) (hn:signOk n=true),Te 266 [.one (iT cs),.one (slT false 1 uR b),.one (iT n)] ⟨[.one (slT true 1 uR (putIn cs b n).1),.one (bT (putIn cs b n).2)],[[iT cs],[slT false 1 uR b],[iT n]]⟩
def encGo (cs:Int) (b:List UInt8):List Int→List UInt8×Bool
 | []=>(b,true)
 | n::l=>bif (putIn cs b n).2 then encGo cs (putIn cs b n).1 l else ([],false)
def encode (cs:Int) (s:ByteArray):List UInt8×Bool:=bif win cs 0 5&&(signsOf s).2 then encGo cs [] (signsOf s).1 else ([],false)
theorem signsOf_len (s:ByteArray):(signsOf s).1.length≤s.size:=by
 unfold signsOf
 split
 ·rw [← sizeL]; exact signs_len _ _
 ·exact Nat.zero_le _
theorem encGo_len (cs:Int) (l:List Int):∀ b,(encGo cs b l).1.length≤b.length + 4 * l.length:=by
 induction l with
 | nil=>intro b; simp [encGo]
 | cons n l ih =>
  intro b
  rw [encGo]
  cases (putIn cs b n).2
  ·simp
  ·have h1:=ih (putIn cs b n).1
   have h2:=putIn_len cs b n
   simp only [cond_true,List.length_cons]
   omega
theorem encode_len (cs:Int) (s:ByteArray):(encode cs s).1.length≤4 * s.size:=by
 unfold encode
 cases win cs 0 5&&(signsOf s).2
 ·exact Nat.zero_le _
 ·have:=encGo_len cs (signsOf s).1 []
  have:=signsOf_len s
  simp only [cond_true,List.length_nil] at *
  omega
abbrev C_i_Encode (Te:TE):Prop:=∀ (cs:Int) (s:ByteArray) (hs:s.size≤2 ^ 20),Te 303 [.one (iT cs),.one (sT s)] ⟨[.one (slT true 1 uR (encode cs s).1),.one (bT (encode cs s).2)],[[iT cs],[sT s]]⟩
theorem signs_ok:∀ (k:Nat) (l:List UInt8),l.length≤k→Lib.validD l=true→∀ n∈signs l,signOk n=true
 | 0,l,h,_=>by
  have:l=[]:=List.length_eq_zero_iff.1 (by omega)
  subst this
  intro n hn
  rw [signs_nil] at hn
  cases hn
 | k + 1,l,h,hv=>by
  by_cases hne:l=[]
  ·subst hne
   intro n hn
   rw [signs_nil] at hn
   cases hn
  ·have hw:=Lib.decodeL_width l
   have hle:=Lib.decodeL_le l hne
   rw [Lib.validD_step _ hne] at hv
   by_cases hb:(Lib.decodeL l).1=65533∧(Lib.decodeL l).2=1
   ·rw [if_pos hb] at hv; cases hv
   ·rw [if_neg hb] at hv
    have hs:signAt l=some ((Lib.decodeL l).1,(Lib.decodeL l).2):=by rw [signAt,if_neg hb]
    have he:=enc_take hle hs
    intro n hn
    rw [signs_step hne] at hn
    rcases List.mem_cons.1 hn with rfl | hn
    ·exact he.2
    ·exact signs_ok k _ (by rw [List.length_drop]; omega) hv n hn
theorem signsOf_ok (s:ByteArray):∀ n∈(signsOf s).1,signOk n=true:=by
 unfold signsOf
 split
 ·rename_i h
  exact signs_ok _ _ (Nat.le_refl _) h
 ·intro n hn; cases hn
abbrev C_s_Encode (Te:TE):Prop:=∀ (cs:Int) (s:ByteArray) (hs:s.size≤2 ^ 20),Te 182 [.one (iT cs),.one (sT s)] ⟨[.one (slT true 1 uR (encode cs s).1),.one (bT (encode cs s).2)],[[iT cs],[sT s]]⟩
def cellOf (tag:Int) (s:ByteArray):CellV×Bool:=bif (encode tag s).2&&decide (((encode tag s).1.length:Int)≤20) then (⟨tag,(encode tag s).1⟩,true) else (⟨0,[]⟩,false)
theorem encode_tag {tag:Int} {s:ByteArray} (h:(encode tag s).2=true):win tag 0 5=true:=by
 cases g:win tag 0 5
 ·rw [encode,g] at h; cases h
 ·rfl
theorem cellOf_no {tag:Int} {s:ByteArray} (h:(encode tag s).2=false):cellOf tag s=(⟨0,[]⟩,false):=by rw [cellOf,h]; rfl
theorem cellOf_big {tag:Int} {s:ByteArray} (h:decide (((encode tag s).1.length:Int)≤20)=false):cellOf tag s=(⟨0,[]⟩,false):=by rw [cellOf,h,Bool.and_false]; rfl
theorem cellOf_yes {tag:Int} {s:ByteArray} (h:(encode tag s).2=true) (h':decide (((encode tag s).1.length:Int)≤20)=true):cellOf tag s=(⟨tag,(encode tag s).1⟩,true):=by rw [cellOf,h,h']; rfl
theorem cellOf_in (tag:Int) (s:ByteArray):(cellOf tag s).1.B.length≤20:=by
 unfold cellOf
 cases g:(encode tag s).2&&decide (((encode tag s).1.length:Int)≤20)
 ·exact Nat.zero_le _
 ·simp only [Bool.and_eq_true,decide_eq_true_eq] at g
  have:=g.2
  simp only [cond_true]
  omega
abbrev C_i_CellOf (Te:TE):Prop:=∀ (tag:Int) (s:ByteArray) (hs:s.size≤2 ^ 20),Te 251 [.one (iT tag),.one (sT s)] ⟨[.agg ((cellOf tag s).1.enc true),.one (bT (cellOf tag s).2)],[[iT tag],[sT s]]⟩
abbrev C_s_CellOf (Te:TE):Prop:=∀ (tag:Int) (s:ByteArray) (hs:s.size≤2 ^ 20),Te 200 [.one (iT tag),.one (sT s)] ⟨[.agg ((cellOf tag s).1.enc true),.one (bT (cellOf tag s).2)],[[iT tag],[sT s]]⟩
def CellV.turn (c:CellV) (tag:Int):CellV×Bool:=bif c.text.2&&(cellOf tag c.text.1).2 then ((cellOf tag c.text.1).1,true) else (c,false)
theorem turn_no {c:CellV} {tag:Int} (h:c.text.2=false):c.turn tag=(c,false):=by rw [CellV.turn,h]; rfl
theorem turn_big {c:CellV} {tag:Int} (h:(cellOf tag c.text.1).2=false):c.turn tag=(c,false):=by rw [CellV.turn,h,Bool.and_false]; rfl
theorem turn_yes {c:CellV} {tag:Int} (h:c.text.2=true) (h':(cellOf tag c.text.1).2=true):c.turn tag=((cellOf tag c.text.1).1,true):=by rw [CellV.turn,h,h']; rfl
abbrev C_i_Turn (Te:TE):Prop:=∀ (c:CellV) (tag:Int) (hc:c.Len) (hs:c.text.1.size≤2 ^ 20),Te 254 [.agg (c.enc false),.one (iT tag)] ⟨[.agg ((c.turn tag).1.enc true),.one (bT (c.turn tag).2)],[c.enc false,[iT tag]]⟩
abbrev C_s_Turn (Te:TE):Prop:=∀ (c:CellV) (tag:Int) (hc:c.Len) (hs:c.text.1.size≤2 ^ 20),Te 290 [.agg (c.enc false),.one (iT tag)] ⟨[.agg ((c.turn tag).1.enc true),.one (bT (c.turn tag).2)],[c.enc false,[iT tag]]⟩
theorem decGo_size (cs:Int) (b:List UInt8):∀ (fu:Nat) (i:Int) (out:List UInt8),(decGo cs b fu i out).1.size≤out.length + 4 * fu
 | 0,i,out=>by simp [decGo,ByteArray.size]
 | fu + 1,i,out=>by
  rw [decGo]
  split
  ·split
   ·have h1:=decGo_size cs b fu (signIn cs b i).2.1 (putSign out (signIn cs b i).1)
    have h2:=putSign_len out (signIn cs b i).1
    omega
   ·exact Nat.zero_le _
  ·simp [ByteArray.size]
theorem text_size {c:CellV}:c.text.1.size≤80:=by
 unfold CellV.text
 split
 ·rename_i h
  have hl:=CellV.ok_len h
  unfold decode
  split
  ·have:=decGo_size c.Tag c.B c.B.length 0 []
   simp only [List.length_nil] at this
   omega
  ·exact Nat.zero_le _
 ·exact Nat.zero_le _
theorem rowOk_len {r:RowV} (h:r.Len):r.Old.Len∧r.New.Len:=h
def RowV.fill (r:RowV):RowV:=bif r.ok&&(r.Has==1) then (bif (r.Old.turn 0).2 then ⟨r.Key,r.Old,(r.Old.turn 0).1,3,r.Aside⟩ else ⟨r.Key,r.Old,r.New,r.Has,true⟩) else r
theorem fill_no {r:RowV} (h:(r.ok&&(r.Has==1))=false):r.fill=r:=by rw [RowV.fill,h]; rfl
theorem fill_bad {r:RowV} (h:(r.ok&&(r.Has==1))=true) (h2:(r.Old.turn 0).2=false):r.fill=⟨r.Key,r.Old,r.New,r.Has,true⟩:=by rw [RowV.fill,h,h2]; rfl
theorem fill_yes {r:RowV} (h:(r.ok&&(r.Has==1))=true) (h2:(r.Old.turn 0).2=true):r.fill=⟨r.Key,r.Old,(r.Old.turn 0).1,3,r.Aside⟩:=by rw [RowV.fill,h,h2]; rfl
theorem bne_eq (a b:Int):(a != b) = !(a==b):=rfl
abbrev C_i_FillRow (Te:TE):Prop:=∀ (r:RowV) (h:r.In (2 ^ 20)),Te 172 [.agg (r.enc false)] ⟨[.agg (r.fill.enc true)],[r.enc false]⟩
abbrev C_s_FillRow (Te:TE):Prop:=∀ (r:RowV) (h:r.In (2 ^ 20)),Te 201 [.agg (r.enc false)] ⟨[.agg (r.fill.enc true)],[r.enc false]⟩
def RowV.cut (r:RowV):RowV:=bif r.ok && !(r.Has==1) then ⟨r.Key,⟨0,[]⟩,r.New,2,false⟩ else r
theorem cut_no {r:RowV} (h:(r.ok && !(r.Has==1))=false):r.cut=r:=by rw [RowV.cut,h]; rfl
theorem cut_yes {r:RowV} (h:(r.ok && !(r.Has==1))=true):r.cut=⟨r.Key,⟨0,[]⟩,r.New,2,false⟩:=by rw [RowV.cut,h]; rfl
abbrev C_i_CutRow (Te:TE):Prop:=∀ (r:RowV) (h:r.In (2 ^ 20)),Te 170 [.agg (r.enc false)] ⟨[.agg (r.cut.enc true)],[r.enc false]⟩
abbrev C_s_CutRow (Te:TE):Prop:=∀ (r:RowV) (h:r.In (2 ^ 20)),Te 202 [.agg (r.enc false)] ⟨[.agg (r.cut.enc true)],[r.enc false]⟩
def RowV.back (r:RowV):RowV:=bif r.ok then (bif r.Has==3 then ⟨r.Key,r.Old,⟨0,[]⟩,1,false⟩ else bif r.Has==2 then ⟨r.Key,r.Old,r.New,r.Has,true⟩ else r) else r
abbrev C_i_BackRow (Te:TE):Prop:=∀ (r:RowV) (h:r.In (2 ^ 20)),Te 171 [.agg (r.enc false)] ⟨[.agg (r.back.enc true)],[r.enc false]⟩
abbrev C_s_BackRow (Te:TE):Prop:=∀ (r:RowV) (h:r.In (2 ^ 20)),Te 203 [.agg (r.enc false)] ⟨[.agg (r.back.enc true)],[r.enc false]⟩
def turned (p:Int) (r:RowV):RowV:=bif p==4 then r.cut else bif p==6 then r.back else r.fill
abbrev C_i_turnedRow (Te:TE):Prop:=∀ (p:Int) (r:RowV) (h:r.In (2 ^ 20)),Te 84 [.one (iT p),.agg (r.enc false)] ⟨[.agg ((turned p r).enc true)],[[iT p],r.enc false]⟩
abbrev C_s_l15Turn (Te:TE):Prop:=∀ (p:Int) (r:RowV) (h:r.In (2 ^ 20)) (hp:p=2∨p=3∨p=4∨p=6),Te 116 [.one (iT p),.agg (r.enc false)] ⟨[.agg ((turned p r).enc true)],[[iT p],r.enc false]⟩
def rowFine (ph:Int) (key:ByteArray) (cs:Int) (s:ByteArray):Bool:=win ph 0 7&&nameOk key&&win cs 1 5&&(cellOf 0 s).2
def rowOf (ph:Int) (key:ByteArray) (cs:Int) (s:ByteArray):RowV×Int :=
 bif rowFine ph key cs s then
  (bif (ph==0)||(ph==7) then (bif (cellOf cs s).2 then (⟨key,(cellOf cs s).1,⟨0,[]⟩,1,false⟩,0) else (RowV.zero,3))
  else bif (ph==4)||(ph==5) then (⟨key,⟨0,[]⟩,(cellOf 0 s).1,2,false⟩,0)
  else bif ph==6 then (bif (cellOf cs s).2 then (⟨key,(cellOf cs s).1,⟨0,[]⟩,1,false⟩,0) else (⟨key,⟨0,[]⟩,(cellOf 0 s).1,2,true⟩,0))
  else bif (cellOf cs s).2 then (⟨key,(cellOf cs s).1,(cellOf 0 s).1,3,false⟩,0) else (⟨key,⟨0,[]⟩,(cellOf 0 s).1,2,true⟩,0))
 else (RowV.zero,1)
abbrev C_i_RowOf (Te:TE):Prop:=∀ (ph:Int) (key:ByteArray) (cs:Int) (s:ByteArray) (hk:key.size≤2 ^ 20) (hs:s.size≤2 ^ 20),Te 167 [.one (iT ph),.one (sT key),.one (iT cs),.one (sT s)] ⟨[.agg ((rowOf ph key cs s).1.enc true),.one (iT (rowOf ph key cs s).2)],[[iT ph],[sT key],[iT cs],[sT s]]⟩
abbrev C_s_RowOf (Te:TE):Prop:=∀ (ph:Int) (key:ByteArray) (cs:Int) (s:ByteArray) (hk:key.size≤2 ^ 20) (hs:s.size≤2 ^ 20),Te 109 [.one (iT ph),.one (sT key),.one (iT cs),.one (sT s)] ⟨[.agg ((rowOf ph key cs s).1.enc true),.one (iT (rowOf ph key cs s).2)],[[iT ph],[sT key],[iT cs],[sT s]]⟩
def NodeV.putCode (n:NodeV) (key s:ByteArray):Int:=bif ((rowOf n.S.T.Phase key n.Cs s).2==0)&&decide (rowAt n.S.T.Rows key < 0)&&((n.S.T.Rows.length:Int)==8) then 5 else (rowOf n.S.T.Phase key n.Cs s).2
def recRowBy (r:RowV) (who seq code:Int):RecV:=⟨1,r,⟨#[]⟩,0,who,seq,code⟩
def putRecV (n:NodeV) (key s:ByteArray):RecV:=bif n.putCode key s != 0 then recWho 0 0 0 else recRowBy (rowOf n.S.T.Phase key n.Cs s).1 0 0 0
def NodeV.putIn (n:NodeV) (who seq:Int) (key s:ByteArray):NodeV×Int×Bool :=
 bif (n.old who seq).2 then (n,(n.old who seq).1,false) else n.changed ((recRowBy (rowOf n.S.T.Phase key n.Cs s).1 who seq (n.putCode key s)).told)
theorem putRec_by (n:NodeV) (key s:ByteArray) (who seq:Int):(putRecV n key s).by who seq (n.putCode key s)=(recRowBy (rowOf n.S.T.Phase key n.Cs s).1 who seq (n.putCode key s)).told:=by
 unfold putRecV RecV.told recRowBy
 simp only
 cases n.putCode key s != 0 <;> rfl
theorem rowOf_in {ph:Int} {key:ByteArray} {cs:Int} {s:ByteArray} (h:key.size≤2 ^ 20):(rowOf ph key cs s).1.In (2 ^ 20):=by
 have h1:(cellOf cs s).1.B.length≤2 ^ 20:=Nat.le_trans (cellOf_in cs s) (by decide)
 have h2:(cellOf 0 s).1.B.length≤2 ^ 20:=Nat.le_trans (cellOf_in 0 s) (by decide)
 have hz:=RowV.zero_in (2 ^ 20)
 unfold rowOf
 cases rowFine ph key cs s
 ·exact hz
 ·cases (ph==0)||(ph==7)
  ·cases (ph==4)||(ph==5)
   ·cases ph==6 <;> cases (cellOf cs s).2 <;> first | exact ⟨h,h1,h2⟩ | exact ⟨h,Nat.zero_le _,h2⟩ | exact ⟨h,h1,Nat.zero_le _⟩
   ·exact ⟨h,Nat.zero_le _,h2⟩
  ·cases (cellOf cs s).2
   ·exact hz
   ·exact ⟨h,h1,Nat.zero_le _⟩
theorem putRec_in {n:NodeV} {key s:ByteArray} (h:key.size≤2 ^ 20):(putRecV n key s).In (2 ^ 20):=by
 unfold putRecV
 cases n.putCode key s != 0
 ·exact ⟨rowOf_in h,Nat.zero_le _⟩
 ·exact recWho_in 0 0 0 _
abbrev C_i_putRec (Te:TE):Prop:=∀ (n:NodeV) (key s:ByteArray) (hn:n.S.T.Rows.length≤2 ^ 48) (hk:key.size≤2 ^ 20) (hs:s.size≤2 ^ 20),Te 75 [.agg (n.enc false),.one (sT key),.one (sT s)] ⟨[.agg ((putRecV n key s).enc true),.one (iT (n.putCode key s))],[n.enc false,[sT key],[sT s]]⟩
abbrev C_i_NodePut (Te:TE):Prop:=∀ (n:NodeV) (who seq:Int) (key s:ByteArray) (hn:n.In (2 ^ 20)) (hk:key.size≤2 ^ 20) (hs:s.size≤2 ^ 20),Te 25 [.agg (n.enc false),.one (iT who),.one (iT seq),.one (sT key),.one (sT s)] ⟨[.agg ((n.putIn who seq key s).1.enc true),.one (iT (n.putIn who seq key s).2.1),.one (bT (n.putIn who seq key s).2.2)],[n.enc false,[iT who],[iT seq],[sT key],[sT s]]⟩
theorem told_who {r:RecV} (h:(r.Code != 0)=true):r.told=recWho r.Who r.Seq r.Code:=by rw [RecV.told,h]; rfl
theorem told_self {r:RecV} (h:(r.Code != 0)=false):r.told=r:=by rw [RecV.told,h]; rfl
abbrev C_s_l15End (Te:TE):Prop:=∀ (n:NodeV) (r:RecV) (hu:n.up=true) (hn:n.In (2 ^ 20)) (hr:r.In (2 ^ 20)),Te 110 [.agg (n.enc false),.agg (r.enc false)] ⟨[.agg ((n.changed r.told).1.enc true),.one (iT (n.changed r.told).2.1),.one (bT (n.changed r.told).2.2)],[n.enc false,r.enc false]⟩
abbrev C_s_NodeDel (Te:TE):Prop:=∀ (n:NodeV) (who seq:Int) (key:ByteArray) (hn:n.In (2 ^ 20)) (hk:key.size≤2 ^ 20),Te 35 [.agg (n.enc false),.one (iT who),.one (iT seq),.one (sT key)] ⟨[.agg ((n.del who seq key).1.enc true),.one (iT (n.del who seq key).2.1),.one (bT (n.del who seq key).2.2)],[n.enc false,[iT who],[iT seq],[sT key]]⟩
abbrev C_s_NodePut (Te:TE):Prop:=∀ (n:NodeV) (who seq:Int) (key s:ByteArray) (hn:n.In (2 ^ 20)) (hk:key.size≤2 ^ 20) (hs:s.size≤2 ^ 20),Te 33 [.agg (n.enc false),.one (iT who),.one (iT seq),.one (sT key),.one (sT s)] ⟨[.agg ((n.putIn who seq key s).1.enc true),.one (iT (n.putIn who seq key s).2.1),.one (bT (n.putIn who seq key s).2.2)],[n.enc false,[iT who],[iT seq],[sT key],[sT s]]⟩
abbrev C_s_NodePhase (Te:TE):Prop:=∀ (n:NodeV) (p:Int) (hn:n.In (2 ^ 20)),Te 38 [.agg (n.enc false),.one (iT p)] ⟨[.agg ((n.phase p).1.enc true),.one (bT (n.phase p).2)],[n.enc false,[iT p]]⟩
def loadRec (n:NodeV) (key:ByteArray) (b:List UInt8):RecV:=⟨1,⟨key,⟨n.Cs,b⟩,⟨0,[]⟩,1,!(decode n.Cs b).2⟩,⟨#[]⟩,0,0,0,0⟩
def NodeV.load (n:NodeV) (key:ByteArray) (b:List UInt8):NodeV×Int :=
 bif n.up&&nameOk key&&decide ((b.length:Int)≤20) then (bif n.S.T.Phase==0 then (n.added (loadRec n key b),bif (n.S.add (loadRec n key b)).2 then 0 else 5) else (n,6)) else (n,1)
theorem loadRec_in (n:NodeV) {key:ByteArray} {b:List UInt8} {k:Nat} (h:key.size≤k) (hb:b.length≤k):(loadRec n key b).In k:=⟨⟨h,hb,Nat.zero_le _⟩,Nat.zero_le _⟩
theorem bne_not (a b:Int):(a != b) = !(a==b):=rfl
theorem gt20 (n:Nat):decide ((n:Int) > 20) = !decide ((n:Int)≤20):=by
 by_cases h:(n:Int)≤20
 ·rw [decide_eq_true h,decide_eq_false (by omega)]; rfl
 ·rw [decide_eq_false h,decide_eq_true (by omega)]; rfl
abbrev C_s_NodeLoad (Te:TE):Prop:=∀ (n:NodeV) (key:ByteArray) (b:List UInt8) (hn:n.In (2 ^ 20)) (hk:key.size≤2 ^ 20) (hb:b.length≤2 ^ 20),Te 29 [.agg (n.enc false),.one (sT key),.one (slT false 1 uR b)] ⟨[.agg ((n.load key b).1.enc true),.one (iT (n.load key b).2)],[n.enc false,[sT key],[slT false 1 uR b]]⟩
theorem flush_empty {d:DevV} (h:d.flush.Down=false):d.flush.Cache.length=0:=by
 unfold DevV.flush at h ⊢
 by_cases h1:d.Down=true
 ·rw [if_pos h1,h1] at h; cases h
 ·rw [if_neg h1] at h ⊢
  by_cases h2:d.Fuse=0
  ·rw [if_pos h2] at h
   rw [DevV.burn,if_pos h2] at h
   cases h
  ·rw [if_neg h2]; rfl
theorem cell_len {c:CellV} (h:c.ok=true):c.B.length≤20:=by
 simp only [CellV.ok,Bool.and_eq_true,decide_eq_true_eq] at h
 have:=h.2
 omega
theorem cell_no_len {c:CellV} (h:c.no=true):c.B.length≤20:=by
 simp only [CellV.no,Bool.and_eq_true,decide_eq_true_eq] at h
 rw [h.2]
 exact Nat.zero_le _
theorem cell_text_len {c:CellV} (h:c.text.2=true):c.B.length≤20:=by
 unfold CellV.text at h
 by_cases g:c.ok=true
 ·exact cell_len g
 ·rw [if_neg g] at h; cases h
theorem row_in {r:RowV} (h:r.ok=true):r.In 20:=by
 simp only [RowV.ok,Bool.and_eq_true] at h
 obtain ⟨⟨h1,h2⟩,h3⟩:=h
 simp only [nameOk,win,Bool.and_eq_true,decide_eq_true_eq] at h1
 refine ⟨by omega,?_⟩
 by_cases g1:r.Has=1
 ·rw [if_pos g1] at h3
  simp only [Bool.and_eq_true] at h3
  exact ⟨cell_len h3.1.1.1,cell_no_len h3.2⟩
 ·rw [if_neg g1] at h3
  by_cases g2:r.Has=2
  ·rw [if_pos g2] at h3
   simp only [Bool.and_eq_true] at h3
   exact ⟨cell_no_len h3.1.1,cell_text_len h3.2⟩
  ·rw [if_neg g2] at h3
   simp only [Bool.and_eq_true] at h3
   exact ⟨cell_len h3.1.1.1.1.1,cell_text_len h3.1.2⟩
theorem marks_le {t:TabV} (h:t.ok=true):t.Marks.length≤9:=by
 simp only [TabV.ok,Bool.and_eq_true,List.all_eq_true] at h
 have hg:=h.1.2
 have key:∀ (i:Nat) (hi:i < t.Marks.length),(i:Int) + 1≤t.Marks[i].Who∧t.Marks[i].Who≤9:=by
  intro i
  induction i with
  | zero =>
   intro hi
   have:=hg 0 (List.mem_range.2 hi)
   rw [markGood_zero hi] at this
   simp only [MarkV.ok,win,Bool.and_eq_true,decide_eq_true_eq] at this
   omega
  | succ i ih =>
   intro hi
   have:=hg (i + 1) (List.mem_range.2 hi)
   rw [markGood_succ hi] at this
   have:=ih (by omega)
   simp only [MarkV.ok,win,Bool.and_eq_true,decide_eq_true_eq,Bool.not_eq_true',decide_eq_false_iff_not] at *
   omega
 by_cases h9:t.Marks.length≤9
 ·exact h9
 ·have:=key 9 (by omega)
  omega
theorem TabV.ok_at {t:TabV} (h:t.ok=true) {i:Nat} (hi:i < t.Rows.length):t.Rows[i].ok=true:=by
 simp only [TabV.ok,Bool.and_eq_true,List.all_eq_true] at h
 have:=h.1.1 i (List.mem_range.2 hi)
 simp only [rowGood,List.getElem?_eq_getElem hi,Option.map_some,Option.getD_some,Bool.and_eq_true] at this
 exact this.1
theorem TabV.ok_in {t:TabV} (h:t.ok=true):t.In (2 ^ 20):=by
 have hm:=marks_le h
 have h8:t.Rows.length≤8:=by
  simp only [TabV.ok,Bool.and_eq_true,decide_eq_true_eq] at h
  have:=h.2.1
  omega
 refine ⟨⟨by omega,fun y hy=>?_⟩,by omega⟩
 obtain ⟨i,hi,rfl⟩:=List.mem_iff_getElem.1 hy
 exact (row_in (TabV.ok_at h hi)).mono (by decide)
theorem StoreV.ok_in {s:StoreV} (h:s.ok=true):s.In (2 ^ 20):=by
 have:=(StoreV.ok_iff s).1 h
 exact ⟨DevV.ok_in this.1,TabV.ok_in this.2.2.2.1⟩
theorem recs_18 {t:TabV} (h:t.ok=true):(recsOf t).length≤18:=by
 have hm:=marks_le h
 have h8:t.Rows.length≤8:=by
  simp only [TabV.ok,Bool.and_eq_true,decide_eq_true_eq] at h
  have:=h.2.1
  omega
 rw [recsOf_len]
 omega
theorem lay_ok {s:StoreV} (h:s.ok=true) (hg:s.Gen≤59999):(s.lay (s.Gen + 1)).ok=true:=by
 have hk:=(StoreV.ok_iff s).1 h
 have hL:=layDev_ok hk.1 (s.Gen + 1) (recsOf s.T)
 have hl:=(layDev_secs (s.Gen + 1) (recsOf s.T) s.D).trans hk.2.1
 have hr:=recs_18 hk.2.2.2.1
 cases g:(layDev (s.Gen + 1) (recsOf s.T) s.D).Down
 ·rw [lay_up g,StoreV.ok_iff]
  have he:(layDev (s.Gen + 1) (recsOf s.T) s.D).Cache.length=0:=flush_empty g
  exact ⟨hL,hl,.inl he,hk.2.2.2.1,by simp only; omega,by simp only; omega⟩
 ·rw [lay_down g,StoreV.ok_iff]
  exact ⟨hL,hl,.inr g,hk.2.2.2.1,hk.2.2.2.2⟩
theorem room_ok2 {s:StoreV} (h:s.ok=true):s.room.ok=true:=by
 unfold StoreV.room
 cases s.Place==30
 ·exact h
 ·unfold StoreV.relay
  cases g:(s.ok && !s.D.Down && !(s.Gen==60000))
  ·exact h
  ·have hk:=(StoreV.ok_iff s).1 h
   have hg:¬ s.Gen=60000:=by
    simp only [Bool.and_eq_true,Bool.not_eq_true',beq_eq_false_iff_ne] at g
    exact g.2
   exact lay_ok h (by omega)
theorem apply_ok {t:TabV} {r:RecV} (h:(t.apply r).2=true):(t.apply r).1.ok=true:=by
 unfold TabV.apply at h ⊢
 cases g:(r.ok&&t.ok&&(t.change r).ok)
 ·rw [g] at h; cases h
 ·simp only [Bool.and_eq_true] at g
  exact g.2
theorem end_ok {s:StoreV} {t:TabV} (r:RecV) (h:s.ok=true) (ht:t.ok=true):(s.end t r).1.ok=true∧((s.end t r).2=true→(s.end t r).1.D.Down=false):=by
 have hk:=(StoreV.ok_iff s).1 h
 have hf:(s.log r).ok=true:=flush_ok (write_ok hk.1 _ _)
 have hl:(s.log r).Secs.length=62:=by rw [StoreV.log,flush_secs,write_secs]; exact hk.2.1
 unfold StoreV.end
 cases g:(s.D.Down||(s.Place==30))
 ·have hp:¬ s.Place=30:=by
   simp only [Bool.or_eq_false_iff,beq_eq_false_iff_ne] at g
   exact g.2
  cases g2:(s.log r).Down
  ·refine ⟨(StoreV.ok_iff _).2 ⟨hf,hl,.inl (flush_empty g2),ht,hk.2.2.2.2.1,?_⟩,fun _=>g2⟩
   simp only [cond_false]
   omega
  ·exact ⟨(StoreV.ok_iff _).2 ⟨hf,hl,.inr g2,hk.2.2.2⟩,fun h=>by cases h⟩
 ·exact ⟨h,fun h=>by cases h⟩
theorem add_ok {s:StoreV} (r:RecV) (h:s.ok=true):(s.add r).1.ok=true∧((s.add r).2=true→(s.add r).1.D.Down=false):=by
 unfold StoreV.add
 cases g:s.fits r
 ·exact ⟨h,fun h=>by cases h⟩
 ·have ht:(s.T.apply r).2=true:=by
   simp only [StoreV.fits,Bool.and_eq_true] at g
   exact g.2
  exact end_ok r (room_ok2 h) (apply_ok ht)
theorem add_in {s:StoreV} (r:RecV) (hs:s.In (2 ^ 20)):(s.add r).1.In (2 ^ 20):=by
 cases g:s.fits r
 ·rw [StoreV.add,g]; exact hs
 ·have hk:s.ok=true:=by
   simp only [StoreV.fits,Bool.and_eq_true] at g
   exact g.1.1
  exact StoreV.ok_in (add_ok r hk).1
theorem add_in2 {n:NodeV} (r:RecV) (hn:n.In (2 ^ 20)):(NodeV.mk (n.S.add r).1 n.Cs).In (2 ^ 20):=add_in r hn
def isBehind (f k:ByteArray):Bool:=!(Op.bytesLess k.toList f.toList||k.toList==f.toList)
def behind (f:ByteArray) (l:List RowV):List RowV:=l.filter fun r=>isBehind f r.Key
theorem behind_step {f:ByteArray} {l:List RowV} {i:Nat} (h:i < l.length):behind f (l.take (i + 1))=behind f (l.take i)++bif isBehind f l[i].Key then [l[i]] else []:=by
 rw [behind,behind,List.take_succ_eq_append_getElem h,List.filter_append]
 congr 1
abbrev C_i_rowsBehind (Te:TE):Prop:=∀ (t:TabV) (f:ByteArray) (hl:t.Rows.length≤2 ^ 30),Te 83 [.agg (t.enc false),.one (sT f)] ⟨[.one (slT true 7 (RowV.enc false) (behind f t.Rows))],[t.enc false,[sT f]]⟩
abbrev C_s_l12SameCell (Te:TE):Prop:=∀ (a c:CellV),Te 204 [.agg (a.enc false),.agg (c.enc false)] ⟨[.one (bT ((a.Tag==c.Tag)&&decide (a.B=c.B)))],[a.enc false,c.enc false]⟩
abbrev C_s_l12SameRow (Te:TE):Prop:=∀ (a c:RowV),Te 117 [.agg (a.enc false),.agg (c.enc false)] ⟨[.one (bT (rowSame a c))],[a.enc false,c.enc false]⟩
theorem turn_in (c:CellV) {tag:Int} (h:c.B.length≤2 ^ 20):(c.turn tag).1.B.length≤2 ^ 20:=by
 unfold CellV.turn
 cases c.text.2&&(cellOf tag c.text.1).2
 ·exact h
 ·exact Nat.le_trans (cellOf_in tag _) (by decide)
theorem turned_in {p:Int} {r:RowV} (h:r.In (2 ^ 20)):(turned p r).In (2 ^ 20):=by
 obtain ⟨h1,h2,h3⟩:=h
 have ht:=turn_in r.Old (tag:=0) h2
 unfold turned RowV.cut RowV.back RowV.fill
 cases p==4
 ·cases p==6
  ·cases r.ok&&(r.Has==1)
   ·exact ⟨h1,h2,h3⟩
   ·cases (r.Old.turn 0).2
    ·exact ⟨h1,h2,h3⟩
    ·exact ⟨h1,h2,ht⟩
  ·cases r.ok
   ·exact ⟨h1,h2,h3⟩
   ·cases r.Has==3
    ·cases r.Has==2 <;> exact ⟨h1,h2,h3⟩
    ·exact ⟨h1,h2,Nat.zero_le _⟩
 ·cases r.ok && !(r.Has==1)
  ·exact ⟨h1,h2,h3⟩
  ·exact ⟨h1,Nat.zero_le _,h3⟩
def stepN (p:Int):NodeV→List RowV→NodeV×Bool
 | n,[]=>(n,true)
 | n,r::l=>bif rowSame (turned p r) r then stepN p n l else bif (n.S.add (recRow (turned p r))).2 then stepN p (n.added (recRow (turned p r))) l else (n.added (recRow (turned p r)),false)
theorem stepN_app (p:Int) (b:List RowV):∀ (a:List RowV) (n:NodeV),stepN p n (a++b)=bif (stepN p n a).2 then stepN p (stepN p n a).1 b else stepN p n a
 | [],n=>rfl
 | r::a,n=>by
  simp only [List.cons_append,stepN]
  cases rowSame (turned p r) r
  ·cases g:(n.S.add (recRow (turned p r))).2
   ·rfl
   ·exact stepN_app p b a _
  ·exact stepN_app p b a _
theorem stepN_in {p:Int}:∀ (a:List RowV) (n:NodeV),n.In (2 ^ 20)→(stepN p n a).1.In (2 ^ 20)
 | [],n,h=>h
 | r::a,n,h=>by
  simp only [stepN]
  cases rowSame (turned p r) r
  ·cases g:(n.S.add (recRow (turned p r))).2
   ·exact add_in2 _ h
   ·exact stepN_in a _ (add_in2 _ h)
  ·exact stepN_in a n h
theorem stepN_up {p:Int}:∀ (a:List RowV) (n:NodeV),n.S.ok=true→n.S.D.Down=false→(stepN p n a).1.S.ok=true∧((stepN p n a).2=true→(stepN p n a).1.S.D.Down=false)
 | [],n,h,hd=>⟨h,fun _=>hd⟩
 | r::a,n,h,hd=>by
  have hq:=add_ok (recRow (turned p r)) h
  simp only [stepN]
  cases rowSame (turned p r) r
  ·cases g:(n.S.add (recRow (turned p r))).2
   ·exact ⟨hq.1,fun h=>by cases h⟩
   ·exact stepN_up a _ hq.1 (hq.2 g)
  ·exact stepN_up a n h hd
def lastKey (f:ByteArray) (l:List RowV):ByteArray:=(l.getLast?.map RowV.Key).getD f
theorem lastKey_snoc (f:ByteArray) (l:List RowV) (r:RowV):lastKey f (l++[r])=r.Key:=by simp [lastKey]
def NodeV.step (n:NodeV) (f:ByteArray):NodeV×ByteArray×Int×Bool :=
 bif n.up&&walks n.S.T.Phase then
  (bif (stepN n.S.T.Phase n ((behind f n.S.T.Rows).take 2)).2 then ((stepN n.S.T.Phase n ((behind f n.S.T.Rows).take 2)).1,lastKey f ((behind f n.S.T.Rows).take 2),bif decide (((behind f n.S.T.Rows).length:Int) > 2) then 0 else 1,true)
  else ((stepN n.S.T.Phase n ((behind f n.S.T.Rows).take 2)).1,f,0,false))
 else (n,f,0,false)
theorem step_in {n:NodeV} {f:ByteArray} (hn:n.In (2 ^ 20)):(n.step f).1.In (2 ^ 20):=by
 unfold NodeV.step
 cases n.up&&walks n.S.T.Phase
 ·exact hn
 ·cases (stepN n.S.T.Phase n ((behind f n.S.T.Rows).take 2)).2 <;> exact stepN_in _ n hn
abbrev C_i_NodeStep (Te:TE):Prop:=∀ (n:NodeV) (f:ByteArray) (hn:n.In (2 ^ 20)),Te 20 [.agg (n.enc false),.one (sT f)] ⟨[.agg ((n.step f).1.enc true),.one (sT (n.step f).2.1),.one (iT (n.step f).2.2.1),.one (bT (n.step f).2.2.2)],[n.enc false,[sT f]]⟩
theorem less_tri:∀ a b:List UInt8,Op.bytesLess a b=true∨a=b∨Op.bytesLess b a=true
 | [],[]=>.inr (.inl rfl)
 | [],_::_=>.inl (by simp [Op.bytesLess])
 | _::_,[]=>.inr (.inr (by simp [Op.bytesLess]))
 | a::as,b::bs=>by
  simp only [Op.bytesLess,Bool.or_eq_true,Bool.and_eq_true,decide_eq_true_eq,beq_iff_eq]
  by_cases h1:a < b
  ·exact .inl (.inl h1)
  ·by_cases h2:b < a
   ·exact .inr (.inr (.inl h2))
   ·have e:a=b:=by
     apply UInt8.toNat.inj
     simp only [UInt8.lt_iff_toNat_lt] at h1 h2
     omega
    subst e
    rcases less_tri as bs with h | h | h
    ·exact .inl (.inr ⟨rfl,h⟩)
    ·exact .inr (.inl (by rw [h]))
    ·exact .inr (.inr (.inr ⟨rfl,h⟩))
theorem isBehind_iff (f k:ByteArray):isBehind f k=true↔Op.bytesLess f.toList k.toList=true:=by
 simp only [isBehind,Bool.not_eq_true',Bool.or_eq_false_iff]
 constructor
 ·rintro ⟨h1,h2⟩
  rcases less_tri k.toList f.toList with h | h | h
  ·rw [h1] at h; cases h
  ·rw [h] at h2; simp at h2
  ·exact h
 ·intro h
  refine ⟨?_,?_⟩
  ·cases g:Op.bytesLess k.toList f.toList
   ·rfl
   ·have:=less_trans h g
    rw [less_irrefl] at this
    cases this
  ·cases g:k.toList==f.toList
   ·rfl
   ·have g:=eq_of_beq g
    rw [g,less_irrefl] at h
    cases h
theorem behind_trans {a b c:ByteArray} (h:isBehind a b=true) (h':isBehind b c=true):isBehind a c=true:=by
 rw [isBehind_iff] at *
 exact less_trans h h'
theorem behind_irrefl (a:ByteArray):isBehind a a=false:=by
 cases g:isBehind a a
 ·rfl
 ·rw [isBehind_iff,less_irrefl] at g; cases g
theorem behind_last {L:List RowV} (hs:L.Pairwise fun x y=>isBehind x.Key y.Key=true) (f:ByteArray):(L.any fun r=>isBehind (lastKey f ((behind f L).take 2)) r.Key)=decide (((behind f L).length:Int) > 2):=by
 have hB:(behind f L).Pairwise fun x y=>isBehind x.Key y.Key=true:=hs.filter _
 have hm:∀ r,r∈behind f L↔r∈L∧isBehind f r.Key=true:=fun r=>List.mem_filter
 generalize behind f L=B at hB hm
 rw [Bool.eq_iff_iff,List.any_eq_true,decide_eq_true_eq]
 constructor
 ·rintro ⟨r,hr,hk⟩
  by_cases hl:(B.length:Int) > 2
  ·exact hl
  ·exfalso
   rw [List.take_of_length_le (by omega),lastKey] at hk
   rcases List.eq_nil_or_concat B with e | ⟨B',x,e⟩
   ·subst e
    exact List.not_mem_nil ((hm r).2 ⟨hr,hk⟩)
   ·rw [List.concat_eq_append] at e
    subst e
    rw [List.getLast?_concat] at hk
    simp only [Option.map_some,Option.getD_some] at hk
    have hx:=(hm x).1 (by simp)
    have hb:=(hm r).2 ⟨hr,behind_trans hx.2 hk⟩
    rw [List.pairwise_append] at hB
    rcases List.mem_append.1 hb with h | h
    ·have:=behind_trans hk (hB.2.2 r h x (by simp))
     rw [behind_irrefl] at this
     cases this
    ·rw [List.mem_singleton] at h
     subst h
     rw [behind_irrefl] at hk
     cases hk
 ·intro hl
  have h2:2 < B.length:=by omega
  refine ⟨B[2],((hm _).1 (List.getElem_mem h2)).1,?_⟩
  have e:B.take 2=B.take 1++[B[1]]:=by rw [List.take_succ_eq_append_getElem (by omega)]
  rw [e,lastKey_snoc]
  exact List.pairwise_iff_getElem.1 hB 1 2 (by omega) h2 (by omega)
theorem rows_sorted {t:TabV} (h:t.ok=true):t.Rows.Pairwise fun x y=>isBehind x.Key y.Key=true:=by
 rw [List.pairwise_iff_getElem]
 intro i j hi hj hij
 rw [isBehind_iff]
 have:=keys_less h (i:=i) (j - i - 1) (by omega)
 have e:i + (j - i - 1) + 1=j:=by omega
 simp only [e] at this
 exact this
theorem behind_take {f:ByteArray} {L:List RowV} {i:Nat} (h:i=L.length∨(behind f (L.take i)).length=2) (h2:(behind f (L.take i)).length≤2):behind f (L.take i)=(behind f L).take 2:=by
 have e:behind f L=behind f (L.take i)++behind f (L.drop i):=by rw [behind,behind,behind,← List.filter_append,List.take_append_drop]
 rcases h with h | h
 ·subst h
  rw [List.take_length] at h2 ⊢
  rw [List.take_of_length_le h2]
 ·rw [e,List.take_append_of_le_length (l₁:=behind f (L.take i)) (by omega),List.take_of_length_le (l:=behind f (L.take i)) (by omega)]
theorem step_fail {p:Int} {n x:NodeV} {f:ByteArray} {L:List RowV} {i:Nat} (h:stepN p n (behind f (L.take i))=(x,false)) (h2:(behind f (L.take i)).length≤2):stepN p n ((behind f L).take 2)=(x,false):=by
 have e:behind f L=behind f (L.take i)++behind f (L.drop i):=by rw [behind,behind,behind,← List.filter_append,List.take_append_drop]
 rw [e,List.take_append,List.take_of_length_le h2,stepN_app,h]
 rfl
theorem walks_or {p:Int} (h:walks p=true):p=2∨p=3∨p=4∨p=6:=by
 simp only [walks,Bool.or_eq_true,beq_iff_eq] at h
 omega
theorem leq_not (f k:ByteArray):(Op.bytesLess k.toList f.toList||k.toList==f.toList) = !isBehind f k:=by rw [isBehind,Bool.not_not]
theorem any_take {L:List RowV} {a:ByteArray} {j:Nat} (h:j < L.length):((L.take (j + 1)).any fun r=>isBehind a r.Key)=(((L.take j).any fun r=>isBehind a r.Key)||isBehind a L[j].Key):=by
 rw [List.take_succ_eq_append_getElem h,List.any_append]
 simp only [List.any_cons,List.any_nil,Bool.or_false]
abbrev C_s_NodeStep (Te:TE):Prop:=∀ (n:NodeV) (f:ByteArray) (hn:n.In (2 ^ 20)),Te 40 [.agg (n.enc false),.one (sT f)] ⟨[.agg ((n.step f).1.enc true),.one (sT (n.step f).2.1),.one (iT (n.step f).2.2.1),.one (bT (n.step f).2.2.2)],[n.enc false,[sT f]]⟩
theorem del_in {n:NodeV} {who seq:Int} {key:ByteArray} (hn:n.In (2 ^ 20)):(n.del who seq key).1.In (2 ^ 20):=by
 unfold NodeV.del
 cases (n.old who seq).2
 ·exact add_in2 _ hn
 ·exact hn
theorem put_node_in {n:NodeV} {who seq:Int} {key s:ByteArray} (hn:n.In (2 ^ 20)):(n.putIn who seq key s).1.In (2 ^ 20):=by
 unfold NodeV.putIn
 cases (n.old who seq).2
 ·exact add_in2 _ hn
 ·exact hn
theorem beq_no {a b:Int} (h:a≠b):(a==b)=false:=by simpa using h
theorem beq_yes {a b:Int} (h:a=b):(a==b)=true:=by simpa using h
theorem insM_mem (m:MarkV) (s:List MarkV×Bool) (x y:MarkV) (h:y∈(insM m s x).1):y∈s.1∨y=m∨y=x:=by
 simp only [insM] at h
 split at h <;> split at h <;> (try simp only [List.mem_append,List.mem_cons,List.not_mem_nil,or_false] at h)
 ·rcases h with (h | h) | h
  ·exact .inl h
  ·exact .inr (.inl h)
  ·exact .inr (.inr h)
 ·rcases h with h | h
  ·exact .inl h
  ·exact .inr (.inr h)
 ·rcases h with h | h
  ·exact .inl h
  ·exact .inr (.inl h)
 ·exact .inl h
theorem insM_all (m:MarkV) (l:List MarkV):∀ s y,y∈(l.foldl (insM m) s).1→y∈s.1∨y=m∨y∈l:=by
 induction l with
 | nil=>intro s y h; exact .inl h
 | cons x l ih =>
  intro s y h
  rcases ih _ y h with h | h | h
  ·rcases insM_mem m s x y h with h | h | h
   ·exact .inl h
   ·exact .inr (.inl h)
   ·exact .inr (.inr (by rw [h]; exact List.mem_cons_self ..))
  ·exact .inr (.inl h)
  ·exact .inr (.inr (List.mem_cons_of_mem _ h))
theorem insMark_mem {l:List MarkV} {m y:MarkV} (h:y∈insMark l m):y=m∨y∈l:=by
 simp only [insMark] at h
 split at h
 ·rcases insM_all m l _ y h with h | h | h
  ·cases h
  ·exact .inl h
  ·exact .inr h
 ·rcases List.mem_append.1 h with h | h
  ·rcases insM_all m l _ y h with h | h | h
   ·cases h
   ·exact .inl h
   ·exact .inr h
  ·simp only [List.mem_cons,List.not_mem_nil,or_false] at h
   exact .inl h
theorem put_marks (t:TabV) (r:RecV):(t.put r).Marks=t.Marks:=by
 unfold TabV.put
 cases r.Kind==1
 ·cases r.Kind==2
  ·cases r.Kind==3 <;> rfl
  ·rfl
 ·rfl
theorem apply_no {t:TabV} {r:RecV} (h:(t.apply r).2=false):(t.apply r).1=t:=by
 unfold TabV.apply at h ⊢
 cases g:r.ok&&t.ok&&(t.change r).ok
 ·rfl
 ·rw [g] at h; cases h
theorem apply_yes {t:TabV} {r:RecV} (h:(t.apply r).2=true):(t.apply r).1=t.change r:=by
 unfold TabV.apply at h ⊢
 cases g:r.ok&&t.ok&&(t.change r).ok
 ·rw [g] at h; cases h
 ·rfl
theorem apply_marks {t:TabV} {r:RecV} {N:Int} (h:∀ m∈t.Marks,m.Seq≤N) (hr:r.Who≤0∨r.Seq≤N):∀ m∈(t.apply r).1.Marks,m.Seq≤N:=by
 cases g:(t.apply r).2
 ·rw [apply_no g]; exact h
 ·rw [apply_yes g,TabV.change]
  cases g2:decide (r.Who > 0)
  ·intro m hm
   rw [cond_false,put_marks] at hm
   exact h m hm
  ·intro m hm
   rw [cond_true] at hm
   rcases insMark_mem hm with e | e
   ·subst e
    rcases hr with hr | hr
    ·simp only [decide_eq_true_eq] at g2; omega
    ·exact hr
   ·rw [put_marks] at e
    exact h m e
theorem room_calm {s:StoreV} (hk:s.ok=true) (hd:s.D.Down=false) (hf:s.D.Fuse = -1) (hg:s.Place=30→s.Gen < 60000):s.room.D.Down=false∧s.room.D.Fuse = -1∧s.room.Gen≤s.Gen + 1∧(s.room.Place==30)=false∧s.room.T=s.T:=by
 unfold StoreV.room
 cases g:(s.Place==30)
 ·exact ⟨hd,hf,by show s.Gen≤s.Gen + 1; omega,g,rfl⟩
 ·have e:s.relay=s.lay (s.Gen + 1):=by
   have g3:(s.Gen==60000)=false:=beq_no (by have:=hg (by simpa using g); omega)
   rw [StoreV.relay,hk,hd,g3]; rfl
  have hl:=layDev_fuse (d:=s.D) (by omega) hd (s.Gen + 1) (recsOf s.T)
  have h18:=recs_18 ((StoreV.ok_iff s).1 hk).2.2.2.1
  rw [cond_true,e,lay_up hl.2]
  exact ⟨hl.2,hl.1.trans hf,Int.le_refl _,beq_no (by show ((recsOf s.T).length:Int)≠30; omega),rfl⟩
theorem add_calm {s:StoreV} (r:RecV) (hk:s.ok=true) (hd:s.D.Down=false) (hf:s.D.Fuse = -1) (hg:s.Place=30→s.Gen < 60000) :
  (s.add r).1.D.Down=false∧(s.add r).1.D.Fuse = -1∧(s.add r).1.Gen≤s.Gen + 1∧(s.add r).1.T=(s.T.apply r).1∧(s.add r).2=(s.T.apply r).2:=by
 have ef:s.fits r=(s.T.apply r).2:=by rw [StoreV.fits,hk,hd]; rfl
 unfold StoreV.add
 rw [ef]
 cases g:(s.T.apply r).2
 ·exact ⟨hd,hf,by show s.Gen≤s.Gen + 1; omega,(apply_no g).symm,rfl⟩
 ·obtain ⟨a1,a2,a3,a4,a5⟩:=room_calm hk hd hf hg
  obtain ⟨b1,b2⟩:=write_fuse (d:=s.room.D) (by omega) a1 (secOf s.room.Gen s.room.Place) (putRec s.room.Gen s.room.Place r)
  obtain ⟨c1,c2⟩:=flush_fuse (d:=s.room.D.write (secOf s.room.Gen s.room.Place) (putRec s.room.Gen s.room.Place r)) (by omega) b2
  have el:(s.room.log r).Down=false:=c2
  have e:s.room.end (s.T.apply r).1 r=(⟨s.room.log r,(s.T.apply r).1,s.room.Gen,s.room.Place + 1⟩,true):=by
   rw [StoreV.end,a1,a4,el]; rfl
  rw [cond_true,e]
  exact ⟨el,(c1.trans b1).trans a2,a3,rfl,rfl⟩
def NodeV.calm (g N:Int) (n:NodeV):Prop:=n.up=true∧n.S.D.Fuse = -1∧n.S.Gen≤g∧∀ m∈n.S.T.Marks,m.Seq≤N
theorem NodeV.calm.mono {g h N:Int} {n:NodeV} (q:n.calm g N) (hg:g≤h):n.calm h N:=⟨q.1,q.2.1,Int.le_trans q.2.2.1 hg,q.2.2.2⟩
theorem up_in {n:NodeV} (h:n.up=true):n.In (2 ^ 20):=StoreV.ok_in (up_ok h).1
theorem added_calm {n:NodeV} {g N:Int} (r:RecV) (h:n.calm g N) (hg:g < 60000) (hr:r.Who≤0∨r.Seq≤N):(n.added r).calm (g + 1) N∧(n.S.add r).2=(n.S.T.apply r).2∧(n.added r).S.T=(n.S.T.apply r).1:=by
 obtain ⟨h1,h2,h3,h4⟩:=h
 obtain ⟨k1,k2,k3⟩:=up_ok h1
 obtain ⟨a1,a2,a3,a4,a5⟩:=add_calm r k1 k2 h2 (fun _=>by omega)
 have ho:=(add_ok r k1).1
 refine ⟨⟨?_,a2,by show (n.S.add r).1.Gen≤_; omega,?_⟩,a5,a4⟩
 ·show (NodeV.mk (n.S.add r).1 n.Cs).up=true
  rw [NodeV.up,NodeV.ok,ho,k3,a1]; rfl
 ·show ∀ m∈(n.S.add r).1.T.Marks,m.Seq≤N
  rw [a4]
  exact apply_marks h4 hr
theorem phase_calm {n:NodeV} {g N:Int} (p:Int) (h:n.calm g N) (hg:g < 60000):(n.phase p).1.calm (g + 1) N:=by
 rw [NodeV.phase,h.1,cond_true]
 show (n.phase1 p).calm (g + 1) N
 unfold NodeV.phase1
 cases nextOk n.S.T.Phase p
 ·exact h.mono (by omega)
 ·exact (added_calm (recPh p) h hg (.inl (Int.le_refl 0))).1
theorem told_seq (r:RecV):r.told.Seq=r.Seq:=by
 unfold RecV.told
 cases r.Code != 0 <;> rfl
theorem del_calm {n:NodeV} {g N who seq:Int} (key:ByteArray) (h:n.calm g N) (hg:g < 60000) (hs:seq≤N):(n.del who seq key).1.calm (g + 1) N:=by
 unfold NodeV.del
 cases (n.old who seq).2
 ·exact (added_calm _ h hg (.inr (by rw [told_seq]; exact hs))).1
 ·exact h.mono (by omega)
theorem put_calm {n:NodeV} {g N who seq:Int} (key s:ByteArray) (h:n.calm g N) (hg:g < 60000) (hs:seq≤N):(n.putIn who seq key s).1.calm (g + 1) N:=by
 unfold NodeV.putIn
 cases (n.old who seq).2
 ·exact (added_calm _ h hg (.inr (by rw [told_seq]; exact hs))).1
 ·exact h.mono (by omega)
theorem load_calm {n:NodeV} {g N:Int} (key:ByteArray) (b:List UInt8) (h:n.calm g N) (hg:g < 60000):(n.load key b).1.calm (g + 1) N:=by
 unfold NodeV.load
 cases n.up&&nameOk key&&decide ((b.length:Int)≤20)
 ·exact h.mono (by omega)
 ·cases n.S.T.Phase==0
  ·exact h.mono (by omega)
  ·exact (added_calm _ h hg (.inl (Int.le_refl 0))).1
theorem stepN_calm {p g N:Int}:∀ (l:List RowV) (n:NodeV) (k:Int),n.calm k N→k + l.length < 60000→(stepN p n l).1.calm (k + l.length) N
 | [],n,k,h,_=>h.mono (by simp)
 | r::l,n,k,h,hg=>by
  simp only [List.length_cons] at hg ⊢
  simp only [stepN]
  cases rowSame (turned p r) r
  ·have ha:=(added_calm (recRow (turned p r)) h (by omega) (.inl (Int.le_refl 0))).1
   cases (n.S.add (recRow (turned p r))).2
   ·exact ha.mono (by omega)
   ·exact (stepN_calm (g:=g) l _ (k + 1) ha (by omega)).mono (by omega)
  ·exact (stepN_calm (g:=g) l _ k h (by omega)).mono (by omega)
theorem step_calm {n:NodeV} {g N:Int} (f:ByteArray) (h:n.calm g N) (hg:g + 2 < 60000):(n.step f).1.calm (g + 2) N:=by
 have hl:((behind f n.S.T.Rows).take 2).length≤2:=by rw [List.length_take]; omega
 have hs:=stepN_calm (p:=n.S.T.Phase) (g:=g) ((behind f n.S.T.Rows).take 2) n g h (by omega)
 unfold NodeV.step
 cases n.up&&walks n.S.T.Phase
 ·exact h.mono (by omega)
 ·cases (stepN n.S.T.Phase n ((behind f n.S.T.Rows).take 2)).2 <;> exact hs.mono (by omega)
theorem fmt_ok:fmt.ok=true∧fmt.D.Down=false∧fmt.D.Fuse = -1:=by
 have hf:=layDev_fuse (d:=devNew 62) (by rw [devNew_62]; decide) (by rw [devNew_62]) 1 [recPhase 0]
 rw [fmt_eq]
 refine ⟨(StoreV.ok_iff _).2 ⟨layDev_ok devNew_ok 1 [recPhase 0],?_,.inl ?_,rfl,by decide,by decide⟩,hf.2,hf.1.trans (by rw [devNew_62])⟩
 ·show (layDev 1 [recPhase 0] (devNew 62)).Secs.length=62
  rw [layDev_secs,devNew_62]
  simp
 ·exact flush_empty hf.2
theorem new_calm {cs:Int} (h:1≤cs∧cs≤5) (N:Int):(nodeNew cs).calm 1 N:=by
 have hw:win cs 1 5=true:=by simp only [win,Bool.and_eq_true,decide_eq_true_eq]; exact h
 obtain ⟨h1,h2,h3⟩:=fmt_ok
 rw [nodeNew,hw,cond_true]
 refine ⟨?_,h3,?_,?_⟩
 ·rw [NodeV.up,NodeV.ok,h1,h2,hw]; rfl
 ·show fmt.Gen≤1
  rw [fmt_eq]
  exact Int.le_refl _
 ·show ∀ m∈fmt.T.Marks,_
  rw [fmt_eq]
  intro m hm
  cases hm
abbrev C_s_l3Cs (Te:TE):Prop:=∀ (c:CurV) (hc:c.ok),∃ (r:Int) (d:CurV),((1≤r∧r≤5)∧d.ok)∧Te 168 [.ptr c.enc] ⟨[.one (iT r)],[d.enc]⟩
theorem one_byte (b:List UInt8) (x:Int):List.map uR b++[[Tr.pv (Value.int IntKind.u8 (IntKind.u8.wrap x))]]=List.map uR (b++[mkU x]):=by
 have e:IntKind.u8.wrap x=((mkU x).toNat:Int):=mkU_wrap x
 rw [List.map_append,e]
 rfl
abbrev C_s_l5Bytes (Te:TE):Prop:=∀ (c:CurV) (cs:Int) (hc:c.ok),∃ (b:List UInt8) (d:CurV),(b.length≤81∧d.ok)∧Te 97 [.ptr c.enc,.one (iT cs)] ⟨[.one (slT true 1 uR b)],[d.enc,[iT cs]]⟩
abbrev C_s_l15Do (Te:TE):Prop:=∀ (c:CurV) (n:NodeV) (g:Int) (hc:c.ok) (hn:n.calm g 30) (hg:g + 2 < 60000),∃ (m:NodeV) (d:CurV),(m.calm (g + 2) 30∧d.ok)∧Te 169 [.ptr c.enc,.ptr (n.enc true)] ⟨[],[d.enc,m.enc true]⟩
abbrev C_s_l15Draw (Te:TE):Prop:=∀ (c:CurV) (most:Int) (hc:c.ok) (hm:0≤most∧most≤16),∃ (n:NodeV) (d:CurV),(n.calm 40 30∧d.ok)∧Te 81 [.ptr c.enc,.one (iT most)] ⟨[.agg (n.enc true)],[d.enc,[iT most]]⟩
abbrev C_s_DrawNode (Te:TE):Prop:=∀ (l:List UInt8) (hl:l.length≤2 ^ 31),∃ (n:NodeV),(n.calm 40 30)∧Te 19 [.one (slT false 1 uR l)] ⟨[.agg (n.enc true)],[[slT false 1 uR l]]⟩
theorem mark_eqs (x:MarkV):eqL [0,0,0] [.pv (.int .i64 x.Who),.pv (.int .i64 x.Seq),.pv (.int .i64 x.Code)] [.pv (.int .i64 x.Who),.pv (.int .i64 x.Seq),.pv (.int .i64 x.Code)]=some true:=by
 simp only [eqL,eqV,bytes_beq,beq_self_eq_true,cond_true,Option.bind_some,Option.map_some,decide_true,Bool.and_self]
theorem act_eqs (x:ActV):eqL [0,0,0,2,2,0] [.pv (.int .i64 x.Kind),.pv (.int .i64 x.Who),.pv (.int .i64 x.Seq),.pv (.string x.Key),.pv (.string x.Text),.pv (.int .i64 x.Code)] [.pv (.int .i64 x.Kind),.pv (.int .i64 x.Who),.pv (.int .i64 x.Seq),.pv (.string x.Key),.pv (.string x.Text),.pv (.int .i64 x.Code)]=some true:=by
 simp only [eqL,eqV,bytes_beq,beq_self_eq_true,cond_true,Option.bind_some,Option.map_some,decide_true,Bool.and_self]
abbrev C_l_sameCell (Te:TE):Prop:=∀ (a:CellV),Te 302 [.agg (a.enc false),.agg (a.enc false)] ⟨[.one (bT true)],[a.enc false,a.enc false]⟩
abbrev C_l_sameRow (Te:TE):Prop:=∀ (a:RowV),Te 250 [.agg (a.enc false),.agg (a.enc false)] ⟨[.one (bT true)],[a.enc false,a.enc false]⟩
abbrev C_l_sameDev (Te:TE):Prop:=∀ (d:DevV) (h:d.Len),Te 165 [.agg (d.enc false),.agg (d.enc false)] ⟨[.one (bT true)],[d.enc false,d.enc false]⟩
abbrev C_l_sameTab (Te:TE):Prop:=∀ (t:TabV) (h:t.Len),Te 166 [.agg (t.enc false),.agg (t.enc false)] ⟨[.one (bT true)],[t.enc false,t.enc false]⟩
abbrev C_l_sameStore (Te:TE):Prop:=∀ (s:StoreV) (h:s.Len),Te 71 [.agg (s.enc false),.agg (s.enc false)] ⟨[.one (bT true)],[s.enc false,s.enc false]⟩
abbrev C_l_sameNode (Te:TE):Prop:=∀ (n:NodeV) (h:n.Len),Te 14 [.agg (n.enc false),.agg (n.enc false)] ⟨[.one (bT true)],[n.enc false,n.enc false]⟩
structure DoneV where
 Seq:Int
 Kind:Int
 Key:ByteArray
 Text:ByteArray
 Code:Int
 deriving DecidableEq
abbrev DoneV.row (x:DoneV):List Go.X.T:=[iT x.Seq,iT x.Kind,sT x.Key,sT x.Text,iT x.Code]
def DoneV.In (n:Nat) (x:DoneV):Prop:=x.Key.size≤n∧x.Text.size≤n
theorem DoneV.In.mono {x:DoneV} {n m:Nat} (h:x.In n) (hn:n≤m):x.In m:=by
 simp only [DoneV.In] at h ⊢
 exact ⟨Nat.le_trans h.1 hn,Nat.le_trans h.2 hn⟩
def szDone (x:DoneV) (k:Int):Int:=szAll [(fun k=>k - (x.Key.size:Nat)),(fun k=>k - (x.Text.size:Nat))] k
theorem szDone_sane (x:DoneV):Sane (szDone x):=Sane.all (.cons (Sane.sub _) (.cons (Sane.sub _) .nil))
theorem szDone_in {x:DoneV} {k:Int} {n:Nat} (hk:0≤k) (hn:k≤n) (h:0≤szDone x k):x.In n:=by
 obtain ⟨⟨j0,a0,b0,c0⟩,⟨j1,a1,b1,c1⟩,_⟩:=szAll_ex (.cons (Sane.sub _) (.cons (Sane.sub _) .nil)) hk hn h
 exact ⟨(by have q:(0:Int)≤j0 - _:=c0; omega),(by have q:(0:Int)≤j1 - _:=c1; omega)⟩
def mkDone (k:Int):DoneV:=⟨k,k + 1,mkS (k + 1 + 1),mkS (k + 1 + 1 + 1),k + 1 + 1 + 1 + 1⟩
structure ClientV where
 Id:Int
 Seq:Int
 Busy:Bool
 M:Msg
 Dones:List DoneV
 deriving DecidableEq
abbrev ClientV.enc (o:Bool) (x:ClientV):List Go.X.T:=[iT x.Id,iT x.Seq,bT x.Busy,iT x.M.Kind,iT x.M.From,iT x.M.To,iT x.M.Seq,sT x.M.Key,sT x.M.Text,iT x.M.N,iT x.M.Code,slT o 5 DoneV.row x.Dones]
def ClientV.In (n:Nat) (x:ClientV):Prop:=x.M.In (n)∧(x.Dones.length≤n∧∀ y∈x.Dones,y.In (n))
theorem ClientV.In.mono {x:ClientV} {n m:Nat} (h:x.In n) (hn:n≤m):x.In m:=by
 simp only [ClientV.In] at h ⊢
 exact ⟨h.1.mono hn,⟨Nat.le_trans h.2.1 hn,fun y hy=>(h.2.2 y hy).mono hn⟩⟩
def szClient (x:ClientV) (k:Int):Int:=szAll [(szMsg x.M),(szSl szDone x.Dones)] k
theorem szClient_sane (x:ClientV):Sane (szClient x):=Sane.all (.cons (szMsg_sane _) (.cons (Sane.sl szDone_sane _) .nil))
theorem szClient_in {x:ClientV} {k:Int} {n:Nat} (hk:0≤k) (hn:k≤n) (h:0≤szClient x k):x.In n:=by
 obtain ⟨⟨j0,a0,b0,c0⟩,⟨j1,a1,b1,c1⟩,_⟩:=szAll_ex (.cons (szMsg_sane _) (.cons (Sane.sl szDone_sane _) .nil)) hk hn h
 exact ⟨(szMsg_in a0 b0 c0),(szSl_in szDone_sane (fun a j h0 hn h=>szDone_in h0 hn h) a1 b1 c1)⟩
def ClientV.Len (x:ClientV):Prop:=x.Dones.length≤2 ^ 31
theorem ClientV.In.len {x:ClientV} {n:Nat} (h:x.In n) (hn:n≤2 ^ 31):x.Len:=by
 obtain ⟨h0,h1⟩:=h
 exact Nat.le_trans h1.1 hn
def ClientV.mark (x:ClientV) (k:Int):ClientV:=⟨x.Id,x.Seq,x.Busy,x.M,marks 5 mkDone x.Dones.length (k)⟩
def ClientV.far (x:ClientV) (k:Int):Int:=k + (5 * x.Dones.length:Nat)
theorem ClientV.mark_Dones (x:ClientV) (k:Int):(x.mark k).Dones.length=x.Dones.length:=by simp [ClientV.mark,marks_length,markL_length]
theorem ClientV.take_Dones {β:Type} (f:DoneV→β) (x:ClientV) (k:Int):((x.mark k).Dones.map f).take x.Dones.length=(x.mark k).Dones.map f:=by rw [← x.mark_Dones k,take_map]
theorem toList_eq {a b:ByteArray}:a.toList=b.toList↔a=b:=by
 have h:=bytes_beq a b
 constructor
 ·intro q
  rw [q,beq_self_eq_true] at h
  exact of_decide_eq_true h.symm
 ·intro q
  rw [q]
theorem behind_ne {a b:ByteArray} (h:isBehind a b=true):a≠b:=by
 intro e
 rw [e,behind_irrefl] at h
 cases h
theorem behind_asym {a b:ByteArray} (h:isBehind a b=true):isBehind b a=false:=by
 cases g:isBehind b a
 ·rfl
 ·have:=behind_trans h g
  rw [behind_irrefl] at this
  cases this
theorem behind_tri (a b:ByteArray):isBehind a b=true∨a=b∨isBehind b a=true:=by
 rw [isBehind_iff,isBehind_iff]
 rcases less_tri a.toList b.toList with h | h | h
 ·exact .inl h
 ·exact .inr (.inl (toList_eq.1 h))
 ·exact .inr (.inr h)
theorem less_behind (a b:ByteArray):Op.bytesLess a.toList b.toList=isBehind a b:=by
 rw [Bool.eq_iff_iff,isBehind_iff]
theorem insR_put (r:RowV):∀ (l acc:List RowV),l.foldl (insR r) (acc,true)=(acc++l.filter (fun x=>!decide (x.Key=r.Key)),true)
 | [],acc=>by simp
 | x::l,acc=>by
  have e:insR r (acc,true) x=(if decide (x.Key=r.Key)=true then acc else acc++[x],true):=by simp [insR]
  rw [List.foldl_cons,e,insR_put r l,List.filter_cons]
  by_cases q:x.Key=r.Key <;> simp [q]
theorem insR_eq (r:RowV):∀ (l acc:List RowV),(l.Pairwise fun x y=>isBehind x.Key y.Key=true)→
  (if (l.foldl (insR r) (acc,false)).2=true then (l.foldl (insR r) (acc,false)).1 else (l.foldl (insR r) (acc,false)).1++[r])=acc++(l.filter (fun x=>isBehind x.Key r.Key)++r::l.filter (fun x=>isBehind r.Key x.Key))
 | [],acc,_=>by simp
 | x::l,acc,h=>by
  rw [List.pairwise_cons] at h
  rw [List.foldl_cons]
  cases g:isBehind x.Key r.Key
  ·have hl:∀ y∈l,isBehind r.Key y.Key=true:=fun y hy=>by
    rcases behind_tri r.Key x.Key with q | q | q
    ·exact behind_trans q (h.1 y hy)
    ·rw [q]; exact h.1 y hy
    ·rw [q] at g; cases g
   have f1:l.filter (fun y=>!decide (y.Key=r.Key))=l:=List.filter_eq_self.2 fun y hy=>by
    have:=(behind_ne (hl y hy)).symm
    simp [this]
   have f2:l.filter (fun y=>isBehind y.Key r.Key)=[]:=List.filter_eq_nil_iff.2 fun y hy=>by
    rw [behind_asym (hl y hy)]
    decide
   have f3:l.filter (fun y=>isBehind r.Key y.Key)=l:=List.filter_eq_self.2 hl
   by_cases q:x.Key=r.Key
   ·have q2:isBehind r.Key x.Key=false:=by rw [q,behind_irrefl]
    have e:insR r (acc,false) x=(acc++[r],true):=by
     simp only [insR,less_behind,g,decide_eq_true q]
     simp
    rw [e,insR_put,if_pos rfl,f1]
    simp only [List.filter_cons,g,q2,f2,f3]
    simp
   ·have q2:isBehind r.Key x.Key=true:=by
     rcases behind_tri r.Key x.Key with p | p | p
     ·exact p
     ·exact absurd p.symm q
     ·rw [p] at g; cases g
    have e:insR r (acc,false) x=(acc++[r]++[x],true):=by
     simp only [insR,less_behind,g,decide_eq_false q]
     simp
    rw [e,insR_put,if_pos rfl,f1]
    simp only [List.filter_cons,g,q2,f2,f3]
    simp
  ·have hne:=behind_ne g
   have e:insR r (acc,false) x=(acc++[x],false):=by
    simp [insR,less_behind,g,hne]
   have f:=behind_asym g
   rw [e,insR_eq r l _ h.2,List.filter_cons,if_pos g,List.filter_cons,f,if_neg (by decide)]
   simp
theorem insRow_eq {l:List RowV} {r:RowV} (h:l.Pairwise fun x y=>isBehind x.Key y.Key=true):insRow l r=l.filter (fun x=>isBehind x.Key r.Key)++r::l.filter (fun x=>isBehind r.Key x.Key):=insR_eq r l [] h
theorem insRow_sorted {l:List RowV} {r:RowV} (h:l.Pairwise fun x y=>isBehind x.Key y.Key=true):(insRow l r).Pairwise fun x y=>isBehind x.Key y.Key=true:=by
 rw [insRow_eq h,List.pairwise_append,List.pairwise_cons]
 refine ⟨h.filter _,⟨fun y hy=>(List.mem_filter.1 hy).2,h.filter _⟩,fun x hx y hy=>?_⟩
 have hx:=(List.mem_filter.1 hx).2
 rcases List.mem_cons.1 hy with e | hy
 ·rw [e]; exact hx
 ·exact behind_trans hx (List.mem_filter.1 hy).2
theorem find_ins {l:List RowV} {r:RowV} (h:l.Pairwise fun x y=>isBehind x.Key y.Key=true) (k:ByteArray):(insRow l r).find? (fun x=>decide (x.Key=k))=if k=r.Key then some r else l.find? (fun x=>decide (x.Key=k)):=by
 rw [insRow_eq h,List.find?_append,List.find?_cons]
 have a1:∀ x:RowV,x.Key=k→isBehind x.Key r.Key=isBehind k r.Key:=fun x hx=>by rw [hx]
 by_cases e:k=r.Key
 ·have f1:(l.filter (fun x=>isBehind x.Key r.Key)).find? (fun x=>decide (x.Key=k))=none:=by
   rw [List.find?_eq_none]
   intro x hx
   have:=behind_ne (List.mem_filter.1 hx).2
   rw [e]
   simpa using this
  rw [f1,if_pos e,e]
  simp
 ·have hr:decide (r.Key=k)=false:=decide_eq_false fun q=>e q.symm
  rw [if_neg e,hr]
  simp only []
  rw [List.find?_filter,List.find?_filter]
  rcases behind_tri k r.Key with q | q | q
  ·have e1:(fun x:RowV=>decide (isBehind x.Key r.Key=true∧decide (x.Key=k)=true))=fun x=>decide (x.Key=k):=by
    funext x
    by_cases p:x.Key=k
    ·rw [p,q]; simp
    ·simp [p]
   have e2:(fun x:RowV=>decide (isBehind r.Key x.Key=true∧decide (x.Key=k)=true))=fun x=>false:=by
    funext x
    by_cases p:x.Key=k
    ·rw [p,behind_asym q]; simp
    ·simp [p]
   have n2:l.find? (fun _=>false)=none:=by rw [List.find?_eq_none]; intro x _; decide
   rw [e1,e2,n2]
   cases l.find? (fun x=>decide (x.Key=k)) <;> rfl
  ·exact absurd q e
  ·have e1:(fun x:RowV=>decide (isBehind x.Key r.Key=true∧decide (x.Key=k)=true))=fun x=>false:=by
    funext x
    by_cases p:x.Key=k
    ·rw [p,behind_asym q]; simp
    ·simp [p]
   have e2:(fun x:RowV=>decide (isBehind r.Key x.Key=true∧decide (x.Key=k)=true))=fun x=>decide (x.Key=k):=by
    funext x
    by_cases p:x.Key=k
    ·rw [p,q]; simp
    ·simp [p]
   have n2:l.find? (fun _=>false)=none:=by rw [List.find?_eq_none]; intro x _; decide
   rw [e1,e2,n2]
   cases l.find? (fun x=>decide (x.Key=k)) <;> rfl
theorem insM_put (m:MarkV):∀ (l acc:List MarkV),l.foldl (insM m) (acc,true)=(acc++l.filter (fun x=>decide (x.Who≠m.Who)),true)
 | [],acc=>by simp
 | x::l,acc=>by
  have e:insM m (acc,true) x=(if decide (x.Who≠m.Who)=true then acc++[x] else acc,true):=by simp [insM]
  rw [List.foldl_cons,e,insM_put m l,List.filter_cons]
  by_cases q:x.Who=m.Who <;> simp [q]
theorem insM_eq (m:MarkV):∀ (l acc:List MarkV),(l.Pairwise fun x y=>x.Who < y.Who)→
  (if (l.foldl (insM m) (acc,false)).2=true then (l.foldl (insM m) (acc,false)).1 else (l.foldl (insM m) (acc,false)).1++[m])=acc++(l.filter (fun x=>decide (x.Who < m.Who))++m::l.filter (fun x=>decide (m.Who < x.Who)))
 | [],acc,_=>by simp
 | x::l,acc,h=>by
  rw [List.pairwise_cons] at h
  rw [List.foldl_cons]
  by_cases g:x.Who < m.Who
  ·have e:insM m (acc,false) x=(acc++[x],false):=by
    have g1:¬ x.Who≥m.Who:=by omega
    have g2:x.Who≠m.Who:=by omega
    simp [insM,g1,g2]
   rw [e,insM_eq m l _ h.2,List.filter_cons,if_pos (decide_eq_true g),List.filter_cons,if_neg (by simp only [decide_eq_true_eq]; omega)]
   simp
  ·have hl:∀ y∈l,m.Who < y.Who:=fun y hy=>by have:=h.1 y hy; omega
   have g1:x.Who≥m.Who:=by omega
   have f1:l.filter (fun y=>decide (y.Who≠m.Who))=l:=List.filter_eq_self.2 fun y hy=>by
    have:=hl y hy
    simp only [decide_eq_true_eq]; omega
   have f2:l.filter (fun y=>decide (y.Who < m.Who))=[]:=List.filter_eq_nil_iff.2 fun y hy=>by
    have:=hl y hy
    simp only [decide_eq_true_eq]; omega
   have f3:l.filter (fun y=>decide (m.Who < y.Who))=l:=List.filter_eq_self.2 fun y hy=>decide_eq_true (hl y hy)
   by_cases q:x.Who=m.Who
   ·have e:insM m (acc,false) x=(acc++[m],true):=by simp [insM,q]
    have q1:¬ m.Who < x.Who:=by omega
    rw [e,insM_put,if_pos rfl,f1]
    simp only [List.filter_cons,decide_eq_false g,decide_eq_false q1,f2,f3]
    simp
   ·have e:insM m (acc,false) x=(acc++[m]++[x],true):=by simp [insM,g1,q]
    have q1:m.Who < x.Who:=by omega
    rw [e,insM_put,if_pos rfl,f1]
    simp only [List.filter_cons,decide_eq_false g,decide_eq_true q1,f2,f3]
    simp
theorem insMark_eq {l:List MarkV} {m:MarkV} (h:l.Pairwise fun x y=>x.Who < y.Who):insMark l m=l.filter (fun x=>decide (x.Who < m.Who))++m::l.filter (fun x=>decide (m.Who < x.Who)):=insM_eq m l [] h
theorem insMark_sorted {l:List MarkV} {m:MarkV} (h:l.Pairwise fun x y=>x.Who < y.Who):(insMark l m).Pairwise fun x y=>x.Who < y.Who:=by
 rw [insMark_eq h,List.pairwise_append,List.pairwise_cons]
 refine ⟨h.filter _,⟨fun y hy=>of_decide_eq_true (List.mem_filter.1 hy).2,h.filter _⟩,fun x hx y hy=>?_⟩
 have hx:=of_decide_eq_true (List.mem_filter.1 hx).2
 rcases List.mem_cons.1 hy with e | hy
 ·rw [e]; exact hx
 ·exact Int.lt_trans hx (of_decide_eq_true (List.mem_filter.1 hy).2)
theorem markAt_ins {l:List MarkV} {m:MarkV} (h:l.Pairwise fun x y=>x.Who < y.Who):markAt (insMark l m) m.Who=some m:=by
 rw [insMark_eq h,markAt,List.find?_append,List.find?_cons]
 have f1:(l.filter (fun x=>decide (x.Who < m.Who))).find? (fun x=>x.Who==m.Who)=none:=by
  rw [List.find?_eq_none]
  intro x hx
  have:=of_decide_eq_true (List.mem_filter.1 hx).2
  rw [beq_no (by omega)]
  decide
 rw [f1,beq_self_eq_true]
 rfl
theorem marks_parts {t:TabV} (h:t.ok=true):(∀ m∈t.Marks,m.ok=true)∧t.Marks.Pairwise fun x y=>x.Who < y.Who:=by
 simp only [TabV.ok,Bool.and_eq_true,List.all_eq_true] at h
 have hm:=h.1.2
 have hok:∀ i (hi:i < t.Marks.length),t.Marks[i].ok=true:=fun i hi=>by
  have:=hm i (List.mem_range.2 hi)
  simp only [markGood,List.getElem?_eq_getElem hi,Option.map_some,Option.getD_some,Bool.and_eq_true] at this
  exact this.1
 refine ⟨fun m hm=>?_,?_⟩
 ·obtain ⟨i,hi,e⟩:=List.getElem_of_mem hm
  rw [← e]
  exact hok i hi
 ·have step:∀ j (hj:j + 1 < t.Marks.length),(t.Marks[j]'(by omega)).Who < t.Marks[j + 1].Who:=fun j hj=>by
   have:=hm (j + 1) (List.mem_range.2 hj)
   rw [markGood_succ hj] at this
   simp only [Bool.and_eq_true,Bool.not_eq_true',decide_eq_false_iff_not] at this
   omega
  have key:∀ (d i:Nat) (hd:i + d + 1 < t.Marks.length),(t.Marks[i]'(by omega)).Who < (t.Marks[i + d + 1]'hd).Who:=by
   intro d
   induction d with
   | zero=>intro i hd; exact step i hd
   | succ d ih=>intro i hd; exact Int.lt_trans (ih i (by omega)) (step (i + d + 1) hd)
  rw [List.pairwise_iff_getElem]
  intro i j hi hj hij
  have:=key (j - i - 1) i (by omega)
  have e:i + (j - i - 1) + 1=j:=by omega
  simp only [e] at this
  exact this
theorem TabV.ok_rows {t:TabV} (h:t.ok=true):∀ r∈t.Rows,r.ok=true:=fun r hr=>by
 obtain ⟨i,hi,e⟩:=List.getElem_of_mem hr
 rw [← e]
 exact TabV.ok_at h hi
theorem TabV.ok_len {t:TabV} (h:t.ok=true):t.Rows.length≤8∧win t.Phase 0 7=true:=by
 simp only [TabV.ok,Bool.and_eq_true,decide_eq_true_eq] at h
 exact ⟨by omega,h.2.2⟩
theorem TabV.ok_mk {t:TabV} (h1:∀ r∈t.Rows,r.ok=true) (h2:t.Rows.Pairwise fun x y=>isBehind x.Key y.Key=true) (h3:∀ m∈t.Marks,m.ok=true) (h4:t.Marks.Pairwise fun x y=>x.Who < y.Who) (h5:t.Rows.length≤8) (h6:win t.Phase 0 7=true):t.ok=true:=by
 rw [List.pairwise_iff_getElem] at h2 h4
 simp only [TabV.ok,Bool.and_eq_true,List.all_eq_true,decide_eq_true_eq]
 refine ⟨⟨fun i hi=>?_,fun i hi=>?_⟩,by omega,h6⟩
 ·have hi:=List.mem_range.1 hi
  cases i with
  | zero=>rw [rowGood_zero hi]; exact h1 _ (List.getElem_mem hi)
  | succ j =>
   rw [rowGood_succ hi,h1 _ (List.getElem_mem hi),less_behind,h2 j (j + 1) (by omega) hi (by omega)]
   rfl
 ·have hi:=List.mem_range.1 hi
  cases i with
  | zero=>rw [markGood_zero hi]; exact h3 _ (List.getElem_mem hi)
  | succ j =>
   have:=h4 j (j + 1) (by omega) hi (by omega)
   rw [markGood_succ hi,h3 _ (List.getElem_mem hi),decide_eq_false (by omega)]
   rfl
theorem change_ok {t:TabV} {r:RecV} (h:t.ok=true) (hr:r.ok=true) (hp:(t.put r).ok=true):(t.change r).ok=true:=by
 unfold TabV.change
 cases g:decide (r.Who > 0)
 ·exact hp
 ·rw [cond_true]
  obtain ⟨a1,a2⟩:=marks_parts hp
  obtain ⟨b1,b2⟩:=TabV.ok_len hp
  have hm:(MarkV.mk r.Who r.Seq r.Code).ok=true:=by
   simp only [RecV.ok,Bool.and_eq_true,RecV.who] at hr
   have g2:(r.Who==0)=false:=beq_no (by simp only [decide_eq_true_eq] at g; omega)
   have hw:=hr.2
   rw [g2,cond_false] at hw
   exact hw
  refine TabV.ok_mk (TabV.ok_rows (t:=t.put r) hp) (rows_sorted (t:=t.put r) hp) (fun m hm'=>?_) (insMark_sorted a2) b1 b2
  rcases insMark_mem hm' with e | e
  ·rw [e]; exact hm
  ·exact a1 m e
theorem apply_good {t:TabV} {r:RecV} (h:t.ok=true) (hr:r.ok=true) (hp:(t.put r).ok=true):(t.apply r)=(t.change r,true):=by
 rw [TabV.apply,hr,h,change_ok h hr hp]
 rfl
theorem change_rows (t:TabV) (r:RecV):(t.change r).Rows=(t.put r).Rows∧(t.change r).Phase=(t.put r).Phase:=by
 unfold TabV.change
 cases decide (r.Who > 0) <;> exact ⟨rfl,rfl⟩
theorem change_mark {t:TabV} {r:RecV} (h:t.ok=true) (hw:0 < r.Who):markAt (t.change r).Marks r.Who=some ⟨r.Who,r.Seq,r.Code⟩:=by
 unfold TabV.change
 rw [decide_eq_true hw,cond_true,put_marks]
 exact markAt_ins (m:=⟨r.Who,r.Seq,r.Code⟩) (marks_parts h).2
theorem put_row_ok {t:TabV} {r:RecV} (h:t.ok=true) (hk:r.Kind=1) (hr:r.R.ok=true) (hl:(insRow t.Rows r.R).length≤8):(t.put r).ok=true:=by
 rw [TabV.put,beq_yes hk,cond_true]
 obtain ⟨a1,a2⟩:=marks_parts h
 refine TabV.ok_mk (fun x hx=>?_) (insRow_sorted (rows_sorted h)) a1 a2 hl (TabV.ok_len h).2
 rcases insRow_mem hx with e | e
 ·rw [e]; exact hr
 ·exact TabV.ok_rows h x e
theorem put_gone_ok {t:TabV} {r:RecV} (h:t.ok=true) (hk:r.Kind=2):(t.put r).ok=true:=by
 have g1:(r.Kind==1)=false:=beq_no (by omega)
 rw [TabV.put,g1,cond_false,beq_yes hk,cond_true]
 obtain ⟨a1,a2⟩:=marks_parts h
 refine TabV.ok_mk (fun x hx=>TabV.ok_rows h x (List.mem_filter.1 hx).1) ((rows_sorted h).filter _) a1 a2 (Nat.le_trans (List.length_filter_le _ _) (TabV.ok_len h).1) (TabV.ok_len h).2
theorem put_who_ok {t:TabV} {r:RecV} (h:t.ok=true) (hk:r.Kind=4):t.put r=t:=by
 have g1:(r.Kind==1)=false:=beq_no (by omega)
 have g2:(r.Kind==2)=false:=beq_no (by omega)
 have g3:(r.Kind==3)=false:=beq_no (by omega)
 rw [TabV.put,g1,g2,g3]
 rfl
theorem get_find {n:NodeV} (h:n.up=true) (key:ByteArray):n.get key=match n.S.T.Rows.find? (fun r=>decide (r.Key=key)) with
  | none=>(⟨#[]⟩,2)
  | some r=>if r.rtext.2=true then (r.rtext.1,0) else (⟨#[]⟩,4):=by
 have e:n.S.T.Rows[rowIx n.S.T.Rows key]?=n.S.T.Rows.find? (fun r=>decide (r.Key=key)):=by
  rw [rowIx]
  exact List.find?_eq_getElem?_findIdx.symm
 rw [NodeV.get,if_pos h,e]
 all_goals (cases n.S.T.Rows.find? (fun r=>decide (r.Key=key)) <;> rfl)
theorem valid_step {l:List UInt8} (hne:l≠[]) (hv:Lib.validD l=true):∃ n k:Nat,signAt l=some (n,k)∧1≤k∧k≤l.length∧enc8 n=l.take k∧signOk n=true∧Lib.validD (l.drop k)=true∧signs l=(n:Int)::signs (l.drop k):=by
 have hw:=Lib.decodeL_width l
 have hle:=Lib.decodeL_le l hne
 rw [Lib.validD_step _ hne] at hv
 by_cases hb:(Lib.decodeL l).1=65533∧(Lib.decodeL l).2=1
 ·rw [if_pos hb] at hv; cases hv
 ·rw [if_neg hb] at hv
  have hs:signAt l=some ((Lib.decodeL l).1,(Lib.decodeL l).2):=by rw [signAt,if_neg hb]
  have he:=enc_take hle hs
  exact ⟨_,_,hs,by omega,hle,he.1,he.2,hv,signs_step hne⟩
theorem enc_utf:∀ (k:Nat) (l out:List UInt8),l.length≤k→Lib.validD l=true→encGo 0 out (signs l)=(out++l,true)
 | 0,l,out,h,_=>by
  have:l=[]:=List.length_eq_zero_iff.1 (by omega)
  subst this
  rw [signs_nil,encGo,List.append_nil]
 | k + 1,l,out,h,hv=>by
  by_cases hne:l=[]
  ·subst hne
   rw [signs_nil,encGo,List.append_nil]
  ·obtain ⟨n,j,h1,h2,h3,h4,h5,h6,h7⟩:=valid_step hne hv
   have e:putIn 0 out n=(out++l.take j,true):=by
    rw [putIn_utf rfl,putSign,if_pos h5,Int.toNat_natCast,h4]
   rw [h7,encGo,e,cond_true,enc_utf k _ _ (by rw [List.length_drop]; omega) h6,List.append_assoc,List.take_append_drop]
theorem dec_utf (l:List UInt8):∀ (k i:Nat),l.length - i≤k→i≤l.length→Lib.validD (l.drop i)=true→decGo 0 l k i (l.take i)=(⟨⟨l⟩⟩,true)
 | 0,i,h,hi,_=>by
  have:i=l.length:=by omega
  subst this
  rw [List.take_length]
  rfl
 | k + 1,i,h,hi,hv=>by
  by_cases q:i=l.length
  ·subst q
   rw [List.take_length,dec_end (by omega)]
  ·have hne:l.drop i≠[]:=fun e=>by
    have:=congrArg List.length e
    rw [List.length_drop,List.length_nil] at this
    omega
   obtain ⟨n,j,h1,h2,h3,h4,h5,h6,h7⟩:=valid_step hne hv
   rw [List.length_drop] at h3
   have hg:signIn 0 l i=((n:Int),(i:Int) + (j:Nat),true):=by
    rw [signIn,if_pos rfl]
    exact getSign_good (b:=l) (i:=(i:Int)) ⟨Int.natCast_nonneg i,by omega⟩ (by rw [Int.toNat_natCast]; exact h1)
   have hc:putSign (l.take i) n=l.take (i + j):=by
    rw [putSign,if_pos h5,Int.toNat_natCast,h4,List.take_add]
   rw [dec_step (by omega) (by rw [hg]),hg,hc,show (i:Int) + (j:Nat)=((i + j:Nat):Int) by omega]
   exact dec_utf l k (i + j) (by omega) (by omega) (by rw [← List.drop_drop]; exact h6)
theorem utf_back {s:ByteArray} (h:(encode 0 s).2=true):(encode 0 s).1=s.data.toList∧decode 0 s.data.toList=(s,true):=by
 have hw:win 0 0 5=true:=rfl
 have hv:Lib.validD s.data.toList=true:=by
  cases g:Lib.validD s.data.toList
  ·rw [encode,hw,signsOf,g] at h; cases h
  ·rfl
 have e:signsOf s=(signs s.data.toList,true):=by rw [signsOf,if_pos hv]
 refine ⟨?_,?_⟩
 ·rw [encode,hw,e]
  exact congrArg Prod.fst (enc_utf _ _ [] (Nat.le_refl _) hv)
 ·rw [decode,if_pos hw]
  exact dec_utf s.data.toList _ 0 (by omega) (Nat.zero_le _) hv
theorem cell_utf {s:ByteArray} (h:(cellOf 0 s).2=true):(cellOf 0 s).1.Tag=0∧(cellOf 0 s).1.ok=true∧(cellOf 0 s).1.text=(s,true):=by
 cases g:(encode 0 s).2
 ·rw [cellOf_no g] at h; cases h
 ·cases g2:decide (((encode 0 s).1.length:Int)≤20)
  ·rw [cellOf_big g2] at h; cases h
  ·obtain ⟨a1,a2⟩:=utf_back g
   have hk:(CellV.mk 0 (encode 0 s).1).ok=true:=by
    rw [CellV.ok,g2]; rfl
   rw [cellOf_yes g g2]
   refine ⟨rfl,hk,?_⟩
   rw [CellV.text,if_pos hk]
   show decode 0 (encode 0 s).1=_
   rw [a1,a2]
theorem row_ok_name {r:RowV} (h:r.ok=true):nameOk r.Key=true:=by
 simp only [RowV.ok,Bool.and_eq_true] at h
 exact h.1.1
theorem fill_ok {r:RowV} (h:r.ok=true):r.fill.ok=true∧r.fill.Key=r.Key∧r.fill.rtext=r.rtext∧(r.fill.Has=2∨r.fill.Has=3∨r.fill.Aside=true):=by
 have hn:=row_ok_name h
 obtain ⟨key,old,new,has,aside⟩:=r
 simp only at hn
 cases g:(has==1)
 ·have g':has≠1:=by simpa using g
  have e:(RowV.mk key old new has aside).fill=⟨key,old,new,has,aside⟩:=fill_no (by simp only [g,Bool.and_false])
  rw [e]
  rcases rowOk_13 h with q | q | q
  ·exact absurd q g'
  ·exact ⟨h,rfl,rfl,.inl q⟩
  ·exact ⟨h,rfl,rfl,.inr (.inl q)⟩
 ·have g':has=1:=by simpa using g
  subst g'
  have hp:=h
  rw [rowOk_1 hn] at hp
  simp only [Bool.and_eq_true] at hp
  obtain ⟨⟨⟨p1,p2⟩,p3⟩,p4⟩:=hp
  cases g2:(old.turn 0).2
  ·have e:=fill_bad (r:=⟨key,old,new,1,aside⟩) (by rw [h]; rfl) g2
   rw [e]
   refine ⟨?_,rfl,rfl,.inr (.inr rfl)⟩
   rw [rowOk_1 hn,p1,p2,p4,Bool.or_true]
   rfl
  ·have e:=fill_yes (r:=⟨key,old,new,1,aside⟩) (by rw [h]; rfl) g2
   have ht:old.text.2=true:=by
    cases q:old.text.2
    ·rw [turn_no q] at g2; cases g2
    ·rfl
   have hc:(cellOf 0 old.text.1).2=true:=by
    cases q:(cellOf 0 old.text.1).2
    ·rw [turn_big q] at g2; cases g2
    ·rfl
   have et:=turn_yes ht hc
   obtain ⟨c1,c2,c3⟩:=cell_utf hc
   rw [e,et]
   refine ⟨?_,rfl,?_,.inr (.inl rfl)⟩
   ·rw [rowOk_3 hn,p1,p2,ht,c1,c3,sameText,ht,c3]
    simp
   ·show (RowV.mk key old (cellOf 0 old.text.1).1 3 aside).rtext=(RowV.mk key old new 1 aside).rtext
    rw [RowV.rtext,RowV.rtext,if_neg (show ¬ (3:Int)=1 by decide),if_pos rfl]
    show (cellOf 0 old.text.1).1.text=old.text
    rw [c3]
    exact Prod.ext rfl ht.symm
theorem cut_ok {r:RowV} (h:r.ok=true):r.cut.ok=true∧r.cut.Key=r.Key∧r.cut.rtext=r.rtext∧(r.cut.Has=2∨r.cut.Has=1):=by
 have hn:=row_ok_name h
 obtain ⟨key,old,new,has,aside⟩:=r
 simp only at hn
 cases g:(has==1)
 ·have g':has≠1:=by simpa using g
  have e:(RowV.mk key old new has aside).cut=⟨key,⟨0,[]⟩,new,2,false⟩:=cut_yes (by rw [h]; simp only [g]; rfl)
  rw [e]
  have ht:(RowV.mk key ⟨0,[]⟩ new 2 false).rtext=(RowV.mk key old new has aside).rtext:=by
   rw [RowV.rtext,RowV.rtext,if_neg (show ¬ (2:Int)=1 by decide),if_neg g']
  rcases rowOk_13 h with q | q | q
  ·exact absurd q g'
  ·simp only at q
   subst q
   have hp:=h
   rw [rowOk_2 hn] at hp
   simp only [Bool.and_eq_true] at hp
   exact ⟨by rw [rowOk_2 hn,hp.1.2,hp.2]; rfl,rfl,ht,.inl rfl⟩
  ·simp only at q
   subst q
   have hp:=h
   rw [rowOk_3 hn] at hp
   simp only [Bool.and_eq_true] at hp
   exact ⟨by rw [rowOk_2 hn,hp.1.1.2,hp.1.2]; rfl,rfl,ht,.inl rfl⟩
 ·have e:(RowV.mk key old new has aside).cut=⟨key,old,new,has,aside⟩:=cut_no (by simp only [g,Bool.not_true,Bool.and_false])
  rw [e]
  exact ⟨h,rfl,rfl,.inr (by simpa using g)⟩
theorem backed_ok {r:RowV} (h:r.ok=true):r.back.ok=true∧r.back.Key=r.Key∧r.back.rtext=r.rtext∧(r.back.Has=1∨r.back.Aside=true):=by
 have hn:=row_ok_name h
 obtain ⟨key,old,new,has,aside⟩:=r
 simp only at hn
 rcases rowOk_13 h with q | q | q
 ·simp only at q
  subst q
  have e:(RowV.mk key old new 1 aside).back=⟨key,old,new,1,aside⟩:=by rw [RowV.back,h]; rfl
  rw [e]
  exact ⟨h,rfl,rfl,.inl rfl⟩
 ·simp only at q
  subst q
  have e:(RowV.mk key old new 2 aside).back=⟨key,old,new,2,true⟩:=by rw [RowV.back,h]; rfl
  rw [e]
  refine ⟨?_,rfl,rfl,.inr rfl⟩
  rw [rowOk_2 hn] at h ⊢
  exact h
 ·simp only at q
  subst q
  have e:(RowV.mk key old new 3 aside).back=⟨key,old,⟨0,[]⟩,1,false⟩:=by rw [RowV.back,h]; rfl
  have hp:=h
  rw [rowOk_3 hn] at hp
  simp only [Bool.and_eq_true] at hp
  obtain ⟨⟨⟨⟨⟨p1,p2⟩,p3⟩,p4⟩,p5⟩,p6⟩:=hp
  rw [e]
  refine ⟨?_,rfl,?_,.inl rfl⟩
  ·rw [rowOk_1 hn,p1,p2,p3]; rfl
  ·rw [RowV.rtext,RowV.rtext,if_pos rfl,if_neg (show ¬ (3:Int)=1 by decide)]
   simp only [sameText,Bool.and_eq_true,decide_eq_true_eq] at p6
   exact Prod.ext p6.2 (p3.trans p5.symm)
theorem turned_ok (p:Int) {r:RowV} (h:r.ok=true):(turned p r).ok=true∧(turned p r).Key=r.Key∧(turned p r).rtext=r.rtext:=by
 unfold turned
 cases p==4
 ·cases p==6
  ·exact ⟨(fill_ok h).1,(fill_ok h).2.1,(fill_ok h).2.2.1⟩
  ·exact ⟨(backed_ok h).1,(backed_ok h).2.1,(backed_ok h).2.2.1⟩
 ·exact ⟨(cut_ok h).1,(cut_ok h).2.1,(cut_ok h).2.2.1⟩
theorem rowSame_eq {a c:RowV} (h:rowSame a c=true):a=c:=by
 obtain ⟨k,⟨t1,b1⟩,⟨t2,b2⟩,hs,as⟩:=a
 obtain ⟨k',⟨t1',b1'⟩,⟨t2',b2'⟩,hs',as'⟩:=c
 simp only [rowSame,cellSame,Bool.and_eq_true,decide_eq_true_eq,beq_iff_eq] at h
 simp_all
theorem recRow_ok {r:RowV} (h:r.ok=true):(recRow r).ok=true:=by
 rw [RecV.ok,RecV.body,RecV.who]
 show ((r.ok&&decide ((⟨#[]⟩:ByteArray)=⟨#[]⟩)&&((0:Int)==0))&&(((0:Int)==0)&&((0:Int)==0)&&((1:Int) != 4)))=true
 rw [h]
 rfl
theorem ins_same {a b:List RowV} {x r:RowV} (h:(a++x::b).Pairwise fun x y=>isBehind x.Key y.Key=true) (hk:r.Key=x.Key):insRow (a++x::b) r=a++r::b:=by
 have h':=h
 rw [List.pairwise_append,List.pairwise_cons] at h'
 obtain ⟨h1,⟨h2,h3⟩,h4⟩:=h'
 have fa:∀ y∈a,isBehind y.Key r.Key=true:=fun y hy=>by rw [hk]; exact h4 y hy x (List.mem_cons_self ..)
 have fb:∀ y∈b,isBehind r.Key y.Key=true:=fun y hy=>by rw [hk]; exact h2 y hy
 have a1:a.filter (fun y=>isBehind y.Key r.Key)=a:=List.filter_eq_self.2 fa
 have a2:a.filter (fun y=>isBehind r.Key y.Key)=[]:=List.filter_eq_nil_iff.2 fun y hy=>by
  rw [behind_asym (fa y hy)]
  decide
 have b1:b.filter (fun y=>isBehind y.Key r.Key)=[]:=List.filter_eq_nil_iff.2 fun y hy=>by
  rw [behind_asym (fb y hy)]
  decide
 have b2:b.filter (fun y=>isBehind r.Key y.Key)=b:=List.filter_eq_self.2 fb
 have x1:isBehind x.Key r.Key=false:=by rw [hk,behind_irrefl]
 have x2:isBehind r.Key x.Key=false:=by rw [hk,behind_irrefl]
 rw [insRow_eq h]
 simp only [List.filter_append,List.filter_cons,a1,a2,b1,b2,x1,x2]
 simp
theorem tab_of_up {n:NodeV} (h:n.up=true):n.S.T.ok=true:=((StoreV.ok_iff n.S).1 (up_ok h).1).2.2.2.1
theorem of_beq_no {a b:Int} (h:(a==b)=false):a≠b:=by simpa using h
def walked (p:Int) (L:List RowV) (k:Nat):List RowV:=(L.take k).map (turned p)++L.drop k
theorem walked_end (p:Int) {L:List RowV} {k:Nat} (h:L.length≤k):walked p L k=L.map (turned p):=by
 rw [walked,List.take_of_length_le h,List.drop_of_length_le h,List.append_nil]
theorem added_row {n:NodeV} {g N:Int} (h:n.calm g N) (hg:g < 60000) {a b:List RowV} {x r:RowV} (hr:n.S.T.Rows=a++x::b) (hk:r.Key=x.Key) (ho:r.ok=true) :
  (n.S.add (recRow r)).2=true∧(n.added (recRow r)).S.T=⟨a++r::b,n.S.T.Phase,n.S.T.Marks⟩:=by
 have ht:=((StoreV.ok_iff n.S).1 (up_ok h.1).1).2.2.2.1
 have hs:=rows_sorted ht
 rw [hr] at hs
 have ei:=ins_same hs hk
 rw [← hr] at ei
 have el:(insRow n.S.T.Rows r).length≤8:=by
  have:=(TabV.ok_len ht).1
  rw [ei]
  rw [hr] at this
  simpa using this
 have hp:(n.S.T.put (recRow r)).ok=true:=put_row_ok ht rfl ho el
 have ea:=apply_good ht (recRow_ok ho) hp
 obtain ⟨_,c2,c3⟩:=added_calm (recRow r) h hg (.inl (Int.le_refl 0))
 refine ⟨by rw [c2,ea],?_⟩
 rw [c3,ea]
 show n.S.T.put (recRow r)=_
 rw [TabV.put]
 show TabV.mk (insRow n.S.T.Rows r) n.S.T.Phase n.S.T.Marks=_
 rw [ei]
theorem stepN_rows {p N:Int}:∀ (l:List RowV) (n:NodeV) (g:Int) (a b:List RowV),n.calm g N→g + l.length < 60000→n.S.T.Rows=a++l++b→(∀ r∈l,r.ok=true)→
  (stepN p n l).2=true∧(stepN p n l).1.S.T=⟨a++l.map (turned p)++b,n.S.T.Phase,n.S.T.Marks⟩
 | [],n,g,a,b,h,_,hr,_=>by
  refine ⟨rfl,?_⟩
  show n.S.T=_
  rw [List.map_nil,← hr]
 | r::l,n,g,a,b,h,hg,hr,ho=>by
  have hok:=ho r (List.mem_cons_self ..)
  obtain ⟨t1,t2,_⟩:=turned_ok p hok
  simp only [List.length_cons] at hg
  simp only [stepN,List.map_cons]
  have hr2:n.S.T.Rows=a++r::(l++b):=by rw [hr]; simp
  cases q:rowSame (turned p r) r
  ·obtain ⟨a1,a2⟩:=added_row h (by omega) hr2 t2 t1
   have hc:=(added_calm (recRow (turned p r)) h (by omega) (.inl (Int.le_refl 0))).1
   rw [a1,cond_false,cond_true]
   have ih:=stepN_rows (p:=p) l (n.added (recRow (turned p r))) (g + 1) (a++[turned p r]) b hc (by omega) (by rw [a2]; simp) fun x hx=>ho x (List.mem_cons_of_mem _ hx)
   rw [a2] at ih
   refine ⟨ih.1,?_⟩
   rw [ih.2]
   simp
  ·rw [rowSame_eq q,cond_true]
   have ih:=stepN_rows (p:=p) l n g (a++[r]) b h (by omega) (by rw [hr]; simp) fun x hx=>ho x (List.mem_cons_of_mem _ hx)
   refine ⟨ih.1,?_⟩
   rw [ih.2]
   simp
theorem find_text (p:Int) (key:ByteArray):∀ (L:List RowV),(∀ r∈L,r.ok=true)→((L.map (turned p)).find? (fun r=>decide (r.Key=key))).map RowV.rtext=(L.find? (fun r=>decide (r.Key=key))).map RowV.rtext
 | [],_=>rfl
 | r::L,h=>by
  obtain ⟨_,t2,t3⟩:=turned_ok p (h r (List.mem_cons_self ..))
  rw [List.map_cons,List.find?_cons,List.find?_cons,t2]
  cases decide (r.Key=key)
  ·exact find_text p key L fun x hx=>h x (List.mem_cons_of_mem _ hx)
  ·show some (turned p r).rtext=some r.rtext
   rw [t3]
theorem walked_text (p:Int) (key:ByteArray) {L:List RowV} (k:Nat) (h:∀ r∈L,r.ok=true):((walked p L k).find? (fun r=>decide (r.Key=key))).map RowV.rtext=(L.find? (fun r=>decide (r.Key=key))).map RowV.rtext:=by
 have e:L.find? (fun r=>decide (r.Key=key))=(L.take k++L.drop k).find? (fun r=>decide (r.Key=key)):=by rw [List.take_append_drop]
 have f:=find_text p key (L.take k) fun r hr=>h r (List.mem_of_mem_take hr)
 rw [e,walked,List.find?_append,List.find?_append]
 generalize (L.drop k).find? (fun r=>decide (r.Key=key))=d
 generalize ((L.take k).map (turned p)).find? (fun r=>decide (r.Key=key))=u at f
 generalize (L.take k).find? (fun r=>decide (r.Key=key))=v at f
 cases u <;> cases v <;> simp_all
def getOf:Option (ByteArray×Bool)→ByteArray×Int
 | none=>(⟨#[]⟩,2)
 | some x=>if x.2=true then (x.1,0) else (⟨#[]⟩,4)
theorem get_text {n:NodeV} (h:n.up=true) (key:ByteArray):n.get key=getOf ((n.S.T.Rows.find? (fun r=>decide (r.Key=key))).map RowV.rtext):=by
 rw [get_find h]
 cases n.S.T.Rows.find? (fun r=>decide (r.Key=key)) <;> rfl
theorem walked_keys (p:Int) {L:List RowV} (k:Nat) (h:∀ r∈L,r.ok=true):(walked p L k).map RowV.Key=L.map RowV.Key:=by
 have e:L.map RowV.Key=(L.take k++L.drop k).map RowV.Key:=by rw [List.take_append_drop]
 rw [e,walked,List.map_append,List.map_append,List.map_map]
 congr 1
 refine List.map_congr_left fun r hr=>?_
 exact (turned_ok p (h r (List.mem_of_mem_take hr))).2.1
theorem behind_split {f:ByteArray} {A B:List RowV} (ha:∀ r∈A,isBehind f r.Key=false) (hb:∀ r∈B,isBehind f r.Key=true):behind f (A++B)=B:=by
 rw [behind,List.filter_append,List.filter_eq_nil_iff.2 fun r hr=>by rw [ha r hr]; decide,List.filter_eq_self.2 hb,List.nil_append]
theorem name_behind {k:ByteArray} (h:nameOk k=true):isBehind ⟨#[]⟩ k=true:=by
 rcases behind_tri ⟨#[]⟩ k with q | q | q
 ·exact q
 ·rw [← q] at h
  exact absurd h (by decide)
 ·rw [isBehind_iff] at q
  have e:(⟨#[]⟩:ByteArray).toList=[]:=ByteArray.toList_eq _
  rw [e] at q
  cases hk:k.toList <;> rw [hk] at q <;> simp [Op.bytesLess] at q
def stepAt (n x:NodeV) (f:ByteArray) (i:Nat):Prop :=
 x.calm (40 + 2 * i) 30∧x.S.T=⟨walked n.S.T.Phase n.S.T.Rows (2 * i),n.S.T.Phase,n.S.T.Marks⟩∧behind f x.S.T.Rows=n.S.T.Rows.drop (2 * i)∧2 * i≤8
def stepEnd (n x:NodeV):Prop:=x.up=true∧x.S.T=⟨n.S.T.Rows.map (turned n.S.T.Phase),n.S.T.Phase,n.S.T.Marks⟩
theorem step_start {n:NodeV} (h:n.calm 40 30):stepAt n n ⟨#[]⟩ 0:=by
 refine ⟨h.mono (by omega),rfl,?_,by omega⟩
 exact List.filter_eq_self.2 fun r hr=>name_behind (row_ok_name (TabV.ok_rows (tab_of_up h.1) r hr))
theorem pair_of {B:List RowV} (h:2 < B.length):∃ u v c,B=u::v::c:=by
 match B,h with
 | u::v::c,_=>exact ⟨u,v,c,rfl⟩
theorem step_go {n x:NodeV} {f:ByteArray} {i:Nat} (hn:n.calm 40 30) (hw:walks n.S.T.Phase=true) (h:stepAt n x f i) :
  (x.step f).2.2.2=true∧(x.step f).1.In (2 ^ 20)∧((x.step f).2.2.1=0∧stepAt n (x.step f).1 (x.step f).2.1 (i + 1)∨(x.step f).2.2.1=1∧stepEnd n (x.step f).1)∧∀ key,n.get key=(x.step f).1.get key:=by
 obtain ⟨hc,hT,hb,hi⟩:=h
 have hrows:=TabV.ok_rows (tab_of_up hn.1)
 have hlen:=(TabV.ok_len (tab_of_up hn.1)).1
 have hsort:=rows_sorted (tab_of_up hn.1)
 have hc2:=step_calm f hc (by omega)
 obtain ⟨p,hp⟩:∃ p,n.S.T.Phase=p:=⟨_,rfl⟩
 obtain ⟨L,hL⟩:∃ L,n.S.T.Rows=L:=⟨_,rfl⟩
 rw [hp,hL] at hT
 rw [hL] at hb hrows hlen hsort
 rw [hp] at hw
 have hsplit:x.S.T.Rows=(L.take (2 * i)).map (turned p)++(L.drop (2 * i)).take 2++L.drop (2 * i + 2):=by
  rw [hT,List.append_assoc,← List.drop_drop,List.take_append_drop]
  rfl
 have hxp:x.S.T.Phase=p:=by rw [hT]
 have hs:=stepN_rows (p:=p) ((L.drop (2 * i)).take 2) x (40 + 2 * i) ((L.take (2 * i)).map (turned p)) (L.drop (2 * i + 2)) hc (by rw [List.length_take]; omega) hsplit fun r hr=>hrows r (List.mem_of_mem_drop (List.mem_of_mem_take hr))
 have he:x.step f=((stepN p x ((L.drop (2 * i)).take 2)).1,lastKey f ((L.drop (2 * i)).take 2),bif decide (((L.drop (2 * i)).length:Int) > 2) then 0 else 1,true):=by
  rw [NodeV.step,hc.1,hxp,hw,hb,hs.1]
  rfl
 have hT2:(x.step f).1.S.T=⟨walked p L (2 * i + 2),p,n.S.T.Marks⟩:=by
  rw [he]
  show (stepN p x ((L.drop (2 * i)).take 2)).1.S.T=_
  rw [hs.2,hxp,hT]
  show TabV.mk _ p n.S.T.Marks=TabV.mk ((L.take (2 * i + 2)).map (turned p)++L.drop (2 * i + 2)) p n.S.T.Marks
  rw [List.take_add,List.map_append]
 have hup:=hc2.1
 refine ⟨by rw [he],up_in hup,?_,fun key=>?_⟩
 ·cases q:decide (((L.drop (2 * i)).length:Int) > 2)
  ·right
   refine ⟨by rw [he,q]; rfl,hup,?_⟩
   have:L.length≤2 * i + 2:=by
    rw [List.length_drop] at q
    simp only [decide_eq_false_iff_not] at q
    omega
   rw [hT2,hp,hL,walked_end p this]
  ·left
   have hd:2 < (L.drop (2 * i)).length:=by simp only [decide_eq_true_eq] at q; omega
   have hd2:2 * i + 2 < L.length:=by rw [List.length_drop] at hd; omega
   refine ⟨by rw [he,q]; rfl,⟨hc2.mono (by omega),?_,?_,by omega⟩⟩
   ·rw [hT2,hp,hL]
    rfl
   ·obtain ⟨u,v,c,hu⟩:=pair_of hd
    have hk:(x.step f).2.1=v.Key:=by
     rw [he,hu]
     rfl
    have hL2:L=L.take (2 * i)++u::v::c:=by rw [← hu,List.take_append_drop]
    have hc3:L.drop (2 * (i + 1))=c:=by
     have e3:L.drop (2 * i + 2)=c:=by rw [← List.drop_drop,hu]; rfl
     exact e3
    have hs2:=hsort
    rw [hL2,List.pairwise_append,List.pairwise_cons,List.pairwise_cons] at hs2
    obtain ⟨_,⟨s2,s3,_⟩,s5⟩:=hs2
    have hrow:(x.step f).1.S.T.Rows=walked p L (2 * i + 2):=by rw [hT2]
    rw [hrow,hk,hL,hc3,walked]
    have e4:L.take (2 * i + 2)=L.take (2 * i)++[u,v]:=by rw [List.take_add,hu]; rfl
    have e5:L.drop (2 * i + 2)=c:=hc3
    rw [e4,e5]
    refine behind_split (fun r hr=>?_) s3
    obtain ⟨y,hy,ey⟩:=List.mem_map.1 hr
    have hyL:y∈L:=by
     rw [← e4] at hy
     exact List.mem_of_mem_take hy
    rw [← ey,(turned_ok p (hrows y hyL)).2.1]
    rcases List.mem_append.1 hy with hy | hy
    ·exact behind_asym (s5 y hy v (by simp))
    ·simp only [List.mem_cons,List.not_mem_nil,or_false] at hy
     rcases hy with e | e
     ·rw [e]; exact behind_asym (s2 v (List.mem_cons_self ..))
     ·rw [e]; exact behind_irrefl _
 ·rw [get_text hn.1,get_text hup,hT2,hL,walked_text p key (2 * i + 2) hrows]
noncomputable def rowRight (p:Int) (r:RowV):Bool :=
 bif p==6 then (r.Has==1) else bif p==4 then (r.Has==2)||(r.Has==1) else (andK .i64 r.Has 2==2)
theorem turned_right {p:Int} (hw:walks p=true) {r:RowV} (h:r.ok=true):(rowRight p (turned p r)||(turned p r).Aside)=true:=by
 unfold rowRight turned
 rcases walks_or hw with e | e | e | e
 ·subst e
  have q:=fill_ok h
  have h2:=and2_has r.fill.Has (rowOk_13 q.1)
  show (andK .i64 r.fill.Has 2==2||r.fill.Aside)=true
  rw [h2]
  rcases q.2.2.2 with e | e | e
  ·rw [e]; rfl
  ·rw [e]; rfl
  ·rw [e,Bool.or_true]
 ·subst e
  have q:=fill_ok h
  have h2:=and2_has r.fill.Has (rowOk_13 q.1)
  show (andK .i64 r.fill.Has 2==2||r.fill.Aside)=true
  rw [h2]
  rcases q.2.2.2 with e | e | e
  ·rw [e]; rfl
  ·rw [e]; rfl
  ·rw [e,Bool.or_true]
 ·subst e
  have q:=cut_ok h
  show ((r.cut.Has==2||r.cut.Has==1)||r.cut.Aside)=true
  rcases q.2.2.2 with e | e <;> rw [e] <;> rfl
 ·subst e
  have q:=backed_ok h
  show (r.back.Has==1||r.back.Aside)=true
  rcases q.2.2.2 with e | e
  ·rw [e]; rfl
  ·rw [e,Bool.or_true]
theorem end_right {n x:NodeV} (hn:n.up=true) (hw:walks n.S.T.Phase=true) (h:stepEnd n x):∀ r∈x.S.T.Rows,(rowRight n.S.T.Phase r||r.Aside)=true:=by
 intro r hr
 rw [h.2] at hr
 obtain ⟨y,hy,e⟩:=List.mem_map.1 hr
 rw [← e]
 exact turned_right hw (TabV.ok_rows (tab_of_up hn) y hy)
def ltr (b:UInt8):ByteArray:=⟨#[b]⟩
theorem signAt_one {b:UInt8} (h:b.toNat < 128):signAt [b]=some (b.toNat,1):=sign1 (l:=[b]) (Nat.zero_lt_one) h
theorem decodeL_one {b:UInt8} (h:b.toNat < 128):Lib.decodeL [b]=(b.toNat,1)∧¬ ((Lib.decodeL [b]).1=65533∧(Lib.decodeL [b]).2=1):=by
 have hs:=signAt_one h
 unfold signAt at hs
 split at hs
 ·cases hs
 ·rename_i hv
  simp only [Option.some.injEq] at hs
  exact ⟨hs,hv⟩
theorem signs_one {b:UInt8} (h:b.toNat < 128):signsOf (ltr b)=([(b.toNat:Int)],true):=by
 obtain ⟨h1,h2⟩:=decodeL_one h
 have hne:[b]≠[]:=by simp
 have hv:Lib.validD (ltr b).data.toList=true:=by
  show Lib.validD [b]=true
  rw [Lib.validD_step _ hne,if_neg h2,h1]
  rfl
 rw [signsOf,if_pos hv]
 show (signs [b],true)=_
 rw [signs_step hne,h1]
 rfl
theorem byteSign_low {cs j:Int} (hc:win cs 1 4=true) (hj:0≤j∧j≤127):byteSign cs j=(j,true):=by
 have h2:win j 0 255=true:=by simp only [win,Bool.and_eq_true,decide_eq_true_eq]; omega
 rw [byteSign,hc,h2,decide_eq_true hj.2]
 rfl
theorem enc8_one {b:UInt8} (h:b.toNat < 128):enc8 b.toNat=[b]∧signOk (b.toNat:Int)=true:=enc_take (l:=[b]) (Nat.le_refl 1) (signAt_one h)
theorem mkU_one (b:UInt8):mkU (b.toNat:Int)=b:=by rw [mkU_nat,UInt8.ofNat_toNat]
theorem cs_cases {cs:Int} (h:win cs 0 5=true):cs=0∨cs=5∨((cs==0)=false∧(cs==5)=false∧win cs 1 4=true):=by
 simp only [win,Bool.and_eq_true,decide_eq_true_eq] at h
 by_cases h0:cs=0
 ·exact .inl h0
 ·by_cases h5:cs=5
  ·exact .inr (.inl h5)
  ·exact .inr (.inr ⟨beq_no h0,beq_no h5,by simp only [win,Bool.and_eq_true,decide_eq_true_eq]; omega⟩)
theorem putIn_one {cs:Int} {b:UInt8} (hc:win cs 0 5=true) (h:b.toNat < 128):putIn cs [] (b.toNat:Int)=([b],true):=by
 obtain ⟨e1,e2⟩:=enc8_one h
 rcases cs_cases hc with e | e | ⟨g0,g5,hw⟩
 ·subst e
  rw [putIn_utf rfl,putSign,if_pos e2,Int.toNat_natCast,e1]
  rfl
 ·subst e
  have hw:win (b.toNat:Int) 0 127=true:=by simp only [win,Bool.and_eq_true,decide_eq_true_eq]; omega
  rw [putIn_euc rfl rfl,putEuc,hw,mkU_one]
  rfl
 ·have hs:signByte cs (b.toNat:Int)=((b.toNat:Int),true):=by
   refine signByte_hit (by omega) (fun j hj=>?_) ?_
   ·rw [sbHit,byteSign_low hw (by omega)]
    exact beq_no (by omega)
   ·rw [sbHit,byteSign_low hw (by omega)]
    exact beq_yes rfl
  rw [putIn_yes g0 g5 (by rw [hs]),hs,mkU_one]
  rfl
theorem encode_one {cs:Int} {b:UInt8} (hc:win cs 0 5=true) (h:b.toNat < 128):encode cs (ltr b)=([b],true):=by
 rw [encode,hc,signs_one h]
 show encGo cs [] [(b.toNat:Int)]=_
 rw [encGo,putIn_one hc h]
 rfl
theorem signIn_one {cs:Int} {b:UInt8} (hc:win cs 0 5=true) (h:b.toNat < 128):signIn cs [b] 0=((b.toNat:Int),1,true):=by
 rcases cs_cases hc with e | e | ⟨g0,g5,hw⟩
 ·subst e
  rw [signIn,if_pos rfl]
  exact getSign_good (b:=[b]) (i:=0) ⟨Int.le_refl 0,Int.zero_lt_one⟩ (signAt_one h)
 ·subst e
  rw [signIn,if_neg (by decide),if_pos rfl]
  exact euc_one (b:=[b]) (i:=0) ⟨Int.le_refl 0,Int.zero_lt_one⟩ h
 ·have n0:¬ cs=0:=by simpa using g0
  have n5:¬ cs=5:=by simpa using g5
  rw [signIn,if_neg n0,if_neg n5]
  show ((byteSign cs (b.toNat:Int)).1,(1:Int),(byteSign cs (b.toNat:Int)).2)=_
  rw [byteSign_low hw (by omega)]
theorem decode_one {cs:Int} {b:UInt8} (hc:win cs 0 5=true) (h:b.toNat < 128):decode cs [b]=(ltr b,true):=by
 have hs:=signIn_one hc h
 obtain ⟨e1,e2⟩:=enc8_one h
 rw [decode,if_pos hc]
 show decGo cs [b] (0 + 1) 0 []=_
 rw [dec_step (show (0:Int) < (([b]:List UInt8).length:Int) from Int.zero_lt_one) (by rw [hs]),hs,putSign,if_pos e2,Int.toNat_natCast,e1]
 rfl
theorem cell_one {cs:Int} {b:UInt8} (hc:win cs 0 5=true) (h:b.toNat < 128):cellOf cs (ltr b)=(⟨cs,[b]⟩,true)∧(CellV.mk cs [b]).ok=true∧(CellV.mk cs [b]).text=(ltr b,true):=by
 have he:=encode_one hc h
 have hk:(CellV.mk cs [b]).ok=true:=by
  rw [CellV.ok,hc]
  rfl
 refine ⟨?_,hk,?_⟩
 ·rw [cellOf_yes (by rw [he]) (by rw [he]; rfl),he]
 ·rw [CellV.text,if_pos hk]
  exact decode_one hc h
theorem rowOf_ltr {ph cs:Int} {key:ByteArray} {b:UInt8} (hb:b.toNat < 128) (hp:win ph 0 7=true) (hk:nameOk key=true) (hc:win cs 1 5=true) :
  (rowOf ph key cs (ltr b)).2=0∧(rowOf ph key cs (ltr b)).1.ok=true∧(rowOf ph key cs (ltr b)).1.Key=key∧(rowOf ph key cs (ltr b)).1.rtext=(ltr b,true):=by
 have hc0:win cs 0 5=true:=by
  simp only [win,Bool.and_eq_true,decide_eq_true_eq] at hc ⊢
  omega
 have ht:(cs != 0)=true:=by
  simp only [win,Bool.and_eq_true,decide_eq_true_eq] at hc
  rw [bne_iff_ne]
  omega
 obtain ⟨o1,o2,o3⟩:=cell_one hc0 hb
 obtain ⟨n1,n2,n3⟩:=cell_one (cs:=0) rfl hb
 have hf:rowFine ph key cs (ltr b)=true:=by rw [rowFine,hp,hk,hc,n1]; rfl
 have r1:(RowV.mk key ⟨cs,[b]⟩ ⟨0,[]⟩ 1 false).ok=true:=by
  rw [rowOk_1 hk,o2,o3]
  show (true&&(cs != 0)&&(true||false)&&CellV.no ⟨0,[]⟩)=true
  rw [ht]
  rfl
 have r2:(RowV.mk key ⟨0,[]⟩ ⟨0,[b]⟩ 2 false).ok=true:=by
  rw [rowOk_2 hk,n3]
  rfl
 have r3:(RowV.mk key ⟨cs,[b]⟩ ⟨0,[b]⟩ 3 false).ok=true:=by
  rw [rowOk_3 hk,o2,o3,n3,sameText,o3,n3]
  show (true&&(cs != 0)&&true&&true&&true&&_)=true
  rw [ht]
  simp
 unfold rowOf
 rw [hf,cond_true,o1,n1]
 cases (ph==0)||(ph==7)
 ·cases (ph==4)||(ph==5)
  ·cases ph==6
   ·exact ⟨rfl,r3,rfl,n3⟩
   ·exact ⟨rfl,r1,rfl,o3⟩
  ·exact ⟨rfl,r2,rfl,n3⟩
 ·exact ⟨rfl,r1,rfl,o3⟩
theorem rowAt_find (l:List RowV) (key:ByteArray):decide (rowAt l key < 0)=(l.find? (fun r=>decide (r.Key=key))).isNone:=by
 have e:l[rowIx l key]?=l.find? (fun r=>decide (r.Key=key)):=List.find?_eq_getElem?_findIdx.symm
 rw [← e,rowAt]
 by_cases h:rowIx l key < l.length
 ·rw [if_pos h,List.getElem?_eq_getElem h]
  exact decide_eq_false (by omega)
 ·rw [if_neg h,List.getElem?_eq_none (by omega)]
  rfl
theorem ins_len {l:List RowV} {r:RowV} (h:l.Pairwise fun x y=>isBehind x.Key y.Key=true) (hl:l.length≤8) (hf:(l.find? (fun x=>decide (x.Key=r.Key))).isNone=true→l.length≠8):(insRow l r).length≤8:=by
 have key:∀ m:List RowV,(m.filter (fun x=>isBehind x.Key r.Key)).length + (m.filter (fun x=>isBehind r.Key x.Key)).length≤m.length:=by
  intro m
  induction m with
  | nil=>exact Nat.le_refl _
  | cons x m ih =>
   rw [List.filter_cons,List.filter_cons,List.length_cons]
   cases g:isBehind x.Key r.Key
   ·cases g2:isBehind r.Key x.Key
    ·rw [if_neg (by decide),if_neg (by decide)]; omega
    ·rw [if_neg (by decide),if_pos rfl,List.length_cons]; omega
   ·rw [behind_asym g,if_pos rfl,if_neg (by decide),List.length_cons]; omega
 have hlen:(insRow l r).length=(l.filter (fun x=>isBehind x.Key r.Key)).length + (l.filter (fun x=>isBehind r.Key x.Key)).length + 1:=by
  rw [insRow_eq h,List.length_append,List.length_cons]; omega
 have hk:=key l
 cases q:(l.find? (fun x=>decide (x.Key=r.Key))).isNone
 ·have:∃ x∈l,x.Key=r.Key:=by
   cases f:l.find? (fun x=>decide (x.Key=r.Key)) with
   | none=>rw [f] at q; cases q
   | some x=>exact ⟨x,List.mem_of_find?_eq_some f,by simpa using List.find?_some f⟩
  obtain ⟨x,hx,ex⟩:=this
  obtain ⟨u,v,e⟩:=List.append_of_mem hx
  have k1:=key u
  have k2:=key v
  have hx1:isBehind x.Key r.Key=false:=by rw [ex]; exact behind_irrefl _
  have hx2:isBehind r.Key x.Key=false:=by rw [ex]; exact behind_irrefl _
  rw [hlen,e]
  rw [e] at hl
  simp only [List.filter_append,List.filter_cons,hx1,hx2,List.length_append,List.length_cons] at hl ⊢
  simp only [Bool.false_eq_true,if_false]
  omega
 ·have:=hf q
  omega
theorem old_new {n:NodeV} {seq:Int} (hu:n.up=true) (hs:1≤seq∧seq≤65535) (hm:∀ m∈n.S.T.Marks,m.Seq < seq):n.old 1 seq=(0,false):=by
 have hw:(win 1 1 9&&win seq 1 65535)=true:=by
  simp only [win,Bool.and_eq_true,decide_eq_true_eq]
  omega
 rw [old_yes hu hw]
 cases g:markAt n.S.T.Marks 1 with
 | none=>rfl
 | some m =>
  have hlt:=hm m (List.mem_of_find?_eq_some g)
  show (bif decide (m.Seq > seq) then _ else bif m.Seq==seq then _ else _)=_
  rw [decide_eq_false (by omega),beq_no (by omega)]
  rfl
theorem old_has {n:NodeV} {seq s c:Int} (hu:n.up=true) (hs:1≤seq∧seq≤65535) (hm:markAt n.S.T.Marks 1=some ⟨1,s,c⟩):n.old 1 seq=bif decide (s > seq) then (1,true) else bif s==seq then (c,true) else (0,false):=by
 have hw:(win 1 1 9&&win seq 1 65535)=true:=by
  simp only [win,Bool.and_eq_true,decide_eq_true_eq]
  omega
 rw [old_yes hu hw,hm]
 rfl
structure PutLaw (n x:NodeV) (seq c:Int) (key:ByteArray) (b:UInt8):Prop where
 up:x.up=true
 code:c=0∨c=5
 mark:markAt x.S.T.Marks 1=some ⟨1,seq,c⟩
 get:∀ k,x.get k=if k=key∧c=0 then (ltr b,0) else n.get k
 has:(x.S.T.Rows.find? (fun r=>decide (r.Key=key))).isNone = !(c==0)
theorem put_law {n:NodeV} {g:Int} (h:n.calm g 30) (hg:g < 50000) {seq:Int} (hs:100≤seq∧seq≤355) {key:ByteArray} (hk:nameOk key=true) {b:UInt8} (hb:b.toNat < 128) :
  ∃ x c,n.putIn 1 seq key (ltr b)=(x,c,true)∧PutLaw n x seq c key b∧x.calm (g + 1) 355:=by
 have hu:=h.1
 have ht:=tab_of_up hu
 obtain ⟨hlen,hph⟩:=TabV.ok_len ht
 obtain ⟨q1,q2,q3,q4⟩:=rowOf_ltr hb hph hk (up_ok hu).2.2
 have ho:=old_new hu (show 1≤seq∧seq≤65535 by omega) (fun m hm=>by have:=h.2.2.2 m hm; omega)
 have hsort:=rows_sorted ht
 have h355:n.calm g 355:=⟨h.1,h.2.1,h.2.2.1,fun m hm=>Int.le_trans (h.2.2.2 m hm) (by decide)⟩
 have hw:∀ c:Int,0≤c→c≤6→(win 1 1 9&&win seq 0 65535&&win c 0 6)=true:=fun c c0 c6=>by
  simp only [win,Bool.and_eq_true,decide_eq_true_eq]
  omega
 cases gc:decide (rowAt n.S.T.Rows key < 0)&&((n.S.T.Rows.length:Int)==8)
 ·have ec:n.putCode key (ltr b)=0:=by
   rw [NodeV.putCode,q1,show ((0:Int)==0)=true from rfl,Bool.true_and,gc]
   rfl
  have hr:((recRowBy (rowOf n.S.T.Phase key n.Cs (ltr b)).1 1 seq 0)).ok=true:=by
   rw [RecV.ok,RecV.body,RecV.who]
   have e1:=hw 0 (by decide) (by decide)
   show ((rowOf n.S.T.Phase key n.Cs (ltr b)).1.ok&&decide ((⟨#[]⟩:ByteArray)=⟨#[]⟩)&&((0:Int)==0)&&(win 1 1 9&&win seq 0 65535&&win 0 0 6))=true
   rw [q2]
   exact e1
  have hp:=put_row_ok (r:=recRowBy (rowOf n.S.T.Phase key n.Cs (ltr b)).1 1 seq 0) ht rfl q2 (ins_len hsort hlen (fun hf=>by
   have hf:(n.S.T.Rows.find? (fun x=>decide (x.Key=(rowOf n.S.T.Phase key n.Cs (ltr b)).1.Key))).isNone=true:=hf
   rw [q3,← rowAt_find] at hf
   rw [hf,Bool.true_and] at gc
   have:=of_beq_no gc
   omega))
  have ea:=apply_good ht hr hp
  obtain ⟨c1,c2,c3⟩:=added_calm (recRowBy (rowOf n.S.T.Phase key n.Cs (ltr b)).1 1 seq 0) h355 (by omega) (.inr (by show seq≤355; omega))
  have hrows:(n.added (recRowBy (rowOf n.S.T.Phase key n.Cs (ltr b)).1 1 seq 0)).S.T.Rows=insRow n.S.T.Rows (rowOf n.S.T.Phase key n.Cs (ltr b)).1:=by
   rw [c3,ea]
   exact (change_rows _ _).1
  refine ⟨n.added (recRowBy (rowOf n.S.T.Phase key n.Cs (ltr b)).1 1 seq 0),0,?_,⟨c1.1,.inl rfl,?_,fun k=>?_,?_⟩,c1⟩
  ·rw [NodeV.putIn,ho,ec]
   show n.changed (recRowBy (rowOf n.S.T.Phase key n.Cs (ltr b)).1 1 seq 0)=_
   rw [NodeV.changed,c2,ea]
   rfl
  ·rw [c3,ea]
   exact change_mark (r:=recRowBy (rowOf n.S.T.Phase key n.Cs (ltr b)).1 1 seq 0) ht (show (0:Int) < 1 by decide)
  ·rw [get_find c1.1,hrows,find_ins hsort,q3]
   by_cases e:k=key
   ·rw [if_pos e,if_pos ⟨e,rfl⟩]
    show (if (rowOf n.S.T.Phase key n.Cs (ltr b)).1.rtext.2=true then _ else _)=_
    rw [q4]
    rfl
   ·rw [if_neg e,if_neg (fun z=>e z.1),← get_find hu]
  ·rw [hrows,find_ins hsort,q3,if_pos rfl]
   rfl
 ·rw [Bool.and_eq_true] at gc
  have ec:n.putCode key (ltr b)=5:=by
   rw [NodeV.putCode,q1,show ((0:Int)==0)=true from rfl,Bool.true_and,gc.1,gc.2]
   rfl
  have hr:(recWho 1 seq 5).ok=true:=by
   rw [RecV.ok,RecV.body,RecV.who]
   have e1:=hw 5 (by decide) (by decide)
   exact e1
  have hp:(n.S.T.put (recWho 1 seq 5))=n.S.T:=put_who_ok ht rfl
  have ea:=apply_good ht hr (by rw [hp]; exact ht)
  obtain ⟨c1,c2,c3⟩:=added_calm (recWho 1 seq 5) h355 (by omega) (.inr (by show seq≤355; omega))
  have hrows:(n.added (recWho 1 seq 5)).S.T.Rows=n.S.T.Rows:=by
   rw [c3,ea]
   show (n.S.T.change _).Rows=_
   rw [(change_rows _ _).1,hp]
  refine ⟨n.added (recWho 1 seq 5),5,?_,⟨c1.1,.inr rfl,?_,fun k=>?_,?_⟩,c1⟩
  ·rw [NodeV.putIn,ho,ec]
   show n.changed (recWho 1 seq 5)=_
   rw [NodeV.changed,c2,ea]
   rfl
  ·rw [c3,ea]
   exact change_mark (r:=recWho 1 seq 5) ht (show (0:Int) < 1 by decide)
  ·rw [if_neg (fun z=>absurd z.2 (by decide)),get_find c1.1,hrows,← get_find hu]
  ·rw [hrows,← rowAt_find,gc.1]
   rfl
theorem del_law {n x:NodeV} {g seq c:Int} {key:ByteArray} {b:UInt8} (p:PutLaw n x seq c key b) (h:x.calm g 355) (hg:g < 50000) (hs:100≤seq∧seq≤355) (hk:nameOk key=true) :
  ∃ y,x.del 1 (seq + 1) key=(y,bif c==0 then 0 else 2,true)∧y.up=true∧y.get key=(⟨#[]⟩,2):=by
 have hu:=p.up
 have ht:=tab_of_up hu
 have ho:=old_has (seq:=seq + 1) hu (by omega) p.mark
 rw [decide_eq_false (by omega),beq_no (show seq≠seq + 1 by omega)] at ho
 have h356:x.calm g 356:=⟨h.1,h.2.1,h.2.2.1,fun m hm=>Int.le_trans (h.2.2.2 m hm) (by decide)⟩
 have ec:x.delCode key=bif c==0 then 0 else 2:=by
  rw [NodeV.delCode,hk,rowAt_find,p.has]
  cases c==0 <;> rfl
 have hw:∀ c:Int,0≤c→c≤6→(win 1 1 9&&win (seq + 1) 0 65535&&win c 0 6)=true:=fun c c0 c6=>by
  simp only [win,Bool.and_eq_true,decide_eq_true_eq]
  omega
 cases gc:c==0
 ·rw [gc,cond_false] at ec
  have hr:(recWho 1 (seq + 1) 2).ok=true:=by
   rw [RecV.ok,RecV.body,RecV.who]
   exact hw 2 (by decide) (by decide)
  have hp:(x.S.T.put (recWho 1 (seq + 1) 2))=x.S.T:=put_who_ok ht rfl
  have ea:=apply_good ht hr (by rw [hp]; exact ht)
  obtain ⟨c1,c2,c3⟩:=added_calm (recWho 1 (seq + 1) 2) h356 (by omega) (.inr (by show seq + 1≤356; omega))
  have hrows:(x.added (recWho 1 (seq + 1) 2)).S.T.Rows=x.S.T.Rows:=by
   rw [c3,ea]
   show (x.S.T.change _).Rows=_
   rw [(change_rows _ _).1,hp]
  refine ⟨x.added (recWho 1 (seq + 1) 2),?_,c1.1,?_⟩
  ·rw [NodeV.del,ho,ec]
   show x.changed (recWho 1 (seq + 1) 2)=_
   rw [NodeV.changed,c2,ea]
   rfl
  ·have hf:=p.has
   rw [gc] at hf
   rw [get_find c1.1,hrows]
   cases q:x.S.T.Rows.find? (fun r=>decide (r.Key=key)) with
   | none=>rfl
   | some r=>rw [q] at hf; cases hf
 ·rw [gc,cond_true] at ec
  have hr:(RecV.mk 2 RowV.zero key 0 1 (seq + 1) 0).ok=true:=by
   rw [RecV.ok,RecV.body,RecV.who]
   show (RowV.zero.no&&nameOk key&&((0:Int)==0)&&(win 1 1 9&&win (seq + 1) 0 65535&&win 0 0 6))=true
   rw [hk]
   exact hw 0 (by decide) (by decide)
  have hp:(x.S.T.put (RecV.mk 2 RowV.zero key 0 1 (seq + 1) 0)).ok=true:=put_gone_ok ht rfl
  have ea:=apply_good ht hr hp
  obtain ⟨c1,c2,c3⟩:=added_calm (RecV.mk 2 RowV.zero key 0 1 (seq + 1) 0) h356 (by omega) (.inr (by show seq + 1≤356; omega))
  have hrows:(x.added (RecV.mk 2 RowV.zero key 0 1 (seq + 1) 0)).S.T.Rows=delRows x.S.T.Rows key:=by
   rw [c3,ea]
   show (x.S.T.change _).Rows=_
   rw [(change_rows _ _).1]
   rfl
  refine ⟨x.added (RecV.mk 2 RowV.zero key 0 1 (seq + 1) 0),?_,c1.1,?_⟩
  ·rw [NodeV.del,ho,ec]
   show x.changed (RecV.mk 2 RowV.zero key 0 1 (seq + 1) 0)=_
   rw [NodeV.changed,c2,ea]
   rfl
  ·have hf:(delRows x.S.T.Rows key).find? (fun r=>decide (r.Key=key))=none:=by
    rw [List.find?_eq_none]
    intro r hr
    have:=(List.mem_filter.1 hr).2
    simpa using this
   rw [get_find c1.1,hrows,hf]
theorem put_again {n x:NodeV} {seq c:Int} {key:ByteArray} {b:UInt8} (p:PutLaw n x seq c key b) (hs:100≤seq∧seq≤355) (k s:ByteArray):x.putIn 1 seq k s=(x,c,false)∧x.putIn 1 (seq - 1) k s=(x,1,false):=by
 have o1:=old_has (seq:=seq) p.up (by omega) p.mark
 have o2:=old_has (seq:=seq - 1) p.up (by omega) p.mark
 rw [decide_eq_false (by omega),beq_yes rfl] at o1
 rw [decide_eq_true (by omega)] at o2
 refine ⟨?_,?_⟩
 ·rw [NodeV.putIn,o1]; rfl
 ·rw [NodeV.putIn,o2]; rfl
def keyAt:Nat→ByteArray
 | 0=>⟨#[97]⟩
 | 1=>⟨#[98]⟩
 | 2=>⟨#[99]⟩
 | 3=>⟨#[100]⟩
 | 4=>⟨#[101,53]⟩
 | _=>⟨#[102]⟩
theorem key_at {i:Nat} (h:i < 6):([[sT ⟨#[97]⟩],[sT ⟨#[98]⟩],[sT ⟨#[99]⟩],[sT ⟨#[100]⟩],[sT ⟨#[101,53]⟩],[sT ⟨#[102]⟩]]:List (List T)).getD i []=[sT (keyAt i)]:=by
 rcases (show i=0∨i=1∨i=2∨i=3∨i=4∨i=5 by omega) with rfl | rfl | rfl | rfl | rfl | rfl <;> rfl
theorem key_ok {i:Nat} (h:i < 6):nameOk (keyAt i)=true:=by
 rcases (show i=0∨i=1∨i=2∨i=3∨i=4∨i=5 by omega) with rfl | rfl | rfl | rfl | rfl | rfl <;> decide
theorem key_size {i:Nat} (h:i < 6):(keyAt i).size≤2:=by
 rcases (show i=0∨i=1∨i=2∨i=3∨i=4∨i=5 by omega) with rfl | rfl | rfl | rfl | rfl | rfl <;> decide
theorem ltr_of (b:UInt8):(⟨(bytesOf [[(uT b:T)]]).toArray⟩:ByteArray)=ltr b:=by
 have h:bytesOf ([[uT b]]:List (List T))=[b]:=bytesOf_uL [b]
 rw [h]
 rfl
theorem letter {r:Int} (h:0≤r):∃ b:UInt8,IntKind.u8.wrap (IntKind.i64.wrap (97 + r.tmod 26))=(b.toNat:Int)∧b.toNat < 128:=by
 have h2:=tmod_in (n:=26) h (by decide)
 refine ⟨mkU (97 + r.tmod 26),by rw [IntWalk.i64_in _ (by omega)]; exact mkU_wrap _,?_⟩
 obtain ⟨z,hz,hz2⟩:∃ z:Nat,97 + r.tmod 26=(z:Int)∧z < 128:=⟨(97 + r.tmod 26).toNat,by omega,by omega⟩
 rw [hz,mkU_toNat]
 omega
abbrev C_l_FnNodes (Te:TE):Prop:=∀ (code:List UInt8) (h:code.length≤2 ^ 48),Te 5 [.one (slT false 1 uR code)] ⟨[.one (bT true)],[[slT false 1 uR code]]⟩
abbrev C_l_FnSteps (Te:TE):Prop:=∀ (code:List UInt8) (h:code.length≤2 ^ 48),Te 4 [.one (slT false 1 uR code)] ⟨[.one (bT true)],[[slT false 1 uR code]]⟩
end Go.X

