/- Texts: CA_d CB_d CC_d CD_d CE_d CEa_d CEb_d CEc_d CF_d CG_d CK_d CL_d CR_d CS_d CT_d CU_d CV_d CVa_d CVb_d CVc_d CVd_d CVe_d CVf_d CVg_d CVi_d CVj_d CVk_d CVl_d CVla_d CVm_d CVn_d CVo_d CVzg_d CEd_d CVzw_d CVzq_d CW_Texts_d CW_WorldNew_d. -/
import Derived.Test.YtmmjaijeeeilcaaGreatDoorX02
import Derived.Lib.ValidLaws
set_option linter.unusedVariables false
set_option linter.unusedSimpArgs false
namespace Go.X
set_option maxRecDepth 100000
set_option maxHeartbeats 8000000
abbrev iT (a:Int):T:=.pv (.int .i64 a)
abbrev bT (a:Bool):T:=.pv (.bool a)
abbrev sT (s:ByteArray):T:=.pv (.string s)
abbrev uT (a:UInt8):T:=.pv (.int .u8 a.toNat)
abbrev slT {α:Type} (o:Bool) (z:Nat) (f:α→List T) (l:List α):T:=.sl o z () (l.map f)
abbrev bR (a:Bool):List T:=[bT a]
abbrev sR (a:ByteArray):List T:=[sT a]
abbrev iR (a:Int):List T:=[iT a]
abbrev uR (a:UInt8):List T:=[uT a]
def left (a:Int):Int:=if a < 0 then -1 else a
def Sane (f:Int→Int):Prop:=∀ k,0≤k→f k≤k
def SaneL (fs:List (Int→Int)):Prop:=∀ f∈fs,Sane f
theorem SaneL.nil:SaneL []:=fun _ h=>by cases h
theorem SaneL.cons {f:Int→Int} {fs:List (Int→Int)} (h:Sane f) (t:SaneL fs):SaneL (f::fs):=fun g hg=>by
 rcases List.mem_cons.1 hg with rfl | hg
 ·exact h
 ·exact t _ hg
def szAll:List (Int→Int)→Int→Int
 | [],k=>k
 | f::fs,k=>if f k < 0 then -1 else szAll fs (f k)
def ExL (n:Int):List (Int→Int)→Prop
 | []=>True
 | f::fs=>(∃ j,0≤j∧j≤n∧0≤f j)∧ExL n fs
theorem Sane.all {fs:List (Int→Int)} (h:SaneL fs):Sane (szAll fs):=by
 induction fs with
 | nil=>intro k hk; exact Int.le_refl _
 | cons f fs ih =>
  intro k hk
  have h1:=h f (List.mem_cons_self ..) k hk
  simp only [szAll]
  split
  ·omega
  ·have:=ih (fun g hg=>h g (List.mem_cons_of_mem _ hg)) (f k) (by omega)
   omega
theorem szAll_ex {fs:List (Int→Int)} (h:SaneL fs) {k n:Int} (hk:0≤k) (hn:k≤n) (h0:0≤szAll fs k):ExL n fs:=by
 induction fs generalizing k with
 | nil=>trivial
 | cons f fs ih =>
  have h1:=h f (List.mem_cons_self ..) k hk
  simp only [szAll] at h0
  split at h0
  ·omega
  ·exact ⟨⟨k,hk,hn,by omega⟩,ih (fun g hg=>h g (List.mem_cons_of_mem _ hg)) (k:=f k) (by omega) (by omega) h0⟩
theorem Sane.sub (n:Nat):Sane (fun k=>k - n):=fun k hk=>by show k - (n:Int)≤k; omega
theorem Sane.left (n:Nat):Sane (fun k=>left (k - n)):=fun k hk=>by
 show Go.X.left (k - (n:Int))≤k
 unfold Go.X.left
 split <;> omega
theorem left_nn {a:Int} (h:¬ left a < 0):left a=a:=by
 unfold left at h ⊢
 split at h
 ·omega
 ·rw [if_neg (by assumption)]
theorem left_in {k:Int} {n:Nat} (h:0≤left (k - n)):(n:Int)≤k:=by
 unfold left at h
 split at h <;> omega
def szSl {α:Type} (f:α→Int→Int) (l:List α) (k:Int):Int:=szAll ((fun k=>k - l.length)::l.map f) k
theorem Sane.sl {α:Type} {f:α→Int→Int} (hf:∀ a,Sane (f a)) (l:List α):Sane (szSl f l):=by
 refine Sane.all (.cons (.sub _) fun g hg=>?_)
 obtain ⟨a,_,rfl⟩:=List.mem_map.1 hg
 exact hf a
theorem ExL_map {α:Type} {f:α→Int→Int} {n:Int}:∀ {l:List α},ExL n (l.map f)→∀ a∈l,∃ j,0≤j∧j≤n∧0≤f a j
 | [],_,a,h=>by cases h
 | b::l,⟨h1,h2⟩,a,h=>by
  rcases List.mem_cons.1 h with rfl | h
  ·exact h1
  ·exact ExL_map h2 a h
theorem szSl_in {α:Type} {f:α→Int→Int} {P:α→Prop} {n:Nat} (hf:∀ a,Sane (f a)) (hP:∀ a j,0≤j→j≤(n:Int)→0≤f a j→P a) {l:List α} {k:Int} (hk:0≤k) (hn:k≤n) (h:0≤szSl f l k):l.length≤n∧∀ a∈l,P a:=by
 obtain ⟨⟨j,h1,h2,h3⟩,h4⟩:=szAll_ex (.cons (.sub _) fun g hg=>by obtain ⟨a,_,rfl⟩:=List.mem_map.1 hg; exact hf a) hk hn h
 refine ⟨by have h5:(0:Int)≤j - (l.length:Nat):=h3; omega,fun a ha=>?_⟩
 obtain ⟨j,q1,q2,q3⟩:=ExL_map h4 a ha
 exact hP a j q1 q2 q3
def szStr (s:ByteArray) (k:Int):Int:=left (k - s.size)
theorem szStr_sane (s:ByteArray):Sane (szStr s):=Sane.left _
theorem fill_get {α:Type} (f:α→List T) (l:List α) (z:List T) {i:Nat} (hi:i < l.length):((l.take i).map f++List.replicate (l.length - i) z)[i]?=some z:=by
 rw [List.getElem?_append_right (by simp; omega),List.getElem?_replicate,if_pos (by simp; omega)]
theorem fill_set {α:Type} (f:α→List T) (l:List α) (z:List T) {i:Nat} (hi:i < l.length):((l.take i).map f++List.replicate (l.length - i) z).set i (f l[i])=(l.take (i + 1)).map f++List.replicate (l.length - (i + 1)) z:=by
 rw [List.set_append_right _ _ (by simp; omega),List.take_succ_eq_append_getElem hi,List.map_append,List.append_assoc]
 congr 1
 have e:l.length - i=(l.length - (i + 1)) + 1:=by omega
 rw [e,List.replicate_succ]
 have:i - ((l.take i).map f).length=0:=by simp; omega
 rw [this]
 rfl
theorem fill_len {α:Type} (f:α→List T) (l:List α) (z:List T) {i:Nat} (hi:i≤l.length):((l.take i).map f++List.replicate (l.length - i) z).length=l.length:=by simp; omega
theorem fill_end {α:Type} (f:α→List T) (l:List α) (z:List T):(l.take l.length).map f++List.replicate (l.length - l.length) z=l.map f:=by simp
theorem same_step {α:Type} {l m:List α} {i:Nat} (hl:i < l.length) (hm:i < m.length) (h:l.take i=m.take i) (he:l[i]=m[i]):l.take (i + 1)=m.take (i + 1):=by
 rw [List.take_succ_eq_append_getElem hl,List.take_succ_eq_append_getElem hm,h,he]
theorem same_end {α:Type} {l m:List α} {i:Nat} (hl:l.length≤i) (hm:m.length≤i) (h:l.take i=m.take i):l=m:=by
 rwa [List.take_of_length_le hl,List.take_of_length_le hm] at h
theorem all_step {α:Type} {l:List α} {p:α→Bool} {i:Nat} (hi:i < l.length) (h:(l.take i).all p=true) (h2:p l[i]=true):(l.take (i + 1)).all p=true:=by
 rw [List.take_succ_eq_append_getElem hi,List.all_append,h,List.all_cons,h2]; rfl
theorem all_not {α:Type} {l:List α} {p:α→Bool} {i:Nat} (hi:i < l.length) (h2:p l[i]=false):l.all p=false:=by
 rw [List.all_eq_false]; exact ⟨l[i],List.getElem_mem hi,by simp [h2]⟩
theorem all_end {α:Type} {l:List α} {p:α→Bool} {i:Nat} (hi:l.length≤i) (h:(l.take i).all p=true):l.all p=true:=by
 rwa [List.take_of_length_le hi] at h
def marks {α:Type} (w:Nat) (mk:Int→α) (n:Nat) (k:Int):List α:=(List.range n).map fun i=>mk (k + (w * i:Nat))
theorem marks_length {α:Type} (w:Nat) (mk:Int→α) (n:Nat) (k:Int):(marks w mk n k).length=n:=by simp [marks]
theorem marks_succ {α:Type} (w:Nat) (mk:Int→α) (n:Nat) (k:Int):marks w mk (n + 1) k=marks w mk n k++[mk (k + (w * n:Nat))]:=by simp [marks,List.range_succ]
theorem marks_get {α:Type} (w:Nat) (mk:Int→α) {n i:Nat} (k:Int) (h:i < n):(marks w mk n k)[i]?=some (mk (k + (w * i:Nat))):=by simp [marks,h]
theorem mark_get {α:Type} (f:α→List T) (w:Nat) (mk:Int→α) (l:List α) (k:Int) {i:Nat} (hi:i < l.length):((marks w mk i k).map f++(l.drop i).map f)[i]?=some (f l[i]):=by
 rw [List.getElem?_append_right (by simp [marks_length]),List.length_map,marks_length,Nat.sub_self,List.getElem?_map,List.getElem?_drop]
 simp [hi]
theorem mark_set {α:Type} (f:α→List T) (w:Nat) (mk:Int→α) (l:List α) (k:Int) {i:Nat} (hi:i < l.length):((marks w mk i k).map f++(l.drop i).map f).set i (f (mk (k + (w * i:Nat))))=(marks w mk (i + 1) k).map f++(l.drop (i + 1)).map f:=by
 rw [List.set_append_right _ _ (by simp [marks_length]),List.length_map,marks_length,Nat.sub_self,List.drop_eq_getElem_cons hi,List.map_cons,List.set_cons_zero,marks_succ,List.map_append,List.append_assoc]
 rfl
theorem mark_len {α:Type} (f:α→List T) (w:Nat) (mk:Int→α) (l:List α) (k:Int) {i:Nat} (hi:i≤l.length):((marks w mk i k).map f++(l.drop i).map f).length=l.length:=by simp [marks_length]; omega
theorem mark_reget {α:Type} (f:α→List T) (w:Nat) (mk:Int→α) (l:List α) (k:Int) {i:Nat} (hi:i < l.length) (r:List T):(((marks w mk i k).map f++(l.drop i).map f).set i r)[i]?=some r:=by
 rw [List.getElem?_set_self (by rw [mark_len f w mk l k (by omega)]; exact hi)]
theorem mark_end {α:Type} (f:α→List T) (w:Nat) (mk:Int→α) (l:List α) (k:Int):(marks w mk l.length k).map f++(l.drop l.length).map f=(marks w mk l.length k).map f:=by simp
theorem marks_take {α β:Type} (f:α→β) (w:Nat) (mk:Int→α) (n:Nat) (k:Int):((marks w mk n k).map f).take n=(marks w mk n k).map f:=by rw [List.take_of_length_le (by simp [marks_length])]
def markL {α:Type} (m:α→Int→α) (f:α→Int→Int):List α→Int→List α
 | [],_=>[]
 | x::l,k=>m x k::markL m f l (f x k)
def farL {α:Type} (f:α→Int→Int):List α→Int→Int
 | [],k=>k
 | x::l,k=>farL f l (f x k)
theorem markL_length {α:Type} (m:α→Int→α) (f:α→Int→Int):∀ (l:List α) (k:Int),(markL m f l k).length=l.length
 | [],_=>rfl
 | x::l,k=>by simp only [markL,List.length_cons,markL_length m f l]
theorem farL_take {α:Type} (f:α→Int→Int):∀ (l:List α) (k:Int) {i:Nat} (h:i < l.length),farL f (l.take (i + 1)) k=f l[i] (farL f (l.take i) k)
 | x::l,k,0,h=>by simp [farL]
 | x::l,k,i + 1,h=>by
  simp only [List.take_succ_cons,farL,List.getElem_cons_succ]
  exact farL_take f l _ (by simpa using h)
theorem markL_get {α:Type} (m:α→Int→α) (f:α→Int→Int):∀ (l:List α) (k:Int) {i:Nat} (h:i < l.length),(markL m f l k)[i]?=some (m l[i] (farL f (l.take i) k))
 | x::l,k,0,h=>by simp [markL,farL]
 | x::l,k,i + 1,h=>by
  simp only [markL,List.getElem?_cons_succ,List.take_succ_cons,farL,List.getElem_cons_succ]
  exact markL_get m f l _ (by simpa using h)
theorem markL_take {α:Type} (m:α→Int→α) (f:α→Int→Int):∀ (l:List α) (k:Int) {i:Nat} (h:i < l.length),markL m f (l.take (i + 1)) k=markL m f (l.take i) k++[m l[i] (farL f (l.take i) k)]
 | x::l,k,0,h=>by simp [markL,farL]
 | x::l,k,i + 1,h=>by
  simp only [List.take_succ_cons,markL,farL,List.cons_append,List.getElem_cons_succ]
  rw [markL_take m f l _ (by simpa using h)]
theorem farL_le {α:Type} {f:α→Int→Int} {p:α→Prop} {l:List α} {n c:Nat} {k:Int} (h:l.length≤n∧∀ y∈l,p y) (hf:∀ y,p y→∀ k,k≤f y k∧f y k≤k + (c:Nat)):k≤farL f l k∧farL f l k≤k + ((n * c:Nat):Int):=by
 obtain ⟨h1,h2⟩:=h
 have key:∀ (l:List α) (k:Int),(∀ y∈l,p y)→k≤farL f l k∧farL f l k≤k + ((l.length * c:Nat):Int):=by
  intro l
  induction l with
  | nil=>intro k _; simp [farL]
  | cons x l ih =>
   intro k hp
   have a:=hf x (hp x (List.mem_cons_self ..)) k
   have b:=ih (f x k) fun y hy=>hp y (List.mem_cons_of_mem _ hy)
   simp only [farL,List.length_cons,Nat.add_mul,Nat.one_mul]
   omega
 have a:=key l k h2
 have b:=Nat.mul_le_mul_right c h1
 omega
theorem markL_len {α:Type} (R:α→List T) (m:α→Int→α) (f:α→Int→Int) (l:List α) (k:Int) {i:Nat} (hi:i≤l.length):((markL m f (l.take i) k).map R++(l.drop i).map R).length=l.length:=by simp [markL_length]; omega
theorem markL_at {α:Type} (R:α→List T) (m:α→Int→α) (f:α→Int→Int) (l:List α) (k:Int) {i:Nat} (hi:i < l.length):((markL m f (l.take i) k).map R++(l.drop i).map R)[i]?=some (R l[i]):=by
 rw [List.getElem?_append_right (by simp [markL_length]; omega),List.length_map,markL_length,List.length_take,Nat.min_eq_left (by omega),Nat.sub_self,List.getElem?_map,List.getElem?_drop]
 simp [hi]
theorem markL_reat {α:Type} (R:α→List T) (m:α→Int→α) (f:α→Int→Int) (l:List α) (k:Int) {i:Nat} (hi:i < l.length) (r:List T):(((markL m f (l.take i) k).map R++(l.drop i).map R).set i r)[i]?=some r:=by
 rw [List.getElem?_set_self (by rw [markL_len R m f l k (by omega)]; exact hi)]
theorem markL_set {α:Type} (R:α→List T) (m:α→Int→α) (f:α→Int→Int) (l:List α) (k:Int) {i:Nat} (hi:i < l.length):((markL m f (l.take i) k).map R++(l.drop i).map R).set i (R (m l[i] (farL f (l.take i) k)))=(markL m f (l.take (i + 1)) k).map R++(l.drop (i + 1)).map R:=by
 have e:((markL m f (l.take i) k).map R).length=i:=by rw [List.length_map,markL_length,List.length_take]; omega
 rw [List.set_append_right _ _ (by omega),e,Nat.sub_self,List.drop_eq_getElem_cons hi,List.map_cons,List.set_cons_zero,markL_take m f l k hi,List.map_append,List.append_assoc]
 rfl
def mkB (k:Int):Bool:=k.tmod 3==0
theorem byte_neq (a b:UInt8):binV .neq (.int .u8 a.toNat) (.int .u8 b.toNat)=some (.bool (!decide (a=b))):=by
 have:((a.toNat:Int)=b.toNat)↔a=b:=by rw [Int.ofNat_inj]; exact UInt8.toNat_inj
 rw [bI_neq]
 by_cases h:a=b
 ·subst h; simp
 ·have h2:¬ ((a.toNat:Int)=b.toNat):=fun e=>h (this.1 e)
  simp [h,bne,h2]
def digs (n:Nat) (out:ByteArray):ByteArray:=if h:n=0 then out else digs (n / 10) (⟨#[UInt8.ofNat (48 + n % 10)]⟩++out)
termination_by n
decreasing_by omega
def mkS (k:Int):ByteArray:=if k≤0 then ⟨#[109,48]⟩ else ⟨#[109]⟩++digs k.toNat ⟨#[]⟩
def mkI (k:Int):Int:=k
def mkU (k:Int):UInt8:=UInt8.ofNat (k % 256).toNat
theorem mkU_wrap (k:Int):IntKind.u8.wrap k=((mkU k).toNat:Int):=by
 have h1:=Int.emod_nonneg k (show (256:Int)≠0 by decide)
 have h2:=Int.emod_lt_of_pos k (show (0:Int) < 256 by decide)
 have h3:(mkU k).toNat=(k % 256).toNat:=by
  rw [mkU,UInt8.toNat_ofNat',Nat.mod_eq_of_lt (by omega)]
 rw [h3,IntKind.wrap_u8]
 omega
abbrev C_l_markText (Te:TE):Prop:=∀ (k:Int) (hk:0≤k∧k≤2 ^ 48),Te 146 [.one (iT k)] ⟨[.one (sT (mkS k))],[[iT k]]⟩
abbrev C_l_szBoolS (Te:TE):Prop:=∀ (l:List Bool) (k:Int) (hl:l.length≤2 ^ 48) (hk:0≤k∧k≤2 ^ 48),Te 211 [.one (slT false 1 bR l),.one (iT k)] ⟨[.one (iT (left (k - (l.length:Nat))))],[[slT false 1 bR l],[iT k]]⟩
abbrev C_l_toBoolS (Te:TE):Prop:=∀ (l:List Bool) (hl:l.length≤2 ^ 31),Te 217 [.one (slT false 1 bR l)] ⟨[.one (slT true 1 bR l)],[[slT false 1 bR l]]⟩
abbrev C_l_eqBoolS (Te:TE):Prop:=∀ (l m:List Bool) (hl:l.length≤2 ^ 31),Te 223 [.one (slT false 1 bR l),.one (slT false 1 bR m)] ⟨[.one (bT (decide (l=m)))],[[slT false 1 bR l],[slT false 1 bR m]]⟩
abbrev C_l_markBoolS (Te:TE):Prop:=∀ (l:List Bool) (k:Int) (hl:l.length≤2 ^ 31) (hk:0≤k∧k≤2 ^ 46),Te 228 [.one (slT true 1 bR l),.one (iT k)] ⟨[.one (iT (k + (1 * l.length:Nat)))],[[slT true 1 bR (marks 1 mkB l.length k)],[iT k]]⟩
abbrev C_l_heldBoolS (Te:TE):Prop:=∀ (n:Nat) (k:Int) (hl:n≤2 ^ 31) (hk:0≤k∧k≤2 ^ 46),Te 237 [.one (slT false 1 bR (marks 1 mkB n k)),.one (iT k)] ⟨[.one (iT (k + (1 * n:Nat)))],[[slT false 1 bR (marks 1 mkB n k)],[iT k]]⟩
abbrev C_l_szByteS (Te:TE):Prop:=∀ (l:List UInt8) (k:Int) (hl:l.length≤2 ^ 48) (hk:0≤k∧k≤2 ^ 48),Te 373 [.one (slT false 1 uR l),.one (iT k)] ⟨[.one (iT (left (k - (l.length:Nat))))],[[slT false 1 uR l],[iT k]]⟩
abbrev C_l_toByteS (Te:TE):Prop:=∀ (l:List UInt8) (hl:l.length≤2 ^ 31),Te 376 [.one (slT false 1 uR l)] ⟨[.one (slT true 1 uR l)],[[slT false 1 uR l]]⟩
abbrev C_l_eqByteS (Te:TE):Prop:=∀ (l m:List UInt8) (hl:l.length≤2 ^ 31),Te 380 [.one (slT false 1 uR l),.one (slT false 1 uR m)] ⟨[.one (bT (decide (l=m)))],[[slT false 1 uR l],[slT false 1 uR m]]⟩
abbrev C_l_markByteS (Te:TE):Prop:=∀ (l:List UInt8) (k:Int) (hl:l.length≤2 ^ 31) (hk:0≤k∧k≤2 ^ 46),Te 300 [.one (slT true 1 uR l),.one (iT k)] ⟨[.one (iT (k + (1 * l.length:Nat)))],[[slT true 1 uR (marks 1 mkU l.length k)],[iT k]]⟩
abbrev C_l_heldByteS (Te:TE):Prop:=∀ (n:Nat) (k:Int) (hl:n≤2 ^ 31) (hk:0≤k∧k≤2 ^ 46),Te 301 [.one (slT false 1 uR (marks 1 mkU n k)),.one (iT k)] ⟨[.one (iT (k + (1 * n:Nat)))],[[slT false 1 uR (marks 1 mkU n k)],[iT k]]⟩
abbrev C_l_szStringS (Te:TE):Prop:=∀ (l:List ByteArray) (k:Int) (hk:0≤k∧k≤2 ^ 48) (hl:l.length≤2 ^ 48) (hs:∀ y∈l,y.size≤2 ^ 48),Te 212 [.one (slT false 1 sR l),.one (iT k)] ⟨[.one (iT (szSl szStr l k))],[[slT false 1 sR l],[iT k]]⟩
abbrev C_l_toStringS (Te:TE):Prop:=∀ (l:List ByteArray) (hl:l.length≤2 ^ 31),Te 218 [.one (slT false 1 sR l)] ⟨[.one (slT true 1 sR l)],[[slT false 1 sR l]]⟩
abbrev C_l_eqStringS (Te:TE):Prop:=∀ (l m:List ByteArray) (hl:l.length≤2 ^ 31),Te 224 [.one (slT false 1 sR l),.one (slT false 1 sR m)] ⟨[.one (bT (decide (l=m)))],[[slT false 1 sR l],[slT false 1 sR m]]⟩
abbrev C_l_markStringS (Te:TE):Prop:=∀ (l:List ByteArray) (k:Int) (hl:l.length≤2 ^ 31) (hk:0≤k∧k≤2 ^ 46),Te 229 [.one (slT true 1 sR l),.one (iT k)] ⟨[.one (iT (k + (1 * l.length:Nat)))],[[slT true 1 sR (marks 1 mkS l.length k)],[iT k]]⟩
abbrev C_l_heldStringS (Te:TE):Prop:=∀ (n:Nat) (k:Int) (hl:n≤2 ^ 31) (hk:0≤k∧k≤2 ^ 46),Te 238 [.one (slT false 1 sR (marks 1 mkS n k)),.one (iT k)] ⟨[.one (iT (k + (1 * n:Nat)))],[[slT false 1 sR (marks 1 mkS n k)],[iT k]]⟩
structure Msg where
 Kind:Int
 From:Int
 To:Int
 Seq:Int
 Key:ByteArray
 Text:ByteArray
 N:Int
 Code:Int
 deriving DecidableEq
abbrev Msg.row (x:Msg):List Go.X.T:=[iT x.Kind,iT x.From,iT x.To,iT x.Seq,sT x.Key,sT x.Text,iT x.N,iT x.Code]
def Msg.In (n:Nat) (x:Msg):Prop:=x.Key.size≤n∧x.Text.size≤n
theorem Msg.In.mono {x:Msg} {n m:Nat} (h:x.In n) (hn:n≤m):x.In m:=by
 simp only [Msg.In] at h ⊢
 exact ⟨Nat.le_trans h.1 hn,Nat.le_trans h.2 hn⟩
def szMsg (x:Msg) (k:Int):Int:=szAll [(fun k=>k - (x.Key.size:Nat)),(fun k=>k - (x.Text.size:Nat))] k
theorem szMsg_sane (x:Msg):Sane (szMsg x):=Sane.all (.cons (Sane.sub _) (.cons (Sane.sub _) .nil))
theorem szMsg_in {x:Msg} {k:Int} {n:Nat} (hk:0≤k) (hn:k≤n) (h:0≤szMsg x k):x.In n:=by
 obtain ⟨⟨j0,a0,b0,c0⟩,⟨j1,a1,b1,c1⟩,_⟩:=szAll_ex (.cons (Sane.sub _) (.cons (Sane.sub _) .nil)) hk hn h
 exact ⟨(by have q:(0:Int)≤j0 - _:=c0; omega),(by have q:(0:Int)≤j1 - _:=c1; omega)⟩
def mkMsg (k:Int):Msg:=⟨k,k + 1,k + 1 + 1,k + 1 + 1 + 1,mkS (k + 1 + 1 + 1 + 1),mkS (k + 1 + 1 + 1 + 1 + 1),k + 1 + 1 + 1 + 1 + 1 + 1,k + 1 + 1 + 1 + 1 + 1 + 1 + 1⟩
abbrev C_l_szMsg (Te:TE):Prop:=∀ (x:Msg) (k:Int) (hx:x.In (2 ^ 48)) (hk:0≤k∧k≤2 ^ 48),Te 215 [.agg x.row,.one (iT k)] ⟨[.one (iT (szMsg x k))],[x.row,[iT k]]⟩
abbrev C_l_toMsg (Te:TE):Prop:=∀ (x:Msg),Te 221 [.agg x.row] ⟨[.agg x.row],[x.row]⟩
abbrev C_l_eqMsg (Te:TE):Prop:=∀ (x y:Msg),Te 227 [.agg x.row,.agg y.row] ⟨[.one (bT (decide (x=y)))],[x.row,y.row]⟩
abbrev C_l_szMsgS (Te:TE):Prop:=∀ (l:List Msg) (k:Int) (hk:0≤k∧k≤2 ^ 48) (hl:l.length≤2 ^ 48) (hs:∀ y∈l,y.In (2 ^ 48)),Te 126 [.one (slT false 8 Msg.row l),.one (iT k)] ⟨[.one (iT (szSl szMsg l k))],[[slT false 8 Msg.row l],[iT k]]⟩
abbrev C_l_toMsgS (Te:TE):Prop:=∀ (l:List Msg) (hl:l.length≤2 ^ 31),Te 132 [.one (slT false 8 Msg.row l)] ⟨[.one (slT true 8 Msg.row l)],[[slT false 8 Msg.row l]]⟩
abbrev C_l_eqMsgS (Te:TE):Prop:=∀ (l m:List Msg) (hl:l.length≤2 ^ 31),Te 139 [.one (slT false 8 Msg.row l),.one (slT false 8 Msg.row m)] ⟨[.one (bT (decide (l=m)))],[[slT false 8 Msg.row l],[slT false 8 Msg.row m]]⟩
abbrev C_l_markMsgS (Te:TE):Prop:=∀ (l:List Msg) (k:Int) (hl:l.length≤2 ^ 31) (hk:0≤k∧k≤2 ^ 46),Te 144 [.one (slT true 8 Msg.row l),.one (iT k)] ⟨[.one (iT (k + (8 * l.length:Nat)))],[[slT true 8 Msg.row (marks 8 mkMsg l.length k)],[iT k]]⟩
abbrev C_l_heldMsgS (Te:TE):Prop:=∀ (n:Nat) (k:Int) (hl:n≤2 ^ 31) (hk:0≤k∧k≤2 ^ 46),Te 154 [.one (slT false 8 Msg.row (marks 8 mkMsg n k)),.one (iT k)] ⟨[.one (iT (k + (8 * n:Nat)))],[[slT false 8 Msg.row (marks 8 mkMsg n k)],[iT k]]⟩
structure Lead where
 Phase:Int
 Acked:List Bool
 Ended:List Bool
 At:List ByteArray
 deriving DecidableEq
abbrev Lead.enc (o:Bool) (x:Lead):List Go.X.T:=[iT x.Phase,slT o 1 bR x.Acked,slT o 1 bR x.Ended,slT o 1 sR x.At]
def Lead.In (n:Nat) (x:Lead):Prop:=x.Acked.length≤n∧x.Ended.length≤n∧(x.At.length≤n∧∀ y∈x.At,y.size≤n)
theorem Lead.In.mono {x:Lead} {n m:Nat} (h:x.In n) (hn:n≤m):x.In m:=by
 simp only [Lead.In] at h ⊢
 exact ⟨Nat.le_trans h.1 hn,Nat.le_trans h.2.1 hn,⟨Nat.le_trans h.2.2.1 hn,fun y hy=>Nat.le_trans (h.2.2.2 y hy) hn⟩⟩
def szLead (x:Lead) (k:Int):Int:=szAll [(fun k=>left (k - (x.Acked.length:Nat))),(fun k=>left (k - (x.Ended.length:Nat))),(szSl szStr x.At)] k
theorem szLead_sane (x:Lead):Sane (szLead x):=Sane.all (.cons (Sane.left _) (.cons (Sane.left _) (.cons (Sane.sl szStr_sane _) .nil)))
theorem szLead_in {x:Lead} {k:Int} {n:Nat} (hk:0≤k) (hn:k≤n) (h:0≤szLead x k):x.In n:=by
 obtain ⟨⟨j0,a0,b0,c0⟩,⟨j1,a1,b1,c1⟩,⟨j2,a2,b2,c2⟩,_⟩:=szAll_ex (.cons (Sane.left _) (.cons (Sane.left _) (.cons (Sane.sl szStr_sane _) .nil))) hk hn h
 exact ⟨(by have:=left_in c0; omega),(by have:=left_in c1; omega),(szSl_in szStr_sane (fun a j h0 hn h=>by have:=left_in h; omega) a2 b2 c2)⟩
def Lead.Len (x:Lead):Prop:=x.Acked.length≤2 ^ 31∧x.Ended.length≤2 ^ 31∧x.At.length≤2 ^ 31
theorem Lead.In.len {x:Lead} {n:Nat} (h:x.In n) (hn:n≤2 ^ 31):x.Len:=by
 obtain ⟨h0,h1,h2⟩:=h
 exact ⟨Nat.le_trans h0 hn,Nat.le_trans h1 hn,Nat.le_trans h2.1 hn⟩
def Lead.mark (x:Lead) (k:Int):Lead:=⟨x.Phase,marks 1 mkB x.Acked.length (k),marks 1 mkB x.Ended.length (k + (1 * x.Acked.length:Nat)),marks 1 mkS x.At.length (k + (1 * x.Acked.length:Nat) + (1 * x.Ended.length:Nat))⟩
def Lead.far (x:Lead) (k:Int):Int:=k + (1 * x.Acked.length:Nat) + (1 * x.Ended.length:Nat) + (1 * x.At.length:Nat)
theorem Lead.mark_Acked (x:Lead) (k:Int):(x.mark k).Acked.length=x.Acked.length:=by simp [Lead.mark,marks_length,markL_length]
theorem Lead.take_Acked {β:Type} (f:Bool→β) (x:Lead) (k:Int):((x.mark k).Acked.map f).take x.Acked.length=(x.mark k).Acked.map f:=by rw [← x.mark_Acked k,take_map]
theorem Lead.mark_Ended (x:Lead) (k:Int):(x.mark k).Ended.length=x.Ended.length:=by simp [Lead.mark,marks_length,markL_length]
theorem Lead.take_Ended {β:Type} (f:Bool→β) (x:Lead) (k:Int):((x.mark k).Ended.map f).take x.Ended.length=(x.mark k).Ended.map f:=by rw [← x.mark_Ended k,take_map]
theorem Lead.mark_At (x:Lead) (k:Int):(x.mark k).At.length=x.At.length:=by simp [Lead.mark,marks_length,markL_length]
theorem Lead.take_At {β:Type} (f:ByteArray→β) (x:Lead) (k:Int):((x.mark k).At.map f).take x.At.length=(x.mark k).At.map f:=by rw [← x.mark_At k,take_map]
abbrev C_l_szLead (Te:TE):Prop:=∀ (x:Lead) (k:Int) (hx:x.In (2 ^ 48)) (hk:0≤k∧k≤2 ^ 48),Te 123 [.agg (x.enc false),.one (iT k)] ⟨[.one (iT (szLead x k))],[(x.enc false),[iT k]]⟩
abbrev C_l_toLead (Te:TE):Prop:=∀ (x:Lead) (hx:x.Len),Te 129 [.agg (x.enc false)] ⟨[.agg (x.enc true)],[(x.enc false)]⟩
abbrev C_l_eqLead (Te:TE):Prop:=∀ (x y:Lead) (hx:x.Len),Te 136 [.agg (x.enc false),.agg (y.enc false)] ⟨[.one (bT (decide (x=y)))],[(x.enc false),(y.enc false)]⟩
abbrev C_l_markLead (Te:TE):Prop:=∀ (x:Lead) (k:Int) (hx:x.Len) (hk:0≤k∧k≤2 ^ 40),Te 141 [.agg (x.enc true),.one (iT k)] ⟨[.one (iT (x.far k))],[(x.mark k).enc true,[iT k]]⟩
abbrev C_l_heldLead (Te:TE):Prop:=∀ (x:Lead) (k:Int) (hx:x.Len) (hk:0≤k∧k≤2 ^ 40),Te 151 [.agg ((x.mark k).enc false),.one (iT k)] ⟨[.one (iT (x.far k))],[(x.mark k).enc false,[iT k]]⟩
structure DoneV where
 Seq:Int
 Kind:Int
 Key:ByteArray
 Text:ByteArray
 Code:Int
 deriving DecidableEq
abbrev DoneV.row (x:DoneV):List Go.X.T:=[iT x.Seq,iT x.Kind,sT x.Key,sT x.Text,iT x.Code]
def DoneV.In (n:Nat) (x:DoneV):Prop:=x.Key.size≤n∧x.Text.size≤n
theorem DoneV.In.mono {x:DoneV} {n m:Nat} (h:x.In n) (hn:n≤m):x.In m:=by
 simp only [DoneV.In] at h ⊢
 exact ⟨Nat.le_trans h.1 hn,Nat.le_trans h.2 hn⟩
def szDone (x:DoneV) (k:Int):Int:=szAll [(fun k=>k - (x.Key.size:Nat)),(fun k=>k - (x.Text.size:Nat))] k
theorem szDone_sane (x:DoneV):Sane (szDone x):=Sane.all (.cons (Sane.sub _) (.cons (Sane.sub _) .nil))
theorem szDone_in {x:DoneV} {k:Int} {n:Nat} (hk:0≤k) (hn:k≤n) (h:0≤szDone x k):x.In n:=by
 obtain ⟨⟨j0,a0,b0,c0⟩,⟨j1,a1,b1,c1⟩,_⟩:=szAll_ex (.cons (Sane.sub _) (.cons (Sane.sub _) .nil)) hk hn h
 exact ⟨(by have q:(0:Int)≤j0 - _:=c0; omega),(by have q:(0:Int)≤j1 - _:=c1; omega)⟩
def mkDone (k:Int):DoneV:=⟨k,k + 1,mkS (k + 1 + 1),mkS (k + 1 + 1 + 1),k + 1 + 1 + 1 + 1⟩
abbrev C_l_szDone (Te:TE):Prop:=∀ (x:DoneV) (k:Int) (hx:x.In (2 ^ 48)) (hk:0≤k∧k≤2 ^ 48),Te 343 [.agg x.row,.one (iT k)] ⟨[.one (iT (szDone x k))],[x.row,[iT k]]⟩
abbrev C_l_toDone (Te:TE):Prop:=∀ (x:DoneV),Te 346 [.agg x.row] ⟨[.agg x.row],[x.row]⟩
abbrev C_l_eqDone (Te:TE):Prop:=∀ (x y:DoneV),Te 349 [.agg x.row,.agg y.row] ⟨[.one (bT (decide (x=y)))],[x.row,y.row]⟩
abbrev C_l_szDoneS (Te:TE):Prop:=∀ (l:List DoneV) (k:Int) (hk:0≤k∧k≤2 ^ 48) (hl:l.length≤2 ^ 48) (hs:∀ y∈l,y.In (2 ^ 48)),Te 295 [.one (slT false 5 DoneV.row l),.one (iT k)] ⟨[.one (iT (szSl szDone l k))],[[slT false 5 DoneV.row l],[iT k]]⟩
abbrev C_l_toDoneS (Te:TE):Prop:=∀ (l:List DoneV) (hl:l.length≤2 ^ 31),Te 297 [.one (slT false 5 DoneV.row l)] ⟨[.one (slT true 5 DoneV.row l)],[[slT false 5 DoneV.row l]]⟩
abbrev C_l_eqDoneS (Te:TE):Prop:=∀ (l m:List DoneV) (hl:l.length≤2 ^ 31),Te 299 [.one (slT false 5 DoneV.row l),.one (slT false 5 DoneV.row m)] ⟨[.one (bT (decide (l=m)))],[[slT false 5 DoneV.row l],[slT false 5 DoneV.row m]]⟩
abbrev C_l_markDoneS (Te:TE):Prop:=∀ (l:List DoneV) (k:Int) (hl:l.length≤2 ^ 31) (hk:0≤k∧k≤2 ^ 46),Te 234 [.one (slT true 5 DoneV.row l),.one (iT k)] ⟨[.one (iT (k + (5 * l.length:Nat)))],[[slT true 5 DoneV.row (marks 5 mkDone l.length k)],[iT k]]⟩
abbrev C_l_heldDoneS (Te:TE):Prop:=∀ (n:Nat) (k:Int) (hl:n≤2 ^ 31) (hk:0≤k∧k≤2 ^ 46),Te 243 [.one (slT false 5 DoneV.row (marks 5 mkDone n k)),.one (iT k)] ⟨[.one (iT (k + (5 * n:Nat)))],[[slT false 5 DoneV.row (marks 5 mkDone n k)],[iT k]]⟩
structure ClientV where
 Id:Int
 Seq:Int
 Busy:Bool
 M:Msg
 Dones:List DoneV
 deriving DecidableEq
abbrev ClientV.enc (o:Bool) (x:ClientV):List Go.X.T:=[iT x.Id,iT x.Seq,bT x.Busy,iT x.M.Kind,iT x.M.From,iT x.M.To,iT x.M.Seq,sT x.M.Key,sT x.M.Text,iT x.M.N,iT x.M.Code,slT o 5 DoneV.row x.Dones]
def ClientV.In (n:Nat) (x:ClientV):Prop:=x.M.In (n)∧(x.Dones.length≤n∧∀ y∈x.Dones,y.In (n))
theorem ClientV.In.mono {x:ClientV} {n m:Nat} (h:x.In n) (hn:n≤m):x.In m:=by
 simp only [ClientV.In] at h ⊢
 exact ⟨h.1.mono hn,⟨Nat.le_trans h.2.1 hn,fun y hy=>(h.2.2 y hy).mono hn⟩⟩
def szClient (x:ClientV) (k:Int):Int:=szAll [(szMsg x.M),(szSl szDone x.Dones)] k
theorem szClient_sane (x:ClientV):Sane (szClient x):=Sane.all (.cons (szMsg_sane _) (.cons (Sane.sl szDone_sane _) .nil))
theorem szClient_in {x:ClientV} {k:Int} {n:Nat} (hk:0≤k) (hn:k≤n) (h:0≤szClient x k):x.In n:=by
 obtain ⟨⟨j0,a0,b0,c0⟩,⟨j1,a1,b1,c1⟩,_⟩:=szAll_ex (.cons (szMsg_sane _) (.cons (Sane.sl szDone_sane _) .nil)) hk hn h
 exact ⟨(szMsg_in a0 b0 c0),(szSl_in szDone_sane (fun a j h0 hn h=>szDone_in h0 hn h) a1 b1 c1)⟩
def ClientV.Len (x:ClientV):Prop:=x.Dones.length≤2 ^ 31
theorem ClientV.In.len {x:ClientV} {n:Nat} (h:x.In n) (hn:n≤2 ^ 31):x.Len:=by
 obtain ⟨h0,h1⟩:=h
 exact Nat.le_trans h1.1 hn
def ClientV.mark (x:ClientV) (k:Int):ClientV:=⟨x.Id,x.Seq,x.Busy,x.M,marks 5 mkDone x.Dones.length (k)⟩
def ClientV.far (x:ClientV) (k:Int):Int:=k + (5 * x.Dones.length:Nat)
theorem ClientV.mark_Dones (x:ClientV) (k:Int):(x.mark k).Dones.length=x.Dones.length:=by simp [ClientV.mark,marks_length,markL_length]
theorem ClientV.take_Dones {β:Type} (f:DoneV→β) (x:ClientV) (k:Int):((x.mark k).Dones.map f).take x.Dones.length=(x.mark k).Dones.map f:=by rw [← x.mark_Dones k,take_map]
abbrev C_l_szClient (Te:TE):Prop:=∀ (x:ClientV) (k:Int) (hx:x.In (2 ^ 48)) (hk:0≤k∧k≤2 ^ 48),Te 214 [.agg (x.enc false),.one (iT k)] ⟨[.one (iT (szClient x k))],[(x.enc false),[iT k]]⟩
abbrev C_l_toClient (Te:TE):Prop:=∀ (x:ClientV) (hx:x.Len),Te 220 [.agg (x.enc false)] ⟨[.agg (x.enc true)],[(x.enc false)]⟩
abbrev C_l_eqClient (Te:TE):Prop:=∀ (x y:ClientV) (hx:x.Len),Te 226 [.agg (x.enc false),.agg (y.enc false)] ⟨[.one (bT (decide (x=y)))],[(x.enc false),(y.enc false)]⟩
theorem own_sl {τ:Type} {o:Bool} {z:Nat} {h:τ} {rows:List (List (Tr τ))}:Tr.own (.sl o z h rows)=o:=rfl
theorem cellAt_sl {τ:Type} {o:Bool} {z:Nat} {h:τ} {rows:List (List (Tr τ))} {i j:Nat}:cellAt (.sl o z h rows) i j=(rows[i]?).bind (·[j]?):=rfl
theorem setCell_sl {τ:Type} {o:Bool} {z:Nat} {h:τ} {rows:List (List (Tr τ))} {i j:Nat} {u:Tr τ}:setCell (.sl o z h rows) i j u = .sl o z h (rows.set i ((rows[i]?.getD []).set j u)):=by
 simp only [setCell,setRows,Tr.rows,List.getD_eq_getElem?_getD]
attribute [go_sem] own_sl cellAt_sl setCell_sl
theorem back_bif {α:Type} {Te:Nat→List AV→Res→Prop} {c:Bool} {f:St→Bool} {p:Prg α} {st:St} {Q:α→St→Prop} (h:f st=true) (hp:runP Te p st Q):runP Te (bif c then p else .all f p) st Q:=by
 cases c
 ·exact ⟨⟨_,fun _=>rfl,fun _=>rfl,h⟩,hp⟩
 ·exact hp
structure CellV where
 Tag:Int
 B:List UInt8
 deriving DecidableEq
abbrev CellV.enc (o:Bool) (x:CellV):List Go.X.T:=[iT x.Tag,slT o 1 uR x.B]
def CellV.In (n:Nat) (x:CellV):Prop:=x.B.length≤n
theorem CellV.In.mono {x:CellV} {n m:Nat} (h:x.In n) (hn:n≤m):x.In m:=by
 simp only [CellV.In] at h ⊢
 exact Nat.le_trans h hn
def szCell (x:CellV) (k:Int):Int:=szAll [(fun k=>left (k - (x.B.length:Nat)))] k
theorem szCell_sane (x:CellV):Sane (szCell x):=Sane.all (.cons (Sane.left _) .nil)
theorem szCell_in {x:CellV} {k:Int} {n:Nat} (hk:0≤k) (hn:k≤n) (h:0≤szCell x k):x.In n:=by
 obtain ⟨⟨j0,a0,b0,c0⟩,_⟩:=szAll_ex (.cons (Sane.left _) .nil) hk hn h
 show x.B.length≤n
 exact (by have:=left_in c0; omega)
def CellV.Len (x:CellV):Prop:=x.B.length≤2 ^ 21
theorem CellV.In.len {x:CellV} {n:Nat} (h:x.In n) (hn:n≤2 ^ 21):x.Len:=by
 have h0:x.B.length≤n:=h
 exact Nat.le_trans h0 hn
def CellV.mark (x:CellV) (k:Int):CellV:=⟨x.Tag,marks 1 mkU x.B.length (k)⟩
def CellV.far (x:CellV) (k:Int):Int:=k + (1 * x.B.length:Nat)
theorem CellV.mark_B (x:CellV) (k:Int):(x.mark k).B.length=x.B.length:=by simp [CellV.mark,marks_length,markL_length]
theorem CellV.take_B {β:Type} (f:UInt8→β) (x:CellV) (k:Int):((x.mark k).B.map f).take x.B.length=(x.mark k).B.map f:=by rw [← x.mark_B k,take_map]
theorem CellV.far_le {x:CellV} (hx:x.Len) (k:Int):k≤x.far k∧x.far k≤k + 2097152:=by
 have h0:x.B.length≤2 ^ 21:=hx
 simp only [CellV.far]
 omega
abbrev C_l_szCell (Te:TE):Prop:=∀ (x:CellV) (k:Int) (hx:x.In (2 ^ 48)) (hk:0≤k∧k≤2 ^ 48),Te 386 [.agg (x.enc false),.one (iT k)] ⟨[.one (iT (szCell x k))],[(x.enc false),[iT k]]⟩
abbrev C_l_toCell (Te:TE):Prop:=∀ (x:CellV) (hx:x.Len),Te 387 [.agg (x.enc false)] ⟨[.agg (x.enc true)],[(x.enc false)]⟩
abbrev C_l_eqCell (Te:TE):Prop:=∀ (x y:CellV) (hx:x.Len),Te 388 [.agg (x.enc false),.agg (y.enc false)] ⟨[.one (bT (decide (x=y)))],[(x.enc false),(y.enc false)]⟩
structure RowV where
 Key:ByteArray
 Old:CellV
 New:CellV
 Has:Int
 Aside:Bool
 deriving DecidableEq
abbrev RowV.enc (o:Bool) (x:RowV):List Go.X.T:=[sT x.Key,iT x.Old.Tag,slT o 1 uR x.Old.B,iT x.New.Tag,slT o 1 uR x.New.B,iT x.Has,bT x.Aside]
def RowV.In (n:Nat) (x:RowV):Prop:=x.Key.size≤n∧x.Old.In (n)∧x.New.In (n)
theorem RowV.In.mono {x:RowV} {n m:Nat} (h:x.In n) (hn:n≤m):x.In m:=by
 simp only [RowV.In] at h ⊢
 exact ⟨Nat.le_trans h.1 hn,h.2.1.mono hn,h.2.2.mono hn⟩
def szRow (x:RowV) (k:Int):Int:=szAll [(fun k=>k - (x.Key.size:Nat)),(szCell x.Old),(szCell x.New)] k
theorem szRow_sane (x:RowV):Sane (szRow x):=Sane.all (.cons (Sane.sub _) (.cons (szCell_sane _) (.cons (szCell_sane _) .nil)))
theorem szRow_in {x:RowV} {k:Int} {n:Nat} (hk:0≤k) (hn:k≤n) (h:0≤szRow x k):x.In n:=by
 obtain ⟨⟨j0,a0,b0,c0⟩,⟨j1,a1,b1,c1⟩,⟨j2,a2,b2,c2⟩,_⟩:=szAll_ex (.cons (Sane.sub _) (.cons (szCell_sane _) (.cons (szCell_sane _) .nil))) hk hn h
 exact ⟨(by have q:(0:Int)≤j0 - _:=c0; omega),(szCell_in a1 b1 c1),(szCell_in a2 b2 c2)⟩
def RowV.Len (x:RowV):Prop:=x.Old.Len∧x.New.Len
theorem RowV.In.len {x:RowV} {n:Nat} (h:x.In n) (hn:n≤2 ^ 21):x.Len:=by
 obtain ⟨h0,h1,h2⟩:=h
 exact ⟨(h1).len hn,(h2).len hn⟩
def RowV.mark (x:RowV) (k:Int):RowV:=⟨x.Key,x.Old.mark (k),x.New.mark (x.Old.far (k)),x.Has,x.Aside⟩
def RowV.far (x:RowV) (k:Int):Int:=x.New.far (x.Old.far (k))
theorem RowV.mark_Old_B (x:RowV) (k:Int):(x.mark k).Old.B.length=x.Old.B.length:=by simp [RowV.mark,CellV.mark,marks_length,markL_length]
theorem RowV.take_Old_B {β:Type} (f:UInt8→β) (x:RowV) (k:Int):((x.mark k).Old.B.map f).take x.Old.B.length=(x.mark k).Old.B.map f:=by rw [← x.mark_Old_B k,take_map]
theorem RowV.mark_New_B (x:RowV) (k:Int):(x.mark k).New.B.length=x.New.B.length:=by simp [RowV.mark,CellV.mark,marks_length,markL_length]
theorem RowV.take_New_B {β:Type} (f:UInt8→β) (x:RowV) (k:Int):((x.mark k).New.B.map f).take x.New.B.length=(x.mark k).New.B.map f:=by rw [← x.mark_New_B k,take_map]
theorem RowV.far_le {x:RowV} (hx:x.Len) (k:Int):k≤x.far k∧x.far k≤k + 4194304:=by
 obtain ⟨h0,h1⟩:=hx
 have w0:=CellV.far_le h0 k
 have w1:=CellV.far_le h1 (x.Old.far k)
 simp only [RowV.far]
 omega
def RowV.markE (x:RowV) (k:Int):RowV:=⟨mkS (k),⟨k + 1,marks 1 mkU x.Old.B.length (k + 1 + 1)⟩,⟨k + 1 + 1 + (1 * x.Old.B.length:Nat),marks 1 mkU x.New.B.length (k + 1 + 1 + (1 * x.Old.B.length:Nat) + 1)⟩,k + 1 + 1 + (1 * x.Old.B.length:Nat) + 1 + (1 * x.New.B.length:Nat),mkB (k + 1 + 1 + (1 * x.Old.B.length:Nat) + 1 + (1 * x.New.B.length:Nat) + 1)⟩
def RowV.farE (x:RowV) (k:Int):Int:=k + 1 + 1 + (1 * x.Old.B.length:Nat) + 1 + (1 * x.New.B.length:Nat) + 1 + 1
theorem RowV.farE_le {x:RowV} (hx:x.Len) (k:Int):k≤x.farE k∧x.farE k≤k + 4194309:=by
 obtain ⟨h0,h1⟩:=hx
 have h0':x.Old.B.length≤2 ^ 21:=h0
 have h1':x.New.B.length≤2 ^ 21:=h1
 simp only [RowV.farE]
 omega
abbrev C_l_szRow (Te:TE):Prop:=∀ (x:RowV) (k:Int) (hx:x.In (2 ^ 48)) (hk:0≤k∧k≤2 ^ 48),Te 375 [.agg (x.enc false),.one (iT k)] ⟨[.one (iT (szRow x k))],[(x.enc false),[iT k]]⟩
abbrev C_l_toRow (Te:TE):Prop:=∀ (x:RowV) (hx:x.Len),Te 378 [.agg (x.enc false)] ⟨[.agg (x.enc true)],[(x.enc false)]⟩
abbrev C_l_eqRow (Te:TE):Prop:=∀ (x y:RowV) (hx:x.Len),Te 382 [.agg (x.enc false),.agg (y.enc false)] ⟨[.one (bT (decide (x=y)))],[(x.enc false),(y.enc false)]⟩
abbrev C_l_szByteSS (Te:TE):Prop:=∀ (l:List (List UInt8)) (k:Int) (hk:0≤k∧k≤2 ^ 48) (hl:l.length≤2 ^ 48) (hs:∀ y∈l,y.length≤2 ^ 48),Te 357 [.one (slT false 1 (fun y=>[slT false 1 uR y]) l),.one (iT k)] ⟨[.one (iT (szSl (fun y k=>left (k - y.length)) l k))],[[slT false 1 (fun y=>[slT false 1 uR y]) l],[iT k]]⟩
abbrev C_l_toByteSS (Te:TE):Prop:=∀ (l:List (List UInt8)) (hl:(l.length≤2 ^ 21∧∀ y∈l,y.length≤2 ^ 21)),Te 361 [.one (slT false 1 (fun y=>[slT false 1 uR y]) l)] ⟨[.one (slT true 1 (fun y=>[slT true 1 uR y]) l)],[[slT false 1 (fun y=>[slT false 1 uR y]) l]]⟩
abbrev C_l_eqByteSS (Te:TE):Prop:=∀ (l m:List (List UInt8)) (hl:(l.length≤2 ^ 21∧∀ y∈l,y.length≤2 ^ 21)),Te 365 [.one (slT false 1 (fun y=>[slT false 1 uR y]) l),.one (slT false 1 (fun y=>[slT false 1 uR y]) m)] ⟨[.one (bT (decide (l=m)))],[[slT false 1 (fun y=>[slT false 1 uR y]) l],[slT false 1 (fun y=>[slT false 1 uR y]) m]]⟩
abbrev C_l_markByteSS (Te:TE):Prop:=∀ (l:List (List UInt8)) (k:Int) (hl:(l.length≤2 ^ 21∧∀ y∈l,y.length≤2 ^ 21)) (hk:0≤k∧k≤2 ^ 44),Te 230 [.one (slT true 1 (fun y=>[slT true 1 uR y]) l),.one (iT k)] ⟨[.one (iT (farL (fun y k=>k + (1 * y.length:Nat)) l k))],[[slT true 1 (fun y=>[slT true 1 uR y]) (markL (fun y k=>marks 1 mkU y.length k) (fun y k=>k + (1 * y.length:Nat)) l k)],[iT k]]⟩
abbrev C_l_heldByteSS (Te:TE):Prop:=∀ (l:List (List UInt8)) (k:Int) (hl:(l.length≤2 ^ 21∧∀ y∈l,y.length≤2 ^ 21)) (hk:0≤k∧k≤2 ^ 44),Te 239 [.one (slT false 1 (fun y=>[slT false 1 uR y]) (markL (fun y k=>marks 1 mkU y.length k) (fun y k=>k + (1 * y.length:Nat)) l k)),.one (iT k)] ⟨[.one (iT (farL (fun y k=>k + (1 * y.length:Nat)) l k))],[[slT false 1 (fun y=>[slT false 1 uR y]) (markL (fun y k=>marks 1 mkU y.length k) (fun y k=>k + (1 * y.length:Nat)) l k)],[iT k]]⟩
structure WrV where
 N:Int
 B:List UInt8
 deriving DecidableEq
abbrev WrV.enc (o:Bool) (x:WrV):List Go.X.T:=[iT x.N,slT o 1 uR x.B]
def WrV.In (n:Nat) (x:WrV):Prop:=x.B.length≤n
theorem WrV.In.mono {x:WrV} {n m:Nat} (h:x.In n) (hn:n≤m):x.In m:=by
 simp only [WrV.In] at h ⊢
 exact Nat.le_trans h hn
def szWr (x:WrV) (k:Int):Int:=szAll [(fun k=>left (k - (x.B.length:Nat)))] k
theorem szWr_sane (x:WrV):Sane (szWr x):=Sane.all (.cons (Sane.left _) .nil)
theorem szWr_in {x:WrV} {k:Int} {n:Nat} (hk:0≤k) (hn:k≤n) (h:0≤szWr x k):x.In n:=by
 obtain ⟨⟨j0,a0,b0,c0⟩,_⟩:=szAll_ex (.cons (Sane.left _) .nil) hk hn h
 show x.B.length≤n
 exact (by have:=left_in c0; omega)
def WrV.Len (x:WrV):Prop:=x.B.length≤2 ^ 21
theorem WrV.In.len {x:WrV} {n:Nat} (h:x.In n) (hn:n≤2 ^ 21):x.Len:=by
 have h0:x.B.length≤n:=h
 exact Nat.le_trans h0 hn
def WrV.mark (x:WrV) (k:Int):WrV:=⟨x.N,marks 1 mkU x.B.length (k)⟩
def WrV.far (x:WrV) (k:Int):Int:=k + (1 * x.B.length:Nat)
theorem WrV.mark_B (x:WrV) (k:Int):(x.mark k).B.length=x.B.length:=by simp [WrV.mark,marks_length,markL_length]
theorem WrV.take_B {β:Type} (f:UInt8→β) (x:WrV) (k:Int):((x.mark k).B.map f).take x.B.length=(x.mark k).B.map f:=by rw [← x.mark_B k,take_map]
theorem WrV.far_le {x:WrV} (hx:x.Len) (k:Int):k≤x.far k∧x.far k≤k + 2097152:=by
 have h0:x.B.length≤2 ^ 21:=hx
 simp only [WrV.far]
 omega
def WrV.markE (x:WrV) (k:Int):WrV:=⟨k,marks 1 mkU x.B.length (k + 1)⟩
def WrV.farE (x:WrV) (k:Int):Int:=k + 1 + (1 * x.B.length:Nat)
theorem WrV.farE_le {x:WrV} (hx:x.Len) (k:Int):k≤x.farE k∧x.farE k≤k + 2097153:=by
 have h0:x.B.length≤2 ^ 21:=hx
 simp only [WrV.farE]
 omega
abbrev C_l_szWr (Te:TE):Prop:=∀ (x:WrV) (k:Int) (hx:x.In (2 ^ 48)) (hk:0≤k∧k≤2 ^ 48),Te 374 [.agg (x.enc false),.one (iT k)] ⟨[.one (iT (szWr x k))],[(x.enc false),[iT k]]⟩
abbrev C_l_toWr (Te:TE):Prop:=∀ (x:WrV) (hx:x.Len),Te 377 [.agg (x.enc false)] ⟨[.agg (x.enc true)],[(x.enc false)]⟩
abbrev C_l_eqWr (Te:TE):Prop:=∀ (x y:WrV) (hx:x.Len),Te 381 [.agg (x.enc false),.agg (y.enc false)] ⟨[.one (bT (decide (x=y)))],[(x.enc false),(y.enc false)]⟩
abbrev C_l_szWrS (Te:TE):Prop:=∀ (l:List WrV) (k:Int) (hk:0≤k∧k≤2 ^ 48) (hl:l.length≤2 ^ 48) (hs:∀ y∈l,y.In (2 ^ 48)),Te 358 [.one (slT false 2 (WrV.enc false) l),.one (iT k)] ⟨[.one (iT (szSl szWr l k))],[[slT false 2 (WrV.enc false) l],[iT k]]⟩
abbrev C_l_toWrS (Te:TE):Prop:=∀ (l:List WrV) (hl:(l.length≤2 ^ 21∧∀ y∈l,y.Len)),Te 362 [.one (slT false 2 (WrV.enc false) l)] ⟨[.one (slT true 2 (WrV.enc true) l)],[[slT false 2 (WrV.enc false) l]]⟩
abbrev C_l_eqWrS (Te:TE):Prop:=∀ (l m:List WrV) (hl:(l.length≤2 ^ 21∧∀ y∈l,y.Len)),Te 366 [.one (slT false 2 (WrV.enc false) l),.one (slT false 2 (WrV.enc false) m)] ⟨[.one (bT (decide (l=m)))],[[slT false 2 (WrV.enc false) l],[slT false 2 (WrV.enc false) m]]⟩
abbrev C_l_markWrS (Te:TE):Prop:=∀ (l:List WrV) (k:Int) (hl:(l.length≤2 ^ 21∧∀ y∈l,y.Len)) (hk:0≤k∧k≤2 ^ 44),Te 231 [.one (slT true 2 (WrV.enc true) l),.one (iT k)] ⟨[.one (iT (farL WrV.farE l k))],[[slT true 2 (WrV.enc true) (markL WrV.markE WrV.farE l k)],[iT k]]⟩
abbrev C_l_heldWrS (Te:TE):Prop:=∀ (l:List WrV) (k:Int) (hl:(l.length≤2 ^ 21∧∀ y∈l,y.Len)) (hk:0≤k∧k≤2 ^ 44),Te 240 [.one (slT false 2 (WrV.enc false) (markL WrV.markE WrV.farE l k)),.one (iT k)] ⟨[.one (iT (farL WrV.farE l k))],[[slT false 2 (WrV.enc false) (markL WrV.markE WrV.farE l k)],[iT k]]⟩
structure DevV where
 Secs:List (List UInt8)
 Cache:List WrV
 Fuse:Int
 Down:Bool
 deriving DecidableEq
abbrev DevV.enc (o:Bool) (x:DevV):List Go.X.T:=[slT o 1 (fun y=>[slT o 1 uR y]) x.Secs,slT o 2 (WrV.enc o) x.Cache,iT x.Fuse,bT x.Down]
def DevV.In (n:Nat) (x:DevV):Prop:=(x.Secs.length≤n∧∀ y∈x.Secs,y.length≤n)∧(x.Cache.length≤n∧∀ y∈x.Cache,y.In (n))
theorem DevV.In.mono {x:DevV} {n m:Nat} (h:x.In n) (hn:n≤m):x.In m:=by
 simp only [DevV.In] at h ⊢
 exact ⟨⟨Nat.le_trans h.1.1 hn,fun y hy=>Nat.le_trans (h.1.2 y hy) hn⟩,⟨Nat.le_trans h.2.1 hn,fun y hy=>(h.2.2 y hy).mono hn⟩⟩
def szDev (x:DevV) (k:Int):Int:=szAll [(szSl (fun y k=>left (k - y.length)) x.Secs),(szSl szWr x.Cache)] k
theorem szDev_sane (x:DevV):Sane (szDev x):=Sane.all (.cons (Sane.sl (fun _=>Sane.left _) _) (.cons (Sane.sl szWr_sane _) .nil))
theorem szDev_in {x:DevV} {k:Int} {n:Nat} (hk:0≤k) (hn:k≤n) (h:0≤szDev x k):x.In n:=by
 obtain ⟨⟨j0,a0,b0,c0⟩,⟨j1,a1,b1,c1⟩,_⟩:=szAll_ex (.cons (Sane.sl (fun _=>Sane.left _) _) (.cons (Sane.sl szWr_sane _) .nil)) hk hn h
 exact ⟨(szSl_in (fun _=>Sane.left _) (fun a j h0 hn h=>by have:=left_in h; omega) a0 b0 c0),(szSl_in szWr_sane (fun a j h0 hn h=>szWr_in h0 hn h) a1 b1 c1)⟩
def DevV.Len (x:DevV):Prop:=(x.Secs.length≤2 ^ 21∧∀ y∈x.Secs,y.length≤2 ^ 21)∧(x.Cache.length≤2 ^ 21∧∀ y∈x.Cache,y.Len)
theorem DevV.In.len {x:DevV} {n:Nat} (h:x.In n) (hn:n≤2 ^ 21):x.Len:=by
 obtain ⟨h0,h1⟩:=h
 exact ⟨⟨Nat.le_trans h0.1 hn,fun y hy=>Nat.le_trans (h0.2 y hy) hn⟩,⟨Nat.le_trans h1.1 hn,fun y hy=>((h1.2 y hy)).len hn⟩⟩
def DevV.mark (x:DevV) (k:Int):DevV:=⟨markL (fun y k=>marks 1 mkU y.length k) (fun y k=>k + (1 * y.length:Nat)) x.Secs (k),markL WrV.markE WrV.farE x.Cache (farL (fun y k=>k + (1 * y.length:Nat)) x.Secs (k)),x.Fuse,x.Down⟩
def DevV.far (x:DevV) (k:Int):Int:=farL WrV.farE x.Cache (farL (fun y k=>k + (1 * y.length:Nat)) x.Secs (k))
theorem DevV.mark_Secs (x:DevV) (k:Int):(x.mark k).Secs.length=x.Secs.length:=by simp [DevV.mark,marks_length,markL_length]
theorem DevV.take_Secs {β:Type} (f:List UInt8→β) (x:DevV) (k:Int):((x.mark k).Secs.map f).take x.Secs.length=(x.mark k).Secs.map f:=by rw [← x.mark_Secs k,take_map]
theorem DevV.mark_Cache (x:DevV) (k:Int):(x.mark k).Cache.length=x.Cache.length:=by simp [DevV.mark,marks_length,markL_length]
theorem DevV.take_Cache {β:Type} (f:WrV→β) (x:DevV) (k:Int):((x.mark k).Cache.map f).take x.Cache.length=(x.mark k).Cache.map f:=by rw [← x.mark_Cache k,take_map]
theorem DevV.far_le {x:DevV} (hx:x.Len) (k:Int):k≤x.far k∧x.far k≤k + 8796095119360:=by
 obtain ⟨h0,h1⟩:=hx
 have w0:=farL_le (k:=k) (c:=2097152) h0 (fun (y:List UInt8) (hy:y.length≤2 ^ 21) (k:Int)=>⟨by show k≤k + ((1 * y.length:Nat):Int); omega,by show k + ((1 * y.length:Nat):Int)≤_; omega⟩)
 have w1:=farL_le (k:=(farL (fun y k=>k + (1 * y.length:Nat)) x.Secs (k))) (c:=2097153) h1 (fun y hy k=>WrV.farE_le hy k)
 simp only [DevV.far]
 omega
abbrev C_l_szDev (Te:TE):Prop:=∀ (x:DevV) (k:Int) (hx:x.In (2 ^ 48)) (hk:0≤k∧k≤2 ^ 48),Te 341 [.agg (x.enc false),.one (iT k)] ⟨[.one (iT (szDev x k))],[(x.enc false),[iT k]]⟩
abbrev C_l_toDev (Te:TE):Prop:=∀ (x:DevV) (hx:x.Len),Te 344 [.agg (x.enc false)] ⟨[.agg (x.enc true)],[(x.enc false)]⟩
abbrev C_l_eqDev (Te:TE):Prop:=∀ (x y:DevV) (hx:x.Len),Te 347 [.agg (x.enc false),.agg (y.enc false)] ⟨[.one (bT (decide (x=y)))],[(x.enc false),(y.enc false)]⟩
abbrev C_l_szRowS (Te:TE):Prop:=∀ (l:List RowV) (k:Int) (hk:0≤k∧k≤2 ^ 48) (hl:l.length≤2 ^ 48) (hs:∀ y∈l,y.In (2 ^ 48)),Te 359 [.one (slT false 7 (RowV.enc false) l),.one (iT k)] ⟨[.one (iT (szSl szRow l k))],[[slT false 7 (RowV.enc false) l],[iT k]]⟩
abbrev C_l_toRowS (Te:TE):Prop:=∀ (l:List RowV) (hl:(l.length≤2 ^ 21∧∀ y∈l,y.Len)),Te 363 [.one (slT false 7 (RowV.enc false) l)] ⟨[.one (slT true 7 (RowV.enc true) l)],[[slT false 7 (RowV.enc false) l]]⟩
abbrev C_l_eqRowS (Te:TE):Prop:=∀ (l m:List RowV) (hl:(l.length≤2 ^ 21∧∀ y∈l,y.Len)),Te 367 [.one (slT false 7 (RowV.enc false) l),.one (slT false 7 (RowV.enc false) m)] ⟨[.one (bT (decide (l=m)))],[[slT false 7 (RowV.enc false) l],[slT false 7 (RowV.enc false) m]]⟩
abbrev C_l_markRowS (Te:TE):Prop:=∀ (l:List RowV) (k:Int) (hl:(l.length≤2 ^ 21∧∀ y∈l,y.Len)) (hk:0≤k∧k≤2 ^ 44),Te 232 [.one (slT true 7 (RowV.enc true) l),.one (iT k)] ⟨[.one (iT (farL RowV.farE l k))],[[slT true 7 (RowV.enc true) (markL RowV.markE RowV.farE l k)],[iT k]]⟩
abbrev C_l_heldRowS (Te:TE):Prop:=∀ (l:List RowV) (k:Int) (hl:(l.length≤2 ^ 21∧∀ y∈l,y.Len)) (hk:0≤k∧k≤2 ^ 44),Te 241 [.one (slT false 7 (RowV.enc false) (markL RowV.markE RowV.farE l k)),.one (iT k)] ⟨[.one (iT (farL RowV.farE l k))],[[slT false 7 (RowV.enc false) (markL RowV.markE RowV.farE l k)],[iT k]]⟩
structure MarkV where
 Who:Int
 Seq:Int
 Code:Int
 deriving DecidableEq
abbrev MarkV.row (x:MarkV):List Go.X.T:=[iT x.Who,iT x.Seq,iT x.Code]
def mkMark (k:Int):MarkV:=⟨k,k + 1,k + 1 + 1⟩
abbrev C_l_toMark (Te:TE):Prop:=∀ (x:MarkV),Te 379 [.agg x.row] ⟨[.agg x.row],[x.row]⟩
abbrev C_l_eqMark (Te:TE):Prop:=∀ (x y:MarkV),Te 383 [.agg x.row,.agg y.row] ⟨[.one (bT (decide (x=y)))],[x.row,y.row]⟩
abbrev C_l_szMarkS (Te:TE):Prop:=∀ (l:List MarkV) (k:Int) (hl:l.length≤2 ^ 48) (hk:0≤k∧k≤2 ^ 48),Te 360 [.one (slT false 3 MarkV.row l),.one (iT k)] ⟨[.one (iT (left (k - (l.length:Nat))))],[[slT false 3 MarkV.row l],[iT k]]⟩
abbrev C_l_toMarkS (Te:TE):Prop:=∀ (l:List MarkV) (hl:l.length≤2 ^ 31),Te 364 [.one (slT false 3 MarkV.row l)] ⟨[.one (slT true 3 MarkV.row l)],[[slT false 3 MarkV.row l]]⟩
abbrev C_l_eqMarkS (Te:TE):Prop:=∀ (l m:List MarkV) (hl:l.length≤2 ^ 31),Te 368 [.one (slT false 3 MarkV.row l),.one (slT false 3 MarkV.row m)] ⟨[.one (bT (decide (l=m)))],[[slT false 3 MarkV.row l],[slT false 3 MarkV.row m]]⟩
abbrev C_l_markMarkS (Te:TE):Prop:=∀ (l:List MarkV) (k:Int) (hl:l.length≤2 ^ 31) (hk:0≤k∧k≤2 ^ 46),Te 233 [.one (slT true 3 MarkV.row l),.one (iT k)] ⟨[.one (iT (k + (3 * l.length:Nat)))],[[slT true 3 MarkV.row (marks 3 mkMark l.length k)],[iT k]]⟩
abbrev C_l_heldMarkS (Te:TE):Prop:=∀ (n:Nat) (k:Int) (hl:n≤2 ^ 31) (hk:0≤k∧k≤2 ^ 46),Te 242 [.one (slT false 3 MarkV.row (marks 3 mkMark n k)),.one (iT k)] ⟨[.one (iT (k + (3 * n:Nat)))],[[slT false 3 MarkV.row (marks 3 mkMark n k)],[iT k]]⟩
structure TabV where
 Rows:List RowV
 Phase:Int
 Marks:List MarkV
 deriving DecidableEq
abbrev TabV.enc (o:Bool) (x:TabV):List Go.X.T:=[slT o 7 (RowV.enc o) x.Rows,iT x.Phase,slT o 3 MarkV.row x.Marks]
def TabV.In (n:Nat) (x:TabV):Prop:=(x.Rows.length≤n∧∀ y∈x.Rows,y.In (n))∧x.Marks.length≤n
theorem TabV.In.mono {x:TabV} {n m:Nat} (h:x.In n) (hn:n≤m):x.In m:=by
 simp only [TabV.In] at h ⊢
 exact ⟨⟨Nat.le_trans h.1.1 hn,fun y hy=>(h.1.2 y hy).mono hn⟩,Nat.le_trans h.2 hn⟩
def szTab (x:TabV) (k:Int):Int:=szAll [(szSl szRow x.Rows),(fun k=>left (k - (x.Marks.length:Nat)))] k
theorem szTab_sane (x:TabV):Sane (szTab x):=Sane.all (.cons (Sane.sl szRow_sane _) (.cons (Sane.left _) .nil))
theorem szTab_in {x:TabV} {k:Int} {n:Nat} (hk:0≤k) (hn:k≤n) (h:0≤szTab x k):x.In n:=by
 obtain ⟨⟨j0,a0,b0,c0⟩,⟨j1,a1,b1,c1⟩,_⟩:=szAll_ex (.cons (Sane.sl szRow_sane _) (.cons (Sane.left _) .nil)) hk hn h
 exact ⟨(szSl_in szRow_sane (fun a j h0 hn h=>szRow_in h0 hn h) a0 b0 c0),(by have:=left_in c1; omega)⟩
def TabV.Len (x:TabV):Prop:=(x.Rows.length≤2 ^ 21∧∀ y∈x.Rows,y.Len)∧x.Marks.length≤2 ^ 21
theorem TabV.In.len {x:TabV} {n:Nat} (h:x.In n) (hn:n≤2 ^ 21):x.Len:=by
 obtain ⟨h0,h1⟩:=h
 exact ⟨⟨Nat.le_trans h0.1 hn,fun y hy=>((h0.2 y hy)).len hn⟩,Nat.le_trans h1 hn⟩
def TabV.mark (x:TabV) (k:Int):TabV:=⟨markL RowV.markE RowV.farE x.Rows (k),x.Phase,marks 3 mkMark x.Marks.length (farL RowV.farE x.Rows (k))⟩
def TabV.far (x:TabV) (k:Int):Int:=farL RowV.farE x.Rows (k) + (3 * x.Marks.length:Nat)
theorem TabV.mark_Rows (x:TabV) (k:Int):(x.mark k).Rows.length=x.Rows.length:=by simp [TabV.mark,marks_length,markL_length]
theorem TabV.take_Rows {β:Type} (f:RowV→β) (x:TabV) (k:Int):((x.mark k).Rows.map f).take x.Rows.length=(x.mark k).Rows.map f:=by rw [← x.mark_Rows k,take_map]
theorem TabV.mark_Marks (x:TabV) (k:Int):(x.mark k).Marks.length=x.Marks.length:=by simp [TabV.mark,marks_length,markL_length]
theorem TabV.take_Marks {β:Type} (f:MarkV→β) (x:TabV) (k:Int):((x.mark k).Marks.map f).take x.Marks.length=(x.mark k).Marks.map f:=by rw [← x.mark_Marks k,take_map]
theorem TabV.far_le {x:TabV} (hx:x.Len) (k:Int):k≤x.far k∧x.far k≤k + 8796109799424:=by
 obtain ⟨h0,h1⟩:=hx
 have w0:=farL_le (k:=k) (c:=4194309) h0 (fun y hy k=>RowV.farE_le hy k)
 simp only [TabV.far]
 omega
abbrev C_l_szTab (Te:TE):Prop:=∀ (x:TabV) (k:Int) (hx:x.In (2 ^ 48)) (hk:0≤k∧k≤2 ^ 48),Te 342 [.agg (x.enc false),.one (iT k)] ⟨[.one (iT (szTab x k))],[(x.enc false),[iT k]]⟩
abbrev C_l_toTab (Te:TE):Prop:=∀ (x:TabV) (hx:x.Len),Te 345 [.agg (x.enc false)] ⟨[.agg (x.enc true)],[(x.enc false)]⟩
abbrev C_l_eqTab (Te:TE):Prop:=∀ (x y:TabV) (hx:x.Len),Te 348 [.agg (x.enc false),.agg (y.enc false)] ⟨[.one (bT (decide (x=y)))],[(x.enc false),(y.enc false)]⟩
structure StoreV where
 D:DevV
 T:TabV
 Gen:Int
 Place:Int
 deriving DecidableEq
abbrev StoreV.enc (o:Bool) (x:StoreV):List Go.X.T:=[slT o 1 (fun y=>[slT o 1 uR y]) x.D.Secs,slT o 2 (WrV.enc o) x.D.Cache,iT x.D.Fuse,bT x.D.Down,slT o 7 (RowV.enc o) x.T.Rows,iT x.T.Phase,slT o 3 MarkV.row x.T.Marks,iT x.Gen,iT x.Place]
def StoreV.In (n:Nat) (x:StoreV):Prop:=x.D.In (n)∧x.T.In (n)
theorem StoreV.In.mono {x:StoreV} {n m:Nat} (h:x.In n) (hn:n≤m):x.In m:=by
 simp only [StoreV.In] at h ⊢
 exact ⟨h.1.mono hn,h.2.mono hn⟩
def szStore (x:StoreV) (k:Int):Int:=szAll [(szDev x.D),(szTab x.T)] k
theorem szStore_sane (x:StoreV):Sane (szStore x):=Sane.all (.cons (szDev_sane _) (.cons (szTab_sane _) .nil))
theorem szStore_in {x:StoreV} {k:Int} {n:Nat} (hk:0≤k) (hn:k≤n) (h:0≤szStore x k):x.In n:=by
 obtain ⟨⟨j0,a0,b0,c0⟩,⟨j1,a1,b1,c1⟩,_⟩:=szAll_ex (.cons (szDev_sane _) (.cons (szTab_sane _) .nil)) hk hn h
 exact ⟨(szDev_in a0 b0 c0),(szTab_in a1 b1 c1)⟩
def StoreV.Len (x:StoreV):Prop:=x.D.Len∧x.T.Len
theorem StoreV.In.len {x:StoreV} {n:Nat} (h:x.In n) (hn:n≤2 ^ 21):x.Len:=by
 obtain ⟨h0,h1⟩:=h
 exact ⟨(h0).len hn,(h1).len hn⟩
def StoreV.mark (x:StoreV) (k:Int):StoreV:=⟨x.D.mark (k),x.T.mark (x.D.far (k)),x.Gen,x.Place⟩
def StoreV.far (x:StoreV) (k:Int):Int:=x.T.far (x.D.far (k))
theorem StoreV.mark_D_Secs (x:StoreV) (k:Int):(x.mark k).D.Secs.length=x.D.Secs.length:=by simp [StoreV.mark,DevV.mark,TabV.mark,marks_length,markL_length]
theorem StoreV.take_D_Secs {β:Type} (f:List UInt8→β) (x:StoreV) (k:Int):((x.mark k).D.Secs.map f).take x.D.Secs.length=(x.mark k).D.Secs.map f:=by rw [← x.mark_D_Secs k,take_map]
theorem StoreV.mark_D_Cache (x:StoreV) (k:Int):(x.mark k).D.Cache.length=x.D.Cache.length:=by simp [StoreV.mark,DevV.mark,TabV.mark,marks_length,markL_length]
theorem StoreV.take_D_Cache {β:Type} (f:WrV→β) (x:StoreV) (k:Int):((x.mark k).D.Cache.map f).take x.D.Cache.length=(x.mark k).D.Cache.map f:=by rw [← x.mark_D_Cache k,take_map]
theorem StoreV.mark_T_Rows (x:StoreV) (k:Int):(x.mark k).T.Rows.length=x.T.Rows.length:=by simp [StoreV.mark,DevV.mark,TabV.mark,marks_length,markL_length]
theorem StoreV.take_T_Rows {β:Type} (f:RowV→β) (x:StoreV) (k:Int):((x.mark k).T.Rows.map f).take x.T.Rows.length=(x.mark k).T.Rows.map f:=by rw [← x.mark_T_Rows k,take_map]
theorem StoreV.mark_T_Marks (x:StoreV) (k:Int):(x.mark k).T.Marks.length=x.T.Marks.length:=by simp [StoreV.mark,DevV.mark,TabV.mark,marks_length,markL_length]
theorem StoreV.take_T_Marks {β:Type} (f:MarkV→β) (x:StoreV) (k:Int):((x.mark k).T.Marks.map f).take x.T.Marks.length=(x.mark k).T.Marks.map f:=by rw [← x.mark_T_Marks k,take_map]
theorem StoreV.far_le {x:StoreV} (hx:x.Len) (k:Int):k≤x.far k∧x.far k≤k + 17592204918784:=by
 obtain ⟨h0,h1⟩:=hx
 have w0:=DevV.far_le h0 k
 have w1:=TabV.far_le h1 (x.D.far k)
 simp only [StoreV.far]
 omega
abbrev C_l_szStore (Te:TE):Prop:=∀ (x:StoreV) (k:Int) (hx:x.In (2 ^ 48)) (hk:0≤k∧k≤2 ^ 48),Te 294 [.agg (x.enc false),.one (iT k)] ⟨[.one (iT (szStore x k))],[(x.enc false),[iT k]]⟩
abbrev C_l_toStore (Te:TE):Prop:=∀ (x:StoreV) (hx:x.Len),Te 296 [.agg (x.enc false)] ⟨[.agg (x.enc true)],[(x.enc false)]⟩
abbrev C_l_eqStore (Te:TE):Prop:=∀ (x y:StoreV) (hx:x.Len),Te 298 [.agg (x.enc false),.agg (y.enc false)] ⟨[.one (bT (decide (x=y)))],[(x.enc false),(y.enc false)]⟩
structure NodeV where
 S:StoreV
 Cs:Int
 deriving DecidableEq
abbrev NodeV.enc (o:Bool) (x:NodeV):List Go.X.T:=[slT o 1 (fun y=>[slT o 1 uR y]) x.S.D.Secs,slT o 2 (WrV.enc o) x.S.D.Cache,iT x.S.D.Fuse,bT x.S.D.Down,slT o 7 (RowV.enc o) x.S.T.Rows,iT x.S.T.Phase,slT o 3 MarkV.row x.S.T.Marks,iT x.S.Gen,iT x.S.Place,iT x.Cs]
def NodeV.In (n:Nat) (x:NodeV):Prop:=x.S.In (n)
theorem NodeV.In.mono {x:NodeV} {n m:Nat} (h:x.In n) (hn:n≤m):x.In m:=by
 simp only [NodeV.In] at h ⊢
 exact h.mono hn
def szNode (x:NodeV) (k:Int):Int:=szAll [(szStore x.S)] k
theorem szNode_sane (x:NodeV):Sane (szNode x):=Sane.all (.cons (szStore_sane _) .nil)
theorem szNode_in {x:NodeV} {k:Int} {n:Nat} (hk:0≤k) (hn:k≤n) (h:0≤szNode x k):x.In n:=by
 obtain ⟨⟨j0,a0,b0,c0⟩,_⟩:=szAll_ex (.cons (szStore_sane _) .nil) hk hn h
 show x.S.In (n)
 exact (szStore_in a0 b0 c0)
def NodeV.Len (x:NodeV):Prop:=x.S.Len
theorem NodeV.In.len {x:NodeV} {n:Nat} (h:x.In n) (hn:n≤2 ^ 21):x.Len:=by
 have h0:x.S.In (n):=h
 exact (h0).len hn
def NodeV.mark (x:NodeV) (k:Int):NodeV:=⟨x.S.mark (k),x.Cs⟩
def NodeV.far (x:NodeV) (k:Int):Int:=x.S.far (k)
theorem NodeV.mark_S_D_Secs (x:NodeV) (k:Int):(x.mark k).S.D.Secs.length=x.S.D.Secs.length:=by simp [NodeV.mark,StoreV.mark,DevV.mark,TabV.mark,marks_length,markL_length]
theorem NodeV.take_S_D_Secs {β:Type} (f:List UInt8→β) (x:NodeV) (k:Int):((x.mark k).S.D.Secs.map f).take x.S.D.Secs.length=(x.mark k).S.D.Secs.map f:=by rw [← x.mark_S_D_Secs k,take_map]
theorem NodeV.mark_S_D_Cache (x:NodeV) (k:Int):(x.mark k).S.D.Cache.length=x.S.D.Cache.length:=by simp [NodeV.mark,StoreV.mark,DevV.mark,TabV.mark,marks_length,markL_length]
theorem NodeV.take_S_D_Cache {β:Type} (f:WrV→β) (x:NodeV) (k:Int):((x.mark k).S.D.Cache.map f).take x.S.D.Cache.length=(x.mark k).S.D.Cache.map f:=by rw [← x.mark_S_D_Cache k,take_map]
theorem NodeV.mark_S_T_Rows (x:NodeV) (k:Int):(x.mark k).S.T.Rows.length=x.S.T.Rows.length:=by simp [NodeV.mark,StoreV.mark,DevV.mark,TabV.mark,marks_length,markL_length]
theorem NodeV.take_S_T_Rows {β:Type} (f:RowV→β) (x:NodeV) (k:Int):((x.mark k).S.T.Rows.map f).take x.S.T.Rows.length=(x.mark k).S.T.Rows.map f:=by rw [← x.mark_S_T_Rows k,take_map]
theorem NodeV.mark_S_T_Marks (x:NodeV) (k:Int):(x.mark k).S.T.Marks.length=x.S.T.Marks.length:=by simp [NodeV.mark,StoreV.mark,DevV.mark,TabV.mark,marks_length,markL_length]
theorem NodeV.take_S_T_Marks {β:Type} (f:MarkV→β) (x:NodeV) (k:Int):((x.mark k).S.T.Marks.map f).take x.S.T.Marks.length=(x.mark k).S.T.Marks.map f:=by rw [← x.mark_S_T_Marks k,take_map]
theorem NodeV.far_le {x:NodeV} (hx:x.Len) (k:Int):k≤x.far k∧x.far k≤k + 17592204918784:=by
 have h0:x.S.Len:=hx
 have w0:=StoreV.far_le h0 k
 simp only [NodeV.far]
 omega
abbrev C_l_szNode (Te:TE):Prop:=∀ (x:NodeV) (k:Int) (hx:x.In (2 ^ 48)) (hk:0≤k∧k≤2 ^ 48),Te 213 [.agg (x.enc false),.one (iT k)] ⟨[.one (iT (szNode x k))],[(x.enc false),[iT k]]⟩
abbrev C_l_toNode (Te:TE):Prop:=∀ (x:NodeV) (hx:x.Len),Te 219 [.agg (x.enc false)] ⟨[.agg (x.enc true)],[(x.enc false)]⟩
abbrev C_l_eqNode (Te:TE):Prop:=∀ (x y:NodeV) (hx:x.Len),Te 225 [.agg (x.enc false),.agg (y.enc false)] ⟨[.one (bT (decide (x=y)))],[(x.enc false),(y.enc false)]⟩
structure RecV where
 Kind:Int
 R:RowV
 Key:ByteArray
 N:Int
 Who:Int
 Seq:Int
 Code:Int
 deriving DecidableEq
abbrev RecV.enc (o:Bool) (x:RecV):List Go.X.T:=[iT x.Kind,sT x.R.Key,iT x.R.Old.Tag,slT o 1 uR x.R.Old.B,iT x.R.New.Tag,slT o 1 uR x.R.New.B,iT x.R.Has,bT x.R.Aside,sT x.Key,iT x.N,iT x.Who,iT x.Seq,iT x.Code]
def RecV.In (n:Nat) (x:RecV):Prop:=x.R.In (n)∧x.Key.size≤n
theorem RecV.In.mono {x:RecV} {n m:Nat} (h:x.In n) (hn:n≤m):x.In m:=by
 simp only [RecV.In] at h ⊢
 exact ⟨h.1.mono hn,Nat.le_trans h.2 hn⟩
def szRec (x:RecV) (k:Int):Int:=szAll [(szRow x.R),(fun k=>k - (x.Key.size:Nat))] k
theorem szRec_sane (x:RecV):Sane (szRec x):=Sane.all (.cons (szRow_sane _) (.cons (Sane.sub _) .nil))
theorem szRec_in {x:RecV} {k:Int} {n:Nat} (hk:0≤k) (hn:k≤n) (h:0≤szRec x k):x.In n:=by
 obtain ⟨⟨j0,a0,b0,c0⟩,⟨j1,a1,b1,c1⟩,_⟩:=szAll_ex (.cons (szRow_sane _) (.cons (Sane.sub _) .nil)) hk hn h
 exact ⟨(szRow_in a0 b0 c0),(by have q:(0:Int)≤j1 - _:=c1; omega)⟩
def RecV.Len (x:RecV):Prop:=x.R.Len
theorem RecV.In.len {x:RecV} {n:Nat} (h:x.In n) (hn:n≤2 ^ 21):x.Len:=by
 obtain ⟨h0,h1⟩:=h
 exact (h0).len hn
def RecV.mark (x:RecV) (k:Int):RecV:=⟨x.Kind,x.R.mark (k),x.Key,x.N,x.Who,x.Seq,x.Code⟩
def RecV.far (x:RecV) (k:Int):Int:=x.R.far (k)
theorem RecV.mark_R_Old_B (x:RecV) (k:Int):(x.mark k).R.Old.B.length=x.R.Old.B.length:=by simp [RecV.mark,RowV.mark,CellV.mark,marks_length,markL_length]
theorem RecV.take_R_Old_B {β:Type} (f:UInt8→β) (x:RecV) (k:Int):((x.mark k).R.Old.B.map f).take x.R.Old.B.length=(x.mark k).R.Old.B.map f:=by rw [← x.mark_R_Old_B k,take_map]
theorem RecV.mark_R_New_B (x:RecV) (k:Int):(x.mark k).R.New.B.length=x.R.New.B.length:=by simp [RecV.mark,RowV.mark,CellV.mark,marks_length,markL_length]
theorem RecV.take_R_New_B {β:Type} (f:UInt8→β) (x:RecV) (k:Int):((x.mark k).R.New.B.map f).take x.R.New.B.length=(x.mark k).R.New.B.map f:=by rw [← x.mark_R_New_B k,take_map]
theorem RecV.far_le {x:RecV} (hx:x.Len) (k:Int):k≤x.far k∧x.far k≤k + 4194304:=by
 have h0:x.R.Len:=hx
 have w0:=RowV.far_le h0 k
 simp only [RecV.far]
 omega
structure ActV where
 Kind:Int
 Who:Int
 Seq:Int
 Key:ByteArray
 Text:ByteArray
 Code:Int
 deriving DecidableEq
abbrev ActV.row (x:ActV):List Go.X.T:=[iT x.Kind,iT x.Who,iT x.Seq,sT x.Key,sT x.Text,iT x.Code]
def ActV.In (n:Nat) (x:ActV):Prop:=x.Key.size≤n∧x.Text.size≤n
theorem ActV.In.mono {x:ActV} {n m:Nat} (h:x.In n) (hn:n≤m):x.In m:=by
 simp only [ActV.In] at h ⊢
 exact ⟨Nat.le_trans h.1 hn,Nat.le_trans h.2 hn⟩
def szAct (x:ActV) (k:Int):Int:=szAll [(fun k=>k - (x.Key.size:Nat)),(fun k=>k - (x.Text.size:Nat))] k
theorem szAct_sane (x:ActV):Sane (szAct x):=Sane.all (.cons (Sane.sub _) (.cons (Sane.sub _) .nil))
theorem szAct_in {x:ActV} {k:Int} {n:Nat} (hk:0≤k) (hn:k≤n) (h:0≤szAct x k):x.In n:=by
 obtain ⟨⟨j0,a0,b0,c0⟩,⟨j1,a1,b1,c1⟩,_⟩:=szAll_ex (.cons (Sane.sub _) (.cons (Sane.sub _) .nil)) hk hn h
 exact ⟨(by have q:(0:Int)≤j0 - _:=c0; omega),(by have q:(0:Int)≤j1 - _:=c1; omega)⟩
def mkAct (k:Int):ActV:=⟨k,k + 1,k + 1 + 1,mkS (k + 1 + 1 + 1),mkS (k + 1 + 1 + 1 + 1),k + 1 + 1 + 1 + 1 + 1⟩
abbrev C_l_szAct (Te:TE):Prop:=∀ (x:ActV) (k:Int) (hx:x.In (2 ^ 48)) (hk:0≤k∧k≤2 ^ 48),Te 216 [.agg x.row,.one (iT k)] ⟨[.one (iT (szAct x k))],[x.row,[iT k]]⟩
abbrev C_l_toAct (Te:TE):Prop:=∀ (x:ActV),Te 222 [.agg x.row] ⟨[.agg x.row],[x.row]⟩
abbrev C_l_eqAct (Te:TE):Prop:=∀ (x y:ActV),Te 135 [.agg x.row,.agg y.row] ⟨[.one (bT (decide (x=y)))],[x.row,y.row]⟩
abbrev C_l_szActS (Te:TE):Prop:=∀ (l:List ActV) (k:Int) (hk:0≤k∧k≤2 ^ 48) (hl:l.length≤2 ^ 48) (hs:∀ y∈l,y.In (2 ^ 48)),Te 127 [.one (slT false 6 ActV.row l),.one (iT k)] ⟨[.one (iT (szSl szAct l k))],[[slT false 6 ActV.row l],[iT k]]⟩
abbrev C_l_toActS (Te:TE):Prop:=∀ (l:List ActV) (hl:l.length≤2 ^ 31),Te 133 [.one (slT false 6 ActV.row l)] ⟨[.one (slT true 6 ActV.row l)],[[slT false 6 ActV.row l]]⟩
abbrev C_l_eqActS (Te:TE):Prop:=∀ (l m:List ActV) (hl:l.length≤2 ^ 31),Te 50 [.one (slT false 6 ActV.row l),.one (slT false 6 ActV.row m)] ⟨[.one (bT (decide (l=m)))],[[slT false 6 ActV.row l],[slT false 6 ActV.row m]]⟩
abbrev C_l_markActS (Te:TE):Prop:=∀ (l:List ActV) (k:Int) (hl:l.length≤2 ^ 31) (hk:0≤k∧k≤2 ^ 46),Te 53 [.one (slT true 6 ActV.row l),.one (iT k)] ⟨[.one (iT (k + (6 * l.length:Nat)))],[[slT true 6 ActV.row (marks 6 mkAct l.length k)],[iT k]]⟩
abbrev C_l_heldActS (Te:TE):Prop:=∀ (n:Nat) (k:Int) (hl:n≤2 ^ 31) (hk:0≤k∧k≤2 ^ 46),Te 54 [.one (slT false 6 ActV.row (marks 6 mkAct n k)),.one (iT k)] ⟨[.one (iT (k + (6 * n:Nat)))],[[slT false 6 ActV.row (marks 6 mkAct n k)],[iT k]]⟩
abbrev C_l_szActSS (Te:TE):Prop:=∀ (l:List (List ActV)) (k:Int) (hk:0≤k∧k≤2 ^ 48) (hl:l.length≤2 ^ 48) (hs:∀ y∈l,(y.length≤2 ^ 48∧∀ z∈y,z.In (2 ^ 48))),Te 128 [.one (slT false 1 (fun y=>[slT false 6 ActV.row y]) l),.one (iT k)] ⟨[.one (iT (szSl (szSl szAct) l k))],[[slT false 1 (fun y=>[slT false 6 ActV.row y]) l],[iT k]]⟩
abbrev C_l_toActSS (Te:TE):Prop:=∀ (l:List (List ActV)) (hl:(l.length≤2 ^ 21∧∀ y∈l,y.length≤2 ^ 21)),Te 134 [.one (slT false 1 (fun y=>[slT false 6 ActV.row y]) l)] ⟨[.one (slT true 1 (fun y=>[slT true 6 ActV.row y]) l)],[[slT false 1 (fun y=>[slT false 6 ActV.row y]) l]]⟩
abbrev C_l_eqActSS (Te:TE):Prop:=∀ (l m:List (List ActV)) (hl:(l.length≤2 ^ 21∧∀ y∈l,y.length≤2 ^ 21)),Te 140 [.one (slT false 1 (fun y=>[slT false 6 ActV.row y]) l),.one (slT false 1 (fun y=>[slT false 6 ActV.row y]) m)] ⟨[.one (bT (decide (l=m)))],[[slT false 1 (fun y=>[slT false 6 ActV.row y]) l],[slT false 1 (fun y=>[slT false 6 ActV.row y]) m]]⟩
theorem farL_mono {α:Type} {f:α→Int→Int} {p:α→Prop}:∀ {l:List α} (_:∀ y∈l,p y) (_:∀ y,p y→∀ k,k≤f y k) (k:Int),k≤farL f l k
 | [],_,_,k=>Int.le_refl k
 | x::l,h,hf,k=>Int.le_trans (hf x (h x (List.mem_cons_self ..)) k) (farL_mono (l:=l) (fun y hy=>h y (List.mem_cons_of_mem _ hy)) hf _)
theorem farL_mid {α:Type} {f:α→Int→Int} {p:α→Prop}:∀ {l:List α} (_:∀ y∈l,p y) (_:∀ y,p y→∀ k,k≤f y k) (k:Int) {i:Nat} (hi:i < l.length),k≤farL f (l.take i) k∧f l[i] (farL f (l.take i) k)≤farL f l k
 | x::l,h,hf,k,0,hi=>⟨Int.le_refl k,farL_mono (l:=l) (fun y hy=>h y (List.mem_cons_of_mem _ hy)) hf _⟩
 | x::l,h,hf,k,i + 1,hi=>by
  have q:=farL_mid (l:=l) (fun y hy=>h y (List.mem_cons_of_mem _ hy)) hf (f x k) (i:=i) (by simpa using hi)
  have a:=hf x (h x (List.mem_cons_self ..)) k
  simp only [List.take_succ_cons,farL,List.getElem_cons_succ]
  exact ⟨Int.le_trans a q.1,q.2⟩
theorem monoActSS (y:List ActV) (hy:y.length≤2 ^ 21) (k:Int):k≤(fun (y:List ActV) (k:Int)=>k + (6 * y.length:Nat)) y k:=by
 show k≤(k + (6 * y.length:Nat))
 omega
abbrev C_l_markActSS (Te:TE):Prop:=∀ (l:List (List ActV)) (k:Int) (hl:(l.length≤2 ^ 21∧∀ y∈l,y.length≤2 ^ 21)) (hk:0≤k) (hf:farL (fun y k=>k + (6 * y.length:Nat)) l k≤2 ^ 40),Te 145 [.one (slT true 1 (fun y=>[slT true 6 ActV.row y]) l),.one (iT k)] ⟨[.one (iT (farL (fun y k=>k + (6 * y.length:Nat)) l k))],[[slT true 1 (fun y=>[slT true 6 ActV.row y]) (markL (fun y k=>marks 6 mkAct y.length k) (fun y k=>k + (6 * y.length:Nat)) l k)],[iT k]]⟩
abbrev C_l_heldActSS (Te:TE):Prop:=∀ (l:List (List ActV)) (k:Int) (hl:(l.length≤2 ^ 21∧∀ y∈l,y.length≤2 ^ 21)) (hk:0≤k) (hf:farL (fun y k=>k + (6 * y.length:Nat)) l k≤2 ^ 40),Te 155 [.one (slT false 1 (fun y=>[slT false 6 ActV.row y]) (markL (fun y k=>marks 6 mkAct y.length k) (fun y k=>k + (6 * y.length:Nat)) l k)),.one (iT k)] ⟨[.one (iT (farL (fun y k=>k + (6 * y.length:Nat)) l k))],[[slT false 1 (fun y=>[slT false 6 ActV.row y]) (markL (fun y k=>marks 6 mkAct y.length k) (fun y k=>k + (6 * y.length:Nat)) l k)],[iT k]]⟩
abbrev C_l_szNodeS (Te:TE):Prop:=∀ (l:List NodeV) (k:Int) (hk:0≤k∧k≤2 ^ 48) (hl:l.length≤2 ^ 48) (hs:∀ y∈l,y.In (2 ^ 48)),Te 124 [.one (slT false 10 (NodeV.enc false) l),.one (iT k)] ⟨[.one (iT (szSl szNode l k))],[[slT false 10 (NodeV.enc false) l],[iT k]]⟩
abbrev C_l_toNodeS (Te:TE):Prop:=∀ (l:List NodeV) (hl:(l.length≤2 ^ 21∧∀ y∈l,y.Len)),Te 130 [.one (slT false 10 (NodeV.enc false) l)] ⟨[.one (slT true 10 (NodeV.enc true) l)],[[slT false 10 (NodeV.enc false) l]]⟩
abbrev C_l_eqNodeS (Te:TE):Prop:=∀ (l m:List NodeV) (hl:(l.length≤2 ^ 21∧∀ y∈l,y.Len)),Te 137 [.one (slT false 10 (NodeV.enc false) l),.one (slT false 10 (NodeV.enc false) m)] ⟨[.one (bT (decide (l=m)))],[[slT false 10 (NodeV.enc false) l],[slT false 10 (NodeV.enc false) m]]⟩
def NodeV.markE (x:NodeV) (k:Int):NodeV:=⟨⟨⟨markL (fun y k=>marks 1 mkU y.length k) (fun y k=>k + (1 * y.length:Nat)) x.S.D.Secs (k),markL WrV.markE WrV.farE x.S.D.Cache (farL (fun y k=>k + (1 * y.length:Nat)) x.S.D.Secs (k)),farL WrV.farE x.S.D.Cache (farL (fun y k=>k + (1 * y.length:Nat)) x.S.D.Secs (k)),mkB (farL WrV.farE x.S.D.Cache (farL (fun y k=>k + (1 * y.length:Nat)) x.S.D.Secs (k)) + 1)⟩,⟨markL RowV.markE RowV.farE x.S.T.Rows (farL WrV.farE x.S.D.Cache (farL (fun y k=>k + (1 * y.length:Nat)) x.S.D.Secs (k)) + 1 + 1),farL RowV.farE x.S.T.Rows (farL WrV.farE x.S.D.Cache (farL (fun y k=>k + (1 * y.length:Nat)) x.S.D.Secs (k)) + 1 + 1),marks 3 mkMark x.S.T.Marks.length (farL RowV.farE x.S.T.Rows (farL WrV.farE x.S.D.Cache (farL (fun y k=>k + (1 * y.length:Nat)) x.S.D.Secs (k)) + 1 + 1) + 1)⟩,farL RowV.farE x.S.T.Rows (farL WrV.farE x.S.D.Cache (farL (fun y k=>k + (1 * y.length:Nat)) x.S.D.Secs (k)) + 1 + 1) + 1 + (3 * x.S.T.Marks.length:Nat),farL RowV.farE x.S.T.Rows (farL WrV.farE x.S.D.Cache (farL (fun y k=>k + (1 * y.length:Nat)) x.S.D.Secs (k)) + 1 + 1) + 1 + (3 * x.S.T.Marks.length:Nat) + 1⟩,farL RowV.farE x.S.T.Rows (farL WrV.farE x.S.D.Cache (farL (fun y k=>k + (1 * y.length:Nat)) x.S.D.Secs (k)) + 1 + 1) + 1 + (3 * x.S.T.Marks.length:Nat) + 1 + 1⟩
def NodeV.farE (x:NodeV) (k:Int):Int:=farL RowV.farE x.S.T.Rows (farL WrV.farE x.S.D.Cache (farL (fun y k=>k + (1 * y.length:Nat)) x.S.D.Secs (k)) + 1 + 1) + 1 + (3 * x.S.T.Marks.length:Nat) + 1 + 1 + 1
theorem monoNodeS (y:NodeV) (hy:y.Len) (k:Int):k≤NodeV.farE y k:=by
 have w0:=farL_le (k:=k) (c:=2097152) (hy.1.1) (fun (y:List UInt8) (hy:y.length≤2 ^ 21) (k:Int)=>⟨by show k≤k + ((1 * y.length:Nat):Int); omega,by show k + ((1 * y.length:Nat):Int)≤_; omega⟩)
 have w1:=farL_le (k:=(farL (fun y k=>k + (1 * y.length:Nat)) y.S.D.Secs (k))) (c:=2097153) (hy.1.2) (fun y hy k=>WrV.farE_le hy k)
 have w2:=farL_le (k:=(farL WrV.farE y.S.D.Cache ((farL (fun y k=>k + (1 * y.length:Nat)) y.S.D.Secs (k)))) + 1 + 1) (c:=4194309) (hy.2.1) (fun y hy k=>RowV.farE_le hy k)
 show k≤((farL RowV.farE y.S.T.Rows ((farL WrV.farE y.S.D.Cache ((farL (fun y k=>k + (1 * y.length:Nat)) y.S.D.Secs (k)))) + 1 + 1)) + 1 + (3 * y.S.T.Marks.length:Nat)) + 1 + 1 + 1
 omega
abbrev C_l_markNodeS (Te:TE):Prop:=∀ (l:List NodeV) (k:Int) (hl:(l.length≤2 ^ 21∧∀ y∈l,y.Len)) (hk:0≤k) (hf:farL NodeV.farE l k≤2 ^ 40),Te 142 [.one (slT true 10 (NodeV.enc true) l),.one (iT k)] ⟨[.one (iT (farL NodeV.farE l k))],[[slT true 10 (NodeV.enc true) (markL NodeV.markE NodeV.farE l k)],[iT k]]⟩
abbrev C_l_heldNodeS (Te:TE):Prop:=∀ (l:List NodeV) (k:Int) (hl:(l.length≤2 ^ 21∧∀ y∈l,y.Len)) (hk:0≤k) (hf:farL NodeV.farE l k≤2 ^ 40),Te 152 [.one (slT false 10 (NodeV.enc false) (markL NodeV.markE NodeV.farE l k)),.one (iT k)] ⟨[.one (iT (farL NodeV.farE l k))],[[slT false 10 (NodeV.enc false) (markL NodeV.markE NodeV.farE l k)],[iT k]]⟩
abbrev C_l_szClientS (Te:TE):Prop:=∀ (l:List ClientV) (k:Int) (hk:0≤k∧k≤2 ^ 48) (hl:l.length≤2 ^ 48) (hs:∀ y∈l,y.In (2 ^ 48)),Te 125 [.one (slT false 12 (ClientV.enc false) l),.one (iT k)] ⟨[.one (iT (szSl szClient l k))],[[slT false 12 (ClientV.enc false) l],[iT k]]⟩
abbrev C_l_toClientS (Te:TE):Prop:=∀ (l:List ClientV) (hl:(l.length≤2 ^ 21∧∀ y∈l,y.Len)),Te 131 [.one (slT false 12 (ClientV.enc false) l)] ⟨[.one (slT true 12 (ClientV.enc true) l)],[[slT false 12 (ClientV.enc false) l]]⟩
abbrev C_l_eqClientS (Te:TE):Prop:=∀ (l m:List ClientV) (hl:(l.length≤2 ^ 21∧∀ y∈l,y.Len)),Te 138 [.one (slT false 12 (ClientV.enc false) l),.one (slT false 12 (ClientV.enc false) m)] ⟨[.one (bT (decide (l=m)))],[[slT false 12 (ClientV.enc false) l],[slT false 12 (ClientV.enc false) m]]⟩
def ClientV.markE (x:ClientV) (k:Int):ClientV:=⟨k,k + 1,mkB (k + 1 + 1),⟨k + 1 + 1 + 1,k + 1 + 1 + 1 + 1,k + 1 + 1 + 1 + 1 + 1,k + 1 + 1 + 1 + 1 + 1 + 1,mkS (k + 1 + 1 + 1 + 1 + 1 + 1 + 1),mkS (k + 1 + 1 + 1 + 1 + 1 + 1 + 1 + 1),k + 1 + 1 + 1 + 1 + 1 + 1 + 1 + 1 + 1,k + 1 + 1 + 1 + 1 + 1 + 1 + 1 + 1 + 1 + 1⟩,marks 5 mkDone x.Dones.length (k + 1 + 1 + 1 + 1 + 1 + 1 + 1 + 1 + 1 + 1 + 1)⟩
def ClientV.farE (x:ClientV) (k:Int):Int:=k + 1 + 1 + 1 + 1 + 1 + 1 + 1 + 1 + 1 + 1 + 1 + (5 * x.Dones.length:Nat)
theorem monoClientS (y:ClientV) (hy:y.Len) (k:Int):k≤ClientV.farE y k:=by
 show k≤(k + 1 + 1 + 1 + 1 + 1 + 1 + 1 + 1 + 1 + 1 + 1 + (5 * y.Dones.length:Nat))
 omega
abbrev C_l_markClientS (Te:TE):Prop:=∀ (l:List ClientV) (k:Int) (hl:(l.length≤2 ^ 21∧∀ y∈l,y.Len)) (hk:0≤k) (hf:farL ClientV.farE l k≤2 ^ 40),Te 143 [.one (slT true 12 (ClientV.enc true) l),.one (iT k)] ⟨[.one (iT (farL ClientV.farE l k))],[[slT true 12 (ClientV.enc true) (markL ClientV.markE ClientV.farE l k)],[iT k]]⟩
abbrev C_l_heldClientS (Te:TE):Prop:=∀ (l:List ClientV) (k:Int) (hl:(l.length≤2 ^ 21∧∀ y∈l,y.Len)) (hk:0≤k) (hf:farL ClientV.farE l k≤2 ^ 40),Te 153 [.one (slT false 12 (ClientV.enc false) (markL ClientV.markE ClientV.farE l k)),.one (iT k)] ⟨[.one (iT (farL ClientV.farE l k))],[[slT false 12 (ClientV.enc false) (markL ClientV.markE ClientV.farE l k)],[iT k]]⟩
structure WorldV where
 L:Lead
 Nodes:List NodeV
 Clients:List ClientV
 Net:List Msg
 Log:List ActV
 Maybe:List (List ActV)
 deriving DecidableEq
abbrev WorldV.enc (o:Bool) (x:WorldV):List Go.X.T:=[iT x.L.Phase,slT o 1 bR x.L.Acked,slT o 1 bR x.L.Ended,slT o 1 sR x.L.At,slT o 10 (NodeV.enc o) x.Nodes,slT o 12 (ClientV.enc o) x.Clients,slT o 8 Msg.row x.Net,slT o 6 ActV.row x.Log,slT o 1 (fun y=>[slT o 6 ActV.row y]) x.Maybe]
def WorldV.In (n:Nat) (x:WorldV):Prop:=x.L.In (n)∧(x.Nodes.length≤n∧∀ y∈x.Nodes,y.In (n))∧(x.Clients.length≤n∧∀ y∈x.Clients,y.In (n))∧(x.Net.length≤n∧∀ y∈x.Net,y.In (n))∧(x.Log.length≤n∧∀ y∈x.Log,y.In (n))∧(x.Maybe.length≤n∧∀ y∈x.Maybe,(y.length≤n∧∀ z∈y,z.In (n)))
theorem WorldV.In.mono {x:WorldV} {n m:Nat} (h:x.In n) (hn:n≤m):x.In m:=by
 simp only [WorldV.In] at h ⊢
 exact ⟨h.1.mono hn,⟨Nat.le_trans h.2.1.1 hn,fun y hy=>(h.2.1.2 y hy).mono hn⟩,⟨Nat.le_trans h.2.2.1.1 hn,fun y hy=>(h.2.2.1.2 y hy).mono hn⟩,⟨Nat.le_trans h.2.2.2.1.1 hn,fun y hy=>(h.2.2.2.1.2 y hy).mono hn⟩,⟨Nat.le_trans h.2.2.2.2.1.1 hn,fun y hy=>(h.2.2.2.2.1.2 y hy).mono hn⟩,⟨Nat.le_trans h.2.2.2.2.2.1 hn,fun y hy=>⟨Nat.le_trans (h.2.2.2.2.2.2 y hy).1 hn,fun z hz=>((h.2.2.2.2.2.2 y hy).2 z hz).mono hn⟩⟩⟩
def szWorld (x:WorldV) (k:Int):Int:=szAll [(szLead x.L),(szSl szNode x.Nodes),(szSl szClient x.Clients),(szSl szMsg x.Net),(szSl szAct x.Log),(szSl (szSl szAct) x.Maybe)] k
theorem szWorld_sane (x:WorldV):Sane (szWorld x):=Sane.all (.cons (szLead_sane _) (.cons (Sane.sl szNode_sane _) (.cons (Sane.sl szClient_sane _) (.cons (Sane.sl szMsg_sane _) (.cons (Sane.sl szAct_sane _) (.cons (Sane.sl (Sane.sl szAct_sane) _) .nil))))))
theorem szWorld_in {x:WorldV} {k:Int} {n:Nat} (hk:0≤k) (hn:k≤n) (h:0≤szWorld x k):x.In n:=by
 obtain ⟨⟨j0,a0,b0,c0⟩,⟨j1,a1,b1,c1⟩,⟨j2,a2,b2,c2⟩,⟨j3,a3,b3,c3⟩,⟨j4,a4,b4,c4⟩,⟨j5,a5,b5,c5⟩,_⟩:=szAll_ex (.cons (szLead_sane _) (.cons (Sane.sl szNode_sane _) (.cons (Sane.sl szClient_sane _) (.cons (Sane.sl szMsg_sane _) (.cons (Sane.sl szAct_sane _) (.cons (Sane.sl (Sane.sl szAct_sane) _) .nil)))))) hk hn h
 exact ⟨(szLead_in a0 b0 c0),(szSl_in szNode_sane (fun a j h0 hn h=>szNode_in h0 hn h) a1 b1 c1),(szSl_in szClient_sane (fun a j h0 hn h=>szClient_in h0 hn h) a2 b2 c2),(szSl_in szMsg_sane (fun a j h0 hn h=>szMsg_in h0 hn h) a3 b3 c3),(szSl_in szAct_sane (fun a j h0 hn h=>szAct_in h0 hn h) a4 b4 c4),(szSl_in (Sane.sl szAct_sane) (fun a j h0 hn h=>szSl_in szAct_sane (fun a j h0 hn h=>szAct_in h0 hn h) h0 hn h) a5 b5 c5)⟩
def WorldV.Len (x:WorldV):Prop:=x.L.Len∧(x.Nodes.length≤2 ^ 21∧∀ y∈x.Nodes,y.Len)∧(x.Clients.length≤2 ^ 21∧∀ y∈x.Clients,y.Len)∧x.Net.length≤2 ^ 21∧x.Log.length≤2 ^ 21∧(x.Maybe.length≤2 ^ 21∧∀ y∈x.Maybe,y.length≤2 ^ 21)
theorem WorldV.In.len {x:WorldV} {n:Nat} (h:x.In n) (hn:n≤2 ^ 21):x.Len:=by
 obtain ⟨h0,h1,h2,h3,h4,h5⟩:=h
 exact ⟨(h0).len (Nat.le_trans hn (by decide)),⟨Nat.le_trans h1.1 hn,fun y hy=>((h1.2 y hy)).len hn⟩,⟨Nat.le_trans h2.1 hn,fun y hy=>((h2.2 y hy)).len (Nat.le_trans hn (by decide))⟩,Nat.le_trans h3.1 hn,Nat.le_trans h4.1 hn,⟨Nat.le_trans h5.1 hn,fun y hy=>Nat.le_trans (h5.2 y hy).1 hn⟩⟩
abbrev C_l_szWorld (Te:TE):Prop:=∀ (x:WorldV) (k:Int) (hx:x.In (2 ^ 48)) (hk:0≤k∧k≤2 ^ 48),Te 46 [.agg (x.enc false),.one (iT k)] ⟨[.one (iT (szWorld x k))],[(x.enc false),[iT k]]⟩
abbrev C_l_toWorld (Te:TE):Prop:=∀ (x:WorldV) (hx:x.Len),Te 48 [.agg (x.enc false)] ⟨[.agg (x.enc true)],[(x.enc false)]⟩
abbrev C_l_eqWorld (Te:TE):Prop:=∀ (x y:WorldV) (hx:x.Len),Te 51 [.agg (x.enc false),.agg (y.enc false)] ⟨[.one (bT (decide (x=y)))],[(x.enc false),(y.enc false)]⟩
def WorldV.mark (x:WorldV) (k:Int):WorldV:=⟨x.L.mark k,markL NodeV.markE NodeV.farE x.Nodes ((x.L.far k)),markL ClientV.markE ClientV.farE x.Clients ((farL NodeV.farE x.Nodes ((x.L.far k)))),marks 8 mkMsg x.Net.length ((farL ClientV.farE x.Clients ((farL NodeV.farE x.Nodes ((x.L.far k)))))),marks 6 mkAct x.Log.length (((farL ClientV.farE x.Clients ((farL NodeV.farE x.Nodes ((x.L.far k))))) + (8 * x.Net.length:Nat))),markL (fun y k=>marks 6 mkAct y.length k) (fun y k=>k + (6 * y.length:Nat)) x.Maybe ((((farL ClientV.farE x.Clients ((farL NodeV.farE x.Nodes ((x.L.far k))))) + (8 * x.Net.length:Nat)) + (6 * x.Log.length:Nat)))⟩
def WorldV.far (x:WorldV) (k:Int):Int:=(farL (fun y k=>k + (6 * y.length:Nat)) x.Maybe ((((farL ClientV.farE x.Clients ((farL NodeV.farE x.Nodes ((x.L.far k))))) + (8 * x.Net.length:Nat)) + (6 * x.Log.length:Nat))))
theorem WorldV.mark_L_Acked (x:WorldV) (k:Int):(x.mark k).L.Acked.length=x.L.Acked.length:=by simp [WorldV.mark,Lead.mark,marks_length,markL_length]
theorem WorldV.take_L_Acked {β:Type} (f:Bool→β) (x:WorldV) (k:Int):((x.mark k).L.Acked.map f).take x.L.Acked.length=(x.mark k).L.Acked.map f:=by rw [← x.mark_L_Acked k,take_map]
theorem WorldV.mark_L_Ended (x:WorldV) (k:Int):(x.mark k).L.Ended.length=x.L.Ended.length:=by simp [WorldV.mark,Lead.mark,marks_length,markL_length]
theorem WorldV.take_L_Ended {β:Type} (f:Bool→β) (x:WorldV) (k:Int):((x.mark k).L.Ended.map f).take x.L.Ended.length=(x.mark k).L.Ended.map f:=by rw [← x.mark_L_Ended k,take_map]
theorem WorldV.mark_L_At (x:WorldV) (k:Int):(x.mark k).L.At.length=x.L.At.length:=by simp [WorldV.mark,Lead.mark,marks_length,markL_length]
theorem WorldV.take_L_At {β:Type} (f:ByteArray→β) (x:WorldV) (k:Int):((x.mark k).L.At.map f).take x.L.At.length=(x.mark k).L.At.map f:=by rw [← x.mark_L_At k,take_map]
theorem WorldV.mark_Nodes (x:WorldV) (k:Int):(x.mark k).Nodes.length=x.Nodes.length:=by simp [WorldV.mark,Lead.mark,marks_length,markL_length]
theorem WorldV.take_Nodes {β:Type} (f:NodeV→β) (x:WorldV) (k:Int):((x.mark k).Nodes.map f).take x.Nodes.length=(x.mark k).Nodes.map f:=by rw [← x.mark_Nodes k,take_map]
theorem WorldV.mark_Clients (x:WorldV) (k:Int):(x.mark k).Clients.length=x.Clients.length:=by simp [WorldV.mark,Lead.mark,marks_length,markL_length]
theorem WorldV.take_Clients {β:Type} (f:ClientV→β) (x:WorldV) (k:Int):((x.mark k).Clients.map f).take x.Clients.length=(x.mark k).Clients.map f:=by rw [← x.mark_Clients k,take_map]
theorem WorldV.mark_Net (x:WorldV) (k:Int):(x.mark k).Net.length=x.Net.length:=by simp [WorldV.mark,Lead.mark,marks_length,markL_length]
theorem WorldV.take_Net {β:Type} (f:Msg→β) (x:WorldV) (k:Int):((x.mark k).Net.map f).take x.Net.length=(x.mark k).Net.map f:=by rw [← x.mark_Net k,take_map]
theorem WorldV.mark_Log (x:WorldV) (k:Int):(x.mark k).Log.length=x.Log.length:=by simp [WorldV.mark,Lead.mark,marks_length,markL_length]
theorem WorldV.take_Log {β:Type} (f:ActV→β) (x:WorldV) (k:Int):((x.mark k).Log.map f).take x.Log.length=(x.mark k).Log.map f:=by rw [← x.mark_Log k,take_map]
theorem WorldV.mark_Maybe (x:WorldV) (k:Int):(x.mark k).Maybe.length=x.Maybe.length:=by simp [WorldV.mark,Lead.mark,marks_length,markL_length]
theorem WorldV.take_Maybe {β:Type} (f:List ActV→β) (x:WorldV) (k:Int):((x.mark k).Maybe.map f).take x.Maybe.length=(x.mark k).Maybe.map f:=by rw [← x.mark_Maybe k,take_map]
abbrev C_l_markWorld (Te:TE):Prop:=∀ (x:WorldV) (k:Int) (hx:x.Len) (hk:0≤k) (hf:x.far k≤2 ^ 40),Te 52 [.agg (x.enc true),.one (iT k)] ⟨[.one (iT (x.far k))],[(x.mark k).enc true,[iT k]]⟩
abbrev C_l_heldWorld (Te:TE):Prop:=∀ (x:WorldV) (k:Int) (hx:x.Len) (hk:0≤k) (hf:x.far k≤2 ^ 40),Te 57 [.agg ((x.mark k).enc false),.one (iT k)] ⟨[.one (iT (x.far k))],[(x.mark k).enc false,[iT k]]⟩
def win (n a b:Int):Bool:=decide (n≥a)&&decide (n≤b)
abbrev C_i_within (Te:TE):Prop:=∀ (n a b:Int),Te 90 [.one (iT n),.one (iT a),.one (iT b)] ⟨[.one (bT (win n a b))],[[iT n],[iT a],[iT b]]⟩
abbrev C_s_l1In (Te:TE):Prop:=∀ (n a b:Int),Te 120 [.one (iT n),.one (iT a),.one (iT b)] ⟨[.one (bT (win n a b))],[[iT n],[iT a],[iT b]]⟩
abbrev C_i_isWord (Te:TE):Prop:=∀ (n:Int),Te 247 [.one (iT n)] ⟨[.one (bT (win n 0 65535))],[[iT n]]⟩
abbrev C_s_l1Word (Te:TE):Prop:=∀ (n:Int),Te 161 [.one (iT n)] ⟨[.one (bT (win n 0 65535))],[[iT n]]⟩
def Lead.ok (l:Lead):Bool:=win l.Phase 0 7&&((l.Acked.length:Int)==2)&&((l.Ended.length:Int)==2)&&((l.At.length:Int)==2)&&l.At.all (fun s=>decide ((s.size:Int)≤60))
def leadIn (p:Int):Lead:=⟨p,[false,false],[false,false],[⟨#[]⟩,⟨#[]⟩]⟩
theorem leadIn_In (p:Int):(leadIn p).In 2:=by
 refine ⟨Nat.le_refl _,Nat.le_refl _,Nat.le_refl _,fun y hy=>?_⟩
 simp only [leadIn,List.mem_cons,List.not_mem_nil,or_false,or_self] at hy
 subst hy
 decide
abbrev C_i_leadIn (Te:TE):Prop:=∀ (p:Int),Te 236 [.one (iT p)] ⟨[.agg ((leadIn p).enc true)],[[iT p]]⟩
abbrev C_s_l19At (Te:TE):Prop:=∀ (p:Int),Te 235 [.one (iT p)] ⟨[.agg ((leadIn p).enc true)],[[iT p]]⟩
abbrev C_i_LeadNew (Te:TE):Prop:=Te 149 [] ⟨[.agg ((leadIn 0).enc true)],[]⟩
abbrev C_s_LeadNew (Te:TE):Prop:=Te 147 [] ⟨[.agg ((leadIn 0).enc true)],[]⟩
abbrev bytesR (o:Bool) (l:List UInt8):List T:=[slT o 1 uR l]
theorem toNat_ofInt (a:Nat) (h:a < 2 ^ 62):(BitVec.ofInt 64 (a:Int)).toNat=a:=by
 rw [BitVec.toNat_ofInt]
 omega
theorem xor_nat (a b:Nat) (ha:a < 2 ^ 62) (hb:b < 2 ^ 62):xorK .i64 (a:Int) (b:Int)=((a ^^^ b:Nat):Int):=by
 rw [xorK_def,show IntKind.i64.bits=64 from rfl,BitVec.toNat_xor,toNat_ofInt a ha,toNat_ofInt b hb,IntWalk.i64_in]
 have:=Nat.xor_lt_two_pow ha hb
 omega
theorem or_nat (a b:Nat) (ha:a < 2 ^ 62) (hb:b < 2 ^ 62):orK .i64 (a:Int) (b:Int)=((a ||| b:Nat):Int):=by
 rw [orK_def,show IntKind.i64.bits=64 from rfl,BitVec.toNat_or,toNat_ofInt a ha,toNat_ofInt b hb,IntWalk.i64_in]
 have:=Nat.or_lt_two_pow ha hb
 omega
theorem and_nat (a b:Nat) (ha:a < 2 ^ 62) (hb:b < 2 ^ 62):andK .i64 (a:Int) (b:Int)=((a &&& b:Nat):Int):=by
 rw [andK_def,show IntKind.i64.bits=64 from rfl,BitVec.toNat_and,toNat_ofInt a ha,toNat_ofInt b hb,IntWalk.i64_in]
 have:=Nat.and_lt_two_pow a hb
 omega
theorem min8:Nat.min 8 64=8:=rfl
theorem and255 (a:Int):mkU (andK .i64 a 255)=mkU a:=by
 rw [andK_def]
 show mkU (IntKind.i64.wrap ((BitVec.ofInt 64 a &&& BitVec.ofInt 64 255).toNat))=mkU a
 have e:(BitVec.ofInt 64 a &&& BitVec.ofInt 64 255).toNat=(a % 256).toNat:=by
  rw [BitVec.toNat_and,BitVec.toNat_ofInt,show (BitVec.ofInt 64 255).toNat=2 ^ 8 - 1 by decide,Nat.and_two_pow_sub_one_eq_mod]
  omega
 rw [e,IntWalk.i64_in _ (by omega)]
 simp only [mkU]
 congr 1
 omega
theorem ofBytes_eq (l:List UInt8):ofBytes l=l.map uR:=rfl
def hiB (n:Int):UInt8:=mkU (n.fdiv 256)
def putW (b:List UInt8) (n:Int):List UInt8:=b++[hiB n,mkU n]
def putText (b:List UInt8) (s:ByteArray):List UInt8:=if (s.size:Int) > 60 then b else putW b s.size++s.data.toList
def sumBit (s:Nat):Nat:=if 2 * s > 65535 then 2 * s ^^^ 69665 else 2 * s
def sumBits:Nat→Nat→Nat
 | 0,s=>s
 | n + 1,s=>sumBit (sumBits n s)
def sumByte (s:Nat) (b:UInt8):Nat:=sumBits 8 (s ^^^ (256 * b.toNat))
def sum (l:List UInt8):Nat:=l.foldl sumByte 65535 &&& 65535
theorem sumBit_lt {s:Nat} (h:s < 65536):sumBit s < 65536:=by
 unfold sumBit
 split
 ·rename_i q
  have h1:2 * s < 2 ^ 17:=by omega
  refine Nat.lt_pow_two_of_testBit (n:=16) _ fun i hi=>?_
  rw [Nat.testBit_xor]
  by_cases h16:i=16
  ·subst h16
   have:(2 * s).testBit 16=true:=by
    rw [Nat.testBit_eq_decide_div_mod_eq]
    have:2 * s / 2 ^ 16=1:=by omega
    simp [this]
   rw [this]; decide
  ·rw [Nat.testBit_lt_two_pow (Nat.lt_of_lt_of_le h1 (Nat.pow_le_pow_right (by decide) (by omega))),Nat.testBit_lt_two_pow (Nat.lt_of_lt_of_le (show 69665 < 2 ^ 17 by decide) (Nat.pow_le_pow_right (by decide) (by omega)))]
   rfl
 ·omega
theorem sumBits_lt (n:Nat) {s:Nat} (h:s < 65536):sumBits n s < 65536:=by
 induction n with
 | zero=>exact h
 | succ n ih=>exact sumBit_lt ih
theorem sumX_lt {s:Nat} (b:UInt8) (h:s < 65536):s ^^^ (256 * b.toNat) < 65536:=Nat.xor_lt_two_pow (n:=16) h (by have:=b.toNat_lt; omega)
theorem sumByte_lt {s:Nat} (b:UInt8) (h:s < 65536):sumByte s b < 65536:=sumBits_lt 8 (sumX_lt b h)
abbrev C_i_joined (Te:TE):Prop:=∀ (ps:List (List UInt8)) (h:ps.flatten.length≤2 ^ 31) (h2:ps.length≤2 ^ 31),Te 100 [.one (slT false 1 (bytesR false) ps)] ⟨[.one (slT true 1 uR ps.flatten)],[[slT false 1 (bytesR false) ps]]⟩
abbrev C_i_Sum (Te:TE):Prop:=∀ (l:List UInt8) (h:l.length≤2 ^ 31),Te 315 [.one (slT false 1 uR l)] ⟨[.one (iT (sum l))],[[slT false 1 uR l]]⟩
abbrev C_s_Sum (Te:TE):Prop:=∀ (l:List UInt8) (h:l.length≤2 ^ 31),Te 285 [.one (slT false 1 uR l)] ⟨[.one (iT (sum l))],[[slT false 1 uR l]]⟩
abbrev C_i_PutW (Te:TE):Prop:=∀ (b:List UInt8) (n:Int) (h:b.length≤2 ^ 30),Te 312 [.one (slT false 1 uR b),.one (iT n)] ⟨[.one (slT true 1 uR (putW b n))],[[slT false 1 uR b],[iT n]]⟩
abbrev C_s_PutW (Te:TE):Prop:=∀ (b:List UInt8) (n:Int) (h:b.length≤2 ^ 30),Te 282 [.one (slT false 1 uR b),.one (iT n)] ⟨[.one (slT true 1 uR (putW b n))],[[slT false 1 uR b],[iT n]]⟩
theorem putW_len (b:List UInt8) (n:Int):(putW b n).length=b.length + 2:=by simp only [putW,List.length_append]; rfl
theorem putText_len (b:List UInt8) (t:ByteArray):(putText b t).length≤b.length + 62:=by
 unfold putText
 split
 ·omega
 ·have:t.data.toList.length=t.size:=by rw [Array.length_toList]; rfl
  rw [List.length_append,putW_len]
  omega
theorem flat1 {α:Type} (a:List α):[a].flatten=a:=by rw [List.flatten_cons,List.flatten_nil,List.append_nil]
theorem flat2 {α:Type} (a b:List α):[a,b].flatten=a++b:=by rw [List.flatten_cons,flat1]
abbrev C_s_PutText (Te:TE):Prop:=∀ (b:List UInt8) (t:ByteArray) (h:b.length≤2 ^ 29) (ht:t.size≤2 ^ 48),Te 284 [.one (slT false 1 uR b),.one (sT t)] ⟨[.one (slT true 1 uR (putText b t))],[[slT false 1 uR b],[sT t]]⟩
abbrev C_i_PutText (Te:TE):Prop:=∀ (b:List UInt8) (t:ByteArray) (h:b.length≤2 ^ 29) (ht:t.size≤2 ^ 48),Te 314 [.one (slT false 1 uR b),.one (sT t)] ⟨[.one (slT true 1 uR (putText b t))],[[slT false 1 uR b],[sT t]]⟩
def client0 (id:Int):ClientV:=⟨id,0,false,⟨0,0,0,0,⟨#[]⟩,⟨#[]⟩,0,0⟩,[]⟩
theorem client0_len (id:Int):(client0 id).Len:=by show 0≤2 ^ 31; decide
abbrev C_i_ClientNew (Te:TE):Prop:=∀ (id:Int),Te 150 [.one (iT id)] ⟨[.agg ((client0 id).enc true)],[[iT id]]⟩
abbrev C_s_ClientNew (Te:TE):Prop:=∀ (id:Int),Te 148 [.one (iT id)] ⟨[.agg ((client0 id).enc true)],[[iT id]]⟩
def koiL:List Int:=[1102,1072,1073,1094,1076,1077,1092,1075,1093,1080,1081,1082,1083,1084,1085,1086,1087,1103,1088,1089,1090,1091,1078,1074,1100,1099,1079,1096,1101,1097,1095,1098]
def winL:List Int:=[8364,0,8218,402,8222,8230,8224,8225,710,8240,352,8249,338,0,381,0,0,8216,8217,8220,8221,8226,8211,8212,732,8482,353,8250,339,0,382,376]
def winM:List Int:=[8364,-1,8218,402,8222,8230,8224,8225,710,8240,352,8249,338,-1,381,-1,-1,8216,8217,8220,8221,8226,8211,8212,732,8482,353,8250,339,-1,382,376]
def nine (b:Int):Int:=bif b==164 then 8364 else bif b==166 then 352 else bif b==168 then 353 else bif b==180 then 381 else bif b==184 then 382 else bif b==188 then 338 else bif b==189 then 339 else bif b==190 then 376 else b
def koi (d b:Int):Int:=bif decide (b≥224) then koiL.getD (b - 224).toNat 0 - 32 else bif decide (b≥192) then koiL.getD (b - 192).toNat 0 else bif b==163 then 1105 else bif b==179 then 1025 else d
def winB (l:List Int) (b:Int):Int:=bif decide (b≥160) then b else l.getD (b - 128).toNat 0
theorem koi_in:∀ k:Fin 32,0≤koiL.getD k.val 0∧koiL.getD k.val 0≤65535:=by decide
theorem getD_at {l:List Int} {k:Nat} (hk:k < l.length):l[k]?=some (l.getD k 0):=by rw [List.getD_eq_getElem?_getD,List.getElem?_eq_getElem hk]; rfl
theorem koi_cel {k:Nat} (hk:k < 32):([Cel.pv (Value.int IntKind.i64 1102),Cel.pv (Value.int IntKind.i64 1072),Cel.pv (Value.int IntKind.i64 1073),Cel.pv (Value.int IntKind.i64 1094),Cel.pv (Value.int IntKind.i64 1076),Cel.pv (Value.int IntKind.i64 1077),Cel.pv (Value.int IntKind.i64 1092),Cel.pv (Value.int IntKind.i64 1075),Cel.pv (Value.int IntKind.i64 1093),Cel.pv (Value.int IntKind.i64 1080),Cel.pv (Value.int IntKind.i64 1081),Cel.pv (Value.int IntKind.i64 1082),Cel.pv (Value.int IntKind.i64 1083),Cel.pv (Value.int IntKind.i64 1084),Cel.pv (Value.int IntKind.i64 1085),Cel.pv (Value.int IntKind.i64 1086),Cel.pv (Value.int IntKind.i64 1087),Cel.pv (Value.int IntKind.i64 1103),Cel.pv (Value.int IntKind.i64 1088),Cel.pv (Value.int IntKind.i64 1089),Cel.pv (Value.int IntKind.i64 1090),Cel.pv (Value.int IntKind.i64 1091),Cel.pv (Value.int IntKind.i64 1078),Cel.pv (Value.int IntKind.i64 1074),Cel.pv (Value.int IntKind.i64 1100),Cel.pv (Value.int IntKind.i64 1099),Cel.pv (Value.int IntKind.i64 1079),Cel.pv (Value.int IntKind.i64 1096),Cel.pv (Value.int IntKind.i64 1101),Cel.pv (Value.int IntKind.i64 1097),Cel.pv (Value.int IntKind.i64 1095),Cel.pv (Value.int IntKind.i64 1098)]:List Cel)[k]?=some (Cel.pv (Value.int IntKind.i64 (koiL.getD k 0))):=by
 show (koiL.map fun a=>Cel.pv (Value.int IntKind.i64 a))[k]?=_
 rw [List.getElem?_map,getD_at (l:=koiL) hk]; rfl
theorem win_cel {k:Nat} (hk:k < 32):([Cel.pv (Value.int IntKind.i64 8364),Cel.pv (Value.int IntKind.i64 0),Cel.pv (Value.int IntKind.i64 8218),Cel.pv (Value.int IntKind.i64 402),Cel.pv (Value.int IntKind.i64 8222),Cel.pv (Value.int IntKind.i64 8230),Cel.pv (Value.int IntKind.i64 8224),Cel.pv (Value.int IntKind.i64 8225),Cel.pv (Value.int IntKind.i64 710),Cel.pv (Value.int IntKind.i64 8240),Cel.pv (Value.int IntKind.i64 352),Cel.pv (Value.int IntKind.i64 8249),Cel.pv (Value.int IntKind.i64 338),Cel.pv (Value.int IntKind.i64 0),Cel.pv (Value.int IntKind.i64 381),Cel.pv (Value.int IntKind.i64 0),Cel.pv (Value.int IntKind.i64 0),Cel.pv (Value.int IntKind.i64 8216),Cel.pv (Value.int IntKind.i64 8217),Cel.pv (Value.int IntKind.i64 8220),Cel.pv (Value.int IntKind.i64 8221),Cel.pv (Value.int IntKind.i64 8226),Cel.pv (Value.int IntKind.i64 8211),Cel.pv (Value.int IntKind.i64 8212),Cel.pv (Value.int IntKind.i64 732),Cel.pv (Value.int IntKind.i64 8482),Cel.pv (Value.int IntKind.i64 353),Cel.pv (Value.int IntKind.i64 8250),Cel.pv (Value.int IntKind.i64 339),Cel.pv (Value.int IntKind.i64 0),Cel.pv (Value.int IntKind.i64 382),Cel.pv (Value.int IntKind.i64 376)]:List Cel)[k]?=some (Cel.pv (Value.int IntKind.i64 (winL.getD k 0))):=by
 show (winL.map fun a=>Cel.pv (Value.int IntKind.i64 a))[k]?=_
 rw [List.getElem?_map,getD_at (l:=winL) hk]; rfl
theorem koi_row {k:Nat} (hk:k < 32):([[Tr.pv (Value.int IntKind.i64 1102)],[Tr.pv (Value.int IntKind.i64 1072)],[Tr.pv (Value.int IntKind.i64 1073)],[Tr.pv (Value.int IntKind.i64 1094)],[Tr.pv (Value.int IntKind.i64 1076)],[Tr.pv (Value.int IntKind.i64 1077)],[Tr.pv (Value.int IntKind.i64 1092)],[Tr.pv (Value.int IntKind.i64 1075)],[Tr.pv (Value.int IntKind.i64 1093)],[Tr.pv (Value.int IntKind.i64 1080)],[Tr.pv (Value.int IntKind.i64 1081)],[Tr.pv (Value.int IntKind.i64 1082)],[Tr.pv (Value.int IntKind.i64 1083)],[Tr.pv (Value.int IntKind.i64 1084)],[Tr.pv (Value.int IntKind.i64 1085)],[Tr.pv (Value.int IntKind.i64 1086)],[Tr.pv (Value.int IntKind.i64 1087)],[Tr.pv (Value.int IntKind.i64 1103)],[Tr.pv (Value.int IntKind.i64 1088)],[Tr.pv (Value.int IntKind.i64 1089)],[Tr.pv (Value.int IntKind.i64 1090)],[Tr.pv (Value.int IntKind.i64 1091)],[Tr.pv (Value.int IntKind.i64 1078)],[Tr.pv (Value.int IntKind.i64 1074)],[Tr.pv (Value.int IntKind.i64 1100)],[Tr.pv (Value.int IntKind.i64 1099)],[Tr.pv (Value.int IntKind.i64 1079)],[Tr.pv (Value.int IntKind.i64 1096)],[Tr.pv (Value.int IntKind.i64 1101)],[Tr.pv (Value.int IntKind.i64 1097)],[Tr.pv (Value.int IntKind.i64 1095)],[Tr.pv (Value.int IntKind.i64 1098)]]:List (List T))[k]?=some ([Tr.pv (Value.int IntKind.i64 (koiL.getD k 0))]):=by
 show (koiL.map fun a=>[Tr.pv (Value.int IntKind.i64 a)])[k]?=_
 rw [List.getElem?_map,getD_at (l:=koiL) hk]; rfl
theorem win_row {k:Nat} (hk:k < 32):([[Tr.pv (Value.int IntKind.i64 8364)],[Tr.pv (Value.int IntKind.i64 (-1))],[Tr.pv (Value.int IntKind.i64 8218)],[Tr.pv (Value.int IntKind.i64 402)],[Tr.pv (Value.int IntKind.i64 8222)],[Tr.pv (Value.int IntKind.i64 8230)],[Tr.pv (Value.int IntKind.i64 8224)],[Tr.pv (Value.int IntKind.i64 8225)],[Tr.pv (Value.int IntKind.i64 710)],[Tr.pv (Value.int IntKind.i64 8240)],[Tr.pv (Value.int IntKind.i64 352)],[Tr.pv (Value.int IntKind.i64 8249)],[Tr.pv (Value.int IntKind.i64 338)],[Tr.pv (Value.int IntKind.i64 (-1))],[Tr.pv (Value.int IntKind.i64 381)],[Tr.pv (Value.int IntKind.i64 (-1))],[Tr.pv (Value.int IntKind.i64 (-1))],[Tr.pv (Value.int IntKind.i64 8216)],[Tr.pv (Value.int IntKind.i64 8217)],[Tr.pv (Value.int IntKind.i64 8220)],[Tr.pv (Value.int IntKind.i64 8221)],[Tr.pv (Value.int IntKind.i64 8226)],[Tr.pv (Value.int IntKind.i64 8211)],[Tr.pv (Value.int IntKind.i64 8212)],[Tr.pv (Value.int IntKind.i64 732)],[Tr.pv (Value.int IntKind.i64 8482)],[Tr.pv (Value.int IntKind.i64 353)],[Tr.pv (Value.int IntKind.i64 8250)],[Tr.pv (Value.int IntKind.i64 339)],[Tr.pv (Value.int IntKind.i64 (-1))],[Tr.pv (Value.int IntKind.i64 382)],[Tr.pv (Value.int IntKind.i64 376)]]:List (List T))[k]?=some ([Tr.pv (Value.int IntKind.i64 (winM.getD k 0))]):=by
 show (winM.map fun a=>[Tr.pv (Value.int IntKind.i64 a)])[k]?=_
 rw [List.getElem?_map,getD_at (l:=winM) hk]; rfl
abbrev C_i_nineSign (Te:TE):Prop:=∀ (b:Int),Te 325 [.one (iT b)] ⟨[.one (iT (nine b))],[[iT b]]⟩
abbrev C_s_l3Nine (Te:TE):Prop:=∀ (b:Int),Te 331 [.one (iT b)] ⟨[.one (iT (nine b))],[[iT b]]⟩
abbrev C_i_koiSign (Te:TE):Prop:=∀ (b:Int) (hb:128≤b∧b≤255),Te 326 [.one (iT b)] ⟨[.one (iT (koi 0 b))],[[iT b]]⟩
abbrev C_s_l3Koi (Te:TE):Prop:=∀ (b:Int) (hb:128≤b∧b≤255),Te 332 [.one (iT b)] ⟨[.one (iT (koi (-1) b))],[[iT b]]⟩
abbrev C_i_winSign (Te:TE):Prop:=∀ (b:Int) (hb:128≤b∧b≤255),Te 327 [.one (iT b)] ⟨[.one (iT (winB winL b))],[[iT b]]⟩
abbrev C_s_l3Win (Te:TE):Prop:=∀ (b:Int) (hb:128≤b∧b≤255),Te 333 [.one (iT b)] ⟨[.one (iT (winB winM b))],[[iT b]]⟩
def signOf (cs b:Int):Int:=bif cs==2 then nine b else bif cs==3 then koi 0 b else bif cs==4 then winB winL b else b
def byteSign (cs b:Int):Int×Bool:=bif win cs 1 4&&win b 0 255 then (bif decide (b≤127) then (b,true) else (signOf cs b,signOf cs b != 0)) else (0,false)
theorem koi_two:∀ k:Fin 128,koi (-1) ((k.val:Int) + 128)=(bif koi 0 ((k.val:Int) + 128)==0 then -1 else koi 0 ((k.val:Int) + 128))∧0≤koi 0 ((k.val:Int) + 128):=by decide
theorem win_two:∀ k:Fin 128,winB winM ((k.val:Int) + 128)=(bif winB winL ((k.val:Int) + 128)==0 then -1 else winB winL ((k.val:Int) + 128))∧0≤winB winL ((k.val:Int) + 128):=by decide
theorem nine_up:∀ k:Fin 128,0 < nine ((k.val:Int) + 128):=by decide
theorem at128 {p:Int→Prop} (h:∀ k:Fin 128,p ((k.val:Int) + 128)) {b:Int} (hb:128≤b∧b≤255):p b:=by
 have:=h ⟨(b - 128).toNat,by omega⟩
 rwa [show (((b - 128).toNat:Nat):Int) + 128=b by omega] at this
theorem koi_rel {b:Int} (hb:128≤b∧b≤255):koi (-1) b=(bif koi 0 b==0 then -1 else koi 0 b)∧0≤koi 0 b:=at128 (p:=fun b=>koi (-1) b=(bif koi 0 b==0 then -1 else koi 0 b)∧0≤koi 0 b) koi_two hb
theorem win_rel {b:Int} (hb:128≤b∧b≤255):winB winM b=(bif winB winL b==0 then -1 else winB winL b)∧0≤winB winL b:=at128 (p:=fun b=>winB winM b=(bif winB winL b==0 then -1 else winB winL b)∧0≤winB winL b) win_two hb
theorem nine_rel {b:Int} (hb:128≤b∧b≤255):0 < nine b:=at128 (p:=fun b=>0 < nine b) nine_up hb
abbrev C_i_ByteSign (Te:TE):Prop:=∀ (cs b:Int),Te 269 [.one (iT cs),.one (iT b)] ⟨[.one (iT (byteSign cs b).1),.one (bT (byteSign cs b).2)],[[iT cs],[iT b]]⟩
abbrev C_s_ByteSign (Te:TE):Prop:=∀ (cs b:Int),Te 274 [.one (iT cs),.one (iT b)] ⟨[.one (iT (byteSign cs b).1),.one (bT (byteSign cs b).2)],[[iT cs],[iT b]]⟩
def signOk (n:Int):Bool:=win n 0 1114111 && !win n 55296 57343
def enc8 (n:Nat):List UInt8 :=
 if n≤127 then [UInt8.ofNat n] else if n≤2047 then [UInt8.ofNat (192 + n / 64),UInt8.ofNat (128 + n % 64)]
 else if n≤65535 then [UInt8.ofNat (224 + n / 4096),UInt8.ofNat (128 + n / 64 % 64),UInt8.ofNat (128 + n % 64)]
 else [UInt8.ofNat (240 + n / 262144),UInt8.ofNat (128 + n / 4096 % 64),UInt8.ofNat (128 + n / 64 % 64),UInt8.ofNat (128 + n % 64)]
def putSign (b:List UInt8) (n:Int):List UInt8:=if signOk n=true then b++enc8 n.toNat else b
theorem enc8_len (n:Nat):0 < (enc8 n).length∧(enc8 n).length≤4:=by
 unfold enc8
 split
 ·simp
 ·split
  ·simp
  ·split <;> simp
theorem putSign_len (b:List UInt8) (n:Int):(putSign b n).length≤b.length + 4:=by
 unfold putSign
 split
 ·rw [List.length_append]; have:=(enc8_len n.toNat).2; omega
 ·omega
theorem signOk_in {n:Int} (h:signOk n=true):0≤n∧n≤1114111∧¬ (55296≤n∧n≤57343):=by
 simp only [signOk,win,Bool.and_eq_true,Bool.not_eq_true',decide_eq_true_eq,Bool.and_eq_false_imp,decide_eq_false_iff_not] at h
 omega
theorem or_hd (c i a:Nat) (hc:c=2 ^ i * a) {x:Nat} (hx:x < 2 ^ i) (hb:c < 2 ^ 60∧x < 2 ^ 60):orK .i64 (c:Int) (x:Int)=((c + x:Nat):Int):=by
 rw [or_nat c x (by omega) (by omega),hc,Nat.two_pow_add_eq_or_of_lt hx]
theorem mkU_nat (k:Nat):mkU (k:Int)=UInt8.ofNat k:=by
 have:((k:Int) % 256).toNat=k % 256:=by omega
 rw [mkU,this]
 apply UInt8.toNat_inj.1
 rw [UInt8.toNat_ofNat',UInt8.toNat_ofNat']
 omega
theorem and63 (m:Nat) (hm:m < 2 ^ 60):andK .i64 (m:Int) 63=((m % 64:Nat):Int):=by
 have:=and_nat m 63 (by omega) (by decide)
 rw [Nat.and_two_pow_sub_one_eq_mod m 6] at this
 exact this
theorem fdivN (m k:Nat):(m:Int).fdiv (k:Int)=((m / k:Nat):Int):=by
 rw [Int.fdiv_eq_ediv_of_nonneg _ (by omega)]
 rfl
theorem wrap8 (k:Nat) (h:k < 256):(k:Int)=((UInt8.ofNat k).toNat:Int):=by
 rw [UInt8.toNat_ofNat']
 omega
theorem or8 (c i a:Nat) (hc:c=2 ^ i * a) {x:Nat} (hx:x < 2 ^ i) (hb:c + x < 256):orK .u8 (c:Int) (x:Int)=((UInt8.ofNat (c + x)).toNat:Int):=by
 rw [orK_def]
 show IntKind.u8.wrap ((BitVec.ofInt 8 (c:Int) ||| BitVec.ofInt 8 (x:Int)).toNat)=_
 have h1:(BitVec.ofInt 8 (c:Int)).toNat=c:=by rw [BitVec.toNat_ofInt]; omega
 have h2:(BitVec.ofInt 8 (x:Int)).toNat=x:=by rw [BitVec.toNat_ofInt]; omega
 have h3:c ||| x=c + x:=by rw [hc,← Nat.two_pow_add_eq_or_of_lt hx]
 rw [BitVec.toNat_or,h1,h2,h3,← wrap8 _ hb,IntKind.wrap_u8]
 omega
theorem and8 (m:Nat) (hm:m < 256):andK .u8 (m:Int) 63=((m % 64:Nat):Int):=by
 rw [andK_def]
 show IntKind.u8.wrap ((BitVec.ofInt 8 (m:Int) &&& BitVec.ofInt 8 63).toNat)=_
 have h1:(BitVec.ofInt 8 (m:Int)).toNat=m:=by rw [BitVec.toNat_ofInt]; omega
 have h2:(BitVec.ofInt 8 63).toNat=2 ^ 6 - 1:=by decide
 rw [BitVec.toNat_and,h1,h2,Nat.and_two_pow_sub_one_eq_mod,IntKind.wrap_u8]
 omega
theorem mkU_toNat (k:Nat):(mkU (k:Int)).toNat=k % 256:=by rw [mkU_nat,UInt8.toNat_ofNat']
abbrev C_s_SignOk (Te:TE):Prop:=∀ (n:Int),Te 275 [.one (iT n)] ⟨[.one (bT (signOk n))],[[iT n]]⟩
abbrev C_i_SignOk (Te:TE):Prop:=∀ (n:Int),Te 270 [.one (iT n)] ⟨[.one (bT (signOk n))],[[iT n]]⟩
abbrev C_s_PutSign (Te:TE):Prop:=∀ (b:List UInt8) (n:Int) (hb:b.length≤2 ^ 30),Te 189 [.one (slT false 1 uR b),.one (iT n)] ⟨[.one (slT true 1 uR (putSign b n))],[[slT false 1 uR b],[iT n]]⟩
abbrev C_u_appendRuneNonASCII (Te:TE):Prop:=∀ (b:List UInt8) (m:Nat) (hb:b.length≤2 ^ 30) (hm:127 < m∧m≤1114111∧¬ (55296≤m∧m≤57343)),Te 328 [.one (slT true 1 uR b),.one (.pv (.int .i32 m))] ⟨[.one (slT true 1 uR (b++enc8 m))],[[.no ()],[.pv (.int .i32 m)]]⟩
abbrev C_u_AppendRune (Te:TE):Prop:=∀ (b:List UInt8) (m:Nat) (hb:b.length≤2 ^ 30) (hm:m≤1114111∧¬ (55296≤m∧m≤57343)),Te 271 [.one (slT true 1 uR b),.one (.pv (.int .i32 m))] ⟨[.one (slT true 1 uR (b++enc8 m))],[[.no ()],[.pv (.int .i32 m)]]⟩
abbrev C_i_PutSign (Te:TE):Prop:=∀ (b:List UInt8) (n:Int) (hb:b.length≤2 ^ 30),Te 186 [.one (slT false 1 uR b),.one (iT n)] ⟨[.one (slT true 1 uR (putSign b n))],[[slT false 1 uR b],[iT n]]⟩
theorem rngOn_mk {s:List (Nat×SV)} {b:List (Nat×List Cel)} {r:List (Nat×List T)} {tc td p c:Nat}:rngOn ⟨s,b,r⟩ tc td p c=⟨put (put s tc (.tup [.one (.pv (.bool true)),.one (.pv (.int .i64 p)),.one (.pv (.int .i32 c))])) td (.one (.pv (.bool true))),b,r⟩:=rfl
theorem rngOff_mk {s:List (Nat×SV)} {b:List (Nat×List Cel)} {r:List (Nat×List T)} {tc td:Nat}:rngOff ⟨s,b,r⟩ tc td=⟨put (put s tc (.tup [.one (.pv (.bool false))])) td (.one (.pv (.bool false))),b,r⟩:=rfl
theorem rngIn_mk {s:List (Nat×SV)} {b:List (Nat×List Cel)} {r:List (Nat×List T)} {ta tb i:Nat} {x:ByteArray}:rngIn ⟨s,b,r⟩ ta tb i x=⟨put (put s ta (.one (.pv (.string x)))) tb (itV i),b,r⟩:=rfl
def signAt (l:List UInt8):Option (Nat×Nat):=if (Lib.decodeL l).1=65533∧(Lib.decodeL l).2=1 then none else some (Lib.decodeL l)
def getSign (b:List UInt8) (i:Int):Int×Int×Bool:=if 0≤i∧i < b.length then (match signAt (b.drop i.toNat) with | some d=>((d.1:Int),i + (d.2:Nat),true) | none=>(0,0,false)) else (0,0,false)
theorem getSign_no {b:List UInt8} {i:Int} (h:¬ (0≤i∧i < b.length)):getSign b i=(0,0,false):=if_neg h
theorem getSign_bad {b:List UInt8} {i:Int} (h:0≤i∧i < b.length) (hd:signAt (b.drop i.toNat)=none):getSign b i=(0,0,false):=by rw [getSign,if_pos h,hd]
theorem getSign_good {b:List UInt8} {i:Int} {d:Nat×Nat} (h:0≤i∧i < b.length) (hd:signAt (b.drop i.toNat)=some d):getSign b i=((d.1:Int),i + (d.2:Nat),true):=by rw [getSign,if_pos h,hd]
theorem decodeL_bound (l:List UInt8):(Lib.decodeL l).1≤1114111:=by
 have h0:=(l.getD 0 0).toNat_lt
 have h1:=(l.getD 1 0).toNat_lt
 have h2:=(l.getD 2 0).toNat_lt
 have h3:=(l.getD 3 0).toNat_lt
 rw [Lib.decodeL_N]
 unfold Lib.decodeN
 repeat' split
 all_goals (simp only; omega)
theorem drop_map_take {α β:Type} (f:α→β) (l:List α) (k:Nat):List.take (l.length - k) (List.drop k (l.map f))=(l.drop k).map f:=by
 rw [← List.map_drop,List.take_of_length_le (by simp)]
abbrev C_u_DecodeRune (Te:TE):Prop:=∀ (l:List UInt8) (hl:l≠[]),Te 323 [.one (slT false 1 uR l)] ⟨[.one (.pv (.int .i32 (Lib.decodeL l).1)),.one (iT (Lib.decodeL l).2)],[[slT false 1 uR l]]⟩
abbrev C_i_GetSign (Te:TE):Prop:=∀ (b:List UInt8) (i:Int) (hb:b.length≤2 ^ 40),Te 267 [.one (slT false 1 uR b),.one (iT i)] ⟨[.one (iT (getSign b i).1),.one (iT (getSign b i).2.1),.one (bT (getSign b i).2.2)],[[slT false 1 uR b],[iT i]]⟩
def l2len (b:Nat):Nat:=if b < 128 then 1 else if 194≤b∧b≤223 then 2 else if 224≤b∧b≤239 then 3 else if 240≤b∧b≤244 then 4 else 0
def byteN (l:List UInt8) (k:Nat):Nat:=(l.getD k 0).toNat
theorem byteN_lt (l:List UInt8) (k:Nat):byteN l k < 256:=(l.getD k 0).toNat_lt
def accN (l:List UInt8) (m:Nat):Nat→Nat
 | 0=>m
 | j + 1=>accN l m j * 64 + byteN l (j + 1) % 64
theorem decodeL_B (l:List UInt8):Lib.decodeL l=Lib.decodeN l.length (byteN l 0) (byteN l 1) (byteN l 2) (byteN l 3):=Lib.decodeL_N l
theorem sign_none {l:List UInt8} (h:Lib.decodeN l.length (byteN l 0) (byteN l 1) (byteN l 2) (byteN l 3)=(65533,1)):signAt l=none:=by
 unfold signAt
 rw [decodeL_B,h]
 exact if_pos ⟨rfl,rfl⟩
theorem sign_some {l:List UInt8} {n k:Nat} (h:Lib.decodeN l.length (byteN l 0) (byteN l 1) (byteN l 2) (byteN l 3)=(n,k)) (hk:k≠1∨n < 128):signAt l=some (n,k):=by
 unfold signAt
 rw [decodeL_B,h]
 exact if_neg (by simp only; omega)
theorem sign0 {l:List UInt8} (h:l2len (byteN l 0)=0∨l.length < l2len (byteN l 0)) (hl:0 < l.length):signAt l=none:=by
 have h0:=byteN_lt l 0
 refine sign_none ?_
 unfold l2len at h
 unfold Lib.decodeN
 repeat' split at h
 all_goals (repeat' split)
 all_goals first | rfl | (exfalso; omega)
theorem sign1 {l:List UInt8} (hl:0 < l.length) (h:byteN l 0 < 128):signAt l=some (byteN l 0,1):=by
 refine sign_some ?_ (.inr h)
 unfold Lib.decodeN
 rw [if_pos h]
theorem sign2 {l:List UInt8} (hl:2≤l.length) (h:194≤byteN l 0∧byteN l 0≤223):signAt l=if byteN l 1 / 64=2 then some (byteN l 0 % 32 * 64 + byteN l 1 % 64,2) else none:=by
 have h1:=byteN_lt l 1
 split
 ·refine sign_some ?_ (.inl (by decide))
  unfold Lib.decodeN
  repeat' split
  all_goals first | rfl | (exfalso; omega)
 ·refine sign_none ?_
  unfold Lib.decodeN
  repeat' split
  all_goals first | rfl | (exfalso; omega)
theorem sign3 {l:List UInt8} (hl:3≤l.length) (h:224≤byteN l 0∧byteN l 0≤239):signAt l=if byteN l 1 / 64=2∧byteN l 2 / 64=2∧2048≤byteN l 0 % 16 * 4096 + byteN l 1 % 64 * 64 + byteN l 2 % 64∧¬ (55296≤byteN l 0 % 16 * 4096 + byteN l 1 % 64 * 64 + byteN l 2 % 64∧byteN l 0 % 16 * 4096 + byteN l 1 % 64 * 64 + byteN l 2 % 64≤57343) then some (byteN l 0 % 16 * 4096 + byteN l 1 % 64 * 64 + byteN l 2 % 64,3) else none:=by
 have h1:=byteN_lt l 1
 have h2:=byteN_lt l 2
 split
 ·refine sign_some ?_ (.inl (by decide))
  unfold Lib.decodeN
  repeat' split
  all_goals first | rfl | (exfalso; omega)
 ·refine sign_none ?_
  unfold Lib.decodeN
  repeat' split
  all_goals first | rfl | (exfalso; omega)
theorem sign4 {l:List UInt8} (hl:4≤l.length) (h:240≤byteN l 0∧byteN l 0≤244):signAt l=if byteN l 1 / 64=2∧byteN l 2 / 64=2∧byteN l 3 / 64=2∧65536≤byteN l 0 % 8 * 262144 + byteN l 1 % 64 * 4096 + byteN l 2 % 64 * 64 + byteN l 3 % 64∧byteN l 0 % 8 * 262144 + byteN l 1 % 64 * 4096 + byteN l 2 % 64 * 64 + byteN l 3 % 64≤1114111 then some (byteN l 0 % 8 * 262144 + byteN l 1 % 64 * 4096 + byteN l 2 % 64 * 64 + byteN l 3 % 64,4) else none:=by
 have h1:=byteN_lt l 1
 have h2:=byteN_lt l 2
 have h3:=byteN_lt l 3
 split
 ·refine sign_some ?_ (.inl (by decide))
  unfold Lib.decodeN
  repeat' split
  all_goals first | rfl | (exfalso; omega)
 ·refine sign_none ?_
  unfold Lib.decodeN
  repeat' split
  all_goals first | rfl | (exfalso; omega)
theorem ofNat_eq {n:Nat} {b:UInt8} (h:n=b.toNat):UInt8.ofNat n=b:=by subst h; exact UInt8.ofNat_toNat
theorem four {l:List UInt8} (h:4≤l.length):∃ a b c d u,l=a::b::c::d::u:=by
 match l,h with
 | a::b::c::d::u,_=>exact ⟨a,b,c,d,u,rfl⟩
theorem enc_take {l:List UInt8} {n k:Nat} (hk:k≤l.length) (h:signAt l=some (n,k)):enc8 n=l.take k∧signOk n=true:=by
 unfold signAt at h
 split at h
 ·cases h
 ·rename_i hv
  simp only [Option.some.injEq] at h
  rw [decodeL_B] at h hv
  have b0:=byteN_lt l 0
  have b1:=byteN_lt l 1
  have b2:=byteN_lt l 2
  have b3:=byteN_lt l 3
  have hok:∀ n:Nat,n≤1114111→¬ (55296≤n∧n≤57343)→signOk (n:Int)=true:=fun n h1 h2=>by
   have e1:win (n:Int) 0 1114111=true:=by simp only [win,Bool.and_eq_true,decide_eq_true_eq]; omega
   have e2:win (n:Int) 55296 57343=false:=by
    simp only [win,Bool.and_eq_false_iff,decide_eq_false_iff_not]
    omega
   simp only [signOk,e1,e2,Bool.not_false,Bool.and_true]
  unfold Lib.decodeN at h hv
  split at h
  ·rename_i c0
   cases h
   refine ⟨?_,hok _ (by omega) (by omega)⟩
   match l,hk with
   | a::t,_ =>
    have c0':a.toNat < 128:=c0
    simp only [enc8,byteN,List.getD_cons_zero]
    rw [if_pos (by omega)]
    simp only [List.take_succ_cons,List.take_zero]
    rw [ofNat_eq rfl]
  ·rename_i c0
   rw [if_neg c0] at hv
   split at h
   ·rename_i c1
    rw [if_pos c1] at hv
    split at h
    ·rename_i c2
     cases h
     refine ⟨?_,hok _ (by omega) (by omega)⟩
     match l,hk with
     | a::b::t,_ =>
      simp only [byteN,List.getD_cons_zero,List.getD_cons_succ] at c0 c1 c2 b0 b1 ⊢
      simp only [enc8]
      rw [if_neg (by omega),if_pos (by omega),ofNat_eq (b:=a) (by omega),ofNat_eq (b:=b) (by omega)]
      rfl
    ·rename_i c2
     rw [if_neg c2] at hv
     exact absurd ⟨rfl,rfl⟩ hv
   ·rename_i c1
    rw [if_neg c1] at hv
    split at h
    ·rename_i c3
     rw [if_pos c3] at hv
     split at h
     ·rename_i c4
      cases h
      refine ⟨?_,hok _ (by omega) (by omega)⟩
      match l,hk with
      | a::b::c::t,_ =>
       simp only [byteN,List.getD_cons_zero,List.getD_cons_succ] at c0 c1 c3 c4 b0 b1 b2 ⊢
       simp only [enc8]
       rw [if_neg (by omega),if_neg (by omega),if_pos (by omega),ofNat_eq (b:=a) (by omega),ofNat_eq (b:=b) (by omega),ofNat_eq (b:=c) (by omega)]
       rfl
     ·rename_i c4
      rw [if_neg c4] at hv
      exact absurd ⟨rfl,rfl⟩ hv
    ·rename_i c3
     rw [if_neg c3] at hv
     split at h
     ·rename_i c5
      rw [if_pos c5] at hv
      split at h
      ·rename_i c6
       have e1:=congrArg Prod.fst h
       have e2:=congrArg Prod.snd h
       simp only at e1 e2
       subst e2
       subst e1
       refine ⟨?_,hok _ (by omega) (by omega)⟩
       obtain ⟨a,b,c,d,u,rfl⟩:∃ a b c d u,l=a::b::c::d::u:=four hk
       clear hv h hk hok
       simp only [byteN,List.getD_cons_zero,List.getD_cons_succ] at c0 c1 c3 c5 c6 b0 b1 b2 b3 ⊢
       simp only [enc8]
       rw [if_neg (by omega),if_neg (by omega),if_neg (by omega),ofNat_eq (b:=a) (by omega),ofNat_eq (b:=b) (by omega),ofNat_eq (b:=c) (by omega),ofNat_eq (b:=d) (by omega)]
       rfl
      ·rename_i c6
       rw [if_neg c6] at hv
       exact absurd ⟨rfl,rfl⟩ hv
     ·rename_i c5
      rw [if_neg c5] at hv
      exact absurd ⟨rfl,rfl⟩ hv
abbrev C_s_l2Len (Te:TE):Prop:=∀ (b:UInt8),Te 329 [.one (uT b)] ⟨[.one (iT (l2len b.toNat))],[[uT b]]⟩
def contB (l:List UInt8):Nat→Bool
 | 0=>true
 | j + 1=>contB l j&&(byteN l (j + 1) / 64==2)
theorem and192_all:∀ m:Fin 256,(m.val &&& 192==128)=(m.val / 64==2):=by decide
theorem and192 (m:Nat) (hm:m < 256):(andK .u8 (m:Int) 192 != 128) = !(m / 64==2):=by
 have h1:(BitVec.ofInt 8 (m:Int)).toNat=m:=by rw [BitVec.toNat_ofInt]; omega
 have h2:(BitVec.ofInt 8 192).toNat=192:=by decide
 have h3:=and192_all ⟨m,hm⟩
 simp only at h3
 have h4:m &&& 192 < 256:=Nat.lt_of_le_of_lt Nat.and_le_right (by decide)
 rw [andK_def,show IntKind.u8.bits=8 from rfl,BitVec.toNat_and,h1,h2,IntKind.wrap_u8,← h3,bne]
 congr 1
 rw [Bool.eq_iff_iff,beq_iff_eq,beq_iff_eq]
 omega
theorem or_acc (a x:Nat) (ha:a < 2 ^ 40) (hx:x < 64):orK .i64 ((a * 64:Nat):Int) (x:Int)=((a * 64 + x:Nat):Int):=by
 rw [or_nat _ _ (by omega) (by omega),Nat.mul_comm a 64,show 64 * a=2 ^ 6 * a from rfl,Nat.two_pow_add_eq_or_of_lt (i:=6) (by omega)]
theorem accN_lt (l:List UInt8) {m:Nat} (hm:m < 256):∀ j,accN l m j < 256 * 64 ^ j
 | 0=>by simpa [accN] using hm
 | j + 1=>by
  have:=accN_lt l hm j
  simp only [accN]
  rw [Nat.pow_succ]
  omega
theorem accN_small (l:List UInt8) {m j:Nat} (hm:m < 256) (hj:j≤3):accN l m j < 2 ^ 28:=by
 have h:=accN_lt l hm j
 have:64 ^ j≤64 ^ 3:=Nat.pow_le_pow_right (by decide) hj
 omega
theorem bytesOf_uR (l:List UInt8):bytesOf (l.map uR)=l:=by
 simp only [bytesOf,List.map_map,Function.comp_def,List.headD_cons,byteOf]
 conv=>rhs; rw [← List.map_id l]
 refine List.map_congr_left fun a _=>?_
 simp
theorem areBytes_uR:∀ l:List UInt8,areBytes (l.map uR)=true
 | []=>rfl
 | a::l=>by simp only [List.map_cons,areBytes,isByte,areBytes_uR l,Bool.and_true]
def signTail (l:List UInt8) (i:Int) (K m:Nat):Int×Int×Bool:=if (contB l (K - 1)&&signOk (accN l m (K - 1):Nat)&&decide (enc8 (accN l m (K - 1))=l.take K))=true then (((accN l m (K - 1):Nat):Int),i + (K:Nat),true) else (0,0,false)
theorem tail_no {l:List UInt8} {i:Int} {K m:Nat} (h:(contB l (K - 1)&&signOk (accN l m (K - 1):Nat)&&decide (enc8 (accN l m (K - 1))=l.take K))=false):signTail l i K m=(0,0,false):=if_neg (by rw [h]; decide)
theorem contB_down (l : List UInt8) : ∀ {j k : Nat}, j ≤ k → contB l j = false → contB l k = false
  | j, 0, h, e => by have : j = 0 := by omega
                     subst this; exact e
  | j, k + 1, h, e => by
    by_cases q : j = k + 1
    · subst q; exact e
    · simp only [contB, contB_down l (show j ≤ k by omega) e, Bool.false_and]
theorem tail_some {l:List UInt8} {i:Int} {K m n:Nat} (hl:K≤l.length) (h:signAt l=some (n,K)) (hc:contB l (K - 1)=true) (ha:accN l m (K - 1)=n):signTail l i K m=((n:Int),i + (K:Nat),true):=by
 obtain ⟨h1,h2⟩:=enc_take hl h
 unfold signTail
 rw [ha,if_pos (by rw [hc,h2,decide_eq_true h1]; rfl)]
theorem signOk_no {n:Nat} (h:n > 1114111∨(55296≤n∧n≤57343)):signOk (n:Int)=false:=by
 cases g:signOk (n:Int)
 ·rfl
 ·obtain ⟨h0,h1,h2⟩:=signOk_in g
  omega
theorem enc8_short {n K:Nat} (h:n < 2048∧3≤K∨n < 65536∧4≤K) {l:List UInt8} (hl:K≤l.length):decide (enc8 n=l.take K)=false:=by
 refine decide_eq_false fun e=>?_
 have e2:=congrArg List.length e
 rw [List.length_take,Nat.min_eq_left hl] at e2
 unfold enc8 at e2
 revert e2
 repeat' split
 all_goals simp only [List.length_cons,List.length_nil]
 all_goals omega
def getTail (l:List UInt8) (i:Int):Int×Int×Bool:=match signAt l with | some d=>((d.1:Int),i + (d.2:Nat),true) | none=>(0,0,false)
theorem getTail_some {l:List UInt8} {i:Int} {d:Nat×Nat} (h:signAt l=some d):getTail l i=((d.1:Int),i + (d.2:Nat),true):=by rw [getTail,h]
theorem getTail_none {l:List UInt8} {i:Int} (h:signAt l=none):getTail l i=(0,0,false):=by rw [getTail,h]
theorem tail1 {l:List UInt8} (i:Int) (hl:1≤l.length) (h:byteN l 0 < 128):getTail l i=signTail l i 1 (byteN l 0):=by
 have hs:=sign1 (by omega) h
 exact (getTail_some hs).trans (tail_some hl hs rfl rfl).symm
theorem tail2 {l:List UInt8} (i:Int) (hl:2≤l.length) (h:194≤byteN l 0∧byteN l 0≤223):getTail l i=signTail l i 2 (byteN l 0 % 32):=by
 have hs:=sign2 hl h
 by_cases c:byteN l 1 / 64=2
 ·rw [if_pos c] at hs
  exact (getTail_some hs).trans (tail_some hl hs (by simp only [contB,c]; rfl) rfl).symm
 ·rw [if_neg c] at hs
  rw [getTail_none hs,tail_no]
  simp only [contB,beq_eq_false_iff_ne.2 c,Bool.and_false,Bool.false_and]
theorem tail3 {l:List UInt8} (i:Int) (hl:3≤l.length) (h:224≤byteN l 0∧byteN l 0≤239):getTail l i=signTail l i 3 (byteN l 0 % 16):=by
 have hs:=sign3 hl h
 have ea:accN l (byteN l 0 % 16) 2=byteN l 0 % 16 * 4096 + byteN l 1 % 64 * 64 + byteN l 2 % 64:=by
  show (byteN l 0 % 16 * 64 + byteN l 1 % 64) * 64 + byteN l 2 % 64=_
  omega
 generalize hn:byteN l 0 % 16 * 4096 + byteN l 1 % 64 * 64 + byteN l 2 % 64=n at hs ea
 by_cases c1:byteN l 1 / 64=2
 ·by_cases c2:byteN l 2 / 64=2
  ·have hc:contB l 2=true:=by simp only [contB,c1,c2]; rfl
   by_cases c3:2048≤n∧¬ (55296≤n∧n≤57343)
   ·rw [if_pos ⟨c1,c2,c3⟩] at hs
    exact (getTail_some hs).trans (tail_some hl hs hc ea).symm
   ·rw [if_neg (fun q=>c3 q.2.2)] at hs
    rw [getTail_none hs,tail_no]
    show (contB l 2&&signOk (accN l (byteN l 0 % 16) 2:Nat)&&decide (enc8 (accN l (byteN l 0 % 16) 2)=l.take 3))=false
    rw [ea]
    by_cases c4:n < 2048
    ·rw [enc8_short (.inl ⟨c4,by decide⟩) hl,Bool.and_false]
    ·rw [signOk_no (.inr (by omega)),Bool.and_false,Bool.false_and]
  ·rw [if_neg (fun q=>c2 q.2.1)] at hs
   rw [getTail_none hs,tail_no]
   simp only [contB,beq_eq_false_iff_ne.2 c2,Bool.and_false,Bool.false_and]
 ·rw [if_neg (fun q=>c1 q.1)] at hs
  rw [getTail_none hs,tail_no]
  simp only [contB,beq_eq_false_iff_ne.2 c1,Bool.and_false,Bool.false_and]
theorem tail4 {l:List UInt8} (i:Int) (hl:4≤l.length) (h:240≤byteN l 0∧byteN l 0≤244):getTail l i=signTail l i 4 (byteN l 0 % 8):=by
 have hs:=sign4 hl h
 have ea:accN l (byteN l 0 % 8) 3=byteN l 0 % 8 * 262144 + byteN l 1 % 64 * 4096 + byteN l 2 % 64 * 64 + byteN l 3 % 64:=by
  show ((byteN l 0 % 8 * 64 + byteN l 1 % 64) * 64 + byteN l 2 % 64) * 64 + byteN l 3 % 64=_
  omega
 generalize hn:byteN l 0 % 8 * 262144 + byteN l 1 % 64 * 4096 + byteN l 2 % 64 * 64 + byteN l 3 % 64=n at hs ea
 by_cases c1:byteN l 1 / 64=2
 ·by_cases c2:byteN l 2 / 64=2
  ·by_cases c3:byteN l 3 / 64=2
   ·have hc:contB l 3=true:=by simp only [contB,c1,c2,c3]; rfl
    by_cases c4:65536≤n∧n≤1114111
    ·rw [if_pos ⟨c1,c2,c3,c4⟩] at hs
     exact (getTail_some hs).trans (tail_some hl hs hc ea).symm
    ·rw [if_neg (fun q=>c4 q.2.2.2)] at hs
     rw [getTail_none hs,tail_no]
     show (contB l 3&&signOk (accN l (byteN l 0 % 8) 3:Nat)&&decide (enc8 (accN l (byteN l 0 % 8) 3)=l.take 4))=false
     rw [ea]
     by_cases c5:n < 65536
     ·rw [enc8_short (.inr ⟨c5,by decide⟩) hl,Bool.and_false]
     ·rw [signOk_no (.inl (by omega)),Bool.and_false,Bool.false_and]
   ·rw [if_neg (fun q=>c3 q.2.2.1)] at hs
    rw [getTail_none hs,tail_no]
    simp only [contB,beq_eq_false_iff_ne.2 c3,Bool.and_false,Bool.false_and]
  ·rw [if_neg (fun q=>c2 q.2.1)] at hs
   rw [getTail_none hs,tail_no]
   simp only [contB,beq_eq_false_iff_ne.2 c2,Bool.and_false,Bool.false_and]
 ·rw [if_neg (fun q=>c1 q.1)] at hs
  rw [getTail_none hs,tail_no]
  simp only [contB,beq_eq_false_iff_ne.2 c1,Bool.and_false,Bool.false_and]
theorem and_mask (m j:Nat) (hm:m < 256) (hj:j≤8):andK .i64 (m:Int) ((2 ^ j - 1:Nat):Int)=((m % 2 ^ j:Nat):Int):=by
 have:2 ^ j≤2 ^ 8:=Nat.pow_le_pow_right (by decide) hj
 rw [and_nat _ _ (by omega) (by omega),Nat.and_two_pow_sub_one_eq_mod]
theorem l2len_in (x:Nat) (h:l2len x≠0):(l2len x=1∧x < 128)∨(l2len x=2∧194≤x∧x≤223)∨(l2len x=3∧224≤x∧x≤239)∨(l2len x=4∧240≤x∧x≤244):=by
 by_cases h1:x < 128
 ·exact .inl ⟨if_pos h1,h1⟩
 by_cases h2:194≤x∧x≤223
 ·exact .inr (.inl ⟨by rw [l2len,if_neg h1,if_pos h2],h2⟩)
 by_cases h3:224≤x∧x≤239
 ·exact .inr (.inr (.inl ⟨by rw [l2len,if_neg h1,if_neg h2,if_pos h3],h3⟩))
 by_cases h4:240≤x∧x≤244
 ·exact .inr (.inr (.inr ⟨by rw [l2len,if_neg h1,if_neg h2,if_neg h3,if_pos h4],h4⟩))
 exact absurd (by rw [l2len,if_neg h1,if_neg h2,if_neg h3,if_neg h4]) h
abbrev C_s_GetSign (Te:TE):Prop:=∀ (b:List UInt8) (i:Int) (hb:b.length≤2 ^ 30),Te 272 [.one (slT false 1 uR b),.one (iT i)] ⟨[.one (iT (getSign b i).1),.one (iT (getSign b i).2.1),.one (bT (getSign b i).2.2)],[[slT false 1 uR b],[iT i]]⟩
def pairSign (hi lo:Int):Int×Bool:=if (hi==164&&win lo 161 243)=true then (12353 + lo - 161,true) else if (hi==165&&win lo 161 246)=true then (12449 + lo - 161,true) else (0,false)
def eucSign (b:List UInt8) (i:Int):Int×Int×Bool :=
 if 0≤i∧i < b.length then
  (if byteN (b.drop i.toNat) 0 < 128 then (((byteN (b.drop i.toNat) 0:Nat):Int),i + 1,true)
  else if i + 1 < b.length∧(pairSign (byteN (b.drop i.toNat) 0:Nat) (byteN (b.drop i.toNat) 1:Nat)).2=true then ((pairSign (byteN (b.drop i.toNat) 0:Nat) (byteN (b.drop i.toNat) 1:Nat)).1,i + 2,true) else (0,0,false))
 else (0,0,false)
theorem euc_no {b:List UInt8} {i:Int} (h:¬ (0≤i∧i < b.length)):eucSign b i=(0,0,false):=if_neg h
theorem euc_one {b:List UInt8} {i:Int} (h:0≤i∧i < b.length) (h1:byteN (b.drop i.toNat) 0 < 128):eucSign b i=(((byteN (b.drop i.toNat) 0:Nat):Int),i + 1,true):=by rw [eucSign,if_pos h,if_pos h1]
theorem euc_end {b:List UInt8} {i:Int} (h:0≤i∧i < b.length) (h1:¬ byteN (b.drop i.toNat) 0 < 128) (h2:¬ i + 1 < b.length):eucSign b i=(0,0,false):=by rw [eucSign,if_pos h,if_neg h1,if_neg (fun q=>h2 q.1)]
theorem euc_bad {b:List UInt8} {i:Int} (h:0≤i∧i < b.length) (h1:¬ byteN (b.drop i.toNat) 0 < 128) (h2:(pairSign (byteN (b.drop i.toNat) 0:Nat) (byteN (b.drop i.toNat) 1:Nat)).2=false):eucSign b i=(0,0,false):=by rw [eucSign,if_pos h,if_neg h1,if_neg (fun q=>by rw [h2] at q; cases q.2)]
theorem euc_two {b:List UInt8} {i:Int} (h:0≤i∧i < b.length) (h1:¬ byteN (b.drop i.toNat) 0 < 128) (h3:i + 1 < b.length) (h2:(pairSign (byteN (b.drop i.toNat) 0:Nat) (byteN (b.drop i.toNat) 1:Nat)).2=true):eucSign b i=((pairSign (byteN (b.drop i.toNat) 0:Nat) (byteN (b.drop i.toNat) 1:Nat)).1,i + 2,true):=by rw [eucSign,if_pos h,if_neg h1,if_pos ⟨h3,h2⟩]
theorem byteN_drop {b:List UInt8} {k j:Nat} (h:k + j < b.length):b[k + j].toNat=byteN (b.drop k) j:=by
 simp only [byteN,List.getD_eq_getElem?_getD,List.getElem?_drop]
 rw [List.getElem?_eq_getElem h]
 rfl
abbrev C_i_PairSign (Te:TE):Prop:=∀ (hi lo:Int) (h:0≤lo∧lo≤255),Te 324 [.one (iT hi),.one (iT lo)] ⟨[.one (iT (pairSign hi lo).1),.one (bT (pairSign hi lo).2)],[[iT hi],[iT lo]]⟩
abbrev C_s_PairSign (Te:TE):Prop:=∀ (hi lo:Int) (h:0≤lo∧lo≤255),Te 330 [.one (iT hi),.one (iT lo)] ⟨[.one (iT (pairSign hi lo).1),.one (bT (pairSign hi lo).2)],[[iT hi],[iT lo]]⟩
abbrev C_i_EucSign (Te:TE):Prop:=∀ (b:List UInt8) (i:Int) (hb:b.length≤2 ^ 30),Te 268 [.one (slT false 1 uR b),.one (iT i)] ⟨[.one (iT (eucSign b i).1),.one (iT (eucSign b i).2.1),.one (bT (eucSign b i).2.2)],[[slT false 1 uR b],[iT i]]⟩
abbrev C_s_EucSign (Te:TE):Prop:=∀ (b:List UInt8) (i:Int) (hb:b.length≤2 ^ 30),Te 273 [.one (slT false 1 uR b),.one (iT i)] ⟨[.one (iT (eucSign b i).1),.one (iT (eucSign b i).2.1),.one (bT (eucSign b i).2.2)],[[slT false 1 uR b],[iT i]]⟩
def signIn (cs:Int) (b:List UInt8) (i:Int):Int×Int×Bool:=if cs=0 then getSign b i else if cs=5 then eucSign b i else ((byteSign cs (byteN b i.toNat:Nat)).1,i + 1,(byteSign cs (byteN b i.toNat:Nat)).2)
theorem getSign_next {b:List UInt8} {i:Int} (h:(getSign b i).2.2=true):i < (getSign b i).2.1∧(getSign b i).2.1≤b.length:=by
 by_cases hi:0≤i∧i < b.length
 ·have hne:b.drop i.toNat≠[]:=by
   intro e
   have:=congrArg List.length e
   rw [List.length_drop] at this
   simp only [List.length_nil] at this
   omega
  cases hs:signAt (b.drop i.toNat) with
  | none=>rw [getSign_bad hi hs] at h; cases h
  | some d =>
   rw [getSign_good hi hs]
   have hw:=Lib.decodeL_width (b.drop i.toNat)
   have hl:=Lib.decodeL_le (b.drop i.toNat) hne
   rw [List.length_drop] at hl
   have hd:Lib.decodeL (b.drop i.toNat)=d:=by
    unfold signAt at hs
    split at hs
    ·cases hs
    ·exact Option.some.inj hs
   rw [hd] at hw hl
   simp only
   omega
 ·rw [getSign_no hi] at h; cases h
theorem eucSign_next {b:List UInt8} {i:Int} (h:(eucSign b i).2.2=true):i < (eucSign b i).2.1∧(eucSign b i).2.1≤b.length:=by
 unfold eucSign at h ⊢
 split at h
 ·rename_i hi
  rw [if_pos hi]
  split at h
  ·rename_i h1
   rw [if_pos h1]
   simp only
   omega
  ·rename_i h1
   rw [if_neg h1]
   split at h
   ·rename_i h2
    rw [if_pos h2]
    simp only
    omega
   ·cases h
 ·cases h
theorem signIn_next {cs:Int} {b:List UInt8} {i:Int} (hi:0≤i∧i < b.length) (h:(signIn cs b i).2.2=true):i < (signIn cs b i).2.1∧(signIn cs b i).2.1≤b.length:=by
 unfold signIn at h ⊢
 split at h
 ·rename_i q
  rw [if_pos q]
  exact getSign_next h
 ·rename_i q
  rw [if_neg q]
  split at h
  ·rename_i q2
   rw [if_pos q2]
   exact eucSign_next h
  ·rename_i q2
   rw [if_neg q2]
   simp only
   omega
def decGo (cs:Int) (b:List UInt8):Nat→Int→List UInt8→ByteArray×Bool
 | 0,_,out=>(⟨⟨out⟩⟩,true)
 | fu + 1,i,out=>if i < b.length then (if (signIn cs b i).2.2=true then decGo cs b fu (signIn cs b i).2.1 (putSign out (signIn cs b i).1) else (⟨#[]⟩,false)) else (⟨⟨out⟩⟩,true)
theorem dec_end {cs:Int} {b:List UInt8} {i:Int} (h:¬ i < b.length) (fu:Nat) (out:List UInt8):decGo cs b fu i out=(⟨⟨out⟩⟩,true):=by
 cases fu with
 | zero=>rfl
 | succ f=>rw [decGo,if_neg h]
theorem dec_bad {cs:Int} {b:List UInt8} {i:Int} (h:i < b.length) (h2:(signIn cs b i).2.2=false) (fu:Nat) (out:List UInt8):decGo cs b (fu + 1) i out=(⟨#[]⟩,false):=by rw [decGo,if_pos h,h2]; rfl
theorem dec_step {cs:Int} {b:List UInt8} {i:Int} (h:i < b.length) (h2:(signIn cs b i).2.2=true) (fu:Nat) (out:List UInt8):decGo cs b (fu + 1) i out=decGo cs b fu (signIn cs b i).2.1 (putSign out (signIn cs b i).1):=by rw [decGo,if_pos h,if_pos h2]
def decode (cs:Int) (b:List UInt8):ByteArray×Bool:=if win cs 0 5=true then decGo cs b b.length 0 [] else (⟨#[]⟩,false)
theorem bytesOf_uD (l:List UInt8):bytesOf (l.map uR)=l:=bytesOf_uR l
abbrev C_i_isSet (Te:TE):Prop:=∀ (cs:Int),Te 184 [.one (iT cs)] ⟨[.one (bT (win cs 0 5))],[[iT cs]]⟩
abbrev C_s_l5Cs (Te:TE):Prop:=∀ (cs:Int),Te 187 [.one (iT cs)] ⟨[.one (bT (win cs 0 5))],[[iT cs]]⟩
abbrev C_i_signIn (Te:TE):Prop:=∀ (cs:Int) (b:List UInt8) (i:Int) (hb:b.length≤2 ^ 30) (hi:0≤i∧i < b.length),Te 185 [.one (iT cs),.one (slT false 1 uR b),.one (iT i)] ⟨[.one (iT (signIn cs b i).1),.one (iT (signIn cs b i).2.1),.one (bT (signIn cs b i).2.2)],[[iT cs],[slT false 1 uR b],[iT i]]⟩
abbrev C_s_l5Get (Te:TE):Prop:=∀ (cs:Int) (b:List UInt8) (i:Int) (hb:b.length≤2 ^ 30) (hi:0≤i∧i < b.length),Te 188 [.one (iT cs),.one (slT false 1 uR b),.one (iT i)] ⟨[.one (iT (signIn cs b i).1),.one (iT (signIn cs b i).2.1),.one (bT (signIn cs b i).2.2)],[[iT cs],[slT false 1 uR b],[iT i]]⟩
abbrev C_i_Decode (Te:TE):Prop:=∀ (cs:Int) (b:List UInt8) (hb:b.length≤2 ^ 20),Te 99 [.one (iT cs),.one (slT false 1 uR b)] ⟨[.one (sT (decode cs b).1),.one (bT (decode cs b).2)],[[iT cs],[slT false 1 uR b]]⟩
abbrev C_s_Decode (Te:TE):Prop:=∀ (cs:Int) (b:List UInt8) (hb:b.length≤2 ^ 20),Te 102 [.one (iT cs),.one (slT false 1 uR b)] ⟨[.one (sT (decode cs b).1),.one (bT (decode cs b).2)],[[iT cs],[slT false 1 uR b]]⟩
def CellV.ok (c:CellV):Bool:=win c.Tag 0 5&&decide ((c.B.length:Int)≤20)
def CellV.text (c:CellV):ByteArray×Bool:=if c.ok=true then decode c.Tag c.B else (⟨#[]⟩,false)
def CellV.no (c:CellV):Bool:=(c.Tag==0)&&decide (c.B=[])
def sameText (a c:CellV):Bool:=a.text.2&&c.text.2&&decide (a.text.1=c.text.1)
theorem CellV.ok_len {c:CellV} (h:c.ok=true):c.B.length≤20:=by
 simp only [CellV.ok,Bool.and_eq_true,decide_eq_true_eq] at h
 omega
abbrev C_i_CellOk (Te:TE):Prop:=∀ (c:CellV),Te 261 [.agg (c.enc false)] ⟨[.one (bT c.ok)],[c.enc false]⟩
abbrev C_i_CellText (Te:TE):Prop:=∀ (c:CellV),Te 177 [.agg (c.enc false)] ⟨[.one (sT c.text.1),.one (bT c.text.2)],[c.enc false]⟩
abbrev C_i_SameText (Te:TE):Prop:=∀ (a c:CellV),Te 305 [.agg (a.enc false),.agg (c.enc false)] ⟨[.one (bT (sameText a c))],[a.enc false,c.enc false]⟩
abbrev C_s_CellOk (Te:TE):Prop:=∀ (c:CellV),Te 286 [.agg (c.enc false)] ⟨[.one (bT c.ok)],[c.enc false]⟩
abbrev C_s_CellText (Te:TE):Prop:=∀ (c:CellV),Te 197 [.agg (c.enc false)] ⟨[.one (sT c.text.1),.one (bT c.text.2)],[c.enc false]⟩
abbrev C_s_SameText (Te:TE):Prop:=∀ (a c:CellV),Te 340 [.agg (a.enc false),.agg (c.enc false)] ⟨[.one (bT (sameText a c))],[a.enc false,c.enc false]⟩
theorem bytes_lists (a c:List UInt8):decide ((⟨a.toArray⟩:ByteArray)=⟨c.toArray⟩)=decide (a=c):=by
 congr 1
 simp
abbrev C_i_sameCell (Te:TE):Prop:=∀ (a c:CellV),Te 173 [.agg (a.enc false),.agg (c.enc false)] ⟨[.one (bT ((a.Tag==c.Tag)&&decide (a.B=c.B)))],[a.enc false,c.enc false]⟩
theorem none_len (l:List UInt8):((l.length:Int)==0)=decide (l=[]):=by
 cases l with
 | nil=>rfl
 | cons a l =>
  have h1:(((a::l).length:Int)==0)=false:=by simp only [beq_eq_false_iff_ne,List.length_cons]; omega
  rw [h1]
  simp
abbrev C_s_l9None (Te:TE):Prop:=∀ (c:CellV),Te 339 [.agg (c.enc false)] ⟨[.one (bT c.no)],[c.enc false]⟩
def nameCh (x:UInt8):Bool:=win x.toNat 97 122||win x.toNat 48 57
def nameOk (s:ByteArray):Bool:=s.data.toList.all nameCh&&win s.size 1 6
abbrev C_i_NameOk (Te:TE):Prop:=∀ (s:ByteArray) (h:s.size≤2 ^ 48),Te 98 [.one (sT s)] ⟨[.one (bT (nameOk s))],[[sT s]]⟩
abbrev C_s_NameOk (Te:TE):Prop:=∀ (s:ByteArray) (h:s.size≤2 ^ 48),Te 101 [.one (sT s)] ⟨[.one (bT (nameOk s))],[[sT s]]⟩
def RowV.ok (r:RowV):Bool:=nameOk r.Key&&win r.Has 1 3 &&
 (if r.Has=1 then r.Old.ok&&(r.Old.Tag != 0)&&(r.Old.text.2||r.Aside)&&r.New.no
  else if r.Has=2 then r.Old.no&&(r.New.Tag==0)&&r.New.text.2
  else r.Old.ok&&(r.Old.Tag != 0)&&r.Old.text.2&&(r.New.Tag==0)&&r.New.text.2&&sameText r.Old r.New)
theorem and1_has (h:Int) (hh:h=1∨h=2∨h=3):(andK .i64 h 1==1)=decide (h≠2):=by
 rw [andK_def]
 rcases hh with rfl | rfl | rfl <;> decide
theorem and2_has (h:Int) (hh:h=1∨h=2∨h=3):(andK .i64 h 2==2)=decide (h≠1):=by
 rw [andK_def]
 rcases hh with rfl | rfl | rfl <;> decide
theorem win13 {h:Int} (g:win h 1 3=true):h=1∨h=2∨h=3:=by
 simp only [win,Bool.and_eq_true,decide_eq_true_eq] at g
 omega
theorem tag_no {c:CellV} (h:win c.Tag 1 5=false):(c.ok&&(c.Tag != 0))=false:=by
 cases g:c.ok
 ·rfl
 ·simp only [CellV.ok,win,Bool.and_eq_true,decide_eq_true_eq] at g
  simp only [win,Bool.and_eq_false_iff,decide_eq_false_iff_not] at h
  have:c.Tag=0:=by omega
  rw [this]
  rfl
theorem tag_yes {c:CellV} (h:win c.Tag 1 5=true):(c.Tag != 0)=true:=by
 simp only [win,Bool.and_eq_true,decide_eq_true_eq] at h
 simp only [bne_iff_ne]
 omega
theorem rowOk_name {r:RowV} (h:nameOk r.Key=false):r.ok=false:=by simp only [RowV.ok,h,Bool.false_and]
theorem rowOk_has {r:RowV} (h:win r.Has 1 3=false):r.ok=false:=by simp only [RowV.ok,h,Bool.and_false,Bool.false_and]
theorem rowOk_1 {k:ByteArray} {o n:CellV} {a:Bool} (h:nameOk k=true):(RowV.mk k o n 1 a).ok=(o.ok&&(o.Tag != 0)&&(o.text.2||a)&&n.no):=by simp only [RowV.ok,h]; rfl
theorem rowOk_2 {k:ByteArray} {o n:CellV} {a:Bool} (h:nameOk k=true):(RowV.mk k o n 2 a).ok=(o.no&&(n.Tag==0)&&n.text.2):=by simp only [RowV.ok,h]; rfl
theorem rowOk_3 {k:ByteArray} {o n:CellV} {a:Bool} (h:nameOk k=true):(RowV.mk k o n 3 a).ok=(o.ok&&(o.Tag != 0)&&o.text.2&&(n.Tag==0)&&n.text.2&&sameText o n):=by simp only [RowV.ok,h]; rfl
theorem rowOk_13 {r:RowV} (h:r.ok=true):r.Has=1∨r.Has=2∨r.Has=3:=by
 simp only [RowV.ok,Bool.and_eq_true] at h
 exact win13 h.1.2
theorem text_no {c:CellV} (h:c.ok=false):c.text.2=false:=by rw [CellV.text,h]; rfl
abbrev C_s_l9Old (Te:TE):Prop:=∀ (r:RowV) (h:r.Has=1∨r.Has=2∨r.Has=3),Te 291 [.agg (r.enc false)] ⟨[.one (bT (decide (r.Has≠2)))],[r.enc false]⟩
abbrev C_s_l9New (Te:TE):Prop:=∀ (r:RowV) (h:r.Has=1∨r.Has=2∨r.Has=3),Te 196 [.agg (r.enc false)] ⟨[.one (bT (decide (r.Has≠1)))],[r.enc false]⟩
abbrev C_i_RowOk (Te:TE):Prop:=∀ (r:RowV) (h:r.In (2 ^ 48)),Te 253 [.agg (r.enc false)] ⟨[.one (bT r.ok)],[r.enc false]⟩
abbrev C_s_RowOk (Te:TE):Prop:=∀ (r:RowV) (h:r.In (2 ^ 48)),Te 289 [.agg (r.enc false)] ⟨[.one (bT r.ok)],[r.enc false]⟩
theorem rng_end {n i:Nat} {f:Nat→Bool} (h:n≤i) (hp:∀ j,j < i→f j=true):(List.range n).all f=true:=by
 rw [List.all_eq_true]
 intro j hj
 exact hp j (by have:=List.mem_range.1 hj; omega)
theorem rng_not {n i:Nat} {f:Nat→Bool} (h:i < n) (hf:f i=false):(List.range n).all f=false:=by
 cases g:(List.range n).all f
 ·rfl
 ·rw [List.all_eq_true] at g
  have:=g i (List.mem_range.2 h)
  rw [hf] at this
  cases this
theorem rng_step {i:Nat} {f:Nat→Bool} (hp:∀ j,j < i→f j=true) (hf:f i=true):∀ j,j < i + 1→f j=true:=by
 intro j hj
 by_cases e:j=i
 ·subst e; exact hf
 ·exact hp j (by omega)
def rowGood (l:List RowV) (i:Nat):Bool:=((l[i]?.map RowV.ok).getD true)&&(i==0||((l[i - 1]?.bind fun x=>l[i]?.map fun y=>Op.bytesLess x.Key.toList y.Key.toList).getD true))
theorem rowGood_zero {l:List RowV} (h:0 < l.length):rowGood l 0=l[0].ok:=by
 simp only [rowGood,List.getElem?_eq_getElem h,Option.map_some,Option.getD_some,beq_self_eq_true,Bool.true_or,Bool.and_true]
theorem rowGood_succ {l:List RowV} {j:Nat} (h:j + 1 < l.length):rowGood l (j + 1)=(l[j + 1].ok&&Op.bytesLess (l[j]'(by omega)).Key.toList l[j + 1].Key.toList):=by
 have h0:j < l.length:=by omega
 simp only [rowGood,List.getElem?_eq_getElem h,Nat.add_sub_cancel,List.getElem?_eq_getElem h0,Option.map_some,Option.getD_some,Option.bind_some,show (j + 1==0)=false from rfl,Bool.false_or]
def MarkV.ok (m:MarkV):Bool:=win m.Who 1 9&&win m.Seq 0 65535&&win m.Code 0 6
def markGood (l:List MarkV) (i:Nat):Bool:=((l[i]?.map MarkV.ok).getD true)&&(i==0||((l[i - 1]?.bind fun x=>l[i]?.map fun y=>!decide (x.Who≥y.Who)).getD true))
theorem markGood_zero {l:List MarkV} (h:0 < l.length):markGood l 0=l[0].ok:=by
 simp only [markGood,List.getElem?_eq_getElem h,Option.map_some,Option.getD_some,beq_self_eq_true,Bool.true_or,Bool.and_true]
theorem markGood_succ {l:List MarkV} {j:Nat} (h:j + 1 < l.length):markGood l (j + 1)=(l[j + 1].ok && !decide ((l[j]'(by omega)).Who≥l[j + 1].Who)):=by
 have h0:j < l.length:=by omega
 simp only [markGood,List.getElem?_eq_getElem h,Nat.add_sub_cancel,List.getElem?_eq_getElem h0,Option.map_some,Option.getD_some,Option.bind_some,show (j + 1==0)=false from rfl,Bool.false_or]
def TabV.ok (t:TabV):Bool:=(List.range t.Rows.length).all (rowGood t.Rows)&&(List.range t.Marks.length).all (markGood t.Marks)&&(decide ((t.Rows.length:Int)≤8)&&win t.Phase 0 7)
abbrev C_s_l12Mark (Te:TE):Prop:=∀ (m:MarkV),Te 292 [.agg m.row] ⟨[.one (bT m.ok)],[m.row]⟩
abbrev C_i_TabOk (Te:TE):Prop:=∀ (t:TabV) (h:t.In (2 ^ 48)),Te 179 [.agg (t.enc false)] ⟨[.one (bT t.ok)],[t.enc false]⟩
abbrev C_s_TabOk (Te:TE):Prop:=∀ (t:TabV) (h:t.In (2 ^ 48)),Te 206 [.agg (t.enc false)] ⟨[.one (bT t.ok)],[t.enc false]⟩
def secGood (l:List UInt8):Bool:=!decide ((l.length:Int) > 120)
def wrGood (n:Nat) (w:WrV):Bool:=win w.N 0 ((n:Int) - 1) && !decide ((w.B.length:Int) > 120)
def DevV.ok (d:DevV):Bool:=win d.Secs.length 1 64&&decide ((d.Cache.length:Int)≤40)&&win d.Fuse (-1) 1000&&d.Secs.all secGood&&d.Cache.all (wrGood d.Secs.length)
theorem gt_le (n:Nat):decide ((n:Int) > 40) = !decide ((n:Int)≤40):=by
 by_cases h:(n:Int)≤40
 ·rw [decide_eq_true h,decide_eq_false (by omega)]; rfl
 ·rw [decide_eq_false h,decide_eq_true (by omega)]; rfl
abbrev C_i_DevOk (Te:TE):Prop:=∀ (d:DevV) (h:d.In (2 ^ 48)),Te 178 [.agg (d.enc false)] ⟨[.one (bT d.ok)],[d.enc false]⟩
abbrev C_s_DevOk (Te:TE):Prop:=∀ (d:DevV) (h:d.In (2 ^ 48)),Te 205 [.agg (d.enc false)] ⟨[.one (bT d.ok)],[d.enc false]⟩
def StoreV.ok (s:StoreV):Bool:=s.D.ok&&((s.D.Secs.length:Int)==62)&&(((s.D.Cache.length:Int)==0)||s.D.Down)&&s.T.ok&&win s.Gen 1 60000&&win s.Place 0 30
abbrev C_i_StoreOk (Te:TE):Prop:=∀ (s:StoreV) (h:s.In (2 ^ 48)),Te 89 [.agg (s.enc false)] ⟨[.one (bT s.ok)],[s.enc false]⟩
abbrev C_s_StoreOk (Te:TE):Prop:=∀ (s:StoreV) (h:s.In (2 ^ 48)),Te 119 [.agg (s.enc false)] ⟨[.one (bT s.ok)],[s.enc false]⟩
def NodeV.ok (n:NodeV):Bool:=n.S.ok&&win n.Cs 1 5
abbrev C_i_NodeOk (Te:TE):Prop:=∀ (n:NodeV) (h:n.In (2 ^ 48)),Te 23 [.agg (n.enc false)] ⟨[.one (bT n.ok)],[n.enc false]⟩
abbrev C_s_NodeOk (Te:TE):Prop:=∀ (n:NodeV) (h:n.In (2 ^ 48)),Te 43 [.agg (n.enc false)] ⟨[.one (bT n.ok)],[n.enc false]⟩
theorem take_rows (l:List UInt8):List.take l.length (l.map uR)=l.map uR:=List.take_of_length_le (by simp)
attribute [go_sem] take_rows
abbrev C_i_copyCell (Te:TE):Prop:=∀ (c:CellV) (h:c.Len),Te 304 [.agg (c.enc false)] ⟨[.agg (c.enc true)],[c.enc false]⟩
abbrev C_s_l8Copy (Te:TE):Prop:=∀ (c:CellV) (h:c.Len),Te 338 [.agg (c.enc false)] ⟨[.agg (c.enc true)],[c.enc false]⟩
abbrev C_i_copyRow (Te:TE):Prop:=∀ (r:RowV) (h:r.Len),Te 252 [.agg (r.enc false)] ⟨[.agg (r.enc true)],[r.enc false]⟩
abbrev C_s_l9Copy (Te:TE):Prop:=∀ (r:RowV) (h:r.Len),Te 288 [.agg (r.enc false)] ⟨[.agg (r.enc true)],[r.enc false]⟩
abbrev C_i_flag (Te:TE):Prop:=∀ (b:Bool),Te 352 [.one (bT b)] ⟨[.one (uT (bif b then 1 else 0))],[[bT b]]⟩
abbrev C_s_l11Bit (Te:TE):Prop:=∀ (b:Bool),Te 336 [.one (bT b)] ⟨[.one (uT (bif b then 1 else 0))],[[bT b]]⟩
def RowV.no (r:RowV):Bool:=decide (r.Key=⟨#[]⟩)&&r.Old.no&&r.New.no&&(r.Has==0) && !r.Aside
def RowV.zero:RowV:=⟨⟨#[]⟩,⟨0,[]⟩,⟨0,[]⟩,0,false⟩
def cellSame (a c:CellV):Bool:=(a.Tag==c.Tag)&&decide (a.B=c.B)
def rowSame (a c:RowV):Bool:=decide (a.Key=c.Key)&&cellSame a.Old c.Old&&cellSame a.New c.New&&(a.Has==c.Has)&&(a.Aside==c.Aside)
theorem rowSame_zero (r:RowV):rowSame r RowV.zero=r.no:=by
 simp only [rowSame,RowV.no,RowV.zero,cellSame,CellV.no]
 congr 1
 cases r.Aside <;> rfl
abbrev C_i_sameRow (Te:TE):Prop:=∀ (a c:RowV),Te 85 [.agg (a.enc false),.agg (c.enc false)] ⟨[.one (bT (rowSame a c))],[a.enc false,c.enc false]⟩
abbrev C_s_l11NoRow (Te:TE):Prop:=∀ (r:RowV),Te 334 [.agg (r.enc false)] ⟨[.one (bT r.no)],[r.enc false]⟩
def RecV.who (r:RecV):Bool:=bif r.Who==0 then (r.Seq==0)&&(r.Code==0)&&(r.Kind != 4) else win r.Who 1 9&&win r.Seq 0 65535&&win r.Code 0 6
def RecV.body (r:RecV):Bool :=
 bif r.Kind==1 then r.R.ok&&decide (r.Key=⟨#[]⟩)&&(r.N==0)
 else bif r.Kind==2 then r.R.no&&nameOk r.Key&&(r.N==0)
 else bif r.Kind==3 then r.R.no&&decide (r.Key=⟨#[]⟩)&&win r.N 0 7
 else bif r.Kind==4 then r.R.no&&decide (r.Key=⟨#[]⟩)&&(r.N==0)
 else false
def RecV.ok (r:RecV):Bool:=r.body&&r.who
abbrev C_s_l11Who (Te:TE):Prop:=∀ (r:RecV),Te 335 [.agg (r.enc false)] ⟨[.one (bT r.who)],[r.enc false]⟩
theorem kind_win {k:Int} (h:win k 1 4=false):(k==1)=false∧(k==2)=false∧(k==3)=false∧(k==4)=false:=by
 simp only [win,Bool.and_eq_false_iff,decide_eq_false_iff_not] at h
 simp only [beq_eq_false_iff_ne,ne_eq]
 omega
theorem win_kind {k:Int} (h:win k 1 4=true):k=1∨k=2∨k=3∨k=4:=by
 simp only [win,Bool.and_eq_true,decide_eq_true_eq] at h
 omega
abbrev C_s_RecOk (Te:TE):Prop:=∀ (r:RecV) (h:r.In (2 ^ 48)),Te 276 [.agg (r.enc false)] ⟨[.one (bT r.ok)],[r.enc false]⟩
theorem other_kind {k:Int} (h1:¬ k=1) (h2:¬ k=2) (h3:¬ k=3) (h4:¬ k=4):(k==1)=false∧(k==2)=false∧(k==3)=false∧(k==4)=false:=by
 simp only [beq_eq_false_iff_ne,ne_eq]
 omega
abbrev C_i_RecOk (Te:TE):Prop:=∀ (r:RecV) (h:r.In (2 ^ 48)),Te 306 [.agg (r.enc false)] ⟨[.one (bT r.ok)],[r.enc false]⟩
def strOf (l:List UInt8):ByteArray:=⟨l.toArray⟩
def putCell (b:List UInt8) (c:CellV):List UInt8:=putText (b++[mkU c.Tag]) (strOf c.B)
def flagU (a:Bool):UInt8:=bif a then 1 else 0
def putRow1 (b:List UInt8) (r:RowV):List UInt8:=putText b r.Key++[mkU r.Has,flagU r.Aside]
def putRow2 (b:List UInt8) (r:RowV):List UInt8:=if r.Has=2 then putRow1 b r else putCell (putRow1 b r) r.Old
def putRow3 (b:List UInt8) (r:RowV):List UInt8:=if r.Has=1 then putRow2 b r else putCell (putRow2 b r) r.New
def putRow (b:List UInt8) (r:RowV):List UInt8:=if r.ok=true then putRow3 b r else b
theorem app1B (l:List UInt8) (x:UInt8):List.map uR l++[[uT x]]=List.map uR (l++[x]):=by rw [List.map_append]; rfl
theorem app2B (l:List UInt8) (x y:UInt8):List.map uR l++[[uT x],[uT y]]=List.map uR (l++[x,y]):=by rw [List.map_append]; rfl
theorem take1B (l:List UInt8) (x:UInt8):List.take (l.length + 1) (List.map uR (l++[x]))=List.map uR (l++[x]):=List.take_of_length_le (by simp)
theorem take2B (l:List UInt8) (x y:UInt8):List.take (l.length + 2) (List.map uR (l++[x,y]))=List.map uR (l++[x,y]):=List.take_of_length_le (by simp)
theorem putCell_len (b:List UInt8) (c:CellV):(putCell b c).length≤b.length + 63:=by
 have:=putText_len (b++[mkU c.Tag]) (strOf c.B)
 simp only [List.length_append,List.length_cons,List.length_nil] at this
 unfold putCell
 omega
theorem putRow1_len (b:List UInt8) (r:RowV):(putRow1 b r).length≤b.length + 64:=by
 have:=putText_len b r.Key
 unfold putRow1
 rw [List.length_append]
 simp only [List.length_cons,List.length_nil]
 omega
theorem putRow2_len (b:List UInt8) (r:RowV):(putRow2 b r).length≤b.length + 127:=by
 have h1:=putRow1_len b r
 have h2:=putCell_len (putRow1 b r) r.Old
 unfold putRow2
 split <;> omega
theorem putRow_len (b:List UInt8) (r:RowV):(putRow b r).length≤b.length + 190:=by
 have h1:=putRow2_len b r
 have h2:=putCell_len (putRow2 b r) r.New
 unfold putRow putRow3
 split
 ·split <;> omega
 ·omega
theorem rowOk_win {r:RowV} (h:r.ok=true):win r.Has 1 3=true:=by
 cases g:win r.Has 1 3
 ·rw [rowOk_has g] at h; exact absurd h (by decide)
 ·rfl
theorem rowOk_cells {r:RowV} (h:r.In (2 ^ 48)):r.Old.B.length≤2 ^ 48∧r.New.B.length≤2 ^ 48:=⟨h.2.1,h.2.2⟩
theorem strOf_size (l:List UInt8):(strOf l).size=l.length:=by simp [strOf,ByteArray.size]
abbrev C_s_l11Cell (Te:TE):Prop:=∀ (b:List UInt8) (c:CellV) (hb:b.length≤2 ^ 28) (hc:c.B.length≤2 ^ 48),Te 337 [.one (slT true 1 uR b),.agg (c.enc false)] ⟨[.one (slT true 1 uR (putCell b c))],[[.no ()],c.enc false]⟩
abbrev C_i_PutRow (Te:TE):Prop:=∀ (b:List UInt8) (r:RowV) (hb:b.length≤2 ^ 27) (h:r.In (2 ^ 48)),Te 313 [.one (slT false 1 uR b),.agg (r.enc false)] ⟨[.one (slT true 1 uR (putRow b r))],[[slT false 1 uR b],r.enc false]⟩
abbrev C_s_PutRow (Te:TE):Prop:=∀ (b:List UInt8) (r:RowV) (hb:b.length≤2 ^ 27) (h:r.In (2 ^ 48)),Te 283 [.one (slT false 1 uR b),.agg (r.enc false)] ⟨[.one (slT true 1 uR (putRow b r))],[[slT false 1 uR b],r.enc false]⟩
def recKind (b:List UInt8) (r:RecV):List UInt8:=if r.Kind=1 then putRow b r.R else if r.Kind=2 then putText b r.Key else if r.Kind=3 then b++[mkU r.N] else b
def recHead (gen place:Int) (r:RecV):List UInt8:=putW (putW [] gen) place++[mkU r.Kind]
def recBody (gen place:Int) (r:RecV):List UInt8:=putW (recKind (recHead gen place r) r++[mkU r.Who,mkU r.Code]) r.Seq
def recGood (gen place:Int) (r:RecV):Bool:=r.ok&&win gen 0 65535&&win place 0 65535
def putRec (gen place:Int) (r:RecV):List UInt8:=if recGood gen place r=true then putW (recBody gen place r) (sum (recBody gen place r):Nat) else []
theorem recHead_len (gen place:Int) (r:RecV):(recHead gen place r).length=5:=by
 simp only [recHead,putW,List.length_append,List.length_cons,List.length_nil]
theorem recKind_len (b:List UInt8) (r:RecV):(recKind b r).length≤b.length + 190:=by
 unfold recKind
 have h1:=putRow_len b r.R
 have h2:=putText_len b r.Key
 split
 ·omega
 ·split
  ·omega
  ·split
   ·simp only [List.length_append,List.length_cons,List.length_nil]; omega
   ·omega
theorem recBody_len (gen place:Int) (r:RecV):(recBody gen place r).length≤199:=by
 have h1:=recKind_len (recHead gen place r) r
 rw [recHead_len] at h1
 unfold recBody
 rw [putW_len,List.length_append]
 simp only [List.length_cons,List.length_nil]
 omega
theorem putRec_len (gen place:Int) (r:RecV):(putRec gen place r).length≤201:=by
 unfold putRec
 have:=recBody_len gen place r
 split
 ·rw [putW_len]; omega
 ·exact Nat.zero_le _
theorem recNo1 {gen place:Int} {r:RecV} (h:r.ok=false):putRec gen place r=[]:=by
 have:recGood gen place r=false:=by simp only [recGood,h,Bool.false_and]
 rw [putRec,this]; rfl
theorem recNo2 {gen place:Int} {r:RecV} (h:win gen 0 65535=false):putRec gen place r=[]:=by
 have:recGood gen place r=false:=by simp only [recGood,h,Bool.false_and,Bool.and_false]
 rw [putRec,this]; rfl
theorem recNo3 {gen place:Int} {r:RecV} (h:win place 0 65535=false):putRec gen place r=[]:=by
 have:recGood gen place r=false:=by simp only [recGood,h,Bool.and_false]
 rw [putRec,this]; rfl
theorem recYes {gen place:Int} {r:RecV} (h1:r.ok=true) (h2:win gen 0 65535=true) (h3:win place 0 65535=true):putRec gen place r=putW (recBody gen place r) (sum (recBody gen place r):Nat):=by
 have:recGood gen place r=true:=by simp only [recGood,h1,h2,h3,Bool.and_true]
 rw [putRec,if_pos this]
theorem other3 {k:Int} (h1:¬ k=1) (h2:¬ k=2) (h3:¬ k=3):(k==1)=false∧(k==2)=false∧(k==3)=false:=by
 simp only [beq_eq_false_iff_ne,ne_eq]
 omega
abbrev C_i_PutRec (Te:TE):Prop:=∀ (gen place:Int) (r:RecV) (h:r.In (2 ^ 48)),Te 259 [.one (iT gen),.one (iT place),.agg (r.enc false)] ⟨[.one (slT true 1 uR (putRec gen place r))],[[iT gen],[iT place],r.enc false]⟩
abbrev C_s_PutRec (Te:TE):Prop:=∀ (gen place:Int) (r:RecV) (h:r.In (2 ^ 48)),Te 194 [.one (iT gen),.one (iT place),.agg (r.enc false)] ⟨[.one (slT true 1 uR (putRec gen place r))],[[iT gen],[iT place],r.enc false]⟩
def headGood (gen n:Int):Bool:=win gen 1 60000&&win n 0 30
def headOf (gen n:Int):List UInt8:=if headGood gen n=true then putW (putW (putW [] gen) n) (sum (putW (putW [] gen) n):Nat) else []
theorem headOf_len (gen n:Int):(headOf gen n).length≤6:=by
 unfold headOf
 split
 ·rw [putW_len,putW_len,putW_len]; decide
 ·exact Nat.zero_le _
abbrev C_i_HeadOf (Te:TE):Prop:=∀ (gen n:Int),Te 293 [.one (iT gen),.one (iT n)] ⟨[.one (slT true 1 uR (headOf gen n))],[[iT gen],[iT n]]⟩
abbrev C_s_HeadOf (Te:TE):Prop:=∀ (gen n:Int),Te 280 [.one (iT gen),.one (iT n)] ⟨[.one (slT true 1 uR (headOf gen n))],[[iT gen],[iT n]]⟩
def recRow (r:RowV):RecV:=⟨1,r,⟨#[]⟩,0,0,0,0⟩
def recMark (m:MarkV):RecV:=⟨4,RowV.zero,⟨#[]⟩,0,m.Who,m.Seq,m.Code⟩
def recPhase (n:Int):RecV:=⟨3,RowV.zero,⟨#[]⟩,n,0,0,0⟩
def recsOf (t:TabV):List RecV:=recPhase t.Phase::(t.Rows.map recRow++t.Marks.map recMark)
theorem recsOf_len (t:TabV):(recsOf t).length=t.Rows.length + t.Marks.length + 1:=by
 simp only [recsOf,List.length_cons,List.length_append,List.length_map]
theorem app1R (l:List RecV) (x:RecV):List.map (RecV.enc true) l++[x.enc true]=List.map (RecV.enc true) (l++[x]):=by rw [List.map_append]; rfl
theorem recs_rows {t:TabV} {i:Nat} (h:i < t.Rows.length):(recPhase t.Phase::(t.Rows.take i).map recRow)++[recRow t.Rows[i]]=recPhase t.Phase::(t.Rows.take (i + 1)).map recRow:=by
 rw [List.take_succ_eq_append_getElem h,List.map_append]; rfl
theorem recs_marks {t:TabV} {i:Nat} (h:i < t.Marks.length):(recPhase t.Phase::(t.Rows.map recRow++(t.Marks.take i).map recMark))++[recMark t.Marks[i]]=recPhase t.Phase::(t.Rows.map recRow++(t.Marks.take (i + 1)).map recMark):=by
 rw [List.take_succ_eq_append_getElem h,List.map_append,List.cons_append,List.append_assoc]; rfl
abbrev C_i_RecsOf (Te:TE):Prop:=∀ (t:TabV) (h:t.Len),Te 207 [.agg (t.enc false)] ⟨[.one (slT true 13 (RecV.enc true) (recsOf t))],[t.enc false]⟩
abbrev C_s_RecsOf (Te:TE):Prop:=∀ (t:TabV) (h:t.Len),Te 279 [.agg (t.enc false)] ⟨[.one (slT true 13 (RecV.enc true) (recsOf t))],[t.enc false]⟩
abbrev secR (o:Bool) (y:List UInt8):List T:=[slT o 1 uR y]
def devNew (n:Int):DevV:=bif win n 1 64 then ⟨List.replicate n.toNat [],[],-1,false⟩ else ⟨[],[],0,false⟩
theorem rep_secs (k:Nat):(List.replicate k [Tr.sl true 1 () []]:List (List T))=List.map (secR true) (List.replicate k []):=by rw [List.map_replicate]; rfl
theorem app1S (l:List (List UInt8)) (x:List UInt8):List.map (secR true) l++[[slT true 1 uR x]]=List.map (secR true) (l++[x]):=by rw [List.map_append]; rfl
theorem app1W (l:List WrV) (x:WrV):List.map (WrV.enc true) l++[[iT x.N,slT true 1 uR x.B]]=List.map (WrV.enc true) (l++[x]):=by rw [List.map_append]; rfl
theorem take_all {α β:Type} (f:α→β) (l:List α):List.take l.length (List.map f l)=List.map f l:=List.take_of_length_le (by simp)
attribute [go_sem] take_all
theorem rep_step (i:Nat):(List.replicate i ([]:List UInt8))++[[]]=List.replicate (i + 1) []:=by rw [List.replicate_succ']
abbrev C_i_DevNew (Te:TE):Prop:=∀ (n:Int),Te 209 [.one (iT n)] ⟨[.agg ((devNew n).enc true)],[[iT n]]⟩
abbrev C_s_DevNew (Te:TE):Prop:=∀ (n:Int),Te 210 [.one (iT n)] ⟨[.agg ((devNew n).enc true)],[[iT n]]⟩
def DevV.burn (d:DevV):DevV:=if d.Fuse=0 then ⟨d.Secs,d.Cache,-1,true⟩ else if d.Fuse > 0 then ⟨d.Secs,d.Cache,IntKind.i64.wrap (d.Fuse - 1),d.Down⟩ else d
def DevV.full (d:DevV) (n:Int) (b:List UInt8):Bool:=d.Down||(!win n 0 ((d.Secs.length:Int) - 1)||(decide ((b.length:Int) > 120)||decide ((d.Cache.length:Int)≥40)))
def DevV.put (d:DevV) (n:Int) (b:List UInt8):DevV:=⟨d.Secs,d.Cache++[⟨n,b⟩],d.Fuse,d.Down⟩
def DevV.write (d:DevV) (n:Int) (b:List UInt8):DevV:=if d.full n b=true then d else if d.Fuse=0 then d.burn else d.burn.put n b
def flushed (S:List (List UInt8)) (C:List WrV):List (List UInt8):=C.foldl (fun s w=>s.set w.N.toNat w.B) S
def DevV.flush (d:DevV):DevV:=if d.Down=true then d else if d.Fuse=0 then d.burn else ⟨flushed d.Secs d.Cache,[],d.burn.Fuse,d.burn.Down⟩
theorem flushed_len (C:List WrV):∀ S:List (List UInt8),(flushed S C).length=S.length:=by
 induction C with
 | nil=>intro S; rfl
 | cons w C ih=>intro S; show (flushed (S.set w.N.toNat w.B) C).length=S.length; rw [ih,List.length_set]
theorem flushed_step {C:List WrV} {i:Nat} (h:i < C.length) (S:List (List UInt8)):(flushed S (C.take i)).set C[i].N.toNat C[i].B=flushed S (C.take (i + 1)):=by
 rw [List.take_succ_eq_append_getElem h,flushed,flushed,List.foldl_append]; rfl
theorem burn_secs (d:DevV):d.burn.Secs=d.Secs:=by
 unfold DevV.burn
 split
 ·rfl
 ·split <;> rfl
theorem burn_cache (d:DevV):d.burn.Cache=d.Cache:=by
 unfold DevV.burn
 split
 ·rfl
 ·split <;> rfl
theorem DevV.ok_in {d:DevV} (h:d.ok=true):d.In (2 ^ 20):=by
 simp only [DevV.ok,Bool.and_eq_true,win,decide_eq_true_eq,List.all_eq_true,secGood,wrGood,Bool.not_eq_true',decide_eq_false_iff_not] at h
 obtain ⟨⟨⟨⟨⟨h1,h2⟩,h3⟩,_⟩,h4⟩,h5⟩:=h
 refine ⟨⟨by omega,fun y hy=>?_⟩,by omega,fun y hy=>?_⟩
 ·have:=h4 y hy; omega
 ·have:=(h5 y hy).2; show y.B.length≤2 ^ 20; omega
theorem DevV.ok_idx {d:DevV} (h:d.ok=true):∀ w∈d.Cache,0≤w.N∧w.N < d.Secs.length:=by
 simp only [DevV.ok,Bool.and_eq_true,win,decide_eq_true_eq,List.all_eq_true,wrGood] at h
 intro w hw
 have:=(h.2 w hw).1
 omega
theorem DevV.ok_cache {d:DevV} (h:d.ok=true):d.Cache.length≤40:=by
 simp only [DevV.ok,Bool.and_eq_true,decide_eq_true_eq] at h
 omega
abbrev C_i_copyDev (Te:TE):Prop:=∀ (d:DevV) (h:d.Len),Te 245 [.agg (d.enc false)] ⟨[.agg (d.enc true)],[d.enc false]⟩
abbrev C_i_burn (Te:TE):Prop:=∀ (d:DevV),Te 311 [.agg (d.enc true)] ⟨[.agg (d.burn.enc true),.one (bT (!(d.Fuse==0)))],[[.no (),.no (),iT d.Fuse,bT d.Down]]⟩
abbrev C_s_l10Op (Te:TE):Prop:=∀ (d:DevV),Te 281 [.ptr (d.enc true)] ⟨[.one (bT (!(d.Fuse==0)))],[d.burn.enc true]⟩
theorem full_down {d:DevV} {n:Int} {b:List UInt8} (h:d.Down=true):d.write n b=d:=by rw [DevV.write,if_pos (by rw [DevV.full,h]; rfl)]
theorem full_win {d:DevV} {n:Int} {b:List UInt8} (h:win n 0 ((d.Secs.length:Int) - 1)=false):d.write n b=d:=by rw [DevV.write,if_pos (by rw [DevV.full,h]; simp)]
theorem full_len {d:DevV} {n:Int} {b:List UInt8} (h:decide ((b.length:Int) > 120)=true):d.write n b=d:=by rw [DevV.write,if_pos (by rw [DevV.full,h]; simp)]
theorem full_cache {d:DevV} {n:Int} {b:List UInt8} (h:decide ((d.Cache.length:Int)≥40)=true):d.write n b=d:=by rw [DevV.write,if_pos (by rw [DevV.full,h]; simp)]
theorem not_full {d:DevV} {n:Int} {b:List UInt8} (h1:d.Down=false) (h2:win n 0 ((d.Secs.length:Int) - 1)=true) (h3:decide ((b.length:Int) > 120)=false) (h4:decide ((d.Cache.length:Int)≥40)=false):d.write n b=if d.Fuse=0 then d.burn else d.burn.put n b:=by
 rw [DevV.write,if_neg (by rw [DevV.full,h1,h2,h3,h4]; decide)]
abbrev C_i_WriteSec (Te:TE):Prop:=∀ (d:DevV) (n:Int) (b:List UInt8) (hk:d.ok=true) (hb:b.length≤2 ^ 21),Te 257 [.agg (d.enc false),.one (iT n),.one (slT false 1 uR b)] ⟨[.agg ((d.write n b).enc true)],[d.enc false,[iT n],[slT false 1 uR b]]⟩
abbrev C_s_l10Write (Te:TE):Prop:=∀ (d:DevV) (n:Int) (b:List UInt8) (hd:d.Secs.length≤2 ^ 30∧d.Cache.length≤2 ^ 30) (hb:b.length≤2 ^ 30),Te 192 [.ptr (d.enc true),.one (iT n),.one (slT false 1 uR b)] ⟨[],[(d.write n b).enc true,[iT n],[slT false 1 uR b]]⟩
def mvRows (C:List WrV) (i:Nat):List (List T):=(C.take i).map (fun w=>[iT w.N,.no ()])++(C.drop i).map (WrV.enc true)
theorem mv_len (C:List WrV) (i:Nat):(mvRows C i).length=C.length:=by
 simp only [mvRows,List.length_append,List.length_map,List.length_take,List.length_drop]; omega
theorem mv_zero (C:List WrV):mvRows C 0=C.map (WrV.enc true):=rfl
theorem mv_get {C:List WrV} {i:Nat} (h:i < C.length):(mvRows C i)[i]?=some (C[i].enc true):=by
 have e:((C.take i).map (fun w:WrV=>([iT w.N,.no ()]:List T))).length=i:=by simp; omega
 rw [mvRows,List.getElem?_append_right (by omega),e,Nat.sub_self,List.getElem?_map,List.getElem?_drop,Nat.add_zero,List.getElem?_eq_getElem h]
 rfl
theorem mv_set {C:List WrV} {i:Nat} (h:i < C.length):(mvRows C i).set i [iT C[i].N,.no ()]=mvRows C (i + 1):=by
 have e:((C.take i).map (fun w:WrV=>([iT w.N,.no ()]:List T))).length=i:=by simp; omega
 rw [mvRows,List.set_append_right _ _ (by omega),e,Nat.sub_self,List.drop_eq_getElem_cons h,List.map_cons,List.set_cons_zero,mvRows,List.take_succ_eq_append_getElem h,List.map_append,List.append_assoc]
 rfl
theorem setS (S:List (List UInt8)) (k:Nat) (B:List UInt8):(List.map (secR true) S).set k [slT true 1 uR B]=List.map (secR true) (S.set k B):=by rw [List.map_set]
theorem getS {S:List (List UInt8)} {k:Nat} (h:k < S.length):(List.map (secR true) S).getD k []=[slT true 1 uR S[k]]:=by
 rw [List.getD_eq_getElem?_getD,List.getElem?_map,List.getElem?_eq_getElem h]; rfl
abbrev C_i_FlushDev (Te:TE):Prop:=∀ (d:DevV) (hk:d.ok=true),Te 260 [.agg (d.enc false)] ⟨[.agg (d.flush.enc true)],[d.enc false]⟩
abbrev C_s_l10Flush (Te:TE):Prop:=∀ (d:DevV) (hd:d.Cache.length≤2 ^ 30) (hidx:∀ w∈d.Cache,0≤w.N∧w.N < d.Secs.length),Te 195 [.ptr (d.enc true)] ⟨[],[d.flush.enc true]⟩
theorem DevV.ok_iff (d:DevV):d.ok=true↔(1≤d.Secs.length∧d.Secs.length≤64)∧d.Cache.length≤40∧(-1≤d.Fuse∧d.Fuse≤1000)∧(∀ y∈d.Secs,y.length≤120)∧∀ w∈d.Cache,(0≤w.N∧w.N < d.Secs.length)∧w.B.length≤120:=by
 simp only [DevV.ok,Bool.and_eq_true,win,decide_eq_true_eq,List.all_eq_true,secGood,wrGood,Bool.not_eq_true',decide_eq_false_iff_not]
 constructor
 ·rintro ⟨⟨⟨⟨h1,h2⟩,h3⟩,h4⟩,h5⟩
  exact ⟨by omega,by omega,by omega,fun y hy=>by have:=h4 y hy; omega,fun w hw=>by have:=h5 w hw; omega⟩
 ·rintro ⟨h1,h2,h3,h4,h5⟩
  exact ⟨⟨⟨⟨by omega,by omega⟩,by omega⟩,fun y hy=>by have:=h4 y hy; omega⟩,fun w hw=>by have:=h5 w hw; omega⟩
theorem burn_ok {d:DevV} (h:d.ok=true):d.burn.ok=true:=by
 rw [DevV.ok_iff] at h ⊢
 obtain ⟨h1,h2,h3,h4,h5⟩:=h
 unfold DevV.burn
 split
 ·exact ⟨h1,h2,by simp only; omega,h4,h5⟩
 ·split
  ·exact ⟨h1,h2,by simp only; rw [IntWalk.i64_in _ (by omega)]; omega,h4,h5⟩
  ·exact ⟨h1,h2,h3,h4,h5⟩
theorem write_ok {d:DevV} (h:d.ok=true) (n:Int) (b:List UInt8):(d.write n b).ok=true:=by
 unfold DevV.write
 split
 ·exact h
 ·rename_i hf
  split
  ·exact burn_ok h
  ·have hb:=burn_ok h
   simp only [DevV.full,Bool.or_eq_true,Bool.not_eq_true',decide_eq_true_eq,not_or,win,Bool.and_eq_false_iff,decide_eq_false_iff_not] at hf
   rw [DevV.ok_iff] at hb ⊢
   obtain ⟨h1,h2,h3,h4,h5⟩:=hb
   have bs:=burn_secs d
   have bc:=burn_cache d
   refine ⟨h1,?_,h3,h4,fun w hw=>?_⟩
   ·simp only [DevV.put,List.length_append,List.length_cons,List.length_nil]
    rw [bc]
    omega
   ·rcases List.mem_append.1 hw with hw | hw
    ·exact h5 w hw
    ·simp only [List.mem_cons,List.not_mem_nil,or_false] at hw
     subst hw
     simp only [DevV.put]
     rw [bs]
     omega
theorem mem_set' {α:Type} {l:List α} {i:Nat} {x y:α} (h:y∈l.set i x):y∈l∨y=x:=by
 rcases List.mem_or_eq_of_mem_set h with h | h
 ·exact .inl h
 ·exact .inr h
theorem flushed_mem (C:List WrV):∀ (S:List (List UInt8)) (y:List UInt8),y∈flushed S C→y∈S∨∃ w∈C,y=w.B:=by
 induction C with
 | nil=>intro S y h; exact .inl h
 | cons w C ih =>
  intro S y h
  rcases ih (S.set w.N.toNat w.B) y h with h | ⟨v,hv,e⟩
  ·rcases mem_set' h with h | h
   ·exact .inl h
   ·exact .inr ⟨w,List.mem_cons_self ..,h⟩
  ·exact .inr ⟨v,List.mem_cons_of_mem _ hv,e⟩
theorem flush_ok {d:DevV} (h:d.ok=true):d.flush.ok=true:=by
 unfold DevV.flush
 split
 ·exact h
 ·split
  ·exact burn_ok h
  ·have hb:=burn_ok h
   rw [DevV.ok_iff] at h hb ⊢
   refine ⟨by rw [flushed_len]; exact h.1,Nat.zero_le _,hb.2.2.1,fun y hy=>?_,fun w hw=>by cases hw⟩
   rcases flushed_mem d.Cache d.Secs y hy with hy | ⟨w,hw,rfl⟩
   ·exact h.2.2.2.1 y hy
   ·exact (h.2.2.2.2 w hw).2
def secOf (gen place:Int):Int:=IntKind.i64.wrap (IntKind.i64.wrap (2 + IntKind.i64.wrap (30 * gen.tmod 2)) + place)
def layN (gen:Int) (recs:List RecV) (d:DevV):Nat→DevV
 | 0=>d
 | i + 1=>(layN gen recs d i).write (secOf gen i) (putRec gen i (recs.getD i (recPhase 0)))
def layDev (gen:Int) (recs:List RecV) (d:DevV):DevV:=(((layN gen recs d recs.length).flush).write (gen.tmod 2) (headOf gen recs.length)).flush
theorem layN_ok {d:DevV} (h:d.ok=true) (gen:Int) (recs:List RecV):∀ i,(layN gen recs d i).ok=true
 | 0=>h
 | i + 1=>write_ok (layN_ok h gen recs i) _ _
theorem layN_step (gen:Int) (d:DevV) {recs:List RecV} {i:Nat} (h:i < recs.length):(layN gen recs d i).write (secOf gen i) (putRec gen i recs[i])=layN gen recs d (i + 1):=by
 rw [layN,List.getD_eq_getElem?_getD,List.getElem?_eq_getElem h,Option.getD_some]
theorem layDev_ok {d:DevV} (h:d.ok=true) (gen:Int) (recs:List RecV):(layDev gen recs d).ok=true:=flush_ok (write_ok (flush_ok (layN_ok h gen recs _)) _ _)
abbrev C_i_sectorOf (Te:TE):Prop:=∀ (gen place:Int),Te 258 [.one (iT gen),.one (iT place)] ⟨[.one (iT (secOf gen place))],[[iT gen],[iT place]]⟩
abbrev C_s_l13At (Te:TE):Prop:=∀ (gen place:Int),Te 193 [.one (iT gen),.one (iT place)] ⟨[.one (iT (secOf gen place))],[[iT gen],[iT place]]⟩
abbrev C_i_laid (Te:TE):Prop:=∀ (d:DevV) (gen:Int) (recs:List RecV) (hd:d.ok=true) (hr:recs.length≤2 ^ 30∧∀ r∈recs,r.In (2 ^ 48)),Te 208 [.agg (d.enc false),.one (iT gen),.one (slT false 13 (RecV.enc false) recs)] ⟨[.agg ((layDev gen recs d).enc true)],[d.enc false,[iT gen],[slT false 13 (RecV.enc false) recs]]⟩
theorem RowV.zero_in (n:Nat):RowV.zero.In n:=⟨Nat.zero_le _,Nat.zero_le _,Nat.zero_le _⟩
theorem recsOf_in {t:TabV} {n:Nat} (h:t.In n):∀ r∈recsOf t,r.In n:=by
 intro r hr
 simp only [recsOf,List.mem_cons,List.mem_append,List.mem_map] at hr
 rcases hr with rfl | ⟨y,hy,rfl⟩ | ⟨y,hy,rfl⟩
 ·exact ⟨RowV.zero_in n,Nat.zero_le _⟩
 ·exact ⟨h.1.2 y hy,Nat.zero_le _⟩
 ·exact ⟨RowV.zero_in n,Nat.zero_le _⟩
theorem recsOf_le {t:TabV} (h:t.In (2 ^ 20)):(recsOf t).length≤2 ^ 30∧∀ r∈recsOf t,r.In (2 ^ 48) :=
 ⟨by rw [recsOf_len]; have:=h.1.1; have:=h.2; omega,fun r hr=>(recsOf_in h r hr).mono (by decide)⟩
def StoreV.lay (s:StoreV) (gen:Int):StoreV :=
 if (layDev gen (recsOf s.T) s.D).Down=true then ⟨layDev gen (recsOf s.T) s.D,s.T,s.Gen,s.Place⟩ else ⟨layDev gen (recsOf s.T) s.D,s.T,gen,(recsOf s.T).length⟩
theorem lay_down {s:StoreV} {gen:Int} (h:(layDev gen (recsOf s.T) s.D).Down=true):s.lay gen=⟨layDev gen (recsOf s.T) s.D,s.T,s.Gen,s.Place⟩:=if_pos h
theorem lay_up {s:StoreV} {gen:Int} (h:(layDev gen (recsOf s.T) s.D).Down=false):s.lay gen=⟨layDev gen (recsOf s.T) s.D,s.T,gen,(recsOf s.T).length⟩:=if_neg (by rw [h]; decide)
abbrev C_s_l13Lay (Te:TE):Prop:=∀ (s:StoreV) (gen:Int) (hd:s.D.ok=true) (ht:s.T.In (2 ^ 20)),Te 191 [.ptr (s.enc true),.one (iT gen)] ⟨[],[(s.lay gen).enc true,[iT gen]]⟩
def TabV.zero:TabV:=⟨[],0,[]⟩
def fmt:StoreV:=(StoreV.mk (devNew 62) TabV.zero 0 0).lay 1
theorem write_fuse {d:DevV} (h:d.Fuse < 0) (hd:d.Down=false) (n:Int) (b:List UInt8):(d.write n b).Fuse=d.Fuse∧(d.write n b).Down=false:=by
 have hb:d.burn=d:=by rw [DevV.burn,if_neg (by omega),if_neg (by omega)]
 unfold DevV.write
 split
 ·exact ⟨rfl,hd⟩
 ·rw [if_neg (by omega),hb]; exact ⟨rfl,hd⟩
theorem flush_fuse {d:DevV} (h:d.Fuse < 0) (hd:d.Down=false):d.flush.Fuse=d.Fuse∧d.flush.Down=false:=by
 have hb:d.burn=d:=by rw [DevV.burn,if_neg (by omega),if_neg (by omega)]
 unfold DevV.flush
 rw [hd,if_neg (by decide),if_neg (by omega),hb]
 exact ⟨rfl,hd⟩
theorem layN_fuse {d:DevV} (h:d.Fuse < 0) (hd:d.Down=false) (gen:Int) (recs:List RecV):∀ i,(layN gen recs d i).Fuse=d.Fuse∧(layN gen recs d i).Down=false:=by
 intro i
 induction i with
 | zero=>exact ⟨rfl,hd⟩
 | succ i ih =>
  have:=write_fuse (d:=layN gen recs d i) (by rw [ih.1]; exact h) ih.2 (secOf gen i) (putRec gen i (recs.getD i (recPhase 0)))
  rw [layN]
  exact ⟨this.1.trans ih.1,this.2⟩
theorem layDev_fuse {d:DevV} (h:d.Fuse < 0) (hd:d.Down=false) (gen:Int) (recs:List RecV):(layDev gen recs d).Fuse=d.Fuse∧(layDev gen recs d).Down=false:=by
 obtain ⟨a1,a2⟩:=layN_fuse h hd gen recs recs.length
 obtain ⟨b1,b2⟩:=flush_fuse (d:=layN gen recs d recs.length) (by omega) a2
 obtain ⟨c1,c2⟩:=write_fuse (d:=(layN gen recs d recs.length).flush) (by omega) b2 (gen.tmod 2) (headOf gen recs.length)
 obtain ⟨d1,d2⟩:=flush_fuse (d:=((layN gen recs d recs.length).flush).write (gen.tmod 2) (headOf gen recs.length)) (by omega) c2
 exact ⟨by rw [layDev,d1,c1,b1,a1],d2⟩
theorem devNew_62:devNew 62=⟨List.replicate 62 [],[],-1,false⟩:=rfl
theorem devNew_ok:(devNew 62).ok=true:=by rw [devNew_62,DevV.ok_iff]; exact ⟨⟨by simp,by simp⟩,by simp,⟨by simp,by simp⟩,fun y hy=>by rw [List.eq_of_mem_replicate hy]; exact Nat.zero_le _,fun w hw=>by cases hw⟩
theorem recsOf_zero:recsOf TabV.zero=[recPhase 0]:=rfl
theorem fmt_eq:fmt=⟨layDev 1 [recPhase 0] (devNew 62),TabV.zero,1,1⟩:=by
 rw [fmt,lay_up]
 ·rfl
 ·exact (layDev_fuse (by rw [devNew_62]; decide) (by rw [devNew_62]) 1 _).2
theorem TabV.zero_in (n:Nat):TabV.zero.In n:=⟨⟨Nat.zero_le _,fun y hy=>by cases hy⟩,Nat.zero_le _⟩
abbrev C_i_Format (Te:TE):Prop:=Te 121 [] ⟨[.agg (fmt.enc true)],[]⟩
abbrev C_s_Format (Te:TE):Prop:=Te 122 [] ⟨[.agg (fmt.enc true)],[]⟩
def NodeV.zero:NodeV:=⟨⟨⟨[],[],0,false⟩,TabV.zero,0,0⟩,0⟩
def nodeNew (cs:Int):NodeV:=bif win cs 1 5 then ⟨fmt,cs⟩ else NodeV.zero
theorem nodeNew_len (cs:Int):(nodeNew cs).Len:=by
 unfold nodeNew
 cases win cs 1 5
 ·exact ⟨⟨⟨Nat.zero_le _,fun y hy=>by cases hy⟩,Nat.zero_le _,fun y hy=>by cases hy⟩,(TabV.zero_in (2 ^ 20)).len (by decide)⟩
 ·have h:(⟨fmt,cs⟩:NodeV).Len:=by
   show fmt.Len
   rw [fmt_eq]
   exact ⟨(DevV.ok_in (layDev_ok devNew_ok 1 [recPhase 0])).len (by decide),(TabV.zero_in (2 ^ 20)).len (by decide)⟩
  exact h
abbrev C_i_NodeNew (Te:TE):Prop:=∀ (cs:Int),Te 44 [.one (iT cs)] ⟨[.agg ((nodeNew cs).enc true)],[[iT cs]]⟩
abbrev C_s_NodeNew (Te:TE):Prop:=∀ (cs:Int),Te 45 [.one (iT cs)] ⟨[.agg ((nodeNew cs).enc true)],[[iT cs]]⟩
def NodeV.up (n:NodeV):Bool:=n.ok && !n.S.D.Down
abbrev C_i_isUp (Te:TE):Prop:=∀ (n:NodeV) (h:n.In (2 ^ 48)),Te 82 [.agg (n.enc false)] ⟨[.one (bT n.up)],[n.enc false]⟩
abbrev C_s_l15Up (Te:TE):Prop:=∀ (n:NodeV) (h:n.In (2 ^ 48)),Te 64 [.agg (n.enc false)] ⟨[.one (bT n.up)],[n.enc false]⟩
def RowV.rtext (r:RowV):ByteArray×Bool:=if r.Has=1 then r.Old.text else r.New.text
theorem and2_ne (h:Int) (hh:h=1∨h=2∨h=3):(andK .i64 h 2 != 0)=decide (h≠1):=by
 rw [andK_def]
 rcases hh with rfl | rfl | rfl <;> decide
abbrev C_i_RowText (Te:TE):Prop:=∀ (r:RowV) (h:r.Has=1∨r.Has=2∨r.Has=3),Te 88 [.agg (r.enc false)] ⟨[.one (sT r.rtext.1),.one (bT r.rtext.2)],[r.enc false]⟩
abbrev C_s_RowText (Te:TE):Prop:=∀ (r:RowV) (h:r.Has=1∨r.Has=2∨r.Has=3),Te 105 [.agg (r.enc false)] ⟨[.one (sT r.rtext.1),.one (bT r.rtext.2)],[r.enc false]⟩
def rowIx (l:List RowV) (key:ByteArray):Nat:=l.findIdx fun r=>decide (r.Key=key)
def rowAt (l:List RowV) (key:ByteArray):Int:=if rowIx l key < l.length then (rowIx l key:Int) else -1
theorem rowAt_hit {l:List RowV} {key:ByteArray} {i:Nat} (h:i < l.length) (hp:∀ j (hj:j < l.length),j < i→decide (l[j].Key=key)=false) (hk:decide (l[i].Key=key)=true):rowAt l key=i∧rowIx l key=i:=by
 have e:rowIx l key=i:=by
  rw [rowIx,List.findIdx_eq h]
  exact ⟨hk,fun j hj=>hp j (by omega) hj⟩
 rw [rowAt,e,if_pos h]
 exact ⟨rfl,rfl⟩
theorem rowAt_none {l:List RowV} {key:ByteArray} {i:Nat} (hi:l.length≤i) (hp:∀ j (hj:j < l.length),j < i→decide (l[j].Key=key)=false):rowAt l key = -1:=by
 have e:¬ rowIx l key < l.length:=by
  rw [rowIx,List.findIdx_lt_length]
  rintro ⟨x,hx,hk⟩
  obtain ⟨j,hj,rfl⟩:=List.mem_iff_getElem.1 hx
  rw [hp j hj (by omega)] at hk
  cases hk
 rw [rowAt,if_neg e]
theorem rowAt_step {l:List RowV} {key:ByteArray} {i:Nat} (h:i < l.length) (hp:∀ j (hj:j < l.length),j < i→decide (l[j].Key=key)=false) (hk:decide (l[i].Key=key)=false):∀ j (hj:j < l.length),j < i + 1→decide (l[j].Key=key)=false:=by
 intro j hj hji
 by_cases e:j=i
 ·subst e; exact hk
 ·exact hp j hj (by omega)
theorem rowAt_cases (l:List RowV) (key:ByteArray):(rowAt l key = -1∧l[rowIx l key]?=none)∨∃ h:rowIx l key < l.length,rowAt l key=rowIx l key∧l[rowIx l key]?=some l[rowIx l key]:=by
 by_cases h:rowIx l key < l.length
 ·exact .inr ⟨h,by rw [rowAt,if_pos h],List.getElem?_eq_getElem h⟩
 ·exact .inl ⟨by rw [rowAt,if_neg h],List.getElem?_eq_none (by omega)⟩
abbrev C_i_RowAt1 (Te:TE):Prop:=∀ (r:RowV) (key:ByteArray),Te 176 [.agg (r.enc false),.ptr [sT key]] ⟨[.one (bT (decide (r.Key=key)))],[r.enc false,[sT key]]⟩
abbrev C_z_IndexFuncimplRowAt1 (Te:TE):Prop:=∀ (l:List RowV) (key:ByteArray) (hl:l.length≤2 ^ 48),Te 185598127 [.one (slT false 7 (RowV.enc false) l),.ptr [sT key]] ⟨[.one (iT (rowAt l key))],[[slT false 7 (RowV.enc false) l],[sT key]]⟩
abbrev C_i_RowAt (Te:TE):Prop:=∀ (t:TabV) (key:ByteArray) (hl:t.Rows.length≤2 ^ 48),Te 87 [.agg (t.enc false),.one (sT key)] ⟨[.one (iT (rowAt t.Rows key))],[t.enc false,[sT key]]⟩
abbrev C_s_RowAt (Te:TE):Prop:=∀ (t:TabV) (key:ByteArray) (hl:t.Rows.length≤2 ^ 48),Te 104 [.agg (t.enc false),.one (sT key)] ⟨[.one (iT (rowAt t.Rows key))],[t.enc false,[sT key]]⟩
def NodeV.get (n:NodeV) (key:ByteArray):ByteArray×Int:=if n.up=true then (match n.S.T.Rows[rowIx n.S.T.Rows key]? with
 | none=>(⟨#[]⟩,2)
 | some r=>if r.rtext.2=true then (r.rtext.1,0) else (⟨#[]⟩,4)) else (⟨#[]⟩,1)
theorem TabV.ok_row {t:TabV} (h:t.ok=true) {i:Nat} (hi:i < t.Rows.length):t.Rows[i].ok=true:=by
 simp only [TabV.ok,Bool.and_eq_true,List.all_eq_true] at h
 have:=h.1.1 i (List.mem_range.2 hi)
 simp only [rowGood,List.getElem?_eq_getElem hi,Option.map_some,Option.getD_some,Bool.and_eq_true] at this
 exact this.1
theorem NodeV.up_tab {n:NodeV} (h:n.up=true):n.S.T.ok=true:=by
 simp only [NodeV.up,NodeV.ok,StoreV.ok,Bool.and_eq_true] at h
 exact h.1.1.1.1.2
abbrev C_i_NodeGet (Te:TE):Prop:=∀ (n:NodeV) (key:ByteArray) (h:n.In (2 ^ 48)),Te 22 [.agg (n.enc false),.one (sT key)] ⟨[.one (sT (n.get key).1),.one (iT (n.get key).2)],[n.enc false,[sT key]]⟩
abbrev C_s_NodeGet (Te:TE):Prop:=∀ (n:NodeV) (key:ByteArray) (h:n.In (2 ^ 48)),Te 31 [.agg (n.enc false),.one (sT key)] ⟨[.one (sT (n.get key).1),.one (iT (n.get key).2)],[n.enc false,[sT key]]⟩
def worldNew (cs:Int):WorldV:=bif win cs 1 5 then ⟨leadIn 0,[nodeNew cs,nodeNew cs],[client0 1,client0 2],[],[],[[],[]]⟩ else ⟨⟨0,[],[],[]⟩,[],[],[],[],[]⟩
theorem worldNew_no {cs:Int} (g:win cs 1 5=false):worldNew cs=⟨⟨0,[],[],[]⟩,[],[],[],[],[]⟩:=by rw [worldNew,g]; rfl
theorem worldNew_yes {cs:Int} (g:win cs 1 5=true):worldNew cs=⟨leadIn 0,[nodeNew cs,nodeNew cs],[client0 1,client0 2],[],[],[[],[]]⟩:=by rw [worldNew,g]; rfl
theorem worldNew_len (cs:Int):(worldNew cs).Len:=by
 cases g:win cs 1 5
 ·rw [worldNew_no g]
  exact ⟨⟨Nat.zero_le _,Nat.zero_le _,Nat.zero_le _⟩,⟨Nat.zero_le _,fun y hy=>by cases hy⟩,⟨Nat.zero_le _,fun y hy=>by cases hy⟩,Nat.zero_le _,Nat.zero_le _,⟨Nat.zero_le _,fun y hy=>by cases hy⟩⟩
 ·rw [worldNew_yes g]
  refine ⟨(leadIn_In 0).len (by decide),⟨show 2≤2 ^ 21 by decide,fun y hy=>?_⟩,⟨show 2≤2 ^ 21 by decide,fun y hy=>?_⟩,Nat.zero_le _,Nat.zero_le _,⟨show 2≤2 ^ 21 by decide,fun y hy=>?_⟩⟩
  ·simp only [List.mem_cons,List.not_mem_nil,or_false,or_self] at hy
   rw [hy]
   exact nodeNew_len cs
  ·simp only [List.mem_cons,List.not_mem_nil,or_false] at hy
   rcases hy with e | e <;> rw [e] <;> exact client0_len _
  ·simp only [List.mem_cons,List.not_mem_nil,or_false,or_self] at hy
   rw [hy]
   exact Nat.zero_le _
theorem node_small {x:NodeV} (hd:x.S.D.ok=true) (ht:x.S.T=TabV.zero) (k:Int):x.farE k≤k + 20000:=by
 obtain ⟨⟨_,d1⟩,d2,_,d4,d5⟩:=(DevV.ok_iff _).1 hd
 have w0:=farL_le (k:=k) (n:=64) (c:=120) (f:=fun (y:List UInt8) k=>k + (1 * y.length:Nat)) (p:=fun y=>y.length≤120) ⟨d1,d4⟩ (fun y hy k=>⟨by omega,by omega⟩)
 have w1:=farL_le (k:=farL (fun (y:List UInt8) k=>k + (1 * y.length:Nat)) x.S.D.Secs k) (n:=40) (c:=121) (f:=WrV.farE) (p:=fun w=>w.B.length≤120) ⟨d2,fun w hw=>(d5 w hw).2⟩ (fun y hy k=>⟨by simp only [WrV.farE]; omega,by simp only [WrV.farE]; omega⟩)
 simp only [NodeV.farE,ht,TabV.zero,farL,List.length_nil]
 omega
theorem worldNew_far (cs:Int):(worldNew cs).far 1≤2 ^ 40:=by
 cases g:win cs 1 5
 ·rw [worldNew_no g]
  decide
 ·rw [worldNew_yes g]
  have hn:∀ k:Int,(nodeNew cs).farE k≤k + 20000:=fun k=>by
   have hf:=layDev_ok devNew_ok 1 [recPhase 0]
   have e:nodeNew cs=⟨fmt,cs⟩:=by rw [nodeNew,g]; rfl
   rw [e]
   exact node_small (x:=⟨fmt,cs⟩) (by show fmt.D.ok=true; rw [fmt_eq]; exact hf) (by show fmt.T=_; rw [fmt_eq]) k
  have h1:=hn ((leadIn 0).far 1)
  have h2:=hn ((nodeNew cs).farE ((leadIn 0).far 1))
  have h0:(leadIn 0).far 1=7:=rfl
  rw [h0] at h1 h2
  have e:(WorldV.far ⟨leadIn 0,[nodeNew cs,nodeNew cs],[client0 1,client0 2],[],[],[[],[]]⟩ 1)=(nodeNew cs).farE ((nodeNew cs).farE 7) + 22:=by
   simp only [WorldV.far,farL,ClientV.farE,client0,List.length_nil,h0]
   omega
  rw [e]
  omega
abbrev C_i_WorldNew (Te:TE):Prop:=∀ (cs:Int),Te 56 [.one (iT cs)] ⟨[.agg ((worldNew cs).enc true)],[[iT cs]]⟩
abbrev C_s_WorldNew (Te:TE):Prop:=∀ (cs:Int),Te 55 [.one (iT cs)] ⟨[.agg ((worldNew cs).enc true)],[[iT cs]]⟩
theorem WorldV.far_ge {x:WorldV} (h:x.Len) (k:Int):k≤x.far k:=by
 obtain ⟨h0,h1,h2,h3,h4,h5⟩:=h
 have w0:k≤x.L.far k:=by simp only [Lead.far]; omega
 have w1:=farL_mono h1.2 monoNodeS (x.L.far k)
 have w2:=farL_mono h2.2 monoClientS (farL NodeV.farE x.Nodes (x.L.far k))
 have w5:=farL_mono h5.2 monoActSS (farL ClientV.farE x.Clients (farL NodeV.farE x.Nodes (x.L.far k)) + (8 * x.Net.length:Nat) + (6 * x.Log.length:Nat))
 show k≤farL (fun y k=>k + (6 * y.length:Nat)) x.Maybe (farL ClientV.farE x.Clients (farL NodeV.farE x.Nodes (x.L.far k)) + (8 * x.Net.length:Nat) + (6 * x.Log.length:Nat))
 omega
def rowAct (n:NodeV) (r:RowV):ActV:=⟨1,0,0,r.Key,(n.get r.Key).1,(n.get r.Key).2⟩
def nodeActs (n:NodeV):List ActV:=bif n.up then n.S.T.Rows.map (rowAct n) else []
def texts (w:WorldV):List ActV:=w.Nodes.flatMap nodeActs
theorem rows_8 {n:NodeV} (h:n.up=true):n.S.T.Rows.length≤8:=by
 rw [NodeV.up,NodeV.ok,Bool.and_eq_true,Bool.and_eq_true] at h
 have hs:=h.1.1
 rw [StoreV.ok] at hs
 simp only [Bool.and_eq_true] at hs
 have:=hs.1.1.2
 simp only [TabV.ok,Bool.and_eq_true,decide_eq_true_eq] at this
 have:=this.2.1
 omega
theorem nodeActs_len (n:NodeV):(nodeActs n).length≤8:=by
 unfold nodeActs
 cases h:n.up
 ·exact Nat.zero_le _
 ·show (List.map _ _).length≤8
  rw [List.length_map]
  exact rows_8 h
theorem acts_len (l:List NodeV):(l.flatMap nodeActs).length≤8 * l.length:=by
 induction l with
 | nil=>exact Nat.le_refl _
 | cons a l ih =>
  have:=nodeActs_len a
  rw [List.flatMap_cons,List.length_append,List.length_cons]
  omega
theorem texts_len {w:WorldV} (h:w.In 1048576):(texts w).length≤2 ^ 31:=by
 have h1:=acts_len w.Nodes
 have h2:w.Nodes.length≤1048576:=h.2.1.1
 show (w.Nodes.flatMap nodeActs).length≤_
 omega
theorem acts_step {l:List NodeV} {i:Nat} (h:i < l.length):(l.take (i + 1)).flatMap nodeActs=(l.take i).flatMap nodeActs++nodeActs l[i]:=by
 rw [List.take_succ_eq_append_getElem h,List.flatMap_append,List.flatMap_singleton]
theorem app1A (l:List ActV) (x:ActV):List.map ActV.row l++[[iT x.Kind,iT x.Who,iT x.Seq,sT x.Key,sT x.Text,iT x.Code]]=List.map ActV.row (l++[x]):=by rw [List.map_append]; rfl
theorem acts_row {n:NodeV} {k:Nat} (l:List ActV) (h:k < n.S.T.Rows.length):(l++(n.S.T.Rows.take k).map (rowAct n))++[rowAct n n.S.T.Rows[k]]=l++(n.S.T.Rows.take (k + 1)).map (rowAct n):=by
 rw [List.take_succ_eq_append_getElem h,List.map_append,← List.append_assoc]; rfl
abbrev C_i_Texts (Te:TE):Prop:=∀ (w:WorldV) (hw:w.In (2 ^ 20)),Te 49 [.agg (w.enc false)] ⟨[.one (slT true 6 ActV.row (texts w))],[w.enc false]⟩
abbrev C_s_Texts (Te:TE):Prop:=∀ (w:WorldV) (hw:w.In (2 ^ 20)),Te 47 [.agg (w.enc false)] ⟨[.one (slT true 6 ActV.row (texts w))],[w.enc false]⟩
def Cost (c:Int) (F f:Int→Int):Prop:=∀ k j,0≤j→0≤f j→F k + 16 * f j≤k + 16 * j + c
theorem szAll_cons {f:Int→Int} {fs:List (Int→Int)} {j:Int} (h:0≤szAll (f::fs) j):0≤f j∧szAll (f::fs) j=szAll fs (f j):=by
 by_cases q:f j < 0
 ·rw [szAll,if_pos q] at h; omega
 ·exact ⟨by omega,by rw [szAll,if_neg q]⟩
theorem left_pos {a:Int} (h:0≤left a):left a=a∧0≤a:=by
 unfold left at h ⊢
 by_cases q:a < 0
 ·rw [if_pos q] at h; omega
 ·rw [if_neg q]; exact ⟨rfl,by omega⟩
theorem Cost.sl {α:Type} {F:α→Int→Int} {SZ:α→Int→Int} (h:∀ a,Cost 16 (F a) (SZ a)) (l:List α):Cost 0 (farL F l) (szSl SZ l):=by
 have key:∀ (l:List α) (k j:Int),0≤j→0≤szAll (l.map SZ) j→farL F l k + 16 * szAll (l.map SZ) j≤k + 16 * j + 16 * (l.length:Nat):=by
  intro l
  induction l with
  | nil=>intro k j _ _; simp [farL,szAll]
  | cons a l ih =>
   intro k j hj h0
   rw [List.map_cons] at h0 ⊢
   obtain ⟨q1,q2⟩:=szAll_cons h0
   rw [q2] at h0 ⊢
   have e1:=h a k j hj q1
   have e2:=ih (F a k) (SZ a j) q1 h0
   rw [farL,List.length_cons]
   omega
 intro k j hj h0
 obtain ⟨q1,q2⟩:=szAll_cons h0
 have e:=key l k (j - l.length) q1 (by rw [← q2]; exact h0)
 show farL F l k + 16 * szAll ((fun k=>k - (l.length:Int))::l.map SZ) j≤_
 rw [q2]
 have e':farL F l k + 16 * szAll (l.map SZ) (j - l.length)≤k + 16 * (j - l.length) + 16 * (l.length:Nat):=e
 show farL F l k + 16 * szAll (l.map SZ) (j - (l.length:Int))≤_
 omega
theorem cost_flat (w n:Nat) (hw:w≤16):Cost 0 (fun k=>k + (w * n:Nat)) (fun k=>left (k - n)):=by
 intro k j _ h0
 obtain ⟨q1,_⟩:=left_pos h0
 show k + ((w * n:Nat):Int) + 16 * left (j - n)≤_
 rw [q1]
 have:w * n≤16 * n:=Nat.mul_le_mul_right n hw
 omega
theorem cost_row {α:Type} {SZ:α→Int→Int} (hs:∀ a,Sane (SZ a)) (w:Nat) (hw:w≤16) (l:List α):Cost 0 (fun k=>k + (w * l.length:Nat)) (szSl SZ l):=by
 have key:∀ (l:List α) (j:Int),0≤j→0≤szAll (l.map SZ) j→szAll (l.map SZ) j≤j:=by
  intro l
  induction l with
  | nil=>intro j _ _; exact Int.le_refl j
  | cons a l ih =>
   intro j hj h0
   rw [List.map_cons] at h0 ⊢
   obtain ⟨q1,q2⟩:=szAll_cons h0
   rw [q2] at h0 ⊢
   exact Int.le_trans (ih _ q1 h0) (hs a j hj)
 intro k j hj h0
 obtain ⟨q1,q2⟩:=szAll_cons h0
 have e:=key l (j - l.length) q1 (by rw [← q2]; exact h0)
 show k + ((w * l.length:Nat):Int) + 16 * szAll ((fun k=>k - (l.length:Int))::l.map SZ) j≤_
 rw [q2]
 have e':szAll (l.map SZ) (j - (l.length:Int))≤j - (l.length:Int):=e
 have:w * l.length≤16 * l.length:=Nat.mul_le_mul_right l.length hw
 show k + ((w * l.length:Nat):Int) + 16 * szAll (l.map SZ) (j - (l.length:Int))≤_
 omega
theorem cost_wr (x:WrV):Cost 16 (x.farE) (szWr x):=by
 intro k j hj h0
 obtain ⟨q1,q2⟩:=szAll_cons h0
 have e:=cost_flat 1 x.B.length (by decide) (k + 1) j hj q1
 show k + 1 + ((1 * x.B.length:Nat):Int) + 16 * szWr x j≤_
 have e2:szWr x j=left (j - (x.B.length:Nat)):=q2
 rw [e2]
 have e':k + 1 + ((1 * x.B.length:Nat):Int) + 16 * left (j - (x.B.length:Nat))≤k + 1 + 16 * j + 0:=e
 omega
theorem cost_cell (x:CellV) (k j:Int) (hj:0≤j) (h0:0≤szCell x j):k + ((1 * x.B.length:Nat):Int) + 16 * szCell x j≤k + 16 * j:=by
 obtain ⟨q1,q2⟩:=szAll_cons h0
 have e:=cost_flat 1 x.B.length (by decide) k j hj q1
 have e2:szCell x j=left (j - (x.B.length:Nat)):=q2
 rw [e2]
 have e':k + ((1 * x.B.length:Nat):Int) + 16 * left (j - (x.B.length:Nat))≤k + 16 * j + 0:=e
 omega
theorem cost_rowE (x:RowV):Cost 16 (x.farE) (szRow x):=by
 intro k j hj h0
 obtain ⟨q1,q2⟩:=szAll_cons h0
 have h1:0≤szAll [(szCell x.Old),(szCell x.New)] (j - (x.Key.size:Nat)):=by rw [← q2]; exact h0
 obtain ⟨q3,q4⟩:=szAll_cons h1
 have h2:0≤szAll [(szCell x.New)] (szCell x.Old (j - (x.Key.size:Nat))):=by rw [← q4]; exact h1
 obtain ⟨q5,q6⟩:=szAll_cons h2
 have hq:0≤j - (x.Key.size:Nat):=q1
 have e1:=cost_cell x.Old 0 _ hq q3
 have e2:=cost_cell x.New 0 _ q3 q5
 have e3:szRow x j=szCell x.New (szCell x.Old (j - (x.Key.size:Nat))):=q2.trans (q4.trans q6)
 rw [e3]
 simp only [RowV.farE]
 omega
theorem cost_dev (x:DevV) (k j:Int) (hj:0≤j) (h0:0≤szDev x j):farL WrV.farE x.Cache (farL (fun y k=>k + (1 * y.length:Nat)) x.Secs k) + 16 * szDev x j≤k + 16 * j:=by
 obtain ⟨q1,q2⟩:=szAll_cons h0
 have h1:0≤szAll [(szSl szWr x.Cache)] (szSl (fun y k=>left (k - y.length)) x.Secs j):=by rw [← q2]; exact h0
 obtain ⟨q3,q4⟩:=szAll_cons h1
 have c1:=Cost.sl (F:=fun (y:List UInt8) k=>k + (1 * y.length:Nat)) (SZ:=fun (y:List UInt8) k=>left (k - y.length)) (fun y k j hj h=>by have:=cost_flat 1 y.length (by decide) k j hj h; simp only at this ⊢; omega) x.Secs k j hj q1
 have c2:=Cost.sl cost_wr x.Cache (farL (fun y k=>k + (1 * y.length:Nat)) x.Secs k) _ q1 q3
 have e3:szDev x j=szSl szWr x.Cache (szSl (fun y k=>left (k - y.length)) x.Secs j):=q2.trans q4
 rw [e3]
 omega
theorem cost_tab (x:TabV) (k j:Int) (hj:0≤j) (h0:0≤szTab x j):farL RowV.farE x.Rows k + ((3 * x.Marks.length:Nat):Int) + 16 * szTab x j≤k + 16 * j:=by
 obtain ⟨q1,q2⟩:=szAll_cons h0
 have h1:0≤szAll [(fun k=>left (k - (x.Marks.length:Nat)))] (szSl szRow x.Rows j):=by rw [← q2]; exact h0
 obtain ⟨q3,q4⟩:=szAll_cons h1
 have c1:=Cost.sl cost_rowE x.Rows k j hj q1
 have c2:=cost_flat 3 x.Marks.length (by decide) (farL RowV.farE x.Rows k) _ q1 q3
 have e3:szTab x j=left (szSl szRow x.Rows j - (x.Marks.length:Nat)):=q2.trans q4
 rw [e3]
 simp only at c2
 omega
theorem cost_node (x:NodeV):Cost 16 (x.farE) (szNode x):=by
 intro k j hj h0
 obtain ⟨q1,q2⟩:=szAll_cons h0
 obtain ⟨q3,q4⟩:=szAll_cons q1
 have h1:0≤szAll [(szTab x.S.T)] (szDev x.S.D j):=by rw [← q4]; exact q1
 obtain ⟨q5,q6⟩:=szAll_cons h1
 have c1:=cost_dev x.S.D k j hj q3
 have c2:=cost_tab x.S.T (farL WrV.farE x.S.D.Cache (farL (fun y k=>k + (1 * y.length:Nat)) x.S.D.Secs k) + 1 + 1) _ q3 q5
 have e3:szNode x j=szTab x.S.T (szDev x.S.D j):=q2.trans (q4.trans q6)
 rw [e3]
 simp only [NodeV.farE]
 omega
theorem cost_client (x:ClientV):Cost 16 (x.farE) (szClient x):=by
 intro k j hj h0
 obtain ⟨q1,q2⟩:=szAll_cons h0
 have h1:0≤szAll [(szSl szDone x.Dones)] (szMsg x.M j):=by rw [← q2]; exact h0
 obtain ⟨q3,q4⟩:=szAll_cons h1
 have s1:=szMsg_sane x.M j hj
 have c2:=cost_row szDone_sane 5 (by decide) x.Dones (k + 11) _ q1 q3
 have e3:szClient x j=szSl szDone x.Dones (szMsg x.M j):=q2.trans q4
 rw [e3]
 simp only [ClientV.farE] at c2 ⊢
 omega
theorem cost_lead (x:Lead) (k j:Int) (hj:0≤j) (h0:0≤szLead x j):x.far k + 16 * szLead x j≤k + 16 * j:=by
 obtain ⟨q1,q2⟩:=szAll_cons h0
 have h1:0≤szAll [(fun k=>left (k - (x.Ended.length:Nat))),(szSl szStr x.At)] (left (j - (x.Acked.length:Nat))):=by rw [← q2]; exact h0
 obtain ⟨q3,q4⟩:=szAll_cons h1
 have h2:0≤szAll [(szSl szStr x.At)] (left (left (j - (x.Acked.length:Nat)) - (x.Ended.length:Nat))):=by rw [← q4]; exact h1
 obtain ⟨q5,q6⟩:=szAll_cons h2
 have c1:=cost_flat 1 x.Acked.length (by decide) k j hj q1
 have c2:=cost_flat 1 x.Ended.length (by decide) (k + (1 * x.Acked.length:Nat)) _ q1 q3
 have c3:=cost_row szStr_sane 1 (by decide) x.At (k + (1 * x.Acked.length:Nat) + (1 * x.Ended.length:Nat)) _ q3 q5
 have e3:szLead x j=szSl szStr x.At (left (left (j - (x.Acked.length:Nat)) - (x.Ended.length:Nat))):=q2.trans (q4.trans q6)
 rw [e3]
 simp only [Lead.far] at c1 c2 c3 ⊢
 omega
theorem world_far {x:WorldV} {j:Int} (hj:0≤j∧j≤2 ^ 20) (h0:0≤szWorld x j):x.far 1≤2 ^ 40:=by
 obtain ⟨q1,q2⟩:=szAll_cons h0
 have h1:=h0
 rw [show szWorld x j=_ from q2] at h1
 obtain ⟨q3,q4⟩:=szAll_cons h1
 rw [q4] at h1
 obtain ⟨q5,q6⟩:=szAll_cons h1
 rw [q6] at h1
 obtain ⟨q7,q8⟩:=szAll_cons h1
 rw [q8] at h1
 obtain ⟨q9,q10⟩:=szAll_cons h1
 rw [q10] at h1
 obtain ⟨q11,q12⟩:=szAll_cons h1
 have c1:=cost_lead x.L 1 j hj.1 q1
 have c2:=Cost.sl cost_node x.Nodes (x.L.far 1) _ q1 q3
 have c3:=Cost.sl cost_client x.Clients (farL NodeV.farE x.Nodes (x.L.far 1)) _ q3 q5
 have c4:=cost_row szMsg_sane 8 (by decide) x.Net (farL ClientV.farE x.Clients (farL NodeV.farE x.Nodes (x.L.far 1))) _ q5 q7
 have c5:=cost_row szAct_sane 6 (by decide) x.Log (farL ClientV.farE x.Clients (farL NodeV.farE x.Nodes (x.L.far 1)) + (8 * x.Net.length:Nat)) _ q7 q9
 have c6:=Cost.sl (F:=fun (y:List ActV) k=>k + (6 * y.length:Nat)) (SZ:=szSl szAct) (fun y k j hj h=>by have:=cost_row szAct_sane 6 (by decide) y k j hj h; simp only at this ⊢; omega) x.Maybe (farL ClientV.farE x.Clients (farL NodeV.farE x.Nodes (x.L.far 1)) + (8 * x.Net.length:Nat) + (6 * x.Log.length:Nat)) _ q9 q11
 simp only at c4 c5
 show farL (fun y k=>k + (6 * y.length:Nat)) x.Maybe (farL ClientV.farE x.Clients (farL NodeV.farE x.Nodes (x.L.far 1)) + (8 * x.Net.length:Nat) + (6 * x.Log.length:Nat))≤_
 omega
abbrev C_l_FnExactTexts (Te:TE):Prop:=∀ (aW:WorldV) (h_aW:aW.In (2 ^ 48)),Te 7 [.agg (aW.enc false)] ⟨[.one (bT true)],[(aW.enc false)]⟩
abbrev C_l_FnExactWorldNew (Te:TE):Prop:=∀ (aCs:Int),Te 8 [.one (iT aCs)] ⟨[.one (bT true)],[[iT aCs]]⟩
end Go.X

