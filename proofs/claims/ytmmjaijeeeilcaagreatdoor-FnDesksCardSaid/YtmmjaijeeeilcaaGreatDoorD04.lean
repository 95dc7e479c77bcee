/- Texts: CA_d CC_d CF_d CD_d CG_d CK_d CP_d CQ_d CR_d CS_d CT_d CU_d CUa_d CUb_d CUc_d CUd_d CUe_d CUl_d CV_d CVa_d CVb_d CVc_d CEa_d CEb_d CVd_d CVe_d CVf_d CVg_d CVi_d CVj_d CVk_d CVl_d CVla_d CVm_d CVn_d CVo_d CVp_d CVq_d CVr_d CVs_d CVt_d CVu_d CVv_d CVw_d CVx_d CVy_d CVz_d CVza_d CVzb_d CVzc_d CVua_d CVze_d CVzea_d CVzd_d CVzf_d CVzh_d CVzm_d CVzr_d CVzs_d CVzt_d CVzi_d CVzj_d CVzl_d CVzn_d CVzp_d CVzu_d CE_d CW_FnDesks_d. -/
import Derived.Test.YtmmjaijeeeilcaaGreatDoorD02
import Derived.Lib.ValidLaws
set_option linter.unusedVariables false
set_option linter.unusedSimpArgs false
namespace Go.X
set_option maxRecDepth 100000
set_option maxHeartbeats 8000000
abbrev iT (a:Int):T:=.pv (.int .i64 a)
abbrev bT (a:Bool):T:=.pv (.bool a)
abbrev sT (s:ByteArray):T:=.pv (.string s)
abbrev uT (a:UInt8):T:=.pv (.int .u8 a.toNat)
abbrev slT {α:Type} (o:Bool) (z:Nat) (f:α→List T) (l:List α):T:=.sl o z () (l.map f)
abbrev bR (a:Bool):List T:=[bT a]
abbrev sR (a:ByteArray):List T:=[sT a]
abbrev iR (a:Int):List T:=[iT a]
abbrev uR (a:UInt8):List T:=[uT a]
def left (a:Int):Int:=if a < 0 then -1 else a
def Sane (f:Int→Int):Prop:=∀ k,0≤k→f k≤k
def SaneL (fs:List (Int→Int)):Prop:=∀ f∈fs,Sane f
theorem SaneL.nil:SaneL []:=fun _ h=>by cases h
theorem SaneL.cons {f:Int→Int} {fs:List (Int→Int)} (h:Sane f) (t:SaneL fs):SaneL (f::fs):=fun g hg=>by
 rcases List.mem_cons.1 hg with rfl | hg
 ·exact h
 ·exact t _ hg
def szAll:List (Int→Int)→Int→Int
 | [],k=>k
 | f::fs,k=>if f k < 0 then -1 else szAll fs (f k)
theorem Sane.all {fs:List (Int→Int)} (h:SaneL fs):Sane (szAll fs):=by
 induction fs with
 | nil=>intro k hk; exact Int.le_refl _
 | cons f fs ih =>
  intro k hk
  have h1:=h f (List.mem_cons_self ..) k hk
  simp only [szAll]
  split
  ·omega
  ·have:=ih (fun g hg=>h g (List.mem_cons_of_mem _ hg)) (f k) (by omega)
   omega
theorem Sane.sub (n:Nat):Sane (fun k=>k - n):=fun k hk=>by show k - (n:Int)≤k; omega
def szSl {α:Type} (f:α→Int→Int) (l:List α) (k:Int):Int:=szAll ((fun k=>k - l.length)::l.map f) k
theorem Sane.sl {α:Type} {f:α→Int→Int} (hf:∀ a,Sane (f a)) (l:List α):Sane (szSl f l):=by
 refine Sane.all (.cons (.sub _) fun g hg=>?_)
 obtain ⟨a,_,rfl⟩:=List.mem_map.1 hg
 exact hf a
theorem all_step {α:Type} {l:List α} {p:α→Bool} {i:Nat} (hi:i < l.length) (h:(l.take i).all p=true) (h2:p l[i]=true):(l.take (i + 1)).all p=true:=by
 rw [List.take_succ_eq_append_getElem hi,List.all_append,h,List.all_cons,h2]; rfl
theorem all_not {α:Type} {l:List α} {p:α→Bool} {i:Nat} (hi:i < l.length) (h2:p l[i]=false):l.all p=false:=by
 rw [List.all_eq_false]; exact ⟨l[i],List.getElem_mem hi,by simp [h2]⟩
theorem all_end {α:Type} {l:List α} {p:α→Bool} {i:Nat} (hi:l.length≤i) (h:(l.take i).all p=true):l.all p=true:=by
 rwa [List.take_of_length_le hi] at h
def mkU (k:Int):UInt8:=UInt8.ofNat (k % 256).toNat
theorem mkU_wrap (k:Int):IntKind.u8.wrap k=((mkU k).toNat:Int):=by
 have h1:=Int.emod_nonneg k (show (256:Int)≠0 by decide)
 have h2:=Int.emod_lt_of_pos k (show (0:Int) < 256 by decide)
 have h3:(mkU k).toNat=(k % 256).toNat:=by
  rw [mkU,UInt8.toNat_ofNat',Nat.mod_eq_of_lt (by omega)]
 rw [h3,IntKind.wrap_u8]
 omega
structure Msg where
 Kind:Int
 From:Int
 To:Int
 Seq:Int
 Key:ByteArray
 Text:ByteArray
 N:Int
 Code:Int
 deriving DecidableEq
abbrev Msg.row (x:Msg):List Go.X.T:=[iT x.Kind,iT x.From,iT x.To,iT x.Seq,sT x.Key,sT x.Text,iT x.N,iT x.Code]
def Msg.In (n:Nat) (x:Msg):Prop:=x.Key.size≤n∧x.Text.size≤n
theorem Msg.In.mono {x:Msg} {n m:Nat} (h:x.In n) (hn:n≤m):x.In m:=by
 simp only [Msg.In] at h ⊢
 exact ⟨Nat.le_trans h.1 hn,Nat.le_trans h.2 hn⟩
def win (n a b:Int):Bool:=decide (n≥a)&&decide (n≤b)
abbrev C_Ch (Te:TE):Prop:=∀ (n a b:Int),Te 90 [.one (iT n),.one (iT a),.one (iT b)] ⟨[.one (bT (win n a b))],[[iT n],[iT a],[iT b]]⟩
abbrev C_Fo (Te:TE):Prop:=∀ (n a b:Int),Te 120 [.one (iT n),.one (iT a),.one (iT b)] ⟨[.one (bT (win n a b))],[[iT n],[iT a],[iT b]]⟩
abbrev C_C0 (Te:TE):Prop:=∀ (n:Int),Te 247 [.one (iT n)] ⟨[.one (bT (win n 0 65535))],[[iT n]]⟩
abbrev C_Fw (Te:TE):Prop:=∀ (n:Int),Te 161 [.one (iT n)] ⟨[.one (bT (win n 0 65535))],[[iT n]]⟩
def Msg.ok (m:Msg):Bool:=win m.Kind 1 9&&win m.From 0 4&&win m.To 0 4&&(m.From != m.To)&&win m.Seq 0 65535&&decide ((m.Key.size:Int)≤60)&&decide ((m.Text.size:Int)≤60)&&win m.N 0 255&&win m.Code 0 6
abbrev C_Al (Te:TE):Prop:=∀ (m:Msg),Te 159 [.agg m.row] ⟨[.one (bT m.ok)],[m.row]⟩
abbrev C_Dd (Te:TE):Prop:=∀ (m:Msg),Te 63 [.agg m.row] ⟨[.one (bT m.ok)],[m.row]⟩
def walks (p:Int):Bool:=(p==2)||(p==3)||(p==4)||(p==6)
abbrev C_Bh (Te:TE):Prop:=∀ (p:Int),Te 21 [.one (iT p)] ⟨[.one (bT (walks p))],[[iT p]]⟩
abbrev C_Ea (Te:TE):Prop:=∀ (p:Int),Te 115 [.one (iT p)] ⟨[.one (bT (walks p))],[[iT p]]⟩
abbrev bytesR (o:Bool) (l:List UInt8):List T:=[slT o 1 uR l]
theorem toNat_ofInt (a:Nat) (h:a < 2 ^ 62):(BitVec.ofInt 64 (a:Int)).toNat=a:=by
 rw [BitVec.toNat_ofInt]
 omega
theorem xor_nat (a b:Nat) (ha:a < 2 ^ 62) (hb:b < 2 ^ 62):xorK .i64 (a:Int) (b:Int)=((a ^^^ b:Nat):Int):=by
 rw [xorK_def,show IntKind.i64.bits=64 from rfl,BitVec.toNat_xor,toNat_ofInt a ha,toNat_ofInt b hb,IntWalk.i64_in]
 have:=Nat.xor_lt_two_pow ha hb
 omega
theorem or_nat (a b:Nat) (ha:a < 2 ^ 62) (hb:b < 2 ^ 62):orK .i64 (a:Int) (b:Int)=((a ||| b:Nat):Int):=by
 rw [orK_def,show IntKind.i64.bits=64 from rfl,BitVec.toNat_or,toNat_ofInt a ha,toNat_ofInt b hb,IntWalk.i64_in]
 have:=Nat.or_lt_two_pow ha hb
 omega
theorem and_nat (a b:Nat) (ha:a < 2 ^ 62) (hb:b < 2 ^ 62):andK .i64 (a:Int) (b:Int)=((a &&& b:Nat):Int):=by
 rw [andK_def,show IntKind.i64.bits=64 from rfl,BitVec.toNat_and,toNat_ofInt a ha,toNat_ofInt b hb,IntWalk.i64_in]
 have:=Nat.and_lt_two_pow a hb
 omega
theorem min8:Nat.min 8 64=8:=rfl
theorem and255 (a:Int):mkU (andK .i64 a 255)=mkU a:=by
 rw [andK_def]
 show mkU (IntKind.i64.wrap ((BitVec.ofInt 64 a &&& BitVec.ofInt 64 255).toNat))=mkU a
 have e:(BitVec.ofInt 64 a &&& BitVec.ofInt 64 255).toNat=(a % 256).toNat:=by
  rw [BitVec.toNat_and,BitVec.toNat_ofInt,show (BitVec.ofInt 64 255).toNat=2 ^ 8 - 1 by decide,Nat.and_two_pow_sub_one_eq_mod]
  omega
 rw [e,IntWalk.i64_in _ (by omega)]
 simp only [mkU]
 congr 1
 omega
theorem ofBytes_eq (l:List UInt8):ofBytes l=l.map uR:=rfl
def hiB (n:Int):UInt8:=mkU (n.fdiv 256)
def putW (b:List UInt8) (n:Int):List UInt8:=b++[hiB n,mkU n]
def putText (b:List UInt8) (s:ByteArray):List UInt8:=if (s.size:Int) > 60 then b else putW b s.size++s.data.toList
def sumBit (s:Nat):Nat:=if 2 * s > 65535 then 2 * s ^^^ 69665 else 2 * s
def sumBits:Nat→Nat→Nat
 | 0,s=>s
 | n + 1,s=>sumBit (sumBits n s)
def sumByte (s:Nat) (b:UInt8):Nat:=sumBits 8 (s ^^^ (256 * b.toNat))
def sum (l:List UInt8):Nat:=l.foldl sumByte 65535 &&& 65535
theorem sumBit_lt {s:Nat} (h:s < 65536):sumBit s < 65536:=by
 unfold sumBit
 split
 ·rename_i q
  have h1:2 * s < 2 ^ 17:=by omega
  refine Nat.lt_pow_two_of_testBit (n:=16) _ fun i hi=>?_
  rw [Nat.testBit_xor]
  by_cases h16:i=16
  ·subst h16
   have:(2 * s).testBit 16=true:=by
    rw [Nat.testBit_eq_decide_div_mod_eq]
    have:2 * s / 2 ^ 16=1:=by omega
    simp [this]
   rw [this]; decide
  ·rw [Nat.testBit_lt_two_pow (Nat.lt_of_lt_of_le h1 (Nat.pow_le_pow_right (by decide) (by omega))),Nat.testBit_lt_two_pow (Nat.lt_of_lt_of_le (show 69665 < 2 ^ 17 by decide) (Nat.pow_le_pow_right (by decide) (by omega)))]
   rfl
 ·omega
theorem sumBits_lt (n:Nat) {s:Nat} (h:s < 65536):sumBits n s < 65536:=by
 induction n with
 | zero=>exact h
 | succ n ih=>exact sumBit_lt ih
theorem sumX_lt {s:Nat} (b:UInt8) (h:s < 65536):s ^^^ (256 * b.toNat) < 65536:=Nat.xor_lt_two_pow (n:=16) h (by have:=b.toNat_lt; omega)
abbrev C_C1 (Te:TE):Prop:=∀ (ps:List (List UInt8)) (h:ps.flatten.length≤2 ^ 31) (h2:ps.length≤2 ^ 31),Te 100 [.one (slT false 1 (bytesR false) ps)] ⟨[.one (slT true 1 uR ps.flatten)],[[slT false 1 (bytesR false) ps]]⟩
abbrev C_Be (Te:TE):Prop:=∀ (l:List UInt8) (h:l.length≤2 ^ 31),Te 315 [.one (slT false 1 uR l)] ⟨[.one (iT (sum l))],[[slT false 1 uR l]]⟩
abbrev C_E7 (Te:TE):Prop:=∀ (l:List UInt8) (h:l.length≤2 ^ 31),Te 285 [.one (slT false 1 uR l)] ⟨[.one (iT (sum l))],[[slT false 1 uR l]]⟩
abbrev C_B0 (Te:TE):Prop:=∀ (b:List UInt8) (n:Int) (h:b.length≤2 ^ 30),Te 312 [.one (slT false 1 uR b),.one (iT n)] ⟨[.one (slT true 1 uR (putW b n))],[[slT false 1 uR b],[iT n]]⟩
abbrev C_Du (Te:TE):Prop:=∀ (b:List UInt8) (n:Int) (h:b.length≤2 ^ 30),Te 282 [.one (slT false 1 uR b),.one (iT n)] ⟨[.one (slT true 1 uR (putW b n))],[[slT false 1 uR b],[iT n]]⟩
theorem putW_len (b:List UInt8) (n:Int):(putW b n).length=b.length + 2:=by simp only [putW,List.length_append]; rfl
theorem putText_len (b:List UInt8) (t:ByteArray):(putText b t).length≤b.length + 62:=by
 unfold putText
 split
 ·omega
 ·have:t.data.toList.length=t.size:=by rw [Array.length_toList]; rfl
  rw [List.length_append,putW_len]
  omega
theorem flat1 {α:Type} (a:List α):[a].flatten=a:=by rw [List.flatten_cons,List.flatten_nil,List.append_nil]
theorem flat2 {α:Type} (a b:List α):[a,b].flatten=a++b:=by rw [List.flatten_cons,flat1]
abbrev C_Dt (Te:TE):Prop:=∀ (b:List UInt8) (t:ByteArray) (h:b.length≤2 ^ 29) (ht:t.size≤2 ^ 48),Te 284 [.one (slT false 1 uR b),.one (sT t)] ⟨[.one (slT true 1 uR (putText b t))],[[slT false 1 uR b],[sT t]]⟩
abbrev C_Az (Te:TE):Prop:=∀ (b:List UInt8) (t:ByteArray) (h:b.length≤2 ^ 29) (ht:t.size≤2 ^ 48),Te 314 [.one (slT false 1 uR b),.one (sT t)] ⟨[.one (slT true 1 uR (putText b t))],[[slT false 1 uR b],[sT t]]⟩
structure CurV where
 b:List UInt8
 i:Int
 h:Int
abbrev CurV.enc (c:CurV):List Go.X.T:=[slT false 1 uR c.b,iT c.i,iT c.h]
def CurV.ok (c:CurV):Prop:=0≤c.i∧c.i≤c.b.length∧c.b.length≤2 ^ 31
theorem andK_255 (a:Int):0≤andK .i64 a 255∧andK .i64 a 255≤255:=by
 rw [andK_def]
 show 0≤IntKind.i64.wrap ((BitVec.ofInt 64 a &&& BitVec.ofInt 64 255).toNat)∧IntKind.i64.wrap ((BitVec.ofInt 64 a &&& BitVec.ofInt 64 255).toNat)≤255
 have e:(BitVec.ofInt 64 a &&& BitVec.ofInt 64 255).toNat=(a % 256).toNat:=by
  rw [BitVec.toNat_and,BitVec.toNat_ofInt,show (BitVec.ofInt 64 255).toNat=2 ^ 8 - 1 by decide,Nat.and_two_pow_sub_one_eq_mod]
  omega
 rw [e,IntWalk.i64_in _ (by omega)]
 omega
theorem tmod_in {a n:Int} (ha:0≤a) (hn:0 < n):0≤a.tmod n∧a.tmod n < n:=by
 rw [Int.tmod_eq_emod_of_nonneg ha]
 exact ⟨Int.emod_nonneg _ (by omega),Int.emod_lt_of_pos _ hn⟩
abbrev C_Cj (Te:TE):Prop:=∀ (l:List UInt8),Te 9 [.one (slT false 1 uR l)] ⟨[.one (bT (decide ((l.length:Int) > 1048576)))],[[slT false 1 uR l]]⟩
abbrev C_Fr (Te:TE):Prop:=∀ (l:List UInt8) (hl:l.length≤2 ^ 31),∃ (c:CurV),(c.ok)∧Te 58 [.one (slT false 1 uR l)] ⟨[.ptr c.enc],[[slT false 1 uR l]]⟩
abbrev C_Fm (Te:TE):Prop:=∀ (c:CurV) (hc:c.ok),∃ (r:Int) (d:CurV),((0≤r∧r≤255)∧d.ok)∧Te 181 [.ptr c.enc] ⟨[.one (iT r)],[d.enc]⟩
abbrev C_Fk (Te:TE):Prop:=∀ (c:CurV) (n:Int) (hc:c.ok),∃ (r:Int) (d:CurV),((0≤r∧(0 < n→r < n)∧(n≤0→r=0))∧d.ok)∧Te 96 [.ptr c.enc,.one (iT n)] ⟨[.one (iT r)],[d.enc,[iT n]]⟩
abbrev C_Ft (Te:TE):Prop:=∀ (c:CurV) (n:Int) (hc:c.ok),∃ (r:Bool) (d:CurV),(d.ok)∧Te 94 [.ptr c.enc,.one (iT n)] ⟨[.one (bT r)],[d.enc,[iT n]]⟩
abbrev C_Fp (Te:TE):Prop:=∀ (c:CurV) (l:List Int) (hc:c.ok) (hl:0 < l.length∧l.length≤2 ^ 31),∃ (r:Int) (d:CurV),(r∈l∧d.ok)∧Te 70 [.ptr c.enc,.one (slT true 1 iR l)] ⟨[.one (iT r)],[d.enc,[slT true 1 iR l]]⟩
abbrev C_Fu (Te:TE):Prop:=∀ (c:CurV) (l:List ByteArray) (hc:c.ok) (hl:0 < l.length∧l.length≤2 ^ 31),∃ (r:ByteArray) (d:CurV),(r∈l∧d.ok)∧Te 114 [.ptr c.enc,.one (slT true 1 sR l)] ⟨[.one (sT r)],[d.enc,[slT true 1 sR l]]⟩
theorem byte_row (b:List UInt8) (x:Int):List.map uR b++[[Tr.pv (Value.int IntKind.u8 (IntKind.u8.wrap x))]]=List.map uR (b++[mkU x]):=by
 have e:IntKind.u8.wrap x=((mkU x).toNat:Int):=mkU_wrap x
 rw [List.map_append,e]
 rfl
abbrev C_Fn (Te:TE):Prop:=∀ (c:CurV) (n:Int) (hc:c.ok) (hn:n≤2 ^ 20),∃ (l:List UInt8) (d:CurV),((l.length:Int)≤max n 0∧d.ok)∧Te 318 [.ptr c.enc,.one (iT n)] ⟨[.one (slT true 1 uR l)],[d.enc,[iT n]]⟩
def nextOk (a b:Int):Bool:=(win a 0 4&&(b==IntKind.i64.wrap (a + 1)))||(win a 0 3&&(b==6))||((a==6)&&(b==7))
abbrev C_An (Te:TE):Prop:=∀ (a b:Int),Te 112 [.one (iT a),.one (iT b)] ⟨[.one (bT (nextOk a b))],[[iT a],[iT b]]⟩
abbrev C_Df (Te:TE):Prop:=∀ (a b:Int),Te 113 [.one (iT a),.one (iT b)] ⟨[.one (bT (nextOk a b))],[[iT a],[iT b]]⟩
def koiL:List Int:=[1102,1072,1073,1094,1076,1077,1092,1075,1093,1080,1081,1082,1083,1084,1085,1086,1087,1103,1088,1089,1090,1091,1078,1074,1100,1099,1079,1096,1101,1097,1095,1098]
def winL:List Int:=[8364,0,8218,402,8222,8230,8224,8225,710,8240,352,8249,338,0,381,0,0,8216,8217,8220,8221,8226,8211,8212,732,8482,353,8250,339,0,382,376]
def winM:List Int:=[8364,-1,8218,402,8222,8230,8224,8225,710,8240,352,8249,338,-1,381,-1,-1,8216,8217,8220,8221,8226,8211,8212,732,8482,353,8250,339,-1,382,376]
def nine (b:Int):Int:=bif b==164 then 8364 else bif b==166 then 352 else bif b==168 then 353 else bif b==180 then 381 else bif b==184 then 382 else bif b==188 then 338 else bif b==189 then 339 else bif b==190 then 376 else b
def koi (d b:Int):Int:=bif decide (b≥224) then koiL.getD (b - 224).toNat 0 - 32 else bif decide (b≥192) then koiL.getD (b - 192).toNat 0 else bif b==163 then 1105 else bif b==179 then 1025 else d
def winB (l:List Int) (b:Int):Int:=bif decide (b≥160) then b else l.getD (b - 128).toNat 0
theorem koi_in:∀ k:Fin 32,0≤koiL.getD k.val 0∧koiL.getD k.val 0≤65535:=by decide
theorem getD_at {l:List Int} {k:Nat} (hk:k < l.length):l[k]?=some (l.getD k 0):=by rw [List.getD_eq_getElem?_getD,List.getElem?_eq_getElem hk]; rfl
theorem koi_cel {k:Nat} (hk:k < 32):([Cel.pv (Value.int IntKind.i64 1102),Cel.pv (Value.int IntKind.i64 1072),Cel.pv (Value.int IntKind.i64 1073),Cel.pv (Value.int IntKind.i64 1094),Cel.pv (Value.int IntKind.i64 1076),Cel.pv (Value.int IntKind.i64 1077),Cel.pv (Value.int IntKind.i64 1092),Cel.pv (Value.int IntKind.i64 1075),Cel.pv (Value.int IntKind.i64 1093),Cel.pv (Value.int IntKind.i64 1080),Cel.pv (Value.int IntKind.i64 1081),Cel.pv (Value.int IntKind.i64 1082),Cel.pv (Value.int IntKind.i64 1083),Cel.pv (Value.int IntKind.i64 1084),Cel.pv (Value.int IntKind.i64 1085),Cel.pv (Value.int IntKind.i64 1086),Cel.pv (Value.int IntKind.i64 1087),Cel.pv (Value.int IntKind.i64 1103),Cel.pv (Value.int IntKind.i64 1088),Cel.pv (Value.int IntKind.i64 1089),Cel.pv (Value.int IntKind.i64 1090),Cel.pv (Value.int IntKind.i64 1091),Cel.pv (Value.int IntKind.i64 1078),Cel.pv (Value.int IntKind.i64 1074),Cel.pv (Value.int IntKind.i64 1100),Cel.pv (Value.int IntKind.i64 1099),Cel.pv (Value.int IntKind.i64 1079),Cel.pv (Value.int IntKind.i64 1096),Cel.pv (Value.int IntKind.i64 1101),Cel.pv (Value.int IntKind.i64 1097),Cel.pv (Value.int IntKind.i64 1095),Cel.pv (Value.int IntKind.i64 1098)]:List Cel)[k]?=some (Cel.pv (Value.int IntKind.i64 (koiL.getD k 0))):=by
 show (koiL.map fun a=>Cel.pv (Value.int IntKind.i64 a))[k]?=_
 rw [List.getElem?_map,getD_at (l:=koiL) hk]; rfl
theorem win_cel {k:Nat} (hk:k < 32):([Cel.pv (Value.int IntKind.i64 8364),Cel.pv (Value.int IntKind.i64 0),Cel.pv (Value.int IntKind.i64 8218),Cel.pv (Value.int IntKind.i64 402),Cel.pv (Value.int IntKind.i64 8222),Cel.pv (Value.int IntKind.i64 8230),Cel.pv (Value.int IntKind.i64 8224),Cel.pv (Value.int IntKind.i64 8225),Cel.pv (Value.int IntKind.i64 710),Cel.pv (Value.int IntKind.i64 8240),Cel.pv (Value.int IntKind.i64 352),Cel.pv (Value.int IntKind.i64 8249),Cel.pv (Value.int IntKind.i64 338),Cel.pv (Value.int IntKind.i64 0),Cel.pv (Value.int IntKind.i64 381),Cel.pv (Value.int IntKind.i64 0),Cel.pv (Value.int IntKind.i64 0),Cel.pv (Value.int IntKind.i64 8216),Cel.pv (Value.int IntKind.i64 8217),Cel.pv (Value.int IntKind.i64 8220),Cel.pv (Value.int IntKind.i64 8221),Cel.pv (Value.int IntKind.i64 8226),Cel.pv (Value.int IntKind.i64 8211),Cel.pv (Value.int IntKind.i64 8212),Cel.pv (Value.int IntKind.i64 732),Cel.pv (Value.int IntKind.i64 8482),Cel.pv (Value.int IntKind.i64 353),Cel.pv (Value.int IntKind.i64 8250),Cel.pv (Value.int IntKind.i64 339),Cel.pv (Value.int IntKind.i64 0),Cel.pv (Value.int IntKind.i64 382),Cel.pv (Value.int IntKind.i64 376)]:List Cel)[k]?=some (Cel.pv (Value.int IntKind.i64 (winL.getD k 0))):=by
 show (winL.map fun a=>Cel.pv (Value.int IntKind.i64 a))[k]?=_
 rw [List.getElem?_map,getD_at (l:=winL) hk]; rfl
theorem koi_row {k:Nat} (hk:k < 32):([[Tr.pv (Value.int IntKind.i64 1102)],[Tr.pv (Value.int IntKind.i64 1072)],[Tr.pv (Value.int IntKind.i64 1073)],[Tr.pv (Value.int IntKind.i64 1094)],[Tr.pv (Value.int IntKind.i64 1076)],[Tr.pv (Value.int IntKind.i64 1077)],[Tr.pv (Value.int IntKind.i64 1092)],[Tr.pv (Value.int IntKind.i64 1075)],[Tr.pv (Value.int IntKind.i64 1093)],[Tr.pv (Value.int IntKind.i64 1080)],[Tr.pv (Value.int IntKind.i64 1081)],[Tr.pv (Value.int IntKind.i64 1082)],[Tr.pv (Value.int IntKind.i64 1083)],[Tr.pv (Value.int IntKind.i64 1084)],[Tr.pv (Value.int IntKind.i64 1085)],[Tr.pv (Value.int IntKind.i64 1086)],[Tr.pv (Value.int IntKind.i64 1087)],[Tr.pv (Value.int IntKind.i64 1103)],[Tr.pv (Value.int IntKind.i64 1088)],[Tr.pv (Value.int IntKind.i64 1089)],[Tr.pv (Value.int IntKind.i64 1090)],[Tr.pv (Value.int IntKind.i64 1091)],[Tr.pv (Value.int IntKind.i64 1078)],[Tr.pv (Value.int IntKind.i64 1074)],[Tr.pv (Value.int IntKind.i64 1100)],[Tr.pv (Value.int IntKind.i64 1099)],[Tr.pv (Value.int IntKind.i64 1079)],[Tr.pv (Value.int IntKind.i64 1096)],[Tr.pv (Value.int IntKind.i64 1101)],[Tr.pv (Value.int IntKind.i64 1097)],[Tr.pv (Value.int IntKind.i64 1095)],[Tr.pv (Value.int IntKind.i64 1098)]]:List (List T))[k]?=some ([Tr.pv (Value.int IntKind.i64 (koiL.getD k 0))]):=by
 show (koiL.map fun a=>[Tr.pv (Value.int IntKind.i64 a)])[k]?=_
 rw [List.getElem?_map,getD_at (l:=koiL) hk]; rfl
theorem win_row {k:Nat} (hk:k < 32):([[Tr.pv (Value.int IntKind.i64 8364)],[Tr.pv (Value.int IntKind.i64 (-1))],[Tr.pv (Value.int IntKind.i64 8218)],[Tr.pv (Value.int IntKind.i64 402)],[Tr.pv (Value.int IntKind.i64 8222)],[Tr.pv (Value.int IntKind.i64 8230)],[Tr.pv (Value.int IntKind.i64 8224)],[Tr.pv (Value.int IntKind.i64 8225)],[Tr.pv (Value.int IntKind.i64 710)],[Tr.pv (Value.int IntKind.i64 8240)],[Tr.pv (Value.int IntKind.i64 352)],[Tr.pv (Value.int IntKind.i64 8249)],[Tr.pv (Value.int IntKind.i64 338)],[Tr.pv (Value.int IntKind.i64 (-1))],[Tr.pv (Value.int IntKind.i64 381)],[Tr.pv (Value.int IntKind.i64 (-1))],[Tr.pv (Value.int IntKind.i64 (-1))],[Tr.pv (Value.int IntKind.i64 8216)],[Tr.pv (Value.int IntKind.i64 8217)],[Tr.pv (Value.int IntKind.i64 8220)],[Tr.pv (Value.int IntKind.i64 8221)],[Tr.pv (Value.int IntKind.i64 8226)],[Tr.pv (Value.int IntKind.i64 8211)],[Tr.pv (Value.int IntKind.i64 8212)],[Tr.pv (Value.int IntKind.i64 732)],[Tr.pv (Value.int IntKind.i64 8482)],[Tr.pv (Value.int IntKind.i64 353)],[Tr.pv (Value.int IntKind.i64 8250)],[Tr.pv (Value.int IntKind.i64 339)],[Tr.pv (Value.int IntKind.i64 (-1))],[Tr.pv (Value.int IntKind.i64 382)],[Tr.pv (Value.int IntKind.i64 376)]]:List (List T))[k]?=some ([Tr.pv (Value.int IntKind.i64 (winM.getD k 0))]):=by
 show (winM.map fun a=>[Tr.pv (Value.int IntKind.i64 a)])[k]?=_
 rw [List.getElem?_map,getD_at (l:=winM) hk]; rfl
abbrev C_C5 (Te:TE):Prop:=∀ (b:Int),Te 325 [.one (iT b)] ⟨[.one (iT (nine b))],[[iT b]]⟩
abbrev C_G2 (Te:TE):Prop:=∀ (b:Int),Te 331 [.one (iT b)] ⟨[.one (iT (nine b))],[[iT b]]⟩
abbrev C_C2 (Te:TE):Prop:=∀ (b:Int) (hb:128≤b∧b≤255),Te 326 [.one (iT b)] ⟨[.one (iT (koi 0 b))],[[iT b]]⟩
abbrev C_G1 (Te:TE):Prop:=∀ (b:Int) (hb:128≤b∧b≤255),Te 332 [.one (iT b)] ⟨[.one (iT (koi (-1) b))],[[iT b]]⟩
abbrev C_Ce (Te:TE):Prop:=∀ (b:Int) (hb:128≤b∧b≤255),Te 327 [.one (iT b)] ⟨[.one (iT (winB winL b))],[[iT b]]⟩
abbrev C_G3 (Te:TE):Prop:=∀ (b:Int) (hb:128≤b∧b≤255),Te 333 [.one (iT b)] ⟨[.one (iT (winB winM b))],[[iT b]]⟩
def signOf (cs b:Int):Int:=bif cs==2 then nine b else bif cs==3 then koi 0 b else bif cs==4 then winB winL b else b
def byteSign (cs b:Int):Int×Bool:=bif win cs 1 4&&win b 0 255 then (bif decide (b≤127) then (b,true) else (signOf cs b,signOf cs b != 0)) else (0,false)
theorem koi_two:∀ k:Fin 128,koi (-1) ((k.val:Int) + 128)=(bif koi 0 ((k.val:Int) + 128)==0 then -1 else koi 0 ((k.val:Int) + 128))∧0≤koi 0 ((k.val:Int) + 128):=by decide
theorem win_two:∀ k:Fin 128,winB winM ((k.val:Int) + 128)=(bif winB winL ((k.val:Int) + 128)==0 then -1 else winB winL ((k.val:Int) + 128))∧0≤winB winL ((k.val:Int) + 128):=by decide
theorem nine_up:∀ k:Fin 128,0 < nine ((k.val:Int) + 128):=by decide
theorem at128 {p:Int→Prop} (h:∀ k:Fin 128,p ((k.val:Int) + 128)) {b:Int} (hb:128≤b∧b≤255):p b:=by
 have:=h ⟨(b - 128).toNat,by omega⟩
 rwa [show (((b - 128).toNat:Nat):Int) + 128=b by omega] at this
theorem koi_rel {b:Int} (hb:128≤b∧b≤255):koi (-1) b=(bif koi 0 b==0 then -1 else koi 0 b)∧0≤koi 0 b:=at128 (p:=fun b=>koi (-1) b=(bif koi 0 b==0 then -1 else koi 0 b)∧0≤koi 0 b) koi_two hb
theorem win_rel {b:Int} (hb:128≤b∧b≤255):winB winM b=(bif winB winL b==0 then -1 else winB winL b)∧0≤winB winL b:=at128 (p:=fun b=>winB winM b=(bif winB winL b==0 then -1 else winB winL b)∧0≤winB winL b) win_two hb
theorem nine_rel {b:Int} (hb:128≤b∧b≤255):0 < nine b:=at128 (p:=fun b=>0 < nine b) nine_up hb
abbrev C_A4 (Te:TE):Prop:=∀ (cs b:Int),Te 269 [.one (iT cs),.one (iT b)] ⟨[.one (iT (byteSign cs b).1),.one (bT (byteSign cs b).2)],[[iT cs],[iT b]]⟩
abbrev C_Cu (Te:TE):Prop:=∀ (cs b:Int),Te 274 [.one (iT cs),.one (iT b)] ⟨[.one (iT (byteSign cs b).1),.one (bT (byteSign cs b).2)],[[iT cs],[iT b]]⟩
def signOk (n:Int):Bool:=win n 0 1114111 && !win n 55296 57343
def enc8 (n:Nat):List UInt8 :=
 if n≤127 then [UInt8.ofNat n] else if n≤2047 then [UInt8.ofNat (192 + n / 64),UInt8.ofNat (128 + n % 64)]
 else if n≤65535 then [UInt8.ofNat (224 + n / 4096),UInt8.ofNat (128 + n / 64 % 64),UInt8.ofNat (128 + n % 64)]
 else [UInt8.ofNat (240 + n / 262144),UInt8.ofNat (128 + n / 4096 % 64),UInt8.ofNat (128 + n / 64 % 64),UInt8.ofNat (128 + n % 64)]
def putSign (b:List UInt8) (n:Int):List UInt8:=if signOk n=true then b++enc8 n.toNat else b
theorem enc8_len (n:Nat):0 < (enc8 n).length∧(enc8 n).length≤4:=by
 unfold enc8
 split
 ·simp
 ·split
  ·simp
  ·split <;> simp
theorem putSign_len (b:List UInt8) (n:Int):(putSign b n).length≤b.length + 4:=by
 unfold putSign
 split
 ·rw [List.length_append]; have:=(enc8_len n.toNat).2; omega
 ·omega
theorem signOk_in {n:Int} (h:signOk n=true):0≤n∧n≤1114111∧¬ (55296≤n∧n≤57343):=by
 simp only [signOk,win,Bool.and_eq_true,Bool.not_eq_true',decide_eq_true_eq,Bool.and_eq_false_imp,decide_eq_false_iff_not] at h
 omega
theorem or_hd (c i a:Nat) (hc:c=2 ^ i * a) {x:Nat} (hx:x < 2 ^ i) (hb:c < 2 ^ 60∧x < 2 ^ 60):orK .i64 (c:Int) (x:Int)=((c + x:Nat):Int):=by
 rw [or_nat c x (by omega) (by omega),hc,Nat.two_pow_add_eq_or_of_lt hx]
theorem mkU_nat (k:Nat):mkU (k:Int)=UInt8.ofNat k:=by
 have:((k:Int) % 256).toNat=k % 256:=by omega
 rw [mkU,this]
 apply UInt8.toNat_inj.1
 rw [UInt8.toNat_ofNat',UInt8.toNat_ofNat']
 omega
theorem and63 (m:Nat) (hm:m < 2 ^ 60):andK .i64 (m:Int) 63=((m % 64:Nat):Int):=by
 have:=and_nat m 63 (by omega) (by decide)
 rw [Nat.and_two_pow_sub_one_eq_mod m 6] at this
 exact this
theorem fdivN (m k:Nat):(m:Int).fdiv (k:Int)=((m / k:Nat):Int):=by
 rw [Int.fdiv_eq_ediv_of_nonneg _ (by omega)]
 rfl
theorem wrap8 (k:Nat) (h:k < 256):(k:Int)=((UInt8.ofNat k).toNat:Int):=by
 rw [UInt8.toNat_ofNat']
 omega
theorem or8 (c i a:Nat) (hc:c=2 ^ i * a) {x:Nat} (hx:x < 2 ^ i) (hb:c + x < 256):orK .u8 (c:Int) (x:Int)=((UInt8.ofNat (c + x)).toNat:Int):=by
 rw [orK_def]
 show IntKind.u8.wrap ((BitVec.ofInt 8 (c:Int) ||| BitVec.ofInt 8 (x:Int)).toNat)=_
 have h1:(BitVec.ofInt 8 (c:Int)).toNat=c:=by rw [BitVec.toNat_ofInt]; omega
 have h2:(BitVec.ofInt 8 (x:Int)).toNat=x:=by rw [BitVec.toNat_ofInt]; omega
 have h3:c ||| x=c + x:=by rw [hc,← Nat.two_pow_add_eq_or_of_lt hx]
 rw [BitVec.toNat_or,h1,h2,h3,← wrap8 _ hb,IntKind.wrap_u8]
 omega
theorem and8 (m:Nat) (hm:m < 256):andK .u8 (m:Int) 63=((m % 64:Nat):Int):=by
 rw [andK_def]
 show IntKind.u8.wrap ((BitVec.ofInt 8 (m:Int) &&& BitVec.ofInt 8 63).toNat)=_
 have h1:(BitVec.ofInt 8 (m:Int)).toNat=m:=by rw [BitVec.toNat_ofInt]; omega
 have h2:(BitVec.ofInt 8 63).toNat=2 ^ 6 - 1:=by decide
 rw [BitVec.toNat_and,h1,h2,Nat.and_two_pow_sub_one_eq_mod,IntKind.wrap_u8]
 omega
theorem mkU_toNat (k:Nat):(mkU (k:Int)).toNat=k % 256:=by rw [mkU_nat,UInt8.toNat_ofNat']
abbrev C_E3 (Te:TE):Prop:=∀ (n:Int),Te 275 [.one (iT n)] ⟨[.one (bT (signOk n))],[[iT n]]⟩
abbrev C_Ba (Te:TE):Prop:=∀ (n:Int),Te 270 [.one (iT n)] ⟨[.one (bT (signOk n))],[[iT n]]⟩
abbrev C_Ds (Te:TE):Prop:=∀ (b:List UInt8) (n:Int) (hb:b.length≤2 ^ 30),Te 189 [.one (slT false 1 uR b),.one (iT n)] ⟨[.one (slT true 1 uR (putSign b n))],[[slT false 1 uR b],[iT n]]⟩
abbrev C_Gm (Te:TE):Prop:=∀ (b:List UInt8) (m:Nat) (hb:b.length≤2 ^ 30) (hm:127 < m∧m≤1114111∧¬ (55296≤m∧m≤57343)),Te 328 [.one (slT true 1 uR b),.one (.pv (.int .i32 m))] ⟨[.one (slT true 1 uR (b++enc8 m))],[[.no ()],[.pv (.int .i32 m)]]⟩
abbrev C_Gj (Te:TE):Prop:=∀ (b:List UInt8) (m:Nat) (hb:b.length≤2 ^ 30) (hm:m≤1114111∧¬ (55296≤m∧m≤57343)),Te 271 [.one (slT true 1 uR b),.one (.pv (.int .i32 m))] ⟨[.one (slT true 1 uR (b++enc8 m))],[[.no ()],[.pv (.int .i32 m)]]⟩
abbrev C_Ay (Te:TE):Prop:=∀ (b:List UInt8) (n:Int) (hb:b.length≤2 ^ 30),Te 186 [.one (slT false 1 uR b),.one (iT n)] ⟨[.one (slT true 1 uR (putSign b n))],[[slT false 1 uR b],[iT n]]⟩
theorem rngOn_mk {s:List (Nat×SV)} {b:List (Nat×List Cel)} {r:List (Nat×List T)} {tc td p c:Nat}:rngOn ⟨s,b,r⟩ tc td p c=⟨put (put s tc (.tup [.one (.pv (.bool true)),.one (.pv (.int .i64 p)),.one (.pv (.int .i32 c))])) td (.one (.pv (.bool true))),b,r⟩:=rfl
theorem rngOff_mk {s:List (Nat×SV)} {b:List (Nat×List Cel)} {r:List (Nat×List T)} {tc td:Nat}:rngOff ⟨s,b,r⟩ tc td=⟨put (put s tc (.tup [.one (.pv (.bool false))])) td (.one (.pv (.bool false))),b,r⟩:=rfl
theorem rngIn_mk {s:List (Nat×SV)} {b:List (Nat×List Cel)} {r:List (Nat×List T)} {ta tb i:Nat} {x:ByteArray}:rngIn ⟨s,b,r⟩ ta tb i x=⟨put (put s ta (.one (.pv (.string x)))) tb (itV i),b,r⟩:=rfl
def signAt (l:List UInt8):Option (Nat×Nat):=if (Lib.decodeL l).1=65533∧(Lib.decodeL l).2=1 then none else some (Lib.decodeL l)
def getSign (b:List UInt8) (i:Int):Int×Int×Bool:=if 0≤i∧i < b.length then (match signAt (b.drop i.toNat) with | some d=>((d.1:Int),i + (d.2:Nat),true) | none=>(0,0,false)) else (0,0,false)
theorem getSign_no {b:List UInt8} {i:Int} (h:¬ (0≤i∧i < b.length)):getSign b i=(0,0,false):=if_neg h
theorem getSign_bad {b:List UInt8} {i:Int} (h:0≤i∧i < b.length) (hd:signAt (b.drop i.toNat)=none):getSign b i=(0,0,false):=by rw [getSign,if_pos h,hd]
theorem getSign_good {b:List UInt8} {i:Int} {d:Nat×Nat} (h:0≤i∧i < b.length) (hd:signAt (b.drop i.toNat)=some d):getSign b i=((d.1:Int),i + (d.2:Nat),true):=by rw [getSign,if_pos h,hd]
theorem decodeL_bound (l:List UInt8):(Lib.decodeL l).1≤1114111:=by
 have h0:=(l.getD 0 0).toNat_lt
 have h1:=(l.getD 1 0).toNat_lt
 have h2:=(l.getD 2 0).toNat_lt
 have h3:=(l.getD 3 0).toNat_lt
 rw [Lib.decodeL_N]
 unfold Lib.decodeN
 repeat' split
 all_goals (simp only; omega)
theorem drop_map_take {α β:Type} (f:α→β) (l:List α) (k:Nat):List.take (l.length - k) (List.drop k (l.map f))=(l.drop k).map f:=by
 rw [← List.map_drop,List.take_of_length_le (by simp)]
abbrev C_Gk (Te:TE):Prop:=∀ (l:List UInt8) (hl:l≠[]),Te 323 [.one (slT false 1 uR l)] ⟨[.one (.pv (.int .i32 (Lib.decodeL l).1)),.one (iT (Lib.decodeL l).2)],[[slT false 1 uR l]]⟩
abbrev C_Gl (Te:TE):Prop:=∀ (s:ByteArray) (hs:s.size≤2 ^ 48),Te 369 [.one (sT s)] ⟨[.one (bT (Lib.validD s.data.toList))],[[sT s]]⟩
abbrev C_Ag (Te:TE):Prop:=∀ (b:List UInt8) (i:Int) (hb:b.length≤2 ^ 40),Te 267 [.one (slT false 1 uR b),.one (iT i)] ⟨[.one (iT (getSign b i).1),.one (iT (getSign b i).2.1),.one (bT (getSign b i).2.2)],[[slT false 1 uR b],[iT i]]⟩
def signsF:Nat→List UInt8→List Int
 | 0,_=>[]
 | n + 1,l=>if l=[] then [] else ((Lib.decodeL l).1:Int)::signsF n (l.drop (Lib.decodeL l).2)
def signs (l:List UInt8):List Int:=signsF l.length l
theorem signsF_more:∀ (n m:Nat) (l:List UInt8),l.length≤n→l.length≤m→signsF n l=signsF m l
 | 0,0,l,_,_=>rfl
 | 0,m + 1,l,h,_=>by have:l=[]:=List.length_eq_zero_iff.1 (by omega); subst this; simp [signsF]
 | n + 1,0,l,_,h=>by have:l=[]:=List.length_eq_zero_iff.1 (by omega); subst this; simp [signsF]
 | n + 1,m + 1,l,h,h'=>by
  unfold signsF
  by_cases hne:l=[]
  ·simp [hne]
  ·have hw:=Lib.decodeL_width l
   have hl:0 < l.length:=List.length_pos_iff.2 hne
   rw [if_neg hne,if_neg hne,signsF_more n m (l.drop (Lib.decodeL l).2) (by rw [List.length_drop]; omega) (by rw [List.length_drop]; omega)]
theorem signs_nil:signs []=[]:=rfl
theorem signs_step {l:List UInt8} (hne:l≠[]):signs l=((Lib.decodeL l).1:Int)::signs (l.drop (Lib.decodeL l).2):=by
 have hw:=Lib.decodeL_width l
 have hl:0 < l.length:=List.length_pos_iff.2 hne
 obtain ⟨n,hn⟩:∃ n,l.length=n + 1:=⟨l.length - 1,by omega⟩
 unfold signs
 rw [hn]
 show (if l=[] then [] else _)=_
 rw [if_neg hne,signsF_more n (l.drop (Lib.decodeL l).2).length _ (by rw [List.length_drop]; omega) (Nat.le_refl _)]
theorem signs_len:∀ (n:Nat) (l:List UInt8),(signsF n l).length≤n
 | 0,_=>Nat.le_refl _
 | n + 1,l=>by
  unfold signsF
  split
  ·exact Nat.zero_le _
  ·rw [List.length_cons]; exact Nat.succ_le_succ (signs_len n _)
def signsOf (s:ByteArray):List Int×Bool:=if Lib.validD s.data.toList=true then (signs s.data.toList,true) else ([],false)
theorem sizeL (s:ByteArray):s.data.toList.length=s.size:=by rw [Array.length_toList]; rfl
abbrev C_Bc (Te:TE):Prop:=∀ (s:ByteArray) (hs:s.size≤2 ^ 31),Te 350 [.one (sT s)] ⟨[.one (slT true 1 iR (signsOf s).1),.one (bT (signsOf s).2)],[[sT s]]⟩
theorem str_small {l:List ByteArray} {r:ByteArray} (n:Nat) (hr:r∈l) (h:l.all (fun r=>decide (r.size≤n))=true):r.size≤n:=of_decide_eq_true (List.all_eq_true.1 h r hr)
theorem bytesOf_uL (l:List UInt8):bytesOf (l.map uR)=l:=by
 simp only [bytesOf,List.map_map,Function.comp_def,List.headD_cons,byteOf]
 conv=>rhs; rw [← List.map_id l]
 refine List.map_congr_left fun a _=>?_
 simp
theorem areBytes_uL:∀ l:List UInt8,areBytes (l.map uR)=true
 | []=>rfl
 | a::l=>by simp only [List.map_cons,areBytes,isByte,areBytes_uL l,Bool.and_true]
abbrev C_Fq (Te:TE):Prop:=∀ (c:CurV) (hc:c.ok),∃ (r:ByteArray) (d:CurV),(r.size≤6∧d.ok)∧Te 93 [.ptr c.enc] ⟨[.one (sT r)],[d.enc]⟩
abbrev C_Fv (Te:TE):Prop:=∀ (c:CurV) (hc:c.ok),∃ (r:ByteArray) (d:CurV),(r.size≤7∧d.ok)∧Te 95 [.ptr c.enc] ⟨[.one (sT r)],[d.enc]⟩
abbrev C_Fs (Te:TE):Prop:=∀ (c:CurV) (hc:c.ok),∃ (r:Int) (d:CurV),(d.ok)∧Te 244 [.ptr c.enc] ⟨[.one (iT r)],[d.enc]⟩
abbrev C_Fy (Te:TE):Prop:=∀ (c:CurV) (hc:c.ok),∃ (r:Int) (d:CurV),(d.ok)∧Te 287 [.ptr c.enc] ⟨[.one (iT r)],[d.enc]⟩
abbrev C_G8 (Te:TE):Prop:=∀ (c:CurV) (cs:Int) (hc:c.ok),∃ (r:Int) (d:CurV),(d.ok)∧Te 198 [.ptr c.enc,.one (iT cs)] ⟨[.one (iT r)],[d.enc,[iT cs]]⟩
abbrev C_G9 (Te:TE):Prop:=∀ (c:CurV) (cs most:Int) (hc:c.ok) (hm:0≤most∧most≤100),∃ (r:ByteArray) (d:CurV),(r.size≤4 * most.toNat∧d.ok)∧Te 106 [.ptr c.enc,.one (iT cs),.one (iT most)] ⟨[.one (sT r)],[d.enc,[iT cs],[iT most]]⟩
def msgS (m:Msg):Prop:=m.Key.size≤61∧m.Text.size≤61
theorem msgS_In {m:Msg} (h:msgS m) {n:Nat} (hn:61≤n:=by decide):m.In n:=⟨Nat.le_trans h.1 hn,Nat.le_trans h.2 hn⟩
abbrev C_F9 (Te:TE):Prop:=∀ (c:CurV) (hc:c.ok),∃ (m:Msg) (d:CurV),(msgS m∧d.ok)∧Te 156 [.ptr c.enc] ⟨[.agg m.row],[d.enc]⟩
abbrev zeroL (u:Int):List (List T):=lentLL (List.take (60 + u).toNat (List.replicate (60 + u).toNat [Tr.pv (Value.int IntKind.u8 0)]))
theorem zero60 {u:Int} (h:0≤u) (h1:u < 2):(decide ((60 + u).toNat≤(60 + u).toNat)=true∧wholeLL (List.take (60 + u).toNat (List.replicate (60 + u).toNat [(Tr.pv (Value.int IntKind.u8 0):T)]))=true)∧areBytes (zeroL u)=true∧(bytesOf (zeroL u)).length≤61:=by
 rcases (show u=0∨u=1 by omega) with rfl | rfl
 ·exact ⟨⟨rfl,rfl⟩,rfl,by decide⟩
 ·exact ⟨⟨rfl,rfl⟩,rfl,by decide⟩
abbrev C_F8 (Te:TE):Prop:=∀ (c:CurV) (hc:c.ok),∃ (m:Msg) (d:CurV),(msgS m∧d.ok)∧Te 157 [.ptr c.enc] ⟨[.agg m.row],[d.enc]⟩
theorem msg_beq (x y:Msg):(x.Kind==y.Kind&&(x.From==y.From&&(x.To==y.To&&(x.Seq==y.Seq&&(x.Key.toList==y.Key.toList&&(x.Text.toList==y.Text.toList&&(x.N==y.N&&(x.Code==y.Code&&true))))))))=decide (x=y):=by
 have key:(x=y)↔x.Kind=y.Kind∧x.From=y.From∧x.To=y.To∧x.Seq=y.Seq∧x.Key=y.Key∧x.Text=y.Text∧x.N=y.N∧x.Code=y.Code:=by cases x; cases y; simp
 rw [Bool.eq_iff_iff]
 simp only [bytes_beq,Bool.and_eq_true,beq_iff_eq,decide_eq_true_eq,and_true,key]
abbrev C_Cn (Te:TE):Prop:=∀ (x y:List Msg) (hx:x.length≤2 ^ 31),Te 15 [.one (slT false 8 Msg.row x),.one (slT false 8 Msg.row y)] ⟨[.one (bT (decide (x=y)))],[[slT false 8 Msg.row x],[slT false 8 Msg.row y]]⟩
def back (m:Msg) (k:Int):Msg:=⟨k,m.To,m.From,m.Seq,⟨#[]⟩,⟨#[]⟩,0,0⟩
abbrev C_Fc (Te:TE):Prop:=∀ (m:Msg) (k:Int),Te 163 [.agg m.row,.one (iT k)] ⟨[.agg (back m k).row],[m.row,[iT k]]⟩
abbrev C_Fl (Te:TE):Prop:=∀ (c:CurV) (b:List UInt8) (hc:c.ok) (hb:b.length≤2 ^ 20),∃ (r:List UInt8) (d:CurV),(r.length≤b.length∧d.ok)∧Te 183 [.ptr c.enc,.one (slT true 1 uR b)] ⟨[.one (slT true 1 uR r)],[d.enc,[slT true 1 uR b]]⟩
def l2len (b:Nat):Nat:=if b < 128 then 1 else if 194≤b∧b≤223 then 2 else if 224≤b∧b≤239 then 3 else if 240≤b∧b≤244 then 4 else 0
def byteN (l:List UInt8) (k:Nat):Nat:=(l.getD k 0).toNat
theorem byteN_lt (l:List UInt8) (k:Nat):byteN l k < 256:=(l.getD k 0).toNat_lt
def accN (l:List UInt8) (m:Nat):Nat→Nat
 | 0=>m
 | j + 1=>accN l m j * 64 + byteN l (j + 1) % 64
theorem decodeL_B (l:List UInt8):Lib.decodeL l=Lib.decodeN l.length (byteN l 0) (byteN l 1) (byteN l 2) (byteN l 3):=Lib.decodeL_N l
theorem sign_none {l:List UInt8} (h:Lib.decodeN l.length (byteN l 0) (byteN l 1) (byteN l 2) (byteN l 3)=(65533,1)):signAt l=none:=by
 unfold signAt
 rw [decodeL_B,h]
 exact if_pos ⟨rfl,rfl⟩
theorem sign_some {l:List UInt8} {n k:Nat} (h:Lib.decodeN l.length (byteN l 0) (byteN l 1) (byteN l 2) (byteN l 3)=(n,k)) (hk:k≠1∨n < 128):signAt l=some (n,k):=by
 unfold signAt
 rw [decodeL_B,h]
 exact if_neg (by simp only; omega)
theorem sign0 {l:List UInt8} (h:l2len (byteN l 0)=0∨l.length < l2len (byteN l 0)) (hl:0 < l.length):signAt l=none:=by
 have h0:=byteN_lt l 0
 refine sign_none ?_
 unfold l2len at h
 unfold Lib.decodeN
 repeat' split at h
 all_goals (repeat' split)
 all_goals first | rfl | (exfalso; omega)
theorem sign1 {l:List UInt8} (hl:0 < l.length) (h:byteN l 0 < 128):signAt l=some (byteN l 0,1):=by
 refine sign_some ?_ (.inr h)
 unfold Lib.decodeN
 rw [if_pos h]
theorem sign2 {l:List UInt8} (hl:2≤l.length) (h:194≤byteN l 0∧byteN l 0≤223):signAt l=if byteN l 1 / 64=2 then some (byteN l 0 % 32 * 64 + byteN l 1 % 64,2) else none:=by
 have h1:=byteN_lt l 1
 split
 ·refine sign_some ?_ (.inl (by decide))
  unfold Lib.decodeN
  repeat' split
  all_goals first | rfl | (exfalso; omega)
 ·refine sign_none ?_
  unfold Lib.decodeN
  repeat' split
  all_goals first | rfl | (exfalso; omega)
theorem sign3 {l:List UInt8} (hl:3≤l.length) (h:224≤byteN l 0∧byteN l 0≤239):signAt l=if byteN l 1 / 64=2∧byteN l 2 / 64=2∧2048≤byteN l 0 % 16 * 4096 + byteN l 1 % 64 * 64 + byteN l 2 % 64∧¬ (55296≤byteN l 0 % 16 * 4096 + byteN l 1 % 64 * 64 + byteN l 2 % 64∧byteN l 0 % 16 * 4096 + byteN l 1 % 64 * 64 + byteN l 2 % 64≤57343) then some (byteN l 0 % 16 * 4096 + byteN l 1 % 64 * 64 + byteN l 2 % 64,3) else none:=by
 have h1:=byteN_lt l 1
 have h2:=byteN_lt l 2
 split
 ·refine sign_some ?_ (.inl (by decide))
  unfold Lib.decodeN
  repeat' split
  all_goals first | rfl | (exfalso; omega)
 ·refine sign_none ?_
  unfold Lib.decodeN
  repeat' split
  all_goals first | rfl | (exfalso; omega)
theorem sign4 {l:List UInt8} (hl:4≤l.length) (h:240≤byteN l 0∧byteN l 0≤244):signAt l=if byteN l 1 / 64=2∧byteN l 2 / 64=2∧byteN l 3 / 64=2∧65536≤byteN l 0 % 8 * 262144 + byteN l 1 % 64 * 4096 + byteN l 2 % 64 * 64 + byteN l 3 % 64∧byteN l 0 % 8 * 262144 + byteN l 1 % 64 * 4096 + byteN l 2 % 64 * 64 + byteN l 3 % 64≤1114111 then some (byteN l 0 % 8 * 262144 + byteN l 1 % 64 * 4096 + byteN l 2 % 64 * 64 + byteN l 3 % 64,4) else none:=by
 have h1:=byteN_lt l 1
 have h2:=byteN_lt l 2
 have h3:=byteN_lt l 3
 split
 ·refine sign_some ?_ (.inl (by decide))
  unfold Lib.decodeN
  repeat' split
  all_goals first | rfl | (exfalso; omega)
 ·refine sign_none ?_
  unfold Lib.decodeN
  repeat' split
  all_goals first | rfl | (exfalso; omega)
theorem ofNat_eq {n:Nat} {b:UInt8} (h:n=b.toNat):UInt8.ofNat n=b:=by subst h; exact UInt8.ofNat_toNat
theorem four {l:List UInt8} (h:4≤l.length):∃ a b c d u,l=a::b::c::d::u:=by
 match l,h with
 | a::b::c::d::u,_=>exact ⟨a,b,c,d,u,rfl⟩
theorem enc_take {l:List UInt8} {n k:Nat} (hk:k≤l.length) (h:signAt l=some (n,k)):enc8 n=l.take k∧signOk n=true:=by
 unfold signAt at h
 split at h
 ·cases h
 ·rename_i hv
  simp only [Option.some.injEq] at h
  rw [decodeL_B] at h hv
  have b0:=byteN_lt l 0
  have b1:=byteN_lt l 1
  have b2:=byteN_lt l 2
  have b3:=byteN_lt l 3
  have hok:∀ n:Nat,n≤1114111→¬ (55296≤n∧n≤57343)→signOk (n:Int)=true:=fun n h1 h2=>by
   have e1:win (n:Int) 0 1114111=true:=by simp only [win,Bool.and_eq_true,decide_eq_true_eq]; omega
   have e2:win (n:Int) 55296 57343=false:=by
    simp only [win,Bool.and_eq_false_iff,decide_eq_false_iff_not]
    omega
   simp only [signOk,e1,e2,Bool.not_false,Bool.and_true]
  unfold Lib.decodeN at h hv
  split at h
  ·rename_i c0
   cases h
   refine ⟨?_,hok _ (by omega) (by omega)⟩
   match l,hk with
   | a::t,_ =>
    have c0':a.toNat < 128:=c0
    simp only [enc8,byteN,List.getD_cons_zero]
    rw [if_pos (by omega)]
    simp only [List.take_succ_cons,List.take_zero]
    rw [ofNat_eq rfl]
  ·rename_i c0
   rw [if_neg c0] at hv
   split at h
   ·rename_i c1
    rw [if_pos c1] at hv
    split at h
    ·rename_i c2
     cases h
     refine ⟨?_,hok _ (by omega) (by omega)⟩
     match l,hk with
     | a::b::t,_ =>
      simp only [byteN,List.getD_cons_zero,List.getD_cons_succ] at c0 c1 c2 b0 b1 ⊢
      simp only [enc8]
      rw [if_neg (by omega),if_pos (by omega),ofNat_eq (b:=a) (by omega),ofNat_eq (b:=b) (by omega)]
      rfl
    ·rename_i c2
     rw [if_neg c2] at hv
     exact absurd ⟨rfl,rfl⟩ hv
   ·rename_i c1
    rw [if_neg c1] at hv
    split at h
    ·rename_i c3
     rw [if_pos c3] at hv
     split at h
     ·rename_i c4
      cases h
      refine ⟨?_,hok _ (by omega) (by omega)⟩
      match l,hk with
      | a::b::c::t,_ =>
       simp only [byteN,List.getD_cons_zero,List.getD_cons_succ] at c0 c1 c3 c4 b0 b1 b2 ⊢
       simp only [enc8]
       rw [if_neg (by omega),if_neg (by omega),if_pos (by omega),ofNat_eq (b:=a) (by omega),ofNat_eq (b:=b) (by omega),ofNat_eq (b:=c) (by omega)]
       rfl
     ·rename_i c4
      rw [if_neg c4] at hv
      exact absurd ⟨rfl,rfl⟩ hv
    ·rename_i c3
     rw [if_neg c3] at hv
     split at h
     ·rename_i c5
      rw [if_pos c5] at hv
      split at h
      ·rename_i c6
       have e1:=congrArg Prod.fst h
       have e2:=congrArg Prod.snd h
       simp only at e1 e2
       subst e2
       subst e1
       refine ⟨?_,hok _ (by omega) (by omega)⟩
       obtain ⟨a,b,c,d,u,rfl⟩:∃ a b c d u,l=a::b::c::d::u:=four hk
       clear hv h hk hok
       simp only [byteN,List.getD_cons_zero,List.getD_cons_succ] at c0 c1 c3 c5 c6 b0 b1 b2 b3 ⊢
       simp only [enc8]
       rw [if_neg (by omega),if_neg (by omega),if_neg (by omega),ofNat_eq (b:=a) (by omega),ofNat_eq (b:=b) (by omega),ofNat_eq (b:=c) (by omega),ofNat_eq (b:=d) (by omega)]
       rfl
      ·rename_i c6
       rw [if_neg c6] at hv
       exact absurd ⟨rfl,rfl⟩ hv
     ·rename_i c5
      rw [if_neg c5] at hv
      exact absurd ⟨rfl,rfl⟩ hv
abbrev C_Fx (Te:TE):Prop:=∀ (b:UInt8),Te 329 [.one (uT b)] ⟨[.one (iT (l2len b.toNat))],[[uT b]]⟩
def contB (l:List UInt8):Nat→Bool
 | 0=>true
 | j + 1=>contB l j&&(byteN l (j + 1) / 64==2)
theorem and192_all:∀ m:Fin 256,(m.val &&& 192==128)=(m.val / 64==2):=by decide
theorem and192 (m:Nat) (hm:m < 256):(andK .u8 (m:Int) 192 != 128) = !(m / 64==2):=by
 have h1:(BitVec.ofInt 8 (m:Int)).toNat=m:=by rw [BitVec.toNat_ofInt]; omega
 have h2:(BitVec.ofInt 8 192).toNat=192:=by decide
 have h3:=and192_all ⟨m,hm⟩
 simp only at h3
 have h4:m &&& 192 < 256:=Nat.lt_of_le_of_lt Nat.and_le_right (by decide)
 rw [andK_def,show IntKind.u8.bits=8 from rfl,BitVec.toNat_and,h1,h2,IntKind.wrap_u8,← h3,bne]
 congr 1
 rw [Bool.eq_iff_iff,beq_iff_eq,beq_iff_eq]
 omega
theorem or_acc (a x:Nat) (ha:a < 2 ^ 40) (hx:x < 64):orK .i64 ((a * 64:Nat):Int) (x:Int)=((a * 64 + x:Nat):Int):=by
 rw [or_nat _ _ (by omega) (by omega),Nat.mul_comm a 64,show 64 * a=2 ^ 6 * a from rfl,Nat.two_pow_add_eq_or_of_lt (i:=6) (by omega)]
theorem accN_lt (l:List UInt8) {m:Nat} (hm:m < 256):∀ j,accN l m j < 256 * 64 ^ j
 | 0=>by simpa [accN] using hm
 | j + 1=>by
  have:=accN_lt l hm j
  simp only [accN]
  rw [Nat.pow_succ]
  omega
theorem accN_small (l:List UInt8) {m j:Nat} (hm:m < 256) (hj:j≤3):accN l m j < 2 ^ 28:=by
 have h:=accN_lt l hm j
 have:64 ^ j≤64 ^ 3:=Nat.pow_le_pow_right (by decide) hj
 omega
theorem bytesOf_uR (l:List UInt8):bytesOf (l.map uR)=l:=by
 simp only [bytesOf,List.map_map,Function.comp_def,List.headD_cons,byteOf]
 conv=>rhs; rw [← List.map_id l]
 refine List.map_congr_left fun a _=>?_
 simp
theorem areBytes_uR:∀ l:List UInt8,areBytes (l.map uR)=true
 | []=>rfl
 | a::l=>by simp only [List.map_cons,areBytes,isByte,areBytes_uR l,Bool.and_true]
def signTail (l:List UInt8) (i:Int) (K m:Nat):Int×Int×Bool:=if (contB l (K - 1)&&signOk (accN l m (K - 1):Nat)&&decide (enc8 (accN l m (K - 1))=l.take K))=true then (((accN l m (K - 1):Nat):Int),i + (K:Nat),true) else (0,0,false)
theorem tail_no {l:List UInt8} {i:Int} {K m:Nat} (h:(contB l (K - 1)&&signOk (accN l m (K - 1):Nat)&&decide (enc8 (accN l m (K - 1))=l.take K))=false):signTail l i K m=(0,0,false):=if_neg (by rw [h]; decide)
theorem contB_down (l : List UInt8) : ∀ {j k : Nat}, j ≤ k → contB l j = false → contB l k = false
  | j, 0, h, e => by have : j = 0 := by omega
                     subst this; exact e
  | j, k + 1, h, e => by
    by_cases q : j = k + 1
    · subst q; exact e
    · simp only [contB, contB_down l (show j ≤ k by omega) e, Bool.false_and]
theorem tail_some {l:List UInt8} {i:Int} {K m n:Nat} (hl:K≤l.length) (h:signAt l=some (n,K)) (hc:contB l (K - 1)=true) (ha:accN l m (K - 1)=n):signTail l i K m=((n:Int),i + (K:Nat),true):=by
 obtain ⟨h1,h2⟩:=enc_take hl h
 unfold signTail
 rw [ha,if_pos (by rw [hc,h2,decide_eq_true h1]; rfl)]
theorem signOk_no {n:Nat} (h:n > 1114111∨(55296≤n∧n≤57343)):signOk (n:Int)=false:=by
 cases g:signOk (n:Int)
 ·rfl
 ·obtain ⟨h0,h1,h2⟩:=signOk_in g
  omega
theorem enc8_short {n K:Nat} (h:n < 2048∧3≤K∨n < 65536∧4≤K) {l:List UInt8} (hl:K≤l.length):decide (enc8 n=l.take K)=false:=by
 refine decide_eq_false fun e=>?_
 have e2:=congrArg List.length e
 rw [List.length_take,Nat.min_eq_left hl] at e2
 unfold enc8 at e2
 revert e2
 repeat' split
 all_goals simp only [List.length_cons,List.length_nil]
 all_goals omega
def getTail (l:List UInt8) (i:Int):Int×Int×Bool:=match signAt l with | some d=>((d.1:Int),i + (d.2:Nat),true) | none=>(0,0,false)
theorem getTail_some {l:List UInt8} {i:Int} {d:Nat×Nat} (h:signAt l=some d):getTail l i=((d.1:Int),i + (d.2:Nat),true):=by rw [getTail,h]
theorem getTail_none {l:List UInt8} {i:Int} (h:signAt l=none):getTail l i=(0,0,false):=by rw [getTail,h]
theorem tail1 {l:List UInt8} (i:Int) (hl:1≤l.length) (h:byteN l 0 < 128):getTail l i=signTail l i 1 (byteN l 0):=by
 have hs:=sign1 (by omega) h
 exact (getTail_some hs).trans (tail_some hl hs rfl rfl).symm
theorem tail2 {l:List UInt8} (i:Int) (hl:2≤l.length) (h:194≤byteN l 0∧byteN l 0≤223):getTail l i=signTail l i 2 (byteN l 0 % 32):=by
 have hs:=sign2 hl h
 by_cases c:byteN l 1 / 64=2
 ·rw [if_pos c] at hs
  exact (getTail_some hs).trans (tail_some hl hs (by simp only [contB,c]; rfl) rfl).symm
 ·rw [if_neg c] at hs
  rw [getTail_none hs,tail_no]
  simp only [contB,beq_eq_false_iff_ne.2 c,Bool.and_false,Bool.false_and]
theorem tail3 {l:List UInt8} (i:Int) (hl:3≤l.length) (h:224≤byteN l 0∧byteN l 0≤239):getTail l i=signTail l i 3 (byteN l 0 % 16):=by
 have hs:=sign3 hl h
 have ea:accN l (byteN l 0 % 16) 2=byteN l 0 % 16 * 4096 + byteN l 1 % 64 * 64 + byteN l 2 % 64:=by
  show (byteN l 0 % 16 * 64 + byteN l 1 % 64) * 64 + byteN l 2 % 64=_
  omega
 generalize hn:byteN l 0 % 16 * 4096 + byteN l 1 % 64 * 64 + byteN l 2 % 64=n at hs ea
 by_cases c1:byteN l 1 / 64=2
 ·by_cases c2:byteN l 2 / 64=2
  ·have hc:contB l 2=true:=by simp only [contB,c1,c2]; rfl
   by_cases c3:2048≤n∧¬ (55296≤n∧n≤57343)
   ·rw [if_pos ⟨c1,c2,c3⟩] at hs
    exact (getTail_some hs).trans (tail_some hl hs hc ea).symm
   ·rw [if_neg (fun q=>c3 q.2.2)] at hs
    rw [getTail_none hs,tail_no]
    show (contB l 2&&signOk (accN l (byteN l 0 % 16) 2:Nat)&&decide (enc8 (accN l (byteN l 0 % 16) 2)=l.take 3))=false
    rw [ea]
    by_cases c4:n < 2048
    ·rw [enc8_short (.inl ⟨c4,by decide⟩) hl,Bool.and_false]
    ·rw [signOk_no (.inr (by omega)),Bool.and_false,Bool.false_and]
  ·rw [if_neg (fun q=>c2 q.2.1)] at hs
   rw [getTail_none hs,tail_no]
   simp only [contB,beq_eq_false_iff_ne.2 c2,Bool.and_false,Bool.false_and]
 ·rw [if_neg (fun q=>c1 q.1)] at hs
  rw [getTail_none hs,tail_no]
  simp only [contB,beq_eq_false_iff_ne.2 c1,Bool.and_false,Bool.false_and]
theorem tail4 {l:List UInt8} (i:Int) (hl:4≤l.length) (h:240≤byteN l 0∧byteN l 0≤244):getTail l i=signTail l i 4 (byteN l 0 % 8):=by
 have hs:=sign4 hl h
 have ea:accN l (byteN l 0 % 8) 3=byteN l 0 % 8 * 262144 + byteN l 1 % 64 * 4096 + byteN l 2 % 64 * 64 + byteN l 3 % 64:=by
  show ((byteN l 0 % 8 * 64 + byteN l 1 % 64) * 64 + byteN l 2 % 64) * 64 + byteN l 3 % 64=_
  omega
 generalize hn:byteN l 0 % 8 * 262144 + byteN l 1 % 64 * 4096 + byteN l 2 % 64 * 64 + byteN l 3 % 64=n at hs ea
 by_cases c1:byteN l 1 / 64=2
 ·by_cases c2:byteN l 2 / 64=2
  ·by_cases c3:byteN l 3 / 64=2
   ·have hc:contB l 3=true:=by simp only [contB,c1,c2,c3]; rfl
    by_cases c4:65536≤n∧n≤1114111
    ·rw [if_pos ⟨c1,c2,c3,c4⟩] at hs
     exact (getTail_some hs).trans (tail_some hl hs hc ea).symm
    ·rw [if_neg (fun q=>c4 q.2.2.2)] at hs
     rw [getTail_none hs,tail_no]
     show (contB l 3&&signOk (accN l (byteN l 0 % 8) 3:Nat)&&decide (enc8 (accN l (byteN l 0 % 8) 3)=l.take 4))=false
     rw [ea]
     by_cases c5:n < 65536
     ·rw [enc8_short (.inr ⟨c5,by decide⟩) hl,Bool.and_false]
     ·rw [signOk_no (.inl (by omega)),Bool.and_false,Bool.false_and]
   ·rw [if_neg (fun q=>c3 q.2.2.1)] at hs
    rw [getTail_none hs,tail_no]
    simp only [contB,beq_eq_false_iff_ne.2 c3,Bool.and_false,Bool.false_and]
  ·rw [if_neg (fun q=>c2 q.2.1)] at hs
   rw [getTail_none hs,tail_no]
   simp only [contB,beq_eq_false_iff_ne.2 c2,Bool.and_false,Bool.false_and]
 ·rw [if_neg (fun q=>c1 q.1)] at hs
  rw [getTail_none hs,tail_no]
  simp only [contB,beq_eq_false_iff_ne.2 c1,Bool.and_false,Bool.false_and]
theorem and_mask (m j:Nat) (hm:m < 256) (hj:j≤8):andK .i64 (m:Int) ((2 ^ j - 1:Nat):Int)=((m % 2 ^ j:Nat):Int):=by
 have:2 ^ j≤2 ^ 8:=Nat.pow_le_pow_right (by decide) hj
 rw [and_nat _ _ (by omega) (by omega),Nat.and_two_pow_sub_one_eq_mod]
theorem l2len_in (x:Nat) (h:l2len x≠0):(l2len x=1∧x < 128)∨(l2len x=2∧194≤x∧x≤223)∨(l2len x=3∧224≤x∧x≤239)∨(l2len x=4∧240≤x∧x≤244):=by
 by_cases h1:x < 128
 ·exact .inl ⟨if_pos h1,h1⟩
 by_cases h2:194≤x∧x≤223
 ·exact .inr (.inl ⟨by rw [l2len,if_neg h1,if_pos h2],h2⟩)
 by_cases h3:224≤x∧x≤239
 ·exact .inr (.inr (.inl ⟨by rw [l2len,if_neg h1,if_neg h2,if_pos h3],h3⟩))
 by_cases h4:240≤x∧x≤244
 ·exact .inr (.inr (.inr ⟨by rw [l2len,if_neg h1,if_neg h2,if_neg h3,if_pos h4],h4⟩))
 exact absurd (by rw [l2len,if_neg h1,if_neg h2,if_neg h3,if_neg h4]) h
abbrev C_D9 (Te:TE):Prop:=∀ (b:List UInt8) (i:Int) (hb:b.length≤2 ^ 30),Te 272 [.one (slT false 1 uR b),.one (iT i)] ⟨[.one (iT (getSign b i).1),.one (iT (getSign b i).2.1),.one (bT (getSign b i).2.2)],[[slT false 1 uR b],[iT i]]⟩
def pairSign (hi lo:Int):Int×Bool:=if (hi==164&&win lo 161 243)=true then (12353 + lo - 161,true) else if (hi==165&&win lo 161 246)=true then (12449 + lo - 161,true) else (0,false)
def eucSign (b:List UInt8) (i:Int):Int×Int×Bool :=
 if 0≤i∧i < b.length then
  (if byteN (b.drop i.toNat) 0 < 128 then (((byteN (b.drop i.toNat) 0:Nat):Int),i + 1,true)
  else if i + 1 < b.length∧(pairSign (byteN (b.drop i.toNat) 0:Nat) (byteN (b.drop i.toNat) 1:Nat)).2=true then ((pairSign (byteN (b.drop i.toNat) 0:Nat) (byteN (b.drop i.toNat) 1:Nat)).1,i + 2,true) else (0,0,false))
 else (0,0,false)
theorem euc_no {b:List UInt8} {i:Int} (h:¬ (0≤i∧i < b.length)):eucSign b i=(0,0,false):=if_neg h
theorem euc_one {b:List UInt8} {i:Int} (h:0≤i∧i < b.length) (h1:byteN (b.drop i.toNat) 0 < 128):eucSign b i=(((byteN (b.drop i.toNat) 0:Nat):Int),i + 1,true):=by rw [eucSign,if_pos h,if_pos h1]
theorem euc_end {b:List UInt8} {i:Int} (h:0≤i∧i < b.length) (h1:¬ byteN (b.drop i.toNat) 0 < 128) (h2:¬ i + 1 < b.length):eucSign b i=(0,0,false):=by rw [eucSign,if_pos h,if_neg h1,if_neg (fun q=>h2 q.1)]
theorem euc_bad {b:List UInt8} {i:Int} (h:0≤i∧i < b.length) (h1:¬ byteN (b.drop i.toNat) 0 < 128) (h2:(pairSign (byteN (b.drop i.toNat) 0:Nat) (byteN (b.drop i.toNat) 1:Nat)).2=false):eucSign b i=(0,0,false):=by rw [eucSign,if_pos h,if_neg h1,if_neg (fun q=>by rw [h2] at q; cases q.2)]
theorem euc_two {b:List UInt8} {i:Int} (h:0≤i∧i < b.length) (h1:¬ byteN (b.drop i.toNat) 0 < 128) (h3:i + 1 < b.length) (h2:(pairSign (byteN (b.drop i.toNat) 0:Nat) (byteN (b.drop i.toNat) 1:Nat)).2=true):eucSign b i=((pairSign (byteN (b.drop i.toNat) 0:Nat) (byteN (b.drop i.toNat) 1:Nat)).1,i + 2,true):=by rw [eucSign,if_pos h,if_neg h1,if_pos ⟨h3,h2⟩]
theorem byteN_drop {b:List UInt8} {k j:Nat} (h:k + j < b.length):b[k + j].toNat=byteN (b.drop k) j:=by
 simp only [byteN,List.getD_eq_getElem?_getD,List.getElem?_drop]
 rw [List.getElem?_eq_getElem h]
 rfl
abbrev C_Au (Te:TE):Prop:=∀ (hi lo:Int) (h:0≤lo∧lo≤255),Te 324 [.one (iT hi),.one (iT lo)] ⟨[.one (iT (pairSign hi lo).1),.one (bT (pairSign hi lo).2)],[[iT hi],[iT lo]]⟩
abbrev C_Do (Te:TE):Prop:=∀ (hi lo:Int) (h:0≤lo∧lo≤255),Te 330 [.one (iT hi),.one (iT lo)] ⟨[.one (iT (pairSign hi lo).1),.one (bT (pairSign hi lo).2)],[[iT hi],[iT lo]]⟩
abbrev C_Ad (Te:TE):Prop:=∀ (b:List UInt8) (i:Int) (hb:b.length≤2 ^ 30),Te 268 [.one (slT false 1 uR b),.one (iT i)] ⟨[.one (iT (eucSign b i).1),.one (iT (eucSign b i).2.1),.one (bT (eucSign b i).2.2)],[[slT false 1 uR b],[iT i]]⟩
abbrev C_D6 (Te:TE):Prop:=∀ (b:List UInt8) (i:Int) (hb:b.length≤2 ^ 30),Te 273 [.one (slT false 1 uR b),.one (iT i)] ⟨[.one (iT (eucSign b i).1),.one (iT (eucSign b i).2.1),.one (bT (eucSign b i).2.2)],[[slT false 1 uR b],[iT i]]⟩
def signIn (cs:Int) (b:List UInt8) (i:Int):Int×Int×Bool:=if cs=0 then getSign b i else if cs=5 then eucSign b i else ((byteSign cs (byteN b i.toNat:Nat)).1,i + 1,(byteSign cs (byteN b i.toNat:Nat)).2)
theorem getSign_next {b:List UInt8} {i:Int} (h:(getSign b i).2.2=true):i < (getSign b i).2.1∧(getSign b i).2.1≤b.length:=by
 by_cases hi:0≤i∧i < b.length
 ·have hne:b.drop i.toNat≠[]:=by
   intro e
   have:=congrArg List.length e
   rw [List.length_drop] at this
   simp only [List.length_nil] at this
   omega
  cases hs:signAt (b.drop i.toNat) with
  | none=>rw [getSign_bad hi hs] at h; cases h
  | some d =>
   rw [getSign_good hi hs]
   have hw:=Lib.decodeL_width (b.drop i.toNat)
   have hl:=Lib.decodeL_le (b.drop i.toNat) hne
   rw [List.length_drop] at hl
   have hd:Lib.decodeL (b.drop i.toNat)=d:=by
    unfold signAt at hs
    split at hs
    ·cases hs
    ·exact Option.some.inj hs
   rw [hd] at hw hl
   simp only
   omega
 ·rw [getSign_no hi] at h; cases h
theorem eucSign_next {b:List UInt8} {i:Int} (h:(eucSign b i).2.2=true):i < (eucSign b i).2.1∧(eucSign b i).2.1≤b.length:=by
 unfold eucSign at h ⊢
 split at h
 ·rename_i hi
  rw [if_pos hi]
  split at h
  ·rename_i h1
   rw [if_pos h1]
   simp only
   omega
  ·rename_i h1
   rw [if_neg h1]
   split at h
   ·rename_i h2
    rw [if_pos h2]
    simp only
    omega
   ·cases h
 ·cases h
theorem signIn_next {cs:Int} {b:List UInt8} {i:Int} (hi:0≤i∧i < b.length) (h:(signIn cs b i).2.2=true):i < (signIn cs b i).2.1∧(signIn cs b i).2.1≤b.length:=by
 unfold signIn at h ⊢
 split at h
 ·rename_i q
  rw [if_pos q]
  exact getSign_next h
 ·rename_i q
  rw [if_neg q]
  split at h
  ·rename_i q2
   rw [if_pos q2]
   exact eucSign_next h
  ·rename_i q2
   rw [if_neg q2]
   simp only
   omega
def decGo (cs:Int) (b:List UInt8):Nat→Int→List UInt8→ByteArray×Bool
 | 0,_,out=>(⟨⟨out⟩⟩,true)
 | fu + 1,i,out=>if i < b.length then (if (signIn cs b i).2.2=true then decGo cs b fu (signIn cs b i).2.1 (putSign out (signIn cs b i).1) else (⟨#[]⟩,false)) else (⟨⟨out⟩⟩,true)
theorem dec_end {cs:Int} {b:List UInt8} {i:Int} (h:¬ i < b.length) (fu:Nat) (out:List UInt8):decGo cs b fu i out=(⟨⟨out⟩⟩,true):=by
 cases fu with
 | zero=>rfl
 | succ f=>rw [decGo,if_neg h]
theorem dec_bad {cs:Int} {b:List UInt8} {i:Int} (h:i < b.length) (h2:(signIn cs b i).2.2=false) (fu:Nat) (out:List UInt8):decGo cs b (fu + 1) i out=(⟨#[]⟩,false):=by rw [decGo,if_pos h,h2]; rfl
theorem dec_step {cs:Int} {b:List UInt8} {i:Int} (h:i < b.length) (h2:(signIn cs b i).2.2=true) (fu:Nat) (out:List UInt8):decGo cs b (fu + 1) i out=decGo cs b fu (signIn cs b i).2.1 (putSign out (signIn cs b i).1):=by rw [decGo,if_pos h,if_pos h2]
def decode (cs:Int) (b:List UInt8):ByteArray×Bool:=if win cs 0 5=true then decGo cs b b.length 0 [] else (⟨#[]⟩,false)
theorem bytesOf_uD (l:List UInt8):bytesOf (l.map uR)=l:=bytesOf_uR l
abbrev C_By (Te:TE):Prop:=∀ (cs:Int),Te 184 [.one (iT cs)] ⟨[.one (bT (win cs 0 5))],[[iT cs]]⟩
abbrev C_G5 (Te:TE):Prop:=∀ (cs:Int),Te 187 [.one (iT cs)] ⟨[.one (bT (win cs 0 5))],[[iT cs]]⟩
abbrev C_Cc (Te:TE):Prop:=∀ (cs:Int) (b:List UInt8) (i:Int) (hb:b.length≤2 ^ 30) (hi:0≤i∧i < b.length),Te 185 [.one (iT cs),.one (slT false 1 uR b),.one (iT i)] ⟨[.one (iT (signIn cs b i).1),.one (iT (signIn cs b i).2.1),.one (bT (signIn cs b i).2.2)],[[iT cs],[slT false 1 uR b],[iT i]]⟩
abbrev C_G6 (Te:TE):Prop:=∀ (cs:Int) (b:List UInt8) (i:Int) (hb:b.length≤2 ^ 30) (hi:0≤i∧i < b.length),Te 188 [.one (iT cs),.one (slT false 1 uR b),.one (iT i)] ⟨[.one (iT (signIn cs b i).1),.one (iT (signIn cs b i).2.1),.one (bT (signIn cs b i).2.2)],[[iT cs],[slT false 1 uR b],[iT i]]⟩
abbrev C_A9 (Te:TE):Prop:=∀ (cs:Int) (b:List UInt8) (hb:b.length≤2 ^ 20),Te 99 [.one (iT cs),.one (slT false 1 uR b)] ⟨[.one (sT (decode cs b).1),.one (bT (decode cs b).2)],[[iT cs],[slT false 1 uR b]]⟩
abbrev C_Cz (Te:TE):Prop:=∀ (cs:Int) (b:List UInt8) (hb:b.length≤2 ^ 20),Te 102 [.one (iT cs),.one (slT false 1 uR b)] ⟨[.one (sT (decode cs b).1),.one (bT (decode cs b).2)],[[iT cs],[slT false 1 uR b]]⟩
theorem own_sl {τ:Type} {o:Bool} {z:Nat} {h:τ} {rows:List (List (Tr τ))}:Tr.own (.sl o z h rows)=o:=rfl
theorem cellAt_sl {τ:Type} {o:Bool} {z:Nat} {h:τ} {rows:List (List (Tr τ))} {i j:Nat}:cellAt (.sl o z h rows) i j=(rows[i]?).bind (·[j]?):=rfl
theorem setCell_sl {τ:Type} {o:Bool} {z:Nat} {h:τ} {rows:List (List (Tr τ))} {i j:Nat} {u:Tr τ}:setCell (.sl o z h rows) i j u = .sl o z h (rows.set i ((rows[i]?.getD []).set j u)):=by
 simp only [setCell,setRows,Tr.rows,List.getD_eq_getElem?_getD]
attribute [go_sem] own_sl cellAt_sl setCell_sl
structure CellV where
 Tag:Int
 B:List UInt8
 deriving DecidableEq
abbrev CellV.enc (o:Bool) (x:CellV):List Go.X.T:=[iT x.Tag,slT o 1 uR x.B]
def CellV.In (n:Nat) (x:CellV):Prop:=x.B.length≤n
theorem CellV.In.mono {x:CellV} {n m:Nat} (h:x.In n) (hn:n≤m):x.In m:=by
 simp only [CellV.In] at h ⊢
 exact Nat.le_trans h hn
def CellV.Len (x:CellV):Prop:=x.B.length≤2 ^ 21
theorem CellV.In.len {x:CellV} {n:Nat} (h:x.In n) (hn:n≤2 ^ 21):x.Len:=by
 have h0:x.B.length≤n:=h
 exact Nat.le_trans h0 hn
structure RowV where
 Key:ByteArray
 Old:CellV
 New:CellV
 Has:Int
 Aside:Bool
 deriving DecidableEq
abbrev RowV.enc (o:Bool) (x:RowV):List Go.X.T:=[sT x.Key,iT x.Old.Tag,slT o 1 uR x.Old.B,iT x.New.Tag,slT o 1 uR x.New.B,iT x.Has,bT x.Aside]
def RowV.In (n:Nat) (x:RowV):Prop:=x.Key.size≤n∧x.Old.In (n)∧x.New.In (n)
theorem RowV.In.mono {x:RowV} {n m:Nat} (h:x.In n) (hn:n≤m):x.In m:=by
 simp only [RowV.In] at h ⊢
 exact ⟨Nat.le_trans h.1 hn,h.2.1.mono hn,h.2.2.mono hn⟩
def RowV.Len (x:RowV):Prop:=x.Old.Len∧x.New.Len
theorem RowV.In.len {x:RowV} {n:Nat} (h:x.In n) (hn:n≤2 ^ 21):x.Len:=by
 obtain ⟨h0,h1,h2⟩:=h
 exact ⟨(h1).len hn,(h2).len hn⟩
structure WrV where
 N:Int
 B:List UInt8
 deriving DecidableEq
abbrev WrV.enc (o:Bool) (x:WrV):List Go.X.T:=[iT x.N,slT o 1 uR x.B]
def WrV.In (n:Nat) (x:WrV):Prop:=x.B.length≤n
theorem WrV.In.mono {x:WrV} {n m:Nat} (h:x.In n) (hn:n≤m):x.In m:=by
 simp only [WrV.In] at h ⊢
 exact Nat.le_trans h hn
def WrV.Len (x:WrV):Prop:=x.B.length≤2 ^ 21
theorem WrV.In.len {x:WrV} {n:Nat} (h:x.In n) (hn:n≤2 ^ 21):x.Len:=by
 have h0:x.B.length≤n:=h
 exact Nat.le_trans h0 hn
structure DevV where
 Secs:List (List UInt8)
 Cache:List WrV
 Fuse:Int
 Down:Bool
 deriving DecidableEq
abbrev DevV.enc (o:Bool) (x:DevV):List Go.X.T:=[slT o 1 (fun y=>[slT o 1 uR y]) x.Secs,slT o 2 (WrV.enc o) x.Cache,iT x.Fuse,bT x.Down]
def DevV.In (n:Nat) (x:DevV):Prop:=(x.Secs.length≤n∧∀ y∈x.Secs,y.length≤n)∧(x.Cache.length≤n∧∀ y∈x.Cache,y.In (n))
theorem DevV.In.mono {x:DevV} {n m:Nat} (h:x.In n) (hn:n≤m):x.In m:=by
 simp only [DevV.In] at h ⊢
 exact ⟨⟨Nat.le_trans h.1.1 hn,fun y hy=>Nat.le_trans (h.1.2 y hy) hn⟩,⟨Nat.le_trans h.2.1 hn,fun y hy=>(h.2.2 y hy).mono hn⟩⟩
def DevV.Len (x:DevV):Prop:=(x.Secs.length≤2 ^ 21∧∀ y∈x.Secs,y.length≤2 ^ 21)∧(x.Cache.length≤2 ^ 21∧∀ y∈x.Cache,y.Len)
theorem DevV.In.len {x:DevV} {n:Nat} (h:x.In n) (hn:n≤2 ^ 21):x.Len:=by
 obtain ⟨h0,h1⟩:=h
 exact ⟨⟨Nat.le_trans h0.1 hn,fun y hy=>Nat.le_trans (h0.2 y hy) hn⟩,⟨Nat.le_trans h1.1 hn,fun y hy=>((h1.2 y hy)).len hn⟩⟩
structure MarkV where
 Who:Int
 Seq:Int
 Code:Int
 deriving DecidableEq
abbrev MarkV.row (x:MarkV):List Go.X.T:=[iT x.Who,iT x.Seq,iT x.Code]
structure TabV where
 Rows:List RowV
 Phase:Int
 Marks:List MarkV
 deriving DecidableEq
abbrev TabV.enc (o:Bool) (x:TabV):List Go.X.T:=[slT o 7 (RowV.enc o) x.Rows,iT x.Phase,slT o 3 MarkV.row x.Marks]
def TabV.In (n:Nat) (x:TabV):Prop:=(x.Rows.length≤n∧∀ y∈x.Rows,y.In (n))∧x.Marks.length≤n
theorem TabV.In.mono {x:TabV} {n m:Nat} (h:x.In n) (hn:n≤m):x.In m:=by
 simp only [TabV.In] at h ⊢
 exact ⟨⟨Nat.le_trans h.1.1 hn,fun y hy=>(h.1.2 y hy).mono hn⟩,Nat.le_trans h.2 hn⟩
def TabV.Len (x:TabV):Prop:=(x.Rows.length≤2 ^ 21∧∀ y∈x.Rows,y.Len)∧x.Marks.length≤2 ^ 21
theorem TabV.In.len {x:TabV} {n:Nat} (h:x.In n) (hn:n≤2 ^ 21):x.Len:=by
 obtain ⟨h0,h1⟩:=h
 exact ⟨⟨Nat.le_trans h0.1 hn,fun y hy=>((h0.2 y hy)).len hn⟩,Nat.le_trans h1 hn⟩
structure StoreV where
 D:DevV
 T:TabV
 Gen:Int
 Place:Int
 deriving DecidableEq
abbrev StoreV.enc (o:Bool) (x:StoreV):List Go.X.T:=[slT o 1 (fun y=>[slT o 1 uR y]) x.D.Secs,slT o 2 (WrV.enc o) x.D.Cache,iT x.D.Fuse,bT x.D.Down,slT o 7 (RowV.enc o) x.T.Rows,iT x.T.Phase,slT o 3 MarkV.row x.T.Marks,iT x.Gen,iT x.Place]
def StoreV.In (n:Nat) (x:StoreV):Prop:=x.D.In (n)∧x.T.In (n)
theorem StoreV.In.mono {x:StoreV} {n m:Nat} (h:x.In n) (hn:n≤m):x.In m:=by
 simp only [StoreV.In] at h ⊢
 exact ⟨h.1.mono hn,h.2.mono hn⟩
def StoreV.Len (x:StoreV):Prop:=x.D.Len∧x.T.Len
theorem StoreV.In.len {x:StoreV} {n:Nat} (h:x.In n) (hn:n≤2 ^ 21):x.Len:=by
 obtain ⟨h0,h1⟩:=h
 exact ⟨(h0).len hn,(h1).len hn⟩
structure NodeV where
 S:StoreV
 Cs:Int
 deriving DecidableEq
abbrev NodeV.enc (o:Bool) (x:NodeV):List Go.X.T:=[slT o 1 (fun y=>[slT o 1 uR y]) x.S.D.Secs,slT o 2 (WrV.enc o) x.S.D.Cache,iT x.S.D.Fuse,bT x.S.D.Down,slT o 7 (RowV.enc o) x.S.T.Rows,iT x.S.T.Phase,slT o 3 MarkV.row x.S.T.Marks,iT x.S.Gen,iT x.S.Place,iT x.Cs]
def NodeV.In (n:Nat) (x:NodeV):Prop:=x.S.In (n)
theorem NodeV.In.mono {x:NodeV} {n m:Nat} (h:x.In n) (hn:n≤m):x.In m:=by
 simp only [NodeV.In] at h ⊢
 exact h.mono hn
def NodeV.Len (x:NodeV):Prop:=x.S.Len
theorem NodeV.In.len {x:NodeV} {n:Nat} (h:x.In n) (hn:n≤2 ^ 21):x.Len:=by
 have h0:x.S.In (n):=h
 exact (h0).len hn
structure RecV where
 Kind:Int
 R:RowV
 Key:ByteArray
 N:Int
 Who:Int
 Seq:Int
 Code:Int
 deriving DecidableEq
abbrev RecV.enc (o:Bool) (x:RecV):List Go.X.T:=[iT x.Kind,sT x.R.Key,iT x.R.Old.Tag,slT o 1 uR x.R.Old.B,iT x.R.New.Tag,slT o 1 uR x.R.New.B,iT x.R.Has,bT x.R.Aside,sT x.Key,iT x.N,iT x.Who,iT x.Seq,iT x.Code]
def RecV.In (n:Nat) (x:RecV):Prop:=x.R.In (n)∧x.Key.size≤n
theorem RecV.In.mono {x:RecV} {n m:Nat} (h:x.In n) (hn:n≤m):x.In m:=by
 simp only [RecV.In] at h ⊢
 exact ⟨h.1.mono hn,Nat.le_trans h.2 hn⟩
def RecV.Len (x:RecV):Prop:=x.R.Len
theorem RecV.In.len {x:RecV} {n:Nat} (h:x.In n) (hn:n≤2 ^ 21):x.Len:=by
 obtain ⟨h0,h1⟩:=h
 exact (h0).len hn
structure ActV where
 Kind:Int
 Who:Int
 Seq:Int
 Key:ByteArray
 Text:ByteArray
 Code:Int
 deriving DecidableEq
abbrev ActV.row (x:ActV):List Go.X.T:=[iT x.Kind,iT x.Who,iT x.Seq,sT x.Key,sT x.Text,iT x.Code]
def ActV.In (n:Nat) (x:ActV):Prop:=x.Key.size≤n∧x.Text.size≤n
theorem ActV.In.mono {x:ActV} {n m:Nat} (h:x.In n) (hn:n≤m):x.In m:=by
 simp only [ActV.In] at h ⊢
 exact ⟨Nat.le_trans h.1 hn,Nat.le_trans h.2 hn⟩
def CellV.ok (c:CellV):Bool:=win c.Tag 0 5&&decide ((c.B.length:Int)≤20)
def CellV.text (c:CellV):ByteArray×Bool:=if c.ok=true then decode c.Tag c.B else (⟨#[]⟩,false)
def CellV.no (c:CellV):Bool:=(c.Tag==0)&&decide (c.B=[])
def sameText (a c:CellV):Bool:=a.text.2&&c.text.2&&decide (a.text.1=c.text.1)
theorem CellV.ok_len {c:CellV} (h:c.ok=true):c.B.length≤20:=by
 simp only [CellV.ok,Bool.and_eq_true,decide_eq_true_eq] at h
 omega
abbrev C_A6 (Te:TE):Prop:=∀ (c:CellV),Te 261 [.agg (c.enc false)] ⟨[.one (bT c.ok)],[c.enc false]⟩
abbrev C_A7 (Te:TE):Prop:=∀ (c:CellV),Te 177 [.agg (c.enc false)] ⟨[.one (sT c.text.1),.one (bT c.text.2)],[c.enc false]⟩
abbrev C_B8 (Te:TE):Prop:=∀ (a c:CellV),Te 305 [.agg (a.enc false),.agg (c.enc false)] ⟨[.one (bT (sameText a c))],[a.enc false,c.enc false]⟩
abbrev C_Cw (Te:TE):Prop:=∀ (c:CellV),Te 286 [.agg (c.enc false)] ⟨[.one (bT c.ok)],[c.enc false]⟩
abbrev C_Cx (Te:TE):Prop:=∀ (c:CellV),Te 197 [.agg (c.enc false)] ⟨[.one (sT c.text.1),.one (bT c.text.2)],[c.enc false]⟩
abbrev C_E1 (Te:TE):Prop:=∀ (a c:CellV),Te 340 [.agg (a.enc false),.agg (c.enc false)] ⟨[.one (bT (sameText a c))],[a.enc false,c.enc false]⟩
theorem bytes_lists (a c:List UInt8):decide ((⟨a.toArray⟩:ByteArray)=⟨c.toArray⟩)=decide (a=c):=by
 congr 1
 simp
abbrev C_C9 (Te:TE):Prop:=∀ (a c:CellV),Te 173 [.agg (a.enc false),.agg (c.enc false)] ⟨[.one (bT ((a.Tag==c.Tag)&&decide (a.B=c.B)))],[a.enc false,c.enc false]⟩
theorem none_len (l:List UInt8):((l.length:Int)==0)=decide (l=[]):=by
 cases l with
 | nil=>rfl
 | cons a l =>
  have h1:(((a::l).length:Int)==0)=false:=by simp only [beq_eq_false_iff_ne,List.length_cons]; omega
  rw [h1]
  simp
abbrev C_Gh (Te:TE):Prop:=∀ (c:CellV),Te 339 [.agg (c.enc false)] ⟨[.one (bT c.no)],[c.enc false]⟩
def nameCh (x:UInt8):Bool:=win x.toNat 97 122||win x.toNat 48 57
def nameOk (s:ByteArray):Bool:=s.data.toList.all nameCh&&win s.size 1 6
abbrev C_Am (Te:TE):Prop:=∀ (s:ByteArray) (h:s.size≤2 ^ 48),Te 98 [.one (sT s)] ⟨[.one (bT (nameOk s))],[[sT s]]⟩
abbrev C_De (Te:TE):Prop:=∀ (s:ByteArray) (h:s.size≤2 ^ 48),Te 101 [.one (sT s)] ⟨[.one (bT (nameOk s))],[[sT s]]⟩
def RowV.ok (r:RowV):Bool:=nameOk r.Key&&win r.Has 1 3 &&
 (if r.Has=1 then r.Old.ok&&(r.Old.Tag != 0)&&(r.Old.text.2||r.Aside)&&r.New.no
  else if r.Has=2 then r.Old.no&&(r.New.Tag==0)&&r.New.text.2
  else r.Old.ok&&(r.Old.Tag != 0)&&r.Old.text.2&&(r.New.Tag==0)&&r.New.text.2&&sameText r.Old r.New)
theorem and1_has (h:Int) (hh:h=1∨h=2∨h=3):(andK .i64 h 1==1)=decide (h≠2):=by
 rw [andK_def]
 rcases hh with rfl | rfl | rfl <;> decide
theorem and2_has (h:Int) (hh:h=1∨h=2∨h=3):(andK .i64 h 2==2)=decide (h≠1):=by
 rw [andK_def]
 rcases hh with rfl | rfl | rfl <;> decide
theorem win13 {h:Int} (g:win h 1 3=true):h=1∨h=2∨h=3:=by
 simp only [win,Bool.and_eq_true,decide_eq_true_eq] at g
 omega
theorem tag_no {c:CellV} (h:win c.Tag 1 5=false):(c.ok&&(c.Tag != 0))=false:=by
 cases g:c.ok
 ·rfl
 ·simp only [CellV.ok,win,Bool.and_eq_true,decide_eq_true_eq] at g
  simp only [win,Bool.and_eq_false_iff,decide_eq_false_iff_not] at h
  have:c.Tag=0:=by omega
  rw [this]
  rfl
theorem tag_yes {c:CellV} (h:win c.Tag 1 5=true):(c.Tag != 0)=true:=by
 simp only [win,Bool.and_eq_true,decide_eq_true_eq] at h
 simp only [bne_iff_ne]
 omega
theorem rowOk_name {r:RowV} (h:nameOk r.Key=false):r.ok=false:=by simp only [RowV.ok,h,Bool.false_and]
theorem rowOk_has {r:RowV} (h:win r.Has 1 3=false):r.ok=false:=by simp only [RowV.ok,h,Bool.and_false,Bool.false_and]
theorem rowOk_1 {k:ByteArray} {o n:CellV} {a:Bool} (h:nameOk k=true):(RowV.mk k o n 1 a).ok=(o.ok&&(o.Tag != 0)&&(o.text.2||a)&&n.no):=by simp only [RowV.ok,h]; rfl
theorem rowOk_2 {k:ByteArray} {o n:CellV} {a:Bool} (h:nameOk k=true):(RowV.mk k o n 2 a).ok=(o.no&&(n.Tag==0)&&n.text.2):=by simp only [RowV.ok,h]; rfl
theorem rowOk_3 {k:ByteArray} {o n:CellV} {a:Bool} (h:nameOk k=true):(RowV.mk k o n 3 a).ok=(o.ok&&(o.Tag != 0)&&o.text.2&&(n.Tag==0)&&n.text.2&&sameText o n):=by simp only [RowV.ok,h]; rfl
theorem rowOk_13 {r:RowV} (h:r.ok=true):r.Has=1∨r.Has=2∨r.Has=3:=by
 simp only [RowV.ok,Bool.and_eq_true] at h
 exact win13 h.1.2
abbrev C_Gi (Te:TE):Prop:=∀ (r:RowV) (h:r.Has=1∨r.Has=2∨r.Has=3),Te 291 [.agg (r.enc false)] ⟨[.one (bT (decide (r.Has≠2)))],[r.enc false]⟩
abbrev C_Gg (Te:TE):Prop:=∀ (r:RowV) (h:r.Has=1∨r.Has=2∨r.Has=3),Te 196 [.agg (r.enc false)] ⟨[.one (bT (decide (r.Has≠1)))],[r.enc false]⟩
abbrev C_B6 (Te:TE):Prop:=∀ (r:RowV) (h:r.In (2 ^ 48)),Te 253 [.agg (r.enc false)] ⟨[.one (bT r.ok)],[r.enc false]⟩
abbrev C_Dz (Te:TE):Prop:=∀ (r:RowV) (h:r.In (2 ^ 48)),Te 289 [.agg (r.enc false)] ⟨[.one (bT r.ok)],[r.enc false]⟩
theorem rng_end {n i:Nat} {f:Nat→Bool} (h:n≤i) (hp:∀ j,j < i→f j=true):(List.range n).all f=true:=by
 rw [List.all_eq_true]
 intro j hj
 exact hp j (by have:=List.mem_range.1 hj; omega)
theorem rng_not {n i:Nat} {f:Nat→Bool} (h:i < n) (hf:f i=false):(List.range n).all f=false:=by
 cases g:(List.range n).all f
 ·rfl
 ·rw [List.all_eq_true] at g
  have:=g i (List.mem_range.2 h)
  rw [hf] at this
  cases this
theorem rng_step {i:Nat} {f:Nat→Bool} (hp:∀ j,j < i→f j=true) (hf:f i=true):∀ j,j < i + 1→f j=true:=by
 intro j hj
 by_cases e:j=i
 ·subst e; exact hf
 ·exact hp j (by omega)
def rowGood (l:List RowV) (i:Nat):Bool:=((l[i]?.map RowV.ok).getD true)&&(i==0||((l[i - 1]?.bind fun x=>l[i]?.map fun y=>Op.bytesLess x.Key.toList y.Key.toList).getD true))
theorem rowGood_zero {l:List RowV} (h:0 < l.length):rowGood l 0=l[0].ok:=by
 simp only [rowGood,List.getElem?_eq_getElem h,Option.map_some,Option.getD_some,beq_self_eq_true,Bool.true_or,Bool.and_true]
theorem rowGood_succ {l:List RowV} {j:Nat} (h:j + 1 < l.length):rowGood l (j + 1)=(l[j + 1].ok&&Op.bytesLess (l[j]'(by omega)).Key.toList l[j + 1].Key.toList):=by
 have h0:j < l.length:=by omega
 simp only [rowGood,List.getElem?_eq_getElem h,Nat.add_sub_cancel,List.getElem?_eq_getElem h0,Option.map_some,Option.getD_some,Option.bind_some,show (j + 1==0)=false from rfl,Bool.false_or]
def MarkV.ok (m:MarkV):Bool:=win m.Who 1 9&&win m.Seq 0 65535&&win m.Code 0 6
def markGood (l:List MarkV) (i:Nat):Bool:=((l[i]?.map MarkV.ok).getD true)&&(i==0||((l[i - 1]?.bind fun x=>l[i]?.map fun y=>!decide (x.Who≥y.Who)).getD true))
theorem markGood_zero {l:List MarkV} (h:0 < l.length):markGood l 0=l[0].ok:=by
 simp only [markGood,List.getElem?_eq_getElem h,Option.map_some,Option.getD_some,beq_self_eq_true,Bool.true_or,Bool.and_true]
theorem markGood_succ {l:List MarkV} {j:Nat} (h:j + 1 < l.length):markGood l (j + 1)=(l[j + 1].ok && !decide ((l[j]'(by omega)).Who≥l[j + 1].Who)):=by
 have h0:j < l.length:=by omega
 simp only [markGood,List.getElem?_eq_getElem h,Nat.add_sub_cancel,List.getElem?_eq_getElem h0,Option.map_some,Option.getD_some,Option.bind_some,show (j + 1==0)=false from rfl,Bool.false_or]
def TabV.ok (t:TabV):Bool:=(List.range t.Rows.length).all (rowGood t.Rows)&&(List.range t.Marks.length).all (markGood t.Marks)&&(decide ((t.Rows.length:Int)≤8)&&win t.Phase 0 7)
abbrev C_Ep (Te:TE):Prop:=∀ (m:MarkV),Te 292 [.agg m.row] ⟨[.one (bT m.ok)],[m.row]⟩
abbrev C_Bf (Te:TE):Prop:=∀ (t:TabV) (h:t.In (2 ^ 48)),Te 179 [.agg (t.enc false)] ⟨[.one (bT t.ok)],[t.enc false]⟩
abbrev C_E8 (Te:TE):Prop:=∀ (t:TabV) (h:t.In (2 ^ 48)),Te 206 [.agg (t.enc false)] ⟨[.one (bT t.ok)],[t.enc false]⟩
def secGood (l:List UInt8):Bool:=!decide ((l.length:Int) > 120)
def wrGood (n:Nat) (w:WrV):Bool:=win w.N 0 ((n:Int) - 1) && !decide ((w.B.length:Int) > 120)
def DevV.ok (d:DevV):Bool:=win d.Secs.length 1 64&&decide ((d.Cache.length:Int)≤40)&&win d.Fuse (-1) 1000&&d.Secs.all secGood&&d.Cache.all (wrGood d.Secs.length)
theorem gt_le (n:Nat):decide ((n:Int) > 40) = !decide ((n:Int)≤40):=by
 by_cases h:(n:Int)≤40
 ·rw [decide_eq_true h,decide_eq_false (by omega)]; rfl
 ·rw [decide_eq_false h,decide_eq_true (by omega)]; rfl
abbrev C_Ab (Te:TE):Prop:=∀ (d:DevV) (h:d.In (2 ^ 48)),Te 178 [.agg (d.enc false)] ⟨[.one (bT d.ok)],[d.enc false]⟩
abbrev C_D2 (Te:TE):Prop:=∀ (d:DevV) (h:d.In (2 ^ 48)),Te 205 [.agg (d.enc false)] ⟨[.one (bT d.ok)],[d.enc false]⟩
def StoreV.ok (s:StoreV):Bool:=s.D.ok&&((s.D.Secs.length:Int)==62)&&(((s.D.Cache.length:Int)==0)||s.D.Down)&&s.T.ok&&win s.Gen 1 60000&&win s.Place 0 30
abbrev C_Bd (Te:TE):Prop:=∀ (s:StoreV) (h:s.In (2 ^ 48)),Te 89 [.agg (s.enc false)] ⟨[.one (bT s.ok)],[s.enc false]⟩
abbrev C_E6 (Te:TE):Prop:=∀ (s:StoreV) (h:s.In (2 ^ 48)),Te 119 [.agg (s.enc false)] ⟨[.one (bT s.ok)],[s.enc false]⟩
def NodeV.ok (n:NodeV):Bool:=n.S.ok&&win n.Cs 1 5
abbrev C_Aq (Te:TE):Prop:=∀ (n:NodeV) (h:n.In (2 ^ 48)),Te 23 [.agg (n.enc false)] ⟨[.one (bT n.ok)],[n.enc false]⟩
abbrev C_Dk (Te:TE):Prop:=∀ (n:NodeV) (h:n.In (2 ^ 48)),Te 43 [.agg (n.enc false)] ⟨[.one (bT n.ok)],[n.enc false]⟩
theorem take_rows (l:List UInt8):List.take l.length (l.map uR)=l.map uR:=List.take_of_length_le (by simp)
attribute [go_sem] take_rows
abbrev C_Bp (Te:TE):Prop:=∀ (c:CellV) (h:c.Len),Te 304 [.agg (c.enc false)] ⟨[.agg (c.enc true)],[c.enc false]⟩
abbrev C_Gb (Te:TE):Prop:=∀ (c:CellV) (h:c.Len),Te 338 [.agg (c.enc false)] ⟨[.agg (c.enc true)],[c.enc false]⟩
abbrev C_Bs (Te:TE):Prop:=∀ (r:RowV) (h:r.Len),Te 252 [.agg (r.enc false)] ⟨[.agg (r.enc true)],[r.enc false]⟩
abbrev C_Ge (Te:TE):Prop:=∀ (r:RowV) (h:r.Len),Te 288 [.agg (r.enc false)] ⟨[.agg (r.enc true)],[r.enc false]⟩
abbrev C_Bx (Te:TE):Prop:=∀ (b:Bool),Te 352 [.one (bT b)] ⟨[.one (uT (bif b then 1 else 0))],[[bT b]]⟩
abbrev C_Eh (Te:TE):Prop:=∀ (b:Bool),Te 336 [.one (bT b)] ⟨[.one (uT (bif b then 1 else 0))],[[bT b]]⟩
def RowV.no (r:RowV):Bool:=decide (r.Key=⟨#[]⟩)&&r.Old.no&&r.New.no&&(r.Has==0) && !r.Aside
def RowV.zero:RowV:=⟨⟨#[]⟩,⟨0,[]⟩,⟨0,[]⟩,0,false⟩
def cellSame (a c:CellV):Bool:=(a.Tag==c.Tag)&&decide (a.B=c.B)
def rowSame (a c:RowV):Bool:=decide (a.Key=c.Key)&&cellSame a.Old c.Old&&cellSame a.New c.New&&(a.Has==c.Has)&&(a.Aside==c.Aside)
theorem rowSame_zero (r:RowV):rowSame r RowV.zero=r.no:=by
 simp only [rowSame,RowV.no,RowV.zero,cellSame,CellV.no]
 congr 1
 cases r.Aside <;> rfl
abbrev C_Ca (Te:TE):Prop:=∀ (a c:RowV),Te 85 [.agg (a.enc false),.agg (c.enc false)] ⟨[.one (bT (rowSame a c))],[a.enc false,c.enc false]⟩
abbrev C_Ek (Te:TE):Prop:=∀ (r:RowV),Te 334 [.agg (r.enc false)] ⟨[.one (bT r.no)],[r.enc false]⟩
def RecV.who (r:RecV):Bool:=bif r.Who==0 then (r.Seq==0)&&(r.Code==0)&&(r.Kind != 4) else win r.Who 1 9&&win r.Seq 0 65535&&win r.Code 0 6
def RecV.body (r:RecV):Bool :=
 bif r.Kind==1 then r.R.ok&&decide (r.Key=⟨#[]⟩)&&(r.N==0)
 else bif r.Kind==2 then r.R.no&&nameOk r.Key&&(r.N==0)
 else bif r.Kind==3 then r.R.no&&decide (r.Key=⟨#[]⟩)&&win r.N 0 7
 else bif r.Kind==4 then r.R.no&&decide (r.Key=⟨#[]⟩)&&(r.N==0)
 else false
def RecV.ok (r:RecV):Bool:=r.body&&r.who
abbrev C_El (Te:TE):Prop:=∀ (r:RecV),Te 335 [.agg (r.enc false)] ⟨[.one (bT r.who)],[r.enc false]⟩
theorem kind_win {k:Int} (h:win k 1 4=false):(k==1)=false∧(k==2)=false∧(k==3)=false∧(k==4)=false:=by
 simp only [win,Bool.and_eq_false_iff,decide_eq_false_iff_not] at h
 simp only [beq_eq_false_iff_ne,ne_eq]
 omega
theorem win_kind {k:Int} (h:win k 1 4=true):k=1∨k=2∨k=3∨k=4:=by
 simp only [win,Bool.and_eq_true,decide_eq_true_eq] at h
 omega
abbrev C_Dv (Te:TE):Prop:=∀ (r:RecV) (h:r.In (2 ^ 48)),Te 276 [.agg (r.enc false)] ⟨[.one (bT r.ok)],[r.enc false]⟩
theorem other_kind {k:Int} (h1:¬ k=1) (h2:¬ k=2) (h3:¬ k=3) (h4:¬ k=4):(k==1)=false∧(k==2)=false∧(k==3)=false∧(k==4)=false:=by
 simp only [beq_eq_false_iff_ne,ne_eq]
 omega
abbrev C_B1 (Te:TE):Prop:=∀ (r:RecV) (h:r.In (2 ^ 48)),Te 306 [.agg (r.enc false)] ⟨[.one (bT r.ok)],[r.enc false]⟩
def strOf (l:List UInt8):ByteArray:=⟨l.toArray⟩
def putCell (b:List UInt8) (c:CellV):List UInt8:=putText (b++[mkU c.Tag]) (strOf c.B)
def flagU (a:Bool):UInt8:=bif a then 1 else 0
def putRow1 (b:List UInt8) (r:RowV):List UInt8:=putText b r.Key++[mkU r.Has,flagU r.Aside]
def putRow2 (b:List UInt8) (r:RowV):List UInt8:=if r.Has=2 then putRow1 b r else putCell (putRow1 b r) r.Old
def putRow3 (b:List UInt8) (r:RowV):List UInt8:=if r.Has=1 then putRow2 b r else putCell (putRow2 b r) r.New
def putRow (b:List UInt8) (r:RowV):List UInt8:=if r.ok=true then putRow3 b r else b
theorem app1B (l:List UInt8) (x:UInt8):List.map uR l++[[uT x]]=List.map uR (l++[x]):=by rw [List.map_append]; rfl
theorem app2B (l:List UInt8) (x y:UInt8):List.map uR l++[[uT x],[uT y]]=List.map uR (l++[x,y]):=by rw [List.map_append]; rfl
theorem take1B (l:List UInt8) (x:UInt8):List.take (l.length + 1) (List.map uR (l++[x]))=List.map uR (l++[x]):=List.take_of_length_le (by simp)
theorem take2B (l:List UInt8) (x y:UInt8):List.take (l.length + 2) (List.map uR (l++[x,y]))=List.map uR (l++[x,y]):=List.take_of_length_le (by simp)
theorem putCell_len (b:List UInt8) (c:CellV):(putCell b c).length≤b.length + 63:=by
 have:=putText_len (b++[mkU c.Tag]) (strOf c.B)
 simp only [List.length_append,List.length_cons,List.length_nil] at this
 unfold putCell
 omega
theorem putRow1_len (b:List UInt8) (r:RowV):(putRow1 b r).length≤b.length + 64:=by
 have:=putText_len b r.Key
 unfold putRow1
 rw [List.length_append]
 simp only [List.length_cons,List.length_nil]
 omega
theorem putRow2_len (b:List UInt8) (r:RowV):(putRow2 b r).length≤b.length + 127:=by
 have h1:=putRow1_len b r
 have h2:=putCell_len (putRow1 b r) r.Old
 unfold putRow2
 split <;> omega
theorem putRow_len (b:List UInt8) (r:RowV):(putRow b r).length≤b.length + 190:=by
 have h1:=putRow2_len b r
 have h2:=putCell_len (putRow2 b r) r.New
 unfold putRow putRow3
 split
 ·split <;> omega
 ·omega
theorem rowOk_win {r:RowV} (h:r.ok=true):win r.Has 1 3=true:=by
 cases g:win r.Has 1 3
 ·rw [rowOk_has g] at h; exact absurd h (by decide)
 ·rfl
theorem strOf_size (l:List UInt8):(strOf l).size=l.length:=by simp [strOf,ByteArray.size]
abbrev C_Ei (Te:TE):Prop:=∀ (b:List UInt8) (c:CellV) (hb:b.length≤2 ^ 28) (hc:c.B.length≤2 ^ 48),Te 337 [.one (slT true 1 uR b),.agg (c.enc false)] ⟨[.one (slT true 1 uR (putCell b c))],[[.no ()],c.enc false]⟩
abbrev C_Ax (Te:TE):Prop:=∀ (b:List UInt8) (r:RowV) (hb:b.length≤2 ^ 27) (h:r.In (2 ^ 48)),Te 313 [.one (slT false 1 uR b),.agg (r.enc false)] ⟨[.one (slT true 1 uR (putRow b r))],[[slT false 1 uR b],r.enc false]⟩
abbrev C_Dr (Te:TE):Prop:=∀ (b:List UInt8) (r:RowV) (hb:b.length≤2 ^ 27) (h:r.In (2 ^ 48)),Te 283 [.one (slT false 1 uR b),.agg (r.enc false)] ⟨[.one (slT true 1 uR (putRow b r))],[[slT false 1 uR b],r.enc false]⟩
def recKind (b:List UInt8) (r:RecV):List UInt8:=if r.Kind=1 then putRow b r.R else if r.Kind=2 then putText b r.Key else if r.Kind=3 then b++[mkU r.N] else b
def recHead (gen place:Int) (r:RecV):List UInt8:=putW (putW [] gen) place++[mkU r.Kind]
def recBody (gen place:Int) (r:RecV):List UInt8:=putW (recKind (recHead gen place r) r++[mkU r.Who,mkU r.Code]) r.Seq
def recGood (gen place:Int) (r:RecV):Bool:=r.ok&&win gen 0 65535&&win place 0 65535
def putRec (gen place:Int) (r:RecV):List UInt8:=if recGood gen place r=true then putW (recBody gen place r) (sum (recBody gen place r):Nat) else []
theorem recHead_len (gen place:Int) (r:RecV):(recHead gen place r).length=5:=by
 simp only [recHead,putW,List.length_append,List.length_cons,List.length_nil]
theorem recKind_len (b:List UInt8) (r:RecV):(recKind b r).length≤b.length + 190:=by
 unfold recKind
 have h1:=putRow_len b r.R
 have h2:=putText_len b r.Key
 split
 ·omega
 ·split
  ·omega
  ·split
   ·simp only [List.length_append,List.length_cons,List.length_nil]; omega
   ·omega
theorem recBody_len (gen place:Int) (r:RecV):(recBody gen place r).length≤199:=by
 have h1:=recKind_len (recHead gen place r) r
 rw [recHead_len] at h1
 unfold recBody
 rw [putW_len,List.length_append]
 simp only [List.length_cons,List.length_nil]
 omega
theorem putRec_len (gen place:Int) (r:RecV):(putRec gen place r).length≤201:=by
 unfold putRec
 have:=recBody_len gen place r
 split
 ·rw [putW_len]; omega
 ·exact Nat.zero_le _
theorem recNo1 {gen place:Int} {r:RecV} (h:r.ok=false):putRec gen place r=[]:=by
 have:recGood gen place r=false:=by simp only [recGood,h,Bool.false_and]
 rw [putRec,this]; rfl
theorem recNo2 {gen place:Int} {r:RecV} (h:win gen 0 65535=false):putRec gen place r=[]:=by
 have:recGood gen place r=false:=by simp only [recGood,h,Bool.false_and,Bool.and_false]
 rw [putRec,this]; rfl
theorem recNo3 {gen place:Int} {r:RecV} (h:win place 0 65535=false):putRec gen place r=[]:=by
 have:recGood gen place r=false:=by simp only [recGood,h,Bool.and_false]
 rw [putRec,this]; rfl
theorem recYes {gen place:Int} {r:RecV} (h1:r.ok=true) (h2:win gen 0 65535=true) (h3:win place 0 65535=true):putRec gen place r=putW (recBody gen place r) (sum (recBody gen place r):Nat):=by
 have:recGood gen place r=true:=by simp only [recGood,h1,h2,h3,Bool.and_true]
 rw [putRec,if_pos this]
theorem other3 {k:Int} (h1:¬ k=1) (h2:¬ k=2) (h3:¬ k=3):(k==1)=false∧(k==2)=false∧(k==3)=false:=by
 simp only [beq_eq_false_iff_ne,ne_eq]
 omega
abbrev C_Aw (Te:TE):Prop:=∀ (gen place:Int) (r:RecV) (h:r.In (2 ^ 48)),Te 259 [.one (iT gen),.one (iT place),.agg (r.enc false)] ⟨[.one (slT true 1 uR (putRec gen place r))],[[iT gen],[iT place],r.enc false]⟩
abbrev C_Dq (Te:TE):Prop:=∀ (gen place:Int) (r:RecV) (h:r.In (2 ^ 48)),Te 194 [.one (iT gen),.one (iT place),.agg (r.enc false)] ⟨[.one (slT true 1 uR (putRec gen place r))],[[iT gen],[iT place],r.enc false]⟩
def headGood (gen n:Int):Bool:=win gen 1 60000&&win n 0 30
def headOf (gen n:Int):List UInt8:=if headGood gen n=true then putW (putW (putW [] gen) n) (sum (putW (putW [] gen) n):Nat) else []
theorem headOf_len (gen n:Int):(headOf gen n).length≤6:=by
 unfold headOf
 split
 ·rw [putW_len,putW_len,putW_len]; decide
 ·exact Nat.zero_le _
abbrev C_Ah (Te:TE):Prop:=∀ (gen n:Int),Te 293 [.one (iT gen),.one (iT n)] ⟨[.one (slT true 1 uR (headOf gen n))],[[iT gen],[iT n]]⟩
abbrev C_Da (Te:TE):Prop:=∀ (gen n:Int),Te 280 [.one (iT gen),.one (iT n)] ⟨[.one (slT true 1 uR (headOf gen n))],[[iT gen],[iT n]]⟩
def recRow (r:RowV):RecV:=⟨1,r,⟨#[]⟩,0,0,0,0⟩
def recMark (m:MarkV):RecV:=⟨4,RowV.zero,⟨#[]⟩,0,m.Who,m.Seq,m.Code⟩
def recPhase (n:Int):RecV:=⟨3,RowV.zero,⟨#[]⟩,n,0,0,0⟩
def recsOf (t:TabV):List RecV:=recPhase t.Phase::(t.Rows.map recRow++t.Marks.map recMark)
theorem recsOf_len (t:TabV):(recsOf t).length=t.Rows.length + t.Marks.length + 1:=by
 simp only [recsOf,List.length_cons,List.length_append,List.length_map]
theorem recs_rows {t:TabV} {i:Nat} (h:i < t.Rows.length):(recPhase t.Phase::(t.Rows.take i).map recRow)++[recRow t.Rows[i]]=recPhase t.Phase::(t.Rows.take (i + 1)).map recRow:=by
 rw [List.take_succ_eq_append_getElem h,List.map_append]; rfl
theorem recs_marks {t:TabV} {i:Nat} (h:i < t.Marks.length):(recPhase t.Phase::(t.Rows.map recRow++(t.Marks.take i).map recMark))++[recMark t.Marks[i]]=recPhase t.Phase::(t.Rows.map recRow++(t.Marks.take (i + 1)).map recMark):=by
 rw [List.take_succ_eq_append_getElem h,List.map_append,List.cons_append,List.append_assoc]; rfl
abbrev C_B2 (Te:TE):Prop:=∀ (t:TabV) (h:t.Len),Te 207 [.agg (t.enc false)] ⟨[.one (slT true 13 (RecV.enc true) (recsOf t))],[t.enc false]⟩
abbrev C_Dw (Te:TE):Prop:=∀ (t:TabV) (h:t.Len),Te 279 [.agg (t.enc false)] ⟨[.one (slT true 13 (RecV.enc true) (recsOf t))],[t.enc false]⟩
abbrev secR (o:Bool) (y:List UInt8):List T:=[slT o 1 uR y]
def devNew (n:Int):DevV:=bif win n 1 64 then ⟨List.replicate n.toNat [],[],-1,false⟩ else ⟨[],[],0,false⟩
theorem app1S (l:List (List UInt8)) (x:List UInt8):List.map (secR true) l++[[slT true 1 uR x]]=List.map (secR true) (l++[x]):=by rw [List.map_append]; rfl
theorem app1W (l:List WrV) (x:WrV):List.map (WrV.enc true) l++[[iT x.N,slT true 1 uR x.B]]=List.map (WrV.enc true) (l++[x]):=by rw [List.map_append]; rfl
theorem take_all {α β:Type} (f:α→β) (l:List α):List.take l.length (List.map f l)=List.map f l:=List.take_of_length_le (by simp)
attribute [go_sem] take_all
theorem rep_step (i:Nat):(List.replicate i ([]:List UInt8))++[[]]=List.replicate (i + 1) []:=by rw [List.replicate_succ']
abbrev C_D1 (Te:TE):Prop:=∀ (n:Int),Te 210 [.one (iT n)] ⟨[.agg ((devNew n).enc true)],[[iT n]]⟩
def DevV.burn (d:DevV):DevV:=if d.Fuse=0 then ⟨d.Secs,d.Cache,-1,true⟩ else if d.Fuse > 0 then ⟨d.Secs,d.Cache,IntKind.i64.wrap (d.Fuse - 1),d.Down⟩ else d
def DevV.full (d:DevV) (n:Int) (b:List UInt8):Bool:=d.Down||(!win n 0 ((d.Secs.length:Int) - 1)||(decide ((b.length:Int) > 120)||decide ((d.Cache.length:Int)≥40)))
def DevV.put (d:DevV) (n:Int) (b:List UInt8):DevV:=⟨d.Secs,d.Cache++[⟨n,b⟩],d.Fuse,d.Down⟩
def DevV.write (d:DevV) (n:Int) (b:List UInt8):DevV:=if d.full n b=true then d else if d.Fuse=0 then d.burn else d.burn.put n b
def flushed (S:List (List UInt8)) (C:List WrV):List (List UInt8):=C.foldl (fun s w=>s.set w.N.toNat w.B) S
def DevV.flush (d:DevV):DevV:=if d.Down=true then d else if d.Fuse=0 then d.burn else ⟨flushed d.Secs d.Cache,[],d.burn.Fuse,d.burn.Down⟩
theorem flushed_len (C:List WrV):∀ S:List (List UInt8),(flushed S C).length=S.length:=by
 induction C with
 | nil=>intro S; rfl
 | cons w C ih=>intro S; show (flushed (S.set w.N.toNat w.B) C).length=S.length; rw [ih,List.length_set]
theorem flushed_step {C:List WrV} {i:Nat} (h:i < C.length) (S:List (List UInt8)):(flushed S (C.take i)).set C[i].N.toNat C[i].B=flushed S (C.take (i + 1)):=by
 rw [List.take_succ_eq_append_getElem h,flushed,flushed,List.foldl_append]; rfl
theorem burn_secs (d:DevV):d.burn.Secs=d.Secs:=by
 unfold DevV.burn
 split
 ·rfl
 ·split <;> rfl
theorem burn_cache (d:DevV):d.burn.Cache=d.Cache:=by
 unfold DevV.burn
 split
 ·rfl
 ·split <;> rfl
theorem DevV.ok_in {d:DevV} (h:d.ok=true):d.In (2 ^ 20):=by
 simp only [DevV.ok,Bool.and_eq_true,win,decide_eq_true_eq,List.all_eq_true,secGood,wrGood,Bool.not_eq_true',decide_eq_false_iff_not] at h
 obtain ⟨⟨⟨⟨⟨h1,h2⟩,h3⟩,_⟩,h4⟩,h5⟩:=h
 refine ⟨⟨by omega,fun y hy=>?_⟩,by omega,fun y hy=>?_⟩
 ·have:=h4 y hy; omega
 ·have:=(h5 y hy).2; show y.B.length≤2 ^ 20; omega
theorem DevV.ok_idx {d:DevV} (h:d.ok=true):∀ w∈d.Cache,0≤w.N∧w.N < d.Secs.length:=by
 simp only [DevV.ok,Bool.and_eq_true,win,decide_eq_true_eq,List.all_eq_true,wrGood] at h
 intro w hw
 have:=(h.2 w hw).1
 omega
theorem DevV.ok_cache {d:DevV} (h:d.ok=true):d.Cache.length≤40:=by
 simp only [DevV.ok,Bool.and_eq_true,decide_eq_true_eq] at h
 omega
abbrev C_Bq (Te:TE):Prop:=∀ (d:DevV) (h:d.Len),Te 245 [.agg (d.enc false)] ⟨[.agg (d.enc true)],[d.enc false]⟩
abbrev C_Bn (Te:TE):Prop:=∀ (d:DevV),Te 311 [.agg (d.enc true)] ⟨[.agg (d.burn.enc true),.one (bT (!(d.Fuse==0)))],[[.no (),.no (),iT d.Fuse,bT d.Down]]⟩
abbrev C_Ef (Te:TE):Prop:=∀ (d:DevV),Te 281 [.ptr (d.enc true)] ⟨[.one (bT (!(d.Fuse==0)))],[d.burn.enc true]⟩
theorem full_down {d:DevV} {n:Int} {b:List UInt8} (h:d.Down=true):d.write n b=d:=by rw [DevV.write,if_pos (by rw [DevV.full,h]; rfl)]
theorem full_win {d:DevV} {n:Int} {b:List UInt8} (h:win n 0 ((d.Secs.length:Int) - 1)=false):d.write n b=d:=by rw [DevV.write,if_pos (by rw [DevV.full,h]; simp)]
theorem full_len {d:DevV} {n:Int} {b:List UInt8} (h:decide ((b.length:Int) > 120)=true):d.write n b=d:=by rw [DevV.write,if_pos (by rw [DevV.full,h]; simp)]
theorem full_cache {d:DevV} {n:Int} {b:List UInt8} (h:decide ((d.Cache.length:Int)≥40)=true):d.write n b=d:=by rw [DevV.write,if_pos (by rw [DevV.full,h]; simp)]
theorem not_full {d:DevV} {n:Int} {b:List UInt8} (h1:d.Down=false) (h2:win n 0 ((d.Secs.length:Int) - 1)=true) (h3:decide ((b.length:Int) > 120)=false) (h4:decide ((d.Cache.length:Int)≥40)=false):d.write n b=if d.Fuse=0 then d.burn else d.burn.put n b:=by
 rw [DevV.write,if_neg (by rw [DevV.full,h1,h2,h3,h4]; decide)]
abbrev C_Bi (Te:TE):Prop:=∀ (d:DevV) (n:Int) (b:List UInt8) (hk:d.ok=true) (hb:b.length≤2 ^ 21),Te 257 [.agg (d.enc false),.one (iT n),.one (slT false 1 uR b)] ⟨[.agg ((d.write n b).enc true)],[d.enc false,[iT n],[slT false 1 uR b]]⟩
abbrev C_Eg (Te:TE):Prop:=∀ (d:DevV) (n:Int) (b:List UInt8) (hd:d.Secs.length≤2 ^ 30∧d.Cache.length≤2 ^ 30) (hb:b.length≤2 ^ 30),Te 192 [.ptr (d.enc true),.one (iT n),.one (slT false 1 uR b)] ⟨[],[(d.write n b).enc true,[iT n],[slT false 1 uR b]]⟩
def mvRows (C:List WrV) (i:Nat):List (List T):=(C.take i).map (fun w=>[iT w.N,.no ()])++(C.drop i).map (WrV.enc true)
theorem mv_len (C:List WrV) (i:Nat):(mvRows C i).length=C.length:=by
 simp only [mvRows,List.length_append,List.length_map,List.length_take,List.length_drop]; omega
theorem mv_get {C:List WrV} {i:Nat} (h:i < C.length):(mvRows C i)[i]?=some (C[i].enc true):=by
 have e:((C.take i).map (fun w:WrV=>([iT w.N,.no ()]:List T))).length=i:=by simp; omega
 rw [mvRows,List.getElem?_append_right (by omega),e,Nat.sub_self,List.getElem?_map,List.getElem?_drop,Nat.add_zero,List.getElem?_eq_getElem h]
 rfl
theorem mv_set {C:List WrV} {i:Nat} (h:i < C.length):(mvRows C i).set i [iT C[i].N,.no ()]=mvRows C (i + 1):=by
 have e:((C.take i).map (fun w:WrV=>([iT w.N,.no ()]:List T))).length=i:=by simp; omega
 rw [mvRows,List.set_append_right _ _ (by omega),e,Nat.sub_self,List.drop_eq_getElem_cons h,List.map_cons,List.set_cons_zero,mvRows,List.take_succ_eq_append_getElem h,List.map_append,List.append_assoc]
 rfl
theorem setS (S:List (List UInt8)) (k:Nat) (B:List UInt8):(List.map (secR true) S).set k [slT true 1 uR B]=List.map (secR true) (S.set k B):=by rw [List.map_set]
theorem getS {S:List (List UInt8)} {k:Nat} (h:k < S.length):(List.map (secR true) S).getD k []=[slT true 1 uR S[k]]:=by
 rw [List.getD_eq_getElem?_getD,List.getElem?_map,List.getElem?_eq_getElem h]; rfl
abbrev C_Af (Te:TE):Prop:=∀ (d:DevV) (hk:d.ok=true),Te 260 [.agg (d.enc false)] ⟨[.agg (d.flush.enc true)],[d.enc false]⟩
abbrev C_Ee (Te:TE):Prop:=∀ (d:DevV) (hd:d.Cache.length≤2 ^ 30) (hidx:∀ w∈d.Cache,0≤w.N∧w.N < d.Secs.length),Te 195 [.ptr (d.enc true)] ⟨[],[d.flush.enc true]⟩
theorem DevV.ok_iff (d:DevV):d.ok=true↔(1≤d.Secs.length∧d.Secs.length≤64)∧d.Cache.length≤40∧(-1≤d.Fuse∧d.Fuse≤1000)∧(∀ y∈d.Secs,y.length≤120)∧∀ w∈d.Cache,(0≤w.N∧w.N < d.Secs.length)∧w.B.length≤120:=by
 simp only [DevV.ok,Bool.and_eq_true,win,decide_eq_true_eq,List.all_eq_true,secGood,wrGood,Bool.not_eq_true',decide_eq_false_iff_not]
 constructor
 ·rintro ⟨⟨⟨⟨h1,h2⟩,h3⟩,h4⟩,h5⟩
  exact ⟨by omega,by omega,by omega,fun y hy=>by have:=h4 y hy; omega,fun w hw=>by have:=h5 w hw; omega⟩
 ·rintro ⟨h1,h2,h3,h4,h5⟩
  exact ⟨⟨⟨⟨by omega,by omega⟩,by omega⟩,fun y hy=>by have:=h4 y hy; omega⟩,fun w hw=>by have:=h5 w hw; omega⟩
theorem burn_ok {d:DevV} (h:d.ok=true):d.burn.ok=true:=by
 rw [DevV.ok_iff] at h ⊢
 obtain ⟨h1,h2,h3,h4,h5⟩:=h
 unfold DevV.burn
 split
 ·exact ⟨h1,h2,by simp only; omega,h4,h5⟩
 ·split
  ·exact ⟨h1,h2,by simp only; rw [IntWalk.i64_in _ (by omega)]; omega,h4,h5⟩
  ·exact ⟨h1,h2,h3,h4,h5⟩
theorem write_ok {d:DevV} (h:d.ok=true) (n:Int) (b:List UInt8):(d.write n b).ok=true:=by
 unfold DevV.write
 split
 ·exact h
 ·rename_i hf
  split
  ·exact burn_ok h
  ·have hb:=burn_ok h
   simp only [DevV.full,Bool.or_eq_true,Bool.not_eq_true',decide_eq_true_eq,not_or,win,Bool.and_eq_false_iff,decide_eq_false_iff_not] at hf
   rw [DevV.ok_iff] at hb ⊢
   obtain ⟨h1,h2,h3,h4,h5⟩:=hb
   have bs:=burn_secs d
   have bc:=burn_cache d
   refine ⟨h1,?_,h3,h4,fun w hw=>?_⟩
   ·simp only [DevV.put,List.length_append,List.length_cons,List.length_nil]
    rw [bc]
    omega
   ·rcases List.mem_append.1 hw with hw | hw
    ·exact h5 w hw
    ·simp only [List.mem_cons,List.not_mem_nil,or_false] at hw
     subst hw
     simp only [DevV.put]
     rw [bs]
     omega
theorem mem_set' {α:Type} {l:List α} {i:Nat} {x y:α} (h:y∈l.set i x):y∈l∨y=x:=by
 rcases List.mem_or_eq_of_mem_set h with h | h
 ·exact .inl h
 ·exact .inr h
theorem flushed_mem (C:List WrV):∀ (S:List (List UInt8)) (y:List UInt8),y∈flushed S C→y∈S∨∃ w∈C,y=w.B:=by
 induction C with
 | nil=>intro S y h; exact .inl h
 | cons w C ih =>
  intro S y h
  rcases ih (S.set w.N.toNat w.B) y h with h | ⟨v,hv,e⟩
  ·rcases mem_set' h with h | h
   ·exact .inl h
   ·exact .inr ⟨w,List.mem_cons_self ..,h⟩
  ·exact .inr ⟨v,List.mem_cons_of_mem _ hv,e⟩
theorem flush_ok {d:DevV} (h:d.ok=true):d.flush.ok=true:=by
 unfold DevV.flush
 split
 ·exact h
 ·split
  ·exact burn_ok h
  ·have hb:=burn_ok h
   rw [DevV.ok_iff] at h hb ⊢
   refine ⟨by rw [flushed_len]; exact h.1,Nat.zero_le _,hb.2.2.1,fun y hy=>?_,fun w hw=>by cases hw⟩
   rcases flushed_mem d.Cache d.Secs y hy with hy | ⟨w,hw,rfl⟩
   ·exact h.2.2.2.1 y hy
   ·exact (h.2.2.2.2 w hw).2
def secOf (gen place:Int):Int:=IntKind.i64.wrap (IntKind.i64.wrap (2 + IntKind.i64.wrap (30 * gen.tmod 2)) + place)
def layN (gen:Int) (recs:List RecV) (d:DevV):Nat→DevV
 | 0=>d
 | i + 1=>(layN gen recs d i).write (secOf gen i) (putRec gen i (recs.getD i (recPhase 0)))
def layDev (gen:Int) (recs:List RecV) (d:DevV):DevV:=(((layN gen recs d recs.length).flush).write (gen.tmod 2) (headOf gen recs.length)).flush
theorem layN_ok {d:DevV} (h:d.ok=true) (gen:Int) (recs:List RecV):∀ i,(layN gen recs d i).ok=true
 | 0=>h
 | i + 1=>write_ok (layN_ok h gen recs i) _ _
theorem layN_step (gen:Int) (d:DevV) {recs:List RecV} {i:Nat} (h:i < recs.length):(layN gen recs d i).write (secOf gen i) (putRec gen i recs[i])=layN gen recs d (i + 1):=by
 rw [layN,List.getD_eq_getElem?_getD,List.getElem?_eq_getElem h,Option.getD_some]
theorem layDev_ok {d:DevV} (h:d.ok=true) (gen:Int) (recs:List RecV):(layDev gen recs d).ok=true:=flush_ok (write_ok (flush_ok (layN_ok h gen recs _)) _ _)
abbrev C_Cb (Te:TE):Prop:=∀ (gen place:Int),Te 258 [.one (iT gen),.one (iT place)] ⟨[.one (iT (secOf gen place))],[[iT gen],[iT place]]⟩
abbrev C_Ew (Te:TE):Prop:=∀ (gen place:Int),Te 193 [.one (iT gen),.one (iT place)] ⟨[.one (iT (secOf gen place))],[[iT gen],[iT place]]⟩
abbrev C_C3 (Te:TE):Prop:=∀ (d:DevV) (gen:Int) (recs:List RecV) (hd:d.ok=true) (hr:recs.length≤2 ^ 30∧∀ r∈recs,r.In (2 ^ 48)),Te 208 [.agg (d.enc false),.one (iT gen),.one (slT false 13 (RecV.enc false) recs)] ⟨[.agg ((layDev gen recs d).enc true)],[d.enc false,[iT gen],[slT false 13 (RecV.enc false) recs]]⟩
theorem RowV.zero_in (n:Nat):RowV.zero.In n:=⟨Nat.zero_le _,Nat.zero_le _,Nat.zero_le _⟩
theorem recsOf_in {t:TabV} {n:Nat} (h:t.In n):∀ r∈recsOf t,r.In n:=by
 intro r hr
 simp only [recsOf,List.mem_cons,List.mem_append,List.mem_map] at hr
 rcases hr with rfl | ⟨y,hy,rfl⟩ | ⟨y,hy,rfl⟩
 ·exact ⟨RowV.zero_in n,Nat.zero_le _⟩
 ·exact ⟨h.1.2 y hy,Nat.zero_le _⟩
 ·exact ⟨RowV.zero_in n,Nat.zero_le _⟩
theorem recsOf_le {t:TabV} (h:t.In (2 ^ 20)):(recsOf t).length≤2 ^ 30∧∀ r∈recsOf t,r.In (2 ^ 48) :=
 ⟨by rw [recsOf_len]; have:=h.1.1; have:=h.2; omega,fun r hr=>(recsOf_in h r hr).mono (by decide)⟩
def StoreV.lay (s:StoreV) (gen:Int):StoreV :=
 if (layDev gen (recsOf s.T) s.D).Down=true then ⟨layDev gen (recsOf s.T) s.D,s.T,s.Gen,s.Place⟩ else ⟨layDev gen (recsOf s.T) s.D,s.T,gen,(recsOf s.T).length⟩
theorem lay_down {s:StoreV} {gen:Int} (h:(layDev gen (recsOf s.T) s.D).Down=true):s.lay gen=⟨layDev gen (recsOf s.T) s.D,s.T,s.Gen,s.Place⟩:=if_pos h
theorem lay_up {s:StoreV} {gen:Int} (h:(layDev gen (recsOf s.T) s.D).Down=false):s.lay gen=⟨layDev gen (recsOf s.T) s.D,s.T,gen,(recsOf s.T).length⟩:=if_neg (by rw [h]; decide)
abbrev C_Ez (Te:TE):Prop:=∀ (s:StoreV) (gen:Int) (hd:s.D.ok=true) (ht:s.T.In (2 ^ 20)),Te 191 [.ptr (s.enc true),.one (iT gen)] ⟨[],[(s.lay gen).enc true,[iT gen]]⟩
def TabV.zero:TabV:=⟨[],0,[]⟩
def fmt:StoreV:=(StoreV.mk (devNew 62) TabV.zero 0 0).lay 1
theorem write_fuse {d:DevV} (h:d.Fuse < 0) (hd:d.Down=false) (n:Int) (b:List UInt8):(d.write n b).Fuse=d.Fuse∧(d.write n b).Down=false:=by
 have hb:d.burn=d:=by rw [DevV.burn,if_neg (by omega),if_neg (by omega)]
 unfold DevV.write
 split
 ·exact ⟨rfl,hd⟩
 ·rw [if_neg (by omega),hb]; exact ⟨rfl,hd⟩
theorem flush_fuse {d:DevV} (h:d.Fuse < 0) (hd:d.Down=false):d.flush.Fuse=d.Fuse∧d.flush.Down=false:=by
 have hb:d.burn=d:=by rw [DevV.burn,if_neg (by omega),if_neg (by omega)]
 unfold DevV.flush
 rw [hd,if_neg (by decide),if_neg (by omega),hb]
 exact ⟨rfl,hd⟩
theorem layN_fuse {d:DevV} (h:d.Fuse < 0) (hd:d.Down=false) (gen:Int) (recs:List RecV):∀ i,(layN gen recs d i).Fuse=d.Fuse∧(layN gen recs d i).Down=false:=by
 intro i
 induction i with
 | zero=>exact ⟨rfl,hd⟩
 | succ i ih =>
  have:=write_fuse (d:=layN gen recs d i) (by rw [ih.1]; exact h) ih.2 (secOf gen i) (putRec gen i (recs.getD i (recPhase 0)))
  rw [layN]
  exact ⟨this.1.trans ih.1,this.2⟩
theorem layDev_fuse {d:DevV} (h:d.Fuse < 0) (hd:d.Down=false) (gen:Int) (recs:List RecV):(layDev gen recs d).Fuse=d.Fuse∧(layDev gen recs d).Down=false:=by
 obtain ⟨a1,a2⟩:=layN_fuse h hd gen recs recs.length
 obtain ⟨b1,b2⟩:=flush_fuse (d:=layN gen recs d recs.length) (by omega) a2
 obtain ⟨c1,c2⟩:=write_fuse (d:=(layN gen recs d recs.length).flush) (by omega) b2 (gen.tmod 2) (headOf gen recs.length)
 obtain ⟨d1,d2⟩:=flush_fuse (d:=((layN gen recs d recs.length).flush).write (gen.tmod 2) (headOf gen recs.length)) (by omega) c2
 exact ⟨by rw [layDev,d1,c1,b1,a1],d2⟩
theorem devNew_62:devNew 62=⟨List.replicate 62 [],[],-1,false⟩:=rfl
theorem devNew_ok:(devNew 62).ok=true:=by rw [devNew_62,DevV.ok_iff]; exact ⟨⟨by simp,by simp⟩,by simp,⟨by simp,by simp⟩,fun y hy=>by rw [List.eq_of_mem_replicate hy]; exact Nat.zero_le _,fun w hw=>by cases hw⟩
theorem fmt_eq:fmt=⟨layDev 1 [recPhase 0] (devNew 62),TabV.zero,1,1⟩:=by
 rw [fmt,lay_up]
 ·rfl
 ·exact (layDev_fuse (by rw [devNew_62]; decide) (by rw [devNew_62]) 1 _).2
theorem TabV.zero_in (n:Nat):TabV.zero.In n:=⟨⟨Nat.zero_le _,fun y hy=>by cases hy⟩,Nat.zero_le _⟩
abbrev C_D8 (Te:TE):Prop:=Te 122 [] ⟨[.agg (fmt.enc true)],[]⟩
def NodeV.zero:NodeV:=⟨⟨⟨[],[],0,false⟩,TabV.zero,0,0⟩,0⟩
def nodeNew (cs:Int):NodeV:=bif win cs 1 5 then ⟨fmt,cs⟩ else NodeV.zero
abbrev C_Dj (Te:TE):Prop:=∀ (cs:Int),Te 45 [.one (iT cs)] ⟨[.agg ((nodeNew cs).enc true)],[[iT cs]]⟩
def NodeV.up (n:NodeV):Bool:=n.ok && !n.S.D.Down
abbrev C_Bz (Te:TE):Prop:=∀ (n:NodeV) (h:n.In (2 ^ 48)),Te 82 [.agg (n.enc false)] ⟨[.one (bT n.up)],[n.enc false]⟩
abbrev C_F7 (Te:TE):Prop:=∀ (n:NodeV) (h:n.In (2 ^ 48)),Te 64 [.agg (n.enc false)] ⟨[.one (bT n.up)],[n.enc false]⟩
def RowV.rtext (r:RowV):ByteArray×Bool:=if r.Has=1 then r.Old.text else r.New.text
theorem and2_ne (h:Int) (hh:h=1∨h=2∨h=3):(andK .i64 h 2 != 0)=decide (h≠1):=by
 rw [andK_def]
 rcases hh with rfl | rfl | rfl <;> decide
abbrev C_B7 (Te:TE):Prop:=∀ (r:RowV) (h:r.Has=1∨r.Has=2∨r.Has=3),Te 88 [.agg (r.enc false)] ⟨[.one (sT r.rtext.1),.one (bT r.rtext.2)],[r.enc false]⟩
abbrev C_E0 (Te:TE):Prop:=∀ (r:RowV) (h:r.Has=1∨r.Has=2∨r.Has=3),Te 105 [.agg (r.enc false)] ⟨[.one (sT r.rtext.1),.one (bT r.rtext.2)],[r.enc false]⟩
def rowIx (l:List RowV) (key:ByteArray):Nat:=l.findIdx fun r=>decide (r.Key=key)
def rowAt (l:List RowV) (key:ByteArray):Int:=if rowIx l key < l.length then (rowIx l key:Int) else -1
theorem rowAt_hit {l:List RowV} {key:ByteArray} {i:Nat} (h:i < l.length) (hp:∀ j (hj:j < l.length),j < i→decide (l[j].Key=key)=false) (hk:decide (l[i].Key=key)=true):rowAt l key=i∧rowIx l key=i:=by
 have e:rowIx l key=i:=by
  rw [rowIx,List.findIdx_eq h]
  exact ⟨hk,fun j hj=>hp j (by omega) hj⟩
 rw [rowAt,e,if_pos h]
 exact ⟨rfl,rfl⟩
theorem rowAt_none {l:List RowV} {key:ByteArray} {i:Nat} (hi:l.length≤i) (hp:∀ j (hj:j < l.length),j < i→decide (l[j].Key=key)=false):rowAt l key = -1:=by
 have e:¬ rowIx l key < l.length:=by
  rw [rowIx,List.findIdx_lt_length]
  rintro ⟨x,hx,hk⟩
  obtain ⟨j,hj,rfl⟩:=List.mem_iff_getElem.1 hx
  rw [hp j hj (by omega)] at hk
  cases hk
 rw [rowAt,if_neg e]
theorem rowAt_step {l:List RowV} {key:ByteArray} {i:Nat} (h:i < l.length) (hp:∀ j (hj:j < l.length),j < i→decide (l[j].Key=key)=false) (hk:decide (l[i].Key=key)=false):∀ j (hj:j < l.length),j < i + 1→decide (l[j].Key=key)=false:=by
 intro j hj hji
 by_cases e:j=i
 ·subst e; exact hk
 ·exact hp j hj (by omega)
theorem rowAt_cases (l:List RowV) (key:ByteArray):(rowAt l key = -1∧l[rowIx l key]?=none)∨∃ h:rowIx l key < l.length,rowAt l key=rowIx l key∧l[rowIx l key]?=some l[rowIx l key]:=by
 by_cases h:rowIx l key < l.length
 ·exact .inr ⟨h,by rw [rowAt,if_pos h],List.getElem?_eq_getElem h⟩
 ·exact .inl ⟨by rw [rowAt,if_neg h],List.getElem?_eq_none (by omega)⟩
abbrev C_B4 (Te:TE):Prop:=∀ (r:RowV) (key:ByteArray),Te 176 [.agg (r.enc false),.ptr [sT key]] ⟨[.one (bT (decide (r.Key=key)))],[r.enc false,[sT key]]⟩
abbrev C_Gp (Te:TE):Prop:=∀ (l:List RowV) (key:ByteArray) (hl:l.length≤2 ^ 48),Te 185598127 [.one (slT false 7 (RowV.enc false) l),.ptr [sT key]] ⟨[.one (iT (rowAt l key))],[[slT false 7 (RowV.enc false) l],[sT key]]⟩
abbrev C_B3 (Te:TE):Prop:=∀ (t:TabV) (key:ByteArray) (hl:t.Rows.length≤2 ^ 48),Te 87 [.agg (t.enc false),.one (sT key)] ⟨[.one (iT (rowAt t.Rows key))],[t.enc false,[sT key]]⟩
abbrev C_Dx (Te:TE):Prop:=∀ (t:TabV) (key:ByteArray) (hl:t.Rows.length≤2 ^ 48),Te 104 [.agg (t.enc false),.one (sT key)] ⟨[.one (iT (rowAt t.Rows key))],[t.enc false,[sT key]]⟩
def NodeV.get (n:NodeV) (key:ByteArray):ByteArray×Int:=if n.up=true then (match n.S.T.Rows[rowIx n.S.T.Rows key]? with
 | none=>(⟨#[]⟩,2)
 | some r=>if r.rtext.2=true then (r.rtext.1,0) else (⟨#[]⟩,4)) else (⟨#[]⟩,1)
theorem TabV.ok_row {t:TabV} (h:t.ok=true) {i:Nat} (hi:i < t.Rows.length):t.Rows[i].ok=true:=by
 simp only [TabV.ok,Bool.and_eq_true,List.all_eq_true] at h
 have:=h.1.1 i (List.mem_range.2 hi)
 simp only [rowGood,List.getElem?_eq_getElem hi,Option.map_some,Option.getD_some,Bool.and_eq_true] at this
 exact this.1
theorem NodeV.up_tab {n:NodeV} (h:n.up=true):n.S.T.ok=true:=by
 simp only [NodeV.up,NodeV.ok,StoreV.ok,Bool.and_eq_true] at h
 exact h.1.1.1.1.2
abbrev C_Ap (Te:TE):Prop:=∀ (n:NodeV) (key:ByteArray) (h:n.In (2 ^ 48)),Te 22 [.agg (n.enc false),.one (sT key)] ⟨[.one (sT (n.get key).1),.one (iT (n.get key).2)],[n.enc false,[sT key]]⟩
abbrev C_Dh (Te:TE):Prop:=∀ (n:NodeV) (key:ByteArray) (h:n.In (2 ^ 48)),Te 31 [.agg (n.enc false),.one (sT key)] ⟨[.one (sT (n.get key).1),.one (iT (n.get key).2)],[n.enc false,[sT key]]⟩
theorem app1Rw (l:List RowV) (x:RowV):List.map (RowV.enc true) l++[x.enc true]=List.map (RowV.enc true) (l++[x]):=by rw [List.map_append]; rfl
theorem take_marks (l:List MarkV):List.take l.length (l.map MarkV.row)=l.map MarkV.row:=List.take_of_length_le (by simp)
attribute [go_sem] take_marks
abbrev C_Ec (Te:TE):Prop:=∀ (d:DevV) (h:d.Len),Te 248 [.agg (d.enc false)] ⟨[.agg (d.enc true)],[d.enc false]⟩
abbrev C_Bu (Te:TE):Prop:=∀ (t:TabV) (h:t.Len),Te 246 [.agg (t.enc false)] ⟨[.agg (t.enc true)],[t.enc false]⟩
abbrev C_En (Te:TE):Prop:=∀ (t:TabV) (h:t.Len),Te 249 [.agg (t.enc false)] ⟨[.agg (t.enc true)],[t.enc false]⟩
abbrev C_Bt (Te:TE):Prop:=∀ (s:StoreV) (h:s.Len),Te 158 [.agg (s.enc false)] ⟨[.agg (s.enc true)],[s.enc false]⟩
abbrev C_Ex (Te:TE):Prop:=∀ (s:StoreV) (h:s.Len),Te 162 [.agg (s.enc false)] ⟨[.agg (s.enc true)],[s.enc false]⟩
abbrev C_Br (Te:TE):Prop:=∀ (n:NodeV) (h:n.Len),Te 60 [.agg (n.enc false)] ⟨[.agg (n.enc true)],[n.enc false]⟩
abbrev C_F1 (Te:TE):Prop:=∀ (n:NodeV) (h:n.Len),Te 65 [.agg (n.enc false)] ⟨[.agg (n.enc true)],[n.enc false]⟩
def insM (m:MarkV) (s:List MarkV×Bool) (x:MarkV):List MarkV×Bool :=
 let o1:=if !s.2&&decide (x.Who≥m.Who) then s.1++[m] else s.1
 (if decide (x.Who≠m.Who) then o1++[x] else o1,s.2||decide (x.Who≥m.Who))
def insMark (l:List MarkV) (m:MarkV):List MarkV:=let s:=l.foldl (insM m) ([],false); if s.2 then s.1 else s.1++[m]
theorem insM_step {l:List MarkV} {m:MarkV} {i:Nat} (h:i < l.length):insM m ((l.take i).foldl (insM m) ([],false)) l[i]=(l.take (i + 1)).foldl (insM m) ([],false):=by
 rw [List.take_succ_eq_append_getElem h,List.foldl_append]; rfl
theorem app1M (l:List MarkV) (x:MarkV):List.map MarkV.row l++[[iT x.Who,iT x.Seq,iT x.Code]]=List.map MarkV.row (l++[x]):=by rw [List.map_append]; rfl
theorem insM_len (m:MarkV) (s:List MarkV×Bool) (x:MarkV):(insM m s x).1.length≤s.1.length + 2:=by
 simp only [insM]
 split <;> split <;> (try simp only [List.length_append,List.length_cons,List.length_nil]) <;> omega
theorem insM_le (m:MarkV) (l:List MarkV):∀ s,(l.foldl (insM m) s).1.length≤s.1.length + 2 * l.length:=by
 induction l with
 | nil=>intro s; exact Nat.le_add_right _ _
 | cons x l ih =>
  intro s
  have h1:=ih (insM m s x)
  have h2:=insM_len m s x
  simp only [List.foldl_cons,List.length_cons]
  omega
abbrev C_Cf (Te:TE):Prop:=∀ (l:List MarkV) (m:MarkV) (h:l.length≤2 ^ 24),Te 310 [.one (slT false 3 MarkV.row l),.agg m.row] ⟨[.one (slT true 3 MarkV.row (insMark l m))],[[slT false 3 MarkV.row l],m.row]⟩
abbrev C_Eq (Te:TE):Prop:=∀ (l:List MarkV) (m:MarkV) (h:l.length≤2 ^ 24),Te 278 [.one (slT false 3 MarkV.row l),.agg m.row] ⟨[.one (slT true 3 MarkV.row (insMark l m))],[[slT false 3 MarkV.row l],m.row]⟩
def insR (r:RowV) (s:List RowV×Bool) (x:RowV):List RowV×Bool :=
 let o1:=if !s.2 && !Op.bytesLess x.Key.toList r.Key.toList then s.1++[r] else s.1
 (if decide (x.Key=r.Key) then o1 else o1++[x],s.2 || !Op.bytesLess x.Key.toList r.Key.toList)
def insRow (l:List RowV) (r:RowV):List RowV:=let s:=l.foldl (insR r) ([],false); if s.2 then s.1 else s.1++[r]
theorem insR_step {l:List RowV} {r:RowV} {i:Nat} (h:i < l.length):insR r ((l.take i).foldl (insR r) ([],false)) l[i]=(l.take (i + 1)).foldl (insR r) ([],false):=by
 rw [List.take_succ_eq_append_getElem h,List.foldl_append]; rfl
theorem insR_len (r:RowV) (s:List RowV×Bool) (x:RowV):(insR r s x).1.length≤s.1.length + 2:=by
 simp only [insR]
 split <;> split <;> (try simp only [List.length_append,List.length_cons,List.length_nil]) <;> omega
theorem insR_le (r:RowV) (l:List RowV):∀ s,(l.foldl (insR r) s).1.length≤s.1.length + 2 * l.length:=by
 induction l with
 | nil=>intro s; exact Nat.le_add_right _ _
 | cons x l ih =>
  intro s
  have h1:=ih (insR r s x)
  have h2:=insR_len r s x
  simp only [List.foldl_cons,List.length_cons]
  omega
def leftR (r:RowV) (x:RowV):List T:=if decide (x.Key=r.Key) then x.enc true else [sT x.Key,iT x.Old.Tag,.no (),iT x.New.Tag,.no (),iT x.Has,bT x.Aside]
def leftRows (r:RowV) (l:List RowV) (i:Nat):List (List T):=(l.take i).map (leftR r)++(l.drop i).map (RowV.enc true)
theorem left_len (r:RowV) (l:List RowV) (i:Nat):(leftRows r l i).length=l.length:=by
 simp only [leftRows,List.length_append,List.length_map,List.length_take,List.length_drop]; omega
theorem left_zero (r:RowV) (l:List RowV):leftRows r l 0=l.map (RowV.enc true):=rfl
theorem left_get {r:RowV} {l:List RowV} {i:Nat} (h:i < l.length):(leftRows r l i)[i]?=some (l[i].enc true):=by
 have e:((l.take i).map (leftR r)).length=i:=by simp; omega
 rw [leftRows,List.getElem?_append_right (by omega),e,Nat.sub_self,List.getElem?_map,List.getElem?_drop,Nat.add_zero,List.getElem?_eq_getElem h]
 rfl
theorem left_set {r:RowV} {l:List RowV} {i:Nat} (h:i < l.length):(leftRows r l i).set i (leftR r l[i])=leftRows r l (i + 1):=by
 have e:((l.take i).map (leftR r)).length=i:=by simp; omega
 rw [leftRows,List.set_append_right _ _ (by omega),e,Nat.sub_self,List.drop_eq_getElem_cons h,List.map_cons,List.set_cons_zero,leftRows,List.take_succ_eq_append_getElem h,List.map_append,List.append_assoc]
 rfl
theorem left_same {r:RowV} {l:List RowV} {i:Nat} (h:i < l.length) (hk:decide (l[i].Key=r.Key)=true):leftRows r l i=leftRows r l (i + 1):=by
 have e:=left_set (r:=r) h
 have e2:leftR r l[i]=l[i].enc true:=if_pos hk
 rw [e2] at e
 rw [← e]
 have h2:i < (leftRows r l i).length:=by rw [left_len]; exact h
 have h3:(leftRows r l i)[i]=l[i].enc true:=by
  have:=left_get (r:=r) h
  rw [List.getElem?_eq_getElem h2] at this
  exact Option.some.inj this
 rw [← h3,List.set_getElem_self]
abbrev C_Cg (Te:TE):Prop:=∀ (l:List RowV) (r:RowV) (h:l.length≤2 ^ 24) (hr:r.Len),Te 307 [.one (slT true 7 (RowV.enc true) l),.agg (r.enc false)] ⟨[.one (slT true 7 (RowV.enc true) (insRow l r))],[[Tr.sl true 7 () (leftRows r l l.length)],r.enc false]⟩
abbrev C_Er (Te:TE):Prop:=∀ (l:List RowV) (r:RowV) (h:l.length≤2 ^ 24) (hr:r.Len),Te 277 [.one (slT true 7 (RowV.enc true) l),.agg (r.enc false)] ⟨[.one (slT true 7 (RowV.enc true) (insRow l r))],[[Tr.sl true 7 () (leftRows r l l.length)],r.enc false]⟩
def delRows (l:List RowV) (key:ByteArray):List RowV:=l.filter fun x=>!decide (x.Key=key)
theorem delRows_none {l:List RowV} {key:ByteArray} (h:rowAt l key = -1):delRows l key=l:=by
 rcases rowAt_cases l key with ⟨_,h2⟩ | ⟨h1,h2,_⟩
 ·rw [delRows,List.filter_eq_self]
  intro x hx
  have:¬ rowIx l key < l.length:=fun hl=>by rw [List.getElem?_eq_getElem hl] at h2; cases h2
  rw [rowIx,List.findIdx_lt_length] at this
  cases g:decide (x.Key=key)
  ·rfl
  ·exact absurd ⟨x,hx,g⟩ this
 ·rw [h2] at h; omega
theorem before_ix {l:List RowV} {key:ByteArray} {j:Nat} (hj:j < l.length) (h:j < rowIx l key):decide (l[j].Key=key)=false:=by
 have:=List.not_of_lt_findIdx (p:=fun r:RowV=>decide (r.Key=key)) h
 simpa using this
theorem delRows_take {l:List RowV} {key:ByteArray} (h:rowIx l key < l.length):delRows (l.take (rowIx l key + 1)) key=l.take (rowIx l key):=by
 have hk:decide (l[rowIx l key].Key=key)=true:=List.findIdx_getElem (w:=h)
 rw [List.take_succ_eq_append_getElem h,delRows,List.filter_append]
 have e1:(l.take (rowIx l key)).filter (fun x=>!decide (x.Key=key))=l.take (rowIx l key):=by
  rw [List.filter_eq_self]
  intro x hx
  obtain ⟨j,hj,rfl⟩:=List.mem_iff_getElem.1 hx
  have hj':j < rowIx l key:=by simp only [List.length_take] at hj; omega
  rw [List.getElem_take,before_ix (by omega) hj']
  rfl
 rw [e1,List.filter_cons,hk]
 simp
theorem delRows_step {l:List RowV} {key:ByteArray} {j:Nat} (h:j < l.length):delRows (l.take (j + 1)) key=if decide (l[j].Key=key)=true then delRows (l.take j) key else delRows (l.take j) key++[l[j]]:=by
 rw [List.take_succ_eq_append_getElem h,delRows,List.filter_append,List.filter_cons]
 cases decide (l[j].Key=key) <;> simp [delRows]
def goneR (x:RowV):List T:=[sT x.Key,iT x.Old.Tag,.no (),iT x.New.Tag,.no (),iT x.Has,bT x.Aside]
def delSt (l k:List RowV) (m:List (List T)) (j:Nat):List (List T):=k.map (RowV.enc true)++m++(l.drop j).map (RowV.enc true)
theorem delSt_len {l k:List RowV} {m:List (List T)} {j:Nat} (hj:j≤l.length) (h:k.length + m.length=j):(delSt l k m j).length=l.length:=by
 simp only [delSt,List.length_append,List.length_map,List.length_drop]; omega
theorem delSt_get {l k:List RowV} {m:List (List T)} {j:Nat} (hj:j < l.length) (h:k.length + m.length=j):(delSt l k m j)[j]?=some (l[j].enc true):=by
 rw [delSt,List.getElem?_append_right (by simp; omega),List.getElem?_map,List.getElem?_drop]
 simp only [List.length_append,List.length_map,h,Nat.sub_self,Nat.add_zero,List.getElem?_eq_getElem hj]
 rfl
theorem delSt_skip {l k:List RowV} {m:List (List T)} {j:Nat} (hj:j < l.length):delSt l k m j=delSt l k (m++[l[j].enc true]) (j + 1):=by
 simp only [delSt,List.drop_eq_getElem_cons hj,List.map_cons,List.append_assoc,List.cons_append,List.nil_append]
theorem delSt_move {l k:List RowV} {m:List (List T)} {x:List T} {j:Nat} (hj:j < l.length) (h:k.length + (x::m).length=j):((delSt l k (x::m) j).set j (goneR l[j])).set k.length (l[j].enc true)=delSt l (k++[l[j]]) (m++[goneR l[j]]) (j + 1):=by
 have e1:(k.map (RowV.enc true)++x::m).length=j:=by simpa using h
 rw [delSt,List.set_append_right _ _ (by omega),e1,Nat.sub_self,List.drop_eq_getElem_cons hj,List.map_cons,List.set_cons_zero,List.append_assoc,List.set_append_right _ _ (by simp),List.length_map,Nat.sub_self,List.cons_append,List.set_cons_zero,delSt,List.map_append]
 simp
theorem delSt_row {l k:List RowV} {m:List (List T)} {x:List T} {j:Nat}:(delSt l k (x::m) j).getD k.length []=x:=by
 rw [List.getD_eq_getElem?_getD,delSt,List.append_assoc,List.getElem?_append_right (by simp)]
 simp
abbrev RecV.dim (r:RecV):List T:=[iT r.Kind,sT r.R.Key,iT r.R.Old.Tag,.no (),iT r.R.New.Tag,.no (),iT r.R.Has,bT r.R.Aside,sT r.Key,iT r.N,iT r.Who,iT r.Seq,iT r.Code]
abbrev C_A2 (Te:TE):Prop:=∀ (x:RowV) (r:RecV),Te 309 [.agg (x.enc false),.ptr r.dim] ⟨[.one (bT (decide (x.Key=r.Key)))],[x.enc false,r.dim]⟩
abbrev C_Go (Te:TE):Prop:=∀ (l:List RowV) (r:RecV) (hl:l.length≤2 ^ 48),Te 325058735 [.one (slT false 7 (RowV.enc false) l),.ptr r.dim] ⟨[.one (iT (rowAt l r.Key))],[[slT false 7 (RowV.enc false) l],r.dim]⟩
abbrev C_Gn (Te:TE):Prop:=∀ (l:List RowV) (r:RecV) (hl:l.length≤2 ^ 24),Te 325058868 [.one (slT true 7 (RowV.enc true) l),.ptr r.dim] ⟨[.one (slT true 7 (RowV.enc true) (delRows l r.Key))],[[.no ()],r.dim]⟩
def TabV.put (t:TabV) (r:RecV):TabV :=
 bif r.Kind==1 then ⟨insRow t.Rows r.R,t.Phase,t.Marks⟩ else bif r.Kind==2 then ⟨delRows t.Rows r.Key,t.Phase,t.Marks⟩ else bif r.Kind==3 then ⟨t.Rows,r.N,t.Marks⟩ else t
def TabV.change (t:TabV) (r:RecV):TabV:=bif decide (r.Who > 0) then ⟨(t.put r).Rows,(t.put r).Phase,insMark (t.put r).Marks ⟨r.Who,r.Seq,r.Code⟩⟩ else t.put r
def TabV.apply (t:TabV) (r:RecV):TabV×Bool:=bif r.ok&&t.ok&&(t.change r).ok then (t.change r,true) else (t,false)
theorem insR_mem (r:RowV) (s:List RowV×Bool) (x y:RowV) (h:y∈(insR r s x).1):y∈s.1∨y=r∨y=x:=by
 simp only [insR] at h
 split at h <;> split at h <;> (try simp only [List.mem_append,List.mem_cons,List.not_mem_nil,or_false] at h)
 ·rcases h with h | h
  ·exact .inl h
  ·exact .inr (.inl h)
 ·exact .inl h
 ·rcases h with (h | h) | h
  ·exact .inl h
  ·exact .inr (.inl h)
  ·exact .inr (.inr h)
 ·rcases h with h | h
  ·exact .inl h
  ·exact .inr (.inr h)
theorem insR_all (r:RowV) (l:List RowV):∀ s y,y∈(l.foldl (insR r) s).1→y∈s.1∨y=r∨y∈l:=by
 induction l with
 | nil=>intro s y h; exact .inl h
 | cons x l ih =>
  intro s y h
  rcases ih _ y h with h | h | h
  ·rcases insR_mem r s x y h with h | h | h
   ·exact .inl h
   ·exact .inr (.inl h)
   ·exact .inr (.inr (by rw [h]; exact List.mem_cons_self ..))
  ·exact .inr (.inl h)
  ·exact .inr (.inr (List.mem_cons_of_mem _ h))
theorem insRow_mem {l:List RowV} {r y:RowV} (h:y∈insRow l r):y=r∨y∈l:=by
 simp only [insRow] at h
 split at h
 ·rcases insR_all r l _ y h with h | h | h
  ·cases h
  ·exact .inl h
  ·exact .inr h
 ·rcases List.mem_append.1 h with h | h
  ·rcases insR_all r l _ y h with h | h | h
   ·cases h
   ·exact .inl h
   ·exact .inr h
  ·simp only [List.mem_cons,List.not_mem_nil,or_false] at h
   exact .inl h
theorem insRow_le (l:List RowV) (r:RowV):(insRow l r).length≤2 * l.length + 1:=by
 have:=insR_le r l ([],false)
 simp only [List.length_nil,Nat.zero_add] at this
 simp only [insRow]
 split
 ·omega
 ·simp only [List.length_append,List.length_cons,List.length_nil]; omega
theorem insMark_le (l:List MarkV) (m:MarkV):(insMark l m).length≤2 * l.length + 1:=by
 have:=insM_le m l ([],false)
 simp only [List.length_nil,Nat.zero_add] at this
 simp only [insMark]
 split
 ·omega
 ·simp only [List.length_append,List.length_cons,List.length_nil]; omega
theorem put_in {t:TabV} {r:RecV} {n:Nat} (ht:t.In n) (hr:r.In n):(t.put r).In (2 * n + 1):=by
 obtain ⟨⟨h1,h2⟩,h3⟩:=ht
 unfold TabV.put
 cases r.Kind==1
 ·cases r.Kind==2
  ·cases r.Kind==3 <;> exact ⟨⟨by simp only [cond_true,cond_false]; omega,fun y hy=>(h2 y hy).mono (by omega)⟩,by simp only [cond_true,cond_false]; omega⟩
  ·exact ⟨⟨Nat.le_trans (List.length_filter_le ..) (by omega),fun y hy=>(h2 y (List.mem_filter.1 hy).1).mono (by omega)⟩,by simp only [cond_true,cond_false]; omega⟩
 ·refine ⟨⟨by simp only [cond_true]; have:=insRow_le t.Rows r.R; omega,fun y hy=>?_⟩,by simp only [cond_true]; omega⟩
  rcases insRow_mem hy with rfl | hy
  ·exact hr.1.mono (by omega)
  ·exact (h2 y hy).mono (by omega)
theorem change_in {t:TabV} {r:RecV} {n:Nat} (ht:t.In n) (hr:r.In n):(t.change r).In (4 * n + 3):=by
 have h:=put_in ht hr
 unfold TabV.change
 cases decide (r.Who > 0)
 ·exact h.mono (by omega)
 ·refine ⟨⟨Nat.le_trans h.1.1 (by omega),fun y hy=>(h.1.2 y hy).mono (by omega)⟩,?_⟩
  have:=insMark_le (t.put r).Marks ⟨r.Who,r.Seq,r.Code⟩
  have:=h.2
  simp only [cond_true]
  omega
theorem kinds (k:Int):(k==1)=true∨((k==1)=false∧(k==2)=true)∨((k==1)=false∧(k==2)=false∧(k==3)=true)∨((k==1)=false∧(k==2)=false∧(k==3)=false):=by
 cases k==1 <;> cases k==2 <;> cases k==3 <;> simp
abbrev C_A1 (Te:TE):Prop:=∀ (t:TabV) (r:RecV) (ht:t.In (2 ^ 20)) (hr:r.In (2 ^ 20)),Te 255 [.agg (t.enc false),.agg (r.enc false)] ⟨[.agg ((t.apply r).1.enc true),.one (bT (t.apply r).2)],[t.enc false,r.enc false]⟩
theorem less_trans:∀ {a b c:List UInt8},Op.bytesLess a b=true→Op.bytesLess b c=true→Op.bytesLess a c=true
 | [],[],_,h,_=>by simp [Op.bytesLess] at h
 | [],_::_,[],_,h=>by simp [Op.bytesLess] at h
 | [],_::_,_::_,_,_=>by simp [Op.bytesLess]
 | _::_,[],_,h,_=>by simp [Op.bytesLess] at h
 | _::_,_::_,[],_,h=>by simp [Op.bytesLess] at h
 | a::as,b::bs,c::cs,h1,h2=>by
  simp only [Op.bytesLess,Bool.or_eq_true,Bool.and_eq_true,decide_eq_true_eq,beq_iff_eq] at h1 h2 ⊢
  rcases h1 with h1 | ⟨rfl,h1⟩
  ·rcases h2 with h2 | ⟨rfl,h2⟩
   ·exact .inl (UInt8.lt_trans h1 h2)
   ·exact .inl h1
  ·rcases h2 with h2 | ⟨rfl,h2⟩
   ·exact .inl h2
   ·exact .inr ⟨rfl,less_trans h1 h2⟩
theorem less_irrefl:∀ a:List UInt8,Op.bytesLess a a=false
 | []=>by simp [Op.bytesLess]
 | a::as=>by simp [Op.bytesLess,less_irrefl as]
theorem keys_less {t:TabV} (h:t.ok=true) {i:Nat}:∀ (d:Nat) (hd:i + d + 1 < t.Rows.length),Op.bytesLess (t.Rows[i]'(by omega)).Key.toList (t.Rows[i + d + 1]'hd).Key.toList=true:=by
 have step:∀ j (hj:j + 1 < t.Rows.length),Op.bytesLess (t.Rows[j]'(by omega)).Key.toList (t.Rows[j + 1]'hj).Key.toList=true:=fun j hj=>by
  simp only [TabV.ok,Bool.and_eq_true,List.all_eq_true] at h
  have:=h.1.1 (j + 1) (List.mem_range.2 hj)
  rw [rowGood_succ hj,Bool.and_eq_true] at this
  exact this.2
 intro d
 induction d with
 | zero=>intro hd; exact step i hd
 | succ d ih=>intro hd; exact less_trans (ih (by omega)) (step (i + d + 1) hd)
theorem delRows_ok {t:TabV} (h:t.ok=true) {key:ByteArray} (hk:rowIx t.Rows key < t.Rows.length):delRows t.Rows key=t.Rows.take (rowIx t.Rows key)++t.Rows.drop (rowIx t.Rows key + 1):=by
 have e0:=delRows_take hk
 have hkk:decide (t.Rows[rowIx t.Rows key].Key=key)=true:=List.findIdx_getElem (w:=hk)
 have e1:delRows (t.Rows.drop (rowIx t.Rows key + 1)) key=t.Rows.drop (rowIx t.Rows key + 1):=by
  rw [delRows,List.filter_eq_self]
  intro x hx
  obtain ⟨j,hj,rfl⟩:=List.mem_iff_getElem.1 hx
  rw [List.getElem_drop]
  rw [List.length_drop] at hj
  have hl:=keys_less h (i:=rowIx t.Rows key) j (by omega)
  rw [Bool.not_eq_true',decide_eq_false_iff_not]
  intro he
  have e2:t.Rows[rowIx t.Rows key].Key=key:=by simpa using hkk
  have e3:(t.Rows[rowIx t.Rows key + j + 1]'(by omega)).Key=key:=by
   have e4:rowIx t.Rows key + j + 1=rowIx t.Rows key + 1 + j:=by omega
   simp only [e4]
   exact he
  rw [e2,e3,less_irrefl] at hl
  cases hl
 have e2:delRows t.Rows key=delRows (t.Rows.take (rowIx t.Rows key + 1)) key++delRows (t.Rows.drop (rowIx t.Rows key + 1)) key:=by
  rw [delRows,delRows,delRows,← List.filter_append,List.take_append_drop]
 rw [e2,e0,e1]
theorem whoPos {r:RecV} (h:r.ok=true):decide (r.Who > 0)=(r.Who != 0):=by
 have:0≤r.Who:=by
  simp only [RecV.ok,Bool.and_eq_true] at h
  have h2:=h.2
  cases g:r.Who==0
  ·rw [RecV.who,g] at h2
   simp only [cond_false,win,Bool.and_eq_true,decide_eq_true_eq] at h2
   omega
  ·have:=eq_of_beq g
   omega
 by_cases e:r.Who=0
 ·rw [e]; rfl
 ·rw [decide_eq_true (by omega),bne_iff_ne.2 e]
abbrev C_Cs (Te:TE):Prop:=∀ (t:TabV) (r:RecV) (ht:t.In (2 ^ 20)) (hr:r.In (2 ^ 20)),Te 190 [.agg (t.enc false),.agg (r.enc false)] ⟨[.agg ((t.apply r).1.enc true),.one (bT (t.apply r).2)],[t.enc false,r.enc false]⟩
theorem burn_secs2 (d:DevV):d.burn.Secs.length=d.Secs.length:=by rw [burn_secs]
theorem write_secs (d:DevV) (n:Int) (b:List UInt8):(d.write n b).Secs.length=d.Secs.length:=by
 unfold DevV.write
 split
 ·rfl
 ·split
  ·exact burn_secs2 d
  ·exact burn_secs2 d
theorem flush_secs (d:DevV):d.flush.Secs.length=d.Secs.length:=by
 unfold DevV.flush
 split
 ·rfl
 ·split
  ·exact burn_secs2 d
  ·exact flushed_len d.Cache d.Secs
theorem layN_secs (gen:Int) (recs:List RecV) (d:DevV):∀ i,(layN gen recs d i).Secs.length=d.Secs.length:=by
 intro i
 induction i with
 | zero=>rfl
 | succ i ih=>rw [layN,write_secs,ih]
theorem layDev_secs (gen:Int) (recs:List RecV) (d:DevV):(layDev gen recs d).Secs.length=d.Secs.length:=by
 rw [layDev,flush_secs,write_secs,flush_secs,layN_secs]
def StoreV.relay (s:StoreV):StoreV:=bif s.ok && !s.D.Down && !(s.Gen==60000) then s.lay (s.Gen + 1) else s
theorem StoreV.ok_iff (s:StoreV):s.ok=true↔s.D.ok=true∧s.D.Secs.length=62∧(s.D.Cache.length=0∨s.D.Down=true)∧s.T.ok=true∧(1≤s.Gen∧s.Gen≤60000)∧(0≤s.Place∧s.Place≤30):=by
 simp only [StoreV.ok,Bool.and_eq_true,Bool.or_eq_true,beq_iff_eq,win,decide_eq_true_eq,and_assoc]
 constructor
 ·rintro ⟨h1,h2,h3,h4,h5⟩
  exact ⟨h1,by omega,h3.imp (fun h=>by omega) id,h4,h5⟩
 ·rintro ⟨h1,h2,h3,h4,h5⟩
  exact ⟨h1,by omega,h3.imp (fun h=>by omega) id,h4,h5⟩
abbrev C_Ai (Te:TE):Prop:=∀ (s:StoreV) (h:s.In (2 ^ 20)),Te 256 [.agg (s.enc false)] ⟨[.agg (s.relay.enc true)],[s.enc false]⟩
def StoreV.fits (s:StoreV) (r:RecV):Bool:=s.ok && !s.D.Down&&(s.T.apply r).2
def StoreV.room (s:StoreV):StoreV:=bif s.Place==30 then s.relay else s
def StoreV.log (s:StoreV) (r:RecV):DevV:=(s.D.write (secOf s.Gen s.Place) (putRec s.Gen s.Place r)).flush
def StoreV.end (s:StoreV) (t:TabV) (r:RecV):StoreV×Bool :=
 bif s.D.Down||(s.Place==30) then (s,false) else bif (s.log r).Down then (⟨s.log r,s.T,s.Gen,s.Place⟩,false) else (⟨s.log r,t,s.Gen,s.Place + 1⟩,true)
def StoreV.add (s:StoreV) (r:RecV):StoreV×Bool:=bif s.fits r then s.room.end (s.T.apply r).1 r else (s,false)
theorem relay_ok {s:StoreV} (h:s.ok=true):s.relay.D.ok=true∧(1≤s.relay.Gen∧s.relay.Gen≤60000)∧s.relay.T=s.T∧s.relay.D.Secs.length=62:=by
 have hk:=(StoreV.ok_iff s).1 h
 unfold StoreV.relay
 cases g:(s.ok && !s.D.Down && !(s.Gen==60000))
 ·exact ⟨hk.1,hk.2.2.2.2.1,rfl,hk.2.1⟩
 ·have hg:¬ s.Gen=60000:=by
   simp only [Bool.and_eq_true,Bool.not_eq_true',beq_eq_false_iff_ne] at g
   exact g.2
  have hL:=layDev_ok hk.1 (s.Gen + 1) (recsOf s.T)
  have hl:=layDev_secs (s.Gen + 1) (recsOf s.T) s.D
  simp only [cond_true,StoreV.lay]
  split
  ·exact ⟨hL,hk.2.2.2.2.1,rfl,hl.trans hk.2.1⟩
  ·exact ⟨hL,by simp only; omega,rfl,hl.trans hk.2.1⟩
theorem room_ok {s:StoreV} (h:s.ok=true) (hT:s.T.In (2 ^ 20)):s.room.D.ok=true∧(1≤s.room.Gen∧s.room.Gen≤60000)∧s.room.T=s.T∧s.room.D.Secs.length=62∧(0≤s.room.Place∧s.room.Place≤2 ^ 30):=by
 have hk:=(StoreV.ok_iff s).1 h
 obtain ⟨r1,r2,r3,r4⟩:=relay_ok h
 unfold StoreV.room
 cases s.Place==30
 ·exact ⟨hk.1,hk.2.2.2.2.1,rfl,hk.2.1,by simp only [cond_false]; omega⟩
 ·refine ⟨r1,r2,r3,r4,?_⟩
  simp only [cond_true]
  unfold StoreV.relay
  cases g:(s.ok && !s.D.Down && !(s.Gen==60000))
  ·simp only [cond_false]; omega
  ·have hl:=(recsOf_le hT).1
   simp only [cond_true,StoreV.lay]
   split
   ·simp only; omega
   ·simp only; omega
abbrev C_A0 (Te:TE):Prop:=∀ (s:StoreV) (r:RecV) (hs:s.In (2 ^ 20)) (hr:r.In (2 ^ 20)),Te 174 [.agg (s.enc false),.agg (r.enc false)] ⟨[.agg ((s.add r).1.enc true),.one (bT (s.add r).2)],[s.enc false,r.enc false]⟩
abbrev C_Bk (Te:TE):Prop:=∀ (n:NodeV) (r:RecV) (hn:n.In (2 ^ 20)) (hr:r.In (2 ^ 20)),Te 86 [.agg (n.enc false),.agg (r.enc false)] ⟨[.agg ((NodeV.mk (n.S.add r).1 n.Cs).enc true),.one (bT (n.S.add r).2)],[n.enc false,r.enc false]⟩
abbrev C_Eu (Te:TE):Prop:=∀ (s:StoreV) (r:RecV) (hk:s.ok=true) (hd:s.D.Down=false) (hT:s.T.In (2 ^ 20)) (hr:r.In (2 ^ 20)),Te 103 [.ptr (s.enc true),.agg (r.enc false)] ⟨[.one (bT (s.add r).2)],[(s.add r).1.enc true,r.enc false]⟩
def markAt (l:List MarkV) (who:Int):Option MarkV:=l.find? fun m=>m.Who==who
def MarkV.zero:MarkV:=⟨0,0,0⟩
theorem markAt_hit {l:List MarkV} {who:Int} {i:Nat} (h:i < l.length) (hp:∀ j (hj:j < l.length),j < i→(l[j].Who==who)=false) (hk:(l[i].Who==who)=true):markAt l who=some l[i]:=by
 rw [markAt,List.find?_eq_some_iff_getElem]
 exact ⟨hk,i,h,rfl,fun j hj=>by simpa using hp j (by omega) hj⟩
theorem markAt_none {l:List MarkV} {who:Int} {i:Nat} (hi:l.length≤i) (hp:∀ j (hj:j < l.length),j < i→(l[j].Who==who)=false):markAt l who=none:=by
 rw [markAt,List.find?_eq_none]
 intro x hx
 obtain ⟨j,hj,rfl⟩:=List.mem_iff_getElem.1 hx
 simpa using hp j hj (by omega)
theorem markAt_step {l:List MarkV} {who:Int} {i:Nat} (h:i < l.length) (hp:∀ j (hj:j < l.length),j < i→(l[j].Who==who)=false) (hk:(l[i].Who==who)=false):∀ j (hj:j < l.length),j < i + 1→(l[j].Who==who)=false:=by
 intro j hj hji
 by_cases e:j=i
 ·subst e; exact hk
 ·exact hp j hj (by omega)
abbrev C_Aj (Te:TE):Prop:=∀ (t:TabV) (who:Int) (hl:t.Marks.length≤2 ^ 48),Te 160 [.agg (t.enc false),.one (iT who)] ⟨[.agg ((markAt t.Marks who).getD MarkV.zero).row,.one (bT (markAt t.Marks who).isSome)],[t.enc false,[iT who]]⟩
abbrev C_Db (Te:TE):Prop:=∀ (t:TabV) (who:Int) (hl:t.Marks.length≤2 ^ 48),Te 78 [.agg (t.enc false),.one (iT who)] ⟨[.agg ((markAt t.Marks who).getD MarkV.zero).row,.one (bT (markAt t.Marks who).isSome)],[t.enc false,[iT who]]⟩
def oldOf (m:Option MarkV) (seq:Int):Int×Bool:=match m with
 | none=>(0,false)
 | some m=>bif decide (m.Seq > seq) then (1,true) else bif m.Seq==seq then (m.Code,true) else (0,false)
def NodeV.old (n:NodeV) (who seq:Int):Int×Bool:=bif !n.up || !win who 1 9 || !win seq 1 65535 then (1,true) else oldOf (markAt n.S.T.Marks who) seq
abbrev C_C4 (Te:TE):Prop:=∀ (who seq:Int),Te 72 [.one (iT who),.one (iT seq)] ⟨[.one (bT (win who 1 9&&win seq 1 65535))],[[iT who],[iT seq]]⟩
abbrev C_Bl (Te:TE):Prop:=∀ (n:NodeV) (who seq:Int) (hl:n.S.T.Marks.length≤2 ^ 48),Te 73 [.agg (n.enc false),.one (iT who),.one (iT seq)] ⟨[.one (iT (oldOf (markAt n.S.T.Marks who) seq).1),.one (bT (oldOf (markAt n.S.T.Marks who) seq).2)],[n.enc false,[iT who],[iT seq]]⟩
abbrev C_F5 (Te:TE):Prop:=∀ (n:NodeV) (who seq:Int) (h:n.In (2 ^ 48)),Te 108 [.agg (n.enc false),.one (iT who),.one (iT seq)] ⟨[.one (iT (n.old who seq).1),.one (bT (n.old who seq).2)],[n.enc false,[iT who],[iT seq]]⟩
theorem up_ok {n:NodeV} (h:n.up=true):n.S.ok=true∧n.S.D.Down=false∧win n.Cs 1 5=true:=by
 simp only [NodeV.up,NodeV.ok,Bool.and_eq_true,Bool.not_eq_true'] at h
 exact ⟨h.1.1,h.2,h.1.2⟩
def recWho (who seq code:Int):RecV:=⟨4,RowV.zero,⟨#[]⟩,0,who,seq,code⟩
def RecV.by (r:RecV) (who seq code:Int):RecV:=⟨r.Kind,r.R,r.Key,r.N,who,seq,code⟩
def RecV.told (r:RecV):RecV:=bif r.Code != 0 then recWho r.Who r.Seq r.Code else r
def NodeV.added (n:NodeV) (r:RecV):NodeV:=⟨(n.S.add r).1,n.Cs⟩
def NodeV.changed (n:NodeV) (r:RecV):NodeV×Int×Bool:=(n.added r,bif (n.S.add r).2 then r.Code else 5,(n.S.add r).2)
theorem recWho_in (who seq code:Int) (k:Nat):(recWho who seq code).In k:=⟨RowV.zero_in k,Nat.zero_le _⟩
abbrev C_Bo (Te:TE):Prop:=∀ (n:NodeV) (who seq:Int) (r:RecV) (code:Int) (hn:n.In (2 ^ 20)) (hr:r.In (2 ^ 20)),Te 91 [.agg (n.enc false),.one (iT who),.one (iT seq),.agg (r.enc false),.one (iT code)] ⟨[.agg ((n.changed (r.by who seq code)).1.enc true),.one (iT (n.changed (r.by who seq code)).2.1),.one (bT (n.changed (r.by who seq code)).2.2)],[n.enc false,[iT who],[iT seq],r.enc false,[iT code]]⟩
def NodeV.delCode (n:NodeV) (key:ByteArray):Int:=bif nameOk key then (bif decide (rowAt n.S.T.Rows key < 0) then 2 else 0) else 1
def delRec (code:Int) (key:ByteArray):RecV:=bif code != 0 then recWho 0 0 0 else ⟨2,RowV.zero,key,0,0,0,0⟩
abbrev C_Bv (Te:TE):Prop:=∀ (n:NodeV) (key:ByteArray) (hn:n.S.T.Rows.length≤2 ^ 48) (hk:key.size≤2 ^ 48),Te 74 [.agg (n.enc false),.one (sT key)] ⟨[.agg ((delRec (n.delCode key) key).enc true),.one (iT (n.delCode key))],[n.enc false,[sT key]]⟩
def NodeV.del (n:NodeV) (who seq:Int) (key:ByteArray):NodeV×Int×Bool :=
 bif (n.old who seq).2 then (n,(n.old who seq).1,false) else n.changed ((RecV.mk 2 RowV.zero key 0 who seq (n.delCode key)).told)
theorem delRec_by (code:Int) (key:ByteArray) (who seq:Int):(delRec code key).by who seq code=(RecV.mk 2 RowV.zero key 0 who seq code).told:=by
 unfold delRec RecV.told
 simp only
 cases code != 0 <;> rfl
theorem delRec_in (code:Int) {key:ByteArray} {k:Nat} (h:key.size≤k):(delRec code key).In k:=by
 unfold delRec
 cases code != 0
 ·exact ⟨RowV.zero_in k,h⟩
 ·exact recWho_in 0 0 0 k
theorem old_no {n:NodeV} {who seq:Int} (h:(n.up&&(win who 1 9&&win seq 1 65535))=false):n.old who seq=(1,true):=by
 unfold NodeV.old
 cases g1:n.up <;> cases g2:win who 1 9 <;> cases g3:win seq 1 65535 <;> first | rfl | (rw [g1,g2,g3] at h; cases h)
theorem old_yes {n:NodeV} {who seq:Int} (h1:n.up=true) (h2:(win who 1 9&&win seq 1 65535)=true):n.old who seq=oldOf (markAt n.S.T.Marks who) seq:=by
 simp only [Bool.and_eq_true] at h2
 rw [NodeV.old,h1,h2.1,h2.2]
 rfl
abbrev C_Ao (Te:TE):Prop:=∀ (n:NodeV) (who seq:Int) (key:ByteArray) (hn:n.In (2 ^ 20)) (hk:key.size≤2 ^ 20),Te 26 [.agg (n.enc false),.one (iT who),.one (iT seq),.one (sT key)] ⟨[.agg ((n.del who seq key).1.enc true),.one (iT (n.del who seq key).2.1),.one (bT (n.del who seq key).2.2)],[n.enc false,[iT who],[iT seq],[sT key]]⟩
def recPh (p:Int):RecV:=⟨3,RowV.zero,⟨#[]⟩,p,0,0,0⟩
def NodeV.phase1 (n:NodeV) (p:Int):NodeV:=bif nextOk n.S.T.Phase p then n.added (recPh p) else n
def NodeV.phase (n:NodeV) (p:Int):NodeV×Bool:=bif n.up then (n.phase1 p,(n.phase1 p).S.T.Phase==p) else (n,false)
theorem recPh_in (p:Int) (k:Nat):(recPh p).In k:=⟨RowV.zero_in k,Nat.zero_le _⟩
abbrev C_Ar (Te:TE):Prop:=∀ (n:NodeV) (p:Int) (hn:n.In (2 ^ 20)),Te 37 [.agg (n.enc false),.one (iT p)] ⟨[.agg ((n.phase p).1.enc true),.one (bT (n.phase p).2)],[n.enc false,[iT p]]⟩
def sbHit (cs n:Int) (b:Nat):Bool:=(byteSign cs b).2&&((byteSign cs b).1==n)
def signByte (cs n:Int):Int×Bool:=match (List.range 256).find? (sbHit cs n) with
 | some b=>((b:Int),true)
 | none=>(0,false)
theorem signByte_hit {cs n:Int} {i:Nat} (h:i < 256) (hp:∀ j,j < i→sbHit cs n j=false) (hk:sbHit cs n i=true):signByte cs n=((i:Int),true):=by
 have e:(List.range 256).find? (sbHit cs n)=some i:=by
  rw [List.find?_eq_some_iff_getElem]
  exact ⟨hk,i,by simpa using h,by simp,fun j hj=>by simp [hp j hj]⟩
 rw [signByte,e]
theorem signByte_none {cs n:Int} (hp:∀ j,j < 256→sbHit cs n j=false):signByte cs n=(0,false):=by
 have e:(List.range 256).find? (sbHit cs n)=none:=by
  rw [List.find?_eq_none]
  intro x hx
  rw [hp x (List.mem_range.1 hx)]
  decide
 rw [signByte,e]
abbrev C_B9 (Te:TE):Prop:=∀ (cs n:Int),Te 371 [.one (iT cs),.one (iT n)] ⟨[.one (iT (signByte cs n).1),.one (bT (signByte cs n).2)],[[iT cs],[iT n]]⟩
abbrev C_E2 (Te:TE):Prop:=∀ (cs n:Int),Te 322 [.one (iT cs),.one (iT n)] ⟨[.one (iT (signByte cs n).1),.one (bT (signByte cs n).2)],[[iT cs],[iT n]]⟩
def signPair (n:Int):Int×Int×Bool:=bif win n 12353 12435 then (164,n - 12353 + 161,true) else bif win n 12449 12534 then (165,n - 12449 + 161,true) else (0,0,false)
abbrev C_Bb (Te:TE):Prop:=∀ (n:Int),Te 385 [.one (iT n)] ⟨[.one (iT (signPair n).1),.one (iT (signPair n).2.1),.one (bT (signPair n).2.2)],[[iT n]]⟩
abbrev C_E4 (Te:TE):Prop:=∀ (n:Int),Te 355 [.one (iT n)] ⟨[.one (iT (signPair n).1),.one (iT (signPair n).2.1),.one (bT (signPair n).2.2)],[[iT n]]⟩
def putEuc (b:List UInt8) (n:Int):List UInt8×Bool:=bif win n 0 127 then (b++[mkU n],true) else bif (signPair n).2.2 then (b++[mkU (signPair n).1,mkU (signPair n).2.1],true) else (b,false)
abbrev C_Av (Te:TE):Prop:=∀ (b:List UInt8) (n:Int) (hb:b.length≤2 ^ 30),Te 370 [.one (slT false 1 uR b),.one (iT n)] ⟨[.one (slT true 1 uR (putEuc b n).1),.one (bT (putEuc b n).2)],[[slT false 1 uR b],[iT n]]⟩
abbrev C_Dp (Te:TE):Prop:=∀ (b:List UInt8) (n:Int) (hb:b.length≤2 ^ 30),Te 321 [.one (slT false 1 uR b),.one (iT n)] ⟨[.one (slT true 1 uR (putEuc b n).1),.one (bT (putEuc b n).2)],[[slT false 1 uR b],[iT n]]⟩
abbrev C_E5 (Te:TE):Prop:=∀ (s:ByteArray) (hs:s.size≤2 ^ 20),Te 265 [.one (sT s)] ⟨[.one (slT true 1 iR (signsOf s).1),.one (bT (signsOf s).2)],[[sT s]]⟩
def putIn (cs:Int) (b:List UInt8) (n:Int):List UInt8×Bool:=bif cs==0 then (putSign b n,true) else bif cs==5 then putEuc b n else bif (signByte cs n).2 then (b++[mkU (signByte cs n).1],true) else (b,false)
def putLeft (cs:Int) (b:List UInt8) (n:Int):T:=bif cs==0||cs==5 then slT true 1 uR b else .no ()
theorem putEuc_len (b:List UInt8) (n:Int):(putEuc b n).1.length≤b.length + 2:=by
 unfold putEuc
 cases win n 0 127
 ·cases (signPair n).2.2 <;> simp
 ·simp
theorem putIn_len (cs:Int) (b:List UInt8) (n:Int):(putIn cs b n).1.length≤b.length + 4:=by
 unfold putIn
 cases cs==0
 ·cases cs==5
  ·cases (signByte cs n).2 <;> simp
  ·have:=putEuc_len b n
   simp only [cond_true,cond_false]
   omega
 ·exact putSign_len b n
theorem putIn_utf {cs:Int} (h:(cs==0)=true) (b:List UInt8) (n:Int):putIn cs b n=(putSign b n,true):=by rw [putIn,h]; rfl
theorem putIn_euc {cs:Int} (h:(cs==0)=false) (h5:(cs==5)=true) (b:List UInt8) (n:Int):putIn cs b n=putEuc b n:=by rw [putIn,h,h5]; rfl
theorem putIn_no {cs:Int} {n:Int} (h:(cs==0)=false) (h5:(cs==5)=false) (g:(signByte cs n).2=false) (b:List UInt8):putIn cs b n=(b,false):=by rw [putIn,h,h5,g]; rfl
theorem putIn_yes {cs:Int} {n:Int} (h:(cs==0)=false) (h5:(cs==5)=false) (g:(signByte cs n).2=true) (b:List UInt8):putIn cs b n=(b++[mkU (signByte cs n).1],true):=by rw [putIn,h,h5,g]; rfl
abbrev C_C6 (Te:TE):Prop:=∀ (cs:Int) (b:List UInt8) (n:Int) (hb:b.length≤2 ^ 30),Te 351 [.one (iT cs),.one (slT true 1 uR b),.one (iT n)] ⟨[.one (slT true 1 uR (putIn cs b n).1),.one (bT (putIn cs b n).2)],[[iT cs],[putLeft cs b n],[iT n]]⟩
abbrev C_G7 (Te:TE):Prop:=∀ (cs:Int) (b:List UInt8) (n:Int) (hb:b.length≤2 ^ 30) (hn:signOk n=true),Te 266 [.one (iT cs),.one (slT false 1 uR b),.one (iT n)] ⟨[.one (slT true 1 uR (putIn cs b n).1),.one (bT (putIn cs b n).2)],[[iT cs],[slT false 1 uR b],[iT n]]⟩
def encGo (cs:Int) (b:List UInt8):List Int→List UInt8×Bool
 | []=>(b,true)
 | n::l=>bif (putIn cs b n).2 then encGo cs (putIn cs b n).1 l else ([],false)
def encode (cs:Int) (s:ByteArray):List UInt8×Bool:=bif win cs 0 5&&(signsOf s).2 then encGo cs [] (signsOf s).1 else ([],false)
theorem signsOf_len (s:ByteArray):(signsOf s).1.length≤s.size:=by
 unfold signsOf
 split
 ·rw [← sizeL]; exact signs_len _ _
 ·exact Nat.zero_le _
theorem encGo_len (cs:Int) (l:List Int):∀ b,(encGo cs b l).1.length≤b.length + 4 * l.length:=by
 induction l with
 | nil=>intro b; simp [encGo]
 | cons n l ih =>
  intro b
  rw [encGo]
  cases (putIn cs b n).2
  ·simp
  ·have h1:=ih (putIn cs b n).1
   have h2:=putIn_len cs b n
   simp only [cond_true,List.length_cons]
   omega
theorem encode_len (cs:Int) (s:ByteArray):(encode cs s).1.length≤4 * s.size:=by
 unfold encode
 cases win cs 0 5&&(signsOf s).2
 ·exact Nat.zero_le _
 ·have:=encGo_len cs (signsOf s).1 []
  have:=signsOf_len s
  simp only [cond_true,List.length_nil] at *
  omega
abbrev C_Ac (Te:TE):Prop:=∀ (cs:Int) (s:ByteArray) (hs:s.size≤2 ^ 20),Te 303 [.one (iT cs),.one (sT s)] ⟨[.one (slT true 1 uR (encode cs s).1),.one (bT (encode cs s).2)],[[iT cs],[sT s]]⟩
theorem signs_ok:∀ (k:Nat) (l:List UInt8),l.length≤k→Lib.validD l=true→∀ n∈signs l,signOk n=true
 | 0,l,h,_=>by
  have:l=[]:=List.length_eq_zero_iff.1 (by omega)
  subst this
  intro n hn
  rw [signs_nil] at hn
  cases hn
 | k + 1,l,h,hv=>by
  by_cases hne:l=[]
  ·subst hne
   intro n hn
   rw [signs_nil] at hn
   cases hn
  ·have hw:=Lib.decodeL_width l
   have hle:=Lib.decodeL_le l hne
   rw [Lib.validD_step _ hne] at hv
   by_cases hb:(Lib.decodeL l).1=65533∧(Lib.decodeL l).2=1
   ·rw [if_pos hb] at hv; cases hv
   ·rw [if_neg hb] at hv
    have hs:signAt l=some ((Lib.decodeL l).1,(Lib.decodeL l).2):=by rw [signAt,if_neg hb]
    have he:=enc_take hle hs
    intro n hn
    rw [signs_step hne] at hn
    rcases List.mem_cons.1 hn with rfl | hn
    ·exact he.2
    ·exact signs_ok k _ (by rw [List.length_drop]; omega) hv n hn
theorem signsOf_ok (s:ByteArray):∀ n∈(signsOf s).1,signOk n=true:=by
 unfold signsOf
 split
 ·rename_i h
  exact signs_ok _ _ (Nat.le_refl _) h
 ·intro n hn; cases hn
abbrev C_D5 (Te:TE):Prop:=∀ (cs:Int) (s:ByteArray) (hs:s.size≤2 ^ 20),Te 182 [.one (iT cs),.one (sT s)] ⟨[.one (slT true 1 uR (encode cs s).1),.one (bT (encode cs s).2)],[[iT cs],[sT s]]⟩
def cellOf (tag:Int) (s:ByteArray):CellV×Bool:=bif (encode tag s).2&&decide (((encode tag s).1.length:Int)≤20) then (⟨tag,(encode tag s).1⟩,true) else (⟨0,[]⟩,false)
theorem encode_tag {tag:Int} {s:ByteArray} (h:(encode tag s).2=true):win tag 0 5=true:=by
 cases g:win tag 0 5
 ·rw [encode,g] at h; cases h
 ·rfl
theorem cellOf_no {tag:Int} {s:ByteArray} (h:(encode tag s).2=false):cellOf tag s=(⟨0,[]⟩,false):=by rw [cellOf,h]; rfl
theorem cellOf_big {tag:Int} {s:ByteArray} (h:decide (((encode tag s).1.length:Int)≤20)=false):cellOf tag s=(⟨0,[]⟩,false):=by rw [cellOf,h,Bool.and_false]; rfl
theorem cellOf_yes {tag:Int} {s:ByteArray} (h:(encode tag s).2=true) (h':decide (((encode tag s).1.length:Int)≤20)=true):cellOf tag s=(⟨tag,(encode tag s).1⟩,true):=by rw [cellOf,h,h']; rfl
theorem cellOf_in (tag:Int) (s:ByteArray):(cellOf tag s).1.B.length≤20:=by
 unfold cellOf
 cases g:(encode tag s).2&&decide (((encode tag s).1.length:Int)≤20)
 ·exact Nat.zero_le _
 ·simp only [Bool.and_eq_true,decide_eq_true_eq] at g
  have:=g.2
  simp only [cond_true]
  omega
abbrev C_A5 (Te:TE):Prop:=∀ (tag:Int) (s:ByteArray) (hs:s.size≤2 ^ 20),Te 251 [.one (iT tag),.one (sT s)] ⟨[.agg ((cellOf tag s).1.enc true),.one (bT (cellOf tag s).2)],[[iT tag],[sT s]]⟩
abbrev C_Cv (Te:TE):Prop:=∀ (tag:Int) (s:ByteArray) (hs:s.size≤2 ^ 20),Te 200 [.one (iT tag),.one (sT s)] ⟨[.agg ((cellOf tag s).1.enc true),.one (bT (cellOf tag s).2)],[[iT tag],[sT s]]⟩
def CellV.turn (c:CellV) (tag:Int):CellV×Bool:=bif c.text.2&&(cellOf tag c.text.1).2 then ((cellOf tag c.text.1).1,true) else (c,false)
theorem turn_no {c:CellV} {tag:Int} (h:c.text.2=false):c.turn tag=(c,false):=by rw [CellV.turn,h]; rfl
theorem turn_big {c:CellV} {tag:Int} (h:(cellOf tag c.text.1).2=false):c.turn tag=(c,false):=by rw [CellV.turn,h,Bool.and_false]; rfl
theorem turn_yes {c:CellV} {tag:Int} (h:c.text.2=true) (h':(cellOf tag c.text.1).2=true):c.turn tag=((cellOf tag c.text.1).1,true):=by rw [CellV.turn,h,h']; rfl
abbrev C_Bg (Te:TE):Prop:=∀ (c:CellV) (tag:Int) (hc:c.Len) (hs:c.text.1.size≤2 ^ 20),Te 254 [.agg (c.enc false),.one (iT tag)] ⟨[.agg ((c.turn tag).1.enc true),.one (bT (c.turn tag).2)],[c.enc false,[iT tag]]⟩
abbrev C_E9 (Te:TE):Prop:=∀ (c:CellV) (tag:Int) (hc:c.Len) (hs:c.text.1.size≤2 ^ 20),Te 290 [.agg (c.enc false),.one (iT tag)] ⟨[.agg ((c.turn tag).1.enc true),.one (bT (c.turn tag).2)],[c.enc false,[iT tag]]⟩
theorem decGo_size (cs:Int) (b:List UInt8):∀ (fu:Nat) (i:Int) (out:List UInt8),(decGo cs b fu i out).1.size≤out.length + 4 * fu
 | 0,i,out=>by simp [decGo,ByteArray.size]
 | fu + 1,i,out=>by
  rw [decGo]
  split
  ·split
   ·have h1:=decGo_size cs b fu (signIn cs b i).2.1 (putSign out (signIn cs b i).1)
    have h2:=putSign_len out (signIn cs b i).1
    omega
   ·exact Nat.zero_le _
  ·simp [ByteArray.size]
theorem text_size {c:CellV}:c.text.1.size≤80:=by
 unfold CellV.text
 split
 ·rename_i h
  have hl:=CellV.ok_len h
  unfold decode
  split
  ·have:=decGo_size c.Tag c.B c.B.length 0 []
   simp only [List.length_nil] at this
   omega
  ·exact Nat.zero_le _
 ·exact Nat.zero_le _
def RowV.fill (r:RowV):RowV:=bif r.ok&&(r.Has==1) then (bif (r.Old.turn 0).2 then ⟨r.Key,r.Old,(r.Old.turn 0).1,3,r.Aside⟩ else ⟨r.Key,r.Old,r.New,r.Has,true⟩) else r
theorem fill_no {r:RowV} (h:(r.ok&&(r.Has==1))=false):r.fill=r:=by rw [RowV.fill,h]; rfl
theorem fill_bad {r:RowV} (h:(r.ok&&(r.Has==1))=true) (h2:(r.Old.turn 0).2=false):r.fill=⟨r.Key,r.Old,r.New,r.Has,true⟩:=by rw [RowV.fill,h,h2]; rfl
theorem fill_yes {r:RowV} (h:(r.ok&&(r.Has==1))=true) (h2:(r.Old.turn 0).2=true):r.fill=⟨r.Key,r.Old,(r.Old.turn 0).1,3,r.Aside⟩:=by rw [RowV.fill,h,h2]; rfl
theorem bne_eq (a b:Int):(a != b) = !(a==b):=rfl
abbrev C_Ae (Te:TE):Prop:=∀ (r:RowV) (h:r.In (2 ^ 20)),Te 172 [.agg (r.enc false)] ⟨[.agg (r.fill.enc true)],[r.enc false]⟩
abbrev C_D7 (Te:TE):Prop:=∀ (r:RowV) (h:r.In (2 ^ 20)),Te 201 [.agg (r.enc false)] ⟨[.agg (r.fill.enc true)],[r.enc false]⟩
def RowV.cut (r:RowV):RowV:=bif r.ok && !(r.Has==1) then ⟨r.Key,⟨0,[]⟩,r.New,2,false⟩ else r
theorem cut_no {r:RowV} (h:(r.ok && !(r.Has==1))=false):r.cut=r:=by rw [RowV.cut,h]; rfl
theorem cut_yes {r:RowV} (h:(r.ok && !(r.Has==1))=true):r.cut=⟨r.Key,⟨0,[]⟩,r.New,2,false⟩:=by rw [RowV.cut,h]; rfl
abbrev C_A8 (Te:TE):Prop:=∀ (r:RowV) (h:r.In (2 ^ 20)),Te 170 [.agg (r.enc false)] ⟨[.agg (r.cut.enc true)],[r.enc false]⟩
abbrev C_Cy (Te:TE):Prop:=∀ (r:RowV) (h:r.In (2 ^ 20)),Te 202 [.agg (r.enc false)] ⟨[.agg (r.cut.enc true)],[r.enc false]⟩
def RowV.back (r:RowV):RowV:=bif r.ok then (bif r.Has==3 then ⟨r.Key,r.Old,⟨0,[]⟩,1,false⟩ else bif r.Has==2 then ⟨r.Key,r.Old,r.New,r.Has,true⟩ else r) else r
abbrev C_A3 (Te:TE):Prop:=∀ (r:RowV) (h:r.In (2 ^ 20)),Te 171 [.agg (r.enc false)] ⟨[.agg (r.back.enc true)],[r.enc false]⟩
abbrev C_Ct (Te:TE):Prop:=∀ (r:RowV) (h:r.In (2 ^ 20)),Te 203 [.agg (r.enc false)] ⟨[.agg (r.back.enc true)],[r.enc false]⟩
def turned (p:Int) (r:RowV):RowV:=bif p==4 then r.cut else bif p==6 then r.back else r.fill
abbrev C_Cd (Te:TE):Prop:=∀ (p:Int) (r:RowV) (h:r.In (2 ^ 20)),Te 84 [.one (iT p),.agg (r.enc false)] ⟨[.agg ((turned p r).enc true)],[[iT p],r.enc false]⟩
abbrev C_F6 (Te:TE):Prop:=∀ (p:Int) (r:RowV) (h:r.In (2 ^ 20)) (hp:p=2∨p=3∨p=4∨p=6),Te 116 [.one (iT p),.agg (r.enc false)] ⟨[.agg ((turned p r).enc true)],[[iT p],r.enc false]⟩
def rowFine (ph:Int) (key:ByteArray) (cs:Int) (s:ByteArray):Bool:=win ph 0 7&&nameOk key&&win cs 1 5&&(cellOf 0 s).2
def rowOf (ph:Int) (key:ByteArray) (cs:Int) (s:ByteArray):RowV×Int :=
 bif rowFine ph key cs s then
  (bif (ph==0)||(ph==7) then (bif (cellOf cs s).2 then (⟨key,(cellOf cs s).1,⟨0,[]⟩,1,false⟩,0) else (RowV.zero,3))
  else bif (ph==4)||(ph==5) then (⟨key,⟨0,[]⟩,(cellOf 0 s).1,2,false⟩,0)
  else bif ph==6 then (bif (cellOf cs s).2 then (⟨key,(cellOf cs s).1,⟨0,[]⟩,1,false⟩,0) else (⟨key,⟨0,[]⟩,(cellOf 0 s).1,2,true⟩,0))
  else bif (cellOf cs s).2 then (⟨key,(cellOf cs s).1,(cellOf 0 s).1,3,false⟩,0) else (⟨key,⟨0,[]⟩,(cellOf 0 s).1,2,true⟩,0))
 else (RowV.zero,1)
abbrev C_B5 (Te:TE):Prop:=∀ (ph:Int) (key:ByteArray) (cs:Int) (s:ByteArray) (hk:key.size≤2 ^ 20) (hs:s.size≤2 ^ 20),Te 167 [.one (iT ph),.one (sT key),.one (iT cs),.one (sT s)] ⟨[.agg ((rowOf ph key cs s).1.enc true),.one (iT (rowOf ph key cs s).2)],[[iT ph],[sT key],[iT cs],[sT s]]⟩
abbrev C_Dy (Te:TE):Prop:=∀ (ph:Int) (key:ByteArray) (cs:Int) (s:ByteArray) (hk:key.size≤2 ^ 20) (hs:s.size≤2 ^ 20),Te 109 [.one (iT ph),.one (sT key),.one (iT cs),.one (sT s)] ⟨[.agg ((rowOf ph key cs s).1.enc true),.one (iT (rowOf ph key cs s).2)],[[iT ph],[sT key],[iT cs],[sT s]]⟩
def NodeV.putCode (n:NodeV) (key s:ByteArray):Int:=bif ((rowOf n.S.T.Phase key n.Cs s).2==0)&&decide (rowAt n.S.T.Rows key < 0)&&((n.S.T.Rows.length:Int)==8) then 5 else (rowOf n.S.T.Phase key n.Cs s).2
def recRowBy (r:RowV) (who seq code:Int):RecV:=⟨1,r,⟨#[]⟩,0,who,seq,code⟩
def putRecV (n:NodeV) (key s:ByteArray):RecV:=bif n.putCode key s != 0 then recWho 0 0 0 else recRowBy (rowOf n.S.T.Phase key n.Cs s).1 0 0 0
def NodeV.putIn (n:NodeV) (who seq:Int) (key s:ByteArray):NodeV×Int×Bool :=
 bif (n.old who seq).2 then (n,(n.old who seq).1,false) else n.changed ((recRowBy (rowOf n.S.T.Phase key n.Cs s).1 who seq (n.putCode key s)).told)
theorem putRec_by (n:NodeV) (key s:ByteArray) (who seq:Int):(putRecV n key s).by who seq (n.putCode key s)=(recRowBy (rowOf n.S.T.Phase key n.Cs s).1 who seq (n.putCode key s)).told:=by
 unfold putRecV RecV.told recRowBy
 simp only
 cases n.putCode key s != 0 <;> rfl
theorem rowOf_in {ph:Int} {key:ByteArray} {cs:Int} {s:ByteArray} (h:key.size≤2 ^ 20):(rowOf ph key cs s).1.In (2 ^ 20):=by
 have h1:(cellOf cs s).1.B.length≤2 ^ 20:=Nat.le_trans (cellOf_in cs s) (by decide)
 have h2:(cellOf 0 s).1.B.length≤2 ^ 20:=Nat.le_trans (cellOf_in 0 s) (by decide)
 have hz:=RowV.zero_in (2 ^ 20)
 unfold rowOf
 cases rowFine ph key cs s
 ·exact hz
 ·cases (ph==0)||(ph==7)
  ·cases (ph==4)||(ph==5)
   ·cases ph==6 <;> cases (cellOf cs s).2 <;> first | exact ⟨h,h1,h2⟩ | exact ⟨h,Nat.zero_le _,h2⟩ | exact ⟨h,h1,Nat.zero_le _⟩
   ·exact ⟨h,Nat.zero_le _,h2⟩
  ·cases (cellOf cs s).2
   ·exact hz
   ·exact ⟨h,h1,Nat.zero_le _⟩
theorem putRec_in {n:NodeV} {key s:ByteArray} (h:key.size≤2 ^ 20):(putRecV n key s).In (2 ^ 20):=by
 unfold putRecV
 cases n.putCode key s != 0
 ·exact ⟨rowOf_in h,Nat.zero_le _⟩
 ·exact recWho_in 0 0 0 _
abbrev C_C7 (Te:TE):Prop:=∀ (n:NodeV) (key s:ByteArray) (hn:n.S.T.Rows.length≤2 ^ 48) (hk:key.size≤2 ^ 20) (hs:s.size≤2 ^ 20),Te 75 [.agg (n.enc false),.one (sT key),.one (sT s)] ⟨[.agg ((putRecV n key s).enc true),.one (iT (n.putCode key s))],[n.enc false,[sT key],[sT s]]⟩
abbrev C_As (Te:TE):Prop:=∀ (n:NodeV) (who seq:Int) (key s:ByteArray) (hn:n.In (2 ^ 20)) (hk:key.size≤2 ^ 20) (hs:s.size≤2 ^ 20),Te 25 [.agg (n.enc false),.one (iT who),.one (iT seq),.one (sT key),.one (sT s)] ⟨[.agg ((n.putIn who seq key s).1.enc true),.one (iT (n.putIn who seq key s).2.1),.one (bT (n.putIn who seq key s).2.2)],[n.enc false,[iT who],[iT seq],[sT key],[sT s]]⟩
theorem told_who {r:RecV} (h:(r.Code != 0)=true):r.told=recWho r.Who r.Seq r.Code:=by rw [RecV.told,h]; rfl
theorem told_self {r:RecV} (h:(r.Code != 0)=false):r.told=r:=by rw [RecV.told,h]; rfl
abbrev C_F4 (Te:TE):Prop:=∀ (n:NodeV) (r:RecV) (hu:n.up=true) (hn:n.In (2 ^ 20)) (hr:r.In (2 ^ 20)),Te 110 [.agg (n.enc false),.agg (r.enc false)] ⟨[.agg ((n.changed r.told).1.enc true),.one (iT (n.changed r.told).2.1),.one (bT (n.changed r.told).2.2)],[n.enc false,r.enc false]⟩
abbrev C_Dg (Te:TE):Prop:=∀ (n:NodeV) (who seq:Int) (key:ByteArray) (hn:n.In (2 ^ 20)) (hk:key.size≤2 ^ 20),Te 35 [.agg (n.enc false),.one (iT who),.one (iT seq),.one (sT key)] ⟨[.agg ((n.del who seq key).1.enc true),.one (iT (n.del who seq key).2.1),.one (bT (n.del who seq key).2.2)],[n.enc false,[iT who],[iT seq],[sT key]]⟩
abbrev C_Dm (Te:TE):Prop:=∀ (n:NodeV) (who seq:Int) (key s:ByteArray) (hn:n.In (2 ^ 20)) (hk:key.size≤2 ^ 20) (hs:s.size≤2 ^ 20),Te 33 [.agg (n.enc false),.one (iT who),.one (iT seq),.one (sT key),.one (sT s)] ⟨[.agg ((n.putIn who seq key s).1.enc true),.one (iT (n.putIn who seq key s).2.1),.one (bT (n.putIn who seq key s).2.2)],[n.enc false,[iT who],[iT seq],[sT key],[sT s]]⟩
abbrev C_Dl (Te:TE):Prop:=∀ (n:NodeV) (p:Int) (hn:n.In (2 ^ 20)),Te 38 [.agg (n.enc false),.one (iT p)] ⟨[.agg ((n.phase p).1.enc true),.one (bT (n.phase p).2)],[n.enc false,[iT p]]⟩
def loadRec (n:NodeV) (key:ByteArray) (b:List UInt8):RecV:=⟨1,⟨key,⟨n.Cs,b⟩,⟨0,[]⟩,1,!(decode n.Cs b).2⟩,⟨#[]⟩,0,0,0,0⟩
def NodeV.load (n:NodeV) (key:ByteArray) (b:List UInt8):NodeV×Int :=
 bif n.up&&nameOk key&&decide ((b.length:Int)≤20) then (bif n.S.T.Phase==0 then (n.added (loadRec n key b),bif (n.S.add (loadRec n key b)).2 then 0 else 5) else (n,6)) else (n,1)
theorem loadRec_in (n:NodeV) {key:ByteArray} {b:List UInt8} {k:Nat} (h:key.size≤k) (hb:b.length≤k):(loadRec n key b).In k:=⟨⟨h,hb,Nat.zero_le _⟩,Nat.zero_le _⟩
theorem bne_not (a b:Int):(a != b) = !(a==b):=rfl
theorem gt20 (n:Nat):decide ((n:Int) > 20) = !decide ((n:Int)≤20):=by
 by_cases h:(n:Int)≤20
 ·rw [decide_eq_true h,decide_eq_false (by omega)]; rfl
 ·rw [decide_eq_false h,decide_eq_true (by omega)]; rfl
abbrev C_Di (Te:TE):Prop:=∀ (n:NodeV) (key:ByteArray) (b:List UInt8) (hn:n.In (2 ^ 20)) (hk:key.size≤2 ^ 20) (hb:b.length≤2 ^ 20),Te 29 [.agg (n.enc false),.one (sT key),.one (slT false 1 uR b)] ⟨[.agg ((n.load key b).1.enc true),.one (iT (n.load key b).2)],[n.enc false,[sT key],[slT false 1 uR b]]⟩
theorem flush_empty {d:DevV} (h:d.flush.Down=false):d.flush.Cache.length=0:=by
 unfold DevV.flush at h ⊢
 by_cases h1:d.Down=true
 ·rw [if_pos h1,h1] at h; cases h
 ·rw [if_neg h1] at h ⊢
  by_cases h2:d.Fuse=0
  ·rw [if_pos h2] at h
   rw [DevV.burn,if_pos h2] at h
   cases h
  ·rw [if_neg h2]; rfl
theorem cell_len {c:CellV} (h:c.ok=true):c.B.length≤20:=by
 simp only [CellV.ok,Bool.and_eq_true,decide_eq_true_eq] at h
 have:=h.2
 omega
theorem cell_no_len {c:CellV} (h:c.no=true):c.B.length≤20:=by
 simp only [CellV.no,Bool.and_eq_true,decide_eq_true_eq] at h
 rw [h.2]
 exact Nat.zero_le _
theorem cell_text_len {c:CellV} (h:c.text.2=true):c.B.length≤20:=by
 unfold CellV.text at h
 by_cases g:c.ok=true
 ·exact cell_len g
 ·rw [if_neg g] at h; cases h
theorem row_in {r:RowV} (h:r.ok=true):r.In 20:=by
 simp only [RowV.ok,Bool.and_eq_true] at h
 obtain ⟨⟨h1,h2⟩,h3⟩:=h
 simp only [nameOk,win,Bool.and_eq_true,decide_eq_true_eq] at h1
 refine ⟨by omega,?_⟩
 by_cases g1:r.Has=1
 ·rw [if_pos g1] at h3
  simp only [Bool.and_eq_true] at h3
  exact ⟨cell_len h3.1.1.1,cell_no_len h3.2⟩
 ·rw [if_neg g1] at h3
  by_cases g2:r.Has=2
  ·rw [if_pos g2] at h3
   simp only [Bool.and_eq_true] at h3
   exact ⟨cell_no_len h3.1.1,cell_text_len h3.2⟩
  ·rw [if_neg g2] at h3
   simp only [Bool.and_eq_true] at h3
   exact ⟨cell_len h3.1.1.1.1.1,cell_text_len h3.1.2⟩
theorem marks_le {t:TabV} (h:t.ok=true):t.Marks.length≤9:=by
 simp only [TabV.ok,Bool.and_eq_true,List.all_eq_true] at h
 have hg:=h.1.2
 have key:∀ (i:Nat) (hi:i < t.Marks.length),(i:Int) + 1≤t.Marks[i].Who∧t.Marks[i].Who≤9:=by
  intro i
  induction i with
  | zero =>
   intro hi
   have:=hg 0 (List.mem_range.2 hi)
   rw [markGood_zero hi] at this
   simp only [MarkV.ok,win,Bool.and_eq_true,decide_eq_true_eq] at this
   omega
  | succ i ih =>
   intro hi
   have:=hg (i + 1) (List.mem_range.2 hi)
   rw [markGood_succ hi] at this
   have:=ih (by omega)
   simp only [MarkV.ok,win,Bool.and_eq_true,decide_eq_true_eq,Bool.not_eq_true',decide_eq_false_iff_not] at *
   omega
 by_cases h9:t.Marks.length≤9
 ·exact h9
 ·have:=key 9 (by omega)
  omega
theorem TabV.ok_at {t:TabV} (h:t.ok=true) {i:Nat} (hi:i < t.Rows.length):t.Rows[i].ok=true:=by
 simp only [TabV.ok,Bool.and_eq_true,List.all_eq_true] at h
 have:=h.1.1 i (List.mem_range.2 hi)
 simp only [rowGood,List.getElem?_eq_getElem hi,Option.map_some,Option.getD_some,Bool.and_eq_true] at this
 exact this.1
theorem TabV.ok_in {t:TabV} (h:t.ok=true):t.In (2 ^ 20):=by
 have hm:=marks_le h
 have h8:t.Rows.length≤8:=by
  simp only [TabV.ok,Bool.and_eq_true,decide_eq_true_eq] at h
  have:=h.2.1
  omega
 refine ⟨⟨by omega,fun y hy=>?_⟩,by omega⟩
 obtain ⟨i,hi,rfl⟩:=List.mem_iff_getElem.1 hy
 exact (row_in (TabV.ok_at h hi)).mono (by decide)
theorem StoreV.ok_in {s:StoreV} (h:s.ok=true):s.In (2 ^ 20):=by
 have:=(StoreV.ok_iff s).1 h
 exact ⟨DevV.ok_in this.1,TabV.ok_in this.2.2.2.1⟩
theorem recs_18 {t:TabV} (h:t.ok=true):(recsOf t).length≤18:=by
 have hm:=marks_le h
 have h8:t.Rows.length≤8:=by
  simp only [TabV.ok,Bool.and_eq_true,decide_eq_true_eq] at h
  have:=h.2.1
  omega
 rw [recsOf_len]
 omega
theorem lay_ok {s:StoreV} (h:s.ok=true) (hg:s.Gen≤59999):(s.lay (s.Gen + 1)).ok=true:=by
 have hk:=(StoreV.ok_iff s).1 h
 have hL:=layDev_ok hk.1 (s.Gen + 1) (recsOf s.T)
 have hl:=(layDev_secs (s.Gen + 1) (recsOf s.T) s.D).trans hk.2.1
 have hr:=recs_18 hk.2.2.2.1
 cases g:(layDev (s.Gen + 1) (recsOf s.T) s.D).Down
 ·rw [lay_up g,StoreV.ok_iff]
  have he:(layDev (s.Gen + 1) (recsOf s.T) s.D).Cache.length=0:=flush_empty g
  exact ⟨hL,hl,.inl he,hk.2.2.2.1,by simp only; omega,by simp only; omega⟩
 ·rw [lay_down g,StoreV.ok_iff]
  exact ⟨hL,hl,.inr g,hk.2.2.2.1,hk.2.2.2.2⟩
theorem room_ok2 {s:StoreV} (h:s.ok=true):s.room.ok=true:=by
 unfold StoreV.room
 cases s.Place==30
 ·exact h
 ·unfold StoreV.relay
  cases g:(s.ok && !s.D.Down && !(s.Gen==60000))
  ·exact h
  ·have hk:=(StoreV.ok_iff s).1 h
   have hg:¬ s.Gen=60000:=by
    simp only [Bool.and_eq_true,Bool.not_eq_true',beq_eq_false_iff_ne] at g
    exact g.2
   exact lay_ok h (by omega)
theorem apply_ok {t:TabV} {r:RecV} (h:(t.apply r).2=true):(t.apply r).1.ok=true:=by
 unfold TabV.apply at h ⊢
 cases g:(r.ok&&t.ok&&(t.change r).ok)
 ·rw [g] at h; cases h
 ·simp only [Bool.and_eq_true] at g
  exact g.2
theorem end_ok {s:StoreV} {t:TabV} (r:RecV) (h:s.ok=true) (ht:t.ok=true):(s.end t r).1.ok=true∧((s.end t r).2=true→(s.end t r).1.D.Down=false):=by
 have hk:=(StoreV.ok_iff s).1 h
 have hf:(s.log r).ok=true:=flush_ok (write_ok hk.1 _ _)
 have hl:(s.log r).Secs.length=62:=by rw [StoreV.log,flush_secs,write_secs]; exact hk.2.1
 unfold StoreV.end
 cases g:(s.D.Down||(s.Place==30))
 ·have hp:¬ s.Place=30:=by
   simp only [Bool.or_eq_false_iff,beq_eq_false_iff_ne] at g
   exact g.2
  cases g2:(s.log r).Down
  ·refine ⟨(StoreV.ok_iff _).2 ⟨hf,hl,.inl (flush_empty g2),ht,hk.2.2.2.2.1,?_⟩,fun _=>g2⟩
   simp only [cond_false]
   omega
  ·exact ⟨(StoreV.ok_iff _).2 ⟨hf,hl,.inr g2,hk.2.2.2⟩,fun h=>by cases h⟩
 ·exact ⟨h,fun h=>by cases h⟩
theorem add_ok {s:StoreV} (r:RecV) (h:s.ok=true):(s.add r).1.ok=true∧((s.add r).2=true→(s.add r).1.D.Down=false):=by
 unfold StoreV.add
 cases g:s.fits r
 ·exact ⟨h,fun h=>by cases h⟩
 ·have ht:(s.T.apply r).2=true:=by
   simp only [StoreV.fits,Bool.and_eq_true] at g
   exact g.2
  exact end_ok r (room_ok2 h) (apply_ok ht)
theorem add_in {s:StoreV} (r:RecV) (hs:s.In (2 ^ 20)):(s.add r).1.In (2 ^ 20):=by
 cases g:s.fits r
 ·rw [StoreV.add,g]; exact hs
 ·have hk:s.ok=true:=by
   simp only [StoreV.fits,Bool.and_eq_true] at g
   exact g.1.1
  exact StoreV.ok_in (add_ok r hk).1
theorem add_in2 {n:NodeV} (r:RecV) (hn:n.In (2 ^ 20)):(NodeV.mk (n.S.add r).1 n.Cs).In (2 ^ 20):=add_in r hn
def isBehind (f k:ByteArray):Bool:=!(Op.bytesLess k.toList f.toList||k.toList==f.toList)
def behind (f:ByteArray) (l:List RowV):List RowV:=l.filter fun r=>isBehind f r.Key
theorem behind_step {f:ByteArray} {l:List RowV} {i:Nat} (h:i < l.length):behind f (l.take (i + 1))=behind f (l.take i)++bif isBehind f l[i].Key then [l[i]] else []:=by
 rw [behind,behind,List.take_succ_eq_append_getElem h,List.filter_append]
 congr 1
abbrev C_C8 (Te:TE):Prop:=∀ (t:TabV) (f:ByteArray) (hl:t.Rows.length≤2 ^ 30),Te 83 [.agg (t.enc false),.one (sT f)] ⟨[.one (slT true 7 (RowV.enc false) (behind f t.Rows))],[t.enc false,[sT f]]⟩
abbrev C_Es (Te:TE):Prop:=∀ (a c:CellV),Te 204 [.agg (a.enc false),.agg (c.enc false)] ⟨[.one (bT ((a.Tag==c.Tag)&&decide (a.B=c.B)))],[a.enc false,c.enc false]⟩
abbrev C_Et (Te:TE):Prop:=∀ (a c:RowV),Te 117 [.agg (a.enc false),.agg (c.enc false)] ⟨[.one (bT (rowSame a c))],[a.enc false,c.enc false]⟩
theorem turn_in (c:CellV) {tag:Int} (h:c.B.length≤2 ^ 20):(c.turn tag).1.B.length≤2 ^ 20:=by
 unfold CellV.turn
 cases c.text.2&&(cellOf tag c.text.1).2
 ·exact h
 ·exact Nat.le_trans (cellOf_in tag _) (by decide)
theorem turned_in {p:Int} {r:RowV} (h:r.In (2 ^ 20)):(turned p r).In (2 ^ 20):=by
 obtain ⟨h1,h2,h3⟩:=h
 have ht:=turn_in r.Old (tag:=0) h2
 unfold turned RowV.cut RowV.back RowV.fill
 cases p==4
 ·cases p==6
  ·cases r.ok&&(r.Has==1)
   ·exact ⟨h1,h2,h3⟩
   ·cases (r.Old.turn 0).2
    ·exact ⟨h1,h2,h3⟩
    ·exact ⟨h1,h2,ht⟩
  ·cases r.ok
   ·exact ⟨h1,h2,h3⟩
   ·cases r.Has==3
    ·cases r.Has==2 <;> exact ⟨h1,h2,h3⟩
    ·exact ⟨h1,h2,Nat.zero_le _⟩
 ·cases r.ok && !(r.Has==1)
  ·exact ⟨h1,h2,h3⟩
  ·exact ⟨h1,Nat.zero_le _,h3⟩
def stepN (p:Int):NodeV→List RowV→NodeV×Bool
 | n,[]=>(n,true)
 | n,r::l=>bif rowSame (turned p r) r then stepN p n l else bif (n.S.add (recRow (turned p r))).2 then stepN p (n.added (recRow (turned p r))) l else (n.added (recRow (turned p r)),false)
theorem stepN_app (p:Int) (b:List RowV):∀ (a:List RowV) (n:NodeV),stepN p n (a++b)=bif (stepN p n a).2 then stepN p (stepN p n a).1 b else stepN p n a
 | [],n=>rfl
 | r::a,n=>by
  simp only [List.cons_append,stepN]
  cases rowSame (turned p r) r
  ·cases g:(n.S.add (recRow (turned p r))).2
   ·rfl
   ·exact stepN_app p b a _
  ·exact stepN_app p b a _
theorem stepN_in {p:Int}:∀ (a:List RowV) (n:NodeV),n.In (2 ^ 20)→(stepN p n a).1.In (2 ^ 20)
 | [],n,h=>h
 | r::a,n,h=>by
  simp only [stepN]
  cases rowSame (turned p r) r
  ·cases g:(n.S.add (recRow (turned p r))).2
   ·exact add_in2 _ h
   ·exact stepN_in a _ (add_in2 _ h)
  ·exact stepN_in a n h
theorem stepN_up {p:Int}:∀ (a:List RowV) (n:NodeV),n.S.ok=true→n.S.D.Down=false→(stepN p n a).1.S.ok=true∧((stepN p n a).2=true→(stepN p n a).1.S.D.Down=false)
 | [],n,h,hd=>⟨h,fun _=>hd⟩
 | r::a,n,h,hd=>by
  have hq:=add_ok (recRow (turned p r)) h
  simp only [stepN]
  cases rowSame (turned p r) r
  ·cases g:(n.S.add (recRow (turned p r))).2
   ·exact ⟨hq.1,fun h=>by cases h⟩
   ·exact stepN_up a _ hq.1 (hq.2 g)
  ·exact stepN_up a n h hd
def lastKey (f:ByteArray) (l:List RowV):ByteArray:=(l.getLast?.map RowV.Key).getD f
theorem lastKey_snoc (f:ByteArray) (l:List RowV) (r:RowV):lastKey f (l++[r])=r.Key:=by simp [lastKey]
def NodeV.step (n:NodeV) (f:ByteArray):NodeV×ByteArray×Int×Bool :=
 bif n.up&&walks n.S.T.Phase then
  (bif (stepN n.S.T.Phase n ((behind f n.S.T.Rows).take 2)).2 then ((stepN n.S.T.Phase n ((behind f n.S.T.Rows).take 2)).1,lastKey f ((behind f n.S.T.Rows).take 2),bif decide (((behind f n.S.T.Rows).length:Int) > 2) then 0 else 1,true)
  else ((stepN n.S.T.Phase n ((behind f n.S.T.Rows).take 2)).1,f,0,false))
 else (n,f,0,false)
theorem step_in {n:NodeV} {f:ByteArray} (hn:n.In (2 ^ 20)):(n.step f).1.In (2 ^ 20):=by
 unfold NodeV.step
 cases n.up&&walks n.S.T.Phase
 ·exact hn
 ·cases (stepN n.S.T.Phase n ((behind f n.S.T.Rows).take 2)).2 <;> exact stepN_in _ n hn
abbrev C_At (Te:TE):Prop:=∀ (n:NodeV) (f:ByteArray) (hn:n.In (2 ^ 20)),Te 20 [.agg (n.enc false),.one (sT f)] ⟨[.agg ((n.step f).1.enc true),.one (sT (n.step f).2.1),.one (iT (n.step f).2.2.1),.one (bT (n.step f).2.2.2)],[n.enc false,[sT f]]⟩
theorem less_tri:∀ a b:List UInt8,Op.bytesLess a b=true∨a=b∨Op.bytesLess b a=true
 | [],[]=>.inr (.inl rfl)
 | [],_::_=>.inl (by simp [Op.bytesLess])
 | _::_,[]=>.inr (.inr (by simp [Op.bytesLess]))
 | a::as,b::bs=>by
  simp only [Op.bytesLess,Bool.or_eq_true,Bool.and_eq_true,decide_eq_true_eq,beq_iff_eq]
  by_cases h1:a < b
  ·exact .inl (.inl h1)
  ·by_cases h2:b < a
   ·exact .inr (.inr (.inl h2))
   ·have e:a=b:=by
     apply UInt8.toNat.inj
     simp only [UInt8.lt_iff_toNat_lt] at h1 h2
     omega
    subst e
    rcases less_tri as bs with h | h | h
    ·exact .inl (.inr ⟨rfl,h⟩)
    ·exact .inr (.inl (by rw [h]))
    ·exact .inr (.inr (.inr ⟨rfl,h⟩))
theorem isBehind_iff (f k:ByteArray):isBehind f k=true↔Op.bytesLess f.toList k.toList=true:=by
 simp only [isBehind,Bool.not_eq_true',Bool.or_eq_false_iff]
 constructor
 ·rintro ⟨h1,h2⟩
  rcases less_tri k.toList f.toList with h | h | h
  ·rw [h1] at h; cases h
  ·rw [h] at h2; simp at h2
  ·exact h
 ·intro h
  refine ⟨?_,?_⟩
  ·cases g:Op.bytesLess k.toList f.toList
   ·rfl
   ·have:=less_trans h g
    rw [less_irrefl] at this
    cases this
  ·cases g:k.toList==f.toList
   ·rfl
   ·have g:=eq_of_beq g
    rw [g,less_irrefl] at h
    cases h
theorem behind_trans {a b c:ByteArray} (h:isBehind a b=true) (h':isBehind b c=true):isBehind a c=true:=by
 rw [isBehind_iff] at *
 exact less_trans h h'
theorem behind_irrefl (a:ByteArray):isBehind a a=false:=by
 cases g:isBehind a a
 ·rfl
 ·rw [isBehind_iff,less_irrefl] at g; cases g
theorem behind_last {L:List RowV} (hs:L.Pairwise fun x y=>isBehind x.Key y.Key=true) (f:ByteArray):(L.any fun r=>isBehind (lastKey f ((behind f L).take 2)) r.Key)=decide (((behind f L).length:Int) > 2):=by
 have hB:(behind f L).Pairwise fun x y=>isBehind x.Key y.Key=true:=hs.filter _
 have hm:∀ r,r∈behind f L↔r∈L∧isBehind f r.Key=true:=fun r=>List.mem_filter
 generalize behind f L=B at hB hm
 rw [Bool.eq_iff_iff,List.any_eq_true,decide_eq_true_eq]
 constructor
 ·rintro ⟨r,hr,hk⟩
  by_cases hl:(B.length:Int) > 2
  ·exact hl
  ·exfalso
   rw [List.take_of_length_le (by omega),lastKey] at hk
   rcases List.eq_nil_or_concat B with e | ⟨B',x,e⟩
   ·subst e
    exact List.not_mem_nil ((hm r).2 ⟨hr,hk⟩)
   ·rw [List.concat_eq_append] at e
    subst e
    rw [List.getLast?_concat] at hk
    simp only [Option.map_some,Option.getD_some] at hk
    have hx:=(hm x).1 (by simp)
    have hb:=(hm r).2 ⟨hr,behind_trans hx.2 hk⟩
    rw [List.pairwise_append] at hB
    rcases List.mem_append.1 hb with h | h
    ·have:=behind_trans hk (hB.2.2 r h x (by simp))
     rw [behind_irrefl] at this
     cases this
    ·rw [List.mem_singleton] at h
     subst h
     rw [behind_irrefl] at hk
     cases hk
 ·intro hl
  have h2:2 < B.length:=by omega
  refine ⟨B[2],((hm _).1 (List.getElem_mem h2)).1,?_⟩
  have e:B.take 2=B.take 1++[B[1]]:=by rw [List.take_succ_eq_append_getElem (by omega)]
  rw [e,lastKey_snoc]
  exact List.pairwise_iff_getElem.1 hB 1 2 (by omega) h2 (by omega)
theorem rows_sorted {t:TabV} (h:t.ok=true):t.Rows.Pairwise fun x y=>isBehind x.Key y.Key=true:=by
 rw [List.pairwise_iff_getElem]
 intro i j hi hj hij
 rw [isBehind_iff]
 have:=keys_less h (i:=i) (j - i - 1) (by omega)
 have e:i + (j - i - 1) + 1=j:=by omega
 simp only [e] at this
 exact this
theorem behind_take {f:ByteArray} {L:List RowV} {i:Nat} (h:i=L.length∨(behind f (L.take i)).length=2) (h2:(behind f (L.take i)).length≤2):behind f (L.take i)=(behind f L).take 2:=by
 have e:behind f L=behind f (L.take i)++behind f (L.drop i):=by rw [behind,behind,behind,← List.filter_append,List.take_append_drop]
 rcases h with h | h
 ·subst h
  rw [List.take_length] at h2 ⊢
  rw [List.take_of_length_le h2]
 ·rw [e,List.take_append_of_le_length (l₁:=behind f (L.take i)) (by omega),List.take_of_length_le (l:=behind f (L.take i)) (by omega)]
theorem step_fail {p:Int} {n x:NodeV} {f:ByteArray} {L:List RowV} {i:Nat} (h:stepN p n (behind f (L.take i))=(x,false)) (h2:(behind f (L.take i)).length≤2):stepN p n ((behind f L).take 2)=(x,false):=by
 have e:behind f L=behind f (L.take i)++behind f (L.drop i):=by rw [behind,behind,behind,← List.filter_append,List.take_append_drop]
 rw [e,List.take_append,List.take_of_length_le h2,stepN_app,h]
 rfl
theorem walks_or {p:Int} (h:walks p=true):p=2∨p=3∨p=4∨p=6:=by
 simp only [walks,Bool.or_eq_true,beq_iff_eq] at h
 omega
theorem leq_not (f k:ByteArray):(Op.bytesLess k.toList f.toList||k.toList==f.toList) = !isBehind f k:=by rw [isBehind,Bool.not_not]
theorem any_take {L:List RowV} {a:ByteArray} {j:Nat} (h:j < L.length):((L.take (j + 1)).any fun r=>isBehind a r.Key)=(((L.take j).any fun r=>isBehind a r.Key)||isBehind a L[j].Key):=by
 rw [List.take_succ_eq_append_getElem h,List.any_append]
 simp only [List.any_cons,List.any_nil,Bool.or_false]
abbrev C_Dn (Te:TE):Prop:=∀ (n:NodeV) (f:ByteArray) (hn:n.In (2 ^ 20)),Te 40 [.agg (n.enc false),.one (sT f)] ⟨[.agg ((n.step f).1.enc true),.one (sT (n.step f).2.1),.one (iT (n.step f).2.2.1),.one (bT (n.step f).2.2.2)],[n.enc false,[sT f]]⟩
theorem del_in {n:NodeV} {who seq:Int} {key:ByteArray} (hn:n.In (2 ^ 20)):(n.del who seq key).1.In (2 ^ 20):=by
 unfold NodeV.del
 cases (n.old who seq).2
 ·exact add_in2 _ hn
 ·exact hn
theorem put_node_in {n:NodeV} {who seq:Int} {key s:ByteArray} (hn:n.In (2 ^ 20)):(n.putIn who seq key s).1.In (2 ^ 20):=by
 unfold NodeV.putIn
 cases (n.old who seq).2
 ·exact add_in2 _ hn
 ·exact hn
def actV (m:Msg) (code:Int):ActV:=bif m.Kind==3 then ⟨1,m.From,m.Seq,m.Key,m.Text,code⟩ else ⟨2,m.From,m.Seq,m.Key,⟨#[]⟩,code⟩
abbrev C_Bj (Te:TE):Prop:=∀ (m:Msg) (code:Int),Te 76 [.agg m.row,.one (iT code)] ⟨[.agg (actV m code).row],[m.row,[iT code]]⟩
abbrev C_Fa (Te:TE):Prop:=∀ (m:Msg) (code:Int) (h:m.Kind=3∨m.Kind=4),Te 80 [.agg m.row,.one (iT code)] ⟨[.agg (actV m code).row],[m.row,[iT code]]⟩
abbrev C_Bm (Te:TE):Prop:=∀ (n:NodeV) (m:Msg) (hn:n.In (2 ^ 20)),Te 61 [.agg (n.enc false),.agg m.row] ⟨[.one (bT (m.ok&&win m.To 3 4&&n.up))],[n.enc false,m.row]⟩
def lateMark (n:NodeV) (m:Msg):Bool:=match markAt n.S.T.Marks m.From with
 | none=>false
 | some k=>decide (k.Seq > m.Seq)
def NodeV.late (n:NodeV) (m:Msg):Bool:=!(win m.From 1 9&&win m.Seq 1 65535)||lateMark n m
def NodeV.wrote (n:NodeV) (m:Msg):NodeV×Int×Bool:=bif m.Kind==3 then n.putIn m.From m.Seq m.Key m.Text else n.del m.From m.Seq m.Key
def NodeV.deskPut (n:NodeV) (m a:Msg):NodeV×List Msg×List ActV :=
 bif n.late m then (n,[],[]) else ((n.wrote m).1,bif (n.wrote m).1.S.D.Down then [] else [⟨5,a.From,a.To,a.Seq,a.Key,a.Text,a.N,(n.wrote m).2.1⟩],bif (n.wrote m).2.2 then [actV m (n.wrote m).2.1] else [])
theorem old_up {n:NodeV} {who seq:Int} (h:(n.old who seq).2=false):n.up=true:=by
 cases g:n.up
 ·rw [NodeV.old,g] at h; cases h
 ·rfl
theorem changed_up {n:NodeV} {r:RecV} (hu:n.up=true) (h:(n.changed r).2.2=true):(n.changed r).1.S.D.Down=false:=(add_ok r (up_ok hu).1).2 h
theorem wrote_up {n:NodeV} {m:Msg} (h:(n.wrote m).2.2=true):(n.wrote m).1.S.D.Down=false:=by
 unfold NodeV.wrote at h ⊢
 cases g:m.Kind==3
 ·rw [g] at h
  simp only [cond_false] at h ⊢
  unfold NodeV.del at h ⊢
  cases g2:(n.old m.From m.Seq).2
  ·rw [g2] at h
   exact changed_up (old_up g2) h
  ·rw [g2] at h; cases h
 ·rw [g] at h
  simp only [cond_true] at h ⊢
  unfold NodeV.putIn at h ⊢
  cases g2:(n.old m.From m.Seq).2
  ·rw [g2] at h
   exact changed_up (old_up g2) h
  ·rw [g2] at h; cases h
theorem wrote_in {n:NodeV} {m:Msg} (hn:n.In (2 ^ 20)):(n.wrote m).1.In (2 ^ 20):=by
 unfold NodeV.wrote
 cases m.Kind==3
 ·exact del_in hn
 ·exact put_node_in hn
abbrev C_Bw (Te:TE):Prop:=∀ (n:NodeV) (m a:Msg) (hn:n.In (2 ^ 20)) (hm:m.In (2 ^ 20)),Te 62 [.agg (n.enc false),.agg m.row,.agg a.row] ⟨[.agg ((n.deskPut m a).1.enc true),.one (slT true 8 Msg.row (n.deskPut m a).2.1),.one (slT true 6 ActV.row (n.deskPut m a).2.2)],[n.enc false,m.row,a.row]⟩
abbrev C_Fe (Te:TE):Prop:=∀ (n:NodeV) (m:Msg) (hn:n.In (2 ^ 20)) (hk:m.ok=true),Te 77 [.agg (n.enc false),.agg m.row] ⟨[.one (bT (n.late m))],[n.enc false,m.row]⟩
abbrev C_Fj (Te:TE):Prop:=∀ (n:NodeV) (m:Msg) (hn:n.In (2 ^ 20)) (hm:m.In (2 ^ 20)),Te 79 [.agg (n.enc false),.agg m.row] ⟨[.agg ((n.wrote m).1.enc true),.one (iT (n.wrote m).2.1),.one (bT (n.wrote m).2.2)],[n.enc false,m.row]⟩
abbrev C_Fi (Te:TE):Prop:=∀ (n:NodeV) (key:ByteArray) (h:n.In (2 ^ 48)),Te 164 [.agg (n.enc false),.one (sT key)] ⟨[.one (sT (n.get key).1),.one (iT (n.get key).2)],[n.enc false,[sT key]]⟩
abbrev C_Fd (Te:TE):Prop:=∀ (n:NodeV) (m:Msg) (hn:n.In (2 ^ 20)),Te 66 [.agg (n.enc false),.agg m.row] ⟨[.one (slT true 8 Msg.row [⟨2,m.To,m.From,m.Seq,⟨#[]⟩,(n.get m.Key).1,0,(n.get m.Key).2⟩])],[n.enc false,m.row]⟩
abbrev C_Fg (Te:TE):Prop:=∀ (n:NodeV) (m:Msg) (hn:n.In (2 ^ 20)) (hm:m.In (2 ^ 20)) (hk:m.ok=true) (h34:m.Kind=3∨m.Kind=4),Te 67 [.agg (n.enc false),.agg m.row] ⟨[.agg ((n.deskPut m (back m 0)).1.enc true),.one (slT true 8 Msg.row (n.deskPut m (back m 0)).2.1),.one (slT true 6 ActV.row (n.deskPut m (back m 0)).2.2)],[n.enc false,m.row]⟩
def NodeV.deskPhase (n:NodeV) (m:Msg):NodeV×List Msg:=((n.phase m.N).1,bif !(n.phase m.N).2||(n.phase m.N).1.S.D.Down then [] else [⟨7,m.To,m.From,m.Seq,⟨#[]⟩,⟨#[]⟩,m.N,0⟩])
abbrev C_Ff (Te:TE):Prop:=∀ (n:NodeV) (m:Msg) (hn:n.In (2 ^ 20)),Te 68 [.agg (n.enc false),.agg m.row] ⟨[.agg ((n.deskPhase m).1.enc true),.one (slT true 8 Msg.row (n.deskPhase m).2)],[n.enc false,m.row]⟩
def NodeV.deskStep (n:NodeV) (m:Msg):NodeV×List Msg:=((n.step m.Key).1,bif (n.step m.Key).2.2.2 then [⟨9,m.To,m.From,m.Seq,(n.step m.Key).2.1,⟨#[]⟩,m.N,(n.step m.Key).2.2.1⟩] else [])
def NodeV.desk (n:NodeV) (m:Msg):NodeV×List Msg×List ActV :=
 bif m.ok&&win m.To 3 4&&n.up then
  bif m.Kind==1 then (n,[⟨2,m.To,m.From,m.Seq,⟨#[]⟩,(n.get m.Key).1,0,(n.get m.Key).2⟩],[])
  else bif (m.Kind==3)||(m.Kind==4) then n.deskPut m (back m 0)
  else bif m.From==0 then (bif m.Kind==6 then ((n.deskPhase m).1,(n.deskPhase m).2,[]) else bif (m.Kind==8)&&(m.N==n.S.T.Phase) then ((n.deskStep m).1,(n.deskStep m).2,[]) else (n,[],[]))
  else (n,[],[])
 else (n,[],[])
theorem step_up {n:NodeV} {f:ByteArray} (hu:n.up=true) (h:(n.step f).2.2.2=true):(n.step f).1.S.D.Down=false:=by
 obtain ⟨k1,k2,_⟩:=up_ok hu
 unfold NodeV.step at h ⊢
 cases g:n.up&&walks n.S.T.Phase
 ·exact k2
 ·rw [g] at h
  cases g2:(stepN n.S.T.Phase n ((behind f n.S.T.Rows).take 2)).2
  ·rw [g2] at h; cases h
  ·exact (stepN_up _ n k1 k2).2 g2
theorem bne_neq (a b:Int):(a != b) = !(a==b):=rfl
def NodeV.deskStep0 (n:NodeV) (m:Msg):NodeV×List Msg:=bif m.N==n.S.T.Phase then n.deskStep m else (n,[])
abbrev C_Fh (Te:TE):Prop:=∀ (n:NodeV) (m:Msg) (hn:n.In (2 ^ 20)),Te 69 [.agg (n.enc false),.agg m.row] ⟨[.agg ((n.deskStep0 m).1.enc true),.one (slT true 8 Msg.row (n.deskStep0 m).2)],[n.enc false,m.row]⟩
abbrev C_Aa (Te:TE):Prop:=∀ (n:NodeV) (m:Msg) (hn:n.In (2 ^ 20)) (hm:m.In (2 ^ 20)),Te 11 [.agg (n.enc false),.agg m.row] ⟨[.agg ((n.desk m).1.enc true),.one (slT true 8 Msg.row (n.desk m).2.1),.one (slT true 6 ActV.row (n.desk m).2.2)],[n.enc false,m.row]⟩
abbrev C_D0 (Te:TE):Prop:=∀ (n:NodeV) (m:Msg) (hn:n.In (2 ^ 20)) (hm:m.In (2 ^ 20)),Te 12 [.agg (n.enc false),.agg m.row] ⟨[.agg ((n.desk m).1.enc true),.one (slT true 8 Msg.row (n.desk m).2.1),.one (slT true 6 ActV.row (n.desk m).2.2)],[n.enc false,m.row]⟩
theorem phase_in2 {n:NodeV} {p:Int} (hn:n.In (2 ^ 20)):(n.phase p).1.In (2 ^ 20):=by
 unfold NodeV.phase NodeV.phase1
 cases n.up
 ·exact hn
 ·cases nextOk n.S.T.Phase p
  ·exact hn
  ·exact add_in2 _ hn
theorem deskPut_in {n:NodeV} {m a:Msg} (hn:n.In (2 ^ 20)):(n.deskPut m a).1.In (2 ^ 20):=by
 unfold NodeV.deskPut
 cases n.late m
 ·exact wrote_in hn
 ·exact hn
theorem desk_in {n:NodeV} {m:Msg} (hn:n.In (2 ^ 20)):(n.desk m).1.In (2 ^ 20):=by
 unfold NodeV.desk
 cases m.ok&&win m.To 3 4&&n.up
 ·exact hn
 ·cases m.Kind==1
  ·cases (m.Kind==3)||(m.Kind==4)
   ·cases m.From==0
    ·exact hn
    ·cases m.Kind==6
     ·cases (m.Kind==8)&&(m.N==n.S.T.Phase)
      ·exact hn
      ·exact step_in hn
     ·exact phase_in2 hn
   ·exact deskPut_in hn
  ·exact hn
theorem beq_no {a b:Int} (h:a≠b):(a==b)=false:=by simpa using h
theorem beq_yes {a b:Int} (h:a=b):(a==b)=true:=by simpa using h
theorem insM_mem (m:MarkV) (s:List MarkV×Bool) (x y:MarkV) (h:y∈(insM m s x).1):y∈s.1∨y=m∨y=x:=by
 simp only [insM] at h
 split at h <;> split at h <;> (try simp only [List.mem_append,List.mem_cons,List.not_mem_nil,or_false] at h)
 ·rcases h with (h | h) | h
  ·exact .inl h
  ·exact .inr (.inl h)
  ·exact .inr (.inr h)
 ·rcases h with h | h
  ·exact .inl h
  ·exact .inr (.inr h)
 ·rcases h with h | h
  ·exact .inl h
  ·exact .inr (.inl h)
 ·exact .inl h
theorem insM_all (m:MarkV) (l:List MarkV):∀ s y,y∈(l.foldl (insM m) s).1→y∈s.1∨y=m∨y∈l:=by
 induction l with
 | nil=>intro s y h; exact .inl h
 | cons x l ih =>
  intro s y h
  rcases ih _ y h with h | h | h
  ·rcases insM_mem m s x y h with h | h | h
   ·exact .inl h
   ·exact .inr (.inl h)
   ·exact .inr (.inr (by rw [h]; exact List.mem_cons_self ..))
  ·exact .inr (.inl h)
  ·exact .inr (.inr (List.mem_cons_of_mem _ h))
theorem insMark_mem {l:List MarkV} {m y:MarkV} (h:y∈insMark l m):y=m∨y∈l:=by
 simp only [insMark] at h
 split at h
 ·rcases insM_all m l _ y h with h | h | h
  ·cases h
  ·exact .inl h
  ·exact .inr h
 ·rcases List.mem_append.1 h with h | h
  ·rcases insM_all m l _ y h with h | h | h
   ·cases h
   ·exact .inl h
   ·exact .inr h
  ·simp only [List.mem_cons,List.not_mem_nil,or_false] at h
   exact .inl h
theorem put_marks (t:TabV) (r:RecV):(t.put r).Marks=t.Marks:=by
 unfold TabV.put
 cases r.Kind==1
 ·cases r.Kind==2
  ·cases r.Kind==3 <;> rfl
  ·rfl
 ·rfl
theorem apply_no {t:TabV} {r:RecV} (h:(t.apply r).2=false):(t.apply r).1=t:=by
 unfold TabV.apply at h ⊢
 cases g:r.ok&&t.ok&&(t.change r).ok
 ·rfl
 ·rw [g] at h; cases h
theorem apply_yes {t:TabV} {r:RecV} (h:(t.apply r).2=true):(t.apply r).1=t.change r:=by
 unfold TabV.apply at h ⊢
 cases g:r.ok&&t.ok&&(t.change r).ok
 ·rw [g] at h; cases h
 ·rfl
theorem apply_marks {t:TabV} {r:RecV} {N:Int} (h:∀ m∈t.Marks,m.Seq≤N) (hr:r.Who≤0∨r.Seq≤N):∀ m∈(t.apply r).1.Marks,m.Seq≤N:=by
 cases g:(t.apply r).2
 ·rw [apply_no g]; exact h
 ·rw [apply_yes g,TabV.change]
  cases g2:decide (r.Who > 0)
  ·intro m hm
   rw [cond_false,put_marks] at hm
   exact h m hm
  ·intro m hm
   rw [cond_true] at hm
   rcases insMark_mem hm with e | e
   ·subst e
    rcases hr with hr | hr
    ·simp only [decide_eq_true_eq] at g2; omega
    ·exact hr
   ·rw [put_marks] at e
    exact h m e
theorem room_calm {s:StoreV} (hk:s.ok=true) (hd:s.D.Down=false) (hf:s.D.Fuse = -1) (hg:s.Place=30→s.Gen < 60000):s.room.D.Down=false∧s.room.D.Fuse = -1∧s.room.Gen≤s.Gen + 1∧(s.room.Place==30)=false∧s.room.T=s.T:=by
 unfold StoreV.room
 cases g:(s.Place==30)
 ·exact ⟨hd,hf,by show s.Gen≤s.Gen + 1; omega,g,rfl⟩
 ·have e:s.relay=s.lay (s.Gen + 1):=by
   have g3:(s.Gen==60000)=false:=beq_no (by have:=hg (by simpa using g); omega)
   rw [StoreV.relay,hk,hd,g3]; rfl
  have hl:=layDev_fuse (d:=s.D) (by omega) hd (s.Gen + 1) (recsOf s.T)
  have h18:=recs_18 ((StoreV.ok_iff s).1 hk).2.2.2.1
  rw [cond_true,e,lay_up hl.2]
  exact ⟨hl.2,hl.1.trans hf,Int.le_refl _,beq_no (by show ((recsOf s.T).length:Int)≠30; omega),rfl⟩
theorem add_calm {s:StoreV} (r:RecV) (hk:s.ok=true) (hd:s.D.Down=false) (hf:s.D.Fuse = -1) (hg:s.Place=30→s.Gen < 60000) :
  (s.add r).1.D.Down=false∧(s.add r).1.D.Fuse = -1∧(s.add r).1.Gen≤s.Gen + 1∧(s.add r).1.T=(s.T.apply r).1∧(s.add r).2=(s.T.apply r).2:=by
 have ef:s.fits r=(s.T.apply r).2:=by rw [StoreV.fits,hk,hd]; rfl
 unfold StoreV.add
 rw [ef]
 cases g:(s.T.apply r).2
 ·exact ⟨hd,hf,by show s.Gen≤s.Gen + 1; omega,(apply_no g).symm,rfl⟩
 ·obtain ⟨a1,a2,a3,a4,a5⟩:=room_calm hk hd hf hg
  obtain ⟨b1,b2⟩:=write_fuse (d:=s.room.D) (by omega) a1 (secOf s.room.Gen s.room.Place) (putRec s.room.Gen s.room.Place r)
  obtain ⟨c1,c2⟩:=flush_fuse (d:=s.room.D.write (secOf s.room.Gen s.room.Place) (putRec s.room.Gen s.room.Place r)) (by omega) b2
  have el:(s.room.log r).Down=false:=c2
  have e:s.room.end (s.T.apply r).1 r=(⟨s.room.log r,(s.T.apply r).1,s.room.Gen,s.room.Place + 1⟩,true):=by
   rw [StoreV.end,a1,a4,el]; rfl
  rw [cond_true,e]
  exact ⟨el,(c1.trans b1).trans a2,a3,rfl,rfl⟩
def NodeV.calm (g N:Int) (n:NodeV):Prop:=n.up=true∧n.S.D.Fuse = -1∧n.S.Gen≤g∧∀ m∈n.S.T.Marks,m.Seq≤N
theorem NodeV.calm.mono {g h N:Int} {n:NodeV} (q:n.calm g N) (hg:g≤h):n.calm h N:=⟨q.1,q.2.1,Int.le_trans q.2.2.1 hg,q.2.2.2⟩
theorem up_in {n:NodeV} (h:n.up=true):n.In (2 ^ 20):=StoreV.ok_in (up_ok h).1
theorem added_calm {n:NodeV} {g N:Int} (r:RecV) (h:n.calm g N) (hg:g < 60000) (hr:r.Who≤0∨r.Seq≤N):(n.added r).calm (g + 1) N∧(n.S.add r).2=(n.S.T.apply r).2∧(n.added r).S.T=(n.S.T.apply r).1:=by
 obtain ⟨h1,h2,h3,h4⟩:=h
 obtain ⟨k1,k2,k3⟩:=up_ok h1
 obtain ⟨a1,a2,a3,a4,a5⟩:=add_calm r k1 k2 h2 (fun _=>by omega)
 have ho:=(add_ok r k1).1
 refine ⟨⟨?_,a2,by show (n.S.add r).1.Gen≤_; omega,?_⟩,a5,a4⟩
 ·show (NodeV.mk (n.S.add r).1 n.Cs).up=true
  rw [NodeV.up,NodeV.ok,ho,k3,a1]; rfl
 ·show ∀ m∈(n.S.add r).1.T.Marks,m.Seq≤N
  rw [a4]
  exact apply_marks h4 hr
theorem phase_calm {n:NodeV} {g N:Int} (p:Int) (h:n.calm g N) (hg:g < 60000):(n.phase p).1.calm (g + 1) N:=by
 rw [NodeV.phase,h.1,cond_true]
 show (n.phase1 p).calm (g + 1) N
 unfold NodeV.phase1
 cases nextOk n.S.T.Phase p
 ·exact h.mono (by omega)
 ·exact (added_calm (recPh p) h hg (.inl (Int.le_refl 0))).1
theorem told_seq (r:RecV):r.told.Seq=r.Seq:=by
 unfold RecV.told
 cases r.Code != 0 <;> rfl
theorem del_calm {n:NodeV} {g N who seq:Int} (key:ByteArray) (h:n.calm g N) (hg:g < 60000) (hs:seq≤N):(n.del who seq key).1.calm (g + 1) N:=by
 unfold NodeV.del
 cases (n.old who seq).2
 ·exact (added_calm _ h hg (.inr (by rw [told_seq]; exact hs))).1
 ·exact h.mono (by omega)
theorem put_calm {n:NodeV} {g N who seq:Int} (key s:ByteArray) (h:n.calm g N) (hg:g < 60000) (hs:seq≤N):(n.putIn who seq key s).1.calm (g + 1) N:=by
 unfold NodeV.putIn
 cases (n.old who seq).2
 ·exact (added_calm _ h hg (.inr (by rw [told_seq]; exact hs))).1
 ·exact h.mono (by omega)
theorem load_calm {n:NodeV} {g N:Int} (key:ByteArray) (b:List UInt8) (h:n.calm g N) (hg:g < 60000):(n.load key b).1.calm (g + 1) N:=by
 unfold NodeV.load
 cases n.up&&nameOk key&&decide ((b.length:Int)≤20)
 ·exact h.mono (by omega)
 ·cases n.S.T.Phase==0
  ·exact h.mono (by omega)
  ·exact (added_calm _ h hg (.inl (Int.le_refl 0))).1
theorem stepN_calm {p g N:Int}:∀ (l:List RowV) (n:NodeV) (k:Int),n.calm k N→k + l.length < 60000→(stepN p n l).1.calm (k + l.length) N
 | [],n,k,h,_=>h.mono (by simp)
 | r::l,n,k,h,hg=>by
  simp only [List.length_cons] at hg ⊢
  simp only [stepN]
  cases rowSame (turned p r) r
  ·have ha:=(added_calm (recRow (turned p r)) h (by omega) (.inl (Int.le_refl 0))).1
   cases (n.S.add (recRow (turned p r))).2
   ·exact ha.mono (by omega)
   ·exact (stepN_calm (g:=g) l _ (k + 1) ha (by omega)).mono (by omega)
  ·exact (stepN_calm (g:=g) l _ k h (by omega)).mono (by omega)
theorem step_calm {n:NodeV} {g N:Int} (f:ByteArray) (h:n.calm g N) (hg:g + 2 < 60000):(n.step f).1.calm (g + 2) N:=by
 have hl:((behind f n.S.T.Rows).take 2).length≤2:=by rw [List.length_take]; omega
 have hs:=stepN_calm (p:=n.S.T.Phase) (g:=g) ((behind f n.S.T.Rows).take 2) n g h (by omega)
 unfold NodeV.step
 cases n.up&&walks n.S.T.Phase
 ·exact h.mono (by omega)
 ·cases (stepN n.S.T.Phase n ((behind f n.S.T.Rows).take 2)).2 <;> exact hs.mono (by omega)
theorem fmt_ok:fmt.ok=true∧fmt.D.Down=false∧fmt.D.Fuse = -1:=by
 have hf:=layDev_fuse (d:=devNew 62) (by rw [devNew_62]; decide) (by rw [devNew_62]) 1 [recPhase 0]
 rw [fmt_eq]
 refine ⟨(StoreV.ok_iff _).2 ⟨layDev_ok devNew_ok 1 [recPhase 0],?_,.inl ?_,rfl,by decide,by decide⟩,hf.2,hf.1.trans (by rw [devNew_62])⟩
 ·show (layDev 1 [recPhase 0] (devNew 62)).Secs.length=62
  rw [layDev_secs,devNew_62]
  simp
 ·exact flush_empty hf.2
theorem new_calm {cs:Int} (h:1≤cs∧cs≤5) (N:Int):(nodeNew cs).calm 1 N:=by
 have hw:win cs 1 5=true:=by simp only [win,Bool.and_eq_true,decide_eq_true_eq]; exact h
 obtain ⟨h1,h2,h3⟩:=fmt_ok
 rw [nodeNew,hw,cond_true]
 refine ⟨?_,h3,?_,?_⟩
 ·rw [NodeV.up,NodeV.ok,h1,h2,hw]; rfl
 ·show fmt.Gen≤1
  rw [fmt_eq]
  exact Int.le_refl _
 ·show ∀ m∈fmt.T.Marks,_
  rw [fmt_eq]
  intro m hm
  cases hm
abbrev C_G0 (Te:TE):Prop:=∀ (c:CurV) (hc:c.ok),∃ (r:Int) (d:CurV),((1≤r∧r≤5)∧d.ok)∧Te 168 [.ptr c.enc] ⟨[.one (iT r)],[d.enc]⟩
theorem one_byte (b:List UInt8) (x:Int):List.map uR b++[[Tr.pv (Value.int IntKind.u8 (IntKind.u8.wrap x))]]=List.map uR (b++[mkU x]):=by
 have e:IntKind.u8.wrap x=((mkU x).toNat:Int):=mkU_wrap x
 rw [List.map_append,e]
 rfl
abbrev C_G4 (Te:TE):Prop:=∀ (c:CurV) (cs:Int) (hc:c.ok),∃ (b:List UInt8) (d:CurV),(b.length≤81∧d.ok)∧Te 97 [.ptr c.enc,.one (iT cs)] ⟨[.one (slT true 1 uR b)],[d.enc,[iT cs]]⟩
abbrev C_F2 (Te:TE):Prop:=∀ (c:CurV) (n:NodeV) (g:Int) (hc:c.ok) (hn:n.calm g 30) (hg:g + 2 < 60000),∃ (m:NodeV) (d:CurV),(m.calm (g + 2) 30∧d.ok)∧Te 169 [.ptr c.enc,.ptr (n.enc true)] ⟨[],[d.enc,m.enc true]⟩
abbrev C_F3 (Te:TE):Prop:=∀ (c:CurV) (most:Int) (hc:c.ok) (hm:0≤most∧most≤16),∃ (n:NodeV) (d:CurV),(n.calm 40 30∧d.ok)∧Te 81 [.ptr c.enc,.one (iT most)] ⟨[.agg (n.enc true)],[d.enc,[iT most]]⟩
theorem fill_in2 {r:RowV} (h:r.In (2 ^ 20)):r.fill.In (2 ^ 20):=turned_in (p:=2) h
theorem back_in2 {r:RowV} (h:r.In (2 ^ 20)):r.back.In (2 ^ 20):=turned_in (p:=6) h
theorem zero_rows (n:Nat):(List.replicate n [Tr.pv (Value.int IntKind.u8 0)]:List (List T))=List.map uR (List.replicate n 0):=by rw [List.map_replicate]; rfl
theorem take_zeros (n:Nat):List.take n (List.map uR (List.replicate n 0))=List.map uR (List.replicate n 0):=List.take_of_length_le (by simp)
abbrev C_Fz (Te:TE):Prop:=∀ (c:CurV) (hc:c.ok),∃ (r:Int) (d:CurV),(d.ok)∧Te 118 [.ptr c.enc] ⟨[.one (iT r)],[d.enc]⟩
abbrev C_Gc (Te:TE):Prop:=∀ (c:CurV) (hc:c.ok),∃ (x:CellV) (d:CurV),(x.In (2 ^ 20)∧d.ok)∧Te 372 [.ptr c.enc] ⟨[.agg (x.enc true)],[d.enc]⟩
abbrev C_Ga (Te:TE):Prop:=∀ (c:CurV) (hc:c.ok),∃ (x:CellV) (d:CurV),(x.In (2 ^ 20)∧d.ok)∧Te 354 [.ptr c.enc] ⟨[.agg (x.enc true)],[d.enc]⟩
abbrev C_Gf (Te:TE):Prop:=∀ (c:CurV) (hc:c.ok),∃ (r:RowV) (d:CurV),(r.In (2 ^ 20)∧d.ok)∧Te 353 [.ptr c.enc] ⟨[.agg (r.enc true)],[d.enc]⟩
abbrev C_Gd (Te:TE):Prop:=∀ (c:CurV) (hc:c.ok),∃ (r:RowV) (d:CurV),(r.In (2 ^ 20)∧d.ok)∧Te 320 [.ptr c.enc] ⟨[.agg (r.enc true)],[d.enc]⟩
abbrev C_Ej (Te:TE):Prop:=∀ (c:CurV) (hc:c.ok),∃ (r:RecV) (d:CurV),(r.In (2 ^ 20)∧d.ok)∧Te 316 [.ptr c.enc] ⟨[.agg (r.enc true)],[d.enc]⟩
theorem mark_eqs (x:MarkV):eqL [0,0,0] [.pv (.int .i64 x.Who),.pv (.int .i64 x.Seq),.pv (.int .i64 x.Code)] [.pv (.int .i64 x.Who),.pv (.int .i64 x.Seq),.pv (.int .i64 x.Code)]=some true:=by
 simp only [eqL,eqV,bytes_beq,beq_self_eq_true,cond_true,Option.bind_some,Option.map_some,decide_true,Bool.and_self]
theorem act_eqs (x:ActV):eqL [0,0,0,2,2,0] [.pv (.int .i64 x.Kind),.pv (.int .i64 x.Who),.pv (.int .i64 x.Seq),.pv (.string x.Key),.pv (.string x.Text),.pv (.int .i64 x.Code)] [.pv (.int .i64 x.Kind),.pv (.int .i64 x.Who),.pv (.int .i64 x.Seq),.pv (.string x.Key),.pv (.string x.Text),.pv (.int .i64 x.Code)]=some true:=by
 simp only [eqL,eqV,bytes_beq,beq_self_eq_true,cond_true,Option.bind_some,Option.map_some,decide_true,Bool.and_self]
abbrev C_Cl (Te:TE):Prop:=∀ (a:CellV),Te 302 [.agg (a.enc false),.agg (a.enc false)] ⟨[.one (bT true)],[a.enc false,a.enc false]⟩
abbrev C_Cp (Te:TE):Prop:=∀ (a:RowV),Te 250 [.agg (a.enc false),.agg (a.enc false)] ⟨[.one (bT true)],[a.enc false,a.enc false]⟩
abbrev C_Cm (Te:TE):Prop:=∀ (d:DevV) (h:d.Len),Te 165 [.agg (d.enc false),.agg (d.enc false)] ⟨[.one (bT true)],[d.enc false,d.enc false]⟩
abbrev C_Cr (Te:TE):Prop:=∀ (t:TabV) (h:t.Len),Te 166 [.agg (t.enc false),.agg (t.enc false)] ⟨[.one (bT true)],[t.enc false,t.enc false]⟩
abbrev C_Cq (Te:TE):Prop:=∀ (s:StoreV) (h:s.Len),Te 71 [.agg (s.enc false),.agg (s.enc false)] ⟨[.one (bT true)],[s.enc false,s.enc false]⟩
abbrev C_Co (Te:TE):Prop:=∀ (n:NodeV) (h:n.Len),Te 14 [.agg (n.enc false),.agg (n.enc false)] ⟨[.one (bT true)],[n.enc false,n.enc false]⟩
abbrev C_Ck (Te:TE):Prop:=∀ (x:List ActV) (hx:x.length≤2 ^ 31),Te 16 [.one (slT false 6 ActV.row x),.one (slT false 6 ActV.row x)] ⟨[.one (bT true)],[[slT false 6 ActV.row x],[slT false 6 ActV.row x]]⟩
theorem devNew_small {u:Int} (h0:0≤u) (h1:u < 6):(devNew (2 + u)).ok=true:=by
 rcases (show u=0∨u=1∨u=2∨u=3∨u=4∨u=5 by omega) with rfl | rfl | rfl | rfl | rfl | rfl <;> rfl
abbrev C_Ed (Te:TE):Prop:=∀ (c:CurV) (hc:c.ok),∃ (x:DevV) (d:CurV),(x.ok=true∧d.ok)∧Te 317 [.ptr c.enc] ⟨[.agg (x.enc true)],[d.enc]⟩
theorem apply_ok2 {t:TabV} (r:RecV) (h:t.ok=true):(t.apply r).1.ok=true:=by
 unfold TabV.apply
 cases g:r.ok&&t.ok&&(t.change r).ok
 ·exact h
 ·simp only [Bool.and_eq_true] at g
  exact g.2
abbrev C_Eo (Te:TE):Prop:=∀ (c:CurV) (hc:c.ok),∃ (x:TabV) (d:CurV),(x.ok=true∧d.ok)∧Te 319 [.ptr c.enc,.one (iT 4)] ⟨[.agg (x.enc true)],[d.enc,[iT 4]]⟩
def StoreV.still (k:Int) (s:StoreV):Prop:=s.ok=true∧s.D.Down=false∧s.D.Fuse = -1∧s.Gen≤1∧s.Place≤k
theorem fmt_still:fmt.still 1:=by
 obtain ⟨h1,h2,h3⟩:=fmt_ok
 refine ⟨h1,h2,h3,?_,?_⟩ <;> rw [fmt_eq] <;> exact Int.le_refl _
theorem StoreV.still.mono {s:StoreV} {j k:Int} (h:s.still j) (hk:j≤k):s.still k:=⟨h.1,h.2.1,h.2.2.1,h.2.2.2.1,Int.le_trans h.2.2.2.2 hk⟩
theorem add_still {s:StoreV} {k:Int} (r:RecV) (h:s.still k) (hk:k < 30):(s.add r).1.still (k + 1):=by
 obtain ⟨h1,h2,h3,h4,h5⟩:=h
 obtain ⟨a1,a2,_⟩:=add_calm r h1 h2 h3 (fun e=>by omega)
 refine ⟨(add_ok r h1).1,a1,a2,?_⟩
 have er:s.room=s:=by rw [StoreV.room,beq_no (show s.Place≠30 by omega)]; rfl
 unfold StoreV.add
 cases s.fits r
 ·exact ⟨h4,by show s.Place≤k + 1; omega⟩
 ·rw [er,cond_true]
  unfold StoreV.end
  cases s.D.Down||(s.Place==30)
  ·cases (s.log r).Down
   ·exact ⟨h4,by show s.Place + 1≤k + 1; omega⟩
   ·exact ⟨h4,by show s.Place≤k + 1; omega⟩
  ·exact ⟨h4,by show s.Place≤k + 1; omega⟩
abbrev C_Ey (Te:TE):Prop:=∀ (c:CurV) (hc:c.ok),∃ (s:StoreV) (d:CurV),(s.still 5∧d.ok)∧Te 262 [.ptr c.enc,.one (iT 4)] ⟨[.agg (s.enc true)],[d.enc,[iT 4]]⟩
theorem tab_8 {t:TabV} (h:t.ok=true):t.Rows.length≤8:=by
 simp only [TabV.ok,Bool.and_eq_true,decide_eq_true_eq] at h
 have:=h.2.1
 omega
theorem app1Row (l:List RowV) (x:RowV):List.map (RowV.enc true) l++[[sT x.Key,iT x.Old.Tag,slT true 1 uR x.Old.B,iT x.New.Tag,slT true 1 uR x.New.B,iT x.Has,bT x.Aside]]=List.map (RowV.enc true) (l++[x]):=by rw [List.map_append]; rfl
theorem take1 {α β:Type} (f:α→β) (l:List α) (x:α):List.take (l.length + 1) (List.map f (l++[x]))=List.map f (l++[x]):=List.take_of_length_le (by simp)
theorem rows_in1 {l:List RowV} {n:Nat} (h:l.length + 1≤n) (hl:∀ y∈l,y.In n) {x:RowV} (hx:x.In n):(l++[x]).length≤n∧∀ y∈l++[x],y.In n:=by
 refine ⟨by simp only [List.length_append,List.length_cons,List.length_nil]; omega,fun y hy=>?_⟩
 rcases List.mem_append.1 hy with hy | hy
 ·exact hl y hy
 ·rw [List.mem_singleton.1 hy]; exact hx
abbrev C_Em (Te:TE):Prop:=∀ (c:CurV) (hc:c.ok),∃ (x:TabV) (d:CurV),(x.In (2 ^ 20)∧d.ok)∧Te 264 [.ptr c.enc,.one (iT 4)] ⟨[.agg (x.enc true)],[d.enc,[iT 4]]⟩
theorem set_secs (l:List (List UInt8)) (i:Nat) (b:List UInt8):(List.map (secR true) l).set i [slT true 1 uR b]=List.map (secR true) (l.set i b):=by rw [List.map_set]
theorem secs_in {l:List (List UInt8)} {n i:Nat} (h:l.length≤n∧∀ y∈l,y.length≤n) {b:List UInt8} (hb:b.length≤n):(l.set i b).length≤n∧∀ y∈l.set i b,y.length≤n:=by
 refine ⟨by rw [List.length_set]; exact h.1,fun y hy=>?_⟩
 rcases List.mem_or_eq_of_mem_set hy with hy | hy
 ·exact h.2 y hy
 ·rw [hy]; exact hb
theorem cache_in {l:List WrV} {n:Nat} (h:l.length + 1≤n) (hl:∀ y∈l,y.In n) {x:WrV} (hx:x.In n):(l++[x]).length≤n∧∀ y∈l++[x],y.In n:=by
 refine ⟨by simp only [List.length_append,List.length_cons,List.length_nil]; omega,fun y hy=>?_⟩
 rcases List.mem_append.1 hy with hy | hy
 ·exact hl y hy
 ·rw [List.mem_singleton.1 hy]; exact hx
abbrev C_Eb (Te:TE):Prop:=∀ (c:CurV) (hc:c.ok),∃ (x:DevV) (d:CurV),(x.In (2 ^ 20)∧d.ok)∧Te 263 [.ptr c.enc] ⟨[.agg (x.enc true)],[d.enc]⟩
def StoreV.far30 (s:StoreV):Prop:=s.Place=30→s.Gen < 60000
abbrev C_Ev (Te:TE):Prop:=∀ (c:CurV) (hc:c.ok),∃ (s:StoreV) (d:CurV),((s.In (2 ^ 20)∧s.far30)∧d.ok)∧Te 180 [.ptr c.enc,.one (iT 4)] ⟨[.agg (s.enc true)],[d.enc,[iT 4]]⟩
abbrev C_F0 (Te:TE):Prop:=∀ (c:CurV) (most:Int) (hc:c.ok) (hm:0≤most∧most≤16),∃ (n:NodeV) (d:CurV),((n.In (2 ^ 20)∧n.S.far30)∧d.ok)∧Te 92 [.ptr c.enc,.one (iT most)] ⟨[.agg (n.enc true)],[d.enc,[iT most]]⟩
abbrev C_Fb (Te:TE):Prop:=∀ (c:CurV) (hc:c.ok),∃ (n:NodeV) (m:Msg) (d:CurV),((n.In (2 ^ 20)∧n.S.far30)∧msgS m∧d.ok)∧Te 59 [.ptr c.enc] ⟨[.agg (n.enc true),.agg m.row],[d.enc]⟩
abbrev C_D3 (Te:TE):Prop:=∀ (l:List UInt8) (hl:l.length≤2 ^ 31),∃ (n:NodeV) (m:Msg),(n.In (2 ^ 20)∧msgS m)∧Te 10 [.one (slT false 1 uR l)] ⟨[.agg (n.enc true),.agg m.row],[[slT false 1 uR l]]⟩
abbrev C_D4 (Te:TE):Prop:=∀ (l:List UInt8) (hl:l.length≤2 ^ 31),∃ (n:NodeV) (m:Msg),((n.In (2 ^ 20)∧n.S.far30)∧msgS m)∧Te 13 [.one (slT false 1 uR l)] ⟨[.agg (n.enc true),.agg m.row],[[slT false 1 uR l]]⟩
theorem toList_eq {a b:ByteArray}:a.toList=b.toList↔a=b:=by
 have h:=bytes_beq a b
 constructor
 ·intro q
  rw [q,beq_self_eq_true] at h
  exact of_decide_eq_true h.symm
 ·intro q
  rw [q]
theorem behind_ne {a b:ByteArray} (h:isBehind a b=true):a≠b:=by
 intro e
 rw [e,behind_irrefl] at h
 cases h
theorem behind_asym {a b:ByteArray} (h:isBehind a b=true):isBehind b a=false:=by
 cases g:isBehind b a
 ·rfl
 ·have:=behind_trans h g
  rw [behind_irrefl] at this
  cases this
theorem behind_tri (a b:ByteArray):isBehind a b=true∨a=b∨isBehind b a=true:=by
 rw [isBehind_iff,isBehind_iff]
 rcases less_tri a.toList b.toList with h | h | h
 ·exact .inl h
 ·exact .inr (.inl (toList_eq.1 h))
 ·exact .inr (.inr h)
theorem less_behind (a b:ByteArray):Op.bytesLess a.toList b.toList=isBehind a b:=by
 rw [Bool.eq_iff_iff,isBehind_iff]
theorem insR_put (r:RowV):∀ (l acc:List RowV),l.foldl (insR r) (acc,true)=(acc++l.filter (fun x=>!decide (x.Key=r.Key)),true)
 | [],acc=>by simp
 | x::l,acc=>by
  have e:insR r (acc,true) x=(if decide (x.Key=r.Key)=true then acc else acc++[x],true):=by simp [insR]
  rw [List.foldl_cons,e,insR_put r l,List.filter_cons]
  by_cases q:x.Key=r.Key <;> simp [q]
theorem insR_eq (r:RowV):∀ (l acc:List RowV),(l.Pairwise fun x y=>isBehind x.Key y.Key=true)→
  (if (l.foldl (insR r) (acc,false)).2=true then (l.foldl (insR r) (acc,false)).1 else (l.foldl (insR r) (acc,false)).1++[r])=acc++(l.filter (fun x=>isBehind x.Key r.Key)++r::l.filter (fun x=>isBehind r.Key x.Key))
 | [],acc,_=>by simp
 | x::l,acc,h=>by
  rw [List.pairwise_cons] at h
  rw [List.foldl_cons]
  cases g:isBehind x.Key r.Key
  ·have hl:∀ y∈l,isBehind r.Key y.Key=true:=fun y hy=>by
    rcases behind_tri r.Key x.Key with q | q | q
    ·exact behind_trans q (h.1 y hy)
    ·rw [q]; exact h.1 y hy
    ·rw [q] at g; cases g
   have f1:l.filter (fun y=>!decide (y.Key=r.Key))=l:=List.filter_eq_self.2 fun y hy=>by
    have:=(behind_ne (hl y hy)).symm
    simp [this]
   have f2:l.filter (fun y=>isBehind y.Key r.Key)=[]:=List.filter_eq_nil_iff.2 fun y hy=>by
    rw [behind_asym (hl y hy)]
    decide
   have f3:l.filter (fun y=>isBehind r.Key y.Key)=l:=List.filter_eq_self.2 hl
   by_cases q:x.Key=r.Key
   ·have q2:isBehind r.Key x.Key=false:=by rw [q,behind_irrefl]
    have e:insR r (acc,false) x=(acc++[r],true):=by
     simp only [insR,less_behind,g,decide_eq_true q]
     simp
    rw [e,insR_put,if_pos rfl,f1]
    simp only [List.filter_cons,g,q2,f2,f3]
    simp
   ·have q2:isBehind r.Key x.Key=true:=by
     rcases behind_tri r.Key x.Key with p | p | p
     ·exact p
     ·exact absurd p.symm q
     ·rw [p] at g; cases g
    have e:insR r (acc,false) x=(acc++[r]++[x],true):=by
     simp only [insR,less_behind,g,decide_eq_false q]
     simp
    rw [e,insR_put,if_pos rfl,f1]
    simp only [List.filter_cons,g,q2,f2,f3]
    simp
  ·have hne:=behind_ne g
   have e:insR r (acc,false) x=(acc++[x],false):=by
    simp [insR,less_behind,g,hne]
   have f:=behind_asym g
   rw [e,insR_eq r l _ h.2,List.filter_cons,if_pos g,List.filter_cons,f,if_neg (by decide)]
   simp
theorem insRow_eq {l:List RowV} {r:RowV} (h:l.Pairwise fun x y=>isBehind x.Key y.Key=true):insRow l r=l.filter (fun x=>isBehind x.Key r.Key)++r::l.filter (fun x=>isBehind r.Key x.Key):=insR_eq r l [] h
theorem insRow_sorted {l:List RowV} {r:RowV} (h:l.Pairwise fun x y=>isBehind x.Key y.Key=true):(insRow l r).Pairwise fun x y=>isBehind x.Key y.Key=true:=by
 rw [insRow_eq h,List.pairwise_append,List.pairwise_cons]
 refine ⟨h.filter _,⟨fun y hy=>(List.mem_filter.1 hy).2,h.filter _⟩,fun x hx y hy=>?_⟩
 have hx:=(List.mem_filter.1 hx).2
 rcases List.mem_cons.1 hy with e | hy
 ·rw [e]; exact hx
 ·exact behind_trans hx (List.mem_filter.1 hy).2
theorem insM_put (m:MarkV):∀ (l acc:List MarkV),l.foldl (insM m) (acc,true)=(acc++l.filter (fun x=>decide (x.Who≠m.Who)),true)
 | [],acc=>by simp
 | x::l,acc=>by
  have e:insM m (acc,true) x=(if decide (x.Who≠m.Who)=true then acc++[x] else acc,true):=by simp [insM]
  rw [List.foldl_cons,e,insM_put m l,List.filter_cons]
  by_cases q:x.Who=m.Who <;> simp [q]
theorem insM_eq (m:MarkV):∀ (l acc:List MarkV),(l.Pairwise fun x y=>x.Who < y.Who)→
  (if (l.foldl (insM m) (acc,false)).2=true then (l.foldl (insM m) (acc,false)).1 else (l.foldl (insM m) (acc,false)).1++[m])=acc++(l.filter (fun x=>decide (x.Who < m.Who))++m::l.filter (fun x=>decide (m.Who < x.Who)))
 | [],acc,_=>by simp
 | x::l,acc,h=>by
  rw [List.pairwise_cons] at h
  rw [List.foldl_cons]
  by_cases g:x.Who < m.Who
  ·have e:insM m (acc,false) x=(acc++[x],false):=by
    have g1:¬ x.Who≥m.Who:=by omega
    have g2:x.Who≠m.Who:=by omega
    simp [insM,g1,g2]
   rw [e,insM_eq m l _ h.2,List.filter_cons,if_pos (decide_eq_true g),List.filter_cons,if_neg (by simp only [decide_eq_true_eq]; omega)]
   simp
  ·have hl:∀ y∈l,m.Who < y.Who:=fun y hy=>by have:=h.1 y hy; omega
   have g1:x.Who≥m.Who:=by omega
   have f1:l.filter (fun y=>decide (y.Who≠m.Who))=l:=List.filter_eq_self.2 fun y hy=>by
    have:=hl y hy
    simp only [decide_eq_true_eq]; omega
   have f2:l.filter (fun y=>decide (y.Who < m.Who))=[]:=List.filter_eq_nil_iff.2 fun y hy=>by
    have:=hl y hy
    simp only [decide_eq_true_eq]; omega
   have f3:l.filter (fun y=>decide (m.Who < y.Who))=l:=List.filter_eq_self.2 fun y hy=>decide_eq_true (hl y hy)
   by_cases q:x.Who=m.Who
   ·have e:insM m (acc,false) x=(acc++[m],true):=by simp [insM,q]
    have q1:¬ m.Who < x.Who:=by omega
    rw [e,insM_put,if_pos rfl,f1]
    simp only [List.filter_cons,decide_eq_false g,decide_eq_false q1,f2,f3]
    simp
   ·have e:insM m (acc,false) x=(acc++[m]++[x],true):=by simp [insM,g1,q]
    have q1:m.Who < x.Who:=by omega
    rw [e,insM_put,if_pos rfl,f1]
    simp only [List.filter_cons,decide_eq_false g,decide_eq_true q1,f2,f3]
    simp
theorem insMark_eq {l:List MarkV} {m:MarkV} (h:l.Pairwise fun x y=>x.Who < y.Who):insMark l m=l.filter (fun x=>decide (x.Who < m.Who))++m::l.filter (fun x=>decide (m.Who < x.Who)):=insM_eq m l [] h
theorem insMark_sorted {l:List MarkV} {m:MarkV} (h:l.Pairwise fun x y=>x.Who < y.Who):(insMark l m).Pairwise fun x y=>x.Who < y.Who:=by
 rw [insMark_eq h,List.pairwise_append,List.pairwise_cons]
 refine ⟨h.filter _,⟨fun y hy=>of_decide_eq_true (List.mem_filter.1 hy).2,h.filter _⟩,fun x hx y hy=>?_⟩
 have hx:=of_decide_eq_true (List.mem_filter.1 hx).2
 rcases List.mem_cons.1 hy with e | hy
 ·rw [e]; exact hx
 ·exact Int.lt_trans hx (of_decide_eq_true (List.mem_filter.1 hy).2)
theorem markAt_ins {l:List MarkV} {m:MarkV} (h:l.Pairwise fun x y=>x.Who < y.Who):markAt (insMark l m) m.Who=some m:=by
 rw [insMark_eq h,markAt,List.find?_append,List.find?_cons]
 have f1:(l.filter (fun x=>decide (x.Who < m.Who))).find? (fun x=>x.Who==m.Who)=none:=by
  rw [List.find?_eq_none]
  intro x hx
  have:=of_decide_eq_true (List.mem_filter.1 hx).2
  rw [beq_no (by omega)]
  decide
 rw [f1,beq_self_eq_true]
 rfl
theorem marks_parts {t:TabV} (h:t.ok=true):(∀ m∈t.Marks,m.ok=true)∧t.Marks.Pairwise fun x y=>x.Who < y.Who:=by
 simp only [TabV.ok,Bool.and_eq_true,List.all_eq_true] at h
 have hm:=h.1.2
 have hok:∀ i (hi:i < t.Marks.length),t.Marks[i].ok=true:=fun i hi=>by
  have:=hm i (List.mem_range.2 hi)
  simp only [markGood,List.getElem?_eq_getElem hi,Option.map_some,Option.getD_some,Bool.and_eq_true] at this
  exact this.1
 refine ⟨fun m hm=>?_,?_⟩
 ·obtain ⟨i,hi,e⟩:=List.getElem_of_mem hm
  rw [← e]
  exact hok i hi
 ·have step:∀ j (hj:j + 1 < t.Marks.length),(t.Marks[j]'(by omega)).Who < t.Marks[j + 1].Who:=fun j hj=>by
   have:=hm (j + 1) (List.mem_range.2 hj)
   rw [markGood_succ hj] at this
   simp only [Bool.and_eq_true,Bool.not_eq_true',decide_eq_false_iff_not] at this
   omega
  have key:∀ (d i:Nat) (hd:i + d + 1 < t.Marks.length),(t.Marks[i]'(by omega)).Who < (t.Marks[i + d + 1]'hd).Who:=by
   intro d
   induction d with
   | zero=>intro i hd; exact step i hd
   | succ d ih=>intro i hd; exact Int.lt_trans (ih i (by omega)) (step (i + d + 1) hd)
  rw [List.pairwise_iff_getElem]
  intro i j hi hj hij
  have:=key (j - i - 1) i (by omega)
  have e:i + (j - i - 1) + 1=j:=by omega
  simp only [e] at this
  exact this
theorem TabV.ok_rows {t:TabV} (h:t.ok=true):∀ r∈t.Rows,r.ok=true:=fun r hr=>by
 obtain ⟨i,hi,e⟩:=List.getElem_of_mem hr
 rw [← e]
 exact TabV.ok_at h hi
theorem TabV.ok_len {t:TabV} (h:t.ok=true):t.Rows.length≤8∧win t.Phase 0 7=true:=by
 simp only [TabV.ok,Bool.and_eq_true,decide_eq_true_eq] at h
 exact ⟨by omega,h.2.2⟩
theorem TabV.ok_mk {t:TabV} (h1:∀ r∈t.Rows,r.ok=true) (h2:t.Rows.Pairwise fun x y=>isBehind x.Key y.Key=true) (h3:∀ m∈t.Marks,m.ok=true) (h4:t.Marks.Pairwise fun x y=>x.Who < y.Who) (h5:t.Rows.length≤8) (h6:win t.Phase 0 7=true):t.ok=true:=by
 rw [List.pairwise_iff_getElem] at h2 h4
 simp only [TabV.ok,Bool.and_eq_true,List.all_eq_true,decide_eq_true_eq]
 refine ⟨⟨fun i hi=>?_,fun i hi=>?_⟩,by omega,h6⟩
 ·have hi:=List.mem_range.1 hi
  cases i with
  | zero=>rw [rowGood_zero hi]; exact h1 _ (List.getElem_mem hi)
  | succ j =>
   rw [rowGood_succ hi,h1 _ (List.getElem_mem hi),less_behind,h2 j (j + 1) (by omega) hi (by omega)]
   rfl
 ·have hi:=List.mem_range.1 hi
  cases i with
  | zero=>rw [markGood_zero hi]; exact h3 _ (List.getElem_mem hi)
  | succ j =>
   have:=h4 j (j + 1) (by omega) hi (by omega)
   rw [markGood_succ hi,h3 _ (List.getElem_mem hi),decide_eq_false (by omega)]
   rfl
theorem change_ok {t:TabV} {r:RecV} (h:t.ok=true) (hr:r.ok=true) (hp:(t.put r).ok=true):(t.change r).ok=true:=by
 unfold TabV.change
 cases g:decide (r.Who > 0)
 ·exact hp
 ·rw [cond_true]
  obtain ⟨a1,a2⟩:=marks_parts hp
  obtain ⟨b1,b2⟩:=TabV.ok_len hp
  have hm:(MarkV.mk r.Who r.Seq r.Code).ok=true:=by
   simp only [RecV.ok,Bool.and_eq_true,RecV.who] at hr
   have g2:(r.Who==0)=false:=beq_no (by simp only [decide_eq_true_eq] at g; omega)
   have hw:=hr.2
   rw [g2,cond_false] at hw
   exact hw
  refine TabV.ok_mk (TabV.ok_rows (t:=t.put r) hp) (rows_sorted (t:=t.put r) hp) (fun m hm'=>?_) (insMark_sorted a2) b1 b2
  rcases insMark_mem hm' with e | e
  ·rw [e]; exact hm
  ·exact a1 m e
theorem apply_good {t:TabV} {r:RecV} (h:t.ok=true) (hr:r.ok=true) (hp:(t.put r).ok=true):(t.apply r)=(t.change r,true):=by
 rw [TabV.apply,hr,h,change_ok h hr hp]
 rfl
theorem change_mark {t:TabV} {r:RecV} (h:t.ok=true) (hw:0 < r.Who):markAt (t.change r).Marks r.Who=some ⟨r.Who,r.Seq,r.Code⟩:=by
 unfold TabV.change
 rw [decide_eq_true hw,cond_true,put_marks]
 exact markAt_ins (m:=⟨r.Who,r.Seq,r.Code⟩) (marks_parts h).2
theorem put_row_ok {t:TabV} {r:RecV} (h:t.ok=true) (hk:r.Kind=1) (hr:r.R.ok=true) (hl:(insRow t.Rows r.R).length≤8):(t.put r).ok=true:=by
 rw [TabV.put,beq_yes hk,cond_true]
 obtain ⟨a1,a2⟩:=marks_parts h
 refine TabV.ok_mk (fun x hx=>?_) (insRow_sorted (rows_sorted h)) a1 a2 hl (TabV.ok_len h).2
 rcases insRow_mem hx with e | e
 ·rw [e]; exact hr
 ·exact TabV.ok_rows h x e
theorem put_gone_ok {t:TabV} {r:RecV} (h:t.ok=true) (hk:r.Kind=2):(t.put r).ok=true:=by
 have g1:(r.Kind==1)=false:=beq_no (by omega)
 rw [TabV.put,g1,cond_false,beq_yes hk,cond_true]
 obtain ⟨a1,a2⟩:=marks_parts h
 refine TabV.ok_mk (fun x hx=>TabV.ok_rows h x (List.mem_filter.1 hx).1) ((rows_sorted h).filter _) a1 a2 (Nat.le_trans (List.length_filter_le _ _) (TabV.ok_len h).1) (TabV.ok_len h).2
theorem put_who_ok {t:TabV} {r:RecV} (h:t.ok=true) (hk:r.Kind=4):t.put r=t:=by
 have g1:(r.Kind==1)=false:=beq_no (by omega)
 have g2:(r.Kind==2)=false:=beq_no (by omega)
 have g3:(r.Kind==3)=false:=beq_no (by omega)
 rw [TabV.put,g1,g2,g3]
 rfl
theorem valid_step {l:List UInt8} (hne:l≠[]) (hv:Lib.validD l=true):∃ n k:Nat,signAt l=some (n,k)∧1≤k∧k≤l.length∧enc8 n=l.take k∧signOk n=true∧Lib.validD (l.drop k)=true∧signs l=(n:Int)::signs (l.drop k):=by
 have hw:=Lib.decodeL_width l
 have hle:=Lib.decodeL_le l hne
 rw [Lib.validD_step _ hne] at hv
 by_cases hb:(Lib.decodeL l).1=65533∧(Lib.decodeL l).2=1
 ·rw [if_pos hb] at hv; cases hv
 ·rw [if_neg hb] at hv
  have hs:signAt l=some ((Lib.decodeL l).1,(Lib.decodeL l).2):=by rw [signAt,if_neg hb]
  have he:=enc_take hle hs
  exact ⟨_,_,hs,by omega,hle,he.1,he.2,hv,signs_step hne⟩
theorem enc_utf:∀ (k:Nat) (l out:List UInt8),l.length≤k→Lib.validD l=true→encGo 0 out (signs l)=(out++l,true)
 | 0,l,out,h,_=>by
  have:l=[]:=List.length_eq_zero_iff.1 (by omega)
  subst this
  rw [signs_nil,encGo,List.append_nil]
 | k + 1,l,out,h,hv=>by
  by_cases hne:l=[]
  ·subst hne
   rw [signs_nil,encGo,List.append_nil]
  ·obtain ⟨n,j,h1,h2,h3,h4,h5,h6,h7⟩:=valid_step hne hv
   have e:putIn 0 out n=(out++l.take j,true):=by
    rw [putIn_utf rfl,putSign,if_pos h5,Int.toNat_natCast,h4]
   rw [h7,encGo,e,cond_true,enc_utf k _ _ (by rw [List.length_drop]; omega) h6,List.append_assoc,List.take_append_drop]
theorem dec_utf (l:List UInt8):∀ (k i:Nat),l.length - i≤k→i≤l.length→Lib.validD (l.drop i)=true→decGo 0 l k i (l.take i)=(⟨⟨l⟩⟩,true)
 | 0,i,h,hi,_=>by
  have:i=l.length:=by omega
  subst this
  rw [List.take_length]
  rfl
 | k + 1,i,h,hi,hv=>by
  by_cases q:i=l.length
  ·subst q
   rw [List.take_length,dec_end (by omega)]
  ·have hne:l.drop i≠[]:=fun e=>by
    have:=congrArg List.length e
    rw [List.length_drop,List.length_nil] at this
    omega
   obtain ⟨n,j,h1,h2,h3,h4,h5,h6,h7⟩:=valid_step hne hv
   rw [List.length_drop] at h3
   have hg:signIn 0 l i=((n:Int),(i:Int) + (j:Nat),true):=by
    rw [signIn,if_pos rfl]
    exact getSign_good (b:=l) (i:=(i:Int)) ⟨Int.natCast_nonneg i,by omega⟩ (by rw [Int.toNat_natCast]; exact h1)
   have hc:putSign (l.take i) n=l.take (i + j):=by
    rw [putSign,if_pos h5,Int.toNat_natCast,h4,List.take_add]
   rw [dec_step (by omega) (by rw [hg]),hg,hc,show (i:Int) + (j:Nat)=((i + j:Nat):Int) by omega]
   exact dec_utf l k (i + j) (by omega) (by omega) (by rw [← List.drop_drop]; exact h6)
theorem utf_back {s:ByteArray} (h:(encode 0 s).2=true):(encode 0 s).1=s.data.toList∧decode 0 s.data.toList=(s,true):=by
 have hw:win 0 0 5=true:=rfl
 have hv:Lib.validD s.data.toList=true:=by
  cases g:Lib.validD s.data.toList
  ·rw [encode,hw,signsOf,g] at h; cases h
  ·rfl
 have e:signsOf s=(signs s.data.toList,true):=by rw [signsOf,if_pos hv]
 refine ⟨?_,?_⟩
 ·rw [encode,hw,e]
  exact congrArg Prod.fst (enc_utf _ _ [] (Nat.le_refl _) hv)
 ·rw [decode,if_pos hw]
  exact dec_utf s.data.toList _ 0 (by omega) (Nat.zero_le _) hv
theorem cell_utf {s:ByteArray} (h:(cellOf 0 s).2=true):(cellOf 0 s).1.Tag=0∧(cellOf 0 s).1.ok=true∧(cellOf 0 s).1.text=(s,true):=by
 cases g:(encode 0 s).2
 ·rw [cellOf_no g] at h; cases h
 ·cases g2:decide (((encode 0 s).1.length:Int)≤20)
  ·rw [cellOf_big g2] at h; cases h
  ·obtain ⟨a1,a2⟩:=utf_back g
   have hk:(CellV.mk 0 (encode 0 s).1).ok=true:=by
    rw [CellV.ok,g2]; rfl
   rw [cellOf_yes g g2]
   refine ⟨rfl,hk,?_⟩
   rw [CellV.text,if_pos hk]
   show decode 0 (encode 0 s).1=_
   rw [a1,a2]
theorem tab_of_up {n:NodeV} (h:n.up=true):n.S.T.ok=true:=((StoreV.ok_iff n.S).1 (up_ok h).1).2.2.2.1
theorem of_beq_no {a b:Int} (h:(a==b)=false):a≠b:=by simpa using h
theorem rowAt_find (l:List RowV) (key:ByteArray):decide (rowAt l key < 0)=(l.find? (fun r=>decide (r.Key=key))).isNone:=by
 have e:l[rowIx l key]?=l.find? (fun r=>decide (r.Key=key)):=List.find?_eq_getElem?_findIdx.symm
 rw [← e,rowAt]
 by_cases h:rowIx l key < l.length
 ·rw [if_pos h,List.getElem?_eq_getElem h]
  exact decide_eq_false (by omega)
 ·rw [if_neg h,List.getElem?_eq_none (by omega)]
  rfl
theorem ins_len {l:List RowV} {r:RowV} (h:l.Pairwise fun x y=>isBehind x.Key y.Key=true) (hl:l.length≤8) (hf:(l.find? (fun x=>decide (x.Key=r.Key))).isNone=true→l.length≠8):(insRow l r).length≤8:=by
 have key:∀ m:List RowV,(m.filter (fun x=>isBehind x.Key r.Key)).length + (m.filter (fun x=>isBehind r.Key x.Key)).length≤m.length:=by
  intro m
  induction m with
  | nil=>exact Nat.le_refl _
  | cons x m ih =>
   rw [List.filter_cons,List.filter_cons,List.length_cons]
   cases g:isBehind x.Key r.Key
   ·cases g2:isBehind r.Key x.Key
    ·rw [if_neg (by decide),if_neg (by decide)]; omega
    ·rw [if_neg (by decide),if_pos rfl,List.length_cons]; omega
   ·rw [behind_asym g,if_pos rfl,if_neg (by decide),List.length_cons]; omega
 have hlen:(insRow l r).length=(l.filter (fun x=>isBehind x.Key r.Key)).length + (l.filter (fun x=>isBehind r.Key x.Key)).length + 1:=by
  rw [insRow_eq h,List.length_append,List.length_cons]; omega
 have hk:=key l
 cases q:(l.find? (fun x=>decide (x.Key=r.Key))).isNone
 ·have:∃ x∈l,x.Key=r.Key:=by
   cases f:l.find? (fun x=>decide (x.Key=r.Key)) with
   | none=>rw [f] at q; cases q
   | some x=>exact ⟨x,List.mem_of_find?_eq_some f,by simpa using List.find?_some f⟩
  obtain ⟨x,hx,ex⟩:=this
  obtain ⟨u,v,e⟩:=List.append_of_mem hx
  have k1:=key u
  have k2:=key v
  have hx1:isBehind x.Key r.Key=false:=by rw [ex]; exact behind_irrefl _
  have hx2:isBehind r.Key x.Key=false:=by rw [ex]; exact behind_irrefl _
  rw [hlen,e]
  rw [e] at hl
  simp only [List.filter_append,List.filter_cons,hx1,hx2,List.length_append,List.length_cons] at hl ⊢
  simp only [Bool.false_eq_true,if_false]
  omega
 ·have:=hf q
  omega
theorem signIn_put {cs n:Int} {P e R:List UInt8} (hc:win cs 1 5=true) (h:putIn cs P n=(P++e,true)):signIn cs (P++e++R) (P.length:Nat)=(n,((P.length + e.length:Nat):Int),true)∧0 < e.length:=by
 have hn0:¬ cs=0:=by
  simp only [win,Bool.and_eq_true,decide_eq_true_eq] at hc
  omega
 have hd:(P++e++R).drop P.length=e++R:=by rw [List.append_assoc,List.drop_left]
 have hlt:0 < e.length→0≤((P.length:Nat):Int)∧((P.length:Nat):Int) < (P++e++R).length:=fun he=>by
  simp only [List.length_append]
  omega
 by_cases h5:cs=5
 ·subst h5
  rw [putIn_euc rfl rfl,putEuc] at h
  cases g:win n 0 127
  ·rw [g,cond_false] at h
   cases g2:(signPair n).2.2
   ·rw [g2] at h
    exact absurd (congrArg Prod.snd h) Bool.false_ne_true
   ·rw [g2,cond_true] at h
    have he:e=[mkU (signPair n).1,mkU (signPair n).2.1]:=by
     have:=congrArg Prod.fst h
     exact (List.append_cancel_left this).symm
    subst he
    refine ⟨?_,Nat.succ_pos _⟩
    rw [signIn,if_neg (by decide),if_pos rfl]
    have hp:∃ hi lo:Nat,(signPair n).1=hi∧(signPair n).2.1=lo∧hi < 256∧lo < 256∧128≤hi∧pairSign hi lo=(n,true):=by
     unfold signPair at g2 ⊢
     cases a1:win n 12353 12435
     ·cases a2:win n 12449 12534
      ·rw [a1,a2] at g2
       cases g2
      ·simp only [win,Bool.and_eq_true,decide_eq_true_eq] at a2
       refine ⟨165,(n - 12449 + 161).toNat,rfl,?_,by decide,by omega,by decide,?_⟩
       ·show n - 12449 + 161=_
        omega
       ·have w:win (((n - 12449 + 161).toNat:Nat):Int) 161 246=true:=by
         simp only [win,Bool.and_eq_true,decide_eq_true_eq]
         omega
        rw [pairSign,w]
        rw [if_neg (fun z=>Bool.noConfusion z),if_pos (c:=(((165:Nat):Int)==165&&true)=true) rfl]
        exact Prod.ext (by show 12449 + _ - 161=n; omega) rfl
     ·simp only [win,Bool.and_eq_true,decide_eq_true_eq] at a1
      refine ⟨164,(n - 12353 + 161).toNat,rfl,?_,by decide,by omega,by decide,?_⟩
      ·show n - 12353 + 161=_
       omega
      ·have w:win (((n - 12353 + 161).toNat:Nat):Int) 161 243=true:=by
        simp only [win,Bool.and_eq_true,decide_eq_true_eq]
        omega
       rw [pairSign,w]
       rw [if_pos (c:=(((164:Nat):Int)==164&&true)=true) rfl]
       exact Prod.ext (by show 12353 + _ - 161=n; omega) rfl
    obtain ⟨hi,lo,e1,e2,l1,l2,l3,hps⟩:=hp
    rw [e1,e2] at hd hlt ⊢
    have b0:byteN ((P++[mkU hi,mkU lo]++R).drop ((P.length:Nat):Int).toNat) 0=hi:=by
     rw [Int.toNat_natCast,hd]
     show (mkU hi).toNat=hi
     rw [mkU_toNat,Nat.mod_eq_of_lt l1]
    have b1:byteN ((P++[mkU hi,mkU lo]++R).drop ((P.length:Nat):Int).toNat) 1=lo:=by
     rw [Int.toNat_natCast,hd]
     show (mkU lo).toNat=lo
     rw [mkU_toNat,Nat.mod_eq_of_lt l2]
    rw [euc_two (hlt (by simp)) (by rw [b0]; omega) (by simp only [List.length_append,List.length_cons,List.length_nil]; omega) (by rw [b0,b1,hps]),b0,b1,hps]
    exact Prod.ext rfl (Prod.ext (by show ((P.length:Nat):Int) + 2=_; simp) rfl)
  ·rw [g,cond_true] at h
   have he:e=[mkU n]:=by
    have:=congrArg Prod.fst h
    exact (List.append_cancel_left this).symm
   subst he
   refine ⟨?_,Nat.succ_pos _⟩
   simp only [win,Bool.and_eq_true,decide_eq_true_eq] at g
   have hm:(mkU n).toNat=n.toNat:=by
    have:n=((n.toNat:Nat):Int):=by omega
    rw [this,mkU_toNat,Int.toNat_natCast,Nat.mod_eq_of_lt (by omega)]
   have b0:byteN ((P++[mkU n]++R).drop ((P.length:Nat):Int).toNat) 0=n.toNat:=by
    rw [Int.toNat_natCast,hd]
    exact hm
   rw [signIn,if_neg (by decide),if_pos rfl,euc_one (hlt (by simp)) (by rw [b0]; omega),b0]
   exact Prod.ext (by show ((n.toNat:Nat):Int)=n; omega) (Prod.ext (by show ((P.length:Nat):Int) + 1=_; simp) rfl)
 ·have g0:(cs==0)=false:=beq_no hn0
  have g5:(cs==5)=false:=beq_no h5
  cases g:(signByte cs n).2
  ·rw [putIn_no g0 g5 g] at h
   exact absurd (congrArg Prod.snd h) Bool.false_ne_true
  ·rw [putIn_yes g0 g5 g] at h
   have he:e=[mkU (signByte cs n).1]:=by
    have:=congrArg Prod.fst h
    exact (List.append_cancel_left this).symm
   subst he
   refine ⟨?_,Nat.succ_pos _⟩
   have hx:∃ j:Nat,j < 256∧(signByte cs n).1=j∧byteSign cs j=(n,true):=by
    unfold signByte at g ⊢
    cases q:(List.range 256).find? (sbHit cs n) with
    | none=>rw [q] at g; cases g
    | some j =>
     have h1:=List.mem_range.1 (List.mem_of_find?_eq_some q)
     have h2:=List.find?_some q
     simp only [sbHit,Bool.and_eq_true,beq_iff_eq] at h2
     exact ⟨j,h1,rfl,Prod.ext h2.2 h2.1⟩
   obtain ⟨j,hj,e1,hbs⟩:=hx
   rw [e1] at hd hlt ⊢
   have b0:byteN (P++[mkU (j:Int)]++R) ((P.length:Nat):Int).toNat=j:=by
    rw [Int.toNat_natCast]
    show ((P++[mkU (j:Int)]++R).getD P.length 0).toNat=j
    rw [List.getD_eq_getElem?_getD,List.append_assoc,List.getElem?_append_right (Nat.le_refl _),Nat.sub_self]
    show (mkU (j:Int)).toNat=j
    rw [mkU_toNat,Nat.mod_eq_of_lt hj]
   rw [signIn,if_neg hn0,if_neg h5,b0,hbs]
   exact Prod.ext rfl (Prod.ext (by show ((P.length:Nat):Int) + 1=_; simp) rfl)
theorem putIn_app {cs n:Int} {P B:List UInt8} (hc:win cs 1 5=true) (h:putIn cs P n=(B,true)):∃ e,B=P++e:=by
 have hn0:¬ cs=0:=by
  simp only [win,Bool.and_eq_true,decide_eq_true_eq] at hc
  omega
 have g0:(cs==0)=false:=beq_no hn0
 cases g5:cs==5
 ·cases g:(signByte cs n).2
  ·rw [putIn_no g0 g5 g] at h; cases h
  ·rw [putIn_yes g0 g5 g] at h
   exact ⟨_,(congrArg Prod.fst h).symm⟩
 ·rw [putIn_euc g0 g5,putEuc] at h
  cases g:win n 0 127
  ·cases g2:(signPair n).2.2
   ·rw [g,g2] at h; cases h
   ·rw [g,g2] at h
    exact ⟨_,(congrArg Prod.fst h).symm⟩
  ·rw [g] at h
   exact ⟨_,(congrArg Prod.fst h).symm⟩
theorem encGo_app {cs:Int} (hc:win cs 1 5=true):∀ (L:List Int) (P B:List UInt8),encGo cs P L=(B,true)→∃ e,B=P++e
 | [],P,B,h=>⟨[],by rw [List.append_nil]; exact (congrArg Prod.fst h).symm⟩
 | n::L,P,B,h=>by
  rw [encGo] at h
  cases g:(putIn cs P n).2
  ·rw [g] at h; cases h
  ·rw [g,cond_true] at h
   obtain ⟨e1,h1⟩:=putIn_app hc (Prod.ext (y:=((putIn cs P n).1,true)) rfl g)
   obtain ⟨e2,h2⟩:=encGo_app hc L _ _ h
   exact ⟨e1++e2,by rw [h2,h1,List.append_assoc]⟩
theorem dec_set {cs:Int} (hc:win cs 1 5=true) (B:List UInt8):∀ (k:Nat) (l P out:List UInt8) (fu:Nat),l.length≤k→Lib.validD l=true→encGo cs P (signs l)=(B,true)→B.length - P.length≤fu→decGo cs B fu (P.length:Nat) out=(⟨⟨out++l⟩⟩,true)
 | k,[],P,out,fu,_,_,h,_=>by
  rw [signs_nil] at h
  have e:P=B:=congrArg Prod.fst h
  subst e
  rw [List.append_nil,dec_end (by omega)]
 | 0,_::_,_,_,_,hk,_,_,_=>by simp at hk
 | k + 1,a::l,P,out,fu,hk,hv,h,hf=>by
  obtain ⟨n,j,h1,h2,h3,h4,h5,h6,h7⟩:=valid_step (l:=a::l) (by simp) hv
  rw [h7,encGo] at h
  cases g:(putIn cs P n).2
  ·rw [g] at h; cases h
  ·rw [g,cond_true] at h
   obtain ⟨e1,q1⟩:=putIn_app hc (Prod.ext (y:=((putIn cs P n).1,true)) rfl g)
   obtain ⟨e2,q2⟩:=encGo_app hc _ _ _ h
   rw [q1] at q2
   obtain ⟨s1,s2⟩:=signIn_put (R:=e2) hc (show putIn cs P n=(P++e1,true) from Prod.ext q1 g)
   rw [← q2] at s1
   have hlen:P.length + e1.length≤B.length:=by rw [q2]; simp only [List.length_append]; omega
   cases fu with
   | zero=>omega
   | succ fu =>
    rw [dec_step (by omega) (by rw [s1]),s1]
    have ho:putSign out n=out++(a::l).take j:=by rw [putSign,if_pos h5,Int.toNat_natCast,h4]
    have ih:=dec_set hc B k ((a::l).drop j) (P++e1) (out++(a::l).take j) fu (by rw [List.length_drop]; omega) h6 (by rw [← q1]; exact h) (by rw [List.length_append]; omega)
    rw [List.append_assoc,List.take_append_drop,List.length_append] at ih
    show decGo cs B fu ((P.length + e1.length:Nat):Int) (putSign out n)=_
    rw [ho]
    exact ih
theorem cell_back {cs:Int} {s:ByteArray} (hc:win cs 1 5=true) (h:(cellOf cs s).2=true):(cellOf cs s).1.Tag=cs∧(cellOf cs s).1.ok=true∧(cellOf cs s).1.text=(s,true):=by
 have hc0:win cs 0 5=true:=by
  simp only [win,Bool.and_eq_true,decide_eq_true_eq] at hc ⊢
  omega
 cases g:(encode cs s).2
 ·rw [cellOf_no g] at h; cases h
 ·cases g2:decide (((encode cs s).1.length:Int)≤20)
  ·rw [cellOf_big g2] at h; cases h
  ·have hk:(CellV.mk cs (encode cs s).1).ok=true:=by
    rw [CellV.ok,g2,hc0]; rfl
   have hv:Lib.validD s.data.toList=true:=by
    cases q:Lib.validD s.data.toList
    ·rw [encode,hc0,signsOf,q] at g; cases g
    ·rfl
   have e:signsOf s=(signs s.data.toList,true):=by rw [signsOf,if_pos hv]
   have he:encGo cs [] (signs s.data.toList)=((encode cs s).1,true):=by
    have q:encode cs s=encGo cs [] (signs s.data.toList):=by rw [encode,hc0,e]; rfl
    rw [← q]
    exact Prod.ext rfl g
   have hd:=dec_set hc (encode cs s).1 _ s.data.toList [] [] (encode cs s).1.length (Nat.le_refl _) hv he (Nat.sub_le _ _)
   rw [cellOf_yes g g2]
   refine ⟨rfl,hk,?_⟩
   rw [CellV.text,if_pos hk]
   show decode cs (encode cs s).1=_
   rw [decode,if_pos hc0]
   exact hd
theorem rowOf_good {ph cs:Int} {key s:ByteArray} (h:(rowOf ph key cs s).2=0):(rowOf ph key cs s).1.ok=true∧(rowOf ph key cs s).1.Key=key:=by
 unfold rowOf at h ⊢
 cases hf:rowFine ph key cs s
 ·rw [hf] at h; cases h
 ·have hf':=hf
  simp only [rowFine,Bool.and_eq_true] at hf'
  obtain ⟨⟨⟨hp,hk⟩,hc⟩,hn⟩:=hf'
  obtain ⟨n1,n2,n3⟩:=cell_utf hn
  have ht:(cs != 0)=true:=by
   simp only [win,Bool.and_eq_true,decide_eq_true_eq] at hc
   rw [bne_iff_ne]
   omega
  have r2:∀ b:Bool,(RowV.mk key ⟨0,[]⟩ (cellOf 0 s).1 2 b).ok=true:=fun b=>by
   rw [rowOk_2 hk,n1,n3]
   rfl
  have r1:(cellOf cs s).2=true→(RowV.mk key (cellOf cs s).1 ⟨0,[]⟩ 1 false).ok=true:=fun g=>by
   obtain ⟨o1,o2,o3⟩:=cell_back hc g
   rw [rowOk_1 hk,o1,o2,o3,ht]
   rfl
  have r3:(cellOf cs s).2=true→(RowV.mk key (cellOf cs s).1 (cellOf 0 s).1 3 false).ok=true:=fun g=>by
   obtain ⟨o1,o2,o3⟩:=cell_back hc g
   rw [rowOk_3 hk,o1,o2,o3,n1,n3,sameText,o3,n3,ht]
   simp
  rw [hf] at h
  rw [cond_true] at h ⊢
  cases c0:(ph==0)||(ph==7)
  ·rw [c0] at h
   cases c4:(ph==4)||(ph==5)
   ·rw [c4] at h
    cases c6:ph==6
    ·cases g:(cellOf cs s).2
     ·exact ⟨r2 true,rfl⟩
     ·exact ⟨r3 g,rfl⟩
    ·cases g:(cellOf cs s).2
     ·exact ⟨r2 true,rfl⟩
     ·exact ⟨r1 g,rfl⟩
   ·exact ⟨r2 false,rfl⟩
  ·rw [c0] at h
   cases g:(cellOf cs s).2
   ·rw [g] at h; cases h
   ·exact ⟨r1 g,rfl⟩
theorem add_tab {s:StoreV} {r:RecV} (h:(s.add r).2=true):(s.T.apply r).2=true∧(s.add r).1.T=s.T.change r:=by
 unfold StoreV.add at h ⊢
 cases g:s.fits r
 ·rw [g] at h; cases h
 ·rw [g] at h
  rw [cond_true] at h ⊢
  have ha:(s.T.apply r).2=true:=by
   simp only [StoreV.fits,Bool.and_eq_true] at g
   exact g.2
  refine ⟨ha,?_⟩
  unfold StoreV.end at h ⊢
  cases g2:s.room.D.Down||(s.room.Place==30)
  ·rw [g2] at h
   rw [cond_false] at h ⊢
   cases g3:(s.room.log r).Down
   ·exact apply_yes ha
   ·rw [g3] at h; cases h
  ·rw [g2] at h; cases h
theorem added_again {n:NodeV} {r:RecV} (hu:n.up=true) (hw:0 < r.Who) (h:(n.S.add r).2=true):(n.added r).up=true∧markAt (n.added r).S.T.Marks r.Who=some ⟨r.Who,r.Seq,r.Code⟩:=by
 obtain ⟨k1,k2,k3⟩:=up_ok hu
 have ho:=add_ok r k1
 obtain ⟨a1,a2⟩:=add_tab h
 refine ⟨?_,?_⟩
 ·show (NodeV.mk (n.S.add r).1 n.Cs).up=true
  rw [NodeV.up,NodeV.ok,ho.1,k3,ho.2 h]; rfl
 ·show markAt (n.S.add r).1.T.Marks r.Who=_
  rw [a2]
  exact change_mark (tab_of_up hu) hw
theorem told_same (r:RecV):r.told.Who=r.Who∧r.told.Seq=r.Seq∧r.told.Code=r.Code:=by
 unfold RecV.told
 cases r.Code != 0 <;> exact ⟨rfl,rfl,rfl⟩
theorem wrote_again {n:NodeV} {m:Msg} (hw:(win m.From 1 9&&win m.Seq 1 65535)=true) (h:(n.wrote m).2.2=true) :
  (n.wrote m).1.up=true∧markAt (n.wrote m).1.S.T.Marks m.From=some ⟨m.From,m.Seq,(n.wrote m).2.1⟩:=by
 have hp:0 < m.From:=by
  simp only [win,Bool.and_eq_true,decide_eq_true_eq] at hw
  omega
 unfold NodeV.wrote at h ⊢
 cases g:m.Kind==3
 ·rw [g] at h
  simp only [cond_false] at h ⊢
  unfold NodeV.del at h ⊢
  cases g2:(n.old m.From m.Seq).2
  ·rw [g2] at h
   rw [cond_false] at h ⊢
   obtain ⟨t1,t2,t3⟩:=told_same (RecV.mk 2 RowV.zero m.Key 0 m.From m.Seq (n.delCode m.Key))
   have q:=added_again (r:=(RecV.mk 2 RowV.zero m.Key 0 m.From m.Seq (n.delCode m.Key)).told) (old_up g2) (by rw [t1]; exact hp) h
   rw [t1,t2] at q
   refine ⟨q.1,?_⟩
   have h':(n.S.add (RecV.mk 2 RowV.zero m.Key 0 m.From m.Seq (n.delCode m.Key)).told).2=true:=h
   rw [NodeV.changed,h']
   exact q.2
  ·rw [g2] at h; cases h
 ·rw [g] at h
  simp only [cond_true] at h ⊢
  unfold NodeV.putIn at h ⊢
  cases g2:(n.old m.From m.Seq).2
  ·rw [g2] at h
   rw [cond_false] at h ⊢
   obtain ⟨t1,t2,t3⟩:=told_same (recRowBy (rowOf n.S.T.Phase m.Key n.Cs m.Text).1 m.From m.Seq (n.putCode m.Key m.Text))
   have q:=added_again (r:=(recRowBy (rowOf n.S.T.Phase m.Key n.Cs m.Text).1 m.From m.Seq (n.putCode m.Key m.Text)).told) (old_up g2) (by rw [t1]; exact hp) h
   rw [t1,t2] at q
   refine ⟨q.1,?_⟩
   have h':(n.S.add (recRowBy (rowOf n.S.T.Phase m.Key n.Cs m.Text).1 m.From m.Seq (n.putCode m.Key m.Text)).told).2=true:=h
   rw [NodeV.changed,h']
   exact q.2
  ·rw [g2] at h; cases h
theorem wrote_old {n:NodeV} {m:Msg} {c:Int} (hu:n.up=true) (hw:(win m.From 1 9&&win m.Seq 1 65535)=true) (h:markAt n.S.T.Marks m.From=some ⟨m.From,m.Seq,c⟩):n.wrote m=(n,c,false):=by
 have ho:n.old m.From m.Seq=(c,true):=by
  rw [old_yes hu hw,h]
  show (bif decide (m.Seq > m.Seq) then _ else bif m.Seq==m.Seq then _ else _)=_
  rw [decide_eq_false (by omega),beq_self_eq_true]
  rfl
 unfold NodeV.wrote NodeV.del NodeV.putIn
 rw [ho]
 cases m.Kind==3 <;> rfl
structure DeskLaw (n:NodeV) (m:Msg):Prop where
 msgs:(n.desk m).2.1.length≤1
 acts:(n.desk m).2.2.length≤1
 head:∀ x∈(n.desk m).2.1,x.From=m.To∧x.To=m.From∧x.Seq=m.Seq
 again:(n.desk m).2.2≠[]→(n.desk m).1.desk m=((n.desk m).1,(n.desk m).2.1,[])∧(n.desk m).2.1≠[]
theorem desk_none {n:NodeV} {m:Msg} (h:n.desk m=(n,[],[])):DeskLaw n m :=
 ⟨by rw [h]; exact Nat.zero_le _,by rw [h]; exact Nat.zero_le _,(by rw [h]; intro x hx; cases hx),fun q=>absurd (by rw [h]) q⟩
theorem desk_one {n x:NodeV} {m y:Msg} (h:n.desk m=(x,[y],[])) (hy:y.From=m.To∧y.To=m.From∧y.Seq=m.Seq):DeskLaw n m :=
 ⟨by rw [h]; exact Nat.le_refl _,by rw [h]; exact Nat.zero_le _,(by rw [h]; intro z hz; rw [List.mem_singleton.1 hz]; exact hy),fun q=>absurd (by rw [h]) q⟩
theorem desk_quiet {n x:NodeV} {m:Msg} (h:n.desk m=(x,[],[])):DeskLaw n m :=
 ⟨by rw [h]; exact Nat.zero_le _,by rw [h]; exact Nat.zero_le _,(by rw [h]; intro x hx; cases hx),fun q=>absurd (by rw [h]) q⟩
theorem desk_law (n:NodeV) (m:Msg):DeskLaw n m:=by
 cases g:(m.ok&&win m.To 3 4&&n.up)
 ·exact desk_none (by rw [NodeV.desk,g]; rfl)
 have hu:n.up=true:=by simp only [Bool.and_eq_true] at g; exact g.2
 cases k1:(m.Kind==1)
 rotate_left
 ·exact desk_one (x:=n) (y:=⟨2,m.To,m.From,m.Seq,⟨#[]⟩,(n.get m.Key).1,0,(n.get m.Key).2⟩) (by rw [NodeV.desk,g,k1]; rfl) ⟨rfl,rfl,rfl⟩
 cases k34:(m.Kind==3)||(m.Kind==4)
 ·cases f0:(m.From==0)
  ·exact desk_none (by rw [NodeV.desk,g,k1,k34,f0]; rfl)
  cases k6:(m.Kind==6)
  ·cases k8:(m.Kind==8)&&(m.N==n.S.T.Phase)
   ·exact desk_none (by rw [NodeV.desk,g,k1,k34,f0,k6,k8]; rfl)
   ·have e:n.desk m=((n.deskStep m).1,(n.deskStep m).2,[]):=by rw [NodeV.desk,g,k1,k34,f0,k6,k8]; rfl
    cases g1:(n.step m.Key).2.2.2
    ·exact desk_quiet (x:=(n.deskStep m).1) (by rw [e,NodeV.deskStep,g1]; rfl)
    ·exact desk_one (x:=(n.deskStep m).1) (y:=⟨9,m.To,m.From,m.Seq,(n.step m.Key).2.1,⟨#[]⟩,m.N,(n.step m.Key).2.2.1⟩) (by rw [e,NodeV.deskStep,g1]; rfl) ⟨rfl,rfl,rfl⟩
  ·have e:n.desk m=((n.deskPhase m).1,(n.deskPhase m).2,[]):=by rw [NodeV.desk,g,k1,k34,f0,k6]; rfl
   cases g1:!(n.phase m.N).2||(n.phase m.N).1.S.D.Down
   ·exact desk_one (x:=(n.deskPhase m).1) (y:=⟨7,m.To,m.From,m.Seq,⟨#[]⟩,⟨#[]⟩,m.N,0⟩) (by rw [e,NodeV.deskPhase,g1]; rfl) ⟨rfl,rfl,rfl⟩
   ·exact desk_quiet (x:=(n.deskPhase m).1) (by rw [e,NodeV.deskPhase,g1]; rfl)
 ·have e:∀ z:NodeV,z.up=true→z.desk m=z.deskPut m (back m 0):=fun z hz=>by
   have gz:(m.ok&&win m.To 3 4&&z.up)=true:=by
    rw [hz]
    simp only [Bool.and_eq_true] at g ⊢
    exact ⟨g.1,trivial⟩
   rw [NodeV.desk,gz,k1,k34]; rfl
  cases gl:n.late m
  rotate_left
  ·exact desk_none (by rw [e n hu,NodeV.deskPut,gl]; rfl)
  have hw:(win m.From 1 9&&win m.Seq 1 65535)=true:=by
   simp only [NodeV.late,Bool.or_eq_false_iff,Bool.not_eq_false'] at gl
   exact gl.1
  cases gd:(n.wrote m).1.S.D.Down
  ·have em:(n.desk m).2.1=[⟨5,m.To,m.From,m.Seq,⟨#[]⟩,⟨#[]⟩,0,(n.wrote m).2.1⟩]:=by rw [e n hu,NodeV.deskPut,gl,gd]; rfl
   cases g2:(n.wrote m).2.2
   ·exact desk_one (x:=(n.wrote m).1) (y:=⟨5,m.To,m.From,m.Seq,⟨#[]⟩,⟨#[]⟩,0,(n.wrote m).2.1⟩) (by rw [e n hu,NodeV.deskPut,gl,gd,g2]; rfl) ⟨rfl,rfl,rfl⟩
   ·have ed:n.desk m=((n.wrote m).1,[⟨5,m.To,m.From,m.Seq,⟨#[]⟩,⟨#[]⟩,0,(n.wrote m).2.1⟩],[actV m (n.wrote m).2.1]):=by rw [e n hu,NodeV.deskPut,gl,gd,g2]; rfl
    obtain ⟨u1,u2⟩:=wrote_again hw g2
    have hl:(n.wrote m).1.late m=false:=by
     rw [NodeV.late,hw,lateMark,u2]
     show (false||decide (m.Seq > m.Seq))=false
     rw [decide_eq_false (by omega)]
     rfl
    have ew:=wrote_old u1 hw u2
    refine ⟨by rw [ed]; exact Nat.le_refl _,by rw [ed]; exact Nat.le_refl _,?_,fun _=>?_⟩
    ·rw [ed]
     intro z hz
     rw [List.mem_singleton.1 hz]
     exact ⟨rfl,rfl,rfl⟩
    ·rw [ed]
     refine ⟨?_,fun q=>by cases q⟩
     rw [e _ u1,NodeV.deskPut,hl,ew,gd]
     rfl
  ·have g2:(n.wrote m).2.2=false:=by
    cases q:(n.wrote m).2.2
    ·rfl
    ·rw [wrote_up q] at gd; cases gd
   exact desk_quiet (x:=(n.wrote m).1) (by rw [e n hu,NodeV.deskPut,gl,gd,g2]; rfl)
def NodeV.mayI (n:NodeV) (m:Msg):List ActV :=
 bif (m.ok&&win m.To 3 4&&n.up)&&((m.Kind==3)||(m.Kind==4))&&(win m.From 1 9&&win m.Seq 1 65535) && !((oldOf (markAt n.S.T.Marks m.From) m.Seq).2||decide (((n.desk m).2.2.length:Int) > 0)) then [actV m (bif m.Kind==3 then n.putCode m.Key m.Text else n.delCode m.Key)] else []
def NodeV.free (n:NodeV):NodeV:=⟨⟨⟨n.S.D.Secs,n.S.D.Cache,-1,n.S.D.Down⟩,n.S.T,n.S.Gen,n.S.Place⟩,n.Cs⟩
def sameMark (n:NodeV) (m:Msg):Bool:=match markAt n.S.T.Marks m.From with
 | none=>false
 | some k=>k.Seq==m.Seq
def NodeV.mayS (n:NodeV) (m:Msg):List ActV :=
 bif !m.ok||decide (m.To < 3) || !n.up || !((m.Kind==3)||(m.Kind==4))||n.late m then []
 else bif decide (((n.desk m).2.2.length:Int) > 0)||sameMark n m then []
 else bif (n.free.wrote m).2.2 then [actV m (n.free.wrote m).2.1] else []
theorem put_goes {n:NodeV} {who seq:Int} (hu:n.up=true) (hw:(win who 1 9&&win seq 1 65535)=true) (key s:ByteArray):(n.S.T.apply ((recRowBy (rowOf n.S.T.Phase key n.Cs s).1 who seq (n.putCode key s)).told)).2=true:=by
 have ht:=tab_of_up hu
 obtain ⟨hlen,hph⟩:=TabV.ok_len ht
 have hsort:=rows_sorted ht
 simp only [win,Bool.and_eq_true,decide_eq_true_eq] at hw
 have hk:∀ c:Int,0≤c→c≤6→(bif who==0 then (seq==0)&&(c==0)&&((4:Int) != 4) else win who 1 9&&win seq 0 65535&&win c 0 6)=true:=fun c c0 c6=>by
  rw [beq_no (show who≠0 by omega),cond_false]
  simp only [win,Bool.and_eq_true,decide_eq_true_eq]
  omega
 have hk1:(bif who==0 then (seq==0)&&((0:Int)==0)&&((1:Int) != 4) else win who 1 9&&win seq 0 65535&&win 0 0 6)=true:=by
  rw [beq_no (show who≠0 by omega),cond_false]
  simp only [win,Bool.and_eq_true,decide_eq_true_eq]
  omega
 have hcode:0≤n.putCode key s∧n.putCode key s≤6:=by
  have z0:(0:Int)≤0∧(0:Int)≤6:=by decide
  have z1:(0:Int)≤1∧(1:Int)≤6:=by decide
  have z3:(0:Int)≤3∧(3:Int)≤6:=by decide
  have z5:(0:Int)≤5∧(5:Int)≤6:=by decide
  have hr:0≤(rowOf n.S.T.Phase key n.Cs s).2∧(rowOf n.S.T.Phase key n.Cs s).2≤6:=by
   unfold rowOf
   cases rowFine n.S.T.Phase key n.Cs s
   ·exact z1
   ·cases (n.S.T.Phase==0)||(n.S.T.Phase==7)
    ·cases (n.S.T.Phase==4)||(n.S.T.Phase==5)
     ·cases n.S.T.Phase==6 <;> cases (cellOf n.Cs s).2 <;> exact z0
     ·exact z0
    ·cases (cellOf n.Cs s).2
     ·exact z3
     ·exact z0
  unfold NodeV.putCode
  cases ((rowOf n.S.T.Phase key n.Cs s).2==0)&&decide (rowAt n.S.T.Rows key < 0)&&((n.S.T.Rows.length:Int)==8)
  ·exact hr
  ·exact z5
 cases g:n.putCode key s != 0
 ·have g0:n.putCode key s=0:=by simpa using g
  have e:(recRowBy (rowOf n.S.T.Phase key n.Cs s).1 who seq (n.putCode key s)).told=recRowBy (rowOf n.S.T.Phase key n.Cs s).1 who seq 0:=by
   rw [g0]; rfl
  have hr0:(rowOf n.S.T.Phase key n.Cs s).2=0:=by
   unfold NodeV.putCode at g0
   cases q:((rowOf n.S.T.Phase key n.Cs s).2==0)&&decide (rowAt n.S.T.Rows key < 0)&&((n.S.T.Rows.length:Int)==8)
   ·rw [q] at g0; exact g0
   ·rw [q] at g0; cases g0
  have hgc:(decide (rowAt n.S.T.Rows key < 0)&&((n.S.T.Rows.length:Int)==8))=false:=by
   unfold NodeV.putCode at g0
   cases q:decide (rowAt n.S.T.Rows key < 0)&&((n.S.T.Rows.length:Int)==8)
   ·rfl
   ·rw [hr0,Bool.and_assoc,q] at g0; cases g0
  obtain ⟨r1,r2⟩:=rowOf_good hr0
  have hr:(recRowBy (rowOf n.S.T.Phase key n.Cs s).1 who seq 0).ok=true:=by
   rw [RecV.ok,RecV.body,RecV.who]
   show ((rowOf n.S.T.Phase key n.Cs s).1.ok&&decide ((⟨#[]⟩:ByteArray)=⟨#[]⟩)&&((0:Int)==0)&&(bif who==0 then (seq==0)&&((0:Int)==0)&&((1:Int) != 4) else win who 1 9&&win seq 0 65535&&win 0 0 6))=true
   rw [r1,hk1]
   rfl
  have hp:=put_row_ok (r:=recRowBy (rowOf n.S.T.Phase key n.Cs s).1 who seq 0) ht rfl r1 (ins_len hsort hlen (fun hf=>by
   have hf:(n.S.T.Rows.find? (fun x=>decide (x.Key=(rowOf n.S.T.Phase key n.Cs s).1.Key))).isNone=true:=hf
   rw [r2,← rowAt_find] at hf
   rw [hf,Bool.true_and] at hgc
   have:=of_beq_no hgc
   omega))
  rw [e,apply_good ht hr hp]
 ·have e:(recRowBy (rowOf n.S.T.Phase key n.Cs s).1 who seq (n.putCode key s)).told=recWho who seq (n.putCode key s):=by
   rw [RecV.told]
   show (bif n.putCode key s != 0 then _ else _)=_
   rw [g]; rfl
  have hr:(recWho who seq (n.putCode key s)).ok=true:=by
   rw [RecV.ok,RecV.body,RecV.who]
   exact hk _ hcode.1 hcode.2
  have hp:(n.S.T.put (recWho who seq (n.putCode key s)))=n.S.T:=put_who_ok ht rfl
  rw [e,apply_good ht hr (by rw [hp]; exact ht)]
theorem del_goes {n:NodeV} {who seq:Int} (hu:n.up=true) (hw:(win who 1 9&&win seq 1 65535)=true) (key:ByteArray):(n.S.T.apply ((RecV.mk 2 RowV.zero key 0 who seq (n.delCode key)).told)).2=true:=by
 have ht:=tab_of_up hu
 simp only [win,Bool.and_eq_true,decide_eq_true_eq] at hw
 have hk:∀ (c k:Int),0≤c→c≤6→(bif who==0 then (seq==0)&&(c==0)&&(k != 4) else win who 1 9&&win seq 0 65535&&win c 0 6)=true:=fun c k c0 c6=>by
  rw [beq_no (show who≠0 by omega),cond_false]
  simp only [win,Bool.and_eq_true,decide_eq_true_eq]
  omega
 cases g:n.delCode key != 0
 ·have g0:n.delCode key=0:=by simpa using g
  have e:(RecV.mk 2 RowV.zero key 0 who seq (n.delCode key)).told=RecV.mk 2 RowV.zero key 0 who seq 0:=by
   rw [g0]; rfl
  have hn:nameOk key=true:=by
   unfold NodeV.delCode at g0
   cases q:nameOk key
   ·rw [q] at g0; cases g0
   ·rfl
  have hr:(RecV.mk 2 RowV.zero key 0 who seq 0).ok=true:=by
   rw [RecV.ok,RecV.body,RecV.who]
   show (RowV.zero.no&&nameOk key&&((0:Int)==0)&&(bif who==0 then (seq==0)&&((0:Int)==0)&&((2:Int) != 4) else win who 1 9&&win seq 0 65535&&win 0 0 6))=true
   rw [hn,hk 0 2 (by decide) (by decide)]
   rfl
  rw [e,apply_good ht hr (put_gone_ok ht rfl)]
 ·have e:(RecV.mk 2 RowV.zero key 0 who seq (n.delCode key)).told=recWho who seq (n.delCode key):=by
   rw [RecV.told]
   show (bif n.delCode key != 0 then _ else _)=_
   rw [g]; rfl
  have hcode:0≤n.delCode key∧n.delCode key≤6:=by
   unfold NodeV.delCode
   cases nameOk key
   ·exact (by decide:(0:Int)≤1∧(1:Int)≤6)
   ·cases decide (rowAt n.S.T.Rows key < 0)
    ·exact (by decide:(0:Int)≤0∧(0:Int)≤6)
    ·exact (by decide:(0:Int)≤2∧(2:Int)≤6)
  have hr:(recWho who seq (n.delCode key)).ok=true:=by
   rw [RecV.ok,RecV.body,RecV.who]
   exact hk _ 4 hcode.1 hcode.2
  have hp:(n.S.T.put (recWho who seq (n.delCode key)))=n.S.T:=put_who_ok ht rfl
  rw [e,apply_good ht hr (by rw [hp]; exact ht)]
theorem free_up {n:NodeV} (h:n.up=true):n.free.up=true:=by
 obtain ⟨k1,k2,k3⟩:=up_ok h
 obtain ⟨d1,d2,d3,d4,d5,d6⟩:=(StoreV.ok_iff _).1 k1
 obtain ⟨e1,e2,e3,e4,e5⟩:=(DevV.ok_iff _).1 d1
 have hd:n.free.S.D.ok=true:=(DevV.ok_iff _).2 ⟨e1,e2,⟨Int.le_refl (-1),by show (-1:Int)≤1000; decide⟩,e4,e5⟩
 have hs:n.free.S.ok=true:=(StoreV.ok_iff _).2 ⟨hd,d2,d3,d4,d5,d6⟩
 have kd:n.free.S.D.Down=false:=k2
 have kc:win n.free.Cs 1 5=true:=k3
 rw [NodeV.up,NodeV.ok,hs,kd,kc]
 rfl
theorem free_wrote {n:NodeV} {m:Msg} (hu:n.up=true) (hg:n.S.Place=30→n.S.Gen < 60000) (hw:(win m.From 1 9&&win m.Seq 1 65535)=true) (ho:(oldOf (markAt n.S.T.Marks m.From) m.Seq).2=false) :
  (n.free.wrote m).2=(bif m.Kind==3 then n.putCode m.Key m.Text else n.delCode m.Key,true):=by
 have hf:=free_up hu
 obtain ⟨k1,k2,_⟩:=up_ok hf
 have hold:(n.free.old m.From m.Seq).2=false:=by
  rw [old_yes hf hw]
  exact ho
 unfold NodeV.wrote
 cases g:m.Kind==3
 ·rw [cond_false,cond_false]
  unfold NodeV.del
  rw [hold,cond_false]
  have ha:=del_goes (n:=n.free) hf hw m.Key
  obtain ⟨_,_,_,_,a5⟩:=add_calm ((RecV.mk 2 RowV.zero m.Key 0 m.From m.Seq (n.free.delCode m.Key)).told) k1 k2 rfl hg
  rw [ha] at a5
  rw [NodeV.changed,a5]
  exact Prod.ext (told_same (RecV.mk 2 RowV.zero m.Key 0 m.From m.Seq (n.free.delCode m.Key))).2.2 rfl
 ·rw [cond_true,cond_true]
  unfold NodeV.putIn
  rw [hold,cond_false]
  have ha:=put_goes (n:=n.free) hf hw m.Key m.Text
  obtain ⟨_,_,_,_,a5⟩:=add_calm ((recRowBy (rowOf n.free.S.T.Phase m.Key n.free.Cs m.Text).1 m.From m.Seq (n.free.putCode m.Key m.Text)).told) k1 k2 rfl hg
  rw [ha] at a5
  rw [NodeV.changed,a5]
  exact Prod.ext (told_same (recRowBy (rowOf n.free.S.T.Phase m.Key n.free.Cs m.Text).1 m.From m.Seq (n.free.putCode m.Key m.Text))).2.2 rfl
theorem may_same {n:NodeV} {m:Msg} (hg:n.S.Place=30→n.S.Gen < 60000):n.mayI m=n.mayS m:=by
 unfold NodeV.mayI NodeV.mayS
 cases g0:m.ok
 ·rfl
 have ht:win m.To 3 4 = !decide (m.To < 3):=by
  simp only [Msg.ok,win,Bool.and_eq_true,decide_eq_true_eq] at g0
  by_cases g:m.To < 3
  ·rw [decide_eq_true g]
   simp only [win,Bool.and_eq_false_iff,decide_eq_false_iff_not,Bool.not_true]
   omega
  ·rw [decide_eq_false g]
   simp only [win,Bool.and_eq_true,decide_eq_true_eq,Bool.not_false]
   omega
 rw [ht]
 cases gt:decide (m.To < 3)
 rotate_left
 ·rfl
 cases gu:n.up
 ·rfl
 cases gk:(m.Kind==3)||(m.Kind==4)
 ·rfl
 cases gw:(win m.From 1 9&&win m.Seq 1 65535)
 ·rw [NodeV.late,gw]; rfl
 rw [NodeV.late,gw]
 cases ga:decide (((n.desk m).2.2.length:Int) > 0)
 rotate_left
 ·rw [Bool.or_true]
  cases lateMark n m <;> rfl
 rw [Bool.or_false]
 have ho:(oldOf (markAt n.S.T.Marks m.From) m.Seq).2=(lateMark n m||sameMark n m):=by
  unfold lateMark sameMark
  cases markAt n.S.T.Marks m.From with
  | none=>rfl
  | some k =>
   show (bif decide (k.Seq > m.Seq) then ((1:Int),true) else bif k.Seq==m.Seq then (k.Code,true) else (0,false)).2=(decide (k.Seq > m.Seq)||(k.Seq==m.Seq))
   cases decide (k.Seq > m.Seq)
   ·cases k.Seq==m.Seq <;> rfl
   ·rfl
 cases gl:lateMark n m
 rotate_left
 ·rw [ho,gl]; rfl
 cases gs:sameMark n m
 rotate_left
 ·rw [ho,gl,gs]; rfl
 have hz:(oldOf (markAt n.S.T.Marks m.From) m.Seq).2=false:=by rw [ho,gl,gs]; rfl
 rw [hz,free_wrote gu hg gw hz]
 rfl
theorem mayI_no {n:NodeV} {m:Msg} (h:((m.ok&&win m.To 3 4&&n.up)&&((m.Kind==3)||(m.Kind==4))&&(win m.From 1 9&&win m.Seq 1 65535) && !((oldOf (markAt n.S.T.Marks m.From) m.Seq).2||decide (((n.desk m).2.2.length:Int) > 0)))=false):n.mayI m=[]:=by
 rw [NodeV.mayI,h]; rfl
theorem mayI_yes {n:NodeV} {m:Msg} (h:((m.ok&&win m.To 3 4&&n.up)&&((m.Kind==3)||(m.Kind==4))&&(win m.From 1 9&&win m.Seq 1 65535) && !((oldOf (markAt n.S.T.Marks m.From) m.Seq).2||decide (((n.desk m).2.2.length:Int) > 0)))=true):n.mayI m=[actV m (bif m.Kind==3 then n.putCode m.Key m.Text else n.delCode m.Key)]:=by
 rw [NodeV.mayI,h]; rfl
abbrev C_Ak (Te:TE):Prop:=∀ (n:NodeV) (m:Msg) (hn:n.In (2 ^ 20)) (hm:m.In (2 ^ 20)),Te 17 [.agg (n.enc false),.agg m.row] ⟨[.one (slT true 6 ActV.row (n.mayI m))],[n.enc false,m.row]⟩
theorem mayS_no {n:NodeV} {m:Msg} (h:(!m.ok||decide (m.To < 3) || !n.up || !((m.Kind==3)||(m.Kind==4))||n.late m)=true):n.mayS m=[]:=by
 rw [NodeV.mayS,h]; rfl
theorem mayS_got {n:NodeV} {m:Msg} (h:(!m.ok||decide (m.To < 3) || !n.up || !((m.Kind==3)||(m.Kind==4))||n.late m)=false) (h2:(decide (((n.desk m).2.2.length:Int) > 0)||sameMark n m)=true):n.mayS m=[]:=by
 rw [NodeV.mayS,h,h2]; rfl
theorem mayS_yes {n:NodeV} {m:Msg} (h:(!m.ok||decide (m.To < 3) || !n.up || !((m.Kind==3)||(m.Kind==4))||n.late m)=false) (h2:(decide (((n.desk m).2.2.length:Int) > 0)||sameMark n m)=false):n.mayS m=bif (n.free.wrote m).2.2 then [actV m (n.free.wrote m).2.1] else []:=by
 rw [NodeV.mayS,h,h2]; rfl
theorem sameMark_of (n:NodeV) (m:Msg):sameMark n m=((markAt n.S.T.Marks m.From).isSome&&(((markAt n.S.T.Marks m.From).getD MarkV.zero).Seq==m.Seq)):=by
 unfold sameMark
 cases markAt n.S.T.Marks m.From <;> rfl
abbrev C_Dc (Te:TE):Prop:=∀ (n:NodeV) (m:Msg) (hn:n.In (2 ^ 20)) (hm:m.In (2 ^ 20)),Te 18 [.agg (n.enc false),.agg m.row] ⟨[.one (slT true 6 ActV.row (n.mayS m))],[n.enc false,m.row]⟩
theorem msg_self (x:Msg):eqL [0,0,0,0,2,2,0,0] [.pv (.int .i64 x.Kind),.pv (.int .i64 x.From),.pv (.int .i64 x.To),.pv (.int .i64 x.Seq),.pv (.string x.Key),.pv (.string x.Text),.pv (.int .i64 x.N),.pv (.int .i64 x.Code)] [.pv (.int .i64 x.Kind),.pv (.int .i64 x.From),.pv (.int .i64 x.To),.pv (.int .i64 x.Seq),.pv (.string x.Key),.pv (.string x.Text),.pv (.int .i64 x.N),.pv (.int .i64 x.Code)]=some true:=by
 simp only [eqL,eqV,bytes_beq,beq_self_eq_true,cond_true,Option.bind_some,Option.map_some,decide_true,Bool.and_self]
theorem mayS_len (n:NodeV) (m:Msg):(n.mayS m).length≤1:=by
 have key:∀ (a b c:Bool) (z:ActV),(bif a then [] else bif b then [] else bif c then [z] else ([]:List ActV)).length≤1:=by
  intro a b c z
  cases a <;> cases b <;> cases c <;> simp
 exact key _ _ _ _
abbrev C_Ci (Te:TE):Prop:=∀ (code:List UInt8) (h:code.length≤2 ^ 48),Te 3 [.one (slT false 1 uR code)] ⟨[.one (bT true)],[[slT false 1 uR code]]⟩
end Go.X

