/- Texts: CEc_5 CT_2 CEc_9 CVg_3 CE_3 CC CEb_8 CEc_4 CEa CVc_2 CA. -/
import Derived.Test.YtmmjaijeeeilcaaGreatDoorW04
set_option linter.unusedVariables false
set_option linter.unusedSimpArgs false
namespace Go.X
set_option maxRecDepth 100000
set_option maxHeartbeats 8000000
def x_l_markNodeS:FnX:=⟨101,[.tmp 4],
  .q [.i 4 0]
 (.seq (.q [.i 5 0]
 (.block 0 (.loop [0,1,5] (.seq (.q [.m 6 5,.m 7 0,.n 8 7,.b 9 .lss 6 8]
 (.cond 9 .skip (.exit 0)))
 (.seq (.block 1 (.q [.m 12 0,.m 13 5,.x 14 10 12 13,.f 15 14 0,.f 16 15 0,.f 17 16 0,.l 18 17,.m 19 1,.op 20 (.io 230 (.t 18) [(.t 19)]),.m 1 20]
 (.q [.m 21 0,.m 22 5,.x 23 10 21 22,.f 24 23 0,.f 25 24 0,.f 26 25 1,.l 27 26,.m 28 1,.op 29 (.io 231 (.t 27) [(.t 28)]),.m 1 29]
 (.q [.m 30 0,.m 31 5,.m 32 1,.x 33 10 30 31,.f 34 33 0,.f 35 34 0,.f 36 35 2,.s 100001 1 36 32]
 (.q [.m 37 1,.B 38 .add 37 1,.m 1 38]
 (.q [.m 39 0,.m 40 5,.m 41 1,.B 42 .rem 41 3,.B 43 .eql 42 0,.x 44 10 39 40,.f 45 44 0,.f 46 45 0,.f 47 46 3,.s 100002 1 47 43]
 (.q [.m 48 1,.B 49 .add 48 1,.m 1 49]
 (.q [.m 50 0,.m 51 5,.x 52 10 50 51,.f 53 52 0,.f 54 53 4,.f 55 54 0,.l 56 55,.m 57 1,.op 58 (.io 232 (.t 56) [(.t 57)]),.m 1 58]
 (.q [.m 59 0,.m 60 5,.m 61 1,.x 62 10 59 60,.f 63 62 0,.f 64 63 4,.f 65 64 1,.s 100003 1 65 61]
 (.q [.m 66 1,.B 67 .add 66 1,.m 1 67]
 (.q [.m 68 0,.m 69 5,.x 70 10 68 69,.f 71 70 0,.f 72 71 4,.f 73 72 2,.l 74 73,.m 75 1,.op 76 (.io 233 (.t 74) [(.t 75)]),.m 1 76]
 (.q [.m 77 0,.m 78 5,.m 79 1,.x 80 10 77 78,.f 81 80 0,.f 82 81 7,.s 100004 1 82 79]
 (.q [.m 83 1,.B 84 .add 83 1,.m 1 84]
 (.q [.m 85 0,.m 86 5,.m 87 1,.x 88 10 85 86,.f 89 88 0,.f 90 89 8,.s 100005 1 90 87]
 (.q [.m 91 1,.B 92 .add 91 1,.m 1 92]
 (.q [.m 93 0,.m 94 5,.m 95 1,.x 96 10 93 94,.f 97 96 9,.s 100006 1 97 95]
 (.reg [.m 98 1,.B 99 .add 98 1,.m 1 99])))))))))))))))))
 (.reg [.m 10 5,.B 11 .add 10 1,.m 5 11]))))))
 (.norm [1] (.q [.m 100 1,.m 4 100]
 .ret)))⟩
theorem r_l_markNodeS {Te:TE} (c_l_markByteSS:C_l_markByteSS Te) (c_l_markWrS:C_l_markWrS Te) (c_l_markRowS:C_l_markRowS Te) (c_l_markMarkS:C_l_markMarkS Te):C_l_markNodeS (RF Te x_l_markNodeS):=by
 intro l k hl hk hf
 refine run0 ?_
 have hl1:=hl.1
 simp -implicitDefEqProofs (maxSteps:=1000000) (disch:=omega) only [x_l_markNodeS,go_sem,IntWalk.i64_in]
 refine loop_of (σ:=Nat) (fun i=>⟨[(0,.one (.rf 0 0 [] 10 0 l.length)),(1,.one (.pv (.int .i64 (farL NodeV.farE (l.take i) k)))),(5,.one (.pv (.int .i64 i)))],[],[(0,[.sl true 10 () ((markL NodeV.markE NodeV.farE (l.take i) k).map (NodeV.enc true)++(l.drop i).map (NodeV.enc true))]),(1,[iT k])]⟩) (fun i=>i≤l.length) (fun i=>l.length - i) 0 ?_ (Nat.zero_le _) ?_
 ·simp -implicitDefEqProofs (maxSteps:=1000000) only [go_sem]; simp [markL,farL]
 ·intro i hi
  simp -implicitDefEqProofs (maxSteps:=1000000) only [go_sem]
  refine ⟨fun h=>?_,fun h=>?_⟩
  ·have hi':i < l.length:=by simp only [decide_eq_true_eq] at h; omega
   have hb:=farL_mid (f:=NodeV.farE) (p:=fun y=>y.Len) hl.2 monoNodeS k hi'
   have he:=hl.2 _ (List.getElem_mem hi')
   have hm:=monoNodeS _ he (farL NodeV.farE (l.take i) k)
   have hset:=markL_set (NodeV.enc true) NodeV.markE NodeV.farE l k hi'
   have hnext:=farL_take NodeV.farE l k hi'
   generalize farL NodeV.farE (l.take i) k=j at hb hm hset hnext ⊢
   replace hb:k≤j∧((farL RowV.farE l[i].S.T.Rows ((farL WrV.farE l[i].S.D.Cache ((farL (fun y k=>k + (1 * y.length:Nat)) l[i].S.D.Secs (j)))) + 1 + 1)) + 1 + (3 * l[i].S.T.Marks.length:Nat)) + 1 + 1 + 1≤farL NodeV.farE l k:=hb
   have w0:=farL_le (k:=j) (c:=2097152) (he.1.1) (fun (y:List UInt8) (hy:y.length≤2 ^ 21) (k:Int)=>⟨by show k≤k + ((1 * y.length:Nat):Int); omega,by show k + ((1 * y.length:Nat):Int)≤_; omega⟩)
   have w1:=farL_le (k:=(farL (fun y k=>k + (1 * y.length:Nat)) l[i].S.D.Secs (j))) (c:=2097153) (he.1.2) (fun y hy k=>WrV.farE_le hy k)
   have w2:=farL_le (k:=(farL WrV.farE l[i].S.D.Cache ((farL (fun y k=>k + (1 * y.length:Nat)) l[i].S.D.Secs (j)))) + 1 + 1) (c:=4194309) (he.2.1) (fun y hy k=>RowV.farE_le hy k)
   try simp -implicitDefEqProofs (maxSteps:=1000000) (disch:=omega) only [go_sem,storeAp,setCells,List.length_set,List.set_set,markL_len (NodeV.enc true) NodeV.markE NodeV.farE l k hi,List.getD_eq_getElem?_getD,markL_at (NodeV.enc true) NodeV.markE NodeV.farE l k hi',markL_reat (NodeV.enc true) NodeV.markE NodeV.farE l k hi',Option.getD_some,IntWalk.i64_in]
   repeat (first | refine ⟨by decide,?_⟩ | refine ⟨decide_eq_true hi',?_⟩ | refine back_bif (by simp -implicitDefEqProofs (maxSteps:=1000000) only [go_sem]) ?_)
   refine .of (c_l_markByteSS (l[i].S.D.Secs) _ he.1.1 (by omega)) ?_
   simp -implicitDefEqProofs (maxSteps:=1000000) (disch:=omega) only [go_sem,storeAp,setCells,List.length_set,List.set_set,markL_len (NodeV.enc true) NodeV.markE NodeV.farE l k hi,List.getD_eq_getElem?_getD,markL_at (NodeV.enc true) NodeV.markE NodeV.farE l k hi',markL_reat (NodeV.enc true) NodeV.markE NodeV.farE l k hi',Option.getD_some,IntWalk.i64_in]
   repeat (first | refine ⟨by decide,?_⟩ | refine ⟨decide_eq_true hi',?_⟩ | refine back_bif (by simp -implicitDefEqProofs (maxSteps:=1000000) only [go_sem]) ?_)
   try simp -implicitDefEqProofs (maxSteps:=1000000) (disch:=omega) only [go_sem,storeAp,setCells,List.length_set,List.set_set,markL_len (NodeV.enc true) NodeV.markE NodeV.farE l k hi,List.getD_eq_getElem?_getD,markL_at (NodeV.enc true) NodeV.markE NodeV.farE l k hi',markL_reat (NodeV.enc true) NodeV.markE NodeV.farE l k hi',Option.getD_some,IntWalk.i64_in]
   repeat (first | refine ⟨by decide,?_⟩ | refine ⟨decide_eq_true hi',?_⟩ | refine back_bif (by simp -implicitDefEqProofs (maxSteps:=1000000) only [go_sem]) ?_)
   refine .of (c_l_markWrS (l[i].S.D.Cache) _ he.1.2 (by omega)) ?_
   simp -implicitDefEqProofs (maxSteps:=1000000) (disch:=omega) only [go_sem,storeAp,setCells,List.length_set,List.set_set,markL_len (NodeV.enc true) NodeV.markE NodeV.farE l k hi,List.getD_eq_getElem?_getD,markL_at (NodeV.enc true) NodeV.markE NodeV.farE l k hi',markL_reat (NodeV.enc true) NodeV.markE NodeV.farE l k hi',Option.getD_some,IntWalk.i64_in]
   repeat (first | refine ⟨by decide,?_⟩ | refine ⟨decide_eq_true hi',?_⟩ | refine back_bif (by simp -implicitDefEqProofs (maxSteps:=1000000) only [go_sem]) ?_)
   try simp -implicitDefEqProofs (maxSteps:=1000000) (disch:=omega) only [go_sem,storeAp,setCells,List.length_set,List.set_set,markL_len (NodeV.enc true) NodeV.markE NodeV.farE l k hi,List.getD_eq_getElem?_getD,markL_at (NodeV.enc true) NodeV.markE NodeV.farE l k hi',markL_reat (NodeV.enc true) NodeV.markE NodeV.farE l k hi',Option.getD_some,IntWalk.i64_in]
   repeat (first | refine ⟨by decide,?_⟩ | refine ⟨decide_eq_true hi',?_⟩ | refine back_bif (by simp -implicitDefEqProofs (maxSteps:=1000000) only [go_sem]) ?_)
   refine .of (c_l_markRowS (l[i].S.T.Rows) _ he.2.1 (by omega)) ?_
   simp -implicitDefEqProofs (maxSteps:=1000000) (disch:=omega) only [go_sem,storeAp,setCells,List.length_set,List.set_set,markL_len (NodeV.enc true) NodeV.markE NodeV.farE l k hi,List.getD_eq_getElem?_getD,markL_at (NodeV.enc true) NodeV.markE NodeV.farE l k hi',markL_reat (NodeV.enc true) NodeV.markE NodeV.farE l k hi',Option.getD_some,IntWalk.i64_in]
   repeat (first | refine ⟨by decide,?_⟩ | refine ⟨decide_eq_true hi',?_⟩ | refine back_bif (by simp -implicitDefEqProofs (maxSteps:=1000000) only [go_sem]) ?_)
   try simp -implicitDefEqProofs (maxSteps:=1000000) (disch:=omega) only [go_sem,storeAp,setCells,List.length_set,List.set_set,markL_len (NodeV.enc true) NodeV.markE NodeV.farE l k hi,List.getD_eq_getElem?_getD,markL_at (NodeV.enc true) NodeV.markE NodeV.farE l k hi',markL_reat (NodeV.enc true) NodeV.markE NodeV.farE l k hi',Option.getD_some,IntWalk.i64_in]
   repeat (first | refine ⟨by decide,?_⟩ | refine ⟨decide_eq_true hi',?_⟩ | refine back_bif (by simp -implicitDefEqProofs (maxSteps:=1000000) only [go_sem]) ?_)
   refine .of (c_l_markMarkS (l[i].S.T.Marks) _ (Nat.le_trans (he.2.2) (by decide)) (by omega)) ?_
   simp -implicitDefEqProofs (maxSteps:=1000000) (disch:=omega) only [go_sem,storeAp,setCells,List.length_set,List.set_set,markL_len (NodeV.enc true) NodeV.markE NodeV.farE l k hi,List.getD_eq_getElem?_getD,markL_at (NodeV.enc true) NodeV.markE NodeV.farE l k hi',markL_reat (NodeV.enc true) NodeV.markE NodeV.farE l k hi',Option.getD_some,IntWalk.i64_in]
   repeat (first | refine ⟨by decide,?_⟩ | refine ⟨decide_eq_true hi',?_⟩ | refine back_bif (by simp -implicitDefEqProofs (maxSteps:=1000000) only [go_sem]) ?_)
   try simp -implicitDefEqProofs (maxSteps:=1000000) (disch:=omega) only [go_sem,storeAp,setCells,List.length_set,List.set_set,markL_len (NodeV.enc true) NodeV.markE NodeV.farE l k hi,List.getD_eq_getElem?_getD,markL_at (NodeV.enc true) NodeV.markE NodeV.farE l k hi',markL_reat (NodeV.enc true) NodeV.markE NodeV.farE l k hi',Option.getD_some,IntWalk.i64_in]
   repeat (first | refine ⟨by decide,?_⟩ | refine ⟨decide_eq_true hi',?_⟩ | refine back_bif (by simp -implicitDefEqProofs (maxSteps:=1000000) only [go_sem]) ?_)
   refine ⟨i + 1,?_,hi',by omega⟩
   rw [hnext,← hset]
   rfl
  ·have:i=l.length:=by simp only [decide_eq_false_iff_not] at h; omega
   subst this
   simp -implicitDefEqProofs (maxSteps:=1000000) only [go_sem,List.take_length,List.drop_length,List.map_nil,List.append_nil]
def x_u_appendRuneNonASCII:FnX:=⟨78,[.tmp 4],
  .q [.op 4 (.mv (.k (.one (.nils 1))))]
 (.q [.m 6 1,.op 7 (.conv (.int .u32) (.t 6)),.m 5 7]
 (.block 0 (.q [.m 12 5,.op 13 (.bin .leq (.t 12) (.k (.one (.pv (.int .u32 2047))))),.m 11 13]
 (.cond 11 (.q [.m 14 0,.m 15 1,.op 16 (.bin .shr (.t 15) (.k (.one (.pv (.int .u64 6))))),.op 17 (.conv (.int .u8) (.t 16)),.op 18 (.bin .or (.k (.one (.pv (.int .u8 192)))) (.t 17)),.m 19 1,.op 20 (.conv (.int .u8) (.t 19)),.op 21 (.bin .and (.t 20) (.k (.one (.pv (.int .u8 63))))),.op 22 (.bin .or (.k (.one (.pv (.int .u8 128)))) (.t 21)),.op 23 (.bslice 1 [(.t 18),(.t 22)]),.op 24 (.app 1 1 (.t 14) (.t 23)),.m 4 24]
 .ret) (.seq (.q [.m 26 5,.op 27 (.bin .lss (.t 26) (.k (.one (.pv (.int .u32 55296))))),.m 25 27]
 (.cond 25 .skip (.reg [.m 28 5,.op 29 (.bin .lss (.k (.one (.pv (.int .u32 57343)))) (.t 28)),.m 30 29,.y 30 (.m 31 5),.y 30 (.op 32 (.bin .leq (.t 31) (.k (.one (.pv (.int .u32 65535)))))),.a 33 30 32,.m 25 33])))
 (.cond 25 (.q [.m 34 0,.m 35 1,.op 36 (.bin .shr (.t 35) (.k (.one (.pv (.int .u64 12))))),.op 37 (.conv (.int .u8) (.t 36)),.op 38 (.bin .or (.k (.one (.pv (.int .u8 224)))) (.t 37)),.m 39 1,.op 40 (.bin .shr (.t 39) (.k (.one (.pv (.int .u64 6))))),.op 41 (.conv (.int .u8) (.t 40)),.op 42 (.bin .and (.t 41) (.k (.one (.pv (.int .u8 63))))),.op 43 (.bin .or (.k (.one (.pv (.int .u8 128)))) (.t 42)),.m 44 1,.op 45 (.conv (.int .u8) (.t 44)),.op 46 (.bin .and (.t 45) (.k (.one (.pv (.int .u8 63))))),.op 47 (.bin .or (.k (.one (.pv (.int .u8 128)))) (.t 46)),.op 48 (.bslice 1 [(.t 38),(.t 43),(.t 47)]),.op 49 (.app 1 1 (.t 34) (.t 48)),.m 4 49]
 .ret) (.q [.m 51 5,.op 52 (.bin .gtr (.t 51) (.k (.one (.pv (.int .u32 65535))))),.m 53 52,.y 53 (.m 54 5),.y 53 (.op 55 (.bin .leq (.t 54) (.k (.one (.pv (.int .u32 1114111)))))),.a 56 53 55,.m 50 56]
 (.cond 50 (.q [.m 57 0,.m 58 1,.op 59 (.bin .shr (.t 58) (.k (.one (.pv (.int .u64 18))))),.op 60 (.conv (.int .u8) (.t 59)),.op 61 (.bin .or (.k (.one (.pv (.int .u8 240)))) (.t 60)),.m 62 1,.op 63 (.bin .shr (.t 62) (.k (.one (.pv (.int .u64 12))))),.op 64 (.conv (.int .u8) (.t 63)),.op 65 (.bin .and (.t 64) (.k (.one (.pv (.int .u8 63))))),.op 66 (.bin .or (.k (.one (.pv (.int .u8 128)))) (.t 65)),.m 67 1,.op 68 (.bin .shr (.t 67) (.k (.one (.pv (.int .u64 6))))),.op 69 (.conv (.int .u8) (.t 68)),.op 70 (.bin .and (.t 69) (.k (.one (.pv (.int .u8 63))))),.op 71 (.bin .or (.k (.one (.pv (.int .u8 128)))) (.t 70)),.m 72 1,.op 73 (.conv (.int .u8) (.t 72)),.op 74 (.bin .and (.t 73) (.k (.one (.pv (.int .u8 63))))),.op 75 (.bin .or (.k (.one (.pv (.int .u8 128)))) (.t 74)),.op 76 (.bslice 1 [(.t 61),(.t 66),(.t 71),(.t 75)]),.op 77 (.app 1 1 (.t 57) (.t 76)),.m 4 77]
 .ret) (.q [.m 8 0,.op 9 (.bslice 1 [(.k (.one (.pv (.int .u8 239)))),(.k (.one (.pv (.int .u8 191)))),(.k (.one (.pv (.int .u8 189))))]),.op 10 (.app 1 1 (.t 8) (.t 9)),.m 4 10]
 .ret)))))))))⟩
theorem r_u_appendRuneNonASCII {Te:TE}:C_u_appendRuneNonASCII (RF Te x_u_appendRuneNonASCII):=by
 intro b m hb hm
 refine run0 ?_
 obtain ⟨hq,h1,h2⟩:=hm
 replace hq:¬ m≤127:=by omega
 have w32:IntKind.u32.wrap (m:Int)=(m:Int):=by rw [IntKind.wrap_u32]; omega
 have d6:(m:Int).fdiv (2 ^ 6)=((m / 64:Nat):Int):=fdivN m 64
 have d12:(m:Int).fdiv (2 ^ 12)=((m / 4096:Nat):Int):=fdivN m 4096
 have d18:(m:Int).fdiv (2 ^ 18)=((m / 262144:Nat):Int):=fdivN m 262144
 have n6:Nat.min 6 32=6:=rfl
 have n12:Nat.min 12 32=12:=rfl
 have n18:Nat.min 18 32=18:=rfl
 have a0:andK .u8 (((mkU (m:Int)).toNat:Nat):Int) 63=((m % 64:Nat):Int):=by rw [mkU_toNat,and8 _ (by omega)]; omega
 have a6:andK .u8 (((mkU ((m / 64:Nat):Int)).toNat:Nat):Int) 63=((m / 64 % 64:Nat):Int):=by rw [mkU_toNat,and8 _ (by omega)]; omega
 have a12:andK .u8 (((mkU ((m / 4096:Nat):Int)).toNat:Nat):Int) 63=((m / 4096 % 64:Nat):Int):=by rw [mkU_toNat,and8 _ (by omega)]; omega
 have o0:orK .u8 128 ((m % 64:Nat):Int)=((UInt8.ofNat (128 + m % 64)).toNat:Int):=or8 128 6 2 rfl (by omega) (by omega)
 have o6:orK .u8 128 ((m / 64 % 64:Nat):Int)=((UInt8.ofNat (128 + m / 64 % 64)).toNat:Int):=or8 128 6 2 rfl (by omega) (by omega)
 have o12:orK .u8 128 ((m / 4096 % 64:Nat):Int)=((UInt8.ofNat (128 + m / 4096 % 64)).toNat:Int):=or8 128 6 2 rfl (by omega) (by omega)
 cases q2:decide ((m:Int)≤2047)
 ·have hq2:¬ m≤2047:=by simp only [decide_eq_false_iff_not] at q2; omega
  cases q3:decide ((m:Int)≤65535)
  ·have hq3:¬ m≤65535:=by simp only [decide_eq_false_iff_not] at q3; omega
   have t:orK .u8 240 (((mkU ((m / 262144:Nat):Int)).toNat:Nat):Int)=((UInt8.ofNat (240 + m / 262144)).toNat:Int):=by
    rw [mkU_toNat,Nat.mod_eq_of_lt (by omega)]; exact or8 240 3 30 rfl (by omega) (by omega)
   have ee:List.take (b.length + 4) (List.map uR b++[[uT (UInt8.ofNat (240 + m / 262144))],[uT (UInt8.ofNat (128 + m / 4096 % 64))],[uT (UInt8.ofNat (128 + m / 64 % 64))],[uT (UInt8.ofNat (128 + m % 64))]])=List.map uR (b++enc8 m):=by
    rw [List.take_of_length_le (by simp)]
    simp only [enc8,if_neg hq,if_neg hq2,if_neg hq3,List.map_append,List.map_cons,List.map_nil]
   have c1:decide ((m:Int) < 55296)=false:=decide_eq_false (by omega)
   have c2:decide ((57343:Int) < (m:Int))=true:=decide_eq_true (by omega)
   have c3:decide ((m:Int) > 65535)=true:=decide_eq_true (by omega)
   have c4:decide ((m:Int)≤1114111)=true:=decide_eq_true (by omega)
   simp -implicitDefEqProofs (maxSteps:=1000000) only [x_u_appendRuneNonASCII,go_sem,w32,q2,q3,c1,c2,c3,c4,n6,n12,n18,d6,d12,d18,mkU_wrap,a0,a6,a12,o0,o6,o12,t,ee]
   repeat refine ⟨sc,?_⟩
   try exact sf
  ·have hq3:m≤65535:=by simp only [decide_eq_true_eq] at q3; omega
   have t:orK .u8 224 (((mkU ((m / 4096:Nat):Int)).toNat:Nat):Int)=((UInt8.ofNat (224 + m / 4096)).toNat:Int):=by
    rw [mkU_toNat,Nat.mod_eq_of_lt (by omega)]; exact or8 224 4 14 rfl (by omega) (by omega)
   have ee:List.take (b.length + 3) (List.map uR b++[[uT (UInt8.ofNat (224 + m / 4096))],[uT (UInt8.ofNat (128 + m / 64 % 64))],[uT (UInt8.ofNat (128 + m % 64))]])=List.map uR (b++enc8 m):=by
    rw [List.take_of_length_le (by simp)]
    simp only [enc8,if_neg hq,if_neg hq2,if_pos hq3,List.map_append,List.map_cons,List.map_nil]
   cases c1:decide ((m:Int) < 55296)
   ·have c2:decide ((57343:Int) < (m:Int))=true:=decide_eq_true (by simp only [decide_eq_false_iff_not] at c1; omega)
    simp -implicitDefEqProofs (maxSteps:=1000000) only [x_u_appendRuneNonASCII,go_sem,w32,q2,q3,c1,c2,n6,n12,d6,d12,mkU_wrap,a0,a6,o0,o6,t,ee]
    repeat refine ⟨sc,?_⟩
    try exact sf
   ·simp -implicitDefEqProofs (maxSteps:=1000000) only [x_u_appendRuneNonASCII,go_sem,w32,q2,q3,c1,n6,n12,d6,d12,mkU_wrap,a0,a6,o0,o6,t,ee]
    repeat refine ⟨sc,?_⟩
    try exact sf
 ·have hq2:m≤2047:=by simp only [decide_eq_true_eq] at q2; omega
  have t:orK .u8 192 (((mkU ((m / 64:Nat):Int)).toNat:Nat):Int)=((UInt8.ofNat (192 + m / 64)).toNat:Int):=by
   rw [mkU_toNat,Nat.mod_eq_of_lt (by omega)]; exact or8 192 6 3 rfl (by omega) (by omega)
  have ee:List.take (b.length + 2) (List.map uR b++[[uT (UInt8.ofNat (192 + m / 64))],[uT (UInt8.ofNat (128 + m % 64))]])=List.map uR (b++enc8 m):=by
   rw [List.take_of_length_le (by simp)]
   simp only [enc8,if_neg hq,if_pos hq2,List.map_append,List.map_cons,List.map_nil]
  simp -implicitDefEqProofs (maxSteps:=1000000) only [x_u_appendRuneNonASCII,go_sem,w32,q2,n6,d6,mkU_wrap,a0,o0,t,ee]
  repeat refine ⟨sc,?_⟩
  try exact sf
def x_l_markClientS:FnX:=⟨109,[.tmp 4],
  .q [.i 4 0]
 (.seq (.q [.i 5 0]
 (.block 0 (.loop [0,1,5] (.seq (.q [.m 6 5,.m 7 0,.n 8 7,.b 9 .lss 6 8]
 (.cond 9 .skip (.exit 0)))
 (.seq (.block 1 (.q [.m 12 0,.m 13 5,.m 14 1,.x 15 12 12 13,.f 16 15 0,.s 100001 1 16 14]
 (.q [.m 17 1,.B 18 .add 17 1,.m 1 18]
 (.q [.m 19 0,.m 20 5,.m 21 1,.x 22 12 19 20,.f 23 22 1,.s 100002 1 23 21]
 (.q [.m 24 1,.B 25 .add 24 1,.m 1 25]
 (.q [.m 26 0,.m 27 5,.m 28 1,.B 29 .rem 28 3,.B 30 .eql 29 0,.x 31 12 26 27,.f 32 31 2,.s 100003 1 32 30]
 (.q [.m 33 1,.B 34 .add 33 1,.m 1 34]
 (.q [.m 35 0,.m 36 5,.m 37 1,.x 38 12 35 36,.f 39 38 3,.f 40 39 0,.s 100004 1 40 37]
 (.q [.m 41 1,.B 42 .add 41 1,.m 1 42]
 (.q [.m 43 0,.m 44 5,.m 45 1,.x 46 12 43 44,.f 47 46 3,.f 48 47 1,.s 100005 1 48 45]
 (.q [.m 49 1,.B 50 .add 49 1,.m 1 50]
 (.q [.m 51 0,.m 52 5,.m 53 1,.x 54 12 51 52,.f 55 54 3,.f 56 55 2,.s 100006 1 56 53]
 (.q [.m 57 1,.B 58 .add 57 1,.m 1 58]
 (.q [.m 59 0,.m 60 5,.m 61 1,.x 62 12 59 60,.f 63 62 3,.f 64 63 3,.s 100007 1 64 61]
 (.q [.m 65 1,.B 66 .add 65 1,.m 1 66]
 (.q [.m 67 0,.m 68 5,.m 69 1,.c 70 146 [69],.x 71 12 67 68,.f 72 71 3,.f 73 72 4,.s 100008 1 73 70]
 (.q [.m 74 1,.B 75 .add 74 1,.m 1 75]
 (.q [.m 76 0,.m 77 5,.m 78 1,.c 79 146 [78],.x 80 12 76 77,.f 81 80 3,.f 82 81 5,.s 100009 1 82 79]
 (.q [.m 83 1,.B 84 .add 83 1,.m 1 84]
 (.q [.m 85 0,.m 86 5,.m 87 1,.x 88 12 85 86,.f 89 88 3,.f 90 89 6,.s 100010 1 90 87]
 (.q [.m 91 1,.B 92 .add 91 1,.m 1 92]
 (.q [.m 93 0,.m 94 5,.m 95 1,.x 96 12 93 94,.f 97 96 3,.f 98 97 7,.s 100011 1 98 95]
 (.q [.m 99 1,.B 100 .add 99 1,.m 1 100]
 (.reg [.m 101 0,.m 102 5,.x 103 12 101 102,.f 104 103 11,.l 105 104,.m 106 1,.op 107 (.io 234 (.t 105) [(.t 106)]),.m 1 107]))))))))))))))))))))))))
 (.reg [.m 10 5,.B 11 .add 10 1,.m 5 11]))))))
 (.norm [1] (.q [.m 108 1,.m 4 108]
 .ret)))⟩
theorem r_l_markClientS {Te:TE} (c_l_markText:C_l_markText Te) (c_l_markDoneS:C_l_markDoneS Te):C_l_markClientS (RF Te x_l_markClientS):=by
 intro l k hl hk hf
 refine run0 ?_
 have hl1:=hl.1
 simp -implicitDefEqProofs (maxSteps:=1000000) (disch:=omega) only [x_l_markClientS,go_sem,IntWalk.i64_in]
 refine loop_of (σ:=Nat) (fun i=>⟨[(0,.one (.rf 0 0 [] 12 0 l.length)),(1,.one (.pv (.int .i64 (farL ClientV.farE (l.take i) k)))),(5,.one (.pv (.int .i64 i)))],[],[(0,[.sl true 12 () ((markL ClientV.markE ClientV.farE (l.take i) k).map (ClientV.enc true)++(l.drop i).map (ClientV.enc true))]),(1,[iT k])]⟩) (fun i=>i≤l.length) (fun i=>l.length - i) 0 ?_ (Nat.zero_le _) ?_
 ·simp -implicitDefEqProofs (maxSteps:=1000000) only [go_sem]; simp [markL,farL]
 ·intro i hi
  simp -implicitDefEqProofs (maxSteps:=1000000) only [go_sem]
  refine ⟨fun h=>?_,fun h=>?_⟩
  ·have hi':i < l.length:=by simp only [decide_eq_true_eq] at h; omega
   have hb:=farL_mid (f:=ClientV.farE) (p:=fun y=>y.Len) hl.2 monoClientS k hi'
   have he:=hl.2 _ (List.getElem_mem hi')
   have hm:=monoClientS _ he (farL ClientV.farE (l.take i) k)
   have hset:=markL_set (ClientV.enc true) ClientV.markE ClientV.farE l k hi'
   have hnext:=farL_take ClientV.farE l k hi'
   generalize farL ClientV.farE (l.take i) k=j at hb hm hset hnext ⊢
   replace hb:k≤j∧(j + 1 + 1 + 1 + 1 + 1 + 1 + 1 + 1 + 1 + 1 + 1 + (5 * l[i].Dones.length:Nat))≤farL ClientV.farE l k:=hb
   try simp -implicitDefEqProofs (maxSteps:=1000000) (disch:=omega) only [go_sem,storeAp,setCells,List.length_set,List.set_set,markL_len (ClientV.enc true) ClientV.markE ClientV.farE l k hi,List.getD_eq_getElem?_getD,markL_at (ClientV.enc true) ClientV.markE ClientV.farE l k hi',markL_reat (ClientV.enc true) ClientV.markE ClientV.farE l k hi',Option.getD_some,IntWalk.i64_in]
   repeat (first | refine ⟨by decide,?_⟩ | refine ⟨decide_eq_true hi',?_⟩ | refine back_bif (by simp -implicitDefEqProofs (maxSteps:=1000000) only [go_sem]) ?_)
   refine .of (c_l_markText _ (by omega)) ?_
   simp -implicitDefEqProofs (maxSteps:=1000000) (disch:=omega) only [go_sem,storeAp,setCells,List.length_set,List.set_set,markL_len (ClientV.enc true) ClientV.markE ClientV.farE l k hi,List.getD_eq_getElem?_getD,markL_at (ClientV.enc true) ClientV.markE ClientV.farE l k hi',markL_reat (ClientV.enc true) ClientV.markE ClientV.farE l k hi',Option.getD_some,IntWalk.i64_in]
   repeat (first | refine ⟨by decide,?_⟩ | refine ⟨decide_eq_true hi',?_⟩ | refine back_bif (by simp -implicitDefEqProofs (maxSteps:=1000000) only [go_sem]) ?_)
   refine .of (c_l_markText _ (by omega)) ?_
   simp -implicitDefEqProofs (maxSteps:=1000000) (disch:=omega) only [go_sem,storeAp,setCells,List.length_set,List.set_set,markL_len (ClientV.enc true) ClientV.markE ClientV.farE l k hi,List.getD_eq_getElem?_getD,markL_at (ClientV.enc true) ClientV.markE ClientV.farE l k hi',markL_reat (ClientV.enc true) ClientV.markE ClientV.farE l k hi',Option.getD_some,IntWalk.i64_in]
   repeat (first | refine ⟨by decide,?_⟩ | refine ⟨decide_eq_true hi',?_⟩ | refine back_bif (by simp -implicitDefEqProofs (maxSteps:=1000000) only [go_sem]) ?_)
   refine .of (c_l_markDoneS (l[i].Dones) _ (Nat.le_trans (he) (by decide)) (by omega)) ?_
   simp -implicitDefEqProofs (maxSteps:=1000000) (disch:=omega) only [go_sem,storeAp,setCells,List.length_set,List.set_set,markL_len (ClientV.enc true) ClientV.markE ClientV.farE l k hi,List.getD_eq_getElem?_getD,markL_at (ClientV.enc true) ClientV.markE ClientV.farE l k hi',markL_reat (ClientV.enc true) ClientV.markE ClientV.farE l k hi',Option.getD_some,IntWalk.i64_in]
   repeat (first | refine ⟨by decide,?_⟩ | refine ⟨decide_eq_true hi',?_⟩ | refine back_bif (by simp -implicitDefEqProofs (maxSteps:=1000000) only [go_sem]) ?_)
   try simp -implicitDefEqProofs (maxSteps:=1000000) (disch:=omega) only [go_sem,storeAp,setCells,List.length_set,List.set_set,markL_len (ClientV.enc true) ClientV.markE ClientV.farE l k hi,List.getD_eq_getElem?_getD,markL_at (ClientV.enc true) ClientV.markE ClientV.farE l k hi',markL_reat (ClientV.enc true) ClientV.markE ClientV.farE l k hi',Option.getD_some,IntWalk.i64_in]
   repeat (first | refine ⟨by decide,?_⟩ | refine ⟨decide_eq_true hi',?_⟩ | refine back_bif (by simp -implicitDefEqProofs (maxSteps:=1000000) only [go_sem]) ?_)
   refine ⟨i + 1,?_,hi',by omega⟩
   rw [hnext,← hset]
   rfl
  ·have:i=l.length:=by simp only [decide_eq_false_iff_not] at h; omega
   subst this
   simp -implicitDefEqProofs (maxSteps:=1000000) only [go_sem,List.take_length,List.drop_length,List.map_nil,List.append_nil]
def x_i_StoreOk:FnX:=⟨40,[.tmp 2],
  .q [.v 1 0,.F 2]
 (.q [.f 3 1 0,.L 4 4 3,.c 5 178 [4],.m 6 5,.y 6 (.f 7 1 0),.y 6 (.f 8 7 0),.y 6 (.l 9 8),.y 6 (.n 10 9),.y 6 (.B 11 .eql 10 62),.a 12 6 11,.m 13 12,.y 13 (.f 14 1 0),.y 13 (.f 15 14 1),.y 13 (.l 16 15),.y 13 (.n 17 16),.y 13 (.B 18 .eql 17 0),.y 13 (.m 19 18),.z 19 (.f 20 1 0),.z 19 (.f 21 20 3),.z 19 (.l 22 21),.y 13 (.r 23 19 22),.a 24 13 23,.m 25 24,.y 25 (.f 26 1 4),.y 25 (.L 27 3 26),.y 25 (.c 28 179 [27]),.a 29 25 28,.m 30 29,.y 30 (.f 31 1 7),.y 30 (.l 32 31),.y 30 (.op 33 (.call 90 [0,0,0] [(.t 32),(.i 1),(.i 60000)])),.a 34 30 33,.m 35 34,.y 35 (.f 36 1 8),.y 35 (.l 37 36),.y 35 (.op 38 (.call 90 [0,0,0] [(.t 37),(.i 0),(.i 30)])),.a 39 35 38,.m 2 39]
 .ret)⟩
theorem r_i_StoreOk {Te:TE} (c_i_DevOk:C_i_DevOk Te) (c_i_TabOk:C_i_TabOk Te) (c_i_within:C_i_within Te):C_i_StoreOk (RF Te x_i_StoreOk):=by
 intro s h
 obtain ⟨hD,hT⟩:=h
 obtain ⟨⟨secs,cache,fuse,down⟩,T,gen,place⟩:=s
 cases down
 ·skip
  refine X0 x_i_StoreOk.eq_1 ?_
  refine C0 (c_i_DevOk ⟨secs,cache,fuse,false⟩ hD) ?_
  cases g1:DevV.ok ⟨secs,cache,fuse,false⟩
  ·have e:(StoreV.mk ⟨secs,cache,fuse,false⟩ T gen place).ok=false:=by simp only [StoreV.ok,g1,Bool.false_and]
   exact F1 e
  cases g2:((secs.length:Int)==62)
  ·have e:(StoreV.mk ⟨secs,cache,fuse,false⟩ T gen place).ok=false:=by simp only [StoreV.ok,g2,Bool.and_false,Bool.false_and]
   exact F2 g2 e
  cases g0:((cache.length:Int)==0)
  ·have e:(StoreV.mk ⟨secs,cache,fuse,false⟩ T gen place).ok=false:=by simp only [StoreV.ok,g0,Bool.or_self,Bool.and_false,Bool.false_and]
   exact F3 g2 g0 e
  refine G2 g2 g0 ?_
  refine C0 (c_i_TabOk T hT) ?_
  cases g4:T.ok
  ·have e:(StoreV.mk ⟨secs,cache,fuse,false⟩ T gen place).ok=false:=by simp only [StoreV.ok,g4,Bool.and_false,Bool.false_and]
   exact F1 e
  refine G0 ?_
  refine C0 (c_i_within _ _ _) ?_
  cases g5:win gen 1 60000
  ·have e:(StoreV.mk ⟨secs,cache,fuse,false⟩ T gen place).ok=false:=by simp only [StoreV.ok,g5,Bool.and_false,Bool.false_and]
   exact F1 e
  refine G0 ?_
  have e:(StoreV.mk ⟨secs,cache,fuse,false⟩ T gen place).ok=win place 0 30:=by simp only [StoreV.ok,g1,g2,g0,g4,g5,Bool.and_true,Bool.true_and,Bool.or_true,Bool.true_or]
  exact D1 (c_i_within _ _ _) e
 ·skip
  refine X0 x_i_StoreOk.eq_1 ?_
  refine C0 (c_i_DevOk ⟨secs,cache,fuse,true⟩ hD) ?_
  cases g1:DevV.ok ⟨secs,cache,fuse,true⟩
  ·have e:(StoreV.mk ⟨secs,cache,fuse,true⟩ T gen place).ok=false:=by simp only [StoreV.ok,g1,Bool.false_and]
   exact F1 e
  cases g2:((secs.length:Int)==62)
  ·have e:(StoreV.mk ⟨secs,cache,fuse,true⟩ T gen place).ok=false:=by simp only [StoreV.ok,g2,Bool.and_false,Bool.false_and]
   exact F2 g2 e
  cases g0:((cache.length:Int)==0)
  ·refine G2 g2 g0 ?_
   refine C0 (c_i_TabOk T hT) ?_
   cases g4:T.ok
   ·have e:(StoreV.mk ⟨secs,cache,fuse,true⟩ T gen place).ok=false:=by simp only [StoreV.ok,g4,Bool.and_false,Bool.false_and]
    exact F1 e
   refine G0 ?_
   refine C0 (c_i_within _ _ _) ?_
   cases g5:win gen 1 60000
   ·have e:(StoreV.mk ⟨secs,cache,fuse,true⟩ T gen place).ok=false:=by simp only [StoreV.ok,g5,Bool.and_false,Bool.false_and]
    exact F1 e
   refine G0 ?_
   have e:(StoreV.mk ⟨secs,cache,fuse,true⟩ T gen place).ok=win place 0 30:=by simp only [StoreV.ok,g1,g2,g0,g4,g5,Bool.and_true,Bool.true_and,Bool.or_true,Bool.true_or]
   exact D1 (c_i_within _ _ _) e
  ·refine G2 g2 g0 ?_
   refine C0 (c_i_TabOk T hT) ?_
   cases g4:T.ok
   ·have e:(StoreV.mk ⟨secs,cache,fuse,true⟩ T gen place).ok=false:=by simp only [StoreV.ok,g4,Bool.and_false,Bool.false_and]
    exact F1 e
   refine G0 ?_
   refine C0 (c_i_within _ _ _) ?_
   cases g5:win gen 1 60000
   ·have e:(StoreV.mk ⟨secs,cache,fuse,true⟩ T gen place).ok=false:=by simp only [StoreV.ok,g5,Bool.and_false,Bool.false_and]
    exact F1 e
   refine G0 ?_
   have e:(StoreV.mk ⟨secs,cache,fuse,true⟩ T gen place).ok=win place 0 30:=by simp only [StoreV.ok,g1,g2,g0,g4,g5,Bool.and_true,Bool.true_and,Bool.or_true,Bool.true_or]
   exact D1 (c_i_within _ _ _) e
def x_s_StoreOk:FnX:=⟨40,[.tmp 2],
  .q [.v 1 0,.F 2]
 (.q [.f 3 1 0,.L 4 4 3,.c 5 205 [4],.m 6 5,.y 6 (.f 7 1 0),.y 6 (.f 8 7 0),.y 6 (.l 9 8),.y 6 (.n 10 9),.y 6 (.B 11 .eql 10 62),.a 12 6 11,.m 13 12,.y 13 (.f 14 1 0),.y 13 (.f 15 14 3),.y 13 (.l 16 15),.y 13 (.m 17 16),.z 17 (.f 18 1 0),.z 17 (.f 19 18 1),.z 17 (.l 20 19),.z 17 (.n 21 20),.z 17 (.B 22 .eql 21 0),.y 13 (.r 23 17 22),.a 24 13 23,.m 25 24,.y 25 (.f 26 1 4),.y 25 (.L 27 3 26),.y 25 (.c 28 206 [27]),.a 29 25 28,.m 30 29,.y 30 (.f 31 1 7),.y 30 (.l 32 31),.y 30 (.op 33 (.call 120 [0,0,0] [(.t 32),(.i 1),(.i 60000)])),.a 34 30 33,.m 35 34,.y 35 (.f 36 1 8),.y 35 (.l 37 36),.y 35 (.op 38 (.call 120 [0,0,0] [(.t 37),(.i 0),(.i 30)])),.a 39 35 38,.m 2 39]
 .ret)⟩
theorem r_s_StoreOk {Te:TE} (c_s_DevOk:C_s_DevOk Te) (c_s_TabOk:C_s_TabOk Te) (c_s_l1In:C_s_l1In Te):C_s_StoreOk (RF Te x_s_StoreOk):=by
 intro s h
 obtain ⟨hD,hT⟩:=h
 obtain ⟨⟨secs,cache,fuse,down⟩,T,gen,place⟩:=s
 cases down
 ·skip
  refine X0 x_s_StoreOk.eq_1 ?_
  refine C0 (c_s_DevOk ⟨secs,cache,fuse,false⟩ hD) ?_
  cases g1:DevV.ok ⟨secs,cache,fuse,false⟩
  ·have e:(StoreV.mk ⟨secs,cache,fuse,false⟩ T gen place).ok=false:=by simp only [StoreV.ok,g1,Bool.false_and]
   exact F1 e
  cases g2:((secs.length:Int)==62)
  ·have e:(StoreV.mk ⟨secs,cache,fuse,false⟩ T gen place).ok=false:=by simp only [StoreV.ok,g2,Bool.and_false,Bool.false_and]
   exact F2 g2 e
  cases g0:((cache.length:Int)==0)
  ·have e:(StoreV.mk ⟨secs,cache,fuse,false⟩ T gen place).ok=false:=by simp only [StoreV.ok,g0,Bool.or_self,Bool.and_false,Bool.false_and]
   exact F3 g2 g0 e
  refine G2 g2 g0 ?_
  refine C0 (c_s_TabOk T hT) ?_
  cases g4:T.ok
  ·have e:(StoreV.mk ⟨secs,cache,fuse,false⟩ T gen place).ok=false:=by simp only [StoreV.ok,g4,Bool.and_false,Bool.false_and]
   exact F1 e
  refine G0 ?_
  refine C0 (c_s_l1In _ _ _) ?_
  cases g5:win gen 1 60000
  ·have e:(StoreV.mk ⟨secs,cache,fuse,false⟩ T gen place).ok=false:=by simp only [StoreV.ok,g5,Bool.and_false,Bool.false_and]
   exact F1 e
  refine G0 ?_
  have e:(StoreV.mk ⟨secs,cache,fuse,false⟩ T gen place).ok=win place 0 30:=by simp only [StoreV.ok,g1,g2,g0,g4,g5,Bool.and_true,Bool.true_and,Bool.or_true,Bool.true_or]
  exact D1 (c_s_l1In _ _ _) e
 ·skip
  refine X0 x_s_StoreOk.eq_1 ?_
  refine C0 (c_s_DevOk ⟨secs,cache,fuse,true⟩ hD) ?_
  cases g1:DevV.ok ⟨secs,cache,fuse,true⟩
  ·have e:(StoreV.mk ⟨secs,cache,fuse,true⟩ T gen place).ok=false:=by simp only [StoreV.ok,g1,Bool.false_and]
   exact F1 e
  cases g2:((secs.length:Int)==62)
  ·have e:(StoreV.mk ⟨secs,cache,fuse,true⟩ T gen place).ok=false:=by simp only [StoreV.ok,g2,Bool.and_false,Bool.false_and]
   exact F2 g2 e
  refine G1 g2 ?_
  refine C0 (c_s_TabOk T hT) ?_
  cases g4:T.ok
  ·have e:(StoreV.mk ⟨secs,cache,fuse,true⟩ T gen place).ok=false:=by simp only [StoreV.ok,g4,Bool.and_false,Bool.false_and]
   exact F1 e
  refine G0 ?_
  refine C0 (c_s_l1In _ _ _) ?_
  cases g5:win gen 1 60000
  ·have e:(StoreV.mk ⟨secs,cache,fuse,true⟩ T gen place).ok=false:=by simp only [StoreV.ok,g5,Bool.and_false,Bool.false_and]
   exact F1 e
  refine G0 ?_
  have e:(StoreV.mk ⟨secs,cache,fuse,true⟩ T gen place).ok=win place 0 30:=by simp only [StoreV.ok,g1,g2,g4,g5,Bool.and_true,Bool.true_and,Bool.or_true,Bool.true_or]
  exact D1 (c_s_l1In _ _ _) e
def x_i_NodeOk:FnX:=⟨11,[.tmp 2],
  .q [.v 1 0,.F 2]
 (.q [.f 3 1 0,.L 4 9 3,.c 5 89 [4],.m 6 5,.y 6 (.f 7 1 9),.y 6 (.l 8 7),.y 6 (.op 9 (.call 90 [0,0,0] [(.t 8),(.i 1),(.i 5)])),.a 10 6 9,.m 2 10]
 .ret)⟩
theorem r_i_NodeOk {Te:TE} (c_i_StoreOk:C_i_StoreOk Te) (c_i_within:C_i_within Te):C_i_NodeOk (RF Te x_i_NodeOk):=by
 intro n h
 refine run0 ?_
 simp -implicitDefEqProofs (maxSteps:=1000000) only [x_i_NodeOk,go_sem,NodeV.ok]
 repeat refine ⟨sc,?_⟩
 try exact sf
 refine C0 (c_i_StoreOk n.S h) ?_
 cases g1:n.S.ok
 ·exact F0
 ·refine G0 ?_
  exact D0 (c_i_within _ _ _)
def x_l_markDoneS_4:XCode:=.q [.m 42 0,.m 43 5,.m 44 1,.x 45 5 42 43,.f 46 45 4,.s 100005 1 46 44]
 (.reg [.m 47 1,.B 48 .add 47 1,.m 1 48])
def x_l_markDoneS_3:XCode:=.q [.m 34 0,.m 35 5,.m 36 1,.c 37 146 [36],.x 38 5 34 35,.f 39 38 3,.s 100004 1 39 37]
 (.q [.m 40 1,.B 41 .add 40 1,.m 1 41]
 x_l_markDoneS_4)
def x_l_markDoneS_2:XCode:=.q [.m 26 0,.m 27 5,.m 28 1,.c 29 146 [28],.x 30 5 26 27,.f 31 30 2,.s 100003 1 31 29]
 (.q [.m 32 1,.B 33 .add 32 1,.m 1 33]
 x_l_markDoneS_3)
def x_l_markDoneS_1:XCode:=.q [.m 19 0,.m 20 5,.m 21 1,.x 22 5 19 20,.f 23 22 1,.s 100002 1 23 21]
 (.q [.m 24 1,.B 25 .add 24 1,.m 1 25]
 x_l_markDoneS_2)
def x_l_markDoneS:FnX:=⟨50,[.tmp 4],
  .q [.i 4 0]
 (.seq (.q [.i 5 0]
 (.block 0 (.loop [0,1,5] (.seq (.q [.m 6 5,.m 7 0,.n 8 7,.b 9 .lss 6 8]
 (.cond 9 .skip (.exit 0)))
 (.seq (.block 1 (.q [.m 12 0,.m 13 5,.m 14 1,.x 15 5 12 13,.f 16 15 0,.s 100001 1 16 14]
 (.q [.m 17 1,.B 18 .add 17 1,.m 1 18]
 x_l_markDoneS_1)))
 (.reg [.m 10 5,.B 11 .add 10 1,.m 5 11]))))))
 (.norm [1] (.q [.m 49 1,.m 4 49]
 .ret)))⟩
theorem r_l_markDoneS {Te:TE} (c_l_markText:C_l_markText Te):C_l_markDoneS (RF Te x_l_markDoneS):=by
 intro l k hl hk
 refine run0 ?_
 simp -implicitDefEqProofs (maxSteps:=1000000) (disch:=omega) only [x_l_markDoneS,go_sem,IntWalk.i64_in]
 refine loop_of (σ:=Nat) (fun i=>⟨[(0,.one (.rf 0 0 [] 5 0 l.length)),(1,.one (.pv (.int .i64 (k + (5 * i:Nat))))),(5,.one (.pv (.int .i64 i)))],[],[(0,[.sl true 5 () ((marks 5 mkDone i k).map DoneV.row++(l.drop i).map DoneV.row)]),(1,[iT k])]⟩) (fun i=>i≤l.length) (fun i=>l.length - i) 0 ?_ (Nat.zero_le _) ?_
 ·simp -implicitDefEqProofs (maxSteps:=1000000) only [go_sem]; simp [marks]
 ·intro i hi
  simp -implicitDefEqProofs (maxSteps:=1000000) only [go_sem]
  refine ⟨fun h=>?_,fun h=>?_⟩
  ·have hi':i < l.length:=by simp only [decide_eq_true_eq] at h; omega
   try simp -implicitDefEqProofs (maxSteps:=1000000) (disch:=omega) only [go_sem,storeAp,setCells,List.length_set,List.set_set,mark_len DoneV.row 5 mkDone l k hi,List.getD_eq_getElem?_getD,mark_get DoneV.row 5 mkDone l k hi',mark_reget DoneV.row 5 mkDone l k hi',Option.getD_some,IntWalk.i64_in]
   repeat (first | refine ⟨by decide,?_⟩ | refine ⟨decide_eq_true hi',?_⟩)
   simp -implicitDefEqProofs (maxSteps:=1000000) (disch:=omega) only [x_l_markDoneS_1,go_sem,storeAp,setCells,List.length_set,List.set_set,mark_len DoneV.row 5 mkDone l k hi,List.getD_eq_getElem?_getD,mark_get DoneV.row 5 mkDone l k hi',mark_reget DoneV.row 5 mkDone l k hi',Option.getD_some,IntWalk.i64_in]
   repeat (first | refine ⟨by decide,?_⟩ | refine ⟨decide_eq_true hi',?_⟩)
   simp -implicitDefEqProofs (maxSteps:=1000000) (disch:=omega) only [x_l_markDoneS_2,go_sem,storeAp,setCells,List.length_set,List.set_set,mark_len DoneV.row 5 mkDone l k hi,List.getD_eq_getElem?_getD,mark_get DoneV.row 5 mkDone l k hi',mark_reget DoneV.row 5 mkDone l k hi',Option.getD_some,IntWalk.i64_in]
   repeat (first | refine ⟨by decide,?_⟩ | refine ⟨decide_eq_true hi',?_⟩)
   refine .of (c_l_markText _ (by omega)) ?_
   simp -implicitDefEqProofs (maxSteps:=1000000) (disch:=omega) only [go_sem,storeAp,setCells,List.length_set,List.set_set,mark_len DoneV.row 5 mkDone l k hi,List.getD_eq_getElem?_getD,mark_get DoneV.row 5 mkDone l k hi',mark_reget DoneV.row 5 mkDone l k hi',Option.getD_some,IntWalk.i64_in]
   repeat (first | refine ⟨by decide,?_⟩ | refine ⟨decide_eq_true hi',?_⟩)
   simp -implicitDefEqProofs (maxSteps:=1000000) (disch:=omega) only [x_l_markDoneS_3,go_sem,storeAp,setCells,List.length_set,List.set_set,mark_len DoneV.row 5 mkDone l k hi,List.getD_eq_getElem?_getD,mark_get DoneV.row 5 mkDone l k hi',mark_reget DoneV.row 5 mkDone l k hi',Option.getD_some,IntWalk.i64_in]
   repeat (first | refine ⟨by decide,?_⟩ | refine ⟨decide_eq_true hi',?_⟩)
   refine .of (c_l_markText _ (by omega)) ?_
   simp -implicitDefEqProofs (maxSteps:=1000000) (disch:=omega) only [go_sem,storeAp,setCells,List.length_set,List.set_set,mark_len DoneV.row 5 mkDone l k hi,List.getD_eq_getElem?_getD,mark_get DoneV.row 5 mkDone l k hi',mark_reget DoneV.row 5 mkDone l k hi',Option.getD_some,IntWalk.i64_in]
   repeat (first | refine ⟨by decide,?_⟩ | refine ⟨decide_eq_true hi',?_⟩)
   simp -implicitDefEqProofs (maxSteps:=1000000) (disch:=omega) only [x_l_markDoneS_4,go_sem,storeAp,setCells,List.length_set,List.set_set,mark_len DoneV.row 5 mkDone l k hi,List.getD_eq_getElem?_getD,mark_get DoneV.row 5 mkDone l k hi',mark_reget DoneV.row 5 mkDone l k hi',Option.getD_some,IntWalk.i64_in]
   repeat (first | refine ⟨by decide,?_⟩ | refine ⟨decide_eq_true hi',?_⟩)
   refine ⟨i + 1,?_,hi',by omega⟩
   rw [← mark_set DoneV.row 5 mkDone l k hi',show k + ((5 * (i + 1):Nat):Int)=k + (5 * i:Nat) + 1 + 1 + 1 + 1 + 1 by omega]
   rfl
  ·have:i=l.length:=by simp only [decide_eq_false_iff_not] at h; omega
   subst this
   simp -implicitDefEqProofs (maxSteps:=1000000) only [go_sem,mark_end]
def x_l_szMsg:FnX:=⟨20,[.tmp 4],
  .q [.v 2 0,.i 4 0]
 (.q [.m 5 1,.f 6 2 4,.l 7 6,.op 8 (.slen (.t 7)),.b 9 .sub 5 8,.m 1 9]
 (.seq (.q [.m 10 1,.B 11 .lss 10 0]
 (.c 11 (.q [.i 4 (-1)]
 .ret)))
 (.q [.m 12 1,.f 13 2 5,.l 14 13,.op 15 (.slen (.t 14)),.b 16 .sub 12 15,.m 1 16]
 (.seq (.q [.m 17 1,.B 18 .lss 17 0]
 (.c 18 (.q [.i 4 (-1)]
 .ret)))
 (.q [.m 19 1,.m 4 19]
 .ret)))))⟩
theorem r_l_szMsg {Te:TE}:C_l_szMsg (RF Te x_l_szMsg):=by
 intro x k hx hk
 refine run0 ?_
 obtain ⟨h0,h1⟩:=hx
 simp -implicitDefEqProofs (maxSteps:=1000000) (disch:=omega) only [x_l_szMsg,go_sem,IntWalk.i64_in]
 refine ⟨fun q0=>?_,fun q0=>?_⟩
 ·simp only [decide_eq_true_eq] at q0
  simp only [szMsg,szAll,if_pos q0]
 ·simp only [decide_eq_false_iff_not] at q0
  have k1:0≤(k - (x.Key.size:Nat))∧(k - (x.Key.size:Nat))≤2 ^ 48:=⟨by omega,Int.le_trans (Sane.sub _ _ hk.1) hk.2⟩
  try simp -implicitDefEqProofs (maxSteps:=1000000) (disch:=omega) only [go_sem,IntWalk.i64_in]
  refine ⟨fun q1=>?_,fun q1=>?_⟩
  ·simp only [decide_eq_true_eq] at q1
   simp only [szMsg,szAll,if_neg q0,if_pos q1]
  ·simp only [decide_eq_false_iff_not] at q1
   have k2:0≤((k - (x.Key.size:Nat)) - (x.Text.size:Nat))∧((k - (x.Key.size:Nat)) - (x.Text.size:Nat))≤2 ^ 48:=⟨by omega,Int.le_trans (Sane.sub _ _ k1.1) k1.2⟩
   simp only [szMsg,szAll,if_neg q0,if_neg q1]
def x_l_toMsg_5:XCode:=.q [.L 28 8 3,.s 100009 8 2 28]
 .ret
def x_l_toMsg_4:XCode:=.q [.f 22 1 6,.l 23 22,.f 24 3 6,.s 100007 1 24 23]
 (.q [.f 25 1 7,.l 26 25,.f 27 3 7,.s 100008 1 27 26]
 x_l_toMsg_5)
def x_l_toMsg_3:XCode:=.q [.f 16 1 4,.l 17 16,.f 18 3 4,.s 100005 1 18 17]
 (.q [.f 19 1 5,.l 20 19,.f 21 3 5,.s 100006 1 21 20]
 x_l_toMsg_4)
def x_l_toMsg_2:XCode:=.q [.f 10 1 2,.l 11 10,.f 12 3 2,.s 100003 1 12 11]
 (.q [.f 13 1 3,.l 14 13,.f 15 3 3,.s 100004 1 15 14]
 x_l_toMsg_3)
def x_l_toMsg_1:XCode:=.q [.f 4 1 0,.l 5 4,.f 6 3 0,.s 100001 1 6 5]
 (.q [.f 7 1 1,.l 8 7,.f 9 3 1,.s 100002 1 9 8]
 x_l_toMsg_2)
def x_l_toMsg:FnX:=⟨29,[.cell 2 (some 8)],
  .q [.v 1 0,.op 2 (.alloc [.i 0,.i 0,.i 0,.i 0,.e,.e,.i 0,.i 0])]
 (.q [.op 3 (.alloc [.i 0,.i 0,.i 0,.i 0,.e,.e,.i 0,.i 0])]
 x_l_toMsg_1)⟩
theorem r_l_toMsg {Te:TE}:C_l_toMsg (RF Te x_l_toMsg):=by
 intro x
 refine run0 ?_
 simp -implicitDefEqProofs (maxSteps:=1000000) only [x_l_toMsg,go_sem]
 simp -implicitDefEqProofs (maxSteps:=1000000) only [x_l_toMsg_1,go_sem]
 simp -implicitDefEqProofs (maxSteps:=1000000) only [x_l_toMsg_2,go_sem]
 simp -implicitDefEqProofs (maxSteps:=1000000) only [x_l_toMsg_3,go_sem]
 simp -implicitDefEqProofs (maxSteps:=1000000) only [x_l_toMsg_4,go_sem]
 simp -implicitDefEqProofs (maxSteps:=1000000) only [x_l_toMsg_5,go_sem]
def x_l_eqMsg:FnX:=⟨45,[.tmp 4],
  .q [.v 2 0,.v 3 1,.F 4]
 (.seq (.q [.f 5 2 0,.l 6 5,.f 7 3 0,.l 8 7,.b 9 .neq 6 8]
 (.c 9 (.q [.F 4]
 .ret)))
 (.seq (.q [.f 10 2 1,.l 11 10,.f 12 3 1,.l 13 12,.b 14 .neq 11 13]
 (.c 14 (.q [.F 4]
 .ret)))
 (.seq (.q [.f 15 2 2,.l 16 15,.f 17 3 2,.l 18 17,.b 19 .neq 16 18]
 (.c 19 (.q [.F 4]
 .ret)))
 (.seq (.q [.f 20 2 3,.l 21 20,.f 22 3 3,.l 23 22,.b 24 .neq 21 23]
 (.c 24 (.q [.F 4]
 .ret)))
 (.seq (.q [.f 25 2 4,.l 26 25,.f 27 3 4,.l 28 27,.b 29 .neq 26 28]
 (.c 29 (.q [.F 4]
 .ret)))
 (.seq (.q [.f 30 2 5,.l 31 30,.f 32 3 5,.l 33 32,.b 34 .neq 31 33]
 (.c 34 (.q [.F 4]
 .ret)))
 (.seq (.q [.f 35 2 6,.l 36 35,.f 37 3 6,.l 38 37,.b 39 .neq 36 38]
 (.c 39 (.q [.F 4]
 .ret)))
 (.seq (.q [.f 40 2 7,.l 41 40,.f 42 3 7,.l 43 42,.b 44 .neq 41 43]
 (.c 44 (.q [.F 4]
 .ret)))
 (.q [.T 4]
 .ret)))))))))⟩
theorem r_l_eqMsg {Te:TE}:C_l_eqMsg (RF Te x_l_eqMsg):=by
 intro x y
 refine run0 ?_
 have key:(x=y)↔x.Kind=y.Kind∧x.From=y.From∧x.To=y.To∧x.Seq=y.Seq∧x.Key=y.Key∧x.Text=y.Text∧x.N=y.N∧x.Code=y.Code:=by cases x; cases y; simp
 simp only [key]
 clear key
 simp -implicitDefEqProofs (maxSteps:=1000000) only [x_l_eqMsg,go_sem]
 refine ⟨fun q=>?_,fun q=>?_⟩
 ·have n0:¬ (x.Kind=y.Kind):=by simpa using q
  simp only [n0,false_and,and_false,true_and,decide_false]
 have e0:x.Kind=y.Kind:=by simpa using q
 clear q
 refine ⟨fun q=>?_,fun q=>?_⟩
 ·have n1:¬ (x.From=y.From):=by simpa using q
  simp only [e0,n1,false_and,and_false,true_and,decide_false]
 have e1:x.From=y.From:=by simpa using q
 clear q
 refine ⟨fun q=>?_,fun q=>?_⟩
 ·have n2:¬ (x.To=y.To):=by simpa using q
  simp only [e0,e1,n2,false_and,and_false,true_and,decide_false]
 have e2:x.To=y.To:=by simpa using q
 clear q
 refine ⟨fun q=>?_,fun q=>?_⟩
 ·have n3:¬ (x.Seq=y.Seq):=by simpa using q
  simp only [e0,e1,e2,n3,false_and,and_false,true_and,decide_false]
 have e3:x.Seq=y.Seq:=by simpa using q
 clear q
 refine ⟨fun q=>?_,fun q=>?_⟩
 ·have n4:¬ (x.Key=y.Key):=by simpa using q
  simp only [e0,e1,e2,e3,n4,false_and,and_false,true_and,decide_false]
 have e4:x.Key=y.Key:=by simpa using q
 clear q
 refine ⟨fun q=>?_,fun q=>?_⟩
 ·have n5:¬ (x.Text=y.Text):=by simpa using q
  simp only [e0,e1,e2,e3,e4,n5,false_and,and_false,true_and,decide_false]
 have e5:x.Text=y.Text:=by simpa using q
 clear q
 refine ⟨fun q=>?_,fun q=>?_⟩
 ·have n6:¬ (x.N=y.N):=by simpa using q
  simp only [e0,e1,e2,e3,e4,e5,n6,false_and,and_false,true_and,decide_false]
 have e6:x.N=y.N:=by simpa using q
 clear q
 refine ⟨fun q=>?_,fun q=>?_⟩
 ·have n7:¬ (x.Code=y.Code):=by simpa using q
  simp only [e0,e1,e2,e3,e4,e5,e6,n7,false_and,and_false,true_and,decide_false]
 have e7:x.Code=y.Code:=by simpa using q
 clear q
 simp only [e0,e1,e2,e3,e4,e5,e6,e7,true_and,and_true,decide_true]
def x_l_szMsgS:FnX:=⟨27,[.tmp 4],
  .q [.i 4 0]
 (.q [.m 6 1,.m 7 0,.n 8 7,.b 9 .sub 6 8,.m 1 9]
 (.seq (.q [.m 10 1,.B 11 .lss 10 0]
 (.c 11 (.q [.i 4 (-1)]
 .ret)))
 (.seq (.q [.i 5 0]
 (.block 0 (.loop [0,1,5] (.seq (.q [.m 12 5,.m 13 0,.n 14 13,.b 15 .lss 12 14]
 (.cond 15 .skip (.exit 0)))
 (.seq (.block 1 (.q [.m 18 0,.m 19 5,.x 20 8 18 19,.L 21 8 20,.m 22 1,.c 23 215 [21,22],.m 1 23]
 (.q [.m 24 1,.B 25 .lss 24 0]
 (.c 25 (.q [.i 4 (-1)]
 .ret)))))
 (.reg [.m 16 5,.B 17 .add 16 1,.m 5 17]))))))
 (.norm [1] (.q [.m 26 1,.m 4 26]
 .ret)))))⟩
theorem r_l_szMsgS {Te:TE} (c_l_szMsg:C_l_szMsg Te):C_l_szMsgS (RF Te x_l_szMsgS):=by
 intro l k hk hl hs
 refine run0 ?_
 simp -implicitDefEqProofs (maxSteps:=1000000) (disch:=omega) only [x_l_szMsgS,go_sem,IntWalk.i64_in]
 refine ⟨fun h=>?_,fun h=>?_⟩
 ·simp only [decide_eq_true_eq] at h
  simp only [szSl,szAll,if_pos h]
 ·simp only [decide_eq_false_iff_not] at h
  refine loop_of (σ:=Nat×Int) (fun x=>⟨[(0,.one (.ro 8 (l.map Msg.row))),(1,.one (.pv (.int .i64 x.2))),(5,.one (.pv (.int .i64 x.1)))],[],[(0,[slT false 8 Msg.row l]),(1,[iT k])]⟩) (fun x=>x.1≤l.length∧0≤x.2∧x.2≤k∧szSl szMsg l k=szAll ((l.drop x.1).map szMsg) x.2) (fun x=>l.length - x.1) (0,k - l.length) ?_ ⟨Nat.zero_le _,by omega,by omega,by simp only [szSl,szAll,if_neg h,List.drop_zero]⟩ ?_
  ·simp -implicitDefEqProofs (maxSteps:=1000000) only [go_sem]; rfl
  ·rintro ⟨i,c⟩ ⟨hi,h0,h1,he⟩
   simp only at hi h0 h1 he
   simp -implicitDefEqProofs (maxSteps:=1000000) only [go_sem]
   refine ⟨fun h=>?_,fun h=>?_⟩
   ·have hi':i < l.length:=by simp only [decide_eq_true_eq] at h; omega
    have hsz:=hs l[i] (List.getElem_mem hi')
    rw [List.drop_eq_getElem_cons hi'] at he
    simp -implicitDefEqProofs (maxSteps:=1000000) (disch:=omega) only [go_sem,List.getElem?_eq_getElem hi',IntWalk.i64_in]
    refine .of (c_l_szMsg _ _ hsz ⟨h0,by omega⟩) ?_
    simp -implicitDefEqProofs (maxSteps:=1000000) only [go_sem]
    refine ⟨fun h2=>?_,fun h2=>?_⟩
    ·simp only [decide_eq_true_eq] at h2
     rw [he]
     simp only [List.map_cons,szAll,if_pos h2]
    ·simp only [decide_eq_false_iff_not] at h2
     refine ⟨(i + 1,szMsg l[i] c),by rw [IntWalk.i64_in _ (by omega)]; rfl,⟨hi',by omega,Int.le_trans (szMsg_sane _ _ h0) h1,?_⟩,by simp only; omega⟩
     rw [he]
     simp only [List.map_cons,szAll,if_neg h2]
   ·have hle:l.length≤i:=by simp only [decide_eq_false_iff_not] at h; omega
    rw [List.drop_of_length_le hle] at he
    simp only [szAll,List.map_nil] at he
    rw [he]
def x_l_eqActS:FnX:=⟨27,[.tmp 4],
  .q [.F 4]
 (.seq (.q [.m 6 0,.n 7 6,.m 8 1,.n 9 8,.b 10 .neq 7 9]
 (.c 10 (.q [.F 4]
 .ret)))
 (.seq (.q [.i 5 0]
 (.block 0 (.loop [0,1,5] (.seq (.q [.m 11 5,.m 12 0,.n 13 12,.b 14 .lss 11 13]
 (.cond 14 .skip (.exit 0)))
 (.seq (.block 1 (.seq (.draw [.m 17 0,.m 18 5,.x 19 6 17 18,.L 20 6 19,.m 21 1,.m 22 5,.x 23 6 21 22,.L 24 6 23,.c 25 135 [20,24],.N 26 25] [[],[],[0,1],[2],[],[],[4,5],[6],[3,7],[8]])
 (.c 26 (.q [.F 4]
 .ret))))
 (.reg [.m 15 5,.B 16 .add 15 1,.m 5 16]))))))
 (.norm [] (.q [.T 4]
 .ret))))⟩
theorem r_l_eqActS {Te:TE} (c_l_eqAct:C_l_eqAct Te):C_l_eqActS (RF Te x_l_eqActS):=by
 intro l m hl
 refine run0 ?_
 simp -implicitDefEqProofs (maxSteps:=1000000) (disch:=omega) only [x_l_eqActS,go_sem,IntWalk.i64_in]
 refine ⟨fun h=>?_,fun h=>?_⟩
 ·have:l≠m:=fun e=>by simp [e] at h
  simp [this]
 ·have hlen:l.length=m.length:=by simp at h; omega
  refine loop_of (σ:=Nat) (fun i=>⟨[(0,.one (.ro 6 (l.map ActV.row))),(1,.one (.ro 6 (m.map ActV.row))),(5,.one (.pv (.int .i64 i)))],[],[(0,[slT false 6 ActV.row l]),(1,[slT false 6 ActV.row m])]⟩) (fun i=>i≤l.length∧l.take i=m.take i) (fun i=>l.length - i) 0 ?_ ⟨Nat.zero_le _,by simp⟩ ?_
  ·simp -implicitDefEqProofs (maxSteps:=1000000) only [go_sem]; rfl
  ·intro i ⟨hi,hs⟩
   simp -implicitDefEqProofs (maxSteps:=1000000) only [go_sem]
   refine ⟨fun h=>?_,fun h=>?_⟩
   ·have hi':i < l.length:=by simp only [decide_eq_true_eq] at h; omega
    have hj':i < m.length:=by omega
    simp -implicitDefEqProofs (maxSteps:=1000000) only [go_sem,List.getElem?_eq_getElem hi',List.getElem?_eq_getElem hj']
    refine .of (c_l_eqAct _ _) ?_
    simp -implicitDefEqProofs (maxSteps:=1000000) only [go_sem]
    refine ⟨by decide,fun h2=>?_,fun h2=>?_⟩
    ·have:l≠m:=fun e=>by subst e; simp at h2
     simp [this]
    ·refine ⟨i + 1,by rw [IntWalk.i64_in _ (by omega)]; rfl,⟨hi',same_step hi' hj' hs ?_⟩,by omega⟩
     simpa using h2
   ·have hle:l.length≤i:=by simp only [decide_eq_false_iff_not] at h; omega
    have:l=m:=same_end hle (by omega) hs
    simp [this]
def x_l_markActS_5:XCode:=.q [.m 49 0,.m 50 5,.m 51 1,.x 52 6 49 50,.f 53 52 5,.s 100006 1 53 51]
 (.reg [.m 54 1,.B 55 .add 54 1,.m 1 55])
def x_l_markActS_4:XCode:=.q [.m 41 0,.m 42 5,.m 43 1,.c 44 146 [43],.x 45 6 41 42,.f 46 45 4,.s 100005 1 46 44]
 (.q [.m 47 1,.B 48 .add 47 1,.m 1 48]
 x_l_markActS_5)
def x_l_markActS_3:XCode:=.q [.m 33 0,.m 34 5,.m 35 1,.c 36 146 [35],.x 37 6 33 34,.f 38 37 3,.s 100004 1 38 36]
 (.q [.m 39 1,.B 40 .add 39 1,.m 1 40]
 x_l_markActS_4)
def x_l_markActS_2:XCode:=.q [.m 26 0,.m 27 5,.m 28 1,.x 29 6 26 27,.f 30 29 2,.s 100003 1 30 28]
 (.q [.m 31 1,.B 32 .add 31 1,.m 1 32]
 x_l_markActS_3)
def x_l_markActS_1:XCode:=.q [.m 19 0,.m 20 5,.m 21 1,.x 22 6 19 20,.f 23 22 1,.s 100002 1 23 21]
 (.q [.m 24 1,.B 25 .add 24 1,.m 1 25]
 x_l_markActS_2)
def x_l_markActS:FnX:=⟨57,[.tmp 4],
  .q [.i 4 0]
 (.seq (.q [.i 5 0]
 (.block 0 (.loop [0,1,5] (.seq (.q [.m 6 5,.m 7 0,.n 8 7,.b 9 .lss 6 8]
 (.cond 9 .skip (.exit 0)))
 (.seq (.block 1 (.q [.m 12 0,.m 13 5,.m 14 1,.x 15 6 12 13,.f 16 15 0,.s 100001 1 16 14]
 (.q [.m 17 1,.B 18 .add 17 1,.m 1 18]
 x_l_markActS_1)))
 (.reg [.m 10 5,.B 11 .add 10 1,.m 5 11]))))))
 (.norm [1] (.q [.m 56 1,.m 4 56]
 .ret)))⟩
theorem r_l_markActS {Te:TE} (c_l_markText:C_l_markText Te):C_l_markActS (RF Te x_l_markActS):=by
 intro l k hl hk
 refine run0 ?_
 simp -implicitDefEqProofs (maxSteps:=1000000) (disch:=omega) only [x_l_markActS,go_sem,IntWalk.i64_in]
 refine loop_of (σ:=Nat) (fun i=>⟨[(0,.one (.rf 0 0 [] 6 0 l.length)),(1,.one (.pv (.int .i64 (k + (6 * i:Nat))))),(5,.one (.pv (.int .i64 i)))],[],[(0,[.sl true 6 () ((marks 6 mkAct i k).map ActV.row++(l.drop i).map ActV.row)]),(1,[iT k])]⟩) (fun i=>i≤l.length) (fun i=>l.length - i) 0 ?_ (Nat.zero_le _) ?_
 ·simp -implicitDefEqProofs (maxSteps:=1000000) only [go_sem]; simp [marks]
 ·intro i hi
  simp -implicitDefEqProofs (maxSteps:=1000000) only [go_sem]
  refine ⟨fun h=>?_,fun h=>?_⟩
  ·have hi':i < l.length:=by simp only [decide_eq_true_eq] at h; omega
   try simp -implicitDefEqProofs (maxSteps:=1000000) (disch:=omega) only [go_sem,storeAp,setCells,List.length_set,List.set_set,mark_len ActV.row 6 mkAct l k hi,List.getD_eq_getElem?_getD,mark_get ActV.row 6 mkAct l k hi',mark_reget ActV.row 6 mkAct l k hi',Option.getD_some,IntWalk.i64_in]
   repeat (first | refine ⟨by decide,?_⟩ | refine ⟨decide_eq_true hi',?_⟩)
   simp -implicitDefEqProofs (maxSteps:=1000000) (disch:=omega) only [x_l_markActS_1,go_sem,storeAp,setCells,List.length_set,List.set_set,mark_len ActV.row 6 mkAct l k hi,List.getD_eq_getElem?_getD,mark_get ActV.row 6 mkAct l k hi',mark_reget ActV.row 6 mkAct l k hi',Option.getD_some,IntWalk.i64_in]
   repeat (first | refine ⟨by decide,?_⟩ | refine ⟨decide_eq_true hi',?_⟩)
   simp -implicitDefEqProofs (maxSteps:=1000000) (disch:=omega) only [x_l_markActS_2,go_sem,storeAp,setCells,List.length_set,List.set_set,mark_len ActV.row 6 mkAct l k hi,List.getD_eq_getElem?_getD,mark_get ActV.row 6 mkAct l k hi',mark_reget ActV.row 6 mkAct l k hi',Option.getD_some,IntWalk.i64_in]
   repeat (first | refine ⟨by decide,?_⟩ | refine ⟨decide_eq_true hi',?_⟩)
   simp -implicitDefEqProofs (maxSteps:=1000000) (disch:=omega) only [x_l_markActS_3,go_sem,storeAp,setCells,List.length_set,List.set_set,mark_len ActV.row 6 mkAct l k hi,List.getD_eq_getElem?_getD,mark_get ActV.row 6 mkAct l k hi',mark_reget ActV.row 6 mkAct l k hi',Option.getD_some,IntWalk.i64_in]
   repeat (first | refine ⟨by decide,?_⟩ | refine ⟨decide_eq_true hi',?_⟩)
   refine .of (c_l_markText _ (by omega)) ?_
   simp -implicitDefEqProofs (maxSteps:=1000000) (disch:=omega) only [go_sem,storeAp,setCells,List.length_set,List.set_set,mark_len ActV.row 6 mkAct l k hi,List.getD_eq_getElem?_getD,mark_get ActV.row 6 mkAct l k hi',mark_reget ActV.row 6 mkAct l k hi',Option.getD_some,IntWalk.i64_in]
   repeat (first | refine ⟨by decide,?_⟩ | refine ⟨decide_eq_true hi',?_⟩)
   simp -implicitDefEqProofs (maxSteps:=1000000) (disch:=omega) only [x_l_markActS_4,go_sem,storeAp,setCells,List.length_set,List.set_set,mark_len ActV.row 6 mkAct l k hi,List.getD_eq_getElem?_getD,mark_get ActV.row 6 mkAct l k hi',mark_reget ActV.row 6 mkAct l k hi',Option.getD_some,IntWalk.i64_in]
   repeat (first | refine ⟨by decide,?_⟩ | refine ⟨decide_eq_true hi',?_⟩)
   refine .of (c_l_markText _ (by omega)) ?_
   simp -implicitDefEqProofs (maxSteps:=1000000) (disch:=omega) only [go_sem,storeAp,setCells,List.length_set,List.set_set,mark_len ActV.row 6 mkAct l k hi,List.getD_eq_getElem?_getD,mark_get ActV.row 6 mkAct l k hi',mark_reget ActV.row 6 mkAct l k hi',Option.getD_some,IntWalk.i64_in]
   repeat (first | refine ⟨by decide,?_⟩ | refine ⟨decide_eq_true hi',?_⟩)
   simp -implicitDefEqProofs (maxSteps:=1000000) (disch:=omega) only [x_l_markActS_5,go_sem,storeAp,setCells,List.length_set,List.set_set,mark_len ActV.row 6 mkAct l k hi,List.getD_eq_getElem?_getD,mark_get ActV.row 6 mkAct l k hi',mark_reget ActV.row 6 mkAct l k hi',Option.getD_some,IntWalk.i64_in]
   repeat (first | refine ⟨by decide,?_⟩ | refine ⟨decide_eq_true hi',?_⟩)
   refine ⟨i + 1,?_,hi',by omega⟩
   rw [← mark_set ActV.row 6 mkAct l k hi',show k + ((6 * (i + 1):Nat):Int)=k + (6 * i:Nat) + 1 + 1 + 1 + 1 + 1 + 1 by omega]
   rfl
  ·have:i=l.length:=by simp only [decide_eq_false_iff_not] at h; omega
   subst this
   simp -implicitDefEqProofs (maxSteps:=1000000) only [go_sem,mark_end]
def x_l_eqNodeS:FnX:=⟨27,[.tmp 4],
  .q [.F 4]
 (.seq (.q [.m 6 0,.n 7 6,.m 8 1,.n 9 8,.b 10 .neq 7 9]
 (.c 10 (.q [.F 4]
 .ret)))
 (.seq (.q [.i 5 0]
 (.block 0 (.loop [0,1,5] (.seq (.q [.m 11 5,.m 12 0,.n 13 12,.b 14 .lss 11 13]
 (.cond 14 .skip (.exit 0)))
 (.seq (.block 1 (.seq (.draw [.m 17 0,.m 18 5,.x 19 10 17 18,.L 20 10 19,.m 21 1,.m 22 5,.x 23 10 21 22,.L 24 10 23,.c 25 225 [20,24],.N 26 25] [[],[],[0,1],[2],[],[],[4,5],[6],[3,7],[8]])
 (.c 26 (.q [.F 4]
 .ret))))
 (.reg [.m 15 5,.B 16 .add 15 1,.m 5 16]))))))
 (.norm [] (.q [.T 4]
 .ret))))⟩
theorem r_l_eqNodeS {Te:TE} (c_l_eqNode:C_l_eqNode Te):C_l_eqNodeS (RF Te x_l_eqNodeS):=by
 intro l m hl
 refine run0 ?_
 have hl1:=hl.1
 simp -implicitDefEqProofs (maxSteps:=1000000) (disch:=omega) only [x_l_eqNodeS,go_sem,IntWalk.i64_in]
 refine ⟨fun h=>?_,fun h=>?_⟩
 ·have:l≠m:=fun e=>by simp [e] at h
  simp [this]
 ·have hlen:l.length=m.length:=by simp at h; omega
  refine loop_of (σ:=Nat) (fun i=>⟨[(0,.one (.ro 10 (l.map (NodeV.enc false)))),(1,.one (.ro 10 (m.map (NodeV.enc false)))),(5,.one (.pv (.int .i64 i)))],[],[(0,[slT false 10 (NodeV.enc false) l]),(1,[slT false 10 (NodeV.enc false) m])]⟩) (fun i=>i≤l.length∧l.take i=m.take i) (fun i=>l.length - i) 0 ?_ ⟨Nat.zero_le _,by simp⟩ ?_
  ·simp -implicitDefEqProofs (maxSteps:=1000000) only [go_sem]; rfl
  ·intro i ⟨hi,hs⟩
   simp -implicitDefEqProofs (maxSteps:=1000000) only [go_sem]
   refine ⟨fun h=>?_,fun h=>?_⟩
   ·have hi':i < l.length:=by simp only [decide_eq_true_eq] at h; omega
    have hj':i < m.length:=by omega
    simp -implicitDefEqProofs (maxSteps:=1000000) only [go_sem,List.getElem?_eq_getElem hi',List.getElem?_eq_getElem hj']
    refine .of (c_l_eqNode _ _ (hl.2 _ (List.getElem_mem hi'))) ?_
    simp -implicitDefEqProofs (maxSteps:=1000000) only [go_sem]
    refine ⟨by decide,fun h2=>?_,fun h2=>?_⟩
    ·have:l≠m:=fun e=>by subst e; simp at h2
     simp [this]
    ·refine ⟨i + 1,by rw [IntWalk.i64_in _ (by omega)]; rfl,⟨hi',same_step hi' hj' hs ?_⟩,by omega⟩
     simpa using h2
   ·have hle:l.length≤i:=by simp only [decide_eq_false_iff_not] at h; omega
    have:l=m:=same_end hle (by omega) hs
    simp [this]
def x_l_szCell:FnX:=⟨12,[.tmp 4],
  .q [.v 2 0,.i 4 0]
 (.q [.f 5 2 1,.l 6 5,.m 7 1,.c 8 373 [6,7],.m 1 8]
 (.seq (.q [.m 9 1,.B 10 .lss 9 0]
 (.c 10 (.q [.i 4 (-1)]
 .ret)))
 (.q [.m 11 1,.m 4 11]
 .ret)))⟩
theorem r_l_szCell {Te:TE} (c_l_szByteS:C_l_szByteS Te):C_l_szCell (RF Te x_l_szCell):=by
 intro x k hx hk
 refine run0 ?_
 have h0:=hx
 simp -implicitDefEqProofs (maxSteps:=1000000) (disch:=omega) only [x_l_szCell,go_sem,IntWalk.i64_in]
 refine .of (c_l_szByteS _ _ h0 hk) ?_
 simp -implicitDefEqProofs (maxSteps:=1000000) (disch:=omega) only [go_sem,IntWalk.i64_in]
 refine ⟨fun q0=>?_,fun q0=>?_⟩
 ·simp only [decide_eq_true_eq] at q0
  simp only [szCell,szAll,if_pos q0]
 ·simp only [decide_eq_false_iff_not] at q0
  have k1:0≤(left (k - (x.B.length:Nat)))∧(left (k - (x.B.length:Nat)))≤2 ^ 48:=⟨by omega,Int.le_trans (Sane.left _ _ hk.1) hk.2⟩
  simp only [szCell,szAll,if_neg q0]
def x_l_toCell:FnX:=⟨12,[.cell 2 (some 2)],
  .q [.v 1 0,.op 2 (.alloc [.i 0,.nils 1])]
 (.q [.op 3 (.alloc [.i 0,.nils 1])]
 (.q [.f 4 1 0,.l 5 4,.f 6 3 0,.s 100001 1 6 5]
 (.q [.f 7 1 1,.l 8 7,.c 9 376 [8],.f 10 3 1,.s 100002 1 10 9]
 (.q [.L 11 2 3,.s 100003 2 2 11]
 .ret))))⟩
theorem r_l_toCell {Te:TE} (c_l_toByteS:C_l_toByteS Te):C_l_toCell (RF Te x_l_toCell):=by
 intro x hx
 refine run0 ?_
 have h0:x.B.length≤2 ^ 21:=hx
 simp -implicitDefEqProofs (maxSteps:=1000000) only [x_l_toCell,go_sem]
 exact D0 (c_l_toByteS _ (Nat.le_trans h0 (by decide)))
def x_l_eqCell:FnX:=⟨16,[.tmp 4],
  .q [.v 2 0,.v 3 1,.F 4]
 (.seq (.q [.f 5 2 0,.l 6 5,.f 7 3 0,.l 8 7,.b 9 .neq 6 8]
 (.c 9 (.q [.F 4]
 .ret)))
 (.seq (.q [.f 10 2 1,.l 11 10,.f 12 3 1,.l 13 12,.c 14 380 [11,13],.N 15 14]
 (.c 15 (.q [.F 4]
 .ret)))
 (.q [.T 4]
 .ret)))⟩
theorem r_l_eqCell {Te:TE} (c_l_eqByteS:C_l_eqByteS Te):C_l_eqCell (RF Te x_l_eqCell):=by
 intro x y hx
 refine run0 ?_
 have h0:x.B.length≤2 ^ 21:=hx
 have key:(x=y)↔x.Tag=y.Tag∧x.B=y.B:=by cases x; cases y; simp
 simp only [key]
 clear key
 simp -implicitDefEqProofs (maxSteps:=1000000) only [x_l_eqCell,go_sem]
 refine ⟨fun q=>?_,fun q=>?_⟩
 ·have n0:¬ (x.Tag=y.Tag):=by simpa using q
  simp only [n0,false_and,and_false,true_and,decide_false]
 have e0:x.Tag=y.Tag:=by simpa using q
 clear q
 refine .of (c_l_eqByteS _ _ (Nat.le_trans h0 (by decide))) ?_
 simp -implicitDefEqProofs (maxSteps:=1000000) only [go_sem]
 refine ⟨fun q=>?_,fun q=>?_⟩
 ·have n1:¬ (x.B=y.B):=by simpa using q
  simp only [e0,n1,false_and,and_false,true_and,decide_false]
 have e1:x.B=y.B:=by simpa using q
 clear q
 simp only [e0,e1,true_and,and_true,decide_true]
def x_l_szRow:FnX:=⟨25,[.tmp 4],
  .q [.v 2 0,.i 4 0]
 (.q [.m 5 1,.f 6 2 0,.l 7 6,.op 8 (.slen (.t 7)),.b 9 .sub 5 8,.m 1 9]
 (.seq (.q [.m 10 1,.B 11 .lss 10 0]
 (.c 11 (.q [.i 4 (-1)]
 .ret)))
 (.q [.f 12 2 1,.L 13 2 12,.m 14 1,.c 15 386 [13,14],.m 1 15]
 (.seq (.q [.m 16 1,.B 17 .lss 16 0]
 (.c 17 (.q [.i 4 (-1)]
 .ret)))
 (.q [.f 18 2 3,.L 19 2 18,.m 20 1,.c 21 386 [19,20],.m 1 21]
 (.seq (.q [.m 22 1,.B 23 .lss 22 0]
 (.c 23 (.q [.i 4 (-1)]
 .ret)))
 (.q [.m 24 1,.m 4 24]
 .ret)))))))⟩
theorem r_l_szRow {Te:TE} (c_l_szCell:C_l_szCell Te):C_l_szRow (RF Te x_l_szRow):=by
 intro x k hx hk
 refine run0 ?_
 obtain ⟨h0,h1,h2⟩:=hx
 simp -implicitDefEqProofs (maxSteps:=1000000) (disch:=omega) only [x_l_szRow,go_sem,IntWalk.i64_in]
 refine ⟨fun q0=>?_,fun q0=>?_⟩
 ·simp only [decide_eq_true_eq] at q0
  simp only [szRow,szAll,if_pos q0]
 ·simp only [decide_eq_false_iff_not] at q0
  have k1:0≤(k - (x.Key.size:Nat))∧(k - (x.Key.size:Nat))≤2 ^ 48:=⟨by omega,Int.le_trans (Sane.sub _ _ hk.1) hk.2⟩
  try simp -implicitDefEqProofs (maxSteps:=1000000) (disch:=omega) only [go_sem,IntWalk.i64_in]
  refine .of (c_l_szCell _ _ h1 k1) ?_
  simp -implicitDefEqProofs (maxSteps:=1000000) (disch:=omega) only [go_sem,IntWalk.i64_in]
  refine ⟨fun q1=>?_,fun q1=>?_⟩
  ·simp only [decide_eq_true_eq] at q1
   simp only [szRow,szAll,if_neg q0,if_pos q1]
  ·simp only [decide_eq_false_iff_not] at q1
   have k2:0≤(szCell x.Old (k - (x.Key.size:Nat)))∧(szCell x.Old (k - (x.Key.size:Nat)))≤2 ^ 48:=⟨by omega,Int.le_trans ((szCell_sane _) _ k1.1) k1.2⟩
   refine .of (c_l_szCell _ _ h2 k2) ?_
   simp -implicitDefEqProofs (maxSteps:=1000000) (disch:=omega) only [go_sem,IntWalk.i64_in]
   refine ⟨fun q2=>?_,fun q2=>?_⟩
   ·simp only [decide_eq_true_eq] at q2
    simp only [szRow,szAll,if_neg q0,if_neg q1,if_pos q2]
   ·simp only [decide_eq_false_iff_not] at q2
    have k3:0≤(szCell x.New (szCell x.Old (k - (x.Key.size:Nat))))∧(szCell x.New (szCell x.Old (k - (x.Key.size:Nat))))≤2 ^ 48:=⟨by omega,Int.le_trans ((szCell_sane _) _ k2.1) k2.2⟩
    simp only [szRow,szAll,if_neg q0,if_neg q1,if_neg q2]
def x_l_toRow:FnX:=⟨22,[.cell 2 (some 7)],
  .q [.v 1 0,.op 2 (.alloc [.e,.i 0,.nils 1,.i 0,.nils 1,.i 0,.F])]
 (.q [.op 3 (.alloc [.e,.i 0,.nils 1,.i 0,.nils 1,.i 0,.F])]
 (.q [.f 4 1 0,.l 5 4,.f 6 3 0,.s 100001 1 6 5]
 (.q [.f 7 1 1,.L 8 2 7,.c 9 387 [8],.f 10 3 1,.s 100002 2 10 9]
 (.q [.f 11 1 3,.L 12 2 11,.c 13 387 [12],.f 14 3 3,.s 100003 2 14 13]
 (.q [.f 15 1 5,.l 16 15,.f 17 3 5,.s 100004 1 17 16]
 (.q [.f 18 1 6,.l 19 18,.f 20 3 6,.s 100005 1 20 19]
 (.q [.L 21 7 3,.s 100006 7 2 21]
 .ret)))))))⟩
theorem r_l_toRow {Te:TE} (c_l_toCell:C_l_toCell Te):C_l_toRow (RF Te x_l_toRow):=by
 intro x hx
 refine run0 ?_
 obtain ⟨h0,h1⟩:=hx
 simp -implicitDefEqProofs (maxSteps:=1000000) only [x_l_toRow,go_sem]
 refine C0 (c_l_toCell _ h0) ?_
 exact D0 (c_l_toCell _ h1)
def x_l_eqRow:FnX:=⟨32,[.tmp 4],
  .q [.v 2 0,.v 3 1,.F 4]
 (.seq (.q [.f 5 2 0,.l 6 5,.f 7 3 0,.l 8 7,.b 9 .neq 6 8]
 (.c 9 (.q [.F 4]
 .ret)))
 (.seq (.q [.f 10 2 1,.L 11 2 10,.f 12 3 1,.L 13 2 12,.c 14 388 [11,13],.N 15 14]
 (.c 15 (.q [.F 4]
 .ret)))
 (.seq (.q [.f 16 2 3,.L 17 2 16,.f 18 3 3,.L 19 2 18,.c 20 388 [17,19],.N 21 20]
 (.c 21 (.q [.F 4]
 .ret)))
 (.seq (.q [.f 22 2 5,.l 23 22,.f 24 3 5,.l 25 24,.b 26 .neq 23 25]
 (.c 26 (.q [.F 4]
 .ret)))
 (.seq (.q [.f 27 2 6,.l 28 27,.f 29 3 6,.l 30 29,.op 31 (.beq true (.t 28) (.t 30))]
 (.c 31 (.q [.F 4]
 .ret)))
 (.q [.T 4]
 .ret))))))⟩
theorem r_l_eqRow {Te:TE} (c_l_eqCell:C_l_eqCell Te):C_l_eqRow (RF Te x_l_eqRow):=by
 intro x y hx
 refine run0 ?_
 obtain ⟨h0,h1⟩:=hx
 have key:(x=y)↔x.Key=y.Key∧x.Old=y.Old∧x.New=y.New∧x.Has=y.Has∧x.Aside=y.Aside:=by cases x; cases y; simp
 simp only [key]
 clear key
 simp -implicitDefEqProofs (maxSteps:=1000000) only [x_l_eqRow,go_sem]
 refine ⟨fun q=>?_,fun q=>?_⟩
 ·have n0:¬ (x.Key=y.Key):=by simpa using q
  simp only [n0,false_and,and_false,true_and,decide_false]
 have e0:x.Key=y.Key:=by simpa using q
 clear q
 refine .of (c_l_eqCell _ _ h0) ?_
 simp -implicitDefEqProofs (maxSteps:=1000000) only [go_sem]
 refine ⟨fun q=>?_,fun q=>?_⟩
 ·have n1:¬ (x.Old=y.Old):=by simpa using q
  simp only [e0,n1,false_and,and_false,true_and,decide_false]
 have e1:x.Old=y.Old:=by simpa using q
 clear q
 refine .of (c_l_eqCell _ _ h1) ?_
 simp -implicitDefEqProofs (maxSteps:=1000000) only [go_sem]
 refine ⟨fun q=>?_,fun q=>?_⟩
 ·have n2:¬ (x.New=y.New):=by simpa using q
  simp only [e0,e1,n2,false_and,and_false,true_and,decide_false]
 have e2:x.New=y.New:=by simpa using q
 clear q
 refine ⟨fun q=>?_,fun q=>?_⟩
 ·have n3:¬ (x.Has=y.Has):=by simpa using q
  simp only [e0,e1,e2,n3,false_and,and_false,true_and,decide_false]
 have e3:x.Has=y.Has:=by simpa using q
 clear q
 refine ⟨fun q=>?_,fun q=>?_⟩
 ·have n4:¬ (x.Aside=y.Aside):=by simpa using q
  simp only [e0,e1,e2,e3,n4,false_and,and_false,true_and,decide_false]
 have e4:x.Aside=y.Aside:=by simpa using q
 clear q
 simp only [e0,e1,e2,e3,e4,true_and,and_true,decide_true]
def x_s_Decode:FnX:=⟨35,[.tmp 4,.tmp 5],
  .q [.op 4 (.mv (.k (.one (.pv (.string ⟨#[]⟩))))),.F 5]
 (.q [.op 11 (.bslice 1 []),.m 6 11]
 (.seq (.q [.m 12 0,.c 13 187 [12],.N 14 13]
 (.c 14 (.q [.op 4 (.mv (.k (.one (.pv (.string ⟨#[]⟩))))),.F 5]
 .ret)))
 (.seq (.q [.i 7 0]
 (.block 0 (.loop [0,1,6,7] (.seq (.q [.m 15 7,.m 16 1,.n 17 16,.b 18 .lss 15 17]
 (.cond 18 .skip (.exit 0)))
 (.block 1 (.q [.m 20 0,.m 21 1,.m 22 7,.c 23 188 [20,21,22],.m 19 23,.e 24 19 0,.e 25 19 1,.e 26 19 2,.m 8 24,.m 9 25,.m 10 26]
 (.seq (.q [.m 27 10,.N 28 27]
 (.c 28 (.q [.op 4 (.mv (.k (.one (.pv (.string ⟨#[]⟩))))),.F 5]
 .ret)))
 (.q [.m 29 6,.m 30 8,.c 31 189 [29,30],.m 6 31]
 (.reg [.m 32 9,.m 7 32])))))))))
 (.norm [6] (.q [.m 33 6,.op 34 (.conv .b2s (.t 33)),.m 4 34,.T 5]
 .ret)))))⟩
theorem r_s_Decode {Te:TE} (c_s_l5Cs:C_s_l5Cs Te) (c_s_l5Get:C_s_l5Get Te) (c_s_PutSign:C_s_PutSign Te):C_s_Decode (RF Te x_s_Decode):=by
 intro cs b hb
 cases g:win cs 0 5
 ·have e:decode cs b=(⟨#[]⟩,false):=by rw [decode,g]; rfl
  refine X0 x_s_Decode.eq_1 ?_
  exact D2 (c_s_l5Cs _) g e
 ·have e:decode cs b=decGo cs b b.length 0 []:=by rw [decode,g]; rfl
  rw [e]
  generalize hD:decGo cs b b.length 0 []=D
  refine X0 x_s_Decode.eq_1 ?_
  refine C1 (c_s_l5Cs _) g ?_
  refine loop_of (σ:=Nat×Nat×List UInt8) (fun x=>⟨[(0,.one (.pv (.int .i64 cs))),(1,.one (.ro 1 (b.map uR))),(6,.one (.rf 37 0 [] 1 0 x.2.2.length)),(7,.one (.pv (.int .i64 x.2.1)))],[],[(0,[iT cs]),(1,[slT false 1 uR b]),(37,[slT true 1 uR x.2.2])]⟩) (fun x=>x.2.1≤b.length∧b.length≤x.1 + x.2.1∧x.2.2.length≤4 * x.2.1∧decGo cs b x.1 x.2.1 x.2.2=D) (fun x=>b.length - x.2.1) (b.length,0,[]) ?_ ⟨Nat.zero_le _,Nat.le_refl _,Nat.zero_le _,hD⟩ ?_
  ·simp -implicitDefEqProofs (maxSteps:=1000000) only [go_sem]
   try rfl
  ·rintro ⟨fu,i,out⟩ ⟨hi,hf,ho,hd⟩
   simp only at hi hf ho hd
   cases q:decide ((i:Int) < (b.length:Int))
   ·have hq:¬ (i:Int) < (b.length:Int):=by simpa using q
    rw [dec_end hq] at hd
    subst hd
    refine G1 q ?_
    refine ⟨areBytes_uR out,?_⟩
    rw [bytesOf_uD]
    try rfl
   ·have hq:(i:Int) < (b.length:Int):=by simpa using q
    obtain ⟨f,rfl⟩:∃ f,fu=f + 1:=⟨fu - 1,by omega⟩
    have hs:=c_s_l5Get cs b i (by omega) ⟨by omega,hq⟩
    cases g2:(signIn cs b i).2.2
    ·rw [dec_bad hq g2] at hd
     subst hd
     refine G1 q ?_
     exact D1 (hs) g2
    ·rw [dec_step hq g2] at hd
     have hn:=signIn_next ⟨by omega,hq⟩ g2
     generalize signIn cs b i=r at hs g2 hd hn
     obtain ⟨n,nx,ok⟩:=r
     simp only at hs g2 hd hn
     subst g2
     obtain ⟨j,rfl⟩:∃ j:Nat,nx=j:=⟨nx.toNat,by omega⟩
     have hl:=putSign_len out n
     refine G1 q ?_
     refine C0 (hs) ?_
     refine C0 (c_s_PutSign out n (by omega)) ?_
     exact ⟨(f,j,putSign out n),rfl,⟨by simp only; omega,by simp only; omega,by simp only; omega,hd⟩,by simp only; omega⟩
def x_l_markText:FnX:=⟨20,[.tmp 2],
  .q [.op 2 (.mv (.k (.one (.pv (.string ⟨#[]⟩)))))]
 (.seq (.q [.m 4 0,.B 5 .leq 4 0]
 (.c 5 (.q [.op 2 (.mv (.k (.one (.pv (.string ⟨#[109,48]⟩)))))]
 .ret)))
 (.q [.op 3 (.mv (.k (.one (.pv (.string ⟨#[]⟩)))))]
 (.seq (.block 0 (.loop [0,3] (.seq (.q [.m 6 0,.B 7 .gtr 6 0]
 (.cond 7 .skip (.exit 0)))
 (.block 1 (.q [.m 8 0,.B 9 .rem 8 10,.op 10 (.bin .add (.i 48) (.t 9)),.op 11 (.conv (.int .u8) (.t 10)),.op 12 (.bslice 1 [(.t 11)]),.op 13 (.conv .b2s (.t 12)),.m 14 3,.b 15 .add 13 14,.m 3 15]
 (.reg [.m 16 0,.B 17 .quo 16 10,.m 0 17]))))))
 (.norm [3] (.q [.m 18 3,.op 19 (.bin .add (.k (.one (.pv (.string ⟨#[109]⟩)))) (.t 18)),.m 2 19]
 .ret)))))⟩
theorem r_l_markText {Te:TE}:C_l_markText (RF Te x_l_markText):=by
 intro k hk
 refine run0 ?_
 simp -implicitDefEqProofs (maxSteps:=1000000) only [x_l_markText,go_sem]
 refine ⟨fun h=>?_,fun h=>?_⟩
 ·simp only [decide_eq_true_eq] at h
  simp only [mkS,if_pos h]
 ·simp only [decide_eq_false_iff_not] at h
  refine loop_of (σ:=Nat×ByteArray) (fun x=>⟨[(0,.one (.pv (.int .i64 x.1))),(3,.one (.pv (.string x.2)))],[],[(0,[iT k])]⟩) (fun x=>x.2.size≤15∧x.1 * 10 ^ x.2.size≤2 ^ 48∧digs k.toNat ⟨#[]⟩=digs x.1 x.2) (fun x=>x.1) (k.toNat,⟨#[]⟩) ?_ ?_ ?_
  ·simp -implicitDefEqProofs (maxSteps:=1000000) only [go_sem]
   rw [Int.toNat_of_nonneg hk.1]
  ·exact ⟨by simp [ByteArray.size],by simp [ByteArray.size]; omega,rfl⟩
  ·rintro ⟨j,s⟩ ⟨h1,h2,h3⟩
   simp only at h1 h2 h3
   simp -implicitDefEqProofs (maxSteps:=1000000) only [go_sem]
   have hj:j≤2 ^ 48:=Nat.le_trans (Nat.le_mul_of_pos_right j (Nat.pow_pos (by decide))) h2
   refine ⟨fun h0=>?_,fun h0=>?_⟩
   ·have h0':0 < j:=by simp only [decide_eq_true_eq] at h0; omega
    have hs:s.size≤14:=by
     by_cases h15:s.size≤14
     ·exact h15
     ·have e1:=Nat.pow_le_pow_right (n:=10) (by decide) (show 15≤s.size by omega)
      have e2:=Nat.le_mul_of_pos_left (10 ^ s.size) h0'
      omega
    have em:(j:Int).tmod 10=((j % 10:Nat):Int):=by rw [Int.tmod_eq_emod_of_nonneg (by omega)]; rfl
    have ed:(j:Int).tdiv 10=((j / 10:Nat):Int):=by rw [Int.tdiv_eq_ediv_of_nonneg (by omega)]; rfl
    have hlt:j % 10 < 10:=Nat.mod_lt _ (by decide)
    rw [em,ed,IntWalk.i64_in _ (by omega),IntWalk.i64_in _ (by omega),IntWalk.u8_in _ (by omega)]
    refine ⟨rfl,?_⟩
    have e5:bytesOf [[(Tr.pv (Value.int IntKind.u8 (48 + ((j % 10:Nat):Int))):T)]]=[UInt8.ofNat (48 + j % 10)]:=by
     simp only [bytesOf,List.map_cons,List.map_nil,List.headD_cons,byteOf]
     rw [show (48 + ((j % 10:Nat):Int)).toNat=48 + j % 10 by omega]
    rw [e5,show decide ([UInt8.ofNat (48 + j % 10)].toArray.size + s.size≤4294967296)=true by simp; omega]
    simp only [cond_true,onSome]
    have esz:((⟨[UInt8.ofNat (48 + j % 10)].toArray⟩:ByteArray)++s).size=s.size + 1:=by rw [ByteArray.size_append]; show 1 + s.size=s.size + 1; omega
    refine ⟨(j / 10,⟨[UInt8.ofNat (48 + j % 10)].toArray⟩++s),rfl,⟨by simp only [esz]; omega,?_,?_⟩,Nat.div_lt_self h0' (by decide)⟩
    ·simp only [esz]
     have e6:j / 10 * 10 ^ (s.size + 1)=(j / 10 * 10) * 10 ^ s.size:=by rw [Nat.pow_succ,Nat.mul_assoc,Nat.mul_comm 10]
     rw [e6]
     exact Nat.le_trans (Nat.mul_le_mul_right _ (by omega)) h2
    ·rw [h3,digs,dif_neg (by omega)]
   ·have h0':j=0:=by simp only [decide_eq_false_iff_not] at h0; omega
    subst h0'
    rw [show decide (#[(109:UInt8)].size + s.size≤4294967296)=true by simp; omega]
    simp only [cond_true,onSome]
    have e0:digs 0 s=s:=by rw [digs,dif_pos rfl]
    rw [e0] at h3
    simp only [mkS,if_neg h,h3]
end Go.X

