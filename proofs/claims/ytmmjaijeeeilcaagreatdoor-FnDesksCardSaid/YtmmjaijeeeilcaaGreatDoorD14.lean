/- Texts: CW_FnDesks. -/
import Derived.Test.YtmmjaijeeeilcaaGreatDoorD04
set_option linter.unusedVariables false
set_option linter.unusedSimpArgs false
namespace Go.X
set_option maxRecDepth 100000
set_option maxHeartbeats 8000000
def x_Ci:FnX:=⟨145,[.tmp 2],
  .q [.F 2]
 (.seq (.q [.m 17 0,.c 18 9 [17]]
 (.c 18 (.q [.T 2]
 .ret)))
 (.q [.m 20 0,.c 21 10 [20],.m 19 21,.e 22 19 0,.e 23 19 1,.op 3 (.alloc [.nils 1,.nils 2,.i 0,.F,.nils 7,.i 0,.nils 3,.i 0,.i 0,.i 0]),.op 4 (.alloc [.i 0,.i 0,.i 0,.i 0,.e,.e,.i 0,.i 0]),.s 100001 10 3 22,.s 100002 8 4 23]
 (.q [.L 25 10 3,.L 26 8 4,.c 27 11 [25,26],.m 24 27,.e 28 24 0,.e 29 24 1,.e 30 24 2,.op 5 (.alloc [.nils 1,.nils 2,.i 0,.F,.nils 7,.i 0,.nils 3,.i 0,.i 0,.i 0]),.s 100003 10 5 28,.m 6 29,.m 7 30]
 (.q [.L 32 10 3,.L 33 8 4,.c 34 12 [32,33],.m 31 34,.e 35 31 0,.e 36 31 1,.e 37 31 2,.op 8 (.alloc [.nils 1,.nils 2,.i 0,.F,.nils 7,.i 0,.nils 3,.i 0,.i 0,.i 0]),.s 100004 10 8 35,.m 9 36,.m 10 37]
 (.q [.m 39 0,.c 40 13 [39],.m 38 40,.e 41 38 0,.e 42 38 1,.op 11 (.alloc [.nils 1,.nils 2,.i 0,.F,.nils 7,.i 0,.nils 3,.i 0,.i 0,.i 0]),.op 12 (.alloc [.i 0,.i 0,.i 0,.i 0,.e,.e,.i 0,.i 0]),.s 100005 10 11 41,.s 100006 8 12 42]
 (.seq (.seq (.draw [.L 43 10 5,.L 44 10 8,.c 45 14 [43,44],.N 46 45,.m 47 46,.z 47 (.m 48 6),.z 47 (.m 49 9),.z 47 (.c 50 15 [48,49]),.z 47 (.N 51 50),.r 52 47 51,.m 53 52,.z 53 (.m 54 7),.z 53 (.m 55 10),.z 53 (.c 56 16 [54,55]),.z 53 (.N 57 56),.r 58 53 57,.m 59 58,.z 59 (.L 60 10 11),.z 59 (.L 61 8 12),.z 59 (.c 62 17 [60,61]),.z 59 (.L 63 10 11),.z 59 (.L 64 8 12),.z 59 (.c 65 18 [63,64]),.z 59 (.c 66 16 [62,65]),.z 59 (.N 67 66),.r 68 59 67,.m 69 68,.z 69 (.m 70 6),.z 69 (.n 71 70),.z 69 (.B 72 .gtr 71 1),.r 73 69 72,.m 74 73,.z 74 (.m 75 7),.z 74 (.n 76 75),.z 74 (.B 77 .gtr 76 1),.r 78 74 77] [[],[],[0,1],[2],[3,2],[4],[4],[5,6,4,4],[7,4],[4,8],[9,7],[10],[10],[11,12,10,10],[13,10],[10,14],[15,13],[16],[16],[17,18,16,16],[16],[16],[20,21,19,16],[19,22,22,16],[23,16],[16,24],[25,23],[26],[27,26],[28,26],[26,29],[30,26],[31],[32,31],[33,31],[31,34]])
 (.c 78 (.q [.F 2]
 .ret)))
 (.seq (.q [.i 13 0]
 (.block 0 (.loop [4,5,6,7,13] (.seq (.q [.m 79 13,.m 80 6,.n 81 80,.b 82 .lss 79 81]
 (.cond 82 .skip (.exit 0)))
 (.seq (.block 1 (.seq (.draw [.m 85 6,.m 86 13,.x 87 8 85 86,.f 88 87 1,.l 89 88,.f 90 4 2,.l 91 90,.b 92 .neq 89 91,.m 93 92,.z 93 (.m 94 6),.z 93 (.m 95 13),.z 93 (.x 96 8 94 95),.z 93 (.f 97 96 2),.z 93 (.l 98 97),.z 93 (.f 99 4 1),.z 93 (.l 100 99),.z 93 (.b 101 .neq 98 100),.r 102 93 101,.m 103 102,.z 103 (.m 104 6),.z 103 (.m 105 13),.z 103 (.x 106 8 104 105),.z 103 (.f 107 106 3),.z 103 (.l 108 107),.z 103 (.f 109 4 3),.z 103 (.l 110 109),.z 103 (.b 111 .neq 108 110),.r 112 103 111] [[],[],[0,1],[2],[3],[],[5],[4,6],[7],[8],[8],[9,10,8],[11,8],[12,8],[8],[14,8],[13,15,8],[8,16],[17,8],[18],[18],[19,20,18],[21,18],[22,18],[18],[24,18],[23,25,18],[18,26]])
 (.c 112 (.q [.F 2]
 .ret))))
 (.reg [.m 83 13,.B 84 .add 83 1,.m 13 84]))))))
 (.norm [4,5,6,7] (.q [.L 114 10 5,.L 115 8 4,.c 116 11 [114,115],.m 113 116,.e 117 113 0,.e 118 113 1,.e 119 113 2,.op 14 (.alloc [.nils 1,.nils 2,.i 0,.F,.nils 7,.i 0,.nils 3,.i 0,.i 0,.i 0]),.s 100007 10 14 117,.m 15 118,.m 16 119]
 (.seq (.q [.m 120 7,.n 121 120,.B 122 .eql 121 1]
 (.c 122 (.seq (.draw [.m 123 16,.n 124 123,.B 125 .eql 124 0,.m 126 125,.y 126 (.m 127 15),.y 126 (.n 128 127),.y 126 (.B 129 .eql 128 1),.a 130 126 129,.m 131 130,.y 131 (.m 132 15),.y 131 (.op 133 (.iaddr 8 (.t 132) (.i 0))),.y 131 (.L 134 8 133),.y 131 (.m 135 6),.y 131 (.op 136 (.iaddr 8 (.t 135) (.i 0))),.y 131 (.L 137 8 136),.y 131 (.op 138 (.eqs false [0,0,0,0,2,2,0,0] (.t 134) (.t 137))),.a 139 131 138,.m 140 139,.y 140 (.L 141 10 14),.y 140 (.L 142 10 5),.y 140 (.c 143 14 [141,142]),.a 144 140 143,.m 2 144] [[],[0],[1],[2],[3],[4,3],[5,3],[3,6],[7,3],[8],[9,8],[10,8],[8],[12,8],[13,8],[11,14,8],[8,15],[16,8],[17],[17],[18,19,17,17],[17,20],[21,20,0,1,2,3,4,5,6,7,8,9,10,11,12,13,14,15,16,17,18,19,20,21]])
 .ret)))
 (.q [.T 2]
 .ret)))))))))))⟩
theorem r_Ci {Te:TE} (c_Cj:C_Cj Te) (c_D3:C_D3 Te) (c_Aa:C_Aa Te) (c_D0:C_D0 Te) (c_D4:C_D4 Te) (c_Co:C_Co Te) (c_Cn:C_Cn Te) (c_Ck:C_Ck Te) (c_Ak:C_Ak Te) (c_Dc:C_Dc Te):C_Ci (RF Te x_Ci):=by
 intro code h
 refine X0 x_Ci.eq_1 ?_
 refine C0 (c_Cj _) ?_
 refine fun q=>?_
 have hc:code.length≤2 ^ 31:=by simp only [decide_eq_false_iff_not] at q; omega
 refine G0 ?_
 obtain ⟨n,m,⟨hn,hm⟩,ht⟩:=c_D3 code hc
 have hmI:m.In (2 ^ 20):=msgS_In hm
 have hX:=desk_in (m:=m) hn
 have ti:=c_Aa n m hn hmI
 have ts:=c_D0 n m hn hmI
 obtain ⟨d1,d2,d3,d4⟩:=desk_law n m
 generalize n.desk m=r at d1 d2 d3 d4 hX ti ts
 obtain ⟨x,L,A⟩:=r
 simp only at d1 d2 d3 d4 hX ti ts
 refine C0 (ht) ?_
 refine C0 (ti) ?_
 refine C0 (ts) ?_
 obtain ⟨p,u,⟨⟨hp,hf⟩,hu⟩,ht⟩:=c_D4 code hc
 have huI:u.In (2 ^ 20):=msgS_In hu
 have tI:=c_Ak p u hp huI
 rw [may_same (m:=u) hf] at tI
 have tS:=c_Dc p u hp huI
 have hlen:=mayS_len p u
 generalize p.mayS u=Y at tI tS hlen
 have eL:decide (L=L)=true:=decide_eq_true rfl
 have g1:decide ((L.length:Int) > 1)=false:=decide_eq_false (by omega)
 have g2:decide ((A.length:Int) > 1)=false:=decide_eq_false (by omega)
 refine C0 (ht) ?_
 refine C0 (c_Co x (hX.len (by decide))) ?_
 refine C1 (c_Cn L L (by omega)) eL ?_
 refine C0 (c_Ck A (by omega)) ?_
 refine C0 (tI) ?_
 refine C0 (tS) ?_
 refine C2 (c_Ck Y (by omega)) g1 g2 ?_
 refine loop_of (σ:=Nat) (fun i=>⟨[(4,.bp 4 0),(5,.bp 5 0),(6,.one (.rf 146 10 [] 8 0 L.length)),(7,.one (.rf 146 11 [] 6 0 A.length)),(13,.one (.pv (.int .i64 i)))],[(4,[.pv (.int .i64 m.Kind),.pv (.int .i64 m.From),.pv (.int .i64 m.To),.pv (.int .i64 m.Seq),.pv (.string m.Key),.pv (.string m.Text),.pv (.int .i64 m.N),.pv (.int .i64 m.Code)]),(5,[.rf 146 0 [] 1 0 x.S.D.Secs.length,.rf 146 1 [] 2 0 x.S.D.Cache.length,.pv (.int .i64 x.S.D.Fuse),.pv (.bool x.S.D.Down),.rf 146 4 [] 7 0 x.S.T.Rows.length,.pv (.int .i64 x.S.T.Phase),.rf 146 6 [] 3 0 x.S.T.Marks.length,.pv (.int .i64 x.S.Gen),.pv (.int .i64 x.S.Place),.pv (.int .i64 x.Cs)])],[(0,[slT false 1 uR code]),(146,NodeV.enc true x++[slT true 8 Msg.row L,slT true 6 ActV.row A])]⟩) (fun i=>i≤L.length) (fun i=>L.length - i) 0 ?_ (Nat.zero_le _) ?_
 ·simp -implicitDefEqProofs (maxSteps:=1000000) only [go_sem]
  try rfl
 ·rintro i hi
  cases q:decide ((i:Int) < (L.length:Int))
  ·have tz:=c_Aa x m hX hmI
   by_cases hA:A=[]
   ·have eA:((A.length:Int)==1)=false:=by rw [hA]; rfl
    refine G1 q ?_
    exact D1 (tz) eA
   ·obtain ⟨e1,e2⟩:=d4 hA
    simp only [e1] at tz
    have l1:=List.length_pos_iff.2 hA
    have l2:=List.length_pos_iff.2 e2
    have eA:((A.length:Int)==1)=true:=by rw [beq_iff_eq]; omega
    have e5:((L.length:Int)==1)=true:=by rw [beq_iff_eq]; omega
    have e0:(((0:Nat):Int)==0)=true:=rfl
    obtain ⟨z,hz⟩:∃ z,L=[z]:=by
     match L,l2,d1 with
     | [z],_,_=>exact ⟨z,rfl⟩
     | _::_::_,_,h=>exact absurd h (by simp only [List.length_cons]; omega)
    have k6:(List.map Msg.row L).getD 0 []=Msg.row z:=by rw [hz]; rfl
    have xT:(true != false)=true:=rfl
    refine G1 q ?_
    refine .of (tz) ?_
    try simp -implicitDefEqProofs (maxSteps:=1000000) only [go_sem,eA,e0,e5,k6,msg_self,xT]
    repeat refine ⟨sc,?_⟩
    try exact sf
    exact D0 (c_Co x (hX.len (by decide)))
  ·have k1:i < L.length:=by simp only [decide_eq_true_eq] at q; omega
   have k2:=List.getElem?_eq_getElem k1
   obtain ⟨f1,f2,f3⟩:=d3 _ (List.getElem_mem k1)
   have w5:IntKind.i64.wrap ((i:Int) + 1)=((i + 1:Nat):Int):=by rw [IntWalk.i64_in _ (by omega)]; rfl
   generalize L[i]=z at k2 f1 f2 f3
   have k6:(List.map Msg.row L).getD i []=Msg.row z:=by rw [List.getD_eq_getElem?_getD,List.getElem?_map,k2]; rfl
   have f1:(z.From != m.To)=false:=by rw [f1]; exact bne_self_eq_false _
   have f2:(z.To != m.From)=false:=by rw [f2]; exact bne_self_eq_false _
   have f3:(z.Seq != m.Seq)=false:=by rw [f3]; exact bne_self_eq_false _
   try simp -implicitDefEqProofs (maxSteps:=1000000) only [go_sem,q,k6,f1,f2,f3,w5]
   repeat refine ⟨sc,?_⟩
   try exact sf
   exact ⟨i + 1,rfl,k1,by omega⟩
end Go.X

