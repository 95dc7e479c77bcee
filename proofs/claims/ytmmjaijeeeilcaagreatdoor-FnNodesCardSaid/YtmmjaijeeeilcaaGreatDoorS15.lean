/- Texts: CW_FnSteps. -/
import Derived.Test.YtmmjaijeeeilcaaGreatDoorS04
set_option linter.unusedVariables false
set_option linter.unusedSimpArgs false
namespace Go.X
set_option maxRecDepth 100000
set_option maxHeartbeats 8000000
def x_l_FnSteps:FnX:=⟨166,[.tmp 2],
  .q [.F 2]
 (.seq (.q [.m 20 0,.c 21 9 [20]]
 (.c 21 (.q [.T 2]
 .ret)))
 (.q [.m 22 0,.c 23 19 [22],.op 3 (.alloc [.nils 1,.nils 2,.i 0,.F,.nils 7,.i 0,.nils 3,.i 0,.i 0,.i 0]),.s 100001 10 3 23]
 (.q [.op 4 (.mv (.k (.one (.pv (.string ⟨#[]⟩)))))]
 (.q [.L 24 10 3,.op 5 (.alloc [.nils 1,.nils 2,.i 0,.F,.nils 7,.i 0,.nils 3,.i 0,.i 0,.i 0]),.s 100002 10 5 24]
 (.q [.F 6]
 (.seq (.q [.i 7 0]
 (.block 0 (.loop [3,4,5,6,7] (.seq (.q [.m 25 7,.B 26 .lss 25 6,.m 27 26,.y 27 (.m 28 6),.y 27 (.N 29 28),.a 30 27 29]
 (.cond 30 .skip (.exit 0)))
 (.seq (.block 1 (.q [.L 34 10 5,.m 35 4,.c 36 20 [34,35],.m 33 36,.e 37 33 0,.e 38 33 1,.e 39 33 2,.e 40 33 3,.op 8 (.alloc [.nils 1,.nils 2,.i 0,.F,.nils 7,.i 0,.nils 3,.i 0,.i 0,.i 0]),.s 100003 10 8 37,.m 9 38,.m 10 39,.m 11 40]
 (.seq (.q [.m 41 11,.f 42 3 0,.f 43 42 4,.f 44 43 1,.l 45 44,.c 46 21 [45],.op 47 (.beq true (.t 41) (.t 46))]
 (.c 47 (.q [.F 2]
 .ret)))
 (.seq (.q [.m 48 11,.N 49 48]
 (.c 49 (.q [.L 50 10 8,.L 51 10 3,.c 52 14 [50,51],.m 2 52]
 .ret)))
 (.seq (.q [.i 12 0]
 (.block 2 (.loop [3,5,7,8,9,10,12] (.seq (.q [.m 53 12,.f 54 3 0,.f 55 54 4,.f 56 55 0,.l 57 56,.n 58 57,.b 59 .lss 53 58]
 (.cond 59 .skip (.exit 2)))
 (.seq (.block 3 (.seq (.draw [.L 63 10 3,.f 64 3 0,.f 65 64 4,.f 66 65 0,.l 67 66,.m 68 12,.x 69 7 67 68,.f 70 69 0,.l 71 70,.c 72 22 [63,71],.m 62 72,.e 73 62 0,.e 74 62 1,.m 13 73,.m 14 74] [[],[],[1],[2],[3],[],[4,5],[6],[7],[0,8],[9],[10],[10],[11,9,0,1,2,3,4,5,6,7,8,9,10,11],[12,13,0,1,2,3,4,5,6,7,8,9,10,11,12,13]])
 (.seq (.draw [.L 76 10 8,.f 77 3 0,.f 78 77 4,.f 79 78 0,.l 80 79,.m 81 12,.x 82 7 80 81,.f 83 82 0,.l 84 83,.c 85 22 [76,84],.m 75 85,.e 86 75 0,.e 87 75 1,.m 15 86,.m 16 87] [[],[],[1],[2],[3],[],[4,5],[6],[7],[0,8],[9],[10],[10],[11,9,0,1,2,3,4,5,6,7,8,9,10,11],[12,13,0,1,2,3,4,5,6,7,8,9,10,11,12,13]])
 (.q [.m 88 13,.m 89 15,.b 90 .neq 88 89,.m 91 90,.z 91 (.m 92 14),.z 91 (.m 93 16),.z 91 (.b 94 .neq 92 93),.r 95 91 94]
 (.c 95 (.q [.F 2]
 .ret))))))
 (.reg [.m 60 12,.B 61 .add 60 1,.m 12 61]))))))
 (.norm [3,5,7,8,9,10] (.q [.m 96 10,.B 97 .eql 96 1,.m 6 97]
 (.q [.m 98 9,.m 4 98]
 (.reg [.L 99 10 8,.s 100004 10 5 99])))))))))
 (.norm [3,4,5,6,7] (.reg [.m 31 7,.B 32 .add 31 1,.m 7 32])))))))
 (.norm [3,5,6] (.seq (.q [.i 17 0]
 (.block 4 (.loop [3,5,6,17] (.seq (.q [.m 100 17,.f 101 5 0,.f 102 101 4,.f 103 102 0,.l 104 103,.n 105 104,.b 106 .lss 100 105]
 (.cond 106 .skip (.exit 4)))
 (.seq (.block 5 (.q [.f 109 5 0,.f 110 109 4,.f 111 110 0,.l 112 111,.m 113 17,.x 114 7 112 113,.L 115 7 114,.op 18 (.alloc [.e,.i 0,.nils 1,.i 0,.nils 1,.i 0,.F]),.s 100005 7 18 115]
 (.q [.f 116 18 5,.l 117 116,.B 118 .and 117 2,.B 119 .eql 118 2,.m 19 119]
 (.seq (.q [.f 120 3 0,.f 121 120 4,.f 122 121 1,.l 123 122,.B 124 .eql 123 4]
 (.c 124 (.reg [.f 125 18 5,.l 126 125,.B 127 .eql 126 2,.m 128 127,.z 128 (.f 129 18 5),.z 128 (.l 130 129),.z 128 (.B 131 .eql 130 1),.r 132 128 131,.m 19 132])))
 (.seq (.q [.f 133 3 0,.f 134 133 4,.f 135 134 1,.l 136 135,.B 137 .eql 136 6]
 (.c 137 (.reg [.f 138 18 5,.l 139 138,.B 140 .eql 139 1,.m 19 140])))
 (.q [.m 141 19,.N 142 141,.m 143 142,.y 143 (.f 144 18 6),.y 143 (.l 145 144),.y 143 (.N 146 145),.a 147 143 146]
 (.c 147 (.q [.F 2]
 .ret))))))))
 (.reg [.m 107 17,.B 108 .add 107 1,.m 17 108]))))))
 (.norm [3,5,6] (.q [.m 148 6,.m 149 148,.y 149 (.L 150 10 5),.y 149 (.c 151 23 [150]),.a 152 149 151,.m 153 152,.y 153 (.f 154 5 0),.y 153 (.f 155 154 4),.y 153 (.f 156 155 0),.y 153 (.l 157 156),.y 153 (.n 158 157),.y 153 (.f 159 3 0),.y 153 (.f 160 159 4),.y 153 (.f 161 160 0),.y 153 (.l 162 161),.y 153 (.n 163 162),.y 153 (.b 164 .eql 158 163),.a 165 153 164,.m 2 165]
 .ret))))))))))⟩
theorem r_l_FnSteps {Te:TE} (c_l_big:C_l_big Te) (c_s_DrawNode:C_s_DrawNode Te) (c_i_NodeStep:C_i_NodeStep Te) (c_i_Walks:C_i_Walks Te) (c_l_sameNode:C_l_sameNode Te) (c_i_NodeGet:C_i_NodeGet Te) (c_i_NodeOk:C_i_NodeOk Te):C_l_FnSteps (RF Te x_l_FnSteps):=by
 intro code h
 have nI:∀ z:Int,(z != z)=false:=fun z=>bne_self_eq_false z
 have eD:∀ z:ByteArray,decide (z=z)=true:=fun z=>decide_eq_true rfl
 have xB:(true != true)=false:=rfl
 refine X0 x_l_FnSteps.eq_1 ?_
 refine C0 (c_l_big _) ?_
 refine fun q=>?_
 have hc:code.length≤2 ^ 31:=by simp only [decide_eq_false_iff_not] at q; omega
 refine G0 ?_
 obtain ⟨n,hn,ht⟩:=c_s_DrawNode code hc
 have hN:=up_in hn.1
 have hR:n.S.T.Rows.length≤2 ^ 20:=hN.2.1.1
 refine C0 (ht) ?_
 refine loop_of (σ:=NodeV×ByteArray×Bool×Bool×Nat×List Go.X.T) (fun z=>cond z.2.2.2.1 ⟨[(3,.bp 3 0),(4,.one (.pv (.string ⟨#[]⟩))),(5,.bp 5 0),(6,.one (.pv (.bool false))),(7,.one (.pv (.int .i64 0)))],[(3,[.rf 167 0 [] 1 0 n.S.D.Secs.length,.rf 167 1 [] 2 0 n.S.D.Cache.length,.pv (.int .i64 n.S.D.Fuse),.pv (.bool n.S.D.Down),.rf 167 4 [] 7 0 n.S.T.Rows.length,.pv (.int .i64 n.S.T.Phase),.rf 167 6 [] 3 0 n.S.T.Marks.length,.pv (.int .i64 n.S.Gen),.pv (.int .i64 n.S.Place),.pv (.int .i64 n.Cs)]),(5,[.rf 167 0 [] 1 0 n.S.D.Secs.length,.rf 167 1 [] 2 0 n.S.D.Cache.length,.pv (.int .i64 n.S.D.Fuse),.pv (.bool n.S.D.Down),.rf 167 4 [] 7 0 n.S.T.Rows.length,.pv (.int .i64 n.S.T.Phase),.rf 167 6 [] 3 0 n.S.T.Marks.length,.pv (.int .i64 n.S.Gen),.pv (.int .i64 n.S.Place),.pv (.int .i64 n.Cs)])],[(0,[slT false 1 uR code]),(167,n.enc true)]⟩ ⟨[(3,.bp 3 0),(4,.one (.pv (.string z.2.1))),(5,.bp 5 0),(6,.one (.pv (.bool z.2.2.1))),(7,.one (.pv (.int .i64 z.2.2.2.2.1)))],[(3,[.rf 167 0 [] 1 0 n.S.D.Secs.length,.rf 167 1 [] 2 0 n.S.D.Cache.length,.pv (.int .i64 n.S.D.Fuse),.pv (.bool n.S.D.Down),.rf 167 4 [] 7 0 n.S.T.Rows.length,.pv (.int .i64 n.S.T.Phase),.rf 167 6 [] 3 0 n.S.T.Marks.length,.pv (.int .i64 n.S.Gen),.pv (.int .i64 n.S.Place),.pv (.int .i64 n.Cs)]),(5,[.rf 168 0 [] 1 0 z.1.S.D.Secs.length,.rf 168 1 [] 2 0 z.1.S.D.Cache.length,.pv (.int .i64 z.1.S.D.Fuse),.pv (.bool z.1.S.D.Down),.rf 168 4 [] 7 0 z.1.S.T.Rows.length,.pv (.int .i64 z.1.S.T.Phase),.rf 168 6 [] 3 0 z.1.S.T.Marks.length,.pv (.int .i64 z.1.S.Gen),.pv (.int .i64 z.1.S.Place),.pv (.int .i64 z.1.Cs)])],[(0,[slT false 1 uR code]),(167,n.enc true),(168,NodeV.enc true z.1++z.2.2.2.2.2)]⟩) (fun z=>(z.2.2.2.1=true→z.2.2.2.2.1=0)∧(z.2.2.2.1=false→walks n.S.T.Phase=true)∧(z.2.2.2.1=false→z.2.2.1=false→stepAt n z.1 z.2.1 z.2.2.2.2.1)∧(z.2.2.2.1=false→z.2.2.1=true→stepEnd n z.1)∧(z.2.2.2.1=false→z.2.2.2.2.1≤5)) (fun z=>6 - z.2.2.2.2.1) (n,⟨#[]⟩,false,true,0,[]) ?_ ⟨fun _=>rfl,fun z=>Bool.noConfusion z,fun z=>Bool.noConfusion z,fun z=>Bool.noConfusion z,fun z=>Bool.noConfusion z⟩ ?_
 ·simp -implicitDefEqProofs (maxSteps:=1000000) only [go_sem]
  try rfl
 ·rintro ⟨x,f,en,fr,i,E⟩ ⟨v0,v1,v2,v3,v4⟩
  simp only at v0 v1 v2 v3 v4
  cases fr
  rotate_left
  ·have hi:=v0 rfl
   subst hi
   cases hw:walks n.S.T.Phase
   ·have t:=c_i_NodeStep n ⟨#[]⟩ hN
    have e:n.step ⟨#[]⟩=(n,⟨#[]⟩,0,false):=by rw [NodeV.step,hw,Bool.and_false]; rfl
    simp only [e] at t
    have xF:(true != false)=true:=rfl
    have xG:(false==false)=true:=rfl
    refine G0 ?_
    refine C0 (t) ?_
    refine C4 (c_i_Walks n.S.T.Phase) hw xB xF xG ?_
    exact D0 (c_l_sameNode n (hN.len (by decide)))
   ·have hAt:=step_start hn
    have w2:IntKind.i64.wrap (0 + 1)=1:=rfl
    have hX:=up_in hAt.1.1
    have t:=c_i_NodeStep n ⟨#[]⟩ hX
    have S:=step_go hn hw hAt
    generalize n.step ⟨#[]⟩=r at t S
    obtain ⟨y,nx,la,ok⟩:=r
    obtain ⟨s1,s2,s3,s4⟩:=S
    simp only at s1 s2 s3 s4 t
    subst s1
    refine G0 ?_
    refine C0 (t) ?_
    refine C2 (c_i_Walks n.S.T.Phase) hw xB ?_
    refine loop_of (σ:=Nat) (fun k=>⟨[(3,.bp 3 0),(5,.bp 5 0),(7,.one (.pv (.int .i64 0))),(8,.bp 8 0),(9,.one (.pv (.string nx))),(10,.one (.pv (.int .i64 la))),(12,.one (.pv (.int .i64 k)))],[(3,[.rf 167 0 [] 1 0 n.S.D.Secs.length,.rf 167 1 [] 2 0 n.S.D.Cache.length,.pv (.int .i64 n.S.D.Fuse),.pv (.bool n.S.D.Down),.rf 167 4 [] 7 0 n.S.T.Rows.length,.pv (.int .i64 n.S.T.Phase),.rf 167 6 [] 3 0 n.S.T.Marks.length,.pv (.int .i64 n.S.Gen),.pv (.int .i64 n.S.Place),.pv (.int .i64 n.Cs)]),(5,[.rf 167 0 [] 1 0 n.S.D.Secs.length,.rf 167 1 [] 2 0 n.S.D.Cache.length,.pv (.int .i64 n.S.D.Fuse),.pv (.bool n.S.D.Down),.rf 167 4 [] 7 0 n.S.T.Rows.length,.pv (.int .i64 n.S.T.Phase),.rf 167 6 [] 3 0 n.S.T.Marks.length,.pv (.int .i64 n.S.Gen),.pv (.int .i64 n.S.Place),.pv (.int .i64 n.Cs)]),(8,[.rf 168 0 [] 1 0 y.S.D.Secs.length,.rf 168 1 [] 2 0 y.S.D.Cache.length,.pv (.int .i64 y.S.D.Fuse),.pv (.bool y.S.D.Down),.rf 168 4 [] 7 0 y.S.T.Rows.length,.pv (.int .i64 y.S.T.Phase),.rf 168 6 [] 3 0 y.S.T.Marks.length,.pv (.int .i64 y.S.Gen),.pv (.int .i64 y.S.Place),.pv (.int .i64 y.Cs)])],[(0,[slT false 1 uR code]),(167,n.enc true),(168,NodeV.enc true y++[sT nx,iT la,bT true])]⟩) (fun k=>k≤n.S.T.Rows.length) (fun k=>n.S.T.Rows.length - k) 0 ?_ (Nat.zero_le _) ?_
    ·simp -implicitDefEqProofs (maxSteps:=1000000) only [go_sem]
     try rfl
    ·rintro k hk
     cases q2:decide ((k:Int) < (n.S.T.Rows.length:Int))
     ·rcases s3 with ⟨rfl,h3⟩ | ⟨rfl,h3⟩
      ·refine G2 q2 w2 ?_
       exact ⟨(y,nx,false,false,0 + 1,[sT nx,iT 0,bT true]),rfl,⟨fun z=>Bool.noConfusion z,fun _ _=>h3,fun _ z=>Bool.noConfusion z,fun _=>by simp only; omega⟩,by simp only; omega⟩
      ·refine G2 q2 w2 ?_
       exact ⟨(y,nx,true,false,0 + 1,[sT nx,iT 1,bT true]),rfl,⟨fun z=>Bool.noConfusion z,fun _ z=>Bool.noConfusion z,fun _ _=>h3,fun _=>by simp only; omega⟩,by simp only; omega⟩
     ·have k1:k < n.S.T.Rows.length:=by simp only [decide_eq_true_eq] at q2; omega
      have k2:=List.getElem?_eq_getElem k1
      have w5:IntKind.i64.wrap ((k:Int) + 1)=((k + 1:Nat):Int):=by rw [IntWalk.i64_in _ (by omega)]; rfl
      generalize n.S.T.Rows[k]=r at k2
      have k6:(List.map (RowV.enc true) n.S.T.Rows).getD k []=RowV.enc true r:=by rw [List.getD_eq_getElem?_getD,List.getElem?_map,k2]; rfl
      have tn:=c_i_NodeGet n r.Key (hN.mono (by decide))
      have ty:=c_i_NodeGet y r.Key (s2.mono (by decide))
      rw [← s4 r.Key] at ty
      refine G2 q2 k6 ?_
      refine C1 (tn) k6 ?_
      refine .of (ty) ?_
      try simp -implicitDefEqProofs (maxSteps:=1000000) only [go_sem,k6,bytes_beq,eD,nI,w5]
      repeat refine ⟨sc,?_⟩
      try exact sf
      exact ⟨k + 1,rfl,k1,by omega⟩
  have hw:=v1 rfl
  cases en
  ·have hAt:=v2 rfl rfl
   have hi4:2 * i≤8:=hAt.2.2.2
   have q:decide ((i:Int) < 6)=true:=decide_eq_true (by omega)
   have w2:IntKind.i64.wrap ((i:Int) + 1)=((i + 1:Nat):Int):=by rw [IntWalk.i64_in _ (by omega)]; rfl
   have hX:=up_in hAt.1.1
   have t:=c_i_NodeStep x f hX
   have S:=step_go hn hw hAt
   generalize x.step f=r at t S
   obtain ⟨y,nx,la,ok⟩:=r
   obtain ⟨s1,s2,s3,s4⟩:=S
   simp only at s1 s2 s3 s4 t
   subst s1
   refine G1 q ?_
   refine C0 (t) ?_
   refine C2 (c_i_Walks n.S.T.Phase) hw xB ?_
   refine loop_of (σ:=Nat) (fun k=>⟨[(3,.bp 3 0),(5,.bp 5 0),(7,.one (.pv (.int .i64 i))),(8,.bp 8 0),(9,.one (.pv (.string nx))),(10,.one (.pv (.int .i64 la))),(12,.one (.pv (.int .i64 k)))],[(3,[.rf 167 0 [] 1 0 n.S.D.Secs.length,.rf 167 1 [] 2 0 n.S.D.Cache.length,.pv (.int .i64 n.S.D.Fuse),.pv (.bool n.S.D.Down),.rf 167 4 [] 7 0 n.S.T.Rows.length,.pv (.int .i64 n.S.T.Phase),.rf 167 6 [] 3 0 n.S.T.Marks.length,.pv (.int .i64 n.S.Gen),.pv (.int .i64 n.S.Place),.pv (.int .i64 n.Cs)]),(5,[.rf 168 0 [] 1 0 x.S.D.Secs.length,.rf 168 1 [] 2 0 x.S.D.Cache.length,.pv (.int .i64 x.S.D.Fuse),.pv (.bool x.S.D.Down),.rf 168 4 [] 7 0 x.S.T.Rows.length,.pv (.int .i64 x.S.T.Phase),.rf 168 6 [] 3 0 x.S.T.Marks.length,.pv (.int .i64 x.S.Gen),.pv (.int .i64 x.S.Place),.pv (.int .i64 x.Cs)]),(8,[.rf 169 0 [] 1 0 y.S.D.Secs.length,.rf 169 1 [] 2 0 y.S.D.Cache.length,.pv (.int .i64 y.S.D.Fuse),.pv (.bool y.S.D.Down),.rf 169 4 [] 7 0 y.S.T.Rows.length,.pv (.int .i64 y.S.T.Phase),.rf 169 6 [] 3 0 y.S.T.Marks.length,.pv (.int .i64 y.S.Gen),.pv (.int .i64 y.S.Place),.pv (.int .i64 y.Cs)])],[(0,[slT false 1 uR code]),(167,n.enc true),(168,NodeV.enc true x++E),(169,NodeV.enc true y++[sT nx,iT la,bT true])]⟩) (fun k=>k≤n.S.T.Rows.length) (fun k=>n.S.T.Rows.length - k) 0 ?_ (Nat.zero_le _) ?_
   ·simp -implicitDefEqProofs (maxSteps:=1000000) only [go_sem]
    try rfl
   ·rintro k hk
    cases q2:decide ((k:Int) < (n.S.T.Rows.length:Int))
    ·rcases s3 with ⟨rfl,h3⟩ | ⟨rfl,h3⟩
     ·refine G2 q2 w2 ?_
      exact ⟨(y,nx,false,false,i + 1,[sT nx,iT 0,bT true]),rfl,⟨fun z=>Bool.noConfusion z,fun _ _=>h3,fun _ z=>Bool.noConfusion z,fun _=>by simp only; omega⟩,by simp only; omega⟩
     ·refine G2 q2 w2 ?_
      exact ⟨(y,nx,true,false,i + 1,[sT nx,iT 1,bT true]),rfl,⟨fun z=>Bool.noConfusion z,fun _ z=>Bool.noConfusion z,fun _ _=>h3,fun _=>by simp only; omega⟩,by simp only; omega⟩
    ·have k1:k < n.S.T.Rows.length:=by simp only [decide_eq_true_eq] at q2; omega
     have k2:=List.getElem?_eq_getElem k1
     have w5:IntKind.i64.wrap ((k:Int) + 1)=((k + 1:Nat):Int):=by rw [IntWalk.i64_in _ (by omega)]; rfl
     generalize n.S.T.Rows[k]=r at k2
     have k6:(List.map (RowV.enc true) n.S.T.Rows).getD k []=RowV.enc true r:=by rw [List.getD_eq_getElem?_getD,List.getElem?_map,k2]; rfl
     have tn:=c_i_NodeGet n r.Key (hN.mono (by decide))
     have ty:=c_i_NodeGet y r.Key (s2.mono (by decide))
     rw [← s4 r.Key] at ty
     refine G2 q2 k6 ?_
     refine C1 (tn) k6 ?_
     refine .of (ty) ?_
     try simp -implicitDefEqProofs (maxSteps:=1000000) only [go_sem,k6,bytes_beq,eD,nI,w5]
     repeat refine ⟨sc,?_⟩
     try exact sf
     exact ⟨k + 1,rfl,k1,by omega⟩
  ·have hE:=v3 rfl rfl
   have hr:=end_right hn.1 hw hE
   have hX:=up_in hE.1
   have hxk:x.ok=true:=by have:=hE.1; rw [NodeV.up,Bool.and_eq_true] at this; exact this.1
   have hl:x.S.T.Rows.length=n.S.T.Rows.length:=by rw [hE.2]; exact List.length_map ..
   have xR:x.S.T.Rows.length≤2 ^ 20:=hX.2.1.1
   have eL:((x.S.T.Rows.length:Int)==(n.S.T.Rows.length:Int))=true:=by rw [hl]; exact beq_self_eq_true _
   have q:decide ((i:Int) < 6)=true:=decide_eq_true (by have:=v4 rfl; omega)
   refine G1 q ?_
   refine loop_of (σ:=Nat) (fun k=>⟨[(3,.bp 3 0),(5,.bp 5 0),(6,.one (.pv (.bool true))),(17,.one (.pv (.int .i64 k)))],[(3,[.rf 167 0 [] 1 0 n.S.D.Secs.length,.rf 167 1 [] 2 0 n.S.D.Cache.length,.pv (.int .i64 n.S.D.Fuse),.pv (.bool n.S.D.Down),.rf 167 4 [] 7 0 n.S.T.Rows.length,.pv (.int .i64 n.S.T.Phase),.rf 167 6 [] 3 0 n.S.T.Marks.length,.pv (.int .i64 n.S.Gen),.pv (.int .i64 n.S.Place),.pv (.int .i64 n.Cs)]),(5,[.rf 168 0 [] 1 0 x.S.D.Secs.length,.rf 168 1 [] 2 0 x.S.D.Cache.length,.pv (.int .i64 x.S.D.Fuse),.pv (.bool x.S.D.Down),.rf 168 4 [] 7 0 x.S.T.Rows.length,.pv (.int .i64 x.S.T.Phase),.rf 168 6 [] 3 0 x.S.T.Marks.length,.pv (.int .i64 x.S.Gen),.pv (.int .i64 x.S.Place),.pv (.int .i64 x.Cs)])],[(0,[slT false 1 uR code]),(167,n.enc true),(168,NodeV.enc true x++E)]⟩) (fun k=>k≤x.S.T.Rows.length) (fun k=>x.S.T.Rows.length - k) 0 ?_ (Nat.zero_le _) ?_
   ·simp -implicitDefEqProofs (maxSteps:=1000000) only [go_sem]
    try rfl
   ·rintro k hk
    cases q2:decide ((k:Int) < (x.S.T.Rows.length:Int))
    ·refine G1 q2 ?_
     exact D2 (c_i_NodeOk x (hX.mono (by decide))) hxk eL
    ·have k1:k < x.S.T.Rows.length:=by simp only [decide_eq_true_eq] at q2; omega
     have k2:=List.getElem?_eq_getElem k1
     have hrk:=hr _ (List.getElem_mem k1)
     have w5:IntKind.i64.wrap ((k:Int) + 1)=((k + 1:Nat):Int):=by rw [IntWalk.i64_in _ (by omega)]; rfl
     generalize x.S.T.Rows[k]=r at k2 hrk
     have k6:(List.map (RowV.enc true) x.S.T.Rows).getD k []=RowV.enc true r:=by rw [List.getD_eq_getElem?_getD,List.getElem?_map,k2]; rfl
     unfold rowRight at hrk
     cases g6:n.S.T.Phase==6
     ·cases g4:n.S.T.Phase==4
      ·rw [g6,g4] at hrk
       cases ga:andK .i64 r.Has 2==2
       ·have as:r.Aside=true:=by rw [ga] at hrk; exact hrk
        try simp -implicitDefEqProofs (maxSteps:=1000000) only [go_sem,q2,k6,g6,g4,ga,as,w5]
        repeat refine ⟨sc,?_⟩
        try exact sf
        exact ⟨k + 1,rfl,k1,by omega⟩
       ·try simp -implicitDefEqProofs (maxSteps:=1000000) only [go_sem,q2,k6,g6,g4,ga,w5]
        repeat refine ⟨sc,?_⟩
        try exact sf
        exact ⟨k + 1,rfl,k1,by omega⟩
      ·rw [g6,g4] at hrk
       ·skip
        cases gb:r.Has==2
        ·cases gc:r.Has==1
         ·have as:r.Aside=true:=by rw [gb,gc] at hrk; exact hrk
          try simp -implicitDefEqProofs (maxSteps:=1000000) only [go_sem,q2,k6,g6,g4,gb,gc,as,w5]
          repeat refine ⟨sc,?_⟩
          try exact sf
          exact ⟨k + 1,rfl,k1,by omega⟩
         ·try simp -implicitDefEqProofs (maxSteps:=1000000) only [go_sem,q2,k6,g6,g4,gb,gc,w5]
          repeat refine ⟨sc,?_⟩
          try exact sf
          exact ⟨k + 1,rfl,k1,by omega⟩
        ·try simp -implicitDefEqProofs (maxSteps:=1000000) only [go_sem,q2,k6,g6,g4,gb,w5]
         repeat refine ⟨sc,?_⟩
         try exact sf
         exact ⟨k + 1,rfl,k1,by omega⟩
     ·have g4:(n.S.T.Phase==4)=false:=by rw [eq_of_beq g6]; rfl
      rw [g6] at hrk
      ·skip
       cases gc:r.Has==1
       ·have as:r.Aside=true:=by rw [gc] at hrk; exact hrk
        try simp -implicitDefEqProofs (maxSteps:=1000000) only [go_sem,q2,k6,g6,g4,gc,as,w5]
        repeat refine ⟨sc,?_⟩
        try exact sf
        exact ⟨k + 1,rfl,k1,by omega⟩
       ·try simp -implicitDefEqProofs (maxSteps:=1000000) only [go_sem,q2,k6,g6,g4,gc,w5]
        repeat refine ⟨sc,?_⟩
        try exact sf
        exact ⟨k + 1,rfl,k1,by omega⟩
end Go.X

