/- Texts: CW_FnNodes. -/
import Derived.Test.YtmmjaijeeeilcaaGreatDoorS04
set_option linter.unusedVariables false
set_option linter.unusedSimpArgs false
namespace Go.X
set_option maxRecDepth 100000
set_option maxHeartbeats 8000000
def x_l_FnNodes:FnX:=⟨197,[.tmp 2],
  .q [.F 2]
 (.seq (.q [.m 27 0,.c 28 9 [27]]
 (.c 28 (.q [.T 2]
 .ret)))
 (.q [.m 29 0,.c 30 19 [29],.op 3 (.alloc [.nils 1,.nils 2,.i 0,.F,.nils 7,.i 0,.nils 3,.i 0,.i 0,.i 0]),.s 100001 10 3 30]
 (.q [.m 31 0,.op 32 (.call 24 [0,0] [(.t 31),(.i 2)]),.op 33 (.bin .add (.i 100) (.t 32)),.m 4 33]
 (.q [.op 34 (.bslice 1 [(.k (.one (.pv (.string ⟨#[97]⟩)))),(.k (.one (.pv (.string ⟨#[98]⟩)))),(.k (.one (.pv (.string ⟨#[99]⟩)))),(.k (.one (.pv (.string ⟨#[100]⟩)))),(.k (.one (.pv (.string ⟨#[101,53]⟩)))),(.k (.one (.pv (.string ⟨#[102]⟩))))]),.m 5 34]
 (.q [.m 35 5,.m 36 0,.op 37 (.call 24 [0,0] [(.t 36),(.i 3)]),.B 38 .rem 37 6,.x 39 1 35 38,.l 40 39,.m 6 40]
 (.q [.m 41 0,.op 42 (.call 24 [0,0] [(.t 41),(.i 4)]),.B 43 .rem 42 26,.op 44 (.bin .add (.i 97) (.t 43)),.op 45 (.conv (.int .u8) (.t 44)),.op 46 (.bslice 1 [(.t 45)]),.op 47 (.conv .b2s (.t 46)),.m 7 47]
 (.q [.L 49 10 3,.m 50 4,.m 51 6,.m 52 7,.op 53 (.call 25 [0,0,0,0,0] [(.t 49),(.i 1),(.t 50),(.t 51),(.t 52)]),.m 48 53,.e 54 48 0,.e 55 48 1,.e 56 48 2,.op 8 (.alloc [.nils 1,.nils 2,.i 0,.F,.nils 7,.i 0,.nils 3,.i 0,.i 0,.i 0]),.s 100002 10 8 54,.m 9 55,.m 10 56]
 (.seq (.q [.L 57 10 3,.c 58 23 [57],.N 59 58,.m 60 59,.z 60 (.m 61 10),.z 60 (.N 62 61),.r 63 60 62,.m 64 63,.z 64 (.m 65 9),.z 64 (.B 66 .neq 65 0),.z 64 (.m 67 66),.y 67 (.m 68 9),.y 67 (.B 69 .neq 68 5),.z 64 (.a 70 67 69),.r 71 64 70]
 (.c 71 (.q [.F 2]
 .ret)))
 (.q [.L 73 10 8,.m 74 4,.m 75 6,.op 76 (.call 25 [0,0,0,0,0] [(.t 73),(.i 1),(.t 74),(.t 75),(.k (.one (.pv (.string ⟨#[111,116,104,101,114]⟩))))]),.m 72 76,.e 77 72 0,.e 78 72 1,.e 79 72 2,.op 11 (.alloc [.nils 1,.nils 2,.i 0,.F,.nils 7,.i 0,.nils 3,.i 0,.i 0,.i 0]),.s 100003 10 11 77,.m 12 78,.m 13 79]
 (.q [.L 81 10 8,.m 82 4,.B 83 .sub 82 1,.m 84 6,.op 85 (.call 25 [0,0,0,0,0] [(.t 81),(.i 1),(.t 83),(.t 84),(.k (.one (.pv (.string ⟨#[111,116,104,101,114]⟩))))]),.m 80 85,.e 86 80 0,.e 87 80 1,.e 88 80 2,.op 14 (.alloc [.nils 1,.nils 2,.i 0,.F,.nils 7,.i 0,.nils 3,.i 0,.i 0,.i 0]),.s 100004 10 14 86,.m 15 87,.m 16 88]
 (.seq (.q [.m 89 13,.m 90 89,.z 90 (.m 91 12),.z 90 (.m 92 9),.z 90 (.b 93 .neq 91 92),.r 94 90 93,.m 95 94,.z 95 (.L 96 10 11),.z 95 (.L 97 10 8),.z 95 (.c 98 14 [96,97]),.z 95 (.N 99 98),.r 100 95 99,.m 101 100,.z 101 (.m 102 16),.r 103 101 102,.m 104 103,.z 104 (.m 105 15),.z 104 (.B 106 .neq 105 1),.r 107 104 106,.m 108 107,.z 108 (.L 109 10 14),.z 108 (.L 110 10 8),.z 108 (.c 111 14 [109,110]),.z 108 (.N 112 111),.r 113 108 112]
 (.c 113 (.q [.F 2]
 .ret)))
 (.seq (.q [.i 17 0]
 (.block 0 (.loop [3,4,5,6,7,8,9,17] (.seq (.q [.m 114 17,.B 115 .lss 114 6]
 (.cond 115 .skip (.exit 0)))
 (.seq (.block 1 (.seq (.draw [.L 119 10 3,.m 120 5,.m 121 17,.x 122 1 120 121,.l 123 122,.c 124 22 [119,123],.m 118 124,.e 125 118 0,.e 126 118 1,.m 18 125,.m 19 126] [[],[],[],[1,2],[3],[0,4],[5],[6],[6],[7,5,0,1,2,3,4,5,6,7],[8,9,0,1,2,3,4,5,6,7,8,9]])
 (.seq (.draw [.L 128 10 8,.m 129 5,.m 130 17,.x 131 1 129 130,.l 132 131,.c 133 22 [128,132],.m 127 133,.e 134 127 0,.e 135 127 1,.m 20 134,.m 21 135] [[],[],[],[1,2],[3],[0,4],[5],[6],[6],[7,5,0,1,2,3,4,5,6,7],[8,9,0,1,2,3,4,5,6,7,8,9]])
 (.q [.m 136 5,.m 137 17,.x 138 1 136 137,.l 139 138,.m 140 6,.b 141 .eql 139 140,.m 142 141,.y 142 (.m 143 9),.y 142 (.B 144 .eql 143 0),.a 145 142 144]
 (.cond 145 (.q [.m 146 20,.m 147 7,.b 148 .neq 146 147,.m 149 148,.z 149 (.m 150 21),.z 149 (.B 151 .neq 150 0),.r 152 149 151]
 (.c 152 (.q [.F 2]
 .ret))) (.q [.m 153 18,.m 154 20,.b 155 .neq 153 154,.m 156 155,.z 156 (.m 157 19),.z 156 (.m 158 21),.z 156 (.b 159 .neq 157 158),.r 160 156 159]
 (.c 160 (.q [.F 2]
 .ret))))))))
 (.reg [.m 116 17,.B 117 .add 116 1,.m 17 117]))))))
 (.norm [4,6,8,9] (.q [.L 162 10 8,.m 163 4,.B 164 .add 163 1,.m 165 6,.op 166 (.call 26 [0,0,0,0] [(.t 162),(.i 1),(.t 164),(.t 165)]),.m 161 166,.e 167 161 0,.e 168 161 1,.e 169 161 2,.op 22 (.alloc [.nils 1,.nils 2,.i 0,.F,.nils 7,.i 0,.nils 3,.i 0,.i 0,.i 0]),.s 100005 10 22 167,.m 23 168,.m 24 169]
 (.q [.L 171 10 22,.m 172 6,.c 173 22 [171,172],.m 170 173,.e 174 170 0,.e 175 170 1,.m 25 174,.m 26 175]
 (.q [.m 176 24,.m 177 176,.y 177 (.m 178 26),.y 177 (.B 179 .eql 178 2),.a 180 177 179,.m 181 180,.y 181 (.m 182 23),.y 181 (.B 183 .eql 182 0),.y 181 (.m 184 183),.z 184 (.m 185 23),.z 184 (.B 186 .eql 185 2),.z 184 (.m 187 186),.y 187 (.m 188 9),.y 187 (.B 189 .eql 188 5),.z 184 (.a 190 187 189),.y 181 (.r 191 184 190),.a 192 181 191,.m 193 192,.y 193 (.L 194 10 22),.y 193 (.c 195 23 [194]),.a 196 193 195,.m 2 196]
 .ret))))))))))))))))⟩
theorem r_l_FnNodes {Te:TE} (c_l_big:C_l_big Te) (c_s_DrawNode:C_s_DrawNode Te) (c_l_at:C_l_at Te) (c_i_NodePut:C_i_NodePut Te) (c_i_NodeOk:C_i_NodeOk Te) (c_l_sameNode:C_l_sameNode Te) (c_i_NodeGet:C_i_NodeGet Te) (c_i_NodeDel:C_i_NodeDel Te):C_l_FnNodes (RF Te x_l_FnNodes):=by
 intro code h
 refine X0 x_l_FnNodes.eq_1 ?_
 refine C0 (c_l_big _) ?_
 refine fun q=>?_
 have hc:code.length≤2 ^ 31:=by simp only [decide_eq_false_iff_not] at q; omega
 refine G0 ?_
 obtain ⟨n,hn,ht⟩:=c_s_DrawNode code hc
 refine C0 (ht) ?_
 obtain ⟨r2,⟨a2,b2⟩,ht⟩:=c_l_at code 2 (by decide) hc
 have w2:IntKind.i64.wrap (100 + r2)=100 + r2:=IntWalk.i64_in _ (by omega)
 have hsq:100≤100 + r2∧100 + r2≤355:=by omega
 refine C1 (ht) w2 ?_
 obtain ⟨r3,⟨a3,b3⟩,ht⟩:=c_l_at code 3 (by decide) hc
 obtain ⟨j,hj,hj6⟩:∃ j:Nat,r3.tmod 6=(j:Int)∧j < 6:=by
  have:=tmod_in (n:=6) a3 (by decide)
  exact ⟨(r3.tmod 6).toNat,by omega,by omega⟩
 have kj:=key_at hj6
 refine C2 (ht) hj kj ?_
 obtain ⟨r4,⟨a4,b4⟩,ht⟩:=c_l_at code 4 (by decide) hc
 obtain ⟨b,hb,hb7⟩:=letter a4
 have hl:=ltr_of b
 refine C2 (ht) hb hl ?_
 have hN:=up_in hn.1
 obtain ⟨x,c,hp,hP,hx⟩:=put_law hn (by decide) hsq (key_ok hj6) hb7
 have hkz:=key_size hj6
 have hX:=up_in hP.up
 have t1:=c_i_NodePut n 1 (100 + r2) (keyAt j) (ltr b) hN (by omega) (by show 1≤2 ^ 20; decide)
 simp only [hp] at t1
 refine C0 (t1) ?_
 have ok1:=(up_ok hn.1).1
 have okn:n.ok=true:=by have:=hn.1; rw [NodeV.up,Bool.and_eq_true] at this; exact this.1
 refine C1 (c_i_NodeOk n (hN.mono (by decide))) okn ?_
 have w3:IntKind.i64.wrap (100 + r2 - 1)=100 + r2 - 1:=IntWalk.i64_in _ (by omega)
 have w4:IntKind.i64.wrap (100 + r2 + 1)=100 + r2 + 1:=IntWalk.i64_in _ (by omega)
 have nI:∀ z:Int,(z != z)=false:=fun z=>bne_self_eq_false z
 have eD:∀ z:ByteArray,decide (z=z)=true:=fun z=>decide_eq_true rfl
 rcases hP.code with rfl | rfl
 ·obtain ⟨p1,p2⟩:=put_again hP hsq (keyAt j) ⟨#[111,116,104,101,114]⟩
  have t2:=c_i_NodePut x 1 (100 + r2) (keyAt j) ⟨#[111,116,104,101,114]⟩ hX (by omega) (by decide)
  have t3:=c_i_NodePut x 1 (100 + r2 - 1) (keyAt j) ⟨#[111,116,104,101,114]⟩ hX (by omega) (by decide)
  simp only [p1] at t2
  simp only [p2] at t3
  refine G0 ?_
  refine C1 (t2) w3 ?_
  refine C0 (t3) ?_
  refine C0 (c_l_sameNode x (hX.len (by decide))) ?_
  refine C0 (c_l_sameNode x (hX.len (by decide))) ?_
  refine loop_of (σ:=Nat) (fun i=>⟨[(3,.bp 3 0),(4,.one (.pv (.int .i64 (100 + r2)))),(5,.one (.rf 198 0 [] 1 0 6)),(6,.one (.pv (.string (keyAt j)))),(7,.one (.pv (.string (ltr b)))),(8,.bp 8 0),(9,.one (.pv (.int .i64 0))),(17,.one (.pv (.int .i64 i)))],[(3,[.rf 199 0 [] 1 0 n.S.D.Secs.length,.rf 199 1 [] 2 0 n.S.D.Cache.length,.pv (.int .i64 n.S.D.Fuse),.pv (.bool n.S.D.Down),.rf 199 4 [] 7 0 n.S.T.Rows.length,.pv (.int .i64 n.S.T.Phase),.rf 199 6 [] 3 0 n.S.T.Marks.length,.pv (.int .i64 n.S.Gen),.pv (.int .i64 n.S.Place),.pv (.int .i64 n.Cs)]),(8,[.rf 200 0 [] 1 0 x.S.D.Secs.length,.rf 200 1 [] 2 0 x.S.D.Cache.length,.pv (.int .i64 x.S.D.Fuse),.pv (.bool x.S.D.Down),.rf 200 4 [] 7 0 x.S.T.Rows.length,.pv (.int .i64 x.S.T.Phase),.rf 200 6 [] 3 0 x.S.T.Marks.length,.pv (.int .i64 x.S.Gen),.pv (.int .i64 x.S.Place),.pv (.int .i64 x.Cs)])],[(0,[slT false 1 uR code]),(198,[Tr.sl true 1 () [[sT ⟨#[97]⟩],[sT ⟨#[98]⟩],[sT ⟨#[99]⟩],[sT ⟨#[100]⟩],[sT ⟨#[101,53]⟩],[sT ⟨#[102]⟩]]]),(199,n.enc true),(200,x.enc true++[iT 0,bT true])]⟩) (fun i=>i≤6) (fun i=>6 - i) 0 ?_ (Nat.zero_le _) ?_
  ·simp -implicitDefEqProofs (maxSteps:=1000000) only [go_sem]
   try rfl
  ·rintro i hi
   cases q:decide ((i:Int) < 6)
   ·have t4:=c_i_NodeDel x 1 (100 + r2 + 1) (keyAt j) hX (by omega)
    obtain ⟨y,d1,d2,d3⟩:=del_law hP hx (by decide) hsq (key_ok hj6)
    have hY:=up_in d2
    have hyk:y.ok=true:=by rw [NodeV.up,Bool.and_eq_true] at d2; exact d2.1
    have t5:=c_i_NodeGet y (keyAt j) (hY.mono (by decide))
    simp only [d1] at t4
    simp only [d3] at t5
    refine G2 q w4 ?_
    refine C0 (t4) ?_
    refine C0 (t5) ?_
    exact D1 (c_i_NodeOk y (hY.mono (by decide))) hyk
   ·have hi6:i < 6:=by simp only [decide_eq_true_eq] at q; omega
    have ki:=key_at hi6
    have w5:IntKind.i64.wrap ((i:Int) + 1)=((i + 1:Nat):Int):=by rw [IntWalk.i64_in _ (by omega)]; rfl
    have tn:=c_i_NodeGet n (keyAt i) (hN.mono (by decide))
    have tx:=c_i_NodeGet x (keyAt i) (hX.mono (by decide))
    cases gk:decide (keyAt i=keyAt j)
    ·have hg:x.get (keyAt i)=n.get (keyAt i):=by rw [hP.get,if_neg (fun z=>absurd z.1 (of_decide_eq_false gk))]
     rw [hg] at tx
     refine G2 q ki ?_
     refine C1 (tn) ki ?_
     refine .of (tx) ?_
     try simp -implicitDefEqProofs (maxSteps:=1000000) only [go_sem,ki,bytes_beq,gk,eD,nI,w5]
     repeat refine ⟨sc,?_⟩
     try exact sf
     exact ⟨i + 1,rfl,hi6,by omega⟩
    ·have hg:x.get (keyAt i)=(ltr b,0):=by rw [hP.get,if_pos ⟨of_decide_eq_true gk,rfl⟩]
     simp only [hg] at tx
     refine G2 q ki ?_
     refine C1 (tn) ki ?_
     refine .of (tx) ?_
     try simp -implicitDefEqProofs (maxSteps:=1000000) only [go_sem,ki,bytes_beq,gk,eD,w5]
     repeat refine ⟨sc,?_⟩
     try exact sf
     exact ⟨i + 1,rfl,hi6,by omega⟩
 ·obtain ⟨p1,p2⟩:=put_again hP hsq (keyAt j) ⟨#[111,116,104,101,114]⟩
  have t2:=c_i_NodePut x 1 (100 + r2) (keyAt j) ⟨#[111,116,104,101,114]⟩ hX (by omega) (by decide)
  have t3:=c_i_NodePut x 1 (100 + r2 - 1) (keyAt j) ⟨#[111,116,104,101,114]⟩ hX (by omega) (by decide)
  simp only [p1] at t2
  simp only [p2] at t3
  refine G0 ?_
  refine C1 (t2) w3 ?_
  refine C0 (t3) ?_
  refine C0 (c_l_sameNode x (hX.len (by decide))) ?_
  refine C0 (c_l_sameNode x (hX.len (by decide))) ?_
  refine loop_of (σ:=Nat) (fun i=>⟨[(3,.bp 3 0),(4,.one (.pv (.int .i64 (100 + r2)))),(5,.one (.rf 198 0 [] 1 0 6)),(6,.one (.pv (.string (keyAt j)))),(7,.one (.pv (.string (ltr b)))),(8,.bp 8 0),(9,.one (.pv (.int .i64 5))),(17,.one (.pv (.int .i64 i)))],[(3,[.rf 199 0 [] 1 0 n.S.D.Secs.length,.rf 199 1 [] 2 0 n.S.D.Cache.length,.pv (.int .i64 n.S.D.Fuse),.pv (.bool n.S.D.Down),.rf 199 4 [] 7 0 n.S.T.Rows.length,.pv (.int .i64 n.S.T.Phase),.rf 199 6 [] 3 0 n.S.T.Marks.length,.pv (.int .i64 n.S.Gen),.pv (.int .i64 n.S.Place),.pv (.int .i64 n.Cs)]),(8,[.rf 200 0 [] 1 0 x.S.D.Secs.length,.rf 200 1 [] 2 0 x.S.D.Cache.length,.pv (.int .i64 x.S.D.Fuse),.pv (.bool x.S.D.Down),.rf 200 4 [] 7 0 x.S.T.Rows.length,.pv (.int .i64 x.S.T.Phase),.rf 200 6 [] 3 0 x.S.T.Marks.length,.pv (.int .i64 x.S.Gen),.pv (.int .i64 x.S.Place),.pv (.int .i64 x.Cs)])],[(0,[slT false 1 uR code]),(198,[Tr.sl true 1 () [[sT ⟨#[97]⟩],[sT ⟨#[98]⟩],[sT ⟨#[99]⟩],[sT ⟨#[100]⟩],[sT ⟨#[101,53]⟩],[sT ⟨#[102]⟩]]]),(199,n.enc true),(200,x.enc true++[iT 5,bT true])]⟩) (fun i=>i≤6) (fun i=>6 - i) 0 ?_ (Nat.zero_le _) ?_
  ·simp -implicitDefEqProofs (maxSteps:=1000000) only [go_sem]
   try rfl
  ·rintro i hi
   cases q:decide ((i:Int) < 6)
   ·have t4:=c_i_NodeDel x 1 (100 + r2 + 1) (keyAt j) hX (by omega)
    obtain ⟨y,d1,d2,d3⟩:=del_law hP hx (by decide) hsq (key_ok hj6)
    have hY:=up_in d2
    have hyk:y.ok=true:=by rw [NodeV.up,Bool.and_eq_true] at d2; exact d2.1
    have t5:=c_i_NodeGet y (keyAt j) (hY.mono (by decide))
    simp only [d1] at t4
    simp only [d3] at t5
    refine G2 q w4 ?_
    refine C0 (t4) ?_
    refine C0 (t5) ?_
    exact D1 (c_i_NodeOk y (hY.mono (by decide))) hyk
   ·have hi6:i < 6:=by simp only [decide_eq_true_eq] at q; omega
    have ki:=key_at hi6
    have w5:IntKind.i64.wrap ((i:Int) + 1)=((i + 1:Nat):Int):=by rw [IntWalk.i64_in _ (by omega)]; rfl
    have tn:=c_i_NodeGet n (keyAt i) (hN.mono (by decide))
    have tx:=c_i_NodeGet x (keyAt i) (hX.mono (by decide))
    cases gk:decide (keyAt i=keyAt j)
    ·have hg:x.get (keyAt i)=n.get (keyAt i):=by rw [hP.get,if_neg (fun z=>absurd z.1 (of_decide_eq_false gk))]
     rw [hg] at tx
     refine G2 q ki ?_
     refine C1 (tn) ki ?_
     refine .of (tx) ?_
     try simp -implicitDefEqProofs (maxSteps:=1000000) only [go_sem,ki,bytes_beq,gk,eD,nI,w5]
     repeat refine ⟨sc,?_⟩
     try exact sf
     exact ⟨i + 1,rfl,hi6,by omega⟩
    ·have hg:x.get (keyAt i)=n.get (keyAt i):=by rw [hP.get,if_neg (fun z=>absurd z.2 (by decide))]
     rw [hg] at tx
     refine G2 q ki ?_
     refine C1 (tn) ki ?_
     refine .of (tx) ?_
     try simp -implicitDefEqProofs (maxSteps:=1000000) only [go_sem,ki,bytes_beq,gk,eD,nI,w5]
     repeat refine ⟨sc,?_⟩
     try exact sf
     exact ⟨i + 1,rfl,hi6,by omega⟩
end Go.X

