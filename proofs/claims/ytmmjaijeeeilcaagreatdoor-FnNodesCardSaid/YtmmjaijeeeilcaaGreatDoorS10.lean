/- Texts: CVt CVr_2 CVzb CUa CVl CVl_2 CVy_2 CVs_2 CK_2 CVx_2. -/
import Derived.Test.YtmmjaijeeeilcaaGreatDoorS04
set_option linter.unusedVariables false
set_option linter.unusedSimpArgs false
namespace Go.X
set_option maxRecDepth 100000
set_option maxHeartbeats 8000000
def x_i_Apply_2:XCode:=.seq (.q [.L 54 3 6,.c 55 179 [54],.N 56 55]
 (.c 56 (.q [.L 57 3 2,.c 58 246 [57],.s 100007 3 4 58,.F 5]
 .ret)))
 (.q [.L 59 3 6,.s 100008 3 4 59,.T 5]
 .ret)
def x_i_Apply_1:XCode:=.seq (.q [.f 40 3 10,.l 41 40,.B 42 .gtr 41 0]
 (.c 42 (.reg [.f 43 6 2,.l 44 43,.f 45 3 10,.l 46 45,.f 47 3 11,.l 48 47,.f 49 3 12,.l 50 49,.op 51 (.build [.i 0,.i 0,.i 0] [(0,1,(.t 46)),(1,1,(.t 48)),(2,1,(.t 50))]),.c 52 310 [44,51],.f 53 6 2,.s 100006 1 53 52])))
 (.norm [2,4,6] (x_i_Apply_2))
def x_i_Apply:FnX:=⟨60,[.cell 4 (some 3),.tmp 5],
  .q [.v 2 0,.v 3 1,.op 4 (.alloc [.nils 7,.i 0,.nils 3]),.F 5]
 (.q [.L 7 3 2,.c 8 246 [7],.op 6 (.alloc [.nils 7,.i 0,.nils 3]),.s 100001 3 6 8]
 (.seq (.q [.L 9 13 3,.c 10 306 [9],.N 11 10,.m 12 11,.z 12 (.L 13 3 2),.z 12 (.c 14 179 [13]),.z 12 (.N 15 14),.r 16 12 15]
 (.c 16 (.q [.L 17 3 6,.s 100002 3 4 17,.F 5]
 .ret)))
 (.seq (.q [.f 18 3 0,.l 19 18]
 (.block 0 (.q [.B 21 .eql 19 1,.m 20 21]
 (.cond 20 (.reg [.f 22 6 0,.l 23 22,.f 24 3 1,.L 25 7 24,.op 26 (.call 307 [1,0] [(.t 23),(.t 25)]),.f 27 6 0,.s 100003 1 27 26]) (.q [.B 29 .eql 19 2,.m 28 29]
 (.cond 28 (.reg [.f 30 6 0,.l 31 30,.op 32 (.clos 309 (.t 3)),.op 33 (.vcall 308 309 [1,15] [(.t 31)] (.t 32)),.f 34 6 0,.s 100004 1 34 33]) (.q [.B 36 .eql 19 3,.m 35 36]
 (.c 35 (.reg [.f 37 3 9,.l 38 37,.f 39 6 1,.s 100005 1 39 38])))))))))
 (.norm [2,3,4,6] (x_i_Apply_1)))))⟩
theorem r_i_Apply {Te:TE} (c_i_copyTab:C_i_copyTab Te) (c_i_RecOk:C_i_RecOk Te) (c_i_TabOk:C_i_TabOk Te) (c_i_withRow:C_i_withRow Te) (c_z_DeleteFuncimplApply1:C_z_DeleteFuncimplApply1 Te) (c_i_withMark:C_i_withMark Te):C_i_Apply (RF Te x_i_Apply):=by
 intro t r ht hr
 have hL:=ht.len (by decide)
 have hLr:=(hr.len (by decide))
 have hci:=change_in ht hr
 have h1:=ht.1.1
 have h2:=ht.2
 refine X0 x_i_Apply.eq_1 ?_
 refine C0 (c_i_copyTab t hL) ?_
 refine C0 (c_i_RecOk r (hr.mono (by decide))) ?_
 cases g1:r.ok
 ·have e:t.apply r=(t,false):=by rw [TabV.apply,g1]; rfl
  exact F1 e
 refine G0 ?_
 refine C0 (c_i_TabOk t (ht.mono (by decide))) ?_
 cases g2:t.ok
 ·have e:t.apply r=(t,false):=by rw [TabV.apply,g1,g2]; rfl
  exact F1 e
 refine G0 ?_
 rcases kinds r.Kind with k | k | k | k
 all_goals
  try simp -implicitDefEqProofs (maxSteps:=1000000) only [go_sem,k]
  repeat refine ⟨sc,?_⟩
  try exact sf
 all_goals try (refine .of (c_i_withRow t.Rows r.R (by omega) hLr) ?_; simp -implicitDefEqProofs (maxSteps:=1000000) only [go_sem,take_all,take_marks])
 all_goals try (refine .of (c_z_DeleteFuncimplApply1 t.Rows r (by omega)) ?_; simp -implicitDefEqProofs (maxSteps:=1000000) only [go_sem,take_all,take_marks])
 all_goals cases w:decide (r.Who > 0)
 all_goals
  try simp -implicitDefEqProofs (maxSteps:=1000000) only [x_i_Apply_1,go_sem,w,take_all,take_marks]
 all_goals try (refine .of (c_i_withMark t.Marks ⟨r.Who,r.Seq,r.Code⟩ (by omega)) ?_; simp -implicitDefEqProofs (maxSteps:=1000000) only [go_sem,take_all,take_marks])
 all_goals
  have tk:=c_i_TabOk (t.change r) (hci.mono (by decide))
  simp only [TabV.change,TabV.put,k,w,cond_true,cond_false] at tk
  try simp -implicitDefEqProofs (maxSteps:=1000000) only [x_i_Apply_2,go_sem,take_all,take_marks]
  refine .of tk ?_
  cases g3:(t.change r).ok
 all_goals
  have g4:=g3
  simp only [TabV.change,TabV.put,k,w,cond_true,cond_false] at g4
  try simp -implicitDefEqProofs (maxSteps:=1000000) only [go_sem,g4,take_all,take_marks]
 all_goals try (refine .of (c_i_copyTab t hL) ?_; have e:t.apply r=(t,false):=(by rw [TabV.apply,g1,g2,g3]; rfl); simp -implicitDefEqProofs (maxSteps:=1000000) only [go_sem,e,take_all,take_marks])
 all_goals try (have e:t.apply r=(t.change r,true):=(by rw [TabV.apply,g1,g2,g3]; rfl); simp -implicitDefEqProofs (maxSteps:=1000000) only [go_sem,e,TabV.change,TabV.put,k,w,cond_true,cond_false,take_all,take_marks])
 all_goals try rfl
def x_s_l12Row:FnX:=⟨55,[.tmp 4],
  .q [.v 3 1,.op 4 (.mv (.k (.one (.nils 7))))]
 (.q [.op 8 (.bslice 7 []),.m 5 8]
 (.q [.F 6]
 (.seq (.q [.i 7 0]
 (.block 0 (.loop [0,3,5,6,7] (.seq (.q [.m 9 7,.m 10 0,.n 11 10,.b 12 .lss 9 11]
 (.cond 12 .skip (.exit 0)))
 (.seq (.block 1 (.seq (.seq (.draw [.m 15 6,.N 16 15,.m 17 16,.y 17 (.m 18 0),.y 17 (.m 19 7),.y 17 (.x 20 7 18 19),.y 17 (.f 21 20 0),.y 17 (.l 22 21),.y 17 (.f 23 3 0),.y 17 (.l 24 23),.y 17 (.b 25 .geq 22 24),.a 26 17 25] [[],[0],[1],[2],[2],[3,4,2],[5,2],[6,2],[2],[8,2],[7,9,2],[2,10]])
 (.c 26 (.q [.m 27 5,.L 28 7 3,.c 29 288 [28],.op 30 (.bslice 7 [(.t 29)]),.op 31 (.app 7 96 (.t 27) (.t 30)),.m 5 31]
 (.reg [.T 6]))))
 (.seq (.draw [.m 32 0,.m 33 7,.x 34 7 32 33,.f 35 34 0,.l 36 35,.f 37 3 0,.l 38 37,.b 39 .neq 36 38] [[],[],[0,1],[2],[3],[],[5],[4,6]])
 (.c 39 (.reg [.m 40 5,.m 41 0,.m 42 7,.x 43 7 41 42,.L 44 7 43,.op 45 (.bslice 7 [(.t 44)]),.op 46 (.app 7 96 (.t 40) (.t 45)),.m 5 46])))))
 (.reg [.m 13 7,.B 14 .add 13 1,.m 7 14]))))))
 (.norm [3,5,6] (.seq (.q [.m 47 6,.N 48 47]
 (.c 48 (.reg [.m 49 5,.L 50 7 3,.c 51 288 [50],.op 52 (.bslice 7 [(.t 51)]),.op 53 (.app 7 96 (.t 49) (.t 52)),.m 5 53])))
 (.q [.m 54 5,.m 4 54]
 .ret))))))⟩
theorem r_s_l12Row {Te:TE} (c_s_l9Copy:C_s_l9Copy Te):C_s_l12Row (RF Te x_s_l12Row):=by
 intro l r h hr
 refine X0 x_s_l12Row.eq_1 ?_
 refine loop_of (σ:=Nat×List RowV×Bool) (fun x=>⟨[(0,.one (.rf 0 0 [] 7 0 l.length)),(3,.bp 3 0),(5,.one (.rf 57 0 [] 7 0 x.2.1.length)),(6,.one (.pv (.bool x.2.2))),(7,.one (.pv (.int .i64 x.1)))],[(3,[.pv (.string r.Key),.pv (.int .i64 r.Old.Tag),.ro 1 (r.Old.B.map uR),.pv (.int .i64 r.New.Tag),.ro 1 (r.New.B.map uR),.pv (.int .i64 r.Has),.pv (.bool r.Aside)])],[(0,[Tr.sl true 7 () (leftRows r l x.1)]),(1,r.enc false),(57,[slT true 7 (RowV.enc true) x.2.1])]⟩) (fun x=>x.1≤l.length∧x.2=(l.take x.1).foldl (insR r) ([],false)) (fun x=>l.length - x.1) (0,[],false) ?_ ⟨Nat.zero_le _,rfl⟩ ?_
 ·simp -implicitDefEqProofs (maxSteps:=1000000) only [go_sem,left_zero]
  try rfl
 ·rintro ⟨i,o,p⟩ ⟨hi,he⟩
  simp only at hi he
  have hol:o.length≤2 * l.length:=by
   have:=insR_le r (l.take i) ([],false)
   rw [← he] at this
   simp only [List.length_nil,List.length_take] at this
   omega
  have ea:=app1Rw o r
  have et:List.take (o.length + 1) (List.map (RowV.enc true) (o++[r]))=List.map (RowV.enc true) (o++[r]):=List.take_of_length_le (by simp)
  cases q:decide ((i:Int) < (l.length:Int))
  ·have k0:i=l.length:=by simp only [decide_eq_false_iff_not] at q; omega
   rw [k0,List.take_length] at he
   subst k0
   cases p
   ·have e:insRow l r=o++[r]:=by rw [insRow,← he]; rfl
    refine G1 q ?_
    exact D3 (c_s_l9Copy r hr) e ea et
   ·have e:insRow l r=o:=by rw [insRow,← he]; rfl
    exact F2 q e
  ·have k1:i < l.length:=by simp only [decide_eq_true_eq] at q; omega
   have es:=insR_step (r:=r) k1
   rw [← he] at es
   have eg:=left_get (r:=r) k1
   have ed:(leftRows r l i).getD i []=l[i].enc true:=by rw [List.getD_eq_getElem?_getD,eg]; rfl
   have el:=left_len r l i
   have ex:=left_set (r:=r) k1
   have e1:∀ X:List T,((leftRows r l i).set i X)[i]?=some X:=fun X=>List.getElem?_set_self (by rw [el]; exact k1)
   have e2:∀ X:List T,((leftRows r l i).set i X).getD i []=X:=fun X=>by rw [List.getD_eq_getElem?_getD,e1]; rfl
   have eb:=app1Rw o l[i]
   have ec:=app1Rw (o++[r]) l[i]
   cases g2:decide (l[i].Key=r.Key) <;> cases g1:Op.bytesLess l[i].Key.toList r.Key.toList <;> cases p
   all_goals
    simp only [insR,g1,g2,Bool.not_true,Bool.not_false,Bool.and_true,Bool.and_false,Bool.or_true,Bool.or_false,Bool.true_or,Bool.false_or,Bool.true_and,Bool.false_and,if_true,if_false,Bool.false_eq_true] at es
    simp only [leftR,g2,if_true,if_false,Bool.false_eq_true] at ex
    try simp -implicitDefEqProofs (maxSteps:=1000000) only [go_sem,q,g1,g2,eg,ed,el,ex,e1,e2,List.set_set,List.length_set,take_rows,take_all,ea,eb,ec,et]
    repeat refine ⟨sc,?_⟩
   all_goals try (refine .of (c_s_l9Copy r hr) ?_; try simp -implicitDefEqProofs (maxSteps:=1000000) only [go_sem,g1,g2,eg,ed,el,ex,e1,e2,List.set_set,List.length_set,take_rows,take_all,ea,eb,ec,et])
   all_goals
    repeat refine ⟨sc,?_⟩
   all_goals
    refine ⟨(i + 1,(l.take (i + 1)).foldl (insR r) ([],false)),?_,⟨k1,rfl⟩,by simp only; omega⟩
    rw [← es,IntWalk.i64_in _ (by omega)]
    try simp only [List.length_append]
    try rw [left_same k1 g2]
    rfl
def x_i_putRec:FnX:=⟨46,[.cell 6 (some 13),.tmp 7],
  .q [.v 3 0,.op 6 (.alloc [.i 0,.e,.i 0,.nils 1,.i 0,.nils 1,.i 0,.F,.e,.i 0,.i 0,.i 0,.i 0]),.i 7 0]
 (.q [.f 11 3 0,.f 12 11 4,.f 13 12 1,.l 14 13,.m 15 1,.f 16 3 9,.l 17 16,.m 18 2,.c 19 167 [14,15,17,18],.m 10 19,.e 20 10 0,.e 21 10 1,.op 8 (.alloc [.e,.i 0,.nils 1,.i 0,.nils 1,.i 0,.F]),.s 100001 7 8 20,.m 9 21]
 (.seq (.q [.m 22 9,.B 23 .eql 22 0,.m 24 23,.y 24 (.f 25 3 0),.y 24 (.f 26 25 4),.y 24 (.L 27 3 26),.y 24 (.m 28 1),.y 24 (.c 29 87 [27,28]),.y 24 (.B 30 .lss 29 0),.a 31 24 30,.m 32 31,.y 32 (.f 33 3 0),.y 32 (.f 34 33 4),.y 32 (.f 35 34 0),.y 32 (.l 36 35),.y 32 (.n 37 36),.y 32 (.B 38 .eql 37 8),.a 39 32 38]
 (.c 39 (.reg [.i 9 5])))
 (.seq (.q [.m 40 9,.B 41 .neq 40 0]
 (.c 41 (.q [.op 42 (.build [.i 0,.e,.i 0,.nils 1,.i 0,.nils 1,.i 0,.F,.e,.i 0,.i 0,.i 0,.i 0] [(0,1,(.i 4))]),.m 43 9,.s 100002 13 6 42,.m 7 43]
 .ret)))
 (.q [.L 44 7 8,.op 45 (.build [.i 0,.e,.i 0,.nils 1,.i 0,.nils 1,.i 0,.F,.e,.i 0,.i 0,.i 0,.i 0] [(0,1,(.i 1)),(1,7,(.t 44))]),.s 100003 13 6 45,.i 7 0]
 .ret))))⟩
theorem r_i_putRec {Te:TE} (c_i_RowOf:C_i_RowOf Te) (c_i_RowAt:C_i_RowAt Te):C_i_putRec (RF Te x_i_putRec):=by
 intro n key s hn hk hs
 refine X0 x_i_putRec.eq_1 ?_
 refine C0 (c_i_RowOf n.S.T.Phase key n.Cs s hk hs) ?_
 cases g1:((rowOf n.S.T.Phase key n.Cs s).2==0)
 ·have e:n.putCode key s=(rowOf n.S.T.Phase key n.Cs s).2:=by rw [NodeV.putCode,g1]; rfl
  have g2:((rowOf n.S.T.Phase key n.Cs s).2 != 0)=true:=by rw [bne_eq,g1]; rfl
  try simp -implicitDefEqProofs (maxSteps:=1000000) only [go_sem,g1,g2,e,putRecV,take_rows]
  repeat refine ⟨sc,?_⟩
  try exact sf
  try rfl
 ·have g0:(rowOf n.S.T.Phase key n.Cs s).2=0:=eq_of_beq g1
  refine G1 g1 ?_
  refine C0 (c_i_RowAt n.S.T key hn) ?_
  cases g2:decide (rowAt n.S.T.Rows key < 0)
  ·have e:n.putCode key s=0:=by rw [NodeV.putCode,g1,g2]; exact g0
   try simp -implicitDefEqProofs (maxSteps:=1000000) only [go_sem,g0,g2,e,putRecV,recRowBy,take_rows]
   repeat refine ⟨sc,?_⟩
   try exact sf
   try rfl
  ·cases g3:((n.S.T.Rows.length:Int)==8)
   ·have e:n.putCode key s=0:=by rw [NodeV.putCode,g1,g2,g3]; exact g0
    try simp -implicitDefEqProofs (maxSteps:=1000000) only [go_sem,g0,g2,g3,e,putRecV,recRowBy,take_rows]
    repeat refine ⟨sc,?_⟩
    try exact sf
    try rfl
   ·have e:n.putCode key s=5:=by rw [NodeV.putCode,g1,g2,g3]; rfl
    try simp -implicitDefEqProofs (maxSteps:=1000000) only [go_sem,g2,g3,e,putRecV,recRowBy,take_rows]
    repeat refine ⟨sc,?_⟩
    try exact sf
    try rfl
def x_i_NodePut:FnX:=⟨54,[.cell 10 (some 10),.tmp 11,.tmp 12],
  .q [.v 5 0,.op 10 (.alloc [.nils 1,.nils 2,.i 0,.F,.nils 7,.i 0,.nils 3,.i 0,.i 0,.i 0]),.i 11 0,.F 12]
 (.seq (.q [.L 16 10 5,.c 17 82 [16],.N 18 17,.m 19 18,.z 19 (.m 20 1),.z 19 (.m 21 2),.z 19 (.c 22 72 [20,21]),.z 19 (.N 23 22),.r 24 19 23]
 (.c 24 (.q [.L 25 10 5,.c 26 60 [25],.s 100001 10 10 26,.i 11 1,.F 12]
 .ret)))
 (.q [.L 28 10 5,.m 29 1,.m 30 2,.c 31 73 [28,29,30],.m 27 31,.e 32 27 0,.e 33 27 1,.m 13 32,.m 14 33]
 (.seq (.q [.m 34 14]
 (.c 34 (.q [.L 35 10 5,.c 36 60 [35],.m 37 13,.s 100002 10 10 36,.m 11 37,.F 12]
 .ret)))
 (.q [.L 39 10 5,.m 40 3,.m 41 4,.c 42 75 [39,40,41],.m 38 42,.e 43 38 0,.e 44 38 1,.op 15 (.alloc [.i 0,.e,.i 0,.nils 1,.i 0,.nils 1,.i 0,.F,.e,.i 0,.i 0,.i 0,.i 0]),.s 100003 13 15 43,.m 13 44]
 (.q [.L 45 10 5,.m 46 1,.m 47 2,.L 48 13 15,.m 49 13,.c 50 91 [45,46,47,48,49],.e 51 50 0,.e 52 50 1,.e 53 50 2,.s 100004 10 10 51,.m 11 52,.m 12 53]
 .ret)))))⟩
theorem r_i_NodePut {Te:TE} (c_i_isUp:C_i_isUp Te) (c_i_mayAsk:C_i_mayAsk Te) (c_i_copyNode:C_i_copyNode Te) (c_i_askedBefore:C_i_askedBefore Te) (c_i_putRec:C_i_putRec Te) (c_i_change:C_i_change Te):C_i_NodePut (RF Te x_i_NodePut):=by
 intro n who seq key s hn hk hs
 have hL:=hn.len (by decide)
 refine X0 x_i_NodePut.eq_1 ?_
 refine C0 (c_i_isUp n (hn.mono (by decide))) ?_
 cases g1:n.up
 ·have e:n.putIn who seq key s=(n,1,false):=by rw [NodeV.putIn,old_no (by rw [g1]; rfl)]; rfl
  refine G0 ?_
  exact D1 (c_i_copyNode n hL) e
 refine G0 ?_
 refine C0 (c_i_mayAsk _ _) ?_
 cases g2:(win who 1 9&&win seq 1 65535)
 ·have e:n.putIn who seq key s=(n,1,false):=by rw [NodeV.putIn,old_no (by rw [g1,g2]; rfl)]; rfl
  refine G1 g2 ?_
  exact D1 (c_i_copyNode n hL) e
 have eo:=old_yes g1 g2
 refine G1 g2 ?_
 refine .of (c_i_askedBefore n _ _ (by have:=hn.2.2; omega)) ?_
 try simp -implicitDefEqProofs (maxSteps:=1000000) only [go_sem]
 repeat refine ⟨sc,?_⟩
 try exact sf
 rw [← eo]
 cases g3:(n.old who seq).2
 rotate_left
 ·have e:n.putIn who seq key s=(n,(n.old who seq).1,false):=by rw [NodeV.putIn,g3]; rfl
  refine G1 g3 ?_
  exact D1 (c_i_copyNode n hL) e
 have e:n.putIn who seq key s=n.changed ((putRecV n key s).by who seq (n.putCode key s)):=by rw [NodeV.putIn,g3,putRec_by]; rfl
 refine G1 g3 ?_
 refine C0 (c_i_putRec n key s (by have:=hn.2.1.1; omega) hk hs) ?_
 exact D1 (c_i_change n who seq (putRecV n key s) (n.putCode key s) hn (putRec_in hk)) e
def x_s_l15End:FnX:=⟨29,[.cell 4 (some 10),.tmp 5,.tmp 6],
  .q [.v 2 0,.v 3 1,.op 4 (.alloc [.nils 1,.nils 2,.i 0,.F,.nils 7,.i 0,.nils 3,.i 0,.i 0,.i 0]),.i 5 0,.F 6]
 (.q [.L 9 10 2,.c 10 65 [9],.op 7 (.alloc [.nils 1,.nils 2,.i 0,.F,.nils 7,.i 0,.nils 3,.i 0,.i 0,.i 0]),.s 100001 10 7 10]
 (.q [.f 11 3 12,.l 12 11,.m 8 12]
 (.seq (.q [.m 13 8,.B 14 .neq 13 0]
 (.c 14 (.reg [.f 15 3 10,.l 16 15,.f 17 3 11,.l 18 17,.f 19 3 12,.l 20 19,.op 21 (.build [.i 0,.e,.i 0,.nils 1,.i 0,.nils 1,.i 0,.F,.e,.i 0,.i 0,.i 0,.i 0] [(0,1,(.i 4)),(10,1,(.t 16)),(11,1,(.t 18)),(12,1,(.t 20))]),.s 100002 13 3 21])))
 (.seq (.q [.f 22 7 0,.L 23 13 3,.op 24 (.call 103 [11,0] [(.t 22),(.t 23)]),.N 25 24]
 (.c 25 (.q [.L 26 10 7,.s 100003 10 4 26,.i 5 5,.F 6]
 .ret)))
 (.q [.L 27 10 7,.m 28 8,.s 100004 10 4 27,.m 5 28,.T 6]
 .ret)))))⟩
theorem r_s_l15End {Te:TE} (c_s_l15Copy:C_s_l15Copy Te) (c_s_l13Add:C_s_l13Add Te):C_s_l15End (RF Te x_s_l15End):=by
 intro n r hu hn hr
 have hL:=hn.len (by decide)
 obtain ⟨k1,k2,_⟩:=up_ok hu
 refine X0 x_s_l15End.eq_1 ?_
 refine C0 (c_s_l15Copy n hL) ?_
 cases g:(r.Code != 0)
 ·have e1:=told_self g
  refine G1 g ?_
  refine C0 (c_s_l13Add n.S r k1 k2 hn.2 hr) ?_
  cases g2:(n.S.add r).2
  ·try simp -implicitDefEqProofs (maxSteps:=1000000) only [go_sem,g2,e1,NodeV.changed,NodeV.added,NodeV.enc,take_all,take_marks]
   repeat refine ⟨sc,?_⟩
   try exact sf
   try rfl
  ·try simp -implicitDefEqProofs (maxSteps:=1000000) only [go_sem,g2,e1,NodeV.changed,NodeV.added,NodeV.enc,take_all,take_marks]
   repeat refine ⟨sc,?_⟩
   try exact sf
   try rfl
 ·have e1:=told_who g
  have ec:r.told.Code=r.Code:=by rw [e1]; rfl
  refine G1 g ?_
  refine C0 (c_s_l13Add n.S (recWho r.Who r.Seq r.Code) k1 k2 hn.2 (recWho_in _ _ _ _)) ?_
  cases g2:(n.S.add (recWho r.Who r.Seq r.Code)).2
  ·try simp -implicitDefEqProofs (maxSteps:=1000000) only [go_sem,g2,e1,NodeV.changed,NodeV.added,NodeV.enc,take_all,take_marks]
   repeat refine ⟨sc,?_⟩
   try exact sf
   try rfl
  ·try simp -implicitDefEqProofs (maxSteps:=1000000) only [go_sem,g2,e1,NodeV.changed,NodeV.added,NodeV.enc,take_all,take_marks]
   repeat refine ⟨sc,?_⟩
   try exact sf
   try rfl
def x_s_l1Name:FnX:=⟨6,[.tmp 2],
  .q [.op 2 (.mv (.k (.one (.pv (.string ⟨#[]⟩)))))]
 (.q [.m 3 0,.op 4 (.bslice 1 [(.k (.one (.pv (.string ⟨#[97]⟩)))),(.k (.one (.pv (.string ⟨#[98]⟩)))),(.k (.one (.pv (.string ⟨#[99]⟩)))),(.k (.one (.pv (.string ⟨#[100]⟩)))),(.k (.one (.pv (.string ⟨#[101,53]⟩))))]),.op 5 (.call 114 [5,1] [(.t 3),(.t 4)]),.m 2 5]
 .ret)⟩
theorem r_s_l1Name {Te:TE} (c_s_l1Str:C_s_l1Str Te):∀ (c:CurV) (hc:c.ok),∃ r0,(∃ (r:ByteArray) (d:CurV),(r.size≤6∧d.ok)∧r0=(⟨[.one (sT r)],[d.enc]⟩:Res))∧RunFn Te x_s_l1Name [.ptr c.enc] r0:=by
 intro c hc
 refine some_of (Nat.le_of_ble_eq_true rfl) (by rfl) ?_
 simp -implicitDefEqProofs (maxSteps:=1000000) only [x_s_l1Name,go_sem]
 repeat refine ⟨sc,?_⟩
 try exact sf
 obtain ⟨r,d,⟨hr,hd⟩,ht⟩:=c_s_l1Str c [⟨#[97]⟩,⟨#[98]⟩,⟨#[99]⟩,⟨#[100]⟩,⟨#[101,53]⟩] hc (by decide)
 refine C0 (ht) ?_
 exact ⟨r,d,⟨str_small 6 hr (by decide),hd⟩,rfl⟩
def x_s_l2Sign:FnX:=⟨6,[.tmp 2],
  .q [.i 2 0]
 (.q [.m 3 0,.op 4 (.bslice 1 [(.i 0),(.i 97),(.i 90),(.i 127),(.i 128),(.i 164),(.i 233),(.i 2047),(.i 2048),(.i 8364),(.i 1072),(.i 1102),(.i 1025),(.i 12354),(.i 12450),(.i 352),(.i 65535),(.i 65536),(.i 1114111)]),.op 5 (.call 70 [5,1] [(.t 3),(.t 4)]),.m 2 5]
 .ret)⟩
theorem r_s_l2Sign {Te:TE} (c_s_l1Int:C_s_l1Int Te):∀ (c:CurV) (hc:c.ok),∃ r0,(∃ (r:Int) (d:CurV),(d.ok)∧r0=(⟨[.one (iT r)],[d.enc]⟩:Res))∧RunFn Te x_s_l2Sign [.ptr c.enc] r0:=by
 intro c hc
 refine some_of (Nat.le_of_ble_eq_true rfl) (by rfl) ?_
 simp -implicitDefEqProofs (maxSteps:=1000000) only [x_s_l2Sign,go_sem]
 repeat refine ⟨sc,?_⟩
 try exact sf
 obtain ⟨r,d,⟨hr,hd⟩,ht⟩:=c_s_l1Int c [0,97,90,127,128,164,233,2047,2048,8364,1072,1102,1025,12354,12450,352,65535,65536,1114111] hc (by decide)
 refine C0 (ht) ?_
 exact ⟨r,d,hd,rfl⟩
def x_s_l5Sign:FnX:=⟨27,[.tmp 4],
  .q [.i 4 0]
 (.seq (.q [.m 7 1,.B 8 .eql 7 0]
 (.c 8 (.q [.m 9 0,.op 10 (.call 287 [5] [(.t 9)]),.m 4 10]
 .ret)))
 (.seq (.q [.m 11 1,.B 12 .eql 11 5]
 (.c 12 (.q [.m 13 0,.op 14 (.bslice 1 [(.i 97),(.i 32),(.i 12353),(.i 12435),(.i 12449),(.i 12534),(.i 12354)]),.op 15 (.call 70 [5,1] [(.t 13),(.t 14)]),.m 4 15]
 .ret)))
 (.q [.m 17 1,.m 18 0,.op 19 (.bslice 1 [(.i 65),(.i 97),(.i 32),(.i 164),(.i 192),(.i 200),(.i 228),(.i 255),(.i 163),(.i 128),(.i 130),(.i 189)]),.op 20 (.call 70 [5,1] [(.t 18),(.t 19)]),.c 21 274 [17,20],.m 16 21,.e 22 16 0,.e 23 16 1,.m 5 22,.m 6 23]
 (.seq (.q [.m 24 6,.N 25 24]
 (.c 25 (.q [.i 4 120]
 .ret)))
 (.q [.m 26 5,.m 4 26]
 .ret)))))⟩
theorem r_s_l5Sign {Te:TE} (c_s_l2Sign:C_s_l2Sign Te) (c_s_l1Int:C_s_l1Int Te) (c_s_ByteSign:C_s_ByteSign Te):∀ (c:CurV) (cs:Int) (hc:c.ok),∃ r0,(∃ (r:Int) (d:CurV),(d.ok)∧r0=(⟨[.one (iT r)],[d.enc,[iT cs]]⟩:Res))∧RunFn Te x_s_l5Sign [.ptr c.enc,.one (iT cs)] r0:=by
 intro c cs hc
 refine some_of (Nat.le_of_ble_eq_true rfl) (by rfl) ?_
 cases g0:(cs==0)
 ·cases g5:(cs==5)
  ·simp -implicitDefEqProofs (maxSteps:=1000000) only [x_s_l5Sign,go_sem,g0,g5]
   repeat refine ⟨sc,?_⟩
   try exact sf
   obtain ⟨r,d,⟨hr,hd⟩,ht⟩:=c_s_l1Int c [65,97,32,164,192,200,228,255,163,128,130,189] hc (by decide)
   refine C0 (ht) ?_
   refine C0 (c_s_ByteSign cs r) ?_
   cases g:(byteSign cs r).2
   ·refine G1 g ?_
    exact ⟨120,d,hd,rfl⟩
   ·refine G1 g ?_
    exact ⟨_,d,hd,rfl⟩
  ·simp -implicitDefEqProofs (maxSteps:=1000000) only [x_s_l5Sign,go_sem,g0,g5]
   repeat refine ⟨sc,?_⟩
   try exact sf
   obtain ⟨r,d,⟨hr,hd⟩,ht⟩:=c_s_l1Int c [97,32,12353,12435,12449,12534,12354] hc (by decide)
   refine C0 (ht) ?_
   exact ⟨r,d,hd,rfl⟩
 ·simp -implicitDefEqProofs (maxSteps:=1000000) only [x_s_l5Sign,go_sem,g0]
  repeat refine ⟨sc,?_⟩
  try exact sf
  obtain ⟨r,d,hd,ht⟩:=c_s_l2Sign c hc
  refine C0 (ht) ?_
  exact ⟨r,d,hd,rfl⟩
def x_s_l5Text:FnX:=⟨25,[.tmp 6],
  .q [.op 6 (.mv (.k (.one (.pv (.string ⟨#[]⟩)))))]
 (.q [.op 9 (.bslice 1 []),.m 7 9]
 (.seq (.q [.m 10 0,.m 11 2,.B 12 .add 11 1,.op 13 (.call 96 [5,0] [(.t 10),(.t 12)]),.m 8 13]
 (.block 0 (.loop [0,1,7,8] (.seq (.q [.m 14 8,.B 15 .gtr 14 0]
 (.cond 15 .skip (.exit 0)))
 (.seq (.block 1 (.reg [.m 18 7,.m 19 0,.m 20 1,.op 21 (.call 198 [5,0] [(.t 19),(.t 20)]),.c 22 189 [18,21],.m 7 22]))
 (.reg [.m 16 8,.B 17 .sub 16 1,.m 8 17]))))))
 (.norm [7] (.q [.m 23 7,.op 24 (.conv .b2s (.t 23)),.m 6 24]
 .ret))))⟩
theorem r_s_l5Text {Te:TE} (c_s_l1Below:C_s_l1Below Te) (c_s_l5Sign:C_s_l5Sign Te) (c_s_PutSign:C_s_PutSign Te):∀ (c:CurV) (cs most:Int) (hc:c.ok) (hm:0≤most∧most≤100),∃ r0,(∃ (r:ByteArray) (d:CurV),(r.size≤4 * most.toNat∧d.ok)∧r0=(⟨[.one (sT r)],[d.enc,[iT cs],[iT most]]⟩:Res))∧RunFn Te x_s_l5Text [.ptr c.enc,.one (iT cs),.one (iT most)] r0:=by
 intro c cs most hc hm
 refine some_of (Nat.le_of_ble_eq_true rfl) (by rfl) ?_
 have w1:IntKind.i64.wrap (most + 1)=most + 1:=IntWalk.i64_in _ (by omega)
 simp -implicitDefEqProofs (maxSteps:=1000000) only [x_s_l5Text,go_sem,w1]
 repeat refine ⟨sc,?_⟩
 try exact sf
 obtain ⟨k,d0,⟨hk,hd0⟩,ht⟩:=c_s_l1Below c (most + 1) hc
 have hk1:=hk.2.1 (by omega)
 obtain ⟨K,rfl⟩:∃ K:Nat,k=K:=⟨k.toNat,by omega⟩
 refine C0 (ht) ?_
 refine loop_of (σ:=Nat×List UInt8×CurV) (fun x=>⟨[(0,.bp 0 0),(1,.one (.pv (.int .i64 cs))),(7,.one (.rf 28 0 [] 1 0 x.2.1.length)),(8,.one (.pv (.int .i64 x.1)))],[(0,[.ro 1 (x.2.2.b.map uR),.pv (.int .i64 x.2.2.i),.pv (.int .i64 x.2.2.h)])],[(0,c.enc),(1,[iT cs]),(2,[iT most]),(28,[slT true 1 uR x.2.1])]⟩) (fun x=>x.1≤K∧x.2.1.length≤4 * (K - x.1)∧x.2.2.ok) (fun x=>x.1) (K,[],d0) ?_ ⟨Nat.le_refl _,Nat.zero_le _,hd0⟩ ?_
 ·simp -implicitDefEqProofs (maxSteps:=1000000) only [go_sem]
  rfl
 ·rintro ⟨i,b,d⟩ ⟨hi,hb,hd⟩
  simp only at hi hb hd
  cases q:decide ((i:Int) > 0)
  ·refine G1 q ?_
   have hi0:i=0:=by simp only [decide_eq_false_iff_not] at q; omega
   refine ⟨areBytes_uL b,⟨(bytesOf (b.map uR)).toArray⟩,d,⟨?_,hd⟩,rfl⟩
   show (bytesOf (b.map uR)).length≤_
   rw [bytesOf_uL]
   omega
  ·simp only [decide_eq_true_eq] at q
   have w2:IntKind.i64.wrap ((i:Int) - 1)=((i - 1:Nat):Int):=by rw [IntWalk.i64_in _ (by omega)]; omega
   obtain ⟨r,d1,hd1,ht⟩:=c_s_l5Sign d cs hd
   have q':decide ((i:Int) > 0)=true:=decide_eq_true q
   refine G1 q' ?_
   refine C0 (ht) ?_
   refine C1 (c_s_PutSign b r (by omega)) w2 ?_
   have hl:=putSign_len b r
   exact ⟨(i - 1,putSign b r,d1),rfl,⟨by simp only; omega,by simp only; omega,hd1⟩,by simp only; omega⟩
def x_s_DevNew:FnX:=⟨22,[.cell 2 (some 4)],
  .q [.op 2 (.alloc [.nils 1,.nils 2,.i 0,.F])]
 (.seq (.q [.m 5 0,.op 6 (.call 120 [0,0,0] [(.t 5),(.i 1),(.i 64)]),.N 7 6]
 (.c 7 (.q [.op 8 (.build [.nils 1,.nils 2,.i 0,.F] []),.s 100001 4 2 8]
 .ret)))
 (.q [.op 9 (.build [.nils 1,.nils 2,.i 0,.F] [(2,1,(.i (-1)))]),.op 3 (.alloc [.nils 1,.nils 2,.i 0,.F]),.s 100002 4 3 9]
 (.seq (.q [.i 4 0]
 (.up 3 0 300000 (.block 0 (.loop [0,2,3,4] (.seq (.q [.m 10 4,.m 11 0,.b 12 .lss 10 11]
 (.cond 12 .skip (.exit 0)))
 (.seq (.block 1 (.reg [.f 15 3 0,.l 16 15,.op 17 (.bslice 1 []),.op 18 (.bslice 1 [(.t 17)]),.op 19 (.app 1 24 (.t 16) (.t 18)),.f 20 3 0,.s 100003 1 20 19]))
 (.reg [.m 13 4,.B 14 .add 13 1,.m 4 14])))))))
 (.norm [2,3] (.q [.L 21 4 3,.s 100004 4 2 21]
 .ret)))))⟩
theorem r_s_DevNew {Te:TE} (c_s_l1In:C_s_l1In Te):C_s_DevNew (RF Te x_s_DevNew):=by
 intro n
 refine X0 x_s_DevNew.eq_1 ?_
 refine C0 (c_s_l1In _ _ _) ?_
 cases g:win n 1 64
 ·have e:devNew n=⟨[],[],0,false⟩:=by rw [devNew,g]; rfl
  exact F1 e
 ·have e:devNew n=⟨List.replicate n.toNat [],[],-1,false⟩:=by rw [devNew,g]; rfl
  have g':=g
  simp only [win,Bool.and_eq_true,decide_eq_true_eq] at g'
  refine G0 ?_
  refine loop_of (σ:=Nat×List (List UInt8)) (fun x=>⟨[(0,.one (.pv (.int .i64 n))),(2,.bp 2 0),(3,.bp 3 0),(4,.one (.pv (.int .i64 x.1)))],[(2,[.nils 1,.nils 2,.pv (.int .i64 0),.pv (.bool false)]),(3,[.rf 23 0 [] 1 0 x.2.length,.nils 2,.pv (.int .i64 (-1)),.pv (.bool false)])],[(0,[iT n]),(23,[slT true 1 (secR true) x.2])]⟩) (fun x=>x.1≤n.toNat∧x.2=List.replicate x.1 []) (fun x=>n.toNat - x.1) (0,[]) ?_ ⟨Nat.zero_le _,rfl⟩ ?_
  ·simp -implicitDefEqProofs (maxSteps:=1000000) only [go_sem]
   try rfl
  ·rintro ⟨i,l⟩ ⟨hi,he⟩
   simp only at hi he
   have hl:l.length=i:=by rw [he,List.length_replicate]
   cases q:decide ((i:Int) < n)
   ·have k0:i=n.toNat:=by simp only [decide_eq_false_iff_not] at q; omega
    have e2:devNew n=⟨l,[],-1,false⟩:=by rw [e,he,k0]
    exact F2 q e2
   ·have k1:i < n.toNat:=by simp only [decide_eq_true_eq] at q; omega
    have ea:List.map (secR true) l++[[Tr.sl true 1 () []]]=List.map (secR true) (l++[[]]):=app1S l []
    refine G2 q ea ?_
    refine ⟨(i + 1,l++[[]]),?_,⟨k1,by rw [he,rep_step]⟩,by simp only; omega⟩
    rw [IntWalk.i64_in _ (by omega)]
    simp only [List.length_append]
    rfl
def x_i_copyDev:FnX:=⟨50,[.cell 2 (some 4)],
  .q [.v 1 0,.op 2 (.alloc [.nils 1,.nils 2,.i 0,.F])]
 (.q [.f 8 1 2,.l 9 8,.f 10 1 3,.l 11 10,.op 12 (.build [.nils 1,.nils 2,.i 0,.F] [(2,1,(.t 9)),(3,1,(.t 11))]),.op 3 (.alloc [.nils 1,.nils 2,.i 0,.F]),.s 100001 4 3 12]
 (.seq (.q [.f 13 1 0,.l 14 13,.n 15 14,.i 16 0]
 (.up 3 1 300001 (.up 3 0 300000 (.block 0 (.loop [1,2,3,14,15,16] (.q [.b 17 .lss 16 15]
 (.seq (.cond 17 .skip (.exit 0))
 (.seq (.block 1 (.q [.x 18 1 14 16,.l 19 18,.m 5 19]
 (.draw [.f 20 3 0,.l 21 20,.m 22 5,.op 23 (.bslice 1 [(.t 22)]),.c 24 100 [23],.op 25 (.bslice 1 [(.t 24)]),.op 26 (.app 1 24 (.t 21) (.t 25)),.f 27 3 0,.s 100002 1 27 26] [[],[0],[],[2],[3],[4],[1,5,4],[0,1,2,3,4,5,6],[7,6,6,0,1,2,3,4,5,6]])))
 (.reg [.B 28 .add 16 1,.m 16 28])))))))))
 (.norm [1,2,3] (.seq (.q [.f 29 1 1,.l 30 29,.n 31 30,.i 32 0]
 (.block 2 (.loop [2,3,30,31,32] (.q [.b 33 .lss 32 31]
 (.seq (.cond 33 .skip (.exit 2))
 (.seq (.block 3 (.q [.x 34 2 30 32,.L 35 2 34,.op 7 (.alloc [.i 0,.nils 1]),.s 100003 2 7 35]
 (.draw [.f 36 3 1,.l 37 36,.f 38 7 0,.l 39 38,.f 40 7 1,.l 41 40,.op 42 (.bslice 1 [(.t 41)]),.c 43 100 [42],.op 44 (.build [.i 0,.nils 1] [(0,1,(.t 39)),(1,1,(.t 43))]),.op 45 (.bslice 2 [(.t 44)]),.op 46 (.app 2 32 (.t 37) (.t 45)),.f 47 3 1,.s 100004 1 47 46] [[],[0],[],[2],[],[4],[5],[6],[3,7],[8],[1,9,7],[0,1,2,3,4,5,6,7,8,9,10],[11,10,10,0,1,2,3,4,5,6,7,8,9,10]])))
 (.reg [.B 48 .add 32 1,.m 32 48])))))))
 (.norm [2,3] (.q [.L 49 4 3,.s 100005 4 2 49]
 .ret))))))⟩
theorem r_i_copyDev {Te:TE} (c_i_joined:C_i_joined Te):C_i_copyDev (RF Te x_i_copyDev):=by
 intro d h
 obtain ⟨⟨hS,hSl⟩,hC,hCl⟩:=h
 refine X0 x_i_copyDev.eq_1 ?_
 refine loop_of (σ:=Nat×List (List UInt8)) (fun x=>⟨[(1,.bp 1 0),(2,.bp 2 0),(3,.bp 3 0),(14,.one (.ro 1 (d.Secs.map (secR false)))),(15,.one (.pv (.int .i64 d.Secs.length))),(16,.one (.pv (.int .i64 x.1)))],[(1,[.ro 1 (d.Secs.map (secR false)),.ro 2 (d.Cache.map (WrV.enc false)),.pv (.int .i64 d.Fuse),.pv (.bool d.Down)]),(2,[.nils 1,.nils 2,.pv (.int .i64 0),.pv (.bool false)]),(3,[.rf 51 0 [] 1 0 x.2.length,.rf 52 0 [] 2 0 0,.pv (.int .i64 d.Fuse),.pv (.bool d.Down)])],[(0,d.enc false),(51,[slT true 1 (secR true) x.2]),(52,[slT true 2 (WrV.enc true) []])]⟩) (fun x=>x.1≤d.Secs.length∧x.2=d.Secs.take x.1) (fun x=>d.Secs.length - x.1) (0,[]) ?_ ⟨Nat.zero_le _,rfl⟩ ?_
 ·simp -implicitDefEqProofs (maxSteps:=1000000) only [go_sem]
  try rfl
 ·rintro ⟨i,l⟩ ⟨hi,he⟩
  simp only at hi he
  have hl:l.length=i:=by rw [he,List.length_take]; omega
  cases q:decide ((i:Int) < (d.Secs.length:Int))
  ·have k0:i=d.Secs.length:=by simp only [decide_eq_false_iff_not] at q; omega
   rw [k0,List.take_length] at he
   subst he
   refine G1 q ?_
   refine loop_of (σ:=Nat×List WrV) (fun x=>⟨[(2,.bp 2 0),(3,.bp 3 0),(30,.one (.ro 2 (d.Cache.map (WrV.enc false)))),(31,.one (.pv (.int .i64 d.Cache.length))),(32,.one (.pv (.int .i64 x.1)))],[(2,[.nils 1,.nils 2,.pv (.int .i64 0),.pv (.bool false)]),(3,[.rf 51 0 [] 1 0 d.Secs.length,.rf 52 0 [] 2 0 x.2.length,.pv (.int .i64 d.Fuse),.pv (.bool d.Down)])],[(0,d.enc false),(51,[slT true 1 (secR true) d.Secs]),(52,[slT true 2 (WrV.enc true) x.2])]⟩) (fun x=>x.1≤d.Cache.length∧x.2=d.Cache.take x.1) (fun x=>d.Cache.length - x.1) (0,[]) ?_ ⟨Nat.zero_le _,rfl⟩ ?_
   ·simp -implicitDefEqProofs (maxSteps:=1000000) only [go_sem]
    try rfl
   ·rintro ⟨j,m⟩ ⟨hj,hm⟩
    simp only at hj hm
    have hml:m.length=j:=by rw [hm,List.length_take]; omega
    cases q2:decide ((j:Int) < (d.Cache.length:Int))
    ·have k2:j=d.Cache.length:=by simp only [decide_eq_false_iff_not] at q2; omega
     rw [k2,List.take_length] at hm
     subst hm
     exact F1 q2
    ·have k2:j < d.Cache.length:=by simp only [decide_eq_true_eq] at q2; omega
     have hb:d.Cache[j].B.length≤2 ^ 21:=hCl _ (List.getElem_mem k2)
     have ea:=app1W m d.Cache[j]
     refine G2 q2 (List.getElem?_eq_getElem k2) ?_
     refine .of (c_i_joined [d.Cache[j].B] (by rw [flat1]; omega) (by show 1≤2 ^ 31; decide)) ?_
     try simp -implicitDefEqProofs (maxSteps:=1000000) only [go_sem,flat1,take_all,ea]
     repeat refine ⟨sc,?_⟩
     try exact sf
     refine ⟨(j + 1,m++[d.Cache[j]]),?_,⟨k2,by rw [hm,List.take_succ_eq_append_getElem k2]⟩,by simp only; omega⟩
     rw [IntWalk.i64_in _ (by omega)]
     simp only [List.length_append]
     rfl
  ·have k1:i < d.Secs.length:=by simp only [decide_eq_true_eq] at q; omega
   have hb:d.Secs[i].length≤2 ^ 21:=hSl _ (List.getElem_mem k1)
   have ea:=app1S l d.Secs[i]
   refine G2 q (List.getElem?_eq_getElem k1) ?_
   refine .of (c_i_joined [d.Secs[i]] (by rw [flat1]; omega) (by show 1≤2 ^ 31; decide)) ?_
   try simp -implicitDefEqProofs (maxSteps:=1000000) only [go_sem,flat1,take_all,ea]
   repeat refine ⟨sc,?_⟩
   try exact sf
   refine ⟨(i + 1,l++[d.Secs[i]]),?_,⟨k1,by rw [he,List.take_succ_eq_append_getElem k1]⟩,by simp only; omega⟩
   rw [IntWalk.i64_in _ (by omega)]
   simp only [List.length_append]
   rfl
def x_i_burn:FnX:=⟨18,[.cell 2 (some 4),.tmp 3],
  .q [.v 1 0,.op 2 (.alloc [.nils 1,.nils 2,.i 0,.F]),.F 3]
 (.seq (.q [.f 4 1 2,.l 5 4,.B 6 .eql 5 0]
 (.c 6 (.q [.f 7 1 3,⟨none,none,100001,.store 1 (.t 7) .T⟩,.f 8 1 2,⟨none,none,100002,.store 1 (.t 8) (.i (-1))⟩]
 (.q [.L 9 4 1,.s 100003 4 2 9,.F 3]
 .ret))))
 (.seq (.q [.f 10 1 2,.l 11 10,.B 12 .gtr 11 0]
 (.c 12 (.reg [.f 13 1 2,.l 14 13,.B 15 .sub 14 1,.f 16 1 2,.s 100004 1 16 15])))
 (.q [.L 17 4 1,.s 100005 4 2 17,.T 3]
 .ret)))⟩
theorem r_i_burn {Te:TE}:C_i_burn (RF Te x_i_burn):=by
 intro d
 refine run0 ?_
 cases g:(d.Fuse==0)
 ·have g1:¬ d.Fuse=0:=by simpa using g
  cases g2:decide (d.Fuse > 0)
  ·have e:d.burn=d:=by rw [DevV.burn,if_neg g1,if_neg (by simpa using g2)]
   simp -implicitDefEqProofs (maxSteps:=1000000) only [x_i_burn,go_sem,g,g2,e,take_all]
   repeat refine ⟨sc,?_⟩
   try exact sf
   try rfl
  ·have e:d.burn=⟨d.Secs,d.Cache,IntKind.i64.wrap (d.Fuse - 1),d.Down⟩:=by rw [DevV.burn,if_neg g1,if_pos (by simpa using g2)]
   simp -implicitDefEqProofs (maxSteps:=1000000) only [x_i_burn,go_sem,g,g2,e,take_all]
   repeat refine ⟨sc,?_⟩
   try exact sf
   try rfl
 ·have g1:d.Fuse=0:=by simpa using g
  have e:d.burn=⟨d.Secs,d.Cache,-1,true⟩:=by rw [DevV.burn,if_pos g1]
  simp -implicitDefEqProofs (maxSteps:=1000000) only [x_i_burn,go_sem,g,e,take_all]
  repeat refine ⟨sc,?_⟩
  try exact sf
  try rfl
def x_s_l10Op:FnX:=⟨27,[.tmp 2],
  .q [.F 2]
 (.seq (.q [.m 3 0,.op 4 (.nilc (.t 3)),.f 5 4 2,.l 6 5,.B 7 .eql 6 0]
 (.c 7 (.q [.m 8 0,.op 9 (.nilc (.t 8)),.f 10 9 3,⟨none,none,100001,.store 1 (.t 10) .T⟩]
 (.q [.m 11 0,.op 12 (.nilc (.t 11)),.f 13 12 2,⟨none,none,100002,.store 1 (.t 13) (.i (-1))⟩]
 (.q [.F 2]
 .ret)))))
 (.seq (.q [.m 14 0,.op 15 (.nilc (.t 14)),.f 16 15 2,.l 17 16,.B 18 .gtr 17 0]
 (.c 18 (.reg [.m 19 0,.m 20 0,.op 21 (.nilc (.t 20)),.f 22 21 2,.l 23 22,.B 24 .sub 23 1,.op 25 (.nilc (.t 19)),.f 26 25 2,.s 100003 1 26 24])))
 (.q [.T 2]
 .ret)))⟩
theorem r_s_l10Op {Te:TE}:C_s_l10Op (RF Te x_s_l10Op):=by
 intro d
 refine run0 ?_
 cases g:(d.Fuse==0)
 ·have g1:¬ d.Fuse=0:=by simpa using g
  cases g2:decide (d.Fuse > 0)
  ·have e:d.burn=d:=by rw [DevV.burn,if_neg g1,if_neg (by simpa using g2)]
   simp -implicitDefEqProofs (maxSteps:=1000000) only [x_s_l10Op,go_sem,g,g2,e,take_all]
   repeat refine ⟨sc,?_⟩
   try exact sf
   try rfl
  ·have e:d.burn=⟨d.Secs,d.Cache,IntKind.i64.wrap (d.Fuse - 1),d.Down⟩:=by rw [DevV.burn,if_neg g1,if_pos (by simpa using g2)]
   simp -implicitDefEqProofs (maxSteps:=1000000) only [x_s_l10Op,go_sem,g,g2,e,take_all]
   repeat refine ⟨sc,?_⟩
   try exact sf
   try rfl
 ·have g1:d.Fuse=0:=by simpa using g
  have e:d.burn=⟨d.Secs,d.Cache,-1,true⟩:=by rw [DevV.burn,if_pos g1]
  simp -implicitDefEqProofs (maxSteps:=1000000) only [x_s_l10Op,go_sem,g,e,take_all]
  repeat refine ⟨sc,?_⟩
  try exact sf
  try rfl
def x_i_WriteSec:FnX:=⟨56,[.cell 6 (some 4)],
  .q [.v 3 0,.op 6 (.alloc [.nils 1,.nils 2,.i 0,.F])]
 (.q [.L 9 4 3,.c 10 245 [9],.op 7 (.alloc [.nils 1,.nils 2,.i 0,.F]),.s 100001 4 7 10]
 (.seq (.q [.L 11 4 3,.c 12 178 [11],.N 13 12,.m 14 13,.z 14 (.f 15 3 3),.z 14 (.l 16 15),.r 17 14 16,.m 18 17,.z 18 (.m 19 1),.z 18 (.f 20 3 0),.z 18 (.l 21 20),.z 18 (.n 22 21),.z 18 (.B 23 .sub 22 1),.z 18 (.op 24 (.call 90 [0,0,0] [(.t 19),(.i 0),(.t 23)])),.z 18 (.N 25 24),.r 26 18 25,.m 27 26,.z 27 (.m 28 2),.z 27 (.n 29 28),.z 27 (.B 30 .gtr 29 120),.r 31 27 30,.m 32 31,.z 32 (.f 33 3 1),.z 32 (.l 34 33),.z 32 (.n 35 34),.z 32 (.B 36 .eql 35 40),.r 37 32 36]
 (.c 37 (.q [.L 38 4 7,.s 100002 4 6 38]
 .ret)))
 (.q [.L 40 4 7,.op 41 (.call 311 [1] [(.t 40)]),.m 39 41,.e 42 39 0,.e 43 39 1,.s 100003 4 7 42,.m 8 43]
 (.seq (.q [.m 44 8]
 (.c 44 (.draw [.f 45 7 1,.l 46 45,.m 47 1,.m 48 2,.op 49 (.bslice 1 [(.t 48)]),.c 50 100 [49],.op 51 (.build [.i 0,.nils 1] [(0,1,(.t 47)),(1,1,(.t 50))]),.op 52 (.bslice 2 [(.t 51)]),.op 53 (.app 2 32 (.t 46) (.t 52)),.f 54 7 1,.s 100004 1 54 53] [[],[0],[],[],[3],[4],[2,5],[6],[1,7,5],[0,1,2,3,4,5,6,7,8],[9,8,8,0,1,2,3,4,5,6,7,8]])))
 (.q [.L 55 4 7,.s 100005 4 6 55]
 .ret)))))⟩
theorem r_i_WriteSec {Te:TE} (c_i_copyDev:C_i_copyDev Te) (c_i_DevOk:C_i_DevOk Te) (c_i_within:C_i_within Te) (c_i_burn:C_i_burn Te) (c_i_joined:C_i_joined Te):C_i_WriteSec (RF Te x_i_WriteSec):=by
 intro d n b hk hb
 have hin:=DevV.ok_in hk
 have hL:=hin.len (by decide)
 have hl:=hin.1.1
 have h40:=DevV.ok_cache hk
 have ws:IntKind.i64.wrap ((d.Secs.length:Int) - 1)=(d.Secs.length:Int) - 1:=IntWalk.i64_in _ (by omega)
 refine X0 x_i_WriteSec.eq_1 ?_
 refine C0 (c_i_copyDev d hL) ?_
 refine C1 (c_i_DevOk d (hin.mono (by decide))) hk ?_
 cases g1:d.Down
 rotate_left
 ·have e:=full_down (n:=n) (b:=b) g1
  try simp -implicitDefEqProofs (maxSteps:=1000000) only [go_sem,g1,e,take_all,DevV.enc]
  repeat refine ⟨sc,?_⟩
  try exact sf
  try rfl
 refine G2 g1 ws ?_
 refine C0 (c_i_within _ _ _) ?_
 cases g2:win n 0 ((d.Secs.length:Int) - 1)
 ·have e:=full_win (b:=b) g2
  try simp -implicitDefEqProofs (maxSteps:=1000000) only [go_sem,e,take_all,g1,DevV.enc]
  repeat refine ⟨sc,?_⟩
  try exact sf
  try rfl
 cases g3:decide ((b.length:Int) > 120)
 rotate_left
 ·have e:=full_len (d:=d) (n:=n) g3
  try simp -implicitDefEqProofs (maxSteps:=1000000) only [go_sem,g3,e,take_all,g1,DevV.enc]
  repeat refine ⟨sc,?_⟩
  try exact sf
  try rfl
 cases g4:decide ((d.Cache.length:Int)≥40)
 rotate_left
 ·have g5:((d.Cache.length:Int)==40)=true:=by simp only [decide_eq_true_eq] at g4; simp only [beq_iff_eq]; omega
  have e:=full_cache (n:=n) (b:=b) g4
  try simp -implicitDefEqProofs (maxSteps:=1000000) only [go_sem,g3,g5,e,take_all,g1,DevV.enc]
  repeat refine ⟨sc,?_⟩
  try exact sf
  try rfl
 have g5:((d.Cache.length:Int)==40)=false:=by simp only [decide_eq_false_iff_not] at g4; simp only [beq_eq_false_iff_ne]; omega
 have e:=not_full g1 g2 g3 g4
 refine G2 g3 g5 ?_
 have tb:=c_i_burn d
 simp only [DevV.enc,g1] at tb
 have bc:=burn_cache d
 have g40:d.burn.Cache.length < 40:=by rw [bc]; simp only [decide_eq_false_iff_not] at g4; omega
 cases g6:(d.Fuse==0)
 ·have g7:¬ d.Fuse=0:=by simpa using g6
  rw [if_neg g7] at e
  have ea:=app1W d.burn.Cache ⟨n,b⟩
  have et:List.take (d.burn.Cache.length + 1) (List.map (WrV.enc true) (d.burn.Cache++[⟨n,b⟩]))=List.map (WrV.enc true) (d.burn.Cache++[⟨n,b⟩]):=List.take_of_length_le (by simp)
  refine C1 (tb) g6 ?_
  refine .of (c_i_joined [b] (by rw [flat1]; omega) (by show 1≤2 ^ 31; decide)) ?_
  try simp -implicitDefEqProofs (maxSteps:=1000000) only [go_sem,flat1,take_all,ea,et,e,g1,DevV.put,DevV.enc]
  repeat refine ⟨sc,?_⟩
  try exact sf
  try rfl
 ·have g7:d.Fuse=0:=by simpa using g6
  rw [if_pos g7] at e
  refine .of (tb) ?_
  try simp -implicitDefEqProofs (maxSteps:=1000000) only [go_sem,g6,take_all,e,g1,DevV.enc]
  repeat refine ⟨sc,?_⟩
  try exact sf
  try rfl
def x_i_Encode:FnX:=⟨44,[.tmp 4,.tmp 5],
  .q [.op 4 (.mv (.k (.one (.nils 1)))),.F 5]
 (.q [.m 14 1,.c 15 350 [14],.m 13 15,.e 16 13 0,.e 17 13 1,.m 6 16,.m 7 17]
 (.seq (.q [.m 18 0,.c 19 184 [18],.N 20 19,.m 21 20,.z 21 (.m 22 7),.z 21 (.N 23 22),.r 24 21 23]
 (.c 24 (.q [.op 4 (.mv (.k (.one (.nils 1)))),.F 5]
 .ret)))
 (.q [.op 25 (.bslice 1 []),.m 8 25]
 (.seq (.q [.m 26 6,.n 27 26,.i 28 0]
 (.block 0 (.loop [0,8,26,27,28] (.q [.b 29 .lss 28 27]
 (.seq (.cond 29 .skip (.exit 0))
 (.seq (.block 1 (.q [.x 30 1 26 28,.l 31 30,.m 10 31]
 (.q [.m 33 0,.m 34 8,.m 35 10,.op 36 (.call 351 [0,1,0] [(.t 33),(.t 34),(.t 35)]),.m 32 36,.e 37 32 0,.e 38 32 1,.m 11 37,.m 12 38]
 (.seq (.q [.m 39 12,.N 40 39]
 (.c 40 (.q [.op 4 (.mv (.k (.one (.nils 1)))),.F 5]
 .ret)))
 (.reg [.m 41 11,.m 8 41])))))
 (.reg [.B 42 .add 28 1,.m 28 42])))))))
 (.norm [8] (.q [.m 43 8,.m 4 43,.T 5]
 .ret))))))⟩
theorem r_i_Encode {Te:TE} (c_i_Signs:C_i_Signs Te) (c_i_isSet:C_i_isSet Te) (c_i_putIn:C_i_putIn Te):C_i_Encode (RF Te x_i_Encode):=by
 intro cs s hs
 have hl:=signsOf_len s
 refine X0 x_i_Encode.eq_1 ?_
 refine C0 (c_i_Signs s (by omega)) ?_
 refine C0 (c_i_isSet cs) ?_
 cases g1:win cs 0 5
 ·have e:encode cs s=([],false):=by rw [encode,g1]; rfl
  exact F1 e
 cases g2:(signsOf s).2
 ·have e:encode cs s=([],false):=by rw [encode,g1,g2]; rfl
  exact F2 g2 e
 have e:encode cs s=encGo cs [] (signsOf s).1:=by rw [encode,g1,g2]; rfl
 refine G1 g2 ?_
 rw [e]
 generalize (signsOf s).1=L at hl
 refine loop_of (σ:=Nat×List UInt8×List T) (fun x=>⟨[(0,.one (.pv (.int .i64 cs))),(8,.one (.rf 46 0 [] 1 0 x.2.1.length)),(26,.one (.rf 47 0 [] 1 0 L.length)),(27,.one (.pv (.int .i64 L.length))),(28,.one (.pv (.int .i64 x.1)))],[],[(0,[iT cs]),(1,[sT s]),(46,slT true 1 uR x.2.1::x.2.2),(47,[slT true 1 iR L,bT true])]⟩) (fun x=>x.1≤L.length∧x.2.1.length≤4 * x.1∧encGo cs x.2.1 (L.drop x.1)=encGo cs [] L) (fun x=>L.length - x.1) (0,[],[]) ?_ ⟨Nat.zero_le _,Nat.le_refl _,rfl⟩ ?_
 ·simp -implicitDefEqProofs (maxSteps:=1000000) only [go_sem]
  try rfl
 ·rintro ⟨i,b,E⟩ ⟨hi,hb,hg⟩
  simp only at hi hb hg
  cases q:decide ((i:Int) < (L.length:Int))
  ·have hd:L.drop i=[]:=List.drop_eq_nil_of_le (by simp only [decide_eq_false_iff_not] at q; omega)
   rw [hd,encGo] at hg
   rw [← hg]
   exact F1 q
  ·have k1:i < L.length:=by simp only [decide_eq_true_eq] at q; omega
   have hp:=putIn_len cs b L[i]
   rw [List.drop_eq_getElem_cons k1,encGo] at hg
   try simp -implicitDefEqProofs (maxSteps:=1000000) only [go_sem,q,List.getD_eq_getElem?_getD,List.getElem?_eq_getElem k1,take_rows]
   repeat refine ⟨sc,?_⟩
   try exact sf
   refine C0 (c_i_putIn cs b L[i] (by omega)) ?_
   cases g:(putIn cs b L[i]).2
   ·rw [g] at hg
    rw [← hg]
    exact F1 g
   ·rw [g] at hg
    refine G1 g ?_
    refine ⟨(i + 1,(putIn cs b L[i]).1,[bT true]),?_,⟨k1,by simp only; omega,hg⟩,by simp only; omega⟩
    rw [IntWalk.i64_in _ (by omega)]
    rfl
def x_s_Encode:FnX:=⟨47,[.tmp 4,.tmp 5],
  .q [.op 4 (.mv (.k (.one (.nils 1)))),.F 5]
 (.q [.op 12 (.bslice 1 []),.m 6 12]
 (.q [.m 14 1,.c 15 265 [14],.m 13 15,.e 16 13 0,.e 17 13 1,.m 7 16,.m 8 17]
 (.seq (.q [.m 18 0,.c 19 187 [18],.N 20 19,.m 21 20,.z 21 (.m 22 8),.z 21 (.N 23 22),.r 24 21 23]
 (.c 24 (.q [.m 25 6,.m 4 25,.F 5]
 .ret)))
 (.seq (.q [.i 9 0]
 (.block 0 (.loop [0,6,7,9] (.seq (.q [.m 26 9,.m 27 7,.n 28 27,.b 29 .lss 26 28]
 (.cond 29 .skip (.exit 0)))
 (.seq (.block 1 (.q [.m 33 0,.m 34 6,.m 35 7,.m 36 9,.x 37 1 35 36,.l 38 37,.c 39 266 [33,34,38],.m 32 39,.e 40 32 0,.e 41 32 1,.m 10 40,.m 11 41]
 (.seq (.q [.m 42 11,.N 43 42]
 (.c 43 (.q [.op 44 (.bslice 1 []),.m 4 44,.F 5]
 .ret)))
 (.reg [.m 45 10,.m 6 45]))))
 (.reg [.m 30 9,.B 31 .add 30 1,.m 9 31]))))))
 (.norm [6] (.q [.m 46 6,.m 4 46,.T 5]
 .ret))))))⟩
theorem r_s_Encode {Te:TE} (c_s_Signs:C_s_Signs Te) (c_s_l5Cs:C_s_l5Cs Te) (c_s_l5Put:C_s_l5Put Te):C_s_Encode (RF Te x_s_Encode):=by
 intro cs s hs
 have hl:=signsOf_len s
 have ho:=signsOf_ok s
 refine X0 x_s_Encode.eq_1 ?_
 refine C0 (c_s_Signs s hs) ?_
 refine C0 (c_s_l5Cs cs) ?_
 cases g1:win cs 0 5
 ·have e:encode cs s=([],false):=by rw [encode,g1]; rfl
  exact F1 e
 cases g2:(signsOf s).2
 ·have e:encode cs s=([],false):=by rw [encode,g1,g2]; rfl
  exact F2 g2 e
 have e:encode cs s=encGo cs [] (signsOf s).1:=by rw [encode,g1,g2]; rfl
 refine G1 g2 ?_
 rw [e]
 generalize (signsOf s).1=L at hl ho
 refine loop_of (σ:=Nat×List UInt8×List T) (fun x=>⟨[(0,.one (.pv (.int .i64 cs))),(6,.one (.rf 49 0 [] 1 0 x.2.1.length)),(7,.one (.rf 50 0 [] 1 0 L.length)),(9,.one (.pv (.int .i64 x.1)))],[],[(0,[iT cs]),(1,[sT s]),(49,slT true 1 uR x.2.1::x.2.2),(50,[slT true 1 iR L,bT true])]⟩) (fun x=>x.1≤L.length∧x.2.1.length≤4 * x.1∧encGo cs x.2.1 (L.drop x.1)=encGo cs [] L) (fun x=>L.length - x.1) (0,[],[]) ?_ ⟨Nat.zero_le _,Nat.le_refl _,rfl⟩ ?_
 ·simp -implicitDefEqProofs (maxSteps:=1000000) only [go_sem]
  try rfl
 ·rintro ⟨i,b,E⟩ ⟨hi,hb,hg⟩
  simp only at hi hb hg
  cases q:decide ((i:Int) < (L.length:Int))
  ·have hd:L.drop i=[]:=List.drop_eq_nil_of_le (by simp only [decide_eq_false_iff_not] at q; omega)
   rw [hd,encGo] at hg
   rw [← hg]
   exact F1 q
  ·have k1:i < L.length:=by simp only [decide_eq_true_eq] at q; omega
   have hp:=putIn_len cs b L[i]
   rw [List.drop_eq_getElem_cons k1,encGo] at hg
   try simp -implicitDefEqProofs (maxSteps:=1000000) only [go_sem,q,List.getD_eq_getElem?_getD,List.getElem?_eq_getElem k1,take_rows]
   repeat refine ⟨sc,?_⟩
   try exact sf
   refine .of (c_s_l5Put cs b L[i] (by omega) (ho _ (List.getElem_mem k1))) ?_
   try simp -implicitDefEqProofs (maxSteps:=1000000) only [go_sem]
   repeat refine ⟨sc,?_⟩
   try exact sf
   cases g:(putIn cs b L[i]).2
   ·rw [g] at hg
    rw [← hg]
    exact F1 g
   ·rw [g] at hg
    refine G1 g ?_
    refine ⟨(i + 1,(putIn cs b L[i]).1,[bT true]),?_,⟨k1,by simp only; omega,hg⟩,by simp only; omega⟩
    rw [IntWalk.i64_in _ (by omega)]
    rfl
def x_i_CellOf:FnX:=⟨27,[.cell 4 (some 2),.tmp 5],
  .q [.op 4 (.alloc [.i 0,.nils 1]),.F 5]
 (.q [.m 10 0,.m 11 1,.c 12 303 [10,11],.m 9 12,.e 13 9 0,.e 14 9 1,.m 6 13,.m 7 14]
 (.q [.m 15 0,.m 16 6,.op 17 (.build [.i 0,.nils 1] [(0,1,(.t 15)),(1,1,(.t 16))]),.op 8 (.alloc [.i 0,.nils 1]),.s 100001 2 8 17]
 (.seq (.q [.m 18 7,.N 19 18,.m 20 19,.z 20 (.L 21 2 8),.z 20 (.c 22 261 [21]),.z 20 (.N 23 22),.r 24 20 23]
 (.c 24 (.q [.op 25 (.build [.i 0,.nils 1] []),.s 100002 2 4 25,.F 5]
 .ret)))
 (.q [.L 26 2 8,.s 100003 2 4 26,.T 5]
 .ret))))⟩
theorem r_i_CellOf {Te:TE} (c_i_Encode:C_i_Encode Te) (c_i_CellOk:C_i_CellOk Te):C_i_CellOf (RF Te x_i_CellOf):=by
 intro tag s hs
 have hl:=encode_len tag s
 refine X0 x_i_CellOf.eq_1 ?_
 refine C0 (c_i_Encode tag s hs) ?_
 cases g:(encode tag s).2
 ·have e:=cellOf_no g
  exact F2 g e
 have gt:=encode_tag g
 refine G1 g ?_
 refine C0 (c_i_CellOk ⟨tag,(encode tag s).1⟩) ?_
 cases g2:decide (((encode tag s).1.length:Int)≤20)
 ·have e:=cellOf_big g2
  try simp -implicitDefEqProofs (maxSteps:=1000000) only [go_sem,CellV.ok,gt,g2,e,take_rows]
  repeat refine ⟨sc,?_⟩
  try exact sf
  try rfl
 ·have e:=cellOf_yes g g2
  try simp -implicitDefEqProofs (maxSteps:=1000000) only [go_sem,CellV.ok,gt,g2,e,take_rows]
  repeat refine ⟨sc,?_⟩
  try exact sf
  try rfl
def x_z_DeleteFuncimplApply1:FnX:=⟨42,[.tmp 4],
  .q [.op 4 (.mv (.k (.one (.nils 7))))]
 (.q [.m 8 0,.m 9 1,.op 10 (.vcall 175 309 [0,15] [(.t 8)] (.t 9)),.m 5 10]
 (.seq (.q [.m 11 5,.B 12 .eql 11 (-1)]
 (.c 12 (.q [.m 13 0,.m 4 13]
 .ret)))
 (.seq (.q [.m 14 5,.B 15 .add 14 1,.m 6 15]
 (.block 0 (.loop [0,1,5,6] (.seq (.q [.m 16 6,.m 17 0,.n 18 17,.b 19 .lss 16 18]
 (.cond 19 .skip (.exit 0)))
 (.seq (.block 1 (.q [.m 22 0,.m 23 6,.x 24 7 22 23,.L 25 7 24,.op 7 (.alloc [.e,.i 0,.nils 1,.i 0,.nils 1,.i 0,.F]),.s 100001 7 7 25]
 (.q [.m 26 1,.L 27 7 7,.op 28 (.dcall 309 [0,15] [(.t 27)] (.t 26)),.N 29 28]
 (.c 29 (.q [.m 30 0,.m 31 5,.L 32 7 7,.x 33 7 30 31,.s 100002 7 33 32]
 (.reg [.m 34 5,.B 35 .add 34 1,.m 5 35]))))))
 (.reg [.m 20 6,.B 21 .add 20 1,.m 6 21]))))))
 (.norm [0,5] (.q [.m 36 0,.m 37 5,.op 38 (.slice 7 (.t 36) (some (.t 37)) none),⟨none,none,100003,.clear 7 [.pv (.string ⟨#[]⟩),.pv (.int .i64 0),.sl true 1 () [],.pv (.int .i64 0),.sl true 1 () [],.pv (.int .i64 0),.pv (.bool false)] (.t 38)⟩]
 (.q [.m 39 0,.m 40 5,.op 41 (.slice 7 (.t 39) none (some (.t 40))),.m 4 41]
 .ret))))))⟩
theorem r_z_DeleteFuncimplApply1 {Te:TE} (c_z_IndexFuncimplApply1:C_z_IndexFuncimplApply1 Te) (c_i_Apply1:C_i_Apply1 Te):C_z_DeleteFuncimplApply1 (RFV Te 309 x_z_DeleteFuncimplApply1):=by
 intro l r hl
 refine run0V ?_
 simp -implicitDefEqProofs (maxSteps:=1000000) only [x_z_DeleteFuncimplApply1,go_sem]
 repeat refine ⟨sc,?_⟩
 try exact sf
 refine C0 (c_z_IndexFuncimplApply1 l r (by omega)) ?_
 rcases rowAt_cases l r.Key with ⟨e1,e2⟩ | ⟨hk,e1,e2⟩
 ·have e:=delRows_none e1
  exact F2 e1 e
 have c1:((rowIx l r.Key:Int) == -1)=false:=by simp only [beq_eq_false_iff_ne]; omega
 have d1:=delRows_take hk
 refine G2 e1 c1 ?_
 refine loop_of (σ:=Nat×List RowV×List (List T)) (fun x=>⟨[(0,.one (.rf 0 0 [] 7 0 l.length)),(1,.fn 309 1 0),(5,.one (.pv (.int .i64 x.2.1.length))),(6,.one (.pv (.int .i64 x.1)))],[(1,[.pv (.int .i64 r.Kind),.pv (.string r.R.Key),.pv (.int .i64 r.R.Old.Tag),.dead,.pv (.int .i64 r.R.New.Tag),.dead,.pv (.int .i64 r.R.Has),.pv (.bool r.R.Aside),.pv (.string r.Key),.pv (.int .i64 r.N),.pv (.int .i64 r.Who),.pv (.int .i64 r.Seq),.pv (.int .i64 r.Code)])],[(0,[Tr.sl true 7 () (delSt l x.2.1 x.2.2 x.1)]),(1,r.dim)]⟩) (fun x=>x.1≤l.length∧x.2.1=delRows (l.take x.1) r.Key∧x.2.1.length + x.2.2.length=x.1∧x.2.2≠[]∧∀ y∈x.2.2,y.length=7) (fun x=>l.length - x.1) (rowIx l r.Key + 1,l.take (rowIx l r.Key),[l[rowIx l r.Key].enc true]) ?_ ⟨hk,d1.symm,by simp only [List.length_take,List.length_cons,List.length_nil]; omega,by simp,fun y hy=>by simp only [List.mem_cons,List.not_mem_nil,or_false] at hy; rw [hy]; rfl⟩ ?_
 ·have e3:delSt l (l.take (rowIx l r.Key)) [l[rowIx l r.Key].enc true] (rowIx l r.Key + 1)=l.map (RowV.enc true):=by
   simp only [delSt]
   rw [List.append_assoc,show ([l[rowIx l r.Key].enc true]++(l.drop (rowIx l r.Key + 1)).map (RowV.enc true))=(l.drop (rowIx l r.Key)).map (RowV.enc true) by rw [List.drop_eq_getElem_cons hk,List.map_cons]; rfl,← List.map_append,List.take_append_drop]
  have e4:(l.take (rowIx l r.Key)).length=rowIx l r.Key:=by rw [List.length_take]; omega
  simp -implicitDefEqProofs (maxSteps:=1000000) only [go_sem,e3,e4]
  rw [IntWalk.i64_in _ (by omega)]
  try rfl
 ·rintro ⟨j,k,m⟩ ⟨hj,hk',hm,hne,hm7⟩
  simp only at hj hk' hm hne hm7
  have el:=delSt_len hj hm
  cases q:decide ((j:Int) < (l.length:Int))
  ·have k0:j=l.length:=by simp only [decide_eq_false_iff_not] at q; omega
   subst k0
   rw [List.take_length] at hk'
   refine G2 q el ?_
   have hkl:k.length≤l.length:=by omega
   have eA:List.take k.length (delSt l k m l.length)=k.map (RowV.enc true):=by
    rw [delSt,List.append_assoc]
    exact List.take_left' (by simp)
   refine ⟨decide_eq_true (by simp only [List.length_take,el,List.length_drop]; omega),?_⟩
   rw [eA,Nat.sub_zero,List.append_assoc,List.take_left' (by simp),← hk']
   try rfl
  ·have k1:j < l.length:=by simp only [decide_eq_true_eq] at q; omega
   have eg:=delSt_get k1 hm
   have ed:(delSt l k m j).getD j []=l[j].enc true:=by rw [List.getD_eq_getElem?_getD,eg]; rfl
   refine G4 q eg ed el ?_
   refine C3 (c_i_Apply1 l[j] r) eg ed el ?_
   have st:=delRows_step (key:=r.Key) k1
   rw [← hk'] at st
   cases g:decide (l[j].Key=r.Key)
   ·obtain ⟨x,m',rfl⟩:∃ x m',m=x::m':=by
     cases m with
     | nil=>exact absurd rfl hne
     | cons x m'=>exact ⟨x,m',rfl⟩
    have e5:∀ X:List T,((delSt l k (x::m') j).set j X)[j]?=some X:=fun X=>List.getElem?_set_self (by rw [el]; exact k1)
    have e6:(j==k.length)=false:=by simp only [beq_eq_false_iff_ne]; simp only [List.length_cons] at hm; omega
    have hx7:=hm7 x (List.mem_cons_self ..)
    have e7:∀ X:List T,((delSt l k (x::m') j).set j X).getD k.length []=x:=fun X=>by
     rw [List.getD_eq_getElem?_getD,List.getElem?_set_ne (by simp only [List.length_cons] at hm; omega),← List.getD_eq_getElem?_getD,delSt_row]
    have e8:x.drop 7=[]:=List.drop_of_length_le (by omega)
    have e9:decide (k.length < l.length)=true:=decide_eq_true (by simp only [List.length_cons] at hm; omega)
    have e10:=delSt_move (k:=k) (m:=m') (x:=x) k1 hm
    simp only [goneR] at e10
    try simp -implicitDefEqProofs (maxSteps:=1000000) only [go_sem,g,eg,ed,el,e5,e6,List.set_set,List.length_set,take_rows]
    repeat refine ⟨sc,?_⟩
    try exact sf
    try simp -implicitDefEqProofs (maxSteps:=1000000) only [go_sem,storeAp,setCells,e5,e6,e7,e8,e9,e10,el,List.set_set,List.length_set,take_rows]
    repeat refine ⟨sc,?_⟩
    try exact sf
    refine ⟨(j + 1,k++[l[j]],m'++[goneR l[j]]),?_,⟨k1,by rw [st,g]; rfl,by simp only [List.length_append,List.length_cons,List.length_nil] at hm ⊢; omega,by simp,fun y hy=>by
     rcases List.mem_append.1 hy with hy | hy
     ·exact hm7 y (List.mem_cons_of_mem _ hy)
     ·simp only [List.mem_cons,List.not_mem_nil,or_false] at hy; rw [hy]; rfl⟩,by simp only; omega⟩
    rw [IntWalk.i64_in _ (by omega),IntWalk.i64_in _ (by simp only [List.length_cons] at hm; omega)]
    simp only [List.length_append]
    rfl
   ·refine G1 g ?_
    refine ⟨(j + 1,k,m++[l[j].enc true]),?_,⟨k1,by rw [st,g]; rfl,by simp only [List.length_append,List.length_cons,List.length_nil]; omega,by simp,fun y hy=>by
     rcases List.mem_append.1 hy with hy | hy
     ·exact hm7 y hy
     ·simp only [List.mem_cons,List.not_mem_nil,or_false] at hy; rw [hy]; rfl⟩,by simp only; omega⟩
    rw [IntWalk.i64_in _ (by omega),delSt_skip k1]
    rfl
def x_s_Sum:FnX:=⟨32,[.tmp 2],
  .q [.i 2 0]
 (.q [.i 3 65535]
 (.seq (.q [.i 4 0]
 (.block 0 (.loop [0,3,4] (.seq (.q [.m 6 4,.m 7 0,.n 8 7,.b 9 .lss 6 8]
 (.cond 9 .skip (.exit 0)))
 (.seq (.block 1 (.q [.m 12 3,.m 13 0,.m 14 4,.x 15 1 13 14,.l 16 15,.op 17 (.conv (.int .i64) (.t 16)),.op 18 (.bin .shl (.t 17) (.k (.one (.pv (.int .u64 8))))),.b 19 .xor 12 18,.m 3 19]
 (.q [.i 5 0]
 (.block 2 (.loop [0,3,4,5] (.seq (.q [.m 20 5,.B 21 .lss 20 8]
 (.cond 21 .skip (.exit 2)))
 (.seq (.block 3 (.q [.m 24 3,.op 25 (.bin .shl (.t 24) (.k (.one (.pv (.int .u64 1))))),.m 3 25]
 (.q [.m 26 3,.B 27 .gtr 26 65535]
 (.c 27 (.reg [.m 28 3,.B 29 .xor 28 69665,.m 3 29])))))
 (.reg [.m 22 5,.B 23 .add 22 1,.m 5 23]))))))))
 (.norm [0,3,4] (.reg [.m 10 4,.B 11 .add 10 1,.m 4 11])))))))
 (.norm [3] (.q [.m 30 3,.B 31 .and 30 65535,.m 2 31]
 .ret))))⟩
theorem r_s_Sum {Te:TE}:C_s_Sum (RF Te x_s_Sum):=by
 intro l h
 refine run0 ?_
 simp -implicitDefEqProofs (maxSteps:=1000000) only [x_s_Sum,go_sem]
 refine loop_of (σ:=Nat×Nat) (fun x=>⟨[(0,.one (.ro 1 (l.map uR))),(3,.one (.pv (.int .i64 x.2))),(4,.one (.pv (.int .i64 x.1)))],[],[(0,[slT false 1 uR l])]⟩) (fun x=>x.1≤l.length∧x.2 < 65536∧x.2=(l.take x.1).foldl sumByte 65535) (fun x=>l.length - x.1) (0,65535) ?_ ⟨Nat.zero_le _,by decide,rfl⟩ ?_
 ·simp -implicitDefEqProofs (maxSteps:=1000000) only [go_sem]; rfl
 ·rintro ⟨i,s⟩ ⟨hi,hs,he⟩
  simp only at hi hs he
  simp -implicitDefEqProofs (maxSteps:=1000000) only [go_sem]
  refine ⟨fun h=>?_,fun h=>?_⟩
  ·have hi':i < l.length:=by simp only [decide_eq_true_eq] at h; omega
   have hb:=l[i].toNat_lt
   have e1:IntKind.i64.wrap (l[i].toNat:Int)=(l[i].toNat:Int):=IntWalk.i64_in _ (by omega)
   have e2:IntKind.i64.wrap ((l[i].toNat:Int) * 2 ^ 8)=((256 * l[i].toNat:Nat):Int):=by rw [IntWalk.i64_in _ (by omega)]; omega
   simp -implicitDefEqProofs (maxSteps:=1000000) only [go_sem,List.getElem?_eq_getElem hi',min8,e1,e2,xor_nat s (256 * l[i].toNat) (by omega) (by omega)]
   have hx:=sumX_lt l[i] hs
   have e9:sumByte s l[i]=sumBits 8 (s ^^^ (256 * l[i].toNat)):=rfl
   generalize s ^^^ (256 * l[i].toNat)=S at *
   refine loop_of (σ:=Nat×Nat) (fun x=>⟨[(0,.one (.ro 1 (l.map uR))),(3,.one (.pv (.int .i64 x.2))),(4,.one (.pv (.int .i64 i))),(5,.one (.pv (.int .i64 x.1)))],[],[(0,[slT false 1 uR l])]⟩) (fun x=>x.1≤8∧x.2=sumBits x.1 S) (fun x=>8 - x.1) (0,S) ?_ ⟨Nat.zero_le _,rfl⟩ ?_
   ·simp -implicitDefEqProofs (maxSteps:=1000000) only [go_sem]; rfl
   ·rintro ⟨j,v⟩ ⟨hj,hv⟩
    simp only at hj hv
    have hz:v < 65536:=by rw [hv]; exact sumBits_lt j hx
    have e3:IntKind.i64.wrap ((v:Int) * 2 ^ 1)=((2 * v:Nat):Int):=by rw [IntWalk.i64_in _ (by omega)]; omega
    have e4:=xor_nat (2 * v) 69665 (by omega) (by decide)
    have e5:((69665:Nat):Int)=69665:=rfl
    rw [e5] at e4
    have e6:sumBits (j + 1) S=sumBit v:=by rw [hv]; rfl
    simp -implicitDefEqProofs (maxSteps:=1000000) only [go_sem]
    refine ⟨fun h=>?_,fun h=>?_⟩
    ·have hj':j < 8:=by simp only [decide_eq_true_eq] at h; omega
     simp -implicitDefEqProofs (maxSteps:=1000000) only [go_sem,show Nat.min 1 64=1 from rfl,e3]
     refine ⟨fun h6=>?_,fun h6=>?_⟩
     ·simp -implicitDefEqProofs (maxSteps:=1000000) only [go_sem,e4]
      refine ⟨(j + 1,2 * v ^^^ 69665),by rw [IntWalk.i64_in _ (by omega)]; rfl,⟨hj',?_⟩,by simp only; omega⟩
      rw [e6,sumBit,if_pos (by simp only [decide_eq_true_eq] at h6; omega)]
     ·refine ⟨(j + 1,2 * v),by rw [IntWalk.i64_in _ (by omega)]; rfl,⟨hj',?_⟩,by simp only; omega⟩
      rw [e6,sumBit,if_neg (by simp only [decide_eq_false_iff_not] at h6; omega)]
    ·have hj':j=8:=by simp only [decide_eq_false_iff_not] at h; omega
     subst hj'
     rw [← e9] at hv
     refine ⟨(i + 1,v),by rw [IntWalk.i64_in _ (by omega)]; rfl,⟨hi',hz,?_⟩,by simp only; omega⟩
     simp only
     rw [List.take_succ_eq_append_getElem hi',List.foldl_append,← he,hv,List.foldl_cons,List.foldl_nil]
  ·have hle:l.length≤i:=by simp only [decide_eq_false_iff_not] at h; omega
   rw [List.take_of_length_le hle] at he
   have e7:=and_nat s 65535 (by omega) (by decide)
   have e8:((65535:Nat):Int)=65535:=rfl
   rw [e8] at e7
   simp -implicitDefEqProofs (maxSteps:=1000000) only [go_sem,e7,sum,← he]
def x_i_PutW:FnX:=⟨16,[.tmp 4],
  .q [.op 4 (.mv (.k (.one (.nils 1))))]
 (.q [.m 5 0,.m 6 1,.op 7 (.bin .shr (.t 6) (.k (.one (.pv (.int .u64 8))))),.B 8 .and 7 255,.op 9 (.conv (.int .u8) (.t 8)),.m 10 1,.B 11 .and 10 255,.op 12 (.conv (.int .u8) (.t 11)),.op 13 (.bslice 1 [(.t 9),(.t 12)]),.op 14 (.bslice 1 [(.t 5),(.t 13)]),.c 15 100 [14],.m 4 15]
 .ret)⟩
theorem r_i_PutW {Te:TE} (c_i_joined:C_i_joined Te):C_i_PutW (RF Te x_i_PutW):=by
 intro b n h
 refine run0 ?_
 have e1:mkU (n.fdiv (2 ^ 8))=hiB n:=rfl
 simp -implicitDefEqProofs (maxSteps:=1000000) only [x_i_PutW,go_sem,min8,mkU_wrap,and255,e1]
 refine .of (c_i_joined [b,[hiB n,mkU n]] (by simp; omega) (by simp)) ?_
 have e2:[b,[hiB n,mkU n]].flatten=putW b n:=by simp [putW]
 simp -implicitDefEqProofs (maxSteps:=1000000) only [go_sem,e2]
def x_s_PutW:FnX:=⟨17,[.tmp 4],
  .q [.op 4 (.mv (.k (.one (.nils 1))))]
 (.q [.op 6 (.bslice 1 []),.m 7 0,.op 8 (.app 1 1 (.t 6) (.t 7)),.m 5 8]
 (.q [.m 9 5,.m 10 1,.op 11 (.bin .shr (.t 10) (.k (.one (.pv (.int .u64 8))))),.op 12 (.conv (.int .u8) (.t 11)),.m 13 1,.op 14 (.conv (.int .u8) (.t 13)),.op 15 (.bslice 1 [(.t 12),(.t 14)]),.op 16 (.app 1 1 (.t 9) (.t 15)),.m 4 16]
 .ret))⟩
theorem r_s_PutW {Te:TE}:C_s_PutW (RF Te x_s_PutW):=by
 intro b n h
 refine run0 ?_
 have e1:mkU (n.fdiv (2 ^ 8))=hiB n:=rfl
 have e2:List.take (b.length + 2) (List.map uR b++[[uT (hiB n)],[uT (mkU n)]])=List.map uR (putW b n):=by rw [List.take_of_length_le (by simp)]; simp [putW]
 simp -implicitDefEqProofs (maxSteps:=1000000) only [x_s_PutW,go_sem,min8,mkU_wrap,e1,e2]
 exact ⟨⟨decide_eq_true (by omega),decide_eq_true (by omega)⟩,decide_eq_true (by omega),decide_eq_true (by omega)⟩
def x_s_PutText:FnX:=⟨17,[.tmp 4],
  .q [.op 4 (.mv (.k (.one (.nils 1))))]
 (.seq (.q [.m 5 1,.op 6 (.slen (.t 5)),.B 7 .gtr 6 60]
 (.c 7 (.q [.op 8 (.bslice 1 []),.m 9 0,.op 10 (.app 1 1 (.t 8) (.t 9)),.m 4 10]
 .ret)))
 (.q [.m 11 0,.m 12 1,.op 13 (.slen (.t 12)),.c 14 282 [11,13],.m 15 1,.op 16 (.apps 1 1 (.t 14) (.t 15)),.m 4 16]
 .ret))⟩
theorem r_s_PutText {Te:TE} (c_s_PutW:C_s_PutW Te):C_s_PutText (RF Te x_s_PutText):=by
 intro b t h ht
 refine run0 ?_
 simp -implicitDefEqProofs (maxSteps:=1000000) only [x_s_PutText,go_sem]
 refine ⟨fun q=>?_,fun q=>?_⟩
 ·have q':(t.size:Int) > 60:=by simpa using q
  simp only [putText,if_pos q']
  exact ⟨⟨decide_eq_true (by omega),decide_eq_true (by omega)⟩,trivial⟩
 ·have q':¬ ((t.size:Int) > 60):=by simpa using q
  have q3:t.data.toList.length=t.size:=by rw [Array.length_toList]; rfl
  have el:=putW_len b t.size
  have e1:List.take (b.length + 2) (List.map uR (putW b t.size))=List.map uR (putW b t.size):=List.take_of_length_le (by rw [List.length_map,el]; exact Nat.le_refl _)
  have e2:List.take (b.length + 2 + t.data.toList.length) (List.map uR (putW b t.size)++List.map uR t.data.toList)=List.map uR (putW b t.size++t.data.toList):=by
   rw [List.take_of_length_le (by rw [List.length_append,List.length_map,List.length_map,el]; exact Nat.le_refl _),List.map_append]
  simp only [putText,if_neg q']
  refine .of (c_s_PutW b _ (by omega)) ?_
  try simp -implicitDefEqProofs (maxSteps:=1000000) only [go_sem,ofBytes_eq,el,e1,e2]
  repeat refine ⟨sc,?_⟩
  try exact sf
  try exact decide_eq_true (Nat.le_refl _)
def x_i_PutEuc:FnX:=⟨36,[.tmp 4,.tmp 5],
  .q [.op 4 (.mv (.k (.one (.nils 1)))),.F 5]
 (.seq (.q [.m 9 1,.op 10 (.call 90 [0,0,0] [(.t 9),(.i 0),(.i 127)])]
 (.c 10 (.q [.m 11 0,.m 12 1,.op 13 (.conv (.int .u8) (.t 12)),.op 14 (.bslice 1 [(.t 13)]),.op 15 (.bslice 1 [(.t 11),(.t 14)]),.c 16 100 [15],.m 4 16,.T 5]
 .ret)))
 (.q [.m 18 1,.c 19 385 [18],.m 17 19,.e 20 17 0,.e 21 17 1,.e 22 17 2,.m 6 20,.m 7 21,.m 8 22]
 (.seq (.q [.m 23 8,.N 24 23]
 (.c 24 (.q [.m 25 0,.op 26 (.bslice 1 [(.t 25)]),.c 27 100 [26],.m 4 27,.F 5]
 .ret)))
 (.q [.m 28 0,.m 29 6,.op 30 (.conv (.int .u8) (.t 29)),.m 31 7,.op 32 (.conv (.int .u8) (.t 31)),.op 33 (.bslice 1 [(.t 30),(.t 32)]),.op 34 (.bslice 1 [(.t 28),(.t 33)]),.c 35 100 [34],.m 4 35,.T 5]
 .ret))))⟩
theorem r_i_PutEuc {Te:TE} (c_i_within:C_i_within Te) (c_i_joined:C_i_joined Te) (c_i_SignPair:C_i_SignPair Te):C_i_PutEuc (RF Te x_i_PutEuc):=by
 intro b n hb
 refine X0 x_i_PutEuc.eq_1 ?_
 refine C0 (c_i_within _ _ _) ?_
 cases g:win n 0 127
 ·refine G0 ?_
  refine C0 (c_i_SignPair _) ?_
  cases g2:(signPair n).2.2
  ·have e:putEuc b n=(b,false):=by rw [putEuc,g,g2]; rfl
   refine G1 g2 ?_
   refine .of (c_i_joined [b] (by rw [flat1]; omega) (by show 1≤2 ^ 31; decide)) ?_
   try simp -implicitDefEqProofs (maxSteps:=1000000) only [go_sem,flat1,e,take_rows]
   repeat refine ⟨sc,?_⟩
   try exact sf
   try rfl
  ·have e:putEuc b n=(b++[mkU (signPair n).1,mkU (signPair n).2.1],true):=by rw [putEuc,g,g2]; rfl
   try simp -implicitDefEqProofs (maxSteps:=1000000) only [go_sem,g2,mkU_wrap]
   repeat refine ⟨sc,?_⟩
   try exact sf
   refine .of (c_i_joined [b,[mkU (signPair n).1,mkU (signPair n).2.1]] (by rw [flat2,List.length_append]; simp only [List.length_cons,List.length_nil]; omega) (by show 2≤2 ^ 31; decide)) ?_
   try simp -implicitDefEqProofs (maxSteps:=1000000) only [go_sem,flat2,e,take_rows,take1B,take2B]
   repeat refine ⟨sc,?_⟩
   try exact sf
   try rfl
 ·have e:putEuc b n=(b++[mkU n],true):=by rw [putEuc,g]; rfl
  try simp -implicitDefEqProofs (maxSteps:=1000000) only [go_sem,mkU_wrap]
  repeat refine ⟨sc,?_⟩
  try exact sf
  refine .of (c_i_joined [b,[mkU n]] (by rw [flat2,List.length_append]; simp only [List.length_cons,List.length_nil]; omega) (by show 2≤2 ^ 31; decide)) ?_
  try simp -implicitDefEqProofs (maxSteps:=1000000) only [go_sem,flat2,e,take_rows,take1B,take2B]
  repeat refine ⟨sc,?_⟩
  try exact sf
  try rfl
def x_s_PutEuc:FnX:=⟨36,[.tmp 4,.tmp 5],
  .q [.op 4 (.mv (.k (.one (.nils 1)))),.F 5]
 (.q [.op 10 (.bslice 1 []),.m 11 0,.op 12 (.app 1 1 (.t 10) (.t 11)),.m 6 12]
 (.seq (.q [.m 13 1,.op 14 (.call 120 [0,0,0] [(.t 13),(.i 0),(.i 127)])]
 (.c 14 (.q [.m 15 6,.m 16 1,.op 17 (.conv (.int .u8) (.t 16)),.op 18 (.bslice 1 [(.t 17)]),.op 19 (.app 1 1 (.t 15) (.t 18)),.m 4 19,.T 5]
 .ret)))
 (.q [.m 21 1,.c 22 355 [21],.m 20 22,.e 23 20 0,.e 24 20 1,.e 25 20 2,.m 7 23,.m 8 24,.m 9 25]
 (.seq (.q [.m 26 9,.N 27 26]
 (.c 27 (.q [.m 28 6,.m 4 28,.F 5]
 .ret)))
 (.q [.m 29 6,.m 30 7,.op 31 (.conv (.int .u8) (.t 30)),.m 32 8,.op 33 (.conv (.int .u8) (.t 32)),.op 34 (.bslice 1 [(.t 31),(.t 33)]),.op 35 (.app 1 1 (.t 29) (.t 34)),.m 4 35,.T 5]
 .ret)))))⟩
theorem r_s_PutEuc {Te:TE} (c_s_l1In:C_s_l1In Te) (c_s_SignPair:C_s_SignPair Te):C_s_PutEuc (RF Te x_s_PutEuc):=by
 intro b n hb
 refine X0 x_s_PutEuc.eq_1 ?_
 refine C0 (c_s_l1In _ _ _) ?_
 cases g:win n 0 127
 ·refine G0 ?_
  refine C0 (c_s_SignPair _) ?_
  cases g2:(signPair n).2.2
  ·have e:putEuc b n=(b,false):=by rw [putEuc,g,g2]; rfl
   exact F2 g2 e
  ·have e:putEuc b n=(b++[mkU (signPair n).1,mkU (signPair n).2.1],true):=by rw [putEuc,g,g2]; rfl
   try simp -implicitDefEqProofs (maxSteps:=1000000) only [go_sem,g2,mkU_wrap,app2B,take2B,e,take_rows]
   repeat refine ⟨sc,?_⟩
   try exact sf
   try rfl
 ·have e:putEuc b n=(b++[mkU n],true):=by rw [putEuc,g]; rfl
  try simp -implicitDefEqProofs (maxSteps:=1000000) only [go_sem,mkU_wrap,app1B,take1B,e,take_rows]
  repeat refine ⟨sc,?_⟩
  try exact sf
  try rfl
end Go.X

