/- Texts: CVt_2 CVi CEb_5 CVd CEa_3 CEa_2 CG. -/
import Derived.Test.YtlfciaccddhhoaaGreatDoorC04
set_option linter.unusedVariables false
set_option linter.unusedSimpArgs false
namespace Go.X
set_option maxRecDepth 100000
set_option maxHeartbeats 8000000
def x_s_Apply_1:XCode:=.c 36 (.draw [.op 37 (.bslice 7 []),.f 38 6 0,.l 39 38,.m 40 7,.op 41 (.slice 7 (.t 39) none (some (.t 40))),.op 42 (.app 7 96 (.t 37) (.t 41)),.f 43 6 0,.l 44 43,.m 45 7,.B 46 .add 45 1,.op 47 (.slice 7 (.t 44) (some (.t 46)) none),.op 48 (.app 7 96 (.t 42) (.t 47)),.f 49 6 0,.s 100004 1 49 48] [[],[],[1],[],[2,3],[0,4],[],[6],[],[8],[7,9],[5,10,5],[0,1,2,3,4,5,6,7,8,9,10,11],[12,11,11,0,1,2,3,4,5,6,7,8,9,10,11]])
def x_s_Apply_3:XCode:=.seq (.q [.L 69 3 6,.c 70 113 [69],.N 71 70]
 (.c 71 (.q [.L 72 3 2,.c 73 107 [72],.s 100007 3 4 73,.F 5]
 .ret)))
 (.q [.L 74 3 6,.s 100008 3 4 74,.T 5]
 .ret)
def x_s_Apply_2:XCode:=.seq (.q [.f 55 3 10,.l 56 55,.B 57 .neq 56 0]
 (.c 57 (.reg [.f 58 6 2,.l 59 58,.f 60 3 10,.l 61 60,.f 62 3 11,.l 63 62,.f 64 3 12,.l 65 64,.op 66 (.build [.i 0,.i 0,.i 0] [(0,1,(.t 61)),(1,1,(.t 63)),(2,1,(.t 65))]),.c 67 116 [59,66],.f 68 6 2,.s 100006 1 68 67])))
 (.norm [2,4,6] (x_s_Apply_3))
def x_s_Apply:FnX:=⟨75,[.cell 4 (some 3),.tmp 5],
  .q [.v 2 0,.v 3 1,.op 4 (.alloc [.nils 7,.i 0,.nils 3]),.F 5]
 (.q [.L 8 3 2,.c 9 107 [8],.op 6 (.alloc [.nils 7,.i 0,.nils 3]),.s 100001 3 6 9]
 (.seq (.q [.L 10 3 2,.c 11 113 [10],.N 12 11,.m 13 12,.z 13 (.L 14 13 3),.z 13 (.c 15 114 [14]),.z 13 (.N 16 15),.r 17 13 16]
 (.c 17 (.q [.L 18 3 6,.s 100002 3 4 18,.F 5]
 .ret)))
 (.seq (.q [.f 19 3 0,.l 20 19]
 (.block 0 (.q [.B 22 .eql 20 1,.m 21 22]
 (.cond 21 (.reg [.f 23 6 0,.l 24 23,.f 25 3 1,.L 26 7 25,.op 27 (.call 115 [1,0] [(.t 24),(.t 26)]),.f 28 6 0,.s 100003 1 28 27]) (.q [.B 30 .eql 20 2,.m 29 30]
 (.cond 29 (.q [.L 31 3 6,.f 32 3 8,.l 33 32,.c 34 45 [31,33],.m 7 34]
 (.q [.m 35 7,.B 36 .geq 35 0]
 (.norm [2,3,4,6,7,36] (x_s_Apply_1)))) (.q [.B 51 .eql 20 3,.m 50 51]
 (.c 50 (.reg [.f 52 3 9,.l 53 52,.f 54 6 1,.s 100005 1 54 53])))))))))
 (.norm [2,3,4,6] (x_s_Apply_2)))))⟩
theorem r_s_Apply {Te:TE} (c_s_l12Copy:C_s_l12Copy Te) (c_s_TabOk:C_s_TabOk Te) (c_s_RecOk:C_s_RecOk Te) (c_s_l12Row:C_s_l12Row Te) (c_s_RowAt:C_s_RowAt Te) (c_s_l12Put:C_s_l12Put Te):C_s_Apply (RF Te x_s_Apply):=by
 intro t r ht hr
 have hL:=ht.len (by decide)
 have hLr:=(hr.len (by decide))
 have hci:=change_in ht hr
 have h1:=ht.1.1
 have h2:=ht.2
 refine X0 x_s_Apply.eq_1 ?_
 refine C0 (c_s_l12Copy t hL) ?_
 refine C0 (c_s_TabOk t (ht.mono (by decide))) ?_
 cases g2:t.ok
 ·have e:t.apply r=(t,false):=by rw [TabV.apply,g2]; cases r.ok <;> rfl
  exact F1 e
 refine G0 ?_
 refine C0 (c_s_RecOk r (hr.mono (by decide))) ?_
 cases g1:r.ok
 ·have e:t.apply r=(t,false):=by rw [TabV.apply,g1]; rfl
  exact F1 e
 refine G0 ?_
 rcases rowAt_cases t.Rows r.Key with ⟨e1,e2⟩ | ⟨hk,e1,e2⟩
 ·have ed:=delRows_none e1
  have c1:decide ((-1:Int)≥0)=false:=by decide
  rcases kinds r.Kind with k | k | k | k
  all_goals
   try simp -implicitDefEqProofs (maxSteps:=1000000) only [go_sem,k]
   repeat refine ⟨sc,?_⟩
   try exact sf
  all_goals try (refine .of (c_s_RowAt t r.Key (by omega)) ?_; simp -implicitDefEqProofs (maxSteps:=1000000) only [x_s_Apply_1,go_sem,e1,c1,take_all,take_marks])
  all_goals try (refine .of (c_s_l12Row t.Rows r.R (by omega) hLr) ?_; simp -implicitDefEqProofs (maxSteps:=1000000) only [go_sem,take_all,take_marks])
  all_goals cases w:(r.Who != 0)
  all_goals
   have w':decide (r.Who > 0)=(r.Who != 0):=whoPos g1
   rw [w] at w'
   try simp -implicitDefEqProofs (maxSteps:=1000000) only [x_s_Apply_2,go_sem,w,take_all,take_marks]
  all_goals try (refine .of (c_s_l12Put t.Marks ⟨r.Who,r.Seq,r.Code⟩ (by omega)) ?_; simp -implicitDefEqProofs (maxSteps:=1000000) only [go_sem,take_all,take_marks])
  all_goals
   have tk:=c_s_TabOk (t.change r) (hci.mono (by decide))
   simp only [TabV.change,TabV.put,k,w',ed,cond_true,cond_false] at tk
   try simp -implicitDefEqProofs (maxSteps:=1000000) only [x_s_Apply_3,go_sem,take_all,take_marks]
   repeat refine ⟨sc,?_⟩
   try simp -implicitDefEqProofs (maxSteps:=1000000) only [go_sem,take_all,take_marks]
   refine .of tk ?_
   cases g3:(t.change r).ok
  all_goals
   have g4:=g3
   simp only [TabV.change,TabV.put,k,w',ed,cond_true,cond_false] at g4
   try simp -implicitDefEqProofs (maxSteps:=1000000) only [go_sem,g4,take_all,take_marks]
  all_goals try (refine .of (c_s_l12Copy t hL) ?_; have e:t.apply r=(t,false):=(by rw [TabV.apply,g1,g2,g3]; rfl); simp -implicitDefEqProofs (maxSteps:=1000000) only [go_sem,e,take_all,take_marks])
  all_goals try (have e:t.apply r=(t.change r,true):=(by rw [TabV.apply,g1,g2,g3]; rfl); simp -implicitDefEqProofs (maxSteps:=1000000) only [go_sem,e,TabV.change,TabV.put,k,w',ed,cond_true,cond_false,take_all,take_marks])
  all_goals try rfl
 ·have ed:=delRows_ok g2 hk
  generalize rowIx t.Rows r.Key=i at hk e1 e2 ed
  have ew:IntKind.i64.wrap ((i:Int) + 1)=((i + 1:Nat):Int):=IntWalk.i64_in _ (by omega)
  have c1:decide ((i:Int)≥0)=true:=decide_eq_true (by omega)
  have tl:(List.take i (List.map (RowV.enc true) t.Rows)).length=i:=by simp; omega
  have a7:∀ l:List RowV,((List.map (RowV.enc true) l).all fun x=>x.length==7)=true:=fun l=>by simp
  have ta:((List.take i (List.map (RowV.enc true) t.Rows)).all fun x=>x.length==7)=true:=by rw [← List.map_take]; exact a7 _
  have da:((List.drop (i + 1) (List.map (RowV.enc true) t.Rows)).all fun x=>x.length==7)=true:=by rw [← List.map_drop]; exact a7 _
  have dn:(List.drop (i + 1) (List.map (RowV.enc true) t.Rows)).length=t.Rows.length - (i + 1):=by simp
  have tt:List.take (t.Rows.length - (i + 1)) (List.drop (i + 1) (List.map (RowV.enc true) t.Rows))=List.drop (i + 1) (List.map (RowV.enc true) t.Rows):=List.take_of_length_le (by rw [dn]; omega)
  have gd:List.drop (i + 1) (goneRows (List.map (RowV.enc true) t.Rows) 0 i)=List.drop (i + 1) (List.map (RowV.enc true) t.Rows):=by
   simp only [goneRows,List.take_zero,List.nil_append,List.drop_zero,Nat.zero_add]
   rw [List.drop_append,List.drop_of_length_le (by simp; omega),List.nil_append,List.drop_drop]
   congr 1
   simp
   omega
  have gl:(goneRows (List.map (RowV.enc true) t.Rows) 0 i).length=t.Rows.length:=by simp [goneRows]; omega
  have ti:List.take i (List.take i (List.map (RowV.enc true) t.Rows))=List.take i (List.map (RowV.enc true) t.Rows):=List.take_of_length_le (by omega)
  have b1:decide ((i + (t.Rows.length - (i + 1))) * 96≤140737488355328)=true:=decide_eq_true (by omega)
  have b2:decide (i + (t.Rows.length - (i + 1))≤4294967296)=true:=decide_eq_true (by omega)
  have b3:decide (i≤i)=true:=decide_eq_true (Nat.le_refl i)
  have ap:List.take i (List.map (RowV.enc true) t.Rows)++List.drop (i + 1) (List.map (RowV.enc true) t.Rows)=List.map (RowV.enc true) (List.take i t.Rows++List.drop (i + 1) t.Rows):=by rw [List.map_append,List.map_take,List.map_drop]
  have tkA:List.take (i + (t.Rows.length - (i + 1))) (List.map (RowV.enc true) (List.take i t.Rows++List.drop (i + 1) t.Rows))=List.map (RowV.enc true) (List.take i t.Rows++List.drop (i + 1) t.Rows):=List.take_of_length_le (by rw [List.length_map,List.length_append,List.length_take,List.length_drop]; omega)
  have tkB:List.take ((List.take i t.Rows).length + (List.drop (i + 1) t.Rows).length) (List.map (RowV.enc true) (List.take i t.Rows++List.drop (i + 1) t.Rows))=List.map (RowV.enc true) (List.take i t.Rows++List.drop (i + 1) t.Rows):=List.take_of_length_le (by rw [List.length_map,List.length_append]; exact Nat.le_refl _)
  rcases kinds r.Kind with k | k | k | k
  all_goals
   try simp -implicitDefEqProofs (maxSteps:=1000000) only [go_sem,k]
   repeat refine ⟨sc,?_⟩
   try exact sf
  all_goals try (refine .of (c_s_RowAt t r.Key (by omega)) ?_; simp -implicitDefEqProofs (maxSteps:=1000000) only [x_s_Apply_1,go_sem,e1,c1,ew,take_all,take_marks])
  all_goals try (cases f1:flat (List.take i (List.map (RowV.enc true) t.Rows)) <;> cases f2:flat (List.drop (i + 1) (List.map (RowV.enc true) t.Rows)) <;> simp -implicitDefEqProofs (maxSteps:=1000000) only [go_sem,Nat.sub_zero,f1,f2,tl,ta,da,dn,tt,gd,gl,ap,e1,c1,ew,ti,b1,b2,b3,take_all,take_marks])
  all_goals
   repeat refine ⟨sc,?_⟩
  all_goals try (refine .of (c_s_l12Row t.Rows r.R (by omega) hLr) ?_; simp -implicitDefEqProofs (maxSteps:=1000000) only [go_sem,take_all,take_marks])
  all_goals cases w:(r.Who != 0)
  all_goals
   have w':decide (r.Who > 0)=(r.Who != 0):=whoPos g1
   rw [w] at w'
   try simp -implicitDefEqProofs (maxSteps:=1000000) only [x_s_Apply_2,go_sem,w,take_all,take_marks]
  all_goals try (refine .of (c_s_l12Put t.Marks ⟨r.Who,r.Seq,r.Code⟩ (by omega)) ?_; simp -implicitDefEqProofs (maxSteps:=1000000) only [go_sem,take_all,take_marks])
  all_goals
   have tk:=c_s_TabOk (t.change r) (hci.mono (by decide))
   simp only [TabV.change,TabV.put,k,w',ed,cond_true,cond_false] at tk
   try simp -implicitDefEqProofs (maxSteps:=1000000) only [x_s_Apply_3,go_sem,take_all,take_marks]
   repeat refine ⟨sc,?_⟩
   try simp -implicitDefEqProofs (maxSteps:=1000000) only [go_sem,tkA,tkB,take_all,take_marks]
   try refine ⟨⟨decide_eq_true (by rw [List.length_take,List.length_drop]; omega),by first | simp -implicitDefEqProofs (maxSteps:=1000000) only [go_sem] | (rw [← List.map_take]; simp -implicitDefEqProofs (maxSteps:=1000000) only [go_sem])⟩,?_⟩
   try refine ⟨decide_eq_true (by rw [List.length_take,List.length_drop]; omega),?_⟩
   refine .of tk ?_
   cases g3:(t.change r).ok
  all_goals
   have g4:=g3
   simp only [TabV.change,TabV.put,k,w',ed,cond_true,cond_false] at g4
   try simp -implicitDefEqProofs (maxSteps:=1000000) only [go_sem,g4,take_all,take_marks]
  all_goals try (refine .of (c_s_l12Copy t hL) ?_; have e:t.apply r=(t,false):=(by rw [TabV.apply,g1,g2,g3]; rfl); simp -implicitDefEqProofs (maxSteps:=1000000) only [go_sem,e,take_all,take_marks])
  all_goals try (have e:t.apply r=(t.change r,true):=(by rw [TabV.apply,g1,g2,g3]; rfl); simp -implicitDefEqProofs (maxSteps:=1000000) only [go_sem,e,TabV.change,TabV.put,k,w',ed,cond_true,cond_false,take_all,take_marks])
  all_goals try refine ⟨decide_eq_true (by rw [List.length_take,List.length_drop]; omega),?_⟩
  all_goals try rw [tkA]
  all_goals try rw [tkB]
  all_goals try rfl
def x_i_copyCell:FnX:=⟨10,[.cell 2 (some 2)],
  .q [.v 1 0,.op 2 (.alloc [.i 0,.nils 1])]
 (.seq (.draw [.f 3 1 0,.l 4 3,.f 5 1 1,.l 6 5,.op 7 (.bslice 1 [(.t 6)]),.c 8 37 [7],.op 9 (.build [.i 0,.nils 1] [(0,1,(.t 4)),(1,1,(.t 8))]),.s 100001 2 2 9] [[],[0],[],[2],[3],[4],[1,5],[6,5,0,1,2,3,4,5,6]])
 .ret)⟩
theorem r_i_copyCell {Te:TE} (c_i_joined:C_i_joined Te):C_i_copyCell (RF Te x_i_copyCell):=by
 intro c h
 have h0:c.B.length≤2 ^ 21:=h
 refine X0 x_i_copyCell.eq_1 ?_
 refine .of (c_i_joined [c.B] (by rw [flat1]; omega) (by show 1≤2 ^ 31; decide)) ?_
 try simp -implicitDefEqProofs (maxSteps:=1000000) only [go_sem,flat1]
 repeat refine ⟨sc,?_⟩
 try exact sf
def x_s_l8Copy:FnX:=⟨10,[.cell 2 (some 2)],
  .q [.v 1 0,.op 2 (.alloc [.i 0,.nils 1])]
 (.seq (.draw [.f 3 1 0,.l 4 3,.op 5 (.bslice 1 []),.f 6 1 1,.l 7 6,.op 8 (.app 1 1 (.t 5) (.t 7)),.op 9 (.build [.i 0,.nils 1] [(0,1,(.t 4)),(1,1,(.t 8))]),.s 100001 2 2 9] [[],[0],[],[],[3],[2,4],[1,5],[6,5,0,1,2,3,4,5,6]])
 .ret)⟩
theorem r_s_l8Copy {Te:TE}:C_s_l8Copy (RF Te x_s_l8Copy):=by
 intro c h
 refine run0 ?_
 have h0:c.B.length≤2 ^ 21:=h
 simp -implicitDefEqProofs (maxSteps:=1000000) only [x_s_l8Copy,go_sem]
 repeat refine ⟨sc,?_⟩
 try exact sf
def x_i_copyRow:FnX:=⟨12,[.cell 2 (some 7)],
  .q [.v 1 0,.op 2 (.alloc [.e,.i 0,.nils 1,.i 0,.nils 1,.i 0,.F])]
 (.seq (.draw [.f 3 1 1,.L 4 2 3,.c 5 219 [4],.f 6 1 3,.L 7 2 6,.c 8 219 [7],.f 9 1 1,.s 100001 2 9 5,.f 10 1 3,.s 100002 2 10 8] [[],[0],[1],[],[3],[4,2],[0,1,2,3,4],[6,2,5,0,1,2,3,4],[0,1,2,3,4,5,6,7],[8,5,7,0,1,2,3,4,5,6,7]])
 (.q [.L 11 7 1,.s 100003 7 2 11]
 .ret))⟩
theorem r_i_copyRow {Te:TE} (c_i_copyCell:C_i_copyCell Te):C_i_copyRow (RF Te x_i_copyRow):=by
 intro r h
 refine X0 x_i_copyRow.eq_1 ?_
 refine C0 (c_i_copyCell r.Old h.1) ?_
 exact D0 (c_i_copyCell r.New h.2)
def x_s_l9Copy:FnX:=⟨16,[.cell 2 (some 7)],
  .q [.v 1 0,.op 2 (.alloc [.e,.i 0,.nils 1,.i 0,.nils 1,.i 0,.F])]
 (.seq (.draw [.f 3 1 0,.l 4 3,.f 5 1 1,.L 6 2 5,.c 7 214 [6],.f 8 1 3,.L 9 2 8,.c 10 214 [9],.f 11 1 5,.l 12 11,.f 13 1 6,.l 14 13,.op 15 (.build [.e,.i 0,.nils 1,.i 0,.nils 1,.i 0,.F] [(0,1,(.t 4)),(1,2,(.t 7)),(3,2,(.t 10)),(5,1,(.t 12)),(6,1,(.t 14))]),.s 100001 7 2 15] [[],[0],[],[2],[3],[],[5],[6,4],[],[8],[],[10],[1,4,7,9,11],[12,7,0,1,2,3,4,5,6,7,8,9,10,11,12]])
 .ret)⟩
theorem r_s_l9Copy {Te:TE} (c_s_l8Copy:C_s_l8Copy Te):C_s_l9Copy (RF Te x_s_l9Copy):=by
 intro r h
 refine X0 x_s_l9Copy.eq_1 ?_
 refine C0 (c_s_l8Copy r.Old h.1) ?_
 exact D0 (c_s_l8Copy r.New h.2)
def x_i_flag:FnX:=⟨4,[.tmp 2],
  .q [.op 2 (.mv (.k (.one (.pv (.int .u8 0)))))]
 (.seq (.q [.m 3 0]
 (.c 3 (.q [.op 2 (.mv (.k (.one (.pv (.int .u8 1)))))]
 .ret)))
 (.q [.op 2 (.mv (.k (.one (.pv (.int .u8 0)))))]
 .ret))⟩
theorem r_i_flag {Te:TE}:C_i_flag (RF Te x_i_flag):=by
 intro b
 cases b
 ·refine X0 x_i_flag.eq_1 ?_
  try rfl
 ·refine X0 x_i_flag.eq_1 ?_
  try rfl
def x_s_l11Bit:FnX:=⟨4,[.tmp 2],
  .q [.op 2 (.mv (.k (.one (.pv (.int .u8 0)))))]
 (.seq (.q [.m 3 0]
 (.c 3 (.q [.op 2 (.mv (.k (.one (.pv (.int .u8 1)))))]
 .ret)))
 (.q [.op 2 (.mv (.k (.one (.pv (.int .u8 0)))))]
 .ret))⟩
theorem r_s_l11Bit {Te:TE}:C_s_l11Bit (RF Te x_s_l11Bit):=by
 intro b
 cases b
 ·refine X0 x_s_l11Bit.eq_1 ?_
  try rfl
 ·refine X0 x_s_l11Bit.eq_1 ?_
  try rfl
def x_i_sameRow:FnX:=⟨38,[.tmp 4],
  .q [.v 2 0,.v 3 1,.F 4]
 (.q [.f 5 2 0,.l 6 5,.f 7 3 0,.l 8 7,.b 9 .eql 6 8,.m 10 9,.y 10 (.f 11 2 1),.y 10 (.L 12 2 11),.y 10 (.f 13 3 1),.y 10 (.L 14 2 13),.y 10 (.c 15 101 [12,14]),.a 16 10 15,.m 17 16,.y 17 (.f 18 2 3),.y 17 (.L 19 2 18),.y 17 (.f 20 3 3),.y 17 (.L 21 2 20),.y 17 (.c 22 101 [19,21]),.a 23 17 22,.m 24 23,.y 24 (.f 25 2 5),.y 24 (.l 26 25),.y 24 (.f 27 3 5),.y 24 (.l 28 27),.y 24 (.b 29 .eql 26 28),.a 30 24 29,.m 31 30,.y 31 (.f 32 2 6),.y 31 (.l 33 32),.y 31 (.f 34 3 6),.y 31 (.l 35 34),.y 31 (.op 36 (.beq false (.t 33) (.t 35))),.a 37 31 36,.m 4 37]
 .ret)⟩
theorem r_i_sameRow {Te:TE} (c_i_sameCell:C_i_sameCell Te):C_i_sameRow (RF Te x_i_sameRow):=by
 intro a c
 refine run0 ?_
 simp -implicitDefEqProofs (maxSteps:=1000000) only [x_i_sameRow,go_sem,bytes_beq]
 repeat refine ⟨sc,?_⟩
 try exact sf
 cases g1:decide (a.Key=c.Key)
 ·try simp -implicitDefEqProofs (maxSteps:=1000000) only [go_sem,g1,rowSame]
  repeat refine ⟨sc,?_⟩
  try exact sf
 refine G1 g1 ?_
 have t1:=c_i_sameCell a.Old c.Old
 have t2:=c_i_sameCell a.New c.New
 rw [← cellSame] at t1 t2
 refine .of t1 ?_
 cases g2:cellSame a.Old c.Old
 ·try simp -implicitDefEqProofs (maxSteps:=1000000) only [go_sem,g1,g2,rowSame]
  repeat refine ⟨sc,?_⟩
  try exact sf
 refine G0 ?_
 refine .of t2 ?_
 cases g3:cellSame a.New c.New
 ·try simp -implicitDefEqProofs (maxSteps:=1000000) only [go_sem,g1,g2,g3,rowSame]
  repeat refine ⟨sc,?_⟩
  try exact sf
 refine G0 ?_
 cases g4:(a.Has==c.Has)
 ·try simp -implicitDefEqProofs (maxSteps:=1000000) only [go_sem,g1,g2,g3,g4,rowSame]
  repeat refine ⟨sc,?_⟩
  try exact sf
 have e9:∀ c:Bool,(c != false)=c:=fun c=>by cases c <;> rfl
 try simp -implicitDefEqProofs (maxSteps:=1000000) only [go_sem,g1,g2,g3,g4,rowSame,e9]
 repeat refine ⟨sc,?_⟩
 try exact sf
def x_s_l11NoRow:FnX:=⟨26,[.tmp 2],
  .q [.v 1 0,.F 2]
 (.q [.f 3 1 0,.l 4 3,.op 5 (.bin .eql (.t 4) (.k (.one (.pv (.string ⟨#[]⟩))))),.m 6 5,.y 6 (.f 7 1 1),.y 6 (.L 8 2 7),.y 6 (.c 9 215 [8]),.a 10 6 9,.m 11 10,.y 11 (.f 12 1 3),.y 11 (.L 13 2 12),.y 11 (.c 14 215 [13]),.a 15 11 14,.m 16 15,.y 16 (.f 17 1 5),.y 16 (.l 18 17),.y 16 (.B 19 .eql 18 0),.a 20 16 19,.m 21 20,.y 21 (.f 22 1 6),.y 21 (.l 23 22),.y 21 (.N 24 23),.a 25 21 24,.m 2 25]
 .ret)⟩
theorem r_s_l11NoRow {Te:TE} (c_s_l9None:C_s_l9None Te):C_s_l11NoRow (RF Te x_s_l11NoRow):=by
 intro r
 refine run0 ?_
 simp -implicitDefEqProofs (maxSteps:=1000000) only [x_s_l11NoRow,go_sem,bytes_beq]
 repeat refine ⟨sc,?_⟩
 try exact sf
 cases g1:decide (r.Key=⟨#[]⟩)
 ·try simp -implicitDefEqProofs (maxSteps:=1000000) only [go_sem,g1,RowV.no]
  repeat refine ⟨sc,?_⟩
  try exact sf
 refine G1 g1 ?_
 refine C0 (c_s_l9None r.Old) ?_
 cases g2:r.Old.no
 ·try simp -implicitDefEqProofs (maxSteps:=1000000) only [go_sem,g1,g2,RowV.no]
  repeat refine ⟨sc,?_⟩
  try exact sf
 refine G0 ?_
 refine C0 (c_s_l9None r.New) ?_
 cases g3:r.New.no
 ·try simp -implicitDefEqProofs (maxSteps:=1000000) only [go_sem,g1,g2,g3,RowV.no]
  repeat refine ⟨sc,?_⟩
  try exact sf
 refine G0 ?_
 cases g4:(r.Has==0)
 ·try simp -implicitDefEqProofs (maxSteps:=1000000) only [go_sem,g1,g2,g3,g4,RowV.no]
  repeat refine ⟨sc,?_⟩
  try exact sf
 try simp -implicitDefEqProofs (maxSteps:=1000000) only [go_sem,g1,g2,g3,g4,RowV.no]
 repeat refine ⟨sc,?_⟩
 try exact sf
def x_l_heldMarkS_2:XCode:=.seq (.q [.m 30 0,.m 31 5,.x 32 3 30 31,.f 33 32 2,.l 34 33,.m 35 1,.b 36 .neq 34 35]
 (.c 36 (.q [.i 4 (-1)]
 .ret)))
 (.reg [.m 37 1,.B 38 .add 37 1,.m 1 38])
def x_l_heldMarkS_1:XCode:=.seq (.q [.m 21 0,.m 22 5,.x 23 3 21 22,.f 24 23 1,.l 25 24,.m 26 1,.b 27 .neq 25 26]
 (.c 27 (.q [.i 4 (-1)]
 .ret)))
 (.q [.m 28 1,.B 29 .add 28 1,.m 1 29]
 x_l_heldMarkS_2)
def x_l_heldMarkS:FnX:=⟨40,[.tmp 4],
  .q [.i 4 0]
 (.seq (.q [.i 5 0]
 (.block 0 (.loop [0,1,5] (.seq (.q [.m 6 5,.m 7 0,.n 8 7,.b 9 .lss 6 8]
 (.cond 9 .skip (.exit 0)))
 (.seq (.block 1 (.seq (.q [.m 12 0,.m 13 5,.x 14 3 12 13,.f 15 14 0,.l 16 15,.m 17 1,.b 18 .neq 16 17]
 (.c 18 (.q [.i 4 (-1)]
 .ret)))
 (.q [.m 19 1,.B 20 .add 19 1,.m 1 20]
 x_l_heldMarkS_1)))
 (.reg [.m 10 5,.B 11 .add 10 1,.m 5 11]))))))
 (.norm [1] (.q [.m 39 1,.m 4 39]
 .ret)))⟩
theorem r_l_heldMarkS {Te:TE}:C_l_heldMarkS (RF Te x_l_heldMarkS):=by
 intro n k hl hk
 refine run0 ?_
 simp -implicitDefEqProofs (maxSteps:=1000000) (disch:=omega) only [x_l_heldMarkS,go_sem,IntWalk.i64_in]
 refine loop_of (σ:=Nat) (fun i=>⟨[(0,.one (.ro 3 ((marks 3 mkMark n k).map MarkV.row))),(1,.one (.pv (.int .i64 (k + (3 * i:Nat))))),(5,.one (.pv (.int .i64 i)))],[],[(0,[slT false 3 MarkV.row (marks 3 mkMark n k)]),(1,[iT k])]⟩) (fun i=>i≤n) (fun i=>n - i) 0 ?_ (Nat.zero_le _) ?_
 ·simp -implicitDefEqProofs (maxSteps:=1000000) only [go_sem]; simp
 ·intro i hi
  simp -implicitDefEqProofs (maxSteps:=1000000) only [go_sem,marks_length]
  refine ⟨fun h=>?_,fun h=>?_⟩
  ·have hi':i < n:=by simp only [decide_eq_true_eq] at h; omega
   try simp -implicitDefEqProofs (maxSteps:=1000000) (disch:=omega) only [go_sem,marks_get 3 mkMark k hi',IntWalk.i64_in,mkMark,bne_self_eq_false,decide_true,Bool.not_true]
   simp -implicitDefEqProofs (maxSteps:=1000000) (disch:=omega) only [x_l_heldMarkS_1,go_sem,marks_get 3 mkMark k hi',IntWalk.i64_in,mkMark,bne_self_eq_false,decide_true,Bool.not_true]
   simp -implicitDefEqProofs (maxSteps:=1000000) (disch:=omega) only [x_l_heldMarkS_2,go_sem,marks_get 3 mkMark k hi',IntWalk.i64_in,mkMark,bne_self_eq_false,decide_true,Bool.not_true]
   refine ⟨i + 1,?_,hi',by omega⟩
   rw [show k + ((3 * (i + 1):Nat):Int)=k + (3 * i:Nat) + 1 + 1 + 1 by omega]
   rfl
  ·have:i=n:=by simp only [decide_eq_false_iff_not] at h; omega
   subst this
   simp -implicitDefEqProofs (maxSteps:=1000000) only [go_sem]
def x_l_szTab:FnX:=⟨18,[.tmp 4],
  .q [.v 2 0,.i 4 0]
 (.q [.f 5 2 0,.l 6 5,.m 7 1,.c 8 104 [6,7],.m 1 8]
 (.seq (.q [.m 9 1,.B 10 .lss 9 0]
 (.c 10 (.q [.i 4 (-1)]
 .ret)))
 (.q [.f 11 2 2,.l 12 11,.m 13 1,.c 14 105 [12,13],.m 1 14]
 (.seq (.q [.m 15 1,.B 16 .lss 15 0]
 (.c 16 (.q [.i 4 (-1)]
 .ret)))
 (.q [.m 17 1,.m 4 17]
 .ret)))))⟩
theorem r_l_szTab {Te:TE} (c_l_szRowS:C_l_szRowS Te) (c_l_szMarkS:C_l_szMarkS Te):C_l_szTab (RF Te x_l_szTab):=by
 intro x k hx hk
 refine run0 ?_
 obtain ⟨h0,h1⟩:=hx
 simp -implicitDefEqProofs (maxSteps:=1000000) (disch:=omega) only [x_l_szTab,go_sem,IntWalk.i64_in]
 refine .of (c_l_szRowS _ _ hk h0.1 h0.2) ?_
 simp -implicitDefEqProofs (maxSteps:=1000000) (disch:=omega) only [go_sem,IntWalk.i64_in]
 refine ⟨fun q0=>?_,fun q0=>?_⟩
 ·simp only [decide_eq_true_eq] at q0
  simp only [szTab,szAll,if_pos q0]
 ·simp only [decide_eq_false_iff_not] at q0
  have k1:0≤(szSl szRow x.Rows k)∧(szSl szRow x.Rows k)≤2 ^ 48:=⟨by omega,Int.le_trans ((Sane.sl szRow_sane _) _ hk.1) hk.2⟩
  refine .of (c_l_szMarkS _ _ h1 k1) ?_
  simp -implicitDefEqProofs (maxSteps:=1000000) (disch:=omega) only [go_sem,IntWalk.i64_in]
  refine ⟨fun q1=>?_,fun q1=>?_⟩
  ·simp only [decide_eq_true_eq] at q1
   simp only [szTab,szAll,if_neg q0,if_pos q1]
  ·simp only [decide_eq_false_iff_not] at q1
   have k2:0≤(left ((szSl szRow x.Rows k) - (x.Marks.length:Nat)))∧(left ((szSl szRow x.Rows k) - (x.Marks.length:Nat)))≤2 ^ 48:=⟨by omega,Int.le_trans (Sane.left _ _ k1.1) k1.2⟩
   simp only [szTab,szAll,if_neg q0,if_neg q1]
def x_l_toTab:FnX:=⟨16,[.cell 2 (some 3)],
  .q [.v 1 0,.op 2 (.alloc [.nils 7,.i 0,.nils 3])]
 (.q [.op 3 (.alloc [.nils 7,.i 0,.nils 3])]
 (.q [.f 4 1 0,.l 5 4,.c 6 127 [5],.f 7 3 0,.s 100001 1 7 6]
 (.q [.f 8 1 1,.l 9 8,.f 10 3 1,.s 100002 1 10 9]
 (.q [.f 11 1 2,.l 12 11,.c 13 128 [12],.f 14 3 2,.s 100003 1 14 13]
 (.q [.L 15 3 3,.s 100004 3 2 15]
 .ret)))))⟩
theorem r_l_toTab {Te:TE} (c_l_toRowS:C_l_toRowS Te) (c_l_toMarkS:C_l_toMarkS Te):C_l_toTab (RF Te x_l_toTab):=by
 intro x hx
 refine run0 ?_
 obtain ⟨h0,h1⟩:=hx
 simp -implicitDefEqProofs (maxSteps:=1000000) only [x_l_toTab,go_sem]
 refine C0 (c_l_toRowS _ h0) ?_
 exact D0 (c_l_toMarkS _ (Nat.le_trans h1 (by decide)))
def x_l_eqTab:FnX:=⟨22,[.tmp 4],
  .q [.v 2 0,.v 3 1,.F 4]
 (.seq (.q [.f 5 2 0,.l 6 5,.f 7 3 0,.l 8 7,.c 9 145 [6,8],.N 10 9]
 (.c 10 (.q [.F 4]
 .ret)))
 (.seq (.q [.f 11 2 1,.l 12 11,.f 13 3 1,.l 14 13,.b 15 .neq 12 14]
 (.c 15 (.q [.F 4]
 .ret)))
 (.seq (.q [.f 16 2 2,.l 17 16,.f 18 3 2,.l 19 18,.c 20 146 [17,19],.N 21 20]
 (.c 21 (.q [.F 4]
 .ret)))
 (.q [.T 4]
 .ret))))⟩
theorem r_l_eqTab {Te:TE} (c_l_eqRowS:C_l_eqRowS Te) (c_l_eqMarkS:C_l_eqMarkS Te):C_l_eqTab (RF Te x_l_eqTab):=by
 intro x y hx
 refine run0 ?_
 obtain ⟨h0,h1⟩:=hx
 have key:(x=y)↔x.Rows=y.Rows∧x.Phase=y.Phase∧x.Marks=y.Marks:=by cases x; cases y; simp
 simp only [key]
 clear key
 simp -implicitDefEqProofs (maxSteps:=1000000) only [x_l_eqTab,go_sem]
 refine .of (c_l_eqRowS _ _ h0) ?_
 simp -implicitDefEqProofs (maxSteps:=1000000) only [go_sem]
 refine ⟨fun q=>?_,fun q=>?_⟩
 ·have n0:¬ (x.Rows=y.Rows):=by simpa using q
  simp only [n0,false_and,and_false,true_and,decide_false]
 have e0:x.Rows=y.Rows:=by simpa using q
 clear q
 refine ⟨fun q=>?_,fun q=>?_⟩
 ·have n1:¬ (x.Phase=y.Phase):=by simpa using q
  simp only [e0,n1,false_and,and_false,true_and,decide_false]
 have e1:x.Phase=y.Phase:=by simpa using q
 clear q
 refine .of (c_l_eqMarkS _ _ (Nat.le_trans h1 (by decide))) ?_
 simp -implicitDefEqProofs (maxSteps:=1000000) only [go_sem]
 refine ⟨fun q=>?_,fun q=>?_⟩
 ·have n2:¬ (x.Marks=y.Marks):=by simpa using q
  simp only [e0,e1,n2,false_and,and_false,true_and,decide_false]
 have e2:x.Marks=y.Marks:=by simpa using q
 clear q
 simp only [e0,e1,e2,true_and,and_true,decide_true]
def x_l_markTab:FnX:=⟨14,[.tmp 4],
  .q [.v 2 0,.i 4 0]
 (.q [.f 5 2 0,.l 6 5,.m 7 1,.op 8 (.io 149 (.t 6) [(.t 7)]),.m 1 8]
 (.q [.f 9 2 2,.l 10 9,.m 11 1,.op 12 (.io 150 (.t 10) [(.t 11)]),.m 1 12]
 (.q [.m 13 1,.m 4 13]
 .ret)))⟩
theorem r_l_markTab {Te:TE} (c_l_markRowS:C_l_markRowS Te) (c_l_markMarkS:C_l_markMarkS Te):C_l_markTab (RF Te x_l_markTab):=by
 intro x k hx hk
 refine run0 ?_
 obtain ⟨h0,h1⟩:=hx
 simp -implicitDefEqProofs (maxSteps:=1000000) only [x_l_markTab,go_sem]
 repeat (refine ⟨by decide,?_⟩)
 refine .of (c_l_markRowS _ _ h0 (by omega)) ?_
 simp -implicitDefEqProofs (maxSteps:=1000000) only [go_sem]
 repeat (refine back_bif (by simp -implicitDefEqProofs (maxSteps:=1000000) only [go_sem]) ?_; simp -implicitDefEqProofs (maxSteps:=1000000) only [go_sem])
 have w0:=farL_le (k:=k) (c:=4194309) h0 (fun y hy k=>RowV.farE_le hy k)
 repeat (refine ⟨by decide,?_⟩)
 refine .of (c_l_markMarkS _ _ (Nat.le_trans h1 (by decide)) (by omega)) ?_
 try simp -implicitDefEqProofs (maxSteps:=1000000) only [go_sem]
 repeat refine ⟨sc,?_⟩
 try exact sf
 try rfl
def x_i_CellOk:FnX:=⟨12,[.tmp 2],
  .q [.v 1 0,.F 2]
 (.q [.f 3 1 0,.l 4 3,.c 5 79 [4],.m 6 5,.y 6 (.f 7 1 1),.y 6 (.l 8 7),.y 6 (.n 9 8),.y 6 (.B 10 .leq 9 20),.a 11 6 10,.m 2 11]
 .ret)⟩
theorem r_i_CellOk {Te:TE} (c_i_isSet:C_i_isSet Te):C_i_CellOk (RF Te x_i_CellOk):=by
 intro c
 refine run0 ?_
 simp -implicitDefEqProofs (maxSteps:=1000000) only [x_i_CellOk,go_sem,CellV.ok]
 repeat refine ⟨sc,?_⟩
 try exact sf
 refine C0 (c_i_isSet _) ?_
 cases g:win c.Tag 0 5
 ·exact F1 g
 ·exact F1 g
def x_i_CellText:FnX:=⟨14,[.tmp 2,.tmp 3],
  .q [.v 1 0,.op 2 (.mv (.k (.one (.pv (.string ⟨#[]⟩))))),.F 3]
 (.seq (.q [.L 4 2 1,.c 5 213 [4],.N 6 5]
 (.c 6 (.q [.op 2 (.mv (.k (.one (.pv (.string ⟨#[]⟩))))),.F 3]
 .ret)))
 (.q [.f 7 1 0,.l 8 7,.f 9 1 1,.l 10 9,.c 11 36 [8,10],.e 12 11 0,.e 13 11 1,.m 2 12,.m 3 13]
 .ret))⟩
theorem r_i_CellText {Te:TE} (c_i_CellOk:C_i_CellOk Te) (c_i_Decode:C_i_Decode Te):C_i_CellText (RF Te x_i_CellText):=by
 intro c
 refine X0 x_i_CellText.eq_1 ?_
 refine C0 (c_i_CellOk c) ?_
 cases g:c.ok
 ·have e:c.text=(⟨#[]⟩,false):=by rw [CellV.text,g]; rfl
  exact F1 e
 ·have e:c.text=decode c.Tag c.B:=by rw [CellV.text,g]; rfl
  refine G1 e ?_
  exact D1 (c_i_Decode c.Tag c.B (by have:=CellV.ok_len g; omega)) e
def x_i_SameText:FnX:=⟨28,[.tmp 4],
  .q [.v 2 0,.v 3 1,.F 4]
 (.q [.L 10 2 2,.c 11 220 [10],.m 9 11,.e 12 9 0,.e 13 9 1,.m 5 12,.m 6 13]
 (.q [.L 15 2 3,.c 16 220 [15],.m 14 16,.e 17 14 0,.e 18 14 1,.m 7 17,.m 8 18]
 (.q [.m 19 6,.m 20 19,.y 20 (.m 21 8),.a 22 20 21,.m 23 22,.y 23 (.m 24 5),.y 23 (.m 25 7),.y 23 (.b 26 .eql 24 25),.a 27 23 26,.m 4 27]
 .ret)))⟩
theorem r_i_SameText {Te:TE} (c_i_CellText:C_i_CellText Te):C_i_SameText (RF Te x_i_SameText):=by
 intro a c
 refine run0 ?_
 simp -implicitDefEqProofs (maxSteps:=1000000) only [x_i_SameText,go_sem,sameText]
 repeat refine ⟨sc,?_⟩
 try exact sf
 refine C0 (c_i_CellText a) ?_
 refine C0 (c_i_CellText c) ?_
 cases g1:a.text.2
 ·exact F1 g1
 ·cases g2:c.text.2
  ·exact F2 g1 g2
  ·try simp -implicitDefEqProofs (maxSteps:=1000000) only [go_sem,g1,g2,bytes_beq]
   repeat refine ⟨sc,?_⟩
   try exact sf
def x_s_CellOk:FnX:=⟨12,[.tmp 2],
  .q [.v 1 0,.F 2]
 (.q [.f 3 1 0,.l 4 3,.c 5 65 [4],.m 6 5,.y 6 (.f 7 1 1),.y 6 (.l 8 7),.y 6 (.n 9 8),.y 6 (.B 10 .leq 9 20),.a 11 6 10,.m 2 11]
 .ret)⟩
theorem r_s_CellOk {Te:TE} (c_s_l5Cs:C_s_l5Cs Te):C_s_CellOk (RF Te x_s_CellOk):=by
 intro c
 refine run0 ?_
 simp -implicitDefEqProofs (maxSteps:=1000000) only [x_s_CellOk,go_sem,CellV.ok]
 repeat refine ⟨sc,?_⟩
 try exact sf
 refine C0 (c_s_l5Cs _) ?_
 cases g:win c.Tag 0 5
 ·exact F1 g
 ·exact F1 g
def x_s_CellText:FnX:=⟨14,[.tmp 2,.tmp 3],
  .q [.v 1 0,.op 2 (.mv (.k (.one (.pv (.string ⟨#[]⟩))))),.F 3]
 (.seq (.q [.L 4 2 1,.c 5 217 [4],.N 6 5]
 (.c 6 (.q [.op 2 (.mv (.k (.one (.pv (.string ⟨#[]⟩))))),.F 3]
 .ret)))
 (.q [.f 7 1 0,.l 8 7,.f 9 1 1,.l 10 9,.c 11 30 [8,10],.e 12 11 0,.e 13 11 1,.m 2 12,.m 3 13]
 .ret))⟩
theorem r_s_CellText {Te:TE} (c_s_CellOk:C_s_CellOk Te) (c_s_Decode:C_s_Decode Te):C_s_CellText (RF Te x_s_CellText):=by
 intro c
 refine X0 x_s_CellText.eq_1 ?_
 refine C0 (c_s_CellOk c) ?_
 cases g:c.ok
 ·have e:c.text=(⟨#[]⟩,false):=by rw [CellV.text,g]; rfl
  exact F1 e
 ·have e:c.text=decode c.Tag c.B:=by rw [CellV.text,g]; rfl
  refine G1 e ?_
  exact D1 (c_s_Decode c.Tag c.B (by have:=CellV.ok_len g; omega)) e
def x_s_SameText:FnX:=⟨28,[.tmp 4],
  .q [.v 2 0,.v 3 1,.F 4]
 (.q [.L 10 2 2,.c 11 216 [10],.m 9 11,.e 12 9 0,.e 13 9 1,.m 5 12,.m 6 13]
 (.q [.L 15 2 3,.c 16 216 [15],.m 14 16,.e 17 14 0,.e 18 14 1,.m 7 17,.m 8 18]
 (.q [.m 19 6,.m 20 19,.y 20 (.m 21 8),.a 22 20 21,.m 23 22,.y 23 (.m 24 5),.y 23 (.m 25 7),.y 23 (.b 26 .eql 24 25),.a 27 23 26,.m 4 27]
 .ret)))⟩
theorem r_s_SameText {Te:TE} (c_s_CellText:C_s_CellText Te):C_s_SameText (RF Te x_s_SameText):=by
 intro a c
 refine run0 ?_
 simp -implicitDefEqProofs (maxSteps:=1000000) only [x_s_SameText,go_sem,sameText]
 repeat refine ⟨sc,?_⟩
 try exact sf
 refine C0 (c_s_CellText a) ?_
 refine C0 (c_s_CellText c) ?_
 cases g1:a.text.2
 ·exact F1 g1
 ·cases g2:c.text.2
  ·exact F2 g1 g2
  ·try simp -implicitDefEqProofs (maxSteps:=1000000) only [go_sem,g1,g2,bytes_beq]
   repeat refine ⟨sc,?_⟩
   try exact sf
def x_i_sameCell:FnX:=⟨19,[.tmp 4],
  .q [.v 2 0,.v 3 1,.F 4]
 (.q [.f 5 2 0,.l 6 5,.f 7 3 0,.l 8 7,.b 9 .eql 6 8,.m 10 9,.y 10 (.f 11 2 1),.y 10 (.l 12 11),.y 10 (.op 13 (.conv .b2s (.t 12))),.y 10 (.f 14 3 1),.y 10 (.l 15 14),.y 10 (.op 16 (.conv .b2s (.t 15))),.y 10 (.b 17 .eql 13 16),.a 18 10 17,.m 4 18]
 .ret)⟩
theorem r_i_sameCell {Te:TE}:C_i_sameCell (RF Te x_i_sameCell):=by
 intro a c
 refine run0 ?_
 cases g:(a.Tag==c.Tag)
 ·simp -implicitDefEqProofs (maxSteps:=1000000) only [x_i_sameCell,go_sem,g]
  repeat refine ⟨sc,?_⟩
  try exact sf
 ·have ea:=areBytes_uR a.B
  have ec:=areBytes_uR c.B
  have fa:=bytesOf_uR a.B
  have fc:=bytesOf_uR c.B
  simp -implicitDefEqProofs (maxSteps:=1000000) only [x_i_sameCell,go_sem,g,ea,ec,fa,fc,bytes_beq,bytes_lists]
  repeat refine ⟨sc,?_⟩
  try exact sf
def x_s_l9None:FnX:=⟨12,[.tmp 2],
  .q [.v 1 0,.F 2]
 (.q [.f 3 1 0,.l 4 3,.B 5 .eql 4 0,.m 6 5,.y 6 (.f 7 1 1),.y 6 (.l 8 7),.y 6 (.n 9 8),.y 6 (.B 10 .eql 9 0),.a 11 6 10,.m 2 11]
 .ret)⟩
theorem r_s_l9None {Te:TE}:C_s_l9None (RF Te x_s_l9None):=by
 intro c
 refine run0 ?_
 cases g:(c.Tag==0)
 ·simp -implicitDefEqProofs (maxSteps:=1000000) only [x_s_l9None,go_sem,CellV.no,g]
  repeat refine ⟨sc,?_⟩
  try exact sf
 ·simp -implicitDefEqProofs (maxSteps:=1000000) only [x_s_l9None,go_sem,CellV.no,g,none_len]
  repeat refine ⟨sc,?_⟩
  try exact sf
def x_i_NameOk:FnX:=⟨27,[.tmp 2],
  .q [.F 2]
 (.seq (.q [.i 3 0]
 (.block 0 (.loop [0,3] (.seq (.q [.m 4 3,.m 5 0,.op 6 (.slen (.t 5)),.b 7 .lss 4 6]
 (.cond 7 .skip (.exit 0)))
 (.seq (.block 1 (.q [.m 10 0,.m 11 3,.op 12 (.sidx (.t 10) (.t 11)),.op 13 (.conv (.int .i64) (.t 12)),.op 14 (.call 77 [0,0,0] [(.t 13),(.i 97),(.i 122)]),.N 15 14,.m 16 15,.y 16 (.m 17 0),.y 16 (.m 18 3),.y 16 (.op 19 (.sidx (.t 17) (.t 18))),.y 16 (.op 20 (.conv (.int .i64) (.t 19))),.y 16 (.op 21 (.call 77 [0,0,0] [(.t 20),(.i 48),(.i 57)])),.y 16 (.N 22 21),.a 23 16 22]
 (.c 23 (.q [.F 2]
 .ret))))
 (.reg [.m 8 3,.B 9 .add 8 1,.m 3 9]))))))
 (.norm [0] (.q [.m 24 0,.op 25 (.slen (.t 24)),.op 26 (.call 77 [0,0,0] [(.t 25),(.i 1),(.i 6)]),.m 2 26]
 .ret)))⟩
theorem r_i_NameOk {Te:TE} (c_i_within:C_i_within Te):C_i_NameOk (RF Te x_i_NameOk):=by
 intro s h
 refine run0 ?_
 have hsz:s.data.toList.length=s.size:=by rw [Array.length_toList]; rfl
 simp -implicitDefEqProofs (maxSteps:=1000000) only [x_i_NameOk,go_sem,nameOk]
 repeat refine ⟨sc,?_⟩
 try exact sf
 refine loop_of (σ:=Nat) (fun i=>⟨[(0,.one (.pv (.string s))),(3,.one (.pv (.int .i64 i)))],[],[(0,[sT s])]⟩) (fun i=>i≤s.size∧(s.data.toList.take i).all nameCh=true) (fun i=>s.size - i) 0 ?_ ⟨Nat.zero_le _,rfl⟩ ?_
 ·simp -implicitDefEqProofs (maxSteps:=1000000) only [go_sem]; rfl
 ·rintro i ⟨hi,hp⟩
  cases q:decide ((i:Int) < (s.size:Int))
  ·have e:=all_end (p:=nameCh) (show s.data.toList.length≤i by simp only [decide_eq_false_iff_not] at q; omega) hp
   refine G1 q ?_
   exact D1 (c_i_within _ _ _) e
  ·have hi':i < s.size:=by simp only [decide_eq_true_eq] at q; omega
   have hi2:i < s.data.toList.length:=by omega
   have q1:decide (i < s.size)=true:=decide_eq_true hi'
   have eg:s.data.toList.getD i 0=s.data.toList[i]:=by rw [List.getD_eq_getElem?_getD,List.getElem?_eq_getElem hi2]; rfl
   have hb:=s.data.toList[i].toNat_lt
   have w1:IntKind.i64.wrap ((s.data.toList[i].toNat:Nat):Int)=(s.data.toList[i].toNat:Nat):=IntWalk.i64_in _ (by omega)
   refine G4 q q1 eg w1 ?_
   refine C0 (c_i_within _ _ _) ?_
   cases g1:win ((s.data.toList[i].toNat:Nat):Int) 97 122
   ·refine G3 q1 eg w1 ?_
    refine C0 (c_i_within _ _ _) ?_
    cases g2:win ((s.data.toList[i].toNat:Nat):Int) 48 57
    ·have e:=all_not (p:=nameCh) hi2 (by simp only [nameCh,g1,g2,Bool.or_false])
     exact F1 e
    ·refine G0 ?_
     refine ⟨i + 1,by rw [IntWalk.i64_in _ (by omega)]; rfl,⟨hi',all_step (p:=nameCh) hi2 hp (by simp only [nameCh,g1,g2,Bool.or_true])⟩,by omega⟩
   ·refine G0 ?_
    refine ⟨i + 1,by rw [IntWalk.i64_in _ (by omega)]; rfl,⟨hi',all_step (p:=nameCh) hi2 hp (by simp only [nameCh,g1,Bool.true_or])⟩,by omega⟩
def x_l_markByteSS:FnX:=⟨19,[.tmp 4],
  .q [.i 4 0]
 (.seq (.q [.i 5 0]
 (.block 0 (.loop [0,1,5] (.seq (.q [.m 6 5,.m 7 0,.n 8 7,.b 9 .lss 6 8]
 (.cond 9 .skip (.exit 0)))
 (.seq (.block 1 (.reg [.m 12 0,.m 13 5,.x 14 1 12 13,.l 15 14,.m 16 1,.op 17 (.io 16 (.t 15) [(.t 16)]),.m 1 17]))
 (.reg [.m 10 5,.B 11 .add 10 1,.m 5 11]))))))
 (.norm [1] (.q [.m 18 1,.m 4 18]
 .ret)))⟩
theorem r_l_markByteSS {Te:TE} (c_l_markByteS:C_l_markByteS Te):C_l_markByteSS (RF Te x_l_markByteSS):=by
 intro l k hl hk
 refine run0 ?_
 have hl1:=hl.1
 simp -implicitDefEqProofs (maxSteps:=1000000) (disch:=omega) only [x_l_markByteSS,go_sem,IntWalk.i64_in]
 refine loop_of (σ:=Nat) (fun i=>⟨[(0,.one (.rf 0 0 [] 1 0 l.length)),(1,.one (.pv (.int .i64 (farL (fun y k=>k + (1 * y.length:Nat)) (l.take i) k)))),(5,.one (.pv (.int .i64 i)))],[],[(0,[.sl true 1 () ((markL (fun y k=>marks 1 mkU y.length k) (fun y k=>k + (1 * y.length:Nat)) (l.take i) k).map (fun y=>[slT true 1 uR y])++(l.drop i).map (fun y=>[slT true 1 uR y]))]),(1,[iT k])]⟩) (fun i=>i≤l.length) (fun i=>l.length - i) 0 ?_ (Nat.zero_le _) ?_
 ·simp -implicitDefEqProofs (maxSteps:=1000000) only [go_sem]; simp [markL,farL]
 ·intro i hi
  simp -implicitDefEqProofs (maxSteps:=1000000) only [go_sem]
  refine ⟨fun h=>?_,fun h=>?_⟩
  ·have hi':i < l.length:=by simp only [decide_eq_true_eq] at h; omega
   have hb:k≤farL (fun y k=>k + (1 * y.length:Nat)) (l.take i) k∧farL (fun y k=>k + (1 * y.length:Nat)) (l.take i) k≤k + 4398046511104:=by
    have q:=farL_le (n:=2 ^ 21) (k:=k) (c:=2097152) (l:=l.take i) ⟨by rw [List.length_take]; omega,fun y hy=>hl.2 y (List.mem_of_mem_take hy)⟩ (fun (y:List UInt8) (hy:y.length≤2 ^ 21) (k:Int)=>⟨by show k≤k + ((1 * y.length:Nat):Int); omega,by show k + ((1 * y.length:Nat):Int)≤_; omega⟩)
    omega
   have he:=hl.2 _ (List.getElem_mem hi')
   have hset:=markL_set (fun y=>[slT true 1 uR y]) (fun y k=>marks 1 mkU y.length k) (fun y k=>k + (1 * y.length:Nat)) l k hi'
   have hnext:=farL_take (fun y k=>k + (1 * y.length:Nat)) l k hi'
   have e0:l[i].length≤2 ^ 21:=he
   generalize farL (fun y k=>k + (1 * y.length:Nat)) (l.take i) k=j at hb hset hnext ⊢
   try simp -implicitDefEqProofs (maxSteps:=1000000) (disch:=omega) only [go_sem,storeAp,setCells,List.length_set,List.set_set,markL_len (fun y=>[slT true 1 uR y]) (fun y k=>marks 1 mkU y.length k) (fun y k=>k + (1 * y.length:Nat)) l k hi,List.getD_eq_getElem?_getD,markL_at (fun y=>[slT true 1 uR y]) (fun y k=>marks 1 mkU y.length k) (fun y k=>k + (1 * y.length:Nat)) l k hi',markL_reat (fun y=>[slT true 1 uR y]) (fun y k=>marks 1 mkU y.length k) (fun y k=>k + (1 * y.length:Nat)) l k hi',Option.getD_some,IntWalk.i64_in]
   repeat (first | refine ⟨by decide,?_⟩ | refine ⟨decide_eq_true hi',?_⟩)
   refine .of (c_l_markByteS (l[i]) _ (by omega) (by omega)) ?_
   simp -implicitDefEqProofs (maxSteps:=1000000) (disch:=omega) only [go_sem,storeAp,setCells,List.length_set,List.set_set,markL_len (fun y=>[slT true 1 uR y]) (fun y k=>marks 1 mkU y.length k) (fun y k=>k + (1 * y.length:Nat)) l k hi,List.getD_eq_getElem?_getD,markL_at (fun y=>[slT true 1 uR y]) (fun y k=>marks 1 mkU y.length k) (fun y k=>k + (1 * y.length:Nat)) l k hi',markL_reat (fun y=>[slT true 1 uR y]) (fun y k=>marks 1 mkU y.length k) (fun y k=>k + (1 * y.length:Nat)) l k hi',Option.getD_some,IntWalk.i64_in]
   repeat (first | refine ⟨by decide,?_⟩ | refine ⟨decide_eq_true hi',?_⟩)
   refine ⟨i + 1,?_,hi',by omega⟩
   rw [hnext,← hset]
   rfl
  ·have:i=l.length:=by simp only [decide_eq_false_iff_not] at h; omega
   subst this
   simp -implicitDefEqProofs (maxSteps:=1000000) only [go_sem,List.take_length,List.drop_length,List.map_nil,List.append_nil]
def x_l_heldByteSS:FnX:=⟨21,[.tmp 4],
  .q [.i 4 0]
 (.seq (.q [.i 5 0]
 (.block 0 (.loop [0,1,5] (.seq (.q [.m 6 5,.m 7 0,.n 8 7,.b 9 .lss 6 8]
 (.cond 9 .skip (.exit 0)))
 (.seq (.block 1 (.q [.m 12 0,.m 13 5,.x 14 1 12 13,.l 15 14,.m 16 1,.c 17 209 [15,16],.m 1 17]
 (.q [.m 18 1,.B 19 .lss 18 0]
 (.c 19 (.q [.i 4 (-1)]
 .ret)))))
 (.reg [.m 10 5,.B 11 .add 10 1,.m 5 11]))))))
 (.norm [1] (.q [.m 20 1,.m 4 20]
 .ret)))⟩
theorem r_l_heldByteSS {Te:TE} (c_l_heldByteS:C_l_heldByteS Te):C_l_heldByteSS (RF Te x_l_heldByteSS):=by
 intro l k hl hk
 refine run0 ?_
 have hl1:=hl.1
 simp -implicitDefEqProofs (maxSteps:=1000000) (disch:=omega) only [x_l_heldByteSS,go_sem,IntWalk.i64_in]
 refine loop_of (σ:=Nat) (fun i=>⟨[(0,.one (.ro 1 ((markL (fun y k=>marks 1 mkU y.length k) (fun y k=>k + (1 * y.length:Nat)) l k).map (fun y=>[slT false 1 uR y])))),(1,.one (.pv (.int .i64 (farL (fun y k=>k + (1 * y.length:Nat)) (l.take i) k)))),(5,.one (.pv (.int .i64 i)))],[],[(0,[slT false 1 (fun y=>[slT false 1 uR y]) (markL (fun y k=>marks 1 mkU y.length k) (fun y k=>k + (1 * y.length:Nat)) l k)]),(1,[iT k])]⟩) (fun i=>i≤l.length) (fun i=>l.length - i) 0 ?_ (Nat.zero_le _) ?_
 ·simp -implicitDefEqProofs (maxSteps:=1000000) only [go_sem]; simp [farL]
 ·intro i hi
  simp -implicitDefEqProofs (maxSteps:=1000000) only [go_sem,markL_length]
  refine ⟨fun h=>?_,fun h=>?_⟩
  ·have hi':i < l.length:=by simp only [decide_eq_true_eq] at h; omega
   have hb:k≤farL (fun y k=>k + (1 * y.length:Nat)) (l.take i) k∧farL (fun y k=>k + (1 * y.length:Nat)) (l.take i) k≤k + 4398046511104:=by
    have q:=farL_le (n:=2 ^ 21) (k:=k) (c:=2097152) (l:=l.take i) ⟨by rw [List.length_take]; omega,fun y hy=>hl.2 y (List.mem_of_mem_take hy)⟩ (fun (y:List UInt8) (hy:y.length≤2 ^ 21) (k:Int)=>⟨by show k≤k + ((1 * y.length:Nat):Int); omega,by show k + ((1 * y.length:Nat):Int)≤_; omega⟩)
    omega
   have he:=hl.2 _ (List.getElem_mem hi')
   have hget:=markL_get (fun y k=>marks 1 mkU y.length k) (fun y k=>k + (1 * y.length:Nat)) l k hi'
   have hnext:=farL_take (fun y k=>k + (1 * y.length:Nat)) l k hi'
   have e0:l[i].length≤2 ^ 21:=he
   generalize farL (fun y k=>k + (1 * y.length:Nat)) (l.take i) k=j at hb hget hnext ⊢
   try simp -implicitDefEqProofs (maxSteps:=1000000) (disch:=omega) only [go_sem,hget,IntWalk.i64_in,mkB,bne_self_eq_false,decide_true,Bool.not_true]
   repeat (refine ⟨by decide,?_⟩)
   refine .of (c_l_heldByteS (l[i].length) _ (by omega) (by omega)) ?_
   simp -implicitDefEqProofs (maxSteps:=1000000) (disch:=omega) only [go_sem,hget,IntWalk.i64_in,mkB,bne_self_eq_false,decide_true,Bool.not_true]
   refine ⟨fun q=>by simp only [decide_eq_true_eq] at q; omega,fun _=>?_⟩
   try simp -implicitDefEqProofs (maxSteps:=1000000) (disch:=omega) only [go_sem,hget,IntWalk.i64_in,mkB,bne_self_eq_false,decide_true,Bool.not_true]
   repeat (refine ⟨by decide,?_⟩)
   refine ⟨i + 1,?_,hi',by omega⟩
   rw [hnext]
   rfl
  ·have:i=l.length:=by simp only [decide_eq_false_iff_not] at h; omega
   subst this
   simp -implicitDefEqProofs (maxSteps:=1000000) only [go_sem,List.take_length]
def x_l_szWr:FnX:=⟨12,[.tmp 4],
  .q [.v 2 0,.i 4 0]
 (.q [.f 5 2 1,.l 6 5,.m 7 1,.c 8 167 [6,7],.m 1 8]
 (.seq (.q [.m 9 1,.B 10 .lss 9 0]
 (.c 10 (.q [.i 4 (-1)]
 .ret)))
 (.q [.m 11 1,.m 4 11]
 .ret)))⟩
theorem r_l_szWr {Te:TE} (c_l_szByteS:C_l_szByteS Te):C_l_szWr (RF Te x_l_szWr):=by
 intro x k hx hk
 refine run0 ?_
 have h0:=hx
 simp -implicitDefEqProofs (maxSteps:=1000000) (disch:=omega) only [x_l_szWr,go_sem,IntWalk.i64_in]
 refine .of (c_l_szByteS _ _ h0 hk) ?_
 simp -implicitDefEqProofs (maxSteps:=1000000) (disch:=omega) only [go_sem,IntWalk.i64_in]
 refine ⟨fun q0=>?_,fun q0=>?_⟩
 ·simp only [decide_eq_true_eq] at q0
  simp only [szWr,szAll,if_pos q0]
 ·simp only [decide_eq_false_iff_not] at q0
  have k1:0≤(left (k - (x.B.length:Nat)))∧(left (k - (x.B.length:Nat)))≤2 ^ 48:=⟨by omega,Int.le_trans (Sane.left _ _ hk.1) hk.2⟩
  simp only [szWr,szAll,if_neg q0]
def x_l_toWr:FnX:=⟨12,[.cell 2 (some 2)],
  .q [.v 1 0,.op 2 (.alloc [.i 0,.nils 1])]
 (.q [.op 3 (.alloc [.i 0,.nils 1])]
 (.q [.f 4 1 0,.l 5 4,.f 6 3 0,.s 100001 1 6 5]
 (.q [.f 7 1 1,.l 8 7,.c 9 11 [8],.f 10 3 1,.s 100002 1 10 9]
 (.q [.L 11 2 3,.s 100003 2 2 11]
 .ret))))⟩
theorem r_l_toWr {Te:TE} (c_l_toByteS:C_l_toByteS Te):C_l_toWr (RF Te x_l_toWr):=by
 intro x hx
 refine run0 ?_
 have h0:x.B.length≤2 ^ 21:=hx
 simp -implicitDefEqProofs (maxSteps:=1000000) only [x_l_toWr,go_sem]
 exact D0 (c_l_toByteS _ (Nat.le_trans h0 (by decide)))
def x_l_szByteSS:FnX:=⟨27,[.tmp 4],
  .q [.i 4 0]
 (.q [.m 6 1,.m 7 0,.n 8 7,.b 9 .sub 6 8,.m 1 9]
 (.seq (.q [.m 10 1,.B 11 .lss 10 0]
 (.c 11 (.q [.i 4 (-1)]
 .ret)))
 (.seq (.q [.i 5 0]
 (.block 0 (.loop [0,1,5] (.seq (.q [.m 12 5,.m 13 0,.n 14 13,.b 15 .lss 12 14]
 (.cond 15 .skip (.exit 0)))
 (.seq (.block 1 (.q [.m 18 0,.m 19 5,.x 20 1 18 19,.l 21 20,.m 22 1,.c 23 167 [21,22],.m 1 23]
 (.q [.m 24 1,.B 25 .lss 24 0]
 (.c 25 (.q [.i 4 (-1)]
 .ret)))))
 (.reg [.m 16 5,.B 17 .add 16 1,.m 5 17]))))))
 (.norm [1] (.q [.m 26 1,.m 4 26]
 .ret)))))⟩
theorem r_l_szByteSS {Te:TE} (c_l_szByteS:C_l_szByteS Te):C_l_szByteSS (RF Te x_l_szByteSS):=by
 intro l k hk hl hs
 refine run0 ?_
 simp -implicitDefEqProofs (maxSteps:=1000000) (disch:=omega) only [x_l_szByteSS,go_sem,IntWalk.i64_in]
 refine ⟨fun h=>?_,fun h=>?_⟩
 ·simp only [decide_eq_true_eq] at h
  simp only [szSl,szAll,if_pos h]
 ·simp only [decide_eq_false_iff_not] at h
  refine loop_of (σ:=Nat×Int) (fun x=>⟨[(0,.one (.ro 1 (l.map (fun y=>[slT false 1 uR y])))),(1,.one (.pv (.int .i64 x.2))),(5,.one (.pv (.int .i64 x.1)))],[],[(0,[slT false 1 (fun y=>[slT false 1 uR y]) l]),(1,[iT k])]⟩) (fun x=>x.1≤l.length∧0≤x.2∧x.2≤k∧szSl (fun y k=>left (k - y.length)) l k=szAll ((l.drop x.1).map (fun y k=>left (k - y.length))) x.2) (fun x=>l.length - x.1) (0,k - l.length) ?_ ⟨Nat.zero_le _,by omega,by omega,by simp only [szSl,szAll,if_neg h,List.drop_zero]⟩ ?_
  ·simp -implicitDefEqProofs (maxSteps:=1000000) only [go_sem]; rfl
  ·rintro ⟨i,c⟩ ⟨hi,h0,h1,he⟩
   simp only at hi h0 h1 he
   simp -implicitDefEqProofs (maxSteps:=1000000) only [go_sem]
   refine ⟨fun h=>?_,fun h=>?_⟩
   ·have hi':i < l.length:=by simp only [decide_eq_true_eq] at h; omega
    have hsz:=hs l[i] (List.getElem_mem hi')
    have hsn:left (c - (l[i].length:Nat))≤c:=(fun _=>Sane.left _) l[i] c h0
    rw [List.drop_eq_getElem_cons hi'] at he
    simp -implicitDefEqProofs (maxSteps:=1000000) (disch:=omega) only [go_sem,List.getElem?_eq_getElem hi',IntWalk.i64_in]
    refine .of (c_l_szByteS _ _ hsz ⟨h0,by omega⟩) ?_
    simp -implicitDefEqProofs (maxSteps:=1000000) only [go_sem]
    refine ⟨fun h2=>?_,fun h2=>?_⟩
    ·simp only [decide_eq_true_eq] at h2
     rw [he]
     simp only [List.map_cons,szAll,if_pos h2]
    ·simp only [decide_eq_false_iff_not] at h2
     refine ⟨(i + 1,left (c - (l[i].length:Nat))),by rw [IntWalk.i64_in _ (by omega)]; rfl,⟨hi',by omega,by simp only; omega,?_⟩,by simp only; omega⟩
     rw [he]
     simp only [List.map_cons,szAll,if_neg h2]
   ·have hle:l.length≤i:=by simp only [decide_eq_false_iff_not] at h; omega
    rw [List.drop_of_length_le hle] at he
    simp only [szAll,List.map_nil] at he
    rw [he]
def x_l_toByteSS:FnX:=⟨23,[.tmp 2],
  .q [.op 2 (.mv (.k (.one (.nils 1))))]
 (.q [.m 5 0,.n 6 5,.op 7 (.mks 1 24 [.sl true 1 () []] (.t 6)),.m 3 7]
 (.seq (.q [.i 4 0]
 (.block 0 (.loop [0,3,4] (.seq (.q [.m 8 4,.m 9 0,.n 10 9,.b 11 .lss 8 10]
 (.cond 11 .skip (.exit 0)))
 (.seq (.block 1 (.reg [.m 14 3,.m 15 4,.m 16 0,.m 17 4,.x 18 1 16 17,.l 19 18,.c 20 11 [19],.x 21 1 14 15,.s 100001 1 21 20]))
 (.reg [.m 12 4,.B 13 .add 12 1,.m 4 13]))))))
 (.norm [3] (.q [.m 22 3,.m 2 22]
 .ret))))⟩
theorem r_l_toByteSS {Te:TE} (c_l_toByteS:C_l_toByteS Te):C_l_toByteSS (RF Te x_l_toByteSS):=by
 intro l hl
 refine run0 ?_
 have hl1:=hl.1
 simp -implicitDefEqProofs (maxSteps:=1000000) (disch:=omega) only [x_l_toByteSS,go_sem,IntWalk.i64_in]
 refine ⟨⟨by simp only [decide_eq_true_eq]; omega,by simp only [decide_eq_true_eq]; omega⟩,?_⟩
 refine loop_of (σ:=Nat) (fun i=>⟨[(0,.one (.ro 1 (l.map (fun y=>[slT false 1 uR y])))),(3,.one (.rf 24 0 [] 1 0 l.length)),(4,.one (.pv (.int .i64 i)))],[],
  [(0,[slT false 1 (fun y=>[slT false 1 uR y]) l]),(24,[.sl true 1 () ((l.take i).map (fun y=>[slT true 1 uR y])++List.replicate (l.length - i) [.sl true 1 () []])])]⟩) (fun i=>i≤l.length) (fun i=>l.length - i) 0 ?_ (Nat.zero_le _) ?_
 ·simp -implicitDefEqProofs (maxSteps:=1000000) only [go_sem]; rfl
 ·intro i hi
  simp -implicitDefEqProofs (maxSteps:=1000000) only [go_sem]
  refine ⟨fun h=>?_,fun h=>?_⟩
  ·have hi':i < l.length:=by simp only [decide_eq_true_eq] at h; omega
   simp -implicitDefEqProofs (maxSteps:=1000000) only [go_sem,List.getElem?_eq_getElem hi',fill_len (fun y=>[slT true 1 uR y]) l [.sl true 1 () []] hi,storeAp,setCells,List.getD_eq_getElem?_getD,fill_get (fun y=>[slT true 1 uR y]) l [.sl true 1 () []] hi']
   refine .of (c_l_toByteS _ (Nat.le_trans (hl.2 _ (List.getElem_mem hi')) (by decide))) ?_
   simp -implicitDefEqProofs (maxSteps:=1000000) only [go_sem,fill_len (fun y=>[slT true 1 uR y]) l [.sl true 1 () []] hi,storeAp,setCells,List.getD_eq_getElem?_getD,fill_get (fun y=>[slT true 1 uR y]) l [.sl true 1 () []] hi']
   repeat (first | refine ⟨by decide,?_⟩ | refine ⟨by simpa using hi',?_⟩)
   refine ⟨i + 1,?_,hi',by omega⟩
   rw [← fill_set (fun y=>[slT true 1 uR y]) l [.sl true 1 () []] hi',IntWalk.i64_in _ (by omega)]
   rfl
  ·have:i=l.length:=by simp only [decide_eq_false_iff_not] at h; omega
   subst this
   simp -implicitDefEqProofs (maxSteps:=1000000) only [go_sem,fill_len (fun y=>[slT true 1 uR y]) l [.sl true 1 () []] hi,fill_end]
   refine ⟨by simp,?_⟩
   simp [take_map]
def x_l_eqByteSS:FnX:=⟨27,[.tmp 4],
  .q [.F 4]
 (.seq (.q [.m 6 0,.n 7 6,.m 8 1,.n 9 8,.b 10 .neq 7 9]
 (.c 10 (.q [.F 4]
 .ret)))
 (.seq (.q [.i 5 0]
 (.block 0 (.loop [0,1,5] (.seq (.q [.m 11 5,.m 12 0,.n 13 12,.b 14 .lss 11 13]
 (.cond 14 .skip (.exit 0)))
 (.seq (.block 1 (.seq (.draw [.m 17 0,.m 18 5,.x 19 1 17 18,.l 20 19,.m 21 1,.m 22 5,.x 23 1 21 22,.l 24 23,.c 25 14 [20,24],.N 26 25] [[],[],[0,1],[2],[],[],[4,5],[6],[3,7],[8]])
 (.c 26 (.q [.F 4]
 .ret))))
 (.reg [.m 15 5,.B 16 .add 15 1,.m 5 16]))))))
 (.norm [] (.q [.T 4]
 .ret))))⟩
theorem r_l_eqByteSS {Te:TE} (c_l_eqByteS:C_l_eqByteS Te):C_l_eqByteSS (RF Te x_l_eqByteSS):=by
 intro l m hl
 refine run0 ?_
 have hl1:=hl.1
 simp -implicitDefEqProofs (maxSteps:=1000000) (disch:=omega) only [x_l_eqByteSS,go_sem,IntWalk.i64_in]
 refine ⟨fun h=>?_,fun h=>?_⟩
 ·have:l≠m:=fun e=>by simp [e] at h
  simp [this]
 ·have hlen:l.length=m.length:=by simp at h; omega
  refine loop_of (σ:=Nat) (fun i=>⟨[(0,.one (.ro 1 (l.map (fun y=>[slT false 1 uR y])))),(1,.one (.ro 1 (m.map (fun y=>[slT false 1 uR y])))),(5,.one (.pv (.int .i64 i)))],[],[(0,[slT false 1 (fun y=>[slT false 1 uR y]) l]),(1,[slT false 1 (fun y=>[slT false 1 uR y]) m])]⟩) (fun i=>i≤l.length∧l.take i=m.take i) (fun i=>l.length - i) 0 ?_ ⟨Nat.zero_le _,by simp⟩ ?_
  ·simp -implicitDefEqProofs (maxSteps:=1000000) only [go_sem]; rfl
  ·intro i ⟨hi,hs⟩
   simp -implicitDefEqProofs (maxSteps:=1000000) only [go_sem]
   refine ⟨fun h=>?_,fun h=>?_⟩
   ·have hi':i < l.length:=by simp only [decide_eq_true_eq] at h; omega
    have hj':i < m.length:=by omega
    simp -implicitDefEqProofs (maxSteps:=1000000) only [go_sem,List.getElem?_eq_getElem hi',List.getElem?_eq_getElem hj']
    refine .of (c_l_eqByteS _ _ (Nat.le_trans (hl.2 _ (List.getElem_mem hi')) (by decide))) ?_
    simp -implicitDefEqProofs (maxSteps:=1000000) only [go_sem]
    refine ⟨by decide,fun h2=>?_,fun h2=>?_⟩
    ·have:l≠m:=fun e=>by subst e; simp at h2
     simp [this]
    ·refine ⟨i + 1,by rw [IntWalk.i64_in _ (by omega)]; rfl,⟨hi',same_step hi' hj' hs ?_⟩,by omega⟩
     simpa using h2
   ·have hle:l.length≤i:=by simp only [decide_eq_false_iff_not] at h; omega
    have:l=m:=same_end hle (by omega) hs
    simp [this]
def x_i_Walks:FnX:=⟨17,[.tmp 2],
  .q [.F 2]
 (.q [.m 3 0,.B 4 .eql 3 2,.m 5 4,.z 5 (.m 6 0),.z 5 (.B 7 .eql 6 3),.r 8 5 7,.m 9 8,.z 9 (.m 10 0),.z 9 (.B 11 .eql 10 4),.r 12 9 11,.m 13 12,.z 13 (.m 14 0),.z 13 (.B 15 .eql 14 6),.r 16 13 15,.m 2 16]
 .ret)⟩
theorem r_i_Walks {Te:TE}:C_i_Walks (RF Te x_i_Walks):=by
 intro p
 refine run0 ?_
 cases g1:(p==2)
 ·cases g2:(p==3)
  ·cases g3:(p==4) <;> simp -implicitDefEqProofs (maxSteps:=1000000) only [x_i_Walks,go_sem,g1,g2,g3,walks]
  ·simp -implicitDefEqProofs (maxSteps:=1000000) only [x_i_Walks,go_sem,g1,g2,walks]
 ·simp -implicitDefEqProofs (maxSteps:=1000000) only [x_i_Walks,go_sem,g1,walks]
def x_s_Walks:FnX:=⟨9,[.tmp 2],
  .q [.F 2]
 (.q [.m 3 0,.op 4 (.call 64 [0,0,0] [(.t 3),(.i 2),(.i 4)]),.m 5 4,.z 5 (.m 6 0),.z 5 (.B 7 .eql 6 6),.r 8 5 7,.m 2 8]
 .ret)⟩
theorem r_s_Walks {Te:TE} (c_s_l1In:C_s_l1In Te):C_s_Walks (RF Te x_s_Walks):=by
 intro p
 refine run0 ?_
 have key:walks p=(win p 2 4||(p==6)):=by
  simp only [walks,win]
  by_cases h2:p=2
  ·subst h2; rfl
  by_cases h3:p=3
  ·subst h3; rfl
  by_cases h4:p=4
  ·subst h4; rfl
  have:(decide (p≥2)&&decide (p≤4))=false:=by simp; omega
  simp [h2,h3,h4,this]
 simp -implicitDefEqProofs (maxSteps:=1000000) only [x_s_Walks,go_sem,key]
 refine .of (c_s_l1In _ _ _) ?_
 cases g1:win p 2 4 <;> simp -implicitDefEqProofs (maxSteps:=1000000) only [go_sem]
end Go.X

