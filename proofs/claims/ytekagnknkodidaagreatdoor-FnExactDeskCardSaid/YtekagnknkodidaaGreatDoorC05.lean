/- Texts: CVt_2 CVi CVg CEb_7 CC_3 CK_2 CEa_4. -/
import Derived.Test.YtekagnknkodidaaGreatDoorC04
set_option linter.unusedVariables false
set_option linter.unusedSimpArgs false
namespace Go.X
set_option maxRecDepth 100000
set_option maxHeartbeats 8000000
def x_s_Apply_1:XCode:=.c 36 (.draw [.op 37 (.bslice 7 []),.f 38 6 0,.l 39 38,.m 40 7,.op 41 (.slice 7 (.t 39) none (some (.t 40))),.op 42 (.app 7 96 (.t 37) (.t 41)),.f 43 6 0,.l 44 43,.m 45 7,.B 46 .add 45 1,.op 47 (.slice 7 (.t 44) (some (.t 46)) none),.op 48 (.app 7 96 (.t 42) (.t 47)),.f 49 6 0,.s 100004 1 49 48] [[],[],[1],[],[2,3],[0,4],[],[6],[],[8],[7,9],[5,10,5],[0,1,2,3,4,5,6,7,8,9,10,11],[12,11,11,0,1,2,3,4,5,6,7,8,9,10,11]])
def x_s_Apply_3:XCode:=.seq (.q [.L 69 3 6,.c 70 130 [69],.N 71 70]
 (.c 71 (.q [.L 72 3 2,.c 73 84 [72],.s 100007 3 4 73,.F 5]
 .ret)))
 (.q [.L 74 3 6,.s 100008 3 4 74,.T 5]
 .ret)
def x_s_Apply_2:XCode:=.seq (.q [.f 55 3 10,.l 56 55,.B 57 .neq 56 0]
 (.c 57 (.reg [.f 58 6 2,.l 59 58,.f 60 3 10,.l 61 60,.f 62 3 11,.l 63 62,.f 64 3 12,.l 65 64,.op 66 (.build [.i 0,.i 0,.i 0] [(0,1,(.t 61)),(1,1,(.t 63)),(2,1,(.t 65))]),.c 67 182 [59,66],.f 68 6 2,.s 100006 1 68 67])))
 (.norm [2,4,6] (x_s_Apply_3))
def x_s_Apply:FnX:=⟨75,[.cell 4 (some 3),.tmp 5],
  .q [.v 2 0,.v 3 1,.op 4 (.alloc [.nils 7,.i 0,.nils 3]),.F 5]
 (.q [.L 8 3 2,.c 9 84 [8],.op 6 (.alloc [.nils 7,.i 0,.nils 3]),.s 100001 3 6 9]
 (.seq (.q [.L 10 3 2,.c 11 130 [10],.N 12 11,.m 13 12,.z 13 (.L 14 13 3),.z 13 (.c 15 180 [14]),.z 13 (.N 16 15),.r 17 13 16]
 (.c 17 (.q [.L 18 3 6,.s 100002 3 4 18,.F 5]
 .ret)))
 (.seq (.q [.f 19 3 0,.l 20 19]
 (.block 0 (.q [.B 22 .eql 20 1,.m 21 22]
 (.cond 21 (.reg [.f 23 6 0,.l 24 23,.f 25 3 1,.L 26 7 25,.op 27 (.call 181 [1,0] [(.t 24),(.t 26)]),.f 28 6 0,.s 100003 1 28 27]) (.q [.B 30 .eql 20 2,.m 29 30]
 (.cond 29 (.q [.L 31 3 6,.f 32 3 8,.l 33 32,.c 34 132 [31,33],.m 7 34]
 (.q [.m 35 7,.B 36 .geq 35 0]
 (.norm [2,3,4,6,7,36] (x_s_Apply_1)))) (.q [.B 51 .eql 20 3,.m 50 51]
 (.c 50 (.reg [.f 52 3 9,.l 53 52,.f 54 6 1,.s 100005 1 54 53])))))))))
 (.norm [2,3,4,6] (x_s_Apply_2)))))⟩
theorem r_s_Apply {Te:TE} (c_s_l12Copy:C_s_l12Copy Te) (c_s_TabOk:C_s_TabOk Te) (c_s_RecOk:C_s_RecOk Te) (c_s_l12Row:C_s_l12Row Te) (c_s_RowAt:C_s_RowAt Te) (c_s_l12Put:C_s_l12Put Te):C_s_Apply (RF Te x_s_Apply):=by
 intro t r ht hr
 have hL:=ht.len (by decide)
 have hLr:=(hr.len (by decide))
 have hci:=change_in ht hr
 have h1:=ht.1.1
 have h2:=ht.2
 refine X0 x_s_Apply.eq_1 ?_
 refine C0 (c_s_l12Copy t hL) ?_
 refine C0 (c_s_TabOk t (ht.mono (by decide))) ?_
 cases g2:t.ok
 ·have e:t.apply r=(t,false):=by rw [TabV.apply,g2]; cases r.ok <;> rfl
  exact F1 e
 refine G0 ?_
 refine C0 (c_s_RecOk r (hr.mono (by decide))) ?_
 cases g1:r.ok
 ·have e:t.apply r=(t,false):=by rw [TabV.apply,g1]; rfl
  exact F1 e
 refine G0 ?_
 rcases rowAt_cases t.Rows r.Key with ⟨e1,e2⟩ | ⟨hk,e1,e2⟩
 ·have ed:=delRows_none e1
  have c1:decide ((-1:Int)≥0)=false:=by decide
  rcases kinds r.Kind with k | k | k | k
  all_goals
   try simp -implicitDefEqProofs (maxSteps:=1000000) only [go_sem,k]
   repeat refine ⟨sc,?_⟩
   try exact sf
  all_goals try (refine .of (c_s_RowAt t r.Key (by omega)) ?_; simp -implicitDefEqProofs (maxSteps:=1000000) only [x_s_Apply_1,go_sem,e1,c1,take_all,take_marks])
  all_goals try (refine .of (c_s_l12Row t.Rows r.R (by omega) hLr) ?_; simp -implicitDefEqProofs (maxSteps:=1000000) only [go_sem,take_all,take_marks])
  all_goals cases w:(r.Who != 0)
  all_goals
   have w':decide (r.Who > 0)=(r.Who != 0):=whoPos g1
   rw [w] at w'
   try simp -implicitDefEqProofs (maxSteps:=1000000) only [x_s_Apply_2,go_sem,w,take_all,take_marks]
  all_goals try (refine .of (c_s_l12Put t.Marks ⟨r.Who,r.Seq,r.Code⟩ (by omega)) ?_; simp -implicitDefEqProofs (maxSteps:=1000000) only [go_sem,take_all,take_marks])
  all_goals
   have tk:=c_s_TabOk (t.change r) (hci.mono (by decide))
   simp only [TabV.change,TabV.put,k,w',ed,cond_true,cond_false] at tk
   try simp -implicitDefEqProofs (maxSteps:=1000000) only [x_s_Apply_3,go_sem,take_all,take_marks]
   repeat refine ⟨sc,?_⟩
   try simp -implicitDefEqProofs (maxSteps:=1000000) only [go_sem,take_all,take_marks]
   refine .of tk ?_
   cases g3:(t.change r).ok
  all_goals
   have g4:=g3
   simp only [TabV.change,TabV.put,k,w',ed,cond_true,cond_false] at g4
   try simp -implicitDefEqProofs (maxSteps:=1000000) only [go_sem,g4,take_all,take_marks]
  all_goals try (refine .of (c_s_l12Copy t hL) ?_; have e:t.apply r=(t,false):=(by rw [TabV.apply,g1,g2,g3]; rfl); simp -implicitDefEqProofs (maxSteps:=1000000) only [go_sem,e,take_all,take_marks])
  all_goals try (have e:t.apply r=(t.change r,true):=(by rw [TabV.apply,g1,g2,g3]; rfl); simp -implicitDefEqProofs (maxSteps:=1000000) only [go_sem,e,TabV.change,TabV.put,k,w',ed,cond_true,cond_false,take_all,take_marks])
  all_goals try rfl
 ·have ed:=delRows_ok g2 hk
  generalize rowIx t.Rows r.Key=i at hk e1 e2 ed
  have ew:IntKind.i64.wrap ((i:Int) + 1)=((i + 1:Nat):Int):=IntWalk.i64_in _ (by omega)
  have c1:decide ((i:Int)≥0)=true:=decide_eq_true (by omega)
  have tl:(List.take i (List.map (RowV.enc true) t.Rows)).length=i:=by simp; omega
  have a7:∀ l:List RowV,((List.map (RowV.enc true) l).all fun x=>x.length==7)=true:=fun l=>by simp
  have ta:((List.take i (List.map (RowV.enc true) t.Rows)).all fun x=>x.length==7)=true:=by rw [← List.map_take]; exact a7 _
  have da:((List.drop (i + 1) (List.map (RowV.enc true) t.Rows)).all fun x=>x.length==7)=true:=by rw [← List.map_drop]; exact a7 _
  have dn:(List.drop (i + 1) (List.map (RowV.enc true) t.Rows)).length=t.Rows.length - (i + 1):=by simp
  have tt:List.take (t.Rows.length - (i + 1)) (List.drop (i + 1) (List.map (RowV.enc true) t.Rows))=List.drop (i + 1) (List.map (RowV.enc true) t.Rows):=List.take_of_length_le (by rw [dn]; omega)
  have gd:List.drop (i + 1) (goneRows (List.map (RowV.enc true) t.Rows) 0 i)=List.drop (i + 1) (List.map (RowV.enc true) t.Rows):=by
   simp only [goneRows,List.take_zero,List.nil_append,List.drop_zero,Nat.zero_add]
   rw [List.drop_append,List.drop_of_length_le (by simp; omega),List.nil_append,List.drop_drop]
   congr 1
   simp
   omega
  have gl:(goneRows (List.map (RowV.enc true) t.Rows) 0 i).length=t.Rows.length:=by simp [goneRows]; omega
  have ti:List.take i (List.take i (List.map (RowV.enc true) t.Rows))=List.take i (List.map (RowV.enc true) t.Rows):=List.take_of_length_le (by omega)
  have b1:decide ((i + (t.Rows.length - (i + 1))) * 96≤140737488355328)=true:=decide_eq_true (by omega)
  have b2:decide (i + (t.Rows.length - (i + 1))≤4294967296)=true:=decide_eq_true (by omega)
  have b3:decide (i≤i)=true:=decide_eq_true (Nat.le_refl i)
  have ap:List.take i (List.map (RowV.enc true) t.Rows)++List.drop (i + 1) (List.map (RowV.enc true) t.Rows)=List.map (RowV.enc true) (List.take i t.Rows++List.drop (i + 1) t.Rows):=by rw [List.map_append,List.map_take,List.map_drop]
  have tkA:List.take (i + (t.Rows.length - (i + 1))) (List.map (RowV.enc true) (List.take i t.Rows++List.drop (i + 1) t.Rows))=List.map (RowV.enc true) (List.take i t.Rows++List.drop (i + 1) t.Rows):=List.take_of_length_le (by rw [List.length_map,List.length_append,List.length_take,List.length_drop]; omega)
  have tkB:List.take ((List.take i t.Rows).length + (List.drop (i + 1) t.Rows).length) (List.map (RowV.enc true) (List.take i t.Rows++List.drop (i + 1) t.Rows))=List.map (RowV.enc true) (List.take i t.Rows++List.drop (i + 1) t.Rows):=List.take_of_length_le (by rw [List.length_map,List.length_append]; exact Nat.le_refl _)
  rcases kinds r.Kind with k | k | k | k
  all_goals
   try simp -implicitDefEqProofs (maxSteps:=1000000) only [go_sem,k]
   repeat refine ⟨sc,?_⟩
   try exact sf
  all_goals try (refine .of (c_s_RowAt t r.Key (by omega)) ?_; simp -implicitDefEqProofs (maxSteps:=1000000) only [x_s_Apply_1,go_sem,e1,c1,ew,take_all,take_marks])
  all_goals try (cases f1:flat (List.take i (List.map (RowV.enc true) t.Rows)) <;> cases f2:flat (List.drop (i + 1) (List.map (RowV.enc true) t.Rows)) <;> simp -implicitDefEqProofs (maxSteps:=1000000) only [go_sem,Nat.sub_zero,f1,f2,tl,ta,da,dn,tt,gd,gl,ap,e1,c1,ew,ti,b1,b2,b3,take_all,take_marks])
  all_goals
   repeat refine ⟨sc,?_⟩
  all_goals try (refine .of (c_s_l12Row t.Rows r.R (by omega) hLr) ?_; simp -implicitDefEqProofs (maxSteps:=1000000) only [go_sem,take_all,take_marks])
  all_goals cases w:(r.Who != 0)
  all_goals
   have w':decide (r.Who > 0)=(r.Who != 0):=whoPos g1
   rw [w] at w'
   try simp -implicitDefEqProofs (maxSteps:=1000000) only [x_s_Apply_2,go_sem,w,take_all,take_marks]
  all_goals try (refine .of (c_s_l12Put t.Marks ⟨r.Who,r.Seq,r.Code⟩ (by omega)) ?_; simp -implicitDefEqProofs (maxSteps:=1000000) only [go_sem,take_all,take_marks])
  all_goals
   have tk:=c_s_TabOk (t.change r) (hci.mono (by decide))
   simp only [TabV.change,TabV.put,k,w',ed,cond_true,cond_false] at tk
   try simp -implicitDefEqProofs (maxSteps:=1000000) only [x_s_Apply_3,go_sem,take_all,take_marks]
   repeat refine ⟨sc,?_⟩
   try simp -implicitDefEqProofs (maxSteps:=1000000) only [go_sem,tkA,tkB,take_all,take_marks]
   try refine ⟨⟨decide_eq_true (by rw [List.length_take,List.length_drop]; omega),by first | simp -implicitDefEqProofs (maxSteps:=1000000) only [go_sem] | (rw [← List.map_take]; simp -implicitDefEqProofs (maxSteps:=1000000) only [go_sem])⟩,?_⟩
   try refine ⟨decide_eq_true (by rw [List.length_take,List.length_drop]; omega),?_⟩
   refine .of tk ?_
   cases g3:(t.change r).ok
  all_goals
   have g4:=g3
   simp only [TabV.change,TabV.put,k,w',ed,cond_true,cond_false] at g4
   try simp -implicitDefEqProofs (maxSteps:=1000000) only [go_sem,g4,take_all,take_marks]
  all_goals try (refine .of (c_s_l12Copy t hL) ?_; have e:t.apply r=(t,false):=(by rw [TabV.apply,g1,g2,g3]; rfl); simp -implicitDefEqProofs (maxSteps:=1000000) only [go_sem,e,take_all,take_marks])
  all_goals try (have e:t.apply r=(t.change r,true):=(by rw [TabV.apply,g1,g2,g3]; rfl); simp -implicitDefEqProofs (maxSteps:=1000000) only [go_sem,e,TabV.change,TabV.put,k,w',ed,cond_true,cond_false,take_all,take_marks])
  all_goals try refine ⟨decide_eq_true (by rw [List.length_take,List.length_drop]; omega),?_⟩
  all_goals try rw [tkA]
  all_goals try rw [tkB]
  all_goals try rfl
def x_i_copyCell:FnX:=⟨10,[.cell 2 (some 2)],
  .q [.v 1 0,.op 2 (.alloc [.i 0,.nils 1])]
 (.seq (.draw [.f 3 1 0,.l 4 3,.f 5 1 1,.l 6 5,.op 7 (.bslice 1 [(.t 6)]),.c 8 152 [7],.op 9 (.build [.i 0,.nils 1] [(0,1,(.t 4)),(1,1,(.t 8))]),.s 100001 2 2 9] [[],[0],[],[2],[3],[4],[1,5],[6,5,0,1,2,3,4,5,6]])
 .ret)⟩
theorem r_i_copyCell {Te:TE} (c_i_joined:C_i_joined Te):C_i_copyCell (RF Te x_i_copyCell):=by
 intro c h
 have h0:c.B.length≤2 ^ 21:=h
 refine X0 x_i_copyCell.eq_1 ?_
 refine .of (c_i_joined [c.B] (by rw [flat1]; omega) (by show 1≤2 ^ 31; decide)) ?_
 try simp -implicitDefEqProofs (maxSteps:=1000000) only [go_sem,flat1]
 repeat refine ⟨sc,?_⟩
 try exact sf
def x_s_l8Copy:FnX:=⟨10,[.cell 2 (some 2)],
  .q [.v 1 0,.op 2 (.alloc [.i 0,.nils 1])]
 (.seq (.draw [.f 3 1 0,.l 4 3,.op 5 (.bslice 1 []),.f 6 1 1,.l 7 6,.op 8 (.app 1 1 (.t 5) (.t 7)),.op 9 (.build [.i 0,.nils 1] [(0,1,(.t 4)),(1,1,(.t 8))]),.s 100001 2 2 9] [[],[0],[],[],[3],[2,4],[1,5],[6,5,0,1,2,3,4,5,6]])
 .ret)⟩
theorem r_s_l8Copy {Te:TE}:C_s_l8Copy (RF Te x_s_l8Copy):=by
 intro c h
 refine run0 ?_
 have h0:c.B.length≤2 ^ 21:=h
 simp -implicitDefEqProofs (maxSteps:=1000000) only [x_s_l8Copy,go_sem]
 repeat refine ⟨sc,?_⟩
 try exact sf
def x_i_copyRow:FnX:=⟨12,[.cell 2 (some 7)],
  .q [.v 1 0,.op 2 (.alloc [.e,.i 0,.nils 1,.i 0,.nils 1,.i 0,.F])]
 (.seq (.draw [.f 3 1 1,.L 4 2 3,.c 5 193 [4],.f 6 1 3,.L 7 2 6,.c 8 193 [7],.f 9 1 1,.s 100001 2 9 5,.f 10 1 3,.s 100002 2 10 8] [[],[0],[1],[],[3],[4,2],[0,1,2,3,4],[6,2,5,0,1,2,3,4],[0,1,2,3,4,5,6,7],[8,5,7,0,1,2,3,4,5,6,7]])
 (.q [.L 11 7 1,.s 100003 7 2 11]
 .ret))⟩
theorem r_i_copyRow {Te:TE} (c_i_copyCell:C_i_copyCell Te):C_i_copyRow (RF Te x_i_copyRow):=by
 intro r h
 refine X0 x_i_copyRow.eq_1 ?_
 refine C0 (c_i_copyCell r.Old h.1) ?_
 exact D0 (c_i_copyCell r.New h.2)
def x_s_l9Copy:FnX:=⟨16,[.cell 2 (some 7)],
  .q [.v 1 0,.op 2 (.alloc [.e,.i 0,.nils 1,.i 0,.nils 1,.i 0,.F])]
 (.seq (.draw [.f 3 1 0,.l 4 3,.f 5 1 1,.L 6 2 5,.c 7 176 [6],.f 8 1 3,.L 9 2 8,.c 10 176 [9],.f 11 1 5,.l 12 11,.f 13 1 6,.l 14 13,.op 15 (.build [.e,.i 0,.nils 1,.i 0,.nils 1,.i 0,.F] [(0,1,(.t 4)),(1,2,(.t 7)),(3,2,(.t 10)),(5,1,(.t 12)),(6,1,(.t 14))]),.s 100001 7 2 15] [[],[0],[],[2],[3],[],[5],[6,4],[],[8],[],[10],[1,4,7,9,11],[12,7,0,1,2,3,4,5,6,7,8,9,10,11,12]])
 .ret)⟩
theorem r_s_l9Copy {Te:TE} (c_s_l8Copy:C_s_l8Copy Te):C_s_l9Copy (RF Te x_s_l9Copy):=by
 intro r h
 refine X0 x_s_l9Copy.eq_1 ?_
 refine C0 (c_s_l8Copy r.Old h.1) ?_
 exact D0 (c_s_l8Copy r.New h.2)
def x_i_flag:FnX:=⟨4,[.tmp 2],
  .q [.op 2 (.mv (.k (.one (.pv (.int .u8 0)))))]
 (.seq (.q [.m 3 0]
 (.c 3 (.q [.op 2 (.mv (.k (.one (.pv (.int .u8 1)))))]
 .ret)))
 (.q [.op 2 (.mv (.k (.one (.pv (.int .u8 0)))))]
 .ret))⟩
theorem r_i_flag {Te:TE}:C_i_flag (RF Te x_i_flag):=by
 intro b
 cases b
 ·refine X0 x_i_flag.eq_1 ?_
  try rfl
 ·refine X0 x_i_flag.eq_1 ?_
  try rfl
def x_s_l11Bit:FnX:=⟨4,[.tmp 2],
  .q [.op 2 (.mv (.k (.one (.pv (.int .u8 0)))))]
 (.seq (.q [.m 3 0]
 (.c 3 (.q [.op 2 (.mv (.k (.one (.pv (.int .u8 1)))))]
 .ret)))
 (.q [.op 2 (.mv (.k (.one (.pv (.int .u8 0)))))]
 .ret))⟩
theorem r_s_l11Bit {Te:TE}:C_s_l11Bit (RF Te x_s_l11Bit):=by
 intro b
 cases b
 ·refine X0 x_s_l11Bit.eq_1 ?_
  try rfl
 ·refine X0 x_s_l11Bit.eq_1 ?_
  try rfl
def x_i_sameRow:FnX:=⟨38,[.tmp 4],
  .q [.v 2 0,.v 3 1,.F 4]
 (.q [.f 5 2 0,.l 6 5,.f 7 3 0,.l 8 7,.b 9 .eql 6 8,.m 10 9,.y 10 (.f 11 2 1),.y 10 (.L 12 2 11),.y 10 (.f 13 3 1),.y 10 (.L 14 2 13),.y 10 (.c 15 113 [12,14]),.a 16 10 15,.m 17 16,.y 17 (.f 18 2 3),.y 17 (.L 19 2 18),.y 17 (.f 20 3 3),.y 17 (.L 21 2 20),.y 17 (.c 22 113 [19,21]),.a 23 17 22,.m 24 23,.y 24 (.f 25 2 5),.y 24 (.l 26 25),.y 24 (.f 27 3 5),.y 24 (.l 28 27),.y 24 (.b 29 .eql 26 28),.a 30 24 29,.m 31 30,.y 31 (.f 32 2 6),.y 31 (.l 33 32),.y 31 (.f 34 3 6),.y 31 (.l 35 34),.y 31 (.op 36 (.beq false (.t 33) (.t 35))),.a 37 31 36,.m 4 37]
 .ret)⟩
theorem r_i_sameRow {Te:TE} (c_i_sameCell:C_i_sameCell Te):C_i_sameRow (RF Te x_i_sameRow):=by
 intro a c
 refine run0 ?_
 simp -implicitDefEqProofs (maxSteps:=1000000) only [x_i_sameRow,go_sem,bytes_beq]
 repeat refine ⟨sc,?_⟩
 try exact sf
 cases g1:decide (a.Key=c.Key)
 ·try simp -implicitDefEqProofs (maxSteps:=1000000) only [go_sem,g1,rowSame]
  repeat refine ⟨sc,?_⟩
  try exact sf
 refine G1 g1 ?_
 have t1:=c_i_sameCell a.Old c.Old
 have t2:=c_i_sameCell a.New c.New
 rw [← cellSame] at t1 t2
 refine .of t1 ?_
 cases g2:cellSame a.Old c.Old
 ·try simp -implicitDefEqProofs (maxSteps:=1000000) only [go_sem,g1,g2,rowSame]
  repeat refine ⟨sc,?_⟩
  try exact sf
 refine G0 ?_
 refine .of t2 ?_
 cases g3:cellSame a.New c.New
 ·try simp -implicitDefEqProofs (maxSteps:=1000000) only [go_sem,g1,g2,g3,rowSame]
  repeat refine ⟨sc,?_⟩
  try exact sf
 refine G0 ?_
 cases g4:(a.Has==c.Has)
 ·try simp -implicitDefEqProofs (maxSteps:=1000000) only [go_sem,g1,g2,g3,g4,rowSame]
  repeat refine ⟨sc,?_⟩
  try exact sf
 have e9:∀ c:Bool,(c != false)=c:=fun c=>by cases c <;> rfl
 try simp -implicitDefEqProofs (maxSteps:=1000000) only [go_sem,g1,g2,g3,g4,rowSame,e9]
 repeat refine ⟨sc,?_⟩
 try exact sf
def x_s_l11NoRow:FnX:=⟨26,[.tmp 2],
  .q [.v 1 0,.F 2]
 (.q [.f 3 1 0,.l 4 3,.op 5 (.bin .eql (.t 4) (.k (.one (.pv (.string ⟨#[]⟩))))),.m 6 5,.y 6 (.f 7 1 1),.y 6 (.L 8 2 7),.y 6 (.c 9 214 [8]),.a 10 6 9,.m 11 10,.y 11 (.f 12 1 3),.y 11 (.L 13 2 12),.y 11 (.c 14 214 [13]),.a 15 11 14,.m 16 15,.y 16 (.f 17 1 5),.y 16 (.l 18 17),.y 16 (.B 19 .eql 18 0),.a 20 16 19,.m 21 20,.y 21 (.f 22 1 6),.y 21 (.l 23 22),.y 21 (.N 24 23),.a 25 21 24,.m 2 25]
 .ret)⟩
theorem r_s_l11NoRow {Te:TE} (c_s_l9None:C_s_l9None Te):C_s_l11NoRow (RF Te x_s_l11NoRow):=by
 intro r
 refine run0 ?_
 simp -implicitDefEqProofs (maxSteps:=1000000) only [x_s_l11NoRow,go_sem,bytes_beq]
 repeat refine ⟨sc,?_⟩
 try exact sf
 cases g1:decide (r.Key=⟨#[]⟩)
 ·try simp -implicitDefEqProofs (maxSteps:=1000000) only [go_sem,g1,RowV.no]
  repeat refine ⟨sc,?_⟩
  try exact sf
 refine G1 g1 ?_
 refine C0 (c_s_l9None r.Old) ?_
 cases g2:r.Old.no
 ·try simp -implicitDefEqProofs (maxSteps:=1000000) only [go_sem,g1,g2,RowV.no]
  repeat refine ⟨sc,?_⟩
  try exact sf
 refine G0 ?_
 refine C0 (c_s_l9None r.New) ?_
 cases g3:r.New.no
 ·try simp -implicitDefEqProofs (maxSteps:=1000000) only [go_sem,g1,g2,g3,RowV.no]
  repeat refine ⟨sc,?_⟩
  try exact sf
 refine G0 ?_
 cases g4:(r.Has==0)
 ·try simp -implicitDefEqProofs (maxSteps:=1000000) only [go_sem,g1,g2,g3,g4,RowV.no]
  repeat refine ⟨sc,?_⟩
  try exact sf
 try simp -implicitDefEqProofs (maxSteps:=1000000) only [go_sem,g1,g2,g3,g4,RowV.no]
 repeat refine ⟨sc,?_⟩
 try exact sf
def x_i_DevOk:FnX:=⟨57,[.tmp 2],
  .q [.v 1 0,.F 2]
 (.seq (.q [.f 7 1 0,.l 8 7,.n 9 8,.op 10 (.call 57 [0,0,0] [(.t 9),(.i 1),(.i 64)]),.N 11 10,.m 12 11,.z 12 (.f 13 1 1),.z 12 (.l 14 13),.z 12 (.n 15 14),.z 12 (.B 16 .gtr 15 40),.r 17 12 16,.m 18 17,.z 18 (.f 19 1 2),.z 18 (.l 20 19),.z 18 (.op 21 (.call 57 [0,0,0] [(.t 20),(.i (-1)),(.i 1000)])),.z 18 (.N 22 21),.r 23 18 22]
 (.c 23 (.q [.F 2]
 .ret)))
 (.seq (.q [.f 24 1 0,.l 25 24,.n 26 25,.i 27 0]
 (.block 0 (.loop [1,25,26,27] (.q [.b 28 .lss 27 26]
 (.seq (.cond 28 .skip (.exit 0))
 (.seq (.block 1 (.q [.x 29 1 25 27,.l 30 29,.m 4 30]
 (.q [.m 31 4,.n 32 31,.B 33 .gtr 32 120]
 (.c 33 (.q [.F 2]
 .ret)))))
 (.reg [.B 34 .add 27 1,.m 27 34])))))))
 (.norm [1] (.seq (.q [.f 35 1 1,.l 36 35,.n 37 36,.i 38 0]
 (.block 2 (.loop [1,36,37,38] (.q [.b 39 .lss 38 37]
 (.seq (.cond 39 .skip (.exit 2))
 (.seq (.block 3 (.q [.x 40 2 36 38,.L 41 2 40,.op 6 (.alloc [.i 0,.nils 1]),.s 100001 2 6 41]
 (.q [.f 42 6 0,.l 43 42,.f 44 1 0,.l 45 44,.n 46 45,.B 47 .sub 46 1,.op 48 (.call 57 [0,0,0] [(.t 43),(.i 0),(.t 47)]),.N 49 48,.m 50 49,.z 50 (.f 51 6 1),.z 50 (.l 52 51),.z 50 (.n 53 52),.z 50 (.B 54 .gtr 53 120),.r 55 50 54]
 (.c 55 (.q [.F 2]
 .ret)))))
 (.reg [.B 56 .add 38 1,.m 38 56])))))))
 (.norm [] (.q [.T 2]
 .ret))))))⟩
theorem r_i_DevOk {Te:TE} (c_i_within:C_i_within Te):C_i_DevOk (RF Te x_i_DevOk):=by
 intro d h
 obtain ⟨⟨hl,hS⟩,hl2,hC⟩:=h
 have ws:IntKind.i64.wrap ((d.Secs.length:Int) - 1)=(d.Secs.length:Int) - 1:=IntWalk.i64_in _ (by omega)
 refine X0 x_i_DevOk.eq_1 ?_
 refine C0 (c_i_within _ _ _) ?_
 cases g1:win (d.Secs.length:Int) 1 64
 ·have e:d.ok=false:=by simp only [DevV.ok,g1,Bool.false_and]
  exact F1 e
 cases g2:decide ((d.Cache.length:Int) > 40)
 ·have g2':decide ((d.Cache.length:Int)≤40)=true:=by rw [gt_le] at g2; simpa using g2
  refine G1 g2 ?_
  refine C0 (c_i_within _ _ _) ?_
  cases g3:win d.Fuse (-1) 1000
  ·have e:d.ok=false:=by simp only [DevV.ok,g3,Bool.and_false,Bool.false_and]
   exact F1 e
  simp -implicitDefEqProofs (maxSteps:=1000000) only [go_sem,true_implies,false_implies,true_and]
  refine loop_of (σ:=Nat) (fun i=>⟨[(1,.bp 1 0),(25,.one (.ro 1 (d.Secs.map (fun y=>[slT false 1 uR y])))),(26,.one (.pv (.int .i64 d.Secs.length))),(27,.one (.pv (.int .i64 i)))],[(1,[.ro 1 (d.Secs.map (fun y=>[slT false 1 uR y])),.ro 2 (d.Cache.map (WrV.enc false)),.pv (.int .i64 d.Fuse),.pv (.bool d.Down)])],[(0,d.enc false)]⟩) (fun i=>i≤d.Secs.length∧(d.Secs.take i).all (secGood)=true) (fun i=>d.Secs.length - i) 0 ?_ ⟨Nat.zero_le _,rfl⟩ ?_
  ·simp -implicitDefEqProofs (maxSteps:=1000000) only [go_sem]
   try rfl
  ·rintro i ⟨hi,hp⟩
   cases q:decide ((i:Int) < (d.Secs.length:Int))
   ·have eS:=all_end (p:=secGood) (show d.Secs.length≤i by simp only [decide_eq_false_iff_not] at q; omega) hp
    refine G1 q ?_
    refine loop_of (σ:=Nat) (fun i=>⟨[(1,.bp 1 0),(36,.one (.ro 2 (d.Cache.map (WrV.enc false)))),(37,.one (.pv (.int .i64 d.Cache.length))),(38,.one (.pv (.int .i64 i)))],[(1,[.ro 1 (d.Secs.map (fun y=>[slT false 1 uR y])),.ro 2 (d.Cache.map (WrV.enc false)),.pv (.int .i64 d.Fuse),.pv (.bool d.Down)])],[(0,d.enc false)]⟩) (fun i=>i≤d.Cache.length∧(d.Cache.take i).all (wrGood d.Secs.length)=true) (fun i=>d.Cache.length - i) 0 ?_ ⟨Nat.zero_le _,rfl⟩ ?_
    ·simp -implicitDefEqProofs (maxSteps:=1000000) only [go_sem]
     try rfl
    ·rintro i ⟨hi,hp⟩
     cases q:decide ((i:Int) < (d.Cache.length:Int))
     ·have eC:=all_end (p:=wrGood d.Secs.length) (show d.Cache.length≤i by simp only [decide_eq_false_iff_not] at q; omega) hp
      refine G1 q ?_
      have e:d.ok=true:=by simp only [DevV.ok,g1,g2',g3,eS,eC,Bool.and_true]
      exact F1 e
     ·have k1:i < d.Cache.length:=by simp only [decide_eq_true_eq] at q; omega
      refine G3 q (List.getElem?_eq_getElem k1) ws ?_
      refine C0 (c_i_within _ _ _) ?_
      cases g:win d.Cache[i].N 0 ((d.Secs.length:Int) - 1)
      ·have gg:wrGood d.Secs.length d.Cache[i]=false:=by simp only [wrGood,g,Bool.false_and]
       have e:d.ok=false:=by simp only [DevV.ok,all_not (p:=wrGood d.Secs.length) k1 gg,Bool.and_false]
       exact F1 e
      ·cases g2:decide ((d.Cache[i].B.length:Int) > 120)
       ·refine G2 g2 (List.getElem?_eq_getElem k1) ?_
        exact ⟨i + 1,by rw [IntWalk.i64_in _ (by omega)]; rfl,⟨k1,all_step (p:=wrGood d.Secs.length) k1 hp (by simp only [wrGood,g,g2,Bool.not_false,Bool.and_true])⟩,by omega⟩
       ·have gg:wrGood d.Secs.length d.Cache[i]=false:=by simp only [wrGood,g2,Bool.not_true,Bool.and_false]
        have e:d.ok=false:=by simp only [DevV.ok,all_not (p:=wrGood d.Secs.length) k1 gg,Bool.and_false]
        exact F3 g2 (List.getElem?_eq_getElem k1) e
   ·have k1:i < d.Secs.length:=by simp only [decide_eq_true_eq] at q; omega
    cases g:decide ((d.Secs[i].length:Int) > 120)
    ·refine G3 q (List.getElem?_eq_getElem k1) g ?_
     exact ⟨i + 1,by rw [IntWalk.i64_in _ (by omega)]; rfl,⟨k1,all_step (p:=secGood) k1 hp (by simp only [secGood,g,Bool.not_false])⟩,by omega⟩
    ·have gg:secGood d.Secs[i]=false:=by simp only [secGood,g,Bool.not_true]
     have e:d.ok=false:=by simp only [DevV.ok,all_not (p:=secGood) k1 gg,Bool.and_false,Bool.false_and]
     exact F4 q (List.getElem?_eq_getElem k1) g e
 ·have g2':decide ((d.Cache.length:Int)≤40)=false:=by rw [gt_le] at g2; simpa using g2
  have e:d.ok=false:=by simp only [DevV.ok,g2',Bool.and_false,Bool.false_and]
  exact F2 g2 e
def x_l_toNode:FnX:=⟨12,[.cell 2 (some 10)],
  .q [.v 1 0,.op 2 (.alloc [.nils 1,.nils 2,.i 0,.F,.nils 7,.i 0,.nils 3,.i 0,.i 0,.i 0])]
 (.q [.op 3 (.alloc [.nils 1,.nils 2,.i 0,.F,.nils 7,.i 0,.nils 3,.i 0,.i 0,.i 0])]
 (.q [.f 4 1 0,.L 5 9 4,.c 6 27 [5],.f 7 3 0,.s 100001 9 7 6]
 (.q [.f 8 1 9,.l 9 8,.f 10 3 9,.s 100002 1 10 9]
 (.q [.L 11 10 3,.s 100003 10 2 11]
 .ret))))⟩
theorem r_l_toNode {Te:TE} (c_l_toStore:C_l_toStore Te):C_l_toNode (RF Te x_l_toNode):=by
 intro x hx
 refine run0 ?_
 have h0:x.S.Len:=hx
 simp -implicitDefEqProofs (maxSteps:=1000000) only [x_l_toNode,go_sem]
 exact D0 (c_l_toStore _ h0)
def x_l_eqNode:FnX:=⟨16,[.tmp 4],
  .q [.v 2 0,.v 3 1,.F 4]
 (.seq (.q [.f 5 2 0,.L 6 9 5,.f 7 3 0,.L 8 9 7,.c 9 34 [6,8],.N 10 9]
 (.c 10 (.q [.F 4]
 .ret)))
 (.seq (.q [.f 11 2 9,.l 12 11,.f 13 3 9,.l 14 13,.b 15 .neq 12 14]
 (.c 15 (.q [.F 4]
 .ret)))
 (.q [.T 4]
 .ret)))⟩
theorem r_l_eqNode {Te:TE} (c_l_eqStore:C_l_eqStore Te):C_l_eqNode (RF Te x_l_eqNode):=by
 intro x y hx
 refine run0 ?_
 have h0:x.S.Len:=hx
 have key:(x=y)↔x.S=y.S∧x.Cs=y.Cs:=by cases x; cases y; simp
 simp only [key]
 clear key
 simp -implicitDefEqProofs (maxSteps:=1000000) only [x_l_eqNode,go_sem]
 refine .of (c_l_eqStore _ _ h0) ?_
 simp -implicitDefEqProofs (maxSteps:=1000000) only [go_sem]
 refine ⟨fun q=>?_,fun q=>?_⟩
 ·have n0:¬ (x.S=y.S):=by simpa using q
  simp only [n0,false_and,and_false,true_and,decide_false]
 have e0:x.S=y.S:=by simpa using q
 clear q
 refine ⟨fun q=>?_,fun q=>?_⟩
 ·have n1:¬ (x.Cs=y.Cs):=by simpa using q
  simp only [e0,n1,false_and,and_false,true_and,decide_false]
 have e1:x.Cs=y.Cs:=by simpa using q
 clear q
 simp only [e0,e1,true_and,and_true,decide_true]
def x_l_markNode:FnX:=⟨10,[.tmp 4],
  .q [.v 2 0,.i 4 0]
 (.q [.f 5 2 0,.L 6 9 5,.m 7 1,.op 8 (.io 37 (.t 6) [(.t 7)]),.m 1 8]
 (.q [.m 9 1,.m 4 9]
 .ret))⟩
theorem r_l_markNode {Te:TE} (c_l_markStore:C_l_markStore Te):C_l_markNode (RF Te x_l_markNode):=by
 intro x k hx hk
 refine run0 ?_
 have h0:x.S.Len:=hx
 simp -implicitDefEqProofs (maxSteps:=1000000) only [x_l_markNode,go_sem]
 repeat (refine ⟨by decide,?_⟩)
 refine .of (c_l_markStore _ _ h0 (by omega)) ?_
 simp -implicitDefEqProofs (maxSteps:=1000000) only [go_sem]
 repeat (refine back_bif (by simp -implicitDefEqProofs (maxSteps:=1000000) only [go_sem]) ?_; simp -implicitDefEqProofs (maxSteps:=1000000) only [go_sem])
 have w0:=StoreV.far_le h0 k
 rfl
def x_l_heldNode:FnX:=⟨12,[.tmp 4],
  .q [.v 2 0,.i 4 0]
 (.q [.f 5 2 0,.L 6 9 5,.m 7 1,.c 8 39 [6,7],.m 1 8]
 (.seq (.q [.m 9 1,.B 10 .lss 9 0]
 (.c 10 (.q [.i 4 (-1)]
 .ret)))
 (.q [.m 11 1,.m 4 11]
 .ret)))⟩
theorem r_l_heldNode {Te:TE} (c_l_heldStore:C_l_heldStore Te):C_l_heldNode (RF Te x_l_heldNode):=by
 intro x k hx hk
 refine run0 ?_
 have h0:x.S.Len:=hx
 simp -implicitDefEqProofs (maxSteps:=1000000) only [x_l_heldNode,go_sem]
 refine .of (c_l_heldStore x.S _ h0 (by omega)) ?_
 simp -implicitDefEqProofs (maxSteps:=1000000) only [go_sem]
 have w0:=StoreV.far_le h0 k
 refine ⟨fun q=>by simp only [decide_eq_true_eq] at q; omega,fun _=>?_⟩
 rfl
def x_l_eqAct:FnX:=⟨35,[.tmp 4],
  .q [.v 2 0,.v 3 1,.F 4]
 (.seq (.q [.f 5 2 0,.l 6 5,.f 7 3 0,.l 8 7,.b 9 .neq 6 8]
 (.c 9 (.q [.F 4]
 .ret)))
 (.seq (.q [.f 10 2 1,.l 11 10,.f 12 3 1,.l 13 12,.b 14 .neq 11 13]
 (.c 14 (.q [.F 4]
 .ret)))
 (.seq (.q [.f 15 2 2,.l 16 15,.f 17 3 2,.l 18 17,.b 19 .neq 16 18]
 (.c 19 (.q [.F 4]
 .ret)))
 (.seq (.q [.f 20 2 3,.l 21 20,.f 22 3 3,.l 23 22,.b 24 .neq 21 23]
 (.c 24 (.q [.F 4]
 .ret)))
 (.seq (.q [.f 25 2 4,.l 26 25,.f 27 3 4,.l 28 27,.b 29 .neq 26 28]
 (.c 29 (.q [.F 4]
 .ret)))
 (.seq (.q [.f 30 2 5,.l 31 30,.f 32 3 5,.l 33 32,.b 34 .neq 31 33]
 (.c 34 (.q [.F 4]
 .ret)))
 (.q [.T 4]
 .ret)))))))⟩
theorem r_l_eqAct {Te:TE}:C_l_eqAct (RF Te x_l_eqAct):=by
 intro x y
 refine run0 ?_
 have key:(x=y)↔x.Kind=y.Kind∧x.Who=y.Who∧x.Seq=y.Seq∧x.Key=y.Key∧x.Text=y.Text∧x.Code=y.Code:=by cases x; cases y; simp
 simp only [key]
 clear key
 simp -implicitDefEqProofs (maxSteps:=1000000) only [x_l_eqAct,go_sem]
 refine ⟨fun q=>?_,fun q=>?_⟩
 ·have n0:¬ (x.Kind=y.Kind):=by simpa using q
  simp only [n0,false_and,and_false,true_and,decide_false]
 have e0:x.Kind=y.Kind:=by simpa using q
 clear q
 refine ⟨fun q=>?_,fun q=>?_⟩
 ·have n1:¬ (x.Who=y.Who):=by simpa using q
  simp only [e0,n1,false_and,and_false,true_and,decide_false]
 have e1:x.Who=y.Who:=by simpa using q
 clear q
 refine ⟨fun q=>?_,fun q=>?_⟩
 ·have n2:¬ (x.Seq=y.Seq):=by simpa using q
  simp only [e0,e1,n2,false_and,and_false,true_and,decide_false]
 have e2:x.Seq=y.Seq:=by simpa using q
 clear q
 refine ⟨fun q=>?_,fun q=>?_⟩
 ·have n3:¬ (x.Key=y.Key):=by simpa using q
  simp only [e0,e1,e2,n3,false_and,and_false,true_and,decide_false]
 have e3:x.Key=y.Key:=by simpa using q
 clear q
 refine ⟨fun q=>?_,fun q=>?_⟩
 ·have n4:¬ (x.Text=y.Text):=by simpa using q
  simp only [e0,e1,e2,e3,n4,false_and,and_false,true_and,decide_false]
 have e4:x.Text=y.Text:=by simpa using q
 clear q
 refine ⟨fun q=>?_,fun q=>?_⟩
 ·have n5:¬ (x.Code=y.Code):=by simpa using q
  simp only [e0,e1,e2,e3,e4,n5,false_and,and_false,true_and,decide_false]
 have e5:x.Code=y.Code:=by simpa using q
 clear q
 simp only [e0,e1,e2,e3,e4,e5,true_and,and_true,decide_true]
def x_l_eqActS:FnX:=⟨27,[.tmp 4],
  .q [.F 4]
 (.seq (.q [.m 6 0,.n 7 6,.m 8 1,.n 9 8,.b 10 .neq 7 9]
 (.c 10 (.q [.F 4]
 .ret)))
 (.seq (.q [.i 5 0]
 (.block 0 (.loop [0,1,5] (.seq (.q [.m 11 5,.m 12 0,.n 13 12,.b 14 .lss 11 13]
 (.cond 14 .skip (.exit 0)))
 (.seq (.block 1 (.seq (.draw [.m 17 0,.m 18 5,.x 19 6 17 18,.L 20 6 19,.m 21 1,.m 22 5,.x 23 6 21 22,.L 24 6 23,.c 25 36 [20,24],.N 26 25] [[],[],[0,1],[2],[],[],[4,5],[6],[3,7],[8]])
 (.c 26 (.q [.F 4]
 .ret))))
 (.reg [.m 15 5,.B 16 .add 15 1,.m 5 16]))))))
 (.norm [] (.q [.T 4]
 .ret))))⟩
theorem r_l_eqActS {Te:TE} (c_l_eqAct:C_l_eqAct Te):C_l_eqActS (RF Te x_l_eqActS):=by
 intro l m hl
 refine run0 ?_
 simp -implicitDefEqProofs (maxSteps:=1000000) (disch:=omega) only [x_l_eqActS,go_sem,IntWalk.i64_in]
 refine ⟨fun h=>?_,fun h=>?_⟩
 ·have:l≠m:=fun e=>by simp [e] at h
  simp [this]
 ·have hlen:l.length=m.length:=by simp at h; omega
  refine loop_of (σ:=Nat) (fun i=>⟨[(0,.one (.ro 6 (l.map ActV.row))),(1,.one (.ro 6 (m.map ActV.row))),(5,.one (.pv (.int .i64 i)))],[],[(0,[slT false 6 ActV.row l]),(1,[slT false 6 ActV.row m])]⟩) (fun i=>i≤l.length∧l.take i=m.take i) (fun i=>l.length - i) 0 ?_ ⟨Nat.zero_le _,by simp⟩ ?_
  ·simp -implicitDefEqProofs (maxSteps:=1000000) only [go_sem]; rfl
  ·intro i ⟨hi,hs⟩
   simp -implicitDefEqProofs (maxSteps:=1000000) only [go_sem]
   refine ⟨fun h=>?_,fun h=>?_⟩
   ·have hi':i < l.length:=by simp only [decide_eq_true_eq] at h; omega
    have hj':i < m.length:=by omega
    simp -implicitDefEqProofs (maxSteps:=1000000) only [go_sem,List.getElem?_eq_getElem hi',List.getElem?_eq_getElem hj']
    refine .of (c_l_eqAct _ _) ?_
    simp -implicitDefEqProofs (maxSteps:=1000000) only [go_sem]
    refine ⟨by decide,fun h2=>?_,fun h2=>?_⟩
    ·have:l≠m:=fun e=>by subst e; simp at h2
     simp [this]
    ·refine ⟨i + 1,by rw [IntWalk.i64_in _ (by omega)]; rfl,⟨hi',same_step hi' hj' hs ?_⟩,by omega⟩
     simpa using h2
   ·have hle:l.length≤i:=by simp only [decide_eq_false_iff_not] at h; omega
    have:l=m:=same_end hle (by omega) hs
    simp [this]
def x_l_heldMsgS_7:XCode:=.seq (.q [.m 77 0,.m 78 5,.x 79 8 77 78,.f 80 79 7,.l 81 80,.m 82 1,.b 83 .neq 81 82]
 (.c 83 (.q [.i 4 (-1)]
 .ret)))
 (.reg [.m 84 1,.B 85 .add 84 1,.m 1 85])
def x_l_heldMsgS_6:XCode:=.seq (.q [.m 68 0,.m 69 5,.x 70 8 68 69,.f 71 70 6,.l 72 71,.m 73 1,.b 74 .neq 72 73]
 (.c 74 (.q [.i 4 (-1)]
 .ret)))
 (.q [.m 75 1,.B 76 .add 75 1,.m 1 76]
 x_l_heldMsgS_7)
def x_l_heldMsgS_5:XCode:=.seq (.seq (.draw [.m 58 0,.m 59 5,.x 60 8 58 59,.f 61 60 5,.l 62 61,.m 63 1,.c 64 38 [63],.b 65 .neq 62 64] [[],[],[0,1],[2],[3],[],[5],[4,6]])
 (.c 65 (.q [.i 4 (-1)]
 .ret)))
 (.q [.m 66 1,.B 67 .add 66 1,.m 1 67]
 x_l_heldMsgS_6)
def x_l_heldMsgS_4:XCode:=.seq (.seq (.draw [.m 48 0,.m 49 5,.x 50 8 48 49,.f 51 50 4,.l 52 51,.m 53 1,.c 54 38 [53],.b 55 .neq 52 54] [[],[],[0,1],[2],[3],[],[5],[4,6]])
 (.c 55 (.q [.i 4 (-1)]
 .ret)))
 (.q [.m 56 1,.B 57 .add 56 1,.m 1 57]
 x_l_heldMsgS_5)
def x_l_heldMsgS_3:XCode:=.seq (.q [.m 39 0,.m 40 5,.x 41 8 39 40,.f 42 41 3,.l 43 42,.m 44 1,.b 45 .neq 43 44]
 (.c 45 (.q [.i 4 (-1)]
 .ret)))
 (.q [.m 46 1,.B 47 .add 46 1,.m 1 47]
 x_l_heldMsgS_4)
def x_l_heldMsgS_2:XCode:=.seq (.q [.m 30 0,.m 31 5,.x 32 8 30 31,.f 33 32 2,.l 34 33,.m 35 1,.b 36 .neq 34 35]
 (.c 36 (.q [.i 4 (-1)]
 .ret)))
 (.q [.m 37 1,.B 38 .add 37 1,.m 1 38]
 x_l_heldMsgS_3)
def x_l_heldMsgS_1:XCode:=.seq (.q [.m 21 0,.m 22 5,.x 23 8 21 22,.f 24 23 1,.l 25 24,.m 26 1,.b 27 .neq 25 26]
 (.c 27 (.q [.i 4 (-1)]
 .ret)))
 (.q [.m 28 1,.B 29 .add 28 1,.m 1 29]
 x_l_heldMsgS_2)
def x_l_heldMsgS:FnX:=⟨87,[.tmp 4],
  .q [.i 4 0]
 (.seq (.q [.i 5 0]
 (.block 0 (.loop [0,1,5] (.seq (.q [.m 6 5,.m 7 0,.n 8 7,.b 9 .lss 6 8]
 (.cond 9 .skip (.exit 0)))
 (.seq (.block 1 (.seq (.q [.m 12 0,.m 13 5,.x 14 8 12 13,.f 15 14 0,.l 16 15,.m 17 1,.b 18 .neq 16 17]
 (.c 18 (.q [.i 4 (-1)]
 .ret)))
 (.q [.m 19 1,.B 20 .add 19 1,.m 1 20]
 x_l_heldMsgS_1)))
 (.reg [.m 10 5,.B 11 .add 10 1,.m 5 11]))))))
 (.norm [1] (.q [.m 86 1,.m 4 86]
 .ret)))⟩
theorem r_l_heldMsgS {Te:TE} (c_l_markText:C_l_markText Te):C_l_heldMsgS (RF Te x_l_heldMsgS):=by
 intro n k hl hk
 refine run0 ?_
 simp -implicitDefEqProofs (maxSteps:=1000000) (disch:=omega) only [x_l_heldMsgS,go_sem,IntWalk.i64_in]
 refine loop_of (σ:=Nat) (fun i=>⟨[(0,.one (.ro 8 ((marks 8 mkMsg n k).map Msg.row))),(1,.one (.pv (.int .i64 (k + (8 * i:Nat))))),(5,.one (.pv (.int .i64 i)))],[],[(0,[slT false 8 Msg.row (marks 8 mkMsg n k)]),(1,[iT k])]⟩) (fun i=>i≤n) (fun i=>n - i) 0 ?_ (Nat.zero_le _) ?_
 ·simp -implicitDefEqProofs (maxSteps:=1000000) only [go_sem]; simp
 ·intro i hi
  simp -implicitDefEqProofs (maxSteps:=1000000) only [go_sem,marks_length]
  refine ⟨fun h=>?_,fun h=>?_⟩
  ·have hi':i < n:=by simp only [decide_eq_true_eq] at h; omega
   try simp -implicitDefEqProofs (maxSteps:=1000000) (disch:=omega) only [go_sem,marks_get 8 mkMsg k hi',IntWalk.i64_in,mkMsg,bne_self_eq_false,decide_true,Bool.not_true]
   simp -implicitDefEqProofs (maxSteps:=1000000) (disch:=omega) only [x_l_heldMsgS_1,go_sem,marks_get 8 mkMsg k hi',IntWalk.i64_in,mkMsg,bne_self_eq_false,decide_true,Bool.not_true]
   simp -implicitDefEqProofs (maxSteps:=1000000) (disch:=omega) only [x_l_heldMsgS_2,go_sem,marks_get 8 mkMsg k hi',IntWalk.i64_in,mkMsg,bne_self_eq_false,decide_true,Bool.not_true]
   simp -implicitDefEqProofs (maxSteps:=1000000) (disch:=omega) only [x_l_heldMsgS_3,go_sem,marks_get 8 mkMsg k hi',IntWalk.i64_in,mkMsg,bne_self_eq_false,decide_true,Bool.not_true]
   simp -implicitDefEqProofs (maxSteps:=1000000) (disch:=omega) only [x_l_heldMsgS_4,go_sem,marks_get 8 mkMsg k hi',IntWalk.i64_in,mkMsg,bne_self_eq_false,decide_true,Bool.not_true]
   refine .of (c_l_markText _ (by omega)) ?_
   simp -implicitDefEqProofs (maxSteps:=1000000) (disch:=omega) only [go_sem,marks_get 8 mkMsg k hi',IntWalk.i64_in,mkMsg,bne_self_eq_false,decide_true,Bool.not_true]
   repeat (refine ⟨by decide,?_⟩)
   simp -implicitDefEqProofs (maxSteps:=1000000) (disch:=omega) only [x_l_heldMsgS_5,go_sem,marks_get 8 mkMsg k hi',IntWalk.i64_in,mkMsg,bne_self_eq_false,decide_true,Bool.not_true]
   refine .of (c_l_markText _ (by omega)) ?_
   simp -implicitDefEqProofs (maxSteps:=1000000) (disch:=omega) only [go_sem,marks_get 8 mkMsg k hi',IntWalk.i64_in,mkMsg,bne_self_eq_false,decide_true,Bool.not_true]
   repeat (refine ⟨by decide,?_⟩)
   simp -implicitDefEqProofs (maxSteps:=1000000) (disch:=omega) only [x_l_heldMsgS_6,go_sem,marks_get 8 mkMsg k hi',IntWalk.i64_in,mkMsg,bne_self_eq_false,decide_true,Bool.not_true]
   simp -implicitDefEqProofs (maxSteps:=1000000) (disch:=omega) only [x_l_heldMsgS_7,go_sem,marks_get 8 mkMsg k hi',IntWalk.i64_in,mkMsg,bne_self_eq_false,decide_true,Bool.not_true]
   refine ⟨i + 1,?_,hi',by omega⟩
   rw [show k + ((8 * (i + 1):Nat):Int)=k + (8 * i:Nat) + 1 + 1 + 1 + 1 + 1 + 1 + 1 + 1 by omega]
   rfl
  ·have:i=n:=by simp only [decide_eq_false_iff_not] at h; omega
   subst this
   simp -implicitDefEqProofs (maxSteps:=1000000) only [go_sem]
def x_s_Sum:FnX:=⟨32,[.tmp 2],
  .q [.i 2 0]
 (.q [.i 3 65535]
 (.seq (.q [.i 4 0]
 (.block 0 (.loop [0,3,4] (.seq (.q [.m 6 4,.m 7 0,.n 8 7,.b 9 .lss 6 8]
 (.cond 9 .skip (.exit 0)))
 (.seq (.block 1 (.q [.m 12 3,.m 13 0,.m 14 4,.x 15 1 13 14,.l 16 15,.op 17 (.conv (.int .i64) (.t 16)),.op 18 (.bin .shl (.t 17) (.k (.one (.pv (.int .u64 8))))),.b 19 .xor 12 18,.m 3 19]
 (.q [.i 5 0]
 (.block 2 (.loop [0,3,4,5] (.seq (.q [.m 20 5,.B 21 .lss 20 8]
 (.cond 21 .skip (.exit 2)))
 (.seq (.block 3 (.q [.m 24 3,.op 25 (.bin .shl (.t 24) (.k (.one (.pv (.int .u64 1))))),.m 3 25]
 (.q [.m 26 3,.B 27 .gtr 26 65535]
 (.c 27 (.reg [.m 28 3,.B 29 .xor 28 69665,.m 3 29])))))
 (.reg [.m 22 5,.B 23 .add 22 1,.m 5 23]))))))))
 (.norm [0,3,4] (.reg [.m 10 4,.B 11 .add 10 1,.m 4 11])))))))
 (.norm [3] (.q [.m 30 3,.B 31 .and 30 65535,.m 2 31]
 .ret))))⟩
theorem r_s_Sum {Te:TE}:C_s_Sum (RF Te x_s_Sum):=by
 intro l h
 refine run0 ?_
 simp -implicitDefEqProofs (maxSteps:=1000000) only [x_s_Sum,go_sem]
 refine loop_of (σ:=Nat×Nat) (fun x=>⟨[(0,.one (.ro 1 (l.map uR))),(3,.one (.pv (.int .i64 x.2))),(4,.one (.pv (.int .i64 x.1)))],[],[(0,[slT false 1 uR l])]⟩) (fun x=>x.1≤l.length∧x.2 < 65536∧x.2=(l.take x.1).foldl sumByte 65535) (fun x=>l.length - x.1) (0,65535) ?_ ⟨Nat.zero_le _,by decide,rfl⟩ ?_
 ·simp -implicitDefEqProofs (maxSteps:=1000000) only [go_sem]; rfl
 ·rintro ⟨i,s⟩ ⟨hi,hs,he⟩
  simp only at hi hs he
  simp -implicitDefEqProofs (maxSteps:=1000000) only [go_sem]
  refine ⟨fun h=>?_,fun h=>?_⟩
  ·have hi':i < l.length:=by simp only [decide_eq_true_eq] at h; omega
   have hb:=l[i].toNat_lt
   have e1:IntKind.i64.wrap (l[i].toNat:Int)=(l[i].toNat:Int):=IntWalk.i64_in _ (by omega)
   have e2:IntKind.i64.wrap ((l[i].toNat:Int) * 2 ^ 8)=((256 * l[i].toNat:Nat):Int):=by rw [IntWalk.i64_in _ (by omega)]; omega
   simp -implicitDefEqProofs (maxSteps:=1000000) only [go_sem,List.getElem?_eq_getElem hi',min8,e1,e2,xor_nat s (256 * l[i].toNat) (by omega) (by omega)]
   have hx:=sumX_lt l[i] hs
   have e9:sumByte s l[i]=sumBits 8 (s ^^^ (256 * l[i].toNat)):=rfl
   generalize s ^^^ (256 * l[i].toNat)=S at *
   refine loop_of (σ:=Nat×Nat) (fun x=>⟨[(0,.one (.ro 1 (l.map uR))),(3,.one (.pv (.int .i64 x.2))),(4,.one (.pv (.int .i64 i))),(5,.one (.pv (.int .i64 x.1)))],[],[(0,[slT false 1 uR l])]⟩) (fun x=>x.1≤8∧x.2=sumBits x.1 S) (fun x=>8 - x.1) (0,S) ?_ ⟨Nat.zero_le _,rfl⟩ ?_
   ·simp -implicitDefEqProofs (maxSteps:=1000000) only [go_sem]; rfl
   ·rintro ⟨j,v⟩ ⟨hj,hv⟩
    simp only at hj hv
    have hz:v < 65536:=by rw [hv]; exact sumBits_lt j hx
    have e3:IntKind.i64.wrap ((v:Int) * 2 ^ 1)=((2 * v:Nat):Int):=by rw [IntWalk.i64_in _ (by omega)]; omega
    have e4:=xor_nat (2 * v) 69665 (by omega) (by decide)
    have e5:((69665:Nat):Int)=69665:=rfl
    rw [e5] at e4
    have e6:sumBits (j + 1) S=sumBit v:=by rw [hv]; rfl
    simp -implicitDefEqProofs (maxSteps:=1000000) only [go_sem]
    refine ⟨fun h=>?_,fun h=>?_⟩
    ·have hj':j < 8:=by simp only [decide_eq_true_eq] at h; omega
     simp -implicitDefEqProofs (maxSteps:=1000000) only [go_sem,show Nat.min 1 64=1 from rfl,e3]
     refine ⟨fun h6=>?_,fun h6=>?_⟩
     ·simp -implicitDefEqProofs (maxSteps:=1000000) only [go_sem,e4]
      refine ⟨(j + 1,2 * v ^^^ 69665),by rw [IntWalk.i64_in _ (by omega)]; rfl,⟨hj',?_⟩,by simp only; omega⟩
      rw [e6,sumBit,if_pos (by simp only [decide_eq_true_eq] at h6; omega)]
     ·refine ⟨(j + 1,2 * v),by rw [IntWalk.i64_in _ (by omega)]; rfl,⟨hj',?_⟩,by simp only; omega⟩
      rw [e6,sumBit,if_neg (by simp only [decide_eq_false_iff_not] at h6; omega)]
    ·have hj':j=8:=by simp only [decide_eq_false_iff_not] at h; omega
     subst hj'
     rw [← e9] at hv
     refine ⟨(i + 1,v),by rw [IntWalk.i64_in _ (by omega)]; rfl,⟨hi',hz,?_⟩,by simp only; omega⟩
     simp only
     rw [List.take_succ_eq_append_getElem hi',List.foldl_append,← he,hv,List.foldl_cons,List.foldl_nil]
  ·have hle:l.length≤i:=by simp only [decide_eq_false_iff_not] at h; omega
   rw [List.take_of_length_le hle] at he
   have e7:=and_nat s 65535 (by omega) (by decide)
   have e8:((65535:Nat):Int)=65535:=rfl
   rw [e8] at e7
   simp -implicitDefEqProofs (maxSteps:=1000000) only [go_sem,e7,sum,← he]
def x_i_PutW:FnX:=⟨16,[.tmp 4],
  .q [.op 4 (.mv (.k (.one (.nils 1))))]
 (.q [.m 5 0,.m 6 1,.op 7 (.bin .shr (.t 6) (.k (.one (.pv (.int .u64 8))))),.B 8 .and 7 255,.op 9 (.conv (.int .u8) (.t 8)),.m 10 1,.B 11 .and 10 255,.op 12 (.conv (.int .u8) (.t 11)),.op 13 (.bslice 1 [(.t 9),(.t 12)]),.op 14 (.bslice 1 [(.t 5),(.t 13)]),.c 15 152 [14],.m 4 15]
 .ret)⟩
theorem r_i_PutW {Te:TE} (c_i_joined:C_i_joined Te):C_i_PutW (RF Te x_i_PutW):=by
 intro b n h
 refine run0 ?_
 have e1:mkU (n.fdiv (2 ^ 8))=hiB n:=rfl
 simp -implicitDefEqProofs (maxSteps:=1000000) only [x_i_PutW,go_sem,min8,mkU_wrap,and255,e1]
 refine .of (c_i_joined [b,[hiB n,mkU n]] (by simp; omega) (by simp)) ?_
 have e2:[b,[hiB n,mkU n]].flatten=putW b n:=by simp [putW]
 simp -implicitDefEqProofs (maxSteps:=1000000) only [go_sem,e2]
def x_s_PutW:FnX:=⟨17,[.tmp 4],
  .q [.op 4 (.mv (.k (.one (.nils 1))))]
 (.q [.op 6 (.bslice 1 []),.m 7 0,.op 8 (.app 1 1 (.t 6) (.t 7)),.m 5 8]
 (.q [.m 9 5,.m 10 1,.op 11 (.bin .shr (.t 10) (.k (.one (.pv (.int .u64 8))))),.op 12 (.conv (.int .u8) (.t 11)),.m 13 1,.op 14 (.conv (.int .u8) (.t 13)),.op 15 (.bslice 1 [(.t 12),(.t 14)]),.op 16 (.app 1 1 (.t 9) (.t 15)),.m 4 16]
 .ret))⟩
theorem r_s_PutW {Te:TE}:C_s_PutW (RF Te x_s_PutW):=by
 intro b n h
 refine run0 ?_
 have e1:mkU (n.fdiv (2 ^ 8))=hiB n:=rfl
 have e2:List.take (b.length + 2) (List.map uR b++[[uT (hiB n)],[uT (mkU n)]])=List.map uR (putW b n):=by rw [List.take_of_length_le (by simp)]; simp [putW]
 simp -implicitDefEqProofs (maxSteps:=1000000) only [x_s_PutW,go_sem,min8,mkU_wrap,e1,e2]
 exact ⟨⟨decide_eq_true (by omega),decide_eq_true (by omega)⟩,decide_eq_true (by omega),decide_eq_true (by omega)⟩
def x_s_PutText:FnX:=⟨17,[.tmp 4],
  .q [.op 4 (.mv (.k (.one (.nils 1))))]
 (.seq (.q [.m 5 1,.op 6 (.slen (.t 5)),.B 7 .gtr 6 60]
 (.c 7 (.q [.op 8 (.bslice 1 []),.m 9 0,.op 10 (.app 1 1 (.t 8) (.t 9)),.m 4 10]
 .ret)))
 (.q [.m 11 0,.m 12 1,.op 13 (.slen (.t 12)),.c 14 186 [11,13],.m 15 1,.op 16 (.apps 1 1 (.t 14) (.t 15)),.m 4 16]
 .ret))⟩
theorem r_s_PutText {Te:TE} (c_s_PutW:C_s_PutW Te):C_s_PutText (RF Te x_s_PutText):=by
 intro b t h ht
 refine run0 ?_
 simp -implicitDefEqProofs (maxSteps:=1000000) only [x_s_PutText,go_sem]
 refine ⟨fun q=>?_,fun q=>?_⟩
 ·have q':(t.size:Int) > 60:=by simpa using q
  simp only [putText,if_pos q']
  exact ⟨⟨decide_eq_true (by omega),decide_eq_true (by omega)⟩,trivial⟩
 ·have q':¬ ((t.size:Int) > 60):=by simpa using q
  have q3:t.data.toList.length=t.size:=by rw [Array.length_toList]; rfl
  have el:=putW_len b t.size
  have e1:List.take (b.length + 2) (List.map uR (putW b t.size))=List.map uR (putW b t.size):=List.take_of_length_le (by rw [List.length_map,el]; exact Nat.le_refl _)
  have e2:List.take (b.length + 2 + t.data.toList.length) (List.map uR (putW b t.size)++List.map uR t.data.toList)=List.map uR (putW b t.size++t.data.toList):=by
   rw [List.take_of_length_le (by rw [List.length_append,List.length_map,List.length_map,el]; exact Nat.le_refl _),List.map_append]
  simp only [putText,if_neg q']
  refine .of (c_s_PutW b _ (by omega)) ?_
  try simp -implicitDefEqProofs (maxSteps:=1000000) only [go_sem,ofBytes_eq,el,e1,e2]
  repeat refine ⟨sc,?_⟩
  try exact sf
  try exact decide_eq_true (Nat.le_refl _)
def x_l_eqWr:FnX:=⟨16,[.tmp 4],
  .q [.v 2 0,.v 3 1,.F 4]
 (.seq (.q [.f 5 2 0,.l 6 5,.f 7 3 0,.l 8 7,.b 9 .neq 6 8]
 (.c 9 (.q [.F 4]
 .ret)))
 (.seq (.q [.f 10 2 1,.l 11 10,.f 12 3 1,.l 13 12,.c 14 167 [11,13],.N 15 14]
 (.c 15 (.q [.F 4]
 .ret)))
 (.q [.T 4]
 .ret)))⟩
theorem r_l_eqWr {Te:TE} (c_l_eqByteS:C_l_eqByteS Te):C_l_eqWr (RF Te x_l_eqWr):=by
 intro x y hx
 refine run0 ?_
 have h0:x.B.length≤2 ^ 21:=hx
 have key:(x=y)↔x.N=y.N∧x.B=y.B:=by cases x; cases y; simp
 simp only [key]
 clear key
 simp -implicitDefEqProofs (maxSteps:=1000000) only [x_l_eqWr,go_sem]
 refine ⟨fun q=>?_,fun q=>?_⟩
 ·have n0:¬ (x.N=y.N):=by simpa using q
  simp only [n0,false_and,and_false,true_and,decide_false]
 have e0:x.N=y.N:=by simpa using q
 clear q
 refine .of (c_l_eqByteS _ _ (Nat.le_trans h0 (by decide))) ?_
 simp -implicitDefEqProofs (maxSteps:=1000000) only [go_sem]
 refine ⟨fun q=>?_,fun q=>?_⟩
 ·have n1:¬ (x.B=y.B):=by simpa using q
  simp only [e0,n1,false_and,and_false,true_and,decide_false]
 have e1:x.B=y.B:=by simpa using q
 clear q
 simp only [e0,e1,true_and,and_true,decide_true]
def x_l_szWrS:FnX:=⟨27,[.tmp 4],
  .q [.i 4 0]
 (.q [.m 6 1,.m 7 0,.n 8 7,.b 9 .sub 6 8,.m 1 9]
 (.seq (.q [.m 10 1,.B 11 .lss 10 0]
 (.c 11 (.q [.i 4 (-1)]
 .ret)))
 (.seq (.q [.i 5 0]
 (.block 0 (.loop [0,1,5] (.seq (.q [.m 12 5,.m 13 0,.n 14 13,.b 15 .lss 12 14]
 (.cond 15 .skip (.exit 0)))
 (.seq (.block 1 (.q [.m 18 0,.m 19 5,.x 20 2 18 19,.L 21 2 20,.m 22 1,.c 23 127 [21,22],.m 1 23]
 (.q [.m 24 1,.B 25 .lss 24 0]
 (.c 25 (.q [.i 4 (-1)]
 .ret)))))
 (.reg [.m 16 5,.B 17 .add 16 1,.m 5 17]))))))
 (.norm [1] (.q [.m 26 1,.m 4 26]
 .ret)))))⟩
theorem r_l_szWrS {Te:TE} (c_l_szWr:C_l_szWr Te):C_l_szWrS (RF Te x_l_szWrS):=by
 intro l k hk hl hs
 refine run0 ?_
 simp -implicitDefEqProofs (maxSteps:=1000000) (disch:=omega) only [x_l_szWrS,go_sem,IntWalk.i64_in]
 refine ⟨fun h=>?_,fun h=>?_⟩
 ·simp only [decide_eq_true_eq] at h
  simp only [szSl,szAll,if_pos h]
 ·simp only [decide_eq_false_iff_not] at h
  refine loop_of (σ:=Nat×Int) (fun x=>⟨[(0,.one (.ro 2 (l.map (WrV.enc false)))),(1,.one (.pv (.int .i64 x.2))),(5,.one (.pv (.int .i64 x.1)))],[],[(0,[slT false 2 (WrV.enc false) l]),(1,[iT k])]⟩) (fun x=>x.1≤l.length∧0≤x.2∧x.2≤k∧szSl szWr l k=szAll ((l.drop x.1).map szWr) x.2) (fun x=>l.length - x.1) (0,k - l.length) ?_ ⟨Nat.zero_le _,by omega,by omega,by simp only [szSl,szAll,if_neg h,List.drop_zero]⟩ ?_
  ·simp -implicitDefEqProofs (maxSteps:=1000000) only [go_sem]; rfl
  ·rintro ⟨i,c⟩ ⟨hi,h0,h1,he⟩
   simp only at hi h0 h1 he
   simp -implicitDefEqProofs (maxSteps:=1000000) only [go_sem]
   refine ⟨fun h=>?_,fun h=>?_⟩
   ·have hi':i < l.length:=by simp only [decide_eq_true_eq] at h; omega
    have hsz:=hs l[i] (List.getElem_mem hi')
    have hsn:szWr l[i] c≤c:=szWr_sane l[i] c h0
    rw [List.drop_eq_getElem_cons hi'] at he
    simp -implicitDefEqProofs (maxSteps:=1000000) (disch:=omega) only [go_sem,List.getElem?_eq_getElem hi',IntWalk.i64_in]
    refine .of (c_l_szWr _ _ hsz ⟨h0,by omega⟩) ?_
    simp -implicitDefEqProofs (maxSteps:=1000000) only [go_sem]
    refine ⟨fun h2=>?_,fun h2=>?_⟩
    ·simp only [decide_eq_true_eq] at h2
     rw [he]
     simp only [List.map_cons,szAll,if_pos h2]
    ·simp only [decide_eq_false_iff_not] at h2
     refine ⟨(i + 1,szWr l[i] c),by rw [IntWalk.i64_in _ (by omega)]; rfl,⟨hi',by omega,by simp only; omega,?_⟩,by simp only; omega⟩
     rw [he]
     simp only [List.map_cons,szAll,if_neg h2]
   ·have hle:l.length≤i:=by simp only [decide_eq_false_iff_not] at h; omega
    rw [List.drop_of_length_le hle] at he
    simp only [szAll,List.map_nil] at he
    rw [he]
def x_l_toWrS:FnX:=⟨23,[.tmp 2],
  .q [.op 2 (.mv (.k (.one (.nils 2))))]
 (.q [.m 5 0,.n 6 5,.op 7 (.mks 2 32 [.pv (.int .i64 0),.sl true 1 () []] (.t 6)),.m 3 7]
 (.seq (.q [.i 4 0]
 (.block 0 (.loop [0,3,4] (.seq (.q [.m 8 4,.m 9 0,.n 10 9,.b 11 .lss 8 10]
 (.cond 11 .skip (.exit 0)))
 (.seq (.block 1 (.reg [.m 14 3,.m 15 4,.m 16 0,.m 17 4,.x 18 2 16 17,.L 19 2 18,.c 20 149 [19],.x 21 2 14 15,.s 100001 2 21 20]))
 (.reg [.m 12 4,.B 13 .add 12 1,.m 4 13]))))))
 (.norm [3] (.q [.m 22 3,.m 2 22]
 .ret))))⟩
theorem r_l_toWrS {Te:TE} (c_l_toWr:C_l_toWr Te):C_l_toWrS (RF Te x_l_toWrS):=by
 intro l hl
 refine run0 ?_
 have hl1:=hl.1
 simp -implicitDefEqProofs (maxSteps:=1000000) (disch:=omega) only [x_l_toWrS,go_sem,IntWalk.i64_in]
 refine ⟨⟨by simp only [decide_eq_true_eq]; omega,by simp only [decide_eq_true_eq]; omega⟩,?_⟩
 refine loop_of (σ:=Nat) (fun i=>⟨[(0,.one (.ro 2 (l.map (WrV.enc false)))),(3,.one (.rf 24 0 [] 2 0 l.length)),(4,.one (.pv (.int .i64 i)))],[],
  [(0,[slT false 2 (WrV.enc false) l]),(24,[.sl true 2 () ((l.take i).map (WrV.enc true)++List.replicate (l.length - i) [.pv (.int .i64 0),.sl true 1 () []])])]⟩) (fun i=>i≤l.length) (fun i=>l.length - i) 0 ?_ (Nat.zero_le _) ?_
 ·simp -implicitDefEqProofs (maxSteps:=1000000) only [go_sem]; rfl
 ·intro i hi
  simp -implicitDefEqProofs (maxSteps:=1000000) only [go_sem]
  refine ⟨fun h=>?_,fun h=>?_⟩
  ·have hi':i < l.length:=by simp only [decide_eq_true_eq] at h; omega
   simp -implicitDefEqProofs (maxSteps:=1000000) only [go_sem,List.getElem?_eq_getElem hi',fill_len (WrV.enc true) l [.pv (.int .i64 0),.sl true 1 () []] hi,storeAp,setCells,List.getD_eq_getElem?_getD,fill_get (WrV.enc true) l [.pv (.int .i64 0),.sl true 1 () []] hi']
   refine .of (c_l_toWr _ (hl.2 _ (List.getElem_mem hi'))) ?_
   simp -implicitDefEqProofs (maxSteps:=1000000) only [go_sem,fill_len (WrV.enc true) l [.pv (.int .i64 0),.sl true 1 () []] hi,storeAp,setCells,List.getD_eq_getElem?_getD,fill_get (WrV.enc true) l [.pv (.int .i64 0),.sl true 1 () []] hi']
   repeat (first | refine ⟨by decide,?_⟩ | refine ⟨by simpa using hi',?_⟩)
   refine ⟨i + 1,?_,hi',by omega⟩
   rw [← fill_set (WrV.enc true) l [.pv (.int .i64 0),.sl true 1 () []] hi',IntWalk.i64_in _ (by omega)]
   rfl
  ·have:i=l.length:=by simp only [decide_eq_false_iff_not] at h; omega
   subst this
   simp -implicitDefEqProofs (maxSteps:=1000000) only [go_sem,fill_len (WrV.enc true) l [.pv (.int .i64 0),.sl true 1 () []] hi,fill_end]
   refine ⟨by simp,?_⟩
   simp [take_map]
end Go.X

