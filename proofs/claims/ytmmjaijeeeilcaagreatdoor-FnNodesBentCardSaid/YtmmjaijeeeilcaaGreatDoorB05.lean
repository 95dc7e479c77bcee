/- Texts: CVt_2 CVg_3 CVl_3 CVg CUa_2 CK_2 CVo_2. -/
import Derived.Test.YtmmjaijeeeilcaaGreatDoorB04
set_option linter.unusedVariables false
set_option linter.unusedSimpArgs false
namespace Go.X
set_option maxRecDepth 100000
set_option maxHeartbeats 8000000
def x_s_Apply_1:XCode:=.c 36 (.draw [.op 37 (.bslice 7 []),.f 38 6 0,.l 39 38,.m 40 7,.op 41 (.slice 7 (.t 39) none (some (.t 40))),.op 42 (.app 7 96 (.t 37) (.t 41)),.f 43 6 0,.l 44 43,.m 45 7,.B 46 .add 45 1,.op 47 (.slice 7 (.t 44) (some (.t 46)) none),.op 48 (.app 7 96 (.t 42) (.t 47)),.f 49 6 0,.s 100004 1 49 48] [[],[],[1],[],[2,3],[0,4],[],[6],[],[8],[7,9],[5,10,5],[0,1,2,3,4,5,6,7,8,9,10,11],[12,11,11,0,1,2,3,4,5,6,7,8,9,10,11]])
def x_s_Apply_3:XCode:=.seq (.q [.L 69 3 6,.c 70 206 [69],.N 71 70]
 (.c 71 (.q [.L 72 3 2,.c 73 249 [72],.s 100007 3 4 73,.F 5]
 .ret)))
 (.q [.L 74 3 6,.s 100008 3 4 74,.T 5]
 .ret)
def x_s_Apply_2:XCode:=.seq (.q [.f 55 3 10,.l 56 55,.B 57 .neq 56 0]
 (.c 57 (.reg [.f 58 6 2,.l 59 58,.f 60 3 10,.l 61 60,.f 62 3 11,.l 63 62,.f 64 3 12,.l 65 64,.op 66 (.build [.i 0,.i 0,.i 0] [(0,1,(.t 61)),(1,1,(.t 63)),(2,1,(.t 65))]),.c 67 278 [59,66],.f 68 6 2,.s 100006 1 68 67])))
 (.norm [2,4,6] (x_s_Apply_3))
def x_s_Apply:FnX:=⟨75,[.cell 4 (some 3),.tmp 5],
  .q [.v 2 0,.v 3 1,.op 4 (.alloc [.nils 7,.i 0,.nils 3]),.F 5]
 (.q [.L 8 3 2,.c 9 249 [8],.op 6 (.alloc [.nils 7,.i 0,.nils 3]),.s 100001 3 6 9]
 (.seq (.q [.L 10 3 2,.c 11 206 [10],.N 12 11,.m 13 12,.z 13 (.L 14 13 3),.z 13 (.c 15 276 [14]),.z 13 (.N 16 15),.r 17 13 16]
 (.c 17 (.q [.L 18 3 6,.s 100002 3 4 18,.F 5]
 .ret)))
 (.seq (.q [.f 19 3 0,.l 20 19]
 (.block 0 (.q [.B 22 .eql 20 1,.m 21 22]
 (.cond 21 (.reg [.f 23 6 0,.l 24 23,.f 25 3 1,.L 26 7 25,.op 27 (.call 277 [1,0] [(.t 24),(.t 26)]),.f 28 6 0,.s 100003 1 28 27]) (.q [.B 30 .eql 20 2,.m 29 30]
 (.cond 29 (.q [.L 31 3 6,.f 32 3 8,.l 33 32,.c 34 104 [31,33],.m 7 34]
 (.q [.m 35 7,.B 36 .geq 35 0]
 (.norm [2,3,4,6,7,36] (x_s_Apply_1)))) (.q [.B 51 .eql 20 3,.m 50 51]
 (.c 50 (.reg [.f 52 3 9,.l 53 52,.f 54 6 1,.s 100005 1 54 53])))))))))
 (.norm [2,3,4,6] (x_s_Apply_2)))))⟩
theorem r_s_Apply {Te:TE} (c_s_l12Copy:C_s_l12Copy Te) (c_s_TabOk:C_s_TabOk Te) (c_s_RecOk:C_s_RecOk Te) (c_s_l12Row:C_s_l12Row Te) (c_s_RowAt:C_s_RowAt Te) (c_s_l12Put:C_s_l12Put Te):C_s_Apply (RF Te x_s_Apply):=by
 intro t r ht hr
 have hL:=ht.len (by decide)
 have hLr:=(hr.len (by decide))
 have hci:=change_in ht hr
 have h1:=ht.1.1
 have h2:=ht.2
 refine X0 x_s_Apply.eq_1 ?_
 refine C0 (c_s_l12Copy t hL) ?_
 refine C0 (c_s_TabOk t (ht.mono (by decide))) ?_
 cases g2:t.ok
 ·have e:t.apply r=(t,false):=by rw [TabV.apply,g2]; cases r.ok <;> rfl
  exact F1 e
 refine G0 ?_
 refine C0 (c_s_RecOk r (hr.mono (by decide))) ?_
 cases g1:r.ok
 ·have e:t.apply r=(t,false):=by rw [TabV.apply,g1]; rfl
  exact F1 e
 refine G0 ?_
 rcases rowAt_cases t.Rows r.Key with ⟨e1,e2⟩ | ⟨hk,e1,e2⟩
 ·have ed:=delRows_none e1
  have c1:decide ((-1:Int)≥0)=false:=by decide
  rcases kinds r.Kind with k | k | k | k
  all_goals
   try simp -implicitDefEqProofs (maxSteps:=1000000) only [go_sem,k]
   repeat refine ⟨sc,?_⟩
   try exact sf
  all_goals try (refine .of (c_s_RowAt t r.Key (by omega)) ?_; simp -implicitDefEqProofs (maxSteps:=1000000) only [x_s_Apply_1,go_sem,e1,c1,take_all,take_marks])
  all_goals try (refine .of (c_s_l12Row t.Rows r.R (by omega) hLr) ?_; simp -implicitDefEqProofs (maxSteps:=1000000) only [go_sem,take_all,take_marks])
  all_goals cases w:(r.Who != 0)
  all_goals
   have w':decide (r.Who > 0)=(r.Who != 0):=whoPos g1
   rw [w] at w'
   try simp -implicitDefEqProofs (maxSteps:=1000000) only [x_s_Apply_2,go_sem,w,take_all,take_marks]
  all_goals try (refine .of (c_s_l12Put t.Marks ⟨r.Who,r.Seq,r.Code⟩ (by omega)) ?_; simp -implicitDefEqProofs (maxSteps:=1000000) only [go_sem,take_all,take_marks])
  all_goals
   have tk:=c_s_TabOk (t.change r) (hci.mono (by decide))
   simp only [TabV.change,TabV.put,k,w',ed,cond_true,cond_false] at tk
   try simp -implicitDefEqProofs (maxSteps:=1000000) only [x_s_Apply_3,go_sem,take_all,take_marks]
   repeat refine ⟨sc,?_⟩
   try simp -implicitDefEqProofs (maxSteps:=1000000) only [go_sem,take_all,take_marks]
   refine .of tk ?_
   cases g3:(t.change r).ok
  all_goals
   have g4:=g3
   simp only [TabV.change,TabV.put,k,w',ed,cond_true,cond_false] at g4
   try simp -implicitDefEqProofs (maxSteps:=1000000) only [go_sem,g4,take_all,take_marks]
  all_goals try (refine .of (c_s_l12Copy t hL) ?_; have e:t.apply r=(t,false):=(by rw [TabV.apply,g1,g2,g3]; rfl); simp -implicitDefEqProofs (maxSteps:=1000000) only [go_sem,e,take_all,take_marks])
  all_goals try (have e:t.apply r=(t.change r,true):=(by rw [TabV.apply,g1,g2,g3]; rfl); simp -implicitDefEqProofs (maxSteps:=1000000) only [go_sem,e,TabV.change,TabV.put,k,w',ed,cond_true,cond_false,take_all,take_marks])
  all_goals try rfl
 ·have ed:=delRows_ok g2 hk
  generalize rowIx t.Rows r.Key=i at hk e1 e2 ed
  have ew:IntKind.i64.wrap ((i:Int) + 1)=((i + 1:Nat):Int):=IntWalk.i64_in _ (by omega)
  have c1:decide ((i:Int)≥0)=true:=decide_eq_true (by omega)
  have tl:(List.take i (List.map (RowV.enc true) t.Rows)).length=i:=by simp; omega
  have a7:∀ l:List RowV,((List.map (RowV.enc true) l).all fun x=>x.length==7)=true:=fun l=>by simp
  have ta:((List.take i (List.map (RowV.enc true) t.Rows)).all fun x=>x.length==7)=true:=by rw [← List.map_take]; exact a7 _
  have da:((List.drop (i + 1) (List.map (RowV.enc true) t.Rows)).all fun x=>x.length==7)=true:=by rw [← List.map_drop]; exact a7 _
  have dn:(List.drop (i + 1) (List.map (RowV.enc true) t.Rows)).length=t.Rows.length - (i + 1):=by simp
  have tt:List.take (t.Rows.length - (i + 1)) (List.drop (i + 1) (List.map (RowV.enc true) t.Rows))=List.drop (i + 1) (List.map (RowV.enc true) t.Rows):=List.take_of_length_le (by rw [dn]; omega)
  have gd:List.drop (i + 1) (goneRows (List.map (RowV.enc true) t.Rows) 0 i)=List.drop (i + 1) (List.map (RowV.enc true) t.Rows):=by
   simp only [goneRows,List.take_zero,List.nil_append,List.drop_zero,Nat.zero_add]
   rw [List.drop_append,List.drop_of_length_le (by simp; omega),List.nil_append,List.drop_drop]
   congr 1
   simp
   omega
  have gl:(goneRows (List.map (RowV.enc true) t.Rows) 0 i).length=t.Rows.length:=by simp [goneRows]; omega
  have ti:List.take i (List.take i (List.map (RowV.enc true) t.Rows))=List.take i (List.map (RowV.enc true) t.Rows):=List.take_of_length_le (by omega)
  have b1:decide ((i + (t.Rows.length - (i + 1))) * 96≤140737488355328)=true:=decide_eq_true (by omega)
  have b2:decide (i + (t.Rows.length - (i + 1))≤4294967296)=true:=decide_eq_true (by omega)
  have b3:decide (i≤i)=true:=decide_eq_true (Nat.le_refl i)
  have ap:List.take i (List.map (RowV.enc true) t.Rows)++List.drop (i + 1) (List.map (RowV.enc true) t.Rows)=List.map (RowV.enc true) (List.take i t.Rows++List.drop (i + 1) t.Rows):=by rw [List.map_append,List.map_take,List.map_drop]
  have tkA:List.take (i + (t.Rows.length - (i + 1))) (List.map (RowV.enc true) (List.take i t.Rows++List.drop (i + 1) t.Rows))=List.map (RowV.enc true) (List.take i t.Rows++List.drop (i + 1) t.Rows):=List.take_of_length_le (by rw [List.length_map,List.length_append,List.length_take,List.length_drop]; omega)
  have tkB:List.take ((List.take i t.Rows).length + (List.drop (i + 1) t.Rows).length) (List.map (RowV.enc true) (List.take i t.Rows++List.drop (i + 1) t.Rows))=List.map (RowV.enc true) (List.take i t.Rows++List.drop (i + 1) t.Rows):=List.take_of_length_le (by rw [List.length_map,List.length_append]; exact Nat.le_refl _)
  rcases kinds r.Kind with k | k | k | k
  all_goals
   try simp -implicitDefEqProofs (maxSteps:=1000000) only [go_sem,k]
   repeat refine ⟨sc,?_⟩
   try exact sf
  all_goals try (refine .of (c_s_RowAt t r.Key (by omega)) ?_; simp -implicitDefEqProofs (maxSteps:=1000000) only [x_s_Apply_1,go_sem,e1,c1,ew,take_all,take_marks])
  all_goals try (cases f1:flat (List.take i (List.map (RowV.enc true) t.Rows)) <;> cases f2:flat (List.drop (i + 1) (List.map (RowV.enc true) t.Rows)) <;> simp -implicitDefEqProofs (maxSteps:=1000000) only [go_sem,Nat.sub_zero,f1,f2,tl,ta,da,dn,tt,gd,gl,ap,e1,c1,ew,ti,b1,b2,b3,take_all,take_marks])
  all_goals
   repeat refine ⟨sc,?_⟩
  all_goals try (refine .of (c_s_l12Row t.Rows r.R (by omega) hLr) ?_; simp -implicitDefEqProofs (maxSteps:=1000000) only [go_sem,take_all,take_marks])
  all_goals cases w:(r.Who != 0)
  all_goals
   have w':decide (r.Who > 0)=(r.Who != 0):=whoPos g1
   rw [w] at w'
   try simp -implicitDefEqProofs (maxSteps:=1000000) only [x_s_Apply_2,go_sem,w,take_all,take_marks]
  all_goals try (refine .of (c_s_l12Put t.Marks ⟨r.Who,r.Seq,r.Code⟩ (by omega)) ?_; simp -implicitDefEqProofs (maxSteps:=1000000) only [go_sem,take_all,take_marks])
  all_goals
   have tk:=c_s_TabOk (t.change r) (hci.mono (by decide))
   simp only [TabV.change,TabV.put,k,w',ed,cond_true,cond_false] at tk
   try simp -implicitDefEqProofs (maxSteps:=1000000) only [x_s_Apply_3,go_sem,take_all,take_marks]
   repeat refine ⟨sc,?_⟩
   try simp -implicitDefEqProofs (maxSteps:=1000000) only [go_sem,tkA,tkB,take_all,take_marks]
   try refine ⟨⟨decide_eq_true (by rw [List.length_take,List.length_drop]; omega),by first | simp -implicitDefEqProofs (maxSteps:=1000000) only [go_sem] | (rw [← List.map_take]; simp -implicitDefEqProofs (maxSteps:=1000000) only [go_sem])⟩,?_⟩
   try refine ⟨decide_eq_true (by rw [List.length_take,List.length_drop]; omega),?_⟩
   refine .of tk ?_
   cases g3:(t.change r).ok
  all_goals
   have g4:=g3
   simp only [TabV.change,TabV.put,k,w',ed,cond_true,cond_false] at g4
   try simp -implicitDefEqProofs (maxSteps:=1000000) only [go_sem,g4,take_all,take_marks]
  all_goals try (refine .of (c_s_l12Copy t hL) ?_; have e:t.apply r=(t,false):=(by rw [TabV.apply,g1,g2,g3]; rfl); simp -implicitDefEqProofs (maxSteps:=1000000) only [go_sem,e,take_all,take_marks])
  all_goals try (have e:t.apply r=(t.change r,true):=(by rw [TabV.apply,g1,g2,g3]; rfl); simp -implicitDefEqProofs (maxSteps:=1000000) only [go_sem,e,TabV.change,TabV.put,k,w',ed,cond_true,cond_false,take_all,take_marks])
  all_goals try refine ⟨decide_eq_true (by rw [List.length_take,List.length_drop]; omega),?_⟩
  all_goals try rw [tkA]
  all_goals try rw [tkB]
  all_goals try rfl
def x_i_StoreOk:FnX:=⟨40,[.tmp 2],
  .q [.v 1 0,.F 2]
 (.q [.f 3 1 0,.L 4 4 3,.c 5 178 [4],.m 6 5,.y 6 (.f 7 1 0),.y 6 (.f 8 7 0),.y 6 (.l 9 8),.y 6 (.n 10 9),.y 6 (.B 11 .eql 10 62),.a 12 6 11,.m 13 12,.y 13 (.f 14 1 0),.y 13 (.f 15 14 1),.y 13 (.l 16 15),.y 13 (.n 17 16),.y 13 (.B 18 .eql 17 0),.y 13 (.m 19 18),.z 19 (.f 20 1 0),.z 19 (.f 21 20 3),.z 19 (.l 22 21),.y 13 (.r 23 19 22),.a 24 13 23,.m 25 24,.y 25 (.f 26 1 4),.y 25 (.L 27 3 26),.y 25 (.c 28 179 [27]),.a 29 25 28,.m 30 29,.y 30 (.f 31 1 7),.y 30 (.l 32 31),.y 30 (.op 33 (.call 90 [0,0,0] [(.t 32),(.i 1),(.i 60000)])),.a 34 30 33,.m 35 34,.y 35 (.f 36 1 8),.y 35 (.l 37 36),.y 35 (.op 38 (.call 90 [0,0,0] [(.t 37),(.i 0),(.i 30)])),.a 39 35 38,.m 2 39]
 .ret)⟩
theorem r_i_StoreOk {Te:TE} (c_i_DevOk:C_i_DevOk Te) (c_i_TabOk:C_i_TabOk Te) (c_i_within:C_i_within Te):C_i_StoreOk (RF Te x_i_StoreOk):=by
 intro s h
 obtain ⟨hD,hT⟩:=h
 obtain ⟨⟨secs,cache,fuse,down⟩,T,gen,place⟩:=s
 cases down
 ·skip
  refine X0 x_i_StoreOk.eq_1 ?_
  refine C0 (c_i_DevOk ⟨secs,cache,fuse,false⟩ hD) ?_
  cases g1:DevV.ok ⟨secs,cache,fuse,false⟩
  ·have e:(StoreV.mk ⟨secs,cache,fuse,false⟩ T gen place).ok=false:=by simp only [StoreV.ok,g1,Bool.false_and]
   exact F1 e
  cases g2:((secs.length:Int)==62)
  ·have e:(StoreV.mk ⟨secs,cache,fuse,false⟩ T gen place).ok=false:=by simp only [StoreV.ok,g2,Bool.and_false,Bool.false_and]
   exact F2 g2 e
  cases g0:((cache.length:Int)==0)
  ·have e:(StoreV.mk ⟨secs,cache,fuse,false⟩ T gen place).ok=false:=by simp only [StoreV.ok,g0,Bool.or_self,Bool.and_false,Bool.false_and]
   exact F3 g2 g0 e
  refine G2 g2 g0 ?_
  refine C0 (c_i_TabOk T hT) ?_
  cases g4:T.ok
  ·have e:(StoreV.mk ⟨secs,cache,fuse,false⟩ T gen place).ok=false:=by simp only [StoreV.ok,g4,Bool.and_false,Bool.false_and]
   exact F1 e
  refine G0 ?_
  refine C0 (c_i_within _ _ _) ?_
  cases g5:win gen 1 60000
  ·have e:(StoreV.mk ⟨secs,cache,fuse,false⟩ T gen place).ok=false:=by simp only [StoreV.ok,g5,Bool.and_false,Bool.false_and]
   exact F1 e
  refine G0 ?_
  have e:(StoreV.mk ⟨secs,cache,fuse,false⟩ T gen place).ok=win place 0 30:=by simp only [StoreV.ok,g1,g2,g0,g4,g5,Bool.and_true,Bool.true_and,Bool.or_true,Bool.true_or]
  exact D1 (c_i_within _ _ _) e
 ·skip
  refine X0 x_i_StoreOk.eq_1 ?_
  refine C0 (c_i_DevOk ⟨secs,cache,fuse,true⟩ hD) ?_
  cases g1:DevV.ok ⟨secs,cache,fuse,true⟩
  ·have e:(StoreV.mk ⟨secs,cache,fuse,true⟩ T gen place).ok=false:=by simp only [StoreV.ok,g1,Bool.false_and]
   exact F1 e
  cases g2:((secs.length:Int)==62)
  ·have e:(StoreV.mk ⟨secs,cache,fuse,true⟩ T gen place).ok=false:=by simp only [StoreV.ok,g2,Bool.and_false,Bool.false_and]
   exact F2 g2 e
  cases g0:((cache.length:Int)==0)
  ·refine G2 g2 g0 ?_
   refine C0 (c_i_TabOk T hT) ?_
   cases g4:T.ok
   ·have e:(StoreV.mk ⟨secs,cache,fuse,true⟩ T gen place).ok=false:=by simp only [StoreV.ok,g4,Bool.and_false,Bool.false_and]
    exact F1 e
   refine G0 ?_
   refine C0 (c_i_within _ _ _) ?_
   cases g5:win gen 1 60000
   ·have e:(StoreV.mk ⟨secs,cache,fuse,true⟩ T gen place).ok=false:=by simp only [StoreV.ok,g5,Bool.and_false,Bool.false_and]
    exact F1 e
   refine G0 ?_
   have e:(StoreV.mk ⟨secs,cache,fuse,true⟩ T gen place).ok=win place 0 30:=by simp only [StoreV.ok,g1,g2,g0,g4,g5,Bool.and_true,Bool.true_and,Bool.or_true,Bool.true_or]
   exact D1 (c_i_within _ _ _) e
  ·refine G2 g2 g0 ?_
   refine C0 (c_i_TabOk T hT) ?_
   cases g4:T.ok
   ·have e:(StoreV.mk ⟨secs,cache,fuse,true⟩ T gen place).ok=false:=by simp only [StoreV.ok,g4,Bool.and_false,Bool.false_and]
    exact F1 e
   refine G0 ?_
   refine C0 (c_i_within _ _ _) ?_
   cases g5:win gen 1 60000
   ·have e:(StoreV.mk ⟨secs,cache,fuse,true⟩ T gen place).ok=false:=by simp only [StoreV.ok,g5,Bool.and_false,Bool.false_and]
    exact F1 e
   refine G0 ?_
   have e:(StoreV.mk ⟨secs,cache,fuse,true⟩ T gen place).ok=win place 0 30:=by simp only [StoreV.ok,g1,g2,g0,g4,g5,Bool.and_true,Bool.true_and,Bool.or_true,Bool.true_or]
   exact D1 (c_i_within _ _ _) e
def x_s_StoreOk:FnX:=⟨40,[.tmp 2],
  .q [.v 1 0,.F 2]
 (.q [.f 3 1 0,.L 4 4 3,.c 5 205 [4],.m 6 5,.y 6 (.f 7 1 0),.y 6 (.f 8 7 0),.y 6 (.l 9 8),.y 6 (.n 10 9),.y 6 (.B 11 .eql 10 62),.a 12 6 11,.m 13 12,.y 13 (.f 14 1 0),.y 13 (.f 15 14 3),.y 13 (.l 16 15),.y 13 (.m 17 16),.z 17 (.f 18 1 0),.z 17 (.f 19 18 1),.z 17 (.l 20 19),.z 17 (.n 21 20),.z 17 (.B 22 .eql 21 0),.y 13 (.r 23 17 22),.a 24 13 23,.m 25 24,.y 25 (.f 26 1 4),.y 25 (.L 27 3 26),.y 25 (.c 28 206 [27]),.a 29 25 28,.m 30 29,.y 30 (.f 31 1 7),.y 30 (.l 32 31),.y 30 (.op 33 (.call 120 [0,0,0] [(.t 32),(.i 1),(.i 60000)])),.a 34 30 33,.m 35 34,.y 35 (.f 36 1 8),.y 35 (.l 37 36),.y 35 (.op 38 (.call 120 [0,0,0] [(.t 37),(.i 0),(.i 30)])),.a 39 35 38,.m 2 39]
 .ret)⟩
theorem r_s_StoreOk {Te:TE} (c_s_DevOk:C_s_DevOk Te) (c_s_TabOk:C_s_TabOk Te) (c_s_l1In:C_s_l1In Te):C_s_StoreOk (RF Te x_s_StoreOk):=by
 intro s h
 obtain ⟨hD,hT⟩:=h
 obtain ⟨⟨secs,cache,fuse,down⟩,T,gen,place⟩:=s
 cases down
 ·skip
  refine X0 x_s_StoreOk.eq_1 ?_
  refine C0 (c_s_DevOk ⟨secs,cache,fuse,false⟩ hD) ?_
  cases g1:DevV.ok ⟨secs,cache,fuse,false⟩
  ·have e:(StoreV.mk ⟨secs,cache,fuse,false⟩ T gen place).ok=false:=by simp only [StoreV.ok,g1,Bool.false_and]
   exact F1 e
  cases g2:((secs.length:Int)==62)
  ·have e:(StoreV.mk ⟨secs,cache,fuse,false⟩ T gen place).ok=false:=by simp only [StoreV.ok,g2,Bool.and_false,Bool.false_and]
   exact F2 g2 e
  cases g0:((cache.length:Int)==0)
  ·have e:(StoreV.mk ⟨secs,cache,fuse,false⟩ T gen place).ok=false:=by simp only [StoreV.ok,g0,Bool.or_self,Bool.and_false,Bool.false_and]
   exact F3 g2 g0 e
  refine G2 g2 g0 ?_
  refine C0 (c_s_TabOk T hT) ?_
  cases g4:T.ok
  ·have e:(StoreV.mk ⟨secs,cache,fuse,false⟩ T gen place).ok=false:=by simp only [StoreV.ok,g4,Bool.and_false,Bool.false_and]
   exact F1 e
  refine G0 ?_
  refine C0 (c_s_l1In _ _ _) ?_
  cases g5:win gen 1 60000
  ·have e:(StoreV.mk ⟨secs,cache,fuse,false⟩ T gen place).ok=false:=by simp only [StoreV.ok,g5,Bool.and_false,Bool.false_and]
   exact F1 e
  refine G0 ?_
  have e:(StoreV.mk ⟨secs,cache,fuse,false⟩ T gen place).ok=win place 0 30:=by simp only [StoreV.ok,g1,g2,g0,g4,g5,Bool.and_true,Bool.true_and,Bool.or_true,Bool.true_or]
  exact D1 (c_s_l1In _ _ _) e
 ·skip
  refine X0 x_s_StoreOk.eq_1 ?_
  refine C0 (c_s_DevOk ⟨secs,cache,fuse,true⟩ hD) ?_
  cases g1:DevV.ok ⟨secs,cache,fuse,true⟩
  ·have e:(StoreV.mk ⟨secs,cache,fuse,true⟩ T gen place).ok=false:=by simp only [StoreV.ok,g1,Bool.false_and]
   exact F1 e
  cases g2:((secs.length:Int)==62)
  ·have e:(StoreV.mk ⟨secs,cache,fuse,true⟩ T gen place).ok=false:=by simp only [StoreV.ok,g2,Bool.and_false,Bool.false_and]
   exact F2 g2 e
  refine G1 g2 ?_
  refine C0 (c_s_TabOk T hT) ?_
  cases g4:T.ok
  ·have e:(StoreV.mk ⟨secs,cache,fuse,true⟩ T gen place).ok=false:=by simp only [StoreV.ok,g4,Bool.and_false,Bool.false_and]
   exact F1 e
  refine G0 ?_
  refine C0 (c_s_l1In _ _ _) ?_
  cases g5:win gen 1 60000
  ·have e:(StoreV.mk ⟨secs,cache,fuse,true⟩ T gen place).ok=false:=by simp only [StoreV.ok,g5,Bool.and_false,Bool.false_and]
   exact F1 e
  refine G0 ?_
  have e:(StoreV.mk ⟨secs,cache,fuse,true⟩ T gen place).ok=win place 0 30:=by simp only [StoreV.ok,g1,g2,g4,g5,Bool.and_true,Bool.true_and,Bool.or_true,Bool.true_or]
  exact D1 (c_s_l1In _ _ _) e
def x_i_NodeOk:FnX:=⟨11,[.tmp 2],
  .q [.v 1 0,.F 2]
 (.q [.f 3 1 0,.L 4 9 3,.c 5 89 [4],.m 6 5,.y 6 (.f 7 1 9),.y 6 (.l 8 7),.y 6 (.op 9 (.call 90 [0,0,0] [(.t 8),(.i 1),(.i 5)])),.a 10 6 9,.m 2 10]
 .ret)⟩
theorem r_i_NodeOk {Te:TE} (c_i_StoreOk:C_i_StoreOk Te) (c_i_within:C_i_within Te):C_i_NodeOk (RF Te x_i_NodeOk):=by
 intro n h
 refine run0 ?_
 simp -implicitDefEqProofs (maxSteps:=1000000) only [x_i_NodeOk,go_sem,NodeV.ok]
 repeat refine ⟨sc,?_⟩
 try exact sf
 refine C0 (c_i_StoreOk n.S h) ?_
 cases g1:n.S.ok
 ·exact F0
 ·refine G0 ?_
  exact D0 (c_i_within _ _ _)
def x_i_WriteSec:FnX:=⟨56,[.cell 6 (some 4)],
  .q [.v 3 0,.op 6 (.alloc [.nils 1,.nils 2,.i 0,.F])]
 (.q [.L 9 4 3,.c 10 245 [9],.op 7 (.alloc [.nils 1,.nils 2,.i 0,.F]),.s 100001 4 7 10]
 (.seq (.q [.L 11 4 3,.c 12 178 [11],.N 13 12,.m 14 13,.z 14 (.f 15 3 3),.z 14 (.l 16 15),.r 17 14 16,.m 18 17,.z 18 (.m 19 1),.z 18 (.f 20 3 0),.z 18 (.l 21 20),.z 18 (.n 22 21),.z 18 (.B 23 .sub 22 1),.z 18 (.op 24 (.call 90 [0,0,0] [(.t 19),(.i 0),(.t 23)])),.z 18 (.N 25 24),.r 26 18 25,.m 27 26,.z 27 (.m 28 2),.z 27 (.n 29 28),.z 27 (.B 30 .gtr 29 120),.r 31 27 30,.m 32 31,.z 32 (.f 33 3 1),.z 32 (.l 34 33),.z 32 (.n 35 34),.z 32 (.B 36 .eql 35 40),.r 37 32 36]
 (.c 37 (.q [.L 38 4 7,.s 100002 4 6 38]
 .ret)))
 (.q [.L 40 4 7,.op 41 (.call 311 [1] [(.t 40)]),.m 39 41,.e 42 39 0,.e 43 39 1,.s 100003 4 7 42,.m 8 43]
 (.seq (.q [.m 44 8]
 (.c 44 (.draw [.f 45 7 1,.l 46 45,.m 47 1,.m 48 2,.op 49 (.bslice 1 [(.t 48)]),.c 50 100 [49],.op 51 (.build [.i 0,.nils 1] [(0,1,(.t 47)),(1,1,(.t 50))]),.op 52 (.bslice 2 [(.t 51)]),.op 53 (.app 2 32 (.t 46) (.t 52)),.f 54 7 1,.s 100004 1 54 53] [[],[0],[],[],[3],[4],[2,5],[6],[1,7,5],[0,1,2,3,4,5,6,7,8],[9,8,8,0,1,2,3,4,5,6,7,8]])))
 (.q [.L 55 4 7,.s 100005 4 6 55]
 .ret)))))⟩
theorem r_i_WriteSec {Te:TE} (c_i_copyDev:C_i_copyDev Te) (c_i_DevOk:C_i_DevOk Te) (c_i_within:C_i_within Te) (c_i_burn:C_i_burn Te) (c_i_joined:C_i_joined Te):C_i_WriteSec (RF Te x_i_WriteSec):=by
 intro d n b hk hb
 have hin:=DevV.ok_in hk
 have hL:=hin.len (by decide)
 have hl:=hin.1.1
 have h40:=DevV.ok_cache hk
 have ws:IntKind.i64.wrap ((d.Secs.length:Int) - 1)=(d.Secs.length:Int) - 1:=IntWalk.i64_in _ (by omega)
 refine X0 x_i_WriteSec.eq_1 ?_
 refine C0 (c_i_copyDev d hL) ?_
 refine C1 (c_i_DevOk d (hin.mono (by decide))) hk ?_
 cases g1:d.Down
 rotate_left
 ·have e:=full_down (n:=n) (b:=b) g1
  try simp -implicitDefEqProofs (maxSteps:=1000000) only [go_sem,g1,e,take_all,DevV.enc]
  repeat refine ⟨sc,?_⟩
  try exact sf
  try rfl
 refine G2 g1 ws ?_
 refine C0 (c_i_within _ _ _) ?_
 cases g2:win n 0 ((d.Secs.length:Int) - 1)
 ·have e:=full_win (b:=b) g2
  try simp -implicitDefEqProofs (maxSteps:=1000000) only [go_sem,e,take_all,g1,DevV.enc]
  repeat refine ⟨sc,?_⟩
  try exact sf
  try rfl
 cases g3:decide ((b.length:Int) > 120)
 rotate_left
 ·have e:=full_len (d:=d) (n:=n) g3
  try simp -implicitDefEqProofs (maxSteps:=1000000) only [go_sem,g3,e,take_all,g1,DevV.enc]
  repeat refine ⟨sc,?_⟩
  try exact sf
  try rfl
 cases g4:decide ((d.Cache.length:Int)≥40)
 rotate_left
 ·have g5:((d.Cache.length:Int)==40)=true:=by simp only [decide_eq_true_eq] at g4; simp only [beq_iff_eq]; omega
  have e:=full_cache (n:=n) (b:=b) g4
  try simp -implicitDefEqProofs (maxSteps:=1000000) only [go_sem,g3,g5,e,take_all,g1,DevV.enc]
  repeat refine ⟨sc,?_⟩
  try exact sf
  try rfl
 have g5:((d.Cache.length:Int)==40)=false:=by simp only [decide_eq_false_iff_not] at g4; simp only [beq_eq_false_iff_ne]; omega
 have e:=not_full g1 g2 g3 g4
 refine G2 g3 g5 ?_
 have tb:=c_i_burn d
 simp only [DevV.enc,g1] at tb
 have bc:=burn_cache d
 have g40:d.burn.Cache.length < 40:=by rw [bc]; simp only [decide_eq_false_iff_not] at g4; omega
 cases g6:(d.Fuse==0)
 ·have g7:¬ d.Fuse=0:=by simpa using g6
  rw [if_neg g7] at e
  have ea:=app1W d.burn.Cache ⟨n,b⟩
  have et:List.take (d.burn.Cache.length + 1) (List.map (WrV.enc true) (d.burn.Cache++[⟨n,b⟩]))=List.map (WrV.enc true) (d.burn.Cache++[⟨n,b⟩]):=List.take_of_length_le (by simp)
  refine C1 (tb) g6 ?_
  refine .of (c_i_joined [b] (by rw [flat1]; omega) (by show 1≤2 ^ 31; decide)) ?_
  try simp -implicitDefEqProofs (maxSteps:=1000000) only [go_sem,flat1,take_all,ea,et,e,g1,DevV.put,DevV.enc]
  repeat refine ⟨sc,?_⟩
  try exact sf
  try rfl
 ·have g7:d.Fuse=0:=by simpa using g6
  rw [if_pos g7] at e
  refine .of (tb) ?_
  try simp -implicitDefEqProofs (maxSteps:=1000000) only [go_sem,g6,take_all,e,g1,DevV.enc]
  repeat refine ⟨sc,?_⟩
  try exact sf
  try rfl
def x_s_l10Write:FnX:=⟨53,[],
  .seq (.q [.m 6 0,.op 7 (.nilc (.t 6)),.f 8 7 3,.l 9 8,.m 10 9,.z 10 (.m 11 1),.z 10 (.m 12 0),.z 10 (.op 13 (.nilc (.t 12))),.z 10 (.f 14 13 0),.z 10 (.l 15 14),.z 10 (.n 16 15),.z 10 (.B 17 .sub 16 1),.z 10 (.op 18 (.call 120 [0,0,0] [(.t 11),(.i 0),(.t 17)])),.z 10 (.N 19 18),.r 20 10 19,.m 21 20,.z 21 (.m 22 2),.z 21 (.n 23 22),.z 21 (.B 24 .gtr 23 120),.r 25 21 24,.m 26 25,.z 26 (.m 27 0),.z 26 (.op 28 (.nilc (.t 27))),.z 26 (.f 29 28 1),.z 26 (.l 30 29),.z 26 (.n 31 30),.z 26 (.B 32 .geq 31 40),.r 33 26 32,.m 34 33,.z 34 (.m 35 0),.z 34 (.op 36 (.call 281 [6] [(.t 35)])),.z 34 (.N 37 36),.r 38 34 37]
 (.c 38 .ret))
 (.draw [.m 39 0,.m 40 0,.op 41 (.nilc (.t 40)),.f 42 41 1,.l 43 42,.m 44 1,.op 45 (.bslice 1 []),.m 46 2,.op 47 (.app 1 1 (.t 45) (.t 46)),.op 48 (.build [.i 0,.nils 1] [(0,1,(.t 44)),(1,1,(.t 47))]),.op 49 (.bslice 2 [(.t 48)]),.op 50 (.app 2 32 (.t 43) (.t 49)),.op 51 (.nilc (.t 39)),.f 52 51 1,.s 100001 1 52 50] [[],[],[1],[2],[3],[],[],[],[6,7],[5,8],[9],[4,10,8],[0,0,1,2,3,4,5,6,7,8,9,10,11],[12,0,1,2,3,4,5,6,7,8,9,10,11],[13,11,11,0,1,2,3,4,5,6,7,8,9,10,11]])⟩
theorem r_s_l10Write {Te:TE} (c_s_l1In:C_s_l1In Te) (c_s_l10Op:C_s_l10Op Te):C_s_l10Write (RF Te x_s_l10Write):=by
 intro d n b hd hb
 obtain ⟨hl,hc⟩:=hd
 have ws:IntKind.i64.wrap ((d.Secs.length:Int) - 1)=(d.Secs.length:Int) - 1:=IntWalk.i64_in _ (by omega)
 refine X0 x_s_l10Write.eq_1 ?_
 cases g1:d.Down
 rotate_left
 ·have e:=full_down (n:=n) (b:=b) g1
  try simp -implicitDefEqProofs (maxSteps:=1000000) only [go_sem,g1,e,take_all,DevV.enc]
  repeat refine ⟨sc,?_⟩
  try exact sf
  try rfl
 refine G2 g1 ws ?_
 refine C0 (c_s_l1In _ _ _) ?_
 cases g2:win n 0 ((d.Secs.length:Int) - 1)
 ·have e:=full_win (b:=b) g2
  try simp -implicitDefEqProofs (maxSteps:=1000000) only [go_sem,e,take_all,g1,DevV.enc]
  repeat refine ⟨sc,?_⟩
  try exact sf
  try rfl
 cases g3:decide ((b.length:Int) > 120)
 rotate_left
 ·have e:=full_len (d:=d) (n:=n) g3
  try simp -implicitDefEqProofs (maxSteps:=1000000) only [go_sem,g3,e,take_all,g1,DevV.enc]
  repeat refine ⟨sc,?_⟩
  try exact sf
  try rfl
 cases g4:decide ((d.Cache.length:Int)≥40)
 rotate_left
 ·have e:=full_cache (n:=n) (b:=b) g4
  try simp -implicitDefEqProofs (maxSteps:=1000000) only [go_sem,g3,g4,e,take_all,g1,DevV.enc]
  repeat refine ⟨sc,?_⟩
  try exact sf
  try rfl
 have e:=not_full g1 g2 g3 g4
 refine G2 g3 g4 ?_
 have tb:=c_s_l10Op d
 simp only [DevV.enc,g1] at tb
 have bc:=burn_cache d
 have g40:d.burn.Cache.length < 40:=by rw [bc]; simp only [decide_eq_false_iff_not] at g4; omega
 cases g6:(d.Fuse==0)
 ·have g7:¬ d.Fuse=0:=by simpa using g6
  rw [if_neg g7] at e
  have ea:=app1W d.burn.Cache ⟨n,b⟩
  have et:List.take (d.burn.Cache.length + 1) (List.map (WrV.enc true) (d.burn.Cache++[⟨n,b⟩]))=List.map (WrV.enc true) (d.burn.Cache++[⟨n,b⟩]):=List.take_of_length_le (by simp)
  refine .of (tb) ?_
  try simp -implicitDefEqProofs (maxSteps:=1000000) only [go_sem,g6,take_all,take_rows,ea,et,e,g1,DevV.put,DevV.enc]
  repeat refine ⟨sc,?_⟩
  try exact sf
  try rfl
 ·have g7:d.Fuse=0:=by simpa using g6
  rw [if_pos g7] at e
  refine .of (tb) ?_
  try simp -implicitDefEqProofs (maxSteps:=1000000) only [go_sem,g6,take_all,e,g1,DevV.enc]
  repeat refine ⟨sc,?_⟩
  try exact sf
  try rfl
def x_i_DevOk:FnX:=⟨57,[.tmp 2],
  .q [.v 1 0,.F 2]
 (.seq (.q [.f 7 1 0,.l 8 7,.n 9 8,.op 10 (.call 90 [0,0,0] [(.t 9),(.i 1),(.i 64)]),.N 11 10,.m 12 11,.z 12 (.f 13 1 1),.z 12 (.l 14 13),.z 12 (.n 15 14),.z 12 (.B 16 .gtr 15 40),.r 17 12 16,.m 18 17,.z 18 (.f 19 1 2),.z 18 (.l 20 19),.z 18 (.op 21 (.call 90 [0,0,0] [(.t 20),(.i (-1)),(.i 1000)])),.z 18 (.N 22 21),.r 23 18 22]
 (.c 23 (.q [.F 2]
 .ret)))
 (.seq (.q [.f 24 1 0,.l 25 24,.n 26 25,.i 27 0]
 (.block 0 (.loop [1,25,26,27] (.q [.b 28 .lss 27 26]
 (.seq (.cond 28 .skip (.exit 0))
 (.seq (.block 1 (.q [.x 29 1 25 27,.l 30 29,.m 4 30]
 (.q [.m 31 4,.n 32 31,.B 33 .gtr 32 120]
 (.c 33 (.q [.F 2]
 .ret)))))
 (.reg [.B 34 .add 27 1,.m 27 34])))))))
 (.norm [1] (.seq (.q [.f 35 1 1,.l 36 35,.n 37 36,.i 38 0]
 (.block 2 (.loop [1,36,37,38] (.q [.b 39 .lss 38 37]
 (.seq (.cond 39 .skip (.exit 2))
 (.seq (.block 3 (.q [.x 40 2 36 38,.L 41 2 40,.op 6 (.alloc [.i 0,.nils 1]),.s 100001 2 6 41]
 (.q [.f 42 6 0,.l 43 42,.f 44 1 0,.l 45 44,.n 46 45,.B 47 .sub 46 1,.op 48 (.call 90 [0,0,0] [(.t 43),(.i 0),(.t 47)]),.N 49 48,.m 50 49,.z 50 (.f 51 6 1),.z 50 (.l 52 51),.z 50 (.n 53 52),.z 50 (.B 54 .gtr 53 120),.r 55 50 54]
 (.c 55 (.q [.F 2]
 .ret)))))
 (.reg [.B 56 .add 38 1,.m 38 56])))))))
 (.norm [] (.q [.T 2]
 .ret))))))⟩
theorem r_i_DevOk {Te:TE} (c_i_within:C_i_within Te):C_i_DevOk (RF Te x_i_DevOk):=by
 intro d h
 obtain ⟨⟨hl,hS⟩,hl2,hC⟩:=h
 have ws:IntKind.i64.wrap ((d.Secs.length:Int) - 1)=(d.Secs.length:Int) - 1:=IntWalk.i64_in _ (by omega)
 refine X0 x_i_DevOk.eq_1 ?_
 refine C0 (c_i_within _ _ _) ?_
 cases g1:win (d.Secs.length:Int) 1 64
 ·have e:d.ok=false:=by simp only [DevV.ok,g1,Bool.false_and]
  exact F1 e
 cases g2:decide ((d.Cache.length:Int) > 40)
 ·have g2':decide ((d.Cache.length:Int)≤40)=true:=by rw [gt_le] at g2; simpa using g2
  refine G1 g2 ?_
  refine C0 (c_i_within _ _ _) ?_
  cases g3:win d.Fuse (-1) 1000
  ·have e:d.ok=false:=by simp only [DevV.ok,g3,Bool.and_false,Bool.false_and]
   exact F1 e
  simp -implicitDefEqProofs (maxSteps:=1000000) only [go_sem,true_implies,false_implies,true_and]
  refine loop_of (σ:=Nat) (fun i=>⟨[(1,.bp 1 0),(25,.one (.ro 1 (d.Secs.map (fun y=>[slT false 1 uR y])))),(26,.one (.pv (.int .i64 d.Secs.length))),(27,.one (.pv (.int .i64 i)))],[(1,[.ro 1 (d.Secs.map (fun y=>[slT false 1 uR y])),.ro 2 (d.Cache.map (WrV.enc false)),.pv (.int .i64 d.Fuse),.pv (.bool d.Down)])],[(0,d.enc false)]⟩) (fun i=>i≤d.Secs.length∧(d.Secs.take i).all (secGood)=true) (fun i=>d.Secs.length - i) 0 ?_ ⟨Nat.zero_le _,rfl⟩ ?_
  ·simp -implicitDefEqProofs (maxSteps:=1000000) only [go_sem]
   try rfl
  ·rintro i ⟨hi,hp⟩
   cases q:decide ((i:Int) < (d.Secs.length:Int))
   ·have eS:=all_end (p:=secGood) (show d.Secs.length≤i by simp only [decide_eq_false_iff_not] at q; omega) hp
    refine G1 q ?_
    refine loop_of (σ:=Nat) (fun i=>⟨[(1,.bp 1 0),(36,.one (.ro 2 (d.Cache.map (WrV.enc false)))),(37,.one (.pv (.int .i64 d.Cache.length))),(38,.one (.pv (.int .i64 i)))],[(1,[.ro 1 (d.Secs.map (fun y=>[slT false 1 uR y])),.ro 2 (d.Cache.map (WrV.enc false)),.pv (.int .i64 d.Fuse),.pv (.bool d.Down)])],[(0,d.enc false)]⟩) (fun i=>i≤d.Cache.length∧(d.Cache.take i).all (wrGood d.Secs.length)=true) (fun i=>d.Cache.length - i) 0 ?_ ⟨Nat.zero_le _,rfl⟩ ?_
    ·simp -implicitDefEqProofs (maxSteps:=1000000) only [go_sem]
     try rfl
    ·rintro i ⟨hi,hp⟩
     cases q:decide ((i:Int) < (d.Cache.length:Int))
     ·have eC:=all_end (p:=wrGood d.Secs.length) (show d.Cache.length≤i by simp only [decide_eq_false_iff_not] at q; omega) hp
      refine G1 q ?_
      have e:d.ok=true:=by simp only [DevV.ok,g1,g2',g3,eS,eC,Bool.and_true]
      exact F1 e
     ·have k1:i < d.Cache.length:=by simp only [decide_eq_true_eq] at q; omega
      refine G3 q (List.getElem?_eq_getElem k1) ws ?_
      refine C0 (c_i_within _ _ _) ?_
      cases g:win d.Cache[i].N 0 ((d.Secs.length:Int) - 1)
      ·have gg:wrGood d.Secs.length d.Cache[i]=false:=by simp only [wrGood,g,Bool.false_and]
       have e:d.ok=false:=by simp only [DevV.ok,all_not (p:=wrGood d.Secs.length) k1 gg,Bool.and_false]
       exact F1 e
      ·cases g2:decide ((d.Cache[i].B.length:Int) > 120)
       ·refine G2 g2 (List.getElem?_eq_getElem k1) ?_
        exact ⟨i + 1,by rw [IntWalk.i64_in _ (by omega)]; rfl,⟨k1,all_step (p:=wrGood d.Secs.length) k1 hp (by simp only [wrGood,g,g2,Bool.not_false,Bool.and_true])⟩,by omega⟩
       ·have gg:wrGood d.Secs.length d.Cache[i]=false:=by simp only [wrGood,g2,Bool.not_true,Bool.and_false]
        have e:d.ok=false:=by simp only [DevV.ok,all_not (p:=wrGood d.Secs.length) k1 gg,Bool.and_false]
        exact F3 g2 (List.getElem?_eq_getElem k1) e
   ·have k1:i < d.Secs.length:=by simp only [decide_eq_true_eq] at q; omega
    cases g:decide ((d.Secs[i].length:Int) > 120)
    ·refine G3 q (List.getElem?_eq_getElem k1) g ?_
     exact ⟨i + 1,by rw [IntWalk.i64_in _ (by omega)]; rfl,⟨k1,all_step (p:=secGood) k1 hp (by simp only [secGood,g,Bool.not_false])⟩,by omega⟩
    ·have gg:secGood d.Secs[i]=false:=by simp only [secGood,g,Bool.not_true]
     have e:d.ok=false:=by simp only [DevV.ok,all_not (p:=secGood) k1 gg,Bool.and_false,Bool.false_and]
     exact F4 q (List.getElem?_eq_getElem k1) g e
 ·have g2':decide ((d.Cache.length:Int)≤40)=false:=by rw [gt_le] at g2; simpa using g2
  have e:d.ok=false:=by simp only [DevV.ok,g2',Bool.and_false,Bool.false_and]
  exact F2 g2 e
def x_s_l5Text:FnX:=⟨25,[.tmp 6],
  .q [.op 6 (.mv (.k (.one (.pv (.string ⟨#[]⟩)))))]
 (.q [.op 9 (.bslice 1 []),.m 7 9]
 (.seq (.q [.m 10 0,.m 11 2,.B 12 .add 11 1,.op 13 (.call 96 [5,0] [(.t 10),(.t 12)]),.m 8 13]
 (.block 0 (.loop [0,1,7,8] (.seq (.q [.m 14 8,.B 15 .gtr 14 0]
 (.cond 15 .skip (.exit 0)))
 (.seq (.block 1 (.reg [.m 18 7,.m 19 0,.m 20 1,.op 21 (.call 198 [5,0] [(.t 19),(.t 20)]),.c 22 189 [18,21],.m 7 22]))
 (.reg [.m 16 8,.B 17 .sub 16 1,.m 8 17]))))))
 (.norm [7] (.q [.m 23 7,.op 24 (.conv .b2s (.t 23)),.m 6 24]
 .ret))))⟩
theorem r_s_l5Text {Te:TE} (c_s_l1Below:C_s_l1Below Te) (c_s_l5Sign:C_s_l5Sign Te) (c_s_PutSign:C_s_PutSign Te):∀ (c:CurV) (cs most:Int) (hc:c.ok) (hm:0≤most∧most≤100),∃ r0,(∃ (r:ByteArray) (d:CurV),(r.size≤4 * most.toNat∧d.ok)∧r0=(⟨[.one (sT r)],[d.enc,[iT cs],[iT most]]⟩:Res))∧RunFn Te x_s_l5Text [.ptr c.enc,.one (iT cs),.one (iT most)] r0:=by
 intro c cs most hc hm
 refine some_of (Nat.le_of_ble_eq_true rfl) (by rfl) ?_
 have w1:IntKind.i64.wrap (most + 1)=most + 1:=IntWalk.i64_in _ (by omega)
 simp -implicitDefEqProofs (maxSteps:=1000000) only [x_s_l5Text,go_sem,w1]
 repeat refine ⟨sc,?_⟩
 try exact sf
 obtain ⟨k,d0,⟨hk,hd0⟩,ht⟩:=c_s_l1Below c (most + 1) hc
 have hk1:=hk.2.1 (by omega)
 obtain ⟨K,rfl⟩:∃ K:Nat,k=K:=⟨k.toNat,by omega⟩
 refine C0 (ht) ?_
 refine loop_of (σ:=Nat×List UInt8×CurV) (fun x=>⟨[(0,.bp 0 0),(1,.one (.pv (.int .i64 cs))),(7,.one (.rf 28 0 [] 1 0 x.2.1.length)),(8,.one (.pv (.int .i64 x.1)))],[(0,[.ro 1 (x.2.2.b.map uR),.pv (.int .i64 x.2.2.i),.pv (.int .i64 x.2.2.h)])],[(0,c.enc),(1,[iT cs]),(2,[iT most]),(28,[slT true 1 uR x.2.1])]⟩) (fun x=>x.1≤K∧x.2.1.length≤4 * (K - x.1)∧x.2.2.ok) (fun x=>x.1) (K,[],d0) ?_ ⟨Nat.le_refl _,Nat.zero_le _,hd0⟩ ?_
 ·simp -implicitDefEqProofs (maxSteps:=1000000) only [go_sem]
  rfl
 ·rintro ⟨i,b,d⟩ ⟨hi,hb,hd⟩
  simp only at hi hb hd
  cases q:decide ((i:Int) > 0)
  ·refine G1 q ?_
   have hi0:i=0:=by simp only [decide_eq_false_iff_not] at q; omega
   refine ⟨areBytes_uL b,⟨(bytesOf (b.map uR)).toArray⟩,d,⟨?_,hd⟩,rfl⟩
   show (bytesOf (b.map uR)).length≤_
   rw [bytesOf_uL]
   omega
  ·simp only [decide_eq_true_eq] at q
   have w2:IntKind.i64.wrap ((i:Int) - 1)=((i - 1:Nat):Int):=by rw [IntWalk.i64_in _ (by omega)]; omega
   obtain ⟨r,d1,hd1,ht⟩:=c_s_l5Sign d cs hd
   have q':decide ((i:Int) > 0)=true:=decide_eq_true q
   refine G1 q' ?_
   refine C0 (ht) ?_
   refine C1 (c_s_PutSign b r (by omega)) w2 ?_
   have hl:=putSign_len b r
   exact ⟨(i - 1,putSign b r,d1),rfl,⟨by simp only; omega,by simp only; omega,hd1⟩,by simp only; omega⟩
def x_s_Sum:FnX:=⟨32,[.tmp 2],
  .q [.i 2 0]
 (.q [.i 3 65535]
 (.seq (.q [.i 4 0]
 (.block 0 (.loop [0,3,4] (.seq (.q [.m 6 4,.m 7 0,.n 8 7,.b 9 .lss 6 8]
 (.cond 9 .skip (.exit 0)))
 (.seq (.block 1 (.q [.m 12 3,.m 13 0,.m 14 4,.x 15 1 13 14,.l 16 15,.op 17 (.conv (.int .i64) (.t 16)),.op 18 (.bin .shl (.t 17) (.k (.one (.pv (.int .u64 8))))),.b 19 .xor 12 18,.m 3 19]
 (.q [.i 5 0]
 (.block 2 (.loop [0,3,4,5] (.seq (.q [.m 20 5,.B 21 .lss 20 8]
 (.cond 21 .skip (.exit 2)))
 (.seq (.block 3 (.q [.m 24 3,.op 25 (.bin .shl (.t 24) (.k (.one (.pv (.int .u64 1))))),.m 3 25]
 (.q [.m 26 3,.B 27 .gtr 26 65535]
 (.c 27 (.reg [.m 28 3,.B 29 .xor 28 69665,.m 3 29])))))
 (.reg [.m 22 5,.B 23 .add 22 1,.m 5 23]))))))))
 (.norm [0,3,4] (.reg [.m 10 4,.B 11 .add 10 1,.m 4 11])))))))
 (.norm [3] (.q [.m 30 3,.B 31 .and 30 65535,.m 2 31]
 .ret))))⟩
theorem r_s_Sum {Te:TE}:C_s_Sum (RF Te x_s_Sum):=by
 intro l h
 refine run0 ?_
 simp -implicitDefEqProofs (maxSteps:=1000000) only [x_s_Sum,go_sem]
 refine loop_of (σ:=Nat×Nat) (fun x=>⟨[(0,.one (.ro 1 (l.map uR))),(3,.one (.pv (.int .i64 x.2))),(4,.one (.pv (.int .i64 x.1)))],[],[(0,[slT false 1 uR l])]⟩) (fun x=>x.1≤l.length∧x.2 < 65536∧x.2=(l.take x.1).foldl sumByte 65535) (fun x=>l.length - x.1) (0,65535) ?_ ⟨Nat.zero_le _,by decide,rfl⟩ ?_
 ·simp -implicitDefEqProofs (maxSteps:=1000000) only [go_sem]; rfl
 ·rintro ⟨i,s⟩ ⟨hi,hs,he⟩
  simp only at hi hs he
  simp -implicitDefEqProofs (maxSteps:=1000000) only [go_sem]
  refine ⟨fun h=>?_,fun h=>?_⟩
  ·have hi':i < l.length:=by simp only [decide_eq_true_eq] at h; omega
   have hb:=l[i].toNat_lt
   have e1:IntKind.i64.wrap (l[i].toNat:Int)=(l[i].toNat:Int):=IntWalk.i64_in _ (by omega)
   have e2:IntKind.i64.wrap ((l[i].toNat:Int) * 2 ^ 8)=((256 * l[i].toNat:Nat):Int):=by rw [IntWalk.i64_in _ (by omega)]; omega
   simp -implicitDefEqProofs (maxSteps:=1000000) only [go_sem,List.getElem?_eq_getElem hi',min8,e1,e2,xor_nat s (256 * l[i].toNat) (by omega) (by omega)]
   have hx:=sumX_lt l[i] hs
   have e9:sumByte s l[i]=sumBits 8 (s ^^^ (256 * l[i].toNat)):=rfl
   generalize s ^^^ (256 * l[i].toNat)=S at *
   refine loop_of (σ:=Nat×Nat) (fun x=>⟨[(0,.one (.ro 1 (l.map uR))),(3,.one (.pv (.int .i64 x.2))),(4,.one (.pv (.int .i64 i))),(5,.one (.pv (.int .i64 x.1)))],[],[(0,[slT false 1 uR l])]⟩) (fun x=>x.1≤8∧x.2=sumBits x.1 S) (fun x=>8 - x.1) (0,S) ?_ ⟨Nat.zero_le _,rfl⟩ ?_
   ·simp -implicitDefEqProofs (maxSteps:=1000000) only [go_sem]; rfl
   ·rintro ⟨j,v⟩ ⟨hj,hv⟩
    simp only at hj hv
    have hz:v < 65536:=by rw [hv]; exact sumBits_lt j hx
    have e3:IntKind.i64.wrap ((v:Int) * 2 ^ 1)=((2 * v:Nat):Int):=by rw [IntWalk.i64_in _ (by omega)]; omega
    have e4:=xor_nat (2 * v) 69665 (by omega) (by decide)
    have e5:((69665:Nat):Int)=69665:=rfl
    rw [e5] at e4
    have e6:sumBits (j + 1) S=sumBit v:=by rw [hv]; rfl
    simp -implicitDefEqProofs (maxSteps:=1000000) only [go_sem]
    refine ⟨fun h=>?_,fun h=>?_⟩
    ·have hj':j < 8:=by simp only [decide_eq_true_eq] at h; omega
     simp -implicitDefEqProofs (maxSteps:=1000000) only [go_sem,show Nat.min 1 64=1 from rfl,e3]
     refine ⟨fun h6=>?_,fun h6=>?_⟩
     ·simp -implicitDefEqProofs (maxSteps:=1000000) only [go_sem,e4]
      refine ⟨(j + 1,2 * v ^^^ 69665),by rw [IntWalk.i64_in _ (by omega)]; rfl,⟨hj',?_⟩,by simp only; omega⟩
      rw [e6,sumBit,if_pos (by simp only [decide_eq_true_eq] at h6; omega)]
     ·refine ⟨(j + 1,2 * v),by rw [IntWalk.i64_in _ (by omega)]; rfl,⟨hj',?_⟩,by simp only; omega⟩
      rw [e6,sumBit,if_neg (by simp only [decide_eq_false_iff_not] at h6; omega)]
    ·have hj':j=8:=by simp only [decide_eq_false_iff_not] at h; omega
     subst hj'
     rw [← e9] at hv
     refine ⟨(i + 1,v),by rw [IntWalk.i64_in _ (by omega)]; rfl,⟨hi',hz,?_⟩,by simp only; omega⟩
     simp only
     rw [List.take_succ_eq_append_getElem hi',List.foldl_append,← he,hv,List.foldl_cons,List.foldl_nil]
  ·have hle:l.length≤i:=by simp only [decide_eq_false_iff_not] at h; omega
   rw [List.take_of_length_le hle] at he
   have e7:=and_nat s 65535 (by omega) (by decide)
   have e8:((65535:Nat):Int)=65535:=rfl
   rw [e8] at e7
   simp -implicitDefEqProofs (maxSteps:=1000000) only [go_sem,e7,sum,← he]
def x_i_PutW:FnX:=⟨16,[.tmp 4],
  .q [.op 4 (.mv (.k (.one (.nils 1))))]
 (.q [.m 5 0,.m 6 1,.op 7 (.bin .shr (.t 6) (.k (.one (.pv (.int .u64 8))))),.B 8 .and 7 255,.op 9 (.conv (.int .u8) (.t 8)),.m 10 1,.B 11 .and 10 255,.op 12 (.conv (.int .u8) (.t 11)),.op 13 (.bslice 1 [(.t 9),(.t 12)]),.op 14 (.bslice 1 [(.t 5),(.t 13)]),.c 15 100 [14],.m 4 15]
 .ret)⟩
theorem r_i_PutW {Te:TE} (c_i_joined:C_i_joined Te):C_i_PutW (RF Te x_i_PutW):=by
 intro b n h
 refine run0 ?_
 have e1:mkU (n.fdiv (2 ^ 8))=hiB n:=rfl
 simp -implicitDefEqProofs (maxSteps:=1000000) only [x_i_PutW,go_sem,min8,mkU_wrap,and255,e1]
 refine .of (c_i_joined [b,[hiB n,mkU n]] (by simp; omega) (by simp)) ?_
 have e2:[b,[hiB n,mkU n]].flatten=putW b n:=by simp [putW]
 simp -implicitDefEqProofs (maxSteps:=1000000) only [go_sem,e2]
def x_s_PutW:FnX:=⟨17,[.tmp 4],
  .q [.op 4 (.mv (.k (.one (.nils 1))))]
 (.q [.op 6 (.bslice 1 []),.m 7 0,.op 8 (.app 1 1 (.t 6) (.t 7)),.m 5 8]
 (.q [.m 9 5,.m 10 1,.op 11 (.bin .shr (.t 10) (.k (.one (.pv (.int .u64 8))))),.op 12 (.conv (.int .u8) (.t 11)),.m 13 1,.op 14 (.conv (.int .u8) (.t 13)),.op 15 (.bslice 1 [(.t 12),(.t 14)]),.op 16 (.app 1 1 (.t 9) (.t 15)),.m 4 16]
 .ret))⟩
theorem r_s_PutW {Te:TE}:C_s_PutW (RF Te x_s_PutW):=by
 intro b n h
 refine run0 ?_
 have e1:mkU (n.fdiv (2 ^ 8))=hiB n:=rfl
 have e2:List.take (b.length + 2) (List.map uR b++[[uT (hiB n)],[uT (mkU n)]])=List.map uR (putW b n):=by rw [List.take_of_length_le (by simp)]; simp [putW]
 simp -implicitDefEqProofs (maxSteps:=1000000) only [x_s_PutW,go_sem,min8,mkU_wrap,e1,e2]
 exact ⟨⟨decide_eq_true (by omega),decide_eq_true (by omega)⟩,decide_eq_true (by omega),decide_eq_true (by omega)⟩
def x_s_PutText:FnX:=⟨17,[.tmp 4],
  .q [.op 4 (.mv (.k (.one (.nils 1))))]
 (.seq (.q [.m 5 1,.op 6 (.slen (.t 5)),.B 7 .gtr 6 60]
 (.c 7 (.q [.op 8 (.bslice 1 []),.m 9 0,.op 10 (.app 1 1 (.t 8) (.t 9)),.m 4 10]
 .ret)))
 (.q [.m 11 0,.m 12 1,.op 13 (.slen (.t 12)),.c 14 282 [11,13],.m 15 1,.op 16 (.apps 1 1 (.t 14) (.t 15)),.m 4 16]
 .ret))⟩
theorem r_s_PutText {Te:TE} (c_s_PutW:C_s_PutW Te):C_s_PutText (RF Te x_s_PutText):=by
 intro b t h ht
 refine run0 ?_
 simp -implicitDefEqProofs (maxSteps:=1000000) only [x_s_PutText,go_sem]
 refine ⟨fun q=>?_,fun q=>?_⟩
 ·have q':(t.size:Int) > 60:=by simpa using q
  simp only [putText,if_pos q']
  exact ⟨⟨decide_eq_true (by omega),decide_eq_true (by omega)⟩,trivial⟩
 ·have q':¬ ((t.size:Int) > 60):=by simpa using q
  have q3:t.data.toList.length=t.size:=by rw [Array.length_toList]; rfl
  have el:=putW_len b t.size
  have e1:List.take (b.length + 2) (List.map uR (putW b t.size))=List.map uR (putW b t.size):=List.take_of_length_le (by rw [List.length_map,el]; exact Nat.le_refl _)
  have e2:List.take (b.length + 2 + t.data.toList.length) (List.map uR (putW b t.size)++List.map uR t.data.toList)=List.map uR (putW b t.size++t.data.toList):=by
   rw [List.take_of_length_le (by rw [List.length_append,List.length_map,List.length_map,el]; exact Nat.le_refl _),List.map_append]
  simp only [putText,if_neg q']
  refine .of (c_s_PutW b _ (by omega)) ?_
  try simp -implicitDefEqProofs (maxSteps:=1000000) only [go_sem,ofBytes_eq,el,e1,e2]
  repeat refine ⟨sc,?_⟩
  try exact sf
  try exact decide_eq_true (Nat.le_refl _)
def x_s_NodeGet:FnX:=⟨33,[.tmp 4,.tmp 5],
  .q [.v 2 0,.op 4 (.mv (.k (.one (.pv (.string ⟨#[]⟩))))),.i 5 0]
 (.seq (.q [.L 9 10 2,.c 10 64 [9],.N 11 10]
 (.c 11 (.q [.op 4 (.mv (.k (.one (.pv (.string ⟨#[]⟩))))),.i 5 1]
 .ret)))
 (.q [.f 12 2 0,.f 13 12 4,.L 14 3 13,.m 15 1,.c 16 104 [14,15],.m 6 16]
 (.seq (.q [.m 17 6,.B 18 .lss 17 0]
 (.c 18 (.q [.op 4 (.mv (.k (.one (.pv (.string ⟨#[]⟩))))),.i 5 2]
 .ret)))
 (.q [.f 20 2 0,.f 21 20 4,.f 22 21 0,.l 23 22,.m 24 6,.x 25 7 23 24,.L 26 7 25,.c 27 105 [26],.m 19 27,.e 28 19 0,.e 29 19 1,.m 7 28,.m 8 29]
 (.seq (.q [.m 30 8,.N 31 30]
 (.c 31 (.q [.op 4 (.mv (.k (.one (.pv (.string ⟨#[]⟩))))),.i 5 4]
 .ret)))
 (.q [.m 32 7,.m 4 32,.i 5 0]
 .ret))))))⟩
theorem r_s_NodeGet {Te:TE} (c_s_l15Up:C_s_l15Up Te) (c_s_RowAt:C_s_RowAt Te) (c_s_RowText:C_s_RowText Te):C_s_NodeGet (RF Te x_s_NodeGet):=by
 intro n key h
 refine X0 x_s_NodeGet.eq_1 ?_
 refine C0 (c_s_l15Up n h) ?_
 cases g:n.up
 ·have e:n.get key=(⟨#[]⟩,1):=by rw [NodeV.get,g]; rfl
  exact F1 e
 refine G0 ?_
 refine C0 (c_s_RowAt n.S.T key h.2.1.1) ?_
 rcases rowAt_cases n.S.T.Rows key with ⟨e1,e2⟩ | ⟨hk,e1,e2⟩
 ·have e:n.get key=(⟨#[]⟩,2):=by rw [NodeV.get,g,e2]; rfl
  exact F2 e1 e
 have hr:=rowOk_13 (TabV.ok_row (NodeV.up_tab g) hk)
 have c1:decide ((rowIx n.S.T.Rows key:Int) < 0)=false:=decide_eq_false (by omega)
 refine G3 e1 e2 c1 ?_
 refine C0 (c_s_RowText n.S.T.Rows[rowIx n.S.T.Rows key] hr) ?_
 cases g2:n.S.T.Rows[rowIx n.S.T.Rows key].rtext.2
 ·have e:n.get key=(⟨#[]⟩,4):=by rw [NodeV.get,g,e2]; simp only [if_true,g2]; rfl
  exact F2 e g2
 ·have e:n.get key=(n.S.T.Rows[rowIx n.S.T.Rows key].rtext.1,0):=by rw [NodeV.get,g,e2]; simp only [if_true,g2]
  exact F2 e g2
end Go.X

