/- Texts: CVt_2 CVg_3 CVze_2 CVg CUa_2 CK_2 CVx_2. -/
import Derived.Test.YtmmjaijeeeilcaaGreatDoorB04
set_option linter.unusedVariables false
set_option linter.unusedSimpArgs false
namespace Go.X
set_option maxRecDepth 100000
set_option maxHeartbeats 8000000
def x_s_Apply_1:XCode:=.c 36 (.draw [.op 37 (.bslice 7 []),.f 38 6 0,.l 39 38,.m 40 7,.op 41 (.slice 7 (.t 39) none (some (.t 40))),.op 42 (.app 7 96 (.t 37) (.t 41)),.f 43 6 0,.l 44 43,.m 45 7,.B 46 .add 45 1,.op 47 (.slice 7 (.t 44) (some (.t 46)) none),.op 48 (.app 7 96 (.t 42) (.t 47)),.f 49 6 0,.s 100004 1 49 48] [[],[],[1],[],[2,3],[0,4],[],[6],[],[8],[7,9],[5,10,5],[0,1,2,3,4,5,6,7,8,9,10,11],[12,11,11,0,1,2,3,4,5,6,7,8,9,10,11]])
def x_s_Apply_3:XCode:=.seq (.q [.L 69 3 6,.c 70 206 [69],.N 71 70]
 (.c 71 (.q [.L 72 3 2,.c 73 249 [72],.s 100007 3 4 73,.F 5]
 .ret)))
 (.q [.L 74 3 6,.s 100008 3 4 74,.T 5]
 .ret)
def x_s_Apply_2:XCode:=.seq (.q [.f 55 3 10,.l 56 55,.B 57 .neq 56 0]
 (.c 57 (.reg [.f 58 6 2,.l 59 58,.f 60 3 10,.l 61 60,.f 62 3 11,.l 63 62,.f 64 3 12,.l 65 64,.op 66 (.build [.i 0,.i 0,.i 0] [(0,1,(.t 61)),(1,1,(.t 63)),(2,1,(.t 65))]),.c 67 278 [59,66],.f 68 6 2,.s 100006 1 68 67])))
 (.norm [2,4,6] (x_s_Apply_3))
def x_s_Apply:FnX:=⟨75,[.cell 4 (some 3),.tmp 5],
  .q [.v 2 0,.v 3 1,.op 4 (.alloc [.nils 7,.i 0,.nils 3]),.F 5]
 (.q [.L 8 3 2,.c 9 249 [8],.op 6 (.alloc [.nils 7,.i 0,.nils 3]),.s 100001 3 6 9]
 (.seq (.q [.L 10 3 2,.c 11 206 [10],.N 12 11,.m 13 12,.z 13 (.L 14 13 3),.z 13 (.c 15 276 [14]),.z 13 (.N 16 15),.r 17 13 16]
 (.c 17 (.q [.L 18 3 6,.s 100002 3 4 18,.F 5]
 .ret)))
 (.seq (.q [.f 19 3 0,.l 20 19]
 (.block 0 (.q [.B 22 .eql 20 1,.m 21 22]
 (.cond 21 (.reg [.f 23 6 0,.l 24 23,.f 25 3 1,.L 26 7 25,.op 27 (.call 277 [1,0] [(.t 24),(.t 26)]),.f 28 6 0,.s 100003 1 28 27]) (.q [.B 30 .eql 20 2,.m 29 30]
 (.cond 29 (.q [.L 31 3 6,.f 32 3 8,.l 33 32,.c 34 104 [31,33],.m 7 34]
 (.q [.m 35 7,.B 36 .geq 35 0]
 (.norm [2,3,4,6,7,36] (x_s_Apply_1)))) (.q [.B 51 .eql 20 3,.m 50 51]
 (.c 50 (.reg [.f 52 3 9,.l 53 52,.f 54 6 1,.s 100005 1 54 53])))))))))
 (.norm [2,3,4,6] (x_s_Apply_2)))))⟩
theorem r_s_Apply {Te:TE} (c_s_l12Copy:C_s_l12Copy Te) (c_s_TabOk:C_s_TabOk Te) (c_s_RecOk:C_s_RecOk Te) (c_s_l12Row:C_s_l12Row Te) (c_s_RowAt:C_s_RowAt Te) (c_s_l12Put:C_s_l12Put Te):C_s_Apply (RF Te x_s_Apply):=by
 intro t r ht hr
 have hL:=ht.len (by decide)
 have hLr:=(hr.len (by decide))
 have hci:=change_in ht hr
 have h1:=ht.1.1
 have h2:=ht.2
 refine X0 x_s_Apply.eq_1 ?_
 refine C0 (c_s_l12Copy t hL) ?_
 refine C0 (c_s_TabOk t (ht.mono (by decide))) ?_
 cases g2:t.ok
 ·have e:t.apply r=(t,false):=by rw [TabV.apply,g2]; cases r.ok <;> rfl
  exact F1 e
 refine G0 ?_
 refine C0 (c_s_RecOk r (hr.mono (by decide))) ?_
 cases g1:r.ok
 ·have e:t.apply r=(t,false):=by rw [TabV.apply,g1]; rfl
  exact F1 e
 refine G0 ?_
 rcases rowAt_cases t.Rows r.Key with ⟨e1,e2⟩ | ⟨hk,e1,e2⟩
 ·have ed:=delRows_none e1
  have c1:decide ((-1:Int)≥0)=false:=by decide
  rcases kinds r.Kind with k | k | k | k
  all_goals
   try simp -implicitDefEqProofs (maxSteps:=1000000) only [go_sem,k]
   repeat refine ⟨sc,?_⟩
   try exact sf
  all_goals try (refine .of (c_s_RowAt t r.Key (by omega)) ?_; simp -implicitDefEqProofs (maxSteps:=1000000) only [x_s_Apply_1,go_sem,e1,c1,take_all,take_marks])
  all_goals try (refine .of (c_s_l12Row t.Rows r.R (by omega) hLr) ?_; simp -implicitDefEqProofs (maxSteps:=1000000) only [go_sem,take_all,take_marks])
  all_goals cases w:(r.Who != 0)
  all_goals
   have w':decide (r.Who > 0)=(r.Who != 0):=whoPos g1
   rw [w] at w'
   try simp -implicitDefEqProofs (maxSteps:=1000000) only [x_s_Apply_2,go_sem,w,take_all,take_marks]
  all_goals try (refine .of (c_s_l12Put t.Marks ⟨r.Who,r.Seq,r.Code⟩ (by omega)) ?_; simp -implicitDefEqProofs (maxSteps:=1000000) only [go_sem,take_all,take_marks])
  all_goals
   have tk:=c_s_TabOk (t.change r) (hci.mono (by decide))
   simp only [TabV.change,TabV.put,k,w',ed,cond_true,cond_false] at tk
   try simp -implicitDefEqProofs (maxSteps:=1000000) only [x_s_Apply_3,go_sem,take_all,take_marks]
   repeat refine ⟨sc,?_⟩
   try simp -implicitDefEqProofs (maxSteps:=1000000) only [go_sem,take_all,take_marks]
   refine .of tk ?_
   cases g3:(t.change r).ok
  all_goals
   have g4:=g3
   simp only [TabV.change,TabV.put,k,w',ed,cond_true,cond_false] at g4
   try simp -implicitDefEqProofs (maxSteps:=1000000) only [go_sem,g4,take_all,take_marks]
  all_goals try (refine .of (c_s_l12Copy t hL) ?_; have e:t.apply r=(t,false):=(by rw [TabV.apply,g1,g2,g3]; rfl); simp -implicitDefEqProofs (maxSteps:=1000000) only [go_sem,e,take_all,take_marks])
  all_goals try (have e:t.apply r=(t.change r,true):=(by rw [TabV.apply,g1,g2,g3]; rfl); simp -implicitDefEqProofs (maxSteps:=1000000) only [go_sem,e,TabV.change,TabV.put,k,w',ed,cond_true,cond_false,take_all,take_marks])
  all_goals try rfl
 ·have ed:=delRows_ok g2 hk
  generalize rowIx t.Rows r.Key=i at hk e1 e2 ed
  have ew:IntKind.i64.wrap ((i:Int) + 1)=((i + 1:Nat):Int):=IntWalk.i64_in _ (by omega)
  have c1:decide ((i:Int)≥0)=true:=decide_eq_true (by omega)
  have tl:(List.take i (List.map (RowV.enc true) t.Rows)).length=i:=by simp; omega
  have a7:∀ l:List RowV,((List.map (RowV.enc true) l).all fun x=>x.length==7)=true:=fun l=>by simp
  have ta:((List.take i (List.map (RowV.enc true) t.Rows)).all fun x=>x.length==7)=true:=by rw [← List.map_take]; exact a7 _
  have da:((List.drop (i + 1) (List.map (RowV.enc true) t.Rows)).all fun x=>x.length==7)=true:=by rw [← List.map_drop]; exact a7 _
  have dn:(List.drop (i + 1) (List.map (RowV.enc true) t.Rows)).length=t.Rows.length - (i + 1):=by simp
  have tt:List.take (t.Rows.length - (i + 1)) (List.drop (i + 1) (List.map (RowV.enc true) t.Rows))=List.drop (i + 1) (List.map (RowV.enc true) t.Rows):=List.take_of_length_le (by rw [dn]; omega)
  have gd:List.drop (i + 1) (goneRows (List.map (RowV.enc true) t.Rows) 0 i)=List.drop (i + 1) (List.map (RowV.enc true) t.Rows):=by
   simp only [goneRows,List.take_zero,List.nil_append,List.drop_zero,Nat.zero_add]
   rw [List.drop_append,List.drop_of_length_le (by simp; omega),List.nil_append,List.drop_drop]
   congr 1
   simp
   omega
  have gl:(goneRows (List.map (RowV.enc true) t.Rows) 0 i).length=t.Rows.length:=by simp [goneRows]; omega
  have ti:List.take i (List.take i (List.map (RowV.enc true) t.Rows))=List.take i (List.map (RowV.enc true) t.Rows):=List.take_of_length_le (by omega)
  have b1:decide ((i + (t.Rows.length - (i + 1))) * 96≤140737488355328)=true:=decide_eq_true (by omega)
  have b2:decide (i + (t.Rows.length - (i + 1))≤4294967296)=true:=decide_eq_true (by omega)
  have b3:decide (i≤i)=true:=decide_eq_true (Nat.le_refl i)
  have ap:List.take i (List.map (RowV.enc true) t.Rows)++List.drop (i + 1) (List.map (RowV.enc true) t.Rows)=List.map (RowV.enc true) (List.take i t.Rows++List.drop (i + 1) t.Rows):=by rw [List.map_append,List.map_take,List.map_drop]
  have tkA:List.take (i + (t.Rows.length - (i + 1))) (List.map (RowV.enc true) (List.take i t.Rows++List.drop (i + 1) t.Rows))=List.map (RowV.enc true) (List.take i t.Rows++List.drop (i + 1) t.Rows):=List.take_of_length_le (by rw [List.length_map,List.length_append,List.length_take,List.length_drop]; omega)
  have tkB:List.take ((List.take i t.Rows).length + (List.drop (i + 1) t.Rows).length) (List.map (RowV.enc true) (List.take i t.Rows++List.drop (i + 1) t.Rows))=List.map (RowV.enc true) (List.take i t.Rows++List.drop (i + 1) t.Rows):=List.take_of_length_le (by rw [List.length_map,List.length_append]; exact Nat.le_refl _)
  rcases kinds r.Kind with k | k | k | k
  all_goals
   try simp -implicitDefEqProofs (maxSteps:=1000000) only [go_sem,k]
   repeat refine ⟨sc,?_⟩
   try exact sf
  all_goals try (refine .of (c_s_RowAt t r.Key (by omega)) ?_; simp -implicitDefEqProofs (maxSteps:=1000000) only [x_s_Apply_1,go_sem,e1,c1,ew,take_all,take_marks])
  all_goals try (cases f1:flat (List.take i (List.map (RowV.enc true) t.Rows)) <;> cases f2:flat (List.drop (i + 1) (List.map (RowV.enc true) t.Rows)) <;> simp -implicitDefEqProofs (maxSteps:=1000000) only [go_sem,Nat.sub_zero,f1,f2,tl,ta,da,dn,tt,gd,gl,ap,e1,c1,ew,ti,b1,b2,b3,take_all,take_marks])
  all_goals
   repeat refine ⟨sc,?_⟩
  all_goals try (refine .of (c_s_l12Row t.Rows r.R (by omega) hLr) ?_; simp -implicitDefEqProofs (maxSteps:=1000000) only [go_sem,take_all,take_marks])
  all_goals cases w:(r.Who != 0)
  all_goals
   have w':decide (r.Who > 0)=(r.Who != 0):=whoPos g1
   rw [w] at w'
   try simp -implicitDefEqProofs (maxSteps:=1000000) only [x_s_Apply_2,go_sem,w,take_all,take_marks]
  all_goals try (refine .of (c_s_l12Put t.Marks ⟨r.Who,r.Seq,r.Code⟩ (by omega)) ?_; simp -implicitDefEqProofs (maxSteps:=1000000) only [go_sem,take_all,take_marks])
  all_goals
   have tk:=c_s_TabOk (t.change r) (hci.mono (by decide))
   simp only [TabV.change,TabV.put,k,w',ed,cond_true,cond_false] at tk
   try simp -implicitDefEqProofs (maxSteps:=1000000) only [x_s_Apply_3,go_sem,take_all,take_marks]
   repeat refine ⟨sc,?_⟩
   try simp -implicitDefEqProofs (maxSteps:=1000000) only [go_sem,tkA,tkB,take_all,take_marks]
   try refine ⟨⟨decide_eq_true (by rw [List.length_take,List.length_drop]; omega),by first | simp -implicitDefEqProofs (maxSteps:=1000000) only [go_sem] | (rw [← List.map_take]; simp -implicitDefEqProofs (maxSteps:=1000000) only [go_sem])⟩,?_⟩
   try refine ⟨decide_eq_true (by rw [List.length_take,List.length_drop]; omega),?_⟩
   refine .of tk ?_
   cases g3:(t.change r).ok
  all_goals
   have g4:=g3
   simp only [TabV.change,TabV.put,k,w',ed,cond_true,cond_false] at g4
   try simp -implicitDefEqProofs (maxSteps:=1000000) only [go_sem,g4,take_all,take_marks]
  all_goals try (refine .of (c_s_l12Copy t hL) ?_; have e:t.apply r=(t,false):=(by rw [TabV.apply,g1,g2,g3]; rfl); simp -implicitDefEqProofs (maxSteps:=1000000) only [go_sem,e,take_all,take_marks])
  all_goals try (have e:t.apply r=(t.change r,true):=(by rw [TabV.apply,g1,g2,g3]; rfl); simp -implicitDefEqProofs (maxSteps:=1000000) only [go_sem,e,TabV.change,TabV.put,k,w',ed,cond_true,cond_false,take_all,take_marks])
  all_goals try refine ⟨decide_eq_true (by rw [List.length_take,List.length_drop]; omega),?_⟩
  all_goals try rw [tkA]
  all_goals try rw [tkB]
  all_goals try rfl
def x_i_StoreOk:FnX:=⟨40,[.tmp 2],
  .q [.v 1 0,.F 2]
 (.q [.f 3 1 0,.L 4 4 3,.c 5 178 [4],.m 6 5,.y 6 (.f 7 1 0),.y 6 (.f 8 7 0),.y 6 (.l 9 8),.y 6 (.n 10 9),.y 6 (.B 11 .eql 10 62),.a 12 6 11,.m 13 12,.y 13 (.f 14 1 0),.y 13 (.f 15 14 1),.y 13 (.l 16 15),.y 13 (.n 17 16),.y 13 (.B 18 .eql 17 0),.y 13 (.m 19 18),.z 19 (.f 20 1 0),.z 19 (.f 21 20 3),.z 19 (.l 22 21),.y 13 (.r 23 19 22),.a 24 13 23,.m 25 24,.y 25 (.f 26 1 4),.y 25 (.L 27 3 26),.y 25 (.c 28 179 [27]),.a 29 25 28,.m 30 29,.y 30 (.f 31 1 7),.y 30 (.l 32 31),.y 30 (.op 33 (.call 90 [0,0,0] [(.t 32),(.i 1),(.i 60000)])),.a 34 30 33,.m 35 34,.y 35 (.f 36 1 8),.y 35 (.l 37 36),.y 35 (.op 38 (.call 90 [0,0,0] [(.t 37),(.i 0),(.i 30)])),.a 39 35 38,.m 2 39]
 .ret)⟩
theorem r_i_StoreOk {Te:TE} (c_i_DevOk:C_i_DevOk Te) (c_i_TabOk:C_i_TabOk Te) (c_i_within:C_i_within Te):C_i_StoreOk (RF Te x_i_StoreOk):=by
 intro s h
 obtain ⟨hD,hT⟩:=h
 obtain ⟨⟨secs,cache,fuse,down⟩,T,gen,place⟩:=s
 cases down
 ·skip
  refine X0 x_i_StoreOk.eq_1 ?_
  refine C0 (c_i_DevOk ⟨secs,cache,fuse,false⟩ hD) ?_
  cases g1:DevV.ok ⟨secs,cache,fuse,false⟩
  ·have e:(StoreV.mk ⟨secs,cache,fuse,false⟩ T gen place).ok=false:=by simp only [StoreV.ok,g1,Bool.false_and]
   exact F1 e
  cases g2:((secs.length:Int)==62)
  ·have e:(StoreV.mk ⟨secs,cache,fuse,false⟩ T gen place).ok=false:=by simp only [StoreV.ok,g2,Bool.and_false,Bool.false_and]
   exact F2 g2 e
  cases g0:((cache.length:Int)==0)
  ·have e:(StoreV.mk ⟨secs,cache,fuse,false⟩ T gen place).ok=false:=by simp only [StoreV.ok,g0,Bool.or_self,Bool.and_false,Bool.false_and]
   exact F3 g2 g0 e
  refine G2 g2 g0 ?_
  refine C0 (c_i_TabOk T hT) ?_
  cases g4:T.ok
  ·have e:(StoreV.mk ⟨secs,cache,fuse,false⟩ T gen place).ok=false:=by simp only [StoreV.ok,g4,Bool.and_false,Bool.false_and]
   exact F1 e
  refine G0 ?_
  refine C0 (c_i_within _ _ _) ?_
  cases g5:win gen 1 60000
  ·have e:(StoreV.mk ⟨secs,cache,fuse,false⟩ T gen place).ok=false:=by simp only [StoreV.ok,g5,Bool.and_false,Bool.false_and]
   exact F1 e
  refine G0 ?_
  have e:(StoreV.mk ⟨secs,cache,fuse,false⟩ T gen place).ok=win place 0 30:=by simp only [StoreV.ok,g1,g2,g0,g4,g5,Bool.and_true,Bool.true_and,Bool.or_true,Bool.true_or]
  exact D1 (c_i_within _ _ _) e
 ·skip
  refine X0 x_i_StoreOk.eq_1 ?_
  refine C0 (c_i_DevOk ⟨secs,cache,fuse,true⟩ hD) ?_
  cases g1:DevV.ok ⟨secs,cache,fuse,true⟩
  ·have e:(StoreV.mk ⟨secs,cache,fuse,true⟩ T gen place).ok=false:=by simp only [StoreV.ok,g1,Bool.false_and]
   exact F1 e
  cases g2:((secs.length:Int)==62)
  ·have e:(StoreV.mk ⟨secs,cache,fuse,true⟩ T gen place).ok=false:=by simp only [StoreV.ok,g2,Bool.and_false,Bool.false_and]
   exact F2 g2 e
  cases g0:((cache.length:Int)==0)
  ·refine G2 g2 g0 ?_
   refine C0 (c_i_TabOk T hT) ?_
   cases g4:T.ok
   ·have e:(StoreV.mk ⟨secs,cache,fuse,true⟩ T gen place).ok=false:=by simp only [StoreV.ok,g4,Bool.and_false,Bool.false_and]
    exact F1 e
   refine G0 ?_
   refine C0 (c_i_within _ _ _) ?_
   cases g5:win gen 1 60000
   ·have e:(StoreV.mk ⟨secs,cache,fuse,true⟩ T gen place).ok=false:=by simp only [StoreV.ok,g5,Bool.and_false,Bool.false_and]
    exact F1 e
   refine G0 ?_
   have e:(StoreV.mk ⟨secs,cache,fuse,true⟩ T gen place).ok=win place 0 30:=by simp only [StoreV.ok,g1,g2,g0,g4,g5,Bool.and_true,Bool.true_and,Bool.or_true,Bool.true_or]
   exact D1 (c_i_within _ _ _) e
  ·refine G2 g2 g0 ?_
   refine C0 (c_i_TabOk T hT) ?_
   cases g4:T.ok
   ·have e:(StoreV.mk ⟨secs,cache,fuse,true⟩ T gen place).ok=false:=by simp only [StoreV.ok,g4,Bool.and_false,Bool.false_and]
    exact F1 e
   refine G0 ?_
   refine C0 (c_i_within _ _ _) ?_
   cases g5:win gen 1 60000
   ·have e:(StoreV.mk ⟨secs,cache,fuse,true⟩ T gen place).ok=false:=by simp only [StoreV.ok,g5,Bool.and_false,Bool.false_and]
    exact F1 e
   refine G0 ?_
   have e:(StoreV.mk ⟨secs,cache,fuse,true⟩ T gen place).ok=win place 0 30:=by simp only [StoreV.ok,g1,g2,g0,g4,g5,Bool.and_true,Bool.true_and,Bool.or_true,Bool.true_or]
   exact D1 (c_i_within _ _ _) e
def x_s_StoreOk:FnX:=⟨40,[.tmp 2],
  .q [.v 1 0,.F 2]
 (.q [.f 3 1 0,.L 4 4 3,.c 5 205 [4],.m 6 5,.y 6 (.f 7 1 0),.y 6 (.f 8 7 0),.y 6 (.l 9 8),.y 6 (.n 10 9),.y 6 (.B 11 .eql 10 62),.a 12 6 11,.m 13 12,.y 13 (.f 14 1 0),.y 13 (.f 15 14 3),.y 13 (.l 16 15),.y 13 (.m 17 16),.z 17 (.f 18 1 0),.z 17 (.f 19 18 1),.z 17 (.l 20 19),.z 17 (.n 21 20),.z 17 (.B 22 .eql 21 0),.y 13 (.r 23 17 22),.a 24 13 23,.m 25 24,.y 25 (.f 26 1 4),.y 25 (.L 27 3 26),.y 25 (.c 28 206 [27]),.a 29 25 28,.m 30 29,.y 30 (.f 31 1 7),.y 30 (.l 32 31),.y 30 (.op 33 (.call 120 [0,0,0] [(.t 32),(.i 1),(.i 60000)])),.a 34 30 33,.m 35 34,.y 35 (.f 36 1 8),.y 35 (.l 37 36),.y 35 (.op 38 (.call 120 [0,0,0] [(.t 37),(.i 0),(.i 30)])),.a 39 35 38,.m 2 39]
 .ret)⟩
theorem r_s_StoreOk {Te:TE} (c_s_DevOk:C_s_DevOk Te) (c_s_TabOk:C_s_TabOk Te) (c_s_l1In:C_s_l1In Te):C_s_StoreOk (RF Te x_s_StoreOk):=by
 intro s h
 obtain ⟨hD,hT⟩:=h
 obtain ⟨⟨secs,cache,fuse,down⟩,T,gen,place⟩:=s
 cases down
 ·skip
  refine X0 x_s_StoreOk.eq_1 ?_
  refine C0 (c_s_DevOk ⟨secs,cache,fuse,false⟩ hD) ?_
  cases g1:DevV.ok ⟨secs,cache,fuse,false⟩
  ·have e:(StoreV.mk ⟨secs,cache,fuse,false⟩ T gen place).ok=false:=by simp only [StoreV.ok,g1,Bool.false_and]
   exact F1 e
  cases g2:((secs.length:Int)==62)
  ·have e:(StoreV.mk ⟨secs,cache,fuse,false⟩ T gen place).ok=false:=by simp only [StoreV.ok,g2,Bool.and_false,Bool.false_and]
   exact F2 g2 e
  cases g0:((cache.length:Int)==0)
  ·have e:(StoreV.mk ⟨secs,cache,fuse,false⟩ T gen place).ok=false:=by simp only [StoreV.ok,g0,Bool.or_self,Bool.and_false,Bool.false_and]
   exact F3 g2 g0 e
  refine G2 g2 g0 ?_
  refine C0 (c_s_TabOk T hT) ?_
  cases g4:T.ok
  ·have e:(StoreV.mk ⟨secs,cache,fuse,false⟩ T gen place).ok=false:=by simp only [StoreV.ok,g4,Bool.and_false,Bool.false_and]
   exact F1 e
  refine G0 ?_
  refine C0 (c_s_l1In _ _ _) ?_
  cases g5:win gen 1 60000
  ·have e:(StoreV.mk ⟨secs,cache,fuse,false⟩ T gen place).ok=false:=by simp only [StoreV.ok,g5,Bool.and_false,Bool.false_and]
   exact F1 e
  refine G0 ?_
  have e:(StoreV.mk ⟨secs,cache,fuse,false⟩ T gen place).ok=win place 0 30:=by simp only [StoreV.ok,g1,g2,g0,g4,g5,Bool.and_true,Bool.true_and,Bool.or_true,Bool.true_or]
  exact D1 (c_s_l1In _ _ _) e
 ·skip
  refine X0 x_s_StoreOk.eq_1 ?_
  refine C0 (c_s_DevOk ⟨secs,cache,fuse,true⟩ hD) ?_
  cases g1:DevV.ok ⟨secs,cache,fuse,true⟩
  ·have e:(StoreV.mk ⟨secs,cache,fuse,true⟩ T gen place).ok=false:=by simp only [StoreV.ok,g1,Bool.false_and]
   exact F1 e
  cases g2:((secs.length:Int)==62)
  ·have e:(StoreV.mk ⟨secs,cache,fuse,true⟩ T gen place).ok=false:=by simp only [StoreV.ok,g2,Bool.and_false,Bool.false_and]
   exact F2 g2 e
  refine G1 g2 ?_
  refine C0 (c_s_TabOk T hT) ?_
  cases g4:T.ok
  ·have e:(StoreV.mk ⟨secs,cache,fuse,true⟩ T gen place).ok=false:=by simp only [StoreV.ok,g4,Bool.and_false,Bool.false_and]
   exact F1 e
  refine G0 ?_
  refine C0 (c_s_l1In _ _ _) ?_
  cases g5:win gen 1 60000
  ·have e:(StoreV.mk ⟨secs,cache,fuse,true⟩ T gen place).ok=false:=by simp only [StoreV.ok,g5,Bool.and_false,Bool.false_and]
   exact F1 e
  refine G0 ?_
  have e:(StoreV.mk ⟨secs,cache,fuse,true⟩ T gen place).ok=win place 0 30:=by simp only [StoreV.ok,g1,g2,g4,g5,Bool.and_true,Bool.true_and,Bool.or_true,Bool.true_or]
  exact D1 (c_s_l1In _ _ _) e
def x_i_NodeOk:FnX:=⟨11,[.tmp 2],
  .q [.v 1 0,.F 2]
 (.q [.f 3 1 0,.L 4 9 3,.c 5 89 [4],.m 6 5,.y 6 (.f 7 1 9),.y 6 (.l 8 7),.y 6 (.op 9 (.call 90 [0,0,0] [(.t 8),(.i 1),(.i 5)])),.a 10 6 9,.m 2 10]
 .ret)⟩
theorem r_i_NodeOk {Te:TE} (c_i_StoreOk:C_i_StoreOk Te) (c_i_within:C_i_within Te):C_i_NodeOk (RF Te x_i_NodeOk):=by
 intro n h
 refine run0 ?_
 simp -implicitDefEqProofs (maxSteps:=1000000) only [x_i_NodeOk,go_sem,NodeV.ok]
 repeat refine ⟨sc,?_⟩
 try exact sf
 refine C0 (c_i_StoreOk n.S h) ?_
 cases g1:n.S.ok
 ·exact F0
 ·refine G0 ?_
  exact D0 (c_i_within _ _ _)
def x_i_NodeStep:FnX:=⟨77,[.cell 4 (some 10),.tmp 5,.tmp 6,.tmp 7],
  .q [.v 2 0,.op 4 (.alloc [.nils 1,.nils 2,.i 0,.F,.nils 7,.i 0,.nils 3,.i 0,.i 0,.i 0]),.op 5 (.mv (.k (.one (.pv (.string ⟨#[]⟩))))),.i 6 0,.F 7]
 (.q [.L 17 10 2,.c 18 60 [17],.op 8 (.alloc [.nils 1,.nils 2,.i 0,.F,.nils 7,.i 0,.nils 3,.i 0,.i 0,.i 0]),.s 100001 10 8 18]
 (.q [.f 19 2 0,.f 20 19 4,.f 21 20 1,.l 22 21,.m 9 22]
 (.seq (.q [.L 23 10 2,.c 24 82 [23],.N 25 24,.m 26 25,.z 26 (.m 27 9),.z 26 (.c 28 21 [27]),.z 26 (.N 29 28),.r 30 26 29]
 (.c 30 (.q [.L 31 10 8,.m 32 1,.s 100002 10 4 31,.m 5 32,.i 6 0,.F 7]
 .ret)))
 (.q [.f 33 2 0,.f 34 33 4,.L 35 3 34,.m 36 1,.c 37 83 [35,36],.m 10 37]
 (.q [.m 38 1,.m 11 38]
 (.seq (.q [.m 39 10,.m 40 10,.n 41 40,.op 42 (.min (.i 2) (.t 41)),.op 43 (.slice 7 (.t 39) none (some (.t 42))),.n 44 43,.i 45 0]
 (.block 0 (.loop [1,4,8,9,10,11,43,44,45] (.q [.b 46 .lss 45 44]
 (.seq (.cond 46 .skip (.exit 0))
 (.seq (.block 1 (.q [.x 47 7 43 45,.L 48 7 47,.op 13 (.alloc [.e,.i 0,.nils 1,.i 0,.nils 1,.i 0,.F]),.s 100003 7 13 48]
 (.q [.m 49 9,.L 50 7 13,.c 51 84 [49,50],.op 14 (.alloc [.e,.i 0,.nils 1,.i 0,.nils 1,.i 0,.F]),.s 100004 7 14 51]
 (.q [.f 52 13 0,.l 53 52,.m 11 53]
 (.seq (.q [.L 54 7 14,.L 55 7 13,.c 56 85 [54,55]]
 (.c 56 (.exit 1)))
 (.q [.L 58 10 8,.L 59 7 14,.op 60 (.build [.i 0,.e,.i 0,.nils 1,.i 0,.nils 1,.i 0,.F,.e,.i 0,.i 0,.i 0,.i 0] [(0,1,(.i 1)),(1,7,(.t 59))]),.c 61 86 [58,60],.m 57 61,.e 62 57 0,.e 63 57 1,.op 15 (.alloc [.nils 1,.nils 2,.i 0,.F,.nils 7,.i 0,.nils 3,.i 0,.i 0,.i 0]),.s 100005 10 15 62,.m 16 63]
 (.q [.L 64 10 15,.s 100006 10 8 64]
 (.q [.m 65 16,.N 66 65]
 (.c 66 (.q [.L 67 10 8,.m 68 1,.s 100007 10 4 67,.m 5 68,.i 6 0,.F 7]
 .ret))))))))))
 (.reg [.B 69 .add 45 1,.m 45 69])))))))
 (.norm [4,8,10,11] (.seq (.q [.m 70 10,.n 71 70,.B 72 .gtr 71 2]
 (.c 72 (.q [.L 73 10 8,.m 74 11,.s 100008 10 4 73,.m 5 74,.i 6 0,.T 7]
 .ret)))
 (.q [.L 75 10 8,.m 76 11,.s 100009 10 4 75,.m 5 76,.i 6 1,.T 7]
 .ret)))))))))⟩
theorem r_i_NodeStep {Te:TE} (c_i_copyNode:C_i_copyNode Te) (c_i_isUp:C_i_isUp Te) (c_i_Walks:C_i_Walks Te) (c_i_rowsBehind:C_i_rowsBehind Te) (c_i_turnedRow:C_i_turnedRow Te) (c_i_sameRow:C_i_sameRow Te) (c_i_added:C_i_added Te):C_i_NodeStep (RF Te x_i_NodeStep):=by
 intro n f hn
 have hL:=hn.len (by decide)
 refine X0 x_i_NodeStep.eq_1 ?_
 refine C0 (c_i_copyNode n hL) ?_
 refine C0 (c_i_isUp n (hn.mono (by decide))) ?_
 cases g1:n.up
 ·have e:n.step f=(n,f,0,false):=by rw [NodeV.step,g1]; rfl
  exact F1 e
 refine G0 ?_
 refine C0 (c_i_Walks _) ?_
 cases g2:walks n.S.T.Phase
 ·have e:n.step f=(n,f,0,false):=by rw [NodeV.step,g1,g2]; rfl
  exact F1 e
 refine G0 ?_
 refine C0 (c_i_rowsBehind n.S.T f (by have:=hn.2.1.1; omega)) ?_
 have hB:(behind f n.S.T.Rows).length≤n.S.T.Rows.length:=List.length_filter_le _ _
 have hB2:∀ r∈behind f n.S.T.Rows,r.In (2 ^ 20):=fun r hr=>hn.2.1.2 r (List.mem_filter.1 hr).1
 have e:n.step f=(bif (stepN n.S.T.Phase n ((behind f n.S.T.Rows).take 2)).2 then ((stepN n.S.T.Phase n ((behind f n.S.T.Rows).take 2)).1,lastKey f ((behind f n.S.T.Rows).take 2),bif decide (((behind f n.S.T.Rows).length:Int) > 2) then 0 else 1,true) else ((stepN n.S.T.Phase n ((behind f n.S.T.Rows).take 2)).1,f,0,false)):=by rw [NodeV.step,g1,g2]; rfl
 rw [e]
 clear e
 generalize behind f n.S.T.Rows=B at hB hB2
 have hBr:B.length≤2 ^ 20:=by have:=hn.2.1.1; omega
 have ek:(bif decide ((B.length:Int) < 2) then (B.length:Int) else 2)=((B.take 2).length:Nat):=by
  rw [List.length_take]
  by_cases h:(B.length:Int) < 2
  ·rw [decide_eq_true h,cond_true]; omega
  ·rw [decide_eq_false h,cond_false]; omega
 rw [ek]
 have hk:(B.take 2).length≤B.length:=by rw [List.length_take]; omega
 have hk2:(B.take 2).length≤2:=by rw [List.length_take]; omega
 have hget:∀ (i:Nat) (h:i < (B.take 2).length) (h2:i < B.length),(B.take 2)[i]=B[i]:=fun i h h2=>List.getElem_take
 generalize B.take 2=C at hk hk2 hget
 generalize hp:n.S.T.Phase=p
 try simp -implicitDefEqProofs (maxSteps:=1000000) only [go_sem,Int.toNat_natCast,hp]
 repeat refine ⟨sc,?_⟩
 try exact sf
 refine loop_of (σ:=Nat×NodeV×List T) (fun x=>⟨[(1,.one (.pv (.string f))),(4,.bp 4 0),(8,.bp 8 0),(9,.one (.pv (.int .i64 p))),(10,.one (.rf 79 0 [] 7 0 B.length)),(11,.one (.pv (.string (lastKey f (C.take x.1))))),(43,.one (.rf 79 0 [] 7 0 C.length)),(44,.one (.pv (.int .i64 C.length))),(45,.one (.pv (.int .i64 x.1)))],[(4,[.nils 1,.nils 2,.pv (.int .i64 0),.pv (.bool false),.nils 7,.pv (.int .i64 0),.nils 3,.pv (.int .i64 0),.pv (.int .i64 0),.pv (.int .i64 0)]),(8,[.rf 80 0 [] 1 0 x.2.1.S.D.Secs.length,.rf 80 1 [] 2 0 x.2.1.S.D.Cache.length,.pv (.int .i64 x.2.1.S.D.Fuse),.pv (.bool x.2.1.S.D.Down),.rf 80 4 [] 7 0 x.2.1.S.T.Rows.length,.pv (.int .i64 x.2.1.S.T.Phase),.rf 80 6 [] 3 0 x.2.1.S.T.Marks.length,.pv (.int .i64 x.2.1.S.Gen),.pv (.int .i64 x.2.1.S.Place),.pv (.int .i64 x.2.1.Cs)])],[(0,n.enc false),(1,[sT f]),(79,[slT true 7 (RowV.enc false) B]),(80,x.2.1.enc true++x.2.2)]⟩) (fun x=>x.1≤C.length∧stepN p n (C.take x.1)=(x.2.1,true)∧x.2.1.In (2 ^ 20)) (fun x=>C.length - x.1) (0,n,[]) ?_ ⟨Nat.zero_le _,rfl,hn⟩ ?_
 ·simp -implicitDefEqProofs (maxSteps:=1000000) only [go_sem,lastKey,List.take_zero,List.getLast?_nil,List.append_nil,hp]
  try rfl
 ·rintro ⟨i,cur,E⟩ ⟨hi,hs,hc⟩
  simp only at hi hs hc
  cases q:decide ((i:Int) < (C.length:Int))
  ·have hC:C.take i=C:=List.take_of_length_le (by simp only [decide_eq_false_iff_not] at q; omega)
   rw [hC] at hs ⊢
   rw [hs]
   cases g:decide ((B.length:Int) > 2)
   ·exact F2 q g
   ·exact F2 q g
  ·have k1:i < C.length:=by simp only [decide_eq_true_eq] at q; omega
   have k2:i < B.length:=by omega
   have hr:=hB2 _ (List.getElem_mem k2)
   have et:C.take (i + 1)=C.take i++[B[i]]:=by rw [List.take_succ_eq_append_getElem k1,hget i k1 k2]
   have ew:IntKind.i64.wrap ((i:Int) + 1)=((i + 1:Nat):Int):=IntWalk.i64_in _ (by omega)
   have e1:stepN p n (C.take (i + 1))=stepN p cur [B[i]]:=by rw [et,stepN_app,hs]; rfl
   have e2:lastKey f (C.take (i + 1))=B[i].Key:=by rw [et,lastKey_snoc]
   try simp -implicitDefEqProofs (maxSteps:=1000000) only [go_sem,q,List.getD_eq_getElem?_getD,List.getElem?_eq_getElem k2]
   repeat refine ⟨sc,?_⟩
   try exact sf
   refine C0 (c_i_turnedRow p B[i] hr) ?_
   refine C0 (c_i_sameRow (turned p B[i]) B[i]) ?_
   cases g3:rowSame (turned p B[i]) B[i]
   ·refine G1 g3 ?_
    refine C0 (c_i_added cur (recRow (turned p B[i])) hc ⟨turned_in hr,Nat.zero_le _⟩) ?_
    cases g4:(cur.S.add (recRow (turned p B[i]))).2
    ·have e3:stepN p n C=(cur.added (recRow (turned p B[i])),false):=by
      rw [← List.take_append_drop (i + 1) C,stepN_app,e1,stepN,g3,g4]; rfl
     rw [e3]
     try simp -implicitDefEqProofs (maxSteps:=1000000) only [go_sem,g4,take_all,take_marks,NodeV.added]
     repeat refine ⟨sc,?_⟩
     try exact sf
     try rfl
    ·have e3:stepN p n (C.take (i + 1))=(cur.added (recRow (turned p B[i])),true):=by rw [e1,stepN,g3,g4]; rfl
     refine G1 g4 ?_
     refine ⟨(i + 1,cur.added (recRow (turned p B[i])),[bT true]),?_,⟨k1,e3,add_in2 _ hc⟩,by simp only; omega⟩
     rw [ew]
     simp only [e2]
     try rfl
   ·have e3:stepN p n (C.take (i + 1))=(cur,true):=by rw [e1,stepN,g3]; rfl
    refine G1 g3 ?_
    refine ⟨(i + 1,cur,E),?_,⟨k1,e3,hc⟩,by simp only; omega⟩
    rw [ew]
    simp only [e2]
    try rfl
def x_i_DevOk:FnX:=⟨57,[.tmp 2],
  .q [.v 1 0,.F 2]
 (.seq (.q [.f 7 1 0,.l 8 7,.n 9 8,.op 10 (.call 90 [0,0,0] [(.t 9),(.i 1),(.i 64)]),.N 11 10,.m 12 11,.z 12 (.f 13 1 1),.z 12 (.l 14 13),.z 12 (.n 15 14),.z 12 (.B 16 .gtr 15 40),.r 17 12 16,.m 18 17,.z 18 (.f 19 1 2),.z 18 (.l 20 19),.z 18 (.op 21 (.call 90 [0,0,0] [(.t 20),(.i (-1)),(.i 1000)])),.z 18 (.N 22 21),.r 23 18 22]
 (.c 23 (.q [.F 2]
 .ret)))
 (.seq (.q [.f 24 1 0,.l 25 24,.n 26 25,.i 27 0]
 (.block 0 (.loop [1,25,26,27] (.q [.b 28 .lss 27 26]
 (.seq (.cond 28 .skip (.exit 0))
 (.seq (.block 1 (.q [.x 29 1 25 27,.l 30 29,.m 4 30]
 (.q [.m 31 4,.n 32 31,.B 33 .gtr 32 120]
 (.c 33 (.q [.F 2]
 .ret)))))
 (.reg [.B 34 .add 27 1,.m 27 34])))))))
 (.norm [1] (.seq (.q [.f 35 1 1,.l 36 35,.n 37 36,.i 38 0]
 (.block 2 (.loop [1,36,37,38] (.q [.b 39 .lss 38 37]
 (.seq (.cond 39 .skip (.exit 2))
 (.seq (.block 3 (.q [.x 40 2 36 38,.L 41 2 40,.op 6 (.alloc [.i 0,.nils 1]),.s 100001 2 6 41]
 (.q [.f 42 6 0,.l 43 42,.f 44 1 0,.l 45 44,.n 46 45,.B 47 .sub 46 1,.op 48 (.call 90 [0,0,0] [(.t 43),(.i 0),(.t 47)]),.N 49 48,.m 50 49,.z 50 (.f 51 6 1),.z 50 (.l 52 51),.z 50 (.n 53 52),.z 50 (.B 54 .gtr 53 120),.r 55 50 54]
 (.c 55 (.q [.F 2]
 .ret)))))
 (.reg [.B 56 .add 38 1,.m 38 56])))))))
 (.norm [] (.q [.T 2]
 .ret))))))⟩
theorem r_i_DevOk {Te:TE} (c_i_within:C_i_within Te):C_i_DevOk (RF Te x_i_DevOk):=by
 intro d h
 obtain ⟨⟨hl,hS⟩,hl2,hC⟩:=h
 have ws:IntKind.i64.wrap ((d.Secs.length:Int) - 1)=(d.Secs.length:Int) - 1:=IntWalk.i64_in _ (by omega)
 refine X0 x_i_DevOk.eq_1 ?_
 refine C0 (c_i_within _ _ _) ?_
 cases g1:win (d.Secs.length:Int) 1 64
 ·have e:d.ok=false:=by simp only [DevV.ok,g1,Bool.false_and]
  exact F1 e
 cases g2:decide ((d.Cache.length:Int) > 40)
 ·have g2':decide ((d.Cache.length:Int)≤40)=true:=by rw [gt_le] at g2; simpa using g2
  refine G1 g2 ?_
  refine C0 (c_i_within _ _ _) ?_
  cases g3:win d.Fuse (-1) 1000
  ·have e:d.ok=false:=by simp only [DevV.ok,g3,Bool.and_false,Bool.false_and]
   exact F1 e
  simp -implicitDefEqProofs (maxSteps:=1000000) only [go_sem,true_implies,false_implies,true_and]
  refine loop_of (σ:=Nat) (fun i=>⟨[(1,.bp 1 0),(25,.one (.ro 1 (d.Secs.map (fun y=>[slT false 1 uR y])))),(26,.one (.pv (.int .i64 d.Secs.length))),(27,.one (.pv (.int .i64 i)))],[(1,[.ro 1 (d.Secs.map (fun y=>[slT false 1 uR y])),.ro 2 (d.Cache.map (WrV.enc false)),.pv (.int .i64 d.Fuse),.pv (.bool d.Down)])],[(0,d.enc false)]⟩) (fun i=>i≤d.Secs.length∧(d.Secs.take i).all (secGood)=true) (fun i=>d.Secs.length - i) 0 ?_ ⟨Nat.zero_le _,rfl⟩ ?_
  ·simp -implicitDefEqProofs (maxSteps:=1000000) only [go_sem]
   try rfl
  ·rintro i ⟨hi,hp⟩
   cases q:decide ((i:Int) < (d.Secs.length:Int))
   ·have eS:=all_end (p:=secGood) (show d.Secs.length≤i by simp only [decide_eq_false_iff_not] at q; omega) hp
    refine G1 q ?_
    refine loop_of (σ:=Nat) (fun i=>⟨[(1,.bp 1 0),(36,.one (.ro 2 (d.Cache.map (WrV.enc false)))),(37,.one (.pv (.int .i64 d.Cache.length))),(38,.one (.pv (.int .i64 i)))],[(1,[.ro 1 (d.Secs.map (fun y=>[slT false 1 uR y])),.ro 2 (d.Cache.map (WrV.enc false)),.pv (.int .i64 d.Fuse),.pv (.bool d.Down)])],[(0,d.enc false)]⟩) (fun i=>i≤d.Cache.length∧(d.Cache.take i).all (wrGood d.Secs.length)=true) (fun i=>d.Cache.length - i) 0 ?_ ⟨Nat.zero_le _,rfl⟩ ?_
    ·simp -implicitDefEqProofs (maxSteps:=1000000) only [go_sem]
     try rfl
    ·rintro i ⟨hi,hp⟩
     cases q:decide ((i:Int) < (d.Cache.length:Int))
     ·have eC:=all_end (p:=wrGood d.Secs.length) (show d.Cache.length≤i by simp only [decide_eq_false_iff_not] at q; omega) hp
      refine G1 q ?_
      have e:d.ok=true:=by simp only [DevV.ok,g1,g2',g3,eS,eC,Bool.and_true]
      exact F1 e
     ·have k1:i < d.Cache.length:=by simp only [decide_eq_true_eq] at q; omega
      refine G3 q (List.getElem?_eq_getElem k1) ws ?_
      refine C0 (c_i_within _ _ _) ?_
      cases g:win d.Cache[i].N 0 ((d.Secs.length:Int) - 1)
      ·have gg:wrGood d.Secs.length d.Cache[i]=false:=by simp only [wrGood,g,Bool.false_and]
       have e:d.ok=false:=by simp only [DevV.ok,all_not (p:=wrGood d.Secs.length) k1 gg,Bool.and_false]
       exact F1 e
      ·cases g2:decide ((d.Cache[i].B.length:Int) > 120)
       ·refine G2 g2 (List.getElem?_eq_getElem k1) ?_
        exact ⟨i + 1,by rw [IntWalk.i64_in _ (by omega)]; rfl,⟨k1,all_step (p:=wrGood d.Secs.length) k1 hp (by simp only [wrGood,g,g2,Bool.not_false,Bool.and_true])⟩,by omega⟩
       ·have gg:wrGood d.Secs.length d.Cache[i]=false:=by simp only [wrGood,g2,Bool.not_true,Bool.and_false]
        have e:d.ok=false:=by simp only [DevV.ok,all_not (p:=wrGood d.Secs.length) k1 gg,Bool.and_false]
        exact F3 g2 (List.getElem?_eq_getElem k1) e
   ·have k1:i < d.Secs.length:=by simp only [decide_eq_true_eq] at q; omega
    cases g:decide ((d.Secs[i].length:Int) > 120)
    ·refine G3 q (List.getElem?_eq_getElem k1) g ?_
     exact ⟨i + 1,by rw [IntWalk.i64_in _ (by omega)]; rfl,⟨k1,all_step (p:=secGood) k1 hp (by simp only [secGood,g,Bool.not_false])⟩,by omega⟩
    ·have gg:secGood d.Secs[i]=false:=by simp only [secGood,g,Bool.not_true]
     have e:d.ok=false:=by simp only [DevV.ok,all_not (p:=secGood) k1 gg,Bool.and_false,Bool.false_and]
     exact F4 q (List.getElem?_eq_getElem k1) g e
 ·have g2':decide ((d.Cache.length:Int)≤40)=false:=by rw [gt_le] at g2; simpa using g2
  have e:d.ok=false:=by simp only [DevV.ok,g2',Bool.and_false,Bool.false_and]
  exact F2 g2 e
def x_s_l5Text:FnX:=⟨25,[.tmp 6],
  .q [.op 6 (.mv (.k (.one (.pv (.string ⟨#[]⟩)))))]
 (.q [.op 9 (.bslice 1 []),.m 7 9]
 (.seq (.q [.m 10 0,.m 11 2,.B 12 .add 11 1,.op 13 (.call 96 [5,0] [(.t 10),(.t 12)]),.m 8 13]
 (.block 0 (.loop [0,1,7,8] (.seq (.q [.m 14 8,.B 15 .gtr 14 0]
 (.cond 15 .skip (.exit 0)))
 (.seq (.block 1 (.reg [.m 18 7,.m 19 0,.m 20 1,.op 21 (.call 198 [5,0] [(.t 19),(.t 20)]),.c 22 189 [18,21],.m 7 22]))
 (.reg [.m 16 8,.B 17 .sub 16 1,.m 8 17]))))))
 (.norm [7] (.q [.m 23 7,.op 24 (.conv .b2s (.t 23)),.m 6 24]
 .ret))))⟩
theorem r_s_l5Text {Te:TE} (c_s_l1Below:C_s_l1Below Te) (c_s_l5Sign:C_s_l5Sign Te) (c_s_PutSign:C_s_PutSign Te):∀ (c:CurV) (cs most:Int) (hc:c.ok) (hm:0≤most∧most≤100),∃ r0,(∃ (r:ByteArray) (d:CurV),(r.size≤4 * most.toNat∧d.ok)∧r0=(⟨[.one (sT r)],[d.enc,[iT cs],[iT most]]⟩:Res))∧RunFn Te x_s_l5Text [.ptr c.enc,.one (iT cs),.one (iT most)] r0:=by
 intro c cs most hc hm
 refine some_of (Nat.le_of_ble_eq_true rfl) (by rfl) ?_
 have w1:IntKind.i64.wrap (most + 1)=most + 1:=IntWalk.i64_in _ (by omega)
 simp -implicitDefEqProofs (maxSteps:=1000000) only [x_s_l5Text,go_sem,w1]
 repeat refine ⟨sc,?_⟩
 try exact sf
 obtain ⟨k,d0,⟨hk,hd0⟩,ht⟩:=c_s_l1Below c (most + 1) hc
 have hk1:=hk.2.1 (by omega)
 obtain ⟨K,rfl⟩:∃ K:Nat,k=K:=⟨k.toNat,by omega⟩
 refine C0 (ht) ?_
 refine loop_of (σ:=Nat×List UInt8×CurV) (fun x=>⟨[(0,.bp 0 0),(1,.one (.pv (.int .i64 cs))),(7,.one (.rf 28 0 [] 1 0 x.2.1.length)),(8,.one (.pv (.int .i64 x.1)))],[(0,[.ro 1 (x.2.2.b.map uR),.pv (.int .i64 x.2.2.i),.pv (.int .i64 x.2.2.h)])],[(0,c.enc),(1,[iT cs]),(2,[iT most]),(28,[slT true 1 uR x.2.1])]⟩) (fun x=>x.1≤K∧x.2.1.length≤4 * (K - x.1)∧x.2.2.ok) (fun x=>x.1) (K,[],d0) ?_ ⟨Nat.le_refl _,Nat.zero_le _,hd0⟩ ?_
 ·simp -implicitDefEqProofs (maxSteps:=1000000) only [go_sem]
  rfl
 ·rintro ⟨i,b,d⟩ ⟨hi,hb,hd⟩
  simp only at hi hb hd
  cases q:decide ((i:Int) > 0)
  ·refine G1 q ?_
   have hi0:i=0:=by simp only [decide_eq_false_iff_not] at q; omega
   refine ⟨areBytes_uL b,⟨(bytesOf (b.map uR)).toArray⟩,d,⟨?_,hd⟩,rfl⟩
   show (bytesOf (b.map uR)).length≤_
   rw [bytesOf_uL]
   omega
  ·simp only [decide_eq_true_eq] at q
   have w2:IntKind.i64.wrap ((i:Int) - 1)=((i - 1:Nat):Int):=by rw [IntWalk.i64_in _ (by omega)]; omega
   obtain ⟨r,d1,hd1,ht⟩:=c_s_l5Sign d cs hd
   have q':decide ((i:Int) > 0)=true:=decide_eq_true q
   refine G1 q' ?_
   refine C0 (ht) ?_
   refine C1 (c_s_PutSign b r (by omega)) w2 ?_
   have hl:=putSign_len b r
   exact ⟨(i - 1,putSign b r,d1),rfl,⟨by simp only; omega,by simp only; omega,hd1⟩,by simp only; omega⟩
def x_s_Sum:FnX:=⟨32,[.tmp 2],
  .q [.i 2 0]
 (.q [.i 3 65535]
 (.seq (.q [.i 4 0]
 (.block 0 (.loop [0,3,4] (.seq (.q [.m 6 4,.m 7 0,.n 8 7,.b 9 .lss 6 8]
 (.cond 9 .skip (.exit 0)))
 (.seq (.block 1 (.q [.m 12 3,.m 13 0,.m 14 4,.x 15 1 13 14,.l 16 15,.op 17 (.conv (.int .i64) (.t 16)),.op 18 (.bin .shl (.t 17) (.k (.one (.pv (.int .u64 8))))),.b 19 .xor 12 18,.m 3 19]
 (.q [.i 5 0]
 (.block 2 (.loop [0,3,4,5] (.seq (.q [.m 20 5,.B 21 .lss 20 8]
 (.cond 21 .skip (.exit 2)))
 (.seq (.block 3 (.q [.m 24 3,.op 25 (.bin .shl (.t 24) (.k (.one (.pv (.int .u64 1))))),.m 3 25]
 (.q [.m 26 3,.B 27 .gtr 26 65535]
 (.c 27 (.reg [.m 28 3,.B 29 .xor 28 69665,.m 3 29])))))
 (.reg [.m 22 5,.B 23 .add 22 1,.m 5 23]))))))))
 (.norm [0,3,4] (.reg [.m 10 4,.B 11 .add 10 1,.m 4 11])))))))
 (.norm [3] (.q [.m 30 3,.B 31 .and 30 65535,.m 2 31]
 .ret))))⟩
theorem r_s_Sum {Te:TE}:C_s_Sum (RF Te x_s_Sum):=by
 intro l h
 refine run0 ?_
 simp -implicitDefEqProofs (maxSteps:=1000000) only [x_s_Sum,go_sem]
 refine loop_of (σ:=Nat×Nat) (fun x=>⟨[(0,.one (.ro 1 (l.map uR))),(3,.one (.pv (.int .i64 x.2))),(4,.one (.pv (.int .i64 x.1)))],[],[(0,[slT false 1 uR l])]⟩) (fun x=>x.1≤l.length∧x.2 < 65536∧x.2=(l.take x.1).foldl sumByte 65535) (fun x=>l.length - x.1) (0,65535) ?_ ⟨Nat.zero_le _,by decide,rfl⟩ ?_
 ·simp -implicitDefEqProofs (maxSteps:=1000000) only [go_sem]; rfl
 ·rintro ⟨i,s⟩ ⟨hi,hs,he⟩
  simp only at hi hs he
  simp -implicitDefEqProofs (maxSteps:=1000000) only [go_sem]
  refine ⟨fun h=>?_,fun h=>?_⟩
  ·have hi':i < l.length:=by simp only [decide_eq_true_eq] at h; omega
   have hb:=l[i].toNat_lt
   have e1:IntKind.i64.wrap (l[i].toNat:Int)=(l[i].toNat:Int):=IntWalk.i64_in _ (by omega)
   have e2:IntKind.i64.wrap ((l[i].toNat:Int) * 2 ^ 8)=((256 * l[i].toNat:Nat):Int):=by rw [IntWalk.i64_in _ (by omega)]; omega
   simp -implicitDefEqProofs (maxSteps:=1000000) only [go_sem,List.getElem?_eq_getElem hi',min8,e1,e2,xor_nat s (256 * l[i].toNat) (by omega) (by omega)]
   have hx:=sumX_lt l[i] hs
   have e9:sumByte s l[i]=sumBits 8 (s ^^^ (256 * l[i].toNat)):=rfl
   generalize s ^^^ (256 * l[i].toNat)=S at *
   refine loop_of (σ:=Nat×Nat) (fun x=>⟨[(0,.one (.ro 1 (l.map uR))),(3,.one (.pv (.int .i64 x.2))),(4,.one (.pv (.int .i64 i))),(5,.one (.pv (.int .i64 x.1)))],[],[(0,[slT false 1 uR l])]⟩) (fun x=>x.1≤8∧x.2=sumBits x.1 S) (fun x=>8 - x.1) (0,S) ?_ ⟨Nat.zero_le _,rfl⟩ ?_
   ·simp -implicitDefEqProofs (maxSteps:=1000000) only [go_sem]; rfl
   ·rintro ⟨j,v⟩ ⟨hj,hv⟩
    simp only at hj hv
    have hz:v < 65536:=by rw [hv]; exact sumBits_lt j hx
    have e3:IntKind.i64.wrap ((v:Int) * 2 ^ 1)=((2 * v:Nat):Int):=by rw [IntWalk.i64_in _ (by omega)]; omega
    have e4:=xor_nat (2 * v) 69665 (by omega) (by decide)
    have e5:((69665:Nat):Int)=69665:=rfl
    rw [e5] at e4
    have e6:sumBits (j + 1) S=sumBit v:=by rw [hv]; rfl
    simp -implicitDefEqProofs (maxSteps:=1000000) only [go_sem]
    refine ⟨fun h=>?_,fun h=>?_⟩
    ·have hj':j < 8:=by simp only [decide_eq_true_eq] at h; omega
     simp -implicitDefEqProofs (maxSteps:=1000000) only [go_sem,show Nat.min 1 64=1 from rfl,e3]
     refine ⟨fun h6=>?_,fun h6=>?_⟩
     ·simp -implicitDefEqProofs (maxSteps:=1000000) only [go_sem,e4]
      refine ⟨(j + 1,2 * v ^^^ 69665),by rw [IntWalk.i64_in _ (by omega)]; rfl,⟨hj',?_⟩,by simp only; omega⟩
      rw [e6,sumBit,if_pos (by simp only [decide_eq_true_eq] at h6; omega)]
     ·refine ⟨(j + 1,2 * v),by rw [IntWalk.i64_in _ (by omega)]; rfl,⟨hj',?_⟩,by simp only; omega⟩
      rw [e6,sumBit,if_neg (by simp only [decide_eq_false_iff_not] at h6; omega)]
    ·have hj':j=8:=by simp only [decide_eq_false_iff_not] at h; omega
     subst hj'
     rw [← e9] at hv
     refine ⟨(i + 1,v),by rw [IntWalk.i64_in _ (by omega)]; rfl,⟨hi',hz,?_⟩,by simp only; omega⟩
     simp only
     rw [List.take_succ_eq_append_getElem hi',List.foldl_append,← he,hv,List.foldl_cons,List.foldl_nil]
  ·have hle:l.length≤i:=by simp only [decide_eq_false_iff_not] at h; omega
   rw [List.take_of_length_le hle] at he
   have e7:=and_nat s 65535 (by omega) (by decide)
   have e8:((65535:Nat):Int)=65535:=rfl
   rw [e8] at e7
   simp -implicitDefEqProofs (maxSteps:=1000000) only [go_sem,e7,sum,← he]
def x_i_PutW:FnX:=⟨16,[.tmp 4],
  .q [.op 4 (.mv (.k (.one (.nils 1))))]
 (.q [.m 5 0,.m 6 1,.op 7 (.bin .shr (.t 6) (.k (.one (.pv (.int .u64 8))))),.B 8 .and 7 255,.op 9 (.conv (.int .u8) (.t 8)),.m 10 1,.B 11 .and 10 255,.op 12 (.conv (.int .u8) (.t 11)),.op 13 (.bslice 1 [(.t 9),(.t 12)]),.op 14 (.bslice 1 [(.t 5),(.t 13)]),.c 15 100 [14],.m 4 15]
 .ret)⟩
theorem r_i_PutW {Te:TE} (c_i_joined:C_i_joined Te):C_i_PutW (RF Te x_i_PutW):=by
 intro b n h
 refine run0 ?_
 have e1:mkU (n.fdiv (2 ^ 8))=hiB n:=rfl
 simp -implicitDefEqProofs (maxSteps:=1000000) only [x_i_PutW,go_sem,min8,mkU_wrap,and255,e1]
 refine .of (c_i_joined [b,[hiB n,mkU n]] (by simp; omega) (by simp)) ?_
 have e2:[b,[hiB n,mkU n]].flatten=putW b n:=by simp [putW]
 simp -implicitDefEqProofs (maxSteps:=1000000) only [go_sem,e2]
def x_s_PutW:FnX:=⟨17,[.tmp 4],
  .q [.op 4 (.mv (.k (.one (.nils 1))))]
 (.q [.op 6 (.bslice 1 []),.m 7 0,.op 8 (.app 1 1 (.t 6) (.t 7)),.m 5 8]
 (.q [.m 9 5,.m 10 1,.op 11 (.bin .shr (.t 10) (.k (.one (.pv (.int .u64 8))))),.op 12 (.conv (.int .u8) (.t 11)),.m 13 1,.op 14 (.conv (.int .u8) (.t 13)),.op 15 (.bslice 1 [(.t 12),(.t 14)]),.op 16 (.app 1 1 (.t 9) (.t 15)),.m 4 16]
 .ret))⟩
theorem r_s_PutW {Te:TE}:C_s_PutW (RF Te x_s_PutW):=by
 intro b n h
 refine run0 ?_
 have e1:mkU (n.fdiv (2 ^ 8))=hiB n:=rfl
 have e2:List.take (b.length + 2) (List.map uR b++[[uT (hiB n)],[uT (mkU n)]])=List.map uR (putW b n):=by rw [List.take_of_length_le (by simp)]; simp [putW]
 simp -implicitDefEqProofs (maxSteps:=1000000) only [x_s_PutW,go_sem,min8,mkU_wrap,e1,e2]
 exact ⟨⟨decide_eq_true (by omega),decide_eq_true (by omega)⟩,decide_eq_true (by omega),decide_eq_true (by omega)⟩
def x_s_PutText:FnX:=⟨17,[.tmp 4],
  .q [.op 4 (.mv (.k (.one (.nils 1))))]
 (.seq (.q [.m 5 1,.op 6 (.slen (.t 5)),.B 7 .gtr 6 60]
 (.c 7 (.q [.op 8 (.bslice 1 []),.m 9 0,.op 10 (.app 1 1 (.t 8) (.t 9)),.m 4 10]
 .ret)))
 (.q [.m 11 0,.m 12 1,.op 13 (.slen (.t 12)),.c 14 282 [11,13],.m 15 1,.op 16 (.apps 1 1 (.t 14) (.t 15)),.m 4 16]
 .ret))⟩
theorem r_s_PutText {Te:TE} (c_s_PutW:C_s_PutW Te):C_s_PutText (RF Te x_s_PutText):=by
 intro b t h ht
 refine run0 ?_
 simp -implicitDefEqProofs (maxSteps:=1000000) only [x_s_PutText,go_sem]
 refine ⟨fun q=>?_,fun q=>?_⟩
 ·have q':(t.size:Int) > 60:=by simpa using q
  simp only [putText,if_pos q']
  exact ⟨⟨decide_eq_true (by omega),decide_eq_true (by omega)⟩,trivial⟩
 ·have q':¬ ((t.size:Int) > 60):=by simpa using q
  have q3:t.data.toList.length=t.size:=by rw [Array.length_toList]; rfl
  have el:=putW_len b t.size
  have e1:List.take (b.length + 2) (List.map uR (putW b t.size))=List.map uR (putW b t.size):=List.take_of_length_le (by rw [List.length_map,el]; exact Nat.le_refl _)
  have e2:List.take (b.length + 2 + t.data.toList.length) (List.map uR (putW b t.size)++List.map uR t.data.toList)=List.map uR (putW b t.size++t.data.toList):=by
   rw [List.take_of_length_le (by rw [List.length_append,List.length_map,List.length_map,el]; exact Nat.le_refl _),List.map_append]
  simp only [putText,if_neg q']
  refine .of (c_s_PutW b _ (by omega)) ?_
  try simp -implicitDefEqProofs (maxSteps:=1000000) only [go_sem,ofBytes_eq,el,e1,e2]
  repeat refine ⟨sc,?_⟩
  try exact sf
  try exact decide_eq_true (Nat.le_refl _)
def x_i_PutEuc:FnX:=⟨36,[.tmp 4,.tmp 5],
  .q [.op 4 (.mv (.k (.one (.nils 1)))),.F 5]
 (.seq (.q [.m 9 1,.op 10 (.call 90 [0,0,0] [(.t 9),(.i 0),(.i 127)])]
 (.c 10 (.q [.m 11 0,.m 12 1,.op 13 (.conv (.int .u8) (.t 12)),.op 14 (.bslice 1 [(.t 13)]),.op 15 (.bslice 1 [(.t 11),(.t 14)]),.c 16 100 [15],.m 4 16,.T 5]
 .ret)))
 (.q [.m 18 1,.c 19 385 [18],.m 17 19,.e 20 17 0,.e 21 17 1,.e 22 17 2,.m 6 20,.m 7 21,.m 8 22]
 (.seq (.q [.m 23 8,.N 24 23]
 (.c 24 (.q [.m 25 0,.op 26 (.bslice 1 [(.t 25)]),.c 27 100 [26],.m 4 27,.F 5]
 .ret)))
 (.q [.m 28 0,.m 29 6,.op 30 (.conv (.int .u8) (.t 29)),.m 31 7,.op 32 (.conv (.int .u8) (.t 31)),.op 33 (.bslice 1 [(.t 30),(.t 32)]),.op 34 (.bslice 1 [(.t 28),(.t 33)]),.c 35 100 [34],.m 4 35,.T 5]
 .ret))))⟩
theorem r_i_PutEuc {Te:TE} (c_i_within:C_i_within Te) (c_i_joined:C_i_joined Te) (c_i_SignPair:C_i_SignPair Te):C_i_PutEuc (RF Te x_i_PutEuc):=by
 intro b n hb
 refine X0 x_i_PutEuc.eq_1 ?_
 refine C0 (c_i_within _ _ _) ?_
 cases g:win n 0 127
 ·refine G0 ?_
  refine C0 (c_i_SignPair _) ?_
  cases g2:(signPair n).2.2
  ·have e:putEuc b n=(b,false):=by rw [putEuc,g,g2]; rfl
   refine G1 g2 ?_
   refine .of (c_i_joined [b] (by rw [flat1]; omega) (by show 1≤2 ^ 31; decide)) ?_
   try simp -implicitDefEqProofs (maxSteps:=1000000) only [go_sem,flat1,e,take_rows]
   repeat refine ⟨sc,?_⟩
   try exact sf
   try rfl
  ·have e:putEuc b n=(b++[mkU (signPair n).1,mkU (signPair n).2.1],true):=by rw [putEuc,g,g2]; rfl
   try simp -implicitDefEqProofs (maxSteps:=1000000) only [go_sem,g2,mkU_wrap]
   repeat refine ⟨sc,?_⟩
   try exact sf
   refine .of (c_i_joined [b,[mkU (signPair n).1,mkU (signPair n).2.1]] (by rw [flat2,List.length_append]; simp only [List.length_cons,List.length_nil]; omega) (by show 2≤2 ^ 31; decide)) ?_
   try simp -implicitDefEqProofs (maxSteps:=1000000) only [go_sem,flat2,e,take_rows,take1B,take2B]
   repeat refine ⟨sc,?_⟩
   try exact sf
   try rfl
 ·have e:putEuc b n=(b++[mkU n],true):=by rw [putEuc,g]; rfl
  try simp -implicitDefEqProofs (maxSteps:=1000000) only [go_sem,mkU_wrap]
  repeat refine ⟨sc,?_⟩
  try exact sf
  refine .of (c_i_joined [b,[mkU n]] (by rw [flat2,List.length_append]; simp only [List.length_cons,List.length_nil]; omega) (by show 2≤2 ^ 31; decide)) ?_
  try simp -implicitDefEqProofs (maxSteps:=1000000) only [go_sem,flat2,e,take_rows,take1B,take2B]
  repeat refine ⟨sc,?_⟩
  try exact sf
  try rfl
def x_s_PutEuc:FnX:=⟨36,[.tmp 4,.tmp 5],
  .q [.op 4 (.mv (.k (.one (.nils 1)))),.F 5]
 (.q [.op 10 (.bslice 1 []),.m 11 0,.op 12 (.app 1 1 (.t 10) (.t 11)),.m 6 12]
 (.seq (.q [.m 13 1,.op 14 (.call 120 [0,0,0] [(.t 13),(.i 0),(.i 127)])]
 (.c 14 (.q [.m 15 6,.m 16 1,.op 17 (.conv (.int .u8) (.t 16)),.op 18 (.bslice 1 [(.t 17)]),.op 19 (.app 1 1 (.t 15) (.t 18)),.m 4 19,.T 5]
 .ret)))
 (.q [.m 21 1,.c 22 355 [21],.m 20 22,.e 23 20 0,.e 24 20 1,.e 25 20 2,.m 7 23,.m 8 24,.m 9 25]
 (.seq (.q [.m 26 9,.N 27 26]
 (.c 27 (.q [.m 28 6,.m 4 28,.F 5]
 .ret)))
 (.q [.m 29 6,.m 30 7,.op 31 (.conv (.int .u8) (.t 30)),.m 32 8,.op 33 (.conv (.int .u8) (.t 32)),.op 34 (.bslice 1 [(.t 31),(.t 33)]),.op 35 (.app 1 1 (.t 29) (.t 34)),.m 4 35,.T 5]
 .ret)))))⟩
theorem r_s_PutEuc {Te:TE} (c_s_l1In:C_s_l1In Te) (c_s_SignPair:C_s_SignPair Te):C_s_PutEuc (RF Te x_s_PutEuc):=by
 intro b n hb
 refine X0 x_s_PutEuc.eq_1 ?_
 refine C0 (c_s_l1In _ _ _) ?_
 cases g:win n 0 127
 ·refine G0 ?_
  refine C0 (c_s_SignPair _) ?_
  cases g2:(signPair n).2.2
  ·have e:putEuc b n=(b,false):=by rw [putEuc,g,g2]; rfl
   exact F2 g2 e
  ·have e:putEuc b n=(b++[mkU (signPair n).1,mkU (signPair n).2.1],true):=by rw [putEuc,g,g2]; rfl
   try simp -implicitDefEqProofs (maxSteps:=1000000) only [go_sem,g2,mkU_wrap,app2B,take2B,e,take_rows]
   repeat refine ⟨sc,?_⟩
   try exact sf
   try rfl
 ·have e:putEuc b n=(b++[mkU n],true):=by rw [putEuc,g]; rfl
  try simp -implicitDefEqProofs (maxSteps:=1000000) only [go_sem,mkU_wrap,app1B,take1B,e,take_rows]
  repeat refine ⟨sc,?_⟩
  try exact sf
  try rfl
end Go.X

