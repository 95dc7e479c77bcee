/- Texts: CVt_2 CVzt CUa CVz CVu CVg CVd CVz_2 CVzc CV. -/
import Derived.Test.YtmmjaijeeeilcaaGreatDoorD04
set_option linter.unusedVariables false
set_option linter.unusedSimpArgs false
namespace Go.X
set_option maxRecDepth 100000
set_option maxHeartbeats 8000000
def x_Cs_1:XCode:=.c 36 (.draw [.op 37 (.bslice 7 []),.f 38 6 0,.l 39 38,.m 40 7,.op 41 (.slice 7 (.t 39) none (some (.t 40))),.op 42 (.app 7 96 (.t 37) (.t 41)),.f 43 6 0,.l 44 43,.m 45 7,.B 46 .add 45 1,.op 47 (.slice 7 (.t 44) (some (.t 46)) none),.op 48 (.app 7 96 (.t 42) (.t 47)),.f 49 6 0,.s 100004 1 49 48] [[],[],[1],[],[2,3],[0,4],[],[6],[],[8],[7,9],[5,10,5],[0,1,2,3,4,5,6,7,8,9,10,11],[12,11,11,0,1,2,3,4,5,6,7,8,9,10,11]])
def x_Cs_3:XCode:=.seq (.q [.L 69 3 6,.c 70 206 [69],.N 71 70]
 (.c 71 (.q [.L 72 3 2,.c 73 249 [72],.s 100007 3 4 73,.F 5]
 .ret)))
 (.q [.L 74 3 6,.s 100008 3 4 74,.T 5]
 .ret)
def x_Cs_2:XCode:=.seq (.q [.f 55 3 10,.l 56 55,.B 57 .neq 56 0]
 (.c 57 (.reg [.f 58 6 2,.l 59 58,.f 60 3 10,.l 61 60,.f 62 3 11,.l 63 62,.f 64 3 12,.l 65 64,.op 66 (.build [.i 0,.i 0,.i 0] [(0,1,(.t 61)),(1,1,(.t 63)),(2,1,(.t 65))]),.c 67 278 [59,66],.f 68 6 2,.s 100006 1 68 67])))
 (.norm [2,4,6] (x_Cs_3))
def x_Cs:FnX:=⟨75,[.cell 4 (some 3),.tmp 5],
  .q [.v 2 0,.v 3 1,.op 4 (.alloc [.nils 7,.i 0,.nils 3]),.F 5]
 (.q [.L 8 3 2,.c 9 249 [8],.op 6 (.alloc [.nils 7,.i 0,.nils 3]),.s 100001 3 6 9]
 (.seq (.q [.L 10 3 2,.c 11 206 [10],.N 12 11,.m 13 12,.z 13 (.L 14 13 3),.z 13 (.c 15 276 [14]),.z 13 (.N 16 15),.r 17 13 16]
 (.c 17 (.q [.L 18 3 6,.s 100002 3 4 18,.F 5]
 .ret)))
 (.seq (.q [.f 19 3 0,.l 20 19]
 (.block 0 (.q [.B 22 .eql 20 1,.m 21 22]
 (.cond 21 (.reg [.f 23 6 0,.l 24 23,.f 25 3 1,.L 26 7 25,.op 27 (.call 277 [1,0] [(.t 24),(.t 26)]),.f 28 6 0,.s 100003 1 28 27]) (.q [.B 30 .eql 20 2,.m 29 30]
 (.cond 29 (.q [.L 31 3 6,.f 32 3 8,.l 33 32,.c 34 104 [31,33],.m 7 34]
 (.q [.m 35 7,.B 36 .geq 35 0]
 (.norm [2,3,4,6,7,36] (x_Cs_1)))) (.q [.B 51 .eql 20 3,.m 50 51]
 (.c 50 (.reg [.f 52 3 9,.l 53 52,.f 54 6 1,.s 100005 1 54 53])))))))))
 (.norm [2,3,4,6] (x_Cs_2)))))⟩
theorem r_Cs {Te:TE} (c_En:C_En Te) (c_E8:C_E8 Te) (c_Dv:C_Dv Te) (c_Er:C_Er Te) (c_Dx:C_Dx Te) (c_Eq:C_Eq Te):C_Cs (RF Te x_Cs):=by
 intro t r ht hr
 have hL:=ht.len (by decide)
 have hLr:=(hr.len (by decide))
 have hci:=change_in ht hr
 have h1:=ht.1.1
 have h2:=ht.2
 refine X0 x_Cs.eq_1 ?_
 refine C0 (c_En t hL) ?_
 refine C0 (c_E8 t (ht.mono (by decide))) ?_
 cases g2:t.ok
 ·have e:t.apply r=(t,false):=by rw [TabV.apply,g2]; cases r.ok <;> rfl
  exact F1 e
 refine G0 ?_
 refine C0 (c_Dv r (hr.mono (by decide))) ?_
 cases g1:r.ok
 ·have e:t.apply r=(t,false):=by rw [TabV.apply,g1]; rfl
  exact F1 e
 refine G0 ?_
 rcases rowAt_cases t.Rows r.Key with ⟨e1,e2⟩ | ⟨hk,e1,e2⟩
 ·have ed:=delRows_none e1
  have c1:decide ((-1:Int)≥0)=false:=by decide
  rcases kinds r.Kind with k | k | k | k
  all_goals
   try simp -implicitDefEqProofs (maxSteps:=1000000) only [go_sem,k]
   repeat refine ⟨sc,?_⟩
   try exact sf
  all_goals try (refine .of (c_Dx t r.Key (by omega)) ?_; simp -implicitDefEqProofs (maxSteps:=1000000) only [x_Cs_1,go_sem,e1,c1,take_all,take_marks])
  all_goals try (refine .of (c_Er t.Rows r.R (by omega) hLr) ?_; simp -implicitDefEqProofs (maxSteps:=1000000) only [go_sem,take_all,take_marks])
  all_goals cases w:(r.Who != 0)
  all_goals
   have w':decide (r.Who > 0)=(r.Who != 0):=whoPos g1
   rw [w] at w'
   try simp -implicitDefEqProofs (maxSteps:=1000000) only [x_Cs_2,go_sem,w,take_all,take_marks]
  all_goals try (refine .of (c_Eq t.Marks ⟨r.Who,r.Seq,r.Code⟩ (by omega)) ?_; simp -implicitDefEqProofs (maxSteps:=1000000) only [go_sem,take_all,take_marks])
  all_goals
   have tk:=c_E8 (t.change r) (hci.mono (by decide))
   simp only [TabV.change,TabV.put,k,w',ed,cond_true,cond_false] at tk
   try simp -implicitDefEqProofs (maxSteps:=1000000) only [x_Cs_3,go_sem,take_all,take_marks]
   repeat refine ⟨sc,?_⟩
   try simp -implicitDefEqProofs (maxSteps:=1000000) only [go_sem,take_all,take_marks]
   refine .of tk ?_
   cases g3:(t.change r).ok
  all_goals
   have g4:=g3
   simp only [TabV.change,TabV.put,k,w',ed,cond_true,cond_false] at g4
   try simp -implicitDefEqProofs (maxSteps:=1000000) only [go_sem,g4,take_all,take_marks]
  all_goals try (refine .of (c_En t hL) ?_; have e:t.apply r=(t,false):=(by rw [TabV.apply,g1,g2,g3]; rfl); simp -implicitDefEqProofs (maxSteps:=1000000) only [go_sem,e,take_all,take_marks])
  all_goals try (have e:t.apply r=(t.change r,true):=(by rw [TabV.apply,g1,g2,g3]; rfl); simp -implicitDefEqProofs (maxSteps:=1000000) only [go_sem,e,TabV.change,TabV.put,k,w',ed,cond_true,cond_false,take_all,take_marks])
  all_goals try rfl
 ·have ed:=delRows_ok g2 hk
  generalize rowIx t.Rows r.Key=i at hk e1 e2 ed
  have ew:IntKind.i64.wrap ((i:Int) + 1)=((i + 1:Nat):Int):=IntWalk.i64_in _ (by omega)
  have c1:decide ((i:Int)≥0)=true:=decide_eq_true (by omega)
  have tl:(List.take i (List.map (RowV.enc true) t.Rows)).length=i:=by simp; omega
  have a7:∀ l:List RowV,((List.map (RowV.enc true) l).all fun x=>x.length==7)=true:=fun l=>by simp
  have ta:((List.take i (List.map (RowV.enc true) t.Rows)).all fun x=>x.length==7)=true:=by rw [← List.map_take]; exact a7 _
  have da:((List.drop (i + 1) (List.map (RowV.enc true) t.Rows)).all fun x=>x.length==7)=true:=by rw [← List.map_drop]; exact a7 _
  have dn:(List.drop (i + 1) (List.map (RowV.enc true) t.Rows)).length=t.Rows.length - (i + 1):=by simp
  have tt:List.take (t.Rows.length - (i + 1)) (List.drop (i + 1) (List.map (RowV.enc true) t.Rows))=List.drop (i + 1) (List.map (RowV.enc true) t.Rows):=List.take_of_length_le (by rw [dn]; omega)
  have gd:List.drop (i + 1) (goneRows (List.map (RowV.enc true) t.Rows) 0 i)=List.drop (i + 1) (List.map (RowV.enc true) t.Rows):=by
   simp only [goneRows,List.take_zero,List.nil_append,List.drop_zero,Nat.zero_add]
   rw [List.drop_append,List.drop_of_length_le (by simp; omega),List.nil_append,List.drop_drop]
   congr 1
   simp
   omega
  have gl:(goneRows (List.map (RowV.enc true) t.Rows) 0 i).length=t.Rows.length:=by simp [goneRows]; omega
  have ti:List.take i (List.take i (List.map (RowV.enc true) t.Rows))=List.take i (List.map (RowV.enc true) t.Rows):=List.take_of_length_le (by omega)
  have b1:decide ((i + (t.Rows.length - (i + 1))) * 96≤140737488355328)=true:=decide_eq_true (by omega)
  have b2:decide (i + (t.Rows.length - (i + 1))≤4294967296)=true:=decide_eq_true (by omega)
  have b3:decide (i≤i)=true:=decide_eq_true (Nat.le_refl i)
  have ap:List.take i (List.map (RowV.enc true) t.Rows)++List.drop (i + 1) (List.map (RowV.enc true) t.Rows)=List.map (RowV.enc true) (List.take i t.Rows++List.drop (i + 1) t.Rows):=by rw [List.map_append,List.map_take,List.map_drop]
  have tkA:List.take (i + (t.Rows.length - (i + 1))) (List.map (RowV.enc true) (List.take i t.Rows++List.drop (i + 1) t.Rows))=List.map (RowV.enc true) (List.take i t.Rows++List.drop (i + 1) t.Rows):=List.take_of_length_le (by rw [List.length_map,List.length_append,List.length_take,List.length_drop]; omega)
  have tkB:List.take ((List.take i t.Rows).length + (List.drop (i + 1) t.Rows).length) (List.map (RowV.enc true) (List.take i t.Rows++List.drop (i + 1) t.Rows))=List.map (RowV.enc true) (List.take i t.Rows++List.drop (i + 1) t.Rows):=List.take_of_length_le (by rw [List.length_map,List.length_append]; exact Nat.le_refl _)
  rcases kinds r.Kind with k | k | k | k
  all_goals
   try simp -implicitDefEqProofs (maxSteps:=1000000) only [go_sem,k]
   repeat refine ⟨sc,?_⟩
   try exact sf
  all_goals try (refine .of (c_Dx t r.Key (by omega)) ?_; simp -implicitDefEqProofs (maxSteps:=1000000) only [x_Cs_1,go_sem,e1,c1,ew,take_all,take_marks])
  all_goals try (cases f1:flat (List.take i (List.map (RowV.enc true) t.Rows)) <;> cases f2:flat (List.drop (i + 1) (List.map (RowV.enc true) t.Rows)) <;> simp -implicitDefEqProofs (maxSteps:=1000000) only [go_sem,Nat.sub_zero,f1,f2,tl,ta,da,dn,tt,gd,gl,ap,e1,c1,ew,ti,b1,b2,b3,take_all,take_marks])
  all_goals
   repeat refine ⟨sc,?_⟩
  all_goals try (refine .of (c_Er t.Rows r.R (by omega) hLr) ?_; simp -implicitDefEqProofs (maxSteps:=1000000) only [go_sem,take_all,take_marks])
  all_goals cases w:(r.Who != 0)
  all_goals
   have w':decide (r.Who > 0)=(r.Who != 0):=whoPos g1
   rw [w] at w'
   try simp -implicitDefEqProofs (maxSteps:=1000000) only [x_Cs_2,go_sem,w,take_all,take_marks]
  all_goals try (refine .of (c_Eq t.Marks ⟨r.Who,r.Seq,r.Code⟩ (by omega)) ?_; simp -implicitDefEqProofs (maxSteps:=1000000) only [go_sem,take_all,take_marks])
  all_goals
   have tk:=c_E8 (t.change r) (hci.mono (by decide))
   simp only [TabV.change,TabV.put,k,w',ed,cond_true,cond_false] at tk
   try simp -implicitDefEqProofs (maxSteps:=1000000) only [x_Cs_3,go_sem,take_all,take_marks]
   repeat refine ⟨sc,?_⟩
   try simp -implicitDefEqProofs (maxSteps:=1000000) only [go_sem,tkA,tkB,take_all,take_marks]
   try refine ⟨⟨decide_eq_true (by rw [List.length_take,List.length_drop]; omega),by first | simp -implicitDefEqProofs (maxSteps:=1000000) only [go_sem] | (rw [← List.map_take]; simp -implicitDefEqProofs (maxSteps:=1000000) only [go_sem])⟩,?_⟩
   try refine ⟨decide_eq_true (by rw [List.length_take,List.length_drop]; omega),?_⟩
   refine .of tk ?_
   cases g3:(t.change r).ok
  all_goals
   have g4:=g3
   simp only [TabV.change,TabV.put,k,w',ed,cond_true,cond_false] at g4
   try simp -implicitDefEqProofs (maxSteps:=1000000) only [go_sem,g4,take_all,take_marks]
  all_goals try (refine .of (c_En t hL) ?_; have e:t.apply r=(t,false):=(by rw [TabV.apply,g1,g2,g3]; rfl); simp -implicitDefEqProofs (maxSteps:=1000000) only [go_sem,e,take_all,take_marks])
  all_goals try (have e:t.apply r=(t.change r,true):=(by rw [TabV.apply,g1,g2,g3]; rfl); simp -implicitDefEqProofs (maxSteps:=1000000) only [go_sem,e,TabV.change,TabV.put,k,w',ed,cond_true,cond_false,take_all,take_marks])
  all_goals try refine ⟨decide_eq_true (by rw [List.length_take,List.length_drop]; omega),?_⟩
  all_goals try rw [tkA]
  all_goals try rw [tkB]
  all_goals try rfl
def x_Ev:FnX:=⟨46,[.cell 4 (some 9)],
  .q [.op 4 (.alloc [.nils 1,.nils 2,.i 0,.F,.nils 7,.i 0,.nils 3,.i 0,.i 0])]
 (.q [.m 6 0,.m 7 1,.op 8 (.call 262 [5,0] [(.t 6),(.t 7)]),.op 5 (.alloc [.nils 1,.nils 2,.i 0,.F,.nils 7,.i 0,.nils 3,.i 0,.i 0]),.s 100001 9 5 8]
 (.seq (.q [.m 9 0,.op 10 (.call 96 [5,0] [(.t 9),(.i 14)])]
 (.block 0 (.q [.B 12 .eql 10 0,.m 11 12]
 (.cond 11 (.reg [.m 13 0,.op 14 (.call 263 [5] [(.t 13)]),.f 15 5 0,.s 100002 4 15 14]) (.q [.B 17 .eql 10 1,.m 16 17]
 (.cond 16 (.reg [.m 18 0,.op 19 (.call 264 [5,0] [(.t 18),(.i 4)]),.f 20 5 4,.s 100003 3 20 19]) (.q [.B 22 .eql 10 2,.m 21 22]
 (.cond 21 (.reg [.m 23 0,.op 24 (.bslice 1 [(.i 0),(.i 59999),(.i 60000),(.i 60001),(.i (-1))]),.op 25 (.call 70 [5,1] [(.t 23),(.t 24)]),.f 26 5 7,.s 100004 1 26 25]) (.q [.B 28 .eql 10 3,.m 27 28]
 (.cond 27 (.reg [.m 29 0,.op 30 (.bslice 1 [(.i (-1)),(.i 30),(.i 31)]),.op 31 (.call 70 [5,1] [(.t 29),(.t 30)]),.f 32 5 8,.s 100005 1 32 31]) (.seq (.q [.B 34 .eql 10 4,.m 33 34]
 (.cond 33 .skip (.reg [.B 35 .eql 10 5,.m 33 35])))
 (.cond 33 (.reg [.m 36 0,.op 37 (.bslice 1 [(.i 0),(.i 1),(.i 2),(.i 5)]),.op 38 (.call 70 [5,1] [(.t 36),(.t 37)]),.f 39 5 0,.f 40 39 2,.s 100006 1 40 38]) (.q [.B 42 .eql 10 6,.m 41 42]
 (.c 41 (.reg [.f 43 5 0,.f 44 43 3,⟨none,none,100007,.store 1 (.t 44) .T⟩])))))))))))))))
 (.q [.L 45 9 5,.s 100008 9 4 45]
 .ret)))⟩
theorem r_Ev {Te:TE} (c_Ey:C_Ey Te) (c_Fk:C_Fk Te) (c_Eb:C_Eb Te) (c_Em:C_Em Te) (c_Fp:C_Fp Te):∀ (c:CurV) (hc:c.ok),∃ r0,(∃ (s:StoreV) (d:CurV),((s.In (2 ^ 20)∧s.far30)∧d.ok)∧r0=(⟨[.agg (s.enc true)],[d.enc,[iT 4]]⟩:Res))∧RunFn Te x_Ev [.ptr c.enc,.one (iT 4)] r0:=by
 intro c hc
 refine some_of (Nat.le_of_ble_eq_true rfl) (by rfl) ?_
 have e:∀ j k:Int,k≠j→(k==j)=false:=fun j k h=>by simpa using h
 simp -implicitDefEqProofs (maxSteps:=1000000) only [x_Ev,go_sem]
 repeat refine ⟨sc,?_⟩
 try exact sf
 obtain ⟨s,d,⟨hs,hd⟩,ht⟩:=c_Ey c hc
 obtain ⟨h1,_,_,h4,h5⟩:=hs
 obtain ⟨hD,hT⟩:=StoreV.ok_in h1
 have hf:s.far30:=fun e=>by omega
 refine C0 (ht) ?_
 obtain ⟨k,d,⟨_,hd⟩,ht⟩:=c_Fk d 14 hd
 by_cases q0:k=0
 ·subst q0
  obtain ⟨x,d,⟨hx,hd⟩,ht1⟩:=c_Eb d hd
  refine C0 (ht) ?_
  refine C0 (ht1) ?_
  exact ⟨⟨x,s.T,s.Gen,s.Place⟩,d,⟨⟨⟨hx,hT⟩,hf⟩,hd⟩,rfl⟩
 by_cases q1:k=1
 ·subst q1
  obtain ⟨x,d,⟨hx,hd⟩,ht1⟩:=c_Em d hd
  refine C0 (ht) ?_
  refine C0 (ht1) ?_
  exact ⟨⟨s.D,x,s.Gen,s.Place⟩,d,⟨⟨⟨hD,hx⟩,hf⟩,hd⟩,rfl⟩
 by_cases q2:k=2
 ·subst q2
  obtain ⟨r,d,⟨_,hd⟩,ht1⟩:=c_Fp d [0,59999,60000,60001,-1] hd (by decide)
  refine C0 (ht) ?_
  refine C0 (ht1) ?_
  exact ⟨⟨s.D,s.T,r,s.Place⟩,d,⟨⟨⟨hD,hT⟩,fun (e:s.Place=30)=>by omega⟩,hd⟩,rfl⟩
 by_cases q3:k=3
 ·subst q3
  obtain ⟨r,d,⟨_,hd⟩,ht1⟩:=c_Fp d [-1,30,31] hd (by decide)
  refine C0 (ht) ?_
  refine C0 (ht1) ?_
  exact ⟨⟨s.D,s.T,s.Gen,r⟩,d,⟨⟨⟨hD,hT⟩,fun _=>by show s.Gen < 60000; omega⟩,hd⟩,rfl⟩
 by_cases q4:k=4
 ·subst q4
  obtain ⟨r,d,⟨_,hd⟩,ht1⟩:=c_Fp d [0,1,2,5] hd (by decide)
  refine C0 (ht) ?_
  refine C0 (ht1) ?_
  exact ⟨⟨⟨s.D.Secs,s.D.Cache,r,s.D.Down⟩,s.T,s.Gen,s.Place⟩,d,⟨⟨⟨hD,hT⟩,hf⟩,hd⟩,rfl⟩
 by_cases q5:k=5
 ·subst q5
  obtain ⟨r,d,⟨_,hd⟩,ht1⟩:=c_Fp d [0,1,2,5] hd (by decide)
  refine C0 (ht) ?_
  refine C0 (ht1) ?_
  exact ⟨⟨⟨s.D.Secs,s.D.Cache,r,s.D.Down⟩,s.T,s.Gen,s.Place⟩,d,⟨⟨⟨hD,hT⟩,hf⟩,hd⟩,rfl⟩
 by_cases q6:k=6
 ·subst q6
  refine C0 (ht) ?_
  exact ⟨⟨⟨s.D.Secs,s.D.Cache,s.D.Fuse,true⟩,s.T,s.Gen,s.Place⟩,d,⟨⟨⟨hD,hT⟩,hf⟩,hd⟩,rfl⟩
 refine .of (ht) ?_
 try simp -implicitDefEqProofs (maxSteps:=1000000) only [go_sem,e 0 k q0,e 1 k q1,e 2 k q2,e 3 k q3,e 4 k q4,e 5 k q5,e 6 k q6]
 repeat refine ⟨sc,?_⟩
 try exact sf
 exact ⟨s,d,⟨⟨⟨hD,hT⟩,hf⟩,hd⟩,rfl⟩
def x_F0:FnX:=⟨35,[.cell 4 (some 10)],
  .q [.op 4 (.alloc [.nils 1,.nils 2,.i 0,.F,.nils 7,.i 0,.nils 3,.i 0,.i 0,.i 0])]
 (.q [.m 6 0,.m 7 1,.op 8 (.call 81 [5,0] [(.t 6),(.t 7)]),.op 5 (.alloc [.nils 1,.nils 2,.i 0,.F,.nils 7,.i 0,.nils 3,.i 0,.i 0,.i 0]),.s 100001 10 5 8]
 (.seq (.q [.m 9 0,.op 10 (.call 96 [5,0] [(.t 9),(.i 12)])]
 (.block 0 (.q [.B 12 .eql 10 0,.m 11 12]
 (.cond 11 (.reg [.m 13 0,.op 14 (.call 118 [5] [(.t 13)]),.f 15 5 9,.s 100002 1 15 14]) (.q [.B 17 .eql 10 1,.m 16 17]
 (.cond 16 (.reg [.m 18 0,.op 19 (.call 180 [5,0] [(.t 18),(.i 4)]),.f 20 5 0,.s 100003 9 20 19]) (.q [.B 22 .eql 10 2,.m 21 22]
 (.cond 21 (.reg [.m 23 0,.op 24 (.bslice 1 [(.i 0),(.i 1),(.i 2)]),.op 25 (.call 70 [5,1] [(.t 23),(.t 24)]),.f 26 5 0,.f 27 26 0,.f 28 27 2,.s 100004 1 28 25]) (.q [.B 30 .eql 10 3,.m 29 30]
 (.c 29 (.reg [.f 31 5 0,.f 32 31 0,.f 33 32 3,⟨none,none,100005,.store 1 (.t 33) .T⟩])))))))))))
 (.q [.L 34 10 5,.s 100006 10 4 34]
 .ret)))⟩
theorem r_F0 {Te:TE} (c_F3:C_F3 Te) (c_Fk:C_Fk Te) (c_Fz:C_Fz Te) (c_Ev:C_Ev Te) (c_Fp:C_Fp Te):∀ (c:CurV) (most:Int) (hc:c.ok) (hm:0≤most∧most≤16),∃ r0,(∃ (n:NodeV) (d:CurV),((n.In (2 ^ 20)∧n.S.far30)∧d.ok)∧r0=(⟨[.agg (n.enc true)],[d.enc,[iT most]]⟩:Res))∧RunFn Te x_F0 [.ptr c.enc,.one (iT most)] r0:=by
 intro c most hc hm
 refine some_of (Nat.le_of_ble_eq_true rfl) (by rfl) ?_
 have e:∀ j k:Int,k≠j→(k==j)=false:=fun j k h=>by simpa using h
 simp -implicitDefEqProofs (maxSteps:=1000000) only [x_F0,go_sem]
 repeat refine ⟨sc,?_⟩
 try exact sf
 obtain ⟨n,d,⟨hn,hd⟩,ht⟩:=c_F3 c most hc hm
 obtain ⟨hu,_,hg,_⟩:=hn
 have hI:=up_in hu
 have hf:n.S.far30:=fun _=>by omega
 refine C0 (ht) ?_
 obtain ⟨k,d,⟨_,hd⟩,ht⟩:=c_Fk d 12 hd
 by_cases q0:k=0
 ·subst q0
  obtain ⟨r,d,hd,ht1⟩:=c_Fz d hd
  refine C0 (ht) ?_
  refine C0 (ht1) ?_
  exact ⟨⟨n.S,r⟩,d,⟨⟨hI,hf⟩,hd⟩,rfl⟩
 by_cases q1:k=1
 ·subst q1
  obtain ⟨s,d,⟨⟨hs,hsf⟩,hd⟩,ht1⟩:=c_Ev d hd
  refine C0 (ht) ?_
  refine C0 (ht1) ?_
  exact ⟨⟨s,n.Cs⟩,d,⟨⟨hs,hsf⟩,hd⟩,rfl⟩
 by_cases q2:k=2
 ·subst q2
  obtain ⟨r,d,⟨_,hd⟩,ht1⟩:=c_Fp d [0,1,2] hd (by decide)
  refine C0 (ht) ?_
  refine C0 (ht1) ?_
  exact ⟨⟨⟨⟨n.S.D.Secs,n.S.D.Cache,r,n.S.D.Down⟩,n.S.T,n.S.Gen,n.S.Place⟩,n.Cs⟩,d,⟨⟨hI,hf⟩,hd⟩,rfl⟩
 by_cases q3:k=3
 ·subst q3
  refine C0 (ht) ?_
  exact ⟨⟨⟨⟨n.S.D.Secs,n.S.D.Cache,n.S.D.Fuse,true⟩,n.S.T,n.S.Gen,n.S.Place⟩,n.Cs⟩,d,⟨⟨hI,hf⟩,hd⟩,rfl⟩
 refine .of (ht) ?_
 try simp -implicitDefEqProofs (maxSteps:=1000000) only [go_sem,e 0 k q0,e 1 k q1,e 2 k q2,e 3 k q3]
 repeat refine ⟨sc,?_⟩
 try exact sf
 exact ⟨n,d,⟨⟨hI,hf⟩,hd⟩,rfl⟩
def x_Fq:FnX:=⟨6,[.tmp 2],
  .q [.op 2 (.mv (.k (.one (.pv (.string ⟨#[]⟩)))))]
 (.q [.m 3 0,.op 4 (.bslice 1 [(.k (.one (.pv (.string ⟨#[97]⟩)))),(.k (.one (.pv (.string ⟨#[98]⟩)))),(.k (.one (.pv (.string ⟨#[99]⟩)))),(.k (.one (.pv (.string ⟨#[100]⟩)))),(.k (.one (.pv (.string ⟨#[101,53]⟩))))]),.op 5 (.call 114 [5,1] [(.t 3),(.t 4)]),.m 2 5]
 .ret)⟩
theorem r_Fq {Te:TE} (c_Fu:C_Fu Te):∀ (c:CurV) (hc:c.ok),∃ r0,(∃ (r:ByteArray) (d:CurV),(r.size≤6∧d.ok)∧r0=(⟨[.one (sT r)],[d.enc]⟩:Res))∧RunFn Te x_Fq [.ptr c.enc] r0:=by
 intro c hc
 refine some_of (Nat.le_of_ble_eq_true rfl) (by rfl) ?_
 simp -implicitDefEqProofs only [x_Fq,go_sem]
 repeat refine ⟨sc,?_⟩
 try exact sf
 obtain ⟨r,d,⟨hr,hd⟩,ht⟩:=c_Fu c [⟨#[97]⟩,⟨#[98]⟩,⟨#[99]⟩,⟨#[100]⟩,⟨#[101,53]⟩] hc (by decide)
 refine C0 (ht) ?_
 exact ⟨r,d,⟨str_small 6 hr (by decide),hd⟩,rfl⟩
def x_Fv:FnX:=⟨6,[.tmp 2],
  .q [.op 2 (.mv (.k (.one (.pv (.string ⟨#[]⟩)))))]
 (.q [.m 3 0,.op 4 (.bslice 1 [(.k (.one (.pv (.string ⟨#[]⟩)))),(.k (.one (.pv (.string ⟨#[97]⟩)))),(.k (.one (.pv (.string ⟨#[98,49]⟩)))),(.k (.one (.pv (.string ⟨#[115,105,120,108,101,116]⟩)))),(.k (.one (.pv (.string ⟨#[115,101,118,101,110,108,101]⟩)))),(.k (.one (.pv (.string ⟨#[65]⟩)))),(.k (.one (.pv (.string ⟨#[97,32,98]⟩)))),(.k (.one (.pv (.string ⟨#[0]⟩)))),(.k (.one (.pv (.string ⟨#[104,101,108,108,111]⟩))))]),.op 5 (.call 114 [5,1] [(.t 3),(.t 4)]),.m 2 5]
 .ret)⟩
theorem r_Fv {Te:TE} (c_Fu:C_Fu Te):∀ (c:CurV) (hc:c.ok),∃ r0,(∃ (r:ByteArray) (d:CurV),(r.size≤7∧d.ok)∧r0=(⟨[.one (sT r)],[d.enc]⟩:Res))∧RunFn Te x_Fv [.ptr c.enc] r0:=by
 intro c hc
 refine some_of (Nat.le_of_ble_eq_true rfl) (by rfl) ?_
 simp -implicitDefEqProofs only [x_Fv,go_sem]
 repeat refine ⟨sc,?_⟩
 try exact sf
 obtain ⟨r,d,⟨hr,hd⟩,ht⟩:=c_Fu c [⟨#[]⟩,⟨#[97]⟩,⟨#[98,49]⟩,⟨#[115,105,120,108,101,116]⟩,⟨#[115,101,118,101,110,108,101]⟩,⟨#[65]⟩,⟨#[97,32,98]⟩,⟨#[0]⟩,⟨#[104,101,108,108,111]⟩] hc (by decide)
 refine C0 (ht) ?_
 exact ⟨r,d,⟨str_small 7 hr (by decide),hd⟩,rfl⟩
def x_Fs:FnX:=⟨6,[.tmp 2],
  .q [.i 2 0]
 (.q [.m 3 0,.op 4 (.bslice 1 [(.i 0),(.i 1),(.i 7),(.i 255),(.i 256),(.i 4660),(.i 65535),(.i 65536),(.i (-1)),(.i 9223372036854775807),(.i (-9223372036854775808))]),.op 5 (.call 70 [5,1] [(.t 3),(.t 4)]),.m 2 5]
 .ret)⟩
theorem r_Fs {Te:TE} (c_Fp:C_Fp Te):∀ (c:CurV) (hc:c.ok),∃ r0,(∃ (r:Int) (d:CurV),(d.ok)∧r0=(⟨[.one (iT r)],[d.enc]⟩:Res))∧RunFn Te x_Fs [.ptr c.enc] r0:=by
 intro c hc
 refine some_of (Nat.le_of_ble_eq_true rfl) (by rfl) ?_
 simp -implicitDefEqProofs only [x_Fs,go_sem]
 repeat refine ⟨sc,?_⟩
 try exact sf
 obtain ⟨r,d,⟨hr,hd⟩,ht⟩:=c_Fp c [0,1,7,255,256,4660,65535,65536,-1,9223372036854775807,-9223372036854775808] hc (by decide)
 refine C0 (ht) ?_
 exact ⟨r,d,hd,rfl⟩
def x_Fy:FnX:=⟨6,[.tmp 2],
  .q [.i 2 0]
 (.q [.m 3 0,.op 4 (.bslice 1 [(.i 0),(.i 97),(.i 90),(.i 127),(.i 128),(.i 164),(.i 233),(.i 2047),(.i 2048),(.i 8364),(.i 1072),(.i 1102),(.i 1025),(.i 12354),(.i 12450),(.i 352),(.i 65535),(.i 65536),(.i 1114111)]),.op 5 (.call 70 [5,1] [(.t 3),(.t 4)]),.m 2 5]
 .ret)⟩
theorem r_Fy {Te:TE} (c_Fp:C_Fp Te):∀ (c:CurV) (hc:c.ok),∃ r0,(∃ (r:Int) (d:CurV),(d.ok)∧r0=(⟨[.one (iT r)],[d.enc]⟩:Res))∧RunFn Te x_Fy [.ptr c.enc] r0:=by
 intro c hc
 refine some_of (Nat.le_of_ble_eq_true rfl) (by rfl) ?_
 simp -implicitDefEqProofs only [x_Fy,go_sem]
 repeat refine ⟨sc,?_⟩
 try exact sf
 obtain ⟨r,d,⟨hr,hd⟩,ht⟩:=c_Fp c [0,97,90,127,128,164,233,2047,2048,8364,1072,1102,1025,12354,12450,352,65535,65536,1114111] hc (by decide)
 refine C0 (ht) ?_
 exact ⟨r,d,hd,rfl⟩
def x_G8:FnX:=⟨27,[.tmp 4],
  .q [.i 4 0]
 (.seq (.q [.m 7 1,.B 8 .eql 7 0]
 (.c 8 (.q [.m 9 0,.op 10 (.call 287 [5] [(.t 9)]),.m 4 10]
 .ret)))
 (.seq (.q [.m 11 1,.B 12 .eql 11 5]
 (.c 12 (.q [.m 13 0,.op 14 (.bslice 1 [(.i 97),(.i 32),(.i 12353),(.i 12435),(.i 12449),(.i 12534),(.i 12354)]),.op 15 (.call 70 [5,1] [(.t 13),(.t 14)]),.m 4 15]
 .ret)))
 (.q [.m 17 1,.m 18 0,.op 19 (.bslice 1 [(.i 65),(.i 97),(.i 32),(.i 164),(.i 192),(.i 200),(.i 228),(.i 255),(.i 163),(.i 128),(.i 130),(.i 189)]),.op 20 (.call 70 [5,1] [(.t 18),(.t 19)]),.c 21 274 [17,20],.m 16 21,.e 22 16 0,.e 23 16 1,.m 5 22,.m 6 23]
 (.seq (.q [.m 24 6,.N 25 24]
 (.c 25 (.q [.i 4 120]
 .ret)))
 (.q [.m 26 5,.m 4 26]
 .ret)))))⟩
theorem r_G8 {Te:TE} (c_Fy:C_Fy Te) (c_Fp:C_Fp Te) (c_Cu:C_Cu Te):∀ (c:CurV) (cs:Int) (hc:c.ok),∃ r0,(∃ (r:Int) (d:CurV),(d.ok)∧r0=(⟨[.one (iT r)],[d.enc,[iT cs]]⟩:Res))∧RunFn Te x_G8 [.ptr c.enc,.one (iT cs)] r0:=by
 intro c cs hc
 refine some_of (Nat.le_of_ble_eq_true rfl) (by rfl) ?_
 cases g0:(cs==0)
 ·cases g5:(cs==5)
  ·simp -implicitDefEqProofs only [x_G8,go_sem,g0,g5]
   repeat refine ⟨sc,?_⟩
   try exact sf
   obtain ⟨r,d,⟨hr,hd⟩,ht⟩:=c_Fp c [65,97,32,164,192,200,228,255,163,128,130,189] hc (by decide)
   refine C0 (ht) ?_
   refine C0 (c_Cu cs r) ?_
   cases g:(byteSign cs r).2
   ·refine G1 g ?_
    exact ⟨120,d,hd,rfl⟩
   ·refine G1 g ?_
    exact ⟨_,d,hd,rfl⟩
  ·simp -implicitDefEqProofs only [x_G8,go_sem,g0,g5]
   repeat refine ⟨sc,?_⟩
   try exact sf
   obtain ⟨r,d,⟨hr,hd⟩,ht⟩:=c_Fp c [97,32,12353,12435,12449,12534,12354] hc (by decide)
   refine C0 (ht) ?_
   exact ⟨r,d,hd,rfl⟩
 ·simp -implicitDefEqProofs only [x_G8,go_sem,g0]
  repeat refine ⟨sc,?_⟩
  try exact sf
  obtain ⟨r,d,hd,ht⟩:=c_Fy c hc
  refine C0 (ht) ?_
  exact ⟨r,d,hd,rfl⟩
def x_Ae:FnX:=⟨31,[.cell 2 (some 7)],
  .q [.v 1 0,.op 2 (.alloc [.e,.i 0,.nils 1,.i 0,.nils 1,.i 0,.F])]
 (.q [.L 6 7 1,.c 7 252 [6],.op 3 (.alloc [.e,.i 0,.nils 1,.i 0,.nils 1,.i 0,.F]),.s 100001 7 3 7]
 (.seq (.q [.L 8 7 1,.c 9 253 [8],.N 10 9,.m 11 10,.z 11 (.f 12 1 5),.z 11 (.l 13 12),.z 11 (.B 14 .neq 13 1),.r 15 11 14]
 (.c 15 (.q [.L 16 7 3,.s 100002 7 2 16]
 .ret)))
 (.q [.f 18 1 1,.L 19 2 18,.op 20 (.call 254 [0,0] [(.t 19),(.i 0)]),.m 17 20,.e 21 17 0,.e 22 17 1,.op 4 (.alloc [.i 0,.nils 1]),.s 100003 2 4 21,.m 5 22]
 (.seq (.q [.m 23 5,.N 24 23]
 (.c 24 (.q [.f 25 3 6,⟨none,none,100004,.store 1 (.t 25) .T⟩]
 (.q [.L 26 7 3,.s 100005 7 2 26]
 .ret))))
 (.q [.L 27 2 4,.f 28 3 3,.s 100006 2 28 27,.f 29 3 5,⟨none,none,100007,.store 1 (.t 29) (.i 3)⟩]
 (.q [.L 30 7 3,.s 100008 7 2 30]
 .ret))))))⟩
theorem r_Ae {Te:TE} (c_Bs:C_Bs Te) (c_B6:C_B6 Te) (c_Bg:C_Bg Te):C_Ae (RF Te x_Ae):=by
 intro r h
 have hL:=h.len (by decide)
 refine X0 x_Ae.eq_1 ?_
 refine C0 (c_Bs r hL) ?_
 refine C0 (c_B6 r (h.mono (by decide))) ?_
 cases g1:r.ok
 ·have e:=fill_no (r:=r) (by rw [g1]; rfl)
  exact F1 e
 cases g2:(r.Has==1)
 ·have e:=fill_no (r:=r) (by rw [g1,g2]; rfl)
  try simp -implicitDefEqProofs (maxSteps:=1000000) only [go_sem,bne_eq,g2,e,take_rows]
  repeat refine ⟨sc,?_⟩
  try exact sf
  try rfl
 have g3:(r.ok&&(r.Has==1))=true:=by rw [g1,g2]; rfl
 try simp -implicitDefEqProofs (maxSteps:=1000000) only [go_sem,bne_eq,g2,take_rows]
 repeat refine ⟨sc,?_⟩
 try exact sf
 refine C0 (c_Bg r.Old 0 hL.1 (Nat.le_trans text_size (by decide))) ?_
 cases g4:(r.Old.turn 0).2
 ·have e:=fill_bad g3 g4
  exact F2 g4 e
 ·have e:=fill_yes g3 g4
  exact F2 g4 e
def x_D7:FnX:=⟨30,[.cell 2 (some 7)],
  .q [.v 1 0,.op 2 (.alloc [.e,.i 0,.nils 1,.i 0,.nils 1,.i 0,.F])]
 (.q [.L 6 7 1,.c 7 288 [6],.op 3 (.alloc [.e,.i 0,.nils 1,.i 0,.nils 1,.i 0,.F]),.s 100001 7 3 7]
 (.seq (.q [.L 8 7 1,.c 9 289 [8],.N 10 9,.m 11 10,.z 11 (.L 12 7 1),.z 11 (.c 13 196 [12]),.r 14 11 13]
 (.c 14 (.q [.L 15 7 3,.s 100002 7 2 15]
 .ret)))
 (.q [.f 17 1 1,.L 18 2 17,.op 19 (.call 290 [0,0] [(.t 18),(.i 0)]),.m 16 19,.e 20 16 0,.e 21 16 1,.op 4 (.alloc [.i 0,.nils 1]),.s 100003 2 4 20,.m 5 21]
 (.seq (.q [.m 22 5,.N 23 22]
 (.c 23 (.q [.f 24 3 6,⟨none,none,100004,.store 1 (.t 24) .T⟩]
 (.q [.L 25 7 3,.s 100005 7 2 25]
 .ret))))
 (.q [.L 26 2 4,.f 27 3 3,.s 100006 2 27 26]
 (.q [.f 28 3 5,⟨none,none,100007,.store 1 (.t 28) (.i 3)⟩]
 (.q [.L 29 7 3,.s 100008 7 2 29]
 .ret)))))))⟩
theorem r_D7 {Te:TE} (c_Ge:C_Ge Te) (c_Dz:C_Dz Te) (c_Gg:C_Gg Te) (c_E9:C_E9 Te):C_D7 (RF Te x_D7):=by
 intro r h
 have hL:=h.len (by decide)
 refine X0 x_D7.eq_1 ?_
 refine C0 (c_Ge r hL) ?_
 refine C0 (c_Dz r (h.mono (by decide))) ?_
 cases g1:r.ok
 ·have e:=fill_no (r:=r) (by rw [g1]; rfl)
  exact F1 e
 refine G0 ?_
 refine C0 (c_Gg r (rowOk_13 g1)) ?_
 cases g2:(r.Has==1)
 ·have e:=fill_no (r:=r) (by rw [g1,g2]; rfl)
  have g5:decide (r.Has≠1)=true:=decide_eq_true (by simpa using g2)
  exact F2 g5 e
 have g3:(r.ok&&(r.Has==1))=true:=by rw [g1,g2]; rfl
 have g5:decide (r.Has≠1)=false:=decide_eq_false (by simpa using g2)
 refine G1 g5 ?_
 refine C0 (c_E9 r.Old 0 hL.1 (Nat.le_trans text_size (by decide))) ?_
 cases g4:(r.Old.turn 0).2
 ·have e:=fill_bad g3 g4
  exact F2 g4 e
 ·have e:=fill_yes g3 g4
  exact F2 g4 e
def x_A8:FnX:=⟨18,[.cell 2 (some 7)],
  .q [.v 1 0,.op 2 (.alloc [.e,.i 0,.nils 1,.i 0,.nils 1,.i 0,.F])]
 (.q [.L 4 7 1,.c 5 252 [4],.op 3 (.alloc [.e,.i 0,.nils 1,.i 0,.nils 1,.i 0,.F]),.s 100001 7 3 5]
 (.seq (.q [.L 6 7 1,.c 7 253 [6],.m 8 7,.y 8 (.f 9 1 5),.y 8 (.l 10 9),.y 8 (.B 11 .neq 10 1),.a 12 8 11]
 (.c 12 (.reg [.op 13 (.build [.i 0,.nils 1] []),.f 14 3 1,.s 100002 2 14 13,.f 15 3 5,⟨none,none,100003,.store 1 (.t 15) (.i 2)⟩,.f 16 3 6,⟨none,none,100004,.store 1 (.t 16) .F⟩])))
 (.q [.L 17 7 3,.s 100005 7 2 17]
 .ret)))⟩
theorem r_A8 {Te:TE} (c_Bs:C_Bs Te) (c_B6:C_B6 Te):C_A8 (RF Te x_A8):=by
 intro r h
 have hL:=h.len (by decide)
 refine X0 x_A8.eq_1 ?_
 refine C0 (c_Bs r hL) ?_
 refine C0 (c_B6 r (h.mono (by decide))) ?_
 cases g1:r.ok
 ·have e:=cut_no (r:=r) (by rw [g1]; rfl)
  exact F1 e
 cases g2:(r.Has==1)
 ·have e:=cut_yes (r:=r) (by rw [g1,g2]; rfl)
  try simp -implicitDefEqProofs (maxSteps:=1000000) only [go_sem,bne_eq,g2,e,take_rows]
  repeat refine ⟨sc,?_⟩
  try exact sf
  try rfl
 ·have e:=cut_no (r:=r) (by rw [g1,g2]; rfl)
  try simp -implicitDefEqProofs (maxSteps:=1000000) only [go_sem,bne_eq,g2,e,take_rows]
  repeat refine ⟨sc,?_⟩
  try exact sf
  try rfl
def x_Cy:FnX:=⟨20,[.cell 2 (some 7)],
  .q [.v 1 0,.op 2 (.alloc [.e,.i 0,.nils 1,.i 0,.nils 1,.i 0,.F])]
 (.q [.L 4 7 1,.c 5 288 [4],.op 3 (.alloc [.e,.i 0,.nils 1,.i 0,.nils 1,.i 0,.F]),.s 100001 7 3 5]
 (.seq (.q [.L 6 7 1,.c 7 289 [6],.N 8 7,.m 9 8,.z 9 (.L 10 7 1),.z 9 (.c 11 196 [10]),.z 9 (.N 12 11),.r 13 9 12]
 (.c 13 (.q [.L 14 7 3,.s 100002 7 2 14]
 .ret)))
 (.q [.f 15 1 0,.l 16 15,.f 17 3 3,.L 18 2 17,.op 19 (.build [.e,.i 0,.nils 1,.i 0,.nils 1,.i 0,.F] [(0,1,(.t 16)),(3,2,(.t 18)),(5,1,(.i 2))]),.s 100003 7 2 19]
 .ret)))⟩
theorem r_Cy {Te:TE} (c_Ge:C_Ge Te) (c_Dz:C_Dz Te) (c_Gg:C_Gg Te):C_Cy (RF Te x_Cy):=by
 intro r h
 have hL:=h.len (by decide)
 refine X0 x_Cy.eq_1 ?_
 refine C0 (c_Ge r hL) ?_
 refine C0 (c_Dz r (h.mono (by decide))) ?_
 cases g1:r.ok
 ·have e:=cut_no (r:=r) (by rw [g1]; rfl)
  exact F1 e
 refine G0 ?_
 refine C0 (c_Gg r (rowOk_13 g1)) ?_
 cases g2:(r.Has==1)
 ·have e:=cut_yes (r:=r) (by rw [g1,g2]; rfl)
  have g5:decide (r.Has≠1)=true:=decide_eq_true (by simpa using g2)
  exact F2 g5 e
 ·have e:=cut_no (r:=r) (by rw [g1,g2]; rfl)
  have g5:decide (r.Has≠1)=false:=decide_eq_false (by simpa using g2)
  exact F2 g5 e
def x_A3:FnX:=⟨24,[.cell 2 (some 7)],
  .q [.v 1 0,.op 2 (.alloc [.e,.i 0,.nils 1,.i 0,.nils 1,.i 0,.F])]
 (.q [.L 4 7 1,.c 5 252 [4],.op 3 (.alloc [.e,.i 0,.nils 1,.i 0,.nils 1,.i 0,.F]),.s 100001 7 3 5]
 (.seq (.block 0 (.q [.L 7 7 1,.c 8 253 [7],.N 9 8,.m 6 9]
 (.cond 6 .skip (.q [.f 11 1 5,.l 12 11,.B 13 .eql 12 3,.m 10 13]
 (.cond 10 (.reg [.op 14 (.build [.i 0,.nils 1] []),.f 15 3 3,.s 100002 2 15 14,.f 16 3 5,⟨none,none,100003,.store 1 (.t 16) (.i 1)⟩,.f 17 3 6,⟨none,none,100004,.store 1 (.t 17) .F⟩]) (.q [.f 19 1 5,.l 20 19,.B 21 .eql 20 2,.m 18 21]
 (.c 18 (.reg [.f 22 3 6,⟨none,none,100005,.store 1 (.t 22) .T⟩]))))))))
 (.q [.L 23 7 3,.s 100006 7 2 23]
 .ret)))⟩
theorem r_A3 {Te:TE} (c_Bs:C_Bs Te) (c_B6:C_B6 Te):C_A3 (RF Te x_A3):=by
 intro r h
 have hL:=h.len (by decide)
 refine X0 x_A3.eq_1 ?_
 refine C0 (c_Bs r hL) ?_
 refine C0 (c_B6 r (h.mono (by decide))) ?_
 cases g1:r.ok
 ·have e:r.back=r:=by rw [RowV.back,g1]; rfl
  exact F1 e
 cases g3:(r.Has==3)
 ·cases g2:(r.Has==2)
  ·have e:r.back=r:=by rw [RowV.back,g1,g3,g2]; rfl
   exact F3 g3 g2 e
  ·have e:r.back=⟨r.Key,r.Old,r.New,r.Has,true⟩:=by rw [RowV.back,g1,g3,g2]; rfl
   exact F3 g3 g2 e
 ·have e:r.back=⟨r.Key,r.Old,⟨0,[]⟩,1,false⟩:=by rw [RowV.back,g1,g3]; rfl
  exact F2 g3 e
def x_Ai:FnX:=⟨44,[.cell 2 (some 9)],
  .q [.v 1 0,.op 2 (.alloc [.nils 1,.nils 2,.i 0,.F,.nils 7,.i 0,.nils 3,.i 0,.i 0])]
 (.q [.L 5 9 1,.c 6 158 [5],.op 3 (.alloc [.nils 1,.nils 2,.i 0,.F,.nils 7,.i 0,.nils 3,.i 0,.i 0]),.s 100001 9 3 6]
 (.seq (.q [.L 7 9 1,.c 8 89 [7],.N 9 8,.m 10 9,.z 10 (.f 11 1 0),.z 10 (.f 12 11 3),.z 10 (.l 13 12),.r 14 10 13,.m 15 14,.z 15 (.f 16 1 7),.z 15 (.l 17 16),.z 15 (.B 18 .eql 17 60000),.r 19 15 18]
 (.c 19 (.q [.L 20 9 3,.s 100002 9 2 20]
 .ret)))
 (.q [.f 21 1 4,.L 22 3 21,.c 23 207 [22],.m 4 23]
 (.q [.f 24 1 0,.L 25 4 24,.f 26 1 7,.l 27 26,.B 28 .add 27 1,.m 29 4,.c 30 208 [25,28,29],.f 31 3 0,.s 100003 4 31 30]
 (.seq (.q [.f 32 3 0,.f 33 32 3,.l 34 33,.N 35 34]
 (.c 35 (.reg [.f 36 1 7,.l 37 36,.B 38 .add 37 1,.m 39 4,.n 40 39,.f 41 3 7,.s 100004 1 41 38,.f 42 3 8,.s 100005 1 42 40])))
 (.q [.L 43 9 3,.s 100006 9 2 43]
 .ret))))))⟩
theorem r_Ai {Te:TE} (c_Bt:C_Bt Te) (c_Bd:C_Bd Te) (c_B2:C_B2 Te) (c_C3:C_C3 Te):C_Ai (RF Te x_Ai):=by
 intro s h
 have hL:=h.len (by decide)
 have hLT:=h.2.len (by decide)
 obtain ⟨hr1,hr2⟩:=recsOf_le h.2
 refine X0 x_Ai.eq_1 ?_
 refine C0 (c_Bt s hL) ?_
 refine C0 (c_Bd s (h.mono (by decide))) ?_
 cases g1:s.ok
 ·have e:s.relay=s:=by rw [StoreV.relay,g1]; rfl
  try simp -implicitDefEqProofs (maxSteps:=1000000) only [go_sem,e,take_all,take_marks,StoreV.enc]
  repeat refine ⟨sc,?_⟩
  try exact sf
  try rfl
 obtain ⟨hk,_,_,_,hg,_⟩:=(StoreV.ok_iff s).1 g1
 cases g2:s.D.Down
 rotate_left
 ·have e:s.relay=s:=by rw [StoreV.relay,g1,g2]; rfl
  try simp -implicitDefEqProofs (maxSteps:=1000000) only [go_sem,g2,e,take_all,take_marks,StoreV.enc]
  repeat refine ⟨sc,?_⟩
  try exact sf
  try rfl
 cases g3:(s.Gen==60000)
 rotate_left
 ·have e:s.relay=s:=by rw [StoreV.relay,g1,g2,g3]; rfl
  try simp -implicitDefEqProofs (maxSteps:=1000000) only [go_sem,g2,g3,e,take_all,take_marks,StoreV.enc]
  repeat refine ⟨sc,?_⟩
  try exact sf
  try rfl
 have e:s.relay=s.lay (s.Gen + 1):=by rw [StoreV.relay,g1,g2,g3]; rfl
 have ew:IntKind.i64.wrap (s.Gen + 1)=s.Gen + 1:=IntWalk.i64_in _ (by omega)
 refine G2 g2 g3 ?_
 refine C0 (c_B2 s.T hLT) ?_
 have tl:=c_C3 s.D (s.Gen + 1) (recsOf s.T) hk ⟨hr1,hr2⟩
 simp only [DevV.enc,g2] at tl
 refine G1 ew ?_
 refine C0 (tl) ?_
 cases g4:(layDev (s.Gen + 1) (recsOf s.T) s.D).Down
 ·have e2:=lay_up (s:=s) (gen:=s.Gen + 1) g4
  try simp -implicitDefEqProofs (maxSteps:=1000000) only [go_sem,g4,e,e2,ew,take_all,take_marks,StoreV.enc]
  repeat refine ⟨sc,?_⟩
  try exact sf
  try rfl
 ·have e2:=lay_down (s:=s) (gen:=s.Gen + 1) g4
  try simp -implicitDefEqProofs (maxSteps:=1000000) only [go_sem,g4,e,e2,ew,g2,take_all,take_marks,StoreV.enc]
  repeat refine ⟨sc,?_⟩
  try exact sf
  try rfl
def x_Ab:FnX:=⟨57,[.tmp 2],
  .q [.v 1 0,.F 2]
 (.seq (.q [.f 7 1 0,.l 8 7,.n 9 8,.op 10 (.call 90 [0,0,0] [(.t 9),(.i 1),(.i 64)]),.N 11 10,.m 12 11,.z 12 (.f 13 1 1),.z 12 (.l 14 13),.z 12 (.n 15 14),.z 12 (.B 16 .gtr 15 40),.r 17 12 16,.m 18 17,.z 18 (.f 19 1 2),.z 18 (.l 20 19),.z 18 (.op 21 (.call 90 [0,0,0] [(.t 20),(.i (-1)),(.i 1000)])),.z 18 (.N 22 21),.r 23 18 22]
 (.c 23 (.q [.F 2]
 .ret)))
 (.seq (.q [.f 24 1 0,.l 25 24,.n 26 25,.i 27 0]
 (.block 0 (.loop [1,25,26,27] (.q [.b 28 .lss 27 26]
 (.seq (.cond 28 .skip (.exit 0))
 (.seq (.block 1 (.q [.x 29 1 25 27,.l 30 29,.m 4 30]
 (.q [.m 31 4,.n 32 31,.B 33 .gtr 32 120]
 (.c 33 (.q [.F 2]
 .ret)))))
 (.reg [.B 34 .add 27 1,.m 27 34])))))))
 (.norm [1] (.seq (.q [.f 35 1 1,.l 36 35,.n 37 36,.i 38 0]
 (.block 2 (.loop [1,36,37,38] (.q [.b 39 .lss 38 37]
 (.seq (.cond 39 .skip (.exit 2))
 (.seq (.block 3 (.q [.x 40 2 36 38,.L 41 2 40,.op 6 (.alloc [.i 0,.nils 1]),.s 100001 2 6 41]
 (.q [.f 42 6 0,.l 43 42,.f 44 1 0,.l 45 44,.n 46 45,.B 47 .sub 46 1,.op 48 (.call 90 [0,0,0] [(.t 43),(.i 0),(.t 47)]),.N 49 48,.m 50 49,.z 50 (.f 51 6 1),.z 50 (.l 52 51),.z 50 (.n 53 52),.z 50 (.B 54 .gtr 53 120),.r 55 50 54]
 (.c 55 (.q [.F 2]
 .ret)))))
 (.reg [.B 56 .add 38 1,.m 38 56])))))))
 (.norm [] (.q [.T 2]
 .ret))))))⟩
theorem r_Ab {Te:TE} (c_Ch:C_Ch Te):C_Ab (RF Te x_Ab):=by
 intro d h
 obtain ⟨⟨hl,hS⟩,hl2,hC⟩:=h
 have ws:IntKind.i64.wrap ((d.Secs.length:Int) - 1)=(d.Secs.length:Int) - 1:=IntWalk.i64_in _ (by omega)
 refine X0 x_Ab.eq_1 ?_
 refine C0 (c_Ch _ _ _) ?_
 cases g1:win (d.Secs.length:Int) 1 64
 ·have e:d.ok=false:=by simp only [DevV.ok,g1,Bool.false_and]
  exact F1 e
 cases g2:decide ((d.Cache.length:Int) > 40)
 ·have g2':decide ((d.Cache.length:Int)≤40)=true:=by rw [gt_le] at g2; simpa using g2
  refine G1 g2 ?_
  refine C0 (c_Ch _ _ _) ?_
  cases g3:win d.Fuse (-1) 1000
  ·have e:d.ok=false:=by simp only [DevV.ok,g3,Bool.and_false,Bool.false_and]
   exact F1 e
  simp -implicitDefEqProofs (maxSteps:=1000000) only [go_sem,true_implies,false_implies,true_and]
  refine loop_of (σ:=Nat) (fun i=>⟨[(1,.bp 1 0),(25,.one (.ro 1 (d.Secs.map (fun y=>[slT false 1 uR y])))),(26,.one (.pv (.int .i64 d.Secs.length))),(27,.one (.pv (.int .i64 i)))],[(1,[.ro 1 (d.Secs.map (fun y=>[slT false 1 uR y])),.ro 2 (d.Cache.map (WrV.enc false)),.pv (.int .i64 d.Fuse),.pv (.bool d.Down)])],[(0,d.enc false)]⟩) (fun i=>i≤d.Secs.length∧(d.Secs.take i).all (secGood)=true) (fun i=>d.Secs.length - i) 0 ?_ ⟨Nat.zero_le _,rfl⟩ ?_
  ·simp -implicitDefEqProofs (maxSteps:=1000000) only [go_sem]
   try rfl
  ·rintro i ⟨hi,hp⟩
   cases q:decide ((i:Int) < (d.Secs.length:Int))
   ·have eS:=all_end (p:=secGood) (show d.Secs.length≤i by simp only [decide_eq_false_iff_not] at q; omega) hp
    refine G1 q ?_
    refine loop_of (σ:=Nat) (fun i=>⟨[(1,.bp 1 0),(36,.one (.ro 2 (d.Cache.map (WrV.enc false)))),(37,.one (.pv (.int .i64 d.Cache.length))),(38,.one (.pv (.int .i64 i)))],[(1,[.ro 1 (d.Secs.map (fun y=>[slT false 1 uR y])),.ro 2 (d.Cache.map (WrV.enc false)),.pv (.int .i64 d.Fuse),.pv (.bool d.Down)])],[(0,d.enc false)]⟩) (fun i=>i≤d.Cache.length∧(d.Cache.take i).all (wrGood d.Secs.length)=true) (fun i=>d.Cache.length - i) 0 ?_ ⟨Nat.zero_le _,rfl⟩ ?_
    ·simp -implicitDefEqProofs (maxSteps:=1000000) only [go_sem]
     try rfl
    ·rintro i ⟨hi,hp⟩
     cases q:decide ((i:Int) < (d.Cache.length:Int))
     ·have eC:=all_end (p:=wrGood d.Secs.length) (show d.Cache.length≤i by simp only [decide_eq_false_iff_not] at q; omega) hp
      refine G1 q ?_
      have e:d.ok=true:=by simp only [DevV.ok,g1,g2',g3,eS,eC,Bool.and_true]
      exact F1 e
     ·have k1:i < d.Cache.length:=by simp only [decide_eq_true_eq] at q; omega
      refine G3 q (List.getElem?_eq_getElem k1) ws ?_
      refine C0 (c_Ch _ _ _) ?_
      cases g:win d.Cache[i].N 0 ((d.Secs.length:Int) - 1)
      ·have gg:wrGood d.Secs.length d.Cache[i]=false:=by simp only [wrGood,g,Bool.false_and]
       have e:d.ok=false:=by simp only [DevV.ok,all_not (p:=wrGood d.Secs.length) k1 gg,Bool.and_false]
       exact F1 e
      ·cases g2:decide ((d.Cache[i].B.length:Int) > 120)
       ·refine G2 g2 (List.getElem?_eq_getElem k1) ?_
        exact ⟨i + 1,by rw [IntWalk.i64_in _ (by omega)]; rfl,⟨k1,all_step (p:=wrGood d.Secs.length) k1 hp (by simp only [wrGood,g,g2,Bool.not_false,Bool.and_true])⟩,by omega⟩
       ·have gg:wrGood d.Secs.length d.Cache[i]=false:=by simp only [wrGood,g2,Bool.not_true,Bool.and_false]
        have e:d.ok=false:=by simp only [DevV.ok,all_not (p:=wrGood d.Secs.length) k1 gg,Bool.and_false]
        exact F3 g2 (List.getElem?_eq_getElem k1) e
   ·have k1:i < d.Secs.length:=by simp only [decide_eq_true_eq] at q; omega
    cases g:decide ((d.Secs[i].length:Int) > 120)
    ·refine G3 q (List.getElem?_eq_getElem k1) g ?_
     exact ⟨i + 1,by rw [IntWalk.i64_in _ (by omega)]; rfl,⟨k1,all_step (p:=secGood) k1 hp (by simp only [secGood,g,Bool.not_false])⟩,by omega⟩
    ·have gg:secGood d.Secs[i]=false:=by simp only [secGood,g,Bool.not_true]
     have e:d.ok=false:=by simp only [DevV.ok,all_not (p:=secGood) k1 gg,Bool.and_false,Bool.false_and]
     exact F4 q (List.getElem?_eq_getElem k1) g e
 ·have g2':decide ((d.Cache.length:Int)≤40)=false:=by rw [gt_le] at g2; simpa using g2
  have e:d.ok=false:=by simp only [DevV.ok,g2',Bool.and_false,Bool.false_and]
  exact F2 g2 e
def x_A6:FnX:=⟨12,[.tmp 2],
  .q [.v 1 0,.F 2]
 (.q [.f 3 1 0,.l 4 3,.c 5 184 [4],.m 6 5,.y 6 (.f 7 1 1),.y 6 (.l 8 7),.y 6 (.n 9 8),.y 6 (.B 10 .leq 9 20),.a 11 6 10,.m 2 11]
 .ret)⟩
theorem r_A6 {Te:TE} (c_By:C_By Te):C_A6 (RF Te x_A6):=by
 intro c
 refine run0 ?_
 simp -implicitDefEqProofs (maxSteps:=1000000) only [x_A6,go_sem,CellV.ok]
 repeat refine ⟨sc,?_⟩
 try exact sf
 refine C0 (c_By _) ?_
 cases g:win c.Tag 0 5
 ·exact F1 g
 ·exact F1 g
def x_A7:FnX:=⟨14,[.tmp 2,.tmp 3],
  .q [.v 1 0,.op 2 (.mv (.k (.one (.pv (.string ⟨#[]⟩))))),.F 3]
 (.seq (.q [.L 4 2 1,.c 5 261 [4],.N 6 5]
 (.c 6 (.q [.op 2 (.mv (.k (.one (.pv (.string ⟨#[]⟩))))),.F 3]
 .ret)))
 (.q [.f 7 1 0,.l 8 7,.f 9 1 1,.l 10 9,.c 11 99 [8,10],.e 12 11 0,.e 13 11 1,.m 2 12,.m 3 13]
 .ret))⟩
theorem r_A7 {Te:TE} (c_A6:C_A6 Te) (c_A9:C_A9 Te):C_A7 (RF Te x_A7):=by
 intro c
 refine X0 x_A7.eq_1 ?_
 refine C0 (c_A6 c) ?_
 cases g:c.ok
 ·have e:c.text=(⟨#[]⟩,false):=by rw [CellV.text,g]; rfl
  exact F1 e
 ·have e:c.text=decode c.Tag c.B:=by rw [CellV.text,g]; rfl
  refine G1 e ?_
  exact D1 (c_A9 c.Tag c.B (by have:=CellV.ok_len g; omega)) e
def x_B8:FnX:=⟨28,[.tmp 4],
  .q [.v 2 0,.v 3 1,.F 4]
 (.q [.L 10 2 2,.c 11 177 [10],.m 9 11,.e 12 9 0,.e 13 9 1,.m 5 12,.m 6 13]
 (.q [.L 15 2 3,.c 16 177 [15],.m 14 16,.e 17 14 0,.e 18 14 1,.m 7 17,.m 8 18]
 (.q [.m 19 6,.m 20 19,.y 20 (.m 21 8),.a 22 20 21,.m 23 22,.y 23 (.m 24 5),.y 23 (.m 25 7),.y 23 (.b 26 .eql 24 25),.a 27 23 26,.m 4 27]
 .ret)))⟩
theorem r_B8 {Te:TE} (c_A7:C_A7 Te):C_B8 (RF Te x_B8):=by
 intro a c
 refine run0 ?_
 simp -implicitDefEqProofs (maxSteps:=1000000) only [x_B8,go_sem,sameText]
 repeat refine ⟨sc,?_⟩
 try exact sf
 refine C0 (c_A7 a) ?_
 refine C0 (c_A7 c) ?_
 cases g1:a.text.2
 ·exact F1 g1
 ·cases g2:c.text.2
  ·exact F2 g1 g2
  ·try simp -implicitDefEqProofs (maxSteps:=1000000) only [go_sem,g1,g2,bytes_beq]
   repeat refine ⟨sc,?_⟩
   try exact sf
def x_Cw:FnX:=⟨12,[.tmp 2],
  .q [.v 1 0,.F 2]
 (.q [.f 3 1 0,.l 4 3,.c 5 187 [4],.m 6 5,.y 6 (.f 7 1 1),.y 6 (.l 8 7),.y 6 (.n 9 8),.y 6 (.B 10 .leq 9 20),.a 11 6 10,.m 2 11]
 .ret)⟩
theorem r_Cw {Te:TE} (c_G5:C_G5 Te):C_Cw (RF Te x_Cw):=by
 intro c
 refine run0 ?_
 simp -implicitDefEqProofs (maxSteps:=1000000) only [x_Cw,go_sem,CellV.ok]
 repeat refine ⟨sc,?_⟩
 try exact sf
 refine C0 (c_G5 _) ?_
 cases g:win c.Tag 0 5
 ·exact F1 g
 ·exact F1 g
def x_Cx:FnX:=⟨14,[.tmp 2,.tmp 3],
  .q [.v 1 0,.op 2 (.mv (.k (.one (.pv (.string ⟨#[]⟩))))),.F 3]
 (.seq (.q [.L 4 2 1,.c 5 286 [4],.N 6 5]
 (.c 6 (.q [.op 2 (.mv (.k (.one (.pv (.string ⟨#[]⟩))))),.F 3]
 .ret)))
 (.q [.f 7 1 0,.l 8 7,.f 9 1 1,.l 10 9,.c 11 102 [8,10],.e 12 11 0,.e 13 11 1,.m 2 12,.m 3 13]
 .ret))⟩
theorem r_Cx {Te:TE} (c_Cw:C_Cw Te) (c_Cz:C_Cz Te):C_Cx (RF Te x_Cx):=by
 intro c
 refine X0 x_Cx.eq_1 ?_
 refine C0 (c_Cw c) ?_
 cases g:c.ok
 ·have e:c.text=(⟨#[]⟩,false):=by rw [CellV.text,g]; rfl
  exact F1 e
 ·have e:c.text=decode c.Tag c.B:=by rw [CellV.text,g]; rfl
  refine G1 e ?_
  exact D1 (c_Cz c.Tag c.B (by have:=CellV.ok_len g; omega)) e
def x_E1:FnX:=⟨28,[.tmp 4],
  .q [.v 2 0,.v 3 1,.F 4]
 (.q [.L 10 2 2,.c 11 197 [10],.m 9 11,.e 12 9 0,.e 13 9 1,.m 5 12,.m 6 13]
 (.q [.L 15 2 3,.c 16 197 [15],.m 14 16,.e 17 14 0,.e 18 14 1,.m 7 17,.m 8 18]
 (.q [.m 19 6,.m 20 19,.y 20 (.m 21 8),.a 22 20 21,.m 23 22,.y 23 (.m 24 5),.y 23 (.m 25 7),.y 23 (.b 26 .eql 24 25),.a 27 23 26,.m 4 27]
 .ret)))⟩
theorem r_E1 {Te:TE} (c_Cx:C_Cx Te):C_E1 (RF Te x_E1):=by
 intro a c
 refine run0 ?_
 simp -implicitDefEqProofs (maxSteps:=1000000) only [x_E1,go_sem,sameText]
 repeat refine ⟨sc,?_⟩
 try exact sf
 refine C0 (c_Cx a) ?_
 refine C0 (c_Cx c) ?_
 cases g1:a.text.2
 ·exact F1 g1
 ·cases g2:c.text.2
  ·exact F2 g1 g2
  ·try simp -implicitDefEqProofs (maxSteps:=1000000) only [go_sem,g1,g2,bytes_beq]
   repeat refine ⟨sc,?_⟩
   try exact sf
def x_C9:FnX:=⟨19,[.tmp 4],
  .q [.v 2 0,.v 3 1,.F 4]
 (.q [.f 5 2 0,.l 6 5,.f 7 3 0,.l 8 7,.b 9 .eql 6 8,.m 10 9,.y 10 (.f 11 2 1),.y 10 (.l 12 11),.y 10 (.op 13 (.conv .b2s (.t 12))),.y 10 (.f 14 3 1),.y 10 (.l 15 14),.y 10 (.op 16 (.conv .b2s (.t 15))),.y 10 (.b 17 .eql 13 16),.a 18 10 17,.m 4 18]
 .ret)⟩
theorem r_C9 {Te:TE}:C_C9 (RF Te x_C9):=by
 intro a c
 refine run0 ?_
 cases g:(a.Tag==c.Tag)
 ·simp -implicitDefEqProofs (maxSteps:=1000000) only [x_C9,go_sem,g]
  repeat refine ⟨sc,?_⟩
  try exact sf
 ·have ea:=areBytes_uR a.B
  have ec:=areBytes_uR c.B
  have fa:=bytesOf_uR a.B
  have fc:=bytesOf_uR c.B
  simp -implicitDefEqProofs (maxSteps:=1000000) only [x_C9,go_sem,g,ea,ec,fa,fc,bytes_beq,bytes_lists]
  repeat refine ⟨sc,?_⟩
  try exact sf
def x_Gh:FnX:=⟨12,[.tmp 2],
  .q [.v 1 0,.F 2]
 (.q [.f 3 1 0,.l 4 3,.B 5 .eql 4 0,.m 6 5,.y 6 (.f 7 1 1),.y 6 (.l 8 7),.y 6 (.n 9 8),.y 6 (.B 10 .eql 9 0),.a 11 6 10,.m 2 11]
 .ret)⟩
theorem r_Gh {Te:TE}:C_Gh (RF Te x_Gh):=by
 intro c
 refine run0 ?_
 cases g:(c.Tag==0)
 ·simp -implicitDefEqProofs (maxSteps:=1000000) only [x_Gh,go_sem,CellV.no,g]
  repeat refine ⟨sc,?_⟩
  try exact sf
 ·simp -implicitDefEqProofs (maxSteps:=1000000) only [x_Gh,go_sem,CellV.no,g,none_len]
  repeat refine ⟨sc,?_⟩
  try exact sf
def x_Am:FnX:=⟨27,[.tmp 2],
  .q [.F 2]
 (.seq (.q [.i 3 0]
 (.block 0 (.loop [0,3] (.seq (.q [.m 4 3,.m 5 0,.op 6 (.slen (.t 5)),.b 7 .lss 4 6]
 (.cond 7 .skip (.exit 0)))
 (.seq (.block 1 (.q [.m 10 0,.m 11 3,.op 12 (.sidx (.t 10) (.t 11)),.op 13 (.conv (.int .i64) (.t 12)),.op 14 (.call 90 [0,0,0] [(.t 13),(.i 97),(.i 122)]),.N 15 14,.m 16 15,.y 16 (.m 17 0),.y 16 (.m 18 3),.y 16 (.op 19 (.sidx (.t 17) (.t 18))),.y 16 (.op 20 (.conv (.int .i64) (.t 19))),.y 16 (.op 21 (.call 90 [0,0,0] [(.t 20),(.i 48),(.i 57)])),.y 16 (.N 22 21),.a 23 16 22]
 (.c 23 (.q [.F 2]
 .ret))))
 (.reg [.m 8 3,.B 9 .add 8 1,.m 3 9]))))))
 (.norm [0] (.q [.m 24 0,.op 25 (.slen (.t 24)),.op 26 (.call 90 [0,0,0] [(.t 25),(.i 1),(.i 6)]),.m 2 26]
 .ret)))⟩
theorem r_Am {Te:TE} (c_Ch:C_Ch Te):C_Am (RF Te x_Am):=by
 intro s h
 refine run0 ?_
 have hsz:s.data.toList.length=s.size:=by rw [Array.length_toList]; rfl
 simp -implicitDefEqProofs (maxSteps:=1000000) only [x_Am,go_sem,nameOk]
 repeat refine ⟨sc,?_⟩
 try exact sf
 refine loop_of (σ:=Nat) (fun i=>⟨[(0,.one (.pv (.string s))),(3,.one (.pv (.int .i64 i)))],[],[(0,[sT s])]⟩) (fun i=>i≤s.size∧(s.data.toList.take i).all nameCh=true) (fun i=>s.size - i) 0 ?_ ⟨Nat.zero_le _,rfl⟩ ?_
 ·simp -implicitDefEqProofs (maxSteps:=1000000) only [go_sem]; rfl
 ·rintro i ⟨hi,hp⟩
  cases q:decide ((i:Int) < (s.size:Int))
  ·have e:=all_end (p:=nameCh) (show s.data.toList.length≤i by simp only [decide_eq_false_iff_not] at q; omega) hp
   refine G1 q ?_
   exact D1 (c_Ch _ _ _) e
  ·have hi':i < s.size:=by simp only [decide_eq_true_eq] at q; omega
   have hi2:i < s.data.toList.length:=by omega
   have q1:decide (i < s.size)=true:=decide_eq_true hi'
   have eg:s.data.toList.getD i 0=s.data.toList[i]:=by rw [List.getD_eq_getElem?_getD,List.getElem?_eq_getElem hi2]; rfl
   have hb:=s.data.toList[i].toNat_lt
   have w1:IntKind.i64.wrap ((s.data.toList[i].toNat:Nat):Int)=(s.data.toList[i].toNat:Nat):=IntWalk.i64_in _ (by omega)
   refine G4 q q1 eg w1 ?_
   refine C0 (c_Ch _ _ _) ?_
   cases g1:win ((s.data.toList[i].toNat:Nat):Int) 97 122
   ·refine G3 q1 eg w1 ?_
    refine C0 (c_Ch _ _ _) ?_
    cases g2:win ((s.data.toList[i].toNat:Nat):Int) 48 57
    ·have e:=all_not (p:=nameCh) hi2 (by simp only [nameCh,g1,g2,Bool.or_false])
     exact F1 e
    ·refine G0 ?_
     refine ⟨i + 1,by rw [IntWalk.i64_in _ (by omega)]; rfl,⟨hi',all_step (p:=nameCh) hi2 hp (by simp only [nameCh,g1,g2,Bool.or_true])⟩,by omega⟩
   ·refine G0 ?_
    refine ⟨i + 1,by rw [IntWalk.i64_in _ (by omega)]; rfl,⟨hi',all_step (p:=nameCh) hi2 hp (by simp only [nameCh,g1,Bool.true_or])⟩,by omega⟩
def x_Ct:FnX:=⟨24,[.cell 2 (some 7)],
  .q [.v 1 0,.op 2 (.alloc [.e,.i 0,.nils 1,.i 0,.nils 1,.i 0,.F])]
 (.q [.L 4 7 1,.c 5 288 [4],.op 3 (.alloc [.e,.i 0,.nils 1,.i 0,.nils 1,.i 0,.F]),.s 100001 7 3 5]
 (.seq (.q [.L 6 7 1,.c 7 289 [6],.N 8 7,.m 9 8,.z 9 (.L 10 7 1),.z 9 (.c 11 196 [10]),.z 9 (.N 12 11),.r 13 9 12]
 (.c 13 (.q [.L 14 7 3,.s 100002 7 2 14]
 .ret)))
 (.seq (.q [.L 15 7 1,.c 16 291 [15]]
 (.c 16 (.q [.f 17 1 0,.l 18 17,.f 19 3 1,.L 20 2 19,.op 21 (.build [.e,.i 0,.nils 1,.i 0,.nils 1,.i 0,.F] [(0,1,(.t 18)),(1,2,(.t 20)),(5,1,(.i 1))]),.s 100003 7 2 21]
 .ret)))
 (.q [.f 22 3 6,⟨none,none,100004,.store 1 (.t 22) .T⟩]
 (.q [.L 23 7 3,.s 100005 7 2 23]
 .ret)))))⟩
theorem r_Ct {Te:TE} (c_Ge:C_Ge Te) (c_Dz:C_Dz Te) (c_Gg:C_Gg Te) (c_Gi:C_Gi Te):C_Ct (RF Te x_Ct):=by
 intro r h
 have hL:=h.len (by decide)
 refine X0 x_Ct.eq_1 ?_
 refine C0 (c_Ge r hL) ?_
 refine C0 (c_Dz r (h.mono (by decide))) ?_
 cases g1:r.ok
 ·have e:r.back=r:=by rw [RowV.back,g1]; rfl
  exact F1 e
 have h13:=rowOk_13 g1
 refine G0 ?_
 refine C0 (c_Gg r h13) ?_
 by_cases g2:r.Has=1
 ·have e:r.back=r:=by rw [RowV.back,g1,g2]; rfl
  have g5:decide (r.Has≠1)=false:=decide_eq_false (by simpa using g2)
  exact F2 g5 e
 have g5:decide (r.Has≠1)=true:=decide_eq_true g2
 refine G1 g5 ?_
 refine C0 (c_Gi r h13) ?_
 by_cases g3:r.Has=2
 ·have e:r.back=⟨r.Key,r.Old,r.New,r.Has,true⟩:=by rw [RowV.back,g1,g3]; rfl
  have g6:decide (r.Has≠2)=false:=decide_eq_false (by simpa using g3)
  exact F2 g6 e
 ·have g4:r.Has=3:=by omega
  have e:r.back=⟨r.Key,r.Old,⟨0,[]⟩,1,false⟩:=by rw [RowV.back,g1,g4]; rfl
  have g6:decide (r.Has≠2)=true:=decide_eq_true g3
  exact F2 g6 e
def x_Cd:FnX:=⟨16,[.cell 4 (some 7)],
  .q [.v 3 1,.op 4 (.alloc [.e,.i 0,.nils 1,.i 0,.nils 1,.i 0,.F])]
 (.seq (.q [.m 5 0]
 (.block 0 (.q [.B 7 .eql 5 4,.m 6 7]
 (.cond 6 (.q [.L 8 7 3,.c 9 170 [8],.s 100001 7 4 9]
 .ret) (.q [.B 11 .eql 5 6,.m 10 11]
 (.c 10 (.q [.L 12 7 3,.c 13 171 [12],.s 100002 7 4 13]
 .ret)))))))
 (.q [.L 14 7 3,.c 15 172 [14],.s 100003 7 4 15]
 .ret))⟩
theorem r_Cd {Te:TE} (c_A8:C_A8 Te) (c_A3:C_A3 Te) (c_Ae:C_Ae Te):C_Cd (RF Te x_Cd):=by
 intro p r h
 refine run0 ?_
 simp -implicitDefEqProofs (maxSteps:=1000000) only [x_Cd,go_sem,turned]
 repeat refine ⟨sc,?_⟩
 try exact sf
 cases g4:(p==4)
 ·cases g6:(p==6)
  ·refine G2 g4 g6 ?_
   exact D0 (c_Ae r h)
  ·refine G2 g4 g6 ?_
   exact D0 (c_A3 r h)
 ·refine G1 g4 ?_
  exact D0 (c_A8 r h)
def x_F6:FnX:=⟨17,[.cell 4 (some 7)],
  .q [.v 3 1,.op 4 (.alloc [.e,.i 0,.nils 1,.i 0,.nils 1,.i 0,.F])]
 (.seq (.q [.m 5 0]
 (.block 0 (.seq (.q [.B 7 .eql 5 2,.m 6 7]
 (.cond 6 .skip (.reg [.B 8 .eql 5 3,.m 6 8])))
 (.cond 6 (.q [.L 9 7 3,.c 10 201 [9],.s 100001 7 4 10]
 .ret) (.q [.B 12 .eql 5 4,.m 11 12]
 (.c 11 (.q [.L 13 7 3,.c 14 202 [13],.s 100002 7 4 14]
 .ret)))))))
 (.q [.L 15 7 3,.c 16 203 [15],.s 100003 7 4 16]
 .ret))⟩
theorem r_F6 {Te:TE} (c_D7:C_D7 Te) (c_Cy:C_Cy Te) (c_Ct:C_Ct Te):C_F6 (RF Te x_F6):=by
 intro p r h hp
 refine run0 ?_
 rcases hp with rfl | rfl | rfl | rfl
 all_goals
  simp -implicitDefEqProofs (maxSteps:=1000000) only [x_F6,go_sem,turned]
  repeat refine ⟨sc,?_⟩
  try exact sf
 ·exact D0 (c_D7 r h)
 ·exact D0 (c_D7 r h)
 ·exact D0 (c_Cy r h)
 ·exact D0 (c_Ct r h)
def x_Dl:FnX:=⟨30,[.cell 4 (some 10),.tmp 5],
  .q [.v 2 0,.op 4 (.alloc [.nils 1,.nils 2,.i 0,.F,.nils 7,.i 0,.nils 3,.i 0,.i 0,.i 0]),.F 5]
 (.q [.L 7 10 2,.c 8 65 [7],.op 6 (.alloc [.nils 1,.nils 2,.i 0,.F,.nils 7,.i 0,.nils 3,.i 0,.i 0,.i 0]),.s 100001 10 6 8]
 (.seq (.q [.L 9 10 2,.c 10 64 [9],.N 11 10]
 (.c 11 (.q [.L 12 10 6,.s 100002 10 4 12,.F 5]
 .ret)))
 (.seq (.q [.f 13 2 0,.f 14 13 4,.f 15 14 1,.l 16 15,.m 17 1,.c 18 113 [16,17]]
 (.c 18 (.reg [.f 19 6 0,.m 20 1,.op 21 (.build [.i 0,.e,.i 0,.nils 1,.i 0,.nils 1,.i 0,.F,.e,.i 0,.i 0,.i 0,.i 0] [(0,1,(.i 3)),(9,1,(.t 20))]),.op 22 (.call 103 [11,0] [(.t 19),(.t 21)])])))
 (.seq (.draw [.L 23 10 6,.f 24 6 0,.f 25 24 4,.f 26 25 1,.l 27 26,.m 28 1,.b 29 .eql 27 28,.s 100003 10 4 23,.m 5 29] [[],[],[1],[2],[3],[],[4,5],[0,0],[6,7,0,1,2,3,4,5,6,7]])
 .ret))))⟩
theorem r_Dl {Te:TE} (c_F1:C_F1 Te) (c_F7:C_F7 Te) (c_Df:C_Df Te) (c_Eu:C_Eu Te):C_Dl (RF Te x_Dl):=by
 intro n p hn
 have hL:=hn.len (by decide)
 refine X0 x_Dl.eq_1 ?_
 refine C0 (c_F1 n hL) ?_
 refine C0 (c_F7 n (hn.mono (by decide))) ?_
 cases g1:n.up
 ·have e:n.phase p=(n,false):=by rw [NodeV.phase,g1]; rfl
  exact F1 e
 obtain ⟨k1,k2,_⟩:=up_ok g1
 have e:n.phase p=(n.phase1 p,(n.phase1 p).S.T.Phase==p):=by rw [NodeV.phase,g1]; rfl
 refine G0 ?_
 refine C0 (c_Df _ _) ?_
 cases g2:nextOk n.S.T.Phase p
 ·have e1:n.phase1 p=n:=by rw [NodeV.phase1,g2]; rfl
  exact F2 e e1
 ·have e1:n.phase1 p=n.added (recPh p):=by rw [NodeV.phase1,g2]; rfl
  refine G0 ?_
  refine .of (c_Eu n.S (recPh p) k1 k2 hn.2 (recPh_in p _)) ?_
  try simp -implicitDefEqProofs (maxSteps:=1000000) only [go_sem,e,e1,NodeV.added,NodeV.enc,take_all,take_marks]
  repeat refine ⟨sc,?_⟩
  try exact sf
  try rfl
def x_Di:FnX:=⟨60,[.cell 6 (some 10),.tmp 7],
  .q [.v 3 0,.op 6 (.alloc [.nils 1,.nils 2,.i 0,.F,.nils 7,.i 0,.nils 3,.i 0,.i 0,.i 0]),.i 7 0]
 (.q [.L 12 10 3,.c 13 65 [12],.op 8 (.alloc [.nils 1,.nils 2,.i 0,.F,.nils 7,.i 0,.nils 3,.i 0,.i 0,.i 0]),.s 100001 10 8 13]
 (.seq (.block 0 (.q [.L 15 10 3,.c 16 64 [15],.N 17 16,.m 18 17,.z 18 (.m 19 1),.z 18 (.c 20 101 [19]),.z 18 (.N 21 20),.r 22 18 21,.m 23 22,.z 23 (.m 24 2),.z 23 (.n 25 24),.z 23 (.B 26 .gtr 25 20),.r 27 23 26,.m 14 27]
 (.cond 14 (.q [.L 28 10 8,.s 100002 10 6 28,.i 7 1]
 .ret) (.q [.f 30 3 0,.f 31 30 4,.f 32 31 1,.l 33 32,.B 34 .neq 33 0,.m 29 34]
 (.c 29 (.q [.L 35 10 8,.s 100003 10 6 35,.i 7 6]
 .ret))))))
 (.q [.f 37 3 9,.l 38 37,.m 39 2,.c 40 102 [38,39],.m 36 40,.e 41 36 0,.e 42 36 1,.m 9 41,.m 10 42]
 (.seq (.draw [.m 43 1,.f 44 3 9,.l 45 44,.op 46 (.bslice 1 []),.m 47 2,.op 48 (.app 1 1 (.t 46) (.t 47)),.op 49 (.build [.i 0,.nils 1] [(0,1,(.t 45)),(1,1,(.t 48))]),.m 50 10,.N 51 50,.op 52 (.build [.e,.i 0,.nils 1,.i 0,.nils 1,.i 0,.F] [(0,1,(.t 43)),(1,2,(.t 49)),(5,1,(.i 1)),(6,1,(.t 51))]),.op 11 (.alloc [.e,.i 0,.nils 1,.i 0,.nils 1,.i 0,.F]),.s 100004 7 11 52] [[],[],[1],[],[],[3,4],[2,5],[],[7],[0,6,8],[],[10,9,5,0,1,2,3,4,5,6,7,8,9,10]])
 (.seq (.q [.f 53 8 0,.L 54 7 11,.op 55 (.build [.i 0,.e,.i 0,.nils 1,.i 0,.nils 1,.i 0,.F,.e,.i 0,.i 0,.i 0,.i 0] [(0,1,(.i 1)),(1,7,(.t 54))]),.op 56 (.call 103 [11,0] [(.t 53),(.t 55)]),.N 57 56]
 (.c 57 (.q [.L 58 10 8,.s 100005 10 6 58,.i 7 5]
 .ret)))
 (.q [.L 59 10 8,.s 100006 10 6 59,.i 7 0]
 .ret))))))⟩
theorem r_Di {Te:TE} (c_F1:C_F1 Te) (c_F7:C_F7 Te) (c_De:C_De Te) (c_Cz:C_Cz Te) (c_Eu:C_Eu Te):C_Di (RF Te x_Di):=by
 intro n key b hn hk hb
 have hL:=hn.len (by decide)
 refine X0 x_Di.eq_1 ?_
 refine C0 (c_F1 n hL) ?_
 refine C0 (c_F7 n (hn.mono (by decide))) ?_
 cases g1:n.up
 ·have e:n.load key b=(n,1):=by rw [NodeV.load,g1]; rfl
  exact F1 e
 obtain ⟨k1,k2,_⟩:=up_ok g1
 refine G0 ?_
 refine C0 (c_De key (by omega)) ?_
 cases g2:nameOk key
 ·have e:n.load key b=(n,1):=by rw [NodeV.load,g1,g2]; rfl
  exact F1 e
 cases g3:decide ((b.length:Int)≤20)
 ·have e:n.load key b=(n,1):=by rw [NodeV.load,g1,g2,g3]; rfl
  try simp -implicitDefEqProofs (maxSteps:=1000000) only [go_sem,gt20,g3,e,take_all,take_marks]
  repeat refine ⟨sc,?_⟩
  try exact sf
  try rfl
 cases g4:(n.S.T.Phase==0)
 ·have e:n.load key b=(n,6):=by rw [NodeV.load,g1,g2,g3,g4]; rfl
  have g5:(n.S.T.Phase != 0)=true:=by rw [bne_not,g4]; rfl
  try simp -implicitDefEqProofs (maxSteps:=1000000) only [go_sem,gt20,g3,g4,g5,e,take_all,take_marks]
  repeat refine ⟨sc,?_⟩
  try exact sf
  try rfl
 have g5:(n.S.T.Phase != 0)=false:=by rw [bne_not,g4]; rfl
 have e:n.load key b=(n.added (loadRec n key b),bif (n.S.add (loadRec n key b)).2 then 0 else 5):=by rw [NodeV.load,g1,g2,g3,g4]; rfl
 have t2:=c_Eu n.S (loadRec n key b) k1 k2 hn.2 (loadRec_in n hk hb)
 cases g6:(decode n.Cs b).2
 all_goals
  simp only [loadRec,g6,Bool.not_false,Bool.not_true] at t2 e
  try simp -implicitDefEqProofs (maxSteps:=1000000) only [go_sem,gt20,g3,g4,g5]
  repeat refine ⟨sc,?_⟩
  try exact sf
  refine .of (c_Cz n.Cs b hb) ?_
  try simp -implicitDefEqProofs (maxSteps:=1000000) only [go_sem,take_rows]
  repeat refine ⟨sc,?_⟩
  try exact sf
  rw [g6]
  try simp -implicitDefEqProofs (maxSteps:=1000000) only [go_sem,g6,take_rows]
  repeat refine ⟨sc,?_⟩
  try exact sf
  refine .of (t2) ?_
  try simp -implicitDefEqProofs (maxSteps:=1000000) only [go_sem,take_all,take_marks]
  repeat refine ⟨sc,?_⟩
  try exact sf
  cases g7:(n.S.add (RecV.mk 1 ⟨key,⟨n.Cs,b⟩,⟨0,[]⟩,1,!(decode n.Cs b).2⟩ ⟨#[]⟩ 0 0 0 0)).2
  all_goals
   rw [g6] at g7
   simp only [Bool.not_false,Bool.not_true] at g7
   try simp -implicitDefEqProofs (maxSteps:=1000000) only [go_sem,g7,e,NodeV.added,NodeV.enc,take_all,take_marks]
   repeat refine ⟨sc,?_⟩
   try exact sf
   try rfl
def x_Fx:FnX:=⟨18,[.tmp 2],
  .q [.i 2 0]
 (.seq (.block 0 (.q [.m 4 0,.op 5 (.bin .lss (.t 4) (.k (.one (.pv (.int .u8 128))))),.m 3 5]
 (.cond 3 (.q [.i 2 1]
 .ret) (.q [.m 7 0,.op 8 (.conv (.int .i64) (.t 7)),.op 9 (.call 120 [0,0,0] [(.t 8),(.i 194),(.i 223)]),.m 6 9]
 (.cond 6 (.q [.i 2 2]
 .ret) (.q [.m 11 0,.op 12 (.conv (.int .i64) (.t 11)),.op 13 (.call 120 [0,0,0] [(.t 12),(.i 224),(.i 239)]),.m 10 13]
 (.cond 10 (.q [.i 2 3]
 .ret) (.q [.m 15 0,.op 16 (.conv (.int .i64) (.t 15)),.op 17 (.call 120 [0,0,0] [(.t 16),(.i 240),(.i 244)]),.m 14 17]
 (.c 14 (.q [.i 2 4]
 .ret))))))))))
 (.q [.i 2 0]
 .ret))⟩
theorem r_Fx {Te:TE} (c_Fo:C_Fo Te):C_Fx (RF Te x_Fx):=by
 intro b
 have hb:=b.toNat_lt
 have w:IntKind.i64.wrap (b.toNat:Int)=(b.toNat:Int):=IntWalk.i64_in _ (by omega)
 cases q1:decide ((b.toNat:Int) < 128)
 ·simp only [decide_eq_false_iff_not] at q1
  have q1':=decide_eq_false q1
  refine X2 x_Fx.eq_1 q1' w ?_
  refine C0 (c_Fo _ _ _) ?_
  cases q2:win (b.toNat:Int) 194 223
  ·refine G1 w ?_
   refine C0 (c_Fo _ _ _) ?_
   cases q3:win (b.toNat:Int) 224 239
   ·refine G1 w ?_
    refine C0 (c_Fo _ _ _) ?_
    cases q4:win (b.toNat:Int) 240 244
    ·have e:l2len b.toNat=0:=by
      simp only [win,Bool.and_eq_false_imp,decide_eq_true_eq,decide_eq_false_iff_not] at q2 q3 q4
      unfold l2len
      rw [if_neg (by omega),if_neg (by omega),if_neg (by omega),if_neg (by omega)]
     exact F1 e
    ·have e:l2len b.toNat=4:=by
      simp only [win,Bool.and_eq_true,decide_eq_true_eq] at q4
      unfold l2len
      rw [if_neg (by omega),if_neg (by omega),if_neg (by omega),if_pos (by omega)]
     exact F1 e
   ·have e:l2len b.toNat=3:=by
     simp only [win,Bool.and_eq_true,decide_eq_true_eq] at q3
     unfold l2len
     rw [if_neg (by omega),if_neg (by omega),if_pos (by omega)]
    exact F1 e
  ·have e:l2len b.toNat=2:=by
    simp only [win,Bool.and_eq_true,decide_eq_true_eq] at q2
    unfold l2len
    rw [if_neg (by omega),if_pos (by omega)]
   exact F1 e
 ·simp only [decide_eq_true_eq] at q1
  have q1':=decide_eq_true q1
  have e:l2len b.toNat=1:=if_pos (by omega)
  refine X2 x_Fx.eq_1 q1' e ?_
  try rfl
end Go.X

