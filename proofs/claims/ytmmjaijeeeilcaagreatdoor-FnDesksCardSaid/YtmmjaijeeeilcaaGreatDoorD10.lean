/- Texts: CVf_3 CVza CVn CT CVzr_2 CVo CVi_2 CP_2 CVg_2 CVla CS CVy_3 CG. -/
import Derived.Test.YtmmjaijeeeilcaaGreatDoorD04
set_option linter.unusedVariables false
set_option linter.unusedSimpArgs false
namespace Go.X
set_option maxRecDepth 100000
set_option maxHeartbeats 8000000
def x_E8:FnX:=⟨82,[.tmp 2],
  .q [.v 1 0,.F 2]
 (.seq (.q [.i 3 0]
 (.block 0 (.loop [1,3] (.seq (.q [.m 5 3,.f 6 1 0,.l 7 6,.n 8 7,.b 9 .lss 5 8]
 (.cond 9 .skip (.exit 0)))
 (.seq (.block 1 (.seq (.draw [.f 12 1 0,.l 13 12,.m 14 3,.x 15 7 13 14,.L 16 7 15,.c 17 289 [16],.N 18 17,.m 19 18,.z 19 (.m 20 3),.z 19 (.B 21 .gtr 20 0),.z 19 (.m 22 21),.y 22 (.f 23 1 0),.y 22 (.l 24 23),.y 22 (.m 25 3),.y 22 (.B 26 .sub 25 1),.y 22 (.x 27 7 24 26),.y 22 (.f 28 27 0),.y 22 (.l 29 28),.y 22 (.f 30 1 0),.y 22 (.l 31 30),.y 22 (.m 32 3),.y 22 (.x 33 7 31 32),.y 22 (.f 34 33 0),.y 22 (.l 35 34),.y 22 (.b 36 .geq 29 35),.z 19 (.a 37 22 36),.r 38 19 37] [[],[0],[],[1,2],[3],[4],[5],[6,5],[7],[8,7],[9,7,7],[10],[11,10],[10],[13,10],[12,14,10],[15,10],[16,10],[10],[18,10],[10],[19,20,10],[21,10],[22,10],[17,23,10],[10,24,7],[7,25]])
 (.c 38 (.q [.F 2]
 .ret))))
 (.reg [.m 10 3,.B 11 .add 10 1,.m 3 11]))))))
 (.norm [1] (.seq (.q [.i 4 0]
 (.block 2 (.loop [1,4] (.seq (.q [.m 39 4,.f 40 1 2,.l 41 40,.n 42 41,.b 43 .lss 39 42]
 (.cond 43 .skip (.exit 2)))
 (.seq (.block 3 (.seq (.draw [.f 46 1 2,.l 47 46,.m 48 4,.x 49 3 47 48,.L 50 3 49,.c 51 292 [50],.N 52 51,.m 53 52,.z 53 (.m 54 4),.z 53 (.B 55 .gtr 54 0),.z 53 (.m 56 55),.y 56 (.f 57 1 2),.y 56 (.l 58 57),.y 56 (.m 59 4),.y 56 (.B 60 .sub 59 1),.y 56 (.x 61 3 58 60),.y 56 (.f 62 61 0),.y 56 (.l 63 62),.y 56 (.f 64 1 2),.y 56 (.l 65 64),.y 56 (.m 66 4),.y 56 (.x 67 3 65 66),.y 56 (.f 68 67 0),.y 56 (.l 69 68),.y 56 (.b 70 .geq 63 69),.z 53 (.a 71 56 70),.r 72 53 71] [[],[0],[],[1,2],[3],[4],[5],[6,5],[7],[8,7],[9,7,7],[10],[11,10],[10],[13,10],[12,14,10],[15,10],[16,10],[10],[18,10],[10],[19,20,10],[21,10],[22,10],[17,23,10],[10,24,7],[7,25]])
 (.c 72 (.q [.F 2]
 .ret))))
 (.reg [.m 44 4,.B 45 .add 44 1,.m 4 45]))))))
 (.norm [1] (.q [.f 73 1 0,.l 74 73,.n 75 74,.B 76 .leq 75 8,.m 77 76,.y 77 (.f 78 1 1),.y 77 (.l 79 78),.y 77 (.op 80 (.call 120 [0,0,0] [(.t 79),(.i 0),(.i 7)])),.a 81 77 80,.m 2 81]
 .ret)))))⟩
theorem r_E8 {Te:TE} (c_Dz:C_Dz Te) (c_Ep:C_Ep Te) (c_Fo:C_Fo Te):C_E8 (RF Te x_E8):=by
 intro t h
 obtain ⟨⟨hl,hR⟩,hM⟩:=h
 refine X0 x_E8.eq_1 ?_
 refine loop_of (σ:=Nat) (fun i=>⟨[(1,.bp 1 0),(3,.one (.pv (.int .i64 i)))],[(1,[.ro 7 (t.Rows.map (RowV.enc false)),.pv (.int .i64 t.Phase),.ro 3 (t.Marks.map MarkV.row)])],[(0,t.enc false)]⟩) (fun i=>i≤t.Rows.length∧∀ j,j < i→rowGood t.Rows j=true) (fun i=>t.Rows.length - i) 0 ?_ ⟨Nat.zero_le _,fun j hj=>absurd hj (Nat.not_lt_zero _)⟩ ?_
 ·simp -implicitDefEqProofs (maxSteps:=1000000) only [go_sem]
  try rfl
 ·rintro i ⟨hi,hp⟩
  cases q:decide ((i:Int) < (t.Rows.length:Int))
  ·have eR:=rng_end (f:=rowGood t.Rows) (show t.Rows.length≤i by simp only [decide_eq_false_iff_not] at q; omega) hp
   refine G1 q ?_
   refine loop_of (σ:=Nat) (fun i=>⟨[(1,.bp 1 0),(4,.one (.pv (.int .i64 i)))],[(1,[.ro 7 (t.Rows.map (RowV.enc false)),.pv (.int .i64 t.Phase),.ro 3 (t.Marks.map MarkV.row)])],[(0,t.enc false)]⟩) (fun i=>i≤t.Marks.length∧∀ j,j < i→markGood t.Marks j=true) (fun i=>t.Marks.length - i) 0 ?_ ⟨Nat.zero_le _,fun j hj=>absurd hj (Nat.not_lt_zero _)⟩ ?_
   ·simp -implicitDefEqProofs (maxSteps:=1000000) only [go_sem]
    try rfl
   ·rintro i ⟨hi,hp⟩
    cases q:decide ((i:Int) < (t.Marks.length:Int))
    ·have eM:=rng_end (f:=markGood t.Marks) (show t.Marks.length≤i by simp only [decide_eq_false_iff_not] at q; omega) hp
     refine G1 q ?_
     cases gl:decide ((t.Rows.length:Int)≤8)
     ·have e:t.ok=false:=by simp only [TabV.ok,gl,Bool.and_false,Bool.false_and]
      exact F2 gl e
     ·have e:t.ok=win t.Phase 0 7:=by simp only [TabV.ok,eR,eM,gl,Bool.true_and]
      refine G1 gl ?_
      exact D1 (c_Fo _ _ _) e
    ·have k1:i < t.Marks.length:=by simp only [decide_eq_true_eq] at q; omega
     cases i with
     | zero =>
      have z:decide (((0:Nat):Int) > 0)=false:=rfl
      have good0:=markGood_zero k1
      refine G3 q (List.getElem?_eq_getElem k1) z ?_
      refine C0 (c_Ep t.Marks[0]) ?_
      cases g:t.Marks[0].ok
      ·have e:t.ok=false:=by simp only [TabV.ok,rng_not k1 (good0.trans g),Bool.and_false,Bool.false_and]
       exact F1 e
      ·refine G1 z ?_
       refine ⟨1,by rw [IntWalk.i64_in _ (by omega)]; rfl,⟨k1,rng_step hp (good0.trans g)⟩,by omega⟩
     | succ j =>
      have k0:j < t.Marks.length:=by omega
      have z:decide (((j + 1:Nat):Int) > 0)=true:=decide_eq_true (by omega)
      have ew:IntKind.i64.wrap (((j + 1:Nat):Int) - 1)=(j:Int):=by rw [IntWalk.i64_in _ (by omega)]; omega
      have good1:=markGood_succ k1
      refine G3 q (List.getElem?_eq_getElem k1) z ?_
      refine C0 (c_Ep t.Marks[j + 1]) ?_
      cases g:t.Marks[j + 1].ok
      ·have gg:markGood t.Marks (j + 1)=false:=by rw [good1,g,Bool.false_and]
       have e:t.ok=false:=by simp only [TabV.ok,rng_not k1 gg,Bool.and_false,Bool.false_and]
       exact F1 e
      ·cases g2:decide (t.Marks[j].Who≥t.Marks[j + 1].Who)
       ·have gg:markGood t.Marks (j + 1)=true:=by rw [good1,g,g2]; rfl
        try simp -implicitDefEqProofs (maxSteps:=1000000) only [go_sem,z,ew,List.getElem?_eq_getElem k0,List.getElem?_eq_getElem k1,g2]
        repeat refine ⟨sc,?_⟩
        try exact sf
        refine ⟨j + 2,by rw [IntWalk.i64_in _ (by omega)]; rfl,⟨k1,rng_step hp gg⟩,by omega⟩
       ·have gg:markGood t.Marks (j + 1)=false:=by rw [good1,g2]; simp only [Bool.not_true,Bool.and_false]
        have e:t.ok=false:=by simp only [TabV.ok,rng_not k1 gg,Bool.and_false,Bool.false_and]
        try simp -implicitDefEqProofs (maxSteps:=1000000) only [go_sem,z,ew,List.getElem?_eq_getElem k0,List.getElem?_eq_getElem k1,g2,e]
        repeat refine ⟨sc,?_⟩
        try exact sf
  ·have k1:i < t.Rows.length:=by simp only [decide_eq_true_eq] at q; omega
   cases i with
   | zero =>
    have z:decide (((0:Nat):Int) > 0)=false:=rfl
    have good0:=rowGood_zero k1
    refine G3 q (List.getElem?_eq_getElem k1) z ?_
    refine C0 (c_Dz t.Rows[0] (hR _ (List.getElem_mem k1))) ?_
    cases g:t.Rows[0].ok
    ·have e:t.ok=false:=by simp only [TabV.ok,rng_not k1 (good0.trans g),Bool.false_and]
     exact F1 e
    ·refine G1 z ?_
     refine ⟨1,by rw [IntWalk.i64_in _ (by omega)]; rfl,⟨k1,rng_step hp (good0.trans g)⟩,by omega⟩
   | succ j =>
    have k0:j < t.Rows.length:=by omega
    have z:decide (((j + 1:Nat):Int) > 0)=true:=decide_eq_true (by omega)
    have ew:IntKind.i64.wrap (((j + 1:Nat):Int) - 1)=(j:Int):=by rw [IntWalk.i64_in _ (by omega)]; omega
    have good1:=rowGood_succ k1
    refine G3 q (List.getElem?_eq_getElem k1) z ?_
    refine C0 (c_Dz t.Rows[j + 1] (hR _ (List.getElem_mem k1))) ?_
    cases g:t.Rows[j + 1].ok
    ·have gg:rowGood t.Rows (j + 1)=false:=by rw [good1,g,Bool.false_and]
     have e:t.ok=false:=by simp only [TabV.ok,rng_not k1 gg,Bool.false_and]
     exact F1 e
    ·cases g2:Op.bytesLess t.Rows[j].Key.toList t.Rows[j + 1].Key.toList
     ·have gg:rowGood t.Rows (j + 1)=false:=by rw [good1,g2,Bool.and_false]
      have e:t.ok=false:=by simp only [TabV.ok,rng_not k1 gg,Bool.false_and]
      try simp -implicitDefEqProofs (maxSteps:=1000000) only [go_sem,z,ew,List.getElem?_eq_getElem k0,List.getElem?_eq_getElem k1,g2,e]
      repeat refine ⟨sc,?_⟩
      try exact sf
     ·have gg:rowGood t.Rows (j + 1)=true:=by rw [good1,g,g2]; rfl
      try simp -implicitDefEqProofs (maxSteps:=1000000) only [go_sem,z,ew,List.getElem?_eq_getElem k0,List.getElem?_eq_getElem k1,g2]
      repeat refine ⟨sc,?_⟩
      try exact sf
      refine ⟨j + 2,by rw [IntWalk.i64_in _ (by omega)]; rfl,⟨k1,rng_step hp gg⟩,by omega⟩
def x_B5:FnX:=⟨79,[.cell 8 (some 7),.tmp 9],
  .q [.op 8 (.alloc [.e,.i 0,.nils 1,.i 0,.nils 1,.i 0,.F]),.i 9 0]
 (.q [.m 18 3,.op 19 (.call 251 [0,0] [(.i 0),(.t 18)]),.m 17 19,.e 20 17 0,.e 21 17 1,.op 10 (.alloc [.i 0,.nils 1]),.s 100001 2 10 20,.m 11 21]
 (.seq (.q [.m 22 0,.op 23 (.call 90 [0,0,0] [(.t 22),(.i 0),(.i 7)]),.N 24 23,.m 25 24,.z 25 (.m 26 1),.z 25 (.c 27 98 [26]),.z 25 (.N 28 27),.r 29 25 28,.m 30 29,.z 30 (.m 31 2),.z 30 (.op 32 (.call 90 [0,0,0] [(.t 31),(.i 1),(.i 5)])),.z 30 (.N 33 32),.r 34 30 33,.m 35 34,.z 35 (.m 36 11),.z 35 (.N 37 36),.r 38 35 37]
 (.c 38 (.q [.op 39 (.build [.e,.i 0,.nils 1,.i 0,.nils 1,.i 0,.F] []),.s 100002 7 8 39,.i 9 1]
 .ret)))
 (.q [.m 41 2,.m 42 3,.c 43 251 [41,42],.m 40 43,.e 44 40 0,.e 45 40 1,.op 12 (.alloc [.i 0,.nils 1]),.s 100003 2 12 44,.m 13 45]
 (.q [.m 46 1,.L 47 2 12,.op 48 (.build [.e,.i 0,.nils 1,.i 0,.nils 1,.i 0,.F] [(0,1,(.t 46)),(1,2,(.t 47)),(5,1,(.i 1))]),.op 14 (.alloc [.e,.i 0,.nils 1,.i 0,.nils 1,.i 0,.F]),.s 100004 7 14 48]
 (.q [.m 49 1,.L 50 2 10,.op 51 (.build [.e,.i 0,.nils 1,.i 0,.nils 1,.i 0,.F] [(0,1,(.t 49)),(3,2,(.t 50)),(5,1,(.i 2))]),.op 15 (.alloc [.e,.i 0,.nils 1,.i 0,.nils 1,.i 0,.F]),.s 100005 7 15 51]
 (.q [.L 52 7 15,.op 16 (.alloc [.e,.i 0,.nils 1,.i 0,.nils 1,.i 0,.F]),.s 100006 7 16 52]
 (.q [.f 53 16 6,⟨none,none,100007,.store 1 (.t 53) .T⟩]
 (.seq (.q [.m 54 0]
 (.block 0 (.seq (.q [.B 56 .eql 54 0,.m 55 56]
 (.cond 55 .skip (.reg [.B 57 .eql 54 7,.m 55 57])))
 (.cond 55 (.seq (.q [.m 58 13,.N 59 58]
 (.c 59 (.q [.op 60 (.build [.e,.i 0,.nils 1,.i 0,.nils 1,.i 0,.F] []),.s 100008 7 8 60,.i 9 3]
 .ret)))
 (.q [.L 61 7 14,.s 100009 7 8 61,.i 9 0]
 .ret)) (.seq (.q [.B 63 .eql 54 4,.m 62 63]
 (.cond 62 .skip (.reg [.B 64 .eql 54 5,.m 62 64])))
 (.cond 62 (.q [.L 65 7 15,.s 100010 7 8 65,.i 9 0]
 .ret) (.q [.B 67 .eql 54 6,.m 66 67]
 (.c 66 (.seq (.q [.m 68 13,.N 69 68]
 (.c 69 (.q [.L 70 7 16,.s 100011 7 8 70,.i 9 0]
 .ret)))
 (.q [.L 71 7 14,.s 100012 7 8 71,.i 9 0]
 .ret))))))))))
 (.seq (.q [.m 72 13,.N 73 72]
 (.c 73 (.q [.L 74 7 16,.s 100013 7 8 74,.i 9 0]
 .ret)))
 (.q [.m 75 1,.L 76 2 12,.L 77 2 10,.op 78 (.build [.e,.i 0,.nils 1,.i 0,.nils 1,.i 0,.F] [(0,1,(.t 75)),(1,2,(.t 76)),(3,2,(.t 77)),(5,1,(.i 3))]),.s 100014 7 8 78,.i 9 0]
 .ret))))))))))⟩
theorem r_B5 {Te:TE} (c_A5:C_A5 Te) (c_Ch:C_Ch Te) (c_Am:C_Am Te):C_B5 (RF Te x_B5):=by
 intro ph key cs s hk hs
 refine X0 x_B5.eq_1 ?_
 refine C0 (c_A5 0 s hs) ?_
 refine C0 (c_Ch _ _ _) ?_
 cases g1:win ph 0 7
 ·try simp -implicitDefEqProofs (maxSteps:=1000000) only [go_sem,rowOf,rowFine,g1,take_rows]
  repeat refine ⟨sc,?_⟩
  try exact sf
  try rfl
 refine G0 ?_
 refine C0 (c_Am key (by omega)) ?_
 cases g2:nameOk key
 ·try simp -implicitDefEqProofs (maxSteps:=1000000) only [go_sem,rowOf,rowFine,g1,g2,take_rows]
  repeat refine ⟨sc,?_⟩
  try exact sf
  try rfl
 refine G0 ?_
 refine C0 (c_Ch _ _ _) ?_
 cases g3:win cs 1 5
 ·try simp -implicitDefEqProofs (maxSteps:=1000000) only [go_sem,rowOf,rowFine,g1,g2,g3,take_rows]
  repeat refine ⟨sc,?_⟩
  try exact sf
  try rfl
 refine G0 ?_
 cases g4:(cellOf 0 s).2
 ·try simp -implicitDefEqProofs (maxSteps:=1000000) only [go_sem,rowOf,rowFine,g1,g2,g3,g4,take_rows]
  repeat refine ⟨sc,?_⟩
  try exact sf
  try rfl
 refine G1 g4 ?_
 refine C0 (c_A5 cs s hs) ?_
 cases g5:(cellOf cs s).2 <;> cases p0:(ph==0) <;> cases p7:(ph==7) <;> cases p4:(ph==4) <;> cases p5:(ph==5) <;> cases p6:(ph==6)
 all_goals
  try simp -implicitDefEqProofs (maxSteps:=1000000) only [go_sem,rowOf,rowFine,g1,g2,g3,g4,g5,p0,p7,p4,p5,p6,take_rows]
  try rfl
def x_Dy:FnX:=⟨77,[.cell 8 (some 7),.tmp 9],
  .q [.op 8 (.alloc [.e,.i 0,.nils 1,.i 0,.nils 1,.i 0,.F]),.i 9 0]
 (.q [.m 15 3,.op 16 (.call 200 [0,0] [(.i 0),(.t 15)]),.m 14 16,.e 17 14 0,.e 18 14 1,.op 10 (.alloc [.i 0,.nils 1]),.s 100001 2 10 17,.m 11 18]
 (.seq (.q [.m 19 0,.op 20 (.call 120 [0,0,0] [(.t 19),(.i 0),(.i 7)]),.N 21 20,.m 22 21,.z 22 (.m 23 1),.z 22 (.c 24 101 [23]),.z 22 (.N 25 24),.r 26 22 25,.m 27 26,.z 27 (.m 28 2),.z 27 (.op 29 (.call 120 [0,0,0] [(.t 28),(.i 1),(.i 5)])),.z 27 (.N 30 29),.r 31 27 30,.m 32 31,.z 32 (.m 33 11),.z 32 (.N 34 33),.r 35 32 34]
 (.c 35 (.q [.op 36 (.build [.e,.i 0,.nils 1,.i 0,.nils 1,.i 0,.F] []),.s 100002 7 8 36,.i 9 1]
 .ret)))
 (.q [.m 38 2,.m 39 3,.c 40 200 [38,39],.m 37 40,.e 41 37 0,.e 42 37 1,.op 12 (.alloc [.i 0,.nils 1]),.s 100003 2 12 41,.m 13 42]
 (.seq (.q [.m 43 0]
 (.block 0 (.seq (.q [.B 45 .eql 43 0,.m 44 45]
 (.cond 44 .skip (.reg [.B 46 .eql 43 7,.m 44 46])))
 (.cond 44 (.seq (.q [.m 47 13,.N 48 47]
 (.c 48 (.q [.op 49 (.build [.e,.i 0,.nils 1,.i 0,.nils 1,.i 0,.F] []),.s 100004 7 8 49,.i 9 3]
 .ret)))
 (.q [.m 50 1,.L 51 2 12,.op 52 (.build [.e,.i 0,.nils 1,.i 0,.nils 1,.i 0,.F] [(0,1,(.t 50)),(1,2,(.t 51)),(5,1,(.i 1))]),.s 100005 7 8 52,.i 9 0]
 .ret)) (.seq (.q [.B 54 .eql 43 4,.m 53 54]
 (.cond 53 .skip (.reg [.B 55 .eql 43 5,.m 53 55])))
 (.cond 53 (.q [.m 56 1,.L 57 2 10,.op 58 (.build [.e,.i 0,.nils 1,.i 0,.nils 1,.i 0,.F] [(0,1,(.t 56)),(3,2,(.t 57)),(5,1,(.i 2))]),.s 100006 7 8 58,.i 9 0]
 .ret) (.q [.B 60 .eql 43 6,.m 59 60]
 (.c 59 (.seq (.q [.m 61 13]
 (.c 61 (.q [.m 62 1,.L 63 2 12,.op 64 (.build [.e,.i 0,.nils 1,.i 0,.nils 1,.i 0,.F] [(0,1,(.t 62)),(1,2,(.t 63)),(5,1,(.i 1))]),.s 100007 7 8 64,.i 9 0]
 .ret)))
 (.q [.m 65 1,.L 66 2 10,.op 67 (.build [.e,.i 0,.nils 1,.i 0,.nils 1,.i 0,.F] [(0,1,(.t 65)),(3,2,(.t 66)),(5,1,(.i 2)),(6,1,.T)]),.s 100008 7 8 67,.i 9 0]
 .ret))))))))))
 (.seq (.q [.m 68 13,.N 69 68]
 (.c 69 (.q [.m 70 1,.L 71 2 10,.op 72 (.build [.e,.i 0,.nils 1,.i 0,.nils 1,.i 0,.F] [(0,1,(.t 70)),(3,2,(.t 71)),(5,1,(.i 2)),(6,1,.T)]),.s 100009 7 8 72,.i 9 0]
 .ret)))
 (.q [.m 73 1,.L 74 2 12,.L 75 2 10,.op 76 (.build [.e,.i 0,.nils 1,.i 0,.nils 1,.i 0,.F] [(0,1,(.t 73)),(1,2,(.t 74)),(3,2,(.t 75)),(5,1,(.i 3))]),.s 100010 7 8 76,.i 9 0]
 .ret))))))⟩
theorem r_Dy {Te:TE} (c_Cv:C_Cv Te) (c_Fo:C_Fo Te) (c_De:C_De Te):C_Dy (RF Te x_Dy):=by
 intro ph key cs s hk hs
 refine X0 x_Dy.eq_1 ?_
 refine C0 (c_Cv 0 s hs) ?_
 refine C0 (c_Fo _ _ _) ?_
 cases g1:win ph 0 7
 ·try simp -implicitDefEqProofs (maxSteps:=1000000) only [go_sem,rowOf,rowFine,g1,take_rows]
  repeat refine ⟨sc,?_⟩
  try exact sf
  try rfl
 refine G0 ?_
 refine C0 (c_De key (by omega)) ?_
 cases g2:nameOk key
 ·try simp -implicitDefEqProofs (maxSteps:=1000000) only [go_sem,rowOf,rowFine,g1,g2,take_rows]
  repeat refine ⟨sc,?_⟩
  try exact sf
  try rfl
 refine G0 ?_
 refine C0 (c_Fo _ _ _) ?_
 cases g3:win cs 1 5
 ·try simp -implicitDefEqProofs (maxSteps:=1000000) only [go_sem,rowOf,rowFine,g1,g2,g3,take_rows]
  repeat refine ⟨sc,?_⟩
  try exact sf
  try rfl
 refine G0 ?_
 cases g4:(cellOf 0 s).2
 ·try simp -implicitDefEqProofs (maxSteps:=1000000) only [go_sem,rowOf,rowFine,g1,g2,g3,g4,take_rows]
  repeat refine ⟨sc,?_⟩
  try exact sf
  try rfl
 refine G1 g4 ?_
 refine C0 (c_Cv cs s hs) ?_
 cases g5:(cellOf cs s).2 <;> cases p0:(ph==0) <;> cases p7:(ph==7) <;> cases p4:(ph==4) <;> cases p5:(ph==5) <;> cases p6:(ph==6)
 all_goals
  try simp -implicitDefEqProofs (maxSteps:=1000000) only [go_sem,rowOf,rowFine,g1,g2,g3,g4,g5,p0,p7,p4,p5,p6,take_rows]
  try rfl
def x_Ez:FnX:=⟨64,[],
  .q [.m 6 0,.op 7 (.nilc (.t 6)),.f 8 7 4,.L 9 3 8,.c 10 279 [9],.m 4 10]
 (.seq (.q [.i 5 0]
 (.block 0 (.loop [0,1,4,5] (.seq (.q [.m 11 5,.m 12 4,.n 13 12,.b 14 .lss 11 13]
 (.cond 14 .skip (.exit 0)))
 (.seq (.block 1 (.draw [.m 17 0,.op 18 (.nilc (.t 17)),.f 19 18 0,.m 20 1,.m 21 5,.c 22 193 [20,21],.m 23 1,.m 24 5,.m 25 4,.m 26 5,.x 27 13 25 26,.L 28 13 27,.c 29 194 [23,24,28],.op 30 (.call 192 [6,0,0] [(.t 19),(.t 22),(.t 29)])] [[],[0],[1],[],[],[3,4],[],[],[],[],[8,9],[10],[6,7,11,5],[2,5,12,12]]))
 (.reg [.m 15 5,.B 16 .add 15 1,.m 5 16]))))))
 (.norm [0,1,4] (.q [.m 31 0,.op 32 (.nilc (.t 31)),.f 33 32 0,.op 34 (.call 195 [6] [(.t 33)])]
 (.seq (.draw [.m 35 0,.op 36 (.nilc (.t 35)),.f 37 36 0,.m 38 1,.B 39 .rem 38 2,.m 40 1,.m 41 4,.n 42 41,.c 43 280 [40,42],.op 44 (.call 192 [6,0,0] [(.t 37),(.t 39),(.t 43)])] [[],[0],[1],[],[3],[],[],[6],[5,7],[2,4,8,8]])
 (.q [.m 45 0,.op 46 (.nilc (.t 45)),.f 47 46 0,.op 48 (.call 195 [6] [(.t 47)])]
 (.q [.m 49 0,.op 50 (.nilc (.t 49)),.f 51 50 0,.f 52 51 3,.l 53 52,.N 54 53]
 (.c 54 (.q [.m 55 0,.m 56 1,.op 57 (.nilc (.t 55)),.f 58 57 7,.s 100001 1 58 56]
 (.reg [.m 59 0,.m 60 4,.n 61 60,.op 62 (.nilc (.t 59)),.f 63 62 8,.s 100002 1 63 61])))))))))⟩
theorem r_Ez {Te:TE} (c_Dw:C_Dw Te) (c_Ew:C_Ew Te) (c_Dq:C_Dq Te) (c_Eg:C_Eg Te) (c_Ee:C_Ee Te) (c_Da:C_Da Te):C_Ez (RF Te x_Ez):=by
 intro s gen hd ht
 have hL:=ht.len (by decide)
 obtain ⟨hr1,hr2⟩:=recsOf_le ht
 obtain ⟨D0,T0,G0,P0⟩:=s
 simp only at hd ht hL hr1 hr2
 obtain ⟨E0,hE⟩:∃ E0,E0=D0:=⟨_,rfl⟩
 generalize hL0:(StoreV.mk D0 T0 G0 P0).lay gen=L0
 rw [← hE] at hL0
 refine X0 x_Ez.eq_1 ?_
 refine C0 (c_Dw T0 hL) ?_
 generalize eR:recsOf T0=R at hr1 hr2
 refine loop_of (σ:=Bool×Nat×DevV) (fun x=>cond x.1 (⟨[(0,.bp 0 0),(1,.one (.pv (.int .i64 gen))),(4,.one (.rf 66 0 [] 13 0 R.length)),(5,.one (.pv (.int .i64 x.2.1)))],[(0,[.rf 67 0 [] 1 0 x.2.2.Secs.length,.rf 67 1 [] 2 0 x.2.2.Cache.length,.pv (.int .i64 x.2.2.Fuse),.pv (.bool x.2.2.Down),.rf 0 4 [] 7 0 T0.Rows.length,.pv (.int .i64 T0.Phase),.rf 0 6 [] 3 0 T0.Marks.length,.pv (.int .i64 G0),.pv (.int .i64 P0)])],[(0,[.no (),.no (),iT D0.Fuse,bT D0.Down,slT true 7 (RowV.enc true) T0.Rows,iT T0.Phase,slT true 3 MarkV.row T0.Marks,iT G0,iT P0]),(1,[iT gen]),(66,[slT true 13 (RecV.enc true) R]),(67,x.2.2.enc true)]⟩) (⟨[(0,.bp 0 0),(1,.one (.pv (.int .i64 gen))),(4,.one (.rf 66 0 [] 13 0 R.length)),(5,.one (.pv (.int .i64 x.2.1)))],[(0,[.rf 0 0 [] 1 0 x.2.2.Secs.length,.rf 0 1 [] 2 0 x.2.2.Cache.length,.pv (.int .i64 x.2.2.Fuse),.pv (.bool x.2.2.Down),.rf 0 4 [] 7 0 T0.Rows.length,.pv (.int .i64 T0.Phase),.rf 0 6 [] 3 0 T0.Marks.length,.pv (.int .i64 G0),.pv (.int .i64 P0)])],[(0,(StoreV.mk D0 T0 G0 P0).enc true),(1,[iT gen]),(66,[slT true 13 (RecV.enc true) R])]⟩)) (fun x=>x.2.1≤R.length∧x.2.2=layN gen R E0 x.2.1∧x.2.2.ok=true∧(x.1=false→x.2.2=D0)) (fun x=>R.length - x.2.1) (false,0,D0) ?_ ⟨Nat.zero_le _,hE.symm,hd,fun _=>rfl⟩ ?_
 ·simp -implicitDefEqProofs (maxSteps:=1000000) only [go_sem]
  try rfl
 ·rintro ⟨b,i,D⟩ ⟨hi,hD,hk,hb⟩
  simp only at hi hD hk hb
  cases b
  all_goals try (have hb:=hb rfl; subst hb)
  all_goals
   have hcl:=(DevV.ok_iff D).1 hk
   cases q:decide ((i:Int) < (R.length:Int))
   ·have k0:i=R.length:=by simp only [decide_eq_false_iff_not] at q; omega
    have e:((D.flush).write (gen.tmod 2) (headOf gen R.length)).flush=layDev gen R E0:=by rw [hD,k0]; rfl
    have hh:=headOf_len gen R.length
    have f1:=flush_ok hk
    have f2:=write_ok f1 (gen.tmod 2) (headOf gen R.length)
    have hcl1:=(DevV.ok_iff _).1 f1
    have hcl2:=(DevV.ok_iff _).1 f2
    refine G1 q ?_
    refine C0 (c_Ee D (by omega) (DevV.ok_idx hk)) ?_
    refine C0 (c_Da _ _) ?_
    refine .of (c_Eg D.flush _ _ (by omega) (by omega)) ?_
    try simp -implicitDefEqProofs (maxSteps:=1000000) only [go_sem,take_all]
    repeat refine ⟨sc,?_⟩
    try exact sf
    refine .of (c_Ee _ (by omega) (DevV.ok_idx f2)) ?_
    try simp -implicitDefEqProofs (maxSteps:=1000000) only [go_sem,take_all]
    repeat refine ⟨sc,?_⟩
    try exact sf
    rw [e]
    cases g:(layDev gen R E0).Down
    ·have e2:L0=⟨layDev gen R E0,T0,gen,R.length⟩:=by rw [← hL0,← eR]; exact lay_up (by rw [eR]; exact g)
     try simp -implicitDefEqProofs (maxSteps:=1000000) only [go_sem,g,e2,take_all,StoreV.enc]
     repeat refine ⟨sc,?_⟩
     try exact sf
     try rfl
    ·have e2:L0=⟨layDev gen R E0,T0,G0,P0⟩:=by rw [← hL0,← eR]; exact lay_down (by rw [eR]; exact g)
     try simp -implicitDefEqProofs (maxSteps:=1000000) only [go_sem,g,e2,take_all,StoreV.enc]
     repeat refine ⟨sc,?_⟩
     try exact sf
     try rfl
   ·have k1:i < R.length:=by simp only [decide_eq_true_eq] at q; omega
    have hp:=putRec_len gen i R[i]
    have hin:=hr2 _ (List.getElem_mem k1)
    have es:=layN_step gen E0 k1
    rw [← hD] at es
    have eg:(R.map (RecV.enc true)).getD i []=R[i].enc true:=by rw [List.getD_eq_getElem?_getD,List.getElem?_map,List.getElem?_eq_getElem k1]; rfl
    refine G2 q (List.getElem?_eq_getElem k1) ?_
    refine C2 (c_Ew _ _) eg (List.getElem?_eq_getElem k1) ?_
    refine C0 (c_Dq _ _ R[i] hin) ?_
    refine .of (c_Eg D _ _ (by omega) (by omega)) ?_
    try simp -implicitDefEqProofs (maxSteps:=1000000) only [go_sem,take_all]
    repeat refine ⟨sc,?_⟩
    try exact sf
    refine ⟨(true,i + 1,D.write (secOf gen i) (putRec gen i R[i])),?_,⟨k1,es,write_ok hk _ _,fun h=>by cases h⟩,by simp only; omega⟩
    rw [IntWalk.i64_in _ (by omega)]
    rfl
def x_D8:FnX:=⟨7,[.cell 0 (some 9)],
  .q [.op 0 (.alloc [.nils 1,.nils 2,.i 0,.F,.nils 7,.i 0,.nils 3,.i 0,.i 0])]
 (.q [.op 2 (.call 210 [0] [(.i 62)]),.op 3 (.build [.nils 7,.i 0,.nils 3] []),.op 4 (.build [.nils 1,.nils 2,.i 0,.F,.nils 7,.i 0,.nils 3,.i 0,.i 0] [(0,4,(.t 2)),(4,3,(.t 3))]),.op 1 (.alloc [.nils 1,.nils 2,.i 0,.F,.nils 7,.i 0,.nils 3,.i 0,.i 0]),.s 100001 9 1 4]
 (.q [.op 5 (.call 191 [11,0] [(.t 1),(.i 1)])]
 (.q [.L 6 9 1,.s 100002 9 0 6]
 .ret)))⟩
theorem r_D8 {Te:TE} (c_D1:C_D1 Te) (c_Ez:C_Ez Te):C_D8 (RF Te x_D8):=by
 refine X0 x_D8.eq_1 ?_
 refine C0 (c_D1 62) ?_
 exact D0 (c_Ez (StoreV.mk (devNew 62) TabV.zero 0 0) 1 devNew_ok (TabV.zero_in _))
def x_Dj:FnX:=⟨10,[.cell 2 (some 10)],
  .q [.op 2 (.alloc [.nils 1,.nils 2,.i 0,.F,.nils 7,.i 0,.nils 3,.i 0,.i 0,.i 0])]
 (.seq (.q [.m 3 0,.op 4 (.call 120 [0,0,0] [(.t 3),(.i 1),(.i 5)]),.N 5 4]
 (.c 5 (.q [.op 6 (.build [.nils 1,.nils 2,.i 0,.F,.nils 7,.i 0,.nils 3,.i 0,.i 0,.i 0] []),.s 100001 10 2 6]
 .ret)))
 (.q [.c 7 122 [],.m 8 0,.op 9 (.build [.nils 1,.nils 2,.i 0,.F,.nils 7,.i 0,.nils 3,.i 0,.i 0,.i 0] [(0,9,(.t 7)),(9,1,(.t 8))]),.s 100002 10 2 9]
 .ret))⟩
theorem r_Dj {Te:TE} (c_Fo:C_Fo Te) (c_D8:C_D8 Te):C_Dj (RF Te x_Dj):=by
 intro cs
 refine X0 x_Dj.eq_1 ?_
 refine C0 (c_Fo _ _ _) ?_
 cases g:win cs 1 5
 ·have e:nodeNew cs=NodeV.zero:=by rw [nodeNew,g]; rfl
  exact F1 e
 ·have e:nodeNew cs=⟨fmt,cs⟩:=by rw [nodeNew,g]; rfl
  refine G0 ?_
  exact D1 (c_D8) e
def x_E3:FnX:=⟨10,[.tmp 2],
  .q [.F 2]
 (.q [.m 3 0,.op 4 (.call 120 [0,0,0] [(.t 3),(.i 0),(.i 1114111)]),.m 5 4,.y 5 (.m 6 0),.y 5 (.op 7 (.call 120 [0,0,0] [(.t 6),(.i 55296),(.i 57343)])),.y 5 (.N 8 7),.a 9 5 8,.m 2 9]
 .ret)⟩
theorem r_E3 {Te:TE} (c_Fo:C_Fo Te):C_E3 (RF Te x_E3):=by
 intro n
 refine run0 ?_
 simp -implicitDefEqProofs (maxSteps:=1000000) only [x_E3,go_sem,signOk]
 repeat refine ⟨sc,?_⟩
 try exact sf
 refine C0 (c_Fo _ _ _) ?_
 cases g1:win n 0 1114111
 ·exact F0
 ·refine G0 ?_
  exact D0 (c_Fo _ _ _)
def x_Ba:FnX:=⟨10,[.tmp 2],
  .q [.F 2]
 (.q [.m 3 0,.op 4 (.call 90 [0,0,0] [(.t 3),(.i 0),(.i 1114111)]),.m 5 4,.y 5 (.m 6 0),.y 5 (.op 7 (.call 90 [0,0,0] [(.t 6),(.i 55296),(.i 57343)])),.y 5 (.N 8 7),.a 9 5 8,.m 2 9]
 .ret)⟩
theorem r_Ba {Te:TE} (c_Ch:C_Ch Te):C_Ba (RF Te x_Ba):=by
 intro n
 refine run0 ?_
 simp -implicitDefEqProofs (maxSteps:=1000000) only [x_Ba,go_sem,signOk]
 repeat refine ⟨sc,?_⟩
 try exact sf
 refine C0 (c_Ch _ _ _) ?_
 cases g1:win n 0 1114111
 ·exact F0
 ·refine G0 ?_
  exact D0 (c_Ch _ _ _)
def x_Ds:FnX:=⟨76,[.tmp 4],
  .q [.op 4 (.mv (.k (.one (.nils 1))))]
 (.q [.op 6 (.bslice 1 []),.m 7 0,.op 8 (.app 1 1 (.t 6) (.t 7)),.m 5 8]
 (.seq (.block 0 (.q [.m 10 1,.c 11 275 [10],.N 12 11,.m 9 12]
 (.cond 9 (.q [.m 13 5,.m 4 13]
 .ret) (.q [.m 15 1,.B 16 .leq 15 127,.m 14 16]
 (.cond 14 (.q [.m 17 5,.m 18 1,.op 19 (.conv (.int .u8) (.t 18)),.op 20 (.bslice 1 [(.t 19)]),.op 21 (.app 1 1 (.t 17) (.t 20)),.m 4 21]
 .ret) (.q [.m 23 1,.B 24 .leq 23 2047,.m 22 24]
 (.cond 22 (.q [.m 25 5,.m 26 1,.op 27 (.bin .shr (.t 26) (.k (.one (.pv (.int .u64 6))))),.op 28 (.bin .or (.i 192) (.t 27)),.op 29 (.conv (.int .u8) (.t 28)),.m 30 1,.B 31 .and 30 63,.op 32 (.bin .or (.i 128) (.t 31)),.op 33 (.conv (.int .u8) (.t 32)),.op 34 (.bslice 1 [(.t 29),(.t 33)]),.op 35 (.app 1 1 (.t 25) (.t 34)),.m 4 35]
 .ret) (.q [.m 37 1,.B 38 .leq 37 65535,.m 36 38]
 (.c 36 (.q [.m 39 5,.m 40 1,.op 41 (.bin .shr (.t 40) (.k (.one (.pv (.int .u64 12))))),.op 42 (.bin .or (.i 224) (.t 41)),.op 43 (.conv (.int .u8) (.t 42)),.m 44 1,.op 45 (.bin .shr (.t 44) (.k (.one (.pv (.int .u64 6))))),.B 46 .and 45 63,.op 47 (.bin .or (.i 128) (.t 46)),.op 48 (.conv (.int .u8) (.t 47)),.m 49 1,.B 50 .and 49 63,.op 51 (.bin .or (.i 128) (.t 50)),.op 52 (.conv (.int .u8) (.t 51)),.op 53 (.bslice 1 [(.t 43),(.t 48),(.t 52)]),.op 54 (.app 1 1 (.t 39) (.t 53)),.m 4 54]
 .ret))))))))))
 (.q [.m 55 5,.m 56 1,.op 57 (.bin .shr (.t 56) (.k (.one (.pv (.int .u64 18))))),.op 58 (.bin .or (.i 240) (.t 57)),.op 59 (.conv (.int .u8) (.t 58)),.m 60 1,.op 61 (.bin .shr (.t 60) (.k (.one (.pv (.int .u64 12))))),.B 62 .and 61 63,.op 63 (.bin .or (.i 128) (.t 62)),.op 64 (.conv (.int .u8) (.t 63)),.m 65 1,.op 66 (.bin .shr (.t 65) (.k (.one (.pv (.int .u64 6))))),.B 67 .and 66 63,.op 68 (.bin .or (.i 128) (.t 67)),.op 69 (.conv (.int .u8) (.t 68)),.m 70 1,.B 71 .and 70 63,.op 72 (.bin .or (.i 128) (.t 71)),.op 73 (.conv (.int .u8) (.t 72)),.op 74 (.bslice 1 [(.t 59),(.t 64),(.t 69),(.t 73)]),.op 75 (.app 1 1 (.t 55) (.t 74)),.m 4 75]
 .ret)))⟩
theorem r_Ds {Te:TE} (c_E3:C_E3 Te):C_Ds (RF Te x_Ds):=by
 intro b n hb
 cases hn:signOk n
 ·refine X0 x_Ds.eq_1 ?_
  refine .of (c_E3 _) ?_
  try simp -implicitDefEqProofs (maxSteps:=1000000) only [go_sem,putSign,hn,if_false]
  repeat refine ⟨sc,?_⟩
  try exact sf
  try rfl
 obtain ⟨h0,h1,_⟩:=signOk_in hn
 obtain ⟨m,rfl⟩:∃ m:Nat,n=m:=⟨n.toNat,by omega⟩
 have ep:putSign b (m:Int)=b++enc8 m:=by simp only [putSign,hn,if_true,Int.toNat_natCast]
 have d6:(m:Int).fdiv (2 ^ 6)=((m / 64:Nat):Int):=fdivN m 64
 have d12:(m:Int).fdiv (2 ^ 12)=((m / 4096:Nat):Int):=fdivN m 4096
 have d18:(m:Int).fdiv (2 ^ 18)=((m / 262144:Nat):Int):=fdivN m 262144
 have a0:=and63 m (by omega)
 have a6:=and63 (m / 64) (by omega)
 have a12:=and63 (m / 4096) (by omega)
 have o0:orK .i64 128 ((m % 64:Nat):Int)=((128 + m % 64:Nat):Int):=or_hd 128 6 2 rfl (by omega) (by omega)
 have o6:orK .i64 128 ((m / 64 % 64:Nat):Int)=((128 + m / 64 % 64:Nat):Int):=or_hd 128 6 2 rfl (by omega) (by omega)
 have o12:orK .i64 128 ((m / 4096 % 64:Nat):Int)=((128 + m / 4096 % 64:Nat):Int):=or_hd 128 6 2 rfl (by omega) (by omega)
 cases q:decide ((m:Int)≤127)
 ·have hq:¬ m≤127:=by simp only [decide_eq_false_iff_not] at q; omega
  cases q2:decide ((m:Int)≤2047)
  ·have hq2:¬ m≤2047:=by simp only [decide_eq_false_iff_not] at q2; omega
   cases q3:decide ((m:Int)≤65535)
   ·have hq3:¬ m≤65535:=by simp only [decide_eq_false_iff_not] at q3; omega
    have t:orK .i64 240 ((m / 262144:Nat):Int)=((240 + m / 262144:Nat):Int):=or_hd 240 3 30 rfl (by omega) (by omega)
    have ee:List.take (b.length + 4) (List.map uR b++[[uT (mkU ((240 + m / 262144:Nat):Int))],[uT (mkU ((128 + m / 4096 % 64:Nat):Int))],[uT (mkU ((128 + m / 64 % 64:Nat):Int))],[uT (mkU ((128 + m % 64:Nat):Int))]])=List.map uR (b++enc8 m):=by
     rw [List.take_of_length_le (by simp),mkU_nat,mkU_nat,mkU_nat,mkU_nat]
     simp only [enc8,if_neg hq,if_neg hq2,if_neg hq3,List.map_append,List.map_cons,List.map_nil]
    refine X0 x_Ds.eq_1 ?_
    refine .of (c_E3 _) ?_
    try simp -implicitDefEqProofs (maxSteps:=1000000) only [go_sem,hn,ep,q,q2,q3,show Nat.min 6 64=6 from rfl,show Nat.min 12 64=12 from rfl,show Nat.min 18 64=18 from rfl,d6,d12,d18,a0,a6,a12,o0,o6,o12,t,mkU_wrap,ee]
    repeat refine ⟨sc,?_⟩
    try exact sf
   ·have hq3:m≤65535:=by simp only [decide_eq_true_eq] at q3; omega
    have t:orK .i64 224 ((m / 4096:Nat):Int)=((224 + m / 4096:Nat):Int):=or_hd 224 4 14 rfl (by omega) (by omega)
    have ee:List.take (b.length + 3) (List.map uR b++[[uT (mkU ((224 + m / 4096:Nat):Int))],[uT (mkU ((128 + m / 64 % 64:Nat):Int))],[uT (mkU ((128 + m % 64:Nat):Int))]])=List.map uR (b++enc8 m):=by
     rw [List.take_of_length_le (by simp),mkU_nat,mkU_nat,mkU_nat]
     simp only [enc8,if_neg hq,if_neg hq2,if_pos hq3,List.map_append,List.map_cons,List.map_nil]
    refine X0 x_Ds.eq_1 ?_
    refine .of (c_E3 _) ?_
    try simp -implicitDefEqProofs (maxSteps:=1000000) only [go_sem,hn,ep,q,q2,q3,show Nat.min 6 64=6 from rfl,show Nat.min 12 64=12 from rfl,d6,d12,a0,a6,o0,o6,t,mkU_wrap,ee]
    repeat refine ⟨sc,?_⟩
    try exact sf
  ·have hq2:m≤2047:=by simp only [decide_eq_true_eq] at q2; omega
   have t:orK .i64 192 ((m / 64:Nat):Int)=((192 + m / 64:Nat):Int):=or_hd 192 6 3 rfl (by omega) (by omega)
   have ee:List.take (b.length + 2) (List.map uR b++[[uT (mkU ((192 + m / 64:Nat):Int))],[uT (mkU ((128 + m % 64:Nat):Int))]])=List.map uR (b++enc8 m):=by
    rw [List.take_of_length_le (by simp),mkU_nat,mkU_nat]
    simp only [enc8,if_neg hq,if_pos hq2,List.map_append,List.map_cons,List.map_nil]
   refine X0 x_Ds.eq_1 ?_
   refine .of (c_E3 _) ?_
   try simp -implicitDefEqProofs (maxSteps:=1000000) only [go_sem,hn,ep,q,q2,show Nat.min 6 64=6 from rfl,d6,a0,o0,t,mkU_wrap,ee]
   repeat refine ⟨sc,?_⟩
   try exact sf
 ·have hq:m≤127:=by simp only [decide_eq_true_eq] at q; omega
  have ee:List.take (b.length + 1) (List.map uR b++[[uT (mkU (m:Int))]])=List.map uR (b++enc8 m):=by
   rw [List.take_of_length_le (by simp),mkU_nat]
   simp only [enc8,if_pos hq,List.map_append,List.map_cons,List.map_nil]
  refine X0 x_Ds.eq_1 ?_
  refine .of (c_E3 _) ?_
  try simp -implicitDefEqProofs (maxSteps:=1000000) only [go_sem,hn,ep,q,mkU_wrap,ee]
  repeat refine ⟨sc,?_⟩
  try exact sf
def x_Gf:FnX:=⟨68,[.cell 2 (some 7)],
  .q [.op 2 (.alloc [.e,.i 0,.nils 1,.i 0,.nils 1,.i 0,.F])]
 (.q [.m 9 0,.op 10 (.call 168 [5] [(.t 9)]),.m 3 10]
 (.q [.m 11 0,.op 12 (.call 93 [5] [(.t 11)]),.m 4 12]
 (.seq (.q [.m 13 0,.op 14 (.call 96 [5,0] [(.t 13),(.i 6)])]
 (.block 0 (.q [.B 16 .eql 14 0,.m 15 16]
 (.cond 15 (.q [.m 17 4,.op 18 (.bslice 1 [(.k (.one (.pv (.int .u8 128)))),(.k (.one (.pv (.int .u8 65))))]),.op 19 (.build [.i 0,.nils 1] [(0,1,(.i 3)),(1,1,(.t 18))]),.op 20 (.build [.e,.i 0,.nils 1,.i 0,.nils 1,.i 0,.F] [(0,1,(.t 17)),(1,2,(.t 19)),(5,1,(.i 1)),(6,1,.T)]),.s 100001 7 2 20]
 .ret) (.q [.B 22 .eql 14 1,.m 21 22]
 (.c 21 (.q [.m 24 4,.m 25 3,.m 26 0,.m 27 3,.op 28 (.call 106 [5,0,0] [(.t 26),(.t 27),(.i 5)]),.op 29 (.call 109 [0,0,0,0] [(.i 0),(.t 24),(.t 25),(.t 28)]),.m 23 29,.e 30 23 0,.e 31 23 1,.op 5 (.alloc [.e,.i 0,.nils 1,.i 0,.nils 1,.i 0,.F]),.s 100002 7 5 30,.m 6 31]
 (.q [.L 32 7 5,.s 100003 7 2 32]
 .ret))))))))
 (.q [.m 34 0,.op 35 (.call 96 [5,0] [(.t 34),(.i 8)]),.m 36 4,.m 37 3,.m 38 0,.m 39 0,.m 40 3,.m 41 3,.m 42 3,.op 43 (.bslice 1 [(.t 40),(.t 41),(.t 42),(.i 0)]),.op 44 (.call 70 [5,1] [(.t 39),(.t 43)]),.op 45 (.call 106 [5,0,0] [(.t 38),(.t 44),(.i 5)]),.c 46 109 [35,36,37,45],.m 33 46,.e 47 33 0,.e 48 33 1,.op 7 (.alloc [.e,.i 0,.nils 1,.i 0,.nils 1,.i 0,.F]),.s 100004 7 7 47,.m 8 48]
 (.seq (.q [.m 49 8,.B 50 .neq 49 0]
 (.c 50 (.reg [.m 52 4,.m 53 3,.op 54 (.call 109 [0,0,0,0] [(.i 5),(.t 52),(.t 53),(.k (.one (.pv (.string ⟨#[120]⟩))))]),.m 51 54,.e 55 51 0,.e 56 51 1,.s 100005 7 7 55])))
 (.seq (.q [.m 57 0,.op 58 (.call 96 [5,0] [(.t 57),(.i 5)])]
 (.block 1 (.q [.B 60 .eql 58 0,.m 59 60]
 (.cond 59 (.q [.L 61 7 7,.c 62 201 [61],.s 100006 7 2 62]
 .ret) (.q [.B 64 .eql 58 1,.m 63 64]
 (.c 63 (.q [.L 65 7 7,.c 66 203 [65],.s 100007 7 2 66]
 .ret)))))))
 (.q [.L 67 7 7,.s 100008 7 2 67]
 .ret)))))))⟩
theorem r_Gf {Te:TE} (c_G0:C_G0 Te) (c_Fq:C_Fq Te) (c_Fk:C_Fk Te) (c_G9:C_G9 Te) (c_Dy:C_Dy Te) (c_Fp:C_Fp Te) (c_D7:C_D7 Te) (c_Ct:C_Ct Te):∀ (c:CurV) (hc:c.ok),∃ r0,(∃ (r:RowV) (d:CurV),(r.In (2 ^ 20)∧d.ok)∧r0=(⟨[.agg (r.enc true)],[d.enc]⟩:Res))∧RunFn Te x_Gf [.ptr c.enc] r0:=by
 intro c hc
 refine some_of (Nat.le_of_ble_eq_true rfl) (by rfl) ?_
 have e:∀ j k:Int,k≠j→(k==j)=false:=fun j k h=>by simpa using h
 simp -implicitDefEqProofs (maxSteps:=1000000) only [x_Gf,go_sem]
 repeat refine ⟨sc,?_⟩
 try exact sf
 obtain ⟨cs,d,⟨_,hd⟩,ht⟩:=c_G0 c hc
 refine C0 (ht) ?_
 obtain ⟨key,d,⟨hkey,hd⟩,ht⟩:=c_Fq d hd
 have hk:key.size≤2 ^ 20:=by omega
 refine C0 (ht) ?_
 obtain ⟨k,d,⟨_,hd⟩,ht⟩:=c_Fk d 6 hd
 by_cases q0:k=0
 ·subst q0
  refine C0 (ht) ?_
  exact ⟨⟨key,⟨3,[128,65]⟩,⟨0,[]⟩,1,true⟩,d,⟨⟨hk,by show 2≤2 ^ 20; decide,Nat.zero_le _⟩,hd⟩,rfl⟩
 by_cases q1:k=1
 ·subst q1
  obtain ⟨s,d,⟨hs,hd⟩,ht1⟩:=c_G9 d cs 5 hd (by decide)
  replace hs:s.size≤20:=hs
  refine C0 (ht) ?_
  refine C0 (ht1) ?_
  refine C0 (c_Dy 0 key cs s hk (by omega)) ?_
  exact ⟨(rowOf 0 key cs s).1,d,⟨rowOf_in hk,hd⟩,rfl⟩
 obtain ⟨p,d,⟨_,hd⟩,ht1⟩:=c_Fk d 8 hd
 obtain ⟨u,d,⟨_,hd⟩,ht2⟩:=c_Fp d [cs,cs,cs,0] hd (by simp)
 obtain ⟨s,d,⟨hs,hd⟩,ht3⟩:=c_G9 d u 5 hd (by decide)
 replace hs:s.size≤20:=hs
 obtain ⟨v,d,⟨_,hd⟩,ht4⟩:=c_Fk d 5 hd
 have h1:(rowOf p key cs s).1.In (2 ^ 20):=rowOf_in hk
 have h2:(rowOf 5 key cs ⟨#[120]⟩).1.In (2 ^ 20):=rowOf_in hk
 have hx:(⟨#[120]⟩:ByteArray).size≤2 ^ 20:=by decide
 cases g:(rowOf p key cs s).2 != 0
 ·by_cases q2:v=0
  ·subst q2
   refine .of (ht) ?_
   try simp -implicitDefEqProofs (maxSteps:=1000000) only [go_sem,e 0 k q0,e 1 k q1]
   repeat refine ⟨sc,?_⟩
   try exact sf
   refine C0 (ht1) ?_
   refine C0 (ht2) ?_
   refine C0 (ht3) ?_
   refine C1 (c_Dy p key cs s hk (by omega)) g ?_
   refine C0 (ht4) ?_
   refine C0 (c_D7 _ h1) ?_
   exact ⟨(rowOf p key cs s).1.fill,d,⟨fill_in2 h1,hd⟩,rfl⟩
  by_cases q3:v=1
  ·subst q3
   refine .of (ht) ?_
   try simp -implicitDefEqProofs (maxSteps:=1000000) only [go_sem,e 0 k q0,e 1 k q1]
   repeat refine ⟨sc,?_⟩
   try exact sf
   refine C0 (ht1) ?_
   refine C0 (ht2) ?_
   refine C0 (ht3) ?_
   refine C1 (c_Dy p key cs s hk (by omega)) g ?_
   refine C0 (ht4) ?_
   refine C0 (c_Ct _ h1) ?_
   exact ⟨(rowOf p key cs s).1.back,d,⟨back_in2 h1,hd⟩,rfl⟩
  refine .of (ht) ?_
  try simp -implicitDefEqProofs (maxSteps:=1000000) only [go_sem,e 0 k q0,e 1 k q1]
  repeat refine ⟨sc,?_⟩
  try exact sf
  refine C0 (ht1) ?_
  refine C0 (ht2) ?_
  refine C0 (ht3) ?_
  refine C1 (c_Dy p key cs s hk (by omega)) g ?_
  refine .of (ht4) ?_
  try simp -implicitDefEqProofs (maxSteps:=1000000) only [go_sem,e 0 v q2,e 1 v q3]
  repeat refine ⟨sc,?_⟩
  try exact sf
  exact ⟨(rowOf p key cs s).1,d,⟨h1,hd⟩,rfl⟩
 ·by_cases q2:v=0
  ·subst q2
   refine .of (ht) ?_
   try simp -implicitDefEqProofs (maxSteps:=1000000) only [go_sem,e 0 k q0,e 1 k q1]
   repeat refine ⟨sc,?_⟩
   try exact sf
   refine C0 (ht1) ?_
   refine C0 (ht2) ?_
   refine C0 (ht3) ?_
   refine C1 (c_Dy p key cs s hk (by omega)) g ?_
   refine C0 (c_Dy 5 key cs ⟨#[120]⟩ hk hx) ?_
   refine C0 (ht4) ?_
   refine C0 (c_D7 _ h2) ?_
   exact ⟨(rowOf 5 key cs ⟨#[120]⟩).1.fill,d,⟨fill_in2 h2,hd⟩,rfl⟩
  by_cases q3:v=1
  ·subst q3
   refine .of (ht) ?_
   try simp -implicitDefEqProofs (maxSteps:=1000000) only [go_sem,e 0 k q0,e 1 k q1]
   repeat refine ⟨sc,?_⟩
   try exact sf
   refine C0 (ht1) ?_
   refine C0 (ht2) ?_
   refine C0 (ht3) ?_
   refine C1 (c_Dy p key cs s hk (by omega)) g ?_
   refine C0 (c_Dy 5 key cs ⟨#[120]⟩ hk hx) ?_
   refine C0 (ht4) ?_
   refine C0 (c_Ct _ h2) ?_
   exact ⟨(rowOf 5 key cs ⟨#[120]⟩).1.back,d,⟨back_in2 h2,hd⟩,rfl⟩
  refine .of (ht) ?_
  try simp -implicitDefEqProofs (maxSteps:=1000000) only [go_sem,e 0 k q0,e 1 k q1]
  repeat refine ⟨sc,?_⟩
  try exact sf
  refine C0 (ht1) ?_
  refine C0 (ht2) ?_
  refine C0 (ht3) ?_
  refine C1 (c_Dy p key cs s hk (by omega)) g ?_
  refine C0 (c_Dy 5 key cs ⟨#[120]⟩ hk hx) ?_
  refine .of (ht4) ?_
  try simp -implicitDefEqProofs (maxSteps:=1000000) only [go_sem,e 0 v q2,e 1 v q3]
  repeat refine ⟨sc,?_⟩
  try exact sf
  exact ⟨(rowOf 5 key cs ⟨#[120]⟩).1,d,⟨h2,hd⟩,rfl⟩
def x_Bz:FnX:=⟨12,[.tmp 2],
  .q [.v 1 0,.F 2]
 (.q [.L 3 10 1,.c 4 23 [3],.m 5 4,.y 5 (.f 6 1 0),.y 5 (.f 7 6 0),.y 5 (.f 8 7 3),.y 5 (.l 9 8),.y 5 (.N 10 9),.a 11 5 10,.m 2 11]
 .ret)⟩
theorem r_Bz {Te:TE} (c_Aq:C_Aq Te):C_Bz (RF Te x_Bz):=by
 intro n h
 refine X0 x_Bz.eq_1 ?_
 refine C0 (c_Aq n h) ?_
 cases g:n.ok
 ·have e:n.up=false:=by rw [NodeV.up,g]; rfl
  exact F1 e
 ·have e:n.up = !n.S.D.Down:=by rw [NodeV.up,g]; rfl
  exact F1 e
def x_F7:FnX:=⟨12,[.tmp 2],
  .q [.v 1 0,.F 2]
 (.q [.L 3 10 1,.c 4 43 [3],.m 5 4,.y 5 (.f 6 1 0),.y 5 (.f 7 6 0),.y 5 (.f 8 7 3),.y 5 (.l 9 8),.y 5 (.N 10 9),.a 11 5 10,.m 2 11]
 .ret)⟩
theorem r_F7 {Te:TE} (c_Dk:C_Dk Te):C_F7 (RF Te x_F7):=by
 intro n h
 refine X0 x_F7.eq_1 ?_
 refine C0 (c_Dk n h) ?_
 cases g:n.ok
 ·have e:n.up=false:=by rw [NodeV.up,g]; rfl
  exact F1 e
 ·have e:n.up = !n.S.D.Down:=by rw [NodeV.up,g]; rfl
  exact F1 e
def x_B7:FnX:=⟨18,[.tmp 2,.tmp 3],
  .q [.v 1 0,.op 2 (.mv (.k (.one (.pv (.string ⟨#[]⟩))))),.F 3]
 (.seq (.q [.f 4 1 5,.l 5 4,.B 6 .and 5 2,.B 7 .neq 6 0]
 (.c 7 (.q [.f 8 1 3,.L 9 2 8,.c 10 177 [9],.e 11 10 0,.e 12 10 1,.m 2 11,.m 3 12]
 .ret)))
 (.q [.f 13 1 1,.L 14 2 13,.c 15 177 [14],.e 16 15 0,.e 17 15 1,.m 2 16,.m 3 17]
 .ret))⟩
theorem r_B7 {Te:TE} (c_A7:C_A7 Te):C_B7 (RF Te x_B7):=by
 intro r h
 have e:=and2_ne _ h
 refine X1 x_B7.eq_1 e ?_
 by_cases g:r.Has=1
 ·have e2:r.rtext=r.Old.text:=if_pos g
  have e3:decide (r.Has≠1)=false:=by simp [g]
  refine G1 e3 ?_
  exact D1 (c_A7 r.Old) e2
 ·have e2:r.rtext=r.New.text:=if_neg g
  have e3:decide (r.Has≠1)=true:=by simp [g]
  refine G1 e3 ?_
  exact D1 (c_A7 r.New) e2
def x_E0:FnX:=⟨16,[.tmp 2,.tmp 3],
  .q [.v 1 0,.op 2 (.mv (.k (.one (.pv (.string ⟨#[]⟩))))),.F 3]
 (.seq (.q [.L 4 7 1,.c 5 196 [4]]
 (.c 5 (.q [.f 6 1 3,.L 7 2 6,.c 8 197 [7],.e 9 8 0,.e 10 8 1,.m 2 9,.m 3 10]
 .ret)))
 (.q [.f 11 1 1,.L 12 2 11,.c 13 197 [12],.e 14 13 0,.e 15 13 1,.m 2 14,.m 3 15]
 .ret))⟩
theorem r_E0 {Te:TE} (c_Gg:C_Gg Te) (c_Cx:C_Cx Te):C_E0 (RF Te x_E0):=by
 intro r h
 refine X0 x_E0.eq_1 ?_
 refine C0 (c_Gg r h) ?_
 by_cases g:r.Has=1
 ·have e2:r.rtext=r.Old.text:=if_pos g
  have e3:decide (r.Has≠1)=false:=by simp [g]
  refine G1 e3 ?_
  exact D1 (c_Cx r.Old) e2
 ·have e2:r.rtext=r.New.text:=if_neg g
  have e3:decide (r.Has≠1)=true:=by simp [g]
  refine G1 e3 ?_
  exact D1 (c_Cx r.New) e2
def x_B4:FnX:=⟨8,[.tmp 3],
  .q [.v 2 0,.F 3]
 (.q [.f 4 2 0,.l 5 4,.l 6 1,.b 7 .eql 5 6,.m 3 7]
 .ret)⟩
theorem r_B4 {Te:TE}:C_B4 (RF Te x_B4):=by
 intro r key
 refine run0 ?_
 simp -implicitDefEqProofs (maxSteps:=1000000) only [x_B4,go_sem]
 repeat refine ⟨sc,?_⟩
 try exact sf
def x_Gp:FnX:=⟨19,[.tmp 4],
  .q [.i 4 0]
 (.seq (.q [.m 6 0,.n 7 6,.i 8 0]
 (.block 0 (.loop [0,1,7,8] (.q [.b 9 .lss 8 7]
 (.seq (.cond 9 .skip (.exit 0))
 (.seq (.block 1 (.q [.m 10 8,.m 5 10]
 (.q [.m 11 1,.m 12 0,.m 13 5,.x 14 7 12 13,.L 15 7 14,.op 16 (.dcall 176 [0,3] [(.t 15)] (.t 11))]
 (.c 16 (.q [.m 17 5,.m 4 17]
 .ret)))))
 (.reg [.B 18 .add 8 1,.m 8 18])))))))
 (.norm [] (.q [.i 4 (-1)]
 .ret)))⟩
theorem r_Gp {Te:TE} (c_B4:C_B4 Te):C_Gp (RFV Te 176 x_Gp):=by
 intro l key hl
 refine run0V ?_
 simp -implicitDefEqProofs (maxSteps:=1000000) only [x_Gp,go_sem]
 repeat refine ⟨sc,?_⟩
 try exact sf
 refine loop_of (σ:=Nat) (fun i=>⟨[(0,.one (.ro 7 (l.map (RowV.enc false)))),(1,.fn 176 1 0),(7,.one (.pv (.int .i64 l.length))),(8,.one (.pv (.int .i64 i)))],[(1,[.pv (.string key)])],[(0,[slT false 7 (RowV.enc false) l]),(1,[sT key])]⟩) (fun i=>i≤l.length∧∀ j (hj:j < l.length),j < i→decide (l[j].Key=key)=false) (fun i=>l.length - i) 0 ?_ ⟨Nat.zero_le _,fun j _ h=>absurd h (Nat.not_lt_zero _)⟩ ?_
 ·simp -implicitDefEqProofs (maxSteps:=1000000) only [go_sem]
  try rfl
 ·rintro i ⟨hi,hp⟩
  cases q:decide ((i:Int) < (l.length:Int))
  ·have e:=rowAt_none (i:=i) (by simp only [decide_eq_false_iff_not] at q; omega) hp
   exact F2 q e
  ·have k1:i < l.length:=by simp only [decide_eq_true_eq] at q; omega
   refine G2 q (List.getElem?_eq_getElem k1) ?_
   refine C0 (c_B4 l[i] key) ?_
   cases g:decide (l[i].Key=key)
   ·refine G1 g ?_
    refine ⟨i + 1,?_,⟨k1,rowAt_step k1 hp g⟩,by omega⟩
    rw [IntWalk.i64_in _ (by omega)]
    rfl
   ·have e:=(rowAt_hit k1 hp g).1
    exact F2 g e
def x_B3:FnX:=⟨9,[.tmp 4],
  .q [.v 2 0,.v 3 1,.i 4 0]
 (.q [.f 5 2 0,.l 6 5,.op 7 (.clos 176 (.t 3)),.op 8 (.vcall 175 176 [0,3] [(.t 6)] (.t 7)),.m 4 8]
 .ret)⟩
theorem r_B3 {Te:TE} (c_Gp:C_Gp Te):C_B3 (RF Te x_B3):=by
 intro t key hl
 refine X0 x_B3.eq_1 ?_
 exact D0 (c_Gp t.Rows key hl)
def x_Dx:FnX:=⟨22,[.tmp 4],
  .q [.v 2 0,.i 4 0]
 (.seq (.q [.i 5 0]
 (.block 0 (.loop [1,2,5] (.seq (.q [.m 6 5,.f 7 2 0,.l 8 7,.n 9 8,.b 10 .lss 6 9]
 (.cond 10 .skip (.exit 0)))
 (.seq (.block 1 (.q [.f 13 2 0,.l 14 13,.m 15 5,.x 16 7 14 15,.f 17 16 0,.l 18 17,.m 19 1,.b 20 .eql 18 19]
 (.c 20 (.q [.m 21 5,.m 4 21]
 .ret))))
 (.reg [.m 11 5,.B 12 .add 11 1,.m 5 12]))))))
 (.norm [] (.q [.i 4 (-1)]
 .ret)))⟩
theorem r_Dx {Te:TE}:C_Dx (RF Te x_Dx):=by
 intro t key hl
 refine X0 x_Dx.eq_1 ?_
 refine loop_of (σ:=Nat) (fun i=>⟨[(1,.one (.pv (.string key))),(2,.bp 2 0),(5,.one (.pv (.int .i64 i)))],[(2,[.ro 7 (t.Rows.map (RowV.enc false)),.pv (.int .i64 t.Phase),.ro 3 (t.Marks.map MarkV.row)])],[(0,t.enc false),(1,[sT key])]⟩) (fun i=>i≤t.Rows.length∧∀ j (hj:j < t.Rows.length),j < i→decide (t.Rows[j].Key=key)=false) (fun i=>t.Rows.length - i) 0 ?_ ⟨Nat.zero_le _,fun j _ h=>absurd h (Nat.not_lt_zero _)⟩ ?_
 ·simp -implicitDefEqProofs (maxSteps:=1000000) only [go_sem]
  try rfl
 ·rintro i ⟨hi,hp⟩
  cases q:decide ((i:Int) < (t.Rows.length:Int))
  ·have e:=rowAt_none (i:=i) (by simp only [decide_eq_false_iff_not] at q; omega) hp
   exact F2 q e
  ·have k1:i < t.Rows.length:=by simp only [decide_eq_true_eq] at q; omega
   cases g:decide (t.Rows[i].Key=key)
   ·refine G3 q (List.getElem?_eq_getElem k1) g ?_
    refine ⟨i + 1,?_,⟨k1,rowAt_step k1 hp g⟩,by omega⟩
    rw [IntWalk.i64_in _ (by omega)]
    rfl
   ·have e:=(rowAt_hit k1 hp g).1
    exact F4 q (List.getElem?_eq_getElem k1) g e
def x_Ap:FnX:=⟨33,[.tmp 4,.tmp 5],
  .q [.v 2 0,.op 4 (.mv (.k (.one (.pv (.string ⟨#[]⟩))))),.i 5 0]
 (.seq (.q [.L 9 10 2,.c 10 82 [9],.N 11 10]
 (.c 11 (.q [.op 4 (.mv (.k (.one (.pv (.string ⟨#[]⟩))))),.i 5 1]
 .ret)))
 (.q [.f 12 2 0,.f 13 12 4,.L 14 3 13,.m 15 1,.c 16 87 [14,15],.m 6 16]
 (.seq (.q [.m 17 6,.B 18 .lss 17 0]
 (.c 18 (.q [.op 4 (.mv (.k (.one (.pv (.string ⟨#[]⟩))))),.i 5 2]
 .ret)))
 (.q [.f 20 2 0,.f 21 20 4,.f 22 21 0,.l 23 22,.m 24 6,.x 25 7 23 24,.L 26 7 25,.c 27 88 [26],.m 19 27,.e 28 19 0,.e 29 19 1,.m 7 28,.m 8 29]
 (.seq (.q [.m 30 8,.N 31 30]
 (.c 31 (.q [.op 4 (.mv (.k (.one (.pv (.string ⟨#[]⟩))))),.i 5 4]
 .ret)))
 (.q [.m 32 7,.m 4 32,.i 5 0]
 .ret))))))⟩
theorem r_Ap {Te:TE} (c_Bz:C_Bz Te) (c_B3:C_B3 Te) (c_B7:C_B7 Te):C_Ap (RF Te x_Ap):=by
 intro n key h
 refine X0 x_Ap.eq_1 ?_
 refine C0 (c_Bz n h) ?_
 cases g:n.up
 ·have e:n.get key=(⟨#[]⟩,1):=by rw [NodeV.get,g]; rfl
  exact F1 e
 refine G0 ?_
 refine C0 (c_B3 n.S.T key h.2.1.1) ?_
 rcases rowAt_cases n.S.T.Rows key with ⟨e1,e2⟩ | ⟨hk,e1,e2⟩
 ·have e:n.get key=(⟨#[]⟩,2):=by rw [NodeV.get,g,e2]; rfl
  exact F2 e1 e
 have hr:=rowOk_13 (TabV.ok_row (NodeV.up_tab g) hk)
 have c1:decide ((rowIx n.S.T.Rows key:Int) < 0)=false:=decide_eq_false (by omega)
 refine G3 e1 e2 c1 ?_
 refine C0 (c_B7 n.S.T.Rows[rowIx n.S.T.Rows key] hr) ?_
 cases g2:n.S.T.Rows[rowIx n.S.T.Rows key].rtext.2
 ·have e:n.get key=(⟨#[]⟩,4):=by rw [NodeV.get,g,e2]; simp only [if_true,g2]; rfl
  exact F2 e g2
 ·have e:n.get key=(n.S.T.Rows[rowIx n.S.T.Rows key].rtext.1,0):=by rw [NodeV.get,g,e2]; simp only [if_true,g2]
  exact F2 e g2
def x_El:FnX:=⟨32,[.tmp 2],
  .q [.v 1 0,.F 2]
 (.seq (.q [.f 3 1 10,.l 4 3,.B 5 .eql 4 0]
 (.c 5 (.q [.f 6 1 11,.l 7 6,.B 8 .eql 7 0,.m 9 8,.y 9 (.f 10 1 12),.y 9 (.l 11 10),.y 9 (.B 12 .eql 11 0),.a 13 9 12,.m 14 13,.y 14 (.f 15 1 0),.y 14 (.l 16 15),.y 14 (.B 17 .neq 16 4),.a 18 14 17,.m 2 18]
 .ret)))
 (.q [.f 19 1 10,.l 20 19,.op 21 (.call 120 [0,0,0] [(.t 20),(.i 1),(.i 9)]),.m 22 21,.y 22 (.f 23 1 11),.y 22 (.l 24 23),.y 22 (.c 25 161 [24]),.a 26 22 25,.m 27 26,.y 27 (.f 28 1 12),.y 27 (.l 29 28),.y 27 (.op 30 (.call 120 [0,0,0] [(.t 29),(.i 0),(.i 6)])),.a 31 27 30,.m 2 31]
 .ret))⟩
theorem r_El {Te:TE} (c_Fo:C_Fo Te) (c_Fw:C_Fw Te):C_El (RF Te x_El):=by
 intro r
 refine X0 x_El.eq_1 ?_
 cases g0:(r.Who==0)
 ·refine G1 g0 ?_
  refine C0 (c_Fo _ _ _) ?_
  cases g1:win r.Who 1 9
  ·try simp -implicitDefEqProofs (maxSteps:=1000000) only [go_sem,RecV.who,g0,g1]
   repeat refine ⟨sc,?_⟩
   try exact sf
  refine G0 ?_
  refine C0 (c_Fw _) ?_
  cases g2:win r.Seq 0 65535
  ·try simp -implicitDefEqProofs (maxSteps:=1000000) only [go_sem,RecV.who,g0,g1,g2]
   repeat refine ⟨sc,?_⟩
   try exact sf
  refine G0 ?_
  refine .of (c_Fo _ _ _) ?_
  try simp -implicitDefEqProofs (maxSteps:=1000000) only [go_sem,RecV.who,g0,g1,g2]
  repeat refine ⟨sc,?_⟩
  try exact sf
 ·refine G1 g0 ?_
  cases g1:(r.Seq==0)
  ·try simp -implicitDefEqProofs (maxSteps:=1000000) only [go_sem,RecV.who,g0,g1]
   repeat refine ⟨sc,?_⟩
   try exact sf
  refine G1 g1 ?_
  cases g2:(r.Code==0)
  ·try simp -implicitDefEqProofs (maxSteps:=1000000) only [go_sem,RecV.who,g0,g1,g2]
   repeat refine ⟨sc,?_⟩
   try exact sf
  try simp -implicitDefEqProofs (maxSteps:=1000000) only [go_sem,RecV.who,g0,g1,g2]
  repeat refine ⟨sc,?_⟩
  try exact sf
def x_Dv:FnX:=⟨48,[.tmp 2],
  .q [.v 1 0,.F 2]
 (.q [.f 6 1 1,.L 7 7 6,.c 8 334 [7],.m 3 8]
 (.q [.f 9 1 8,.l 10 9,.op 11 (.bin .eql (.t 10) (.k (.one (.pv (.string ⟨#[]⟩))))),.m 4 11]
 (.q [.f 12 1 9,.l 13 12,.B 14 .eql 13 0,.m 5 14]
 (.seq (.q [.f 15 1 0,.l 16 15]
 (.block 0 (.q [.B 18 .eql 16 1,.m 17 18]
 (.cond 17 (.reg [.f 19 1 1,.L 20 7 19,.c 21 289 [20],.m 3 21]) (.q [.B 23 .eql 16 2,.m 22 23]
 (.cond 22 (.reg [.f 24 1 8,.l 25 24,.c 26 101 [25],.m 4 26]) (.q [.B 28 .eql 16 3,.m 27 28]
 (.c 27 (.reg [.f 29 1 9,.l 30 29,.op 31 (.call 120 [0,0,0] [(.t 30),(.i 0),(.i 7)]),.m 5 31])))))))))
 (.q [.f 32 1 0,.l 33 32,.op 34 (.call 120 [0,0,0] [(.t 33),(.i 1),(.i 4)]),.m 35 34,.y 35 (.m 36 3),.a 37 35 36,.m 38 37,.y 38 (.m 39 4),.a 40 38 39,.m 41 40,.y 41 (.m 42 5),.a 43 41 42,.m 44 43,.y 44 (.L 45 13 1),.y 44 (.c 46 335 [45]),.a 47 44 46,.m 2 47]
 .ret)))))⟩
theorem r_Dv {Te:TE} (c_Ek:C_Ek Te) (c_Dz:C_Dz Te) (c_De:C_De Te) (c_Fo:C_Fo Te) (c_El:C_El Te):C_Dv (RF Te x_Dv):=by
 intro r h
 refine run0 ?_
 have hR:=h.1
 have hK:=h.2
 simp -implicitDefEqProofs (maxSteps:=1000000) only [x_Dv,go_sem,bytes_beq]
 repeat refine ⟨sc,?_⟩
 try exact sf
 refine .of (c_Ek r.R) ?_
 try simp -implicitDefEqProofs (maxSteps:=1000000) only [go_sem,bytes_beq]
 repeat refine ⟨sc,?_⟩
 try exact sf
 cases gk:win r.Kind 1 4
 ·obtain ⟨k1,k2,k3,k4⟩:=kind_win gk
  refine G3 k1 k2 k3 ?_
  refine .of (c_Fo _ _ _) ?_
  try simp -implicitDefEqProofs (maxSteps:=1000000) only [go_sem,gk,RecV.ok,RecV.body,k1,k2,k3,k4]
  repeat refine ⟨sc,?_⟩
  try exact sf
 obtain ⟨kind,R,key,n,who,seq,code⟩:=r
 simp only at gk hR hK
 rcases win_kind gk with rfl | rfl | rfl | rfl
 ·skip
  refine G0 ?_
  refine C0 (c_Dz R hR) ?_
  refine C1 (c_Fo _ _ _) gk ?_
  cases g1:R.ok
  ·try simp -implicitDefEqProofs (maxSteps:=1000000) only [go_sem,RecV.ok,RecV.body,g1]
   repeat refine ⟨sc,?_⟩
   try exact sf
  refine G0 ?_
  cases g2:decide (key=⟨#[]⟩)
  ·try simp -implicitDefEqProofs (maxSteps:=1000000) only [go_sem,RecV.ok,RecV.body,g1,g2]
   repeat refine ⟨sc,?_⟩
   try exact sf
  refine G0 ?_
  cases g3:(n==0)
  ·try simp -implicitDefEqProofs (maxSteps:=1000000) only [go_sem,RecV.ok,RecV.body,g1,g2,g3]
   repeat refine ⟨sc,?_⟩
   try exact sf
  refine G0 ?_
  refine .of (c_El ⟨1,R,key,n,who,seq,code⟩) ?_
  try simp -implicitDefEqProofs (maxSteps:=1000000) only [go_sem,RecV.ok,RecV.body,g1,g2,g3]
  repeat refine ⟨sc,?_⟩
  try exact sf
 ·skip
  refine G0 ?_
  refine C0 (c_De key hK) ?_
  refine C1 (c_Fo _ _ _) gk ?_
  cases g1:R.no
  ·try simp -implicitDefEqProofs (maxSteps:=1000000) only [go_sem,RecV.ok,RecV.body,g1]
   repeat refine ⟨sc,?_⟩
   try exact sf
  refine G0 ?_
  cases g2:nameOk key
  ·try simp -implicitDefEqProofs (maxSteps:=1000000) only [go_sem,RecV.ok,RecV.body,g1,g2]
   repeat refine ⟨sc,?_⟩
   try exact sf
  refine G0 ?_
  cases g3:(n==0)
  ·try simp -implicitDefEqProofs (maxSteps:=1000000) only [go_sem,RecV.ok,RecV.body,g1,g2,g3]
   repeat refine ⟨sc,?_⟩
   try exact sf
  refine G0 ?_
  refine .of (c_El ⟨2,R,key,n,who,seq,code⟩) ?_
  try simp -implicitDefEqProofs (maxSteps:=1000000) only [go_sem,RecV.ok,RecV.body,g1,g2,g3]
  repeat refine ⟨sc,?_⟩
  try exact sf
 ·skip
  refine G0 ?_
  refine C0 (c_Fo _ _ _) ?_
  refine C1 (c_Fo _ _ _) gk ?_
  cases g1:R.no
  ·try simp -implicitDefEqProofs (maxSteps:=1000000) only [go_sem,RecV.ok,RecV.body,g1]
   repeat refine ⟨sc,?_⟩
   try exact sf
  refine G0 ?_
  cases g2:decide (key=⟨#[]⟩)
  ·try simp -implicitDefEqProofs (maxSteps:=1000000) only [go_sem,RecV.ok,RecV.body,g1,g2]
   repeat refine ⟨sc,?_⟩
   try exact sf
  refine G0 ?_
  cases g3:win n 0 7
  ·try simp -implicitDefEqProofs (maxSteps:=1000000) only [go_sem,RecV.ok,RecV.body,g1,g2,g3]
   repeat refine ⟨sc,?_⟩
   try exact sf
  refine G0 ?_
  refine .of (c_El ⟨3,R,key,n,who,seq,code⟩) ?_
  try simp -implicitDefEqProofs (maxSteps:=1000000) only [go_sem,RecV.ok,RecV.body,g1,g2,g3]
  repeat refine ⟨sc,?_⟩
  try exact sf
 ·skip
  refine G0 ?_
  refine C1 (c_Fo _ _ _) gk ?_
  cases g1:R.no
  ·try simp -implicitDefEqProofs (maxSteps:=1000000) only [go_sem,RecV.ok,RecV.body,g1]
   repeat refine ⟨sc,?_⟩
   try exact sf
  refine G0 ?_
  cases g2:decide (key=⟨#[]⟩)
  ·try simp -implicitDefEqProofs (maxSteps:=1000000) only [go_sem,RecV.ok,RecV.body,g1,g2]
   repeat refine ⟨sc,?_⟩
   try exact sf
  refine G0 ?_
  cases g3:(n==0)
  ·try simp -implicitDefEqProofs (maxSteps:=1000000) only [go_sem,RecV.ok,RecV.body,g1,g2,g3]
   repeat refine ⟨sc,?_⟩
   try exact sf
  refine G0 ?_
  refine .of (c_El ⟨4,R,key,n,who,seq,code⟩) ?_
  try simp -implicitDefEqProofs (maxSteps:=1000000) only [go_sem,RecV.ok,RecV.body,g1,g2,g3]
  repeat refine ⟨sc,?_⟩
  try exact sf
def x_Fp:FnX:=⟨12,[.tmp 4],
  .q [.i 4 0]
 (.q [.m 5 1,.m 6 0,.m 7 1,.n 8 7,.op 9 (.call 96 [5,0] [(.t 6),(.t 8)]),.x 10 1 5 9,.l 11 10,.m 4 11]
 .ret)⟩
theorem r_Fp {Te:TE} (c_Fk:C_Fk Te):∀ (c:CurV) (l:List Int) (hc:c.ok) (hl:0 < l.length∧l.length≤2 ^ 31),∃ r0,(∃ (r:Int) (d:CurV),(r∈l∧d.ok)∧r0=(⟨[.one (iT r)],[d.enc,[slT true 1 iR l]]⟩:Res))∧RunFn Te x_Fp [.ptr c.enc,.one (slT true 1 iR l)] r0:=by
 intro c l hc hl
 refine some_of (Nat.le_of_ble_eq_true rfl) (by rfl) ?_
 simp -implicitDefEqProofs only [x_Fp,go_sem]
 repeat refine ⟨sc,?_⟩
 try exact sf
 obtain ⟨r,d,⟨hr,hd⟩,ht⟩:=c_Fk c l.length hc
 have hr':r.toNat < l.length:=by have:=hr.2.1 (by omega); omega
 refine .of (ht) ?_
 try simp -implicitDefEqProofs only [go_sem,List.getD_eq_getElem?_getD,List.getElem?_eq_getElem hr']
 repeat refine ⟨sc,?_⟩
 try exact sf
 exact ⟨_,d,⟨List.getElem_mem hr',hd⟩,rfl⟩
def x_Fu:FnX:=⟨12,[.tmp 4],
  .q [.op 4 (.mv (.k (.one (.pv (.string ⟨#[]⟩)))))]
 (.q [.m 5 1,.m 6 0,.m 7 1,.n 8 7,.op 9 (.call 96 [5,0] [(.t 6),(.t 8)]),.x 10 1 5 9,.l 11 10,.m 4 11]
 .ret)⟩
theorem r_Fu {Te:TE} (c_Fk:C_Fk Te):∀ (c:CurV) (l:List ByteArray) (hc:c.ok) (hl:0 < l.length∧l.length≤2 ^ 31),∃ r0,(∃ (r:ByteArray) (d:CurV),(r∈l∧d.ok)∧r0=(⟨[.one (sT r)],[d.enc,[slT true 1 sR l]]⟩:Res))∧RunFn Te x_Fu [.ptr c.enc,.one (slT true 1 sR l)] r0:=by
 intro c l hc hl
 refine some_of (Nat.le_of_ble_eq_true rfl) (by rfl) ?_
 simp -implicitDefEqProofs only [x_Fu,go_sem]
 repeat refine ⟨sc,?_⟩
 try exact sf
 obtain ⟨r,d,⟨hr,hd⟩,ht⟩:=c_Fk c l.length hc
 have hr':r.toNat < l.length:=by have:=hr.2.1 (by omega); omega
 refine .of (ht) ?_
 try simp -implicitDefEqProofs only [go_sem,List.getD_eq_getElem?_getD,List.getElem?_eq_getElem hr']
 repeat refine ⟨sc,?_⟩
 try exact sf
 exact ⟨_,d,⟨List.getElem_mem hr',hd⟩,rfl⟩
def x_Fn:FnX:=⟨20,[.tmp 4],
  .q [.op 4 (.mv (.k (.one (.nils 1))))]
 (.q [.op 7 (.bslice 1 []),.m 5 7]
 (.seq (.q [.i 6 0]
 (.block 0 (.loop [0,1,5,6] (.seq (.q [.m 8 6,.m 9 1,.b 10 .lss 8 9]
 (.cond 10 .skip (.exit 0)))
 (.seq (.block 1 (.reg [.m 13 5,.m 14 0,.op 15 (.call 181 [5] [(.t 14)]),.op 16 (.conv (.int .u8) (.t 15)),.op 17 (.bslice 1 [(.t 16)]),.op 18 (.app 1 1 (.t 13) (.t 17)),.m 5 18]))
 (.reg [.m 11 6,.B 12 .add 11 1,.m 6 12]))))))
 (.norm [5] (.q [.m 19 5,.m 4 19]
 .ret))))⟩
theorem r_Fn {Te:TE} (c_Fm:C_Fm Te):∀ (c:CurV) (n:Int) (hc:c.ok) (hn:n≤2 ^ 20),∃ r0,(∃ (l:List UInt8) (d:CurV),((l.length:Int)≤max n 0∧d.ok)∧r0=(⟨[.one (slT true 1 uR l)],[d.enc,[iT n]]⟩:Res))∧RunFn Te x_Fn [.ptr c.enc,.one (iT n)] r0:=by
 intro c n hc hn
 refine some_of (Nat.le_of_ble_eq_true rfl) (by rfl) ?_
 simp -implicitDefEqProofs only [x_Fn,go_sem]
 repeat refine ⟨sc,?_⟩
 try exact sf
 refine loop_of (σ:=Nat×List UInt8×CurV) (fun x=>⟨[(0,.bp 0 0),(1,.one (.pv (.int .i64 n))),(5,.one (.rf 22 0 [] 1 0 x.2.1.length)),(6,.one (.pv (.int .i64 x.1)))],[(0,[.ro 1 (x.2.2.b.map uR),.pv (.int .i64 x.2.2.i),.pv (.int .i64 x.2.2.h)])],[(0,c.enc),(1,[iT n]),(22,[slT true 1 uR x.2.1])]⟩) (fun x=>(x.1:Int)≤max n 0∧x.2.1.length=x.1∧x.2.2.ok) (fun x=>n.toNat - x.1) (0,[],c) ?_ ⟨by simp only; omega,rfl,hc⟩ ?_
 ·simp -implicitDefEqProofs only [go_sem]
  try rfl
 ·rintro ⟨i,b,d⟩ ⟨hi,hb,hd⟩
  simp only at hi hb hd
  cases q:decide ((i:Int) < n)
  ·have et:List.take b.length (List.map uR b)=List.map uR b:=List.take_of_length_le (by simp)
   refine G2 q et ?_
   exact ⟨b,d,⟨by omega,hd⟩,rfl⟩
  ·have q':=q
   simp only [decide_eq_true_eq] at q'
   obtain ⟨r,d2,⟨_,hd2⟩,ht⟩:=c_Fm d hd
   have ea:=byte_row b r
   have et:List.take b.length (List.map uR b)=List.map uR b:=List.take_of_length_le (by simp)
   have xl:(b++[mkU r]).length=b.length + 1:=by simp only [List.length_append,List.length_cons,List.length_nil]
   have w2:IntKind.i64.wrap ((i:Int) + 1)=((i + 1:Nat):Int):=by rw [IntWalk.i64_in _ (by omega)]; rfl
   refine G1 q ?_
   refine C3 (ht) ea et w2 ?_
   exact ⟨(i + 1,b++[mkU r],d2),by rw [← xl],⟨by simp only; omega,by simp only [xl]; omega,hd2⟩,by simp only; omega⟩
def x_D2:FnX:=⟨63,[.tmp 2],
  .q [.v 1 0,.F 2]
 (.seq (.q [.i 3 0]
 (.block 0 (.loop [1,3] (.seq (.q [.m 5 3,.f 6 1 0,.l 7 6,.n 8 7,.b 9 .lss 5 8]
 (.cond 9 .skip (.exit 0)))
 (.seq (.block 1 (.q [.f 12 1 0,.l 13 12,.m 14 3,.x 15 1 13 14,.l 16 15,.n 17 16,.B 18 .gtr 17 120]
 (.c 18 (.q [.F 2]
 .ret))))
 (.reg [.m 10 3,.B 11 .add 10 1,.m 3 11]))))))
 (.norm [1] (.seq (.q [.i 4 0]
 (.block 2 (.loop [1,4] (.seq (.q [.m 19 4,.f 20 1 1,.l 21 20,.n 22 21,.b 23 .lss 19 22]
 (.cond 23 .skip (.exit 2)))
 (.seq (.block 3 (.seq (.draw [.f 26 1 1,.l 27 26,.m 28 4,.x 29 2 27 28,.f 30 29 0,.l 31 30,.f 32 1 0,.l 33 32,.n 34 33,.B 35 .sub 34 1,.op 36 (.call 120 [0,0,0] [(.t 31),(.i 0),(.t 35)]),.N 37 36,.m 38 37,.z 38 (.f 39 1 1),.z 38 (.l 40 39),.z 38 (.m 41 4),.z 38 (.x 42 2 40 41),.z 38 (.f 43 42 1),.z 38 (.l 44 43),.z 38 (.n 45 44),.z 38 (.B 46 .gtr 45 120),.r 47 38 46] [[],[0],[],[1,2],[3],[4],[],[6],[7],[8],[5,9],[10],[11,10],[12],[13,12],[12],[14,15,12],[16,12],[17,12],[18,12],[19,12],[12,20]])
 (.c 47 (.q [.F 2]
 .ret))))
 (.reg [.m 24 4,.B 25 .add 24 1,.m 4 25]))))))
 (.norm [1] (.q [.f 48 1 0,.l 49 48,.n 50 49,.op 51 (.call 120 [0,0,0] [(.t 50),(.i 1),(.i 64)]),.m 52 51,.y 52 (.f 53 1 1),.y 52 (.l 54 53),.y 52 (.n 55 54),.y 52 (.B 56 .leq 55 40),.a 57 52 56,.m 58 57,.y 58 (.f 59 1 2),.y 58 (.l 60 59),.y 58 (.op 61 (.call 120 [0,0,0] [(.t 60),(.i (-1)),(.i 1000)])),.a 62 58 61,.m 2 62]
 .ret)))))⟩
theorem r_D2 {Te:TE} (c_Fo:C_Fo Te):C_D2 (RF Te x_D2):=by
 intro d h
 obtain ⟨⟨hl,hS⟩,hl2,hC⟩:=h
 have ws:IntKind.i64.wrap ((d.Secs.length:Int) - 1)=(d.Secs.length:Int) - 1:=IntWalk.i64_in _ (by omega)
 refine X0 x_D2.eq_1 ?_
 refine loop_of (σ:=Nat) (fun i=>⟨[(1,.bp 1 0),(3,.one (.pv (.int .i64 i)))],[(1,[.ro 1 (d.Secs.map (fun y=>[slT false 1 uR y])),.ro 2 (d.Cache.map (WrV.enc false)),.pv (.int .i64 d.Fuse),.pv (.bool d.Down)])],[(0,d.enc false)]⟩) (fun i=>i≤d.Secs.length∧(d.Secs.take i).all (secGood)=true) (fun i=>d.Secs.length - i) 0 ?_ ⟨Nat.zero_le _,rfl⟩ ?_
 ·simp -implicitDefEqProofs (maxSteps:=1000000) only [go_sem]
  try rfl
 ·rintro i ⟨hi,hp⟩
  cases q:decide ((i:Int) < (d.Secs.length:Int))
  ·have eS:=all_end (p:=secGood) (show d.Secs.length≤i by simp only [decide_eq_false_iff_not] at q; omega) hp
   refine G1 q ?_
   refine loop_of (σ:=Nat) (fun i=>⟨[(1,.bp 1 0),(4,.one (.pv (.int .i64 i)))],[(1,[.ro 1 (d.Secs.map (fun y=>[slT false 1 uR y])),.ro 2 (d.Cache.map (WrV.enc false)),.pv (.int .i64 d.Fuse),.pv (.bool d.Down)])],[(0,d.enc false)]⟩) (fun i=>i≤d.Cache.length∧(d.Cache.take i).all (wrGood d.Secs.length)=true) (fun i=>d.Cache.length - i) 0 ?_ ⟨Nat.zero_le _,rfl⟩ ?_
   ·simp -implicitDefEqProofs (maxSteps:=1000000) only [go_sem]
    try rfl
   ·rintro i ⟨hi,hp⟩
    cases q:decide ((i:Int) < (d.Cache.length:Int))
    ·have eC:=all_end (p:=wrGood d.Secs.length) (show d.Cache.length≤i by simp only [decide_eq_false_iff_not] at q; omega) hp
     refine G1 q ?_
     refine C0 (c_Fo _ _ _) ?_
     cases g1:win (d.Secs.length:Int) 1 64
     ·have e:d.ok=false:=by simp only [DevV.ok,g1,Bool.false_and]
      exact F1 e
     refine G0 ?_
     cases g2:decide ((d.Cache.length:Int)≤40)
     ·have e:d.ok=false:=by simp only [DevV.ok,g2,Bool.and_false,Bool.false_and]
      exact F2 g2 e
     refine G1 g2 ?_
     have e:d.ok=win d.Fuse (-1) 1000:=by simp only [DevV.ok,g1,g2,eS,eC,Bool.and_true,Bool.true_and]
     exact D1 (c_Fo _ _ _) e
    ·have k1:i < d.Cache.length:=by simp only [decide_eq_true_eq] at q; omega
     refine G3 q (List.getElem?_eq_getElem k1) ws ?_
     refine C0 (c_Fo _ _ _) ?_
     cases g:win d.Cache[i].N 0 ((d.Secs.length:Int) - 1)
     ·have gg:wrGood d.Secs.length d.Cache[i]=false:=by simp only [wrGood,g,Bool.false_and]
      have e:d.ok=false:=by simp only [DevV.ok,all_not (p:=wrGood d.Secs.length) k1 gg,Bool.and_false]
      exact F1 e
     ·cases g2:decide ((d.Cache[i].B.length:Int) > 120)
      ·refine G2 g2 (List.getElem?_eq_getElem k1) ?_
       exact ⟨i + 1,by rw [IntWalk.i64_in _ (by omega)]; rfl,⟨k1,all_step (p:=wrGood d.Secs.length) k1 hp (by simp only [wrGood,g,g2,Bool.not_false,Bool.and_true])⟩,by omega⟩
      ·have gg:wrGood d.Secs.length d.Cache[i]=false:=by simp only [wrGood,g2,Bool.not_true,Bool.and_false]
       have e:d.ok=false:=by simp only [DevV.ok,all_not (p:=wrGood d.Secs.length) k1 gg,Bool.and_false]
       exact F3 g2 (List.getElem?_eq_getElem k1) e
  ·have k1:i < d.Secs.length:=by simp only [decide_eq_true_eq] at q; omega
   cases g:decide ((d.Secs[i].length:Int) > 120)
   ·refine G3 q (List.getElem?_eq_getElem k1) g ?_
    exact ⟨i + 1,by rw [IntWalk.i64_in _ (by omega)]; rfl,⟨k1,all_step (p:=secGood) k1 hp (by simp only [secGood,g,Bool.not_false])⟩,by omega⟩
   ·have gg:secGood d.Secs[i]=false:=by simp only [secGood,g,Bool.not_true]
    have e:d.ok=false:=by simp only [DevV.ok,all_not (p:=secGood) k1 gg,Bool.and_false,Bool.false_and]
    exact F4 q (List.getElem?_eq_getElem k1) g e
def x_Af:FnX:=⟨44,[.cell 2 (some 4)],
  .q [.v 1 0,.op 2 (.alloc [.nils 1,.nils 2,.i 0,.F])]
 (.q [.L 7 4 1,.c 8 245 [7],.op 3 (.alloc [.nils 1,.nils 2,.i 0,.F]),.s 100001 4 3 8]
 (.seq (.q [.L 9 4 1,.c 10 178 [9],.N 11 10,.m 12 11,.z 12 (.f 13 1 3),.z 12 (.l 14 13),.r 15 12 14]
 (.c 15 (.q [.L 16 4 3,.s 100002 4 2 16]
 .ret)))
 (.q [.L 18 4 3,.op 19 (.call 311 [1] [(.t 18)]),.m 17 19,.e 20 17 0,.e 21 17 1,.s 100003 4 3 20,.m 4 21]
 (.seq (.q [.m 22 4,.N 23 22]
 (.c 23 (.q [.L 24 4 3,.s 100004 4 2 24]
 .ret)))
 (.seq (.q [.f 25 3 1,.l 26 25,.n 27 26,.i 28 0]
 (.block 0 (.loop [2,3,26,27,28] (.q [.b 29 .lss 28 27]
 (.seq (.cond 29 .skip (.exit 0))
 (.seq (.block 1 (.q [.x 30 2 26 28,.L 31 2 30,.op 6 (.alloc [.i 0,.nils 1]),.s 100005 2 6 31]
 (.draw [.f 32 3 0,.l 33 32,.f 34 6 0,.l 35 34,.f 36 6 1,.l 37 36,.op 38 (.bslice 1 [(.t 37)]),.c 39 100 [38],.x 40 1 33 35,.s 100006 1 40 39] [[],[0],[],[2],[],[4],[5],[6],[1,3,0,1,2,3,4,5,6,7],[8,7,7,0,1,2,3,4,5,6,7]])))
 (.reg [.B 41 .add 28 1,.m 28 41])))))))
 (.norm [2,3] (.q [.f 42 3 1,⟨none,none,100007,.store 1 (.t 42) (.k (.one (.nils 2)))⟩]
 (.q [.L 43 4 3,.s 100008 4 2 43]
 .ret))))))))⟩
theorem r_Af {Te:TE} (c_Bq:C_Bq Te) (c_Ab:C_Ab Te) (c_Bn:C_Bn Te) (c_C1:C_C1 Te):C_Af (RF Te x_Af):=by
 intro d hk
 have hin:=DevV.ok_in hk
 have h40:=DevV.ok_cache hk
 have hL:=hin.len (by decide)
 have hidx:=DevV.ok_idx hk
 refine X0 x_Af.eq_1 ?_
 refine C0 (c_Bq d hL) ?_
 refine C1 (c_Ab d (hin.mono (by decide))) hk ?_
 cases g1:d.Down
 rotate_left
 ·have e:d.flush=d:=by rw [DevV.flush,if_pos g1]
  try simp -implicitDefEqProofs (maxSteps:=1000000) only [go_sem,g1,e,take_all,DevV.enc]
  repeat refine ⟨sc,?_⟩
  try exact sf
  try rfl
 have e:=show d.flush=if d.Fuse=0 then d.burn else ⟨flushed d.Secs d.Cache,[],d.burn.Fuse,d.burn.Down⟩ from if_neg (by rw [g1]; decide)
 refine G1 g1 ?_
 have tb:=c_Bn d
 simp only [DevV.enc,g1] at tb
 have bc:=burn_cache d
 have bs:=burn_secs d
 cases g6:(d.Fuse==0)
 rotate_left
 ·have g7:d.Fuse=0:=by simpa using g6
  rw [if_pos g7] at e
  refine .of (tb) ?_
  try simp -implicitDefEqProofs (maxSteps:=1000000) only [go_sem,g6,take_all,e,g1,DevV.enc]
  repeat refine ⟨sc,?_⟩
  try exact sf
  try rfl
 have g7:¬ d.Fuse=0:=by simpa using g6
 rw [if_neg g7] at e
 refine C1 (tb) g6 ?_
 refine loop_of (σ:=Nat×List (List UInt8)) (fun x=>⟨[(2,.bp 2 0),(3,.bp 3 0),(26,.one (.rf 45 1 [] 2 0 d.Cache.length)),(27,.one (.pv (.int .i64 d.Cache.length))),(28,.one (.pv (.int .i64 x.1)))],[(2,[.nils 1,.nils 2,.pv (.int .i64 0),.pv (.bool false)]),(3,[.rf 45 0 [] 1 0 d.Secs.length,.rf 45 1 [] 2 0 d.Cache.length,.pv (.int .i64 d.burn.Fuse),.pv (.bool d.burn.Down)])],[(0,d.enc false),(45,[slT true 1 (secR true) x.2,Tr.sl true 2 () (mvRows d.Cache x.1),iT d.burn.Fuse,bT d.burn.Down,bT true])]⟩) (fun x=>x.1≤d.Cache.length∧x.2=flushed d.Secs (d.Cache.take x.1)) (fun x=>d.Cache.length - x.1) (0,d.Secs) ?_ ⟨Nat.zero_le _,rfl⟩ ?_
 ·simp -implicitDefEqProofs (maxSteps:=1000000) only [go_sem,bs,bc]
  try rfl
 ·rintro ⟨i,S⟩ ⟨hi,he⟩
  simp only at hi he
  have hl:S.length=d.Secs.length:=by rw [he,flushed_len]
  have hl2:(List.map (secR true) S).length=d.Secs.length:=by rw [List.length_map,hl]
  cases q:decide ((i:Int) < (d.Cache.length:Int))
  ·have k0:i=d.Cache.length:=by simp only [decide_eq_false_iff_not] at q; omega
   rw [k0,List.take_length] at he
   have et:List.take d.Secs.length (List.map (secR true) S)=List.map (secR true) S:=List.take_of_length_le (by omega)
   rw [← he] at e
   exact F3 q et e
  ·have k1:i < d.Cache.length:=by simp only [decide_eq_true_eq] at q; omega
   have hw:=hidx _ (List.getElem_mem k1)
   have hb:d.Cache[i].B.length≤2 ^ 20:=hin.2.2 _ (List.getElem_mem k1)
   have g8:decide (0≤d.Cache[i].N)=true:=decide_eq_true hw.1
   have hn:d.Cache[i].N.toNat < S.length:=by omega
   have em:=mv_get k1
   have ec:(mvRows d.Cache i).getD i []=d.Cache[i].enc true:=by rw [List.getD_eq_getElem?_getD,em]; rfl
   have ex:=mv_set k1
   have eg:=getS hn
   have es:=setS S d.Cache[i].N.toNat d.Cache[i].B
   try simp -implicitDefEqProofs (maxSteps:=1000000) only [go_sem,q,em,ec,ex,mv_len]
   repeat refine ⟨sc,?_⟩
   try exact sf
   refine .of (c_C1 [d.Cache[i].B] (by rw [flat1]; omega) (by show 1≤2 ^ 31; decide)) ?_
   try simp -implicitDefEqProofs (maxSteps:=1000000) only [go_sem,flat1,take_all,g8,em,ec,ex,mv_len,storeAp,setCells,eg,es,hl2]
   repeat refine ⟨sc,?_⟩
   try exact sf
   refine ⟨(i + 1,S.set d.Cache[i].N.toNat d.Cache[i].B),?_,⟨k1,by rw [he,flushed_step k1]⟩,by simp only; omega⟩
   rw [IntWalk.i64_in _ (by omega)]
   rfl
def x_A4:FnX:=⟨35,[.tmp 4,.tmp 5],
  .q [.i 4 0,.F 5]
 (.seq (.q [.m 7 0,.op 8 (.call 90 [0,0,0] [(.t 7),(.i 1),(.i 4)]),.N 9 8,.m 10 9,.z 10 (.m 11 1),.z 10 (.op 12 (.call 90 [0,0,0] [(.t 11),(.i 0),(.i 255)])),.z 10 (.N 13 12),.r 14 10 13]
 (.c 14 (.q [.i 4 0,.F 5]
 .ret)))
 (.seq (.q [.m 15 1,.B 16 .leq 15 127]
 (.c 16 (.q [.m 17 1,.m 4 17,.T 5]
 .ret)))
 (.q [.m 18 1,.m 6 18]
 (.seq (.q [.m 19 0]
 (.block 0 (.q [.B 21 .eql 19 2,.m 20 21]
 (.cond 20 (.reg [.m 22 1,.c 23 325 [22],.m 6 23]) (.q [.B 25 .eql 19 3,.m 24 25]
 (.cond 24 (.reg [.m 26 1,.c 27 326 [26],.m 6 27]) (.q [.B 29 .eql 19 4,.m 28 29]
 (.c 28 (.reg [.m 30 1,.c 31 327 [30],.m 6 31])))))))))
 (.q [.m 32 6,.m 33 6,.B 34 .neq 33 0,.m 4 32,.m 5 34]
 .ret)))))⟩
theorem r_A4 {Te:TE} (c_Ch:C_Ch Te) (c_C5:C_C5 Te) (c_C2:C_C2 Te) (c_Ce:C_Ce Te):C_A4 (RF Te x_A4):=by
 intro cs b
 refine X0 x_A4.eq_1 ?_
 refine C0 (c_Ch _ _ _) ?_
 cases g1:win cs 1 4
 ·try simp -implicitDefEqProofs only [go_sem,byteSign,g1]
  repeat refine ⟨sc,?_⟩
  try exact sf
 ·refine G0 ?_
  refine C0 (c_Ch _ _ _) ?_
  cases g2:win b 0 255
  ·try simp -implicitDefEqProofs only [go_sem,byteSign,g1,g2]
   repeat refine ⟨sc,?_⟩
   try exact sf
  ·cases g3:decide (b≤127)
   ·have hb:128≤b∧b≤255:=by simp only [win,Bool.and_eq_true,decide_eq_true_eq] at g2; simp only [decide_eq_false_iff_not] at g3; omega
    refine G1 g3 ?_
    cases g4:(cs==2)
    ·cases g5:(cs==3)
     ·cases g6:(cs==4)
      ·try simp -implicitDefEqProofs only [go_sem,g4,g5,g6,byteSign,signOf,g1,g2,g3]
       repeat refine ⟨sc,?_⟩
       try exact sf
      ·refine G3 g4 g5 g6 ?_
       refine .of (c_Ce _ hb) ?_
       try simp -implicitDefEqProofs only [go_sem,byteSign,signOf,g1,g2,g3,g4,g5,g6]
       repeat refine ⟨sc,?_⟩
       try exact sf
     ·refine G2 g4 g5 ?_
      refine .of (c_C2 _ hb) ?_
      try simp -implicitDefEqProofs only [go_sem,byteSign,signOf,g1,g2,g3,g4,g5]
      repeat refine ⟨sc,?_⟩
      try exact sf
    ·refine G1 g4 ?_
     refine .of (c_C5 _) ?_
     try simp -implicitDefEqProofs only [go_sem,byteSign,signOf,g1,g2,g3,g4]
     repeat refine ⟨sc,?_⟩
     try exact sf
   ·try simp -implicitDefEqProofs only [go_sem,g3,byteSign,g1,g2]
    repeat refine ⟨sc,?_⟩
    try exact sf
def x_Cu:FnX:=⟨34,[.tmp 4,.tmp 5],
  .q [.i 4 0,.F 5]
 (.seq (.q [.m 7 0,.op 8 (.call 120 [0,0,0] [(.t 7),(.i 1),(.i 4)]),.N 9 8,.m 10 9,.z 10 (.m 11 1),.z 10 (.op 12 (.call 120 [0,0,0] [(.t 11),(.i 0),(.i 255)])),.z 10 (.N 13 12),.r 14 10 13]
 (.c 14 (.q [.i 4 0,.F 5]
 .ret)))
 (.q [.m 15 1,.m 6 15]
 (.seq (.q [.m 16 1,.B 17 .geq 16 128]
 (.c 17 (.q [.m 18 0]
 (.block 0 (.q [.B 20 .eql 18 2,.m 19 20]
 (.cond 19 (.reg [.m 21 1,.c 22 331 [21],.m 6 22]) (.q [.B 24 .eql 18 3,.m 23 24]
 (.cond 23 (.reg [.m 25 1,.c 26 332 [25],.m 6 26]) (.q [.B 28 .eql 18 4,.m 27 28]
 (.c 27 (.reg [.m 29 1,.c 30 333 [29],.m 6 30])))))))))))
 (.seq (.q [.m 31 6,.B 32 .lss 31 0]
 (.c 32 (.q [.i 4 0,.F 5]
 .ret)))
 (.q [.m 33 6,.m 4 33,.T 5]
 .ret)))))⟩
theorem r_Cu {Te:TE} (c_Fo:C_Fo Te) (c_G2:C_G2 Te) (c_G1:C_G1 Te) (c_G3:C_G3 Te):C_Cu (RF Te x_Cu):=by
 intro cs b
 refine X0 x_Cu.eq_1 ?_
 refine C0 (c_Fo _ _ _) ?_
 cases g1:win cs 1 4
 ·try simp -implicitDefEqProofs only [go_sem,byteSign,g1]
  repeat refine ⟨sc,?_⟩
  try exact sf
 ·refine G0 ?_
  refine C0 (c_Fo _ _ _) ?_
  cases g2:win b 0 255
  ·try simp -implicitDefEqProofs only [go_sem,byteSign,g1,g2]
   repeat refine ⟨sc,?_⟩
   try exact sf
  ·have h2:0≤b∧b≤255:=by simpa only [win,Bool.and_eq_true,decide_eq_true_eq] using g2
   cases g3:decide (b≥128)
   ·have g3':decide (b≤127)=true:=by simp only [decide_eq_false_iff_not] at g3; exact decide_eq_true (by omega)
    have g7:decide (b < 0)=false:=decide_eq_false (by omega)
    try simp -implicitDefEqProofs only [go_sem,g3,g7,byteSign,g1,g2,g3']
    repeat refine ⟨sc,?_⟩
    try exact sf
   ·have hb:128≤b∧b≤255:=by simp only [decide_eq_true_eq] at g3; omega
    have g3':decide (b≤127)=false:=decide_eq_false (by omega)
    refine G1 g3 ?_
    cases g4:(cs==2)
    ·cases g5:(cs==3)
     ·cases g6:(cs==4)
      ·have g7:decide (b < 0)=false:=decide_eq_false (by omega)
       have g8:(b != 0)=true:=by simp; omega
       try simp -implicitDefEqProofs only [go_sem,g4,g5,g6,g7,g8,byteSign,signOf,g1,g2,g3']
       repeat refine ⟨sc,?_⟩
       try exact sf
      ·refine G3 g4 g5 g6 ?_
       refine C0 (c_G3 _ hb) ?_
       obtain ⟨w1,w2⟩:=win_rel hb
       cases g9:(winB winL b==0)
       ·have g7:decide (winB winL b < 0)=false:=decide_eq_false (by omega)
        have g8:(winB winL b != 0)=true:=by simpa using g9
        simp only [g9,cond_false] at w1
        try simp -implicitDefEqProofs only [go_sem,w1,g7,g8,byteSign,signOf,g1,g2,g3',g4,g5,g6]
        repeat refine ⟨sc,?_⟩
        try exact sf
       ·have g8:winB winL b=0:=by simpa using g9
        simp only [g9,cond_true] at w1
        try simp -implicitDefEqProofs only [go_sem,w1,g8,byteSign,signOf,g1,g2,g3',g4,g5,g6]
        repeat refine ⟨sc,?_⟩
        try exact sf
        try rfl
     ·refine G2 g4 g5 ?_
      refine C0 (c_G1 _ hb) ?_
      obtain ⟨w1,w2⟩:=koi_rel hb
      cases g9:(koi 0 b==0)
      ·have g7:decide (koi 0 b < 0)=false:=decide_eq_false (by omega)
       have g8:(koi 0 b != 0)=true:=by simpa using g9
       simp only [g9,cond_false] at w1
       try simp -implicitDefEqProofs only [go_sem,w1,g7,g8,byteSign,signOf,g1,g2,g3',g4,g5]
       repeat refine ⟨sc,?_⟩
       try exact sf
      ·have g8:koi 0 b=0:=by simpa using g9
       simp only [g9,cond_true] at w1
       try simp -implicitDefEqProofs only [go_sem,w1,g8,byteSign,signOf,g1,g2,g3',g4,g5]
       repeat refine ⟨sc,?_⟩
       try exact sf
       try rfl
    ·refine G1 g4 ?_
     refine C0 (c_G2 _) ?_
     have w1:=nine_rel hb
     have g7:decide (nine b < 0)=false:=decide_eq_false (by omega)
     have g8:(nine b != 0)=true:=by simp; omega
     try simp -implicitDefEqProofs only [go_sem,g7,g8,byteSign,signOf,g1,g2,g3',g4]
     repeat refine ⟨sc,?_⟩
     try exact sf
def x_Cv:FnX:=⟨25,[.cell 4 (some 2),.tmp 5],
  .q [.op 4 (.alloc [.i 0,.nils 1]),.F 5]
 (.q [.m 9 0,.m 10 1,.c 11 182 [9,10],.m 8 11,.e 12 8 0,.e 13 8 1,.m 6 12,.m 7 13]
 (.seq (.q [.m 14 7,.N 15 14,.m 16 15,.z 16 (.m 17 6),.z 16 (.n 18 17),.z 16 (.B 19 .gtr 18 20),.r 20 16 19]
 (.c 20 (.q [.op 21 (.build [.i 0,.nils 1] []),.s 100001 2 4 21,.F 5]
 .ret)))
 (.q [.m 22 0,.m 23 6,.op 24 (.build [.i 0,.nils 1] [(0,1,(.t 22)),(1,1,(.t 23))]),.s 100002 2 4 24,.T 5]
 .ret)))⟩
theorem r_Cv {Te:TE} (c_D5:C_D5 Te):C_Cv (RF Te x_Cv):=by
 intro tag s hs
 have hl:=encode_len tag s
 refine X0 x_Cv.eq_1 ?_
 refine C0 (c_D5 tag s hs) ?_
 cases g:(encode tag s).2
 ·have e:=cellOf_no g
  exact F2 g e
 cases g2:decide (((encode tag s).1.length:Int)≤20)
 ·have e:=cellOf_big g2
  have g3:decide (((encode tag s).1.length:Int) > 20)=true:=by simp only [decide_eq_false_iff_not] at g2; exact decide_eq_true (by omega)
  exact F3 g g3 e
 ·have e:=cellOf_yes g g2
  have g3:decide (((encode tag s).1.length:Int) > 20)=false:=by simp only [decide_eq_true_eq] at g2; exact decide_eq_false (by omega)
  exact F3 g g3 e
def x_Bg:FnX:=⟨29,[.cell 4 (some 2),.tmp 5],
  .q [.v 2 0,.op 4 (.alloc [.i 0,.nils 1]),.F 5]
 (.q [.L 10 2 2,.c 11 177 [10],.m 9 11,.e 12 9 0,.e 13 9 1,.m 6 12,.m 7 13]
 (.seq (.q [.m 14 7,.N 15 14]
 (.c 15 (.q [.L 16 2 2,.c 17 304 [16],.s 100001 2 4 17,.F 5]
 .ret)))
 (.q [.m 19 1,.m 20 6,.c 21 251 [19,20],.m 18 21,.e 22 18 0,.e 23 18 1,.op 8 (.alloc [.i 0,.nils 1]),.s 100002 2 8 22,.m 7 23]
 (.seq (.q [.m 24 7,.N 25 24]
 (.c 25 (.q [.L 26 2 2,.c 27 304 [26],.s 100003 2 4 27,.F 5]
 .ret)))
 (.q [.L 28 2 8,.s 100004 2 4 28,.T 5]
 .ret)))))⟩
theorem r_Bg {Te:TE} (c_A7:C_A7 Te) (c_Bp:C_Bp Te) (c_A5:C_A5 Te):C_Bg (RF Te x_Bg):=by
 intro c tag hc hs
 refine X0 x_Bg.eq_1 ?_
 refine C0 (c_A7 c) ?_
 cases g:c.text.2
 ·have e:=turn_no (tag:=tag) g
  refine G1 g ?_
  exact D1 (c_Bp c hc) e
 refine G1 g ?_
 refine C0 (c_A5 tag c.text.1 hs) ?_
 cases g2:(cellOf tag c.text.1).2
 ·have e:=turn_big (c:=c) g2
  refine G1 g2 ?_
  exact D1 (c_Bp c hc) e
 ·have e:=turn_yes g g2
  exact F2 g2 e
def x_E9:FnX:=⟨30,[.cell 4 (some 2),.tmp 5],
  .q [.v 2 0,.op 4 (.alloc [.i 0,.nils 1]),.F 5]
 (.q [.L 11 2 2,.c 12 197 [11],.m 10 12,.e 13 10 0,.e 14 10 1,.m 6 13,.m 7 14]
 (.q [.m 16 1,.m 17 6,.c 18 200 [16,17],.m 15 18,.e 19 15 0,.e 20 15 1,.op 8 (.alloc [.i 0,.nils 1]),.s 100001 2 8 19,.m 9 20]
 (.seq (.q [.m 21 7,.N 22 21,.m 23 22,.z 23 (.m 24 9),.z 23 (.N 25 24),.r 26 23 25]
 (.c 26 (.q [.L 27 2 2,.c 28 338 [27],.s 100002 2 4 28,.F 5]
 .ret)))
 (.q [.L 29 2 8,.s 100003 2 4 29,.T 5]
 .ret))))⟩
theorem r_E9 {Te:TE} (c_Cx:C_Cx Te) (c_Cv:C_Cv Te) (c_Gb:C_Gb Te):C_E9 (RF Te x_E9):=by
 intro c tag hc hs
 refine X0 x_E9.eq_1 ?_
 refine C0 (c_Cx c) ?_
 refine C0 (c_Cv tag c.text.1 hs) ?_
 cases g:c.text.2
 ·have e:=turn_no (tag:=tag) g
  refine G1 g ?_
  exact D1 (c_Gb c hc) e
 cases g2:(cellOf tag c.text.1).2
 ·have e:=turn_big (c:=c) g2
  refine G2 g g2 ?_
  exact D1 (c_Gb c hc) e
 ·have e:=turn_yes g g2
  exact F3 g g2 e
def x_Bh:FnX:=⟨17,[.tmp 2],
  .q [.F 2]
 (.q [.m 3 0,.B 4 .eql 3 2,.m 5 4,.z 5 (.m 6 0),.z 5 (.B 7 .eql 6 3),.r 8 5 7,.m 9 8,.z 9 (.m 10 0),.z 9 (.B 11 .eql 10 4),.r 12 9 11,.m 13 12,.z 13 (.m 14 0),.z 13 (.B 15 .eql 14 6),.r 16 13 15,.m 2 16]
 .ret)⟩
theorem r_Bh {Te:TE}:C_Bh (RF Te x_Bh):=by
 intro p
 refine run0 ?_
 cases g1:(p==2)
 ·cases g2:(p==3)
  ·cases g3:(p==4) <;> simp -implicitDefEqProofs only [x_Bh,go_sem,g1,g2,g3,walks]
  ·simp -implicitDefEqProofs only [x_Bh,go_sem,g1,g2,walks]
 ·simp -implicitDefEqProofs only [x_Bh,go_sem,g1,walks]
def x_Ea:FnX:=⟨9,[.tmp 2],
  .q [.F 2]
 (.q [.m 3 0,.op 4 (.call 120 [0,0,0] [(.t 3),(.i 2),(.i 4)]),.m 5 4,.z 5 (.m 6 0),.z 5 (.B 7 .eql 6 6),.r 8 5 7,.m 2 8]
 .ret)⟩
theorem r_Ea {Te:TE} (c_Fo:C_Fo Te):C_Ea (RF Te x_Ea):=by
 intro p
 refine run0 ?_
 have key:walks p=(win p 2 4||(p==6)):=by
  simp only [walks,win]
  by_cases h2:p=2
  ·subst h2; rfl
  by_cases h3:p=3
  ·subst h3; rfl
  by_cases h4:p=4
  ·subst h4; rfl
  have:(decide (p≥2)&&decide (p≤4))=false:=by simp; omega
  simp [h2,h3,h4,this]
 simp -implicitDefEqProofs only [x_Ea,go_sem,key]
 refine .of (c_Fo _ _ _) ?_
 cases g1:win p 2 4 <;> simp -implicitDefEqProofs only [go_sem]
end Go.X

