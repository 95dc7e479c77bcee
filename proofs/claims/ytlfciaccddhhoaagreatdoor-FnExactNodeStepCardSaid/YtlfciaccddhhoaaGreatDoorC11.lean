/- Texts: CVf_3 CVi_3 CR CVzb_2 CVi_2 CVc CT_3 CS CK_2 CVy_3 CVd_2. -/
import Derived.Test.YtlfciaccddhhoaaGreatDoorC04
set_option linter.unusedVariables false
set_option linter.unusedSimpArgs false
namespace Go.X
set_option maxRecDepth 100000
set_option maxHeartbeats 8000000
def x_s_TabOk:FnX:=⟨82,[.tmp 2],
  .q [.v 1 0,.F 2]
 (.seq (.q [.i 3 0]
 (.block 0 (.loop [1,3] (.seq (.q [.m 5 3,.f 6 1 0,.l 7 6,.n 8 7,.b 9 .lss 5 8]
 (.cond 9 .skip (.exit 0)))
 (.seq (.block 1 (.seq (.draw [.f 12 1 0,.l 13 12,.m 14 3,.x 15 7 13 14,.L 16 7 15,.c 17 160 [16],.N 18 17,.m 19 18,.z 19 (.m 20 3),.z 19 (.B 21 .gtr 20 0),.z 19 (.m 22 21),.y 22 (.f 23 1 0),.y 22 (.l 24 23),.y 22 (.m 25 3),.y 22 (.B 26 .sub 25 1),.y 22 (.x 27 7 24 26),.y 22 (.f 28 27 0),.y 22 (.l 29 28),.y 22 (.f 30 1 0),.y 22 (.l 31 30),.y 22 (.m 32 3),.y 22 (.x 33 7 31 32),.y 22 (.f 34 33 0),.y 22 (.l 35 34),.y 22 (.b 36 .geq 29 35),.z 19 (.a 37 22 36),.r 38 19 37] [[],[0],[],[1,2],[3],[4],[5],[6,5],[7],[8,7],[9,7,7],[10],[11,10],[10],[13,10],[12,14,10],[15,10],[16,10],[10],[18,10],[10],[19,20,10],[21,10],[22,10],[17,23,10],[10,24,7],[7,25]])
 (.c 38 (.q [.F 2]
 .ret))))
 (.reg [.m 10 3,.B 11 .add 10 1,.m 3 11]))))))
 (.norm [1] (.seq (.q [.i 4 0]
 (.block 2 (.loop [1,4] (.seq (.q [.m 39 4,.f 40 1 2,.l 41 40,.n 42 41,.b 43 .lss 39 42]
 (.cond 43 .skip (.exit 2)))
 (.seq (.block 3 (.seq (.draw [.f 46 1 2,.l 47 46,.m 48 4,.x 49 3 47 48,.L 50 3 49,.c 51 176 [50],.N 52 51,.m 53 52,.z 53 (.m 54 4),.z 53 (.B 55 .gtr 54 0),.z 53 (.m 56 55),.y 56 (.f 57 1 2),.y 56 (.l 58 57),.y 56 (.m 59 4),.y 56 (.B 60 .sub 59 1),.y 56 (.x 61 3 58 60),.y 56 (.f 62 61 0),.y 56 (.l 63 62),.y 56 (.f 64 1 2),.y 56 (.l 65 64),.y 56 (.m 66 4),.y 56 (.x 67 3 65 66),.y 56 (.f 68 67 0),.y 56 (.l 69 68),.y 56 (.b 70 .geq 63 69),.z 53 (.a 71 56 70),.r 72 53 71] [[],[0],[],[1,2],[3],[4],[5],[6,5],[7],[8,7],[9,7,7],[10],[11,10],[10],[13,10],[12,14,10],[15,10],[16,10],[10],[18,10],[10],[19,20,10],[21,10],[22,10],[17,23,10],[10,24,7],[7,25]])
 (.c 72 (.q [.F 2]
 .ret))))
 (.reg [.m 44 4,.B 45 .add 44 1,.m 4 45]))))))
 (.norm [1] (.q [.f 73 1 0,.l 74 73,.n 75 74,.B 76 .leq 75 8,.m 77 76,.y 77 (.f 78 1 1),.y 77 (.l 79 78),.y 77 (.op 80 (.call 64 [0,0,0] [(.t 79),(.i 0),(.i 7)])),.a 81 77 80,.m 2 81]
 .ret)))))⟩
theorem r_s_TabOk {Te:TE} (c_s_RowOk:C_s_RowOk Te) (c_s_l12Mark:C_s_l12Mark Te) (c_s_l1In:C_s_l1In Te):C_s_TabOk (RF Te x_s_TabOk):=by
 intro t h
 obtain ⟨⟨hl,hR⟩,hM⟩:=h
 refine X0 x_s_TabOk.eq_1 ?_
 refine loop_of (σ:=Nat) (fun i=>⟨[(1,.bp 1 0),(3,.one (.pv (.int .i64 i)))],[(1,[.ro 7 (t.Rows.map (RowV.enc false)),.pv (.int .i64 t.Phase),.ro 3 (t.Marks.map MarkV.row)])],[(0,t.enc false)]⟩) (fun i=>i≤t.Rows.length∧∀ j,j < i→rowGood t.Rows j=true) (fun i=>t.Rows.length - i) 0 ?_ ⟨Nat.zero_le _,fun j hj=>absurd hj (Nat.not_lt_zero _)⟩ ?_
 ·simp -implicitDefEqProofs (maxSteps:=1000000) only [go_sem]
  try rfl
 ·rintro i ⟨hi,hp⟩
  cases q:decide ((i:Int) < (t.Rows.length:Int))
  ·have eR:=rng_end (f:=rowGood t.Rows) (show t.Rows.length≤i by simp only [decide_eq_false_iff_not] at q; omega) hp
   refine G1 q ?_
   refine loop_of (σ:=Nat) (fun i=>⟨[(1,.bp 1 0),(4,.one (.pv (.int .i64 i)))],[(1,[.ro 7 (t.Rows.map (RowV.enc false)),.pv (.int .i64 t.Phase),.ro 3 (t.Marks.map MarkV.row)])],[(0,t.enc false)]⟩) (fun i=>i≤t.Marks.length∧∀ j,j < i→markGood t.Marks j=true) (fun i=>t.Marks.length - i) 0 ?_ ⟨Nat.zero_le _,fun j hj=>absurd hj (Nat.not_lt_zero _)⟩ ?_
   ·simp -implicitDefEqProofs (maxSteps:=1000000) only [go_sem]
    try rfl
   ·rintro i ⟨hi,hp⟩
    cases q:decide ((i:Int) < (t.Marks.length:Int))
    ·have eM:=rng_end (f:=markGood t.Marks) (show t.Marks.length≤i by simp only [decide_eq_false_iff_not] at q; omega) hp
     refine G1 q ?_
     cases gl:decide ((t.Rows.length:Int)≤8)
     ·have e:t.ok=false:=by simp only [TabV.ok,gl,Bool.and_false,Bool.false_and]
      exact F2 gl e
     ·have e:t.ok=win t.Phase 0 7:=by simp only [TabV.ok,eR,eM,gl,Bool.true_and]
      refine G1 gl ?_
      exact D1 (c_s_l1In _ _ _) e
    ·have k1:i < t.Marks.length:=by simp only [decide_eq_true_eq] at q; omega
     cases i with
     | zero =>
      have z:decide (((0:Nat):Int) > 0)=false:=rfl
      have good0:=markGood_zero k1
      refine G3 q (List.getElem?_eq_getElem k1) z ?_
      refine C0 (c_s_l12Mark t.Marks[0]) ?_
      cases g:t.Marks[0].ok
      ·have e:t.ok=false:=by simp only [TabV.ok,rng_not k1 (good0.trans g),Bool.and_false,Bool.false_and]
       exact F1 e
      ·refine G1 z ?_
       refine ⟨1,by rw [IntWalk.i64_in _ (by omega)]; rfl,⟨k1,rng_step hp (good0.trans g)⟩,by omega⟩
     | succ j =>
      have k0:j < t.Marks.length:=by omega
      have z:decide (((j + 1:Nat):Int) > 0)=true:=decide_eq_true (by omega)
      have ew:IntKind.i64.wrap (((j + 1:Nat):Int) - 1)=(j:Int):=by rw [IntWalk.i64_in _ (by omega)]; omega
      have good1:=markGood_succ k1
      refine G3 q (List.getElem?_eq_getElem k1) z ?_
      refine C0 (c_s_l12Mark t.Marks[j + 1]) ?_
      cases g:t.Marks[j + 1].ok
      ·have gg:markGood t.Marks (j + 1)=false:=by rw [good1,g,Bool.false_and]
       have e:t.ok=false:=by simp only [TabV.ok,rng_not k1 gg,Bool.and_false,Bool.false_and]
       exact F1 e
      ·cases g2:decide (t.Marks[j].Who≥t.Marks[j + 1].Who)
       ·have gg:markGood t.Marks (j + 1)=true:=by rw [good1,g,g2]; rfl
        try simp -implicitDefEqProofs (maxSteps:=1000000) only [go_sem,z,ew,List.getElem?_eq_getElem k0,List.getElem?_eq_getElem k1,g2]
        repeat refine ⟨sc,?_⟩
        try exact sf
        refine ⟨j + 2,by rw [IntWalk.i64_in _ (by omega)]; rfl,⟨k1,rng_step hp gg⟩,by omega⟩
       ·have gg:markGood t.Marks (j + 1)=false:=by rw [good1,g2]; simp only [Bool.not_true,Bool.and_false]
        have e:t.ok=false:=by simp only [TabV.ok,rng_not k1 gg,Bool.and_false,Bool.false_and]
        try simp -implicitDefEqProofs (maxSteps:=1000000) only [go_sem,z,ew,List.getElem?_eq_getElem k0,List.getElem?_eq_getElem k1,g2,e]
        repeat refine ⟨sc,?_⟩
        try exact sf
  ·have k1:i < t.Rows.length:=by simp only [decide_eq_true_eq] at q; omega
   cases i with
   | zero =>
    have z:decide (((0:Nat):Int) > 0)=false:=rfl
    have good0:=rowGood_zero k1
    refine G3 q (List.getElem?_eq_getElem k1) z ?_
    refine C0 (c_s_RowOk t.Rows[0] (hR _ (List.getElem_mem k1))) ?_
    cases g:t.Rows[0].ok
    ·have e:t.ok=false:=by simp only [TabV.ok,rng_not k1 (good0.trans g),Bool.false_and]
     exact F1 e
    ·refine G1 z ?_
     refine ⟨1,by rw [IntWalk.i64_in _ (by omega)]; rfl,⟨k1,rng_step hp (good0.trans g)⟩,by omega⟩
   | succ j =>
    have k0:j < t.Rows.length:=by omega
    have z:decide (((j + 1:Nat):Int) > 0)=true:=decide_eq_true (by omega)
    have ew:IntKind.i64.wrap (((j + 1:Nat):Int) - 1)=(j:Int):=by rw [IntWalk.i64_in _ (by omega)]; omega
    have good1:=rowGood_succ k1
    refine G3 q (List.getElem?_eq_getElem k1) z ?_
    refine C0 (c_s_RowOk t.Rows[j + 1] (hR _ (List.getElem_mem k1))) ?_
    cases g:t.Rows[j + 1].ok
    ·have gg:rowGood t.Rows (j + 1)=false:=by rw [good1,g,Bool.false_and]
     have e:t.ok=false:=by simp only [TabV.ok,rng_not k1 gg,Bool.false_and]
     exact F1 e
    ·cases g2:Op.bytesLess t.Rows[j].Key.toList t.Rows[j + 1].Key.toList
     ·have gg:rowGood t.Rows (j + 1)=false:=by rw [good1,g2,Bool.and_false]
      have e:t.ok=false:=by simp only [TabV.ok,rng_not k1 gg,Bool.false_and]
      try simp -implicitDefEqProofs (maxSteps:=1000000) only [go_sem,z,ew,List.getElem?_eq_getElem k0,List.getElem?_eq_getElem k1,g2,e]
      repeat refine ⟨sc,?_⟩
      try exact sf
     ·have gg:rowGood t.Rows (j + 1)=true:=by rw [good1,g,g2]; rfl
      try simp -implicitDefEqProofs (maxSteps:=1000000) only [go_sem,z,ew,List.getElem?_eq_getElem k0,List.getElem?_eq_getElem k1,g2]
      repeat refine ⟨sc,?_⟩
      try exact sf
      refine ⟨j + 2,by rw [IntWalk.i64_in _ (by omega)]; rfl,⟨k1,rng_step hp gg⟩,by omega⟩
def x_i_RecOk:FnX:=⟨98,[.tmp 2],
  .q [.v 1 0,.F 2]
 (.seq (.draw [.f 6 1 1,.L 7 7 6,.op 8 (.build [.e,.i 0,.nils 1,.i 0,.nils 1,.i 0,.F] []),.c 9 59 [7,8],.f 10 1 8,.l 11 10,.op 12 (.bin .eql (.t 11) (.k (.one (.pv (.string ⟨#[]⟩))))),.m 3 9,.m 4 12] [[],[0],[],[1,2],[],[4],[5],[3,3,0,1,2,3],[6,7,0,1,2,3,4,5,6,7]])
 (.q [.F 5]
 (.seq (.q [.f 13 1 0,.l 14 13]
 (.block 0 (.q [.B 16 .eql 14 1,.m 15 16]
 (.cond 15 (.reg [.f 17 1 1,.L 18 7 17,.c 19 165 [18],.m 20 19,.y 20 (.m 21 4),.a 22 20 21,.m 23 22,.y 23 (.f 24 1 9),.y 23 (.l 25 24),.y 23 (.B 26 .eql 25 0),.a 27 23 26,.m 5 27]) (.q [.B 29 .eql 14 2,.m 28 29]
 (.cond 28 (.reg [.m 30 3,.m 31 30,.y 31 (.f 32 1 8),.y 31 (.l 33 32),.y 31 (.c 34 34 [33]),.a 35 31 34,.m 36 35,.y 36 (.f 37 1 9),.y 36 (.l 38 37),.y 36 (.B 39 .eql 38 0),.a 40 36 39,.m 5 40]) (.q [.B 42 .eql 14 3,.m 41 42]
 (.cond 41 (.reg [.m 43 3,.m 44 43,.y 44 (.m 45 4),.a 46 44 45,.m 47 46,.y 47 (.f 48 1 9),.y 47 (.l 49 48),.y 47 (.op 50 (.call 77 [0,0,0] [(.t 49),(.i 0),(.i 7)])),.a 51 47 50,.m 5 51]) (.q [.B 53 .eql 14 4,.m 52 53]
 (.c 52 (.reg [.m 54 3,.m 55 54,.y 55 (.m 56 4),.a 57 55 56,.m 58 57,.y 58 (.f 59 1 9),.y 58 (.l 60 59),.y 58 (.B 61 .eql 60 0),.a 62 58 61,.m 63 62,.y 63 (.f 64 1 10),.y 63 (.l 65 64),.y 63 (.B 66 .neq 65 0),.a 67 63 66,.m 5 67])))))))))))
 (.seq (.q [.f 68 1 10,.l 69 68,.B 70 .eql 69 0]
 (.c 70 (.q [.m 71 5,.m 72 71,.y 72 (.f 73 1 11),.y 72 (.l 74 73),.y 72 (.B 75 .eql 74 0),.a 76 72 75,.m 77 76,.y 77 (.f 78 1 12),.y 77 (.l 79 78),.y 77 (.B 80 .eql 79 0),.a 81 77 80,.m 2 81]
 .ret)))
 (.q [.m 82 5,.m 83 82,.y 83 (.f 84 1 10),.y 83 (.l 85 84),.y 83 (.op 86 (.call 77 [0,0,0] [(.t 85),(.i 1),(.i 9)])),.a 87 83 86,.m 88 87,.y 88 (.f 89 1 11),.y 88 (.l 90 89),.y 88 (.c 91 200 [90]),.a 92 88 91,.m 93 92,.y 93 (.f 94 1 12),.y 93 (.l 95 94),.y 93 (.op 96 (.call 77 [0,0,0] [(.t 95),(.i 0),(.i 6)])),.a 97 93 96,.m 2 97]
 .ret)))))⟩
theorem r_i_RecOk {Te:TE} (c_i_sameRow:C_i_sameRow Te) (c_i_RowOk:C_i_RowOk Te) (c_i_NameOk:C_i_NameOk Te) (c_i_within:C_i_within Te) (c_i_isWord:C_i_isWord Te):C_i_RecOk (RF Te x_i_RecOk):=by
 intro r h
 refine run0 ?_
 have hR:=h.1
 have hK:=h.2
 obtain ⟨kind,R,key,n,who,seq,code⟩:=r
 simp only at hR hK
 have ts:=c_i_sameRow R RowV.zero
 rw [rowSame_zero] at ts
 simp -implicitDefEqProofs (maxSteps:=1000000) only [x_i_RecOk,go_sem,bytes_beq]
 repeat refine ⟨sc,?_⟩
 try exact sf
 refine .of (ts) ?_
 try simp -implicitDefEqProofs (maxSteps:=1000000) only [go_sem,bytes_beq]
 repeat refine ⟨sc,?_⟩
 try exact sf
 by_cases q1:kind=1
 ·subst q1
  refine G0 ?_
  refine C0 (c_i_RowOk R hR) ?_
  cases g1:R.ok
  ·refine G1 g1 ?_
   cases g0:(who==0)
   ·try simp -implicitDefEqProofs (maxSteps:=1000000) only [go_sem,g0,RecV.ok,RecV.body,RecV.who,g1]
    repeat refine ⟨sc,?_⟩
    try exact sf
   ·try simp -implicitDefEqProofs (maxSteps:=1000000) only [go_sem,g0,RecV.ok,RecV.body,RecV.who,g1]
    repeat refine ⟨sc,?_⟩
    try exact sf
  refine G1 g1 ?_
  cases g2:decide (key=⟨#[]⟩)
  ·refine G2 g1 g2 ?_
   cases g0:(who==0)
   ·try simp -implicitDefEqProofs (maxSteps:=1000000) only [go_sem,g0,RecV.ok,RecV.body,RecV.who,g1,g2]
    repeat refine ⟨sc,?_⟩
    try exact sf
   ·try simp -implicitDefEqProofs (maxSteps:=1000000) only [go_sem,g0,RecV.ok,RecV.body,RecV.who,g1,g2]
    repeat refine ⟨sc,?_⟩
    try exact sf
  refine G1 g2 ?_
  cases g3:(n==0)
  ·refine G3 g1 g2 g3 ?_
   cases g0:(who==0)
   ·try simp -implicitDefEqProofs (maxSteps:=1000000) only [go_sem,g0,RecV.ok,RecV.body,RecV.who,g1,g2,g3]
    repeat refine ⟨sc,?_⟩
    try exact sf
   ·try simp -implicitDefEqProofs (maxSteps:=1000000) only [go_sem,g0,RecV.ok,RecV.body,RecV.who,g1,g2,g3]
    repeat refine ⟨sc,?_⟩
    try exact sf
  refine G1 g3 ?_
  cases g0:(who==0)
  ·refine G1 g0 ?_
   refine C0 (c_i_within _ _ _) ?_
   cases h1:win who 1 9
   ·try simp -implicitDefEqProofs (maxSteps:=1000000) only [go_sem,g0,h1,RecV.ok,RecV.body,RecV.who,g1,g2,g3]
    repeat refine ⟨sc,?_⟩
    try exact sf
   refine G0 ?_
   refine C0 (c_i_isWord _) ?_
   cases h2:win seq 0 65535
   ·try simp -implicitDefEqProofs (maxSteps:=1000000) only [go_sem,g0,h1,h2,RecV.ok,RecV.body,RecV.who,g1,g2,g3]
    repeat refine ⟨sc,?_⟩
    try exact sf
    try rfl
   refine G0 ?_
   refine .of (c_i_within _ _ _) ?_
   try simp -implicitDefEqProofs (maxSteps:=1000000) only [go_sem,g0,h1,h2,RecV.ok,RecV.body,RecV.who,g1,g2,g3]
   repeat refine ⟨sc,?_⟩
   try exact sf
  ·refine G1 g0 ?_
   cases h1:(seq==0)
   ·try simp -implicitDefEqProofs (maxSteps:=1000000) only [go_sem,g0,h1,RecV.ok,RecV.body,RecV.who,g1,g2,g3]
    repeat refine ⟨sc,?_⟩
    try exact sf
   refine G1 h1 ?_
   cases h2:(code==0)
   ·try simp -implicitDefEqProofs (maxSteps:=1000000) only [go_sem,g0,h1,h2,RecV.ok,RecV.body,RecV.who,g1,g2,g3]
    repeat refine ⟨sc,?_⟩
    try exact sf
    try rfl
   try simp -implicitDefEqProofs (maxSteps:=1000000) only [go_sem,g0,h1,h2,RecV.ok,RecV.body,RecV.who,g1,g2,g3]
   repeat refine ⟨sc,?_⟩
   try exact sf
   try rfl
 by_cases q2:kind=2
 ·subst q2
  refine G0 ?_
  cases g1:R.no
  ·refine G1 g1 ?_
   cases g0:(who==0)
   ·try simp -implicitDefEqProofs (maxSteps:=1000000) only [go_sem,g0,RecV.ok,RecV.body,RecV.who,g1]
    repeat refine ⟨sc,?_⟩
    try exact sf
   ·try simp -implicitDefEqProofs (maxSteps:=1000000) only [go_sem,g0,RecV.ok,RecV.body,RecV.who,g1]
    repeat refine ⟨sc,?_⟩
    try exact sf
  refine G1 g1 ?_
  refine C0 (c_i_NameOk key hK) ?_
  cases g2:nameOk key
  ·refine G2 g1 g2 ?_
   cases g0:(who==0)
   ·try simp -implicitDefEqProofs (maxSteps:=1000000) only [go_sem,g0,RecV.ok,RecV.body,RecV.who,g1,g2]
    repeat refine ⟨sc,?_⟩
    try exact sf
   ·try simp -implicitDefEqProofs (maxSteps:=1000000) only [go_sem,g0,RecV.ok,RecV.body,RecV.who,g1,g2]
    repeat refine ⟨sc,?_⟩
    try exact sf
  refine G1 g2 ?_
  cases g3:(n==0)
  ·refine G3 g1 g2 g3 ?_
   cases g0:(who==0)
   ·try simp -implicitDefEqProofs (maxSteps:=1000000) only [go_sem,g0,RecV.ok,RecV.body,RecV.who,g1,g2,g3]
    repeat refine ⟨sc,?_⟩
    try exact sf
   ·try simp -implicitDefEqProofs (maxSteps:=1000000) only [go_sem,g0,RecV.ok,RecV.body,RecV.who,g1,g2,g3]
    repeat refine ⟨sc,?_⟩
    try exact sf
  refine G1 g3 ?_
  cases g0:(who==0)
  ·refine G1 g0 ?_
   refine C0 (c_i_within _ _ _) ?_
   cases h1:win who 1 9
   ·try simp -implicitDefEqProofs (maxSteps:=1000000) only [go_sem,g0,h1,RecV.ok,RecV.body,RecV.who,g1,g2,g3]
    repeat refine ⟨sc,?_⟩
    try exact sf
   refine G0 ?_
   refine C0 (c_i_isWord _) ?_
   cases h2:win seq 0 65535
   ·try simp -implicitDefEqProofs (maxSteps:=1000000) only [go_sem,g0,h1,h2,RecV.ok,RecV.body,RecV.who,g1,g2,g3]
    repeat refine ⟨sc,?_⟩
    try exact sf
    try rfl
   refine G0 ?_
   refine .of (c_i_within _ _ _) ?_
   try simp -implicitDefEqProofs (maxSteps:=1000000) only [go_sem,g0,h1,h2,RecV.ok,RecV.body,RecV.who,g1,g2,g3]
   repeat refine ⟨sc,?_⟩
   try exact sf
  ·refine G1 g0 ?_
   cases h1:(seq==0)
   ·try simp -implicitDefEqProofs (maxSteps:=1000000) only [go_sem,g0,h1,RecV.ok,RecV.body,RecV.who,g1,g2,g3]
    repeat refine ⟨sc,?_⟩
    try exact sf
   refine G1 h1 ?_
   cases h2:(code==0)
   ·try simp -implicitDefEqProofs (maxSteps:=1000000) only [go_sem,g0,h1,h2,RecV.ok,RecV.body,RecV.who,g1,g2,g3]
    repeat refine ⟨sc,?_⟩
    try exact sf
    try rfl
   try simp -implicitDefEqProofs (maxSteps:=1000000) only [go_sem,g0,h1,h2,RecV.ok,RecV.body,RecV.who,g1,g2,g3]
   repeat refine ⟨sc,?_⟩
   try exact sf
   try rfl
 by_cases q3:kind=3
 ·subst q3
  refine G0 ?_
  cases g1:R.no
  ·refine G1 g1 ?_
   cases g0:(who==0)
   ·try simp -implicitDefEqProofs (maxSteps:=1000000) only [go_sem,g0,RecV.ok,RecV.body,RecV.who,g1]
    repeat refine ⟨sc,?_⟩
    try exact sf
   ·try simp -implicitDefEqProofs (maxSteps:=1000000) only [go_sem,g0,RecV.ok,RecV.body,RecV.who,g1]
    repeat refine ⟨sc,?_⟩
    try exact sf
  refine G1 g1 ?_
  cases g2:decide (key=⟨#[]⟩)
  ·refine G2 g1 g2 ?_
   cases g0:(who==0)
   ·try simp -implicitDefEqProofs (maxSteps:=1000000) only [go_sem,g0,RecV.ok,RecV.body,RecV.who,g1,g2]
    repeat refine ⟨sc,?_⟩
    try exact sf
   ·try simp -implicitDefEqProofs (maxSteps:=1000000) only [go_sem,g0,RecV.ok,RecV.body,RecV.who,g1,g2]
    repeat refine ⟨sc,?_⟩
    try exact sf
  refine G1 g2 ?_
  refine C0 (c_i_within _ _ _) ?_
  cases g3:win n 0 7
  ·refine G3 g1 g2 g3 ?_
   cases g0:(who==0)
   ·try simp -implicitDefEqProofs (maxSteps:=1000000) only [go_sem,g0,RecV.ok,RecV.body,RecV.who,g1,g2,g3]
    repeat refine ⟨sc,?_⟩
    try exact sf
   ·try simp -implicitDefEqProofs (maxSteps:=1000000) only [go_sem,g0,RecV.ok,RecV.body,RecV.who,g1,g2,g3]
    repeat refine ⟨sc,?_⟩
    try exact sf
  refine G1 g3 ?_
  cases g0:(who==0)
  ·refine G1 g0 ?_
   refine C0 (c_i_within _ _ _) ?_
   cases h1:win who 1 9
   ·try simp -implicitDefEqProofs (maxSteps:=1000000) only [go_sem,g0,h1,RecV.ok,RecV.body,RecV.who,g1,g2,g3]
    repeat refine ⟨sc,?_⟩
    try exact sf
   refine G0 ?_
   refine C0 (c_i_isWord _) ?_
   cases h2:win seq 0 65535
   ·try simp -implicitDefEqProofs (maxSteps:=1000000) only [go_sem,g0,h1,h2,RecV.ok,RecV.body,RecV.who,g1,g2,g3]
    repeat refine ⟨sc,?_⟩
    try exact sf
    try rfl
   refine G0 ?_
   refine .of (c_i_within _ _ _) ?_
   try simp -implicitDefEqProofs (maxSteps:=1000000) only [go_sem,g0,h1,h2,RecV.ok,RecV.body,RecV.who,g1,g2,g3]
   repeat refine ⟨sc,?_⟩
   try exact sf
  ·refine G1 g0 ?_
   cases h1:(seq==0)
   ·try simp -implicitDefEqProofs (maxSteps:=1000000) only [go_sem,g0,h1,RecV.ok,RecV.body,RecV.who,g1,g2,g3]
    repeat refine ⟨sc,?_⟩
    try exact sf
   refine G1 h1 ?_
   cases h2:(code==0)
   ·try simp -implicitDefEqProofs (maxSteps:=1000000) only [go_sem,g0,h1,h2,RecV.ok,RecV.body,RecV.who,g1,g2,g3]
    repeat refine ⟨sc,?_⟩
    try exact sf
    try rfl
   try simp -implicitDefEqProofs (maxSteps:=1000000) only [go_sem,g0,h1,h2,RecV.ok,RecV.body,RecV.who,g1,g2,g3]
   repeat refine ⟨sc,?_⟩
   try exact sf
   try rfl
 by_cases q4:kind=4
 ·subst q4
  refine G0 ?_
  cases g1:R.no
  ·refine G1 g1 ?_
   cases g0:(who==0)
   ·try simp -implicitDefEqProofs (maxSteps:=1000000) only [go_sem,g0,RecV.ok,RecV.body,RecV.who,g1]
    repeat refine ⟨sc,?_⟩
    try exact sf
   ·try simp -implicitDefEqProofs (maxSteps:=1000000) only [go_sem,g0,RecV.ok,RecV.body,RecV.who,g1]
    repeat refine ⟨sc,?_⟩
    try exact sf
  refine G1 g1 ?_
  cases g2:decide (key=⟨#[]⟩)
  ·refine G2 g1 g2 ?_
   cases g0:(who==0)
   ·try simp -implicitDefEqProofs (maxSteps:=1000000) only [go_sem,g0,RecV.ok,RecV.body,RecV.who,g1,g2]
    repeat refine ⟨sc,?_⟩
    try exact sf
   ·try simp -implicitDefEqProofs (maxSteps:=1000000) only [go_sem,g0,RecV.ok,RecV.body,RecV.who,g1,g2]
    repeat refine ⟨sc,?_⟩
    try exact sf
  refine G1 g2 ?_
  cases g3:(n==0)
  ·refine G3 g1 g2 g3 ?_
   cases g0:(who==0)
   ·try simp -implicitDefEqProofs (maxSteps:=1000000) only [go_sem,g0,RecV.ok,RecV.body,RecV.who,g1,g2,g3]
    repeat refine ⟨sc,?_⟩
    try exact sf
   ·try simp -implicitDefEqProofs (maxSteps:=1000000) only [go_sem,g0,RecV.ok,RecV.body,RecV.who,g1,g2,g3]
    repeat refine ⟨sc,?_⟩
    try exact sf
  refine G1 g3 ?_
  cases g0:(who==0)
  ·have g9:(who != 0)=true:=by rw [bne,g0]; rfl
   refine G2 g0 g9 ?_
   refine C0 (c_i_within _ _ _) ?_
   cases h1:win who 1 9
   ·try simp -implicitDefEqProofs (maxSteps:=1000000) only [go_sem,g0,h1,RecV.ok,RecV.body,RecV.who,g1,g2,g3]
    repeat refine ⟨sc,?_⟩
    try exact sf
   refine G0 ?_
   refine C0 (c_i_isWord _) ?_
   cases h2:win seq 0 65535
   ·try simp -implicitDefEqProofs (maxSteps:=1000000) only [go_sem,g0,h1,h2,RecV.ok,RecV.body,RecV.who,g1,g2,g3]
    repeat refine ⟨sc,?_⟩
    try exact sf
    try rfl
   refine G0 ?_
   refine .of (c_i_within _ _ _) ?_
   try simp -implicitDefEqProofs (maxSteps:=1000000) only [go_sem,g0,h1,h2,RecV.ok,RecV.body,RecV.who,g1,g2,g3]
   repeat refine ⟨sc,?_⟩
   try exact sf
  ·have g9:(who != 0)=false:=by rw [bne,g0]; rfl
   refine G2 g0 g9 ?_
   cases h1:(seq==0)
   ·try simp -implicitDefEqProofs (maxSteps:=1000000) only [go_sem,g0,h1,RecV.ok,RecV.body,RecV.who,g1,g2,g3]
    repeat refine ⟨sc,?_⟩
    try exact sf
   cases h2:(code==0)
   ·try simp -implicitDefEqProofs (maxSteps:=1000000) only [go_sem,g0,h1,h2,RecV.ok,RecV.body,RecV.who,g1,g2,g3]
    repeat refine ⟨sc,?_⟩
    try exact sf
    try rfl
   try simp -implicitDefEqProofs (maxSteps:=1000000) only [go_sem,g0,h1,h2,RecV.ok,RecV.body,RecV.who,g1,g2,g3]
   repeat refine ⟨sc,?_⟩
   try exact sf
   try rfl
 obtain ⟨k1,k2,k3,k4⟩:=other_kind q1 q2 q3 q4
 refine G4 k1 k2 k3 k4 ?_
 cases g0:(who==0)
 ·try simp -implicitDefEqProofs (maxSteps:=1000000) only [go_sem,g0,RecV.ok,RecV.body,RecV.who,k1,k2,k3,k4]
  repeat refine ⟨sc,?_⟩
  try exact sf
 ·try simp -implicitDefEqProofs (maxSteps:=1000000) only [go_sem,g0,RecV.ok,RecV.body,RecV.who,k1,k2,k3,k4]
  repeat refine ⟨sc,?_⟩
  try exact sf
def x_i_nineSign:FnX:=⟨21,[.tmp 2],
  .q [.i 2 0]
 (.seq (.q [.m 3 0]
 (.block 0 (.q [.B 5 .eql 3 164,.m 4 5]
 (.cond 4 (.q [.i 2 8364]
 .ret) (.q [.B 7 .eql 3 166,.m 6 7]
 (.cond 6 (.q [.i 2 352]
 .ret) (.q [.B 9 .eql 3 168,.m 8 9]
 (.cond 8 (.q [.i 2 353]
 .ret) (.q [.B 11 .eql 3 180,.m 10 11]
 (.cond 10 (.q [.i 2 381]
 .ret) (.q [.B 13 .eql 3 184,.m 12 13]
 (.cond 12 (.q [.i 2 382]
 .ret) (.q [.B 15 .eql 3 188,.m 14 15]
 (.cond 14 (.q [.i 2 338]
 .ret) (.q [.B 17 .eql 3 189,.m 16 17]
 (.cond 16 (.q [.i 2 339]
 .ret) (.q [.B 19 .eql 3 190,.m 18 19]
 (.c 18 (.q [.i 2 376]
 .ret)))))))))))))))))))
 (.q [.m 20 0,.m 2 20]
 .ret))⟩
theorem r_i_nineSign {Te:TE}:C_i_nineSign (RF Te x_i_nineSign):=by
 intro b
 refine run0 ?_
 cases g0:(b==164)
 rotate_left
 ·simp -implicitDefEqProofs (maxSteps:=1000000) only [x_i_nineSign,go_sem,nine,g0]
  repeat refine ⟨sc,?_⟩
  try exact sf
 cases g1:(b==166)
 rotate_left
 ·simp -implicitDefEqProofs (maxSteps:=1000000) only [x_i_nineSign,go_sem,nine,g1,g0]
  repeat refine ⟨sc,?_⟩
  try exact sf
 cases g2:(b==168)
 rotate_left
 ·simp -implicitDefEqProofs (maxSteps:=1000000) only [x_i_nineSign,go_sem,nine,g2,g0,g1]
  repeat refine ⟨sc,?_⟩
  try exact sf
 cases g3:(b==180)
 rotate_left
 ·simp -implicitDefEqProofs (maxSteps:=1000000) only [x_i_nineSign,go_sem,nine,g3,g0,g1,g2]
  repeat refine ⟨sc,?_⟩
  try exact sf
 cases g4:(b==184)
 rotate_left
 ·simp -implicitDefEqProofs (maxSteps:=1000000) only [x_i_nineSign,go_sem,nine,g4,g0,g1,g2,g3]
  repeat refine ⟨sc,?_⟩
  try exact sf
 cases g5:(b==188)
 rotate_left
 ·simp -implicitDefEqProofs (maxSteps:=1000000) only [x_i_nineSign,go_sem,nine,g5,g0,g1,g2,g3,g4]
  repeat refine ⟨sc,?_⟩
  try exact sf
 cases g6:(b==189)
 rotate_left
 ·simp -implicitDefEqProofs (maxSteps:=1000000) only [x_i_nineSign,go_sem,nine,g6,g0,g1,g2,g3,g4,g5]
  repeat refine ⟨sc,?_⟩
  try exact sf
 cases g7:(b==190)
 rotate_left
 ·simp -implicitDefEqProofs (maxSteps:=1000000) only [x_i_nineSign,go_sem,nine,g7,g0,g1,g2,g3,g4,g5,g6]
  repeat refine ⟨sc,?_⟩
  try exact sf
 simp -implicitDefEqProofs (maxSteps:=1000000) only [x_i_nineSign,go_sem,nine,g0,g1,g2,g3,g4,g5,g6,g7]
 repeat refine ⟨sc,?_⟩
 try exact sf
def x_s_l3Nine:FnX:=⟨21,[.tmp 2],
  .q [.i 2 0]
 (.seq (.q [.m 3 0]
 (.block 0 (.q [.B 5 .eql 3 164,.m 4 5]
 (.cond 4 (.q [.i 2 8364]
 .ret) (.q [.B 7 .eql 3 166,.m 6 7]
 (.cond 6 (.q [.i 2 352]
 .ret) (.q [.B 9 .eql 3 168,.m 8 9]
 (.cond 8 (.q [.i 2 353]
 .ret) (.q [.B 11 .eql 3 180,.m 10 11]
 (.cond 10 (.q [.i 2 381]
 .ret) (.q [.B 13 .eql 3 184,.m 12 13]
 (.cond 12 (.q [.i 2 382]
 .ret) (.q [.B 15 .eql 3 188,.m 14 15]
 (.cond 14 (.q [.i 2 338]
 .ret) (.q [.B 17 .eql 3 189,.m 16 17]
 (.cond 16 (.q [.i 2 339]
 .ret) (.q [.B 19 .eql 3 190,.m 18 19]
 (.c 18 (.q [.i 2 376]
 .ret)))))))))))))))))))
 (.q [.m 20 0,.m 2 20]
 .ret))⟩
theorem r_s_l3Nine {Te:TE}:C_s_l3Nine (RF Te x_s_l3Nine):=by
 intro b
 refine run0 ?_
 cases g0:(b==164)
 rotate_left
 ·simp -implicitDefEqProofs (maxSteps:=1000000) only [x_s_l3Nine,go_sem,nine,g0]
  repeat refine ⟨sc,?_⟩
  try exact sf
 cases g1:(b==166)
 rotate_left
 ·simp -implicitDefEqProofs (maxSteps:=1000000) only [x_s_l3Nine,go_sem,nine,g1,g0]
  repeat refine ⟨sc,?_⟩
  try exact sf
 cases g2:(b==168)
 rotate_left
 ·simp -implicitDefEqProofs (maxSteps:=1000000) only [x_s_l3Nine,go_sem,nine,g2,g0,g1]
  repeat refine ⟨sc,?_⟩
  try exact sf
 cases g3:(b==180)
 rotate_left
 ·simp -implicitDefEqProofs (maxSteps:=1000000) only [x_s_l3Nine,go_sem,nine,g3,g0,g1,g2]
  repeat refine ⟨sc,?_⟩
  try exact sf
 cases g4:(b==184)
 rotate_left
 ·simp -implicitDefEqProofs (maxSteps:=1000000) only [x_s_l3Nine,go_sem,nine,g4,g0,g1,g2,g3]
  repeat refine ⟨sc,?_⟩
  try exact sf
 cases g5:(b==188)
 rotate_left
 ·simp -implicitDefEqProofs (maxSteps:=1000000) only [x_s_l3Nine,go_sem,nine,g5,g0,g1,g2,g3,g4]
  repeat refine ⟨sc,?_⟩
  try exact sf
 cases g6:(b==189)
 rotate_left
 ·simp -implicitDefEqProofs (maxSteps:=1000000) only [x_s_l3Nine,go_sem,nine,g6,g0,g1,g2,g3,g4,g5]
  repeat refine ⟨sc,?_⟩
  try exact sf
 cases g7:(b==190)
 rotate_left
 ·simp -implicitDefEqProofs (maxSteps:=1000000) only [x_s_l3Nine,go_sem,nine,g7,g0,g1,g2,g3,g4,g5,g6]
  repeat refine ⟨sc,?_⟩
  try exact sf
 simp -implicitDefEqProofs (maxSteps:=1000000) only [x_s_l3Nine,go_sem,nine,g0,g1,g2,g3,g4,g5,g6,g7]
 repeat refine ⟨sc,?_⟩
 try exact sf
def x_i_koiSign:FnX:=⟨26,[.tmp 2],
  .q [.i 2 0]
 (.q [.op 4 (.build [.i 0,.i 0,.i 0,.i 0,.i 0,.i 0,.i 0,.i 0,.i 0,.i 0,.i 0,.i 0,.i 0,.i 0,.i 0,.i 0,.i 0,.i 0,.i 0,.i 0,.i 0,.i 0,.i 0,.i 0,.i 0,.i 0,.i 0,.i 0,.i 0,.i 0,.i 0,.i 0] [(0,1,(.i 1102)),(1,1,(.i 1072)),(2,1,(.i 1073)),(3,1,(.i 1094)),(4,1,(.i 1076)),(5,1,(.i 1077)),(6,1,(.i 1092)),(7,1,(.i 1075)),(8,1,(.i 1093)),(9,1,(.i 1080)),(10,1,(.i 1081)),(11,1,(.i 1082)),(12,1,(.i 1083)),(13,1,(.i 1084)),(14,1,(.i 1085)),(15,1,(.i 1086)),(16,1,(.i 1087)),(17,1,(.i 1103)),(18,1,(.i 1088)),(19,1,(.i 1089)),(20,1,(.i 1090)),(21,1,(.i 1091)),(22,1,(.i 1078)),(23,1,(.i 1074)),(24,1,(.i 1100)),(25,1,(.i 1099)),(26,1,(.i 1079)),(27,1,(.i 1096)),(28,1,(.i 1101)),(29,1,(.i 1097)),(30,1,(.i 1095)),(31,1,(.i 1098))]),.op 3 (.alloc [.i 0,.i 0,.i 0,.i 0,.i 0,.i 0,.i 0,.i 0,.i 0,.i 0,.i 0,.i 0,.i 0,.i 0,.i 0,.i 0,.i 0,.i 0,.i 0,.i 0,.i 0,.i 0,.i 0,.i 0,.i 0,.i 0,.i 0,.i 0,.i 0,.i 0,.i 0,.i 0]),.s 100001 32 3 4]
 (.seq (.block 0 (.q [.m 6 0,.B 7 .geq 6 224,.m 5 7]
 (.cond 5 (.q [.m 8 0,.B 9 .sub 8 224,.op 10 (.aaddr 32 1 (.t 3) (.t 9)),.l 11 10,.B 12 .sub 11 32,.m 2 12]
 .ret) (.q [.m 14 0,.B 15 .geq 14 192,.m 13 15]
 (.cond 13 (.q [.m 16 0,.B 17 .sub 16 192,.op 18 (.aaddr 32 1 (.t 3) (.t 17)),.l 19 18,.m 2 19]
 .ret) (.q [.m 21 0,.B 22 .eql 21 163,.m 20 22]
 (.cond 20 (.q [.i 2 1105]
 .ret) (.q [.m 24 0,.B 25 .eql 24 179,.m 23 25]
 (.c 23 (.q [.i 2 1025]
 .ret))))))))))
 (.q [.i 2 0]
 .ret)))⟩
theorem r_i_koiSign {Te:TE}:C_i_koiSign (RF Te x_i_koiSign):=by
 intro b hb
 refine run0 ?_
 cases g1:decide (b≥224)
 ·cases g2:decide (b≥192)
  ·cases g3:(b==163)
   ·cases g4:(b==179)
    ·simp -implicitDefEqProofs (maxSteps:=1000000) only [x_i_koiSign,go_sem,koi,g1,g2,g3,g4]
     repeat refine ⟨sc,?_⟩
     try exact sf
    ·simp -implicitDefEqProofs (maxSteps:=1000000) only [x_i_koiSign,go_sem,koi,g1,g2,g3,g4]
     repeat refine ⟨sc,?_⟩
     try exact sf
   ·simp -implicitDefEqProofs (maxSteps:=1000000) only [x_i_koiSign,go_sem,koi,g1,g2,g3]
    repeat refine ⟨sc,?_⟩
    try exact sf
  ·simp only [decide_eq_true_eq] at g2
   have e:IntKind.i64.wrap (b - 192)=b - 192:=IntWalk.i64_in _ (by omega)
   simp only [decide_eq_false_iff_not] at g1
   have hk:(b - 192).toNat < 32:=by omega
   have q1:=decide_eq_false g1
   have q2:=decide_eq_true g2
   simp -implicitDefEqProofs (maxSteps:=1000000) only [x_i_koiSign,go_sem,koi,q1,q2,e,Nat.mul_one]
   repeat refine ⟨sc,?_⟩
   try exact sf
   try simp -implicitDefEqProofs (maxSteps:=1000000) only [go_sem,koi_cel hk,q1,q2]
   repeat refine ⟨sc,?_⟩
   try exact sf
 ·simp only [decide_eq_true_eq] at g1
  have e:IntKind.i64.wrap (b - 224)=b - 224:=IntWalk.i64_in _ (by omega)
  have hk:(b - 224).toNat < 32:=by omega
  have q1:=decide_eq_true g1
  have hv:=koi_in ⟨(b - 224).toNat,hk⟩
  have e2:IntKind.i64.wrap (koiL.getD (b - 224).toNat 0 - 32)=koiL.getD (b - 224).toNat 0 - 32:=IntWalk.i64_in _ (by simp only at hv; omega)
  simp -implicitDefEqProofs (maxSteps:=1000000) only [x_i_koiSign,go_sem,koi,q1,e,Nat.mul_one]
  repeat refine ⟨sc,?_⟩
  try exact sf
  try simp -implicitDefEqProofs (maxSteps:=1000000) only [go_sem,koi_cel hk,q1,e2]
  repeat refine ⟨sc,?_⟩
  try exact sf
def x_s_NodeDel:FnX:=⟨44,[.cell 8 (some 10),.tmp 9,.tmp 10],
  .q [.v 4 0,.op 8 (.alloc [.nils 1,.nils 2,.i 0,.F,.nils 7,.i 0,.nils 3,.i 0,.i 0,.i 0]),.i 9 0,.F 10]
 (.q [.L 15 10 4,.m 16 1,.m 17 2,.c 18 44 [15,16,17],.m 14 18,.e 19 14 0,.e 20 14 1,.m 11 19,.m 12 20]
 (.seq (.q [.m 21 12]
 (.c 21 (.q [.L 22 10 4,.c 23 27 [22],.m 24 11,.s 100001 10 8 23,.m 9 24,.F 10]
 .ret)))
 (.q [.i 13 0]
 (.seq (.q [.m 25 3,.c 26 29 [25],.N 27 26]
 (.cond 27 (.reg [.i 13 1]) (.q [.f 28 4 0,.f 29 28 4,.L 30 3 29,.m 31 3,.c 32 45 [30,31],.B 33 .lss 32 0]
 (.c 33 (.reg [.i 13 2])))))
 (.q [.L 34 10 4,.m 35 3,.m 36 1,.m 37 2,.m 38 13,.op 39 (.build [.i 0,.e,.i 0,.nils 1,.i 0,.nils 1,.i 0,.F,.e,.i 0,.i 0,.i 0,.i 0] [(0,1,(.i 2)),(8,1,(.t 35)),(10,1,(.t 36)),(11,1,(.t 37)),(12,1,(.t 38))]),.c 40 46 [34,39],.e 41 40 0,.e 42 40 1,.e 43 40 2,.s 100002 10 8 41,.m 9 42,.m 10 43]
 .ret)))))⟩
theorem r_s_NodeDel {Te:TE} (c_s_l15Old:C_s_l15Old Te) (c_s_l15Copy:C_s_l15Copy Te) (c_s_NameOk:C_s_NameOk Te) (c_s_RowAt:C_s_RowAt Te) (c_s_l15End:C_s_l15End Te):C_s_NodeDel (RF Te x_s_NodeDel):=by
 intro n who seq key hn hk
 have hL:=hn.len (by decide)
 refine X0 x_s_NodeDel.eq_1 ?_
 refine C0 (c_s_l15Old n _ _ (hn.mono (by decide))) ?_
 cases g3:(n.old who seq).2
 rotate_left
 ·have e:n.del who seq key=(n,(n.old who seq).1,false):=by rw [NodeV.del,g3]; rfl
  refine G1 g3 ?_
  exact D1 (c_s_l15Copy n hL) e
 have e:n.del who seq key=n.changed ((RecV.mk 2 RowV.zero key 0 who seq (n.delCode key)).told):=by rw [NodeV.del,g3]; rfl
 have hu:n.up=true:=by
  cases g:n.up
  ·rw [NodeV.old,g] at g3; cases g3
  ·rfl
 have hr:(RecV.mk 2 RowV.zero key 0 who seq (n.delCode key)).In (2 ^ 20):=⟨RowV.zero_in _,hk⟩
 have tl:=c_s_l15End n _ hu hn hr
 refine G1 g3 ?_
 refine C0 (c_s_NameOk key (by omega)) ?_
 cases g1:nameOk key
 ·have ec:n.delCode key=1:=by rw [NodeV.delCode,g1]; rfl
  rw [ec] at tl e
  refine G0 ?_
  exact D1 (tl) e
 refine G0 ?_
 refine C0 (c_s_RowAt n.S.T key (by have:=hn.2.1.1; omega)) ?_
 cases g2:decide (rowAt n.S.T.Rows key < 0)
 ·have ec:n.delCode key=0:=by rw [NodeV.delCode,g1,g2]; rfl
  rw [ec] at tl e
  refine G1 g2 ?_
  exact D1 (tl) e
 ·have ec:n.delCode key=2:=by rw [NodeV.delCode,g1,g2]; rfl
  rw [ec] at tl e
  refine G1 g2 ?_
  exact D1 (tl) e
def x_s_NodePut:FnX:=⟨68,[.cell 10 (some 10),.tmp 11,.tmp 12],
  .q [.v 5 0,.op 10 (.alloc [.nils 1,.nils 2,.i 0,.F,.nils 7,.i 0,.nils 3,.i 0,.i 0,.i 0]),.i 11 0,.F 12]
 (.q [.L 18 10 5,.m 19 1,.m 20 2,.c 21 44 [18,19,20],.m 17 21,.e 22 17 0,.e 23 17 1,.m 13 22,.m 14 23]
 (.seq (.q [.m 24 14]
 (.c 24 (.q [.L 25 10 5,.c 26 27 [25],.m 27 13,.s 100001 10 10 26,.m 11 27,.F 12]
 .ret)))
 (.q [.f 29 5 0,.f 30 29 4,.f 31 30 1,.l 32 31,.m 33 3,.f 34 5 9,.l 35 34,.m 36 4,.c 37 51 [32,33,35,36],.m 28 37,.e 38 28 0,.e 39 28 1,.op 15 (.alloc [.e,.i 0,.nils 1,.i 0,.nils 1,.i 0,.F]),.s 100002 7 15 38,.m 16 39]
 (.seq (.q [.m 40 16,.B 41 .eql 40 0,.m 42 41,.y 42 (.f 43 5 0),.y 42 (.f 44 43 4),.y 42 (.L 45 3 44),.y 42 (.m 46 3),.y 42 (.c 47 45 [45,46]),.y 42 (.B 48 .lss 47 0),.a 49 42 48,.m 50 49,.y 50 (.f 51 5 0),.y 50 (.f 52 51 4),.y 50 (.f 53 52 0),.y 50 (.l 54 53),.y 50 (.n 55 54),.y 50 (.B 56 .geq 55 8),.a 57 50 56]
 (.c 57 (.reg [.i 16 5])))
 (.q [.L 58 10 5,.L 59 7 15,.m 60 1,.m 61 2,.m 62 16,.op 63 (.build [.i 0,.e,.i 0,.nils 1,.i 0,.nils 1,.i 0,.F,.e,.i 0,.i 0,.i 0,.i 0] [(0,1,(.i 1)),(1,7,(.t 59)),(10,1,(.t 60)),(11,1,(.t 61)),(12,1,(.t 62))]),.c 64 46 [58,63],.e 65 64 0,.e 66 64 1,.e 67 64 2,.s 100003 10 10 65,.m 11 66,.m 12 67]
 .ret)))))⟩
theorem r_s_NodePut {Te:TE} (c_s_l15Old:C_s_l15Old Te) (c_s_l15Copy:C_s_l15Copy Te) (c_s_RowOf:C_s_RowOf Te) (c_s_RowAt:C_s_RowAt Te) (c_s_l15End:C_s_l15End Te):C_s_NodePut (RF Te x_s_NodePut):=by
 intro n who seq key s hn hk hs
 have hL:=hn.len (by decide)
 refine X0 x_s_NodePut.eq_1 ?_
 refine C0 (c_s_l15Old n _ _ (hn.mono (by decide))) ?_
 cases g3:(n.old who seq).2
 rotate_left
 ·have e:n.putIn who seq key s=(n,(n.old who seq).1,false):=by rw [NodeV.putIn,g3]; rfl
  refine G1 g3 ?_
  exact D1 (c_s_l15Copy n hL) e
 have e:n.putIn who seq key s=n.changed ((recRowBy (rowOf n.S.T.Phase key n.Cs s).1 who seq (n.putCode key s)).told):=by rw [NodeV.putIn,g3]; rfl
 have hu:n.up=true:=by
  cases g:n.up
  ·rw [NodeV.old,g] at g3; cases g3
  ·rfl
 have h8:n.S.T.Rows.length≤8:=by
  have:=NodeV.up_tab hu
  simp only [TabV.ok,Bool.and_eq_true,decide_eq_true_eq] at this
  have:=this.2.1
  omega
 have hr:(recRowBy (rowOf n.S.T.Phase key n.Cs s).1 who seq (n.putCode key s)).In (2 ^ 20):=⟨rowOf_in hk,Nat.zero_le _⟩
 have tl:=c_s_l15End n _ hu hn hr
 refine G1 g3 ?_
 refine C0 (c_s_RowOf n.S.T.Phase key n.Cs s hk hs) ?_
 cases g1:((rowOf n.S.T.Phase key n.Cs s).2==0)
 ·have ec:n.putCode key s=(rowOf n.S.T.Phase key n.Cs s).2:=by rw [NodeV.putCode,g1]; rfl
  rw [ec] at tl e
  refine G1 g1 ?_
  exact D1 (tl) e
 have g0:(rowOf n.S.T.Phase key n.Cs s).2=0:=eq_of_beq g1
 refine G1 g1 ?_
 refine C0 (c_s_RowAt n.S.T key (by have:=hn.2.1.1; omega)) ?_
 cases g2:decide (rowAt n.S.T.Rows key < 0)
 ·have ec:n.putCode key s=(rowOf n.S.T.Phase key n.Cs s).2:=by rw [NodeV.putCode,g1,g2]; rfl
  rw [ec] at tl e
  refine G1 g2 ?_
  exact D1 (tl) e
 ·cases g3:((n.S.T.Rows.length:Int)==8)
  ·have ec:n.putCode key s=(rowOf n.S.T.Phase key n.Cs s).2:=by rw [NodeV.putCode,g1,g2,g3]; rfl
   have g4:decide ((n.S.T.Rows.length:Int)≥8)=false:=by simp only [beq_eq_false_iff_ne] at g3; exact decide_eq_false (by omega)
   rw [ec] at tl e
   refine G2 g2 g4 ?_
   exact D1 (tl) e
  ·have ec:n.putCode key s=5:=by rw [NodeV.putCode,g1,g2,g3]; rfl
   have g4:decide ((n.S.T.Rows.length:Int)≥8)=true:=by simp only [beq_iff_eq] at g3; exact decide_eq_true (by omega)
   rw [ec] at tl e
   refine G2 g2 g4 ?_
   exact D1 (tl) e
def x_s_l11Who:FnX:=⟨32,[.tmp 2],
  .q [.v 1 0,.F 2]
 (.seq (.q [.f 3 1 10,.l 4 3,.B 5 .eql 4 0]
 (.c 5 (.q [.f 6 1 11,.l 7 6,.B 8 .eql 7 0,.m 9 8,.y 9 (.f 10 1 12),.y 9 (.l 11 10),.y 9 (.B 12 .eql 11 0),.a 13 9 12,.m 14 13,.y 14 (.f 15 1 0),.y 14 (.l 16 15),.y 14 (.B 17 .neq 16 4),.a 18 14 17,.m 2 18]
 .ret)))
 (.q [.f 19 1 10,.l 20 19,.op 21 (.call 64 [0,0,0] [(.t 20),(.i 1),(.i 9)]),.m 22 21,.y 22 (.f 23 1 11),.y 22 (.l 24 23),.y 22 (.c 25 120 [24]),.a 26 22 25,.m 27 26,.y 27 (.f 28 1 12),.y 27 (.l 29 28),.y 27 (.op 30 (.call 64 [0,0,0] [(.t 29),(.i 0),(.i 6)])),.a 31 27 30,.m 2 31]
 .ret))⟩
theorem r_s_l11Who {Te:TE} (c_s_l1In:C_s_l1In Te) (c_s_l1Word:C_s_l1Word Te):C_s_l11Who (RF Te x_s_l11Who):=by
 intro r
 refine X0 x_s_l11Who.eq_1 ?_
 cases g0:(r.Who==0)
 ·refine G1 g0 ?_
  refine C0 (c_s_l1In _ _ _) ?_
  cases g1:win r.Who 1 9
  ·try simp -implicitDefEqProofs (maxSteps:=1000000) only [go_sem,RecV.who,g0,g1]
   repeat refine ⟨sc,?_⟩
   try exact sf
  refine G0 ?_
  refine C0 (c_s_l1Word _) ?_
  cases g2:win r.Seq 0 65535
  ·try simp -implicitDefEqProofs (maxSteps:=1000000) only [go_sem,RecV.who,g0,g1,g2]
   repeat refine ⟨sc,?_⟩
   try exact sf
  refine G0 ?_
  refine .of (c_s_l1In _ _ _) ?_
  try simp -implicitDefEqProofs (maxSteps:=1000000) only [go_sem,RecV.who,g0,g1,g2]
  repeat refine ⟨sc,?_⟩
  try exact sf
 ·refine G1 g0 ?_
  cases g1:(r.Seq==0)
  ·try simp -implicitDefEqProofs (maxSteps:=1000000) only [go_sem,RecV.who,g0,g1]
   repeat refine ⟨sc,?_⟩
   try exact sf
  refine G1 g1 ?_
  cases g2:(r.Code==0)
  ·try simp -implicitDefEqProofs (maxSteps:=1000000) only [go_sem,RecV.who,g0,g1,g2]
   repeat refine ⟨sc,?_⟩
   try exact sf
  try simp -implicitDefEqProofs (maxSteps:=1000000) only [go_sem,RecV.who,g0,g1,g2]
  repeat refine ⟨sc,?_⟩
  try exact sf
def x_s_RecOk:FnX:=⟨48,[.tmp 2],
  .q [.v 1 0,.F 2]
 (.q [.f 6 1 1,.L 7 7 6,.c 8 177 [7],.m 3 8]
 (.q [.f 9 1 8,.l 10 9,.op 11 (.bin .eql (.t 10) (.k (.one (.pv (.string ⟨#[]⟩))))),.m 4 11]
 (.q [.f 12 1 9,.l 13 12,.B 14 .eql 13 0,.m 5 14]
 (.seq (.q [.f 15 1 0,.l 16 15]
 (.block 0 (.q [.B 18 .eql 16 1,.m 17 18]
 (.cond 17 (.reg [.f 19 1 1,.L 20 7 19,.c 21 160 [20],.m 3 21]) (.q [.B 23 .eql 16 2,.m 22 23]
 (.cond 22 (.reg [.f 24 1 8,.l 25 24,.c 26 29 [25],.m 4 26]) (.q [.B 28 .eql 16 3,.m 27 28]
 (.c 27 (.reg [.f 29 1 9,.l 30 29,.op 31 (.call 64 [0,0,0] [(.t 30),(.i 0),(.i 7)]),.m 5 31])))))))))
 (.q [.f 32 1 0,.l 33 32,.op 34 (.call 64 [0,0,0] [(.t 33),(.i 1),(.i 4)]),.m 35 34,.y 35 (.m 36 3),.a 37 35 36,.m 38 37,.y 38 (.m 39 4),.a 40 38 39,.m 41 40,.y 41 (.m 42 5),.a 43 41 42,.m 44 43,.y 44 (.L 45 13 1),.y 44 (.c 46 178 [45]),.a 47 44 46,.m 2 47]
 .ret)))))⟩
theorem r_s_RecOk {Te:TE} (c_s_l11NoRow:C_s_l11NoRow Te) (c_s_RowOk:C_s_RowOk Te) (c_s_NameOk:C_s_NameOk Te) (c_s_l1In:C_s_l1In Te) (c_s_l11Who:C_s_l11Who Te):C_s_RecOk (RF Te x_s_RecOk):=by
 intro r h
 refine run0 ?_
 have hR:=h.1
 have hK:=h.2
 simp -implicitDefEqProofs (maxSteps:=1000000) only [x_s_RecOk,go_sem,bytes_beq]
 repeat refine ⟨sc,?_⟩
 try exact sf
 refine .of (c_s_l11NoRow r.R) ?_
 try simp -implicitDefEqProofs (maxSteps:=1000000) only [go_sem,bytes_beq]
 repeat refine ⟨sc,?_⟩
 try exact sf
 cases gk:win r.Kind 1 4
 ·obtain ⟨k1,k2,k3,k4⟩:=kind_win gk
  refine G3 k1 k2 k3 ?_
  refine .of (c_s_l1In _ _ _) ?_
  try simp -implicitDefEqProofs (maxSteps:=1000000) only [go_sem,gk,RecV.ok,RecV.body,k1,k2,k3,k4]
  repeat refine ⟨sc,?_⟩
  try exact sf
 obtain ⟨kind,R,key,n,who,seq,code⟩:=r
 simp only at gk hR hK
 rcases win_kind gk with rfl | rfl | rfl | rfl
 ·skip
  refine G0 ?_
  refine C0 (c_s_RowOk R hR) ?_
  refine C1 (c_s_l1In _ _ _) gk ?_
  cases g1:R.ok
  ·try simp -implicitDefEqProofs (maxSteps:=1000000) only [go_sem,RecV.ok,RecV.body,g1]
   repeat refine ⟨sc,?_⟩
   try exact sf
  refine G0 ?_
  cases g2:decide (key=⟨#[]⟩)
  ·try simp -implicitDefEqProofs (maxSteps:=1000000) only [go_sem,RecV.ok,RecV.body,g1,g2]
   repeat refine ⟨sc,?_⟩
   try exact sf
  refine G0 ?_
  cases g3:(n==0)
  ·try simp -implicitDefEqProofs (maxSteps:=1000000) only [go_sem,RecV.ok,RecV.body,g1,g2,g3]
   repeat refine ⟨sc,?_⟩
   try exact sf
  refine G0 ?_
  refine .of (c_s_l11Who ⟨1,R,key,n,who,seq,code⟩) ?_
  try simp -implicitDefEqProofs (maxSteps:=1000000) only [go_sem,RecV.ok,RecV.body,g1,g2,g3]
  repeat refine ⟨sc,?_⟩
  try exact sf
 ·skip
  refine G0 ?_
  refine C0 (c_s_NameOk key hK) ?_
  refine C1 (c_s_l1In _ _ _) gk ?_
  cases g1:R.no
  ·try simp -implicitDefEqProofs (maxSteps:=1000000) only [go_sem,RecV.ok,RecV.body,g1]
   repeat refine ⟨sc,?_⟩
   try exact sf
  refine G0 ?_
  cases g2:nameOk key
  ·try simp -implicitDefEqProofs (maxSteps:=1000000) only [go_sem,RecV.ok,RecV.body,g1,g2]
   repeat refine ⟨sc,?_⟩
   try exact sf
  refine G0 ?_
  cases g3:(n==0)
  ·try simp -implicitDefEqProofs (maxSteps:=1000000) only [go_sem,RecV.ok,RecV.body,g1,g2,g3]
   repeat refine ⟨sc,?_⟩
   try exact sf
  refine G0 ?_
  refine .of (c_s_l11Who ⟨2,R,key,n,who,seq,code⟩) ?_
  try simp -implicitDefEqProofs (maxSteps:=1000000) only [go_sem,RecV.ok,RecV.body,g1,g2,g3]
  repeat refine ⟨sc,?_⟩
  try exact sf
 ·skip
  refine G0 ?_
  refine C0 (c_s_l1In _ _ _) ?_
  refine C1 (c_s_l1In _ _ _) gk ?_
  cases g1:R.no
  ·try simp -implicitDefEqProofs (maxSteps:=1000000) only [go_sem,RecV.ok,RecV.body,g1]
   repeat refine ⟨sc,?_⟩
   try exact sf
  refine G0 ?_
  cases g2:decide (key=⟨#[]⟩)
  ·try simp -implicitDefEqProofs (maxSteps:=1000000) only [go_sem,RecV.ok,RecV.body,g1,g2]
   repeat refine ⟨sc,?_⟩
   try exact sf
  refine G0 ?_
  cases g3:win n 0 7
  ·try simp -implicitDefEqProofs (maxSteps:=1000000) only [go_sem,RecV.ok,RecV.body,g1,g2,g3]
   repeat refine ⟨sc,?_⟩
   try exact sf
  refine G0 ?_
  refine .of (c_s_l11Who ⟨3,R,key,n,who,seq,code⟩) ?_
  try simp -implicitDefEqProofs (maxSteps:=1000000) only [go_sem,RecV.ok,RecV.body,g1,g2,g3]
  repeat refine ⟨sc,?_⟩
  try exact sf
 ·skip
  refine G0 ?_
  refine C1 (c_s_l1In _ _ _) gk ?_
  cases g1:R.no
  ·try simp -implicitDefEqProofs (maxSteps:=1000000) only [go_sem,RecV.ok,RecV.body,g1]
   repeat refine ⟨sc,?_⟩
   try exact sf
  refine G0 ?_
  cases g2:decide (key=⟨#[]⟩)
  ·try simp -implicitDefEqProofs (maxSteps:=1000000) only [go_sem,RecV.ok,RecV.body,g1,g2]
   repeat refine ⟨sc,?_⟩
   try exact sf
  refine G0 ?_
  cases g3:(n==0)
  ·try simp -implicitDefEqProofs (maxSteps:=1000000) only [go_sem,RecV.ok,RecV.body,g1,g2,g3]
   repeat refine ⟨sc,?_⟩
   try exact sf
  refine G0 ?_
  refine .of (c_s_l11Who ⟨4,R,key,n,who,seq,code⟩) ?_
  try simp -implicitDefEqProofs (maxSteps:=1000000) only [go_sem,RecV.ok,RecV.body,g1,g2,g3]
  repeat refine ⟨sc,?_⟩
  try exact sf
def x_i_isSet:FnX:=⟨5,[.tmp 2],
  .q [.F 2]
 (.q [.m 3 0,.op 4 (.call 77 [0,0,0] [(.t 3),(.i 0),(.i 5)]),.m 2 4]
 .ret)⟩
theorem r_i_isSet {Te:TE} (c_i_within:C_i_within Te):C_i_isSet (RF Te x_i_isSet):=by
 intro cs
 refine X0 x_i_isSet.eq_1 ?_
 exact D0 (c_i_within _ _ _)
def x_s_l5Cs:FnX:=⟨5,[.tmp 2],
  .q [.F 2]
 (.q [.m 3 0,.op 4 (.call 64 [0,0,0] [(.t 3),(.i 0),(.i 5)]),.m 2 4]
 .ret)⟩
theorem r_s_l5Cs {Te:TE} (c_s_l1In:C_s_l1In Te):C_s_l5Cs (RF Te x_s_l5Cs):=by
 intro cs
 refine X0 x_s_l5Cs.eq_1 ?_
 exact D0 (c_s_l1In _ _ _)
def x_i_signIn:FnX:=⟨42,[.tmp 6,.tmp 7,.tmp 8],
  .q [.i 6 0,.i 7 0,.F 8]
 (.seq (.q [.m 11 0]
 (.block 0 (.q [.B 13 .eql 11 0,.m 12 13]
 (.cond 12 (.q [.m 14 1,.m 15 2,.c 16 132 [14,15],.e 17 16 0,.e 18 16 1,.e 19 16 2,.m 6 17,.m 7 18,.m 8 19]
 .ret) (.q [.B 21 .eql 11 5,.m 20 21]
 (.c 20 (.q [.m 22 1,.m 23 2,.c 24 133 [22,23],.e 25 24 0,.e 26 24 1,.e 27 24 2,.m 6 25,.m 7 26,.m 8 27]
 .ret)))))))
 (.q [.m 29 0,.m 30 1,.m 31 2,.x 32 1 30 31,.l 33 32,.op 34 (.conv (.int .i64) (.t 33)),.c 35 134 [29,34],.m 28 35,.e 36 28 0,.e 37 28 1,.m 9 36,.m 10 37]
 (.q [.m 38 9,.m 39 2,.B 40 .add 39 1,.m 41 10,.m 6 38,.m 7 40,.m 8 41]
 .ret)))⟩
theorem r_i_signIn {Te:TE} (c_i_GetSign:C_i_GetSign Te) (c_i_EucSign:C_i_EucSign Te) (c_i_ByteSign:C_i_ByteSign Te):C_i_signIn (RF Te x_i_signIn):=by
 intro cs b i hb hi
 refine run0 ?_
 cases g0:(cs==0)
 ·have n0:¬ cs=0:=by simpa using g0
  cases g5:(cs==5)
  ·have n5:¬ cs=5:=by simpa using g5
   have e:signIn cs b i=((byteSign cs (byteN b i.toNat:Nat)).1,i + 1,(byteSign cs (byteN b i.toNat:Nat)).2):=by rw [signIn,if_neg n0,if_neg n5]
   have hk:i.toNat < b.length:=by omega
   have eb:b[i.toNat].toNat=byteN b i.toNat:=by
    simp only [byteN,List.getD_eq_getElem?_getD]
    rw [List.getElem?_eq_getElem hk]
    rfl
   have hlt:=byteN_lt b i.toNat
   have w1:IntKind.i64.wrap ((byteN b i.toNat:Nat):Int)=(byteN b i.toNat:Nat):=IntWalk.i64_in _ (by omega)
   have w2:IntKind.i64.wrap (i + 1)=i + 1:=IntWalk.i64_in _ (by omega)
   simp -implicitDefEqProofs (maxSteps:=1000000) only [x_i_signIn,go_sem,g0,g5,List.getElem?_eq_getElem hk,eb,w1]
   repeat refine ⟨sc,?_⟩
   try exact sf
   exact D2 (c_i_ByteSign _ _) w2 e
  ·have n5:cs=5:=eq_of_beq g5
   subst n5
   have e:signIn 5 b i=eucSign b i:=rfl
   simp -implicitDefEqProofs (maxSteps:=1000000) only [x_i_signIn,go_sem]
   repeat refine ⟨sc,?_⟩
   try exact sf
   exact D1 (c_i_EucSign b i hb) e
 ·have n0:cs=0:=eq_of_beq g0
  subst n0
  have e:signIn 0 b i=getSign b i:=rfl
  simp -implicitDefEqProofs (maxSteps:=1000000) only [x_i_signIn,go_sem]
  repeat refine ⟨sc,?_⟩
  try exact sf
  exact D1 (c_i_GetSign b i (by omega)) e
def x_s_l5Get:FnX:=⟨42,[.tmp 6,.tmp 7,.tmp 8],
  .q [.i 6 0,.i 7 0,.F 8]
 (.seq (.q [.m 11 0]
 (.block 0 (.q [.B 13 .eql 11 0,.m 12 13]
 (.cond 12 (.q [.m 14 1,.m 15 2,.c 16 109 [14,15],.e 17 16 0,.e 18 16 1,.e 19 16 2,.m 6 17,.m 7 18,.m 8 19]
 .ret) (.q [.B 21 .eql 11 5,.m 20 21]
 (.c 20 (.q [.m 22 1,.m 23 2,.c 24 110 [22,23],.e 25 24 0,.e 26 24 1,.e 27 24 2,.m 6 25,.m 7 26,.m 8 27]
 .ret)))))))
 (.q [.m 29 0,.m 30 1,.m 31 2,.x 32 1 30 31,.l 33 32,.op 34 (.conv (.int .i64) (.t 33)),.c 35 111 [29,34],.m 28 35,.e 36 28 0,.e 37 28 1,.m 9 36,.m 10 37]
 (.q [.m 38 9,.m 39 2,.B 40 .add 39 1,.m 41 10,.m 6 38,.m 7 40,.m 8 41]
 .ret)))⟩
theorem r_s_l5Get {Te:TE} (c_s_GetSign:C_s_GetSign Te) (c_s_EucSign:C_s_EucSign Te) (c_s_ByteSign:C_s_ByteSign Te):C_s_l5Get (RF Te x_s_l5Get):=by
 intro cs b i hb hi
 refine run0 ?_
 cases g0:(cs==0)
 ·have n0:¬ cs=0:=by simpa using g0
  cases g5:(cs==5)
  ·have n5:¬ cs=5:=by simpa using g5
   have e:signIn cs b i=((byteSign cs (byteN b i.toNat:Nat)).1,i + 1,(byteSign cs (byteN b i.toNat:Nat)).2):=by rw [signIn,if_neg n0,if_neg n5]
   have hk:i.toNat < b.length:=by omega
   have eb:b[i.toNat].toNat=byteN b i.toNat:=by
    simp only [byteN,List.getD_eq_getElem?_getD]
    rw [List.getElem?_eq_getElem hk]
    rfl
   have hlt:=byteN_lt b i.toNat
   have w1:IntKind.i64.wrap ((byteN b i.toNat:Nat):Int)=(byteN b i.toNat:Nat):=IntWalk.i64_in _ (by omega)
   have w2:IntKind.i64.wrap (i + 1)=i + 1:=IntWalk.i64_in _ (by omega)
   simp -implicitDefEqProofs (maxSteps:=1000000) only [x_s_l5Get,go_sem,g0,g5,List.getElem?_eq_getElem hk,eb,w1]
   repeat refine ⟨sc,?_⟩
   try exact sf
   exact D2 (c_s_ByteSign _ _) w2 e
  ·have n5:cs=5:=eq_of_beq g5
   subst n5
   have e:signIn 5 b i=eucSign b i:=rfl
   simp -implicitDefEqProofs (maxSteps:=1000000) only [x_s_l5Get,go_sem]
   repeat refine ⟨sc,?_⟩
   try exact sf
   exact D1 (c_s_EucSign b i hb) e
 ·have n0:cs=0:=eq_of_beq g0
  subst n0
  have e:signIn 0 b i=getSign b i:=rfl
  simp -implicitDefEqProofs (maxSteps:=1000000) only [x_s_l5Get,go_sem]
  repeat refine ⟨sc,?_⟩
  try exact sf
  exact D1 (c_s_GetSign b i (by omega)) e
def x_i_Decode:FnX:=⟨35,[.tmp 4,.tmp 5],
  .q [.op 4 (.mv (.k (.one (.pv (.string ⟨#[]⟩))))),.F 5]
 (.seq (.q [.m 11 0,.c 12 79 [11],.N 13 12]
 (.c 13 (.q [.op 4 (.mv (.k (.one (.pv (.string ⟨#[]⟩))))),.F 5]
 .ret)))
 (.q [.op 14 (.bslice 1 []),.m 6 14]
 (.seq (.q [.i 7 0]
 (.block 0 (.loop [0,1,6,7] (.seq (.q [.m 15 7,.m 16 1,.n 17 16,.b 18 .lss 15 17]
 (.cond 18 .skip (.exit 0)))
 (.block 1 (.q [.m 20 0,.m 21 1,.m 22 7,.c 23 80 [20,21,22],.m 19 23,.e 24 19 0,.e 25 19 1,.e 26 19 2,.m 8 24,.m 9 25,.m 10 26]
 (.seq (.q [.m 27 10,.N 28 27]
 (.c 28 (.q [.op 4 (.mv (.k (.one (.pv (.string ⟨#[]⟩))))),.F 5]
 .ret)))
 (.q [.m 29 6,.m 30 8,.c 31 81 [29,30],.m 6 31]
 (.reg [.m 32 9,.m 7 32])))))))))
 (.norm [6] (.q [.m 33 6,.op 34 (.conv .b2s (.t 33)),.m 4 34,.T 5]
 .ret)))))⟩
theorem r_i_Decode {Te:TE} (c_i_isSet:C_i_isSet Te) (c_i_signIn:C_i_signIn Te) (c_i_PutSign:C_i_PutSign Te):C_i_Decode (RF Te x_i_Decode):=by
 intro cs b hb
 cases g:win cs 0 5
 ·have e:decode cs b=(⟨#[]⟩,false):=by rw [decode,g]; rfl
  refine X0 x_i_Decode.eq_1 ?_
  exact D2 (c_i_isSet _) g e
 ·have e:decode cs b=decGo cs b b.length 0 []:=by rw [decode,g]; rfl
  rw [e]
  generalize hD:decGo cs b b.length 0 []=D
  refine X0 x_i_Decode.eq_1 ?_
  refine C1 (c_i_isSet _) g ?_
  refine loop_of (σ:=Nat×Nat×List UInt8) (fun x=>⟨[(0,.one (.pv (.int .i64 cs))),(1,.one (.ro 1 (b.map uR))),(6,.one (.rf 37 0 [] 1 0 x.2.2.length)),(7,.one (.pv (.int .i64 x.2.1)))],[],[(0,[iT cs]),(1,[slT false 1 uR b]),(37,[slT true 1 uR x.2.2])]⟩) (fun x=>x.2.1≤b.length∧b.length≤x.1 + x.2.1∧x.2.2.length≤4 * x.2.1∧decGo cs b x.1 x.2.1 x.2.2=D) (fun x=>b.length - x.2.1) (b.length,0,[]) ?_ ⟨Nat.zero_le _,Nat.le_refl _,Nat.zero_le _,hD⟩ ?_
  ·simp -implicitDefEqProofs (maxSteps:=1000000) only [go_sem]
   try rfl
  ·rintro ⟨fu,i,out⟩ ⟨hi,hf,ho,hd⟩
   simp only at hi hf ho hd
   cases q:decide ((i:Int) < (b.length:Int))
   ·have hq:¬ (i:Int) < (b.length:Int):=by simpa using q
    rw [dec_end hq] at hd
    subst hd
    refine G1 q ?_
    refine ⟨areBytes_uR out,?_⟩
    rw [bytesOf_uD]
    try rfl
   ·have hq:(i:Int) < (b.length:Int):=by simpa using q
    obtain ⟨f,rfl⟩:∃ f,fu=f + 1:=⟨fu - 1,by omega⟩
    have hs:=c_i_signIn cs b i (by omega) ⟨by omega,hq⟩
    cases g2:(signIn cs b i).2.2
    ·rw [dec_bad hq g2] at hd
     subst hd
     refine G1 q ?_
     exact D1 (hs) g2
    ·rw [dec_step hq g2] at hd
     have hn:=signIn_next ⟨by omega,hq⟩ g2
     generalize signIn cs b i=r at hs g2 hd hn
     obtain ⟨n,nx,ok⟩:=r
     simp only at hs g2 hd hn
     subst g2
     obtain ⟨j,rfl⟩:∃ j:Nat,nx=j:=⟨nx.toNat,by omega⟩
     have hl:=putSign_len out n
     refine G1 q ?_
     refine C0 (hs) ?_
     refine C0 (c_i_PutSign out n (by omega)) ?_
     exact ⟨(f,j,putSign out n),rfl,⟨by simp only; omega,by simp only; omega,by simp only; omega,hd⟩,by simp only; omega⟩
def x_u_AppendRune:FnX:=⟨16,[.tmp 4],
  .q [.op 4 (.mv (.k (.one (.nils 1))))]
 (.seq (.q [.m 5 1,.op 6 (.conv (.int .u32) (.t 5)),.op 7 (.bin .leq (.t 6) (.k (.one (.pv (.int .u32 127)))))]
 (.c 7 (.q [.m 8 0,.m 9 1,.op 10 (.conv (.int .u8) (.t 9)),.op 11 (.bslice 1 [(.t 10)]),.op 12 (.app 1 1 (.t 8) (.t 11)),.m 4 12]
 .ret)))
 (.q [.m 13 0,.m 14 1,.op 15 (.call 191 [1,0] [(.t 13),(.t 14)]),.m 4 15]
 .ret))⟩
theorem r_u_AppendRune {Te:TE} (c_u_appendRuneNonASCII:C_u_appendRuneNonASCII Te):C_u_AppendRune (RF Te x_u_AppendRune):=by
 intro b m hb hm
 refine run0 ?_
 have w32:IntKind.u32.wrap (m:Int)=(m:Int):=by rw [IntKind.wrap_u32]; omega
 cases q:decide ((m:Int)≤127)
 ·have hq:¬ m≤127:=by simp only [decide_eq_false_iff_not] at q; omega
  simp -implicitDefEqProofs (maxSteps:=1000000) only [x_u_AppendRune,go_sem,w32,q]
  repeat refine ⟨sc,?_⟩
  try exact sf
  refine .of (c_u_appendRuneNonASCII b m hb ⟨by omega,hm⟩) ?_
  try simp -implicitDefEqProofs (maxSteps:=1000000) only [go_sem,List.length_append]
  repeat refine ⟨sc,?_⟩
  try exact sf
  rw [← List.length_append,take_map]
 ·have hq:m≤127:=by simp only [decide_eq_true_eq] at q; omega
  have ee:List.take (b.length + 1) (List.map uR b++[[uT (mkU (m:Int))]])=List.map uR (b++enc8 m):=by
   rw [List.take_of_length_le (by simp),mkU_nat]
   simp only [enc8,if_pos hq,List.map_append,List.map_cons,List.map_nil]
  simp -implicitDefEqProofs (maxSteps:=1000000) only [x_u_AppendRune,go_sem,w32,q,mkU_wrap,ee]
  repeat refine ⟨sc,?_⟩
  try exact sf
def x_i_PutSign:FnX:=⟨17,[.tmp 4],
  .q [.op 4 (.mv (.k (.one (.nils 1))))]
 (.q [.m 6 0,.op 7 (.bslice 1 [(.t 6)]),.c 8 37 [7],.m 5 8]
 (.seq (.q [.m 9 1,.c 10 135 [9],.N 11 10]
 (.c 11 (.q [.m 12 5,.m 4 12]
 .ret)))
 (.q [.m 13 5,.m 14 1,.op 15 (.conv (.int .i32) (.t 14)),.op 16 (.call 136 [1,0] [(.t 13),(.t 15)]),.m 4 16]
 .ret)))⟩
theorem r_i_PutSign {Te:TE} (c_i_joined:C_i_joined Te) (c_i_SignOk:C_i_SignOk Te) (c_u_AppendRune:C_u_AppendRune Te):C_i_PutSign (RF Te x_i_PutSign):=by
 intro b n hb
 refine X0 x_i_PutSign.eq_1 ?_
 refine .of (c_i_joined [b] (by rw [flat1]; omega) (by show 1≤2 ^ 31; decide)) ?_
 try simp -implicitDefEqProofs (maxSteps:=1000000) only [go_sem,flat1]
 repeat refine ⟨sc,?_⟩
 try exact sf
 refine C0 (c_i_SignOk _) ?_
 cases hn:signOk n
 ·try simp -implicitDefEqProofs (maxSteps:=1000000) only [go_sem,putSign,hn,if_false,take_map]
  repeat refine ⟨sc,?_⟩
  try exact sf
  try rfl
 ·obtain ⟨h0,h1,h2⟩:=signOk_in hn
  obtain ⟨m,rfl⟩:∃ m:Nat,n=m:=⟨n.toNat,by omega⟩
  have ep:putSign b (m:Int)=b++enc8 m:=by simp only [putSign,hn,if_true,Int.toNat_natCast]
  have w:IntKind.i32.wrap (m:Int)=(m:Int):=by rw [IntWalk.i32_in _ (by omega)]
  try simp -implicitDefEqProofs (maxSteps:=1000000) only [go_sem,w,take_map]
  repeat refine ⟨sc,?_⟩
  try exact sf
  refine .of (c_u_AppendRune b m hb ⟨by omega,by omega⟩) ?_
  try simp -implicitDefEqProofs (maxSteps:=1000000) only [go_sem,List.length_append]
  repeat refine ⟨sc,?_⟩
  try exact sf
  rw [ep]
  try rw [← List.length_append,take_map]
  try rfl
def x_i_ByteSign:FnX:=⟨35,[.tmp 4,.tmp 5],
  .q [.i 4 0,.F 5]
 (.seq (.q [.m 7 0,.op 8 (.call 77 [0,0,0] [(.t 7),(.i 1),(.i 4)]),.N 9 8,.m 10 9,.z 10 (.m 11 1),.z 10 (.op 12 (.call 77 [0,0,0] [(.t 11),(.i 0),(.i 255)])),.z 10 (.N 13 12),.r 14 10 13]
 (.c 14 (.q [.i 4 0,.F 5]
 .ret)))
 (.seq (.q [.m 15 1,.B 16 .leq 15 127]
 (.c 16 (.q [.m 17 1,.m 4 17,.T 5]
 .ret)))
 (.q [.m 18 1,.m 6 18]
 (.seq (.q [.m 19 0]
 (.block 0 (.q [.B 21 .eql 19 2,.m 20 21]
 (.cond 20 (.reg [.m 22 1,.c 23 188 [22],.m 6 23]) (.q [.B 25 .eql 19 3,.m 24 25]
 (.cond 24 (.reg [.m 26 1,.c 27 189 [26],.m 6 27]) (.q [.B 29 .eql 19 4,.m 28 29]
 (.c 28 (.reg [.m 30 1,.c 31 190 [30],.m 6 31])))))))))
 (.q [.m 32 6,.m 33 6,.B 34 .neq 33 0,.m 4 32,.m 5 34]
 .ret)))))⟩
theorem r_i_ByteSign {Te:TE} (c_i_within:C_i_within Te) (c_i_nineSign:C_i_nineSign Te) (c_i_koiSign:C_i_koiSign Te) (c_i_winSign:C_i_winSign Te):C_i_ByteSign (RF Te x_i_ByteSign):=by
 intro cs b
 refine X0 x_i_ByteSign.eq_1 ?_
 refine C0 (c_i_within _ _ _) ?_
 cases g1:win cs 1 4
 ·try simp -implicitDefEqProofs (maxSteps:=1000000) only [go_sem,byteSign,g1]
  repeat refine ⟨sc,?_⟩
  try exact sf
 ·refine G0 ?_
  refine C0 (c_i_within _ _ _) ?_
  cases g2:win b 0 255
  ·try simp -implicitDefEqProofs (maxSteps:=1000000) only [go_sem,byteSign,g1,g2]
   repeat refine ⟨sc,?_⟩
   try exact sf
  ·cases g3:decide (b≤127)
   ·have hb:128≤b∧b≤255:=by simp only [win,Bool.and_eq_true,decide_eq_true_eq] at g2; simp only [decide_eq_false_iff_not] at g3; omega
    refine G1 g3 ?_
    cases g4:(cs==2)
    ·cases g5:(cs==3)
     ·cases g6:(cs==4)
      ·try simp -implicitDefEqProofs (maxSteps:=1000000) only [go_sem,g4,g5,g6,byteSign,signOf,g1,g2,g3]
       repeat refine ⟨sc,?_⟩
       try exact sf
      ·refine G3 g4 g5 g6 ?_
       refine .of (c_i_winSign _ hb) ?_
       try simp -implicitDefEqProofs (maxSteps:=1000000) only [go_sem,byteSign,signOf,g1,g2,g3,g4,g5,g6]
       repeat refine ⟨sc,?_⟩
       try exact sf
     ·refine G2 g4 g5 ?_
      refine .of (c_i_koiSign _ hb) ?_
      try simp -implicitDefEqProofs (maxSteps:=1000000) only [go_sem,byteSign,signOf,g1,g2,g3,g4,g5]
      repeat refine ⟨sc,?_⟩
      try exact sf
    ·refine G1 g4 ?_
     refine .of (c_i_nineSign _) ?_
     try simp -implicitDefEqProofs (maxSteps:=1000000) only [go_sem,byteSign,signOf,g1,g2,g3,g4]
     repeat refine ⟨sc,?_⟩
     try exact sf
   ·try simp -implicitDefEqProofs (maxSteps:=1000000) only [go_sem,g3,byteSign,g1,g2]
    repeat refine ⟨sc,?_⟩
    try exact sf
def x_s_ByteSign:FnX:=⟨34,[.tmp 4,.tmp 5],
  .q [.i 4 0,.F 5]
 (.seq (.q [.m 7 0,.op 8 (.call 64 [0,0,0] [(.t 7),(.i 1),(.i 4)]),.N 9 8,.m 10 9,.z 10 (.m 11 1),.z 10 (.op 12 (.call 64 [0,0,0] [(.t 11),(.i 0),(.i 255)])),.z 10 (.N 13 12),.r 14 10 13]
 (.c 14 (.q [.i 4 0,.F 5]
 .ret)))
 (.q [.m 15 1,.m 6 15]
 (.seq (.q [.m 16 1,.B 17 .geq 16 128]
 (.c 17 (.q [.m 18 0]
 (.block 0 (.q [.B 20 .eql 18 2,.m 19 20]
 (.cond 19 (.reg [.m 21 1,.c 22 173 [21],.m 6 22]) (.q [.B 24 .eql 18 3,.m 23 24]
 (.cond 23 (.reg [.m 25 1,.c 26 174 [25],.m 6 26]) (.q [.B 28 .eql 18 4,.m 27 28]
 (.c 27 (.reg [.m 29 1,.c 30 175 [29],.m 6 30])))))))))))
 (.seq (.q [.m 31 6,.B 32 .lss 31 0]
 (.c 32 (.q [.i 4 0,.F 5]
 .ret)))
 (.q [.m 33 6,.m 4 33,.T 5]
 .ret)))))⟩
theorem r_s_ByteSign {Te:TE} (c_s_l1In:C_s_l1In Te) (c_s_l3Nine:C_s_l3Nine Te) (c_s_l3Koi:C_s_l3Koi Te) (c_s_l3Win:C_s_l3Win Te):C_s_ByteSign (RF Te x_s_ByteSign):=by
 intro cs b
 refine X0 x_s_ByteSign.eq_1 ?_
 refine C0 (c_s_l1In _ _ _) ?_
 cases g1:win cs 1 4
 ·try simp -implicitDefEqProofs (maxSteps:=1000000) only [go_sem,byteSign,g1]
  repeat refine ⟨sc,?_⟩
  try exact sf
 ·refine G0 ?_
  refine C0 (c_s_l1In _ _ _) ?_
  cases g2:win b 0 255
  ·try simp -implicitDefEqProofs (maxSteps:=1000000) only [go_sem,byteSign,g1,g2]
   repeat refine ⟨sc,?_⟩
   try exact sf
  ·have h2:0≤b∧b≤255:=by simpa only [win,Bool.and_eq_true,decide_eq_true_eq] using g2
   cases g3:decide (b≥128)
   ·have g3':decide (b≤127)=true:=by simp only [decide_eq_false_iff_not] at g3; exact decide_eq_true (by omega)
    have g7:decide (b < 0)=false:=decide_eq_false (by omega)
    try simp -implicitDefEqProofs (maxSteps:=1000000) only [go_sem,g3,g7,byteSign,g1,g2,g3']
    repeat refine ⟨sc,?_⟩
    try exact sf
   ·have hb:128≤b∧b≤255:=by simp only [decide_eq_true_eq] at g3; omega
    have g3':decide (b≤127)=false:=decide_eq_false (by omega)
    refine G1 g3 ?_
    cases g4:(cs==2)
    ·cases g5:(cs==3)
     ·cases g6:(cs==4)
      ·have g7:decide (b < 0)=false:=decide_eq_false (by omega)
       have g8:(b != 0)=true:=by simp; omega
       try simp -implicitDefEqProofs (maxSteps:=1000000) only [go_sem,g4,g5,g6,g7,g8,byteSign,signOf,g1,g2,g3']
       repeat refine ⟨sc,?_⟩
       try exact sf
      ·refine G3 g4 g5 g6 ?_
       refine C0 (c_s_l3Win _ hb) ?_
       obtain ⟨w1,w2⟩:=win_rel hb
       cases g9:(winB winL b==0)
       ·have g7:decide (winB winL b < 0)=false:=decide_eq_false (by omega)
        have g8:(winB winL b != 0)=true:=by simpa using g9
        simp only [g9,cond_false] at w1
        try simp -implicitDefEqProofs (maxSteps:=1000000) only [go_sem,w1,g7,g8,byteSign,signOf,g1,g2,g3',g4,g5,g6]
        repeat refine ⟨sc,?_⟩
        try exact sf
       ·have g8:winB winL b=0:=by simpa using g9
        simp only [g9,cond_true] at w1
        try simp -implicitDefEqProofs (maxSteps:=1000000) only [go_sem,w1,g8,byteSign,signOf,g1,g2,g3',g4,g5,g6]
        repeat refine ⟨sc,?_⟩
        try exact sf
        try rfl
     ·refine G2 g4 g5 ?_
      refine C0 (c_s_l3Koi _ hb) ?_
      obtain ⟨w1,w2⟩:=koi_rel hb
      cases g9:(koi 0 b==0)
      ·have g7:decide (koi 0 b < 0)=false:=decide_eq_false (by omega)
       have g8:(koi 0 b != 0)=true:=by simpa using g9
       simp only [g9,cond_false] at w1
       try simp -implicitDefEqProofs (maxSteps:=1000000) only [go_sem,w1,g7,g8,byteSign,signOf,g1,g2,g3',g4,g5]
       repeat refine ⟨sc,?_⟩
       try exact sf
      ·have g8:koi 0 b=0:=by simpa using g9
       simp only [g9,cond_true] at w1
       try simp -implicitDefEqProofs (maxSteps:=1000000) only [go_sem,w1,g8,byteSign,signOf,g1,g2,g3',g4,g5]
       repeat refine ⟨sc,?_⟩
       try exact sf
       try rfl
    ·refine G1 g4 ?_
     refine C0 (c_s_l3Nine _) ?_
     have w1:=nine_rel hb
     have g7:decide (nine b < 0)=false:=decide_eq_false (by omega)
     have g8:(nine b != 0)=true:=by simp; omega
     try simp -implicitDefEqProofs (maxSteps:=1000000) only [go_sem,g7,g8,byteSign,signOf,g1,g2,g3',g4]
     repeat refine ⟨sc,?_⟩
     try exact sf
def x_s_Sum:FnX:=⟨32,[.tmp 2],
  .q [.i 2 0]
 (.q [.i 3 65535]
 (.seq (.q [.i 4 0]
 (.block 0 (.loop [0,3,4] (.seq (.q [.m 6 4,.m 7 0,.n 8 7,.b 9 .lss 6 8]
 (.cond 9 .skip (.exit 0)))
 (.seq (.block 1 (.q [.m 12 3,.m 13 0,.m 14 4,.x 15 1 13 14,.l 16 15,.op 17 (.conv (.int .i64) (.t 16)),.op 18 (.bin .shl (.t 17) (.k (.one (.pv (.int .u64 8))))),.b 19 .xor 12 18,.m 3 19]
 (.q [.i 5 0]
 (.block 2 (.loop [0,3,4,5] (.seq (.q [.m 20 5,.B 21 .lss 20 8]
 (.cond 21 .skip (.exit 2)))
 (.seq (.block 3 (.q [.m 24 3,.op 25 (.bin .shl (.t 24) (.k (.one (.pv (.int .u64 1))))),.m 3 25]
 (.q [.m 26 3,.B 27 .gtr 26 65535]
 (.c 27 (.reg [.m 28 3,.B 29 .xor 28 69665,.m 3 29])))))
 (.reg [.m 22 5,.B 23 .add 22 1,.m 5 23]))))))))
 (.norm [0,3,4] (.reg [.m 10 4,.B 11 .add 10 1,.m 4 11])))))))
 (.norm [3] (.q [.m 30 3,.B 31 .and 30 65535,.m 2 31]
 .ret))))⟩
theorem r_s_Sum {Te:TE}:C_s_Sum (RF Te x_s_Sum):=by
 intro l h
 refine run0 ?_
 simp -implicitDefEqProofs (maxSteps:=1000000) only [x_s_Sum,go_sem]
 refine loop_of (σ:=Nat×Nat) (fun x=>⟨[(0,.one (.ro 1 (l.map uR))),(3,.one (.pv (.int .i64 x.2))),(4,.one (.pv (.int .i64 x.1)))],[],[(0,[slT false 1 uR l])]⟩) (fun x=>x.1≤l.length∧x.2 < 65536∧x.2=(l.take x.1).foldl sumByte 65535) (fun x=>l.length - x.1) (0,65535) ?_ ⟨Nat.zero_le _,by decide,rfl⟩ ?_
 ·simp -implicitDefEqProofs (maxSteps:=1000000) only [go_sem]; rfl
 ·rintro ⟨i,s⟩ ⟨hi,hs,he⟩
  simp only at hi hs he
  simp -implicitDefEqProofs (maxSteps:=1000000) only [go_sem]
  refine ⟨fun h=>?_,fun h=>?_⟩
  ·have hi':i < l.length:=by simp only [decide_eq_true_eq] at h; omega
   have hb:=l[i].toNat_lt
   have e1:IntKind.i64.wrap (l[i].toNat:Int)=(l[i].toNat:Int):=IntWalk.i64_in _ (by omega)
   have e2:IntKind.i64.wrap ((l[i].toNat:Int) * 2 ^ 8)=((256 * l[i].toNat:Nat):Int):=by rw [IntWalk.i64_in _ (by omega)]; omega
   simp -implicitDefEqProofs (maxSteps:=1000000) only [go_sem,List.getElem?_eq_getElem hi',min8,e1,e2,xor_nat s (256 * l[i].toNat) (by omega) (by omega)]
   have hx:=sumX_lt l[i] hs
   have e9:sumByte s l[i]=sumBits 8 (s ^^^ (256 * l[i].toNat)):=rfl
   generalize s ^^^ (256 * l[i].toNat)=S at *
   refine loop_of (σ:=Nat×Nat) (fun x=>⟨[(0,.one (.ro 1 (l.map uR))),(3,.one (.pv (.int .i64 x.2))),(4,.one (.pv (.int .i64 i))),(5,.one (.pv (.int .i64 x.1)))],[],[(0,[slT false 1 uR l])]⟩) (fun x=>x.1≤8∧x.2=sumBits x.1 S) (fun x=>8 - x.1) (0,S) ?_ ⟨Nat.zero_le _,rfl⟩ ?_
   ·simp -implicitDefEqProofs (maxSteps:=1000000) only [go_sem]; rfl
   ·rintro ⟨j,v⟩ ⟨hj,hv⟩
    simp only at hj hv
    have hz:v < 65536:=by rw [hv]; exact sumBits_lt j hx
    have e3:IntKind.i64.wrap ((v:Int) * 2 ^ 1)=((2 * v:Nat):Int):=by rw [IntWalk.i64_in _ (by omega)]; omega
    have e4:=xor_nat (2 * v) 69665 (by omega) (by decide)
    have e5:((69665:Nat):Int)=69665:=rfl
    rw [e5] at e4
    have e6:sumBits (j + 1) S=sumBit v:=by rw [hv]; rfl
    simp -implicitDefEqProofs (maxSteps:=1000000) only [go_sem]
    refine ⟨fun h=>?_,fun h=>?_⟩
    ·have hj':j < 8:=by simp only [decide_eq_true_eq] at h; omega
     simp -implicitDefEqProofs (maxSteps:=1000000) only [go_sem,show Nat.min 1 64=1 from rfl,e3]
     refine ⟨fun h6=>?_,fun h6=>?_⟩
     ·simp -implicitDefEqProofs (maxSteps:=1000000) only [go_sem,e4]
      refine ⟨(j + 1,2 * v ^^^ 69665),by rw [IntWalk.i64_in _ (by omega)]; rfl,⟨hj',?_⟩,by simp only; omega⟩
      rw [e6,sumBit,if_pos (by simp only [decide_eq_true_eq] at h6; omega)]
     ·refine ⟨(j + 1,2 * v),by rw [IntWalk.i64_in _ (by omega)]; rfl,⟨hj',?_⟩,by simp only; omega⟩
      rw [e6,sumBit,if_neg (by simp only [decide_eq_false_iff_not] at h6; omega)]
    ·have hj':j=8:=by simp only [decide_eq_false_iff_not] at h; omega
     subst hj'
     rw [← e9] at hv
     refine ⟨(i + 1,v),by rw [IntWalk.i64_in _ (by omega)]; rfl,⟨hi',hz,?_⟩,by simp only; omega⟩
     simp only
     rw [List.take_succ_eq_append_getElem hi',List.foldl_append,← he,hv,List.foldl_cons,List.foldl_nil]
  ·have hle:l.length≤i:=by simp only [decide_eq_false_iff_not] at h; omega
   rw [List.take_of_length_le hle] at he
   have e7:=and_nat s 65535 (by omega) (by decide)
   have e8:((65535:Nat):Int)=65535:=rfl
   rw [e8] at e7
   simp -implicitDefEqProofs (maxSteps:=1000000) only [go_sem,e7,sum,← he]
def x_i_PutW:FnX:=⟨16,[.tmp 4],
  .q [.op 4 (.mv (.k (.one (.nils 1))))]
 (.q [.m 5 0,.m 6 1,.op 7 (.bin .shr (.t 6) (.k (.one (.pv (.int .u64 8))))),.B 8 .and 7 255,.op 9 (.conv (.int .u8) (.t 8)),.m 10 1,.B 11 .and 10 255,.op 12 (.conv (.int .u8) (.t 11)),.op 13 (.bslice 1 [(.t 9),(.t 12)]),.op 14 (.bslice 1 [(.t 5),(.t 13)]),.c 15 37 [14],.m 4 15]
 .ret)⟩
theorem r_i_PutW {Te:TE} (c_i_joined:C_i_joined Te):C_i_PutW (RF Te x_i_PutW):=by
 intro b n h
 refine run0 ?_
 have e1:mkU (n.fdiv (2 ^ 8))=hiB n:=rfl
 simp -implicitDefEqProofs (maxSteps:=1000000) only [x_i_PutW,go_sem,min8,mkU_wrap,and255,e1]
 refine .of (c_i_joined [b,[hiB n,mkU n]] (by simp; omega) (by simp)) ?_
 have e2:[b,[hiB n,mkU n]].flatten=putW b n:=by simp [putW]
 simp -implicitDefEqProofs (maxSteps:=1000000) only [go_sem,e2]
def x_s_PutW:FnX:=⟨17,[.tmp 4],
  .q [.op 4 (.mv (.k (.one (.nils 1))))]
 (.q [.op 6 (.bslice 1 []),.m 7 0,.op 8 (.app 1 1 (.t 6) (.t 7)),.m 5 8]
 (.q [.m 9 5,.m 10 1,.op 11 (.bin .shr (.t 10) (.k (.one (.pv (.int .u64 8))))),.op 12 (.conv (.int .u8) (.t 11)),.m 13 1,.op 14 (.conv (.int .u8) (.t 13)),.op 15 (.bslice 1 [(.t 12),(.t 14)]),.op 16 (.app 1 1 (.t 9) (.t 15)),.m 4 16]
 .ret))⟩
theorem r_s_PutW {Te:TE}:C_s_PutW (RF Te x_s_PutW):=by
 intro b n h
 refine run0 ?_
 have e1:mkU (n.fdiv (2 ^ 8))=hiB n:=rfl
 have e2:List.take (b.length + 2) (List.map uR b++[[uT (hiB n)],[uT (mkU n)]])=List.map uR (putW b n):=by rw [List.take_of_length_le (by simp)]; simp [putW]
 simp -implicitDefEqProofs (maxSteps:=1000000) only [x_s_PutW,go_sem,min8,mkU_wrap,e1,e2]
 exact ⟨⟨decide_eq_true (by omega),decide_eq_true (by omega)⟩,decide_eq_true (by omega),decide_eq_true (by omega)⟩
def x_s_PutText:FnX:=⟨17,[.tmp 4],
  .q [.op 4 (.mv (.k (.one (.nils 1))))]
 (.seq (.q [.m 5 1,.op 6 (.slen (.t 5)),.B 7 .gtr 6 60]
 (.c 7 (.q [.op 8 (.bslice 1 []),.m 9 0,.op 10 (.app 1 1 (.t 8) (.t 9)),.m 4 10]
 .ret)))
 (.q [.m 11 0,.m 12 1,.op 13 (.slen (.t 12)),.c 14 121 [11,13],.m 15 1,.op 16 (.apps 1 1 (.t 14) (.t 15)),.m 4 16]
 .ret))⟩
theorem r_s_PutText {Te:TE} (c_s_PutW:C_s_PutW Te):C_s_PutText (RF Te x_s_PutText):=by
 intro b t h ht
 refine run0 ?_
 simp -implicitDefEqProofs (maxSteps:=1000000) only [x_s_PutText,go_sem]
 refine ⟨fun q=>?_,fun q=>?_⟩
 ·have q':(t.size:Int) > 60:=by simpa using q
  simp only [putText,if_pos q']
  exact ⟨⟨decide_eq_true (by omega),decide_eq_true (by omega)⟩,trivial⟩
 ·have q':¬ ((t.size:Int) > 60):=by simpa using q
  have q3:t.data.toList.length=t.size:=by rw [Array.length_toList]; rfl
  have el:=putW_len b t.size
  have e1:List.take (b.length + 2) (List.map uR (putW b t.size))=List.map uR (putW b t.size):=List.take_of_length_le (by rw [List.length_map,el]; exact Nat.le_refl _)
  have e2:List.take (b.length + 2 + t.data.toList.length) (List.map uR (putW b t.size)++List.map uR t.data.toList)=List.map uR (putW b t.size++t.data.toList):=by
   rw [List.take_of_length_le (by rw [List.length_append,List.length_map,List.length_map,el]; exact Nat.le_refl _),List.map_append]
  simp only [putText,if_neg q']
  refine .of (c_s_PutW b _ (by omega)) ?_
  try simp -implicitDefEqProofs (maxSteps:=1000000) only [go_sem,ofBytes_eq,el,e1,e2]
  repeat refine ⟨sc,?_⟩
  try exact sf
  try exact decide_eq_true (Nat.le_refl _)
def x_s_CellOf:FnX:=⟨25,[.cell 4 (some 2),.tmp 5],
  .q [.op 4 (.alloc [.i 0,.nils 1]),.F 5]
 (.q [.m 9 0,.m 10 1,.c 11 157 [9,10],.m 8 11,.e 12 8 0,.e 13 8 1,.m 6 12,.m 7 13]
 (.seq (.q [.m 14 7,.N 15 14,.m 16 15,.z 16 (.m 17 6),.z 16 (.n 18 17),.z 16 (.B 19 .gtr 18 20),.r 20 16 19]
 (.c 20 (.q [.op 21 (.build [.i 0,.nils 1] []),.s 100001 2 4 21,.F 5]
 .ret)))
 (.q [.m 22 0,.m 23 6,.op 24 (.build [.i 0,.nils 1] [(0,1,(.t 22)),(1,1,(.t 23))]),.s 100002 2 4 24,.T 5]
 .ret)))⟩
theorem r_s_CellOf {Te:TE} (c_s_Encode:C_s_Encode Te):C_s_CellOf (RF Te x_s_CellOf):=by
 intro tag s hs
 have hl:=encode_len tag s
 refine X0 x_s_CellOf.eq_1 ?_
 refine C0 (c_s_Encode tag s hs) ?_
 cases g:(encode tag s).2
 ·have e:=cellOf_no g
  exact F2 g e
 cases g2:decide (((encode tag s).1.length:Int)≤20)
 ·have e:=cellOf_big g2
  have g3:decide (((encode tag s).1.length:Int) > 20)=true:=by simp only [decide_eq_false_iff_not] at g2; exact decide_eq_true (by omega)
  exact F3 g g3 e
 ·have e:=cellOf_yes g g2
  have g3:decide (((encode tag s).1.length:Int) > 20)=false:=by simp only [decide_eq_true_eq] at g2; exact decide_eq_false (by omega)
  exact F3 g g3 e
def x_i_Turn:FnX:=⟨29,[.cell 4 (some 2),.tmp 5],
  .q [.v 2 0,.op 4 (.alloc [.i 0,.nils 1]),.F 5]
 (.q [.L 10 2 2,.c 11 220 [10],.m 9 11,.e 12 9 0,.e 13 9 1,.m 6 12,.m 7 13]
 (.seq (.q [.m 14 7,.N 15 14]
 (.c 15 (.q [.L 16 2 2,.c 17 219 [16],.s 100001 2 4 17,.F 5]
 .ret)))
 (.q [.m 19 1,.m 20 6,.c 21 158 [19,20],.m 18 21,.e 22 18 0,.e 23 18 1,.op 8 (.alloc [.i 0,.nils 1]),.s 100002 2 8 22,.m 7 23]
 (.seq (.q [.m 24 7,.N 25 24]
 (.c 25 (.q [.L 26 2 2,.c 27 219 [26],.s 100003 2 4 27,.F 5]
 .ret)))
 (.q [.L 28 2 8,.s 100004 2 4 28,.T 5]
 .ret)))))⟩
theorem r_i_Turn {Te:TE} (c_i_CellText:C_i_CellText Te) (c_i_copyCell:C_i_copyCell Te) (c_i_CellOf:C_i_CellOf Te):C_i_Turn (RF Te x_i_Turn):=by
 intro c tag hc hs
 refine X0 x_i_Turn.eq_1 ?_
 refine C0 (c_i_CellText c) ?_
 cases g:c.text.2
 ·have e:=turn_no (tag:=tag) g
  refine G1 g ?_
  exact D1 (c_i_copyCell c hc) e
 refine G1 g ?_
 refine C0 (c_i_CellOf tag c.text.1 hs) ?_
 cases g2:(cellOf tag c.text.1).2
 ·have e:=turn_big (c:=c) g2
  refine G1 g2 ?_
  exact D1 (c_i_copyCell c hc) e
 ·have e:=turn_yes g g2
  exact F2 g2 e
def x_s_Turn:FnX:=⟨30,[.cell 4 (some 2),.tmp 5],
  .q [.v 2 0,.op 4 (.alloc [.i 0,.nils 1]),.F 5]
 (.q [.L 11 2 2,.c 12 216 [11],.m 10 12,.e 13 10 0,.e 14 10 1,.m 6 13,.m 7 14]
 (.q [.m 16 1,.m 17 6,.c 18 92 [16,17],.m 15 18,.e 19 15 0,.e 20 15 1,.op 8 (.alloc [.i 0,.nils 1]),.s 100001 2 8 19,.m 9 20]
 (.seq (.q [.m 21 7,.N 22 21,.m 23 22,.z 23 (.m 24 9),.z 23 (.N 25 24),.r 26 23 25]
 (.c 26 (.q [.L 27 2 2,.c 28 214 [27],.s 100002 2 4 28,.F 5]
 .ret)))
 (.q [.L 29 2 8,.s 100003 2 4 29,.T 5]
 .ret))))⟩
theorem r_s_Turn {Te:TE} (c_s_CellText:C_s_CellText Te) (c_s_CellOf:C_s_CellOf Te) (c_s_l8Copy:C_s_l8Copy Te):C_s_Turn (RF Te x_s_Turn):=by
 intro c tag hc hs
 refine X0 x_s_Turn.eq_1 ?_
 refine C0 (c_s_CellText c) ?_
 refine C0 (c_s_CellOf tag c.text.1 hs) ?_
 cases g:c.text.2
 ·have e:=turn_no (tag:=tag) g
  refine G1 g ?_
  exact D1 (c_s_l8Copy c hc) e
 cases g2:(cellOf tag c.text.1).2
 ·have e:=turn_big (c:=c) g2
  refine G2 g g2 ?_
  exact D1 (c_s_l8Copy c hc) e
 ·have e:=turn_yes g g2
  exact F3 g g2 e
def x_s_NameOk:FnX:=⟨27,[.tmp 2],
  .q [.F 2]
 (.seq (.q [.i 3 0]
 (.block 0 (.loop [0,3] (.seq (.q [.m 4 3,.m 5 0,.op 6 (.slen (.t 5)),.b 7 .lss 4 6]
 (.cond 7 .skip (.exit 0)))
 (.seq (.block 1 (.q [.m 10 0,.m 11 3,.op 12 (.sidx (.t 10) (.t 11)),.op 13 (.conv (.int .i64) (.t 12)),.op 14 (.call 64 [0,0,0] [(.t 13),(.i 97),(.i 122)]),.N 15 14,.m 16 15,.y 16 (.m 17 0),.y 16 (.m 18 3),.y 16 (.op 19 (.sidx (.t 17) (.t 18))),.y 16 (.op 20 (.conv (.int .i64) (.t 19))),.y 16 (.op 21 (.call 64 [0,0,0] [(.t 20),(.i 48),(.i 57)])),.y 16 (.N 22 21),.a 23 16 22]
 (.c 23 (.q [.F 2]
 .ret))))
 (.reg [.m 8 3,.B 9 .add 8 1,.m 3 9]))))))
 (.norm [0] (.q [.m 24 0,.op 25 (.slen (.t 24)),.op 26 (.call 64 [0,0,0] [(.t 25),(.i 1),(.i 6)]),.m 2 26]
 .ret)))⟩
theorem r_s_NameOk {Te:TE} (c_s_l1In:C_s_l1In Te):C_s_NameOk (RF Te x_s_NameOk):=by
 intro s h
 refine run0 ?_
 have hsz:s.data.toList.length=s.size:=by rw [Array.length_toList]; rfl
 simp -implicitDefEqProofs (maxSteps:=1000000) only [x_s_NameOk,go_sem,nameOk]
 repeat refine ⟨sc,?_⟩
 try exact sf
 refine loop_of (σ:=Nat) (fun i=>⟨[(0,.one (.pv (.string s))),(3,.one (.pv (.int .i64 i)))],[],[(0,[sT s])]⟩) (fun i=>i≤s.size∧(s.data.toList.take i).all nameCh=true) (fun i=>s.size - i) 0 ?_ ⟨Nat.zero_le _,rfl⟩ ?_
 ·simp -implicitDefEqProofs (maxSteps:=1000000) only [go_sem]; rfl
 ·rintro i ⟨hi,hp⟩
  cases q:decide ((i:Int) < (s.size:Int))
  ·have e:=all_end (p:=nameCh) (show s.data.toList.length≤i by simp only [decide_eq_false_iff_not] at q; omega) hp
   refine G1 q ?_
   exact D1 (c_s_l1In _ _ _) e
  ·have hi':i < s.size:=by simp only [decide_eq_true_eq] at q; omega
   have hi2:i < s.data.toList.length:=by omega
   have q1:decide (i < s.size)=true:=decide_eq_true hi'
   have eg:s.data.toList.getD i 0=s.data.toList[i]:=by rw [List.getD_eq_getElem?_getD,List.getElem?_eq_getElem hi2]; rfl
   have hb:=s.data.toList[i].toNat_lt
   have w1:IntKind.i64.wrap ((s.data.toList[i].toNat:Nat):Int)=(s.data.toList[i].toNat:Nat):=IntWalk.i64_in _ (by omega)
   refine G4 q q1 eg w1 ?_
   refine C0 (c_s_l1In _ _ _) ?_
   cases g1:win ((s.data.toList[i].toNat:Nat):Int) 97 122
   ·refine G3 q1 eg w1 ?_
    refine C0 (c_s_l1In _ _ _) ?_
    cases g2:win ((s.data.toList[i].toNat:Nat):Int) 48 57
    ·have e:=all_not (p:=nameCh) hi2 (by simp only [nameCh,g1,g2,Bool.or_false])
     exact F1 e
    ·refine G0 ?_
     refine ⟨i + 1,by rw [IntWalk.i64_in _ (by omega)]; rfl,⟨hi',all_step (p:=nameCh) hi2 hp (by simp only [nameCh,g1,g2,Bool.or_true])⟩,by omega⟩
   ·refine G0 ?_
    refine ⟨i + 1,by rw [IntWalk.i64_in _ (by omega)]; rfl,⟨hi',all_step (p:=nameCh) hi2 hp (by simp only [nameCh,g1,Bool.true_or])⟩,by omega⟩
end Go.X

