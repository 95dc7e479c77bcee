/- Texts: CVf_3 CVu_3 CR CVl_2 CVi_2 CVp_2 CVy CS CVb CEb_9 CVd_2. -/
import Derived.Test.YtekagnknkodidaaGreatDoorC04
set_option linter.unusedVariables false
set_option linter.unusedSimpArgs false
namespace Go.X
set_option maxRecDepth 100000
set_option maxHeartbeats 8000000
def x_s_TabOk:FnX:=⟨82,[.tmp 2],
  .q [.v 1 0,.F 2]
 (.seq (.q [.i 3 0]
 (.block 0 (.loop [1,3] (.seq (.q [.m 5 3,.f 6 1 0,.l 7 6,.n 8 7,.b 9 .lss 5 8]
 (.cond 9 .skip (.exit 0)))
 (.seq (.block 1 (.seq (.draw [.f 12 1 0,.l 13 12,.m 14 3,.x 15 7 13 14,.L 16 7 15,.c 17 174 [16],.N 18 17,.m 19 18,.z 19 (.m 20 3),.z 19 (.B 21 .gtr 20 0),.z 19 (.m 22 21),.y 22 (.f 23 1 0),.y 22 (.l 24 23),.y 22 (.m 25 3),.y 22 (.B 26 .sub 25 1),.y 22 (.x 27 7 24 26),.y 22 (.f 28 27 0),.y 22 (.l 29 28),.y 22 (.f 30 1 0),.y 22 (.l 31 30),.y 22 (.m 32 3),.y 22 (.x 33 7 31 32),.y 22 (.f 34 33 0),.y 22 (.l 35 34),.y 22 (.b 36 .geq 29 35),.z 19 (.a 37 22 36),.r 38 19 37] [[],[0],[],[1,2],[3],[4],[5],[6,5],[7],[8,7],[9,7,7],[10],[11,10],[10],[13,10],[12,14,10],[15,10],[16,10],[10],[18,10],[10],[19,20,10],[21,10],[22,10],[17,23,10],[10,24,7],[7,25]])
 (.c 38 (.q [.F 2]
 .ret))))
 (.reg [.m 10 3,.B 11 .add 10 1,.m 3 11]))))))
 (.norm [1] (.seq (.q [.i 4 0]
 (.block 2 (.loop [1,4] (.seq (.q [.m 39 4,.f 40 1 2,.l 41 40,.n 42 41,.b 43 .lss 39 42]
 (.cond 43 .skip (.exit 2)))
 (.seq (.block 3 (.seq (.draw [.f 46 1 2,.l 47 46,.m 48 4,.x 49 3 47 48,.L 50 3 49,.c 51 175 [50],.N 52 51,.m 53 52,.z 53 (.m 54 4),.z 53 (.B 55 .gtr 54 0),.z 53 (.m 56 55),.y 56 (.f 57 1 2),.y 56 (.l 58 57),.y 56 (.m 59 4),.y 56 (.B 60 .sub 59 1),.y 56 (.x 61 3 58 60),.y 56 (.f 62 61 0),.y 56 (.l 63 62),.y 56 (.f 64 1 2),.y 56 (.l 65 64),.y 56 (.m 66 4),.y 56 (.x 67 3 65 66),.y 56 (.f 68 67 0),.y 56 (.l 69 68),.y 56 (.b 70 .geq 63 69),.z 53 (.a 71 56 70),.r 72 53 71] [[],[0],[],[1,2],[3],[4],[5],[6,5],[7],[8,7],[9,7,7],[10],[11,10],[10],[13,10],[12,14,10],[15,10],[16,10],[10],[18,10],[10],[19,20,10],[21,10],[22,10],[17,23,10],[10,24,7],[7,25]])
 (.c 72 (.q [.F 2]
 .ret))))
 (.reg [.m 44 4,.B 45 .add 44 1,.m 4 45]))))))
 (.norm [1] (.q [.f 73 1 0,.l 74 73,.n 75 74,.B 76 .leq 75 8,.m 77 76,.y 77 (.f 78 1 1),.y 77 (.l 79 78),.y 77 (.op 80 (.call 42 [0,0,0] [(.t 79),(.i 0),(.i 7)])),.a 81 77 80,.m 2 81]
 .ret)))))⟩
theorem r_s_TabOk {Te:TE} (c_s_RowOk:C_s_RowOk Te) (c_s_l12Mark:C_s_l12Mark Te) (c_s_l1In:C_s_l1In Te):C_s_TabOk (RF Te x_s_TabOk):=by
 intro t h
 obtain ⟨⟨hl,hR⟩,hM⟩:=h
 refine X0 x_s_TabOk.eq_1 ?_
 refine loop_of (σ:=Nat) (fun i=>⟨[(1,.bp 1 0),(3,.one (.pv (.int .i64 i)))],[(1,[.ro 7 (t.Rows.map (RowV.enc false)),.pv (.int .i64 t.Phase),.ro 3 (t.Marks.map MarkV.row)])],[(0,t.enc false)]⟩) (fun i=>i≤t.Rows.length∧∀ j,j < i→rowGood t.Rows j=true) (fun i=>t.Rows.length - i) 0 ?_ ⟨Nat.zero_le _,fun j hj=>absurd hj (Nat.not_lt_zero _)⟩ ?_
 ·simp -implicitDefEqProofs (maxSteps:=1000000) only [go_sem]
  try rfl
 ·rintro i ⟨hi,hp⟩
  cases q:decide ((i:Int) < (t.Rows.length:Int))
  ·have eR:=rng_end (f:=rowGood t.Rows) (show t.Rows.length≤i by simp only [decide_eq_false_iff_not] at q; omega) hp
   refine G1 q ?_
   refine loop_of (σ:=Nat) (fun i=>⟨[(1,.bp 1 0),(4,.one (.pv (.int .i64 i)))],[(1,[.ro 7 (t.Rows.map (RowV.enc false)),.pv (.int .i64 t.Phase),.ro 3 (t.Marks.map MarkV.row)])],[(0,t.enc false)]⟩) (fun i=>i≤t.Marks.length∧∀ j,j < i→markGood t.Marks j=true) (fun i=>t.Marks.length - i) 0 ?_ ⟨Nat.zero_le _,fun j hj=>absurd hj (Nat.not_lt_zero _)⟩ ?_
   ·simp -implicitDefEqProofs (maxSteps:=1000000) only [go_sem]
    try rfl
   ·rintro i ⟨hi,hp⟩
    cases q:decide ((i:Int) < (t.Marks.length:Int))
    ·have eM:=rng_end (f:=markGood t.Marks) (show t.Marks.length≤i by simp only [decide_eq_false_iff_not] at q; omega) hp
     refine G1 q ?_
     cases gl:decide ((t.Rows.length:Int)≤8)
     ·have e:t.ok=false:=by simp only [TabV.ok,gl,Bool.and_false,Bool.false_and]
      exact F2 gl e
     ·have e:t.ok=win t.Phase 0 7:=by simp only [TabV.ok,eR,eM,gl,Bool.true_and]
      refine G1 gl ?_
      exact D1 (c_s_l1In _ _ _) e
    ·have k1:i < t.Marks.length:=by simp only [decide_eq_true_eq] at q; omega
     cases i with
     | zero =>
      have z:decide (((0:Nat):Int) > 0)=false:=rfl
      have good0:=markGood_zero k1
      refine G3 q (List.getElem?_eq_getElem k1) z ?_
      refine C0 (c_s_l12Mark t.Marks[0]) ?_
      cases g:t.Marks[0].ok
      ·have e:t.ok=false:=by simp only [TabV.ok,rng_not k1 (good0.trans g),Bool.and_false,Bool.false_and]
       exact F1 e
      ·refine G1 z ?_
       refine ⟨1,by rw [IntWalk.i64_in _ (by omega)]; rfl,⟨k1,rng_step hp (good0.trans g)⟩,by omega⟩
     | succ j =>
      have k0:j < t.Marks.length:=by omega
      have z:decide (((j + 1:Nat):Int) > 0)=true:=decide_eq_true (by omega)
      have ew:IntKind.i64.wrap (((j + 1:Nat):Int) - 1)=(j:Int):=by rw [IntWalk.i64_in _ (by omega)]; omega
      have good1:=markGood_succ k1
      refine G3 q (List.getElem?_eq_getElem k1) z ?_
      refine C0 (c_s_l12Mark t.Marks[j + 1]) ?_
      cases g:t.Marks[j + 1].ok
      ·have gg:markGood t.Marks (j + 1)=false:=by rw [good1,g,Bool.false_and]
       have e:t.ok=false:=by simp only [TabV.ok,rng_not k1 gg,Bool.and_false,Bool.false_and]
       exact F1 e
      ·cases g2:decide (t.Marks[j].Who≥t.Marks[j + 1].Who)
       ·have gg:markGood t.Marks (j + 1)=true:=by rw [good1,g,g2]; rfl
        try simp -implicitDefEqProofs (maxSteps:=1000000) only [go_sem,z,ew,List.getElem?_eq_getElem k0,List.getElem?_eq_getElem k1,g2]
        repeat refine ⟨sc,?_⟩
        try exact sf
        refine ⟨j + 2,by rw [IntWalk.i64_in _ (by omega)]; rfl,⟨k1,rng_step hp gg⟩,by omega⟩
       ·have gg:markGood t.Marks (j + 1)=false:=by rw [good1,g2]; simp only [Bool.not_true,Bool.and_false]
        have e:t.ok=false:=by simp only [TabV.ok,rng_not k1 gg,Bool.and_false,Bool.false_and]
        try simp -implicitDefEqProofs (maxSteps:=1000000) only [go_sem,z,ew,List.getElem?_eq_getElem k0,List.getElem?_eq_getElem k1,g2,e]
        repeat refine ⟨sc,?_⟩
        try exact sf
  ·have k1:i < t.Rows.length:=by simp only [decide_eq_true_eq] at q; omega
   cases i with
   | zero =>
    have z:decide (((0:Nat):Int) > 0)=false:=rfl
    have good0:=rowGood_zero k1
    refine G3 q (List.getElem?_eq_getElem k1) z ?_
    refine C0 (c_s_RowOk t.Rows[0] (hR _ (List.getElem_mem k1))) ?_
    cases g:t.Rows[0].ok
    ·have e:t.ok=false:=by simp only [TabV.ok,rng_not k1 (good0.trans g),Bool.false_and]
     exact F1 e
    ·refine G1 z ?_
     refine ⟨1,by rw [IntWalk.i64_in _ (by omega)]; rfl,⟨k1,rng_step hp (good0.trans g)⟩,by omega⟩
   | succ j =>
    have k0:j < t.Rows.length:=by omega
    have z:decide (((j + 1:Nat):Int) > 0)=true:=decide_eq_true (by omega)
    have ew:IntKind.i64.wrap (((j + 1:Nat):Int) - 1)=(j:Int):=by rw [IntWalk.i64_in _ (by omega)]; omega
    have good1:=rowGood_succ k1
    refine G3 q (List.getElem?_eq_getElem k1) z ?_
    refine C0 (c_s_RowOk t.Rows[j + 1] (hR _ (List.getElem_mem k1))) ?_
    cases g:t.Rows[j + 1].ok
    ·have gg:rowGood t.Rows (j + 1)=false:=by rw [good1,g,Bool.false_and]
     have e:t.ok=false:=by simp only [TabV.ok,rng_not k1 gg,Bool.false_and]
     exact F1 e
    ·cases g2:Op.bytesLess t.Rows[j].Key.toList t.Rows[j + 1].Key.toList
     ·have gg:rowGood t.Rows (j + 1)=false:=by rw [good1,g2,Bool.and_false]
      have e:t.ok=false:=by simp only [TabV.ok,rng_not k1 gg,Bool.false_and]
      try simp -implicitDefEqProofs (maxSteps:=1000000) only [go_sem,z,ew,List.getElem?_eq_getElem k0,List.getElem?_eq_getElem k1,g2,e]
      repeat refine ⟨sc,?_⟩
      try exact sf
     ·have gg:rowGood t.Rows (j + 1)=true:=by rw [good1,g,g2]; rfl
      try simp -implicitDefEqProofs (maxSteps:=1000000) only [go_sem,z,ew,List.getElem?_eq_getElem k0,List.getElem?_eq_getElem k1,g2]
      repeat refine ⟨sc,?_⟩
      try exact sf
      refine ⟨j + 2,by rw [IntWalk.i64_in _ (by omega)]; rfl,⟨k1,rng_step hp gg⟩,by omega⟩
def x_s_l13Add_1:XCode:=.seq (.q [.m 37 0,.op 38 (.nilc (.t 37)),.f 39 38 0,.f 40 39 3,.l 41 40,.m 42 41,.z 42 (.m 43 0),.z 42 (.op 44 (.nilc (.t 43))),.z 42 (.f 45 44 8),.z 42 (.l 46 45),.z 42 (.B 47 .eql 46 30),.r 48 42 47]
 (.c 48 (.q [.F 4]
 .ret)))
 (.seq (.draw [.m 49 0,.op 50 (.nilc (.t 49)),.f 51 50 0,.m 52 0,.op 53 (.nilc (.t 52)),.f 54 53 7,.l 55 54,.m 56 0,.op 57 (.nilc (.t 56)),.f 58 57 8,.l 59 58,.c 60 141 [55,59],.m 61 0,.op 62 (.nilc (.t 61)),.f 63 62 7,.l 64 63,.m 65 0,.op 66 (.nilc (.t 65)),.f 67 66 8,.l 68 67,.L 69 13 3,.c 70 142 [64,68,69],.op 71 (.call 140 [6,0,0] [(.t 51),(.t 60),(.t 70)])] [[],[0],[1],[],[3],[4],[5],[],[7],[8],[9],[6,10],[],[12],[13],[14],[],[16],[17],[18],[],[15,19,20,11],[2,11,21,21]])
 (.q [.m 72 0,.op 73 (.nilc (.t 72)),.f 74 73 0,.op 75 (.call 143 [6] [(.t 74)])]
 (.seq (.q [.m 76 0,.op 77 (.nilc (.t 76)),.f 78 77 0,.f 79 78 3,.l 80 79]
 (.c 80 (.q [.F 4]
 .ret)))
 (.q [.m 81 0,.m 82 0,.op 83 (.nilc (.t 82)),.f 84 83 8,.l 85 84,.B 86 .add 85 1,.op 87 (.nilc (.t 81)),.f 88 87 8,.s 100002 1 88 86]
 (.q [.m 89 0,.L 90 3 5,.op 91 (.nilc (.t 89)),.f 92 91 4,.s 100003 3 92 90]
 (.q [.T 4]
 .ret))))))
def x_s_l13Add:FnX:=⟨93,[.tmp 4],
  .q [.v 3 1,.F 4]
 (.seq (.draw [.m 8 0,.op 9 (.nilc (.t 8)),.f 10 9 4,.L 11 3 10,.L 12 13 3,.c 13 138 [11,12],.m 7 13,.e 14 7 0,.e 15 7 1,.op 5 (.alloc [.nils 7,.i 0,.nils 3]),.s 100001 3 5 14,.m 6 15] [[],[0],[1],[2],[],[3,4],[5],[6],[6],[],[9,7,5,0,1,2,3,4,5,6,7,9],[8,10,0,1,2,3,4,5,6,7,8,9,10]])
 (.seq (.q [.m 16 6,.N 17 16]
 (.c 17 (.q [.F 4]
 .ret)))
 (.seq (.q [.m 18 0,.op 19 (.nilc (.t 18)),.f 20 19 8,.l 21 20,.B 22 .eql 21 30,.m 23 22,.y 23 (.m 24 0),.y 23 (.op 25 (.nilc (.t 24))),.y 23 (.f 26 25 7),.y 23 (.l 27 26),.y 23 (.B 28 .lss 27 60000),.a 29 23 28]
 (.c 29 (.reg [.m 30 0,.m 31 0,.op 32 (.nilc (.t 31)),.f 33 32 7,.l 34 33,.B 35 .add 34 1,.op 36 (.call 139 [11,0] [(.t 30),(.t 35)])])))
 (.norm [0,3,5] (x_s_l13Add_1)))))⟩
theorem r_s_l13Add {Te:TE} (c_s_Apply:C_s_Apply Te) (c_s_l13Lay:C_s_l13Lay Te) (c_s_l13At:C_s_l13At Te) (c_s_PutRec:C_s_PutRec Te) (c_s_l10Write:C_s_l10Write Te) (c_s_l10Flush:C_s_l10Flush Te):C_s_l13Add (RF Te x_s_l13Add):=by
 intro s r hk hd hT hr
 have q:=room_ok hk hT
 have hk1:=(StoreV.ok_iff s).1 hk
 refine X0 x_s_l13Add.eq_1 ?_
 refine C0 (c_s_Apply s.T r hT hr) ?_
 cases g3:(s.T.apply r).2
 ·have e:s.add r=(s,false):=by rw [StoreV.add,StoreV.fits,hk,hd,g3]; rfl
  exact F2 g3 e
 have e:s.add r=s.room.end (s.T.apply r).1 r:=by rw [StoreV.add,StoreV.fits,hk,hd,g3]; rfl
 rw [e]
 generalize (s.T.apply r).1=t
 have hr8:=hr.mono (m:=2 ^ 48) (by decide)
 clear e
 cases g4:(s.Place==30)
 ·have er:s.room=s:=by rw [StoreV.room,g4]; rfl
  rw [er] at q ⊢
  have f2:=write_ok q.1 (secOf s.Gen s.Place) (putRec s.Gen s.Place r)
  have hp:=putRec_len s.Gen s.Place r
  have ew:IntKind.i64.wrap (s.Place + 1)=s.Place + 1:=IntWalk.i64_in _ (by omega)
  have hcl:=(DevV.ok_iff _).1 q.1
  have hcl2:=(DevV.ok_iff _).1 f2
  have t1:=c_s_l10Write s.D (secOf s.Gen s.Place) (putRec s.Gen s.Place r) (by omega) (by omega)
  simp only [DevV.enc,hd] at t1
  refine G3 g3 hd g4 ?_
  simp -implicitDefEqProofs (maxSteps:=1000000) only [x_s_l13Add_1,go_sem,g4]
  repeat refine ⟨sc,?_⟩
  refine C0 (c_s_l13At _ _) ?_
  refine C0 (c_s_PutRec s.Gen s.Place r hr8) ?_
  refine C0 (t1) ?_
  refine .of (c_s_l10Flush _ (by omega) (DevV.ok_idx f2)) ?_
  try simp -implicitDefEqProofs (maxSteps:=1000000) only [go_sem,take_all]
  repeat refine ⟨sc,?_⟩
  try exact sf
  have el:((s.D.write (secOf s.Gen s.Place) (putRec s.Gen s.Place r)).flush)=s.log r:=rfl
  rw [el]
  cases g9:(s.log r).Down
  ·have e2:s.end t r=(⟨s.log r,t,s.Gen,s.Place + 1⟩,true):=by rw [StoreV.end,hd,g4,g9]; rfl
   try simp -implicitDefEqProofs (maxSteps:=1000000) only [go_sem,g9,ew,e2,take_all,take_marks,StoreV.enc]
   repeat refine ⟨sc,?_⟩
   try exact sf
   try rfl
  ·have e2:s.end t r=(⟨s.log r,s.T,s.Gen,s.Place⟩,false):=by rw [StoreV.end,hd,g4,g9]; rfl
   try simp -implicitDefEqProofs (maxSteps:=1000000) only [go_sem,g9,e2,take_all,take_marks,StoreV.enc]
   repeat refine ⟨sc,?_⟩
   try exact sf
   try rfl
 cases g5:(s.Gen==60000)
 ·have er:s.room=s.lay (s.Gen + 1):=by rw [StoreV.room,g4,StoreV.relay,hk,hd,g5]; rfl
  have g6:decide (s.Gen < 60000)=true:=by simp only [beq_eq_false_iff_ne] at g5; exact decide_eq_true (by omega)
  have ew:IntKind.i64.wrap (s.Gen + 1)=s.Gen + 1:=IntWalk.i64_in _ (by omega)
  rw [er] at q ⊢
  refine G4 g3 g4 g6 ew ?_
  refine C0 (c_s_l13Lay s (s.Gen + 1) hk1.1 hT) ?_
  generalize s.lay (s.Gen + 1)=S at q ⊢
  cases gd:S.D.Down
  rotate_left
  ·have e2:S.end t r=(S,false):=by rw [StoreV.end,gd]; rfl
   try simp -implicitDefEqProofs (maxSteps:=1000000) only [go_sem,x_s_l13Add_1,gd,e2,take_all,take_marks,StoreV.enc]
   repeat refine ⟨sc,?_⟩
   try exact sf
   try rfl
  cases gp:(S.Place==30)
  rotate_left
  ·have e2:S.end t r=(S,false):=by rw [StoreV.end,gd,gp]; rfl
   try simp -implicitDefEqProofs (maxSteps:=1000000) only [go_sem,x_s_l13Add_1,gd,gp,e2,take_all,take_marks,StoreV.enc]
   repeat refine ⟨sc,?_⟩
   try exact sf
   try rfl
  have f2:=write_ok q.1 (secOf S.Gen S.Place) (putRec S.Gen S.Place r)
  have hp:=putRec_len S.Gen S.Place r
  have ew:IntKind.i64.wrap (S.Place + 1)=S.Place + 1:=IntWalk.i64_in _ (by omega)
  have hcl:=(DevV.ok_iff _).1 q.1
  have hcl2:=(DevV.ok_iff _).1 f2
  have t1:=c_s_l10Write S.D (secOf S.Gen S.Place) (putRec S.Gen S.Place r) (by omega) (by omega)
  simp only [DevV.enc,gd] at t1
  simp -implicitDefEqProofs (maxSteps:=1000000) only [x_s_l13Add_1,go_sem,gd,gp]
  repeat refine ⟨sc,?_⟩
  refine C0 (c_s_l13At _ _) ?_
  refine C0 (c_s_PutRec S.Gen S.Place r hr8) ?_
  refine C0 (t1) ?_
  refine .of (c_s_l10Flush _ (by omega) (DevV.ok_idx f2)) ?_
  try simp -implicitDefEqProofs (maxSteps:=1000000) only [go_sem,take_all]
  repeat refine ⟨sc,?_⟩
  try exact sf
  have el:((S.D.write (secOf S.Gen S.Place) (putRec S.Gen S.Place r)).flush)=S.log r:=rfl
  rw [el]
  cases g9:(S.log r).Down
  ·have e2:S.end t r=(⟨S.log r,t,S.Gen,S.Place + 1⟩,true):=by rw [StoreV.end,gd,gp,g9]; rfl
   try simp -implicitDefEqProofs (maxSteps:=1000000) only [go_sem,g9,ew,e2,take_all,take_marks,StoreV.enc]
   repeat refine ⟨sc,?_⟩
   try exact sf
   try rfl
  ·have e2:S.end t r=(⟨S.log r,S.T,S.Gen,S.Place⟩,false):=by rw [StoreV.end,gd,gp,g9]; rfl
   try simp -implicitDefEqProofs (maxSteps:=1000000) only [go_sem,g9,e2,take_all,take_marks,StoreV.enc]
   repeat refine ⟨sc,?_⟩
   try exact sf
   try rfl
 ·have er:s.room=s:=by rw [StoreV.room,g4,StoreV.relay,g5,Bool.not_true,Bool.and_false]; rfl
  have g6:decide (s.Gen < 60000)=false:=by simp only [beq_iff_eq] at g5; exact decide_eq_false (by omega)
  have e2:s.end t r=(s,false):=by rw [StoreV.end,g4,Bool.or_true]; rfl
  rw [er] at q ⊢
  refine G4 g3 hd g4 g6 ?_
  try simp -implicitDefEqProofs (maxSteps:=1000000) only [go_sem,x_s_l13Add_1,hd,g4,e2,take_all,take_marks,StoreV.enc]
  repeat refine ⟨sc,?_⟩
  try exact sf
  try rfl
def x_i_nineSign:FnX:=⟨21,[.tmp 2],
  .q [.i 2 0]
 (.seq (.q [.m 3 0]
 (.block 0 (.q [.B 5 .eql 3 164,.m 4 5]
 (.cond 4 (.q [.i 2 8364]
 .ret) (.q [.B 7 .eql 3 166,.m 6 7]
 (.cond 6 (.q [.i 2 352]
 .ret) (.q [.B 9 .eql 3 168,.m 8 9]
 (.cond 8 (.q [.i 2 353]
 .ret) (.q [.B 11 .eql 3 180,.m 10 11]
 (.cond 10 (.q [.i 2 381]
 .ret) (.q [.B 13 .eql 3 184,.m 12 13]
 (.cond 12 (.q [.i 2 382]
 .ret) (.q [.B 15 .eql 3 188,.m 14 15]
 (.cond 14 (.q [.i 2 338]
 .ret) (.q [.B 17 .eql 3 189,.m 16 17]
 (.cond 16 (.q [.i 2 339]
 .ret) (.q [.B 19 .eql 3 190,.m 18 19]
 (.c 18 (.q [.i 2 376]
 .ret)))))))))))))))))))
 (.q [.m 20 0,.m 2 20]
 .ret))⟩
theorem r_i_nineSign {Te:TE}:C_i_nineSign (RF Te x_i_nineSign):=by
 intro b
 refine run0 ?_
 cases g0:(b==164)
 rotate_left
 ·simp -implicitDefEqProofs (maxSteps:=1000000) only [x_i_nineSign,go_sem,nine,g0]
  repeat refine ⟨sc,?_⟩
  try exact sf
 cases g1:(b==166)
 rotate_left
 ·simp -implicitDefEqProofs (maxSteps:=1000000) only [x_i_nineSign,go_sem,nine,g1,g0]
  repeat refine ⟨sc,?_⟩
  try exact sf
 cases g2:(b==168)
 rotate_left
 ·simp -implicitDefEqProofs (maxSteps:=1000000) only [x_i_nineSign,go_sem,nine,g2,g0,g1]
  repeat refine ⟨sc,?_⟩
  try exact sf
 cases g3:(b==180)
 rotate_left
 ·simp -implicitDefEqProofs (maxSteps:=1000000) only [x_i_nineSign,go_sem,nine,g3,g0,g1,g2]
  repeat refine ⟨sc,?_⟩
  try exact sf
 cases g4:(b==184)
 rotate_left
 ·simp -implicitDefEqProofs (maxSteps:=1000000) only [x_i_nineSign,go_sem,nine,g4,g0,g1,g2,g3]
  repeat refine ⟨sc,?_⟩
  try exact sf
 cases g5:(b==188)
 rotate_left
 ·simp -implicitDefEqProofs (maxSteps:=1000000) only [x_i_nineSign,go_sem,nine,g5,g0,g1,g2,g3,g4]
  repeat refine ⟨sc,?_⟩
  try exact sf
 cases g6:(b==189)
 rotate_left
 ·simp -implicitDefEqProofs (maxSteps:=1000000) only [x_i_nineSign,go_sem,nine,g6,g0,g1,g2,g3,g4,g5]
  repeat refine ⟨sc,?_⟩
  try exact sf
 cases g7:(b==190)
 rotate_left
 ·simp -implicitDefEqProofs (maxSteps:=1000000) only [x_i_nineSign,go_sem,nine,g7,g0,g1,g2,g3,g4,g5,g6]
  repeat refine ⟨sc,?_⟩
  try exact sf
 simp -implicitDefEqProofs (maxSteps:=1000000) only [x_i_nineSign,go_sem,nine,g0,g1,g2,g3,g4,g5,g6,g7]
 repeat refine ⟨sc,?_⟩
 try exact sf
def x_s_l3Nine:FnX:=⟨21,[.tmp 2],
  .q [.i 2 0]
 (.seq (.q [.m 3 0]
 (.block 0 (.q [.B 5 .eql 3 164,.m 4 5]
 (.cond 4 (.q [.i 2 8364]
 .ret) (.q [.B 7 .eql 3 166,.m 6 7]
 (.cond 6 (.q [.i 2 352]
 .ret) (.q [.B 9 .eql 3 168,.m 8 9]
 (.cond 8 (.q [.i 2 353]
 .ret) (.q [.B 11 .eql 3 180,.m 10 11]
 (.cond 10 (.q [.i 2 381]
 .ret) (.q [.B 13 .eql 3 184,.m 12 13]
 (.cond 12 (.q [.i 2 382]
 .ret) (.q [.B 15 .eql 3 188,.m 14 15]
 (.cond 14 (.q [.i 2 338]
 .ret) (.q [.B 17 .eql 3 189,.m 16 17]
 (.cond 16 (.q [.i 2 339]
 .ret) (.q [.B 19 .eql 3 190,.m 18 19]
 (.c 18 (.q [.i 2 376]
 .ret)))))))))))))))))))
 (.q [.m 20 0,.m 2 20]
 .ret))⟩
theorem r_s_l3Nine {Te:TE}:C_s_l3Nine (RF Te x_s_l3Nine):=by
 intro b
 refine run0 ?_
 cases g0:(b==164)
 rotate_left
 ·simp -implicitDefEqProofs (maxSteps:=1000000) only [x_s_l3Nine,go_sem,nine,g0]
  repeat refine ⟨sc,?_⟩
  try exact sf
 cases g1:(b==166)
 rotate_left
 ·simp -implicitDefEqProofs (maxSteps:=1000000) only [x_s_l3Nine,go_sem,nine,g1,g0]
  repeat refine ⟨sc,?_⟩
  try exact sf
 cases g2:(b==168)
 rotate_left
 ·simp -implicitDefEqProofs (maxSteps:=1000000) only [x_s_l3Nine,go_sem,nine,g2,g0,g1]
  repeat refine ⟨sc,?_⟩
  try exact sf
 cases g3:(b==180)
 rotate_left
 ·simp -implicitDefEqProofs (maxSteps:=1000000) only [x_s_l3Nine,go_sem,nine,g3,g0,g1,g2]
  repeat refine ⟨sc,?_⟩
  try exact sf
 cases g4:(b==184)
 rotate_left
 ·simp -implicitDefEqProofs (maxSteps:=1000000) only [x_s_l3Nine,go_sem,nine,g4,g0,g1,g2,g3]
  repeat refine ⟨sc,?_⟩
  try exact sf
 cases g5:(b==188)
 rotate_left
 ·simp -implicitDefEqProofs (maxSteps:=1000000) only [x_s_l3Nine,go_sem,nine,g5,g0,g1,g2,g3,g4]
  repeat refine ⟨sc,?_⟩
  try exact sf
 cases g6:(b==189)
 rotate_left
 ·simp -implicitDefEqProofs (maxSteps:=1000000) only [x_s_l3Nine,go_sem,nine,g6,g0,g1,g2,g3,g4,g5]
  repeat refine ⟨sc,?_⟩
  try exact sf
 cases g7:(b==190)
 rotate_left
 ·simp -implicitDefEqProofs (maxSteps:=1000000) only [x_s_l3Nine,go_sem,nine,g7,g0,g1,g2,g3,g4,g5,g6]
  repeat refine ⟨sc,?_⟩
  try exact sf
 simp -implicitDefEqProofs (maxSteps:=1000000) only [x_s_l3Nine,go_sem,nine,g0,g1,g2,g3,g4,g5,g6,g7]
 repeat refine ⟨sc,?_⟩
 try exact sf
def x_i_koiSign:FnX:=⟨26,[.tmp 2],
  .q [.i 2 0]
 (.q [.op 4 (.build [.i 0,.i 0,.i 0,.i 0,.i 0,.i 0,.i 0,.i 0,.i 0,.i 0,.i 0,.i 0,.i 0,.i 0,.i 0,.i 0,.i 0,.i 0,.i 0,.i 0,.i 0,.i 0,.i 0,.i 0,.i 0,.i 0,.i 0,.i 0,.i 0,.i 0,.i 0,.i 0] [(0,1,(.i 1102)),(1,1,(.i 1072)),(2,1,(.i 1073)),(3,1,(.i 1094)),(4,1,(.i 1076)),(5,1,(.i 1077)),(6,1,(.i 1092)),(7,1,(.i 1075)),(8,1,(.i 1093)),(9,1,(.i 1080)),(10,1,(.i 1081)),(11,1,(.i 1082)),(12,1,(.i 1083)),(13,1,(.i 1084)),(14,1,(.i 1085)),(15,1,(.i 1086)),(16,1,(.i 1087)),(17,1,(.i 1103)),(18,1,(.i 1088)),(19,1,(.i 1089)),(20,1,(.i 1090)),(21,1,(.i 1091)),(22,1,(.i 1078)),(23,1,(.i 1074)),(24,1,(.i 1100)),(25,1,(.i 1099)),(26,1,(.i 1079)),(27,1,(.i 1096)),(28,1,(.i 1101)),(29,1,(.i 1097)),(30,1,(.i 1095)),(31,1,(.i 1098))]),.op 3 (.alloc [.i 0,.i 0,.i 0,.i 0,.i 0,.i 0,.i 0,.i 0,.i 0,.i 0,.i 0,.i 0,.i 0,.i 0,.i 0,.i 0,.i 0,.i 0,.i 0,.i 0,.i 0,.i 0,.i 0,.i 0,.i 0,.i 0,.i 0,.i 0,.i 0,.i 0,.i 0,.i 0]),.s 100001 32 3 4]
 (.seq (.block 0 (.q [.m 6 0,.B 7 .geq 6 224,.m 5 7]
 (.cond 5 (.q [.m 8 0,.B 9 .sub 8 224,.op 10 (.aaddr 32 1 (.t 3) (.t 9)),.l 11 10,.B 12 .sub 11 32,.m 2 12]
 .ret) (.q [.m 14 0,.B 15 .geq 14 192,.m 13 15]
 (.cond 13 (.q [.m 16 0,.B 17 .sub 16 192,.op 18 (.aaddr 32 1 (.t 3) (.t 17)),.l 19 18,.m 2 19]
 .ret) (.q [.m 21 0,.B 22 .eql 21 163,.m 20 22]
 (.cond 20 (.q [.i 2 1105]
 .ret) (.q [.m 24 0,.B 25 .eql 24 179,.m 23 25]
 (.c 23 (.q [.i 2 1025]
 .ret))))))))))
 (.q [.i 2 0]
 .ret)))⟩
theorem r_i_koiSign {Te:TE}:C_i_koiSign (RF Te x_i_koiSign):=by
 intro b hb
 refine run0 ?_
 cases g1:decide (b≥224)
 ·cases g2:decide (b≥192)
  ·cases g3:(b==163)
   ·cases g4:(b==179)
    ·simp -implicitDefEqProofs (maxSteps:=1000000) only [x_i_koiSign,go_sem,koi,g1,g2,g3,g4]
     repeat refine ⟨sc,?_⟩
     try exact sf
    ·simp -implicitDefEqProofs (maxSteps:=1000000) only [x_i_koiSign,go_sem,koi,g1,g2,g3,g4]
     repeat refine ⟨sc,?_⟩
     try exact sf
   ·simp -implicitDefEqProofs (maxSteps:=1000000) only [x_i_koiSign,go_sem,koi,g1,g2,g3]
    repeat refine ⟨sc,?_⟩
    try exact sf
  ·simp only [decide_eq_true_eq] at g2
   have e:IntKind.i64.wrap (b - 192)=b - 192:=IntWalk.i64_in _ (by omega)
   simp only [decide_eq_false_iff_not] at g1
   have hk:(b - 192).toNat < 32:=by omega
   have q1:=decide_eq_false g1
   have q2:=decide_eq_true g2
   simp -implicitDefEqProofs (maxSteps:=1000000) only [x_i_koiSign,go_sem,koi,q1,q2,e,Nat.mul_one]
   repeat refine ⟨sc,?_⟩
   try exact sf
   try simp -implicitDefEqProofs (maxSteps:=1000000) only [go_sem,koi_cel hk,q1,q2]
   repeat refine ⟨sc,?_⟩
   try exact sf
 ·simp only [decide_eq_true_eq] at g1
  have e:IntKind.i64.wrap (b - 224)=b - 224:=IntWalk.i64_in _ (by omega)
  have hk:(b - 224).toNat < 32:=by omega
  have q1:=decide_eq_true g1
  have hv:=koi_in ⟨(b - 224).toNat,hk⟩
  have e2:IntKind.i64.wrap (koiL.getD (b - 224).toNat 0 - 32)=koiL.getD (b - 224).toNat 0 - 32:=IntWalk.i64_in _ (by simp only at hv; omega)
  simp -implicitDefEqProofs (maxSteps:=1000000) only [x_i_koiSign,go_sem,koi,q1,e,Nat.mul_one]
  repeat refine ⟨sc,?_⟩
  try exact sf
  try simp -implicitDefEqProofs (maxSteps:=1000000) only [go_sem,koi_cel hk,q1,e2]
  repeat refine ⟨sc,?_⟩
  try exact sf
def x_i_WriteSec:FnX:=⟨56,[.cell 6 (some 4)],
  .q [.v 3 0,.op 6 (.alloc [.nils 1,.nils 2,.i 0,.F])]
 (.q [.L 9 4 3,.c 10 98 [9],.op 7 (.alloc [.nils 1,.nils 2,.i 0,.F]),.s 100001 4 7 10]
 (.seq (.q [.L 11 4 3,.c 12 194 [11],.N 13 12,.m 14 13,.z 14 (.f 15 3 3),.z 14 (.l 16 15),.r 17 14 16,.m 18 17,.z 18 (.m 19 1),.z 18 (.f 20 3 0),.z 18 (.l 21 20),.z 18 (.n 22 21),.z 18 (.B 23 .sub 22 1),.z 18 (.op 24 (.call 57 [0,0,0] [(.t 19),(.i 0),(.t 23)])),.z 18 (.N 25 24),.r 26 18 25,.m 27 26,.z 27 (.m 28 2),.z 27 (.n 29 28),.z 27 (.B 30 .gtr 29 120),.r 31 27 30,.m 32 31,.z 32 (.f 33 3 1),.z 32 (.l 34 33),.z 32 (.n 35 34),.z 32 (.B 36 .eql 35 40),.r 37 32 36]
 (.c 37 (.q [.L 38 4 7,.s 100002 4 6 38]
 .ret)))
 (.q [.L 40 4 7,.op 41 (.call 207 [1] [(.t 40)]),.m 39 41,.e 42 39 0,.e 43 39 1,.s 100003 4 7 42,.m 8 43]
 (.seq (.q [.m 44 8]
 (.c 44 (.draw [.f 45 7 1,.l 46 45,.m 47 1,.m 48 2,.op 49 (.bslice 1 [(.t 48)]),.c 50 152 [49],.op 51 (.build [.i 0,.nils 1] [(0,1,(.t 47)),(1,1,(.t 50))]),.op 52 (.bslice 2 [(.t 51)]),.op 53 (.app 2 32 (.t 46) (.t 52)),.f 54 7 1,.s 100004 1 54 53] [[],[0],[],[],[3],[4],[2,5],[6],[1,7,5],[0,1,2,3,4,5,6,7,8],[9,8,8,0,1,2,3,4,5,6,7,8]])))
 (.q [.L 55 4 7,.s 100005 4 6 55]
 .ret)))))⟩
theorem r_i_WriteSec {Te:TE} (c_i_copyDev:C_i_copyDev Te) (c_i_DevOk:C_i_DevOk Te) (c_i_within:C_i_within Te) (c_i_burn:C_i_burn Te) (c_i_joined:C_i_joined Te):C_i_WriteSec (RF Te x_i_WriteSec):=by
 intro d n b hk hb
 have hin:=DevV.ok_in hk
 have hL:=hin.len (by decide)
 have hl:=hin.1.1
 have h40:=DevV.ok_cache hk
 have ws:IntKind.i64.wrap ((d.Secs.length:Int) - 1)=(d.Secs.length:Int) - 1:=IntWalk.i64_in _ (by omega)
 refine X0 x_i_WriteSec.eq_1 ?_
 refine C0 (c_i_copyDev d hL) ?_
 refine C1 (c_i_DevOk d (hin.mono (by decide))) hk ?_
 cases g1:d.Down
 rotate_left
 ·have e:=full_down (n:=n) (b:=b) g1
  try simp -implicitDefEqProofs (maxSteps:=1000000) only [go_sem,g1,e,take_all,DevV.enc]
  repeat refine ⟨sc,?_⟩
  try exact sf
  try rfl
 refine G2 g1 ws ?_
 refine C0 (c_i_within _ _ _) ?_
 cases g2:win n 0 ((d.Secs.length:Int) - 1)
 ·have e:=full_win (b:=b) g2
  try simp -implicitDefEqProofs (maxSteps:=1000000) only [go_sem,e,take_all,g1,DevV.enc]
  repeat refine ⟨sc,?_⟩
  try exact sf
  try rfl
 cases g3:decide ((b.length:Int) > 120)
 rotate_left
 ·have e:=full_len (d:=d) (n:=n) g3
  try simp -implicitDefEqProofs (maxSteps:=1000000) only [go_sem,g3,e,take_all,g1,DevV.enc]
  repeat refine ⟨sc,?_⟩
  try exact sf
  try rfl
 cases g4:decide ((d.Cache.length:Int)≥40)
 rotate_left
 ·have g5:((d.Cache.length:Int)==40)=true:=by simp only [decide_eq_true_eq] at g4; simp only [beq_iff_eq]; omega
  have e:=full_cache (n:=n) (b:=b) g4
  try simp -implicitDefEqProofs (maxSteps:=1000000) only [go_sem,g3,g5,e,take_all,g1,DevV.enc]
  repeat refine ⟨sc,?_⟩
  try exact sf
  try rfl
 have g5:((d.Cache.length:Int)==40)=false:=by simp only [decide_eq_false_iff_not] at g4; simp only [beq_eq_false_iff_ne]; omega
 have e:=not_full g1 g2 g3 g4
 refine G2 g3 g5 ?_
 have tb:=c_i_burn d
 simp only [DevV.enc,g1] at tb
 have bc:=burn_cache d
 have g40:d.burn.Cache.length < 40:=by rw [bc]; simp only [decide_eq_false_iff_not] at g4; omega
 cases g6:(d.Fuse==0)
 ·have g7:¬ d.Fuse=0:=by simpa using g6
  rw [if_neg g7] at e
  have ea:=app1W d.burn.Cache ⟨n,b⟩
  have et:List.take (d.burn.Cache.length + 1) (List.map (WrV.enc true) (d.burn.Cache++[⟨n,b⟩]))=List.map (WrV.enc true) (d.burn.Cache++[⟨n,b⟩]):=List.take_of_length_le (by simp)
  refine C1 (tb) g6 ?_
  refine .of (c_i_joined [b] (by rw [flat1]; omega) (by show 1≤2 ^ 31; decide)) ?_
  try simp -implicitDefEqProofs (maxSteps:=1000000) only [go_sem,flat1,take_all,ea,et,e,g1,DevV.put,DevV.enc]
  repeat refine ⟨sc,?_⟩
  try exact sf
  try rfl
 ·have g7:d.Fuse=0:=by simpa using g6
  rw [if_pos g7] at e
  refine .of (tb) ?_
  try simp -implicitDefEqProofs (maxSteps:=1000000) only [go_sem,g6,take_all,e,g1,DevV.enc]
  repeat refine ⟨sc,?_⟩
  try exact sf
  try rfl
def x_s_l10Write:FnX:=⟨53,[],
  .seq (.q [.m 6 0,.op 7 (.nilc (.t 6)),.f 8 7 3,.l 9 8,.m 10 9,.z 10 (.m 11 1),.z 10 (.m 12 0),.z 10 (.op 13 (.nilc (.t 12))),.z 10 (.f 14 13 0),.z 10 (.l 15 14),.z 10 (.n 16 15),.z 10 (.B 17 .sub 16 1),.z 10 (.op 18 (.call 42 [0,0,0] [(.t 11),(.i 0),(.t 17)])),.z 10 (.N 19 18),.r 20 10 19,.m 21 20,.z 21 (.m 22 2),.z 21 (.n 23 22),.z 21 (.B 24 .gtr 23 120),.r 25 21 24,.m 26 25,.z 26 (.m 27 0),.z 26 (.op 28 (.nilc (.t 27))),.z 26 (.f 29 28 1),.z 26 (.l 30 29),.z 26 (.n 31 30),.z 26 (.B 32 .geq 31 40),.r 33 26 32,.m 34 33,.z 34 (.m 35 0),.z 34 (.op 36 (.call 185 [6] [(.t 35)])),.z 34 (.N 37 36),.r 38 34 37]
 (.c 38 .ret))
 (.draw [.m 39 0,.m 40 0,.op 41 (.nilc (.t 40)),.f 42 41 1,.l 43 42,.m 44 1,.op 45 (.bslice 1 []),.m 46 2,.op 47 (.app 1 1 (.t 45) (.t 46)),.op 48 (.build [.i 0,.nils 1] [(0,1,(.t 44)),(1,1,(.t 47))]),.op 49 (.bslice 2 [(.t 48)]),.op 50 (.app 2 32 (.t 43) (.t 49)),.op 51 (.nilc (.t 39)),.f 52 51 1,.s 100001 1 52 50] [[],[],[1],[2],[3],[],[],[],[6,7],[5,8],[9],[4,10,8],[0,0,1,2,3,4,5,6,7,8,9,10,11],[12,0,1,2,3,4,5,6,7,8,9,10,11],[13,11,11,0,1,2,3,4,5,6,7,8,9,10,11]])⟩
theorem r_s_l10Write {Te:TE} (c_s_l1In:C_s_l1In Te) (c_s_l10Op:C_s_l10Op Te):C_s_l10Write (RF Te x_s_l10Write):=by
 intro d n b hd hb
 obtain ⟨hl,hc⟩:=hd
 have ws:IntKind.i64.wrap ((d.Secs.length:Int) - 1)=(d.Secs.length:Int) - 1:=IntWalk.i64_in _ (by omega)
 refine X0 x_s_l10Write.eq_1 ?_
 cases g1:d.Down
 rotate_left
 ·have e:=full_down (n:=n) (b:=b) g1
  try simp -implicitDefEqProofs (maxSteps:=1000000) only [go_sem,g1,e,take_all,DevV.enc]
  repeat refine ⟨sc,?_⟩
  try exact sf
  try rfl
 refine G2 g1 ws ?_
 refine C0 (c_s_l1In _ _ _) ?_
 cases g2:win n 0 ((d.Secs.length:Int) - 1)
 ·have e:=full_win (b:=b) g2
  try simp -implicitDefEqProofs (maxSteps:=1000000) only [go_sem,e,take_all,g1,DevV.enc]
  repeat refine ⟨sc,?_⟩
  try exact sf
  try rfl
 cases g3:decide ((b.length:Int) > 120)
 rotate_left
 ·have e:=full_len (d:=d) (n:=n) g3
  try simp -implicitDefEqProofs (maxSteps:=1000000) only [go_sem,g3,e,take_all,g1,DevV.enc]
  repeat refine ⟨sc,?_⟩
  try exact sf
  try rfl
 cases g4:decide ((d.Cache.length:Int)≥40)
 rotate_left
 ·have e:=full_cache (n:=n) (b:=b) g4
  try simp -implicitDefEqProofs (maxSteps:=1000000) only [go_sem,g3,g4,e,take_all,g1,DevV.enc]
  repeat refine ⟨sc,?_⟩
  try exact sf
  try rfl
 have e:=not_full g1 g2 g3 g4
 refine G2 g3 g4 ?_
 have tb:=c_s_l10Op d
 simp only [DevV.enc,g1] at tb
 have bc:=burn_cache d
 have g40:d.burn.Cache.length < 40:=by rw [bc]; simp only [decide_eq_false_iff_not] at g4; omega
 cases g6:(d.Fuse==0)
 ·have g7:¬ d.Fuse=0:=by simpa using g6
  rw [if_neg g7] at e
  have ea:=app1W d.burn.Cache ⟨n,b⟩
  have et:List.take (d.burn.Cache.length + 1) (List.map (WrV.enc true) (d.burn.Cache++[⟨n,b⟩]))=List.map (WrV.enc true) (d.burn.Cache++[⟨n,b⟩]):=List.take_of_length_le (by simp)
  refine .of (tb) ?_
  try simp -implicitDefEqProofs (maxSteps:=1000000) only [go_sem,g6,take_all,take_rows,ea,et,e,g1,DevV.put,DevV.enc]
  repeat refine ⟨sc,?_⟩
  try exact sf
  try rfl
 ·have g7:d.Fuse=0:=by simpa using g6
  rw [if_pos g7] at e
  refine .of (tb) ?_
  try simp -implicitDefEqProofs (maxSteps:=1000000) only [go_sem,g6,take_all,e,g1,DevV.enc]
  repeat refine ⟨sc,?_⟩
  try exact sf
  try rfl
def x_s_l11Who:FnX:=⟨32,[.tmp 2],
  .q [.v 1 0,.F 2]
 (.seq (.q [.f 3 1 10,.l 4 3,.B 5 .eql 4 0]
 (.c 5 (.q [.f 6 1 11,.l 7 6,.B 8 .eql 7 0,.m 9 8,.y 9 (.f 10 1 12),.y 9 (.l 11 10),.y 9 (.B 12 .eql 11 0),.a 13 9 12,.m 14 13,.y 14 (.f 15 1 0),.y 14 (.l 16 15),.y 14 (.B 17 .neq 16 4),.a 18 14 17,.m 2 18]
 .ret)))
 (.q [.f 19 1 10,.l 20 19,.op 21 (.call 42 [0,0,0] [(.t 20),(.i 1),(.i 9)]),.m 22 21,.y 22 (.f 23 1 11),.y 22 (.l 24 23),.y 22 (.c 25 43 [24]),.a 26 22 25,.m 27 26,.y 27 (.f 28 1 12),.y 27 (.l 29 28),.y 27 (.op 30 (.call 42 [0,0,0] [(.t 29),(.i 0),(.i 6)])),.a 31 27 30,.m 2 31]
 .ret))⟩
theorem r_s_l11Who {Te:TE} (c_s_l1In:C_s_l1In Te) (c_s_l1Word:C_s_l1Word Te):C_s_l11Who (RF Te x_s_l11Who):=by
 intro r
 refine X0 x_s_l11Who.eq_1 ?_
 cases g0:(r.Who==0)
 ·refine G1 g0 ?_
  refine C0 (c_s_l1In _ _ _) ?_
  cases g1:win r.Who 1 9
  ·try simp -implicitDefEqProofs (maxSteps:=1000000) only [go_sem,RecV.who,g0,g1]
   repeat refine ⟨sc,?_⟩
   try exact sf
  refine G0 ?_
  refine C0 (c_s_l1Word _) ?_
  cases g2:win r.Seq 0 65535
  ·try simp -implicitDefEqProofs (maxSteps:=1000000) only [go_sem,RecV.who,g0,g1,g2]
   repeat refine ⟨sc,?_⟩
   try exact sf
  refine G0 ?_
  refine .of (c_s_l1In _ _ _) ?_
  try simp -implicitDefEqProofs (maxSteps:=1000000) only [go_sem,RecV.who,g0,g1,g2]
  repeat refine ⟨sc,?_⟩
  try exact sf
 ·refine G1 g0 ?_
  cases g1:(r.Seq==0)
  ·try simp -implicitDefEqProofs (maxSteps:=1000000) only [go_sem,RecV.who,g0,g1]
   repeat refine ⟨sc,?_⟩
   try exact sf
  refine G1 g1 ?_
  cases g2:(r.Code==0)
  ·try simp -implicitDefEqProofs (maxSteps:=1000000) only [go_sem,RecV.who,g0,g1,g2]
   repeat refine ⟨sc,?_⟩
   try exact sf
  try simp -implicitDefEqProofs (maxSteps:=1000000) only [go_sem,RecV.who,g0,g1,g2]
  repeat refine ⟨sc,?_⟩
  try exact sf
def x_s_RecOk:FnX:=⟨48,[.tmp 2],
  .q [.v 1 0,.F 2]
 (.q [.f 6 1 1,.L 7 7 6,.c 8 219 [7],.m 3 8]
 (.q [.f 9 1 8,.l 10 9,.op 11 (.bin .eql (.t 10) (.k (.one (.pv (.string ⟨#[]⟩))))),.m 4 11]
 (.q [.f 12 1 9,.l 13 12,.B 14 .eql 13 0,.m 5 14]
 (.seq (.q [.f 15 1 0,.l 16 15]
 (.block 0 (.q [.B 18 .eql 16 1,.m 17 18]
 (.cond 17 (.reg [.f 19 1 1,.L 20 7 19,.c 21 174 [20],.m 3 21]) (.q [.B 23 .eql 16 2,.m 22 23]
 (.cond 22 (.reg [.f 24 1 8,.l 25 24,.c 26 137 [25],.m 4 26]) (.q [.B 28 .eql 16 3,.m 27 28]
 (.c 27 (.reg [.f 29 1 9,.l 30 29,.op 31 (.call 42 [0,0,0] [(.t 30),(.i 0),(.i 7)]),.m 5 31])))))))))
 (.q [.f 32 1 0,.l 33 32,.op 34 (.call 42 [0,0,0] [(.t 33),(.i 1),(.i 4)]),.m 35 34,.y 35 (.m 36 3),.a 37 35 36,.m 38 37,.y 38 (.m 39 4),.a 40 38 39,.m 41 40,.y 41 (.m 42 5),.a 43 41 42,.m 44 43,.y 44 (.L 45 13 1),.y 44 (.c 46 220 [45]),.a 47 44 46,.m 2 47]
 .ret)))))⟩
theorem r_s_RecOk {Te:TE} (c_s_l11NoRow:C_s_l11NoRow Te) (c_s_RowOk:C_s_RowOk Te) (c_s_NameOk:C_s_NameOk Te) (c_s_l1In:C_s_l1In Te) (c_s_l11Who:C_s_l11Who Te):C_s_RecOk (RF Te x_s_RecOk):=by
 intro r h
 refine run0 ?_
 have hR:=h.1
 have hK:=h.2
 simp -implicitDefEqProofs (maxSteps:=1000000) only [x_s_RecOk,go_sem,bytes_beq]
 repeat refine ⟨sc,?_⟩
 try exact sf
 refine .of (c_s_l11NoRow r.R) ?_
 try simp -implicitDefEqProofs (maxSteps:=1000000) only [go_sem,bytes_beq]
 repeat refine ⟨sc,?_⟩
 try exact sf
 cases gk:win r.Kind 1 4
 ·obtain ⟨k1,k2,k3,k4⟩:=kind_win gk
  refine G3 k1 k2 k3 ?_
  refine .of (c_s_l1In _ _ _) ?_
  try simp -implicitDefEqProofs (maxSteps:=1000000) only [go_sem,gk,RecV.ok,RecV.body,k1,k2,k3,k4]
  repeat refine ⟨sc,?_⟩
  try exact sf
 obtain ⟨kind,R,key,n,who,seq,code⟩:=r
 simp only at gk hR hK
 rcases win_kind gk with rfl | rfl | rfl | rfl
 ·skip
  refine G0 ?_
  refine C0 (c_s_RowOk R hR) ?_
  refine C1 (c_s_l1In _ _ _) gk ?_
  cases g1:R.ok
  ·try simp -implicitDefEqProofs (maxSteps:=1000000) only [go_sem,RecV.ok,RecV.body,g1]
   repeat refine ⟨sc,?_⟩
   try exact sf
  refine G0 ?_
  cases g2:decide (key=⟨#[]⟩)
  ·try simp -implicitDefEqProofs (maxSteps:=1000000) only [go_sem,RecV.ok,RecV.body,g1,g2]
   repeat refine ⟨sc,?_⟩
   try exact sf
  refine G0 ?_
  cases g3:(n==0)
  ·try simp -implicitDefEqProofs (maxSteps:=1000000) only [go_sem,RecV.ok,RecV.body,g1,g2,g3]
   repeat refine ⟨sc,?_⟩
   try exact sf
  refine G0 ?_
  refine .of (c_s_l11Who ⟨1,R,key,n,who,seq,code⟩) ?_
  try simp -implicitDefEqProofs (maxSteps:=1000000) only [go_sem,RecV.ok,RecV.body,g1,g2,g3]
  repeat refine ⟨sc,?_⟩
  try exact sf
 ·skip
  refine G0 ?_
  refine C0 (c_s_NameOk key hK) ?_
  refine C1 (c_s_l1In _ _ _) gk ?_
  cases g1:R.no
  ·try simp -implicitDefEqProofs (maxSteps:=1000000) only [go_sem,RecV.ok,RecV.body,g1]
   repeat refine ⟨sc,?_⟩
   try exact sf
  refine G0 ?_
  cases g2:nameOk key
  ·try simp -implicitDefEqProofs (maxSteps:=1000000) only [go_sem,RecV.ok,RecV.body,g1,g2]
   repeat refine ⟨sc,?_⟩
   try exact sf
  refine G0 ?_
  cases g3:(n==0)
  ·try simp -implicitDefEqProofs (maxSteps:=1000000) only [go_sem,RecV.ok,RecV.body,g1,g2,g3]
   repeat refine ⟨sc,?_⟩
   try exact sf
  refine G0 ?_
  refine .of (c_s_l11Who ⟨2,R,key,n,who,seq,code⟩) ?_
  try simp -implicitDefEqProofs (maxSteps:=1000000) only [go_sem,RecV.ok,RecV.body,g1,g2,g3]
  repeat refine ⟨sc,?_⟩
  try exact sf
 ·skip
  refine G0 ?_
  refine C0 (c_s_l1In _ _ _) ?_
  refine C1 (c_s_l1In _ _ _) gk ?_
  cases g1:R.no
  ·try simp -implicitDefEqProofs (maxSteps:=1000000) only [go_sem,RecV.ok,RecV.body,g1]
   repeat refine ⟨sc,?_⟩
   try exact sf
  refine G0 ?_
  cases g2:decide (key=⟨#[]⟩)
  ·try simp -implicitDefEqProofs (maxSteps:=1000000) only [go_sem,RecV.ok,RecV.body,g1,g2]
   repeat refine ⟨sc,?_⟩
   try exact sf
  refine G0 ?_
  cases g3:win n 0 7
  ·try simp -implicitDefEqProofs (maxSteps:=1000000) only [go_sem,RecV.ok,RecV.body,g1,g2,g3]
   repeat refine ⟨sc,?_⟩
   try exact sf
  refine G0 ?_
  refine .of (c_s_l11Who ⟨3,R,key,n,who,seq,code⟩) ?_
  try simp -implicitDefEqProofs (maxSteps:=1000000) only [go_sem,RecV.ok,RecV.body,g1,g2,g3]
  repeat refine ⟨sc,?_⟩
  try exact sf
 ·skip
  refine G0 ?_
  refine C1 (c_s_l1In _ _ _) gk ?_
  cases g1:R.no
  ·try simp -implicitDefEqProofs (maxSteps:=1000000) only [go_sem,RecV.ok,RecV.body,g1]
   repeat refine ⟨sc,?_⟩
   try exact sf
  refine G0 ?_
  cases g2:decide (key=⟨#[]⟩)
  ·try simp -implicitDefEqProofs (maxSteps:=1000000) only [go_sem,RecV.ok,RecV.body,g1,g2]
   repeat refine ⟨sc,?_⟩
   try exact sf
  refine G0 ?_
  cases g3:(n==0)
  ·try simp -implicitDefEqProofs (maxSteps:=1000000) only [go_sem,RecV.ok,RecV.body,g1,g2,g3]
   repeat refine ⟨sc,?_⟩
   try exact sf
  refine G0 ?_
  refine .of (c_s_l11Who ⟨4,R,key,n,who,seq,code⟩) ?_
  try simp -implicitDefEqProofs (maxSteps:=1000000) only [go_sem,RecV.ok,RecV.body,g1,g2,g3]
  repeat refine ⟨sc,?_⟩
  try exact sf
def x_s_l12Copy:FnX:=⟨31,[.cell 2 (some 3)],
  .q [.v 1 0,.op 2 (.alloc [.nils 7,.i 0,.nils 3])]
 (.seq (.draw [.f 5 1 1,.l 6 5,.op 7 (.bslice 3 []),.f 8 1 2,.l 9 8,.op 10 (.app 3 24 (.t 7) (.t 9)),.op 11 (.build [.nils 7,.i 0,.nils 3] [(1,1,(.t 6)),(2,1,(.t 10))]),.op 3 (.alloc [.nils 7,.i 0,.nils 3]),.s 100001 3 3 11] [[],[0],[],[],[3],[2,4],[1,5],[],[7,6,5,0,1,2,3,4,5,6,7]])
 (.seq (.q [.i 4 0]
 (.up 3 0 300000 (.block 0 (.loop [1,2,3,4] (.seq (.q [.m 12 4,.f 13 1 0,.l 14 13,.n 15 14,.b 16 .lss 12 15]
 (.cond 16 .skip (.exit 0)))
 (.seq (.block 1 (.draw [.f 19 3 0,.l 20 19,.f 21 1 0,.l 22 21,.m 23 4,.x 24 7 22 23,.L 25 7 24,.c 26 131 [25],.op 27 (.bslice 7 [(.t 26)]),.op 28 (.app 7 96 (.t 20) (.t 27)),.f 29 3 0,.s 100002 1 29 28] [[],[0],[],[2],[],[3,4],[5],[6],[7],[1,8,7],[0,1,2,3,4,5,6,7,8,9],[10,9,9,0,1,2,3,4,5,6,7,8,9]]))
 (.reg [.m 17 4,.B 18 .add 17 1,.m 4 18])))))))
 (.norm [2,3] (.q [.L 30 3 3,.s 100003 3 2 30]
 .ret))))⟩
theorem r_s_l12Copy {Te:TE} (c_s_l9Copy:C_s_l9Copy Te):C_s_l12Copy (RF Te x_s_l12Copy):=by
 intro t h
 obtain ⟨⟨hR,hRl⟩,hM⟩:=h
 refine X0 x_s_l12Copy.eq_1 ?_
 refine loop_of (σ:=Nat×List RowV) (fun x=>⟨[(1,.bp 1 0),(2,.bp 2 0),(3,.bp 3 0),(4,.one (.pv (.int .i64 x.1)))],[(1,[.ro 7 (t.Rows.map (RowV.enc false)),.pv (.int .i64 t.Phase),.ro 3 (t.Marks.map MarkV.row)]),(2,[.nils 7,.pv (.int .i64 0),.nils 3]),(3,[.rf 32 0 [] 7 0 x.2.length,.pv (.int .i64 t.Phase),.rf 33 0 [] 3 0 t.Marks.length])],[(0,t.enc false),(32,[slT true 7 (RowV.enc true) x.2]),(33,[slT true 3 MarkV.row t.Marks])]⟩) (fun x=>x.1≤t.Rows.length∧x.2=t.Rows.take x.1) (fun x=>t.Rows.length - x.1) (0,[]) ?_ ⟨Nat.zero_le _,rfl⟩ ?_
 ·simp -implicitDefEqProofs (maxSteps:=1000000) only [go_sem]
  try rfl
 ·rintro ⟨i,l⟩ ⟨hi,he⟩
  simp only at hi he
  have hl:l.length=i:=by rw [he,List.length_take]; omega
  cases q:decide ((i:Int) < (t.Rows.length:Int))
  ·have k0:i=t.Rows.length:=by simp only [decide_eq_false_iff_not] at q; omega
   rw [k0,List.take_length] at he
   subst he
   exact F1 q
  ·have k1:i < t.Rows.length:=by simp only [decide_eq_true_eq] at q; omega
   have ea:=app1Rw l t.Rows[i]
   refine G2 q (List.getElem?_eq_getElem k1) ?_
   refine C1 (c_s_l9Copy t.Rows[i] (hRl _ (List.getElem_mem k1))) ea ?_
   refine ⟨(i + 1,l++[t.Rows[i]]),?_,⟨k1,by rw [he,List.take_succ_eq_append_getElem k1]⟩,by simp only; omega⟩
   rw [IntWalk.i64_in _ (by omega)]
   simp only [List.length_append]
   rfl
def x_i_copyStore:FnX:=⟨14,[.cell 2 (some 9)],
  .q [.v 1 0,.op 2 (.alloc [.nils 1,.nils 2,.i 0,.F,.nils 7,.i 0,.nils 3,.i 0,.i 0])]
 (.seq (.draw [.f 3 1 0,.L 4 4 3,.c 5 98 [4],.f 6 1 4,.L 7 3 6,.c 8 99 [7],.f 9 1 7,.l 10 9,.f 11 1 8,.l 12 11,.op 13 (.build [.nils 1,.nils 2,.i 0,.F,.nils 7,.i 0,.nils 3,.i 0,.i 0] [(0,4,(.t 5)),(4,3,(.t 8)),(7,1,(.t 10)),(8,1,(.t 12))]),.s 100001 9 2 13] [[],[0],[1],[],[3],[4,2],[],[6],[],[8],[2,5,7,9],[10,5,0,1,2,3,4,5,6,7,8,9,10]])
 .ret)⟩
theorem r_i_copyStore {Te:TE} (c_i_copyDev:C_i_copyDev Te) (c_i_copyTab:C_i_copyTab Te):C_i_copyStore (RF Te x_i_copyStore):=by
 intro s h
 refine X0 x_i_copyStore.eq_1 ?_
 refine C0 (c_i_copyDev s.D h.1) ?_
 exact D0 (c_i_copyTab s.T h.2)
def x_s_l13Copy:FnX:=⟨14,[.cell 2 (some 9)],
  .q [.v 1 0,.op 2 (.alloc [.nils 1,.nils 2,.i 0,.F,.nils 7,.i 0,.nils 3,.i 0,.i 0])]
 (.seq (.draw [.f 3 1 0,.L 4 4 3,.c 5 83 [4],.f 6 1 4,.L 7 3 6,.c 8 84 [7],.f 9 1 7,.l 10 9,.f 11 1 8,.l 12 11,.op 13 (.build [.nils 1,.nils 2,.i 0,.F,.nils 7,.i 0,.nils 3,.i 0,.i 0] [(0,4,(.t 5)),(4,3,(.t 8)),(7,1,(.t 10)),(8,1,(.t 12))]),.s 100001 9 2 13] [[],[0],[1],[],[3],[4,2],[],[6],[],[8],[2,5,7,9],[10,5,0,1,2,3,4,5,6,7,8,9,10]])
 .ret)⟩
theorem r_s_l13Copy {Te:TE} (c_s_l10Copy:C_s_l10Copy Te) (c_s_l12Copy:C_s_l12Copy Te):C_s_l13Copy (RF Te x_s_l13Copy):=by
 intro s h
 refine X0 x_s_l13Copy.eq_1 ?_
 refine C0 (c_s_l10Copy s.D h.1) ?_
 exact D0 (c_s_l12Copy s.T h.2)
def x_i_copyNode:FnX:=⟨9,[.cell 2 (some 10)],
  .q [.v 1 0,.op 2 (.alloc [.nils 1,.nils 2,.i 0,.F,.nils 7,.i 0,.nils 3,.i 0,.i 0,.i 0])]
 (.seq (.draw [.f 3 1 0,.L 4 9 3,.c 5 55 [4],.f 6 1 9,.l 7 6,.op 8 (.build [.nils 1,.nils 2,.i 0,.F,.nils 7,.i 0,.nils 3,.i 0,.i 0,.i 0] [(0,9,(.t 5)),(9,1,(.t 7))]),.s 100001 10 2 8] [[],[0],[1],[],[3],[2,4],[5,2,0,1,2,3,4,5]])
 .ret)⟩
theorem r_i_copyNode {Te:TE} (c_i_copyStore:C_i_copyStore Te):C_i_copyNode (RF Te x_i_copyNode):=by
 intro n h
 refine X0 x_i_copyNode.eq_1 ?_
 exact D0 (c_i_copyStore n.S h)
def x_s_l15Copy:FnX:=⟨9,[.cell 2 (some 10)],
  .q [.v 1 0,.op 2 (.alloc [.nils 1,.nils 2,.i 0,.F,.nils 7,.i 0,.nils 3,.i 0,.i 0,.i 0])]
 (.seq (.draw [.f 3 1 0,.L 4 9 3,.c 5 45 [4],.f 6 1 9,.l 7 6,.op 8 (.build [.nils 1,.nils 2,.i 0,.F,.nils 7,.i 0,.nils 3,.i 0,.i 0,.i 0] [(0,9,(.t 5)),(9,1,(.t 7))]),.s 100001 10 2 8] [[],[0],[1],[],[3],[2,4],[5,2,0,1,2,3,4,5]])
 .ret)⟩
theorem r_s_l15Copy {Te:TE} (c_s_l13Copy:C_s_l13Copy Te):C_s_l15Copy (RF Te x_s_l15Copy):=by
 intro n h
 refine X0 x_s_l15Copy.eq_1 ?_
 exact D0 (c_s_l13Copy n.S h)
def x_s_Signs:FnX:=⟨33,[.tmp 2,.tmp 3],
  .q [.op 2 (.mv (.k (.one (.nils 1)))),.F 3]
 (.q [.op 10 (.bslice 1 []),.m 4 10]
 (.q [.m 11 0,.op 12 (.conv .s2b (.t 11)),.m 5 12]
 (.seq (.q [.i 6 0]
 (.block 0 (.loop [4,5,6] (.seq (.q [.m 13 6,.m 14 5,.n 15 14,.b 16 .lss 13 15]
 (.cond 16 .skip (.exit 0)))
 (.block 1 (.q [.m 18 5,.m 19 6,.c 20 244 [18,19],.m 17 20,.e 21 17 0,.e 22 17 1,.e 23 17 2,.m 7 21,.m 8 22,.m 9 23]
 (.seq (.q [.m 24 9,.N 25 24]
 (.c 25 (.q [.op 26 (.bslice 1 []),.m 2 26,.F 3]
 .ret)))
 (.q [.m 27 4,.m 28 7,.op 29 (.bslice 1 [(.t 28)]),.op 30 (.app 1 8 (.t 27) (.t 29)),.m 4 30]
 (.reg [.m 31 8,.m 6 31])))))))))
 (.norm [4] (.q [.m 32 4,.m 2 32,.T 3]
 .ret)))))⟩
theorem r_s_Signs {Te:TE} (c_s_GetSign:C_s_GetSign Te):C_s_Signs (RF Te x_s_Signs):=by
 intro s hs
 have hsz:=sizeL s
 refine X0 x_s_Signs.eq_1 ?_
 generalize eB:s.data.toList=B at hsz
 have eS:signsOf s=if Lib.validD B=true then (signs B,true) else ([],false):=by rw [signsOf,eB]
 refine loop_of (σ:=Nat×List Int) (fun x=>⟨[(4,.one (.rf 34 0 [] 1 0 x.2.length)),(5,.one (.rf 35 0 [] 1 0 B.length)),(6,.one (.pv (.int .i64 x.1)))],[],[(0,[sT s]),(34,[slT true 1 iR x.2]),(35,[slT true 1 uR B])]⟩) (fun x=>x.1≤B.length∧x.2.length≤x.1∧x.2++signs (B.drop x.1)=signs B∧Lib.validD (B.drop x.1)=Lib.validD B) (fun x=>B.length - x.1) (0,[]) ?_ ⟨Nat.zero_le _,Nat.le_refl _,rfl,rfl⟩ ?_
 ·simp -implicitDefEqProofs (maxSteps:=1000000) only [go_sem,ofBytes,byteT,eB]
  try rfl
 ·rintro ⟨p,acc⟩ ⟨hp,hl,ha,hv⟩
  simp only at hp hl ha hv
  cases q:decide ((p:Int) < (B.length:Int))
  ·have hd:B.drop p=[]:=List.drop_eq_nil_of_le (by simp only [decide_eq_false_iff_not] at q; omega)
   rw [hd,signs_nil,List.append_nil] at ha
   rw [hd,Lib.validD_nil] at hv
   rw [← hv,if_pos rfl,← ha] at eS
   have ea:List.take acc.length (List.map iR acc)=List.map iR acc:=take_map iR acc
   exact F3 q eS ea
  ·have k1:p < B.length:=by simp only [decide_eq_true_eq] at q; omega
   have hne:B.drop p≠[]:=by
    intro e
    have:=congrArg List.length e
    simp only [List.length_drop,List.length_nil] at this
    omega
   have hw:=Lib.decodeL_width (B.drop p)
   have hc:=decodeL_bound (B.drop p)
   have hle:=Lib.decodeL_le _ hne
   rw [List.length_drop] at hle
   rw [signs_step hne,List.drop_drop] at ha
   rw [Lib.validD_step _ hne,List.drop_drop] at hv
   have eg:getSign B p=match signAt (B.drop p) with | some d=>((d.1:Int),(p:Int) + (d.2:Nat),true) | none=>(0,0,false):=by
    rw [getSign,if_pos (by omega)]; rfl
   refine G1 q ?_
   refine C0 (c_s_GetSign B p (by omega)) ?_
   by_cases hb:(Lib.decodeL (B.drop p)).1=65533∧(Lib.decodeL (B.drop p)).2=1
   ·rw [signAt,if_pos hb] at eg
    rw [if_pos hb] at hv
    rw [← hv] at eS
    exact F2 eg eS
   ·rw [signAt,if_neg hb] at eg
    rw [if_neg hb] at hv
    generalize Lib.decodeL (B.drop p)=d at hw hc hle ha hv eg
    have ea:List.take acc.length (List.map iR acc)=List.map iR acc:=take_map iR acc
    have eb:List.map iR acc++[[Tr.pv (Value.int .i64 ((d.1:Nat):Int))]]=List.map iR (acc++[((d.1:Nat):Int)]):=by simp
    refine G3 eg ea eb ?_
    refine ⟨(p + d.2,acc++[((d.1:Nat):Int)]),?_,⟨by omega,by simp only [List.length_append,List.length_cons,List.length_nil]; omega,by rw [← ha]; simp,hv⟩,by simp only; omega⟩
    simp only [List.length_append]
    rfl
def x_i_putIn:FnX:=⟨37,[.tmp 6,.tmp 7],
  .q [.op 6 (.mv (.k (.one (.nils 1)))),.F 7]
 (.seq (.q [.m 10 0]
 (.block 0 (.q [.B 12 .eql 10 0,.m 11 12]
 (.cond 11 (.q [.m 13 1,.m 14 2,.c 15 198 [13,14],.m 6 15,.T 7]
 .ret) (.q [.B 17 .eql 10 5,.m 16 17]
 (.c 16 (.q [.m 18 1,.m 19 2,.c 20 252 [18,19],.e 21 20 0,.e 22 20 1,.m 6 21,.m 7 22]
 .ret)))))))
 (.q [.m 24 0,.m 25 2,.c 26 253 [24,25],.m 23 26,.e 27 23 0,.e 28 23 1,.m 8 27,.m 9 28]
 (.seq (.q [.m 29 9,.N 30 29]
 (.c 30 (.q [.m 31 1,.m 6 31,.F 7]
 .ret)))
 (.q [.m 32 1,.m 33 8,.op 34 (.conv (.int .u8) (.t 33)),.op 35 (.bslice 1 [(.t 34)]),.op 36 (.app 1 1 (.t 32) (.t 35)),.m 6 36,.T 7]
 .ret))))⟩
theorem r_i_putIn {Te:TE} (c_i_PutSign:C_i_PutSign Te) (c_i_PutEuc:C_i_PutEuc Te) (c_i_SignByte:C_i_SignByte Te):C_i_putIn (RF Te x_i_putIn):=by
 intro cs b n hb
 refine X0 x_i_putIn.eq_1 ?_
 cases h:(cs==0)
 ·cases h5:(cs==5)
  ·have el:putLeft cs b n = .no ():=by rw [putLeft,h,h5]; rfl
   refine G2 h h5 ?_
   refine C0 (c_i_SignByte _ _) ?_
   cases g:(signByte cs n).2
   ·have e:=putIn_no h h5 g b
    exact F3 g e el
   ·have e:=putIn_yes h h5 g b
    try simp -implicitDefEqProofs (maxSteps:=1000000) only [go_sem,g,mkU_wrap,app1B,take1B,e,el,take_rows]
    repeat refine ⟨sc,?_⟩
    try exact sf
    try rfl
  ·have el:putLeft cs b n=slT true 1 uR b:=by rw [putLeft,h,h5]; rfl
   have e:=putIn_euc h h5 b n
   refine G2 h h5 ?_
   exact D2 (c_i_PutEuc b n hb) e el
 ·have el:putLeft cs b n=slT true 1 uR b:=by rw [putLeft,h]; rfl
  have e:=putIn_utf h b n
  refine G1 h ?_
  exact D2 (c_i_PutSign b n hb) e el
def x_s_l5Put:FnX:=⟨43,[.tmp 6,.tmp 7],
  .q [.op 6 (.mv (.k (.one (.nils 1)))),.F 7]
 (.seq (.q [.m 10 0]
 (.block 0 (.q [.B 12 .eql 10 0,.m 11 12]
 (.cond 11 (.q [.m 13 1,.m 14 2,.c 15 233 [13,14],.m 16 2,.c 17 247 [16],.m 6 15,.m 7 17]
 .ret) (.q [.B 19 .eql 10 5,.m 18 19]
 (.c 18 (.q [.m 20 1,.m 21 2,.c 22 248 [20,21],.e 23 22 0,.e 24 22 1,.m 6 23,.m 7 24]
 .ret)))))))
 (.q [.m 26 0,.m 27 2,.c 28 249 [26,27],.m 25 28,.e 29 25 0,.e 30 25 1,.m 8 29,.m 9 30]
 (.seq (.q [.m 31 9,.N 32 31]
 (.c 32 (.q [.op 33 (.bslice 1 []),.m 34 1,.op 35 (.app 1 1 (.t 33) (.t 34)),.m 6 35,.F 7]
 .ret)))
 (.q [.op 36 (.bslice 1 []),.m 37 1,.op 38 (.app 1 1 (.t 36) (.t 37)),.m 39 8,.op 40 (.conv (.int .u8) (.t 39)),.op 41 (.bslice 1 [(.t 40)]),.op 42 (.app 1 1 (.t 38) (.t 41)),.m 6 42,.T 7]
 .ret))))⟩
theorem r_s_l5Put {Te:TE} (c_s_PutSign:C_s_PutSign Te) (c_s_SignOk:C_s_SignOk Te) (c_s_PutEuc:C_s_PutEuc Te) (c_s_SignByte:C_s_SignByte Te):C_s_l5Put (RF Te x_s_l5Put):=by
 intro cs b n hb hn
 refine X0 x_s_l5Put.eq_1 ?_
 cases h:(cs==0)
 ·cases h5:(cs==5)
  ·refine G2 h h5 ?_
   refine C0 (c_s_SignByte _ _) ?_
   cases g:(signByte cs n).2
   ·have e:=putIn_no h h5 g b
    exact F2 g e
   ·have e:=putIn_yes h h5 g b
    try simp -implicitDefEqProofs (maxSteps:=1000000) only [go_sem,g,mkU_wrap,app1B,take1B,e,take_rows]
    repeat refine ⟨sc,?_⟩
    try exact sf
    try rfl
  ·have e:=putIn_euc h h5 b n
   refine G2 h h5 ?_
   exact D1 (c_s_PutEuc b n hb) e
 ·have e:=putIn_utf h b n
  refine G1 h ?_
  refine C0 (c_s_PutSign b n hb) ?_
  exact D2 (c_s_SignOk n) hn e
def x_i_ByteSign:FnX:=⟨35,[.tmp 4,.tmp 5],
  .q [.i 4 0,.F 5]
 (.seq (.q [.m 7 0,.op 8 (.call 57 [0,0,0] [(.t 7),(.i 1),(.i 4)]),.N 9 8,.m 10 9,.z 10 (.m 11 1),.z 10 (.op 12 (.call 57 [0,0,0] [(.t 11),(.i 0),(.i 255)])),.z 10 (.N 13 12),.r 14 10 13]
 (.c 14 (.q [.i 4 0,.F 5]
 .ret)))
 (.seq (.q [.m 15 1,.B 16 .leq 15 127]
 (.c 16 (.q [.m 17 1,.m 4 17,.T 5]
 .ret)))
 (.q [.m 18 1,.m 6 18]
 (.seq (.q [.m 19 0]
 (.block 0 (.q [.B 21 .eql 19 2,.m 20 21]
 (.cond 20 (.reg [.m 22 1,.c 23 238 [22],.m 6 23]) (.q [.B 25 .eql 19 3,.m 24 25]
 (.cond 24 (.reg [.m 26 1,.c 27 239 [26],.m 6 27]) (.q [.B 29 .eql 19 4,.m 28 29]
 (.c 28 (.reg [.m 30 1,.c 31 240 [30],.m 6 31])))))))))
 (.q [.m 32 6,.m 33 6,.B 34 .neq 33 0,.m 4 32,.m 5 34]
 .ret)))))⟩
theorem r_i_ByteSign {Te:TE} (c_i_within:C_i_within Te) (c_i_nineSign:C_i_nineSign Te) (c_i_koiSign:C_i_koiSign Te) (c_i_winSign:C_i_winSign Te):C_i_ByteSign (RF Te x_i_ByteSign):=by
 intro cs b
 refine X0 x_i_ByteSign.eq_1 ?_
 refine C0 (c_i_within _ _ _) ?_
 cases g1:win cs 1 4
 ·try simp -implicitDefEqProofs (maxSteps:=1000000) only [go_sem,byteSign,g1]
  repeat refine ⟨sc,?_⟩
  try exact sf
 ·refine G0 ?_
  refine C0 (c_i_within _ _ _) ?_
  cases g2:win b 0 255
  ·try simp -implicitDefEqProofs (maxSteps:=1000000) only [go_sem,byteSign,g1,g2]
   repeat refine ⟨sc,?_⟩
   try exact sf
  ·cases g3:decide (b≤127)
   ·have hb:128≤b∧b≤255:=by simp only [win,Bool.and_eq_true,decide_eq_true_eq] at g2; simp only [decide_eq_false_iff_not] at g3; omega
    refine G1 g3 ?_
    cases g4:(cs==2)
    ·cases g5:(cs==3)
     ·cases g6:(cs==4)
      ·try simp -implicitDefEqProofs (maxSteps:=1000000) only [go_sem,g4,g5,g6,byteSign,signOf,g1,g2,g3]
       repeat refine ⟨sc,?_⟩
       try exact sf
      ·refine G3 g4 g5 g6 ?_
       refine .of (c_i_winSign _ hb) ?_
       try simp -implicitDefEqProofs (maxSteps:=1000000) only [go_sem,byteSign,signOf,g1,g2,g3,g4,g5,g6]
       repeat refine ⟨sc,?_⟩
       try exact sf
     ·refine G2 g4 g5 ?_
      refine .of (c_i_koiSign _ hb) ?_
      try simp -implicitDefEqProofs (maxSteps:=1000000) only [go_sem,byteSign,signOf,g1,g2,g3,g4,g5]
      repeat refine ⟨sc,?_⟩
      try exact sf
    ·refine G1 g4 ?_
     refine .of (c_i_nineSign _) ?_
     try simp -implicitDefEqProofs (maxSteps:=1000000) only [go_sem,byteSign,signOf,g1,g2,g3,g4]
     repeat refine ⟨sc,?_⟩
     try exact sf
   ·try simp -implicitDefEqProofs (maxSteps:=1000000) only [go_sem,g3,byteSign,g1,g2]
    repeat refine ⟨sc,?_⟩
    try exact sf
def x_s_ByteSign:FnX:=⟨34,[.tmp 4,.tmp 5],
  .q [.i 4 0,.F 5]
 (.seq (.q [.m 7 0,.op 8 (.call 42 [0,0,0] [(.t 7),(.i 1),(.i 4)]),.N 9 8,.m 10 9,.z 10 (.m 11 1),.z 10 (.op 12 (.call 42 [0,0,0] [(.t 11),(.i 0),(.i 255)])),.z 10 (.N 13 12),.r 14 10 13]
 (.c 14 (.q [.i 4 0,.F 5]
 .ret)))
 (.q [.m 15 1,.m 6 15]
 (.seq (.q [.m 16 1,.B 17 .geq 16 128]
 (.c 17 (.q [.m 18 0]
 (.block 0 (.q [.B 20 .eql 18 2,.m 19 20]
 (.cond 19 (.reg [.m 21 1,.c 22 256 [21],.m 6 22]) (.q [.B 24 .eql 18 3,.m 23 24]
 (.cond 23 (.reg [.m 25 1,.c 26 257 [25],.m 6 26]) (.q [.B 28 .eql 18 4,.m 27 28]
 (.c 27 (.reg [.m 29 1,.c 30 258 [29],.m 6 30])))))))))))
 (.seq (.q [.m 31 6,.B 32 .lss 31 0]
 (.c 32 (.q [.i 4 0,.F 5]
 .ret)))
 (.q [.m 33 6,.m 4 33,.T 5]
 .ret)))))⟩
theorem r_s_ByteSign {Te:TE} (c_s_l1In:C_s_l1In Te) (c_s_l3Nine:C_s_l3Nine Te) (c_s_l3Koi:C_s_l3Koi Te) (c_s_l3Win:C_s_l3Win Te):C_s_ByteSign (RF Te x_s_ByteSign):=by
 intro cs b
 refine X0 x_s_ByteSign.eq_1 ?_
 refine C0 (c_s_l1In _ _ _) ?_
 cases g1:win cs 1 4
 ·try simp -implicitDefEqProofs (maxSteps:=1000000) only [go_sem,byteSign,g1]
  repeat refine ⟨sc,?_⟩
  try exact sf
 ·refine G0 ?_
  refine C0 (c_s_l1In _ _ _) ?_
  cases g2:win b 0 255
  ·try simp -implicitDefEqProofs (maxSteps:=1000000) only [go_sem,byteSign,g1,g2]
   repeat refine ⟨sc,?_⟩
   try exact sf
  ·have h2:0≤b∧b≤255:=by simpa only [win,Bool.and_eq_true,decide_eq_true_eq] using g2
   cases g3:decide (b≥128)
   ·have g3':decide (b≤127)=true:=by simp only [decide_eq_false_iff_not] at g3; exact decide_eq_true (by omega)
    have g7:decide (b < 0)=false:=decide_eq_false (by omega)
    try simp -implicitDefEqProofs (maxSteps:=1000000) only [go_sem,g3,g7,byteSign,g1,g2,g3']
    repeat refine ⟨sc,?_⟩
    try exact sf
   ·have hb:128≤b∧b≤255:=by simp only [decide_eq_true_eq] at g3; omega
    have g3':decide (b≤127)=false:=decide_eq_false (by omega)
    refine G1 g3 ?_
    cases g4:(cs==2)
    ·cases g5:(cs==3)
     ·cases g6:(cs==4)
      ·have g7:decide (b < 0)=false:=decide_eq_false (by omega)
       have g8:(b != 0)=true:=by simp; omega
       try simp -implicitDefEqProofs (maxSteps:=1000000) only [go_sem,g4,g5,g6,g7,g8,byteSign,signOf,g1,g2,g3']
       repeat refine ⟨sc,?_⟩
       try exact sf
      ·refine G3 g4 g5 g6 ?_
       refine C0 (c_s_l3Win _ hb) ?_
       obtain ⟨w1,w2⟩:=win_rel hb
       cases g9:(winB winL b==0)
       ·have g7:decide (winB winL b < 0)=false:=decide_eq_false (by omega)
        have g8:(winB winL b != 0)=true:=by simpa using g9
        simp only [g9,cond_false] at w1
        try simp -implicitDefEqProofs (maxSteps:=1000000) only [go_sem,w1,g7,g8,byteSign,signOf,g1,g2,g3',g4,g5,g6]
        repeat refine ⟨sc,?_⟩
        try exact sf
       ·have g8:winB winL b=0:=by simpa using g9
        simp only [g9,cond_true] at w1
        try simp -implicitDefEqProofs (maxSteps:=1000000) only [go_sem,w1,g8,byteSign,signOf,g1,g2,g3',g4,g5,g6]
        repeat refine ⟨sc,?_⟩
        try exact sf
        try rfl
     ·refine G2 g4 g5 ?_
      refine C0 (c_s_l3Koi _ hb) ?_
      obtain ⟨w1,w2⟩:=koi_rel hb
      cases g9:(koi 0 b==0)
      ·have g7:decide (koi 0 b < 0)=false:=decide_eq_false (by omega)
       have g8:(koi 0 b != 0)=true:=by simpa using g9
       simp only [g9,cond_false] at w1
       try simp -implicitDefEqProofs (maxSteps:=1000000) only [go_sem,w1,g7,g8,byteSign,signOf,g1,g2,g3',g4,g5]
       repeat refine ⟨sc,?_⟩
       try exact sf
      ·have g8:koi 0 b=0:=by simpa using g9
       simp only [g9,cond_true] at w1
       try simp -implicitDefEqProofs (maxSteps:=1000000) only [go_sem,w1,g8,byteSign,signOf,g1,g2,g3',g4,g5]
       repeat refine ⟨sc,?_⟩
       try exact sf
       try rfl
    ·refine G1 g4 ?_
     refine C0 (c_s_l3Nine _) ?_
     have w1:=nine_rel hb
     have g7:decide (nine b < 0)=false:=decide_eq_false (by omega)
     have g8:(nine b != 0)=true:=by simp; omega
     try simp -implicitDefEqProofs (maxSteps:=1000000) only [go_sem,g7,g8,byteSign,signOf,g1,g2,g3',g4]
     repeat refine ⟨sc,?_⟩
     try exact sf
def x_i_PairSign:FnX:=⟨26,[.tmp 4,.tmp 5],
  .q [.i 4 0,.F 5]
 (.seq (.block 0 (.q [.m 7 0,.B 8 .eql 7 164,.m 9 8,.y 9 (.m 10 1),.y 9 (.op 11 (.call 57 [0,0,0] [(.t 10),(.i 161),(.i 243)])),.a 12 9 11,.m 6 12]
 (.cond 6 (.q [.m 13 1,.op 14 (.bin .add (.i 12353) (.t 13)),.B 15 .sub 14 161,.m 4 15,.T 5]
 .ret) (.q [.m 17 0,.B 18 .eql 17 165,.m 19 18,.y 19 (.m 20 1),.y 19 (.op 21 (.call 57 [0,0,0] [(.t 20),(.i 161),(.i 246)])),.a 22 19 21,.m 16 22]
 (.c 16 (.q [.m 23 1,.op 24 (.bin .add (.i 12449) (.t 23)),.B 25 .sub 24 161,.m 4 25,.T 5]
 .ret))))))
 (.q [.i 4 0,.F 5]
 .ret))⟩
theorem r_i_PairSign {Te:TE} (c_i_within:C_i_within Te):C_i_PairSign (RF Te x_i_PairSign):=by
 intro hi lo h
 refine run0 ?_
 have w1:IntKind.i64.wrap (12353 + lo)=12353 + lo:=IntWalk.i64_in _ (by omega)
 have w2:IntKind.i64.wrap (12353 + lo - 161)=12353 + lo - 161:=IntWalk.i64_in _ (by omega)
 have w3:IntKind.i64.wrap (12449 + lo)=12449 + lo:=IntWalk.i64_in _ (by omega)
 have w4:IntKind.i64.wrap (12449 + lo - 161)=12449 + lo - 161:=IntWalk.i64_in _ (by omega)
 have no:∀ a b c d:Bool,(a&&b)=false→(c&&d)=false→True:=fun _ _ _ _ _ _=>trivial
 cases g1:(hi==164)
 ·cases g3:(hi==165)
  ·have e:pairSign hi lo=(0,false):=by rw [pairSign,g1,g3]; rfl
   simp -implicitDefEqProofs (maxSteps:=1000000) only [x_i_PairSign,go_sem,g1,g3,e]
   repeat refine ⟨sc,?_⟩
   try exact sf
  ·simp -implicitDefEqProofs (maxSteps:=1000000) only [x_i_PairSign,go_sem,g1,g3]
   repeat refine ⟨sc,?_⟩
   try exact sf
   refine C0 (c_i_within _ _ _) ?_
   cases g4:win lo 161 246
   ·have e:pairSign hi lo=(0,false):=by rw [pairSign,g1,g3,g4]; rfl
    exact F1 e
   ·have e:pairSign hi lo=(12449 + lo - 161,true):=by rw [pairSign,g1,g3,g4]; rfl
    exact F3 e w3 w4
 ·have g3:(hi==165)=false:=by have:=eq_of_beq g1; subst this; rfl
  simp -implicitDefEqProofs (maxSteps:=1000000) only [x_i_PairSign,go_sem,g1]
  repeat refine ⟨sc,?_⟩
  try exact sf
  refine C0 (c_i_within _ _ _) ?_
  cases g4:win lo 161 243
  ·have e:pairSign hi lo=(0,false):=by rw [pairSign,g1,g3,g4]; rfl
   exact F2 g3 e
  ·have e:pairSign hi lo=(12353 + lo - 161,true):=by rw [pairSign,g1,g4]; rfl
   exact F3 e w1 w2
def x_s_PairSign:FnX:=⟨26,[.tmp 4,.tmp 5],
  .q [.i 4 0,.F 5]
 (.seq (.block 0 (.q [.m 7 0,.B 8 .eql 7 164,.m 9 8,.y 9 (.m 10 1),.y 9 (.op 11 (.call 42 [0,0,0] [(.t 10),(.i 161),(.i 243)])),.a 12 9 11,.m 6 12]
 (.cond 6 (.q [.m 13 1,.op 14 (.bin .add (.i 12353) (.t 13)),.B 15 .sub 14 161,.m 4 15,.T 5]
 .ret) (.q [.m 17 0,.B 18 .eql 17 165,.m 19 18,.y 19 (.m 20 1),.y 19 (.op 21 (.call 42 [0,0,0] [(.t 20),(.i 161),(.i 246)])),.a 22 19 21,.m 16 22]
 (.c 16 (.q [.m 23 1,.op 24 (.bin .add (.i 12449) (.t 23)),.B 25 .sub 24 161,.m 4 25,.T 5]
 .ret))))))
 (.q [.i 4 0,.F 5]
 .ret))⟩
theorem r_s_PairSign {Te:TE} (c_s_l1In:C_s_l1In Te):C_s_PairSign (RF Te x_s_PairSign):=by
 intro hi lo h
 refine run0 ?_
 have w1:IntKind.i64.wrap (12353 + lo)=12353 + lo:=IntWalk.i64_in _ (by omega)
 have w2:IntKind.i64.wrap (12353 + lo - 161)=12353 + lo - 161:=IntWalk.i64_in _ (by omega)
 have w3:IntKind.i64.wrap (12449 + lo)=12449 + lo:=IntWalk.i64_in _ (by omega)
 have w4:IntKind.i64.wrap (12449 + lo - 161)=12449 + lo - 161:=IntWalk.i64_in _ (by omega)
 have no:∀ a b c d:Bool,(a&&b)=false→(c&&d)=false→True:=fun _ _ _ _ _ _=>trivial
 cases g1:(hi==164)
 ·cases g3:(hi==165)
  ·have e:pairSign hi lo=(0,false):=by rw [pairSign,g1,g3]; rfl
   simp -implicitDefEqProofs (maxSteps:=1000000) only [x_s_PairSign,go_sem,g1,g3,e]
   repeat refine ⟨sc,?_⟩
   try exact sf
  ·simp -implicitDefEqProofs (maxSteps:=1000000) only [x_s_PairSign,go_sem,g1,g3]
   repeat refine ⟨sc,?_⟩
   try exact sf
   refine C0 (c_s_l1In _ _ _) ?_
   cases g4:win lo 161 246
   ·have e:pairSign hi lo=(0,false):=by rw [pairSign,g1,g3,g4]; rfl
    exact F1 e
   ·have e:pairSign hi lo=(12449 + lo - 161,true):=by rw [pairSign,g1,g3,g4]; rfl
    exact F3 e w3 w4
 ·have g3:(hi==165)=false:=by have:=eq_of_beq g1; subst this; rfl
  simp -implicitDefEqProofs (maxSteps:=1000000) only [x_s_PairSign,go_sem,g1]
  repeat refine ⟨sc,?_⟩
  try exact sf
  refine C0 (c_s_l1In _ _ _) ?_
  cases g4:win lo 161 243
  ·have e:pairSign hi lo=(0,false):=by rw [pairSign,g1,g3,g4]; rfl
   exact F2 g3 e
  ·have e:pairSign hi lo=(12353 + lo - 161,true):=by rw [pairSign,g1,g4]; rfl
   exact F3 e w1 w2
def x_l_heldActS_5:XCode:=.seq (.q [.m 59 0,.m 60 5,.x 61 6 59 60,.f 62 61 5,.l 63 62,.m 64 1,.b 65 .neq 63 64]
 (.c 65 (.q [.i 4 (-1)]
 .ret)))
 (.reg [.m 66 1,.B 67 .add 66 1,.m 1 67])
def x_l_heldActS_4:XCode:=.seq (.seq (.draw [.m 49 0,.m 50 5,.x 51 6 49 50,.f 52 51 4,.l 53 52,.m 54 1,.c 55 38 [54],.b 56 .neq 53 55] [[],[],[0,1],[2],[3],[],[5],[4,6]])
 (.c 56 (.q [.i 4 (-1)]
 .ret)))
 (.q [.m 57 1,.B 58 .add 57 1,.m 1 58]
 x_l_heldActS_5)
def x_l_heldActS_3:XCode:=.seq (.seq (.draw [.m 39 0,.m 40 5,.x 41 6 39 40,.f 42 41 3,.l 43 42,.m 44 1,.c 45 38 [44],.b 46 .neq 43 45] [[],[],[0,1],[2],[3],[],[5],[4,6]])
 (.c 46 (.q [.i 4 (-1)]
 .ret)))
 (.q [.m 47 1,.B 48 .add 47 1,.m 1 48]
 x_l_heldActS_4)
def x_l_heldActS_2:XCode:=.seq (.q [.m 30 0,.m 31 5,.x 32 6 30 31,.f 33 32 2,.l 34 33,.m 35 1,.b 36 .neq 34 35]
 (.c 36 (.q [.i 4 (-1)]
 .ret)))
 (.q [.m 37 1,.B 38 .add 37 1,.m 1 38]
 x_l_heldActS_3)
def x_l_heldActS_1:XCode:=.seq (.q [.m 21 0,.m 22 5,.x 23 6 21 22,.f 24 23 1,.l 25 24,.m 26 1,.b 27 .neq 25 26]
 (.c 27 (.q [.i 4 (-1)]
 .ret)))
 (.q [.m 28 1,.B 29 .add 28 1,.m 1 29]
 x_l_heldActS_2)
def x_l_heldActS:FnX:=⟨69,[.tmp 4],
  .q [.i 4 0]
 (.seq (.q [.i 5 0]
 (.block 0 (.loop [0,1,5] (.seq (.q [.m 6 5,.m 7 0,.n 8 7,.b 9 .lss 6 8]
 (.cond 9 .skip (.exit 0)))
 (.seq (.block 1 (.seq (.q [.m 12 0,.m 13 5,.x 14 6 12 13,.f 15 14 0,.l 16 15,.m 17 1,.b 18 .neq 16 17]
 (.c 18 (.q [.i 4 (-1)]
 .ret)))
 (.q [.m 19 1,.B 20 .add 19 1,.m 1 20]
 x_l_heldActS_1)))
 (.reg [.m 10 5,.B 11 .add 10 1,.m 5 11]))))))
 (.norm [1] (.q [.m 68 1,.m 4 68]
 .ret)))⟩
theorem r_l_heldActS {Te:TE} (c_l_markText:C_l_markText Te):C_l_heldActS (RF Te x_l_heldActS):=by
 intro n k hl hk
 refine run0 ?_
 simp -implicitDefEqProofs (maxSteps:=1000000) (disch:=omega) only [x_l_heldActS,go_sem,IntWalk.i64_in]
 refine loop_of (σ:=Nat) (fun i=>⟨[(0,.one (.ro 6 ((marks 6 mkAct n k).map ActV.row))),(1,.one (.pv (.int .i64 (k + (6 * i:Nat))))),(5,.one (.pv (.int .i64 i)))],[],[(0,[slT false 6 ActV.row (marks 6 mkAct n k)]),(1,[iT k])]⟩) (fun i=>i≤n) (fun i=>n - i) 0 ?_ (Nat.zero_le _) ?_
 ·simp -implicitDefEqProofs (maxSteps:=1000000) only [go_sem]; simp
 ·intro i hi
  simp -implicitDefEqProofs (maxSteps:=1000000) only [go_sem,marks_length]
  refine ⟨fun h=>?_,fun h=>?_⟩
  ·have hi':i < n:=by simp only [decide_eq_true_eq] at h; omega
   try simp -implicitDefEqProofs (maxSteps:=1000000) (disch:=omega) only [go_sem,marks_get 6 mkAct k hi',IntWalk.i64_in,mkAct,bne_self_eq_false,decide_true,Bool.not_true]
   simp -implicitDefEqProofs (maxSteps:=1000000) (disch:=omega) only [x_l_heldActS_1,go_sem,marks_get 6 mkAct k hi',IntWalk.i64_in,mkAct,bne_self_eq_false,decide_true,Bool.not_true]
   simp -implicitDefEqProofs (maxSteps:=1000000) (disch:=omega) only [x_l_heldActS_2,go_sem,marks_get 6 mkAct k hi',IntWalk.i64_in,mkAct,bne_self_eq_false,decide_true,Bool.not_true]
   simp -implicitDefEqProofs (maxSteps:=1000000) (disch:=omega) only [x_l_heldActS_3,go_sem,marks_get 6 mkAct k hi',IntWalk.i64_in,mkAct,bne_self_eq_false,decide_true,Bool.not_true]
   refine .of (c_l_markText _ (by omega)) ?_
   simp -implicitDefEqProofs (maxSteps:=1000000) (disch:=omega) only [go_sem,marks_get 6 mkAct k hi',IntWalk.i64_in,mkAct,bne_self_eq_false,decide_true,Bool.not_true]
   repeat (refine ⟨by decide,?_⟩)
   simp -implicitDefEqProofs (maxSteps:=1000000) (disch:=omega) only [x_l_heldActS_4,go_sem,marks_get 6 mkAct k hi',IntWalk.i64_in,mkAct,bne_self_eq_false,decide_true,Bool.not_true]
   refine .of (c_l_markText _ (by omega)) ?_
   simp -implicitDefEqProofs (maxSteps:=1000000) (disch:=omega) only [go_sem,marks_get 6 mkAct k hi',IntWalk.i64_in,mkAct,bne_self_eq_false,decide_true,Bool.not_true]
   repeat (refine ⟨by decide,?_⟩)
   simp -implicitDefEqProofs (maxSteps:=1000000) (disch:=omega) only [x_l_heldActS_5,go_sem,marks_get 6 mkAct k hi',IntWalk.i64_in,mkAct,bne_self_eq_false,decide_true,Bool.not_true]
   refine ⟨i + 1,?_,hi',by omega⟩
   rw [show k + ((6 * (i + 1):Nat):Int)=k + (6 * i:Nat) + 1 + 1 + 1 + 1 + 1 + 1 by omega]
   rfl
  ·have:i=n:=by simp only [decide_eq_false_iff_not] at h; omega
   subst this
   simp -implicitDefEqProofs (maxSteps:=1000000) only [go_sem]
def x_s_NameOk:FnX:=⟨27,[.tmp 2],
  .q [.F 2]
 (.seq (.q [.i 3 0]
 (.block 0 (.loop [0,3] (.seq (.q [.m 4 3,.m 5 0,.op 6 (.slen (.t 5)),.b 7 .lss 4 6]
 (.cond 7 .skip (.exit 0)))
 (.seq (.block 1 (.q [.m 10 0,.m 11 3,.op 12 (.sidx (.t 10) (.t 11)),.op 13 (.conv (.int .i64) (.t 12)),.op 14 (.call 42 [0,0,0] [(.t 13),(.i 97),(.i 122)]),.N 15 14,.m 16 15,.y 16 (.m 17 0),.y 16 (.m 18 3),.y 16 (.op 19 (.sidx (.t 17) (.t 18))),.y 16 (.op 20 (.conv (.int .i64) (.t 19))),.y 16 (.op 21 (.call 42 [0,0,0] [(.t 20),(.i 48),(.i 57)])),.y 16 (.N 22 21),.a 23 16 22]
 (.c 23 (.q [.F 2]
 .ret))))
 (.reg [.m 8 3,.B 9 .add 8 1,.m 3 9]))))))
 (.norm [0] (.q [.m 24 0,.op 25 (.slen (.t 24)),.op 26 (.call 42 [0,0,0] [(.t 25),(.i 1),(.i 6)]),.m 2 26]
 .ret)))⟩
theorem r_s_NameOk {Te:TE} (c_s_l1In:C_s_l1In Te):C_s_NameOk (RF Te x_s_NameOk):=by
 intro s h
 refine run0 ?_
 have hsz:s.data.toList.length=s.size:=by rw [Array.length_toList]; rfl
 simp -implicitDefEqProofs (maxSteps:=1000000) only [x_s_NameOk,go_sem,nameOk]
 repeat refine ⟨sc,?_⟩
 try exact sf
 refine loop_of (σ:=Nat) (fun i=>⟨[(0,.one (.pv (.string s))),(3,.one (.pv (.int .i64 i)))],[],[(0,[sT s])]⟩) (fun i=>i≤s.size∧(s.data.toList.take i).all nameCh=true) (fun i=>s.size - i) 0 ?_ ⟨Nat.zero_le _,rfl⟩ ?_
 ·simp -implicitDefEqProofs (maxSteps:=1000000) only [go_sem]; rfl
 ·rintro i ⟨hi,hp⟩
  cases q:decide ((i:Int) < (s.size:Int))
  ·have e:=all_end (p:=nameCh) (show s.data.toList.length≤i by simp only [decide_eq_false_iff_not] at q; omega) hp
   refine G1 q ?_
   exact D1 (c_s_l1In _ _ _) e
  ·have hi':i < s.size:=by simp only [decide_eq_true_eq] at q; omega
   have hi2:i < s.data.toList.length:=by omega
   have q1:decide (i < s.size)=true:=decide_eq_true hi'
   have eg:s.data.toList.getD i 0=s.data.toList[i]:=by rw [List.getD_eq_getElem?_getD,List.getElem?_eq_getElem hi2]; rfl
   have hb:=s.data.toList[i].toNat_lt
   have w1:IntKind.i64.wrap ((s.data.toList[i].toNat:Nat):Int)=(s.data.toList[i].toNat:Nat):=IntWalk.i64_in _ (by omega)
   refine G4 q q1 eg w1 ?_
   refine C0 (c_s_l1In _ _ _) ?_
   cases g1:win ((s.data.toList[i].toNat:Nat):Int) 97 122
   ·refine G3 q1 eg w1 ?_
    refine C0 (c_s_l1In _ _ _) ?_
    cases g2:win ((s.data.toList[i].toNat:Nat):Int) 48 57
    ·have e:=all_not (p:=nameCh) hi2 (by simp only [nameCh,g1,g2,Bool.or_false])
     exact F1 e
    ·refine G0 ?_
     refine ⟨i + 1,by rw [IntWalk.i64_in _ (by omega)]; rfl,⟨hi',all_step (p:=nameCh) hi2 hp (by simp only [nameCh,g1,g2,Bool.or_true])⟩,by omega⟩
   ·refine G0 ?_
    refine ⟨i + 1,by rw [IntWalk.i64_in _ (by omega)]; rfl,⟨hi',all_step (p:=nameCh) hi2 hp (by simp only [nameCh,g1,Bool.true_or])⟩,by omega⟩
end Go.X

