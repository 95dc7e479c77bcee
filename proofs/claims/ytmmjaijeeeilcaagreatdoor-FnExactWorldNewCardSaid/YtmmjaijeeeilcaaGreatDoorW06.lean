/- Texts: CVf_2 CEc_3 CVj CVc CEb_7 CVk_2 CVl CK CVo_2. -/
import Derived.Test.YtmmjaijeeeilcaaGreatDoorW04
set_option linter.unusedVariables false
set_option linter.unusedSimpArgs false
namespace Go.X
set_option maxRecDepth 100000
set_option maxHeartbeats 8000000
def x_i_TabOk:FnX:=⟨85,[.tmp 2],
  .q [.v 1 0,.F 2]
 (.seq (.q [.f 7 1 0,.l 8 7,.n 9 8,.i 10 0]
 (.block 0 (.loop [1,8,9,10] (.q [.b 11 .lss 10 9]
 (.seq (.cond 11 .skip (.exit 0))
 (.seq (.block 1 (.q [.m 12 10,.x 13 7 8 10,.L 14 7 13,.op 4 (.alloc [.e,.i 0,.nils 1,.i 0,.nils 1,.i 0,.F]),.m 3 12,.s 100001 7 4 14]
 (.seq (.draw [.L 15 7 4,.c 16 253 [15],.N 17 16,.m 18 17,.z 18 (.m 19 3),.z 18 (.B 20 .gtr 19 0),.z 18 (.m 21 20),.y 21 (.f 22 1 0),.y 21 (.l 23 22),.y 21 (.m 24 3),.y 21 (.B 25 .sub 24 1),.y 21 (.x 26 7 23 25),.y 21 (.f 27 26 0),.y 21 (.l 28 27),.y 21 (.f 29 4 0),.y 21 (.l 30 29),.y 21 (.b 31 .geq 28 30),.z 18 (.a 32 21 31),.r 33 18 32] [[],[0],[1],[2,1],[3],[4,3],[5,3,3],[6],[7,6],[6],[9,6],[8,10,6],[11,6],[12,6],[6],[14,6],[13,15,6],[6,16,3],[3,17]])
 (.c 33 (.q [.F 2]
 .ret)))))
 (.reg [.B 34 .add 10 1,.m 10 34])))))))
 (.norm [1] (.seq (.q [.f 35 1 2,.l 36 35,.n 37 36,.i 38 0]
 (.block 2 (.loop [1,36,37,38] (.q [.b 39 .lss 38 37]
 (.seq (.cond 39 .skip (.exit 2))
 (.seq (.block 3 (.q [.m 40 38,.x 41 3 36 38,.L 42 3 41,.op 6 (.alloc [.i 0,.i 0,.i 0]),.m 5 40,.s 100002 3 6 42]
 (.seq (.draw [.f 43 6 0,.l 44 43,.op 45 (.call 90 [0,0,0] [(.t 44),(.i 1),(.i 9)]),.N 46 45,.m 47 46,.z 47 (.f 48 6 1),.z 47 (.l 49 48),.z 47 (.c 50 247 [49]),.z 47 (.N 51 50),.r 52 47 51,.m 53 52,.z 53 (.f 54 6 2),.z 53 (.l 55 54),.z 53 (.op 56 (.call 90 [0,0,0] [(.t 55),(.i 0),(.i 6)])),.z 53 (.N 57 56),.r 58 53 57,.m 59 58,.z 59 (.m 60 5),.z 59 (.B 61 .gtr 60 0),.z 59 (.m 62 61),.y 62 (.f 63 1 2),.y 62 (.l 64 63),.y 62 (.m 65 5),.y 62 (.B 66 .sub 65 1),.y 62 (.x 67 3 64 66),.y 62 (.f 68 67 0),.y 62 (.l 69 68),.y 62 (.f 70 6 0),.y 62 (.l 71 70),.y 62 (.b 72 .geq 69 71),.z 59 (.a 73 62 72),.r 74 59 73] [[],[0],[1],[2],[3,2],[4],[5,4],[6,4,4],[7,4],[4,8],[9,7],[10],[11,10],[12,10,10],[13,10],[10,14],[15,13],[16],[17,16],[18,16,16],[19],[20,19],[19],[22,19],[21,23,19],[24,19],[25,19],[19],[27,19],[26,28,19],[19,29,16],[16,30]])
 (.c 74 (.q [.F 2]
 .ret)))))
 (.reg [.B 75 .add 38 1,.m 38 75])))))))
 (.norm [1] (.q [.f 76 1 0,.l 77 76,.n 78 77,.B 79 .leq 78 8,.m 80 79,.y 80 (.f 81 1 1),.y 80 (.l 82 81),.y 80 (.op 83 (.call 90 [0,0,0] [(.t 82),(.i 0),(.i 7)])),.a 84 80 83,.m 2 84]
 .ret)))))⟩
theorem r_i_TabOk {Te:TE} (c_i_RowOk:C_i_RowOk Te) (c_i_within:C_i_within Te) (c_i_isWord:C_i_isWord Te):C_i_TabOk (RF Te x_i_TabOk):=by
 intro t h
 obtain ⟨⟨hl,hR⟩,hM⟩:=h
 refine X0 x_i_TabOk.eq_1 ?_
 refine loop_of (σ:=Nat) (fun i=>⟨[(1,.bp 1 0),(8,.one (.ro 7 (t.Rows.map (RowV.enc false)))),(9,.one (.pv (.int .i64 t.Rows.length))),(10,.one (.pv (.int .i64 i)))],[(1,[.ro 7 (t.Rows.map (RowV.enc false)),.pv (.int .i64 t.Phase),.ro 3 (t.Marks.map MarkV.row)])],[(0,t.enc false)]⟩) (fun i=>i≤t.Rows.length∧∀ j,j < i→rowGood t.Rows j=true) (fun i=>t.Rows.length - i) 0 ?_ ⟨Nat.zero_le _,fun j hj=>absurd hj (Nat.not_lt_zero _)⟩ ?_
 ·simp -implicitDefEqProofs (maxSteps:=1000000) only [go_sem]
  try rfl
 ·rintro i ⟨hi,hp⟩
  cases q:decide ((i:Int) < (t.Rows.length:Int))
  ·have eR:=rng_end (f:=rowGood t.Rows) (show t.Rows.length≤i by simp only [decide_eq_false_iff_not] at q; omega) hp
   refine G1 q ?_
   refine loop_of (σ:=Nat) (fun i=>⟨[(1,.bp 1 0),(36,.one (.ro 3 (t.Marks.map MarkV.row))),(37,.one (.pv (.int .i64 t.Marks.length))),(38,.one (.pv (.int .i64 i)))],[(1,[.ro 7 (t.Rows.map (RowV.enc false)),.pv (.int .i64 t.Phase),.ro 3 (t.Marks.map MarkV.row)])],[(0,t.enc false)]⟩) (fun i=>i≤t.Marks.length∧∀ j,j < i→markGood t.Marks j=true) (fun i=>t.Marks.length - i) 0 ?_ ⟨Nat.zero_le _,fun j hj=>absurd hj (Nat.not_lt_zero _)⟩ ?_
   ·simp -implicitDefEqProofs (maxSteps:=1000000) only [go_sem]
    try rfl
   ·rintro i ⟨hi,hp⟩
    cases q:decide ((i:Int) < (t.Marks.length:Int))
    ·have eM:=rng_end (f:=markGood t.Marks) (show t.Marks.length≤i by simp only [decide_eq_false_iff_not] at q; omega) hp
     refine G1 q ?_
     cases gl:decide ((t.Rows.length:Int)≤8)
     ·have e:t.ok=false:=by simp only [TabV.ok,gl,Bool.and_false,Bool.false_and]
      exact F2 gl e
     ·have e:t.ok=win t.Phase 0 7:=by simp only [TabV.ok,eR,eM,gl,Bool.true_and]
      refine G1 gl ?_
      exact D1 (c_i_within _ _ _) e
    ·have k1:i < t.Marks.length:=by simp only [decide_eq_true_eq] at q; omega
     cases i with
     | zero =>
      have z:decide (((0:Nat):Int) > 0)=false:=rfl
      have good0:=markGood_zero k1
      refine G3 q (List.getElem?_eq_getElem k1) z ?_
      refine C0 (c_i_within _ _ _) ?_
      cases a1:win t.Marks[0].Who 1 9
      ·have g:t.Marks[0].ok=false:=by simp only [MarkV.ok,a1,Bool.false_and]
       have e:t.ok=false:=by simp only [TabV.ok,rng_not k1 (good0.trans g),Bool.and_false,Bool.false_and]
       exact F1 e
      refine G0 ?_
      refine C0 (c_i_isWord _) ?_
      cases a2:win t.Marks[0].Seq 0 65535
      ·have g:t.Marks[0].ok=false:=by simp only [MarkV.ok,a2,Bool.and_false,Bool.false_and]
       have e:t.ok=false:=by simp only [TabV.ok,rng_not k1 (good0.trans g),Bool.and_false,Bool.false_and]
       exact F1 e
      refine G0 ?_
      refine C0 (c_i_within _ _ _) ?_
      cases a3:win t.Marks[0].Code 0 6
      ·have g:t.Marks[0].ok=false:=by simp only [MarkV.ok,a3,Bool.and_false]
       have e:t.ok=false:=by simp only [TabV.ok,rng_not k1 (good0.trans g),Bool.and_false,Bool.false_and]
       exact F1 e
      have g:t.Marks[0].ok=true:=by simp only [MarkV.ok,a1,a2,a3,Bool.and_true]
      refine G1 z ?_
      refine ⟨1,by rw [IntWalk.i64_in _ (by omega)]; rfl,⟨k1,rng_step hp (good0.trans g)⟩,by omega⟩
     | succ j =>
      have k0:j < t.Marks.length:=by omega
      have z:decide (((j + 1:Nat):Int) > 0)=true:=decide_eq_true (by omega)
      have ew:IntKind.i64.wrap (((j + 1:Nat):Int) - 1)=(j:Int):=by rw [IntWalk.i64_in _ (by omega)]; omega
      have good1:=markGood_succ k1
      refine G3 q (List.getElem?_eq_getElem k1) z ?_
      refine C0 (c_i_within _ _ _) ?_
      cases a1:win t.Marks[j + 1].Who 1 9
      ·have g:t.Marks[j + 1].ok=false:=by simp only [MarkV.ok,a1,Bool.false_and]
       have gg:markGood t.Marks (j + 1)=false:=by rw [good1,g,Bool.false_and]
       have e:t.ok=false:=by simp only [TabV.ok,rng_not k1 gg,Bool.and_false,Bool.false_and]
       exact F1 e
      refine G0 ?_
      refine C0 (c_i_isWord _) ?_
      cases a2:win t.Marks[j + 1].Seq 0 65535
      ·have g:t.Marks[j + 1].ok=false:=by simp only [MarkV.ok,a2,Bool.and_false,Bool.false_and]
       have gg:markGood t.Marks (j + 1)=false:=by rw [good1,g,Bool.false_and]
       have e:t.ok=false:=by simp only [TabV.ok,rng_not k1 gg,Bool.and_false,Bool.false_and]
       exact F1 e
      refine G0 ?_
      refine C0 (c_i_within _ _ _) ?_
      cases a3:win t.Marks[j + 1].Code 0 6
      ·have g:t.Marks[j + 1].ok=false:=by simp only [MarkV.ok,a3,Bool.and_false]
       have gg:markGood t.Marks (j + 1)=false:=by rw [good1,g,Bool.false_and]
       have e:t.ok=false:=by simp only [TabV.ok,rng_not k1 gg,Bool.and_false,Bool.false_and]
       exact F1 e
      have g:t.Marks[j + 1].ok=true:=by simp only [MarkV.ok,a1,a2,a3,Bool.and_true]
      cases g2:decide (t.Marks[j].Who≥t.Marks[j + 1].Who)
      ·have gg:markGood t.Marks (j + 1)=true:=by rw [good1,g,g2]; rfl
       try simp -implicitDefEqProofs (maxSteps:=1000000) only [go_sem,z,ew,List.getElem?_eq_getElem k0,List.getElem?_eq_getElem k1,g2]
       repeat refine ⟨sc,?_⟩
       try exact sf
       refine ⟨j + 2,by rw [IntWalk.i64_in _ (by omega)]; rfl,⟨k1,rng_step hp gg⟩,by omega⟩
      ·have gg:markGood t.Marks (j + 1)=false:=by rw [good1,g2]; simp only [Bool.not_true,Bool.and_false]
       have e:t.ok=false:=by simp only [TabV.ok,rng_not k1 gg,Bool.and_false,Bool.false_and]
       try simp -implicitDefEqProofs (maxSteps:=1000000) only [go_sem,z,ew,List.getElem?_eq_getElem k0,List.getElem?_eq_getElem k1,g2,e]
       repeat refine ⟨sc,?_⟩
       try exact sf
  ·have k1:i < t.Rows.length:=by simp only [decide_eq_true_eq] at q; omega
   cases i with
   | zero =>
    have z:decide (((0:Nat):Int) > 0)=false:=rfl
    have good0:=rowGood_zero k1
    refine G3 q (List.getElem?_eq_getElem k1) z ?_
    refine C0 (c_i_RowOk t.Rows[0] (hR _ (List.getElem_mem k1))) ?_
    cases g:t.Rows[0].ok
    ·have e:t.ok=false:=by simp only [TabV.ok,rng_not k1 (good0.trans g),Bool.false_and]
     exact F1 e
    ·refine G1 z ?_
     refine ⟨1,by rw [IntWalk.i64_in _ (by omega)]; rfl,⟨k1,rng_step hp (good0.trans g)⟩,by omega⟩
   | succ j =>
    have k0:j < t.Rows.length:=by omega
    have z:decide (((j + 1:Nat):Int) > 0)=true:=decide_eq_true (by omega)
    have ew:IntKind.i64.wrap (((j + 1:Nat):Int) - 1)=(j:Int):=by rw [IntWalk.i64_in _ (by omega)]; omega
    have good1:=rowGood_succ k1
    refine G3 q (List.getElem?_eq_getElem k1) z ?_
    refine C0 (c_i_RowOk t.Rows[j + 1] (hR _ (List.getElem_mem k1))) ?_
    cases g:t.Rows[j + 1].ok
    ·have gg:rowGood t.Rows (j + 1)=false:=by rw [good1,g,Bool.false_and]
     have e:t.ok=false:=by simp only [TabV.ok,rng_not k1 gg,Bool.false_and]
     exact F1 e
    ·cases g2:Op.bytesLess t.Rows[j].Key.toList t.Rows[j + 1].Key.toList
     ·have gg:rowGood t.Rows (j + 1)=false:=by rw [good1,g2,Bool.and_false]
      have e:t.ok=false:=by simp only [TabV.ok,rng_not k1 gg,Bool.false_and]
      try simp -implicitDefEqProofs (maxSteps:=1000000) only [go_sem,z,ew,List.getElem?_eq_getElem k0,List.getElem?_eq_getElem k1,g2,e]
      repeat refine ⟨sc,?_⟩
      try exact sf
     ·have gg:rowGood t.Rows (j + 1)=true:=by rw [good1,g,g2]; rfl
      try simp -implicitDefEqProofs (maxSteps:=1000000) only [go_sem,z,ew,List.getElem?_eq_getElem k0,List.getElem?_eq_getElem k1,g2]
      repeat refine ⟨sc,?_⟩
      try exact sf
      refine ⟨j + 2,by rw [IntWalk.i64_in _ (by omega)]; rfl,⟨k1,rng_step hp gg⟩,by omega⟩
def x_l_szNodeS:FnX:=⟨27,[.tmp 4],
  .q [.i 4 0]
 (.q [.m 6 1,.m 7 0,.n 8 7,.b 9 .sub 6 8,.m 1 9]
 (.seq (.q [.m 10 1,.B 11 .lss 10 0]
 (.c 11 (.q [.i 4 (-1)]
 .ret)))
 (.seq (.q [.i 5 0]
 (.block 0 (.loop [0,1,5] (.seq (.q [.m 12 5,.m 13 0,.n 14 13,.b 15 .lss 12 14]
 (.cond 15 .skip (.exit 0)))
 (.seq (.block 1 (.q [.m 18 0,.m 19 5,.x 20 10 18 19,.L 21 10 20,.m 22 1,.c 23 213 [21,22],.m 1 23]
 (.q [.m 24 1,.B 25 .lss 24 0]
 (.c 25 (.q [.i 4 (-1)]
 .ret)))))
 (.reg [.m 16 5,.B 17 .add 16 1,.m 5 17]))))))
 (.norm [1] (.q [.m 26 1,.m 4 26]
 .ret)))))⟩
theorem r_l_szNodeS {Te:TE} (c_l_szNode:C_l_szNode Te):C_l_szNodeS (RF Te x_l_szNodeS):=by
 intro l k hk hl hs
 refine run0 ?_
 simp -implicitDefEqProofs (maxSteps:=1000000) (disch:=omega) only [x_l_szNodeS,go_sem,IntWalk.i64_in]
 refine ⟨fun h=>?_,fun h=>?_⟩
 ·simp only [decide_eq_true_eq] at h
  simp only [szSl,szAll,if_pos h]
 ·simp only [decide_eq_false_iff_not] at h
  refine loop_of (σ:=Nat×Int) (fun x=>⟨[(0,.one (.ro 10 (l.map (NodeV.enc false)))),(1,.one (.pv (.int .i64 x.2))),(5,.one (.pv (.int .i64 x.1)))],[],[(0,[slT false 10 (NodeV.enc false) l]),(1,[iT k])]⟩) (fun x=>x.1≤l.length∧0≤x.2∧x.2≤k∧szSl szNode l k=szAll ((l.drop x.1).map szNode) x.2) (fun x=>l.length - x.1) (0,k - l.length) ?_ ⟨Nat.zero_le _,by omega,by omega,by simp only [szSl,szAll,if_neg h,List.drop_zero]⟩ ?_
  ·simp -implicitDefEqProofs (maxSteps:=1000000) only [go_sem]; rfl
  ·rintro ⟨i,c⟩ ⟨hi,h0,h1,he⟩
   simp only at hi h0 h1 he
   simp -implicitDefEqProofs (maxSteps:=1000000) only [go_sem]
   refine ⟨fun h=>?_,fun h=>?_⟩
   ·have hi':i < l.length:=by simp only [decide_eq_true_eq] at h; omega
    have hsz:=hs l[i] (List.getElem_mem hi')
    have hsn:szNode l[i] c≤c:=szNode_sane l[i] c h0
    rw [List.drop_eq_getElem_cons hi'] at he
    simp -implicitDefEqProofs (maxSteps:=1000000) (disch:=omega) only [go_sem,List.getElem?_eq_getElem hi',IntWalk.i64_in]
    refine .of (c_l_szNode _ _ hsz ⟨h0,by omega⟩) ?_
    simp -implicitDefEqProofs (maxSteps:=1000000) only [go_sem]
    refine ⟨fun h2=>?_,fun h2=>?_⟩
    ·simp only [decide_eq_true_eq] at h2
     rw [he]
     simp only [List.map_cons,szAll,if_pos h2]
    ·simp only [decide_eq_false_iff_not] at h2
     refine ⟨(i + 1,szNode l[i] c),by rw [IntWalk.i64_in _ (by omega)]; rfl,⟨hi',by omega,by simp only; omega,?_⟩,by simp only; omega⟩
     rw [he]
     simp only [List.map_cons,szAll,if_neg h2]
   ·have hle:l.length≤i:=by simp only [decide_eq_false_iff_not] at h; omega
    rw [List.drop_of_length_le hle] at he
    simp only [szAll,List.map_nil] at he
    rw [he]
def x_l_toNodeS:FnX:=⟨23,[.tmp 2],
  .q [.op 2 (.mv (.k (.one (.nils 10))))]
 (.q [.m 5 0,.n 6 5,.op 7 (.mks 10 144 [.sl true 1 () [],.sl true 2 () [],.pv (.int .i64 0),.pv (.bool false),.sl true 7 () [],.pv (.int .i64 0),.sl true 3 () [],.pv (.int .i64 0),.pv (.int .i64 0),.pv (.int .i64 0)] (.t 6)),.m 3 7]
 (.seq (.q [.i 4 0]
 (.block 0 (.loop [0,3,4] (.seq (.q [.m 8 4,.m 9 0,.n 10 9,.b 11 .lss 8 10]
 (.cond 11 .skip (.exit 0)))
 (.seq (.block 1 (.reg [.m 14 3,.m 15 4,.m 16 0,.m 17 4,.x 18 10 16 17,.L 19 10 18,.c 20 219 [19],.x 21 10 14 15,.s 100001 10 21 20]))
 (.reg [.m 12 4,.B 13 .add 12 1,.m 4 13]))))))
 (.norm [3] (.q [.m 22 3,.m 2 22]
 .ret))))⟩
theorem r_l_toNodeS {Te:TE} (c_l_toNode:C_l_toNode Te):C_l_toNodeS (RF Te x_l_toNodeS):=by
 intro l hl
 refine run0 ?_
 have hl1:=hl.1
 simp -implicitDefEqProofs (maxSteps:=1000000) (disch:=omega) only [x_l_toNodeS,go_sem,IntWalk.i64_in]
 refine ⟨⟨by simp only [decide_eq_true_eq]; omega,by simp only [decide_eq_true_eq]; omega⟩,?_⟩
 refine loop_of (σ:=Nat) (fun i=>⟨[(0,.one (.ro 10 (l.map (NodeV.enc false)))),(3,.one (.rf 24 0 [] 10 0 l.length)),(4,.one (.pv (.int .i64 i)))],[],
  [(0,[slT false 10 (NodeV.enc false) l]),(24,[.sl true 10 () ((l.take i).map (NodeV.enc true)++List.replicate (l.length - i) [.sl true 1 () [],.sl true 2 () [],.pv (.int .i64 0),.pv (.bool false),.sl true 7 () [],.pv (.int .i64 0),.sl true 3 () [],.pv (.int .i64 0),.pv (.int .i64 0),.pv (.int .i64 0)])])]⟩) (fun i=>i≤l.length) (fun i=>l.length - i) 0 ?_ (Nat.zero_le _) ?_
 ·simp -implicitDefEqProofs (maxSteps:=1000000) only [go_sem]; rfl
 ·intro i hi
  simp -implicitDefEqProofs (maxSteps:=1000000) only [go_sem]
  refine ⟨fun h=>?_,fun h=>?_⟩
  ·have hi':i < l.length:=by simp only [decide_eq_true_eq] at h; omega
   simp -implicitDefEqProofs (maxSteps:=1000000) only [go_sem,List.getElem?_eq_getElem hi',fill_len (NodeV.enc true) l [.sl true 1 () [],.sl true 2 () [],.pv (.int .i64 0),.pv (.bool false),.sl true 7 () [],.pv (.int .i64 0),.sl true 3 () [],.pv (.int .i64 0),.pv (.int .i64 0),.pv (.int .i64 0)] hi,storeAp,setCells,List.getD_eq_getElem?_getD,fill_get (NodeV.enc true) l [.sl true 1 () [],.sl true 2 () [],.pv (.int .i64 0),.pv (.bool false),.sl true 7 () [],.pv (.int .i64 0),.sl true 3 () [],.pv (.int .i64 0),.pv (.int .i64 0),.pv (.int .i64 0)] hi']
   refine .of (c_l_toNode _ (hl.2 _ (List.getElem_mem hi'))) ?_
   simp -implicitDefEqProofs (maxSteps:=1000000) only [go_sem,fill_len (NodeV.enc true) l [.sl true 1 () [],.sl true 2 () [],.pv (.int .i64 0),.pv (.bool false),.sl true 7 () [],.pv (.int .i64 0),.sl true 3 () [],.pv (.int .i64 0),.pv (.int .i64 0),.pv (.int .i64 0)] hi,storeAp,setCells,List.getD_eq_getElem?_getD,fill_get (NodeV.enc true) l [.sl true 1 () [],.sl true 2 () [],.pv (.int .i64 0),.pv (.bool false),.sl true 7 () [],.pv (.int .i64 0),.sl true 3 () [],.pv (.int .i64 0),.pv (.int .i64 0),.pv (.int .i64 0)] hi']
   repeat (first | refine ⟨by decide,?_⟩ | refine ⟨by simpa using hi',?_⟩)
   refine ⟨i + 1,?_,hi',by omega⟩
   rw [← fill_set (NodeV.enc true) l [.sl true 1 () [],.sl true 2 () [],.pv (.int .i64 0),.pv (.bool false),.sl true 7 () [],.pv (.int .i64 0),.sl true 3 () [],.pv (.int .i64 0),.pv (.int .i64 0),.pv (.int .i64 0)] hi',IntWalk.i64_in _ (by omega)]
   rfl
  ·have:i=l.length:=by simp only [decide_eq_false_iff_not] at h; omega
   subst this
   simp -implicitDefEqProofs (maxSteps:=1000000) only [go_sem,fill_len (NodeV.enc true) l [.sl true 1 () [],.sl true 2 () [],.pv (.int .i64 0),.pv (.bool false),.sl true 7 () [],.pv (.int .i64 0),.sl true 3 () [],.pv (.int .i64 0),.pv (.int .i64 0),.pv (.int .i64 0)] hi,fill_end]
   refine ⟨by simp,?_⟩
   simp [take_map]
def x_s_l11Cell:FnX:=⟨15,[.tmp 4],
  .q [.v 3 1,.op 4 (.mv (.k (.one (.nils 1))))]
 (.seq (.draw [.m 5 0,.f 6 3 0,.l 7 6,.op 8 (.conv (.int .u8) (.t 7)),.op 9 (.bslice 1 [(.t 8)]),.op 10 (.app 1 1 (.t 5) (.t 9)),.f 11 3 1,.l 12 11,.op 13 (.conv .b2s (.t 12)),.c 14 284 [10,13],.m 4 14] [[],[],[1],[2],[3],[0,4],[],[6],[7],[5,8,5],[9,9,0,1,2,3,4,5,6,7,8,9]])
 .ret)⟩
theorem r_s_l11Cell {Te:TE} (c_s_PutText:C_s_PutText Te):C_s_l11Cell (RF Te x_s_l11Cell):=by
 intro b c hb hc
 refine run0 ?_
 have ea:=areBytes_uR c.B
 have fa:=bytesOf_uR c.B
 simp -implicitDefEqProofs (maxSteps:=1000000) only [x_s_l11Cell,go_sem,mkU_wrap,ea,fa,app1B,take1B]
 repeat refine ⟨sc,?_⟩
 try exact sf
 have tt:=c_s_PutText (b++[mkU c.Tag]) (strOf c.B) (by rw [List.length_append]; simp only [List.length_cons,List.length_nil]; omega) (by rw [strOf_size]; exact hc)
 rw [← putCell] at tt
 exact D0 (tt)
def x_i_PutRow:FnX:=⟨56,[.tmp 4],
  .q [.v 3 1,.op 4 (.mv (.k (.one (.nils 1))))]
 (.q [.m 6 0,.op 7 (.bslice 1 [(.t 6)]),.c 8 100 [7],.m 5 8]
 (.seq (.q [.L 9 7 3,.c 10 253 [9],.N 11 10]
 (.c 11 (.q [.m 12 5,.m 4 12]
 .ret)))
 (.seq (.draw [.m 13 5,.f 14 3 0,.l 15 14,.c 16 314 [13,15],.f 17 3 5,.l 18 17,.op 19 (.conv (.int .u8) (.t 18)),.f 20 3 6,.l 21 20,.c 22 352 [21],.op 23 (.bslice 1 [(.t 19),(.t 22)]),.op 24 (.app 1 1 (.t 16) (.t 23)),.m 5 24] [[],[],[1],[0,2],[],[4],[5],[],[7],[8,3],[6,9],[3,10,9],[11,11,0,1,2,3,4,5,6,7,8,9,10,11]])
 (.seq (.q [.f 25 3 5,.l 26 25,.B 27 .neq 26 2]
 (.c 27 (.draw [.m 28 5,.f 29 3 1,.f 30 29 0,.l 31 30,.op 32 (.conv (.int .u8) (.t 31)),.op 33 (.bslice 1 [(.t 32)]),.op 34 (.app 1 1 (.t 28) (.t 33)),.f 35 3 1,.f 36 35 1,.l 37 36,.op 38 (.conv .b2s (.t 37)),.c 39 314 [34,38],.m 5 39] [[],[],[1],[2],[3],[4],[0,5],[],[7],[8],[9],[6,10,6],[11,11,0,1,2,3,4,5,6,7,8,9,10,11]])))
 (.seq (.q [.f 40 3 5,.l 41 40,.B 42 .neq 41 1]
 (.c 42 (.draw [.m 43 5,.f 44 3 3,.f 45 44 0,.l 46 45,.op 47 (.conv (.int .u8) (.t 46)),.op 48 (.bslice 1 [(.t 47)]),.op 49 (.app 1 1 (.t 43) (.t 48)),.f 50 3 3,.f 51 50 1,.l 52 51,.op 53 (.conv .b2s (.t 52)),.c 54 314 [49,53],.m 5 54] [[],[],[1],[2],[3],[4],[0,5],[],[7],[8],[9],[6,10,6],[11,11,0,1,2,3,4,5,6,7,8,9,10,11]])))
 (.q [.m 55 5,.m 4 55]
 .ret))))))⟩
theorem r_i_PutRow {Te:TE} (c_i_joined:C_i_joined Te) (c_i_RowOk:C_i_RowOk Te) (c_i_PutText:C_i_PutText Te) (c_i_flag:C_i_flag Te):C_i_PutRow (RF Te x_i_PutRow):=by
 intro b r hb h
 obtain ⟨h1,h2,h3⟩:=h
 have ea:=areBytes_uR r.Old.B
 have fa:=bytesOf_uR r.Old.B
 have eb:=areBytes_uR r.New.B
 have fb:=bytesOf_uR r.New.B
 have l0:=putText_len b r.Key
 have l1:=putRow1_len b r
 have l2:=putRow2_len b r
 refine X0 x_i_PutRow.eq_1 ?_
 refine .of (c_i_joined [b] (by rw [flat1]; omega) (by show 1≤2 ^ 31; decide)) ?_
 try simp -implicitDefEqProofs (maxSteps:=1000000) only [go_sem,flat1]
 repeat refine ⟨sc,?_⟩
 try exact sf
 refine C0 (c_i_RowOk r ⟨h1,h2,h3⟩) ?_
 cases g:r.ok
 ·try simp -implicitDefEqProofs (maxSteps:=1000000) only [go_sem,putRow,g,if_false,reduceCtorEq]
  repeat refine ⟨sc,?_⟩
  try exact sf
 have ep:putRow b r=putRow3 b r:=if_pos g
 refine G0 ?_
 refine C0 (c_i_PutText b r.Key (by omega) h1) ?_
 refine .of (c_i_flag r.Aside) ?_
 try simp -implicitDefEqProofs (maxSteps:=1000000) only [go_sem,mkU_wrap,app2B,take2B]
 repeat refine ⟨sc,?_⟩
 try exact sf
 have e1:putText b r.Key++[mkU r.Has,bif r.Aside then 1 else 0]=putRow1 b r:=rfl
 have e2:(putText b r.Key).length + 2=(putRow1 b r).length:=by rw [putRow1,List.length_append]; rfl
 simp only [e1,e2]
 have gw:=win13 (rowOk_win g)
 by_cases q2:r.Has=2
 ·have k2:(r.Has != 2)=false:=by simp only [bne_eq_false_iff_eq]; exact q2
  have k1:(r.Has != 1)=true:=by simp only [bne_iff_ne,ne_eq]; omega
  have e3:putRow2 b r=putRow1 b r:=if_pos q2
  have e4:putRow3 b r=putCell (putRow1 b r) r.New:=by rw [putRow3,if_neg (by omega),e3]
  try simp -implicitDefEqProofs (maxSteps:=1000000) only [go_sem,k2,k1,eb,fb,mkU_wrap,app1B,take1B]
  repeat refine ⟨sc,?_⟩
  try exact sf
  have tt:=c_i_PutText (putRow1 b r++[mkU r.New.Tag]) (strOf r.New.B) (by rw [List.length_append]; simp only [List.length_cons,List.length_nil]; omega) (by rw [strOf_size]; exact h3)
  rw [← putCell] at tt
  exact D2 (tt) ep e4
 ·have k2:(r.Has != 2)=true:=by simp only [bne_iff_ne,ne_eq]; exact q2
  have e3:putRow2 b r=putCell (putRow1 b r) r.Old:=if_neg q2
  try simp -implicitDefEqProofs (maxSteps:=1000000) only [go_sem,k2,ea,fa,mkU_wrap,app1B,take1B]
  repeat refine ⟨sc,?_⟩
  try exact sf
  have tt:=c_i_PutText (putRow1 b r++[mkU r.Old.Tag]) (strOf r.Old.B) (by rw [List.length_append]; simp only [List.length_cons,List.length_nil]; omega) (by rw [strOf_size]; exact h2)
  rw [← putCell,← e3] at tt
  refine C0 (tt) ?_
  by_cases q1:r.Has=1
  ·have k1:(r.Has != 1)=false:=by simp only [bne_eq_false_iff_eq]; exact q1
   have e4:putRow3 b r=putRow2 b r:=if_pos q1
   exact F3 k1 ep e4
  ·have k1:(r.Has != 1)=true:=by simp only [bne_iff_ne,ne_eq]; exact q1
   have e4:putRow3 b r=putCell (putRow2 b r) r.New:=if_neg q1
   try simp -implicitDefEqProofs (maxSteps:=1000000) only [go_sem,k1,eb,fb,mkU_wrap,app1B,take1B]
   repeat refine ⟨sc,?_⟩
   try exact sf
   have tt:=c_i_PutText (putRow2 b r++[mkU r.New.Tag]) (strOf r.New.B) (by rw [List.length_append]; simp only [List.length_cons,List.length_nil]; omega) (by rw [strOf_size]; exact h3)
   rw [← putCell] at tt
   exact D2 (tt) ep e4
def x_i_isSet:FnX:=⟨5,[.tmp 2],
  .q [.F 2]
 (.q [.m 3 0,.op 4 (.call 90 [0,0,0] [(.t 3),(.i 0),(.i 5)]),.m 2 4]
 .ret)⟩
theorem r_i_isSet {Te:TE} (c_i_within:C_i_within Te):C_i_isSet (RF Te x_i_isSet):=by
 intro cs
 refine X0 x_i_isSet.eq_1 ?_
 exact D0 (c_i_within _ _ _)
def x_s_l5Cs:FnX:=⟨5,[.tmp 2],
  .q [.F 2]
 (.q [.m 3 0,.op 4 (.call 120 [0,0,0] [(.t 3),(.i 0),(.i 5)]),.m 2 4]
 .ret)⟩
theorem r_s_l5Cs {Te:TE} (c_s_l1In:C_s_l1In Te):C_s_l5Cs (RF Te x_s_l5Cs):=by
 intro cs
 refine X0 x_s_l5Cs.eq_1 ?_
 exact D0 (c_s_l1In _ _ _)
def x_i_signIn:FnX:=⟨42,[.tmp 6,.tmp 7,.tmp 8],
  .q [.i 6 0,.i 7 0,.F 8]
 (.seq (.q [.m 11 0]
 (.block 0 (.q [.B 13 .eql 11 0,.m 12 13]
 (.cond 12 (.q [.m 14 1,.m 15 2,.c 16 267 [14,15],.e 17 16 0,.e 18 16 1,.e 19 16 2,.m 6 17,.m 7 18,.m 8 19]
 .ret) (.q [.B 21 .eql 11 5,.m 20 21]
 (.c 20 (.q [.m 22 1,.m 23 2,.c 24 268 [22,23],.e 25 24 0,.e 26 24 1,.e 27 24 2,.m 6 25,.m 7 26,.m 8 27]
 .ret)))))))
 (.q [.m 29 0,.m 30 1,.m 31 2,.x 32 1 30 31,.l 33 32,.op 34 (.conv (.int .i64) (.t 33)),.c 35 269 [29,34],.m 28 35,.e 36 28 0,.e 37 28 1,.m 9 36,.m 10 37]
 (.q [.m 38 9,.m 39 2,.B 40 .add 39 1,.m 41 10,.m 6 38,.m 7 40,.m 8 41]
 .ret)))⟩
theorem r_i_signIn {Te:TE} (c_i_GetSign:C_i_GetSign Te) (c_i_EucSign:C_i_EucSign Te) (c_i_ByteSign:C_i_ByteSign Te):C_i_signIn (RF Te x_i_signIn):=by
 intro cs b i hb hi
 refine run0 ?_
 cases g0:(cs==0)
 ·have n0:¬ cs=0:=by simpa using g0
  cases g5:(cs==5)
  ·have n5:¬ cs=5:=by simpa using g5
   have e:signIn cs b i=((byteSign cs (byteN b i.toNat:Nat)).1,i + 1,(byteSign cs (byteN b i.toNat:Nat)).2):=by rw [signIn,if_neg n0,if_neg n5]
   have hk:i.toNat < b.length:=by omega
   have eb:b[i.toNat].toNat=byteN b i.toNat:=by
    simp only [byteN,List.getD_eq_getElem?_getD]
    rw [List.getElem?_eq_getElem hk]
    rfl
   have hlt:=byteN_lt b i.toNat
   have w1:IntKind.i64.wrap ((byteN b i.toNat:Nat):Int)=(byteN b i.toNat:Nat):=IntWalk.i64_in _ (by omega)
   have w2:IntKind.i64.wrap (i + 1)=i + 1:=IntWalk.i64_in _ (by omega)
   simp -implicitDefEqProofs (maxSteps:=1000000) only [x_i_signIn,go_sem,g0,g5,List.getElem?_eq_getElem hk,eb,w1]
   repeat refine ⟨sc,?_⟩
   try exact sf
   exact D2 (c_i_ByteSign _ _) w2 e
  ·have n5:cs=5:=eq_of_beq g5
   subst n5
   have e:signIn 5 b i=eucSign b i:=rfl
   simp -implicitDefEqProofs (maxSteps:=1000000) only [x_i_signIn,go_sem]
   repeat refine ⟨sc,?_⟩
   try exact sf
   exact D1 (c_i_EucSign b i hb) e
 ·have n0:cs=0:=eq_of_beq g0
  subst n0
  have e:signIn 0 b i=getSign b i:=rfl
  simp -implicitDefEqProofs (maxSteps:=1000000) only [x_i_signIn,go_sem]
  repeat refine ⟨sc,?_⟩
  try exact sf
  exact D1 (c_i_GetSign b i (by omega)) e
def x_s_l5Get:FnX:=⟨42,[.tmp 6,.tmp 7,.tmp 8],
  .q [.i 6 0,.i 7 0,.F 8]
 (.seq (.q [.m 11 0]
 (.block 0 (.q [.B 13 .eql 11 0,.m 12 13]
 (.cond 12 (.q [.m 14 1,.m 15 2,.c 16 272 [14,15],.e 17 16 0,.e 18 16 1,.e 19 16 2,.m 6 17,.m 7 18,.m 8 19]
 .ret) (.q [.B 21 .eql 11 5,.m 20 21]
 (.c 20 (.q [.m 22 1,.m 23 2,.c 24 273 [22,23],.e 25 24 0,.e 26 24 1,.e 27 24 2,.m 6 25,.m 7 26,.m 8 27]
 .ret)))))))
 (.q [.m 29 0,.m 30 1,.m 31 2,.x 32 1 30 31,.l 33 32,.op 34 (.conv (.int .i64) (.t 33)),.c 35 274 [29,34],.m 28 35,.e 36 28 0,.e 37 28 1,.m 9 36,.m 10 37]
 (.q [.m 38 9,.m 39 2,.B 40 .add 39 1,.m 41 10,.m 6 38,.m 7 40,.m 8 41]
 .ret)))⟩
theorem r_s_l5Get {Te:TE} (c_s_GetSign:C_s_GetSign Te) (c_s_EucSign:C_s_EucSign Te) (c_s_ByteSign:C_s_ByteSign Te):C_s_l5Get (RF Te x_s_l5Get):=by
 intro cs b i hb hi
 refine run0 ?_
 cases g0:(cs==0)
 ·have n0:¬ cs=0:=by simpa using g0
  cases g5:(cs==5)
  ·have n5:¬ cs=5:=by simpa using g5
   have e:signIn cs b i=((byteSign cs (byteN b i.toNat:Nat)).1,i + 1,(byteSign cs (byteN b i.toNat:Nat)).2):=by rw [signIn,if_neg n0,if_neg n5]
   have hk:i.toNat < b.length:=by omega
   have eb:b[i.toNat].toNat=byteN b i.toNat:=by
    simp only [byteN,List.getD_eq_getElem?_getD]
    rw [List.getElem?_eq_getElem hk]
    rfl
   have hlt:=byteN_lt b i.toNat
   have w1:IntKind.i64.wrap ((byteN b i.toNat:Nat):Int)=(byteN b i.toNat:Nat):=IntWalk.i64_in _ (by omega)
   have w2:IntKind.i64.wrap (i + 1)=i + 1:=IntWalk.i64_in _ (by omega)
   simp -implicitDefEqProofs (maxSteps:=1000000) only [x_s_l5Get,go_sem,g0,g5,List.getElem?_eq_getElem hk,eb,w1]
   repeat refine ⟨sc,?_⟩
   try exact sf
   exact D2 (c_s_ByteSign _ _) w2 e
  ·have n5:cs=5:=eq_of_beq g5
   subst n5
   have e:signIn 5 b i=eucSign b i:=rfl
   simp -implicitDefEqProofs (maxSteps:=1000000) only [x_s_l5Get,go_sem]
   repeat refine ⟨sc,?_⟩
   try exact sf
   exact D1 (c_s_EucSign b i hb) e
 ·have n0:cs=0:=eq_of_beq g0
  subst n0
  have e:signIn 0 b i=getSign b i:=rfl
  simp -implicitDefEqProofs (maxSteps:=1000000) only [x_s_l5Get,go_sem]
  repeat refine ⟨sc,?_⟩
  try exact sf
  exact D1 (c_s_GetSign b i (by omega)) e
def x_i_Decode:FnX:=⟨35,[.tmp 4,.tmp 5],
  .q [.op 4 (.mv (.k (.one (.pv (.string ⟨#[]⟩))))),.F 5]
 (.seq (.q [.m 11 0,.c 12 184 [11],.N 13 12]
 (.c 13 (.q [.op 4 (.mv (.k (.one (.pv (.string ⟨#[]⟩))))),.F 5]
 .ret)))
 (.q [.op 14 (.bslice 1 []),.m 6 14]
 (.seq (.q [.i 7 0]
 (.block 0 (.loop [0,1,6,7] (.seq (.q [.m 15 7,.m 16 1,.n 17 16,.b 18 .lss 15 17]
 (.cond 18 .skip (.exit 0)))
 (.block 1 (.q [.m 20 0,.m 21 1,.m 22 7,.c 23 185 [20,21,22],.m 19 23,.e 24 19 0,.e 25 19 1,.e 26 19 2,.m 8 24,.m 9 25,.m 10 26]
 (.seq (.q [.m 27 10,.N 28 27]
 (.c 28 (.q [.op 4 (.mv (.k (.one (.pv (.string ⟨#[]⟩))))),.F 5]
 .ret)))
 (.q [.m 29 6,.m 30 8,.c 31 186 [29,30],.m 6 31]
 (.reg [.m 32 9,.m 7 32])))))))))
 (.norm [6] (.q [.m 33 6,.op 34 (.conv .b2s (.t 33)),.m 4 34,.T 5]
 .ret)))))⟩
theorem r_i_Decode {Te:TE} (c_i_isSet:C_i_isSet Te) (c_i_signIn:C_i_signIn Te) (c_i_PutSign:C_i_PutSign Te):C_i_Decode (RF Te x_i_Decode):=by
 intro cs b hb
 cases g:win cs 0 5
 ·have e:decode cs b=(⟨#[]⟩,false):=by rw [decode,g]; rfl
  refine X0 x_i_Decode.eq_1 ?_
  exact D2 (c_i_isSet _) g e
 ·have e:decode cs b=decGo cs b b.length 0 []:=by rw [decode,g]; rfl
  rw [e]
  generalize hD:decGo cs b b.length 0 []=D
  refine X0 x_i_Decode.eq_1 ?_
  refine C1 (c_i_isSet _) g ?_
  refine loop_of (σ:=Nat×Nat×List UInt8) (fun x=>⟨[(0,.one (.pv (.int .i64 cs))),(1,.one (.ro 1 (b.map uR))),(6,.one (.rf 37 0 [] 1 0 x.2.2.length)),(7,.one (.pv (.int .i64 x.2.1)))],[],[(0,[iT cs]),(1,[slT false 1 uR b]),(37,[slT true 1 uR x.2.2])]⟩) (fun x=>x.2.1≤b.length∧b.length≤x.1 + x.2.1∧x.2.2.length≤4 * x.2.1∧decGo cs b x.1 x.2.1 x.2.2=D) (fun x=>b.length - x.2.1) (b.length,0,[]) ?_ ⟨Nat.zero_le _,Nat.le_refl _,Nat.zero_le _,hD⟩ ?_
  ·simp -implicitDefEqProofs (maxSteps:=1000000) only [go_sem]
   try rfl
  ·rintro ⟨fu,i,out⟩ ⟨hi,hf,ho,hd⟩
   simp only at hi hf ho hd
   cases q:decide ((i:Int) < (b.length:Int))
   ·have hq:¬ (i:Int) < (b.length:Int):=by simpa using q
    rw [dec_end hq] at hd
    subst hd
    refine G1 q ?_
    refine ⟨areBytes_uR out,?_⟩
    rw [bytesOf_uD]
    try rfl
   ·have hq:(i:Int) < (b.length:Int):=by simpa using q
    obtain ⟨f,rfl⟩:∃ f,fu=f + 1:=⟨fu - 1,by omega⟩
    have hs:=c_i_signIn cs b i (by omega) ⟨by omega,hq⟩
    cases g2:(signIn cs b i).2.2
    ·rw [dec_bad hq g2] at hd
     subst hd
     refine G1 q ?_
     exact D1 (hs) g2
    ·rw [dec_step hq g2] at hd
     have hn:=signIn_next ⟨by omega,hq⟩ g2
     generalize signIn cs b i=r at hs g2 hd hn
     obtain ⟨n,nx,ok⟩:=r
     simp only at hs g2 hd hn
     subst g2
     obtain ⟨j,rfl⟩:∃ j:Nat,nx=j:=⟨nx.toNat,by omega⟩
     have hl:=putSign_len out n
     refine G1 q ?_
     refine C0 (hs) ?_
     refine C0 (c_i_PutSign out n (by omega)) ?_
     exact ⟨(f,j,putSign out n),rfl,⟨by simp only; omega,by simp only; omega,by simp only; omega,hd⟩,by simp only; omega⟩
def x_l_eqAct:FnX:=⟨35,[.tmp 4],
  .q [.v 2 0,.v 3 1,.F 4]
 (.seq (.q [.f 5 2 0,.l 6 5,.f 7 3 0,.l 8 7,.b 9 .neq 6 8]
 (.c 9 (.q [.F 4]
 .ret)))
 (.seq (.q [.f 10 2 1,.l 11 10,.f 12 3 1,.l 13 12,.b 14 .neq 11 13]
 (.c 14 (.q [.F 4]
 .ret)))
 (.seq (.q [.f 15 2 2,.l 16 15,.f 17 3 2,.l 18 17,.b 19 .neq 16 18]
 (.c 19 (.q [.F 4]
 .ret)))
 (.seq (.q [.f 20 2 3,.l 21 20,.f 22 3 3,.l 23 22,.b 24 .neq 21 23]
 (.c 24 (.q [.F 4]
 .ret)))
 (.seq (.q [.f 25 2 4,.l 26 25,.f 27 3 4,.l 28 27,.b 29 .neq 26 28]
 (.c 29 (.q [.F 4]
 .ret)))
 (.seq (.q [.f 30 2 5,.l 31 30,.f 32 3 5,.l 33 32,.b 34 .neq 31 33]
 (.c 34 (.q [.F 4]
 .ret)))
 (.q [.T 4]
 .ret)))))))⟩
theorem r_l_eqAct {Te:TE}:C_l_eqAct (RF Te x_l_eqAct):=by
 intro x y
 refine run0 ?_
 have key:(x=y)↔x.Kind=y.Kind∧x.Who=y.Who∧x.Seq=y.Seq∧x.Key=y.Key∧x.Text=y.Text∧x.Code=y.Code:=by cases x; cases y; simp
 simp only [key]
 clear key
 simp -implicitDefEqProofs (maxSteps:=1000000) only [x_l_eqAct,go_sem]
 refine ⟨fun q=>?_,fun q=>?_⟩
 ·have n0:¬ (x.Kind=y.Kind):=by simpa using q
  simp only [n0,false_and,and_false,true_and,decide_false]
 have e0:x.Kind=y.Kind:=by simpa using q
 clear q
 refine ⟨fun q=>?_,fun q=>?_⟩
 ·have n1:¬ (x.Who=y.Who):=by simpa using q
  simp only [e0,n1,false_and,and_false,true_and,decide_false]
 have e1:x.Who=y.Who:=by simpa using q
 clear q
 refine ⟨fun q=>?_,fun q=>?_⟩
 ·have n2:¬ (x.Seq=y.Seq):=by simpa using q
  simp only [e0,e1,n2,false_and,and_false,true_and,decide_false]
 have e2:x.Seq=y.Seq:=by simpa using q
 clear q
 refine ⟨fun q=>?_,fun q=>?_⟩
 ·have n3:¬ (x.Key=y.Key):=by simpa using q
  simp only [e0,e1,e2,n3,false_and,and_false,true_and,decide_false]
 have e3:x.Key=y.Key:=by simpa using q
 clear q
 refine ⟨fun q=>?_,fun q=>?_⟩
 ·have n4:¬ (x.Text=y.Text):=by simpa using q
  simp only [e0,e1,e2,e3,n4,false_and,and_false,true_and,decide_false]
 have e4:x.Text=y.Text:=by simpa using q
 clear q
 refine ⟨fun q=>?_,fun q=>?_⟩
 ·have n5:¬ (x.Code=y.Code):=by simpa using q
  simp only [e0,e1,e2,e3,e4,n5,false_and,and_false,true_and,decide_false]
 have e5:x.Code=y.Code:=by simpa using q
 clear q
 simp only [e0,e1,e2,e3,e4,e5,true_and,and_true,decide_true]
def x_l_szActS:FnX:=⟨27,[.tmp 4],
  .q [.i 4 0]
 (.q [.m 6 1,.m 7 0,.n 8 7,.b 9 .sub 6 8,.m 1 9]
 (.seq (.q [.m 10 1,.B 11 .lss 10 0]
 (.c 11 (.q [.i 4 (-1)]
 .ret)))
 (.seq (.q [.i 5 0]
 (.block 0 (.loop [0,1,5] (.seq (.q [.m 12 5,.m 13 0,.n 14 13,.b 15 .lss 12 14]
 (.cond 15 .skip (.exit 0)))
 (.seq (.block 1 (.q [.m 18 0,.m 19 5,.x 20 6 18 19,.L 21 6 20,.m 22 1,.c 23 216 [21,22],.m 1 23]
 (.q [.m 24 1,.B 25 .lss 24 0]
 (.c 25 (.q [.i 4 (-1)]
 .ret)))))
 (.reg [.m 16 5,.B 17 .add 16 1,.m 5 17]))))))
 (.norm [1] (.q [.m 26 1,.m 4 26]
 .ret)))))⟩
theorem r_l_szActS {Te:TE} (c_l_szAct:C_l_szAct Te):C_l_szActS (RF Te x_l_szActS):=by
 intro l k hk hl hs
 refine run0 ?_
 simp -implicitDefEqProofs (maxSteps:=1000000) (disch:=omega) only [x_l_szActS,go_sem,IntWalk.i64_in]
 refine ⟨fun h=>?_,fun h=>?_⟩
 ·simp only [decide_eq_true_eq] at h
  simp only [szSl,szAll,if_pos h]
 ·simp only [decide_eq_false_iff_not] at h
  refine loop_of (σ:=Nat×Int) (fun x=>⟨[(0,.one (.ro 6 (l.map ActV.row))),(1,.one (.pv (.int .i64 x.2))),(5,.one (.pv (.int .i64 x.1)))],[],[(0,[slT false 6 ActV.row l]),(1,[iT k])]⟩) (fun x=>x.1≤l.length∧0≤x.2∧x.2≤k∧szSl szAct l k=szAll ((l.drop x.1).map szAct) x.2) (fun x=>l.length - x.1) (0,k - l.length) ?_ ⟨Nat.zero_le _,by omega,by omega,by simp only [szSl,szAll,if_neg h,List.drop_zero]⟩ ?_
  ·simp -implicitDefEqProofs (maxSteps:=1000000) only [go_sem]; rfl
  ·rintro ⟨i,c⟩ ⟨hi,h0,h1,he⟩
   simp only at hi h0 h1 he
   simp -implicitDefEqProofs (maxSteps:=1000000) only [go_sem]
   refine ⟨fun h=>?_,fun h=>?_⟩
   ·have hi':i < l.length:=by simp only [decide_eq_true_eq] at h; omega
    have hsz:=hs l[i] (List.getElem_mem hi')
    rw [List.drop_eq_getElem_cons hi'] at he
    simp -implicitDefEqProofs (maxSteps:=1000000) (disch:=omega) only [go_sem,List.getElem?_eq_getElem hi',IntWalk.i64_in]
    refine .of (c_l_szAct _ _ hsz ⟨h0,by omega⟩) ?_
    simp -implicitDefEqProofs (maxSteps:=1000000) only [go_sem]
    refine ⟨fun h2=>?_,fun h2=>?_⟩
    ·simp only [decide_eq_true_eq] at h2
     rw [he]
     simp only [List.map_cons,szAll,if_pos h2]
    ·simp only [decide_eq_false_iff_not] at h2
     refine ⟨(i + 1,szAct l[i] c),by rw [IntWalk.i64_in _ (by omega)]; rfl,⟨hi',by omega,Int.le_trans (szAct_sane _ _ h0) h1,?_⟩,by simp only; omega⟩
     rw [he]
     simp only [List.map_cons,szAll,if_neg h2]
   ·have hle:l.length≤i:=by simp only [decide_eq_false_iff_not] at h; omega
    rw [List.drop_of_length_le hle] at he
    simp only [szAll,List.map_nil] at he
    rw [he]
def x_l_toActS:FnX:=⟨23,[.tmp 2],
  .q [.op 2 (.mv (.k (.one (.nils 6))))]
 (.q [.m 5 0,.n 6 5,.op 7 (.mks 6 64 [.pv (.int .i64 0),.pv (.int .i64 0),.pv (.int .i64 0),.pv (.string ⟨#[]⟩),.pv (.string ⟨#[]⟩),.pv (.int .i64 0)] (.t 6)),.m 3 7]
 (.seq (.q [.i 4 0]
 (.block 0 (.loop [0,3,4] (.seq (.q [.m 8 4,.m 9 0,.n 10 9,.b 11 .lss 8 10]
 (.cond 11 .skip (.exit 0)))
 (.seq (.block 1 (.reg [.m 14 3,.m 15 4,.m 16 0,.m 17 4,.x 18 6 16 17,.L 19 6 18,.c 20 222 [19],.x 21 6 14 15,.s 100001 6 21 20]))
 (.reg [.m 12 4,.B 13 .add 12 1,.m 4 13]))))))
 (.norm [3] (.q [.m 22 3,.m 2 22]
 .ret))))⟩
theorem r_l_toActS {Te:TE} (c_l_toAct:C_l_toAct Te):C_l_toActS (RF Te x_l_toActS):=by
 intro l hl
 refine run0 ?_
 simp -implicitDefEqProofs (maxSteps:=1000000) (disch:=omega) only [x_l_toActS,go_sem,IntWalk.i64_in]
 refine ⟨⟨by simp only [decide_eq_true_eq]; omega,by simp only [decide_eq_true_eq]; omega⟩,?_⟩
 refine loop_of (σ:=Nat) (fun i=>⟨[(0,.one (.ro 6 (l.map ActV.row))),(3,.one (.rf 24 0 [] 6 0 l.length)),(4,.one (.pv (.int .i64 i)))],[],
  [(0,[slT false 6 ActV.row l]),(24,[.sl true 6 () ((l.take i).map ActV.row++List.replicate (l.length - i) [.pv (.int .i64 0),.pv (.int .i64 0),.pv (.int .i64 0),.pv (.string ⟨#[]⟩),.pv (.string ⟨#[]⟩),.pv (.int .i64 0)])])]⟩) (fun i=>i≤l.length) (fun i=>l.length - i) 0 ?_ (Nat.zero_le _) ?_
 ·simp -implicitDefEqProofs (maxSteps:=1000000) only [go_sem]; rfl
 ·intro i hi
  simp -implicitDefEqProofs (maxSteps:=1000000) only [go_sem]
  refine ⟨fun h=>?_,fun h=>?_⟩
  ·have hi':i < l.length:=by simp only [decide_eq_true_eq] at h; omega
   simp -implicitDefEqProofs (maxSteps:=1000000) only [go_sem,List.getElem?_eq_getElem hi',fill_len ActV.row l [.pv (.int .i64 0),.pv (.int .i64 0),.pv (.int .i64 0),.pv (.string ⟨#[]⟩),.pv (.string ⟨#[]⟩),.pv (.int .i64 0)] hi,storeAp,setCells,List.getD_eq_getElem?_getD,fill_get ActV.row l [.pv (.int .i64 0),.pv (.int .i64 0),.pv (.int .i64 0),.pv (.string ⟨#[]⟩),.pv (.string ⟨#[]⟩),.pv (.int .i64 0)] hi']
   refine .of (c_l_toAct _) ?_
   simp -implicitDefEqProofs (maxSteps:=1000000) only [go_sem,fill_len ActV.row l [.pv (.int .i64 0),.pv (.int .i64 0),.pv (.int .i64 0),.pv (.string ⟨#[]⟩),.pv (.string ⟨#[]⟩),.pv (.int .i64 0)] hi,storeAp,setCells,List.getD_eq_getElem?_getD,fill_get ActV.row l [.pv (.int .i64 0),.pv (.int .i64 0),.pv (.int .i64 0),.pv (.string ⟨#[]⟩),.pv (.string ⟨#[]⟩),.pv (.int .i64 0)] hi']
   repeat (first | refine ⟨by decide,?_⟩ | refine ⟨by simpa using hi',?_⟩)
   refine ⟨i + 1,?_,hi',by omega⟩
   rw [← fill_set ActV.row l [.pv (.int .i64 0),.pv (.int .i64 0),.pv (.int .i64 0),.pv (.string ⟨#[]⟩),.pv (.string ⟨#[]⟩),.pv (.int .i64 0)] hi',IntWalk.i64_in _ (by omega)]
   rfl
  ·have:i=l.length:=by simp only [decide_eq_false_iff_not] at h; omega
   subst this
   simp -implicitDefEqProofs (maxSteps:=1000000) only [go_sem,fill_len ActV.row l [.pv (.int .i64 0),.pv (.int .i64 0),.pv (.int .i64 0),.pv (.string ⟨#[]⟩),.pv (.string ⟨#[]⟩),.pv (.int .i64 0)] hi,fill_end]
   refine ⟨by simp,?_⟩
   simp [take_map]
def x_s_RecsOf:FnX:=⟨57,[.tmp 2],
  .q [.v 1 0,.op 2 (.mv (.k (.one (.nils 13))))]
 (.q [.f 6 1 1,.l 7 6,.op 8 (.build [.i 0,.e,.i 0,.nils 1,.i 0,.nils 1,.i 0,.F,.e,.i 0,.i 0,.i 0,.i 0] [(0,1,(.i 3)),(9,1,(.t 7))]),.op 9 (.bslice 13 [(.t 8)]),.m 3 9]
 (.seq (.q [.i 4 0]
 (.block 0 (.loop [1,3,4] (.seq (.q [.m 10 4,.f 11 1 0,.l 12 11,.n 13 12,.b 14 .lss 10 13]
 (.cond 14 .skip (.exit 0)))
 (.seq (.block 1 (.reg [.m 17 3,.f 18 1 0,.l 19 18,.m 20 4,.x 21 7 19 20,.L 22 7 21,.c 23 288 [22],.op 24 (.build [.i 0,.e,.i 0,.nils 1,.i 0,.nils 1,.i 0,.F,.e,.i 0,.i 0,.i 0,.i 0] [(0,1,(.i 1)),(1,7,(.t 23))]),.op 25 (.bslice 13 [(.t 24)]),.op 26 (.app 13 152 (.t 17) (.t 25)),.m 3 26]))
 (.reg [.m 15 4,.B 16 .add 15 1,.m 4 16]))))))
 (.norm [1,3] (.seq (.q [.i 5 0]
 (.block 2 (.loop [1,3,5] (.seq (.q [.m 27 5,.f 28 1 2,.l 29 28,.n 30 29,.b 31 .lss 27 30]
 (.cond 31 .skip (.exit 2)))
 (.seq (.block 3 (.draw [.m 34 3,.f 35 1 2,.l 36 35,.m 37 5,.x 38 3 36 37,.f 39 38 0,.l 40 39,.f 41 1 2,.l 42 41,.m 43 5,.x 44 3 42 43,.f 45 44 1,.l 46 45,.f 47 1 2,.l 48 47,.m 49 5,.x 50 3 48 49,.f 51 50 2,.l 52 51,.op 53 (.build [.i 0,.e,.i 0,.nils 1,.i 0,.nils 1,.i 0,.F,.e,.i 0,.i 0,.i 0,.i 0] [(0,1,(.i 4)),(10,1,(.t 40)),(11,1,(.t 46)),(12,1,(.t 52))]),.op 54 (.bslice 13 [(.t 53)]),.op 55 (.app 13 152 (.t 34) (.t 54)),.m 3 55] [[],[],[1],[],[2,3],[4],[5],[],[7],[],[8,9],[10],[11],[],[13],[],[14,15],[16],[17],[6,12,18],[19],[0,20],[21,21,0,1,2,3,4,5,6,7,8,9,10,11,12,13,14,15,16,17,18,19,20,21]]))
 (.reg [.m 32 5,.B 33 .add 32 1,.m 5 33]))))))
 (.norm [3] (.q [.m 56 3,.m 2 56]
 .ret))))))⟩
theorem r_s_RecsOf {Te:TE} (c_s_l9Copy:C_s_l9Copy Te):C_s_RecsOf (RF Te x_s_RecsOf):=by
 intro t h
 obtain ⟨⟨hR,hRl⟩,hM⟩:=h
 refine X0 x_s_RecsOf.eq_1 ?_
 refine loop_of (σ:=Nat×List RecV) (fun x=>⟨[(1,.bp 1 0),(3,.one (.rf 58 0 [] 13 0 x.2.length)),(4,.one (.pv (.int .i64 x.1)))],[(1,[.ro 7 (t.Rows.map (RowV.enc false)),.pv (.int .i64 t.Phase),.ro 3 (t.Marks.map MarkV.row)])],[(0,t.enc false),(58,[slT true 13 (RecV.enc true) x.2])]⟩) (fun x=>x.1≤t.Rows.length∧x.2.length=x.1 + 1∧x.2=recPhase t.Phase::(t.Rows.take x.1).map recRow) (fun x=>t.Rows.length - x.1) (0,[recPhase t.Phase]) ?_ ⟨Nat.zero_le _,rfl,rfl⟩ ?_
 ·simp -implicitDefEqProofs (maxSteps:=1000000) only [go_sem]
  try rfl
 ·rintro ⟨i,a⟩ ⟨hi,hl,he⟩
  simp only at hi hl he
  cases q:decide ((i:Int) < (t.Rows.length:Int))
  ·have k0:i=t.Rows.length:=by simp only [decide_eq_false_iff_not] at q; omega
   rw [k0,List.take_length] at he
   refine G1 q ?_
   refine loop_of (σ:=Nat×List RecV) (fun x=>⟨[(1,.bp 1 0),(3,.one (.rf 58 0 [] 13 0 x.2.length)),(5,.one (.pv (.int .i64 x.1)))],[(1,[.ro 7 (t.Rows.map (RowV.enc false)),.pv (.int .i64 t.Phase),.ro 3 (t.Marks.map MarkV.row)])],[(0,t.enc false),(58,[slT true 13 (RecV.enc true) x.2])]⟩) (fun x=>x.1≤t.Marks.length∧x.2.length=t.Rows.length + x.1 + 1∧x.2=recPhase t.Phase::(t.Rows.map recRow++(t.Marks.take x.1).map recMark)) (fun x=>t.Marks.length - x.1) (0,a) ?_ ⟨Nat.zero_le _,by simp only; omega,by simp only [List.take_zero,List.map_nil,List.append_nil]; exact he⟩ ?_
   ·simp -implicitDefEqProofs (maxSteps:=1000000) only [go_sem]
    try rfl
   ·rintro ⟨j,b⟩ ⟨hj,hbl,hbe⟩
    simp only at hj hbl hbe
    cases q2:decide ((j:Int) < (t.Marks.length:Int))
    ·have k2:j=t.Marks.length:=by simp only [decide_eq_false_iff_not] at q2; omega
     rw [k2,List.take_length] at hbe
     have e9:recsOf t=b:=hbe.symm
     have e8:List.take b.length (List.map (RecV.enc true) b)=List.map (RecV.enc true) b:=List.take_of_length_le (by simp)
     exact F3 q2 e9 e8
    ·have k2:j < t.Marks.length:=by simp only [decide_eq_true_eq] at q2; omega
     have ea:List.map (RecV.enc true) b++[[iT 4,sT ⟨#[]⟩,iT 0,Tr.sl true 1 () [],iT 0,Tr.sl true 1 () [],iT 0,bT false,sT ⟨#[]⟩,iT 0,iT t.Marks[j].Who,iT t.Marks[j].Seq,iT t.Marks[j].Code]]=List.map (RecV.enc true) (b++[recMark t.Marks[j]]):=by rw [List.map_append]; rfl
     have et:List.take b.length (List.map (RecV.enc true) b)=List.map (RecV.enc true) b:=List.take_of_length_le (by simp)
     refine G4 q2 (List.getElem?_eq_getElem k2) et ea ?_
     refine ⟨(j + 1,b++[recMark t.Marks[j]]),?_,⟨k2,?_,?_⟩,?_⟩
     ·rw [IntWalk.i64_in _ (by omega)]
      simp only [List.length_append]
      rfl
     ·simp only [List.length_append,List.length_cons,List.length_nil]; omega
     ·rw [hbe,recs_marks k2]
     ·simp only; omega
  ·have k1:i < t.Rows.length:=by simp only [decide_eq_true_eq] at q; omega
   have ea:List.map (RecV.enc true) a++[[iT 1,sT t.Rows[i].Key,iT t.Rows[i].Old.Tag,slT true 1 uR t.Rows[i].Old.B,iT t.Rows[i].New.Tag,slT true 1 uR t.Rows[i].New.B,iT t.Rows[i].Has,bT t.Rows[i].Aside,sT ⟨#[]⟩,iT 0,iT 0,iT 0,iT 0]]=List.map (RecV.enc true) (a++[recRow t.Rows[i]]):=by rw [List.map_append]; rfl
   have et:List.take a.length (List.map (RecV.enc true) a)=List.map (RecV.enc true) a:=List.take_of_length_le (by simp)
   refine G2 q (List.getElem?_eq_getElem k1) ?_
   refine C2 (c_s_l9Copy t.Rows[i] (hRl _ (List.getElem_mem k1))) et ea ?_
   refine ⟨(i + 1,a++[recRow t.Rows[i]]),?_,⟨k1,?_,?_⟩,?_⟩
   ·rw [IntWalk.i64_in _ (by omega)]
    simp only [List.length_append]
    rfl
   ·simp only [List.length_append,List.length_cons,List.length_nil]; omega
   ·rw [he,recs_rows k1]
   ·simp only; omega
def x_i_DevNew:FnX:=⟨10,[.cell 2 (some 4)],
  .q [.op 2 (.alloc [.nils 1,.nils 2,.i 0,.F])]
 (.seq (.q [.m 3 0,.op 4 (.call 90 [0,0,0] [(.t 3),(.i 1),(.i 64)]),.N 5 4]
 (.c 5 (.q [.op 6 (.build [.nils 1,.nils 2,.i 0,.F] []),.s 100001 4 2 6]
 .ret)))
 (.q [.m 7 0,.op 8 (.mks 1 24 [.sl true 1 () []] (.t 7)),.op 9 (.build [.nils 1,.nils 2,.i 0,.F] [(0,1,(.t 8)),(2,1,(.i (-1)))]),.s 100002 4 2 9]
 .ret))⟩
theorem r_i_DevNew {Te:TE} (c_i_within:C_i_within Te):C_i_DevNew (RF Te x_i_DevNew):=by
 intro n
 refine X0 x_i_DevNew.eq_1 ?_
 refine C0 (c_i_within _ _ _) ?_
 cases g:win n 1 64
 ·have e:devNew n=⟨[],[],0,false⟩:=by rw [devNew,g]; rfl
  exact F1 e
 ·have e:devNew n=⟨List.replicate n.toNat [],[],-1,false⟩:=by rw [devNew,g]; rfl
  have g':=g
  simp only [win,Bool.and_eq_true,decide_eq_true_eq] at g'
  have gz:decide (0≤n)=true:=decide_eq_true (by omega)
  have gr:=rep_secs n.toNat
  have et:List.take n.toNat (List.map (secR true) (List.replicate n.toNat []))=List.map (secR true) (List.replicate n.toNat []):=List.take_of_length_le (by simp)
  exact F4 gz gr e et
def x_s_DevNew:FnX:=⟨22,[.cell 2 (some 4)],
  .q [.op 2 (.alloc [.nils 1,.nils 2,.i 0,.F])]
 (.seq (.q [.m 5 0,.op 6 (.call 120 [0,0,0] [(.t 5),(.i 1),(.i 64)]),.N 7 6]
 (.c 7 (.q [.op 8 (.build [.nils 1,.nils 2,.i 0,.F] []),.s 100001 4 2 8]
 .ret)))
 (.q [.op 9 (.build [.nils 1,.nils 2,.i 0,.F] [(2,1,(.i (-1)))]),.op 3 (.alloc [.nils 1,.nils 2,.i 0,.F]),.s 100002 4 3 9]
 (.seq (.q [.i 4 0]
 (.up 3 0 300000 (.block 0 (.loop [0,2,3,4] (.seq (.q [.m 10 4,.m 11 0,.b 12 .lss 10 11]
 (.cond 12 .skip (.exit 0)))
 (.seq (.block 1 (.reg [.f 15 3 0,.l 16 15,.op 17 (.bslice 1 []),.op 18 (.bslice 1 [(.t 17)]),.op 19 (.app 1 24 (.t 16) (.t 18)),.f 20 3 0,.s 100003 1 20 19]))
 (.reg [.m 13 4,.B 14 .add 13 1,.m 4 14])))))))
 (.norm [2,3] (.q [.L 21 4 3,.s 100004 4 2 21]
 .ret)))))⟩
theorem r_s_DevNew {Te:TE} (c_s_l1In:C_s_l1In Te):C_s_DevNew (RF Te x_s_DevNew):=by
 intro n
 refine X0 x_s_DevNew.eq_1 ?_
 refine C0 (c_s_l1In _ _ _) ?_
 cases g:win n 1 64
 ·have e:devNew n=⟨[],[],0,false⟩:=by rw [devNew,g]; rfl
  exact F1 e
 ·have e:devNew n=⟨List.replicate n.toNat [],[],-1,false⟩:=by rw [devNew,g]; rfl
  have g':=g
  simp only [win,Bool.and_eq_true,decide_eq_true_eq] at g'
  refine G0 ?_
  refine loop_of (σ:=Nat×List (List UInt8)) (fun x=>⟨[(0,.one (.pv (.int .i64 n))),(2,.bp 2 0),(3,.bp 3 0),(4,.one (.pv (.int .i64 x.1)))],[(2,[.nils 1,.nils 2,.pv (.int .i64 0),.pv (.bool false)]),(3,[.rf 23 0 [] 1 0 x.2.length,.nils 2,.pv (.int .i64 (-1)),.pv (.bool false)])],[(0,[iT n]),(23,[slT true 1 (secR true) x.2])]⟩) (fun x=>x.1≤n.toNat∧x.2=List.replicate x.1 []) (fun x=>n.toNat - x.1) (0,[]) ?_ ⟨Nat.zero_le _,rfl⟩ ?_
  ·simp -implicitDefEqProofs (maxSteps:=1000000) only [go_sem]
   try rfl
  ·rintro ⟨i,l⟩ ⟨hi,he⟩
   simp only at hi he
   have hl:l.length=i:=by rw [he,List.length_replicate]
   cases q:decide ((i:Int) < n)
   ·have k0:i=n.toNat:=by simp only [decide_eq_false_iff_not] at q; omega
    have e2:devNew n=⟨l,[],-1,false⟩:=by rw [e,he,k0]
    exact F2 q e2
   ·have k1:i < n.toNat:=by simp only [decide_eq_true_eq] at q; omega
    have ea:List.map (secR true) l++[[Tr.sl true 1 () []]]=List.map (secR true) (l++[[]]):=app1S l []
    refine G2 q ea ?_
    refine ⟨(i + 1,l++[[]]),?_,⟨k1,by rw [he,rep_step]⟩,by simp only; omega⟩
    rw [IntWalk.i64_in _ (by omega)]
    simp only [List.length_append]
    rfl
def x_i_joined:FnX:=⟨18,[.tmp 2],
  .q [.op 2 (.mv (.k (.one (.nils 1))))]
 (.q [.op 6 (.bslice 1 []),.m 3 6]
 (.seq (.q [.m 7 0,.n 8 7,.i 9 0]
 (.block 0 (.loop [3,7,8,9] (.q [.b 10 .lss 9 8]
 (.seq (.cond 10 .skip (.exit 0))
 (.seq (.block 1 (.q [.x 11 1 7 9,.l 12 11,.m 5 12]
 (.reg [.m 13 3,.m 14 5,.op 15 (.app 1 1 (.t 13) (.t 14)),.m 3 15])))
 (.reg [.B 16 .add 9 1,.m 9 16])))))))
 (.norm [3] (.q [.m 17 3,.m 2 17]
 .ret))))⟩
theorem r_i_joined {Te:TE}:C_i_joined (RF Te x_i_joined):=by
 intro ps h h2
 refine run0 ?_
 simp -implicitDefEqProofs (maxSteps:=1000000) only [x_i_joined,go_sem]
 refine loop_of (σ:=Nat×List UInt8) (fun x=>⟨[(3,.one (.rf 19 0 [] 1 0 x.2.length)),(7,.one (.ro 1 (ps.map (bytesR false)))),(8,.one (.pv (.int .i64 ps.length))),(9,.one (.pv (.int .i64 x.1)))],[],[(0,[slT false 1 (bytesR false) ps]),(19,[slT true 1 uR x.2])]⟩) (fun x=>x.1≤ps.length∧x.2=(ps.take x.1).flatten) (fun x=>ps.length - x.1) (0,[]) ?_ ⟨Nat.zero_le _,rfl⟩ ?_
 ·simp -implicitDefEqProofs (maxSteps:=1000000) only [go_sem]; rfl
 ·rintro ⟨i,a⟩ ⟨hi,he⟩
  simp only at hi he
  simp -implicitDefEqProofs (maxSteps:=1000000) only [go_sem]
  refine ⟨fun h=>?_,fun h=>?_⟩
  ·have hi':i < ps.length:=by simp only [decide_eq_true_eq] at h; omega
   simp -implicitDefEqProofs (maxSteps:=1000000) only [go_sem,List.getElem?_eq_getElem hi']
   have hlen:a.length + ps[i].length≤ps.flatten.length:=by
    rw [he,← List.length_append]
    have e:=List.take_succ_eq_append_getElem hi'
    have:(ps.take i).flatten++ps[i]=(ps.take (i + 1)).flatten:=by rw [e,List.flatten_append]; simp
    rw [this]
    have h5:ps.flatten=(ps.take (i + 1)).flatten++(ps.drop (i + 1)).flatten:=by rw [← List.flatten_append,List.take_append_drop]
    rw [h5,List.length_append]
    omega
   refine ⟨⟨decide_eq_true (by omega),decide_eq_true (by omega)⟩,(i + 1,a++ps[i]),?_,⟨hi',?_⟩,by simp only; omega⟩
   ·rw [IntWalk.i64_in _ (by omega)]
    rw [show List.map uR a++List.map uR ps[i]=List.map uR (a++ps[i]) from List.map_append.symm,show a.length + ps[i].length=(a++ps[i]).length from List.length_append.symm]
    rfl
   ·rw [he,List.take_succ_eq_append_getElem hi',List.flatten_append]
    simp
  ·have hle:ps.length≤i:=by simp only [decide_eq_false_iff_not] at h; omega
   rw [List.take_of_length_le hle] at he
   subst he
   simp -implicitDefEqProofs (maxSteps:=1000000) only [go_sem]
def x_i_Sum:FnX:=⟨29,[.tmp 2],
  .q [.i 2 0]
 (.q [.i 3 65535]
 (.seq (.q [.m 6 0,.n 7 6,.i 8 0]
 (.block 0 (.loop [3,6,7,8] (.q [.b 9 .lss 8 7]
 (.seq (.cond 9 .skip (.exit 0))
 (.seq (.block 1 (.q [.x 10 1 6 8,.l 11 10,.m 5 11]
 (.q [.m 12 3,.m 13 5,.op 14 (.conv (.int .i64) (.t 13)),.op 15 (.bin .mul (.i 256) (.t 14)),.b 16 .xor 12 15,.m 3 16]
 (.q [.i 17 0]
 (.block 2 (.loop [3,6,7,8,17] (.q [.B 18 .lss 17 8]
 (.seq (.cond 18 .skip (.exit 2))
 (.seq (.block 3 (.q [.m 19 3,.B 20 .mul 19 2,.m 3 20]
 (.q [.m 21 3,.B 22 .gtr 21 65535]
 (.c 22 (.reg [.m 23 3,.B 24 .xor 23 69665,.m 3 24])))))
 (.reg [.B 25 .add 17 1,.m 17 25]))))))))))
 (.norm [3,6,7,8] (.reg [.B 26 .add 8 1,.m 8 26]))))))))
 (.norm [3] (.q [.m 27 3,.B 28 .and 27 65535,.m 2 28]
 .ret))))⟩
theorem r_i_Sum {Te:TE}:C_i_Sum (RF Te x_i_Sum):=by
 intro l h
 refine run0 ?_
 simp -implicitDefEqProofs (maxSteps:=1000000) only [x_i_Sum,go_sem]
 refine loop_of (σ:=Nat×Nat) (fun x=>⟨[(3,.one (.pv (.int .i64 x.2))),(6,.one (.ro 1 (l.map uR))),(7,.one (.pv (.int .i64 l.length))),(8,.one (.pv (.int .i64 x.1)))],[],[(0,[slT false 1 uR l])]⟩) (fun x=>x.1≤l.length∧x.2 < 65536∧x.2=(l.take x.1).foldl sumByte 65535) (fun x=>l.length - x.1) (0,65535) ?_ ⟨Nat.zero_le _,by decide,rfl⟩ ?_
 ·simp -implicitDefEqProofs (maxSteps:=1000000) only [go_sem]; rfl
 ·rintro ⟨i,s⟩ ⟨hi,hs,he⟩
  simp only at hi hs he
  simp -implicitDefEqProofs (maxSteps:=1000000) only [go_sem]
  refine ⟨fun h=>?_,fun h=>?_⟩
  ·have hi':i < l.length:=by simp only [decide_eq_true_eq] at h; omega
   have hb:=l[i].toNat_lt
   have e1:IntKind.i64.wrap (l[i].toNat:Int)=(l[i].toNat:Int):=IntWalk.i64_in _ (by omega)
   have e2:IntKind.i64.wrap (256 * (l[i].toNat:Int))=((256 * l[i].toNat:Nat):Int):=by rw [IntWalk.i64_in _ (by omega)]; rfl
   simp -implicitDefEqProofs (maxSteps:=1000000) only [go_sem,List.getElem?_eq_getElem hi',e1,e2,xor_nat s (256 * l[i].toNat) (by omega) (by omega)]
   have hx:=sumX_lt l[i] hs
   have e9:sumByte s l[i]=sumBits 8 (s ^^^ (256 * l[i].toNat)):=rfl
   generalize s ^^^ (256 * l[i].toNat)=S at *
   refine loop_of (σ:=Nat×Nat) (fun x=>⟨[(3,.one (.pv (.int .i64 x.2))),(6,.one (.ro 1 (l.map uR))),(7,.one (.pv (.int .i64 l.length))),(8,.one (.pv (.int .i64 i))),(17,.one (.pv (.int .i64 x.1)))],[],[(0,[slT false 1 uR l])]⟩) (fun x=>x.1≤8∧x.2=sumBits x.1 S) (fun x=>8 - x.1) (0,S) ?_ ⟨Nat.zero_le _,rfl⟩ ?_
   ·simp -implicitDefEqProofs (maxSteps:=1000000) only [go_sem]; rfl
   ·rintro ⟨j,v⟩ ⟨hj,hv⟩
    simp only at hj hv
    have hz:v < 65536:=by rw [hv]; exact sumBits_lt j hx
    have e3:IntKind.i64.wrap ((v:Int) * 2)=((2 * v:Nat):Int):=by rw [IntWalk.i64_in _ (by omega)]; omega
    have e4:=xor_nat (2 * v) 69665 (by omega) (by decide)
    have e5:((69665:Nat):Int)=69665:=rfl
    rw [e5] at e4
    have e6:sumBits (j + 1) S=sumBit v:=by rw [hv]; rfl
    simp -implicitDefEqProofs (maxSteps:=1000000) only [go_sem]
    refine ⟨fun h=>?_,fun h=>?_⟩
    ·have hj':j < 8:=by simp only [decide_eq_true_eq] at h; omega
     simp -implicitDefEqProofs (maxSteps:=1000000) only [go_sem,e3]
     refine ⟨fun h6=>?_,fun h6=>?_⟩
     ·simp -implicitDefEqProofs (maxSteps:=1000000) only [go_sem,e4]
      refine ⟨(j + 1,2 * v ^^^ 69665),by rw [IntWalk.i64_in _ (by omega)]; rfl,⟨hj',?_⟩,by simp only; omega⟩
      rw [e6,sumBit,if_pos (by simp only [decide_eq_true_eq] at h6; omega)]
     ·refine ⟨(j + 1,2 * v),by rw [IntWalk.i64_in _ (by omega)]; rfl,⟨hj',?_⟩,by simp only; omega⟩
      rw [e6,sumBit,if_neg (by simp only [decide_eq_false_iff_not] at h6; omega)]
    ·have hj':j=8:=by simp only [decide_eq_false_iff_not] at h; omega
     subst hj'
     rw [← e9] at hv
     refine ⟨(i + 1,v),by rw [IntWalk.i64_in _ (by omega)]; rfl,⟨hi',hz,?_⟩,by simp only; omega⟩
     simp only
     rw [List.take_succ_eq_append_getElem hi',List.foldl_append,← he,hv,List.foldl_cons,List.foldl_nil]
  ·have hle:l.length≤i:=by simp only [decide_eq_false_iff_not] at h; omega
   rw [List.take_of_length_le hle] at he
   have e7:=and_nat s 65535 (by omega) (by decide)
   have e8:((65535:Nat):Int)=65535:=rfl
   rw [e8] at e7
   simp -implicitDefEqProofs (maxSteps:=1000000) only [go_sem,e7,sum,← he]
def x_s_NodeGet:FnX:=⟨33,[.tmp 4,.tmp 5],
  .q [.v 2 0,.op 4 (.mv (.k (.one (.pv (.string ⟨#[]⟩))))),.i 5 0]
 (.seq (.q [.L 9 10 2,.c 10 64 [9],.N 11 10]
 (.c 11 (.q [.op 4 (.mv (.k (.one (.pv (.string ⟨#[]⟩))))),.i 5 1]
 .ret)))
 (.q [.f 12 2 0,.f 13 12 4,.L 14 3 13,.m 15 1,.c 16 104 [14,15],.m 6 16]
 (.seq (.q [.m 17 6,.B 18 .lss 17 0]
 (.c 18 (.q [.op 4 (.mv (.k (.one (.pv (.string ⟨#[]⟩))))),.i 5 2]
 .ret)))
 (.q [.f 20 2 0,.f 21 20 4,.f 22 21 0,.l 23 22,.m 24 6,.x 25 7 23 24,.L 26 7 25,.c 27 105 [26],.m 19 27,.e 28 19 0,.e 29 19 1,.m 7 28,.m 8 29]
 (.seq (.q [.m 30 8,.N 31 30]
 (.c 31 (.q [.op 4 (.mv (.k (.one (.pv (.string ⟨#[]⟩))))),.i 5 4]
 .ret)))
 (.q [.m 32 7,.m 4 32,.i 5 0]
 .ret))))))⟩
theorem r_s_NodeGet {Te:TE} (c_s_l15Up:C_s_l15Up Te) (c_s_RowAt:C_s_RowAt Te) (c_s_RowText:C_s_RowText Te):C_s_NodeGet (RF Te x_s_NodeGet):=by
 intro n key h
 refine X0 x_s_NodeGet.eq_1 ?_
 refine C0 (c_s_l15Up n h) ?_
 cases g:n.up
 ·have e:n.get key=(⟨#[]⟩,1):=by rw [NodeV.get,g]; rfl
  exact F1 e
 refine G0 ?_
 refine C0 (c_s_RowAt n.S.T key h.2.1.1) ?_
 rcases rowAt_cases n.S.T.Rows key with ⟨e1,e2⟩ | ⟨hk,e1,e2⟩
 ·have e:n.get key=(⟨#[]⟩,2):=by rw [NodeV.get,g,e2]; rfl
  exact F2 e1 e
 have hr:=rowOk_13 (TabV.ok_row (NodeV.up_tab g) hk)
 have c1:decide ((rowIx n.S.T.Rows key:Int) < 0)=false:=decide_eq_false (by omega)
 refine G3 e1 e2 c1 ?_
 refine C0 (c_s_RowText n.S.T.Rows[rowIx n.S.T.Rows key] hr) ?_
 cases g2:n.S.T.Rows[rowIx n.S.T.Rows key].rtext.2
 ·have e:n.get key=(⟨#[]⟩,4):=by rw [NodeV.get,g,e2]; simp only [if_true,g2]; rfl
  exact F2 e g2
 ·have e:n.get key=(n.S.T.Rows[rowIx n.S.T.Rows key].rtext.1,0):=by rw [NodeV.get,g,e2]; simp only [if_true,g2]
  exact F2 e g2
end Go.X

