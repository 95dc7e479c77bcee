/- Texts: CVf_2 CVzm_2 CT CVj_3 CVl_2 CVw CVze CVk CU CVs. -/
import Derived.Test.YtmmjaijeeeilcaaGreatDoorB04
set_option linter.unusedVariables false
set_option linter.unusedSimpArgs false
namespace Go.X
set_option maxRecDepth 100000
set_option maxHeartbeats 8000000
def x_i_TabOk:FnX:=⟨85,[.tmp 2],
  .q [.v 1 0,.F 2]
 (.seq (.q [.f 7 1 0,.l 8 7,.n 9 8,.i 10 0]
 (.block 0 (.loop [1,8,9,10] (.q [.b 11 .lss 10 9]
 (.seq (.cond 11 .skip (.exit 0))
 (.seq (.block 1 (.q [.m 12 10,.x 13 7 8 10,.L 14 7 13,.op 4 (.alloc [.e,.i 0,.nils 1,.i 0,.nils 1,.i 0,.F]),.m 3 12,.s 100001 7 4 14]
 (.seq (.draw [.L 15 7 4,.c 16 253 [15],.N 17 16,.m 18 17,.z 18 (.m 19 3),.z 18 (.B 20 .gtr 19 0),.z 18 (.m 21 20),.y 21 (.f 22 1 0),.y 21 (.l 23 22),.y 21 (.m 24 3),.y 21 (.B 25 .sub 24 1),.y 21 (.x 26 7 23 25),.y 21 (.f 27 26 0),.y 21 (.l 28 27),.y 21 (.f 29 4 0),.y 21 (.l 30 29),.y 21 (.b 31 .geq 28 30),.z 18 (.a 32 21 31),.r 33 18 32] [[],[0],[1],[2,1],[3],[4,3],[5,3,3],[6],[7,6],[6],[9,6],[8,10,6],[11,6],[12,6],[6],[14,6],[13,15,6],[6,16,3],[3,17]])
 (.c 33 (.q [.F 2]
 .ret)))))
 (.reg [.B 34 .add 10 1,.m 10 34])))))))
 (.norm [1] (.seq (.q [.f 35 1 2,.l 36 35,.n 37 36,.i 38 0]
 (.block 2 (.loop [1,36,37,38] (.q [.b 39 .lss 38 37]
 (.seq (.cond 39 .skip (.exit 2))
 (.seq (.block 3 (.q [.m 40 38,.x 41 3 36 38,.L 42 3 41,.op 6 (.alloc [.i 0,.i 0,.i 0]),.m 5 40,.s 100002 3 6 42]
 (.seq (.draw [.f 43 6 0,.l 44 43,.op 45 (.call 90 [0,0,0] [(.t 44),(.i 1),(.i 9)]),.N 46 45,.m 47 46,.z 47 (.f 48 6 1),.z 47 (.l 49 48),.z 47 (.c 50 247 [49]),.z 47 (.N 51 50),.r 52 47 51,.m 53 52,.z 53 (.f 54 6 2),.z 53 (.l 55 54),.z 53 (.op 56 (.call 90 [0,0,0] [(.t 55),(.i 0),(.i 6)])),.z 53 (.N 57 56),.r 58 53 57,.m 59 58,.z 59 (.m 60 5),.z 59 (.B 61 .gtr 60 0),.z 59 (.m 62 61),.y 62 (.f 63 1 2),.y 62 (.l 64 63),.y 62 (.m 65 5),.y 62 (.B 66 .sub 65 1),.y 62 (.x 67 3 64 66),.y 62 (.f 68 67 0),.y 62 (.l 69 68),.y 62 (.f 70 6 0),.y 62 (.l 71 70),.y 62 (.b 72 .geq 69 71),.z 59 (.a 73 62 72),.r 74 59 73] [[],[0],[1],[2],[3,2],[4],[5,4],[6,4,4],[7,4],[4,8],[9,7],[10],[11,10],[12,10,10],[13,10],[10,14],[15,13],[16],[17,16],[18,16,16],[19],[20,19],[19],[22,19],[21,23,19],[24,19],[25,19],[19],[27,19],[26,28,19],[19,29,16],[16,30]])
 (.c 74 (.q [.F 2]
 .ret)))))
 (.reg [.B 75 .add 38 1,.m 38 75])))))))
 (.norm [1] (.q [.f 76 1 0,.l 77 76,.n 78 77,.B 79 .leq 78 8,.m 80 79,.y 80 (.f 81 1 1),.y 80 (.l 82 81),.y 80 (.op 83 (.call 90 [0,0,0] [(.t 82),(.i 0),(.i 7)])),.a 84 80 83,.m 2 84]
 .ret)))))⟩
theorem r_i_TabOk {Te:TE} (c_i_RowOk:C_i_RowOk Te) (c_i_within:C_i_within Te) (c_i_isWord:C_i_isWord Te):C_i_TabOk (RF Te x_i_TabOk):=by
 intro t h
 obtain ⟨⟨hl,hR⟩,hM⟩:=h
 refine X0 x_i_TabOk.eq_1 ?_
 refine loop_of (σ:=Nat) (fun i=>⟨[(1,.bp 1 0),(8,.one (.ro 7 (t.Rows.map (RowV.enc false)))),(9,.one (.pv (.int .i64 t.Rows.length))),(10,.one (.pv (.int .i64 i)))],[(1,[.ro 7 (t.Rows.map (RowV.enc false)),.pv (.int .i64 t.Phase),.ro 3 (t.Marks.map MarkV.row)])],[(0,t.enc false)]⟩) (fun i=>i≤t.Rows.length∧∀ j,j < i→rowGood t.Rows j=true) (fun i=>t.Rows.length - i) 0 ?_ ⟨Nat.zero_le _,fun j hj=>absurd hj (Nat.not_lt_zero _)⟩ ?_
 ·simp -implicitDefEqProofs (maxSteps:=1000000) only [go_sem]
  try rfl
 ·rintro i ⟨hi,hp⟩
  cases q:decide ((i:Int) < (t.Rows.length:Int))
  ·have eR:=rng_end (f:=rowGood t.Rows) (show t.Rows.length≤i by simp only [decide_eq_false_iff_not] at q; omega) hp
   refine G1 q ?_
   refine loop_of (σ:=Nat) (fun i=>⟨[(1,.bp 1 0),(36,.one (.ro 3 (t.Marks.map MarkV.row))),(37,.one (.pv (.int .i64 t.Marks.length))),(38,.one (.pv (.int .i64 i)))],[(1,[.ro 7 (t.Rows.map (RowV.enc false)),.pv (.int .i64 t.Phase),.ro 3 (t.Marks.map MarkV.row)])],[(0,t.enc false)]⟩) (fun i=>i≤t.Marks.length∧∀ j,j < i→markGood t.Marks j=true) (fun i=>t.Marks.length - i) 0 ?_ ⟨Nat.zero_le _,fun j hj=>absurd hj (Nat.not_lt_zero _)⟩ ?_
   ·simp -implicitDefEqProofs (maxSteps:=1000000) only [go_sem]
    try rfl
   ·rintro i ⟨hi,hp⟩
    cases q:decide ((i:Int) < (t.Marks.length:Int))
    ·have eM:=rng_end (f:=markGood t.Marks) (show t.Marks.length≤i by simp only [decide_eq_false_iff_not] at q; omega) hp
     refine G1 q ?_
     cases gl:decide ((t.Rows.length:Int)≤8)
     ·have e:t.ok=false:=by simp only [TabV.ok,gl,Bool.and_false,Bool.false_and]
      exact F2 gl e
     ·have e:t.ok=win t.Phase 0 7:=by simp only [TabV.ok,eR,eM,gl,Bool.true_and]
      refine G1 gl ?_
      exact D1 (c_i_within _ _ _) e
    ·have k1:i < t.Marks.length:=by simp only [decide_eq_true_eq] at q; omega
     cases i with
     | zero =>
      have z:decide (((0:Nat):Int) > 0)=false:=rfl
      have good0:=markGood_zero k1
      refine G3 q (List.getElem?_eq_getElem k1) z ?_
      refine C0 (c_i_within _ _ _) ?_
      cases a1:win t.Marks[0].Who 1 9
      ·have g:t.Marks[0].ok=false:=by simp only [MarkV.ok,a1,Bool.false_and]
       have e:t.ok=false:=by simp only [TabV.ok,rng_not k1 (good0.trans g),Bool.and_false,Bool.false_and]
       exact F1 e
      refine G0 ?_
      refine C0 (c_i_isWord _) ?_
      cases a2:win t.Marks[0].Seq 0 65535
      ·have g:t.Marks[0].ok=false:=by simp only [MarkV.ok,a2,Bool.and_false,Bool.false_and]
       have e:t.ok=false:=by simp only [TabV.ok,rng_not k1 (good0.trans g),Bool.and_false,Bool.false_and]
       exact F1 e
      refine G0 ?_
      refine C0 (c_i_within _ _ _) ?_
      cases a3:win t.Marks[0].Code 0 6
      ·have g:t.Marks[0].ok=false:=by simp only [MarkV.ok,a3,Bool.and_false]
       have e:t.ok=false:=by simp only [TabV.ok,rng_not k1 (good0.trans g),Bool.and_false,Bool.false_and]
       exact F1 e
      have g:t.Marks[0].ok=true:=by simp only [MarkV.ok,a1,a2,a3,Bool.and_true]
      refine G1 z ?_
      refine ⟨1,by rw [IntWalk.i64_in _ (by omega)]; rfl,⟨k1,rng_step hp (good0.trans g)⟩,by omega⟩
     | succ j =>
      have k0:j < t.Marks.length:=by omega
      have z:decide (((j + 1:Nat):Int) > 0)=true:=decide_eq_true (by omega)
      have ew:IntKind.i64.wrap (((j + 1:Nat):Int) - 1)=(j:Int):=by rw [IntWalk.i64_in _ (by omega)]; omega
      have good1:=markGood_succ k1
      refine G3 q (List.getElem?_eq_getElem k1) z ?_
      refine C0 (c_i_within _ _ _) ?_
      cases a1:win t.Marks[j + 1].Who 1 9
      ·have g:t.Marks[j + 1].ok=false:=by simp only [MarkV.ok,a1,Bool.false_and]
       have gg:markGood t.Marks (j + 1)=false:=by rw [good1,g,Bool.false_and]
       have e:t.ok=false:=by simp only [TabV.ok,rng_not k1 gg,Bool.and_false,Bool.false_and]
       exact F1 e
      refine G0 ?_
      refine C0 (c_i_isWord _) ?_
      cases a2:win t.Marks[j + 1].Seq 0 65535
      ·have g:t.Marks[j + 1].ok=false:=by simp only [MarkV.ok,a2,Bool.and_false,Bool.false_and]
       have gg:markGood t.Marks (j + 1)=false:=by rw [good1,g,Bool.false_and]
       have e:t.ok=false:=by simp only [TabV.ok,rng_not k1 gg,Bool.and_false,Bool.false_and]
       exact F1 e
      refine G0 ?_
      refine C0 (c_i_within _ _ _) ?_
      cases a3:win t.Marks[j + 1].Code 0 6
      ·have g:t.Marks[j + 1].ok=false:=by simp only [MarkV.ok,a3,Bool.and_false]
       have gg:markGood t.Marks (j + 1)=false:=by rw [good1,g,Bool.false_and]
       have e:t.ok=false:=by simp only [TabV.ok,rng_not k1 gg,Bool.and_false,Bool.false_and]
       exact F1 e
      have g:t.Marks[j + 1].ok=true:=by simp only [MarkV.ok,a1,a2,a3,Bool.and_true]
      cases g2:decide (t.Marks[j].Who≥t.Marks[j + 1].Who)
      ·have gg:markGood t.Marks (j + 1)=true:=by rw [good1,g,g2]; rfl
       try simp -implicitDefEqProofs (maxSteps:=1000000) only [go_sem,z,ew,List.getElem?_eq_getElem k0,List.getElem?_eq_getElem k1,g2]
       repeat refine ⟨sc,?_⟩
       try exact sf
       refine ⟨j + 2,by rw [IntWalk.i64_in _ (by omega)]; rfl,⟨k1,rng_step hp gg⟩,by omega⟩
      ·have gg:markGood t.Marks (j + 1)=false:=by rw [good1,g2]; simp only [Bool.not_true,Bool.and_false]
       have e:t.ok=false:=by simp only [TabV.ok,rng_not k1 gg,Bool.and_false,Bool.false_and]
       try simp -implicitDefEqProofs (maxSteps:=1000000) only [go_sem,z,ew,List.getElem?_eq_getElem k0,List.getElem?_eq_getElem k1,g2,e]
       repeat refine ⟨sc,?_⟩
       try exact sf
  ·have k1:i < t.Rows.length:=by simp only [decide_eq_true_eq] at q; omega
   cases i with
   | zero =>
    have z:decide (((0:Nat):Int) > 0)=false:=rfl
    have good0:=rowGood_zero k1
    refine G3 q (List.getElem?_eq_getElem k1) z ?_
    refine C0 (c_i_RowOk t.Rows[0] (hR _ (List.getElem_mem k1))) ?_
    cases g:t.Rows[0].ok
    ·have e:t.ok=false:=by simp only [TabV.ok,rng_not k1 (good0.trans g),Bool.false_and]
     exact F1 e
    ·refine G1 z ?_
     refine ⟨1,by rw [IntWalk.i64_in _ (by omega)]; rfl,⟨k1,rng_step hp (good0.trans g)⟩,by omega⟩
   | succ j =>
    have k0:j < t.Rows.length:=by omega
    have z:decide (((j + 1:Nat):Int) > 0)=true:=decide_eq_true (by omega)
    have ew:IntKind.i64.wrap (((j + 1:Nat):Int) - 1)=(j:Int):=by rw [IntWalk.i64_in _ (by omega)]; omega
    have good1:=rowGood_succ k1
    refine G3 q (List.getElem?_eq_getElem k1) z ?_
    refine C0 (c_i_RowOk t.Rows[j + 1] (hR _ (List.getElem_mem k1))) ?_
    cases g:t.Rows[j + 1].ok
    ·have gg:rowGood t.Rows (j + 1)=false:=by rw [good1,g,Bool.false_and]
     have e:t.ok=false:=by simp only [TabV.ok,rng_not k1 gg,Bool.false_and]
     exact F1 e
    ·cases g2:Op.bytesLess t.Rows[j].Key.toList t.Rows[j + 1].Key.toList
     ·have gg:rowGood t.Rows (j + 1)=false:=by rw [good1,g2,Bool.and_false]
      have e:t.ok=false:=by simp only [TabV.ok,rng_not k1 gg,Bool.false_and]
      try simp -implicitDefEqProofs (maxSteps:=1000000) only [go_sem,z,ew,List.getElem?_eq_getElem k0,List.getElem?_eq_getElem k1,g2,e]
      repeat refine ⟨sc,?_⟩
      try exact sf
     ·have gg:rowGood t.Rows (j + 1)=true:=by rw [good1,g,g2]; rfl
      try simp -implicitDefEqProofs (maxSteps:=1000000) only [go_sem,z,ew,List.getElem?_eq_getElem k0,List.getElem?_eq_getElem k1,g2]
      repeat refine ⟨sc,?_⟩
      try exact sf
      refine ⟨j + 2,by rw [IntWalk.i64_in _ (by omega)]; rfl,⟨k1,rng_step hp gg⟩,by omega⟩
def x_s_l15Do:FnX:=⟨145,[],
  .q [.m 20 0,.op 21 (.call 96 [5,0] [(.t 20),(.i 8)])]
 (.block 0 (.q [.B 55 .eql 21 0,.m 54 55]
 (.cond 54 (.seq (.draw [.m 57 1,.op 58 (.nilc (.t 57)),.L 59 10 58,.m 60 0,.op 61 (.call 96 [5,0] [(.t 60),(.i 8)]),.c 62 38 [59,61],.m 56 62,.e 63 56 0,.e 64 56 1,.op 4 (.alloc [.nils 1,.nils 2,.i 0,.F,.nils 7,.i 0,.nils 3,.i 0,.i 0,.i 0]),.s 100001 10 4 63,.m 5 64] [[],[0],[1],[],[3],[2,4,4],[5],[6],[6],[],[9,7,5,0,1,2,3,4,5,6,7,9],[8,10,0,1,2,3,4,5,6,7,8,9,10]])
 (.reg [.m 65 1,.L 66 10 4,.op 67 (.nilc (.t 65)),.s 100002 10 67 66])) (.q [.B 69 .eql 21 1,.m 68 69]
 (.cond 68 (.seq (.draw [.m 71 1,.op 72 (.nilc (.t 71)),.L 73 10 72,.m 74 1,.op 75 (.nilc (.t 74)),.f 76 75 0,.f 77 76 4,.f 78 77 1,.l 79 78,.B 80 .add 79 1,.c 81 38 [73,80],.m 70 81,.e 82 70 0,.e 83 70 1,.op 6 (.alloc [.nils 1,.nils 2,.i 0,.F,.nils 7,.i 0,.nils 3,.i 0,.i 0,.i 0]),.s 100003 10 6 82,.m 7 83] [[],[0],[1],[],[3],[4],[5],[6],[7],[8],[2,9],[10],[11],[11],[],[14,12,10,0,1,2,3,4,5,6,7,8,9,10,11,12,14],[13,15,0,1,2,3,4,5,6,7,8,9,10,11,12,13,14,15]])
 (.reg [.m 84 1,.L 85 10 6,.op 86 (.nilc (.t 84)),.s 100004 10 86 85])) (.q [.B 88 .eql 21 2,.m 87 88]
 (.cond 87 (.seq (.draw [.m 90 1,.op 91 (.nilc (.t 90)),.L 92 10 91,.m 93 0,.op 94 (.call 96 [5,0] [(.t 93),(.i 2)]),.op 95 (.bin .add (.i 1) (.t 94)),.m 96 0,.op 97 (.call 96 [5,0] [(.t 96),(.i 30)]),.op 98 (.bin .add (.i 1) (.t 97)),.m 99 0,.op 100 (.call 93 [5] [(.t 99)]),.c 101 35 [92,95,98,100],.m 89 101,.e 102 89 0,.e 103 89 1,.e 104 89 2,.op 8 (.alloc [.nils 1,.nils 2,.i 0,.F,.nils 7,.i 0,.nils 3,.i 0,.i 0,.i 0]),.s 100005 10 8 102,.m 9 103,.m 10 104] [[],[0],[1],[],[3],[4],[],[6,4],[7],[],[9,7],[2,5,8,10,10],[11],[12],[12],[12],[],[16,13,11,0,1,2,3,4,5,6,7,8,9,10,11,12,13,16],[14,17,0,1,2,3,4,5,6,7,8,9,10,11,12,13,14,16,17],[15,18,0,1,2,3,4,5,6,7,8,9,10,11,12,13,14,15,16,17,18]])
 (.reg [.m 105 1,.L 106 10 8,.op 107 (.nilc (.t 105)),.s 100006 10 107 106])) (.q [.B 109 .eql 21 3,.m 108 109]
 (.cond 108 (.seq (.draw [.m 111 1,.op 112 (.nilc (.t 111)),.L 113 10 112,.m 114 0,.op 115 (.call 93 [5] [(.t 114)]),.m 116 0,.m 117 1,.op 118 (.nilc (.t 117)),.f 119 118 9,.l 120 119,.op 121 (.call 97 [5,0] [(.t 116),(.t 120)]),.c 122 29 [113,115,121],.m 110 122,.e 123 110 0,.e 124 110 1,.op 11 (.alloc [.nils 1,.nils 2,.i 0,.F,.nils 7,.i 0,.nils 3,.i 0,.i 0,.i 0]),.s 100007 10 11 123,.m 12 124] [[],[0],[1],[],[3],[],[],[6],[7],[8],[5,9,4],[2,4,10,10],[11],[12],[12],[],[15,13,11,0,1,2,3,4,5,6,7,8,9,10,11,12,13,15],[14,16,0,1,2,3,4,5,6,7,8,9,10,11,12,13,14,15,16]])
 (.reg [.m 125 1,.L 126 10 11,.op 127 (.nilc (.t 125)),.s 100008 10 127 126])) (.q [.B 129 .eql 21 4,.m 128 129]
 (.cond 128 (.seq (.draw [.m 131 1,.op 132 (.nilc (.t 131)),.L 133 10 132,.m 134 0,.op 135 (.bslice 1 [(.k (.one (.pv (.string ⟨#[]⟩)))),(.k (.one (.pv (.string ⟨#[97]⟩)))),(.k (.one (.pv (.string ⟨#[98]⟩))))]),.op 136 (.call 114 [5,1] [(.t 134),(.t 135)]),.c 137 40 [133,136],.m 130 137,.e 138 130 0,.e 139 130 1,.e 140 130 2,.e 141 130 3,.op 13 (.alloc [.nils 1,.nils 2,.i 0,.F,.nils 7,.i 0,.nils 3,.i 0,.i 0,.i 0]),.s 100009 10 13 138,.m 14 139,.m 15 140,.m 16 141] [[],[0],[1],[],[],[3,4],[2,5,5],[6],[7],[7],[7],[7],[],[12,8,6,0,1,2,3,4,5,6,7,8,12],[9,13,0,1,2,3,4,5,6,7,8,9,12,13],[10,14,0,1,2,3,4,5,6,7,8,9,10,12,13,14],[11,15,0,1,2,3,4,5,6,7,8,9,10,11,12,13,14,15]])
 (.reg [.m 142 1,.L 143 10 13,.op 144 (.nilc (.t 142)),.s 100010 10 144 143])) (.seq (.draw [.m 23 1,.op 24 (.nilc (.t 23)),.L 25 10 24,.m 26 0,.op 27 (.call 96 [5,0] [(.t 26),(.i 2)]),.op 28 (.bin .add (.i 1) (.t 27)),.m 29 0,.op 30 (.call 96 [5,0] [(.t 29),(.i 30)]),.op 31 (.bin .add (.i 1) (.t 30)),.m 32 0,.op 33 (.call 93 [5] [(.t 32)]),.m 34 0,.m 35 0,.m 36 1,.op 37 (.nilc (.t 36)),.f 38 37 9,.l 39 38,.m 40 1,.op 41 (.nilc (.t 40)),.f 42 41 9,.l 43 42,.op 44 (.bslice 1 [(.t 39),(.t 43),(.i 0)]),.op 45 (.call 70 [5,1] [(.t 35),(.t 44)]),.op 46 (.call 106 [5,0,0] [(.t 34),(.t 45),(.i 5)]),.c 47 33 [25,28,31,33,46],.m 22 47,.e 48 22 0,.e 49 22 1,.e 50 22 2,.op 17 (.alloc [.nils 1,.nils 2,.i 0,.F,.nils 7,.i 0,.nils 3,.i 0,.i 0,.i 0]),.s 100011 10 17 48,.m 18 49,.m 19 50] [[],[0],[1],[],[3],[4],[],[6,4],[7],[],[9,7],[],[],[],[13],[14],[15],[],[17],[18],[19],[16,20],[12,21,10],[11,22,22],[2,5,8,10,23,23],[24],[25],[25],[25],[],[29,26,24,0,1,2,3,4,5,6,7,8,9,10,11,12,13,14,15,16,17,18,19,20,21,22,23,24,25,26,29],[27,30,0,1,2,3,4,5,6,7,8,9,10,11,12,13,14,15,16,17,18,19,20,21,22,23,24,25,26,27,29,30],[28,31,0,1,2,3,4,5,6,7,8,9,10,11,12,13,14,15,16,17,18,19,20,21,22,23,24,25,26,27,28,29,30,31]])
 (.reg [.m 51 1,.L 52 10 17,.op 53 (.nilc (.t 51)),.s 100012 10 53 52])))))))))))))⟩
theorem r_s_l15Do {Te:TE} (c_s_l1Below:C_s_l1Below Te) (c_s_NodePhase:C_s_NodePhase Te) (c_s_l1Name:C_s_l1Name Te) (c_s_NodeDel:C_s_NodeDel Te) (c_s_l5Bytes:C_s_l5Bytes Te) (c_s_NodeLoad:C_s_NodeLoad Te) (c_s_l1Str:C_s_l1Str Te) (c_s_NodeStep:C_s_NodeStep Te) (c_s_l1Int:C_s_l1Int Te) (c_s_l5Text:C_s_l5Text Te) (c_s_NodePut:C_s_NodePut Te):∀ (c:CurV) (n:NodeV) (g:Int) (hc:c.ok) (hn:n.calm g 30) (hg:g + 2 < 60000),∃ r0,(∃ (m:NodeV) (d:CurV),(m.calm (g + 2) 30∧d.ok)∧r0=(⟨[],[d.enc,m.enc true]⟩:Res))∧RunFn Te x_s_l15Do [.ptr c.enc,.ptr (n.enc true)] r0:=by
 intro c n g hc hn hg
 refine some_of (Nat.le_of_ble_eq_true rfl) (by rfl) ?_
 have hN:=up_in hn.1
 simp -implicitDefEqProofs (maxSteps:=1000000) only [x_s_l15Do,go_sem]
 repeat refine ⟨sc,?_⟩
 try exact sf
 obtain ⟨k,d0,⟨⟨hk0,hk1,_⟩,hd0⟩,ht⟩:=c_s_l1Below c 8 hc
 have hk8:=hk1 (by decide)
 by_cases q0:k=0
 ·subst q0
  obtain ⟨p,d,⟨_,hd⟩,ht1⟩:=c_s_l1Below d0 8 hd0
  refine C0 (ht) ?_
  refine C0 (ht1) ?_
  refine C0 (c_s_NodePhase n p hN) ?_
  exact ⟨(n.phase p).1,d,⟨(phase_calm p hn (by omega)).mono (by omega),hd⟩,rfl⟩
 by_cases q1:k=1
 ·subst q1
  refine C0 (ht) ?_
  refine C0 (c_s_NodePhase n (IntKind.i64.wrap (n.S.T.Phase + 1)) hN) ?_
  exact ⟨(n.phase (IntKind.i64.wrap (n.S.T.Phase + 1))).1,d0,⟨(phase_calm _ hn (by omega)).mono (by omega),hd0⟩,rfl⟩
 by_cases q2:k=2
 ·subst q2
  obtain ⟨u,d1,⟨⟨hu0,hu1,_⟩,hd1⟩,ht1⟩:=c_s_l1Below d0 2 hd0
  obtain ⟨v,d2,⟨⟨hv0,hv1,_⟩,hd2⟩,ht2⟩:=c_s_l1Below d1 30 hd1
  obtain ⟨key,d3,⟨hk6,hd3⟩,ht3⟩:=c_s_l1Name d2 hd2
  have hv30:=hv1 (by decide)
  have w:IntKind.i64.wrap (1 + v)=1 + v:=IntWalk.i64_in _ (by omega)
  refine C0 (ht) ?_
  refine C0 (ht1) ?_
  refine C1 (ht2) w ?_
  refine C0 (ht3) ?_
  refine C0 (c_s_NodeDel n (IntKind.i64.wrap (1 + u)) (1 + v) key hN (by omega)) ?_
  exact ⟨(n.del (IntKind.i64.wrap (1 + u)) (1 + v) key).1,d3,⟨(del_calm key hn (by omega) (by omega)).mono (by omega),hd3⟩,rfl⟩
 by_cases q3:k=3
 ·subst q3
  obtain ⟨key,d1,⟨hk6,hd1⟩,ht1⟩:=c_s_l1Name d0 hd0
  obtain ⟨b,d2,⟨hb,hd2⟩,ht2⟩:=c_s_l5Bytes d1 n.Cs hd1
  refine C0 (ht) ?_
  refine C0 (ht1) ?_
  refine C0 (ht2) ?_
  refine C0 (c_s_NodeLoad n key b hN (by omega) (by omega)) ?_
  exact ⟨(n.load key b).1,d2,⟨(load_calm key b hn (by omega)).mono (by omega),hd2⟩,rfl⟩
 by_cases q4:k=4
 ·subst q4
  obtain ⟨f,d1,⟨_,hd1⟩,ht1⟩:=c_s_l1Str d0 [⟨#[]⟩,⟨#[97]⟩,⟨#[98]⟩] hd0 (by decide)
  refine C0 (ht) ?_
  refine C0 (ht1) ?_
  refine C0 (c_s_NodeStep n f hN) ?_
  exact ⟨(n.step f).1,d1,⟨step_calm f hn hg,hd1⟩,rfl⟩
 have e:∀ j:Int,k≠j→(k==j)=false:=fun j h=>by simpa using h
 obtain ⟨u,d1,⟨⟨hu0,hu1,_⟩,hd1⟩,ht1⟩:=c_s_l1Below d0 2 hd0
 obtain ⟨v,d2,⟨⟨hv0,hv1,_⟩,hd2⟩,ht2⟩:=c_s_l1Below d1 30 hd1
 obtain ⟨key,d3,⟨hk6,hd3⟩,ht3⟩:=c_s_l1Name d2 hd2
 obtain ⟨cs,d4,⟨_,hd4⟩,ht4⟩:=c_s_l1Int d3 [n.Cs,n.Cs,0] hd3 (by simp)
 obtain ⟨s,d5,⟨hs,hd5⟩,ht5⟩:=c_s_l5Text d4 cs 5 hd4 (by decide)
 replace hs:s.size≤20:=hs
 have hv30:=hv1 (by decide)
 have w:IntKind.i64.wrap (1 + v)=1 + v:=IntWalk.i64_in _ (by omega)
 refine .of (ht) ?_
 try simp -implicitDefEqProofs (maxSteps:=1000000) only [go_sem,e 0 q0,e 1 q1,e 2 q2,e 3 q3,e 4 q4]
 repeat refine ⟨sc,?_⟩
 try exact sf
 refine C0 (ht1) ?_
 refine C1 (ht2) w ?_
 refine C0 (ht3) ?_
 refine C0 (ht4) ?_
 refine C0 (ht5) ?_
 refine C0 (c_s_NodePut n (IntKind.i64.wrap (1 + u)) (1 + v) key s hN (by omega) (by omega)) ?_
 exact ⟨(n.putIn (IntKind.i64.wrap (1 + u)) (1 + v) key s).1,d5,⟨(put_calm key s hn (by omega) (by omega)).mono (by omega),hd5⟩,rfl⟩
def x_s_SignOk:FnX:=⟨10,[.tmp 2],
  .q [.F 2]
 (.q [.m 3 0,.op 4 (.call 120 [0,0,0] [(.t 3),(.i 0),(.i 1114111)]),.m 5 4,.y 5 (.m 6 0),.y 5 (.op 7 (.call 120 [0,0,0] [(.t 6),(.i 55296),(.i 57343)])),.y 5 (.N 8 7),.a 9 5 8,.m 2 9]
 .ret)⟩
theorem r_s_SignOk {Te:TE} (c_s_l1In:C_s_l1In Te):C_s_SignOk (RF Te x_s_SignOk):=by
 intro n
 refine run0 ?_
 simp -implicitDefEqProofs (maxSteps:=1000000) only [x_s_SignOk,go_sem,signOk]
 repeat refine ⟨sc,?_⟩
 try exact sf
 refine C0 (c_s_l1In _ _ _) ?_
 cases g1:win n 0 1114111
 ·exact F0
 ·refine G0 ?_
  exact D0 (c_s_l1In _ _ _)
def x_i_SignOk:FnX:=⟨10,[.tmp 2],
  .q [.F 2]
 (.q [.m 3 0,.op 4 (.call 90 [0,0,0] [(.t 3),(.i 0),(.i 1114111)]),.m 5 4,.y 5 (.m 6 0),.y 5 (.op 7 (.call 90 [0,0,0] [(.t 6),(.i 55296),(.i 57343)])),.y 5 (.N 8 7),.a 9 5 8,.m 2 9]
 .ret)⟩
theorem r_i_SignOk {Te:TE} (c_i_within:C_i_within Te):C_i_SignOk (RF Te x_i_SignOk):=by
 intro n
 refine run0 ?_
 simp -implicitDefEqProofs (maxSteps:=1000000) only [x_i_SignOk,go_sem,signOk]
 repeat refine ⟨sc,?_⟩
 try exact sf
 refine C0 (c_i_within _ _ _) ?_
 cases g1:win n 0 1114111
 ·exact F0
 ·refine G0 ?_
  exact D0 (c_i_within _ _ _)
def x_s_PutSign:FnX:=⟨76,[.tmp 4],
  .q [.op 4 (.mv (.k (.one (.nils 1))))]
 (.q [.op 6 (.bslice 1 []),.m 7 0,.op 8 (.app 1 1 (.t 6) (.t 7)),.m 5 8]
 (.seq (.block 0 (.q [.m 10 1,.c 11 275 [10],.N 12 11,.m 9 12]
 (.cond 9 (.q [.m 13 5,.m 4 13]
 .ret) (.q [.m 15 1,.B 16 .leq 15 127,.m 14 16]
 (.cond 14 (.q [.m 17 5,.m 18 1,.op 19 (.conv (.int .u8) (.t 18)),.op 20 (.bslice 1 [(.t 19)]),.op 21 (.app 1 1 (.t 17) (.t 20)),.m 4 21]
 .ret) (.q [.m 23 1,.B 24 .leq 23 2047,.m 22 24]
 (.cond 22 (.q [.m 25 5,.m 26 1,.op 27 (.bin .shr (.t 26) (.k (.one (.pv (.int .u64 6))))),.op 28 (.bin .or (.i 192) (.t 27)),.op 29 (.conv (.int .u8) (.t 28)),.m 30 1,.B 31 .and 30 63,.op 32 (.bin .or (.i 128) (.t 31)),.op 33 (.conv (.int .u8) (.t 32)),.op 34 (.bslice 1 [(.t 29),(.t 33)]),.op 35 (.app 1 1 (.t 25) (.t 34)),.m 4 35]
 .ret) (.q [.m 37 1,.B 38 .leq 37 65535,.m 36 38]
 (.c 36 (.q [.m 39 5,.m 40 1,.op 41 (.bin .shr (.t 40) (.k (.one (.pv (.int .u64 12))))),.op 42 (.bin .or (.i 224) (.t 41)),.op 43 (.conv (.int .u8) (.t 42)),.m 44 1,.op 45 (.bin .shr (.t 44) (.k (.one (.pv (.int .u64 6))))),.B 46 .and 45 63,.op 47 (.bin .or (.i 128) (.t 46)),.op 48 (.conv (.int .u8) (.t 47)),.m 49 1,.B 50 .and 49 63,.op 51 (.bin .or (.i 128) (.t 50)),.op 52 (.conv (.int .u8) (.t 51)),.op 53 (.bslice 1 [(.t 43),(.t 48),(.t 52)]),.op 54 (.app 1 1 (.t 39) (.t 53)),.m 4 54]
 .ret))))))))))
 (.q [.m 55 5,.m 56 1,.op 57 (.bin .shr (.t 56) (.k (.one (.pv (.int .u64 18))))),.op 58 (.bin .or (.i 240) (.t 57)),.op 59 (.conv (.int .u8) (.t 58)),.m 60 1,.op 61 (.bin .shr (.t 60) (.k (.one (.pv (.int .u64 12))))),.B 62 .and 61 63,.op 63 (.bin .or (.i 128) (.t 62)),.op 64 (.conv (.int .u8) (.t 63)),.m 65 1,.op 66 (.bin .shr (.t 65) (.k (.one (.pv (.int .u64 6))))),.B 67 .and 66 63,.op 68 (.bin .or (.i 128) (.t 67)),.op 69 (.conv (.int .u8) (.t 68)),.m 70 1,.B 71 .and 70 63,.op 72 (.bin .or (.i 128) (.t 71)),.op 73 (.conv (.int .u8) (.t 72)),.op 74 (.bslice 1 [(.t 59),(.t 64),(.t 69),(.t 73)]),.op 75 (.app 1 1 (.t 55) (.t 74)),.m 4 75]
 .ret)))⟩
theorem r_s_PutSign {Te:TE} (c_s_SignOk:C_s_SignOk Te):C_s_PutSign (RF Te x_s_PutSign):=by
 intro b n hb
 cases hn:signOk n
 ·refine X0 x_s_PutSign.eq_1 ?_
  refine .of (c_s_SignOk _) ?_
  try simp -implicitDefEqProofs (maxSteps:=1000000) only [go_sem,putSign,hn,if_false]
  repeat refine ⟨sc,?_⟩
  try exact sf
  try rfl
 obtain ⟨h0,h1,_⟩:=signOk_in hn
 obtain ⟨m,rfl⟩:∃ m:Nat,n=m:=⟨n.toNat,by omega⟩
 have ep:putSign b (m:Int)=b++enc8 m:=by simp only [putSign,hn,if_true,Int.toNat_natCast]
 have d6:(m:Int).fdiv (2 ^ 6)=((m / 64:Nat):Int):=fdivN m 64
 have d12:(m:Int).fdiv (2 ^ 12)=((m / 4096:Nat):Int):=fdivN m 4096
 have d18:(m:Int).fdiv (2 ^ 18)=((m / 262144:Nat):Int):=fdivN m 262144
 have a0:=and63 m (by omega)
 have a6:=and63 (m / 64) (by omega)
 have a12:=and63 (m / 4096) (by omega)
 have o0:orK .i64 128 ((m % 64:Nat):Int)=((128 + m % 64:Nat):Int):=or_hd 128 6 2 rfl (by omega) (by omega)
 have o6:orK .i64 128 ((m / 64 % 64:Nat):Int)=((128 + m / 64 % 64:Nat):Int):=or_hd 128 6 2 rfl (by omega) (by omega)
 have o12:orK .i64 128 ((m / 4096 % 64:Nat):Int)=((128 + m / 4096 % 64:Nat):Int):=or_hd 128 6 2 rfl (by omega) (by omega)
 cases q:decide ((m:Int)≤127)
 ·have hq:¬ m≤127:=by simp only [decide_eq_false_iff_not] at q; omega
  cases q2:decide ((m:Int)≤2047)
  ·have hq2:¬ m≤2047:=by simp only [decide_eq_false_iff_not] at q2; omega
   cases q3:decide ((m:Int)≤65535)
   ·have hq3:¬ m≤65535:=by simp only [decide_eq_false_iff_not] at q3; omega
    have t:orK .i64 240 ((m / 262144:Nat):Int)=((240 + m / 262144:Nat):Int):=or_hd 240 3 30 rfl (by omega) (by omega)
    have ee:List.take (b.length + 4) (List.map uR b++[[uT (mkU ((240 + m / 262144:Nat):Int))],[uT (mkU ((128 + m / 4096 % 64:Nat):Int))],[uT (mkU ((128 + m / 64 % 64:Nat):Int))],[uT (mkU ((128 + m % 64:Nat):Int))]])=List.map uR (b++enc8 m):=by
     rw [List.take_of_length_le (by simp),mkU_nat,mkU_nat,mkU_nat,mkU_nat]
     simp only [enc8,if_neg hq,if_neg hq2,if_neg hq3,List.map_append,List.map_cons,List.map_nil]
    refine X0 x_s_PutSign.eq_1 ?_
    refine .of (c_s_SignOk _) ?_
    try simp -implicitDefEqProofs (maxSteps:=1000000) only [go_sem,hn,ep,q,q2,q3,show Nat.min 6 64=6 from rfl,show Nat.min 12 64=12 from rfl,show Nat.min 18 64=18 from rfl,d6,d12,d18,a0,a6,a12,o0,o6,o12,t,mkU_wrap,ee]
    repeat refine ⟨sc,?_⟩
    try exact sf
   ·have hq3:m≤65535:=by simp only [decide_eq_true_eq] at q3; omega
    have t:orK .i64 224 ((m / 4096:Nat):Int)=((224 + m / 4096:Nat):Int):=or_hd 224 4 14 rfl (by omega) (by omega)
    have ee:List.take (b.length + 3) (List.map uR b++[[uT (mkU ((224 + m / 4096:Nat):Int))],[uT (mkU ((128 + m / 64 % 64:Nat):Int))],[uT (mkU ((128 + m % 64:Nat):Int))]])=List.map uR (b++enc8 m):=by
     rw [List.take_of_length_le (by simp),mkU_nat,mkU_nat,mkU_nat]
     simp only [enc8,if_neg hq,if_neg hq2,if_pos hq3,List.map_append,List.map_cons,List.map_nil]
    refine X0 x_s_PutSign.eq_1 ?_
    refine .of (c_s_SignOk _) ?_
    try simp -implicitDefEqProofs (maxSteps:=1000000) only [go_sem,hn,ep,q,q2,q3,show Nat.min 6 64=6 from rfl,show Nat.min 12 64=12 from rfl,d6,d12,a0,a6,o0,o6,t,mkU_wrap,ee]
    repeat refine ⟨sc,?_⟩
    try exact sf
  ·have hq2:m≤2047:=by simp only [decide_eq_true_eq] at q2; omega
   have t:orK .i64 192 ((m / 64:Nat):Int)=((192 + m / 64:Nat):Int):=or_hd 192 6 3 rfl (by omega) (by omega)
   have ee:List.take (b.length + 2) (List.map uR b++[[uT (mkU ((192 + m / 64:Nat):Int))],[uT (mkU ((128 + m % 64:Nat):Int))]])=List.map uR (b++enc8 m):=by
    rw [List.take_of_length_le (by simp),mkU_nat,mkU_nat]
    simp only [enc8,if_neg hq,if_pos hq2,List.map_append,List.map_cons,List.map_nil]
   refine X0 x_s_PutSign.eq_1 ?_
   refine .of (c_s_SignOk _) ?_
   try simp -implicitDefEqProofs (maxSteps:=1000000) only [go_sem,hn,ep,q,q2,show Nat.min 6 64=6 from rfl,d6,a0,o0,t,mkU_wrap,ee]
   repeat refine ⟨sc,?_⟩
   try exact sf
 ·have hq:m≤127:=by simp only [decide_eq_true_eq] at q; omega
  have ee:List.take (b.length + 1) (List.map uR b++[[uT (mkU (m:Int))]])=List.map uR (b++enc8 m):=by
   rw [List.take_of_length_le (by simp),mkU_nat]
   simp only [enc8,if_pos hq,List.map_append,List.map_cons,List.map_nil]
  refine X0 x_s_PutSign.eq_1 ?_
  refine .of (c_s_SignOk _) ?_
  try simp -implicitDefEqProofs (maxSteps:=1000000) only [go_sem,hn,ep,q,mkU_wrap,ee]
  repeat refine ⟨sc,?_⟩
  try exact sf
def x_i_PutRec:FnX:=⟨68,[.tmp 6],
  .q [.v 5 2,.op 6 (.mv (.k (.one (.nils 1))))]
 (.seq (.q [.L 8 13 5,.c 9 306 [8],.N 10 9,.m 11 10,.z 11 (.m 12 0),.z 11 (.c 13 247 [12]),.z 11 (.N 14 13),.r 15 11 14,.m 16 15,.z 16 (.m 17 1),.z 16 (.c 18 247 [17]),.z 16 (.N 19 18),.r 20 16 19]
 (.c 20 (.q [.op 6 (.mv (.k (.one (.nils 1))))]
 .ret)))
 (.seq (.draw [.m 21 0,.op 22 (.call 312 [0,0] [(.k (.one (.nils 1))),(.t 21)]),.m 23 1,.c 24 312 [22,23],.f 25 5 0,.l 26 25,.op 27 (.conv (.int .u8) (.t 26)),.op 28 (.bslice 1 [(.t 27)]),.op 29 (.app 1 1 (.t 24) (.t 28)),.m 7 29] [[],[0],[],[1,2,1],[],[4],[5],[6],[3,7,3],[8,8,0,1,2,3,4,5,6,7,8]])
 (.seq (.q [.f 30 5 0,.l 31 30]
 (.block 0 (.q [.B 33 .eql 31 1,.m 32 33]
 (.cond 32 (.reg [.m 34 7,.f 35 5 1,.L 36 7 35,.c 37 313 [34,36],.m 7 37]) (.q [.B 39 .eql 31 2,.m 38 39]
 (.cond 38 (.reg [.m 40 7,.f 41 5 8,.l 42 41,.c 43 314 [40,42],.m 7 43]) (.q [.B 45 .eql 31 3,.m 44 45]
 (.c 44 (.reg [.m 46 7,.f 47 5 9,.l 48 47,.op 49 (.conv (.int .u8) (.t 48)),.op 50 (.bslice 1 [(.t 49)]),.op 51 (.app 1 1 (.t 46) (.t 50)),.m 7 51])))))))))
 (.seq (.draw [.m 52 7,.f 53 5 10,.l 54 53,.op 55 (.conv (.int .u8) (.t 54)),.f 56 5 12,.l 57 56,.op 58 (.conv (.int .u8) (.t 57)),.op 59 (.bslice 1 [(.t 55),(.t 58)]),.op 60 (.app 1 1 (.t 52) (.t 59)),.f 61 5 11,.l 62 61,.c 63 312 [60,62],.m 7 63] [[],[],[1],[2],[],[4],[5],[3,6],[0,7],[],[9],[8,10,8],[11,11,0,1,2,3,4,5,6,7,8,9,10,11]])
 (.q [.m 64 7,.m 65 7,.c 66 315 [65],.c 67 312 [64,66],.m 6 67]
 .ret)))))⟩
theorem r_i_PutRec {Te:TE} (c_i_RecOk:C_i_RecOk Te) (c_i_isWord:C_i_isWord Te) (c_i_PutW:C_i_PutW Te) (c_i_PutRow:C_i_PutRow Te) (c_i_PutText:C_i_PutText Te) (c_i_Sum:C_i_Sum Te):C_i_PutRec (RF Te x_i_PutRec):=by
 intro gen place r h
 have h1:=h.1
 have h2:=h.2
 refine X0 x_i_PutRec.eq_1 ?_
 refine C0 (c_i_RecOk r h) ?_
 cases g1:r.ok
 ·have e:=recNo1 (gen:=gen) (place:=place) g1
  exact F1 e
 refine G0 ?_
 refine C0 (c_i_isWord _) ?_
 cases g2:win gen 0 65535
 ·have e:=recNo2 (place:=place) (r:=r) g2
  exact F1 e
 refine G0 ?_
 refine C0 (c_i_isWord _) ?_
 cases g3:win place 0 65535
 ·have e:=recNo3 (gen:=gen) (r:=r) g3
  exact F1 e
 refine G0 ?_
 have ey:=recYes g1 g2 g3
 have lw:(putW (putW [] gen) place).length=4:=by rw [putW_len,putW_len]; rfl
 have t1:=c_i_PutW [] gen (by show 0≤2 ^ 30; decide)
 refine C0 (t1) ?_
 refine .of (c_i_PutW (putW [] gen) place (by rw [putW_len]; show 0 + 2≤2 ^ 30; decide)) ?_
 try simp -implicitDefEqProofs (maxSteps:=1000000) only [go_sem,mkU_wrap,app1B,take1B]
 repeat refine ⟨sc,?_⟩
 try exact sf
 have e1:putW (putW [] gen) place++[mkU r.Kind]=recHead gen place r:=rfl
 have e2:(putW (putW [] gen) place).length + 1=(recHead gen place r).length:=by rw [recHead,List.length_append]; rfl
 simp only [e1,e2]
 have l0:=recHead_len gen place r
 generalize eH:recHead gen place r=H at l0 ⊢
 by_cases q1:r.Kind=1
 ·have k1:(r.Kind==1)=true:=by rw [q1]; rfl
  refine G1 k1 ?_
  refine C0 (c_i_PutRow H r.R (by omega) h1) ?_
  have e3:putRow H r.R=recKind H r:=(if_pos q1).symm
  have l3:=recKind_len H r
  try simp -implicitDefEqProofs (maxSteps:=1000000) only [go_sem,e3,mkU_wrap,app2B,take2B]
  repeat refine ⟨sc,?_⟩
  try exact sf
  have tt:=c_i_PutW (recKind H r++[mkU r.Who,mkU r.Code]) r.Seq (by rw [List.length_append]; simp only [List.length_cons,List.length_nil]; omega)
  have e4:putW (recKind H r++[mkU r.Who,mkU r.Code]) r.Seq=recBody gen place r:=by rw [recBody,eH]
  rw [e4] at tt
  refine C0 (tt) ?_
  have l4:=recBody_len gen place r
  refine C0 (c_i_Sum (recBody gen place r) (by omega)) ?_
  refine .of (c_i_PutW (recBody gen place r) _ (by omega)) ?_
  try simp -implicitDefEqProofs (maxSteps:=1000000) only [go_sem,ey]
  repeat refine ⟨sc,?_⟩
  try exact sf
 by_cases q2:r.Kind=2
 ·have k1:(r.Kind==1)=false:=by rw [q2]; rfl
  have k2:(r.Kind==2)=true:=by rw [q2]; rfl
  refine G2 k1 k2 ?_
  refine C0 (c_i_PutText H r.Key (by omega) h2) ?_
  have e3:putText H r.Key=recKind H r:=by rw [recKind,if_neg q1,if_pos q2]
  have l3:=recKind_len H r
  try simp -implicitDefEqProofs (maxSteps:=1000000) only [go_sem,e3,mkU_wrap,app2B,take2B]
  repeat refine ⟨sc,?_⟩
  try exact sf
  have tt:=c_i_PutW (recKind H r++[mkU r.Who,mkU r.Code]) r.Seq (by rw [List.length_append]; simp only [List.length_cons,List.length_nil]; omega)
  have e4:putW (recKind H r++[mkU r.Who,mkU r.Code]) r.Seq=recBody gen place r:=by rw [recBody,eH]
  rw [e4] at tt
  refine C0 (tt) ?_
  have l4:=recBody_len gen place r
  refine C0 (c_i_Sum (recBody gen place r) (by omega)) ?_
  refine .of (c_i_PutW (recBody gen place r) _ (by omega)) ?_
  try simp -implicitDefEqProofs (maxSteps:=1000000) only [go_sem,ey]
  repeat refine ⟨sc,?_⟩
  try exact sf
 by_cases q3:r.Kind=3
 ·have k1:(r.Kind==1)=false:=by rw [q3]; rfl
  have k2:(r.Kind==2)=false:=by rw [q3]; rfl
  have k3:(r.Kind==3)=true:=by rw [q3]; rfl
  have e3:H++[mkU r.N]=recKind H r:=by rw [recKind,if_neg q1,if_neg q2,if_pos q3]
  have e5:H.length + 1=(recKind H r).length:=by rw [← e3,List.length_append]; rfl
  have l3:=recKind_len H r
  try simp -implicitDefEqProofs (maxSteps:=1000000) only [go_sem,k1,k2,k3,mkU_wrap,app1B,e3,e5,take_rows]
  repeat refine ⟨sc,?_⟩
  try exact sf
  try simp -implicitDefEqProofs (maxSteps:=1000000) only [go_sem,e3,mkU_wrap,app2B,take2B]
  repeat refine ⟨sc,?_⟩
  try exact sf
  have tt:=c_i_PutW (recKind H r++[mkU r.Who,mkU r.Code]) r.Seq (by rw [List.length_append]; simp only [List.length_cons,List.length_nil]; omega)
  have e4:putW (recKind H r++[mkU r.Who,mkU r.Code]) r.Seq=recBody gen place r:=by rw [recBody,eH]
  rw [e4] at tt
  refine C0 (tt) ?_
  have l4:=recBody_len gen place r
  refine C0 (c_i_Sum (recBody gen place r) (by omega)) ?_
  refine .of (c_i_PutW (recBody gen place r) _ (by omega)) ?_
  try simp -implicitDefEqProofs (maxSteps:=1000000) only [go_sem,ey]
  repeat refine ⟨sc,?_⟩
  try exact sf
 obtain ⟨k1,k2,k3⟩:=other3 q1 q2 q3
 refine G3 k1 k2 k3 ?_
 have e3:recKind H r=H:=by rw [recKind,if_neg q1,if_neg q2,if_neg q3]
 try simp -implicitDefEqProofs (maxSteps:=1000000) only [go_sem,mkU_wrap,app2B,take2B]
 repeat refine ⟨sc,?_⟩
 try exact sf
 have tt:=c_i_PutW (H++[mkU r.Who,mkU r.Code]) r.Seq (by rw [List.length_append]; simp only [List.length_cons,List.length_nil]; omega)
 have e4:putW (H++[mkU r.Who,mkU r.Code]) r.Seq=recBody gen place r:=by rw [recBody,eH,e3]
 rw [e4] at tt
 refine C0 (tt) ?_
 have l4:=recBody_len gen place r
 refine C0 (c_i_Sum (recBody gen place r) (by omega)) ?_
 refine .of (c_i_PutW (recBody gen place r) _ (by omega)) ?_
 try simp -implicitDefEqProofs (maxSteps:=1000000) only [go_sem,ey]
 repeat refine ⟨sc,?_⟩
 try exact sf
def x_i_copyDev:FnX:=⟨50,[.cell 2 (some 4)],
  .q [.v 1 0,.op 2 (.alloc [.nils 1,.nils 2,.i 0,.F])]
 (.q [.f 8 1 2,.l 9 8,.f 10 1 3,.l 11 10,.op 12 (.build [.nils 1,.nils 2,.i 0,.F] [(2,1,(.t 9)),(3,1,(.t 11))]),.op 3 (.alloc [.nils 1,.nils 2,.i 0,.F]),.s 100001 4 3 12]
 (.seq (.q [.f 13 1 0,.l 14 13,.n 15 14,.i 16 0]
 (.up 3 1 300001 (.up 3 0 300000 (.block 0 (.loop [1,2,3,14,15,16] (.q [.b 17 .lss 16 15]
 (.seq (.cond 17 .skip (.exit 0))
 (.seq (.block 1 (.q [.x 18 1 14 16,.l 19 18,.m 5 19]
 (.draw [.f 20 3 0,.l 21 20,.m 22 5,.op 23 (.bslice 1 [(.t 22)]),.c 24 100 [23],.op 25 (.bslice 1 [(.t 24)]),.op 26 (.app 1 24 (.t 21) (.t 25)),.f 27 3 0,.s 100002 1 27 26] [[],[0],[],[2],[3],[4],[1,5,4],[0,1,2,3,4,5,6],[7,6,6,0,1,2,3,4,5,6]])))
 (.reg [.B 28 .add 16 1,.m 16 28])))))))))
 (.norm [1,2,3] (.seq (.q [.f 29 1 1,.l 30 29,.n 31 30,.i 32 0]
 (.block 2 (.loop [2,3,30,31,32] (.q [.b 33 .lss 32 31]
 (.seq (.cond 33 .skip (.exit 2))
 (.seq (.block 3 (.q [.x 34 2 30 32,.L 35 2 34,.op 7 (.alloc [.i 0,.nils 1]),.s 100003 2 7 35]
 (.draw [.f 36 3 1,.l 37 36,.f 38 7 0,.l 39 38,.f 40 7 1,.l 41 40,.op 42 (.bslice 1 [(.t 41)]),.c 43 100 [42],.op 44 (.build [.i 0,.nils 1] [(0,1,(.t 39)),(1,1,(.t 43))]),.op 45 (.bslice 2 [(.t 44)]),.op 46 (.app 2 32 (.t 37) (.t 45)),.f 47 3 1,.s 100004 1 47 46] [[],[0],[],[2],[],[4],[5],[6],[3,7],[8],[1,9,7],[0,1,2,3,4,5,6,7,8,9,10],[11,10,10,0,1,2,3,4,5,6,7,8,9,10]])))
 (.reg [.B 48 .add 32 1,.m 32 48])))))))
 (.norm [2,3] (.q [.L 49 4 3,.s 100005 4 2 49]
 .ret))))))⟩
theorem r_i_copyDev {Te:TE} (c_i_joined:C_i_joined Te):C_i_copyDev (RF Te x_i_copyDev):=by
 intro d h
 obtain ⟨⟨hS,hSl⟩,hC,hCl⟩:=h
 refine X0 x_i_copyDev.eq_1 ?_
 refine loop_of (σ:=Nat×List (List UInt8)) (fun x=>⟨[(1,.bp 1 0),(2,.bp 2 0),(3,.bp 3 0),(14,.one (.ro 1 (d.Secs.map (secR false)))),(15,.one (.pv (.int .i64 d.Secs.length))),(16,.one (.pv (.int .i64 x.1)))],[(1,[.ro 1 (d.Secs.map (secR false)),.ro 2 (d.Cache.map (WrV.enc false)),.pv (.int .i64 d.Fuse),.pv (.bool d.Down)]),(2,[.nils 1,.nils 2,.pv (.int .i64 0),.pv (.bool false)]),(3,[.rf 51 0 [] 1 0 x.2.length,.rf 52 0 [] 2 0 0,.pv (.int .i64 d.Fuse),.pv (.bool d.Down)])],[(0,d.enc false),(51,[slT true 1 (secR true) x.2]),(52,[slT true 2 (WrV.enc true) []])]⟩) (fun x=>x.1≤d.Secs.length∧x.2=d.Secs.take x.1) (fun x=>d.Secs.length - x.1) (0,[]) ?_ ⟨Nat.zero_le _,rfl⟩ ?_
 ·simp -implicitDefEqProofs (maxSteps:=1000000) only [go_sem]
  try rfl
 ·rintro ⟨i,l⟩ ⟨hi,he⟩
  simp only at hi he
  have hl:l.length=i:=by rw [he,List.length_take]; omega
  cases q:decide ((i:Int) < (d.Secs.length:Int))
  ·have k0:i=d.Secs.length:=by simp only [decide_eq_false_iff_not] at q; omega
   rw [k0,List.take_length] at he
   subst he
   refine G1 q ?_
   refine loop_of (σ:=Nat×List WrV) (fun x=>⟨[(2,.bp 2 0),(3,.bp 3 0),(30,.one (.ro 2 (d.Cache.map (WrV.enc false)))),(31,.one (.pv (.int .i64 d.Cache.length))),(32,.one (.pv (.int .i64 x.1)))],[(2,[.nils 1,.nils 2,.pv (.int .i64 0),.pv (.bool false)]),(3,[.rf 51 0 [] 1 0 d.Secs.length,.rf 52 0 [] 2 0 x.2.length,.pv (.int .i64 d.Fuse),.pv (.bool d.Down)])],[(0,d.enc false),(51,[slT true 1 (secR true) d.Secs]),(52,[slT true 2 (WrV.enc true) x.2])]⟩) (fun x=>x.1≤d.Cache.length∧x.2=d.Cache.take x.1) (fun x=>d.Cache.length - x.1) (0,[]) ?_ ⟨Nat.zero_le _,rfl⟩ ?_
   ·simp -implicitDefEqProofs (maxSteps:=1000000) only [go_sem]
    try rfl
   ·rintro ⟨j,m⟩ ⟨hj,hm⟩
    simp only at hj hm
    have hml:m.length=j:=by rw [hm,List.length_take]; omega
    cases q2:decide ((j:Int) < (d.Cache.length:Int))
    ·have k2:j=d.Cache.length:=by simp only [decide_eq_false_iff_not] at q2; omega
     rw [k2,List.take_length] at hm
     subst hm
     exact F1 q2
    ·have k2:j < d.Cache.length:=by simp only [decide_eq_true_eq] at q2; omega
     have hb:d.Cache[j].B.length≤2 ^ 21:=hCl _ (List.getElem_mem k2)
     have ea:=app1W m d.Cache[j]
     refine G2 q2 (List.getElem?_eq_getElem k2) ?_
     refine .of (c_i_joined [d.Cache[j].B] (by rw [flat1]; omega) (by show 1≤2 ^ 31; decide)) ?_
     try simp -implicitDefEqProofs (maxSteps:=1000000) only [go_sem,flat1,take_all,ea]
     repeat refine ⟨sc,?_⟩
     try exact sf
     refine ⟨(j + 1,m++[d.Cache[j]]),?_,⟨k2,by rw [hm,List.take_succ_eq_append_getElem k2]⟩,by simp only; omega⟩
     rw [IntWalk.i64_in _ (by omega)]
     simp only [List.length_append]
     rfl
  ·have k1:i < d.Secs.length:=by simp only [decide_eq_true_eq] at q; omega
   have hb:d.Secs[i].length≤2 ^ 21:=hSl _ (List.getElem_mem k1)
   have ea:=app1S l d.Secs[i]
   refine G2 q (List.getElem?_eq_getElem k1) ?_
   refine .of (c_i_joined [d.Secs[i]] (by rw [flat1]; omega) (by show 1≤2 ^ 31; decide)) ?_
   try simp -implicitDefEqProofs (maxSteps:=1000000) only [go_sem,flat1,take_all,ea]
   repeat refine ⟨sc,?_⟩
   try exact sf
   refine ⟨(i + 1,l++[d.Secs[i]]),?_,⟨k1,by rw [he,List.take_succ_eq_append_getElem k1]⟩,by simp only; omega⟩
   rw [IntWalk.i64_in _ (by omega)]
   simp only [List.length_append]
   rfl
def x_i_burn:FnX:=⟨18,[.cell 2 (some 4),.tmp 3],
  .q [.v 1 0,.op 2 (.alloc [.nils 1,.nils 2,.i 0,.F]),.F 3]
 (.seq (.q [.f 4 1 2,.l 5 4,.B 6 .eql 5 0]
 (.c 6 (.q [.f 7 1 3,⟨none,none,100001,.store 1 (.t 7) .T⟩,.f 8 1 2,⟨none,none,100002,.store 1 (.t 8) (.i (-1))⟩]
 (.q [.L 9 4 1,.s 100003 4 2 9,.F 3]
 .ret))))
 (.seq (.q [.f 10 1 2,.l 11 10,.B 12 .gtr 11 0]
 (.c 12 (.reg [.f 13 1 2,.l 14 13,.B 15 .sub 14 1,.f 16 1 2,.s 100004 1 16 15])))
 (.q [.L 17 4 1,.s 100005 4 2 17,.T 3]
 .ret)))⟩
theorem r_i_burn {Te:TE}:C_i_burn (RF Te x_i_burn):=by
 intro d
 refine run0 ?_
 cases g:(d.Fuse==0)
 ·have g1:¬ d.Fuse=0:=by simpa using g
  cases g2:decide (d.Fuse > 0)
  ·have e:d.burn=d:=by rw [DevV.burn,if_neg g1,if_neg (by simpa using g2)]
   simp -implicitDefEqProofs (maxSteps:=1000000) only [x_i_burn,go_sem,g,g2,e,take_all]
   repeat refine ⟨sc,?_⟩
   try exact sf
   try rfl
  ·have e:d.burn=⟨d.Secs,d.Cache,IntKind.i64.wrap (d.Fuse - 1),d.Down⟩:=by rw [DevV.burn,if_neg g1,if_pos (by simpa using g2)]
   simp -implicitDefEqProofs (maxSteps:=1000000) only [x_i_burn,go_sem,g,g2,e,take_all]
   repeat refine ⟨sc,?_⟩
   try exact sf
   try rfl
 ·have g1:d.Fuse=0:=by simpa using g
  have e:d.burn=⟨d.Secs,d.Cache,-1,true⟩:=by rw [DevV.burn,if_pos g1]
  simp -implicitDefEqProofs (maxSteps:=1000000) only [x_i_burn,go_sem,g,e,take_all]
  repeat refine ⟨sc,?_⟩
  try exact sf
  try rfl
def x_s_l10Op:FnX:=⟨27,[.tmp 2],
  .q [.F 2]
 (.seq (.q [.m 3 0,.op 4 (.nilc (.t 3)),.f 5 4 2,.l 6 5,.B 7 .eql 6 0]
 (.c 7 (.q [.m 8 0,.op 9 (.nilc (.t 8)),.f 10 9 3,⟨none,none,100001,.store 1 (.t 10) .T⟩]
 (.q [.m 11 0,.op 12 (.nilc (.t 11)),.f 13 12 2,⟨none,none,100002,.store 1 (.t 13) (.i (-1))⟩]
 (.q [.F 2]
 .ret)))))
 (.seq (.q [.m 14 0,.op 15 (.nilc (.t 14)),.f 16 15 2,.l 17 16,.B 18 .gtr 17 0]
 (.c 18 (.reg [.m 19 0,.m 20 0,.op 21 (.nilc (.t 20)),.f 22 21 2,.l 23 22,.B 24 .sub 23 1,.op 25 (.nilc (.t 19)),.f 26 25 2,.s 100003 1 26 24])))
 (.q [.T 2]
 .ret)))⟩
theorem r_s_l10Op {Te:TE}:C_s_l10Op (RF Te x_s_l10Op):=by
 intro d
 refine run0 ?_
 cases g:(d.Fuse==0)
 ·have g1:¬ d.Fuse=0:=by simpa using g
  cases g2:decide (d.Fuse > 0)
  ·have e:d.burn=d:=by rw [DevV.burn,if_neg g1,if_neg (by simpa using g2)]
   simp -implicitDefEqProofs (maxSteps:=1000000) only [x_s_l10Op,go_sem,g,g2,e,take_all]
   repeat refine ⟨sc,?_⟩
   try exact sf
   try rfl
  ·have e:d.burn=⟨d.Secs,d.Cache,IntKind.i64.wrap (d.Fuse - 1),d.Down⟩:=by rw [DevV.burn,if_neg g1,if_pos (by simpa using g2)]
   simp -implicitDefEqProofs (maxSteps:=1000000) only [x_s_l10Op,go_sem,g,g2,e,take_all]
   repeat refine ⟨sc,?_⟩
   try exact sf
   try rfl
 ·have g1:d.Fuse=0:=by simpa using g
  have e:d.burn=⟨d.Secs,d.Cache,-1,true⟩:=by rw [DevV.burn,if_pos g1]
  simp -implicitDefEqProofs (maxSteps:=1000000) only [x_s_l10Op,go_sem,g,e,take_all]
  repeat refine ⟨sc,?_⟩
  try exact sf
  try rfl
def x_i_change:FnX:=⟨32,[.cell 10 (some 10),.tmp 11,.tmp 12],
  .q [.v 5 0,.v 8 3,.op 10 (.alloc [.nils 1,.nils 2,.i 0,.F,.nils 7,.i 0,.nils 3,.i 0,.i 0,.i 0]),.i 11 0,.F 12]
 (.q [.m 15 1,.m 16 2,.m 17 4,.f 18 8 10,.s 100001 1 18 15,.f 19 8 11,.s 100002 1 19 16,.f 20 8 12,.s 100003 1 20 17]
 (.q [.L 22 10 5,.L 23 13 8,.c 24 86 [22,23],.m 21 24,.e 25 21 0,.e 26 21 1,.op 13 (.alloc [.nils 1,.nils 2,.i 0,.F,.nils 7,.i 0,.nils 3,.i 0,.i 0,.i 0]),.s 100004 10 13 25,.m 14 26]
 (.seq (.q [.m 27 14,.N 28 27]
 (.c 28 (.q [.L 29 10 13,.s 100005 10 10 29,.i 11 5,.F 12]
 .ret)))
 (.q [.L 30 10 13,.m 31 4,.s 100006 10 10 30,.m 11 31,.T 12]
 .ret))))⟩
theorem r_i_change {Te:TE} (c_i_added:C_i_added Te):C_i_change (RF Te x_i_change):=by
 intro n who seq r code hn hr
 refine X0 x_i_change.eq_1 ?_
 refine C0 (c_i_added n (r.by who seq code) hn hr) ?_
 cases g:(n.S.add (r.by who seq code)).2
 ·try simp -implicitDefEqProofs (maxSteps:=1000000) only [go_sem,g,NodeV.changed,NodeV.added,take_all,take_marks,NodeV.enc]
  repeat refine ⟨sc,?_⟩
  try exact sf
  try rfl
 ·try simp -implicitDefEqProofs (maxSteps:=1000000) only [go_sem,g,NodeV.changed,NodeV.added,take_all,take_marks,NodeV.enc]
  repeat refine ⟨sc,?_⟩
  try exact sf
  try rfl
def x_i_delRec:FnX:=⟨21,[.cell 4 (some 13),.tmp 5],
  .q [.v 2 0,.op 4 (.alloc [.i 0,.e,.i 0,.nils 1,.i 0,.nils 1,.i 0,.F,.e,.i 0,.i 0,.i 0,.i 0]),.i 5 0]
 (.seq (.block 0 (.q [.m 7 1,.c 8 98 [7],.N 9 8,.m 6 9]
 (.cond 6 (.q [.op 10 (.build [.i 0,.e,.i 0,.nils 1,.i 0,.nils 1,.i 0,.F,.e,.i 0,.i 0,.i 0,.i 0] [(0,1,(.i 4))]),.s 100001 13 4 10,.i 5 1]
 .ret) (.q [.f 12 2 0,.f 13 12 4,.L 14 3 13,.m 15 1,.c 16 87 [14,15],.B 17 .lss 16 0,.m 11 17]
 (.c 11 (.q [.op 18 (.build [.i 0,.e,.i 0,.nils 1,.i 0,.nils 1,.i 0,.F,.e,.i 0,.i 0,.i 0,.i 0] [(0,1,(.i 4))]),.s 100002 13 4 18,.i 5 2]
 .ret))))))
 (.q [.m 19 1,.op 20 (.build [.i 0,.e,.i 0,.nils 1,.i 0,.nils 1,.i 0,.F,.e,.i 0,.i 0,.i 0,.i 0] [(0,1,(.i 2)),(8,1,(.t 19))]),.s 100003 13 4 20,.i 5 0]
 .ret))⟩
theorem r_i_delRec {Te:TE} (c_i_NameOk:C_i_NameOk Te) (c_i_RowAt:C_i_RowAt Te):C_i_delRec (RF Te x_i_delRec):=by
 intro n key hn hk
 refine X0 x_i_delRec.eq_1 ?_
 refine C0 (c_i_NameOk key hk) ?_
 cases g:nameOk key
 ·have e:n.delCode key=1:=by rw [NodeV.delCode,g]; rfl
  exact F1 e
 refine G0 ?_
 refine C0 (c_i_RowAt n.S.T key hn) ?_
 cases g2:decide (rowAt n.S.T.Rows key < 0)
 ·have e:n.delCode key=0:=by rw [NodeV.delCode,g,g2]; rfl
  exact F2 e g2
 ·have e:n.delCode key=2:=by rw [NodeV.delCode,g,g2]; rfl
  exact F2 e g2
def x_i_NodeDel:FnX:=⟨51,[.cell 8 (some 10),.tmp 9,.tmp 10],
  .q [.v 4 0,.op 8 (.alloc [.nils 1,.nils 2,.i 0,.F,.nils 7,.i 0,.nils 3,.i 0,.i 0,.i 0]),.i 9 0,.F 10]
 (.seq (.q [.L 14 10 4,.c 15 82 [14],.N 16 15,.m 17 16,.z 17 (.m 18 1),.z 17 (.m 19 2),.z 17 (.c 20 72 [18,19]),.z 17 (.N 21 20),.r 22 17 21]
 (.c 22 (.q [.L 23 10 4,.c 24 60 [23],.s 100001 10 8 24,.i 9 1,.F 10]
 .ret)))
 (.q [.L 26 10 4,.m 27 1,.m 28 2,.c 29 73 [26,27,28],.m 25 29,.e 30 25 0,.e 31 25 1,.m 11 30,.m 12 31]
 (.seq (.q [.m 32 12]
 (.c 32 (.q [.L 33 10 4,.c 34 60 [33],.m 35 11,.s 100002 10 8 34,.m 9 35,.F 10]
 .ret)))
 (.q [.L 37 10 4,.m 38 3,.c 39 74 [37,38],.m 36 39,.e 40 36 0,.e 41 36 1,.op 13 (.alloc [.i 0,.e,.i 0,.nils 1,.i 0,.nils 1,.i 0,.F,.e,.i 0,.i 0,.i 0,.i 0]),.s 100003 13 13 40,.m 11 41]
 (.q [.L 42 10 4,.m 43 1,.m 44 2,.L 45 13 13,.m 46 11,.c 47 91 [42,43,44,45,46],.e 48 47 0,.e 49 47 1,.e 50 47 2,.s 100004 10 8 48,.m 9 49,.m 10 50]
 .ret)))))⟩
theorem r_i_NodeDel {Te:TE} (c_i_isUp:C_i_isUp Te) (c_i_mayAsk:C_i_mayAsk Te) (c_i_copyNode:C_i_copyNode Te) (c_i_askedBefore:C_i_askedBefore Te) (c_i_delRec:C_i_delRec Te) (c_i_change:C_i_change Te):C_i_NodeDel (RF Te x_i_NodeDel):=by
 intro n who seq key hn hk
 have hL:=hn.len (by decide)
 refine X0 x_i_NodeDel.eq_1 ?_
 refine C0 (c_i_isUp n (hn.mono (by decide))) ?_
 cases g1:n.up
 ·have e:n.del who seq key=(n,1,false):=by rw [NodeV.del,old_no (by rw [g1]; rfl)]; rfl
  refine G0 ?_
  exact D1 (c_i_copyNode n hL) e
 refine G0 ?_
 refine C0 (c_i_mayAsk _ _) ?_
 cases g2:(win who 1 9&&win seq 1 65535)
 ·have e:n.del who seq key=(n,1,false):=by rw [NodeV.del,old_no (by rw [g1,g2]; rfl)]; rfl
  refine G1 g2 ?_
  exact D1 (c_i_copyNode n hL) e
 have eo:=old_yes g1 g2
 refine G1 g2 ?_
 refine .of (c_i_askedBefore n _ _ (by have:=hn.2.2; omega)) ?_
 try simp -implicitDefEqProofs (maxSteps:=1000000) only [go_sem]
 repeat refine ⟨sc,?_⟩
 try exact sf
 rw [← eo]
 cases g3:(n.old who seq).2
 rotate_left
 ·have e:n.del who seq key=(n,(n.old who seq).1,false):=by rw [NodeV.del,g3]; rfl
  refine G1 g3 ?_
  exact D1 (c_i_copyNode n hL) e
 have e:n.del who seq key=n.changed ((delRec (n.delCode key) key).by who seq (n.delCode key)):=by rw [NodeV.del,g3,delRec_by]; rfl
 refine G1 g3 ?_
 refine C0 (c_i_delRec n key (by have:=hn.2.1.1; omega) (by omega)) ?_
 exact D1 (c_i_change n who seq (delRec (n.delCode key) key) (n.delCode key) hn (delRec_in _ hk)) e
def x_i_NodePhase:FnX:=⟨33,[.cell 4 (some 10),.tmp 5],
  .q [.v 2 0,.op 4 (.alloc [.nils 1,.nils 2,.i 0,.F,.nils 7,.i 0,.nils 3,.i 0,.i 0,.i 0]),.F 5]
 (.q [.L 7 10 2,.c 8 60 [7],.op 6 (.alloc [.nils 1,.nils 2,.i 0,.F,.nils 7,.i 0,.nils 3,.i 0,.i 0,.i 0]),.s 100001 10 6 8]
 (.seq (.q [.L 9 10 2,.c 10 82 [9],.N 11 10]
 (.c 11 (.q [.L 12 10 6,.s 100002 10 4 12,.F 5]
 .ret)))
 (.seq (.q [.f 13 2 0,.f 14 13 4,.f 15 14 1,.l 16 15,.m 17 1,.c 18 112 [16,17]]
 (.c 18 (.reg [.L 20 10 2,.m 21 1,.op 22 (.build [.i 0,.e,.i 0,.nils 1,.i 0,.nils 1,.i 0,.F,.e,.i 0,.i 0,.i 0,.i 0] [(0,1,(.i 3)),(9,1,(.t 21))]),.c 23 86 [20,22],.m 19 23,.e 24 19 0,.e 25 19 1,.s 100003 10 6 24])))
 (.seq (.draw [.L 26 10 6,.f 27 6 0,.f 28 27 4,.f 29 28 1,.l 30 29,.m 31 1,.b 32 .eql 30 31,.s 100004 10 4 26,.m 5 32] [[],[],[1],[2],[3],[],[4,5],[0,0],[6,7,0,1,2,3,4,5,6,7]])
 .ret))))⟩
theorem r_i_NodePhase {Te:TE} (c_i_copyNode:C_i_copyNode Te) (c_i_isUp:C_i_isUp Te) (c_i_NextOk:C_i_NextOk Te) (c_i_added:C_i_added Te):C_i_NodePhase (RF Te x_i_NodePhase):=by
 intro n p hn
 have hL:=hn.len (by decide)
 refine X0 x_i_NodePhase.eq_1 ?_
 refine C0 (c_i_copyNode n hL) ?_
 refine C0 (c_i_isUp n (hn.mono (by decide))) ?_
 cases g1:n.up
 ·have e:n.phase p=(n,false):=by rw [NodeV.phase,g1]; rfl
  exact F1 e
 have e:n.phase p=(n.phase1 p,(n.phase1 p).S.T.Phase==p):=by rw [NodeV.phase,g1]; rfl
 refine G0 ?_
 refine C0 (c_i_NextOk _ _) ?_
 cases g2:nextOk n.S.T.Phase p
 ·have e1:n.phase1 p=n:=by rw [NodeV.phase1,g2]; rfl
  exact F2 e e1
 ·have e1:n.phase1 p=n.added (recPh p):=by rw [NodeV.phase1,g2]; rfl
  refine G0 ?_
  refine .of (c_i_added n (recPh p) hn (recPh_in p _)) ?_
  try simp -implicitDefEqProofs (maxSteps:=1000000) only [go_sem,e,e1,NodeV.added,take_all,take_marks]
  repeat refine ⟨sc,?_⟩
  try exact sf
  try rfl
def x_i_rowsBehind:FnX:=⟨26,[.tmp 4],
  .q [.v 2 0,.op 4 (.mv (.k (.one (.nils 7))))]
 (.q [.op 8 (.bslice 7 []),.m 5 8]
 (.seq (.q [.f 9 2 0,.l 10 9,.n 11 10,.i 12 0]
 (.block 0 (.loop [1,5,10,11,12] (.q [.b 13 .lss 12 11]
 (.seq (.cond 13 .skip (.exit 0))
 (.seq (.block 1 (.q [.x 14 7 10 12,.L 15 7 14,.op 7 (.alloc [.e,.i 0,.nils 1,.i 0,.nils 1,.i 0,.F]),.s 100001 7 7 15]
 (.q [.f 16 7 0,.l 17 16,.m 18 1,.b 19 .gtr 17 18]
 (.c 19 (.reg [.m 20 5,.L 21 7 7,.op 22 (.bslice 7 [(.t 21)]),.op 23 (.app 7 96 (.t 20) (.t 22)),.m 5 23])))))
 (.reg [.B 24 .add 12 1,.m 12 24])))))))
 (.norm [5] (.q [.m 25 5,.m 4 25]
 .ret))))⟩
theorem r_i_rowsBehind {Te:TE}:C_i_rowsBehind (RF Te x_i_rowsBehind):=by
 intro t f hl
 refine X0 x_i_rowsBehind.eq_1 ?_
 refine loop_of (σ:=Nat) (fun i=>⟨[(1,.one (.pv (.string f))),(5,.one (.rf 28 0 [] 7 0 (behind f (t.Rows.take i)).length)),(10,.one (.ro 7 (t.Rows.map (RowV.enc false)))),(11,.one (.pv (.int .i64 t.Rows.length))),(12,.one (.pv (.int .i64 i)))],[],[(0,t.enc false),(1,[sT f]),(28,[slT true 7 (RowV.enc false) (behind f (t.Rows.take i))])]⟩) (fun i=>i≤t.Rows.length) (fun i=>t.Rows.length - i) 0 ?_ (Nat.zero_le _) ?_
 ·simp -implicitDefEqProofs (maxSteps:=1000000) only [go_sem]
  try rfl
 ·intro i hi
  have hb:(behind f (t.Rows.take i)).length≤i:=Nat.le_trans (List.length_filter_le _ _) (by rw [List.length_take]; omega)
  cases q:decide ((i:Int) < (t.Rows.length:Int))
  ·have e:t.Rows.take i=t.Rows:=List.take_of_length_le (by simp only [decide_eq_false_iff_not] at q; omega)
   rw [e]
   exact F1 q
  ·have k1:i < t.Rows.length:=by simp only [decide_eq_true_eq] at q; omega
   have es:=behind_step (f:=f) k1
   cases g:isBehind f t.Rows[i].Key
   ·have g':=g
    rw [isBehind] at g'
    rw [g,cond_false,List.append_nil] at es
    refine G3 q (List.getElem?_eq_getElem k1) g' ?_
    refine ⟨i + 1,?_,k1,by omega⟩
    rw [es,IntWalk.i64_in _ (by omega)]
    rfl
   ·have g':=g
    rw [isBehind] at g'
    rw [g,cond_true] at es
    refine G3 q (List.getElem?_eq_getElem k1) g' ?_
    refine ⟨i + 1,?_,k1,by omega⟩
    rw [es,IntWalk.i64_in _ (by omega),List.length_append]
    simp only [slT,List.map_append]
    rfl
def x_s_l12SameCell:FnX:=⟨19,[.tmp 4],
  .q [.v 2 0,.v 3 1,.F 4]
 (.q [.f 5 2 0,.l 6 5,.f 7 3 0,.l 8 7,.b 9 .eql 6 8,.m 10 9,.y 10 (.f 11 2 1),.y 10 (.l 12 11),.y 10 (.op 13 (.conv .b2s (.t 12))),.y 10 (.f 14 3 1),.y 10 (.l 15 14),.y 10 (.op 16 (.conv .b2s (.t 15))),.y 10 (.b 17 .eql 13 16),.a 18 10 17,.m 4 18]
 .ret)⟩
theorem r_s_l12SameCell {Te:TE}:C_s_l12SameCell (RF Te x_s_l12SameCell):=by
 intro a c
 refine run0 ?_
 cases g:(a.Tag==c.Tag)
 ·simp -implicitDefEqProofs (maxSteps:=1000000) only [x_s_l12SameCell,go_sem,g]
  repeat refine ⟨sc,?_⟩
  try exact sf
 ·have ea:=areBytes_uR a.B
  have ec:=areBytes_uR c.B
  have fa:=bytesOf_uR a.B
  have fc:=bytesOf_uR c.B
  simp -implicitDefEqProofs (maxSteps:=1000000) only [x_s_l12SameCell,go_sem,g,ea,ec,fa,fc,bytes_beq,bytes_lists]
  repeat refine ⟨sc,?_⟩
  try exact sf
def x_s_l12SameRow:FnX:=⟨38,[.tmp 4],
  .q [.v 2 0,.v 3 1,.F 4]
 (.q [.f 5 2 0,.l 6 5,.f 7 3 0,.l 8 7,.b 9 .eql 6 8,.m 10 9,.y 10 (.f 11 2 1),.y 10 (.L 12 2 11),.y 10 (.f 13 3 1),.y 10 (.L 14 2 13),.y 10 (.c 15 204 [12,14]),.a 16 10 15,.m 17 16,.y 17 (.f 18 2 3),.y 17 (.L 19 2 18),.y 17 (.f 20 3 3),.y 17 (.L 21 2 20),.y 17 (.c 22 204 [19,21]),.a 23 17 22,.m 24 23,.y 24 (.f 25 2 5),.y 24 (.l 26 25),.y 24 (.f 27 3 5),.y 24 (.l 28 27),.y 24 (.b 29 .eql 26 28),.a 30 24 29,.m 31 30,.y 31 (.f 32 2 6),.y 31 (.l 33 32),.y 31 (.f 34 3 6),.y 31 (.l 35 34),.y 31 (.op 36 (.beq false (.t 33) (.t 35))),.a 37 31 36,.m 4 37]
 .ret)⟩
theorem r_s_l12SameRow {Te:TE} (c_s_l12SameCell:C_s_l12SameCell Te):C_s_l12SameRow (RF Te x_s_l12SameRow):=by
 intro a c
 refine run0 ?_
 simp -implicitDefEqProofs (maxSteps:=1000000) only [x_s_l12SameRow,go_sem,bytes_beq]
 repeat refine ⟨sc,?_⟩
 try exact sf
 cases g1:decide (a.Key=c.Key)
 ·try simp -implicitDefEqProofs (maxSteps:=1000000) only [go_sem,g1,rowSame]
  repeat refine ⟨sc,?_⟩
  try exact sf
 refine G1 g1 ?_
 have t1:=c_s_l12SameCell a.Old c.Old
 have t2:=c_s_l12SameCell a.New c.New
 rw [← cellSame] at t1 t2
 refine .of t1 ?_
 cases g2:cellSame a.Old c.Old
 ·try simp -implicitDefEqProofs (maxSteps:=1000000) only [go_sem,g1,g2,rowSame]
  repeat refine ⟨sc,?_⟩
  try exact sf
 refine G0 ?_
 refine .of t2 ?_
 cases g3:cellSame a.New c.New
 ·try simp -implicitDefEqProofs (maxSteps:=1000000) only [go_sem,g1,g2,g3,rowSame]
  repeat refine ⟨sc,?_⟩
  try exact sf
 refine G0 ?_
 cases g4:(a.Has==c.Has)
 ·try simp -implicitDefEqProofs (maxSteps:=1000000) only [go_sem,g1,g2,g3,g4,rowSame]
  repeat refine ⟨sc,?_⟩
  try exact sf
 have e9:∀ c:Bool,(c != false)=c:=fun c=>by cases c <;> rfl
 try simp -implicitDefEqProofs (maxSteps:=1000000) only [go_sem,g1,g2,g3,g4,rowSame,e9]
 repeat refine ⟨sc,?_⟩
 try exact sf
def x_i_RecsOf:FnX:=⟨45,[.tmp 2],
  .q [.v 1 0,.op 2 (.mv (.k (.one (.nils 13))))]
 (.q [.f 8 1 1,.l 9 8,.op 10 (.build [.i 0,.e,.i 0,.nils 1,.i 0,.nils 1,.i 0,.F,.e,.i 0,.i 0,.i 0,.i 0] [(0,1,(.i 3)),(9,1,(.t 9))]),.op 11 (.bslice 13 [(.t 10)]),.m 3 11]
 (.seq (.q [.f 12 1 0,.l 13 12,.n 14 13,.i 15 0]
 (.block 0 (.loop [1,3,13,14,15] (.q [.b 16 .lss 15 14]
 (.seq (.cond 16 .skip (.exit 0))
 (.seq (.block 1 (.q [.x 17 7 13 15,.L 18 7 17,.op 5 (.alloc [.e,.i 0,.nils 1,.i 0,.nils 1,.i 0,.F]),.s 100001 7 5 18]
 (.reg [.m 19 3,.L 20 7 5,.c 21 252 [20],.op 22 (.build [.i 0,.e,.i 0,.nils 1,.i 0,.nils 1,.i 0,.F,.e,.i 0,.i 0,.i 0,.i 0] [(0,1,(.i 1)),(1,7,(.t 21))]),.op 23 (.bslice 13 [(.t 22)]),.op 24 (.app 13 152 (.t 19) (.t 23)),.m 3 24])))
 (.reg [.B 25 .add 15 1,.m 15 25])))))))
 (.norm [1,3] (.seq (.q [.f 26 1 2,.l 27 26,.n 28 27,.i 29 0]
 (.block 2 (.loop [3,27,28,29] (.q [.b 30 .lss 29 28]
 (.seq (.cond 30 .skip (.exit 2))
 (.seq (.block 3 (.q [.x 31 3 27 29,.L 32 3 31,.op 7 (.alloc [.i 0,.i 0,.i 0]),.s 100002 3 7 32]
 (.reg [.m 33 3,.f 34 7 0,.l 35 34,.f 36 7 1,.l 37 36,.f 38 7 2,.l 39 38,.op 40 (.build [.i 0,.e,.i 0,.nils 1,.i 0,.nils 1,.i 0,.F,.e,.i 0,.i 0,.i 0,.i 0] [(0,1,(.i 4)),(10,1,(.t 35)),(11,1,(.t 37)),(12,1,(.t 39))]),.op 41 (.bslice 13 [(.t 40)]),.op 42 (.app 13 152 (.t 33) (.t 41)),.m 3 42])))
 (.reg [.B 43 .add 29 1,.m 29 43])))))))
 (.norm [3] (.q [.m 44 3,.m 2 44]
 .ret))))))⟩
theorem r_i_RecsOf {Te:TE} (c_i_copyRow:C_i_copyRow Te):C_i_RecsOf (RF Te x_i_RecsOf):=by
 intro t h
 obtain ⟨⟨hR,hRl⟩,hM⟩:=h
 refine X0 x_i_RecsOf.eq_1 ?_
 refine loop_of (σ:=Nat×List RecV) (fun x=>⟨[(1,.bp 1 0),(3,.one (.rf 46 0 [] 13 0 x.2.length)),(13,.one (.ro 7 (t.Rows.map (RowV.enc false)))),(14,.one (.pv (.int .i64 t.Rows.length))),(15,.one (.pv (.int .i64 x.1)))],[(1,[.ro 7 (t.Rows.map (RowV.enc false)),.pv (.int .i64 t.Phase),.ro 3 (t.Marks.map MarkV.row)])],[(0,t.enc false),(46,[slT true 13 (RecV.enc true) x.2])]⟩) (fun x=>x.1≤t.Rows.length∧x.2.length=x.1 + 1∧x.2=recPhase t.Phase::(t.Rows.take x.1).map recRow) (fun x=>t.Rows.length - x.1) (0,[recPhase t.Phase]) ?_ ⟨Nat.zero_le _,rfl,rfl⟩ ?_
 ·simp -implicitDefEqProofs (maxSteps:=1000000) only [go_sem]
  try rfl
 ·rintro ⟨i,a⟩ ⟨hi,hl,he⟩
  simp only at hi hl he
  cases q:decide ((i:Int) < (t.Rows.length:Int))
  ·have k0:i=t.Rows.length:=by simp only [decide_eq_false_iff_not] at q; omega
   rw [k0,List.take_length] at he
   refine G1 q ?_
   refine loop_of (σ:=Nat×List RecV) (fun x=>⟨[(3,.one (.rf 46 0 [] 13 0 x.2.length)),(27,.one (.ro 3 (t.Marks.map MarkV.row))),(28,.one (.pv (.int .i64 t.Marks.length))),(29,.one (.pv (.int .i64 x.1)))],[],[(0,t.enc false),(46,[slT true 13 (RecV.enc true) x.2])]⟩) (fun x=>x.1≤t.Marks.length∧x.2.length=t.Rows.length + x.1 + 1∧x.2=recPhase t.Phase::(t.Rows.map recRow++(t.Marks.take x.1).map recMark)) (fun x=>t.Marks.length - x.1) (0,a) ?_ ⟨Nat.zero_le _,by simp only; omega,by simp only [List.take_zero,List.map_nil,List.append_nil]; exact he⟩ ?_
   ·simp -implicitDefEqProofs (maxSteps:=1000000) only [go_sem]
    try rfl
   ·rintro ⟨j,b⟩ ⟨hj,hbl,hbe⟩
    simp only at hj hbl hbe
    cases q2:decide ((j:Int) < (t.Marks.length:Int))
    ·have k2:j=t.Marks.length:=by simp only [decide_eq_false_iff_not] at q2; omega
     rw [k2,List.take_length] at hbe
     have e9:recsOf t=b:=hbe.symm
     have e8:List.take b.length (List.map (RecV.enc true) b)=List.map (RecV.enc true) b:=List.take_of_length_le (by simp)
     exact F3 q2 e9 e8
    ·have k2:j < t.Marks.length:=by simp only [decide_eq_true_eq] at q2; omega
     have ea:List.map (RecV.enc true) b++[[iT 4,sT ⟨#[]⟩,iT 0,Tr.sl true 1 () [],iT 0,Tr.sl true 1 () [],iT 0,bT false,sT ⟨#[]⟩,iT 0,iT t.Marks[j].Who,iT t.Marks[j].Seq,iT t.Marks[j].Code]]=List.map (RecV.enc true) (b++[recMark t.Marks[j]]):=by rw [List.map_append]; rfl
     have et:List.take b.length (List.map (RecV.enc true) b)=List.map (RecV.enc true) b:=List.take_of_length_le (by simp)
     refine G4 q2 (List.getElem?_eq_getElem k2) et ea ?_
     refine ⟨(j + 1,b++[recMark t.Marks[j]]),?_,⟨k2,?_,?_⟩,?_⟩
     ·rw [IntWalk.i64_in _ (by omega)]
      simp only [List.length_append]
      rfl
     ·simp only [List.length_append,List.length_cons,List.length_nil]; omega
     ·rw [hbe,recs_marks k2]
     ·simp only; omega
  ·have k1:i < t.Rows.length:=by simp only [decide_eq_true_eq] at q; omega
   have ea:List.map (RecV.enc true) a++[[iT 1,sT t.Rows[i].Key,iT t.Rows[i].Old.Tag,slT true 1 uR t.Rows[i].Old.B,iT t.Rows[i].New.Tag,slT true 1 uR t.Rows[i].New.B,iT t.Rows[i].Has,bT t.Rows[i].Aside,sT ⟨#[]⟩,iT 0,iT 0,iT 0,iT 0]]=List.map (RecV.enc true) (a++[recRow t.Rows[i]]):=by rw [List.map_append]; rfl
   have et:List.take a.length (List.map (RecV.enc true) a)=List.map (RecV.enc true) a:=List.take_of_length_le (by simp)
   refine G2 q (List.getElem?_eq_getElem k1) ?_
   refine C2 (c_i_copyRow t.Rows[i] (hRl _ (List.getElem_mem k1))) et ea ?_
   refine ⟨(i + 1,a++[recRow t.Rows[i]]),?_,⟨k1,?_,?_⟩,?_⟩
   ·rw [IntWalk.i64_in _ (by omega)]
    simp only [List.length_append]
    rfl
   ·simp only [List.length_append,List.length_cons,List.length_nil]; omega
   ·rw [he,recs_rows k1]
   ·simp only; omega
def x_i_GetSign:FnX:=⟨35,[.tmp 4,.tmp 5,.tmp 6],
  .q [.i 4 0,.i 5 0,.F 6]
 (.seq (.q [.m 9 1,.B 10 .lss 9 0,.m 11 10,.z 11 (.m 12 1),.z 11 (.m 13 0),.z 11 (.n 14 13),.z 11 (.b 15 .geq 12 14),.r 16 11 15]
 (.c 16 (.q [.i 4 0,.i 5 0,.F 6]
 .ret)))
 (.q [.m 18 0,.m 19 1,.op 20 (.slice 1 (.t 18) (some (.t 19)) none),.c 21 323 [20],.m 17 21,.e 22 17 0,.e 23 17 1,.m 7 22,.m 8 23]
 (.seq (.q [.m 24 7,.op 25 (.bin .eql (.t 24) (.k (.one (.pv (.int .i32 65533))))),.m 26 25,.y 26 (.m 27 8),.y 26 (.B 28 .lss 27 2),.a 29 26 28]
 (.c 29 (.q [.i 4 0,.i 5 0,.F 6]
 .ret)))
 (.q [.m 30 7,.op 31 (.conv (.int .i64) (.t 30)),.m 32 1,.m 33 8,.b 34 .add 32 33,.m 4 31,.m 5 34,.T 6]
 .ret))))⟩
theorem r_i_GetSign {Te:TE} (c_u_DecodeRune:C_u_DecodeRune Te):C_i_GetSign (RF Te x_i_GetSign):=by
 intro b i hb
 refine run0 ?_
 cases q1:decide (i < 0)
 ·cases q2:decide (i≥b.length)
  ·have hi:0≤i∧i < b.length:=by simp only [decide_eq_false_iff_not] at q1 q2; omega
   have hne:b.drop i.toNat≠[]:=by
    intro e
    have:=congrArg List.length e
    rw [List.length_drop] at this
    simp only [List.length_nil] at this
    omega
   simp -implicitDefEqProofs (maxSteps:=1000000) only [x_i_GetSign,go_sem,q1,q2,drop_map_take]
   repeat refine ⟨sc,?_⟩
   try exact sf
   refine C0 (c_u_DecodeRune (b.drop i.toNat) hne) ?_
   have hw:=Lib.decodeL_width (b.drop i.toNat)
   have hc:=decodeL_bound (b.drop i.toNat)
   have hl:=Lib.decodeL_le (b.drop i.toNat) hne
   have hld:(b.drop i.toNat).length≤b.length:=by rw [List.length_drop]; omega
   by_cases hd:(Lib.decodeL (b.drop i.toNat)).1=65533∧(Lib.decodeL (b.drop i.toNat)).2=1
   ·have e1:((((Lib.decodeL (b.drop i.toNat)).1:Nat):Int)==65533)=true:=by rw [hd.1]; rfl
    have e2:decide ((((Lib.decodeL (b.drop i.toNat)).2:Nat):Int) < 2)=true:=by rw [hd.2]; rfl
    have e:=getSign_bad hi (show signAt _=none from if_pos hd)
    exact F3 e1 e2 e
   ·have e:=getSign_good hi (show signAt _=some _ from if_neg hd)
    have w1:IntKind.i64.wrap (((Lib.decodeL (b.drop i.toNat)).1:Nat):Int)=((Lib.decodeL (b.drop i.toNat)).1:Nat):=IntWalk.i64_in _ (by omega)
    have w2:IntKind.i64.wrap (i + (((Lib.decodeL (b.drop i.toNat)).2:Nat):Int))=i + ((Lib.decodeL (b.drop i.toNat)).2:Nat):=IntWalk.i64_in _ (by omega)
    cases e1:((((Lib.decodeL (b.drop i.toNat)).1:Nat):Int)==65533)
    ·exact F4 e1 e w1 w2
    ·have e2:decide ((((Lib.decodeL (b.drop i.toNat)).2:Nat):Int) < 2)=false:=by
      refine decide_eq_false fun q=>hd ⟨?_,by omega⟩
      have:=eq_of_beq e1
      omega
     try simp -implicitDefEqProofs (maxSteps:=1000000) only [go_sem,e1,e2,e,w1,w2]
     repeat refine ⟨sc,?_⟩
     try exact sf
  ·have e:=getSign_no (b:=b) (i:=i) (by simp only [decide_eq_true_eq] at q2; omega)
   simp -implicitDefEqProofs (maxSteps:=1000000) only [x_i_GetSign,go_sem,q1,q2,e]
   repeat refine ⟨sc,?_⟩
   try exact sf
 ·have e:=getSign_no (b:=b) (i:=i) (by simp only [decide_eq_true_eq] at q1; omega)
  simp -implicitDefEqProofs (maxSteps:=1000000) only [x_i_GetSign,go_sem,q1,e]
  repeat refine ⟨sc,?_⟩
  try exact sf
def x_i_Signs:FnX:=⟨22,[.tmp 2,.tmp 3],
  .q [.op 2 (.mv (.k (.one (.nils 1)))),.F 3]
 (.seq (.q [.m 7 0,.c 8 369 [7],.N 9 8]
 (.c 9 (.q [.op 2 (.mv (.k (.one (.nils 1)))),.F 3]
 .ret)))
 (.q [.op 10 (.bslice 1 []),.m 4 10]
 (.seq (.rng 0 0 11 12 13 14 [4,12] (.block 1 (.q [.e 15 13 2,.m 6 15]
 (.reg [.m 16 4,.m 17 6,.op 18 (.conv (.int .i64) (.t 17)),.op 19 (.bslice 1 [(.t 18)]),.op 20 (.app 1 8 (.t 16) (.t 19)),.m 4 20]))))
 (.norm [4] (.q [.m 21 4,.m 2 21,.T 3]
 .ret)))))⟩
theorem r_i_Signs {Te:TE} (c_u_ValidString:C_u_ValidString Te):C_i_Signs (RF Te x_i_Signs):=by
 intro s hs
 refine X0 x_i_Signs.eq_1 ?_
 refine .of (c_u_ValidString s (Nat.le_trans hs (by decide))) ?_
 cases hv:Lib.validD s.data.toList
 ·try simp -implicitDefEqProofs (maxSteps:=1000000) only [go_sem,signsOf,hv,if_false]
  repeat refine ⟨sc,?_⟩
  try exact sf
  try rfl
 ·have e:signsOf s=(signs s.data.toList,true):=by simp only [signsOf,hv,if_true]
  simp -implicitDefEqProofs (maxSteps:=1000000) only [go_sem,true_implies,false_implies,e]
  refine rng_of (σ:=List Int) s (fun r acc=>⟨[(4,.one (.rf 23 0 [] 1 0 acc.length)),(12,itV r)],[],[(0,[sT s]),(23,[.sl true 1 () (acc.map iR)])]⟩) (fun p acc=>p≤s.size∧acc.length≤p∧acc++signs (s.data.toList.drop p)=signs s.data.toList) [] ?_ ?_ ?_ ⟨Nat.zero_le _,Nat.le_refl _,by simp⟩ ?_ ?_ ?_
  ·rfl
  ·rfl
  ·intro r
   simp -implicitDefEqProofs (maxSteps:=1000000) only [rngIn_mk,go_sem]
   try rfl
  ·intro r y
   exact ⟨rfl,rfl⟩
  ·rintro r p acc ⟨hp,hl,ha⟩ hlt
   have hne:s.data.toList.drop p≠[]:=by
    intro e
    have:=congrArg List.length e
    rw [List.length_drop,sizeL] at this
    simp only [List.length_nil] at this
    omega
   have ed:=Lib.decodeL_drop s p
   have hw:=Lib.decodeL_width (s.data.toList.drop p)
   have hc:=decodeL_bound (s.data.toList.drop p)
   have hle:=Lib.decodeL_le _ hne
   rw [List.length_drop,sizeL] at hle
   rw [signs_step hne,List.drop_drop] at ha
   rw [← ed]
   generalize Lib.decodeL (s.data.toList.drop p)=d at hw hc hle ha
   have w:IntKind.i64.wrap ((d.1:Nat):Int)=(d.1:Nat):=IntWalk.i64_in _ (by omega)
   have ea:List.take acc.length (List.map iR acc)=List.map iR acc:=take_map iR acc
   try simp -implicitDefEqProofs (maxSteps:=1000000) only [go_sem,rngOn_mk,w,ea]
   repeat refine ⟨sc,?_⟩
   try exact sf
   refine ⟨acc++[((d.1:Nat):Int)],?_,by omega,by simp; omega,by rw [← ha]; simp [Nat.add_comm]⟩
   rw [show List.map iR acc++[[Tr.pv (Value.int .i64 ((d.1:Nat):Int))]]=List.map iR (acc++[((d.1:Nat):Int)]) by simp]
   simp
  ·rintro r p acc ⟨hp,hl,ha⟩ hge
   have hd:s.data.toList.drop p=[]:=List.drop_eq_nil_of_le (by rw [sizeL]; exact hge)
   rw [hd,signs_nil,List.append_nil] at ha
   subst ha
   try simp -implicitDefEqProofs (maxSteps:=1000000) only [go_sem,rngOff_mk]
   repeat refine ⟨sc,?_⟩
   try exact sf
def x_i_Apply1:FnX:=⟨9,[.tmp 3],
  .q [.v 2 0,.F 3]
 (.q [.f 4 2 0,.l 5 4,.f 6 1 8,.l 7 6,.b 8 .eql 5 7,.m 3 8]
 .ret)⟩
theorem r_i_Apply1 {Te:TE}:C_i_Apply1 (RF Te x_i_Apply1):=by
 intro x r
 refine run0 ?_
 simp -implicitDefEqProofs (maxSteps:=1000000) only [x_i_Apply1,go_sem]
 repeat refine ⟨sc,?_⟩
 try exact sf
def x_z_IndexFuncimplApply1:FnX:=⟨19,[.tmp 4],
  .q [.i 4 0]
 (.seq (.q [.m 6 0,.n 7 6,.i 8 0]
 (.block 0 (.loop [0,1,7,8] (.q [.b 9 .lss 8 7]
 (.seq (.cond 9 .skip (.exit 0))
 (.seq (.block 1 (.q [.m 10 8,.m 5 10]
 (.q [.m 11 1,.m 12 0,.m 13 5,.x 14 7 12 13,.L 15 7 14,.op 16 (.dcall 309 [0,15] [(.t 15)] (.t 11))]
 (.c 16 (.q [.m 17 5,.m 4 17]
 .ret)))))
 (.reg [.B 18 .add 8 1,.m 8 18])))))))
 (.norm [] (.q [.i 4 (-1)]
 .ret)))⟩
theorem r_z_IndexFuncimplApply1 {Te:TE} (c_i_Apply1:C_i_Apply1 Te):C_z_IndexFuncimplApply1 (RFV Te 309 x_z_IndexFuncimplApply1):=by
 intro l r hl
 refine run0V ?_
 simp -implicitDefEqProofs (maxSteps:=1000000) only [x_z_IndexFuncimplApply1,go_sem]
 repeat refine ⟨sc,?_⟩
 try exact sf
 refine loop_of (σ:=Nat) (fun i=>⟨[(0,.one (.ro 7 (l.map (RowV.enc false)))),(1,.fn 309 1 0),(7,.one (.pv (.int .i64 l.length))),(8,.one (.pv (.int .i64 i)))],[(1,[.pv (.int .i64 r.Kind),.pv (.string r.R.Key),.pv (.int .i64 r.R.Old.Tag),.dead,.pv (.int .i64 r.R.New.Tag),.dead,.pv (.int .i64 r.R.Has),.pv (.bool r.R.Aside),.pv (.string r.Key),.pv (.int .i64 r.N),.pv (.int .i64 r.Who),.pv (.int .i64 r.Seq),.pv (.int .i64 r.Code)])],[(0,[slT false 7 (RowV.enc false) l]),(1,r.dim)]⟩) (fun i=>i≤l.length∧∀ j (hj:j < l.length),j < i→decide (l[j].Key=r.Key)=false) (fun i=>l.length - i) 0 ?_ ⟨Nat.zero_le _,fun j _ h=>absurd h (Nat.not_lt_zero _)⟩ ?_
 ·simp -implicitDefEqProofs (maxSteps:=1000000) only [go_sem]
  try rfl
 ·rintro i ⟨hi,hp⟩
  cases q:decide ((i:Int) < (l.length:Int))
  ·have e:=rowAt_none (i:=i) (by simp only [decide_eq_false_iff_not] at q; omega) hp
   exact F2 q e
  ·have k1:i < l.length:=by simp only [decide_eq_true_eq] at q; omega
   refine G2 q (List.getElem?_eq_getElem k1) ?_
   refine C0 (c_i_Apply1 l[i] r) ?_
   cases g:decide (l[i].Key=r.Key)
   ·refine G1 g ?_
    refine ⟨i + 1,?_,⟨k1,rowAt_step k1 hp g⟩,by omega⟩
    rw [IntWalk.i64_in _ (by omega)]
    rfl
   ·have e:=(rowAt_hit k1 hp g).1
    exact F2 g e
end Go.X

