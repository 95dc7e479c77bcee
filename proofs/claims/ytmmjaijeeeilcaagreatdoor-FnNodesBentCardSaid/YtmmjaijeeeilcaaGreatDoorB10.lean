/- Texts: CVt CVv CVzs_5 CVzs_4 CVo CVi CVp_2 CVd CVb CVj_5 CVzc_2. -/
import Derived.Test.YtmmjaijeeeilcaaGreatDoorB04
set_option linter.unusedVariables false
set_option linter.unusedSimpArgs false
namespace Go.X
set_option maxRecDepth 100000
set_option maxHeartbeats 8000000
def x_i_Apply_2:XCode:=.seq (.q [.L 54 3 6,.c 55 179 [54],.N 56 55]
 (.c 56 (.q [.L 57 3 2,.c 58 246 [57],.s 100007 3 4 58,.F 5]
 .ret)))
 (.q [.L 59 3 6,.s 100008 3 4 59,.T 5]
 .ret)
def x_i_Apply_1:XCode:=.seq (.q [.f 40 3 10,.l 41 40,.B 42 .gtr 41 0]
 (.c 42 (.reg [.f 43 6 2,.l 44 43,.f 45 3 10,.l 46 45,.f 47 3 11,.l 48 47,.f 49 3 12,.l 50 49,.op 51 (.build [.i 0,.i 0,.i 0] [(0,1,(.t 46)),(1,1,(.t 48)),(2,1,(.t 50))]),.c 52 310 [44,51],.f 53 6 2,.s 100006 1 53 52])))
 (.norm [2,4,6] (x_i_Apply_2))
def x_i_Apply:FnX:=⟨60,[.cell 4 (some 3),.tmp 5],
  .q [.v 2 0,.v 3 1,.op 4 (.alloc [.nils 7,.i 0,.nils 3]),.F 5]
 (.q [.L 7 3 2,.c 8 246 [7],.op 6 (.alloc [.nils 7,.i 0,.nils 3]),.s 100001 3 6 8]
 (.seq (.q [.L 9 13 3,.c 10 306 [9],.N 11 10,.m 12 11,.z 12 (.L 13 3 2),.z 12 (.c 14 179 [13]),.z 12 (.N 15 14),.r 16 12 15]
 (.c 16 (.q [.L 17 3 6,.s 100002 3 4 17,.F 5]
 .ret)))
 (.seq (.q [.f 18 3 0,.l 19 18]
 (.block 0 (.q [.B 21 .eql 19 1,.m 20 21]
 (.cond 20 (.reg [.f 22 6 0,.l 23 22,.f 24 3 1,.L 25 7 24,.op 26 (.call 307 [1,0] [(.t 23),(.t 25)]),.f 27 6 0,.s 100003 1 27 26]) (.q [.B 29 .eql 19 2,.m 28 29]
 (.cond 28 (.reg [.f 30 6 0,.l 31 30,.op 32 (.clos 309 (.t 3)),.op 33 (.vcall 308 309 [1,15] [(.t 31)] (.t 32)),.f 34 6 0,.s 100004 1 34 33]) (.q [.B 36 .eql 19 3,.m 35 36]
 (.c 35 (.reg [.f 37 3 9,.l 38 37,.f 39 6 1,.s 100005 1 39 38])))))))))
 (.norm [2,3,4,6] (x_i_Apply_1)))))⟩
theorem r_i_Apply {Te:TE} (c_i_copyTab:C_i_copyTab Te) (c_i_RecOk:C_i_RecOk Te) (c_i_TabOk:C_i_TabOk Te) (c_i_withRow:C_i_withRow Te) (c_z_DeleteFuncimplApply1:C_z_DeleteFuncimplApply1 Te) (c_i_withMark:C_i_withMark Te):C_i_Apply (RF Te x_i_Apply):=by
 intro t r ht hr
 have hL:=ht.len (by decide)
 have hLr:=(hr.len (by decide))
 have hci:=change_in ht hr
 have h1:=ht.1.1
 have h2:=ht.2
 refine X0 x_i_Apply.eq_1 ?_
 refine C0 (c_i_copyTab t hL) ?_
 refine C0 (c_i_RecOk r (hr.mono (by decide))) ?_
 cases g1:r.ok
 ·have e:t.apply r=(t,false):=by rw [TabV.apply,g1]; rfl
  exact F1 e
 refine G0 ?_
 refine C0 (c_i_TabOk t (ht.mono (by decide))) ?_
 cases g2:t.ok
 ·have e:t.apply r=(t,false):=by rw [TabV.apply,g1,g2]; rfl
  exact F1 e
 refine G0 ?_
 rcases kinds r.Kind with k | k | k | k
 all_goals
  try simp -implicitDefEqProofs (maxSteps:=1000000) only [go_sem,k]
  repeat refine ⟨sc,?_⟩
  try exact sf
 all_goals try (refine .of (c_i_withRow t.Rows r.R (by omega) hLr) ?_; simp -implicitDefEqProofs (maxSteps:=1000000) only [go_sem,take_all,take_marks])
 all_goals try (refine .of (c_z_DeleteFuncimplApply1 t.Rows r (by omega)) ?_; simp -implicitDefEqProofs (maxSteps:=1000000) only [go_sem,take_all,take_marks])
 all_goals cases w:decide (r.Who > 0)
 all_goals
  try simp -implicitDefEqProofs (maxSteps:=1000000) only [x_i_Apply_1,go_sem,w,take_all,take_marks]
 all_goals try (refine .of (c_i_withMark t.Marks ⟨r.Who,r.Seq,r.Code⟩ (by omega)) ?_; simp -implicitDefEqProofs (maxSteps:=1000000) only [go_sem,take_all,take_marks])
 all_goals
  have tk:=c_i_TabOk (t.change r) (hci.mono (by decide))
  simp only [TabV.change,TabV.put,k,w,cond_true,cond_false] at tk
  try simp -implicitDefEqProofs (maxSteps:=1000000) only [x_i_Apply_2,go_sem,take_all,take_marks]
  refine .of tk ?_
  cases g3:(t.change r).ok
 all_goals
  have g4:=g3
  simp only [TabV.change,TabV.put,k,w,cond_true,cond_false] at g4
  try simp -implicitDefEqProofs (maxSteps:=1000000) only [go_sem,g4,take_all,take_marks]
 all_goals try (refine .of (c_i_copyTab t hL) ?_; have e:t.apply r=(t,false):=(by rw [TabV.apply,g1,g2,g3]; rfl); simp -implicitDefEqProofs (maxSteps:=1000000) only [go_sem,e,take_all,take_marks])
 all_goals try (have e:t.apply r=(t.change r,true):=(by rw [TabV.apply,g1,g2,g3]; rfl); simp -implicitDefEqProofs (maxSteps:=1000000) only [go_sem,e,TabV.change,TabV.put,k,w,cond_true,cond_false,take_all,take_marks])
 all_goals try rfl
def x_i_MarkAt:FnX:=⟨22,[.cell 4 (some 3),.tmp 5],
  .q [.v 2 0,.op 4 (.alloc [.i 0,.i 0,.i 0]),.F 5]
 (.seq (.q [.f 8 2 2,.l 9 8,.n 10 9,.i 11 0]
 (.block 0 (.loop [1,4,9,10,11] (.q [.b 12 .lss 11 10]
 (.seq (.cond 12 .skip (.exit 0))
 (.seq (.block 1 (.q [.x 13 3 9 11,.L 14 3 13,.op 7 (.alloc [.i 0,.i 0,.i 0]),.s 100001 3 7 14]
 (.q [.f 15 7 0,.l 16 15,.m 17 1,.b 18 .eql 16 17]
 (.c 18 (.q [.L 19 3 7,.s 100002 3 4 19,.T 5]
 .ret)))))
 (.reg [.B 20 .add 11 1,.m 11 20])))))))
 (.norm [4] (.q [.op 21 (.build [.i 0,.i 0,.i 0] []),.s 100003 3 4 21,.F 5]
 .ret)))⟩
theorem r_i_MarkAt {Te:TE}:C_i_MarkAt (RF Te x_i_MarkAt):=by
 intro t who hl
 refine X0 x_i_MarkAt.eq_1 ?_
 refine loop_of (σ:=Nat) (fun i=>⟨[(1,.one (.pv (.int .i64 who))),(4,.bp 4 0),(9,.one (.ro 3 (t.Marks.map MarkV.row))),(10,.one (.pv (.int .i64 t.Marks.length))),(11,.one (.pv (.int .i64 i)))],[(4,[.pv (.int .i64 0),.pv (.int .i64 0),.pv (.int .i64 0)])],[(0,t.enc false),(1,[iT who])]⟩) (fun i=>i≤t.Marks.length∧∀ j (hj:j < t.Marks.length),j < i→(t.Marks[j].Who==who)=false) (fun i=>t.Marks.length - i) 0 ?_ ⟨Nat.zero_le _,fun j _ h=>absurd h (Nat.not_lt_zero _)⟩ ?_
 ·simp -implicitDefEqProofs (maxSteps:=1000000) only [go_sem]
  try rfl
 ·rintro i ⟨hi,hp⟩
  cases q:decide ((i:Int) < (t.Marks.length:Int))
  ·have e:=markAt_none (i:=i) (by simp only [decide_eq_false_iff_not] at q; omega) hp
   exact F2 q e
  ·have k1:i < t.Marks.length:=by simp only [decide_eq_true_eq] at q; omega
   cases g:(t.Marks[i].Who==who)
   ·refine G3 q (List.getElem?_eq_getElem k1) g ?_
    refine ⟨i + 1,?_,⟨k1,markAt_step k1 hp g⟩,by omega⟩
    rw [IntWalk.i64_in _ (by omega)]
    rfl
   ·have e:=markAt_hit k1 hp g
    exact F4 q (List.getElem?_eq_getElem k1) g e
def x_s_MarkAt:FnX:=⟨28,[.cell 4 (some 3),.tmp 5],
  .q [.v 2 0,.op 4 (.alloc [.i 0,.i 0,.i 0]),.F 5]
 (.seq (.q [.i 6 0]
 (.block 0 (.loop [1,2,4,6] (.seq (.q [.m 7 6,.f 8 2 2,.l 9 8,.n 10 9,.b 11 .lss 7 10]
 (.cond 11 .skip (.exit 0)))
 (.seq (.block 1 (.q [.f 14 2 2,.l 15 14,.m 16 6,.x 17 3 15 16,.f 18 17 0,.l 19 18,.m 20 1,.b 21 .eql 19 20]
 (.c 21 (.q [.f 22 2 2,.l 23 22,.m 24 6,.x 25 3 23 24,.L 26 3 25,.s 100001 3 4 26,.T 5]
 .ret))))
 (.reg [.m 12 6,.B 13 .add 12 1,.m 6 13]))))))
 (.norm [4] (.q [.op 27 (.build [.i 0,.i 0,.i 0] []),.s 100002 3 4 27,.F 5]
 .ret)))⟩
theorem r_s_MarkAt {Te:TE}:C_s_MarkAt (RF Te x_s_MarkAt):=by
 intro t who hl
 refine X0 x_s_MarkAt.eq_1 ?_
 refine loop_of (σ:=Nat) (fun i=>⟨[(1,.one (.pv (.int .i64 who))),(2,.bp 2 0),(4,.bp 4 0),(6,.one (.pv (.int .i64 i)))],[(2,[.ro 7 (t.Rows.map (RowV.enc false)),.pv (.int .i64 t.Phase),.ro 3 (t.Marks.map MarkV.row)]),(4,[.pv (.int .i64 0),.pv (.int .i64 0),.pv (.int .i64 0)])],[(0,t.enc false),(1,[iT who])]⟩) (fun i=>i≤t.Marks.length∧∀ j (hj:j < t.Marks.length),j < i→(t.Marks[j].Who==who)=false) (fun i=>t.Marks.length - i) 0 ?_ ⟨Nat.zero_le _,fun j _ h=>absurd h (Nat.not_lt_zero _)⟩ ?_
 ·simp -implicitDefEqProofs (maxSteps:=1000000) only [go_sem]
  try rfl
 ·rintro i ⟨hi,hp⟩
  cases q:decide ((i:Int) < (t.Marks.length:Int))
  ·have e:=markAt_none (i:=i) (by simp only [decide_eq_false_iff_not] at q; omega) hp
   exact F2 q e
  ·have k1:i < t.Marks.length:=by simp only [decide_eq_true_eq] at q; omega
   cases g:(t.Marks[i].Who==who)
   ·refine G3 q (List.getElem?_eq_getElem k1) g ?_
    refine ⟨i + 1,?_,⟨k1,markAt_step k1 hp g⟩,by omega⟩
    rw [IntWalk.i64_in _ (by omega)]
    rfl
   ·have e:=markAt_hit k1 hp g
    exact F4 q (List.getElem?_eq_getElem k1) g e
def x_i_mayAsk:FnX:=⟨11,[.tmp 4],
  .q [.F 4]
 (.q [.m 5 0,.op 6 (.call 90 [0,0,0] [(.t 5),(.i 1),(.i 9)]),.m 7 6,.y 7 (.m 8 1),.y 7 (.op 9 (.call 90 [0,0,0] [(.t 8),(.i 1),(.i 65535)])),.a 10 7 9,.m 4 10]
 .ret)⟩
theorem r_i_mayAsk {Te:TE} (c_i_within:C_i_within Te):C_i_mayAsk (RF Te x_i_mayAsk):=by
 intro who seq
 refine X0 x_i_mayAsk.eq_1 ?_
 refine C0 (c_i_within _ _ _) ?_
 cases g:win who 1 9
 ·exact F0
 ·refine G0 ?_
  exact D0 (c_i_within _ _ _)
def x_i_askedBefore:FnX:=⟨34,[.tmp 6,.tmp 7],
  .q [.v 3 0,.i 6 0,.F 7]
 (.q [.f 11 3 0,.f 12 11 4,.L 13 3 12,.m 14 1,.c 15 160 [13,14],.m 10 15,.e 16 10 0,.e 17 10 1,.op 8 (.alloc [.i 0,.i 0,.i 0]),.s 100001 3 8 16,.m 9 17]
 (.seq (.block 0 (.q [.m 19 9,.N 20 19,.m 21 20,.z 21 (.f 22 8 1),.z 21 (.l 23 22),.z 21 (.m 24 2),.z 21 (.b 25 .lss 23 24),.r 26 21 25,.m 18 26]
 (.cond 18 (.q [.i 6 0,.F 7]
 .ret) (.q [.f 28 8 1,.l 29 28,.m 30 2,.b 31 .gtr 29 30,.m 27 31]
 (.c 27 (.q [.i 6 1,.T 7]
 .ret))))))
 (.q [.f 32 8 2,.l 33 32,.m 6 33,.T 7]
 .ret)))⟩
theorem r_i_askedBefore {Te:TE} (c_i_MarkAt:C_i_MarkAt Te):C_i_askedBefore (RF Te x_i_askedBefore):=by
 intro n who seq hl
 refine X0 x_i_askedBefore.eq_1 ?_
 refine C0 (c_i_MarkAt n.S.T who hl) ?_
 cases g:markAt n.S.T.Marks who with
 | none =>
  try simp -implicitDefEqProofs (maxSteps:=1000000) only [go_sem,oldOf,Option.isSome_none]
  repeat refine ⟨sc,?_⟩
  try exact sf
  try rfl
 | some m =>
  cases g1:decide (m.Seq < seq)
  ·cases g2:decide (m.Seq > seq)
   ·have g3:(m.Seq==seq)=true:=by simp only [decide_eq_false_iff_not] at g1 g2; simp only [beq_iff_eq]; omega
    try simp -implicitDefEqProofs (maxSteps:=1000000) only [go_sem,oldOf,Option.isSome_some,g1,g2,g3]
    repeat refine ⟨sc,?_⟩
    try exact sf
    try rfl
   ·try simp -implicitDefEqProofs (maxSteps:=1000000) only [go_sem,oldOf,Option.isSome_some,g1,g2]
    repeat refine ⟨sc,?_⟩
    try exact sf
    try rfl
  ·have g2:decide (m.Seq > seq)=false:=by simp only [decide_eq_true_eq] at g1; exact decide_eq_false (by omega)
   have g3:(m.Seq==seq)=false:=by simp only [decide_eq_true_eq] at g1; simp only [beq_eq_false_iff_ne]; omega
   try simp -implicitDefEqProofs (maxSteps:=1000000) only [go_sem,oldOf,Option.isSome_some,g1,g2,g3]
   repeat refine ⟨sc,?_⟩
   try exact sf
   try rfl
def x_s_l15Old:FnX:=⟨49,[.tmp 6,.tmp 7],
  .q [.v 3 0,.i 6 0,.F 7]
 (.seq (.q [.L 10 10 3,.c 11 64 [10],.N 12 11,.m 13 12,.z 13 (.m 14 1),.z 13 (.op 15 (.call 120 [0,0,0] [(.t 14),(.i 1),(.i 9)])),.z 13 (.N 16 15),.r 17 13 16,.m 18 17,.z 18 (.m 19 2),.z 18 (.op 20 (.call 120 [0,0,0] [(.t 19),(.i 1),(.i 65535)])),.z 18 (.N 21 20),.r 22 18 21]
 (.c 22 (.q [.i 6 1,.T 7]
 .ret)))
 (.q [.f 24 3 0,.f 25 24 4,.L 26 3 25,.m 27 1,.c 28 78 [26,27],.m 23 28,.e 29 23 0,.e 30 23 1,.op 8 (.alloc [.i 0,.i 0,.i 0]),.s 100001 3 8 29,.m 9 30]
 (.seq (.block 0 (.q [.m 32 9,.m 33 32,.y 33 (.f 34 8 1),.y 33 (.l 35 34),.y 33 (.m 36 2),.y 33 (.b 37 .gtr 35 36),.a 38 33 37,.m 31 38]
 (.cond 31 (.q [.i 6 1,.T 7]
 .ret) (.q [.m 40 9,.m 41 40,.y 41 (.f 42 8 1),.y 41 (.l 43 42),.y 41 (.m 44 2),.y 41 (.b 45 .eql 43 44),.a 46 41 45,.m 39 46]
 (.c 39 (.q [.f 47 8 2,.l 48 47,.m 6 48,.T 7]
 .ret))))))
 (.q [.i 6 0,.F 7]
 .ret))))⟩
theorem r_s_l15Old {Te:TE} (c_s_l15Up:C_s_l15Up Te) (c_s_l1In:C_s_l1In Te) (c_s_MarkAt:C_s_MarkAt Te):C_s_l15Old (RF Te x_s_l15Old):=by
 intro n who seq h
 refine X0 x_s_l15Old.eq_1 ?_
 refine C0 (c_s_l15Up n h) ?_
 cases g1:n.up
 ·have e:n.old who seq=(1,true):=by rw [NodeV.old,g1]; rfl
  exact F1 e
 refine G0 ?_
 refine C0 (c_s_l1In _ _ _) ?_
 cases g2:win who 1 9
 ·have e:n.old who seq=(1,true):=by rw [NodeV.old,g1,g2]; rfl
  exact F1 e
 refine G0 ?_
 refine C0 (c_s_l1In _ _ _) ?_
 cases g3:win seq 1 65535
 ·have e:n.old who seq=(1,true):=by rw [NodeV.old,g1,g2,g3]; rfl
  exact F1 e
 have e:n.old who seq=oldOf (markAt n.S.T.Marks who) seq:=by rw [NodeV.old,g1,g2,g3]; rfl
 refine G0 ?_
 refine C0 (c_s_MarkAt n.S.T who h.2.2) ?_
 cases g:markAt n.S.T.Marks who with
 | none =>
  try simp -implicitDefEqProofs (maxSteps:=1000000) only [go_sem,e,g,oldOf,Option.isSome_none]
  repeat refine ⟨sc,?_⟩
  try exact sf
  try rfl
 | some m =>
  cases g4:decide (m.Seq > seq)
  ·cases g5:(m.Seq==seq)
   ·try simp -implicitDefEqProofs (maxSteps:=1000000) only [go_sem,e,g,oldOf,Option.isSome_some,g4,g5]
    repeat refine ⟨sc,?_⟩
    try exact sf
    try rfl
   ·try simp -implicitDefEqProofs (maxSteps:=1000000) only [go_sem,e,g,oldOf,Option.isSome_some,g4,g5]
    repeat refine ⟨sc,?_⟩
    try exact sf
    try rfl
  ·try simp -implicitDefEqProofs (maxSteps:=1000000) only [go_sem,e,g,oldOf,Option.isSome_some,g4]
   repeat refine ⟨sc,?_⟩
   try exact sf
   try rfl
def x_s_l10Any:FnX:=⟨58,[.cell 2 (some 4)],
  .q [.op 2 (.alloc [.nils 1,.nils 2,.i 0,.F])]
 (.q [.m 4 0,.op 5 (.call 317 [5] [(.t 4)]),.op 3 (.alloc [.nils 1,.nils 2,.i 0,.F]),.s 100001 4 3 5]
 (.seq (.q [.m 6 0,.op 7 (.call 96 [5,0] [(.t 6),(.i 12)])]
 (.block 0 (.q [.B 9 .eql 7 0,.m 8 9]
 (.cond 8 (.draw [.f 10 3 0,.l 11 10,.m 12 0,.op 13 (.call 96 [5,0] [(.t 12),(.i 2)]),.op 14 (.bin .add (.i 120) (.t 13)),.op 15 (.mks 1 1 [.pv (.int .u8 0)] (.t 14)),.op 16 (.iaddr 1 (.t 11) (.i 0)),.s 100002 1 16 15] [[],[0],[],[2],[3],[4,4],[1,0,1,2,3,4,5],[6,5,3,0,1,2,3,4,5]]) (.q [.B 18 .eql 7 1,.m 17 18]
 (.cond 17 (.draw [.f 19 3 1,.l 20 19,.m 21 0,.op 22 (.bslice 1 [(.i (-1)),(.i 0),(.i 99)]),.op 23 (.call 70 [5,1] [(.t 21),(.t 22)]),.m 24 0,.op 25 (.call 318 [5,0] [(.t 24),(.i 2)]),.op 26 (.build [.i 0,.nils 1] [(0,1,(.t 23)),(1,1,(.t 25))]),.op 27 (.bslice 2 [(.t 26)]),.op 28 (.app 2 32 (.t 20) (.t 27)),.f 29 3 1,.s 100003 1 29 28] [[],[0],[],[],[2,3],[],[5,4],[4,6],[7],[1,8,6],[0,1,2,3,4,5,6,7,8,9],[10,9,9,0,1,2,3,4,5,6,7,8,9]]) (.q [.B 31 .eql 7 2,.m 30 31]
 (.cond 30 (.block 1 (.loop [0,2,3] (.seq (.seq (.draw [.f 32 3 1,.l 33 32,.n 34 33,.m 35 0,.op 36 (.call 96 [5,0] [(.t 35),(.i 3)]),.op 37 (.bin .add (.i 39) (.t 36)),.b 38 .lss 34 37] [[],[0],[1],[],[3],[4],[2,5]])
 (.cond 38 .skip (.exit 1)))
 (.block 2 (.reg [.f 39 3 1,.l 40 39,.op 41 (.build [.i 0,.nils 1] []),.op 42 (.bslice 2 [(.t 41)]),.op 43 (.app 2 32 (.t 40) (.t 42)),.f 44 3 1,.s 100004 1 44 43]))))) (.q [.B 46 .eql 7 3,.m 45 46]
 (.cond 45 (.reg [.m 47 0,.op 48 (.bslice 1 [(.i 0),(.i 1),(.i 5),(.i (-2)),(.i 1001)]),.op 49 (.call 70 [5,1] [(.t 47),(.t 48)]),.f 50 3 2,.s 100005 1 50 49]) (.q [.B 52 .eql 7 4,.m 51 52]
 (.cond 51 (.reg [.f 53 3 3,⟨none,none,100006,.store 1 (.t 53) .T⟩]) (.q [.B 55 .eql 7 5,.m 54 55]
 (.c 54 (.reg [.f 56 3 2,⟨none,none,100007,.store 1 (.t 56) (.i 0)⟩])))))))))))))))
 (.norm [2,3] (.q [.L 57 4 3,.s 100008 4 2 57]
 .ret))))⟩
theorem r_s_l10Any {Te:TE} (c_s_l10Draw:C_s_l10Draw Te) (c_s_l1Below:C_s_l1Below Te) (c_s_l1Int:C_s_l1Int Te) (c_s_l1Bytes:C_s_l1Bytes Te):∀ (c:CurV) (hc:c.ok),∃ r0,(∃ (x:DevV) (d:CurV),(x.In (2 ^ 20)∧d.ok)∧r0=(⟨[.agg (x.enc true)],[d.enc]⟩:Res))∧RunFn Te x_s_l10Any [.ptr c.enc] r0:=by
 intro c hc
 refine some_of (Nat.le_of_ble_eq_true rfl) (by rfl) ?_
 have e:∀ j k:Int,k≠j→(k==j)=false:=fun j k h=>by simpa using h
 simp -implicitDefEqProofs (maxSteps:=1000000) only [x_s_l10Any,go_sem]
 repeat refine ⟨sc,?_⟩
 try exact sf
 obtain ⟨x0,d0,⟨hx,hd⟩,ht⟩:=c_s_l10Draw c hc
 have hC:=DevV.ok_cache hx
 have hpos:0 < x0.Secs.length:=((DevV.ok_iff x0).1 hx).1.1
 obtain ⟨hS,hW1,hW2⟩:=DevV.ok_in hx
 refine C0 (ht) ?_
 obtain ⟨k,d,⟨_,hd⟩,ht⟩:=c_s_l1Below d0 12 hd
 by_cases q0:k=0
 ·subst q0
  obtain ⟨u,d,⟨⟨hu0,hu1,_⟩,hd⟩,ht1⟩:=c_s_l1Below d 2 hd
  have hu2:=hu1 (by decide)
  have wu:IntKind.i64.wrap (120 + u)=120 + u:=IntWalk.i64_in _ (by omega)
  have hp:decide (0 < x0.Secs.length)=true:=decide_eq_true hpos
  have es:=set_secs x0.Secs 0 (List.replicate (120 + u).toNat 0)
  have et:List.take x0.Secs.length (List.map (secR true) (x0.Secs.set 0 (List.replicate (120 + u).toNat 0)))=List.map (secR true) (x0.Secs.set 0 (List.replicate (120 + u).toNat 0)):=List.take_of_length_le (by simp)
  refine C0 (ht) ?_
  refine .of (ht1) ?_
  simp -implicitDefEqProofs (maxSteps:=1000000) only [go_sem,wu,zero_rows,take_zeros]
  repeat refine ⟨by first | exact decide_eq_true (by omega) | exact ⟨decide_eq_true (by omega),decide_eq_true (by omega)⟩,?_⟩
  simp -implicitDefEqProofs (maxSteps:=1000000) only [go_sem,storeAp,setCells,List.getD_eq_getElem?_getD,List.getElem?_eq_getElem hpos,take_zeros,hp,es,et,List.length_set]
  refine ⟨by decide,?_⟩
  exact ⟨⟨x0.Secs.set 0 (List.replicate (120 + u).toNat 0),x0.Cache,x0.Fuse,x0.Down⟩,d,⟨⟨secs_in hS (by rw [List.length_replicate]; omega),hW1,hW2⟩,hd⟩,rfl⟩
 by_cases q1:k=1
 ·subst q1
  obtain ⟨u,d,⟨_,hd⟩,ht1⟩:=c_s_l1Int d [-1,0,99] hd (by decide)
  obtain ⟨b,d,⟨hb,hd⟩,ht2⟩:=c_s_l1Bytes d 2 hd (by decide)
  have ea:=app1W x0.Cache ⟨u,b⟩
  have et:=take1 (WrV.enc true) x0.Cache ⟨u,b⟩
  refine C0 (ht) ?_
  refine C0 (ht1) ?_
  refine C2 (ht2) ea et ?_
  exact ⟨⟨x0.Secs,x0.Cache++[⟨u,b⟩],x0.Fuse,x0.Down⟩,d,⟨⟨hS,cache_in (by omega) hW2 (by show b.length≤2 ^ 20; omega)⟩,hd⟩,rfl⟩
 by_cases q2:k=2
 ·subst q2
  refine C0 (ht) ?_
  obtain ⟨E,hE⟩:∃ E:List Go.X.T,E=CurV.enc d0:=⟨_,rfl⟩
  rw [← hE]
  refine loop_of (σ:=List WrV×Bool×Nat×CurV) (fun x=>cond x.2.1 ⟨[(0,.bp 0 0),(2,.bp 2 0),(3,.bp 3 0)],[(0,[.ro 1 (x.2.2.2.b.map uR),.pv (.int .i64 x.2.2.2.i),.pv (.int .i64 x.2.2.2.h)]),(2,[.nils 1,.nils 2,.pv (.int .i64 0),.pv (.bool false)]),(3,[.rf 59 0 [] 1 0 x0.Secs.length,.rf 59 1 [] 2 0 x.1.length,.pv (.int .i64 x0.Fuse),.pv (.bool x0.Down)])],[(0,c.enc),(59,slT true 1 (secR true) x0.Secs::slT true 2 (WrV.enc true) x.1::iT x0.Fuse::bT x0.Down::E)]⟩ ⟨[(0,.bp 0 0),(2,.bp 2 0),(3,.bp 3 0)],[(0,[.ro 1 (x.2.2.2.b.map uR),.pv (.int .i64 x.2.2.2.i),.pv (.int .i64 x.2.2.2.h)]),(2,[.nils 1,.nils 2,.pv (.int .i64 0),.pv (.bool false)]),(3,[.rf 59 0 [] 1 0 x0.Secs.length,.rf 60 0 [] 2 0 x.1.length,.pv (.int .i64 x0.Fuse),.pv (.bool x0.Down)])],[(0,c.enc),(59,slT true 1 (secR true) x0.Secs::Tr.no ()::iT x0.Fuse::bT x0.Down::E),(60,[slT true 2 (WrV.enc true) x.1])]⟩) (fun x=>(x.1.length≤42∧∀ y∈x.1,y.In (2 ^ 20))∧x.2.2.2.ok) (fun x=>42 - x.1.length) (x0.Cache,true,0,d) ?_ ⟨⟨by simp only; omega,hW2⟩,hd⟩ ?_
  ·simp -implicitDefEqProofs (maxSteps:=1000000) only [go_sem]
   try rfl
  ·rintro ⟨l,b,z,d⟩ ⟨⟨hl,hI⟩,hd⟩
   simp only at hl hI hd
   obtain ⟨u,d1,⟨⟨hu0,hu1,_⟩,hd1⟩,ht⟩:=c_s_l1Below d 3 hd
   have hu3:=hu1 (by decide)
   have wu:IntKind.i64.wrap (39 + u)=39 + u:=IntWalk.i64_in _ (by omega)
   have ea:List.map (WrV.enc true) l++[[iT 0,Tr.sl true 1 () []]]=List.map (WrV.enc true) (l++[⟨0,[]⟩]):=app1W l ⟨0,[]⟩
   have xl:(l++[WrV.mk 0 []]).length=l.length + 1:=by simp only [List.length_append,List.length_cons,List.length_nil]
   have hx2:=(cache_in (l:=l) (n:=2 ^ 20) (by omega) hI (x:=⟨0,[]⟩) (Nat.zero_le _)).2
   cases q:decide ((l.length:Int) < 39 + u)
   ·cases b
    ·refine G0 ?_
     refine C2 (ht) wu q ?_
     exact ⟨⟨x0.Secs,l,x0.Fuse,x0.Down⟩,d1,⟨⟨hS,by show l.length≤2 ^ 20; omega,hI⟩,hd1⟩,rfl⟩
    ·refine G0 ?_
     refine C2 (ht) wu q ?_
     exact ⟨⟨x0.Secs,l,x0.Fuse,x0.Down⟩,d1,⟨⟨hS,by show l.length≤2 ^ 20; omega,hI⟩,hd1⟩,rfl⟩
   ·have q':=q
    simp only [decide_eq_true_eq] at q'
    cases b
    ·refine G0 ?_
     refine C3 (ht) wu q ea ?_
     exact ⟨(l++[⟨0,[]⟩],false,0,d1),by rw [← xl]; rfl,⟨⟨by simp only [xl]; omega,hx2⟩,hd1⟩,by simp only [xl]; omega⟩
    ·refine G0 ?_
     refine C3 (ht) wu q ea ?_
     exact ⟨(l++[⟨0,[]⟩],false,0,d1),by rw [← xl]; rfl,⟨⟨by simp only [xl]; omega,hx2⟩,hd1⟩,by simp only [xl]; omega⟩
 by_cases q3:k=3
 ·subst q3
  obtain ⟨u,d,⟨_,hd⟩,ht1⟩:=c_s_l1Int d [0,1,5,-2,1001] hd (by decide)
  refine C0 (ht) ?_
  refine C0 (ht1) ?_
  exact ⟨⟨x0.Secs,x0.Cache,u,x0.Down⟩,d,⟨⟨hS,hW1,hW2⟩,hd⟩,rfl⟩
 by_cases q4:k=4
 ·subst q4
  refine C0 (ht) ?_
  exact ⟨⟨x0.Secs,x0.Cache,x0.Fuse,true⟩,d,⟨⟨hS,hW1,hW2⟩,hd⟩,rfl⟩
 by_cases q5:k=5
 ·subst q5
  refine C0 (ht) ?_
  exact ⟨⟨x0.Secs,x0.Cache,0,x0.Down⟩,d,⟨⟨hS,hW1,hW2⟩,hd⟩,rfl⟩
 refine .of (ht) ?_
 try simp -implicitDefEqProofs (maxSteps:=1000000) only [go_sem,e 0 k q0,e 1 k q1,e 2 k q2,e 3 k q3,e 4 k q4,e 5 k q5]
 repeat refine ⟨sc,?_⟩
 try exact sf
 exact ⟨x0,d,⟨⟨hS,hW1,hW2⟩,hd⟩,rfl⟩
def x_s_l12Any:FnX:=⟨64,[.cell 4 (some 3)],
  .q [.op 4 (.alloc [.nils 7,.i 0,.nils 3])]
 (.q [.m 7 0,.m 8 1,.op 9 (.call 319 [5,0] [(.t 7),(.t 8)]),.op 5 (.alloc [.nils 7,.i 0,.nils 3]),.s 100001 3 5 9]
 (.seq (.q [.m 10 0,.op 11 (.call 96 [5,0] [(.t 10),(.i 10)])]
 (.block 0 (.q [.B 13 .eql 11 0,.m 12 13]
 (.cond 12 (.draw [.f 14 5 0,.l 15 14,.m 16 0,.op 17 (.call 320 [5] [(.t 16)]),.op 18 (.bslice 7 [(.t 17)]),.op 19 (.app 7 96 (.t 15) (.t 18)),.f 20 5 0,.s 100002 1 20 19] [[],[0],[],[2],[3],[1,4,3],[0,1,2,3,4,5],[6,5,5,0,1,2,3,4,5]]) (.q [.B 22 .eql 11 1,.m 21 22]
 (.cond 21 (.reg [.m 23 0,.op 24 (.bslice 1 [(.i (-1)),(.i 7),(.i 8)]),.op 25 (.call 70 [5,1] [(.t 23),(.t 24)]),.f 26 5 1,.s 100003 1 26 25]) (.q [.B 28 .eql 11 2,.m 27 28]
 (.cond 27 (.draw [.f 29 5 2,.l 30 29,.m 31 0,.op 32 (.bslice 1 [(.i 0),(.i 1),(.i 9),(.i 10)]),.op 33 (.call 70 [5,1] [(.t 31),(.t 32)]),.m 34 0,.op 35 (.call 244 [5] [(.t 34)]),.m 36 0,.op 37 (.bslice 1 [(.i 0),(.i 6),(.i 7)]),.op 38 (.call 70 [5,1] [(.t 36),(.t 37)]),.op 39 (.build [.i 0,.i 0,.i 0] [(0,1,(.t 33)),(1,1,(.t 35)),(2,1,(.t 38))]),.op 40 (.bslice 3 [(.t 39)]),.op 41 (.app 3 24 (.t 30) (.t 40)),.f 42 5 2,.s 100004 1 42 41] [[],[0],[],[],[2,3],[],[5,4],[],[],[7,8,6],[4,6,9],[10],[1,11,9],[0,1,2,3,4,5,6,7,8,9,10,11,12],[13,12,12,0,1,2,3,4,5,6,7,8,9,10,11,12]]) (.q [.B 44 .eql 11 3,.m 43 44]
 (.c 43 (.q [.i 6 0]
 (.block 1 (.loop [4,5,6] (.seq (.q [.m 45 6,.B 46 .lss 45 7]
 (.cond 46 .skip (.exit 1)))
 (.seq (.block 2 (.reg [.f 49 5 0,.l 50 49,.m 51 6,.op 52 (.bin .add (.i 48) (.t 51)),.op 53 (.conv (.int .u8) (.t 52)),.op 54 (.bslice 1 [(.t 53)]),.op 55 (.conv .b2s (.t 54)),.op 56 (.bin .add (.k (.one (.pv (.string ⟨#[122]⟩)))) (.t 55)),.op 57 (.bslice 1 [(.k (.one (.pv (.int .u8 120))))]),.op 58 (.build [.i 0,.nils 1] [(1,1,(.t 57))]),.op 59 (.build [.e,.i 0,.nils 1,.i 0,.nils 1,.i 0,.F] [(0,1,(.t 56)),(3,2,(.t 58)),(5,1,(.i 2))]),.op 60 (.bslice 7 [(.t 59)]),.op 61 (.app 7 96 (.t 50) (.t 60)),.f 62 5 0,.s 100005 1 62 61]))
 (.reg [.m 47 6,.B 48 .add 47 1,.m 6 48]))))))))))))))))
 (.norm [4,5] (.q [.L 63 3 5,.s 100006 3 4 63]
 .ret))))⟩
theorem r_s_l12Any {Te:TE} (c_s_l12Draw:C_s_l12Draw Te) (c_s_l1Below:C_s_l1Below Te) (c_s_l9Any:C_s_l9Any Te) (c_s_l1Int:C_s_l1Int Te) (c_s_l1Num:C_s_l1Num Te):∀ (c:CurV) (hc:c.ok),∃ r0,(∃ (x:TabV) (d:CurV),(x.In (2 ^ 20)∧d.ok)∧r0=(⟨[.agg (x.enc true)],[d.enc,[iT 4]]⟩:Res))∧RunFn Te x_s_l12Any [.ptr c.enc,.one (iT 4)] r0:=by
 intro c hc
 refine some_of (Nat.le_of_ble_eq_true rfl) (by rfl) ?_
 have e:∀ j k:Int,k≠j→(k==j)=false:=fun j k h=>by simpa using h
 simp -implicitDefEqProofs (maxSteps:=1000000) only [x_s_l12Any,go_sem]
 repeat refine ⟨sc,?_⟩
 try exact sf
 obtain ⟨t,d0,⟨ht0,hd⟩,ht⟩:=c_s_l12Draw c hc
 have hm9:=marks_le ht0
 have h8:=tab_8 ht0
 obtain ⟨⟨hT1,hT2⟩,hT3⟩:=TabV.ok_in ht0
 refine C0 (ht) ?_
 obtain ⟨k,d,⟨_,hd⟩,ht⟩:=c_s_l1Below d0 10 hd
 by_cases q0:k=0
 ·subst q0
  obtain ⟨r,d,⟨hr,hd⟩,ht1⟩:=c_s_l9Any d hd
  have ea:=app1Row t.Rows r
  have et:=take1 (RowV.enc true) t.Rows r
  refine C0 (ht) ?_
  refine C2 (ht1) ea et ?_
  exact ⟨⟨t.Rows++[r],t.Phase,t.Marks⟩,d,⟨⟨rows_in1 (by omega) hT2 hr,hT3⟩,hd⟩,rfl⟩
 by_cases q1:k=1
 ·subst q1
  obtain ⟨r,d,⟨_,hd⟩,ht1⟩:=c_s_l1Int d [-1,7,8] hd (by decide)
  refine C0 (ht) ?_
  refine C0 (ht1) ?_
  exact ⟨⟨t.Rows,r,t.Marks⟩,d,⟨⟨⟨hT1,hT2⟩,hT3⟩,hd⟩,rfl⟩
 by_cases q2:k=2
 ·subst q2
  obtain ⟨u,d,⟨_,hd⟩,ht1⟩:=c_s_l1Int d [0,1,9,10] hd (by decide)
  obtain ⟨v,d,hd,ht2⟩:=c_s_l1Num d hd
  obtain ⟨w,d,⟨_,hd⟩,ht3⟩:=c_s_l1Int d [0,6,7] hd (by decide)
  have ea:=app1M t.Marks ⟨u,v,w⟩
  have et:=take1 MarkV.row t.Marks ⟨u,v,w⟩
  refine C0 (ht) ?_
  refine C0 (ht1) ?_
  refine C0 (ht2) ?_
  refine C2 (ht3) ea et ?_
  exact ⟨⟨t.Rows,t.Phase,t.Marks++[⟨u,v,w⟩]⟩,d,⟨⟨⟨hT1,hT2⟩,by simp only [List.length_append,List.length_cons,List.length_nil]; omega⟩,hd⟩,rfl⟩
 by_cases q3:k=3
 ·subst q3
  refine C0 (ht) ?_
  obtain ⟨E,hE⟩:∃ E:List Go.X.T,E=CurV.enc d0:=⟨_,rfl⟩
  rw [← hE]
  refine loop_of (σ:=Nat×List RowV×Bool) (fun x=>cond x.2.2 ⟨[(4,.bp 4 0),(5,.bp 5 0),(6,.one (.pv (.int .i64 x.1)))],[(0,[.ro 1 (d.b.map uR),.pv (.int .i64 d.i),.pv (.int .i64 d.h)]),(4,[.nils 7,.pv (.int .i64 0),.nils 3]),(5,[.rf 66 0 [] 7 0 x.2.1.length,.pv (.int .i64 t.Phase),.rf 66 2 [] 3 0 t.Marks.length])],[(0,c.enc),(1,[iT 4]),(66,slT true 7 (RowV.enc true) x.2.1::iT t.Phase::slT true 3 MarkV.row t.Marks::E)]⟩ ⟨[(4,.bp 4 0),(5,.bp 5 0),(6,.one (.pv (.int .i64 x.1)))],[(0,[.ro 1 (d.b.map uR),.pv (.int .i64 d.i),.pv (.int .i64 d.h)]),(4,[.nils 7,.pv (.int .i64 0),.nils 3]),(5,[.rf 66 0 [] 7 0 x.2.1.length,.pv (.int .i64 t.Phase),.rf 67 2 [] 3 0 t.Marks.length])],[(0,c.enc),(1,[iT 4]),(66,[slT true 7 (RowV.enc true) x.2.1]),(67,Tr.no ()::iT t.Phase::slT true 3 MarkV.row t.Marks::E)]⟩) (fun x=>x.1≤7∧x.2.1.length≤8 + x.1∧∀ y∈x.2.1,y.In (2 ^ 20)) (fun x=>7 - x.1) (0,t.Rows,true) ?_ ⟨Nat.zero_le _,h8,hT2⟩ ?_
  ·simp -implicitDefEqProofs (maxSteps:=1000000) only [go_sem]
   try rfl
  ·rintro ⟨i,l,b⟩ ⟨hi,hl,hI⟩
   simp only at hi hl hI
   cases q:decide ((i:Int) < 7)
   ·cases b
    ·refine G1 q ?_
     exact ⟨⟨l,t.Phase,t.Marks⟩,d,⟨⟨⟨by show l.length≤2 ^ 20; omega,hI⟩,hT3⟩,hd⟩,rfl⟩
    ·refine G1 q ?_
     exact ⟨⟨l,t.Phase,t.Marks⟩,d,⟨⟨⟨by show l.length≤2 ^ 20; omega,hI⟩,hT3⟩,hd⟩,rfl⟩
   ·have q':=q
    simp only [decide_eq_true_eq] at q'
    obtain ⟨K,hK,hs⟩:∃ K:ByteArray,(({ data:=#[122] }:ByteArray) ++ { data:=(bytesOf [[(Tr.pv (Value.int IntKind.u8 (IntKind.u8.wrap (IntKind.i64.wrap (48 + (i:Int))))):T)]]).toArray })=K∧K.size≤20:=⟨_,rfl,by rw [ByteArray.size_append]; exact (by decide:1 + 1≤20)⟩
    have ea:List.map (RowV.enc true) l++[[sT K,iT 0,Tr.sl true 1 () [],iT 0,Tr.sl true 1 () [[Tr.pv (Value.int IntKind.u8 120)]],iT 2,bT false]]=List.map (RowV.enc true) (l++[⟨K,⟨0,[]⟩,⟨0,[120]⟩,2,false⟩]):=by rw [List.map_append]; rfl
    have hx:(RowV.mk K ⟨0,[]⟩ ⟨0,[120]⟩ 2 false).In (2 ^ 20):=⟨Nat.le_trans hs (by decide),Nat.zero_le _,by show 1≤2 ^ 20; decide⟩
    have hx2:=(rows_in1 (l:=l) (n:=2 ^ 20) (by omega) hI hx).2
    have w2:IntKind.i64.wrap ((i:Int) + 1)=((i + 1:Nat):Int):=by rw [IntWalk.i64_in _ (by omega)]; rfl
    have xl:(l++[RowV.mk K ⟨0,[]⟩ ⟨0,[120]⟩ 2 false]).length=l.length + 1:=by simp only [List.length_append,List.length_cons,List.length_nil]
    cases b
    ·refine G4 q hK ea w2 ?_
     exact ⟨(i + 1,l++[⟨K,⟨0,[]⟩,⟨0,[120]⟩,2,false⟩],false),by rw [← xl,ea]; rfl,⟨by simp only; omega,by simp only [xl]; omega,hx2⟩,by simp only; omega⟩
    ·refine G4 q hK ea w2 ?_
     exact ⟨(i + 1,l++[⟨K,⟨0,[]⟩,⟨0,[120]⟩,2,false⟩],false),by rw [← xl,ea]; rfl,⟨by simp only; omega,by simp only [xl]; omega,hx2⟩,by simp only; omega⟩
 refine .of (ht) ?_
 try simp -implicitDefEqProofs (maxSteps:=1000000) only [go_sem,e 0 k q0,e 1 k q1,e 2 k q2,e 3 k q3]
 repeat refine ⟨sc,?_⟩
 try exact sf
 exact ⟨t,d,⟨⟨⟨hT1,hT2⟩,hT3⟩,hd⟩,rfl⟩
def x_i_isUp:FnX:=⟨12,[.tmp 2],
  .q [.v 1 0,.F 2]
 (.q [.L 3 10 1,.c 4 23 [3],.m 5 4,.y 5 (.f 6 1 0),.y 5 (.f 7 6 0),.y 5 (.f 8 7 3),.y 5 (.l 9 8),.y 5 (.N 10 9),.a 11 5 10,.m 2 11]
 .ret)⟩
theorem r_i_isUp {Te:TE} (c_i_NodeOk:C_i_NodeOk Te):C_i_isUp (RF Te x_i_isUp):=by
 intro n h
 refine X0 x_i_isUp.eq_1 ?_
 refine C0 (c_i_NodeOk n h) ?_
 cases g:n.ok
 ·have e:n.up=false:=by rw [NodeV.up,g]; rfl
  exact F1 e
 ·have e:n.up = !n.S.D.Down:=by rw [NodeV.up,g]; rfl
  exact F1 e
def x_s_l15Up:FnX:=⟨12,[.tmp 2],
  .q [.v 1 0,.F 2]
 (.q [.L 3 10 1,.c 4 43 [3],.m 5 4,.y 5 (.f 6 1 0),.y 5 (.f 7 6 0),.y 5 (.f 8 7 3),.y 5 (.l 9 8),.y 5 (.N 10 9),.a 11 5 10,.m 2 11]
 .ret)⟩
theorem r_s_l15Up {Te:TE} (c_s_NodeOk:C_s_NodeOk Te):C_s_l15Up (RF Te x_s_l15Up):=by
 intro n h
 refine X0 x_s_l15Up.eq_1 ?_
 refine C0 (c_s_NodeOk n h) ?_
 cases g:n.ok
 ·have e:n.up=false:=by rw [NodeV.up,g]; rfl
  exact F1 e
 ·have e:n.up = !n.S.D.Down:=by rw [NodeV.up,g]; rfl
  exact F1 e
def x_i_RowText:FnX:=⟨18,[.tmp 2,.tmp 3],
  .q [.v 1 0,.op 2 (.mv (.k (.one (.pv (.string ⟨#[]⟩))))),.F 3]
 (.seq (.q [.f 4 1 5,.l 5 4,.B 6 .and 5 2,.B 7 .neq 6 0]
 (.c 7 (.q [.f 8 1 3,.L 9 2 8,.c 10 177 [9],.e 11 10 0,.e 12 10 1,.m 2 11,.m 3 12]
 .ret)))
 (.q [.f 13 1 1,.L 14 2 13,.c 15 177 [14],.e 16 15 0,.e 17 15 1,.m 2 16,.m 3 17]
 .ret))⟩
theorem r_i_RowText {Te:TE} (c_i_CellText:C_i_CellText Te):C_i_RowText (RF Te x_i_RowText):=by
 intro r h
 have e:=and2_ne _ h
 refine X1 x_i_RowText.eq_1 e ?_
 by_cases g:r.Has=1
 ·have e2:r.rtext=r.Old.text:=if_pos g
  have e3:decide (r.Has≠1)=false:=by simp [g]
  refine G1 e3 ?_
  exact D1 (c_i_CellText r.Old) e2
 ·have e2:r.rtext=r.New.text:=if_neg g
  have e3:decide (r.Has≠1)=true:=by simp [g]
  refine G1 e3 ?_
  exact D1 (c_i_CellText r.New) e2
def x_s_RowText:FnX:=⟨16,[.tmp 2,.tmp 3],
  .q [.v 1 0,.op 2 (.mv (.k (.one (.pv (.string ⟨#[]⟩))))),.F 3]
 (.seq (.q [.L 4 7 1,.c 5 196 [4]]
 (.c 5 (.q [.f 6 1 3,.L 7 2 6,.c 8 197 [7],.e 9 8 0,.e 10 8 1,.m 2 9,.m 3 10]
 .ret)))
 (.q [.f 11 1 1,.L 12 2 11,.c 13 197 [12],.e 14 13 0,.e 15 13 1,.m 2 14,.m 3 15]
 .ret))⟩
theorem r_s_RowText {Te:TE} (c_s_l9New:C_s_l9New Te) (c_s_CellText:C_s_CellText Te):C_s_RowText (RF Te x_s_RowText):=by
 intro r h
 refine X0 x_s_RowText.eq_1 ?_
 refine C0 (c_s_l9New r h) ?_
 by_cases g:r.Has=1
 ·have e2:r.rtext=r.Old.text:=if_pos g
  have e3:decide (r.Has≠1)=false:=by simp [g]
  refine G1 e3 ?_
  exact D1 (c_s_CellText r.Old) e2
 ·have e2:r.rtext=r.New.text:=if_neg g
  have e3:decide (r.Has≠1)=true:=by simp [g]
  refine G1 e3 ?_
  exact D1 (c_s_CellText r.New) e2
def x_i_RowAt1:FnX:=⟨8,[.tmp 3],
  .q [.v 2 0,.F 3]
 (.q [.f 4 2 0,.l 5 4,.l 6 1,.b 7 .eql 5 6,.m 3 7]
 .ret)⟩
theorem r_i_RowAt1 {Te:TE}:C_i_RowAt1 (RF Te x_i_RowAt1):=by
 intro r key
 refine run0 ?_
 simp -implicitDefEqProofs (maxSteps:=1000000) only [x_i_RowAt1,go_sem]
 repeat refine ⟨sc,?_⟩
 try exact sf
def x_z_IndexFuncimplRowAt1:FnX:=⟨19,[.tmp 4],
  .q [.i 4 0]
 (.seq (.q [.m 6 0,.n 7 6,.i 8 0]
 (.block 0 (.loop [0,1,7,8] (.q [.b 9 .lss 8 7]
 (.seq (.cond 9 .skip (.exit 0))
 (.seq (.block 1 (.q [.m 10 8,.m 5 10]
 (.q [.m 11 1,.m 12 0,.m 13 5,.x 14 7 12 13,.L 15 7 14,.op 16 (.dcall 176 [0,3] [(.t 15)] (.t 11))]
 (.c 16 (.q [.m 17 5,.m 4 17]
 .ret)))))
 (.reg [.B 18 .add 8 1,.m 8 18])))))))
 (.norm [] (.q [.i 4 (-1)]
 .ret)))⟩
theorem r_z_IndexFuncimplRowAt1 {Te:TE} (c_i_RowAt1:C_i_RowAt1 Te):C_z_IndexFuncimplRowAt1 (RFV Te 176 x_z_IndexFuncimplRowAt1):=by
 intro l key hl
 refine run0V ?_
 simp -implicitDefEqProofs (maxSteps:=1000000) only [x_z_IndexFuncimplRowAt1,go_sem]
 repeat refine ⟨sc,?_⟩
 try exact sf
 refine loop_of (σ:=Nat) (fun i=>⟨[(0,.one (.ro 7 (l.map (RowV.enc false)))),(1,.fn 176 1 0),(7,.one (.pv (.int .i64 l.length))),(8,.one (.pv (.int .i64 i)))],[(1,[.pv (.string key)])],[(0,[slT false 7 (RowV.enc false) l]),(1,[sT key])]⟩) (fun i=>i≤l.length∧∀ j (hj:j < l.length),j < i→decide (l[j].Key=key)=false) (fun i=>l.length - i) 0 ?_ ⟨Nat.zero_le _,fun j _ h=>absurd h (Nat.not_lt_zero _)⟩ ?_
 ·simp -implicitDefEqProofs (maxSteps:=1000000) only [go_sem]
  try rfl
 ·rintro i ⟨hi,hp⟩
  cases q:decide ((i:Int) < (l.length:Int))
  ·have e:=rowAt_none (i:=i) (by simp only [decide_eq_false_iff_not] at q; omega) hp
   exact F2 q e
  ·have k1:i < l.length:=by simp only [decide_eq_true_eq] at q; omega
   refine G2 q (List.getElem?_eq_getElem k1) ?_
   refine C0 (c_i_RowAt1 l[i] key) ?_
   cases g:decide (l[i].Key=key)
   ·refine G1 g ?_
    refine ⟨i + 1,?_,⟨k1,rowAt_step k1 hp g⟩,by omega⟩
    rw [IntWalk.i64_in _ (by omega)]
    rfl
   ·have e:=(rowAt_hit k1 hp g).1
    exact F2 g e
def x_i_RowAt:FnX:=⟨9,[.tmp 4],
  .q [.v 2 0,.v 3 1,.i 4 0]
 (.q [.f 5 2 0,.l 6 5,.op 7 (.clos 176 (.t 3)),.op 8 (.vcall 175 176 [0,3] [(.t 6)] (.t 7)),.m 4 8]
 .ret)⟩
theorem r_i_RowAt {Te:TE} (c_z_IndexFuncimplRowAt1:C_z_IndexFuncimplRowAt1 Te):C_i_RowAt (RF Te x_i_RowAt):=by
 intro t key hl
 refine X0 x_i_RowAt.eq_1 ?_
 exact D0 (c_z_IndexFuncimplRowAt1 t.Rows key hl)
def x_s_RowAt:FnX:=⟨22,[.tmp 4],
  .q [.v 2 0,.i 4 0]
 (.seq (.q [.i 5 0]
 (.block 0 (.loop [1,2,5] (.seq (.q [.m 6 5,.f 7 2 0,.l 8 7,.n 9 8,.b 10 .lss 6 9]
 (.cond 10 .skip (.exit 0)))
 (.seq (.block 1 (.q [.f 13 2 0,.l 14 13,.m 15 5,.x 16 7 14 15,.f 17 16 0,.l 18 17,.m 19 1,.b 20 .eql 18 19]
 (.c 20 (.q [.m 21 5,.m 4 21]
 .ret))))
 (.reg [.m 11 5,.B 12 .add 11 1,.m 5 12]))))))
 (.norm [] (.q [.i 4 (-1)]
 .ret)))⟩
theorem r_s_RowAt {Te:TE}:C_s_RowAt (RF Te x_s_RowAt):=by
 intro t key hl
 refine X0 x_s_RowAt.eq_1 ?_
 refine loop_of (σ:=Nat) (fun i=>⟨[(1,.one (.pv (.string key))),(2,.bp 2 0),(5,.one (.pv (.int .i64 i)))],[(2,[.ro 7 (t.Rows.map (RowV.enc false)),.pv (.int .i64 t.Phase),.ro 3 (t.Marks.map MarkV.row)])],[(0,t.enc false),(1,[sT key])]⟩) (fun i=>i≤t.Rows.length∧∀ j (hj:j < t.Rows.length),j < i→decide (t.Rows[j].Key=key)=false) (fun i=>t.Rows.length - i) 0 ?_ ⟨Nat.zero_le _,fun j _ h=>absurd h (Nat.not_lt_zero _)⟩ ?_
 ·simp -implicitDefEqProofs (maxSteps:=1000000) only [go_sem]
  try rfl
 ·rintro i ⟨hi,hp⟩
  cases q:decide ((i:Int) < (t.Rows.length:Int))
  ·have e:=rowAt_none (i:=i) (by simp only [decide_eq_false_iff_not] at q; omega) hp
   exact F2 q e
  ·have k1:i < t.Rows.length:=by simp only [decide_eq_true_eq] at q; omega
   cases g:decide (t.Rows[i].Key=key)
   ·refine G3 q (List.getElem?_eq_getElem k1) g ?_
    refine ⟨i + 1,?_,⟨k1,rowAt_step k1 hp g⟩,by omega⟩
    rw [IntWalk.i64_in _ (by omega)]
    rfl
   ·have e:=(rowAt_hit k1 hp g).1
    exact F4 q (List.getElem?_eq_getElem k1) g e
def x_i_NodeGet:FnX:=⟨33,[.tmp 4,.tmp 5],
  .q [.v 2 0,.op 4 (.mv (.k (.one (.pv (.string ⟨#[]⟩))))),.i 5 0]
 (.seq (.q [.L 9 10 2,.c 10 82 [9],.N 11 10]
 (.c 11 (.q [.op 4 (.mv (.k (.one (.pv (.string ⟨#[]⟩))))),.i 5 1]
 .ret)))
 (.q [.f 12 2 0,.f 13 12 4,.L 14 3 13,.m 15 1,.c 16 87 [14,15],.m 6 16]
 (.seq (.q [.m 17 6,.B 18 .lss 17 0]
 (.c 18 (.q [.op 4 (.mv (.k (.one (.pv (.string ⟨#[]⟩))))),.i 5 2]
 .ret)))
 (.q [.f 20 2 0,.f 21 20 4,.f 22 21 0,.l 23 22,.m 24 6,.x 25 7 23 24,.L 26 7 25,.c 27 88 [26],.m 19 27,.e 28 19 0,.e 29 19 1,.m 7 28,.m 8 29]
 (.seq (.q [.m 30 8,.N 31 30]
 (.c 31 (.q [.op 4 (.mv (.k (.one (.pv (.string ⟨#[]⟩))))),.i 5 4]
 .ret)))
 (.q [.m 32 7,.m 4 32,.i 5 0]
 .ret))))))⟩
theorem r_i_NodeGet {Te:TE} (c_i_isUp:C_i_isUp Te) (c_i_RowAt:C_i_RowAt Te) (c_i_RowText:C_i_RowText Te):C_i_NodeGet (RF Te x_i_NodeGet):=by
 intro n key h
 refine X0 x_i_NodeGet.eq_1 ?_
 refine C0 (c_i_isUp n h) ?_
 cases g:n.up
 ·have e:n.get key=(⟨#[]⟩,1):=by rw [NodeV.get,g]; rfl
  exact F1 e
 refine G0 ?_
 refine C0 (c_i_RowAt n.S.T key h.2.1.1) ?_
 rcases rowAt_cases n.S.T.Rows key with ⟨e1,e2⟩ | ⟨hk,e1,e2⟩
 ·have e:n.get key=(⟨#[]⟩,2):=by rw [NodeV.get,g,e2]; rfl
  exact F2 e1 e
 have hr:=rowOk_13 (TabV.ok_row (NodeV.up_tab g) hk)
 have c1:decide ((rowIx n.S.T.Rows key:Int) < 0)=false:=decide_eq_false (by omega)
 refine G3 e1 e2 c1 ?_
 refine C0 (c_i_RowText n.S.T.Rows[rowIx n.S.T.Rows key] hr) ?_
 cases g2:n.S.T.Rows[rowIx n.S.T.Rows key].rtext.2
 ·have e:n.get key=(⟨#[]⟩,4):=by rw [NodeV.get,g,e2]; simp only [if_true,g2]; rfl
  exact F2 e g2
 ·have e:n.get key=(n.S.T.Rows[rowIx n.S.T.Rows key].rtext.1,0):=by rw [NodeV.get,g,e2]; simp only [if_true,g2]
  exact F2 e g2
def x_i_copyCell:FnX:=⟨10,[.cell 2 (some 2)],
  .q [.v 1 0,.op 2 (.alloc [.i 0,.nils 1])]
 (.seq (.draw [.f 3 1 0,.l 4 3,.f 5 1 1,.l 6 5,.op 7 (.bslice 1 [(.t 6)]),.c 8 100 [7],.op 9 (.build [.i 0,.nils 1] [(0,1,(.t 4)),(1,1,(.t 8))]),.s 100001 2 2 9] [[],[0],[],[2],[3],[4],[1,5],[6,5,0,1,2,3,4,5,6]])
 .ret)⟩
theorem r_i_copyCell {Te:TE} (c_i_joined:C_i_joined Te):C_i_copyCell (RF Te x_i_copyCell):=by
 intro c h
 have h0:c.B.length≤2 ^ 21:=h
 refine X0 x_i_copyCell.eq_1 ?_
 refine .of (c_i_joined [c.B] (by rw [flat1]; omega) (by show 1≤2 ^ 31; decide)) ?_
 try simp -implicitDefEqProofs (maxSteps:=1000000) only [go_sem,flat1]
 repeat refine ⟨sc,?_⟩
 try exact sf
def x_s_l8Copy:FnX:=⟨10,[.cell 2 (some 2)],
  .q [.v 1 0,.op 2 (.alloc [.i 0,.nils 1])]
 (.seq (.draw [.f 3 1 0,.l 4 3,.op 5 (.bslice 1 []),.f 6 1 1,.l 7 6,.op 8 (.app 1 1 (.t 5) (.t 7)),.op 9 (.build [.i 0,.nils 1] [(0,1,(.t 4)),(1,1,(.t 8))]),.s 100001 2 2 9] [[],[0],[],[],[3],[2,4],[1,5],[6,5,0,1,2,3,4,5,6]])
 .ret)⟩
theorem r_s_l8Copy {Te:TE}:C_s_l8Copy (RF Te x_s_l8Copy):=by
 intro c h
 refine run0 ?_
 have h0:c.B.length≤2 ^ 21:=h
 simp -implicitDefEqProofs (maxSteps:=1000000) only [x_s_l8Copy,go_sem]
 repeat refine ⟨sc,?_⟩
 try exact sf
def x_i_copyRow:FnX:=⟨12,[.cell 2 (some 7)],
  .q [.v 1 0,.op 2 (.alloc [.e,.i 0,.nils 1,.i 0,.nils 1,.i 0,.F])]
 (.seq (.draw [.f 3 1 1,.L 4 2 3,.c 5 304 [4],.f 6 1 3,.L 7 2 6,.c 8 304 [7],.f 9 1 1,.s 100001 2 9 5,.f 10 1 3,.s 100002 2 10 8] [[],[0],[1],[],[3],[4,2],[0,1,2,3,4],[6,2,5,0,1,2,3,4],[0,1,2,3,4,5,6,7],[8,5,7,0,1,2,3,4,5,6,7]])
 (.q [.L 11 7 1,.s 100003 7 2 11]
 .ret))⟩
theorem r_i_copyRow {Te:TE} (c_i_copyCell:C_i_copyCell Te):C_i_copyRow (RF Te x_i_copyRow):=by
 intro r h
 refine X0 x_i_copyRow.eq_1 ?_
 refine C0 (c_i_copyCell r.Old h.1) ?_
 exact D0 (c_i_copyCell r.New h.2)
def x_s_l9Copy:FnX:=⟨16,[.cell 2 (some 7)],
  .q [.v 1 0,.op 2 (.alloc [.e,.i 0,.nils 1,.i 0,.nils 1,.i 0,.F])]
 (.seq (.draw [.f 3 1 0,.l 4 3,.f 5 1 1,.L 6 2 5,.c 7 338 [6],.f 8 1 3,.L 9 2 8,.c 10 338 [9],.f 11 1 5,.l 12 11,.f 13 1 6,.l 14 13,.op 15 (.build [.e,.i 0,.nils 1,.i 0,.nils 1,.i 0,.F] [(0,1,(.t 4)),(1,2,(.t 7)),(3,2,(.t 10)),(5,1,(.t 12)),(6,1,(.t 14))]),.s 100001 7 2 15] [[],[0],[],[2],[3],[],[5],[6,4],[],[8],[],[10],[1,4,7,9,11],[12,7,0,1,2,3,4,5,6,7,8,9,10,11,12]])
 .ret)⟩
theorem r_s_l9Copy {Te:TE} (c_s_l8Copy:C_s_l8Copy Te):C_s_l9Copy (RF Te x_s_l9Copy):=by
 intro r h
 refine X0 x_s_l9Copy.eq_1 ?_
 refine C0 (c_s_l8Copy r.Old h.1) ?_
 exact D0 (c_s_l8Copy r.New h.2)
def x_i_flag:FnX:=⟨4,[.tmp 2],
  .q [.op 2 (.mv (.k (.one (.pv (.int .u8 0)))))]
 (.seq (.q [.m 3 0]
 (.c 3 (.q [.op 2 (.mv (.k (.one (.pv (.int .u8 1)))))]
 .ret)))
 (.q [.op 2 (.mv (.k (.one (.pv (.int .u8 0)))))]
 .ret))⟩
theorem r_i_flag {Te:TE}:C_i_flag (RF Te x_i_flag):=by
 intro b
 cases b
 ·refine X0 x_i_flag.eq_1 ?_
  try rfl
 ·refine X0 x_i_flag.eq_1 ?_
  try rfl
def x_s_l11Bit:FnX:=⟨4,[.tmp 2],
  .q [.op 2 (.mv (.k (.one (.pv (.int .u8 0)))))]
 (.seq (.q [.m 3 0]
 (.c 3 (.q [.op 2 (.mv (.k (.one (.pv (.int .u8 1)))))]
 .ret)))
 (.q [.op 2 (.mv (.k (.one (.pv (.int .u8 0)))))]
 .ret))⟩
theorem r_s_l11Bit {Te:TE}:C_s_l11Bit (RF Te x_s_l11Bit):=by
 intro b
 cases b
 ·refine X0 x_s_l11Bit.eq_1 ?_
  try rfl
 ·refine X0 x_s_l11Bit.eq_1 ?_
  try rfl
def x_i_sameRow:FnX:=⟨38,[.tmp 4],
  .q [.v 2 0,.v 3 1,.F 4]
 (.q [.f 5 2 0,.l 6 5,.f 7 3 0,.l 8 7,.b 9 .eql 6 8,.m 10 9,.y 10 (.f 11 2 1),.y 10 (.L 12 2 11),.y 10 (.f 13 3 1),.y 10 (.L 14 2 13),.y 10 (.c 15 173 [12,14]),.a 16 10 15,.m 17 16,.y 17 (.f 18 2 3),.y 17 (.L 19 2 18),.y 17 (.f 20 3 3),.y 17 (.L 21 2 20),.y 17 (.c 22 173 [19,21]),.a 23 17 22,.m 24 23,.y 24 (.f 25 2 5),.y 24 (.l 26 25),.y 24 (.f 27 3 5),.y 24 (.l 28 27),.y 24 (.b 29 .eql 26 28),.a 30 24 29,.m 31 30,.y 31 (.f 32 2 6),.y 31 (.l 33 32),.y 31 (.f 34 3 6),.y 31 (.l 35 34),.y 31 (.op 36 (.beq false (.t 33) (.t 35))),.a 37 31 36,.m 4 37]
 .ret)⟩
theorem r_i_sameRow {Te:TE} (c_i_sameCell:C_i_sameCell Te):C_i_sameRow (RF Te x_i_sameRow):=by
 intro a c
 refine run0 ?_
 simp -implicitDefEqProofs (maxSteps:=1000000) only [x_i_sameRow,go_sem,bytes_beq]
 repeat refine ⟨sc,?_⟩
 try exact sf
 cases g1:decide (a.Key=c.Key)
 ·try simp -implicitDefEqProofs (maxSteps:=1000000) only [go_sem,g1,rowSame]
  repeat refine ⟨sc,?_⟩
  try exact sf
 refine G1 g1 ?_
 have t1:=c_i_sameCell a.Old c.Old
 have t2:=c_i_sameCell a.New c.New
 rw [← cellSame] at t1 t2
 refine .of t1 ?_
 cases g2:cellSame a.Old c.Old
 ·try simp -implicitDefEqProofs (maxSteps:=1000000) only [go_sem,g1,g2,rowSame]
  repeat refine ⟨sc,?_⟩
  try exact sf
 refine G0 ?_
 refine .of t2 ?_
 cases g3:cellSame a.New c.New
 ·try simp -implicitDefEqProofs (maxSteps:=1000000) only [go_sem,g1,g2,g3,rowSame]
  repeat refine ⟨sc,?_⟩
  try exact sf
 refine G0 ?_
 cases g4:(a.Has==c.Has)
 ·try simp -implicitDefEqProofs (maxSteps:=1000000) only [go_sem,g1,g2,g3,g4,rowSame]
  repeat refine ⟨sc,?_⟩
  try exact sf
 have e9:∀ c:Bool,(c != false)=c:=fun c=>by cases c <;> rfl
 try simp -implicitDefEqProofs (maxSteps:=1000000) only [go_sem,g1,g2,g3,g4,rowSame,e9]
 repeat refine ⟨sc,?_⟩
 try exact sf
def x_s_l11NoRow:FnX:=⟨26,[.tmp 2],
  .q [.v 1 0,.F 2]
 (.q [.f 3 1 0,.l 4 3,.op 5 (.bin .eql (.t 4) (.k (.one (.pv (.string ⟨#[]⟩))))),.m 6 5,.y 6 (.f 7 1 1),.y 6 (.L 8 2 7),.y 6 (.c 9 339 [8]),.a 10 6 9,.m 11 10,.y 11 (.f 12 1 3),.y 11 (.L 13 2 12),.y 11 (.c 14 339 [13]),.a 15 11 14,.m 16 15,.y 16 (.f 17 1 5),.y 16 (.l 18 17),.y 16 (.B 19 .eql 18 0),.a 20 16 19,.m 21 20,.y 21 (.f 22 1 6),.y 21 (.l 23 22),.y 21 (.N 24 23),.a 25 21 24,.m 2 25]
 .ret)⟩
theorem r_s_l11NoRow {Te:TE} (c_s_l9None:C_s_l9None Te):C_s_l11NoRow (RF Te x_s_l11NoRow):=by
 intro r
 refine run0 ?_
 simp -implicitDefEqProofs (maxSteps:=1000000) only [x_s_l11NoRow,go_sem,bytes_beq]
 repeat refine ⟨sc,?_⟩
 try exact sf
 cases g1:decide (r.Key=⟨#[]⟩)
 ·try simp -implicitDefEqProofs (maxSteps:=1000000) only [go_sem,g1,RowV.no]
  repeat refine ⟨sc,?_⟩
  try exact sf
 refine G1 g1 ?_
 refine C0 (c_s_l9None r.Old) ?_
 cases g2:r.Old.no
 ·try simp -implicitDefEqProofs (maxSteps:=1000000) only [go_sem,g1,g2,RowV.no]
  repeat refine ⟨sc,?_⟩
  try exact sf
 refine G0 ?_
 refine C0 (c_s_l9None r.New) ?_
 cases g3:r.New.no
 ·try simp -implicitDefEqProofs (maxSteps:=1000000) only [go_sem,g1,g2,g3,RowV.no]
  repeat refine ⟨sc,?_⟩
  try exact sf
 refine G0 ?_
 cases g4:(r.Has==0)
 ·try simp -implicitDefEqProofs (maxSteps:=1000000) only [go_sem,g1,g2,g3,g4,RowV.no]
  repeat refine ⟨sc,?_⟩
  try exact sf
 try simp -implicitDefEqProofs (maxSteps:=1000000) only [go_sem,g1,g2,g3,g4,RowV.no]
 repeat refine ⟨sc,?_⟩
 try exact sf
def x_s_l12Copy:FnX:=⟨31,[.cell 2 (some 3)],
  .q [.v 1 0,.op 2 (.alloc [.nils 7,.i 0,.nils 3])]
 (.seq (.draw [.f 5 1 1,.l 6 5,.op 7 (.bslice 3 []),.f 8 1 2,.l 9 8,.op 10 (.app 3 24 (.t 7) (.t 9)),.op 11 (.build [.nils 7,.i 0,.nils 3] [(1,1,(.t 6)),(2,1,(.t 10))]),.op 3 (.alloc [.nils 7,.i 0,.nils 3]),.s 100001 3 3 11] [[],[0],[],[],[3],[2,4],[1,5],[],[7,6,5,0,1,2,3,4,5,6,7]])
 (.seq (.q [.i 4 0]
 (.up 3 0 300000 (.block 0 (.loop [1,2,3,4] (.seq (.q [.m 12 4,.f 13 1 0,.l 14 13,.n 15 14,.b 16 .lss 12 15]
 (.cond 16 .skip (.exit 0)))
 (.seq (.block 1 (.draw [.f 19 3 0,.l 20 19,.f 21 1 0,.l 22 21,.m 23 4,.x 24 7 22 23,.L 25 7 24,.c 26 288 [25],.op 27 (.bslice 7 [(.t 26)]),.op 28 (.app 7 96 (.t 20) (.t 27)),.f 29 3 0,.s 100002 1 29 28] [[],[0],[],[2],[],[3,4],[5],[6],[7],[1,8,7],[0,1,2,3,4,5,6,7,8,9],[10,9,9,0,1,2,3,4,5,6,7,8,9]]))
 (.reg [.m 17 4,.B 18 .add 17 1,.m 4 18])))))))
 (.norm [2,3] (.q [.L 30 3 3,.s 100003 3 2 30]
 .ret))))⟩
theorem r_s_l12Copy {Te:TE} (c_s_l9Copy:C_s_l9Copy Te):C_s_l12Copy (RF Te x_s_l12Copy):=by
 intro t h
 obtain ⟨⟨hR,hRl⟩,hM⟩:=h
 refine X0 x_s_l12Copy.eq_1 ?_
 refine loop_of (σ:=Nat×List RowV) (fun x=>⟨[(1,.bp 1 0),(2,.bp 2 0),(3,.bp 3 0),(4,.one (.pv (.int .i64 x.1)))],[(1,[.ro 7 (t.Rows.map (RowV.enc false)),.pv (.int .i64 t.Phase),.ro 3 (t.Marks.map MarkV.row)]),(2,[.nils 7,.pv (.int .i64 0),.nils 3]),(3,[.rf 32 0 [] 7 0 x.2.length,.pv (.int .i64 t.Phase),.rf 33 0 [] 3 0 t.Marks.length])],[(0,t.enc false),(32,[slT true 7 (RowV.enc true) x.2]),(33,[slT true 3 MarkV.row t.Marks])]⟩) (fun x=>x.1≤t.Rows.length∧x.2=t.Rows.take x.1) (fun x=>t.Rows.length - x.1) (0,[]) ?_ ⟨Nat.zero_le _,rfl⟩ ?_
 ·simp -implicitDefEqProofs (maxSteps:=1000000) only [go_sem]
  try rfl
 ·rintro ⟨i,l⟩ ⟨hi,he⟩
  simp only at hi he
  have hl:l.length=i:=by rw [he,List.length_take]; omega
  cases q:decide ((i:Int) < (t.Rows.length:Int))
  ·have k0:i=t.Rows.length:=by simp only [decide_eq_false_iff_not] at q; omega
   rw [k0,List.take_length] at he
   subst he
   exact F1 q
  ·have k1:i < t.Rows.length:=by simp only [decide_eq_true_eq] at q; omega
   have ea:=app1Rw l t.Rows[i]
   refine G2 q (List.getElem?_eq_getElem k1) ?_
   refine C1 (c_s_l9Copy t.Rows[i] (hRl _ (List.getElem_mem k1))) ea ?_
   refine ⟨(i + 1,l++[t.Rows[i]]),?_,⟨k1,by rw [he,List.take_succ_eq_append_getElem k1]⟩,by simp only; omega⟩
   rw [IntWalk.i64_in _ (by omega)]
   simp only [List.length_append]
   rfl
def x_i_copyStore:FnX:=⟨14,[.cell 2 (some 9)],
  .q [.v 1 0,.op 2 (.alloc [.nils 1,.nils 2,.i 0,.F,.nils 7,.i 0,.nils 3,.i 0,.i 0])]
 (.seq (.draw [.f 3 1 0,.L 4 4 3,.c 5 245 [4],.f 6 1 4,.L 7 3 6,.c 8 246 [7],.f 9 1 7,.l 10 9,.f 11 1 8,.l 12 11,.op 13 (.build [.nils 1,.nils 2,.i 0,.F,.nils 7,.i 0,.nils 3,.i 0,.i 0] [(0,4,(.t 5)),(4,3,(.t 8)),(7,1,(.t 10)),(8,1,(.t 12))]),.s 100001 9 2 13] [[],[0],[1],[],[3],[4,2],[],[6],[],[8],[2,5,7,9],[10,5,0,1,2,3,4,5,6,7,8,9,10]])
 .ret)⟩
theorem r_i_copyStore {Te:TE} (c_i_copyDev:C_i_copyDev Te) (c_i_copyTab:C_i_copyTab Te):C_i_copyStore (RF Te x_i_copyStore):=by
 intro s h
 refine X0 x_i_copyStore.eq_1 ?_
 refine C0 (c_i_copyDev s.D h.1) ?_
 exact D0 (c_i_copyTab s.T h.2)
def x_s_l13Copy:FnX:=⟨14,[.cell 2 (some 9)],
  .q [.v 1 0,.op 2 (.alloc [.nils 1,.nils 2,.i 0,.F,.nils 7,.i 0,.nils 3,.i 0,.i 0])]
 (.seq (.draw [.f 3 1 0,.L 4 4 3,.c 5 248 [4],.f 6 1 4,.L 7 3 6,.c 8 249 [7],.f 9 1 7,.l 10 9,.f 11 1 8,.l 12 11,.op 13 (.build [.nils 1,.nils 2,.i 0,.F,.nils 7,.i 0,.nils 3,.i 0,.i 0] [(0,4,(.t 5)),(4,3,(.t 8)),(7,1,(.t 10)),(8,1,(.t 12))]),.s 100001 9 2 13] [[],[0],[1],[],[3],[4,2],[],[6],[],[8],[2,5,7,9],[10,5,0,1,2,3,4,5,6,7,8,9,10]])
 .ret)⟩
theorem r_s_l13Copy {Te:TE} (c_s_l10Copy:C_s_l10Copy Te) (c_s_l12Copy:C_s_l12Copy Te):C_s_l13Copy (RF Te x_s_l13Copy):=by
 intro s h
 refine X0 x_s_l13Copy.eq_1 ?_
 refine C0 (c_s_l10Copy s.D h.1) ?_
 exact D0 (c_s_l12Copy s.T h.2)
def x_i_copyNode:FnX:=⟨9,[.cell 2 (some 10)],
  .q [.v 1 0,.op 2 (.alloc [.nils 1,.nils 2,.i 0,.F,.nils 7,.i 0,.nils 3,.i 0,.i 0,.i 0])]
 (.seq (.draw [.f 3 1 0,.L 4 9 3,.c 5 158 [4],.f 6 1 9,.l 7 6,.op 8 (.build [.nils 1,.nils 2,.i 0,.F,.nils 7,.i 0,.nils 3,.i 0,.i 0,.i 0] [(0,9,(.t 5)),(9,1,(.t 7))]),.s 100001 10 2 8] [[],[0],[1],[],[3],[2,4],[5,2,0,1,2,3,4,5]])
 .ret)⟩
theorem r_i_copyNode {Te:TE} (c_i_copyStore:C_i_copyStore Te):C_i_copyNode (RF Te x_i_copyNode):=by
 intro n h
 refine X0 x_i_copyNode.eq_1 ?_
 exact D0 (c_i_copyStore n.S h)
def x_s_l15Copy:FnX:=⟨9,[.cell 2 (some 10)],
  .q [.v 1 0,.op 2 (.alloc [.nils 1,.nils 2,.i 0,.F,.nils 7,.i 0,.nils 3,.i 0,.i 0,.i 0])]
 (.seq (.draw [.f 3 1 0,.L 4 9 3,.c 5 162 [4],.f 6 1 9,.l 7 6,.op 8 (.build [.nils 1,.nils 2,.i 0,.F,.nils 7,.i 0,.nils 3,.i 0,.i 0,.i 0] [(0,9,(.t 5)),(9,1,(.t 7))]),.s 100001 10 2 8] [[],[0],[1],[],[3],[2,4],[5,2,0,1,2,3,4,5]])
 .ret)⟩
theorem r_s_l15Copy {Te:TE} (c_s_l13Copy:C_s_l13Copy Te):C_s_l15Copy (RF Te x_s_l15Copy):=by
 intro n h
 refine X0 x_s_l15Copy.eq_1 ?_
 exact D0 (c_s_l13Copy n.S h)
def x_i_CellOk:FnX:=⟨12,[.tmp 2],
  .q [.v 1 0,.F 2]
 (.q [.f 3 1 0,.l 4 3,.c 5 184 [4],.m 6 5,.y 6 (.f 7 1 1),.y 6 (.l 8 7),.y 6 (.n 9 8),.y 6 (.B 10 .leq 9 20),.a 11 6 10,.m 2 11]
 .ret)⟩
theorem r_i_CellOk {Te:TE} (c_i_isSet:C_i_isSet Te):C_i_CellOk (RF Te x_i_CellOk):=by
 intro c
 refine run0 ?_
 simp -implicitDefEqProofs (maxSteps:=1000000) only [x_i_CellOk,go_sem,CellV.ok]
 repeat refine ⟨sc,?_⟩
 try exact sf
 refine C0 (c_i_isSet _) ?_
 cases g:win c.Tag 0 5
 ·exact F1 g
 ·exact F1 g
def x_i_CellText:FnX:=⟨14,[.tmp 2,.tmp 3],
  .q [.v 1 0,.op 2 (.mv (.k (.one (.pv (.string ⟨#[]⟩))))),.F 3]
 (.seq (.q [.L 4 2 1,.c 5 261 [4],.N 6 5]
 (.c 6 (.q [.op 2 (.mv (.k (.one (.pv (.string ⟨#[]⟩))))),.F 3]
 .ret)))
 (.q [.f 7 1 0,.l 8 7,.f 9 1 1,.l 10 9,.c 11 99 [8,10],.e 12 11 0,.e 13 11 1,.m 2 12,.m 3 13]
 .ret))⟩
theorem r_i_CellText {Te:TE} (c_i_CellOk:C_i_CellOk Te) (c_i_Decode:C_i_Decode Te):C_i_CellText (RF Te x_i_CellText):=by
 intro c
 refine X0 x_i_CellText.eq_1 ?_
 refine C0 (c_i_CellOk c) ?_
 cases g:c.ok
 ·have e:c.text=(⟨#[]⟩,false):=by rw [CellV.text,g]; rfl
  exact F1 e
 ·have e:c.text=decode c.Tag c.B:=by rw [CellV.text,g]; rfl
  refine G1 e ?_
  exact D1 (c_i_Decode c.Tag c.B (by have:=CellV.ok_len g; omega)) e
def x_i_SameText:FnX:=⟨28,[.tmp 4],
  .q [.v 2 0,.v 3 1,.F 4]
 (.q [.L 10 2 2,.c 11 177 [10],.m 9 11,.e 12 9 0,.e 13 9 1,.m 5 12,.m 6 13]
 (.q [.L 15 2 3,.c 16 177 [15],.m 14 16,.e 17 14 0,.e 18 14 1,.m 7 17,.m 8 18]
 (.q [.m 19 6,.m 20 19,.y 20 (.m 21 8),.a 22 20 21,.m 23 22,.y 23 (.m 24 5),.y 23 (.m 25 7),.y 23 (.b 26 .eql 24 25),.a 27 23 26,.m 4 27]
 .ret)))⟩
theorem r_i_SameText {Te:TE} (c_i_CellText:C_i_CellText Te):C_i_SameText (RF Te x_i_SameText):=by
 intro a c
 refine run0 ?_
 simp -implicitDefEqProofs (maxSteps:=1000000) only [x_i_SameText,go_sem,sameText]
 repeat refine ⟨sc,?_⟩
 try exact sf
 refine C0 (c_i_CellText a) ?_
 refine C0 (c_i_CellText c) ?_
 cases g1:a.text.2
 ·exact F1 g1
 ·cases g2:c.text.2
  ·exact F2 g1 g2
  ·try simp -implicitDefEqProofs (maxSteps:=1000000) only [go_sem,g1,g2,bytes_beq]
   repeat refine ⟨sc,?_⟩
   try exact sf
def x_s_CellOk:FnX:=⟨12,[.tmp 2],
  .q [.v 1 0,.F 2]
 (.q [.f 3 1 0,.l 4 3,.c 5 187 [4],.m 6 5,.y 6 (.f 7 1 1),.y 6 (.l 8 7),.y 6 (.n 9 8),.y 6 (.B 10 .leq 9 20),.a 11 6 10,.m 2 11]
 .ret)⟩
theorem r_s_CellOk {Te:TE} (c_s_l5Cs:C_s_l5Cs Te):C_s_CellOk (RF Te x_s_CellOk):=by
 intro c
 refine run0 ?_
 simp -implicitDefEqProofs (maxSteps:=1000000) only [x_s_CellOk,go_sem,CellV.ok]
 repeat refine ⟨sc,?_⟩
 try exact sf
 refine C0 (c_s_l5Cs _) ?_
 cases g:win c.Tag 0 5
 ·exact F1 g
 ·exact F1 g
def x_s_CellText:FnX:=⟨14,[.tmp 2,.tmp 3],
  .q [.v 1 0,.op 2 (.mv (.k (.one (.pv (.string ⟨#[]⟩))))),.F 3]
 (.seq (.q [.L 4 2 1,.c 5 286 [4],.N 6 5]
 (.c 6 (.q [.op 2 (.mv (.k (.one (.pv (.string ⟨#[]⟩))))),.F 3]
 .ret)))
 (.q [.f 7 1 0,.l 8 7,.f 9 1 1,.l 10 9,.c 11 102 [8,10],.e 12 11 0,.e 13 11 1,.m 2 12,.m 3 13]
 .ret))⟩
theorem r_s_CellText {Te:TE} (c_s_CellOk:C_s_CellOk Te) (c_s_Decode:C_s_Decode Te):C_s_CellText (RF Te x_s_CellText):=by
 intro c
 refine X0 x_s_CellText.eq_1 ?_
 refine C0 (c_s_CellOk c) ?_
 cases g:c.ok
 ·have e:c.text=(⟨#[]⟩,false):=by rw [CellV.text,g]; rfl
  exact F1 e
 ·have e:c.text=decode c.Tag c.B:=by rw [CellV.text,g]; rfl
  refine G1 e ?_
  exact D1 (c_s_Decode c.Tag c.B (by have:=CellV.ok_len g; omega)) e
def x_s_SameText:FnX:=⟨28,[.tmp 4],
  .q [.v 2 0,.v 3 1,.F 4]
 (.q [.L 10 2 2,.c 11 197 [10],.m 9 11,.e 12 9 0,.e 13 9 1,.m 5 12,.m 6 13]
 (.q [.L 15 2 3,.c 16 197 [15],.m 14 16,.e 17 14 0,.e 18 14 1,.m 7 17,.m 8 18]
 (.q [.m 19 6,.m 20 19,.y 20 (.m 21 8),.a 22 20 21,.m 23 22,.y 23 (.m 24 5),.y 23 (.m 25 7),.y 23 (.b 26 .eql 24 25),.a 27 23 26,.m 4 27]
 .ret)))⟩
theorem r_s_SameText {Te:TE} (c_s_CellText:C_s_CellText Te):C_s_SameText (RF Te x_s_SameText):=by
 intro a c
 refine run0 ?_
 simp -implicitDefEqProofs (maxSteps:=1000000) only [x_s_SameText,go_sem,sameText]
 repeat refine ⟨sc,?_⟩
 try exact sf
 refine C0 (c_s_CellText a) ?_
 refine C0 (c_s_CellText c) ?_
 cases g1:a.text.2
 ·exact F1 g1
 ·cases g2:c.text.2
  ·exact F2 g1 g2
  ·try simp -implicitDefEqProofs (maxSteps:=1000000) only [go_sem,g1,g2,bytes_beq]
   repeat refine ⟨sc,?_⟩
   try exact sf
def x_i_sameCell:FnX:=⟨19,[.tmp 4],
  .q [.v 2 0,.v 3 1,.F 4]
 (.q [.f 5 2 0,.l 6 5,.f 7 3 0,.l 8 7,.b 9 .eql 6 8,.m 10 9,.y 10 (.f 11 2 1),.y 10 (.l 12 11),.y 10 (.op 13 (.conv .b2s (.t 12))),.y 10 (.f 14 3 1),.y 10 (.l 15 14),.y 10 (.op 16 (.conv .b2s (.t 15))),.y 10 (.b 17 .eql 13 16),.a 18 10 17,.m 4 18]
 .ret)⟩
theorem r_i_sameCell {Te:TE}:C_i_sameCell (RF Te x_i_sameCell):=by
 intro a c
 refine run0 ?_
 cases g:(a.Tag==c.Tag)
 ·simp -implicitDefEqProofs (maxSteps:=1000000) only [x_i_sameCell,go_sem,g]
  repeat refine ⟨sc,?_⟩
  try exact sf
 ·have ea:=areBytes_uR a.B
  have ec:=areBytes_uR c.B
  have fa:=bytesOf_uR a.B
  have fc:=bytesOf_uR c.B
  simp -implicitDefEqProofs (maxSteps:=1000000) only [x_i_sameCell,go_sem,g,ea,ec,fa,fc,bytes_beq,bytes_lists]
  repeat refine ⟨sc,?_⟩
  try exact sf
def x_s_l9None:FnX:=⟨12,[.tmp 2],
  .q [.v 1 0,.F 2]
 (.q [.f 3 1 0,.l 4 3,.B 5 .eql 4 0,.m 6 5,.y 6 (.f 7 1 1),.y 6 (.l 8 7),.y 6 (.n 9 8),.y 6 (.B 10 .eql 9 0),.a 11 6 10,.m 2 11]
 .ret)⟩
theorem r_s_l9None {Te:TE}:C_s_l9None (RF Te x_s_l9None):=by
 intro c
 refine run0 ?_
 cases g:(c.Tag==0)
 ·simp -implicitDefEqProofs (maxSteps:=1000000) only [x_s_l9None,go_sem,CellV.no,g]
  repeat refine ⟨sc,?_⟩
  try exact sf
 ·simp -implicitDefEqProofs (maxSteps:=1000000) only [x_s_l9None,go_sem,CellV.no,g,none_len]
  repeat refine ⟨sc,?_⟩
  try exact sf
def x_i_NameOk:FnX:=⟨27,[.tmp 2],
  .q [.F 2]
 (.seq (.q [.i 3 0]
 (.block 0 (.loop [0,3] (.seq (.q [.m 4 3,.m 5 0,.op 6 (.slen (.t 5)),.b 7 .lss 4 6]
 (.cond 7 .skip (.exit 0)))
 (.seq (.block 1 (.q [.m 10 0,.m 11 3,.op 12 (.sidx (.t 10) (.t 11)),.op 13 (.conv (.int .i64) (.t 12)),.op 14 (.call 90 [0,0,0] [(.t 13),(.i 97),(.i 122)]),.N 15 14,.m 16 15,.y 16 (.m 17 0),.y 16 (.m 18 3),.y 16 (.op 19 (.sidx (.t 17) (.t 18))),.y 16 (.op 20 (.conv (.int .i64) (.t 19))),.y 16 (.op 21 (.call 90 [0,0,0] [(.t 20),(.i 48),(.i 57)])),.y 16 (.N 22 21),.a 23 16 22]
 (.c 23 (.q [.F 2]
 .ret))))
 (.reg [.m 8 3,.B 9 .add 8 1,.m 3 9]))))))
 (.norm [0] (.q [.m 24 0,.op 25 (.slen (.t 24)),.op 26 (.call 90 [0,0,0] [(.t 25),(.i 1),(.i 6)]),.m 2 26]
 .ret)))⟩
theorem r_i_NameOk {Te:TE} (c_i_within:C_i_within Te):C_i_NameOk (RF Te x_i_NameOk):=by
 intro s h
 refine run0 ?_
 have hsz:s.data.toList.length=s.size:=by rw [Array.length_toList]; rfl
 simp -implicitDefEqProofs (maxSteps:=1000000) only [x_i_NameOk,go_sem,nameOk]
 repeat refine ⟨sc,?_⟩
 try exact sf
 refine loop_of (σ:=Nat) (fun i=>⟨[(0,.one (.pv (.string s))),(3,.one (.pv (.int .i64 i)))],[],[(0,[sT s])]⟩) (fun i=>i≤s.size∧(s.data.toList.take i).all nameCh=true) (fun i=>s.size - i) 0 ?_ ⟨Nat.zero_le _,rfl⟩ ?_
 ·simp -implicitDefEqProofs (maxSteps:=1000000) only [go_sem]; rfl
 ·rintro i ⟨hi,hp⟩
  cases q:decide ((i:Int) < (s.size:Int))
  ·have e:=all_end (p:=nameCh) (show s.data.toList.length≤i by simp only [decide_eq_false_iff_not] at q; omega) hp
   refine G1 q ?_
   exact D1 (c_i_within _ _ _) e
  ·have hi':i < s.size:=by simp only [decide_eq_true_eq] at q; omega
   have hi2:i < s.data.toList.length:=by omega
   have q1:decide (i < s.size)=true:=decide_eq_true hi'
   have eg:s.data.toList.getD i 0=s.data.toList[i]:=by rw [List.getD_eq_getElem?_getD,List.getElem?_eq_getElem hi2]; rfl
   have hb:=s.data.toList[i].toNat_lt
   have w1:IntKind.i64.wrap ((s.data.toList[i].toNat:Nat):Int)=(s.data.toList[i].toNat:Nat):=IntWalk.i64_in _ (by omega)
   refine G4 q q1 eg w1 ?_
   refine C0 (c_i_within _ _ _) ?_
   cases g1:win ((s.data.toList[i].toNat:Nat):Int) 97 122
   ·refine G3 q1 eg w1 ?_
    refine C0 (c_i_within _ _ _) ?_
    cases g2:win ((s.data.toList[i].toNat:Nat):Int) 48 57
    ·have e:=all_not (p:=nameCh) hi2 (by simp only [nameCh,g1,g2,Bool.or_false])
     exact F1 e
    ·refine G0 ?_
     refine ⟨i + 1,by rw [IntWalk.i64_in _ (by omega)]; rfl,⟨hi',all_step (p:=nameCh) hi2 hp (by simp only [nameCh,g1,g2,Bool.or_true])⟩,by omega⟩
   ·refine G0 ?_
    refine ⟨i + 1,by rw [IntWalk.i64_in _ (by omega)]; rfl,⟨hi',all_step (p:=nameCh) hi2 hp (by simp only [nameCh,g1,Bool.true_or])⟩,by omega⟩
def x_i_PairSign:FnX:=⟨26,[.tmp 4,.tmp 5],
  .q [.i 4 0,.F 5]
 (.seq (.block 0 (.q [.m 7 0,.B 8 .eql 7 164,.m 9 8,.y 9 (.m 10 1),.y 9 (.op 11 (.call 90 [0,0,0] [(.t 10),(.i 161),(.i 243)])),.a 12 9 11,.m 6 12]
 (.cond 6 (.q [.m 13 1,.op 14 (.bin .add (.i 12353) (.t 13)),.B 15 .sub 14 161,.m 4 15,.T 5]
 .ret) (.q [.m 17 0,.B 18 .eql 17 165,.m 19 18,.y 19 (.m 20 1),.y 19 (.op 21 (.call 90 [0,0,0] [(.t 20),(.i 161),(.i 246)])),.a 22 19 21,.m 16 22]
 (.c 16 (.q [.m 23 1,.op 24 (.bin .add (.i 12449) (.t 23)),.B 25 .sub 24 161,.m 4 25,.T 5]
 .ret))))))
 (.q [.i 4 0,.F 5]
 .ret))⟩
theorem r_i_PairSign {Te:TE} (c_i_within:C_i_within Te):C_i_PairSign (RF Te x_i_PairSign):=by
 intro hi lo h
 refine run0 ?_
 have w1:IntKind.i64.wrap (12353 + lo)=12353 + lo:=IntWalk.i64_in _ (by omega)
 have w2:IntKind.i64.wrap (12353 + lo - 161)=12353 + lo - 161:=IntWalk.i64_in _ (by omega)
 have w3:IntKind.i64.wrap (12449 + lo)=12449 + lo:=IntWalk.i64_in _ (by omega)
 have w4:IntKind.i64.wrap (12449 + lo - 161)=12449 + lo - 161:=IntWalk.i64_in _ (by omega)
 have no:∀ a b c d:Bool,(a&&b)=false→(c&&d)=false→True:=fun _ _ _ _ _ _=>trivial
 cases g1:(hi==164)
 ·cases g3:(hi==165)
  ·have e:pairSign hi lo=(0,false):=by rw [pairSign,g1,g3]; rfl
   simp -implicitDefEqProofs (maxSteps:=1000000) only [x_i_PairSign,go_sem,g1,g3,e]
   repeat refine ⟨sc,?_⟩
   try exact sf
  ·simp -implicitDefEqProofs (maxSteps:=1000000) only [x_i_PairSign,go_sem,g1,g3]
   repeat refine ⟨sc,?_⟩
   try exact sf
   refine C0 (c_i_within _ _ _) ?_
   cases g4:win lo 161 246
   ·have e:pairSign hi lo=(0,false):=by rw [pairSign,g1,g3,g4]; rfl
    exact F1 e
   ·have e:pairSign hi lo=(12449 + lo - 161,true):=by rw [pairSign,g1,g3,g4]; rfl
    exact F3 e w3 w4
 ·have g3:(hi==165)=false:=by have:=eq_of_beq g1; subst this; rfl
  simp -implicitDefEqProofs (maxSteps:=1000000) only [x_i_PairSign,go_sem,g1]
  repeat refine ⟨sc,?_⟩
  try exact sf
  refine C0 (c_i_within _ _ _) ?_
  cases g4:win lo 161 243
  ·have e:pairSign hi lo=(0,false):=by rw [pairSign,g1,g3,g4]; rfl
   exact F2 g3 e
  ·have e:pairSign hi lo=(12353 + lo - 161,true):=by rw [pairSign,g1,g4]; rfl
   exact F3 e w1 w2
def x_s_PairSign:FnX:=⟨26,[.tmp 4,.tmp 5],
  .q [.i 4 0,.F 5]
 (.seq (.block 0 (.q [.m 7 0,.B 8 .eql 7 164,.m 9 8,.y 9 (.m 10 1),.y 9 (.op 11 (.call 120 [0,0,0] [(.t 10),(.i 161),(.i 243)])),.a 12 9 11,.m 6 12]
 (.cond 6 (.q [.m 13 1,.op 14 (.bin .add (.i 12353) (.t 13)),.B 15 .sub 14 161,.m 4 15,.T 5]
 .ret) (.q [.m 17 0,.B 18 .eql 17 165,.m 19 18,.y 19 (.m 20 1),.y 19 (.op 21 (.call 120 [0,0,0] [(.t 20),(.i 161),(.i 246)])),.a 22 19 21,.m 16 22]
 (.c 16 (.q [.m 23 1,.op 24 (.bin .add (.i 12449) (.t 23)),.B 25 .sub 24 161,.m 4 25,.T 5]
 .ret))))))
 (.q [.i 4 0,.F 5]
 .ret))⟩
theorem r_s_PairSign {Te:TE} (c_s_l1In:C_s_l1In Te):C_s_PairSign (RF Te x_s_PairSign):=by
 intro hi lo h
 refine run0 ?_
 have w1:IntKind.i64.wrap (12353 + lo)=12353 + lo:=IntWalk.i64_in _ (by omega)
 have w2:IntKind.i64.wrap (12353 + lo - 161)=12353 + lo - 161:=IntWalk.i64_in _ (by omega)
 have w3:IntKind.i64.wrap (12449 + lo)=12449 + lo:=IntWalk.i64_in _ (by omega)
 have w4:IntKind.i64.wrap (12449 + lo - 161)=12449 + lo - 161:=IntWalk.i64_in _ (by omega)
 have no:∀ a b c d:Bool,(a&&b)=false→(c&&d)=false→True:=fun _ _ _ _ _ _=>trivial
 cases g1:(hi==164)
 ·cases g3:(hi==165)
  ·have e:pairSign hi lo=(0,false):=by rw [pairSign,g1,g3]; rfl
   simp -implicitDefEqProofs (maxSteps:=1000000) only [x_s_PairSign,go_sem,g1,g3,e]
   repeat refine ⟨sc,?_⟩
   try exact sf
  ·simp -implicitDefEqProofs (maxSteps:=1000000) only [x_s_PairSign,go_sem,g1,g3]
   repeat refine ⟨sc,?_⟩
   try exact sf
   refine C0 (c_s_l1In _ _ _) ?_
   cases g4:win lo 161 246
   ·have e:pairSign hi lo=(0,false):=by rw [pairSign,g1,g3,g4]; rfl
    exact F1 e
   ·have e:pairSign hi lo=(12449 + lo - 161,true):=by rw [pairSign,g1,g3,g4]; rfl
    exact F3 e w3 w4
 ·have g3:(hi==165)=false:=by have:=eq_of_beq g1; subst this; rfl
  simp -implicitDefEqProofs (maxSteps:=1000000) only [x_s_PairSign,go_sem,g1]
  repeat refine ⟨sc,?_⟩
  try exact sf
  refine C0 (c_s_l1In _ _ _) ?_
  cases g4:win lo 161 243
  ·have e:pairSign hi lo=(0,false):=by rw [pairSign,g1,g3,g4]; rfl
   exact F2 g3 e
  ·have e:pairSign hi lo=(12353 + lo - 161,true):=by rw [pairSign,g1,g4]; rfl
   exact F3 e w1 w2
def x_s_HeadOf:FnX:=⟨24,[.tmp 4],
  .q [.op 4 (.mv (.k (.one (.nils 1))))]
 (.seq (.q [.m 6 0,.op 7 (.call 120 [0,0,0] [(.t 6),(.i 1),(.i 60000)]),.N 8 7,.m 9 8,.z 9 (.m 10 1),.z 9 (.op 11 (.call 120 [0,0,0] [(.t 10),(.i 0),(.i 30)])),.z 9 (.N 12 11),.r 13 9 12]
 (.c 13 (.q [.op 14 (.bslice 1 []),.m 4 14]
 .ret)))
 (.q [.op 15 (.bslice 1 []),.m 16 0,.c 17 282 [15,16],.m 18 1,.c 19 282 [17,18],.m 5 19]
 (.q [.m 20 5,.m 21 5,.c 22 285 [21],.c 23 282 [20,22],.m 4 23]
 .ret)))⟩
theorem r_s_HeadOf {Te:TE} (c_s_l1In:C_s_l1In Te) (c_s_PutW:C_s_PutW Te) (c_s_Sum:C_s_Sum Te):C_s_HeadOf (RF Te x_s_HeadOf):=by
 intro gen n
 refine X0 x_s_HeadOf.eq_1 ?_
 refine C0 (c_s_l1In _ _ _) ?_
 cases g1:win gen 1 60000
 ·have e:headOf gen n=[]:=by rw [headOf,headGood,g1]; rfl
  exact F1 e
 refine G0 ?_
 refine C0 (c_s_l1In _ _ _) ?_
 cases g2:win n 0 30
 ·have e:headOf gen n=[]:=by rw [headOf,headGood,g1,g2]; rfl
  exact F1 e
 refine G0 ?_
 have e:headOf gen n=putW (putW (putW [] gen) n) (sum (putW (putW [] gen) n):Nat):=by rw [headOf,headGood,g1,g2]; rfl
 have l1:(putW (putW [] gen) n).length=4:=by rw [putW_len,putW_len]; rfl
 have t1:=c_s_PutW [] gen (by show 0≤2 ^ 30; decide)
 refine C0 (t1) ?_
 refine C0 (c_s_PutW (putW [] gen) n (by rw [putW_len]; show 0 + 2≤2 ^ 30; decide)) ?_
 refine C0 (c_s_Sum (putW (putW [] gen) n) (by omega)) ?_
 refine .of (c_s_PutW (putW (putW [] gen) n) _ (by omega)) ?_
 try simp -implicitDefEqProofs (maxSteps:=1000000) only [go_sem,e]
 repeat refine ⟨sc,?_⟩
 try exact sf
def x_s_NodeLoad:FnX:=⟨60,[.cell 6 (some 10),.tmp 7],
  .q [.v 3 0,.op 6 (.alloc [.nils 1,.nils 2,.i 0,.F,.nils 7,.i 0,.nils 3,.i 0,.i 0,.i 0]),.i 7 0]
 (.q [.L 12 10 3,.c 13 65 [12],.op 8 (.alloc [.nils 1,.nils 2,.i 0,.F,.nils 7,.i 0,.nils 3,.i 0,.i 0,.i 0]),.s 100001 10 8 13]
 (.seq (.block 0 (.q [.L 15 10 3,.c 16 64 [15],.N 17 16,.m 18 17,.z 18 (.m 19 1),.z 18 (.c 20 101 [19]),.z 18 (.N 21 20),.r 22 18 21,.m 23 22,.z 23 (.m 24 2),.z 23 (.n 25 24),.z 23 (.B 26 .gtr 25 20),.r 27 23 26,.m 14 27]
 (.cond 14 (.q [.L 28 10 8,.s 100002 10 6 28,.i 7 1]
 .ret) (.q [.f 30 3 0,.f 31 30 4,.f 32 31 1,.l 33 32,.B 34 .neq 33 0,.m 29 34]
 (.c 29 (.q [.L 35 10 8,.s 100003 10 6 35,.i 7 6]
 .ret))))))
 (.q [.f 37 3 9,.l 38 37,.m 39 2,.c 40 102 [38,39],.m 36 40,.e 41 36 0,.e 42 36 1,.m 9 41,.m 10 42]
 (.seq (.draw [.m 43 1,.f 44 3 9,.l 45 44,.op 46 (.bslice 1 []),.m 47 2,.op 48 (.app 1 1 (.t 46) (.t 47)),.op 49 (.build [.i 0,.nils 1] [(0,1,(.t 45)),(1,1,(.t 48))]),.m 50 10,.N 51 50,.op 52 (.build [.e,.i 0,.nils 1,.i 0,.nils 1,.i 0,.F] [(0,1,(.t 43)),(1,2,(.t 49)),(5,1,(.i 1)),(6,1,(.t 51))]),.op 11 (.alloc [.e,.i 0,.nils 1,.i 0,.nils 1,.i 0,.F]),.s 100004 7 11 52] [[],[],[1],[],[],[3,4],[2,5],[],[7],[0,6,8],[],[10,9,5,0,1,2,3,4,5,6,7,8,9,10]])
 (.seq (.q [.f 53 8 0,.L 54 7 11,.op 55 (.build [.i 0,.e,.i 0,.nils 1,.i 0,.nils 1,.i 0,.F,.e,.i 0,.i 0,.i 0,.i 0] [(0,1,(.i 1)),(1,7,(.t 54))]),.op 56 (.call 103 [11,0] [(.t 53),(.t 55)]),.N 57 56]
 (.c 57 (.q [.L 58 10 8,.s 100005 10 6 58,.i 7 5]
 .ret)))
 (.q [.L 59 10 8,.s 100006 10 6 59,.i 7 0]
 .ret))))))⟩
theorem r_s_NodeLoad {Te:TE} (c_s_l15Copy:C_s_l15Copy Te) (c_s_l15Up:C_s_l15Up Te) (c_s_NameOk:C_s_NameOk Te) (c_s_Decode:C_s_Decode Te) (c_s_l13Add:C_s_l13Add Te):C_s_NodeLoad (RF Te x_s_NodeLoad):=by
 intro n key b hn hk hb
 have hL:=hn.len (by decide)
 refine X0 x_s_NodeLoad.eq_1 ?_
 refine C0 (c_s_l15Copy n hL) ?_
 refine C0 (c_s_l15Up n (hn.mono (by decide))) ?_
 cases g1:n.up
 ·have e:n.load key b=(n,1):=by rw [NodeV.load,g1]; rfl
  exact F1 e
 obtain ⟨k1,k2,_⟩:=up_ok g1
 refine G0 ?_
 refine C0 (c_s_NameOk key (by omega)) ?_
 cases g2:nameOk key
 ·have e:n.load key b=(n,1):=by rw [NodeV.load,g1,g2]; rfl
  exact F1 e
 cases g3:decide ((b.length:Int)≤20)
 ·have e:n.load key b=(n,1):=by rw [NodeV.load,g1,g2,g3]; rfl
  try simp -implicitDefEqProofs (maxSteps:=1000000) only [go_sem,gt20,g3,e,take_all,take_marks]
  repeat refine ⟨sc,?_⟩
  try exact sf
  try rfl
 cases g4:(n.S.T.Phase==0)
 ·have e:n.load key b=(n,6):=by rw [NodeV.load,g1,g2,g3,g4]; rfl
  have g5:(n.S.T.Phase != 0)=true:=by rw [bne_not,g4]; rfl
  try simp -implicitDefEqProofs (maxSteps:=1000000) only [go_sem,gt20,g3,g4,g5,e,take_all,take_marks]
  repeat refine ⟨sc,?_⟩
  try exact sf
  try rfl
 have g5:(n.S.T.Phase != 0)=false:=by rw [bne_not,g4]; rfl
 have e:n.load key b=(n.added (loadRec n key b),bif (n.S.add (loadRec n key b)).2 then 0 else 5):=by rw [NodeV.load,g1,g2,g3,g4]; rfl
 have t2:=c_s_l13Add n.S (loadRec n key b) k1 k2 hn.2 (loadRec_in n hk hb)
 cases g6:(decode n.Cs b).2
 all_goals
  simp only [loadRec,g6,Bool.not_false,Bool.not_true] at t2 e
  try simp -implicitDefEqProofs (maxSteps:=1000000) only [go_sem,gt20,g3,g4,g5]
  repeat refine ⟨sc,?_⟩
  try exact sf
  refine .of (c_s_Decode n.Cs b hb) ?_
  try simp -implicitDefEqProofs (maxSteps:=1000000) only [go_sem,take_rows]
  repeat refine ⟨sc,?_⟩
  try exact sf
  rw [g6]
  try simp -implicitDefEqProofs (maxSteps:=1000000) only [go_sem,g6,take_rows]
  repeat refine ⟨sc,?_⟩
  try exact sf
  refine .of (t2) ?_
  try simp -implicitDefEqProofs (maxSteps:=1000000) only [go_sem,take_all,take_marks]
  repeat refine ⟨sc,?_⟩
  try exact sf
  cases g7:(n.S.add (RecV.mk 1 ⟨key,⟨n.Cs,b⟩,⟨0,[]⟩,1,!(decode n.Cs b).2⟩ ⟨#[]⟩ 0 0 0 0)).2
  all_goals
   rw [g6] at g7
   simp only [Bool.not_false,Bool.not_true] at g7
   try simp -implicitDefEqProofs (maxSteps:=1000000) only [go_sem,g7,e,NodeV.added,NodeV.enc,take_all,take_marks]
   repeat refine ⟨sc,?_⟩
   try exact sf
   try rfl
end Go.X

