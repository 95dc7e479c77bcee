/- Texts: CVzea CVn CVm CVu CVg_2 CVs_2 CVzt_4 CVzc. -/
import Derived.Test.YtmmjaijeeeilcaaGreatDoorB04
set_option linter.unusedVariables false
set_option linter.unusedSimpArgs false
namespace Go.X
set_option maxRecDepth 100000
set_option maxHeartbeats 8000000
def x_s_NodeStep:FnX:=⟨101,[.cell 4 (some 10),.tmp 5,.tmp 6,.tmp 7],
  .q [.v 2 0,.op 4 (.alloc [.nils 1,.nils 2,.i 0,.F,.nils 7,.i 0,.nils 3,.i 0,.i 0,.i 0]),.op 5 (.mv (.k (.one (.pv (.string ⟨#[]⟩))))),.i 6 0,.F 7]
 (.q [.L 16 10 2,.c 17 65 [16],.op 8 (.alloc [.nils 1,.nils 2,.i 0,.F,.nils 7,.i 0,.nils 3,.i 0,.i 0,.i 0]),.s 100001 10 8 17]
 (.seq (.q [.L 18 10 2,.c 19 64 [18],.N 20 19,.m 21 20,.z 21 (.f 22 2 0),.z 21 (.f 23 22 4),.z 21 (.f 24 23 1),.z 21 (.l 25 24),.z 21 (.c 26 115 [25]),.z 21 (.N 27 26),.r 28 21 27]
 (.c 28 (.q [.L 29 10 8,.m 30 1,.s 100002 10 4 29,.m 5 30,.i 6 0,.F 7]
 .ret)))
 (.q [.m 31 1,.m 9 31]
 (.q [.i 10 0]
 (.seq (.q [.i 11 0]
 (.block 0 (.loop [1,2,4,8,9,10,11] (.seq (.q [.m 32 11,.f 33 2 0,.f 34 33 4,.f 35 34 0,.l 36 35,.n 37 36,.b 38 .lss 32 37,.m 39 38,.y 39 (.m 40 10),.y 39 (.B 41 .lss 40 2),.a 42 39 41]
 (.cond 42 .skip (.exit 0)))
 (.seq (.block 1 (.q [.f 45 2 0,.f 46 45 4,.f 47 46 0,.l 48 47,.m 49 11,.x 50 7 48 49,.L 51 7 50,.op 12 (.alloc [.e,.i 0,.nils 1,.i 0,.nils 1,.i 0,.F]),.s 100003 7 12 51]
 (.seq (.q [.f 52 12 0,.l 53 52,.m 54 1,.b 55 .leq 53 54]
 (.c 55 (.exit 1)))
 (.q [.f 56 2 0,.f 57 56 4,.f 58 57 1,.l 59 58,.L 60 7 12,.c 61 116 [59,60],.op 13 (.alloc [.e,.i 0,.nils 1,.i 0,.nils 1,.i 0,.F]),.s 100004 7 13 61]
 (.seq (.q [.L 62 7 13,.L 63 7 12,.c 64 117 [62,63],.N 65 64,.m 66 65,.y 66 (.f 67 8 0),.y 66 (.L 68 7 13),.y 66 (.op 69 (.build [.i 0,.e,.i 0,.nils 1,.i 0,.nils 1,.i 0,.F,.e,.i 0,.i 0,.i 0,.i 0] [(0,1,(.i 1)),(1,7,(.t 68))])),.y 66 (.op 70 (.call 103 [11,0] [(.t 67),(.t 69)])),.y 66 (.N 71 70),.a 72 66 71]
 (.c 72 (.q [.L 73 10 8,.m 74 1,.s 100005 10 4 73,.m 5 74,.i 6 0,.F 7]
 .ret)))
 (.q [.f 75 12 0,.l 76 75,.m 9 76]
 (.reg [.m 77 10,.B 78 .add 77 1,.m 10 78])))))))
 (.reg [.m 43 11,.B 44 .add 43 1,.m 11 44]))))))
 (.norm [2,4,8,9] (.q [.i 14 1]
 (.seq (.q [.i 15 0]
 (.block 2 (.loop [2,4,8,9,14,15] (.seq (.q [.m 79 15,.f 80 2 0,.f 81 80 4,.f 82 81 0,.l 83 82,.n 84 83,.b 85 .lss 79 84]
 (.cond 85 .skip (.exit 2)))
 (.seq (.block 3 (.q [.f 88 2 0,.f 89 88 4,.f 90 89 0,.l 91 90,.m 92 15,.x 93 7 91 92,.f 94 93 0,.l 95 94,.m 96 9,.b 97 .gtr 95 96]
 (.c 97 (.reg [.i 14 0]))))
 (.reg [.m 86 15,.B 87 .add 86 1,.m 15 87]))))))
 (.norm [4,8,9,14] (.q [.L 98 10 8,.m 99 9,.m 100 14,.s 100006 10 4 98,.m 5 99,.m 6 100,.T 7]
 .ret))))))))))⟩
def lastCode:XCode:=.loop [2,4,8,9,14,15] (.seq (.q [.m 79 15,.f 80 2 0,.f 81 80 4,.f 82 81 0,.l 83 82,.n 84 83,.b 85 .lss 79 84]
 (.cond 85 .skip (.exit 2)))
 (.seq (.block 3 (.q [.f 88 2 0,.f 89 88 4,.f 90 89 0,.l 91 90,.m 92 15,.x 93 7 91 92,.f 94 93 0,.l 95 94,.m 96 9,.b 97 .gtr 95 96]
 (.c 97 (.reg [.i 14 0]))))
 (.reg [.m 86 15,.B 87 .add 86 1,.m 15 87])))
theorem last_loop {Te:TE} {Q:Post} {st:St} (n:NodeV) (p:Int) (cur:NodeV) (o0 o1 o2 o3:Nat) (f A:ByteArray) (X:List Go.X.T) (hr1:n.S.T.Rows.length≤2 ^ 20)
  (h0:norm 2 103 [2,4,8,9,14,15] st=⟨[(2,.bp 2 0),(4,.bp 4 0),(8,.bp 8 0),(9,.one (.pv (.string A))),(14,.one (.pv (.int .i64 1))),(15,.one (.pv (.int .i64 0)))],[(2,[.ro 1 (n.S.D.Secs.map fun y=>[slT false 1 uR y]),.ro 2 (n.S.D.Cache.map (WrV.enc false)),.pv (.int .i64 n.S.D.Fuse),.pv (.bool n.S.D.Down),.ro 7 (n.S.T.Rows.map (RowV.enc false)),.pv (.int .i64 p),.ro 3 (n.S.T.Marks.map MarkV.row),.pv (.int .i64 n.S.Gen),.pv (.int .i64 n.S.Place),.pv (.int .i64 n.Cs)]),(4,[.nils 1,.nils 2,.pv (.int .i64 0),.pv (.bool false),.nils 7,.pv (.int .i64 0),.nils 3,.pv (.int .i64 0),.pv (.int .i64 0),.pv (.int .i64 0)]),(8,[.rf 103 o0 [] 1 0 cur.S.D.Secs.length,.rf 103 o1 [] 2 0 cur.S.D.Cache.length,.pv (.int .i64 cur.S.D.Fuse),.pv (.bool cur.S.D.Down),.rf 103 o2 [] 7 0 cur.S.T.Rows.length,.pv (.int .i64 cur.S.T.Phase),.rf 103 o3 [] 3 0 cur.S.T.Marks.length,.pv (.int .i64 cur.S.Gen),.pv (.int .i64 cur.S.Place),.pv (.int .i64 cur.Cs)])],[(0,n.enc false),(1,[sT f]),(103,X)]⟩)
  (hQ:Q (.exit 2) ⟨[(85,.one (.pv (.bool false))),(84,.one (.pv (.int .i64 n.S.T.Rows.length))),(83,.one (.ro 7 (n.S.T.Rows.map (RowV.enc false)))),(82,.bp 2 4),(81,.bp 2 4),(80,.bp 2 0),(79,.one (.pv (.int .i64 n.S.T.Rows.length))),(2,.bp 2 0),(4,.bp 4 0),(8,.bp 8 0),(9,.one (.pv (.string A))),(14,.one (.pv (.int .i64 (bif n.S.T.Rows.any fun r=>isBehind A r.Key then 0 else 1)))),(15,.one (.pv (.int .i64 n.S.T.Rows.length)))],[(2,[.ro 1 (n.S.D.Secs.map fun y=>[slT false 1 uR y]),.ro 2 (n.S.D.Cache.map (WrV.enc false)),.pv (.int .i64 n.S.D.Fuse),.pv (.bool n.S.D.Down),.ro 7 (n.S.T.Rows.map (RowV.enc false)),.pv (.int .i64 p),.ro 3 (n.S.T.Marks.map MarkV.row),.pv (.int .i64 n.S.Gen),.pv (.int .i64 n.S.Place),.pv (.int .i64 n.Cs)]),(4,[.nils 1,.nils 2,.pv (.int .i64 0),.pv (.bool false),.nils 7,.pv (.int .i64 0),.nils 3,.pv (.int .i64 0),.pv (.int .i64 0),.pv (.int .i64 0)]),(8,[.rf 103 o0 [] 1 0 cur.S.D.Secs.length,.rf 103 o1 [] 2 0 cur.S.D.Cache.length,.pv (.int .i64 cur.S.D.Fuse),.pv (.bool cur.S.D.Down),.rf 103 o2 [] 7 0 cur.S.T.Rows.length,.pv (.int .i64 cur.S.T.Phase),.rf 103 o3 [] 3 0 cur.S.T.Marks.length,.pv (.int .i64 cur.S.Gen),.pv (.int .i64 cur.S.Place),.pv (.int .i64 cur.Cs)])],[(0,n.enc false),(1,[sT f]),(103,X)]⟩):runC Te 2 103 lastCode st Q:=by
 refine loop_of (σ:=Nat) (fun j=>⟨[(2,.bp 2 0),(4,.bp 4 0),(8,.bp 8 0),(9,.one (.pv (.string A))),(14,.one (.pv (.int .i64 (bif (n.S.T.Rows.take j).any fun r=>isBehind A r.Key then 0 else 1)))),(15,.one (.pv (.int .i64 j)))],[(2,[.ro 1 (n.S.D.Secs.map fun y=>[slT false 1 uR y]),.ro 2 (n.S.D.Cache.map (WrV.enc false)),.pv (.int .i64 n.S.D.Fuse),.pv (.bool n.S.D.Down),.ro 7 (n.S.T.Rows.map (RowV.enc false)),.pv (.int .i64 p),.ro 3 (n.S.T.Marks.map MarkV.row),.pv (.int .i64 n.S.Gen),.pv (.int .i64 n.S.Place),.pv (.int .i64 n.Cs)]),(4,[.nils 1,.nils 2,.pv (.int .i64 0),.pv (.bool false),.nils 7,.pv (.int .i64 0),.nils 3,.pv (.int .i64 0),.pv (.int .i64 0),.pv (.int .i64 0)]),(8,[.rf 103 o0 [] 1 0 cur.S.D.Secs.length,.rf 103 o1 [] 2 0 cur.S.D.Cache.length,.pv (.int .i64 cur.S.D.Fuse),.pv (.bool cur.S.D.Down),.rf 103 o2 [] 7 0 cur.S.T.Rows.length,.pv (.int .i64 cur.S.T.Phase),.rf 103 o3 [] 3 0 cur.S.T.Marks.length,.pv (.int .i64 cur.S.Gen),.pv (.int .i64 cur.S.Place),.pv (.int .i64 cur.Cs)])],[(0,n.enc false),(1,[sT f]),(103,X)]⟩) (fun j=>j≤n.S.T.Rows.length) (fun j=>n.S.T.Rows.length - j) 0 h0 (Nat.zero_le _) ?_
 intro j hj
 cases q3:decide ((j:Int) < (n.S.T.Rows.length:Int))
 ·have k0:j=n.S.T.Rows.length:=by simp only [decide_eq_false_iff_not] at q3; omega
  subst k0
  simp -implicitDefEqProofs only [go_sem,q3,List.take_length]
  exact hQ
 ·have k3:j < n.S.T.Rows.length:=by simp only [decide_eq_true_eq] at q3; omega
  have ea:=any_take (a:=A) k3
  have ew:IntKind.i64.wrap ((j:Int) + 1)=((j + 1:Nat):Int):=IntWalk.i64_in _ (by omega)
  cases g:isBehind A n.S.T.Rows[j].Key
  ·have g':=g
   rw [isBehind] at g'
   rw [g,Bool.or_false] at ea
   refine G4 q3 (List.getElem?_eq_getElem k3) g' ew ?_
   exact ⟨j + 1,by rw [ea] <;> rfl,k3,by omega⟩
  ·have g':=g
   rw [isBehind] at g'
   rw [g,Bool.or_true] at ea
   refine G4 q3 (List.getElem?_eq_getElem k3) g' ew ?_
   exact ⟨j + 1,by rw [ea] <;> rfl,k3,by omega⟩
theorem r_s_NodeStep {Te:TE} (c_s_l15Copy:C_s_l15Copy Te) (c_s_l15Up:C_s_l15Up Te) (c_s_Walks:C_s_Walks Te) (c_s_l15Turn:C_s_l15Turn Te) (c_s_l12SameRow:C_s_l12SameRow Te) (c_s_l13Add:C_s_l13Add Te):C_s_NodeStep (RF Te x_s_NodeStep):=by
 intro n f hn
 have hL:=hn.len (by decide)
 have hr1:=hn.2.1.1
 refine X0 x_s_NodeStep.eq_1 ?_
 refine C0 (c_s_l15Copy n hL) ?_
 refine C0 (c_s_l15Up n (hn.mono (by decide))) ?_
 cases g1:n.up
 ·have e:n.step f=(n,f,0,false):=by rw [NodeV.step,g1]; rfl
  exact F1 e
 refine G0 ?_
 refine C0 (c_s_Walks _) ?_
 cases g2:walks n.S.T.Phase
 ·have e:n.step f=(n,f,0,false):=by rw [NodeV.step,g1,g2]; rfl
  exact F1 e
 obtain ⟨k1,k2,_⟩:=up_ok g1
 have hw:=walks_or g2
 have hl:=behind_last (rows_sorted (NodeV.up_tab g1)) f
 have e:n.step f=(bif (stepN n.S.T.Phase n ((behind f n.S.T.Rows).take 2)).2 then ((stepN n.S.T.Phase n ((behind f n.S.T.Rows).take 2)).1,lastKey f ((behind f n.S.T.Rows).take 2),bif decide (((behind f n.S.T.Rows).length:Int) > 2) then 0 else 1,true) else ((stepN n.S.T.Phase n ((behind f n.S.T.Rows).take 2)).1,f,0,false)):=by rw [NodeV.step,g1,g2]; rfl
 rw [e,← hl]
 clear e hl
 generalize hp:n.S.T.Phase=p at hw
 refine G1 hp ?_
 refine loop_of (σ:=Bool×Nat×NodeV) (fun x=>cond x.1 (⟨[(1,.one (.pv (.string f))),(2,.bp 2 0),(4,.bp 4 0),(8,.bp 8 0),(9,.one (.pv (.string (lastKey f (behind f (n.S.T.Rows.take x.2.1)))))),(10,.one (.pv (.int .i64 (behind f (n.S.T.Rows.take x.2.1)).length))),(11,.one (.pv (.int .i64 x.2.1)))],[(2,[.ro 1 (n.S.D.Secs.map fun y=>[slT false 1 uR y]),.ro 2 (n.S.D.Cache.map (WrV.enc false)),.pv (.int .i64 n.S.D.Fuse),.pv (.bool n.S.D.Down),.ro 7 (n.S.T.Rows.map (RowV.enc false)),.pv (.int .i64 p),.ro 3 (n.S.T.Marks.map MarkV.row),.pv (.int .i64 n.S.Gen),.pv (.int .i64 n.S.Place),.pv (.int .i64 n.Cs)]),(4,[.nils 1,.nils 2,.pv (.int .i64 0),.pv (.bool false),.nils 7,.pv (.int .i64 0),.nils 3,.pv (.int .i64 0),.pv (.int .i64 0),.pv (.int .i64 0)]),(8,[.rf 103 1 [] 1 0 x.2.2.S.D.Secs.length,.rf 103 2 [] 2 0 x.2.2.S.D.Cache.length,.pv (.int .i64 x.2.2.S.D.Fuse),.pv (.bool x.2.2.S.D.Down),.rf 103 5 [] 7 0 x.2.2.S.T.Rows.length,.pv (.int .i64 x.2.2.S.T.Phase),.rf 103 7 [] 3 0 x.2.2.S.T.Marks.length,.pv (.int .i64 x.2.2.S.Gen),.pv (.int .i64 x.2.2.S.Place),.pv (.int .i64 x.2.2.Cs)])],[(0,n.enc false),(1,[sT f]),(103,bT true::x.2.2.S.enc true)]⟩) (⟨[(1,.one (.pv (.string f))),(2,.bp 2 0),(4,.bp 4 0),(8,.bp 8 0),(9,.one (.pv (.string (lastKey f (behind f (n.S.T.Rows.take x.2.1)))))),(10,.one (.pv (.int .i64 (behind f (n.S.T.Rows.take x.2.1)).length))),(11,.one (.pv (.int .i64 x.2.1)))],[(2,[.ro 1 (n.S.D.Secs.map fun y=>[slT false 1 uR y]),.ro 2 (n.S.D.Cache.map (WrV.enc false)),.pv (.int .i64 n.S.D.Fuse),.pv (.bool n.S.D.Down),.ro 7 (n.S.T.Rows.map (RowV.enc false)),.pv (.int .i64 p),.ro 3 (n.S.T.Marks.map MarkV.row),.pv (.int .i64 n.S.Gen),.pv (.int .i64 n.S.Place),.pv (.int .i64 n.Cs)]),(4,[.nils 1,.nils 2,.pv (.int .i64 0),.pv (.bool false),.nils 7,.pv (.int .i64 0),.nils 3,.pv (.int .i64 0),.pv (.int .i64 0),.pv (.int .i64 0)]),(8,[.rf 103 0 [] 1 0 x.2.2.S.D.Secs.length,.rf 103 1 [] 2 0 x.2.2.S.D.Cache.length,.pv (.int .i64 x.2.2.S.D.Fuse),.pv (.bool x.2.2.S.D.Down),.rf 103 4 [] 7 0 x.2.2.S.T.Rows.length,.pv (.int .i64 x.2.2.S.T.Phase),.rf 103 6 [] 3 0 x.2.2.S.T.Marks.length,.pv (.int .i64 x.2.2.S.Gen),.pv (.int .i64 x.2.2.S.Place),.pv (.int .i64 x.2.2.Cs)])],[(0,n.enc false),(1,[sT f]),(103,x.2.2.enc true)]⟩)) (fun x=>x.2.1≤n.S.T.Rows.length∧(behind f (n.S.T.Rows.take x.2.1)).length≤2∧stepN p n (behind f (n.S.T.Rows.take x.2.1))=(x.2.2,true)∧x.2.2.S.ok=true∧x.2.2.S.D.Down=false∧(x.1=false→x.2.2=n)) (fun x=>n.S.T.Rows.length - x.2.1) (false,0,n) ?_ ⟨Nat.zero_le _,Nat.zero_le _,rfl,k1,k2,fun _=>rfl⟩ ?_
 ·simp -implicitDefEqProofs (maxSteps:=1000000) only [go_sem,lastKey,behind,List.take_zero,List.filter_nil,List.getLast?_nil,hp]
  try rfl
 ·rintro ⟨b,i,cur⟩ ⟨hi,h2,hs,c1,c2,hb⟩
  simp only at hi h2 hs c1 c2 hb
  cases b
  ·have hb:=(hb rfl).symm
   subst hb
   cases q:decide ((i:Int) < (n.S.T.Rows.length:Int))&&decide (((behind f (n.S.T.Rows.take i)).length:Int) < 2)
   ·have hx:i=n.S.T.Rows.length∨(behind f (n.S.T.Rows.take i)).length=2:=by simp only [Bool.and_eq_false_iff,decide_eq_false_iff_not] at q; omega
    have et:=behind_take hx h2
    rw [et] at q hs ⊢
    rw [hs]
    generalize hA:lastKey f ((behind f n.S.T.Rows).take 2)=A
    cases q1:decide ((i:Int) < (n.S.T.Rows.length:Int))
    all_goals
     have q2:=q
     rw [q1] at q2
     simp only [Bool.true_and,Bool.false_and] at q2
     try simp -implicitDefEqProofs (maxSteps:=1000000) only [go_sem,q1,q2]
     repeat refine ⟨sc,?_⟩
     try exact sf
    all_goals
     refine last_loop n p n 0 1 4 6 f A (n.enc true) hr1 ?_ ?_
     ·simp -implicitDefEqProofs (maxSteps:=1000000) only [go_sem]
      try rfl
     ·exact F0
   ·rw [Bool.and_eq_true] at q
    obtain ⟨q1,q2⟩:=q
    have k3:i < n.S.T.Rows.length:=by simp only [decide_eq_true_eq] at q1; omega
    have k4:(behind f (n.S.T.Rows.take i)).length < 2:=by simp only [decide_eq_true_eq] at q2; omega
    have ew:IntKind.i64.wrap ((i:Int) + 1)=((i + 1:Nat):Int):=IntWalk.i64_in _ (by omega)
    have es:=behind_step (f:=f) k3
    have hr:=hn.2.1.2 _ (List.getElem_mem k3)
    have gl:=leq_not f n.S.T.Rows[i].Key
    cases g:isBehind f n.S.T.Rows[i].Key
    ·rw [g,cond_false,List.append_nil] at es
     rw [g] at gl
     try simp -implicitDefEqProofs (maxSteps:=1000000) only [go_sem,q1,q2,List.getElem?_eq_getElem k3,gl,ew]
     repeat refine ⟨sc,?_⟩
     try exact sf
     exact ⟨(false,i + 1,n),by rw [es]; rfl,⟨k3,by simp only [es]; omega,by simp only [es]; exact hs,c1,c2,fun _=>rfl⟩,by simp only; omega⟩
    ·rw [g,cond_true] at es
     rw [g] at gl
     have el:(behind f (n.S.T.Rows.take (i + 1))).length=(behind f (n.S.T.Rows.take i)).length + 1:=by rw [es,List.length_append]; rfl
     have ek:lastKey f (behind f (n.S.T.Rows.take (i + 1)))=n.S.T.Rows[i].Key:=by rw [es,lastKey_snoc]
     have e1:stepN p n (behind f (n.S.T.Rows.take (i + 1)))=stepN p n [n.S.T.Rows[i]]:=by rw [es,stepN_app,hs]; rfl
     have ed:IntKind.i64.wrap (((behind f (n.S.T.Rows.take i)).length:Int) + 1)=(((behind f (n.S.T.Rows.take i)).length + 1:Nat):Int):=IntWalk.i64_in _ (by omega)
     refine G4 q1 q2 (List.getElem?_eq_getElem k3) gl ?_
     refine C0 (c_s_l15Turn p n.S.T.Rows[i] hr hw) ?_
     refine C0 (c_s_l12SameRow (turned p n.S.T.Rows[i]) n.S.T.Rows[i]) ?_
     cases g3:rowSame (turned p n.S.T.Rows[i]) n.S.T.Rows[i]
     ·have td:=c_s_l13Add n.S (recRow (turned p n.S.T.Rows[i])) c1 c2 (StoreV.ok_in c1).2 ⟨turned_in hr,Nat.zero_le _⟩
      have ha:=add_ok (recRow (turned p n.S.T.Rows[i])) c1
      refine G1 g3 ?_
      refine C0 (td) ?_
      cases g4:(n.S.add (recRow (turned p n.S.T.Rows[i]))).2
      ·have e3:=step_fail (i:=i + 1) (x:=n.added (recRow (turned p n.S.T.Rows[i]))) (by rw [e1,stepN,g3,g4]; rfl) (by omega)
       rw [e3]
       try simp -implicitDefEqProofs (maxSteps:=1000000) only [go_sem,g4,take_all,take_marks,NodeV.added]
       repeat refine ⟨sc,?_⟩
       try exact sf
       try rfl
      ·have e3:stepN p n (behind f (n.S.T.Rows.take (i + 1)))=(n.added (recRow (turned p n.S.T.Rows[i])),true):=by rw [e1,stepN,g3,g4]; rfl
       refine G3 g4 ed ew ?_
       exact ⟨(true,i + 1,n.added (recRow (turned p n.S.T.Rows[i]))),by simp only [el,ek,NodeV.added]; rfl,⟨k3,by simp only; omega,e3,ha.1,ha.2 g4,fun h=>by cases h⟩,by simp only; omega⟩
     ·have e3:stepN p n (behind f (n.S.T.Rows.take (i + 1)))=(n,true):=by rw [e1,stepN,g3]; rfl
      refine G3 g3 ed ew ?_
      exact ⟨(false,i + 1,n),by simp only [el,ek]; rfl,⟨k3,by simp only; omega,e3,c1,c2,fun _=>rfl⟩,by simp only; omega⟩
  ·cases q:decide ((i:Int) < (n.S.T.Rows.length:Int))&&decide (((behind f (n.S.T.Rows.take i)).length:Int) < 2)
   ·have hx:i=n.S.T.Rows.length∨(behind f (n.S.T.Rows.take i)).length=2:=by simp only [Bool.and_eq_false_iff,decide_eq_false_iff_not] at q; omega
    have et:=behind_take hx h2
    rw [et] at q hs ⊢
    rw [hs]
    generalize hA:lastKey f ((behind f n.S.T.Rows).take 2)=A
    cases q1:decide ((i:Int) < (n.S.T.Rows.length:Int))
    all_goals
     have q2:=q
     rw [q1] at q2
     simp only [Bool.true_and,Bool.false_and] at q2
     try simp -implicitDefEqProofs (maxSteps:=1000000) only [go_sem,q1,q2]
     repeat refine ⟨sc,?_⟩
     try exact sf
    all_goals
     refine last_loop n p cur 1 2 5 7 f A (bT true::cur.S.enc true) hr1 ?_ ?_
     ·simp -implicitDefEqProofs (maxSteps:=1000000) only [go_sem]
      try rfl
     ·exact F0
   ·rw [Bool.and_eq_true] at q
    obtain ⟨q1,q2⟩:=q
    have k3:i < n.S.T.Rows.length:=by simp only [decide_eq_true_eq] at q1; omega
    have k4:(behind f (n.S.T.Rows.take i)).length < 2:=by simp only [decide_eq_true_eq] at q2; omega
    have ew:IntKind.i64.wrap ((i:Int) + 1)=((i + 1:Nat):Int):=IntWalk.i64_in _ (by omega)
    have es:=behind_step (f:=f) k3
    have hr:=hn.2.1.2 _ (List.getElem_mem k3)
    have gl:=leq_not f n.S.T.Rows[i].Key
    cases g:isBehind f n.S.T.Rows[i].Key
    ·rw [g,cond_false,List.append_nil] at es
     rw [g] at gl
     try simp -implicitDefEqProofs (maxSteps:=1000000) only [go_sem,q1,q2,List.getElem?_eq_getElem k3,gl,ew]
     repeat refine ⟨sc,?_⟩
     try exact sf
     exact ⟨(true,i + 1,cur),by rw [es]; rfl,⟨k3,by simp only [es]; omega,by simp only [es]; exact hs,c1,c2,fun h=>by cases h⟩,by simp only; omega⟩
    ·rw [g,cond_true] at es
     rw [g] at gl
     have el:(behind f (n.S.T.Rows.take (i + 1))).length=(behind f (n.S.T.Rows.take i)).length + 1:=by rw [es,List.length_append]; rfl
     have ek:lastKey f (behind f (n.S.T.Rows.take (i + 1)))=n.S.T.Rows[i].Key:=by rw [es,lastKey_snoc]
     have e1:stepN p n (behind f (n.S.T.Rows.take (i + 1)))=stepN p cur [n.S.T.Rows[i]]:=by rw [es,stepN_app,hs]; rfl
     have ed:IntKind.i64.wrap (((behind f (n.S.T.Rows.take i)).length:Int) + 1)=(((behind f (n.S.T.Rows.take i)).length + 1:Nat):Int):=IntWalk.i64_in _ (by omega)
     refine G4 q1 q2 (List.getElem?_eq_getElem k3) gl ?_
     refine C0 (c_s_l15Turn p n.S.T.Rows[i] hr hw) ?_
     refine C0 (c_s_l12SameRow (turned p n.S.T.Rows[i]) n.S.T.Rows[i]) ?_
     cases g3:rowSame (turned p n.S.T.Rows[i]) n.S.T.Rows[i]
     ·have td:=c_s_l13Add cur.S (recRow (turned p n.S.T.Rows[i])) c1 c2 (StoreV.ok_in c1).2 ⟨turned_in hr,Nat.zero_le _⟩
      have ha:=add_ok (recRow (turned p n.S.T.Rows[i])) c1
      refine G1 g3 ?_
      refine C0 (td) ?_
      cases g4:(cur.S.add (recRow (turned p n.S.T.Rows[i]))).2
      ·have e3:=step_fail (i:=i + 1) (x:=cur.added (recRow (turned p n.S.T.Rows[i]))) (by rw [e1,stepN,g3,g4]; rfl) (by omega)
       rw [e3]
       try simp -implicitDefEqProofs (maxSteps:=1000000) only [go_sem,g4,take_all,take_marks,NodeV.added]
       repeat refine ⟨sc,?_⟩
       try exact sf
       try rfl
      ·have e3:stepN p n (behind f (n.S.T.Rows.take (i + 1)))=(cur.added (recRow (turned p n.S.T.Rows[i])),true):=by rw [e1,stepN,g3,g4]; rfl
       refine G3 g4 ed ew ?_
       exact ⟨(true,i + 1,cur.added (recRow (turned p n.S.T.Rows[i]))),by simp only [el,ek,NodeV.added]; rfl,⟨k3,by simp only; omega,e3,ha.1,ha.2 g4,fun h=>by cases h⟩,by simp only; omega⟩
     ·have e3:stepN p n (behind f (n.S.T.Rows.take (i + 1)))=(cur,true):=by rw [e1,stepN,g3]; rfl
      refine G3 g3 ed ew ?_
      exact ⟨(true,i + 1,cur),by simp only [el,ek]; rfl,⟨k3,by simp only; omega,e3,c1,c2,fun h=>by cases h⟩,by simp only; omega⟩
def x_s_l13Lay:FnX:=⟨64,[],
  .q [.m 6 0,.op 7 (.nilc (.t 6)),.f 8 7 4,.L 9 3 8,.c 10 279 [9],.m 4 10]
 (.seq (.q [.i 5 0]
 (.block 0 (.loop [0,1,4,5] (.seq (.q [.m 11 5,.m 12 4,.n 13 12,.b 14 .lss 11 13]
 (.cond 14 .skip (.exit 0)))
 (.seq (.block 1 (.draw [.m 17 0,.op 18 (.nilc (.t 17)),.f 19 18 0,.m 20 1,.m 21 5,.c 22 193 [20,21],.m 23 1,.m 24 5,.m 25 4,.m 26 5,.x 27 13 25 26,.L 28 13 27,.c 29 194 [23,24,28],.op 30 (.call 192 [6,0,0] [(.t 19),(.t 22),(.t 29)])] [[],[0],[1],[],[],[3,4],[],[],[],[],[8,9],[10],[6,7,11,5],[2,5,12,12]]))
 (.reg [.m 15 5,.B 16 .add 15 1,.m 5 16]))))))
 (.norm [0,1,4] (.q [.m 31 0,.op 32 (.nilc (.t 31)),.f 33 32 0,.op 34 (.call 195 [6] [(.t 33)])]
 (.seq (.draw [.m 35 0,.op 36 (.nilc (.t 35)),.f 37 36 0,.m 38 1,.B 39 .rem 38 2,.m 40 1,.m 41 4,.n 42 41,.c 43 280 [40,42],.op 44 (.call 192 [6,0,0] [(.t 37),(.t 39),(.t 43)])] [[],[0],[1],[],[3],[],[],[6],[5,7],[2,4,8,8]])
 (.q [.m 45 0,.op 46 (.nilc (.t 45)),.f 47 46 0,.op 48 (.call 195 [6] [(.t 47)])]
 (.q [.m 49 0,.op 50 (.nilc (.t 49)),.f 51 50 0,.f 52 51 3,.l 53 52,.N 54 53]
 (.c 54 (.q [.m 55 0,.m 56 1,.op 57 (.nilc (.t 55)),.f 58 57 7,.s 100001 1 58 56]
 (.reg [.m 59 0,.m 60 4,.n 61 60,.op 62 (.nilc (.t 59)),.f 63 62 8,.s 100002 1 63 61])))))))))⟩
theorem r_s_l13Lay {Te:TE} (c_s_RecsOf:C_s_RecsOf Te) (c_s_l13At:C_s_l13At Te) (c_s_PutRec:C_s_PutRec Te) (c_s_l10Write:C_s_l10Write Te) (c_s_l10Flush:C_s_l10Flush Te) (c_s_HeadOf:C_s_HeadOf Te):C_s_l13Lay (RF Te x_s_l13Lay):=by
 intro s gen hd ht
 have hL:=ht.len (by decide)
 obtain ⟨hr1,hr2⟩:=recsOf_le ht
 obtain ⟨D0,T0,G0,P0⟩:=s
 simp only at hd ht hL hr1 hr2
 obtain ⟨E0,hE⟩:∃ E0,E0=D0:=⟨_,rfl⟩
 generalize hL0:(StoreV.mk D0 T0 G0 P0).lay gen=L0
 rw [← hE] at hL0
 refine X0 x_s_l13Lay.eq_1 ?_
 refine C0 (c_s_RecsOf T0 hL) ?_
 generalize eR:recsOf T0=R at hr1 hr2
 refine loop_of (σ:=Bool×Nat×DevV) (fun x=>cond x.1 (⟨[(0,.bp 0 0),(1,.one (.pv (.int .i64 gen))),(4,.one (.rf 66 0 [] 13 0 R.length)),(5,.one (.pv (.int .i64 x.2.1)))],[(0,[.rf 67 0 [] 1 0 x.2.2.Secs.length,.rf 67 1 [] 2 0 x.2.2.Cache.length,.pv (.int .i64 x.2.2.Fuse),.pv (.bool x.2.2.Down),.rf 0 4 [] 7 0 T0.Rows.length,.pv (.int .i64 T0.Phase),.rf 0 6 [] 3 0 T0.Marks.length,.pv (.int .i64 G0),.pv (.int .i64 P0)])],[(0,[.no (),.no (),iT D0.Fuse,bT D0.Down,slT true 7 (RowV.enc true) T0.Rows,iT T0.Phase,slT true 3 MarkV.row T0.Marks,iT G0,iT P0]),(1,[iT gen]),(66,[slT true 13 (RecV.enc true) R]),(67,x.2.2.enc true)]⟩) (⟨[(0,.bp 0 0),(1,.one (.pv (.int .i64 gen))),(4,.one (.rf 66 0 [] 13 0 R.length)),(5,.one (.pv (.int .i64 x.2.1)))],[(0,[.rf 0 0 [] 1 0 x.2.2.Secs.length,.rf 0 1 [] 2 0 x.2.2.Cache.length,.pv (.int .i64 x.2.2.Fuse),.pv (.bool x.2.2.Down),.rf 0 4 [] 7 0 T0.Rows.length,.pv (.int .i64 T0.Phase),.rf 0 6 [] 3 0 T0.Marks.length,.pv (.int .i64 G0),.pv (.int .i64 P0)])],[(0,(StoreV.mk D0 T0 G0 P0).enc true),(1,[iT gen]),(66,[slT true 13 (RecV.enc true) R])]⟩)) (fun x=>x.2.1≤R.length∧x.2.2=layN gen R E0 x.2.1∧x.2.2.ok=true∧(x.1=false→x.2.2=D0)) (fun x=>R.length - x.2.1) (false,0,D0) ?_ ⟨Nat.zero_le _,hE.symm,hd,fun _=>rfl⟩ ?_
 ·simp -implicitDefEqProofs (maxSteps:=1000000) only [go_sem]
  try rfl
 ·rintro ⟨b,i,D⟩ ⟨hi,hD,hk,hb⟩
  simp only at hi hD hk hb
  cases b
  all_goals try (have hb:=hb rfl; subst hb)
  all_goals
   have hcl:=(DevV.ok_iff D).1 hk
   cases q:decide ((i:Int) < (R.length:Int))
   ·have k0:i=R.length:=by simp only [decide_eq_false_iff_not] at q; omega
    have e:((D.flush).write (gen.tmod 2) (headOf gen R.length)).flush=layDev gen R E0:=by rw [hD,k0]; rfl
    have hh:=headOf_len gen R.length
    have f1:=flush_ok hk
    have f2:=write_ok f1 (gen.tmod 2) (headOf gen R.length)
    have hcl1:=(DevV.ok_iff _).1 f1
    have hcl2:=(DevV.ok_iff _).1 f2
    refine G1 q ?_
    refine C0 (c_s_l10Flush D (by omega) (DevV.ok_idx hk)) ?_
    refine C0 (c_s_HeadOf _ _) ?_
    refine .of (c_s_l10Write D.flush _ _ (by omega) (by omega)) ?_
    try simp -implicitDefEqProofs (maxSteps:=1000000) only [go_sem,take_all]
    repeat refine ⟨sc,?_⟩
    try exact sf
    refine .of (c_s_l10Flush _ (by omega) (DevV.ok_idx f2)) ?_
    try simp -implicitDefEqProofs (maxSteps:=1000000) only [go_sem,take_all]
    repeat refine ⟨sc,?_⟩
    try exact sf
    rw [e]
    cases g:(layDev gen R E0).Down
    ·have e2:L0=⟨layDev gen R E0,T0,gen,R.length⟩:=by rw [← hL0,← eR]; exact lay_up (by rw [eR]; exact g)
     try simp -implicitDefEqProofs (maxSteps:=1000000) only [go_sem,g,e2,take_all,StoreV.enc]
     repeat refine ⟨sc,?_⟩
     try exact sf
     try rfl
    ·have e2:L0=⟨layDev gen R E0,T0,G0,P0⟩:=by rw [← hL0,← eR]; exact lay_down (by rw [eR]; exact g)
     try simp -implicitDefEqProofs (maxSteps:=1000000) only [go_sem,g,e2,take_all,StoreV.enc]
     repeat refine ⟨sc,?_⟩
     try exact sf
     try rfl
   ·have k1:i < R.length:=by simp only [decide_eq_true_eq] at q; omega
    have hp:=putRec_len gen i R[i]
    have hin:=hr2 _ (List.getElem_mem k1)
    have es:=layN_step gen E0 k1
    rw [← hD] at es
    have eg:(R.map (RecV.enc true)).getD i []=R[i].enc true:=by rw [List.getD_eq_getElem?_getD,List.getElem?_map,List.getElem?_eq_getElem k1]; rfl
    refine G2 q (List.getElem?_eq_getElem k1) ?_
    refine C2 (c_s_l13At _ _) eg (List.getElem?_eq_getElem k1) ?_
    refine C0 (c_s_PutRec _ _ R[i] hin) ?_
    refine .of (c_s_l10Write D _ _ (by omega) (by omega)) ?_
    try simp -implicitDefEqProofs (maxSteps:=1000000) only [go_sem,take_all]
    repeat refine ⟨sc,?_⟩
    try exact sf
    refine ⟨(true,i + 1,D.write (secOf gen i) (putRec gen i R[i])),?_,⟨k1,es,write_ok hk _ _,fun h=>by cases h⟩,by simp only; omega⟩
    rw [IntWalk.i64_in _ (by omega)]
    rfl
def x_i_Format:FnX:=⟨10,[.cell 0 (some 9)],
  .q [.op 0 (.alloc [.nils 1,.nils 2,.i 0,.F,.nils 7,.i 0,.nils 3,.i 0,.i 0])]
 (.q [.op 2 (.build [.nils 7,.i 0,.nils 3] []),.c 3 207 [2],.m 1 3]
 (.q [.op 4 (.call 209 [0] [(.i 62)]),.m 5 1,.op 6 (.call 208 [0,0,0] [(.t 4),(.i 1),(.t 5)]),.m 7 1,.n 8 7,.op 9 (.build [.nils 1,.nils 2,.i 0,.F,.nils 7,.i 0,.nils 3,.i 0,.i 0] [(0,4,(.t 6)),(7,1,(.i 1)),(8,1,(.t 8))]),.s 100001 9 0 9]
 .ret))⟩
theorem r_i_Format {Te:TE} (c_i_RecsOf:C_i_RecsOf Te) (c_i_DevNew:C_i_DevNew Te) (c_i_laid:C_i_laid Te):C_i_Format (RF Te x_i_Format):=by
 have hr:([recPhase 0]:List RecV).length≤2 ^ 30∧∀ r∈([recPhase 0]:List RecV),r.In (2 ^ 48):=recsOf_le (TabV.zero_in _)
 have t1:=c_i_RecsOf TabV.zero ((TabV.zero_in (2 ^ 20)).len (by decide))
 rw [recsOf_zero] at t1
 have e:=fmt_eq
 have h1:(([recPhase 0]:List RecV).length:Int)=1:=rfl
 generalize [recPhase 0]=R at hr t1 e h1
 refine X0 x_i_Format.eq_1 ?_
 refine C0 (t1) ?_
 refine C0 (c_i_DevNew 62) ?_
 refine .of (c_i_laid (devNew 62) 1 R devNew_ok hr) ?_
 try simp -implicitDefEqProofs (maxSteps:=1000000) only [go_sem,take_all,e,h1,StoreV.enc]
 repeat refine ⟨sc,?_⟩
 try exact sf
 try rfl
def x_s_Format:FnX:=⟨7,[.cell 0 (some 9)],
  .q [.op 0 (.alloc [.nils 1,.nils 2,.i 0,.F,.nils 7,.i 0,.nils 3,.i 0,.i 0])]
 (.q [.op 2 (.call 210 [0] [(.i 62)]),.op 3 (.build [.nils 7,.i 0,.nils 3] []),.op 4 (.build [.nils 1,.nils 2,.i 0,.F,.nils 7,.i 0,.nils 3,.i 0,.i 0] [(0,4,(.t 2)),(4,3,(.t 3))]),.op 1 (.alloc [.nils 1,.nils 2,.i 0,.F,.nils 7,.i 0,.nils 3,.i 0,.i 0]),.s 100001 9 1 4]
 (.q [.op 5 (.call 191 [11,0] [(.t 1),(.i 1)])]
 (.q [.L 6 9 1,.s 100002 9 0 6]
 .ret)))⟩
theorem r_s_Format {Te:TE} (c_s_DevNew:C_s_DevNew Te) (c_s_l13Lay:C_s_l13Lay Te):C_s_Format (RF Te x_s_Format):=by
 refine X0 x_s_Format.eq_1 ?_
 refine C0 (c_s_DevNew 62) ?_
 exact D0 (c_s_l13Lay (StoreV.mk (devNew 62) TabV.zero 0 0) 1 devNew_ok (TabV.zero_in _))
def x_i_sectorOf:FnX:=⟨11,[.tmp 4],
  .q [.i 4 0]
 (.q [.m 5 0,.B 6 .rem 5 2,.op 7 (.bin .mul (.i 30) (.t 6)),.op 8 (.bin .add (.i 2) (.t 7)),.m 9 1,.b 10 .add 8 9,.m 4 10]
 .ret)⟩
theorem r_i_sectorOf {Te:TE}:C_i_sectorOf (RF Te x_i_sectorOf):=by
 intro gen place
 refine X0 x_i_sectorOf.eq_1 ?_
 try rfl
def x_s_l13At:FnX:=⟨11,[.tmp 4],
  .q [.i 4 0]
 (.q [.m 5 0,.B 6 .rem 5 2,.op 7 (.bin .mul (.i 30) (.t 6)),.op 8 (.bin .add (.i 2) (.t 7)),.m 9 1,.b 10 .add 8 9,.m 4 10]
 .ret)⟩
theorem r_s_l13At {Te:TE}:C_s_l13At (RF Te x_s_l13At):=by
 intro gen place
 refine X0 x_s_l13At.eq_1 ?_
 try rfl
def x_i_laid:FnX:=⟨38,[.cell 6 (some 4)],
  .q [.v 3 0,.op 6 (.alloc [.nils 1,.nils 2,.i 0,.F])]
 (.seq (.q [.m 9 2,.n 10 9,.i 11 0]
 (.block 0 (.loop [1,2,3,6,9,10,11] (.q [.b 12 .lss 11 10]
 (.seq (.cond 12 .skip (.exit 0))
 (.seq (.block 1 (.q [.m 13 11,.x 14 13 9 11,.L 15 13 14,.op 8 (.alloc [.i 0,.e,.i 0,.nils 1,.i 0,.nils 1,.i 0,.F,.e,.i 0,.i 0,.i 0,.i 0]),.m 7 13,.s 100001 13 8 15]
 (.draw [.L 16 4 3,.m 17 1,.m 18 7,.c 19 258 [17,18],.m 20 1,.m 21 7,.L 22 13 8,.c 23 259 [20,21,22],.c 24 257 [16,19,23],.s 100002 4 3 24] [[],[],[],[1,2],[],[],[],[4,5,6,3],[0,3,7,7],[8,8,0,1,2,3,4,5,6,7,8]])))
 (.reg [.B 25 .add 11 1,.m 11 25])))))))
 (.norm [1,2,3,6] (.q [.L 26 4 3,.c 27 260 [26],.s 100003 4 3 27]
 (.seq (.draw [.L 28 4 3,.m 29 1,.B 30 .rem 29 2,.m 31 1,.m 32 2,.n 33 32,.c 34 293 [31,33],.c 35 257 [28,30,34],.s 100004 4 3 35] [[],[],[1],[],[],[4],[3,5],[0,2,6,6],[7,7,0,1,2,3,4,5,6,7]])
 (.q [.L 36 4 3,.c 37 260 [36],.s 100005 4 6 37]
 .ret)))))⟩
theorem r_i_laid {Te:TE} (c_i_sectorOf:C_i_sectorOf Te) (c_i_PutRec:C_i_PutRec Te) (c_i_WriteSec:C_i_WriteSec Te) (c_i_FlushDev:C_i_FlushDev Te) (c_i_HeadOf:C_i_HeadOf Te):C_i_laid (RF Te x_i_laid):=by
 intro d gen recs hd hr
 have hrl:=hr.1
 refine X0 x_i_laid.eq_1 ?_
 refine loop_of (σ:=Bool×Nat×DevV) (fun x=>cond x.1 (⟨[(1,.one (.pv (.int .i64 gen))),(2,.one (.ro 13 (recs.map (RecV.enc false)))),(3,.bp 3 0),(6,.bp 6 0),(9,.one (.ro 13 (recs.map (RecV.enc false)))),(10,.one (.pv (.int .i64 recs.length))),(11,.one (.pv (.int .i64 x.2.1)))],[(3,[.rf 41 0 [] 1 0 x.2.2.Secs.length,.rf 41 1 [] 2 0 x.2.2.Cache.length,.pv (.int .i64 x.2.2.Fuse),.pv (.bool x.2.2.Down)]),(6,[.nils 1,.nils 2,.pv (.int .i64 0),.pv (.bool false)])],[(0,d.enc false),(1,[iT gen]),(2,[slT false 13 (RecV.enc false) recs]),(41,x.2.2.enc true)]⟩) (⟨[(1,.one (.pv (.int .i64 gen))),(2,.one (.ro 13 (recs.map (RecV.enc false)))),(3,.bp 3 0),(6,.bp 6 0),(9,.one (.ro 13 (recs.map (RecV.enc false)))),(10,.one (.pv (.int .i64 recs.length))),(11,.one (.pv (.int .i64 x.2.1)))],[(3,[.ro 1 (x.2.2.Secs.map (secR false)),.ro 2 (x.2.2.Cache.map (WrV.enc false)),.pv (.int .i64 x.2.2.Fuse),.pv (.bool x.2.2.Down)]),(6,[.nils 1,.nils 2,.pv (.int .i64 0),.pv (.bool false)])],[(0,d.enc false),(1,[iT gen]),(2,[slT false 13 (RecV.enc false) recs])]⟩)) (fun x=>x.2.1≤recs.length∧x.2.2=layN gen recs d x.2.1∧x.2.2.ok=true∧(x.1=false→x.2.1=0)) (fun x=>recs.length - x.2.1) (false,0,d) ?_ ⟨Nat.zero_le _,rfl,hd,fun _=>rfl⟩ ?_
 ·simp -implicitDefEqProofs (maxSteps:=1000000) only [go_sem]
  try rfl
 ·rintro ⟨b,i,D⟩ ⟨hi,hD,hk,hb⟩
  simp only at hi hD hk hb
  cases b
  ·cases q:decide ((i:Int) < (recs.length:Int))
   ·skip
    have k0:i=recs.length:=by simp only [decide_eq_false_iff_not] at q; omega
    have e:((D.flush).write (gen.tmod 2) (headOf gen recs.length)).flush=layDev gen recs d:=by rw [hD,k0]; rfl
    have hh:=headOf_len gen recs.length
    have f1:=flush_ok hk
    have f2:=write_ok f1 (gen.tmod 2) (headOf gen recs.length)
    refine G1 q ?_
    refine C0 (c_i_FlushDev D hk) ?_
    refine C0 (c_i_HeadOf _ _) ?_
    refine .of (c_i_WriteSec D.flush _ _ f1 (by omega)) ?_
    try simp -implicitDefEqProofs (maxSteps:=1000000) only [go_sem,take_all]
    repeat refine ⟨sc,?_⟩
    try exact sf
    refine .of (c_i_FlushDev _ f2) ?_
    try simp -implicitDefEqProofs (maxSteps:=1000000) only [go_sem,take_all,e,DevV.enc]
    repeat refine ⟨sc,?_⟩
    try exact sf
    try rfl
   ·skip
    have k1:i < recs.length:=by simp only [decide_eq_true_eq] at q; omega
    have hp:=putRec_len gen i recs[i]
    have hin:=hr.2 _ (List.getElem_mem k1)
    have es:=layN_step gen d k1
    rw [← hD] at es
    refine G2 q (List.getElem?_eq_getElem k1) ?_
    refine C0 (c_i_sectorOf _ _) ?_
    refine C0 (c_i_PutRec _ _ recs[i] hin) ?_
    refine .of (c_i_WriteSec D _ _ hk (by omega)) ?_
    try simp -implicitDefEqProofs (maxSteps:=1000000) only [go_sem,take_all]
    repeat refine ⟨sc,?_⟩
    try exact sf
    refine ⟨(true,i + 1,D.write (secOf gen i) (putRec gen i recs[i])),?_,⟨k1,es,write_ok hk _ _,fun h=>by cases h⟩,by simp only; omega⟩
    rw [IntWalk.i64_in _ (by omega)]
    rfl
  ·cases q:decide ((i:Int) < (recs.length:Int))
   ·skip
    have k0:i=recs.length:=by simp only [decide_eq_false_iff_not] at q; omega
    have e:((D.flush).write (gen.tmod 2) (headOf gen recs.length)).flush=layDev gen recs d:=by rw [hD,k0]; rfl
    have hh:=headOf_len gen recs.length
    have f1:=flush_ok hk
    have f2:=write_ok f1 (gen.tmod 2) (headOf gen recs.length)
    refine G1 q ?_
    refine C0 (c_i_FlushDev D hk) ?_
    refine C0 (c_i_HeadOf _ _) ?_
    refine .of (c_i_WriteSec D.flush _ _ f1 (by omega)) ?_
    try simp -implicitDefEqProofs (maxSteps:=1000000) only [go_sem,take_all]
    repeat refine ⟨sc,?_⟩
    try exact sf
    refine .of (c_i_FlushDev _ f2) ?_
    try simp -implicitDefEqProofs (maxSteps:=1000000) only [go_sem,take_all,e,DevV.enc]
    repeat refine ⟨sc,?_⟩
    try exact sf
    try rfl
   ·skip
    have k1:i < recs.length:=by simp only [decide_eq_true_eq] at q; omega
    have hp:=putRec_len gen i recs[i]
    have hin:=hr.2 _ (List.getElem_mem k1)
    have es:=layN_step gen d k1
    rw [← hD] at es
    refine G2 q (List.getElem?_eq_getElem k1) ?_
    refine C0 (c_i_sectorOf _ _) ?_
    refine C0 (c_i_PutRec _ _ recs[i] hin) ?_
    refine .of (c_i_WriteSec D _ _ hk (by omega)) ?_
    try simp -implicitDefEqProofs (maxSteps:=1000000) only [go_sem,take_all]
    repeat refine ⟨sc,?_⟩
    try exact sf
    refine ⟨(true,i + 1,D.write (secOf gen i) (putRec gen i recs[i])),?_,⟨k1,es,write_ok hk _ _,fun h=>by cases h⟩,by simp only; omega⟩
    rw [IntWalk.i64_in _ (by omega)]
    rfl
def x_i_Lay:FnX:=⟨44,[.cell 2 (some 9)],
  .q [.v 1 0,.op 2 (.alloc [.nils 1,.nils 2,.i 0,.F,.nils 7,.i 0,.nils 3,.i 0,.i 0])]
 (.q [.L 5 9 1,.c 6 158 [5],.op 3 (.alloc [.nils 1,.nils 2,.i 0,.F,.nils 7,.i 0,.nils 3,.i 0,.i 0]),.s 100001 9 3 6]
 (.seq (.q [.L 7 9 1,.c 8 89 [7],.N 9 8,.m 10 9,.z 10 (.f 11 1 0),.z 10 (.f 12 11 3),.z 10 (.l 13 12),.r 14 10 13,.m 15 14,.z 15 (.f 16 1 7),.z 15 (.l 17 16),.z 15 (.B 18 .eql 17 60000),.r 19 15 18]
 (.c 19 (.q [.L 20 9 3,.s 100002 9 2 20]
 .ret)))
 (.q [.f 21 1 4,.L 22 3 21,.c 23 207 [22],.m 4 23]
 (.q [.f 24 1 0,.L 25 4 24,.f 26 1 7,.l 27 26,.B 28 .add 27 1,.m 29 4,.c 30 208 [25,28,29],.f 31 3 0,.s 100003 4 31 30]
 (.seq (.q [.f 32 3 0,.f 33 32 3,.l 34 33,.N 35 34]
 (.c 35 (.reg [.f 36 1 7,.l 37 36,.B 38 .add 37 1,.m 39 4,.n 40 39,.f 41 3 7,.s 100004 1 41 38,.f 42 3 8,.s 100005 1 42 40])))
 (.q [.L 43 9 3,.s 100006 9 2 43]
 .ret))))))⟩
theorem r_i_Lay {Te:TE} (c_i_copyStore:C_i_copyStore Te) (c_i_StoreOk:C_i_StoreOk Te) (c_i_RecsOf:C_i_RecsOf Te) (c_i_laid:C_i_laid Te):C_i_Lay (RF Te x_i_Lay):=by
 intro s h
 have hL:=h.len (by decide)
 have hLT:=h.2.len (by decide)
 obtain ⟨hr1,hr2⟩:=recsOf_le h.2
 refine X0 x_i_Lay.eq_1 ?_
 refine C0 (c_i_copyStore s hL) ?_
 refine C0 (c_i_StoreOk s (h.mono (by decide))) ?_
 cases g1:s.ok
 ·have e:s.relay=s:=by rw [StoreV.relay,g1]; rfl
  try simp -implicitDefEqProofs (maxSteps:=1000000) only [go_sem,e,take_all,take_marks,StoreV.enc]
  repeat refine ⟨sc,?_⟩
  try exact sf
  try rfl
 obtain ⟨hk,_,_,_,hg,_⟩:=(StoreV.ok_iff s).1 g1
 cases g2:s.D.Down
 rotate_left
 ·have e:s.relay=s:=by rw [StoreV.relay,g1,g2]; rfl
  try simp -implicitDefEqProofs (maxSteps:=1000000) only [go_sem,g2,e,take_all,take_marks,StoreV.enc]
  repeat refine ⟨sc,?_⟩
  try exact sf
  try rfl
 cases g3:(s.Gen==60000)
 rotate_left
 ·have e:s.relay=s:=by rw [StoreV.relay,g1,g2,g3]; rfl
  try simp -implicitDefEqProofs (maxSteps:=1000000) only [go_sem,g2,g3,e,take_all,take_marks,StoreV.enc]
  repeat refine ⟨sc,?_⟩
  try exact sf
  try rfl
 have e:s.relay=s.lay (s.Gen + 1):=by rw [StoreV.relay,g1,g2,g3]; rfl
 have ew:IntKind.i64.wrap (s.Gen + 1)=s.Gen + 1:=IntWalk.i64_in _ (by omega)
 refine G2 g2 g3 ?_
 refine C0 (c_i_RecsOf s.T hLT) ?_
 have tl:=c_i_laid s.D (s.Gen + 1) (recsOf s.T) hk ⟨hr1,hr2⟩
 simp only [DevV.enc,g2] at tl
 refine G1 ew ?_
 refine C0 (tl) ?_
 cases g4:(layDev (s.Gen + 1) (recsOf s.T) s.D).Down
 ·have e2:=lay_up (s:=s) (gen:=s.Gen + 1) g4
  try simp -implicitDefEqProofs (maxSteps:=1000000) only [go_sem,g4,e,e2,ew,take_all,take_marks,StoreV.enc]
  repeat refine ⟨sc,?_⟩
  try exact sf
  try rfl
 ·have e2:=lay_down (s:=s) (gen:=s.Gen + 1) g4
  try simp -implicitDefEqProofs (maxSteps:=1000000) only [go_sem,g4,e,e2,ew,g2,take_all,take_marks,StoreV.enc]
  repeat refine ⟨sc,?_⟩
  try exact sf
  try rfl
def x_s_DevOk:FnX:=⟨63,[.tmp 2],
  .q [.v 1 0,.F 2]
 (.seq (.q [.i 3 0]
 (.block 0 (.loop [1,3] (.seq (.q [.m 5 3,.f 6 1 0,.l 7 6,.n 8 7,.b 9 .lss 5 8]
 (.cond 9 .skip (.exit 0)))
 (.seq (.block 1 (.q [.f 12 1 0,.l 13 12,.m 14 3,.x 15 1 13 14,.l 16 15,.n 17 16,.B 18 .gtr 17 120]
 (.c 18 (.q [.F 2]
 .ret))))
 (.reg [.m 10 3,.B 11 .add 10 1,.m 3 11]))))))
 (.norm [1] (.seq (.q [.i 4 0]
 (.block 2 (.loop [1,4] (.seq (.q [.m 19 4,.f 20 1 1,.l 21 20,.n 22 21,.b 23 .lss 19 22]
 (.cond 23 .skip (.exit 2)))
 (.seq (.block 3 (.seq (.draw [.f 26 1 1,.l 27 26,.m 28 4,.x 29 2 27 28,.f 30 29 0,.l 31 30,.f 32 1 0,.l 33 32,.n 34 33,.B 35 .sub 34 1,.op 36 (.call 120 [0,0,0] [(.t 31),(.i 0),(.t 35)]),.N 37 36,.m 38 37,.z 38 (.f 39 1 1),.z 38 (.l 40 39),.z 38 (.m 41 4),.z 38 (.x 42 2 40 41),.z 38 (.f 43 42 1),.z 38 (.l 44 43),.z 38 (.n 45 44),.z 38 (.B 46 .gtr 45 120),.r 47 38 46] [[],[0],[],[1,2],[3],[4],[],[6],[7],[8],[5,9],[10],[11,10],[12],[13,12],[12],[14,15,12],[16,12],[17,12],[18,12],[19,12],[12,20]])
 (.c 47 (.q [.F 2]
 .ret))))
 (.reg [.m 24 4,.B 25 .add 24 1,.m 4 25]))))))
 (.norm [1] (.q [.f 48 1 0,.l 49 48,.n 50 49,.op 51 (.call 120 [0,0,0] [(.t 50),(.i 1),(.i 64)]),.m 52 51,.y 52 (.f 53 1 1),.y 52 (.l 54 53),.y 52 (.n 55 54),.y 52 (.B 56 .leq 55 40),.a 57 52 56,.m 58 57,.y 58 (.f 59 1 2),.y 58 (.l 60 59),.y 58 (.op 61 (.call 120 [0,0,0] [(.t 60),(.i (-1)),(.i 1000)])),.a 62 58 61,.m 2 62]
 .ret)))))⟩
theorem r_s_DevOk {Te:TE} (c_s_l1In:C_s_l1In Te):C_s_DevOk (RF Te x_s_DevOk):=by
 intro d h
 obtain ⟨⟨hl,hS⟩,hl2,hC⟩:=h
 have ws:IntKind.i64.wrap ((d.Secs.length:Int) - 1)=(d.Secs.length:Int) - 1:=IntWalk.i64_in _ (by omega)
 refine X0 x_s_DevOk.eq_1 ?_
 refine loop_of (σ:=Nat) (fun i=>⟨[(1,.bp 1 0),(3,.one (.pv (.int .i64 i)))],[(1,[.ro 1 (d.Secs.map (fun y=>[slT false 1 uR y])),.ro 2 (d.Cache.map (WrV.enc false)),.pv (.int .i64 d.Fuse),.pv (.bool d.Down)])],[(0,d.enc false)]⟩) (fun i=>i≤d.Secs.length∧(d.Secs.take i).all (secGood)=true) (fun i=>d.Secs.length - i) 0 ?_ ⟨Nat.zero_le _,rfl⟩ ?_
 ·simp -implicitDefEqProofs (maxSteps:=1000000) only [go_sem]
  try rfl
 ·rintro i ⟨hi,hp⟩
  cases q:decide ((i:Int) < (d.Secs.length:Int))
  ·have eS:=all_end (p:=secGood) (show d.Secs.length≤i by simp only [decide_eq_false_iff_not] at q; omega) hp
   refine G1 q ?_
   refine loop_of (σ:=Nat) (fun i=>⟨[(1,.bp 1 0),(4,.one (.pv (.int .i64 i)))],[(1,[.ro 1 (d.Secs.map (fun y=>[slT false 1 uR y])),.ro 2 (d.Cache.map (WrV.enc false)),.pv (.int .i64 d.Fuse),.pv (.bool d.Down)])],[(0,d.enc false)]⟩) (fun i=>i≤d.Cache.length∧(d.Cache.take i).all (wrGood d.Secs.length)=true) (fun i=>d.Cache.length - i) 0 ?_ ⟨Nat.zero_le _,rfl⟩ ?_
   ·simp -implicitDefEqProofs (maxSteps:=1000000) only [go_sem]
    try rfl
   ·rintro i ⟨hi,hp⟩
    cases q:decide ((i:Int) < (d.Cache.length:Int))
    ·have eC:=all_end (p:=wrGood d.Secs.length) (show d.Cache.length≤i by simp only [decide_eq_false_iff_not] at q; omega) hp
     refine G1 q ?_
     refine C0 (c_s_l1In _ _ _) ?_
     cases g1:win (d.Secs.length:Int) 1 64
     ·have e:d.ok=false:=by simp only [DevV.ok,g1,Bool.false_and]
      exact F1 e
     refine G0 ?_
     cases g2:decide ((d.Cache.length:Int)≤40)
     ·have e:d.ok=false:=by simp only [DevV.ok,g2,Bool.and_false,Bool.false_and]
      exact F2 g2 e
     refine G1 g2 ?_
     have e:d.ok=win d.Fuse (-1) 1000:=by simp only [DevV.ok,g1,g2,eS,eC,Bool.and_true,Bool.true_and]
     exact D1 (c_s_l1In _ _ _) e
    ·have k1:i < d.Cache.length:=by simp only [decide_eq_true_eq] at q; omega
     refine G3 q (List.getElem?_eq_getElem k1) ws ?_
     refine C0 (c_s_l1In _ _ _) ?_
     cases g:win d.Cache[i].N 0 ((d.Secs.length:Int) - 1)
     ·have gg:wrGood d.Secs.length d.Cache[i]=false:=by simp only [wrGood,g,Bool.false_and]
      have e:d.ok=false:=by simp only [DevV.ok,all_not (p:=wrGood d.Secs.length) k1 gg,Bool.and_false]
      exact F1 e
     ·cases g2:decide ((d.Cache[i].B.length:Int) > 120)
      ·refine G2 g2 (List.getElem?_eq_getElem k1) ?_
       exact ⟨i + 1,by rw [IntWalk.i64_in _ (by omega)]; rfl,⟨k1,all_step (p:=wrGood d.Secs.length) k1 hp (by simp only [wrGood,g,g2,Bool.not_false,Bool.and_true])⟩,by omega⟩
      ·have gg:wrGood d.Secs.length d.Cache[i]=false:=by simp only [wrGood,g2,Bool.not_true,Bool.and_false]
       have e:d.ok=false:=by simp only [DevV.ok,all_not (p:=wrGood d.Secs.length) k1 gg,Bool.and_false]
       exact F3 g2 (List.getElem?_eq_getElem k1) e
  ·have k1:i < d.Secs.length:=by simp only [decide_eq_true_eq] at q; omega
   cases g:decide ((d.Secs[i].length:Int) > 120)
   ·refine G3 q (List.getElem?_eq_getElem k1) g ?_
    exact ⟨i + 1,by rw [IntWalk.i64_in _ (by omega)]; rfl,⟨k1,all_step (p:=secGood) k1 hp (by simp only [secGood,g,Bool.not_false])⟩,by omega⟩
   ·have gg:secGood d.Secs[i]=false:=by simp only [secGood,g,Bool.not_true]
    have e:d.ok=false:=by simp only [DevV.ok,all_not (p:=secGood) k1 gg,Bool.and_false,Bool.false_and]
    exact F4 q (List.getElem?_eq_getElem k1) g e
def x_z_DeleteFuncimplApply1:FnX:=⟨42,[.tmp 4],
  .q [.op 4 (.mv (.k (.one (.nils 7))))]
 (.q [.m 8 0,.m 9 1,.op 10 (.vcall 175 309 [0,15] [(.t 8)] (.t 9)),.m 5 10]
 (.seq (.q [.m 11 5,.B 12 .eql 11 (-1)]
 (.c 12 (.q [.m 13 0,.m 4 13]
 .ret)))
 (.seq (.q [.m 14 5,.B 15 .add 14 1,.m 6 15]
 (.block 0 (.loop [0,1,5,6] (.seq (.q [.m 16 6,.m 17 0,.n 18 17,.b 19 .lss 16 18]
 (.cond 19 .skip (.exit 0)))
 (.seq (.block 1 (.q [.m 22 0,.m 23 6,.x 24 7 22 23,.L 25 7 24,.op 7 (.alloc [.e,.i 0,.nils 1,.i 0,.nils 1,.i 0,.F]),.s 100001 7 7 25]
 (.q [.m 26 1,.L 27 7 7,.op 28 (.dcall 309 [0,15] [(.t 27)] (.t 26)),.N 29 28]
 (.c 29 (.q [.m 30 0,.m 31 5,.L 32 7 7,.x 33 7 30 31,.s 100002 7 33 32]
 (.reg [.m 34 5,.B 35 .add 34 1,.m 5 35]))))))
 (.reg [.m 20 6,.B 21 .add 20 1,.m 6 21]))))))
 (.norm [0,5] (.q [.m 36 0,.m 37 5,.op 38 (.slice 7 (.t 36) (some (.t 37)) none),⟨none,none,100003,.clear 7 [.pv (.string ⟨#[]⟩),.pv (.int .i64 0),.sl true 1 () [],.pv (.int .i64 0),.sl true 1 () [],.pv (.int .i64 0),.pv (.bool false)] (.t 38)⟩]
 (.q [.m 39 0,.m 40 5,.op 41 (.slice 7 (.t 39) none (some (.t 40))),.m 4 41]
 .ret))))))⟩
theorem r_z_DeleteFuncimplApply1 {Te:TE} (c_z_IndexFuncimplApply1:C_z_IndexFuncimplApply1 Te) (c_i_Apply1:C_i_Apply1 Te):C_z_DeleteFuncimplApply1 (RFV Te 309 x_z_DeleteFuncimplApply1):=by
 intro l r hl
 refine run0V ?_
 simp -implicitDefEqProofs (maxSteps:=1000000) only [x_z_DeleteFuncimplApply1,go_sem]
 repeat refine ⟨sc,?_⟩
 try exact sf
 refine C0 (c_z_IndexFuncimplApply1 l r (by omega)) ?_
 rcases rowAt_cases l r.Key with ⟨e1,e2⟩ | ⟨hk,e1,e2⟩
 ·have e:=delRows_none e1
  exact F2 e1 e
 have c1:((rowIx l r.Key:Int) == -1)=false:=by simp only [beq_eq_false_iff_ne]; omega
 have d1:=delRows_take hk
 refine G2 e1 c1 ?_
 refine loop_of (σ:=Nat×List RowV×List (List T)) (fun x=>⟨[(0,.one (.rf 0 0 [] 7 0 l.length)),(1,.fn 309 1 0),(5,.one (.pv (.int .i64 x.2.1.length))),(6,.one (.pv (.int .i64 x.1)))],[(1,[.pv (.int .i64 r.Kind),.pv (.string r.R.Key),.pv (.int .i64 r.R.Old.Tag),.dead,.pv (.int .i64 r.R.New.Tag),.dead,.pv (.int .i64 r.R.Has),.pv (.bool r.R.Aside),.pv (.string r.Key),.pv (.int .i64 r.N),.pv (.int .i64 r.Who),.pv (.int .i64 r.Seq),.pv (.int .i64 r.Code)])],[(0,[Tr.sl true 7 () (delSt l x.2.1 x.2.2 x.1)]),(1,r.dim)]⟩) (fun x=>x.1≤l.length∧x.2.1=delRows (l.take x.1) r.Key∧x.2.1.length + x.2.2.length=x.1∧x.2.2≠[]∧∀ y∈x.2.2,y.length=7) (fun x=>l.length - x.1) (rowIx l r.Key + 1,l.take (rowIx l r.Key),[l[rowIx l r.Key].enc true]) ?_ ⟨hk,d1.symm,by simp only [List.length_take,List.length_cons,List.length_nil]; omega,by simp,fun y hy=>by simp only [List.mem_cons,List.not_mem_nil,or_false] at hy; rw [hy]; rfl⟩ ?_
 ·have e3:delSt l (l.take (rowIx l r.Key)) [l[rowIx l r.Key].enc true] (rowIx l r.Key + 1)=l.map (RowV.enc true):=by
   simp only [delSt]
   rw [List.append_assoc,show ([l[rowIx l r.Key].enc true]++(l.drop (rowIx l r.Key + 1)).map (RowV.enc true))=(l.drop (rowIx l r.Key)).map (RowV.enc true) by rw [List.drop_eq_getElem_cons hk,List.map_cons]; rfl,← List.map_append,List.take_append_drop]
  have e4:(l.take (rowIx l r.Key)).length=rowIx l r.Key:=by rw [List.length_take]; omega
  simp -implicitDefEqProofs (maxSteps:=1000000) only [go_sem,e3,e4]
  rw [IntWalk.i64_in _ (by omega)]
  try rfl
 ·rintro ⟨j,k,m⟩ ⟨hj,hk',hm,hne,hm7⟩
  simp only at hj hk' hm hne hm7
  have el:=delSt_len hj hm
  cases q:decide ((j:Int) < (l.length:Int))
  ·have k0:j=l.length:=by simp only [decide_eq_false_iff_not] at q; omega
   subst k0
   rw [List.take_length] at hk'
   refine G2 q el ?_
   have hkl:k.length≤l.length:=by omega
   have eA:List.take k.length (delSt l k m l.length)=k.map (RowV.enc true):=by
    rw [delSt,List.append_assoc]
    exact List.take_left' (by simp)
   refine ⟨decide_eq_true (by simp only [List.length_take,el,List.length_drop]; omega),?_⟩
   rw [eA,Nat.sub_zero,List.append_assoc,List.take_left' (by simp),← hk']
   try rfl
  ·have k1:j < l.length:=by simp only [decide_eq_true_eq] at q; omega
   have eg:=delSt_get k1 hm
   have ed:(delSt l k m j).getD j []=l[j].enc true:=by rw [List.getD_eq_getElem?_getD,eg]; rfl
   refine G4 q eg ed el ?_
   refine C3 (c_i_Apply1 l[j] r) eg ed el ?_
   have st:=delRows_step (key:=r.Key) k1
   rw [← hk'] at st
   cases g:decide (l[j].Key=r.Key)
   ·obtain ⟨x,m',rfl⟩:∃ x m',m=x::m':=by
     cases m with
     | nil=>exact absurd rfl hne
     | cons x m'=>exact ⟨x,m',rfl⟩
    have e5:∀ X:List T,((delSt l k (x::m') j).set j X)[j]?=some X:=fun X=>List.getElem?_set_self (by rw [el]; exact k1)
    have e6:(j==k.length)=false:=by simp only [beq_eq_false_iff_ne]; simp only [List.length_cons] at hm; omega
    have hx7:=hm7 x (List.mem_cons_self ..)
    have e7:∀ X:List T,((delSt l k (x::m') j).set j X).getD k.length []=x:=fun X=>by
     rw [List.getD_eq_getElem?_getD,List.getElem?_set_ne (by simp only [List.length_cons] at hm; omega),← List.getD_eq_getElem?_getD,delSt_row]
    have e8:x.drop 7=[]:=List.drop_of_length_le (by omega)
    have e9:decide (k.length < l.length)=true:=decide_eq_true (by simp only [List.length_cons] at hm; omega)
    have e10:=delSt_move (k:=k) (m:=m') (x:=x) k1 hm
    simp only [goneR] at e10
    try simp -implicitDefEqProofs (maxSteps:=1000000) only [go_sem,g,eg,ed,el,e5,e6,List.set_set,List.length_set,take_rows]
    repeat refine ⟨sc,?_⟩
    try exact sf
    try simp -implicitDefEqProofs (maxSteps:=1000000) only [go_sem,storeAp,setCells,e5,e6,e7,e8,e9,e10,el,List.set_set,List.length_set,take_rows]
    repeat refine ⟨sc,?_⟩
    try exact sf
    refine ⟨(j + 1,k++[l[j]],m'++[goneR l[j]]),?_,⟨k1,by rw [st,g]; rfl,by simp only [List.length_append,List.length_cons,List.length_nil] at hm ⊢; omega,by simp,fun y hy=>by
     rcases List.mem_append.1 hy with hy | hy
     ·exact hm7 y (List.mem_cons_of_mem _ hy)
     ·simp only [List.mem_cons,List.not_mem_nil,or_false] at hy; rw [hy]; rfl⟩,by simp only; omega⟩
    rw [IntWalk.i64_in _ (by omega),IntWalk.i64_in _ (by simp only [List.length_cons] at hm; omega)]
    simp only [List.length_append]
    rfl
   ·refine G1 g ?_
    refine ⟨(j + 1,k,m++[l[j].enc true]),?_,⟨k1,by rw [st,g]; rfl,by simp only [List.length_append,List.length_cons,List.length_nil]; omega,by simp,fun y hy=>by
     rcases List.mem_append.1 hy with hy | hy
     ·exact hm7 y hy
     ·simp only [List.mem_cons,List.not_mem_nil,or_false] at hy; rw [hy]; rfl⟩,by simp only; omega⟩
    rw [IntWalk.i64_in _ (by omega),delSt_skip k1]
    rfl
def x_s_DrawNodeStep:FnX:=⟨14,[.cell 2 (some 10),.tmp 3],
  .q [.op 2 (.alloc [.nils 1,.nils 2,.i 0,.F,.nils 7,.i 0,.nils 3,.i 0,.i 0,.i 0]),.op 3 (.mv (.k (.one (.pv (.string ⟨#[]⟩)))))]
 (.q [.m 6 0,.c 7 58 [6],.m 4 7]
 (.q [.m 8 4,.op 9 (.call 92 [5,0] [(.t 8),(.i 14)]),.op 5 (.alloc [.nils 1,.nils 2,.i 0,.F,.nils 7,.i 0,.nils 3,.i 0,.i 0,.i 0]),.s 100001 10 5 9]
 (.seq (.draw [.L 10 10 5,.m 11 4,.op 12 (.bslice 1 [(.k (.one (.pv (.string ⟨#[]⟩)))),(.k (.one (.pv (.string ⟨#[]⟩)))),(.k (.one (.pv (.string ⟨#[97]⟩)))),(.k (.one (.pv (.string ⟨#[98]⟩)))),(.k (.one (.pv (.string ⟨#[99]⟩)))),(.k (.one (.pv (.string ⟨#[122,122]⟩))))]),.op 13 (.call 114 [5,1] [(.t 11),(.t 12)]),.s 100002 10 2 10,.m 3 13] [[],[],[],[1,2],[0,3,0],[3,4,0,1,2,3,4]])
 .ret)))⟩
theorem r_s_DrawNodeStep {Te:TE} (c_s_l1New:C_s_l1New Te) (c_s_l15Any:C_s_l15Any Te) (c_s_l1Str:C_s_l1Str Te):∀ (l:List UInt8) (hl:l.length≤2 ^ 31),∃ r0,(∃ (n:NodeV) (f:ByteArray),(n.In (2 ^ 20))∧r0=(⟨[.agg (n.enc true),.one (sT f)],[[slT false 1 uR l]]⟩:Res))∧RunFn Te x_s_DrawNodeStep [.one (slT false 1 uR l)] r0:=by
 intro l hl
 refine some_of (Nat.le_of_ble_eq_true rfl) (by rfl) ?_
 simp -implicitDefEqProofs (maxSteps:=1000000) only [x_s_DrawNodeStep,go_sem]
 repeat refine ⟨sc,?_⟩
 try exact sf
 obtain ⟨c,hc,ht⟩:=c_s_l1New l hl
 refine C0 (ht) ?_
 obtain ⟨n,d,⟨⟨hn,_⟩,hd⟩,ht⟩:=c_s_l15Any c 14 hc (by decide)
 refine C0 (ht) ?_
 obtain ⟨f,d,⟨_,hd⟩,ht⟩:=c_s_l1Str d [⟨#[]⟩,⟨#[]⟩,⟨#[97]⟩,⟨#[98]⟩,⟨#[99]⟩,⟨#[122,122]⟩] hd (by decide)
 refine C0 (ht) ?_
 exact ⟨n,f,hn,rfl⟩
def x_s_NodePhase:FnX:=⟨30,[.cell 4 (some 10),.tmp 5],
  .q [.v 2 0,.op 4 (.alloc [.nils 1,.nils 2,.i 0,.F,.nils 7,.i 0,.nils 3,.i 0,.i 0,.i 0]),.F 5]
 (.q [.L 7 10 2,.c 8 65 [7],.op 6 (.alloc [.nils 1,.nils 2,.i 0,.F,.nils 7,.i 0,.nils 3,.i 0,.i 0,.i 0]),.s 100001 10 6 8]
 (.seq (.q [.L 9 10 2,.c 10 64 [9],.N 11 10]
 (.c 11 (.q [.L 12 10 6,.s 100002 10 4 12,.F 5]
 .ret)))
 (.seq (.q [.f 13 2 0,.f 14 13 4,.f 15 14 1,.l 16 15,.m 17 1,.c 18 113 [16,17]]
 (.c 18 (.reg [.f 19 6 0,.m 20 1,.op 21 (.build [.i 0,.e,.i 0,.nils 1,.i 0,.nils 1,.i 0,.F,.e,.i 0,.i 0,.i 0,.i 0] [(0,1,(.i 3)),(9,1,(.t 20))]),.op 22 (.call 103 [11,0] [(.t 19),(.t 21)])])))
 (.seq (.draw [.L 23 10 6,.f 24 6 0,.f 25 24 4,.f 26 25 1,.l 27 26,.m 28 1,.b 29 .eql 27 28,.s 100003 10 4 23,.m 5 29] [[],[],[1],[2],[3],[],[4,5],[0,0],[6,7,0,1,2,3,4,5,6,7]])
 .ret))))⟩
theorem r_s_NodePhase {Te:TE} (c_s_l15Copy:C_s_l15Copy Te) (c_s_l15Up:C_s_l15Up Te) (c_s_NextOk:C_s_NextOk Te) (c_s_l13Add:C_s_l13Add Te):C_s_NodePhase (RF Te x_s_NodePhase):=by
 intro n p hn
 have hL:=hn.len (by decide)
 refine X0 x_s_NodePhase.eq_1 ?_
 refine C0 (c_s_l15Copy n hL) ?_
 refine C0 (c_s_l15Up n (hn.mono (by decide))) ?_
 cases g1:n.up
 ·have e:n.phase p=(n,false):=by rw [NodeV.phase,g1]; rfl
  exact F1 e
 obtain ⟨k1,k2,_⟩:=up_ok g1
 have e:n.phase p=(n.phase1 p,(n.phase1 p).S.T.Phase==p):=by rw [NodeV.phase,g1]; rfl
 refine G0 ?_
 refine C0 (c_s_NextOk _ _) ?_
 cases g2:nextOk n.S.T.Phase p
 ·have e1:n.phase1 p=n:=by rw [NodeV.phase1,g2]; rfl
  exact F2 e e1
 ·have e1:n.phase1 p=n.added (recPh p):=by rw [NodeV.phase1,g2]; rfl
  refine G0 ?_
  refine .of (c_s_l13Add n.S (recPh p) k1 k2 hn.2 (recPh_in p _)) ?_
  try simp -implicitDefEqProofs (maxSteps:=1000000) only [go_sem,e,e1,NodeV.added,NodeV.enc,take_all,take_marks]
  repeat refine ⟨sc,?_⟩
  try exact sf
  try rfl
def x_i_NodeLoad:FnX:=⟨62,[.cell 6 (some 10),.tmp 7],
  .q [.v 3 0,.op 6 (.alloc [.nils 1,.nils 2,.i 0,.F,.nils 7,.i 0,.nils 3,.i 0,.i 0,.i 0]),.i 7 0]
 (.seq (.q [.L 12 10 3,.c 13 82 [12],.N 14 13,.m 15 14,.z 15 (.m 16 1),.z 15 (.c 17 98 [16]),.z 15 (.N 18 17),.r 19 15 18,.m 20 19,.z 20 (.m 21 2),.z 20 (.n 22 21),.z 20 (.B 23 .gtr 22 20),.r 24 20 23]
 (.c 24 (.q [.L 25 10 3,.c 26 60 [25],.s 100001 10 6 26,.i 7 1]
 .ret)))
 (.seq (.q [.f 27 3 0,.f 28 27 4,.f 29 28 1,.l 30 29,.B 31 .neq 30 0]
 (.c 31 (.q [.L 32 10 3,.c 33 60 [32],.s 100002 10 6 33,.i 7 6]
 .ret)))
 (.q [.f 35 3 9,.l 36 35,.m 37 2,.c 38 99 [36,37],.m 34 38,.e 39 34 0,.e 40 34 1,.m 8 39,.m 9 40]
 (.seq (.draw [.m 41 1,.f 42 3 9,.l 43 42,.m 44 2,.op 45 (.bslice 1 [(.t 44)]),.c 46 100 [45],.op 47 (.build [.i 0,.nils 1] [(0,1,(.t 43)),(1,1,(.t 46))]),.m 48 9,.N 49 48,.op 50 (.build [.e,.i 0,.nils 1,.i 0,.nils 1,.i 0,.F] [(0,1,(.t 41)),(1,2,(.t 47)),(5,1,(.i 1)),(6,1,(.t 49))]),.op 10 (.alloc [.e,.i 0,.nils 1,.i 0,.nils 1,.i 0,.F]),.s 100003 7 10 50] [[],[],[1],[],[3],[4],[2,5],[],[7],[0,6,8],[],[10,9,5,0,1,2,3,4,5,6,7,8,9,10]])
 (.q [.L 52 10 3,.L 53 7 10,.op 54 (.build [.i 0,.e,.i 0,.nils 1,.i 0,.nils 1,.i 0,.F,.e,.i 0,.i 0,.i 0,.i 0] [(0,1,(.i 1)),(1,7,(.t 53))]),.c 55 86 [52,54],.m 51 55,.e 56 51 0,.e 57 51 1,.op 11 (.alloc [.nils 1,.nils 2,.i 0,.F,.nils 7,.i 0,.nils 3,.i 0,.i 0,.i 0]),.s 100004 10 11 56,.m 9 57]
 (.seq (.q [.m 58 9,.N 59 58]
 (.c 59 (.q [.L 60 10 11,.s 100005 10 6 60,.i 7 5]
 .ret)))
 (.q [.L 61 10 11,.s 100006 10 6 61,.i 7 0]
 .ret)))))))⟩
theorem r_i_NodeLoad {Te:TE} (c_i_isUp:C_i_isUp Te) (c_i_NameOk:C_i_NameOk Te) (c_i_copyNode:C_i_copyNode Te) (c_i_Decode:C_i_Decode Te) (c_i_joined:C_i_joined Te) (c_i_added:C_i_added Te):C_i_NodeLoad (RF Te x_i_NodeLoad):=by
 intro n key b hn hk hb
 have hL:=hn.len (by decide)
 refine X0 x_i_NodeLoad.eq_1 ?_
 refine C0 (c_i_isUp n (hn.mono (by decide))) ?_
 cases g1:n.up
 ·have e:n.load key b=(n,1):=by rw [NodeV.load,g1]; rfl
  refine G0 ?_
  exact D1 (c_i_copyNode n hL) e
 refine G0 ?_
 refine C0 (c_i_NameOk key (by omega)) ?_
 cases g2:nameOk key
 ·have e:n.load key b=(n,1):=by rw [NodeV.load,g1,g2]; rfl
  refine G0 ?_
  exact D1 (c_i_copyNode n hL) e
 cases g3:decide ((b.length:Int)≤20)
 ·have e:n.load key b=(n,1):=by rw [NodeV.load,g1,g2,g3]; rfl
  try simp -implicitDefEqProofs (maxSteps:=1000000) only [go_sem,gt20,g3]
  repeat refine ⟨sc,?_⟩
  try exact sf
  exact D1 (c_i_copyNode n hL) e
 cases g4:(n.S.T.Phase==0)
 ·have e:n.load key b=(n,6):=by rw [NodeV.load,g1,g2,g3,g4]; rfl
  have g5:(n.S.T.Phase != 0)=true:=by rw [bne_not,g4]; rfl
  try simp -implicitDefEqProofs (maxSteps:=1000000) only [go_sem,gt20,g3,g4,g5]
  repeat refine ⟨sc,?_⟩
  try exact sf
  exact D1 (c_i_copyNode n hL) e
 have g5:(n.S.T.Phase != 0)=false:=by rw [bne_not,g4]; rfl
 have e:n.load key b=(n.added (loadRec n key b),bif (n.S.add (loadRec n key b)).2 then 0 else 5):=by rw [NodeV.load,g1,g2,g3,g4]; rfl
 have t1:=c_i_joined [b] (by simp only [flat1]; omega) (by simp)
 rw [flat1] at t1
 have t2:=c_i_added n (loadRec n key b) hn (loadRec_in n hk hb)
 cases g6:(decode n.Cs b).2
 all_goals
  simp only [loadRec,g6,Bool.not_false,Bool.not_true] at t2 e
  try simp -implicitDefEqProofs (maxSteps:=1000000) only [go_sem,gt20,g3,g4,g5]
  repeat refine ⟨sc,?_⟩
  try exact sf
  refine .of (c_i_Decode n.Cs b hb) ?_
  try simp -implicitDefEqProofs (maxSteps:=1000000) only [go_sem,take_rows]
  repeat refine ⟨sc,?_⟩
  try exact sf
  rw [g6]
  try simp -implicitDefEqProofs (maxSteps:=1000000) only [go_sem,g6,take_rows]
  repeat refine ⟨sc,?_⟩
  try exact sf
  refine .of (t1) ?_
  try simp -implicitDefEqProofs (maxSteps:=1000000) only [go_sem,take_rows]
  repeat refine ⟨sc,?_⟩
  try exact sf
  refine .of (t2) ?_
  try simp -implicitDefEqProofs (maxSteps:=1000000) only [go_sem,take_all,take_marks]
  repeat refine ⟨sc,?_⟩
  try exact sf
  cases g7:(n.S.add (RecV.mk 1 ⟨key,⟨n.Cs,b⟩,⟨0,[]⟩,1,!(decode n.Cs b).2⟩ ⟨#[]⟩ 0 0 0 0)).2
  all_goals
   rw [g6] at g7
   simp only [Bool.not_false,Bool.not_true] at g7
   try simp -implicitDefEqProofs (maxSteps:=1000000) only [go_sem,g7,e,NodeV.added,NodeV.enc,take_all,take_marks]
   repeat refine ⟨sc,?_⟩
   try exact sf
   try rfl
end Go.X

