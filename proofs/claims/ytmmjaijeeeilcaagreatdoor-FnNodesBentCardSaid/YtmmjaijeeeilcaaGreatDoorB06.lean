/- Texts: CVzea CVn CP_2 CVzm_3 CVy_2 CVk_2 CVe CV. -/
import Derived.Test.YtmmjaijeeeilcaaGreatDoorB04
set_option linter.unusedVariables false
set_option linter.unusedSimpArgs false
namespace Go.X
set_option maxRecDepth 100000
set_option maxHeartbeats 8000000
def x_s_NodeStep:FnX:=⟨101,[.cell 4 (some 10),.tmp 5,.tmp 6,.tmp 7],
  .q [.v 2 0,.op 4 (.alloc [.nils 1,.nils 2,.i 0,.F,.nils 7,.i 0,.nils 3,.i 0,.i 0,.i 0]),.op 5 (.mv (.k (.one (.pv (.string ⟨#[]⟩))))),.i 6 0,.F 7]
 (.q [.L 16 10 2,.c 17 65 [16],.op 8 (.alloc [.nils 1,.nils 2,.i 0,.F,.nils 7,.i 0,.nils 3,.i 0,.i 0,.i 0]),.s 100001 10 8 17]
 (.seq (.q [.L 18 10 2,.c 19 64 [18],.N 20 19,.m 21 20,.z 21 (.f 22 2 0),.z 21 (.f 23 22 4),.z 21 (.f 24 23 1),.z 21 (.l 25 24),.z 21 (.c 26 115 [25]),.z 21 (.N 27 26),.r 28 21 27]
 (.c 28 (.q [.L 29 10 8,.m 30 1,.s 100002 10 4 29,.m 5 30,.i 6 0,.F 7]
 .ret)))
 (.q [.m 31 1,.m 9 31]
 (.q [.i 10 0]
 (.seq (.q [.i 11 0]
 (.block 0 (.loop [1,2,4,8,9,10,11] (.seq (.q [.m 32 11,.f 33 2 0,.f 34 33 4,.f 35 34 0,.l 36 35,.n 37 36,.b 38 .lss 32 37,.m 39 38,.y 39 (.m 40 10),.y 39 (.B 41 .lss 40 2),.a 42 39 41]
 (.cond 42 .skip (.exit 0)))
 (.seq (.block 1 (.q [.f 45 2 0,.f 46 45 4,.f 47 46 0,.l 48 47,.m 49 11,.x 50 7 48 49,.L 51 7 50,.op 12 (.alloc [.e,.i 0,.nils 1,.i 0,.nils 1,.i 0,.F]),.s 100003 7 12 51]
 (.seq (.q [.f 52 12 0,.l 53 52,.m 54 1,.b 55 .leq 53 54]
 (.c 55 (.exit 1)))
 (.q [.f 56 2 0,.f 57 56 4,.f 58 57 1,.l 59 58,.L 60 7 12,.c 61 116 [59,60],.op 13 (.alloc [.e,.i 0,.nils 1,.i 0,.nils 1,.i 0,.F]),.s 100004 7 13 61]
 (.seq (.q [.L 62 7 13,.L 63 7 12,.c 64 117 [62,63],.N 65 64,.m 66 65,.y 66 (.f 67 8 0),.y 66 (.L 68 7 13),.y 66 (.op 69 (.build [.i 0,.e,.i 0,.nils 1,.i 0,.nils 1,.i 0,.F,.e,.i 0,.i 0,.i 0,.i 0] [(0,1,(.i 1)),(1,7,(.t 68))])),.y 66 (.op 70 (.call 103 [11,0] [(.t 67),(.t 69)])),.y 66 (.N 71 70),.a 72 66 71]
 (.c 72 (.q [.L 73 10 8,.m 74 1,.s 100005 10 4 73,.m 5 74,.i 6 0,.F 7]
 .ret)))
 (.q [.f 75 12 0,.l 76 75,.m 9 76]
 (.reg [.m 77 10,.B 78 .add 77 1,.m 10 78])))))))
 (.reg [.m 43 11,.B 44 .add 43 1,.m 11 44]))))))
 (.norm [2,4,8,9] (.q [.i 14 1]
 (.seq (.q [.i 15 0]
 (.block 2 (.loop [2,4,8,9,14,15] (.seq (.q [.m 79 15,.f 80 2 0,.f 81 80 4,.f 82 81 0,.l 83 82,.n 84 83,.b 85 .lss 79 84]
 (.cond 85 .skip (.exit 2)))
 (.seq (.block 3 (.q [.f 88 2 0,.f 89 88 4,.f 90 89 0,.l 91 90,.m 92 15,.x 93 7 91 92,.f 94 93 0,.l 95 94,.m 96 9,.b 97 .gtr 95 96]
 (.c 97 (.reg [.i 14 0]))))
 (.reg [.m 86 15,.B 87 .add 86 1,.m 15 87]))))))
 (.norm [4,8,9,14] (.q [.L 98 10 8,.m 99 9,.m 100 14,.s 100006 10 4 98,.m 5 99,.m 6 100,.T 7]
 .ret))))))))))⟩
def lastCode:XCode:=.loop [2,4,8,9,14,15] (.seq (.q [.m 79 15,.f 80 2 0,.f 81 80 4,.f 82 81 0,.l 83 82,.n 84 83,.b 85 .lss 79 84]
 (.cond 85 .skip (.exit 2)))
 (.seq (.block 3 (.q [.f 88 2 0,.f 89 88 4,.f 90 89 0,.l 91 90,.m 92 15,.x 93 7 91 92,.f 94 93 0,.l 95 94,.m 96 9,.b 97 .gtr 95 96]
 (.c 97 (.reg [.i 14 0]))))
 (.reg [.m 86 15,.B 87 .add 86 1,.m 15 87])))
theorem last_loop {Te:TE} {Q:Post} {st:St} (n:NodeV) (p:Int) (cur:NodeV) (o0 o1 o2 o3:Nat) (f A:ByteArray) (X:List Go.X.T) (hr1:n.S.T.Rows.length≤2 ^ 20)
  (h0:norm 2 103 [2,4,8,9,14,15] st=⟨[(2,.bp 2 0),(4,.bp 4 0),(8,.bp 8 0),(9,.one (.pv (.string A))),(14,.one (.pv (.int .i64 1))),(15,.one (.pv (.int .i64 0)))],[(2,[.ro 1 (n.S.D.Secs.map fun y=>[slT false 1 uR y]),.ro 2 (n.S.D.Cache.map (WrV.enc false)),.pv (.int .i64 n.S.D.Fuse),.pv (.bool n.S.D.Down),.ro 7 (n.S.T.Rows.map (RowV.enc false)),.pv (.int .i64 p),.ro 3 (n.S.T.Marks.map MarkV.row),.pv (.int .i64 n.S.Gen),.pv (.int .i64 n.S.Place),.pv (.int .i64 n.Cs)]),(4,[.nils 1,.nils 2,.pv (.int .i64 0),.pv (.bool false),.nils 7,.pv (.int .i64 0),.nils 3,.pv (.int .i64 0),.pv (.int .i64 0),.pv (.int .i64 0)]),(8,[.rf 103 o0 [] 1 0 cur.S.D.Secs.length,.rf 103 o1 [] 2 0 cur.S.D.Cache.length,.pv (.int .i64 cur.S.D.Fuse),.pv (.bool cur.S.D.Down),.rf 103 o2 [] 7 0 cur.S.T.Rows.length,.pv (.int .i64 cur.S.T.Phase),.rf 103 o3 [] 3 0 cur.S.T.Marks.length,.pv (.int .i64 cur.S.Gen),.pv (.int .i64 cur.S.Place),.pv (.int .i64 cur.Cs)])],[(0,n.enc false),(1,[sT f]),(103,X)]⟩)
  (hQ:Q (.exit 2) ⟨[(85,.one (.pv (.bool false))),(84,.one (.pv (.int .i64 n.S.T.Rows.length))),(83,.one (.ro 7 (n.S.T.Rows.map (RowV.enc false)))),(82,.bp 2 4),(81,.bp 2 4),(80,.bp 2 0),(79,.one (.pv (.int .i64 n.S.T.Rows.length))),(2,.bp 2 0),(4,.bp 4 0),(8,.bp 8 0),(9,.one (.pv (.string A))),(14,.one (.pv (.int .i64 (bif n.S.T.Rows.any fun r=>isBehind A r.Key then 0 else 1)))),(15,.one (.pv (.int .i64 n.S.T.Rows.length)))],[(2,[.ro 1 (n.S.D.Secs.map fun y=>[slT false 1 uR y]),.ro 2 (n.S.D.Cache.map (WrV.enc false)),.pv (.int .i64 n.S.D.Fuse),.pv (.bool n.S.D.Down),.ro 7 (n.S.T.Rows.map (RowV.enc false)),.pv (.int .i64 p),.ro 3 (n.S.T.Marks.map MarkV.row),.pv (.int .i64 n.S.Gen),.pv (.int .i64 n.S.Place),.pv (.int .i64 n.Cs)]),(4,[.nils 1,.nils 2,.pv (.int .i64 0),.pv (.bool false),.nils 7,.pv (.int .i64 0),.nils 3,.pv (.int .i64 0),.pv (.int .i64 0),.pv (.int .i64 0)]),(8,[.rf 103 o0 [] 1 0 cur.S.D.Secs.length,.rf 103 o1 [] 2 0 cur.S.D.Cache.length,.pv (.int .i64 cur.S.D.Fuse),.pv (.bool cur.S.D.Down),.rf 103 o2 [] 7 0 cur.S.T.Rows.length,.pv (.int .i64 cur.S.T.Phase),.rf 103 o3 [] 3 0 cur.S.T.Marks.length,.pv (.int .i64 cur.S.Gen),.pv (.int .i64 cur.S.Place),.pv (.int .i64 cur.Cs)])],[(0,n.enc false),(1,[sT f]),(103,X)]⟩):runC Te 2 103 lastCode st Q:=by
 refine loop_of (σ:=Nat) (fun j=>⟨[(2,.bp 2 0),(4,.bp 4 0),(8,.bp 8 0),(9,.one (.pv (.string A))),(14,.one (.pv (.int .i64 (bif (n.S.T.Rows.take j).any fun r=>isBehind A r.Key then 0 else 1)))),(15,.one (.pv (.int .i64 j)))],[(2,[.ro 1 (n.S.D.Secs.map fun y=>[slT false 1 uR y]),.ro 2 (n.S.D.Cache.map (WrV.enc false)),.pv (.int .i64 n.S.D.Fuse),.pv (.bool n.S.D.Down),.ro 7 (n.S.T.Rows.map (RowV.enc false)),.pv (.int .i64 p),.ro 3 (n.S.T.Marks.map MarkV.row),.pv (.int .i64 n.S.Gen),.pv (.int .i64 n.S.Place),.pv (.int .i64 n.Cs)]),(4,[.nils 1,.nils 2,.pv (.int .i64 0),.pv (.bool false),.nils 7,.pv (.int .i64 0),.nils 3,.pv (.int .i64 0),.pv (.int .i64 0),.pv (.int .i64 0)]),(8,[.rf 103 o0 [] 1 0 cur.S.D.Secs.length,.rf 103 o1 [] 2 0 cur.S.D.Cache.length,.pv (.int .i64 cur.S.D.Fuse),.pv (.bool cur.S.D.Down),.rf 103 o2 [] 7 0 cur.S.T.Rows.length,.pv (.int .i64 cur.S.T.Phase),.rf 103 o3 [] 3 0 cur.S.T.Marks.length,.pv (.int .i64 cur.S.Gen),.pv (.int .i64 cur.S.Place),.pv (.int .i64 cur.Cs)])],[(0,n.enc false),(1,[sT f]),(103,X)]⟩) (fun j=>j≤n.S.T.Rows.length) (fun j=>n.S.T.Rows.length - j) 0 h0 (Nat.zero_le _) ?_
 intro j hj
 cases q3:decide ((j:Int) < (n.S.T.Rows.length:Int))
 ·have k0:j=n.S.T.Rows.length:=by simp only [decide_eq_false_iff_not] at q3; omega
  subst k0
  simp -implicitDefEqProofs only [go_sem,q3,List.take_length]
  exact hQ
 ·have k3:j < n.S.T.Rows.length:=by simp only [decide_eq_true_eq] at q3; omega
  have ea:=any_take (a:=A) k3
  have ew:IntKind.i64.wrap ((j:Int) + 1)=((j + 1:Nat):Int):=IntWalk.i64_in _ (by omega)
  cases g:isBehind A n.S.T.Rows[j].Key
  ·have g':=g
   rw [isBehind] at g'
   rw [g,Bool.or_false] at ea
   refine G4 q3 (List.getElem?_eq_getElem k3) g' ew ?_
   exact ⟨j + 1,by rw [ea] <;> rfl,k3,by omega⟩
  ·have g':=g
   rw [isBehind] at g'
   rw [g,Bool.or_true] at ea
   refine G4 q3 (List.getElem?_eq_getElem k3) g' ew ?_
   exact ⟨j + 1,by rw [ea] <;> rfl,k3,by omega⟩
theorem r_s_NodeStep {Te:TE} (c_s_l15Copy:C_s_l15Copy Te) (c_s_l15Up:C_s_l15Up Te) (c_s_Walks:C_s_Walks Te) (c_s_l15Turn:C_s_l15Turn Te) (c_s_l12SameRow:C_s_l12SameRow Te) (c_s_l13Add:C_s_l13Add Te):C_s_NodeStep (RF Te x_s_NodeStep):=by
 intro n f hn
 have hL:=hn.len (by decide)
 have hr1:=hn.2.1.1
 refine X0 x_s_NodeStep.eq_1 ?_
 refine C0 (c_s_l15Copy n hL) ?_
 refine C0 (c_s_l15Up n (hn.mono (by decide))) ?_
 cases g1:n.up
 ·have e:n.step f=(n,f,0,false):=by rw [NodeV.step,g1]; rfl
  exact F1 e
 refine G0 ?_
 refine C0 (c_s_Walks _) ?_
 cases g2:walks n.S.T.Phase
 ·have e:n.step f=(n,f,0,false):=by rw [NodeV.step,g1,g2]; rfl
  exact F1 e
 obtain ⟨k1,k2,_⟩:=up_ok g1
 have hw:=walks_or g2
 have hl:=behind_last (rows_sorted (NodeV.up_tab g1)) f
 have e:n.step f=(bif (stepN n.S.T.Phase n ((behind f n.S.T.Rows).take 2)).2 then ((stepN n.S.T.Phase n ((behind f n.S.T.Rows).take 2)).1,lastKey f ((behind f n.S.T.Rows).take 2),bif decide (((behind f n.S.T.Rows).length:Int) > 2) then 0 else 1,true) else ((stepN n.S.T.Phase n ((behind f n.S.T.Rows).take 2)).1,f,0,false)):=by rw [NodeV.step,g1,g2]; rfl
 rw [e,← hl]
 clear e hl
 generalize hp:n.S.T.Phase=p at hw
 refine G1 hp ?_
 refine loop_of (σ:=Bool×Nat×NodeV) (fun x=>cond x.1 (⟨[(1,.one (.pv (.string f))),(2,.bp 2 0),(4,.bp 4 0),(8,.bp 8 0),(9,.one (.pv (.string (lastKey f (behind f (n.S.T.Rows.take x.2.1)))))),(10,.one (.pv (.int .i64 (behind f (n.S.T.Rows.take x.2.1)).length))),(11,.one (.pv (.int .i64 x.2.1)))],[(2,[.ro 1 (n.S.D.Secs.map fun y=>[slT false 1 uR y]),.ro 2 (n.S.D.Cache.map (WrV.enc false)),.pv (.int .i64 n.S.D.Fuse),.pv (.bool n.S.D.Down),.ro 7 (n.S.T.Rows.map (RowV.enc false)),.pv (.int .i64 p),.ro 3 (n.S.T.Marks.map MarkV.row),.pv (.int .i64 n.S.Gen),.pv (.int .i64 n.S.Place),.pv (.int .i64 n.Cs)]),(4,[.nils 1,.nils 2,.pv (.int .i64 0),.pv (.bool false),.nils 7,.pv (.int .i64 0),.nils 3,.pv (.int .i64 0),.pv (.int .i64 0),.pv (.int .i64 0)]),(8,[.rf 103 1 [] 1 0 x.2.2.S.D.Secs.length,.rf 103 2 [] 2 0 x.2.2.S.D.Cache.length,.pv (.int .i64 x.2.2.S.D.Fuse),.pv (.bool x.2.2.S.D.Down),.rf 103 5 [] 7 0 x.2.2.S.T.Rows.length,.pv (.int .i64 x.2.2.S.T.Phase),.rf 103 7 [] 3 0 x.2.2.S.T.Marks.length,.pv (.int .i64 x.2.2.S.Gen),.pv (.int .i64 x.2.2.S.Place),.pv (.int .i64 x.2.2.Cs)])],[(0,n.enc false),(1,[sT f]),(103,bT true::x.2.2.S.enc true)]⟩) (⟨[(1,.one (.pv (.string f))),(2,.bp 2 0),(4,.bp 4 0),(8,.bp 8 0),(9,.one (.pv (.string (lastKey f (behind f (n.S.T.Rows.take x.2.1)))))),(10,.one (.pv (.int .i64 (behind f (n.S.T.Rows.take x.2.1)).length))),(11,.one (.pv (.int .i64 x.2.1)))],[(2,[.ro 1 (n.S.D.Secs.map fun y=>[slT false 1 uR y]),.ro 2 (n.S.D.Cache.map (WrV.enc false)),.pv (.int .i64 n.S.D.Fuse),.pv (.bool n.S.D.Down),.ro 7 (n.S.T.Rows.map (RowV.enc false)),.pv (.int .i64 p),.ro 3 (n.S.T.Marks.map MarkV.row),.pv (.int .i64 n.S.Gen),.pv (.int .i64 n.S.Place),.pv (.int .i64 n.Cs)]),(4,[.nils 1,.nils 2,.pv (.int .i64 0),.pv (.bool false),.nils 7,.pv (.int .i64 0),.nils 3,.pv (.int .i64 0),.pv (.int .i64 0),.pv (.int .i64 0)]),(8,[.rf 103 0 [] 1 0 x.2.2.S.D.Secs.length,.rf 103 1 [] 2 0 x.2.2.S.D.Cache.length,.pv (.int .i64 x.2.2.S.D.Fuse),.pv (.bool x.2.2.S.D.Down),.rf 103 4 [] 7 0 x.2.2.S.T.Rows.length,.pv (.int .i64 x.2.2.S.T.Phase),.rf 103 6 [] 3 0 x.2.2.S.T.Marks.length,.pv (.int .i64 x.2.2.S.Gen),.pv (.int .i64 x.2.2.S.Place),.pv (.int .i64 x.2.2.Cs)])],[(0,n.enc false),(1,[sT f]),(103,x.2.2.enc true)]⟩)) (fun x=>x.2.1≤n.S.T.Rows.length∧(behind f (n.S.T.Rows.take x.2.1)).length≤2∧stepN p n (behind f (n.S.T.Rows.take x.2.1))=(x.2.2,true)∧x.2.2.S.ok=true∧x.2.2.S.D.Down=false∧(x.1=false→x.2.2=n)) (fun x=>n.S.T.Rows.length - x.2.1) (false,0,n) ?_ ⟨Nat.zero_le _,Nat.zero_le _,rfl,k1,k2,fun _=>rfl⟩ ?_
 ·simp -implicitDefEqProofs (maxSteps:=1000000) only [go_sem,lastKey,behind,List.take_zero,List.filter_nil,List.getLast?_nil,hp]
  try rfl
 ·rintro ⟨b,i,cur⟩ ⟨hi,h2,hs,c1,c2,hb⟩
  simp only at hi h2 hs c1 c2 hb
  cases b
  ·have hb:=(hb rfl).symm
   subst hb
   cases q:decide ((i:Int) < (n.S.T.Rows.length:Int))&&decide (((behind f (n.S.T.Rows.take i)).length:Int) < 2)
   ·have hx:i=n.S.T.Rows.length∨(behind f (n.S.T.Rows.take i)).length=2:=by simp only [Bool.and_eq_false_iff,decide_eq_false_iff_not] at q; omega
    have et:=behind_take hx h2
    rw [et] at q hs ⊢
    rw [hs]
    generalize hA:lastKey f ((behind f n.S.T.Rows).take 2)=A
    cases q1:decide ((i:Int) < (n.S.T.Rows.length:Int))
    all_goals
     have q2:=q
     rw [q1] at q2
     simp only [Bool.true_and,Bool.false_and] at q2
     try simp -implicitDefEqProofs (maxSteps:=1000000) only [go_sem,q1,q2]
     repeat refine ⟨sc,?_⟩
     try exact sf
    all_goals
     refine last_loop n p n 0 1 4 6 f A (n.enc true) hr1 ?_ ?_
     ·simp -implicitDefEqProofs (maxSteps:=1000000) only [go_sem]
      try rfl
     ·exact F0
   ·rw [Bool.and_eq_true] at q
    obtain ⟨q1,q2⟩:=q
    have k3:i < n.S.T.Rows.length:=by simp only [decide_eq_true_eq] at q1; omega
    have k4:(behind f (n.S.T.Rows.take i)).length < 2:=by simp only [decide_eq_true_eq] at q2; omega
    have ew:IntKind.i64.wrap ((i:Int) + 1)=((i + 1:Nat):Int):=IntWalk.i64_in _ (by omega)
    have es:=behind_step (f:=f) k3
    have hr:=hn.2.1.2 _ (List.getElem_mem k3)
    have gl:=leq_not f n.S.T.Rows[i].Key
    cases g:isBehind f n.S.T.Rows[i].Key
    ·rw [g,cond_false,List.append_nil] at es
     rw [g] at gl
     try simp -implicitDefEqProofs (maxSteps:=1000000) only [go_sem,q1,q2,List.getElem?_eq_getElem k3,gl,ew]
     repeat refine ⟨sc,?_⟩
     try exact sf
     exact ⟨(false,i + 1,n),by rw [es]; rfl,⟨k3,by simp only [es]; omega,by simp only [es]; exact hs,c1,c2,fun _=>rfl⟩,by simp only; omega⟩
    ·rw [g,cond_true] at es
     rw [g] at gl
     have el:(behind f (n.S.T.Rows.take (i + 1))).length=(behind f (n.S.T.Rows.take i)).length + 1:=by rw [es,List.length_append]; rfl
     have ek:lastKey f (behind f (n.S.T.Rows.take (i + 1)))=n.S.T.Rows[i].Key:=by rw [es,lastKey_snoc]
     have e1:stepN p n (behind f (n.S.T.Rows.take (i + 1)))=stepN p n [n.S.T.Rows[i]]:=by rw [es,stepN_app,hs]; rfl
     have ed:IntKind.i64.wrap (((behind f (n.S.T.Rows.take i)).length:Int) + 1)=(((behind f (n.S.T.Rows.take i)).length + 1:Nat):Int):=IntWalk.i64_in _ (by omega)
     refine G4 q1 q2 (List.getElem?_eq_getElem k3) gl ?_
     refine C0 (c_s_l15Turn p n.S.T.Rows[i] hr hw) ?_
     refine C0 (c_s_l12SameRow (turned p n.S.T.Rows[i]) n.S.T.Rows[i]) ?_
     cases g3:rowSame (turned p n.S.T.Rows[i]) n.S.T.Rows[i]
     ·have td:=c_s_l13Add n.S (recRow (turned p n.S.T.Rows[i])) c1 c2 (StoreV.ok_in c1).2 ⟨turned_in hr,Nat.zero_le _⟩
      have ha:=add_ok (recRow (turned p n.S.T.Rows[i])) c1
      refine G1 g3 ?_
      refine C0 (td) ?_
      cases g4:(n.S.add (recRow (turned p n.S.T.Rows[i]))).2
      ·have e3:=step_fail (i:=i + 1) (x:=n.added (recRow (turned p n.S.T.Rows[i]))) (by rw [e1,stepN,g3,g4]; rfl) (by omega)
       rw [e3]
       try simp -implicitDefEqProofs (maxSteps:=1000000) only [go_sem,g4,take_all,take_marks,NodeV.added]
       repeat refine ⟨sc,?_⟩
       try exact sf
       try rfl
      ·have e3:stepN p n (behind f (n.S.T.Rows.take (i + 1)))=(n.added (recRow (turned p n.S.T.Rows[i])),true):=by rw [e1,stepN,g3,g4]; rfl
       refine G3 g4 ed ew ?_
       exact ⟨(true,i + 1,n.added (recRow (turned p n.S.T.Rows[i]))),by simp only [el,ek,NodeV.added]; rfl,⟨k3,by simp only; omega,e3,ha.1,ha.2 g4,fun h=>by cases h⟩,by simp only; omega⟩
     ·have e3:stepN p n (behind f (n.S.T.Rows.take (i + 1)))=(n,true):=by rw [e1,stepN,g3]; rfl
      refine G3 g3 ed ew ?_
      exact ⟨(false,i + 1,n),by simp only [el,ek]; rfl,⟨k3,by simp only; omega,e3,c1,c2,fun _=>rfl⟩,by simp only; omega⟩
  ·cases q:decide ((i:Int) < (n.S.T.Rows.length:Int))&&decide (((behind f (n.S.T.Rows.take i)).length:Int) < 2)
   ·have hx:i=n.S.T.Rows.length∨(behind f (n.S.T.Rows.take i)).length=2:=by simp only [Bool.and_eq_false_iff,decide_eq_false_iff_not] at q; omega
    have et:=behind_take hx h2
    rw [et] at q hs ⊢
    rw [hs]
    generalize hA:lastKey f ((behind f n.S.T.Rows).take 2)=A
    cases q1:decide ((i:Int) < (n.S.T.Rows.length:Int))
    all_goals
     have q2:=q
     rw [q1] at q2
     simp only [Bool.true_and,Bool.false_and] at q2
     try simp -implicitDefEqProofs (maxSteps:=1000000) only [go_sem,q1,q2]
     repeat refine ⟨sc,?_⟩
     try exact sf
    all_goals
     refine last_loop n p cur 1 2 5 7 f A (bT true::cur.S.enc true) hr1 ?_ ?_
     ·simp -implicitDefEqProofs (maxSteps:=1000000) only [go_sem]
      try rfl
     ·exact F0
   ·rw [Bool.and_eq_true] at q
    obtain ⟨q1,q2⟩:=q
    have k3:i < n.S.T.Rows.length:=by simp only [decide_eq_true_eq] at q1; omega
    have k4:(behind f (n.S.T.Rows.take i)).length < 2:=by simp only [decide_eq_true_eq] at q2; omega
    have ew:IntKind.i64.wrap ((i:Int) + 1)=((i + 1:Nat):Int):=IntWalk.i64_in _ (by omega)
    have es:=behind_step (f:=f) k3
    have hr:=hn.2.1.2 _ (List.getElem_mem k3)
    have gl:=leq_not f n.S.T.Rows[i].Key
    cases g:isBehind f n.S.T.Rows[i].Key
    ·rw [g,cond_false,List.append_nil] at es
     rw [g] at gl
     try simp -implicitDefEqProofs (maxSteps:=1000000) only [go_sem,q1,q2,List.getElem?_eq_getElem k3,gl,ew]
     repeat refine ⟨sc,?_⟩
     try exact sf
     exact ⟨(true,i + 1,cur),by rw [es]; rfl,⟨k3,by simp only [es]; omega,by simp only [es]; exact hs,c1,c2,fun h=>by cases h⟩,by simp only; omega⟩
    ·rw [g,cond_true] at es
     rw [g] at gl
     have el:(behind f (n.S.T.Rows.take (i + 1))).length=(behind f (n.S.T.Rows.take i)).length + 1:=by rw [es,List.length_append]; rfl
     have ek:lastKey f (behind f (n.S.T.Rows.take (i + 1)))=n.S.T.Rows[i].Key:=by rw [es,lastKey_snoc]
     have e1:stepN p n (behind f (n.S.T.Rows.take (i + 1)))=stepN p cur [n.S.T.Rows[i]]:=by rw [es,stepN_app,hs]; rfl
     have ed:IntKind.i64.wrap (((behind f (n.S.T.Rows.take i)).length:Int) + 1)=(((behind f (n.S.T.Rows.take i)).length + 1:Nat):Int):=IntWalk.i64_in _ (by omega)
     refine G4 q1 q2 (List.getElem?_eq_getElem k3) gl ?_
     refine C0 (c_s_l15Turn p n.S.T.Rows[i] hr hw) ?_
     refine C0 (c_s_l12SameRow (turned p n.S.T.Rows[i]) n.S.T.Rows[i]) ?_
     cases g3:rowSame (turned p n.S.T.Rows[i]) n.S.T.Rows[i]
     ·have td:=c_s_l13Add cur.S (recRow (turned p n.S.T.Rows[i])) c1 c2 (StoreV.ok_in c1).2 ⟨turned_in hr,Nat.zero_le _⟩
      have ha:=add_ok (recRow (turned p n.S.T.Rows[i])) c1
      refine G1 g3 ?_
      refine C0 (td) ?_
      cases g4:(cur.S.add (recRow (turned p n.S.T.Rows[i]))).2
      ·have e3:=step_fail (i:=i + 1) (x:=cur.added (recRow (turned p n.S.T.Rows[i]))) (by rw [e1,stepN,g3,g4]; rfl) (by omega)
       rw [e3]
       try simp -implicitDefEqProofs (maxSteps:=1000000) only [go_sem,g4,take_all,take_marks,NodeV.added]
       repeat refine ⟨sc,?_⟩
       try exact sf
       try rfl
      ·have e3:stepN p n (behind f (n.S.T.Rows.take (i + 1)))=(cur.added (recRow (turned p n.S.T.Rows[i])),true):=by rw [e1,stepN,g3,g4]; rfl
       refine G3 g4 ed ew ?_
       exact ⟨(true,i + 1,cur.added (recRow (turned p n.S.T.Rows[i]))),by simp only [el,ek,NodeV.added]; rfl,⟨k3,by simp only; omega,e3,ha.1,ha.2 g4,fun h=>by cases h⟩,by simp only; omega⟩
     ·have e3:stepN p n (behind f (n.S.T.Rows.take (i + 1)))=(cur,true):=by rw [e1,stepN,g3]; rfl
      refine G3 g3 ed ew ?_
      exact ⟨(true,i + 1,cur),by simp only [el,ek]; rfl,⟨k3,by simp only; omega,e3,c1,c2,fun h=>by cases h⟩,by simp only; omega⟩
def x_s_l13Lay:FnX:=⟨64,[],
  .q [.m 6 0,.op 7 (.nilc (.t 6)),.f 8 7 4,.L 9 3 8,.c 10 279 [9],.m 4 10]
 (.seq (.q [.i 5 0]
 (.block 0 (.loop [0,1,4,5] (.seq (.q [.m 11 5,.m 12 4,.n 13 12,.b 14 .lss 11 13]
 (.cond 14 .skip (.exit 0)))
 (.seq (.block 1 (.draw [.m 17 0,.op 18 (.nilc (.t 17)),.f 19 18 0,.m 20 1,.m 21 5,.c 22 193 [20,21],.m 23 1,.m 24 5,.m 25 4,.m 26 5,.x 27 13 25 26,.L 28 13 27,.c 29 194 [23,24,28],.op 30 (.call 192 [6,0,0] [(.t 19),(.t 22),(.t 29)])] [[],[0],[1],[],[],[3,4],[],[],[],[],[8,9],[10],[6,7,11,5],[2,5,12,12]]))
 (.reg [.m 15 5,.B 16 .add 15 1,.m 5 16]))))))
 (.norm [0,1,4] (.q [.m 31 0,.op 32 (.nilc (.t 31)),.f 33 32 0,.op 34 (.call 195 [6] [(.t 33)])]
 (.seq (.draw [.m 35 0,.op 36 (.nilc (.t 35)),.f 37 36 0,.m 38 1,.B 39 .rem 38 2,.m 40 1,.m 41 4,.n 42 41,.c 43 280 [40,42],.op 44 (.call 192 [6,0,0] [(.t 37),(.t 39),(.t 43)])] [[],[0],[1],[],[3],[],[],[6],[5,7],[2,4,8,8]])
 (.q [.m 45 0,.op 46 (.nilc (.t 45)),.f 47 46 0,.op 48 (.call 195 [6] [(.t 47)])]
 (.q [.m 49 0,.op 50 (.nilc (.t 49)),.f 51 50 0,.f 52 51 3,.l 53 52,.N 54 53]
 (.c 54 (.q [.m 55 0,.m 56 1,.op 57 (.nilc (.t 55)),.f 58 57 7,.s 100001 1 58 56]
 (.reg [.m 59 0,.m 60 4,.n 61 60,.op 62 (.nilc (.t 59)),.f 63 62 8,.s 100002 1 63 61])))))))))⟩
theorem r_s_l13Lay {Te:TE} (c_s_RecsOf:C_s_RecsOf Te) (c_s_l13At:C_s_l13At Te) (c_s_PutRec:C_s_PutRec Te) (c_s_l10Write:C_s_l10Write Te) (c_s_l10Flush:C_s_l10Flush Te) (c_s_HeadOf:C_s_HeadOf Te):C_s_l13Lay (RF Te x_s_l13Lay):=by
 intro s gen hd ht
 have hL:=ht.len (by decide)
 obtain ⟨hr1,hr2⟩:=recsOf_le ht
 obtain ⟨D0,T0,G0,P0⟩:=s
 simp only at hd ht hL hr1 hr2
 obtain ⟨E0,hE⟩:∃ E0,E0=D0:=⟨_,rfl⟩
 generalize hL0:(StoreV.mk D0 T0 G0 P0).lay gen=L0
 rw [← hE] at hL0
 refine X0 x_s_l13Lay.eq_1 ?_
 refine C0 (c_s_RecsOf T0 hL) ?_
 generalize eR:recsOf T0=R at hr1 hr2
 refine loop_of (σ:=Bool×Nat×DevV) (fun x=>cond x.1 (⟨[(0,.bp 0 0),(1,.one (.pv (.int .i64 gen))),(4,.one (.rf 66 0 [] 13 0 R.length)),(5,.one (.pv (.int .i64 x.2.1)))],[(0,[.rf 67 0 [] 1 0 x.2.2.Secs.length,.rf 67 1 [] 2 0 x.2.2.Cache.length,.pv (.int .i64 x.2.2.Fuse),.pv (.bool x.2.2.Down),.rf 0 4 [] 7 0 T0.Rows.length,.pv (.int .i64 T0.Phase),.rf 0 6 [] 3 0 T0.Marks.length,.pv (.int .i64 G0),.pv (.int .i64 P0)])],[(0,[.no (),.no (),iT D0.Fuse,bT D0.Down,slT true 7 (RowV.enc true) T0.Rows,iT T0.Phase,slT true 3 MarkV.row T0.Marks,iT G0,iT P0]),(1,[iT gen]),(66,[slT true 13 (RecV.enc true) R]),(67,x.2.2.enc true)]⟩) (⟨[(0,.bp 0 0),(1,.one (.pv (.int .i64 gen))),(4,.one (.rf 66 0 [] 13 0 R.length)),(5,.one (.pv (.int .i64 x.2.1)))],[(0,[.rf 0 0 [] 1 0 x.2.2.Secs.length,.rf 0 1 [] 2 0 x.2.2.Cache.length,.pv (.int .i64 x.2.2.Fuse),.pv (.bool x.2.2.Down),.rf 0 4 [] 7 0 T0.Rows.length,.pv (.int .i64 T0.Phase),.rf 0 6 [] 3 0 T0.Marks.length,.pv (.int .i64 G0),.pv (.int .i64 P0)])],[(0,(StoreV.mk D0 T0 G0 P0).enc true),(1,[iT gen]),(66,[slT true 13 (RecV.enc true) R])]⟩)) (fun x=>x.2.1≤R.length∧x.2.2=layN gen R E0 x.2.1∧x.2.2.ok=true∧(x.1=false→x.2.2=D0)) (fun x=>R.length - x.2.1) (false,0,D0) ?_ ⟨Nat.zero_le _,hE.symm,hd,fun _=>rfl⟩ ?_
 ·simp -implicitDefEqProofs (maxSteps:=1000000) only [go_sem]
  try rfl
 ·rintro ⟨b,i,D⟩ ⟨hi,hD,hk,hb⟩
  simp only at hi hD hk hb
  cases b
  all_goals try (have hb:=hb rfl; subst hb)
  all_goals
   have hcl:=(DevV.ok_iff D).1 hk
   cases q:decide ((i:Int) < (R.length:Int))
   ·have k0:i=R.length:=by simp only [decide_eq_false_iff_not] at q; omega
    have e:((D.flush).write (gen.tmod 2) (headOf gen R.length)).flush=layDev gen R E0:=by rw [hD,k0]; rfl
    have hh:=headOf_len gen R.length
    have f1:=flush_ok hk
    have f2:=write_ok f1 (gen.tmod 2) (headOf gen R.length)
    have hcl1:=(DevV.ok_iff _).1 f1
    have hcl2:=(DevV.ok_iff _).1 f2
    refine G1 q ?_
    refine C0 (c_s_l10Flush D (by omega) (DevV.ok_idx hk)) ?_
    refine C0 (c_s_HeadOf _ _) ?_
    refine .of (c_s_l10Write D.flush _ _ (by omega) (by omega)) ?_
    try simp -implicitDefEqProofs (maxSteps:=1000000) only [go_sem,take_all]
    repeat refine ⟨sc,?_⟩
    try exact sf
    refine .of (c_s_l10Flush _ (by omega) (DevV.ok_idx f2)) ?_
    try simp -implicitDefEqProofs (maxSteps:=1000000) only [go_sem,take_all]
    repeat refine ⟨sc,?_⟩
    try exact sf
    rw [e]
    cases g:(layDev gen R E0).Down
    ·have e2:L0=⟨layDev gen R E0,T0,gen,R.length⟩:=by rw [← hL0,← eR]; exact lay_up (by rw [eR]; exact g)
     try simp -implicitDefEqProofs (maxSteps:=1000000) only [go_sem,g,e2,take_all,StoreV.enc]
     repeat refine ⟨sc,?_⟩
     try exact sf
     try rfl
    ·have e2:L0=⟨layDev gen R E0,T0,G0,P0⟩:=by rw [← hL0,← eR]; exact lay_down (by rw [eR]; exact g)
     try simp -implicitDefEqProofs (maxSteps:=1000000) only [go_sem,g,e2,take_all,StoreV.enc]
     repeat refine ⟨sc,?_⟩
     try exact sf
     try rfl
   ·have k1:i < R.length:=by simp only [decide_eq_true_eq] at q; omega
    have hp:=putRec_len gen i R[i]
    have hin:=hr2 _ (List.getElem_mem k1)
    have es:=layN_step gen E0 k1
    rw [← hD] at es
    have eg:(R.map (RecV.enc true)).getD i []=R[i].enc true:=by rw [List.getD_eq_getElem?_getD,List.getElem?_map,List.getElem?_eq_getElem k1]; rfl
    refine G2 q (List.getElem?_eq_getElem k1) ?_
    refine C2 (c_s_l13At _ _) eg (List.getElem?_eq_getElem k1) ?_
    refine C0 (c_s_PutRec _ _ R[i] hin) ?_
    refine .of (c_s_l10Write D _ _ (by omega) (by omega)) ?_
    try simp -implicitDefEqProofs (maxSteps:=1000000) only [go_sem,take_all]
    repeat refine ⟨sc,?_⟩
    try exact sf
    refine ⟨(true,i + 1,D.write (secOf gen i) (putRec gen i R[i])),?_,⟨k1,es,write_ok hk _ _,fun h=>by cases h⟩,by simp only; omega⟩
    rw [IntWalk.i64_in _ (by omega)]
    rfl
def x_i_Format:FnX:=⟨10,[.cell 0 (some 9)],
  .q [.op 0 (.alloc [.nils 1,.nils 2,.i 0,.F,.nils 7,.i 0,.nils 3,.i 0,.i 0])]
 (.q [.op 2 (.build [.nils 7,.i 0,.nils 3] []),.c 3 207 [2],.m 1 3]
 (.q [.op 4 (.call 209 [0] [(.i 62)]),.m 5 1,.op 6 (.call 208 [0,0,0] [(.t 4),(.i 1),(.t 5)]),.m 7 1,.n 8 7,.op 9 (.build [.nils 1,.nils 2,.i 0,.F,.nils 7,.i 0,.nils 3,.i 0,.i 0] [(0,4,(.t 6)),(7,1,(.i 1)),(8,1,(.t 8))]),.s 100001 9 0 9]
 .ret))⟩
theorem r_i_Format {Te:TE} (c_i_RecsOf:C_i_RecsOf Te) (c_i_DevNew:C_i_DevNew Te) (c_i_laid:C_i_laid Te):C_i_Format (RF Te x_i_Format):=by
 have hr:([recPhase 0]:List RecV).length≤2 ^ 30∧∀ r∈([recPhase 0]:List RecV),r.In (2 ^ 48):=recsOf_le (TabV.zero_in _)
 have t1:=c_i_RecsOf TabV.zero ((TabV.zero_in (2 ^ 20)).len (by decide))
 rw [recsOf_zero] at t1
 have e:=fmt_eq
 have h1:(([recPhase 0]:List RecV).length:Int)=1:=rfl
 generalize [recPhase 0]=R at hr t1 e h1
 refine X0 x_i_Format.eq_1 ?_
 refine C0 (t1) ?_
 refine C0 (c_i_DevNew 62) ?_
 refine .of (c_i_laid (devNew 62) 1 R devNew_ok hr) ?_
 try simp -implicitDefEqProofs (maxSteps:=1000000) only [go_sem,take_all,e,h1,StoreV.enc]
 repeat refine ⟨sc,?_⟩
 try exact sf
 try rfl
def x_s_Format:FnX:=⟨7,[.cell 0 (some 9)],
  .q [.op 0 (.alloc [.nils 1,.nils 2,.i 0,.F,.nils 7,.i 0,.nils 3,.i 0,.i 0])]
 (.q [.op 2 (.call 210 [0] [(.i 62)]),.op 3 (.build [.nils 7,.i 0,.nils 3] []),.op 4 (.build [.nils 1,.nils 2,.i 0,.F,.nils 7,.i 0,.nils 3,.i 0,.i 0] [(0,4,(.t 2)),(4,3,(.t 3))]),.op 1 (.alloc [.nils 1,.nils 2,.i 0,.F,.nils 7,.i 0,.nils 3,.i 0,.i 0]),.s 100001 9 1 4]
 (.q [.op 5 (.call 191 [11,0] [(.t 1),(.i 1)])]
 (.q [.L 6 9 1,.s 100002 9 0 6]
 .ret)))⟩
theorem r_s_Format {Te:TE} (c_s_DevNew:C_s_DevNew Te) (c_s_l13Lay:C_s_l13Lay Te):C_s_Format (RF Te x_s_Format):=by
 refine X0 x_s_Format.eq_1 ?_
 refine C0 (c_s_DevNew 62) ?_
 exact D0 (c_s_l13Lay (StoreV.mk (devNew 62) TabV.zero 0 0) 1 devNew_ok (TabV.zero_in _))
def x_s_l1Int:FnX:=⟨12,[.tmp 4],
  .q [.i 4 0]
 (.q [.m 5 1,.m 6 0,.m 7 1,.n 8 7,.op 9 (.call 96 [5,0] [(.t 6),(.t 8)]),.x 10 1 5 9,.l 11 10,.m 4 11]
 .ret)⟩
theorem r_s_l1Int {Te:TE} (c_s_l1Below:C_s_l1Below Te):∀ (c:CurV) (l:List Int) (hc:c.ok) (hl:0 < l.length∧l.length≤2 ^ 31),∃ r0,(∃ (r:Int) (d:CurV),(r∈l∧d.ok)∧r0=(⟨[.one (iT r)],[d.enc,[slT true 1 iR l]]⟩:Res))∧RunFn Te x_s_l1Int [.ptr c.enc,.one (slT true 1 iR l)] r0:=by
 intro c l hc hl
 refine some_of (Nat.le_of_ble_eq_true rfl) (by rfl) ?_
 simp -implicitDefEqProofs (maxSteps:=1000000) only [x_s_l1Int,go_sem]
 repeat refine ⟨sc,?_⟩
 try exact sf
 obtain ⟨r,d,⟨hr,hd⟩,ht⟩:=c_s_l1Below c l.length hc
 have hr':r.toNat < l.length:=by have:=hr.2.1 (by omega); omega
 refine .of (ht) ?_
 try simp -implicitDefEqProofs (maxSteps:=1000000) only [go_sem,List.getD_eq_getElem?_getD,List.getElem?_eq_getElem hr']
 repeat refine ⟨sc,?_⟩
 try exact sf
 exact ⟨_,d,⟨List.getElem_mem hr',hd⟩,rfl⟩
def x_s_l1Str:FnX:=⟨12,[.tmp 4],
  .q [.op 4 (.mv (.k (.one (.pv (.string ⟨#[]⟩)))))]
 (.q [.m 5 1,.m 6 0,.m 7 1,.n 8 7,.op 9 (.call 96 [5,0] [(.t 6),(.t 8)]),.x 10 1 5 9,.l 11 10,.m 4 11]
 .ret)⟩
theorem r_s_l1Str {Te:TE} (c_s_l1Below:C_s_l1Below Te):∀ (c:CurV) (l:List ByteArray) (hc:c.ok) (hl:0 < l.length∧l.length≤2 ^ 31),∃ r0,(∃ (r:ByteArray) (d:CurV),(r∈l∧d.ok)∧r0=(⟨[.one (sT r)],[d.enc,[slT true 1 sR l]]⟩:Res))∧RunFn Te x_s_l1Str [.ptr c.enc,.one (slT true 1 sR l)] r0:=by
 intro c l hc hl
 refine some_of (Nat.le_of_ble_eq_true rfl) (by rfl) ?_
 simp -implicitDefEqProofs (maxSteps:=1000000) only [x_s_l1Str,go_sem]
 repeat refine ⟨sc,?_⟩
 try exact sf
 obtain ⟨r,d,⟨hr,hd⟩,ht⟩:=c_s_l1Below c l.length hc
 have hr':r.toNat < l.length:=by have:=hr.2.1 (by omega); omega
 refine .of (ht) ?_
 try simp -implicitDefEqProofs (maxSteps:=1000000) only [go_sem,List.getD_eq_getElem?_getD,List.getElem?_eq_getElem hr']
 repeat refine ⟨sc,?_⟩
 try exact sf
 exact ⟨_,d,⟨List.getElem_mem hr',hd⟩,rfl⟩
def x_s_l1Bytes:FnX:=⟨20,[.tmp 4],
  .q [.op 4 (.mv (.k (.one (.nils 1))))]
 (.q [.op 7 (.bslice 1 []),.m 5 7]
 (.seq (.q [.i 6 0]
 (.block 0 (.loop [0,1,5,6] (.seq (.q [.m 8 6,.m 9 1,.b 10 .lss 8 9]
 (.cond 10 .skip (.exit 0)))
 (.seq (.block 1 (.reg [.m 13 5,.m 14 0,.op 15 (.call 181 [5] [(.t 14)]),.op 16 (.conv (.int .u8) (.t 15)),.op 17 (.bslice 1 [(.t 16)]),.op 18 (.app 1 1 (.t 13) (.t 17)),.m 5 18]))
 (.reg [.m 11 6,.B 12 .add 11 1,.m 6 12]))))))
 (.norm [5] (.q [.m 19 5,.m 4 19]
 .ret))))⟩
theorem r_s_l1Bytes {Te:TE} (c_s_l1Byte:C_s_l1Byte Te):∀ (c:CurV) (n:Int) (hc:c.ok) (hn:n≤2 ^ 20),∃ r0,(∃ (l:List UInt8) (d:CurV),((l.length:Int)≤max n 0∧d.ok)∧r0=(⟨[.one (slT true 1 uR l)],[d.enc,[iT n]]⟩:Res))∧RunFn Te x_s_l1Bytes [.ptr c.enc,.one (iT n)] r0:=by
 intro c n hc hn
 refine some_of (Nat.le_of_ble_eq_true rfl) (by rfl) ?_
 simp -implicitDefEqProofs (maxSteps:=1000000) only [x_s_l1Bytes,go_sem]
 repeat refine ⟨sc,?_⟩
 try exact sf
 refine loop_of (σ:=Nat×List UInt8×CurV) (fun x=>⟨[(0,.bp 0 0),(1,.one (.pv (.int .i64 n))),(5,.one (.rf 22 0 [] 1 0 x.2.1.length)),(6,.one (.pv (.int .i64 x.1)))],[(0,[.ro 1 (x.2.2.b.map uR),.pv (.int .i64 x.2.2.i),.pv (.int .i64 x.2.2.h)])],[(0,c.enc),(1,[iT n]),(22,[slT true 1 uR x.2.1])]⟩) (fun x=>(x.1:Int)≤max n 0∧x.2.1.length=x.1∧x.2.2.ok) (fun x=>n.toNat - x.1) (0,[],c) ?_ ⟨by simp only; omega,rfl,hc⟩ ?_
 ·simp -implicitDefEqProofs (maxSteps:=1000000) only [go_sem]
  try rfl
 ·rintro ⟨i,b,d⟩ ⟨hi,hb,hd⟩
  simp only at hi hb hd
  cases q:decide ((i:Int) < n)
  ·have et:List.take b.length (List.map uR b)=List.map uR b:=List.take_of_length_le (by simp)
   refine G2 q et ?_
   exact ⟨b,d,⟨by omega,hd⟩,rfl⟩
  ·have q':=q
   simp only [decide_eq_true_eq] at q'
   obtain ⟨r,d2,⟨_,hd2⟩,ht⟩:=c_s_l1Byte d hd
   have ea:=byte_row b r
   have et:List.take b.length (List.map uR b)=List.map uR b:=List.take_of_length_le (by simp)
   have xl:(b++[mkU r]).length=b.length + 1:=by simp only [List.length_append,List.length_cons,List.length_nil]
   have w2:IntKind.i64.wrap ((i:Int) + 1)=((i + 1:Nat):Int):=by rw [IntWalk.i64_in _ (by omega)]; rfl
   refine G1 q ?_
   refine C3 (ht) ea et w2 ?_
   exact ⟨(i + 1,b++[mkU r],d2),by rw [← xl],⟨by simp only; omega,by simp only [xl]; omega,hd2⟩,by simp only; omega⟩
def x_s_l14Draw:FnX:=⟨6,[.tmp 2],
  .q [.i 2 0]
 (.q [.m 3 0,.op 4 (.call 96 [5,0] [(.t 3),(.i 10)]),.B 5 .sub 4 1,.m 2 5]
 .ret)⟩
theorem r_s_l14Draw {Te:TE} (c_s_l1Below:C_s_l1Below Te):∀ (c:CurV) (hc:c.ok),∃ r0,(∃ (r:Int) (d:CurV),((-1≤r∧r≤8)∧d.ok)∧r0=(⟨[.one (iT r)],[d.enc]⟩:Res))∧RunFn Te x_s_l14Draw [.ptr c.enc] r0:=by
 intro c hc
 refine some_of (Nat.le_of_ble_eq_true rfl) (by rfl) ?_
 simp -implicitDefEqProofs (maxSteps:=1000000) only [x_s_l14Draw,go_sem]
 repeat refine ⟨sc,?_⟩
 try exact sf
 obtain ⟨r,d,⟨hr,hd⟩,ht⟩:=c_s_l1Below c 10 hc
 refine C0 (ht) ?_
 have:=hr.2.1 (by decide)
 rw [IntWalk.i64_in _ (by omega)]
 exact ⟨_,d,⟨by omega,hd⟩,rfl⟩
def x_s_l15Draw:FnX:=⟨21,[.cell 4 (some 10)],
  .q [.op 4 (.alloc [.nils 1,.nils 2,.i 0,.F,.nils 7,.i 0,.nils 3,.i 0,.i 0,.i 0])]
 (.q [.m 7 0,.op 8 (.call 168 [5] [(.t 7)]),.c 9 45 [8],.op 5 (.alloc [.nils 1,.nils 2,.i 0,.F,.nils 7,.i 0,.nils 3,.i 0,.i 0,.i 0]),.s 100001 10 5 9]
 (.seq (.q [.m 10 0,.m 11 1,.B 12 .add 11 1,.op 13 (.call 96 [5,0] [(.t 10),(.t 12)]),.m 6 13]
 (.block 0 (.loop [0,4,5,6] (.seq (.q [.m 14 6,.B 15 .gtr 14 0]
 (.cond 15 .skip (.exit 0)))
 (.seq (.block 1 (.reg [.m 18 0,.op 19 (.call 169 [5,12] [(.t 18),(.t 5)])]))
 (.reg [.m 16 6,.B 17 .sub 16 1,.m 6 17]))))))
 (.norm [4,5] (.q [.L 20 10 5,.s 100002 10 4 20]
 .ret))))⟩
theorem r_s_l15Draw {Te:TE} (c_s_l3Cs:C_s_l3Cs Te) (c_s_NodeNew:C_s_NodeNew Te) (c_s_l1Below:C_s_l1Below Te) (c_s_l15Do:C_s_l15Do Te):∀ (c:CurV) (most:Int) (hc:c.ok) (hm:0≤most∧most≤16),∃ r0,(∃ (n:NodeV) (d:CurV),(n.calm 40 30∧d.ok)∧r0=(⟨[.agg (n.enc true)],[d.enc,[iT most]]⟩:Res))∧RunFn Te x_s_l15Draw [.ptr c.enc,.one (iT most)] r0:=by
 intro c most hc hm
 refine some_of (Nat.le_of_ble_eq_true rfl) (by rfl) ?_
 have w1:IntKind.i64.wrap (most + 1)=most + 1:=IntWalk.i64_in _ (by omega)
 simp -implicitDefEqProofs (maxSteps:=1000000) only [x_s_l15Draw,go_sem,w1]
 repeat refine ⟨sc,?_⟩
 try exact sf
 obtain ⟨cs,d0,⟨hcs,hd0⟩,ht⟩:=c_s_l3Cs c hc
 refine C0 (ht) ?_
 refine C1 (c_s_NodeNew cs) w1 ?_
 obtain ⟨k,d1,⟨⟨hk0,hk1,_⟩,hd1⟩,ht⟩:=c_s_l1Below d0 (most + 1) hd0
 have hk2:=hk1 (by omega)
 obtain ⟨K,rfl⟩:∃ K:Nat,k=K:=⟨k.toNat,by omega⟩
 refine C0 (ht) ?_
 refine loop_of (σ:=Nat×NodeV×Bool×CurV) (fun x=>cond x.2.2.1 ⟨[(0,.bp 0 0),(4,.bp 4 0),(5,.bp 5 0),(6,.one (.pv (.int .i64 x.1)))],[(0,[.ro 1 (x.2.2.2.b.map uR),.pv (.int .i64 x.2.2.2.i),.pv (.int .i64 x.2.2.2.h)]),(4,[.nils 1,.nils 2,.pv (.int .i64 0),.pv (.bool false),.nils 7,.pv (.int .i64 0),.nils 3,.pv (.int .i64 0),.pv (.int .i64 0),.pv (.int .i64 0)]),(5,[.rf 23 0 [] 1 0 x.2.1.S.D.Secs.length,.rf 23 1 [] 2 0 x.2.1.S.D.Cache.length,.pv (.int .i64 x.2.1.S.D.Fuse),.pv (.bool x.2.1.S.D.Down),.rf 23 4 [] 7 0 x.2.1.S.T.Rows.length,.pv (.int .i64 x.2.1.S.T.Phase),.rf 23 6 [] 3 0 x.2.1.S.T.Marks.length,.pv (.int .i64 x.2.1.S.Gen),.pv (.int .i64 x.2.1.S.Place),.pv (.int .i64 x.2.1.Cs)])],[(0,c.enc),(1,[iT most]),(23,x.2.1.enc true)]⟩ ⟨[(0,.bp 0 0),(4,.bp 4 0),(5,.bp 5 0),(6,.one (.pv (.int .i64 x.1)))],[(0,[.ro 1 (x.2.2.2.b.map uR),.pv (.int .i64 x.2.2.2.i),.pv (.int .i64 x.2.2.2.h)]),(4,[.nils 1,.nils 2,.pv (.int .i64 0),.pv (.bool false),.nils 7,.pv (.int .i64 0),.nils 3,.pv (.int .i64 0),.pv (.int .i64 0),.pv (.int .i64 0)]),(5,[.rf 23 3 [] 1 0 x.2.1.S.D.Secs.length,.rf 23 4 [] 2 0 x.2.1.S.D.Cache.length,.pv (.int .i64 x.2.1.S.D.Fuse),.pv (.bool x.2.1.S.D.Down),.rf 23 7 [] 7 0 x.2.1.S.T.Rows.length,.pv (.int .i64 x.2.1.S.T.Phase),.rf 23 9 [] 3 0 x.2.1.S.T.Marks.length,.pv (.int .i64 x.2.1.S.Gen),.pv (.int .i64 x.2.1.S.Place),.pv (.int .i64 x.2.1.Cs)])],[(0,c.enc),(1,[iT most]),(23,slT false 1 uR x.2.2.2.b::iT x.2.2.2.i::iT x.2.2.2.h::x.2.1.enc true)]⟩) (fun x=>x.1≤K∧x.2.1.calm (1 + 2 * ((K:Int) - x.1)) 30∧x.2.2.2.ok) (fun x=>x.1) (K,nodeNew cs,true,d1) ?_ ⟨Nat.le_refl _,(new_calm hcs 30).mono (by simp only; omega),hd1⟩ ?_
 ·simp -implicitDefEqProofs (maxSteps:=1000000) only [go_sem]
  try rfl
 ·rintro ⟨i,n,b,d⟩ ⟨hi,hn,hd⟩
  simp only at hi hn hd
  cases q:decide ((i:Int) > 0)
  ·cases b
   ·refine G1 q ?_
    exact ⟨n,d,⟨hn.mono (by omega),hd⟩,rfl⟩
   ·refine G1 q ?_
    exact ⟨n,d,⟨hn.mono (by omega),hd⟩,rfl⟩
  ·have q':=q
   simp only [decide_eq_true_eq] at q'
   have w2:IntKind.i64.wrap ((i:Int) - 1)=((i - 1:Nat):Int):=by rw [IntWalk.i64_in _ (by omega)]; omega
   obtain ⟨m,d2,⟨hm,hd2⟩,ht⟩:=c_s_l15Do d n _ hd hn (by omega)
   cases b
   ·refine G1 q ?_
    refine C1 (ht) w2 ?_
    exact ⟨(i - 1,m,false,d2),rfl,⟨by simp only; omega,hm.mono (by simp only; omega),hd2⟩,by simp only; omega⟩
   ·refine G1 q ?_
    refine C1 (ht) w2 ?_
    exact ⟨(i - 1,m,false,d2),rfl,⟨by simp only; omega,hm.mono (by simp only; omega),hd2⟩,by simp only; omega⟩
def x_i_Encode:FnX:=⟨44,[.tmp 4,.tmp 5],
  .q [.op 4 (.mv (.k (.one (.nils 1)))),.F 5]
 (.q [.m 14 1,.c 15 350 [14],.m 13 15,.e 16 13 0,.e 17 13 1,.m 6 16,.m 7 17]
 (.seq (.q [.m 18 0,.c 19 184 [18],.N 20 19,.m 21 20,.z 21 (.m 22 7),.z 21 (.N 23 22),.r 24 21 23]
 (.c 24 (.q [.op 4 (.mv (.k (.one (.nils 1)))),.F 5]
 .ret)))
 (.q [.op 25 (.bslice 1 []),.m 8 25]
 (.seq (.q [.m 26 6,.n 27 26,.i 28 0]
 (.block 0 (.loop [0,8,26,27,28] (.q [.b 29 .lss 28 27]
 (.seq (.cond 29 .skip (.exit 0))
 (.seq (.block 1 (.q [.x 30 1 26 28,.l 31 30,.m 10 31]
 (.q [.m 33 0,.m 34 8,.m 35 10,.op 36 (.call 351 [0,1,0] [(.t 33),(.t 34),(.t 35)]),.m 32 36,.e 37 32 0,.e 38 32 1,.m 11 37,.m 12 38]
 (.seq (.q [.m 39 12,.N 40 39]
 (.c 40 (.q [.op 4 (.mv (.k (.one (.nils 1)))),.F 5]
 .ret)))
 (.reg [.m 41 11,.m 8 41])))))
 (.reg [.B 42 .add 28 1,.m 28 42])))))))
 (.norm [8] (.q [.m 43 8,.m 4 43,.T 5]
 .ret))))))⟩
theorem r_i_Encode {Te:TE} (c_i_Signs:C_i_Signs Te) (c_i_isSet:C_i_isSet Te) (c_i_putIn:C_i_putIn Te):C_i_Encode (RF Te x_i_Encode):=by
 intro cs s hs
 have hl:=signsOf_len s
 refine X0 x_i_Encode.eq_1 ?_
 refine C0 (c_i_Signs s (by omega)) ?_
 refine C0 (c_i_isSet cs) ?_
 cases g1:win cs 0 5
 ·have e:encode cs s=([],false):=by rw [encode,g1]; rfl
  exact F1 e
 cases g2:(signsOf s).2
 ·have e:encode cs s=([],false):=by rw [encode,g1,g2]; rfl
  exact F2 g2 e
 have e:encode cs s=encGo cs [] (signsOf s).1:=by rw [encode,g1,g2]; rfl
 refine G1 g2 ?_
 rw [e]
 generalize (signsOf s).1=L at hl
 refine loop_of (σ:=Nat×List UInt8×List T) (fun x=>⟨[(0,.one (.pv (.int .i64 cs))),(8,.one (.rf 46 0 [] 1 0 x.2.1.length)),(26,.one (.rf 47 0 [] 1 0 L.length)),(27,.one (.pv (.int .i64 L.length))),(28,.one (.pv (.int .i64 x.1)))],[],[(0,[iT cs]),(1,[sT s]),(46,slT true 1 uR x.2.1::x.2.2),(47,[slT true 1 iR L,bT true])]⟩) (fun x=>x.1≤L.length∧x.2.1.length≤4 * x.1∧encGo cs x.2.1 (L.drop x.1)=encGo cs [] L) (fun x=>L.length - x.1) (0,[],[]) ?_ ⟨Nat.zero_le _,Nat.le_refl _,rfl⟩ ?_
 ·simp -implicitDefEqProofs (maxSteps:=1000000) only [go_sem]
  try rfl
 ·rintro ⟨i,b,E⟩ ⟨hi,hb,hg⟩
  simp only at hi hb hg
  cases q:decide ((i:Int) < (L.length:Int))
  ·have hd:L.drop i=[]:=List.drop_eq_nil_of_le (by simp only [decide_eq_false_iff_not] at q; omega)
   rw [hd,encGo] at hg
   rw [← hg]
   exact F1 q
  ·have k1:i < L.length:=by simp only [decide_eq_true_eq] at q; omega
   have hp:=putIn_len cs b L[i]
   rw [List.drop_eq_getElem_cons k1,encGo] at hg
   try simp -implicitDefEqProofs (maxSteps:=1000000) only [go_sem,q,List.getD_eq_getElem?_getD,List.getElem?_eq_getElem k1,take_rows]
   repeat refine ⟨sc,?_⟩
   try exact sf
   refine C0 (c_i_putIn cs b L[i] (by omega)) ?_
   cases g:(putIn cs b L[i]).2
   ·rw [g] at hg
    rw [← hg]
    exact F1 g
   ·rw [g] at hg
    refine G1 g ?_
    refine ⟨(i + 1,(putIn cs b L[i]).1,[bT true]),?_,⟨k1,by simp only; omega,hg⟩,by simp only; omega⟩
    rw [IntWalk.i64_in _ (by omega)]
    rfl
def x_s_Encode:FnX:=⟨47,[.tmp 4,.tmp 5],
  .q [.op 4 (.mv (.k (.one (.nils 1)))),.F 5]
 (.q [.op 12 (.bslice 1 []),.m 6 12]
 (.q [.m 14 1,.c 15 265 [14],.m 13 15,.e 16 13 0,.e 17 13 1,.m 7 16,.m 8 17]
 (.seq (.q [.m 18 0,.c 19 187 [18],.N 20 19,.m 21 20,.z 21 (.m 22 8),.z 21 (.N 23 22),.r 24 21 23]
 (.c 24 (.q [.m 25 6,.m 4 25,.F 5]
 .ret)))
 (.seq (.q [.i 9 0]
 (.block 0 (.loop [0,6,7,9] (.seq (.q [.m 26 9,.m 27 7,.n 28 27,.b 29 .lss 26 28]
 (.cond 29 .skip (.exit 0)))
 (.seq (.block 1 (.q [.m 33 0,.m 34 6,.m 35 7,.m 36 9,.x 37 1 35 36,.l 38 37,.c 39 266 [33,34,38],.m 32 39,.e 40 32 0,.e 41 32 1,.m 10 40,.m 11 41]
 (.seq (.q [.m 42 11,.N 43 42]
 (.c 43 (.q [.op 44 (.bslice 1 []),.m 4 44,.F 5]
 .ret)))
 (.reg [.m 45 10,.m 6 45]))))
 (.reg [.m 30 9,.B 31 .add 30 1,.m 9 31]))))))
 (.norm [6] (.q [.m 46 6,.m 4 46,.T 5]
 .ret))))))⟩
theorem r_s_Encode {Te:TE} (c_s_Signs:C_s_Signs Te) (c_s_l5Cs:C_s_l5Cs Te) (c_s_l5Put:C_s_l5Put Te):C_s_Encode (RF Te x_s_Encode):=by
 intro cs s hs
 have hl:=signsOf_len s
 have ho:=signsOf_ok s
 refine X0 x_s_Encode.eq_1 ?_
 refine C0 (c_s_Signs s hs) ?_
 refine C0 (c_s_l5Cs cs) ?_
 cases g1:win cs 0 5
 ·have e:encode cs s=([],false):=by rw [encode,g1]; rfl
  exact F1 e
 cases g2:(signsOf s).2
 ·have e:encode cs s=([],false):=by rw [encode,g1,g2]; rfl
  exact F2 g2 e
 have e:encode cs s=encGo cs [] (signsOf s).1:=by rw [encode,g1,g2]; rfl
 refine G1 g2 ?_
 rw [e]
 generalize (signsOf s).1=L at hl ho
 refine loop_of (σ:=Nat×List UInt8×List T) (fun x=>⟨[(0,.one (.pv (.int .i64 cs))),(6,.one (.rf 49 0 [] 1 0 x.2.1.length)),(7,.one (.rf 50 0 [] 1 0 L.length)),(9,.one (.pv (.int .i64 x.1)))],[],[(0,[iT cs]),(1,[sT s]),(49,slT true 1 uR x.2.1::x.2.2),(50,[slT true 1 iR L,bT true])]⟩) (fun x=>x.1≤L.length∧x.2.1.length≤4 * x.1∧encGo cs x.2.1 (L.drop x.1)=encGo cs [] L) (fun x=>L.length - x.1) (0,[],[]) ?_ ⟨Nat.zero_le _,Nat.le_refl _,rfl⟩ ?_
 ·simp -implicitDefEqProofs (maxSteps:=1000000) only [go_sem]
  try rfl
 ·rintro ⟨i,b,E⟩ ⟨hi,hb,hg⟩
  simp only at hi hb hg
  cases q:decide ((i:Int) < (L.length:Int))
  ·have hd:L.drop i=[]:=List.drop_eq_nil_of_le (by simp only [decide_eq_false_iff_not] at q; omega)
   rw [hd,encGo] at hg
   rw [← hg]
   exact F1 q
  ·have k1:i < L.length:=by simp only [decide_eq_true_eq] at q; omega
   have hp:=putIn_len cs b L[i]
   rw [List.drop_eq_getElem_cons k1,encGo] at hg
   try simp -implicitDefEqProofs (maxSteps:=1000000) only [go_sem,q,List.getD_eq_getElem?_getD,List.getElem?_eq_getElem k1,take_rows]
   repeat refine ⟨sc,?_⟩
   try exact sf
   refine .of (c_s_l5Put cs b L[i] (by omega) (ho _ (List.getElem_mem k1))) ?_
   try simp -implicitDefEqProofs (maxSteps:=1000000) only [go_sem]
   repeat refine ⟨sc,?_⟩
   try exact sf
   cases g:(putIn cs b L[i]).2
   ·rw [g] at hg
    rw [← hg]
    exact F1 g
   ·rw [g] at hg
    refine G1 g ?_
    refine ⟨(i + 1,(putIn cs b L[i]).1,[bT true]),?_,⟨k1,by simp only; omega,hg⟩,by simp only; omega⟩
    rw [IntWalk.i64_in _ (by omega)]
    rfl
def x_i_CellOf:FnX:=⟨27,[.cell 4 (some 2),.tmp 5],
  .q [.op 4 (.alloc [.i 0,.nils 1]),.F 5]
 (.q [.m 10 0,.m 11 1,.c 12 303 [10,11],.m 9 12,.e 13 9 0,.e 14 9 1,.m 6 13,.m 7 14]
 (.q [.m 15 0,.m 16 6,.op 17 (.build [.i 0,.nils 1] [(0,1,(.t 15)),(1,1,(.t 16))]),.op 8 (.alloc [.i 0,.nils 1]),.s 100001 2 8 17]
 (.seq (.q [.m 18 7,.N 19 18,.m 20 19,.z 20 (.L 21 2 8),.z 20 (.c 22 261 [21]),.z 20 (.N 23 22),.r 24 20 23]
 (.c 24 (.q [.op 25 (.build [.i 0,.nils 1] []),.s 100002 2 4 25,.F 5]
 .ret)))
 (.q [.L 26 2 8,.s 100003 2 4 26,.T 5]
 .ret))))⟩
theorem r_i_CellOf {Te:TE} (c_i_Encode:C_i_Encode Te) (c_i_CellOk:C_i_CellOk Te):C_i_CellOf (RF Te x_i_CellOf):=by
 intro tag s hs
 have hl:=encode_len tag s
 refine X0 x_i_CellOf.eq_1 ?_
 refine C0 (c_i_Encode tag s hs) ?_
 cases g:(encode tag s).2
 ·have e:=cellOf_no g
  exact F2 g e
 have gt:=encode_tag g
 refine G1 g ?_
 refine C0 (c_i_CellOk ⟨tag,(encode tag s).1⟩) ?_
 cases g2:decide (((encode tag s).1.length:Int)≤20)
 ·have e:=cellOf_big g2
  try simp -implicitDefEqProofs (maxSteps:=1000000) only [go_sem,CellV.ok,gt,g2,e,take_rows]
  repeat refine ⟨sc,?_⟩
  try exact sf
  try rfl
 ·have e:=cellOf_yes g g2
  try simp -implicitDefEqProofs (maxSteps:=1000000) only [go_sem,CellV.ok,gt,g2,e,take_rows]
  repeat refine ⟨sc,?_⟩
  try exact sf
  try rfl
def x_s_RecsOf:FnX:=⟨57,[.tmp 2],
  .q [.v 1 0,.op 2 (.mv (.k (.one (.nils 13))))]
 (.q [.f 6 1 1,.l 7 6,.op 8 (.build [.i 0,.e,.i 0,.nils 1,.i 0,.nils 1,.i 0,.F,.e,.i 0,.i 0,.i 0,.i 0] [(0,1,(.i 3)),(9,1,(.t 7))]),.op 9 (.bslice 13 [(.t 8)]),.m 3 9]
 (.seq (.q [.i 4 0]
 (.block 0 (.loop [1,3,4] (.seq (.q [.m 10 4,.f 11 1 0,.l 12 11,.n 13 12,.b 14 .lss 10 13]
 (.cond 14 .skip (.exit 0)))
 (.seq (.block 1 (.reg [.m 17 3,.f 18 1 0,.l 19 18,.m 20 4,.x 21 7 19 20,.L 22 7 21,.c 23 288 [22],.op 24 (.build [.i 0,.e,.i 0,.nils 1,.i 0,.nils 1,.i 0,.F,.e,.i 0,.i 0,.i 0,.i 0] [(0,1,(.i 1)),(1,7,(.t 23))]),.op 25 (.bslice 13 [(.t 24)]),.op 26 (.app 13 152 (.t 17) (.t 25)),.m 3 26]))
 (.reg [.m 15 4,.B 16 .add 15 1,.m 4 16]))))))
 (.norm [1,3] (.seq (.q [.i 5 0]
 (.block 2 (.loop [1,3,5] (.seq (.q [.m 27 5,.f 28 1 2,.l 29 28,.n 30 29,.b 31 .lss 27 30]
 (.cond 31 .skip (.exit 2)))
 (.seq (.block 3 (.draw [.m 34 3,.f 35 1 2,.l 36 35,.m 37 5,.x 38 3 36 37,.f 39 38 0,.l 40 39,.f 41 1 2,.l 42 41,.m 43 5,.x 44 3 42 43,.f 45 44 1,.l 46 45,.f 47 1 2,.l 48 47,.m 49 5,.x 50 3 48 49,.f 51 50 2,.l 52 51,.op 53 (.build [.i 0,.e,.i 0,.nils 1,.i 0,.nils 1,.i 0,.F,.e,.i 0,.i 0,.i 0,.i 0] [(0,1,(.i 4)),(10,1,(.t 40)),(11,1,(.t 46)),(12,1,(.t 52))]),.op 54 (.bslice 13 [(.t 53)]),.op 55 (.app 13 152 (.t 34) (.t 54)),.m 3 55] [[],[],[1],[],[2,3],[4],[5],[],[7],[],[8,9],[10],[11],[],[13],[],[14,15],[16],[17],[6,12,18],[19],[0,20],[21,21,0,1,2,3,4,5,6,7,8,9,10,11,12,13,14,15,16,17,18,19,20,21]]))
 (.reg [.m 32 5,.B 33 .add 32 1,.m 5 33]))))))
 (.norm [3] (.q [.m 56 3,.m 2 56]
 .ret))))))⟩
theorem r_s_RecsOf {Te:TE} (c_s_l9Copy:C_s_l9Copy Te):C_s_RecsOf (RF Te x_s_RecsOf):=by
 intro t h
 obtain ⟨⟨hR,hRl⟩,hM⟩:=h
 refine X0 x_s_RecsOf.eq_1 ?_
 refine loop_of (σ:=Nat×List RecV) (fun x=>⟨[(1,.bp 1 0),(3,.one (.rf 58 0 [] 13 0 x.2.length)),(4,.one (.pv (.int .i64 x.1)))],[(1,[.ro 7 (t.Rows.map (RowV.enc false)),.pv (.int .i64 t.Phase),.ro 3 (t.Marks.map MarkV.row)])],[(0,t.enc false),(58,[slT true 13 (RecV.enc true) x.2])]⟩) (fun x=>x.1≤t.Rows.length∧x.2.length=x.1 + 1∧x.2=recPhase t.Phase::(t.Rows.take x.1).map recRow) (fun x=>t.Rows.length - x.1) (0,[recPhase t.Phase]) ?_ ⟨Nat.zero_le _,rfl,rfl⟩ ?_
 ·simp -implicitDefEqProofs (maxSteps:=1000000) only [go_sem]
  try rfl
 ·rintro ⟨i,a⟩ ⟨hi,hl,he⟩
  simp only at hi hl he
  cases q:decide ((i:Int) < (t.Rows.length:Int))
  ·have k0:i=t.Rows.length:=by simp only [decide_eq_false_iff_not] at q; omega
   rw [k0,List.take_length] at he
   refine G1 q ?_
   refine loop_of (σ:=Nat×List RecV) (fun x=>⟨[(1,.bp 1 0),(3,.one (.rf 58 0 [] 13 0 x.2.length)),(5,.one (.pv (.int .i64 x.1)))],[(1,[.ro 7 (t.Rows.map (RowV.enc false)),.pv (.int .i64 t.Phase),.ro 3 (t.Marks.map MarkV.row)])],[(0,t.enc false),(58,[slT true 13 (RecV.enc true) x.2])]⟩) (fun x=>x.1≤t.Marks.length∧x.2.length=t.Rows.length + x.1 + 1∧x.2=recPhase t.Phase::(t.Rows.map recRow++(t.Marks.take x.1).map recMark)) (fun x=>t.Marks.length - x.1) (0,a) ?_ ⟨Nat.zero_le _,by simp only; omega,by simp only [List.take_zero,List.map_nil,List.append_nil]; exact he⟩ ?_
   ·simp -implicitDefEqProofs (maxSteps:=1000000) only [go_sem]
    try rfl
   ·rintro ⟨j,b⟩ ⟨hj,hbl,hbe⟩
    simp only at hj hbl hbe
    cases q2:decide ((j:Int) < (t.Marks.length:Int))
    ·have k2:j=t.Marks.length:=by simp only [decide_eq_false_iff_not] at q2; omega
     rw [k2,List.take_length] at hbe
     have e9:recsOf t=b:=hbe.symm
     have e8:List.take b.length (List.map (RecV.enc true) b)=List.map (RecV.enc true) b:=List.take_of_length_le (by simp)
     exact F3 q2 e9 e8
    ·have k2:j < t.Marks.length:=by simp only [decide_eq_true_eq] at q2; omega
     have ea:List.map (RecV.enc true) b++[[iT 4,sT ⟨#[]⟩,iT 0,Tr.sl true 1 () [],iT 0,Tr.sl true 1 () [],iT 0,bT false,sT ⟨#[]⟩,iT 0,iT t.Marks[j].Who,iT t.Marks[j].Seq,iT t.Marks[j].Code]]=List.map (RecV.enc true) (b++[recMark t.Marks[j]]):=by rw [List.map_append]; rfl
     have et:List.take b.length (List.map (RecV.enc true) b)=List.map (RecV.enc true) b:=List.take_of_length_le (by simp)
     refine G4 q2 (List.getElem?_eq_getElem k2) et ea ?_
     refine ⟨(j + 1,b++[recMark t.Marks[j]]),?_,⟨k2,?_,?_⟩,?_⟩
     ·rw [IntWalk.i64_in _ (by omega)]
      simp only [List.length_append]
      rfl
     ·simp only [List.length_append,List.length_cons,List.length_nil]; omega
     ·rw [hbe,recs_marks k2]
     ·simp only; omega
  ·have k1:i < t.Rows.length:=by simp only [decide_eq_true_eq] at q; omega
   have ea:List.map (RecV.enc true) a++[[iT 1,sT t.Rows[i].Key,iT t.Rows[i].Old.Tag,slT true 1 uR t.Rows[i].Old.B,iT t.Rows[i].New.Tag,slT true 1 uR t.Rows[i].New.B,iT t.Rows[i].Has,bT t.Rows[i].Aside,sT ⟨#[]⟩,iT 0,iT 0,iT 0,iT 0]]=List.map (RecV.enc true) (a++[recRow t.Rows[i]]):=by rw [List.map_append]; rfl
   have et:List.take a.length (List.map (RecV.enc true) a)=List.map (RecV.enc true) a:=List.take_of_length_le (by simp)
   refine G2 q (List.getElem?_eq_getElem k1) ?_
   refine C2 (c_s_l9Copy t.Rows[i] (hRl _ (List.getElem_mem k1))) et ea ?_
   refine ⟨(i + 1,a++[recRow t.Rows[i]]),?_,⟨k1,?_,?_⟩,?_⟩
   ·rw [IntWalk.i64_in _ (by omega)]
    simp only [List.length_append]
    rfl
   ·simp only [List.length_append,List.length_cons,List.length_nil]; omega
   ·rw [he,recs_rows k1]
   ·simp only; omega
def x_s_l9Old:FnX:=⟨7,[.tmp 2],
  .q [.v 1 0,.F 2]
 (.q [.f 3 1 5,.l 4 3,.B 5 .and 4 1,.B 6 .eql 5 1,.m 2 6]
 .ret)⟩
theorem r_s_l9Old {Te:TE}:C_s_l9Old (RF Te x_s_l9Old):=by
 intro r h
 refine run0 ?_
 have e:=and1_has _ h
 simp -implicitDefEqProofs (maxSteps:=1000000) only [x_s_l9Old,go_sem,e]
 repeat refine ⟨sc,?_⟩
 try exact sf
def x_s_l9New:FnX:=⟨7,[.tmp 2],
  .q [.v 1 0,.F 2]
 (.q [.f 3 1 5,.l 4 3,.B 5 .and 4 2,.B 6 .eql 5 2,.m 2 6]
 .ret)⟩
theorem r_s_l9New {Te:TE}:C_s_l9New (RF Te x_s_l9New):=by
 intro r h
 refine run0 ?_
 have e:=and2_has _ h
 simp -implicitDefEqProofs (maxSteps:=1000000) only [x_s_l9New,go_sem,e]
 repeat refine ⟨sc,?_⟩
 try exact sf
def x_s_l2Len:FnX:=⟨18,[.tmp 2],
  .q [.i 2 0]
 (.seq (.block 0 (.q [.m 4 0,.op 5 (.bin .lss (.t 4) (.k (.one (.pv (.int .u8 128))))),.m 3 5]
 (.cond 3 (.q [.i 2 1]
 .ret) (.q [.m 7 0,.op 8 (.conv (.int .i64) (.t 7)),.op 9 (.call 120 [0,0,0] [(.t 8),(.i 194),(.i 223)]),.m 6 9]
 (.cond 6 (.q [.i 2 2]
 .ret) (.q [.m 11 0,.op 12 (.conv (.int .i64) (.t 11)),.op 13 (.call 120 [0,0,0] [(.t 12),(.i 224),(.i 239)]),.m 10 13]
 (.cond 10 (.q [.i 2 3]
 .ret) (.q [.m 15 0,.op 16 (.conv (.int .i64) (.t 15)),.op 17 (.call 120 [0,0,0] [(.t 16),(.i 240),(.i 244)]),.m 14 17]
 (.c 14 (.q [.i 2 4]
 .ret))))))))))
 (.q [.i 2 0]
 .ret))⟩
theorem r_s_l2Len {Te:TE} (c_s_l1In:C_s_l1In Te):C_s_l2Len (RF Te x_s_l2Len):=by
 intro b
 have hb:=b.toNat_lt
 have w:IntKind.i64.wrap (b.toNat:Int)=(b.toNat:Int):=IntWalk.i64_in _ (by omega)
 cases q1:decide ((b.toNat:Int) < 128)
 ·simp only [decide_eq_false_iff_not] at q1
  have q1':=decide_eq_false q1
  refine X2 x_s_l2Len.eq_1 q1' w ?_
  refine C0 (c_s_l1In _ _ _) ?_
  cases q2:win (b.toNat:Int) 194 223
  ·refine G1 w ?_
   refine C0 (c_s_l1In _ _ _) ?_
   cases q3:win (b.toNat:Int) 224 239
   ·refine G1 w ?_
    refine C0 (c_s_l1In _ _ _) ?_
    cases q4:win (b.toNat:Int) 240 244
    ·have e:l2len b.toNat=0:=by
      simp only [win,Bool.and_eq_false_imp,decide_eq_true_eq,decide_eq_false_iff_not] at q2 q3 q4
      unfold l2len
      rw [if_neg (by omega),if_neg (by omega),if_neg (by omega),if_neg (by omega)]
     exact F1 e
    ·have e:l2len b.toNat=4:=by
      simp only [win,Bool.and_eq_true,decide_eq_true_eq] at q4
      unfold l2len
      rw [if_neg (by omega),if_neg (by omega),if_neg (by omega),if_pos (by omega)]
     exact F1 e
   ·have e:l2len b.toNat=3:=by
     simp only [win,Bool.and_eq_true,decide_eq_true_eq] at q3
     unfold l2len
     rw [if_neg (by omega),if_neg (by omega),if_pos (by omega)]
    exact F1 e
  ·have e:l2len b.toNat=2:=by
    simp only [win,Bool.and_eq_true,decide_eq_true_eq] at q2
    unfold l2len
    rw [if_neg (by omega),if_pos (by omega)]
   exact F1 e
 ·simp only [decide_eq_true_eq] at q1
  have q1':=decide_eq_true q1
  have e:l2len b.toNat=1:=if_pos (by omega)
  refine X2 x_s_l2Len.eq_1 q1' e ?_
  try rfl
end Go.X

