/- Texts: CVzea CT_2 CVzb_2 CVp CUl CVzr CVy_2 CUd CVx CVf CVs. -/
import Derived.Test.YtmmjaijeeeilcaaGreatDoorD04
set_option linter.unusedVariables false
set_option linter.unusedSimpArgs false
namespace Go.X
set_option maxRecDepth 100000
set_option maxHeartbeats 8000000
def x_Dn:FnX:=⟨101,[.cell 4 (some 10),.tmp 5,.tmp 6,.tmp 7],
  .q [.v 2 0,.op 4 (.alloc [.nils 1,.nils 2,.i 0,.F,.nils 7,.i 0,.nils 3,.i 0,.i 0,.i 0]),.op 5 (.mv (.k (.one (.pv (.string ⟨#[]⟩))))),.i 6 0,.F 7]
 (.q [.L 16 10 2,.c 17 65 [16],.op 8 (.alloc [.nils 1,.nils 2,.i 0,.F,.nils 7,.i 0,.nils 3,.i 0,.i 0,.i 0]),.s 100001 10 8 17]
 (.seq (.q [.L 18 10 2,.c 19 64 [18],.N 20 19,.m 21 20,.z 21 (.f 22 2 0),.z 21 (.f 23 22 4),.z 21 (.f 24 23 1),.z 21 (.l 25 24),.z 21 (.c 26 115 [25]),.z 21 (.N 27 26),.r 28 21 27]
 (.c 28 (.q [.L 29 10 8,.m 30 1,.s 100002 10 4 29,.m 5 30,.i 6 0,.F 7]
 .ret)))
 (.q [.m 31 1,.m 9 31]
 (.q [.i 10 0]
 (.seq (.q [.i 11 0]
 (.block 0 (.loop [1,2,4,8,9,10,11] (.seq (.q [.m 32 11,.f 33 2 0,.f 34 33 4,.f 35 34 0,.l 36 35,.n 37 36,.b 38 .lss 32 37,.m 39 38,.y 39 (.m 40 10),.y 39 (.B 41 .lss 40 2),.a 42 39 41]
 (.cond 42 .skip (.exit 0)))
 (.seq (.block 1 (.q [.f 45 2 0,.f 46 45 4,.f 47 46 0,.l 48 47,.m 49 11,.x 50 7 48 49,.L 51 7 50,.op 12 (.alloc [.e,.i 0,.nils 1,.i 0,.nils 1,.i 0,.F]),.s 100003 7 12 51]
 (.seq (.q [.f 52 12 0,.l 53 52,.m 54 1,.b 55 .leq 53 54]
 (.c 55 (.exit 1)))
 (.q [.f 56 2 0,.f 57 56 4,.f 58 57 1,.l 59 58,.L 60 7 12,.c 61 116 [59,60],.op 13 (.alloc [.e,.i 0,.nils 1,.i 0,.nils 1,.i 0,.F]),.s 100004 7 13 61]
 (.seq (.q [.L 62 7 13,.L 63 7 12,.c 64 117 [62,63],.N 65 64,.m 66 65,.y 66 (.f 67 8 0),.y 66 (.L 68 7 13),.y 66 (.op 69 (.build [.i 0,.e,.i 0,.nils 1,.i 0,.nils 1,.i 0,.F,.e,.i 0,.i 0,.i 0,.i 0] [(0,1,(.i 1)),(1,7,(.t 68))])),.y 66 (.op 70 (.call 103 [11,0] [(.t 67),(.t 69)])),.y 66 (.N 71 70),.a 72 66 71]
 (.c 72 (.q [.L 73 10 8,.m 74 1,.s 100005 10 4 73,.m 5 74,.i 6 0,.F 7]
 .ret)))
 (.q [.f 75 12 0,.l 76 75,.m 9 76]
 (.reg [.m 77 10,.B 78 .add 77 1,.m 10 78])))))))
 (.reg [.m 43 11,.B 44 .add 43 1,.m 11 44]))))))
 (.norm [2,4,8,9] (.q [.i 14 1]
 (.seq (.q [.i 15 0]
 (.block 2 (.loop [2,4,8,9,14,15] (.seq (.q [.m 79 15,.f 80 2 0,.f 81 80 4,.f 82 81 0,.l 83 82,.n 84 83,.b 85 .lss 79 84]
 (.cond 85 .skip (.exit 2)))
 (.seq (.block 3 (.q [.f 88 2 0,.f 89 88 4,.f 90 89 0,.l 91 90,.m 92 15,.x 93 7 91 92,.f 94 93 0,.l 95 94,.m 96 9,.b 97 .gtr 95 96]
 (.c 97 (.reg [.i 14 0]))))
 (.reg [.m 86 15,.B 87 .add 86 1,.m 15 87]))))))
 (.norm [4,8,9,14] (.q [.L 98 10 8,.m 99 9,.m 100 14,.s 100006 10 4 98,.m 5 99,.m 6 100,.T 7]
 .ret))))))))))⟩
def lastCode:XCode:=.loop [2,4,8,9,14,15] (.seq (.q [.m 79 15,.f 80 2 0,.f 81 80 4,.f 82 81 0,.l 83 82,.n 84 83,.b 85 .lss 79 84]
 (.cond 85 .skip (.exit 2)))
 (.seq (.block 3 (.q [.f 88 2 0,.f 89 88 4,.f 90 89 0,.l 91 90,.m 92 15,.x 93 7 91 92,.f 94 93 0,.l 95 94,.m 96 9,.b 97 .gtr 95 96]
 (.c 97 (.reg [.i 14 0]))))
 (.reg [.m 86 15,.B 87 .add 86 1,.m 15 87])))
theorem last_loop {Te:TE} {Q:Post} {st:St} (n:NodeV) (p:Int) (cur:NodeV) (o0 o1 o2 o3:Nat) (f A:ByteArray) (X:List Go.X.T) (hr1:n.S.T.Rows.length≤2 ^ 20)
  (h0:norm 2 103 [2,4,8,9,14,15] st=⟨[(2,.bp 2 0),(4,.bp 4 0),(8,.bp 8 0),(9,.one (.pv (.string A))),(14,.one (.pv (.int .i64 1))),(15,.one (.pv (.int .i64 0)))],[(2,[.ro 1 (n.S.D.Secs.map fun y=>[slT false 1 uR y]),.ro 2 (n.S.D.Cache.map (WrV.enc false)),.pv (.int .i64 n.S.D.Fuse),.pv (.bool n.S.D.Down),.ro 7 (n.S.T.Rows.map (RowV.enc false)),.pv (.int .i64 p),.ro 3 (n.S.T.Marks.map MarkV.row),.pv (.int .i64 n.S.Gen),.pv (.int .i64 n.S.Place),.pv (.int .i64 n.Cs)]),(4,[.nils 1,.nils 2,.pv (.int .i64 0),.pv (.bool false),.nils 7,.pv (.int .i64 0),.nils 3,.pv (.int .i64 0),.pv (.int .i64 0),.pv (.int .i64 0)]),(8,[.rf 103 o0 [] 1 0 cur.S.D.Secs.length,.rf 103 o1 [] 2 0 cur.S.D.Cache.length,.pv (.int .i64 cur.S.D.Fuse),.pv (.bool cur.S.D.Down),.rf 103 o2 [] 7 0 cur.S.T.Rows.length,.pv (.int .i64 cur.S.T.Phase),.rf 103 o3 [] 3 0 cur.S.T.Marks.length,.pv (.int .i64 cur.S.Gen),.pv (.int .i64 cur.S.Place),.pv (.int .i64 cur.Cs)])],[(0,n.enc false),(1,[sT f]),(103,X)]⟩)
  (hQ:Q (.exit 2) ⟨[(85,.one (.pv (.bool false))),(84,.one (.pv (.int .i64 n.S.T.Rows.length))),(83,.one (.ro 7 (n.S.T.Rows.map (RowV.enc false)))),(82,.bp 2 4),(81,.bp 2 4),(80,.bp 2 0),(79,.one (.pv (.int .i64 n.S.T.Rows.length))),(2,.bp 2 0),(4,.bp 4 0),(8,.bp 8 0),(9,.one (.pv (.string A))),(14,.one (.pv (.int .i64 (bif n.S.T.Rows.any fun r=>isBehind A r.Key then 0 else 1)))),(15,.one (.pv (.int .i64 n.S.T.Rows.length)))],[(2,[.ro 1 (n.S.D.Secs.map fun y=>[slT false 1 uR y]),.ro 2 (n.S.D.Cache.map (WrV.enc false)),.pv (.int .i64 n.S.D.Fuse),.pv (.bool n.S.D.Down),.ro 7 (n.S.T.Rows.map (RowV.enc false)),.pv (.int .i64 p),.ro 3 (n.S.T.Marks.map MarkV.row),.pv (.int .i64 n.S.Gen),.pv (.int .i64 n.S.Place),.pv (.int .i64 n.Cs)]),(4,[.nils 1,.nils 2,.pv (.int .i64 0),.pv (.bool false),.nils 7,.pv (.int .i64 0),.nils 3,.pv (.int .i64 0),.pv (.int .i64 0),.pv (.int .i64 0)]),(8,[.rf 103 o0 [] 1 0 cur.S.D.Secs.length,.rf 103 o1 [] 2 0 cur.S.D.Cache.length,.pv (.int .i64 cur.S.D.Fuse),.pv (.bool cur.S.D.Down),.rf 103 o2 [] 7 0 cur.S.T.Rows.length,.pv (.int .i64 cur.S.T.Phase),.rf 103 o3 [] 3 0 cur.S.T.Marks.length,.pv (.int .i64 cur.S.Gen),.pv (.int .i64 cur.S.Place),.pv (.int .i64 cur.Cs)])],[(0,n.enc false),(1,[sT f]),(103,X)]⟩):runC Te 2 103 lastCode st Q:=by
 refine loop_of (σ:=Nat) (fun j=>⟨[(2,.bp 2 0),(4,.bp 4 0),(8,.bp 8 0),(9,.one (.pv (.string A))),(14,.one (.pv (.int .i64 (bif (n.S.T.Rows.take j).any fun r=>isBehind A r.Key then 0 else 1)))),(15,.one (.pv (.int .i64 j)))],[(2,[.ro 1 (n.S.D.Secs.map fun y=>[slT false 1 uR y]),.ro 2 (n.S.D.Cache.map (WrV.enc false)),.pv (.int .i64 n.S.D.Fuse),.pv (.bool n.S.D.Down),.ro 7 (n.S.T.Rows.map (RowV.enc false)),.pv (.int .i64 p),.ro 3 (n.S.T.Marks.map MarkV.row),.pv (.int .i64 n.S.Gen),.pv (.int .i64 n.S.Place),.pv (.int .i64 n.Cs)]),(4,[.nils 1,.nils 2,.pv (.int .i64 0),.pv (.bool false),.nils 7,.pv (.int .i64 0),.nils 3,.pv (.int .i64 0),.pv (.int .i64 0),.pv (.int .i64 0)]),(8,[.rf 103 o0 [] 1 0 cur.S.D.Secs.length,.rf 103 o1 [] 2 0 cur.S.D.Cache.length,.pv (.int .i64 cur.S.D.Fuse),.pv (.bool cur.S.D.Down),.rf 103 o2 [] 7 0 cur.S.T.Rows.length,.pv (.int .i64 cur.S.T.Phase),.rf 103 o3 [] 3 0 cur.S.T.Marks.length,.pv (.int .i64 cur.S.Gen),.pv (.int .i64 cur.S.Place),.pv (.int .i64 cur.Cs)])],[(0,n.enc false),(1,[sT f]),(103,X)]⟩) (fun j=>j≤n.S.T.Rows.length) (fun j=>n.S.T.Rows.length - j) 0 h0 (Nat.zero_le _) ?_
 intro j hj
 cases q3:decide ((j:Int) < (n.S.T.Rows.length:Int))
 ·have k0:j=n.S.T.Rows.length:=by simp only [decide_eq_false_iff_not] at q3; omega
  subst k0
  simp -implicitDefEqProofs only [go_sem,q3,List.take_length]
  exact hQ
 ·have k3:j < n.S.T.Rows.length:=by simp only [decide_eq_true_eq] at q3; omega
  have ea:=any_take (a:=A) k3
  have ew:IntKind.i64.wrap ((j:Int) + 1)=((j + 1:Nat):Int):=IntWalk.i64_in _ (by omega)
  cases g:isBehind A n.S.T.Rows[j].Key
  ·have g':=g
   rw [isBehind] at g'
   rw [g,Bool.or_false] at ea
   refine G4 q3 (List.getElem?_eq_getElem k3) g' ew ?_
   exact ⟨j + 1,by rw [ea] <;> rfl,k3,by omega⟩
  ·have g':=g
   rw [isBehind] at g'
   rw [g,Bool.or_true] at ea
   refine G4 q3 (List.getElem?_eq_getElem k3) g' ew ?_
   exact ⟨j + 1,by rw [ea] <;> rfl,k3,by omega⟩
theorem r_Dn {Te:TE} (c_F1:C_F1 Te) (c_F7:C_F7 Te) (c_Ea:C_Ea Te) (c_F6:C_F6 Te) (c_Et:C_Et Te) (c_Eu:C_Eu Te):C_Dn (RF Te x_Dn):=by
 intro n f hn
 have hL:=hn.len (by decide)
 have hr1:=hn.2.1.1
 refine X0 x_Dn.eq_1 ?_
 refine C0 (c_F1 n hL) ?_
 refine C0 (c_F7 n (hn.mono (by decide))) ?_
 cases g1:n.up
 ·have e:n.step f=(n,f,0,false):=by rw [NodeV.step,g1]; rfl
  exact F1 e
 refine G0 ?_
 refine C0 (c_Ea _) ?_
 cases g2:walks n.S.T.Phase
 ·have e:n.step f=(n,f,0,false):=by rw [NodeV.step,g1,g2]; rfl
  exact F1 e
 obtain ⟨k1,k2,_⟩:=up_ok g1
 have hw:=walks_or g2
 have hl:=behind_last (rows_sorted (NodeV.up_tab g1)) f
 have e:n.step f=(bif (stepN n.S.T.Phase n ((behind f n.S.T.Rows).take 2)).2 then ((stepN n.S.T.Phase n ((behind f n.S.T.Rows).take 2)).1,lastKey f ((behind f n.S.T.Rows).take 2),bif decide (((behind f n.S.T.Rows).length:Int) > 2) then 0 else 1,true) else ((stepN n.S.T.Phase n ((behind f n.S.T.Rows).take 2)).1,f,0,false)):=by rw [NodeV.step,g1,g2]; rfl
 rw [e,← hl]
 clear e hl
 generalize hp:n.S.T.Phase=p at hw
 refine G1 hp ?_
 refine loop_of (σ:=Bool×Nat×NodeV) (fun x=>cond x.1 (⟨[(1,.one (.pv (.string f))),(2,.bp 2 0),(4,.bp 4 0),(8,.bp 8 0),(9,.one (.pv (.string (lastKey f (behind f (n.S.T.Rows.take x.2.1)))))),(10,.one (.pv (.int .i64 (behind f (n.S.T.Rows.take x.2.1)).length))),(11,.one (.pv (.int .i64 x.2.1)))],[(2,[.ro 1 (n.S.D.Secs.map fun y=>[slT false 1 uR y]),.ro 2 (n.S.D.Cache.map (WrV.enc false)),.pv (.int .i64 n.S.D.Fuse),.pv (.bool n.S.D.Down),.ro 7 (n.S.T.Rows.map (RowV.enc false)),.pv (.int .i64 p),.ro 3 (n.S.T.Marks.map MarkV.row),.pv (.int .i64 n.S.Gen),.pv (.int .i64 n.S.Place),.pv (.int .i64 n.Cs)]),(4,[.nils 1,.nils 2,.pv (.int .i64 0),.pv (.bool false),.nils 7,.pv (.int .i64 0),.nils 3,.pv (.int .i64 0),.pv (.int .i64 0),.pv (.int .i64 0)]),(8,[.rf 103 1 [] 1 0 x.2.2.S.D.Secs.length,.rf 103 2 [] 2 0 x.2.2.S.D.Cache.length,.pv (.int .i64 x.2.2.S.D.Fuse),.pv (.bool x.2.2.S.D.Down),.rf 103 5 [] 7 0 x.2.2.S.T.Rows.length,.pv (.int .i64 x.2.2.S.T.Phase),.rf 103 7 [] 3 0 x.2.2.S.T.Marks.length,.pv (.int .i64 x.2.2.S.Gen),.pv (.int .i64 x.2.2.S.Place),.pv (.int .i64 x.2.2.Cs)])],[(0,n.enc false),(1,[sT f]),(103,bT true::x.2.2.S.enc true)]⟩) (⟨[(1,.one (.pv (.string f))),(2,.bp 2 0),(4,.bp 4 0),(8,.bp 8 0),(9,.one (.pv (.string (lastKey f (behind f (n.S.T.Rows.take x.2.1)))))),(10,.one (.pv (.int .i64 (behind f (n.S.T.Rows.take x.2.1)).length))),(11,.one (.pv (.int .i64 x.2.1)))],[(2,[.ro 1 (n.S.D.Secs.map fun y=>[slT false 1 uR y]),.ro 2 (n.S.D.Cache.map (WrV.enc false)),.pv (.int .i64 n.S.D.Fuse),.pv (.bool n.S.D.Down),.ro 7 (n.S.T.Rows.map (RowV.enc false)),.pv (.int .i64 p),.ro 3 (n.S.T.Marks.map MarkV.row),.pv (.int .i64 n.S.Gen),.pv (.int .i64 n.S.Place),.pv (.int .i64 n.Cs)]),(4,[.nils 1,.nils 2,.pv (.int .i64 0),.pv (.bool false),.nils 7,.pv (.int .i64 0),.nils 3,.pv (.int .i64 0),.pv (.int .i64 0),.pv (.int .i64 0)]),(8,[.rf 103 0 [] 1 0 x.2.2.S.D.Secs.length,.rf 103 1 [] 2 0 x.2.2.S.D.Cache.length,.pv (.int .i64 x.2.2.S.D.Fuse),.pv (.bool x.2.2.S.D.Down),.rf 103 4 [] 7 0 x.2.2.S.T.Rows.length,.pv (.int .i64 x.2.2.S.T.Phase),.rf 103 6 [] 3 0 x.2.2.S.T.Marks.length,.pv (.int .i64 x.2.2.S.Gen),.pv (.int .i64 x.2.2.S.Place),.pv (.int .i64 x.2.2.Cs)])],[(0,n.enc false),(1,[sT f]),(103,x.2.2.enc true)]⟩)) (fun x=>x.2.1≤n.S.T.Rows.length∧(behind f (n.S.T.Rows.take x.2.1)).length≤2∧stepN p n (behind f (n.S.T.Rows.take x.2.1))=(x.2.2,true)∧x.2.2.S.ok=true∧x.2.2.S.D.Down=false∧(x.1=false→x.2.2=n)) (fun x=>n.S.T.Rows.length - x.2.1) (false,0,n) ?_ ⟨Nat.zero_le _,Nat.zero_le _,rfl,k1,k2,fun _=>rfl⟩ ?_
 ·simp -implicitDefEqProofs (maxSteps:=1000000) only [go_sem,lastKey,behind,List.take_zero,List.filter_nil,List.getLast?_nil,hp]
  try rfl
 ·rintro ⟨b,i,cur⟩ ⟨hi,h2,hs,c1,c2,hb⟩
  simp only at hi h2 hs c1 c2 hb
  cases b
  ·have hb:=(hb rfl).symm
   subst hb
   cases q:decide ((i:Int) < (n.S.T.Rows.length:Int))&&decide (((behind f (n.S.T.Rows.take i)).length:Int) < 2)
   ·have hx:i=n.S.T.Rows.length∨(behind f (n.S.T.Rows.take i)).length=2:=by simp only [Bool.and_eq_false_iff,decide_eq_false_iff_not] at q; omega
    have et:=behind_take hx h2
    rw [et] at q hs ⊢
    rw [hs]
    generalize hA:lastKey f ((behind f n.S.T.Rows).take 2)=A
    cases q1:decide ((i:Int) < (n.S.T.Rows.length:Int))
    all_goals
     have q2:=q
     rw [q1] at q2
     simp only [Bool.true_and,Bool.false_and] at q2
     try simp -implicitDefEqProofs (maxSteps:=1000000) only [go_sem,q1,q2]
     repeat refine ⟨sc,?_⟩
     try exact sf
    all_goals
     refine last_loop n p n 0 1 4 6 f A (n.enc true) hr1 ?_ ?_
     ·simp -implicitDefEqProofs (maxSteps:=1000000) only [go_sem]
      try rfl
     ·exact F0
   ·rw [Bool.and_eq_true] at q
    obtain ⟨q1,q2⟩:=q
    have k3:i < n.S.T.Rows.length:=by simp only [decide_eq_true_eq] at q1; omega
    have k4:(behind f (n.S.T.Rows.take i)).length < 2:=by simp only [decide_eq_true_eq] at q2; omega
    have ew:IntKind.i64.wrap ((i:Int) + 1)=((i + 1:Nat):Int):=IntWalk.i64_in _ (by omega)
    have es:=behind_step (f:=f) k3
    have hr:=hn.2.1.2 _ (List.getElem_mem k3)
    have gl:=leq_not f n.S.T.Rows[i].Key
    cases g:isBehind f n.S.T.Rows[i].Key
    ·rw [g,cond_false,List.append_nil] at es
     rw [g] at gl
     try simp -implicitDefEqProofs (maxSteps:=1000000) only [go_sem,q1,q2,List.getElem?_eq_getElem k3,gl,ew]
     repeat refine ⟨sc,?_⟩
     try exact sf
     exact ⟨(false,i + 1,n),by rw [es]; rfl,⟨k3,by simp only [es]; omega,by simp only [es]; exact hs,c1,c2,fun _=>rfl⟩,by simp only; omega⟩
    ·rw [g,cond_true] at es
     rw [g] at gl
     have el:(behind f (n.S.T.Rows.take (i + 1))).length=(behind f (n.S.T.Rows.take i)).length + 1:=by rw [es,List.length_append]; rfl
     have ek:lastKey f (behind f (n.S.T.Rows.take (i + 1)))=n.S.T.Rows[i].Key:=by rw [es,lastKey_snoc]
     have e1:stepN p n (behind f (n.S.T.Rows.take (i + 1)))=stepN p n [n.S.T.Rows[i]]:=by rw [es,stepN_app,hs]; rfl
     have ed:IntKind.i64.wrap (((behind f (n.S.T.Rows.take i)).length:Int) + 1)=(((behind f (n.S.T.Rows.take i)).length + 1:Nat):Int):=IntWalk.i64_in _ (by omega)
     refine G4 q1 q2 (List.getElem?_eq_getElem k3) gl ?_
     refine C0 (c_F6 p n.S.T.Rows[i] hr hw) ?_
     refine C0 (c_Et (turned p n.S.T.Rows[i]) n.S.T.Rows[i]) ?_
     cases g3:rowSame (turned p n.S.T.Rows[i]) n.S.T.Rows[i]
     ·have td:=c_Eu n.S (recRow (turned p n.S.T.Rows[i])) c1 c2 (StoreV.ok_in c1).2 ⟨turned_in hr,Nat.zero_le _⟩
      have ha:=add_ok (recRow (turned p n.S.T.Rows[i])) c1
      refine G1 g3 ?_
      refine C0 (td) ?_
      cases g4:(n.S.add (recRow (turned p n.S.T.Rows[i]))).2
      ·have e3:=step_fail (i:=i + 1) (x:=n.added (recRow (turned p n.S.T.Rows[i]))) (by rw [e1,stepN,g3,g4]; rfl) (by omega)
       rw [e3]
       try simp -implicitDefEqProofs (maxSteps:=1000000) only [go_sem,g4,take_all,take_marks,NodeV.added]
       repeat refine ⟨sc,?_⟩
       try exact sf
       try rfl
      ·have e3:stepN p n (behind f (n.S.T.Rows.take (i + 1)))=(n.added (recRow (turned p n.S.T.Rows[i])),true):=by rw [e1,stepN,g3,g4]; rfl
       refine G3 g4 ed ew ?_
       exact ⟨(true,i + 1,n.added (recRow (turned p n.S.T.Rows[i]))),by simp only [el,ek,NodeV.added]; rfl,⟨k3,by simp only; omega,e3,ha.1,ha.2 g4,fun h=>by cases h⟩,by simp only; omega⟩
     ·have e3:stepN p n (behind f (n.S.T.Rows.take (i + 1)))=(n,true):=by rw [e1,stepN,g3]; rfl
      refine G3 g3 ed ew ?_
      exact ⟨(false,i + 1,n),by simp only [el,ek]; rfl,⟨k3,by simp only; omega,e3,c1,c2,fun _=>rfl⟩,by simp only; omega⟩
  ·cases q:decide ((i:Int) < (n.S.T.Rows.length:Int))&&decide (((behind f (n.S.T.Rows.take i)).length:Int) < 2)
   ·have hx:i=n.S.T.Rows.length∨(behind f (n.S.T.Rows.take i)).length=2:=by simp only [Bool.and_eq_false_iff,decide_eq_false_iff_not] at q; omega
    have et:=behind_take hx h2
    rw [et] at q hs ⊢
    rw [hs]
    generalize hA:lastKey f ((behind f n.S.T.Rows).take 2)=A
    cases q1:decide ((i:Int) < (n.S.T.Rows.length:Int))
    all_goals
     have q2:=q
     rw [q1] at q2
     simp only [Bool.true_and,Bool.false_and] at q2
     try simp -implicitDefEqProofs (maxSteps:=1000000) only [go_sem,q1,q2]
     repeat refine ⟨sc,?_⟩
     try exact sf
    all_goals
     refine last_loop n p cur 1 2 5 7 f A (bT true::cur.S.enc true) hr1 ?_ ?_
     ·simp -implicitDefEqProofs (maxSteps:=1000000) only [go_sem]
      try rfl
     ·exact F0
   ·rw [Bool.and_eq_true] at q
    obtain ⟨q1,q2⟩:=q
    have k3:i < n.S.T.Rows.length:=by simp only [decide_eq_true_eq] at q1; omega
    have k4:(behind f (n.S.T.Rows.take i)).length < 2:=by simp only [decide_eq_true_eq] at q2; omega
    have ew:IntKind.i64.wrap ((i:Int) + 1)=((i + 1:Nat):Int):=IntWalk.i64_in _ (by omega)
    have es:=behind_step (f:=f) k3
    have hr:=hn.2.1.2 _ (List.getElem_mem k3)
    have gl:=leq_not f n.S.T.Rows[i].Key
    cases g:isBehind f n.S.T.Rows[i].Key
    ·rw [g,cond_false,List.append_nil] at es
     rw [g] at gl
     try simp -implicitDefEqProofs (maxSteps:=1000000) only [go_sem,q1,q2,List.getElem?_eq_getElem k3,gl,ew]
     repeat refine ⟨sc,?_⟩
     try exact sf
     exact ⟨(true,i + 1,cur),by rw [es]; rfl,⟨k3,by simp only [es]; omega,by simp only [es]; exact hs,c1,c2,fun h=>by cases h⟩,by simp only; omega⟩
    ·rw [g,cond_true] at es
     rw [g] at gl
     have el:(behind f (n.S.T.Rows.take (i + 1))).length=(behind f (n.S.T.Rows.take i)).length + 1:=by rw [es,List.length_append]; rfl
     have ek:lastKey f (behind f (n.S.T.Rows.take (i + 1)))=n.S.T.Rows[i].Key:=by rw [es,lastKey_snoc]
     have e1:stepN p n (behind f (n.S.T.Rows.take (i + 1)))=stepN p cur [n.S.T.Rows[i]]:=by rw [es,stepN_app,hs]; rfl
     have ed:IntKind.i64.wrap (((behind f (n.S.T.Rows.take i)).length:Int) + 1)=(((behind f (n.S.T.Rows.take i)).length + 1:Nat):Int):=IntWalk.i64_in _ (by omega)
     refine G4 q1 q2 (List.getElem?_eq_getElem k3) gl ?_
     refine C0 (c_F6 p n.S.T.Rows[i] hr hw) ?_
     refine C0 (c_Et (turned p n.S.T.Rows[i]) n.S.T.Rows[i]) ?_
     cases g3:rowSame (turned p n.S.T.Rows[i]) n.S.T.Rows[i]
     ·have td:=c_Eu cur.S (recRow (turned p n.S.T.Rows[i])) c1 c2 (StoreV.ok_in c1).2 ⟨turned_in hr,Nat.zero_le _⟩
      have ha:=add_ok (recRow (turned p n.S.T.Rows[i])) c1
      refine G1 g3 ?_
      refine C0 (td) ?_
      cases g4:(cur.S.add (recRow (turned p n.S.T.Rows[i]))).2
      ·have e3:=step_fail (i:=i + 1) (x:=cur.added (recRow (turned p n.S.T.Rows[i]))) (by rw [e1,stepN,g3,g4]; rfl) (by omega)
       rw [e3]
       try simp -implicitDefEqProofs (maxSteps:=1000000) only [go_sem,g4,take_all,take_marks,NodeV.added]
       repeat refine ⟨sc,?_⟩
       try exact sf
       try rfl
      ·have e3:stepN p n (behind f (n.S.T.Rows.take (i + 1)))=(cur.added (recRow (turned p n.S.T.Rows[i])),true):=by rw [e1,stepN,g3,g4]; rfl
       refine G3 g4 ed ew ?_
       exact ⟨(true,i + 1,cur.added (recRow (turned p n.S.T.Rows[i]))),by simp only [el,ek,NodeV.added]; rfl,⟨k3,by simp only; omega,e3,ha.1,ha.2 g4,fun h=>by cases h⟩,by simp only; omega⟩
     ·have e3:stepN p n (behind f (n.S.T.Rows.take (i + 1)))=(cur,true):=by rw [e1,stepN,g3]; rfl
      refine G3 g3 ed ew ?_
      exact ⟨(true,i + 1,cur),by simp only [el,ek]; rfl,⟨k3,by simp only; omega,e3,c1,c2,fun h=>by cases h⟩,by simp only; omega⟩
def x_Gm:FnX:=⟨78,[.tmp 4],
  .q [.op 4 (.mv (.k (.one (.nils 1))))]
 (.q [.m 6 1,.op 7 (.conv (.int .u32) (.t 6)),.m 5 7]
 (.block 0 (.q [.m 12 5,.op 13 (.bin .leq (.t 12) (.k (.one (.pv (.int .u32 2047))))),.m 11 13]
 (.cond 11 (.q [.m 14 0,.m 15 1,.op 16 (.bin .shr (.t 15) (.k (.one (.pv (.int .u64 6))))),.op 17 (.conv (.int .u8) (.t 16)),.op 18 (.bin .or (.k (.one (.pv (.int .u8 192)))) (.t 17)),.m 19 1,.op 20 (.conv (.int .u8) (.t 19)),.op 21 (.bin .and (.t 20) (.k (.one (.pv (.int .u8 63))))),.op 22 (.bin .or (.k (.one (.pv (.int .u8 128)))) (.t 21)),.op 23 (.bslice 1 [(.t 18),(.t 22)]),.op 24 (.app 1 1 (.t 14) (.t 23)),.m 4 24]
 .ret) (.seq (.q [.m 26 5,.op 27 (.bin .lss (.t 26) (.k (.one (.pv (.int .u32 55296))))),.m 25 27]
 (.cond 25 .skip (.reg [.m 28 5,.op 29 (.bin .lss (.k (.one (.pv (.int .u32 57343)))) (.t 28)),.m 30 29,.y 30 (.m 31 5),.y 30 (.op 32 (.bin .leq (.t 31) (.k (.one (.pv (.int .u32 65535)))))),.a 33 30 32,.m 25 33])))
 (.cond 25 (.q [.m 34 0,.m 35 1,.op 36 (.bin .shr (.t 35) (.k (.one (.pv (.int .u64 12))))),.op 37 (.conv (.int .u8) (.t 36)),.op 38 (.bin .or (.k (.one (.pv (.int .u8 224)))) (.t 37)),.m 39 1,.op 40 (.bin .shr (.t 39) (.k (.one (.pv (.int .u64 6))))),.op 41 (.conv (.int .u8) (.t 40)),.op 42 (.bin .and (.t 41) (.k (.one (.pv (.int .u8 63))))),.op 43 (.bin .or (.k (.one (.pv (.int .u8 128)))) (.t 42)),.m 44 1,.op 45 (.conv (.int .u8) (.t 44)),.op 46 (.bin .and (.t 45) (.k (.one (.pv (.int .u8 63))))),.op 47 (.bin .or (.k (.one (.pv (.int .u8 128)))) (.t 46)),.op 48 (.bslice 1 [(.t 38),(.t 43),(.t 47)]),.op 49 (.app 1 1 (.t 34) (.t 48)),.m 4 49]
 .ret) (.q [.m 51 5,.op 52 (.bin .gtr (.t 51) (.k (.one (.pv (.int .u32 65535))))),.m 53 52,.y 53 (.m 54 5),.y 53 (.op 55 (.bin .leq (.t 54) (.k (.one (.pv (.int .u32 1114111)))))),.a 56 53 55,.m 50 56]
 (.cond 50 (.q [.m 57 0,.m 58 1,.op 59 (.bin .shr (.t 58) (.k (.one (.pv (.int .u64 18))))),.op 60 (.conv (.int .u8) (.t 59)),.op 61 (.bin .or (.k (.one (.pv (.int .u8 240)))) (.t 60)),.m 62 1,.op 63 (.bin .shr (.t 62) (.k (.one (.pv (.int .u64 12))))),.op 64 (.conv (.int .u8) (.t 63)),.op 65 (.bin .and (.t 64) (.k (.one (.pv (.int .u8 63))))),.op 66 (.bin .or (.k (.one (.pv (.int .u8 128)))) (.t 65)),.m 67 1,.op 68 (.bin .shr (.t 67) (.k (.one (.pv (.int .u64 6))))),.op 69 (.conv (.int .u8) (.t 68)),.op 70 (.bin .and (.t 69) (.k (.one (.pv (.int .u8 63))))),.op 71 (.bin .or (.k (.one (.pv (.int .u8 128)))) (.t 70)),.m 72 1,.op 73 (.conv (.int .u8) (.t 72)),.op 74 (.bin .and (.t 73) (.k (.one (.pv (.int .u8 63))))),.op 75 (.bin .or (.k (.one (.pv (.int .u8 128)))) (.t 74)),.op 76 (.bslice 1 [(.t 61),(.t 66),(.t 71),(.t 75)]),.op 77 (.app 1 1 (.t 57) (.t 76)),.m 4 77]
 .ret) (.q [.m 8 0,.op 9 (.bslice 1 [(.k (.one (.pv (.int .u8 239)))),(.k (.one (.pv (.int .u8 191)))),(.k (.one (.pv (.int .u8 189))))]),.op 10 (.app 1 1 (.t 8) (.t 9)),.m 4 10]
 .ret)))))))))⟩
theorem r_Gm {Te:TE}:C_Gm (RF Te x_Gm):=by
 intro b m hb hm
 refine run0 ?_
 obtain ⟨hq,h1,h2⟩:=hm
 replace hq:¬ m≤127:=by omega
 have w32:IntKind.u32.wrap (m:Int)=(m:Int):=by rw [IntKind.wrap_u32]; omega
 have d6:(m:Int).fdiv (2 ^ 6)=((m / 64:Nat):Int):=fdivN m 64
 have d12:(m:Int).fdiv (2 ^ 12)=((m / 4096:Nat):Int):=fdivN m 4096
 have d18:(m:Int).fdiv (2 ^ 18)=((m / 262144:Nat):Int):=fdivN m 262144
 have n6:Nat.min 6 32=6:=rfl
 have n12:Nat.min 12 32=12:=rfl
 have n18:Nat.min 18 32=18:=rfl
 have a0:andK .u8 (((mkU (m:Int)).toNat:Nat):Int) 63=((m % 64:Nat):Int):=by rw [mkU_toNat,and8 _ (by omega)]; omega
 have a6:andK .u8 (((mkU ((m / 64:Nat):Int)).toNat:Nat):Int) 63=((m / 64 % 64:Nat):Int):=by rw [mkU_toNat,and8 _ (by omega)]; omega
 have a12:andK .u8 (((mkU ((m / 4096:Nat):Int)).toNat:Nat):Int) 63=((m / 4096 % 64:Nat):Int):=by rw [mkU_toNat,and8 _ (by omega)]; omega
 have o0:orK .u8 128 ((m % 64:Nat):Int)=((UInt8.ofNat (128 + m % 64)).toNat:Int):=or8 128 6 2 rfl (by omega) (by omega)
 have o6:orK .u8 128 ((m / 64 % 64:Nat):Int)=((UInt8.ofNat (128 + m / 64 % 64)).toNat:Int):=or8 128 6 2 rfl (by omega) (by omega)
 have o12:orK .u8 128 ((m / 4096 % 64:Nat):Int)=((UInt8.ofNat (128 + m / 4096 % 64)).toNat:Int):=or8 128 6 2 rfl (by omega) (by omega)
 cases q2:decide ((m:Int)≤2047)
 ·have hq2:¬ m≤2047:=by simp only [decide_eq_false_iff_not] at q2; omega
  cases q3:decide ((m:Int)≤65535)
  ·have hq3:¬ m≤65535:=by simp only [decide_eq_false_iff_not] at q3; omega
   have t:orK .u8 240 (((mkU ((m / 262144:Nat):Int)).toNat:Nat):Int)=((UInt8.ofNat (240 + m / 262144)).toNat:Int):=by
    rw [mkU_toNat,Nat.mod_eq_of_lt (by omega)]; exact or8 240 3 30 rfl (by omega) (by omega)
   have ee:List.take (b.length + 4) (List.map uR b++[[uT (UInt8.ofNat (240 + m / 262144))],[uT (UInt8.ofNat (128 + m / 4096 % 64))],[uT (UInt8.ofNat (128 + m / 64 % 64))],[uT (UInt8.ofNat (128 + m % 64))]])=List.map uR (b++enc8 m):=by
    rw [List.take_of_length_le (by simp)]
    simp only [enc8,if_neg hq,if_neg hq2,if_neg hq3,List.map_append,List.map_cons,List.map_nil]
   have c1:decide ((m:Int) < 55296)=false:=decide_eq_false (by omega)
   have c2:decide ((57343:Int) < (m:Int))=true:=decide_eq_true (by omega)
   have c3:decide ((m:Int) > 65535)=true:=decide_eq_true (by omega)
   have c4:decide ((m:Int)≤1114111)=true:=decide_eq_true (by omega)
   simp -implicitDefEqProofs (maxSteps:=1000000) only [x_Gm,go_sem,w32,q2,q3,c1,c2,c3,c4,n6,n12,n18,d6,d12,d18,mkU_wrap,a0,a6,a12,o0,o6,o12,t,ee]
   repeat refine ⟨sc,?_⟩
   try exact sf
  ·have hq3:m≤65535:=by simp only [decide_eq_true_eq] at q3; omega
   have t:orK .u8 224 (((mkU ((m / 4096:Nat):Int)).toNat:Nat):Int)=((UInt8.ofNat (224 + m / 4096)).toNat:Int):=by
    rw [mkU_toNat,Nat.mod_eq_of_lt (by omega)]; exact or8 224 4 14 rfl (by omega) (by omega)
   have ee:List.take (b.length + 3) (List.map uR b++[[uT (UInt8.ofNat (224 + m / 4096))],[uT (UInt8.ofNat (128 + m / 64 % 64))],[uT (UInt8.ofNat (128 + m % 64))]])=List.map uR (b++enc8 m):=by
    rw [List.take_of_length_le (by simp)]
    simp only [enc8,if_neg hq,if_neg hq2,if_pos hq3,List.map_append,List.map_cons,List.map_nil]
   cases c1:decide ((m:Int) < 55296)
   ·have c2:decide ((57343:Int) < (m:Int))=true:=decide_eq_true (by simp only [decide_eq_false_iff_not] at c1; omega)
    simp -implicitDefEqProofs (maxSteps:=1000000) only [x_Gm,go_sem,w32,q2,q3,c1,c2,n6,n12,d6,d12,mkU_wrap,a0,a6,o0,o6,t,ee]
    repeat refine ⟨sc,?_⟩
    try exact sf
   ·simp -implicitDefEqProofs (maxSteps:=1000000) only [x_Gm,go_sem,w32,q2,q3,c1,n6,n12,d6,d12,mkU_wrap,a0,a6,o0,o6,t,ee]
    repeat refine ⟨sc,?_⟩
    try exact sf
 ·have hq2:m≤2047:=by simp only [decide_eq_true_eq] at q2; omega
  have t:orK .u8 192 (((mkU ((m / 64:Nat):Int)).toNat:Nat):Int)=((UInt8.ofNat (192 + m / 64)).toNat:Int):=by
   rw [mkU_toNat,Nat.mod_eq_of_lt (by omega)]; exact or8 192 6 3 rfl (by omega) (by omega)
  have ee:List.take (b.length + 2) (List.map uR b++[[uT (UInt8.ofNat (192 + m / 64))],[uT (UInt8.ofNat (128 + m % 64))]])=List.map uR (b++enc8 m):=by
   rw [List.take_of_length_le (by simp)]
   simp only [enc8,if_neg hq,if_pos hq2,List.map_append,List.map_cons,List.map_nil]
  simp -implicitDefEqProofs (maxSteps:=1000000) only [x_Gm,go_sem,w32,q2,n6,d6,mkU_wrap,a0,o0,t,ee]
  repeat refine ⟨sc,?_⟩
  try exact sf
def x_Dg:FnX:=⟨44,[.cell 8 (some 10),.tmp 9,.tmp 10],
  .q [.v 4 0,.op 8 (.alloc [.nils 1,.nils 2,.i 0,.F,.nils 7,.i 0,.nils 3,.i 0,.i 0,.i 0]),.i 9 0,.F 10]
 (.q [.L 15 10 4,.m 16 1,.m 17 2,.c 18 108 [15,16,17],.m 14 18,.e 19 14 0,.e 20 14 1,.m 11 19,.m 12 20]
 (.seq (.q [.m 21 12]
 (.c 21 (.q [.L 22 10 4,.c 23 65 [22],.m 24 11,.s 100001 10 8 23,.m 9 24,.F 10]
 .ret)))
 (.q [.i 13 0]
 (.seq (.q [.m 25 3,.c 26 101 [25],.N 27 26]
 (.cond 27 (.reg [.i 13 1]) (.q [.f 28 4 0,.f 29 28 4,.L 30 3 29,.m 31 3,.c 32 104 [30,31],.B 33 .lss 32 0]
 (.c 33 (.reg [.i 13 2])))))
 (.q [.L 34 10 4,.m 35 3,.m 36 1,.m 37 2,.m 38 13,.op 39 (.build [.i 0,.e,.i 0,.nils 1,.i 0,.nils 1,.i 0,.F,.e,.i 0,.i 0,.i 0,.i 0] [(0,1,(.i 2)),(8,1,(.t 35)),(10,1,(.t 36)),(11,1,(.t 37)),(12,1,(.t 38))]),.c 40 110 [34,39],.e 41 40 0,.e 42 40 1,.e 43 40 2,.s 100002 10 8 41,.m 9 42,.m 10 43]
 .ret)))))⟩
theorem r_Dg {Te:TE} (c_F5:C_F5 Te) (c_F1:C_F1 Te) (c_De:C_De Te) (c_Dx:C_Dx Te) (c_F4:C_F4 Te):C_Dg (RF Te x_Dg):=by
 intro n who seq key hn hk
 have hL:=hn.len (by decide)
 refine X0 x_Dg.eq_1 ?_
 refine C0 (c_F5 n _ _ (hn.mono (by decide))) ?_
 cases g3:(n.old who seq).2
 rotate_left
 ·have e:n.del who seq key=(n,(n.old who seq).1,false):=by rw [NodeV.del,g3]; rfl
  refine G1 g3 ?_
  exact D1 (c_F1 n hL) e
 have e:n.del who seq key=n.changed ((RecV.mk 2 RowV.zero key 0 who seq (n.delCode key)).told):=by rw [NodeV.del,g3]; rfl
 have hu:n.up=true:=by
  cases g:n.up
  ·rw [NodeV.old,g] at g3; cases g3
  ·rfl
 have hr:(RecV.mk 2 RowV.zero key 0 who seq (n.delCode key)).In (2 ^ 20):=⟨RowV.zero_in _,hk⟩
 have tl:=c_F4 n _ hu hn hr
 refine G1 g3 ?_
 refine C0 (c_De key (by omega)) ?_
 cases g1:nameOk key
 ·have ec:n.delCode key=1:=by rw [NodeV.delCode,g1]; rfl
  rw [ec] at tl e
  refine G0 ?_
  exact D1 (tl) e
 refine G0 ?_
 refine C0 (c_Dx n.S.T key (by have:=hn.2.1.1; omega)) ?_
 cases g2:decide (rowAt n.S.T.Rows key < 0)
 ·have ec:n.delCode key=0:=by rw [NodeV.delCode,g1,g2]; rfl
  rw [ec] at tl e
  refine G1 g2 ?_
  exact D1 (tl) e
 ·have ec:n.delCode key=2:=by rw [NodeV.delCode,g1,g2]; rfl
  rw [ec] at tl e
  refine G1 g2 ?_
  exact D1 (tl) e
def x_Dm:FnX:=⟨68,[.cell 10 (some 10),.tmp 11,.tmp 12],
  .q [.v 5 0,.op 10 (.alloc [.nils 1,.nils 2,.i 0,.F,.nils 7,.i 0,.nils 3,.i 0,.i 0,.i 0]),.i 11 0,.F 12]
 (.q [.L 18 10 5,.m 19 1,.m 20 2,.c 21 108 [18,19,20],.m 17 21,.e 22 17 0,.e 23 17 1,.m 13 22,.m 14 23]
 (.seq (.q [.m 24 14]
 (.c 24 (.q [.L 25 10 5,.c 26 65 [25],.m 27 13,.s 100001 10 10 26,.m 11 27,.F 12]
 .ret)))
 (.q [.f 29 5 0,.f 30 29 4,.f 31 30 1,.l 32 31,.m 33 3,.f 34 5 9,.l 35 34,.m 36 4,.c 37 109 [32,33,35,36],.m 28 37,.e 38 28 0,.e 39 28 1,.op 15 (.alloc [.e,.i 0,.nils 1,.i 0,.nils 1,.i 0,.F]),.s 100002 7 15 38,.m 16 39]
 (.seq (.q [.m 40 16,.B 41 .eql 40 0,.m 42 41,.y 42 (.f 43 5 0),.y 42 (.f 44 43 4),.y 42 (.L 45 3 44),.y 42 (.m 46 3),.y 42 (.c 47 104 [45,46]),.y 42 (.B 48 .lss 47 0),.a 49 42 48,.m 50 49,.y 50 (.f 51 5 0),.y 50 (.f 52 51 4),.y 50 (.f 53 52 0),.y 50 (.l 54 53),.y 50 (.n 55 54),.y 50 (.B 56 .geq 55 8),.a 57 50 56]
 (.c 57 (.reg [.i 16 5])))
 (.q [.L 58 10 5,.L 59 7 15,.m 60 1,.m 61 2,.m 62 16,.op 63 (.build [.i 0,.e,.i 0,.nils 1,.i 0,.nils 1,.i 0,.F,.e,.i 0,.i 0,.i 0,.i 0] [(0,1,(.i 1)),(1,7,(.t 59)),(10,1,(.t 60)),(11,1,(.t 61)),(12,1,(.t 62))]),.c 64 110 [58,63],.e 65 64 0,.e 66 64 1,.e 67 64 2,.s 100003 10 10 65,.m 11 66,.m 12 67]
 .ret)))))⟩
theorem r_Dm {Te:TE} (c_F5:C_F5 Te) (c_F1:C_F1 Te) (c_Dy:C_Dy Te) (c_Dx:C_Dx Te) (c_F4:C_F4 Te):C_Dm (RF Te x_Dm):=by
 intro n who seq key s hn hk hs
 have hL:=hn.len (by decide)
 refine X0 x_Dm.eq_1 ?_
 refine C0 (c_F5 n _ _ (hn.mono (by decide))) ?_
 cases g3:(n.old who seq).2
 rotate_left
 ·have e:n.putIn who seq key s=(n,(n.old who seq).1,false):=by rw [NodeV.putIn,g3]; rfl
  refine G1 g3 ?_
  exact D1 (c_F1 n hL) e
 have e:n.putIn who seq key s=n.changed ((recRowBy (rowOf n.S.T.Phase key n.Cs s).1 who seq (n.putCode key s)).told):=by rw [NodeV.putIn,g3]; rfl
 have hu:n.up=true:=by
  cases g:n.up
  ·rw [NodeV.old,g] at g3; cases g3
  ·rfl
 have h8:n.S.T.Rows.length≤8:=by
  have:=NodeV.up_tab hu
  simp only [TabV.ok,Bool.and_eq_true,decide_eq_true_eq] at this
  have:=this.2.1
  omega
 have hr:(recRowBy (rowOf n.S.T.Phase key n.Cs s).1 who seq (n.putCode key s)).In (2 ^ 20):=⟨rowOf_in hk,Nat.zero_le _⟩
 have tl:=c_F4 n _ hu hn hr
 refine G1 g3 ?_
 refine C0 (c_Dy n.S.T.Phase key n.Cs s hk hs) ?_
 cases g1:((rowOf n.S.T.Phase key n.Cs s).2==0)
 ·have ec:n.putCode key s=(rowOf n.S.T.Phase key n.Cs s).2:=by rw [NodeV.putCode,g1]; rfl
  rw [ec] at tl e
  refine G1 g1 ?_
  exact D1 (tl) e
 have g0:(rowOf n.S.T.Phase key n.Cs s).2=0:=eq_of_beq g1
 refine G1 g1 ?_
 refine C0 (c_Dx n.S.T key (by have:=hn.2.1.1; omega)) ?_
 cases g2:decide (rowAt n.S.T.Rows key < 0)
 ·have ec:n.putCode key s=(rowOf n.S.T.Phase key n.Cs s).2:=by rw [NodeV.putCode,g1,g2]; rfl
  rw [ec] at tl e
  refine G1 g2 ?_
  exact D1 (tl) e
 ·cases g3:((n.S.T.Rows.length:Int)==8)
  ·have ec:n.putCode key s=(rowOf n.S.T.Phase key n.Cs s).2:=by rw [NodeV.putCode,g1,g2,g3]; rfl
   have g4:decide ((n.S.T.Rows.length:Int)≥8)=false:=by simp only [beq_eq_false_iff_ne] at g3; exact decide_eq_false (by omega)
   rw [ec] at tl e
   refine G2 g2 g4 ?_
   exact D1 (tl) e
  ·have ec:n.putCode key s=5:=by rw [NodeV.putCode,g1,g2,g3]; rfl
   have g4:decide ((n.S.T.Rows.length:Int)≥8)=true:=by simp only [beq_iff_eq] at g3; exact decide_eq_true (by omega)
   rw [ec] at tl e
   refine G2 g2 g4 ?_
   exact D1 (tl) e
def x_Ec:FnX:=⟨58,[.cell 2 (some 4)],
  .q [.v 1 0,.op 2 (.alloc [.nils 1,.nils 2,.i 0,.F])]
 (.q [.f 6 1 2,.l 7 6,.f 8 1 3,.l 9 8,.op 10 (.build [.nils 1,.nils 2,.i 0,.F] [(2,1,(.t 7)),(3,1,(.t 9))]),.op 3 (.alloc [.nils 1,.nils 2,.i 0,.F]),.s 100001 4 3 10]
 (.seq (.q [.i 4 0]
 (.up 3 1 300001 (.up 3 0 300000 (.block 0 (.loop [1,2,3,4] (.seq (.q [.m 11 4,.f 12 1 0,.l 13 12,.n 14 13,.b 15 .lss 11 14]
 (.cond 15 .skip (.exit 0)))
 (.seq (.block 1 (.draw [.f 18 3 0,.l 19 18,.op 20 (.bslice 1 []),.f 21 1 0,.l 22 21,.m 23 4,.x 24 1 22 23,.l 25 24,.op 26 (.app 1 1 (.t 20) (.t 25)),.op 27 (.bslice 1 [(.t 26)]),.op 28 (.app 1 24 (.t 19) (.t 27)),.f 29 3 0,.s 100002 1 29 28] [[],[0],[],[],[3],[],[4,5],[6],[2,7],[8],[1,9,8],[0,1,2,3,4,5,6,7,8,9,10],[11,10,10,0,1,2,3,4,5,6,7,8,9,10]]))
 (.reg [.m 16 4,.B 17 .add 16 1,.m 4 17]))))))))
 (.norm [1,2,3] (.seq (.q [.i 5 0]
 (.block 2 (.loop [1,2,3,5] (.seq (.q [.m 30 5,.f 31 1 1,.l 32 31,.n 33 32,.b 34 .lss 30 33]
 (.cond 34 .skip (.exit 2)))
 (.seq (.block 3 (.draw [.f 37 3 1,.l 38 37,.f 39 1 1,.l 40 39,.m 41 5,.x 42 2 40 41,.f 43 42 0,.l 44 43,.op 45 (.bslice 1 []),.f 46 1 1,.l 47 46,.m 48 5,.x 49 2 47 48,.f 50 49 1,.l 51 50,.op 52 (.app 1 1 (.t 45) (.t 51)),.op 53 (.build [.i 0,.nils 1] [(0,1,(.t 44)),(1,1,(.t 52))]),.op 54 (.bslice 2 [(.t 53)]),.op 55 (.app 2 32 (.t 38) (.t 54)),.f 56 3 1,.s 100003 1 56 55] [[],[0],[],[2],[],[3,4],[5],[6],[],[],[9],[],[10,11],[12],[13],[8,14],[7,15],[16],[1,17,15],[0,1,2,3,4,5,6,7,8,9,10,11,12,13,14,15,16,17,18],[19,18,18,0,1,2,3,4,5,6,7,8,9,10,11,12,13,14,15,16,17,18]]))
 (.reg [.m 35 5,.B 36 .add 35 1,.m 5 36]))))))
 (.norm [2,3] (.q [.L 57 4 3,.s 100004 4 2 57]
 .ret))))))⟩
theorem r_Ec {Te:TE}:C_Ec (RF Te x_Ec):=by
 intro d h
 obtain ⟨⟨hS,hSl⟩,hC,hCl⟩:=h
 refine X0 x_Ec.eq_1 ?_
 refine loop_of (σ:=Nat×List (List UInt8)) (fun x=>⟨[(1,.bp 1 0),(2,.bp 2 0),(3,.bp 3 0),(4,.one (.pv (.int .i64 x.1)))],[(1,[.ro 1 (d.Secs.map (secR false)),.ro 2 (d.Cache.map (WrV.enc false)),.pv (.int .i64 d.Fuse),.pv (.bool d.Down)]),(2,[.nils 1,.nils 2,.pv (.int .i64 0),.pv (.bool false)]),(3,[.rf 59 0 [] 1 0 x.2.length,.rf 60 0 [] 2 0 0,.pv (.int .i64 d.Fuse),.pv (.bool d.Down)])],[(0,d.enc false),(59,[slT true 1 (secR true) x.2]),(60,[slT true 2 (WrV.enc true) []])]⟩) (fun x=>x.1≤d.Secs.length∧x.2=d.Secs.take x.1) (fun x=>d.Secs.length - x.1) (0,[]) ?_ ⟨Nat.zero_le _,rfl⟩ ?_
 ·simp -implicitDefEqProofs (maxSteps:=1000000) only [go_sem]
  try rfl
 ·rintro ⟨i,l⟩ ⟨hi,he⟩
  simp only at hi he
  have hl:l.length=i:=by rw [he,List.length_take]; omega
  cases q:decide ((i:Int) < (d.Secs.length:Int))
  ·have k0:i=d.Secs.length:=by simp only [decide_eq_false_iff_not] at q; omega
   rw [k0,List.take_length] at he
   subst he
   refine G1 q ?_
   refine loop_of (σ:=Nat×List WrV) (fun x=>⟨[(1,.bp 1 0),(2,.bp 2 0),(3,.bp 3 0),(5,.one (.pv (.int .i64 x.1)))],[(1,[.ro 1 (d.Secs.map (secR false)),.ro 2 (d.Cache.map (WrV.enc false)),.pv (.int .i64 d.Fuse),.pv (.bool d.Down)]),(2,[.nils 1,.nils 2,.pv (.int .i64 0),.pv (.bool false)]),(3,[.rf 59 0 [] 1 0 d.Secs.length,.rf 60 0 [] 2 0 x.2.length,.pv (.int .i64 d.Fuse),.pv (.bool d.Down)])],[(0,d.enc false),(59,[slT true 1 (secR true) d.Secs]),(60,[slT true 2 (WrV.enc true) x.2])]⟩) (fun x=>x.1≤d.Cache.length∧x.2=d.Cache.take x.1) (fun x=>d.Cache.length - x.1) (0,[]) ?_ ⟨Nat.zero_le _,rfl⟩ ?_
   ·simp -implicitDefEqProofs (maxSteps:=1000000) only [go_sem]
    try rfl
   ·rintro ⟨j,m⟩ ⟨hj,hm⟩
    simp only at hj hm
    have hml:m.length=j:=by rw [hm,List.length_take]; omega
    cases q2:decide ((j:Int) < (d.Cache.length:Int))
    ·have k2:j=d.Cache.length:=by simp only [decide_eq_false_iff_not] at q2; omega
     rw [k2,List.take_length] at hm
     subst hm
     exact F1 q2
    ·have k2:j < d.Cache.length:=by simp only [decide_eq_true_eq] at q2; omega
     have hb:d.Cache[j].B.length≤2 ^ 21:=hCl _ (List.getElem_mem k2)
     have ea:=app1W m d.Cache[j]
     refine G3 q2 (List.getElem?_eq_getElem k2) ea ?_
     refine ⟨(j + 1,m++[d.Cache[j]]),?_,⟨k2,by rw [hm,List.take_succ_eq_append_getElem k2]⟩,by simp only; omega⟩
     rw [IntWalk.i64_in _ (by omega)]
     simp only [List.length_append]
     rfl
  ·have k1:i < d.Secs.length:=by simp only [decide_eq_true_eq] at q; omega
   have hb:d.Secs[i].length≤2 ^ 21:=hSl _ (List.getElem_mem k1)
   have ea:=app1S l d.Secs[i]
   refine G3 q (List.getElem?_eq_getElem k1) ea ?_
   refine ⟨(i + 1,l++[d.Secs[i]]),?_,⟨k1,by rw [he,List.take_succ_eq_append_getElem k1]⟩,by simp only; omega⟩
   rw [IntWalk.i64_in _ (by omega)]
   simp only [List.length_append]
   rfl
def x_Bu:FnX:=⟨29,[.cell 2 (some 3)],
  .q [.v 1 0,.op 2 (.alloc [.nils 7,.i 0,.nils 3])]
 (.seq (.draw [.f 6 1 1,.l 7 6,.op 8 (.bslice 3 []),.f 9 1 2,.l 10 9,.op 11 (.app 3 24 (.t 8) (.t 10)),.op 12 (.build [.nils 7,.i 0,.nils 3] [(1,1,(.t 7)),(2,1,(.t 11))]),.op 3 (.alloc [.nils 7,.i 0,.nils 3]),.s 100001 3 3 12] [[],[0],[],[],[3],[2,4],[1,5],[],[7,6,5,0,1,2,3,4,5,6,7]])
 (.seq (.q [.f 13 1 0,.l 14 13,.n 15 14,.i 16 0]
 (.up 3 0 300000 (.block 0 (.loop [2,3,14,15,16] (.q [.b 17 .lss 16 15]
 (.seq (.cond 17 .skip (.exit 0))
 (.seq (.block 1 (.q [.x 18 7 14 16,.L 19 7 18,.op 5 (.alloc [.e,.i 0,.nils 1,.i 0,.nils 1,.i 0,.F]),.s 100002 7 5 19]
 (.draw [.f 20 3 0,.l 21 20,.L 22 7 5,.c 23 252 [22],.op 24 (.bslice 7 [(.t 23)]),.op 25 (.app 7 96 (.t 21) (.t 24)),.f 26 3 0,.s 100003 1 26 25] [[],[0],[],[2],[3],[1,4,3],[0,1,2,3,4,5],[6,5,5,0,1,2,3,4,5]])))
 (.reg [.B 27 .add 16 1,.m 16 27]))))))))
 (.norm [2,3] (.q [.L 28 3 3,.s 100004 3 2 28]
 .ret))))⟩
theorem r_Bu {Te:TE} (c_Bs:C_Bs Te):C_Bu (RF Te x_Bu):=by
 intro t h
 obtain ⟨⟨hR,hRl⟩,hM⟩:=h
 refine X0 x_Bu.eq_1 ?_
 refine loop_of (σ:=Nat×List RowV) (fun x=>⟨[(2,.bp 2 0),(3,.bp 3 0),(14,.one (.ro 7 (t.Rows.map (RowV.enc false)))),(15,.one (.pv (.int .i64 t.Rows.length))),(16,.one (.pv (.int .i64 x.1)))],[(2,[.nils 7,.pv (.int .i64 0),.nils 3]),(3,[.rf 30 0 [] 7 0 x.2.length,.pv (.int .i64 t.Phase),.rf 31 0 [] 3 0 t.Marks.length])],[(0,t.enc false),(30,[slT true 7 (RowV.enc true) x.2]),(31,[slT true 3 MarkV.row t.Marks])]⟩) (fun x=>x.1≤t.Rows.length∧x.2=t.Rows.take x.1) (fun x=>t.Rows.length - x.1) (0,[]) ?_ ⟨Nat.zero_le _,rfl⟩ ?_
 ·simp -implicitDefEqProofs (maxSteps:=1000000) only [go_sem]
  try rfl
 ·rintro ⟨i,l⟩ ⟨hi,he⟩
  simp only at hi he
  have hl:l.length=i:=by rw [he,List.length_take]; omega
  cases q:decide ((i:Int) < (t.Rows.length:Int))
  ·have k0:i=t.Rows.length:=by simp only [decide_eq_false_iff_not] at q; omega
   rw [k0,List.take_length] at he
   subst he
   exact F1 q
  ·have k1:i < t.Rows.length:=by simp only [decide_eq_true_eq] at q; omega
   have ea:=app1Rw l t.Rows[i]
   refine G2 q (List.getElem?_eq_getElem k1) ?_
   refine C1 (c_Bs t.Rows[i] (hRl _ (List.getElem_mem k1))) ea ?_
   refine ⟨(i + 1,l++[t.Rows[i]]),?_,⟨k1,by rw [he,List.take_succ_eq_append_getElem k1]⟩,by simp only; omega⟩
   rw [IntWalk.i64_in _ (by omega)]
   simp only [List.length_append]
   rfl
def x_Fl:FnX:=⟨39,[.tmp 4],
  .q [.op 4 (.mv (.k (.one (.nils 1))))]
 (.q [.op 6 (.bslice 1 []),.m 7 1,.op 8 (.app 1 1 (.t 6) (.t 7)),.m 5 8]
 (.seq (.q [.m 9 0,.op 10 (.call 96 [5,0] [(.t 9),(.i 5)])]
 (.block 0 (.q [.B 12 .eql 10 0,.m 11 12]
 (.cond 11 (.q [.m 13 5,.m 14 0,.m 15 5,.n 16 15,.B 17 .add 16 1,.op 18 (.call 96 [5,0] [(.t 14),(.t 17)]),.op 19 (.slice 1 (.t 13) none (some (.t 18))),.m 4 19]
 .ret) (.q [.B 21 .eql 10 1,.m 20 21]
 (.c 20 (.q [.m 22 5,.n 23 22,.B 24 .gtr 23 0]
 (.c 24 (.draw [.m 25 5,.m 26 0,.m 27 5,.n 28 27,.op 29 (.call 96 [5,0] [(.t 26),(.t 28)]),.x 30 1 25 29,.l 31 30,.m 32 0,.op 33 (.call 96 [5,0] [(.t 32),(.i 255)]),.op 34 (.bin .add (.i 1) (.t 33)),.op 35 (.conv (.int .u8) (.t 34)),.b 36 .xor 31 35,.x 37 1 25 29,.s 100001 1 37 36] [[],[],[],[2],[1,3],[0,4],[5],[],[7,4],[8],[9],[6,10],[0,4,0,1,2,3,4,5,6,7,8,9,10,11],[12,11,8,0,1,2,3,4,5,6,7,8,9,10,11]])))))))))
 (.q [.m 38 5,.m 4 38]
 .ret)))⟩
theorem xor_u8b (a:UInt8) {w:Int} (h0:0≤w) (h1:w≤255):xorK .u8 (a.toNat:Int) (IntKind.u8.wrap w)=((a ^^^ mkU w).toNat:Int):=by
 obtain ⟨n,rfl⟩:∃ n:Nat,w=n:=⟨w.toNat,by omega⟩
 have hn:n < 256:=by omega
 have hw:IntKind.u8.wrap (n:Int)=n:=by rw [IntKind.wrap_u8]; omega
 rw [hw,xorK_def]
 show IntKind.u8.wrap ((BitVec.ofInt 8 (a.toNat:Int) ^^^ BitVec.ofInt 8 (n:Int)).toNat)=_
 have ha:=a.toNat_lt
 have e1:(BitVec.ofInt 8 (a.toNat:Int)).toNat=a.toNat:=by rw [BitVec.toNat_ofInt]; omega
 have e2:(BitVec.ofInt 8 (n:Int)).toNat=n:=by rw [BitVec.toNat_ofInt]; omega
 have e3:(mkU (n:Int)).toNat=n:=by rw [mkU_toNat]; omega
 have hx:a.toNat ^^^ n < 256:=Nat.xor_lt_two_pow (n:=8) ha hn
 rw [BitVec.toNat_xor,e1,e2,UInt8.toNat_xor,e3,IntKind.wrap_u8]
 omega
theorem set_u8b {b:List UInt8} {i:Nat} {a W:UInt8}:(List.map uR b).set i (setCells [uT a] 0 [uT W])=List.map uR (b.set i W):=by
 rw [List.map_set]
 rfl
theorem r_Fl {Te:TE} (c_Fk:C_Fk Te):∀ (c:CurV) (b:List UInt8) (hc:c.ok) (hb:b.length≤2 ^ 20),∃ r0,(∃ (r:List UInt8) (d:CurV),(r.length≤b.length∧d.ok)∧r0=(⟨[.one (slT true 1 uR r)],[d.enc,[slT true 1 uR b]]⟩:Res))∧RunFn Te x_Fl [.ptr c.enc,.one (slT true 1 uR b)] r0:=by
 intro c b hc hb
 refine some_of (Nat.le_of_ble_eq_true rfl) (by rfl) ?_
 obtain ⟨k,d0,⟨hk,hd0⟩,ht⟩:=c_Fk c 5 hc
 have hk5:=hk.2.1 (by decide)
 have wl:IntKind.i64.wrap ((b.length:Int) + 1)=(b.length:Int) + 1:=IntWalk.i64_in _ (by omega)
 by_cases q0:k=0
 ·subst q0
  obtain ⟨u,d1,⟨hu,hd1⟩,ht1⟩:=c_Fk d0 ((b.length:Int) + 1) hd0
  have hu1:=hu.2.1 (by omega)
  simp -implicitDefEqProofs only [x_Fl,go_sem]
  repeat refine ⟨sc,?_⟩
  try exact sf
  refine C1 (ht) wl ?_
  refine C0 (ht1) ?_
  have et:List.take (u.toNat - 0) (List.map uR b)=List.map uR (b.take u.toNat):=by rw [Nat.sub_zero,← List.map_take]
  exact ⟨b.take u.toNat,d1,⟨by rw [List.length_take]; omega,hd1⟩,by rw [et]⟩
 by_cases q1:k=1
 ·subst q1
  cases q:decide ((b.length:Int) > 0)
  ·simp -implicitDefEqProofs only [x_Fl,go_sem]
   repeat refine ⟨sc,?_⟩
   try exact sf
   refine C1 (ht) q ?_
   exact ⟨b,d0,⟨Nat.le_refl _,hd0⟩,rfl⟩
  ·have hpos:0 < b.length:=by simp only [decide_eq_true_eq] at q; omega
   obtain ⟨u,d1,⟨hu,hd1⟩,ht1⟩:=c_Fk d0 (b.length:Int) hd0
   have hu1:=hu.2.1 (by omega)
   obtain ⟨v,d2,⟨hv,hd2⟩,ht2⟩:=c_Fk d1 255 hd1
   have hv1:=hv.2.1 (by omega)
   have wv:IntKind.i64.wrap (1 + v)=1 + v:=IntWalk.i64_in _ (by omega)
   have hu2:u.toNat < b.length:=by omega
   have eg:(List.map uR b).getD u.toNat []=[uT b[u.toNat]]:=by simp [List.getD,List.getElem?_eq_getElem hu2]
   have q1:decide (u.toNat < b.length)=true:=decide_eq_true hu2
   have ex:=xor_u8b b[u.toNat] (w:=1 + v) (by omega) (by omega)
   have es:=set_u8b (b:=b) (i:=u.toNat) (a:=b[u.toNat]) (W:=b[u.toNat] ^^^ mkU (1 + v))
   have el:(b.set u.toNat (b[u.toNat] ^^^ mkU (1 + v))).length=b.length:=List.length_set ..
   generalize b[u.toNat] ^^^ mkU (1 + v)=W at ex es el
   simp -implicitDefEqProofs only [x_Fl,go_sem]
   repeat refine ⟨sc,?_⟩
   try exact sf
   refine C1 (ht) q ?_
   refine C3 (ht1) eg q1 wl ?_
   refine .of (ht2) ?_
   try simp -implicitDefEqProofs only [go_sem,wv,ex,storeAp]
   repeat refine ⟨sc,?_⟩
   try exact sf
   simp -implicitDefEqProofs only [go_sem,eg,es,q1,Nat.zero_add,List.length_cons,List.length_nil,wv,ex]
   refine ⟨decide_eq_true (by omega),b.set u.toNat W,d2,⟨by omega,hd2⟩,?_⟩
   rw [List.take_of_length_le (by rw [List.length_map]; omega)]
 have e:∀ j:Int,k≠j→(k==j)=false:=fun j h=>by simpa using h
 simp -implicitDefEqProofs only [x_Fl,go_sem]
 repeat refine ⟨sc,?_⟩
 try exact sf
 refine .of (ht) ?_
 try simp -implicitDefEqProofs only [go_sem,e 0 q0,e 1 q1]
 repeat refine ⟨sc,?_⟩
 try exact sf
 exact ⟨b,d0,⟨Nat.le_refl _,hd0⟩,rfl⟩
def x_Fz:FnX:=⟨6,[.tmp 2],
  .q [.i 2 0]
 (.q [.m 3 0,.op 4 (.bslice 1 [(.i 0),(.i 1),(.i 2),(.i 3),(.i 4),(.i 5),(.i 6),(.i (-1))]),.op 5 (.call 70 [5,1] [(.t 3),(.t 4)]),.m 2 5]
 .ret)⟩
theorem r_Fz {Te:TE} (c_Fp:C_Fp Te):∀ (c:CurV) (hc:c.ok),∃ r0,(∃ (r:Int) (d:CurV),(d.ok)∧r0=(⟨[.one (iT r)],[d.enc]⟩:Res))∧RunFn Te x_Fz [.ptr c.enc] r0:=by
 intro c hc
 refine some_of (Nat.le_of_ble_eq_true rfl) (by rfl) ?_
 simp -implicitDefEqProofs (maxSteps:=1000000) only [x_Fz,go_sem]
 repeat refine ⟨sc,?_⟩
 try exact sf
 obtain ⟨r,d,⟨hr,hd⟩,ht⟩:=c_Fp c [0,1,2,3,4,5,6,-1] hc (by decide)
 refine C0 (ht) ?_
 exact ⟨r,d,hd,rfl⟩
def x_Gc:FnX:=⟨17,[.cell 2 (some 2)],
  .q [.op 2 (.alloc [.i 0,.nils 1])]
 (.q [.m 6 0,.op 7 (.call 96 [5,0] [(.t 6),(.i 6)]),.m 3 7]
 (.q [.m 9 3,.m 10 0,.m 11 3,.op 12 (.call 106 [5,0,0] [(.t 10),(.t 11),(.i 6)]),.c 13 200 [9,12],.m 8 13,.e 14 8 0,.e 15 8 1,.op 4 (.alloc [.i 0,.nils 1]),.s 100001 2 4 14,.m 5 15]
 (.q [.L 16 2 4,.s 100002 2 2 16]
 .ret)))⟩
theorem r_Gc {Te:TE} (c_Fk:C_Fk Te) (c_G9:C_G9 Te) (c_Cv:C_Cv Te):∀ (c:CurV) (hc:c.ok),∃ r0,(∃ (x:CellV) (d:CurV),(x.In (2 ^ 20)∧d.ok)∧r0=(⟨[.agg (x.enc true)],[d.enc]⟩:Res))∧RunFn Te x_Gc [.ptr c.enc] r0:=by
 intro c hc
 refine some_of (Nat.le_of_ble_eq_true rfl) (by rfl) ?_
 simp -implicitDefEqProofs (maxSteps:=1000000) only [x_Gc,go_sem]
 repeat refine ⟨sc,?_⟩
 try exact sf
 obtain ⟨k,d,⟨_,hd⟩,ht⟩:=c_Fk c 6 hc
 obtain ⟨s,d,⟨hs,hd⟩,ht1⟩:=c_G9 d k 6 hd (by decide)
 replace hs:s.size≤24:=hs
 refine C0 (ht) ?_
 refine C0 (ht1) ?_
 refine C0 (c_Cv k s (by omega)) ?_
 exact ⟨(cellOf k s).1,d,⟨Nat.le_trans (cellOf_in k s) (by decide),hd⟩,rfl⟩
def x_Ga:FnX:=⟨28,[.cell 2 (some 2)],
  .q [.op 2 (.alloc [.i 0,.nils 1])]
 (.q [.m 4 0,.op 5 (.call 372 [5] [(.t 4)]),.op 3 (.alloc [.i 0,.nils 1]),.s 100001 2 3 5]
 (.seq (.q [.m 6 0,.op 7 (.call 96 [5,0] [(.t 6),(.i 6)])]
 (.block 0 (.q [.B 9 .eql 7 0,.m 8 9]
 (.cond 8 (.reg [.m 10 0,.op 11 (.call 118 [5] [(.t 10)]),.f 12 3 0,.s 100002 1 12 11]) (.q [.B 14 .eql 7 1,.m 13 14]
 (.cond 13 (.reg [.m 15 0,.f 16 3 0,.l 17 16,.op 18 (.call 97 [5,0] [(.t 15),(.t 17)]),.f 19 3 1,.s 100003 1 19 18]) (.q [.B 21 .eql 7 2,.m 20 21]
 (.c 20 (.reg [.m 22 0,.op 23 (.call 96 [5,0] [(.t 22),(.i 3)]),.op 24 (.bin .add (.i 19) (.t 23)),.op 25 (.mks 1 1 [.pv (.int .u8 0)] (.t 24)),.f 26 3 1,.s 100004 1 26 25])))))))))
 (.q [.L 27 2 3,.s 100005 2 2 27]
 .ret)))⟩
theorem r_Ga {Te:TE} (c_Gc:C_Gc Te) (c_Fk:C_Fk Te) (c_Fz:C_Fz Te) (c_G4:C_G4 Te):∀ (c:CurV) (hc:c.ok),∃ r0,(∃ (x:CellV) (d:CurV),(x.In (2 ^ 20)∧d.ok)∧r0=(⟨[.agg (x.enc true)],[d.enc]⟩:Res))∧RunFn Te x_Ga [.ptr c.enc] r0:=by
 intro c hc
 refine some_of (Nat.le_of_ble_eq_true rfl) (by rfl) ?_
 simp -implicitDefEqProofs (maxSteps:=1000000) only [x_Ga,go_sem]
 repeat refine ⟨sc,?_⟩
 try exact sf
 obtain ⟨x,d,⟨hx,hd⟩,ht⟩:=c_Gc c hc
 refine C0 (ht) ?_
 obtain ⟨k,d,⟨⟨hk0,hk1,_⟩,hd⟩,ht⟩:=c_Fk d 6 hd
 by_cases q0:k=0
 ·subst q0
  obtain ⟨r,d,hd,ht1⟩:=c_Fz d hd
  refine C0 (ht) ?_
  refine C0 (ht1) ?_
  exact ⟨⟨r,x.B⟩,d,⟨hx,hd⟩,rfl⟩
 by_cases q1:k=1
 ·subst q1
  obtain ⟨b,d,⟨hb,hd⟩,ht1⟩:=c_G4 d x.Tag hd
  refine C0 (ht) ?_
  refine C0 (ht1) ?_
  exact ⟨⟨x.Tag,b⟩,d,⟨Nat.le_trans hb (by decide),hd⟩,rfl⟩
 by_cases q2:k=2
 ·subst q2
  obtain ⟨u,d,⟨⟨hu0,hu1,_⟩,hd⟩,ht1⟩:=c_Fk d 3 hd
  have hu3:=hu1 (by decide)
  have wu:IntKind.i64.wrap (19 + u)=19 + u:=IntWalk.i64_in _ (by omega)
  refine C0 (ht) ?_
  refine .of (ht1) ?_
  try simp -implicitDefEqProofs (maxSteps:=1000000) only [go_sem,wu,zero_rows,take_zeros]
  repeat refine ⟨sc,?_⟩
  try exact sf
  exact ⟨⟨x.Tag,List.replicate (19 + u).toNat 0⟩,d,⟨by show (List.replicate _ _).length≤_; rw [List.length_replicate]; omega,hd⟩,rfl⟩
 have e:∀ j:Int,k≠j→(k==j)=false:=fun j h=>by simpa using h
 refine .of (ht) ?_
 try simp -implicitDefEqProofs (maxSteps:=1000000) only [go_sem,e 0 q0,e 1 q1,e 2 q2]
 repeat refine ⟨sc,?_⟩
 try exact sf
 exact ⟨x,d,⟨hx,hd⟩,rfl⟩
def x_Ac:FnX:=⟨44,[.tmp 4,.tmp 5],
  .q [.op 4 (.mv (.k (.one (.nils 1)))),.F 5]
 (.q [.m 14 1,.c 15 350 [14],.m 13 15,.e 16 13 0,.e 17 13 1,.m 6 16,.m 7 17]
 (.seq (.q [.m 18 0,.c 19 184 [18],.N 20 19,.m 21 20,.z 21 (.m 22 7),.z 21 (.N 23 22),.r 24 21 23]
 (.c 24 (.q [.op 4 (.mv (.k (.one (.nils 1)))),.F 5]
 .ret)))
 (.q [.op 25 (.bslice 1 []),.m 8 25]
 (.seq (.q [.m 26 6,.n 27 26,.i 28 0]
 (.block 0 (.loop [0,8,26,27,28] (.q [.b 29 .lss 28 27]
 (.seq (.cond 29 .skip (.exit 0))
 (.seq (.block 1 (.q [.x 30 1 26 28,.l 31 30,.m 10 31]
 (.q [.m 33 0,.m 34 8,.m 35 10,.op 36 (.call 351 [0,1,0] [(.t 33),(.t 34),(.t 35)]),.m 32 36,.e 37 32 0,.e 38 32 1,.m 11 37,.m 12 38]
 (.seq (.q [.m 39 12,.N 40 39]
 (.c 40 (.q [.op 4 (.mv (.k (.one (.nils 1)))),.F 5]
 .ret)))
 (.reg [.m 41 11,.m 8 41])))))
 (.reg [.B 42 .add 28 1,.m 28 42])))))))
 (.norm [8] (.q [.m 43 8,.m 4 43,.T 5]
 .ret))))))⟩
theorem r_Ac {Te:TE} (c_Bc:C_Bc Te) (c_By:C_By Te) (c_C6:C_C6 Te):C_Ac (RF Te x_Ac):=by
 intro cs s hs
 have hl:=signsOf_len s
 refine X0 x_Ac.eq_1 ?_
 refine C0 (c_Bc s (by omega)) ?_
 refine C0 (c_By cs) ?_
 cases g1:win cs 0 5
 ·have e:encode cs s=([],false):=by rw [encode,g1]; rfl
  exact F1 e
 cases g2:(signsOf s).2
 ·have e:encode cs s=([],false):=by rw [encode,g1,g2]; rfl
  exact F2 g2 e
 have e:encode cs s=encGo cs [] (signsOf s).1:=by rw [encode,g1,g2]; rfl
 refine G1 g2 ?_
 rw [e]
 generalize (signsOf s).1=L at hl
 refine loop_of (σ:=Nat×List UInt8×List T) (fun x=>⟨[(0,.one (.pv (.int .i64 cs))),(8,.one (.rf 46 0 [] 1 0 x.2.1.length)),(26,.one (.rf 47 0 [] 1 0 L.length)),(27,.one (.pv (.int .i64 L.length))),(28,.one (.pv (.int .i64 x.1)))],[],[(0,[iT cs]),(1,[sT s]),(46,slT true 1 uR x.2.1::x.2.2),(47,[slT true 1 iR L,bT true])]⟩) (fun x=>x.1≤L.length∧x.2.1.length≤4 * x.1∧encGo cs x.2.1 (L.drop x.1)=encGo cs [] L) (fun x=>L.length - x.1) (0,[],[]) ?_ ⟨Nat.zero_le _,Nat.le_refl _,rfl⟩ ?_
 ·simp -implicitDefEqProofs (maxSteps:=1000000) only [go_sem]
  try rfl
 ·rintro ⟨i,b,E⟩ ⟨hi,hb,hg⟩
  simp only at hi hb hg
  cases q:decide ((i:Int) < (L.length:Int))
  ·have hd:L.drop i=[]:=List.drop_eq_nil_of_le (by simp only [decide_eq_false_iff_not] at q; omega)
   rw [hd,encGo] at hg
   rw [← hg]
   exact F1 q
  ·have k1:i < L.length:=by simp only [decide_eq_true_eq] at q; omega
   have hp:=putIn_len cs b L[i]
   rw [List.drop_eq_getElem_cons k1,encGo] at hg
   try simp -implicitDefEqProofs (maxSteps:=1000000) only [go_sem,q,List.getD_eq_getElem?_getD,List.getElem?_eq_getElem k1,take_rows]
   repeat refine ⟨sc,?_⟩
   try exact sf
   refine C0 (c_C6 cs b L[i] (by omega)) ?_
   cases g:(putIn cs b L[i]).2
   ·rw [g] at hg
    rw [← hg]
    exact F1 g
   ·rw [g] at hg
    refine G1 g ?_
    refine ⟨(i + 1,(putIn cs b L[i]).1,[bT true]),?_,⟨k1,by simp only; omega,hg⟩,by simp only; omega⟩
    rw [IntWalk.i64_in _ (by omega)]
    rfl
def x_D5:FnX:=⟨47,[.tmp 4,.tmp 5],
  .q [.op 4 (.mv (.k (.one (.nils 1)))),.F 5]
 (.q [.op 12 (.bslice 1 []),.m 6 12]
 (.q [.m 14 1,.c 15 265 [14],.m 13 15,.e 16 13 0,.e 17 13 1,.m 7 16,.m 8 17]
 (.seq (.q [.m 18 0,.c 19 187 [18],.N 20 19,.m 21 20,.z 21 (.m 22 8),.z 21 (.N 23 22),.r 24 21 23]
 (.c 24 (.q [.m 25 6,.m 4 25,.F 5]
 .ret)))
 (.seq (.q [.i 9 0]
 (.block 0 (.loop [0,6,7,9] (.seq (.q [.m 26 9,.m 27 7,.n 28 27,.b 29 .lss 26 28]
 (.cond 29 .skip (.exit 0)))
 (.seq (.block 1 (.q [.m 33 0,.m 34 6,.m 35 7,.m 36 9,.x 37 1 35 36,.l 38 37,.c 39 266 [33,34,38],.m 32 39,.e 40 32 0,.e 41 32 1,.m 10 40,.m 11 41]
 (.seq (.q [.m 42 11,.N 43 42]
 (.c 43 (.q [.op 44 (.bslice 1 []),.m 4 44,.F 5]
 .ret)))
 (.reg [.m 45 10,.m 6 45]))))
 (.reg [.m 30 9,.B 31 .add 30 1,.m 9 31]))))))
 (.norm [6] (.q [.m 46 6,.m 4 46,.T 5]
 .ret))))))⟩
theorem r_D5 {Te:TE} (c_E5:C_E5 Te) (c_G5:C_G5 Te) (c_G7:C_G7 Te):C_D5 (RF Te x_D5):=by
 intro cs s hs
 have hl:=signsOf_len s
 have ho:=signsOf_ok s
 refine X0 x_D5.eq_1 ?_
 refine C0 (c_E5 s hs) ?_
 refine C0 (c_G5 cs) ?_
 cases g1:win cs 0 5
 ·have e:encode cs s=([],false):=by rw [encode,g1]; rfl
  exact F1 e
 cases g2:(signsOf s).2
 ·have e:encode cs s=([],false):=by rw [encode,g1,g2]; rfl
  exact F2 g2 e
 have e:encode cs s=encGo cs [] (signsOf s).1:=by rw [encode,g1,g2]; rfl
 refine G1 g2 ?_
 rw [e]
 generalize (signsOf s).1=L at hl ho
 refine loop_of (σ:=Nat×List UInt8×List T) (fun x=>⟨[(0,.one (.pv (.int .i64 cs))),(6,.one (.rf 49 0 [] 1 0 x.2.1.length)),(7,.one (.rf 50 0 [] 1 0 L.length)),(9,.one (.pv (.int .i64 x.1)))],[],[(0,[iT cs]),(1,[sT s]),(49,slT true 1 uR x.2.1::x.2.2),(50,[slT true 1 iR L,bT true])]⟩) (fun x=>x.1≤L.length∧x.2.1.length≤4 * x.1∧encGo cs x.2.1 (L.drop x.1)=encGo cs [] L) (fun x=>L.length - x.1) (0,[],[]) ?_ ⟨Nat.zero_le _,Nat.le_refl _,rfl⟩ ?_
 ·simp -implicitDefEqProofs (maxSteps:=1000000) only [go_sem]
  try rfl
 ·rintro ⟨i,b,E⟩ ⟨hi,hb,hg⟩
  simp only at hi hb hg
  cases q:decide ((i:Int) < (L.length:Int))
  ·have hd:L.drop i=[]:=List.drop_eq_nil_of_le (by simp only [decide_eq_false_iff_not] at q; omega)
   rw [hd,encGo] at hg
   rw [← hg]
   exact F1 q
  ·have k1:i < L.length:=by simp only [decide_eq_true_eq] at q; omega
   have hp:=putIn_len cs b L[i]
   rw [List.drop_eq_getElem_cons k1,encGo] at hg
   try simp -implicitDefEqProofs (maxSteps:=1000000) only [go_sem,q,List.getD_eq_getElem?_getD,List.getElem?_eq_getElem k1,take_rows]
   repeat refine ⟨sc,?_⟩
   try exact sf
   refine .of (c_G7 cs b L[i] (by omega) (ho _ (List.getElem_mem k1))) ?_
   try simp -implicitDefEqProofs (maxSteps:=1000000) only [go_sem]
   repeat refine ⟨sc,?_⟩
   try exact sf
   cases g:(putIn cs b L[i]).2
   ·rw [g] at hg
    rw [← hg]
    exact F1 g
   ·rw [g] at hg
    refine G1 g ?_
    refine ⟨(i + 1,(putIn cs b L[i]).1,[bT true]),?_,⟨k1,by simp only; omega,hg⟩,by simp only; omega⟩
    rw [IntWalk.i64_in _ (by omega)]
    rfl
def x_A5:FnX:=⟨27,[.cell 4 (some 2),.tmp 5],
  .q [.op 4 (.alloc [.i 0,.nils 1]),.F 5]
 (.q [.m 10 0,.m 11 1,.c 12 303 [10,11],.m 9 12,.e 13 9 0,.e 14 9 1,.m 6 13,.m 7 14]
 (.q [.m 15 0,.m 16 6,.op 17 (.build [.i 0,.nils 1] [(0,1,(.t 15)),(1,1,(.t 16))]),.op 8 (.alloc [.i 0,.nils 1]),.s 100001 2 8 17]
 (.seq (.q [.m 18 7,.N 19 18,.m 20 19,.z 20 (.L 21 2 8),.z 20 (.c 22 261 [21]),.z 20 (.N 23 22),.r 24 20 23]
 (.c 24 (.q [.op 25 (.build [.i 0,.nils 1] []),.s 100002 2 4 25,.F 5]
 .ret)))
 (.q [.L 26 2 8,.s 100003 2 4 26,.T 5]
 .ret))))⟩
theorem r_A5 {Te:TE} (c_Ac:C_Ac Te) (c_A6:C_A6 Te):C_A5 (RF Te x_A5):=by
 intro tag s hs
 have hl:=encode_len tag s
 refine X0 x_A5.eq_1 ?_
 refine C0 (c_Ac tag s hs) ?_
 cases g:(encode tag s).2
 ·have e:=cellOf_no g
  exact F2 g e
 have gt:=encode_tag g
 refine G1 g ?_
 refine C0 (c_A6 ⟨tag,(encode tag s).1⟩) ?_
 cases g2:decide (((encode tag s).1.length:Int)≤20)
 ·have e:=cellOf_big g2
  try simp -implicitDefEqProofs (maxSteps:=1000000) only [go_sem,CellV.ok,gt,g2,e,take_rows]
  repeat refine ⟨sc,?_⟩
  try exact sf
  try rfl
 ·have e:=cellOf_yes g g2
  try simp -implicitDefEqProofs (maxSteps:=1000000) only [go_sem,CellV.ok,gt,g2,e,take_rows]
  repeat refine ⟨sc,?_⟩
  try exact sf
  try rfl
def x_Cn:FnX:=⟨26,[.tmp 4],
  .q [.F 4]
 (.seq (.q [.m 6 0,.n 7 6,.m 8 1,.n 9 8,.b 10 .neq 7 9]
 (.c 10 (.q [.F 4]
 .ret)))
 (.seq (.q [.i 5 0]
 (.block 0 (.loop [0,1,5] (.seq (.q [.m 11 5,.m 12 0,.n 13 12,.b 14 .lss 11 13]
 (.cond 14 .skip (.exit 0)))
 (.seq (.block 1 (.seq (.draw [.m 17 0,.m 18 5,.x 19 8 17 18,.L 20 8 19,.m 21 1,.m 22 5,.x 23 8 21 22,.L 24 8 23,.op 25 (.eqs true [0,0,0,0,2,2,0,0] (.t 20) (.t 24))] [[],[],[0,1],[2],[],[],[4,5],[6],[3,7]])
 (.c 25 (.q [.F 4]
 .ret))))
 (.reg [.m 15 5,.B 16 .add 15 1,.m 5 16]))))))
 (.norm [] (.q [.T 4]
 .ret))))⟩
theorem r_Cn {Te:TE}:C_Cn (RF Te x_Cn):=by
 intro x y hx
 refine run0 ?_
 cases q3:((x.length:Int)==y.length)
 ·have e:decide (x=y)=false:=decide_eq_false fun h=>by subst h; simp at q3
  simp -implicitDefEqProofs only [x_Cn,go_sem,bne,q3,e]
  repeat refine ⟨sc,?_⟩
  try exact sf
 ·simp -implicitDefEqProofs only [x_Cn,go_sem,bne,q3]
  repeat refine ⟨sc,?_⟩
  try exact sf
  have l3:x.length=y.length:=by have:=eq_of_beq q3; omega
  refine loop_of (σ:=Nat) (fun i=>⟨[(0,.one (.ro 8 (x.map Msg.row))),(1,.one (.ro 8 (y.map Msg.row))),(5,.one (.pv (.int .i64 i)))],[],[(0,[slT false 8 Msg.row x]),(1,[slT false 8 Msg.row y])]⟩) (fun i=>i≤x.length∧x.take i=y.take i) (fun i=>x.length - i) 0 ?_ ⟨Nat.zero_le _,rfl⟩ ?_
  ·simp -implicitDefEqProofs only [go_sem]; rfl
  ·rintro i ⟨hi,hq⟩
   cases q:decide ((i:Int) < (x.length:Int))
   ·have e3:x=y:=by
     have hx:x.length≤i:=by simp only [decide_eq_false_iff_not] at q; omega
     rw [List.take_of_length_le hx,List.take_of_length_le (by omega)] at hq
     exact hq
    try simp -implicitDefEqProofs only [go_sem,q,decide_eq_true e3]
    repeat refine ⟨sc,?_⟩
    try exact sf
   ·have k1:i < x.length:=by simp only [decide_eq_true_eq] at q; omega
    have k2:i < y.length:=by omega
    have eb:=msg_beq x[i] y[i]
    cases g:decide (x[i]=y[i])
    ·have e:decide (x=y)=false:=decide_eq_false fun h=>by subst h; simp at g
     refine G3 q (List.getElem?_eq_getElem k1) (List.getElem?_eq_getElem k2) ?_
     simp only [eb,g,condC_some]
     refine ⟨fun _=>?_,fun q=>absurd q (by decide)⟩
     simp -implicitDefEqProofs only [go_sem,e]
     try trivial
    ·refine G3 q (List.getElem?_eq_getElem k1) (List.getElem?_eq_getElem k2) ?_
     simp only [eb,g,condC_some]
     refine ⟨fun q=>absurd q (by decide),fun _=>?_⟩
     refine ⟨i + 1,by rw [IntWalk.i64_in _ (by omega)]; rfl,⟨k1,?_⟩,by omega⟩
     rw [List.take_succ_eq_append_getElem k1,List.take_succ_eq_append_getElem k2,hq,of_decide_eq_true g]
def x_B9:FnX:=⟨26,[.tmp 4,.tmp 5],
  .q [.i 4 0,.F 5]
 (.seq (.q [.i 6 0]
 (.block 0 (.loop [0,1,6] (.seq (.q [.m 9 6,.B 10 .leq 9 255]
 (.cond 10 .skip (.exit 0)))
 (.seq (.block 1 (.q [.m 14 0,.m 15 6,.c 16 269 [14,15],.m 13 16,.e 17 13 0,.e 18 13 1,.m 7 17,.m 8 18]
 (.q [.m 19 8,.m 20 19,.y 20 (.m 21 7),.y 20 (.m 22 1),.y 20 (.b 23 .eql 21 22),.a 24 20 23]
 (.c 24 (.q [.m 25 6,.m 4 25,.T 5]
 .ret)))))
 (.reg [.m 11 6,.B 12 .add 11 1,.m 6 12]))))))
 (.norm [] (.q [.i 4 0,.F 5]
 .ret)))⟩
theorem r_B9 {Te:TE} (c_A4:C_A4 Te):C_B9 (RF Te x_B9):=by
 intro cs n
 refine X0 x_B9.eq_1 ?_
 refine loop_of (σ:=Nat) (fun i=>⟨[(0,.one (.pv (.int .i64 cs))),(1,.one (.pv (.int .i64 n))),(6,.one (.pv (.int .i64 i)))],[],[(0,[iT cs]),(1,[iT n])]⟩) (fun i=>i≤256∧∀ j,j < i→sbHit cs n j=false) (fun i=>256 - i) 0 ?_ ⟨Nat.zero_le _,fun j h=>absurd h (Nat.not_lt_zero _)⟩ ?_
 ·simp -implicitDefEqProofs (maxSteps:=1000000) only [go_sem]
  try rfl
 ·rintro i ⟨hi,hp⟩
  cases q:decide ((i:Int)≤255)
  ·have e:=signByte_none (cs:=cs) (n:=n) fun j hj=>hp j (by simp only [decide_eq_false_iff_not] at q; omega)
   exact F2 q e
  ·have k1:i < 256:=by simp only [decide_eq_true_eq] at q; omega
   refine G1 q ?_
   refine C0 (c_A4 _ _) ?_
   cases g1:(byteSign cs i).2
   ·have g:sbHit cs n i=false:=by rw [sbHit,g1]; rfl
    refine G1 g1 ?_
    refine ⟨i + 1,?_,⟨k1,fun j hj=>by
     by_cases e:j=i
     ·subst e; exact g
     ·exact hp j (by omega)⟩,by omega⟩
    rw [IntWalk.i64_in _ (by omega)]
    rfl
   ·cases g2:((byteSign cs i).1==n)
    ·have g:sbHit cs n i=false:=by rw [sbHit,g1,g2]; rfl
     refine G2 g1 g2 ?_
     refine ⟨i + 1,?_,⟨k1,fun j hj=>by
      by_cases e:j=i
      ·subst e; exact g
      ·exact hp j (by omega)⟩,by omega⟩
     rw [IntWalk.i64_in _ (by omega)]
     rfl
    ·have e:=signByte_hit k1 hp (by rw [sbHit,g1,g2]; rfl)
     exact F3 g1 g2 e
def x_E2:FnX:=⟨26,[.tmp 4,.tmp 5],
  .q [.i 4 0,.F 5]
 (.seq (.q [.i 6 0]
 (.block 0 (.loop [0,1,6] (.seq (.q [.m 9 6,.B 10 .lss 9 256]
 (.cond 10 .skip (.exit 0)))
 (.seq (.block 1 (.q [.m 14 0,.m 15 6,.c 16 274 [14,15],.m 13 16,.e 17 13 0,.e 18 13 1,.m 7 17,.m 8 18]
 (.q [.m 19 8,.m 20 19,.y 20 (.m 21 7),.y 20 (.m 22 1),.y 20 (.b 23 .eql 21 22),.a 24 20 23]
 (.c 24 (.q [.m 25 6,.m 4 25,.T 5]
 .ret)))))
 (.reg [.m 11 6,.B 12 .add 11 1,.m 6 12]))))))
 (.norm [] (.q [.i 4 0,.F 5]
 .ret)))⟩
theorem r_E2 {Te:TE} (c_Cu:C_Cu Te):C_E2 (RF Te x_E2):=by
 intro cs n
 refine X0 x_E2.eq_1 ?_
 refine loop_of (σ:=Nat) (fun i=>⟨[(0,.one (.pv (.int .i64 cs))),(1,.one (.pv (.int .i64 n))),(6,.one (.pv (.int .i64 i)))],[],[(0,[iT cs]),(1,[iT n])]⟩) (fun i=>i≤256∧∀ j,j < i→sbHit cs n j=false) (fun i=>256 - i) 0 ?_ ⟨Nat.zero_le _,fun j h=>absurd h (Nat.not_lt_zero _)⟩ ?_
 ·simp -implicitDefEqProofs (maxSteps:=1000000) only [go_sem]
  try rfl
 ·rintro i ⟨hi,hp⟩
  cases q:decide ((i:Int) < 256)
  ·have e:=signByte_none (cs:=cs) (n:=n) fun j hj=>hp j (by simp only [decide_eq_false_iff_not] at q; omega)
   exact F2 q e
  ·have k1:i < 256:=by simp only [decide_eq_true_eq] at q; omega
   refine G1 q ?_
   refine C0 (c_Cu _ _) ?_
   cases g1:(byteSign cs i).2
   ·have g:sbHit cs n i=false:=by rw [sbHit,g1]; rfl
    refine G1 g1 ?_
    refine ⟨i + 1,?_,⟨k1,fun j hj=>by
     by_cases e:j=i
     ·subst e; exact g
     ·exact hp j (by omega)⟩,by omega⟩
    rw [IntWalk.i64_in _ (by omega)]
    rfl
   ·cases g2:((byteSign cs i).1==n)
    ·have g:sbHit cs n i=false:=by rw [sbHit,g1,g2]; rfl
     refine G2 g1 g2 ?_
     refine ⟨i + 1,?_,⟨k1,fun j hj=>by
      by_cases e:j=i
      ·subst e; exact g
      ·exact hp j (by omega)⟩,by omega⟩
     rw [IntWalk.i64_in _ (by omega)]
     rfl
    ·have e:=signByte_hit k1 hp (by rw [sbHit,g1,g2]; rfl)
     exact F3 g1 g2 e
def x_Bb:FnX:=⟨17,[.tmp 2,.tmp 3,.tmp 4],
  .q [.i 2 0,.i 3 0,.F 4]
 (.seq (.block 0 (.q [.m 6 0,.op 7 (.call 90 [0,0,0] [(.t 6),(.i 12353),(.i 12435)]),.m 5 7]
 (.cond 5 (.q [.m 8 0,.B 9 .sub 8 12353,.B 10 .add 9 161,.i 2 164,.m 3 10,.T 4]
 .ret) (.q [.m 12 0,.op 13 (.call 90 [0,0,0] [(.t 12),(.i 12449),(.i 12534)]),.m 11 13]
 (.c 11 (.q [.m 14 0,.B 15 .sub 14 12449,.B 16 .add 15 161,.i 2 165,.m 3 16,.T 4]
 .ret))))))
 (.q [.i 2 0,.i 3 0,.F 4]
 .ret))⟩
theorem r_Bb {Te:TE} (c_Ch:C_Ch Te):C_Bb (RF Te x_Bb):=by
 intro n
 refine X0 x_Bb.eq_1 ?_
 refine C0 (c_Ch _ _ _) ?_
 cases g:win n 12353 12435
 ·refine G0 ?_
  refine C0 (c_Ch _ _ _) ?_
  cases g2:win n 12449 12534
  ·have e:signPair n=(0,0,false):=by rw [signPair,g,g2]; rfl
   exact F1 e
  ·have e:signPair n=(165,n - 12449 + 161,true):=by rw [signPair,g,g2]; rfl
   simp only [win,Bool.and_eq_true,decide_eq_true_eq] at g2
   have w1:IntKind.i64.wrap (n - 12449)=n - 12449:=IntWalk.i64_in _ (by omega)
   have w2:IntKind.i64.wrap (n - 12449 + 161)=n - 12449 + 161:=IntWalk.i64_in _ (by omega)
   exact F3 e w1 w2
 ·have e:signPair n=(164,n - 12353 + 161,true):=by rw [signPair,g]; rfl
  simp only [win,Bool.and_eq_true,decide_eq_true_eq] at g
  have w1:IntKind.i64.wrap (n - 12353)=n - 12353:=IntWalk.i64_in _ (by omega)
  have w2:IntKind.i64.wrap (n - 12353 + 161)=n - 12353 + 161:=IntWalk.i64_in _ (by omega)
  exact F3 e w1 w2
def x_E4:FnX:=⟨17,[.tmp 2,.tmp 3,.tmp 4],
  .q [.i 2 0,.i 3 0,.F 4]
 (.seq (.block 0 (.q [.m 6 0,.op 7 (.call 120 [0,0,0] [(.t 6),(.i 12353),(.i 12435)]),.m 5 7]
 (.cond 5 (.q [.m 8 0,.B 9 .sub 8 12353,.B 10 .add 9 161,.i 2 164,.m 3 10,.T 4]
 .ret) (.q [.m 12 0,.op 13 (.call 120 [0,0,0] [(.t 12),(.i 12449),(.i 12534)]),.m 11 13]
 (.c 11 (.q [.m 14 0,.B 15 .sub 14 12449,.B 16 .add 15 161,.i 2 165,.m 3 16,.T 4]
 .ret))))))
 (.q [.i 2 0,.i 3 0,.F 4]
 .ret))⟩
theorem r_E4 {Te:TE} (c_Fo:C_Fo Te):C_E4 (RF Te x_E4):=by
 intro n
 refine X0 x_E4.eq_1 ?_
 refine C0 (c_Fo _ _ _) ?_
 cases g:win n 12353 12435
 ·refine G0 ?_
  refine C0 (c_Fo _ _ _) ?_
  cases g2:win n 12449 12534
  ·have e:signPair n=(0,0,false):=by rw [signPair,g,g2]; rfl
   exact F1 e
  ·have e:signPair n=(165,n - 12449 + 161,true):=by rw [signPair,g,g2]; rfl
   simp only [win,Bool.and_eq_true,decide_eq_true_eq] at g2
   have w1:IntKind.i64.wrap (n - 12449)=n - 12449:=IntWalk.i64_in _ (by omega)
   have w2:IntKind.i64.wrap (n - 12449 + 161)=n - 12449 + 161:=IntWalk.i64_in _ (by omega)
   exact F3 e w1 w2
 ·have e:signPair n=(164,n - 12353 + 161,true):=by rw [signPair,g]; rfl
  simp only [win,Bool.and_eq_true,decide_eq_true_eq] at g
  have w1:IntKind.i64.wrap (n - 12353)=n - 12353:=IntWalk.i64_in _ (by omega)
  have w2:IntKind.i64.wrap (n - 12353 + 161)=n - 12353 + 161:=IntWalk.i64_in _ (by omega)
  exact F3 e w1 w2
def x_Ep:FnX:=⟨16,[.tmp 2],
  .q [.v 1 0,.F 2]
 (.q [.f 3 1 0,.l 4 3,.op 5 (.call 120 [0,0,0] [(.t 4),(.i 1),(.i 9)]),.m 6 5,.y 6 (.f 7 1 1),.y 6 (.l 8 7),.y 6 (.c 9 161 [8]),.a 10 6 9,.m 11 10,.y 11 (.f 12 1 2),.y 11 (.l 13 12),.y 11 (.op 14 (.call 120 [0,0,0] [(.t 13),(.i 0),(.i 6)])),.a 15 11 14,.m 2 15]
 .ret)⟩
theorem r_Ep {Te:TE} (c_Fo:C_Fo Te) (c_Fw:C_Fw Te):C_Ep (RF Te x_Ep):=by
 intro m
 refine run0 ?_
 simp -implicitDefEqProofs (maxSteps:=1000000) only [x_Ep,go_sem,MarkV.ok]
 repeat refine ⟨sc,?_⟩
 try exact sf
 refine C0 (c_Fo _ _ _) ?_
 cases g1:win m.Who 1 9
 ·exact F1 g1
 refine G1 g1 ?_
 refine C0 (c_Fw _) ?_
 cases g2:win m.Seq 0 65535
 ·exact F1 g2
 refine G1 g2 ?_
 exact D0 (c_Fo _ _ _)
def x_A2:FnX:=⟨9,[.tmp 3],
  .q [.v 2 0,.F 3]
 (.q [.f 4 2 0,.l 5 4,.f 6 1 8,.l 7 6,.b 8 .eql 5 7,.m 3 8]
 .ret)⟩
theorem r_A2 {Te:TE}:C_A2 (RF Te x_A2):=by
 intro x r
 refine run0 ?_
 simp -implicitDefEqProofs (maxSteps:=1000000) only [x_A2,go_sem]
 repeat refine ⟨sc,?_⟩
 try exact sf
def x_Go:FnX:=⟨19,[.tmp 4],
  .q [.i 4 0]
 (.seq (.q [.m 6 0,.n 7 6,.i 8 0]
 (.block 0 (.loop [0,1,7,8] (.q [.b 9 .lss 8 7]
 (.seq (.cond 9 .skip (.exit 0))
 (.seq (.block 1 (.q [.m 10 8,.m 5 10]
 (.q [.m 11 1,.m 12 0,.m 13 5,.x 14 7 12 13,.L 15 7 14,.op 16 (.dcall 309 [0,15] [(.t 15)] (.t 11))]
 (.c 16 (.q [.m 17 5,.m 4 17]
 .ret)))))
 (.reg [.B 18 .add 8 1,.m 8 18])))))))
 (.norm [] (.q [.i 4 (-1)]
 .ret)))⟩
theorem r_Go {Te:TE} (c_A2:C_A2 Te):C_Go (RFV Te 309 x_Go):=by
 intro l r hl
 refine run0V ?_
 simp -implicitDefEqProofs (maxSteps:=1000000) only [x_Go,go_sem]
 repeat refine ⟨sc,?_⟩
 try exact sf
 refine loop_of (σ:=Nat) (fun i=>⟨[(0,.one (.ro 7 (l.map (RowV.enc false)))),(1,.fn 309 1 0),(7,.one (.pv (.int .i64 l.length))),(8,.one (.pv (.int .i64 i)))],[(1,[.pv (.int .i64 r.Kind),.pv (.string r.R.Key),.pv (.int .i64 r.R.Old.Tag),.dead,.pv (.int .i64 r.R.New.Tag),.dead,.pv (.int .i64 r.R.Has),.pv (.bool r.R.Aside),.pv (.string r.Key),.pv (.int .i64 r.N),.pv (.int .i64 r.Who),.pv (.int .i64 r.Seq),.pv (.int .i64 r.Code)])],[(0,[slT false 7 (RowV.enc false) l]),(1,r.dim)]⟩) (fun i=>i≤l.length∧∀ j (hj:j < l.length),j < i→decide (l[j].Key=r.Key)=false) (fun i=>l.length - i) 0 ?_ ⟨Nat.zero_le _,fun j _ h=>absurd h (Nat.not_lt_zero _)⟩ ?_
 ·simp -implicitDefEqProofs (maxSteps:=1000000) only [go_sem]
  try rfl
 ·rintro i ⟨hi,hp⟩
  cases q:decide ((i:Int) < (l.length:Int))
  ·have e:=rowAt_none (i:=i) (by simp only [decide_eq_false_iff_not] at q; omega) hp
   exact F2 q e
  ·have k1:i < l.length:=by simp only [decide_eq_true_eq] at q; omega
   refine G2 q (List.getElem?_eq_getElem k1) ?_
   refine C0 (c_A2 l[i] r) ?_
   cases g:decide (l[i].Key=r.Key)
   ·refine G1 g ?_
    refine ⟨i + 1,?_,⟨k1,rowAt_step k1 hp g⟩,by omega⟩
    rw [IntWalk.i64_in _ (by omega)]
    rfl
   ·have e:=(rowAt_hit k1 hp g).1
    exact F2 g e
end Go.X

