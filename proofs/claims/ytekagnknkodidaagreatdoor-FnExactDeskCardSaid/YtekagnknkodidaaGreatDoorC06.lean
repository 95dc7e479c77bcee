/- Texts: CVzea CR_2 CVze_2 CVy_2 CEb_5 CVx CEa_6 CVy_3. -/
import Derived.Test.YtekagnknkodidaaGreatDoorC04
set_option linter.unusedVariables false
set_option linter.unusedSimpArgs false
namespace Go.X
set_option maxRecDepth 100000
set_option maxHeartbeats 8000000
def x_s_NodeStep:FnX:=⟨101,[.cell 4 (some 10),.tmp 5,.tmp 6,.tmp 7],
  .q [.v 2 0,.op 4 (.alloc [.nils 1,.nils 2,.i 0,.F,.nils 7,.i 0,.nils 3,.i 0,.i 0,.i 0]),.op 5 (.mv (.k (.one (.pv (.string ⟨#[]⟩))))),.i 6 0,.F 7]
 (.q [.L 16 10 2,.c 17 22 [16],.op 8 (.alloc [.nils 1,.nils 2,.i 0,.F,.nils 7,.i 0,.nils 3,.i 0,.i 0,.i 0]),.s 100001 10 8 17]
 (.seq (.q [.L 18 10 2,.c 19 21 [18],.N 20 19,.m 21 20,.z 21 (.f 22 2 0),.z 21 (.f 23 22 4),.z 21 (.f 24 23 1),.z 21 (.l 25 24),.z 21 (.c 26 91 [25]),.z 21 (.N 27 26),.r 28 21 27]
 (.c 28 (.q [.L 29 10 8,.m 30 1,.s 100002 10 4 29,.m 5 30,.i 6 0,.F 7]
 .ret)))
 (.q [.m 31 1,.m 9 31]
 (.q [.i 10 0]
 (.seq (.q [.i 11 0]
 (.block 0 (.loop [1,2,4,8,9,10,11] (.seq (.q [.m 32 11,.f 33 2 0,.f 34 33 4,.f 35 34 0,.l 36 35,.n 37 36,.b 38 .lss 32 37,.m 39 38,.y 39 (.m 40 10),.y 39 (.B 41 .lss 40 2),.a 42 39 41]
 (.cond 42 .skip (.exit 0)))
 (.seq (.block 1 (.q [.f 45 2 0,.f 46 45 4,.f 47 46 0,.l 48 47,.m 49 11,.x 50 7 48 49,.L 51 7 50,.op 12 (.alloc [.e,.i 0,.nils 1,.i 0,.nils 1,.i 0,.F]),.s 100003 7 12 51]
 (.seq (.q [.f 52 12 0,.l 53 52,.m 54 1,.b 55 .leq 53 54]
 (.c 55 (.exit 1)))
 (.q [.f 56 2 0,.f 57 56 4,.f 58 57 1,.l 59 58,.L 60 7 12,.c 61 92 [59,60],.op 13 (.alloc [.e,.i 0,.nils 1,.i 0,.nils 1,.i 0,.F]),.s 100004 7 13 61]
 (.seq (.q [.L 62 7 13,.L 63 7 12,.c 64 93 [62,63],.N 65 64,.m 66 65,.y 66 (.f 67 8 0),.y 66 (.L 68 7 13),.y 66 (.op 69 (.build [.i 0,.e,.i 0,.nils 1,.i 0,.nils 1,.i 0,.F,.e,.i 0,.i 0,.i 0,.i 0] [(0,1,(.i 1)),(1,7,(.t 68))])),.y 66 (.op 70 (.call 90 [11,0] [(.t 67),(.t 69)])),.y 66 (.N 71 70),.a 72 66 71]
 (.c 72 (.q [.L 73 10 8,.m 74 1,.s 100005 10 4 73,.m 5 74,.i 6 0,.F 7]
 .ret)))
 (.q [.f 75 12 0,.l 76 75,.m 9 76]
 (.reg [.m 77 10,.B 78 .add 77 1,.m 10 78])))))))
 (.reg [.m 43 11,.B 44 .add 43 1,.m 11 44]))))))
 (.norm [2,4,8,9] (.q [.i 14 1]
 (.seq (.q [.i 15 0]
 (.block 2 (.loop [2,4,8,9,14,15] (.seq (.q [.m 79 15,.f 80 2 0,.f 81 80 4,.f 82 81 0,.l 83 82,.n 84 83,.b 85 .lss 79 84]
 (.cond 85 .skip (.exit 2)))
 (.seq (.block 3 (.q [.f 88 2 0,.f 89 88 4,.f 90 89 0,.l 91 90,.m 92 15,.x 93 7 91 92,.f 94 93 0,.l 95 94,.m 96 9,.b 97 .gtr 95 96]
 (.c 97 (.reg [.i 14 0]))))
 (.reg [.m 86 15,.B 87 .add 86 1,.m 15 87]))))))
 (.norm [4,8,9,14] (.q [.L 98 10 8,.m 99 9,.m 100 14,.s 100006 10 4 98,.m 5 99,.m 6 100,.T 7]
 .ret))))))))))⟩
def lastCode:XCode:=.loop [2,4,8,9,14,15] (.seq (.q [.m 79 15,.f 80 2 0,.f 81 80 4,.f 82 81 0,.l 83 82,.n 84 83,.b 85 .lss 79 84]
 (.cond 85 .skip (.exit 2)))
 (.seq (.block 3 (.q [.f 88 2 0,.f 89 88 4,.f 90 89 0,.l 91 90,.m 92 15,.x 93 7 91 92,.f 94 93 0,.l 95 94,.m 96 9,.b 97 .gtr 95 96]
 (.c 97 (.reg [.i 14 0]))))
 (.reg [.m 86 15,.B 87 .add 86 1,.m 15 87])))
theorem last_loop {Te:TE} {Q:Post} {st:St} (n:NodeV) (p:Int) (cur:NodeV) (o0 o1 o2 o3:Nat) (f A:ByteArray) (X:List Go.X.T) (hr1:n.S.T.Rows.length≤2 ^ 20)
  (h0:norm 2 103 [2,4,8,9,14,15] st=⟨[(2,.bp 2 0),(4,.bp 4 0),(8,.bp 8 0),(9,.one (.pv (.string A))),(14,.one (.pv (.int .i64 1))),(15,.one (.pv (.int .i64 0)))],[(2,[.ro 1 (n.S.D.Secs.map fun y=>[slT false 1 uR y]),.ro 2 (n.S.D.Cache.map (WrV.enc false)),.pv (.int .i64 n.S.D.Fuse),.pv (.bool n.S.D.Down),.ro 7 (n.S.T.Rows.map (RowV.enc false)),.pv (.int .i64 p),.ro 3 (n.S.T.Marks.map MarkV.row),.pv (.int .i64 n.S.Gen),.pv (.int .i64 n.S.Place),.pv (.int .i64 n.Cs)]),(4,[.nils 1,.nils 2,.pv (.int .i64 0),.pv (.bool false),.nils 7,.pv (.int .i64 0),.nils 3,.pv (.int .i64 0),.pv (.int .i64 0),.pv (.int .i64 0)]),(8,[.rf 103 o0 [] 1 0 cur.S.D.Secs.length,.rf 103 o1 [] 2 0 cur.S.D.Cache.length,.pv (.int .i64 cur.S.D.Fuse),.pv (.bool cur.S.D.Down),.rf 103 o2 [] 7 0 cur.S.T.Rows.length,.pv (.int .i64 cur.S.T.Phase),.rf 103 o3 [] 3 0 cur.S.T.Marks.length,.pv (.int .i64 cur.S.Gen),.pv (.int .i64 cur.S.Place),.pv (.int .i64 cur.Cs)])],[(0,n.enc false),(1,[sT f]),(103,X)]⟩)
  (hQ:Q (.exit 2) ⟨[(85,.one (.pv (.bool false))),(84,.one (.pv (.int .i64 n.S.T.Rows.length))),(83,.one (.ro 7 (n.S.T.Rows.map (RowV.enc false)))),(82,.bp 2 4),(81,.bp 2 4),(80,.bp 2 0),(79,.one (.pv (.int .i64 n.S.T.Rows.length))),(2,.bp 2 0),(4,.bp 4 0),(8,.bp 8 0),(9,.one (.pv (.string A))),(14,.one (.pv (.int .i64 (bif n.S.T.Rows.any fun r=>isBehind A r.Key then 0 else 1)))),(15,.one (.pv (.int .i64 n.S.T.Rows.length)))],[(2,[.ro 1 (n.S.D.Secs.map fun y=>[slT false 1 uR y]),.ro 2 (n.S.D.Cache.map (WrV.enc false)),.pv (.int .i64 n.S.D.Fuse),.pv (.bool n.S.D.Down),.ro 7 (n.S.T.Rows.map (RowV.enc false)),.pv (.int .i64 p),.ro 3 (n.S.T.Marks.map MarkV.row),.pv (.int .i64 n.S.Gen),.pv (.int .i64 n.S.Place),.pv (.int .i64 n.Cs)]),(4,[.nils 1,.nils 2,.pv (.int .i64 0),.pv (.bool false),.nils 7,.pv (.int .i64 0),.nils 3,.pv (.int .i64 0),.pv (.int .i64 0),.pv (.int .i64 0)]),(8,[.rf 103 o0 [] 1 0 cur.S.D.Secs.length,.rf 103 o1 [] 2 0 cur.S.D.Cache.length,.pv (.int .i64 cur.S.D.Fuse),.pv (.bool cur.S.D.Down),.rf 103 o2 [] 7 0 cur.S.T.Rows.length,.pv (.int .i64 cur.S.T.Phase),.rf 103 o3 [] 3 0 cur.S.T.Marks.length,.pv (.int .i64 cur.S.Gen),.pv (.int .i64 cur.S.Place),.pv (.int .i64 cur.Cs)])],[(0,n.enc false),(1,[sT f]),(103,X)]⟩):runC Te 2 103 lastCode st Q:=by
 refine loop_of (σ:=Nat) (fun j=>⟨[(2,.bp 2 0),(4,.bp 4 0),(8,.bp 8 0),(9,.one (.pv (.string A))),(14,.one (.pv (.int .i64 (bif (n.S.T.Rows.take j).any fun r=>isBehind A r.Key then 0 else 1)))),(15,.one (.pv (.int .i64 j)))],[(2,[.ro 1 (n.S.D.Secs.map fun y=>[slT false 1 uR y]),.ro 2 (n.S.D.Cache.map (WrV.enc false)),.pv (.int .i64 n.S.D.Fuse),.pv (.bool n.S.D.Down),.ro 7 (n.S.T.Rows.map (RowV.enc false)),.pv (.int .i64 p),.ro 3 (n.S.T.Marks.map MarkV.row),.pv (.int .i64 n.S.Gen),.pv (.int .i64 n.S.Place),.pv (.int .i64 n.Cs)]),(4,[.nils 1,.nils 2,.pv (.int .i64 0),.pv (.bool false),.nils 7,.pv (.int .i64 0),.nils 3,.pv (.int .i64 0),.pv (.int .i64 0),.pv (.int .i64 0)]),(8,[.rf 103 o0 [] 1 0 cur.S.D.Secs.length,.rf 103 o1 [] 2 0 cur.S.D.Cache.length,.pv (.int .i64 cur.S.D.Fuse),.pv (.bool cur.S.D.Down),.rf 103 o2 [] 7 0 cur.S.T.Rows.length,.pv (.int .i64 cur.S.T.Phase),.rf 103 o3 [] 3 0 cur.S.T.Marks.length,.pv (.int .i64 cur.S.Gen),.pv (.int .i64 cur.S.Place),.pv (.int .i64 cur.Cs)])],[(0,n.enc false),(1,[sT f]),(103,X)]⟩) (fun j=>j≤n.S.T.Rows.length) (fun j=>n.S.T.Rows.length - j) 0 h0 (Nat.zero_le _) ?_
 intro j hj
 cases q3:decide ((j:Int) < (n.S.T.Rows.length:Int))
 ·have k0:j=n.S.T.Rows.length:=by simp only [decide_eq_false_iff_not] at q3; omega
  subst k0
  simp -implicitDefEqProofs only [go_sem,q3,List.take_length]
  exact hQ
 ·have k3:j < n.S.T.Rows.length:=by simp only [decide_eq_true_eq] at q3; omega
  have ea:=any_take (a:=A) k3
  have ew:IntKind.i64.wrap ((j:Int) + 1)=((j + 1:Nat):Int):=IntWalk.i64_in _ (by omega)
  cases g:isBehind A n.S.T.Rows[j].Key
  ·have g':=g
   rw [isBehind] at g'
   rw [g,Bool.or_false] at ea
   refine G4 q3 (List.getElem?_eq_getElem k3) g' ew ?_
   exact ⟨j + 1,by rw [ea] <;> rfl,k3,by omega⟩
  ·have g':=g
   rw [isBehind] at g'
   rw [g,Bool.or_true] at ea
   refine G4 q3 (List.getElem?_eq_getElem k3) g' ew ?_
   exact ⟨j + 1,by rw [ea] <;> rfl,k3,by omega⟩
theorem r_s_NodeStep {Te:TE} (c_s_l15Copy:C_s_l15Copy Te) (c_s_l15Up:C_s_l15Up Te) (c_s_Walks:C_s_Walks Te) (c_s_l15Turn:C_s_l15Turn Te) (c_s_l12SameRow:C_s_l12SameRow Te) (c_s_l13Add:C_s_l13Add Te):C_s_NodeStep (RF Te x_s_NodeStep):=by
 intro n f hn
 have hL:=hn.len (by decide)
 have hr1:=hn.2.1.1
 refine X0 x_s_NodeStep.eq_1 ?_
 refine C0 (c_s_l15Copy n hL) ?_
 refine C0 (c_s_l15Up n (hn.mono (by decide))) ?_
 cases g1:n.up
 ·have e:n.step f=(n,f,0,false):=by rw [NodeV.step,g1]; rfl
  exact F1 e
 refine G0 ?_
 refine C0 (c_s_Walks _) ?_
 cases g2:walks n.S.T.Phase
 ·have e:n.step f=(n,f,0,false):=by rw [NodeV.step,g1,g2]; rfl
  exact F1 e
 obtain ⟨k1,k2,_⟩:=up_ok g1
 have hw:=walks_or g2
 have hl:=behind_last (rows_sorted (NodeV.up_tab g1)) f
 have e:n.step f=(bif (stepN n.S.T.Phase n ((behind f n.S.T.Rows).take 2)).2 then ((stepN n.S.T.Phase n ((behind f n.S.T.Rows).take 2)).1,lastKey f ((behind f n.S.T.Rows).take 2),bif decide (((behind f n.S.T.Rows).length:Int) > 2) then 0 else 1,true) else ((stepN n.S.T.Phase n ((behind f n.S.T.Rows).take 2)).1,f,0,false)):=by rw [NodeV.step,g1,g2]; rfl
 rw [e,← hl]
 clear e hl
 generalize hp:n.S.T.Phase=p at hw
 refine G1 hp ?_
 refine loop_of (σ:=Bool×Nat×NodeV) (fun x=>cond x.1 (⟨[(1,.one (.pv (.string f))),(2,.bp 2 0),(4,.bp 4 0),(8,.bp 8 0),(9,.one (.pv (.string (lastKey f (behind f (n.S.T.Rows.take x.2.1)))))),(10,.one (.pv (.int .i64 (behind f (n.S.T.Rows.take x.2.1)).length))),(11,.one (.pv (.int .i64 x.2.1)))],[(2,[.ro 1 (n.S.D.Secs.map fun y=>[slT false 1 uR y]),.ro 2 (n.S.D.Cache.map (WrV.enc false)),.pv (.int .i64 n.S.D.Fuse),.pv (.bool n.S.D.Down),.ro 7 (n.S.T.Rows.map (RowV.enc false)),.pv (.int .i64 p),.ro 3 (n.S.T.Marks.map MarkV.row),.pv (.int .i64 n.S.Gen),.pv (.int .i64 n.S.Place),.pv (.int .i64 n.Cs)]),(4,[.nils 1,.nils 2,.pv (.int .i64 0),.pv (.bool false),.nils 7,.pv (.int .i64 0),.nils 3,.pv (.int .i64 0),.pv (.int .i64 0),.pv (.int .i64 0)]),(8,[.rf 103 1 [] 1 0 x.2.2.S.D.Secs.length,.rf 103 2 [] 2 0 x.2.2.S.D.Cache.length,.pv (.int .i64 x.2.2.S.D.Fuse),.pv (.bool x.2.2.S.D.Down),.rf 103 5 [] 7 0 x.2.2.S.T.Rows.length,.pv (.int .i64 x.2.2.S.T.Phase),.rf 103 7 [] 3 0 x.2.2.S.T.Marks.length,.pv (.int .i64 x.2.2.S.Gen),.pv (.int .i64 x.2.2.S.Place),.pv (.int .i64 x.2.2.Cs)])],[(0,n.enc false),(1,[sT f]),(103,bT true::x.2.2.S.enc true)]⟩) (⟨[(1,.one (.pv (.string f))),(2,.bp 2 0),(4,.bp 4 0),(8,.bp 8 0),(9,.one (.pv (.string (lastKey f (behind f (n.S.T.Rows.take x.2.1)))))),(10,.one (.pv (.int .i64 (behind f (n.S.T.Rows.take x.2.1)).length))),(11,.one (.pv (.int .i64 x.2.1)))],[(2,[.ro 1 (n.S.D.Secs.map fun y=>[slT false 1 uR y]),.ro 2 (n.S.D.Cache.map (WrV.enc false)),.pv (.int .i64 n.S.D.Fuse),.pv (.bool n.S.D.Down),.ro 7 (n.S.T.Rows.map (RowV.enc false)),.pv (.int .i64 p),.ro 3 (n.S.T.Marks.map MarkV.row),.pv (.int .i64 n.S.Gen),.pv (.int .i64 n.S.Place),.pv (.int .i64 n.Cs)]),(4,[.nils 1,.nils 2,.pv (.int .i64 0),.pv (.bool false),.nils 7,.pv (.int .i64 0),.nils 3,.pv (.int .i64 0),.pv (.int .i64 0),.pv (.int .i64 0)]),(8,[.rf 103 0 [] 1 0 x.2.2.S.D.Secs.length,.rf 103 1 [] 2 0 x.2.2.S.D.Cache.length,.pv (.int .i64 x.2.2.S.D.Fuse),.pv (.bool x.2.2.S.D.Down),.rf 103 4 [] 7 0 x.2.2.S.T.Rows.length,.pv (.int .i64 x.2.2.S.T.Phase),.rf 103 6 [] 3 0 x.2.2.S.T.Marks.length,.pv (.int .i64 x.2.2.S.Gen),.pv (.int .i64 x.2.2.S.Place),.pv (.int .i64 x.2.2.Cs)])],[(0,n.enc false),(1,[sT f]),(103,x.2.2.enc true)]⟩)) (fun x=>x.2.1≤n.S.T.Rows.length∧(behind f (n.S.T.Rows.take x.2.1)).length≤2∧stepN p n (behind f (n.S.T.Rows.take x.2.1))=(x.2.2,true)∧x.2.2.S.ok=true∧x.2.2.S.D.Down=false∧(x.1=false→x.2.2=n)) (fun x=>n.S.T.Rows.length - x.2.1) (false,0,n) ?_ ⟨Nat.zero_le _,Nat.zero_le _,rfl,k1,k2,fun _=>rfl⟩ ?_
 ·simp -implicitDefEqProofs (maxSteps:=1000000) only [go_sem,lastKey,behind,List.take_zero,List.filter_nil,List.getLast?_nil,hp]
  try rfl
 ·rintro ⟨b,i,cur⟩ ⟨hi,h2,hs,c1,c2,hb⟩
  simp only at hi h2 hs c1 c2 hb
  cases b
  ·have hb:=(hb rfl).symm
   subst hb
   cases q:decide ((i:Int) < (n.S.T.Rows.length:Int))&&decide (((behind f (n.S.T.Rows.take i)).length:Int) < 2)
   ·have hx:i=n.S.T.Rows.length∨(behind f (n.S.T.Rows.take i)).length=2:=by simp only [Bool.and_eq_false_iff,decide_eq_false_iff_not] at q; omega
    have et:=behind_take hx h2
    rw [et] at q hs ⊢
    rw [hs]
    generalize hA:lastKey f ((behind f n.S.T.Rows).take 2)=A
    cases q1:decide ((i:Int) < (n.S.T.Rows.length:Int))
    all_goals
     have q2:=q
     rw [q1] at q2
     simp only [Bool.true_and,Bool.false_and] at q2
     try simp -implicitDefEqProofs (maxSteps:=1000000) only [go_sem,q1,q2]
     repeat refine ⟨sc,?_⟩
     try exact sf
    all_goals
     refine last_loop n p n 0 1 4 6 f A (n.enc true) hr1 ?_ ?_
     ·simp -implicitDefEqProofs (maxSteps:=1000000) only [go_sem]
      try rfl
     ·exact F0
   ·rw [Bool.and_eq_true] at q
    obtain ⟨q1,q2⟩:=q
    have k3:i < n.S.T.Rows.length:=by simp only [decide_eq_true_eq] at q1; omega
    have k4:(behind f (n.S.T.Rows.take i)).length < 2:=by simp only [decide_eq_true_eq] at q2; omega
    have ew:IntKind.i64.wrap ((i:Int) + 1)=((i + 1:Nat):Int):=IntWalk.i64_in _ (by omega)
    have es:=behind_step (f:=f) k3
    have hr:=hn.2.1.2 _ (List.getElem_mem k3)
    have gl:=leq_not f n.S.T.Rows[i].Key
    cases g:isBehind f n.S.T.Rows[i].Key
    ·rw [g,cond_false,List.append_nil] at es
     rw [g] at gl
     try simp -implicitDefEqProofs (maxSteps:=1000000) only [go_sem,q1,q2,List.getElem?_eq_getElem k3,gl,ew]
     repeat refine ⟨sc,?_⟩
     try exact sf
     exact ⟨(false,i + 1,n),by rw [es]; rfl,⟨k3,by simp only [es]; omega,by simp only [es]; exact hs,c1,c2,fun _=>rfl⟩,by simp only; omega⟩
    ·rw [g,cond_true] at es
     rw [g] at gl
     have el:(behind f (n.S.T.Rows.take (i + 1))).length=(behind f (n.S.T.Rows.take i)).length + 1:=by rw [es,List.length_append]; rfl
     have ek:lastKey f (behind f (n.S.T.Rows.take (i + 1)))=n.S.T.Rows[i].Key:=by rw [es,lastKey_snoc]
     have e1:stepN p n (behind f (n.S.T.Rows.take (i + 1)))=stepN p n [n.S.T.Rows[i]]:=by rw [es,stepN_app,hs]; rfl
     have ed:IntKind.i64.wrap (((behind f (n.S.T.Rows.take i)).length:Int) + 1)=(((behind f (n.S.T.Rows.take i)).length + 1:Nat):Int):=IntWalk.i64_in _ (by omega)
     refine G4 q1 q2 (List.getElem?_eq_getElem k3) gl ?_
     refine C0 (c_s_l15Turn p n.S.T.Rows[i] hr hw) ?_
     refine C0 (c_s_l12SameRow (turned p n.S.T.Rows[i]) n.S.T.Rows[i]) ?_
     cases g3:rowSame (turned p n.S.T.Rows[i]) n.S.T.Rows[i]
     ·have td:=c_s_l13Add n.S (recRow (turned p n.S.T.Rows[i])) c1 c2 (StoreV.ok_in c1).2 ⟨turned_in hr,Nat.zero_le _⟩
      have ha:=add_ok (recRow (turned p n.S.T.Rows[i])) c1
      refine G1 g3 ?_
      refine C0 (td) ?_
      cases g4:(n.S.add (recRow (turned p n.S.T.Rows[i]))).2
      ·have e3:=step_fail (i:=i + 1) (x:=n.added (recRow (turned p n.S.T.Rows[i]))) (by rw [e1,stepN,g3,g4]; rfl) (by omega)
       rw [e3]
       try simp -implicitDefEqProofs (maxSteps:=1000000) only [go_sem,g4,take_all,take_marks,NodeV.added]
       repeat refine ⟨sc,?_⟩
       try exact sf
       try rfl
      ·have e3:stepN p n (behind f (n.S.T.Rows.take (i + 1)))=(n.added (recRow (turned p n.S.T.Rows[i])),true):=by rw [e1,stepN,g3,g4]; rfl
       refine G3 g4 ed ew ?_
       exact ⟨(true,i + 1,n.added (recRow (turned p n.S.T.Rows[i]))),by simp only [el,ek,NodeV.added]; rfl,⟨k3,by simp only; omega,e3,ha.1,ha.2 g4,fun h=>by cases h⟩,by simp only; omega⟩
     ·have e3:stepN p n (behind f (n.S.T.Rows.take (i + 1)))=(n,true):=by rw [e1,stepN,g3]; rfl
      refine G3 g3 ed ew ?_
      exact ⟨(false,i + 1,n),by simp only [el,ek]; rfl,⟨k3,by simp only; omega,e3,c1,c2,fun _=>rfl⟩,by simp only; omega⟩
  ·cases q:decide ((i:Int) < (n.S.T.Rows.length:Int))&&decide (((behind f (n.S.T.Rows.take i)).length:Int) < 2)
   ·have hx:i=n.S.T.Rows.length∨(behind f (n.S.T.Rows.take i)).length=2:=by simp only [Bool.and_eq_false_iff,decide_eq_false_iff_not] at q; omega
    have et:=behind_take hx h2
    rw [et] at q hs ⊢
    rw [hs]
    generalize hA:lastKey f ((behind f n.S.T.Rows).take 2)=A
    cases q1:decide ((i:Int) < (n.S.T.Rows.length:Int))
    all_goals
     have q2:=q
     rw [q1] at q2
     simp only [Bool.true_and,Bool.false_and] at q2
     try simp -implicitDefEqProofs (maxSteps:=1000000) only [go_sem,q1,q2]
     repeat refine ⟨sc,?_⟩
     try exact sf
    all_goals
     refine last_loop n p cur 1 2 5 7 f A (bT true::cur.S.enc true) hr1 ?_ ?_
     ·simp -implicitDefEqProofs (maxSteps:=1000000) only [go_sem]
      try rfl
     ·exact F0
   ·rw [Bool.and_eq_true] at q
    obtain ⟨q1,q2⟩:=q
    have k3:i < n.S.T.Rows.length:=by simp only [decide_eq_true_eq] at q1; omega
    have k4:(behind f (n.S.T.Rows.take i)).length < 2:=by simp only [decide_eq_true_eq] at q2; omega
    have ew:IntKind.i64.wrap ((i:Int) + 1)=((i + 1:Nat):Int):=IntWalk.i64_in _ (by omega)
    have es:=behind_step (f:=f) k3
    have hr:=hn.2.1.2 _ (List.getElem_mem k3)
    have gl:=leq_not f n.S.T.Rows[i].Key
    cases g:isBehind f n.S.T.Rows[i].Key
    ·rw [g,cond_false,List.append_nil] at es
     rw [g] at gl
     try simp -implicitDefEqProofs (maxSteps:=1000000) only [go_sem,q1,q2,List.getElem?_eq_getElem k3,gl,ew]
     repeat refine ⟨sc,?_⟩
     try exact sf
     exact ⟨(true,i + 1,cur),by rw [es]; rfl,⟨k3,by simp only [es]; omega,by simp only [es]; exact hs,c1,c2,fun h=>by cases h⟩,by simp only; omega⟩
    ·rw [g,cond_true] at es
     rw [g] at gl
     have el:(behind f (n.S.T.Rows.take (i + 1))).length=(behind f (n.S.T.Rows.take i)).length + 1:=by rw [es,List.length_append]; rfl
     have ek:lastKey f (behind f (n.S.T.Rows.take (i + 1)))=n.S.T.Rows[i].Key:=by rw [es,lastKey_snoc]
     have e1:stepN p n (behind f (n.S.T.Rows.take (i + 1)))=stepN p cur [n.S.T.Rows[i]]:=by rw [es,stepN_app,hs]; rfl
     have ed:IntKind.i64.wrap (((behind f (n.S.T.Rows.take i)).length:Int) + 1)=(((behind f (n.S.T.Rows.take i)).length + 1:Nat):Int):=IntWalk.i64_in _ (by omega)
     refine G4 q1 q2 (List.getElem?_eq_getElem k3) gl ?_
     refine C0 (c_s_l15Turn p n.S.T.Rows[i] hr hw) ?_
     refine C0 (c_s_l12SameRow (turned p n.S.T.Rows[i]) n.S.T.Rows[i]) ?_
     cases g3:rowSame (turned p n.S.T.Rows[i]) n.S.T.Rows[i]
     ·have td:=c_s_l13Add cur.S (recRow (turned p n.S.T.Rows[i])) c1 c2 (StoreV.ok_in c1).2 ⟨turned_in hr,Nat.zero_le _⟩
      have ha:=add_ok (recRow (turned p n.S.T.Rows[i])) c1
      refine G1 g3 ?_
      refine C0 (td) ?_
      cases g4:(cur.S.add (recRow (turned p n.S.T.Rows[i]))).2
      ·have e3:=step_fail (i:=i + 1) (x:=cur.added (recRow (turned p n.S.T.Rows[i]))) (by rw [e1,stepN,g3,g4]; rfl) (by omega)
       rw [e3]
       try simp -implicitDefEqProofs (maxSteps:=1000000) only [go_sem,g4,take_all,take_marks,NodeV.added]
       repeat refine ⟨sc,?_⟩
       try exact sf
       try rfl
      ·have e3:stepN p n (behind f (n.S.T.Rows.take (i + 1)))=(cur.added (recRow (turned p n.S.T.Rows[i])),true):=by rw [e1,stepN,g3,g4]; rfl
       refine G3 g4 ed ew ?_
       exact ⟨(true,i + 1,cur.added (recRow (turned p n.S.T.Rows[i]))),by simp only [el,ek,NodeV.added]; rfl,⟨k3,by simp only; omega,e3,ha.1,ha.2 g4,fun h=>by cases h⟩,by simp only; omega⟩
     ·have e3:stepN p n (behind f (n.S.T.Rows.take (i + 1)))=(cur,true):=by rw [e1,stepN,g3]; rfl
      refine G3 g3 ed ew ?_
      exact ⟨(true,i + 1,cur),by simp only [el,ek]; rfl,⟨k3,by simp only; omega,e3,c1,c2,fun h=>by cases h⟩,by simp only; omega⟩
def x_s_l3Koi:FnX:=⟨28,[.tmp 2],
  .q [.i 2 0]
 (.q [.op 4 (.bslice 1 [(.i 1102),(.i 1072),(.i 1073),(.i 1094),(.i 1076),(.i 1077),(.i 1092),(.i 1075),(.i 1093),(.i 1080),(.i 1081),(.i 1082),(.i 1083),(.i 1084),(.i 1085),(.i 1086),(.i 1087),(.i 1103),(.i 1088),(.i 1089),(.i 1090),(.i 1091),(.i 1078),(.i 1074),(.i 1100),(.i 1099),(.i 1079),(.i 1096),(.i 1101),(.i 1097),(.i 1095),(.i 1098)]),.m 3 4]
 (.seq (.block 0 (.q [.m 6 0,.B 7 .geq 6 224,.m 5 7]
 (.cond 5 (.q [.m 8 3,.m 9 0,.B 10 .sub 9 224,.x 11 1 8 10,.l 12 11,.B 13 .sub 12 32,.m 2 13]
 .ret) (.q [.m 15 0,.B 16 .geq 15 192,.m 14 16]
 (.cond 14 (.q [.m 17 3,.m 18 0,.B 19 .sub 18 192,.x 20 1 17 19,.l 21 20,.m 2 21]
 .ret) (.q [.m 23 0,.B 24 .eql 23 163,.m 22 24]
 (.cond 22 (.q [.i 2 1105]
 .ret) (.q [.m 26 0,.B 27 .eql 26 179,.m 25 27]
 (.c 25 (.q [.i 2 1025]
 .ret))))))))))
 (.q [.i 2 (-1)]
 .ret)))⟩
theorem r_s_l3Koi {Te:TE}:C_s_l3Koi (RF Te x_s_l3Koi):=by
 intro b hb
 refine run0 ?_
 cases g1:decide (b≥224)
 ·cases g2:decide (b≥192)
  ·cases g3:(b==163)
   ·cases g4:(b==179)
    ·simp -implicitDefEqProofs (maxSteps:=1000000) only [x_s_l3Koi,go_sem,koi,g1,g2,g3,g4]
     repeat refine ⟨sc,?_⟩
     try exact sf
    ·simp -implicitDefEqProofs (maxSteps:=1000000) only [x_s_l3Koi,go_sem,koi,g1,g2,g3,g4]
     repeat refine ⟨sc,?_⟩
     try exact sf
   ·simp -implicitDefEqProofs (maxSteps:=1000000) only [x_s_l3Koi,go_sem,koi,g1,g2,g3]
    repeat refine ⟨sc,?_⟩
    try exact sf
  ·simp only [decide_eq_true_eq] at g2
   have e:IntKind.i64.wrap (b - 192)=b - 192:=IntWalk.i64_in _ (by omega)
   simp only [decide_eq_false_iff_not] at g1
   have hk:(b - 192).toNat < 32:=by omega
   have q1:=decide_eq_false g1
   have q2:=decide_eq_true g2
   simp -implicitDefEqProofs (maxSteps:=1000000) only [x_s_l3Koi,go_sem,koi,q1,q2,e,Nat.mul_one,List.getD_eq_getElem?_getD]
   repeat refine ⟨sc,?_⟩
   try exact sf
   try simp -implicitDefEqProofs (maxSteps:=1000000) only [go_sem,koi_row hk,q1,q2]
   repeat refine ⟨sc,?_⟩
   try exact sf
   try simp only [List.getD_eq_getElem?_getD]
 ·simp only [decide_eq_true_eq] at g1
  have e:IntKind.i64.wrap (b - 224)=b - 224:=IntWalk.i64_in _ (by omega)
  have hk:(b - 224).toNat < 32:=by omega
  have q1:=decide_eq_true g1
  have hv:=koi_in ⟨(b - 224).toNat,hk⟩
  have e2:IntKind.i64.wrap (koiL.getD (b - 224).toNat 0 - 32)=koiL.getD (b - 224).toNat 0 - 32:=IntWalk.i64_in _ (by simp only at hv; omega)
  simp -implicitDefEqProofs (maxSteps:=1000000) only [x_s_l3Koi,go_sem,koi,q1,e,Nat.mul_one,List.getD_eq_getElem?_getD]
  repeat refine ⟨sc,?_⟩
  try exact sf
  try simp -implicitDefEqProofs (maxSteps:=1000000) only [go_sem,koi_row hk,q1,e2]
  repeat refine ⟨sc,?_⟩
  try exact sf
  try simp only [List.getD_eq_getElem?_getD]
def x_i_winSign:FnX:=⟨12,[.tmp 2],
  .q [.i 2 0]
 (.q [.op 4 (.build [.i 0,.i 0,.i 0,.i 0,.i 0,.i 0,.i 0,.i 0,.i 0,.i 0,.i 0,.i 0,.i 0,.i 0,.i 0,.i 0,.i 0,.i 0,.i 0,.i 0,.i 0,.i 0,.i 0,.i 0,.i 0,.i 0,.i 0,.i 0,.i 0,.i 0,.i 0,.i 0] [(0,1,(.i 8364)),(1,1,(.i 0)),(2,1,(.i 8218)),(3,1,(.i 402)),(4,1,(.i 8222)),(5,1,(.i 8230)),(6,1,(.i 8224)),(7,1,(.i 8225)),(8,1,(.i 710)),(9,1,(.i 8240)),(10,1,(.i 352)),(11,1,(.i 8249)),(12,1,(.i 338)),(13,1,(.i 0)),(14,1,(.i 381)),(15,1,(.i 0)),(16,1,(.i 0)),(17,1,(.i 8216)),(18,1,(.i 8217)),(19,1,(.i 8220)),(20,1,(.i 8221)),(21,1,(.i 8226)),(22,1,(.i 8211)),(23,1,(.i 8212)),(24,1,(.i 732)),(25,1,(.i 8482)),(26,1,(.i 353)),(27,1,(.i 8250)),(28,1,(.i 339)),(29,1,(.i 0)),(30,1,(.i 382)),(31,1,(.i 376))]),.op 3 (.alloc [.i 0,.i 0,.i 0,.i 0,.i 0,.i 0,.i 0,.i 0,.i 0,.i 0,.i 0,.i 0,.i 0,.i 0,.i 0,.i 0,.i 0,.i 0,.i 0,.i 0,.i 0,.i 0,.i 0,.i 0,.i 0,.i 0,.i 0,.i 0,.i 0,.i 0,.i 0,.i 0]),.s 100001 32 3 4]
 (.seq (.q [.m 5 0,.B 6 .geq 5 160]
 (.c 6 (.q [.m 7 0,.m 2 7]
 .ret)))
 (.q [.m 8 0,.B 9 .sub 8 128,.op 10 (.aaddr 32 1 (.t 3) (.t 9)),.l 11 10,.m 2 11]
 .ret)))⟩
theorem r_i_winSign {Te:TE}:C_i_winSign (RF Te x_i_winSign):=by
 intro b hb
 refine run0 ?_
 cases g1:decide (b≥160)
 ·have e:IntKind.i64.wrap (b - 128)=b - 128:=IntWalk.i64_in _ (by omega)
  have hk:(b - 128).toNat < 32:=by simp only [decide_eq_false_iff_not] at g1; omega
  simp -implicitDefEqProofs (maxSteps:=1000000) only [x_i_winSign,go_sem,winB,g1,e,Nat.mul_one]
  repeat refine ⟨sc,?_⟩
  try exact sf
  try simp -implicitDefEqProofs (maxSteps:=1000000) only [go_sem,win_cel hk,g1]
  repeat refine ⟨sc,?_⟩
  try exact sf
 ·simp -implicitDefEqProofs (maxSteps:=1000000) only [x_i_winSign,go_sem,winB,g1]
  repeat refine ⟨sc,?_⟩
  try exact sf
def x_s_l3Win:FnX:=⟨13,[.tmp 2],
  .q [.i 2 0]
 (.q [.op 4 (.bslice 1 [(.i 8364),(.i (-1)),(.i 8218),(.i 402),(.i 8222),(.i 8230),(.i 8224),(.i 8225),(.i 710),(.i 8240),(.i 352),(.i 8249),(.i 338),(.i (-1)),(.i 381),(.i (-1)),(.i (-1)),(.i 8216),(.i 8217),(.i 8220),(.i 8221),(.i 8226),(.i 8211),(.i 8212),(.i 732),(.i 8482),(.i 353),(.i 8250),(.i 339),(.i (-1)),(.i 382),(.i 376)]),.m 3 4]
 (.seq (.q [.m 5 0,.B 6 .geq 5 160]
 (.c 6 (.q [.m 7 0,.m 2 7]
 .ret)))
 (.q [.m 8 3,.m 9 0,.B 10 .sub 9 128,.x 11 1 8 10,.l 12 11,.m 2 12]
 .ret)))⟩
theorem r_s_l3Win {Te:TE}:C_s_l3Win (RF Te x_s_l3Win):=by
 intro b hb
 refine run0 ?_
 cases g1:decide (b≥160)
 ·have e:IntKind.i64.wrap (b - 128)=b - 128:=IntWalk.i64_in _ (by omega)
  have hk:(b - 128).toNat < 32:=by simp only [decide_eq_false_iff_not] at g1; omega
  simp -implicitDefEqProofs (maxSteps:=1000000) only [x_s_l3Win,go_sem,winB,g1,e,Nat.mul_one,List.getD_eq_getElem?_getD]
  repeat refine ⟨sc,?_⟩
  try exact sf
  try simp -implicitDefEqProofs (maxSteps:=1000000) only [go_sem,win_row hk,g1]
  repeat refine ⟨sc,?_⟩
  try exact sf
  try simp only [List.getD_eq_getElem?_getD]
 ·simp -implicitDefEqProofs (maxSteps:=1000000) only [x_s_l3Win,go_sem,winB,g1]
  repeat refine ⟨sc,?_⟩
  try exact sf
def x_i_NodeStep:FnX:=⟨77,[.cell 4 (some 10),.tmp 5,.tmp 6,.tmp 7],
  .q [.v 2 0,.op 4 (.alloc [.nils 1,.nils 2,.i 0,.F,.nils 7,.i 0,.nils 3,.i 0,.i 0,.i 0]),.op 5 (.mv (.k (.one (.pv (.string ⟨#[]⟩))))),.i 6 0,.F 7]
 (.q [.L 17 10 2,.c 18 28 [17],.op 8 (.alloc [.nils 1,.nils 2,.i 0,.F,.nils 7,.i 0,.nils 3,.i 0,.i 0,.i 0]),.s 100001 10 8 18]
 (.q [.f 19 2 0,.f 20 19 4,.f 21 20 1,.l 22 21,.m 9 22]
 (.seq (.q [.L 23 10 2,.c 24 58 [23],.N 25 24,.m 26 25,.z 26 (.m 27 9),.z 26 (.c 28 68 [27]),.z 26 (.N 29 28),.r 30 26 29]
 (.c 30 (.q [.L 31 10 8,.m 32 1,.s 100002 10 4 31,.m 5 32,.i 6 0,.F 7]
 .ret)))
 (.q [.f 33 2 0,.f 34 33 4,.L 35 3 34,.m 36 1,.c 37 69 [35,36],.m 10 37]
 (.q [.m 38 1,.m 11 38]
 (.seq (.q [.m 39 10,.m 40 10,.n 41 40,.op 42 (.min (.i 2) (.t 41)),.op 43 (.slice 7 (.t 39) none (some (.t 42))),.n 44 43,.i 45 0]
 (.block 0 (.loop [1,4,8,9,10,11,43,44,45] (.q [.b 46 .lss 45 44]
 (.seq (.cond 46 .skip (.exit 0))
 (.seq (.block 1 (.q [.x 47 7 43 45,.L 48 7 47,.op 13 (.alloc [.e,.i 0,.nils 1,.i 0,.nils 1,.i 0,.F]),.s 100003 7 13 48]
 (.q [.m 49 9,.L 50 7 13,.c 51 70 [49,50],.op 14 (.alloc [.e,.i 0,.nils 1,.i 0,.nils 1,.i 0,.F]),.s 100004 7 14 51]
 (.q [.f 52 13 0,.l 53 52,.m 11 53]
 (.seq (.q [.L 54 7 14,.L 55 7 13,.c 56 71 [54,55]]
 (.c 56 (.exit 1)))
 (.q [.L 58 10 8,.L 59 7 14,.op 60 (.build [.i 0,.e,.i 0,.nils 1,.i 0,.nils 1,.i 0,.F,.e,.i 0,.i 0,.i 0,.i 0] [(0,1,(.i 1)),(1,7,(.t 59))]),.c 61 67 [58,60],.m 57 61,.e 62 57 0,.e 63 57 1,.op 15 (.alloc [.nils 1,.nils 2,.i 0,.F,.nils 7,.i 0,.nils 3,.i 0,.i 0,.i 0]),.s 100005 10 15 62,.m 16 63]
 (.q [.L 64 10 15,.s 100006 10 8 64]
 (.q [.m 65 16,.N 66 65]
 (.c 66 (.q [.L 67 10 8,.m 68 1,.s 100007 10 4 67,.m 5 68,.i 6 0,.F 7]
 .ret))))))))))
 (.reg [.B 69 .add 45 1,.m 45 69])))))))
 (.norm [4,8,10,11] (.seq (.q [.m 70 10,.n 71 70,.B 72 .gtr 71 2]
 (.c 72 (.q [.L 73 10 8,.m 74 11,.s 100008 10 4 73,.m 5 74,.i 6 0,.T 7]
 .ret)))
 (.q [.L 75 10 8,.m 76 11,.s 100009 10 4 75,.m 5 76,.i 6 1,.T 7]
 .ret)))))))))⟩
theorem r_i_NodeStep {Te:TE} (c_i_copyNode:C_i_copyNode Te) (c_i_isUp:C_i_isUp Te) (c_i_Walks:C_i_Walks Te) (c_i_rowsBehind:C_i_rowsBehind Te) (c_i_turnedRow:C_i_turnedRow Te) (c_i_sameRow:C_i_sameRow Te) (c_i_added:C_i_added Te):C_i_NodeStep (RF Te x_i_NodeStep):=by
 intro n f hn
 have hL:=hn.len (by decide)
 refine X0 x_i_NodeStep.eq_1 ?_
 refine C0 (c_i_copyNode n hL) ?_
 refine C0 (c_i_isUp n (hn.mono (by decide))) ?_
 cases g1:n.up
 ·have e:n.step f=(n,f,0,false):=by rw [NodeV.step,g1]; rfl
  exact F1 e
 refine G0 ?_
 refine C0 (c_i_Walks _) ?_
 cases g2:walks n.S.T.Phase
 ·have e:n.step f=(n,f,0,false):=by rw [NodeV.step,g1,g2]; rfl
  exact F1 e
 refine G0 ?_
 refine C0 (c_i_rowsBehind n.S.T f (by have:=hn.2.1.1; omega)) ?_
 have hB:(behind f n.S.T.Rows).length≤n.S.T.Rows.length:=List.length_filter_le _ _
 have hB2:∀ r∈behind f n.S.T.Rows,r.In (2 ^ 20):=fun r hr=>hn.2.1.2 r (List.mem_filter.1 hr).1
 have e:n.step f=(bif (stepN n.S.T.Phase n ((behind f n.S.T.Rows).take 2)).2 then ((stepN n.S.T.Phase n ((behind f n.S.T.Rows).take 2)).1,lastKey f ((behind f n.S.T.Rows).take 2),bif decide (((behind f n.S.T.Rows).length:Int) > 2) then 0 else 1,true) else ((stepN n.S.T.Phase n ((behind f n.S.T.Rows).take 2)).1,f,0,false)):=by rw [NodeV.step,g1,g2]; rfl
 rw [e]
 clear e
 generalize behind f n.S.T.Rows=B at hB hB2
 have hBr:B.length≤2 ^ 20:=by have:=hn.2.1.1; omega
 have ek:(bif decide ((B.length:Int) < 2) then (B.length:Int) else 2)=((B.take 2).length:Nat):=by
  rw [List.length_take]
  by_cases h:(B.length:Int) < 2
  ·rw [decide_eq_true h,cond_true]; omega
  ·rw [decide_eq_false h,cond_false]; omega
 rw [ek]
 have hk:(B.take 2).length≤B.length:=by rw [List.length_take]; omega
 have hk2:(B.take 2).length≤2:=by rw [List.length_take]; omega
 have hget:∀ (i:Nat) (h:i < (B.take 2).length) (h2:i < B.length),(B.take 2)[i]=B[i]:=fun i h h2=>List.getElem_take
 generalize B.take 2=C at hk hk2 hget
 generalize hp:n.S.T.Phase=p
 try simp -implicitDefEqProofs (maxSteps:=1000000) only [go_sem,Int.toNat_natCast,hp]
 repeat refine ⟨sc,?_⟩
 try exact sf
 refine loop_of (σ:=Nat×NodeV×List T) (fun x=>⟨[(1,.one (.pv (.string f))),(4,.bp 4 0),(8,.bp 8 0),(9,.one (.pv (.int .i64 p))),(10,.one (.rf 79 0 [] 7 0 B.length)),(11,.one (.pv (.string (lastKey f (C.take x.1))))),(43,.one (.rf 79 0 [] 7 0 C.length)),(44,.one (.pv (.int .i64 C.length))),(45,.one (.pv (.int .i64 x.1)))],[(4,[.nils 1,.nils 2,.pv (.int .i64 0),.pv (.bool false),.nils 7,.pv (.int .i64 0),.nils 3,.pv (.int .i64 0),.pv (.int .i64 0),.pv (.int .i64 0)]),(8,[.rf 80 0 [] 1 0 x.2.1.S.D.Secs.length,.rf 80 1 [] 2 0 x.2.1.S.D.Cache.length,.pv (.int .i64 x.2.1.S.D.Fuse),.pv (.bool x.2.1.S.D.Down),.rf 80 4 [] 7 0 x.2.1.S.T.Rows.length,.pv (.int .i64 x.2.1.S.T.Phase),.rf 80 6 [] 3 0 x.2.1.S.T.Marks.length,.pv (.int .i64 x.2.1.S.Gen),.pv (.int .i64 x.2.1.S.Place),.pv (.int .i64 x.2.1.Cs)])],[(0,n.enc false),(1,[sT f]),(79,[slT true 7 (RowV.enc false) B]),(80,x.2.1.enc true++x.2.2)]⟩) (fun x=>x.1≤C.length∧stepN p n (C.take x.1)=(x.2.1,true)∧x.2.1.In (2 ^ 20)) (fun x=>C.length - x.1) (0,n,[]) ?_ ⟨Nat.zero_le _,rfl,hn⟩ ?_
 ·simp -implicitDefEqProofs (maxSteps:=1000000) only [go_sem,lastKey,List.take_zero,List.getLast?_nil,List.append_nil,hp]
  try rfl
 ·rintro ⟨i,cur,E⟩ ⟨hi,hs,hc⟩
  simp only at hi hs hc
  cases q:decide ((i:Int) < (C.length:Int))
  ·have hC:C.take i=C:=List.take_of_length_le (by simp only [decide_eq_false_iff_not] at q; omega)
   rw [hC] at hs ⊢
   rw [hs]
   cases g:decide ((B.length:Int) > 2)
   ·exact F2 q g
   ·exact F2 q g
  ·have k1:i < C.length:=by simp only [decide_eq_true_eq] at q; omega
   have k2:i < B.length:=by omega
   have hr:=hB2 _ (List.getElem_mem k2)
   have et:C.take (i + 1)=C.take i++[B[i]]:=by rw [List.take_succ_eq_append_getElem k1,hget i k1 k2]
   have ew:IntKind.i64.wrap ((i:Int) + 1)=((i + 1:Nat):Int):=IntWalk.i64_in _ (by omega)
   have e1:stepN p n (C.take (i + 1))=stepN p cur [B[i]]:=by rw [et,stepN_app,hs]; rfl
   have e2:lastKey f (C.take (i + 1))=B[i].Key:=by rw [et,lastKey_snoc]
   try simp -implicitDefEqProofs (maxSteps:=1000000) only [go_sem,q,List.getD_eq_getElem?_getD,List.getElem?_eq_getElem k2]
   repeat refine ⟨sc,?_⟩
   try exact sf
   refine C0 (c_i_turnedRow p B[i] hr) ?_
   refine C0 (c_i_sameRow (turned p B[i]) B[i]) ?_
   cases g3:rowSame (turned p B[i]) B[i]
   ·refine G1 g3 ?_
    refine C0 (c_i_added cur (recRow (turned p B[i])) hc ⟨turned_in hr,Nat.zero_le _⟩) ?_
    cases g4:(cur.S.add (recRow (turned p B[i]))).2
    ·have e3:stepN p n C=(cur.added (recRow (turned p B[i])),false):=by
      rw [← List.take_append_drop (i + 1) C,stepN_app,e1,stepN,g3,g4]; rfl
     rw [e3]
     try simp -implicitDefEqProofs (maxSteps:=1000000) only [go_sem,g4,take_all,take_marks,NodeV.added]
     repeat refine ⟨sc,?_⟩
     try exact sf
     try rfl
    ·have e3:stepN p n (C.take (i + 1))=(cur.added (recRow (turned p B[i])),true):=by rw [e1,stepN,g3,g4]; rfl
     refine G1 g4 ?_
     refine ⟨(i + 1,cur.added (recRow (turned p B[i])),[bT true]),?_,⟨k1,e3,add_in2 _ hc⟩,by simp only; omega⟩
     rw [ew]
     simp only [e2]
     try rfl
   ·have e3:stepN p n (C.take (i + 1))=(cur,true):=by rw [e1,stepN,g3]; rfl
    refine G1 g3 ?_
    refine ⟨(i + 1,cur,E),?_,⟨k1,e3,hc⟩,by simp only; omega⟩
    rw [ew]
    simp only [e2]
    try rfl
def x_i_Encode:FnX:=⟨44,[.tmp 4,.tmp 5],
  .q [.op 4 (.mv (.k (.one (.nils 1)))),.F 5]
 (.q [.m 14 1,.c 15 242 [14],.m 13 15,.e 16 13 0,.e 17 13 1,.m 6 16,.m 7 17]
 (.seq (.q [.m 18 0,.c 19 196 [18],.N 20 19,.m 21 20,.z 21 (.m 22 7),.z 21 (.N 23 22),.r 24 21 23]
 (.c 24 (.q [.op 4 (.mv (.k (.one (.nils 1)))),.F 5]
 .ret)))
 (.q [.op 25 (.bslice 1 []),.m 8 25]
 (.seq (.q [.m 26 6,.n 27 26,.i 28 0]
 (.block 0 (.loop [0,8,26,27,28] (.q [.b 29 .lss 28 27]
 (.seq (.cond 29 .skip (.exit 0))
 (.seq (.block 1 (.q [.x 30 1 26 28,.l 31 30,.m 10 31]
 (.q [.m 33 0,.m 34 8,.m 35 10,.op 36 (.call 243 [0,1,0] [(.t 33),(.t 34),(.t 35)]),.m 32 36,.e 37 32 0,.e 38 32 1,.m 11 37,.m 12 38]
 (.seq (.q [.m 39 12,.N 40 39]
 (.c 40 (.q [.op 4 (.mv (.k (.one (.nils 1)))),.F 5]
 .ret)))
 (.reg [.m 41 11,.m 8 41])))))
 (.reg [.B 42 .add 28 1,.m 28 42])))))))
 (.norm [8] (.q [.m 43 8,.m 4 43,.T 5]
 .ret))))))⟩
theorem r_i_Encode {Te:TE} (c_i_Signs:C_i_Signs Te) (c_i_isSet:C_i_isSet Te) (c_i_putIn:C_i_putIn Te):C_i_Encode (RF Te x_i_Encode):=by
 intro cs s hs
 have hl:=signsOf_len s
 refine X0 x_i_Encode.eq_1 ?_
 refine C0 (c_i_Signs s (by omega)) ?_
 refine C0 (c_i_isSet cs) ?_
 cases g1:win cs 0 5
 ·have e:encode cs s=([],false):=by rw [encode,g1]; rfl
  exact F1 e
 cases g2:(signsOf s).2
 ·have e:encode cs s=([],false):=by rw [encode,g1,g2]; rfl
  exact F2 g2 e
 have e:encode cs s=encGo cs [] (signsOf s).1:=by rw [encode,g1,g2]; rfl
 refine G1 g2 ?_
 rw [e]
 generalize (signsOf s).1=L at hl
 refine loop_of (σ:=Nat×List UInt8×List T) (fun x=>⟨[(0,.one (.pv (.int .i64 cs))),(8,.one (.rf 46 0 [] 1 0 x.2.1.length)),(26,.one (.rf 47 0 [] 1 0 L.length)),(27,.one (.pv (.int .i64 L.length))),(28,.one (.pv (.int .i64 x.1)))],[],[(0,[iT cs]),(1,[sT s]),(46,slT true 1 uR x.2.1::x.2.2),(47,[slT true 1 iR L,bT true])]⟩) (fun x=>x.1≤L.length∧x.2.1.length≤4 * x.1∧encGo cs x.2.1 (L.drop x.1)=encGo cs [] L) (fun x=>L.length - x.1) (0,[],[]) ?_ ⟨Nat.zero_le _,Nat.le_refl _,rfl⟩ ?_
 ·simp -implicitDefEqProofs (maxSteps:=1000000) only [go_sem]
  try rfl
 ·rintro ⟨i,b,E⟩ ⟨hi,hb,hg⟩
  simp only at hi hb hg
  cases q:decide ((i:Int) < (L.length:Int))
  ·have hd:L.drop i=[]:=List.drop_eq_nil_of_le (by simp only [decide_eq_false_iff_not] at q; omega)
   rw [hd,encGo] at hg
   rw [← hg]
   exact F1 q
  ·have k1:i < L.length:=by simp only [decide_eq_true_eq] at q; omega
   have hp:=putIn_len cs b L[i]
   rw [List.drop_eq_getElem_cons k1,encGo] at hg
   try simp -implicitDefEqProofs (maxSteps:=1000000) only [go_sem,q,List.getD_eq_getElem?_getD,List.getElem?_eq_getElem k1,take_rows]
   repeat refine ⟨sc,?_⟩
   try exact sf
   refine C0 (c_i_putIn cs b L[i] (by omega)) ?_
   cases g:(putIn cs b L[i]).2
   ·rw [g] at hg
    rw [← hg]
    exact F1 g
   ·rw [g] at hg
    refine G1 g ?_
    refine ⟨(i + 1,(putIn cs b L[i]).1,[bT true]),?_,⟨k1,by simp only; omega,hg⟩,by simp only; omega⟩
    rw [IntWalk.i64_in _ (by omega)]
    rfl
def x_s_Encode:FnX:=⟨47,[.tmp 4,.tmp 5],
  .q [.op 4 (.mv (.k (.one (.nils 1)))),.F 5]
 (.q [.op 12 (.bslice 1 []),.m 6 12]
 (.q [.m 14 1,.c 15 234 [14],.m 13 15,.e 16 13 0,.e 17 13 1,.m 7 16,.m 8 17]
 (.seq (.q [.m 18 0,.c 19 231 [18],.N 20 19,.m 21 20,.z 21 (.m 22 8),.z 21 (.N 23 22),.r 24 21 23]
 (.c 24 (.q [.m 25 6,.m 4 25,.F 5]
 .ret)))
 (.seq (.q [.i 9 0]
 (.block 0 (.loop [0,6,7,9] (.seq (.q [.m 26 9,.m 27 7,.n 28 27,.b 29 .lss 26 28]
 (.cond 29 .skip (.exit 0)))
 (.seq (.block 1 (.q [.m 33 0,.m 34 6,.m 35 7,.m 36 9,.x 37 1 35 36,.l 38 37,.c 39 235 [33,34,38],.m 32 39,.e 40 32 0,.e 41 32 1,.m 10 40,.m 11 41]
 (.seq (.q [.m 42 11,.N 43 42]
 (.c 43 (.q [.op 44 (.bslice 1 []),.m 4 44,.F 5]
 .ret)))
 (.reg [.m 45 10,.m 6 45]))))
 (.reg [.m 30 9,.B 31 .add 30 1,.m 9 31]))))))
 (.norm [6] (.q [.m 46 6,.m 4 46,.T 5]
 .ret))))))⟩
theorem r_s_Encode {Te:TE} (c_s_Signs:C_s_Signs Te) (c_s_l5Cs:C_s_l5Cs Te) (c_s_l5Put:C_s_l5Put Te):C_s_Encode (RF Te x_s_Encode):=by
 intro cs s hs
 have hl:=signsOf_len s
 have ho:=signsOf_ok s
 refine X0 x_s_Encode.eq_1 ?_
 refine C0 (c_s_Signs s hs) ?_
 refine C0 (c_s_l5Cs cs) ?_
 cases g1:win cs 0 5
 ·have e:encode cs s=([],false):=by rw [encode,g1]; rfl
  exact F1 e
 cases g2:(signsOf s).2
 ·have e:encode cs s=([],false):=by rw [encode,g1,g2]; rfl
  exact F2 g2 e
 have e:encode cs s=encGo cs [] (signsOf s).1:=by rw [encode,g1,g2]; rfl
 refine G1 g2 ?_
 rw [e]
 generalize (signsOf s).1=L at hl ho
 refine loop_of (σ:=Nat×List UInt8×List T) (fun x=>⟨[(0,.one (.pv (.int .i64 cs))),(6,.one (.rf 49 0 [] 1 0 x.2.1.length)),(7,.one (.rf 50 0 [] 1 0 L.length)),(9,.one (.pv (.int .i64 x.1)))],[],[(0,[iT cs]),(1,[sT s]),(49,slT true 1 uR x.2.1::x.2.2),(50,[slT true 1 iR L,bT true])]⟩) (fun x=>x.1≤L.length∧x.2.1.length≤4 * x.1∧encGo cs x.2.1 (L.drop x.1)=encGo cs [] L) (fun x=>L.length - x.1) (0,[],[]) ?_ ⟨Nat.zero_le _,Nat.le_refl _,rfl⟩ ?_
 ·simp -implicitDefEqProofs (maxSteps:=1000000) only [go_sem]
  try rfl
 ·rintro ⟨i,b,E⟩ ⟨hi,hb,hg⟩
  simp only at hi hb hg
  cases q:decide ((i:Int) < (L.length:Int))
  ·have hd:L.drop i=[]:=List.drop_eq_nil_of_le (by simp only [decide_eq_false_iff_not] at q; omega)
   rw [hd,encGo] at hg
   rw [← hg]
   exact F1 q
  ·have k1:i < L.length:=by simp only [decide_eq_true_eq] at q; omega
   have hp:=putIn_len cs b L[i]
   rw [List.drop_eq_getElem_cons k1,encGo] at hg
   try simp -implicitDefEqProofs (maxSteps:=1000000) only [go_sem,q,List.getD_eq_getElem?_getD,List.getElem?_eq_getElem k1,take_rows]
   repeat refine ⟨sc,?_⟩
   try exact sf
   refine .of (c_s_l5Put cs b L[i] (by omega) (ho _ (List.getElem_mem k1))) ?_
   try simp -implicitDefEqProofs (maxSteps:=1000000) only [go_sem]
   repeat refine ⟨sc,?_⟩
   try exact sf
   cases g:(putIn cs b L[i]).2
   ·rw [g] at hg
    rw [← hg]
    exact F1 g
   ·rw [g] at hg
    refine G1 g ?_
    refine ⟨(i + 1,(putIn cs b L[i]).1,[bT true]),?_,⟨k1,by simp only; omega,hg⟩,by simp only; omega⟩
    rw [IntWalk.i64_in _ (by omega)]
    rfl
def x_i_CellOf:FnX:=⟨27,[.cell 4 (some 2),.tmp 5],
  .q [.op 4 (.alloc [.i 0,.nils 1]),.F 5]
 (.q [.m 10 0,.m 11 1,.c 12 228 [10,11],.m 9 12,.e 13 9 0,.e 14 9 1,.m 6 13,.m 7 14]
 (.q [.m 15 0,.m 16 6,.op 17 (.build [.i 0,.nils 1] [(0,1,(.t 15)),(1,1,(.t 16))]),.op 8 (.alloc [.i 0,.nils 1]),.s 100001 2 8 17]
 (.seq (.q [.m 18 7,.N 19 18,.m 20 19,.z 20 (.L 21 2 8),.z 20 (.c 22 155 [21]),.z 20 (.N 23 22),.r 24 20 23]
 (.c 24 (.q [.op 25 (.build [.i 0,.nils 1] []),.s 100002 2 4 25,.F 5]
 .ret)))
 (.q [.L 26 2 8,.s 100003 2 4 26,.T 5]
 .ret))))⟩
theorem r_i_CellOf {Te:TE} (c_i_Encode:C_i_Encode Te) (c_i_CellOk:C_i_CellOk Te):C_i_CellOf (RF Te x_i_CellOf):=by
 intro tag s hs
 have hl:=encode_len tag s
 refine X0 x_i_CellOf.eq_1 ?_
 refine C0 (c_i_Encode tag s hs) ?_
 cases g:(encode tag s).2
 ·have e:=cellOf_no g
  exact F2 g e
 have gt:=encode_tag g
 refine G1 g ?_
 refine C0 (c_i_CellOk ⟨tag,(encode tag s).1⟩) ?_
 cases g2:decide (((encode tag s).1.length:Int)≤20)
 ·have e:=cellOf_big g2
  try simp -implicitDefEqProofs (maxSteps:=1000000) only [go_sem,CellV.ok,gt,g2,e,take_rows]
  repeat refine ⟨sc,?_⟩
  try exact sf
  try rfl
 ·have e:=cellOf_yes g g2
  try simp -implicitDefEqProofs (maxSteps:=1000000) only [go_sem,CellV.ok,gt,g2,e,take_rows]
  repeat refine ⟨sc,?_⟩
  try exact sf
  try rfl
def x_l_heldMarkS_2:XCode:=.seq (.q [.m 30 0,.m 31 5,.x 32 3 30 31,.f 33 32 2,.l 34 33,.m 35 1,.b 36 .neq 34 35]
 (.c 36 (.q [.i 4 (-1)]
 .ret)))
 (.reg [.m 37 1,.B 38 .add 37 1,.m 1 38])
def x_l_heldMarkS_1:XCode:=.seq (.q [.m 21 0,.m 22 5,.x 23 3 21 22,.f 24 23 1,.l 25 24,.m 26 1,.b 27 .neq 25 26]
 (.c 27 (.q [.i 4 (-1)]
 .ret)))
 (.q [.m 28 1,.B 29 .add 28 1,.m 1 29]
 x_l_heldMarkS_2)
def x_l_heldMarkS:FnX:=⟨40,[.tmp 4],
  .q [.i 4 0]
 (.seq (.q [.i 5 0]
 (.block 0 (.loop [0,1,5] (.seq (.q [.m 6 5,.m 7 0,.n 8 7,.b 9 .lss 6 8]
 (.cond 9 .skip (.exit 0)))
 (.seq (.block 1 (.seq (.q [.m 12 0,.m 13 5,.x 14 3 12 13,.f 15 14 0,.l 16 15,.m 17 1,.b 18 .neq 16 17]
 (.c 18 (.q [.i 4 (-1)]
 .ret)))
 (.q [.m 19 1,.B 20 .add 19 1,.m 1 20]
 x_l_heldMarkS_1)))
 (.reg [.m 10 5,.B 11 .add 10 1,.m 5 11]))))))
 (.norm [1] (.q [.m 39 1,.m 4 39]
 .ret)))⟩
theorem r_l_heldMarkS {Te:TE}:C_l_heldMarkS (RF Te x_l_heldMarkS):=by
 intro n k hl hk
 refine run0 ?_
 simp -implicitDefEqProofs (maxSteps:=1000000) (disch:=omega) only [x_l_heldMarkS,go_sem,IntWalk.i64_in]
 refine loop_of (σ:=Nat) (fun i=>⟨[(0,.one (.ro 3 ((marks 3 mkMark n k).map MarkV.row))),(1,.one (.pv (.int .i64 (k + (3 * i:Nat))))),(5,.one (.pv (.int .i64 i)))],[],[(0,[slT false 3 MarkV.row (marks 3 mkMark n k)]),(1,[iT k])]⟩) (fun i=>i≤n) (fun i=>n - i) 0 ?_ (Nat.zero_le _) ?_
 ·simp -implicitDefEqProofs (maxSteps:=1000000) only [go_sem]; simp
 ·intro i hi
  simp -implicitDefEqProofs (maxSteps:=1000000) only [go_sem,marks_length]
  refine ⟨fun h=>?_,fun h=>?_⟩
  ·have hi':i < n:=by simp only [decide_eq_true_eq] at h; omega
   try simp -implicitDefEqProofs (maxSteps:=1000000) (disch:=omega) only [go_sem,marks_get 3 mkMark k hi',IntWalk.i64_in,mkMark,bne_self_eq_false,decide_true,Bool.not_true]
   simp -implicitDefEqProofs (maxSteps:=1000000) (disch:=omega) only [x_l_heldMarkS_1,go_sem,marks_get 3 mkMark k hi',IntWalk.i64_in,mkMark,bne_self_eq_false,decide_true,Bool.not_true]
   simp -implicitDefEqProofs (maxSteps:=1000000) (disch:=omega) only [x_l_heldMarkS_2,go_sem,marks_get 3 mkMark k hi',IntWalk.i64_in,mkMark,bne_self_eq_false,decide_true,Bool.not_true]
   refine ⟨i + 1,?_,hi',by omega⟩
   rw [show k + ((3 * (i + 1):Nat):Int)=k + (3 * i:Nat) + 1 + 1 + 1 by omega]
   rfl
  ·have:i=n:=by simp only [decide_eq_false_iff_not] at h; omega
   subst this
   simp -implicitDefEqProofs (maxSteps:=1000000) only [go_sem]
def x_l_szTab:FnX:=⟨18,[.tmp 4],
  .q [.v 2 0,.i 4 0]
 (.q [.f 5 2 0,.l 6 5,.m 7 1,.c 8 80 [6,7],.m 1 8]
 (.seq (.q [.m 9 1,.B 10 .lss 9 0]
 (.c 10 (.q [.i 4 (-1)]
 .ret)))
 (.q [.f 11 2 2,.l 12 11,.m 13 1,.c 14 81 [12,13],.m 1 14]
 (.seq (.q [.m 15 1,.B 16 .lss 15 0]
 (.c 16 (.q [.i 4 (-1)]
 .ret)))
 (.q [.m 17 1,.m 4 17]
 .ret)))))⟩
theorem r_l_szTab {Te:TE} (c_l_szRowS:C_l_szRowS Te) (c_l_szMarkS:C_l_szMarkS Te):C_l_szTab (RF Te x_l_szTab):=by
 intro x k hx hk
 refine run0 ?_
 obtain ⟨h0,h1⟩:=hx
 simp -implicitDefEqProofs (maxSteps:=1000000) (disch:=omega) only [x_l_szTab,go_sem,IntWalk.i64_in]
 refine .of (c_l_szRowS _ _ hk h0.1 h0.2) ?_
 simp -implicitDefEqProofs (maxSteps:=1000000) (disch:=omega) only [go_sem,IntWalk.i64_in]
 refine ⟨fun q0=>?_,fun q0=>?_⟩
 ·simp only [decide_eq_true_eq] at q0
  simp only [szTab,szAll,if_pos q0]
 ·simp only [decide_eq_false_iff_not] at q0
  have k1:0≤(szSl szRow x.Rows k)∧(szSl szRow x.Rows k)≤2 ^ 48:=⟨by omega,Int.le_trans ((Sane.sl szRow_sane _) _ hk.1) hk.2⟩
  refine .of (c_l_szMarkS _ _ h1 k1) ?_
  simp -implicitDefEqProofs (maxSteps:=1000000) (disch:=omega) only [go_sem,IntWalk.i64_in]
  refine ⟨fun q1=>?_,fun q1=>?_⟩
  ·simp only [decide_eq_true_eq] at q1
   simp only [szTab,szAll,if_neg q0,if_pos q1]
  ·simp only [decide_eq_false_iff_not] at q1
   have k2:0≤(left ((szSl szRow x.Rows k) - (x.Marks.length:Nat)))∧(left ((szSl szRow x.Rows k) - (x.Marks.length:Nat)))≤2 ^ 48:=⟨by omega,Int.le_trans (Sane.left _ _ k1.1) k1.2⟩
   simp only [szTab,szAll,if_neg q0,if_neg q1]
def x_l_toTab:FnX:=⟨16,[.cell 2 (some 3)],
  .q [.v 1 0,.op 2 (.alloc [.nils 7,.i 0,.nils 3])]
 (.q [.op 3 (.alloc [.nils 7,.i 0,.nils 3])]
 (.q [.f 4 1 0,.l 5 4,.c 6 96 [5],.f 7 3 0,.s 100001 1 7 6]
 (.q [.f 8 1 1,.l 9 8,.f 10 3 1,.s 100002 1 10 9]
 (.q [.f 11 1 2,.l 12 11,.c 13 97 [12],.f 14 3 2,.s 100003 1 14 13]
 (.q [.L 15 3 3,.s 100004 3 2 15]
 .ret)))))⟩
theorem r_l_toTab {Te:TE} (c_l_toRowS:C_l_toRowS Te) (c_l_toMarkS:C_l_toMarkS Te):C_l_toTab (RF Te x_l_toTab):=by
 intro x hx
 refine run0 ?_
 obtain ⟨h0,h1⟩:=hx
 simp -implicitDefEqProofs (maxSteps:=1000000) only [x_l_toTab,go_sem]
 refine C0 (c_l_toRowS _ h0) ?_
 exact D0 (c_l_toMarkS _ (Nat.le_trans h1 (by decide)))
def x_l_eqTab:FnX:=⟨22,[.tmp 4],
  .q [.v 2 0,.v 3 1,.F 4]
 (.seq (.q [.f 5 2 0,.l 6 5,.f 7 3 0,.l 8 7,.c 9 116 [6,8],.N 10 9]
 (.c 10 (.q [.F 4]
 .ret)))
 (.seq (.q [.f 11 2 1,.l 12 11,.f 13 3 1,.l 14 13,.b 15 .neq 12 14]
 (.c 15 (.q [.F 4]
 .ret)))
 (.seq (.q [.f 16 2 2,.l 17 16,.f 18 3 2,.l 19 18,.c 20 117 [17,19],.N 21 20]
 (.c 21 (.q [.F 4]
 .ret)))
 (.q [.T 4]
 .ret))))⟩
theorem r_l_eqTab {Te:TE} (c_l_eqRowS:C_l_eqRowS Te) (c_l_eqMarkS:C_l_eqMarkS Te):C_l_eqTab (RF Te x_l_eqTab):=by
 intro x y hx
 refine run0 ?_
 obtain ⟨h0,h1⟩:=hx
 have key:(x=y)↔x.Rows=y.Rows∧x.Phase=y.Phase∧x.Marks=y.Marks:=by cases x; cases y; simp
 simp only [key]
 clear key
 simp -implicitDefEqProofs (maxSteps:=1000000) only [x_l_eqTab,go_sem]
 refine .of (c_l_eqRowS _ _ h0) ?_
 simp -implicitDefEqProofs (maxSteps:=1000000) only [go_sem]
 refine ⟨fun q=>?_,fun q=>?_⟩
 ·have n0:¬ (x.Rows=y.Rows):=by simpa using q
  simp only [n0,false_and,and_false,true_and,decide_false]
 have e0:x.Rows=y.Rows:=by simpa using q
 clear q
 refine ⟨fun q=>?_,fun q=>?_⟩
 ·have n1:¬ (x.Phase=y.Phase):=by simpa using q
  simp only [e0,n1,false_and,and_false,true_and,decide_false]
 have e1:x.Phase=y.Phase:=by simpa using q
 clear q
 refine .of (c_l_eqMarkS _ _ (Nat.le_trans h1 (by decide))) ?_
 simp -implicitDefEqProofs (maxSteps:=1000000) only [go_sem]
 refine ⟨fun q=>?_,fun q=>?_⟩
 ·have n2:¬ (x.Marks=y.Marks):=by simpa using q
  simp only [e0,e1,n2,false_and,and_false,true_and,decide_false]
 have e2:x.Marks=y.Marks:=by simpa using q
 clear q
 simp only [e0,e1,e2,true_and,and_true,decide_true]
def x_l_markTab:FnX:=⟨14,[.tmp 4],
  .q [.v 2 0,.i 4 0]
 (.q [.f 5 2 0,.l 6 5,.m 7 1,.op 8 (.io 120 (.t 6) [(.t 7)]),.m 1 8]
 (.q [.f 9 2 2,.l 10 9,.m 11 1,.op 12 (.io 121 (.t 10) [(.t 11)]),.m 1 12]
 (.q [.m 13 1,.m 4 13]
 .ret)))⟩
theorem r_l_markTab {Te:TE} (c_l_markRowS:C_l_markRowS Te) (c_l_markMarkS:C_l_markMarkS Te):C_l_markTab (RF Te x_l_markTab):=by
 intro x k hx hk
 refine run0 ?_
 obtain ⟨h0,h1⟩:=hx
 simp -implicitDefEqProofs (maxSteps:=1000000) only [x_l_markTab,go_sem]
 repeat (refine ⟨by decide,?_⟩)
 refine .of (c_l_markRowS _ _ h0 (by omega)) ?_
 simp -implicitDefEqProofs (maxSteps:=1000000) only [go_sem]
 repeat (refine back_bif (by simp -implicitDefEqProofs (maxSteps:=1000000) only [go_sem]) ?_; simp -implicitDefEqProofs (maxSteps:=1000000) only [go_sem])
 have w0:=farL_le (k:=k) (c:=4194309) h0 (fun y hy k=>RowV.farE_le hy k)
 repeat (refine ⟨by decide,?_⟩)
 refine .of (c_l_markMarkS _ _ (Nat.le_trans h1 (by decide)) (by omega)) ?_
 try simp -implicitDefEqProofs (maxSteps:=1000000) only [go_sem]
 repeat refine ⟨sc,?_⟩
 try exact sf
 try rfl
def x_i_SignByte:FnX:=⟨26,[.tmp 4,.tmp 5],
  .q [.i 4 0,.F 5]
 (.seq (.q [.i 6 0]
 (.block 0 (.loop [0,1,6] (.seq (.q [.m 9 6,.B 10 .leq 9 255]
 (.cond 10 .skip (.exit 0)))
 (.seq (.block 1 (.q [.m 14 0,.m 15 6,.c 16 225 [14,15],.m 13 16,.e 17 13 0,.e 18 13 1,.m 7 17,.m 8 18]
 (.q [.m 19 8,.m 20 19,.y 20 (.m 21 7),.y 20 (.m 22 1),.y 20 (.b 23 .eql 21 22),.a 24 20 23]
 (.c 24 (.q [.m 25 6,.m 4 25,.T 5]
 .ret)))))
 (.reg [.m 11 6,.B 12 .add 11 1,.m 6 12]))))))
 (.norm [] (.q [.i 4 0,.F 5]
 .ret)))⟩
theorem r_i_SignByte {Te:TE} (c_i_ByteSign:C_i_ByteSign Te):C_i_SignByte (RF Te x_i_SignByte):=by
 intro cs n
 refine X0 x_i_SignByte.eq_1 ?_
 refine loop_of (σ:=Nat) (fun i=>⟨[(0,.one (.pv (.int .i64 cs))),(1,.one (.pv (.int .i64 n))),(6,.one (.pv (.int .i64 i)))],[],[(0,[iT cs]),(1,[iT n])]⟩) (fun i=>i≤256∧∀ j,j < i→sbHit cs n j=false) (fun i=>256 - i) 0 ?_ ⟨Nat.zero_le _,fun j h=>absurd h (Nat.not_lt_zero _)⟩ ?_
 ·simp -implicitDefEqProofs (maxSteps:=1000000) only [go_sem]
  try rfl
 ·rintro i ⟨hi,hp⟩
  cases q:decide ((i:Int)≤255)
  ·have e:=signByte_none (cs:=cs) (n:=n) fun j hj=>hp j (by simp only [decide_eq_false_iff_not] at q; omega)
   exact F2 q e
  ·have k1:i < 256:=by simp only [decide_eq_true_eq] at q; omega
   refine G1 q ?_
   refine C0 (c_i_ByteSign _ _) ?_
   cases g1:(byteSign cs i).2
   ·have g:sbHit cs n i=false:=by rw [sbHit,g1]; rfl
    refine G1 g1 ?_
    refine ⟨i + 1,?_,⟨k1,fun j hj=>by
     by_cases e:j=i
     ·subst e; exact g
     ·exact hp j (by omega)⟩,by omega⟩
    rw [IntWalk.i64_in _ (by omega)]
    rfl
   ·cases g2:((byteSign cs i).1==n)
    ·have g:sbHit cs n i=false:=by rw [sbHit,g1,g2]; rfl
     refine G2 g1 g2 ?_
     refine ⟨i + 1,?_,⟨k1,fun j hj=>by
      by_cases e:j=i
      ·subst e; exact g
      ·exact hp j (by omega)⟩,by omega⟩
     rw [IntWalk.i64_in _ (by omega)]
     rfl
    ·have e:=signByte_hit k1 hp (by rw [sbHit,g1,g2]; rfl)
     exact F3 g1 g2 e
def x_s_SignByte:FnX:=⟨26,[.tmp 4,.tmp 5],
  .q [.i 4 0,.F 5]
 (.seq (.q [.i 6 0]
 (.block 0 (.loop [0,1,6] (.seq (.q [.m 9 6,.B 10 .lss 9 256]
 (.cond 10 .skip (.exit 0)))
 (.seq (.block 1 (.q [.m 14 0,.m 15 6,.c 16 246 [14,15],.m 13 16,.e 17 13 0,.e 18 13 1,.m 7 17,.m 8 18]
 (.q [.m 19 8,.m 20 19,.y 20 (.m 21 7),.y 20 (.m 22 1),.y 20 (.b 23 .eql 21 22),.a 24 20 23]
 (.c 24 (.q [.m 25 6,.m 4 25,.T 5]
 .ret)))))
 (.reg [.m 11 6,.B 12 .add 11 1,.m 6 12]))))))
 (.norm [] (.q [.i 4 0,.F 5]
 .ret)))⟩
theorem r_s_SignByte {Te:TE} (c_s_ByteSign:C_s_ByteSign Te):C_s_SignByte (RF Te x_s_SignByte):=by
 intro cs n
 refine X0 x_s_SignByte.eq_1 ?_
 refine loop_of (σ:=Nat) (fun i=>⟨[(0,.one (.pv (.int .i64 cs))),(1,.one (.pv (.int .i64 n))),(6,.one (.pv (.int .i64 i)))],[],[(0,[iT cs]),(1,[iT n])]⟩) (fun i=>i≤256∧∀ j,j < i→sbHit cs n j=false) (fun i=>256 - i) 0 ?_ ⟨Nat.zero_le _,fun j h=>absurd h (Nat.not_lt_zero _)⟩ ?_
 ·simp -implicitDefEqProofs (maxSteps:=1000000) only [go_sem]
  try rfl
 ·rintro i ⟨hi,hp⟩
  cases q:decide ((i:Int) < 256)
  ·have e:=signByte_none (cs:=cs) (n:=n) fun j hj=>hp j (by simp only [decide_eq_false_iff_not] at q; omega)
   exact F2 q e
  ·have k1:i < 256:=by simp only [decide_eq_true_eq] at q; omega
   refine G1 q ?_
   refine C0 (c_s_ByteSign _ _) ?_
   cases g1:(byteSign cs i).2
   ·have g:sbHit cs n i=false:=by rw [sbHit,g1]; rfl
    refine G1 g1 ?_
    refine ⟨i + 1,?_,⟨k1,fun j hj=>by
     by_cases e:j=i
     ·subst e; exact g
     ·exact hp j (by omega)⟩,by omega⟩
    rw [IntWalk.i64_in _ (by omega)]
    rfl
   ·cases g2:((byteSign cs i).1==n)
    ·have g:sbHit cs n i=false:=by rw [sbHit,g1,g2]; rfl
     refine G2 g1 g2 ?_
     refine ⟨i + 1,?_,⟨k1,fun j hj=>by
      by_cases e:j=i
      ·subst e; exact g
      ·exact hp j (by omega)⟩,by omega⟩
     rw [IntWalk.i64_in _ (by omega)]
     rfl
    ·have e:=signByte_hit k1 hp (by rw [sbHit,g1,g2]; rfl)
     exact F3 g1 g2 e
def x_i_SignPair:FnX:=⟨17,[.tmp 2,.tmp 3,.tmp 4],
  .q [.i 2 0,.i 3 0,.F 4]
 (.seq (.block 0 (.q [.m 6 0,.op 7 (.call 57 [0,0,0] [(.t 6),(.i 12353),(.i 12435)]),.m 5 7]
 (.cond 5 (.q [.m 8 0,.B 9 .sub 8 12353,.B 10 .add 9 161,.i 2 164,.m 3 10,.T 4]
 .ret) (.q [.m 12 0,.op 13 (.call 57 [0,0,0] [(.t 12),(.i 12449),(.i 12534)]),.m 11 13]
 (.c 11 (.q [.m 14 0,.B 15 .sub 14 12449,.B 16 .add 15 161,.i 2 165,.m 3 16,.T 4]
 .ret))))))
 (.q [.i 2 0,.i 3 0,.F 4]
 .ret))⟩
theorem r_i_SignPair {Te:TE} (c_i_within:C_i_within Te):C_i_SignPair (RF Te x_i_SignPair):=by
 intro n
 refine X0 x_i_SignPair.eq_1 ?_
 refine C0 (c_i_within _ _ _) ?_
 cases g:win n 12353 12435
 ·refine G0 ?_
  refine C0 (c_i_within _ _ _) ?_
  cases g2:win n 12449 12534
  ·have e:signPair n=(0,0,false):=by rw [signPair,g,g2]; rfl
   exact F1 e
  ·have e:signPair n=(165,n - 12449 + 161,true):=by rw [signPair,g,g2]; rfl
   simp only [win,Bool.and_eq_true,decide_eq_true_eq] at g2
   have w1:IntKind.i64.wrap (n - 12449)=n - 12449:=IntWalk.i64_in _ (by omega)
   have w2:IntKind.i64.wrap (n - 12449 + 161)=n - 12449 + 161:=IntWalk.i64_in _ (by omega)
   exact F3 e w1 w2
 ·have e:signPair n=(164,n - 12353 + 161,true):=by rw [signPair,g]; rfl
  simp only [win,Bool.and_eq_true,decide_eq_true_eq] at g
  have w1:IntKind.i64.wrap (n - 12353)=n - 12353:=IntWalk.i64_in _ (by omega)
  have w2:IntKind.i64.wrap (n - 12353 + 161)=n - 12353 + 161:=IntWalk.i64_in _ (by omega)
  exact F3 e w1 w2
def x_s_SignPair:FnX:=⟨17,[.tmp 2,.tmp 3,.tmp 4],
  .q [.i 2 0,.i 3 0,.F 4]
 (.seq (.block 0 (.q [.m 6 0,.op 7 (.call 42 [0,0,0] [(.t 6),(.i 12353),(.i 12435)]),.m 5 7]
 (.cond 5 (.q [.m 8 0,.B 9 .sub 8 12353,.B 10 .add 9 161,.i 2 164,.m 3 10,.T 4]
 .ret) (.q [.m 12 0,.op 13 (.call 42 [0,0,0] [(.t 12),(.i 12449),(.i 12534)]),.m 11 13]
 (.c 11 (.q [.m 14 0,.B 15 .sub 14 12449,.B 16 .add 15 161,.i 2 165,.m 3 16,.T 4]
 .ret))))))
 (.q [.i 2 0,.i 3 0,.F 4]
 .ret))⟩
theorem r_s_SignPair {Te:TE} (c_s_l1In:C_s_l1In Te):C_s_SignPair (RF Te x_s_SignPair):=by
 intro n
 refine X0 x_s_SignPair.eq_1 ?_
 refine C0 (c_s_l1In _ _ _) ?_
 cases g:win n 12353 12435
 ·refine G0 ?_
  refine C0 (c_s_l1In _ _ _) ?_
  cases g2:win n 12449 12534
  ·have e:signPair n=(0,0,false):=by rw [signPair,g,g2]; rfl
   exact F1 e
  ·have e:signPair n=(165,n - 12449 + 161,true):=by rw [signPair,g,g2]; rfl
   simp only [win,Bool.and_eq_true,decide_eq_true_eq] at g2
   have w1:IntKind.i64.wrap (n - 12449)=n - 12449:=IntWalk.i64_in _ (by omega)
   have w2:IntKind.i64.wrap (n - 12449 + 161)=n - 12449 + 161:=IntWalk.i64_in _ (by omega)
   exact F3 e w1 w2
 ·have e:signPair n=(164,n - 12353 + 161,true):=by rw [signPair,g]; rfl
  simp only [win,Bool.and_eq_true,decide_eq_true_eq] at g
  have w1:IntKind.i64.wrap (n - 12353)=n - 12353:=IntWalk.i64_in _ (by omega)
  have w2:IntKind.i64.wrap (n - 12353 + 161)=n - 12353 + 161:=IntWalk.i64_in _ (by omega)
  exact F3 e w1 w2
def x_l_szDev:FnX:=⟨18,[.tmp 4],
  .q [.v 2 0,.i 4 0]
 (.q [.f 5 2 0,.l 6 5,.m 7 1,.c 8 78 [6,7],.m 1 8]
 (.seq (.q [.m 9 1,.B 10 .lss 9 0]
 (.c 10 (.q [.i 4 (-1)]
 .ret)))
 (.q [.f 11 2 1,.l 12 11,.m 13 1,.c 14 79 [12,13],.m 1 14]
 (.seq (.q [.m 15 1,.B 16 .lss 15 0]
 (.c 16 (.q [.i 4 (-1)]
 .ret)))
 (.q [.m 17 1,.m 4 17]
 .ret)))))⟩
theorem r_l_szDev {Te:TE} (c_l_szByteSS:C_l_szByteSS Te) (c_l_szWrS:C_l_szWrS Te):C_l_szDev (RF Te x_l_szDev):=by
 intro x k hx hk
 refine run0 ?_
 obtain ⟨h0,h1⟩:=hx
 simp -implicitDefEqProofs (maxSteps:=1000000) (disch:=omega) only [x_l_szDev,go_sem,IntWalk.i64_in]
 refine .of (c_l_szByteSS _ _ hk h0.1 h0.2) ?_
 simp -implicitDefEqProofs (maxSteps:=1000000) (disch:=omega) only [go_sem,IntWalk.i64_in]
 refine ⟨fun q0=>?_,fun q0=>?_⟩
 ·simp only [decide_eq_true_eq] at q0
  simp only [szDev,szAll,if_pos q0]
 ·simp only [decide_eq_false_iff_not] at q0
  have k1:0≤(szSl (fun y k=>left (k - y.length)) x.Secs k)∧(szSl (fun y k=>left (k - y.length)) x.Secs k)≤2 ^ 48:=⟨by omega,Int.le_trans ((Sane.sl (fun _=>Sane.left _) _) _ hk.1) hk.2⟩
  refine .of (c_l_szWrS _ _ k1 h1.1 h1.2) ?_
  simp -implicitDefEqProofs (maxSteps:=1000000) (disch:=omega) only [go_sem,IntWalk.i64_in]
  refine ⟨fun q1=>?_,fun q1=>?_⟩
  ·simp only [decide_eq_true_eq] at q1
   simp only [szDev,szAll,if_neg q0,if_pos q1]
  ·simp only [decide_eq_false_iff_not] at q1
   have k2:0≤(szSl szWr x.Cache (szSl (fun y k=>left (k - y.length)) x.Secs k))∧(szSl szWr x.Cache (szSl (fun y k=>left (k - y.length)) x.Secs k))≤2 ^ 48:=⟨by omega,Int.le_trans ((Sane.sl szWr_sane _) _ k1.1) k1.2⟩
   simp only [szDev,szAll,if_neg q0,if_neg q1]
def x_l_toDev:FnX:=⟨19,[.cell 2 (some 4)],
  .q [.v 1 0,.op 2 (.alloc [.nils 1,.nils 2,.i 0,.F])]
 (.q [.op 3 (.alloc [.nils 1,.nils 2,.i 0,.F])]
 (.q [.f 4 1 0,.l 5 4,.c 6 94 [5],.f 7 3 0,.s 100001 1 7 6]
 (.q [.f 8 1 1,.l 9 8,.c 10 95 [9],.f 11 3 1,.s 100002 1 11 10]
 (.q [.f 12 1 2,.l 13 12,.f 14 3 2,.s 100003 1 14 13]
 (.q [.f 15 1 3,.l 16 15,.f 17 3 3,.s 100004 1 17 16]
 (.q [.L 18 4 3,.s 100005 4 2 18]
 .ret))))))⟩
theorem r_l_toDev {Te:TE} (c_l_toByteSS:C_l_toByteSS Te) (c_l_toWrS:C_l_toWrS Te):C_l_toDev (RF Te x_l_toDev):=by
 intro x hx
 refine run0 ?_
 obtain ⟨h0,h1⟩:=hx
 simp -implicitDefEqProofs (maxSteps:=1000000) only [x_l_toDev,go_sem]
 refine C0 (c_l_toByteSS _ h0) ?_
 exact D0 (c_l_toWrS _ h1)
def x_l_eqDev:FnX:=⟨27,[.tmp 4],
  .q [.v 2 0,.v 3 1,.F 4]
 (.seq (.q [.f 5 2 0,.l 6 5,.f 7 3 0,.l 8 7,.c 9 114 [6,8],.N 10 9]
 (.c 10 (.q [.F 4]
 .ret)))
 (.seq (.q [.f 11 2 1,.l 12 11,.f 13 3 1,.l 14 13,.c 15 115 [12,14],.N 16 15]
 (.c 16 (.q [.F 4]
 .ret)))
 (.seq (.q [.f 17 2 2,.l 18 17,.f 19 3 2,.l 20 19,.b 21 .neq 18 20]
 (.c 21 (.q [.F 4]
 .ret)))
 (.seq (.q [.f 22 2 3,.l 23 22,.f 24 3 3,.l 25 24,.op 26 (.beq true (.t 23) (.t 25))]
 (.c 26 (.q [.F 4]
 .ret)))
 (.q [.T 4]
 .ret)))))⟩
theorem r_l_eqDev {Te:TE} (c_l_eqByteSS:C_l_eqByteSS Te) (c_l_eqWrS:C_l_eqWrS Te):C_l_eqDev (RF Te x_l_eqDev):=by
 intro x y hx
 refine run0 ?_
 obtain ⟨h0,h1⟩:=hx
 have key:(x=y)↔x.Secs=y.Secs∧x.Cache=y.Cache∧x.Fuse=y.Fuse∧x.Down=y.Down:=by cases x; cases y; simp
 simp only [key]
 clear key
 simp -implicitDefEqProofs (maxSteps:=1000000) only [x_l_eqDev,go_sem]
 refine .of (c_l_eqByteSS _ _ h0) ?_
 simp -implicitDefEqProofs (maxSteps:=1000000) only [go_sem]
 refine ⟨fun q=>?_,fun q=>?_⟩
 ·have n0:¬ (x.Secs=y.Secs):=by simpa using q
  simp only [n0,false_and,and_false,true_and,decide_false]
 have e0:x.Secs=y.Secs:=by simpa using q
 clear q
 refine .of (c_l_eqWrS _ _ h1) ?_
 simp -implicitDefEqProofs (maxSteps:=1000000) only [go_sem]
 refine ⟨fun q=>?_,fun q=>?_⟩
 ·have n1:¬ (x.Cache=y.Cache):=by simpa using q
  simp only [e0,n1,false_and,and_false,true_and,decide_false]
 have e1:x.Cache=y.Cache:=by simpa using q
 clear q
 refine ⟨fun q=>?_,fun q=>?_⟩
 ·have n2:¬ (x.Fuse=y.Fuse):=by simpa using q
  simp only [e0,e1,n2,false_and,and_false,true_and,decide_false]
 have e2:x.Fuse=y.Fuse:=by simpa using q
 clear q
 refine ⟨fun q=>?_,fun q=>?_⟩
 ·have n3:¬ (x.Down=y.Down):=by simpa using q
  simp only [e0,e1,e2,n3,false_and,and_false,true_and,decide_false]
 have e3:x.Down=y.Down:=by simpa using q
 clear q
 simp only [e0,e1,e2,e3,true_and,and_true,decide_true]
def x_l_markDev:FnX:=⟨14,[.tmp 4],
  .q [.v 2 0,.i 4 0]
 (.q [.f 5 2 0,.l 6 5,.m 7 1,.op 8 (.io 118 (.t 6) [(.t 7)]),.m 1 8]
 (.q [.f 9 2 1,.l 10 9,.m 11 1,.op 12 (.io 119 (.t 10) [(.t 11)]),.m 1 12]
 (.q [.m 13 1,.m 4 13]
 .ret)))⟩
theorem r_l_markDev {Te:TE} (c_l_markByteSS:C_l_markByteSS Te) (c_l_markWrS:C_l_markWrS Te):C_l_markDev (RF Te x_l_markDev):=by
 intro x k hx hk
 refine run0 ?_
 obtain ⟨h0,h1⟩:=hx
 simp -implicitDefEqProofs (maxSteps:=1000000) only [x_l_markDev,go_sem]
 repeat (refine ⟨by decide,?_⟩)
 refine .of (c_l_markByteSS _ _ h0 (by omega)) ?_
 simp -implicitDefEqProofs (maxSteps:=1000000) only [go_sem]
 repeat (refine back_bif (by simp -implicitDefEqProofs (maxSteps:=1000000) only [go_sem]) ?_; simp -implicitDefEqProofs (maxSteps:=1000000) only [go_sem])
 have w0:=farL_le (k:=k) (c:=2097152) h0 (fun (y:List UInt8) (hy:y.length≤2 ^ 21) (k:Int)=>⟨by show k≤k + ((1 * y.length:Nat):Int); omega,by show k + ((1 * y.length:Nat):Int)≤_; omega⟩)
 repeat (refine ⟨by decide,?_⟩)
 refine .of (c_l_markWrS _ _ h1 (by omega)) ?_
 simp -implicitDefEqProofs (maxSteps:=1000000) only [go_sem]
 repeat (refine back_bif (by simp -implicitDefEqProofs (maxSteps:=1000000) only [go_sem]) ?_; simp -implicitDefEqProofs (maxSteps:=1000000) only [go_sem])
 have w1:=farL_le (k:=(farL (fun y k=>k + (1 * y.length:Nat)) x.Secs (k))) (c:=2097153) h1 (fun y hy k=>WrV.farE_le hy k)
 rfl
def x_l_heldDev:FnX:=⟨18,[.tmp 4],
  .q [.v 2 0,.i 4 0]
 (.q [.f 5 2 0,.l 6 5,.m 7 1,.c 8 122 [6,7],.m 1 8]
 (.seq (.q [.m 9 1,.B 10 .lss 9 0]
 (.c 10 (.q [.i 4 (-1)]
 .ret)))
 (.q [.f 11 2 1,.l 12 11,.m 13 1,.c 14 123 [12,13],.m 1 14]
 (.seq (.q [.m 15 1,.B 16 .lss 15 0]
 (.c 16 (.q [.i 4 (-1)]
 .ret)))
 (.q [.m 17 1,.m 4 17]
 .ret)))))⟩
theorem r_l_heldDev {Te:TE} (c_l_heldByteSS:C_l_heldByteSS Te) (c_l_heldWrS:C_l_heldWrS Te):C_l_heldDev (RF Te x_l_heldDev):=by
 intro x k hx hk
 refine run0 ?_
 obtain ⟨h0,h1⟩:=hx
 simp -implicitDefEqProofs (maxSteps:=1000000) only [x_l_heldDev,go_sem]
 refine .of (c_l_heldByteSS x.Secs _ h0 (by omega)) ?_
 simp -implicitDefEqProofs (maxSteps:=1000000) only [go_sem]
 have w0:=farL_le (k:=k) (c:=2097152) h0 (fun (y:List UInt8) (hy:y.length≤2 ^ 21) (k:Int)=>⟨by show k≤k + ((1 * y.length:Nat):Int); omega,by show k + ((1 * y.length:Nat):Int)≤_; omega⟩)
 refine ⟨fun q=>by simp only [decide_eq_true_eq] at q; omega,fun _=>?_⟩
 refine .of (c_l_heldWrS x.Cache _ h1 (by omega)) ?_
 simp -implicitDefEqProofs (maxSteps:=1000000) only [go_sem]
 have w1:=farL_le (k:=(farL (fun y k=>k + (1 * y.length:Nat)) x.Secs (k))) (c:=2097153) h1 (fun y hy k=>WrV.farE_le hy k)
 refine ⟨fun q=>by simp only [decide_eq_true_eq] at q; omega,fun _=>?_⟩
 rfl
def x_s_CellOf:FnX:=⟨25,[.cell 4 (some 2),.tmp 5],
  .q [.op 4 (.alloc [.i 0,.nils 1]),.F 5]
 (.q [.m 9 0,.m 10 1,.c 11 218 [9,10],.m 8 11,.e 12 8 0,.e 13 8 1,.m 6 12,.m 7 13]
 (.seq (.q [.m 14 7,.N 15 14,.m 16 15,.z 16 (.m 17 6),.z 16 (.n 18 17),.z 16 (.B 19 .gtr 18 20),.r 20 16 19]
 (.c 20 (.q [.op 21 (.build [.i 0,.nils 1] []),.s 100001 2 4 21,.F 5]
 .ret)))
 (.q [.m 22 0,.m 23 6,.op 24 (.build [.i 0,.nils 1] [(0,1,(.t 22)),(1,1,(.t 23))]),.s 100002 2 4 24,.T 5]
 .ret)))⟩
theorem r_s_CellOf {Te:TE} (c_s_Encode:C_s_Encode Te):C_s_CellOf (RF Te x_s_CellOf):=by
 intro tag s hs
 have hl:=encode_len tag s
 refine X0 x_s_CellOf.eq_1 ?_
 refine C0 (c_s_Encode tag s hs) ?_
 cases g:(encode tag s).2
 ·have e:=cellOf_no g
  exact F2 g e
 cases g2:decide (((encode tag s).1.length:Int)≤20)
 ·have e:=cellOf_big g2
  have g3:decide (((encode tag s).1.length:Int) > 20)=true:=by simp only [decide_eq_false_iff_not] at g2; exact decide_eq_true (by omega)
  exact F3 g g3 e
 ·have e:=cellOf_yes g g2
  have g3:decide (((encode tag s).1.length:Int) > 20)=false:=by simp only [decide_eq_true_eq] at g2; exact decide_eq_false (by omega)
  exact F3 g g3 e
def x_i_Turn:FnX:=⟨29,[.cell 4 (some 2),.tmp 5],
  .q [.v 2 0,.op 4 (.alloc [.i 0,.nils 1]),.F 5]
 (.q [.L 10 2 2,.c 11 104 [10],.m 9 11,.e 12 9 0,.e 13 9 1,.m 6 12,.m 7 13]
 (.seq (.q [.m 14 7,.N 15 14]
 (.c 15 (.q [.L 16 2 2,.c 17 193 [16],.s 100001 2 4 17,.F 5]
 .ret)))
 (.q [.m 19 1,.m 20 6,.c 21 199 [19,20],.m 18 21,.e 22 18 0,.e 23 18 1,.op 8 (.alloc [.i 0,.nils 1]),.s 100002 2 8 22,.m 7 23]
 (.seq (.q [.m 24 7,.N 25 24]
 (.c 25 (.q [.L 26 2 2,.c 27 193 [26],.s 100003 2 4 27,.F 5]
 .ret)))
 (.q [.L 28 2 8,.s 100004 2 4 28,.T 5]
 .ret)))))⟩
theorem r_i_Turn {Te:TE} (c_i_CellText:C_i_CellText Te) (c_i_copyCell:C_i_copyCell Te) (c_i_CellOf:C_i_CellOf Te):C_i_Turn (RF Te x_i_Turn):=by
 intro c tag hc hs
 refine X0 x_i_Turn.eq_1 ?_
 refine C0 (c_i_CellText c) ?_
 cases g:c.text.2
 ·have e:=turn_no (tag:=tag) g
  refine G1 g ?_
  exact D1 (c_i_copyCell c hc) e
 refine G1 g ?_
 refine C0 (c_i_CellOf tag c.text.1 hs) ?_
 cases g2:(cellOf tag c.text.1).2
 ·have e:=turn_big (c:=c) g2
  refine G1 g2 ?_
  exact D1 (c_i_copyCell c hc) e
 ·have e:=turn_yes g g2
  exact F2 g2 e
def x_s_Turn:FnX:=⟨30,[.cell 4 (some 2),.tmp 5],
  .q [.v 2 0,.op 4 (.alloc [.i 0,.nils 1]),.F 5]
 (.q [.L 11 2 2,.c 12 178 [11],.m 10 12,.e 13 10 0,.e 14 10 1,.m 6 13,.m 7 14]
 (.q [.m 16 1,.m 17 6,.c 18 179 [16,17],.m 15 18,.e 19 15 0,.e 20 15 1,.op 8 (.alloc [.i 0,.nils 1]),.s 100001 2 8 19,.m 9 20]
 (.seq (.q [.m 21 7,.N 22 21,.m 23 22,.z 23 (.m 24 9),.z 23 (.N 25 24),.r 26 23 25]
 (.c 26 (.q [.L 27 2 2,.c 28 176 [27],.s 100002 2 4 28,.F 5]
 .ret)))
 (.q [.L 29 2 8,.s 100003 2 4 29,.T 5]
 .ret))))⟩
theorem r_s_Turn {Te:TE} (c_s_CellText:C_s_CellText Te) (c_s_CellOf:C_s_CellOf Te) (c_s_l8Copy:C_s_l8Copy Te):C_s_Turn (RF Te x_s_Turn):=by
 intro c tag hc hs
 refine X0 x_s_Turn.eq_1 ?_
 refine C0 (c_s_CellText c) ?_
 refine C0 (c_s_CellOf tag c.text.1 hs) ?_
 cases g:c.text.2
 ·have e:=turn_no (tag:=tag) g
  refine G1 g ?_
  exact D1 (c_s_l8Copy c hc) e
 cases g2:(cellOf tag c.text.1).2
 ·have e:=turn_big (c:=c) g2
  refine G2 g g2 ?_
  exact D1 (c_s_l8Copy c hc) e
 ·have e:=turn_yes g g2
  exact F3 g g2 e
end Go.X

