/- Texts: CVzea CVzb_2 CUl CVu CVze CS CVe CVd_2. -/
import Derived.Test.YtmmjaijeeeilcaaGreatDoorS04
set_option linter.unusedVariables false
set_option linter.unusedSimpArgs false
namespace Go.X
set_option maxRecDepth 100000
set_option maxHeartbeats 8000000
def x_s_NodeStep:FnX:=⟨101,[.cell 4 (some 10),.tmp 5,.tmp 6,.tmp 7],
  .q [.v 2 0,.op 4 (.alloc [.nils 1,.nils 2,.i 0,.F,.nils 7,.i 0,.nils 3,.i 0,.i 0,.i 0]),.op 5 (.mv (.k (.one (.pv (.string ⟨#[]⟩))))),.i 6 0,.F 7]
 (.q [.L 16 10 2,.c 17 65 [16],.op 8 (.alloc [.nils 1,.nils 2,.i 0,.F,.nils 7,.i 0,.nils 3,.i 0,.i 0,.i 0]),.s 100001 10 8 17]
 (.seq (.q [.L 18 10 2,.c 19 64 [18],.N 20 19,.m 21 20,.z 21 (.f 22 2 0),.z 21 (.f 23 22 4),.z 21 (.f 24 23 1),.z 21 (.l 25 24),.z 21 (.c 26 115 [25]),.z 21 (.N 27 26),.r 28 21 27]
 (.c 28 (.q [.L 29 10 8,.m 30 1,.s 100002 10 4 29,.m 5 30,.i 6 0,.F 7]
 .ret)))
 (.q [.m 31 1,.m 9 31]
 (.q [.i 10 0]
 (.seq (.q [.i 11 0]
 (.block 0 (.loop [1,2,4,8,9,10,11] (.seq (.q [.m 32 11,.f 33 2 0,.f 34 33 4,.f 35 34 0,.l 36 35,.n 37 36,.b 38 .lss 32 37,.m 39 38,.y 39 (.m 40 10),.y 39 (.B 41 .lss 40 2),.a 42 39 41]
 (.cond 42 .skip (.exit 0)))
 (.seq (.block 1 (.q [.f 45 2 0,.f 46 45 4,.f 47 46 0,.l 48 47,.m 49 11,.x 50 7 48 49,.L 51 7 50,.op 12 (.alloc [.e,.i 0,.nils 1,.i 0,.nils 1,.i 0,.F]),.s 100003 7 12 51]
 (.seq (.q [.f 52 12 0,.l 53 52,.m 54 1,.b 55 .leq 53 54]
 (.c 55 (.exit 1)))
 (.q [.f 56 2 0,.f 57 56 4,.f 58 57 1,.l 59 58,.L 60 7 12,.c 61 116 [59,60],.op 13 (.alloc [.e,.i 0,.nils 1,.i 0,.nils 1,.i 0,.F]),.s 100004 7 13 61]
 (.seq (.q [.L 62 7 13,.L 63 7 12,.c 64 117 [62,63],.N 65 64,.m 66 65,.y 66 (.f 67 8 0),.y 66 (.L 68 7 13),.y 66 (.op 69 (.build [.i 0,.e,.i 0,.nils 1,.i 0,.nils 1,.i 0,.F,.e,.i 0,.i 0,.i 0,.i 0] [(0,1,(.i 1)),(1,7,(.t 68))])),.y 66 (.op 70 (.call 103 [11,0] [(.t 67),(.t 69)])),.y 66 (.N 71 70),.a 72 66 71]
 (.c 72 (.q [.L 73 10 8,.m 74 1,.s 100005 10 4 73,.m 5 74,.i 6 0,.F 7]
 .ret)))
 (.q [.f 75 12 0,.l 76 75,.m 9 76]
 (.reg [.m 77 10,.B 78 .add 77 1,.m 10 78])))))))
 (.reg [.m 43 11,.B 44 .add 43 1,.m 11 44]))))))
 (.norm [2,4,8,9] (.q [.i 14 1]
 (.seq (.q [.i 15 0]
 (.block 2 (.loop [2,4,8,9,14,15] (.seq (.q [.m 79 15,.f 80 2 0,.f 81 80 4,.f 82 81 0,.l 83 82,.n 84 83,.b 85 .lss 79 84]
 (.cond 85 .skip (.exit 2)))
 (.seq (.block 3 (.q [.f 88 2 0,.f 89 88 4,.f 90 89 0,.l 91 90,.m 92 15,.x 93 7 91 92,.f 94 93 0,.l 95 94,.m 96 9,.b 97 .gtr 95 96]
 (.c 97 (.reg [.i 14 0]))))
 (.reg [.m 86 15,.B 87 .add 86 1,.m 15 87]))))))
 (.norm [4,8,9,14] (.q [.L 98 10 8,.m 99 9,.m 100 14,.s 100006 10 4 98,.m 5 99,.m 6 100,.T 7]
 .ret))))))))))⟩
def lastCode:XCode:=.loop [2,4,8,9,14,15] (.seq (.q [.m 79 15,.f 80 2 0,.f 81 80 4,.f 82 81 0,.l 83 82,.n 84 83,.b 85 .lss 79 84]
 (.cond 85 .skip (.exit 2)))
 (.seq (.block 3 (.q [.f 88 2 0,.f 89 88 4,.f 90 89 0,.l 91 90,.m 92 15,.x 93 7 91 92,.f 94 93 0,.l 95 94,.m 96 9,.b 97 .gtr 95 96]
 (.c 97 (.reg [.i 14 0]))))
 (.reg [.m 86 15,.B 87 .add 86 1,.m 15 87])))
theorem last_loop {Te:TE} {Q:Post} {st:St} (n:NodeV) (p:Int) (cur:NodeV) (o0 o1 o2 o3:Nat) (f A:ByteArray) (X:List Go.X.T) (hr1:n.S.T.Rows.length≤2 ^ 20)
  (h0:norm 2 103 [2,4,8,9,14,15] st=⟨[(2,.bp 2 0),(4,.bp 4 0),(8,.bp 8 0),(9,.one (.pv (.string A))),(14,.one (.pv (.int .i64 1))),(15,.one (.pv (.int .i64 0)))],[(2,[.ro 1 (n.S.D.Secs.map fun y=>[slT false 1 uR y]),.ro 2 (n.S.D.Cache.map (WrV.enc false)),.pv (.int .i64 n.S.D.Fuse),.pv (.bool n.S.D.Down),.ro 7 (n.S.T.Rows.map (RowV.enc false)),.pv (.int .i64 p),.ro 3 (n.S.T.Marks.map MarkV.row),.pv (.int .i64 n.S.Gen),.pv (.int .i64 n.S.Place),.pv (.int .i64 n.Cs)]),(4,[.nils 1,.nils 2,.pv (.int .i64 0),.pv (.bool false),.nils 7,.pv (.int .i64 0),.nils 3,.pv (.int .i64 0),.pv (.int .i64 0),.pv (.int .i64 0)]),(8,[.rf 103 o0 [] 1 0 cur.S.D.Secs.length,.rf 103 o1 [] 2 0 cur.S.D.Cache.length,.pv (.int .i64 cur.S.D.Fuse),.pv (.bool cur.S.D.Down),.rf 103 o2 [] 7 0 cur.S.T.Rows.length,.pv (.int .i64 cur.S.T.Phase),.rf 103 o3 [] 3 0 cur.S.T.Marks.length,.pv (.int .i64 cur.S.Gen),.pv (.int .i64 cur.S.Place),.pv (.int .i64 cur.Cs)])],[(0,n.enc false),(1,[sT f]),(103,X)]⟩)
  (hQ:Q (.exit 2) ⟨[(85,.one (.pv (.bool false))),(84,.one (.pv (.int .i64 n.S.T.Rows.length))),(83,.one (.ro 7 (n.S.T.Rows.map (RowV.enc false)))),(82,.bp 2 4),(81,.bp 2 4),(80,.bp 2 0),(79,.one (.pv (.int .i64 n.S.T.Rows.length))),(2,.bp 2 0),(4,.bp 4 0),(8,.bp 8 0),(9,.one (.pv (.string A))),(14,.one (.pv (.int .i64 (bif n.S.T.Rows.any fun r=>isBehind A r.Key then 0 else 1)))),(15,.one (.pv (.int .i64 n.S.T.Rows.length)))],[(2,[.ro 1 (n.S.D.Secs.map fun y=>[slT false 1 uR y]),.ro 2 (n.S.D.Cache.map (WrV.enc false)),.pv (.int .i64 n.S.D.Fuse),.pv (.bool n.S.D.Down),.ro 7 (n.S.T.Rows.map (RowV.enc false)),.pv (.int .i64 p),.ro 3 (n.S.T.Marks.map MarkV.row),.pv (.int .i64 n.S.Gen),.pv (.int .i64 n.S.Place),.pv (.int .i64 n.Cs)]),(4,[.nils 1,.nils 2,.pv (.int .i64 0),.pv (.bool false),.nils 7,.pv (.int .i64 0),.nils 3,.pv (.int .i64 0),.pv (.int .i64 0),.pv (.int .i64 0)]),(8,[.rf 103 o0 [] 1 0 cur.S.D.Secs.length,.rf 103 o1 [] 2 0 cur.S.D.Cache.length,.pv (.int .i64 cur.S.D.Fuse),.pv (.bool cur.S.D.Down),.rf 103 o2 [] 7 0 cur.S.T.Rows.length,.pv (.int .i64 cur.S.T.Phase),.rf 103 o3 [] 3 0 cur.S.T.Marks.length,.pv (.int .i64 cur.S.Gen),.pv (.int .i64 cur.S.Place),.pv (.int .i64 cur.Cs)])],[(0,n.enc false),(1,[sT f]),(103,X)]⟩):runC Te 2 103 lastCode st Q:=by
 refine loop_of (σ:=Nat) (fun j=>⟨[(2,.bp 2 0),(4,.bp 4 0),(8,.bp 8 0),(9,.one (.pv (.string A))),(14,.one (.pv (.int .i64 (bif (n.S.T.Rows.take j).any fun r=>isBehind A r.Key then 0 else 1)))),(15,.one (.pv (.int .i64 j)))],[(2,[.ro 1 (n.S.D.Secs.map fun y=>[slT false 1 uR y]),.ro 2 (n.S.D.Cache.map (WrV.enc false)),.pv (.int .i64 n.S.D.Fuse),.pv (.bool n.S.D.Down),.ro 7 (n.S.T.Rows.map (RowV.enc false)),.pv (.int .i64 p),.ro 3 (n.S.T.Marks.map MarkV.row),.pv (.int .i64 n.S.Gen),.pv (.int .i64 n.S.Place),.pv (.int .i64 n.Cs)]),(4,[.nils 1,.nils 2,.pv (.int .i64 0),.pv (.bool false),.nils 7,.pv (.int .i64 0),.nils 3,.pv (.int .i64 0),.pv (.int .i64 0),.pv (.int .i64 0)]),(8,[.rf 103 o0 [] 1 0 cur.S.D.Secs.length,.rf 103 o1 [] 2 0 cur.S.D.Cache.length,.pv (.int .i64 cur.S.D.Fuse),.pv (.bool cur.S.D.Down),.rf 103 o2 [] 7 0 cur.S.T.Rows.length,.pv (.int .i64 cur.S.T.Phase),.rf 103 o3 [] 3 0 cur.S.T.Marks.length,.pv (.int .i64 cur.S.Gen),.pv (.int .i64 cur.S.Place),.pv (.int .i64 cur.Cs)])],[(0,n.enc false),(1,[sT f]),(103,X)]⟩) (fun j=>j≤n.S.T.Rows.length) (fun j=>n.S.T.Rows.length - j) 0 h0 (Nat.zero_le _) ?_
 intro j hj
 cases q3:decide ((j:Int) < (n.S.T.Rows.length:Int))
 ·have k0:j=n.S.T.Rows.length:=by simp only [decide_eq_false_iff_not] at q3; omega
  subst k0
  simp -implicitDefEqProofs only [go_sem,q3,List.take_length]
  exact hQ
 ·have k3:j < n.S.T.Rows.length:=by simp only [decide_eq_true_eq] at q3; omega
  have ea:=any_take (a:=A) k3
  have ew:IntKind.i64.wrap ((j:Int) + 1)=((j + 1:Nat):Int):=IntWalk.i64_in _ (by omega)
  cases g:isBehind A n.S.T.Rows[j].Key
  ·have g':=g
   rw [isBehind] at g'
   rw [g,Bool.or_false] at ea
   refine G4 q3 (List.getElem?_eq_getElem k3) g' ew ?_
   exact ⟨j + 1,by rw [ea] <;> rfl,k3,by omega⟩
  ·have g':=g
   rw [isBehind] at g'
   rw [g,Bool.or_true] at ea
   refine G4 q3 (List.getElem?_eq_getElem k3) g' ew ?_
   exact ⟨j + 1,by rw [ea] <;> rfl,k3,by omega⟩
theorem r_s_NodeStep {Te:TE} (c_s_l15Copy:C_s_l15Copy Te) (c_s_l15Up:C_s_l15Up Te) (c_s_Walks:C_s_Walks Te) (c_s_l15Turn:C_s_l15Turn Te) (c_s_l12SameRow:C_s_l12SameRow Te) (c_s_l13Add:C_s_l13Add Te):C_s_NodeStep (RF Te x_s_NodeStep):=by
 intro n f hn
 have hL:=hn.len (by decide)
 have hr1:=hn.2.1.1
 refine X0 x_s_NodeStep.eq_1 ?_
 refine C0 (c_s_l15Copy n hL) ?_
 refine C0 (c_s_l15Up n (hn.mono (by decide))) ?_
 cases g1:n.up
 ·have e:n.step f=(n,f,0,false):=by rw [NodeV.step,g1]; rfl
  exact F1 e
 refine G0 ?_
 refine C0 (c_s_Walks _) ?_
 cases g2:walks n.S.T.Phase
 ·have e:n.step f=(n,f,0,false):=by rw [NodeV.step,g1,g2]; rfl
  exact F1 e
 obtain ⟨k1,k2,_⟩:=up_ok g1
 have hw:=walks_or g2
 have hl:=behind_last (rows_sorted (NodeV.up_tab g1)) f
 have e:n.step f=(bif (stepN n.S.T.Phase n ((behind f n.S.T.Rows).take 2)).2 then ((stepN n.S.T.Phase n ((behind f n.S.T.Rows).take 2)).1,lastKey f ((behind f n.S.T.Rows).take 2),bif decide (((behind f n.S.T.Rows).length:Int) > 2) then 0 else 1,true) else ((stepN n.S.T.Phase n ((behind f n.S.T.Rows).take 2)).1,f,0,false)):=by rw [NodeV.step,g1,g2]; rfl
 rw [e,← hl]
 clear e hl
 generalize hp:n.S.T.Phase=p at hw
 refine G1 hp ?_
 refine loop_of (σ:=Bool×Nat×NodeV) (fun x=>cond x.1 (⟨[(1,.one (.pv (.string f))),(2,.bp 2 0),(4,.bp 4 0),(8,.bp 8 0),(9,.one (.pv (.string (lastKey f (behind f (n.S.T.Rows.take x.2.1)))))),(10,.one (.pv (.int .i64 (behind f (n.S.T.Rows.take x.2.1)).length))),(11,.one (.pv (.int .i64 x.2.1)))],[(2,[.ro 1 (n.S.D.Secs.map fun y=>[slT false 1 uR y]),.ro 2 (n.S.D.Cache.map (WrV.enc false)),.pv (.int .i64 n.S.D.Fuse),.pv (.bool n.S.D.Down),.ro 7 (n.S.T.Rows.map (RowV.enc false)),.pv (.int .i64 p),.ro 3 (n.S.T.Marks.map MarkV.row),.pv (.int .i64 n.S.Gen),.pv (.int .i64 n.S.Place),.pv (.int .i64 n.Cs)]),(4,[.nils 1,.nils 2,.pv (.int .i64 0),.pv (.bool false),.nils 7,.pv (.int .i64 0),.nils 3,.pv (.int .i64 0),.pv (.int .i64 0),.pv (.int .i64 0)]),(8,[.rf 103 1 [] 1 0 x.2.2.S.D.Secs.length,.rf 103 2 [] 2 0 x.2.2.S.D.Cache.length,.pv (.int .i64 x.2.2.S.D.Fuse),.pv (.bool x.2.2.S.D.Down),.rf 103 5 [] 7 0 x.2.2.S.T.Rows.length,.pv (.int .i64 x.2.2.S.T.Phase),.rf 103 7 [] 3 0 x.2.2.S.T.Marks.length,.pv (.int .i64 x.2.2.S.Gen),.pv (.int .i64 x.2.2.S.Place),.pv (.int .i64 x.2.2.Cs)])],[(0,n.enc false),(1,[sT f]),(103,bT true::x.2.2.S.enc true)]⟩) (⟨[(1,.one (.pv (.string f))),(2,.bp 2 0),(4,.bp 4 0),(8,.bp 8 0),(9,.one (.pv (.string (lastKey f (behind f (n.S.T.Rows.take x.2.1)))))),(10,.one (.pv (.int .i64 (behind f (n.S.T.Rows.take x.2.1)).length))),(11,.one (.pv (.int .i64 x.2.1)))],[(2,[.ro 1 (n.S.D.Secs.map fun y=>[slT false 1 uR y]),.ro 2 (n.S.D.Cache.map (WrV.enc false)),.pv (.int .i64 n.S.D.Fuse),.pv (.bool n.S.D.Down),.ro 7 (n.S.T.Rows.map (RowV.enc false)),.pv (.int .i64 p),.ro 3 (n.S.T.Marks.map MarkV.row),.pv (.int .i64 n.S.Gen),.pv (.int .i64 n.S.Place),.pv (.int .i64 n.Cs)]),(4,[.nils 1,.nils 2,.pv (.int .i64 0),.pv (.bool false),.nils 7,.pv (.int .i64 0),.nils 3,.pv (.int .i64 0),.pv (.int .i64 0),.pv (.int .i64 0)]),(8,[.rf 103 0 [] 1 0 x.2.2.S.D.Secs.length,.rf 103 1 [] 2 0 x.2.2.S.D.Cache.length,.pv (.int .i64 x.2.2.S.D.Fuse),.pv (.bool x.2.2.S.D.Down),.rf 103 4 [] 7 0 x.2.2.S.T.Rows.length,.pv (.int .i64 x.2.2.S.T.Phase),.rf 103 6 [] 3 0 x.2.2.S.T.Marks.length,.pv (.int .i64 x.2.2.S.Gen),.pv (.int .i64 x.2.2.S.Place),.pv (.int .i64 x.2.2.Cs)])],[(0,n.enc false),(1,[sT f]),(103,x.2.2.enc true)]⟩)) (fun x=>x.2.1≤n.S.T.Rows.length∧(behind f (n.S.T.Rows.take x.2.1)).length≤2∧stepN p n (behind f (n.S.T.Rows.take x.2.1))=(x.2.2,true)∧x.2.2.S.ok=true∧x.2.2.S.D.Down=false∧(x.1=false→x.2.2=n)) (fun x=>n.S.T.Rows.length - x.2.1) (false,0,n) ?_ ⟨Nat.zero_le _,Nat.zero_le _,rfl,k1,k2,fun _=>rfl⟩ ?_
 ·simp -implicitDefEqProofs (maxSteps:=1000000) only [go_sem,lastKey,behind,List.take_zero,List.filter_nil,List.getLast?_nil,hp]
  try rfl
 ·rintro ⟨b,i,cur⟩ ⟨hi,h2,hs,c1,c2,hb⟩
  simp only at hi h2 hs c1 c2 hb
  cases b
  ·have hb:=(hb rfl).symm
   subst hb
   cases q:decide ((i:Int) < (n.S.T.Rows.length:Int))&&decide (((behind f (n.S.T.Rows.take i)).length:Int) < 2)
   ·have hx:i=n.S.T.Rows.length∨(behind f (n.S.T.Rows.take i)).length=2:=by simp only [Bool.and_eq_false_iff,decide_eq_false_iff_not] at q; omega
    have et:=behind_take hx h2
    rw [et] at q hs ⊢
    rw [hs]
    generalize hA:lastKey f ((behind f n.S.T.Rows).take 2)=A
    cases q1:decide ((i:Int) < (n.S.T.Rows.length:Int))
    all_goals
     have q2:=q
     rw [q1] at q2
     simp only [Bool.true_and,Bool.false_and] at q2
     try simp -implicitDefEqProofs (maxSteps:=1000000) only [go_sem,q1,q2]
     repeat refine ⟨sc,?_⟩
     try exact sf
    all_goals
     refine last_loop n p n 0 1 4 6 f A (n.enc true) hr1 ?_ ?_
     ·simp -implicitDefEqProofs (maxSteps:=1000000) only [go_sem]
      try rfl
     ·exact F0
   ·rw [Bool.and_eq_true] at q
    obtain ⟨q1,q2⟩:=q
    have k3:i < n.S.T.Rows.length:=by simp only [decide_eq_true_eq] at q1; omega
    have k4:(behind f (n.S.T.Rows.take i)).length < 2:=by simp only [decide_eq_true_eq] at q2; omega
    have ew:IntKind.i64.wrap ((i:Int) + 1)=((i + 1:Nat):Int):=IntWalk.i64_in _ (by omega)
    have es:=behind_step (f:=f) k3
    have hr:=hn.2.1.2 _ (List.getElem_mem k3)
    have gl:=leq_not f n.S.T.Rows[i].Key
    cases g:isBehind f n.S.T.Rows[i].Key
    ·rw [g,cond_false,List.append_nil] at es
     rw [g] at gl
     try simp -implicitDefEqProofs (maxSteps:=1000000) only [go_sem,q1,q2,List.getElem?_eq_getElem k3,gl,ew]
     repeat refine ⟨sc,?_⟩
     try exact sf
     exact ⟨(false,i + 1,n),by rw [es]; rfl,⟨k3,by simp only [es]; omega,by simp only [es]; exact hs,c1,c2,fun _=>rfl⟩,by simp only; omega⟩
    ·rw [g,cond_true] at es
     rw [g] at gl
     have el:(behind f (n.S.T.Rows.take (i + 1))).length=(behind f (n.S.T.Rows.take i)).length + 1:=by rw [es,List.length_append]; rfl
     have ek:lastKey f (behind f (n.S.T.Rows.take (i + 1)))=n.S.T.Rows[i].Key:=by rw [es,lastKey_snoc]
     have e1:stepN p n (behind f (n.S.T.Rows.take (i + 1)))=stepN p n [n.S.T.Rows[i]]:=by rw [es,stepN_app,hs]; rfl
     have ed:IntKind.i64.wrap (((behind f (n.S.T.Rows.take i)).length:Int) + 1)=(((behind f (n.S.T.Rows.take i)).length + 1:Nat):Int):=IntWalk.i64_in _ (by omega)
     refine G4 q1 q2 (List.getElem?_eq_getElem k3) gl ?_
     refine C0 (c_s_l15Turn p n.S.T.Rows[i] hr hw) ?_
     refine C0 (c_s_l12SameRow (turned p n.S.T.Rows[i]) n.S.T.Rows[i]) ?_
     cases g3:rowSame (turned p n.S.T.Rows[i]) n.S.T.Rows[i]
     ·have td:=c_s_l13Add n.S (recRow (turned p n.S.T.Rows[i])) c1 c2 (StoreV.ok_in c1).2 ⟨turned_in hr,Nat.zero_le _⟩
      have ha:=add_ok (recRow (turned p n.S.T.Rows[i])) c1
      refine G1 g3 ?_
      refine C0 (td) ?_
      cases g4:(n.S.add (recRow (turned p n.S.T.Rows[i]))).2
      ·have e3:=step_fail (i:=i + 1) (x:=n.added (recRow (turned p n.S.T.Rows[i]))) (by rw [e1,stepN,g3,g4]; rfl) (by omega)
       rw [e3]
       try simp -implicitDefEqProofs (maxSteps:=1000000) only [go_sem,g4,take_all,take_marks,NodeV.added]
       repeat refine ⟨sc,?_⟩
       try exact sf
       try rfl
      ·have e3:stepN p n (behind f (n.S.T.Rows.take (i + 1)))=(n.added (recRow (turned p n.S.T.Rows[i])),true):=by rw [e1,stepN,g3,g4]; rfl
       refine G3 g4 ed ew ?_
       exact ⟨(true,i + 1,n.added (recRow (turned p n.S.T.Rows[i]))),by simp only [el,ek,NodeV.added]; rfl,⟨k3,by simp only; omega,e3,ha.1,ha.2 g4,fun h=>by cases h⟩,by simp only; omega⟩
     ·have e3:stepN p n (behind f (n.S.T.Rows.take (i + 1)))=(n,true):=by rw [e1,stepN,g3]; rfl
      refine G3 g3 ed ew ?_
      exact ⟨(false,i + 1,n),by simp only [el,ek]; rfl,⟨k3,by simp only; omega,e3,c1,c2,fun _=>rfl⟩,by simp only; omega⟩
  ·cases q:decide ((i:Int) < (n.S.T.Rows.length:Int))&&decide (((behind f (n.S.T.Rows.take i)).length:Int) < 2)
   ·have hx:i=n.S.T.Rows.length∨(behind f (n.S.T.Rows.take i)).length=2:=by simp only [Bool.and_eq_false_iff,decide_eq_false_iff_not] at q; omega
    have et:=behind_take hx h2
    rw [et] at q hs ⊢
    rw [hs]
    generalize hA:lastKey f ((behind f n.S.T.Rows).take 2)=A
    cases q1:decide ((i:Int) < (n.S.T.Rows.length:Int))
    all_goals
     have q2:=q
     rw [q1] at q2
     simp only [Bool.true_and,Bool.false_and] at q2
     try simp -implicitDefEqProofs (maxSteps:=1000000) only [go_sem,q1,q2]
     repeat refine ⟨sc,?_⟩
     try exact sf
    all_goals
     refine last_loop n p cur 1 2 5 7 f A (bT true::cur.S.enc true) hr1 ?_ ?_
     ·simp -implicitDefEqProofs (maxSteps:=1000000) only [go_sem]
      try rfl
     ·exact F0
   ·rw [Bool.and_eq_true] at q
    obtain ⟨q1,q2⟩:=q
    have k3:i < n.S.T.Rows.length:=by simp only [decide_eq_true_eq] at q1; omega
    have k4:(behind f (n.S.T.Rows.take i)).length < 2:=by simp only [decide_eq_true_eq] at q2; omega
    have ew:IntKind.i64.wrap ((i:Int) + 1)=((i + 1:Nat):Int):=IntWalk.i64_in _ (by omega)
    have es:=behind_step (f:=f) k3
    have hr:=hn.2.1.2 _ (List.getElem_mem k3)
    have gl:=leq_not f n.S.T.Rows[i].Key
    cases g:isBehind f n.S.T.Rows[i].Key
    ·rw [g,cond_false,List.append_nil] at es
     rw [g] at gl
     try simp -implicitDefEqProofs (maxSteps:=1000000) only [go_sem,q1,q2,List.getElem?_eq_getElem k3,gl,ew]
     repeat refine ⟨sc,?_⟩
     try exact sf
     exact ⟨(true,i + 1,cur),by rw [es]; rfl,⟨k3,by simp only [es]; omega,by simp only [es]; exact hs,c1,c2,fun h=>by cases h⟩,by simp only; omega⟩
    ·rw [g,cond_true] at es
     rw [g] at gl
     have el:(behind f (n.S.T.Rows.take (i + 1))).length=(behind f (n.S.T.Rows.take i)).length + 1:=by rw [es,List.length_append]; rfl
     have ek:lastKey f (behind f (n.S.T.Rows.take (i + 1)))=n.S.T.Rows[i].Key:=by rw [es,lastKey_snoc]
     have e1:stepN p n (behind f (n.S.T.Rows.take (i + 1)))=stepN p cur [n.S.T.Rows[i]]:=by rw [es,stepN_app,hs]; rfl
     have ed:IntKind.i64.wrap (((behind f (n.S.T.Rows.take i)).length:Int) + 1)=(((behind f (n.S.T.Rows.take i)).length + 1:Nat):Int):=IntWalk.i64_in _ (by omega)
     refine G4 q1 q2 (List.getElem?_eq_getElem k3) gl ?_
     refine C0 (c_s_l15Turn p n.S.T.Rows[i] hr hw) ?_
     refine C0 (c_s_l12SameRow (turned p n.S.T.Rows[i]) n.S.T.Rows[i]) ?_
     cases g3:rowSame (turned p n.S.T.Rows[i]) n.S.T.Rows[i]
     ·have td:=c_s_l13Add cur.S (recRow (turned p n.S.T.Rows[i])) c1 c2 (StoreV.ok_in c1).2 ⟨turned_in hr,Nat.zero_le _⟩
      have ha:=add_ok (recRow (turned p n.S.T.Rows[i])) c1
      refine G1 g3 ?_
      refine C0 (td) ?_
      cases g4:(cur.S.add (recRow (turned p n.S.T.Rows[i]))).2
      ·have e3:=step_fail (i:=i + 1) (x:=cur.added (recRow (turned p n.S.T.Rows[i]))) (by rw [e1,stepN,g3,g4]; rfl) (by omega)
       rw [e3]
       try simp -implicitDefEqProofs (maxSteps:=1000000) only [go_sem,g4,take_all,take_marks,NodeV.added]
       repeat refine ⟨sc,?_⟩
       try exact sf
       try rfl
      ·have e3:stepN p n (behind f (n.S.T.Rows.take (i + 1)))=(cur.added (recRow (turned p n.S.T.Rows[i])),true):=by rw [e1,stepN,g3,g4]; rfl
       refine G3 g4 ed ew ?_
       exact ⟨(true,i + 1,cur.added (recRow (turned p n.S.T.Rows[i]))),by simp only [el,ek,NodeV.added]; rfl,⟨k3,by simp only; omega,e3,ha.1,ha.2 g4,fun h=>by cases h⟩,by simp only; omega⟩
     ·have e3:stepN p n (behind f (n.S.T.Rows.take (i + 1)))=(cur,true):=by rw [e1,stepN,g3]; rfl
      refine G3 g3 ed ew ?_
      exact ⟨(true,i + 1,cur),by simp only [el,ek]; rfl,⟨k3,by simp only; omega,e3,c1,c2,fun h=>by cases h⟩,by simp only; omega⟩
def x_s_NodeDel:FnX:=⟨44,[.cell 8 (some 10),.tmp 9,.tmp 10],
  .q [.v 4 0,.op 8 (.alloc [.nils 1,.nils 2,.i 0,.F,.nils 7,.i 0,.nils 3,.i 0,.i 0,.i 0]),.i 9 0,.F 10]
 (.q [.L 15 10 4,.m 16 1,.m 17 2,.c 18 108 [15,16,17],.m 14 18,.e 19 14 0,.e 20 14 1,.m 11 19,.m 12 20]
 (.seq (.q [.m 21 12]
 (.c 21 (.q [.L 22 10 4,.c 23 65 [22],.m 24 11,.s 100001 10 8 23,.m 9 24,.F 10]
 .ret)))
 (.q [.i 13 0]
 (.seq (.q [.m 25 3,.c 26 101 [25],.N 27 26]
 (.cond 27 (.reg [.i 13 1]) (.q [.f 28 4 0,.f 29 28 4,.L 30 3 29,.m 31 3,.c 32 104 [30,31],.B 33 .lss 32 0]
 (.c 33 (.reg [.i 13 2])))))
 (.q [.L 34 10 4,.m 35 3,.m 36 1,.m 37 2,.m 38 13,.op 39 (.build [.i 0,.e,.i 0,.nils 1,.i 0,.nils 1,.i 0,.F,.e,.i 0,.i 0,.i 0,.i 0] [(0,1,(.i 2)),(8,1,(.t 35)),(10,1,(.t 36)),(11,1,(.t 37)),(12,1,(.t 38))]),.c 40 110 [34,39],.e 41 40 0,.e 42 40 1,.e 43 40 2,.s 100002 10 8 41,.m 9 42,.m 10 43]
 .ret)))))⟩
theorem r_s_NodeDel {Te:TE} (c_s_l15Old:C_s_l15Old Te) (c_s_l15Copy:C_s_l15Copy Te) (c_s_NameOk:C_s_NameOk Te) (c_s_RowAt:C_s_RowAt Te) (c_s_l15End:C_s_l15End Te):C_s_NodeDel (RF Te x_s_NodeDel):=by
 intro n who seq key hn hk
 have hL:=hn.len (by decide)
 refine X0 x_s_NodeDel.eq_1 ?_
 refine C0 (c_s_l15Old n _ _ (hn.mono (by decide))) ?_
 cases g3:(n.old who seq).2
 rotate_left
 ·have e:n.del who seq key=(n,(n.old who seq).1,false):=by rw [NodeV.del,g3]; rfl
  refine G1 g3 ?_
  exact D1 (c_s_l15Copy n hL) e
 have e:n.del who seq key=n.changed ((RecV.mk 2 RowV.zero key 0 who seq (n.delCode key)).told):=by rw [NodeV.del,g3]; rfl
 have hu:n.up=true:=by
  cases g:n.up
  ·rw [NodeV.old,g] at g3; cases g3
  ·rfl
 have hr:(RecV.mk 2 RowV.zero key 0 who seq (n.delCode key)).In (2 ^ 20):=⟨RowV.zero_in _,hk⟩
 have tl:=c_s_l15End n _ hu hn hr
 refine G1 g3 ?_
 refine C0 (c_s_NameOk key (by omega)) ?_
 cases g1:nameOk key
 ·have ec:n.delCode key=1:=by rw [NodeV.delCode,g1]; rfl
  rw [ec] at tl e
  refine G0 ?_
  exact D1 (tl) e
 refine G0 ?_
 refine C0 (c_s_RowAt n.S.T key (by have:=hn.2.1.1; omega)) ?_
 cases g2:decide (rowAt n.S.T.Rows key < 0)
 ·have ec:n.delCode key=0:=by rw [NodeV.delCode,g1,g2]; rfl
  rw [ec] at tl e
  refine G1 g2 ?_
  exact D1 (tl) e
 ·have ec:n.delCode key=2:=by rw [NodeV.delCode,g1,g2]; rfl
  rw [ec] at tl e
  refine G1 g2 ?_
  exact D1 (tl) e
def x_s_NodePut:FnX:=⟨68,[.cell 10 (some 10),.tmp 11,.tmp 12],
  .q [.v 5 0,.op 10 (.alloc [.nils 1,.nils 2,.i 0,.F,.nils 7,.i 0,.nils 3,.i 0,.i 0,.i 0]),.i 11 0,.F 12]
 (.q [.L 18 10 5,.m 19 1,.m 20 2,.c 21 108 [18,19,20],.m 17 21,.e 22 17 0,.e 23 17 1,.m 13 22,.m 14 23]
 (.seq (.q [.m 24 14]
 (.c 24 (.q [.L 25 10 5,.c 26 65 [25],.m 27 13,.s 100001 10 10 26,.m 11 27,.F 12]
 .ret)))
 (.q [.f 29 5 0,.f 30 29 4,.f 31 30 1,.l 32 31,.m 33 3,.f 34 5 9,.l 35 34,.m 36 4,.c 37 109 [32,33,35,36],.m 28 37,.e 38 28 0,.e 39 28 1,.op 15 (.alloc [.e,.i 0,.nils 1,.i 0,.nils 1,.i 0,.F]),.s 100002 7 15 38,.m 16 39]
 (.seq (.q [.m 40 16,.B 41 .eql 40 0,.m 42 41,.y 42 (.f 43 5 0),.y 42 (.f 44 43 4),.y 42 (.L 45 3 44),.y 42 (.m 46 3),.y 42 (.c 47 104 [45,46]),.y 42 (.B 48 .lss 47 0),.a 49 42 48,.m 50 49,.y 50 (.f 51 5 0),.y 50 (.f 52 51 4),.y 50 (.f 53 52 0),.y 50 (.l 54 53),.y 50 (.n 55 54),.y 50 (.B 56 .geq 55 8),.a 57 50 56]
 (.c 57 (.reg [.i 16 5])))
 (.q [.L 58 10 5,.L 59 7 15,.m 60 1,.m 61 2,.m 62 16,.op 63 (.build [.i 0,.e,.i 0,.nils 1,.i 0,.nils 1,.i 0,.F,.e,.i 0,.i 0,.i 0,.i 0] [(0,1,(.i 1)),(1,7,(.t 59)),(10,1,(.t 60)),(11,1,(.t 61)),(12,1,(.t 62))]),.c 64 110 [58,63],.e 65 64 0,.e 66 64 1,.e 67 64 2,.s 100003 10 10 65,.m 11 66,.m 12 67]
 .ret)))))⟩
theorem r_s_NodePut {Te:TE} (c_s_l15Old:C_s_l15Old Te) (c_s_l15Copy:C_s_l15Copy Te) (c_s_RowOf:C_s_RowOf Te) (c_s_RowAt:C_s_RowAt Te) (c_s_l15End:C_s_l15End Te):C_s_NodePut (RF Te x_s_NodePut):=by
 intro n who seq key s hn hk hs
 have hL:=hn.len (by decide)
 refine X0 x_s_NodePut.eq_1 ?_
 refine C0 (c_s_l15Old n _ _ (hn.mono (by decide))) ?_
 cases g3:(n.old who seq).2
 rotate_left
 ·have e:n.putIn who seq key s=(n,(n.old who seq).1,false):=by rw [NodeV.putIn,g3]; rfl
  refine G1 g3 ?_
  exact D1 (c_s_l15Copy n hL) e
 have e:n.putIn who seq key s=n.changed ((recRowBy (rowOf n.S.T.Phase key n.Cs s).1 who seq (n.putCode key s)).told):=by rw [NodeV.putIn,g3]; rfl
 have hu:n.up=true:=by
  cases g:n.up
  ·rw [NodeV.old,g] at g3; cases g3
  ·rfl
 have h8:n.S.T.Rows.length≤8:=by
  have:=NodeV.up_tab hu
  simp only [TabV.ok,Bool.and_eq_true,decide_eq_true_eq] at this
  have:=this.2.1
  omega
 have hr:(recRowBy (rowOf n.S.T.Phase key n.Cs s).1 who seq (n.putCode key s)).In (2 ^ 20):=⟨rowOf_in hk,Nat.zero_le _⟩
 have tl:=c_s_l15End n _ hu hn hr
 refine G1 g3 ?_
 refine C0 (c_s_RowOf n.S.T.Phase key n.Cs s hk hs) ?_
 cases g1:((rowOf n.S.T.Phase key n.Cs s).2==0)
 ·have ec:n.putCode key s=(rowOf n.S.T.Phase key n.Cs s).2:=by rw [NodeV.putCode,g1]; rfl
  rw [ec] at tl e
  refine G1 g1 ?_
  exact D1 (tl) e
 have g0:(rowOf n.S.T.Phase key n.Cs s).2=0:=eq_of_beq g1
 refine G1 g1 ?_
 refine C0 (c_s_RowAt n.S.T key (by have:=hn.2.1.1; omega)) ?_
 cases g2:decide (rowAt n.S.T.Rows key < 0)
 ·have ec:n.putCode key s=(rowOf n.S.T.Phase key n.Cs s).2:=by rw [NodeV.putCode,g1,g2]; rfl
  rw [ec] at tl e
  refine G1 g2 ?_
  exact D1 (tl) e
 ·cases g3:((n.S.T.Rows.length:Int)==8)
  ·have ec:n.putCode key s=(rowOf n.S.T.Phase key n.Cs s).2:=by rw [NodeV.putCode,g1,g2,g3]; rfl
   have g4:decide ((n.S.T.Rows.length:Int)≥8)=false:=by simp only [beq_eq_false_iff_ne] at g3; exact decide_eq_false (by omega)
   rw [ec] at tl e
   refine G2 g2 g4 ?_
   exact D1 (tl) e
  ·have ec:n.putCode key s=5:=by rw [NodeV.putCode,g1,g2,g3]; rfl
   have g4:decide ((n.S.T.Rows.length:Int)≥8)=true:=by simp only [beq_iff_eq] at g3; exact decide_eq_true (by omega)
   rw [ec] at tl e
   refine G2 g2 g4 ?_
   exact D1 (tl) e
def x_s_l1Bend:FnX:=⟨39,[.tmp 4],
  .q [.op 4 (.mv (.k (.one (.nils 1))))]
 (.q [.op 6 (.bslice 1 []),.m 7 1,.op 8 (.app 1 1 (.t 6) (.t 7)),.m 5 8]
 (.seq (.q [.m 9 0,.op 10 (.call 96 [5,0] [(.t 9),(.i 5)])]
 (.block 0 (.q [.B 12 .eql 10 0,.m 11 12]
 (.cond 11 (.q [.m 13 5,.m 14 0,.m 15 5,.n 16 15,.B 17 .add 16 1,.op 18 (.call 96 [5,0] [(.t 14),(.t 17)]),.op 19 (.slice 1 (.t 13) none (some (.t 18))),.m 4 19]
 .ret) (.q [.B 21 .eql 10 1,.m 20 21]
 (.c 20 (.q [.m 22 5,.n 23 22,.B 24 .gtr 23 0]
 (.c 24 (.draw [.m 25 5,.m 26 0,.m 27 5,.n 28 27,.op 29 (.call 96 [5,0] [(.t 26),(.t 28)]),.x 30 1 25 29,.l 31 30,.m 32 0,.op 33 (.call 96 [5,0] [(.t 32),(.i 255)]),.op 34 (.bin .add (.i 1) (.t 33)),.op 35 (.conv (.int .u8) (.t 34)),.b 36 .xor 31 35,.x 37 1 25 29,.s 100001 1 37 36] [[],[],[],[2],[1,3],[0,4],[5],[],[7,4],[8],[9],[6,10],[0,4,0,1,2,3,4,5,6,7,8,9,10,11],[12,11,8,0,1,2,3,4,5,6,7,8,9,10,11]])))))))))
 (.q [.m 38 5,.m 4 38]
 .ret)))⟩
theorem xor_u8b (a:UInt8) {w:Int} (h0:0≤w) (h1:w≤255):xorK .u8 (a.toNat:Int) (IntKind.u8.wrap w)=((a ^^^ mkU w).toNat:Int):=by
 obtain ⟨n,rfl⟩:∃ n:Nat,w=n:=⟨w.toNat,by omega⟩
 have hn:n < 256:=by omega
 have hw:IntKind.u8.wrap (n:Int)=n:=by rw [IntKind.wrap_u8]; omega
 rw [hw,xorK_def]
 show IntKind.u8.wrap ((BitVec.ofInt 8 (a.toNat:Int) ^^^ BitVec.ofInt 8 (n:Int)).toNat)=_
 have ha:=a.toNat_lt
 have e1:(BitVec.ofInt 8 (a.toNat:Int)).toNat=a.toNat:=by rw [BitVec.toNat_ofInt]; omega
 have e2:(BitVec.ofInt 8 (n:Int)).toNat=n:=by rw [BitVec.toNat_ofInt]; omega
 have e3:(mkU (n:Int)).toNat=n:=by rw [mkU_toNat]; omega
 have hx:a.toNat ^^^ n < 256:=Nat.xor_lt_two_pow (n:=8) ha hn
 rw [BitVec.toNat_xor,e1,e2,UInt8.toNat_xor,e3,IntKind.wrap_u8]
 omega
theorem set_u8b {b:List UInt8} {i:Nat} {a W:UInt8}:(List.map uR b).set i (setCells [uT a] 0 [uT W])=List.map uR (b.set i W):=by
 rw [List.map_set]
 rfl
theorem r_s_l1Bend {Te:TE} (c_s_l1Below:C_s_l1Below Te):∀ (c:CurV) (b:List UInt8) (hc:c.ok) (hb:b.length≤2 ^ 20),∃ r0,(∃ (r:List UInt8) (d:CurV),(r.length≤b.length∧d.ok)∧r0=(⟨[.one (slT true 1 uR r)],[d.enc,[slT true 1 uR b]]⟩:Res))∧RunFn Te x_s_l1Bend [.ptr c.enc,.one (slT true 1 uR b)] r0:=by
 intro c b hc hb
 refine some_of (Nat.le_of_ble_eq_true rfl) (by rfl) ?_
 obtain ⟨k,d0,⟨hk,hd0⟩,ht⟩:=c_s_l1Below c 5 hc
 have hk5:=hk.2.1 (by decide)
 have wl:IntKind.i64.wrap ((b.length:Int) + 1)=(b.length:Int) + 1:=IntWalk.i64_in _ (by omega)
 by_cases q0:k=0
 ·subst q0
  obtain ⟨u,d1,⟨hu,hd1⟩,ht1⟩:=c_s_l1Below d0 ((b.length:Int) + 1) hd0
  have hu1:=hu.2.1 (by omega)
  simp -implicitDefEqProofs (maxSteps:=1000000) only [x_s_l1Bend,go_sem]
  repeat refine ⟨sc,?_⟩
  try exact sf
  refine C1 (ht) wl ?_
  refine C0 (ht1) ?_
  have et:List.take (u.toNat - 0) (List.map uR b)=List.map uR (b.take u.toNat):=by rw [Nat.sub_zero,← List.map_take]
  exact ⟨b.take u.toNat,d1,⟨by rw [List.length_take]; omega,hd1⟩,by rw [et]⟩
 by_cases q1:k=1
 ·subst q1
  cases q:decide ((b.length:Int) > 0)
  ·simp -implicitDefEqProofs (maxSteps:=1000000) only [x_s_l1Bend,go_sem]
   repeat refine ⟨sc,?_⟩
   try exact sf
   refine C1 (ht) q ?_
   exact ⟨b,d0,⟨Nat.le_refl _,hd0⟩,rfl⟩
  ·have hpos:0 < b.length:=by simp only [decide_eq_true_eq] at q; omega
   obtain ⟨u,d1,⟨hu,hd1⟩,ht1⟩:=c_s_l1Below d0 (b.length:Int) hd0
   have hu1:=hu.2.1 (by omega)
   obtain ⟨v,d2,⟨hv,hd2⟩,ht2⟩:=c_s_l1Below d1 255 hd1
   have hv1:=hv.2.1 (by omega)
   have wv:IntKind.i64.wrap (1 + v)=1 + v:=IntWalk.i64_in _ (by omega)
   have hu2:u.toNat < b.length:=by omega
   have eg:(List.map uR b).getD u.toNat []=[uT b[u.toNat]]:=by simp [List.getD,List.getElem?_eq_getElem hu2]
   have q1:decide (u.toNat < b.length)=true:=decide_eq_true hu2
   have ex:=xor_u8b b[u.toNat] (w:=1 + v) (by omega) (by omega)
   have es:=set_u8b (b:=b) (i:=u.toNat) (a:=b[u.toNat]) (W:=b[u.toNat] ^^^ mkU (1 + v))
   have el:(b.set u.toNat (b[u.toNat] ^^^ mkU (1 + v))).length=b.length:=List.length_set ..
   generalize b[u.toNat] ^^^ mkU (1 + v)=W at ex es el
   simp -implicitDefEqProofs (maxSteps:=1000000) only [x_s_l1Bend,go_sem]
   repeat refine ⟨sc,?_⟩
   try exact sf
   refine C1 (ht) q ?_
   refine C3 (ht1) eg q1 wl ?_
   refine .of (ht2) ?_
   try simp -implicitDefEqProofs (maxSteps:=1000000) only [go_sem,wv,ex,storeAp]
   repeat refine ⟨sc,?_⟩
   try exact sf
   simp -implicitDefEqProofs (maxSteps:=1000000) only [go_sem,eg,es,q1,Nat.zero_add,List.length_cons,List.length_nil,wv,ex]
   refine ⟨decide_eq_true (by omega),b.set u.toNat W,d2,⟨by omega,hd2⟩,?_⟩
   rw [List.take_of_length_le (by rw [List.length_map]; omega)]
 have e:∀ j:Int,k≠j→(k==j)=false:=fun j h=>by simpa using h
 simp -implicitDefEqProofs (maxSteps:=1000000) only [x_s_l1Bend,go_sem]
 repeat refine ⟨sc,?_⟩
 try exact sf
 refine .of (ht) ?_
 try simp -implicitDefEqProofs (maxSteps:=1000000) only [go_sem,e 0 q0,e 1 q1]
 repeat refine ⟨sc,?_⟩
 try exact sf
 exact ⟨b,d0,⟨Nat.le_refl _,hd0⟩,rfl⟩
def x_i_Lay:FnX:=⟨44,[.cell 2 (some 9)],
  .q [.v 1 0,.op 2 (.alloc [.nils 1,.nils 2,.i 0,.F,.nils 7,.i 0,.nils 3,.i 0,.i 0])]
 (.q [.L 5 9 1,.c 6 158 [5],.op 3 (.alloc [.nils 1,.nils 2,.i 0,.F,.nils 7,.i 0,.nils 3,.i 0,.i 0]),.s 100001 9 3 6]
 (.seq (.q [.L 7 9 1,.c 8 89 [7],.N 9 8,.m 10 9,.z 10 (.f 11 1 0),.z 10 (.f 12 11 3),.z 10 (.l 13 12),.r 14 10 13,.m 15 14,.z 15 (.f 16 1 7),.z 15 (.l 17 16),.z 15 (.B 18 .eql 17 60000),.r 19 15 18]
 (.c 19 (.q [.L 20 9 3,.s 100002 9 2 20]
 .ret)))
 (.q [.f 21 1 4,.L 22 3 21,.c 23 207 [22],.m 4 23]
 (.q [.f 24 1 0,.L 25 4 24,.f 26 1 7,.l 27 26,.B 28 .add 27 1,.m 29 4,.c 30 208 [25,28,29],.f 31 3 0,.s 100003 4 31 30]
 (.seq (.q [.f 32 3 0,.f 33 32 3,.l 34 33,.N 35 34]
 (.c 35 (.reg [.f 36 1 7,.l 37 36,.B 38 .add 37 1,.m 39 4,.n 40 39,.f 41 3 7,.s 100004 1 41 38,.f 42 3 8,.s 100005 1 42 40])))
 (.q [.L 43 9 3,.s 100006 9 2 43]
 .ret))))))⟩
theorem r_i_Lay {Te:TE} (c_i_copyStore:C_i_copyStore Te) (c_i_StoreOk:C_i_StoreOk Te) (c_i_RecsOf:C_i_RecsOf Te) (c_i_laid:C_i_laid Te):C_i_Lay (RF Te x_i_Lay):=by
 intro s h
 have hL:=h.len (by decide)
 have hLT:=h.2.len (by decide)
 obtain ⟨hr1,hr2⟩:=recsOf_le h.2
 refine X0 x_i_Lay.eq_1 ?_
 refine C0 (c_i_copyStore s hL) ?_
 refine C0 (c_i_StoreOk s (h.mono (by decide))) ?_
 cases g1:s.ok
 ·have e:s.relay=s:=by rw [StoreV.relay,g1]; rfl
  try simp -implicitDefEqProofs (maxSteps:=1000000) only [go_sem,e,take_all,take_marks,StoreV.enc]
  repeat refine ⟨sc,?_⟩
  try exact sf
  try rfl
 obtain ⟨hk,_,_,_,hg,_⟩:=(StoreV.ok_iff s).1 g1
 cases g2:s.D.Down
 rotate_left
 ·have e:s.relay=s:=by rw [StoreV.relay,g1,g2]; rfl
  try simp -implicitDefEqProofs (maxSteps:=1000000) only [go_sem,g2,e,take_all,take_marks,StoreV.enc]
  repeat refine ⟨sc,?_⟩
  try exact sf
  try rfl
 cases g3:(s.Gen==60000)
 rotate_left
 ·have e:s.relay=s:=by rw [StoreV.relay,g1,g2,g3]; rfl
  try simp -implicitDefEqProofs (maxSteps:=1000000) only [go_sem,g2,g3,e,take_all,take_marks,StoreV.enc]
  repeat refine ⟨sc,?_⟩
  try exact sf
  try rfl
 have e:s.relay=s.lay (s.Gen + 1):=by rw [StoreV.relay,g1,g2,g3]; rfl
 have ew:IntKind.i64.wrap (s.Gen + 1)=s.Gen + 1:=IntWalk.i64_in _ (by omega)
 refine G2 g2 g3 ?_
 refine C0 (c_i_RecsOf s.T hLT) ?_
 have tl:=c_i_laid s.D (s.Gen + 1) (recsOf s.T) hk ⟨hr1,hr2⟩
 simp only [DevV.enc,g2] at tl
 refine G1 ew ?_
 refine C0 (tl) ?_
 cases g4:(layDev (s.Gen + 1) (recsOf s.T) s.D).Down
 ·have e2:=lay_up (s:=s) (gen:=s.Gen + 1) g4
  try simp -implicitDefEqProofs (maxSteps:=1000000) only [go_sem,g4,e,e2,ew,take_all,take_marks,StoreV.enc]
  repeat refine ⟨sc,?_⟩
  try exact sf
  try rfl
 ·have e2:=lay_down (s:=s) (gen:=s.Gen + 1) g4
  try simp -implicitDefEqProofs (maxSteps:=1000000) only [go_sem,g4,e,e2,ew,g2,take_all,take_marks,StoreV.enc]
  repeat refine ⟨sc,?_⟩
  try exact sf
  try rfl
def x_i_rowsBehind:FnX:=⟨26,[.tmp 4],
  .q [.v 2 0,.op 4 (.mv (.k (.one (.nils 7))))]
 (.q [.op 8 (.bslice 7 []),.m 5 8]
 (.seq (.q [.f 9 2 0,.l 10 9,.n 11 10,.i 12 0]
 (.block 0 (.loop [1,5,10,11,12] (.q [.b 13 .lss 12 11]
 (.seq (.cond 13 .skip (.exit 0))
 (.seq (.block 1 (.q [.x 14 7 10 12,.L 15 7 14,.op 7 (.alloc [.e,.i 0,.nils 1,.i 0,.nils 1,.i 0,.F]),.s 100001 7 7 15]
 (.q [.f 16 7 0,.l 17 16,.m 18 1,.b 19 .gtr 17 18]
 (.c 19 (.reg [.m 20 5,.L 21 7 7,.op 22 (.bslice 7 [(.t 21)]),.op 23 (.app 7 96 (.t 20) (.t 22)),.m 5 23])))))
 (.reg [.B 24 .add 12 1,.m 12 24])))))))
 (.norm [5] (.q [.m 25 5,.m 4 25]
 .ret))))⟩
theorem r_i_rowsBehind {Te:TE}:C_i_rowsBehind (RF Te x_i_rowsBehind):=by
 intro t f hl
 refine X0 x_i_rowsBehind.eq_1 ?_
 refine loop_of (σ:=Nat) (fun i=>⟨[(1,.one (.pv (.string f))),(5,.one (.rf 28 0 [] 7 0 (behind f (t.Rows.take i)).length)),(10,.one (.ro 7 (t.Rows.map (RowV.enc false)))),(11,.one (.pv (.int .i64 t.Rows.length))),(12,.one (.pv (.int .i64 i)))],[],[(0,t.enc false),(1,[sT f]),(28,[slT true 7 (RowV.enc false) (behind f (t.Rows.take i))])]⟩) (fun i=>i≤t.Rows.length) (fun i=>t.Rows.length - i) 0 ?_ (Nat.zero_le _) ?_
 ·simp -implicitDefEqProofs (maxSteps:=1000000) only [go_sem]
  try rfl
 ·intro i hi
  have hb:(behind f (t.Rows.take i)).length≤i:=Nat.le_trans (List.length_filter_le _ _) (by rw [List.length_take]; omega)
  cases q:decide ((i:Int) < (t.Rows.length:Int))
  ·have e:t.Rows.take i=t.Rows:=List.take_of_length_le (by simp only [decide_eq_false_iff_not] at q; omega)
   rw [e]
   exact F1 q
  ·have k1:i < t.Rows.length:=by simp only [decide_eq_true_eq] at q; omega
   have es:=behind_step (f:=f) k1
   cases g:isBehind f t.Rows[i].Key
   ·have g':=g
    rw [isBehind] at g'
    rw [g,cond_false,List.append_nil] at es
    refine G3 q (List.getElem?_eq_getElem k1) g' ?_
    refine ⟨i + 1,?_,k1,by omega⟩
    rw [es,IntWalk.i64_in _ (by omega)]
    rfl
   ·have g':=g
    rw [isBehind] at g'
    rw [g,cond_true] at es
    refine G3 q (List.getElem?_eq_getElem k1) g' ?_
    refine ⟨i + 1,?_,k1,by omega⟩
    rw [es,IntWalk.i64_in _ (by omega),List.length_append]
    simp only [slT,List.map_append]
    rfl
def x_s_l12SameCell:FnX:=⟨19,[.tmp 4],
  .q [.v 2 0,.v 3 1,.F 4]
 (.q [.f 5 2 0,.l 6 5,.f 7 3 0,.l 8 7,.b 9 .eql 6 8,.m 10 9,.y 10 (.f 11 2 1),.y 10 (.l 12 11),.y 10 (.op 13 (.conv .b2s (.t 12))),.y 10 (.f 14 3 1),.y 10 (.l 15 14),.y 10 (.op 16 (.conv .b2s (.t 15))),.y 10 (.b 17 .eql 13 16),.a 18 10 17,.m 4 18]
 .ret)⟩
theorem r_s_l12SameCell {Te:TE}:C_s_l12SameCell (RF Te x_s_l12SameCell):=by
 intro a c
 refine run0 ?_
 cases g:(a.Tag==c.Tag)
 ·simp -implicitDefEqProofs (maxSteps:=1000000) only [x_s_l12SameCell,go_sem,g]
  repeat refine ⟨sc,?_⟩
  try exact sf
 ·have ea:=areBytes_uR a.B
  have ec:=areBytes_uR c.B
  have fa:=bytesOf_uR a.B
  have fc:=bytesOf_uR c.B
  simp -implicitDefEqProofs (maxSteps:=1000000) only [x_s_l12SameCell,go_sem,g,ea,ec,fa,fc,bytes_beq,bytes_lists]
  repeat refine ⟨sc,?_⟩
  try exact sf
def x_s_l12SameRow:FnX:=⟨38,[.tmp 4],
  .q [.v 2 0,.v 3 1,.F 4]
 (.q [.f 5 2 0,.l 6 5,.f 7 3 0,.l 8 7,.b 9 .eql 6 8,.m 10 9,.y 10 (.f 11 2 1),.y 10 (.L 12 2 11),.y 10 (.f 13 3 1),.y 10 (.L 14 2 13),.y 10 (.c 15 204 [12,14]),.a 16 10 15,.m 17 16,.y 17 (.f 18 2 3),.y 17 (.L 19 2 18),.y 17 (.f 20 3 3),.y 17 (.L 21 2 20),.y 17 (.c 22 204 [19,21]),.a 23 17 22,.m 24 23,.y 24 (.f 25 2 5),.y 24 (.l 26 25),.y 24 (.f 27 3 5),.y 24 (.l 28 27),.y 24 (.b 29 .eql 26 28),.a 30 24 29,.m 31 30,.y 31 (.f 32 2 6),.y 31 (.l 33 32),.y 31 (.f 34 3 6),.y 31 (.l 35 34),.y 31 (.op 36 (.beq false (.t 33) (.t 35))),.a 37 31 36,.m 4 37]
 .ret)⟩
theorem r_s_l12SameRow {Te:TE} (c_s_l12SameCell:C_s_l12SameCell Te):C_s_l12SameRow (RF Te x_s_l12SameRow):=by
 intro a c
 refine run0 ?_
 simp -implicitDefEqProofs (maxSteps:=1000000) only [x_s_l12SameRow,go_sem,bytes_beq]
 repeat refine ⟨sc,?_⟩
 try exact sf
 cases g1:decide (a.Key=c.Key)
 ·try simp -implicitDefEqProofs (maxSteps:=1000000) only [go_sem,g1,rowSame]
  repeat refine ⟨sc,?_⟩
  try exact sf
 refine G1 g1 ?_
 have t1:=c_s_l12SameCell a.Old c.Old
 have t2:=c_s_l12SameCell a.New c.New
 rw [← cellSame] at t1 t2
 refine .of t1 ?_
 cases g2:cellSame a.Old c.Old
 ·try simp -implicitDefEqProofs (maxSteps:=1000000) only [go_sem,g1,g2,rowSame]
  repeat refine ⟨sc,?_⟩
  try exact sf
 refine G0 ?_
 refine .of t2 ?_
 cases g3:cellSame a.New c.New
 ·try simp -implicitDefEqProofs (maxSteps:=1000000) only [go_sem,g1,g2,g3,rowSame]
  repeat refine ⟨sc,?_⟩
  try exact sf
 refine G0 ?_
 cases g4:(a.Has==c.Has)
 ·try simp -implicitDefEqProofs (maxSteps:=1000000) only [go_sem,g1,g2,g3,g4,rowSame]
  repeat refine ⟨sc,?_⟩
  try exact sf
 have e9:∀ c:Bool,(c != false)=c:=fun c=>by cases c <;> rfl
 try simp -implicitDefEqProofs (maxSteps:=1000000) only [go_sem,g1,g2,g3,g4,rowSame,e9]
 repeat refine ⟨sc,?_⟩
 try exact sf
def x_i_ByteSign:FnX:=⟨35,[.tmp 4,.tmp 5],
  .q [.i 4 0,.F 5]
 (.seq (.q [.m 7 0,.op 8 (.call 90 [0,0,0] [(.t 7),(.i 1),(.i 4)]),.N 9 8,.m 10 9,.z 10 (.m 11 1),.z 10 (.op 12 (.call 90 [0,0,0] [(.t 11),(.i 0),(.i 255)])),.z 10 (.N 13 12),.r 14 10 13]
 (.c 14 (.q [.i 4 0,.F 5]
 .ret)))
 (.seq (.q [.m 15 1,.B 16 .leq 15 127]
 (.c 16 (.q [.m 17 1,.m 4 17,.T 5]
 .ret)))
 (.q [.m 18 1,.m 6 18]
 (.seq (.q [.m 19 0]
 (.block 0 (.q [.B 21 .eql 19 2,.m 20 21]
 (.cond 20 (.reg [.m 22 1,.c 23 325 [22],.m 6 23]) (.q [.B 25 .eql 19 3,.m 24 25]
 (.cond 24 (.reg [.m 26 1,.c 27 326 [26],.m 6 27]) (.q [.B 29 .eql 19 4,.m 28 29]
 (.c 28 (.reg [.m 30 1,.c 31 327 [30],.m 6 31])))))))))
 (.q [.m 32 6,.m 33 6,.B 34 .neq 33 0,.m 4 32,.m 5 34]
 .ret)))))⟩
theorem r_i_ByteSign {Te:TE} (c_i_within:C_i_within Te) (c_i_nineSign:C_i_nineSign Te) (c_i_koiSign:C_i_koiSign Te) (c_i_winSign:C_i_winSign Te):C_i_ByteSign (RF Te x_i_ByteSign):=by
 intro cs b
 refine X0 x_i_ByteSign.eq_1 ?_
 refine C0 (c_i_within _ _ _) ?_
 cases g1:win cs 1 4
 ·try simp -implicitDefEqProofs (maxSteps:=1000000) only [go_sem,byteSign,g1]
  repeat refine ⟨sc,?_⟩
  try exact sf
 ·refine G0 ?_
  refine C0 (c_i_within _ _ _) ?_
  cases g2:win b 0 255
  ·try simp -implicitDefEqProofs (maxSteps:=1000000) only [go_sem,byteSign,g1,g2]
   repeat refine ⟨sc,?_⟩
   try exact sf
  ·cases g3:decide (b≤127)
   ·have hb:128≤b∧b≤255:=by simp only [win,Bool.and_eq_true,decide_eq_true_eq] at g2; simp only [decide_eq_false_iff_not] at g3; omega
    refine G1 g3 ?_
    cases g4:(cs==2)
    ·cases g5:(cs==3)
     ·cases g6:(cs==4)
      ·try simp -implicitDefEqProofs (maxSteps:=1000000) only [go_sem,g4,g5,g6,byteSign,signOf,g1,g2,g3]
       repeat refine ⟨sc,?_⟩
       try exact sf
      ·refine G3 g4 g5 g6 ?_
       refine .of (c_i_winSign _ hb) ?_
       try simp -implicitDefEqProofs (maxSteps:=1000000) only [go_sem,byteSign,signOf,g1,g2,g3,g4,g5,g6]
       repeat refine ⟨sc,?_⟩
       try exact sf
     ·refine G2 g4 g5 ?_
      refine .of (c_i_koiSign _ hb) ?_
      try simp -implicitDefEqProofs (maxSteps:=1000000) only [go_sem,byteSign,signOf,g1,g2,g3,g4,g5]
      repeat refine ⟨sc,?_⟩
      try exact sf
    ·refine G1 g4 ?_
     refine .of (c_i_nineSign _) ?_
     try simp -implicitDefEqProofs (maxSteps:=1000000) only [go_sem,byteSign,signOf,g1,g2,g3,g4]
     repeat refine ⟨sc,?_⟩
     try exact sf
   ·try simp -implicitDefEqProofs (maxSteps:=1000000) only [go_sem,g3,byteSign,g1,g2]
    repeat refine ⟨sc,?_⟩
    try exact sf
def x_s_ByteSign:FnX:=⟨34,[.tmp 4,.tmp 5],
  .q [.i 4 0,.F 5]
 (.seq (.q [.m 7 0,.op 8 (.call 120 [0,0,0] [(.t 7),(.i 1),(.i 4)]),.N 9 8,.m 10 9,.z 10 (.m 11 1),.z 10 (.op 12 (.call 120 [0,0,0] [(.t 11),(.i 0),(.i 255)])),.z 10 (.N 13 12),.r 14 10 13]
 (.c 14 (.q [.i 4 0,.F 5]
 .ret)))
 (.q [.m 15 1,.m 6 15]
 (.seq (.q [.m 16 1,.B 17 .geq 16 128]
 (.c 17 (.q [.m 18 0]
 (.block 0 (.q [.B 20 .eql 18 2,.m 19 20]
 (.cond 19 (.reg [.m 21 1,.c 22 331 [21],.m 6 22]) (.q [.B 24 .eql 18 3,.m 23 24]
 (.cond 23 (.reg [.m 25 1,.c 26 332 [25],.m 6 26]) (.q [.B 28 .eql 18 4,.m 27 28]
 (.c 27 (.reg [.m 29 1,.c 30 333 [29],.m 6 30])))))))))))
 (.seq (.q [.m 31 6,.B 32 .lss 31 0]
 (.c 32 (.q [.i 4 0,.F 5]
 .ret)))
 (.q [.m 33 6,.m 4 33,.T 5]
 .ret)))))⟩
theorem r_s_ByteSign {Te:TE} (c_s_l1In:C_s_l1In Te) (c_s_l3Nine:C_s_l3Nine Te) (c_s_l3Koi:C_s_l3Koi Te) (c_s_l3Win:C_s_l3Win Te):C_s_ByteSign (RF Te x_s_ByteSign):=by
 intro cs b
 refine X0 x_s_ByteSign.eq_1 ?_
 refine C0 (c_s_l1In _ _ _) ?_
 cases g1:win cs 1 4
 ·try simp -implicitDefEqProofs (maxSteps:=1000000) only [go_sem,byteSign,g1]
  repeat refine ⟨sc,?_⟩
  try exact sf
 ·refine G0 ?_
  refine C0 (c_s_l1In _ _ _) ?_
  cases g2:win b 0 255
  ·try simp -implicitDefEqProofs (maxSteps:=1000000) only [go_sem,byteSign,g1,g2]
   repeat refine ⟨sc,?_⟩
   try exact sf
  ·have h2:0≤b∧b≤255:=by simpa only [win,Bool.and_eq_true,decide_eq_true_eq] using g2
   cases g3:decide (b≥128)
   ·have g3':decide (b≤127)=true:=by simp only [decide_eq_false_iff_not] at g3; exact decide_eq_true (by omega)
    have g7:decide (b < 0)=false:=decide_eq_false (by omega)
    try simp -implicitDefEqProofs (maxSteps:=1000000) only [go_sem,g3,g7,byteSign,g1,g2,g3']
    repeat refine ⟨sc,?_⟩
    try exact sf
   ·have hb:128≤b∧b≤255:=by simp only [decide_eq_true_eq] at g3; omega
    have g3':decide (b≤127)=false:=decide_eq_false (by omega)
    refine G1 g3 ?_
    cases g4:(cs==2)
    ·cases g5:(cs==3)
     ·cases g6:(cs==4)
      ·have g7:decide (b < 0)=false:=decide_eq_false (by omega)
       have g8:(b != 0)=true:=by simp; omega
       try simp -implicitDefEqProofs (maxSteps:=1000000) only [go_sem,g4,g5,g6,g7,g8,byteSign,signOf,g1,g2,g3']
       repeat refine ⟨sc,?_⟩
       try exact sf
      ·refine G3 g4 g5 g6 ?_
       refine C0 (c_s_l3Win _ hb) ?_
       obtain ⟨w1,w2⟩:=win_rel hb
       cases g9:(winB winL b==0)
       ·have g7:decide (winB winL b < 0)=false:=decide_eq_false (by omega)
        have g8:(winB winL b != 0)=true:=by simpa using g9
        simp only [g9,cond_false] at w1
        try simp -implicitDefEqProofs (maxSteps:=1000000) only [go_sem,w1,g7,g8,byteSign,signOf,g1,g2,g3',g4,g5,g6]
        repeat refine ⟨sc,?_⟩
        try exact sf
       ·have g8:winB winL b=0:=by simpa using g9
        simp only [g9,cond_true] at w1
        try simp -implicitDefEqProofs (maxSteps:=1000000) only [go_sem,w1,g8,byteSign,signOf,g1,g2,g3',g4,g5,g6]
        repeat refine ⟨sc,?_⟩
        try exact sf
        try rfl
     ·refine G2 g4 g5 ?_
      refine C0 (c_s_l3Koi _ hb) ?_
      obtain ⟨w1,w2⟩:=koi_rel hb
      cases g9:(koi 0 b==0)
      ·have g7:decide (koi 0 b < 0)=false:=decide_eq_false (by omega)
       have g8:(koi 0 b != 0)=true:=by simpa using g9
       simp only [g9,cond_false] at w1
       try simp -implicitDefEqProofs (maxSteps:=1000000) only [go_sem,w1,g7,g8,byteSign,signOf,g1,g2,g3',g4,g5]
       repeat refine ⟨sc,?_⟩
       try exact sf
      ·have g8:koi 0 b=0:=by simpa using g9
       simp only [g9,cond_true] at w1
       try simp -implicitDefEqProofs (maxSteps:=1000000) only [go_sem,w1,g8,byteSign,signOf,g1,g2,g3',g4,g5]
       repeat refine ⟨sc,?_⟩
       try exact sf
       try rfl
    ·refine G1 g4 ?_
     refine C0 (c_s_l3Nine _) ?_
     have w1:=nine_rel hb
     have g7:decide (nine b < 0)=false:=decide_eq_false (by omega)
     have g8:(nine b != 0)=true:=by simp; omega
     try simp -implicitDefEqProofs (maxSteps:=1000000) only [go_sem,g7,g8,byteSign,signOf,g1,g2,g3',g4]
     repeat refine ⟨sc,?_⟩
     try exact sf
def x_s_l9Old:FnX:=⟨7,[.tmp 2],
  .q [.v 1 0,.F 2]
 (.q [.f 3 1 5,.l 4 3,.B 5 .and 4 1,.B 6 .eql 5 1,.m 2 6]
 .ret)⟩
theorem r_s_l9Old {Te:TE}:C_s_l9Old (RF Te x_s_l9Old):=by
 intro r h
 refine run0 ?_
 have e:=and1_has _ h
 simp -implicitDefEqProofs (maxSteps:=1000000) only [x_s_l9Old,go_sem,e]
 repeat refine ⟨sc,?_⟩
 try exact sf
def x_s_l9New:FnX:=⟨7,[.tmp 2],
  .q [.v 1 0,.F 2]
 (.q [.f 3 1 5,.l 4 3,.B 5 .and 4 2,.B 6 .eql 5 2,.m 2 6]
 .ret)⟩
theorem r_s_l9New {Te:TE}:C_s_l9New (RF Te x_s_l9New):=by
 intro r h
 refine run0 ?_
 have e:=and2_has _ h
 simp -implicitDefEqProofs (maxSteps:=1000000) only [x_s_l9New,go_sem,e]
 repeat refine ⟨sc,?_⟩
 try exact sf
def x_s_NameOk:FnX:=⟨27,[.tmp 2],
  .q [.F 2]
 (.seq (.q [.i 3 0]
 (.block 0 (.loop [0,3] (.seq (.q [.m 4 3,.m 5 0,.op 6 (.slen (.t 5)),.b 7 .lss 4 6]
 (.cond 7 .skip (.exit 0)))
 (.seq (.block 1 (.q [.m 10 0,.m 11 3,.op 12 (.sidx (.t 10) (.t 11)),.op 13 (.conv (.int .i64) (.t 12)),.op 14 (.call 120 [0,0,0] [(.t 13),(.i 97),(.i 122)]),.N 15 14,.m 16 15,.y 16 (.m 17 0),.y 16 (.m 18 3),.y 16 (.op 19 (.sidx (.t 17) (.t 18))),.y 16 (.op 20 (.conv (.int .i64) (.t 19))),.y 16 (.op 21 (.call 120 [0,0,0] [(.t 20),(.i 48),(.i 57)])),.y 16 (.N 22 21),.a 23 16 22]
 (.c 23 (.q [.F 2]
 .ret))))
 (.reg [.m 8 3,.B 9 .add 8 1,.m 3 9]))))))
 (.norm [0] (.q [.m 24 0,.op 25 (.slen (.t 24)),.op 26 (.call 120 [0,0,0] [(.t 25),(.i 1),(.i 6)]),.m 2 26]
 .ret)))⟩
theorem r_s_NameOk {Te:TE} (c_s_l1In:C_s_l1In Te):C_s_NameOk (RF Te x_s_NameOk):=by
 intro s h
 refine run0 ?_
 have hsz:s.data.toList.length=s.size:=by rw [Array.length_toList]; rfl
 simp -implicitDefEqProofs (maxSteps:=1000000) only [x_s_NameOk,go_sem,nameOk]
 repeat refine ⟨sc,?_⟩
 try exact sf
 refine loop_of (σ:=Nat) (fun i=>⟨[(0,.one (.pv (.string s))),(3,.one (.pv (.int .i64 i)))],[],[(0,[sT s])]⟩) (fun i=>i≤s.size∧(s.data.toList.take i).all nameCh=true) (fun i=>s.size - i) 0 ?_ ⟨Nat.zero_le _,rfl⟩ ?_
 ·simp -implicitDefEqProofs (maxSteps:=1000000) only [go_sem]; rfl
 ·rintro i ⟨hi,hp⟩
  cases q:decide ((i:Int) < (s.size:Int))
  ·have e:=all_end (p:=nameCh) (show s.data.toList.length≤i by simp only [decide_eq_false_iff_not] at q; omega) hp
   refine G1 q ?_
   exact D1 (c_s_l1In _ _ _) e
  ·have hi':i < s.size:=by simp only [decide_eq_true_eq] at q; omega
   have hi2:i < s.data.toList.length:=by omega
   have q1:decide (i < s.size)=true:=decide_eq_true hi'
   have eg:s.data.toList.getD i 0=s.data.toList[i]:=by rw [List.getD_eq_getElem?_getD,List.getElem?_eq_getElem hi2]; rfl
   have hb:=s.data.toList[i].toNat_lt
   have w1:IntKind.i64.wrap ((s.data.toList[i].toNat:Nat):Int)=(s.data.toList[i].toNat:Nat):=IntWalk.i64_in _ (by omega)
   refine G4 q q1 eg w1 ?_
   refine C0 (c_s_l1In _ _ _) ?_
   cases g1:win ((s.data.toList[i].toNat:Nat):Int) 97 122
   ·refine G3 q1 eg w1 ?_
    refine C0 (c_s_l1In _ _ _) ?_
    cases g2:win ((s.data.toList[i].toNat:Nat):Int) 48 57
    ·have e:=all_not (p:=nameCh) hi2 (by simp only [nameCh,g1,g2,Bool.or_false])
     exact F1 e
    ·refine G0 ?_
     refine ⟨i + 1,by rw [IntWalk.i64_in _ (by omega)]; rfl,⟨hi',all_step (p:=nameCh) hi2 hp (by simp only [nameCh,g1,g2,Bool.or_true])⟩,by omega⟩
   ·refine G0 ?_
    refine ⟨i + 1,by rw [IntWalk.i64_in _ (by omega)]; rfl,⟨hi',all_step (p:=nameCh) hi2 hp (by simp only [nameCh,g1,Bool.true_or])⟩,by omega⟩
end Go.X

