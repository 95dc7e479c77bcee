/- Texts: CVe_2 CVzm_2 CF CVg_3 CVi CVp_2 CVd CVla_2 CU CVs. -/
import Derived.Test.YtmmjaijeeeilcaaGreatDoorS04
set_option linter.unusedVariables false
set_option linter.unusedSimpArgs false
namespace Go.X
set_option maxRecDepth 100000
set_option maxHeartbeats 8000000
def x_i_RowOk:FnX:=⟨89,[.tmp 2],
  .q [.v 1 0,.F 2]
 (.seq (.q [.f 9 1 0,.l 10 9,.c 11 98 [10],.N 12 11,.m 13 12,.z 13 (.f 14 1 5),.z 13 (.l 15 14),.z 13 (.op 16 (.call 90 [0,0,0] [(.t 15),(.i 1),(.i 3)])),.z 13 (.N 17 16),.r 18 13 17]
 (.c 18 (.q [.F 2]
 .ret)))
 (.q [.f 20 1 1,.L 21 2 20,.c 22 177 [21],.m 19 22,.e 23 19 0,.e 24 19 1,.m 3 23,.m 4 24]
 (.q [.f 26 1 3,.L 27 2 26,.c 28 177 [27],.m 25 28,.e 29 25 0,.e 30 25 1,.m 5 29,.m 6 30]
 (.q [.f 31 1 1,.L 32 2 31,.op 33 (.build [.i 0,.nils 1] []),.c 34 173 [32,33],.m 7 34]
 (.seq (.q [.f 35 1 5,.l 36 35,.B 37 .neq 36 2]
 (.c 37 (.reg [.f 38 1 1,.L 39 2 38,.c 40 261 [39],.m 41 40,.y 41 (.f 42 1 1),.y 41 (.f 43 42 0),.y 41 (.l 44 43),.y 41 (.B 45 .neq 44 0),.a 46 41 45,.m 47 46,.y 47 (.m 48 4),.y 47 (.m 49 48),.z 49 (.f 50 1 6),.z 49 (.l 51 50),.z 49 (.m 52 51),.y 52 (.f 53 1 5),.y 52 (.l 54 53),.y 52 (.B 55 .eql 54 1),.z 49 (.a 56 52 55),.y 47 (.r 57 49 56),.a 58 47 57,.m 7 58])))
 (.q [.f 59 1 3,.L 60 2 59,.op 61 (.build [.i 0,.nils 1] []),.c 62 173 [60,61],.m 8 62]
 (.seq (.q [.f 63 1 5,.l 64 63,.B 65 .neq 64 1]
 (.c 65 (.reg [.f 66 1 3,.f 67 66 0,.l 68 67,.B 69 .eql 68 0,.m 70 69,.y 70 (.m 71 6),.a 72 70 71,.m 8 72])))
 (.q [.m 73 7,.m 74 73,.y 74 (.m 75 8),.a 76 74 75,.m 77 76,.y 77 (.f 78 1 5),.y 77 (.l 79 78),.y 77 (.B 80 .neq 79 3),.y 77 (.m 81 80),.z 81 (.f 82 1 1),.z 81 (.L 83 2 82),.z 81 (.f 84 1 3),.z 81 (.L 85 2 84),.z 81 (.c 86 305 [83,85]),.y 77 (.r 87 81 86),.a 88 77 87,.m 2 88]
 .ret))))))))⟩
theorem r_i_RowOk {Te:TE} (c_i_NameOk:C_i_NameOk Te) (c_i_within:C_i_within Te) (c_i_CellText:C_i_CellText Te) (c_i_sameCell:C_i_sameCell Te) (c_i_CellOk:C_i_CellOk Te) (c_i_SameText:C_i_SameText Te):C_i_RowOk (RF Te x_i_RowOk):=by
 intro r h
 obtain ⟨hk,_⟩:=h
 refine X0 x_i_RowOk.eq_1 ?_
 refine C0 (c_i_NameOk r.Key hk) ?_
 cases g1:nameOk r.Key
 ·have e:=rowOk_name (r:=r) g1
  exact F1 e
 refine G0 ?_
 refine C0 (c_i_within _ _ _) ?_
 cases g2:win r.Has 1 3
 ·have e:=rowOk_has (r:=r) g2
  exact F1 e
 have h3:=win13 g2
 obtain ⟨key,old,new,has,aside⟩:=r
 simp only at h3 g1 hk
 clear g2
 rcases h3 with rfl | rfl | rfl
 ·skip
  have e:=rowOk_1 (o:=old) (n:=new) (a:=aside) g1
  refine G0 ?_
  refine C0 (c_i_CellText old) ?_
  refine C0 (c_i_CellText new) ?_
  refine .of (c_i_sameCell old ⟨0,[]⟩) ?_
  try simp -implicitDefEqProofs (maxSteps:=1000000) only [go_sem,CellV.no]
  repeat refine ⟨sc,?_⟩
  try exact sf
  refine C0 (c_i_CellOk old) ?_
  have fin0:∀ z,z=false→True:=fun _ _=>trivial
  cases o1:old.ok
  ·refine G1 o1 ?_
   refine .of (c_i_sameCell new ⟨0,[]⟩) ?_
   try simp -implicitDefEqProofs (maxSteps:=1000000) only [go_sem,CellV.no,e,o1]
   repeat refine ⟨sc,?_⟩
   try exact sf
  ·cases o2:(old.Tag != 0)
   ·refine G2 o1 o2 ?_
    refine .of (c_i_sameCell new ⟨0,[]⟩) ?_
    try simp -implicitDefEqProofs (maxSteps:=1000000) only [go_sem,CellV.no,e,o1,o2]
    repeat refine ⟨sc,?_⟩
    try exact sf
   ·cases o3:old.text.2
    ·cases aside
     ·refine G3 o1 o2 o3 ?_
      refine .of (c_i_sameCell new ⟨0,[]⟩) ?_
      try simp -implicitDefEqProofs (maxSteps:=1000000) only [go_sem,CellV.no,e,o1,o2,o3]
      repeat refine ⟨sc,?_⟩
      try exact sf
     ·try simp -implicitDefEqProofs (maxSteps:=1000000) only [go_sem,o1,o2,o3,CellV.no]
      repeat refine ⟨sc,?_⟩
      try exact sf
      refine .of (c_i_sameCell new ⟨0,[]⟩) ?_
      try simp -implicitDefEqProofs (maxSteps:=1000000) only [go_sem,CellV.no]
      repeat refine ⟨sc,?_⟩
      try exact sf
      cases n1:((new.Tag==0)&&decide (new.B=[]))
      ·try simp -implicitDefEqProofs (maxSteps:=1000000) only [go_sem,n1,CellV.no,e,o1,o2,o3]
       repeat refine ⟨sc,?_⟩
       try exact sf
      ·try simp -implicitDefEqProofs (maxSteps:=1000000) only [go_sem,n1,CellV.no,e,o1,o2,o3]
       repeat refine ⟨sc,?_⟩
       try exact sf
    ·try simp -implicitDefEqProofs (maxSteps:=1000000) only [go_sem,o1,o2,o3,CellV.no]
     repeat refine ⟨sc,?_⟩
     try exact sf
     refine .of (c_i_sameCell new ⟨0,[]⟩) ?_
     try simp -implicitDefEqProofs (maxSteps:=1000000) only [go_sem,CellV.no]
     repeat refine ⟨sc,?_⟩
     try exact sf
     cases n1:((new.Tag==0)&&decide (new.B=[]))
     ·try simp -implicitDefEqProofs (maxSteps:=1000000) only [go_sem,n1,CellV.no,e,o1,o2,o3]
      repeat refine ⟨sc,?_⟩
      try exact sf
     ·try simp -implicitDefEqProofs (maxSteps:=1000000) only [go_sem,n1,CellV.no,e,o1,o2,o3]
      repeat refine ⟨sc,?_⟩
      try exact sf
 ·skip
  have e:=rowOk_2 (o:=old) (n:=new) (a:=aside) g1
  refine G0 ?_
  refine C0 (c_i_CellText old) ?_
  refine C0 (c_i_CellText new) ?_
  refine .of (c_i_sameCell old ⟨0,[]⟩) ?_
  try simp -implicitDefEqProofs (maxSteps:=1000000) only [go_sem,CellV.no]
  repeat refine ⟨sc,?_⟩
  try exact sf
  refine .of (c_i_sameCell new ⟨0,[]⟩) ?_
  try simp -implicitDefEqProofs (maxSteps:=1000000) only [go_sem,CellV.no]
  repeat refine ⟨sc,?_⟩
  try exact sf
  cases o1:((old.Tag==0)&&decide (old.B=[]))
  ·cases n1:(new.Tag==0)
   ·try simp -implicitDefEqProofs (maxSteps:=1000000) only [go_sem,o1,n1,e,CellV.no]
    repeat refine ⟨sc,?_⟩
    try exact sf
   ·try simp -implicitDefEqProofs (maxSteps:=1000000) only [go_sem,o1,n1,e,CellV.no]
    repeat refine ⟨sc,?_⟩
    try exact sf
  ·cases n1:(new.Tag==0)
   ·try simp -implicitDefEqProofs (maxSteps:=1000000) only [go_sem,o1,n1,e,CellV.no]
    repeat refine ⟨sc,?_⟩
    try exact sf
   ·cases n2:new.text.2
    ·try simp -implicitDefEqProofs (maxSteps:=1000000) only [go_sem,o1,n1,n2,e,CellV.no]
     repeat refine ⟨sc,?_⟩
     try exact sf
    ·try simp -implicitDefEqProofs (maxSteps:=1000000) only [go_sem,o1,n1,n2,e,CellV.no]
     repeat refine ⟨sc,?_⟩
     try exact sf
 ·skip
  have e:=rowOk_3 (o:=old) (n:=new) (a:=aside) g1
  refine G0 ?_
  refine C0 (c_i_CellText old) ?_
  refine C0 (c_i_CellText new) ?_
  refine .of (c_i_sameCell old ⟨0,[]⟩) ?_
  try simp -implicitDefEqProofs (maxSteps:=1000000) only [go_sem,CellV.no]
  repeat refine ⟨sc,?_⟩
  try exact sf
  refine C0 (c_i_CellOk old) ?_
  cases o1:old.ok
  ·refine G1 o1 ?_
   refine .of (c_i_sameCell new ⟨0,[]⟩) ?_
   try simp -implicitDefEqProofs (maxSteps:=1000000) only [go_sem,CellV.no]
   repeat refine ⟨sc,?_⟩
   try exact sf
   cases n1:(new.Tag==0)
   ·try simp -implicitDefEqProofs (maxSteps:=1000000) only [go_sem,n1,CellV.no,e,o1]
    repeat refine ⟨sc,?_⟩
    try exact sf
   ·try simp -implicitDefEqProofs (maxSteps:=1000000) only [go_sem,n1,CellV.no,e,o1]
    repeat refine ⟨sc,?_⟩
    try exact sf
  ·cases o2:(old.Tag != 0)
   ·refine G2 o1 o2 ?_
    refine .of (c_i_sameCell new ⟨0,[]⟩) ?_
    try simp -implicitDefEqProofs (maxSteps:=1000000) only [go_sem,CellV.no]
    repeat refine ⟨sc,?_⟩
    try exact sf
    cases n1:(new.Tag==0)
    ·try simp -implicitDefEqProofs (maxSteps:=1000000) only [go_sem,n1,CellV.no,e,o1,o2]
     repeat refine ⟨sc,?_⟩
     try exact sf
    ·try simp -implicitDefEqProofs (maxSteps:=1000000) only [go_sem,n1,CellV.no,e,o1,o2]
     repeat refine ⟨sc,?_⟩
     try exact sf
   ·cases o3:old.text.2
    ·cases aside
     ·try simp -implicitDefEqProofs (maxSteps:=1000000) only [go_sem,o1,o2,o3,CellV.no]
      repeat refine ⟨sc,?_⟩
      try exact sf
      refine .of (c_i_sameCell new ⟨0,[]⟩) ?_
      try simp -implicitDefEqProofs (maxSteps:=1000000) only [go_sem,CellV.no]
      repeat refine ⟨sc,?_⟩
      try exact sf
      cases n1:(new.Tag==0)
      ·try simp -implicitDefEqProofs (maxSteps:=1000000) only [go_sem,n1,CellV.no,e,o1,o2,o3]
       repeat refine ⟨sc,?_⟩
       try exact sf
      ·try simp -implicitDefEqProofs (maxSteps:=1000000) only [go_sem,n1,CellV.no,e,o1,o2,o3]
       repeat refine ⟨sc,?_⟩
       try exact sf
     ·try simp -implicitDefEqProofs (maxSteps:=1000000) only [go_sem,o1,o2,o3,CellV.no]
      repeat refine ⟨sc,?_⟩
      try exact sf
      refine .of (c_i_sameCell new ⟨0,[]⟩) ?_
      try simp -implicitDefEqProofs (maxSteps:=1000000) only [go_sem,CellV.no]
      repeat refine ⟨sc,?_⟩
      try exact sf
      cases n1:(new.Tag==0)
      ·try simp -implicitDefEqProofs (maxSteps:=1000000) only [go_sem,n1,CellV.no,e,o1,o2,o3]
       repeat refine ⟨sc,?_⟩
       try exact sf
      ·try simp -implicitDefEqProofs (maxSteps:=1000000) only [go_sem,n1,CellV.no,e,o1,o2,o3]
       repeat refine ⟨sc,?_⟩
       try exact sf
    ·try simp -implicitDefEqProofs (maxSteps:=1000000) only [go_sem,o1,o2,o3,CellV.no]
     repeat refine ⟨sc,?_⟩
     try exact sf
     refine .of (c_i_sameCell new ⟨0,[]⟩) ?_
     try simp -implicitDefEqProofs (maxSteps:=1000000) only [go_sem,CellV.no]
     repeat refine ⟨sc,?_⟩
     try exact sf
     cases n1:(new.Tag==0)
     ·try simp -implicitDefEqProofs (maxSteps:=1000000) only [go_sem,n1,CellV.no,e,o1,o2,o3]
      repeat refine ⟨sc,?_⟩
      try exact sf
     ·cases n2:new.text.2
      ·try simp -implicitDefEqProofs (maxSteps:=1000000) only [go_sem,n1,n2,CellV.no,e,o1,o2,o3]
       repeat refine ⟨sc,?_⟩
       try exact sf
      ·try simp -implicitDefEqProofs (maxSteps:=1000000) only [go_sem,n1,n2,CellV.no]
       repeat refine ⟨sc,?_⟩
       try exact sf
       refine .of (c_i_SameText old new) ?_
       try simp -implicitDefEqProofs (maxSteps:=1000000) only [go_sem,e,o1,o2,o3,n1,n2]
       repeat refine ⟨sc,?_⟩
       try exact sf
def x_s_l15Do:FnX:=⟨145,[],
  .q [.m 20 0,.op 21 (.call 96 [5,0] [(.t 20),(.i 8)])]
 (.block 0 (.q [.B 55 .eql 21 0,.m 54 55]
 (.cond 54 (.seq (.draw [.m 57 1,.op 58 (.nilc (.t 57)),.L 59 10 58,.m 60 0,.op 61 (.call 96 [5,0] [(.t 60),(.i 8)]),.c 62 38 [59,61],.m 56 62,.e 63 56 0,.e 64 56 1,.op 4 (.alloc [.nils 1,.nils 2,.i 0,.F,.nils 7,.i 0,.nils 3,.i 0,.i 0,.i 0]),.s 100001 10 4 63,.m 5 64] [[],[0],[1],[],[3],[2,4,4],[5],[6],[6],[],[9,7,5,0,1,2,3,4,5,6,7,9],[8,10,0,1,2,3,4,5,6,7,8,9,10]])
 (.reg [.m 65 1,.L 66 10 4,.op 67 (.nilc (.t 65)),.s 100002 10 67 66])) (.q [.B 69 .eql 21 1,.m 68 69]
 (.cond 68 (.seq (.draw [.m 71 1,.op 72 (.nilc (.t 71)),.L 73 10 72,.m 74 1,.op 75 (.nilc (.t 74)),.f 76 75 0,.f 77 76 4,.f 78 77 1,.l 79 78,.B 80 .add 79 1,.c 81 38 [73,80],.m 70 81,.e 82 70 0,.e 83 70 1,.op 6 (.alloc [.nils 1,.nils 2,.i 0,.F,.nils 7,.i 0,.nils 3,.i 0,.i 0,.i 0]),.s 100003 10 6 82,.m 7 83] [[],[0],[1],[],[3],[4],[5],[6],[7],[8],[2,9],[10],[11],[11],[],[14,12,10,0,1,2,3,4,5,6,7,8,9,10,11,12,14],[13,15,0,1,2,3,4,5,6,7,8,9,10,11,12,13,14,15]])
 (.reg [.m 84 1,.L 85 10 6,.op 86 (.nilc (.t 84)),.s 100004 10 86 85])) (.q [.B 88 .eql 21 2,.m 87 88]
 (.cond 87 (.seq (.draw [.m 90 1,.op 91 (.nilc (.t 90)),.L 92 10 91,.m 93 0,.op 94 (.call 96 [5,0] [(.t 93),(.i 2)]),.op 95 (.bin .add (.i 1) (.t 94)),.m 96 0,.op 97 (.call 96 [5,0] [(.t 96),(.i 30)]),.op 98 (.bin .add (.i 1) (.t 97)),.m 99 0,.op 100 (.call 93 [5] [(.t 99)]),.c 101 35 [92,95,98,100],.m 89 101,.e 102 89 0,.e 103 89 1,.e 104 89 2,.op 8 (.alloc [.nils 1,.nils 2,.i 0,.F,.nils 7,.i 0,.nils 3,.i 0,.i 0,.i 0]),.s 100005 10 8 102,.m 9 103,.m 10 104] [[],[0],[1],[],[3],[4],[],[6,4],[7],[],[9,7],[2,5,8,10,10],[11],[12],[12],[12],[],[16,13,11,0,1,2,3,4,5,6,7,8,9,10,11,12,13,16],[14,17,0,1,2,3,4,5,6,7,8,9,10,11,12,13,14,16,17],[15,18,0,1,2,3,4,5,6,7,8,9,10,11,12,13,14,15,16,17,18]])
 (.reg [.m 105 1,.L 106 10 8,.op 107 (.nilc (.t 105)),.s 100006 10 107 106])) (.q [.B 109 .eql 21 3,.m 108 109]
 (.cond 108 (.seq (.draw [.m 111 1,.op 112 (.nilc (.t 111)),.L 113 10 112,.m 114 0,.op 115 (.call 93 [5] [(.t 114)]),.m 116 0,.m 117 1,.op 118 (.nilc (.t 117)),.f 119 118 9,.l 120 119,.op 121 (.call 97 [5,0] [(.t 116),(.t 120)]),.c 122 29 [113,115,121],.m 110 122,.e 123 110 0,.e 124 110 1,.op 11 (.alloc [.nils 1,.nils 2,.i 0,.F,.nils 7,.i 0,.nils 3,.i 0,.i 0,.i 0]),.s 100007 10 11 123,.m 12 124] [[],[0],[1],[],[3],[],[],[6],[7],[8],[5,9,4],[2,4,10,10],[11],[12],[12],[],[15,13,11,0,1,2,3,4,5,6,7,8,9,10,11,12,13,15],[14,16,0,1,2,3,4,5,6,7,8,9,10,11,12,13,14,15,16]])
 (.reg [.m 125 1,.L 126 10 11,.op 127 (.nilc (.t 125)),.s 100008 10 127 126])) (.q [.B 129 .eql 21 4,.m 128 129]
 (.cond 128 (.seq (.draw [.m 131 1,.op 132 (.nilc (.t 131)),.L 133 10 132,.m 134 0,.op 135 (.bslice 1 [(.k (.one (.pv (.string ⟨#[]⟩)))),(.k (.one (.pv (.string ⟨#[97]⟩)))),(.k (.one (.pv (.string ⟨#[98]⟩))))]),.op 136 (.call 114 [5,1] [(.t 134),(.t 135)]),.c 137 40 [133,136],.m 130 137,.e 138 130 0,.e 139 130 1,.e 140 130 2,.e 141 130 3,.op 13 (.alloc [.nils 1,.nils 2,.i 0,.F,.nils 7,.i 0,.nils 3,.i 0,.i 0,.i 0]),.s 100009 10 13 138,.m 14 139,.m 15 140,.m 16 141] [[],[0],[1],[],[],[3,4],[2,5,5],[6],[7],[7],[7],[7],[],[12,8,6,0,1,2,3,4,5,6,7,8,12],[9,13,0,1,2,3,4,5,6,7,8,9,12,13],[10,14,0,1,2,3,4,5,6,7,8,9,10,12,13,14],[11,15,0,1,2,3,4,5,6,7,8,9,10,11,12,13,14,15]])
 (.reg [.m 142 1,.L 143 10 13,.op 144 (.nilc (.t 142)),.s 100010 10 144 143])) (.seq (.draw [.m 23 1,.op 24 (.nilc (.t 23)),.L 25 10 24,.m 26 0,.op 27 (.call 96 [5,0] [(.t 26),(.i 2)]),.op 28 (.bin .add (.i 1) (.t 27)),.m 29 0,.op 30 (.call 96 [5,0] [(.t 29),(.i 30)]),.op 31 (.bin .add (.i 1) (.t 30)),.m 32 0,.op 33 (.call 93 [5] [(.t 32)]),.m 34 0,.m 35 0,.m 36 1,.op 37 (.nilc (.t 36)),.f 38 37 9,.l 39 38,.m 40 1,.op 41 (.nilc (.t 40)),.f 42 41 9,.l 43 42,.op 44 (.bslice 1 [(.t 39),(.t 43),(.i 0)]),.op 45 (.call 70 [5,1] [(.t 35),(.t 44)]),.op 46 (.call 106 [5,0,0] [(.t 34),(.t 45),(.i 5)]),.c 47 33 [25,28,31,33,46],.m 22 47,.e 48 22 0,.e 49 22 1,.e 50 22 2,.op 17 (.alloc [.nils 1,.nils 2,.i 0,.F,.nils 7,.i 0,.nils 3,.i 0,.i 0,.i 0]),.s 100011 10 17 48,.m 18 49,.m 19 50] [[],[0],[1],[],[3],[4],[],[6,4],[7],[],[9,7],[],[],[],[13],[14],[15],[],[17],[18],[19],[16,20],[12,21,10],[11,22,22],[2,5,8,10,23,23],[24],[25],[25],[25],[],[29,26,24,0,1,2,3,4,5,6,7,8,9,10,11,12,13,14,15,16,17,18,19,20,21,22,23,24,25,26,29],[27,30,0,1,2,3,4,5,6,7,8,9,10,11,12,13,14,15,16,17,18,19,20,21,22,23,24,25,26,27,29,30],[28,31,0,1,2,3,4,5,6,7,8,9,10,11,12,13,14,15,16,17,18,19,20,21,22,23,24,25,26,27,28,29,30,31]])
 (.reg [.m 51 1,.L 52 10 17,.op 53 (.nilc (.t 51)),.s 100012 10 53 52])))))))))))))⟩
theorem r_s_l15Do {Te:TE} (c_s_l1Below:C_s_l1Below Te) (c_s_NodePhase:C_s_NodePhase Te) (c_s_l1Name:C_s_l1Name Te) (c_s_NodeDel:C_s_NodeDel Te) (c_s_l5Bytes:C_s_l5Bytes Te) (c_s_NodeLoad:C_s_NodeLoad Te) (c_s_l1Str:C_s_l1Str Te) (c_s_NodeStep:C_s_NodeStep Te) (c_s_l1Int:C_s_l1Int Te) (c_s_l5Text:C_s_l5Text Te) (c_s_NodePut:C_s_NodePut Te):∀ (c:CurV) (n:NodeV) (g:Int) (hc:c.ok) (hn:n.calm g 30) (hg:g + 2 < 60000),∃ r0,(∃ (m:NodeV) (d:CurV),(m.calm (g + 2) 30∧d.ok)∧r0=(⟨[],[d.enc,m.enc true]⟩:Res))∧RunFn Te x_s_l15Do [.ptr c.enc,.ptr (n.enc true)] r0:=by
 intro c n g hc hn hg
 refine some_of (Nat.le_of_ble_eq_true rfl) (by rfl) ?_
 have hN:=up_in hn.1
 simp -implicitDefEqProofs (maxSteps:=1000000) only [x_s_l15Do,go_sem]
 repeat refine ⟨sc,?_⟩
 try exact sf
 obtain ⟨k,d0,⟨⟨hk0,hk1,_⟩,hd0⟩,ht⟩:=c_s_l1Below c 8 hc
 have hk8:=hk1 (by decide)
 by_cases q0:k=0
 ·subst q0
  obtain ⟨p,d,⟨_,hd⟩,ht1⟩:=c_s_l1Below d0 8 hd0
  refine C0 (ht) ?_
  refine C0 (ht1) ?_
  refine C0 (c_s_NodePhase n p hN) ?_
  exact ⟨(n.phase p).1,d,⟨(phase_calm p hn (by omega)).mono (by omega),hd⟩,rfl⟩
 by_cases q1:k=1
 ·subst q1
  refine C0 (ht) ?_
  refine C0 (c_s_NodePhase n (IntKind.i64.wrap (n.S.T.Phase + 1)) hN) ?_
  exact ⟨(n.phase (IntKind.i64.wrap (n.S.T.Phase + 1))).1,d0,⟨(phase_calm _ hn (by omega)).mono (by omega),hd0⟩,rfl⟩
 by_cases q2:k=2
 ·subst q2
  obtain ⟨u,d1,⟨⟨hu0,hu1,_⟩,hd1⟩,ht1⟩:=c_s_l1Below d0 2 hd0
  obtain ⟨v,d2,⟨⟨hv0,hv1,_⟩,hd2⟩,ht2⟩:=c_s_l1Below d1 30 hd1
  obtain ⟨key,d3,⟨hk6,hd3⟩,ht3⟩:=c_s_l1Name d2 hd2
  have hv30:=hv1 (by decide)
  have w:IntKind.i64.wrap (1 + v)=1 + v:=IntWalk.i64_in _ (by omega)
  refine C0 (ht) ?_
  refine C0 (ht1) ?_
  refine C1 (ht2) w ?_
  refine C0 (ht3) ?_
  refine C0 (c_s_NodeDel n (IntKind.i64.wrap (1 + u)) (1 + v) key hN (by omega)) ?_
  exact ⟨(n.del (IntKind.i64.wrap (1 + u)) (1 + v) key).1,d3,⟨(del_calm key hn (by omega) (by omega)).mono (by omega),hd3⟩,rfl⟩
 by_cases q3:k=3
 ·subst q3
  obtain ⟨key,d1,⟨hk6,hd1⟩,ht1⟩:=c_s_l1Name d0 hd0
  obtain ⟨b,d2,⟨hb,hd2⟩,ht2⟩:=c_s_l5Bytes d1 n.Cs hd1
  refine C0 (ht) ?_
  refine C0 (ht1) ?_
  refine C0 (ht2) ?_
  refine C0 (c_s_NodeLoad n key b hN (by omega) (by omega)) ?_
  exact ⟨(n.load key b).1,d2,⟨(load_calm key b hn (by omega)).mono (by omega),hd2⟩,rfl⟩
 by_cases q4:k=4
 ·subst q4
  obtain ⟨f,d1,⟨_,hd1⟩,ht1⟩:=c_s_l1Str d0 [⟨#[]⟩,⟨#[97]⟩,⟨#[98]⟩] hd0 (by decide)
  refine C0 (ht) ?_
  refine C0 (ht1) ?_
  refine C0 (c_s_NodeStep n f hN) ?_
  exact ⟨(n.step f).1,d1,⟨step_calm f hn hg,hd1⟩,rfl⟩
 have e:∀ j:Int,k≠j→(k==j)=false:=fun j h=>by simpa using h
 obtain ⟨u,d1,⟨⟨hu0,hu1,_⟩,hd1⟩,ht1⟩:=c_s_l1Below d0 2 hd0
 obtain ⟨v,d2,⟨⟨hv0,hv1,_⟩,hd2⟩,ht2⟩:=c_s_l1Below d1 30 hd1
 obtain ⟨key,d3,⟨hk6,hd3⟩,ht3⟩:=c_s_l1Name d2 hd2
 obtain ⟨cs,d4,⟨_,hd4⟩,ht4⟩:=c_s_l1Int d3 [n.Cs,n.Cs,0] hd3 (by simp)
 obtain ⟨s,d5,⟨hs,hd5⟩,ht5⟩:=c_s_l5Text d4 cs 5 hd4 (by decide)
 replace hs:s.size≤20:=hs
 have hv30:=hv1 (by decide)
 have w:IntKind.i64.wrap (1 + v)=1 + v:=IntWalk.i64_in _ (by omega)
 refine .of (ht) ?_
 try simp -implicitDefEqProofs (maxSteps:=1000000) only [go_sem,e 0 q0,e 1 q1,e 2 q2,e 3 q3,e 4 q4]
 repeat refine ⟨sc,?_⟩
 try exact sf
 refine C0 (ht1) ?_
 refine C1 (ht2) w ?_
 refine C0 (ht3) ?_
 refine C0 (ht4) ?_
 refine C0 (ht5) ?_
 refine C0 (c_s_NodePut n (IntKind.i64.wrap (1 + u)) (1 + v) key s hN (by omega) (by omega)) ?_
 exact ⟨(n.putIn (IntKind.i64.wrap (1 + u)) (1 + v) key s).1,d5,⟨(put_calm key s hn (by omega) (by omega)).mono (by omega),hd5⟩,rfl⟩
def x_i_within:FnX:=⟨15,[.tmp 6],
  .q [.F 6]
 (.q [.m 7 0,.m 8 1,.b 9 .geq 7 8,.m 10 9,.y 10 (.m 11 0),.y 10 (.m 12 2),.y 10 (.b 13 .leq 11 12),.a 14 10 13,.m 6 14]
 .ret)⟩
theorem r_i_within {Te:TE}:C_i_within (RF Te x_i_within):=by
 intro n a b
 refine run0 ?_
 simp -implicitDefEqProofs (maxSteps:=1000000) only [x_i_within,go_sem]
 refine bif_cases (fun h=>?_) (fun h=>?_) <;> simp -implicitDefEqProofs (maxSteps:=1000000) only [h,go_sem,win]
def x_s_l1In:FnX:=⟨15,[.tmp 6],
  .q [.F 6]
 (.q [.m 7 0,.m 8 1,.b 9 .geq 7 8,.m 10 9,.y 10 (.m 11 0),.y 10 (.m 12 2),.y 10 (.b 13 .leq 11 12),.a 14 10 13,.m 6 14]
 .ret)⟩
theorem r_s_l1In {Te:TE}:C_s_l1In (RF Te x_s_l1In):=by
 intro n a b
 refine run0 ?_
 simp -implicitDefEqProofs (maxSteps:=1000000) only [x_s_l1In,go_sem]
 refine bif_cases (fun h=>?_) (fun h=>?_) <;> simp -implicitDefEqProofs (maxSteps:=1000000) only [h,go_sem,win]
def x_i_isWord:FnX:=⟨5,[.tmp 2],
  .q [.F 2]
 (.q [.m 3 0,.op 4 (.call 90 [0,0,0] [(.t 3),(.i 0),(.i 65535)]),.m 2 4]
 .ret)⟩
theorem r_i_isWord {Te:TE} (c_i_within:C_i_within Te):C_i_isWord (RF Te x_i_isWord):=by
 intro n
 refine run0 ?_
 simp -implicitDefEqProofs (maxSteps:=1000000) only [x_i_isWord,go_sem]
 exact D0 (c_i_within _ _ _)
def x_s_l1Word:FnX:=⟨5,[.tmp 2],
  .q [.F 2]
 (.q [.m 3 0,.op 4 (.call 120 [0,0,0] [(.t 3),(.i 0),(.i 65535)]),.m 2 4]
 .ret)⟩
theorem r_s_l1Word {Te:TE} (c_s_l1In:C_s_l1In Te):C_s_l1Word (RF Te x_s_l1Word):=by
 intro n
 refine run0 ?_
 simp -implicitDefEqProofs (maxSteps:=1000000) only [x_s_l1Word,go_sem]
 exact D0 (c_s_l1In _ _ _)
def x_i_StoreOk:FnX:=⟨40,[.tmp 2],
  .q [.v 1 0,.F 2]
 (.q [.f 3 1 0,.L 4 4 3,.c 5 178 [4],.m 6 5,.y 6 (.f 7 1 0),.y 6 (.f 8 7 0),.y 6 (.l 9 8),.y 6 (.n 10 9),.y 6 (.B 11 .eql 10 62),.a 12 6 11,.m 13 12,.y 13 (.f 14 1 0),.y 13 (.f 15 14 1),.y 13 (.l 16 15),.y 13 (.n 17 16),.y 13 (.B 18 .eql 17 0),.y 13 (.m 19 18),.z 19 (.f 20 1 0),.z 19 (.f 21 20 3),.z 19 (.l 22 21),.y 13 (.r 23 19 22),.a 24 13 23,.m 25 24,.y 25 (.f 26 1 4),.y 25 (.L 27 3 26),.y 25 (.c 28 179 [27]),.a 29 25 28,.m 30 29,.y 30 (.f 31 1 7),.y 30 (.l 32 31),.y 30 (.op 33 (.call 90 [0,0,0] [(.t 32),(.i 1),(.i 60000)])),.a 34 30 33,.m 35 34,.y 35 (.f 36 1 8),.y 35 (.l 37 36),.y 35 (.op 38 (.call 90 [0,0,0] [(.t 37),(.i 0),(.i 30)])),.a 39 35 38,.m 2 39]
 .ret)⟩
theorem r_i_StoreOk {Te:TE} (c_i_DevOk:C_i_DevOk Te) (c_i_TabOk:C_i_TabOk Te) (c_i_within:C_i_within Te):C_i_StoreOk (RF Te x_i_StoreOk):=by
 intro s h
 obtain ⟨hD,hT⟩:=h
 obtain ⟨⟨secs,cache,fuse,down⟩,T,gen,place⟩:=s
 cases down
 ·skip
  refine X0 x_i_StoreOk.eq_1 ?_
  refine C0 (c_i_DevOk ⟨secs,cache,fuse,false⟩ hD) ?_
  cases g1:DevV.ok ⟨secs,cache,fuse,false⟩
  ·have e:(StoreV.mk ⟨secs,cache,fuse,false⟩ T gen place).ok=false:=by simp only [StoreV.ok,g1,Bool.false_and]
   exact F1 e
  cases g2:((secs.length:Int)==62)
  ·have e:(StoreV.mk ⟨secs,cache,fuse,false⟩ T gen place).ok=false:=by simp only [StoreV.ok,g2,Bool.and_false,Bool.false_and]
   exact F2 g2 e
  cases g0:((cache.length:Int)==0)
  ·have e:(StoreV.mk ⟨secs,cache,fuse,false⟩ T gen place).ok=false:=by simp only [StoreV.ok,g0,Bool.or_self,Bool.and_false,Bool.false_and]
   exact F3 g2 g0 e
  refine G2 g2 g0 ?_
  refine C0 (c_i_TabOk T hT) ?_
  cases g4:T.ok
  ·have e:(StoreV.mk ⟨secs,cache,fuse,false⟩ T gen place).ok=false:=by simp only [StoreV.ok,g4,Bool.and_false,Bool.false_and]
   exact F1 e
  refine G0 ?_
  refine C0 (c_i_within _ _ _) ?_
  cases g5:win gen 1 60000
  ·have e:(StoreV.mk ⟨secs,cache,fuse,false⟩ T gen place).ok=false:=by simp only [StoreV.ok,g5,Bool.and_false,Bool.false_and]
   exact F1 e
  refine G0 ?_
  have e:(StoreV.mk ⟨secs,cache,fuse,false⟩ T gen place).ok=win place 0 30:=by simp only [StoreV.ok,g1,g2,g0,g4,g5,Bool.and_true,Bool.true_and,Bool.or_true,Bool.true_or]
  exact D1 (c_i_within _ _ _) e
 ·skip
  refine X0 x_i_StoreOk.eq_1 ?_
  refine C0 (c_i_DevOk ⟨secs,cache,fuse,true⟩ hD) ?_
  cases g1:DevV.ok ⟨secs,cache,fuse,true⟩
  ·have e:(StoreV.mk ⟨secs,cache,fuse,true⟩ T gen place).ok=false:=by simp only [StoreV.ok,g1,Bool.false_and]
   exact F1 e
  cases g2:((secs.length:Int)==62)
  ·have e:(StoreV.mk ⟨secs,cache,fuse,true⟩ T gen place).ok=false:=by simp only [StoreV.ok,g2,Bool.and_false,Bool.false_and]
   exact F2 g2 e
  cases g0:((cache.length:Int)==0)
  ·refine G2 g2 g0 ?_
   refine C0 (c_i_TabOk T hT) ?_
   cases g4:T.ok
   ·have e:(StoreV.mk ⟨secs,cache,fuse,true⟩ T gen place).ok=false:=by simp only [StoreV.ok,g4,Bool.and_false,Bool.false_and]
    exact F1 e
   refine G0 ?_
   refine C0 (c_i_within _ _ _) ?_
   cases g5:win gen 1 60000
   ·have e:(StoreV.mk ⟨secs,cache,fuse,true⟩ T gen place).ok=false:=by simp only [StoreV.ok,g5,Bool.and_false,Bool.false_and]
    exact F1 e
   refine G0 ?_
   have e:(StoreV.mk ⟨secs,cache,fuse,true⟩ T gen place).ok=win place 0 30:=by simp only [StoreV.ok,g1,g2,g0,g4,g5,Bool.and_true,Bool.true_and,Bool.or_true,Bool.true_or]
   exact D1 (c_i_within _ _ _) e
  ·refine G2 g2 g0 ?_
   refine C0 (c_i_TabOk T hT) ?_
   cases g4:T.ok
   ·have e:(StoreV.mk ⟨secs,cache,fuse,true⟩ T gen place).ok=false:=by simp only [StoreV.ok,g4,Bool.and_false,Bool.false_and]
    exact F1 e
   refine G0 ?_
   refine C0 (c_i_within _ _ _) ?_
   cases g5:win gen 1 60000
   ·have e:(StoreV.mk ⟨secs,cache,fuse,true⟩ T gen place).ok=false:=by simp only [StoreV.ok,g5,Bool.and_false,Bool.false_and]
    exact F1 e
   refine G0 ?_
   have e:(StoreV.mk ⟨secs,cache,fuse,true⟩ T gen place).ok=win place 0 30:=by simp only [StoreV.ok,g1,g2,g0,g4,g5,Bool.and_true,Bool.true_and,Bool.or_true,Bool.true_or]
   exact D1 (c_i_within _ _ _) e
def x_s_StoreOk:FnX:=⟨40,[.tmp 2],
  .q [.v 1 0,.F 2]
 (.q [.f 3 1 0,.L 4 4 3,.c 5 205 [4],.m 6 5,.y 6 (.f 7 1 0),.y 6 (.f 8 7 0),.y 6 (.l 9 8),.y 6 (.n 10 9),.y 6 (.B 11 .eql 10 62),.a 12 6 11,.m 13 12,.y 13 (.f 14 1 0),.y 13 (.f 15 14 3),.y 13 (.l 16 15),.y 13 (.m 17 16),.z 17 (.f 18 1 0),.z 17 (.f 19 18 1),.z 17 (.l 20 19),.z 17 (.n 21 20),.z 17 (.B 22 .eql 21 0),.y 13 (.r 23 17 22),.a 24 13 23,.m 25 24,.y 25 (.f 26 1 4),.y 25 (.L 27 3 26),.y 25 (.c 28 206 [27]),.a 29 25 28,.m 30 29,.y 30 (.f 31 1 7),.y 30 (.l 32 31),.y 30 (.op 33 (.call 120 [0,0,0] [(.t 32),(.i 1),(.i 60000)])),.a 34 30 33,.m 35 34,.y 35 (.f 36 1 8),.y 35 (.l 37 36),.y 35 (.op 38 (.call 120 [0,0,0] [(.t 37),(.i 0),(.i 30)])),.a 39 35 38,.m 2 39]
 .ret)⟩
theorem r_s_StoreOk {Te:TE} (c_s_DevOk:C_s_DevOk Te) (c_s_TabOk:C_s_TabOk Te) (c_s_l1In:C_s_l1In Te):C_s_StoreOk (RF Te x_s_StoreOk):=by
 intro s h
 obtain ⟨hD,hT⟩:=h
 obtain ⟨⟨secs,cache,fuse,down⟩,T,gen,place⟩:=s
 cases down
 ·skip
  refine X0 x_s_StoreOk.eq_1 ?_
  refine C0 (c_s_DevOk ⟨secs,cache,fuse,false⟩ hD) ?_
  cases g1:DevV.ok ⟨secs,cache,fuse,false⟩
  ·have e:(StoreV.mk ⟨secs,cache,fuse,false⟩ T gen place).ok=false:=by simp only [StoreV.ok,g1,Bool.false_and]
   exact F1 e
  cases g2:((secs.length:Int)==62)
  ·have e:(StoreV.mk ⟨secs,cache,fuse,false⟩ T gen place).ok=false:=by simp only [StoreV.ok,g2,Bool.and_false,Bool.false_and]
   exact F2 g2 e
  cases g0:((cache.length:Int)==0)
  ·have e:(StoreV.mk ⟨secs,cache,fuse,false⟩ T gen place).ok=false:=by simp only [StoreV.ok,g0,Bool.or_self,Bool.and_false,Bool.false_and]
   exact F3 g2 g0 e
  refine G2 g2 g0 ?_
  refine C0 (c_s_TabOk T hT) ?_
  cases g4:T.ok
  ·have e:(StoreV.mk ⟨secs,cache,fuse,false⟩ T gen place).ok=false:=by simp only [StoreV.ok,g4,Bool.and_false,Bool.false_and]
   exact F1 e
  refine G0 ?_
  refine C0 (c_s_l1In _ _ _) ?_
  cases g5:win gen 1 60000
  ·have e:(StoreV.mk ⟨secs,cache,fuse,false⟩ T gen place).ok=false:=by simp only [StoreV.ok,g5,Bool.and_false,Bool.false_and]
   exact F1 e
  refine G0 ?_
  have e:(StoreV.mk ⟨secs,cache,fuse,false⟩ T gen place).ok=win place 0 30:=by simp only [StoreV.ok,g1,g2,g0,g4,g5,Bool.and_true,Bool.true_and,Bool.or_true,Bool.true_or]
  exact D1 (c_s_l1In _ _ _) e
 ·skip
  refine X0 x_s_StoreOk.eq_1 ?_
  refine C0 (c_s_DevOk ⟨secs,cache,fuse,true⟩ hD) ?_
  cases g1:DevV.ok ⟨secs,cache,fuse,true⟩
  ·have e:(StoreV.mk ⟨secs,cache,fuse,true⟩ T gen place).ok=false:=by simp only [StoreV.ok,g1,Bool.false_and]
   exact F1 e
  cases g2:((secs.length:Int)==62)
  ·have e:(StoreV.mk ⟨secs,cache,fuse,true⟩ T gen place).ok=false:=by simp only [StoreV.ok,g2,Bool.and_false,Bool.false_and]
   exact F2 g2 e
  refine G1 g2 ?_
  refine C0 (c_s_TabOk T hT) ?_
  cases g4:T.ok
  ·have e:(StoreV.mk ⟨secs,cache,fuse,true⟩ T gen place).ok=false:=by simp only [StoreV.ok,g4,Bool.and_false,Bool.false_and]
   exact F1 e
  refine G0 ?_
  refine C0 (c_s_l1In _ _ _) ?_
  cases g5:win gen 1 60000
  ·have e:(StoreV.mk ⟨secs,cache,fuse,true⟩ T gen place).ok=false:=by simp only [StoreV.ok,g5,Bool.and_false,Bool.false_and]
   exact F1 e
  refine G0 ?_
  have e:(StoreV.mk ⟨secs,cache,fuse,true⟩ T gen place).ok=win place 0 30:=by simp only [StoreV.ok,g1,g2,g4,g5,Bool.and_true,Bool.true_and,Bool.or_true,Bool.true_or]
  exact D1 (c_s_l1In _ _ _) e
def x_i_NodeOk:FnX:=⟨11,[.tmp 2],
  .q [.v 1 0,.F 2]
 (.q [.f 3 1 0,.L 4 9 3,.c 5 89 [4],.m 6 5,.y 6 (.f 7 1 9),.y 6 (.l 8 7),.y 6 (.op 9 (.call 90 [0,0,0] [(.t 8),(.i 1),(.i 5)])),.a 10 6 9,.m 2 10]
 .ret)⟩
theorem r_i_NodeOk {Te:TE} (c_i_StoreOk:C_i_StoreOk Te) (c_i_within:C_i_within Te):C_i_NodeOk (RF Te x_i_NodeOk):=by
 intro n h
 refine run0 ?_
 simp -implicitDefEqProofs (maxSteps:=1000000) only [x_i_NodeOk,go_sem,NodeV.ok]
 repeat refine ⟨sc,?_⟩
 try exact sf
 refine C0 (c_i_StoreOk n.S h) ?_
 cases g1:n.S.ok
 ·exact F0
 ·refine G0 ?_
  exact D0 (c_i_within _ _ _)
def x_i_copyCell:FnX:=⟨10,[.cell 2 (some 2)],
  .q [.v 1 0,.op 2 (.alloc [.i 0,.nils 1])]
 (.seq (.draw [.f 3 1 0,.l 4 3,.f 5 1 1,.l 6 5,.op 7 (.bslice 1 [(.t 6)]),.c 8 100 [7],.op 9 (.build [.i 0,.nils 1] [(0,1,(.t 4)),(1,1,(.t 8))]),.s 100001 2 2 9] [[],[0],[],[2],[3],[4],[1,5],[6,5,0,1,2,3,4,5,6]])
 .ret)⟩
theorem r_i_copyCell {Te:TE} (c_i_joined:C_i_joined Te):C_i_copyCell (RF Te x_i_copyCell):=by
 intro c h
 have h0:c.B.length≤2 ^ 21:=h
 refine X0 x_i_copyCell.eq_1 ?_
 refine .of (c_i_joined [c.B] (by rw [flat1]; omega) (by show 1≤2 ^ 31; decide)) ?_
 try simp -implicitDefEqProofs (maxSteps:=1000000) only [go_sem,flat1]
 repeat refine ⟨sc,?_⟩
 try exact sf
def x_s_l8Copy:FnX:=⟨10,[.cell 2 (some 2)],
  .q [.v 1 0,.op 2 (.alloc [.i 0,.nils 1])]
 (.seq (.draw [.f 3 1 0,.l 4 3,.op 5 (.bslice 1 []),.f 6 1 1,.l 7 6,.op 8 (.app 1 1 (.t 5) (.t 7)),.op 9 (.build [.i 0,.nils 1] [(0,1,(.t 4)),(1,1,(.t 8))]),.s 100001 2 2 9] [[],[0],[],[],[3],[2,4],[1,5],[6,5,0,1,2,3,4,5,6]])
 .ret)⟩
theorem r_s_l8Copy {Te:TE}:C_s_l8Copy (RF Te x_s_l8Copy):=by
 intro c h
 refine run0 ?_
 have h0:c.B.length≤2 ^ 21:=h
 simp -implicitDefEqProofs (maxSteps:=1000000) only [x_s_l8Copy,go_sem]
 repeat refine ⟨sc,?_⟩
 try exact sf
def x_i_copyRow:FnX:=⟨12,[.cell 2 (some 7)],
  .q [.v 1 0,.op 2 (.alloc [.e,.i 0,.nils 1,.i 0,.nils 1,.i 0,.F])]
 (.seq (.draw [.f 3 1 1,.L 4 2 3,.c 5 304 [4],.f 6 1 3,.L 7 2 6,.c 8 304 [7],.f 9 1 1,.s 100001 2 9 5,.f 10 1 3,.s 100002 2 10 8] [[],[0],[1],[],[3],[4,2],[0,1,2,3,4],[6,2,5,0,1,2,3,4],[0,1,2,3,4,5,6,7],[8,5,7,0,1,2,3,4,5,6,7]])
 (.q [.L 11 7 1,.s 100003 7 2 11]
 .ret))⟩
theorem r_i_copyRow {Te:TE} (c_i_copyCell:C_i_copyCell Te):C_i_copyRow (RF Te x_i_copyRow):=by
 intro r h
 refine X0 x_i_copyRow.eq_1 ?_
 refine C0 (c_i_copyCell r.Old h.1) ?_
 exact D0 (c_i_copyCell r.New h.2)
def x_s_l9Copy:FnX:=⟨16,[.cell 2 (some 7)],
  .q [.v 1 0,.op 2 (.alloc [.e,.i 0,.nils 1,.i 0,.nils 1,.i 0,.F])]
 (.seq (.draw [.f 3 1 0,.l 4 3,.f 5 1 1,.L 6 2 5,.c 7 338 [6],.f 8 1 3,.L 9 2 8,.c 10 338 [9],.f 11 1 5,.l 12 11,.f 13 1 6,.l 14 13,.op 15 (.build [.e,.i 0,.nils 1,.i 0,.nils 1,.i 0,.F] [(0,1,(.t 4)),(1,2,(.t 7)),(3,2,(.t 10)),(5,1,(.t 12)),(6,1,(.t 14))]),.s 100001 7 2 15] [[],[0],[],[2],[3],[],[5],[6,4],[],[8],[],[10],[1,4,7,9,11],[12,7,0,1,2,3,4,5,6,7,8,9,10,11,12]])
 .ret)⟩
theorem r_s_l9Copy {Te:TE} (c_s_l8Copy:C_s_l8Copy Te):C_s_l9Copy (RF Te x_s_l9Copy):=by
 intro r h
 refine X0 x_s_l9Copy.eq_1 ?_
 refine C0 (c_s_l8Copy r.Old h.1) ?_
 exact D0 (c_s_l8Copy r.New h.2)
def x_i_flag:FnX:=⟨4,[.tmp 2],
  .q [.op 2 (.mv (.k (.one (.pv (.int .u8 0)))))]
 (.seq (.q [.m 3 0]
 (.c 3 (.q [.op 2 (.mv (.k (.one (.pv (.int .u8 1)))))]
 .ret)))
 (.q [.op 2 (.mv (.k (.one (.pv (.int .u8 0)))))]
 .ret))⟩
theorem r_i_flag {Te:TE}:C_i_flag (RF Te x_i_flag):=by
 intro b
 cases b
 ·refine X0 x_i_flag.eq_1 ?_
  try rfl
 ·refine X0 x_i_flag.eq_1 ?_
  try rfl
def x_s_l11Bit:FnX:=⟨4,[.tmp 2],
  .q [.op 2 (.mv (.k (.one (.pv (.int .u8 0)))))]
 (.seq (.q [.m 3 0]
 (.c 3 (.q [.op 2 (.mv (.k (.one (.pv (.int .u8 1)))))]
 .ret)))
 (.q [.op 2 (.mv (.k (.one (.pv (.int .u8 0)))))]
 .ret))⟩
theorem r_s_l11Bit {Te:TE}:C_s_l11Bit (RF Te x_s_l11Bit):=by
 intro b
 cases b
 ·refine X0 x_s_l11Bit.eq_1 ?_
  try rfl
 ·refine X0 x_s_l11Bit.eq_1 ?_
  try rfl
def x_i_sameRow:FnX:=⟨38,[.tmp 4],
  .q [.v 2 0,.v 3 1,.F 4]
 (.q [.f 5 2 0,.l 6 5,.f 7 3 0,.l 8 7,.b 9 .eql 6 8,.m 10 9,.y 10 (.f 11 2 1),.y 10 (.L 12 2 11),.y 10 (.f 13 3 1),.y 10 (.L 14 2 13),.y 10 (.c 15 173 [12,14]),.a 16 10 15,.m 17 16,.y 17 (.f 18 2 3),.y 17 (.L 19 2 18),.y 17 (.f 20 3 3),.y 17 (.L 21 2 20),.y 17 (.c 22 173 [19,21]),.a 23 17 22,.m 24 23,.y 24 (.f 25 2 5),.y 24 (.l 26 25),.y 24 (.f 27 3 5),.y 24 (.l 28 27),.y 24 (.b 29 .eql 26 28),.a 30 24 29,.m 31 30,.y 31 (.f 32 2 6),.y 31 (.l 33 32),.y 31 (.f 34 3 6),.y 31 (.l 35 34),.y 31 (.op 36 (.beq false (.t 33) (.t 35))),.a 37 31 36,.m 4 37]
 .ret)⟩
theorem r_i_sameRow {Te:TE} (c_i_sameCell:C_i_sameCell Te):C_i_sameRow (RF Te x_i_sameRow):=by
 intro a c
 refine run0 ?_
 simp -implicitDefEqProofs (maxSteps:=1000000) only [x_i_sameRow,go_sem,bytes_beq]
 repeat refine ⟨sc,?_⟩
 try exact sf
 cases g1:decide (a.Key=c.Key)
 ·try simp -implicitDefEqProofs (maxSteps:=1000000) only [go_sem,g1,rowSame]
  repeat refine ⟨sc,?_⟩
  try exact sf
 refine G1 g1 ?_
 have t1:=c_i_sameCell a.Old c.Old
 have t2:=c_i_sameCell a.New c.New
 rw [← cellSame] at t1 t2
 refine .of t1 ?_
 cases g2:cellSame a.Old c.Old
 ·try simp -implicitDefEqProofs (maxSteps:=1000000) only [go_sem,g1,g2,rowSame]
  repeat refine ⟨sc,?_⟩
  try exact sf
 refine G0 ?_
 refine .of t2 ?_
 cases g3:cellSame a.New c.New
 ·try simp -implicitDefEqProofs (maxSteps:=1000000) only [go_sem,g1,g2,g3,rowSame]
  repeat refine ⟨sc,?_⟩
  try exact sf
 refine G0 ?_
 cases g4:(a.Has==c.Has)
 ·try simp -implicitDefEqProofs (maxSteps:=1000000) only [go_sem,g1,g2,g3,g4,rowSame]
  repeat refine ⟨sc,?_⟩
  try exact sf
 have e9:∀ c:Bool,(c != false)=c:=fun c=>by cases c <;> rfl
 try simp -implicitDefEqProofs (maxSteps:=1000000) only [go_sem,g1,g2,g3,g4,rowSame,e9]
 repeat refine ⟨sc,?_⟩
 try exact sf
def x_s_l11NoRow:FnX:=⟨26,[.tmp 2],
  .q [.v 1 0,.F 2]
 (.q [.f 3 1 0,.l 4 3,.op 5 (.bin .eql (.t 4) (.k (.one (.pv (.string ⟨#[]⟩))))),.m 6 5,.y 6 (.f 7 1 1),.y 6 (.L 8 2 7),.y 6 (.c 9 339 [8]),.a 10 6 9,.m 11 10,.y 11 (.f 12 1 3),.y 11 (.L 13 2 12),.y 11 (.c 14 339 [13]),.a 15 11 14,.m 16 15,.y 16 (.f 17 1 5),.y 16 (.l 18 17),.y 16 (.B 19 .eql 18 0),.a 20 16 19,.m 21 20,.y 21 (.f 22 1 6),.y 21 (.l 23 22),.y 21 (.N 24 23),.a 25 21 24,.m 2 25]
 .ret)⟩
theorem r_s_l11NoRow {Te:TE} (c_s_l9None:C_s_l9None Te):C_s_l11NoRow (RF Te x_s_l11NoRow):=by
 intro r
 refine run0 ?_
 simp -implicitDefEqProofs (maxSteps:=1000000) only [x_s_l11NoRow,go_sem,bytes_beq]
 repeat refine ⟨sc,?_⟩
 try exact sf
 cases g1:decide (r.Key=⟨#[]⟩)
 ·try simp -implicitDefEqProofs (maxSteps:=1000000) only [go_sem,g1,RowV.no]
  repeat refine ⟨sc,?_⟩
  try exact sf
 refine G1 g1 ?_
 refine C0 (c_s_l9None r.Old) ?_
 cases g2:r.Old.no
 ·try simp -implicitDefEqProofs (maxSteps:=1000000) only [go_sem,g1,g2,RowV.no]
  repeat refine ⟨sc,?_⟩
  try exact sf
 refine G0 ?_
 refine C0 (c_s_l9None r.New) ?_
 cases g3:r.New.no
 ·try simp -implicitDefEqProofs (maxSteps:=1000000) only [go_sem,g1,g2,g3,RowV.no]
  repeat refine ⟨sc,?_⟩
  try exact sf
 refine G0 ?_
 cases g4:(r.Has==0)
 ·try simp -implicitDefEqProofs (maxSteps:=1000000) only [go_sem,g1,g2,g3,g4,RowV.no]
  repeat refine ⟨sc,?_⟩
  try exact sf
 try simp -implicitDefEqProofs (maxSteps:=1000000) only [go_sem,g1,g2,g3,g4,RowV.no]
 repeat refine ⟨sc,?_⟩
 try exact sf
def x_s_l12Copy:FnX:=⟨31,[.cell 2 (some 3)],
  .q [.v 1 0,.op 2 (.alloc [.nils 7,.i 0,.nils 3])]
 (.seq (.draw [.f 5 1 1,.l 6 5,.op 7 (.bslice 3 []),.f 8 1 2,.l 9 8,.op 10 (.app 3 24 (.t 7) (.t 9)),.op 11 (.build [.nils 7,.i 0,.nils 3] [(1,1,(.t 6)),(2,1,(.t 10))]),.op 3 (.alloc [.nils 7,.i 0,.nils 3]),.s 100001 3 3 11] [[],[0],[],[],[3],[2,4],[1,5],[],[7,6,5,0,1,2,3,4,5,6,7]])
 (.seq (.q [.i 4 0]
 (.up 3 0 300000 (.block 0 (.loop [1,2,3,4] (.seq (.q [.m 12 4,.f 13 1 0,.l 14 13,.n 15 14,.b 16 .lss 12 15]
 (.cond 16 .skip (.exit 0)))
 (.seq (.block 1 (.draw [.f 19 3 0,.l 20 19,.f 21 1 0,.l 22 21,.m 23 4,.x 24 7 22 23,.L 25 7 24,.c 26 288 [25],.op 27 (.bslice 7 [(.t 26)]),.op 28 (.app 7 96 (.t 20) (.t 27)),.f 29 3 0,.s 100002 1 29 28] [[],[0],[],[2],[],[3,4],[5],[6],[7],[1,8,7],[0,1,2,3,4,5,6,7,8,9],[10,9,9,0,1,2,3,4,5,6,7,8,9]]))
 (.reg [.m 17 4,.B 18 .add 17 1,.m 4 18])))))))
 (.norm [2,3] (.q [.L 30 3 3,.s 100003 3 2 30]
 .ret))))⟩
theorem r_s_l12Copy {Te:TE} (c_s_l9Copy:C_s_l9Copy Te):C_s_l12Copy (RF Te x_s_l12Copy):=by
 intro t h
 obtain ⟨⟨hR,hRl⟩,hM⟩:=h
 refine X0 x_s_l12Copy.eq_1 ?_
 refine loop_of (σ:=Nat×List RowV) (fun x=>⟨[(1,.bp 1 0),(2,.bp 2 0),(3,.bp 3 0),(4,.one (.pv (.int .i64 x.1)))],[(1,[.ro 7 (t.Rows.map (RowV.enc false)),.pv (.int .i64 t.Phase),.ro 3 (t.Marks.map MarkV.row)]),(2,[.nils 7,.pv (.int .i64 0),.nils 3]),(3,[.rf 32 0 [] 7 0 x.2.length,.pv (.int .i64 t.Phase),.rf 33 0 [] 3 0 t.Marks.length])],[(0,t.enc false),(32,[slT true 7 (RowV.enc true) x.2]),(33,[slT true 3 MarkV.row t.Marks])]⟩) (fun x=>x.1≤t.Rows.length∧x.2=t.Rows.take x.1) (fun x=>t.Rows.length - x.1) (0,[]) ?_ ⟨Nat.zero_le _,rfl⟩ ?_
 ·simp -implicitDefEqProofs (maxSteps:=1000000) only [go_sem]
  try rfl
 ·rintro ⟨i,l⟩ ⟨hi,he⟩
  simp only at hi he
  have hl:l.length=i:=by rw [he,List.length_take]; omega
  cases q:decide ((i:Int) < (t.Rows.length:Int))
  ·have k0:i=t.Rows.length:=by simp only [decide_eq_false_iff_not] at q; omega
   rw [k0,List.take_length] at he
   subst he
   exact F1 q
  ·have k1:i < t.Rows.length:=by simp only [decide_eq_true_eq] at q; omega
   have ea:=app1Rw l t.Rows[i]
   refine G2 q (List.getElem?_eq_getElem k1) ?_
   refine C1 (c_s_l9Copy t.Rows[i] (hRl _ (List.getElem_mem k1))) ea ?_
   refine ⟨(i + 1,l++[t.Rows[i]]),?_,⟨k1,by rw [he,List.take_succ_eq_append_getElem k1]⟩,by simp only; omega⟩
   rw [IntWalk.i64_in _ (by omega)]
   simp only [List.length_append]
   rfl
def x_i_copyStore:FnX:=⟨14,[.cell 2 (some 9)],
  .q [.v 1 0,.op 2 (.alloc [.nils 1,.nils 2,.i 0,.F,.nils 7,.i 0,.nils 3,.i 0,.i 0])]
 (.seq (.draw [.f 3 1 0,.L 4 4 3,.c 5 245 [4],.f 6 1 4,.L 7 3 6,.c 8 246 [7],.f 9 1 7,.l 10 9,.f 11 1 8,.l 12 11,.op 13 (.build [.nils 1,.nils 2,.i 0,.F,.nils 7,.i 0,.nils 3,.i 0,.i 0] [(0,4,(.t 5)),(4,3,(.t 8)),(7,1,(.t 10)),(8,1,(.t 12))]),.s 100001 9 2 13] [[],[0],[1],[],[3],[4,2],[],[6],[],[8],[2,5,7,9],[10,5,0,1,2,3,4,5,6,7,8,9,10]])
 .ret)⟩
theorem r_i_copyStore {Te:TE} (c_i_copyDev:C_i_copyDev Te) (c_i_copyTab:C_i_copyTab Te):C_i_copyStore (RF Te x_i_copyStore):=by
 intro s h
 refine X0 x_i_copyStore.eq_1 ?_
 refine C0 (c_i_copyDev s.D h.1) ?_
 exact D0 (c_i_copyTab s.T h.2)
def x_s_l13Copy:FnX:=⟨14,[.cell 2 (some 9)],
  .q [.v 1 0,.op 2 (.alloc [.nils 1,.nils 2,.i 0,.F,.nils 7,.i 0,.nils 3,.i 0,.i 0])]
 (.seq (.draw [.f 3 1 0,.L 4 4 3,.c 5 248 [4],.f 6 1 4,.L 7 3 6,.c 8 249 [7],.f 9 1 7,.l 10 9,.f 11 1 8,.l 12 11,.op 13 (.build [.nils 1,.nils 2,.i 0,.F,.nils 7,.i 0,.nils 3,.i 0,.i 0] [(0,4,(.t 5)),(4,3,(.t 8)),(7,1,(.t 10)),(8,1,(.t 12))]),.s 100001 9 2 13] [[],[0],[1],[],[3],[4,2],[],[6],[],[8],[2,5,7,9],[10,5,0,1,2,3,4,5,6,7,8,9,10]])
 .ret)⟩
theorem r_s_l13Copy {Te:TE} (c_s_l10Copy:C_s_l10Copy Te) (c_s_l12Copy:C_s_l12Copy Te):C_s_l13Copy (RF Te x_s_l13Copy):=by
 intro s h
 refine X0 x_s_l13Copy.eq_1 ?_
 refine C0 (c_s_l10Copy s.D h.1) ?_
 exact D0 (c_s_l12Copy s.T h.2)
def x_i_copyNode:FnX:=⟨9,[.cell 2 (some 10)],
  .q [.v 1 0,.op 2 (.alloc [.nils 1,.nils 2,.i 0,.F,.nils 7,.i 0,.nils 3,.i 0,.i 0,.i 0])]
 (.seq (.draw [.f 3 1 0,.L 4 9 3,.c 5 158 [4],.f 6 1 9,.l 7 6,.op 8 (.build [.nils 1,.nils 2,.i 0,.F,.nils 7,.i 0,.nils 3,.i 0,.i 0,.i 0] [(0,9,(.t 5)),(9,1,(.t 7))]),.s 100001 10 2 8] [[],[0],[1],[],[3],[2,4],[5,2,0,1,2,3,4,5]])
 .ret)⟩
theorem r_i_copyNode {Te:TE} (c_i_copyStore:C_i_copyStore Te):C_i_copyNode (RF Te x_i_copyNode):=by
 intro n h
 refine X0 x_i_copyNode.eq_1 ?_
 exact D0 (c_i_copyStore n.S h)
def x_s_l15Copy:FnX:=⟨9,[.cell 2 (some 10)],
  .q [.v 1 0,.op 2 (.alloc [.nils 1,.nils 2,.i 0,.F,.nils 7,.i 0,.nils 3,.i 0,.i 0,.i 0])]
 (.seq (.draw [.f 3 1 0,.L 4 9 3,.c 5 162 [4],.f 6 1 9,.l 7 6,.op 8 (.build [.nils 1,.nils 2,.i 0,.F,.nils 7,.i 0,.nils 3,.i 0,.i 0,.i 0] [(0,9,(.t 5)),(9,1,(.t 7))]),.s 100001 10 2 8] [[],[0],[1],[],[3],[2,4],[5,2,0,1,2,3,4,5]])
 .ret)⟩
theorem r_s_l15Copy {Te:TE} (c_s_l13Copy:C_s_l13Copy Te):C_s_l15Copy (RF Te x_s_l15Copy):=by
 intro n h
 refine X0 x_s_l15Copy.eq_1 ?_
 exact D0 (c_s_l13Copy n.S h)
def x_i_CellOk:FnX:=⟨12,[.tmp 2],
  .q [.v 1 0,.F 2]
 (.q [.f 3 1 0,.l 4 3,.c 5 184 [4],.m 6 5,.y 6 (.f 7 1 1),.y 6 (.l 8 7),.y 6 (.n 9 8),.y 6 (.B 10 .leq 9 20),.a 11 6 10,.m 2 11]
 .ret)⟩
theorem r_i_CellOk {Te:TE} (c_i_isSet:C_i_isSet Te):C_i_CellOk (RF Te x_i_CellOk):=by
 intro c
 refine run0 ?_
 simp -implicitDefEqProofs (maxSteps:=1000000) only [x_i_CellOk,go_sem,CellV.ok]
 repeat refine ⟨sc,?_⟩
 try exact sf
 refine C0 (c_i_isSet _) ?_
 cases g:win c.Tag 0 5
 ·exact F1 g
 ·exact F1 g
def x_i_CellText:FnX:=⟨14,[.tmp 2,.tmp 3],
  .q [.v 1 0,.op 2 (.mv (.k (.one (.pv (.string ⟨#[]⟩))))),.F 3]
 (.seq (.q [.L 4 2 1,.c 5 261 [4],.N 6 5]
 (.c 6 (.q [.op 2 (.mv (.k (.one (.pv (.string ⟨#[]⟩))))),.F 3]
 .ret)))
 (.q [.f 7 1 0,.l 8 7,.f 9 1 1,.l 10 9,.c 11 99 [8,10],.e 12 11 0,.e 13 11 1,.m 2 12,.m 3 13]
 .ret))⟩
theorem r_i_CellText {Te:TE} (c_i_CellOk:C_i_CellOk Te) (c_i_Decode:C_i_Decode Te):C_i_CellText (RF Te x_i_CellText):=by
 intro c
 refine X0 x_i_CellText.eq_1 ?_
 refine C0 (c_i_CellOk c) ?_
 cases g:c.ok
 ·have e:c.text=(⟨#[]⟩,false):=by rw [CellV.text,g]; rfl
  exact F1 e
 ·have e:c.text=decode c.Tag c.B:=by rw [CellV.text,g]; rfl
  refine G1 e ?_
  exact D1 (c_i_Decode c.Tag c.B (by have:=CellV.ok_len g; omega)) e
def x_i_SameText:FnX:=⟨28,[.tmp 4],
  .q [.v 2 0,.v 3 1,.F 4]
 (.q [.L 10 2 2,.c 11 177 [10],.m 9 11,.e 12 9 0,.e 13 9 1,.m 5 12,.m 6 13]
 (.q [.L 15 2 3,.c 16 177 [15],.m 14 16,.e 17 14 0,.e 18 14 1,.m 7 17,.m 8 18]
 (.q [.m 19 6,.m 20 19,.y 20 (.m 21 8),.a 22 20 21,.m 23 22,.y 23 (.m 24 5),.y 23 (.m 25 7),.y 23 (.b 26 .eql 24 25),.a 27 23 26,.m 4 27]
 .ret)))⟩
theorem r_i_SameText {Te:TE} (c_i_CellText:C_i_CellText Te):C_i_SameText (RF Te x_i_SameText):=by
 intro a c
 refine run0 ?_
 simp -implicitDefEqProofs (maxSteps:=1000000) only [x_i_SameText,go_sem,sameText]
 repeat refine ⟨sc,?_⟩
 try exact sf
 refine C0 (c_i_CellText a) ?_
 refine C0 (c_i_CellText c) ?_
 cases g1:a.text.2
 ·exact F1 g1
 ·cases g2:c.text.2
  ·exact F2 g1 g2
  ·try simp -implicitDefEqProofs (maxSteps:=1000000) only [go_sem,g1,g2,bytes_beq]
   repeat refine ⟨sc,?_⟩
   try exact sf
def x_s_CellOk:FnX:=⟨12,[.tmp 2],
  .q [.v 1 0,.F 2]
 (.q [.f 3 1 0,.l 4 3,.c 5 187 [4],.m 6 5,.y 6 (.f 7 1 1),.y 6 (.l 8 7),.y 6 (.n 9 8),.y 6 (.B 10 .leq 9 20),.a 11 6 10,.m 2 11]
 .ret)⟩
theorem r_s_CellOk {Te:TE} (c_s_l5Cs:C_s_l5Cs Te):C_s_CellOk (RF Te x_s_CellOk):=by
 intro c
 refine run0 ?_
 simp -implicitDefEqProofs (maxSteps:=1000000) only [x_s_CellOk,go_sem,CellV.ok]
 repeat refine ⟨sc,?_⟩
 try exact sf
 refine C0 (c_s_l5Cs _) ?_
 cases g:win c.Tag 0 5
 ·exact F1 g
 ·exact F1 g
def x_s_CellText:FnX:=⟨14,[.tmp 2,.tmp 3],
  .q [.v 1 0,.op 2 (.mv (.k (.one (.pv (.string ⟨#[]⟩))))),.F 3]
 (.seq (.q [.L 4 2 1,.c 5 286 [4],.N 6 5]
 (.c 6 (.q [.op 2 (.mv (.k (.one (.pv (.string ⟨#[]⟩))))),.F 3]
 .ret)))
 (.q [.f 7 1 0,.l 8 7,.f 9 1 1,.l 10 9,.c 11 102 [8,10],.e 12 11 0,.e 13 11 1,.m 2 12,.m 3 13]
 .ret))⟩
theorem r_s_CellText {Te:TE} (c_s_CellOk:C_s_CellOk Te) (c_s_Decode:C_s_Decode Te):C_s_CellText (RF Te x_s_CellText):=by
 intro c
 refine X0 x_s_CellText.eq_1 ?_
 refine C0 (c_s_CellOk c) ?_
 cases g:c.ok
 ·have e:c.text=(⟨#[]⟩,false):=by rw [CellV.text,g]; rfl
  exact F1 e
 ·have e:c.text=decode c.Tag c.B:=by rw [CellV.text,g]; rfl
  refine G1 e ?_
  exact D1 (c_s_Decode c.Tag c.B (by have:=CellV.ok_len g; omega)) e
def x_s_SameText:FnX:=⟨28,[.tmp 4],
  .q [.v 2 0,.v 3 1,.F 4]
 (.q [.L 10 2 2,.c 11 197 [10],.m 9 11,.e 12 9 0,.e 13 9 1,.m 5 12,.m 6 13]
 (.q [.L 15 2 3,.c 16 197 [15],.m 14 16,.e 17 14 0,.e 18 14 1,.m 7 17,.m 8 18]
 (.q [.m 19 6,.m 20 19,.y 20 (.m 21 8),.a 22 20 21,.m 23 22,.y 23 (.m 24 5),.y 23 (.m 25 7),.y 23 (.b 26 .eql 24 25),.a 27 23 26,.m 4 27]
 .ret)))⟩
theorem r_s_SameText {Te:TE} (c_s_CellText:C_s_CellText Te):C_s_SameText (RF Te x_s_SameText):=by
 intro a c
 refine run0 ?_
 simp -implicitDefEqProofs (maxSteps:=1000000) only [x_s_SameText,go_sem,sameText]
 repeat refine ⟨sc,?_⟩
 try exact sf
 refine C0 (c_s_CellText a) ?_
 refine C0 (c_s_CellText c) ?_
 cases g1:a.text.2
 ·exact F1 g1
 ·cases g2:c.text.2
  ·exact F2 g1 g2
  ·try simp -implicitDefEqProofs (maxSteps:=1000000) only [go_sem,g1,g2,bytes_beq]
   repeat refine ⟨sc,?_⟩
   try exact sf
def x_i_sameCell:FnX:=⟨19,[.tmp 4],
  .q [.v 2 0,.v 3 1,.F 4]
 (.q [.f 5 2 0,.l 6 5,.f 7 3 0,.l 8 7,.b 9 .eql 6 8,.m 10 9,.y 10 (.f 11 2 1),.y 10 (.l 12 11),.y 10 (.op 13 (.conv .b2s (.t 12))),.y 10 (.f 14 3 1),.y 10 (.l 15 14),.y 10 (.op 16 (.conv .b2s (.t 15))),.y 10 (.b 17 .eql 13 16),.a 18 10 17,.m 4 18]
 .ret)⟩
theorem r_i_sameCell {Te:TE}:C_i_sameCell (RF Te x_i_sameCell):=by
 intro a c
 refine run0 ?_
 cases g:(a.Tag==c.Tag)
 ·simp -implicitDefEqProofs (maxSteps:=1000000) only [x_i_sameCell,go_sem,g]
  repeat refine ⟨sc,?_⟩
  try exact sf
 ·have ea:=areBytes_uR a.B
  have ec:=areBytes_uR c.B
  have fa:=bytesOf_uR a.B
  have fc:=bytesOf_uR c.B
  simp -implicitDefEqProofs (maxSteps:=1000000) only [x_i_sameCell,go_sem,g,ea,ec,fa,fc,bytes_beq,bytes_lists]
  repeat refine ⟨sc,?_⟩
  try exact sf
def x_s_l9None:FnX:=⟨12,[.tmp 2],
  .q [.v 1 0,.F 2]
 (.q [.f 3 1 0,.l 4 3,.B 5 .eql 4 0,.m 6 5,.y 6 (.f 7 1 1),.y 6 (.l 8 7),.y 6 (.n 9 8),.y 6 (.B 10 .eql 9 0),.a 11 6 10,.m 2 11]
 .ret)⟩
theorem r_s_l9None {Te:TE}:C_s_l9None (RF Te x_s_l9None):=by
 intro c
 refine run0 ?_
 cases g:(c.Tag==0)
 ·simp -implicitDefEqProofs (maxSteps:=1000000) only [x_s_l9None,go_sem,CellV.no,g]
  repeat refine ⟨sc,?_⟩
  try exact sf
 ·simp -implicitDefEqProofs (maxSteps:=1000000) only [x_s_l9None,go_sem,CellV.no,g,none_len]
  repeat refine ⟨sc,?_⟩
  try exact sf
def x_i_NameOk:FnX:=⟨27,[.tmp 2],
  .q [.F 2]
 (.seq (.q [.i 3 0]
 (.block 0 (.loop [0,3] (.seq (.q [.m 4 3,.m 5 0,.op 6 (.slen (.t 5)),.b 7 .lss 4 6]
 (.cond 7 .skip (.exit 0)))
 (.seq (.block 1 (.q [.m 10 0,.m 11 3,.op 12 (.sidx (.t 10) (.t 11)),.op 13 (.conv (.int .i64) (.t 12)),.op 14 (.call 90 [0,0,0] [(.t 13),(.i 97),(.i 122)]),.N 15 14,.m 16 15,.y 16 (.m 17 0),.y 16 (.m 18 3),.y 16 (.op 19 (.sidx (.t 17) (.t 18))),.y 16 (.op 20 (.conv (.int .i64) (.t 19))),.y 16 (.op 21 (.call 90 [0,0,0] [(.t 20),(.i 48),(.i 57)])),.y 16 (.N 22 21),.a 23 16 22]
 (.c 23 (.q [.F 2]
 .ret))))
 (.reg [.m 8 3,.B 9 .add 8 1,.m 3 9]))))))
 (.norm [0] (.q [.m 24 0,.op 25 (.slen (.t 24)),.op 26 (.call 90 [0,0,0] [(.t 25),(.i 1),(.i 6)]),.m 2 26]
 .ret)))⟩
theorem r_i_NameOk {Te:TE} (c_i_within:C_i_within Te):C_i_NameOk (RF Te x_i_NameOk):=by
 intro s h
 refine run0 ?_
 have hsz:s.data.toList.length=s.size:=by rw [Array.length_toList]; rfl
 simp -implicitDefEqProofs (maxSteps:=1000000) only [x_i_NameOk,go_sem,nameOk]
 repeat refine ⟨sc,?_⟩
 try exact sf
 refine loop_of (σ:=Nat) (fun i=>⟨[(0,.one (.pv (.string s))),(3,.one (.pv (.int .i64 i)))],[],[(0,[sT s])]⟩) (fun i=>i≤s.size∧(s.data.toList.take i).all nameCh=true) (fun i=>s.size - i) 0 ?_ ⟨Nat.zero_le _,rfl⟩ ?_
 ·simp -implicitDefEqProofs (maxSteps:=1000000) only [go_sem]; rfl
 ·rintro i ⟨hi,hp⟩
  cases q:decide ((i:Int) < (s.size:Int))
  ·have e:=all_end (p:=nameCh) (show s.data.toList.length≤i by simp only [decide_eq_false_iff_not] at q; omega) hp
   refine G1 q ?_
   exact D1 (c_i_within _ _ _) e
  ·have hi':i < s.size:=by simp only [decide_eq_true_eq] at q; omega
   have hi2:i < s.data.toList.length:=by omega
   have q1:decide (i < s.size)=true:=decide_eq_true hi'
   have eg:s.data.toList.getD i 0=s.data.toList[i]:=by rw [List.getD_eq_getElem?_getD,List.getElem?_eq_getElem hi2]; rfl
   have hb:=s.data.toList[i].toNat_lt
   have w1:IntKind.i64.wrap ((s.data.toList[i].toNat:Nat):Int)=(s.data.toList[i].toNat:Nat):=IntWalk.i64_in _ (by omega)
   refine G4 q q1 eg w1 ?_
   refine C0 (c_i_within _ _ _) ?_
   cases g1:win ((s.data.toList[i].toNat:Nat):Int) 97 122
   ·refine G3 q1 eg w1 ?_
    refine C0 (c_i_within _ _ _) ?_
    cases g2:win ((s.data.toList[i].toNat:Nat):Int) 48 57
    ·have e:=all_not (p:=nameCh) hi2 (by simp only [nameCh,g1,g2,Bool.or_false])
     exact F1 e
    ·refine G0 ?_
     refine ⟨i + 1,by rw [IntWalk.i64_in _ (by omega)]; rfl,⟨hi',all_step (p:=nameCh) hi2 hp (by simp only [nameCh,g1,g2,Bool.or_true])⟩,by omega⟩
   ·refine G0 ?_
    refine ⟨i + 1,by rw [IntWalk.i64_in _ (by omega)]; rfl,⟨hi',all_step (p:=nameCh) hi2 hp (by simp only [nameCh,g1,Bool.true_or])⟩,by omega⟩
def x_s_l10Flush:FnX:=⟨46,[],
  .seq (.q [.m 3 0,.op 4 (.nilc (.t 3)),.f 5 4 3,.l 6 5,.m 7 6,.z 7 (.m 8 0),.z 7 (.op 9 (.call 281 [6] [(.t 8)])),.z 7 (.N 10 9),.r 11 7 10]
 (.c 11 .ret))
 (.seq (.q [.i 2 0]
 (.block 0 (.loop [0,2] (.seq (.q [.m 12 2,.m 13 0,.op 14 (.nilc (.t 13)),.f 15 14 1,.l 16 15,.n 17 16,.b 18 .lss 12 17]
 (.cond 18 .skip (.exit 0)))
 (.seq (.block 1 (.draw [.m 21 0,.op 22 (.nilc (.t 21)),.f 23 22 0,.l 24 23,.m 25 0,.op 26 (.nilc (.t 25)),.f 27 26 1,.l 28 27,.m 29 2,.x 30 2 28 29,.f 31 30 0,.l 32 31,.m 33 0,.op 34 (.nilc (.t 33)),.f 35 34 1,.l 36 35,.m 37 2,.x 38 2 36 37,.f 39 38 1,.l 40 39,.x 41 1 24 32,.s 100001 1 41 40] [[],[0],[1],[2],[],[4],[5],[6],[],[7,8],[9],[10],[],[12],[13],[14],[],[15,16],[17],[18],[3,11,0,1,2,3,4,5,6,7,8,9,10,11,12,13,14,15,16,17,18,19],[20,19,0,1,2,3,4,5,6,7,8,9,10,11,12,13,14,15,16,17,18,19]]))
 (.reg [.m 19 2,.B 20 .add 19 1,.m 2 20]))))))
 (.norm [0] (.reg [.m 42 0,.op 43 (.bslice 2 []),.op 44 (.nilc (.t 42)),.f 45 44 1,.s 100002 1 45 43])))⟩
theorem r_s_l10Flush {Te:TE} (c_s_l10Op:C_s_l10Op Te):C_s_l10Flush (RF Te x_s_l10Flush):=by
 intro d hd hidx
 refine X0 x_s_l10Flush.eq_1 ?_
 cases g1:d.Down
 rotate_left
 ·have e:d.flush=d:=by rw [DevV.flush,if_pos g1]
  try simp -implicitDefEqProofs (maxSteps:=1000000) only [go_sem,g1,e,take_all,DevV.enc]
  repeat refine ⟨sc,?_⟩
  try exact sf
  try rfl
 have e:=show d.flush=if d.Fuse=0 then d.burn else ⟨flushed d.Secs d.Cache,[],d.burn.Fuse,d.burn.Down⟩ from if_neg (by rw [g1]; decide)
 refine G1 g1 ?_
 have tb:=c_s_l10Op d
 simp only [DevV.enc,g1] at tb
 have bc:=burn_cache d
 have bs:=burn_secs d
 cases g6:(d.Fuse==0)
 rotate_left
 ·have g7:d.Fuse=0:=by simpa using g6
  rw [if_pos g7] at e
  refine .of (tb) ?_
  try simp -implicitDefEqProofs (maxSteps:=1000000) only [go_sem,g6,take_all,e,g1,DevV.enc]
  repeat refine ⟨sc,?_⟩
  try exact sf
  try rfl
 have g7:¬ d.Fuse=0:=by simpa using g6
 rw [if_neg g7] at e
 refine C1 (tb) g6 ?_
 refine loop_of (σ:=Nat×List (List UInt8)) (fun x=>⟨[(0,.bp 0 0),(2,.one (.pv (.int .i64 x.1)))],[(0,[.rf 47 1 [] 1 0 d.Secs.length,.rf 47 2 [] 2 0 d.Cache.length,.pv (.int .i64 d.burn.Fuse),.pv (.bool d.burn.Down)])],[(0,[.no (),.no (),iT d.Fuse,bT false]),(47,[bT true,slT true 1 (secR true) x.2,Tr.sl true 2 () (mvRows d.Cache x.1),iT d.burn.Fuse,bT d.burn.Down])]⟩) (fun x=>x.1≤d.Cache.length∧x.2=flushed d.Secs (d.Cache.take x.1)) (fun x=>d.Cache.length - x.1) (0,d.Secs) ?_ ⟨Nat.zero_le _,rfl⟩ ?_
 ·simp -implicitDefEqProofs (maxSteps:=1000000) only [go_sem,bs,bc]
  try rfl
 ·rintro ⟨i,S⟩ ⟨hi,he⟩
  simp only at hi he
  have hl:S.length=d.Secs.length:=by rw [he,flushed_len]
  have hl2:(List.map (secR true) S).length=d.Secs.length:=by rw [List.length_map,hl]
  cases q:decide ((i:Int) < (d.Cache.length:Int))
  ·have k0:i=d.Cache.length:=by simp only [decide_eq_false_iff_not] at q; omega
   rw [k0,List.take_length] at he
   have et:List.take d.Secs.length (List.map (secR true) S)=List.map (secR true) S:=List.take_of_length_le (by omega)
   rw [← he] at e
   exact F3 q et e
  ·have k1:i < d.Cache.length:=by simp only [decide_eq_true_eq] at q; omega
   have hw:=hidx _ (List.getElem_mem k1)
   have g8:decide (0≤d.Cache[i].N)=true:=decide_eq_true hw.1
   have hn:d.Cache[i].N.toNat < S.length:=by omega
   have em:=mv_get k1
   have ec:(mvRows d.Cache i).getD i []=d.Cache[i].enc true:=by rw [List.getD_eq_getElem?_getD,em]; rfl
   have ex:=mv_set k1
   have eg:=getS hn
   have es:=setS S d.Cache[i].N.toNat d.Cache[i].B
   try simp -implicitDefEqProofs (maxSteps:=1000000) only [go_sem,q,em,ec,ex,mv_len,take_rows,g8,storeAp,setCells,eg,es,hl2]
   repeat refine ⟨sc,?_⟩
   try exact sf
   refine ⟨(i + 1,S.set d.Cache[i].N.toNat d.Cache[i].B),?_,⟨k1,by rw [he,flushed_step k1]⟩,by simp only; omega⟩
   rw [IntWalk.i64_in _ (by omega)]
   rfl
def x_i_GetSign:FnX:=⟨35,[.tmp 4,.tmp 5,.tmp 6],
  .q [.i 4 0,.i 5 0,.F 6]
 (.seq (.q [.m 9 1,.B 10 .lss 9 0,.m 11 10,.z 11 (.m 12 1),.z 11 (.m 13 0),.z 11 (.n 14 13),.z 11 (.b 15 .geq 12 14),.r 16 11 15]
 (.c 16 (.q [.i 4 0,.i 5 0,.F 6]
 .ret)))
 (.q [.m 18 0,.m 19 1,.op 20 (.slice 1 (.t 18) (some (.t 19)) none),.c 21 323 [20],.m 17 21,.e 22 17 0,.e 23 17 1,.m 7 22,.m 8 23]
 (.seq (.q [.m 24 7,.op 25 (.bin .eql (.t 24) (.k (.one (.pv (.int .i32 65533))))),.m 26 25,.y 26 (.m 27 8),.y 26 (.B 28 .lss 27 2),.a 29 26 28]
 (.c 29 (.q [.i 4 0,.i 5 0,.F 6]
 .ret)))
 (.q [.m 30 7,.op 31 (.conv (.int .i64) (.t 30)),.m 32 1,.m 33 8,.b 34 .add 32 33,.m 4 31,.m 5 34,.T 6]
 .ret))))⟩
theorem r_i_GetSign {Te:TE} (c_u_DecodeRune:C_u_DecodeRune Te):C_i_GetSign (RF Te x_i_GetSign):=by
 intro b i hb
 refine run0 ?_
 cases q1:decide (i < 0)
 ·cases q2:decide (i≥b.length)
  ·have hi:0≤i∧i < b.length:=by simp only [decide_eq_false_iff_not] at q1 q2; omega
   have hne:b.drop i.toNat≠[]:=by
    intro e
    have:=congrArg List.length e
    rw [List.length_drop] at this
    simp only [List.length_nil] at this
    omega
   simp -implicitDefEqProofs (maxSteps:=1000000) only [x_i_GetSign,go_sem,q1,q2,drop_map_take]
   repeat refine ⟨sc,?_⟩
   try exact sf
   refine C0 (c_u_DecodeRune (b.drop i.toNat) hne) ?_
   have hw:=Lib.decodeL_width (b.drop i.toNat)
   have hc:=decodeL_bound (b.drop i.toNat)
   have hl:=Lib.decodeL_le (b.drop i.toNat) hne
   have hld:(b.drop i.toNat).length≤b.length:=by rw [List.length_drop]; omega
   by_cases hd:(Lib.decodeL (b.drop i.toNat)).1=65533∧(Lib.decodeL (b.drop i.toNat)).2=1
   ·have e1:((((Lib.decodeL (b.drop i.toNat)).1:Nat):Int)==65533)=true:=by rw [hd.1]; rfl
    have e2:decide ((((Lib.decodeL (b.drop i.toNat)).2:Nat):Int) < 2)=true:=by rw [hd.2]; rfl
    have e:=getSign_bad hi (show signAt _=none from if_pos hd)
    exact F3 e1 e2 e
   ·have e:=getSign_good hi (show signAt _=some _ from if_neg hd)
    have w1:IntKind.i64.wrap (((Lib.decodeL (b.drop i.toNat)).1:Nat):Int)=((Lib.decodeL (b.drop i.toNat)).1:Nat):=IntWalk.i64_in _ (by omega)
    have w2:IntKind.i64.wrap (i + (((Lib.decodeL (b.drop i.toNat)).2:Nat):Int))=i + ((Lib.decodeL (b.drop i.toNat)).2:Nat):=IntWalk.i64_in _ (by omega)
    cases e1:((((Lib.decodeL (b.drop i.toNat)).1:Nat):Int)==65533)
    ·exact F4 e1 e w1 w2
    ·have e2:decide ((((Lib.decodeL (b.drop i.toNat)).2:Nat):Int) < 2)=false:=by
      refine decide_eq_false fun q=>hd ⟨?_,by omega⟩
      have:=eq_of_beq e1
      omega
     try simp -implicitDefEqProofs (maxSteps:=1000000) only [go_sem,e1,e2,e,w1,w2]
     repeat refine ⟨sc,?_⟩
     try exact sf
  ·have e:=getSign_no (b:=b) (i:=i) (by simp only [decide_eq_true_eq] at q2; omega)
   simp -implicitDefEqProofs (maxSteps:=1000000) only [x_i_GetSign,go_sem,q1,q2,e]
   repeat refine ⟨sc,?_⟩
   try exact sf
 ·have e:=getSign_no (b:=b) (i:=i) (by simp only [decide_eq_true_eq] at q1; omega)
  simp -implicitDefEqProofs (maxSteps:=1000000) only [x_i_GetSign,go_sem,q1,e]
  repeat refine ⟨sc,?_⟩
  try exact sf
def x_i_Signs:FnX:=⟨22,[.tmp 2,.tmp 3],
  .q [.op 2 (.mv (.k (.one (.nils 1)))),.F 3]
 (.seq (.q [.m 7 0,.c 8 369 [7],.N 9 8]
 (.c 9 (.q [.op 2 (.mv (.k (.one (.nils 1)))),.F 3]
 .ret)))
 (.q [.op 10 (.bslice 1 []),.m 4 10]
 (.seq (.rng 0 0 11 12 13 14 [4,12] (.block 1 (.q [.e 15 13 2,.m 6 15]
 (.reg [.m 16 4,.m 17 6,.op 18 (.conv (.int .i64) (.t 17)),.op 19 (.bslice 1 [(.t 18)]),.op 20 (.app 1 8 (.t 16) (.t 19)),.m 4 20]))))
 (.norm [4] (.q [.m 21 4,.m 2 21,.T 3]
 .ret)))))⟩
theorem r_i_Signs {Te:TE} (c_u_ValidString:C_u_ValidString Te):C_i_Signs (RF Te x_i_Signs):=by
 intro s hs
 refine X0 x_i_Signs.eq_1 ?_
 refine .of (c_u_ValidString s (Nat.le_trans hs (by decide))) ?_
 cases hv:Lib.validD s.data.toList
 ·try simp -implicitDefEqProofs (maxSteps:=1000000) only [go_sem,signsOf,hv,if_false]
  repeat refine ⟨sc,?_⟩
  try exact sf
  try rfl
 ·have e:signsOf s=(signs s.data.toList,true):=by simp only [signsOf,hv,if_true]
  simp -implicitDefEqProofs (maxSteps:=1000000) only [go_sem,true_implies,false_implies,e]
  refine rng_of (σ:=List Int) s (fun r acc=>⟨[(4,.one (.rf 23 0 [] 1 0 acc.length)),(12,itV r)],[],[(0,[sT s]),(23,[.sl true 1 () (acc.map iR)])]⟩) (fun p acc=>p≤s.size∧acc.length≤p∧acc++signs (s.data.toList.drop p)=signs s.data.toList) [] ?_ ?_ ?_ ⟨Nat.zero_le _,Nat.le_refl _,by simp⟩ ?_ ?_ ?_
  ·rfl
  ·rfl
  ·intro r
   simp -implicitDefEqProofs (maxSteps:=1000000) only [rngIn_mk,go_sem]
   try rfl
  ·intro r y
   exact ⟨rfl,rfl⟩
  ·rintro r p acc ⟨hp,hl,ha⟩ hlt
   have hne:s.data.toList.drop p≠[]:=by
    intro e
    have:=congrArg List.length e
    rw [List.length_drop,sizeL] at this
    simp only [List.length_nil] at this
    omega
   have ed:=Lib.decodeL_drop s p
   have hw:=Lib.decodeL_width (s.data.toList.drop p)
   have hc:=decodeL_bound (s.data.toList.drop p)
   have hle:=Lib.decodeL_le _ hne
   rw [List.length_drop,sizeL] at hle
   rw [signs_step hne,List.drop_drop] at ha
   rw [← ed]
   generalize Lib.decodeL (s.data.toList.drop p)=d at hw hc hle ha
   have w:IntKind.i64.wrap ((d.1:Nat):Int)=(d.1:Nat):=IntWalk.i64_in _ (by omega)
   have ea:List.take acc.length (List.map iR acc)=List.map iR acc:=take_map iR acc
   try simp -implicitDefEqProofs (maxSteps:=1000000) only [go_sem,rngOn_mk,w,ea]
   repeat refine ⟨sc,?_⟩
   try exact sf
   refine ⟨acc++[((d.1:Nat):Int)],?_,by omega,by simp; omega,by rw [← ha]; simp [Nat.add_comm]⟩
   rw [show List.map iR acc++[[Tr.pv (Value.int .i64 ((d.1:Nat):Int))]]=List.map iR (acc++[((d.1:Nat):Int)]) by simp]
   simp
  ·rintro r p acc ⟨hp,hl,ha⟩ hge
   have hd:s.data.toList.drop p=[]:=List.drop_eq_nil_of_le (by rw [sizeL]; exact hge)
   rw [hd,signs_nil,List.append_nil] at ha
   subst ha
   try simp -implicitDefEqProofs (maxSteps:=1000000) only [go_sem,rngOff_mk]
   repeat refine ⟨sc,?_⟩
   try exact sf
def x_i_Apply1:FnX:=⟨9,[.tmp 3],
  .q [.v 2 0,.F 3]
 (.q [.f 4 2 0,.l 5 4,.f 6 1 8,.l 7 6,.b 8 .eql 5 7,.m 3 8]
 .ret)⟩
theorem r_i_Apply1 {Te:TE}:C_i_Apply1 (RF Te x_i_Apply1):=by
 intro x r
 refine run0 ?_
 simp -implicitDefEqProofs (maxSteps:=1000000) only [x_i_Apply1,go_sem]
 repeat refine ⟨sc,?_⟩
 try exact sf
def x_z_IndexFuncimplApply1:FnX:=⟨19,[.tmp 4],
  .q [.i 4 0]
 (.seq (.q [.m 6 0,.n 7 6,.i 8 0]
 (.block 0 (.loop [0,1,7,8] (.q [.b 9 .lss 8 7]
 (.seq (.cond 9 .skip (.exit 0))
 (.seq (.block 1 (.q [.m 10 8,.m 5 10]
 (.q [.m 11 1,.m 12 0,.m 13 5,.x 14 7 12 13,.L 15 7 14,.op 16 (.dcall 309 [0,15] [(.t 15)] (.t 11))]
 (.c 16 (.q [.m 17 5,.m 4 17]
 .ret)))))
 (.reg [.B 18 .add 8 1,.m 8 18])))))))
 (.norm [] (.q [.i 4 (-1)]
 .ret)))⟩
theorem r_z_IndexFuncimplApply1 {Te:TE} (c_i_Apply1:C_i_Apply1 Te):C_z_IndexFuncimplApply1 (RFV Te 309 x_z_IndexFuncimplApply1):=by
 intro l r hl
 refine run0V ?_
 simp -implicitDefEqProofs (maxSteps:=1000000) only [x_z_IndexFuncimplApply1,go_sem]
 repeat refine ⟨sc,?_⟩
 try exact sf
 refine loop_of (σ:=Nat) (fun i=>⟨[(0,.one (.ro 7 (l.map (RowV.enc false)))),(1,.fn 309 1 0),(7,.one (.pv (.int .i64 l.length))),(8,.one (.pv (.int .i64 i)))],[(1,[.pv (.int .i64 r.Kind),.pv (.string r.R.Key),.pv (.int .i64 r.R.Old.Tag),.dead,.pv (.int .i64 r.R.New.Tag),.dead,.pv (.int .i64 r.R.Has),.pv (.bool r.R.Aside),.pv (.string r.Key),.pv (.int .i64 r.N),.pv (.int .i64 r.Who),.pv (.int .i64 r.Seq),.pv (.int .i64 r.Code)])],[(0,[slT false 7 (RowV.enc false) l]),(1,r.dim)]⟩) (fun i=>i≤l.length∧∀ j (hj:j < l.length),j < i→decide (l[j].Key=r.Key)=false) (fun i=>l.length - i) 0 ?_ ⟨Nat.zero_le _,fun j _ h=>absurd h (Nat.not_lt_zero _)⟩ ?_
 ·simp -implicitDefEqProofs (maxSteps:=1000000) only [go_sem]
  try rfl
 ·rintro i ⟨hi,hp⟩
  cases q:decide ((i:Int) < (l.length:Int))
  ·have e:=rowAt_none (i:=i) (by simp only [decide_eq_false_iff_not] at q; omega) hp
   exact F2 q e
  ·have k1:i < l.length:=by simp only [decide_eq_true_eq] at q; omega
   refine G2 q (List.getElem?_eq_getElem k1) ?_
   refine C0 (c_i_Apply1 l[i] r) ?_
   cases g:decide (l[i].Key=r.Key)
   ·refine G1 g ?_
    refine ⟨i + 1,?_,⟨k1,rowAt_step k1 hp g⟩,by omega⟩
    rw [IntWalk.i64_in _ (by omega)]
    rfl
   ·have e:=(rowAt_hit k1 hp g).1
    exact F2 g e
end Go.X

