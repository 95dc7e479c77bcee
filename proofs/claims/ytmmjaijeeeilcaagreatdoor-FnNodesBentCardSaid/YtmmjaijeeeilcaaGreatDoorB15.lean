/- Texts: CW_FnNodesBent. -/
import Derived.Test.YtmmjaijeeeilcaaGreatDoorB04
set_option linter.unusedVariables false
set_option linter.unusedSimpArgs false
namespace Go.X
set_option maxRecDepth 100000
set_option maxHeartbeats 8000000
def x_l_FnNodesBent:FnX:=⟨281,[.tmp 2],
  .q [.F 2]
 (.seq (.q [.m 55 0,.c 56 9 [55]]
 (.c 56 (.q [.T 2]
 .ret)))
 (.q [.m 58 0,.c 59 27 [58],.m 57 59,.e 60 57 0,.e 61 57 1,.e 62 57 2,.op 3 (.alloc [.nils 1,.nils 2,.i 0,.F,.nils 7,.i 0,.nils 3,.i 0,.i 0,.i 0]),.s 100001 10 3 60,.m 4 61,.m 5 62]
 (.q [.L 64 10 3,.m 65 4,.m 66 5,.c 67 28 [64,65,66],.m 63 67,.e 68 63 0,.e 69 63 1,.op 6 (.alloc [.nils 1,.nils 2,.i 0,.F,.nils 7,.i 0,.nils 3,.i 0,.i 0,.i 0]),.s 100002 10 6 68,.m 7 69]
 (.q [.L 71 10 3,.m 72 4,.m 73 5,.c 74 29 [71,72,73],.m 70 74,.e 75 70 0,.e 76 70 1,.op 8 (.alloc [.nils 1,.nils 2,.i 0,.F,.nils 7,.i 0,.nils 3,.i 0,.i 0,.i 0]),.s 100003 10 8 75,.m 9 76]
 (.q [.m 78 0,.c 79 30 [78],.m 77 79,.e 80 77 0,.e 81 77 1,.op 10 (.alloc [.nils 1,.nils 2,.i 0,.F,.nils 7,.i 0,.nils 3,.i 0,.i 0,.i 0]),.s 100004 10 10 80,.m 11 81]
 (.q [.L 83 10 10,.m 84 11,.c 85 22 [83,84],.m 82 85,.e 86 82 0,.e 87 82 1,.m 12 86,.m 13 87]
 (.q [.L 89 10 10,.m 90 11,.c 91 31 [89,90],.m 88 91,.e 92 88 0,.e 93 88 1,.m 14 92,.m 15 93]
 (.q [.m 95 0,.c 96 32 [95],.m 94 96,.e 97 94 0,.e 98 94 1,.e 99 94 2,.e 100 94 3,.e 101 94 4,.op 16 (.alloc [.nils 1,.nils 2,.i 0,.F,.nils 7,.i 0,.nils 3,.i 0,.i 0,.i 0]),.s 100005 10 16 97,.m 17 98,.m 18 99,.m 19 100,.m 20 101]
 (.q [.L 103 10 16,.m 104 17,.m 105 18,.m 106 19,.m 107 20,.c 108 25 [103,104,105,106,107],.m 102 108,.e 109 102 0,.e 110 102 1,.e 111 102 2,.op 21 (.alloc [.nils 1,.nils 2,.i 0,.F,.nils 7,.i 0,.nils 3,.i 0,.i 0,.i 0]),.s 100006 10 21 109,.m 22 110,.m 23 111]
 (.q [.L 113 10 16,.m 114 17,.m 115 18,.m 116 19,.m 117 20,.c 118 33 [113,114,115,116,117],.m 112 118,.e 119 112 0,.e 120 112 1,.e 121 112 2,.op 24 (.alloc [.nils 1,.nils 2,.i 0,.F,.nils 7,.i 0,.nils 3,.i 0,.i 0,.i 0]),.s 100007 10 24 119,.m 25 120,.m 26 121]
 (.q [.m 123 0,.c 124 34 [123],.m 122 124,.e 125 122 0,.e 126 122 1,.e 127 122 2,.e 128 122 3,.op 27 (.alloc [.nils 1,.nils 2,.i 0,.F,.nils 7,.i 0,.nils 3,.i 0,.i 0,.i 0]),.s 100008 10 27 125,.m 28 126,.m 29 127,.m 30 128]
 (.q [.L 130 10 27,.m 131 28,.m 132 29,.m 133 30,.c 134 26 [130,131,132,133],.m 129 134,.e 135 129 0,.e 136 129 1,.e 137 129 2,.op 31 (.alloc [.nils 1,.nils 2,.i 0,.F,.nils 7,.i 0,.nils 3,.i 0,.i 0,.i 0]),.s 100009 10 31 135,.m 32 136,.m 33 137]
 (.q [.L 139 10 27,.m 140 28,.m 141 29,.m 142 30,.c 143 35 [139,140,141,142],.m 138 143,.e 144 138 0,.e 145 138 1,.e 146 138 2,.op 34 (.alloc [.nils 1,.nils 2,.i 0,.F,.nils 7,.i 0,.nils 3,.i 0,.i 0,.i 0]),.s 100010 10 34 144,.m 35 145,.m 36 146]
 (.q [.m 148 0,.c 149 36 [148],.m 147 149,.e 150 147 0,.e 151 147 1,.op 37 (.alloc [.nils 1,.nils 2,.i 0,.F,.nils 7,.i 0,.nils 3,.i 0,.i 0,.i 0]),.s 100011 10 37 150,.m 38 151]
 (.q [.L 153 10 37,.m 154 38,.c 155 37 [153,154],.m 152 155,.e 156 152 0,.e 157 152 1,.op 39 (.alloc [.nils 1,.nils 2,.i 0,.F,.nils 7,.i 0,.nils 3,.i 0,.i 0,.i 0]),.s 100012 10 39 156,.m 40 157]
 (.q [.L 159 10 37,.m 160 38,.c 161 38 [159,160],.m 158 161,.e 162 158 0,.e 163 158 1,.op 41 (.alloc [.nils 1,.nils 2,.i 0,.F,.nils 7,.i 0,.nils 3,.i 0,.i 0,.i 0]),.s 100013 10 41 162,.m 42 163]
 (.q [.m 165 0,.c 166 39 [165],.m 164 166,.e 167 164 0,.e 168 164 1,.op 43 (.alloc [.nils 1,.nils 2,.i 0,.F,.nils 7,.i 0,.nils 3,.i 0,.i 0,.i 0]),.s 100014 10 43 167,.m 44 168]
 (.q [.L 170 10 43,.m 171 44,.c 172 20 [170,171],.m 169 172,.e 173 169 0,.e 174 169 1,.e 175 169 2,.e 176 169 3,.op 45 (.alloc [.nils 1,.nils 2,.i 0,.F,.nils 7,.i 0,.nils 3,.i 0,.i 0,.i 0]),.s 100015 10 45 173,.m 46 174,.m 47 175,.m 48 176]
 (.q [.L 178 10 43,.m 179 44,.c 180 40 [178,179],.m 177 180,.e 181 177 0,.e 182 177 1,.e 183 177 2,.e 184 177 3,.op 49 (.alloc [.nils 1,.nils 2,.i 0,.F,.nils 7,.i 0,.nils 3,.i 0,.i 0,.i 0]),.s 100016 10 49 181,.m 50 182,.m 51 183,.m 52 184]
 (.q [.m 185 0,.c 186 41 [185],.op 53 (.alloc [.nils 1,.nils 2,.i 0,.F,.nils 7,.i 0,.nils 3,.i 0,.i 0,.i 0]),.s 100017 10 53 186]
 (.q [.m 187 0,.c 188 42 [187],.m 54 188]
 (.seq (.draw [.L 189 10 6,.L 190 10 8,.c 191 14 [189,190],.m 192 191,.y 192 (.m 193 7),.y 192 (.m 194 9),.y 192 (.b 195 .eql 193 194),.a 196 192 195,.m 197 196,.y 197 (.m 198 12),.y 197 (.m 199 14),.y 197 (.b 200 .eql 198 199),.a 201 197 200,.m 202 201,.y 202 (.m 203 13),.y 202 (.m 204 15),.y 202 (.b 205 .eql 203 204),.a 206 202 205,.m 207 206,.y 207 (.L 208 10 21),.y 207 (.L 209 10 24),.y 207 (.c 210 14 [208,209]),.a 211 207 210,.m 212 211,.y 212 (.m 213 22),.y 212 (.m 214 25),.y 212 (.b 215 .eql 213 214),.a 216 212 215,.m 217 216,.y 217 (.m 218 23),.y 217 (.m 219 26),.y 217 (.op 220 (.beq false (.t 218) (.t 219))),.a 221 217 220,.m 222 221,.y 222 (.L 223 10 31),.y 222 (.L 224 10 34),.y 222 (.c 225 14 [223,224]),.a 226 222 225,.m 227 226,.y 227 (.m 228 32),.y 227 (.m 229 35),.y 227 (.b 230 .eql 228 229),.a 231 227 230,.m 232 231,.y 232 (.m 233 33),.y 232 (.m 234 36),.y 232 (.op 235 (.beq false (.t 233) (.t 234))),.a 236 232 235,.m 237 236,.y 237 (.L 238 10 39),.y 237 (.L 239 10 41),.y 237 (.c 240 14 [238,239]),.a 241 237 240,.m 242 241,.y 242 (.m 243 40),.y 242 (.m 244 42),.y 242 (.op 245 (.beq false (.t 243) (.t 244))),.a 246 242 245,.m 247 246,.y 247 (.L 248 10 45),.y 247 (.L 249 10 49),.y 247 (.c 250 14 [248,249]),.a 251 247 250,.m 252 251,.y 252 (.m 253 46),.y 252 (.m 254 50),.y 252 (.b 255 .eql 253 254),.a 256 252 255,.m 257 256,.y 257 (.m 258 47),.y 257 (.m 259 51),.y 257 (.b 260 .eql 258 259),.a 261 257 260,.m 262 261,.y 262 (.m 263 48),.y 262 (.m 264 52),.y 262 (.op 265 (.beq false (.t 263) (.t 264))),.a 266 262 265,.m 267 266,.y 267 (.L 268 10 53),.y 267 (.c 269 23 [268]),.y 267 (.L 270 10 53),.y 267 (.c 271 43 [270]),.y 267 (.op 272 (.beq false (.t 269) (.t 271))),.a 273 267 272,.m 274 273,.y 274 (.m 275 54),.y 274 (.c 276 44 [275]),.y 274 (.m 277 54),.y 274 (.c 278 45 [277]),.y 274 (.c 279 14 [276,278]),.a 280 274 279,.m 2 280] [[],[],[0,1],[2,2],[3],[3],[4,5,3],[3,6],[7,3],[8],[8],[9,10,8],[8,11],[12,8],[13],[13],[14,15,13],[13,16],[17,13],[18],[18],[19,20,18,18],[18,21],[22,21],[23],[23],[24,25,23],[23,26],[27,23],[28],[28],[29,30,28],[28,31],[32,28],[33],[33],[34,35,33,33],[33,36],[37,36],[38],[38],[39,40,38],[38,41],[42,38],[43],[43],[44,45,43],[43,46],[47,43],[48],[48],[49,50,48,48],[48,51],[52,51],[53],[53],[54,55,53],[53,56],[57,53],[58],[58],[59,60,58,58],[58,61],[62,61],[63],[63],[64,65,63],[63,66],[67,63],[68],[68],[69,70,68],[68,71],[72,68],[73],[73],[74,75,73],[73,76],[77,73],[78],[79,78,78],[78],[81,80,78],[80,82,78],[78,83],[84,82],[85],[86,85,85],[85],[88,87,85],[87,89,89,85],[85,90],[91,90,0,1,2,3,4,5,6,7,8,9,10,11,12,13,14,15,16,17,18,19,20,21,22,23,24,25,26,27,28,29,30,31,32,33,34,35,36,37,38,39,40,41,42,43,44,45,46,47,48,49,50,51,52,53,54,55,56,57,58,59,60,61,62,63,64,65,66,67,68,69,70,71,72,73,74,75,76,77,78,79,80,81,82,83,84,85,86,87,88,89,90,91]])
 .ret))))))))))))))))))))))⟩
theorem r_l_FnNodesBent {Te:TE} (c_l_big:C_l_big Te) (c_s_DrawNodeLoad:C_s_DrawNodeLoad Te) (c_i_NodeLoad:C_i_NodeLoad Te) (c_s_NodeLoad:C_s_NodeLoad Te) (c_s_DrawNodeGet:C_s_DrawNodeGet Te) (c_i_NodeGet:C_i_NodeGet Te) (c_s_NodeGet:C_s_NodeGet Te) (c_s_DrawNodePut:C_s_DrawNodePut Te) (c_i_NodePut:C_i_NodePut Te) (c_s_NodePut:C_s_NodePut Te) (c_s_DrawNodeDel:C_s_DrawNodeDel Te) (c_i_NodeDel:C_i_NodeDel Te) (c_s_NodeDel:C_s_NodeDel Te) (c_s_DrawNodePhase:C_s_DrawNodePhase Te) (c_i_NodePhase:C_i_NodePhase Te) (c_s_NodePhase:C_s_NodePhase Te) (c_s_DrawNodeStep:C_s_DrawNodeStep Te) (c_i_NodeStep:C_i_NodeStep Te) (c_s_NodeStep:C_s_NodeStep Te) (c_s_DrawNodeOk:C_s_DrawNodeOk Te) (c_s_DrawNodeNew:C_s_DrawNodeNew Te) (c_l_sameNode:C_l_sameNode Te) (c_i_NodeOk:C_i_NodeOk Te) (c_s_NodeOk:C_s_NodeOk Te) (c_i_NodeNew:C_i_NodeNew Te) (c_s_NodeNew:C_s_NodeNew Te):C_l_FnNodesBent (RF Te x_l_FnNodesBent):=by
 intro code h
 have b48:∀ n:NodeV,n.In (2 ^ 20)→n.In (2 ^ 48):=fun n h=>h.mono (by decide)
 have ln:∀ n:NodeV,n.In (2 ^ 20)→n.Len:=fun n h=>h.len (by decide)
 have nb:∀ z:Int,(z != z)=false:=fun z=>bne_self_eq_false z
 refine X0 x_l_FnNodesBent.eq_1 ?_
 refine C0 (c_l_big _) ?_
 refine fun q=>?_
 have hc:code.length≤2 ^ 31:=by simp only [decide_eq_false_iff_not] at q; omega
 refine G0 ?_
 obtain ⟨n1,k1,b1,⟨hn1,hk1,hb1⟩,ht⟩:=c_s_DrawNodeLoad code hc
 refine C0 (ht) ?_
 refine C0 (c_i_NodeLoad n1 k1 b1 hn1 hk1 hb1) ?_
 refine C0 (c_s_NodeLoad n1 k1 b1 hn1 hk1 hb1) ?_
 obtain ⟨n2,k2,hn2,ht⟩:=c_s_DrawNodeGet code hc
 refine C0 (ht) ?_
 refine C0 (c_i_NodeGet n2 k2 (b48 n2 hn2)) ?_
 refine C0 (c_s_NodeGet n2 k2 (b48 n2 hn2)) ?_
 obtain ⟨n3,w3,q3,k3,s3,⟨hn3,hk3,hs3⟩,ht⟩:=c_s_DrawNodePut code hc
 refine C0 (ht) ?_
 refine C0 (c_i_NodePut n3 w3 q3 k3 s3 hn3 hk3 hs3) ?_
 refine C0 (c_s_NodePut n3 w3 q3 k3 s3 hn3 hk3 hs3) ?_
 obtain ⟨n4,w4,q4,k4,⟨hn4,hk4⟩,ht⟩:=c_s_DrawNodeDel code hc
 refine C0 (ht) ?_
 refine C0 (c_i_NodeDel n4 w4 q4 k4 hn4 hk4) ?_
 refine C0 (c_s_NodeDel n4 w4 q4 k4 hn4 hk4) ?_
 obtain ⟨n5,p5,hn5,ht⟩:=c_s_DrawNodePhase code hc
 refine C0 (ht) ?_
 refine C0 (c_i_NodePhase n5 p5 hn5) ?_
 refine C0 (c_s_NodePhase n5 p5 hn5) ?_
 obtain ⟨n6,f6,hn6,ht⟩:=c_s_DrawNodeStep code hc
 refine C0 (ht) ?_
 refine C0 (c_i_NodeStep n6 f6 hn6) ?_
 refine C0 (c_s_NodeStep n6 f6 hn6) ?_
 obtain ⟨n7,hn7,ht⟩:=c_s_DrawNodeOk code hc
 refine C0 (ht) ?_
 obtain ⟨cs,_,ht⟩:=c_s_DrawNodeNew code hc
 refine C0 (ht) ?_
 have eI:∀ z:Int,(z==z)=true:=fun z=>beq_self_eq_true z
 have eB:∀ z:Bool,(z==z)=true:=fun z=>beq_self_eq_true z
 have eF:(true != false)=true:=rfl
 refine C3 (c_l_sameNode (n1.load k1 b1).1 (ln _ (load_in hn1))) eI eB eF ?_
 refine C3 (c_l_sameNode (n3.putIn w3 q3 k3 s3).1 (ln _ (put_node_in hn3))) eI eB eF ?_
 refine C3 (c_l_sameNode (n4.del w4 q4 k4).1 (ln _ (del_in hn4))) eI eB eF ?_
 refine C3 (c_l_sameNode (n5.phase p5).1 (ln _ (phase_in hn5))) eI eB eF ?_
 refine C3 (c_l_sameNode (n6.step f6).1 (ln _ (step_in hn6))) eI eB eF ?_
 refine C0 (c_i_NodeOk n7 (b48 n7 hn7)) ?_
 refine C2 (c_s_NodeOk n7 (b48 n7 hn7)) eB eF ?_
 refine C0 (c_i_NodeNew cs) ?_
 refine C0 (c_s_NodeNew cs) ?_
 exact D0 (c_l_sameNode (nodeNew cs) (nodeNew_len cs))
end Go.X

