/- Texts: CTFnDesks. -/
import Derived.Test.YtmmjaijeeeilcaaGreatDoorD09
import Derived.Test.YtmmjaijeeeilcaaGreatDoorD10
import Derived.Test.YtmmjaijeeeilcaaGreatDoorD07
import Derived.Test.YtmmjaijeeeilcaaGreatDoorD13
import Derived.Test.YtmmjaijeeeilcaaGreatDoorD08
import Derived.Test.YtmmjaijeeeilcaaGreatDoorD11
import Derived.Test.YtmmjaijeeeilcaaGreatDoorD06
import Derived.Test.YtmmjaijeeeilcaaGreatDoorD12
import Derived.Test.YtmmjaijeeeilcaaGreatDoorD05
import Derived.Test.YtmmjaijeeeilcaaGreatDoorD14
import Derived.Test.YtmmjaijeeeilcaaGreatDoorProg
import Derived.Test.YtmmjaijeeeilcaaGreatDoorD03
import Derived.Test.YtmmjaijeeeilcaaGreatDoorD15
set_option linter.unusedVariables false
set_option linter.unusedSimpArgs false
namespace Go.X
open Go.Proofs
theorem hmix:Tryz.prog.follows .mixedOrders=true:=by kernel_rfl
abbrev TT:TE:=Tells Tryz.prog (keptU 0 1)
theorem tl {f:Nat} {x:FnX} {a:List AV} {r:Res} (h:RunFn TT x a r) (k:fnOk Tryz.prog f x=true:=by kernel_rfl):TT f a r:=tells hmix k h
theorem t_Gk:C_Gk TT:=fun l hl=>tells_decodeL Tryz.lays7n32 l hl
theorem t_Gl:C_Gl TT:=fun s hs=>tells_valid Tryz.lays196 s hs
theorem t_Ch:C_Ch TT:=fun n a b=>tl (r_Ch n a b)
theorem t_Fo:C_Fo TT:=fun n a b=>tl (r_Fo n a b)
theorem t_C0:C_C0 TT:=fun n=>tl (r_C0 t_Ch n)
theorem t_Fw:C_Fw TT:=fun n=>tl (r_Fw t_Fo n)
theorem t_Al:C_Al TT:=fun m=>tl (r_Al t_Ch t_C0 m)
theorem t_Dd:C_Dd TT:=fun m=>tl (r_Dd t_Fo t_Fw m)
theorem t_Bh:C_Bh TT:=fun p=>tl (r_Bh p)
theorem t_Ea:C_Ea TT:=fun p=>tl (r_Ea t_Fo p)
theorem t_C1:C_C1 TT:=fun ps h h2=>tl (r_C1 ps h h2)
theorem t_Be:C_Be TT:=fun l h=>tl (r_Be l h)
theorem t_E7:C_E7 TT:=fun l h=>tl (r_E7 l h)
theorem t_B0:C_B0 TT:=fun b n h=>tl (r_B0 t_C1 b n h)
theorem t_Du:C_Du TT:=fun b n h=>tl (r_Du b n h)
theorem t_Dt:C_Dt TT:=fun b t h ht=>tl (r_Dt t_Du b t h ht)
theorem t_Az:C_Az TT:=fun b t h ht=>tl (r_Az t_C1 t_B0 b t h ht)
theorem t_Cj:C_Cj TT:=fun l=>tl (r_Cj l)
theorem t_Fr:C_Fr TT:=by
 intro l hl
 obtain ⟨r0,⟨c,hP,rfl⟩,hr⟩:=r_Fr l hl
 exact ⟨c,hP,tellsP hmix (x:=x_Fr) (by kernel_rfl) hr⟩
theorem t_Fm:C_Fm TT:=by
 intro c hc
 obtain ⟨r0,⟨r,d,hP,rfl⟩,hr⟩:=r_Fm c hc
 exact ⟨r,d,hP,tells hmix (x:=x_Fm) (by kernel_rfl) hr⟩
theorem t_Fk:C_Fk TT:=by
 intro c n hc
 obtain ⟨r0,⟨r,d,hP,rfl⟩,hr⟩:=r_Fk t_Fm c n hc
 exact ⟨r,d,hP,tells hmix (x:=x_Fk) (by kernel_rfl) hr⟩
theorem t_Ft:C_Ft TT:=by
 intro c n hc
 obtain ⟨r0,⟨r,d,hP,rfl⟩,hr⟩:=r_Ft t_Fk c n hc
 exact ⟨r,d,hP,tells hmix (x:=x_Ft) (by kernel_rfl) hr⟩
theorem t_Fp:C_Fp TT:=by
 intro c l hc hl
 obtain ⟨r0,⟨r,d,hP,rfl⟩,hr⟩:=r_Fp t_Fk c l hc hl
 exact ⟨r,d,hP,tells hmix (x:=x_Fp) (by kernel_rfl) hr⟩
theorem t_Fu:C_Fu TT:=by
 intro c l hc hl
 obtain ⟨r0,⟨r,d,hP,rfl⟩,hr⟩:=r_Fu t_Fk c l hc hl
 exact ⟨r,d,hP,tells hmix (x:=x_Fu) (by kernel_rfl) hr⟩
theorem t_Fn:C_Fn TT:=by
 intro c n hc hn
 obtain ⟨r0,⟨l,d,hP,rfl⟩,hr⟩:=r_Fn t_Fm c n hc hn
 exact ⟨l,d,hP,tells hmix (x:=x_Fn) (by kernel_rfl) hr⟩
theorem t_An:C_An TT:=fun a b=>tl (r_An t_Ch a b)
theorem t_Df:C_Df TT:=fun a b=>tl (r_Df t_Fo a b)
theorem t_C5:C_C5 TT:=fun b=>tl (r_C5 b)
theorem t_G2:C_G2 TT:=fun b=>tl (r_G2 b)
theorem t_C2:C_C2 TT:=fun b hb=>tl (r_C2 b hb)
theorem t_G1:C_G1 TT:=fun b hb=>tl (r_G1 b hb)
theorem t_Ce:C_Ce TT:=fun b hb=>tl (r_Ce b hb)
theorem t_G3:C_G3 TT:=fun b hb=>tl (r_G3 b hb)
theorem t_A4:C_A4 TT:=fun cs b=>tl (r_A4 t_Ch t_C5 t_C2 t_Ce cs b)
theorem t_Cu:C_Cu TT:=fun cs b=>tl (r_Cu t_Fo t_G2 t_G1 t_G3 cs b)
theorem t_E3:C_E3 TT:=fun n=>tl (r_E3 t_Fo n)
theorem t_Ba:C_Ba TT:=fun n=>tl (r_Ba t_Ch n)
theorem t_Ds:C_Ds TT:=fun b n hb=>tl (r_Ds t_E3 b n hb)
theorem t_Gm:C_Gm TT:=fun b m hb hm=>tl (r_Gm b m hb hm)
theorem t_Gj:C_Gj TT:=fun b m hb hm=>tl (r_Gj t_Gm b m hb hm)
theorem t_Ay:C_Ay TT:=fun b n hb=>tl (r_Ay t_C1 t_Ba t_Gj b n hb)
theorem t_Ag:C_Ag TT:=fun b i hb=>tl (r_Ag t_Gk b i hb)
theorem t_Bc:C_Bc TT:=fun s hs=>tl (r_Bc t_Gl s hs)
theorem t_Fq:C_Fq TT:=by
 intro c hc
 obtain ⟨r0,⟨r,d,hP,rfl⟩,hr⟩:=r_Fq t_Fu c hc
 exact ⟨r,d,hP,tells hmix (x:=x_Fq) (by kernel_rfl) hr⟩
theorem t_Fv:C_Fv TT:=by
 intro c hc
 obtain ⟨r0,⟨r,d,hP,rfl⟩,hr⟩:=r_Fv t_Fu c hc
 exact ⟨r,d,hP,tells hmix (x:=x_Fv) (by kernel_rfl) hr⟩
theorem t_Fs:C_Fs TT:=by
 intro c hc
 obtain ⟨r0,⟨r,d,hP,rfl⟩,hr⟩:=r_Fs t_Fp c hc
 exact ⟨r,d,hP,tells hmix (x:=x_Fs) (by kernel_rfl) hr⟩
theorem t_Fy:C_Fy TT:=by
 intro c hc
 obtain ⟨r0,⟨r,d,hP,rfl⟩,hr⟩:=r_Fy t_Fp c hc
 exact ⟨r,d,hP,tells hmix (x:=x_Fy) (by kernel_rfl) hr⟩
theorem t_G8:C_G8 TT:=by
 intro c cs hc
 obtain ⟨r0,⟨r,d,hP,rfl⟩,hr⟩:=r_G8 t_Fy t_Fp t_Cu c cs hc
 exact ⟨r,d,hP,tells hmix (x:=x_G8) (by kernel_rfl) hr⟩
theorem t_G9:C_G9 TT:=by
 intro c cs most hc hm
 obtain ⟨r0,⟨r,d,hP,rfl⟩,hr⟩:=r_G9 t_Fk t_G8 t_Ds c cs most hc hm
 exact ⟨r,d,hP,tells hmix (x:=x_G9) (by kernel_rfl) hr⟩
theorem t_F9:C_F9 TT:=by
 intro c hc
 obtain ⟨r0,⟨m,d,hP,rfl⟩,hr⟩:=r_F9 t_Fk t_Fp t_Fq t_G9 c hc
 exact ⟨m,d,hP,tells hmix (x:=x_F9) (by kernel_rfl) hr⟩
theorem t_F8:C_F8 TT:=by
 intro c hc
 obtain ⟨r0,⟨m,d,hP,rfl⟩,hr⟩:=r_F8 t_F9 t_Fk t_Fp t_Fs c hc
 exact ⟨m,d,hP,tells hmix (x:=x_F8) (by kernel_rfl) hr⟩
theorem t_Cn:C_Cn TT:=fun x y hx=>tl (r_Cn x y hx)
theorem t_Fc:C_Fc TT:=fun m k=>tl (r_Fc m k)
theorem t_Fl:C_Fl TT:=by
 intro c b hc hb
 obtain ⟨r0,⟨r,d,hP,rfl⟩,hr⟩:=r_Fl t_Fk c b hc hb
 exact ⟨r,d,hP,tells hmix (x:=x_Fl) (by kernel_rfl) hr⟩
theorem t_Fx:C_Fx TT:=fun b=>tl (r_Fx t_Fo b)
theorem t_D9:C_D9 TT:=fun b i hb=>tl (r_D9 t_Fo t_Fx t_E3 t_Ds b i hb)
theorem t_Au:C_Au TT:=fun hi lo h=>tl (r_Au t_Ch hi lo h)
theorem t_Do:C_Do TT:=fun hi lo h=>tl (r_Do t_Fo hi lo h)
theorem t_Ad:C_Ad TT:=fun b i hb=>tl (r_Ad t_Au b i hb)
theorem t_D6:C_D6 TT:=fun b i hb=>tl (r_D6 t_Fo t_Do b i hb)
theorem t_By:C_By TT:=fun cs=>tl (r_By t_Ch cs)
theorem t_G5:C_G5 TT:=fun cs=>tl (r_G5 t_Fo cs)
theorem t_Cc:C_Cc TT:=fun cs b i hb hi=>tl (r_Cc t_Ag t_Ad t_A4 cs b i hb hi)
theorem t_G6:C_G6 TT:=fun cs b i hb hi=>tl (r_G6 t_D9 t_D6 t_Cu cs b i hb hi)
theorem t_A9:C_A9 TT:=fun cs b hb=>tl (r_A9 t_By t_Cc t_Ay cs b hb)
theorem t_Cz:C_Cz TT:=fun cs b hb=>tl (r_Cz t_G5 t_G6 t_Ds cs b hb)
theorem t_A6:C_A6 TT:=fun c=>tl (r_A6 t_By c)
theorem t_A7:C_A7 TT:=fun c=>tl (r_A7 t_A6 t_A9 c)
theorem t_B8:C_B8 TT:=fun a c=>tl (r_B8 t_A7 a c)
theorem t_Cw:C_Cw TT:=fun c=>tl (r_Cw t_G5 c)
theorem t_Cx:C_Cx TT:=fun c=>tl (r_Cx t_Cw t_Cz c)
theorem t_E1:C_E1 TT:=fun a c=>tl (r_E1 t_Cx a c)
theorem t_C9:C_C9 TT:=fun a c=>tl (r_C9 a c)
theorem t_Gh:C_Gh TT:=fun c=>tl (r_Gh c)
theorem t_Am:C_Am TT:=fun s h=>tl (r_Am t_Ch s h)
theorem t_De:C_De TT:=fun s h=>tl (r_De t_Fo s h)
theorem t_Gi:C_Gi TT:=fun r h=>tl (r_Gi r h)
theorem t_Gg:C_Gg TT:=fun r h=>tl (r_Gg r h)
theorem t_B6:C_B6 TT:=fun r h=>tl (r_B6 t_Am t_Ch t_A7 t_C9 t_A6 t_B8 r h)
theorem t_Dz:C_Dz TT:=fun r h=>tl (r_Dz t_De t_Fo t_Gi t_Gh t_Gg t_Cx t_Cw t_E1 r h)
theorem t_Ep:C_Ep TT:=fun m=>tl (r_Ep t_Fo t_Fw m)
theorem t_Bf:C_Bf TT:=fun t h=>tl (r_Bf t_B6 t_Ch t_C0 t h)
theorem t_E8:C_E8 TT:=fun t h=>tl (r_E8 t_Dz t_Ep t_Fo t h)
theorem t_Ab:C_Ab TT:=fun d h=>tl (r_Ab t_Ch d h)
theorem t_D2:C_D2 TT:=fun d h=>tl (r_D2 t_Fo d h)
theorem t_Bd:C_Bd TT:=fun s h=>tl (r_Bd t_Ab t_Bf t_Ch s h)
theorem t_E6:C_E6 TT:=fun s h=>tl (r_E6 t_D2 t_E8 t_Fo s h)
theorem t_Aq:C_Aq TT:=fun n h=>tl (r_Aq t_Bd t_Ch n h)
theorem t_Dk:C_Dk TT:=fun n h=>tl (r_Dk t_E6 t_Fo n h)
theorem t_Bp:C_Bp TT:=fun c h=>tl (r_Bp t_C1 c h)
theorem t_Gb:C_Gb TT:=fun c h=>tl (r_Gb c h)
theorem t_Bs:C_Bs TT:=fun r h=>tl (r_Bs t_Bp r h)
theorem t_Ge:C_Ge TT:=fun r h=>tl (r_Ge t_Gb r h)
theorem t_Bx:C_Bx TT:=fun b=>tl (r_Bx b)
theorem t_Eh:C_Eh TT:=fun b=>tl (r_Eh b)
theorem t_Ca:C_Ca TT:=fun a c=>tl (r_Ca t_C9 a c)
theorem t_Ek:C_Ek TT:=fun r=>tl (r_Ek t_Gh r)
theorem t_El:C_El TT:=fun r=>tl (r_El t_Fo t_Fw r)
theorem t_Dv:C_Dv TT:=fun r h=>tl (r_Dv t_Ek t_Dz t_De t_Fo t_El r h)
theorem t_B1:C_B1 TT:=fun r h=>tl (r_B1 t_Ca t_B6 t_Am t_Ch t_C0 r h)
theorem t_Ei:C_Ei TT:=fun b c hb hc=>tl (r_Ei t_Dt b c hb hc)
theorem t_Ax:C_Ax TT:=fun b r hb h=>tl (r_Ax t_C1 t_B6 t_Az t_Bx b r hb h)
theorem t_Dr:C_Dr TT:=fun b r hb h=>tl (r_Dr t_Dz t_Dt t_Eh t_Gi t_Ei t_Gg b r hb h)
theorem t_Aw:C_Aw TT:=fun gen place r h=>tl (r_Aw t_B1 t_C0 t_B0 t_Ax t_Az t_Be gen place r h)
theorem t_Dq:C_Dq TT:=fun gen place r h=>tl (r_Dq t_Dv t_Fw t_Du t_Dr t_Dt t_E7 gen place r h)
theorem t_Ah:C_Ah TT:=fun gen n=>tl (r_Ah t_Ch t_B0 t_Be gen n)
theorem t_Da:C_Da TT:=fun gen n=>tl (r_Da t_Fo t_Du t_E7 gen n)
theorem t_B2:C_B2 TT:=fun t h=>tl (r_B2 t_Bs t h)
theorem t_Dw:C_Dw TT:=fun t h=>tl (r_Dw t_Ge t h)
theorem t_D1:C_D1 TT:=fun n=>tl (r_D1 t_Fo n)
theorem t_Bq:C_Bq TT:=fun d h=>tl (r_Bq t_C1 d h)
theorem t_Bn:C_Bn TT:=fun d=>tl (r_Bn d)
theorem t_Ef:C_Ef TT:=fun d=>tl (r_Ef d)
theorem t_Bi:C_Bi TT:=fun d n b hk hb=>tl (r_Bi t_Bq t_Ab t_Ch t_Bn t_C1 d n b hk hb)
theorem t_Eg:C_Eg TT:=fun d n b hd hb=>tl (r_Eg t_Fo t_Ef d n b hd hb)
theorem t_Af:C_Af TT:=fun d hk=>tl (r_Af t_Bq t_Ab t_Bn t_C1 d hk)
theorem t_Ee:C_Ee TT:=fun d hd hidx=>tl (r_Ee t_Ef d hd hidx)
theorem t_Cb:C_Cb TT:=fun gen place=>tl (r_Cb gen place)
theorem t_Ew:C_Ew TT:=fun gen place=>tl (r_Ew gen place)
theorem t_C3:C_C3 TT:=fun d gen recs hd hr=>tl (r_C3 t_Cb t_Aw t_Bi t_Af t_Ah d gen recs hd hr)
theorem t_Ez:C_Ez TT:=fun s gen hd ht=>tl (r_Ez t_Dw t_Ew t_Dq t_Eg t_Ee t_Da s gen hd ht)
theorem t_D8:C_D8 TT:=tl (r_D8 t_D1 t_Ez)
theorem t_Dj:C_Dj TT:=fun cs=>tl (r_Dj t_Fo t_D8 cs)
theorem t_Bz:C_Bz TT:=fun n h=>tl (r_Bz t_Aq n h)
theorem t_F7:C_F7 TT:=fun n h=>tl (r_F7 t_Dk n h)
theorem t_B7:C_B7 TT:=fun r h=>tl (r_B7 t_A7 r h)
theorem t_E0:C_E0 TT:=fun r h=>tl (r_E0 t_Gg t_Cx r h)
theorem t_B4:C_B4 TT:=fun r key=>tl (r_B4 r key)
theorem t_Gp:C_Gp TT:=fun l key hl=>tellsV hmix (f:=175) (k:=176) (x:=x_Gp) (by kernel_rfl) (by decide) (r_Gp t_B4 l key hl)
theorem t_B3:C_B3 TT:=fun t key hl=>tl (r_B3 t_Gp t key hl)
theorem t_Dx:C_Dx TT:=fun t key hl=>tl (r_Dx t key hl)
theorem t_Ap:C_Ap TT:=fun n key h=>tl (r_Ap t_Bz t_B3 t_B7 n key h)
theorem t_Dh:C_Dh TT:=fun n key h=>tl (r_Dh t_F7 t_Dx t_E0 n key h)
theorem t_Ec:C_Ec TT:=fun d h=>tl (r_Ec d h)
theorem t_Bu:C_Bu TT:=fun t h=>tl (r_Bu t_Bs t h)
theorem t_En:C_En TT:=fun t h=>tl (r_En t_Ge t h)
theorem t_Bt:C_Bt TT:=fun s h=>tl (r_Bt t_Bq t_Bu s h)
theorem t_Ex:C_Ex TT:=fun s h=>tl (r_Ex t_Ec t_En s h)
theorem t_Br:C_Br TT:=fun n h=>tl (r_Br t_Bt n h)
theorem t_F1:C_F1 TT:=fun n h=>tl (r_F1 t_Ex n h)
theorem t_Cf:C_Cf TT:=fun l m h=>tl (r_Cf l m h)
theorem t_Eq:C_Eq TT:=fun l m h=>tl (r_Eq l m h)
theorem t_Cg:C_Cg TT:=fun l r h hr=>tl (r_Cg t_Bs l r h hr)
theorem t_Er:C_Er TT:=fun l r h hr=>tl (r_Er t_Ge l r h hr)
theorem t_A2:C_A2 TT:=fun x r=>tl (r_A2 x r)
theorem t_Go:C_Go TT:=fun l r hl=>tellsV hmix (f:=175) (k:=309) (x:=x_Go) (by kernel_rfl) (by decide) (r_Go t_A2 l r hl)
theorem t_Gn:C_Gn TT:=fun l r hl=>tellsV hmix (f:=308) (k:=309) (x:=x_Gn) (by kernel_rfl) (by decide) (r_Gn t_Go t_A2 l r hl)
theorem t_A1:C_A1 TT:=fun t r ht hr=>tl (r_A1 t_Bu t_B1 t_Bf t_Cg t_Gn t_Cf t r ht hr)
theorem t_Cs:C_Cs TT:=fun t r ht hr=>tl (r_Cs t_En t_E8 t_Dv t_Er t_Dx t_Eq t r ht hr)
theorem t_Ai:C_Ai TT:=fun s h=>tl (r_Ai t_Bt t_Bd t_B2 t_C3 s h)
theorem t_A0:C_A0 TT:=fun s r hs hr=>tl (r_A0 t_Bt t_A1 t_Bd t_Ai t_Cb t_Aw t_Bi t_Af s r hs hr)
theorem t_Bk:C_Bk TT:=fun n r hn hr=>tl (r_Bk t_A0 n r hn hr)
theorem t_Eu:C_Eu TT:=fun s r hk hd hT hr=>tl (r_Eu t_Cs t_Ez t_Ew t_Dq t_Eg t_Ee s r hk hd hT hr)
theorem t_Aj:C_Aj TT:=fun t who hl=>tl (r_Aj t who hl)
theorem t_Db:C_Db TT:=fun t who hl=>tl (r_Db t who hl)
theorem t_C4:C_C4 TT:=fun who seq=>tl (r_C4 t_Ch who seq)
theorem t_Bl:C_Bl TT:=fun n who seq hl=>tl (r_Bl t_Aj n who seq hl)
theorem t_F5:C_F5 TT:=fun n who seq h=>tl (r_F5 t_F7 t_Fo t_Db n who seq h)
theorem t_Bo:C_Bo TT:=fun n who seq r code hn hr=>tl (r_Bo t_Bk n who seq r code hn hr)
theorem t_Bv:C_Bv TT:=fun n key hn hk=>tl (r_Bv t_Am t_B3 n key hn hk)
theorem t_Ao:C_Ao TT:=fun n who seq key hn hk=>tl (r_Ao t_Bz t_C4 t_Br t_Bl t_Bv t_Bo n who seq key hn hk)
theorem t_Ar:C_Ar TT:=fun n p hn=>tl (r_Ar t_Br t_Bz t_An t_Bk n p hn)
theorem t_B9:C_B9 TT:=fun cs n=>tl (r_B9 t_A4 cs n)
theorem t_E2:C_E2 TT:=fun cs n=>tl (r_E2 t_Cu cs n)
theorem t_Bb:C_Bb TT:=fun n=>tl (r_Bb t_Ch n)
theorem t_E4:C_E4 TT:=fun n=>tl (r_E4 t_Fo n)
theorem t_Av:C_Av TT:=fun b n hb=>tl (r_Av t_Ch t_C1 t_Bb b n hb)
theorem t_Dp:C_Dp TT:=fun b n hb=>tl (r_Dp t_Fo t_E4 b n hb)
theorem t_E5:C_E5 TT:=fun s hs=>tl (r_E5 t_D9 s hs)
theorem t_C6:C_C6 TT:=fun cs b n hb=>tl (r_C6 t_Ay t_Av t_B9 cs b n hb)
theorem t_G7:C_G7 TT:=fun cs b n hb hn=>tl (r_G7 t_Ds t_E3 t_Dp t_E2 cs b n hb hn)
theorem t_Ac:C_Ac TT:=fun cs s hs=>tl (r_Ac t_Bc t_By t_C6 cs s hs)
theorem t_D5:C_D5 TT:=fun cs s hs=>tl (r_D5 t_E5 t_G5 t_G7 cs s hs)
theorem t_A5:C_A5 TT:=fun tag s hs=>tl (r_A5 t_Ac t_A6 tag s hs)
theorem t_Cv:C_Cv TT:=fun tag s hs=>tl (r_Cv t_D5 tag s hs)
theorem t_Bg:C_Bg TT:=fun c tag hc hs=>tl (r_Bg t_A7 t_Bp t_A5 c tag hc hs)
theorem t_E9:C_E9 TT:=fun c tag hc hs=>tl (r_E9 t_Cx t_Cv t_Gb c tag hc hs)
theorem t_Ae:C_Ae TT:=fun r h=>tl (r_Ae t_Bs t_B6 t_Bg r h)
theorem t_D7:C_D7 TT:=fun r h=>tl (r_D7 t_Ge t_Dz t_Gg t_E9 r h)
theorem t_A8:C_A8 TT:=fun r h=>tl (r_A8 t_Bs t_B6 r h)
theorem t_Cy:C_Cy TT:=fun r h=>tl (r_Cy t_Ge t_Dz t_Gg r h)
theorem t_A3:C_A3 TT:=fun r h=>tl (r_A3 t_Bs t_B6 r h)
theorem t_Ct:C_Ct TT:=fun r h=>tl (r_Ct t_Ge t_Dz t_Gg t_Gi r h)
theorem t_Cd:C_Cd TT:=fun p r h=>tl (r_Cd t_A8 t_A3 t_Ae p r h)
theorem t_F6:C_F6 TT:=fun p r h hp=>tl (r_F6 t_D7 t_Cy t_Ct p r h hp)
theorem t_B5:C_B5 TT:=fun ph key cs s hk hs=>tl (r_B5 t_A5 t_Ch t_Am ph key cs s hk hs)
theorem t_Dy:C_Dy TT:=fun ph key cs s hk hs=>tl (r_Dy t_Cv t_Fo t_De ph key cs s hk hs)
theorem t_C7:C_C7 TT:=fun n key s hn hk hs=>tl (r_C7 t_B5 t_B3 n key s hn hk hs)
theorem t_As:C_As TT:=fun n who seq key s hn hk hs=>tl (r_As t_Bz t_C4 t_Br t_Bl t_C7 t_Bo n who seq key s hn hk hs)
theorem t_F4:C_F4 TT:=fun n r hu hn hr=>tl (r_F4 t_F1 t_Eu n r hu hn hr)
theorem t_Dg:C_Dg TT:=fun n who seq key hn hk=>tl (r_Dg t_F5 t_F1 t_De t_Dx t_F4 n who seq key hn hk)
theorem t_Dm:C_Dm TT:=fun n who seq key s hn hk hs=>tl (r_Dm t_F5 t_F1 t_Dy t_Dx t_F4 n who seq key s hn hk hs)
theorem t_Dl:C_Dl TT:=fun n p hn=>tl (r_Dl t_F1 t_F7 t_Df t_Eu n p hn)
theorem t_Di:C_Di TT:=fun n key b hn hk hb=>tl (r_Di t_F1 t_F7 t_De t_Cz t_Eu n key b hn hk hb)
theorem t_C8:C_C8 TT:=fun t f hl=>tl (r_C8 t f hl)
theorem t_Es:C_Es TT:=fun a c=>tl (r_Es a c)
theorem t_Et:C_Et TT:=fun a c=>tl (r_Et t_Es a c)
theorem t_At:C_At TT:=fun n f hn=>tl (r_At t_Br t_Bz t_Bh t_C8 t_Cd t_Ca t_Bk n f hn)
theorem t_Dn:C_Dn TT:=fun n f hn=>tl (r_Dn t_F1 t_F7 t_Ea t_F6 t_Et t_Eu n f hn)
theorem t_Bj:C_Bj TT:=fun m code=>tl (r_Bj m code)
theorem t_Fa:C_Fa TT:=fun m code h=>tl (r_Fa m code h)
theorem t_Bm:C_Bm TT:=fun n m hn=>tl (r_Bm t_Al t_Ch t_Bz n m hn)
theorem t_Bw:C_Bw TT:=fun n m a hn hm=>tl (r_Bw t_Aj t_C4 t_Br t_Ao t_As t_Bj n m a hn hm)
theorem t_Fe:C_Fe TT:=fun n m hn hk=>tl (r_Fe t_Db t_Fo n m hn hk)
theorem t_Fj:C_Fj TT:=fun n m hn hm=>tl (r_Fj t_Dm t_Dg n m hn hm)
theorem t_Fi:C_Fi TT:=fun n key h=>tl (r_Fi t_Dh n key h)
theorem t_Fd:C_Fd TT:=fun n m hn=>tl (r_Fd t_Fc t_Fi n m hn)
theorem t_Fg:C_Fg TT:=fun n m hn hm hk h34=>tl (r_Fg t_Fe t_F1 t_Fj t_Fc t_Fa n m hn hm hk h34)
theorem t_Ff:C_Ff TT:=fun n m hn=>tl (r_Ff t_Dl t_Fc n m hn)
theorem t_Fh:C_Fh TT:=fun n m hn=>tl (r_Fh t_F1 t_Dn t_Fc n m hn)
theorem t_Aa:C_Aa TT:=fun n m hn hm=>tl (r_Aa t_Br t_Bm t_Ap t_Bw t_Ar t_At n m hn hm)
theorem t_D0:C_D0 TT:=fun n m hn hm=>tl (r_D0 t_Dd t_F7 t_F1 t_Fd t_Fg t_Ff t_Fh n m hn hm)
theorem t_G0:C_G0 TT:=by
 intro c hc
 obtain ⟨r0,⟨r,d,hP,rfl⟩,hr⟩:=r_G0 t_Fk c hc
 exact ⟨r,d,hP,tells hmix (x:=x_G0) (by kernel_rfl) hr⟩
theorem t_G4:C_G4 TT:=by
 intro c cs hc
 obtain ⟨r0,⟨b,d,hP,rfl⟩,hr⟩:=r_G4 t_G9 t_D5 t_Fk t_Fl t_Fp c cs hc
 exact ⟨b,d,hP,tells hmix (x:=x_G4) (by kernel_rfl) hr⟩
theorem t_F2:C_F2 TT:=by
 intro c n g hc hn hg
 obtain ⟨r0,⟨m,d,hP,rfl⟩,hr⟩:=r_F2 t_Fk t_Dl t_Fq t_Dg t_G4 t_Di t_Fu t_Dn t_Fp t_G9 t_Dm c n g hc hn hg
 exact ⟨m,d,hP,tells hmix (x:=x_F2) (by kernel_rfl) hr⟩
theorem t_F3:C_F3 TT:=by
 intro c most hc hm
 obtain ⟨r0,⟨n,d,hP,rfl⟩,hr⟩:=r_F3 t_G0 t_Dj t_Fk t_F2 c most hc hm
 exact ⟨n,d,hP,tells hmix (x:=x_F3) (by kernel_rfl) hr⟩
theorem t_Fz:C_Fz TT:=by
 intro c hc
 obtain ⟨r0,⟨r,d,hP,rfl⟩,hr⟩:=r_Fz t_Fp c hc
 exact ⟨r,d,hP,tells hmix (x:=x_Fz) (by kernel_rfl) hr⟩
theorem t_Gc:C_Gc TT:=by
 intro c hc
 obtain ⟨r0,⟨x,d,hP,rfl⟩,hr⟩:=r_Gc t_Fk t_G9 t_Cv c hc
 exact ⟨x,d,hP,tells hmix (x:=x_Gc) (by kernel_rfl) hr⟩
theorem t_Ga:C_Ga TT:=by
 intro c hc
 obtain ⟨r0,⟨x,d,hP,rfl⟩,hr⟩:=r_Ga t_Gc t_Fk t_Fz t_G4 c hc
 exact ⟨x,d,hP,tells hmix (x:=x_Ga) (by kernel_rfl) hr⟩
theorem t_Gf:C_Gf TT:=by
 intro c hc
 obtain ⟨r0,⟨r,d,hP,rfl⟩,hr⟩:=r_Gf t_G0 t_Fq t_Fk t_G9 t_Dy t_Fp t_D7 t_Ct c hc
 exact ⟨r,d,hP,tells hmix (x:=x_Gf) (by kernel_rfl) hr⟩
theorem t_Gd:C_Gd TT:=by
 intro c hc
 obtain ⟨r0,⟨r,d,hP,rfl⟩,hr⟩:=r_Gd t_Gf t_Fk t_Fv t_Fp t_Ga c hc
 exact ⟨r,d,hP,tells hmix (x:=x_Gd) (by kernel_rfl) hr⟩
theorem t_Ej:C_Ej TT:=by
 intro c hc
 obtain ⟨r0,⟨r,d,hP,rfl⟩,hr⟩:=r_Ej t_Fk t_Gf t_Fq t_Ft t_Fp c hc
 exact ⟨r,d,hP,tells hmix (x:=x_Ej) (by kernel_rfl) hr⟩
theorem t_Cl:C_Cl TT:=fun a=>tl (r_Cl a)
theorem t_Cp:C_Cp TT:=fun a=>tl (r_Cp t_Cl a)
theorem t_Cm:C_Cm TT:=fun d h=>tl (r_Cm d h)
theorem t_Cr:C_Cr TT:=fun t h=>tl (r_Cr t_Cp t h)
theorem t_Cq:C_Cq TT:=fun s h=>tl (r_Cq t_Cm t_Cr s h)
theorem t_Co:C_Co TT:=fun n h=>tl (r_Co t_Cq n h)
theorem t_Ck:C_Ck TT:=fun x hx=>tl (r_Ck x hx)
theorem t_Ed:C_Ed TT:=by
 intro c hc
 obtain ⟨r0,⟨x,d,hP,rfl⟩,hr⟩:=r_Ed t_Fk t_D1 t_Ft t_Ee t_Fn t_Eg c hc
 exact ⟨x,d,hP,tells hmix (x:=x_Ed) (by kernel_rfl) hr⟩
theorem t_Eo:C_Eo TT:=by
 intro c hc
 obtain ⟨r0,⟨x,d,hP,rfl⟩,hr⟩:=r_Eo t_Fk t_Ej t_Cs c hc
 exact ⟨x,d,hP,tells hmix (x:=x_Eo) (by kernel_rfl) hr⟩
theorem t_Ey:C_Ey TT:=by
 intro c hc
 obtain ⟨r0,⟨s,d,hP,rfl⟩,hr⟩:=r_Ey t_D8 t_Fk t_Ej t_Eu c hc
 exact ⟨s,d,hP,tells hmix (x:=x_Ey) (by kernel_rfl) hr⟩
theorem t_Em:C_Em TT:=by
 intro c hc
 obtain ⟨r0,⟨x,d,hP,rfl⟩,hr⟩:=r_Em t_Eo t_Fk t_Gd t_Fp t_Fs c hc
 exact ⟨x,d,hP,tells hmix (x:=x_Em) (by kernel_rfl) hr⟩
theorem t_Eb:C_Eb TT:=by
 intro c hc
 obtain ⟨r0,⟨x,d,hP,rfl⟩,hr⟩:=r_Eb t_Ed t_Fk t_Fp t_Fn c hc
 exact ⟨x,d,hP,tells hmix (x:=x_Eb) (by kernel_rfl) hr⟩
theorem t_Ev:C_Ev TT:=by
 intro c hc
 obtain ⟨r0,⟨s,d,hP,rfl⟩,hr⟩:=r_Ev t_Ey t_Fk t_Eb t_Em t_Fp c hc
 exact ⟨s,d,hP,tells hmix (x:=x_Ev) (by kernel_rfl) hr⟩
theorem t_F0:C_F0 TT:=by
 intro c most hc hm
 obtain ⟨r0,⟨n,d,hP,rfl⟩,hr⟩:=r_F0 t_F3 t_Fk t_Fz t_Ev t_Fp c most hc hm
 exact ⟨n,d,hP,tells hmix (x:=x_F0) (by kernel_rfl) hr⟩
theorem t_Fb:C_Fb TT:=by
 intro c hc
 obtain ⟨r0,⟨n,m,d,hP,rfl⟩,hr⟩:=r_Fb t_F0 t_F9 t_Ft t_Fp t_F8 c hc
 exact ⟨n,m,d,hP,tells hmix (x:=x_Fb) (by kernel_rfl) hr⟩
theorem t_D3:C_D3 TT:=by
 intro l hl
 obtain ⟨r0,⟨n,m,hP,rfl⟩,hr⟩:=r_D3 t_Fr t_Fb l hl
 exact ⟨n,m,hP,tells hmix (x:=x_D3) (by kernel_rfl) hr⟩
theorem t_D4:C_D4 TT:=by
 intro l hl
 obtain ⟨r0,⟨n,m,hP,rfl⟩,hr⟩:=r_D4 t_Fr t_Fb t_Fp l hl
 exact ⟨n,m,hP,tells hmix (x:=x_D4) (by kernel_rfl) hr⟩
theorem t_Ak:C_Ak TT:=fun n m hn hm=>tl (r_Ak t_Bm t_C4 t_Bl t_Aa t_Bv t_C7 t_Bj n m hn hm)
theorem t_Dc:C_Dc TT:=fun n m hn hm=>tl (r_Dc t_Dd t_F7 t_Fe t_D0 t_Db t_F1 t_Fj t_Fa n m hn hm)
theorem t_Ci:C_Ci TT:=fun code h=>tl (r_Ci t_Cj t_D3 t_Aa t_D0 t_D4 t_Co t_Cn t_Ck t_Ak t_Dc code h)
end Go.X

