/- Texts: CTFnNodes. -/
import Derived.Test.YtmmjaijeeeilcaaGreatDoorS07
import Derived.Test.YtmmjaijeeeilcaaGreatDoorS05
import Derived.Test.YtmmjaijeeeilcaaGreatDoorS10
import Derived.Test.YtmmjaijeeeilcaaGreatDoorS13
import Derived.Test.YtmmjaijeeeilcaaGreatDoorS12
import Derived.Test.YtmmjaijeeeilcaaGreatDoorS11
import Derived.Test.YtmmjaijeeeilcaaGreatDoorS08
import Derived.Test.YtmmjaijeeeilcaaGreatDoorS09
import Derived.Test.YtmmjaijeeeilcaaGreatDoorS06
import Derived.Test.YtmmjaijeeeilcaaGreatDoorS14
import Derived.Test.YtmmjaijeeeilcaaGreatDoorS15
import Derived.Test.YtmmjaijeeeilcaaGreatDoorProg
import Derived.Test.YtmmjaijeeeilcaaGreatDoorS03
import Derived.Test.YtmmjaijeeeilcaaGreatDoorS16
set_option linter.unusedVariables false
set_option linter.unusedSimpArgs false
namespace Go.X
open Go.Proofs
theorem hmix:Tryz.prog.follows .mixedOrders=true:=by kernel_rfl
abbrev TT:TE:=Tells Tryz.prog (keptU 0 1)
theorem t_u_DecodeRune:C_u_DecodeRune TT:=fun l hl=>tells_decodeL Tryz.lays7n32 l hl
theorem t_u_ValidString:C_u_ValidString TT:=fun s hs=>tells_valid Tryz.lays196 s hs
theorem t_i_within:C_i_within TT:=fun n a b=>tells hmix (by kernel_rfl) (r_i_within n a b)
theorem t_s_l1In:C_s_l1In TT:=fun n a b=>tells hmix (by kernel_rfl) (r_s_l1In n a b)
theorem t_i_isWord:C_i_isWord TT:=fun n=>tells hmix (by kernel_rfl) (r_i_isWord t_i_within n)
theorem t_s_l1Word:C_s_l1Word TT:=fun n=>tells hmix (by kernel_rfl) (r_s_l1Word t_s_l1In n)
theorem t_s_Walks:C_s_Walks TT:=fun p=>tells hmix (by kernel_rfl) (r_s_Walks t_s_l1In p)
theorem t_i_joined:C_i_joined TT:=fun ps h h2=>tells hmix (by kernel_rfl) (r_i_joined ps h h2)
theorem t_i_Sum:C_i_Sum TT:=fun l h=>tells hmix (by kernel_rfl) (r_i_Sum l h)
theorem t_s_Sum:C_s_Sum TT:=fun l h=>tells hmix (by kernel_rfl) (r_s_Sum l h)
theorem t_i_PutW:C_i_PutW TT:=fun b n h=>tells hmix (by kernel_rfl) (r_i_PutW t_i_joined b n h)
theorem t_s_PutW:C_s_PutW TT:=fun b n h=>tells hmix (by kernel_rfl) (r_s_PutW b n h)
theorem t_s_PutText:C_s_PutText TT:=fun b t h ht=>tells hmix (by kernel_rfl) (r_s_PutText t_s_PutW b t h ht)
theorem t_i_PutText:C_i_PutText TT:=fun b t h ht=>tells hmix (by kernel_rfl) (r_i_PutText t_i_joined t_i_PutW b t h ht)
theorem t_l_big:C_l_big TT:=fun l=>tells hmix (by kernel_rfl) (r_l_big l)
theorem t_l_at:C_l_at TT:=by
 intro l i hi hl
 obtain ⟨r0,⟨r,hP,rfl⟩,hr⟩:=r_l_at l i hi hl
 exact ⟨r,hP,tells hmix (x:=x_l_at) (by kernel_rfl) hr⟩
theorem t_s_l1New:C_s_l1New TT:=by
 intro l hl
 obtain ⟨r0,⟨c,hP,rfl⟩,hr⟩:=r_s_l1New l hl
 exact ⟨c,hP,tellsP hmix (x:=x_s_l1New) (by kernel_rfl) hr⟩
theorem t_s_l1Byte:C_s_l1Byte TT:=by
 intro c hc
 obtain ⟨r0,⟨r,d,hP,rfl⟩,hr⟩:=r_s_l1Byte c hc
 exact ⟨r,d,hP,tells hmix (x:=x_s_l1Byte) (by kernel_rfl) hr⟩
theorem t_s_l1Below:C_s_l1Below TT:=by
 intro c n hc
 obtain ⟨r0,⟨r,d,hP,rfl⟩,hr⟩:=r_s_l1Below t_s_l1Byte c n hc
 exact ⟨r,d,hP,tells hmix (x:=x_s_l1Below) (by kernel_rfl) hr⟩
theorem t_s_l1Int:C_s_l1Int TT:=by
 intro c l hc hl
 obtain ⟨r0,⟨r,d,hP,rfl⟩,hr⟩:=r_s_l1Int t_s_l1Below c l hc hl
 exact ⟨r,d,hP,tells hmix (x:=x_s_l1Int) (by kernel_rfl) hr⟩
theorem t_s_l1Str:C_s_l1Str TT:=by
 intro c l hc hl
 obtain ⟨r0,⟨r,d,hP,rfl⟩,hr⟩:=r_s_l1Str t_s_l1Below c l hc hl
 exact ⟨r,d,hP,tells hmix (x:=x_s_l1Str) (by kernel_rfl) hr⟩
theorem t_s_NextOk:C_s_NextOk TT:=fun a b=>tells hmix (by kernel_rfl) (r_s_NextOk t_s_l1In a b)
theorem t_i_nineSign:C_i_nineSign TT:=fun b=>tells hmix (by kernel_rfl) (r_i_nineSign b)
theorem t_s_l3Nine:C_s_l3Nine TT:=fun b=>tells hmix (by kernel_rfl) (r_s_l3Nine b)
theorem t_i_koiSign:C_i_koiSign TT:=fun b hb=>tells hmix (by kernel_rfl) (r_i_koiSign b hb)
theorem t_s_l3Koi:C_s_l3Koi TT:=fun b hb=>tells hmix (by kernel_rfl) (r_s_l3Koi b hb)
theorem t_i_winSign:C_i_winSign TT:=fun b hb=>tells hmix (by kernel_rfl) (r_i_winSign b hb)
theorem t_s_l3Win:C_s_l3Win TT:=fun b hb=>tells hmix (by kernel_rfl) (r_s_l3Win b hb)
theorem t_i_ByteSign:C_i_ByteSign TT:=fun cs b=>tells hmix (by kernel_rfl) (r_i_ByteSign t_i_within t_i_nineSign t_i_koiSign t_i_winSign cs b)
theorem t_s_ByteSign:C_s_ByteSign TT:=fun cs b=>tells hmix (by kernel_rfl) (r_s_ByteSign t_s_l1In t_s_l3Nine t_s_l3Koi t_s_l3Win cs b)
theorem t_s_SignOk:C_s_SignOk TT:=fun n=>tells hmix (by kernel_rfl) (r_s_SignOk t_s_l1In n)
theorem t_i_SignOk:C_i_SignOk TT:=fun n=>tells hmix (by kernel_rfl) (r_i_SignOk t_i_within n)
theorem t_s_PutSign:C_s_PutSign TT:=fun b n hb=>tells hmix (by kernel_rfl) (r_s_PutSign t_s_SignOk b n hb)
theorem t_u_appendRuneNonASCII:C_u_appendRuneNonASCII TT:=fun b m hb hm=>tells hmix (by kernel_rfl) (r_u_appendRuneNonASCII b m hb hm)
theorem t_u_AppendRune:C_u_AppendRune TT:=fun b m hb hm=>tells hmix (by kernel_rfl) (r_u_AppendRune t_u_appendRuneNonASCII b m hb hm)
theorem t_i_PutSign:C_i_PutSign TT:=fun b n hb=>tells hmix (by kernel_rfl) (r_i_PutSign t_i_joined t_i_SignOk t_u_AppendRune b n hb)
theorem t_i_GetSign:C_i_GetSign TT:=fun b i hb=>tells hmix (by kernel_rfl) (r_i_GetSign t_u_DecodeRune b i hb)
theorem t_i_Signs:C_i_Signs TT:=fun s hs=>tells hmix (by kernel_rfl) (r_i_Signs t_u_ValidString s hs)
theorem t_s_l1Name:C_s_l1Name TT:=by
 intro c hc
 obtain ⟨r0,⟨r,d,hP,rfl⟩,hr⟩:=r_s_l1Name t_s_l1Str c hc
 exact ⟨r,d,hP,tells hmix (x:=x_s_l1Name) (by kernel_rfl) hr⟩
theorem t_s_l2Sign:C_s_l2Sign TT:=by
 intro c hc
 obtain ⟨r0,⟨r,d,hP,rfl⟩,hr⟩:=r_s_l2Sign t_s_l1Int c hc
 exact ⟨r,d,hP,tells hmix (x:=x_s_l2Sign) (by kernel_rfl) hr⟩
theorem t_s_l5Sign:C_s_l5Sign TT:=by
 intro c cs hc
 obtain ⟨r0,⟨r,d,hP,rfl⟩,hr⟩:=r_s_l5Sign t_s_l2Sign t_s_l1Int t_s_ByteSign c cs hc
 exact ⟨r,d,hP,tells hmix (x:=x_s_l5Sign) (by kernel_rfl) hr⟩
theorem t_s_l5Text:C_s_l5Text TT:=by
 intro c cs most hc hm
 obtain ⟨r0,⟨r,d,hP,rfl⟩,hr⟩:=r_s_l5Text t_s_l1Below t_s_l5Sign t_s_PutSign c cs most hc hm
 exact ⟨r,d,hP,tells hmix (x:=x_s_l5Text) (by kernel_rfl) hr⟩
theorem t_s_l1Bend:C_s_l1Bend TT:=by
 intro c b hc hb
 obtain ⟨r0,⟨r,d,hP,rfl⟩,hr⟩:=r_s_l1Bend t_s_l1Below c b hc hb
 exact ⟨r,d,hP,tells hmix (x:=x_s_l1Bend) (by kernel_rfl) hr⟩
theorem t_s_l2Len:C_s_l2Len TT:=fun b=>tells hmix (by kernel_rfl) (r_s_l2Len t_s_l1In b)
theorem t_s_GetSign:C_s_GetSign TT:=fun b i hb=>tells hmix (by kernel_rfl) (r_s_GetSign t_s_l1In t_s_l2Len t_s_SignOk t_s_PutSign b i hb)
theorem t_i_PairSign:C_i_PairSign TT:=fun hi lo h=>tells hmix (by kernel_rfl) (r_i_PairSign t_i_within hi lo h)
theorem t_s_PairSign:C_s_PairSign TT:=fun hi lo h=>tells hmix (by kernel_rfl) (r_s_PairSign t_s_l1In hi lo h)
theorem t_i_EucSign:C_i_EucSign TT:=fun b i hb=>tells hmix (by kernel_rfl) (r_i_EucSign t_i_PairSign b i hb)
theorem t_s_EucSign:C_s_EucSign TT:=fun b i hb=>tells hmix (by kernel_rfl) (r_s_EucSign t_s_l1In t_s_PairSign b i hb)
theorem t_i_isSet:C_i_isSet TT:=fun cs=>tells hmix (by kernel_rfl) (r_i_isSet t_i_within cs)
theorem t_s_l5Cs:C_s_l5Cs TT:=fun cs=>tells hmix (by kernel_rfl) (r_s_l5Cs t_s_l1In cs)
theorem t_i_signIn:C_i_signIn TT:=fun cs b i hb hi=>tells hmix (by kernel_rfl) (r_i_signIn t_i_GetSign t_i_EucSign t_i_ByteSign cs b i hb hi)
theorem t_s_l5Get:C_s_l5Get TT:=fun cs b i hb hi=>tells hmix (by kernel_rfl) (r_s_l5Get t_s_GetSign t_s_EucSign t_s_ByteSign cs b i hb hi)
theorem t_i_Decode:C_i_Decode TT:=fun cs b hb=>tells hmix (by kernel_rfl) (r_i_Decode t_i_isSet t_i_signIn t_i_PutSign cs b hb)
theorem t_s_Decode:C_s_Decode TT:=fun cs b hb=>tells hmix (by kernel_rfl) (r_s_Decode t_s_l5Cs t_s_l5Get t_s_PutSign cs b hb)
theorem t_i_CellOk:C_i_CellOk TT:=fun c=>tells hmix (by kernel_rfl) (r_i_CellOk t_i_isSet c)
theorem t_i_CellText:C_i_CellText TT:=fun c=>tells hmix (by kernel_rfl) (r_i_CellText t_i_CellOk t_i_Decode c)
theorem t_i_SameText:C_i_SameText TT:=fun a c=>tells hmix (by kernel_rfl) (r_i_SameText t_i_CellText a c)
theorem t_s_CellOk:C_s_CellOk TT:=fun c=>tells hmix (by kernel_rfl) (r_s_CellOk t_s_l5Cs c)
theorem t_s_CellText:C_s_CellText TT:=fun c=>tells hmix (by kernel_rfl) (r_s_CellText t_s_CellOk t_s_Decode c)
theorem t_s_SameText:C_s_SameText TT:=fun a c=>tells hmix (by kernel_rfl) (r_s_SameText t_s_CellText a c)
theorem t_i_sameCell:C_i_sameCell TT:=fun a c=>tells hmix (by kernel_rfl) (r_i_sameCell a c)
theorem t_s_l9None:C_s_l9None TT:=fun c=>tells hmix (by kernel_rfl) (r_s_l9None c)
theorem t_i_NameOk:C_i_NameOk TT:=fun s h=>tells hmix (by kernel_rfl) (r_i_NameOk t_i_within s h)
theorem t_s_NameOk:C_s_NameOk TT:=fun s h=>tells hmix (by kernel_rfl) (r_s_NameOk t_s_l1In s h)
theorem t_s_l9Old:C_s_l9Old TT:=fun r h=>tells hmix (by kernel_rfl) (r_s_l9Old r h)
theorem t_s_l9New:C_s_l9New TT:=fun r h=>tells hmix (by kernel_rfl) (r_s_l9New r h)
theorem t_i_RowOk:C_i_RowOk TT:=fun r h=>tells hmix (by kernel_rfl) (r_i_RowOk t_i_NameOk t_i_within t_i_CellText t_i_sameCell t_i_CellOk t_i_SameText r h)
theorem t_s_RowOk:C_s_RowOk TT:=fun r h=>tells hmix (by kernel_rfl) (r_s_RowOk t_s_NameOk t_s_l1In t_s_l9Old t_s_l9None t_s_l9New t_s_CellText t_s_CellOk t_s_SameText r h)
theorem t_s_l12Mark:C_s_l12Mark TT:=fun m=>tells hmix (by kernel_rfl) (r_s_l12Mark t_s_l1In t_s_l1Word m)
theorem t_i_TabOk:C_i_TabOk TT:=fun t h=>tells hmix (by kernel_rfl) (r_i_TabOk t_i_RowOk t_i_within t_i_isWord t h)
theorem t_s_TabOk:C_s_TabOk TT:=fun t h=>tells hmix (by kernel_rfl) (r_s_TabOk t_s_RowOk t_s_l12Mark t_s_l1In t h)
theorem t_i_DevOk:C_i_DevOk TT:=fun d h=>tells hmix (by kernel_rfl) (r_i_DevOk t_i_within d h)
theorem t_s_DevOk:C_s_DevOk TT:=fun d h=>tells hmix (by kernel_rfl) (r_s_DevOk t_s_l1In d h)
theorem t_i_StoreOk:C_i_StoreOk TT:=fun s h=>tells hmix (by kernel_rfl) (r_i_StoreOk t_i_DevOk t_i_TabOk t_i_within s h)
theorem t_s_StoreOk:C_s_StoreOk TT:=fun s h=>tells hmix (by kernel_rfl) (r_s_StoreOk t_s_DevOk t_s_TabOk t_s_l1In s h)
theorem t_i_NodeOk:C_i_NodeOk TT:=fun n h=>tells hmix (by kernel_rfl) (r_i_NodeOk t_i_StoreOk t_i_within n h)
theorem t_s_NodeOk:C_s_NodeOk TT:=fun n h=>tells hmix (by kernel_rfl) (r_s_NodeOk t_s_StoreOk t_s_l1In n h)
theorem t_i_copyCell:C_i_copyCell TT:=fun c h=>tells hmix (by kernel_rfl) (r_i_copyCell t_i_joined c h)
theorem t_s_l8Copy:C_s_l8Copy TT:=fun c h=>tells hmix (by kernel_rfl) (r_s_l8Copy c h)
theorem t_i_copyRow:C_i_copyRow TT:=fun r h=>tells hmix (by kernel_rfl) (r_i_copyRow t_i_copyCell r h)
theorem t_s_l9Copy:C_s_l9Copy TT:=fun r h=>tells hmix (by kernel_rfl) (r_s_l9Copy t_s_l8Copy r h)
theorem t_i_flag:C_i_flag TT:=fun b=>tells hmix (by kernel_rfl) (r_i_flag b)
theorem t_s_l11Bit:C_s_l11Bit TT:=fun b=>tells hmix (by kernel_rfl) (r_s_l11Bit b)
theorem t_i_sameRow:C_i_sameRow TT:=fun a c=>tells hmix (by kernel_rfl) (r_i_sameRow t_i_sameCell a c)
theorem t_s_l11NoRow:C_s_l11NoRow TT:=fun r=>tells hmix (by kernel_rfl) (r_s_l11NoRow t_s_l9None r)
theorem t_s_l11Who:C_s_l11Who TT:=fun r=>tells hmix (by kernel_rfl) (r_s_l11Who t_s_l1In t_s_l1Word r)
theorem t_s_RecOk:C_s_RecOk TT:=fun r h=>tells hmix (by kernel_rfl) (r_s_RecOk t_s_l11NoRow t_s_RowOk t_s_NameOk t_s_l1In t_s_l11Who r h)
theorem t_i_RecOk:C_i_RecOk TT:=fun r h=>tells hmix (by kernel_rfl) (r_i_RecOk t_i_sameRow t_i_RowOk t_i_NameOk t_i_within t_i_isWord r h)
theorem t_s_l11Cell:C_s_l11Cell TT:=fun b c hb hc=>tells hmix (by kernel_rfl) (r_s_l11Cell t_s_PutText b c hb hc)
theorem t_i_PutRow:C_i_PutRow TT:=fun b r hb h=>tells hmix (by kernel_rfl) (r_i_PutRow t_i_joined t_i_RowOk t_i_PutText t_i_flag b r hb h)
theorem t_s_PutRow:C_s_PutRow TT:=fun b r hb h=>tells hmix (by kernel_rfl) (r_s_PutRow t_s_RowOk t_s_PutText t_s_l11Bit t_s_l9Old t_s_l11Cell t_s_l9New b r hb h)
theorem t_i_PutRec:C_i_PutRec TT:=fun gen place r h=>tells hmix (by kernel_rfl) (r_i_PutRec t_i_RecOk t_i_isWord t_i_PutW t_i_PutRow t_i_PutText t_i_Sum gen place r h)
theorem t_s_PutRec:C_s_PutRec TT:=fun gen place r h=>tells hmix (by kernel_rfl) (r_s_PutRec t_s_RecOk t_s_l1Word t_s_PutW t_s_PutRow t_s_PutText t_s_Sum gen place r h)
theorem t_i_HeadOf:C_i_HeadOf TT:=fun gen n=>tells hmix (by kernel_rfl) (r_i_HeadOf t_i_within t_i_PutW t_i_Sum gen n)
theorem t_s_HeadOf:C_s_HeadOf TT:=fun gen n=>tells hmix (by kernel_rfl) (r_s_HeadOf t_s_l1In t_s_PutW t_s_Sum gen n)
theorem t_i_RecsOf:C_i_RecsOf TT:=fun t h=>tells hmix (by kernel_rfl) (r_i_RecsOf t_i_copyRow t h)
theorem t_s_RecsOf:C_s_RecsOf TT:=fun t h=>tells hmix (by kernel_rfl) (r_s_RecsOf t_s_l9Copy t h)
theorem t_s_DevNew:C_s_DevNew TT:=fun n=>tells hmix (by kernel_rfl) (r_s_DevNew t_s_l1In n)
theorem t_i_copyDev:C_i_copyDev TT:=fun d h=>tells hmix (by kernel_rfl) (r_i_copyDev t_i_joined d h)
theorem t_i_burn:C_i_burn TT:=fun d=>tells hmix (by kernel_rfl) (r_i_burn d)
theorem t_s_l10Op:C_s_l10Op TT:=fun d=>tells hmix (by kernel_rfl) (r_s_l10Op d)
theorem t_i_WriteSec:C_i_WriteSec TT:=fun d n b hk hb=>tells hmix (by kernel_rfl) (r_i_WriteSec t_i_copyDev t_i_DevOk t_i_within t_i_burn t_i_joined d n b hk hb)
theorem t_s_l10Write:C_s_l10Write TT:=fun d n b hd hb=>tells hmix (by kernel_rfl) (r_s_l10Write t_s_l1In t_s_l10Op d n b hd hb)
theorem t_i_FlushDev:C_i_FlushDev TT:=fun d hk=>tells hmix (by kernel_rfl) (r_i_FlushDev t_i_copyDev t_i_DevOk t_i_burn t_i_joined d hk)
theorem t_s_l10Flush:C_s_l10Flush TT:=fun d hd hidx=>tells hmix (by kernel_rfl) (r_s_l10Flush t_s_l10Op d hd hidx)
theorem t_i_sectorOf:C_i_sectorOf TT:=fun gen place=>tells hmix (by kernel_rfl) (r_i_sectorOf gen place)
theorem t_s_l13At:C_s_l13At TT:=fun gen place=>tells hmix (by kernel_rfl) (r_s_l13At gen place)
theorem t_i_laid:C_i_laid TT:=fun d gen recs hd hr=>tells hmix (by kernel_rfl) (r_i_laid t_i_sectorOf t_i_PutRec t_i_WriteSec t_i_FlushDev t_i_HeadOf d gen recs hd hr)
theorem t_s_l13Lay:C_s_l13Lay TT:=fun s gen hd ht=>tells hmix (by kernel_rfl) (r_s_l13Lay t_s_RecsOf t_s_l13At t_s_PutRec t_s_l10Write t_s_l10Flush t_s_HeadOf s gen hd ht)
theorem t_s_Format:C_s_Format TT:=tells hmix (by kernel_rfl) (r_s_Format t_s_DevNew t_s_l13Lay)
theorem t_s_NodeNew:C_s_NodeNew TT:=fun cs=>tells hmix (by kernel_rfl) (r_s_NodeNew t_s_l1In t_s_Format cs)
theorem t_i_isUp:C_i_isUp TT:=fun n h=>tells hmix (by kernel_rfl) (r_i_isUp t_i_NodeOk n h)
theorem t_s_l15Up:C_s_l15Up TT:=fun n h=>tells hmix (by kernel_rfl) (r_s_l15Up t_s_NodeOk n h)
theorem t_i_RowText:C_i_RowText TT:=fun r h=>tells hmix (by kernel_rfl) (r_i_RowText t_i_CellText r h)
theorem t_i_RowAt1:C_i_RowAt1 TT:=fun r key=>tells hmix (by kernel_rfl) (r_i_RowAt1 r key)
theorem t_z_IndexFuncimplRowAt1:C_z_IndexFuncimplRowAt1 TT:=fun l key hl=>tellsV hmix (f:=175) (k:=176) (x:=x_z_IndexFuncimplRowAt1) (by kernel_rfl) (by decide) (r_z_IndexFuncimplRowAt1 t_i_RowAt1 l key hl)
theorem t_i_RowAt:C_i_RowAt TT:=fun t key hl=>tells hmix (by kernel_rfl) (r_i_RowAt t_z_IndexFuncimplRowAt1 t key hl)
theorem t_s_RowAt:C_s_RowAt TT:=fun t key hl=>tells hmix (by kernel_rfl) (r_s_RowAt t key hl)
theorem t_i_NodeGet:C_i_NodeGet TT:=fun n key h=>tells hmix (by kernel_rfl) (r_i_NodeGet t_i_isUp t_i_RowAt t_i_RowText n key h)
theorem t_s_l10Copy:C_s_l10Copy TT:=fun d h=>tells hmix (by kernel_rfl) (r_s_l10Copy d h)
theorem t_i_copyTab:C_i_copyTab TT:=fun t h=>tells hmix (by kernel_rfl) (r_i_copyTab t_i_copyRow t h)
theorem t_s_l12Copy:C_s_l12Copy TT:=fun t h=>tells hmix (by kernel_rfl) (r_s_l12Copy t_s_l9Copy t h)
theorem t_i_copyStore:C_i_copyStore TT:=fun s h=>tells hmix (by kernel_rfl) (r_i_copyStore t_i_copyDev t_i_copyTab s h)
theorem t_s_l13Copy:C_s_l13Copy TT:=fun s h=>tells hmix (by kernel_rfl) (r_s_l13Copy t_s_l10Copy t_s_l12Copy s h)
theorem t_i_copyNode:C_i_copyNode TT:=fun n h=>tells hmix (by kernel_rfl) (r_i_copyNode t_i_copyStore n h)
theorem t_s_l15Copy:C_s_l15Copy TT:=fun n h=>tells hmix (by kernel_rfl) (r_s_l15Copy t_s_l13Copy n h)
theorem t_i_withMark:C_i_withMark TT:=fun l m h=>tells hmix (by kernel_rfl) (r_i_withMark l m h)
theorem t_s_l12Put:C_s_l12Put TT:=fun l m h=>tells hmix (by kernel_rfl) (r_s_l12Put l m h)
theorem t_i_withRow:C_i_withRow TT:=fun l r h hr=>tells hmix (by kernel_rfl) (r_i_withRow t_i_copyRow l r h hr)
theorem t_s_l12Row:C_s_l12Row TT:=fun l r h hr=>tells hmix (by kernel_rfl) (r_s_l12Row t_s_l9Copy l r h hr)
theorem t_i_Apply1:C_i_Apply1 TT:=fun x r=>tells hmix (by kernel_rfl) (r_i_Apply1 x r)
theorem t_z_IndexFuncimplApply1:C_z_IndexFuncimplApply1 TT:=fun l r hl=>tellsV hmix (f:=175) (k:=309) (x:=x_z_IndexFuncimplApply1) (by kernel_rfl) (by decide) (r_z_IndexFuncimplApply1 t_i_Apply1 l r hl)
theorem t_z_DeleteFuncimplApply1:C_z_DeleteFuncimplApply1 TT:=fun l r hl=>tellsV hmix (f:=308) (k:=309) (x:=x_z_DeleteFuncimplApply1) (by kernel_rfl) (by decide) (r_z_DeleteFuncimplApply1 t_z_IndexFuncimplApply1 t_i_Apply1 l r hl)
theorem t_i_Apply:C_i_Apply TT:=fun t r ht hr=>tells hmix (by kernel_rfl) (r_i_Apply t_i_copyTab t_i_RecOk t_i_TabOk t_i_withRow t_z_DeleteFuncimplApply1 t_i_withMark t r ht hr)
theorem t_s_Apply:C_s_Apply TT:=fun t r ht hr=>tells hmix (by kernel_rfl) (r_s_Apply t_s_l12Copy t_s_TabOk t_s_RecOk t_s_l12Row t_s_RowAt t_s_l12Put t r ht hr)
theorem t_i_Lay:C_i_Lay TT:=fun s h=>tells hmix (by kernel_rfl) (r_i_Lay t_i_copyStore t_i_StoreOk t_i_RecsOf t_i_laid s h)
theorem t_i_Add:C_i_Add TT:=fun s r hs hr=>tells hmix (by kernel_rfl) (r_i_Add t_i_copyStore t_i_Apply t_i_StoreOk t_i_Lay t_i_sectorOf t_i_PutRec t_i_WriteSec t_i_FlushDev s r hs hr)
theorem t_i_added:C_i_added TT:=fun n r hn hr=>tells hmix (by kernel_rfl) (r_i_added t_i_Add n r hn hr)
theorem t_s_l13Add:C_s_l13Add TT:=fun s r hk hd hT hr=>tells hmix (by kernel_rfl) (r_s_l13Add t_s_Apply t_s_l13Lay t_s_l13At t_s_PutRec t_s_l10Write t_s_l10Flush s r hk hd hT hr)
theorem t_i_MarkAt:C_i_MarkAt TT:=fun t who hl=>tells hmix (by kernel_rfl) (r_i_MarkAt t who hl)
theorem t_s_MarkAt:C_s_MarkAt TT:=fun t who hl=>tells hmix (by kernel_rfl) (r_s_MarkAt t who hl)
theorem t_i_mayAsk:C_i_mayAsk TT:=fun who seq=>tells hmix (by kernel_rfl) (r_i_mayAsk t_i_within who seq)
theorem t_i_askedBefore:C_i_askedBefore TT:=fun n who seq hl=>tells hmix (by kernel_rfl) (r_i_askedBefore t_i_MarkAt n who seq hl)
theorem t_s_l15Old:C_s_l15Old TT:=fun n who seq h=>tells hmix (by kernel_rfl) (r_s_l15Old t_s_l15Up t_s_l1In t_s_MarkAt n who seq h)
theorem t_i_change:C_i_change TT:=fun n who seq r code hn hr=>tells hmix (by kernel_rfl) (r_i_change t_i_added n who seq r code hn hr)
theorem t_i_delRec:C_i_delRec TT:=fun n key hn hk=>tells hmix (by kernel_rfl) (r_i_delRec t_i_NameOk t_i_RowAt n key hn hk)
theorem t_i_NodeDel:C_i_NodeDel TT:=fun n who seq key hn hk=>tells hmix (by kernel_rfl) (r_i_NodeDel t_i_isUp t_i_mayAsk t_i_copyNode t_i_askedBefore t_i_delRec t_i_change n who seq key hn hk)
theorem t_i_SignByte:C_i_SignByte TT:=fun cs n=>tells hmix (by kernel_rfl) (r_i_SignByte t_i_ByteSign cs n)
theorem t_s_SignByte:C_s_SignByte TT:=fun cs n=>tells hmix (by kernel_rfl) (r_s_SignByte t_s_ByteSign cs n)
theorem t_i_SignPair:C_i_SignPair TT:=fun n=>tells hmix (by kernel_rfl) (r_i_SignPair t_i_within n)
theorem t_s_SignPair:C_s_SignPair TT:=fun n=>tells hmix (by kernel_rfl) (r_s_SignPair t_s_l1In n)
theorem t_i_PutEuc:C_i_PutEuc TT:=fun b n hb=>tells hmix (by kernel_rfl) (r_i_PutEuc t_i_within t_i_joined t_i_SignPair b n hb)
theorem t_s_PutEuc:C_s_PutEuc TT:=fun b n hb=>tells hmix (by kernel_rfl) (r_s_PutEuc t_s_l1In t_s_SignPair b n hb)
theorem t_s_Signs:C_s_Signs TT:=fun s hs=>tells hmix (by kernel_rfl) (r_s_Signs t_s_GetSign s hs)
theorem t_i_putIn:C_i_putIn TT:=fun cs b n hb=>tells hmix (by kernel_rfl) (r_i_putIn t_i_PutSign t_i_PutEuc t_i_SignByte cs b n hb)
theorem t_s_l5Put:C_s_l5Put TT:=fun cs b n hb hn=>tells hmix (by kernel_rfl) (r_s_l5Put t_s_PutSign t_s_SignOk t_s_PutEuc t_s_SignByte cs b n hb hn)
theorem t_i_Encode:C_i_Encode TT:=fun cs s hs=>tells hmix (by kernel_rfl) (r_i_Encode t_i_Signs t_i_isSet t_i_putIn cs s hs)
theorem t_s_Encode:C_s_Encode TT:=fun cs s hs=>tells hmix (by kernel_rfl) (r_s_Encode t_s_Signs t_s_l5Cs t_s_l5Put cs s hs)
theorem t_i_CellOf:C_i_CellOf TT:=fun tag s hs=>tells hmix (by kernel_rfl) (r_i_CellOf t_i_Encode t_i_CellOk tag s hs)
theorem t_s_CellOf:C_s_CellOf TT:=fun tag s hs=>tells hmix (by kernel_rfl) (r_s_CellOf t_s_Encode tag s hs)
theorem t_s_Turn:C_s_Turn TT:=fun c tag hc hs=>tells hmix (by kernel_rfl) (r_s_Turn t_s_CellText t_s_CellOf t_s_l8Copy c tag hc hs)
theorem t_s_FillRow:C_s_FillRow TT:=fun r h=>tells hmix (by kernel_rfl) (r_s_FillRow t_s_l9Copy t_s_RowOk t_s_l9New t_s_Turn r h)
theorem t_s_CutRow:C_s_CutRow TT:=fun r h=>tells hmix (by kernel_rfl) (r_s_CutRow t_s_l9Copy t_s_RowOk t_s_l9New r h)
theorem t_s_BackRow:C_s_BackRow TT:=fun r h=>tells hmix (by kernel_rfl) (r_s_BackRow t_s_l9Copy t_s_RowOk t_s_l9New t_s_l9Old r h)
theorem t_s_l15Turn:C_s_l15Turn TT:=fun p r h hp=>tells hmix (by kernel_rfl) (r_s_l15Turn t_s_FillRow t_s_CutRow t_s_BackRow p r h hp)
theorem t_i_RowOf:C_i_RowOf TT:=fun ph key cs s hk hs=>tells hmix (by kernel_rfl) (r_i_RowOf t_i_CellOf t_i_within t_i_NameOk ph key cs s hk hs)
theorem t_s_RowOf:C_s_RowOf TT:=fun ph key cs s hk hs=>tells hmix (by kernel_rfl) (r_s_RowOf t_s_CellOf t_s_l1In t_s_NameOk ph key cs s hk hs)
theorem t_i_putRec:C_i_putRec TT:=fun n key s hn hk hs=>tells hmix (by kernel_rfl) (r_i_putRec t_i_RowOf t_i_RowAt n key s hn hk hs)
theorem t_i_NodePut:C_i_NodePut TT:=fun n who seq key s hn hk hs=>tells hmix (by kernel_rfl) (r_i_NodePut t_i_isUp t_i_mayAsk t_i_copyNode t_i_askedBefore t_i_putRec t_i_change n who seq key s hn hk hs)
theorem t_s_l15End:C_s_l15End TT:=fun n r hu hn hr=>tells hmix (by kernel_rfl) (r_s_l15End t_s_l15Copy t_s_l13Add n r hu hn hr)
theorem t_s_NodeDel:C_s_NodeDel TT:=fun n who seq key hn hk=>tells hmix (by kernel_rfl) (r_s_NodeDel t_s_l15Old t_s_l15Copy t_s_NameOk t_s_RowAt t_s_l15End n who seq key hn hk)
theorem t_s_NodePut:C_s_NodePut TT:=fun n who seq key s hn hk hs=>tells hmix (by kernel_rfl) (r_s_NodePut t_s_l15Old t_s_l15Copy t_s_RowOf t_s_RowAt t_s_l15End n who seq key s hn hk hs)
theorem t_s_NodePhase:C_s_NodePhase TT:=fun n p hn=>tells hmix (by kernel_rfl) (r_s_NodePhase t_s_l15Copy t_s_l15Up t_s_NextOk t_s_l13Add n p hn)
theorem t_s_NodeLoad:C_s_NodeLoad TT:=fun n key b hn hk hb=>tells hmix (by kernel_rfl) (r_s_NodeLoad t_s_l15Copy t_s_l15Up t_s_NameOk t_s_Decode t_s_l13Add n key b hn hk hb)
theorem t_s_l12SameCell:C_s_l12SameCell TT:=fun a c=>tells hmix (by kernel_rfl) (r_s_l12SameCell a c)
theorem t_s_l12SameRow:C_s_l12SameRow TT:=fun a c=>tells hmix (by kernel_rfl) (r_s_l12SameRow t_s_l12SameCell a c)
theorem t_s_NodeStep:C_s_NodeStep TT:=fun n f hn=>tells hmix (by kernel_rfl) (r_s_NodeStep t_s_l15Copy t_s_l15Up t_s_Walks t_s_l15Turn t_s_l12SameRow t_s_l13Add n f hn)
theorem t_s_l3Cs:C_s_l3Cs TT:=by
 intro c hc
 obtain ⟨r0,⟨r,d,hP,rfl⟩,hr⟩:=r_s_l3Cs t_s_l1Below c hc
 exact ⟨r,d,hP,tells hmix (x:=x_s_l3Cs) (by kernel_rfl) hr⟩
theorem t_s_l5Bytes:C_s_l5Bytes TT:=by
 intro c cs hc
 obtain ⟨r0,⟨b,d,hP,rfl⟩,hr⟩:=r_s_l5Bytes t_s_l5Text t_s_Encode t_s_l1Below t_s_l1Bend t_s_l1Int c cs hc
 exact ⟨b,d,hP,tells hmix (x:=x_s_l5Bytes) (by kernel_rfl) hr⟩
theorem t_s_l15Do:C_s_l15Do TT:=by
 intro c n g hc hn hg
 obtain ⟨r0,⟨m,d,hP,rfl⟩,hr⟩:=r_s_l15Do t_s_l1Below t_s_NodePhase t_s_l1Name t_s_NodeDel t_s_l5Bytes t_s_NodeLoad t_s_l1Str t_s_NodeStep t_s_l1Int t_s_l5Text t_s_NodePut c n g hc hn hg
 exact ⟨m,d,hP,tells hmix (x:=x_s_l15Do) (by kernel_rfl) hr⟩
theorem t_s_l15Draw:C_s_l15Draw TT:=by
 intro c most hc hm
 obtain ⟨r0,⟨n,d,hP,rfl⟩,hr⟩:=r_s_l15Draw t_s_l3Cs t_s_NodeNew t_s_l1Below t_s_l15Do c most hc hm
 exact ⟨n,d,hP,tells hmix (x:=x_s_l15Draw) (by kernel_rfl) hr⟩
theorem t_s_DrawNode:C_s_DrawNode TT:=by
 intro l hl
 obtain ⟨r0,⟨n,hP,rfl⟩,hr⟩:=r_s_DrawNode t_s_l1New t_s_l15Draw l hl
 exact ⟨n,hP,tells hmix (x:=x_s_DrawNode) (by kernel_rfl) hr⟩
theorem t_l_sameCell:C_l_sameCell TT:=fun a=>tells hmix (by kernel_rfl) (r_l_sameCell a)
theorem t_l_sameRow:C_l_sameRow TT:=fun a=>tells hmix (by kernel_rfl) (r_l_sameRow t_l_sameCell a)
theorem t_l_sameDev:C_l_sameDev TT:=fun d h=>tells hmix (by kernel_rfl) (r_l_sameDev d h)
theorem t_l_sameTab:C_l_sameTab TT:=fun t h=>tells hmix (by kernel_rfl) (r_l_sameTab t_l_sameRow t h)
theorem t_l_sameStore:C_l_sameStore TT:=fun s h=>tells hmix (by kernel_rfl) (r_l_sameStore t_l_sameDev t_l_sameTab s h)
theorem t_l_sameNode:C_l_sameNode TT:=fun n h=>tells hmix (by kernel_rfl) (r_l_sameNode t_l_sameStore n h)
theorem t_l_FnNodes:C_l_FnNodes TT:=fun code h=>tells hmix (by kernel_rfl) (r_l_FnNodes t_l_big t_s_DrawNode t_l_at t_i_NodePut t_i_NodeOk t_l_sameNode t_i_NodeGet t_i_NodeDel code h)
end Go.X

