/- Texts: XSet XDet XPtr XOpen. -/
import Derived.Test.YtmmjaijeeeilcaaGreatDoorD01
import Derived.SizedLaws
import Derived.Deep.Slices
import Derived.ChangeArms
import Derived.WideShapes
import Derived.Below
set_option linter.unusedVariables false
set_option linter.unusedSimpArgs false
namespace Go.X
section
variable {α:Type} {Te:Nat→List AV→Res→Prop}
theorem bif_cases {c:Bool} {p q:Prg α} {st:St} {Q:α→St→Prop} (h1:c=true→runP Te p st Q) (h2:c=false→runP Te q st Q):runP Te (bif c then p else q) st Q:=by
 cases c
 ·exact h2 rfl
 ·exact h1 rfl
section
variable {s:List (Nat×SV)} {b:List (Nat×List Cel)} {r:List (Nat×List T)} {na base:Nat} {Q:Post}
theorem C_skip:runC Te na base .skip ⟨s,b,r⟩ Q=Q .nrm ⟨s,b,r⟩:=rfl
theorem C_reg {os:List GOp}:runC Te na base (.reg os) ⟨s,b,r⟩ Q=runOps Te os ⟨s,b,r⟩ (Q .nrm):=rfl
theorem C_draw {os:List GOp} {es:List (List Nat)}:runC Te na base (.draw os es) ⟨s,b,r⟩ Q=runDraw Te os ⟨s,b,r⟩ [] (fun st' l=>drawOk es l=true∧Q .nrm st'):=rfl
theorem C_seq {x y:XCode}:runC Te na base (.seq x y) ⟨s,b,r⟩ Q=runC Te na base x ⟨s,b,r⟩ (Then (fun st'=>runC Te na base y st' Q) Q):=rfl
theorem C_block {i:Nat} {x:XCode}:runC Te na base (.block i x) ⟨s,b,r⟩ Q=runC Te na base x ⟨s,b,r⟩ (InBlock i Q):=rfl
theorem C_norm {ks:List Nat} {x:XCode}:runC Te na base (.norm ks x) ⟨s,b,r⟩ Q=runC Te na base x (norm na base ks ⟨s,b,r⟩) Q:=rfl
theorem C_exit {i:Nat}:runC Te na base (.exit i) ⟨s,b,r⟩ Q=Q (.exit i) ⟨s,b,r⟩:=rfl
theorem C_ret:runC Te na base .ret ⟨s,b,r⟩ Q=Q .ret ⟨s,b,r⟩:=rfl
def condC (v:Option SV) (p q:Prop):Prop:=match v with
 | some (.one (.pv (.bool c)))=>(c=true→p)∧(c=false→q)
 | _=>False
theorem C_cond {t:Nat} {x y:XCode}:runC Te na base (.cond t x y) ⟨s,b,r⟩ Q=condC (get s t) (runC Te na base x ⟨s,b,r⟩ Q) (runC Te na base y ⟨s,b,r⟩ Q):=rfl
theorem C_c {t:Nat} {x:XCode}:runC Te na base (.c t x) ⟨s,b,r⟩ Q=condC (get s t) (runC Te na base x ⟨s,b,r⟩ Q) (Q .nrm ⟨s,b,r⟩):=rfl
theorem C_q {os:List GOp} {x:XCode}:runC Te na base (.q os x) ⟨s,b,r⟩ Q=runOps Te os ⟨s,b,r⟩ (fun st'=>runC Te na base x st' Q):=rfl
theorem condC_some {c:Bool} {p q:Prop}:condC (some (.one (.pv (.bool c)))) p q=((c=true→p)∧(c=false→q)):=rfl
theorem T_nrm {K:St→Prop}:Then K Q .nrm ⟨s,b,r⟩=K ⟨s,b,r⟩:=rfl
theorem T_ret {K:St→Prop}:Then K Q .ret ⟨s,b,r⟩=Q .ret ⟨s,b,r⟩:=rfl
theorem T_exit {K:St→Prop} {i:Nat}:Then K Q (.exit i) ⟨s,b,r⟩=Q (.exit i) ⟨s,b,r⟩:=rfl
theorem B_nrm {i:Nat}:InBlock i Q .nrm ⟨s,b,r⟩=Q .nrm ⟨s,b,r⟩:=rfl
theorem B_ret {i:Nat}:InBlock i Q .ret ⟨s,b,r⟩=Q .ret ⟨s,b,r⟩:=rfl
theorem B_exit {i:Nat}:InBlock i Q (.exit i) ⟨s,b,r⟩=Q .nrm ⟨s,b,r⟩:=if_pos rfl
theorem B_out {i j:Nat} (h:(j==i)=false):InBlock i Q (.exit j) ⟨s,b,r⟩=Q (.exit j) ⟨s,b,r⟩:=if_neg (by simpa using h)
theorem E_nrm {as:List AV} {rs:List RV} {r0:Res}:EndFn Te as rs r0 .nrm ⟨s,b,r⟩=runP Te (leaveP as rs) ⟨s,b,r⟩ (fun r _=>r=r0):=by simp [EndFn]
theorem E_ret {as:List AV} {rs:List RV} {r0:Res}:EndFn Te as rs r0 .ret ⟨s,b,r⟩=runP Te (leaveP as rs) ⟨s,b,r⟩ (fun r _=>r=r0):=by simp [EndFn]
theorem O_nil {K:St→Prop}:runOps Te [] ⟨s,b,r⟩ K=K ⟨s,b,r⟩:=rfl
theorem O_cons {o:GOp} {os:List GOp} {K:St→Prop}:runOps Te (o::os) ⟨s,b,r⟩ K=runP Te o.prg ⟨s,b,r⟩ (fun _ st'=>runOps Te os st' K):=rfl
theorem D_nil {l:List Log} {K:St→List Log→Prop}:runDraw Te [] ⟨s,b,r⟩ l K=K ⟨s,b,r⟩ l:=rfl
theorem D_cons {o:GOp} {os:List GOp} {l:List Log} {K:St→List Log→Prop}:runDraw Te (o::os) ⟨s,b,r⟩ l K=runL Te o.prg ⟨s,b,r⟩ [] [] (fun _ st' rd wr=>runDraw Te os st' (l++[(rd,wr)]) K):=rfl
end
section
variable {s:List (Nat×SV)} {b:List (Nat×List Cel)} {r:List (Nat×List T)} {Q:α→St→Prop}
def onSome {β γ:Type} (d:γ) (v:Option β) (f:β→γ):γ:=match v with | some x=>f x | none=>d
def onNone {β γ:Type} (d:γ) (v:Option β) (f:γ):γ:=match v with | some _=>d | none=>f
theorem onSome_some {β γ:Type} {d:γ} {x:β} {f:β→γ}:onSome d (some x) f=f x:=rfl
theorem onNone_none {β γ:Type} {d:γ} {f:γ}:onNone d (none:Option β) f=f:=rfl
theorem C_up {na base x o i:Nat} {a:XCode} {Q:Post}:runC Te na base (.up x o i a) ⟨s,b,r⟩ Q=onSome False (get b x) fun cs=>onSome False (cs[o]?) fun c=>upC c fun z=>onNone False (get r i) (runC Te na base a ⟨s,rep b x (cs.take o++[.rf i 0 [] z 0 0]++cs.drop (o + 1)),rep r i [.sl true z () []]⟩ Q):=by
 simp only [runC,upQ,onSome,onNone]
 cases get b x with
 | none=>rfl
 | some cs =>
  simp only
  cases cs[o]? with
  | none=>rfl
  | some c =>
   simp only
   cases c <;> simp only [upC]
   cases get r i <;> rfl
theorem upC_nils {z:Nat} {f:Nat→Prop}:upC (.nils z) f=f z:=rfl
theorem P_done {x:α}:runP Te (.done x) ⟨s,b,r⟩ Q=Q x ⟨s,b,r⟩:=rfl
theorem P_gs {t:Nat} {k:SV→Prg α}:runP Te (.gs t k) ⟨s,b,r⟩ Q=runP Te (k ((get s t).getD .un)) ⟨s,b,r⟩ Q:=rfl
theorem P_ss {t:Nat} {v:SV} {k:Prg α}:runP Te (.ss t v k) ⟨s,b,r⟩ Q=runP Te k ⟨put s t v,b,r⟩ Q:=rfl
theorem P_gb {t:Nat} {k:List Cel→Prg α}:runP Te (.gb t k) ⟨s,b,r⟩ Q=onSome False (get b t) (fun cs=>runP Te (k cs) ⟨s,b,r⟩ Q):=by simp only [runP,onSome,onNone]; cases get b t <;> rfl
theorem P_sb {t:Nat} {v:List Cel} {k:Prg α}:runP Te (.sb t v k) ⟨s,b,r⟩ Q=onSome False (get b t) (fun _=>runP Te k ⟨s,rep b t v,r⟩ Q):=by simp only [runP,onSome,onNone]; cases get b t <;> rfl
theorem P_nb {t:Nat} {v:List Cel} {k:Prg α}:runP Te (.nb t v k) ⟨s,b,r⟩ Q=onNone False (get b t) (runP Te k ⟨s,rep b t v,r⟩ Q):=by simp only [runP,onSome,onNone]; cases get b t <;> rfl
theorem P_gr {t:Nat} {k:List T→Prg α}:runP Te (.gr t k) ⟨s,b,r⟩ Q=onSome False (get r t) (fun cs=>runP Te (k cs) ⟨s,b,r⟩ Q):=by simp only [runP,onSome,onNone]; cases get r t <;> rfl
theorem P_sr {t:Nat} {v:List T} {k:Prg α}:runP Te (.sr t v k) ⟨s,b,r⟩ Q=onSome False (get r t) (fun _=>runP Te k ⟨s,b,rep r t v⟩ Q):=by simp only [runP,onSome,onNone]; cases get r t <;> rfl
theorem P_nr {t:Nat} {v:List T} {k:Prg α}:runP Te (.nr t v k) ⟨s,b,r⟩ Q=onNone False (get r t) (runP Te k ⟨s,b,rep r t v⟩ Q):=by simp only [runP,onSome,onNone]; cases get r t <;> rfl
theorem P_chk {c:Bool} {k:Prg α}:runP Te (.chk c k) ⟨s,b,r⟩ Q=(c=true∧runP Te k ⟨s,b,r⟩ Q):=rfl
theorem P_ov {o:Option Value} {k:Value→Prg α}:runP Te (.ov o k) ⟨s,b,r⟩ Q=onSome False o (fun v=>runP Te (k v) ⟨s,b,r⟩ Q):=by cases o <;> rfl
def CallP (Te:Nat→List AV→Res→Prop) (f:Nat) (as:List AV) (k:Res→Prg α) (st:St) (Q:α→St→Prop):Prop:=∃ x,Te f as x∧runP Te (k x) st Q
theorem P_call {f:Nat} {as:List AV} {k:Res→Prg α}:runP Te (.call f as k) ⟨s,b,r⟩ Q=CallP Te f as k ⟨s,b,r⟩ Q:=rfl
theorem CallP.of {f:Nat} {as:List AV} {k:Res→Prg α} {st:St} {x:Res} (h:Te f as x) (hk:runP Te (k x) st Q):CallP Te f as k st Q:=⟨x,h,hk⟩
theorem P_all {c:St→Bool} {k:Prg α} (h:c ⟨s,b,r⟩=true):runP Te (.all c k) ⟨s,b,r⟩ Q=runP Te k ⟨s,b,r⟩ Q:=propext ⟨fun h=>h.2,fun q=>⟨⟨_,fun _=>rfl,fun _=>rfl,h⟩,q⟩⟩
theorem P_flat {f:Bool} {c:St→Bool} {k:Prg α} (h:c ⟨s,b,r⟩=true):runP Te (bif f then k else .all c k) ⟨s,b,r⟩ Q=runP Te k ⟨s,b,r⟩ Q:=by
 cases f
 ·exact P_all h
 ·rfl
end
section
variable {s:List (Nat×SV)} {b:List (Nat×List Cel)} {r:List (Nat×List T)} {rd wr:List Loc} {Q:α→St→List Loc→List Loc→Prop}
theorem L_done {x:α}:runL Te (.done x) ⟨s,b,r⟩ rd wr Q=Q x ⟨s,b,r⟩ rd wr:=rfl
theorem L_gs {t:Nat} {k:SV→Prg α}:runL Te (.gs t k) ⟨s,b,r⟩ rd wr Q=runL Te (k ((get s t).getD .un)) ⟨s,b,r⟩ (.s t::rd) wr Q:=rfl
theorem L_ss {t:Nat} {v:SV} {k:Prg α}:runL Te (.ss t v k) ⟨s,b,r⟩ rd wr Q=runL Te k ⟨put s t v,b,r⟩ rd (.s t::wr) Q:=rfl
theorem L_gb {t:Nat} {k:List Cel→Prg α}:runL Te (.gb t k) ⟨s,b,r⟩ rd wr Q=onSome False (get b t) (fun cs=>runL Te (k cs) ⟨s,b,r⟩ (.b t::rd) wr Q):=by simp only [runL,onSome,onNone]; cases get b t <;> rfl
theorem L_sb {t:Nat} {v:List Cel} {k:Prg α}:runL Te (.sb t v k) ⟨s,b,r⟩ rd wr Q=onSome False (get b t) (fun _=>runL Te k ⟨s,rep b t v,r⟩ (.b t::rd) (.b t::wr) Q):=by simp only [runL,onSome,onNone]; cases get b t <;> rfl
theorem L_nb {t:Nat} {v:List Cel} {k:Prg α}:runL Te (.nb t v k) ⟨s,b,r⟩ rd wr Q=onNone False (get b t) (runL Te k ⟨s,rep b t v,r⟩ (.b t::rd) (.b t::wr) Q):=by simp only [runL,onSome,onNone]; cases get b t <;> rfl
theorem L_gr {t:Nat} {k:List T→Prg α}:runL Te (.gr t k) ⟨s,b,r⟩ rd wr Q=onSome False (get r t) (fun cs=>runL Te (k cs) ⟨s,b,r⟩ (.r t::rd) wr Q):=by simp only [runL,onSome,onNone]; cases get r t <;> rfl
theorem L_sr {t:Nat} {v:List T} {k:Prg α}:runL Te (.sr t v k) ⟨s,b,r⟩ rd wr Q=onSome False (get r t) (fun _=>runL Te k ⟨s,b,rep r t v⟩ (.r t::rd) (.r t::wr) Q):=by simp only [runL,onSome,onNone]; cases get r t <;> rfl
theorem L_nr {t:Nat} {v:List T} {k:Prg α}:runL Te (.nr t v k) ⟨s,b,r⟩ rd wr Q=onNone False (get r t) (runL Te k ⟨s,b,rep r t v⟩ (.r t::rd) (.r t::wr) Q):=by simp only [runL,onSome,onNone]; cases get r t <;> rfl
theorem L_chk {c:Bool} {k:Prg α}:runL Te (.chk c k) ⟨s,b,r⟩ rd wr Q=(c=true∧runL Te k ⟨s,b,r⟩ rd wr Q):=rfl
theorem L_ov {o:Option Value} {k:Value→Prg α}:runL Te (.ov o k) ⟨s,b,r⟩ rd wr Q=onSome False o (fun v=>runL Te (k v) ⟨s,b,r⟩ rd wr Q):=by cases o <;> rfl
theorem L_all {c:St→Bool} {k:Prg α} (h:c ⟨s,b,r⟩=true):runL Te (.all c k) ⟨s,b,r⟩ rd wr Q=runL Te k ⟨s,b,r⟩ (.all::rd) wr Q:=propext ⟨fun h=>h.2,fun q=>⟨⟨_,fun _=>rfl,fun _=>rfl,h⟩,q⟩⟩
def CallL (Te:Nat→List AV→Res→Prop) (f:Nat) (as:List AV) (k:Res→Prg α) (st:St) (rd wr:List Loc) (Q:α→St→List Loc→List Loc→Prop):Prop:=∃ x,Te f as x∧runL Te (k x) st rd wr Q
theorem L_call {f:Nat} {as:List AV} {k:Res→Prg α}:runL Te (.call f as k) ⟨s,b,r⟩ rd wr Q=CallL Te f as k ⟨s,b,r⟩ rd wr Q:=rfl
theorem CallL.of {f:Nat} {as:List AV} {k:Res→Prg α} {st:St} {x:Res} (h:Te f as x) (hk:runL Te (k x) st rd wr Q):CallL Te f as k st rd wr Q:=⟨x,h,hk⟩
end
end
theorem loop_of {Te:Nat→List AV→Res→Prop} {σ:Type} (f:σ→St) (inv:σ→Prop) (μ:σ→Nat) (x0:σ) {na base:Nat} {ks:List Nat} {x:XCode} {st:St} {Q:Post} (h0:norm na base ks st=f x0) (h1:inv x0)
  (hr:∀ y,inv y→runC Te na base x (f y) (Then (fun s'=>∃ z,norm na base ks s'=f z∧inv z∧μ z < μ y) Q)):runC Te na base (.loop ks x) st Q:=by
 refine ⟨fun k s=>∃ y,s=f y∧inv y∧μ y=k,μ x0,⟨x0,h0,h1,rfl⟩,?_⟩
 rintro k s ⟨y,rfl,h2,rfl⟩
 have e:(Then (fun s'=>∃ z,norm na base ks s'=f z∧inv z∧μ z < μ y) Q)=Then (fun s'=>∃ k',k' < μ y∧∃ z,norm na base ks s'=f z∧inv z∧μ z=k') Q:=by
  funext ex s
  cases ex with
  | nrm=>exact propext ⟨fun ⟨z,q1,q2,q3⟩=>⟨_,q3,z,q1,q2,rfl⟩,fun ⟨_,q3,z,q1,q2,q4⟩=>⟨z,q1,q2,by omega⟩⟩
  | _=>rfl
 have:=hr y h2
 rw [e] at this
 exact this
theorem rng_of {Te:Nat→List AV→Res→Prop} {σ:Type} (s:ByteArray) (f:Nat→σ→St) (inv:Nat→σ→Prop) (x0:σ) {na base B src ta tb tc td:Nat} {ks:List Nat} {x:XCode} {st:St} {Q:Post} (hs:get st.s src=some (.one (.pv (.string s)))) (hb:st.b=[])
  (h0:∀ r,norm na base ks (rngIn st ta tb r s)=f r x0) (h1:inv 0 x0) (hf:∀ r y,(f r y).b=[]∧get (f r y).s tb=some (itV r))
  (hr:∀ r p y,inv p y→p < s.size→runC Te na base x (rngOn (f r y) tc td p (Utf8.decode s p).1) (Then (fun s'=>∃ z,norm na base ks s'=f r z∧inv (p + (Utf8.decode s p).2) z) (InBlock B Q)))
  (ho:∀ r p y,inv p y→s.size≤p→Q .nrm (rngOff (f r y) tc td)):runC Te na base (.rng B src ta tb tc td ks x) st Q:=by
 unfold runC
 rw [hs]
 refine ⟨hb,fun r p s1=>∃ y,s1=f r y∧inv p y,fun r=>⟨x0,h0 r,h1⟩,?_,?_,?_⟩
 ·rintro r p s1 ⟨y,rfl,_⟩
  exact hf r y
 ·rintro r p s1 ⟨y,rfl,hi⟩ hp
  have:=hr r p y hi hp
  have e:(Then (fun s'=>∃ z,norm na base ks s'=f r z∧inv (p + (Utf8.decode s p).2) z) (InBlock B Q))=Then (fun s'=>∃ y,norm na base ks s'=f r y∧inv (p + (Utf8.decode s p).2) y) (InBlock B Q):=rfl
  rw [e] at this
  exact this
 ·rintro r p s1 ⟨y,rfl,hi⟩ hp
  exact ho r p y hi hp
theorem lentLL_map {α:Type} (f:α→List T):∀ l:List α,lentLL (l.map f)=l.map fun x=>lentL (f x)
 | []=>rfl
 | x::l=>by simp only [List.map_cons,lentLL,lentLL_map f l]
theorem wholeLL_map {α:Type} (f:α→List T):∀ l:List α,wholeLL (l.map f)=l.all fun x=>wholeL (f x)
 | []=>rfl
 | x::l=>by simp only [List.map_cons,wholeLL,wholeLL_map f l,List.all_cons]
theorem noRoLL_map {α:Type} (f:α→List T):∀ l:List α,noRoLL (l.map f)=l.all fun x=>noRoL (f x)
 | []=>rfl
 | x::l=>by simp only [List.map_cons,noRoLL,noRoLL_map f l,List.all_cons]
theorem flat_map {α:Type} (f:α→List T):∀ l:List α,flat (l.map f)=l.all fun x=>(f x).all isPv
 | []=>rfl
 | x::l=>by simp only [List.map_cons,flat,flat_map f l,List.all_cons]
theorem flat_nil {τ:Type}:flat (τ:=τ) []=true:=rfl
theorem flat_cons {τ:Type} (r:List (Tr τ)) (rs:List (List (Tr τ))):flat (r::rs)=(r.all isPv&&flat rs):=rfl
theorem flat_append {τ:Type}:∀ (r s:List (List (Tr τ))),flat (r++s)=(flat r&&flat s)
 | [],s=>rfl
 | a::r,s=>by rw [List.cons_append,flat_cons,flat_cons,flat_append r s,Bool.and_assoc]
theorem all_yes {α:Type} (l:List α):(l.all fun _=>true)=true:=by simp
theorem N_norm {na base:Nat} {ks:List Nat} {s:List (Nat×SV)} {b:List (Nat×List Cel)} {r:List (Nat×List T)}:norm na base ks ⟨s,b,r⟩=normS na base ⟨s,b,r⟩ (pickS s ks):=rfl
theorem take_map {α β:Type} (f:α→β) (l:List α):(l.map f).take l.length=l.map f:=by rw [List.take_of_length_le (by simp)]
theorem bI_add (k:IntKind) (a b:Int):binV .add (.int k a) (.int k b)=some (.int k (k.wrap (a + b))):=by simp [binV]
theorem bI_sub (k:IntKind) (a b:Int):binV .sub (.int k a) (.int k b)=some (.int k (k.wrap (a - b))):=by simp [binV]
theorem bI_mul (k:IntKind) (a b:Int):binV .mul (.int k a) (.int k b)=some (.int k (k.wrap (a * b))):=by simp [binV]
theorem bI_eql (k:IntKind) (a b:Int):binV .eql (.int k a) (.int k b)=some (.bool (a==b)):=by simp [binV]
theorem bI_neq (k:IntKind) (a b:Int):binV .neq (.int k a) (.int k b)=some (.bool (a != b)):=by simp [binV]
theorem bI_lss (k:IntKind) (a b:Int):binV .lss (.int k a) (.int k b)=some (.bool (decide (a < b))):=by simp [binV]
theorem bI_leq (k:IntKind) (a b:Int):binV .leq (.int k a) (.int k b)=some (.bool (decide (a≤b))):=by simp [binV]
theorem bI_gtr (k:IntKind) (a b:Int):binV .gtr (.int k a) (.int k b)=some (.bool (decide (a > b))):=by simp [binV]
theorem bI_geq (k:IntKind) (a b:Int):binV .geq (.int k a) (.int k b)=some (.bool (decide (a≥b))):=by simp [binV]
theorem some_fn (f:IntKind→Int→Int→Int):∃ g,g=f:=⟨f,rfl⟩
noncomputable def andK:IntKind→Int→Int→Int:=Classical.choose (some_fn fun k a b=>k.wrap (BitVec.ofInt k.bits a &&& BitVec.ofInt k.bits b).toNat)
theorem andK_def (k:IntKind) (a b:Int):andK k a b=k.wrap (BitVec.ofInt k.bits a &&& BitVec.ofInt k.bits b).toNat:=congrFun (congrFun (congrFun (Classical.choose_spec (some_fn fun k a b=>k.wrap (BitVec.ofInt k.bits a &&& BitVec.ofInt k.bits b).toNat)) k) a) b
theorem bI_and (k:IntKind) (a b:Int):binV .and (.int k a) (.int k b)=some (.int k (andK k a b)):=by simp [binV,andK_def]
noncomputable def orK:IntKind→Int→Int→Int:=Classical.choose (some_fn fun k a b=>k.wrap (BitVec.ofInt k.bits a ||| BitVec.ofInt k.bits b).toNat)
theorem orK_def (k:IntKind) (a b:Int):orK k a b=k.wrap (BitVec.ofInt k.bits a ||| BitVec.ofInt k.bits b).toNat:=congrFun (congrFun (congrFun (Classical.choose_spec (some_fn fun k a b=>k.wrap (BitVec.ofInt k.bits a ||| BitVec.ofInt k.bits b).toNat)) k) a) b
theorem bI_or (k:IntKind) (a b:Int):binV .or (.int k a) (.int k b)=some (.int k (orK k a b)):=by simp [binV,orK_def]
noncomputable def xorK:IntKind→Int→Int→Int:=Classical.choose (some_fn fun k a b=>k.wrap (BitVec.ofInt k.bits a ^^^ BitVec.ofInt k.bits b).toNat)
theorem xorK_def (k:IntKind) (a b:Int):xorK k a b=k.wrap (BitVec.ofInt k.bits a ^^^ BitVec.ofInt k.bits b).toNat:=congrFun (congrFun (congrFun (Classical.choose_spec (some_fn fun k a b=>k.wrap (BitVec.ofInt k.bits a ^^^ BitVec.ofInt k.bits b).toNat)) k) a) b
theorem bI_xor (k:IntKind) (a b:Int):binV .xor (.int k a) (.int k b)=some (.int k (xorK k a b)):=by simp [binV,xorK_def]
theorem bI_quo (k:IntKind) (a b:Int):binV .quo (.int k a) (.int k b)=bif !(b==0) then some (.int k (k.wrap (a.tdiv b))) else none:=by simp [binV]
theorem bI_rem (k:IntKind) (a b:Int):binV .rem (.int k a) (.int k b)=bif !(b==0) then some (.int k (a.tmod b)) else none:=by simp [binV]
theorem bI_shl (k k':IntKind) (a b:Int):binV .shl (.int k a) (.int k' b)=bif decide (0≤b) then some (.int k (k.wrap (a * 2 ^ (Nat.min b.toNat k.bits)))) else none:=by simp [binV]
theorem bI_shr (k k':IntKind) (a b:Int):binV .shr (.int k a) (.int k' b)=bif decide (0≤b) then some (.int k (a.fdiv (2 ^ (Nat.min b.toNat k.bits)))) else none:=by simp [binV]
theorem bytes_beq (a b:ByteArray):(a.toList==b.toList)=decide (a=b):=by
 rcases a with ⟨⟨a⟩⟩
 rcases b with ⟨⟨b⟩⟩
 by_cases h:a=b
 ·subst h; simp
 ·have:¬ (ByteArray.toList ⟨⟨a⟩⟩=ByteArray.toList ⟨⟨b⟩⟩):=by
   rw [ByteArray.toList_eq,ByteArray.toList_eq]
   exact h
  rw [decide_eq_false (by simpa using h)]
  simpa using this
theorem bS_eql (a b:ByteArray):binV .eql (.string a) (.string b)=some (.bool (decide (a=b))):=by simp [binV,← bytes_beq]
theorem bS_neq (a b:ByteArray):binV .neq (.string a) (.string b)=some (.bool (!decide (a=b))):=by simp [binV,← bytes_beq]
theorem bS_lss (a b:ByteArray):binV .lss (.string a) (.string b)=some (.bool (Op.bytesLess a.toList b.toList)):=by simp [binV]
theorem bS_leq (a b:ByteArray):binV .leq (.string a) (.string b)=some (.bool (Op.bytesLess a.toList b.toList||a.toList==b.toList)):=by simp [binV]
theorem bS_gtr (a b:ByteArray):binV .gtr (.string a) (.string b)=some (.bool (!(Op.bytesLess a.toList b.toList||a.toList==b.toList))):=by simp [binV]
theorem bS_geq (a b:ByteArray):binV .geq (.string a) (.string b)=some (.bool (!Op.bytesLess a.toList b.toList)):=by simp [binV]
theorem bS_add (a b:ByteArray):binV .add (.string a) (.string b)=bif decide (a.size + b.size≤4294967296) then some (.string (a++b)) else none:=by simp [binV]
theorem rows_sl {τ:Type} {o:Bool} {z:Nat} {h:τ} {rs:List (List (Tr τ))}:Tr.rows (.sl o z h rs)=rs:=rfl
theorem lenB {α:Type} (l:List α):decide (l.length≤l.length)=true:=by simp
theorem condC_true {p q:Prop}:condC (some (.one (.pv (.bool true)))) p q=p:=by simp [condC]
theorem condC_false {p q:Prop}:condC (some (.one (.pv (.bool false)))) p q=q:=by simp [condC]
theorem condC_congr {v v':Option SV} {p q:Prop} (h:v=v'):condC v p q=condC v' p q:=by rw [h]
theorem cond_congr {β:Type} {c c':Bool} {p q:β} (h:c=c'):cond c p q=cond c' p q:=by rw [h]
theorem onSome_congr {β γ:Type} {d:γ} {v v':Option β} {f:β→γ} (h:v=v'):onSome d v f=onSome d v' f:=by rw [h]
theorem onNone_congr {β γ:Type} {d:γ} {v v':Option β} {f:γ} (h:v=v'):onNone d v f=onNone d v' f:=by rw [h]
attribute [congr] condC_congr cond_congr onSome_congr onNone_congr
theorem imp_tb {c b:Bool}:(c=b→True)=True:=by simp
theorem get_hit {α:Type} {l:List (Nat×α)} {k:Nat} {v:α}:get ((k,v)::l) k=some v:=by simp [get]
attribute [go_sem ↓] get_hit
attribute [go_sem high] condC_true condC_false
attribute [go_sem] P_flat imp_tb upC_nils enterV_eq VN deadRo
attribute [go_sem] true_implies false_implies Opd.i Opd.F Opd.T Cel.i Cel.F Cel.e GOp.op GOp.m GOp.v GOp.f GOp.l GOp.L GOp.s GOp.b GOp.B GOp.i GOp.F GOp.T GOp.a GOp.r GOp.x GOp.n GOp.N GOp.e GOp.y GOp.z GOp.c
attribute [go_sem ↓] C_q C_c C_skip C_reg C_draw C_seq C_block C_norm C_up C_exit C_ret C_cond T_nrm T_ret T_exit B_nrm B_ret B_exit B_out E_nrm E_ret O_nil O_cons D_nil D_cons P_done P_gs P_ss P_gb P_sb P_nb P_gr P_sr P_nr P_chk P_ov P_call P_all
 L_done L_gs L_ss L_gb L_sb L_nb L_gr L_sr L_nr L_chk L_ov L_call L_all
attribute [go_sem] bI_add bI_sub bI_mul bI_eql bI_neq bI_lss bI_leq bI_gtr bI_geq bI_and bI_or bI_xor bI_quo bI_rem bI_shl bI_shr bS_eql bS_neq bS_lss bS_leq bS_gtr bS_geq bS_add
attribute [go_sem] rows_sl noLower lower SV.lower noLowerR lowerR lowerC SV.lowerS N_norm lentLL_map wholeLL_map noRoLL_map flat_map flat_nil flat_cons flat_append all_yes List.all_map List.getElem?_map Int.toNat_natCast Int.natCast_nonneg Function.comp_def isPv takeRows List.length_map List.length_replicate List.length_append condC_some onSome_some onNone_none GOp.prg COp.prg Opd.ev evL evPs enterSt enterS enterB enterR slotOf celOf plant get rep put fin cond_true cond_false Option.getD_some Option.getD_none AV.ts AV.slot
 nat? opt? withCels SV.cels takeC takeL lendC lendL node putAt fillC lentOwn passOwn passLend callP backP slotsP slots boxesOf loneN ptrOuts ioP plains plainV takeW takeWs keyOf lone backC backL newSl srcP appP readR readO leaveP leaveR leaveO resV goneC wholeLL wholeL whole noRoL noRo noRoLL lentLL lentL lent
 normS normB normWith pickS keepB olds idx renR renC renV renVs refC refV refVs boxV boxVs argR newR
 List.length_cons List.length_nil Nat.reduceAdd Nat.reduceMul Nat.reduceBEq beq_self_eq_true Nat.reduceLT Nat.reduceLeDiff Int.reduceLE Int.reduceLT Int.reduceToNat Int.reduceBEq Int.reduceBNe Int.reduceNe decide_true decide_false Bool.or_true Bool.or_false Bool.true_or Bool.false_or Bool.and_true Bool.true_and Bool.and_false Bool.false_and Bool.not_true Bool.not_false
 beq_true beq_false true_and and_true List.nil_append List.cons_append List.append_nil List.map_cons List.map_nil List.flatMap_cons List.flatMap_nil Option.bind_some Option.bind_none Option.map_some Option.map_none
 List.take_succ_cons List.drop_succ_cons List.take_zero List.drop_zero List.take_nil List.drop_nil List.getElem?_cons_zero List.getElem?_cons_succ List.getElem?_nil List.getD_cons_zero List.getD_cons_succ List.contains_cons List.contains_nil Nat.reduceSub Nat.zero_add Nat.add_zero
 List.set_cons_zero List.set_cons_succ atP setP List.zipIdx_cons List.all_cons List.all_nil List.any_cons List.any_nil lenB take_map List.take_length Bool.and_eq_true hasRf isRf
 Bool.true_eq_false Bool.false_eq_true reduceCtorEq
noncomputable def stopA:Nat:=Classical.choose (p:=fun n=>n=0) ⟨0,rfl⟩
theorem stop_eq:stopA=0:=Classical.choose_spec (p:=fun n=>n=0) ⟨0,rfl⟩
section
variable {α:Type} {Te:Nat→List AV→Res→Prop}
theorem gs_congr {z0:Nat} {t:Nat} {k:SV→Prg α} (h0:stopA=z0):Prg.gs t k=Prg.gs t k:=rfl
theorem ss_congr {z0:Nat} {t:Nat} {v v':SV} {k:Prg α} (h:v=v') (h0:stopA=z0):Prg.ss t v k=Prg.ss t v' k:=by rw [h]
theorem gb_congr {z0:Nat} {t:Nat} {k:List Cel→Prg α} (h0:stopA=z0):Prg.gb t k=Prg.gb t k:=rfl
theorem sb_congr {z0:Nat} {t:Nat} {v v':List Cel} {k:Prg α} (h:v=v') (h0:stopA=z0):Prg.sb t v k=Prg.sb t v' k:=by rw [h]
theorem nb_congr {z0:Nat} {t:Nat} {v v':List Cel} {k:Prg α} (h:v=v') (h0:stopA=z0):Prg.nb t v k=Prg.nb t v' k:=by rw [h]
theorem gr_congr {z0:Nat} {t:Nat} {k:List T→Prg α} (h0:stopA=z0):Prg.gr t k=Prg.gr t k:=rfl
theorem sr_congr {z0:Nat} {t:Nat} {v v':List T} {k:Prg α} (h:v=v') (h0:stopA=z0):Prg.sr t v k=Prg.sr t v' k:=by rw [h]
theorem nr_congr {z0:Nat} {t:Nat} {v v':List T} {k:Prg α} (h:v=v') (h0:stopA=z0):Prg.nr t v k=Prg.nr t v' k:=by rw [h]
theorem chk_congr {z0:Nat} {c c':Bool} {k:Prg α} (h:c=c') (h0:stopA=z0):Prg.chk c k=Prg.chk c' k:=by rw [h]
theorem ov_congr {z0:Nat} {o o':Option Value} {k:Value→Prg α} (h:o=o') (h0:stopA=z0):Prg.ov o k=Prg.ov o' k:=by rw [h]
theorem call_congr {z0:Nat} {f:Nat} {as as':List AV} {k:Res→Prg α} (h:as=as') (h0:stopA=z0):Prg.call f as k=Prg.call f as' k:=by rw [h]
theorem runP_congr {z0:Nat} {p p':Prg α} {st st':St} {Q:α→St→Prop} (h:p=p') (h2:st=st') (h0:stopA=z0):runP Te p st Q=runP Te p' st' Q:=by rw [h,h2]
theorem runL_congr {z0:Nat} {p p':Prg α} {st st':St} {rd rd' wr wr':List Loc} {Q:α→St→List Loc→List Loc→Prop} (h:p=p') (h2:st=st') (h3:rd=rd') (h4:wr=wr') (h0:stopA=z0):runL Te p st rd wr Q=runL Te p' st' rd' wr' Q:=by rw [h,h2,h3,h4]
theorem runOps_congr {z0:Nat} {os:List GOp} {st st':St} {Q:St→Prop} (h2:st=st') (h0:stopA=z0):runOps Te os st Q=runOps Te os st' Q:=by rw [h2]
theorem takeL_congr {z0:Nat} {xs xs':List Cel} {k:List T→Prg α} (h:xs=xs') (h0:stopA=z0):takeL xs k=takeL xs' k:=by rw [h]
theorem takeC_congr {z0:Nat} {xs xs':Cel} {k:T→Prg α} (h:xs=xs') (h0:stopA=z0):takeC xs k=takeC xs' k:=by rw [h]
theorem lendL_congr {z0:Nat} {xs xs':List Cel} {k:List T→Prg α} (h:xs=xs') (h0:stopA=z0):lendL xs k=lendL xs' k:=by rw [h]
theorem lendC_congr {z0:Nat} {xs xs':Cel} {k:T→Prg α} (h:xs=xs') (h0:stopA=z0):lendC xs k=lendC xs' k:=by rw [h]
theorem leaveO_congr {z0:Nat} {i:Nat} {xs xs':List AV} {k:List (List T)→Prg α} (h:xs=xs') (h0:stopA=z0):leaveO i xs k=leaveO i xs' k:=by rw [h]
theorem resV_congr {z0:Nat} {v v':SV} {k:AV→Prg α} (h:v=v') (h0:stopA=z0):resV v k=resV v' k:=by rw [h]
theorem leaveR_congr {z0:Nat} {rs rs':List RV} {k:List AV→Prg α} (h:rs=rs') (h0:stopA=z0):leaveR rs k=leaveR rs' k:=by rw [h]
theorem node_congr {z0:Nat} {cs cs':List T} {c:Nat} {p p':List (Nat×Nat)} {z:Nat} {k:List (List T)→Prg α} (h:cs=cs') (h2:p=p') (h0:stopA=z0):node cs c p z k=node cs' c p' z k:=by rw [h,h2]
theorem withCels_congr {z0:Nat} {v v':SV} {k:List Cel→Prg α} (h:v=v') (h0:stopA=z0):withCels v k=withCels v' k:=by rw [h]
theorem passOwn_congr {z0:Nat} {ms ms':List Nat} {vs vs':List SV} {k:List (Option AV)→Prg α} (h:ms=ms') (h2:vs=vs') (h0:stopA=z0):passOwn ms vs k=passOwn ms' vs' k:=by rw [h,h2]
theorem passLend_congr {z0:Nat} {vs vs':List SV} {as as':List (Option AV)} {k:List AV→Prg α} (h:vs=vs') (h2:as=as') (h0:stopA=z0):passLend vs as k=passLend vs' as' k:=by rw [h,h2]
theorem backC_congr {z0:Nat} {c c':Cel} {t t':T} {k:Prg α} (h:c=c') (h2:t=t') (h0:stopA=z0):backC c t k=backC c' t' k:=by rw [h,h2]
theorem backL_congr {z0:Nat} {c c':List Cel} {t t':List T} {k:Prg α} (h:c=c') (h2:t=t') (h0:stopA=z0):backL c t k=backL c' t' k:=by rw [h,h2]
theorem backP_congr {z0:Nat} {d:Nat} {ms ms':List Nat} {vs vs':List SV} {os os':List (List T)} {n n':Nat} {k:Prg α} (h:ms=ms') (h2:vs=vs') (h3:os=os') (h4:n=n') (h0:stopA=z0):backP d ms vs os n k=backP d ms' vs' os' n' k:=by rw [h,h2,h3,h4]
theorem evL_congr {z0:Nat} {xs xs':List Opd} {k:List SV→Prg α} (h:xs=xs') (h0:stopA=z0):evL xs k=evL xs' k:=by rw [h]
theorem runDraw_congr {z0:Nat} {os:List GOp} {st st':St} {l l':List Log} {Q:St→List Log→Prop} (h2:st=st') (h3:l=l') (h0:stopA=z0):runDraw Te os st l Q=runDraw Te os st' l' Q:=by rw [h2,h3]
theorem CallP_congr {z0:Nat} {f:Nat} {as as':List AV} {k:Res→Prg α} {st st':St} {Q:α→St→Prop} (h:as=as') (h2:st=st') (h0:stopA=z0):CallP Te f as k st Q=CallP Te f as' k st' Q:=by rw [h,h2]
theorem CallL_congr {z0:Nat} {f:Nat} {as as':List AV} {k:Res→Prg α} {st st':St} {rd rd' wr wr':List Loc} {Q:α→St→List Loc→List Loc→Prop} (h:as=as') (h2:st=st') (h3:rd=rd') (h4:wr=wr') (h0:stopA=z0):CallL Te f as k st rd wr Q=CallL Te f as' k st' rd' wr' Q:=by rw [h,h2,h3,h4]
attribute [congr] runDraw_congr CallP_congr CallL_congr resV_congr leaveR_congr node_congr withCels_congr passOwn_congr passLend_congr backC_congr backL_congr backP_congr evL_congr gs_congr ss_congr gb_congr sb_congr nb_congr gr_congr sr_congr nr_congr chk_congr ov_congr call_congr runP_congr runL_congr runOps_congr takeL_congr takeC_congr lendL_congr lendC_congr leaveO_congr
end
attribute [go_sem] stop_eq
end Go.X

namespace Go.X
section
variable {α:Type} {Te:Nat→List AV→Res→Prop}
theorem runP_det:∀ (p:Prg α) (st:St) (Q:α→St→Prop),runP Te p st Q→∃ a st',Q a st'∧∀ Q':α→St→Prop,Q' a st'→runP Te p st Q'
 | .done a,st,Q,h=>⟨a,st,h,fun _ h=>h⟩
 | .fail,st,Q,h=>h.elim
 | .gs t k,st,Q,h=>runP_det (k _) st Q h
 | .ss t v k,st,Q,h=>runP_det k _ Q h
 | .gb t k,st,Q,h=>by
  simp only [runP] at h ⊢
  split at h
  ·exact runP_det (k _) st Q h
  ·exact h.elim
 | .sb t v k,st,Q,h=>by
  simp only [runP] at h ⊢
  split at h
  ·exact runP_det k _ Q h
  ·exact h.elim
 | .nb t v k,st,Q,h=>by
  simp only [runP] at h ⊢
  split at h
  ·exact h.elim
  ·exact runP_det k _ Q h
 | .gr t k,st,Q,h=>by
  simp only [runP] at h ⊢
  split at h
  ·exact runP_det (k _) st Q h
  ·exact h.elim
 | .sr t v k,st,Q,h=>by
  simp only [runP] at h ⊢
  split at h
  ·exact runP_det k _ Q h
  ·exact h.elim
 | .nr t v k,st,Q,h=>by
  simp only [runP] at h ⊢
  split at h
  ·exact h.elim
  ·exact runP_det k _ Q h
 | .chk c k,st,Q,h=>by
  obtain ⟨a,st',h1,h2⟩:=runP_det k st Q h.2
  exact ⟨a,st',h1,fun Q' q=>⟨h.1,h2 Q' q⟩⟩
 | .ov none k,st,Q,h=>h.elim
 | .ov (some v) k,st,Q,h=>runP_det (k v) st Q h
 | .call f as k,st,Q,h=>by
  obtain ⟨r,hr,h⟩:=h
  obtain ⟨a,st',h1,h2⟩:=runP_det (k r) st Q h
  exact ⟨a,st',h1,fun Q' q=>⟨r,hr,h2 Q' q⟩⟩
 | .all c k,st,Q,h=>by
  obtain ⟨a,st',h1,h2⟩:=runP_det k st Q h.2
  exact ⟨a,st',h1,fun Q' q=>⟨h.1,h2 Q' q⟩⟩
theorem runL_det:∀ (p:Prg α) (st:St) (rd wr:List Loc) (Q:α→St→List Loc→List Loc→Prop),runL Te p st rd wr Q→∃ a st' rd' wr',Q a st' rd' wr'∧∀ Q':α→St→List Loc→List Loc→Prop,Q' a st' rd' wr'→runL Te p st rd wr Q'
 | .done a,st,rd,wr,Q,h=>⟨a,st,rd,wr,h,fun _ h=>h⟩
 | .fail,st,rd,wr,Q,h=>h.elim
 | .gs t k,st,rd,wr,Q,h=>runL_det (k _) st _ _ Q h
 | .ss t v k,st,rd,wr,Q,h=>runL_det k _ _ _ Q h
 | .gb t k,st,rd,wr,Q,h=>by
  simp only [runL] at h ⊢
  split at h
  ·exact runL_det (k _) st _ _ Q h
  ·exact h.elim
 | .sb t v k,st,rd,wr,Q,h=>by
  simp only [runL] at h ⊢
  split at h
  ·exact runL_det k _ _ _ Q h
  ·exact h.elim
 | .nb t v k,st,rd,wr,Q,h=>by
  simp only [runL] at h ⊢
  split at h
  ·exact h.elim
  ·exact runL_det k _ _ _ Q h
 | .gr t k,st,rd,wr,Q,h=>by
  simp only [runL] at h ⊢
  split at h
  ·exact runL_det (k _) st _ _ Q h
  ·exact h.elim
 | .sr t v k,st,rd,wr,Q,h=>by
  simp only [runL] at h ⊢
  split at h
  ·exact runL_det k _ _ _ Q h
  ·exact h.elim
 | .nr t v k,st,rd,wr,Q,h=>by
  simp only [runL] at h ⊢
  split at h
  ·exact h.elim
  ·exact runL_det k _ _ _ Q h
 | .chk c k,st,rd,wr,Q,h=>by
  obtain ⟨a,st',rd',wr',h1,h2⟩:=runL_det k st _ _ Q h.2
  exact ⟨a,st',rd',wr',h1,fun Q' q=>⟨h.1,h2 Q' q⟩⟩
 | .ov none k,st,rd,wr,Q,h=>h.elim
 | .ov (some v) k,st,rd,wr,Q,h=>runL_det (k v) st _ _ Q h
 | .call f as k,st,rd,wr,Q,h=>by
  obtain ⟨r,hr,h⟩:=h
  obtain ⟨a,st',rd',wr',h1,h2⟩:=runL_det (k r) st _ _ Q h
  exact ⟨a,st',rd',wr',h1,fun Q' q=>⟨r,hr,h2 Q' q⟩⟩
 | .all c k,st,rd,wr,Q,h=>by
  obtain ⟨a,st',rd',wr',h1,h2⟩:=runL_det k st _ _ Q h.2
  exact ⟨a,st',rd',wr',h1,fun Q' q=>⟨h.1,h2 Q' q⟩⟩
theorem runOps_det:∀ (os:List GOp) (st:St) (Q:St→Prop),runOps Te os st Q→∃ st',Q st'∧∀ Q':St→Prop,Q' st'→runOps Te os st Q'
 | [],st,Q,h=>⟨st,h,fun _ h=>h⟩
 | o::os,st,Q,h=>by
  obtain ⟨a,s1,h1,h2⟩:=runP_det _ _ _ h
  obtain ⟨s2,h3,h4⟩:=runOps_det os s1 Q h1
  exact ⟨s2,h3,fun Q' q=>h2 _ (h4 Q' q)⟩
theorem runDraw_det:∀ (os:List GOp) (st:St) (l:List Log) (Q:St→List Log→Prop),runDraw Te os st l Q→∃ st' l',Q st' l'∧∀ Q':St→List Log→Prop,Q' st' l'→runDraw Te os st l Q'
 | [],st,l,Q,h=>⟨st,l,h,fun _ h=>h⟩
 | o::os,st,l,Q,h=>by
  obtain ⟨a,s1,rd,wr,h1,h2⟩:=runL_det _ _ _ _ _ h
  obtain ⟨s2,l2,h3,h4⟩:=runDraw_det os s1 _ Q h1
  exact ⟨s2,l2,h3,fun Q' q=>h2 _ (h4 Q' q)⟩
def noRng:XCode→Bool
 | .seq a b=>noRng a&&noRng b
 | .cond _ a b=>noRng a&&noRng b
 | .block _ a=>noRng a
 | .loop _ a=>noRng a
 | .norm _ a=>noRng a
 | .up _ _ _ a=>noRng a
 | .rng ..=>false
 | _=>true
theorem runC_det {na base:Nat}:∀ (x:XCode) (st:St) (Q:Post),noRng x=true→runC Te na base x st Q→∃ ex st',Q ex st'∧∀ Q':Post,Q' ex st'→runC Te na base x st Q'
 | .skip,st,Q,_,h=>⟨.nrm,st,h,fun _ h=>h⟩
 | .reg os,st,Q,_,h=>by
  obtain ⟨s,h1,h2⟩:=runOps_det os st _ h
  exact ⟨.nrm,s,h1,fun Q' q=>h2 _ q⟩
 | .draw os es,st,Q,_,h=>by
  obtain ⟨s,l,h1,h2⟩:=runDraw_det os st _ _ h
  exact ⟨.nrm,s,h1.2,fun Q' q=>h2 _ ⟨h1.1,q⟩⟩
 | .seq a b,st,Q,hn,h=>by
  simp only [noRng,Bool.and_eq_true] at hn
  obtain ⟨ex,s,h1,h2⟩:=runC_det a st _ hn.1 h
  cases ex with
  | nrm =>
   obtain ⟨ex2,s2,h3,h4⟩:=runC_det b s Q hn.2 h1
   exact ⟨ex2,s2,h3,fun Q' q=>h2 _ (h4 Q' q)⟩
  | exit i=>exact ⟨_,s,h1,fun Q' q=>h2 _ q⟩
  | ret=>exact ⟨_,s,h1,fun Q' q=>h2 _ q⟩
 | .cond t a b,st,Q,hn,h=>by
  simp only [noRng,Bool.and_eq_true] at hn
  simp only [runC] at h ⊢
  split at h
  ·rename_i c hc
   cases c with
   | true =>
    obtain ⟨ex,s,h1,h2⟩:=runC_det a st Q hn.1 (h.1 rfl)
    exact ⟨ex,s,h1,fun Q' q=>⟨fun _=>h2 Q' q,fun e=>Bool.noConfusion e⟩⟩
   | false =>
    obtain ⟨ex,s,h1,h2⟩:=runC_det b st Q hn.2 (h.2 rfl)
    exact ⟨ex,s,h1,fun Q' q=>⟨fun e=>Bool.noConfusion e,fun _=>h2 Q' q⟩⟩
  ·exact h.elim
 | .block id a,st,Q,hn,h=>by
  simp only [noRng] at hn
  obtain ⟨ex,s,h1,h2⟩:=runC_det a st _ hn h
  cases ex with
  | nrm=>exact ⟨_,s,h1,fun Q' q=>h2 _ q⟩
  | ret=>exact ⟨_,s,h1,fun Q' q=>h2 _ q⟩
  | exit i =>
   by_cases e:i=id
   ·exact ⟨.nrm,s,by simpa only [InBlock,if_pos e] using h1,fun Q' q=>h2 _ (by simpa only [InBlock,if_pos e] using q)⟩
   ·exact ⟨.exit i,s,by simpa only [InBlock,if_neg e] using h1,fun Q' q=>h2 _ (by simpa only [InBlock,if_neg e] using q)⟩
 | .loop ks a,st,Q,hn,h=>by
  simp only [noRng] at hn
  obtain ⟨I,m,h0,hr⟩:=h
  have mono:∀ (s:St) (Q1 Q2:Post),runC Te na base a s Q1→(∀ e s,Q1 e s→Q2 e s)→runC Te na base a s Q2:=fun s Q1 Q2 q1 q2=>by
   obtain ⟨e,s',q3,q4⟩:=runC_det a s Q1 hn q1
   exact q4 Q2 (q2 _ _ q3)
  have key:∀ (n k:Nat),k < n→∀ s,I k s→∃ ex st',Q ex st'∧∀ Q':Post,Q' ex st'→∃ (J:Nat→St→Prop) (m:Nat),J m s∧∀ k s,J k s→runC Te na base a s (Then (fun s'=>∃ k',k' < k∧J k' (norm na base ks s')) Q'):=by
   intro n
   induction n with
   | zero=>intro k hk; omega
   | succ n ih =>
    intro k hk s hs
    obtain ⟨ex,s1,q1,q2⟩:=runC_det a s _ hn (hr k s hs)
    cases ex with
    | nrm =>
     obtain ⟨k',q3,q4⟩:=q1
     obtain ⟨ex2,s2,q5,q6⟩:=ih k' (by omega) _ q4
     refine ⟨ex2,s2,q5,fun Q' q=>?_⟩
     obtain ⟨J,m',q7,q8⟩:=q6 Q' q
     refine ⟨fun k s0=>J k s0∨(k=m' + 1∧s0=s),m' + 1,.inr ⟨rfl,rfl⟩,?_⟩
     rintro k0 s0 (q9 | ⟨rfl,rfl⟩)
     ·refine mono _ _ _ (q8 k0 s0 q9) (fun e s q=>?_)
      cases e with
      | nrm=>obtain ⟨k',z1,z2⟩:=q; exact ⟨k',z1,.inl z2⟩
      | exit i=>exact q
      | ret=>exact q
     ·exact q2 _ ⟨m',by omega,.inl q7⟩
    | exit i=>exact ⟨_,s1,q1,fun Q' q=>⟨fun k s0=>s0=s,0,rfl,fun k s0 e=>by subst e; exact q2 _ q⟩⟩
    | ret=>exact ⟨_,s1,q1,fun Q' q=>⟨fun k s0=>s0=s,0,rfl,fun k s0 e=>by subst e; exact q2 _ q⟩⟩
  exact key (m + 1) m (by omega) _ h0
 | .norm ks a,st,Q,hn,h=>runC_det a _ Q (by simpa only [noRng] using hn) h
 | .up b off r a,st,Q,hn,h=>by
  simp only [noRng] at hn
  simp only [runC,upQ] at h ⊢
  split at h
  ·split at h
   ·rename_i c _
    cases c with
    | nils z =>
     simp only [upC] at h ⊢
     split at h
     ·exact runC_det a _ Q hn h
     ·exact h.elim
    | _=>exact h.elim
   ·exact h.elim
  ·exact h.elim
 | .rng ..,st,Q,hn,h=>by simp [noRng] at hn
 | .exit id,st,Q,_,h=>⟨_,st,h,fun _ h=>h⟩
 | .ret,st,Q,_,h=>⟨_,st,h,fun _ h=>h⟩
end
def EndFnE (Te:Nat→List AV→Res→Prop) (as:List AV) (rs:List RV) (R:Res→Prop):Post:=fun ex st=>(ex = .nrm∨ex = .ret)∧runP Te (leaveP as rs) st (fun r _=>R r)
theorem EE_nrm {Te:Nat→List AV→Res→Prop} {as:List AV} {rs:List RV} {R:Res→Prop} {s:List (Nat×SV)} {b:List (Nat×List Cel)} {r:List (Nat×List T)}:EndFnE Te as rs R .nrm ⟨s,b,r⟩=runP Te (leaveP as rs) ⟨s,b,r⟩ (fun r _=>R r):=by simp [EndFnE]
theorem EE_ret {Te:Nat→List AV→Res→Prop} {as:List AV} {rs:List RV} {R:Res→Prop} {s:List (Nat×SV)} {b:List (Nat×List Cel)} {r:List (Nat×List T)}:EndFnE Te as rs R .ret ⟨s,b,r⟩=runP Te (leaveP as rs) ⟨s,b,r⟩ (fun r _=>R r):=by simp [EndFnE]
attribute [go_sem ↓] EE_nrm EE_ret
theorem some_of {Te:Nat→List AV→Res→Prop} {x:FnX} {as:List AV} {R:Res→Prop} (h1:as.length≤x.n) (hn:noRng x.code=true) (h:runC Te as.length (x.n + as.length) x.code (enterSt as) (EndFnE Te as x.rs R)):∃ r0,R r0∧RunFn Te x as r0:=by
 obtain ⟨ex,st,⟨h2,h3⟩,h4⟩:=runC_det _ _ _ hn h
 obtain ⟨r,st',h5,h6⟩:=runP_det _ _ _ h3
 exact ⟨r,h5,h1,h4 _ ⟨h2,h6 _ rfl⟩⟩
end Go.X

namespace Go.X
structure FnP where
 n:Nat
 t:Nat
 code:XCode
def fnPOk (P:Program) (f:Nat) (x:FnP):Bool :=
 match P.funcs[f]? with
 | some fn=>fn.ntmps==x.n&&decide (f < VN)&&(match fn.results.toList with | [.tmp t]=>t==x.t | _=>false)&&(match fn.body with
  | some c=>codeOk P x.n c x.code
  | none=>false)
 | none=>false
def EndFnP (Te:Nat→List AV→Res→Prop) (as:List AV) (t:Nat) (R:Res→Prop):Post:=fun ex st=>(ex = .nrm∨ex = .ret)∧runP Te (leavePtr as t) st (fun r _=>R r)
def RunFnP (Te:Nat→List AV→Res→Prop) (x:FnP) (as:List AV) (R:Res→Prop):Prop :=
 as.length≤x.n∧runC Te as.length (x.n + as.length) x.code (enterSt as) (EndFnP Te as x.t R)
theorem EP_nrm {Te:Nat→List AV→Res→Prop} {as:List AV} {t:Nat} {R:Res→Prop} {s:List (Nat×SV)} {b:List (Nat×List Cel)} {r:List (Nat×List T)}:EndFnP Te as t R .nrm ⟨s,b,r⟩=runP Te (leavePtr as t) ⟨s,b,r⟩ (fun r _=>R r):=by simp [EndFnP]
theorem EP_ret {Te:Nat→List AV→Res→Prop} {as:List AV} {t:Nat} {R:Res→Prop} {s:List (Nat×SV)} {b:List (Nat×List Cel)} {r:List (Nat×List T)}:EndFnP Te as t R .ret ⟨s,b,r⟩=runP Te (leavePtr as t) ⟨s,b,r⟩ (fun r _=>R r):=by simp [EndFnP]
attribute [go_sem ↓] EP_nrm EP_ret
attribute [go_sem] leavePtr
theorem some_ofP {Te:Nat→List AV→Res→Prop} {x:FnP} {as:List AV} {R:Res→Prop} (hn:noRng x.code=true) (h:RunFnP Te x as R):∃ r0,R r0∧RunFnP Te x as (fun r=>r=r0):=by
 obtain ⟨h1,h⟩:=h
 obtain ⟨ex,st,⟨h2,h3⟩,h4⟩:=runC_det _ _ _ hn h
 obtain ⟨r,st',h5,h6⟩:=runP_det _ _ _ h3
 exact ⟨r,h5,h1,h4 _ ⟨h2,h6 _ rfl⟩⟩
theorem tellsP {P:Program} {KP:Kept} {f:Nat} {x:FnP} {as:List AV} {r0:Res} (hm:P.follows .mixedOrders=true) (hf:fnPOk P f x=true) (h:RunFnP (Tells P KP) x as (fun r=>r=r0)):Tells P KP f as r0:=by
 unfold fnPOk at hf
 split at hf
 ·rename_i fn hfn
  simp only [Bool.and_eq_true,beq_iff_eq,decide_eq_true_eq] at hf
  obtain ⟨⟨⟨h1,h0⟩,h2⟩,h3⟩:=hf
  split at h3
  ·rename_i c hc
   split at h2
   ·rename_i t ht
    simp only [beq_iff_eq] at h2
    subst h2
    rw [← h1] at h3
    obtain ⟨h4,h5⟩:=h
    have hr:fn.results = #[.tmp x.t]:=by
     apply Array.toList_inj.1
     rw [ht]
    rw [tells_small h0]
    refine TellsW.ofPtr hfn hc (by omega) hr fun X eX hX=>by subst eX; exact runC_ok hm hX (by omega) _ _ h3 h5
   ·cases h2
  ·cases h3
 ·cases hf
end Go.X

namespace Go.X
open Go.WideShapes Go.RowKit
theorem sc {p:Prop} (h:p:=by first | exact rfl | decide | exact ⟨by decide,by decide⟩ | exact decide_eq_true (by omega) | exact ⟨decide_eq_true (by omega),decide_eq_true (by omega)⟩):p:=h
theorem sf {p:Prop} (h:p:=by first | decide | exact decide_eq_true (by omega) | exact ⟨decide_eq_true (by omega),decide_eq_true (by omega)⟩):p:=h
structure Hd (p:Prop):Prop where
 h:p
theorem G0 {G p:Prop} (h:p) (s:Hd p→G:=by intro h; (try simp -implicitDefEqProofs (maxSteps:=1000000) only [go_sem]); (repeat refine ⟨sc,?_⟩); exact h.h):G:=s ⟨h⟩
theorem C0 {T G p:Prop} (t:T) (h:p) (s:T→Hd p→G:=by intro t h; (repeat refine ⟨sc,?_⟩); refine .of t ?_; (try simp -implicitDefEqProofs (maxSteps:=1000000) only [go_sem]); (repeat refine ⟨sc,?_⟩); exact h.h):G:=s t ⟨h⟩
theorem F0 {G:Prop} (s:G:=by (try simp -implicitDefEqProofs (maxSteps:=1000000) only [go_sem]); (repeat refine ⟨sc,?_⟩); first | done | rfl | exact sf):G:=s
theorem D0 {T G:Prop} (t:T) (s:T→G:=by intro t; (repeat refine ⟨sc,?_⟩); refine .of t ?_; (try simp -implicitDefEqProofs (maxSteps:=1000000) only [go_sem]); (repeat refine ⟨sc,?_⟩); first | done | rfl | exact sf):G:=s t
theorem G1 {G p A:Prop} (a:A) (h:p) (s:A→Hd p→G:=by intro a h; (try simp -implicitDefEqProofs (maxSteps:=1000000) only [go_sem,a]); (repeat refine ⟨sc,?_⟩); exact h.h):G:=s a ⟨h⟩
theorem C1 {T G p A:Prop} (t:T) (a:A) (h:p) (s:T→A→Hd p→G:=by intro t a h; (repeat refine ⟨sc,?_⟩); refine .of t ?_; (try simp -implicitDefEqProofs (maxSteps:=1000000) only [go_sem,a]); (repeat refine ⟨sc,?_⟩); exact h.h):G:=s t a ⟨h⟩
theorem F1 {G A:Prop} (a:A) (s:A→G:=by intro a; (try simp -implicitDefEqProofs (maxSteps:=1000000) only [go_sem,a]); (repeat refine ⟨sc,?_⟩); first | done | rfl | exact sf):G:=s a
theorem D1 {T G A:Prop} (t:T) (a:A) (s:T→A→G:=by intro t a; (repeat refine ⟨sc,?_⟩); refine .of t ?_; (try simp -implicitDefEqProofs (maxSteps:=1000000) only [go_sem,a]); (repeat refine ⟨sc,?_⟩); first | done | rfl | exact sf):G:=s t a
theorem G2 {G p A B:Prop} (a:A) (b:B) (h:p) (s:A→B→Hd p→G:=by intro a b h; (try simp -implicitDefEqProofs (maxSteps:=1000000) only [go_sem,a,b]); (repeat refine ⟨sc,?_⟩); exact h.h):G:=s a b ⟨h⟩
theorem C2 {T G p A B:Prop} (t:T) (a:A) (b:B) (h:p) (s:T→A→B→Hd p→G:=by intro t a b h; (repeat refine ⟨sc,?_⟩); refine .of t ?_; (try simp -implicitDefEqProofs (maxSteps:=1000000) only [go_sem,a,b]); (repeat refine ⟨sc,?_⟩); exact h.h):G:=s t a b ⟨h⟩
theorem F2 {G A B:Prop} (a:A) (b:B) (s:A→B→G:=by intro a b; (try simp -implicitDefEqProofs (maxSteps:=1000000) only [go_sem,a,b]); (repeat refine ⟨sc,?_⟩); first | done | rfl | exact sf):G:=s a b
theorem D2 {T G A B:Prop} (t:T) (a:A) (b:B) (s:T→A→B→G:=by intro t a b; (repeat refine ⟨sc,?_⟩); refine .of t ?_; (try simp -implicitDefEqProofs (maxSteps:=1000000) only [go_sem,a,b]); (repeat refine ⟨sc,?_⟩); first | done | rfl | exact sf):G:=s t a b
theorem G3 {G p A B C:Prop} (a:A) (b:B) (c:C) (h:p) (s:A→B→C→Hd p→G:=by intro a b c h; (try simp -implicitDefEqProofs (maxSteps:=1000000) only [go_sem,a,b,c]); (repeat refine ⟨sc,?_⟩); exact h.h):G:=s a b c ⟨h⟩
theorem C3 {T G p A B C:Prop} (t:T) (a:A) (b:B) (c:C) (h:p) (s:T→A→B→C→Hd p→G:=by intro t a b c h; (repeat refine ⟨sc,?_⟩); refine .of t ?_; (try simp -implicitDefEqProofs (maxSteps:=1000000) only [go_sem,a,b,c]); (repeat refine ⟨sc,?_⟩); exact h.h):G:=s t a b c ⟨h⟩
theorem F3 {G A B C:Prop} (a:A) (b:B) (c:C) (s:A→B→C→G:=by intro a b c; (try simp -implicitDefEqProofs (maxSteps:=1000000) only [go_sem,a,b,c]); (repeat refine ⟨sc,?_⟩); first | done | rfl | exact sf):G:=s a b c
theorem D3 {T G A B C:Prop} (t:T) (a:A) (b:B) (c:C) (s:T→A→B→C→G:=by intro t a b c; (repeat refine ⟨sc,?_⟩); refine .of t ?_; (try simp -implicitDefEqProofs (maxSteps:=1000000) only [go_sem,a,b,c]); (repeat refine ⟨sc,?_⟩); first | done | rfl | exact sf):G:=s t a b c
theorem G4 {G p A B C D:Prop} (a:A) (b:B) (c:C) (d:D) (h:p) (s:A→B→C→D→Hd p→G:=by intro a b c d h; (try simp -implicitDefEqProofs (maxSteps:=1000000) only [go_sem,a,b,c,d]); (repeat refine ⟨sc,?_⟩); exact h.h):G:=s a b c d ⟨h⟩
theorem C4 {T G p A B C D:Prop} (t:T) (a:A) (b:B) (c:C) (d:D) (h:p) (s:T→A→B→C→D→Hd p→G:=by intro t a b c d h; (repeat refine ⟨sc,?_⟩); refine .of t ?_; (try simp -implicitDefEqProofs (maxSteps:=1000000) only [go_sem,a,b,c,d]); (repeat refine ⟨sc,?_⟩); exact h.h):G:=s t a b c d ⟨h⟩
theorem F4 {G A B C D:Prop} (a:A) (b:B) (c:C) (d:D) (s:A→B→C→D→G:=by intro a b c d; (try simp -implicitDefEqProofs (maxSteps:=1000000) only [go_sem,a,b,c,d]); (repeat refine ⟨sc,?_⟩); first | done | rfl | exact sf):G:=s a b c d
theorem D4 {T G A B C D:Prop} (t:T) (a:A) (b:B) (c:C) (d:D) (s:T→A→B→C→D→G:=by intro t a b c d; (repeat refine ⟨sc,?_⟩); refine .of t ?_; (try simp -implicitDefEqProofs (maxSteps:=1000000) only [go_sem,a,b,c,d]); (repeat refine ⟨sc,?_⟩); first | done | rfl | exact sf):G:=s t a b c d
theorem X0 {Te:TE} {x y:FnX} {as:List AV} {r0:Res} {p:Prop} (e:x=y) (h:p) (s:x=y→Hd p→RunFn Te x as r0:=by intro e h; refine run0 ?_; (try simp -implicitDefEqProofs (maxSteps:=1000000) only [e,go_sem]); (repeat refine ⟨sc,?_⟩); exact h.h):RunFn Te x as r0:=s e ⟨h⟩
theorem X1 {Te:TE} {x y:FnX} {as:List AV} {r0:Res} {p A:Prop} (e:x=y) (a:A) (h:p) (s:x=y→A→Hd p→RunFn Te x as r0:=by intro e a h; refine run0 ?_; (try simp -implicitDefEqProofs (maxSteps:=1000000) only [e,go_sem,a]); (repeat refine ⟨sc,?_⟩); exact h.h):RunFn Te x as r0:=s e a ⟨h⟩
theorem X2 {Te:TE} {x y:FnX} {as:List AV} {r0:Res} {p A B:Prop} (e:x=y) (a:A) (b:B) (h:p) (s:x=y→A→B→Hd p→RunFn Te x as r0:=by intro e a b h; refine run0 ?_; (try simp -implicitDefEqProofs (maxSteps:=1000000) only [e,go_sem,a,b]); (repeat refine ⟨sc,?_⟩); exact h.h):RunFn Te x as r0:=s e a b ⟨h⟩
attribute [go_sem] Option.isSome_some Option.isSome_none
def Old (w:World):Nat→Prop:=fun b=>b < w.heap.size
def RdL (S:Nat→Prop) (w:World) (ts:List T) (vs:List Value):Prop:=ts.length=vs.length∧∀ (k:Nat) (t:T) (v:Value),ts[k]?=some t→vs[k]?=some v→Rd S w t v
theorem RdL.app {S:Nat→Prop} {w:World} {a b:List T} {vs us:List Value} (h:RdL S w a vs) (h':RdL S w b us):RdL S w (a++b) (vs++us) :=
 ⟨by simp [h.1,h'.1],fun k t v ht hv=>by
  by_cases hk:k < a.length
  ·rw [List.getElem?_append_left hk] at ht
   rw [List.getElem?_append_left (by have:=h.1; omega)] at hv
   exact h.2 k t v ht hv
  ·rw [List.getElem?_append_right (by omega)] at ht
   rw [List.getElem?_append_right (by have:=h.1; omega),← h.1] at hv
   exact h'.2 _ t v ht hv⟩
theorem RdL.one {S:Nat→Prop} {w:World} {t:T} {v:Value} (h:Rd S w t v):RdL S w [t] [v]:=⟨rfl,fun k t' v' ht hv=>by
 cases k with
 | zero=>simp at ht hv; subst ht; subst hv; exact h
 | succ k=>simp at ht⟩
def OpT {α:Type} (P:Program) (t:TypeId) (e:α→List T) (p:α→Prop):Prop :=
 ∀ (H:Type) (enc:TypeId×Value→H) (w:World) (fuel:Nat) (cs:List Value) (x:DataW H×List MemPlace),DataW.trod enc P w 0 (fun _=>true) true fuel t cs=some x→
  (∀ n∈x.1.weights P t,n≤140737488351232)→∃ a,p a∧RdL (Old w) w (e a) cs
def FT {α:Type} (P:Program) (fs:List Field) (off z:Nat) (e:α→List T) (p:α→Prop):Prop :=
 ∀ (H:Type) (enc:TypeId×Value→H) (w:World) (n:Nat) (cs:List Value) (xs:List (DataW H×List MemPlace)),
  (∀ (i:Nat) (f:Field),fs[i]?=some f→DataW.trod enc P w 0 (fun _=>true) true n f.type ((cs.drop f.offset).take (P.cellsOf f.type))=xs[i]?)→xs.length=fs.length→
  (∀ m∈DataW.weightsEach P (fs.map (·.type)) (xs.map (·.1)),m≤140737488351232)→cs.length=off + z→∃ a,p a∧RdL (Old w) w (e a) (cs.drop off)
def InI (k:IntKind) (a:Int):Prop:=(Lit.int k a).wf=true
section
variable {P:Program} {t:TypeId}
theorem OpT.int {k:IntKind} (ht:P.underlying t=some (.int k)):OpT P t (fun a=>[.pv (.int k a)]) (InI k):=fun H enc w fuel cs x h _=>by
 obtain ⟨n,rfl,_,hw⟩:=DataW.trod_int ht h
 exact ⟨n,hw,.one (.pv rfl)⟩
theorem OpT.byte (ht:P.underlying t=some (.int .u8)):OpT P t (fun a:UInt8=>[.pv (.int .u8 a.toNat)]) (fun _=>True):=fun H enc w fuel cs x h _=>by
 obtain ⟨n,rfl,_,hw⟩:=DataW.trod_int ht h
 have hn:0≤n∧n≤255:=by
  have hw':=hw
  simp only [Lit.wf,Bool.and_eq_true,decide_eq_true_eq] at hw'
  exact hw'
 refine ⟨UInt8.ofNat n.toNat,trivial,?_⟩
 have e:((UInt8.ofNat n.toNat).toNat:Int)=n:=by rw [UInt8.toNat_ofNat']; omega
 show RdL (Old w) w [.pv (.int .u8 ((UInt8.ofNat n.toNat).toNat:Int))] _
 rw [e]
 exact .one (.pv rfl)
theorem OpT.bool (ht:P.underlying t=some .bool):OpT P t (fun a=>[.pv (.bool a)]) (fun _=>True):=fun H enc w fuel cs x h _=>by
 obtain ⟨n,rfl,_⟩:=DataW.trod_bool ht h
 exact ⟨n,trivial,.one (.pv rfl)⟩
theorem OpT.string (ht:P.underlying t=some .string):OpT P t (fun a=>[.pv (.string a)]) (fun a=>a.size≤140737488351232):=fun H enc w fuel cs x h hw=>by
 obtain ⟨s,rfl,rfl,hs⟩:=DataW.trod_string ht h
 refine ⟨s,?_,.one (.pv rfl)⟩
 have:=hw s.data.toList.length (by simp [DataW.weights])
 simpa using this
theorem old_of_cell {w:World} {ad:Addr} {v:Value} (h:w.cell? ad=some v):ad.block < w.heap.size:=by
 unfold World.cell? at h
 cases hb:w.heap[ad.block]? with
 | none=>simp [hb] at h
 | some _=>exact (Array.getElem?_eq_some_iff.1 hb).1
theorem mem_allW {H:Type} {e:TypeId} {d:DataW H} {n:Nat} (hn:n∈d.weights P e):∀ {l:List (DataW H)},d∈l→n∈DataW.weightsAll P e l
 | [],h=>by cases h
 | y::l,h=>by
  simp only [DataW.weightsAll,List.mem_append]
  rcases List.mem_cons.1 h with rfl | h
  ·exact .inl hn
  ·exact .inr (mem_allW hn h)
theorem OpT.slice {α:Type} {e:TypeId} {en:α→List T} {p:α→Prop} (z B:Nat) (ht:P.underlying t=some (.slice e)) (hc:P.cellsOf e=z) (hB:P.bytesOf e=B) (h:OpT P e en p) :
  OpT P t (fun l:List α=>[.sl false z () (l.map en)]) (fun l=>l.length * B≤140737488351232∧∀ a∈l,p a):=fun H enc w fuel cs x hx hw=>by
 rcases Deep.open_slice ht hx with ⟨rfl,rfl⟩ | ⟨ad,len,cap,m,n,D,Pl,rfl,_,hl,hm,hmm,rfl,hel⟩
 ·refine ⟨[],⟨by simp,fun _ h=>by cases h⟩,.one ?_⟩
  exact Rd.sl (rows:=[]) (fun _ _=>undef) (Nat.le_refl _) (by simp [maxLen]) (fun r hr=>by cases hr) (fun i r j t hr=>by simp at hr) (fun i r j t hr=>by simp at hr)
 ·simp only [if_true] at hmm
  replace hmm:=hmm.symm
  subst hmm
  have hel':∀ i,i < len→∃ a,p a∧∃ c:List Value,c.length=z∧RdL (Old w) w (en a) c∧∀ j u,c[j]?=some u→w.cell? (ad.add (i * z + j))=some u:=fun i hi=>by
   obtain ⟨c,h1,h2⟩:=hel i (by omega)
   have hww:∀ k∈(D i).weights P e,k≤140737488351232:=fun k hk=>hw k (by
    simp only [DataW.weights,ht,List.mem_cons,List.mem_append]
    exact .inr (.inl (mem_allW hk (List.mem_map.2 ⟨i,by simpa using hi,rfl⟩))))
   obtain ⟨a,hpa,ha⟩:=h H enc w n c _ h2 hww
   obtain ⟨_,hlen,hcell⟩:=World.cells?_some h1
   refine ⟨a,hpa,c,hlen.trans hc,ha,fun j u hu=>?_⟩
   have hj:j < c.length:=(List.getElem?_eq_some_iff.1 hu).1
   have:=hcell j (by omega)
   rw [hu,Deep.add_add,hc] at this
   exact this
  have:∃ l:List α,l.length=len∧∀ i a,l[i]?=some a→p a∧∃ c:List Value,c.length=z∧RdL (Old w) w (en a) c∧∀ j u,c[j]?=some u→w.cell? (ad.add (i * z + j))=some u:=by
   clear hx hw hel hl
   induction len with
   | zero=>exact ⟨[],rfl,fun i a h=>by simp at h⟩
   | succ len ih =>
    obtain ⟨l,hl,hh⟩:=ih (fun i hi=>hel' i (by omega))
    obtain ⟨a,ha⟩:=hel' len (by omega)
    refine ⟨l++[a],by simp [hl],fun i b hb=>?_⟩
    by_cases hi:i < l.length
    ·exact hh i b (by rwa [List.getElem?_append_left hi] at hb)
    ·have hi':i=len:=by
      have:=(List.getElem?_eq_some_iff.1 hb).1
      simp at this
      omega
     subst hi'
     rw [List.getElem?_append_right (by omega),hl] at hb
     simp at hb
     subst hb
     exact ha
  obtain ⟨l,hll,hh⟩:=this
  have hsz:len * B≤140737488351232:=by
   have z:=hw ((((List.range len).map D).length + ((List.range (cap - len)).map fun j=>D (len + j)).length) * P.bytesOf e) (by simp [DataW.weights,ht])
   rw [hB] at z
   simp only [List.length_map,List.length_range] at z
   exact Nat.le_trans (Nat.mul_le_mul_right _ (by omega)) z
  refine ⟨l,⟨by rw [hll]; exact hsz,fun a ha=>?_⟩,.one ?_⟩
  ·obtain ⟨i,hi,rfl⟩:=List.mem_iff_getElem.1 ha
   exact (hh i _ (List.getElem?_eq_getElem hi)).1
  ·have key:∀ i r j t,(l.map en)[i]?=some r→r[j]?=some t→w.cell? (ad.add (i * z + j))=some ((w.cell? (ad.add (i * z + j))).getD undef)∧Rd (Old w) w t ((w.cell? (ad.add (i * z + j))).getD undef):=fun i r j t hr hj=>by
    rw [List.getElem?_map] at hr
    cases hi:l[i]? with
    | none=>simp [hi] at hr
    | some a =>
     simp [hi] at hr
     subst hr
     obtain ⟨_,c,h1,h2,h3⟩:=hh i a hi
     have hjl:j < c.length:=by rw [← h2.1]; exact (List.getElem?_eq_some_iff.1 hj).1
     have h4:=h3 j c[j] (List.getElem?_eq_getElem hjl)
     rw [h4]
     exact ⟨rfl,h2.2 j t _ hj (List.getElem?_eq_getElem hjl)⟩
   have:=Rd.sl (S:=Old w) (w:=w) (z:=z) (cap:=cap) (a:=some ad) (rows:=l.map en) (fun i j=>(w.cell? (ad.add (i * z + j))).getD undef) (by simp; omega) hm (fun r hr=>by
    obtain ⟨a,ha,rfl⟩:=List.mem_map.1 hr
    obtain ⟨i,hi,rfl⟩:=List.mem_iff_getElem.1 ha
    obtain ⟨_,c,h1,h2,h3⟩:=hh i _ (List.getElem?_eq_getElem hi)
    rw [h2.1,h1]) (fun i r j t hr hj=>by
    obtain ⟨h1,h2⟩:=key i r j t hr hj
    refine ⟨ad,rfl,?_,h1⟩
    have:=old_of_cell h1
    rwa [add_block] at this) (fun i r j t hr hj=>(key i r j t hr hj).2)
   rw [List.length_map,hll] at this
   exact this
theorem FT.one {α:Type} {e:α→List T} {p:α→Prop} {f:Field} {off z:Nat} (ho:f.offset=off) (hc:P.cellsOf f.type=z) (h:OpT P f.type e p):FT P [f] off z e p:=fun H enc w n cs xs hx hl hw hlen=>by
 match xs,hl with
 | [x],_ =>
  have h0:=hx 0 f rfl
  rw [ho,hc,List.take_of_length_le (by rw [List.length_drop]; omega)] at h0
  exact h H enc w n _ x (by simpa using h0) (fun m hm=>hw m (by simp only [List.map_cons,List.map_nil,DataW.weightsEach,List.append_nil]; exact hm))
theorem FT.cons {α β:Type} {e:α→List T} {e':β→List T} {p:α→Prop} {p':β→Prop} {f:Field} {fs:List Field} {off z z':Nat} (ho:f.offset=off) (hc:P.cellsOf f.type=z) (h:OpT P f.type e p) (h':FT P fs (off + z) z' e' p') :
  FT P (f::fs) off (z + z') (fun a:α×β=>e a.1++e' a.2) (fun a=>p a.1∧p' a.2):=fun H enc w n cs xs hx hl hw hlen=>by
 match xs,hl with
 | x::xs,hl =>
  have h0:=hx 0 f rfl
  rw [ho,hc] at h0
  obtain ⟨a,hpa,ha⟩:=h H enc w n _ x (by simpa using h0) (fun m hm=>hw m (by simp only [List.map_cons,DataW.weightsEach,List.mem_append]; exact .inl hm))
  obtain ⟨b,hpb,hb⟩:=h' H enc w n cs xs (fun i g hg=>by simpa using hx (i + 1) g (by simpa using hg)) (by simpa using hl)
   (fun m hm=>hw m (by simp only [List.map_cons,DataW.weightsEach,List.mem_append]; exact .inr hm)) (by omega)
  refine ⟨(a,b),⟨hpa,hpb⟩,?_⟩
  have:=ha.app hb
  rwa [← List.drop_drop,List.take_append_drop] at this
theorem OpT.struct {α β:Type} {e:α→List T} {e':β→List T} {p:α→Prop} {q:β→Prop} {fs:Array Field} {z:Nat} (ht:P.underlying t=some (.struct fs)) (hc:P.cellsOf t=z) (h:FT P fs.toList 0 z e p) (g:α→β) (hg:∀ a,e' (g a)=e a) (hq:∀ a,p a→q (g a)) :
  OpT P t e' q:=fun H enc w fuel cs x hx hw=>by
 obtain ⟨xs,n,_,rfl,hl,hlen,hf⟩:=DataW.trod_struct ht hx
 obtain ⟨a,hpa,ha⟩:=h H enc w n cs xs (fun i f hi=>hf i f (by simpa using hi)) (by simpa using hlen) (fun m hm=>hw m (by simpa only [DataW.weights,ht] using hm)) (by omega)
 exact ⟨g a,hq a hpa,by rw [hg]; simpa using ha⟩
theorem OpT.weaken {α:Type} {e:α→List T} {p q:α→Prop} (h:OpT P t e p) (hq:∀ a,p a→q a):OpT P t e q:=fun H enc w fuel cs x hx hw=>by
 obtain ⟨a,hp,ha⟩:=h H enc w fuel cs x hx hw
 exact ⟨a,hq a hp,ha⟩
theorem OpT.param {α:Type} {e:α→List T} {p:α→Prop} (h:OpT P t e p) {H:Type} {enc:TypeId×Value→H} {W:World} {v:Value} {x:DataW H} {ps:List MemPlace} {ts:List TypeId} {ds:List (DataW H)} (hT:DataW.Trod enc P W 0 (fun _=>true) true t v x ps)
  (hsz:(DataW.weightsEach P ts ds).all (·≤reachBytes)=true) (j:Nat) (hj:ts[j]?=some t) (hd:ds[j]?=some x):∃ a,p a∧RdL (Old W) W (e a) v.cells.toList:=by
 obtain ⟨fuel,hf⟩:=hT
 exact h H enc W fuel _ _ hf (fun n hn=>by
  have:=List.all_eq_true.1 hsz _ (DataW.weights_mem_each hj hd n hn)
  exact of_decide_eq_true this)
theorem lt_of_trod {H:Type} {enc:TypeId×Value→H} {W:World} {v:Value} {x:DataW H} {ps:List MemPlace} (h:DataW.Trod enc P W 0 (fun _=>true) true t v x ps):∀ y∈ps,y.block < W.heap.size:=by
 obtain ⟨m,hm⟩:=h
 exact DataW.trod_lt m _ _ _ hm
def RdA (w:World):AV→Value→Prop
 | .one t,v=>Rd (Old w) w t v
 | .agg ts,v=>∃ vs:List Value,v = .agg vs.toArray∧RdL (Old w) w ts vs
 | .ptr _,_=>False
def RdAs (w:World):List AV→List Value→Prop
 | [],[]=>True
 | a::as,v::vs=>RdA w a v∧RdAs w as vs
 | _,_=>False
theorem rdL_ghost {w:World}:∀ {ts:List T} {vs:List Value},RdL (Old w) w ts vs→∃ gs:List G,gs.map er=ts∧gs.map hdr=vs∧∀ t∈gs,Rp (Old w) w t∧∀ b,cnt b t=0
 | [],[],_=>⟨[],rfl,rfl,fun t h=>by cases h⟩
 | t::ts,v::vs,h=>by
  obtain ⟨gs,e1,e2,e3⟩:=rdL_ghost (ts:=ts) (vs:=vs) ⟨by simpa using h.1,fun k t v ht hv=>h.2 (k + 1) t v (by simpa using ht) (by simpa using hv)⟩
  obtain ⟨f1,f2,f3⟩:=gro_ok (h.2 0 t v rfl rfl)
  exact ⟨gro t v::gs,by simp [gro_er,e1],by simp [f1,e2],fun t' ht'=>by
   rcases List.mem_cons.1 ht' with rfl | ht'
   ·exact ⟨f2,f3⟩
   ·exact e3 t' ht'⟩
 | [],_::_,h=>by simp [RdL] at h
 | _::_,[],h=>by simp [RdL] at h
theorem rdAs_ghost {w:World}:∀ {as:List AV} {vs:List Value},RdAs w as vs→∃ gs:List GA,gs.map GA.er=as∧gs.map GA.val=vs∧(∀ x∈gs,x.ok (Old w) w∧noPtr x)∧∀ b,treeCnt b gs + ptrCnt b gs=0
 | [],[],_=>⟨[],rfl,rfl,fun x h=>(by cases h),fun b=>rfl⟩
 | a::as,v::vs,h=>by
  obtain ⟨gs,e1,e2,e3,e4⟩:=rdAs_ghost h.2
  have h1:=h.1
  cases a with
  | one t =>
   obtain ⟨f1,f2,f3⟩:=gro_ok (show Rd (Old w) w t v from h1)
   refine ⟨.one (gro t v)::gs,by simp [GA.er,gro_er,e1],by simp [GA.val,f1,e2],fun x hx=>?_,fun b=>?_⟩
   ·rcases List.mem_cons.1 hx with rfl | hx
    ·exact ⟨⟨fun t ht=>by simp only [GA.ts,List.mem_singleton] at ht; subst ht; exact f2,fun A ts e=>by cases e⟩,trivial⟩
    ·exact e3 x hx
   ·have:=e4 b
    have:=f3 b
    simp only [treeCnt,ptrCnt,List.flatMap_cons,cntL_append,GA.ts,GA.pb,cntL] at *
    omega
  | agg ts =>
   obtain ⟨us,rfl,hR⟩:=h1
   obtain ⟨ys,f1,f2,f3⟩:=rdL_ghost hR
   refine ⟨.agg ys::gs,by simp [GA.er,f1,e1],by simp [GA.val,f2,e2],fun x hx=>?_,fun b=>?_⟩
   ·rcases List.mem_cons.1 hx with rfl | hx
    ·exact ⟨⟨fun t ht=>(f3 t ht).1,fun A ts e=>by cases e⟩,trivial⟩
    ·exact e3 x hx
   ·have h4:=e4 b
    have z:cntL b ys=0:=by
     have:∀ l:List G,(∀ t∈l,cnt b t=0)→cntL b l=0:=fun l=>by
      induction l with
      | nil=>intro _; rfl
      | cons t l ih=>intro h; simp [cntL,h t (List.mem_cons_self ..),ih (fun t ht=>h t (List.mem_cons_of_mem _ ht))]
     exact this _ (fun t ht=>(f3 t ht).2 b)
    simp only [treeCnt,ptrCnt,List.flatMap_cons,cntL_append,GA.ts,GA.pb] at *
    omega
  | ptr=>exact h1.elim
 | [],_::_,h=>h.elim
 | _::_,[],h=>h.elim
theorem asked {KP:Kept} {f:Nat} {as:List AV} {args:Array Value} {w:World} {u:Value} {os:List (List T)} (hT:Tells P KP f as ⟨[.one (.pv u)],os⟩) (ha:RdAs w as args.toList) (hK:KP.ok (Old w) w) (hf:Nat.ble (f + 1) VN=true:=by exact rfl):Calls P f args w fun e w'=>e = .returned u∧Below w.heap.size w w':=by
 obtain ⟨gs,e1,e2,e3,e4⟩:=rdAs_ghost ha
 rw [tells_small (Nat.le_of_ble_eq_true hf)] at hT
 have:=hT (Old w) gs w e1 (fun b h=>h) (fun x hx=>(e3 x hx).1) (fun b=>by have:=e4 b; omega) (fun b hb=>by have:=e4 b; omega) hK
 rw [wrapV,e2] at this
 refine this.mono ?_
 rintro e w1 ⟨rs,os',rfl,er1,er2,hrs,hos,hOut,hc1,hc2,hF,_⟩
 have hrs':rs=[.one (.pv u)]:=by
  cases rs with
  | nil=>simp at er1
  | cons y ys =>
   cases ys with
   | cons=>simp at er1
   | nil =>
    simp at er1
    cases y with
    | one t =>
     simp only [GA.er,AV.one.injEq] at er1
     cases t <;> simp_all [er]
    | _=>simp [GA.er] at er1
 subst hrs'
 exact ⟨rfl,⟨hF.os,hF.tape,hF.output,hF.size,fun b hb=>hF.block b hb (e4 b)⟩⟩
end
end Go.X

