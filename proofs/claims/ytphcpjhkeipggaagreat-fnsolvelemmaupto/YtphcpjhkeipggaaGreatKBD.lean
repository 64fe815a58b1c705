/-
  The symbolic layer, twenty-third text: from a function's code to its contract; what the working out may unfold.
-/
import Derived.Test.YtphcpjhkeipggaaGreatKBC
import Derived.Laws.StructEq
set_option linter.unusedVariables false
set_option linter.unusedSimpArgs false
open Bool renaming and_eq_true→ah,false_eq_true→au,true_and→aA,false_and→aI,not_false→gU,or_eq_true→iH,not_true→kj,not_eq_true'→kO
open Int renaming toNat_natCast→bc,le_refl→nC
open List renaming getElem?_eq_getElem→af,take_of_length_le→aq,mem_cons→az,getD_eq_getElem?_getD→aB,replicate→aE,map_cons→aV,length_cons→aY,cons_append→bI,getElem?_eq_none→bM,getElem?_append_right→bO,getD→ct,take_append_of_le_length→cI,mem_append_left→dI,map_nil→dS,mem_append_right→iq,drop_zero→jy
open Nat renaming le_refl→aK,mul_le_mul_right→bu,eq_of_beq_eq_true→b7,zero_add→eu,add_zero→jw,beq→kP,sub_self→mo
open Option renaming map_some→cZ,map_none→eW,getD_none→iW
namespace Go.Eng
open Go.RowKit
def pad:List PV→Nat→List PV
 | [],0=>[]
 | [],n+1=>.undef::pad [] n
 | l,0=>l
 | a::as,n+1=>a::pad as n
theorem Du:∀(l:List PV)(n:Nat),pad l n=l++aE (n-l.length) .undef
 | [],0=>rfl
 | [],n+1=>by simp[pad,Du [] n,List.replicate_succ]
 | a::as,0=>by simp[pad]
 | a::as,n+1=>by simp[pad,Du as n]
def yl(E:Env)(rs:List ResultVar)(n0:Nat)(R:PV→List (Option En)→Prop)(g:G):Prop:=
 ∃ps m q st',yv E g rs=some ps∧Wk n0 m ⟨[jd ps],g.st⟩ ⟨[q],st'⟩∧R q st'
theorem yl.sat{E:Env}{rs:List ResultVar}{n0:Nat}{R:PV→List (Option En)→Prop}{g:G}(h:yl E rs n0 R g){X:Cx}{ν:Nat→Nm}{a:Act}{w:World}(hp:Par X n0)(hs:Sat E.P X ν g a w){fn:Func}(hfn:fn.results.toList=rs) :
 ∃v res st' ν',(results fn a.tmps).run E.P w= .ok v w∧R res st'∧UZ E.P X ν' res st' v w:=by
 obtain⟨ps,m,q,st',h1,h2,h3⟩:=h
 obtain⟨v,hr,hv⟩:=HA hs (fn:=fn) (by rw[hfn];exact h1)
 have hs1:Sat E.P X ν ⟨[jd ps],g.st⟩ ⟨#[v],[]⟩ w:=by
  refine⟨rfl,fun t=>?_,hs.en,hs.inj,hs.base,hs.nu,hs.par,hs.Jy,hs.Da,rfl⟩;cases t with
  | zero=>exact hv
  | succ t=>simp[nth,aJ]
 obtain⟨ν',hs2⟩:=Qv h2 X ν _ _ hp hs1
 exact⟨v,q,st',ν',hr,h3,hs2⟩
theorem ahI{E:Env}{rs:List ResultVar}{g:G}{ps:List PV}{q:PV}(h1:yv E g rs=some ps)(h2:wk ⟨[jd ps],g.st⟩ [] (jd ps) q):yl E rs 0 (jF q []) g:=
 ⟨ps,[],q,[],h1,⟨by simp only[CR];exact⟨h2,trivial⟩,by simp[nd],rfl,rfl⟩,rfl,rfl⟩
theorem ac6:dm []=[]:=rfl
theorem ZD(x:D)(xs:List D):dm (x::xs)= .d x::dm xs:=rfl
def DK(t:Nat):List (Nat×PV)→PV→PV
 | [],p=>p
 | (d,v)::r,p=>match kP t d with
   | true=>v
   | false=>DK t r p
def dN(n:Nat)(p:PV)(ch:List (Nat×PV)):List PV:=(List.range n).map fun t=>DK t ch p
theorem BR{a b:Nat}:Nat.ble b a=false↔a<b:=by
 cases h:Nat.ble b a;simp only[true_iff];have h':¬b≤a:=fun hl=>by rw[Nat.ble_eq_true_of_le hl] at h;cases h
 omega;have:=Nat.le_of_ble_eq_true h;simp;omega
theorem Bb:∀(l:List PV)(t:Nat),nth l t=l.getD t .any
 | [],t=>by cases t<;>rfl
 | _::_,0=>rfl
 | _::l,t+1=>by simp only[nth,Bb l t];rfl
theorem B3(n:Nat)(p:PV)(ch:List (Nat×PV)):(dN n p ch).length=n:=by simp[dN]
theorem JC(n:Nat)(p:PV)(ch:List (Nat×PV))(t:Nat):nth (dN n p ch) t=match Nat.ble n t with|false=>DK t ch p|true=>.any:=by
 rw[Bb];cases h:Nat.ble n t;have h':t<n:=BR.1 h;simp[dN,ct,h'];have h':¬t<n:=fun hl=>by rw[BR.2 hl] at h;cases h
 simp[dN,ct,h']
theorem Wx{l l':List PV}(hl:l.length=l'.length)(h:∀t,nth l t=nth l' t):l=l':=by refine List.ext_getElem hl fun t h1 h2=>?_;have:=h t;rw[Bb,Bb] at this;simpa[ct,h1,h2] using this
theorem abZ(n:Nat)(p:PV)(ch:List (Nat×PV))(d:Nat)(v:PV):n8 (dN n p ch) d v=dN n p ((d,v)::ch):=by
 refine Wx (by rw[lq,B3,B3]) fun t=>?_;rw[pM,B3,JC,JC];by_cases h:t=d;subst h;by_cases hn:t<n;rw[if_pos ⟨rfl,hn⟩,BR.2 hn];simp only[DK,Nat.beq_refl];rw[if_neg (fun hc=>hn hc.2)];have:Nat.ble n t=true:=by cases hb:Nat.ble n t;exact(hn (BR.1 hb)).elim;rfl
 rw[this];rw[if_neg (fun hc=>h hc.1)];have:kP t d=false:=by cases hb:kP t d;rfl;exact(h (b7 hb)).elim
 simp only[DK,this]
def ixs:Nat→List PV→List (Nat×PV)
 | _,[]=>[]
 | i,a::l=>(i,a)::ixs (i+1) l
theorem TR:∀(l:List PV)(i t:Nat)(p:PV),DK (i+t) (ixs i l) p=l.getD t p
 | [],i,t,p=>by simp[ixs,DK]
 | a::l,i,0,p=>by simp[ixs,DK]
 | a::l,i,t+1,p=>by have:kP (i+(t+1)) i=false:=(by cases hb:kP (i+(t+1)) i;rfl;have:=b7 hb;omega);simp only[ixs,DK,this];have:=TR l (i+1) t p;rw[show i+1+t=i+(t+1) by omega] at this;rw[this];rfl
theorem XD{l:List PV}{n:Nat}(h:l.length≤n):pad l n=dN n .undef (ixs 0 l):=by
 rw[Du];refine Wx (by rw[B3];simp;omega) fun t=>?_;rw[JC,Bb];have:=TR l 0 t .undef;rw[eu] at this;rw[this];cases hb:Nat.ble n t;rotate_left;have h':¬t<n:=fun hl=>by rw[BR.2 hl] at hb;cases hb
 have h1:(l++aE (n-l.length) PV.undef).length≤t:=by simp;omega
 simp only[ct,bM h1,iW];have h':t<n:=BR.1 hb;simp only[ct];by_cases hl:t<l.length;rw[List.getElem?_append_left hl,af hl];rfl;rw[bO oM,List.getElem?_replicate,if_pos oM,bM oM];rfl
def wkC(g:G)(m:List (Option Nat))(ch:List (Nat×PV))(p:PV):List (Nat×PV)→Prop
 | []=>True
 | (t,q)::r=>wk g m (DK t ch p) q∧wkC g m ch p r
theorem afL{g:G}{m:List (Option Nat)}(p:PV):wk g m p .any:=by cases p<;>simp[wk]
theorem aa2{g:G}{m:List (Option Nat)}{ch:List (Nat×PV)}{p:PV}:∀{ch':List (Nat×PV)},wkC g m ch p ch'→∀t,wk g m (DK t ch p) (DK t ch' .any)
 | [],_,t=>by simp only[DK];exact afL _
 | (d,q)::r,h,t=>by simp only[wkC] at h;simp only[DK];cases hb:kP t d;exact aa2 h.2 t;have:=b7 hb;subst this;exact h.1
theorem Wv{g:G}{m:List (Option Nat)}{f f':Nat→PV}(h:∀t,wk g m (f t) (f' t)):∀(l:List Nat),CR g m (l.map f) (l.map f')
 | []=>by simp only[dS,CR]
 | a::l=>by simp only[aV,CR];exact⟨h a,Wv h l⟩
theorem aZ{P:Program}{n0 n:Nat}(m:List (Option Nat)){p:PV}{ch ch':List (Nat×PV)}{st st':List (Option En)}(h1:wkC ⟨dN n p ch,st⟩ m ch p ch')(h2:nd ⟨dN n p ch,st⟩ m m st')(h3:AA m st'=true)(h4:keeps n0 0 m=true):pS P n0 ⟨dN n p ch,st⟩ ⟨dN n .any ch',st'⟩:=
 Qv ⟨Wv (aa2 h1) _,h2,h3,h4⟩
attribute [go_sem] M1 Ph JC abZ DK wkC ixs dV dW lX Al tk dr Us UD Uw Zh pls evp ev2 ix2 sl2 Vt YF Sq iop cop sop aeE Z5 bop zY
attribute [go_sem] Pl Mn Vx Jn Pv EA JE PQ WQ Jw Fv Pj Jq obI PC PK QU Ps Jp QZ AD Ci TU WT JA Xi stp
theorem agX(sl:List PV)(st:List (Option En))(dst:Option (Nat×PV))(up:List (Nat×En)):(G.mk sl st).app ⟨dst,up⟩=⟨xF sl dst,B4 st up⟩:=rfl
theorem YD(sl:List PV):xF sl none=sl:=rfl
theorem Yv(sl:List PV)(d:Nat)(p:PV):xF sl (some (d,p))=n8 sl d p:=rfl
theorem aci(sl:List PV)(st:List (Option En))(t:Nat):(G.mk sl st).ev (.tmp t)=nth sl t:=rfl
theorem UT(sl:List PV)(st:List (Option En))(v:Value):(G.mk sl st).ev (.const v)=cpv v:=rfl
theorem X6(sl:List PV)(st:List (Option En))(f:Nat):(G.mk sl st).ev (.func f)= .fn f []:=rfl
theorem ahP(sl:List PV)(st:List (Option En))(k:Nat):(G.mk sl st).at k=dV st k:=rfl
theorem ahk(sl:List PV)(st:List (Option En)):(G.mk sl st).new=lX st:=rfl
theorem ad7(s p:List Nat)(dst:Option (Nat×PV))(up:List (Nat×En)):pE ⟨s,p⟩ ⟨dst,up⟩=⟨s,p,Dl.ws ⟨dst,up⟩,Dl.wp ⟨dst,up⟩⟩:=rfl
theorem adL(up:List (Nat×En)):Dl.ws ⟨none,up⟩=[]:=rfl
theorem aek(d:Nat)(p:PV)(up:List (Nat×En)):Dl.ws ⟨some (d,p),up⟩=[d]:=rfl
theorem af7(dst:Option (Nat×PV)):Dl.wp ⟨dst,[]⟩=[]:=rfl
theorem ad3(dst:Option (Nat×PV))(k:Nat)(e:En)(r:List (Nat×En)):Dl.wp ⟨dst,(k,e)::r⟩=k::Dl.wp ⟨none,r⟩:=rfl
attribute [go_sem] ahf agy snoc nx.eq_1 nx.eq_2 wg.eq_1 wg.eq_2 Oy.eq_1 Oy.eq_2 Oy.eq_3 ae4.eq_1 abh.eq_1 vm.eq_1 vm.eq_2 vm.eq_3 gsl afS.eq_1 afS.eq_2 ac1.eq_1 ac1.eq_2 run Xv.eq_1 Xv.eq_2 Xv.eq_3 LQ.eq_1 LQ.eq_2 LQ.eq_3 aak.eq_1 aaD.eq_1 afZ.eq_1 afZ.eq_2 My
attribute [go_sem] agX YD Yv B4 ahP aci UT X6 ahk Gj cpv Zy Py fJ PV.whole PV.one yu W5 Kp toD Dp rowsOf MI xq ad7 adL aek af7 ad3 ez osl TI.isAgg ac6 ZD
attribute [go_sem] VJ N7 Uj Zr yv jd jF aV dS Cj RK
attribute [go_sem] CR wk nd FU jj IC keeps AA Ub
attribute [go_sem] Ul T.pv pvT nU vl toT GP UF JD Jk Nw BE tkT drT apT adw
mutual
def Kh:PV→Prop
 | .d (.eC xs)=>xs.length≤LB
 | .d (.str s)=>s.length≤LB
 | .agg cs=>tN cs
 | _=>True
def tN:List PV→Prop
 | []=>True
 | p::ps=>Kh p∧tN ps
end
mutual
theorem aJ.Kh{w:World}{ok:Nat→Prop}{ν:Nat→Nm}{st:Nat→Option En}:∀(p:PV)(v:Value),aJ w ok ν st p v→Kh p
 | .d (.eC xs),v,h=>by simp only[aJ] at h;simp only[Eng.Kh];exact h.afd
 | .d (.str s),v,h=>by simp only[aJ] at h;simp only[Eng.Kh];exact h.Jx.2
 | .agg cs,v,h=>by simp only[aJ] at h;simp only[Eng.Kh];obtain⟨vs,_,h⟩:=h;exact aH.Kh cs vs h
 | .d (.val _),_,_=>by simp only[Eng.Kh]
 | .any,_,_=>by simp only[Eng.Kh]
 | .undef,_,_=>by simp only[Eng.Kh]
 | .bW,_,_=>by simp only[Eng.Kh]
 | .iZ _,_,_=>by simp only[Eng.Kh]
 | .bA _ _,_,_=>by simp only[Eng.Kh]
 | .aX _,_,_=>by simp only[Eng.Kh]
 | .jg _ _ _ _,_,_=>by simp only[Eng.Kh]
 | .ib _ _ _,_,_=>by simp only[Eng.Kh]
 | .fn _ _,_,_=>by simp only[Eng.Kh]
theorem aH.Kh{w:World}{ok:Nat→Prop}{ν:Nat→Nm}{st:Nat→Option En}:∀(ps:List PV)(vs:List Value),aH w ok ν st ps vs→tN ps
 | [],_,_=>by simp only[Eng.tN]
 | p::ps,v::vs,h=>by simp only[aH] at h;simp only[Eng.tN];exact⟨aJ.Kh p v h.1,aH.Kh ps vs h.2⟩
 | _::_,[],h=>by simp[aH] at h
end
def XS:Option En→Prop
 | some (.box cs)=>tN cs
 | some (.aX _ xs)=>xs.length≤LB
 | some (.gD _ xs)=>xs.length≤LB
 | _=>True
def D6:List (Option En)→Prop
 | []=>True
 | e::es=>XS e∧D6 es
theorem Sat.tN{P:Program}{X:Cx}{ν:Nat→Nm}{g:G}{a:Act}{w:World}(h:Sat P X ν g a w):Eng.tN g.sl:=by
 have key:∀(ps:List PV),(∀t,∃v,aJ w (dk X ν g.at) ν g.at (nth ps t) v)→Eng.tN ps:=by
  intro ps;induction ps with
  | nil=>intro _;simp only[Eng.tN]
  | cons p ps ih=>intro hp;simp only[Eng.tN];obtain⟨v,hv⟩:=hp 0;exact⟨aJ.Kh p v hv,ih fun t=>hp (t+1)⟩
 exact key _ fun t=>⟨_,h.sl t⟩
theorem Sat.XS{P:Program}{X:Cx}{ν:Nat→Nm}{g:G}{a:Act}{w:World}(h:Sat P X ν g a w)(k:Nat):Eng.XS (g.at k):=by
 cases hk:g.at k with
 | none=>trivial
 | some e=>
  have:=h.en k e hk;cases e with
  | dead=>trivial
  | box cs=>obtain⟨b,vs,T,_,_,h3,_⟩:=this;exact aH.Kh cs vs h3
  | aX t xs=>obtain⟨us,_,_,h3,_⟩:=this;exact h3
  | map wu=>trivial
  | gD t xs=>have h1:=this.1;simp only[mD] at h1;obtain⟨us,F1,_,_,_,h4,_⟩:=h1;exact h4
theorem Tr:∀{l:List (Option En)},(∀k,XS (dV l k))→D6 l
 | [],_=>trivial
 | _::_,h=>⟨h 0,Tr fun k=>h (k+1)⟩
theorem aeI{P:Program}{n0:Nat}{c:Code}{g:G}{Q:Ex→G→Prop}(h:tN g.sl→D6 g.st→W P n0 c g Q):W P n0 c g Q:=fun X ν a w hp hs=>
 h hs.tN (Tr fun k=>hs.XS k) X ν a w hp hs
theorem Gx:∀{ps r:List PV},tN (ps++r)→tN ps
 | [],_,_=>by simp only[tN]
 | p::ps,r,h=>by simp only[bI,tN] at h⊢;exact⟨h.1,Gx h.2⟩
theorem ag0 {E : Env} (hm : E.P.follows .mixedOrders = true) {f : FuncId} {fn : Func} {c : Code} {args : List PV} {fG : List (Option En)} {R : PV → List (Option En) → Prop} {nt : Nat} {rs : List ResultVar} (hf : E.P.funcs[f]? = some fn) (hb : fn.body = some c) (hname : (fn.name == "runtime.NumGoroutine") = false)
 (hnt:fn.ntmps=nt) (hrs:fn.results.toList=rs) (h:tN args→D6 fG→My E (lX fG) c .on ⟨pad args nt,fG⟩ (fun _=>VJ (yl E rs (lX fG) R))):C E.P f args fG R:=by
 rw[pZ] at h
 refine Th hf hb hname (yl E rs fG.length R) (fun _ _ _ _ _ h1 hp hs=>yl.sat h1 hp hs hrs) ?_
 rw[hnt,←Du]
 refine aeI fun h1 h2=>Vl hm c _ _ (h ?_ h2)
 have h1:tN (pad args nt):=h1
 rw[Du] at h1
 exact Gx h1
theorem vE {E : Env} (hm : E.P.follows .mixedOrders = true) {f : FuncId} {fn : Func} {c : Code} {args : List PV} {fG : List (Option En)} {R : PV → List (Option En) → Prop} {nt : Nat} {rs : List ResultVar} (hf : E.P.funcs[f]? = some fn) (hb : fn.body = some c) (hname : (fn.name == "runtime.NumGoroutine") = false)
 (hnt:fn.ntmps=nt) (hrs:fn.results.toList=rs) (hn:zY (Al args) nt=true) (h:tN args→D6 fG→My E (lX fG) c .on ⟨dN nt .undef (ixs 0 args),fG⟩ (fun _=>VJ (yl E rs (lX fG) R))):C E.P f args fG R:=by
 have hn:=mX hn
 rw[qK] at hn
 rw[←XD hn] at h
 exact ag0 hm hf hb hname hnt hrs h
attribute [go_sem] Kh tN XS D6
mutual
theorem Xe(m:List Nat):∀(p:PV),p.lt 0=true→p.nZ m=p
 | .agg cs,h=>by simp only[PV.lt] at h;simp only[PV.nZ,Ad m cs h]
 | .iZ cs,h=>by simp only[PV.lt] at h;simp only[PV.nZ,Ad m cs h]
 | .fn f cs,h=>by simp only[PV.lt] at h;simp only[PV.nZ,Ad m cs h]
 | .any,_=>rfl
 | .undef,_=>rfl
 | .bW,_=>rfl
 | .d _,_=>rfl
 | .ib _ _ _,_=>rfl
 | .bA _ _,h=>by simp[PV.lt] at h
 | .aX _,h=>by simp[PV.lt] at h
 | .jg _ _ _ _,h=>by simp[PV.lt] at h
theorem Ad(m:List Nat):∀(ps:List PV),wj 0 ps=true→tu m ps=ps
 | [],_=>rfl
 | p::ps,h=>by simp only[wj,ah] at h;simp only[tu,Xe m p h.1,Ad m ps h.2]
end
theorem aaJ(n:Nat):∀(cs:List D),wj n (dm cs)=true
 | []=>rfl
 | c::cs=>by have:=aaJ n cs;simp only[dm,aV,wj,ah] at this⊢;exact⟨rfl,this⟩
section
variable{E:Env}{g:G}{d:Nat}{ty:TypeId}{pos:String}{fK:Array Edge}{gd:Option (Nat×Bool)}
theorem ab1(oE:Operand)(xs:List Operand)(tys:Array TypeId)(f:FuncId)(cap:List PV)(hfn:g.ev oE= .fn f cap)(dh:List PV)(res:PV)(hC:C E.P f dh [] (jF res []))(ru:Io (xs.map g.ev++cap) dh)(nS:wj 0 dh=true)(hres:res.lt 0=true) :
 mM E.P ⟨some d,.call ⟨.value oE,⟨xs⟩,tys⟩,ty,pos,fK,gd⟩ g ⟨ez oE++xs.flatMap ez,[]⟩ ⟨some (d,res),[]⟩:=by
 have h:=Xa (E:=E) (g:=g) (d:=d) (ty:=ty) (pos:=pos) (fK:=fK) (gd:=gd) oE xs tys f cap hfn [] dh [] [] res hC (by rw[Ad _ _ nS];exact ru) nS (by simp) (by simp) trivial trivial (by simp) (by simp)
 rw[Xe _ _ hres] at h
 exact h
end
def iv(n:Int):PV:=.d (.val (.int .i64 n))
def bv(b:Bool):PV:=.d (.val (.bool b))
def sv(s:List UInt8):PV:=.d (.str s)
def lv(xs:List (List D)):PV:=.d (.eC xs)
attribute [go_sem] iv bv sv lv PV.nZ tu mF look PV.lt wj eW cZ Option.toList_none Option.toList_some
end Go.Eng
namespace Go.Eng
open Go.RowKit
section
variable{E:Env}{n0:Nat}{g:G}{c:Code}{Q:Ex→G→Prop}
def qU{A:Type}(P:Program)(n0:Nat)(I:A→Prop)(T:A→G)(μ:A→Nat)(a:A)(Q:Ex→G→Prop):Ex→G→Prop
 | .normal,g=>∃a',I a'∧μ a' < μ a∧pS P n0 g (T a')
 | .exit id,g=>Q (.exit id) g
 | .ret,g=>Q .ret g
def Dy{A B:Type}(P:Program)(n0:Nat)(I:A→B→Prop)(T:A→B→G)(μ:A→B→Nat)(a:A)(b:B)(Q:Ex→G→Prop):Ex→G→Prop
 | .normal,g=>∃a' b',I a' b'∧μ a' b' < μ a b∧pS P n0 g (T a' b')
 | .exit id,g=>Q (.exit id) g
 | .ret,g=>Q .ret g
def LH{A B C:Type}(P:Program)(n0:Nat)(I:A→B→C→Prop)(T:A→B→C→G)(μ:A→B→C→Nat)(a:A)(b:B)(c:C)(Q:Ex→G→Prop):Ex→G→Prop
 | .normal,g=>∃a' b' c',I a' b' c'∧μ a' b' c' < μ a b c∧pS P n0 g (T a' b' c')
 | .exit id,g=>Q (.exit id) g
 | .ret,g=>Q .ret g
theorem cS(hm:E.P.follows .mixedOrders=true){A:Type}(I:A→Prop)(T:A→G)(μ:A→Nat)(a0:A)(hi:I a0)(h0:pS E.P n0 g (T a0))
 (round:∀a,I a→My E n0 c .on (T a) (fun _=>qU E.P n0 I T μ a Q)):W E.P n0 (.loop c) g Q:=by
 refine aai (α:={a // I a}) (fun x=>T x.1) (fun x=>μ x.1) ⟨a0,hi⟩ h0 ?_
 rintro⟨a,ha⟩
 have h:=Vl hm c _ _ (round a ha)
 have e:(qU E.P n0 I T μ a Q)=(N7 E.P n0 (fun x:{a // I a}=>T x.1) (fun x=>μ x.1) ⟨a,ha⟩ Q):=by
  funext e g';cases e with
  | normal=>simp only[qU,N7];apply propext;exact⟨fun⟨a',h1,h2,h3⟩=>⟨⟨a',h1⟩,h2,h3⟩,fun⟨⟨a',h1⟩,h2,h3⟩=>⟨a',h1,h2,h3⟩⟩
  | exit id=>rfl
  | ret=>rfl
 rw[←e]
 exact h
theorem jI(hm:E.P.follows .mixedOrders=true){A B:Type}(I:A→B→Prop)(T:A→B→G)(μ:A→B→Nat)(a0:A)(b0:B)(hi:I a0 b0)(h0:pS E.P n0 g (T a0 b0))
 (round:∀a b,I a b→My E n0 c .on (T a b) (fun _=>Dy E.P n0 I T μ a b Q)):W E.P n0 (.loop c) g Q:=by
 refine cS hm (A:=A×B) (fun x=>I x.1 x.2) (fun x=>T x.1 x.2) (fun x=>μ x.1 x.2) (a0,b0) hi h0 ?_
 rintro⟨a,b⟩ h
 have h:=round a b h
 have e:(Dy E.P n0 I T μ a b Q)=(qU E.P n0 (fun x:A×B=>I x.1 x.2) (fun x=>T x.1 x.2) (fun x=>μ x.1 x.2) (a,b) Q):=by
  funext e g';cases e with
  | normal=>simp only[qU,Dy];apply propext;exact⟨fun⟨a',b',h1,h2,h3⟩=>⟨(a',b'),h1,h2,h3⟩,fun⟨(a',b'),h1,h2,h3⟩=>⟨a',b',h1,h2,h3⟩⟩
  | exit id=>rfl
  | ret=>rfl
 rw[e] at h
 exact h
theorem n6(hm:E.P.follows .mixedOrders=true){A B D:Type}(I:A→B→D→Prop)(T:A→B→D→G)(μ:A→B→D→Nat)(a0:A)(b0:B)(d0:D)(hi:I a0 b0 d0)(h0:pS E.P n0 g (T a0 b0 d0))
 (round:∀a b d,I a b d→My E n0 c .on (T a b d) (fun _=>LH E.P n0 I T μ a b d Q)):W E.P n0 (.loop c) g Q:=by
 refine jI hm (A:=A) (B:=B×D) (fun a x=>I a x.1 x.2) (fun a x=>T a x.1 x.2) (fun a x=>μ a x.1 x.2) a0 (b0,d0) hi h0 ?_
 rintro a ⟨b,d⟩ h
 have h:=round a b d h
 have e:(LH E.P n0 I T μ a b d Q)=(Dy E.P n0 (fun a (x:B×D)=>I a x.1 x.2) (fun a x=>T a x.1 x.2) (fun a x=>μ a x.1 x.2) a (b,d) Q):=by
  funext e g';cases e with
  | normal=>simp only[LH,Dy];apply propext;exact⟨fun⟨a',b',d',h1,h2,h3⟩=>⟨a',(b',d'),h1,h2,h3⟩,fun⟨a',(b',d'),h1,h2,h3⟩=>⟨a',b',d',h1,h2,h3⟩⟩
  | exit id=>rfl
  | ret=>rfl
 rw[e] at h
 exact h
end
theorem pn{α:Type}{l:List α}{i:Nat}(h:i<l.length)(d:α):l.getD i d=l[i]:=by simp[ct,af h]
mutual
theorem afq{g:G}{m:List (Option Nat)}:∀{p:PV},p.lt 0=true→wk g m p p
 | .agg cs,h=>by simp only[PV.lt] at h;simp only[wk];exact a7 h
 | .iZ cs,h=>by simp only[PV.lt] at h;simp only[wk];exact a7 h
 | .fn f cs,h=>by simp only[PV.lt] at h;simp only[wk,true_and];exact a7 h
 | .any,_=>by simp only[wk]
 | .undef,_=>by simp only[wk]
 | .bW,_=>by simp only[wk]
 | .d _,_=>by simp only[wk]
 | .ib _ _ _,_=>by simp only[wk,and_self]
 | .bA _ _,h=>by simp[PV.lt] at h
 | .aX _,h=>by simp[PV.lt] at h
 | .jg _ _ _ _,h=>by simp[PV.lt] at h
theorem a7{g:G}{m:List (Option Nat)}:∀{ps:List PV},wj 0 ps=true→CR g m ps ps
 | [],_=>by simp only[CR]
 | p::ps,h=>by simp only[wj,ah] at h;simp only[CR];exact⟨afq h.1,a7 h.2⟩
end
theorem adq(a b:Int):(a != b)= !decide (a=b):=by by_cases h:a=b<;>simp[h]
theorem adZ(a b:Int):(a == b)=decide (a=b):=by by_cases h:a=b<;>simp[h]
theorem adx(a b:List UInt8):(a == b)=decide (a=b):=by by_cases h:a=b<;>simp[h]
theorem A9(x:List D)(xs:List (List D)):row (x::xs) 0=x:=rfl
attribute [go_sem] A9
theorem adH(e0:En)(Q:En→Prop):(∃e,some e0=some e∧Q e)=Q e0:=by apply propext;constructor;rintro⟨e,h,hq⟩;cases h;exact hq;intro hq;exact⟨_,rfl,hq⟩
theorem Ab(n:Nat):((no_index (OfNat.ofNat n):Nat):Int)=OfNat.ofNat n:=rfl
theorem ab9(e0:En):(∃e,some e0=some e)=True:=eq_true ⟨_,rfl⟩
theorem ac8(xs ys:List (List D)):(D.eC xs=D.eC ys)=(xs=ys):=by simp
attribute [go_sem] az List.not_mem_nil or_false forall_eq List.length_take List.length_map
attribute [go_sem] Int.natCast_add Int.natCast_one Int.natCast_zero Ab ab9 ite_true ite_false adH ac8 List.take_zero eq_self
attribute [go_sem] adq adZ adx
attribute [go_sem] bI List.nil_append List.append_nil
theorem aam(ps:List PV):Io ps ps=True:=eq_true (Qz ps)
attribute [go_sem] cv Io aam
theorem dy{m:Option (List Ky)}{gs:Option Nat}{d:Nat}{ty:TypeId}{pos:String}{fK:Array Edge}{gd:Option (Nat×Bool)}{E:Env}{g:G}{rest:uW→Option (List Ky)→G→Prop}{oE:Operand}{xs:List Operand}{tys:Array TypeId}{f:FuncId}(cap:List PV){dh:List PV}{res:PV}
 (hC:C E.P f dh [] (jF res [])) (h:g.ev oE= .fn f cap∧Io (TU g xs++cap) dh∧wj 0 dh=true∧res.lt 0=true)
 (hr:rest .on (nx m (pE (wg gs ⟨ez oE++Ci xs,[]⟩) ⟨some (d,res),[]⟩)) (g.app ⟨some (d,res),[]⟩)):tR E m gs ⟨some d,.call ⟨.value oE,⟨xs⟩,tys⟩,ty,pos,fK,gd⟩ g rest:=by
 rw[BT] at hr
 rw[Hl] at h
 exact gm (ab1 oE xs tys f cap h.1 dh res hC h.2.1 h.2.2.1 h.2.2.2) hr
theorem qj{m:Option (List Ky)}{gs:Option Nat}{d:Nat}{ty:TypeId}{pos:String}{fK:Array Edge}{gd:Option (Nat×Bool)}{E:Env}{g:G}{rest:uW→Option (List Ky)→G→Prop}{oE:Operand}{xs:List Operand}{tys:Array TypeId}{f:FuncId}(cap:List PV)(ks:List Nat){dh:List PV}{res:PV}
 (hC:C E.P f dh [] (jF res [])) (h1:g.ev oE= .fn f cap) (h2:wq g ks (TU g xs++cap) dh) (h3:sc res=true)
 (hr:rest .on (nx m (pE (wg gs ⟨ez oE++Ci xs,ks⟩) ⟨some (d,res),[]⟩)) (g.app ⟨some (d,res),[]⟩)):tR E m gs ⟨some d,.call ⟨.value oE,⟨xs⟩,tys⟩,ty,pos,fK,gd⟩ g rest:=by
 rw[BT] at hr
 rw[Hl] at h2
 exact gm (ac5 oE xs tys f cap h1 ks dh res hC h2 h3) hr
def aaB(k:Nat):List Nat→Bool
 | []=>false
 | j::js=>M1 k j||aaB k js
theorem KP:∀(k:Nat),M1 k k=true
 | 0=>rfl
 | k+1=>KP k
theorem Ws{k:Nat}:∀{m:List Nat},k∈m→aaB k m=true
 | [],h=>by simp at h
 | j::js,h=>by simp only[aaB,iH];rcases az.1 h with rfl|h;exact .inl (KP _);exact .inr (Ws h)
def Qw:List Nat→Bool
 | []=>true
 | k::ks=>!aaB k ks&&Qw ks
theorem PU:∀{m:List Nat},Qw m=true→m.Nodup
 | [],_=>by simp
 | k::ks,h=>by simp only[Qw,ah,kO] at h;refine List.nodup_cons.2 ⟨fun hk=>?_,PU h.2⟩;rw[Ws hk] at h;cases h.1
def Gk:List Nat→Nat
 | []=>0
 | _::as=>Gk as+1
theorem JM:∀(l:List Nat),Gk l=l.length
 | []=>rfl
 | _::as=>by simp[Gk,JM as]
theorem lx{m:Option (List Ky)}{gs:Option Nat}{d:Nat}{ty:TypeId}{pos:String}{fK:Array Edge}{gd:Option (Nat×Bool)}{E:Env}{g:G}{rest:uW→Option (List Ky)→G→Prop}{oE:Operand}{xs:List Operand}{tys:Array TypeId}{f:FuncId}(cap:List PV)(M:List Nat){dh:List PV}{fG st':List (Option En)}{res:PV}
 (hC:C E.P f dh fG (jF res st')) (h:g.ev oE= .fn f cap∧Io (TU g xs++cap) (tu M dh)∧wj (lX fG) dh=true∧Qw M=true∧zY (lX fG) (Gk M)=true∧zY (lX fG) (lX st')=true∧zY (lX st') (Gk M)=true∧pP g M (lX fG) M fG∧jP g (lX fG) M)
 (hr:rest .on (nx m (pE (wg gs ⟨ez oE++Ci xs,M⟩) ⟨some (d,res.nZ M),mF M M st'⟩)) (g.app ⟨some (d,res.nZ M),mF M M st'⟩)):tR E m gs ⟨some d,.call ⟨.value oE,⟨xs⟩,tys⟩,ty,pos,fK,gd⟩ g rest:=by
 rw[BT] at hr
 rw[Hl] at h
 obtain⟨h1,h2,h3,h4,h5,h6,h7,h8,h9⟩:=h
 have h5:=mX h5
 have h6:=mX h6
 have h7:=mX h7
 rw[pZ,JM] at h5
 rw[pZ,pZ] at h6
 rw[pZ,JM] at h7
 rw[pZ] at h3 h8 h9
 exact gm (Xa oE xs tys f cap h1 M dh fG st' res hC h2 h3 (PU h4) h5 h8 h9 h6 h7) hr
theorem ahY{E:Env}{rs:List ResultVar}{n0:Nat}{g:G}{ps:List PV}{q:PV}{st':List (Option En)}(m:List (Option Nat))(h1:yv E g rs=some ps)(h2:CR ⟨[jd ps],g.st⟩ m [jd ps] [q]∧nd ⟨[jd ps],g.st⟩ m m st')(h3:AA m st'=true)(h4:keeps n0 0 m=true):yl E rs n0 (jF q st') g:=
 ⟨ps,m,q,st',h1,⟨h2.1,h2.2,h3,h4⟩,rfl,rfl⟩
theorem fD{E:Env}{rs:List ResultVar}{g:G}{q:PV}(h:(yv E g rs).elim False fun ps=>wk ⟨[jd ps],g.st⟩ [] (jd ps) q):yl E rs 0 (jF q []) g:=by
 cases hps:yv E g rs with
 | none=>rw[hps] at h;exact h.elim
 | some ps=>rw[hps] at h;exact ahI hps h
theorem bX{E:Env}{rs:List ResultVar}{n0:Nat}{g:G}{q:PV}{st':List (Option En)}(m:List (Option Nat))(h:(yv E g rs).elim False fun ps=>CR ⟨[jd ps],g.st⟩ m [jd ps] [q]∧nd ⟨[jd ps],g.st⟩ m m st')(h3:AA m st'=true)(h4:keeps n0 0 m=true):yl E rs n0 (jF q st') g:=by
 cases hps:yv E g rs with
 | none=>rw[hps] at h;exact h.elim
 | some ps=>rw[hps] at h;exact ahY m hps h h3 h4
attribute [go_sem] Option.elim_some
attribute [go_sem] Qw Gk aaB pP jP En.nZ En.lt En.live kj gU Bool.or_true Bool.true_or Bool.or_false Bool.false_or aI Bool.and_false
attribute [go_sem] sc scs
attribute [go_sem] qU Dy LH YK and_true true_and and_self Int.natCast_nonneg nC Int.toNat_zero Nat.zero_lt_succ eu jw aK bc Int.ofNat_lt Int.ofNat_le Int.ofNat_inj decide_true decide_false kj gU aY List.length_nil gt_iff_lt ge_iff_le
attribute [go_sem] aA Bool.and_true Bool.and_self beq_self_eq_true
theorem kX(ν:Nat→Nm)(b:Nat):¬Own ν (dV []) b:=by rintro⟨k,e,h,_⟩;cases k<;>simp[dV] at h
section
variable{P:Program}{X:Cx}{vs:List Value}{e:TypeId}{xs:List (List D)}{rest:List PV}
theorem XP(hr:wj 0 rest=true)(hs:Sat P X X.ν0 ⟨.aX 0::rest,[some (.aX e xs)]⟩ ⟨⟨vs⟩,[]⟩ X.w0) :
 Sat P ⟨X.w0,Own X.ν0 (dV []),X.ν0,dV [],X.Z⟩ X.ν0 ⟨.d (.eC xs)::rest,[]⟩ ⟨⟨vs⟩,[]⟩ X.w0:=by
 have hw:∀b,dk X X.ν0 (G.at ⟨.aX 0::rest,[some (.aX e xs)]⟩) b→b<X.w0.heap.size→dk ⟨X.w0,Own X.ν0 (dV []),X.ν0,dV [],X.Z⟩ X.ν0 (G.at ⟨.d (.eC xs)::rest,[]⟩) b∧X.w0.heap[b]?=X.w0.heap[b]?:=fun b hb _=>⟨⟨kX _ b,hb.2⟩,rfl⟩
 have np:∀k,G.at ⟨.d (.eC xs)::rest,[]⟩ k=none:=fun _=>rfl
 refine⟨hs.size,fun t=>?_,fun k e h=>?_,fun k k' e e' b h=>?_,fun b hb=>?_,fun k h=>?_,fun k h=>?_,⟨fun b hb=>?_,hs.kt rfl fun b hb=>(kX _ b hb).elim⟩,vg.refl _ _,rfl⟩
 ·cases t with
  | zero=>have h:=hs.sl 0;simp only[nth,aJ] at h⊢;rw[h.2];obtain⟨us,h1,h2,h3,_⟩:=hs.en 0 (.aX e xs) rfl;exact A5 h1 h2 h3 (fun b hb=>⟨kX _ b,hs.PG ⟨0,_,rfl,rfl,.inl hb⟩⟩) hw
  | succ t=>
   have h:=hs.sl (t+1);simp only[nth] at h⊢;have hl:∀(ps:List PV)(t:Nat),wj 0 ps=true→(nth ps t).lt 0=true:=by
    intro ps;induction ps with
    | nil=>intro t _;rfl
    | cons p ps ih=>
     intro t h;simp only[wj,ah] at h;cases t with
     | zero=>exact h.1
     | succ t=>exact ih t h.2
   exact aJ.VX hw _ _ (hl rest t hr) h
 ·rw[np] at h;cases h
 ·rw[np] at h;cases h
 ·exact(kX _ b hb).elim
 ·rw[np] at h;cases h
 ·cases k<;>simp[dV] at h
 ·exact⟨(hs.Jy b hb).1,kX _ b⟩
theorem Zx{f:FuncId}{e':TypeId}{ys:List (List D)}(hr:wj 0 rest=true)(hC:C P f (.d (.eC xs)::rest) [] (jF (.aX 0) [some (.aX e' ys)])):C P f (.aX 0::rest) [some (.aX e xs)] (jF (.aX 1) [some .dead,some (.aX e' ys)]):=by
 refine⟨hC.1,fun X vs ld hO hs=>?_⟩;refine(hC.2 _ vs rfl rfl (XP hr hs)).mono ?_;rintro ex w' ⟨v,_,_,ν',rfl,⟨rfl,rfl⟩,je⟩;refine⟨v,_,_,fun|0=>X.ν0 0|k+1=>ν' k,rfl,⟨rfl,rfl⟩,?_⟩;have np:∀k e,G.at ⟨[.aX 1],[some .dead,some (.aX e' ys)]⟩ k=some e→e.live=true→k=1∧e= .aX e' ys:=by
  intro k e h hl
  match k,h with
  | 0,h=>
    obtain rfl:En.dead=e:=by simpa[G.at,dV] using h
    cases hl
  | 1,h=>exact⟨rfl,by simpa[G.at,dV] using h.symm⟩
  | k+2,h=>simp[G.at,dV] at h
 have jU:∀b,Own (fun|0=>X.ν0 0|k+1=>ν' k) (G.at ⟨[.aX 1],[some .dead,some (.aX e' ys)]⟩) b↔Own ν' (G.at ⟨[.aX 0],[some (.aX e' ys)]⟩) b:=by
  intro b;constructor;rintro⟨k,e,h,hl,hb⟩;obtain⟨rfl,rfl⟩:=np k e h hl;exact⟨0,_,rfl,rfl,hb⟩;rintro⟨k,e,h,hl,hb⟩
  match k,h with
  | 0,h=>
   obtain rfl:En.aX e' ys=e:=by simpa[G.at,dV] using h
   exact⟨1,_,rfl,rfl,hb⟩
  | k+1,h=>simp[G.at,dV] at h
 have hw:∀b,dk (⟨X.w0,Own X.ν0 (dV []),X.ν0,dV [],X.Z⟩:Cx) ν' (G.at ⟨[.aX 0],[some (.aX e' ys)]⟩) b→b<w'.heap.size→dk X (fun|0=>X.ν0 0|k+1=>ν' k) (G.at ⟨[.aX 1],[some .dead,some (.aX e' ys)]⟩) b∧w'.heap[b]?=w'.heap[b]?:=fun b hb _=>⟨⟨fun h=>hb.1 ((jU b).1 h),hb.2⟩,rfl⟩;refine⟨rfl,fun t=>?_,fun k e h=>?_,fun k k' e e2 b h1 h2 hl hl2 _ _=>?_,fun b hb=>?_,fun k h=>?_,fun k h=>?_,hs.Jy,je.Da.mono fun b hb _=>(kX _ b hb).elim,rfl⟩
 ·cases t with
  | zero=>have h:=je.sl 0;simp only[nth,aJ] at h⊢;exact⟨rfl,h.2⟩
  | succ t=>exact trivial
 ·match k,h with
  | 0,h=>
   obtain rfl:En.dead=e:=by simpa[G.at,dV] using h
   exact trivial
  | 1,h=>
   obtain rfl:En.aX e' ys=e:=by simpa[G.at,dV] using h
   obtain⟨us,h1,h2,h3⟩:=je.en 0 _ rfl;exact⟨us,h1,h2.frame hw (aK _),h3⟩
  | k+2,h=>simp[G.at,dV] at h
 rw[(np k e h1 hl).1,(np k' e2 h2 hl2).1];rcases je.base b ((jU b).1 hb) with h|h;exact(kX _ b h).elim;exact .inr h
 ·match k,h with
  | 0,_=>exact hs.nu 0 rfl
  | 1,_=>exact je.nu 0 rfl
  | k+2,h=>simp[G.at,dV] at h
 rw[ld] at h
 match k,h with
 | 0,_=>exact⟨rfl,rfl⟩
 | k+1,h=>simp[dV] at h
end
def DA(M:List Nat):List Nat→Nat
 | []=>0
 | j::js=>Nat.lor (Nat.lor (Nat.pow 2 j) (M.getD j 0)) (DA M js)
def adJ:List Oper→List Nat→List Nat
 | [],M=>M
 | o::os,M=>adJ os (M++[DA M (nM o)])
def YM(b k:Nat):Bool:=kP (Nat.land (Nat.shiftRight b k) 1) 1
def JK(b:Nat)(y:Ky):Nat→List Ky→Bool
 | _,[]=>true
 | j,x::xs=>(YM b j|| !(x.CI y))&&JK b y (j+1) xs
def JB(M:List Nat):Nat→List Ky→List Ky→Bool
 | _,_,[]=>true
 | i,pre,y::ys=>JK (M.getD i 0) y 0 pre&&JB M (i+1) (pre++[y]) ys
def PS(os:List Oper)(L:List Ky):Bool:=abt 0 os&&JB (adJ os []) 0 [] L
theorem Jz(b k:Nat):YM b k=b.testBit k:=by simp only[YM,Nat.testBit];have h:Nat.land (Nat.shiftRight b k) 1=(b >>> k) &&& 1:=rfl;rw[h,Nat.and_comm 1 (b >>> k),Nat.and_one_is_mod];rcases Nat.mod_two_eq_zero_or_one (b >>> k) with h2|h2<;>rw[h2]<;>rfl
def Cor(T:List (List Nat))(M:List Nat):Prop:=T.length=M.length∧∀j k,Bn k (T.getD j [])=YM (M.getD j 0) k
theorem SH{a b:Bool}(h:a=true↔b=true):a=b:=by cases a<;>cases b<;>simp_all
theorem XR(k j:Nat)(l:List Nat):Bn k (j::l)=(decide (j=k)||Bn k l):=by apply SH;simp only[td,az,iH,decide_eq_true_eq];grind
theorem acI(k:Nat)(l l':List Nat):Bn k (l++l')=(Bn k l||Bn k l'):=by apply SH;simp only[td,List.mem_append,iH]
theorem Mp{T:List (List Nat)}{M:List Nat}(h:Cor T M)(k:Nat):∀(js:List Nat),Bn k (yM T js)=YM (DA M js) k
 | []=>by simp only[yM,DA,Jz,Nat.zero_testBit];rfl
 | j::js=>by
  have e:Nat.lor (Nat.lor (Nat.pow 2 j) (M.getD j 0)) (DA M js)=(2 ^ j ||| M.getD j 0) ||| DA M js:=rfl
  simp only[yM,DA,e,XR,acI,Mp h k js,h.2 j k];simp only[Jz,Nat.testBit_or,Nat.testBit_two_pow,Bool.or_assoc]
theorem RI:∀(os:List Oper){T:List (List Nat)}{M:List Nat},Cor T M→Cor (FG os T) (adJ os M)
 | [],_,_,h=>h
 | o::os,T,M,h=>by simp only[FG,adJ];refine RI os ⟨by simp[h.1],fun j k=>?_⟩;rcases Nat.lt_trichotomy j T.length with hj|hj|hj;have hj':j<M.length:=(by rw[←h.1];exact hj);have:=h.2 j k;grind;subst hj;have hM:M.length≤T.length:=(by rw[h.1];exact aK _);rw[aB,aB,bO (aK _),bO hM,←h.1];simp only[mo,List.getElem?_cons_zero,Option.getD_some];exact Mp h k _;have hj':M.length<j:=(by rw[←h.1];exact hj);rw[aB,aB,bM (by simp;omega),bM (by simp;omega)];simp only[iW,Jz,Nat.zero_testBit];rfl
theorem L5{b:List Nat}{c:Nat}(h:∀k,Bn k b=YM c k)(y:Ky):∀(j:Nat)(l:List Ky),JK c y j l=FZ b y j l
 | _,[]=>rfl
 | j,x::xs=>by simp only[JK,FZ,h,L5 h y (j+1) xs]
theorem LR{T:List (List Nat)}{M:List Nat}(h:Cor T M):∀(i:Nat)(pre l:List Ky),JB M i pre l=GU T i pre l
 | _,_,[]=>rfl
 | i,pre,y::ys=>by simp only[JB,GU,L5 (h.2 i),LR h (i+1)]
theorem Hf{os:List Oper}{L:List Ky}(h:PS os L=true):indep os L=true:=by simp only[PS,ah] at h;simp only[indep,ah];refine⟨h.1,?_⟩;rw[←LR (RI os (T:=[]) (M:=[]) ⟨rfl,fun j k=>?_⟩)];exact h.2;simp only[List.getD_nil,Jz,Nat.zero_testBit];rfl
theorem L7{os:List Oper}{L:List Ky}{p:Prop}(h:PS os L=true)(hp:p):indep os L=true∧p:=⟨Hf h,hp⟩
theorem wq.nth{g:G}{ks:List Nat}:∀{ps qs:List PV},wq g ks ps qs→∀t,Vw g ks (nth ps t) (nth qs t)
 | _,_,.nil,t=>by cases t<;>exact .same rfl
 | _,_,.cons h _,0=>h
 | _,_,.cons _ h',t+1=>wq.nth h' t
theorem wq.len{g:G}{ks:List Nat}:∀{ps qs:List PV},wq g ks ps qs→qs.length=ps.length
 | _,_,.nil=>rfl
 | _,_,.cons _ h'=>by simp only[aY,wq.len h']
section
variable{P:Program}{X:Cx}{vs:List Value}{e:TypeId}{xs:List (List D)}
theorem Wj{args args':List PV}(hv:wq ⟨args,[some (.aX e xs)]⟩ [0] args args')(hs:Sat P X X.ν0 ⟨args,[some (.aX e xs)]⟩ ⟨⟨vs⟩,[]⟩ X.w0) :
 Sat P ⟨X.w0,Own X.ν0 (dV []),X.ν0,dV [],X.Z⟩ X.ν0 ⟨args',[]⟩ ⟨⟨vs⟩,[]⟩ X.w0:=by
 have hw:∀b,dk X X.ν0 (G.at ⟨args,[some (.aX e xs)]⟩) b→b<X.w0.heap.size→dk ⟨X.w0,Own X.ν0 (dV []),X.ν0,dV [],X.Z⟩ X.ν0 (G.at ⟨args',[]⟩) b∧X.w0.heap[b]?=X.w0.heap[b]?:=fun b hb _=>⟨⟨kX _ b,hb.2⟩,rfl⟩
 have jU:∀b,Own X.ν0 (G.at ⟨args,[some (.aX e xs)]⟩) b→dk ⟨X.w0,Own X.ν0 (dV []),X.ν0,dV [],X.Z⟩ X.ν0 (G.at ⟨args',[]⟩) b:=fun b hb=>⟨kX _ b,hs.PG hb⟩
 have np:∀k,G.at ⟨args',[]⟩ k=none:=fun _=>rfl
 refine⟨hs.size.trans hv.len.symm,fun t=>aJ.vw hs hw jU _ (hv.nth t) (hs.sl t),fun k e h=>?_,fun k k' e e' b h=>?_,fun b hb=>?_,fun k h=>?_,fun k h=>?_,⟨fun b hb=>?_,hs.kt rfl fun b hb=>(kX _ b hb).elim⟩,vg.refl _ _,rfl⟩
 ·rw[np] at h;cases h
 ·rw[np] at h;cases h
 ·exact(kX _ b hb).elim
 ·rw[np] at h;cases h
 ·cases k<;>simp[dV] at h
 ·exact⟨(hs.Jy b hb).1,kX _ b⟩
theorem xn{f:FuncId}{res:PV}{args args':List PV}(hv:wq ⟨args,[some (.aX e xs)]⟩ [0] args args')(hres:res.lt 0=true)(hC:C P f args' [] (jF res [])):C P f args [some (.aX e xs)] (jF res [some .dead]):=by
 refine⟨hC.1,fun X vs ld hO hs=>?_⟩;refine(hC.2 _ vs rfl rfl (Wj hv hs)).mono ?_;rintro ex w' ⟨v,r,s,ν',rfl,⟨e1,e2⟩,je⟩;rw[e1,e2] at je;refine⟨v,_,_,X.ν0,rfl,⟨rfl,rfl⟩,?_⟩;have hno:∀b,¬Own X.ν0 (G.at ⟨[res],[some .dead]⟩) b:=by
  rintro b ⟨k,e,h,hl,_⟩
  match k,h with
  | 0,h=>
    obtain rfl:En.dead=e:=by simpa[G.at,dV] using h
    cases hl
  | k+1,h=>simp[G.at,dV] at h
 refine⟨rfl,fun t=>?_,fun k e h=>?_,fun k k' e e' b h1 h2 hl=>?_,fun b hb=>(hno b hb).elim,fun k h=>?_,fun k h=>?_,hs.Jy,je.Da.mono fun b hb _=>(kX _ b hb).elim,rfl⟩
 ·cases t with
  | zero=>have h:=je.sl 0;simp only[nth] at h⊢;have hw:∀b,dk (⟨X.w0,Own X.ν0 (dV []),X.ν0,dV [],X.Z⟩:Cx) ν' (G.at ⟨[res],[]⟩) b→b<w'.heap.size→dk X X.ν0 (G.at ⟨[res],[some .dead]⟩) b∧w'.heap[b]?=w'.heap[b]?:=fun b hb _=>⟨⟨hno b,hb.2⟩,rfl⟩;exact aJ.VX hw _ _ hres h
  | succ t=>exact trivial
 ·match k,h with
  | 0,h=>
   obtain rfl:En.dead=e:=by simpa[G.at,dV] using h
   exact trivial
  | k+1,h=>simp[G.at,dV] at h
 ·match k,h1 with
  | 0,h1=>
   obtain rfl:En.dead=e:=by simpa[G.at,dV] using h1
   cases hl
  | k+1,h1=>simp[G.at,dV] at h1
 ·match k,h with
  | 0,_=>exact hs.nu 0 rfl
  | k+1,h=>simp[G.at,dV] at h
 rw[ld] at h
 match k,h with
 | 0,_=>exact⟨rfl,rfl⟩
 | k+1,h=>simp[dV] at h
end
section
variable{E:Env}{g:G}{d:Nat}{ty:TypeId}{pos:String}{fK:Array Edge}{gd:Option (Nat×Bool)}
theorem Pe{P:Program}(w:World)(n:Nat)(t e:TypeId)(a:Option Addr)(l c:Nat)(h:P.underlying t=some (.slice e)):(Op.equalIn (n+1) t (.slice a l c) (.slice none 0 0)).run P w= .ok a.isNone w:=by cases a<;>simp[Op.equalIn,run_underlying h]
theorem Vh{P:Program}(w:World)(t e:TypeId)(a:Option Addr)(l c:Nat)(h:P.underlying t=some (.slice e)):(Op.equal t (.slice a l c) (.slice none 0 0)).run P w= .ok a.isNone w:=Pe w 9999 t e a l c h
theorem acq(x:Operand)(t e u:TypeId)(ti:TI)(b:Bool)(ht:E.ti t=some ti)(mI:ti.ty= .slice e)(hp:∀(w:World)(ok:Nat→Prop)(ν:Nat→Nm)(st:Nat→Option En)(v:Value),aJ w ok ν st (g.ev x) v→∃a n c,v= .slice a n c∧a.isNone=b) :
 mM E.P ⟨some d,.binOp .eql t x (.const (.slice none 0 0)) u,ty,pos,fK,gd⟩ g ⟨ez x,[]⟩ ⟨some (d,.d (.val (.bool b))),[]⟩:=by
 intro g2 hg
 have h1:=hg.ev (x:=x) (fun t h=>h)
 refine HC.val rfl fun X ν a w hs=>?_
 have hv:=hs.ev x
 rw[h1] at hv
 obtain⟨ad,n,c,hva,hb⟩:=hp _ _ _ _ _ hv
 have h:=(E.ok t ti ht).ty
 rw[mI] at h
 refine⟨.bool b,?_,qd rfl⟩
 have he:a.eval (.const (.slice none 0 0))= .slice none 0 0:=rfl
 simp[execOp,hva,he,eqGuard,binOp,Vh w t e ad n c h,hb]
theorem F5:∀(w:World)(ok:Nat→Prop)(ν:Nat→Nm)(st:Nat→Option En)(v:Value),aJ w ok ν st .bW v→∃a n c,v= .slice a n c∧a.isNone=true:=by intro w ok ν st v h;simp only[aJ] at h;exact⟨_,_,_,h,rfl⟩
theorem Gt(ad:Addr)(n c:Nat):∀(w:World)(ok:Nat→Prop)(ν:Nat→Nm)(st:Nat→Option En)(v:Value),aJ w ok ν st (.d (.val (.slice (some ad) n c))) v→∃a n c,v= .slice a n c∧a.isNone=false:=by intro w ok ν st v h;exact⟨_,_,_,ig h,rfl⟩
theorem G0{x:List D}{xs:List (List D)}:∀(w:World)(ok:Nat→Prop)(ν:Nat→Nm)(st:Nat→Option En)(v:Value),aJ w ok ν st (.d (.eC (x::xs))) v→∃a n c,v= .slice a n c∧a.isNone=false:=by
 intro w ok ν st v h;simp only[aJ] at h;cases h with
 | eC=>exact⟨_,_,_,rfl,rfl⟩
theorem D9{m:Option (List Ky)}{gs:Option Nat}{rest:uW→Option (List Ky)→G→Prop}{x:Operand}{t u:TypeId}(e:TypeId)(ti:TI)(b:Bool)(ht:E.ti t=some ti)(mI:ti.ty= .slice e){p:PV}(hx:g.ev x=p)(hp:∀(w:World)(ok:Nat→Prop)(ν:Nat→Nm)(st:Nat→Option En)(v:Value),aJ w ok ν st p v→∃a n c,v= .slice a n c∧a.isNone=b)
 (hr:rest .on (nx m (pE (wg gs ⟨ez x,[]⟩) ⟨some (d,.d (.val (.bool b))),[]⟩)) (g.app ⟨some (d,.d (.val (.bool b))),[]⟩)):tR E m gs ⟨some d,.binOp .eql t x (.const (.slice none 0 0)) u,ty,pos,fK,gd⟩ g rest:=
 gm (acq x t e u ti b ht mI (by rw[hx];exact hp)) hr
end
theorem Qf{P:Program}{f:FuncId}{R:PV→List (Option En)→Prop}(h1:C P f [.bW] [] R)(h2:∀a c,C P f [.d (.val (.slice (some a) 0 c))] [] R):C P f [.d (.eC [])] [] R:=by
 refine⟨h1.1,fun X vs ld hO hs=>?_⟩;have hsz:=hs.size;obtain⟨v,rfl⟩:=List.length_eq_one_iff.1 (show vs.length=1 by simpa using hsz);have h0:=hs.sl 0;have h0:jD X.w0 (dk X X.ν0 (G.at ⟨[.d (.eC [])],[]⟩)) (.eC []) v:=h0;have key:∀p:PV,aJ X.w0 (dk X X.ν0 (G.at ⟨[p],[]⟩)) X.ν0 (G.at ⟨[p],[]⟩) p v→Sat P X X.ν0 ⟨[p],[]⟩ ⟨⟨[v]⟩,[]⟩ X.w0:=fun p hp=>
  ⟨rfl,fun t=>by
   match t with
   | 0=>exact hp
   | t+1=>simp only[nth,aJ],hs.en,hs.inj,hs.base,hs.nu,hs.par,hs.Jy,hs.Da,rfl⟩
 cases h0 with
 | nil=>exact h1.2 X _ ld hO (key .bW rfl)
 | emp a c h=>exact(h2 a c).2 X _ ld hO (key _ (qd rfl))
 | eC _ us b off cap sz fy hb lF hmax hB hlu hxx hu hc kS=>exact(h2 _ cap).2 X _ ld hO (key _ (qd rfl))
theorem BC(z:Array Value)(hz:0<z.toList.length)(n:Nat):(Builtin.zeroCells z n).toList=(aE n z.toList).flatten:=NK z.toList hz n
theorem AO{P:Program}(w:World)(t e ty:TypeId)(ht:P.underlying t=some (.slice e))(a:Option Addr)(c:Nat):(Builtin.clear_ #[t] ty #[.slice a 0 c]).run P w= .ok (.tuple #[]) w:=by cases a<;>simp[Builtin.clear_,run_underlying ht]
theorem Nl{P:Program}(w:World)(t e ty:TypeId)(z:Value)(ht:P.underlying t=some (.slice e))(hv:(zeroValue e).run P w= .ok z w)(b o n c:Nat)(hn:n≠0)(hz:0<z.cells.toList.length)
 (cur:Array Value) (T:TypeId) (hg:w.heap[b]?=some (.cells cur T (0,0))) (hl:o+(aE n z.cells.toList).flatten.length≤cur.size) (h1:∀v∈(aE n z.cells.toList).flatten,v.oneCell'=true) :
 (Builtin.clear_ #[t] ty #[.slice (some ⟨b,o,none⟩) n c]).run P w= .ok (.tuple #[]) (w.setRow b (cur.toList.take o++(aE n z.cells.toList).flatten++cur.toList.drop (o+(aE n z.cells.toList).flatten.length)).toArray):=by
 have ld:=run_storeCells_at (P:=P) b o T (aE n z.cells.toList).flatten 0 cur w hg oM h1
 simp only[jw] at ld
 obtain⟨m,rfl⟩:∃m,n=m+1:=⟨n-1,oM⟩
 rw[←BC z.cells hz] at ld⊢
 simp[Builtin.clear_,run_underlying ht,hv,ld]
section
variable{E:Env}{X:Cx}{ν:Nat→Nm}{g:G}{a:Act}{w:World}
def Rv(z:List D)(xs:List (List D))(m:Nat):List (List D):=xs.take m++aE (xs.length-m) z
theorem aa1{t e k m dd:Nat}{ty:TypeId}{pos:String}{fK:Array Edge}{gd:Option (Nat×Bool)}{xs:List (List D)}{z:List D}{ti ei:TI}(ht:E.ti t=some ti)(mI:ti.ty= .slice e)(he:E.ti e=some ei)(hz:Dp ei.zero=some z)
 (hk:g.at k=some (.aX e xs)) (hm:m≤xs.length) (n c:Nat) (a0:Option Addr) (hν:(ν k).v= .slice a0 n c) (hv:a.eval (.tmp dd)=sliced a0 m n c ei.n)
 (hs:Sat E.P X ν g a w) (next:Act→World→Prop) (Q:Exit→Act→World→Prop) (hn:∀ν' a' w',Sat E.P X ν' ⟨g.sl,dW g.st k (some (.aX e (Rv z xs m)))⟩ a' w'→next a' w') :
 (⟨none,.call ⟨.builtin .clear,#[.tmp dd],#[t]⟩,ty,pos,fK,gd⟩:Oper).wp E.P a w next Q:=by
 have hu:=(E.ok t ti ht).ty
 rw[mI] at hu
 obtain⟨i,zv,i1,i2,i3,i4,i5,i6⟩:=(E.ok e ei he).info
 have hpos:=(E.ok e ei he).pos
 have hzl:zv.cells.toList.length=ei.n:=by simpa using i6
 have hzv:(zeroValue e).run E.P w= .ok zv w:=by simp[zeroValue,typeInfo,i1,i4]
 obtain⟨us,ho,kS,hB,hf0⟩:=hs.en k _ hk
 rw[(E.ok e ei he).cells] at kS ho
 have hul:us.length=xs.length:=kS.len
 have hfl:=kS.mZ
 have key:∀(w':World)(us':List (List Value)),(execOp a.eval ⟨none,.call ⟨.builtin .clear,#[.tmp dd],#[t]⟩,ty,pos,fK,gd⟩).run E.P w= .ok (.value (.tuple #[])) w'→vg (fun b=>(ν k).has b) w w' →
  (w'.ownsRow 0 e ei.n (ν k).v (Rv z xs m).length us'.flatten)→de w (dk X ν g.at) ei.n (Rv z xs m) us' →
  (⟨none,.call ⟨.builtin .clear,#[.tmp dd],#[t]⟩,ty,pos,fK,gd⟩:Oper).wp E.P a w next Q:=by
  intro w' us' hr uX rA qI
  unfold Oper.wp
  rw[hr,Oper.upon_value]
  refine hn _ _ _ (hs.Gh k (.aX e xs) (.aX e (Rv z xs m)) hk rfl uX none .undef Go.undef ?_ (fun h=>by cases h))
  intro hwf _
  refine⟨us',?_,?_,by simp[Rv];omega,hf0⟩
  ·rw[(E.ok e ei he).cells]
   exact rA
  ·rw[(E.ok e ei he).cells]
   exact qI.frame hwf uX.size
 have hex:∀(v:Value)(w':World),(Builtin.clear_ #[t] ty #[a.eval (.tmp dd)]).run E.P w= .ok v w'→(execOp a.eval ⟨none,.call ⟨.builtin .clear,#[.tmp dd],#[t]⟩,ty,pos,fK,gd⟩).run E.P w= .ok (.value v) w':=by intro v w' h;unfold execOp;simp only[resolve,invoke,builtin,Sem.run_bind,Sem.run_pure,Result.andThen_ok,List.map_toArray,aV,dS,h]
 rcases ho.2 with⟨h1,h2⟩|⟨b,cap,cur,h1,_,h2,h4,h5,h6,h7⟩
 ·rw[h1] at hν
  obtain⟨rfl,rfl,rfl⟩:none=a0∧0=n∧0=c:=by simpa using hν
  have hm0:m=0:=oM
  subst hm0
  have hxs:xs=[]:=List.eq_nil_of_length_eq_zero h2
  subst hxs
  refine key w us (hex _ _ ?_) (vg.refl _ w) ?_ ?_
  ·rw[hv]
   exact AO w t e ty hu _ _
  ·exact ho
  ·exact kS
 ·rw[h1] at hν
  obtain⟨rfl,rfl,rfl⟩:some ⟨b,0,none⟩=a0∧xs.length=n∧cap=c:=by simpa using hν
  by_cases nS:m=xs.length
  ·refine key w us (hex _ _ ?_) (vg.refl _ w) ?_ ?_
   ·rw[hv]
    unfold sliced
    rw[nS,mo]
    exact AO w t e ty hu _ _
   ·simpa[Rv,nS] using ho
   ·simpa[Rv,nS] using kS
  ·have hzr:aH w (dk X ν g.at) ν g.at (dm z) zv.cells.toList:=AM (xX _ _ _ _ zv.cells.toList) (by rw[i5];exact hz)
   obtain⟨hz1,hz2⟩:=Fo hzr
   have hrep0:de w (dk X ν g.at) ei.n (aE (xs.length-m) z) (aE (xs.length-m) zv.cells.toList):=de.replicate _ (by rw[←hz1];exact hzl) hzl hz2
   have qI:de w (dk X ν g.at) ei.n (Rv z xs m) (us.take m++aE (xs.length-m) zv.cells.toList):=by have:=kS.cut 0 m;simp only[jy] at this;exact this.append hrep0
   have hmul:m*ei.n≤xs.length*ei.n:=bu _ hm
   have hZ:(aE (xs.length-m) zv.cells.toList).flatten.length=(xs.length-m)*ei.n:=hrep0.mZ.trans (by simp)
   have hsum:m*ei.n+(xs.length-m)*ei.n=xs.length*ei.n:=by rw[←Nat.add_mul];congr 1;omega
   have lF:xs.length*ei.n≤cap*ei.n:=bu _ h4
   have ou:=Nl (P:=E.P) w t e ty zv hu hzv b (m*ei.n) (xs.length-m) (cap-m) oM oM cur e h2 (by rw[hZ,hsum,h6];exact lF) hrep0.one
   have hval:a.eval (.tmp dd)= .slice (some ⟨b,m*ei.n,none⟩) (xs.length-m) (cap-m):=by rw[hv];unfold sliced;rw[if_neg oM,cZ,add_lit,eu]
   refine key _ _ (hex _ _ (by rw[hval];exact ou)) (mE w b _ _ ((mi hf0).2 (by rw[h1];rfl))) ?_ qI
   have htake:cur.toList.take (m*ei.n)=(us.take m).flatten:=by have:=vR us 0 m kS.hu oM;simp only[jy,Nat.zero_mul] at this;rw[this,←h7,List.take_take,Nat.min_eq_left hmul]
   have hnew:cur.toList.take (m*ei.n)++(aE (xs.length-m) zv.cells.toList).flatten=(us.take m++aE (xs.length-m) zv.cells.toList).flatten:=by rw[htake,List.flatten_append]
   have hnl:(us.take m++aE (xs.length-m) zv.cells.toList).flatten.length=(Rv z xs m).length*ei.n:=qI.mZ
   have hcl:(Rv z xs m).length=xs.length:=by simp[Rv];omega
   rw[h1]
   refine⟨hnl,.inr ⟨b,cap,_,by rw[hcl],Nat.zero_le _,setRow_heap w b _ _ e _ h2,by rw[hcl];exact h4,h5,?_,?_⟩⟩
   ·rw[hnew]
    simp only[List.size_toArray,List.length_append,hnl,hcl,List.length_drop,Array.length_toList,h6,hZ,hsum]
    omega
   ·rw[hnew,hcl]
    simp only
    rw[cI (by rw[hnl,hcl];exact aK _),aq (by rw[hnl,hcl];exact aK _)]
end
theorem S4(z:List D)(xs:List (List D))(m:Nat)(h:m≤xs.length):(Rv z xs m).take m=xs.take m:=by
 have e:(xs.take m).length=m:=by simp;omega
 rw[Rv,cI oM,aq oM]
theorem Xg(z:List D)(xs:List (List D))(m:Nat)(h:m≤xs.length):(Rv z xs m).length=xs.length:=by simp[Rv];omega
theorem aga{P:Program}{ops:Array Oper}{o1 o2:Oper}{os:List Oper}{g g':G}{K:G→Prop}(hg1:o1.guard=none)(hg2:o2.guard=none)
 (h:∀(X:Cx)(ν:Nat→Nm)(a:Act)(w:World)(next next1:Act→World→Prop)(Q:Exit→Act→World→Prop),Sat P X ν g a w→(∀ν' a' w',Sat P X ν' g' a' w'→next a' w')→(∀a1 w1,o2.wp P a1 w1 next Q→next1 a1 w1)→o1.wp P a w next1 Q)
 (hr:WO P ops os g' K):WO P ops (o1::o2::os) g K:=by
 intro i hi X ν a w Q hs hn
 have ho1:ops[i]?=some o1:=hi 0 o1 rfl
 have ho2:ops[i+1]?=some o2:=hi 1 o2 rfl
 simp only[aY,List.range'_succ,wpOps,ho1]
 have hrest:=hr (i+2) (fun j o' hj=>by have:=hi (j+2) o' (by simpa using hj);rw[show i+2+j=i+(j+2) from by omega];exact this)
 rw[if_pos (by simp[Region.wanted,hg1])]
 refine .inl (h X ν a w (wpOps P ops Q (List.range' (i+2) os.length)) _ Q hs (fun ν' a' w' hs'=>hrest X ν' a' w' Q hs' hn) fun a1 w1 h2=>?_)
 simp only[ho2]
 rw[if_pos (by simp[Region.wanted,hg2])]
 exact .inl h2
section
variable{E:Env}{g:G}{n0:Nat}
theorem abj{ops:Array Oper}{os:List Oper}{K:G→Prop}{x lo:Operand}{t e k d:Nat}{m:Int}{ty ty2:TypeId}{pos pos2:String}{fK aft2:Array Edge}{xs:List (List D)}(z:List D)(ti ei:TI)(ht:E.ti t=some ti)(mI:ti.ty= .slice e)(he:E.ti e=some ei)(hz:Dp ei.zero=some z)
 (hx:g.ev x= .aX k) (hlo:g.ev lo= .d (.val (.int .i64 m))) (hk:g.at k=some (.aX e xs)) (h0:0≤m) (hm:m≤xs.length) (hd:d<g.sl.length)
 (hr:WO E.P ops os ⟨n8 g.sl d .any,dW g.st k (some (.aX e (Rv z xs m.toNat)))⟩ K) :
 WO E.P ops (⟨some d,.slice t x (some lo) none none,ty,pos,fK,none⟩::⟨none,.call ⟨.builtin .clear,#[.tmp d],#[t]⟩,ty2,pos2,aft2,none⟩::os) g K:=by
 refine aga rfl rfl (fun X ν a w next next1 Q hs hn h2=>?_) hr
 have hu:=(E.ok t ti ht).ty
 rw[mI] at hu
 have hv:=hs.ev x
 rw[hx] at hv
 have oI:=hs.ev lo
 rw[hlo] at oI
 have oI:=ig oI
 simp only[aJ] at hv
 have hsize:=(E.ok e ei he).size
 have hs1:=hs.put d (p:=.any) (v:=Go.undef) trivial
 obtain⟨us,ho,kS,hB,hf0⟩:=hs.en k _ hk
 have ou:∃n c a0,(ν k).v= .slice a0 n c∧(execOp a.eval ⟨some d,.slice t x (some lo) none none,ty,pos,fK,none⟩).run E.P w= .ok (.value (sliced a0 m.toNat n c ei.n)) w:=by rcases ho.2 with⟨h1,h2⟩|⟨b,cap,cur,h1,_,_,h4,_⟩;refine⟨0,0,none,h1,?_⟩;have hr:=wC (P:=E.P) w hu hsize none 0 0 (some (.int .i64 m)) none m ((0:Nat):Int) (.inr ⟨_,rfl⟩) (.inl ⟨rfl,rfl⟩) h0 oM (nC _) (aK _);simp only[execOp,hv.2,h1,oI,eW,cZ,Sem.run_bind,hr,Result.andThen_ok];rfl;refine⟨xs.length,cap,some ⟨b,0,none⟩,h1,?_⟩;have hr:=wC (P:=E.P) w hu hsize (some ⟨b,0,none⟩) xs.length cap (some (.int .i64 m)) none m (xs.length:Int) (.inr ⟨_,rfl⟩) (.inl ⟨rfl,rfl⟩) h0 oM (nC _) h4;simp only[bc] at hr;simp only[execOp,hv.2,h1,oI,eW,cZ,Sem.run_bind,hr,Result.andThen_ok];rfl
 obtain⟨n,c,a0,hν,hr⟩:=ou
 unfold Oper.wp
 rw[hr,Oper.upon_value]
 refine h2 _ _ ?_
 have hs2:=hs.put d (p:=.any) (v:=sliced a0 m.toNat n c ei.n) trivial
 refine aa1 (g:=⟨n8 g.sl d .any,g.st⟩) ht mI he hz hk oM n c a0 hν ?_ hs2 next Q hn
 show(a.put (some d) _).tmps.getD d Go.undef=_
 rw[v7,if_pos ⟨rfl,by rw[hs.size];exact hd⟩]
theorem WN(x hi:Operand)(t e k:Nat){d:Nat}{ty:TypeId}{pos:String}{fK:Array Edge}{gd:Option (Nat×Bool)}(ti ei:TI)(xs:List (List D))(h:Int)(ht:E.ti t=some ti)(mI:ti.ty= .slice e)(he:E.ti e=some ei)
 (hx:g.ev x= .aX k) (hk:g.at k=some (.aX e xs)) (hhi:g.ev hi= .d (.val (.int .i64 h))) (h0:0≤h) (h1:h≤xs.length) :
 mM E.P ⟨some d,.slice t x none (some hi) none,ty,pos,fK,gd⟩ g ⟨ez x++ez hi,[k]⟩ ⟨some (d,.d (.eC (xs.take h.toNat))),[(k,.dead)]⟩:=by
 intro g2 hg
 have e1:=hg.ev (x:=x) (fun t h=>by simp[h])
 have e2:=hg.ev (x:=hi) (fun t h=>by simp[h])
 have h3:=(hg.p k (by simp)).trans hk
 intro X ν a w next Q hs hn
 have hu:=(E.ok t ti ht).ty
 rw[mI] at hu
 have hv:=hs.ev x
 rw[e1,hx] at hv
 have oI:=hs.ev hi
 rw[e2,hhi] at oI
 have oI:=ig oI
 simp only[aJ] at hv
 have hsize:=(E.ok e ei he).size
 obtain⟨hn',rfl⟩:∃n:Nat,h=n:=⟨h.toNat,oM⟩
 simp only[bc] at hn⊢
 obtain⟨us,ho,kS,hB,hf0⟩:=hs.en k _ h3
 have np:∀j,(g2.app ⟨some (d,.d (.eC (xs.take hn'))),[(k,.dead)]⟩).at j=if j=k then some .dead else g2.at j:=fun j=>iT g2.st k (some .dead) j
 have wi:∀j e1,(g2.app ⟨some (d,.d (.eC (xs.take hn'))),[(k,.dead)]⟩).at j=some e1→e1.live=true→j≠k∧g2.at j=some e1:=by intro j e1 h1 h2;rw[np] at h1;by_cases hj:j=k;rw[if_pos hj] at h1;cases h1;cases h2;rw[if_neg hj] at h1;exact⟨hj,h1⟩
 have jU:∀b,Own ν (g2.app ⟨some (d,.d (.eC (xs.take hn'))),[(k,.dead)]⟩).at b→Own ν g2.at b:=by rintro b ⟨j,e1,h1,h2,h3⟩;exact⟨j,e1,(wi j e1 h1 h2).2,h2,h3⟩
 have hw:∀b,dk X ν g2.at b→b<w.heap.size→dk X ν (g2.app ⟨some (d,.d (.eC (xs.take hn'))),[(k,.dead)]⟩).at b∧w.heap[b]?=w.heap[b]?:=fun b hb _=>⟨⟨fun ho=>hb.1 (jU b ho),hb.2⟩,rfl⟩
 have ou:∃v,(execOp a.eval ⟨some d,.slice t x none (some hi) none,ty,pos,fK,gd⟩).run E.P w= .ok (.value v) w∧jD w (dk X ν (g2.app ⟨some (d,.d (.eC (xs.take hn'))),[(k,.dead)]⟩).at) (.eC (xs.take hn')) v:=by rcases ho.2 with⟨k1,k2⟩|⟨b,cap,cur,k1,_,k2,k4,k5,k6,k7⟩;have hr:=wC (P:=E.P) w hu hsize none 0 0 none (some (.int .i64 (hn':Int))) 0 (hn':Int) (.inl ⟨rfl,rfl⟩) (.inr ⟨_,rfl⟩) (nC _) h0 oM (aK _);obtain rfl:hn'=0:=oM;refine⟨.slice none 0 0,?_,by simp;exact .nil⟩;simp only[execOp,hv.2,k1,oI,eW,cZ,Sem.run_bind,hr,Result.andThen_ok];rfl;have hr:=wC (P:=E.P) w hu hsize (some ⟨b,0,none⟩) xs.length cap none (some (.int .i64 (hn':Int))) 0 (hn':Int) (.inl ⟨rfl,rfl⟩) (.inr ⟨_,rfl⟩) (nC _) h0 oM k4;simp only[bc] at hr;refine⟨.slice (some ⟨b,0,none⟩) hn' cap,?_,?_⟩;simp only[execOp,hv.2,k1,oI,eW,cZ,Sem.run_bind,hr,Result.andThen_ok];unfold sliced;simp[add_lit];have hrr':=(kS.frame hw (aK _)).cut 0 hn';simp only[jy] at hrr';have eO:(xs.take hn').length=hn':=(by simp;omega);have hcl:=vR us 0 hn' kS.hu (by rw[kS.len];omega);simp only[jy,Nat.zero_mul] at hcl;have hokb:dk X ν (g2.app ⟨some (d,.d (.eC (xs.take hn'))),[(k,.dead)]⟩).at b:=(by refine⟨?_,hs.PG ⟨k,_,h3,rfl,.inl (by rw[k1];rfl)⟩⟩;rintro⟨j,e1,m1,m2,m3⟩;obtain⟨m4,m5⟩:=wi j e1 m1 m2;exact m4 (hs.inj j k e1 _ b m5 h3 m2 rfl m3 (.inl (by rw[k1];rfl))));have hres:=jD.eC (w:=w) (ok:=dk X ν (g2.app ⟨some (d,.d (.eC (xs.take hn'))),[(k,.dead)]⟩).at) (xs.take hn') (us.take hn') b 0 cap (E.P.cellsOf e) hokb (sN k2) (by rw[eO];omega) k5 (by rw[eO];omega) hrr'.len hrr'.hx hrr'.hu (fun j u hj=>?_) hrr'.hr;rw[eO] at hres;exact hres;rw[hcl,←k7,List.take_take] at hj;have hj':cur.toList[j]?=some u:=(by rw[List.getElem?_take] at hj;split at hj;exact hj;cases hj);have hj2:cur[j]?=some u:=(by simpa using hj');simp[World.cell?,k2,hj2]
 obtain⟨v,hr,qI⟩:=ou
 unfold Oper.wp
 rw[hr,Oper.upon_value]
 refine hn ν _ _ (hs.upd (g':=g2.app ⟨some (d,.d (.eC (xs.take hn'))),[(k,.dead)]⟩) (fun _=>False) (vg.refl _ w) (fun _ hb=>hb.elim) ?_ ?_ ?_ ?_ ?_ ?_ ?_ rfl)
 ·intro j hj
  refine⟨rfl,?_⟩
  rw[np]
  split
  ·rfl
  ·exact hj
 ·intro j e1 hj
  rw[np] at hj
  by_cases nR:j=k
  ·rw[if_pos nR] at hj
   cases hj
   exact .inr trivial
  ·rw[if_neg nR] at hj
   exact .inl ⟨hj,rfl,fun _ _ _ hb=>hb⟩
 ·intro j e1 b m1 m2 m3
  exact .inl ⟨j,e1,(wi j e1 m1 m2).2,m2,m3⟩
 ·intro j j' e1 e2 b m1 m2 m3 m4 m5 m6
  exact hs.inj j j' e1 e2 b (wi j e1 m1 m3).2 (wi j' e2 m2 m4).2 m3 m4 m5 m6
 ·intro j hj
  rw[np] at hj
  by_cases nR:j=k
  ·exact .inl (by rw[nR,h3];rfl)
  ·rw[if_neg nR] at hj
   exact .inl hj
 ·simp[G.app,xF,size_put,lq,hs.size]
 ·intro t
  simp only[G.app,xF,v7,pM,hs.size]
  by_cases hc:t=d∧d<g2.sl.length
  ·simp only[hc,and_self,if_true]
   refine .inr ?_
   simp only[aJ]
   exact qI
  ·simp only[hc,if_false]
   exact .inl ⟨trivial,trivial⟩
def onQ(Q:Ex→G→Prop):uW→Ex→G→Prop
 | .on=>Q
 | .off=>fun _ _=>False
theorem e6(Q:Ex→G→Prop)(e:Ex)(g:G):onQ Q .on e g=Q e g:=rfl
theorem jm(hm:E.P.follows .mixedOrders=true){c:Code}{Q:Ex→G→Prop}(h:My E n0 c .on g (onQ Q)):W E.P n0 c g Q:=Vl hm c g _ h
theorem eX(K:G→Prop)(Q:Ex→G→Prop)(g:G):XH K Q .normal g=K g:=rfl
theorem aef(K:G→Prop)(Q:Ex→G→Prop)(i:Nat)(g:G):XH K Q (.exit i) g=Q (.exit i) g:=rfl
theorem zu(K:G→Prop)(Q:Ex→G→Prop)(g:G):XH K Q .ret g=Q .ret g:=rfl
theorem GG{P:Program}(t k e:Nat)(xs:List (List D))(ht:nth g.sl t= .aX k)(hk:g.at k=some (.aX e xs)):pS P n0 g ⟨n8 g.sl t (.d (.eC xs)),dW g.st k (some .dead)⟩:=by
 intro X ν a w _ hs;refine⟨ν,?_⟩;obtain⟨us,ho,kS,hB,hf0⟩:=hs.en k _ hk;have np:∀j,(⟨n8 g.sl t (.d (.eC xs)),dW g.st k (some .dead)⟩:G).at j=if j=k then some .dead else g.at j:=fun j=>iT g.st k (some .dead) j
 have wi:∀j e1,(⟨n8 g.sl t (.d (.eC xs)),dW g.st k (some .dead)⟩:G).at j=some e1→e1.live=true→j≠k∧g.at j=some e1:=by intro j e1 h1 h2;rw[np] at h1;by_cases hj:j=k;rw[if_pos hj] at h1;cases h1;cases h2;rw[if_neg hj] at h1;exact⟨hj,h1⟩
 have jU:∀b,Own ν (⟨n8 g.sl t (.d (.eC xs)),dW g.st k (some .dead)⟩:G).at b→Own ν g.at b:=by rintro b ⟨j,e1,h1,h2,h3⟩;exact⟨j,e1,(wi j e1 h1 h2).2,h2,h3⟩
 have hw:∀b,dk X ν g.at b→b<w.heap.size→dk X ν (⟨n8 g.sl t (.d (.eC xs)),dW g.st k (some .dead)⟩:G).at b∧w.heap[b]?=w.heap[b]?:=fun b hb _=>⟨⟨fun ho=>hb.1 (jU b ho),hb.2⟩,rfl⟩;have qI:jD w (dk X ν (⟨n8 g.sl t (.d (.eC xs)),dW g.st k (some .dead)⟩:G).at) (.eC xs) (ν k).v:=by refine A5 ho kS hB (fun b hb=>⟨?_,hs.PG ⟨k,_,hk,rfl,.inl hb⟩⟩) hw;rintro⟨j,e1,m1,m2,m3⟩;obtain⟨m4,m5⟩:=wi j e1 m1 m2;exact m4 (hs.inj j k e1 _ b m5 hk m2 rfl m3 (.inl hb))
 refine hs.upd (g':=⟨n8 g.sl t (.d (.eC xs)),dW g.st k (some .dead)⟩) (fun _=>False) (vg.refl _ w) (fun _ hb=>hb.elim) ?_ ?_ ?_ ?_ ?_ ?_ ?_ rfl;intro j hj;refine⟨rfl,?_⟩;rw[np];split;rfl;exact hj;intro j e1 hj;rw[np] at hj;by_cases nR:j=k;rw[if_pos nR] at hj;cases hj;exact .inr trivial;rw[if_neg nR] at hj;exact .inl ⟨hj,rfl,fun _ _ _ hb=>hb⟩;intro j e1 b m1 m2 m3;exact .inl ⟨j,e1,(wi j e1 m1 m2).2,m2,m3⟩;intro j j' e1 e2 b m1 m2 m3 m4 m5 m6;exact hs.inj j j' e1 e2 b (wi j e1 m1 m3).2 (wi j' e2 m2 m4).2 m3 m4 m5 m6;intro j hj;rw[np] at hj;by_cases nR:j=k;exact .inl (by rw[nR,hk];rfl);rw[if_neg nR] at hj;exact .inl hj;simp[lq,hs.size];intro j;simp only[pM];by_cases hc:j=t∧t<g.sl.length;simp only[hc,and_self,if_true];refine .inr ?_;have:=hs.sl t;rw[ht] at this;simp only[aJ] at this⊢;rw[this.2];exact qI;simp only[hc,if_false];exact .inl ⟨trivial,trivial⟩
def acG(E:Env)(rs:List ResultVar)(n0:Nat)(R:PV→List (Option En)→Prop)(g:G):Prop:=∃g',pS E.P n0 g g'∧yl E rs n0 R g'
theorem fI{rs:List ResultVar}{R:PV→List (Option En)→Prop}(h:yl E rs n0 R g):acG E rs n0 R g:=⟨g,pS.refl g,h⟩
theorem Ic {f : FuncId} {fn : Func} {c : Code} {args : List PV} {fG : List (Option En)} {R : PV → List (Option En) → Prop} {nt : Nat} {rs : List ResultVar} (hf : E.P.funcs[f]? = some fn) (hb : fn.body = some c) (hname : (fn.name == "runtime.NumGoroutine") = false)
 (hnt:fn.ntmps=nt) (hrs:fn.results.toList=rs) (hn:zY (Al args) nt=true) (h:tN args→D6 fG→W E.P (lX fG) c ⟨dN nt .undef (ixs 0 args),fG⟩ (VJ (acG E rs (lX fG) R))):C E.P f args fG R:=by
 have hn:=mX hn
 rw[qK] at hn
 rw[←XD hn,pZ] at h
 refine Th hf hb hname (acG E rs fG.length R) (fun _ X ν a w ⟨_,hw,h1⟩ hp hs=>let ⟨_,hs'⟩:=hw X ν a w hp hs;yl.sat h1 hp hs' hrs) ?_
 rw[hnt,←Du]
 refine aeI fun h1 h2=>h ?_ h2
 have h1:tN (pad args nt):=h1
 rw[Du] at h1
 exact Gx h1
end
def DL(P:Program)(t:TypeId):Bool:=
 match P.underlying t with
 | some (.struct ⟨[f, g]⟩) => (f.name != "_" && (g.name != "_" && (f.offset == 0 && (g.offset == 1 && ((match P.underlying f.type, P.underlying g.type with | some (.int _), some (.int _) => true | _, _ => false) && (!P.stoodInHeld t && !P.eqGuardType P.depth t))))))
 | _=>false
def rj(a b c e:Int):Bool:=a == c&&b == e
theorem DH {P : Program} {t : TypeId} (h : DL P t = true) : ∃ (f g : Field) (k l : IntKind), P.underlying t = some (.struct ⟨[f, g]⟩) ∧ f.name ≠ "_" ∧ g.name ≠ "_" ∧ f.offset = 0 ∧ g.offset = 1 ∧ P.underlying f.type = some (.int k) ∧ P.underlying g.type = some (.int l) ∧ P.stoodInHeld t = false ∧ P.eqGuardType P.depth t = false := by unfold DL at h;split at h;rename_i f g hu;simp only[ah,bne_iff_ne,ne_eq,beq_iff_eq,kO] at h;obtain⟨h1,h2,h3,h4,h5,h6,h7⟩:=h;split at h5;rename_i k l hk hl;exact⟨f,g,k,l,hu,h1,h2,h3,h4,hk,hl,h6,h7⟩;cases h5;cases h
theorem HE{P:Program}(w:World){t:TypeId}(h:DL P t=true)(a b c e:Int) :
 (Op.equalIn 10000 t (.agg ⟨[.int .i64 a,.int .i64 b]⟩) (.agg ⟨[.int .i64 c,.int .i64 e]⟩)).run P w= .ok (rj a b c e) w:=by
 obtain⟨f,g,k,l,hu,n1,n2,o1,o2,hf,hg,hs,_⟩:=DH h
 have hfs:P.fieldsOf t=⟨[f,g]⟩:=by simp only[Program.fieldsOf,hu]
 rw[run_equalIn_struct w 9999 t _ _ (by rw[hfs];exact hu) hs,hfs]
 have p1:P.plainKey f.type=true:=by simp[Program.plainKey,hf]
 have p2:P.plainKey g.type=true:=by simp[Program.plainKey,hg]
 have e1:=run_part_plain (P:=P) w p1 (xs:=⟨[.int .i64 a,.int .i64 b]⟩) (off:=f.offset) (v:=.int .i64 a) (by rw[o1];rfl)
 have e2:=run_part_plain (P:=P) w p1 (xs:=⟨[.int .i64 c,.int .i64 e]⟩) (off:=f.offset) (v:=.int .i64 c) (by rw[o1];rfl)
 have e3:=run_part_plain (P:=P) w p2 (xs:=⟨[.int .i64 a,.int .i64 b]⟩) (off:=g.offset) (v:=.int .i64 b) (by rw[o2];rfl)
 have e4:=run_part_plain (P:=P) w p2 (xs:=⟨[.int .i64 c,.int .i64 e]⟩) (off:=g.offset) (v:=.int .i64 e) (by rw[o2];rfl)
 have q1:(Op.equalIn 9999 f.type (.int .i64 a) (.int .i64 c)).run P w= .ok (a == c) w:=run_equalIn_int w 9998 f.type .i64 k a c hf
 have q2:(Op.equalIn 9999 g.type (.int .i64 b) (.int .i64 e)).run P w= .ok (b == e) w:=run_equalIn_int w 9998 g.type .i64 l b e hg
 simp only[Op.eqFields,n1,n2,ne_eq,not_false_eq_true,if_true,Sem.run_bind,Sem.run_ite,e1,e2,e3,e4,Result.andThen_ok,q1,q2,rj]
 cases a == c
 ·rfl
 ·simp only[kj,au,if_false,aA,Sem.run_bind,Sem.run_ite,e3,e4,Result.andThen_ok,q2]
  cases b == e<;>rfl
section
variable{E:Env}{g:G}{d:Nat}{ty:TypeId}{pos:String}{fK:Array Edge}{gd:Option (Nat×Bool)}
theorem EE{w:World}{ok:Nat→Prop}{ν:Nat→Nm}{st:Nat→Option En}{a b:Int}{v:Value}(h:aJ w ok ν st (.agg [.d (.val (.int .i64 a)),.d (.val (.int .i64 b))]) v):v= .agg ⟨[.int .i64 a,.int .i64 b]⟩:=by
 simp only[aJ] at h
 obtain⟨vs,rfl,h⟩:=h
 match vs,h with
 | [v1,v2],h=>simp only[aH,and_true] at h;rw[ig h.1,ig h.2]
theorem Y7(x y:Operand)(t u:TypeId)(a b c e:Int)(ht:DL E.P t=true)(hx:g.ev x= .agg [.d (.val (.int .i64 a)),.d (.val (.int .i64 b))])(hy:g.ev y= .agg [.d (.val (.int .i64 c)),.d (.val (.int .i64 e))]) :
 mM E.P ⟨some d,.binOp .eql t x y u,ty,pos,fK,gd⟩ g ⟨ez x++ez y,[]⟩ ⟨some (d,.d (.val (.bool (rj a b c e)))),[]⟩:=by
 intro g2 hg
 have h1:=hg.ev (x:=x) (fun t h=>dI _ h)
 have h2:=hg.ev (x:=y) (fun t h=>iq _ h)
 refine HC.val rfl fun X ν act w hs=>?_
 have hv:=hs.ev x
 have oI:=hs.ev y
 rw[h1,hx] at hv
 rw[h2,hy] at oI
 have q1:=EE hv
 have q2:=EE oI
 obtain⟨_,_,_,_,_,_,_,_,_,_,_,_,hm⟩:=DH ht
 refine⟨.bool (rj a b c e),?_,qd rfl⟩
 simp[execOp,q1,q2,run_eqGuard_agg w .eql t x y _ _ hm,run_eql_struct,HE w ht]
theorem YQ(x y:Operand)(t u:TypeId)(a b c e:Int)(ht:DL E.P t=true)(hx:g.ev x= .agg [.d (.val (.int .i64 a)),.d (.val (.int .i64 b))])(hy:g.ev y= .agg [.d (.val (.int .i64 c)),.d (.val (.int .i64 e))]) :
 mM E.P ⟨some d,.binOp .neq t x y u,ty,pos,fK,gd⟩ g ⟨ez x++ez y,[]⟩ ⟨some (d,.d (.val (.bool (!rj a b c e)))),[]⟩:=by
 intro g2 hg
 have h1:=hg.ev (x:=x) (fun t h=>dI _ h)
 have h2:=hg.ev (x:=y) (fun t h=>iq _ h)
 refine HC.val rfl fun X ν act w hs=>?_
 have hv:=hs.ev x
 have oI:=hs.ev y
 rw[h1,hx] at hv
 rw[h2,hy] at oI
 have q1:=EE hv
 have q2:=EE oI
 obtain⟨_,_,_,_,_,_,_,_,_,_,_,_,hm⟩:=DH ht
 refine⟨.bool (!rj a b c e),?_,qd rfl⟩
 simp[execOp,q1,q2,run_eqGuard_agg w .neq t x y _ _ hm,run_neq_struct,HE w ht]
theorem Qc{m:Option (List Ky)}{gs:Option Nat}{rest:uW→Option (List Ky)→G→Prop}{x y:Operand}{t u:TypeId}(ht:DL E.P t=true){a b c e:Int}(hx:g.ev x= .agg [.d (.val (.int .i64 a)),.d (.val (.int .i64 b))])(hy:g.ev y= .agg [.d (.val (.int .i64 c)),.d (.val (.int .i64 e))])
 (hr:rest .on (nx m (pE (wg gs ⟨ez x++ez y,[]⟩) ⟨some (d,.d (.val (.bool (rj a b c e)))),[]⟩)) (g.app ⟨some (d,.d (.val (.bool (rj a b c e)))),[]⟩)):tR E m gs ⟨some d,.binOp .eql t x y u,ty,pos,fK,gd⟩ g rest:=
 gm (Y7 x y t u a b c e ht hx hy) hr
theorem Wp{m:Option (List Ky)}{gs:Option Nat}{rest:uW→Option (List Ky)→G→Prop}{x y:Operand}{t u:TypeId}(ht:DL E.P t=true){a b c e:Int}(hx:g.ev x= .agg [.d (.val (.int .i64 a)),.d (.val (.int .i64 b))])(hy:g.ev y= .agg [.d (.val (.int .i64 c)),.d (.val (.int .i64 e))])
 (hr:rest .on (nx m (pE (wg gs ⟨ez x++ez y,[]⟩) ⟨some (d,.d (.val (.bool (!rj a b c e)))),[]⟩)) (g.app ⟨some (d,.d (.val (.bool (!rj a b c e)))),[]⟩)):tR E m gs ⟨some d,.binOp .neq t x y u,ty,pos,fK,gd⟩ g rest:=
 gm (YQ x y t u a b c e ht hx hy) hr
theorem afB(x y:Operand)(m n:Int)(tys:Array TypeId)(hx:g.ev x= .d (.val (.int .i64 m)))(hy:g.ev y= .d (.val (.int .i64 n))) :
 mM E.P ⟨some d,.call ⟨.builtin .max,#[x,y],tys⟩,ty,pos,fK,gd⟩ g ⟨ez x++ez y,[]⟩ ⟨some (d,.d (.val (.int .i64 (if m<n then n else m)))),[]⟩:=
 sy rfl hx hy rfl fun a w h1 h2=>by simp[execOp,resolve,invoke,builtin,Builtin.max_,Builtin.max2,h1,h2]
theorem W9{m:Option (List Ky)}{gs:Option Nat}{rest:uW→Option (List Ky)→G→Prop}{x y:Operand}{tys:Array TypeId}(a b c:Int)(hc:(if a<b then b else a)=c)(hx:g.ev x= .d (.val (.int .i64 a)))(hy:g.ev y= .d (.val (.int .i64 b)))
 (hr:rest .on (nx m (pE (wg gs ⟨ez x++ez y,[]⟩) ⟨some (d,.d (.val (.int .i64 c))),[]⟩)) (g.app ⟨some (d,.d (.val (.int .i64 c))),[]⟩)):tR E m gs ⟨some d,.call ⟨.builtin .max,#[x,y],tys⟩,ty,pos,fK,gd⟩ g rest:=by
 subst hc
 exact gm (afB x y a b tys hx hy) hr
theorem adQ(x:Operand)(m:Int)(t u:TypeId)(hx:g.ev x= .d (.val (.int .u64 m))) :
 mM E.P ⟨some d,.binOp .shr t x (.const (.int .u64 1)) u,ty,pos,fK,gd⟩ g ⟨ez x,[]⟩ ⟨some (d,.d (.val (.int .u64 (m.fdiv 2)))),[]⟩:=
 JN rfl hx rfl fun a w h1=>by have he:a.eval (.const (.int .u64 1))= .int .u64 1:=rfl;have hb:min 1 (IntKind.u64).bits=1:=(by decide);simp[execOp,h1,he,eqGuard,binOp,Op.shift,hb]
theorem ae1{m:Option (List Ky)}{gs:Option Nat}{rest:uW→Option (List Ky)→G→Prop}{x:Operand}{t u:TypeId}(a c:Int)(hc:a.fdiv 2=c)(hx:g.ev x= .d (.val (.int .u64 a)))
 (hr:rest .on (nx m (pE (wg gs ⟨ez x,[]⟩) ⟨some (d,.d (.val (.int .u64 c))),[]⟩)) (g.app ⟨some (d,.d (.val (.int .u64 c))),[]⟩)):tR E m gs ⟨some d,.binOp .shr t x (.const (.int .u64 1)) u,ty,pos,fK,gd⟩ g rest:=by
 subst hc
 exact gm (adQ x a t u hx) hr
theorem wrap_u64{n:Int}(h0:0≤n)(h1:n≤9223372036854775807):IntKind.wrap .u64 n=n:=by simp only[IntKind.wrap,IntKind.bits,IntKind.signed,aI,au,if_false];omega
end
end Go.Eng
