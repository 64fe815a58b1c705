/-
  The symbolic layer, twenty-third text: from a function's code to its contract; what the working out may unfold.
-/
import Derived.Test.YtpidddienjoleaaGreatKCC
import Derived.Laws.StructEq
set_option linter.unusedVariables false
set_option linter.unusedSimpArgs false
namespace Go.Eng
open Go.RowKit
def pad:List PV→Nat→List PV
 | [],0=>[]
 | [],n+1=>.undef::pad [] n
 | l,0=>l
 | a::as,n+1=>a::pad as n
theorem qU:∀(l:List PV)(n:Nat),pad l n=l++List.replicate (n-l.length) .undef
 | [],0=>rfl
 | [],n+1=>by simp[pad,qU [] n,List.replicate_succ]
 | a::as,0=>by simp[pad]
 | a::as,n+1=>by simp[pad,qU as n]
def rf(E:Env)(rs:List ResultVar)(n0:Nat)(R:PV→List (Option En)→Prop)(g:G):Prop:=
 ∃ps m q st',qW E g rs=some ps∧Wk n0 m ⟨[eG ps],g.st⟩ ⟨[q],st'⟩∧R q st'
theorem rf.sat{E:Env}{rs:List ResultVar}{n0:Nat}{R:PV→List (Option En)→Prop}{g:G}(h:rf E rs n0 R g){X:Cx}{ν:Nat→Nm}{a:Act}{w:World}(hp:OK X n0)(hs:Sat E.P X ν g a w){fn:Func}(hfn:fn.results.toList=rs) :
 ∃v res st' ν',(results fn a.tmps).run E.P w= .ok v w∧R res st'∧Fk E.P X ν' res st' v w:=by
 obtain⟨ps,m,q,st',h1,h2,h3⟩:=h
 obtain⟨v,hr,hv⟩:=vo hs (fn:=fn) (by rw[hfn];exact h1)
 have hs1:Sat E.P X ν ⟨[eG ps],g.st⟩ ⟨#[v],[]⟩ w:=by
  refine⟨rfl,fun t=>?_,hs.en,hs.inj,hs.base,hs.nu,hs.par,hs.wS,hs.rj,rfl⟩
  cases t with
  | zero=>exact hv
  | succ t=>simp[nth,af]
 obtain⟨ν',hs2⟩:=CM h2 X ν _ _ hp hs1
 exact⟨v,q,st',ν',hr,h3,hs2⟩
theorem Ri{E:Env}{rs:List ResultVar}{g:G}{ps:List PV}{q:PV}(h1:qW E g rs=some ps)(h2:wk ⟨[eG ps],g.st⟩ [] (eG ps) q):rf E rs 0 (aM q []) g:=
 ⟨ps,[],q,[],h1,⟨by simp only[rF];exact⟨h2,trivial⟩,by simp[fm],rfl,rfl⟩,rfl,rfl⟩
theorem M6:bn []=[]:=rfl
theorem KM(x:D)(xs:List D):bn (x::xs)= .d x::bn xs:=rfl
def ru(t:Nat):List (Nat×PV)→PV→PV
 | [],p=>p
 | (d,v)::r,p=>match Nat.beq t d with
   | true=>v
   | false=>ru t r p
def bW(n:Nat)(p:PV)(ch:List (Nat×PV)):List PV:=(List.range n).map fun t=>ru t ch p
theorem pk{a b:Nat}:Nat.ble b a=false↔a<b:=by
 cases h:Nat.ble b a
 ·simp only[true_iff]
  have h':¬b≤a:=fun hl=>by rw[Nat.ble_eq_true_of_le hl] at h;cases h
  omega
 ·have:=Nat.le_of_ble_eq_true h
  simp
  omega
theorem nU:∀(l:List PV)(t:Nat),nth l t=l.getD t .any
 | [],t=>by cases t<;>rfl
 | _::_,0=>rfl
 | _::l,t+1=>by simp only[nth,nU l t];rfl
theorem sj(n:Nat)(p:PV)(ch:List (Nat×PV)):(bW n p ch).length=n:=by simp[bW]
theorem wM(n:Nat)(p:PV)(ch:List (Nat×PV))(t:Nat):nth (bW n p ch) t=match Nat.ble n t with|false=>ru t ch p|true=>.any:=by
 rw[nU]
 cases h:Nat.ble n t
 ·have h':t<n:=pk.1 h
  simp[bW,List.getD,h']
 ·have h':¬t<n:=fun hl=>by rw[pk.2 hl] at h;cases h
  simp[bW,List.getD,h']
theorem Ic{l l':List PV}(hl:l.length=l'.length)(h:∀t,nth l t=nth l' t):l=l':=by
 refine List.ext_getElem hl fun t h1 h2=>?_
 have:=h t
 rw[nU,nU] at this
 simpa[List.getD,h1,h2] using this
theorem Mo(n:Nat)(p:PV)(ch:List (Nat×PV))(d:Nat)(v:PV):fb (bW n p ch) d v=bW n p ((d,v)::ch):=by
 refine Ic (by rw[du,sj,sj]) fun t=>?_
 rw[fW,sj,wM,wM]
 by_cases h:t=d
 ·subst h
  by_cases hn:t<n
  ·rw[if_pos ⟨rfl,hn⟩,pk.2 hn]
   simp only[ru,Nat.beq_refl]
  ·rw[if_neg (fun hc=>hn hc.2)]
   have:Nat.ble n t=true:=by
    cases hb:Nat.ble n t
    ·exact(hn (pk.1 hb)).elim
    ·rfl
   rw[this]
 ·rw[if_neg (fun hc=>h hc.1)]
  have:Nat.beq t d=false:=by
   cases hb:Nat.beq t d
   ·rfl
   ·exact(h (Nat.eq_of_beq_eq_true hb)).elim
  simp only[ru,this]
def JH:Nat→List PV→List (Nat×PV)
 | _,[]=>[]
 | i,a::l=>(i,a)::JH (i+1) l
theorem ES:∀(l:List PV)(i t:Nat)(p:PV),ru (i+t) (JH i l) p=l.getD t p
 | [],i,t,p=>by simp[JH,ru]
 | a::l,i,0,p=>by simp[JH,ru]
 | a::l,i,t+1,p=>by
   have:Nat.beq (i+(t+1)) i=false:=by
    cases hb:Nat.beq (i+(t+1)) i
    ·rfl
    ·have:=Nat.eq_of_beq_eq_true hb;omega
   simp only[JH,ru,this]
   have:=ES l (i+1) t p
   rw[show i+1+t=i+(t+1) by omega] at this
   rw[this]
   rfl
theorem HR{l:List PV}{n:Nat}(h:l.length≤n):pad l n=bW n .undef (JH 0 l):=by
 rw[qU]
 refine Ic (by rw[sj];simp;omega) fun t=>?_
 rw[wM,nU]
 have:=ES l 0 t .undef
 rw[Nat.zero_add] at this
 rw[this]
 cases hb:Nat.ble n t
 rotate_left
 ·have h':¬t<n:=fun hl=>by rw[pk.2 hl] at hb;cases hb
  have h1:(l++List.replicate (n-l.length) PV.undef).length≤t:=by simp;omega
  simp only[List.getD,List.getElem?_eq_none h1,Option.getD_none]
 ·have h':t<n:=pk.1 hb
  simp only[List.getD]
  by_cases hl:t<l.length
  ·rw[List.getElem?_append_left hl,List.getElem?_eq_getElem hl];rfl
  ·rw[List.getElem?_append_right (by omega),List.getElem?_replicate,if_pos (by omega),List.getElem?_eq_none (by omega)]
   rfl
def Q0(g:G)(m:List (Option Nat))(ch:List (Nat×PV))(p:PV):List (Nat×PV)→Prop
 | []=>True
 | (t,q)::r=>wk g m (ru t ch p) q∧Q0 g m ch p r
theorem P8{g:G}{m:List (Option Nat)}(p:PV):wk g m p .any:=by cases p<;>simp[wk]
theorem JT{g:G}{m:List (Option Nat)}{ch:List (Nat×PV)}{p:PV}:∀{ch':List (Nat×PV)},Q0 g m ch p ch'→∀t,wk g m (ru t ch p) (ru t ch' .any)
 | [],_,t=>by simp only[ru];exact P8 _
 | (d,q)::r,h,t=>by
   simp only[Q0] at h
   simp only[ru]
   cases hb:Nat.beq t d
   ·exact JT h.2 t
   ·have:=Nat.eq_of_beq_eq_true hb
    subst this
    exact h.1
theorem HC{g:G}{m:List (Option Nat)}{f f':Nat→PV}(h:∀t,wk g m (f t) (f' t)):∀(l:List Nat),rF g m (l.map f) (l.map f')
 | []=>by simp only[List.map_nil,rF]
 | a::l=>by simp only[List.map_cons,rF];exact⟨h a,HC h l⟩
theorem ah{P:Program}{n0 n:Nat}(m:List (Option Nat)){p:PV}{ch ch':List (Nat×PV)}{st st':List (Option En)}(h1:Q0 ⟨bW n p ch,st⟩ m ch p ch')(h2:fm ⟨bW n p ch,st⟩ m m st')(h3:tx m st'=true)(h4:keeps n0 0 m=true):jv P n0 ⟨bW n p ch,st⟩ ⟨bW n .any ch',st'⟩:=
 CM ⟨HC (JT h1) _,h2,h3,h4⟩
attribute [go_sem] ze B3 wM Mo ru Q0 JH aS aV e9 oQ tk dr GD GV Fi I6 Q3 QE Qa Ql OG G6 IJ DF Rs Rm Ro Oo Mv Q4 pM
attribute [go_sem] Bn w6 F5 wG B7 rS wF BS HB wq tj BB wB PR Br Be Bw A9 wN Cw o3 uo I4 Hv wC Hp PT
theorem QX(sl:List PV)(st:List (Option En))(dst:Option (Nat×PV))(up:List (Nat×En)):(G.mk sl st).app ⟨dst,up⟩=⟨me sl dst,pC st up⟩:=rfl
theorem Js(sl:List PV):me sl none=sl:=rfl
theorem Jd(sl:List PV)(d:Nat)(p:PV):me sl (some (d,p))=fb sl d p:=rfl
theorem Ly(sl:List PV)(st:List (Option En))(t:Nat):(G.mk sl st).ev (.tmp t)=nth sl t:=rfl
theorem Gk(sl:List PV)(st:List (Option En))(v:Value):(G.mk sl st).ev (.const v)=Qk v:=rfl
theorem Jt(sl:List PV)(st:List (Option En))(f:Nat):(G.mk sl st).ev (.func f)= .fn f []:=rfl
theorem Rt(sl:List PV)(st:List (Option En))(k:Nat):(G.mk sl st).at k=aS st k:=rfl
theorem Qr(sl:List PV)(st:List (Option En)):(G.mk sl st).new=e9 st:=rfl
theorem Nb(s p:List Nat)(dst:Option (Nat×PV))(up:List (Nat×En)):gM ⟨s,p⟩ ⟨dst,up⟩=⟨s,p,Dl.ws ⟨dst,up⟩,Dl.wp ⟨dst,up⟩⟩:=rfl
theorem NF(up:List (Nat×En)):Dl.ws ⟨none,up⟩=[]:=rfl
theorem Nc(d:Nat)(p:PV)(up:List (Nat×En)):Dl.ws ⟨some (d,p),up⟩=[d]:=rfl
theorem ON(dst:Option (Nat×PV)):Dl.wp ⟨dst,[]⟩=[]:=rfl
theorem Ng(dst:Option (Nat×PV))(k:Nat)(e:En)(r:List (Nat×En)):Dl.wp ⟨dst,(k,e)::r⟩=k::Dl.wp ⟨none,r⟩:=rfl
attribute [go_sem] QK Qz snoc fE.eq_1 fE.eq_2 l6.eq_1 l6.eq_2 Af.eq_1 Af.eq_2 Af.eq_3 O7.eq_1 Lb.eq_1 jX.eq_1 jX.eq_2 jX.eq_3 Qe PN.eq_1 PN.eq_2 MD.eq_1 MD.eq_2 run H4.eq_1 H4.eq_2 H4.eq_3 yk.eq_1 yk.eq_2 yk.eq_3 JE.eq_1 K3.eq_1 Pb.eq_1 Pb.eq_2 CR
attribute [go_sem] QX Js Jd pC Rt Ly Gk Jt Qr tJ Qk LP BD bt PV.whole PV.one nc Hs KS Qu qM rowsOf zG lJ Nb NF Nc ON Ng aY Mx TI.isAgg M6 KM
attribute [go_sem] Fh He FR JG qW eG aM List.map_cons List.map_nil pW DW
attribute [go_sem] rF wk fm tu cG vL keeps tx Gz
attribute [go_sem] F4 T.pv PM fe kL Rk tI Gt wI wy y6 pR OB Ow Qg N3
end Go.Eng
namespace Go.Eng
open Go.RowKit
mutual
def xi:PV→Prop
 | .d (.bu xs)=>xs.length≤LB
 | .d (.str s)=>s.length≤LB
 | .agg cs=>jB cs
 | _=>True
def jB:List PV→Prop
 | []=>True
 | p::ps=>xi p∧jB ps
end
mutual
theorem af.xi{w:World}{ok:Nat→Prop}{ν:Nat→Nm}{st:Nat→Option En}:∀(p:PV)(v:Value),af w ok ν st p v→xi p
 | .d (.bu xs),v,h=>by
   simp only[af] at h
   simp only[Eng.xi]
   exact h.OL
 | .d (.str s),v,h=>by
   simp only[af] at h
   simp only[Eng.xi]
   exact h.wR.2
 | .agg cs,v,h=>by
   simp only[af] at h
   simp only[Eng.xi]
   obtain⟨vs,_,h⟩:=h
   exact ae.xi cs vs h
 | .d (.val _),_,_=>by simp only[Eng.xi]
 | .any,_,_=>by simp only[Eng.xi]
 | .undef,_,_=>by simp only[Eng.xi]
 | .aJ,_,_=>by simp only[Eng.xi]
 | .eL _,_,_=>by simp only[Eng.xi]
 | .ptr _ _,_,_=>by simp only[Eng.xi]
 | .acc _,_,_=>by simp only[Eng.xi]
 | .cq _ _ _ _,_,_=>by simp only[Eng.xi]
 | .cf _ _ _,_,_=>by simp only[Eng.xi]
 | .fn _ _,_,_=>by simp only[Eng.xi]
theorem ae.xi{w:World}{ok:Nat→Prop}{ν:Nat→Nm}{st:Nat→Option En}:∀(ps:List PV)(vs:List Value),ae w ok ν st ps vs→jB ps
 | [],_,_=>by simp only[Eng.jB]
 | p::ps,v::vs,h=>by
   simp only[ae] at h
   simp only[Eng.jB]
   exact⟨af.xi p v h.1,ae.xi ps vs h.2⟩
 | _::_,[],h=>by simp[ae] at h
end
def Jw:Option En→Prop
 | some (.box cs)=>jB cs
 | some (.acc _ xs)=>xs.length≤LB
 | some (.bM _ xs)=>xs.length≤LB
 | _=>True
def tm:List (Option En)→Prop
 | []=>True
 | e::es=>Jw e∧tm es
theorem Sat.jB{P:Program}{X:Cx}{ν:Nat→Nm}{g:G}{a:Act}{w:World}(h:Sat P X ν g a w):Eng.jB g.sl:=by
 have key:∀(ps:List PV),(∀t,∃v,af w (aL X ν g.at) ν g.at (nth ps t) v)→Eng.jB ps:=by
  intro ps
  induction ps with
  | nil=>intro _;simp only[Eng.jB]
  | cons p ps ih=>
    intro hp
    simp only[Eng.jB]
    obtain⟨v,hv⟩:=hp 0
    exact⟨af.xi p v hv,ih fun t=>hp (t+1)⟩
 exact key _ fun t=>⟨_,h.sl t⟩
theorem Sat.Jw{P:Program}{X:Cx}{ν:Nat→Nm}{g:G}{a:Act}{w:World}(h:Sat P X ν g a w)(k:Nat):Eng.Jw (g.at k):=by
 cases hk:g.at k with
 | none=>trivial
 | some e=>
   have:=h.en k e hk
   cases e with
   | dead=>trivial
   | box cs=>obtain⟨b,vs,T,_,_,h3,_⟩:=this;exact ae.xi cs vs h3
   | acc t xs=>obtain⟨us,_,_,h3,_⟩:=this;exact h3
   | map kvs=>trivial
   | bM t xs=>
     have h1:=this.1
     simp only[dV] at h1
     obtain⟨us,F1,_,_,_,h4,_⟩:=h1
     exact h4
theorem Dr:∀{l:List (Option En)},(∀k,Jw (aS l k))→tm l
 | [],_=>trivial
 | _::_,h=>⟨h 0,Dr fun k=>h (k+1)⟩
theorem Ol{P:Program}{n0:Nat}{c:Code}{g:G}{Q:Ex→G→Prop}(h:jB g.sl→tm g.st→W P n0 c g Q):W P n0 c g Q:=fun X ν a w hp hs=>
 h hs.jB (Dr fun k=>hs.Jw k) X ν a w hp hs
theorem uB:∀{ps r:List PV},jB (ps++r)→jB ps
 | [],_,_=>by simp only[jB]
 | p::ps,r,h=>by
   simp only[List.cons_append,jB] at h⊢
   exact⟨h.1,uB h.2⟩
theorem QJ {E : Env} (hm : E.P.follows .mixedOrders = true) {f : FuncId} {fn : Func} {c : Code} {args : List PV} {cst : List (Option En)} {R : PV → List (Option En) → Prop} {nt : Nat} {rs : List ResultVar} (hf : E.P.funcs[f]? = some fn) (hb : fn.body = some c) (hname : (fn.name == "runtime.NumGoroutine") = false)
 (hnt:fn.ntmps=nt) (hrs:fn.results.toList=rs) (h:jB args→tm cst→CR E (e9 cst) c .on ⟨pad args nt,cst⟩ (fun _=>Fh (rf E rs (e9 cst) R))):C E.P f args cst R:=by
 rw[gj] at h
 refine Du hf hb hname (rf E rs cst.length R) (fun _ _ _ _ _ h1 hp hs=>rf.sat h1 hp hs hrs) ?_
 rw[hnt,←qU]
 refine Ol fun h1 h2=>FZ hm c _ _ (h ?_ h2)
 have h1:jB (pad args nt):=h1
 rw[qU] at h1
 exact uB h1
theorem H8 {E : Env} (hm : E.P.follows .mixedOrders = true) {f : FuncId} {fn : Func} {c : Code} {args : List PV} {cst : List (Option En)} {R : PV → List (Option En) → Prop} {nt : Nat} {rs : List ResultVar} (hf : E.P.funcs[f]? = some fn) (hb : fn.body = some c) (hname : (fn.name == "runtime.NumGoroutine") = false)
 (hnt:fn.ntmps=nt) (hrs:fn.results.toList=rs) (hn:pM (oQ args) nt=true) (h:jB args→tm cst→CR E (e9 cst) c .on ⟨bW nt .undef (JH 0 args),cst⟩ (fun _=>Fh (rf E rs (e9 cst) R))):C E.P f args cst R:=by
 have hn:=ew hn
 rw[gR] at hn
 rw[←HR hn] at h
 exact QJ hm hf hb hname hnt hrs h
attribute [go_sem] xi jB Jw tm
end Go.Eng
namespace Go.Eng
open Go.RowKit
mutual
theorem HF(m:List Nat):∀(p:PV),p.lt 0=true→p.fl m=p
 | .agg cs,h=>by simp only[PV.lt] at h;simp only[PV.fl,pb m cs h]
 | .eL cs,h=>by simp only[PV.lt] at h;simp only[PV.fl,pb m cs h]
 | .fn f cs,h=>by simp only[PV.lt] at h;simp only[PV.fl,pb m cs h]
 | .any,_=>rfl
 | .undef,_=>rfl
 | .aJ,_=>rfl
 | .d _,_=>rfl
 | .cf _ _ _,_=>rfl
 | .ptr _ _,h=>by simp[PV.lt] at h
 | .acc _,h=>by simp[PV.lt] at h
 | .cq _ _ _ _,h=>by simp[PV.lt] at h
theorem pb(m:List Nat):∀(ps:List PV),lU 0 ps=true→jz m ps=ps
 | [],_=>rfl
 | p::ps,h=>by
   simp only[lU,Bool.and_eq_true] at h
   simp only[jz,HF m p h.1,pb m ps h.2]
end
section
variable{E:Env}{g:G}{d:Nat}{ty:TypeId}{pos:String}{aft:Array Edge}{gd:Option (Nat×Bool)}
theorem Kh(fop:Operand)(xs:List Operand)(tys:Array TypeId)(f:FuncId)(cap:List PV)(hfn:g.ev fop= .fn f cap)(cargs:List PV)(res:PV)(hC:C E.P f cargs [] (aM res []))(hargs:yw (xs.map g.ev++cap) cargs)(hlt:lU 0 cargs=true)(hres:res.lt 0=true) :
 eh E.P ⟨some d,.call ⟨.value fop,⟨xs⟩,tys⟩,ty,pos,aft,gd⟩ g ⟨aY fop++xs.flatMap aY,[]⟩ ⟨some (d,res),[]⟩:=by
 have h:=HS (E:=E) (g:=g) (d:=d) (ty:=ty) (pos:=pos) (aft:=aft) (gd:=gd) fop xs tys f cap hfn [] cargs [] [] res hC (by rw[pb _ _ hlt];exact hargs) hlt (by simp) (by simp) trivial trivial (by simp) (by simp)
 rw[HF _ _ hres] at h
 exact h
end
def iv(n:Int):PV:=.d (.val (.int .i64 n))
def bv(b:Bool):PV:=.d (.val (.bool b))
def sv(s:List UInt8):PV:=.d (.str s)
def lv(xs:List (List D)):PV:=.d (.bu xs)
attribute [go_sem] iv bv sv lv PV.fl jz ez look PV.lt lU Option.map_none Option.map_some Option.toList_none Option.toList_some
end Go.Eng
namespace Go.Eng
open Go.RowKit
section
variable{E:Env}{n0:Nat}{g:G}{c:Code}{Q:Ex→G→Prop}
def tL{A:Type}(P:Program)(n0:Nat)(I:A→Prop)(T:A→G)(μ:A→Nat)(a:A)(Q:Ex→G→Prop):Ex→G→Prop
 | .normal,g=>∃a',I a'∧μ a' < μ a∧jv P n0 g (T a')
 | .exit id,g=>Q (.exit id) g
 | .ret,g=>Q .ret g
def tX{A B:Type}(P:Program)(n0:Nat)(I:A→B→Prop)(T:A→B→G)(μ:A→B→Nat)(a:A)(b:B)(Q:Ex→G→Prop):Ex→G→Prop
 | .normal,g=>∃a' b',I a' b'∧μ a' b' < μ a b∧jv P n0 g (T a' b')
 | .exit id,g=>Q (.exit id) g
 | .ret,g=>Q .ret g
def Cf{A B C:Type}(P:Program)(n0:Nat)(I:A→B→C→Prop)(T:A→B→C→G)(μ:A→B→C→Nat)(a:A)(b:B)(c:C)(Q:Ex→G→Prop):Ex→G→Prop
 | .normal,g=>∃a' b' c',I a' b' c'∧μ a' b' c' < μ a b c∧jv P n0 g (T a' b' c')
 | .exit id,g=>Q (.exit id) g
 | .ret,g=>Q .ret g
theorem al(hm:E.P.follows .mixedOrders=true){A:Type}(I:A→Prop)(T:A→G)(μ:A→Nat)(a0:A)(hi:I a0)(h0:jv E.P n0 g (T a0))
 (round:∀a,I a→CR E n0 c .on (T a) (fun _=>tL E.P n0 I T μ a Q)):W E.P n0 (.loop c) g Q:=by
 refine P7 (α:={a // I a}) (fun x=>T x.1) (fun x=>μ x.1) ⟨a0,hi⟩ h0 ?_
 rintro⟨a,ha⟩
 have h:=FZ hm c _ _ (round a ha)
 have e:(tL E.P n0 I T μ a Q)=(He E.P n0 (fun x:{a // I a}=>T x.1) (fun x=>μ x.1) ⟨a,ha⟩ Q):=by
  funext e g'
  cases e with
  | normal=>
    simp only[tL,He]
    apply propext
    exact⟨fun⟨a',h1,h2,h3⟩=>⟨⟨a',h1⟩,h2,h3⟩,fun⟨⟨a',h1⟩,h2,h3⟩=>⟨a',h1,h2,h3⟩⟩
  | exit id=>rfl
  | ret=>rfl
 rw[←e]
 exact h
theorem bP(hm:E.P.follows .mixedOrders=true){A B:Type}(I:A→B→Prop)(T:A→B→G)(μ:A→B→Nat)(a0:A)(b0:B)(hi:I a0 b0)(h0:jv E.P n0 g (T a0 b0))
 (round:∀a b,I a b→CR E n0 c .on (T a b) (fun _=>tX E.P n0 I T μ a b Q)):W E.P n0 (.loop c) g Q:=by
 refine al hm (A:=A×B) (fun x=>I x.1 x.2) (fun x=>T x.1 x.2) (fun x=>μ x.1 x.2) (a0,b0) hi h0 ?_
 rintro⟨a,b⟩ h
 have h:=round a b h
 have e:(tX E.P n0 I T μ a b Q)=(tL E.P n0 (fun x:A×B=>I x.1 x.2) (fun x=>T x.1 x.2) (fun x=>μ x.1 x.2) (a,b) Q):=by
  funext e g'
  cases e with
  | normal=>
    simp only[tL,tX]
    apply propext
    exact⟨fun⟨a',b',h1,h2,h3⟩=>⟨(a',b'),h1,h2,h3⟩,fun⟨(a',b'),h1,h2,h3⟩=>⟨a',b',h1,h2,h3⟩⟩
  | exit id=>rfl
  | ret=>rfl
 rw[e] at h
 exact h
theorem gX(hm:E.P.follows .mixedOrders=true){A B D:Type}(I:A→B→D→Prop)(T:A→B→D→G)(μ:A→B→D→Nat)(a0:A)(b0:B)(d0:D)(hi:I a0 b0 d0)(h0:jv E.P n0 g (T a0 b0 d0))
 (round:∀a b d,I a b d→CR E n0 c .on (T a b d) (fun _=>Cf E.P n0 I T μ a b d Q)):W E.P n0 (.loop c) g Q:=by
 refine bP hm (A:=A) (B:=B×D) (fun a x=>I a x.1 x.2) (fun a x=>T a x.1 x.2) (fun a x=>μ a x.1 x.2) a0 (b0,d0) hi h0 ?_
 rintro a ⟨b,d⟩ h
 have h:=round a b d h
 have e:(Cf E.P n0 I T μ a b d Q)=(tX E.P n0 (fun a (x:B×D)=>I a x.1 x.2) (fun a x=>T a x.1 x.2) (fun a x=>μ a x.1 x.2) a (b,d) Q):=by
  funext e g'
  cases e with
  | normal=>
    simp only[Cf,tX]
    apply propext
    exact⟨fun⟨a',b',d',h1,h2,h3⟩=>⟨a',(b',d'),h1,h2,h3⟩,fun⟨a',(b',d'),h1,h2,h3⟩=>⟨a',b',d',h1,h2,h3⟩⟩
  | exit id=>rfl
  | ret=>rfl
 rw[e] at h
 exact h
end
theorem r3{α:Type}{l:List α}{i:Nat}(h:i<l.length)(d:α):l.getD i d=l[i]:=by simp[List.getD,List.getElem?_eq_getElem h]
mutual
theorem Pn{g:G}{m:List (Option Nat)}:∀{p:PV},p.lt 0=true→wk g m p p
 | .agg cs,h=>by simp only[PV.lt] at h;simp only[wk];exact aa h
 | .eL cs,h=>by simp only[PV.lt] at h;simp only[wk];exact aa h
 | .fn f cs,h=>by simp only[PV.lt] at h;simp only[wk,true_and];exact aa h
 | .any,_=>by simp only[wk]
 | .undef,_=>by simp only[wk]
 | .aJ,_=>by simp only[wk]
 | .d _,_=>by simp only[wk]
 | .cf _ _ _,_=>by simp only[wk,and_self]
 | .ptr _ _,h=>by simp[PV.lt] at h
 | .acc _,h=>by simp[PV.lt] at h
 | .cq _ _ _ _,h=>by simp[PV.lt] at h
theorem aa{g:G}{m:List (Option Nat)}:∀{ps:List PV},lU 0 ps=true→rF g m ps ps
 | [],_=>by simp only[rF]
 | p::ps,h=>by
   simp only[lU,Bool.and_eq_true] at h
   simp only[rF]
   exact⟨Pn h.1,aa h.2⟩
end
theorem MM(a b:Int):(a != b)= !decide (a=b):=by
 by_cases h:a=b<;>simp[h]
theorem Nv(a b:Int):(a == b)=decide (a=b):=by
 by_cases h:a=b<;>simp[h]
theorem MC(a b:List UInt8):(a == b)=decide (a=b):=by
 by_cases h:a=b<;>simp[h]
theorem Mi(x:List D)(xs:List (List D)):row (x::xs) 0=x:=rfl
attribute [go_sem] Mi
theorem N8(e0:En)(Q:En→Prop):(∃e,some e0=some e∧Q e)=Q e0:=by
 apply propext
 constructor
 ·rintro⟨e,h,hq⟩
  cases h
  exact hq
 ·intro hq
  exact⟨_,rfl,hq⟩
theorem DS(n:Nat):((no_index (OfNat.ofNat n):Nat):Int)=OfNat.ofNat n:=rfl
theorem KH(e0:En):(∃e,some e0=some e)=True:=eq_true ⟨_,rfl⟩
theorem Nz(xs ys:List (List D)):(D.bu xs=D.bu ys)=(xs=ys):=by simp
attribute [go_sem] List.mem_cons List.not_mem_nil or_false forall_eq List.length_take List.length_map
attribute [go_sem] Int.natCast_add Int.natCast_one Int.natCast_zero DS KH ite_true ite_false N8 Nz List.take_zero eq_self
attribute [go_sem] MM Nv MC
attribute [go_sem] List.cons_append List.nil_append List.append_nil
theorem JA(ps:List PV):yw ps ps=True:=eq_true (BC ps)
attribute [go_sem] cv yw JA
theorem ck{m:Option (List Ky)}{gs:Option Nat}{d:Nat}{ty:TypeId}{pos:String}{aft:Array Edge}{gd:Option (Nat×Bool)}{E:Env}{g:G}{rest:jq→Option (List Ky)→G→Prop}{fop:Operand}{xs:List Operand}{tys:Array TypeId}{f:FuncId}(cap:List PV){cargs:List PV}{res:PV}
 (hC:C E.P f cargs [] (aM res [])) (h:g.ev fop= .fn f cap∧yw (I4 g xs++cap) cargs∧lU 0 cargs=true∧res.lt 0=true)
 (hr:rest .on (fE m (gM (l6 gs ⟨aY fop++uo xs,[]⟩) ⟨some (d,res),[]⟩)) (g.app ⟨some (d,res),[]⟩)):kP E m gs ⟨some d,.call ⟨.value fop,⟨xs⟩,tys⟩,ty,pos,aft,gd⟩ g rest:=by
 rw[pI] at hr
 rw[tH] at h
 exact bS (Kh fop xs tys f cap h.1 cargs res hC h.2.1 h.2.2.1 h.2.2.2) hr
theorem bG{m:Option (List Ky)}{gs:Option Nat}{d:Nat}{ty:TypeId}{pos:String}{aft:Array Edge}{gd:Option (Nat×Bool)}{E:Env}{g:G}{rest:jq→Option (List Ky)→G→Prop}{fop:Operand}{xs:List Operand}{tys:Array TypeId}{f:FuncId}(cap:List PV)(ks:List Nat){cargs:List PV}{res:PV}
 (hC:C E.P f cargs [] (aM res [])) (h1:g.ev fop= .fn f cap) (h2:nQ g ks (I4 g xs++cap) cargs) (h3:sc res=true)
 (hr:rest .on (fE m (gM (l6 gs ⟨aY fop++uo xs,ks⟩) ⟨some (d,res),[]⟩)) (g.app ⟨some (d,res),[]⟩)):kP E m gs ⟨some d,.call ⟨.value fop,⟨xs⟩,tys⟩,ty,pos,aft,gd⟩ g rest:=by
 rw[pI] at hr
 rw[tH] at h2
 exact bS (NX fop xs tys f cap h1 ks cargs res hC h2 h3) hr
def Ml(k:Nat):List Nat→Bool
 | []=>false
 | j::js=>ze k j||Ml k js
theorem xx:∀(k:Nat),ze k k=true
 | 0=>rfl
 | k+1=>xx k
theorem H9{k:Nat}:∀{m:List Nat},k∈m→Ml k m=true
 | [],h=>by simp at h
 | j::js,h=>by
   simp only[Ml,Bool.or_eq_true]
   rcases List.mem_cons.1 h with rfl|h
   ·exact .inl (xx _)
   ·exact .inr (H9 h)
def Dt:List Nat→Bool
 | []=>true
 | k::ks=>!Ml k ks&&Dt ks
theorem Cc:∀{m:List Nat},Dt m=true→m.Nodup
 | [],_=>by simp
 | k::ks,h=>by
   simp only[Dt,Bool.and_eq_true,Bool.not_eq_true'] at h
   refine List.nodup_cons.2 ⟨fun hk=>?_,Cc h.2⟩
   rw[H9 hk] at h
   cases h.1
def yT:List Nat→Nat
 | []=>0
 | _::as=>yT as+1
theorem wv:∀(l:List Nat),yT l=l.length
 | []=>rfl
 | _::as=>by simp[yT,wv as]
theorem cm{m:Option (List Ky)}{gs:Option Nat}{d:Nat}{ty:TypeId}{pos:String}{aft:Array Edge}{gd:Option (Nat×Bool)}{E:Env}{g:G}{rest:jq→Option (List Ky)→G→Prop}{fop:Operand}{xs:List Operand}{tys:Array TypeId}{f:FuncId}(cap:List PV)(M:List Nat){cargs:List PV}{cst st':List (Option En)}{res:PV}
 (hC:C E.P f cargs cst (aM res st')) (h:g.ev fop= .fn f cap∧yw (I4 g xs++cap) (jz M cargs)∧lU (e9 cst) cargs=true∧Dt M=true∧pM (e9 cst) (yT M)=true∧pM (e9 cst) (e9 st')=true∧pM (e9 st') (yT M)=true∧gF g M (e9 cst) M cst∧c8 g (e9 cst) M)
 (hr:rest .on (fE m (gM (l6 gs ⟨aY fop++uo xs,M⟩) ⟨some (d,res.fl M),ez M M st'⟩)) (g.app ⟨some (d,res.fl M),ez M M st'⟩)):kP E m gs ⟨some d,.call ⟨.value fop,⟨xs⟩,tys⟩,ty,pos,aft,gd⟩ g rest:=by
 rw[pI] at hr
 rw[tH] at h
 obtain⟨h1,h2,h3,h4,h5,h6,h7,h8,h9⟩:=h
 have h5:=ew h5
 have h6:=ew h6
 have h7:=ew h7
 rw[gj,wv] at h5
 rw[gj,gj] at h6
 rw[gj,wv] at h7
 rw[gj] at h3 h8 h9
 exact bS (HS fop xs tys f cap h1 M cargs cst st' res hC h2 h3 (Cc h4) h5 h8 h9 h6 h7) hr
theorem Rr{E:Env}{rs:List ResultVar}{n0:Nat}{g:G}{ps:List PV}{q:PV}{st':List (Option En)}(m:List (Option Nat))(h1:qW E g rs=some ps)(h2:rF ⟨[eG ps],g.st⟩ m [eG ps] [q]∧fm ⟨[eG ps],g.st⟩ m m st')(h3:tx m st'=true)(h4:keeps n0 0 m=true):rf E rs n0 (aM q st') g:=
 ⟨ps,m,q,st',h1,⟨h2.1,h2.2,h3,h4⟩,rfl,rfl⟩
theorem ab{E:Env}{rs:List ResultVar}{g:G}{q:PV}(h:(qW E g rs).elim False fun ps=>wk ⟨[eG ps],g.st⟩ [] (eG ps) q):rf E rs 0 (aM q []) g:=by
 cases hps:qW E g rs with
 | none=>rw[hps] at h;exact h.elim
 | some ps=>rw[hps] at h;exact Ri hps h
theorem aF{E:Env}{rs:List ResultVar}{n0:Nat}{g:G}{q:PV}{st':List (Option En)}(m:List (Option Nat))(h:(qW E g rs).elim False fun ps=>rF ⟨[eG ps],g.st⟩ m [eG ps] [q]∧fm ⟨[eG ps],g.st⟩ m m st')(h3:tx m st'=true)(h4:keeps n0 0 m=true):rf E rs n0 (aM q st') g:=by
 cases hps:qW E g rs with
 | none=>rw[hps] at h;exact h.elim
 | some ps=>rw[hps] at h;exact Rr m hps h h3 h4
attribute [go_sem] Option.elim_some
attribute [go_sem] Dt yT Ml gF c8 En.fl En.lt En.live Bool.not_true Bool.not_false Bool.or_true Bool.true_or Bool.or_false Bool.false_or Bool.false_and Bool.and_false
attribute [go_sem] sc Qb
attribute [go_sem] tL tX Cf Iw and_true true_and and_self Int.natCast_nonneg Int.le_refl Int.toNat_zero Nat.zero_lt_succ Nat.zero_add Nat.add_zero Nat.le_refl Int.toNat_natCast Int.ofNat_lt Int.ofNat_le Int.ofNat_inj decide_true decide_false Bool.not_true Bool.not_false List.length_cons List.length_nil gt_iff_lt ge_iff_le
attribute [go_sem] Bool.true_and Bool.and_true Bool.and_self beq_self_eq_true
end Go.Eng
namespace Go.Eng
open Go.RowKit
theorem dj(ν:Nat→Nm)(b:Nat):¬Own ν (aS []) b:=by
 rintro⟨k,e,h,_⟩
 cases k<;>simp[aS] at h
section
variable{P:Program}{X:Cx}{vs:List Value}{e:TypeId}{xs:List (List D)}{rest:List PV}
theorem IC(hr:lU 0 rest=true)(hs:Sat P X X.ν0 ⟨.acc 0::rest,[some (.acc e xs)]⟩ ⟨⟨vs⟩,[]⟩ X.w0) :
 Sat P ⟨X.w0,Own X.ν0 (aS []),X.ν0,aS [],X.Z⟩ X.ν0 ⟨.d (.bu xs)::rest,[]⟩ ⟨⟨vs⟩,[]⟩ X.w0:=by
 have hw:∀b,aL X X.ν0 (G.at ⟨.acc 0::rest,[some (.acc e xs)]⟩) b→b<X.w0.heap.size→aL ⟨X.w0,Own X.ν0 (aS []),X.ν0,aS [],X.Z⟩ X.ν0 (G.at ⟨.d (.bu xs)::rest,[]⟩) b∧X.w0.heap[b]?=X.w0.heap[b]?:=fun b hb _=>⟨⟨dj _ b,hb.2⟩,rfl⟩
 have hat:∀k,G.at ⟨.d (.bu xs)::rest,[]⟩ k=none:=fun _=>rfl
 refine⟨hs.size,fun t=>?_,fun k e h=>?_,fun k k' e e' b h=>?_,fun b hb=>?_,fun k h=>?_,fun k h=>?_,⟨fun b hb=>?_,hs.kt rfl fun b hb=>(dj _ b hb).elim⟩,kF.refl _ _,rfl⟩
 ·cases t with
  | zero=>
    have h:=hs.sl 0
    simp only[nth,af] at h⊢
    rw[h.2]
    obtain⟨us,h1,h2,h3,_⟩:=hs.en 0 (.acc e xs) rfl
    exact n9 h1 h2 h3 (fun b hb=>⟨dj _ b,hs.Cg ⟨0,_,rfl,rfl,.inl hb⟩⟩) hw
  | succ t=>
    have h:=hs.sl (t+1)
    simp only[nth] at h⊢
    have hl:∀(ps:List PV)(t:Nat),lU 0 ps=true→(nth ps t).lt 0=true:=by
     intro ps
     induction ps with
     | nil=>intro t _;rfl
     | cons p ps ih=>
       intro t h
       simp only[lU,Bool.and_eq_true] at h
       cases t with
       | zero=>exact h.1
       | succ t=>exact ih t h.2
    exact af.F9 hw _ _ (hl rest t hr) h
 ·rw[hat] at h;cases h
 ·rw[hat] at h;cases h
 ·exact(dj _ b hb).elim
 ·rw[hat] at h;cases h
 ·cases k<;>simp[aS] at h
 ·exact⟨(hs.wS b hb).1,dj _ b⟩
theorem Kp{f:FuncId}{e':TypeId}{ys:List (List D)}(hr:lU 0 rest=true)(hC:C P f (.d (.bu xs)::rest) [] (aM (.acc 0) [some (.acc e' ys)])):C P f (.acc 0::rest) [some (.acc e xs)] (aM (.acc 1) [some .dead,some (.acc e' ys)]):=by
 refine⟨hC.1,fun X vs hst hO hs=>?_⟩
 refine(hC.2 _ vs rfl rfl (IC hr hs)).mono ?_
 rintro ex w' ⟨v,_,_,ν',rfl,⟨rfl,rfl⟩,hsat⟩
 refine⟨v,_,_,fun|0=>X.ν0 0|k+1=>ν' k,rfl,⟨rfl,rfl⟩,?_⟩
 have hat:∀k e,G.at ⟨[.acc 1],[some .dead,some (.acc e' ys)]⟩ k=some e→e.live=true→k=1∧e= .acc e' ys:=by
  intro k e h hl
  match k,h with
  | 0,h=>
    obtain rfl:En.dead=e:=by simpa[G.at,aS] using h
    cases hl
  | 1,h=>exact⟨rfl,by simpa[G.at,aS] using h.symm⟩
  | k+2,h=>simp[G.at,aS] at h
 have hown:∀b,Own (fun|0=>X.ν0 0|k+1=>ν' k) (G.at ⟨[.acc 1],[some .dead,some (.acc e' ys)]⟩) b↔Own ν' (G.at ⟨[.acc 0],[some (.acc e' ys)]⟩) b:=by
  intro b
  constructor
  ·rintro⟨k,e,h,hl,hb⟩
   obtain⟨rfl,rfl⟩:=hat k e h hl
   exact⟨0,_,rfl,rfl,hb⟩
  ·rintro⟨k,e,h,hl,hb⟩
   match k,h with
   | 0,h=>
     obtain rfl:En.acc e' ys=e:=by simpa[G.at,aS] using h
     exact⟨1,_,rfl,rfl,hb⟩
   | k+1,h=>simp[G.at,aS] at h
 have hw:∀b,aL (⟨X.w0,Own X.ν0 (aS []),X.ν0,aS [],X.Z⟩:Cx) ν' (G.at ⟨[.acc 0],[some (.acc e' ys)]⟩) b→b<w'.heap.size→aL X (fun|0=>X.ν0 0|k+1=>ν' k) (G.at ⟨[.acc 1],[some .dead,some (.acc e' ys)]⟩) b∧w'.heap[b]?=w'.heap[b]?:=fun b hb _=>⟨⟨fun h=>hb.1 ((hown b).1 h),hb.2⟩,rfl⟩
 refine⟨rfl,fun t=>?_,fun k e h=>?_,fun k k' e e2 b h1 h2 hl hl2 _ _=>?_,fun b hb=>?_,fun k h=>?_,fun k h=>?_,hs.wS,hsat.rj.mono fun b hb _=>(dj _ b hb).elim,rfl⟩
 ·cases t with
  | zero=>
    have h:=hsat.sl 0
    simp only[nth,af] at h⊢
    exact⟨rfl,h.2⟩
  | succ t=>exact trivial
 ·match k,h with
  | 0,h=>
    obtain rfl:En.dead=e:=by simpa[G.at,aS] using h
    exact trivial
  | 1,h=>
    obtain rfl:En.acc e' ys=e:=by simpa[G.at,aS] using h
    obtain⟨us,h1,h2,h3⟩:=hsat.en 0 _ rfl
    exact⟨us,h1,h2.frame hw (Nat.le_refl _),h3⟩
  | k+2,h=>simp[G.at,aS] at h
 ·rw[(hat k e h1 hl).1,(hat k' e2 h2 hl2).1]
 ·rcases hsat.base b ((hown b).1 hb) with h|h
  ·exact(dj _ b h).elim
  ·exact .inr h
 ·match k,h with
  | 0,_=>exact hs.nu 0 rfl
  | 1,_=>exact hsat.nu 0 rfl
  | k+2,h=>simp[G.at,aS] at h
 ·rw[hst] at h
  match k,h with
  | 0,_=>exact⟨rfl,rfl⟩
  | k+1,h=>simp[aS] at h
end
end Go.Eng
namespace Go.Eng
open Go.RowKit
def qF(M:List Nat):List Nat→Nat
 | []=>0
 | j::js=>Nat.lor (Nat.lor (Nat.pow 2 j) (M.getD j 0)) (qF M js)
def Oh:List Oper→List Nat→List Nat
 | [],M=>M
 | o::os,M=>Oh os (M++[qF M (eV o)])
def IZ(b k:Nat):Bool:=Nat.beq (Nat.land (Nat.shiftRight b k) 1) 1
def wV(b:Nat)(y:Ky):Nat→List Ky→Bool
 | _,[]=>true
 | j,x::xs=>(IZ b j|| !(x.qq y))&&wV b y (j+1) xs
def wU(M:List Nat):Nat→List Ky→List Ky→Bool
 | _,_,[]=>true
 | i,pre,y::ys=>wV (M.getD i 0) y 0 pre&&wU M (i+1) (pre++[y]) ys
def GM(os:List Oper)(L:List Ky):Bool:=KK 0 os&&wU (Oh os []) 0 [] L
theorem wK(b k:Nat):IZ b k=b.testBit k:=by
 simp only[IZ,Nat.testBit]
 have h:Nat.land (Nat.shiftRight b k) 1=(b >>> k) &&& 1:=rfl
 rw[h,Nat.and_comm 1 (b >>> k),Nat.and_one_is_mod]
 rcases Nat.mod_two_eq_zero_or_one (b >>> k) with h2|h2<;>rw[h2]<;>rfl
def Q9(T:List (List Nat))(M:List Nat):Prop:=T.length=M.length∧∀j k,om k (T.getD j [])=IZ (M.getD j 0) k
theorem DN{a b:Bool}(h:a=true↔b=true):a=b:=by
 cases a<;>cases b<;>simp_all
theorem Io(k j:Nat)(l:List Nat):om k (j::l)=(decide (j=k)||om k l):=by
 apply DN
 simp only[jl,List.mem_cons,Bool.or_eq_true,decide_eq_true_eq]
 exact⟨fun h=>h.imp Eq.symm id,fun h=>h.imp Eq.symm id⟩
theorem LZ(k:Nat)(l l':List Nat):om k (l++l')=(om k l||om k l'):=by
 apply DN
 simp only[jl,List.mem_append,Bool.or_eq_true]
theorem xT{T:List (List Nat)}{M:List Nat}(h:Q9 T M)(k:Nat):∀(js:List Nat),om k (mS T js)=IZ (qF M js) k
 | []=>by
   simp only[mS,qF,wK,Nat.zero_testBit]
   rfl
 | j::js=>by
   have e:Nat.lor (Nat.lor (Nat.pow 2 j) (M.getD j 0)) (qF M js)=(2 ^ j ||| M.getD j 0) ||| qF M js:=rfl
   simp only[mS,qF,e,Io,LZ,xT h k js,h.2 j k]
   simp only[wK,Nat.testBit_or,Nat.testBit_two_pow,Bool.or_assoc]
theorem Dq:∀(os:List Oper){T:List (List Nat)}{M:List Nat},Q9 T M→Q9 (sZ os T) (Oh os M)
 | [],_,_,h=>h
 | o::os,T,M,h=>by
   simp only[sZ,Oh]
   refine Dq os ⟨by simp[h.1],fun j k=>?_⟩
   rcases Nat.lt_trichotomy j T.length with hj|hj|hj
   ·have hj':j<M.length:=by rw[←h.1];exact hj
    have:=h.2 j k
    rw[List.getD_eq_getElem?_getD,List.getD_eq_getElem?_getD] at this⊢
    rwa [List.getElem?_append_left hj,List.getElem?_append_left hj']
   ·subst hj
    have hM:M.length≤T.length:=by rw[h.1];exact Nat.le_refl _
    rw[List.getD_eq_getElem?_getD,List.getD_eq_getElem?_getD,List.getElem?_append_right (Nat.le_refl _),List.getElem?_append_right hM,←h.1]
    simp only[Nat.sub_self,List.getElem?_cons_zero,Option.getD_some]
    exact xT h k _
   ·have hj':M.length<j:=by rw[←h.1];exact hj
    rw[List.getD_eq_getElem?_getD,List.getD_eq_getElem?_getD,List.getElem?_eq_none (by simp;omega),List.getElem?_eq_none (by simp;omega)]
    simp only[Option.getD_none,wK,Nat.zero_testBit]
    rfl
theorem yO{b:List Nat}{c:Nat}(h:∀k,om k b=IZ c k)(y:Ky):∀(j:Nat)(l:List Ky),wV c y j l=tQ b y j l
 | _,[]=>rfl
 | j,x::xs=>by simp only[wV,tQ,h,yO h y (j+1) xs]
theorem yR{T:List (List Nat)}{M:List Nat}(h:Q9 T M):∀(i:Nat)(pre l:List Ky),wU M i pre l=tK T i pre l
 | _,_,[]=>rfl
 | i,pre,y::ys=>by simp only[wU,tK,yO (h.2 i),yR h (i+1)]
theorem AS{os:List Oper}{L:List Ky}(h:GM os L=true):indep os L=true:=by
 simp only[GM,Bool.and_eq_true] at h
 simp only[indep,Bool.and_eq_true]
 refine⟨h.1,?_⟩
 rw[←yR (Dq os (T:=[]) (M:=[]) ⟨rfl,fun j k=>?_⟩)]
 ·exact h.2
 ·simp only[List.getD_nil,wK,Nat.zero_testBit]
  rfl
end Go.Eng
namespace Go.Eng
open Go.RowKit
theorem nQ.nth{g:G}{ks:List Nat}:∀{ps qs:List PV},nQ g ks ps qs→∀t,Vw g ks (nth ps t) (nth qs t)
 | _,_,.nil,t=>by cases t<;>exact .same rfl
 | _,_,.cons h _,0=>h
 | _,_,.cons _ h',t+1=>nQ.nth h' t
theorem nQ.len{g:G}{ks:List Nat}:∀{ps qs:List PV},nQ g ks ps qs→qs.length=ps.length
 | _,_,.nil=>rfl
 | _,_,.cons _ h'=>by simp only[List.length_cons,nQ.len h']
section
variable{P:Program}{X:Cx}{vs:List Value}{e:TypeId}{xs:List (List D)}
theorem E9{args args':List PV}(hv:nQ ⟨args,[some (.acc e xs)]⟩ [0] args args')(hs:Sat P X X.ν0 ⟨args,[some (.acc e xs)]⟩ ⟨⟨vs⟩,[]⟩ X.w0) :
 Sat P ⟨X.w0,Own X.ν0 (aS []),X.ν0,aS [],X.Z⟩ X.ν0 ⟨args',[]⟩ ⟨⟨vs⟩,[]⟩ X.w0:=by
 have hw:∀b,aL X X.ν0 (G.at ⟨args,[some (.acc e xs)]⟩) b→b<X.w0.heap.size→aL ⟨X.w0,Own X.ν0 (aS []),X.ν0,aS [],X.Z⟩ X.ν0 (G.at ⟨args',[]⟩) b∧X.w0.heap[b]?=X.w0.heap[b]?:=fun b hb _=>⟨⟨dj _ b,hb.2⟩,rfl⟩
 have hown:∀b,Own X.ν0 (G.at ⟨args,[some (.acc e xs)]⟩) b→aL ⟨X.w0,Own X.ν0 (aS []),X.ν0,aS [],X.Z⟩ X.ν0 (G.at ⟨args',[]⟩) b:=fun b hb=>⟨dj _ b,hs.Cg hb⟩
 have hat:∀k,G.at ⟨args',[]⟩ k=none:=fun _=>rfl
 refine⟨hs.size.trans hv.len.symm,fun t=>af.vw hs hw hown _ (hv.nth t) (hs.sl t),fun k e h=>?_,fun k k' e e' b h=>?_,fun b hb=>?_,fun k h=>?_,fun k h=>?_,⟨fun b hb=>?_,hs.kt rfl fun b hb=>(dj _ b hb).elim⟩,kF.refl _ _,rfl⟩
 ·rw[hat] at h;cases h
 ·rw[hat] at h;cases h
 ·exact(dj _ b hb).elim
 ·rw[hat] at h;cases h
 ·cases k<;>simp[aS] at h
 ·exact⟨(hs.wS b hb).1,dj _ b⟩
theorem PL{f:FuncId}{res:PV}{args args':List PV}(hv:nQ ⟨args,[some (.acc e xs)]⟩ [0] args args')(hres:res.lt 0=true)(hC:C P f args' [] (aM res [])):C P f args [some (.acc e xs)] (aM res [some .dead]):=by
 refine⟨hC.1,fun X vs hst hO hs=>?_⟩
 refine(hC.2 _ vs rfl rfl (E9 hv hs)).mono ?_
 rintro ex w' ⟨v,r,s,ν',rfl,⟨e1,e2⟩,hsat⟩
 rw[e1,e2] at hsat
 refine⟨v,_,_,X.ν0,rfl,⟨rfl,rfl⟩,?_⟩
 have hno:∀b,¬Own X.ν0 (G.at ⟨[res],[some .dead]⟩) b:=by
  rintro b ⟨k,e,h,hl,_⟩
  match k,h with
  | 0,h=>
    obtain rfl:En.dead=e:=by simpa[G.at,aS] using h
    cases hl
  | k+1,h=>simp[G.at,aS] at h
 refine⟨rfl,fun t=>?_,fun k e h=>?_,fun k k' e e' b h1 h2 hl=>?_,fun b hb=>(hno b hb).elim,fun k h=>?_,fun k h=>?_,hs.wS,hsat.rj.mono fun b hb _=>(dj _ b hb).elim,rfl⟩
 ·cases t with
  | zero=>
    have h:=hsat.sl 0
    simp only[nth] at h⊢
    have hw:∀b,aL (⟨X.w0,Own X.ν0 (aS []),X.ν0,aS [],X.Z⟩:Cx) ν' (G.at ⟨[res],[]⟩) b→b<w'.heap.size→aL X X.ν0 (G.at ⟨[res],[some .dead]⟩) b∧w'.heap[b]?=w'.heap[b]?:=fun b hb _=>⟨⟨hno b,hb.2⟩,rfl⟩
    exact af.F9 hw _ _ hres h
  | succ t=>exact trivial
 ·match k,h with
  | 0,h=>
    obtain rfl:En.dead=e:=by simpa[G.at,aS] using h
    exact trivial
  | k+1,h=>simp[G.at,aS] at h
 ·match k,h1 with
  | 0,h1=>
    obtain rfl:En.dead=e:=by simpa[G.at,aS] using h1
    cases hl
  | k+1,h1=>simp[G.at,aS] at h1
 ·match k,h with
  | 0,_=>exact hs.nu 0 rfl
  | k+1,h=>simp[G.at,aS] at h
 ·rw[hst] at h
  match k,h with
  | 0,_=>exact⟨rfl,rfl⟩
  | k+1,h=>simp[aS] at h
end
end Go.Eng
namespace Go.Eng
open Go.RowKit
section
variable{E:Env}{g:G}{d:Nat}{ty:TypeId}{pos:String}{aft:Array Edge}{gd:Option (Nat×Bool)}
theorem B4{P:Program}(w:World)(n:Nat)(t e:TypeId)(a:Option Addr)(l c:Nat)(h:P.underlying t=some (.slice e)):(Op.equalIn (n+1) t (.slice a l c) (.slice none 0 0)).run P w= .ok a.isNone w:=by
 cases a<;>simp[Op.equalIn,run_underlying h]
theorem FC{P:Program}(w:World)(t e:TypeId)(a:Option Addr)(l c:Nat)(h:P.underlying t=some (.slice e)):(Op.equal t (.slice a l c) (.slice none 0 0)).run P w= .ok a.isNone w:=B4 w 9999 t e a l c h
theorem JD(x:Operand)(t e u:TypeId)(ti:TI)(b:Bool)(ht:E.ti t=some ti)(hty:ti.ty= .slice e)(hp:∀(w:World)(ok:Nat→Prop)(ν:Nat→Nm)(st:Nat→Option En)(v:Value),af w ok ν st (g.ev x) v→∃a n c,v= .slice a n c∧a.isNone=b) :
 eh E.P ⟨some d,.binOp .eql t x (.const (.slice none 0 0)) u,ty,pos,aft,gd⟩ g ⟨aY x,[]⟩ ⟨some (d,.d (.val (.bool b))),[]⟩:=by
 intro g2 hg
 have h1:=hg.ev (x:=x) (fun t h=>h)
 refine vz.val rfl fun X ν a w hs=>?_
 have hv:=hs.ev x
 rw[h1] at hv
 obtain⟨ad,n,c,hva,hb⟩:=hp _ _ _ _ _ hv
 have h:=(E.ok t ti ht).ty
 rw[hty] at h
 refine⟨.bool b,?_,gv rfl⟩
 have he:a.eval (.const (.slice none 0 0))= .slice none 0 0:=rfl
 simp[execOp,hva,he,eqGuard,binOp,FC w t e ad n c h,hb]
theorem Aj:∀(w:World)(ok:Nat→Prop)(ν:Nat→Nm)(st:Nat→Option En)(v:Value),af w ok ν st .aJ v→∃a n c,v= .slice a n c∧a.isNone=true:=by
 intro w ok ν st v h
 simp only[af] at h
 exact⟨_,_,_,h,rfl⟩
theorem As(ad:Addr)(n c:Nat):∀(w:World)(ok:Nat→Prop)(ν:Nat→Nm)(st:Nat→Option En)(v:Value),af w ok ν st (.d (.val (.slice (some ad) n c))) v→∃a n c,v= .slice a n c∧a.isNone=false:=by
 intro w ok ν st v h
 exact⟨_,_,_,bU h,rfl⟩
theorem A3{x:List D}{xs:List (List D)}:∀(w:World)(ok:Nat→Prop)(ν:Nat→Nm)(st:Nat→Option En)(v:Value),af w ok ν st (.d (.bu (x::xs))) v→∃a n c,v= .slice a n c∧a.isNone=false:=by
 intro w ok ν st v h
 simp only[af] at h
 cases h with
 | bu=>exact⟨_,_,_,rfl,rfl⟩
theorem zN{m:Option (List Ky)}{gs:Option Nat}{rest:jq→Option (List Ky)→G→Prop}{x:Operand}{t u:TypeId}(e:TypeId)(ti:TI)(b:Bool)(ht:E.ti t=some ti)(hty:ti.ty= .slice e){p:PV}(hx:g.ev x=p)(hp:∀(w:World)(ok:Nat→Prop)(ν:Nat→Nm)(st:Nat→Option En)(v:Value),af w ok ν st p v→∃a n c,v= .slice a n c∧a.isNone=b)
 (hr:rest .on (fE m (gM (l6 gs ⟨aY x,[]⟩) ⟨some (d,.d (.val (.bool b))),[]⟩)) (g.app ⟨some (d,.d (.val (.bool b))),[]⟩)):kP E m gs ⟨some d,.binOp .eql t x (.const (.slice none 0 0)) u,ty,pos,aft,gd⟩ g rest:=
 bS (JD x t e u ti b ht hty (by rw[hx];exact hp)) hr
end
theorem Hi{P:Program}{f:FuncId}{R:PV→List (Option En)→Prop}(h1:C P f [.aJ] [] R)(h2:∀a c,C P f [.d (.val (.slice (some a) 0 c))] [] R):C P f [.d (.bu [])] [] R:=by
 refine⟨h1.1,fun X vs hst hO hs=>?_⟩
 have hsz:=hs.size
 obtain⟨v,rfl⟩:=List.length_eq_one_iff.1 (show vs.length=1 by simpa using hsz)
 have h0:=hs.sl 0
 have h0:cI X.w0 (aL X X.ν0 (G.at ⟨[.d (.bu [])],[]⟩)) (.bu []) v:=h0
 have key:∀p:PV,af X.w0 (aL X X.ν0 (G.at ⟨[p],[]⟩)) X.ν0 (G.at ⟨[p],[]⟩) p v→Sat P X X.ν0 ⟨[p],[]⟩ ⟨⟨[v]⟩,[]⟩ X.w0:=fun p hp=>
  ⟨rfl,fun t=>by
   match t with
   | 0=>exact hp
   | t+1=>simp only[nth,af],hs.en,hs.inj,hs.base,hs.nu,hs.par,hs.wS,hs.rj,rfl⟩
 cases h0 with
 | nil=>exact h1.2 X _ hst hO (key .aJ rfl)
 | emp a c h=>exact(h2 a c).2 X _ hst hO (key _ (gv rfl))
 | bu _ us b off cap sz hok hb hcap hmax hB hlu hxx hu hc hrr=>exact(h2 _ cap).2 X _ hst hO (key _ (gv rfl))
end Go.Eng
namespace Go.Eng
open Go.RowKit
theorem oo(z:Array Value)(hz:0<z.toList.length)(n:Nat):(Builtin.zeroCells z n).toList=(List.replicate n z.toList).flatten:=AQ z.toList hz n
theorem o0{P:Program}(w:World)(t e ty:TypeId)(ht:P.underlying t=some (.slice e))(a:Option Addr)(c:Nat):(Builtin.clear_ #[t] ty #[.slice a 0 c]).run P w= .ok (.tuple #[]) w:=by
 cases a<;>simp[Builtin.clear_,run_underlying ht]
theorem zt{P:Program}(w:World)(t e ty:TypeId)(z:Value)(ht:P.underlying t=some (.slice e))(hv:(zeroValue e).run P w= .ok z w)(b o n c:Nat)(hn:n≠0)(hz:0<z.cells.toList.length)
 (cur:Array Value) (T:TypeId) (hg:w.heap[b]?=some (.cells cur T (0,0))) (hl:o+(List.replicate n z.cells.toList).flatten.length≤cur.size) (h1:∀v∈(List.replicate n z.cells.toList).flatten,v.oneCell'=true) :
 (Builtin.clear_ #[t] ty #[.slice (some ⟨b,o,none⟩) n c]).run P w= .ok (.tuple #[]) (w.setRow b (cur.toList.take o++(List.replicate n z.cells.toList).flatten++cur.toList.drop (o+(List.replicate n z.cells.toList).flatten.length)).toArray):=by
 have hst:=run_storeCells_at (P:=P) b o T (List.replicate n z.cells.toList).flatten 0 cur w hg (by omega) h1
 simp only[Nat.add_zero] at hst
 obtain⟨m,rfl⟩:∃m,n=m+1:=⟨n-1,by omega⟩
 rw[←oo z.cells hz] at hst⊢
 simp[Builtin.clear_,run_underlying ht,hv,hst]
section
variable{E:Env}{X:Cx}{ν:Nat→Nm}{g:G}{a:Act}{w:World}
def Eb(z:List D)(xs:List (List D))(m:Nat):List (List D):=xs.take m++List.replicate (xs.length-m) z
theorem K9{t e k m dd:Nat}{ty:TypeId}{pos:String}{aft:Array Edge}{gd:Option (Nat×Bool)}{xs:List (List D)}{z:List D}{ti ei:TI}(ht:E.ti t=some ti)(hty:ti.ty= .slice e)(he:E.ti e=some ei)(hz:qM ei.zero=some z)
 (hk:g.at k=some (.acc e xs)) (hm:m≤xs.length) (n c:Nat) (a0:Option Addr) (hν:(ν k).v= .slice a0 n c) (hv:a.eval (.tmp dd)=sliced a0 m n c ei.n)
 (hs:Sat E.P X ν g a w) (next:Act→World→Prop) (Q:Exit→Act→World→Prop) (hn:∀ν' a' w',Sat E.P X ν' ⟨g.sl,aV g.st k (some (.acc e (Eb z xs m)))⟩ a' w'→next a' w') :
 (⟨none,.call ⟨.builtin .clear,#[.tmp dd],#[t]⟩,ty,pos,aft,gd⟩:Oper).wp E.P a w next Q:=by
 have hu:=(E.ok t ti ht).ty
 rw[hty] at hu
 obtain⟨i,zv,i1,i2,i3,i4,i5,i6⟩:=(E.ok e ei he).info
 have hpos:=(E.ok e ei he).pos
 have hzl:zv.cells.toList.length=ei.n:=by simpa using i6
 have hzv:(zeroValue e).run E.P w= .ok zv w:=by simp[zeroValue,typeInfo,i1,i4]
 obtain⟨us,ho,hrr,hB,hf0⟩:=hs.en k _ hk
 rw[(E.ok e ei he).cells] at hrr ho
 have hul:us.length=xs.length:=hrr.len
 have hfl:=hrr.eK
 have key:∀(w':World)(us':List (List Value)),(execOp a.eval ⟨none,.call ⟨.builtin .clear,#[.tmp dd],#[t]⟩,ty,pos,aft,gd⟩).run E.P w= .ok (.value (.tuple #[])) w'→kF (fun b=>(ν k).has b) w w' →
  (w'.ownsRow 0 e ei.n (ν k).v (Eb z xs m).length us'.flatten)→aK w (aL X ν g.at) ei.n (Eb z xs m) us' →
  (⟨none,.call ⟨.builtin .clear,#[.tmp dd],#[t]⟩,ty,pos,aft,gd⟩:Oper).wp E.P a w next Q:=by
  intro w' us' hr hchg hrow hrep
  unfold Oper.wp
  rw[hr,Oper.upon_value]
  refine hn _ _ _ (hs.uA k (.acc e xs) (.acc e (Eb z xs m)) hk rfl hchg none .undef Go.undef ?_ (fun h=>by cases h))
  intro hwf _
  refine⟨us',?_,?_,by simp[Eb];omega,hf0⟩
  ·rw[(E.ok e ei he).cells]
   exact hrow
  ·rw[(E.ok e ei he).cells]
   exact hrep.frame hwf hchg.size
 have hex:∀(v:Value)(w':World),(Builtin.clear_ #[t] ty #[a.eval (.tmp dd)]).run E.P w= .ok v w'→(execOp a.eval ⟨none,.call ⟨.builtin .clear,#[.tmp dd],#[t]⟩,ty,pos,aft,gd⟩).run E.P w= .ok (.value v) w':=by
  intro v w' h
  unfold execOp
  simp only[resolve,invoke,builtin,Sem.run_bind,Sem.run_pure,Result.andThen_ok,List.map_toArray,List.map_cons,List.map_nil,h]
 rcases ho.2 with⟨h1,h2⟩|⟨b,cap,cur,h1,_,h2,h4,h5,h6,h7⟩
 ·rw[h1] at hν
  obtain⟨rfl,rfl,rfl⟩:none=a0∧0=n∧0=c:=by simpa using hν
  have hm0:m=0:=by omega
  subst hm0
  have hxs:xs=[]:=List.eq_nil_of_length_eq_zero h2
  subst hxs
  refine key w us (hex _ _ ?_) (kF.refl _ w) ?_ ?_
  ·rw[hv]
   exact o0 w t e ty hu _ _
  ·exact ho
  ·exact hrr
 ·rw[h1] at hν
  obtain⟨rfl,rfl,rfl⟩:some ⟨b,0,none⟩=a0∧xs.length=n∧cap=c:=by simpa using hν
  by_cases hlt:m=xs.length
  ·refine key w us (hex _ _ ?_) (kF.refl _ w) ?_ ?_
   ·rw[hv]
    unfold sliced
    rw[hlt,Nat.sub_self]
    exact o0 w t e ty hu _ _
   ·simpa[Eb,hlt] using ho
   ·simpa[Eb,hlt] using hrr
  ·have hzr:ae w (aL X ν g.at) ν g.at (bn z) zv.cells.toList:=pa (l7 _ _ _ _ zv.cells.toList) (by rw[i5];exact hz)
   obtain⟨hz1,hz2⟩:=tq hzr
   have hrep0:aK w (aL X ν g.at) ei.n (List.replicate (xs.length-m) z) (List.replicate (xs.length-m) zv.cells.toList):=aK.replicate _ (by rw[←hz1];exact hzl) hzl hz2
   have hrep:aK w (aL X ν g.at) ei.n (Eb z xs m) (us.take m++List.replicate (xs.length-m) zv.cells.toList):=by
    have:=hrr.cut 0 m
    simp only[List.drop_zero] at this
    exact this.append hrep0
   have hmul:m*ei.n≤xs.length*ei.n:=Nat.mul_le_mul_right _ hm
   have hZ:(List.replicate (xs.length-m) zv.cells.toList).flatten.length=(xs.length-m)*ei.n:=hrep0.eK.trans (by simp)
   have hsum:m*ei.n+(xs.length-m)*ei.n=xs.length*ei.n:=by rw[←Nat.add_mul];congr 1;omega
   have hcap:xs.length*ei.n≤cap*ei.n:=Nat.mul_le_mul_right _ h4
   have hrun:=zt (P:=E.P) w t e ty zv hu hzv b (m*ei.n) (xs.length-m) (cap-m) (by omega) (by omega) cur e h2 (by rw[hZ,hsum,h6];exact hcap) hrep0.one
   have hval:a.eval (.tmp dd)= .slice (some ⟨b,m*ei.n,none⟩) (xs.length-m) (cap-m):=by
    rw[hv]
    unfold sliced
    rw[if_neg (by omega),Option.map_some,add_lit,Nat.zero_add]
   refine key _ _ (hex _ _ (by rw[hval];exact hrun)) (dW w b _ _ ((dP hf0).2 (by rw[h1];rfl))) ?_ hrep
   have htake:cur.toList.take (m*ei.n)=(us.take m).flatten:=by
    have:=kq us 0 m hrr.hu (by omega)
    simp only[List.drop_zero,Nat.zero_mul] at this
    rw[this,←h7,List.take_take,Nat.min_eq_left hmul]
   have hnew:cur.toList.take (m*ei.n)++(List.replicate (xs.length-m) zv.cells.toList).flatten=(us.take m++List.replicate (xs.length-m) zv.cells.toList).flatten:=by rw[htake,List.flatten_append]
   have hnl:(us.take m++List.replicate (xs.length-m) zv.cells.toList).flatten.length=(Eb z xs m).length*ei.n:=hrep.eK
   have hcl:(Eb z xs m).length=xs.length:=by simp[Eb];omega
   rw[h1]
   refine⟨hnl,.inr ⟨b,cap,_,by rw[hcl],Nat.zero_le _,setRow_heap w b _ _ e _ h2,by rw[hcl];exact h4,h5,?_,?_⟩⟩
   ·rw[hnew]
    simp only[List.size_toArray,List.length_append,hnl,hcl,List.length_drop,Array.length_toList,h6,hZ,hsum]
    omega
   ·rw[hnew,hcl]
    simp only
    rw[List.take_append_of_le_length (by rw[hnl,hcl];exact Nat.le_refl _),List.take_of_length_le (by rw[hnl,hcl];exact Nat.le_refl _)]
end
theorem KI(z:List D)(xs:List (List D))(m:Nat)(h:m≤xs.length):(Eb z xs m).take m=xs.take m:=by
 have e:(xs.take m).length=m:=by simp;omega
 rw[Eb,List.take_append_of_le_length (by omega),List.take_of_length_le (by omega)]
theorem N6(z:List D)(xs:List (List D))(m:Nat)(h:m≤xs.length):(Eb z xs m).length=xs.length:=by simp[Eb];omega
theorem PS{P:Program}{ops:Array Oper}{o1 o2:Oper}{os:List Oper}{g g':G}{K:G→Prop}(hg1:o1.guard=none)(hg2:o2.guard=none)
 (h:∀(X:Cx)(ν:Nat→Nm)(a:Act)(w:World)(next next1:Act→World→Prop)(Q:Exit→Act→World→Prop),Sat P X ν g a w→(∀ν' a' w',Sat P X ν' g' a' w'→next a' w')→(∀a1 w1,o2.wp P a1 w1 next Q→next1 a1 w1)→o1.wp P a w next1 Q)
 (hr:WO P ops os g' K):WO P ops (o1::o2::os) g K:=by
 intro i hi X ν a w Q hs hn
 have ho1:ops[i]?=some o1:=hi 0 o1 rfl
 have ho2:ops[i+1]?=some o2:=hi 1 o2 rfl
 simp only[List.length_cons,List.range'_succ,wpOps,ho1]
 have hrest:=hr (i+2) (fun j o' hj=>by have:=hi (j+2) o' (by simpa using hj);rw[show i+2+j=i+(j+2) from by omega];exact this)
 rw[if_pos (by simp[Region.wanted,hg1])]
 refine .inl (h X ν a w (wpOps P ops Q (List.range' (i+2) os.length)) _ Q hs (fun ν' a' w' hs'=>hrest X ν' a' w' Q hs' hn) fun a1 w1 h2=>?_)
 simp only[ho2]
 rw[if_pos (by simp[Region.wanted,hg2])]
 exact .inl h2
section
variable{E:Env}{g:G}{n0:Nat}
theorem Pc{ops:Array Oper}{os:List Oper}{K:G→Prop}{x lo:Operand}{t e k d:Nat}{m:Int}{ty ty2:TypeId}{pos pos2:String}{aft aft2:Array Edge}{xs:List (List D)}(z:List D)(ti ei:TI)(ht:E.ti t=some ti)(hty:ti.ty= .slice e)(he:E.ti e=some ei)(hz:qM ei.zero=some z)
 (hx:g.ev x= .acc k) (hlo:g.ev lo= .d (.val (.int .i64 m))) (hk:g.at k=some (.acc e xs)) (h0:0≤m) (hm:m≤xs.length) (hd:d<g.sl.length)
 (hr:WO E.P ops os ⟨fb g.sl d .any,aV g.st k (some (.acc e (Eb z xs m.toNat)))⟩ K) :
 WO E.P ops (⟨some d,.slice t x (some lo) none none,ty,pos,aft,none⟩::⟨none,.call ⟨.builtin .clear,#[.tmp d],#[t]⟩,ty2,pos2,aft2,none⟩::os) g K:=by
 refine PS rfl rfl (fun X ν a w next next1 Q hs hn h2=>?_) hr
 have hu:=(E.ok t ti ht).ty
 rw[hty] at hu
 have hv:=hs.ev x
 rw[hx] at hv
 have hv2:=hs.ev lo
 rw[hlo] at hv2
 have hv2:=bU hv2
 simp only[af] at hv
 have hsize:=(E.ok e ei he).size
 have hs1:=hs.put d (p:=.any) (v:=Go.undef) trivial
 obtain⟨us,ho,hrr,hB,hf0⟩:=hs.en k _ hk
 have hrun:∃n c a0,(ν k).v= .slice a0 n c∧(execOp a.eval ⟨some d,.slice t x (some lo) none none,ty,pos,aft,none⟩).run E.P w= .ok (.value (sliced a0 m.toNat n c ei.n)) w:=by
  rcases ho.2 with⟨h1,h2⟩|⟨b,cap,cur,h1,_,_,h4,_⟩
  ·refine⟨0,0,none,h1,?_⟩
   have hr:=kR (P:=E.P) w hu hsize none 0 0 (some (.int .i64 m)) none m ((0:Nat):Int) (.inr ⟨_,rfl⟩) (.inl ⟨rfl,rfl⟩) h0 (by omega) (Int.le_refl _) (Nat.le_refl _)
   simp only[execOp,hv.2,h1,hv2,Option.map_none,Option.map_some,Sem.run_bind,hr,Result.andThen_ok]
   rfl
  ·refine⟨xs.length,cap,some ⟨b,0,none⟩,h1,?_⟩
   have hr:=kR (P:=E.P) w hu hsize (some ⟨b,0,none⟩) xs.length cap (some (.int .i64 m)) none m (xs.length:Int) (.inr ⟨_,rfl⟩) (.inl ⟨rfl,rfl⟩) h0 (by omega) (Int.le_refl _) h4
   simp only[Int.toNat_natCast] at hr
   simp only[execOp,hv.2,h1,hv2,Option.map_none,Option.map_some,Sem.run_bind,hr,Result.andThen_ok]
   rfl
 obtain⟨n,c,a0,hν,hr⟩:=hrun
 unfold Oper.wp
 rw[hr,Oper.upon_value]
 refine h2 _ _ ?_
 have hs2:=hs.put d (p:=.any) (v:=sliced a0 m.toNat n c ei.n) trivial
 refine K9 (g:=⟨fb g.sl d .any,g.st⟩) ht hty he hz hk (by omega) n c a0 hν ?_ hs2 next Q hn
 show(a.put (some d) _).tmps.getD d Go.undef=_
 rw[kp,if_pos ⟨rfl,by rw[hs.size];exact hd⟩]
theorem M8(x hi:Operand)(t e k:Nat){d:Nat}{ty:TypeId}{pos:String}{aft:Array Edge}{gd:Option (Nat×Bool)}(ti ei:TI)(xs:List (List D))(h:Int)(ht:E.ti t=some ti)(hty:ti.ty= .slice e)(he:E.ti e=some ei)
 (hx:g.ev x= .acc k) (hk:g.at k=some (.acc e xs)) (hhi:g.ev hi= .d (.val (.int .i64 h))) (h0:0≤h) (h1:h≤xs.length) :
 eh E.P ⟨some d,.slice t x none (some hi) none,ty,pos,aft,gd⟩ g ⟨aY x++aY hi,[k]⟩ ⟨some (d,.d (.bu (xs.take h.toNat))),[(k,.dead)]⟩:=by
 intro g2 hg
 have e1:=hg.ev (x:=x) (fun t h=>by simp[h])
 have e2:=hg.ev (x:=hi) (fun t h=>by simp[h])
 have h3:=(hg.p k (by simp)).trans hk
 intro X ν a w next Q hs hn
 have hu:=(E.ok t ti ht).ty
 rw[hty] at hu
 have hv:=hs.ev x
 rw[e1,hx] at hv
 have hv2:=hs.ev hi
 rw[e2,hhi] at hv2
 have hv2:=bU hv2
 simp only[af] at hv
 have hsize:=(E.ok e ei he).size
 obtain⟨hn',rfl⟩:∃n:Nat,h=n:=⟨h.toNat,by omega⟩
 simp only[Int.toNat_natCast] at hn⊢
 obtain⟨us,ho,hrr,hB,hf0⟩:=hs.en k _ h3
 have hat:∀j,(g2.app ⟨some (d,.d (.bu (xs.take hn'))),[(k,.dead)]⟩).at j=if j=k then some .dead else g2.at j:=fun j=>cg g2.st k (some .dead) j
 have hlive:∀j e1,(g2.app ⟨some (d,.d (.bu (xs.take hn'))),[(k,.dead)]⟩).at j=some e1→e1.live=true→j≠k∧g2.at j=some e1:=by
  intro j e1 h1 h2
  rw[hat] at h1
  by_cases hj:j=k
  ·rw[if_pos hj] at h1
   cases h1;cases h2
  ·rw[if_neg hj] at h1
   exact⟨hj,h1⟩
 have hown:∀b,Own ν (g2.app ⟨some (d,.d (.bu (xs.take hn'))),[(k,.dead)]⟩).at b→Own ν g2.at b:=by
  rintro b ⟨j,e1,h1,h2,h3⟩
  exact⟨j,e1,(hlive j e1 h1 h2).2,h2,h3⟩
 have hw:∀b,aL X ν g2.at b→b<w.heap.size→aL X ν (g2.app ⟨some (d,.d (.bu (xs.take hn'))),[(k,.dead)]⟩).at b∧w.heap[b]?=w.heap[b]?:=fun b hb _=>⟨⟨fun ho=>hb.1 (hown b ho),hb.2⟩,rfl⟩
 have hrun:∃v,(execOp a.eval ⟨some d,.slice t x none (some hi) none,ty,pos,aft,gd⟩).run E.P w= .ok (.value v) w∧cI w (aL X ν (g2.app ⟨some (d,.d (.bu (xs.take hn'))),[(k,.dead)]⟩).at) (.bu (xs.take hn')) v:=by
  rcases ho.2 with⟨k1,k2⟩|⟨b,cap,cur,k1,_,k2,k4,k5,k6,k7⟩
  ·have hr:=kR (P:=E.P) w hu hsize none 0 0 none (some (.int .i64 (hn':Int))) 0 (hn':Int) (.inl ⟨rfl,rfl⟩) (.inr ⟨_,rfl⟩) (Int.le_refl _) h0 (by omega) (Nat.le_refl _)
   obtain rfl:hn'=0:=by omega
   refine⟨.slice none 0 0,?_,by simp;exact .nil⟩
   simp only[execOp,hv.2,k1,hv2,Option.map_none,Option.map_some,Sem.run_bind,hr,Result.andThen_ok]
   rfl
  ·have hr:=kR (P:=E.P) w hu hsize (some ⟨b,0,none⟩) xs.length cap none (some (.int .i64 (hn':Int))) 0 (hn':Int) (.inl ⟨rfl,rfl⟩) (.inr ⟨_,rfl⟩) (Int.le_refl _) h0 (by omega) k4
   simp only[Int.toNat_natCast] at hr
   refine⟨.slice (some ⟨b,0,none⟩) hn' cap,?_,?_⟩
   ·simp only[execOp,hv.2,k1,hv2,Option.map_none,Option.map_some,Sem.run_bind,hr,Result.andThen_ok]
    unfold sliced
    simp[add_lit]
   ·have hrr':=(hrr.frame hw (Nat.le_refl _)).cut 0 hn'
    simp only[List.drop_zero] at hrr'
    have hlen:(xs.take hn').length=hn':=by simp;omega
    have hcl:=kq us 0 hn' hrr.hu (by rw[hrr.len];omega)
    simp only[List.drop_zero,Nat.zero_mul] at hcl
    have hokb:aL X ν (g2.app ⟨some (d,.d (.bu (xs.take hn'))),[(k,.dead)]⟩).at b:=by
     refine⟨?_,hs.Cg ⟨k,_,h3,rfl,.inl (by rw[k1];rfl)⟩⟩
     rintro⟨j,e1,m1,m2,m3⟩
     obtain⟨m4,m5⟩:=hlive j e1 m1 m2
     exact m4 (hs.inj j k e1 _ b m5 h3 m2 rfl m3 (.inl (by rw[k1];rfl)))
    have hres:=cI.bu (w:=w) (ok:=aL X ν (g2.app ⟨some (d,.d (.bu (xs.take hn'))),[(k,.dead)]⟩).at) (xs.take hn') (us.take hn') b 0 cap (E.P.cellsOf e) hokb (iP k2) (by rw[hlen];omega) k5 (by rw[hlen];omega) hrr'.len hrr'.hx hrr'.hu (fun j u hj=>?_) hrr'.hr
    ·rw[hlen] at hres
     exact hres
    ·rw[hcl,←k7,List.take_take] at hj
     have hj':cur.toList[j]?=some u:=by
      rw[List.getElem?_take] at hj
      split at hj
      ·exact hj
      ·cases hj
     have hj2:cur[j]?=some u:=by simpa using hj'
     simp[World.cell?,k2,hj2]
 obtain⟨v,hr,hrep⟩:=hrun
 unfold Oper.wp
 rw[hr,Oper.upon_value]
 refine hn ν _ _ (hs.My (g':=g2.app ⟨some (d,.d (.bu (xs.take hn'))),[(k,.dead)]⟩) (fun _=>False) (kF.refl _ w) (fun _ hb=>hb.elim) ?_ ?_ ?_ ?_ ?_ ?_ ?_ rfl)
 ·intro j hj
  refine⟨rfl,?_⟩
  rw[hat]
  split
  ·rfl
  ·exact hj
 ·intro j e1 hj
  rw[hat] at hj
  by_cases hjk:j=k
  ·rw[if_pos hjk] at hj
   cases hj
   exact .inr trivial
  ·rw[if_neg hjk] at hj
   exact .inl ⟨hj,rfl,fun _ _ _ hb=>hb⟩
 ·intro j e1 b m1 m2 m3
  exact .inl ⟨j,e1,(hlive j e1 m1 m2).2,m2,m3⟩
 ·intro j j' e1 e2 b m1 m2 m3 m4 m5 m6
  exact hs.inj j j' e1 e2 b (hlive j e1 m1 m3).2 (hlive j' e2 m2 m4).2 m3 m4 m5 m6
 ·intro j hj
  rw[hat] at hj
  by_cases hjk:j=k
  ·exact .inl (by rw[hjk,h3];rfl)
  ·rw[if_neg hjk] at hj
   exact .inl hj
 ·simp[G.app,me,size_put,du,hs.size]
 ·intro t
  simp only[G.app,me,kp,fW,hs.size]
  by_cases hc:t=d∧d<g2.sl.length
  ·simp only[hc,and_self,if_true]
   refine .inr ?_
   simp only[af]
   exact hrep
  ·simp only[hc,if_false]
   exact .inl ⟨trivial,trivial⟩
def RG(Q:Ex→G→Prop):jq→Ex→G→Prop
 | .on=>Q
 | .off=>fun _ _=>False
theorem gZ(Q:Ex→G→Prop)(e:Ex)(g:G):RG Q .on e g=Q e g:=rfl
theorem lW(hm:E.P.follows .mixedOrders=true){c:Code}{Q:Ex→G→Prop}(h:CR E n0 c .on g (RG Q)):W E.P n0 c g Q:=FZ hm c g _ h
theorem gi(K:G→Prop)(Q:Ex→G→Prop)(g:G):HZ K Q .normal g=K g:=rfl
theorem MZ(K:G→Prop)(Q:Ex→G→Prop)(i:Nat)(g:G):HZ K Q (.exit i) g=Q (.exit i) g:=rfl
theorem Ce(K:G→Prop)(Q:Ex→G→Prop)(g:G):HZ K Q .ret g=Q .ret g:=rfl
theorem AK{P:Program}(t k e:Nat)(xs:List (List D))(ht:nth g.sl t= .acc k)(hk:g.at k=some (.acc e xs)):jv P n0 g ⟨fb g.sl t (.d (.bu xs)),aV g.st k (some .dead)⟩:=by
 intro X ν a w _ hs
 refine⟨ν,?_⟩
 obtain⟨us,ho,hrr,hB,hf0⟩:=hs.en k _ hk
 have hat:∀j,(⟨fb g.sl t (.d (.bu xs)),aV g.st k (some .dead)⟩:G).at j=if j=k then some .dead else g.at j:=fun j=>cg g.st k (some .dead) j
 have hlive:∀j e1,(⟨fb g.sl t (.d (.bu xs)),aV g.st k (some .dead)⟩:G).at j=some e1→e1.live=true→j≠k∧g.at j=some e1:=by
  intro j e1 h1 h2
  rw[hat] at h1
  by_cases hj:j=k
  ·rw[if_pos hj] at h1
   cases h1;cases h2
  ·rw[if_neg hj] at h1
   exact⟨hj,h1⟩
 have hown:∀b,Own ν (⟨fb g.sl t (.d (.bu xs)),aV g.st k (some .dead)⟩:G).at b→Own ν g.at b:=by
  rintro b ⟨j,e1,h1,h2,h3⟩
  exact⟨j,e1,(hlive j e1 h1 h2).2,h2,h3⟩
 have hw:∀b,aL X ν g.at b→b<w.heap.size→aL X ν (⟨fb g.sl t (.d (.bu xs)),aV g.st k (some .dead)⟩:G).at b∧w.heap[b]?=w.heap[b]?:=fun b hb _=>⟨⟨fun ho=>hb.1 (hown b ho),hb.2⟩,rfl⟩
 have hrep:cI w (aL X ν (⟨fb g.sl t (.d (.bu xs)),aV g.st k (some .dead)⟩:G).at) (.bu xs) (ν k).v:=by
  refine n9 ho hrr hB (fun b hb=>⟨?_,hs.Cg ⟨k,_,hk,rfl,.inl hb⟩⟩) hw
  rintro⟨j,e1,m1,m2,m3⟩
  obtain⟨m4,m5⟩:=hlive j e1 m1 m2
  exact m4 (hs.inj j k e1 _ b m5 hk m2 rfl m3 (.inl hb))
 refine hs.My (g':=⟨fb g.sl t (.d (.bu xs)),aV g.st k (some .dead)⟩) (fun _=>False) (kF.refl _ w) (fun _ hb=>hb.elim) ?_ ?_ ?_ ?_ ?_ ?_ ?_ rfl
 ·intro j hj
  refine⟨rfl,?_⟩
  rw[hat]
  split
  ·rfl
  ·exact hj
 ·intro j e1 hj
  rw[hat] at hj
  by_cases hjk:j=k
  ·rw[if_pos hjk] at hj
   cases hj
   exact .inr trivial
  ·rw[if_neg hjk] at hj
   exact .inl ⟨hj,rfl,fun _ _ _ hb=>hb⟩
 ·intro j e1 b m1 m2 m3
  exact .inl ⟨j,e1,(hlive j e1 m1 m2).2,m2,m3⟩
 ·intro j j' e1 e2 b m1 m2 m3 m4 m5 m6
  exact hs.inj j j' e1 e2 b (hlive j e1 m1 m3).2 (hlive j' e2 m2 m4).2 m3 m4 m5 m6
 ·intro j hj
  rw[hat] at hj
  by_cases hjk:j=k
  ·exact .inl (by rw[hjk,hk];rfl)
  ·rw[if_neg hjk] at hj
   exact .inl hj
 ·simp[du,hs.size]
 ·intro j
  simp only[fW]
  by_cases hc:j=t∧t<g.sl.length
  ·simp only[hc,and_self,if_true]
   refine .inr ?_
   have:=hs.sl t
   rw[ht] at this
   simp only[af] at this⊢
   rw[this.2]
   exact hrep
  ·simp only[hc,if_false]
   exact .inl ⟨trivial,trivial⟩
def JO(E:Env)(rs:List ResultVar)(n0:Nat)(R:PV→List (Option En)→Prop)(g:G):Prop:=∃g',jv E.P n0 g g'∧rf E rs n0 R g'
theorem bR{rs:List ResultVar}{R:PV→List (Option En)→Prop}(h:rf E rs n0 R g):JO E rs n0 R g:=⟨g,jv.refl g,h⟩
theorem Ak {f : FuncId} {fn : Func} {c : Code} {args : List PV} {cst : List (Option En)} {R : PV → List (Option En) → Prop} {nt : Nat} {rs : List ResultVar} (hf : E.P.funcs[f]? = some fn) (hb : fn.body = some c) (hname : (fn.name == "runtime.NumGoroutine") = false)
 (hnt:fn.ntmps=nt) (hrs:fn.results.toList=rs) (hn:pM (oQ args) nt=true) (h:jB args→tm cst→W E.P (e9 cst) c ⟨bW nt .undef (JH 0 args),cst⟩ (Fh (JO E rs (e9 cst) R))):C E.P f args cst R:=by
 have hn:=ew hn
 rw[gR] at hn
 rw[←HR hn,gj] at h
 refine Du hf hb hname (JO E rs cst.length R) (fun _ X ν a w ⟨_,hw,h1⟩ hp hs=>let ⟨_,hs'⟩:=hw X ν a w hp hs;rf.sat h1 hp hs' hrs) ?_
 rw[hnt,←qU]
 refine Ol fun h1 h2=>h ?_ h2
 have h1:jB (pad args nt):=h1
 rw[qU] at h1
 exact uB h1
end
end Go.Eng
namespace Go.Eng
open Go.RowKit
def qS(P:Program)(t:TypeId):Bool:=
 match P.underlying t with
 | some (.struct ⟨[f, g]⟩) => (f.name != "_" && (g.name != "_" && (f.offset == 0 && (g.offset == 1 && ((match P.underlying f.type, P.underlying g.type with | some (.int _), some (.int _) => true | _, _ => false) && (!P.stoodInHeld t && !P.eqGuardType P.depth t))))))
 | _=>false
def ij(a b c e:Int):Bool:=a == c&&b == e
theorem rb {P : Program} {t : TypeId} (h : qS P t = true) : ∃ (f g : Field) (k l : IntKind), P.underlying t = some (.struct ⟨[f, g]⟩) ∧ f.name ≠ "_" ∧ g.name ≠ "_" ∧ f.offset = 0 ∧ g.offset = 1 ∧ P.underlying f.type = some (.int k) ∧ P.underlying g.type = some (.int l) ∧ P.stoodInHeld t = false ∧ P.eqGuardType P.depth t = false := by
 unfold qS at h
 split at h
 ·rename_i f g hu
  simp only[Bool.and_eq_true,bne_iff_ne,ne_eq,beq_iff_eq,Bool.not_eq_true'] at h
  obtain⟨h1,h2,h3,h4,h5,h6,h7⟩:=h
  split at h5
  ·rename_i k l hk hl
   exact⟨f,g,k,l,hu,h1,h2,h3,h4,hk,hl,h6,h7⟩
  ·cases h5
 ·cases h
theorem uF{P:Program}(w:World){t:TypeId}(h:qS P t=true)(a b c e:Int) :
 (Op.equalIn 10000 t (.agg ⟨[.int .i64 a,.int .i64 b]⟩) (.agg ⟨[.int .i64 c,.int .i64 e]⟩)).run P w= .ok (ij a b c e) w:=by
 obtain⟨f,g,k,l,hu,n1,n2,o1,o2,hf,hg,hs,_⟩:=rb h
 have hfs:P.fieldsOf t=⟨[f,g]⟩:=by simp only[Program.fieldsOf,hu]
 rw[run_equalIn_struct w 9999 t _ _ (by rw[hfs];exact hu) hs,hfs]
 have p1:P.plainKey f.type=true:=by simp[Program.plainKey,hf]
 have p2:P.plainKey g.type=true:=by simp[Program.plainKey,hg]
 have e1:=run_part_plain (P:=P) w p1 (xs:=⟨[.int .i64 a,.int .i64 b]⟩) (off:=f.offset) (v:=.int .i64 a) (by rw[o1];rfl)
 have e2:=run_part_plain (P:=P) w p1 (xs:=⟨[.int .i64 c,.int .i64 e]⟩) (off:=f.offset) (v:=.int .i64 c) (by rw[o1];rfl)
 have e3:=run_part_plain (P:=P) w p2 (xs:=⟨[.int .i64 a,.int .i64 b]⟩) (off:=g.offset) (v:=.int .i64 b) (by rw[o2];rfl)
 have e4:=run_part_plain (P:=P) w p2 (xs:=⟨[.int .i64 c,.int .i64 e]⟩) (off:=g.offset) (v:=.int .i64 e) (by rw[o2];rfl)
 have q1:(Op.equalIn 9999 f.type (.int .i64 a) (.int .i64 c)).run P w= .ok (a == c) w:=run_equalIn_int w 9998 f.type .i64 k a c hf
 have q2:(Op.equalIn 9999 g.type (.int .i64 b) (.int .i64 e)).run P w= .ok (b == e) w:=run_equalIn_int w 9998 g.type .i64 l b e hg
 simp only[Op.eqFields,n1,n2,ne_eq,not_false_eq_true,if_true,Sem.run_bind,Sem.run_ite,e1,e2,e3,e4,Result.andThen_ok,q1,q2,ij]
 cases a == c
 ·rfl
 ·simp only[Bool.not_true,Bool.false_eq_true,if_false,Bool.true_and,Sem.run_bind,Sem.run_ite,e3,e4,Result.andThen_ok,q2]
  cases b == e<;>rfl
section
variable{E:Env}{g:G}{d:Nat}{ty:TypeId}{pos:String}{aft:Array Edge}{gd:Option (Nat×Bool)}
theorem s9{w:World}{ok:Nat→Prop}{ν:Nat→Nm}{st:Nat→Option En}{a b:Int}{v:Value}(h:af w ok ν st (.agg [.d (.val (.int .i64 a)),.d (.val (.int .i64 b))]) v):v= .agg ⟨[.int .i64 a,.int .i64 b]⟩:=by
 simp only[af] at h
 obtain⟨vs,rfl,h⟩:=h
 match vs,h with
 | [v1,v2],h=>
   simp only[ae,and_true] at h
   rw[bU h.1,bU h.2]
theorem IK(x y:Operand)(t u:TypeId)(a b c e:Int)(ht:qS E.P t=true)(hx:g.ev x= .agg [.d (.val (.int .i64 a)),.d (.val (.int .i64 b))])(hy:g.ev y= .agg [.d (.val (.int .i64 c)),.d (.val (.int .i64 e))]) :
 eh E.P ⟨some d,.binOp .eql t x y u,ty,pos,aft,gd⟩ g ⟨aY x++aY y,[]⟩ ⟨some (d,.d (.val (.bool (ij a b c e)))),[]⟩:=by
 intro g2 hg
 have h1:=hg.ev (x:=x) (fun t h=>List.mem_append_left _ h)
 have h2:=hg.ev (x:=y) (fun t h=>List.mem_append_right _ h)
 refine vz.val rfl fun X ν act w hs=>?_
 have hv:=hs.ev x
 have hv2:=hs.ev y
 rw[h1,hx] at hv
 rw[h2,hy] at hv2
 have q1:=s9 hv
 have q2:=s9 hv2
 obtain⟨_,_,_,_,_,_,_,_,_,_,_,_,hm⟩:=rb ht
 refine⟨.bool (ij a b c e),?_,gv rfl⟩
 simp[execOp,q1,q2,run_eqGuard_agg w .eql t x y _ _ hm,run_eql_struct,uF w ht]
theorem II(x y:Operand)(t u:TypeId)(a b c e:Int)(ht:qS E.P t=true)(hx:g.ev x= .agg [.d (.val (.int .i64 a)),.d (.val (.int .i64 b))])(hy:g.ev y= .agg [.d (.val (.int .i64 c)),.d (.val (.int .i64 e))]) :
 eh E.P ⟨some d,.binOp .neq t x y u,ty,pos,aft,gd⟩ g ⟨aY x++aY y,[]⟩ ⟨some (d,.d (.val (.bool (!ij a b c e)))),[]⟩:=by
 intro g2 hg
 have h1:=hg.ev (x:=x) (fun t h=>List.mem_append_left _ h)
 have h2:=hg.ev (x:=y) (fun t h=>List.mem_append_right _ h)
 refine vz.val rfl fun X ν act w hs=>?_
 have hv:=hs.ev x
 have hv2:=hs.ev y
 rw[h1,hx] at hv
 rw[h2,hy] at hv2
 have q1:=s9 hv
 have q2:=s9 hv2
 obtain⟨_,_,_,_,_,_,_,_,_,_,_,_,hm⟩:=rb ht
 refine⟨.bool (!ij a b c e),?_,gv rfl⟩
 simp[execOp,q1,q2,run_eqGuard_agg w .neq t x y _ _ hm,run_neq_struct,uF w ht]
theorem PC{m:Option (List Ky)}{gs:Option Nat}{rest:jq→Option (List Ky)→G→Prop}{x y:Operand}{t u:TypeId}(ht:qS E.P t=true){a b c e:Int}(hx:g.ev x= .agg [.d (.val (.int .i64 a)),.d (.val (.int .i64 b))])(hy:g.ev y= .agg [.d (.val (.int .i64 c)),.d (.val (.int .i64 e))])
 (hr:rest .on (fE m (gM (l6 gs ⟨aY x++aY y,[]⟩) ⟨some (d,.d (.val (.bool (ij a b c e)))),[]⟩)) (g.app ⟨some (d,.d (.val (.bool (ij a b c e)))),[]⟩)):kP E m gs ⟨some d,.binOp .eql t x y u,ty,pos,aft,gd⟩ g rest:=
 bS (IK x y t u a b c e ht hx hy) hr
theorem Nk{m:Option (List Ky)}{gs:Option Nat}{rest:jq→Option (List Ky)→G→Prop}{x y:Operand}{t u:TypeId}(ht:qS E.P t=true){a b c e:Int}(hx:g.ev x= .agg [.d (.val (.int .i64 a)),.d (.val (.int .i64 b))])(hy:g.ev y= .agg [.d (.val (.int .i64 c)),.d (.val (.int .i64 e))])
 (hr:rest .on (fE m (gM (l6 gs ⟨aY x++aY y,[]⟩) ⟨some (d,.d (.val (.bool (!ij a b c e)))),[]⟩)) (g.app ⟨some (d,.d (.val (.bool (!ij a b c e)))),[]⟩)):kP E m gs ⟨some d,.binOp .neq t x y u,ty,pos,aft,gd⟩ g rest:=
 bS (II x y t u a b c e ht hx hy) hr
theorem P6(x y:Operand)(m n:Int)(tys:Array TypeId)(hx:g.ev x= .d (.val (.int .i64 m)))(hy:g.ev y= .d (.val (.int .i64 n))) :
 eh E.P ⟨some d,.call ⟨.builtin .max,#[x,y],tys⟩,ty,pos,aft,gd⟩ g ⟨aY x++aY y,[]⟩ ⟨some (d,.d (.val (.int .i64 (if m<n then n else m)))),[]⟩:=
 iM rfl hx hy rfl fun a w h1 h2=>by
  simp[execOp,resolve,invoke,builtin,Builtin.max_,Builtin.max2,h1,h2]
theorem Ox{m:Option (List Ky)}{gs:Option Nat}{rest:jq→Option (List Ky)→G→Prop}{x y:Operand}{tys:Array TypeId}(a b c:Int)(hc:(if a<b then b else a)=c)(hx:g.ev x= .d (.val (.int .i64 a)))(hy:g.ev y= .d (.val (.int .i64 b)))
 (hr:rest .on (fE m (gM (l6 gs ⟨aY x++aY y,[]⟩) ⟨some (d,.d (.val (.int .i64 c))),[]⟩)) (g.app ⟨some (d,.d (.val (.int .i64 c))),[]⟩)):kP E m gs ⟨some d,.call ⟨.builtin .max,#[x,y],tys⟩,ty,pos,aft,gd⟩ g rest:=by
 subst hc
 exact bS (P6 x y a b tys hx hy) hr
theorem NG(x:Operand)(m:Int)(t u:TypeId)(hx:g.ev x= .d (.val (.int .u64 m))) :
 eh E.P ⟨some d,.binOp .shr t x (.const (.int .u64 1)) u,ty,pos,aft,gd⟩ g ⟨aY x,[]⟩ ⟨some (d,.d (.val (.int .u64 (m.fdiv 2)))),[]⟩:=
 wP rfl hx rfl fun a w h1=>by
  have he:a.eval (.const (.int .u64 1))= .int .u64 1:=rfl
  have hb:min 1 (IntKind.u64).bits=1:=by decide
  simp[execOp,h1,he,eqGuard,binOp,Op.shift,hb]
theorem P2{m:Option (List Ky)}{gs:Option Nat}{rest:jq→Option (List Ky)→G→Prop}{x:Operand}{t u:TypeId}(a c:Int)(hc:a.fdiv 2=c)(hx:g.ev x= .d (.val (.int .u64 a)))
 (hr:rest .on (fE m (gM (l6 gs ⟨aY x,[]⟩) ⟨some (d,.d (.val (.int .u64 c))),[]⟩)) (g.app ⟨some (d,.d (.val (.int .u64 c))),[]⟩)):kP E m gs ⟨some d,.binOp .shr t x (.const (.int .u64 1)) u,ty,pos,aft,gd⟩ g rest:=by
 subst hc
 exact bS (NG x a t u hx) hr
theorem wrap_u64{n:Int}(h0:0≤n)(h1:n≤9223372036854775807):IntKind.wrap .u64 n=n:=by
 simp only[IntKind.wrap,IntKind.bits,IntKind.signed,Bool.false_and,Bool.false_eq_true,if_false]
 omega
end
end Go.Eng
