/-
  The symbolic layer, twenty-third text: from a function's code to its contract; what the working out may unfold.
-/
import Derived.Test.YtabembjmeobhoaaGreatKBC
import Derived.Laws.StructEq
set_option linter.unusedVariables false
set_option linter.unusedSimpArgs false
open Bool renaming and_eq_true→ai,false_eq_true→ax,true_and→aM,false_and→aS,or_eq_true→gi,not_false→iU,not_true→kE,not_eq_true'→mj
open Int renaming toNat_natCast→bo,le_refl→ll
open List renaming getElem?_eq_getElem→ah,take_of_length_le→ao,mem_cons→ay,getD_eq_getElem?_getD→az,map_cons→aQ,replicate→aW,length_cons→a8,getElem?_append_left→bj,getElem?_eq_none→bq,getElem?_append_right→bu,cons_append→bz,take_append_of_le_length→bW,getD→cC,mem_append_left→cY,map_nil→dt,mem_append_right→fR,drop_zero→mO
open Nat renaming le_refl→aI,eq_of_beq_eq_true→bI,mul_le_mul_right→bP,zero_add→c9,add_zero→gV,beq→ja,sub_self→km
open Option renaming getD_none→aZ,map_some→du,map_none→gl
namespace Go.Eng
open Go.RowKit
def pad:List PV→Nat→List PV
 | [],0=>[]
 | [],n+1=>.undef::pad [] n
 | l,0=>l
 | a::as,n+1=>a::pad as n
theorem zf:∀(l:List PV)(n:Nat),pad l n=l++aW (n-l.length) .undef
 | [],0=>rfl
 | [],n+1=>by simp[pad,zf [] n,List.replicate_succ]
 | a::as,0=>by simp[pad]
 | a::as,n+1=>by simp[pad,zf as n]
def zn(E:Env)(rs:List ResultVar)(n0:Nat)(R:PV→List (Option En)→Prop)(g:G):Prop:=
 ∃ps m q st',yZ E g rs=some ps∧Wk n0 m ⟨[kP ps],g.st⟩ ⟨[q],st'⟩∧R q st'
theorem zn.sat{E:Env}{rs:List ResultVar}{n0:Nat}{R:PV→List (Option En)→Prop}{g:G}(h:zn E rs n0 R g){X:Cx}{ν:Nat→Nm}{a:Act}{w:World}(hp:Zu X n0)(hs:Sat E.P X ν g a w){fn:Func}(hfn:fn.results.toList=rs) :
 ∃v res st' ν',(results fn a.tmps).run E.P w= .ok v w∧R res st'∧OE E.P X ν' res st' v w:=by
 obtain⟨ps,m,q,st',h1,h2,h3⟩:=h
 obtain⟨v,hr,hv⟩:=C5 hs (fn:=fn) (by rw[hfn];exact h1)
 have hs1:Sat E.P X ν ⟨[kP ps],g.st⟩ ⟨#[v],[]⟩ w:=by
  refine⟨rfl,fun t=>?_,hs.en,hs.inj,hs.base,hs.nu,hs.par,hs.D5,hs.zk,rfl⟩
  cases t with
  | zero=>exact hv
  | succ t=>simp[nth,aF]
 obtain⟨ν',hs2⟩:=Lk h2 X ν _ _ hp hs1
 exact⟨v,q,st',ν',hr,h3,hs2⟩
theorem aaY{E:Env}{rs:List ResultVar}{g:G}{ps:List PV}{q:PV}(h1:yZ E g rs=some ps)(h2:wk ⟨[kP ps],g.st⟩ [] (kP ps) q):zn E rs 0 (bM q []) g:=
 ⟨ps,[],q,[],h1,⟨by simp only[zQ];exact⟨h2,trivial⟩,by simp[l7],rfl,rfl⟩,rfl,rfl⟩
theorem WW:cF []=[]:=rfl
theorem Tp(x:D)(xs:List D):cF (x::xs)= .d x::cF xs:=rfl
def zq(t:Nat):List (Nat×PV)→PV→PV
 | [],p=>p
 | (d,v)::r,p=>match ja t d with
   | true=>v
   | false=>zq t r p
def dB(n:Nat)(p:PV)(ch:List (Nat×PV)):List PV:=(List.range n).map fun t=>zq t ch p
theorem xL{a b:Nat}:Nat.ble b a=false↔a<b:=by
 cases h:Nat.ble b a
 ·simp only[true_iff]
  have h':¬b≤a:=fun hl=>by rw[Nat.ble_eq_true_of_le hl] at h;cases h
  omega
 ·have:=Nat.le_of_ble_eq_true h
  simp
  omega
theorem xk:∀(l:List PV)(t:Nat),nth l t=l.getD t .any
 | [],t=>by cases t<;>rfl
 | _::_,0=>rfl
 | _::l,t+1=>by simp only[nth,xk l t];rfl
theorem Bs(n:Nat)(p:PV)(ch:List (Nat×PV)):(dB n p ch).length=n:=by simp[dB]
theorem Ej(n:Nat)(p:PV)(ch:List (Nat×PV))(t:Nat):nth (dB n p ch) t=match Nat.ble n t with|false=>zq t ch p|true=>.any:=by
 rw[xk]
 cases h:Nat.ble n t
 ·have h':t<n:=xL.1 h
  simp[dB,cC,h']
 ·have h':¬t<n:=fun hl=>by rw[xL.2 hl] at h;cases h
  simp[dB,cC,h']
theorem Rt{l l':List PV}(hl:l.length=l'.length)(h:∀t,nth l t=nth l' t):l=l':=by
 refine List.ext_getElem hl fun t h1 h2=>?_
 have:=h t
 rw[xk,xk] at this
 simpa[cC,h1,h2] using this
theorem Vo(n:Nat)(p:PV)(ch:List (Nat×PV))(d:Nat)(v:PV):lK (dB n p ch) d v=dB n p ((d,v)::ch):=by
 refine Rt (by rw[jt,Bs,Bs]) fun t=>?_
 rw[nr,Bs,Ej,Ej]
 by_cases h:t=d
 ·subst h
  by_cases hn:t<n
  ·rw[if_pos ⟨rfl,hn⟩,xL.2 hn]
   simp only[zq,Nat.beq_refl]
  ·rw[if_neg (fun hc=>hn hc.2)]
   have:Nat.ble n t=true:=by
    cases hb:Nat.ble n t
    ·exact(hn (xL.1 hb)).elim
    ·rfl
   rw[this]
 ·rw[if_neg (fun hc=>h hc.1)]
  have:ja t d=false:=by
   cases hb:ja t d
   ·rfl
   ·exact(h (bI hb)).elim
  simp only[zq,this]
def VT:Nat→List PV→List (Nat×PV)
 | _,[]=>[]
 | i,a::l=>(i,a)::VT (i+1) l
theorem MX:∀(l:List PV)(i t:Nat)(p:PV),zq (i+t) (VT i l) p=l.getD t p
 | [],i,t,p=>by simp[VT,zq]
 | a::l,i,0,p=>by simp[VT,zq]
 | a::l,i,t+1,p=>by
   have:ja (i+(t+1)) i=false:=by
    cases hb:ja (i+(t+1)) i
    ·rfl
    ·have:=bI hb;omega
   simp only[VT,zq,this]
   have:=MX l (i+1) t p
   rw[show i+1+t=i+(t+1) by omega] at this
   rw[this]
   rfl
theorem QA{l:List PV}{n:Nat}(h:l.length≤n):pad l n=dB n .undef (VT 0 l):=by
 rw[zf]
 refine Rt (by rw[Bs];simp;omega) fun t=>?_
 rw[Ej,xk]
 have:=MX l 0 t .undef
 rw[c9] at this
 rw[this]
 cases hb:Nat.ble n t
 rotate_left
 ·have h':¬t<n:=fun hl=>by rw[xL.2 hl] at hb;cases hb
  have h1:(l++aW (n-l.length) PV.undef).length≤t:=by simp;omega
  simp only[cC,bq h1,aZ]
 ·have h':t<n:=xL.1 hb
  simp only[cC]
  by_cases hl:t<l.length
  ·rw[bj hl,ah hl];rfl
  ·rw[bu (by omega),List.getElem?_replicate,if_pos (by omega),bq (by omega)]
   rfl
def wkC(g:G)(m:List (Option Nat))(ch:List (Nat×PV))(p:PV):List (Nat×PV)→Prop
 | []=>True
 | (t,q)::r=>wk g m (zq t ch p) q∧wkC g m ch p r
theorem Zo{g:G}{m:List (Option Nat)}(p:PV):wk g m p .any:=by cases p<;>simp[wk]
theorem Ur{g:G}{m:List (Option Nat)}{ch:List (Nat×PV)}{p:PV}:∀{ch':List (Nat×PV)},wkC g m ch p ch'→∀t,wk g m (zq t ch p) (zq t ch' .any)
 | [],_,t=>by simp only[zq];exact Zo _
 | (d,q)::r,h,t=>by
   simp only[wkC] at h
   simp only[zq]
   cases hb:ja t d
   ·exact Ur h.2 t
   ·have:=bI hb
    subst this
    exact h.1
theorem QR{g:G}{m:List (Option Nat)}{f f':Nat→PV}(h:∀t,wk g m (f t) (f' t)):∀(l:List Nat),zQ g m (l.map f) (l.map f')
 | []=>by simp only[dt,zQ]
 | a::l=>by simp only[aQ,zQ];exact⟨h a,QR h l⟩
theorem aw{P:Program}{n0 n:Nat}(m:List (Option Nat)){p:PV}{ch ch':List (Nat×PV)}{st st':List (Option En)}(h1:wkC ⟨dB n p ch,st⟩ m ch p ch')(h2:l7 ⟨dB n p ch,st⟩ m m st')(h3:B7 m st'=true)(h4:keeps n0 0 m=true):qj P n0 ⟨dB n p ch,st⟩ ⟨dB n .any ch',st'⟩:=
 Lk ⟨QR (Ur h1) _,h2,h3,h4⟩
attribute [go_sem] HR JK Ej Vo zq wkC VT cX cZ lL vT tk dr OS OQ P7 Sy pls evp ZP ZU Ys Oz RT LQ iop cop sop Ye VD bop xC
attribute [go_sem] KX Fq Qb Eh Kz As D2 KJ Ri D1 Al KU Ea YD JM JV KK JH Ei Ln w7 Cp SU Qw D4 QV Zj
theorem aao(sl:List PV)(st:List (Option En))(dst:Option (Nat×PV))(up:List (Nat×En)):(G.mk sl st).app ⟨dst,up⟩=⟨tN sl dst,xD st up⟩:=rfl
theorem SY(sl:List PV):tN sl none=sl:=rfl
theorem SF(sl:List PV)(d:Nat)(p:PV):tN sl (some (d,p))=lK sl d p:=rfl
theorem Tw(sl:List PV)(st:List (Option En))(t:Nat):(G.mk sl st).ev (.tmp t)=nth sl t:=rfl
theorem On(sl:List PV)(st:List (Option En))(v:Value):(G.mk sl st).ev (.const v)=cpv v:=rfl
theorem RQ(sl:List PV)(st:List (Option En))(f:Nat):(G.mk sl st).ev (.func f)= .fn f []:=rfl
theorem abe(sl:List PV)(st:List (Option En))(k:Nat):(G.mk sl st).at k=cX st k:=rfl
theorem aaF(sl:List PV)(st:List (Option En)):(G.mk sl st).new=lL st:=rfl
theorem Xs(s p:List Nat)(dst:Option (Nat×PV))(up:List (Nat×En)):oe ⟨s,p⟩ ⟨dst,up⟩=⟨s,p,Dl.ws ⟨dst,up⟩,Dl.wp ⟨dst,up⟩⟩:=rfl
theorem W6(up:List (Nat×En)):Dl.ws ⟨none,up⟩=[]:=rfl
theorem Xb(d:Nat)(p:PV)(up:List (Nat×En)):Dl.ws ⟨some (d,p),up⟩=[d]:=rfl
theorem YJ(dst:Option (Nat×PV)):Dl.wp ⟨dst,[]⟩=[]:=rfl
theorem WU(dst:Option (Nat×PV))(k:Nat)(e:En)(r:List (Nat×En)):Dl.wp ⟨dst,(k,e)::r⟩=k::Dl.wp ⟨none,r⟩:=rfl
attribute [go_sem] ZY aaj snoc mz.eq_1 mz.eq_2 tR.eq_1 tR.eq_2 ID.eq_1 ID.eq_2 ID.eq_3 Zw.eq_1 Ti.eq_1 r4.eq_1 r4.eq_2 r4.eq_3 ZM YK.eq_1 YK.eq_2 Xi.eq_1 Xi.eq_2 run QD.eq_1 QD.eq_2 QD.eq_3 F5.eq_1 F5.eq_2 F5.eq_3 Uj.eq_1 U6.eq_1 Zd.eq_1 Zd.eq_2 Ly
attribute [go_sem] aao SY SF xD abe Tw On RQ aaF Co cpv T3 JL eh PV.whole PV.one vg QW Vn toD zd rowsOf HM tJ Xs W6 Xb YJ WU da We TI.isAgg WW Tp
attribute [go_sem] Pd Jh OM TK yZ kP bM aQ dt x9 LU
attribute [go_sem] zQ wk l7 BB gN Dr keeps B7 Ph
attribute [go_sem] PX T.pv YA lF sj toT BR Qf Ee Ez HF xv Yf X8 ZQ XP
mutual
def EK:PV→Prop
 | .d (.dP xs)=>xs.length≤LB
 | .d (.str s)=>s.length≤LB
 | .agg cs=>qK cs
 | _=>True
def qK:List PV→Prop
 | []=>True
 | p::ps=>EK p∧qK ps
end
mutual
theorem aF.EK{w:World}{ok:Nat→Prop}{ν:Nat→Nm}{st:Nat→Option En}:∀(p:PV)(v:Value),aF w ok ν st p v→EK p
 | .d (.dP xs),v,h=>by
   simp only[aF] at h
   simp only[Eng.EK]
   exact h.Zx
 | .d (.str s),v,h=>by
   simp only[aF] at h
   simp only[Eng.EK]
   exact h.Eu.2
 | .agg cs,v,h=>by
   simp only[aF] at h
   simp only[Eng.EK]
   obtain⟨vs,_,h⟩:=h
   exact aB.EK cs vs h
 | .d (.val _),_,_=>by simp only[Eng.EK]
 | .any,_,_=>by simp only[Eng.EK]
 | .undef,_,_=>by simp only[Eng.EK]
 | .bZ,_,_=>by simp only[Eng.EK]
 | .jd _,_,_=>by simp only[Eng.EK]
 | .ptr _ _,_,_=>by simp only[Eng.EK]
 | .acc _,_,_=>by simp only[Eng.EK]
 | .gE _ _ _ _,_,_=>by simp only[Eng.EK]
 | .gm _ _ _,_,_=>by simp only[Eng.EK]
 | .fn _ _,_,_=>by simp only[Eng.EK]
theorem aB.EK{w:World}{ok:Nat→Prop}{ν:Nat→Nm}{st:Nat→Option En}:∀(ps:List PV)(vs:List Value),aB w ok ν st ps vs→qK ps
 | [],_,_=>by simp only[Eng.qK]
 | p::ps,v::vs,h=>by
   simp only[aB] at h
   simp only[Eng.qK]
   exact⟨aF.EK p v h.1,aB.EK ps vs h.2⟩
 | _::_,[],h=>by simp[aB] at h
end
def Su:Option En→Prop
 | some (.box cs)=>qK cs
 | some (.acc _ xs)=>xs.length≤LB
 | some (.fg _ xs)=>xs.length≤LB
 | _=>True
def AJ:List (Option En)→Prop
 | []=>True
 | e::es=>Su e∧AJ es
theorem Sat.qK{P:Program}{X:Cx}{ν:Nat→Nm}{g:G}{a:Act}{w:World}(h:Sat P X ν g a w):Eng.qK g.sl:=by
 have key:∀(ps:List PV),(∀t,∃v,aF w (ct X ν g.at) ν g.at (nth ps t) v)→Eng.qK ps:=by
  intro ps
  induction ps with
  | nil=>intro _;simp only[Eng.qK]
  | cons p ps ih=>
    intro hp
    simp only[Eng.qK]
    obtain⟨v,hv⟩:=hp 0
    exact⟨aF.EK p v hv,ih fun t=>hp (t+1)⟩
 exact key _ fun t=>⟨_,h.sl t⟩
theorem Sat.Su{P:Program}{X:Cx}{ν:Nat→Nm}{g:G}{a:Act}{w:World}(h:Sat P X ν g a w)(k:Nat):Eng.Su (g.at k):=by
 cases hk:g.at k with
 | none=>trivial
 | some e=>
   have:=h.en k e hk
   cases e with
   | dead=>trivial
   | box cs=>obtain⟨b,vs,T,_,_,h3,_⟩:=this;exact aB.EK cs vs h3
   | acc t xs=>obtain⟨us,_,_,h3,_⟩:=this;exact h3
   | map sn=>trivial
   | fg t xs=>
     have h1:=this.1
     simp only[kC] at h1
     obtain⟨us,F1,_,_,_,h4,_⟩:=h1
     exact h4
theorem Mp:∀{l:List (Option En)},(∀k,Su (cX l k))→AJ l
 | [],_=>trivial
 | _::_,h=>⟨h 0,Mp fun k=>h (k+1)⟩
theorem Ya{P:Program}{n0:Nat}{c:Code}{g:G}{Q:Ex→G→Prop}(h:qK g.sl→AJ g.st→W P n0 c g Q):W P n0 c g Q:=fun X ν a w hp hs=>
 h hs.qK (Mp fun k=>hs.Su k) X ν a w hp hs
theorem Cc:∀{ps r:List PV},qK (ps++r)→qK ps
 | [],_,_=>by simp only[qK]
 | p::ps,r,h=>by
   simp only[bz,qK] at h⊢
   exact⟨h.1,Cc h.2⟩
theorem aax {E : Env} (hm : E.P.follows .mixedOrders = true) {f : FuncId} {fn : Func} {c : Code} {args : List PV} {eQ : List (Option En)} {R : PV → List (Option En) → Prop} {nt : Nat} {rs : List ResultVar} (hf : E.P.funcs[f]? = some fn) (hb : fn.body = some c) (hname : (fn.name == "runtime.NumGoroutine") = false)
 (hnt:fn.ntmps=nt) (hrs:fn.results.toList=rs) (h:qK args→AJ eQ→Ly E (lL eQ) c .on ⟨pad args nt,eQ⟩ (fun _=>Pd (zn E rs (lL eQ) R))):C E.P f args eQ R:=by
 rw[nD] at h
 refine MY hf hb hname (zn E rs eQ.length R) (fun _ _ _ _ _ h1 hp hs=>zn.sat h1 hp hs hrs) ?_
 rw[hnt,←zf]
 refine Ya fun h1 h2=>Pn hm c _ _ (h ?_ h2)
 have h1:qK (pad args nt):=h1
 rw[zf] at h1
 exact Cc h1
theorem lJ {E : Env} (hm : E.P.follows .mixedOrders = true) {f : FuncId} {fn : Func} {c : Code} {args : List PV} {eQ : List (Option En)} {R : PV → List (Option En) → Prop} {nt : Nat} {rs : List ResultVar} (hf : E.P.funcs[f]? = some fn) (hb : fn.body = some c) (hname : (fn.name == "runtime.NumGoroutine") = false)
 (hnt:fn.ntmps=nt) (hrs:fn.results.toList=rs) (hn:xC (vT args) nt=true) (h:qK args→AJ eQ→Ly E (lL eQ) c .on ⟨dB nt .undef (VT 0 args),eQ⟩ (fun _=>Pd (zn E rs (lL eQ) R))):C E.P f args eQ R:=by
 have hn:=kU hn
 rw[ou] at hn
 rw[←QA hn] at h
 exact aax hm hf hb hname hnt hrs h
attribute [go_sem] EK qK Su AJ
mutual
theorem QL(m:List Nat):∀(p:PV),p.lt 0=true→p.mc m=p
 | .agg cs,h=>by simp only[PV.lt] at h;simp only[PV.mc,wm m cs h]
 | .jd cs,h=>by simp only[PV.lt] at h;simp only[PV.mc,wm m cs h]
 | .fn f cs,h=>by simp only[PV.lt] at h;simp only[PV.mc,wm m cs h]
 | .any,_=>rfl
 | .undef,_=>rfl
 | .bZ,_=>rfl
 | .d _,_=>rfl
 | .gm _ _ _,_=>rfl
 | .ptr _ _,h=>by simp[PV.lt] at h
 | .acc _,h=>by simp[PV.lt] at h
 | .gE _ _ _ _,h=>by simp[PV.lt] at h
theorem wm(m:List Nat):∀(ps:List PV),tI 0 ps=true→qJ m ps=ps
 | [],_=>rfl
 | p::ps,h=>by
   simp only[tI,ai] at h
   simp only[qJ,QL m p h.1,wm m ps h.2]
end
theorem Tl(n:Nat):∀(cs:List D),tI n (cF cs)=true
 | []=>rfl
 | c::cs=>by
   have:=Tl n cs
   simp only[cF,aQ,tI,ai] at this⊢
   exact⟨rfl,this⟩
section
variable{E:Env}{g:G}{d:Nat}{ty:TypeId}{pos:String}{eG:Array Edge}{gd:Option (Nat×Bool)}
theorem V3(nc:Operand)(xs:List Operand)(tys:Array TypeId)(f:FuncId)(cap:List PV)(hfn:g.ev nc= .fn f cap)(cO:List PV)(res:PV)(hC:C E.P f cO [] (bM res []))(oP:E6 (xs.map g.ev++cap) cO)(mr:tI 0 cO=true)(hres:res.lt 0=true) :
 kG E.P ⟨some d,.call ⟨.value nc,⟨xs⟩,tys⟩,ty,pos,eG,gd⟩ g ⟨da nc++xs.flatMap da,[]⟩ ⟨some (d,res),[]⟩:=by
 have h:=Qs (E:=E) (g:=g) (d:=d) (ty:=ty) (pos:=pos) (eG:=eG) (gd:=gd) nc xs tys f cap hfn [] cO [] [] res hC (by rw[wm _ _ mr];exact oP) mr (by simp) (by simp) trivial trivial (by simp) (by simp)
 rw[QL _ _ hres] at h
 exact h
end
def iv(n:Int):PV:=.d (.val (.int .i64 n))
def bv(b:Bool):PV:=.d (.val (.bool b))
def sv(s:List UInt8):PV:=.d (.str s)
def lv(xs:List (List D)):PV:=.d (.dP xs)
attribute [go_sem] iv bv sv lv PV.mc qJ kY look PV.lt tI gl du Option.toList_none Option.toList_some
end Go.Eng
namespace Go.Eng
open Go.RowKit
section
variable{E:Env}{n0:Nat}{g:G}{c:Code}{Q:Ex→G→Prop}
def qF{A:Type}(P:Program)(n0:Nat)(I:A→Prop)(T:A→G)(μ:A→Nat)(a:A)(Q:Ex→G→Prop):Ex→G→Prop
 | .normal,g=>∃a',I a'∧μ a' < μ a∧qj P n0 g (T a')
 | .exit id,g=>Q (.exit id) g
 | .ret,g=>Q .ret g
def Cf{A B:Type}(P:Program)(n0:Nat)(I:A→B→Prop)(T:A→B→G)(μ:A→B→Nat)(a:A)(b:B)(Q:Ex→G→Prop):Ex→G→Prop
 | .normal,g=>∃a' b',I a' b'∧μ a' b' < μ a b∧qj P n0 g (T a' b')
 | .exit id,g=>Q (.exit id) g
 | .ret,g=>Q .ret g
def KS{A B C:Type}(P:Program)(n0:Nat)(I:A→B→C→Prop)(T:A→B→C→G)(μ:A→B→C→Nat)(a:A)(b:B)(c:C)(Q:Ex→G→Prop):Ex→G→Prop
 | .normal,g=>∃a' b' c',I a' b' c'∧μ a' b' c' < μ a b c∧qj P n0 g (T a' b' c')
 | .exit id,g=>Q (.exit id) g
 | .ret,g=>Q .ret g
theorem aO(hm:E.P.follows .mixedOrders=true){A:Type}(I:A→Prop)(T:A→G)(μ:A→Nat)(a0:A)(hi:I a0)(h0:qj E.P n0 g (T a0))
 (round:∀a,I a→Ly E n0 c .on (T a) (fun _=>qF E.P n0 I T μ a Q)):W E.P n0 (.loop c) g Q:=by
 refine UU (α:={a // I a}) (fun x=>T x.1) (fun x=>μ x.1) ⟨a0,hi⟩ h0 ?_
 rintro⟨a,ha⟩
 have h:=Pn hm c _ _ (round a ha)
 have e:(qF E.P n0 I T μ a Q)=(Jh E.P n0 (fun x:{a // I a}=>T x.1) (fun x=>μ x.1) ⟨a,ha⟩ Q):=by
  funext e g'
  cases e with
  | normal=>
    simp only[qF,Jh]
    apply propext
    exact⟨fun⟨a',h1,h2,h3⟩=>⟨⟨a',h1⟩,h2,h3⟩,fun⟨⟨a',h1⟩,h2,h3⟩=>⟨a',h1,h2,h3⟩⟩
  | exit id=>rfl
  | ret=>rfl
 rw[←e]
 exact h
theorem dm(hm:E.P.follows .mixedOrders=true){A B:Type}(I:A→B→Prop)(T:A→B→G)(μ:A→B→Nat)(a0:A)(b0:B)(hi:I a0 b0)(h0:qj E.P n0 g (T a0 b0))
 (round:∀a b,I a b→Ly E n0 c .on (T a b) (fun _=>Cf E.P n0 I T μ a b Q)):W E.P n0 (.loop c) g Q:=by
 refine aO hm (A:=A×B) (fun x=>I x.1 x.2) (fun x=>T x.1 x.2) (fun x=>μ x.1 x.2) (a0,b0) hi h0 ?_
 rintro⟨a,b⟩ h
 have h:=round a b h
 have e:(Cf E.P n0 I T μ a b Q)=(qF E.P n0 (fun x:A×B=>I x.1 x.2) (fun x=>T x.1 x.2) (fun x=>μ x.1 x.2) (a,b) Q):=by
  funext e g'
  cases e with
  | normal=>
    simp only[qF,Cf]
    apply propext
    exact⟨fun⟨a',b',h1,h2,h3⟩=>⟨(a',b'),h1,h2,h3⟩,fun⟨(a',b'),h1,h2,h3⟩=>⟨a',b',h1,h2,h3⟩⟩
  | exit id=>rfl
  | ret=>rfl
 rw[e] at h
 exact h
theorem kS(hm:E.P.follows .mixedOrders=true){A B D:Type}(I:A→B→D→Prop)(T:A→B→D→G)(μ:A→B→D→Nat)(a0:A)(b0:B)(d0:D)(hi:I a0 b0 d0)(h0:qj E.P n0 g (T a0 b0 d0))
 (round:∀a b d,I a b d→Ly E n0 c .on (T a b d) (fun _=>KS E.P n0 I T μ a b d Q)):W E.P n0 (.loop c) g Q:=by
 refine dm hm (A:=A) (B:=B×D) (fun a x=>I a x.1 x.2) (fun a x=>T a x.1 x.2) (fun a x=>μ a x.1 x.2) a0 (b0,d0) hi h0 ?_
 rintro a ⟨b,d⟩ h
 have h:=round a b d h
 have e:(KS E.P n0 I T μ a b d Q)=(Cf E.P n0 (fun a (x:B×D)=>I a x.1 x.2) (fun a x=>T a x.1 x.2) (fun a x=>μ a x.1 x.2) a (b,d) Q):=by
  funext e g'
  cases e with
  | normal=>
    simp only[KS,Cf]
    apply propext
    exact⟨fun⟨a',b',d',h1,h2,h3⟩=>⟨a',(b',d'),h1,h2,h3⟩,fun⟨a',(b',d'),h1,h2,h3⟩=>⟨a',b',d',h1,h2,h3⟩⟩
  | exit id=>rfl
  | ret=>rfl
 rw[e] at h
 exact h
end
theorem qY{α:Type}{l:List α}{i:Nat}(h:i<l.length)(d:α):l.getD i d=l[i]:=by simp[cC,ah h]
mutual
theorem Y6{g:G}{m:List (Option Nat)}:∀{p:PV},p.lt 0=true→wk g m p p
 | .agg cs,h=>by simp only[PV.lt] at h;simp only[wk];exact aq h
 | .jd cs,h=>by simp only[PV.lt] at h;simp only[wk];exact aq h
 | .fn f cs,h=>by simp only[PV.lt] at h;simp only[wk,true_and];exact aq h
 | .any,_=>by simp only[wk]
 | .undef,_=>by simp only[wk]
 | .bZ,_=>by simp only[wk]
 | .d _,_=>by simp only[wk]
 | .gm _ _ _,_=>by simp only[wk,and_self]
 | .ptr _ _,h=>by simp[PV.lt] at h
 | .acc _,h=>by simp[PV.lt] at h
 | .gE _ _ _ _,h=>by simp[PV.lt] at h
theorem aq{g:G}{m:List (Option Nat)}:∀{ps:List PV},tI 0 ps=true→zQ g m ps ps
 | [],_=>by simp only[zQ]
 | p::ps,h=>by
   simp only[tI,ai] at h
   simp only[zQ]
   exact⟨Y6 h.1,aq h.2⟩
end
theorem Xq(a b:Int):(a != b)= !decide (a=b):=by
 by_cases h:a=b<;>simp[h]
theorem WI(a b:Int):(a == b)=decide (a=b):=by
 by_cases h:a=b<;>simp[h]
theorem Xr(a b:List UInt8):(a == b)=decide (a=b):=by
 by_cases h:a=b<;>simp[h]
theorem wW(x:List D)(xs:List (List D)):row (x::xs) 0=x:=rfl
attribute [go_sem] wW
theorem WZ(e0:En)(Q:En→Prop):(∃e,some e0=some e∧Q e)=Q e0:=by
 apply propext
 constructor
 ·rintro⟨e,h,hq⟩
  cases h
  exact hq
 ·intro hq
  exact⟨_,rfl,hq⟩
theorem Na(n:Nat):((no_index (OfNat.ofNat n):Nat):Int)=OfNat.ofNat n:=rfl
theorem Vd(e0:En):(∃e,some e0=some e)=True:=eq_true ⟨_,rfl⟩
theorem XX(xs ys:List (List D)):(D.dP xs=D.dP ys)=(xs=ys):=by simp
attribute [go_sem] ay List.not_mem_nil or_false forall_eq List.length_take List.length_map
attribute [go_sem] Int.natCast_add Int.natCast_one Int.natCast_zero Na Vd ite_true ite_false WZ XX List.take_zero eq_self
attribute [go_sem] Xq WI Xr
attribute [go_sem] bz List.nil_append List.append_nil
theorem TX(ps:List PV):E6 ps ps=True:=eq_true (Kl ps)
attribute [go_sem] cv E6 TX
theorem bQ{m:Option (List Ky)}{gs:Option Nat}{d:Nat}{ty:TypeId}{pos:String}{eG:Array Edge}{gd:Option (Nat×Bool)}{E:Env}{g:G}{rest:qO→Option (List Ky)→G→Prop}{nc:Operand}{xs:List Operand}{tys:Array TypeId}{f:FuncId}(cap:List PV){cO:List PV}{res:PV}
 (hC:C E.P f cO [] (bM res [])) (h:g.ev nc= .fn f cap∧E6 (SU g xs++cap) cO∧tI 0 cO=true∧res.lt 0=true)
 (hr:rest .on (mz m (oe (tR gs ⟨da nc++Cp xs,[]⟩) ⟨some (d,res),[]⟩)) (g.app ⟨some (d,res),[]⟩)):sq E m gs ⟨some d,.call ⟨.value nc,⟨xs⟩,tys⟩,ty,pos,eG,gd⟩ g rest:=by
 rw[xX] at hr
 rw[Ca] at h
 exact fe (V3 nc xs tys f cap h.1 cO res hC h.2.1 h.2.2.1 h.2.2.2) hr
theorem dN{m:Option (List Ky)}{gs:Option Nat}{d:Nat}{ty:TypeId}{pos:String}{eG:Array Edge}{gd:Option (Nat×Bool)}{E:Env}{g:G}{rest:qO→Option (List Ky)→G→Prop}{nc:Operand}{xs:List Operand}{tys:Array TypeId}{f:FuncId}(cap:List PV)(ks:List Nat){cO:List PV}{res:PV}
 (hC:C E.P f cO [] (bM res [])) (h1:g.ev nc= .fn f cap) (h2:ik g ks (SU g xs++cap) cO) (h3:sc res=true)
 (hr:rest .on (mz m (oe (tR gs ⟨da nc++Cp xs,ks⟩) ⟨some (d,res),[]⟩)) (g.app ⟨some (d,res),[]⟩)):sq E m gs ⟨some d,.call ⟨.value nc,⟨xs⟩,tys⟩,ty,pos,eG,gd⟩ g rest:=by
 rw[xX] at hr
 rw[Ca] at h2
 exact fe (Wl nc xs tys f cap h1 ks cO res hC h2 h3) hr
def TZ(k:Nat):List Nat→Bool
 | []=>false
 | j::js=>HR k j||TZ k js
theorem Gj:∀(k:Nat),HR k k=true
 | 0=>rfl
 | k+1=>Gj k
theorem Q7{k:Nat}:∀{m:List Nat},k∈m→TZ k m=true
 | [],h=>by simp at h
 | j::js,h=>by
   simp only[TZ,gi]
   rcases ay.1 h with rfl|h
   ·exact .inl (Gj _)
   ·exact .inr (Q7 h)
def LP:List Nat→Bool
 | []=>true
 | k::ks=>!TZ k ks&&LP ks
theorem J1:∀{m:List Nat},LP m=true→m.Nodup
 | [],_=>by simp
 | k::ks,h=>by
   simp only[LP,ai,mj] at h
   refine List.nodup_cons.2 ⟨fun hk=>?_,J1 h.2⟩
   rw[Q7 hk] at h
   cases h.1
def EP:List Nat→Nat
 | []=>0
 | _::as=>EP as+1
theorem D9:∀(l:List Nat),EP l=l.length
 | []=>rfl
 | _::as=>by simp[EP,D9 as]
theorem gp{m:Option (List Ky)}{gs:Option Nat}{d:Nat}{ty:TypeId}{pos:String}{eG:Array Edge}{gd:Option (Nat×Bool)}{E:Env}{g:G}{rest:qO→Option (List Ky)→G→Prop}{nc:Operand}{xs:List Operand}{tys:Array TypeId}{f:FuncId}(cap:List PV)(M:List Nat){cO:List PV}{eQ st':List (Option En)}{res:PV}
 (hC:C E.P f cO eQ (bM res st')) (h:g.ev nc= .fn f cap∧E6 (SU g xs++cap) (qJ M cO)∧tI (lL eQ) cO=true∧LP M=true∧xC (lL eQ) (EP M)=true∧xC (lL eQ) (lL st')=true∧xC (lL st') (EP M)=true∧n6 g M (lL eQ) M eQ∧iO g (lL eQ) M)
 (hr:rest .on (mz m (oe (tR gs ⟨da nc++Cp xs,M⟩) ⟨some (d,res.mc M),kY M M st'⟩)) (g.app ⟨some (d,res.mc M),kY M M st'⟩)):sq E m gs ⟨some d,.call ⟨.value nc,⟨xs⟩,tys⟩,ty,pos,eG,gd⟩ g rest:=by
 rw[xX] at hr
 rw[Ca] at h
 obtain⟨h1,h2,h3,h4,h5,h6,h7,h8,h9⟩:=h
 have h5:=kU h5
 have h6:=kU h6
 have h7:=kU h7
 rw[nD,D9] at h5
 rw[nD,nD] at h6
 rw[nD,D9] at h7
 rw[nD] at h3 h8 h9
 exact fe (Qs nc xs tys f cap h1 M cO eQ st' res hC h2 h3 (J1 h4) h5 h8 h9 h6 h7) hr
theorem aaU{E:Env}{rs:List ResultVar}{n0:Nat}{g:G}{ps:List PV}{q:PV}{st':List (Option En)}(m:List (Option Nat))(h1:yZ E g rs=some ps)(h2:zQ ⟨[kP ps],g.st⟩ m [kP ps] [q]∧l7 ⟨[kP ps],g.st⟩ m m st')(h3:B7 m st'=true)(h4:keeps n0 0 m=true):zn E rs n0 (bM q st') g:=
 ⟨ps,m,q,st',h1,⟨h2.1,h2.2,h3,h4⟩,rfl,rfl⟩
theorem an{E:Env}{rs:List ResultVar}{g:G}{q:PV}(h:(yZ E g rs).elim False fun ps=>wk ⟨[kP ps],g.st⟩ [] (kP ps) q):zn E rs 0 (bM q []) g:=by
 cases hps:yZ E g rs with
 | none=>rw[hps] at h;exact h.elim
 | some ps=>rw[hps] at h;exact aaY hps h
theorem bX{E:Env}{rs:List ResultVar}{n0:Nat}{g:G}{q:PV}{st':List (Option En)}(m:List (Option Nat))(h:(yZ E g rs).elim False fun ps=>zQ ⟨[kP ps],g.st⟩ m [kP ps] [q]∧l7 ⟨[kP ps],g.st⟩ m m st')(h3:B7 m st'=true)(h4:keeps n0 0 m=true):zn E rs n0 (bM q st') g:=by
 cases hps:yZ E g rs with
 | none=>rw[hps] at h;exact h.elim
 | some ps=>rw[hps] at h;exact aaU m hps h h3 h4
attribute [go_sem] Option.elim_some
attribute [go_sem] LP EP TZ n6 iO En.mc En.lt En.live kE iU Bool.or_true Bool.true_or Bool.or_false Bool.false_or aS Bool.and_false
attribute [go_sem] sc ZR
attribute [go_sem] qF Cf KS RN and_true true_and and_self Int.natCast_nonneg ll Int.toNat_zero Nat.zero_lt_succ c9 gV aI bo Int.ofNat_lt Int.ofNat_le Int.ofNat_inj decide_true decide_false kE iU a8 List.length_nil gt_iff_lt ge_iff_le
attribute [go_sem] aM Bool.and_true Bool.and_self beq_self_eq_true
theorem jk(ν:Nat→Nm)(b:Nat):¬Own ν (cX []) b:=by
 rintro⟨k,e,h,_⟩
 cases k<;>simp[cX] at h
section
variable{P:Program}{X:Cx}{vs:List Value}{e:TypeId}{xs:List (List D)}{rest:List PV}
theorem Sb(hr:tI 0 rest=true)(hs:Sat P X X.ν0 ⟨.acc 0::rest,[some (.acc e xs)]⟩ ⟨⟨vs⟩,[]⟩ X.w0) :
 Sat P ⟨X.w0,Own X.ν0 (cX []),X.ν0,cX [],X.Z⟩ X.ν0 ⟨.d (.dP xs)::rest,[]⟩ ⟨⟨vs⟩,[]⟩ X.w0:=by
 have hw:∀b,ct X X.ν0 (G.at ⟨.acc 0::rest,[some (.acc e xs)]⟩) b→b<X.w0.heap.size→ct ⟨X.w0,Own X.ν0 (cX []),X.ν0,cX [],X.Z⟩ X.ν0 (G.at ⟨.d (.dP xs)::rest,[]⟩) b∧X.w0.heap[b]?=X.w0.heap[b]?:=fun b hb _=>⟨⟨jk _ b,hb.2⟩,rfl⟩
 have k9:∀k,G.at ⟨.d (.dP xs)::rest,[]⟩ k=none:=fun _=>rfl
 refine⟨hs.size,fun t=>?_,fun k e h=>?_,fun k k' e e' b h=>?_,fun b hb=>?_,fun k h=>?_,fun k h=>?_,⟨fun b hb=>?_,hs.kt rfl fun b hb=>(jk _ b hb).elim⟩,rZ.refl _ _,rfl⟩
 ·cases t with
  | zero=>
    have h:=hs.sl 0
    simp only[nth,aF] at h⊢
    rw[h.2]
    obtain⟨us,h1,h2,h3,_⟩:=hs.en 0 (.acc e xs) rfl
    exact wu h1 h2 h3 (fun b hb=>⟨jk _ b,hs.KM ⟨0,_,rfl,rfl,.inl hb⟩⟩) hw
  | succ t=>
    have h:=hs.sl (t+1)
    simp only[nth] at h⊢
    have hl:∀(ps:List PV)(t:Nat),tI 0 ps=true→(nth ps t).lt 0=true:=by
     intro ps
     induction ps with
     | nil=>intro t _;rfl
     | cons p ps ih=>
       intro t h
       simp only[tI,ai] at h
       cases t with
       | zero=>exact h.1
       | succ t=>exact ih t h.2
    exact aF.NZ hw _ _ (hl rest t hr) h
 ·rw[k9] at h;cases h
 ·rw[k9] at h;cases h
 ·exact(jk _ b hb).elim
 ·rw[k9] at h;cases h
 ·cases k<;>simp[cX] at h
 ·exact⟨(hs.D5 b hb).1,jk _ b⟩
theorem TT{f:FuncId}{e':TypeId}{ys:List (List D)}(hr:tI 0 rest=true)(hC:C P f (.d (.dP xs)::rest) [] (bM (.acc 0) [some (.acc e' ys)])):C P f (.acc 0::rest) [some (.acc e xs)] (bM (.acc 1) [some .dead,some (.acc e' ys)]):=by
 refine⟨hC.1,fun X vs ju hO hs=>?_⟩
 refine(hC.2 _ vs rfl rfl (Sb hr hs)).mono ?_
 rintro ex w' ⟨v,_,_,ν',rfl,⟨rfl,rfl⟩,gD⟩
 refine⟨v,_,_,fun|0=>X.ν0 0|k+1=>ν' k,rfl,⟨rfl,rfl⟩,?_⟩
 have k9:∀k e,G.at ⟨[.acc 1],[some .dead,some (.acc e' ys)]⟩ k=some e→e.live=true→k=1∧e= .acc e' ys:=by
  intro k e h hl
  match k,h with
  | 0,h=>
    obtain rfl:En.dead=e:=by simpa[G.at,cX] using h
    cases hl
  | 1,h=>exact⟨rfl,by simpa[G.at,cX] using h.symm⟩
  | k+2,h=>simp[G.at,cX] at h
 have il:∀b,Own (fun|0=>X.ν0 0|k+1=>ν' k) (G.at ⟨[.acc 1],[some .dead,some (.acc e' ys)]⟩) b↔Own ν' (G.at ⟨[.acc 0],[some (.acc e' ys)]⟩) b:=by
  intro b
  constructor
  ·rintro⟨k,e,h,hl,hb⟩
   obtain⟨rfl,rfl⟩:=k9 k e h hl
   exact⟨0,_,rfl,rfl,hb⟩
  ·rintro⟨k,e,h,hl,hb⟩
   match k,h with
   | 0,h=>
     obtain rfl:En.acc e' ys=e:=by simpa[G.at,cX] using h
     exact⟨1,_,rfl,rfl,hb⟩
   | k+1,h=>simp[G.at,cX] at h
 have hw:∀b,ct (⟨X.w0,Own X.ν0 (cX []),X.ν0,cX [],X.Z⟩:Cx) ν' (G.at ⟨[.acc 0],[some (.acc e' ys)]⟩) b→b<w'.heap.size→ct X (fun|0=>X.ν0 0|k+1=>ν' k) (G.at ⟨[.acc 1],[some .dead,some (.acc e' ys)]⟩) b∧w'.heap[b]?=w'.heap[b]?:=fun b hb _=>⟨⟨fun h=>hb.1 ((il b).1 h),hb.2⟩,rfl⟩
 refine⟨rfl,fun t=>?_,fun k e h=>?_,fun k k' e e2 b h1 h2 hl hl2 _ _=>?_,fun b hb=>?_,fun k h=>?_,fun k h=>?_,hs.D5,gD.zk.mono fun b hb _=>(jk _ b hb).elim,rfl⟩
 ·cases t with
  | zero=>
    have h:=gD.sl 0
    simp only[nth,aF] at h⊢
    exact⟨rfl,h.2⟩
  | succ t=>exact trivial
 ·match k,h with
  | 0,h=>
    obtain rfl:En.dead=e:=by simpa[G.at,cX] using h
    exact trivial
  | 1,h=>
    obtain rfl:En.acc e' ys=e:=by simpa[G.at,cX] using h
    obtain⟨us,h1,h2,h3⟩:=gD.en 0 _ rfl
    exact⟨us,h1,h2.frame hw (aI _),h3⟩
  | k+2,h=>simp[G.at,cX] at h
 ·rw[(k9 k e h1 hl).1,(k9 k' e2 h2 hl2).1]
 ·rcases gD.base b ((il b).1 hb) with h|h
  ·exact(jk _ b h).elim
  ·exact .inr h
 ·match k,h with
  | 0,_=>exact hs.nu 0 rfl
  | 1,_=>exact gD.nu 0 rfl
  | k+2,h=>simp[G.at,cX] at h
 ·rw[ju] at h
  match k,h with
  | 0,_=>exact⟨rfl,rfl⟩
  | k+1,h=>simp[cX] at h
end
def zJ(M:List Nat):List Nat→Nat
 | []=>0
 | j::js=>Nat.lor (Nat.lor (Nat.pow 2 j) (M.getD j 0)) (zJ M js)
def WQ:List Oper→List Nat→List Nat
 | [],M=>M
 | o::os,M=>WQ os (M++[zJ M (ly o)])
def RJ(b k:Nat):Bool:=ja (Nat.land (Nat.shiftRight b k) 1) 1
def Ed(b:Nat)(y:Ky):Nat→List Ky→Bool
 | _,[]=>true
 | j,x::xs=>(RJ b j|| !(x.yI y))&&Ed b y (j+1) xs
def Eo(M:List Nat):Nat→List Ky→List Ky→Bool
 | _,_,[]=>true
 | i,pre,y::ys=>Ed (M.getD i 0) y 0 pre&&Eo M (i+1) (pre++[y]) ys
def J3(os:List Oper)(L:List Ky):Bool:=UW 0 os&&Eo (WQ os []) 0 [] L
theorem Er(b k:Nat):RJ b k=b.testBit k:=by
 simp only[RJ,Nat.testBit]
 have h:Nat.land (Nat.shiftRight b k) 1=(b >>> k) &&& 1:=rfl
 rw[h,Nat.and_comm 1 (b >>> k),Nat.and_one_is_mod]
 rcases Nat.mod_two_eq_zero_or_one (b >>> k) with h2|h2<;>rw[h2]<;>rfl
def Cor(T:List (List Nat))(M:List Nat):Prop:=T.length=M.length∧∀j k,w6 k (T.getD j [])=RJ (M.getD j 0) k
theorem L6{a b:Bool}(h:a=true↔b=true):a=b:=by
 cases a<;>cases b<;>simp_all
theorem SN(k j:Nat)(l:List Nat):w6 k (j::l)=(decide (j=k)||w6 k l):=by
 apply L6
 simp only[qm,ay,gi,decide_eq_true_eq]
 exact⟨fun h=>h.imp Eq.symm id,fun h=>h.imp Eq.symm id⟩
theorem VY(k:Nat)(l l':List Nat):w6 k (l++l')=(w6 k l||w6 k l'):=by
 apply L6
 simp only[qm,List.mem_append,gi]
theorem FN{T:List (List Nat)}{M:List Nat}(h:Cor T M)(k:Nat):∀(js:List Nat),w6 k (uF T js)=RJ (zJ M js) k
 | []=>by
   simp only[uF,zJ,Er,Nat.zero_testBit]
   rfl
 | j::js=>by
   have e:Nat.lor (Nat.lor (Nat.pow 2 j) (M.getD j 0)) (zJ M js)=(2 ^ j ||| M.getD j 0) ||| zJ M js:=rfl
   simp only[uF,zJ,e,SN,VY,FN h k js,h.2 j k]
   simp only[Er,Nat.testBit_or,Nat.testBit_two_pow,Bool.or_assoc]
theorem MD:∀(os:List Oper){T:List (List Nat)}{M:List Nat},Cor T M→Cor (Bm os T) (WQ os M)
 | [],_,_,h=>h
 | o::os,T,M,h=>by
   simp only[Bm,WQ]
   refine MD os ⟨by simp[h.1],fun j k=>?_⟩
   rcases Nat.lt_trichotomy j T.length with hj|hj|hj
   ·have hj':j<M.length:=by rw[←h.1];exact hj
    have:=h.2 j k
    rw[az,az] at this⊢
    rwa [bj hj,bj hj']
   ·subst hj
    have hM:M.length≤T.length:=by rw[h.1];exact aI _
    rw[az,az,bu (aI _),bu hM,←h.1]
    simp only[km,List.getElem?_cons_zero,Option.getD_some]
    exact FN h k _
   ·have hj':M.length<j:=by rw[←h.1];exact hj
    rw[az,az,bq (by simp;omega),bq (by simp;omega)]
    simp only[aZ,Er,Nat.zero_testBit]
    rfl
theorem Gg{b:List Nat}{c:Nat}(h:∀k,w6 k b=RJ c k)(y:Ky):∀(j:Nat)(l:List Ky),Ed c y j l=B9 b y j l
 | _,[]=>rfl
 | j,x::xs=>by simp only[Ed,B9,h,Gg h y (j+1) xs]
theorem Fh{T:List (List Nat)}{M:List Nat}(h:Cor T M):∀(i:Nat)(pre l:List Ky),Eo M i pre l=BP T i pre l
 | _,_,[]=>rfl
 | i,pre,y::ys=>by simp only[Eo,BP,Gg (h.2 i),Fh h (i+1)]
theorem Cu{os:List Oper}{L:List Ky}(h:J3 os L=true):indep os L=true:=by
 simp only[J3,ai] at h
 simp only[indep,ai]
 refine⟨h.1,?_⟩
 rw[←Fh (MD os (T:=[]) (M:=[]) ⟨rfl,fun j k=>?_⟩)]
 ·exact h.2
 ·simp only[List.getD_nil,Er,Nat.zero_testBit]
  rfl
theorem aY{os:List Oper}{L:List Ky}{p:Prop}(h:J3 os L=true)(hp:p):indep os L=true∧p:=⟨Cu h,hp⟩
theorem ik.nth{g:G}{ks:List Nat}:∀{ps qs:List PV},ik g ks ps qs→∀t,Vw g ks (nth ps t) (nth qs t)
 | _,_,.nil,t=>by cases t<;>exact .same rfl
 | _,_,.cons h _,0=>h
 | _,_,.cons _ h',t+1=>ik.nth h' t
theorem ik.len{g:G}{ks:List Nat}:∀{ps qs:List PV},ik g ks ps qs→qs.length=ps.length
 | _,_,.nil=>rfl
 | _,_,.cons _ h'=>by simp only[a8,ik.len h']
section
variable{P:Program}{X:Cx}{vs:List Value}{e:TypeId}{xs:List (List D)}
theorem PA{args args':List PV}(hv:ik ⟨args,[some (.acc e xs)]⟩ [0] args args')(hs:Sat P X X.ν0 ⟨args,[some (.acc e xs)]⟩ ⟨⟨vs⟩,[]⟩ X.w0) :
 Sat P ⟨X.w0,Own X.ν0 (cX []),X.ν0,cX [],X.Z⟩ X.ν0 ⟨args',[]⟩ ⟨⟨vs⟩,[]⟩ X.w0:=by
 have hw:∀b,ct X X.ν0 (G.at ⟨args,[some (.acc e xs)]⟩) b→b<X.w0.heap.size→ct ⟨X.w0,Own X.ν0 (cX []),X.ν0,cX [],X.Z⟩ X.ν0 (G.at ⟨args',[]⟩) b∧X.w0.heap[b]?=X.w0.heap[b]?:=fun b hb _=>⟨⟨jk _ b,hb.2⟩,rfl⟩
 have il:∀b,Own X.ν0 (G.at ⟨args,[some (.acc e xs)]⟩) b→ct ⟨X.w0,Own X.ν0 (cX []),X.ν0,cX [],X.Z⟩ X.ν0 (G.at ⟨args',[]⟩) b:=fun b hb=>⟨jk _ b,hs.KM hb⟩
 have k9:∀k,G.at ⟨args',[]⟩ k=none:=fun _=>rfl
 refine⟨hs.size.trans hv.len.symm,fun t=>aF.vw hs hw il _ (hv.nth t) (hs.sl t),fun k e h=>?_,fun k k' e e' b h=>?_,fun b hb=>?_,fun k h=>?_,fun k h=>?_,⟨fun b hb=>?_,hs.kt rfl fun b hb=>(jk _ b hb).elim⟩,rZ.refl _ _,rfl⟩
 ·rw[k9] at h;cases h
 ·rw[k9] at h;cases h
 ·exact(jk _ b hb).elim
 ·rw[k9] at h;cases h
 ·cases k<;>simp[cX] at h
 ·exact⟨(hs.D5 b hb).1,jk _ b⟩
theorem tH{f:FuncId}{res:PV}{args args':List PV}(hv:ik ⟨args,[some (.acc e xs)]⟩ [0] args args')(hres:res.lt 0=true)(hC:C P f args' [] (bM res [])):C P f args [some (.acc e xs)] (bM res [some .dead]):=by
 refine⟨hC.1,fun X vs ju hO hs=>?_⟩
 refine(hC.2 _ vs rfl rfl (PA hv hs)).mono ?_
 rintro ex w' ⟨v,r,s,ν',rfl,⟨e1,e2⟩,gD⟩
 rw[e1,e2] at gD
 refine⟨v,_,_,X.ν0,rfl,⟨rfl,rfl⟩,?_⟩
 have hno:∀b,¬Own X.ν0 (G.at ⟨[res],[some .dead]⟩) b:=by
  rintro b ⟨k,e,h,hl,_⟩
  match k,h with
  | 0,h=>
    obtain rfl:En.dead=e:=by simpa[G.at,cX] using h
    cases hl
  | k+1,h=>simp[G.at,cX] at h
 refine⟨rfl,fun t=>?_,fun k e h=>?_,fun k k' e e' b h1 h2 hl=>?_,fun b hb=>(hno b hb).elim,fun k h=>?_,fun k h=>?_,hs.D5,gD.zk.mono fun b hb _=>(jk _ b hb).elim,rfl⟩
 ·cases t with
  | zero=>
    have h:=gD.sl 0
    simp only[nth] at h⊢
    have hw:∀b,ct (⟨X.w0,Own X.ν0 (cX []),X.ν0,cX [],X.Z⟩:Cx) ν' (G.at ⟨[res],[]⟩) b→b<w'.heap.size→ct X X.ν0 (G.at ⟨[res],[some .dead]⟩) b∧w'.heap[b]?=w'.heap[b]?:=fun b hb _=>⟨⟨hno b,hb.2⟩,rfl⟩
    exact aF.NZ hw _ _ hres h
  | succ t=>exact trivial
 ·match k,h with
  | 0,h=>
    obtain rfl:En.dead=e:=by simpa[G.at,cX] using h
    exact trivial
  | k+1,h=>simp[G.at,cX] at h
 ·match k,h1 with
  | 0,h1=>
    obtain rfl:En.dead=e:=by simpa[G.at,cX] using h1
    cases hl
  | k+1,h1=>simp[G.at,cX] at h1
 ·match k,h with
  | 0,_=>exact hs.nu 0 rfl
  | k+1,h=>simp[G.at,cX] at h
 ·rw[ju] at h
  match k,h with
  | 0,_=>exact⟨rfl,rfl⟩
  | k+1,h=>simp[cX] at h
end
section
variable{E:Env}{g:G}{d:Nat}{ty:TypeId}{pos:String}{eG:Array Edge}{gd:Option (Nat×Bool)}
theorem JO{P:Program}(w:World)(n:Nat)(t e:TypeId)(a:Option Addr)(l c:Nat)(h:P.underlying t=some (.slice e)):(Op.equalIn (n+1) t (.slice a l c) (.slice none 0 0)).run P w= .ok a.isNone w:=by
 cases a<;>simp[Op.equalIn,run_underlying h]
theorem NX{P:Program}(w:World)(t e:TypeId)(a:Option Addr)(l c:Nat)(h:P.underlying t=some (.slice e)):(Op.equal t (.slice a l c) (.slice none 0 0)).run P w= .ok a.isNone w:=JO w 9999 t e a l c h
theorem Uo(x:Operand)(t e u:TypeId)(ti:TI)(b:Bool)(ht:E.ti t=some ti)(kD:ti.ty= .slice e)(hp:∀(w:World)(ok:Nat→Prop)(ν:Nat→Nm)(st:Nat→Option En)(v:Value),aF w ok ν st (g.ev x) v→∃a n c,v= .slice a n c∧a.isNone=b) :
 kG E.P ⟨some d,.binOp .eql t x (.const (.slice none 0 0)) u,ty,pos,eG,gd⟩ g ⟨da x,[]⟩ ⟨some (d,.d (.val (.bool b))),[]⟩:=by
 intro g2 hg
 have h1:=hg.ev (x:=x) (fun t h=>h)
 refine CS.val rfl fun X ν a w hs=>?_
 have hv:=hs.ev x
 rw[h1] at hv
 obtain⟨ad,n,c,hva,hb⟩:=hp _ _ _ _ _ hv
 have h:=(E.ok t ti ht).ty
 rw[kD] at h
 refine⟨.bool b,?_,nN rfl⟩
 have he:a.eval (.const (.slice none 0 0))= .slice none 0 0:=rfl
 simp[execOp,hva,he,eqGuard,binOp,NX w t e ad n c h,hb]
theorem Iz:∀(w:World)(ok:Nat→Prop)(ν:Nat→Nm)(st:Nat→Option En)(v:Value),aF w ok ν st .bZ v→∃a n c,v= .slice a n c∧a.isNone=true:=by
 intro w ok ν st v h
 simp only[aF] at h
 exact⟨_,_,_,h,rfl⟩
theorem IL(ad:Addr)(n c:Nat):∀(w:World)(ok:Nat→Prop)(ν:Nat→Nm)(st:Nat→Option En)(v:Value),aF w ok ν st (.d (.val (.slice (some ad) n c))) v→∃a n c,v= .slice a n c∧a.isNone=false:=by
 intro w ok ν st v h
 exact⟨_,_,_,fL h,rfl⟩
theorem Ir{x:List D}{xs:List (List D)}:∀(w:World)(ok:Nat→Prop)(ν:Nat→Nm)(st:Nat→Option En)(v:Value),aF w ok ν st (.d (.dP (x::xs))) v→∃a n c,v= .slice a n c∧a.isNone=false:=by
 intro w ok ν st v h
 simp only[aF] at h
 cases h with
 | dP=>exact⟨_,_,_,rfl,rfl⟩
theorem JA{m:Option (List Ky)}{gs:Option Nat}{rest:qO→Option (List Ky)→G→Prop}{x:Operand}{t u:TypeId}(e:TypeId)(ti:TI)(b:Bool)(ht:E.ti t=some ti)(kD:ti.ty= .slice e){p:PV}(hx:g.ev x=p)(hp:∀(w:World)(ok:Nat→Prop)(ν:Nat→Nm)(st:Nat→Option En)(v:Value),aF w ok ν st p v→∃a n c,v= .slice a n c∧a.isNone=b)
 (hr:rest .on (mz m (oe (tR gs ⟨da x,[]⟩) ⟨some (d,.d (.val (.bool b))),[]⟩)) (g.app ⟨some (d,.d (.val (.bool b))),[]⟩)):sq E m gs ⟨some d,.binOp .eql t x (.const (.slice none 0 0)) u,ty,pos,eG,gd⟩ g rest:=
 fe (Uo x t e u ti b ht kD (by rw[hx];exact hp)) hr
end
theorem Qt{P:Program}{f:FuncId}{R:PV→List (Option En)→Prop}(h1:C P f [.bZ] [] R)(h2:∀a c,C P f [.d (.val (.slice (some a) 0 c))] [] R):C P f [.d (.dP [])] [] R:=by
 refine⟨h1.1,fun X vs ju hO hs=>?_⟩
 have hsz:=hs.size
 obtain⟨v,rfl⟩:=List.length_eq_one_iff.1 (show vs.length=1 by simpa using hsz)
 have h0:=hs.sl 0
 have h0:hU X.w0 (ct X X.ν0 (G.at ⟨[.d (.dP [])],[]⟩)) (.dP []) v:=h0
 have key:∀p:PV,aF X.w0 (ct X X.ν0 (G.at ⟨[p],[]⟩)) X.ν0 (G.at ⟨[p],[]⟩) p v→Sat P X X.ν0 ⟨[p],[]⟩ ⟨⟨[v]⟩,[]⟩ X.w0:=fun p hp=>
  ⟨rfl,fun t=>by
   match t with
   | 0=>exact hp
   | t+1=>simp only[nth,aF],hs.en,hs.inj,hs.base,hs.nu,hs.par,hs.D5,hs.zk,rfl⟩
 cases h0 with
 | nil=>exact h1.2 X _ ju hO (key .bZ rfl)
 | emp a c h=>exact(h2 a c).2 X _ ju hO (key _ (nN rfl))
 | dP _ us b off cap sz eP hb jO hmax hB hlu hxx hu hc jf=>exact(h2 _ cap).2 X _ ju hO (key _ (nN rfl))
theorem wq(z:Array Value)(hz:0<z.toList.length)(n:Nat):(Builtin.zeroCells z n).toList=(aW n z.toList).flatten:=Je z.toList hz n
theorem wL{P:Program}(w:World)(t e ty:TypeId)(ht:P.underlying t=some (.slice e))(a:Option Addr)(c:Nat):(Builtin.clear_ #[t] ty #[.slice a 0 c]).run P w= .ok (.tuple #[]) w:=by
 cases a<;>simp[Builtin.clear_,run_underlying ht]
theorem Hh{P:Program}(w:World)(t e ty:TypeId)(z:Value)(ht:P.underlying t=some (.slice e))(hv:(zeroValue e).run P w= .ok z w)(b o n c:Nat)(hn:n≠0)(hz:0<z.cells.toList.length)
 (cur:Array Value) (T:TypeId) (hg:w.heap[b]?=some (.cells cur T (0,0))) (hl:o+(aW n z.cells.toList).flatten.length≤cur.size) (h1:∀v∈(aW n z.cells.toList).flatten,v.oneCell'=true) :
 (Builtin.clear_ #[t] ty #[.slice (some ⟨b,o,none⟩) n c]).run P w= .ok (.tuple #[]) (w.setRow b (cur.toList.take o++(aW n z.cells.toList).flatten++cur.toList.drop (o+(aW n z.cells.toList).flatten.length)).toArray):=by
 have ju:=run_storeCells_at (P:=P) b o T (aW n z.cells.toList).flatten 0 cur w hg (by omega) h1
 simp only[gV] at ju
 obtain⟨m,rfl⟩:∃m,n=m+1:=⟨n-1,by omega⟩
 rw[←wq z.cells hz] at ju⊢
 simp[Builtin.clear_,run_underlying ht,hv,ju]
section
variable{E:Env}{X:Cx}{ν:Nat→Nm}{g:G}{a:Act}{w:World}
def MQ(z:List D)(xs:List (List D))(m:Nat):List (List D):=xs.take m++aW (xs.length-m) z
theorem Uz{t e k m dd:Nat}{ty:TypeId}{pos:String}{eG:Array Edge}{gd:Option (Nat×Bool)}{xs:List (List D)}{z:List D}{ti ei:TI}(ht:E.ti t=some ti)(kD:ti.ty= .slice e)(he:E.ti e=some ei)(hz:zd ei.zero=some z)
 (hk:g.at k=some (.acc e xs)) (hm:m≤xs.length) (n c:Nat) (a0:Option Addr) (hν:(ν k).v= .slice a0 n c) (hv:a.eval (.tmp dd)=sliced a0 m n c ei.n)
 (hs:Sat E.P X ν g a w) (next:Act→World→Prop) (Q:Exit→Act→World→Prop) (hn:∀ν' a' w',Sat E.P X ν' ⟨g.sl,cZ g.st k (some (.acc e (MQ z xs m)))⟩ a' w'→next a' w') :
 (⟨none,.call ⟨.builtin .clear,#[.tmp dd],#[t]⟩,ty,pos,eG,gd⟩:Oper).wp E.P a w next Q:=by
 have hu:=(E.ok t ti ht).ty
 rw[kD] at hu
 obtain⟨i,zv,i1,i2,i3,i4,i5,i6⟩:=(E.ok e ei he).info
 have hpos:=(E.ok e ei he).pos
 have hzl:zv.cells.toList.length=ei.n:=by simpa using i6
 have hzv:(zeroValue e).run E.P w= .ok zv w:=by simp[zeroValue,typeInfo,i1,i4]
 obtain⟨us,ho,jf,hB,hf0⟩:=hs.en k _ hk
 rw[(E.ok e ei he).cells] at jf ho
 have hul:us.length=xs.length:=jf.len
 have hfl:=jf.kT
 have key:∀(w':World)(us':List (List Value)),(execOp a.eval ⟨none,.call ⟨.builtin .clear,#[.tmp dd],#[t]⟩,ty,pos,eG,gd⟩).run E.P w= .ok (.value (.tuple #[])) w'→rZ (fun b=>(ν k).has b) w w' →
  (w'.ownsRow 0 e ei.n (ν k).v (MQ z xs m).length us'.flatten)→cg w (ct X ν g.at) ei.n (MQ z xs m) us' →
  (⟨none,.call ⟨.builtin .clear,#[.tmp dd],#[t]⟩,ty,pos,eG,gd⟩:Oper).wp E.P a w next Q:=by
  intro w' us' hr rn qD oh
  unfold Oper.wp
  rw[hr,Oper.upon_value]
  refine hn _ _ _ (hs.Cj k (.acc e xs) (.acc e (MQ z xs m)) hk rfl rn none .undef Go.undef ?_ (fun h=>by cases h))
  intro hwf _
  refine⟨us',?_,?_,by simp[MQ];omega,hf0⟩
  ·rw[(E.ok e ei he).cells]
   exact qD
  ·rw[(E.ok e ei he).cells]
   exact oh.frame hwf rn.size
 have hex:∀(v:Value)(w':World),(Builtin.clear_ #[t] ty #[a.eval (.tmp dd)]).run E.P w= .ok v w'→(execOp a.eval ⟨none,.call ⟨.builtin .clear,#[.tmp dd],#[t]⟩,ty,pos,eG,gd⟩).run E.P w= .ok (.value v) w':=by
  intro v w' h
  unfold execOp
  simp only[resolve,invoke,builtin,Sem.run_bind,Sem.run_pure,Result.andThen_ok,List.map_toArray,aQ,dt,h]
 rcases ho.2 with⟨h1,h2⟩|⟨b,cap,cur,h1,_,h2,h4,h5,h6,h7⟩
 ·rw[h1] at hν
  obtain⟨rfl,rfl,rfl⟩:none=a0∧0=n∧0=c:=by simpa using hν
  have hm0:m=0:=by omega
  subst hm0
  have hxs:xs=[]:=List.eq_nil_of_length_eq_zero h2
  subst hxs
  refine key w us (hex _ _ ?_) (rZ.refl _ w) ?_ ?_
  ·rw[hv]
   exact wL w t e ty hu _ _
  ·exact ho
  ·exact jf
 ·rw[h1] at hν
  obtain⟨rfl,rfl,rfl⟩:some ⟨b,0,none⟩=a0∧xs.length=n∧cap=c:=by simpa using hν
  by_cases mr:m=xs.length
  ·refine key w us (hex _ _ ?_) (rZ.refl _ w) ?_ ?_
   ·rw[hv]
    unfold sliced
    rw[mr,km]
    exact wL w t e ty hu _ _
   ·simpa[MQ,mr] using ho
   ·simpa[MQ,mr] using jf
  ·have hzr:aB w (ct X ν g.at) ν g.at (cF z) zv.cells.toList:=wD (uv _ _ _ _ zv.cells.toList) (by rw[i5];exact hz)
   obtain⟨hz1,hz2⟩:=AE hzr
   have hrep0:cg w (ct X ν g.at) ei.n (aW (xs.length-m) z) (aW (xs.length-m) zv.cells.toList):=cg.replicate _ (by rw[←hz1];exact hzl) hzl hz2
   have oh:cg w (ct X ν g.at) ei.n (MQ z xs m) (us.take m++aW (xs.length-m) zv.cells.toList):=by
    have:=jf.cut 0 m
    simp only[mO] at this
    exact this.append hrep0
   have hmul:m*ei.n≤xs.length*ei.n:=bP _ hm
   have hZ:(aW (xs.length-m) zv.cells.toList).flatten.length=(xs.length-m)*ei.n:=hrep0.kT.trans (by simp)
   have hsum:m*ei.n+(xs.length-m)*ei.n=xs.length*ei.n:=by rw[←Nat.add_mul];congr 1;omega
   have jO:xs.length*ei.n≤cap*ei.n:=bP _ h4
   have lD:=Hh (P:=E.P) w t e ty zv hu hzv b (m*ei.n) (xs.length-m) (cap-m) (by omega) (by omega) cur e h2 (by rw[hZ,hsum,h6];exact jO) hrep0.one
   have hval:a.eval (.tmp dd)= .slice (some ⟨b,m*ei.n,none⟩) (xs.length-m) (cap-m):=by
    rw[hv]
    unfold sliced
    rw[if_neg (by omega),du,add_lit,c9]
   refine key _ _ (hex _ _ (by rw[hval];exact lD)) (kq w b _ _ ((kg hf0).2 (by rw[h1];rfl))) ?_ oh
   have htake:cur.toList.take (m*ei.n)=(us.take m).flatten:=by
    have:=rH us 0 m jf.hu (by omega)
    simp only[mO,Nat.zero_mul] at this
    rw[this,←h7,List.take_take,Nat.min_eq_left hmul]
   have hnew:cur.toList.take (m*ei.n)++(aW (xs.length-m) zv.cells.toList).flatten=(us.take m++aW (xs.length-m) zv.cells.toList).flatten:=by rw[htake,List.flatten_append]
   have hnl:(us.take m++aW (xs.length-m) zv.cells.toList).flatten.length=(MQ z xs m).length*ei.n:=oh.kT
   have hcl:(MQ z xs m).length=xs.length:=by simp[MQ];omega
   rw[h1]
   refine⟨hnl,.inr ⟨b,cap,_,by rw[hcl],Nat.zero_le _,setRow_heap w b _ _ e _ h2,by rw[hcl];exact h4,h5,?_,?_⟩⟩
   ·rw[hnew]
    simp only[List.size_toArray,List.length_append,hnl,hcl,List.length_drop,Array.length_toList,h6,hZ,hsum]
    omega
   ·rw[hnew,hcl]
    simp only
    rw[bW (by rw[hnl,hcl];exact aI _),ao (by rw[hnl,hcl];exact aI _)]
end
theorem Tu(z:List D)(xs:List (List D))(m:Nat)(h:m≤xs.length):(MQ z xs m).take m=xs.take m:=by
 have e:(xs.take m).length=m:=by simp;omega
 rw[MQ,bW (by omega),ao (by omega)]
theorem Xt(z:List D)(xs:List (List D))(m:Nat)(h:m≤xs.length):(MQ z xs m).length=xs.length:=by simp[MQ];omega
theorem YF{P:Program}{ops:Array Oper}{o1 o2:Oper}{os:List Oper}{g g':G}{K:G→Prop}(hg1:o1.guard=none)(hg2:o2.guard=none)
 (h:∀(X:Cx)(ν:Nat→Nm)(a:Act)(w:World)(next next1:Act→World→Prop)(Q:Exit→Act→World→Prop),Sat P X ν g a w→(∀ν' a' w',Sat P X ν' g' a' w'→next a' w')→(∀a1 w1,o2.wp P a1 w1 next Q→next1 a1 w1)→o1.wp P a w next1 Q)
 (hr:WO P ops os g' K):WO P ops (o1::o2::os) g K:=by
 intro i hi X ν a w Q hs hn
 have ho1:ops[i]?=some o1:=hi 0 o1 rfl
 have ho2:ops[i+1]?=some o2:=hi 1 o2 rfl
 simp only[a8,List.range'_succ,wpOps,ho1]
 have hrest:=hr (i+2) (fun j o' hj=>by have:=hi (j+2) o' (by simpa using hj);rw[show i+2+j=i+(j+2) from by omega];exact this)
 rw[if_pos (by simp[Region.wanted,hg1])]
 refine .inl (h X ν a w (wpOps P ops Q (List.range' (i+2) os.length)) _ Q hs (fun ν' a' w' hs'=>hrest X ν' a' w' Q hs' hn) fun a1 w1 h2=>?_)
 simp only[ho2]
 rw[if_pos (by simp[Region.wanted,hg2])]
 exact .inl h2
section
variable{E:Env}{g:G}{n0:Nat}
theorem Zv{ops:Array Oper}{os:List Oper}{K:G→Prop}{x lo:Operand}{t e k d:Nat}{m:Int}{ty ty2:TypeId}{pos pos2:String}{eG aft2:Array Edge}{xs:List (List D)}(z:List D)(ti ei:TI)(ht:E.ti t=some ti)(kD:ti.ty= .slice e)(he:E.ti e=some ei)(hz:zd ei.zero=some z)
 (hx:g.ev x= .acc k) (hlo:g.ev lo= .d (.val (.int .i64 m))) (hk:g.at k=some (.acc e xs)) (h0:0≤m) (hm:m≤xs.length) (hd:d<g.sl.length)
 (hr:WO E.P ops os ⟨lK g.sl d .any,cZ g.st k (some (.acc e (MQ z xs m.toNat)))⟩ K) :
 WO E.P ops (⟨some d,.slice t x (some lo) none none,ty,pos,eG,none⟩::⟨none,.call ⟨.builtin .clear,#[.tmp d],#[t]⟩,ty2,pos2,aft2,none⟩::os) g K:=by
 refine YF rfl rfl (fun X ν a w next next1 Q hs hn h2=>?_) hr
 have hu:=(E.ok t ti ht).ty
 rw[kD] at hu
 have hv:=hs.ev x
 rw[hx] at hv
 have m7:=hs.ev lo
 rw[hlo] at m7
 have m7:=fL m7
 simp only[aF] at hv
 have hsize:=(E.ok e ei he).size
 have hs1:=hs.put d (p:=.any) (v:=Go.undef) trivial
 obtain⟨us,ho,jf,hB,hf0⟩:=hs.en k _ hk
 have lD:∃n c a0,(ν k).v= .slice a0 n c∧(execOp a.eval ⟨some d,.slice t x (some lo) none none,ty,pos,eG,none⟩).run E.P w= .ok (.value (sliced a0 m.toNat n c ei.n)) w:=by
  rcases ho.2 with⟨h1,h2⟩|⟨b,cap,cur,h1,_,_,h4,_⟩
  ·refine⟨0,0,none,h1,?_⟩
   have hr:=tl (P:=E.P) w hu hsize none 0 0 (some (.int .i64 m)) none m ((0:Nat):Int) (.inr ⟨_,rfl⟩) (.inl ⟨rfl,rfl⟩) h0 (by omega) (ll _) (aI _)
   simp only[execOp,hv.2,h1,m7,gl,du,Sem.run_bind,hr,Result.andThen_ok]
   rfl
  ·refine⟨xs.length,cap,some ⟨b,0,none⟩,h1,?_⟩
   have hr:=tl (P:=E.P) w hu hsize (some ⟨b,0,none⟩) xs.length cap (some (.int .i64 m)) none m (xs.length:Int) (.inr ⟨_,rfl⟩) (.inl ⟨rfl,rfl⟩) h0 (by omega) (ll _) h4
   simp only[bo] at hr
   simp only[execOp,hv.2,h1,m7,gl,du,Sem.run_bind,hr,Result.andThen_ok]
   rfl
 obtain⟨n,c,a0,hν,hr⟩:=lD
 unfold Oper.wp
 rw[hr,Oper.upon_value]
 refine h2 _ _ ?_
 have hs2:=hs.put d (p:=.any) (v:=sliced a0 m.toNat n c ei.n) trivial
 refine Uz (g:=⟨lK g.sl d .any,g.st⟩) ht kD he hz hk (by omega) n c a0 hν ?_ hs2 next Q hn
 show(a.put (some d) _).tmps.getD d Go.undef=_
 rw[r9,if_pos ⟨rfl,by rw[hs.size];exact hd⟩]
theorem Xm(x hi:Operand)(t e k:Nat){d:Nat}{ty:TypeId}{pos:String}{eG:Array Edge}{gd:Option (Nat×Bool)}(ti ei:TI)(xs:List (List D))(h:Int)(ht:E.ti t=some ti)(kD:ti.ty= .slice e)(he:E.ti e=some ei)
 (hx:g.ev x= .acc k) (hk:g.at k=some (.acc e xs)) (hhi:g.ev hi= .d (.val (.int .i64 h))) (h0:0≤h) (h1:h≤xs.length) :
 kG E.P ⟨some d,.slice t x none (some hi) none,ty,pos,eG,gd⟩ g ⟨da x++da hi,[k]⟩ ⟨some (d,.d (.dP (xs.take h.toNat))),[(k,.dead)]⟩:=by
 intro g2 hg
 have e1:=hg.ev (x:=x) (fun t h=>by simp[h])
 have e2:=hg.ev (x:=hi) (fun t h=>by simp[h])
 have h3:=(hg.p k (by simp)).trans hk
 intro X ν a w next Q hs hn
 have hu:=(E.ok t ti ht).ty
 rw[kD] at hu
 have hv:=hs.ev x
 rw[e1,hx] at hv
 have m7:=hs.ev hi
 rw[e2,hhi] at m7
 have m7:=fL m7
 simp only[aF] at hv
 have hsize:=(E.ok e ei he).size
 obtain⟨hn',rfl⟩:∃n:Nat,h=n:=⟨h.toNat,by omega⟩
 simp only[bo] at hn⊢
 obtain⟨us,ho,jf,hB,hf0⟩:=hs.en k _ h3
 have k9:∀j,(g2.app ⟨some (d,.d (.dP (xs.take hn'))),[(k,.dead)]⟩).at j=if j=k then some .dead else g2.at j:=fun j=>gr g2.st k (some .dead) j
 have sk:∀j e1,(g2.app ⟨some (d,.d (.dP (xs.take hn'))),[(k,.dead)]⟩).at j=some e1→e1.live=true→j≠k∧g2.at j=some e1:=by
  intro j e1 h1 h2
  rw[k9] at h1
  by_cases hj:j=k
  ·rw[if_pos hj] at h1
   cases h1;cases h2
  ·rw[if_neg hj] at h1
   exact⟨hj,h1⟩
 have il:∀b,Own ν (g2.app ⟨some (d,.d (.dP (xs.take hn'))),[(k,.dead)]⟩).at b→Own ν g2.at b:=by
  rintro b ⟨j,e1,h1,h2,h3⟩
  exact⟨j,e1,(sk j e1 h1 h2).2,h2,h3⟩
 have hw:∀b,ct X ν g2.at b→b<w.heap.size→ct X ν (g2.app ⟨some (d,.d (.dP (xs.take hn'))),[(k,.dead)]⟩).at b∧w.heap[b]?=w.heap[b]?:=fun b hb _=>⟨⟨fun ho=>hb.1 (il b ho),hb.2⟩,rfl⟩
 have lD:∃v,(execOp a.eval ⟨some d,.slice t x none (some hi) none,ty,pos,eG,gd⟩).run E.P w= .ok (.value v) w∧hU w (ct X ν (g2.app ⟨some (d,.d (.dP (xs.take hn'))),[(k,.dead)]⟩).at) (.dP (xs.take hn')) v:=by
  rcases ho.2 with⟨k1,k2⟩|⟨b,cap,cur,k1,_,k2,k4,k5,k6,k7⟩
  ·have hr:=tl (P:=E.P) w hu hsize none 0 0 none (some (.int .i64 (hn':Int))) 0 (hn':Int) (.inl ⟨rfl,rfl⟩) (.inr ⟨_,rfl⟩) (ll _) h0 (by omega) (aI _)
   obtain rfl:hn'=0:=by omega
   refine⟨.slice none 0 0,?_,by simp;exact .nil⟩
   simp only[execOp,hv.2,k1,m7,gl,du,Sem.run_bind,hr,Result.andThen_ok]
   rfl
  ·have hr:=tl (P:=E.P) w hu hsize (some ⟨b,0,none⟩) xs.length cap none (some (.int .i64 (hn':Int))) 0 (hn':Int) (.inl ⟨rfl,rfl⟩) (.inr ⟨_,rfl⟩) (ll _) h0 (by omega) k4
   simp only[bo] at hr
   refine⟨.slice (some ⟨b,0,none⟩) hn' cap,?_,?_⟩
   ·simp only[execOp,hv.2,k1,m7,gl,du,Sem.run_bind,hr,Result.andThen_ok]
    unfold sliced
    simp[add_lit]
   ·have hrr':=(jf.frame hw (aI _)).cut 0 hn'
    simp only[mO] at hrr'
    have dy:(xs.take hn').length=hn':=by simp;omega
    have hcl:=rH us 0 hn' jf.hu (by rw[jf.len];omega)
    simp only[mO,Nat.zero_mul] at hcl
    have hokb:ct X ν (g2.app ⟨some (d,.d (.dP (xs.take hn'))),[(k,.dead)]⟩).at b:=by
     refine⟨?_,hs.KM ⟨k,_,h3,rfl,.inl (by rw[k1];rfl)⟩⟩
     rintro⟨j,e1,m1,m2,m3⟩
     obtain⟨m4,m5⟩:=sk j e1 m1 m2
     exact m4 (hs.inj j k e1 _ b m5 h3 m2 rfl m3 (.inl (by rw[k1];rfl)))
    have hres:=hU.dP (w:=w) (ok:=ct X ν (g2.app ⟨some (d,.d (.dP (xs.take hn'))),[(k,.dead)]⟩).at) (xs.take hn') (us.take hn') b 0 cap (E.P.cellsOf e) hokb (pY k2) (by rw[dy];omega) k5 (by rw[dy];omega) hrr'.len hrr'.hx hrr'.hu (fun j u hj=>?_) hrr'.hr
    ·rw[dy] at hres
     exact hres
    ·rw[hcl,←k7,List.take_take] at hj
     have hj':cur.toList[j]?=some u:=by
      rw[List.getElem?_take] at hj
      split at hj
      ·exact hj
      ·cases hj
     have hj2:cur[j]?=some u:=by simpa using hj'
     simp[World.cell?,k2,hj2]
 obtain⟨v,hr,oh⟩:=lD
 unfold Oper.wp
 rw[hr,Oper.upon_value]
 refine hn ν _ _ (hs.Wd (g':=g2.app ⟨some (d,.d (.dP (xs.take hn'))),[(k,.dead)]⟩) (fun _=>False) (rZ.refl _ w) (fun _ hb=>hb.elim) ?_ ?_ ?_ ?_ ?_ ?_ ?_ rfl)
 ·intro j hj
  refine⟨rfl,?_⟩
  rw[k9]
  split
  ·rfl
  ·exact hj
 ·intro j e1 hj
  rw[k9] at hj
  by_cases lC:j=k
  ·rw[if_pos lC] at hj
   cases hj
   exact .inr trivial
  ·rw[if_neg lC] at hj
   exact .inl ⟨hj,rfl,fun _ _ _ hb=>hb⟩
 ·intro j e1 b m1 m2 m3
  exact .inl ⟨j,e1,(sk j e1 m1 m2).2,m2,m3⟩
 ·intro j j' e1 e2 b m1 m2 m3 m4 m5 m6
  exact hs.inj j j' e1 e2 b (sk j e1 m1 m3).2 (sk j' e2 m2 m4).2 m3 m4 m5 m6
 ·intro j hj
  rw[k9] at hj
  by_cases lC:j=k
  ·exact .inl (by rw[lC,h3];rfl)
  ·rw[if_neg lC] at hj
   exact .inl hj
 ·simp[G.app,tN,size_put,jt,hs.size]
 ·intro t
  simp only[G.app,tN,r9,nr,hs.size]
  by_cases hc:t=d∧d<g2.sl.length
  ·simp only[hc,and_self,if_true]
   refine .inr ?_
   simp only[aF]
   exact oh
  ·simp only[hc,if_false]
   exact .inl ⟨trivial,trivial⟩
def onQ(Q:Ex→G→Prop):qO→Ex→G→Prop
 | .on=>Q
 | .off=>fun _ _=>False
theorem dR(Q:Ex→G→Prop)(e:Ex)(g:G):onQ Q .on e g=Q e g:=rfl
theorem iQ(hm:E.P.follows .mixedOrders=true){c:Code}{Q:Ex→G→Prop}(h:Ly E n0 c .on g (onQ Q)):W E.P n0 c g Q:=Pn hm c g _ h
theorem dK(K:G→Prop)(Q:Ex→G→Prop)(g:G):QS K Q .normal g=K g:=rfl
theorem W5(K:G→Prop)(Q:Ex→G→Prop)(i:Nat)(g:G):QS K Q (.exit i) g=Q (.exit i) g:=rfl
theorem xV(K:G→Prop)(Q:Ex→G→Prop)(g:G):QS K Q .ret g=Q .ret g:=rfl
theorem Iu{P:Program}(t k e:Nat)(xs:List (List D))(ht:nth g.sl t= .acc k)(hk:g.at k=some (.acc e xs)):qj P n0 g ⟨lK g.sl t (.d (.dP xs)),cZ g.st k (some .dead)⟩:=by
 intro X ν a w _ hs
 refine⟨ν,?_⟩
 obtain⟨us,ho,jf,hB,hf0⟩:=hs.en k _ hk
 have k9:∀j,(⟨lK g.sl t (.d (.dP xs)),cZ g.st k (some .dead)⟩:G).at j=if j=k then some .dead else g.at j:=fun j=>gr g.st k (some .dead) j
 have sk:∀j e1,(⟨lK g.sl t (.d (.dP xs)),cZ g.st k (some .dead)⟩:G).at j=some e1→e1.live=true→j≠k∧g.at j=some e1:=by
  intro j e1 h1 h2
  rw[k9] at h1
  by_cases hj:j=k
  ·rw[if_pos hj] at h1
   cases h1;cases h2
  ·rw[if_neg hj] at h1
   exact⟨hj,h1⟩
 have il:∀b,Own ν (⟨lK g.sl t (.d (.dP xs)),cZ g.st k (some .dead)⟩:G).at b→Own ν g.at b:=by
  rintro b ⟨j,e1,h1,h2,h3⟩
  exact⟨j,e1,(sk j e1 h1 h2).2,h2,h3⟩
 have hw:∀b,ct X ν g.at b→b<w.heap.size→ct X ν (⟨lK g.sl t (.d (.dP xs)),cZ g.st k (some .dead)⟩:G).at b∧w.heap[b]?=w.heap[b]?:=fun b hb _=>⟨⟨fun ho=>hb.1 (il b ho),hb.2⟩,rfl⟩
 have oh:hU w (ct X ν (⟨lK g.sl t (.d (.dP xs)),cZ g.st k (some .dead)⟩:G).at) (.dP xs) (ν k).v:=by
  refine wu ho jf hB (fun b hb=>⟨?_,hs.KM ⟨k,_,hk,rfl,.inl hb⟩⟩) hw
  rintro⟨j,e1,m1,m2,m3⟩
  obtain⟨m4,m5⟩:=sk j e1 m1 m2
  exact m4 (hs.inj j k e1 _ b m5 hk m2 rfl m3 (.inl hb))
 refine hs.Wd (g':=⟨lK g.sl t (.d (.dP xs)),cZ g.st k (some .dead)⟩) (fun _=>False) (rZ.refl _ w) (fun _ hb=>hb.elim) ?_ ?_ ?_ ?_ ?_ ?_ ?_ rfl
 ·intro j hj
  refine⟨rfl,?_⟩
  rw[k9]
  split
  ·rfl
  ·exact hj
 ·intro j e1 hj
  rw[k9] at hj
  by_cases lC:j=k
  ·rw[if_pos lC] at hj
   cases hj
   exact .inr trivial
  ·rw[if_neg lC] at hj
   exact .inl ⟨hj,rfl,fun _ _ _ hb=>hb⟩
 ·intro j e1 b m1 m2 m3
  exact .inl ⟨j,e1,(sk j e1 m1 m2).2,m2,m3⟩
 ·intro j j' e1 e2 b m1 m2 m3 m4 m5 m6
  exact hs.inj j j' e1 e2 b (sk j e1 m1 m3).2 (sk j' e2 m2 m4).2 m3 m4 m5 m6
 ·intro j hj
  rw[k9] at hj
  by_cases lC:j=k
  ·exact .inl (by rw[lC,hk];rfl)
  ·rw[if_neg lC] at hj
   exact .inl hj
 ·simp[jt,hs.size]
 ·intro j
  simp only[nr]
  by_cases hc:j=t∧t<g.sl.length
  ·simp only[hc,and_self,if_true]
   refine .inr ?_
   have:=hs.sl t
   rw[ht] at this
   simp only[aF] at this⊢
   rw[this.2]
   exact oh
  ·simp only[hc,if_false]
   exact .inl ⟨trivial,trivial⟩
def Tt(E:Env)(rs:List ResultVar)(n0:Nat)(R:PV→List (Option En)→Prop)(g:G):Prop:=∃g',qj E.P n0 g g'∧zn E rs n0 R g'
theorem eJ{rs:List ResultVar}{R:PV→List (Option En)→Prop}(h:zn E rs n0 R g):Tt E rs n0 R g:=⟨g,qj.refl g,h⟩
theorem F0 {f : FuncId} {fn : Func} {c : Code} {args : List PV} {eQ : List (Option En)} {R : PV → List (Option En) → Prop} {nt : Nat} {rs : List ResultVar} (hf : E.P.funcs[f]? = some fn) (hb : fn.body = some c) (hname : (fn.name == "runtime.NumGoroutine") = false)
 (hnt:fn.ntmps=nt) (hrs:fn.results.toList=rs) (hn:xC (vT args) nt=true) (h:qK args→AJ eQ→W E.P (lL eQ) c ⟨dB nt .undef (VT 0 args),eQ⟩ (Pd (Tt E rs (lL eQ) R))):C E.P f args eQ R:=by
 have hn:=kU hn
 rw[ou] at hn
 rw[←QA hn,nD] at h
 refine MY hf hb hname (Tt E rs eQ.length R) (fun _ X ν a w ⟨_,hw,h1⟩ hp hs=>let ⟨_,hs'⟩:=hw X ν a w hp hs;zn.sat h1 hp hs' hrs) ?_
 rw[hnt,←zf]
 refine Ya fun h1 h2=>h ?_ h2
 have h1:qK (pad args nt):=h1
 rw[zf] at h1
 exact Cc h1
end
def yU(P:Program)(t:TypeId):Bool:=
 match P.underlying t with
 | some (.struct ⟨[f, g]⟩) => (f.name != "_" && (g.name != "_" && (f.offset == 0 && (g.offset == 1 && ((match P.underlying f.type, P.underlying g.type with | some (.int _), some (.int _) => true | _, _ => false) && (!P.stoodInHeld t && !P.eqGuardType P.depth t))))))
 | _=>false
def oi(a b c e:Int):Bool:=a == c&&b == e
theorem zg {P : Program} {t : TypeId} (h : yU P t = true) : ∃ (f g : Field) (k l : IntKind), P.underlying t = some (.struct ⟨[f, g]⟩) ∧ f.name ≠ "_" ∧ g.name ≠ "_" ∧ f.offset = 0 ∧ g.offset = 1 ∧ P.underlying f.type = some (.int k) ∧ P.underlying g.type = some (.int l) ∧ P.stoodInHeld t = false ∧ P.eqGuardType P.depth t = false := by
 unfold yU at h
 split at h
 ·rename_i f g hu
  simp only[ai,bne_iff_ne,ne_eq,beq_iff_eq,mj] at h
  obtain⟨h1,h2,h3,h4,h5,h6,h7⟩:=h
  split at h5
  ·rename_i k l hk hl
   exact⟨f,g,k,l,hu,h1,h2,h3,h4,hk,hl,h6,h7⟩
  ·cases h5
 ·cases h
theorem CG{P:Program}(w:World){t:TypeId}(h:yU P t=true)(a b c e:Int) :
 (Op.equalIn 10000 t (.agg ⟨[.int .i64 a,.int .i64 b]⟩) (.agg ⟨[.int .i64 c,.int .i64 e]⟩)).run P w= .ok (oi a b c e) w:=by
 obtain⟨f,g,k,l,hu,n1,n2,o1,o2,hf,hg,hs,_⟩:=zg h
 have hfs:P.fieldsOf t=⟨[f,g]⟩:=by simp only[Program.fieldsOf,hu]
 rw[run_equalIn_struct w 9999 t _ _ (by rw[hfs];exact hu) hs,hfs]
 have p1:P.plainKey f.type=true:=by simp[Program.plainKey,hf]
 have p2:P.plainKey g.type=true:=by simp[Program.plainKey,hg]
 have e1:=run_part_plain (P:=P) w p1 (xs:=⟨[.int .i64 a,.int .i64 b]⟩) (off:=f.offset) (v:=.int .i64 a) (by rw[o1];rfl)
 have e2:=run_part_plain (P:=P) w p1 (xs:=⟨[.int .i64 c,.int .i64 e]⟩) (off:=f.offset) (v:=.int .i64 c) (by rw[o1];rfl)
 have e3:=run_part_plain (P:=P) w p2 (xs:=⟨[.int .i64 a,.int .i64 b]⟩) (off:=g.offset) (v:=.int .i64 b) (by rw[o2];rfl)
 have e4:=run_part_plain (P:=P) w p2 (xs:=⟨[.int .i64 c,.int .i64 e]⟩) (off:=g.offset) (v:=.int .i64 e) (by rw[o2];rfl)
 have q1:(Op.equalIn 9999 f.type (.int .i64 a) (.int .i64 c)).run P w= .ok (a == c) w:=run_equalIn_int w 9998 f.type .i64 k a c hf
 have q2:(Op.equalIn 9999 g.type (.int .i64 b) (.int .i64 e)).run P w= .ok (b == e) w:=run_equalIn_int w 9998 g.type .i64 l b e hg
 simp only[Op.eqFields,n1,n2,ne_eq,not_false_eq_true,if_true,Sem.run_bind,Sem.run_ite,e1,e2,e3,e4,Result.andThen_ok,q1,q2,oi]
 cases a == c
 ·rfl
 ·simp only[kE,ax,if_false,aM,Sem.run_bind,Sem.run_ite,e3,e4,Result.andThen_ok,q2]
  cases b == e<;>rfl
section
variable{E:Env}{g:G}{d:Nat}{ty:TypeId}{pos:String}{eG:Array Edge}{gd:Option (Nat×Bool)}
theorem AD{w:World}{ok:Nat→Prop}{ν:Nat→Nm}{st:Nat→Option En}{a b:Int}{v:Value}(h:aF w ok ν st (.agg [.d (.val (.int .i64 a)),.d (.val (.int .i64 b))]) v):v= .agg ⟨[.int .i64 a,.int .i64 b]⟩:=by
 simp only[aF] at h
 obtain⟨vs,rfl,h⟩:=h
 match vs,h with
 | [v1,v2],h=>
   simp only[aB,and_true] at h
   rw[fL h.1,fL h.2]
theorem SB(x y:Operand)(t u:TypeId)(a b c e:Int)(ht:yU E.P t=true)(hx:g.ev x= .agg [.d (.val (.int .i64 a)),.d (.val (.int .i64 b))])(hy:g.ev y= .agg [.d (.val (.int .i64 c)),.d (.val (.int .i64 e))]) :
 kG E.P ⟨some d,.binOp .eql t x y u,ty,pos,eG,gd⟩ g ⟨da x++da y,[]⟩ ⟨some (d,.d (.val (.bool (oi a b c e)))),[]⟩:=by
 intro g2 hg
 have h1:=hg.ev (x:=x) (fun t h=>cY _ h)
 have h2:=hg.ev (x:=y) (fun t h=>fR _ h)
 refine CS.val rfl fun X ν act w hs=>?_
 have hv:=hs.ev x
 have m7:=hs.ev y
 rw[h1,hx] at hv
 rw[h2,hy] at m7
 have q1:=AD hv
 have q2:=AD m7
 obtain⟨_,_,_,_,_,_,_,_,_,_,_,_,hm⟩:=zg ht
 refine⟨.bool (oi a b c e),?_,nN rfl⟩
 simp[execOp,q1,q2,run_eqGuard_agg w .eql t x y _ _ hm,run_eql_struct,CG w ht]
theorem Sr(x y:Operand)(t u:TypeId)(a b c e:Int)(ht:yU E.P t=true)(hx:g.ev x= .agg [.d (.val (.int .i64 a)),.d (.val (.int .i64 b))])(hy:g.ev y= .agg [.d (.val (.int .i64 c)),.d (.val (.int .i64 e))]) :
 kG E.P ⟨some d,.binOp .neq t x y u,ty,pos,eG,gd⟩ g ⟨da x++da y,[]⟩ ⟨some (d,.d (.val (.bool (!oi a b c e)))),[]⟩:=by
 intro g2 hg
 have h1:=hg.ev (x:=x) (fun t h=>cY _ h)
 have h2:=hg.ev (x:=y) (fun t h=>fR _ h)
 refine CS.val rfl fun X ν act w hs=>?_
 have hv:=hs.ev x
 have m7:=hs.ev y
 rw[h1,hx] at hv
 rw[h2,hy] at m7
 have q1:=AD hv
 have q2:=AD m7
 obtain⟨_,_,_,_,_,_,_,_,_,_,_,_,hm⟩:=zg ht
 refine⟨.bool (!oi a b c e),?_,nN rfl⟩
 simp[execOp,q1,q2,run_eqGuard_agg w .neq t x y _ _ hm,run_neq_struct,CG w ht]
theorem Lf{m:Option (List Ky)}{gs:Option Nat}{rest:qO→Option (List Ky)→G→Prop}{x y:Operand}{t u:TypeId}(ht:yU E.P t=true){a b c e:Int}(hx:g.ev x= .agg [.d (.val (.int .i64 a)),.d (.val (.int .i64 b))])(hy:g.ev y= .agg [.d (.val (.int .i64 c)),.d (.val (.int .i64 e))])
 (hr:rest .on (mz m (oe (tR gs ⟨da x++da y,[]⟩) ⟨some (d,.d (.val (.bool (oi a b c e)))),[]⟩)) (g.app ⟨some (d,.d (.val (.bool (oi a b c e)))),[]⟩)):sq E m gs ⟨some d,.binOp .eql t x y u,ty,pos,eG,gd⟩ g rest:=
 fe (SB x y t u a b c e ht hx hy) hr
theorem QO{m:Option (List Ky)}{gs:Option Nat}{rest:qO→Option (List Ky)→G→Prop}{x y:Operand}{t u:TypeId}(ht:yU E.P t=true){a b c e:Int}(hx:g.ev x= .agg [.d (.val (.int .i64 a)),.d (.val (.int .i64 b))])(hy:g.ev y= .agg [.d (.val (.int .i64 c)),.d (.val (.int .i64 e))])
 (hr:rest .on (mz m (oe (tR gs ⟨da x++da y,[]⟩) ⟨some (d,.d (.val (.bool (!oi a b c e)))),[]⟩)) (g.app ⟨some (d,.d (.val (.bool (!oi a b c e)))),[]⟩)):sq E m gs ⟨some d,.binOp .neq t x y u,ty,pos,eG,gd⟩ g rest:=
 fe (Sr x y t u a b c e ht hx hy) hr
theorem Za(x y:Operand)(m n:Int)(tys:Array TypeId)(hx:g.ev x= .d (.val (.int .i64 m)))(hy:g.ev y= .d (.val (.int .i64 n))) :
 kG E.P ⟨some d,.call ⟨.builtin .max,#[x,y],tys⟩,ty,pos,eG,gd⟩ g ⟨da x++da y,[]⟩ ⟨some (d,.d (.val (.int .i64 (if m<n then n else m)))),[]⟩:=
 qc rfl hx hy rfl fun a w h1 h2=>by
  simp[execOp,resolve,invoke,builtin,Builtin.max_,Builtin.max2,h1,h2]
theorem X9{m:Option (List Ky)}{gs:Option Nat}{rest:qO→Option (List Ky)→G→Prop}{x y:Operand}{tys:Array TypeId}(a b c:Int)(hc:(if a<b then b else a)=c)(hx:g.ev x= .d (.val (.int .i64 a)))(hy:g.ev y= .d (.val (.int .i64 b)))
 (hr:rest .on (mz m (oe (tR gs ⟨da x++da y,[]⟩) ⟨some (d,.d (.val (.int .i64 c))),[]⟩)) (g.app ⟨some (d,.d (.val (.int .i64 c))),[]⟩)):sq E m gs ⟨some d,.call ⟨.builtin .max,#[x,y],tys⟩,ty,pos,eG,gd⟩ g rest:=by
 subst hc
 exact fe (Za x y a b tys hx hy) hr
theorem W9(x:Operand)(m:Int)(t u:TypeId)(hx:g.ev x= .d (.val (.int .u64 m))) :
 kG E.P ⟨some d,.binOp .shr t x (.const (.int .u64 1)) u,ty,pos,eG,gd⟩ g ⟨da x,[]⟩ ⟨some (d,.d (.val (.int .u64 (m.fdiv 2)))),[]⟩:=
 EA rfl hx rfl fun a w h1=>by
  have he:a.eval (.const (.int .u64 1))= .int .u64 1:=rfl
  have hb:min 1 (IntKind.u64).bits=1:=by decide
  simp[execOp,h1,he,eqGuard,binOp,Op.shift,hb]
theorem ZD{m:Option (List Ky)}{gs:Option Nat}{rest:qO→Option (List Ky)→G→Prop}{x:Operand}{t u:TypeId}(a c:Int)(hc:a.fdiv 2=c)(hx:g.ev x= .d (.val (.int .u64 a)))
 (hr:rest .on (mz m (oe (tR gs ⟨da x,[]⟩) ⟨some (d,.d (.val (.int .u64 c))),[]⟩)) (g.app ⟨some (d,.d (.val (.int .u64 c))),[]⟩)):sq E m gs ⟨some d,.binOp .shr t x (.const (.int .u64 1)) u,ty,pos,eG,gd⟩ g rest:=by
 subst hc
 exact fe (W9 x a t u hx) hr
theorem wrap_u64{n:Int}(h0:0≤n)(h1:n≤9223372036854775807):IntKind.wrap .u64 n=n:=by
 simp only[IntKind.wrap,IntKind.bits,IntKind.signed,aS,ax,if_false]
 omega
end
end Go.Eng
