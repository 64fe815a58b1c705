/-
  The symbolic layer, twenty-third text: from a function's code to its contract; what the working out may unfold.
-/
import Derived.Test.YtabembjmeobhoaaGreatKDC
import Derived.Laws.StructEq
set_option linter.unusedVariables false
set_option linter.unusedSimpArgs false
open Bool renaming and_eq_true→al,false_eq_true→ax,true_and→aB,false_and→aK,or_eq_true→hX,not_false→jK,not_true→l7,not_eq_true'→mq
open Int renaming toNat_natCast→bn,le_refl→lx
open List renaming getElem?_eq_getElem→ah,take_of_length_le→ao,mem_cons→ay,getD_eq_getElem?_getD→aA,map_cons→aQ,replicate→aS,length_cons→a6,getElem?_append_left→bf,getElem?_eq_none→br,getElem?_append_right→bt,cons_append→bB,take_append_of_le_length→bV,getD→cr,mem_append_left→du,map_nil→dD,mem_append_right→gf,drop_zero→mU
open Nat renaming le_refl→aJ,eq_of_beq_eq_true→bJ,mul_le_mul_right→bS,zero_add→df,add_zero→gZ,beq→jd,sub_self→kj
open Option renaming getD_none→cg,map_some→c8,map_none→dB
namespace Go.Eng
open Go.RowKit
def pad:List PV→Nat→List PV
 | [],0=>[]
 | [],n+1=>.undef::pad [] n
 | l,0=>l
 | a::as,n+1=>a::pad as n
theorem AG:∀(l:List PV)(n:Nat),pad l n=l++aS (n-l.length) .undef
 | [],0=>rfl
 | [],n+1=>by simp[pad,AG [] n,List.replicate_succ]
 | a::as,0=>by simp[pad]
 | a::as,n+1=>by simp[pad,AG as n]
def z7(E:Env)(rs:List ResultVar)(n0:Nat)(R:PV→List (Option En)→Prop)(g:G):Prop:=
 ∃ps m q st',Ao E g rs=some ps∧Wk n0 m ⟨[kX ps],g.st⟩ ⟨[q],st'⟩∧R q st'
theorem z7.sat{E:Env}{rs:List ResultVar}{n0:Nat}{R:PV→List (Option En)→Prop}{g:G}(h:z7 E rs n0 R g){X:Cx}{ν:Nat→Nm}{a:Act}{w:World}(hp:Par X n0)(hs:Sat E.P X ν g a w){fn:Func}(hfn:fn.results.toList=rs) :
 ∃v res st' ν',(results fn a.tmps).run E.P w= .ok v w∧R res st'∧QJ E.P X ν' res st' v w:=by
 obtain⟨ps,m,q,st',h1,h2,h3⟩:=h
 obtain⟨v,hr,hv⟩:=D6 hs (fn:=fn) (by rw[hfn];exact h1)
 have hs1:Sat E.P X ν ⟨[kX ps],g.st⟩ ⟨#[v],[]⟩ w:=by
  refine⟨rfl,fun t=>?_,hs.en,hs.inj,hs.base,hs.nu,hs.par,hs.E9,hs.An,rfl⟩
  cases t with
  | zero=>exact hv
  | succ t=>simp[nth,aE]
 obtain⟨ν',hs2⟩:=KQ h2 X ν _ _ hp hs1
 exact⟨v,q,st',ν',hr,h3,hs2⟩
theorem abJ{E:Env}{rs:List ResultVar}{g:G}{ps:List PV}{q:PV}(h1:Ao E g rs=some ps)(h2:wk ⟨[kX ps],g.st⟩ [] (kX ps) q):z7 E rs 0 (bz q []) g:=
 ⟨ps,[],q,[],h1,⟨by simp only[AI];exact⟨h2,trivial⟩,by simp[mf],rfl,rfl⟩,rfl,rfl⟩
theorem X0:cE []=[]:=rfl
theorem UP(x:D)(xs:List D):cE (x::xs)= .d x::cE xs:=rfl
def Ay(t:Nat):List (Nat×PV)→PV→PV
 | [],p=>p
 | (d,v)::r,p=>match jd t d with
   | true=>v
   | false=>Ay t r p
def dx(n:Nat)(p:PV)(ch:List (Nat×PV)):List PV:=(List.range n).map fun t=>Ay t ch p
theorem ye{a b:Nat}:Nat.ble b a=false↔a<b:=by
 cases h:Nat.ble b a
 ·simp only[true_iff]
  have h':¬b≤a:=fun hl=>by rw[Nat.ble_eq_true_of_le hl] at h;cases h
  omega
 ·have:=Nat.le_of_ble_eq_true h
  simp
  omega
theorem xy:∀(l:List PV)(t:Nat),nth l t=l.getD t .any
 | [],t=>by cases t<;>rfl
 | _::_,0=>rfl
 | _::l,t+1=>by simp only[nth,xy l t];rfl
theorem Bw(n:Nat)(p:PV)(ch:List (Nat×PV)):(dx n p ch).length=n:=by simp[dx]
theorem Fe(n:Nat)(p:PV)(ch:List (Nat×PV))(t:Nat):nth (dx n p ch) t=match Nat.ble n t with|false=>Ay t ch p|true=>.any:=by
 rw[xy]
 cases h:Nat.ble n t
 ·have h':t<n:=ye.1 h
  simp[dx,cr,h']
 ·have h':¬t<n:=fun hl=>by rw[ye.2 hl] at h;cases h
  simp[dx,cr,h']
theorem RJ{l l':List PV}(hl:l.length=l'.length)(h:∀t,nth l t=nth l' t):l=l':=by
 refine List.ext_getElem hl fun t h1 h2=>?_
 have:=h t
 rw[xy,xy] at this
 simpa[cr,h1,h2] using this
theorem WK(n:Nat)(p:PV)(ch:List (Nat×PV))(d:Nat)(v:PV):lV (dx n p ch) d v=dx n p ((d,v)::ch):=by
 refine RJ (by rw[jr,Bw,Bw]) fun t=>?_
 rw[nC,Bw,Fe,Fe]
 by_cases h:t=d
 ·subst h
  by_cases hn:t<n
  ·rw[if_pos ⟨rfl,hn⟩,ye.2 hn]
   simp only[Ay,Nat.beq_refl]
  ·rw[if_neg (fun hc=>hn hc.2)]
   have:Nat.ble n t=true:=by
    cases hb:Nat.ble n t
    ·exact(hn (ye.1 hb)).elim
    ·rfl
   rw[this]
 ·rw[if_neg (fun hc=>h hc.1)]
  have:jd t d=false:=by
   cases hb:jd t d
   ·rfl
   ·exact(h (bJ hb)).elim
  simp only[Ay,this]
def VA:Nat→List PV→List (Nat×PV)
 | _,[]=>[]
 | i,a::l=>(i,a)::VA (i+1) l
theorem Oi:∀(l:List PV)(i t:Nat)(p:PV),Ay (i+t) (VA i l) p=l.getD t p
 | [],i,t,p=>by simp[VA,Ay]
 | a::l,i,0,p=>by simp[VA,Ay]
 | a::l,i,t+1,p=>by
   have:jd (i+(t+1)) i=false:=by
    cases hb:jd (i+(t+1)) i
    ·rfl
    ·have:=bJ hb;omega
   simp only[VA,Ay,this]
   have:=Oi l (i+1) t p
   rw[show i+1+t=i+(t+1) by omega] at this
   rw[this]
   rfl
theorem RA{l:List PV}{n:Nat}(h:l.length≤n):pad l n=dx n .undef (VA 0 l):=by
 rw[AG]
 refine RJ (by rw[Bw];simp;omega) fun t=>?_
 rw[Fe,xy]
 have:=Oi l 0 t .undef
 rw[df] at this
 rw[this]
 cases hb:Nat.ble n t
 rotate_left
 ·have h':¬t<n:=fun hl=>by rw[ye.2 hl] at hb;cases hb
  have h1:(l++aS (n-l.length) PV.undef).length≤t:=by simp;omega
  simp only[cr,br h1,cg]
 ·have h':t<n:=ye.1 hb
  simp only[cr]
  by_cases hl:t<l.length
  ·rw[bf hl,ah hl];rfl
  ·rw[bt (by omega),List.getElem?_replicate,if_pos (by omega),br (by omega)]
   rfl
def wkC(g:G)(m:List (Option Nat))(ch:List (Nat×PV))(p:PV):List (Nat×PV)→Prop
 | []=>True
 | (t,q)::r=>wk g m (Ay t ch p) q∧wkC g m ch p r
theorem ZJ{g:G}{m:List (Option Nat)}(p:PV):wk g m p .any:=by cases p<;>simp[wk]
theorem Vf{g:G}{m:List (Option Nat)}{ch:List (Nat×PV)}{p:PV}:∀{ch':List (Nat×PV)},wkC g m ch p ch'→∀t,wk g m (Ay t ch p) (Ay t ch' .any)
 | [],_,t=>by simp only[Ay];exact ZJ _
 | (d,q)::r,h,t=>by
   simp only[wkC] at h
   simp only[Ay]
   cases hb:jd t d
   ·exact Vf h.2 t
   ·have:=bJ hb
    subst this
    exact h.1
theorem Rj{g:G}{m:List (Option Nat)}{f f':Nat→PV}(h:∀t,wk g m (f t) (f' t)):∀(l:List Nat),AI g m (l.map f) (l.map f')
 | []=>by simp only[dD,AI]
 | a::l=>by simp only[aQ,AI];exact⟨h a,Rj h l⟩
theorem ar{P:Program}{n0 n:Nat}(m:List (Option Nat)){p:PV}{ch ch':List (Nat×PV)}{st st':List (Option En)}(h1:wkC ⟨dx n p ch,st⟩ m ch p ch')(h2:mf ⟨dx n p ch,st⟩ m m st')(h3:CO m st'=true)(h4:keeps n0 0 m=true):qz P n0 ⟨dx n p ch,st⟩ ⟨dx n .any ch',st'⟩:=
 KQ ⟨Rj (Vf h1) _,h2,h3,h4⟩
attribute [go_sem] H5 LG Fe WK Ay wkC VA c6 da lS xY tk dr Pk Pt PJ TA pls evp ev2 ix2 sl2 Qy Tn Od iop cop sop Y1 V3 bop yk
attribute [go_sem] K2 Gp P6 EW Ms BM E6 Mp RZ E3 B0 KB Fb Zv Lh KM Lx K7 Fa KN xr Cw Te R2 Fg Rf stp
theorem aaL(sl:List PV)(st:List (Option En))(dst:Option (Nat×PV))(up:List (Nat×En)):(G.mk sl st).app ⟨dst,up⟩=⟨uw sl dst,yf st up⟩:=rfl
theorem Sp(sl:List PV):uw sl none=sl:=rfl
theorem Tv(sl:List PV)(d:Nat)(p:PV):uw sl (some (d,p))=lV sl d p:=rfl
theorem T5(sl:List PV)(st:List (Option En))(t:Nat):(G.mk sl st).ev (.tmp t)=nth sl t:=rfl
theorem QC(sl:List PV)(st:List (Option En))(v:Value):(G.mk sl st).ev (.const v)=cpv v:=rfl
theorem S4(sl:List PV)(st:List (Option En))(f:Nat):(G.mk sl st).ev (.func f)= .fn f []:=rfl
theorem abZ(sl:List PV)(st:List (Option En))(k:Nat):(G.mk sl st).at k=c6 st k:=rfl
theorem aa5(sl:List PV)(st:List (Option En)):(G.mk sl st).new=lS st:=rfl
theorem X4(s p:List Nat)(dst:Option (Nat×PV))(up:List (Nat×En)):oo ⟨s,p⟩ ⟨dst,up⟩=⟨s,p,Dl.ws ⟨dst,up⟩,Dl.wp ⟨dst,up⟩⟩:=rfl
theorem XU(up:List (Nat×En)):Dl.ws ⟨none,up⟩=[]:=rfl
theorem Yu(d:Nat)(p:PV)(up:List (Nat×En)):Dl.ws ⟨some (d,p),up⟩=[d]:=rfl
theorem aav(dst:Option (Nat×PV)):Dl.wp ⟨dst,[]⟩=[]:=rfl
theorem Xb(dst:Option (Nat×PV))(k:Nat)(e:En)(r:List (Nat×En)):Dl.wp ⟨dst,(k,e)::r⟩=k::Dl.wp ⟨none,r⟩:=rfl
attribute [go_sem] aaN abd snoc mw.eq_1 mw.eq_2 uV.eq_1 uV.eq_2 I5.eq_1 I5.eq_2 I5.eq_3 ZY.eq_1 Ui.eq_1 rS.eq_1 rS.eq_2 rS.eq_3 gsl ZP.eq_1 ZP.eq_2 Yv.eq_1 Yv.eq_2 run RP.eq_1 RP.eq_2 RP.eq_3 HJ.eq_1 HJ.eq_2 HJ.eq_3 Wc.eq_1 V6.eq_1 aae.eq_1 aae.eq_2 Mt
attribute [go_sem] aaL Sp Tv yf abZ T5 QC S4 aa5 CJ cpv Ur Lp eG PV.whole PV.one vV Rp JX toD Af rowsOf IM tZ X4 XU Yu aav Xb dh W0 TI.isAgg X0 UP
attribute [go_sem] Qt J0 QE Wj Ao kX bz aQ dD yT Oy
attribute [go_sem] AI wk mf Ck gU EI keeps CO Qa
attribute [go_sem] PR T.pv ZR lO rJ toT CS Qk EZ ET Ij yi Y3 Y6 apT YN
mutual
def Hh:PV→Prop
 | .d (.dt xs)=>xs.length≤LB
 | .d (.str s)=>s.length≤LB
 | .agg cs=>qL cs
 | _=>True
def qL:List PV→Prop
 | []=>True
 | p::ps=>Hh p∧qL ps
end
mutual
theorem aE.Hh{w:World}{ok:Nat→Prop}{ν:Nat→Nm}{st:Nat→Option En}:∀(p:PV)(v:Value),aE w ok ν st p v→Hh p
 | .d (.dt xs),v,h=>by
   simp only[aE] at h
   simp only[Eng.Hh]
   exact h.Zy
 | .d (.str s),v,h=>by
   simp only[aE] at h
   simp only[Eng.Hh]
   exact h.EX.2
 | .agg cs,v,h=>by
   simp only[aE] at h
   simp only[Eng.Hh]
   obtain⟨vs,_,h⟩:=h
   exact az.Hh cs vs h
 | .d (.val _),_,_=>by simp only[Eng.Hh]
 | .any,_,_=>by simp only[Eng.Hh]
 | .undef,_,_=>by simp only[Eng.Hh]
 | .b8,_,_=>by simp only[Eng.Hh]
 | .gV _,_,_=>by simp only[Eng.Hh]
 | .ptr _ _,_,_=>by simp only[Eng.Hh]
 | .acc _,_,_=>by simp only[Eng.Hh]
 | .gI _ _ _ _,_,_=>by simp only[Eng.Hh]
 | .gq _ _ _,_,_=>by simp only[Eng.Hh]
 | .fn _ _,_,_=>by simp only[Eng.Hh]
theorem az.Hh{w:World}{ok:Nat→Prop}{ν:Nat→Nm}{st:Nat→Option En}:∀(ps:List PV)(vs:List Value),az w ok ν st ps vs→qL ps
 | [],_,_=>by simp only[Eng.qL]
 | p::ps,v::vs,h=>by
   simp only[az] at h
   simp only[Eng.qL]
   exact⟨aE.Hh p v h.1,az.Hh ps vs h.2⟩
 | _::_,[],h=>by simp[az] at h
end
def Tm:Option En→Prop
 | some (.box cs)=>qL cs
 | some (.acc _ xs)=>xs.length≤LB
 | some (.fk _ xs)=>xs.length≤LB
 | _=>True
def BF:List (Option En)→Prop
 | []=>True
 | e::es=>Tm e∧BF es
theorem Sat.qL{P:Program}{X:Cx}{ν:Nat→Nm}{g:G}{a:Act}{w:World}(h:Sat P X ν g a w):Eng.qL g.sl:=by
 have key:∀(ps:List PV),(∀t,∃v,aE w (cF X ν g.at) ν g.at (nth ps t) v)→Eng.qL ps:=by
  intro ps
  induction ps with
  | nil=>intro _;simp only[Eng.qL]
  | cons p ps ih=>
    intro hp
    simp only[Eng.qL]
    obtain⟨v,hv⟩:=hp 0
    exact⟨aE.Hh p v hv,ih fun t=>hp (t+1)⟩
 exact key _ fun t=>⟨_,h.sl t⟩
theorem Sat.Tm{P:Program}{X:Cx}{ν:Nat→Nm}{g:G}{a:Act}{w:World}(h:Sat P X ν g a w)(k:Nat):Eng.Tm (g.at k):=by
 cases hk:g.at k with
 | none=>trivial
 | some e=>
   have:=h.en k e hk
   cases e with
   | dead=>trivial
   | box cs=>obtain⟨b,vs,T,_,_,h3,_⟩:=this;exact az.Hh cs vs h3
   | acc t xs=>obtain⟨us,_,_,h3,_⟩:=this;exact h3
   | map sP=>trivial
   | fk t xs=>
     have h1:=this.1
     simp only[kD] at h1
     obtain⟨us,F1,_,_,_,h4,_⟩:=h1
     exact h4
theorem My:∀{l:List (Option En)},(∀k,Tm (c6 l k))→BF l
 | [],_=>trivial
 | _::_,h=>⟨h 0,My fun k=>h (k+1)⟩
theorem Y8{P:Program}{n0:Nat}{c:Code}{g:G}{Q:Ex→G→Prop}(h:qL g.sl→BF g.st→W P n0 c g Q):W P n0 c g Q:=fun X ν a w hp hs=>
 h hs.qL (My fun k=>hs.Tm k) X ν a w hp hs
theorem C7:∀{ps r:List PV},qL (ps++r)→qL ps
 | [],_,_=>by simp only[qL]
 | p::ps,r,h=>by
   simp only[bB,qL] at h⊢
   exact⟨h.1,C7 h.2⟩
theorem aa3 {E : Env} (hm : E.P.follows .mixedOrders = true) {f : FuncId} {fn : Func} {c : Code} {args : List PV} {eX : List (Option En)} {R : PV → List (Option En) → Prop} {nt : Nat} {rs : List ResultVar} (hf : E.P.funcs[f]? = some fn) (hb : fn.body = some c) (hname : (fn.name == "runtime.NumGoroutine") = false)
 (hnt:fn.ntmps=nt) (hrs:fn.results.toList=rs) (h:qL args→BF eX→Mt E (lS eX) c .on ⟨pad args nt,eX⟩ (fun _=>Qt (z7 E rs (lS eX) R))):C E.P f args eX R:=by
 rw[nJ] at h
 refine Nq hf hb hname (z7 E rs eX.length R) (fun _ _ _ _ _ h1 hp hs=>z7.sat h1 hp hs hrs) ?_
 rw[hnt,←AG]
 refine Y8 fun h1 h2=>Qq hm c _ _ (h ?_ h2)
 have h1:qL (pad args nt):=h1
 rw[AG] at h1
 exact C7 h1
theorem lQ {E : Env} (hm : E.P.follows .mixedOrders = true) {f : FuncId} {fn : Func} {c : Code} {args : List PV} {eX : List (Option En)} {R : PV → List (Option En) → Prop} {nt : Nat} {rs : List ResultVar} (hf : E.P.funcs[f]? = some fn) (hb : fn.body = some c) (hname : (fn.name == "runtime.NumGoroutine") = false)
 (hnt:fn.ntmps=nt) (hrs:fn.results.toList=rs) (hn:yk (xY args) nt=true) (h:qL args→BF eX→Mt E (lS eX) c .on ⟨dx nt .undef (VA 0 args),eX⟩ (fun _=>Qt (z7 E rs (lS eX) R))):C E.P f args eX R:=by
 have hn:=ld hn
 rw[oM] at hn
 rw[←RA hn] at h
 exact aa3 hm hf hb hname hnt hrs h
attribute [go_sem] Hh qL Tm BF
mutual
theorem Rb(m:List Nat):∀(p:PV),p.lt 0=true→p.mc m=p
 | .agg cs,h=>by simp only[PV.lt] at h;simp only[PV.mc,xn m cs h]
 | .gV cs,h=>by simp only[PV.lt] at h;simp only[PV.mc,xn m cs h]
 | .fn f cs,h=>by simp only[PV.lt] at h;simp only[PV.mc,xn m cs h]
 | .any,_=>rfl
 | .undef,_=>rfl
 | .b8,_=>rfl
 | .d _,_=>rfl
 | .gq _ _ _,_=>rfl
 | .ptr _ _,h=>by simp[PV.lt] at h
 | .acc _,h=>by simp[PV.lt] at h
 | .gI _ _ _ _,h=>by simp[PV.lt] at h
theorem xn(m:List Nat):∀(ps:List PV),tK 0 ps=true→qO m ps=ps
 | [],_=>rfl
 | p::ps,h=>by
   simp only[tK,al] at h
   simp only[qO,Rb m p h.1,xn m ps h.2]
end
theorem Uj(n:Nat):∀(cs:List D),tK n (cE cs)=true
 | []=>rfl
 | c::cs=>by
   have:=Uj n cs
   simp only[cE,aQ,tK,al] at this⊢
   exact⟨rfl,this⟩
section
variable{E:Env}{g:G}{d:Nat}{ty:TypeId}{pos:String}{eM:Array Edge}{gd:Option (Nat×Bool)}
theorem UO(nr:Operand)(xs:List Operand)(tys:Array TypeId)(f:FuncId)(cap:List PV)(hfn:g.ev nr= .fn f cap)(cR:List PV)(res:PV)(hC:C E.P f cR [] (bz res []))(oY:FA (xs.map g.ev++cap) cR)(lL:tK 0 cR=true)(hres:res.lt 0=true) :
 kH E.P ⟨some d,.call ⟨.value nr,⟨xs⟩,tys⟩,ty,pos,eM,gd⟩ g ⟨dh nr++xs.flatMap dh,[]⟩ ⟨some (d,res),[]⟩:=by
 have h:=Rr (E:=E) (g:=g) (d:=d) (ty:=ty) (pos:=pos) (eM:=eM) (gd:=gd) nr xs tys f cap hfn [] cR [] [] res hC (by rw[xn _ _ lL];exact oY) lL (by simp) (by simp) trivial trivial (by simp) (by simp)
 rw[Rb _ _ hres] at h
 exact h
end
def iv(n:Int):PV:=.d (.val (.int .i64 n))
def bv(b:Bool):PV:=.d (.val (.bool b))
def sv(s:List UInt8):PV:=.d (.str s)
def lv(xs:List (List D)):PV:=.d (.dt xs)
attribute [go_sem] iv bv sv lv PV.mc qO kO look PV.lt tK dB c8 Option.toList_none Option.toList_some
end Go.Eng
namespace Go.Eng
open Go.RowKit
section
variable{E:Env}{n0:Nat}{g:G}{c:Code}{Q:Ex→G→Prop}
def qU{A:Type}(P:Program)(n0:Nat)(I:A→Prop)(T:A→G)(μ:A→Nat)(a:A)(Q:Ex→G→Prop):Ex→G→Prop
 | .normal,g=>∃a',I a'∧μ a' < μ a∧qz P n0 g (T a')
 | .exit id,g=>Q (.exit id) g
 | .ret,g=>Q .ret g
def Ct{A B:Type}(P:Program)(n0:Nat)(I:A→B→Prop)(T:A→B→G)(μ:A→B→Nat)(a:A)(b:B)(Q:Ex→G→Prop):Ex→G→Prop
 | .normal,g=>∃a' b',I a' b'∧μ a' b' < μ a b∧qz P n0 g (T a' b')
 | .exit id,g=>Q (.exit id) g
 | .ret,g=>Q .ret g
def KR{A B C:Type}(P:Program)(n0:Nat)(I:A→B→C→Prop)(T:A→B→C→G)(μ:A→B→C→Nat)(a:A)(b:B)(c:C)(Q:Ex→G→Prop):Ex→G→Prop
 | .normal,g=>∃a' b' c',I a' b' c'∧μ a' b' c' < μ a b c∧qz P n0 g (T a' b' c')
 | .exit id,g=>Q (.exit id) g
 | .ret,g=>Q .ret g
theorem aL(hm:E.P.follows .mixedOrders=true){A:Type}(I:A→Prop)(T:A→G)(μ:A→Nat)(a0:A)(hi:I a0)(h0:qz E.P n0 g (T a0))
 (round:∀a,I a→Mt E n0 c .on (T a) (fun _=>qU E.P n0 I T μ a Q)):W E.P n0 (.loop c) g Q:=by
 refine Vu (α:={a // I a}) (fun x=>T x.1) (fun x=>μ x.1) ⟨a0,hi⟩ h0 ?_
 rintro⟨a,ha⟩
 have h:=Qq hm c _ _ (round a ha)
 have e:(qU E.P n0 I T μ a Q)=(J0 E.P n0 (fun x:{a // I a}=>T x.1) (fun x=>μ x.1) ⟨a,ha⟩ Q):=by
  funext e g'
  cases e with
  | normal=>
    simp only[qU,J0]
    apply propext
    exact⟨fun⟨a',h1,h2,h3⟩=>⟨⟨a',h1⟩,h2,h3⟩,fun⟨⟨a',h1⟩,h2,h3⟩=>⟨a',h1,h2,h3⟩⟩
  | exit id=>rfl
  | ret=>rfl
 rw[←e]
 exact h
theorem cM(hm:E.P.follows .mixedOrders=true){A B:Type}(I:A→B→Prop)(T:A→B→G)(μ:A→B→Nat)(a0:A)(b0:B)(hi:I a0 b0)(h0:qz E.P n0 g (T a0 b0))
 (round:∀a b,I a b→Mt E n0 c .on (T a b) (fun _=>Ct E.P n0 I T μ a b Q)):W E.P n0 (.loop c) g Q:=by
 refine aL hm (A:=A×B) (fun x=>I x.1 x.2) (fun x=>T x.1 x.2) (fun x=>μ x.1 x.2) (a0,b0) hi h0 ?_
 rintro⟨a,b⟩ h
 have h:=round a b h
 have e:(Ct E.P n0 I T μ a b Q)=(qU E.P n0 (fun x:A×B=>I x.1 x.2) (fun x=>T x.1 x.2) (fun x=>μ x.1 x.2) (a,b) Q):=by
  funext e g'
  cases e with
  | normal=>
    simp only[qU,Ct]
    apply propext
    exact⟨fun⟨a',b',h1,h2,h3⟩=>⟨(a',b'),h1,h2,h3⟩,fun⟨(a',b'),h1,h2,h3⟩=>⟨a',b',h1,h2,h3⟩⟩
  | exit id=>rfl
  | ret=>rfl
 rw[e] at h
 exact h
theorem kS(hm:E.P.follows .mixedOrders=true){A B D:Type}(I:A→B→D→Prop)(T:A→B→D→G)(μ:A→B→D→Nat)(a0:A)(b0:B)(d0:D)(hi:I a0 b0 d0)(h0:qz E.P n0 g (T a0 b0 d0))
 (round:∀a b d,I a b d→Mt E n0 c .on (T a b d) (fun _=>KR E.P n0 I T μ a b d Q)):W E.P n0 (.loop c) g Q:=by
 refine cM hm (A:=A) (B:=B×D) (fun a x=>I a x.1 x.2) (fun a x=>T a x.1 x.2) (fun a x=>μ a x.1 x.2) a0 (b0,d0) hi h0 ?_
 rintro a ⟨b,d⟩ h
 have h:=round a b d h
 have e:(KR E.P n0 I T μ a b d Q)=(Ct E.P n0 (fun a (x:B×D)=>I a x.1 x.2) (fun a x=>T a x.1 x.2) (fun a x=>μ a x.1 x.2) a (b,d) Q):=by
  funext e g'
  cases e with
  | normal=>
    simp only[KR,Ct]
    apply propext
    exact⟨fun⟨a',b',d',h1,h2,h3⟩=>⟨a',(b',d'),h1,h2,h3⟩,fun⟨a',(b',d'),h1,h2,h3⟩=>⟨a',b',d',h1,h2,h3⟩⟩
  | exit id=>rfl
  | ret=>rfl
 rw[e] at h
 exact h
end
theorem m9{α:Type}{l:List α}{i:Nat}(h:i<l.length)(d:α):l.getD i d=l[i]:=by simp[cr,ah h]
mutual
theorem ZS{g:G}{m:List (Option Nat)}:∀{p:PV},p.lt 0=true→wk g m p p
 | .agg cs,h=>by simp only[PV.lt] at h;simp only[wk];exact aI h
 | .gV cs,h=>by simp only[PV.lt] at h;simp only[wk];exact aI h
 | .fn f cs,h=>by simp only[PV.lt] at h;simp only[wk,true_and];exact aI h
 | .any,_=>by simp only[wk]
 | .undef,_=>by simp only[wk]
 | .b8,_=>by simp only[wk]
 | .d _,_=>by simp only[wk]
 | .gq _ _ _,_=>by simp only[wk,and_self]
 | .ptr _ _,h=>by simp[PV.lt] at h
 | .acc _,h=>by simp[PV.lt] at h
 | .gI _ _ _ _,h=>by simp[PV.lt] at h
theorem aI{g:G}{m:List (Option Nat)}:∀{ps:List PV},tK 0 ps=true→AI g m ps ps
 | [],_=>by simp only[AI]
 | p::ps,h=>by
   simp only[tK,al] at h
   simp only[AI]
   exact⟨ZS h.1,aI h.2⟩
end
theorem XC(a b:Int):(a != b)= !decide (a=b):=by
 by_cases h:a=b<;>simp[h]
theorem X8(a b:Int):(a == b)=decide (a=b):=by
 by_cases h:a=b<;>simp[h]
theorem XQ(a b:List UInt8):(a == b)=decide (a=b):=by
 by_cases h:a=b<;>simp[h]
theorem xC(x:List D)(xs:List (List D)):row (x::xs) 0=x:=rfl
attribute [go_sem] xC
theorem YB(e0:En)(Q:En→Prop):(∃e,some e0=some e∧Q e)=Q e0:=by
 apply propext
 constructor
 ·rintro⟨e,h,hq⟩
  cases h
  exact hq
 ·intro hq
  exact⟨_,rfl,hq⟩
theorem xM(n:Nat):((no_index (OfNat.ofNat n):Nat):Int)=OfNat.ofNat n:=rfl
theorem Vk(e0:En):(∃e,some e0=some e)=True:=eq_true ⟨_,rfl⟩
theorem XH(xs ys:List (List D)):(D.dt xs=D.dt ys)=(xs=ys):=by simp
attribute [go_sem] ay List.not_mem_nil or_false forall_eq List.length_take List.length_map
attribute [go_sem] Int.natCast_add Int.natCast_one Int.natCast_zero xM Vk ite_true ite_false YB XH List.take_zero eq_self
attribute [go_sem] XC X8 XQ
attribute [go_sem] bB List.nil_append List.append_nil
theorem VH(ps:List PV):FA ps ps=True:=eq_true (Lf ps)
attribute [go_sem] cv FA VH
theorem bw{m:Option (List Ky)}{gs:Option Nat}{d:Nat}{ty:TypeId}{pos:String}{eM:Array Edge}{gd:Option (Nat×Bool)}{E:Env}{g:G}{rest:qQ→Option (List Ky)→G→Prop}{nr:Operand}{xs:List Operand}{tys:Array TypeId}{f:FuncId}(cap:List PV){cR:List PV}{res:PV}
 (hC:C E.P f cR [] (bz res [])) (h:g.ev nr= .fn f cap∧FA (Te g xs++cap) cR∧tK 0 cR=true∧res.lt 0=true)
 (hr:rest .on (mw m (oo (uV gs ⟨dh nr++Cw xs,[]⟩) ⟨some (d,res),[]⟩)) (g.app ⟨some (d,res),[]⟩)):sR E m gs ⟨some d,.call ⟨.value nr,⟨xs⟩,tys⟩,ty,pos,eM,gd⟩ g rest:=by
 rw[yu] at hr
 rw[CI] at h
 exact fg (UO nr xs tys f cap h.1 cR res hC h.2.1 h.2.2.1 h.2.2.2) hr
theorem dH{m:Option (List Ky)}{gs:Option Nat}{d:Nat}{ty:TypeId}{pos:String}{eM:Array Edge}{gd:Option (Nat×Bool)}{E:Env}{g:G}{rest:qQ→Option (List Ky)→G→Prop}{nr:Operand}{xs:List Operand}{tys:Array TypeId}{f:FuncId}(cap:List PV)(ks:List Nat){cR:List PV}{res:PV}
 (hC:C E.P f cR [] (bz res [])) (h1:g.ev nr= .fn f cap) (h2:iH g ks (Te g xs++cap) cR) (h3:sc res=true)
 (hr:rest .on (mw m (oo (uV gs ⟨dh nr++Cw xs,ks⟩) ⟨some (d,res),[]⟩)) (g.app ⟨some (d,res),[]⟩)):sR E m gs ⟨some d,.call ⟨.value nr,⟨xs⟩,tys⟩,ty,pos,eM,gd⟩ g rest:=by
 rw[yu] at hr
 rw[CI] at h2
 exact fg (Ym nr xs tys f cap h1 ks cR res hC h2 h3) hr
def UW(k:Nat):List Nat→Bool
 | []=>false
 | j::js=>H5 k j||UW k js
theorem FG:∀(k:Nat),H5 k k=true
 | 0=>rfl
 | k+1=>FG k
theorem Re{k:Nat}:∀{m:List Nat},k∈m→UW k m=true
 | [],h=>by simp at h
 | j::js,h=>by
   simp only[UW,hX]
   rcases ay.1 h with rfl|h
   ·exact .inl (FG _)
   ·exact .inr (Re h)
def MT:List Nat→Bool
 | []=>true
 | k::ks=>!UW k ks&&MT ks
theorem K4:∀{m:List Nat},MT m=true→m.Nodup
 | [],_=>by simp
 | k::ks,h=>by
   simp only[MT,al,mq] at h
   refine List.nodup_cons.2 ⟨fun hk=>?_,K4 h.2⟩
   rw[Re hk] at h
   cases h.1
def Ha:List Nat→Nat
 | []=>0
 | _::as=>Ha as+1
theorem Ff:∀(l:List Nat),Ha l=l.length
 | []=>rfl
 | _::as=>by simp[Ha,Ff as]
theorem gw{m:Option (List Ky)}{gs:Option Nat}{d:Nat}{ty:TypeId}{pos:String}{eM:Array Edge}{gd:Option (Nat×Bool)}{E:Env}{g:G}{rest:qQ→Option (List Ky)→G→Prop}{nr:Operand}{xs:List Operand}{tys:Array TypeId}{f:FuncId}(cap:List PV)(M:List Nat){cR:List PV}{eX st':List (Option En)}{res:PV}
 (hC:C E.P f cR eX (bz res st')) (h:g.ev nr= .fn f cap∧FA (Te g xs++cap) (qO M cR)∧tK (lS eX) cR=true∧MT M=true∧yk (lS eX) (Ha M)=true∧yk (lS eX) (lS st')=true∧yk (lS st') (Ha M)=true∧od g M (lS eX) M eX∧iR g (lS eX) M)
 (hr:rest .on (mw m (oo (uV gs ⟨dh nr++Cw xs,M⟩) ⟨some (d,res.mc M),kO M M st'⟩)) (g.app ⟨some (d,res.mc M),kO M M st'⟩)):sR E m gs ⟨some d,.call ⟨.value nr,⟨xs⟩,tys⟩,ty,pos,eM,gd⟩ g rest:=by
 rw[yu] at hr
 rw[CI] at h
 obtain⟨h1,h2,h3,h4,h5,h6,h7,h8,h9⟩:=h
 have h5:=ld h5
 have h6:=ld h6
 have h7:=ld h7
 rw[nJ,Ff] at h5
 rw[nJ,nJ] at h6
 rw[nJ,Ff] at h7
 rw[nJ] at h3 h8 h9
 exact fg (Rr nr xs tys f cap h1 M cR eX st' res hC h2 h3 (K4 h4) h5 h8 h9 h6 h7) hr
theorem abK{E:Env}{rs:List ResultVar}{n0:Nat}{g:G}{ps:List PV}{q:PV}{st':List (Option En)}(m:List (Option Nat))(h1:Ao E g rs=some ps)(h2:AI ⟨[kX ps],g.st⟩ m [kX ps] [q]∧mf ⟨[kX ps],g.st⟩ m m st')(h3:CO m st'=true)(h4:keeps n0 0 m=true):z7 E rs n0 (bz q st') g:=
 ⟨ps,m,q,st',h1,⟨h2.1,h2.2,h3,h4⟩,rfl,rfl⟩
theorem an{E:Env}{rs:List ResultVar}{g:G}{q:PV}(h:(Ao E g rs).elim False fun ps=>wk ⟨[kX ps],g.st⟩ [] (kX ps) q):z7 E rs 0 (bz q []) g:=by
 cases hps:Ao E g rs with
 | none=>rw[hps] at h;exact h.elim
 | some ps=>rw[hps] at h;exact abJ hps h
theorem bZ{E:Env}{rs:List ResultVar}{n0:Nat}{g:G}{q:PV}{st':List (Option En)}(m:List (Option Nat))(h:(Ao E g rs).elim False fun ps=>AI ⟨[kX ps],g.st⟩ m [kX ps] [q]∧mf ⟨[kX ps],g.st⟩ m m st')(h3:CO m st'=true)(h4:keeps n0 0 m=true):z7 E rs n0 (bz q st') g:=by
 cases hps:Ao E g rs with
 | none=>rw[hps] at h;exact h.elim
 | some ps=>rw[hps] at h;exact abK m hps h h3 h4
attribute [go_sem] Option.elim_some
attribute [go_sem] MT Ha UW od iR En.mc En.lt En.live l7 jK Bool.or_true Bool.true_or Bool.or_false Bool.false_or aK Bool.and_false
attribute [go_sem] sc scs
attribute [go_sem] qU Ct KR SZ and_true true_and and_self Int.natCast_nonneg lx Int.toNat_zero Nat.zero_lt_succ df gZ aJ bn Int.ofNat_lt Int.ofNat_le Int.ofNat_inj decide_true decide_false l7 jK a6 List.length_nil gt_iff_lt ge_iff_le
attribute [go_sem] aB Bool.and_true Bool.and_self beq_self_eq_true
theorem jk(ν:Nat→Nm)(b:Nat):¬Own ν (c6 []) b:=by
 rintro⟨k,e,h,_⟩
 cases k<;>simp[c6] at h
section
variable{P:Program}{X:Cx}{vs:List Value}{e:TypeId}{xs:List (List D)}{rest:List PV}
theorem Sm(hr:tK 0 rest=true)(hs:Sat P X X.ν0 ⟨.acc 0::rest,[some (.acc e xs)]⟩ ⟨⟨vs⟩,[]⟩ X.w0) :
 Sat P ⟨X.w0,Own X.ν0 (c6 []),X.ν0,c6 [],X.Z⟩ X.ν0 ⟨.d (.dt xs)::rest,[]⟩ ⟨⟨vs⟩,[]⟩ X.w0:=by
 have hw:∀b,cF X X.ν0 (G.at ⟨.acc 0::rest,[some (.acc e xs)]⟩) b→b<X.w0.heap.size→cF ⟨X.w0,Own X.ν0 (c6 []),X.ν0,c6 [],X.Z⟩ X.ν0 (G.at ⟨.d (.dt xs)::rest,[]⟩) b∧X.w0.heap[b]?=X.w0.heap[b]?:=fun b hb _=>⟨⟨jk _ b,hb.2⟩,rfl⟩
 have ll:∀k,G.at ⟨.d (.dt xs)::rest,[]⟩ k=none:=fun _=>rfl
 refine⟨hs.size,fun t=>?_,fun k e h=>?_,fun k k' e e' b h=>?_,fun b hb=>?_,fun k h=>?_,fun k h=>?_,⟨fun b hb=>?_,hs.kt rfl fun b hb=>(jk _ b hb).elim⟩,rR.refl _ _,rfl⟩
 ·cases t with
  | zero=>
    have h:=hs.sl 0
    simp only[nth,aE] at h⊢
    rw[h.2]
    obtain⟨us,h1,h2,h3,_⟩:=hs.en 0 (.acc e xs) rfl
    exact xj h1 h2 h3 (fun b hb=>⟨jk _ b,hs.KH ⟨0,_,rfl,rfl,.inl hb⟩⟩) hw
  | succ t=>
    have h:=hs.sl (t+1)
    simp only[nth] at h⊢
    have hl:∀(ps:List PV)(t:Nat),tK 0 ps=true→(nth ps t).lt 0=true:=by
     intro ps
     induction ps with
     | nil=>intro t _;rfl
     | cons p ps ih=>
       intro t h
       simp only[tK,al] at h
       cases t with
       | zero=>exact h.1
       | succ t=>exact ih t h.2
    exact aE.QK hw _ _ (hl rest t hr) h
 ·rw[ll] at h;cases h
 ·rw[ll] at h;cases h
 ·exact(jk _ b hb).elim
 ·rw[ll] at h;cases h
 ·cases k<;>simp[c6] at h
 ·exact⟨(hs.E9 b hb).1,jk _ b⟩
theorem TQ{f:FuncId}{e':TypeId}{ys:List (List D)}(hr:tK 0 rest=true)(hC:C P f (.d (.dt xs)::rest) [] (bz (.acc 0) [some (.acc e' ys)])):C P f (.acc 0::rest) [some (.acc e xs)] (bz (.acc 1) [some .dead,some (.acc e' ys)]):=by
 refine⟨hC.1,fun X vs jw hO hs=>?_⟩
 refine(hC.2 _ vs rfl rfl (Sm hr hs)).mono ?_
 rintro ex w' ⟨v,_,_,ν',rfl,⟨rfl,rfl⟩,gG⟩
 refine⟨v,_,_,fun|0=>X.ν0 0|k+1=>ν' k,rfl,⟨rfl,rfl⟩,?_⟩
 have ll:∀k e,G.at ⟨[.acc 1],[some .dead,some (.acc e' ys)]⟩ k=some e→e.live=true→k=1∧e= .acc e' ys:=by
  intro k e h hl
  match k,h with
  | 0,h=>
    obtain rfl:En.dead=e:=by simpa[G.at,c6] using h
    cases hl
  | 1,h=>exact⟨rfl,by simpa[G.at,c6] using h.symm⟩
  | k+2,h=>simp[G.at,c6] at h
 have im:∀b,Own (fun|0=>X.ν0 0|k+1=>ν' k) (G.at ⟨[.acc 1],[some .dead,some (.acc e' ys)]⟩) b↔Own ν' (G.at ⟨[.acc 0],[some (.acc e' ys)]⟩) b:=by
  intro b
  constructor
  ·rintro⟨k,e,h,hl,hb⟩
   obtain⟨rfl,rfl⟩:=ll k e h hl
   exact⟨0,_,rfl,rfl,hb⟩
  ·rintro⟨k,e,h,hl,hb⟩
   match k,h with
   | 0,h=>
     obtain rfl:En.acc e' ys=e:=by simpa[G.at,c6] using h
     exact⟨1,_,rfl,rfl,hb⟩
   | k+1,h=>simp[G.at,c6] at h
 have hw:∀b,cF (⟨X.w0,Own X.ν0 (c6 []),X.ν0,c6 [],X.Z⟩:Cx) ν' (G.at ⟨[.acc 0],[some (.acc e' ys)]⟩) b→b<w'.heap.size→cF X (fun|0=>X.ν0 0|k+1=>ν' k) (G.at ⟨[.acc 1],[some .dead,some (.acc e' ys)]⟩) b∧w'.heap[b]?=w'.heap[b]?:=fun b hb _=>⟨⟨fun h=>hb.1 ((im b).1 h),hb.2⟩,rfl⟩
 refine⟨rfl,fun t=>?_,fun k e h=>?_,fun k k' e e2 b h1 h2 hl hl2 _ _=>?_,fun b hb=>?_,fun k h=>?_,fun k h=>?_,hs.E9,gG.An.mono fun b hb _=>(jk _ b hb).elim,rfl⟩
 ·cases t with
  | zero=>
    have h:=gG.sl 0
    simp only[nth,aE] at h⊢
    exact⟨rfl,h.2⟩
  | succ t=>exact trivial
 ·match k,h with
  | 0,h=>
    obtain rfl:En.dead=e:=by simpa[G.at,c6] using h
    exact trivial
  | 1,h=>
    obtain rfl:En.acc e' ys=e:=by simpa[G.at,c6] using h
    obtain⟨us,h1,h2,h3⟩:=gG.en 0 _ rfl
    exact⟨us,h1,h2.frame hw (aJ _),h3⟩
  | k+2,h=>simp[G.at,c6] at h
 ·rw[(ll k e h1 hl).1,(ll k' e2 h2 hl2).1]
 ·rcases gG.base b ((im b).1 hb) with h|h
  ·exact(jk _ b h).elim
  ·exact .inr h
 ·match k,h with
  | 0,_=>exact hs.nu 0 rfl
  | 1,_=>exact gG.nu 0 rfl
  | k+2,h=>simp[G.at,c6] at h
 ·rw[jw] at h
  match k,h with
  | 0,_=>exact⟨rfl,rfl⟩
  | k+1,h=>simp[c6] at h
end
def zW(M:List Nat):List Nat→Nat
 | []=>0
 | j::js=>Nat.lor (Nat.lor (Nat.pow 2 j) (M.getD j 0)) (zW M js)
def YQ:List Oper→List Nat→List Nat
 | [],M=>M
 | o::os,M=>YQ os (M++[zW M (lB o)])
def SA(b k:Nat):Bool:=jd (Nat.land (Nat.shiftRight b k) 1) 1
def EV(b:Nat)(y:Ky):Nat→List Ky→Bool
 | _,[]=>true
 | j,x::xs=>(SA b j|| !(x.zE y))&&EV b y (j+1) xs
def Fi(M:List Nat):Nat→List Ky→List Ky→Bool
 | _,_,[]=>true
 | i,pre,y::ys=>EV (M.getD i 0) y 0 pre&&Fi M (i+1) (pre++[y]) ys
def KG(os:List Oper)(L:List Ky):Bool:=TV 0 os&&Fi (YQ os []) 0 [] L
theorem Fk(b k:Nat):SA b k=b.testBit k:=by
 simp only[SA,Nat.testBit]
 have h:Nat.land (Nat.shiftRight b k) 1=(b >>> k) &&& 1:=rfl
 rw[h,Nat.and_comm 1 (b >>> k),Nat.and_one_is_mod]
 rcases Nat.mod_two_eq_zero_or_one (b >>> k) with h2|h2<;>rw[h2]<;>rfl
def Cor(T:List (List Nat))(M:List Nat):Prop:=T.length=M.length∧∀j k,xf k (T.getD j [])=SA (M.getD j 0) k
theorem M4{a b:Bool}(h:a=true↔b=true):a=b:=by
 cases a<;>cases b<;>simp_all
theorem TD(k j:Nat)(l:List Nat):xf k (j::l)=(decide (j=k)||xf k l):=by
 apply M4
 simp only[qm,ay,hX,decide_eq_true_eq]
 exact⟨fun h=>h.imp Eq.symm id,fun h=>h.imp Eq.symm id⟩
theorem Ww(k:Nat)(l l':List Nat):xf k (l++l')=(xf k l||xf k l'):=by
 apply M4
 simp only[qm,List.mem_append,hX]
theorem Fy{T:List (List Nat)}{M:List Nat}(h:Cor T M)(k:Nat):∀(js:List Nat),xf k (vD T js)=SA (zW M js) k
 | []=>by
   simp only[vD,zW,Fk,Nat.zero_testBit]
   rfl
 | j::js=>by
   have e:Nat.lor (Nat.lor (Nat.pow 2 j) (M.getD j 0)) (zW M js)=(2 ^ j ||| M.getD j 0) ||| zW M js:=rfl
   simp only[vD,zW,e,TD,Ww,Fy h k js,h.2 j k]
   simp only[Fk,Nat.testBit_or,Nat.testBit_two_pow,Bool.or_assoc]
theorem Mz:∀(os:List Oper){T:List (List Nat)}{M:List Nat},Cor T M→Cor (BO os T) (YQ os M)
 | [],_,_,h=>h
 | o::os,T,M,h=>by
   simp only[BO,YQ]
   refine Mz os ⟨by simp[h.1],fun j k=>?_⟩
   rcases Nat.lt_trichotomy j T.length with hj|hj|hj
   ·have hj':j<M.length:=by rw[←h.1];exact hj
    have:=h.2 j k
    rw[aA,aA] at this⊢
    rwa [bf hj,bf hj']
   ·subst hj
    have hM:M.length≤T.length:=by rw[h.1];exact aJ _
    rw[aA,aA,bt (aJ _),bt hM,←h.1]
    simp only[kj,List.getElem?_cons_zero,Option.getD_some]
    exact Fy h k _
   ·have hj':M.length<j:=by rw[←h.1];exact hj
    rw[aA,aA,br (by simp;omega),br (by simp;omega)]
    simp only[cg,Fk,Nat.zero_testBit]
    rfl
theorem Fu{b:List Nat}{c:Nat}(h:∀k,xf k b=SA c k)(y:Ky):∀(j:Nat)(l:List Ky),EV c y j l=C1 b y j l
 | _,[]=>rfl
 | j,x::xs=>by simp only[EV,C1,h,Fu h y (j+1) xs]
theorem Gm{T:List (List Nat)}{M:List Nat}(h:Cor T M):∀(i:Nat)(pre l:List Ky),Fi M i pre l=CW T i pre l
 | _,_,[]=>rfl
 | i,pre,y::ys=>by simp only[Fi,CW,Fu (h.2 i),Gm h (i+1)]
theorem Cn{os:List Oper}{L:List Ky}(h:KG os L=true):indep os L=true:=by
 simp only[KG,al] at h
 simp only[indep,al]
 refine⟨h.1,?_⟩
 rw[←Gm (Mz os (T:=[]) (M:=[]) ⟨rfl,fun j k=>?_⟩)]
 ·exact h.2
 ·simp only[List.getD_nil,Fk,Nat.zero_testBit]
  rfl
theorem Gi{os:List Oper}{L:List Ky}{p:Prop}(h:KG os L=true)(hp:p):indep os L=true∧p:=⟨Cn h,hp⟩
theorem iH.nth{g:G}{ks:List Nat}:∀{ps qs:List PV},iH g ks ps qs→∀t,Vw g ks (nth ps t) (nth qs t)
 | _,_,.nil,t=>by cases t<;>exact .same rfl
 | _,_,.cons h _,0=>h
 | _,_,.cons _ h',t+1=>iH.nth h' t
theorem iH.len{g:G}{ks:List Nat}:∀{ps qs:List PV},iH g ks ps qs→qs.length=ps.length
 | _,_,.nil=>rfl
 | _,_,.cons _ h'=>by simp only[a6,iH.len h']
section
variable{P:Program}{X:Cx}{vs:List Value}{e:TypeId}{xs:List (List D)}
theorem QT{args args':List PV}(hv:iH ⟨args,[some (.acc e xs)]⟩ [0] args args')(hs:Sat P X X.ν0 ⟨args,[some (.acc e xs)]⟩ ⟨⟨vs⟩,[]⟩ X.w0) :
 Sat P ⟨X.w0,Own X.ν0 (c6 []),X.ν0,c6 [],X.Z⟩ X.ν0 ⟨args',[]⟩ ⟨⟨vs⟩,[]⟩ X.w0:=by
 have hw:∀b,cF X X.ν0 (G.at ⟨args,[some (.acc e xs)]⟩) b→b<X.w0.heap.size→cF ⟨X.w0,Own X.ν0 (c6 []),X.ν0,c6 [],X.Z⟩ X.ν0 (G.at ⟨args',[]⟩) b∧X.w0.heap[b]?=X.w0.heap[b]?:=fun b hb _=>⟨⟨jk _ b,hb.2⟩,rfl⟩
 have im:∀b,Own X.ν0 (G.at ⟨args,[some (.acc e xs)]⟩) b→cF ⟨X.w0,Own X.ν0 (c6 []),X.ν0,c6 [],X.Z⟩ X.ν0 (G.at ⟨args',[]⟩) b:=fun b hb=>⟨jk _ b,hs.KH hb⟩
 have ll:∀k,G.at ⟨args',[]⟩ k=none:=fun _=>rfl
 refine⟨hs.size.trans hv.len.symm,fun t=>aE.vw hs hw im _ (hv.nth t) (hs.sl t),fun k e h=>?_,fun k k' e e' b h=>?_,fun b hb=>?_,fun k h=>?_,fun k h=>?_,⟨fun b hb=>?_,hs.kt rfl fun b hb=>(jk _ b hb).elim⟩,rR.refl _ _,rfl⟩
 ·rw[ll] at h;cases h
 ·rw[ll] at h;cases h
 ·exact(jk _ b hb).elim
 ·rw[ll] at h;cases h
 ·cases k<;>simp[c6] at h
 ·exact⟨(hs.E9 b hb).1,jk _ b⟩
theorem vt{f:FuncId}{res:PV}{args args':List PV}(hv:iH ⟨args,[some (.acc e xs)]⟩ [0] args args')(hres:res.lt 0=true)(hC:C P f args' [] (bz res [])):C P f args [some (.acc e xs)] (bz res [some .dead]):=by
 refine⟨hC.1,fun X vs jw hO hs=>?_⟩
 refine(hC.2 _ vs rfl rfl (QT hv hs)).mono ?_
 rintro ex w' ⟨v,r,s,ν',rfl,⟨e1,e2⟩,gG⟩
 rw[e1,e2] at gG
 refine⟨v,_,_,X.ν0,rfl,⟨rfl,rfl⟩,?_⟩
 have hno:∀b,¬Own X.ν0 (G.at ⟨[res],[some .dead]⟩) b:=by
  rintro b ⟨k,e,h,hl,_⟩
  match k,h with
  | 0,h=>
    obtain rfl:En.dead=e:=by simpa[G.at,c6] using h
    cases hl
  | k+1,h=>simp[G.at,c6] at h
 refine⟨rfl,fun t=>?_,fun k e h=>?_,fun k k' e e' b h1 h2 hl=>?_,fun b hb=>(hno b hb).elim,fun k h=>?_,fun k h=>?_,hs.E9,gG.An.mono fun b hb _=>(jk _ b hb).elim,rfl⟩
 ·cases t with
  | zero=>
    have h:=gG.sl 0
    simp only[nth] at h⊢
    have hw:∀b,cF (⟨X.w0,Own X.ν0 (c6 []),X.ν0,c6 [],X.Z⟩:Cx) ν' (G.at ⟨[res],[]⟩) b→b<w'.heap.size→cF X X.ν0 (G.at ⟨[res],[some .dead]⟩) b∧w'.heap[b]?=w'.heap[b]?:=fun b hb _=>⟨⟨hno b,hb.2⟩,rfl⟩
    exact aE.QK hw _ _ hres h
  | succ t=>exact trivial
 ·match k,h with
  | 0,h=>
    obtain rfl:En.dead=e:=by simpa[G.at,c6] using h
    exact trivial
  | k+1,h=>simp[G.at,c6] at h
 ·match k,h1 with
  | 0,h1=>
    obtain rfl:En.dead=e:=by simpa[G.at,c6] using h1
    cases hl
  | k+1,h1=>simp[G.at,c6] at h1
 ·match k,h with
  | 0,_=>exact hs.nu 0 rfl
  | k+1,h=>simp[G.at,c6] at h
 ·rw[jw] at h
  match k,h with
  | 0,_=>exact⟨rfl,rfl⟩
  | k+1,h=>simp[c6] at h
end
section
variable{E:Env}{g:G}{d:Nat}{ty:TypeId}{pos:String}{eM:Array Edge}{gd:Option (Nat×Bool)}
theorem Lm{P:Program}(w:World)(n:Nat)(t e:TypeId)(a:Option Addr)(l c:Nat)(h:P.underlying t=some (.slice e)):(Op.equalIn (n+1) t (.slice a l c) (.slice none 0 0)).run P w= .ok a.isNone w:=by
 cases a<;>simp[Op.equalIn,run_underlying h]
theorem PG{P:Program}(w:World)(t e:TypeId)(a:Option Addr)(l c:Nat)(h:P.underlying t=some (.slice e)):(Op.equal t (.slice a l c) (.slice none 0 0)).run P w= .ok a.isNone w:=Lm w 9999 t e a l c h
theorem VG(x:Operand)(t e u:TypeId)(ti:TI)(b:Bool)(ht:E.ti t=some ti)(kE:ti.ty= .slice e)(hp:∀(w:World)(ok:Nat→Prop)(ν:Nat→Nm)(st:Nat→Option En)(v:Value),aE w ok ν st (g.ev x) v→∃a n c,v= .slice a n c∧a.isNone=b) :
 kH E.P ⟨some d,.binOp .eql t x (.const (.slice none 0 0)) u,ty,pos,eM,gd⟩ g ⟨dh x,[]⟩ ⟨some (d,.d (.val (.bool b))),[]⟩:=by
 intro g2 hg
 have h1:=hg.ev (x:=x) (fun t h=>h)
 refine Dn.val rfl fun X ν a w hs=>?_
 have hv:=hs.ev x
 rw[h1] at hv
 obtain⟨ad,n,c,hva,hb⟩:=hp _ _ _ _ _ hv
 have h:=(E.ok t ti ht).ty
 rw[kE] at h
 refine⟨.bool b,?_,nS rfl⟩
 have he:a.eval (.const (.slice none 0 0))= .slice none 0 0:=rfl
 simp[execOp,hva,he,eqGuard,binOp,PG w t e ad n c h,hb]
theorem Kj:∀(w:World)(ok:Nat→Prop)(ν:Nat→Nm)(st:Nat→Option En)(v:Value),aE w ok ν st .b8 v→∃a n c,v= .slice a n c∧a.isNone=true:=by
 intro w ok ν st v h
 simp only[aE] at h
 exact⟨_,_,_,h,rfl⟩
theorem J9(ad:Addr)(n c:Nat):∀(w:World)(ok:Nat→Prop)(ν:Nat→Nm)(st:Nat→Option En)(v:Value),aE w ok ν st (.d (.val (.slice (some ad) n c))) v→∃a n c,v= .slice a n c∧a.isNone=false:=by
 intro w ok ν st v h
 exact⟨_,_,_,fU h,rfl⟩
theorem Kd{x:List D}{xs:List (List D)}:∀(w:World)(ok:Nat→Prop)(ν:Nat→Nm)(st:Nat→Option En)(v:Value),aE w ok ν st (.d (.dt (x::xs))) v→∃a n c,v= .slice a n c∧a.isNone=false:=by
 intro w ok ν st v h
 simp only[aE] at h
 cases h with
 | dt=>exact⟨_,_,_,rfl,rfl⟩
theorem Kn{m:Option (List Ky)}{gs:Option Nat}{rest:qQ→Option (List Ky)→G→Prop}{x:Operand}{t u:TypeId}(e:TypeId)(ti:TI)(b:Bool)(ht:E.ti t=some ti)(kE:ti.ty= .slice e){p:PV}(hx:g.ev x=p)(hp:∀(w:World)(ok:Nat→Prop)(ν:Nat→Nm)(st:Nat→Option En)(v:Value),aE w ok ν st p v→∃a n c,v= .slice a n c∧a.isNone=b)
 (hr:rest .on (mw m (oo (uV gs ⟨dh x,[]⟩) ⟨some (d,.d (.val (.bool b))),[]⟩)) (g.app ⟨some (d,.d (.val (.bool b))),[]⟩)):sR E m gs ⟨some d,.binOp .eql t x (.const (.slice none 0 0)) u,ty,pos,eM,gd⟩ g rest:=
 fg (VG x t e u ti b ht kE (by rw[hx];exact hp)) hr
end
theorem RK{P:Program}{f:FuncId}{R:PV→List (Option En)→Prop}(h1:C P f [.b8] [] R)(h2:∀a c,C P f [.d (.val (.slice (some a) 0 c))] [] R):C P f [.d (.dt [])] [] R:=by
 refine⟨h1.1,fun X vs jw hO hs=>?_⟩
 have hsz:=hs.size
 obtain⟨v,rfl⟩:=List.length_eq_one_iff.1 (show vs.length=1 by simpa using hsz)
 have h0:=hs.sl 0
 have h0:ia X.w0 (cF X X.ν0 (G.at ⟨[.d (.dt [])],[]⟩)) (.dt []) v:=h0
 have key:∀p:PV,aE X.w0 (cF X X.ν0 (G.at ⟨[p],[]⟩)) X.ν0 (G.at ⟨[p],[]⟩) p v→Sat P X X.ν0 ⟨[p],[]⟩ ⟨⟨[v]⟩,[]⟩ X.w0:=fun p hp=>
  ⟨rfl,fun t=>by
   match t with
   | 0=>exact hp
   | t+1=>simp only[nth,aE],hs.en,hs.inj,hs.base,hs.nu,hs.par,hs.E9,hs.An,rfl⟩
 cases h0 with
 | nil=>exact h1.2 X _ jw hO (key .b8 rfl)
 | emp a c h=>exact(h2 a c).2 X _ jw hO (key _ (nS rfl))
 | dt _ us b off cap sz eW hb jS hmax hB hlu hxx hu hc je=>exact(h2 _ cap).2 X _ jw hO (key _ (nS rfl))
theorem xi(z:Array Value)(hz:0<z.toList.length)(n:Nat):(Builtin.zeroCells z n).toList=(aS n z.toList).flatten:=Kh z.toList hz n
theorem xH{P:Program}(w:World)(t e ty:TypeId)(ht:P.underlying t=some (.slice e))(a:Option Addr)(c:Nat):(Builtin.clear_ #[t] ty #[.slice a 0 c]).run P w= .ok (.tuple #[]) w:=by
 cases a<;>simp[Builtin.clear_,run_underlying ht]
theorem IJ{P:Program}(w:World)(t e ty:TypeId)(z:Value)(ht:P.underlying t=some (.slice e))(hv:(zeroValue e).run P w= .ok z w)(b o n c:Nat)(hn:n≠0)(hz:0<z.cells.toList.length)
 (cur:Array Value) (T:TypeId) (hg:w.heap[b]?=some (.cells cur T (0,0))) (hl:o+(aS n z.cells.toList).flatten.length≤cur.size) (h1:∀v∈(aS n z.cells.toList).flatten,v.oneCell'=true) :
 (Builtin.clear_ #[t] ty #[.slice (some ⟨b,o,none⟩) n c]).run P w= .ok (.tuple #[]) (w.setRow b (cur.toList.take o++(aS n z.cells.toList).flatten++cur.toList.drop (o+(aS n z.cells.toList).flatten.length)).toArray):=by
 have jw:=run_storeCells_at (P:=P) b o T (aS n z.cells.toList).flatten 0 cur w hg (by omega) h1
 simp only[gZ] at jw
 obtain⟨m,rfl⟩:∃m,n=m+1:=⟨n-1,by omega⟩
 rw[←xi z.cells hz] at jw⊢
 simp[Builtin.clear_,run_underlying ht,hv,jw]
section
variable{E:Env}{X:Cx}{ν:Nat→Nm}{g:G}{a:Act}{w:World}
def Oh(z:List D)(xs:List (List D))(m:Nat):List (List D):=xs.take m++aS (xs.length-m) z
theorem Uo{t e k m dd:Nat}{ty:TypeId}{pos:String}{eM:Array Edge}{gd:Option (Nat×Bool)}{xs:List (List D)}{z:List D}{ti ei:TI}(ht:E.ti t=some ti)(kE:ti.ty= .slice e)(he:E.ti e=some ei)(hz:Af ei.zero=some z)
 (hk:g.at k=some (.acc e xs)) (hm:m≤xs.length) (n c:Nat) (a0:Option Addr) (hν:(ν k).v= .slice a0 n c) (hv:a.eval (.tmp dd)=sliced a0 m n c ei.n)
 (hs:Sat E.P X ν g a w) (next:Act→World→Prop) (Q:Exit→Act→World→Prop) (hn:∀ν' a' w',Sat E.P X ν' ⟨g.sl,da g.st k (some (.acc e (Oh z xs m)))⟩ a' w'→next a' w') :
 (⟨none,.call ⟨.builtin .clear,#[.tmp dd],#[t]⟩,ty,pos,eM,gd⟩:Oper).wp E.P a w next Q:=by
 have hu:=(E.ok t ti ht).ty
 rw[kE] at hu
 obtain⟨i,zv,i1,i2,i3,i4,i5,i6⟩:=(E.ok e ei he).info
 have hpos:=(E.ok e ei he).pos
 have hzl:zv.cells.toList.length=ei.n:=by simpa using i6
 have hzv:(zeroValue e).run E.P w= .ok zv w:=by simp[zeroValue,typeInfo,i1,i4]
 obtain⟨us,ho,je,hB,hf0⟩:=hs.en k _ hk
 rw[(E.ok e ei he).cells] at je ho
 have hul:us.length=xs.length:=je.len
 have hfl:=je.k9
 have key:∀(w':World)(us':List (List Value)),(execOp a.eval ⟨none,.call ⟨.builtin .clear,#[.tmp dd],#[t]⟩,ty,pos,eM,gd⟩).run E.P w= .ok (.value (.tuple #[])) w'→rR (fun b=>(ν k).has b) w w' →
  (w'.ownsRow 0 e ei.n (ν k).v (Oh z xs m).length us'.flatten)→cu w (cF X ν g.at) ei.n (Oh z xs m) us' →
  (⟨none,.call ⟨.builtin .clear,#[.tmp dd],#[t]⟩,ty,pos,eM,gd⟩:Oper).wp E.P a w next Q:=by
  intro w' us' hr rv qK oq
  unfold Oper.wp
  rw[hr,Oper.upon_value]
  refine hn _ _ _ (hs.C3 k (.acc e xs) (.acc e (Oh z xs m)) hk rfl rv none .undef Go.undef ?_ (fun h=>by cases h))
  intro hwf _
  refine⟨us',?_,?_,by simp[Oh];omega,hf0⟩
  ·rw[(E.ok e ei he).cells]
   exact qK
  ·rw[(E.ok e ei he).cells]
   exact oq.frame hwf rv.size
 have hex:∀(v:Value)(w':World),(Builtin.clear_ #[t] ty #[a.eval (.tmp dd)]).run E.P w= .ok v w'→(execOp a.eval ⟨none,.call ⟨.builtin .clear,#[.tmp dd],#[t]⟩,ty,pos,eM,gd⟩).run E.P w= .ok (.value v) w':=by
  intro v w' h
  unfold execOp
  simp only[resolve,invoke,builtin,Sem.run_bind,Sem.run_pure,Result.andThen_ok,List.map_toArray,aQ,dD,h]
 rcases ho.2 with⟨h1,h2⟩|⟨b,cap,cur,h1,_,h2,h4,h5,h6,h7⟩
 ·rw[h1] at hν
  obtain⟨rfl,rfl,rfl⟩:none=a0∧0=n∧0=c:=by simpa using hν
  have hm0:m=0:=by omega
  subst hm0
  have hxs:xs=[]:=List.eq_nil_of_length_eq_zero h2
  subst hxs
  refine key w us (hex _ _ ?_) (rR.refl _ w) ?_ ?_
  ·rw[hv]
   exact xH w t e ty hu _ _
  ·exact ho
  ·exact je
 ·rw[h1] at hν
  obtain⟨rfl,rfl,rfl⟩:some ⟨b,0,none⟩=a0∧xs.length=n∧cap=c:=by simpa using hν
  by_cases lL:m=xs.length
  ·refine key w us (hex _ _ ?_) (rR.refl _ w) ?_ ?_
   ·rw[hv]
    unfold sliced
    rw[lL,kj]
    exact xH w t e ty hu _ _
   ·simpa[Oh,lL] using ho
   ·simpa[Oh,lL] using je
  ·have hzr:az w (cF X ν g.at) ν g.at (cE z) zv.cells.toList:=w7 (uP _ _ _ _ zv.cells.toList) (by rw[i5];exact hz)
   obtain⟨hz1,hz2⟩:=Bu hzr
   have hrep0:cu w (cF X ν g.at) ei.n (aS (xs.length-m) z) (aS (xs.length-m) zv.cells.toList):=cu.replicate _ (by rw[←hz1];exact hzl) hzl hz2
   have oq:cu w (cF X ν g.at) ei.n (Oh z xs m) (us.take m++aS (xs.length-m) zv.cells.toList):=by
    have:=je.cut 0 m
    simp only[mU] at this
    exact this.append hrep0
   have hmul:m*ei.n≤xs.length*ei.n:=bS _ hm
   have hZ:(aS (xs.length-m) zv.cells.toList).flatten.length=(xs.length-m)*ei.n:=hrep0.k9.trans (by simp)
   have hsum:m*ei.n+(xs.length-m)*ei.n=xs.length*ei.n:=by rw[←Nat.add_mul];congr 1;omega
   have jS:xs.length*ei.n≤cap*ei.n:=bS _ h4
   have lh:=IJ (P:=E.P) w t e ty zv hu hzv b (m*ei.n) (xs.length-m) (cap-m) (by omega) (by omega) cur e h2 (by rw[hZ,hsum,h6];exact jS) hrep0.one
   have hval:a.eval (.tmp dd)= .slice (some ⟨b,m*ei.n,none⟩) (xs.length-m) (cap-m):=by
    rw[hv]
    unfold sliced
    rw[if_neg (by omega),c8,add_lit,df]
   refine key _ _ (hex _ _ (by rw[hval];exact lh)) (kq w b _ _ ((j8 hf0).2 (by rw[h1];rfl))) ?_ oq
   have htake:cur.toList.take (m*ei.n)=(us.take m).flatten:=by
    have:=sg us 0 m je.hu (by omega)
    simp only[mU,Nat.zero_mul] at this
    rw[this,←h7,List.take_take,Nat.min_eq_left hmul]
   have hnew:cur.toList.take (m*ei.n)++(aS (xs.length-m) zv.cells.toList).flatten=(us.take m++aS (xs.length-m) zv.cells.toList).flatten:=by rw[htake,List.flatten_append]
   have hnl:(us.take m++aS (xs.length-m) zv.cells.toList).flatten.length=(Oh z xs m).length*ei.n:=oq.k9
   have hcl:(Oh z xs m).length=xs.length:=by simp[Oh];omega
   rw[h1]
   refine⟨hnl,.inr ⟨b,cap,_,by rw[hcl],Nat.zero_le _,setRow_heap w b _ _ e _ h2,by rw[hcl];exact h4,h5,?_,?_⟩⟩
   ·rw[hnew]
    simp only[List.size_toArray,List.length_append,hnl,hcl,List.length_drop,Array.length_toList,h6,hZ,hsum]
    omega
   ·rw[hnew,hcl]
    simp only
    rw[bV (by rw[hnl,hcl];exact aJ _),ao (by rw[hnl,hcl];exact aJ _)]
end
theorem VP(z:List D)(xs:List (List D))(m:Nat)(h:m≤xs.length):(Oh z xs m).take m=xs.take m:=by
 have e:(xs.take m).length=m:=by simp;omega
 rw[Oh,bV (by omega),ao (by omega)]
theorem XB(z:List D)(xs:List (List D))(m:Nat)(h:m≤xs.length):(Oh z xs m).length=xs.length:=by simp[Oh];omega
theorem Zp{P:Program}{ops:Array Oper}{o1 o2:Oper}{os:List Oper}{g g':G}{K:G→Prop}(hg1:o1.guard=none)(hg2:o2.guard=none)
 (h:∀(X:Cx)(ν:Nat→Nm)(a:Act)(w:World)(next next1:Act→World→Prop)(Q:Exit→Act→World→Prop),Sat P X ν g a w→(∀ν' a' w',Sat P X ν' g' a' w'→next a' w')→(∀a1 w1,o2.wp P a1 w1 next Q→next1 a1 w1)→o1.wp P a w next1 Q)
 (hr:WO P ops os g' K):WO P ops (o1::o2::os) g K:=by
 intro i hi X ν a w Q hs hn
 have ho1:ops[i]?=some o1:=hi 0 o1 rfl
 have ho2:ops[i+1]?=some o2:=hi 1 o2 rfl
 simp only[a6,List.range'_succ,wpOps,ho1]
 have hrest:=hr (i+2) (fun j o' hj=>by have:=hi (j+2) o' (by simpa using hj);rw[show i+2+j=i+(j+2) from by omega];exact this)
 rw[if_pos (by simp[Region.wanted,hg1])]
 refine .inl (h X ν a w (wpOps P ops Q (List.range' (i+2) os.length)) _ Q hs (fun ν' a' w' hs'=>hrest X ν' a' w' Q hs' hn) fun a1 w1 h2=>?_)
 simp only[ho2]
 rw[if_pos (by simp[Region.wanted,hg2])]
 exact .inl h2
section
variable{E:Env}{g:G}{n0:Nat}
theorem aau{ops:Array Oper}{os:List Oper}{K:G→Prop}{x lo:Operand}{t e k d:Nat}{m:Int}{ty ty2:TypeId}{pos pos2:String}{eM aft2:Array Edge}{xs:List (List D)}(z:List D)(ti ei:TI)(ht:E.ti t=some ti)(kE:ti.ty= .slice e)(he:E.ti e=some ei)(hz:Af ei.zero=some z)
 (hx:g.ev x= .acc k) (hlo:g.ev lo= .d (.val (.int .i64 m))) (hk:g.at k=some (.acc e xs)) (h0:0≤m) (hm:m≤xs.length) (hd:d<g.sl.length)
 (hr:WO E.P ops os ⟨lV g.sl d .any,da g.st k (some (.acc e (Oh z xs m.toNat)))⟩ K) :
 WO E.P ops (⟨some d,.slice t x (some lo) none none,ty,pos,eM,none⟩::⟨none,.call ⟨.builtin .clear,#[.tmp d],#[t]⟩,ty2,pos2,aft2,none⟩::os) g K:=by
 refine Zp rfl rfl (fun X ν a w next next1 Q hs hn h2=>?_) hr
 have hu:=(E.ok t ti ht).ty
 rw[kE] at hu
 have hv:=hs.ev x
 rw[hx] at hv
 have nh:=hs.ev lo
 rw[hlo] at nh
 have nh:=fU nh
 simp only[aE] at hv
 have hsize:=(E.ok e ei he).size
 have hs1:=hs.put d (p:=.any) (v:=Go.undef) trivial
 obtain⟨us,ho,je,hB,hf0⟩:=hs.en k _ hk
 have lh:∃n c a0,(ν k).v= .slice a0 n c∧(execOp a.eval ⟨some d,.slice t x (some lo) none none,ty,pos,eM,none⟩).run E.P w= .ok (.value (sliced a0 m.toNat n c ei.n)) w:=by
  rcases ho.2 with⟨h1,h2⟩|⟨b,cap,cur,h1,_,_,h4,_⟩
  ·refine⟨0,0,none,h1,?_⟩
   have hr:=tx (P:=E.P) w hu hsize none 0 0 (some (.int .i64 m)) none m ((0:Nat):Int) (.inr ⟨_,rfl⟩) (.inl ⟨rfl,rfl⟩) h0 (by omega) (lx _) (aJ _)
   simp only[execOp,hv.2,h1,nh,dB,c8,Sem.run_bind,hr,Result.andThen_ok]
   rfl
  ·refine⟨xs.length,cap,some ⟨b,0,none⟩,h1,?_⟩
   have hr:=tx (P:=E.P) w hu hsize (some ⟨b,0,none⟩) xs.length cap (some (.int .i64 m)) none m (xs.length:Int) (.inr ⟨_,rfl⟩) (.inl ⟨rfl,rfl⟩) h0 (by omega) (lx _) h4
   simp only[bn] at hr
   simp only[execOp,hv.2,h1,nh,dB,c8,Sem.run_bind,hr,Result.andThen_ok]
   rfl
 obtain⟨n,c,a0,hν,hr⟩:=lh
 unfold Oper.wp
 rw[hr,Oper.upon_value]
 refine h2 _ _ ?_
 have hs2:=hs.put d (p:=.any) (v:=sliced a0 m.toNat n c ei.n) trivial
 refine Uo (g:=⟨lV g.sl d .any,g.st⟩) ht kE he hz hk (by omega) n c a0 hν ?_ hs2 next Q hn
 show(a.put (some d) _).tmps.getD d Go.undef=_
 rw[rT,if_pos ⟨rfl,by rw[hs.size];exact hd⟩]
theorem YH(x hi:Operand)(t e k:Nat){d:Nat}{ty:TypeId}{pos:String}{eM:Array Edge}{gd:Option (Nat×Bool)}(ti ei:TI)(xs:List (List D))(h:Int)(ht:E.ti t=some ti)(kE:ti.ty= .slice e)(he:E.ti e=some ei)
 (hx:g.ev x= .acc k) (hk:g.at k=some (.acc e xs)) (hhi:g.ev hi= .d (.val (.int .i64 h))) (h0:0≤h) (h1:h≤xs.length) :
 kH E.P ⟨some d,.slice t x none (some hi) none,ty,pos,eM,gd⟩ g ⟨dh x++dh hi,[k]⟩ ⟨some (d,.d (.dt (xs.take h.toNat))),[(k,.dead)]⟩:=by
 intro g2 hg
 have e1:=hg.ev (x:=x) (fun t h=>by simp[h])
 have e2:=hg.ev (x:=hi) (fun t h=>by simp[h])
 have h3:=(hg.p k (by simp)).trans hk
 intro X ν a w next Q hs hn
 have hu:=(E.ok t ti ht).ty
 rw[kE] at hu
 have hv:=hs.ev x
 rw[e1,hx] at hv
 have nh:=hs.ev hi
 rw[e2,hhi] at nh
 have nh:=fU nh
 simp only[aE] at hv
 have hsize:=(E.ok e ei he).size
 obtain⟨hn',rfl⟩:∃n:Nat,h=n:=⟨h.toNat,by omega⟩
 simp only[bn] at hn⊢
 obtain⟨us,ho,je,hB,hf0⟩:=hs.en k _ h3
 have ll:∀j,(g2.app ⟨some (d,.d (.dt (xs.take hn'))),[(k,.dead)]⟩).at j=if j=k then some .dead else g2.at j:=fun j=>gx g2.st k (some .dead) j
 have sN:∀j e1,(g2.app ⟨some (d,.d (.dt (xs.take hn'))),[(k,.dead)]⟩).at j=some e1→e1.live=true→j≠k∧g2.at j=some e1:=by
  intro j e1 h1 h2
  rw[ll] at h1
  by_cases hj:j=k
  ·rw[if_pos hj] at h1
   cases h1;cases h2
  ·rw[if_neg hj] at h1
   exact⟨hj,h1⟩
 have im:∀b,Own ν (g2.app ⟨some (d,.d (.dt (xs.take hn'))),[(k,.dead)]⟩).at b→Own ν g2.at b:=by
  rintro b ⟨j,e1,h1,h2,h3⟩
  exact⟨j,e1,(sN j e1 h1 h2).2,h2,h3⟩
 have hw:∀b,cF X ν g2.at b→b<w.heap.size→cF X ν (g2.app ⟨some (d,.d (.dt (xs.take hn'))),[(k,.dead)]⟩).at b∧w.heap[b]?=w.heap[b]?:=fun b hb _=>⟨⟨fun ho=>hb.1 (im b ho),hb.2⟩,rfl⟩
 have lh:∃v,(execOp a.eval ⟨some d,.slice t x none (some hi) none,ty,pos,eM,gd⟩).run E.P w= .ok (.value v) w∧ia w (cF X ν (g2.app ⟨some (d,.d (.dt (xs.take hn'))),[(k,.dead)]⟩).at) (.dt (xs.take hn')) v:=by
  rcases ho.2 with⟨k1,k2⟩|⟨b,cap,cur,k1,_,k2,k4,k5,k6,k7⟩
  ·have hr:=tx (P:=E.P) w hu hsize none 0 0 none (some (.int .i64 (hn':Int))) 0 (hn':Int) (.inl ⟨rfl,rfl⟩) (.inr ⟨_,rfl⟩) (lx _) h0 (by omega) (aJ _)
   obtain rfl:hn'=0:=by omega
   refine⟨.slice none 0 0,?_,by simp;exact .nil⟩
   simp only[execOp,hv.2,k1,nh,dB,c8,Sem.run_bind,hr,Result.andThen_ok]
   rfl
  ·have hr:=tx (P:=E.P) w hu hsize (some ⟨b,0,none⟩) xs.length cap none (some (.int .i64 (hn':Int))) 0 (hn':Int) (.inl ⟨rfl,rfl⟩) (.inr ⟨_,rfl⟩) (lx _) h0 (by omega) k4
   simp only[bn] at hr
   refine⟨.slice (some ⟨b,0,none⟩) hn' cap,?_,?_⟩
   ·simp only[execOp,hv.2,k1,nh,dB,c8,Sem.run_bind,hr,Result.andThen_ok]
    unfold sliced
    simp[add_lit]
   ·have hrr':=(je.frame hw (aJ _)).cut 0 hn'
    simp only[mU] at hrr'
    have dy:(xs.take hn').length=hn':=by simp;omega
    have hcl:=sg us 0 hn' je.hu (by rw[je.len];omega)
    simp only[mU,Nat.zero_mul] at hcl
    have hokb:cF X ν (g2.app ⟨some (d,.d (.dt (xs.take hn'))),[(k,.dead)]⟩).at b:=by
     refine⟨?_,hs.KH ⟨k,_,h3,rfl,.inl (by rw[k1];rfl)⟩⟩
     rintro⟨j,e1,m1,m2,m3⟩
     obtain⟨m4,m5⟩:=sN j e1 m1 m2
     exact m4 (hs.inj j k e1 _ b m5 h3 m2 rfl m3 (.inl (by rw[k1];rfl)))
    have hres:=ia.dt (w:=w) (ok:=cF X ν (g2.app ⟨some (d,.d (.dt (xs.take hn'))),[(k,.dead)]⟩).at) (xs.take hn') (us.take hn') b 0 cap (E.P.cellsOf e) hokb (pW k2) (by rw[dy];omega) k5 (by rw[dy];omega) hrr'.len hrr'.hx hrr'.hu (fun j u hj=>?_) hrr'.hr
    ·rw[dy] at hres
     exact hres
    ·rw[hcl,←k7,List.take_take] at hj
     have hj':cur.toList[j]?=some u:=by
      rw[List.getElem?_take] at hj
      split at hj
      ·exact hj
      ·cases hj
     have hj2:cur[j]?=some u:=by simpa using hj'
     simp[World.cell?,k2,hj2]
 obtain⟨v,hr,oq⟩:=lh
 unfold Oper.wp
 rw[hr,Oper.upon_value]
 refine hn ν _ _ (hs.W4 (g':=g2.app ⟨some (d,.d (.dt (xs.take hn'))),[(k,.dead)]⟩) (fun _=>False) (rR.refl _ w) (fun _ hb=>hb.elim) ?_ ?_ ?_ ?_ ?_ ?_ ?_ rfl)
 ·intro j hj
  refine⟨rfl,?_⟩
  rw[ll]
  split
  ·rfl
  ·exact hj
 ·intro j e1 hj
  rw[ll] at hj
  by_cases lJ:j=k
  ·rw[if_pos lJ] at hj
   cases hj
   exact .inr trivial
  ·rw[if_neg lJ] at hj
   exact .inl ⟨hj,rfl,fun _ _ _ hb=>hb⟩
 ·intro j e1 b m1 m2 m3
  exact .inl ⟨j,e1,(sN j e1 m1 m2).2,m2,m3⟩
 ·intro j j' e1 e2 b m1 m2 m3 m4 m5 m6
  exact hs.inj j j' e1 e2 b (sN j e1 m1 m3).2 (sN j' e2 m2 m4).2 m3 m4 m5 m6
 ·intro j hj
  rw[ll] at hj
  by_cases lJ:j=k
  ·exact .inl (by rw[lJ,h3];rfl)
  ·rw[if_neg lJ] at hj
   exact .inl hj
 ·simp[G.app,uw,size_put,jr,hs.size]
 ·intro t
  simp only[G.app,uw,rT,nC,hs.size]
  by_cases hc:t=d∧d<g2.sl.length
  ·simp only[hc,and_self,if_true]
   refine .inr ?_
   simp only[aE]
   exact oq
  ·simp only[hc,if_false]
   exact .inl ⟨trivial,trivial⟩
def onQ(Q:Ex→G→Prop):qQ→Ex→G→Prop
 | .on=>Q
 | .off=>fun _ _=>False
theorem dW(Q:Ex→G→Prop)(e:Ex)(g:G):onQ Q .on e g=Q e g:=rfl
theorem iI(hm:E.P.follows .mixedOrders=true){c:Code}{Q:Ex→G→Prop}(h:Mt E n0 c .on g (onQ Q)):W E.P n0 c g Q:=Qq hm c g _ h
theorem dS(K:G→Prop)(Q:Ex→G→Prop)(g:G):Rt K Q .normal g=K g:=rfl
theorem YA(K:G→Prop)(Q:Ex→G→Prop)(i:Nat)(g:G):Rt K Q (.exit i) g=Q (.exit i) g:=rfl
theorem yo(K:G→Prop)(Q:Ex→G→Prop)(g:G):Rt K Q .ret g=Q .ret g:=rfl
theorem JS{P:Program}(t k e:Nat)(xs:List (List D))(ht:nth g.sl t= .acc k)(hk:g.at k=some (.acc e xs)):qz P n0 g ⟨lV g.sl t (.d (.dt xs)),da g.st k (some .dead)⟩:=by
 intro X ν a w _ hs
 refine⟨ν,?_⟩
 obtain⟨us,ho,je,hB,hf0⟩:=hs.en k _ hk
 have ll:∀j,(⟨lV g.sl t (.d (.dt xs)),da g.st k (some .dead)⟩:G).at j=if j=k then some .dead else g.at j:=fun j=>gx g.st k (some .dead) j
 have sN:∀j e1,(⟨lV g.sl t (.d (.dt xs)),da g.st k (some .dead)⟩:G).at j=some e1→e1.live=true→j≠k∧g.at j=some e1:=by
  intro j e1 h1 h2
  rw[ll] at h1
  by_cases hj:j=k
  ·rw[if_pos hj] at h1
   cases h1;cases h2
  ·rw[if_neg hj] at h1
   exact⟨hj,h1⟩
 have im:∀b,Own ν (⟨lV g.sl t (.d (.dt xs)),da g.st k (some .dead)⟩:G).at b→Own ν g.at b:=by
  rintro b ⟨j,e1,h1,h2,h3⟩
  exact⟨j,e1,(sN j e1 h1 h2).2,h2,h3⟩
 have hw:∀b,cF X ν g.at b→b<w.heap.size→cF X ν (⟨lV g.sl t (.d (.dt xs)),da g.st k (some .dead)⟩:G).at b∧w.heap[b]?=w.heap[b]?:=fun b hb _=>⟨⟨fun ho=>hb.1 (im b ho),hb.2⟩,rfl⟩
 have oq:ia w (cF X ν (⟨lV g.sl t (.d (.dt xs)),da g.st k (some .dead)⟩:G).at) (.dt xs) (ν k).v:=by
  refine xj ho je hB (fun b hb=>⟨?_,hs.KH ⟨k,_,hk,rfl,.inl hb⟩⟩) hw
  rintro⟨j,e1,m1,m2,m3⟩
  obtain⟨m4,m5⟩:=sN j e1 m1 m2
  exact m4 (hs.inj j k e1 _ b m5 hk m2 rfl m3 (.inl hb))
 refine hs.W4 (g':=⟨lV g.sl t (.d (.dt xs)),da g.st k (some .dead)⟩) (fun _=>False) (rR.refl _ w) (fun _ hb=>hb.elim) ?_ ?_ ?_ ?_ ?_ ?_ ?_ rfl
 ·intro j hj
  refine⟨rfl,?_⟩
  rw[ll]
  split
  ·rfl
  ·exact hj
 ·intro j e1 hj
  rw[ll] at hj
  by_cases lJ:j=k
  ·rw[if_pos lJ] at hj
   cases hj
   exact .inr trivial
  ·rw[if_neg lJ] at hj
   exact .inl ⟨hj,rfl,fun _ _ _ hb=>hb⟩
 ·intro j e1 b m1 m2 m3
  exact .inl ⟨j,e1,(sN j e1 m1 m2).2,m2,m3⟩
 ·intro j j' e1 e2 b m1 m2 m3 m4 m5 m6
  exact hs.inj j j' e1 e2 b (sN j e1 m1 m3).2 (sN j' e2 m2 m4).2 m3 m4 m5 m6
 ·intro j hj
  rw[ll] at hj
  by_cases lJ:j=k
  ·exact .inl (by rw[lJ,hk];rfl)
  ·rw[if_neg lJ] at hj
   exact .inl hj
 ·simp[jr,hs.size]
 ·intro j
  simp only[nC]
  by_cases hc:j=t∧t<g.sl.length
  ·simp only[hc,and_self,if_true]
   refine .inr ?_
   have:=hs.sl t
   rw[ht] at this
   simp only[aE] at this⊢
   rw[this.2]
   exact oq
  ·simp only[hc,if_false]
   exact .inl ⟨trivial,trivial⟩
def TP(E:Env)(rs:List ResultVar)(n0:Nat)(R:PV→List (Option En)→Prop)(g:G):Prop:=∃g',qz E.P n0 g g'∧z7 E rs n0 R g'
theorem eP{rs:List ResultVar}{R:PV→List (Option En)→Prop}(h:z7 E rs n0 R g):TP E rs n0 R g:=⟨g,qz.refl g,h⟩
theorem HA {f : FuncId} {fn : Func} {c : Code} {args : List PV} {eX : List (Option En)} {R : PV → List (Option En) → Prop} {nt : Nat} {rs : List ResultVar} (hf : E.P.funcs[f]? = some fn) (hb : fn.body = some c) (hname : (fn.name == "runtime.NumGoroutine") = false)
 (hnt:fn.ntmps=nt) (hrs:fn.results.toList=rs) (hn:yk (xY args) nt=true) (h:qL args→BF eX→W E.P (lS eX) c ⟨dx nt .undef (VA 0 args),eX⟩ (Qt (TP E rs (lS eX) R))):C E.P f args eX R:=by
 have hn:=ld hn
 rw[oM] at hn
 rw[←RA hn,nJ] at h
 refine Nq hf hb hname (TP E rs eX.length R) (fun _ X ν a w ⟨_,hw,h1⟩ hp hs=>let ⟨_,hs'⟩:=hw X ν a w hp hs;z7.sat h1 hp hs' hrs) ?_
 rw[hnt,←AG]
 refine Y8 fun h1 h2=>h ?_ h2
 have h1:qL (pad args nt):=h1
 rw[AG] at h1
 exact C7 h1
end
def As(P:Program)(t:TypeId):Bool:=
 match P.underlying t with
 | some (.struct ⟨[f, g]⟩) => (f.name != "_" && (g.name != "_" && (f.offset == 0 && (g.offset == 1 && ((match P.underlying f.type, P.underlying g.type with | some (.int _), some (.int _) => true | _, _ => false) && (!P.stoodInHeld t && !P.eqGuardType P.depth t))))))
 | _=>false
def jn(a b c e:Int):Bool:=a == c&&b == e
theorem Aa {P : Program} {t : TypeId} (h : As P t = true) : ∃ (f g : Field) (k l : IntKind), P.underlying t = some (.struct ⟨[f, g]⟩) ∧ f.name ≠ "_" ∧ g.name ≠ "_" ∧ f.offset = 0 ∧ g.offset = 1 ∧ P.underlying f.type = some (.int k) ∧ P.underlying g.type = some (.int l) ∧ P.stoodInHeld t = false ∧ P.eqGuardType P.depth t = false := by
 unfold As at h
 split at h
 ·rename_i f g hu
  simp only[al,bne_iff_ne,ne_eq,beq_iff_eq,mq] at h
  obtain⟨h1,h2,h3,h4,h5,h6,h7⟩:=h
  split at h5
  ·rename_i k l hk hl
   exact⟨f,g,k,l,hu,h1,h2,h3,h4,hk,hl,h6,h7⟩
  ·cases h5
 ·cases h
theorem Du{P:Program}(w:World){t:TypeId}(h:As P t=true)(a b c e:Int) :
 (Op.equalIn 10000 t (.agg ⟨[.int .i64 a,.int .i64 b]⟩) (.agg ⟨[.int .i64 c,.int .i64 e]⟩)).run P w= .ok (jn a b c e) w:=by
 obtain⟨f,g,k,l,hu,n1,n2,o1,o2,hf,hg,hs,_⟩:=Aa h
 have hfs:P.fieldsOf t=⟨[f,g]⟩:=by simp only[Program.fieldsOf,hu]
 rw[run_equalIn_struct w 9999 t _ _ (by rw[hfs];exact hu) hs,hfs]
 have p1:P.plainKey f.type=true:=by simp[Program.plainKey,hf]
 have p2:P.plainKey g.type=true:=by simp[Program.plainKey,hg]
 have e1:=run_part_plain (P:=P) w p1 (xs:=⟨[.int .i64 a,.int .i64 b]⟩) (off:=f.offset) (v:=.int .i64 a) (by rw[o1];rfl)
 have e2:=run_part_plain (P:=P) w p1 (xs:=⟨[.int .i64 c,.int .i64 e]⟩) (off:=f.offset) (v:=.int .i64 c) (by rw[o1];rfl)
 have e3:=run_part_plain (P:=P) w p2 (xs:=⟨[.int .i64 a,.int .i64 b]⟩) (off:=g.offset) (v:=.int .i64 b) (by rw[o2];rfl)
 have e4:=run_part_plain (P:=P) w p2 (xs:=⟨[.int .i64 c,.int .i64 e]⟩) (off:=g.offset) (v:=.int .i64 e) (by rw[o2];rfl)
 have q1:(Op.equalIn 9999 f.type (.int .i64 a) (.int .i64 c)).run P w= .ok (a == c) w:=run_equalIn_int w 9998 f.type .i64 k a c hf
 have q2:(Op.equalIn 9999 g.type (.int .i64 b) (.int .i64 e)).run P w= .ok (b == e) w:=run_equalIn_int w 9998 g.type .i64 l b e hg
 simp only[Op.eqFields,n1,n2,ne_eq,not_false_eq_true,if_true,Sem.run_bind,Sem.run_ite,e1,e2,e3,e4,Result.andThen_ok,q1,q2,jn]
 cases a == c
 ·rfl
 ·simp only[l7,ax,if_false,aB,Sem.run_bind,Sem.run_ite,e3,e4,Result.andThen_ok,q2]
  cases b == e<;>rfl
section
variable{E:Env}{g:G}{d:Nat}{ty:TypeId}{pos:String}{eM:Array Edge}{gd:Option (Nat×Bool)}
theorem AZ{w:World}{ok:Nat→Prop}{ν:Nat→Nm}{st:Nat→Option En}{a b:Int}{v:Value}(h:aE w ok ν st (.agg [.d (.val (.int .i64 a)),.d (.val (.int .i64 b))]) v):v= .agg ⟨[.int .i64 a,.int .i64 b]⟩:=by
 simp only[aE] at h
 obtain⟨vs,rfl,h⟩:=h
 match vs,h with
 | [v1,v2],h=>
   simp only[az,and_true] at h
   rw[fU h.1,fU h.2]
theorem Sv(x y:Operand)(t u:TypeId)(a b c e:Int)(ht:As E.P t=true)(hx:g.ev x= .agg [.d (.val (.int .i64 a)),.d (.val (.int .i64 b))])(hy:g.ev y= .agg [.d (.val (.int .i64 c)),.d (.val (.int .i64 e))]) :
 kH E.P ⟨some d,.binOp .eql t x y u,ty,pos,eM,gd⟩ g ⟨dh x++dh y,[]⟩ ⟨some (d,.d (.val (.bool (jn a b c e)))),[]⟩:=by
 intro g2 hg
 have h1:=hg.ev (x:=x) (fun t h=>du _ h)
 have h2:=hg.ev (x:=y) (fun t h=>gf _ h)
 refine Dn.val rfl fun X ν act w hs=>?_
 have hv:=hs.ev x
 have nh:=hs.ev y
 rw[h1,hx] at hv
 rw[h2,hy] at nh
 have q1:=AZ hv
 have q2:=AZ nh
 obtain⟨_,_,_,_,_,_,_,_,_,_,_,_,hm⟩:=Aa ht
 refine⟨.bool (jn a b c e),?_,nS rfl⟩
 simp[execOp,q1,q2,run_eqGuard_agg w .eql t x y _ _ hm,run_eql_struct,Du w ht]
theorem Tw(x y:Operand)(t u:TypeId)(a b c e:Int)(ht:As E.P t=true)(hx:g.ev x= .agg [.d (.val (.int .i64 a)),.d (.val (.int .i64 b))])(hy:g.ev y= .agg [.d (.val (.int .i64 c)),.d (.val (.int .i64 e))]) :
 kH E.P ⟨some d,.binOp .neq t x y u,ty,pos,eM,gd⟩ g ⟨dh x++dh y,[]⟩ ⟨some (d,.d (.val (.bool (!jn a b c e)))),[]⟩:=by
 intro g2 hg
 have h1:=hg.ev (x:=x) (fun t h=>du _ h)
 have h2:=hg.ev (x:=y) (fun t h=>gf _ h)
 refine Dn.val rfl fun X ν act w hs=>?_
 have hv:=hs.ev x
 have nh:=hs.ev y
 rw[h1,hx] at hv
 rw[h2,hy] at nh
 have q1:=AZ hv
 have q2:=AZ nh
 obtain⟨_,_,_,_,_,_,_,_,_,_,_,_,hm⟩:=Aa ht
 refine⟨.bool (!jn a b c e),?_,nS rfl⟩
 simp[execOp,q1,q2,run_eqGuard_agg w .neq t x y _ _ hm,run_neq_struct,Du w ht]
theorem FF{m:Option (List Ky)}{gs:Option Nat}{rest:qQ→Option (List Ky)→G→Prop}{x y:Operand}{t u:TypeId}(ht:As E.P t=true){a b c e:Int}(hx:g.ev x= .agg [.d (.val (.int .i64 a)),.d (.val (.int .i64 b))])(hy:g.ev y= .agg [.d (.val (.int .i64 c)),.d (.val (.int .i64 e))])
 (hr:rest .on (mw m (oo (uV gs ⟨dh x++dh y,[]⟩) ⟨some (d,.d (.val (.bool (jn a b c e)))),[]⟩)) (g.app ⟨some (d,.d (.val (.bool (jn a b c e)))),[]⟩)):sR E m gs ⟨some d,.binOp .eql t x y u,ty,pos,eM,gd⟩ g rest:=
 fg (Sv x y t u a b c e ht hx hy) hr
theorem Kv{m:Option (List Ky)}{gs:Option Nat}{rest:qQ→Option (List Ky)→G→Prop}{x y:Operand}{t u:TypeId}(ht:As E.P t=true){a b c e:Int}(hx:g.ev x= .agg [.d (.val (.int .i64 a)),.d (.val (.int .i64 b))])(hy:g.ev y= .agg [.d (.val (.int .i64 c)),.d (.val (.int .i64 e))])
 (hr:rest .on (mw m (oo (uV gs ⟨dh x++dh y,[]⟩) ⟨some (d,.d (.val (.bool (!jn a b c e)))),[]⟩)) (g.app ⟨some (d,.d (.val (.bool (!jn a b c e)))),[]⟩)):sR E m gs ⟨some d,.binOp .neq t x y u,ty,pos,eM,gd⟩ g rest:=
 fg (Tw x y t u a b c e ht hx hy) hr
theorem ZX(x y:Operand)(m n:Int)(tys:Array TypeId)(hx:g.ev x= .d (.val (.int .i64 m)))(hy:g.ev y= .d (.val (.int .i64 n))) :
 kH E.P ⟨some d,.call ⟨.builtin .max,#[x,y],tys⟩,ty,pos,eM,gd⟩ g ⟨dh x++dh y,[]⟩ ⟨some (d,.d (.val (.int .i64 (if m<n then n else m)))),[]⟩:=
 p9 rfl hx hy rfl fun a w h1 h2=>by
  simp[execOp,resolve,invoke,builtin,Builtin.max_,Builtin.max2,h1,h2]
theorem YS{m:Option (List Ky)}{gs:Option Nat}{rest:qQ→Option (List Ky)→G→Prop}{x y:Operand}{tys:Array TypeId}(a b c:Int)(hc:(if a<b then b else a)=c)(hx:g.ev x= .d (.val (.int .i64 a)))(hy:g.ev y= .d (.val (.int .i64 b)))
 (hr:rest .on (mw m (oo (uV gs ⟨dh x++dh y,[]⟩) ⟨some (d,.d (.val (.int .i64 c))),[]⟩)) (g.app ⟨some (d,.d (.val (.int .i64 c))),[]⟩)):sR E m gs ⟨some d,.call ⟨.builtin .max,#[x,y],tys⟩,ty,pos,eM,gd⟩ g rest:=by
 subst hc
 exact fg (ZX x y a b tys hx hy) hr
theorem Xq(x:Operand)(m:Int)(t u:TypeId)(hx:g.ev x= .d (.val (.int .u64 m))) :
 kH E.P ⟨some d,.binOp .shr t x (.const (.int .u64 1)) u,ty,pos,eM,gd⟩ g ⟨dh x,[]⟩ ⟨some (d,.d (.val (.int .u64 (m.fdiv 2)))),[]⟩:=
 EU rfl hx rfl fun a w h1=>by
  have he:a.eval (.const (.int .u64 1))= .int .u64 1:=rfl
  have hb:min 1 (IntKind.u64).bits=1:=by decide
  simp[execOp,h1,he,eqGuard,binOp,Op.shift,hb]
theorem aan{m:Option (List Ky)}{gs:Option Nat}{rest:qQ→Option (List Ky)→G→Prop}{x:Operand}{t u:TypeId}(a c:Int)(hc:a.fdiv 2=c)(hx:g.ev x= .d (.val (.int .u64 a)))
 (hr:rest .on (mw m (oo (uV gs ⟨dh x,[]⟩) ⟨some (d,.d (.val (.int .u64 c))),[]⟩)) (g.app ⟨some (d,.d (.val (.int .u64 c))),[]⟩)):sR E m gs ⟨some d,.binOp .shr t x (.const (.int .u64 1)) u,ty,pos,eM,gd⟩ g rest:=by
 subst hc
 exact fg (Xq x a t u hx) hr
theorem wrap_u64{n:Int}(h0:0≤n)(h1:n≤9223372036854775807):IntKind.wrap .u64 n=n:=by
 simp only[IntKind.wrap,IntKind.bits,IntKind.signed,aK,ax,if_false]
 omega
end
end Go.Eng
