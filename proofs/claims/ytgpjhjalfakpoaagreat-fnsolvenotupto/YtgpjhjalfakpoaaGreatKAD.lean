/-
  The symbolic layer, twenty-third text: from a function's code to its contract; what the working out may unfold.
-/
import Derived.Test.YtgpjhjalfakpoaaGreatKAC
import Derived.Laws.StructEq
import Derived.Laws.IdiomCopy
import Derived.Deep.Draws
set_option linter.unusedVariables false
set_option linter.unusedSimpArgs false
open Array renaming length_toList→cL
open Bool renaming and_eq_true→ae,false_and→aI,or_eq_true→fp,not_true→fF,not_false→gi
open Int renaming toNat_natCast→aF,le_refl→fy
open List renaming getElem?_eq_getElem→ab,take_of_length_le→ao,length_cons→aq,replicate→ar,mem_cons→aw,getD_eq_getElem?_getD→az,map_cons→aQ,getElem?_append_right→aV,getElem?_append_left→aX,nil_append→bx,getD→bI,getElem?_eq_none→bK,cons_append→bM,length_eq_one_iff→cg,take_append_of_le_length→cC,map_nil→cP,drop_zero→gg
open Nat renaming le_refl→au,mul_le_mul_right→aW,eq_of_beq_eq_true→aZ,zero_add→bR,add_zero→dY,beq→eA,sub_self→gu,zero_mul→lh
open Option renaming map_some→cX,map_none→dL,getD_none→gh,toList_some→lW
namespace Go.Eng
open Go.RowKit
def pad:List PV→Nat→List PV
 | [],0=>[]
 | [],n+1=>.undef::pad [] n
 | l,0=>l
 | a::as,n+1=>a::pad as n
theorem qy:∀(l:List PV)(n:Nat),pad l n=l++ar (n-l.length) .undef
 | [],0=>rfl
 | [],n+1=>by simp[pad,qy [] n,List.replicate_succ]
 | a::as,0=>by simp[pad]
 | a::as,n+1=>by simp[pad,qy as n]
def qC(E:Env)(rs:List ResultVar)(n0:Nat)(R:PV→List (Option En)→Prop)(g:G):Prop:=
 ∃ps m q st',qK E g rs=some ps∧Wk n0 m ⟨[fS ps],g.st⟩ ⟨[q],st'⟩∧R q st'
theorem qC.sat{E:Env}{rs:List ResultVar}{n0:Nat}{R:PV→List (Option En)→Prop}{g:G}(h:qC E rs n0 R g){X:Cx}{ν:Nat→Nm}{a:Act}{w:World}(hp:MC X n0)(hs:Sat E.P X ν g a w){fn:Func}(hfn:fn.results.toList=rs) :
 ∃v res st' ν',(results fn a.tmps).run E.P w= .ok v w∧R res st'∧Gh E.P X ν' res st' v w:=by
 obtain⟨ps,m,q,st',h1,h2,h3⟩:=h
 obtain⟨v,hr,hv⟩:=ug hs (fn:=fn) (by rw[hfn];exact h1)
 have hs1:Sat E.P X ν ⟨[fS ps],g.st⟩ ⟨#[v],[]⟩ w:=by
  refine⟨rfl,fun t=>?_,hs.en,hs.inj,hs.base,hs.nu,hs.par,hs.wS,hs.qf,rfl⟩
  cases t with
  | zero=>exact hv
  | succ t=>simp[nth,aj]
 obtain⟨ν',hs2⟩:=Ah h2 X ν _ _ hp hs1
 exact⟨v,q,st',ν',hr,h3,hs2⟩
theorem N0{E:Env}{rs:List ResultVar}{g:G}{ps:List PV}{q:PV}(h1:qK E g rs=some ps)(h2:wk ⟨[fS ps],g.st⟩ [] (fS ps) q):qC E rs 0 (bB q []) g:=
 ⟨ps,[],q,[],h1,⟨by simp only[qS];exact⟨h2,trivial⟩,by simp[gJ],rfl,rfl⟩,rfl,rfl⟩
theorem KL:eZ []=[]:=rfl
theorem Hk(x:D)(xs:List D):eZ (x::xs)= .d x::eZ xs:=rfl
def qD(t:Nat):List (Nat×PV)→PV→PV
 | [],p=>p
 | (d,v)::r,p=>match eA t d with
   | true=>v
   | false=>qD t r p
def eE(n:Nat)(p:PV)(ch:List (Nat×PV)):List PV:=(List.range n).map fun t=>qD t ch p
theorem px{a b:Nat}:Nat.ble b a=false↔a<b:=by
 cases h:Nat.ble b a
 ·simp only[true_iff]
  have h':¬b≤a:=fun hl=>by rw[Nat.ble_eq_true_of_le hl] at h;cases h
  omega
 ·have:=Nat.le_of_ble_eq_true h
  simp
  omega
theorem oi:∀(l:List PV)(t:Nat),nth l t=l.getD t .any
 | [],t=>by cases t<;>rfl
 | _::_,0=>rfl
 | _::l,t+1=>by simp only[nth,oi l t];rfl
theorem rG(n:Nat)(p:PV)(ch:List (Nat×PV)):(eE n p ch).length=n:=by simp[eE]
theorem vi(n:Nat)(p:PV)(ch:List (Nat×PV))(t:Nat):nth (eE n p ch) t=match Nat.ble n t with|false=>qD t ch p|true=>.any:=by
 rw[oi]
 cases h:Nat.ble n t
 ·have h':t<n:=px.1 h
  simp[eE,bI,h']
 ·have h':¬t<n:=fun hl=>by rw[px.2 hl] at h;cases h
  simp[eE,bI,h']
theorem E4{l l':List PV}(hl:l.length=l'.length)(h:∀t,nth l t=nth l' t):l=l':=by
 refine List.ext_getElem hl fun t h1 h2=>?_
 have:=h t
 rw[oi,oi] at this
 simpa[bI,h1,h2] using this
theorem HF(n:Nat)(p:PV)(ch:List (Nat×PV))(d:Nat)(v:PV):gk (eE n p ch) d v=eE n p ((d,v)::ch):=by
 refine E4 (by rw[ey,rG,rG]) fun t=>?_
 rw[hJ,rG,vi,vi]
 by_cases h:t=d
 ·subst h
  by_cases hn:t<n
  ·rw[if_pos ⟨rfl,hn⟩,px.2 hn]
   simp only[qD,Nat.beq_refl]
  ·rw[if_neg (fun hc=>hn hc.2)]
   have:Nat.ble n t=true:=by
    cases hb:Nat.ble n t
    ·exact(hn (px.1 hb)).elim
    ·rfl
   rw[this]
 ·rw[if_neg (fun hc=>h hc.1)]
  have:eA t d=false:=by
   cases hb:eA t d
   ·rfl
   ·exact(h (aZ hb)).elim
  simp only[qD,this]
def He:Nat→List PV→List (Nat×PV)
 | _,[]=>[]
 | i,a::l=>(i,a)::He (i+1) l
theorem Cl:∀(l:List PV)(i t:Nat)(p:PV),qD (i+t) (He i l) p=l.getD t p
 | [],i,t,p=>by simp[He,qD]
 | a::l,i,0,p=>by simp[He,qD]
 | a::l,i,t+1,p=>by
   have:eA (i+(t+1)) i=false:=by
    cases hb:eA (i+(t+1)) i
    ·rfl
    ·have:=aZ hb;omega
   simp only[He,qD,this]
   have:=Cl l (i+1) t p
   rw[show i+1+t=i+(t+1) by omega] at this
   rw[this]
   rfl
theorem EX{l:List PV}{n:Nat}(h:l.length≤n):pad l n=eE n .undef (He 0 l):=by
 rw[qy]
 refine E4 (by rw[rG];simp;omega) fun t=>?_
 rw[vi,oi]
 have:=Cl l 0 t .undef
 rw[bR] at this
 rw[this]
 cases hb:Nat.ble n t
 rotate_left
 ·have h':¬t<n:=fun hl=>by rw[px.2 hl] at hb;cases hb
  have h1:(l++ar (n-l.length) PV.undef).length≤t:=by simp;omega
  simp only[bI,bK h1,gh]
 ·have h':t<n:=px.1 hb
  simp only[bI]
  by_cases hl:t<l.length
  ·rw[aX hl,ab hl];rfl
  ·rw[aV (by omega),List.getElem?_replicate,if_pos (by omega),bK (by omega)]
   rfl
def M7(g:G)(m:List (Option Nat))(ch:List (Nat×PV))(p:PV):List (Nat×PV)→Prop
 | []=>True
 | (t,q)::r=>wk g m (qD t ch p) q∧M7 g m ch p r
theorem MO{g:G}{m:List (Option Nat)}(p:PV):wk g m p .any:=by cases p<;>simp[wk]
theorem GF{g:G}{m:List (Option Nat)}{ch:List (Nat×PV)}{p:PV}:∀{ch':List (Nat×PV)},M7 g m ch p ch'→∀t,wk g m (qD t ch p) (qD t ch' .any)
 | [],_,t=>by simp only[qD];exact MO _
 | (d,q)::r,h,t=>by
   simp only[M7] at h
   simp only[qD]
   cases hb:eA t d
   ·exact GF h.2 t
   ·have:=aZ hb
    subst this
    exact h.1
theorem EN{g:G}{m:List (Option Nat)}{f f':Nat→PV}(h:∀t,wk g m (f t) (f' t)):∀(l:List Nat),qS g m (l.map f) (l.map f')
 | []=>by simp only[cP,qS]
 | a::l=>by simp only[aQ,qS];exact⟨h a,EN h l⟩
theorem ax{P:Program}{n0 n:Nat}(m:List (Option Nat)){p:PV}{ch ch':List (Nat×PV)}{st st':List (Option En)}(h1:M7 ⟨eE n p ch,st⟩ m ch p ch')(h2:gJ ⟨eE n p ch,st⟩ m m st')(h3:tD m st'=true)(h4:keeps n0 0 m=true):ko P n0 ⟨eE n p ch,st⟩ ⟨eE n .any ch',st'⟩:=
 Ah ⟨EN (GF h1) _,h2,h3,h4⟩
attribute [go_sem] vW Ao vi HF qD M7 He bP bE gx oZ tk dr C9 Dz Dq F8 M5 ND MU M4 Mz Eo Fz Bl Ob Oh N2 Lq H2 NY pw
attribute [go_sem] AK wZ Dw vy zX rX vn AU EA vG rn A7 vj LK zO zY zS AY vg Ab oq sx FV Fi vk Fl Mw
theorem NG(sl:List PV)(st:List (Option En))(dst:Option (Nat×PV))(up:List (Nat×En)):(G.mk sl st).app ⟨dst,up⟩=⟨mZ sl dst,pb st up⟩:=rfl
theorem Fo(sl:List PV):mZ sl none=sl:=rfl
theorem Gp(sl:List PV)(d:Nat)(p:PV):mZ sl (some (d,p))=gk sl d p:=rfl
theorem HM(sl:List PV)(st:List (Option En))(t:Nat):(G.mk sl st).ev (.tmp t)=nth sl t:=rfl
theorem Dy(sl:List PV)(st:List (Option En))(v:Value):(G.mk sl st).ev (.const v)=NH v:=rfl
theorem F7(sl:List PV)(st:List (Option En))(f:Nat):(G.mk sl st).ev (.func f)= .fn f []:=rfl
theorem Oa(sl:List PV)(st:List (Option En))(k:Nat):(G.mk sl st).at k=bP st k:=rfl
theorem M0(sl:List PV)(st:List (Option En)):(G.mk sl st).new=gx st:=rfl
theorem KW(s p:List Nat)(dst:Option (Nat×PV))(up:List (Nat×En)):jM ⟨s,p⟩ ⟨dst,up⟩=⟨s,p,Dl.ws ⟨dst,up⟩,Dl.wp ⟨dst,up⟩⟩:=rfl
theorem KS(up:List (Nat×En)):Dl.ws ⟨none,up⟩=[]:=rfl
theorem Ks(d:Nat)(p:PV)(up:List (Nat×En)):Dl.ws ⟨some (d,p),up⟩=[d]:=rfl
theorem L8(dst:Option (Nat×PV)):Dl.wp ⟨dst,[]⟩=[]:=rfl
theorem Jy(dst:Option (Nat×PV))(k:Nat)(e:En)(r:List (Nat×En)):Dl.wp ⟨dst,(k,e)::r⟩=k::Dl.wp ⟨none,r⟩:=rfl
attribute [go_sem] Nf Nd snoc ja.eq_1 ja.eq_2 oh.eq_1 oh.eq_2 y9.eq_1 y9.eq_2 y9.eq_3 Mx.eq_1 Jf.eq_1 lQ.eq_1 lQ.eq_2 lQ.eq_3 MQ MA.eq_1 MA.eq_2 KQ.eq_1 KQ.eq_2 run Fj.eq_1 Fj.eq_2 Fj.eq_3 wJ.eq_1 wJ.eq_2 wJ.eq_3 HX.eq_1 Hr.eq_1 Mh.eq_1 Mh.eq_2 Bj
attribute [go_sem] NG Fo Gp pb Oa HM Dy F7 M0 sS NH Hi AA cl PV.whole PV.one nN EW Fa Nl qc rowsOf yU mG KW KS Ks L8 Jy bV Jo TI.isAgg KL Hk
attribute [go_sem] DW Ey D6 Ji qK fS bB aQ cP pA Cy
attribute [go_sem] qS wk gJ sq dF uS keeps tD DY
attribute [go_sem] DV T.pv MI gy lr N7 tm C8 vJ vf yr py Lr Lu MS KM
mutual
def wz:PV→Prop
 | .d (.bX xs)=>xs.length≤LB
 | .d (.str s)=>s.length≤LB
 | .agg cs=>kE cs
 | _=>True
def kE:List PV→Prop
 | []=>True
 | p::ps=>wz p∧kE ps
end
mutual
theorem aj.wz{w:World}{ok:Nat→Prop}{ν:Nat→Nm}{st:Nat→Option En}:∀(p:PV)(v:Value),aj w ok ν st p v→wz p
 | .d (.bX xs),v,h=>by
   simp only[aj] at h
   simp only[Eng.wz]
   exact h.MM
 | .d (.str s),v,h=>by
   simp only[aj] at h
   simp only[Eng.wz]
   exact h.vx.2
 | .agg cs,v,h=>by
   simp only[aj] at h
   simp only[Eng.wz]
   obtain⟨vs,_,h⟩:=h
   exact ah.wz cs vs h
 | .d (.val _),_,_=>by simp only[Eng.wz]
 | .any,_,_=>by simp only[Eng.wz]
 | .undef,_,_=>by simp only[Eng.wz]
 | .aY,_,_=>by simp only[Eng.wz]
 | .gL _,_,_=>by simp only[Eng.wz]
 | .ptr _ _,_,_=>by simp only[Eng.wz]
 | .acc _,_,_=>by simp only[Eng.wz]
 | .dk _ _ _ _,_,_=>by simp only[Eng.wz]
 | .da _ _ _,_,_=>by simp only[Eng.wz]
 | .fn _ _,_,_=>by simp only[Eng.wz]
theorem ah.wz{w:World}{ok:Nat→Prop}{ν:Nat→Nm}{st:Nat→Option En}:∀(ps:List PV)(vs:List Value),ah w ok ν st ps vs→kE ps
 | [],_,_=>by simp only[Eng.kE]
 | p::ps,v::vs,h=>by
   simp only[ah] at h
   simp only[Eng.kE]
   exact⟨aj.wz p v h.1,ah.wz ps vs h.2⟩
 | _::_,[],h=>by simp[ah] at h
end
def Gd:Option En→Prop
 | some (.box cs)=>kE cs
 | some (.acc _ xs)=>xs.length≤LB
 | some (.cU _ xs)=>xs.length≤LB
 | _=>True
def r8:List (Option En)→Prop
 | []=>True
 | e::es=>Gd e∧r8 es
theorem Sat.kE{P:Program}{X:Cx}{ν:Nat→Nm}{g:G}{a:Act}{w:World}(h:Sat P X ν g a w):Eng.kE g.sl:=by
 have key:∀(ps:List PV),(∀t,∃v,aj w (bm X ν g.at) ν g.at (nth ps t) v)→Eng.kE ps:=by
  intro ps
  induction ps with
  | nil=>intro _;simp only[Eng.kE]
  | cons p ps ih=>
    intro hp
    simp only[Eng.kE]
    obtain⟨v,hv⟩:=hp 0
    exact⟨aj.wz p v hv,ih fun t=>hp (t+1)⟩
 exact key _ fun t=>⟨_,h.sl t⟩
theorem Sat.Gd{P:Program}{X:Cx}{ν:Nat→Nm}{g:G}{a:Act}{w:World}(h:Sat P X ν g a w)(k:Nat):Eng.Gd (g.at k):=by
 cases hk:g.at k with
 | none=>trivial
 | some e=>
   have:=h.en k e hk
   cases e with
   | dead=>trivial
   | box cs=>obtain⟨b,vs,T,_,_,h3,_⟩:=this;exact ah.wz cs vs h3
   | acc t xs=>obtain⟨us,_,_,h3,_⟩:=this;exact h3
   | map x6=>trivial
   | cU t xs=>
     have h1:=this.1
     simp only[fE] at h1
     obtain⟨us,F1,_,_,_,h4,_⟩:=h1
     exact h4
theorem Cs:∀{l:List (Option En)},(∀k,Gd (bP l k))→r8 l
 | [],_=>trivial
 | _::_,h=>⟨h 0,Cs fun k=>h (k+1)⟩
theorem Lo{P:Program}{n0:Nat}{c:Code}{g:G}{Q:Ex→G→Prop}(h:kE g.sl→r8 g.st→W P n0 c g Q):W P n0 c g Q:=fun X ν a w hp hs=>
 h hs.kE (Cs fun k=>hs.Gd k) X ν a w hp hs
theorem tj:∀{ps r:List PV},kE (ps++r)→kE ps
 | [],_,_=>by simp only[kE]
 | p::ps,r,h=>by
   simp only[bM,kE] at h⊢
   exact⟨h.1,tj h.2⟩
theorem Nz {E : Env} (hm : E.P.follows .mixedOrders = true) {f : FuncId} {fn : Func} {c : Code} {args : List PV} {cy : List (Option En)} {R : PV → List (Option En) → Prop} {nt : Nat} {rs : List ResultVar} (hf : E.P.funcs[f]? = some fn) (hb : fn.body = some c) (hname : (fn.name == "runtime.NumGoroutine") = false)
 (hnt:fn.ntmps=nt) (hrs:fn.results.toList=rs) (h:kE args→r8 cy→Bj E (gx cy) c .on ⟨pad args nt,cy⟩ (fun _=>DW (qC E rs (gx cy) R))):C E.P f args cy R:=by
 rw[iE] at h
 refine CJ hf hb hname (qC E rs cy.length R) (fun _ _ _ _ _ h1 hp hs=>qC.sat h1 hp hs hrs) ?_
 rw[hnt,←qy]
 refine Lo fun h1 h2=>Df hm c _ _ (h ?_ h2)
 have h1:kE (pad args nt):=h1
 rw[qy] at h1
 exact tj h1
theorem CC {E : Env} (hm : E.P.follows .mixedOrders = true) {f : FuncId} {fn : Func} {c : Code} {args : List PV} {cy : List (Option En)} {R : PV → List (Option En) → Prop} {nt : Nat} {rs : List ResultVar} (hf : E.P.funcs[f]? = some fn) (hb : fn.body = some c) (hname : (fn.name == "runtime.NumGoroutine") = false)
 (hnt:fn.ntmps=nt) (hrs:fn.results.toList=rs) (hn:pw (oZ args) nt=true) (h:kE args→r8 cy→Bj E (gx cy) c .on ⟨eE nt .undef (He 0 args),cy⟩ (fun _=>DW (qC E rs (gx cy) R))):C E.P f args cy R:=by
 have hn:=fV hn
 rw[jy] at hn
 rw[←EX hn] at h
 exact Nz hm hf hb hname hnt hrs h
attribute [go_sem] wz kE Gd r8
mutual
theorem EJ(m:List Nat):∀(p:PV),p.lt 0=true→p.gN m=p
 | .agg cs,h=>by simp only[PV.lt] at h;simp only[PV.gN,oV m cs h]
 | .gL cs,h=>by simp only[PV.lt] at h;simp only[PV.gN,oV m cs h]
 | .fn f cs,h=>by simp only[PV.lt] at h;simp only[PV.gN,oV m cs h]
 | .any,_=>rfl
 | .undef,_=>rfl
 | .aY,_=>rfl
 | .d _,_=>rfl
 | .da _ _ _,_=>rfl
 | .ptr _ _,h=>by simp[PV.lt] at h
 | .acc _,h=>by simp[PV.lt] at h
 | .dk _ _ _ _,h=>by simp[PV.lt] at h
theorem oV(m:List Nat):∀(ps:List PV),nS 0 ps=true→kr m ps=ps
 | [],_=>rfl
 | p::ps,h=>by
   simp only[nS,ae] at h
   simp only[kr,EJ m p h.1,oV m ps h.2]
end
section
variable{E:Env}{g:G}{d:Nat}{ty:TypeId}{pos:String}{cM:Array Edge}{gd:Option (Nat×Bool)}
theorem I0(ij:Operand)(xs:List Operand)(tys:Array TypeId)(f:FuncId)(cap:List PV)(hfn:g.ev ij= .fn f cap)(bw:List PV)(res:PV)(hC:C E.P f bw [] (bB res []))(jB:xY (xs.map g.ev++cap) bw)(jW:nS 0 bw=true)(hres:res.lt 0=true) :
 gz E.P ⟨some d,.call ⟨.value ij,⟨xs⟩,tys⟩,ty,pos,cM,gd⟩ g ⟨bV ij++xs.flatMap bV,[]⟩ ⟨some (d,res),[]⟩:=by
 have h:=EB (E:=E) (g:=g) (d:=d) (ty:=ty) (pos:=pos) (cM:=cM) (gd:=gd) ij xs tys f cap hfn [] bw [] [] res hC (by rw[oV _ _ jW];exact jB) jW (by simp) (by simp) trivial trivial (by simp) (by simp)
 rw[EJ _ _ hres] at h
 exact h
end
def iv(n:Int):PV:=.d (.val (.int .i64 n))
def bv(b:Bool):PV:=.d (.val (.bool b))
def sv(s:List UInt8):PV:=.d (.str s)
def lv(xs:List (List D)):PV:=.d (.bX xs)
attribute [go_sem] iv bv sv lv PV.gN kr fP look PV.lt nS dL cX Option.toList_none lW
end Go.Eng
namespace Go.Eng
open Go.RowKit
section
variable{E:Env}{n0:Nat}{g:G}{c:Code}{Q:Ex→G→Prop}
def tq{A:Type}(P:Program)(n0:Nat)(I:A→Prop)(T:A→G)(μ:A→Nat)(a:A)(Q:Ex→G→Prop):Ex→G→Prop
 | .normal,g=>∃a',I a'∧μ a' < μ a∧ko P n0 g (T a')
 | .exit id,g=>Q (.exit id) g
 | .ret,g=>Q .ret g
def sw{A B:Type}(P:Program)(n0:Nat)(I:A→B→Prop)(T:A→B→G)(μ:A→B→Nat)(a:A)(b:B)(Q:Ex→G→Prop):Ex→G→Prop
 | .normal,g=>∃a' b',I a' b'∧μ a' b' < μ a b∧ko P n0 g (T a' b')
 | .exit id,g=>Q (.exit id) g
 | .ret,g=>Q .ret g
def zZ{A B C:Type}(P:Program)(n0:Nat)(I:A→B→C→Prop)(T:A→B→C→G)(μ:A→B→C→Nat)(a:A)(b:B)(c:C)(Q:Ex→G→Prop):Ex→G→Prop
 | .normal,g=>∃a' b' c',I a' b' c'∧μ a' b' c' < μ a b c∧ko P n0 g (T a' b' c')
 | .exit id,g=>Q (.exit id) g
 | .ret,g=>Q .ret g
theorem aG(hm:E.P.follows .mixedOrders=true){A:Type}(I:A→Prop)(T:A→G)(μ:A→Nat)(a0:A)(hi:I a0)(h0:ko E.P n0 g (T a0))
 (round:∀a,I a→Bj E n0 c .on (T a) (fun _=>tq E.P n0 I T μ a Q)):W E.P n0 (.loop c) g Q:=by
 refine L6 (α:={a // I a}) (fun x=>T x.1) (fun x=>μ x.1) ⟨a0,hi⟩ h0 ?_
 rintro⟨a,ha⟩
 have h:=Df hm c _ _ (round a ha)
 have e:(tq E.P n0 I T μ a Q)=(Ey E.P n0 (fun x:{a // I a}=>T x.1) (fun x=>μ x.1) ⟨a,ha⟩ Q):=by
  funext e g'
  cases e with
  | normal=>
    simp only[tq,Ey]
    apply propext
    exact⟨fun⟨a',h1,h2,h3⟩=>⟨⟨a',h1⟩,h2,h3⟩,fun⟨⟨a',h1⟩,h2,h3⟩=>⟨a',h1,h2,h3⟩⟩
  | exit id=>rfl
  | ret=>rfl
 rw[←e]
 exact h
theorem o5(hm:E.P.follows .mixedOrders=true){A B:Type}(I:A→B→Prop)(T:A→B→G)(μ:A→B→Nat)(a0:A)(b0:B)(hi:I a0 b0)(h0:ko E.P n0 g (T a0 b0))
 (round:∀a b,I a b→Bj E n0 c .on (T a b) (fun _=>sw E.P n0 I T μ a b Q)):W E.P n0 (.loop c) g Q:=by
 refine aG hm (A:=A×B) (fun x=>I x.1 x.2) (fun x=>T x.1 x.2) (fun x=>μ x.1 x.2) (a0,b0) hi h0 ?_
 rintro⟨a,b⟩ h
 have h:=round a b h
 have e:(sw E.P n0 I T μ a b Q)=(tq E.P n0 (fun x:A×B=>I x.1 x.2) (fun x=>T x.1 x.2) (fun x=>μ x.1 x.2) (a,b) Q):=by
  funext e g'
  cases e with
  | normal=>
    simp only[tq,sw]
    apply propext
    exact⟨fun⟨a',b',h1,h2,h3⟩=>⟨(a',b'),h1,h2,h3⟩,fun⟨(a',b'),h1,h2,h3⟩=>⟨a',b',h1,h2,h3⟩⟩
  | exit id=>rfl
  | ret=>rfl
 rw[e] at h
 exact h
theorem lP(hm:E.P.follows .mixedOrders=true){A B D:Type}(I:A→B→D→Prop)(T:A→B→D→G)(μ:A→B→D→Nat)(a0:A)(b0:B)(d0:D)(hi:I a0 b0 d0)(h0:ko E.P n0 g (T a0 b0 d0))
 (round:∀a b d,I a b d→Bj E n0 c .on (T a b d) (fun _=>zZ E.P n0 I T μ a b d Q)):W E.P n0 (.loop c) g Q:=by
 refine o5 hm (A:=A) (B:=B×D) (fun a x=>I a x.1 x.2) (fun a x=>T a x.1 x.2) (fun a x=>μ a x.1 x.2) a0 (b0,d0) hi h0 ?_
 rintro a ⟨b,d⟩ h
 have h:=round a b d h
 have e:(zZ E.P n0 I T μ a b d Q)=(sw E.P n0 (fun a (x:B×D)=>I a x.1 x.2) (fun a x=>T a x.1 x.2) (fun a x=>μ a x.1 x.2) a (b,d) Q):=by
  funext e g'
  cases e with
  | normal=>
    simp only[zZ,sw]
    apply propext
    exact⟨fun⟨a',b',d',h1,h2,h3⟩=>⟨a',(b',d'),h1,h2,h3⟩,fun⟨a',(b',d'),h1,h2,h3⟩=>⟨a',b',d',h1,h2,h3⟩⟩
  | exit id=>rfl
  | ret=>rfl
 rw[e] at h
 exact h
end
theorem vh{α:Type}{l:List α}{i:Nat}(h:i<l.length)(d:α):l.getD i d=l[i]:=by simp[bI,ab h]
mutual
theorem LH{g:G}{m:List (Option Nat)}:∀{p:PV},p.lt 0=true→wk g m p p
 | .agg cs,h=>by simp only[PV.lt] at h;simp only[wk];exact aP h
 | .gL cs,h=>by simp only[PV.lt] at h;simp only[wk];exact aP h
 | .fn f cs,h=>by simp only[PV.lt] at h;simp only[wk,true_and];exact aP h
 | .any,_=>by simp only[wk]
 | .undef,_=>by simp only[wk]
 | .aY,_=>by simp only[wk]
 | .d _,_=>by simp only[wk]
 | .da _ _ _,_=>by simp only[wk,and_self]
 | .ptr _ _,h=>by simp[PV.lt] at h
 | .acc _,h=>by simp[PV.lt] at h
 | .dk _ _ _ _,h=>by simp[PV.lt] at h
theorem aP{g:G}{m:List (Option Nat)}:∀{ps:List PV},nS 0 ps=true→qS g m ps ps
 | [],_=>by simp only[qS]
 | p::ps,h=>by
   simp only[nS,ae] at h
   simp only[qS]
   exact⟨LH h.1,aP h.2⟩
end
theorem KO(a b:Int):(a != b)= !decide (a=b):=by
 by_cases h:a=b<;>simp[h]
theorem JD(a b:Int):(a == b)=decide (a=b):=by
 by_cases h:a=b<;>simp[h]
theorem JQ(a b:List UInt8):(a == b)=decide (a=b):=by
 by_cases h:a=b<;>simp[h]
theorem HQ(x:List D)(xs:List (List D)):row (x::xs) 0=x:=rfl
attribute [go_sem] HQ
theorem Kr(e0:En)(Q:En→Prop):(∃e,some e0=some e∧Q e)=Q e0:=by
 apply propext
 constructor
 ·rintro⟨e,h,hq⟩
  cases h
  exact hq
 ·intro hq
  exact⟨_,rfl,hq⟩
theorem BT(n:Nat):((no_index (OfNat.ofNat n):Nat):Int)=OfNat.ofNat n:=rfl
theorem GW(e0:En):(∃e,some e0=some e)=True:=eq_true ⟨_,rfl⟩
theorem Kl(xs ys:List (List D)):(D.bX xs=D.bX ys)=(xs=ys):=by simp
attribute [go_sem] aw List.not_mem_nil or_false forall_eq List.length_take List.length_map
attribute [go_sem] Int.natCast_add Int.natCast_one Int.natCast_zero BT GW ite_true ite_false Kr Kl List.take_zero eq_self
attribute [go_sem] KO JD JQ
attribute [go_sem] bM bx List.append_nil
theorem GS(ps:List PV):xY ps ps=True:=eq_true (Am ps)
attribute [go_sem] cv xY GS
theorem e7{m:Option (List Ky)}{gs:Option Nat}{d:Nat}{ty:TypeId}{pos:String}{cM:Array Edge}{gd:Option (Nat×Bool)}{E:Env}{g:G}{rest:ll→Option (List Ky)→G→Prop}{ij:Operand}{xs:List Operand}{tys:Array TypeId}{f:FuncId}(cap:List PV){bw:List PV}{res:PV}
 (hC:C E.P f bw [] (bB res [])) (h:g.ev ij= .fn f cap∧xY (FV g xs++cap) bw∧nS 0 bw=true∧res.lt 0=true)
 (hr:rest .on (ja m (jM (oh gs ⟨bV ij++sx xs,[]⟩) ⟨some (d,res),[]⟩)) (g.app ⟨some (d,res),[]⟩)):ob E m gs ⟨some d,.call ⟨.value ij,⟨xs⟩,tys⟩,ty,pos,cM,gd⟩ g rest:=by
 rw[pg] at hr
 rw[sT] at h
 exact l8 (I0 ij xs tys f cap h.1 bw res hC h.2.1 h.2.2.1 h.2.2.2) hr
theorem iO{m:Option (List Ky)}{gs:Option Nat}{d:Nat}{ty:TypeId}{pos:String}{cM:Array Edge}{gd:Option (Nat×Bool)}{E:Env}{g:G}{rest:ll→Option (List Ky)→G→Prop}{ij:Operand}{xs:List Operand}{tys:Array TypeId}{f:FuncId}(cap:List PV)(ks:List Nat){bw:List PV}{res:PV}
 (hC:C E.P f bw [] (bB res [])) (h1:g.ev ij= .fn f cap) (h2:pz g ks (FV g xs++cap) bw) (h3:sc res=true)
 (hr:rest .on (ja m (jM (oh gs ⟨bV ij++sx xs,ks⟩) ⟨some (d,res),[]⟩)) (g.app ⟨some (d,res),[]⟩)):ob E m gs ⟨some d,.call ⟨.value ij,⟨xs⟩,tys⟩,ty,pos,cM,gd⟩ g rest:=by
 rw[pg] at hr
 rw[sT] at h2
 exact l8 (KK ij xs tys f cap h1 ks bw res hC h2 h3) hr
def H3(k:Nat):List Nat→Bool
 | []=>false
 | j::js=>vW k j||H3 k js
theorem vM:∀(k:Nat),vW k k=true
 | 0=>rfl
 | k+1=>vM k
theorem E8{k:Nat}:∀{m:List Nat},k∈m→H3 k m=true
 | [],h=>by simp at h
 | j::js,h=>by
   simp only[H3,fp]
   rcases aw.1 h with rfl|h
   ·exact .inl (vM _)
   ·exact .inr (E8 h)
def BQ:List Nat→Bool
 | []=>true
 | k::ks=>!H3 k ks&&BQ ks
theorem A9:∀{m:List Nat},BQ m=true→m.Nodup
 | [],_=>by simp
 | k::ks,h=>by
   simp only[BQ,ae,Bool.not_eq_true'] at h
   refine List.nodup_cons.2 ⟨fun hk=>?_,A9 h.2⟩
   rw[E8 hk] at h
   cases h.1
def xA:List Nat→Nat
 | []=>0
 | _::as=>xA as+1
theorem vL:∀(l:List Nat),xA l=l.length
 | []=>rfl
 | _::as=>by simp[xA,vL as]
theorem b7{m:Option (List Ky)}{gs:Option Nat}{d:Nat}{ty:TypeId}{pos:String}{cM:Array Edge}{gd:Option (Nat×Bool)}{E:Env}{g:G}{rest:ll→Option (List Ky)→G→Prop}{ij:Operand}{xs:List Operand}{tys:Array TypeId}{f:FuncId}(cap:List PV)(M:List Nat){bw:List PV}{cy st':List (Option En)}{res:PV}
 (hC:C E.P f bw cy (bB res st')) (h:g.ev ij= .fn f cap∧xY (FV g xs++cap) (kr M bw)∧nS (gx cy) bw=true∧BQ M=true∧pw (gx cy) (xA M)=true∧pw (gx cy) (gx st')=true∧pw (gx st') (xA M)=true∧iV g M (gx cy) M cy∧eh g (gx cy) M)
 (hr:rest .on (ja m (jM (oh gs ⟨bV ij++sx xs,M⟩) ⟨some (d,res.gN M),fP M M st'⟩)) (g.app ⟨some (d,res.gN M),fP M M st'⟩)):ob E m gs ⟨some d,.call ⟨.value ij,⟨xs⟩,tys⟩,ty,pos,cM,gd⟩ g rest:=by
 rw[pg] at hr
 rw[sT] at h
 obtain⟨h1,h2,h3,h4,h5,h6,h7,h8,h9⟩:=h
 have h5:=fV h5
 have h6:=fV h6
 have h7:=fV h7
 rw[iE,vL] at h5
 rw[iE,iE] at h6
 rw[iE,vL] at h7
 rw[iE] at h3 h8 h9
 exact l8 (EB ij xs tys f cap h1 M bw cy st' res hC h2 h3 (A9 h4) h5 h8 h9 h6 h7) hr
theorem Oc{E:Env}{rs:List ResultVar}{n0:Nat}{g:G}{ps:List PV}{q:PV}{st':List (Option En)}(m:List (Option Nat))(h1:qK E g rs=some ps)(h2:qS ⟨[fS ps],g.st⟩ m [fS ps] [q]∧gJ ⟨[fS ps],g.st⟩ m m st')(h3:tD m st'=true)(h4:keeps n0 0 m=true):qC E rs n0 (bB q st') g:=
 ⟨ps,m,q,st',h1,⟨h2.1,h2.2,h3,h4⟩,rfl,rfl⟩
theorem al{E:Env}{rs:List ResultVar}{g:G}{q:PV}(h:(qK E g rs).elim False fun ps=>wk ⟨[fS ps],g.st⟩ [] (fS ps) q):qC E rs 0 (bB q []) g:=by
 cases hps:qK E g rs with
 | none=>rw[hps] at h;exact h.elim
 | some ps=>rw[hps] at h;exact N0 hps h
theorem bu{E:Env}{rs:List ResultVar}{n0:Nat}{g:G}{q:PV}{st':List (Option En)}(m:List (Option Nat))(h:(qK E g rs).elim False fun ps=>qS ⟨[fS ps],g.st⟩ m [fS ps] [q]∧gJ ⟨[fS ps],g.st⟩ m m st')(h3:tD m st'=true)(h4:keeps n0 0 m=true):qC E rs n0 (bB q st') g:=by
 cases hps:qK E g rs with
 | none=>rw[hps] at h;exact h.elim
 | some ps=>rw[hps] at h;exact Oc m hps h h3 h4
attribute [go_sem] Option.elim_some
attribute [go_sem] BQ xA H3 iV eh En.gN En.lt En.live fF gi Bool.or_true Bool.true_or Bool.or_false Bool.false_or aI Bool.and_false
attribute [go_sem] sc MW
attribute [go_sem] tq sw zZ Gy and_true true_and and_self Int.natCast_nonneg fy Int.toNat_zero Nat.zero_lt_succ bR dY au aF Int.ofNat_lt Int.ofNat_le Int.ofNat_inj decide_true decide_false fF gi aq List.length_nil gt_iff_lt ge_iff_le
attribute [go_sem] Bool.true_and Bool.and_true Bool.and_self beq_self_eq_true
theorem iq(ν:Nat→Nm)(b:Nat):¬Own ν (bP []) b:=by
 rintro⟨k,e,h,_⟩
 cases k<;>simp[bP] at h
section
variable{P:Program}{X:Cx}{vs:List Value}{e:TypeId}{xs:List (List D)}{rest:List PV}
theorem Fp(hr:nS 0 rest=true)(hs:Sat P X X.ν0 ⟨.acc 0::rest,[some (.acc e xs)]⟩ ⟨⟨vs⟩,[]⟩ X.w0) :
 Sat P ⟨X.w0,Own X.ν0 (bP []),X.ν0,bP [],X.Z⟩ X.ν0 ⟨.d (.bX xs)::rest,[]⟩ ⟨⟨vs⟩,[]⟩ X.w0:=by
 have hw:∀b,bm X X.ν0 (G.at ⟨.acc 0::rest,[some (.acc e xs)]⟩) b→b<X.w0.heap.size→bm ⟨X.w0,Own X.ν0 (bP []),X.ν0,bP [],X.Z⟩ X.ν0 (G.at ⟨.d (.bX xs)::rest,[]⟩) b∧X.w0.heap[b]?=X.w0.heap[b]?:=fun b hb _=>⟨⟨iq _ b,hb.2⟩,rfl⟩
 have fJ:∀k,G.at ⟨.d (.bX xs)::rest,[]⟩ k=none:=fun _=>rfl
 refine⟨hs.size,fun t=>?_,fun k e h=>?_,fun k k' e e' b h=>?_,fun b hb=>?_,fun k h=>?_,fun k h=>?_,⟨fun b hb=>?_,hs.kt rfl fun b hb=>(iq _ b hb).elim⟩,mK.refl _ _,rfl⟩
 ·cases t with
  | zero=>
    have h:=hs.sl 0
    simp only[nth,aj] at h⊢
    rw[h.2]
    obtain⟨us,h1,h2,h3,_⟩:=hs.en 0 (.acc e xs) rfl
    exact mO h1 h2 h3 (fun b hb=>⟨iq _ b,hs.Bi ⟨0,_,rfl,rfl,.inl hb⟩⟩) hw
  | succ t=>
    have h:=hs.sl (t+1)
    simp only[nth] at h⊢
    have hl:∀(ps:List PV)(t:Nat),nS 0 ps=true→(nth ps t).lt 0=true:=by
     intro ps
     induction ps with
     | nil=>intro t _;rfl
     | cons p ps ih=>
       intro t h
       simp only[nS,ae] at h
       cases t with
       | zero=>exact h.1
       | succ t=>exact ih t h.2
    exact aj.Ev hw _ _ (hl rest t hr) h
 ·rw[fJ] at h;cases h
 ·rw[fJ] at h;cases h
 ·exact(iq _ b hb).elim
 ·rw[fJ] at h;cases h
 ·cases k<;>simp[bP] at h
 ·exact⟨(hs.wS b hb).1,iq _ b⟩
theorem Mm{f:FuncId}{e':TypeId}{ys:List (List D)}(hr:nS 0 rest=true)(hC:C P f (.d (.bX xs)::rest) [] (bB (.acc 0) [some (.acc e' ys)])):C P f (.acc 0::rest) [some (.acc e xs)] (bB (.acc 1) [some .dead,some (.acc e' ys)]):=by
 refine⟨hC.1,fun X vs dg hO hs=>?_⟩
 refine(hC.2 _ vs rfl rfl (Fp hr hs)).mono ?_
 rintro ex w' ⟨v,_,_,ν',rfl,⟨rfl,rfl⟩,dP⟩
 refine⟨v,_,_,fun|0=>X.ν0 0|k+1=>ν' k,rfl,⟨rfl,rfl⟩,?_⟩
 have fJ:∀k e,G.at ⟨[.acc 1],[some .dead,some (.acc e' ys)]⟩ k=some e→e.live=true→k=1∧e= .acc e' ys:=by
  intro k e h hl
  match k,h with
  | 0,h=>
    obtain rfl:En.dead=e:=by simpa[G.at,bP] using h
    cases hl
  | 1,h=>exact⟨rfl,by simpa[G.at,bP] using h.symm⟩
  | k+2,h=>simp[G.at,bP] at h
 have dG:∀b,Own (fun|0=>X.ν0 0|k+1=>ν' k) (G.at ⟨[.acc 1],[some .dead,some (.acc e' ys)]⟩) b↔Own ν' (G.at ⟨[.acc 0],[some (.acc e' ys)]⟩) b:=by
  intro b
  constructor
  ·rintro⟨k,e,h,hl,hb⟩
   obtain⟨rfl,rfl⟩:=fJ k e h hl
   exact⟨0,_,rfl,rfl,hb⟩
  ·rintro⟨k,e,h,hl,hb⟩
   match k,h with
   | 0,h=>
     obtain rfl:En.acc e' ys=e:=by simpa[G.at,bP] using h
     exact⟨1,_,rfl,rfl,hb⟩
   | k+1,h=>simp[G.at,bP] at h
 have hw:∀b,bm (⟨X.w0,Own X.ν0 (bP []),X.ν0,bP [],X.Z⟩:Cx) ν' (G.at ⟨[.acc 0],[some (.acc e' ys)]⟩) b→b<w'.heap.size→bm X (fun|0=>X.ν0 0|k+1=>ν' k) (G.at ⟨[.acc 1],[some .dead,some (.acc e' ys)]⟩) b∧w'.heap[b]?=w'.heap[b]?:=fun b hb _=>⟨⟨fun h=>hb.1 ((dG b).1 h),hb.2⟩,rfl⟩
 refine⟨rfl,fun t=>?_,fun k e h=>?_,fun k k' e e2 b h1 h2 hl hl2 _ _=>?_,fun b hb=>?_,fun k h=>?_,fun k h=>?_,hs.wS,dP.qf.mono fun b hb _=>(iq _ b hb).elim,rfl⟩
 ·cases t with
  | zero=>
    have h:=dP.sl 0
    simp only[nth,aj] at h⊢
    exact⟨rfl,h.2⟩
  | succ t=>exact trivial
 ·match k,h with
  | 0,h=>
    obtain rfl:En.dead=e:=by simpa[G.at,bP] using h
    exact trivial
  | 1,h=>
    obtain rfl:En.acc e' ys=e:=by simpa[G.at,bP] using h
    obtain⟨us,h1,h2,h3⟩:=dP.en 0 _ rfl
    exact⟨us,h1,h2.frame hw (au _),h3⟩
  | k+2,h=>simp[G.at,bP] at h
 ·rw[(fJ k e h1 hl).1,(fJ k' e2 h2 hl2).1]
 ·rcases dP.base b ((dG b).1 hb) with h|h
  ·exact(iq _ b h).elim
  ·exact .inr h
 ·match k,h with
  | 0,_=>exact hs.nu 0 rfl
  | 1,_=>exact dP.nu 0 rfl
  | k+2,h=>simp[G.at,bP] at h
 ·rw[dg] at h
  match k,h with
  | 0,_=>exact⟨rfl,rfl⟩
  | k+1,h=>simp[bP] at h
end
def qJ(M:List Nat):List Nat→Nat
 | []=>0
 | j::js=>Nat.lor (Nat.lor (Nat.pow 2 j) (M.getD j 0)) (qJ M js)
def JU:List Oper→List Nat→List Nat
 | [],M=>M
 | o::os,M=>JU os (M++[qJ M (gq o)])
def FX(b k:Nat):Bool:=eA (Nat.land (Nat.shiftRight b k) 1) 1
def vp(b:Nat)(y:Ky):Nat→List Ky→Bool
 | _,[]=>true
 | j,x::xs=>(FX b j|| !(x.pT y))&&vp b y (j+1) xs
def vH(M:List Nat):Nat→List Ky→List Ky→Bool
 | _,_,[]=>true
 | i,pre,y::ys=>vp (M.getD i 0) y 0 pre&&vH M (i+1) (pre++[y]) ys
def Ad(os:List Oper)(L:List Ky):Bool:=Hx 0 os&&vH (JU os []) 0 [] L
theorem vl(b k:Nat):FX b k=b.testBit k:=by
 simp only[FX,Nat.testBit]
 have h:Nat.land (Nat.shiftRight b k) 1=(b >>> k) &&& 1:=rfl
 rw[h,Nat.and_comm 1 (b >>> k),Nat.and_one_is_mod]
 rcases Nat.mod_two_eq_zero_or_one (b >>> k) with h2|h2<;>rw[h2]<;>rfl
def NX(T:List (List Nat))(M:List Nat):Prop:=T.length=M.length∧∀j k,oo k (T.getD j [])=FX (M.getD j 0) k
theorem CD{a b:Bool}(h:a=true↔b=true):a=b:=by
 cases a<;>cases b<;>simp_all
theorem Gc(k j:Nat)(l:List Nat):oo k (j::l)=(decide (j=k)||oo k l):=by
 apply CD
 simp only[kn,aw,fp,decide_eq_true_eq]
 exact⟨fun h=>h.imp Eq.symm id,fun h=>h.imp Eq.symm id⟩
theorem HL(k:Nat)(l l':List Nat):oo k (l++l')=(oo k l||oo k l'):=by
 apply CD
 simp only[kn,List.mem_append,fp]
theorem wY{T:List (List Nat)}{M:List Nat}(h:NX T M)(k:Nat):∀(js:List Nat),oo k (nn T js)=FX (qJ M js) k
 | []=>by
   simp only[nn,qJ,vl,Nat.zero_testBit]
   rfl
 | j::js=>by
   have e:Nat.lor (Nat.lor (Nat.pow 2 j) (M.getD j 0)) (qJ M js)=(2 ^ j ||| M.getD j 0) ||| qJ M js:=rfl
   simp only[nn,qJ,e,Gc,HL,wY h k js,h.2 j k]
   simp only[vl,Nat.testBit_or,Nat.testBit_two_pow,Bool.or_assoc]
theorem Bx:∀(os:List Oper){T:List (List Nat)}{M:List Nat},NX T M→NX (rP os T) (JU os M)
 | [],_,_,h=>h
 | o::os,T,M,h=>by
   simp only[rP,JU]
   refine Bx os ⟨by simp[h.1],fun j k=>?_⟩
   rcases Nat.lt_trichotomy j T.length with hj|hj|hj
   ·have hj':j<M.length:=by rw[←h.1];exact hj
    have:=h.2 j k
    rw[az,az] at this⊢
    rwa [aX hj,aX hj']
   ·subst hj
    have hM:M.length≤T.length:=by rw[h.1];exact au _
    rw[az,az,aV (au _),aV hM,←h.1]
    simp only[gu,List.getElem?_cons_zero,Option.getD_some]
    exact wY h k _
   ·have hj':M.length<j:=by rw[←h.1];exact hj
    rw[az,az,bK (by simp;omega),bK (by simp;omega)]
    simp only[gh,vl,Nat.zero_testBit]
    rfl
theorem xI{b:List Nat}{c:Nat}(h:∀k,oo k b=FX c k)(y:Ky):∀(j:Nat)(l:List Ky),vp c y j l=tH b y j l
 | _,[]=>rfl
 | j,x::xs=>by simp only[vp,tH,h,xI h y (j+1) xs]
theorem xL{T:List (List Nat)}{M:List Nat}(h:NX T M):∀(i:Nat)(pre l:List Ky),vH M i pre l=sX T i pre l
 | _,_,[]=>rfl
 | i,pre,y::ys=>by simp only[vH,sX,xI (h.2 i),xL h (i+1)]
theorem td{os:List Oper}{L:List Ky}(h:Ad os L=true):indep os L=true:=by
 simp only[Ad,ae] at h
 simp only[indep,ae]
 refine⟨h.1,?_⟩
 rw[←xL (Bx os (T:=[]) (M:=[]) ⟨rfl,fun j k=>?_⟩)]
 ·exact h.2
 ·simp only[List.getD_nil,vl,Nat.zero_testBit]
  rfl
theorem Cp{os:List Oper}{L:List Ky}{p:Prop}(h:Ad os L=true)(hp:p):indep os L=true∧p:=⟨td h,hp⟩
theorem pz.nth{g:G}{ks:List Nat}:∀{ps qs:List PV},pz g ks ps qs→∀t,Vw g ks (nth ps t) (nth qs t)
 | _,_,.nil,t=>by cases t<;>exact .same rfl
 | _,_,.cons h _,0=>h
 | _,_,.cons _ h',t+1=>pz.nth h' t
theorem pz.len{g:G}{ks:List Nat}:∀{ps qs:List PV},pz g ks ps qs→qs.length=ps.length
 | _,_,.nil=>rfl
 | _,_,.cons _ h'=>by simp only[aq,pz.len h']
section
variable{P:Program}{X:Cx}{vs:List Value}{e:TypeId}{xs:List (List D)}
end
section
variable{E:Env}{g:G}{d:Nat}{ty:TypeId}{pos:String}{cM:Array Edge}{gd:Option (Nat×Bool)}
theorem AB{P:Program}(w:World)(n:Nat)(t e:TypeId)(a:Option Addr)(l c:Nat)(h:P.underlying t=some (.slice e)):(Op.equalIn (n+1) t (.slice a l c) (.slice none 0 0)).run P w= .ok a.isNone w:=by
 cases a<;>simp[Op.equalIn,run_underlying h]
theorem Ds{P:Program}(w:World)(t e:TypeId)(a:Option Addr)(l c:Nat)(h:P.underlying t=some (.slice e)):(Op.equal t (.slice a l c) (.slice none 0 0)).run P w= .ok a.isNone w:=AB w 9999 t e a l c h
theorem IB(x:Operand)(t e u:TypeId)(ti:TI)(b:Bool)(ht:E.ti t=some ti)(fI:ti.ty= .slice e)(hp:∀(w:World)(ok:Nat→Prop)(ν:Nat→Nm)(st:Nat→Option En)(v:Value),aj w ok ν st (g.ev x) v→∃a n c,v= .slice a n c∧a.isNone=b) :
 gz E.P ⟨some d,.binOp .eql t x (.const (.slice none 0 0)) u,ty,pos,cM,gd⟩ g ⟨bV x,[]⟩ ⟨some (d,.d (.val (.bool b))),[]⟩:=by
 intro g2 hg
 have h1:=hg.ev (x:=x) (fun t h=>h)
 refine x7.val rfl fun X ν a w hs=>?_
 have hv:=hs.ev x
 rw[h1] at hv
 obtain⟨ad,n,c,hva,hb⟩:=hp _ _ _ _ _ hv
 have h:=(E.ok t ti ht).ty
 rw[fI] at h
 refine⟨.bool b,?_,iP rfl⟩
 have he:a.eval (.const (.slice none 0 0))= .slice none 0 0:=rfl
 simp[execOp,hva,he,eqGuard,binOp,Ds w t e ad n c h,hb]
theorem tf:∀(w:World)(ok:Nat→Prop)(ν:Nat→Nm)(st:Nat→Option En)(v:Value),aj w ok ν st .aY v→∃a n c,v= .slice a n c∧a.isNone=true:=by
 intro w ok ν st v h
 simp only[aj] at h
 exact⟨_,_,_,h,rfl⟩
theorem zA(ad:Addr)(n c:Nat):∀(w:World)(ok:Nat→Prop)(ν:Nat→Nm)(st:Nat→Option En)(v:Value),aj w ok ν st (.d (.val (.slice (some ad) n c))) v→∃a n c,v= .slice a n c∧a.isNone=false:=by
 intro w ok ν st v h
 exact⟨_,_,_,fq h,rfl⟩
theorem zy{x:List D}{xs:List (List D)}:∀(w:World)(ok:Nat→Prop)(ν:Nat→Nm)(st:Nat→Option En)(v:Value),aj w ok ν st (.d (.bX (x::xs))) v→∃a n c,v= .slice a n c∧a.isNone=false:=by
 intro w ok ν st v h
 simp only[aj] at h
 cases h with
 | bX=>exact⟨_,_,_,rfl,rfl⟩
theorem xq{m:Option (List Ky)}{gs:Option Nat}{rest:ll→Option (List Ky)→G→Prop}{x:Operand}{t u:TypeId}(e:TypeId)(ti:TI)(b:Bool)(ht:E.ti t=some ti)(fI:ti.ty= .slice e){p:PV}(hx:g.ev x=p)(hp:∀(w:World)(ok:Nat→Prop)(ν:Nat→Nm)(st:Nat→Option En)(v:Value),aj w ok ν st p v→∃a n c,v= .slice a n c∧a.isNone=b)
 (hr:rest .on (ja m (jM (oh gs ⟨bV x,[]⟩) ⟨some (d,.d (.val (.bool b))),[]⟩)) (g.app ⟨some (d,.d (.val (.bool b))),[]⟩)):ob E m gs ⟨some d,.binOp .eql t x (.const (.slice none 0 0)) u,ty,pos,cM,gd⟩ g rest:=
 l8 (IB x t e u ti b ht fI (by rw[hx];exact hp)) hr
end
theorem E2{P:Program}{f:FuncId}{R:PV→List (Option En)→Prop}(h1:C P f [.aY] [] R)(h2:∀a c,C P f [.d (.val (.slice (some a) 0 c))] [] R):C P f [.d (.bX [])] [] R:=by
 refine⟨h1.1,fun X vs dg hO hs=>?_⟩
 have hsz:=hs.size
 obtain⟨v,rfl⟩:=cg.1 (show vs.length=1 by simpa using hsz)
 have h0:=hs.sl 0
 have h0:dA X.w0 (bm X X.ν0 (G.at ⟨[.d (.bX [])],[]⟩)) (.bX []) v:=h0
 have key:∀p:PV,aj X.w0 (bm X X.ν0 (G.at ⟨[p],[]⟩)) X.ν0 (G.at ⟨[p],[]⟩) p v→Sat P X X.ν0 ⟨[p],[]⟩ ⟨⟨[v]⟩,[]⟩ X.w0:=fun p hp=>
  ⟨rfl,fun t=>by
   match t with
   | 0=>exact hp
   | t+1=>simp only[nth,aj],hs.en,hs.inj,hs.base,hs.nu,hs.par,hs.wS,hs.qf,rfl⟩
 cases h0 with
 | nil=>exact h1.2 X _ dg hO (key .aY rfl)
 | emp a c h=>exact(h2 a c).2 X _ dg hO (key _ (iP rfl))
 | bX _ us b off cap sz kG hb gf hmax hB hlu hxx hu hc fj=>exact(h2 _ cap).2 X _ dg hO (key _ (iP rfl))
theorem xn(z:Array Value)(hz:0<z.toList.length)(n:Nat):(Builtin.zeroCells z n).toList=(ar n z.toList).flatten:=zf z.toList hz n
theorem o9{P:Program}(w:World)(t e ty:TypeId)(ht:P.underlying t=some (.slice e))(a:Option Addr)(c:Nat):(Builtin.clear_ #[t] ty #[.slice a 0 c]).run P w= .ok (.tuple #[]) w:=by
 cases a<;>simp[Builtin.clear_,run_underlying ht]
theorem yN{P:Program}(w:World)(t e ty:TypeId)(z:Value)(ht:P.underlying t=some (.slice e))(hv:(zeroValue e).run P w= .ok z w)(b o n c:Nat)(hn:n≠0)(hz:0<z.cells.toList.length)
 (cur:Array Value) (T:TypeId) (hg:w.heap[b]?=some (.cells cur T (0,0))) (hl:o+(ar n z.cells.toList).flatten.length≤cur.size) (h1:∀v∈(ar n z.cells.toList).flatten,v.oneCell'=true) :
 (Builtin.clear_ #[t] ty #[.slice (some ⟨b,o,none⟩) n c]).run P w= .ok (.tuple #[]) (w.setRow b (cur.toList.take o++(ar n z.cells.toList).flatten++cur.toList.drop (o+(ar n z.cells.toList).flatten.length)).toArray):=by
 have dg:=run_storeCells_at (P:=P) b o T (ar n z.cells.toList).flatten 0 cur w hg (by omega) h1
 simp only[dY] at dg
 obtain⟨m,rfl⟩:∃m,n=m+1:=⟨n-1,by omega⟩
 rw[←xn z.cells hz] at dg⊢
 simp[Builtin.clear_,run_underlying ht,hv,dg]
section
variable{E:Env}{X:Cx}{ν:Nat→Nm}{g:G}{a:Act}{w:World}
def Ck(z:List D)(xs:List (List D))(m:Nat):List (List D):=xs.take m++ar (xs.length-m) z
theorem GO{t e k m dd:Nat}{ty:TypeId}{pos:String}{cM:Array Edge}{gd:Option (Nat×Bool)}{xs:List (List D)}{z:List D}{ti ei:TI}(ht:E.ti t=some ti)(fI:ti.ty= .slice e)(he:E.ti e=some ei)(hz:qc ei.zero=some z)
 (hk:g.at k=some (.acc e xs)) (hm:m≤xs.length) (n c:Nat) (a0:Option Addr) (hν:(ν k).v= .slice a0 n c) (hv:a.eval (.tmp dd)=sliced a0 m n c ei.n)
 (hs:Sat E.P X ν g a w) (next:Act→World→Prop) (Q:Exit→Act→World→Prop) (hn:∀ν' a' w',Sat E.P X ν' ⟨g.sl,bE g.st k (some (.acc e (Ck z xs m)))⟩ a' w'→next a' w') :
 (⟨none,.call ⟨.builtin .clear,#[.tmp dd],#[t]⟩,ty,pos,cM,gd⟩:Oper).wp E.P a w next Q:=by
 have hu:=(E.ok t ti ht).ty
 rw[fI] at hu
 obtain⟨i,zv,i1,i2,i3,i4,i5,i6⟩:=(E.ok e ei he).info
 have hpos:=(E.ok e ei he).pos
 have hzl:zv.cells.toList.length=ei.n:=by simpa using i6
 have hzv:(zeroValue e).run E.P w= .ok zv w:=by simp[zeroValue,typeInfo,i1,i4]
 obtain⟨us,ho,fj,hB,hf0⟩:=hs.en k _ hk
 rw[(E.ok e ei he).cells] at fj ho
 have hul:us.length=xs.length:=fj.len
 have hfl:=fj.hE
 have key:∀(w':World)(us':List (List Value)),(execOp a.eval ⟨none,.call ⟨.builtin .clear,#[.tmp dd],#[t]⟩,ty,pos,cM,gd⟩).run E.P w= .ok (.value (.tuple #[])) w'→mK (fun b=>(ν k).has b) w w' →
  (w'.ownsRow 0 e ei.n (ν k).v (Ck z xs m).length us'.flatten)→bg w (bm X ν g.at) ei.n (Ck z xs m) us' →
  (⟨none,.call ⟨.builtin .clear,#[.tmp dd],#[t]⟩,ty,pos,cM,gd⟩:Oper).wp E.P a w next Q:=by
  intro w' us' hr lf kq iy
  unfold Oper.wp
  rw[hr,Oper.upon_value]
  refine hn _ _ _ (hs.wU k (.acc e xs) (.acc e (Ck z xs m)) hk rfl lf none .undef Go.undef ?_ (fun h=>by cases h))
  intro hwf _
  refine⟨us',?_,?_,by simp[Ck];omega,hf0⟩
  ·rw[(E.ok e ei he).cells]
   exact kq
  ·rw[(E.ok e ei he).cells]
   exact iy.frame hwf lf.size
 have hex:∀(v:Value)(w':World),(Builtin.clear_ #[t] ty #[a.eval (.tmp dd)]).run E.P w= .ok v w'→(execOp a.eval ⟨none,.call ⟨.builtin .clear,#[.tmp dd],#[t]⟩,ty,pos,cM,gd⟩).run E.P w= .ok (.value v) w':=by
  intro v w' h
  unfold execOp
  simp only[resolve,invoke,builtin,Sem.run_bind,Sem.run_pure,Result.andThen_ok,List.map_toArray,aQ,cP,h]
 rcases ho.2 with⟨h1,h2⟩|⟨b,cap,cur,h1,_,h2,h4,h5,h6,h7⟩
 ·rw[h1] at hν
  obtain⟨rfl,rfl,rfl⟩:none=a0∧0=n∧0=c:=by simpa using hν
  have hm0:m=0:=by omega
  subst hm0
  have hxs:xs=[]:=List.eq_nil_of_length_eq_zero h2
  subst hxs
  refine key w us (hex _ _ ?_) (mK.refl _ w) ?_ ?_
  ·rw[hv]
   exact o9 w t e ty hu _ _
  ·exact ho
  ·exact fj
 ·rw[h1] at hν
  obtain⟨rfl,rfl,rfl⟩:some ⟨b,0,none⟩=a0∧xs.length=n∧cap=c:=by simpa using hν
  by_cases jW:m=xs.length
  ·refine key w us (hex _ _ ?_) (mK.refl _ w) ?_ ?_
   ·rw[hv]
    unfold sliced
    rw[jW,gu]
    exact o9 w t e ty hu _ _
   ·simpa[Ck,jW] using ho
   ·simpa[Ck,jW] using fj
  ·have hzr:ah w (bm X ν g.at) ν g.at (eZ z) zv.cells.toList:=ot (mL _ _ _ _ zv.cells.toList) (by rw[i5];exact hz)
   obtain⟨hz1,hz2⟩:=qW hzr
   have hrep0:bg w (bm X ν g.at) ei.n (ar (xs.length-m) z) (ar (xs.length-m) zv.cells.toList):=bg.replicate _ (by rw[←hz1];exact hzl) hzl hz2
   have iy:bg w (bm X ν g.at) ei.n (Ck z xs m) (us.take m++ar (xs.length-m) zv.cells.toList):=by
    have:=fj.cut 0 m
    simp only[gg] at this
    exact this.append hrep0
   have hmul:m*ei.n≤xs.length*ei.n:=aW _ hm
   have hZ:(ar (xs.length-m) zv.cells.toList).flatten.length=(xs.length-m)*ei.n:=hrep0.hE.trans (by simp)
   have hsum:m*ei.n+(xs.length-m)*ei.n=xs.length*ei.n:=by rw[←Nat.add_mul];congr 1;omega
   have gf:xs.length*ei.n≤cap*ei.n:=aW _ h4
   have jV:=yN (P:=E.P) w t e ty zv hu hzv b (m*ei.n) (xs.length-m) (cap-m) (by omega) (by omega) cur e h2 (by rw[hZ,hsum,h6];exact gf) hrep0.one
   have hval:a.eval (.tmp dd)= .slice (some ⟨b,m*ei.n,none⟩) (xs.length-m) (cap-m):=by
    rw[hv]
    unfold sliced
    rw[if_neg (by omega),cX,add_lit,bR]
   refine key _ _ (hex _ _ (by rw[hval];exact jV)) (jN w b _ _ ((gV hf0).2 (by rw[h1];rfl))) ?_ iy
   have htake:cur.toList.take (m*ei.n)=(us.take m).flatten:=by
    have:=oH us 0 m fj.hu (by omega)
    simp only[gg,lh] at this
    rw[this,←h7,List.take_take,Nat.min_eq_left hmul]
   have hnew:cur.toList.take (m*ei.n)++(ar (xs.length-m) zv.cells.toList).flatten=(us.take m++ar (xs.length-m) zv.cells.toList).flatten:=by rw[htake,List.flatten_append]
   have hnl:(us.take m++ar (xs.length-m) zv.cells.toList).flatten.length=(Ck z xs m).length*ei.n:=iy.hE
   have hcl:(Ck z xs m).length=xs.length:=by simp[Ck];omega
   rw[h1]
   refine⟨hnl,.inr ⟨b,cap,_,by rw[hcl],Nat.zero_le _,setRow_heap w b _ _ e _ h2,by rw[hcl];exact h4,h5,?_,?_⟩⟩
   ·rw[hnew]
    simp only[List.size_toArray,List.length_append,hnl,hcl,List.length_drop,cL,h6,hZ,hsum]
    omega
   ·rw[hnew,hcl]
    simp only
    rw[cC (by rw[hnl,hcl];exact au _),ao (by rw[hnl,hcl];exact au _)]
end
theorem IW(z:List D)(xs:List (List D))(m:Nat)(h:m≤xs.length):(Ck z xs m).take m=xs.take m:=by
 have e:(xs.take m).length=m:=by simp;omega
 rw[Ck,cC (by omega),ao (by omega)]
theorem Jp(z:List D)(xs:List (List D))(m:Nat)(h:m≤xs.length):(Ck z xs m).length=xs.length:=by simp[Ck];omega
theorem LZ{P:Program}{ops:Array Oper}{o1 o2:Oper}{os:List Oper}{g g':G}{K:G→Prop}(hg1:o1.guard=none)(hg2:o2.guard=none)
 (h:∀(X:Cx)(ν:Nat→Nm)(a:Act)(w:World)(next next1:Act→World→Prop)(Q:Exit→Act→World→Prop),Sat P X ν g a w→(∀ν' a' w',Sat P X ν' g' a' w'→next a' w')→(∀a1 w1,o2.wp P a1 w1 next Q→next1 a1 w1)→o1.wp P a w next1 Q)
 (hr:WO P ops os g' K):WO P ops (o1::o2::os) g K:=by
 intro i hi X ν a w Q hs hn
 have ho1:ops[i]?=some o1:=hi 0 o1 rfl
 have ho2:ops[i+1]?=some o2:=hi 1 o2 rfl
 simp only[aq,List.range'_succ,wpOps,ho1]
 have hrest:=hr (i+2) (fun j o' hj=>by have:=hi (j+2) o' (by simpa using hj);rw[show i+2+j=i+(j+2) from by omega];exact this)
 rw[if_pos (by simp[Region.wanted,hg1])]
 refine .inl (h X ν a w (wpOps P ops Q (List.range' (i+2) os.length)) _ Q hs (fun ν' a' w' hs'=>hrest X ν' a' w' Q hs' hn) fun a1 w1 h2=>?_)
 simp only[ho2]
 rw[if_pos (by simp[Region.wanted,hg2])]
 exact .inl h2
section
variable{E:Env}{g:G}{n0:Nat}
theorem Ml{ops:Array Oper}{os:List Oper}{K:G→Prop}{x lo:Operand}{t e k d:Nat}{m:Int}{ty ty2:TypeId}{pos pos2:String}{cM aft2:Array Edge}{xs:List (List D)}(z:List D)(ti ei:TI)(ht:E.ti t=some ti)(fI:ti.ty= .slice e)(he:E.ti e=some ei)(hz:qc ei.zero=some z)
 (hx:g.ev x= .acc k) (hlo:g.ev lo= .d (.val (.int .i64 m))) (hk:g.at k=some (.acc e xs)) (h0:0≤m) (hm:m≤xs.length) (hd:d<g.sl.length)
 (hr:WO E.P ops os ⟨gk g.sl d .any,bE g.st k (some (.acc e (Ck z xs m.toNat)))⟩ K) :
 WO E.P ops (⟨some d,.slice t x (some lo) none none,ty,pos,cM,none⟩::⟨none,.call ⟨.builtin .clear,#[.tmp d],#[t]⟩,ty2,pos2,aft2,none⟩::os) g K:=by
 refine LZ rfl rfl (fun X ν a w next next1 Q hs hn h2=>?_) hr
 have hu:=(E.ok t ti ht).ty
 rw[fI] at hu
 have hv:=hs.ev x
 rw[hx] at hv
 have jH:=hs.ev lo
 rw[hlo] at jH
 have jH:=fq jH
 simp only[aj] at hv
 have hsize:=(E.ok e ei he).size
 have hs1:=hs.put d (p:=.any) (v:=Go.undef) trivial
 obtain⟨us,ho,fj,hB,hf0⟩:=hs.en k _ hk
 have jV:∃n c a0,(ν k).v= .slice a0 n c∧(execOp a.eval ⟨some d,.slice t x (some lo) none none,ty,pos,cM,none⟩).run E.P w= .ok (.value (sliced a0 m.toNat n c ei.n)) w:=by
  rcases ho.2 with⟨h1,h2⟩|⟨b,cap,cur,h1,_,_,h4,_⟩
  ·refine⟨0,0,none,h1,?_⟩
   have hr:=po (P:=E.P) w hu hsize none 0 0 (some (.int .i64 m)) none m ((0:Nat):Int) (.inr ⟨_,rfl⟩) (.inl ⟨rfl,rfl⟩) h0 (by omega) (fy _) (au _)
   simp only[execOp,hv.2,h1,jH,dL,cX,Sem.run_bind,hr,Result.andThen_ok]
   rfl
  ·refine⟨xs.length,cap,some ⟨b,0,none⟩,h1,?_⟩
   have hr:=po (P:=E.P) w hu hsize (some ⟨b,0,none⟩) xs.length cap (some (.int .i64 m)) none m (xs.length:Int) (.inr ⟨_,rfl⟩) (.inl ⟨rfl,rfl⟩) h0 (by omega) (fy _) h4
   simp only[aF] at hr
   simp only[execOp,hv.2,h1,jH,dL,cX,Sem.run_bind,hr,Result.andThen_ok]
   rfl
 obtain⟨n,c,a0,hν,hr⟩:=jV
 unfold Oper.wp
 rw[hr,Oper.upon_value]
 refine h2 _ _ ?_
 have hs2:=hs.put d (p:=.any) (v:=sliced a0 m.toNat n c ei.n) trivial
 refine GO (g:=⟨gk g.sl d .any,g.st⟩) ht fI he hz hk (by omega) n c a0 hν ?_ hs2 next Q hn
 show(a.put (some d) _).tmps.getD d Go.undef=_
 rw[lM,if_pos ⟨rfl,by rw[hs.size];exact hd⟩]
theorem Ju(x hi:Operand)(t e k:Nat){d:Nat}{ty:TypeId}{pos:String}{cM:Array Edge}{gd:Option (Nat×Bool)}(ti ei:TI)(xs:List (List D))(h:Int)(ht:E.ti t=some ti)(fI:ti.ty= .slice e)(he:E.ti e=some ei)
 (hx:g.ev x= .acc k) (hk:g.at k=some (.acc e xs)) (hhi:g.ev hi= .d (.val (.int .i64 h))) (h0:0≤h) (h1:h≤xs.length) :
 gz E.P ⟨some d,.slice t x none (some hi) none,ty,pos,cM,gd⟩ g ⟨bV x++bV hi,[k]⟩ ⟨some (d,.d (.bX (xs.take h.toNat))),[(k,.dead)]⟩:=by
 intro g2 hg
 have e1:=hg.ev (x:=x) (fun t h=>by simp[h])
 have e2:=hg.ev (x:=hi) (fun t h=>by simp[h])
 have h3:=(hg.p k (by simp)).trans hk
 intro X ν a w next Q hs hn
 have hu:=(E.ok t ti ht).ty
 rw[fI] at hu
 have hv:=hs.ev x
 rw[e1,hx] at hv
 have jH:=hs.ev hi
 rw[e2,hhi] at jH
 have jH:=fq jH
 simp only[aj] at hv
 have hsize:=(E.ok e ei he).size
 obtain⟨hn',rfl⟩:∃n:Nat,h=n:=⟨h.toNat,by omega⟩
 simp only[aF] at hn⊢
 obtain⟨us,ho,fj,hB,hf0⟩:=hs.en k _ h3
 have fJ:∀j,(g2.app ⟨some (d,.d (.bX (xs.take hn'))),[(k,.dead)]⟩).at j=if j=k then some .dead else g2.at j:=fun j=>di g2.st k (some .dead) j
 have iz:∀j e1,(g2.app ⟨some (d,.d (.bX (xs.take hn'))),[(k,.dead)]⟩).at j=some e1→e1.live=true→j≠k∧g2.at j=some e1:=by
  intro j e1 h1 h2
  rw[fJ] at h1
  by_cases hj:j=k
  ·rw[if_pos hj] at h1
   cases h1;cases h2
  ·rw[if_neg hj] at h1
   exact⟨hj,h1⟩
 have dG:∀b,Own ν (g2.app ⟨some (d,.d (.bX (xs.take hn'))),[(k,.dead)]⟩).at b→Own ν g2.at b:=by
  rintro b ⟨j,e1,h1,h2,h3⟩
  exact⟨j,e1,(iz j e1 h1 h2).2,h2,h3⟩
 have hw:∀b,bm X ν g2.at b→b<w.heap.size→bm X ν (g2.app ⟨some (d,.d (.bX (xs.take hn'))),[(k,.dead)]⟩).at b∧w.heap[b]?=w.heap[b]?:=fun b hb _=>⟨⟨fun ho=>hb.1 (dG b ho),hb.2⟩,rfl⟩
 have jV:∃v,(execOp a.eval ⟨some d,.slice t x none (some hi) none,ty,pos,cM,gd⟩).run E.P w= .ok (.value v) w∧dA w (bm X ν (g2.app ⟨some (d,.d (.bX (xs.take hn'))),[(k,.dead)]⟩).at) (.bX (xs.take hn')) v:=by
  rcases ho.2 with⟨k1,k2⟩|⟨b,cap,cur,k1,_,k2,k4,k5,k6,k7⟩
  ·have hr:=po (P:=E.P) w hu hsize none 0 0 none (some (.int .i64 (hn':Int))) 0 (hn':Int) (.inl ⟨rfl,rfl⟩) (.inr ⟨_,rfl⟩) (fy _) h0 (by omega) (au _)
   obtain rfl:hn'=0:=by omega
   refine⟨.slice none 0 0,?_,by simp;exact .nil⟩
   simp only[execOp,hv.2,k1,jH,dL,cX,Sem.run_bind,hr,Result.andThen_ok]
   rfl
  ·have hr:=po (P:=E.P) w hu hsize (some ⟨b,0,none⟩) xs.length cap none (some (.int .i64 (hn':Int))) 0 (hn':Int) (.inl ⟨rfl,rfl⟩) (.inr ⟨_,rfl⟩) (fy _) h0 (by omega) k4
   simp only[aF] at hr
   refine⟨.slice (some ⟨b,0,none⟩) hn' cap,?_,?_⟩
   ·simp only[execOp,hv.2,k1,jH,dL,cX,Sem.run_bind,hr,Result.andThen_ok]
    unfold sliced
    simp[add_lit]
   ·have hrr':=(fj.frame hw (au _)).cut 0 hn'
    simp only[gg] at hrr'
    have db:(xs.take hn').length=hn':=by simp;omega
    have hcl:=oH us 0 hn' fj.hu (by rw[fj.len];omega)
    simp only[gg,lh] at hcl
    have hokb:bm X ν (g2.app ⟨some (d,.d (.bX (xs.take hn'))),[(k,.dead)]⟩).at b:=by
     refine⟨?_,hs.Bi ⟨k,_,h3,rfl,.inl (by rw[k1];rfl)⟩⟩
     rintro⟨j,e1,m1,m2,m3⟩
     obtain⟨m4,m5⟩:=iz j e1 m1 m2
     exact m4 (hs.inj j k e1 _ b m5 h3 m2 rfl m3 (.inl (by rw[k1];rfl)))
    have hres:=dA.bX (w:=w) (ok:=bm X ν (g2.app ⟨some (d,.d (.bX (xs.take hn'))),[(k,.dead)]⟩).at) (xs.take hn') (us.take hn') b 0 cap (E.P.cellsOf e) hokb (nx k2) (by rw[db];omega) k5 (by rw[db];omega) hrr'.len hrr'.hx hrr'.hu (fun j u hj=>?_) hrr'.hr
    ·rw[db] at hres
     exact hres
    ·rw[hcl,←k7,List.take_take] at hj
     have hj':cur.toList[j]?=some u:=by
      rw[List.getElem?_take] at hj
      split at hj
      ·exact hj
      ·cases hj
     have hj2:cur[j]?=some u:=by simpa using hj'
     simp[World.cell?,k2,hj2]
 obtain⟨v,hr,iy⟩:=jV
 unfold Oper.wp
 rw[hr,Oper.upon_value]
 refine hn ν _ _ (hs.Ia (g':=g2.app ⟨some (d,.d (.bX (xs.take hn'))),[(k,.dead)]⟩) (fun _=>False) (mK.refl _ w) (fun _ hb=>hb.elim) ?_ ?_ ?_ ?_ ?_ ?_ ?_ rfl)
 ·intro j hj
  refine⟨rfl,?_⟩
  rw[fJ]
  split
  ·rfl
  ·exact hj
 ·intro j e1 hj
  rw[fJ] at hj
  by_cases fK:j=k
  ·rw[if_pos fK] at hj
   cases hj
   exact .inr trivial
  ·rw[if_neg fK] at hj
   exact .inl ⟨hj,rfl,fun _ _ _ hb=>hb⟩
 ·intro j e1 b m1 m2 m3
  exact .inl ⟨j,e1,(iz j e1 m1 m2).2,m2,m3⟩
 ·intro j j' e1 e2 b m1 m2 m3 m4 m5 m6
  exact hs.inj j j' e1 e2 b (iz j e1 m1 m3).2 (iz j' e2 m2 m4).2 m3 m4 m5 m6
 ·intro j hj
  rw[fJ] at hj
  by_cases fK:j=k
  ·exact .inl (by rw[fK,h3];rfl)
  ·rw[if_neg fK] at hj
   exact .inl hj
 ·simp[G.app,mZ,size_put,ey,hs.size]
 ·intro t
  simp only[G.app,mZ,lM,hJ,hs.size]
  by_cases hc:t=d∧d<g2.sl.length
  ·simp only[hc,and_self,if_true]
   refine .inr ?_
   simp only[aj]
   exact iy
  ·simp only[hc,if_false]
   exact .inl ⟨trivial,trivial⟩
def Oo(Q:Ex→G→Prop):ll→Ex→G→Prop
 | .on=>Q
 | .off=>fun _ _=>False
theorem e9(Q:Ex→G→Prop)(e:Ex)(g:G):Oo Q .on e g=Q e g:=rfl
theorem kT(hm:E.P.follows .mixedOrders=true){c:Code}{Q:Ex→G→Prop}(h:Bj E n0 c .on g (Oo Q)):W E.P n0 c g Q:=Df hm c g _ h
theorem eO(K:G→Prop)(Q:Ex→G→Prop)(g:G):Fc K Q .normal g=K g:=rfl
theorem Kc(K:G→Prop)(Q:Ex→G→Prop)(i:Nat)(g:G):Fc K Q (.exit i) g=Q (.exit i) g:=rfl
theorem vz(K:G→Prop)(Q:Ex→G→Prop)(g:G):Fc K Q .ret g=Q .ret g:=rfl
theorem y0{P:Program}(t k e:Nat)(xs:List (List D))(ht:nth g.sl t= .acc k)(hk:g.at k=some (.acc e xs)):ko P n0 g ⟨gk g.sl t (.d (.bX xs)),bE g.st k (some .dead)⟩:=by
 intro X ν a w _ hs
 refine⟨ν,?_⟩
 obtain⟨us,ho,fj,hB,hf0⟩:=hs.en k _ hk
 have fJ:∀j,(⟨gk g.sl t (.d (.bX xs)),bE g.st k (some .dead)⟩:G).at j=if j=k then some .dead else g.at j:=fun j=>di g.st k (some .dead) j
 have iz:∀j e1,(⟨gk g.sl t (.d (.bX xs)),bE g.st k (some .dead)⟩:G).at j=some e1→e1.live=true→j≠k∧g.at j=some e1:=by
  intro j e1 h1 h2
  rw[fJ] at h1
  by_cases hj:j=k
  ·rw[if_pos hj] at h1
   cases h1;cases h2
  ·rw[if_neg hj] at h1
   exact⟨hj,h1⟩
 have dG:∀b,Own ν (⟨gk g.sl t (.d (.bX xs)),bE g.st k (some .dead)⟩:G).at b→Own ν g.at b:=by
  rintro b ⟨j,e1,h1,h2,h3⟩
  exact⟨j,e1,(iz j e1 h1 h2).2,h2,h3⟩
 have hw:∀b,bm X ν g.at b→b<w.heap.size→bm X ν (⟨gk g.sl t (.d (.bX xs)),bE g.st k (some .dead)⟩:G).at b∧w.heap[b]?=w.heap[b]?:=fun b hb _=>⟨⟨fun ho=>hb.1 (dG b ho),hb.2⟩,rfl⟩
 have iy:dA w (bm X ν (⟨gk g.sl t (.d (.bX xs)),bE g.st k (some .dead)⟩:G).at) (.bX xs) (ν k).v:=by
  refine mO ho fj hB (fun b hb=>⟨?_,hs.Bi ⟨k,_,hk,rfl,.inl hb⟩⟩) hw
  rintro⟨j,e1,m1,m2,m3⟩
  obtain⟨m4,m5⟩:=iz j e1 m1 m2
  exact m4 (hs.inj j k e1 _ b m5 hk m2 rfl m3 (.inl hb))
 refine hs.Ia (g':=⟨gk g.sl t (.d (.bX xs)),bE g.st k (some .dead)⟩) (fun _=>False) (mK.refl _ w) (fun _ hb=>hb.elim) ?_ ?_ ?_ ?_ ?_ ?_ ?_ rfl
 ·intro j hj
  refine⟨rfl,?_⟩
  rw[fJ]
  split
  ·rfl
  ·exact hj
 ·intro j e1 hj
  rw[fJ] at hj
  by_cases fK:j=k
  ·rw[if_pos fK] at hj
   cases hj
   exact .inr trivial
  ·rw[if_neg fK] at hj
   exact .inl ⟨hj,rfl,fun _ _ _ hb=>hb⟩
 ·intro j e1 b m1 m2 m3
  exact .inl ⟨j,e1,(iz j e1 m1 m2).2,m2,m3⟩
 ·intro j j' e1 e2 b m1 m2 m3 m4 m5 m6
  exact hs.inj j j' e1 e2 b (iz j e1 m1 m3).2 (iz j' e2 m2 m4).2 m3 m4 m5 m6
 ·intro j hj
  rw[fJ] at hj
  by_cases fK:j=k
  ·exact .inl (by rw[fK,hk];rfl)
  ·rw[if_neg fK] at hj
   exact .inl hj
 ·simp[ey,hs.size]
 ·intro j
  simp only[hJ]
  by_cases hc:j=t∧t<g.sl.length
  ·simp only[hc,and_self,if_true]
   refine .inr ?_
   have:=hs.sl t
   rw[ht] at this
   simp only[aj] at this⊢
   rw[this.2]
   exact iy
  ·simp only[hc,if_false]
   exact .inl ⟨trivial,trivial⟩
def HK(E:Env)(rs:List ResultVar)(n0:Nat)(R:PV→List (Option En)→Prop)(g:G):Prop:=∃g',ko E.P n0 g g'∧qC E rs n0 R g'
theorem hY{rs:List ResultVar}{R:PV→List (Option En)→Prop}(h:qC E rs n0 R g):HK E rs n0 R g:=⟨g,ko.refl g,h⟩
theorem zp {f : FuncId} {fn : Func} {c : Code} {args : List PV} {cy : List (Option En)} {R : PV → List (Option En) → Prop} {nt : Nat} {rs : List ResultVar} (hf : E.P.funcs[f]? = some fn) (hb : fn.body = some c) (hname : (fn.name == "runtime.NumGoroutine") = false)
 (hnt:fn.ntmps=nt) (hrs:fn.results.toList=rs) (hn:pw (oZ args) nt=true) (h:kE args→r8 cy→W E.P (gx cy) c ⟨eE nt .undef (He 0 args),cy⟩ (DW (HK E rs (gx cy) R))):C E.P f args cy R:=by
 have hn:=fV hn
 rw[jy] at hn
 rw[←EX hn,iE] at h
 refine CJ hf hb hname (HK E rs cy.length R) (fun _ X ν a w ⟨_,hw,h1⟩ hp hs=>let ⟨_,hs'⟩:=hw X ν a w hp hs;qC.sat h1 hp hs' hrs) ?_
 rw[hnt,←qy]
 refine Lo fun h1 h2=>h ?_ h2
 have h1:kE (pad args nt):=h1
 rw[qy] at h1
 exact tj h1
end
def NZ(P:Program)(t:TypeId):Bool:=
 match P.underlying t with
 | some (.struct ⟨[f, g]⟩) => (f.name != "_" && (g.name != "_" && (f.offset == 0 && (g.offset == 1 && ((match P.underlying f.type, P.underlying g.type with | some (.int _), some (.int _) => true | _, _ => false) && (!P.stoodInHeld t && !P.eqGuardType P.depth t))))))
 | _=>false
def Oi(a b c e:Int):Bool:=a == c&&b == e
section
variable{E:Env}{g:G}{d:Nat}{ty:TypeId}{pos:String}{cM:Array Edge}{gd:Option (Nat×Bool)}
theorem L3(x y:Operand)(m n:Int)(tys:Array TypeId)(hx:g.ev x= .d (.val (.int .i64 m)))(hy:g.ev y= .d (.val (.int .i64 n))) :
 gz E.P ⟨some d,.call ⟨.builtin .max,#[x,y],tys⟩,ty,pos,cM,gd⟩ g ⟨bV x++bV y,[]⟩ ⟨some (d,.d (.val (.int .i64 (if m<n then n else m)))),[]⟩:=
 j7 rfl hx hy rfl fun a w h1 h2=>by
  simp[execOp,resolve,invoke,builtin,Builtin.max_,Builtin.max2,h1,h2]
theorem MZ{m:Option (List Ky)}{gs:Option Nat}{rest:ll→Option (List Ky)→G→Prop}{x y:Operand}{tys:Array TypeId}(a b c:Int)(hc:(if a<b then b else a)=c)(hx:g.ev x= .d (.val (.int .i64 a)))(hy:g.ev y= .d (.val (.int .i64 b)))
 (hr:rest .on (ja m (jM (oh gs ⟨bV x++bV y,[]⟩) ⟨some (d,.d (.val (.int .i64 c))),[]⟩)) (g.app ⟨some (d,.d (.val (.int .i64 c))),[]⟩)):ob E m gs ⟨some d,.call ⟨.builtin .max,#[x,y],tys⟩,ty,pos,cM,gd⟩ g rest:=by
 subst hc
 exact l8 (L3 x y a b tys hx hy) hr
theorem wrap_u64{n:Int}(h0:0≤n)(h1:n≤9223372036854775807):IntKind.wrap .u64 n=n:=by
 simp only[IntKind.wrap,IntKind.bits,IntKind.signed,aI,Bool.false_eq_true,if_false]
 omega
end
theorem Ja{P:Program}{f:FuncId}{q:PV}{R:PV→List (Option En)→Prop}(h1:C P f [q,.aY] [] R)(h2:∀a c,C P f [q,.d (.val (.slice (some a) 0 c))] [] R):C P f [q,.d (.bX [])] [] R:=by
 refine⟨h1.1,fun X vs dg hO hs=>?_⟩
 have hsz:=hs.size
 obtain⟨v0,v,rfl⟩:∃a b,vs=[a,b]:=by
  match vs,hsz with
  | [a,b],_=>exact⟨a,b,rfl⟩
  | [],h=>simp at h
  | [_],h=>simp at h
  | _::_::_::_,h=>simp at h
 have hq:=hs.sl 0
 have h0:=hs.sl 1
 have hq:aj X.w0 (bm X X.ν0 (G.at ⟨[q,.d (.bX [])],[]⟩)) X.ν0 (G.at ⟨[q,.d (.bX [])],[]⟩) q v0:=hq
 have h0:dA X.w0 (bm X X.ν0 (G.at ⟨[q,.d (.bX [])],[]⟩)) (.bX []) v:=h0
 have key:∀p:PV,aj X.w0 (bm X X.ν0 (G.at ⟨[q,p],[]⟩)) X.ν0 (G.at ⟨[q,p],[]⟩) p v→Sat P X X.ν0 ⟨[q,p],[]⟩ ⟨⟨[v0,v]⟩,[]⟩ X.w0:=fun p hp=>
  ⟨rfl,fun t=>by
   match t with
   | 0=>exact hq
   | 1=>exact hp
   | t+2=>simp only[nth,aj],hs.en,hs.inj,hs.base,hs.nu,hs.par,hs.wS,hs.qf,rfl⟩
 cases h0 with
 | nil=>exact h1.2 X _ dg hO (key .aY rfl)
 | emp a c h=>exact(h2 a c).2 X _ dg hO (key _ (iP rfl))
 | bX _ us b off cap sz kG hb gf hmax hB hlu hxx hu hc fj=>exact(h2 _ cap).2 X _ dg hO (key _ (iP rfl))
def Gj(cur:Array Value):Nat→List Value→Array Value
 | _,[]=>cur
 | o,v::r=>Gj (cur.setIfInBounds o v) (o+1) r
theorem zr:∀(vs:List Value)(o:Nat)(cur:Array Value),o+vs.length≤cur.size→(Gj cur o vs).toList=cur.toList.take o++vs++cur.toList.drop (o+vs.length)
 | [],o,cur,_=>by simp[Gj]
 | v::r,o,cur,h=>by
   simp only[aq] at h
   have ho:o<cur.toList.length:=by rw[cL];omega
   rw[Gj,zr r (o+1) _ (by rw[Array.size_setIfInBounds];omega),Array.toList_setIfInBounds,List.take_add_one,List.take_set_of_le (au _),List.getElem?_set_self ho,List.drop_set_of_lt (by omega)]
   have e:o+1+r.length=o+(r.length+1):=by omega
   simp only[lW,List.append_assoc,List.singleton_append,aq,bM,bx,e]
theorem Cq(b:Nat):∀(vs:List Value)(o:Nat)(w:World),(w.setCells b o vs).os=w.os∧(w.setCells b o vs).tape=w.tape∧(w.setCells b o vs).output=w.output∧(w.setCells b o vs).heap.size=w.heap.size∧(∀k,k≠b→(w.setCells b o vs).heap[k]?=w.heap[k]?) ∧
 ∀cur e fr,w.heap[b]?=some (.cells cur e fr)→(w.setCells b o vs).heap[b]?=some (.cells (Gj cur o vs) e fr)
 | [],o,w=>⟨rfl,rfl,rfl,rfl,fun _ _=>rfl,fun cur e fr h=>h⟩
 | v::r,o,w=>by
   obtain⟨h1,h2,h3,h4,h5,h6⟩:=Cq b r (o+1) (w.setCell ⟨b,o,none⟩ v)
   rw[World.setCells]
   refine⟨h1,h2,h3,?_,fun k hk=>?_,fun cur e fr h=>?_⟩
   ·rw[h4];simp[World.setCell]
   ·rw[h5 k hk]
    simp only[World.setCell,Array.getElem?_modify]
    rw[if_neg (fun e=>hk e.symm)]
   ·refine h6 _ e fr ?_
    simp only[World.setCell,Array.getElem?_modify,if_pos,h]
    rfl
theorem Kj{P:Program}{f:FuncId}{p:PV}{v r:Value}(hc:Ch P f)(hp:∀(w:World)(ok:Nat→Prop)(ν:Nat→Nm)(st:Nat→Option En)(u:Value),aj w ok ν st p u→u=v)(h1:r.oneCell'=true)
 (h:∀w,Calls P f #[v] w fun e w'=>e= .returned r∧w'=w):C P f [p] [] (bB (.d (.val r)) []):=by
 refine⟨hc,fun X vs dg hO hs=>?_⟩
 have hsz:=hs.size
 obtain⟨u,rfl⟩:=cg.1 (show vs.length=1 by simpa using hsz)
 have h0:=hp _ _ _ _ u (hs.sl 0)
 subst h0
 refine(h X.w0).mono ?_
 rintro e w' ⟨rfl,rfl⟩
 refine⟨_,_,_,X.ν0,rfl,⟨rfl,rfl⟩,rfl,fun t=>?_,hs.en,hs.inj,hs.base,hs.nu,hs.par,hs.wS,hs.qf,rfl⟩
 match t with
 | 0=>exact iP h1
 | t+1=>simp only[nth,aj]
end Go.Eng
