/-
  The symbolic layer, twenty-third text: from a function's code to its contract; what the working out may unfold.
-/
import Derived.Test.YtabembjmeobhoaaGreatKCC
import Derived.Laws.StructEq
set_option linter.unusedVariables false
set_option linter.unusedSimpArgs false
open Bool renaming and_eq_true→ai,false_eq_true→aw,true_and→aE,false_and→aK,or_eq_true→gr,not_false→jc,not_true→kK,not_eq_true'→mC
open Int renaming toNat_natCast→bn,le_refl→lB
open List renaming getElem?_eq_getElem→af,take_of_length_le→ao,mem_cons→ax,getD_eq_getElem?_getD→ay,map_cons→aQ,replicate→aU,length_cons→aW,getElem?_append_left→bf,getElem?_eq_none→bo,getElem?_append_right→bw,cons_append→bA,take_append_of_le_length→bX,getD→ct,mem_append_left→dy,map_nil→dB,mem_append_right→gg,drop_zero→mZ
open Nat renaming le_refl→aJ,eq_of_beq_eq_true→bK,mul_le_mul_right→bQ,zero_add→di,add_zero→hQ,beq→jk,sub_self→kz
open Option renaming getD_none→cf,map_some→cz,map_none→dG
namespace Go.Eng
open Go.RowKit
def pad:List PV→Nat→List PV
 | [],0=>[]
 | [],n+1=>.undef::pad [] n
 | l,0=>l
 | a::as,n+1=>a::pad as n
theorem AI:∀(l:List PV)(n:Nat),pad l n=l++aU (n-l.length) .undef
 | [],0=>rfl
 | [],n+1=>by simp[pad,AI [] n,List.replicate_succ]
 | a::as,0=>by simp[pad]
 | a::as,n+1=>by simp[pad,AI as n]
def Aw(E:Env)(rs:List ResultVar)(n0:Nat)(R:PV→List (Option En)→Prop)(g:G):Prop:=
 ∃ps m q st',As E g rs=some ps∧Wk n0 m ⟨[kV ps],g.st⟩ ⟨[q],st'⟩∧R q st'
theorem Aw.sat{E:Env}{rs:List ResultVar}{n0:Nat}{R:PV→List (Option En)→Prop}{g:G}(h:Aw E rs n0 R g){X:Cx}{ν:Nat→Nm}{a:Act}{w:World}(hp:Par X n0)(hs:Sat E.P X ν g a w){fn:Func}(hfn:fn.results.toList=rs) :
 ∃v res st' ν',(results fn a.tmps).run E.P w= .ok v w∧R res st'∧Rr E.P X ν' res st' v w:=by
 obtain⟨ps,m,q,st',h1,h2,h3⟩:=h
 obtain⟨v,hr,hv⟩:=DA hs (fn:=fn) (by rw[hfn];exact h1)
 have hs1:Sat E.P X ν ⟨[kV ps],g.st⟩ ⟨#[v],[]⟩ w:=by
  refine⟨rfl,fun t=>?_,hs.en,hs.inj,hs.base,hs.nu,hs.par,hs.Fk,hs.Ai,rfl⟩
  cases t with
  | zero=>exact hv
  | succ t=>simp[nth,aF]
 obtain⟨ν',hs2⟩:=Ma h2 X ν _ _ hp hs1
 exact⟨v,q,st',ν',hr,h3,hs2⟩
theorem acf{E:Env}{rs:List ResultVar}{g:G}{ps:List PV}{q:PV}(h1:As E g rs=some ps)(h2:wk ⟨[kV ps],g.st⟩ [] (kV ps) q):Aw E rs 0 (bD q []) g:=
 ⟨ps,[],q,[],h1,⟨by simp only[AQ];exact⟨h2,trivial⟩,by simp[ml],rfl,rfl⟩,rfl,rfl⟩
theorem Yf:cF []=[]:=rfl
theorem WX(x:D)(xs:List D):cF (x::xs)= .d x::cF xs:=rfl
def An(t:Nat):List (Nat×PV)→PV→PV
 | [],p=>p
 | (d,v)::r,p=>match jk t d with
   | true=>v
   | false=>An t r p
def dH(n:Nat)(p:PV)(ch:List (Nat×PV)):List PV:=(List.range n).map fun t=>An t ch p
theorem ym{a b:Nat}:Nat.ble b a=false↔a<b:=by
 cases h:Nat.ble b a
 ·simp only[true_iff]
  have h':¬b≤a:=fun hl=>by rw[Nat.ble_eq_true_of_le hl] at h;cases h
  omega
 ·have:=Nat.le_of_ble_eq_true h
  simp
  omega
theorem xM:∀(l:List PV)(t:Nat),nth l t=l.getD t .any
 | [],t=>by cases t<;>rfl
 | _::_,0=>rfl
 | _::l,t+1=>by simp only[nth,xM l t];rfl
theorem BC(n:Nat)(p:PV)(ch:List (Nat×PV)):(dH n p ch).length=n:=by simp[dH]
theorem Fm(n:Nat)(p:PV)(ch:List (Nat×PV))(t:Nat):nth (dH n p ch) t=match Nat.ble n t with|false=>An t ch p|true=>.any:=by
 rw[xM]
 cases h:Nat.ble n t
 ·have h':t<n:=ym.1 h
  simp[dH,ct,h']
 ·have h':¬t<n:=fun hl=>by rw[ym.2 hl] at h;cases h
  simp[dH,ct,h']
theorem RU{l l':List PV}(hl:l.length=l'.length)(h:∀t,nth l t=nth l' t):l=l':=by
 refine List.ext_getElem hl fun t h1 h2=>?_
 have:=h t
 rw[xM,xM] at this
 simpa[ct,h1,h2] using this
theorem V5(n:Nat)(p:PV)(ch:List (Nat×PV))(d:Nat)(v:PV):lY (dH n p ch) d v=dH n p ((d,v)::ch):=by
 refine RU (by rw[jz,BC,BC]) fun t=>?_
 rw[nF,BC,Fm,Fm]
 by_cases h:t=d
 ·subst h
  by_cases hn:t<n
  ·rw[if_pos ⟨rfl,hn⟩,ym.2 hn]
   simp only[An,Nat.beq_refl]
  ·rw[if_neg (fun hc=>hn hc.2)]
   have:Nat.ble n t=true:=by
    cases hb:Nat.ble n t
    ·exact(hn (ym.1 hb)).elim
    ·rfl
   rw[this]
 ·rw[if_neg (fun hc=>h hc.1)]
  have:jk t d=false:=by
   cases hb:jk t d
   ·rfl
   ·exact(h (bK hb)).elim
  simp only[An,this]
def UQ:Nat→List PV→List (Nat×PV)
 | _,[]=>[]
 | i,a::l=>(i,a)::UQ (i+1) l
theorem MU:∀(l:List PV)(i t:Nat)(p:PV),An (i+t) (UQ i l) p=l.getD t p
 | [],i,t,p=>by simp[UQ,An]
 | a::l,i,0,p=>by simp[UQ,An]
 | a::l,i,t+1,p=>by
   have:jk (i+(t+1)) i=false:=by
    cases hb:jk (i+(t+1)) i
    ·rfl
    ·have:=bK hb;omega
   simp only[UQ,An,this]
   have:=MU l (i+1) t p
   rw[show i+1+t=i+(t+1) by omega] at this
   rw[this]
   rfl
theorem RA{l:List PV}{n:Nat}(h:l.length≤n):pad l n=dH n .undef (UQ 0 l):=by
 rw[AI]
 refine RU (by rw[BC];simp;omega) fun t=>?_
 rw[Fm,xM]
 have:=MU l 0 t .undef
 rw[di] at this
 rw[this]
 cases hb:Nat.ble n t
 rotate_left
 ·have h':¬t<n:=fun hl=>by rw[ym.2 hl] at hb;cases hb
  have h1:(l++aU (n-l.length) PV.undef).length≤t:=by simp;omega
  simp only[ct,bo h1,cf]
 ·have h':t<n:=ym.1 hb
  simp only[ct]
  by_cases hl:t<l.length
  ·rw[bf hl,af hl];rfl
  ·rw[bw (by omega),List.getElem?_replicate,if_pos (by omega),bo (by omega)]
   rfl
def wkC(g:G)(m:List (Option Nat))(ch:List (Nat×PV))(p:PV):List (Nat×PV)→Prop
 | []=>True
 | (t,q)::r=>wk g m (An t ch p) q∧wkC g m ch p r
theorem aaw{g:G}{m:List (Option Nat)}(p:PV):wk g m p .any:=by cases p<;>simp[wk]
theorem Xk{g:G}{m:List (Option Nat)}{ch:List (Nat×PV)}{p:PV}:∀{ch':List (Nat×PV)},wkC g m ch p ch'→∀t,wk g m (An t ch p) (An t ch' .any)
 | [],_,t=>by simp only[An];exact aaw _
 | (d,q)::r,h,t=>by
   simp only[wkC] at h
   simp only[An]
   cases hb:jk t d
   ·exact Xk h.2 t
   ·have:=bK hb
    subst this
    exact h.1
theorem RM{g:G}{m:List (Option Nat)}{f f':Nat→PV}(h:∀t,wk g m (f t) (f' t)):∀(l:List Nat),AQ g m (l.map f) (l.map f')
 | []=>by simp only[dB,AQ]
 | a::l=>by simp only[aQ,AQ];exact⟨h a,RM h l⟩
theorem ar{P:Program}{n0 n:Nat}(m:List (Option Nat)){p:PV}{ch ch':List (Nat×PV)}{st st':List (Option En)}(h1:wkC ⟨dH n p ch,st⟩ m ch p ch')(h2:ml ⟨dH n p ch,st⟩ m m st')(h3:Dq m st'=true)(h4:keeps n0 0 m=true):pr P n0 ⟨dH n p ch,st⟩ ⟨dH n .any ch',st'⟩:=
 Ma ⟨RM (Xk h1) _,h2,h3,h4⟩
attribute [go_sem] Im KJ Fm V5 An wkC UQ da db l6 wY tk dr Qy QD Qe T5 pls evp ev2 ix2 sl2 PY Tp Nx iop cop sop ZC Wz bop yl
attribute [go_sem] Lc FJ Pg Fu K0 BM Fv Lh RQ Fl A6 LU Fy obI KZ Mb L2 LG Fb MI xG CS TC RZ FC R2 ZI
theorem abn(sl:List PV)(st:List (Option En))(dst:Option (Nat×PV))(up:List (Nat×En)):(G.mk sl st).app ⟨dst,up⟩=⟨uw sl dst,yy st up⟩:=rfl
theorem Ud(sl:List PV):uw sl none=sl:=rfl
theorem SM(sl:List PV)(d:Nat)(p:PV):uw sl (some (d,p))=lY sl d p:=rfl
theorem VZ(sl:List PV)(st:List (Option En))(t:Nat):(G.mk sl st).ev (.tmp t)=nth sl t:=rfl
theorem Rt(sl:List PV)(st:List (Option En))(v:Value):(G.mk sl st).ev (.const v)=cpv v:=rfl
theorem TA(sl:List PV)(st:List (Option En))(f:Nat):(G.mk sl st).ev (.func f)= .fn f []:=rfl
theorem acq(sl:List PV)(st:List (Option En))(k:Nat):(G.mk sl st).at k=da st k:=rfl
theorem abx(sl:List PV)(st:List (Option En)):(G.mk sl st).new=l6 st:=rfl
theorem X0(s p:List Nat)(dst:Option (Nat×PV))(up:List (Nat×En)):ot ⟨s,p⟩ ⟨dst,up⟩=⟨s,p,Dl.ws ⟨dst,up⟩,Dl.wp ⟨dst,up⟩⟩:=rfl
theorem XM(up:List (Nat×En)):Dl.ws ⟨none,up⟩=[]:=rfl
theorem Yg(d:Nat)(p:PV)(up:List (Nat×En)):Dl.ws ⟨some (d,p),up⟩=[d]:=rfl
theorem aai(dst:Option (Nat×PV)):Dl.wp ⟨dst,[]⟩=[]:=rfl
theorem YU(dst:Option (Nat×PV))(k:Nat)(e:En)(r:List (Nat×En)):Dl.wp ⟨dst,(k,e)::r⟩=k::Dl.wp ⟨none,r⟩:=rfl
attribute [go_sem] abt abI snoc mK.eq_1 mK.eq_2 uO.eq_1 uO.eq_2 JS.eq_1 JS.eq_2 JS.eq_3 ZO.eq_1 Wx.eq_1 rX.eq_1 rX.eq_2 rX.eq_3 gsl aaK.eq_1 aaK.eq_2 XF.eq_1 XF.eq_2 run RI.eq_1 RI.eq_2 RI.eq_3 FP.eq_1 FP.eq_2 FP.eq_3 UE.eq_1 UK.eq_1 ZH.eq_1 ZH.eq_2 ML
attribute [go_sem] abn Ud SM yy acq VZ Rt TA abx CU cpv Wt MB eM PV.whole PV.one vi Su Jj toD AJ rowsOf Ii uc X0 XM Yg aai YU dj XD TI.isAgg Yf WX
attribute [go_sem] Pe JP P3 Wd As kV bD aQ dB yZ NC
attribute [go_sem] AQ wk ml Cw gX EA keeps Dq PS
attribute [go_sem] Pu T.pv pvT lZ rM toT CM Q2 E9 Fz Iz yn Zm Zz apT XU
mutual
def HY:PV→Prop
 | .d (.dC xs)=>xs.length≤LB
 | .d (.str s)=>s.length≤LB
 | .agg cs=>qP cs
 | _=>True
def qP:List PV→Prop
 | []=>True
 | p::ps=>HY p∧qP ps
end
mutual
theorem aF.HY{w:World}{ok:Nat→Prop}{ν:Nat→Nm}{st:Nat→Option En}:∀(p:PV)(v:Value),aF w ok ν st p v→HY p
 | .d (.dC xs),v,h=>by
   simp only[aF] at h
   simp only[Eng.HY]
   exact h.aaa
 | .d (.str s),v,h=>by
   simp only[aF] at h
   simp only[Eng.HY]
   exact h.E7.2
 | .agg cs,v,h=>by
   simp only[aF] at h
   simp only[Eng.HY]
   obtain⟨vs,_,h⟩:=h
   exact aA.HY cs vs h
 | .d (.val _),_,_=>by simp only[Eng.HY]
 | .any,_,_=>by simp only[Eng.HY]
 | .undef,_,_=>by simp only[Eng.HY]
 | .b6,_,_=>by simp only[Eng.HY]
 | .gV _,_,_=>by simp only[Eng.HY]
 | .ptr _ _,_,_=>by simp only[Eng.HY]
 | .acc _,_,_=>by simp only[Eng.HY]
 | .gM _ _ _ _,_,_=>by simp only[Eng.HY]
 | .gy _ _ _,_,_=>by simp only[Eng.HY]
 | .fn _ _,_,_=>by simp only[Eng.HY]
theorem aA.HY{w:World}{ok:Nat→Prop}{ν:Nat→Nm}{st:Nat→Option En}:∀(ps:List PV)(vs:List Value),aA w ok ν st ps vs→qP ps
 | [],_,_=>by simp only[Eng.qP]
 | p::ps,v::vs,h=>by
   simp only[aA] at h
   simp only[Eng.qP]
   exact⟨aF.HY p v h.1,aA.HY ps vs h.2⟩
 | _::_,[],h=>by simp[aA] at h
end
def SO:Option En→Prop
 | some (.box cs)=>qP cs
 | some (.acc _ xs)=>xs.length≤LB
 | some (.fw _ xs)=>xs.length≤LB
 | _=>True
def Cr:List (Option En)→Prop
 | []=>True
 | e::es=>SO e∧Cr es
theorem Sat.qP{P:Program}{X:Cx}{ν:Nat→Nm}{g:G}{a:Act}{w:World}(h:Sat P X ν g a w):Eng.qP g.sl:=by
 have key:∀(ps:List PV),(∀t,∃v,aF w (cG X ν g.at) ν g.at (nth ps t) v)→Eng.qP ps:=by
  intro ps
  induction ps with
  | nil=>intro _;simp only[Eng.qP]
  | cons p ps ih=>
    intro hp
    simp only[Eng.qP]
    obtain⟨v,hv⟩:=hp 0
    exact⟨aF.HY p v hv,ih fun t=>hp (t+1)⟩
 exact key _ fun t=>⟨_,h.sl t⟩
theorem Sat.SO{P:Program}{X:Cx}{ν:Nat→Nm}{g:G}{a:Act}{w:World}(h:Sat P X ν g a w)(k:Nat):Eng.SO (g.at k):=by
 cases hk:g.at k with
 | none=>trivial
 | some e=>
   have:=h.en k e hk
   cases e with
   | dead=>trivial
   | box cs=>obtain⟨b,vs,T,_,_,h3,_⟩:=this;exact aA.HY cs vs h3
   | acc t xs=>obtain⟨us,_,_,h3,_⟩:=this;exact h3
   | map sR=>trivial
   | fw t xs=>
     have h1:=this.1
     simp only[kG] at h1
     obtain⟨us,F1,_,_,_,h4,_⟩:=h1
     exact h4
theorem NH:∀{l:List (Option En)},(∀k,SO (da l k))→Cr l
 | [],_=>trivial
 | _::_,h=>⟨h 0,NH fun k=>h (k+1)⟩
theorem Zt{P:Program}{n0:Nat}{c:Code}{g:G}{Q:Ex→G→Prop}(h:qP g.sl→Cr g.st→W P n0 c g Q):W P n0 c g Q:=fun X ν a w hp hs=>
 h hs.qP (NH fun k=>hs.SO k) X ν a w hp hs
theorem C8:∀{ps r:List PV},qP (ps++r)→qP ps
 | [],_,_=>by simp only[qP]
 | p::ps,r,h=>by
   simp only[bA,qP] at h⊢
   exact⟨h.1,C8 h.2⟩
theorem abz {E : Env} (hm : E.P.follows .mixedOrders = true) {f : FuncId} {fn : Func} {c : Code} {args : List PV} {e9 : List (Option En)} {R : PV → List (Option En) → Prop} {nt : Nat} {rs : List ResultVar} (hf : E.P.funcs[f]? = some fn) (hb : fn.body = some c) (hname : (fn.name == "runtime.NumGoroutine") = false)
 (hnt:fn.ntmps=nt) (hrs:fn.results.toList=rs) (h:qP args→Cr e9→ML E (l6 e9) c .on ⟨pad args nt,e9⟩ (fun _=>Pe (Aw E rs (l6 e9) R))):C E.P f args e9 R:=by
 rw[nP] at h
 refine MS hf hb hname (Aw E rs e9.length R) (fun _ _ _ _ _ h1 hp hs=>Aw.sat h1 hp hs hrs) ?_
 rw[hnt,←AI]
 refine Zt fun h1 h2=>QE hm c _ _ (h ?_ h2)
 have h1:qP (pad args nt):=h1
 rw[AI] at h1
 exact C8 h1
theorem lU {E : Env} (hm : E.P.follows .mixedOrders = true) {f : FuncId} {fn : Func} {c : Code} {args : List PV} {e9 : List (Option En)} {R : PV → List (Option En) → Prop} {nt : Nat} {rs : List ResultVar} (hf : E.P.funcs[f]? = some fn) (hb : fn.body = some c) (hname : (fn.name == "runtime.NumGoroutine") = false)
 (hnt:fn.ntmps=nt) (hrs:fn.results.toList=rs) (hn:yl (wY args) nt=true) (h:qP args→Cr e9→ML E (l6 e9) c .on ⟨dH nt .undef (UQ 0 args),e9⟩ (fun _=>Pe (Aw E rs (l6 e9) R))):C E.P f args e9 R:=by
 have hn:=kX hn
 rw[ow] at hn
 rw[←RA hn] at h
 exact abz hm hf hb hname hnt hrs h
attribute [go_sem] HY qP SO Cr
mutual
theorem Sn(m:List Nat):∀(p:PV),p.lt 0=true→p.mo m=p
 | .agg cs,h=>by simp only[PV.lt] at h;simp only[PV.mo,xZ m cs h]
 | .gV cs,h=>by simp only[PV.lt] at h;simp only[PV.mo,xZ m cs h]
 | .fn f cs,h=>by simp only[PV.lt] at h;simp only[PV.mo,xZ m cs h]
 | .any,_=>rfl
 | .undef,_=>rfl
 | .b6,_=>rfl
 | .d _,_=>rfl
 | .gy _ _ _,_=>rfl
 | .ptr _ _,h=>by simp[PV.lt] at h
 | .acc _,h=>by simp[PV.lt] at h
 | .gM _ _ _ _,h=>by simp[PV.lt] at h
theorem xZ(m:List Nat):∀(ps:List PV),tM 0 ps=true→qV m ps=ps
 | [],_=>rfl
 | p::ps,h=>by
   simp only[tM,ai] at h
   simp only[qV,Sn m p h.1,xZ m ps h.2]
end
theorem U2(n:Nat):∀(cs:List D),tM n (cF cs)=true
 | []=>rfl
 | c::cs=>by
   have:=U2 n cs
   simp only[cF,aQ,tM,ai] at this⊢
   exact⟨rfl,this⟩
section
variable{E:Env}{g:G}{d:Nat}{ty:TypeId}{pos:String}{eU:Array Edge}{gd:Option (Nat×Bool)}
theorem Xv(nx:Operand)(xs:List Operand)(tys:Array TypeId)(f:FuncId)(cap:List PV)(hfn:g.ev nx= .fn f cap)(cX:List PV)(res:PV)(hC:C E.P f cX [] (bD res []))(o0:GQ (xs.map g.ev++cap) cX)(lQ:tM 0 cX=true)(hres:res.lt 0=true) :
 kM E.P ⟨some d,.call ⟨.value nx,⟨xs⟩,tys⟩,ty,pos,eU,gd⟩ g ⟨dj nx++xs.flatMap dj,[]⟩ ⟨some (d,res),[]⟩:=by
 have h:=RX (E:=E) (g:=g) (d:=d) (ty:=ty) (pos:=pos) (eU:=eU) (gd:=gd) nx xs tys f cap hfn [] cX [] [] res hC (by rw[xZ _ _ lQ];exact o0) lQ (by simp) (by simp) trivial trivial (by simp) (by simp)
 rw[Sn _ _ hres] at h
 exact h
end
def iv(n:Int):PV:=.d (.val (.int .i64 n))
def bv(b:Bool):PV:=.d (.val (.bool b))
def sv(s:List UInt8):PV:=.d (.str s)
def lv(xs:List (List D)):PV:=.d (.dC xs)
attribute [go_sem] iv bv sv lv PV.mo qV kT look PV.lt tM dG cz Option.toList_none Option.toList_some
end Go.Eng
namespace Go.Eng
open Go.RowKit
section
variable{E:Env}{n0:Nat}{g:G}{c:Code}{Q:Ex→G→Prop}
def qS{A:Type}(P:Program)(n0:Nat)(I:A→Prop)(T:A→G)(μ:A→Nat)(a:A)(Q:Ex→G→Prop):Ex→G→Prop
 | .normal,g=>∃a',I a'∧μ a' < μ a∧pr P n0 g (T a')
 | .exit id,g=>Q (.exit id) g
 | .ret,g=>Q .ret g
def CO{A B:Type}(P:Program)(n0:Nat)(I:A→B→Prop)(T:A→B→G)(μ:A→B→Nat)(a:A)(b:B)(Q:Ex→G→Prop):Ex→G→Prop
 | .normal,g=>∃a' b',I a' b'∧μ a' b' < μ a b∧pr P n0 g (T a' b')
 | .exit id,g=>Q (.exit id) g
 | .ret,g=>Q .ret g
def K7{A B C:Type}(P:Program)(n0:Nat)(I:A→B→C→Prop)(T:A→B→C→G)(μ:A→B→C→Nat)(a:A)(b:B)(c:C)(Q:Ex→G→Prop):Ex→G→Prop
 | .normal,g=>∃a' b' c',I a' b' c'∧μ a' b' c' < μ a b c∧pr P n0 g (T a' b' c')
 | .exit id,g=>Q (.exit id) g
 | .ret,g=>Q .ret g
theorem aM(hm:E.P.follows .mixedOrders=true){A:Type}(I:A→Prop)(T:A→G)(μ:A→Nat)(a0:A)(hi:I a0)(h0:pr E.P n0 g (T a0))
 (round:∀a,I a→ML E n0 c .on (T a) (fun _=>qS E.P n0 I T μ a Q)):W E.P n0 (.loop c) g Q:=by
 refine Ut (α:={a // I a}) (fun x=>T x.1) (fun x=>μ x.1) ⟨a0,hi⟩ h0 ?_
 rintro⟨a,ha⟩
 have h:=QE hm c _ _ (round a ha)
 have e:(qS E.P n0 I T μ a Q)=(JP E.P n0 (fun x:{a // I a}=>T x.1) (fun x=>μ x.1) ⟨a,ha⟩ Q):=by
  funext e g'
  cases e with
  | normal=>
    simp only[qS,JP]
    apply propext
    exact⟨fun⟨a',h1,h2,h3⟩=>⟨⟨a',h1⟩,h2,h3⟩,fun⟨⟨a',h1⟩,h2,h3⟩=>⟨a',h1,h2,h3⟩⟩
  | exit id=>rfl
  | ret=>rfl
 rw[←e]
 exact h
theorem cQ(hm:E.P.follows .mixedOrders=true){A B:Type}(I:A→B→Prop)(T:A→B→G)(μ:A→B→Nat)(a0:A)(b0:B)(hi:I a0 b0)(h0:pr E.P n0 g (T a0 b0))
 (round:∀a b,I a b→ML E n0 c .on (T a b) (fun _=>CO E.P n0 I T μ a b Q)):W E.P n0 (.loop c) g Q:=by
 refine aM hm (A:=A×B) (fun x=>I x.1 x.2) (fun x=>T x.1 x.2) (fun x=>μ x.1 x.2) (a0,b0) hi h0 ?_
 rintro⟨a,b⟩ h
 have h:=round a b h
 have e:(CO E.P n0 I T μ a b Q)=(qS E.P n0 (fun x:A×B=>I x.1 x.2) (fun x=>T x.1 x.2) (fun x=>μ x.1 x.2) (a,b) Q):=by
  funext e g'
  cases e with
  | normal=>
    simp only[qS,CO]
    apply propext
    exact⟨fun⟨a',b',h1,h2,h3⟩=>⟨(a',b'),h1,h2,h3⟩,fun⟨(a',b'),h1,h2,h3⟩=>⟨a',b',h1,h2,h3⟩⟩
  | exit id=>rfl
  | ret=>rfl
 rw[e] at h
 exact h
theorem kS(hm:E.P.follows .mixedOrders=true){A B D:Type}(I:A→B→D→Prop)(T:A→B→D→G)(μ:A→B→D→Nat)(a0:A)(b0:B)(d0:D)(hi:I a0 b0 d0)(h0:pr E.P n0 g (T a0 b0 d0))
 (round:∀a b d,I a b d→ML E n0 c .on (T a b d) (fun _=>K7 E.P n0 I T μ a b d Q)):W E.P n0 (.loop c) g Q:=by
 refine cQ hm (A:=A) (B:=B×D) (fun a x=>I a x.1 x.2) (fun a x=>T a x.1 x.2) (fun a x=>μ a x.1 x.2) a0 (b0,d0) hi h0 ?_
 rintro a ⟨b,d⟩ h
 have h:=round a b d h
 have e:(K7 E.P n0 I T μ a b d Q)=(CO E.P n0 (fun a (x:B×D)=>I a x.1 x.2) (fun a x=>T a x.1 x.2) (fun a x=>μ a x.1 x.2) a (b,d) Q):=by
  funext e g'
  cases e with
  | normal=>
    simp only[K7,CO]
    apply propext
    exact⟨fun⟨a',b',d',h1,h2,h3⟩=>⟨a',(b',d'),h1,h2,h3⟩,fun⟨a',(b',d'),h1,h2,h3⟩=>⟨a',b',d',h1,h2,h3⟩⟩
  | exit id=>rfl
  | ret=>rfl
 rw[e] at h
 exact h
end
theorem m9{α:Type}{l:List α}{i:Nat}(h:i<l.length)(d:α):l.getD i d=l[i]:=by simp[ct,af h]
mutual
theorem aaA{g:G}{m:List (Option Nat)}:∀{p:PV},p.lt 0=true→wk g m p p
 | .agg cs,h=>by simp only[PV.lt] at h;simp only[wk];exact aI h
 | .gV cs,h=>by simp only[PV.lt] at h;simp only[wk];exact aI h
 | .fn f cs,h=>by simp only[PV.lt] at h;simp only[wk,true_and];exact aI h
 | .any,_=>by simp only[wk]
 | .undef,_=>by simp only[wk]
 | .b6,_=>by simp only[wk]
 | .d _,_=>by simp only[wk]
 | .gy _ _ _,_=>by simp only[wk,and_self]
 | .ptr _ _,h=>by simp[PV.lt] at h
 | .acc _,h=>by simp[PV.lt] at h
 | .gM _ _ _ _,h=>by simp[PV.lt] at h
theorem aI{g:G}{m:List (Option Nat)}:∀{ps:List PV},tM 0 ps=true→AQ g m ps ps
 | [],_=>by simp only[AQ]
 | p::ps,h=>by
   simp only[tM,ai] at h
   simp only[AQ]
   exact⟨aaA h.1,aI h.2⟩
end
theorem XP(a b:Int):(a != b)= !decide (a=b):=by
 by_cases h:a=b<;>simp[h]
theorem X8(a b:Int):(a == b)=decide (a=b):=by
 by_cases h:a=b<;>simp[h]
theorem XY(a b:List UInt8):(a == b)=decide (a=b):=by
 by_cases h:a=b<;>simp[h]
theorem yg(x:List D)(xs:List (List D)):row (x::xs) 0=x:=rfl
attribute [go_sem] yg
theorem X7(e0:En)(Q:En→Prop):(∃e,some e0=some e∧Q e)=Q e0:=by
 apply propext
 constructor
 ·rintro⟨e,h,hq⟩
  cases h
  exact hq
 ·intro hq
  exact⟨_,rfl,hq⟩
theorem xX(n:Nat):((no_index (OfNat.ofNat n):Nat):Int)=OfNat.ofNat n:=rfl
theorem U3(e0:En):(∃e,some e0=some e)=True:=eq_true ⟨_,rfl⟩
theorem XR(xs ys:List (List D)):(D.dC xs=D.dC ys)=(xs=ys):=by simp
attribute [go_sem] ax List.not_mem_nil or_false forall_eq List.length_take List.length_map
attribute [go_sem] Int.natCast_add Int.natCast_one Int.natCast_zero xX U3 ite_true ite_false X7 XR List.take_zero eq_self
attribute [go_sem] XP X8 XY
attribute [go_sem] bA List.nil_append List.append_nil
theorem Xe(ps:List PV):GQ ps ps=True:=eq_true (K1 ps)
attribute [go_sem] cv GQ Xe
theorem bp{m:Option (List Ky)}{gs:Option Nat}{d:Nat}{ty:TypeId}{pos:String}{eU:Array Edge}{gd:Option (Nat×Bool)}{E:Env}{g:G}{rest:qT→Option (List Ky)→G→Prop}{nx:Operand}{xs:List Operand}{tys:Array TypeId}{f:FuncId}(cap:List PV){cX:List PV}{res:PV}
 (hC:C E.P f cX [] (bD res [])) (h:g.ev nx= .fn f cap∧GQ (TC g xs++cap) cX∧tM 0 cX=true∧res.lt 0=true)
 (hr:rest .on (mK m (ot (uO gs ⟨dj nx++CS xs,[]⟩) ⟨some (d,res),[]⟩)) (g.app ⟨some (d,res),[]⟩)):sU E m gs ⟨some d,.call ⟨.value nx,⟨xs⟩,tys⟩,ty,pos,eU,gd⟩ g rest:=by
 rw[yt] at hr
 rw[CP] at h
 exact fu (Xv nx xs tys f cap h.1 cX res hC h.2.1 h.2.2.1 h.2.2.2) hr
theorem dQ{m:Option (List Ky)}{gs:Option Nat}{d:Nat}{ty:TypeId}{pos:String}{eU:Array Edge}{gd:Option (Nat×Bool)}{E:Env}{g:G}{rest:qT→Option (List Ky)→G→Prop}{nx:Operand}{xs:List Operand}{tys:Array TypeId}{f:FuncId}(cap:List PV)(ks:List Nat){cX:List PV}{res:PV}
 (hC:C E.P f cX [] (bD res [])) (h1:g.ev nx= .fn f cap) (h2:iR g ks (TC g xs++cap) cX) (h3:sc res=true)
 (hr:rest .on (mK m (ot (uO gs ⟨dj nx++CS xs,ks⟩) ⟨some (d,res),[]⟩)) (g.app ⟨some (d,res),[]⟩)):sU E m gs ⟨some d,.call ⟨.value nx,⟨xs⟩,tys⟩,ty,pos,eU,gd⟩ g rest:=by
 rw[yt] at hr
 rw[CP] at h2
 exact fu (YZ nx xs tys f cap h1 ks cX res hC h2 h3) hr
def VM(k:Nat):List Nat→Bool
 | []=>false
 | j::js=>Im k j||VM k js
theorem HR:∀(k:Nat),Im k k=true
 | 0=>rfl
 | k+1=>HR k
theorem RR{k:Nat}:∀{m:List Nat},k∈m→VM k m=true
 | [],h=>by simp at h
 | j::js,h=>by
   simp only[VM,gr]
   rcases ax.1 h with rfl|h
   ·exact .inl (HR _)
   ·exact .inr (RR h)
def NW:List Nat→Bool
 | []=>true
 | k::ks=>!VM k ks&&NW ks
theorem KR:∀{m:List Nat},NW m=true→m.Nodup
 | [],_=>by simp
 | k::ks,h=>by
   simp only[NW,ai,mC] at h
   refine List.nodup_cons.2 ⟨fun hk=>?_,KR h.2⟩
   rw[RR hk] at h
   cases h.1
def Hc:List Nat→Nat
 | []=>0
 | _::as=>Hc as+1
theorem E5:∀(l:List Nat),Hc l=l.length
 | []=>rfl
 | _::as=>by simp[Hc,E5 as]
theorem gE{m:Option (List Ky)}{gs:Option Nat}{d:Nat}{ty:TypeId}{pos:String}{eU:Array Edge}{gd:Option (Nat×Bool)}{E:Env}{g:G}{rest:qT→Option (List Ky)→G→Prop}{nx:Operand}{xs:List Operand}{tys:Array TypeId}{f:FuncId}(cap:List PV)(M:List Nat){cX:List PV}{e9 st':List (Option En)}{res:PV}
 (hC:C E.P f cX e9 (bD res st')) (h:g.ev nx= .fn f cap∧GQ (TC g xs++cap) (qV M cX)∧tM (l6 e9) cX=true∧NW M=true∧yl (l6 e9) (Hc M)=true∧yl (l6 e9) (l6 st')=true∧yl (l6 st') (Hc M)=true∧oj g M (l6 e9) M e9∧iV g (l6 e9) M)
 (hr:rest .on (mK m (ot (uO gs ⟨dj nx++CS xs,M⟩) ⟨some (d,res.mo M),kT M M st'⟩)) (g.app ⟨some (d,res.mo M),kT M M st'⟩)):sU E m gs ⟨some d,.call ⟨.value nx,⟨xs⟩,tys⟩,ty,pos,eU,gd⟩ g rest:=by
 rw[yt] at hr
 rw[CP] at h
 obtain⟨h1,h2,h3,h4,h5,h6,h7,h8,h9⟩:=h
 have h5:=kX h5
 have h6:=kX h6
 have h7:=kX h7
 rw[nP,E5] at h5
 rw[nP,nP] at h6
 rw[nP,E5] at h7
 rw[nP] at h3 h8 h9
 exact fu (RX nx xs tys f cap h1 M cX e9 st' res hC h2 h3 (KR h4) h5 h8 h9 h6 h7) hr
theorem acs{E:Env}{rs:List ResultVar}{n0:Nat}{g:G}{ps:List PV}{q:PV}{st':List (Option En)}(m:List (Option Nat))(h1:As E g rs=some ps)(h2:AQ ⟨[kV ps],g.st⟩ m [kV ps] [q]∧ml ⟨[kV ps],g.st⟩ m m st')(h3:Dq m st'=true)(h4:keeps n0 0 m=true):Aw E rs n0 (bD q st') g:=
 ⟨ps,m,q,st',h1,⟨h2.1,h2.2,h3,h4⟩,rfl,rfl⟩
theorem an{E:Env}{rs:List ResultVar}{g:G}{q:PV}(h:(As E g rs).elim False fun ps=>wk ⟨[kV ps],g.st⟩ [] (kV ps) q):Aw E rs 0 (bD q []) g:=by
 cases hps:As E g rs with
 | none=>rw[hps] at h;exact h.elim
 | some ps=>rw[hps] at h;exact acf hps h
theorem bZ{E:Env}{rs:List ResultVar}{n0:Nat}{g:G}{q:PV}{st':List (Option En)}(m:List (Option Nat))(h:(As E g rs).elim False fun ps=>AQ ⟨[kV ps],g.st⟩ m [kV ps] [q]∧ml ⟨[kV ps],g.st⟩ m m st')(h3:Dq m st'=true)(h4:keeps n0 0 m=true):Aw E rs n0 (bD q st') g:=by
 cases hps:As E g rs with
 | none=>rw[hps] at h;exact h.elim
 | some ps=>rw[hps] at h;exact acs m hps h h3 h4
attribute [go_sem] Option.elim_some
attribute [go_sem] NW Hc VM oj iV En.mo En.lt En.live kK jc Bool.or_true Bool.true_or Bool.or_false Bool.false_or aK Bool.and_false
attribute [go_sem] sc scs
attribute [go_sem] qS CO K7 Td and_true true_and and_self Int.natCast_nonneg lB Int.toNat_zero Nat.zero_lt_succ di hQ aJ bn Int.ofNat_lt Int.ofNat_le Int.ofNat_inj decide_true decide_false kK jc aW List.length_nil gt_iff_lt ge_iff_le
attribute [go_sem] aE Bool.and_true Bool.and_self beq_self_eq_true
theorem jo(ν:Nat→Nm)(b:Nat):¬Own ν (da []) b:=by
 rintro⟨k,e,h,_⟩
 cases k<;>simp[da] at h
section
variable{P:Program}{X:Cx}{vs:List Value}{e:TypeId}{xs:List (List D)}{rest:List PV}
theorem TE(hr:tM 0 rest=true)(hs:Sat P X X.ν0 ⟨.acc 0::rest,[some (.acc e xs)]⟩ ⟨⟨vs⟩,[]⟩ X.w0) :
 Sat P ⟨X.w0,Own X.ν0 (da []),X.ν0,da [],X.Z⟩ X.ν0 ⟨.d (.dC xs)::rest,[]⟩ ⟨⟨vs⟩,[]⟩ X.w0:=by
 have hw:∀b,cG X X.ν0 (G.at ⟨.acc 0::rest,[some (.acc e xs)]⟩) b→b<X.w0.heap.size→cG ⟨X.w0,Own X.ν0 (da []),X.ν0,da [],X.Z⟩ X.ν0 (G.at ⟨.d (.dC xs)::rest,[]⟩) b∧X.w0.heap[b]?=X.w0.heap[b]?:=fun b hb _=>⟨⟨jo _ b,hb.2⟩,rfl⟩
 have lq:∀k,G.at ⟨.d (.dC xs)::rest,[]⟩ k=none:=fun _=>rfl
 refine⟨hs.size,fun t=>?_,fun k e h=>?_,fun k k' e e' b h=>?_,fun b hb=>?_,fun k h=>?_,fun k h=>?_,⟨fun b hb=>?_,hs.kt rfl fun b hb=>(jo _ b hb).elim⟩,sH.refl _ _,rfl⟩
 ·cases t with
  | zero=>
    have h:=hs.sl 0
    simp only[nth,aF] at h⊢
    rw[h.2]
    obtain⟨us,h1,h2,h3,_⟩:=hs.en 0 (.acc e xs) rfl
    exact wS h1 h2 h3 (fun b hb=>⟨jo _ b,hs.K4 ⟨0,_,rfl,rfl,.inl hb⟩⟩) hw
  | succ t=>
    have h:=hs.sl (t+1)
    simp only[nth] at h⊢
    have hl:∀(ps:List PV)(t:Nat),tM 0 ps=true→(nth ps t).lt 0=true:=by
     intro ps
     induction ps with
     | nil=>intro t _;rfl
     | cons p ps ih=>
       intro t h
       simp only[tM,ai] at h
       cases t with
       | zero=>exact h.1
       | succ t=>exact ih t h.2
    exact aF.Qg hw _ _ (hl rest t hr) h
 ·rw[lq] at h;cases h
 ·rw[lq] at h;cases h
 ·exact(jo _ b hb).elim
 ·rw[lq] at h;cases h
 ·cases k<;>simp[da] at h
 ·exact⟨(hs.Fk b hb).1,jo _ b⟩
theorem Wb{f:FuncId}{e':TypeId}{ys:List (List D)}(hr:tM 0 rest=true)(hC:C P f (.d (.dC xs)::rest) [] (bD (.acc 0) [some (.acc e' ys)])):C P f (.acc 0::rest) [some (.acc e xs)] (bD (.acc 1) [some .dead,some (.acc e' ys)]):=by
 refine⟨hC.1,fun X vs jC hO hs=>?_⟩
 refine(hC.2 _ vs rfl rfl (TE hr hs)).mono ?_
 rintro ex w' ⟨v,_,_,ν',rfl,⟨rfl,rfl⟩,gL⟩
 refine⟨v,_,_,fun|0=>X.ν0 0|k+1=>ν' k,rfl,⟨rfl,rfl⟩,?_⟩
 have lq:∀k e,G.at ⟨[.acc 1],[some .dead,some (.acc e' ys)]⟩ k=some e→e.live=true→k=1∧e= .acc e' ys:=by
  intro k e h hl
  match k,h with
  | 0,h=>
    obtain rfl:En.dead=e:=by simpa[G.at,da] using h
    cases hl
  | 1,h=>exact⟨rfl,by simpa[G.at,da] using h.symm⟩
  | k+2,h=>simp[G.at,da] at h
 have iz:∀b,Own (fun|0=>X.ν0 0|k+1=>ν' k) (G.at ⟨[.acc 1],[some .dead,some (.acc e' ys)]⟩) b↔Own ν' (G.at ⟨[.acc 0],[some (.acc e' ys)]⟩) b:=by
  intro b
  constructor
  ·rintro⟨k,e,h,hl,hb⟩
   obtain⟨rfl,rfl⟩:=lq k e h hl
   exact⟨0,_,rfl,rfl,hb⟩
  ·rintro⟨k,e,h,hl,hb⟩
   match k,h with
   | 0,h=>
     obtain rfl:En.acc e' ys=e:=by simpa[G.at,da] using h
     exact⟨1,_,rfl,rfl,hb⟩
   | k+1,h=>simp[G.at,da] at h
 have hw:∀b,cG (⟨X.w0,Own X.ν0 (da []),X.ν0,da [],X.Z⟩:Cx) ν' (G.at ⟨[.acc 0],[some (.acc e' ys)]⟩) b→b<w'.heap.size→cG X (fun|0=>X.ν0 0|k+1=>ν' k) (G.at ⟨[.acc 1],[some .dead,some (.acc e' ys)]⟩) b∧w'.heap[b]?=w'.heap[b]?:=fun b hb _=>⟨⟨fun h=>hb.1 ((iz b).1 h),hb.2⟩,rfl⟩
 refine⟨rfl,fun t=>?_,fun k e h=>?_,fun k k' e e2 b h1 h2 hl hl2 _ _=>?_,fun b hb=>?_,fun k h=>?_,fun k h=>?_,hs.Fk,gL.Ai.mono fun b hb _=>(jo _ b hb).elim,rfl⟩
 ·cases t with
  | zero=>
    have h:=gL.sl 0
    simp only[nth,aF] at h⊢
    exact⟨rfl,h.2⟩
  | succ t=>exact trivial
 ·match k,h with
  | 0,h=>
    obtain rfl:En.dead=e:=by simpa[G.at,da] using h
    exact trivial
  | 1,h=>
    obtain rfl:En.acc e' ys=e:=by simpa[G.at,da] using h
    obtain⟨us,h1,h2,h3⟩:=gL.en 0 _ rfl
    exact⟨us,h1,h2.frame hw (aJ _),h3⟩
  | k+2,h=>simp[G.at,da] at h
 ·rw[(lq k e h1 hl).1,(lq k' e2 h2 hl2).1]
 ·rcases gL.base b ((iz b).1 hb) with h|h
  ·exact(jo _ b h).elim
  ·exact .inr h
 ·match k,h with
  | 0,_=>exact hs.nu 0 rfl
  | 1,_=>exact gL.nu 0 rfl
  | k+2,h=>simp[G.at,da] at h
 ·rw[jC] at h
  match k,h with
  | 0,_=>exact⟨rfl,rfl⟩
  | k+1,h=>simp[da] at h
end
def Al(M:List Nat):List Nat→Nat
 | []=>0
 | j::js=>Nat.lor (Nat.lor (Nat.pow 2 j) (M.getD j 0)) (Al M js)
def YD:List Oper→List Nat→List Nat
 | [],M=>M
 | o::os,M=>YD os (M++[Al M (lF o)])
def Ui(b k:Nat):Bool:=jk (Nat.land (Nat.shiftRight b k) 1) 1
def FB(b:Nat)(y:Ky):Nat→List Ky→Bool
 | _,[]=>true
 | j,x::xs=>(Ui b j|| !(x.zq y))&&FB b y (j+1) xs
def Fi(M:List Nat):Nat→List Ky→List Ky→Bool
 | _,_,[]=>true
 | i,pre,y::ys=>FB (M.getD i 0) y 0 pre&&Fi M (i+1) (pre++[y]) ys
def Mt(os:List Oper)(L:List Ky):Bool:=UO 0 os&&Fi (YD os []) 0 [] L
theorem Ff(b k:Nat):Ui b k=b.testBit k:=by
 simp only[Ui,Nat.testBit]
 have h:Nat.land (Nat.shiftRight b k) 1=(b >>> k) &&& 1:=rfl
 rw[h,Nat.and_comm 1 (b >>> k),Nat.and_one_is_mod]
 rcases Nat.mod_two_eq_zero_or_one (b >>> k) with h2|h2<;>rw[h2]<;>rfl
def Cor(T:List (List Nat))(M:List Nat):Prop:=T.length=M.length∧∀j k,x8 k (T.getD j [])=Ui (M.getD j 0) k
theorem ON{a b:Bool}(h:a=true↔b=true):a=b:=by
 cases a<;>cases b<;>simp_all
theorem S9(k j:Nat)(l:List Nat):x8 k (j::l)=(decide (j=k)||x8 k l):=by
 apply ON
 simp only[qt,ax,gr,decide_eq_true_eq]
 exact⟨fun h=>h.imp Eq.symm id,fun h=>h.imp Eq.symm id⟩
theorem UW(k:Nat)(l l':List Nat):x8 k (l++l')=(x8 k l||x8 k l'):=by
 apply ON
 simp only[qt,List.mem_append,gr]
theorem FI{T:List (List Nat)}{M:List Nat}(h:Cor T M)(k:Nat):∀(js:List Nat),x8 k (v7 T js)=Ui (Al M js) k
 | []=>by
   simp only[v7,Al,Ff,Nat.zero_testBit]
   rfl
 | j::js=>by
   have e:Nat.lor (Nat.lor (Nat.pow 2 j) (M.getD j 0)) (Al M js)=(2 ^ j ||| M.getD j 0) ||| Al M js:=rfl
   simp only[v7,Al,e,S9,UW,FI h k js,h.2 j k]
   simp only[Ff,Nat.testBit_or,Nat.testBit_two_pow,Bool.or_assoc]
theorem OS:∀(os:List Oper){T:List (List Nat)}{M:List Nat},Cor T M→Cor (Ce os T) (YD os M)
 | [],_,_,h=>h
 | o::os,T,M,h=>by
   simp only[Ce,YD]
   refine OS os ⟨by simp[h.1],fun j k=>?_⟩
   rcases Nat.lt_trichotomy j T.length with hj|hj|hj
   ·have hj':j<M.length:=by rw[←h.1];exact hj
    have:=h.2 j k
    rw[ay,ay] at this⊢
    rwa [bf hj,bf hj']
   ·subst hj
    have hM:M.length≤T.length:=by rw[h.1];exact aJ _
    rw[ay,ay,bw (aJ _),bw hM,←h.1]
    simp only[kz,List.getElem?_cons_zero,Option.getD_some]
    exact FI h k _
   ·have hj':M.length<j:=by rw[←h.1];exact hj
    rw[ay,ay,bo (by simp;omega),bo (by simp;omega)]
    simp only[cf,Ff,Nat.zero_testBit]
    rfl
theorem Gc{b:List Nat}{c:Nat}(h:∀k,x8 k b=Ui c k)(y:Ky):∀(j:Nat)(l:List Ky),FB c y j l=CY b y j l
 | _,[]=>rfl
 | j,x::xs=>by simp only[FB,CY,h,Gc h y (j+1) xs]
theorem HN{T:List (List Nat)}{M:List Nat}(h:Cor T M):∀(i:Nat)(pre l:List Ky),Fi M i pre l=CN T i pre l
 | _,_,[]=>rfl
 | i,pre,y::ys=>by simp only[Fi,CN,Gc (h.2 i),HN h (i+1)]
theorem CW{os:List Oper}{L:List Ky}(h:Mt os L=true):indep os L=true:=by
 simp only[Mt,ai] at h
 simp only[indep,ai]
 refine⟨h.1,?_⟩
 rw[←HN (OS os (T:=[]) (M:=[]) ⟨rfl,fun j k=>?_⟩)]
 ·exact h.2
 ·simp only[List.getD_nil,Ff,Nat.zero_testBit]
  rfl
theorem GL{os:List Oper}{L:List Ky}{p:Prop}(h:Mt os L=true)(hp:p):indep os L=true∧p:=⟨CW h,hp⟩
theorem iR.nth{g:G}{ks:List Nat}:∀{ps qs:List PV},iR g ks ps qs→∀t,Vw g ks (nth ps t) (nth qs t)
 | _,_,.nil,t=>by cases t<;>exact .same rfl
 | _,_,.cons h _,0=>h
 | _,_,.cons _ h',t+1=>iR.nth h' t
theorem iR.len{g:G}{ks:List Nat}:∀{ps qs:List PV},iR g ks ps qs→qs.length=ps.length
 | _,_,.nil=>rfl
 | _,_,.cons _ h'=>by simp only[aW,iR.len h']
section
variable{P:Program}{X:Cx}{vs:List Value}{e:TypeId}{xs:List (List D)}
theorem PL{args args':List PV}(hv:iR ⟨args,[some (.acc e xs)]⟩ [0] args args')(hs:Sat P X X.ν0 ⟨args,[some (.acc e xs)]⟩ ⟨⟨vs⟩,[]⟩ X.w0) :
 Sat P ⟨X.w0,Own X.ν0 (da []),X.ν0,da [],X.Z⟩ X.ν0 ⟨args',[]⟩ ⟨⟨vs⟩,[]⟩ X.w0:=by
 have hw:∀b,cG X X.ν0 (G.at ⟨args,[some (.acc e xs)]⟩) b→b<X.w0.heap.size→cG ⟨X.w0,Own X.ν0 (da []),X.ν0,da [],X.Z⟩ X.ν0 (G.at ⟨args',[]⟩) b∧X.w0.heap[b]?=X.w0.heap[b]?:=fun b hb _=>⟨⟨jo _ b,hb.2⟩,rfl⟩
 have iz:∀b,Own X.ν0 (G.at ⟨args,[some (.acc e xs)]⟩) b→cG ⟨X.w0,Own X.ν0 (da []),X.ν0,da [],X.Z⟩ X.ν0 (G.at ⟨args',[]⟩) b:=fun b hb=>⟨jo _ b,hs.K4 hb⟩
 have lq:∀k,G.at ⟨args',[]⟩ k=none:=fun _=>rfl
 refine⟨hs.size.trans hv.len.symm,fun t=>aF.vw hs hw iz _ (hv.nth t) (hs.sl t),fun k e h=>?_,fun k k' e e' b h=>?_,fun b hb=>?_,fun k h=>?_,fun k h=>?_,⟨fun b hb=>?_,hs.kt rfl fun b hb=>(jo _ b hb).elim⟩,sH.refl _ _,rfl⟩
 ·rw[lq] at h;cases h
 ·rw[lq] at h;cases h
 ·exact(jo _ b hb).elim
 ·rw[lq] at h;cases h
 ·cases k<;>simp[da] at h
 ·exact⟨(hs.Fk b hb).1,jo _ b⟩
theorem vd{f:FuncId}{res:PV}{args args':List PV}(hv:iR ⟨args,[some (.acc e xs)]⟩ [0] args args')(hres:res.lt 0=true)(hC:C P f args' [] (bD res [])):C P f args [some (.acc e xs)] (bD res [some .dead]):=by
 refine⟨hC.1,fun X vs jC hO hs=>?_⟩
 refine(hC.2 _ vs rfl rfl (PL hv hs)).mono ?_
 rintro ex w' ⟨v,r,s,ν',rfl,⟨e1,e2⟩,gL⟩
 rw[e1,e2] at gL
 refine⟨v,_,_,X.ν0,rfl,⟨rfl,rfl⟩,?_⟩
 have hno:∀b,¬Own X.ν0 (G.at ⟨[res],[some .dead]⟩) b:=by
  rintro b ⟨k,e,h,hl,_⟩
  match k,h with
  | 0,h=>
    obtain rfl:En.dead=e:=by simpa[G.at,da] using h
    cases hl
  | k+1,h=>simp[G.at,da] at h
 refine⟨rfl,fun t=>?_,fun k e h=>?_,fun k k' e e' b h1 h2 hl=>?_,fun b hb=>(hno b hb).elim,fun k h=>?_,fun k h=>?_,hs.Fk,gL.Ai.mono fun b hb _=>(jo _ b hb).elim,rfl⟩
 ·cases t with
  | zero=>
    have h:=gL.sl 0
    simp only[nth] at h⊢
    have hw:∀b,cG (⟨X.w0,Own X.ν0 (da []),X.ν0,da [],X.Z⟩:Cx) ν' (G.at ⟨[res],[]⟩) b→b<w'.heap.size→cG X X.ν0 (G.at ⟨[res],[some .dead]⟩) b∧w'.heap[b]?=w'.heap[b]?:=fun b hb _=>⟨⟨hno b,hb.2⟩,rfl⟩
    exact aF.Qg hw _ _ hres h
  | succ t=>exact trivial
 ·match k,h with
  | 0,h=>
    obtain rfl:En.dead=e:=by simpa[G.at,da] using h
    exact trivial
  | k+1,h=>simp[G.at,da] at h
 ·match k,h1 with
  | 0,h1=>
    obtain rfl:En.dead=e:=by simpa[G.at,da] using h1
    cases hl
  | k+1,h1=>simp[G.at,da] at h1
 ·match k,h with
  | 0,_=>exact hs.nu 0 rfl
  | k+1,h=>simp[G.at,da] at h
 ·rw[jC] at h
  match k,h with
  | 0,_=>exact⟨rfl,rfl⟩
  | k+1,h=>simp[da] at h
end
section
variable{E:Env}{g:G}{d:Nat}{ty:TypeId}{pos:String}{eU:Array Edge}{gd:Option (Nat×Bool)}
theorem MG{P:Program}(w:World)(n:Nat)(t e:TypeId)(a:Option Addr)(l c:Nat)(h:P.underlying t=some (.slice e)):(Op.equalIn (n+1) t (.slice a l c) (.slice none 0 0)).run P w= .ok a.isNone w:=by
 cases a<;>simp[Op.equalIn,run_underlying h]
theorem P4{P:Program}(w:World)(t e:TypeId)(a:Option Addr)(l c:Nat)(h:P.underlying t=some (.slice e)):(Op.equal t (.slice a l c) (.slice none 0 0)).run P w= .ok a.isNone w:=MG w 9999 t e a l c h
theorem UA(x:Operand)(t e u:TypeId)(ti:TI)(b:Bool)(ht:E.ti t=some ti)(kJ:ti.ty= .slice e)(hp:∀(w:World)(ok:Nat→Prop)(ν:Nat→Nm)(st:Nat→Option En)(v:Value),aF w ok ν st (g.ev x) v→∃a n c,v= .slice a n c∧a.isNone=b) :
 kM E.P ⟨some d,.binOp .eql t x (.const (.slice none 0 0)) u,ty,pos,eU,gd⟩ g ⟨dj x,[]⟩ ⟨some (d,.d (.val (.bool b))),[]⟩:=by
 intro g2 hg
 have h1:=hg.ev (x:=x) (fun t h=>h)
 refine D7.val rfl fun X ν a w hs=>?_
 have hv:=hs.ev x
 rw[h1] at hv
 obtain⟨ad,n,c,hva,hb⟩:=hp _ _ _ _ _ hv
 have h:=(E.ok t ti ht).ty
 rw[kJ] at h
 refine⟨.bool b,?_,nY rfl⟩
 have he:a.eval (.const (.slice none 0 0))= .slice none 0 0:=rfl
 simp[execOp,hva,he,eqGuard,binOp,P4 w t e ad n c h,hb]
theorem J3:∀(w:World)(ok:Nat→Prop)(ν:Nat→Nm)(st:Nat→Option En)(v:Value),aF w ok ν st .b6 v→∃a n c,v= .slice a n c∧a.isNone=true:=by
 intro w ok ν st v h
 simp only[aF] at h
 exact⟨_,_,_,h,rfl⟩
theorem JG(ad:Addr)(n c:Nat):∀(w:World)(ok:Nat→Prop)(ν:Nat→Nm)(st:Nat→Option En)(v:Value),aF w ok ν st (.d (.val (.slice (some ad) n c))) v→∃a n c,v= .slice a n c∧a.isNone=false:=by
 intro w ok ν st v h
 exact⟨_,_,_,fV h,rfl⟩
theorem JU{x:List D}{xs:List (List D)}:∀(w:World)(ok:Nat→Prop)(ν:Nat→Nm)(st:Nat→Option En)(v:Value),aF w ok ν st (.d (.dC (x::xs))) v→∃a n c,v= .slice a n c∧a.isNone=false:=by
 intro w ok ν st v h
 simp only[aF] at h
 cases h with
 | dC=>exact⟨_,_,_,rfl,rfl⟩
theorem Jo{m:Option (List Ky)}{gs:Option Nat}{rest:qT→Option (List Ky)→G→Prop}{x:Operand}{t u:TypeId}(e:TypeId)(ti:TI)(b:Bool)(ht:E.ti t=some ti)(kJ:ti.ty= .slice e){p:PV}(hx:g.ev x=p)(hp:∀(w:World)(ok:Nat→Prop)(ν:Nat→Nm)(st:Nat→Option En)(v:Value),aF w ok ν st p v→∃a n c,v= .slice a n c∧a.isNone=b)
 (hr:rest .on (mK m (ot (uO gs ⟨dj x,[]⟩) ⟨some (d,.d (.val (.bool b))),[]⟩)) (g.app ⟨some (d,.d (.val (.bool b))),[]⟩)):sU E m gs ⟨some d,.binOp .eql t x (.const (.slice none 0 0)) u,ty,pos,eU,gd⟩ g rest:=
 fu (UA x t e u ti b ht kJ (by rw[hx];exact hp)) hr
end
theorem RD{P:Program}{f:FuncId}{R:PV→List (Option En)→Prop}(h1:C P f [.b6] [] R)(h2:∀a c,C P f [.d (.val (.slice (some a) 0 c))] [] R):C P f [.d (.dC [])] [] R:=by
 refine⟨h1.1,fun X vs jC hO hs=>?_⟩
 have hsz:=hs.size
 obtain⟨v,rfl⟩:=List.length_eq_one_iff.1 (show vs.length=1 by simpa using hsz)
 have h0:=hs.sl 0
 have h0:ij X.w0 (cG X X.ν0 (G.at ⟨[.d (.dC [])],[]⟩)) (.dC []) v:=h0
 have key:∀p:PV,aF X.w0 (cG X X.ν0 (G.at ⟨[p],[]⟩)) X.ν0 (G.at ⟨[p],[]⟩) p v→Sat P X X.ν0 ⟨[p],[]⟩ ⟨⟨[v]⟩,[]⟩ X.w0:=fun p hp=>
  ⟨rfl,fun t=>by
   match t with
   | 0=>exact hp
   | t+1=>simp only[nth,aF],hs.en,hs.inj,hs.base,hs.nu,hs.par,hs.Fk,hs.Ai,rfl⟩
 cases h0 with
 | nil=>exact h1.2 X _ jC hO (key .b6 rfl)
 | emp a c h=>exact(h2 a c).2 X _ jC hO (key _ (nY rfl))
 | dC _ us b off cap sz e7 hb jX hmax hB hlu hxx hu hc jl=>exact(h2 _ cap).2 X _ jC hO (key _ (nY rfl))
theorem wT(z:Array Value)(hz:0<z.toList.length)(n:Nat):(Builtin.zeroCells z n).toList=(aU n z.toList).flatten:=J1 z.toList hz n
theorem wX{P:Program}(w:World)(t e ty:TypeId)(ht:P.underlying t=some (.slice e))(a:Option Addr)(c:Nat):(Builtin.clear_ #[t] ty #[.slice a 0 c]).run P w= .ok (.tuple #[]) w:=by
 cases a<;>simp[Builtin.clear_,run_underlying ht]
theorem IP{P:Program}(w:World)(t e ty:TypeId)(z:Value)(ht:P.underlying t=some (.slice e))(hv:(zeroValue e).run P w= .ok z w)(b o n c:Nat)(hn:n≠0)(hz:0<z.cells.toList.length)
 (cur:Array Value) (T:TypeId) (hg:w.heap[b]?=some (.cells cur T (0,0))) (hl:o+(aU n z.cells.toList).flatten.length≤cur.size) (h1:∀v∈(aU n z.cells.toList).flatten,v.oneCell'=true) :
 (Builtin.clear_ #[t] ty #[.slice (some ⟨b,o,none⟩) n c]).run P w= .ok (.tuple #[]) (w.setRow b (cur.toList.take o++(aU n z.cells.toList).flatten++cur.toList.drop (o+(aU n z.cells.toList).flatten.length)).toArray):=by
 have jC:=run_storeCells_at (P:=P) b o T (aU n z.cells.toList).flatten 0 cur w hg (by omega) h1
 simp only[hQ] at jC
 obtain⟨m,rfl⟩:∃m,n=m+1:=⟨n-1,by omega⟩
 rw[←wT z.cells hz] at jC⊢
 simp[Builtin.clear_,run_underlying ht,hv,jC]
section
variable{E:Env}{X:Cx}{ν:Nat→Nm}{g:G}{a:Act}{w:World}
def NJ(z:List D)(xs:List (List D))(m:Nat):List (List D):=xs.take m++aU (xs.length-m) z
theorem VH{t e k m dd:Nat}{ty:TypeId}{pos:String}{eU:Array Edge}{gd:Option (Nat×Bool)}{xs:List (List D)}{z:List D}{ti ei:TI}(ht:E.ti t=some ti)(kJ:ti.ty= .slice e)(he:E.ti e=some ei)(hz:AJ ei.zero=some z)
 (hk:g.at k=some (.acc e xs)) (hm:m≤xs.length) (n c:Nat) (a0:Option Addr) (hν:(ν k).v= .slice a0 n c) (hv:a.eval (.tmp dd)=sliced a0 m n c ei.n)
 (hs:Sat E.P X ν g a w) (next:Act→World→Prop) (Q:Exit→Act→World→Prop) (hn:∀ν' a' w',Sat E.P X ν' ⟨g.sl,db g.st k (some (.acc e (NJ z xs m)))⟩ a' w'→next a' w') :
 (⟨none,.call ⟨.builtin .clear,#[.tmp dd],#[t]⟩,ty,pos,eU,gd⟩:Oper).wp E.P a w next Q:=by
 have hu:=(E.ok t ti ht).ty
 rw[kJ] at hu
 obtain⟨i,zv,i1,i2,i3,i4,i5,i6⟩:=(E.ok e ei he).info
 have hpos:=(E.ok e ei he).pos
 have hzl:zv.cells.toList.length=ei.n:=by simpa using i6
 have hzv:(zeroValue e).run E.P w= .ok zv w:=by simp[zeroValue,typeInfo,i1,i4]
 obtain⟨us,ho,jl,hB,hf0⟩:=hs.en k _ hk
 rw[(E.ok e ei he).cells] at jl ho
 have hul:us.length=xs.length:=jl.len
 have hfl:=jl.kZ
 have key:∀(w':World)(us':List (List Value)),(execOp a.eval ⟨none,.call ⟨.builtin .clear,#[.tmp dd],#[t]⟩,ty,pos,eU,gd⟩).run E.P w= .ok (.value (.tuple #[])) w'→sH (fun b=>(ν k).has b) w w' →
  (w'.ownsRow 0 e ei.n (ν k).v (NJ z xs m).length us'.flatten)→cC w (cG X ν g.at) ei.n (NJ z xs m) us' →
  (⟨none,.call ⟨.builtin .clear,#[.tmp dd],#[t]⟩,ty,pos,eU,gd⟩:Oper).wp E.P a w next Q:=by
  intro w' us' hr rA qO ov
  unfold Oper.wp
  rw[hr,Oper.upon_value]
  refine hn _ _ _ (hs.C0 k (.acc e xs) (.acc e (NJ z xs m)) hk rfl rA none .undef Go.undef ?_ (fun h=>by cases h))
  intro hwf _
  refine⟨us',?_,?_,by simp[NJ];omega,hf0⟩
  ·rw[(E.ok e ei he).cells]
   exact qO
  ·rw[(E.ok e ei he).cells]
   exact ov.frame hwf rA.size
 have hex:∀(v:Value)(w':World),(Builtin.clear_ #[t] ty #[a.eval (.tmp dd)]).run E.P w= .ok v w'→(execOp a.eval ⟨none,.call ⟨.builtin .clear,#[.tmp dd],#[t]⟩,ty,pos,eU,gd⟩).run E.P w= .ok (.value v) w':=by
  intro v w' h
  unfold execOp
  simp only[resolve,invoke,builtin,Sem.run_bind,Sem.run_pure,Result.andThen_ok,List.map_toArray,aQ,dB,h]
 rcases ho.2 with⟨h1,h2⟩|⟨b,cap,cur,h1,_,h2,h4,h5,h6,h7⟩
 ·rw[h1] at hν
  obtain⟨rfl,rfl,rfl⟩:none=a0∧0=n∧0=c:=by simpa using hν
  have hm0:m=0:=by omega
  subst hm0
  have hxs:xs=[]:=List.eq_nil_of_length_eq_zero h2
  subst hxs
  refine key w us (hex _ _ ?_) (sH.refl _ w) ?_ ?_
  ·rw[hv]
   exact wX w t e ty hu _ _
  ·exact ho
  ·exact jl
 ·rw[h1] at hν
  obtain⟨rfl,rfl,rfl⟩:some ⟨b,0,none⟩=a0∧xs.length=n∧cap=c:=by simpa using hν
  by_cases lQ:m=xs.length
  ·refine key w us (hex _ _ ?_) (sH.refl _ w) ?_ ?_
   ·rw[hv]
    unfold sliced
    rw[lQ,kz]
    exact wX w t e ty hu _ _
   ·simpa[NJ,lQ] using ho
   ·simpa[NJ,lQ] using jl
  ·have hzr:aA w (cG X ν g.at) ν g.at (cF z) zv.cells.toList:=xT (uN _ _ _ _ zv.cells.toList) (by rw[i5];exact hz)
   obtain⟨hz1,hz2⟩:=A5 hzr
   have hrep0:cC w (cG X ν g.at) ei.n (aU (xs.length-m) z) (aU (xs.length-m) zv.cells.toList):=cC.replicate _ (by rw[←hz1];exact hzl) hzl hz2
   have ov:cC w (cG X ν g.at) ei.n (NJ z xs m) (us.take m++aU (xs.length-m) zv.cells.toList):=by
    have:=jl.cut 0 m
    simp only[mZ] at this
    exact this.append hrep0
   have hmul:m*ei.n≤xs.length*ei.n:=bQ _ hm
   have hZ:(aU (xs.length-m) zv.cells.toList).flatten.length=(xs.length-m)*ei.n:=hrep0.kZ.trans (by simp)
   have hsum:m*ei.n+(xs.length-m)*ei.n=xs.length*ei.n:=by rw[←Nat.add_mul];congr 1;omega
   have jX:xs.length*ei.n≤cap*ei.n:=bQ _ h4
   have lO:=IP (P:=E.P) w t e ty zv hu hzv b (m*ei.n) (xs.length-m) (cap-m) (by omega) (by omega) cur e h2 (by rw[hZ,hsum,h6];exact jX) hrep0.one
   have hval:a.eval (.tmp dd)= .slice (some ⟨b,m*ei.n,none⟩) (xs.length-m) (cap-m):=by
    rw[hv]
    unfold sliced
    rw[if_neg (by omega),cz,add_lit,di]
   refine key _ _ (hex _ _ (by rw[hval];exact lO)) (kI w b _ _ ((kv hf0).2 (by rw[h1];rfl))) ?_ ov
   have htake:cur.toList.take (m*ei.n)=(us.take m).flatten:=by
    have:=sa us 0 m jl.hu (by omega)
    simp only[mZ,Nat.zero_mul] at this
    rw[this,←h7,List.take_take,Nat.min_eq_left hmul]
   have hnew:cur.toList.take (m*ei.n)++(aU (xs.length-m) zv.cells.toList).flatten=(us.take m++aU (xs.length-m) zv.cells.toList).flatten:=by rw[htake,List.flatten_append]
   have hnl:(us.take m++aU (xs.length-m) zv.cells.toList).flatten.length=(NJ z xs m).length*ei.n:=ov.kZ
   have hcl:(NJ z xs m).length=xs.length:=by simp[NJ];omega
   rw[h1]
   refine⟨hnl,.inr ⟨b,cap,_,by rw[hcl],Nat.zero_le _,setRow_heap w b _ _ e _ h2,by rw[hcl];exact h4,h5,?_,?_⟩⟩
   ·rw[hnew]
    simp only[List.size_toArray,List.length_append,hnl,hcl,List.length_drop,Array.length_toList,h6,hZ,hsum]
    omega
   ·rw[hnew,hcl]
    simp only
    rw[bX (by rw[hnl,hcl];exact aJ _),ao (by rw[hnl,hcl];exact aJ _)]
end
theorem Xr(z:List D)(xs:List (List D))(m:Nat)(h:m≤xs.length):(NJ z xs m).take m=xs.take m:=by
 have e:(xs.take m).length=m:=by simp;omega
 rw[NJ,bX (by omega),ao (by omega)]
theorem Yt(z:List D)(xs:List (List D))(m:Nat)(h:m≤xs.length):(NJ z xs m).length=xs.length:=by simp[NJ];omega
theorem aav{P:Program}{ops:Array Oper}{o1 o2:Oper}{os:List Oper}{g g':G}{K:G→Prop}(hg1:o1.guard=none)(hg2:o2.guard=none)
 (h:∀(X:Cx)(ν:Nat→Nm)(a:Act)(w:World)(next next1:Act→World→Prop)(Q:Exit→Act→World→Prop),Sat P X ν g a w→(∀ν' a' w',Sat P X ν' g' a' w'→next a' w')→(∀a1 w1,o2.wp P a1 w1 next Q→next1 a1 w1)→o1.wp P a w next1 Q)
 (hr:WO P ops os g' K):WO P ops (o1::o2::os) g K:=by
 intro i hi X ν a w Q hs hn
 have ho1:ops[i]?=some o1:=hi 0 o1 rfl
 have ho2:ops[i+1]?=some o2:=hi 1 o2 rfl
 simp only[aW,List.range'_succ,wpOps,ho1]
 have hrest:=hr (i+2) (fun j o' hj=>by have:=hi (j+2) o' (by simpa using hj);rw[show i+2+j=i+(j+2) from by omega];exact this)
 rw[if_pos (by simp[Region.wanted,hg1])]
 refine .inl (h X ν a w (wpOps P ops Q (List.range' (i+2) os.length)) _ Q hs (fun ν' a' w' hs'=>hrest X ν' a' w' Q hs' hn) fun a1 w1 h2=>?_)
 simp only[ho2]
 rw[if_pos (by simp[Region.wanted,hg2])]
 exact .inl h2
section
variable{E:Env}{g:G}{n0:Nat}
theorem aaE{ops:Array Oper}{os:List Oper}{K:G→Prop}{x lo:Operand}{t e k d:Nat}{m:Int}{ty ty2:TypeId}{pos pos2:String}{eU aft2:Array Edge}{xs:List (List D)}(z:List D)(ti ei:TI)(ht:E.ti t=some ti)(kJ:ti.ty= .slice e)(he:E.ti e=some ei)(hz:AJ ei.zero=some z)
 (hx:g.ev x= .acc k) (hlo:g.ev lo= .d (.val (.int .i64 m))) (hk:g.at k=some (.acc e xs)) (h0:0≤m) (hm:m≤xs.length) (hd:d<g.sl.length)
 (hr:WO E.P ops os ⟨lY g.sl d .any,db g.st k (some (.acc e (NJ z xs m.toNat)))⟩ K) :
 WO E.P ops (⟨some d,.slice t x (some lo) none none,ty,pos,eU,none⟩::⟨none,.call ⟨.builtin .clear,#[.tmp d],#[t]⟩,ty2,pos2,aft2,none⟩::os) g K:=by
 refine aav rfl rfl (fun X ν a w next next1 Q hs hn h2=>?_) hr
 have hu:=(E.ok t ti ht).ty
 rw[kJ] at hu
 have hv:=hs.ev x
 rw[hx] at hv
 have np:=hs.ev lo
 rw[hlo] at np
 have np:=fV np
 simp only[aF] at hv
 have hsize:=(E.ok e ei he).size
 have hs1:=hs.put d (p:=.any) (v:=Go.undef) trivial
 obtain⟨us,ho,jl,hB,hf0⟩:=hs.en k _ hk
 have lO:∃n c a0,(ν k).v= .slice a0 n c∧(execOp a.eval ⟨some d,.slice t x (some lo) none none,ty,pos,eU,none⟩).run E.P w= .ok (.value (sliced a0 m.toNat n c ei.n)) w:=by
  rcases ho.2 with⟨h1,h2⟩|⟨b,cap,cur,h1,_,_,h4,_⟩
  ·refine⟨0,0,none,h1,?_⟩
   have hr:=tJ (P:=E.P) w hu hsize none 0 0 (some (.int .i64 m)) none m ((0:Nat):Int) (.inr ⟨_,rfl⟩) (.inl ⟨rfl,rfl⟩) h0 (by omega) (lB _) (aJ _)
   simp only[execOp,hv.2,h1,np,dG,cz,Sem.run_bind,hr,Result.andThen_ok]
   rfl
  ·refine⟨xs.length,cap,some ⟨b,0,none⟩,h1,?_⟩
   have hr:=tJ (P:=E.P) w hu hsize (some ⟨b,0,none⟩) xs.length cap (some (.int .i64 m)) none m (xs.length:Int) (.inr ⟨_,rfl⟩) (.inl ⟨rfl,rfl⟩) h0 (by omega) (lB _) h4
   simp only[bn] at hr
   simp only[execOp,hv.2,h1,np,dG,cz,Sem.run_bind,hr,Result.andThen_ok]
   rfl
 obtain⟨n,c,a0,hν,hr⟩:=lO
 unfold Oper.wp
 rw[hr,Oper.upon_value]
 refine h2 _ _ ?_
 have hs2:=hs.put d (p:=.any) (v:=sliced a0 m.toNat n c ei.n) trivial
 refine VH (g:=⟨lY g.sl d .any,g.st⟩) ht kJ he hz hk (by omega) n c a0 hν ?_ hs2 next Q hn
 show(a.put (some d) _).tmps.getD d Go.undef=_
 rw[sn,if_pos ⟨rfl,by rw[hs.size];exact hd⟩]
theorem Zf(x hi:Operand)(t e k:Nat){d:Nat}{ty:TypeId}{pos:String}{eU:Array Edge}{gd:Option (Nat×Bool)}(ti ei:TI)(xs:List (List D))(h:Int)(ht:E.ti t=some ti)(kJ:ti.ty= .slice e)(he:E.ti e=some ei)
 (hx:g.ev x= .acc k) (hk:g.at k=some (.acc e xs)) (hhi:g.ev hi= .d (.val (.int .i64 h))) (h0:0≤h) (h1:h≤xs.length) :
 kM E.P ⟨some d,.slice t x none (some hi) none,ty,pos,eU,gd⟩ g ⟨dj x++dj hi,[k]⟩ ⟨some (d,.d (.dC (xs.take h.toNat))),[(k,.dead)]⟩:=by
 intro g2 hg
 have e1:=hg.ev (x:=x) (fun t h=>by simp[h])
 have e2:=hg.ev (x:=hi) (fun t h=>by simp[h])
 have h3:=(hg.p k (by simp)).trans hk
 intro X ν a w next Q hs hn
 have hu:=(E.ok t ti ht).ty
 rw[kJ] at hu
 have hv:=hs.ev x
 rw[e1,hx] at hv
 have np:=hs.ev hi
 rw[e2,hhi] at np
 have np:=fV np
 simp only[aF] at hv
 have hsize:=(E.ok e ei he).size
 obtain⟨hn',rfl⟩:∃n:Nat,h=n:=⟨h.toNat,by omega⟩
 simp only[bn] at hn⊢
 obtain⟨us,ho,jl,hB,hf0⟩:=hs.en k _ h3
 have lq:∀j,(g2.app ⟨some (d,.d (.dC (xs.take hn'))),[(k,.dead)]⟩).at j=if j=k then some .dead else g2.at j:=fun j=>gF g2.st k (some .dead) j
 have sN:∀j e1,(g2.app ⟨some (d,.d (.dC (xs.take hn'))),[(k,.dead)]⟩).at j=some e1→e1.live=true→j≠k∧g2.at j=some e1:=by
  intro j e1 h1 h2
  rw[lq] at h1
  by_cases hj:j=k
  ·rw[if_pos hj] at h1
   cases h1;cases h2
  ·rw[if_neg hj] at h1
   exact⟨hj,h1⟩
 have iz:∀b,Own ν (g2.app ⟨some (d,.d (.dC (xs.take hn'))),[(k,.dead)]⟩).at b→Own ν g2.at b:=by
  rintro b ⟨j,e1,h1,h2,h3⟩
  exact⟨j,e1,(sN j e1 h1 h2).2,h2,h3⟩
 have hw:∀b,cG X ν g2.at b→b<w.heap.size→cG X ν (g2.app ⟨some (d,.d (.dC (xs.take hn'))),[(k,.dead)]⟩).at b∧w.heap[b]?=w.heap[b]?:=fun b hb _=>⟨⟨fun ho=>hb.1 (iz b ho),hb.2⟩,rfl⟩
 have lO:∃v,(execOp a.eval ⟨some d,.slice t x none (some hi) none,ty,pos,eU,gd⟩).run E.P w= .ok (.value v) w∧ij w (cG X ν (g2.app ⟨some (d,.d (.dC (xs.take hn'))),[(k,.dead)]⟩).at) (.dC (xs.take hn')) v:=by
  rcases ho.2 with⟨k1,k2⟩|⟨b,cap,cur,k1,_,k2,k4,k5,k6,k7⟩
  ·have hr:=tJ (P:=E.P) w hu hsize none 0 0 none (some (.int .i64 (hn':Int))) 0 (hn':Int) (.inl ⟨rfl,rfl⟩) (.inr ⟨_,rfl⟩) (lB _) h0 (by omega) (aJ _)
   obtain rfl:hn'=0:=by omega
   refine⟨.slice none 0 0,?_,by simp;exact .nil⟩
   simp only[execOp,hv.2,k1,np,dG,cz,Sem.run_bind,hr,Result.andThen_ok]
   rfl
  ·have hr:=tJ (P:=E.P) w hu hsize (some ⟨b,0,none⟩) xs.length cap none (some (.int .i64 (hn':Int))) 0 (hn':Int) (.inl ⟨rfl,rfl⟩) (.inr ⟨_,rfl⟩) (lB _) h0 (by omega) k4
   simp only[bn] at hr
   refine⟨.slice (some ⟨b,0,none⟩) hn' cap,?_,?_⟩
   ·simp only[execOp,hv.2,k1,np,dG,cz,Sem.run_bind,hr,Result.andThen_ok]
    unfold sliced
    simp[add_lit]
   ·have hrr':=(jl.frame hw (aJ _)).cut 0 hn'
    simp only[mZ] at hrr'
    have dz:(xs.take hn').length=hn':=by simp;omega
    have hcl:=sa us 0 hn' jl.hu (by rw[jl.len];omega)
    simp only[mZ,Nat.zero_mul] at hcl
    have hokb:cG X ν (g2.app ⟨some (d,.d (.dC (xs.take hn'))),[(k,.dead)]⟩).at b:=by
     refine⟨?_,hs.K4 ⟨k,_,h3,rfl,.inl (by rw[k1];rfl)⟩⟩
     rintro⟨j,e1,m1,m2,m3⟩
     obtain⟨m4,m5⟩:=sN j e1 m1 m2
     exact m4 (hs.inj j k e1 _ b m5 h3 m2 rfl m3 (.inl (by rw[k1];rfl)))
    have hres:=ij.dC (w:=w) (ok:=cG X ν (g2.app ⟨some (d,.d (.dC (xs.take hn'))),[(k,.dead)]⟩).at) (xs.take hn') (us.take hn') b 0 cap (E.P.cellsOf e) hokb (qh k2) (by rw[dz];omega) k5 (by rw[dz];omega) hrr'.len hrr'.hx hrr'.hu (fun j u hj=>?_) hrr'.hr
    ·rw[dz] at hres
     exact hres
    ·rw[hcl,←k7,List.take_take] at hj
     have hj':cur.toList[j]?=some u:=by
      rw[List.getElem?_take] at hj
      split at hj
      ·exact hj
      ·cases hj
     have hj2:cur[j]?=some u:=by simpa using hj'
     simp[World.cell?,k2,hj2]
 obtain⟨v,hr,ov⟩:=lO
 unfold Oper.wp
 rw[hr,Oper.upon_value]
 refine hn ν _ _ (hs.XC (g':=g2.app ⟨some (d,.d (.dC (xs.take hn'))),[(k,.dead)]⟩) (fun _=>False) (sH.refl _ w) (fun _ hb=>hb.elim) ?_ ?_ ?_ ?_ ?_ ?_ ?_ rfl)
 ·intro j hj
  refine⟨rfl,?_⟩
  rw[lq]
  split
  ·rfl
  ·exact hj
 ·intro j e1 hj
  rw[lq] at hj
  by_cases lN:j=k
  ·rw[if_pos lN] at hj
   cases hj
   exact .inr trivial
  ·rw[if_neg lN] at hj
   exact .inl ⟨hj,rfl,fun _ _ _ hb=>hb⟩
 ·intro j e1 b m1 m2 m3
  exact .inl ⟨j,e1,(sN j e1 m1 m2).2,m2,m3⟩
 ·intro j j' e1 e2 b m1 m2 m3 m4 m5 m6
  exact hs.inj j j' e1 e2 b (sN j e1 m1 m3).2 (sN j' e2 m2 m4).2 m3 m4 m5 m6
 ·intro j hj
  rw[lq] at hj
  by_cases lN:j=k
  ·exact .inl (by rw[lN,h3];rfl)
  ·rw[if_neg lN] at hj
   exact .inl hj
 ·simp[G.app,uw,size_put,jz,hs.size]
 ·intro t
  simp only[G.app,uw,sn,nF,hs.size]
  by_cases hc:t=d∧d<g2.sl.length
  ·simp only[hc,and_self,if_true]
   refine .inr ?_
   simp only[aF]
   exact ov
  ·simp only[hc,if_false]
   exact .inl ⟨trivial,trivial⟩
def onQ(Q:Ex→G→Prop):qT→Ex→G→Prop
 | .on=>Q
 | .off=>fun _ _=>False
theorem de(Q:Ex→G→Prop)(e:Ex)(g:G):onQ Q .on e g=Q e g:=rfl
theorem gz(hm:E.P.follows .mixedOrders=true){c:Code}{Q:Ex→G→Prop}(h:ML E n0 c .on g (onQ Q)):W E.P n0 c g Q:=QE hm c g _ h
theorem dq(K:G→Prop)(Q:Ex→G→Prop)(g:G):Sg K Q .normal g=K g:=rfl
theorem Za(K:G→Prop)(Q:Ex→G→Prop)(i:Nat)(g:G):Sg K Q (.exit i) g=Q (.exit i) g:=rfl
theorem vW(K:G→Prop)(Q:Ex→G→Prop)(g:G):Sg K Q .ret g=Q .ret g:=rfl
theorem CB{P:Program}(t k e:Nat)(xs:List (List D))(ht:nth g.sl t= .acc k)(hk:g.at k=some (.acc e xs)):pr P n0 g ⟨lY g.sl t (.d (.dC xs)),db g.st k (some .dead)⟩:=by
 intro X ν a w _ hs
 refine⟨ν,?_⟩
 obtain⟨us,ho,jl,hB,hf0⟩:=hs.en k _ hk
 have lq:∀j,(⟨lY g.sl t (.d (.dC xs)),db g.st k (some .dead)⟩:G).at j=if j=k then some .dead else g.at j:=fun j=>gF g.st k (some .dead) j
 have sN:∀j e1,(⟨lY g.sl t (.d (.dC xs)),db g.st k (some .dead)⟩:G).at j=some e1→e1.live=true→j≠k∧g.at j=some e1:=by
  intro j e1 h1 h2
  rw[lq] at h1
  by_cases hj:j=k
  ·rw[if_pos hj] at h1
   cases h1;cases h2
  ·rw[if_neg hj] at h1
   exact⟨hj,h1⟩
 have iz:∀b,Own ν (⟨lY g.sl t (.d (.dC xs)),db g.st k (some .dead)⟩:G).at b→Own ν g.at b:=by
  rintro b ⟨j,e1,h1,h2,h3⟩
  exact⟨j,e1,(sN j e1 h1 h2).2,h2,h3⟩
 have hw:∀b,cG X ν g.at b→b<w.heap.size→cG X ν (⟨lY g.sl t (.d (.dC xs)),db g.st k (some .dead)⟩:G).at b∧w.heap[b]?=w.heap[b]?:=fun b hb _=>⟨⟨fun ho=>hb.1 (iz b ho),hb.2⟩,rfl⟩
 have ov:ij w (cG X ν (⟨lY g.sl t (.d (.dC xs)),db g.st k (some .dead)⟩:G).at) (.dC xs) (ν k).v:=by
  refine wS ho jl hB (fun b hb=>⟨?_,hs.K4 ⟨k,_,hk,rfl,.inl hb⟩⟩) hw
  rintro⟨j,e1,m1,m2,m3⟩
  obtain⟨m4,m5⟩:=sN j e1 m1 m2
  exact m4 (hs.inj j k e1 _ b m5 hk m2 rfl m3 (.inl hb))
 refine hs.XC (g':=⟨lY g.sl t (.d (.dC xs)),db g.st k (some .dead)⟩) (fun _=>False) (sH.refl _ w) (fun _ hb=>hb.elim) ?_ ?_ ?_ ?_ ?_ ?_ ?_ rfl
 ·intro j hj
  refine⟨rfl,?_⟩
  rw[lq]
  split
  ·rfl
  ·exact hj
 ·intro j e1 hj
  rw[lq] at hj
  by_cases lN:j=k
  ·rw[if_pos lN] at hj
   cases hj
   exact .inr trivial
  ·rw[if_neg lN] at hj
   exact .inl ⟨hj,rfl,fun _ _ _ hb=>hb⟩
 ·intro j e1 b m1 m2 m3
  exact .inl ⟨j,e1,(sN j e1 m1 m2).2,m2,m3⟩
 ·intro j j' e1 e2 b m1 m2 m3 m4 m5 m6
  exact hs.inj j j' e1 e2 b (sN j e1 m1 m3).2 (sN j' e2 m2 m4).2 m3 m4 m5 m6
 ·intro j hj
  rw[lq] at hj
  by_cases lN:j=k
  ·exact .inl (by rw[lN,hk];rfl)
  ·rw[if_neg lN] at hj
   exact .inl hj
 ·simp[jz,hs.size]
 ·intro j
  simp only[nF]
  by_cases hc:j=t∧t<g.sl.length
  ·simp only[hc,and_self,if_true]
   refine .inr ?_
   have:=hs.sl t
   rw[ht] at this
   simp only[aF] at this⊢
   rw[this.2]
   exact ov
  ·simp only[hc,if_false]
   exact .inl ⟨trivial,trivial⟩
def VG(E:Env)(rs:List ResultVar)(n0:Nat)(R:PV→List (Option En)→Prop)(g:G):Prop:=∃g',pr E.P n0 g g'∧Aw E rs n0 R g'
theorem dR{rs:List ResultVar}{R:PV→List (Option En)→Prop}(h:Aw E rs n0 R g):VG E rs n0 R g:=⟨g,pr.refl g,h⟩
theorem Eh {f : FuncId} {fn : Func} {c : Code} {args : List PV} {e9 : List (Option En)} {R : PV → List (Option En) → Prop} {nt : Nat} {rs : List ResultVar} (hf : E.P.funcs[f]? = some fn) (hb : fn.body = some c) (hname : (fn.name == "runtime.NumGoroutine") = false)
 (hnt:fn.ntmps=nt) (hrs:fn.results.toList=rs) (hn:yl (wY args) nt=true) (h:qP args→Cr e9→W E.P (l6 e9) c ⟨dH nt .undef (UQ 0 args),e9⟩ (Pe (VG E rs (l6 e9) R))):C E.P f args e9 R:=by
 have hn:=kX hn
 rw[ow] at hn
 rw[←RA hn,nP] at h
 refine MS hf hb hname (VG E rs e9.length R) (fun _ X ν a w ⟨_,hw,h1⟩ hp hs=>let ⟨_,hs'⟩:=hw X ν a w hp hs;Aw.sat h1 hp hs' hrs) ?_
 rw[hnt,←AI]
 refine Zt fun h1 h2=>h ?_ h2
 have h1:qP (pad args nt):=h1
 rw[AI] at h1
 exact C8 h1
end
def Am(P:Program)(t:TypeId):Bool:=
 match P.underlying t with
 | some (.struct ⟨[f, g]⟩) => (f.name != "_" && (g.name != "_" && (f.offset == 0 && (g.offset == 1 && ((match P.underlying f.type, P.underlying g.type with | some (.int _), some (.int _) => true | _, _ => false) && (!P.stoodInHeld t && !P.eqGuardType P.depth t))))))
 | _=>false
def oz(a b c e:Int):Bool:=a == c&&b == e
theorem zY {P : Program} {t : TypeId} (h : Am P t = true) : ∃ (f g : Field) (k l : IntKind), P.underlying t = some (.struct ⟨[f, g]⟩) ∧ f.name ≠ "_" ∧ g.name ≠ "_" ∧ f.offset = 0 ∧ g.offset = 1 ∧ P.underlying f.type = some (.int k) ∧ P.underlying g.type = some (.int l) ∧ P.stoodInHeld t = false ∧ P.eqGuardType P.depth t = false := by
 unfold Am at h
 split at h
 ·rename_i f g hu
  simp only[ai,bne_iff_ne,ne_eq,beq_iff_eq,mC] at h
  obtain⟨h1,h2,h3,h4,h5,h6,h7⟩:=h
  split at h5
  ·rename_i k l hk hl
   exact⟨f,g,k,l,hu,h1,h2,h3,h4,hk,hl,h6,h7⟩
  ·cases h5
 ·cases h
theorem DK{P:Program}(w:World){t:TypeId}(h:Am P t=true)(a b c e:Int) :
 (Op.equalIn 10000 t (.agg ⟨[.int .i64 a,.int .i64 b]⟩) (.agg ⟨[.int .i64 c,.int .i64 e]⟩)).run P w= .ok (oz a b c e) w:=by
 obtain⟨f,g,k,l,hu,n1,n2,o1,o2,hf,hg,hs,_⟩:=zY h
 have hfs:P.fieldsOf t=⟨[f,g]⟩:=by simp only[Program.fieldsOf,hu]
 rw[run_equalIn_struct w 9999 t _ _ (by rw[hfs];exact hu) hs,hfs]
 have p1:P.plainKey f.type=true:=by simp[Program.plainKey,hf]
 have p2:P.plainKey g.type=true:=by simp[Program.plainKey,hg]
 have e1:=run_part_plain (P:=P) w p1 (xs:=⟨[.int .i64 a,.int .i64 b]⟩) (off:=f.offset) (v:=.int .i64 a) (by rw[o1];rfl)
 have e2:=run_part_plain (P:=P) w p1 (xs:=⟨[.int .i64 c,.int .i64 e]⟩) (off:=f.offset) (v:=.int .i64 c) (by rw[o1];rfl)
 have e3:=run_part_plain (P:=P) w p2 (xs:=⟨[.int .i64 a,.int .i64 b]⟩) (off:=g.offset) (v:=.int .i64 b) (by rw[o2];rfl)
 have e4:=run_part_plain (P:=P) w p2 (xs:=⟨[.int .i64 c,.int .i64 e]⟩) (off:=g.offset) (v:=.int .i64 e) (by rw[o2];rfl)
 have q1:(Op.equalIn 9999 f.type (.int .i64 a) (.int .i64 c)).run P w= .ok (a == c) w:=run_equalIn_int w 9998 f.type .i64 k a c hf
 have q2:(Op.equalIn 9999 g.type (.int .i64 b) (.int .i64 e)).run P w= .ok (b == e) w:=run_equalIn_int w 9998 g.type .i64 l b e hg
 simp only[Op.eqFields,n1,n2,ne_eq,not_false_eq_true,if_true,Sem.run_bind,Sem.run_ite,e1,e2,e3,e4,Result.andThen_ok,q1,q2,oz]
 cases a == c
 ·rfl
 ·simp only[kK,aw,if_false,aE,Sem.run_bind,Sem.run_ite,e3,e4,Result.andThen_ok,q2]
  cases b == e<;>rfl
section
variable{E:Env}{g:G}{d:Nat}{ty:TypeId}{pos:String}{eU:Array Edge}{gd:Option (Nat×Bool)}
theorem AS{w:World}{ok:Nat→Prop}{ν:Nat→Nm}{st:Nat→Option En}{a b:Int}{v:Value}(h:aF w ok ν st (.agg [.d (.val (.int .i64 a)),.d (.val (.int .i64 b))]) v):v= .agg ⟨[.int .i64 a,.int .i64 b]⟩:=by
 simp only[aF] at h
 obtain⟨vs,rfl,h⟩:=h
 match vs,h with
 | [v1,v2],h=>
   simp only[aA,and_true] at h
   rw[fV h.1,fV h.2]
theorem T3(x y:Operand)(t u:TypeId)(a b c e:Int)(ht:Am E.P t=true)(hx:g.ev x= .agg [.d (.val (.int .i64 a)),.d (.val (.int .i64 b))])(hy:g.ev y= .agg [.d (.val (.int .i64 c)),.d (.val (.int .i64 e))]) :
 kM E.P ⟨some d,.binOp .eql t x y u,ty,pos,eU,gd⟩ g ⟨dj x++dj y,[]⟩ ⟨some (d,.d (.val (.bool (oz a b c e)))),[]⟩:=by
 intro g2 hg
 have h1:=hg.ev (x:=x) (fun t h=>dy _ h)
 have h2:=hg.ev (x:=y) (fun t h=>gg _ h)
 refine D7.val rfl fun X ν act w hs=>?_
 have hv:=hs.ev x
 have np:=hs.ev y
 rw[h1,hx] at hv
 rw[h2,hy] at np
 have q1:=AS hv
 have q2:=AS np
 obtain⟨_,_,_,_,_,_,_,_,_,_,_,_,hm⟩:=zY ht
 refine⟨.bool (oz a b c e),?_,nY rfl⟩
 simp[execOp,q1,q2,run_eqGuard_agg w .eql t x y _ _ hm,run_eql_struct,DK w ht]
theorem S7(x y:Operand)(t u:TypeId)(a b c e:Int)(ht:Am E.P t=true)(hx:g.ev x= .agg [.d (.val (.int .i64 a)),.d (.val (.int .i64 b))])(hy:g.ev y= .agg [.d (.val (.int .i64 c)),.d (.val (.int .i64 e))]) :
 kM E.P ⟨some d,.binOp .neq t x y u,ty,pos,eU,gd⟩ g ⟨dj x++dj y,[]⟩ ⟨some (d,.d (.val (.bool (!oz a b c e)))),[]⟩:=by
 intro g2 hg
 have h1:=hg.ev (x:=x) (fun t h=>dy _ h)
 have h2:=hg.ev (x:=y) (fun t h=>gg _ h)
 refine D7.val rfl fun X ν act w hs=>?_
 have hv:=hs.ev x
 have np:=hs.ev y
 rw[h1,hx] at hv
 rw[h2,hy] at np
 have q1:=AS hv
 have q2:=AS np
 obtain⟨_,_,_,_,_,_,_,_,_,_,_,_,hm⟩:=zY ht
 refine⟨.bool (!oz a b c e),?_,nY rfl⟩
 simp[execOp,q1,q2,run_eqGuard_agg w .neq t x y _ _ hm,run_neq_struct,DK w ht]
theorem LV{m:Option (List Ky)}{gs:Option Nat}{rest:qT→Option (List Ky)→G→Prop}{x y:Operand}{t u:TypeId}(ht:Am E.P t=true){a b c e:Int}(hx:g.ev x= .agg [.d (.val (.int .i64 a)),.d (.val (.int .i64 b))])(hy:g.ev y= .agg [.d (.val (.int .i64 c)),.d (.val (.int .i64 e))])
 (hr:rest .on (mK m (ot (uO gs ⟨dj x++dj y,[]⟩) ⟨some (d,.d (.val (.bool (oz a b c e)))),[]⟩)) (g.app ⟨some (d,.d (.val (.bool (oz a b c e)))),[]⟩)):sU E m gs ⟨some d,.binOp .eql t x y u,ty,pos,eU,gd⟩ g rest:=
 fu (T3 x y t u a b c e ht hx hy) hr
theorem RJ{m:Option (List Ky)}{gs:Option Nat}{rest:qT→Option (List Ky)→G→Prop}{x y:Operand}{t u:TypeId}(ht:Am E.P t=true){a b c e:Int}(hx:g.ev x= .agg [.d (.val (.int .i64 a)),.d (.val (.int .i64 b))])(hy:g.ev y= .agg [.d (.val (.int .i64 c)),.d (.val (.int .i64 e))])
 (hr:rest .on (mK m (ot (uO gs ⟨dj x++dj y,[]⟩) ⟨some (d,.d (.val (.bool (!oz a b c e)))),[]⟩)) (g.app ⟨some (d,.d (.val (.bool (!oz a b c e)))),[]⟩)):sU E m gs ⟨some d,.binOp .neq t x y u,ty,pos,eU,gd⟩ g rest:=
 fu (S7 x y t u a b c e ht hx hy) hr
theorem Z5(x y:Operand)(m n:Int)(tys:Array TypeId)(hx:g.ev x= .d (.val (.int .i64 m)))(hy:g.ev y= .d (.val (.int .i64 n))) :
 kM E.P ⟨some d,.call ⟨.builtin .max,#[x,y],tys⟩,ty,pos,eU,gd⟩ g ⟨dj x++dj y,[]⟩ ⟨some (d,.d (.val (.int .i64 (if m<n then n else m)))),[]⟩:=
 qg rfl hx hy rfl fun a w h1 h2=>by
  simp[execOp,resolve,invoke,builtin,Builtin.max_,Builtin.max2,h1,h2]
theorem Zq{m:Option (List Ky)}{gs:Option Nat}{rest:qT→Option (List Ky)→G→Prop}{x y:Operand}{tys:Array TypeId}(a b c:Int)(hc:(if a<b then b else a)=c)(hx:g.ev x= .d (.val (.int .i64 a)))(hy:g.ev y= .d (.val (.int .i64 b)))
 (hr:rest .on (mK m (ot (uO gs ⟨dj x++dj y,[]⟩) ⟨some (d,.d (.val (.int .i64 c))),[]⟩)) (g.app ⟨some (d,.d (.val (.int .i64 c))),[]⟩)):sU E m gs ⟨some d,.call ⟨.builtin .max,#[x,y],tys⟩,ty,pos,eU,gd⟩ g rest:=by
 subst hc
 exact fu (Z5 x y a b tys hx hy) hr
theorem Zb(x:Operand)(m:Int)(t u:TypeId)(hx:g.ev x= .d (.val (.int .u64 m))) :
 kM E.P ⟨some d,.binOp .shr t x (.const (.int .u64 1)) u,ty,pos,eU,gd⟩ g ⟨dj x,[]⟩ ⟨some (d,.d (.val (.int .u64 (m.fdiv 2)))),[]⟩:=
 Fw rfl hx rfl fun a w h1=>by
  have he:a.eval (.const (.int .u64 1))= .int .u64 1:=rfl
  have hb:min 1 (IntKind.u64).bits=1:=by decide
  simp[execOp,h1,he,eqGuard,binOp,Op.shift,hb]
theorem aah{m:Option (List Ky)}{gs:Option Nat}{rest:qT→Option (List Ky)→G→Prop}{x:Operand}{t u:TypeId}(a c:Int)(hc:a.fdiv 2=c)(hx:g.ev x= .d (.val (.int .u64 a)))
 (hr:rest .on (mK m (ot (uO gs ⟨dj x,[]⟩) ⟨some (d,.d (.val (.int .u64 c))),[]⟩)) (g.app ⟨some (d,.d (.val (.int .u64 c))),[]⟩)):sU E m gs ⟨some d,.binOp .shr t x (.const (.int .u64 1)) u,ty,pos,eU,gd⟩ g rest:=by
 subst hc
 exact fu (Zb x a t u hx) hr
theorem wrap_u64{n:Int}(h0:0≤n)(h1:n≤9223372036854775807):IntKind.wrap .u64 n=n:=by
 simp only[IntKind.wrap,IntKind.bits,IntKind.signed,aK,aw,if_false]
 omega
end
end Go.Eng
