/-
  The symbolic layer, twenty-third text: from a function's code to its contract; what the working out may unfold.
-/
import Derived.Test.YtpidddienjoleaaGreatKDC
import Derived.Laws.StructEq
set_option linter.unusedVariables false
set_option linter.unusedSimpArgs false
namespace Go.Eng
open Go.RowKit
def pad:List PV→Nat→List PV
 | [],0=>[]
 | [],n+1=>.undef::pad [] n
 | l,0=>l
 | a::as,n+1=>a::pad as n
theorem sa:∀(l:List PV)(n:Nat),pad l n=l++List.replicate (n-l.length) .undef
 | [],0=>rfl
 | [],n+1=>by simp[pad,sa [] n,List.replicate_succ]
 | a::as,0=>by simp[pad]
 | a::as,n+1=>by simp[pad,sa as n]
def rE(E:Env)(rs:List ResultVar)(n0:Nat)(R:PV→List (Option En)→Prop)(g:G):Prop:=
 ∃ps m q st',rJ E g rs=some ps∧Wk n0 m ⟨[eJ ps],g.st⟩ ⟨[q],st'⟩∧R q st'
theorem rE.sat{E:Env}{rs:List ResultVar}{n0:Nat}{R:PV→List (Option En)→Prop}{g:G}(h:rE E rs n0 R g){X:Cx}{ν:Nat→Nm}{a:Act}{w:World}(hp:P4 X n0)(hs:Sat E.P X ν g a w){fn:Func}(hfn:fn.results.toList=rs) :
 ∃v res st' ν',(results fn a.tmps).run E.P w= .ok v w∧R res st'∧FV E.P X ν' res st' v w:=by
 obtain⟨ps,m,q,st',h1,h2,h3⟩:=h
 obtain⟨v,hr,hv⟩:=vy hs (fn:=fn) (by rw[hfn];exact h1)
 have hs1:Sat E.P X ν ⟨[eJ ps],g.st⟩ ⟨#[v],[]⟩ w:=by
  refine⟨rfl,fun t=>?_,hs.en,hs.inj,hs.base,hs.nu,hs.par,hs.xy,hs.r3,rfl⟩
  cases t with
  | zero=>exact hv
  | succ t=>simp[nth,af]
 obtain⟨ν',hs2⟩:=Ch h2 X ν _ _ hp hs1
 exact⟨v,q,st',ν',hr,h3,hs2⟩
theorem SN{E:Env}{rs:List ResultVar}{g:G}{ps:List PV}{q:PV}(h1:rJ E g rs=some ps)(h2:wk ⟨[eJ ps],g.st⟩ [] (eJ ps) q):rE E rs 0 (aO q []) g:=
 ⟨ps,[],q,[],h1,⟨by simp only[sg];exact⟨h2,trivial⟩,by simp[fD],rfl,rfl⟩,rfl,rfl⟩
theorem PF:bn []=[]:=rfl
theorem KY(x:D)(xs:List D):bn (x::xs)= .d x::bn xs:=rfl
def r8(t:Nat):List (Nat×PV)→PV→PV
 | [],p=>p
 | (d,v)::r,p=>match Nat.beq t d with
   | true=>v
   | false=>r8 t r p
def b9(n:Nat)(p:PV)(ch:List (Nat×PV)):List PV:=(List.range n).map fun t=>r8 t ch p
theorem qf{a b:Nat}:Nat.ble b a=false↔a<b:=by
 cases h:Nat.ble b a
 ·simp only[true_iff]
  have h':¬b≤a:=fun hl=>by rw[Nat.ble_eq_true_of_le hl] at h;cases h
  omega
 ·have:=Nat.le_of_ble_eq_true h
  simp
  omega
theorem oN:∀(l:List PV)(t:Nat),nth l t=l.getD t .any
 | [],t=>by cases t<;>rfl
 | _::_,0=>rfl
 | _::l,t+1=>by simp only[nth,oN l t];rfl
theorem sn(n:Nat)(p:PV)(ch:List (Nat×PV)):(b9 n p ch).length=n:=by simp[b9]
theorem xH(n:Nat)(p:PV)(ch:List (Nat×PV))(t:Nat):nth (b9 n p ch) t=match Nat.ble n t with|false=>r8 t ch p|true=>.any:=by
 rw[oN]
 cases h:Nat.ble n t
 ·have h':t<n:=qf.1 h
  simp[b9,List.getD,h']
 ·have h':¬t<n:=fun hl=>by rw[qf.2 hl] at h;cases h
  simp[b9,List.getD,h']
theorem Ie{l l':List PV}(hl:l.length=l'.length)(h:∀t,nth l t=nth l' t):l=l':=by
 refine List.ext_getElem hl fun t h1 h2=>?_
 have:=h t
 rw[oN,oN] at this
 simpa[List.getD,h1,h2] using this
theorem KN(n:Nat)(p:PV)(ch:List (Nat×PV))(d:Nat)(v:PV):fm (b9 n p ch) d v=b9 n p ((d,v)::ch):=by
 refine Ie (by rw[dt,sn,sn]) fun t=>?_
 rw[gw,sn,xH,xH]
 by_cases h:t=d
 ·subst h
  by_cases hn:t<n
  ·rw[if_pos ⟨rfl,hn⟩,qf.2 hn]
   simp only[r8,Nat.beq_refl]
  ·rw[if_neg (fun hc=>hn hc.2)]
   have:Nat.ble n t=true:=by
    cases hb:Nat.ble n t
    ·exact(hn (qf.1 hb)).elim
    ·rfl
   rw[this]
 ·rw[if_neg (fun hc=>h hc.1)]
  have:Nat.beq t d=false:=by
   cases hb:Nat.beq t d
   ·rfl
   ·exact(h (Nat.eq_of_beq_eq_true hb)).elim
  simp only[r8,this]
def Mt:Nat→List PV→List (Nat×PV)
 | _,[]=>[]
 | i,a::l=>(i,a)::Mt (i+1) l
theorem FD:∀(l:List PV)(i t:Nat)(p:PV),r8 (i+t) (Mt i l) p=l.getD t p
 | [],i,t,p=>by simp[Mt,r8]
 | a::l,i,0,p=>by simp[Mt,r8]
 | a::l,i,t+1,p=>by
   have:Nat.beq (i+(t+1)) i=false:=by
    cases hb:Nat.beq (i+(t+1)) i
    ·rfl
    ·have:=Nat.eq_of_beq_eq_true hb;omega
   simp only[Mt,r8,this]
   have:=FD l (i+1) t p
   rw[show i+1+t=i+(t+1) by omega] at this
   rw[this]
   rfl
theorem It{l:List PV}{n:Nat}(h:l.length≤n):pad l n=b9 n .undef (Mt 0 l):=by
 rw[sa]
 refine Ie (by rw[sn];simp;omega) fun t=>?_
 rw[xH,oN]
 have:=FD l 0 t .undef
 rw[Nat.zero_add] at this
 rw[this]
 cases hb:Nat.ble n t
 rotate_left
 ·have h':¬t<n:=fun hl=>by rw[qf.2 hl] at hb;cases hb
  have h1:(l++List.replicate (n-l.length) PV.undef).length≤t:=by simp;omega
  simp only[List.getD,List.getElem?_eq_none h1,Option.getD_none]
 ·have h':t<n:=qf.1 hb
  simp only[List.getD]
  by_cases hl:t<l.length
  ·rw[List.getElem?_append_left hl,List.getElem?_eq_getElem hl];rfl
  ·rw[List.getElem?_append_right (by omega),List.getElem?_replicate,if_pos (by omega),List.getElem?_eq_none (by omega)]
   rfl
def Sq(g:G)(m:List (Option Nat))(ch:List (Nat×PV))(p:PV):List (Nat×PV)→Prop
 | []=>True
 | (t,q)::r=>wk g m (r8 t ch p) q∧Sq g m ch p r
theorem Rc{g:G}{m:List (Option Nat)}(p:PV):wk g m p .any:=by cases p<;>simp[wk]
theorem NA{g:G}{m:List (Option Nat)}{ch:List (Nat×PV)}{p:PV}:∀{ch':List (Nat×PV)},Sq g m ch p ch'→∀t,wk g m (r8 t ch p) (r8 t ch' .any)
 | [],_,t=>by simp only[r8];exact Rc _
 | (d,q)::r,h,t=>by
   simp only[Sq] at h
   simp only[r8]
   cases hb:Nat.beq t d
   ·exact NA h.2 t
   ·have:=Nat.eq_of_beq_eq_true hb
    subst this
    exact h.1
theorem IW{g:G}{m:List (Option Nat)}{f f':Nat→PV}(h:∀t,wk g m (f t) (f' t)):∀(l:List Nat),sg g m (l.map f) (l.map f')
 | []=>by simp only[List.map_nil,sg]
 | a::l=>by simp only[List.map_cons,sg];exact⟨h a,IW h l⟩
theorem ah{P:Program}{n0 n:Nat}(m:List (Option Nat)){p:PV}{ch ch':List (Nat×PV)}{st st':List (Option En)}(h1:Sq ⟨b9 n p ch,st⟩ m ch p ch')(h2:fD ⟨b9 n p ch,st⟩ m m st')(h3:vo m st'=true)(h4:keeps n0 0 m=true):jS P n0 ⟨b9 n p ch,st⟩ ⟨b9 n .any ch',st'⟩:=
 Ch ⟨IW (NA h1) _,h2,h3,h4⟩
attribute [go_sem] Al DH xH KN r8 Sq Mt aV aX ff oG tk dr Hn Ga Gh JJ Sj Sn RC RU Rp HB KD FU SQ S1 SW PM KP SE qc
attribute [go_sem] B4 yI Gg xx C7 tR xl Ca Jc xB sr Dc xz Rk C2 Cu Cj Dk xF Da o4 uQ JZ Ij xv Io Rs
theorem RV(sl:List PV)(st:List (Option En))(dst:Option (Nat×PV))(up:List (Nat×En)):(G.mk sl st).app ⟨dst,up⟩=⟨m9 sl dst,pV st up⟩:=rfl
theorem Kq(sl:List PV):m9 sl none=sl:=rfl
theorem KF(sl:List PV)(d:Nat)(p:PV):m9 sl (some (d,p))=fm sl d p:=rfl
theorem Nq(sl:List PV)(st:List (Option En))(t:Nat):(G.mk sl st).ev (.tmp t)=nth sl t:=rfl
theorem Hj(sl:List PV)(st:List (Option En))(v:Value):(G.mk sl st).ev (.const v)=So v:=rfl
theorem JQ(sl:List PV)(st:List (Option En))(f:Nat):(G.mk sl st).ev (.func f)= .fn f []:=rfl
theorem S2(sl:List PV)(st:List (Option En))(k:Nat):(G.mk sl st).at k=aV st k:=rfl
theorem RT(sl:List PV)(st:List (Option En)):(G.mk sl st).new=ff st:=rfl
theorem Oy(s p:List Nat)(dst:Option (Nat×PV))(up:List (Nat×En)):hY ⟨s,p⟩ ⟨dst,up⟩=⟨s,p,Dl.ws ⟨dst,up⟩,Dl.wp ⟨dst,up⟩⟩:=rfl
theorem PC(up:List (Nat×En)):Dl.ws ⟨none,up⟩=[]:=rfl
theorem Pb(d:Nat)(p:PV)(up:List (Nat×En)):Dl.ws ⟨some (d,p),up⟩=[d]:=rfl
theorem Qy(dst:Option (Nat×PV)):Dl.wp ⟨dst,[]⟩=[]:=rfl
theorem NY(dst:Option (Nat×PV))(k:Nat)(e:En)(r:List (Nat×En)):Dl.wp ⟨dst,(k,e)::r⟩=k::Dl.wp ⟨none,r⟩:=rfl
attribute [go_sem] Su RX snoc gl.eq_1 gl.eq_2 n6.eq_1 n6.eq_2 Bm.eq_1 Bm.eq_2 Bm.eq_3 Ra.eq_1 Nb.eq_1 lg.eq_1 lg.eq_2 lg.eq_3 RD Q0.eq_1 Q0.eq_2 O8.eq_1 O8.eq_2 run Ib.eq_1 Ib.eq_2 Ib.eq_3 zF.eq_1 zF.eq_2 zF.eq_3 LU.eq_1 M1.eq_1 Rl.eq_1 Rl.eq_2 DJ
attribute [go_sem] RV Kq KF pV S2 Nq Hj JQ RT uL So Lk De bw PV.whole PV.one n9 Jb K0 Sb rS rowsOf Aj mD Oy PC Pb Qy NY ba NQ TI.isAgg PF KY
attribute [go_sem] Ge I2 G8 Ml rJ eJ aO List.map_cons List.map_nil qq D3
attribute [go_sem] sg wk fD uh cI w8 keeps vo GC
attribute [go_sem] HO T.pv QF fl kS SL uz GM xk xp Au pX PT PX Rz N5
end Go.Eng
namespace Go.Eng
open Go.RowKit
mutual
def xM:PV→Prop
 | .d (.bx xs)=>xs.length≤LB
 | .d (.str s)=>s.length≤LB
 | .agg cs=>jR cs
 | _=>True
def jR:List PV→Prop
 | []=>True
 | p::ps=>xM p∧jR ps
end
mutual
theorem af.xM{w:World}{ok:Nat→Prop}{ν:Nat→Nm}{st:Nat→Option En}:∀(p:PV)(v:Value),af w ok ν st p v→xM p
 | .d (.bx xs),v,h=>by
   simp only[af] at h
   simp only[Eng.xM]
   exact h.Rt
 | .d (.str s),v,h=>by
   simp only[af] at h
   simp only[Eng.xM]
   exact h.xm.2
 | .agg cs,v,h=>by
   simp only[af] at h
   simp only[Eng.xM]
   obtain⟨vs,_,h⟩:=h
   exact ae.xM cs vs h
 | .d (.val _),_,_=>by simp only[Eng.xM]
 | .any,_,_=>by simp only[Eng.xM]
 | .undef,_,_=>by simp only[Eng.xM]
 | .aK,_,_=>by simp only[Eng.xM]
 | .eZ _,_,_=>by simp only[Eng.xM]
 | .ptr _ _,_,_=>by simp only[Eng.xM]
 | .acc _,_,_=>by simp only[Eng.xM]
 | .cC _ _ _ _,_,_=>by simp only[Eng.xM]
 | .cf _ _ _,_,_=>by simp only[Eng.xM]
 | .fn _ _,_,_=>by simp only[Eng.xM]
theorem ae.xM{w:World}{ok:Nat→Prop}{ν:Nat→Nm}{st:Nat→Option En}:∀(ps:List PV)(vs:List Value),ae w ok ν st ps vs→jR ps
 | [],_,_=>by simp only[Eng.jR]
 | p::ps,v::vs,h=>by
   simp only[ae] at h
   simp only[Eng.jR]
   exact⟨af.xM p v h.1,ae.xM ps vs h.2⟩
 | _::_,[],h=>by simp[ae] at h
end
def Jp:Option En→Prop
 | some (.box cs)=>jR cs
 | some (.acc _ xs)=>xs.length≤LB
 | some (.bM _ xs)=>xs.length≤LB
 | _=>True
def tU:List (Option En)→Prop
 | []=>True
 | e::es=>Jp e∧tU es
theorem Sat.jR{P:Program}{X:Cx}{ν:Nat→Nm}{g:G}{a:Act}{w:World}(h:Sat P X ν g a w):Eng.jR g.sl:=by
 have key:∀(ps:List PV),(∀t,∃v,af w (aN X ν g.at) ν g.at (nth ps t) v)→Eng.jR ps:=by
  intro ps
  induction ps with
  | nil=>intro _;simp only[Eng.jR]
  | cons p ps ih=>
    intro hp
    simp only[Eng.jR]
    obtain⟨v,hv⟩:=hp 0
    exact⟨af.xM p v hv,ih fun t=>hp (t+1)⟩
 exact key _ fun t=>⟨_,h.sl t⟩
theorem Sat.Jp{P:Program}{X:Cx}{ν:Nat→Nm}{g:G}{a:Act}{w:World}(h:Sat P X ν g a w)(k:Nat):Eng.Jp (g.at k):=by
 cases hk:g.at k with
 | none=>trivial
 | some e=>
   have:=h.en k e hk
   cases e with
   | dead=>trivial
   | box cs=>obtain⟨b,vs,T,_,_,h3,_⟩:=this;exact ae.xM cs vs h3
   | acc t xs=>obtain⟨us,_,_,h3,_⟩:=this;exact h3
   | map kvs=>trivial
   | bM t xs=>
     have h1:=this.1
     simp only[dU] at h1
     obtain⟨us,F1,_,_,_,h4,_⟩:=h1
     exact h4
theorem EW:∀{l:List (Option En)},(∀k,Jp (aV l k))→tU l
 | [],_=>trivial
 | _::_,h=>⟨h 0,EW fun k=>h (k+1)⟩
theorem P2{P:Program}{n0:Nat}{c:Code}{g:G}{Q:Ex→G→Prop}(h:jR g.sl→tU g.st→W P n0 c g Q):W P n0 c g Q:=fun X ν a w hp hs=>
 h hs.jR (EW fun k=>hs.Jp k) X ν a w hp hs
theorem vg:∀{ps r:List PV},jR (ps++r)→jR ps
 | [],_,_=>by simp only[jR]
 | p::ps,r,h=>by
   simp only[List.cons_append,jR] at h⊢
   exact⟨h.1,vg h.2⟩
theorem RZ {E : Env} (hm : E.P.follows .mixedOrders = true) {f : FuncId} {fn : Func} {c : Code} {args : List PV} {cst : List (Option En)} {R : PV → List (Option En) → Prop} {nt : Nat} {rs : List ResultVar} (hf : E.P.funcs[f]? = some fn) (hb : fn.body = some c) (hname : (fn.name == "runtime.NumGoroutine") = false)
 (hnt:fn.ntmps=nt) (hrs:fn.results.toList=rs) (h:jR args→tU cst→DJ E (ff cst) c .on ⟨pad args nt,cst⟩ (fun _=>Ge (rE E rs (ff cst) R))):C E.P f args cst R:=by
 rw[gF] at h
 refine Ee hf hb hname (rE E rs cst.length R) (fun _ _ _ _ _ h1 hp hs=>rE.sat h1 hp hs hrs) ?_
 rw[hnt,←sa]
 refine P2 fun h1 h2=>Hu hm c _ _ (h ?_ h2)
 have h1:jR (pad args nt):=h1
 rw[sa] at h1
 exact vg h1
theorem Ik {E : Env} (hm : E.P.follows .mixedOrders = true) {f : FuncId} {fn : Func} {c : Code} {args : List PV} {cst : List (Option En)} {R : PV → List (Option En) → Prop} {nt : Nat} {rs : List ResultVar} (hf : E.P.funcs[f]? = some fn) (hb : fn.body = some c) (hname : (fn.name == "runtime.NumGoroutine") = false)
 (hnt:fn.ntmps=nt) (hrs:fn.results.toList=rs) (hn:qc (oG args) nt=true) (h:jR args→tU cst→DJ E (ff cst) c .on ⟨b9 nt .undef (Mt 0 args),cst⟩ (fun _=>Ge (rE E rs (ff cst) R))):C E.P f args cst R:=by
 have hn:=eK hn
 rw[iI] at hn
 rw[←It hn] at h
 exact RZ hm hf hb hname hnt hrs h
attribute [go_sem] xM jR Jp tU
end Go.Eng
namespace Go.Eng
open Go.RowKit
mutual
theorem Jh(m:List Nat):∀(p:PV),p.lt 0=true→p.fB m=p
 | .agg cs,h=>by simp only[PV.lt] at h;simp only[PV.fB,oA m cs h]
 | .eZ cs,h=>by simp only[PV.lt] at h;simp only[PV.fB,oA m cs h]
 | .fn f cs,h=>by simp only[PV.lt] at h;simp only[PV.fB,oA m cs h]
 | .any,_=>rfl
 | .undef,_=>rfl
 | .aK,_=>rfl
 | .d _,_=>rfl
 | .cf _ _ _,_=>rfl
 | .ptr _ _,h=>by simp[PV.lt] at h
 | .acc _,h=>by simp[PV.lt] at h
 | .cC _ _ _ _,h=>by simp[PV.lt] at h
theorem oA(m:List Nat):∀(ps:List PV),mi 0 ps=true→jN m ps=ps
 | [],_=>rfl
 | p::ps,h=>by
   simp only[mi,Bool.and_eq_true] at h
   simp only[jN,Jh m p h.1,oA m ps h.2]
end
theorem MI(n:Nat):∀(cs:List D),mi n (bn cs)=true
 | []=>rfl
 | c::cs=>by
   have:=MI n cs
   simp only[bn,List.map_cons,mi,Bool.and_eq_true] at this⊢
   exact⟨rfl,this⟩
section
variable{E:Env}{g:G}{d:Nat}{ty:TypeId}{pos:String}{aft:Array Edge}{gd:Option (Nat×Bool)}
theorem MP(fop:Operand)(xs:List Operand)(tys:Array TypeId)(f:FuncId)(cap:List PV)(hfn:g.ev fop= .fn f cap)(cargs:List PV)(res:PV)(hC:C E.P f cargs [] (aO res []))(hargs:yE (xs.map g.ev++cap) cargs)(hlt:mi 0 cargs=true)(hres:res.lt 0=true) :
 dX E.P ⟨some d,.call ⟨.value fop,⟨xs⟩,tys⟩,ty,pos,aft,gd⟩ g ⟨ba fop++xs.flatMap ba,[]⟩ ⟨some (d,res),[]⟩:=by
 have h:=I9 (E:=E) (g:=g) (d:=d) (ty:=ty) (pos:=pos) (aft:=aft) (gd:=gd) fop xs tys f cap hfn [] cargs [] [] res hC (by rw[oA _ _ hlt];exact hargs) hlt (by simp) (by simp) trivial trivial (by simp) (by simp)
 rw[Jh _ _ hres] at h
 exact h
end
def iv(n:Int):PV:=.d (.val (.int .i64 n))
def bv(b:Bool):PV:=.d (.val (.bool b))
def sv(s:List UInt8):PV:=.d (.str s)
def lv(xs:List (List D)):PV:=.d (.bx xs)
attribute [go_sem] iv bv sv lv PV.fB jN eG look PV.lt mi Option.map_none Option.map_some Option.toList_none Option.toList_some
end Go.Eng
namespace Go.Eng
open Go.RowKit
section
variable{E:Env}{n0:Nat}{g:G}{c:Code}{Q:Ex→G→Prop}
def u9{A:Type}(P:Program)(n0:Nat)(I:A→Prop)(T:A→G)(μ:A→Nat)(a:A)(Q:Ex→G→Prop):Ex→G→Prop
 | .normal,g=>∃a',I a'∧μ a' < μ a∧jS P n0 g (T a')
 | .exit id,g=>Q (.exit id) g
 | .ret,g=>Q .ret g
def ve{A B:Type}(P:Program)(n0:Nat)(I:A→B→Prop)(T:A→B→G)(μ:A→B→Nat)(a:A)(b:B)(Q:Ex→G→Prop):Ex→G→Prop
 | .normal,g=>∃a' b',I a' b'∧μ a' b' < μ a b∧jS P n0 g (T a' b')
 | .exit id,g=>Q (.exit id) g
 | .ret,g=>Q .ret g
def Cv{A B C:Type}(P:Program)(n0:Nat)(I:A→B→C→Prop)(T:A→B→C→G)(μ:A→B→C→Nat)(a:A)(b:B)(c:C)(Q:Ex→G→Prop):Ex→G→Prop
 | .normal,g=>∃a' b' c',I a' b' c'∧μ a' b' c' < μ a b c∧jS P n0 g (T a' b' c')
 | .exit id,g=>Q (.exit id) g
 | .ret,g=>Q .ret g
theorem au(hm:E.P.follows .mixedOrders=true){A:Type}(I:A→Prop)(T:A→G)(μ:A→Nat)(a0:A)(hi:I a0)(h0:jS E.P n0 g (T a0))
 (round:∀a,I a→DJ E n0 c .on (T a) (fun _=>u9 E.P n0 I T μ a Q)):W E.P n0 (.loop c) g Q:=by
 refine Rh (α:={a // I a}) (fun x=>T x.1) (fun x=>μ x.1) ⟨a0,hi⟩ h0 ?_
 rintro⟨a,ha⟩
 have h:=Hu hm c _ _ (round a ha)
 have e:(u9 E.P n0 I T μ a Q)=(I2 E.P n0 (fun x:{a // I a}=>T x.1) (fun x=>μ x.1) ⟨a,ha⟩ Q):=by
  funext e g'
  cases e with
  | normal=>
    simp only[u9,I2]
    apply propext
    exact⟨fun⟨a',h1,h2,h3⟩=>⟨⟨a',h1⟩,h2,h3⟩,fun⟨⟨a',h1⟩,h2,h3⟩=>⟨a',h1,h2,h3⟩⟩
  | exit id=>rfl
  | ret=>rfl
 rw[←e]
 exact h
theorem bQ(hm:E.P.follows .mixedOrders=true){A B:Type}(I:A→B→Prop)(T:A→B→G)(μ:A→B→Nat)(a0:A)(b0:B)(hi:I a0 b0)(h0:jS E.P n0 g (T a0 b0))
 (round:∀a b,I a b→DJ E n0 c .on (T a b) (fun _=>ve E.P n0 I T μ a b Q)):W E.P n0 (.loop c) g Q:=by
 refine au hm (A:=A×B) (fun x=>I x.1 x.2) (fun x=>T x.1 x.2) (fun x=>μ x.1 x.2) (a0,b0) hi h0 ?_
 rintro⟨a,b⟩ h
 have h:=round a b h
 have e:(ve E.P n0 I T μ a b Q)=(u9 E.P n0 (fun x:A×B=>I x.1 x.2) (fun x=>T x.1 x.2) (fun x=>μ x.1 x.2) (a,b) Q):=by
  funext e g'
  cases e with
  | normal=>
    simp only[u9,ve]
    apply propext
    exact⟨fun⟨a',b',h1,h2,h3⟩=>⟨(a',b'),h1,h2,h3⟩,fun⟨(a',b'),h1,h2,h3⟩=>⟨a',b',h1,h2,h3⟩⟩
  | exit id=>rfl
  | ret=>rfl
 rw[e] at h
 exact h
theorem ie(hm:E.P.follows .mixedOrders=true){A B D:Type}(I:A→B→D→Prop)(T:A→B→D→G)(μ:A→B→D→Nat)(a0:A)(b0:B)(d0:D)(hi:I a0 b0 d0)(h0:jS E.P n0 g (T a0 b0 d0))
 (round:∀a b d,I a b d→DJ E n0 c .on (T a b d) (fun _=>Cv E.P n0 I T μ a b d Q)):W E.P n0 (.loop c) g Q:=by
 refine bQ hm (A:=A) (B:=B×D) (fun a x=>I a x.1 x.2) (fun a x=>T a x.1 x.2) (fun a x=>μ a x.1 x.2) a0 (b0,d0) hi h0 ?_
 rintro a ⟨b,d⟩ h
 have h:=round a b d h
 have e:(Cv E.P n0 I T μ a b d Q)=(ve E.P n0 (fun a (x:B×D)=>I a x.1 x.2) (fun a x=>T a x.1 x.2) (fun a x=>μ a x.1 x.2) a (b,d) Q):=by
  funext e g'
  cases e with
  | normal=>
    simp only[Cv,ve]
    apply propext
    exact⟨fun⟨a',b',d',h1,h2,h3⟩=>⟨a',(b',d'),h1,h2,h3⟩,fun⟨a',(b',d'),h1,h2,h3⟩=>⟨a',b',d',h1,h2,h3⟩⟩
  | exit id=>rfl
  | ret=>rfl
 rw[e] at h
 exact h
end
theorem j6{α:Type}{l:List α}{i:Nat}(h:i<l.length)(d:α):l.getD i d=l[i]:=by simp[List.getD,List.getElem?_eq_getElem h]
mutual
theorem QT{g:G}{m:List (Option Nat)}:∀{p:PV},p.lt 0=true→wk g m p p
 | .agg cs,h=>by simp only[PV.lt] at h;simp only[wk];exact aa h
 | .eZ cs,h=>by simp only[PV.lt] at h;simp only[wk];exact aa h
 | .fn f cs,h=>by simp only[PV.lt] at h;simp only[wk,true_and];exact aa h
 | .any,_=>by simp only[wk]
 | .undef,_=>by simp only[wk]
 | .aK,_=>by simp only[wk]
 | .d _,_=>by simp only[wk]
 | .cf _ _ _,_=>by simp only[wk,and_self]
 | .ptr _ _,h=>by simp[PV.lt] at h
 | .acc _,h=>by simp[PV.lt] at h
 | .cC _ _ _ _,h=>by simp[PV.lt] at h
theorem aa{g:G}{m:List (Option Nat)}:∀{ps:List PV},mi 0 ps=true→sg g m ps ps
 | [],_=>by simp only[sg]
 | p::ps,h=>by
   simp only[mi,Bool.and_eq_true] at h
   simp only[sg]
   exact⟨QT h.1,aa h.2⟩
end
theorem OJ(a b:Int):(a != b)= !decide (a=b):=by
 by_cases h:a=b<;>simp[h]
theorem Pk(a b:Int):(a == b)=decide (a=b):=by
 by_cases h:a=b<;>simp[h]
theorem Oi(a b:List UInt8):(a == b)=decide (a=b):=by
 by_cases h:a=b<;>simp[h]
theorem M8(x:List D)(xs:List (List D)):row (x::xs) 0=x:=rfl
attribute [go_sem] M8
theorem Po(e0:En)(Q:En→Prop):(∃e,some e0=some e∧Q e)=Q e0:=by
 apply propext
 constructor
 ·rintro⟨e,h,hq⟩
  cases h
  exact hq
 ·intro hq
  exact⟨_,rfl,hq⟩
theorem EP(n:Nat):((no_index (OfNat.ofNat n):Nat):Int)=OfNat.ofNat n:=rfl
theorem Nh(e0:En):(∃e,some e0=some e)=True:=eq_true ⟨_,rfl⟩
theorem Ph(xs ys:List (List D)):(D.bx xs=D.bx ys)=(xs=ys):=by simp
attribute [go_sem] List.mem_cons List.not_mem_nil or_false forall_eq List.length_take List.length_map
attribute [go_sem] Int.natCast_add Int.natCast_one Int.natCast_zero EP Nh ite_true ite_false Po Ph List.take_zero eq_self
attribute [go_sem] OJ Pk Oi
attribute [go_sem] List.cons_append List.nil_append List.append_nil
theorem NM(ps:List PV):yE ps ps=True:=eq_true (CE ps)
attribute [go_sem] cv yE NM
theorem cL{m:Option (List Ky)}{gs:Option Nat}{d:Nat}{ty:TypeId}{pos:String}{aft:Array Edge}{gd:Option (Nat×Bool)}{E:Env}{g:G}{rest:jZ→Option (List Ky)→G→Prop}{fop:Operand}{xs:List Operand}{tys:Array TypeId}{f:FuncId}(cap:List PV){cargs:List PV}{res:PV}
 (hC:C E.P f cargs [] (aO res [])) (h:g.ev fop= .fn f cap∧yE (JZ g xs++cap) cargs∧mi 0 cargs=true∧res.lt 0=true)
 (hr:rest .on (gl m (hY (n6 gs ⟨ba fop++uQ xs,[]⟩) ⟨some (d,res),[]⟩)) (g.app ⟨some (d,res),[]⟩)):mj E m gs ⟨some d,.call ⟨.value fop,⟨xs⟩,tys⟩,ty,pos,aft,gd⟩ g rest:=by
 rw[p8] at hr
 rw[uJ] at h
 exact bU (MP fop xs tys f cap h.1 cargs res hC h.2.1 h.2.2.1 h.2.2.2) hr
theorem bK{m:Option (List Ky)}{gs:Option Nat}{d:Nat}{ty:TypeId}{pos:String}{aft:Array Edge}{gd:Option (Nat×Bool)}{E:Env}{g:G}{rest:jZ→Option (List Ky)→G→Prop}{fop:Operand}{xs:List Operand}{tys:Array TypeId}{f:FuncId}(cap:List PV)(ks:List Nat){cargs:List PV}{res:PV}
 (hC:C E.P f cargs [] (aO res [])) (h1:g.ev fop= .fn f cap) (h2:lR g ks (JZ g xs++cap) cargs) (h3:sc res=true)
 (hr:rest .on (gl m (hY (n6 gs ⟨ba fop++uQ xs,ks⟩) ⟨some (d,res),[]⟩)) (g.app ⟨some (d,res),[]⟩)):mj E m gs ⟨some d,.call ⟨.value fop,⟨xs⟩,tys⟩,ty,pos,aft,gd⟩ g rest:=by
 rw[p8] at hr
 rw[uJ] at h2
 exact bU (NX fop xs tys f cap h1 ks cargs res hC h2 h3) hr
def Ma(k:Nat):List Nat→Bool
 | []=>false
 | j::js=>Al k j||Ma k js
theorem zB:∀(k:Nat),Al k k=true
 | 0=>rfl
 | k+1=>zB k
theorem Iq{k:Nat}:∀{m:List Nat},k∈m→Ma k m=true
 | [],h=>by simp at h
 | j::js,h=>by
   simp only[Ma,Bool.or_eq_true]
   rcases List.mem_cons.1 h with rfl|h
   ·exact .inl (zB _)
   ·exact .inr (Iq h)
def FQ:List Nat→Bool
 | []=>true
 | k::ks=>!Ma k ks&&FQ ks
theorem DI:∀{m:List Nat},FQ m=true→m.Nodup
 | [],_=>by simp
 | k::ks,h=>by
   simp only[FQ,Bool.and_eq_true,Bool.not_eq_true'] at h
   refine List.nodup_cons.2 ⟨fun hk=>?_,DI h.2⟩
   rw[Iq hk] at h
   cases h.1
def yr:List Nat→Nat
 | []=>0
 | _::as=>yr as+1
theorem xJ:∀(l:List Nat),yr l=l.length
 | []=>rfl
 | _::as=>by simp[yr,xJ as]
theorem cz{m:Option (List Ky)}{gs:Option Nat}{d:Nat}{ty:TypeId}{pos:String}{aft:Array Edge}{gd:Option (Nat×Bool)}{E:Env}{g:G}{rest:jZ→Option (List Ky)→G→Prop}{fop:Operand}{xs:List Operand}{tys:Array TypeId}{f:FuncId}(cap:List PV)(M:List Nat){cargs:List PV}{cst st':List (Option En)}{res:PV}
 (hC:C E.P f cargs cst (aO res st')) (h:g.ev fop= .fn f cap∧yE (JZ g xs++cap) (jN M cargs)∧mi (ff cst) cargs=true∧FQ M=true∧qc (ff cst) (yr M)=true∧qc (ff cst) (ff st')=true∧qc (ff st') (yr M)=true∧gZ g M (ff cst) M cst∧cZ g (ff cst) M)
 (hr:rest .on (gl m (hY (n6 gs ⟨ba fop++uQ xs,M⟩) ⟨some (d,res.fB M),eG M M st'⟩)) (g.app ⟨some (d,res.fB M),eG M M st'⟩)):mj E m gs ⟨some d,.call ⟨.value fop,⟨xs⟩,tys⟩,ty,pos,aft,gd⟩ g rest:=by
 rw[p8] at hr
 rw[uJ] at h
 obtain⟨h1,h2,h3,h4,h5,h6,h7,h8,h9⟩:=h
 have h5:=eK h5
 have h6:=eK h6
 have h7:=eK h7
 rw[gF,xJ] at h5
 rw[gF,gF] at h6
 rw[gF,xJ] at h7
 rw[gF] at h3 h8 h9
 exact bU (I9 fop xs tys f cap h1 M cargs cst st' res hC h2 h3 (DI h4) h5 h8 h9 h6 h7) hr
theorem SZ{E:Env}{rs:List ResultVar}{n0:Nat}{g:G}{ps:List PV}{q:PV}{st':List (Option En)}(m:List (Option Nat))(h1:rJ E g rs=some ps)(h2:sg ⟨[eJ ps],g.st⟩ m [eJ ps] [q]∧fD ⟨[eJ ps],g.st⟩ m m st')(h3:vo m st'=true)(h4:keeps n0 0 m=true):rE E rs n0 (aO q st') g:=
 ⟨ps,m,q,st',h1,⟨h2.1,h2.2,h3,h4⟩,rfl,rfl⟩
theorem ab{E:Env}{rs:List ResultVar}{g:G}{q:PV}(h:(rJ E g rs).elim False fun ps=>wk ⟨[eJ ps],g.st⟩ [] (eJ ps) q):rE E rs 0 (aO q []) g:=by
 cases hps:rJ E g rs with
 | none=>rw[hps] at h;exact h.elim
 | some ps=>rw[hps] at h;exact SN hps h
theorem aG{E:Env}{rs:List ResultVar}{n0:Nat}{g:G}{q:PV}{st':List (Option En)}(m:List (Option Nat))(h:(rJ E g rs).elim False fun ps=>sg ⟨[eJ ps],g.st⟩ m [eJ ps] [q]∧fD ⟨[eJ ps],g.st⟩ m m st')(h3:vo m st'=true)(h4:keeps n0 0 m=true):rE E rs n0 (aO q st') g:=by
 cases hps:rJ E g rs with
 | none=>rw[hps] at h;exact h.elim
 | some ps=>rw[hps] at h;exact SZ m hps h h3 h4
attribute [go_sem] Option.elim_some
attribute [go_sem] FQ yr Ma gZ cZ En.fB En.lt En.live Bool.not_true Bool.not_false Bool.or_true Bool.true_or Bool.or_false Bool.false_or Bool.false_and Bool.and_false
attribute [go_sem] sc Rx
attribute [go_sem] u9 ve Cv Jz and_true true_and and_self Int.natCast_nonneg Int.le_refl Int.toNat_zero Nat.zero_lt_succ Nat.zero_add Nat.add_zero Nat.le_refl Int.toNat_natCast Int.ofNat_lt Int.ofNat_le Int.ofNat_inj decide_true decide_false Bool.not_true Bool.not_false List.length_cons List.length_nil gt_iff_lt ge_iff_le
attribute [go_sem] Bool.true_and Bool.and_true Bool.and_self beq_self_eq_true
end Go.Eng
namespace Go.Eng
open Go.RowKit
theorem dk(ν:Nat→Nm)(b:Nat):¬Own ν (aV []) b:=by
 rintro⟨k,e,h,_⟩
 cases k<;>simp[aV] at h
section
variable{P:Program}{X:Cx}{vs:List Value}{e:TypeId}{xs:List (List D)}{rest:List PV}
theorem Ko(hr:mi 0 rest=true)(hs:Sat P X X.ν0 ⟨.acc 0::rest,[some (.acc e xs)]⟩ ⟨⟨vs⟩,[]⟩ X.w0) :
 Sat P ⟨X.w0,Own X.ν0 (aV []),X.ν0,aV [],X.Z⟩ X.ν0 ⟨.d (.bx xs)::rest,[]⟩ ⟨⟨vs⟩,[]⟩ X.w0:=by
 have hw:∀b,aN X X.ν0 (G.at ⟨.acc 0::rest,[some (.acc e xs)]⟩) b→b<X.w0.heap.size→aN ⟨X.w0,Own X.ν0 (aV []),X.ν0,aV [],X.Z⟩ X.ν0 (G.at ⟨.d (.bx xs)::rest,[]⟩) b∧X.w0.heap[b]?=X.w0.heap[b]?:=fun b hb _=>⟨⟨dk _ b,hb.2⟩,rfl⟩
 have hat:∀k,G.at ⟨.d (.bx xs)::rest,[]⟩ k=none:=fun _=>rfl
 refine⟨hs.size,fun t=>?_,fun k e h=>?_,fun k k' e e' b h=>?_,fun b hb=>?_,fun k h=>?_,fun k h=>?_,⟨fun b hb=>?_,hs.kt rfl fun b hb=>(dk _ b hb).elim⟩,kG.refl _ _,rfl⟩
 ·cases t with
  | zero=>
    have h:=hs.sl 0
    simp only[nth,af] at h⊢
    rw[h.2]
    obtain⟨us,h1,h2,h3,_⟩:=hs.en 0 (.acc e xs) rfl
    exact pr h1 h2 h3 (fun b hb=>⟨dk _ b,hs.C5 ⟨0,_,rfl,rfl,.inl hb⟩⟩) hw
  | succ t=>
    have h:=hs.sl (t+1)
    simp only[nth] at h⊢
    have hl:∀(ps:List PV)(t:Nat),mi 0 ps=true→(nth ps t).lt 0=true:=by
     intro ps
     induction ps with
     | nil=>intro t _;rfl
     | cons p ps ih=>
       intro t h
       simp only[mi,Bool.and_eq_true] at h
       cases t with
       | zero=>exact h.1
       | succ t=>exact ih t h.2
    exact af.GS hw _ _ (hl rest t hr) h
 ·rw[hat] at h;cases h
 ·rw[hat] at h;cases h
 ·exact(dk _ b hb).elim
 ·rw[hat] at h;cases h
 ·cases k<;>simp[aV] at h
 ·exact⟨(hs.xy b hb).1,dk _ b⟩
theorem MT{f:FuncId}{e':TypeId}{ys:List (List D)}(hr:mi 0 rest=true)(hC:C P f (.d (.bx xs)::rest) [] (aO (.acc 0) [some (.acc e' ys)])):C P f (.acc 0::rest) [some (.acc e xs)] (aO (.acc 1) [some .dead,some (.acc e' ys)]):=by
 refine⟨hC.1,fun X vs hst hO hs=>?_⟩
 refine(hC.2 _ vs rfl rfl (Ko hr hs)).mono ?_
 rintro ex w' ⟨v,_,_,ν',rfl,⟨rfl,rfl⟩,hsat⟩
 refine⟨v,_,_,fun|0=>X.ν0 0|k+1=>ν' k,rfl,⟨rfl,rfl⟩,?_⟩
 have hat:∀k e,G.at ⟨[.acc 1],[some .dead,some (.acc e' ys)]⟩ k=some e→e.live=true→k=1∧e= .acc e' ys:=by
  intro k e h hl
  match k,h with
  | 0,h=>
    obtain rfl:En.dead=e:=by simpa[G.at,aV] using h
    cases hl
  | 1,h=>exact⟨rfl,by simpa[G.at,aV] using h.symm⟩
  | k+2,h=>simp[G.at,aV] at h
 have hown:∀b,Own (fun|0=>X.ν0 0|k+1=>ν' k) (G.at ⟨[.acc 1],[some .dead,some (.acc e' ys)]⟩) b↔Own ν' (G.at ⟨[.acc 0],[some (.acc e' ys)]⟩) b:=by
  intro b
  constructor
  ·rintro⟨k,e,h,hl,hb⟩
   obtain⟨rfl,rfl⟩:=hat k e h hl
   exact⟨0,_,rfl,rfl,hb⟩
  ·rintro⟨k,e,h,hl,hb⟩
   match k,h with
   | 0,h=>
     obtain rfl:En.acc e' ys=e:=by simpa[G.at,aV] using h
     exact⟨1,_,rfl,rfl,hb⟩
   | k+1,h=>simp[G.at,aV] at h
 have hw:∀b,aN (⟨X.w0,Own X.ν0 (aV []),X.ν0,aV [],X.Z⟩:Cx) ν' (G.at ⟨[.acc 0],[some (.acc e' ys)]⟩) b→b<w'.heap.size→aN X (fun|0=>X.ν0 0|k+1=>ν' k) (G.at ⟨[.acc 1],[some .dead,some (.acc e' ys)]⟩) b∧w'.heap[b]?=w'.heap[b]?:=fun b hb _=>⟨⟨fun h=>hb.1 ((hown b).1 h),hb.2⟩,rfl⟩
 refine⟨rfl,fun t=>?_,fun k e h=>?_,fun k k' e e2 b h1 h2 hl hl2 _ _=>?_,fun b hb=>?_,fun k h=>?_,fun k h=>?_,hs.xy,hsat.r3.mono fun b hb _=>(dk _ b hb).elim,rfl⟩
 ·cases t with
  | zero=>
    have h:=hsat.sl 0
    simp only[nth,af] at h⊢
    exact⟨rfl,h.2⟩
  | succ t=>exact trivial
 ·match k,h with
  | 0,h=>
    obtain rfl:En.dead=e:=by simpa[G.at,aV] using h
    exact trivial
  | 1,h=>
    obtain rfl:En.acc e' ys=e:=by simpa[G.at,aV] using h
    obtain⟨us,h1,h2,h3⟩:=hsat.en 0 _ rfl
    exact⟨us,h1,h2.frame hw (Nat.le_refl _),h3⟩
  | k+2,h=>simp[G.at,aV] at h
 ·rw[(hat k e h1 hl).1,(hat k' e2 h2 hl2).1]
 ·rcases hsat.base b ((hown b).1 hb) with h|h
  ·exact(dk _ b h).elim
  ·exact .inr h
 ·match k,h with
  | 0,_=>exact hs.nu 0 rfl
  | 1,_=>exact hsat.nu 0 rfl
  | k+2,h=>simp[G.at,aV] at h
 ·rw[hst] at h
  match k,h with
  | 0,_=>exact⟨rfl,rfl⟩
  | k+1,h=>simp[aV] at h
end
end Go.Eng
namespace Go.Eng
open Go.RowKit
def r9(M:List Nat):List Nat→Nat
 | []=>0
 | j::js=>Nat.lor (Nat.lor (Nat.pow 2 j) (M.getD j 0)) (r9 M js)
def OT:List Oper→List Nat→List Nat
 | [],M=>M
 | o::os,M=>OT os (M++[r9 M (fb o)])
def Kp(b k:Nat):Bool:=Nat.beq (Nat.land (Nat.shiftRight b k) 1) 1
def xG(b:Nat)(y:Ky):Nat→List Ky→Bool
 | _,[]=>true
 | j,x::xs=>(Kp b j|| !(x.qQ y))&&xG b y (j+1) xs
def xj(M:List Nat):Nat→List Ky→List Ky→Bool
 | _,_,[]=>true
 | i,pre,y::ys=>xG (M.getD i 0) y 0 pre&&xj M (i+1) (pre++[y]) ys
def GN(os:List Oper)(L:List Ky):Bool:=Mj 0 os&&xj (OT os []) 0 [] L
theorem xq(b k:Nat):Kp b k=b.testBit k:=by
 simp only[Kp,Nat.testBit]
 have h:Nat.land (Nat.shiftRight b k) 1=(b >>> k) &&& 1:=rfl
 rw[h,Nat.and_comm 1 (b >>> k),Nat.and_one_is_mod]
 rcases Nat.mod_two_eq_zero_or_one (b >>> k) with h2|h2<;>rw[h2]<;>rfl
def SG(T:List (List Nat))(M:List Nat):Prop:=T.length=M.length∧∀j k,pn k (T.getD j [])=Kp (M.getD j 0) k
theorem EY{a b:Bool}(h:a=true↔b=true):a=b:=by
 cases a<;>cases b<;>simp_all
theorem JB(k j:Nat)(l:List Nat):pn k (j::l)=(decide (j=k)||pn k l):=by
 apply EY
 simp only[jJ,List.mem_cons,Bool.or_eq_true,decide_eq_true_eq]
 exact⟨fun h=>h.imp Eq.symm id,fun h=>h.imp Eq.symm id⟩
theorem Ms(k:Nat)(l l':List Nat):pn k (l++l')=(pn k l||pn k l'):=by
 apply EY
 simp only[jJ,List.mem_append,Bool.or_eq_true]
theorem yv{T:List (List Nat)}{M:List Nat}(h:SG T M)(k:Nat):∀(js:List Nat),pn k (nd T js)=Kp (r9 M js) k
 | []=>by
   simp only[nd,r9,xq,Nat.zero_testBit]
   rfl
 | j::js=>by
   have e:Nat.lor (Nat.lor (Nat.pow 2 j) (M.getD j 0)) (r9 M js)=(2 ^ j ||| M.getD j 0) ||| r9 M js:=rfl
   simp only[nd,r9,e,JB,Ms,yv h k js,h.2 j k]
   simp only[xq,Nat.testBit_or,Nat.testBit_two_pow,Bool.or_assoc]
theorem EK:∀(os:List Oper){T:List (List Nat)}{M:List Nat},SG T M→SG (s9 os T) (OT os M)
 | [],_,_,h=>h
 | o::os,T,M,h=>by
   simp only[s9,OT]
   refine EK os ⟨by simp[h.1],fun j k=>?_⟩
   rcases Nat.lt_trichotomy j T.length with hj|hj|hj
   ·have hj':j<M.length:=by rw[←h.1];exact hj
    have:=h.2 j k
    rw[List.getD_eq_getElem?_getD,List.getD_eq_getElem?_getD] at this⊢
    rwa [List.getElem?_append_left hj,List.getElem?_append_left hj']
   ·subst hj
    have hM:M.length≤T.length:=by rw[h.1];exact Nat.le_refl _
    rw[List.getD_eq_getElem?_getD,List.getD_eq_getElem?_getD,List.getElem?_append_right (Nat.le_refl _),List.getElem?_append_right hM,←h.1]
    simp only[Nat.sub_self,List.getElem?_cons_zero,Option.getD_some]
    exact yv h k _
   ·have hj':M.length<j:=by rw[←h.1];exact hj
    rw[List.getD_eq_getElem?_getD,List.getD_eq_getElem?_getD,List.getElem?_eq_none (by simp;omega),List.getElem?_eq_none (by simp;omega)]
    simp only[Option.getD_none,xq,Nat.zero_testBit]
    rfl
theorem xT{b:List Nat}{c:Nat}(h:∀k,pn k b=Kp c k)(y:Ky):∀(j:Nat)(l:List Ky),xG c y j l=uu b y j l
 | _,[]=>rfl
 | j,x::xs=>by simp only[xG,uu,h,xT h y (j+1) xs]
theorem zx{T:List (List Nat)}{M:List Nat}(h:SG T M):∀(i:Nat)(pre l:List Ky),xj M i pre l=uA T i pre l
 | _,_,[]=>rfl
 | i,pre,y::ys=>by simp only[xj,uA,xT (h.2 i),zx h (i+1)]
theorem AN{os:List Oper}{L:List Ky}(h:GN os L=true):indep os L=true:=by
 simp only[GN,Bool.and_eq_true] at h
 simp only[indep,Bool.and_eq_true]
 refine⟨h.1,?_⟩
 rw[←zx (EK os (T:=[]) (M:=[]) ⟨rfl,fun j k=>?_⟩)]
 ·exact h.2
 ·simp only[List.getD_nil,xq,Nat.zero_testBit]
  rfl
end Go.Eng
namespace Go.Eng
open Go.RowKit
theorem lR.nth{g:G}{ks:List Nat}:∀{ps qs:List PV},lR g ks ps qs→∀t,Vw g ks (nth ps t) (nth qs t)
 | _,_,.nil,t=>by cases t<;>exact .same rfl
 | _,_,.cons h _,0=>h
 | _,_,.cons _ h',t+1=>lR.nth h' t
theorem lR.len{g:G}{ks:List Nat}:∀{ps qs:List PV},lR g ks ps qs→qs.length=ps.length
 | _,_,.nil=>rfl
 | _,_,.cons _ h'=>by simp only[List.length_cons,lR.len h']
section
variable{P:Program}{X:Cx}{vs:List Value}{e:TypeId}{xs:List (List D)}
theorem G5{args args':List PV}(hv:lR ⟨args,[some (.acc e xs)]⟩ [0] args args')(hs:Sat P X X.ν0 ⟨args,[some (.acc e xs)]⟩ ⟨⟨vs⟩,[]⟩ X.w0) :
 Sat P ⟨X.w0,Own X.ν0 (aV []),X.ν0,aV [],X.Z⟩ X.ν0 ⟨args',[]⟩ ⟨⟨vs⟩,[]⟩ X.w0:=by
 have hw:∀b,aN X X.ν0 (G.at ⟨args,[some (.acc e xs)]⟩) b→b<X.w0.heap.size→aN ⟨X.w0,Own X.ν0 (aV []),X.ν0,aV [],X.Z⟩ X.ν0 (G.at ⟨args',[]⟩) b∧X.w0.heap[b]?=X.w0.heap[b]?:=fun b hb _=>⟨⟨dk _ b,hb.2⟩,rfl⟩
 have hown:∀b,Own X.ν0 (G.at ⟨args,[some (.acc e xs)]⟩) b→aN ⟨X.w0,Own X.ν0 (aV []),X.ν0,aV [],X.Z⟩ X.ν0 (G.at ⟨args',[]⟩) b:=fun b hb=>⟨dk _ b,hs.C5 hb⟩
 have hat:∀k,G.at ⟨args',[]⟩ k=none:=fun _=>rfl
 refine⟨hs.size.trans hv.len.symm,fun t=>af.vw hs hw hown _ (hv.nth t) (hs.sl t),fun k e h=>?_,fun k k' e e' b h=>?_,fun b hb=>?_,fun k h=>?_,fun k h=>?_,⟨fun b hb=>?_,hs.kt rfl fun b hb=>(dk _ b hb).elim⟩,kG.refl _ _,rfl⟩
 ·rw[hat] at h;cases h
 ·rw[hat] at h;cases h
 ·exact(dk _ b hb).elim
 ·rw[hat] at h;cases h
 ·cases k<;>simp[aV] at h
 ·exact⟨(hs.xy b hb).1,dk _ b⟩
theorem KR{f:FuncId}{res:PV}{args args':List PV}(hv:lR ⟨args,[some (.acc e xs)]⟩ [0] args args')(hres:res.lt 0=true)(hC:C P f args' [] (aO res [])):C P f args [some (.acc e xs)] (aO res [some .dead]):=by
 refine⟨hC.1,fun X vs hst hO hs=>?_⟩
 refine(hC.2 _ vs rfl rfl (G5 hv hs)).mono ?_
 rintro ex w' ⟨v,r,s,ν',rfl,⟨e1,e2⟩,hsat⟩
 rw[e1,e2] at hsat
 refine⟨v,_,_,X.ν0,rfl,⟨rfl,rfl⟩,?_⟩
 have hno:∀b,¬Own X.ν0 (G.at ⟨[res],[some .dead]⟩) b:=by
  rintro b ⟨k,e,h,hl,_⟩
  match k,h with
  | 0,h=>
    obtain rfl:En.dead=e:=by simpa[G.at,aV] using h
    cases hl
  | k+1,h=>simp[G.at,aV] at h
 refine⟨rfl,fun t=>?_,fun k e h=>?_,fun k k' e e' b h1 h2 hl=>?_,fun b hb=>(hno b hb).elim,fun k h=>?_,fun k h=>?_,hs.xy,hsat.r3.mono fun b hb _=>(dk _ b hb).elim,rfl⟩
 ·cases t with
  | zero=>
    have h:=hsat.sl 0
    simp only[nth] at h⊢
    have hw:∀b,aN (⟨X.w0,Own X.ν0 (aV []),X.ν0,aV [],X.Z⟩:Cx) ν' (G.at ⟨[res],[]⟩) b→b<w'.heap.size→aN X X.ν0 (G.at ⟨[res],[some .dead]⟩) b∧w'.heap[b]?=w'.heap[b]?:=fun b hb _=>⟨⟨hno b,hb.2⟩,rfl⟩
    exact af.GS hw _ _ hres h
  | succ t=>exact trivial
 ·match k,h with
  | 0,h=>
    obtain rfl:En.dead=e:=by simpa[G.at,aV] using h
    exact trivial
  | k+1,h=>simp[G.at,aV] at h
 ·match k,h1 with
  | 0,h1=>
    obtain rfl:En.dead=e:=by simpa[G.at,aV] using h1
    cases hl
  | k+1,h1=>simp[G.at,aV] at h1
 ·match k,h with
  | 0,_=>exact hs.nu 0 rfl
  | k+1,h=>simp[G.at,aV] at h
 ·rw[hst] at h
  match k,h with
  | 0,_=>exact⟨rfl,rfl⟩
  | k+1,h=>simp[aV] at h
end
end Go.Eng
namespace Go.Eng
open Go.RowKit
section
variable{E:Env}{g:G}{d:Nat}{ty:TypeId}{pos:String}{aft:Array Edge}{gd:Option (Nat×Bool)}
theorem Cr{P:Program}(w:World)(n:Nat)(t e:TypeId)(a:Option Addr)(l c:Nat)(h:P.underlying t=some (.slice e)):(Op.equalIn (n+1) t (.slice a l c) (.slice none 0 0)).run P w= .ok a.isNone w:=by
 cases a<;>simp[Op.equalIn,run_underlying h]
theorem HY{P:Program}(w:World)(t e:TypeId)(a:Option Addr)(l c:Nat)(h:P.underlying t=some (.slice e)):(Op.equal t (.slice a l c) (.slice none 0 0)).run P w= .ok a.isNone w:=Cr w 9999 t e a l c h
theorem KS(x:Operand)(t e u:TypeId)(ti:TI)(b:Bool)(ht:E.ti t=some ti)(hty:ti.ty= .slice e)(hp:∀(w:World)(ok:Nat→Prop)(ν:Nat→Nm)(st:Nat→Option En)(v:Value),af w ok ν st (g.ev x) v→∃a n c,v= .slice a n c∧a.isNone=b) :
 dX E.P ⟨some d,.binOp .eql t x (.const (.slice none 0 0)) u,ty,pos,aft,gd⟩ g ⟨ba x,[]⟩ ⟨some (d,.d (.val (.bool b))),[]⟩:=by
 intro g2 hg
 have h1:=hg.ev (x:=x) (fun t h=>h)
 refine wO.val rfl fun X ν a w hs=>?_
 have hv:=hs.ev x
 rw[h1] at hv
 obtain⟨ad,n,c,hva,hb⟩:=hp _ _ _ _ _ hv
 have h:=(E.ok t ti ht).ty
 rw[hty] at h
 refine⟨.bool b,?_,iz rfl⟩
 have he:a.eval (.const (.slice none 0 0))= .slice none 0 0:=rfl
 simp[execOp,hva,he,eqGuard,binOp,HY w t e ad n c h,hb]
theorem BS:∀(w:World)(ok:Nat→Prop)(ν:Nat→Nm)(st:Nat→Option En)(v:Value),af w ok ν st .aK v→∃a n c,v= .slice a n c∧a.isNone=true:=by
 intro w ok ν st v h
 simp only[af] at h
 exact⟨_,_,_,h,rfl⟩
theorem Bl(ad:Addr)(n c:Nat):∀(w:World)(ok:Nat→Prop)(ν:Nat→Nm)(st:Nat→Option En)(v:Value),af w ok ν st (.d (.val (.slice (some ad) n c))) v→∃a n c,v= .slice a n c∧a.isNone=false:=by
 intro w ok ν st v h
 exact⟨_,_,_,bW h,rfl⟩
theorem BK{x:List D}{xs:List (List D)}:∀(w:World)(ok:Nat→Prop)(ν:Nat→Nm)(st:Nat→Option En)(v:Value),af w ok ν st (.d (.bx (x::xs))) v→∃a n c,v= .slice a n c∧a.isNone=false:=by
 intro w ok ν st v h
 simp only[af] at h
 cases h with
 | bx=>exact⟨_,_,_,rfl,rfl⟩
theorem Bq{m:Option (List Ky)}{gs:Option Nat}{rest:jZ→Option (List Ky)→G→Prop}{x:Operand}{t u:TypeId}(e:TypeId)(ti:TI)(b:Bool)(ht:E.ti t=some ti)(hty:ti.ty= .slice e){p:PV}(hx:g.ev x=p)(hp:∀(w:World)(ok:Nat→Prop)(ν:Nat→Nm)(st:Nat→Option En)(v:Value),af w ok ν st p v→∃a n c,v= .slice a n c∧a.isNone=b)
 (hr:rest .on (gl m (hY (n6 gs ⟨ba x,[]⟩) ⟨some (d,.d (.val (.bool b))),[]⟩)) (g.app ⟨some (d,.d (.val (.bool b))),[]⟩)):mj E m gs ⟨some d,.binOp .eql t x (.const (.slice none 0 0)) u,ty,pos,aft,gd⟩ g rest:=
 bU (KS x t e u ti b ht hty (by rw[hx];exact hp)) hr
end
theorem IA{P:Program}{f:FuncId}{R:PV→List (Option En)→Prop}(h1:C P f [.aK] [] R)(h2:∀a c,C P f [.d (.val (.slice (some a) 0 c))] [] R):C P f [.d (.bx [])] [] R:=by
 refine⟨h1.1,fun X vs hst hO hs=>?_⟩
 have hsz:=hs.size
 obtain⟨v,rfl⟩:=List.length_eq_one_iff.1 (show vs.length=1 by simpa using hsz)
 have h0:=hs.sl 0
 have h0:cM X.w0 (aN X X.ν0 (G.at ⟨[.d (.bx [])],[]⟩)) (.bx []) v:=h0
 have key:∀p:PV,af X.w0 (aN X X.ν0 (G.at ⟨[p],[]⟩)) X.ν0 (G.at ⟨[p],[]⟩) p v→Sat P X X.ν0 ⟨[p],[]⟩ ⟨⟨[v]⟩,[]⟩ X.w0:=fun p hp=>
  ⟨rfl,fun t=>by
   match t with
   | 0=>exact hp
   | t+1=>simp only[nth,af],hs.en,hs.inj,hs.base,hs.nu,hs.par,hs.xy,hs.r3,rfl⟩
 cases h0 with
 | nil=>exact h1.2 X _ hst hO (key .aK rfl)
 | emp a c h=>exact(h2 a c).2 X _ hst hO (key _ (iz rfl))
 | bx _ us b off cap sz hok hb hcap hmax hB hlu hxx hu hc hrr=>exact(h2 _ cap).2 X _ hst hO (key _ (iz rfl))
end Go.Eng
namespace Go.Eng
open Go.RowKit
theorem oE(z:Array Value)(hz:0<z.toList.length)(n:Nat):(Builtin.zeroCells z n).toList=(List.replicate n z.toList).flatten:=Bi z.toList hz n
theorem pb{P:Program}(w:World)(t e ty:TypeId)(ht:P.underlying t=some (.slice e))(a:Option Addr)(c:Nat):(Builtin.clear_ #[t] ty #[.slice a 0 c]).run P w= .ok (.tuple #[]) w:=by
 cases a<;>simp[Builtin.clear_,run_underlying ht]
theorem Ay{P:Program}(w:World)(t e ty:TypeId)(z:Value)(ht:P.underlying t=some (.slice e))(hv:(zeroValue e).run P w= .ok z w)(b o n c:Nat)(hn:n≠0)(hz:0<z.cells.toList.length)
 (cur:Array Value) (T:TypeId) (hg:w.heap[b]?=some (.cells cur T (0,0))) (hl:o+(List.replicate n z.cells.toList).flatten.length≤cur.size) (h1:∀v∈(List.replicate n z.cells.toList).flatten,v.oneCell'=true) :
 (Builtin.clear_ #[t] ty #[.slice (some ⟨b,o,none⟩) n c]).run P w= .ok (.tuple #[]) (w.setRow b (cur.toList.take o++(List.replicate n z.cells.toList).flatten++cur.toList.drop (o+(List.replicate n z.cells.toList).flatten.length)).toArray):=by
 have hst:=run_storeCells_at (P:=P) b o T (List.replicate n z.cells.toList).flatten 0 cur w hg (by omega) h1
 simp only[Nat.add_zero] at hst
 obtain⟨m,rfl⟩:∃m,n=m+1:=⟨n-1,by omega⟩
 rw[←oE z.cells hz] at hst⊢
 simp[Builtin.clear_,run_underlying ht,hv,hst]
section
variable{E:Env}{X:Cx}{ν:Nat→Nm}{g:G}{a:Act}{w:World}
def EM(z:List D)(xs:List (List D))(m:Nat):List (List D):=xs.take m++List.replicate (xs.length-m) z
theorem No{t e k m dd:Nat}{ty:TypeId}{pos:String}{aft:Array Edge}{gd:Option (Nat×Bool)}{xs:List (List D)}{z:List D}{ti ei:TI}(ht:E.ti t=some ti)(hty:ti.ty= .slice e)(he:E.ti e=some ei)(hz:rS ei.zero=some z)
 (hk:g.at k=some (.acc e xs)) (hm:m≤xs.length) (n c:Nat) (a0:Option Addr) (hν:(ν k).v= .slice a0 n c) (hv:a.eval (.tmp dd)=sliced a0 m n c ei.n)
 (hs:Sat E.P X ν g a w) (next:Act→World→Prop) (Q:Exit→Act→World→Prop) (hn:∀ν' a' w',Sat E.P X ν' ⟨g.sl,aX g.st k (some (.acc e (EM z xs m)))⟩ a' w'→next a' w') :
 (⟨none,.call ⟨.builtin .clear,#[.tmp dd],#[t]⟩,ty,pos,aft,gd⟩:Oper).wp E.P a w next Q:=by
 have hu:=(E.ok t ti ht).ty
 rw[hty] at hu
 obtain⟨i,zv,i1,i2,i3,i4,i5,i6⟩:=(E.ok e ei he).info
 have hpos:=(E.ok e ei he).pos
 have hzl:zv.cells.toList.length=ei.n:=by simpa using i6
 have hzv:(zeroValue e).run E.P w= .ok zv w:=by simp[zeroValue,typeInfo,i1,i4]
 obtain⟨us,ho,hrr,hB,hf0⟩:=hs.en k _ hk
 rw[(E.ok e ei he).cells] at hrr ho
 have hul:us.length=xs.length:=hrr.len
 have hfl:=hrr.ew
 have key:∀(w':World)(us':List (List Value)),(execOp a.eval ⟨none,.call ⟨.builtin .clear,#[.tmp dd],#[t]⟩,ty,pos,aft,gd⟩).run E.P w= .ok (.value (.tuple #[])) w'→kG (fun b=>(ν k).has b) w w' →
  (w'.ownsRow 0 e ei.n (ν k).v (EM z xs m).length us'.flatten)→aL w (aN X ν g.at) ei.n (EM z xs m) us' →
  (⟨none,.call ⟨.builtin .clear,#[.tmp dd],#[t]⟩,ty,pos,aft,gd⟩:Oper).wp E.P a w next Q:=by
  intro w' us' hr hchg hrow hrep
  unfold Oper.wp
  rw[hr,Oper.upon_value]
  refine hn _ _ _ (hs.uj k (.acc e xs) (.acc e (EM z xs m)) hk rfl hchg none .undef Go.undef ?_ (fun h=>by cases h))
  intro hwf _
  refine⟨us',?_,?_,by simp[EM];omega,hf0⟩
  ·rw[(E.ok e ei he).cells]
   exact hrow
  ·rw[(E.ok e ei he).cells]
   exact hrep.frame hwf hchg.size
 have hex:∀(v:Value)(w':World),(Builtin.clear_ #[t] ty #[a.eval (.tmp dd)]).run E.P w= .ok v w'→(execOp a.eval ⟨none,.call ⟨.builtin .clear,#[.tmp dd],#[t]⟩,ty,pos,aft,gd⟩).run E.P w= .ok (.value v) w':=by
  intro v w' h
  unfold execOp
  simp only[resolve,invoke,builtin,Sem.run_bind,Sem.run_pure,Result.andThen_ok,List.map_toArray,List.map_cons,List.map_nil,h]
 rcases ho.2 with⟨h1,h2⟩|⟨b,cap,cur,h1,_,h2,h4,h5,h6,h7⟩
 ·rw[h1] at hν
  obtain⟨rfl,rfl,rfl⟩:none=a0∧0=n∧0=c:=by simpa using hν
  have hm0:m=0:=by omega
  subst hm0
  have hxs:xs=[]:=List.eq_nil_of_length_eq_zero h2
  subst hxs
  refine key w us (hex _ _ ?_) (kG.refl _ w) ?_ ?_
  ·rw[hv]
   exact pb w t e ty hu _ _
  ·exact ho
  ·exact hrr
 ·rw[h1] at hν
  obtain⟨rfl,rfl,rfl⟩:some ⟨b,0,none⟩=a0∧xs.length=n∧cap=c:=by simpa using hν
  by_cases hlt:m=xs.length
  ·refine key w us (hex _ _ ?_) (kG.refl _ w) ?_ ?_
   ·rw[hv]
    unfold sliced
    rw[hlt,Nat.sub_self]
    exact pb w t e ty hu _ _
   ·simpa[EM,hlt] using ho
   ·simpa[EM,hlt] using hrr
  ·have hzr:ae w (aN X ν g.at) ν g.at (bn z) zv.cells.toList:=pR (mW _ _ _ _ zv.cells.toList) (by rw[i5];exact hz)
   obtain⟨hz1,hz2⟩:=sJ hzr
   have hrep0:aL w (aN X ν g.at) ei.n (List.replicate (xs.length-m) z) (List.replicate (xs.length-m) zv.cells.toList):=aL.replicate _ (by rw[←hz1];exact hzl) hzl hz2
   have hrep:aL w (aN X ν g.at) ei.n (EM z xs m) (us.take m++List.replicate (xs.length-m) zv.cells.toList):=by
    have:=hrr.cut 0 m
    simp only[List.drop_zero] at this
    exact this.append hrep0
   have hmul:m*ei.n≤xs.length*ei.n:=Nat.mul_le_mul_right _ hm
   have hZ:(List.replicate (xs.length-m) zv.cells.toList).flatten.length=(xs.length-m)*ei.n:=hrep0.ew.trans (by simp)
   have hsum:m*ei.n+(xs.length-m)*ei.n=xs.length*ei.n:=by rw[←Nat.add_mul];congr 1;omega
   have hcap:xs.length*ei.n≤cap*ei.n:=Nat.mul_le_mul_right _ h4
   have hrun:=Ay (P:=E.P) w t e ty zv hu hzv b (m*ei.n) (xs.length-m) (cap-m) (by omega) (by omega) cur e h2 (by rw[hZ,hsum,h6];exact hcap) hrep0.one
   have hval:a.eval (.tmp dd)= .slice (some ⟨b,m*ei.n,none⟩) (xs.length-m) (cap-m):=by
    rw[hv]
    unfold sliced
    rw[if_neg (by omega),Option.map_some,add_lit,Nat.zero_add]
   refine key _ _ (hex _ _ (by rw[hval];exact hrun)) (dW w b _ _ ((dS hf0).2 (by rw[h1];rfl))) ?_ hrep
   have htake:cur.toList.take (m*ei.n)=(us.take m).flatten:=by
    have:=kT us 0 m hrr.hu (by omega)
    simp only[List.drop_zero,Nat.zero_mul] at this
    rw[this,←h7,List.take_take,Nat.min_eq_left hmul]
   have hnew:cur.toList.take (m*ei.n)++(List.replicate (xs.length-m) zv.cells.toList).flatten=(us.take m++List.replicate (xs.length-m) zv.cells.toList).flatten:=by rw[htake,List.flatten_append]
   have hnl:(us.take m++List.replicate (xs.length-m) zv.cells.toList).flatten.length=(EM z xs m).length*ei.n:=hrep.ew
   have hcl:(EM z xs m).length=xs.length:=by simp[EM];omega
   rw[h1]
   refine⟨hnl,.inr ⟨b,cap,_,by rw[hcl],Nat.zero_le _,setRow_heap w b _ _ e _ h2,by rw[hcl];exact h4,h5,?_,?_⟩⟩
   ·rw[hnew]
    simp only[List.size_toArray,List.length_append,hnl,hcl,List.length_drop,Array.length_toList,h6,hZ,hsum]
    omega
   ·rw[hnew,hcl]
    simp only
    rw[List.take_append_of_le_length (by rw[hnl,hcl];exact Nat.le_refl _),List.take_of_length_le (by rw[hnl,hcl];exact Nat.le_refl _)]
end
theorem Lo(z:List D)(xs:List (List D))(m:Nat)(h:m≤xs.length):(EM z xs m).take m=xs.take m:=by
 have e:(xs.take m).length=m:=by simp;omega
 rw[EM,List.take_append_of_le_length (by omega),List.take_of_length_le (by omega)]
theorem Od(z:List D)(xs:List (List D))(m:Nat)(h:m≤xs.length):(EM z xs m).length=xs.length:=by simp[EM];omega
theorem Ru{P:Program}{ops:Array Oper}{o1 o2:Oper}{os:List Oper}{g g':G}{K:G→Prop}(hg1:o1.guard=none)(hg2:o2.guard=none)
 (h:∀(X:Cx)(ν:Nat→Nm)(a:Act)(w:World)(next next1:Act→World→Prop)(Q:Exit→Act→World→Prop),Sat P X ν g a w→(∀ν' a' w',Sat P X ν' g' a' w'→next a' w')→(∀a1 w1,o2.wp P a1 w1 next Q→next1 a1 w1)→o1.wp P a w next1 Q)
 (hr:WO P ops os g' K):WO P ops (o1::o2::os) g K:=by
 intro i hi X ν a w Q hs hn
 have ho1:ops[i]?=some o1:=hi 0 o1 rfl
 have ho2:ops[i+1]?=some o2:=hi 1 o2 rfl
 simp only[List.length_cons,List.range'_succ,wpOps,ho1]
 have hrest:=hr (i+2) (fun j o' hj=>by have:=hi (j+2) o' (by simpa using hj);rw[show i+2+j=i+(j+2) from by omega];exact this)
 rw[if_pos (by simp[Region.wanted,hg1])]
 refine .inl (h X ν a w (wpOps P ops Q (List.range' (i+2) os.length)) _ Q hs (fun ν' a' w' hs'=>hrest X ν' a' w' Q hs' hn) fun a1 w1 h2=>?_)
 simp only[ho2]
 rw[if_pos (by simp[Region.wanted,hg2])]
 exact .inl h2
section
variable{E:Env}{g:G}{n0:Nat}
theorem QV{ops:Array Oper}{os:List Oper}{K:G→Prop}{x lo:Operand}{t e k d:Nat}{m:Int}{ty ty2:TypeId}{pos pos2:String}{aft aft2:Array Edge}{xs:List (List D)}(z:List D)(ti ei:TI)(ht:E.ti t=some ti)(hty:ti.ty= .slice e)(he:E.ti e=some ei)(hz:rS ei.zero=some z)
 (hx:g.ev x= .acc k) (hlo:g.ev lo= .d (.val (.int .i64 m))) (hk:g.at k=some (.acc e xs)) (h0:0≤m) (hm:m≤xs.length) (hd:d<g.sl.length)
 (hr:WO E.P ops os ⟨fm g.sl d .any,aX g.st k (some (.acc e (EM z xs m.toNat)))⟩ K) :
 WO E.P ops (⟨some d,.slice t x (some lo) none none,ty,pos,aft,none⟩::⟨none,.call ⟨.builtin .clear,#[.tmp d],#[t]⟩,ty2,pos2,aft2,none⟩::os) g K:=by
 refine Ru rfl rfl (fun X ν a w next next1 Q hs hn h2=>?_) hr
 have hu:=(E.ok t ti ht).ty
 rw[hty] at hu
 have hv:=hs.ev x
 rw[hx] at hv
 have hv2:=hs.ev lo
 rw[hlo] at hv2
 have hv2:=bW hv2
 simp only[af] at hv
 have hsize:=(E.ok e ei he).size
 have hs1:=hs.put d (p:=.any) (v:=Go.undef) trivial
 obtain⟨us,ho,hrr,hB,hf0⟩:=hs.en k _ hk
 have hrun:∃n c a0,(ν k).v= .slice a0 n c∧(execOp a.eval ⟨some d,.slice t x (some lo) none none,ty,pos,aft,none⟩).run E.P w= .ok (.value (sliced a0 m.toNat n c ei.n)) w:=by
  rcases ho.2 with⟨h1,h2⟩|⟨b,cap,cur,h1,_,_,h4,_⟩
  ·refine⟨0,0,none,h1,?_⟩
   have hr:=lD (P:=E.P) w hu hsize none 0 0 (some (.int .i64 m)) none m ((0:Nat):Int) (.inr ⟨_,rfl⟩) (.inl ⟨rfl,rfl⟩) h0 (by omega) (Int.le_refl _) (Nat.le_refl _)
   simp only[execOp,hv.2,h1,hv2,Option.map_none,Option.map_some,Sem.run_bind,hr,Result.andThen_ok]
   rfl
  ·refine⟨xs.length,cap,some ⟨b,0,none⟩,h1,?_⟩
   have hr:=lD (P:=E.P) w hu hsize (some ⟨b,0,none⟩) xs.length cap (some (.int .i64 m)) none m (xs.length:Int) (.inr ⟨_,rfl⟩) (.inl ⟨rfl,rfl⟩) h0 (by omega) (Int.le_refl _) h4
   simp only[Int.toNat_natCast] at hr
   simp only[execOp,hv.2,h1,hv2,Option.map_none,Option.map_some,Sem.run_bind,hr,Result.andThen_ok]
   rfl
 obtain⟨n,c,a0,hν,hr⟩:=hrun
 unfold Oper.wp
 rw[hr,Oper.upon_value]
 refine h2 _ _ ?_
 have hs2:=hs.put d (p:=.any) (v:=sliced a0 m.toNat n c ei.n) trivial
 refine No (g:=⟨fm g.sl d .any,g.st⟩) ht hty he hz hk (by omega) n c a0 hν ?_ hs2 next Q hn
 show(a.put (some d) _).tmps.getD d Go.undef=_
 rw[lh,if_pos ⟨rfl,by rw[hs.size];exact hd⟩]
theorem Pz(x hi:Operand)(t e k:Nat){d:Nat}{ty:TypeId}{pos:String}{aft:Array Edge}{gd:Option (Nat×Bool)}(ti ei:TI)(xs:List (List D))(h:Int)(ht:E.ti t=some ti)(hty:ti.ty= .slice e)(he:E.ti e=some ei)
 (hx:g.ev x= .acc k) (hk:g.at k=some (.acc e xs)) (hhi:g.ev hi= .d (.val (.int .i64 h))) (h0:0≤h) (h1:h≤xs.length) :
 dX E.P ⟨some d,.slice t x none (some hi) none,ty,pos,aft,gd⟩ g ⟨ba x++ba hi,[k]⟩ ⟨some (d,.d (.bx (xs.take h.toNat))),[(k,.dead)]⟩:=by
 intro g2 hg
 have e1:=hg.ev (x:=x) (fun t h=>by simp[h])
 have e2:=hg.ev (x:=hi) (fun t h=>by simp[h])
 have h3:=(hg.p k (by simp)).trans hk
 intro X ν a w next Q hs hn
 have hu:=(E.ok t ti ht).ty
 rw[hty] at hu
 have hv:=hs.ev x
 rw[e1,hx] at hv
 have hv2:=hs.ev hi
 rw[e2,hhi] at hv2
 have hv2:=bW hv2
 simp only[af] at hv
 have hsize:=(E.ok e ei he).size
 obtain⟨hn',rfl⟩:∃n:Nat,h=n:=⟨h.toNat,by omega⟩
 simp only[Int.toNat_natCast] at hn⊢
 obtain⟨us,ho,hrr,hB,hf0⟩:=hs.en k _ h3
 have hat:∀j,(g2.app ⟨some (d,.d (.bx (xs.take hn'))),[(k,.dead)]⟩).at j=if j=k then some .dead else g2.at j:=fun j=>ck g2.st k (some .dead) j
 have hlive:∀j e1,(g2.app ⟨some (d,.d (.bx (xs.take hn'))),[(k,.dead)]⟩).at j=some e1→e1.live=true→j≠k∧g2.at j=some e1:=by
  intro j e1 h1 h2
  rw[hat] at h1
  by_cases hj:j=k
  ·rw[if_pos hj] at h1
   cases h1;cases h2
  ·rw[if_neg hj] at h1
   exact⟨hj,h1⟩
 have hown:∀b,Own ν (g2.app ⟨some (d,.d (.bx (xs.take hn'))),[(k,.dead)]⟩).at b→Own ν g2.at b:=by
  rintro b ⟨j,e1,h1,h2,h3⟩
  exact⟨j,e1,(hlive j e1 h1 h2).2,h2,h3⟩
 have hw:∀b,aN X ν g2.at b→b<w.heap.size→aN X ν (g2.app ⟨some (d,.d (.bx (xs.take hn'))),[(k,.dead)]⟩).at b∧w.heap[b]?=w.heap[b]?:=fun b hb _=>⟨⟨fun ho=>hb.1 (hown b ho),hb.2⟩,rfl⟩
 have hrun:∃v,(execOp a.eval ⟨some d,.slice t x none (some hi) none,ty,pos,aft,gd⟩).run E.P w= .ok (.value v) w∧cM w (aN X ν (g2.app ⟨some (d,.d (.bx (xs.take hn'))),[(k,.dead)]⟩).at) (.bx (xs.take hn')) v:=by
  rcases ho.2 with⟨k1,k2⟩|⟨b,cap,cur,k1,_,k2,k4,k5,k6,k7⟩
  ·have hr:=lD (P:=E.P) w hu hsize none 0 0 none (some (.int .i64 (hn':Int))) 0 (hn':Int) (.inl ⟨rfl,rfl⟩) (.inr ⟨_,rfl⟩) (Int.le_refl _) h0 (by omega) (Nat.le_refl _)
   obtain rfl:hn'=0:=by omega
   refine⟨.slice none 0 0,?_,by simp;exact .nil⟩
   simp only[execOp,hv.2,k1,hv2,Option.map_none,Option.map_some,Sem.run_bind,hr,Result.andThen_ok]
   rfl
  ·have hr:=lD (P:=E.P) w hu hsize (some ⟨b,0,none⟩) xs.length cap none (some (.int .i64 (hn':Int))) 0 (hn':Int) (.inl ⟨rfl,rfl⟩) (.inr ⟨_,rfl⟩) (Int.le_refl _) h0 (by omega) k4
   simp only[Int.toNat_natCast] at hr
   refine⟨.slice (some ⟨b,0,none⟩) hn' cap,?_,?_⟩
   ·simp only[execOp,hv.2,k1,hv2,Option.map_none,Option.map_some,Sem.run_bind,hr,Result.andThen_ok]
    unfold sliced
    simp[add_lit]
   ·have hrr':=(hrr.frame hw (Nat.le_refl _)).cut 0 hn'
    simp only[List.drop_zero] at hrr'
    have hlen:(xs.take hn').length=hn':=by simp;omega
    have hcl:=kT us 0 hn' hrr.hu (by rw[hrr.len];omega)
    simp only[List.drop_zero,Nat.zero_mul] at hcl
    have hokb:aN X ν (g2.app ⟨some (d,.d (.bx (xs.take hn'))),[(k,.dead)]⟩).at b:=by
     refine⟨?_,hs.C5 ⟨k,_,h3,rfl,.inl (by rw[k1];rfl)⟩⟩
     rintro⟨j,e1,m1,m2,m3⟩
     obtain⟨m4,m5⟩:=hlive j e1 m1 m2
     exact m4 (hs.inj j k e1 _ b m5 h3 m2 rfl m3 (.inl (by rw[k1];rfl)))
    have hres:=cM.bx (w:=w) (ok:=aN X ν (g2.app ⟨some (d,.d (.bx (xs.take hn'))),[(k,.dead)]⟩).at) (xs.take hn') (us.take hn') b 0 cap (E.P.cellsOf e) hokb (je k2) (by rw[hlen];omega) k5 (by rw[hlen];omega) hrr'.len hrr'.hx hrr'.hu (fun j u hj=>?_) hrr'.hr
    ·rw[hlen] at hres
     exact hres
    ·rw[hcl,←k7,List.take_take] at hj
     have hj':cur.toList[j]?=some u:=by
      rw[List.getElem?_take] at hj
      split at hj
      ·exact hj
      ·cases hj
     have hj2:cur[j]?=some u:=by simpa using hj'
     simp[World.cell?,k2,hj2]
 obtain⟨v,hr,hrep⟩:=hrun
 unfold Oper.wp
 rw[hr,Oper.upon_value]
 refine hn ν _ _ (hs.NS (g':=g2.app ⟨some (d,.d (.bx (xs.take hn'))),[(k,.dead)]⟩) (fun _=>False) (kG.refl _ w) (fun _ hb=>hb.elim) ?_ ?_ ?_ ?_ ?_ ?_ ?_ rfl)
 ·intro j hj
  refine⟨rfl,?_⟩
  rw[hat]
  split
  ·rfl
  ·exact hj
 ·intro j e1 hj
  rw[hat] at hj
  by_cases hjk:j=k
  ·rw[if_pos hjk] at hj
   cases hj
   exact .inr trivial
  ·rw[if_neg hjk] at hj
   exact .inl ⟨hj,rfl,fun _ _ _ hb=>hb⟩
 ·intro j e1 b m1 m2 m3
  exact .inl ⟨j,e1,(hlive j e1 m1 m2).2,m2,m3⟩
 ·intro j j' e1 e2 b m1 m2 m3 m4 m5 m6
  exact hs.inj j j' e1 e2 b (hlive j e1 m1 m3).2 (hlive j' e2 m2 m4).2 m3 m4 m5 m6
 ·intro j hj
  rw[hat] at hj
  by_cases hjk:j=k
  ·exact .inl (by rw[hjk,h3];rfl)
  ·rw[if_neg hjk] at hj
   exact .inl hj
 ·simp[G.app,m9,size_put,dt,hs.size]
 ·intro t
  simp only[G.app,m9,lh,gw,hs.size]
  by_cases hc:t=d∧d<g2.sl.length
  ·simp only[hc,and_self,if_true]
   refine .inr ?_
   simp only[af]
   exact hrep
  ·simp only[hc,if_false]
   exact .inl ⟨trivial,trivial⟩
def Ta(Q:Ex→G→Prop):jZ→Ex→G→Prop
 | .on=>Q
 | .off=>fun _ _=>False
theorem ik(Q:Ex→G→Prop)(e:Ex)(g:G):Ta Q .on e g=Q e g:=rfl
theorem m0(hm:E.P.follows .mixedOrders=true){c:Code}{Q:Ex→G→Prop}(h:DJ E n0 c .on g (Ta Q)):W E.P n0 c g Q:=Hu hm c g _ h
theorem gE(K:G→Prop)(Q:Ex→G→Prop)(g:G):IX K Q .normal g=K g:=rfl
theorem N4(K:G→Prop)(Q:Ex→G→Prop)(i:Nat)(g:G):IX K Q (.exit i) g=Q (.exit i) g:=rfl
theorem CK(K:G→Prop)(Q:Ex→G→Prop)(g:G):IX K Q .ret g=Q .ret g:=rfl
theorem AV{P:Program}(t k e:Nat)(xs:List (List D))(ht:nth g.sl t= .acc k)(hk:g.at k=some (.acc e xs)):jS P n0 g ⟨fm g.sl t (.d (.bx xs)),aX g.st k (some .dead)⟩:=by
 intro X ν a w _ hs
 refine⟨ν,?_⟩
 obtain⟨us,ho,hrr,hB,hf0⟩:=hs.en k _ hk
 have hat:∀j,(⟨fm g.sl t (.d (.bx xs)),aX g.st k (some .dead)⟩:G).at j=if j=k then some .dead else g.at j:=fun j=>ck g.st k (some .dead) j
 have hlive:∀j e1,(⟨fm g.sl t (.d (.bx xs)),aX g.st k (some .dead)⟩:G).at j=some e1→e1.live=true→j≠k∧g.at j=some e1:=by
  intro j e1 h1 h2
  rw[hat] at h1
  by_cases hj:j=k
  ·rw[if_pos hj] at h1
   cases h1;cases h2
  ·rw[if_neg hj] at h1
   exact⟨hj,h1⟩
 have hown:∀b,Own ν (⟨fm g.sl t (.d (.bx xs)),aX g.st k (some .dead)⟩:G).at b→Own ν g.at b:=by
  rintro b ⟨j,e1,h1,h2,h3⟩
  exact⟨j,e1,(hlive j e1 h1 h2).2,h2,h3⟩
 have hw:∀b,aN X ν g.at b→b<w.heap.size→aN X ν (⟨fm g.sl t (.d (.bx xs)),aX g.st k (some .dead)⟩:G).at b∧w.heap[b]?=w.heap[b]?:=fun b hb _=>⟨⟨fun ho=>hb.1 (hown b ho),hb.2⟩,rfl⟩
 have hrep:cM w (aN X ν (⟨fm g.sl t (.d (.bx xs)),aX g.st k (some .dead)⟩:G).at) (.bx xs) (ν k).v:=by
  refine pr ho hrr hB (fun b hb=>⟨?_,hs.C5 ⟨k,_,hk,rfl,.inl hb⟩⟩) hw
  rintro⟨j,e1,m1,m2,m3⟩
  obtain⟨m4,m5⟩:=hlive j e1 m1 m2
  exact m4 (hs.inj j k e1 _ b m5 hk m2 rfl m3 (.inl hb))
 refine hs.NS (g':=⟨fm g.sl t (.d (.bx xs)),aX g.st k (some .dead)⟩) (fun _=>False) (kG.refl _ w) (fun _ hb=>hb.elim) ?_ ?_ ?_ ?_ ?_ ?_ ?_ rfl
 ·intro j hj
  refine⟨rfl,?_⟩
  rw[hat]
  split
  ·rfl
  ·exact hj
 ·intro j e1 hj
  rw[hat] at hj
  by_cases hjk:j=k
  ·rw[if_pos hjk] at hj
   cases hj
   exact .inr trivial
  ·rw[if_neg hjk] at hj
   exact .inl ⟨hj,rfl,fun _ _ _ hb=>hb⟩
 ·intro j e1 b m1 m2 m3
  exact .inl ⟨j,e1,(hlive j e1 m1 m2).2,m2,m3⟩
 ·intro j j' e1 e2 b m1 m2 m3 m4 m5 m6
  exact hs.inj j j' e1 e2 b (hlive j e1 m1 m3).2 (hlive j' e2 m2 m4).2 m3 m4 m5 m6
 ·intro j hj
  rw[hat] at hj
  by_cases hjk:j=k
  ·exact .inl (by rw[hjk,hk];rfl)
  ·rw[if_neg hjk] at hj
   exact .inl hj
 ·simp[dt,hs.size]
 ·intro j
  simp only[gw]
  by_cases hc:j=t∧t<g.sl.length
  ·simp only[hc,and_self,if_true]
   refine .inr ?_
   have:=hs.sl t
   rw[ht] at this
   simp only[af] at this⊢
   rw[this.2]
   exact hrep
  ·simp only[hc,if_false]
   exact .inl ⟨trivial,trivial⟩
def MF(E:Env)(rs:List ResultVar)(n0:Nat)(R:PV→List (Option En)→Prop)(g:G):Prop:=∃g',jS E.P n0 g g'∧rE E rs n0 R g'
theorem bO{rs:List ResultVar}{R:PV→List (Option En)→Prop}(h:rE E rs n0 R g):MF E rs n0 R g:=⟨g,jS.refl g,h⟩
theorem AU {f : FuncId} {fn : Func} {c : Code} {args : List PV} {cst : List (Option En)} {R : PV → List (Option En) → Prop} {nt : Nat} {rs : List ResultVar} (hf : E.P.funcs[f]? = some fn) (hb : fn.body = some c) (hname : (fn.name == "runtime.NumGoroutine") = false)
 (hnt:fn.ntmps=nt) (hrs:fn.results.toList=rs) (hn:qc (oG args) nt=true) (h:jR args→tU cst→W E.P (ff cst) c ⟨b9 nt .undef (Mt 0 args),cst⟩ (Ge (MF E rs (ff cst) R))):C E.P f args cst R:=by
 have hn:=eK hn
 rw[iI] at hn
 rw[←It hn,gF] at h
 refine Ee hf hb hname (MF E rs cst.length R) (fun _ X ν a w ⟨_,hw,h1⟩ hp hs=>let ⟨_,hs'⟩:=hw X ν a w hp hs;rE.sat h1 hp hs' hrs) ?_
 rw[hnt,←sa]
 refine P2 fun h1 h2=>h ?_ h2
 have h1:jR (pad args nt):=h1
 rw[sa] at h1
 exact vg h1
end
end Go.Eng
namespace Go.Eng
open Go.RowKit
def yU(P:Program)(t:TypeId):Bool:=
 match P.underlying t with
 | some (.struct ⟨[f, g]⟩) => (f.name != "_" && (g.name != "_" && (f.offset == 0 && (g.offset == 1 && ((match P.underlying f.type, P.underlying g.type with | some (.int _), some (.int _) => true | _, _ => false) && (!P.stoodInHeld t && !P.eqGuardType P.depth t))))))
 | _=>false
def o0(a b c e:Int):Bool:=a == c&&b == e
theorem ze {P : Program} {t : TypeId} (h : yU P t = true) : ∃ (f g : Field) (k l : IntKind), P.underlying t = some (.struct ⟨[f, g]⟩) ∧ f.name ≠ "_" ∧ g.name ≠ "_" ∧ f.offset = 0 ∧ g.offset = 1 ∧ P.underlying f.type = some (.int k) ∧ P.underlying g.type = some (.int l) ∧ P.stoodInHeld t = false ∧ P.eqGuardType P.depth t = false := by
 unfold yU at h
 split at h
 ·rename_i f g hu
  simp only[Bool.and_eq_true,bne_iff_ne,ne_eq,beq_iff_eq,Bool.not_eq_true'] at h
  obtain⟨h1,h2,h3,h4,h5,h6,h7⟩:=h
  split at h5
  ·rename_i k l hk hl
   exact⟨f,g,k,l,hu,h1,h2,h3,h4,hk,hl,h6,h7⟩
  ·cases h5
 ·cases h
theorem EG{P:Program}(w:World){t:TypeId}(h:yU P t=true)(a b c e:Int) :
 (Op.equalIn 10000 t (.agg ⟨[.int .i64 a,.int .i64 b]⟩) (.agg ⟨[.int .i64 c,.int .i64 e]⟩)).run P w= .ok (o0 a b c e) w:=by
 obtain⟨f,g,k,l,hu,n1,n2,o1,o2,hf,hg,hs,_⟩:=ze h
 have hfs:P.fieldsOf t=⟨[f,g]⟩:=by simp only[Program.fieldsOf,hu]
 rw[run_equalIn_struct w 9999 t _ _ (by rw[hfs];exact hu) hs,hfs]
 have p1:P.plainKey f.type=true:=by simp[Program.plainKey,hf]
 have p2:P.plainKey g.type=true:=by simp[Program.plainKey,hg]
 have e1:=run_part_plain (P:=P) w p1 (xs:=⟨[.int .i64 a,.int .i64 b]⟩) (off:=f.offset) (v:=.int .i64 a) (by rw[o1];rfl)
 have e2:=run_part_plain (P:=P) w p1 (xs:=⟨[.int .i64 c,.int .i64 e]⟩) (off:=f.offset) (v:=.int .i64 c) (by rw[o1];rfl)
 have e3:=run_part_plain (P:=P) w p2 (xs:=⟨[.int .i64 a,.int .i64 b]⟩) (off:=g.offset) (v:=.int .i64 b) (by rw[o2];rfl)
 have e4:=run_part_plain (P:=P) w p2 (xs:=⟨[.int .i64 c,.int .i64 e]⟩) (off:=g.offset) (v:=.int .i64 e) (by rw[o2];rfl)
 have q1:(Op.equalIn 9999 f.type (.int .i64 a) (.int .i64 c)).run P w= .ok (a == c) w:=run_equalIn_int w 9998 f.type .i64 k a c hf
 have q2:(Op.equalIn 9999 g.type (.int .i64 b) (.int .i64 e)).run P w= .ok (b == e) w:=run_equalIn_int w 9998 g.type .i64 l b e hg
 simp only[Op.eqFields,n1,n2,ne_eq,not_false_eq_true,if_true,Sem.run_bind,Sem.run_ite,e1,e2,e3,e4,Result.andThen_ok,q1,q2,o0]
 cases a == c
 ·rfl
 ·simp only[Bool.not_true,Bool.false_eq_true,if_false,Bool.true_and,Sem.run_bind,Sem.run_ite,e3,e4,Result.andThen_ok,q2]
  cases b == e<;>rfl
section
variable{E:Env}{g:G}{d:Nat}{ty:TypeId}{pos:String}{aft:Array Edge}{gd:Option (Nat×Bool)}
theorem Et{w:World}{ok:Nat→Prop}{ν:Nat→Nm}{st:Nat→Option En}{a b:Int}{v:Value}(h:af w ok ν st (.agg [.d (.val (.int .i64 a)),.d (.val (.int .i64 b))]) v):v= .agg ⟨[.int .i64 a,.int .i64 b]⟩:=by
 simp only[af] at h
 obtain⟨vs,rfl,h⟩:=h
 match vs,h with
 | [v1,v2],h=>
   simp only[ae,and_true] at h
   rw[bW h.1,bW h.2]
theorem J5(x y:Operand)(t u:TypeId)(a b c e:Int)(ht:yU E.P t=true)(hx:g.ev x= .agg [.d (.val (.int .i64 a)),.d (.val (.int .i64 b))])(hy:g.ev y= .agg [.d (.val (.int .i64 c)),.d (.val (.int .i64 e))]) :
 dX E.P ⟨some d,.binOp .eql t x y u,ty,pos,aft,gd⟩ g ⟨ba x++ba y,[]⟩ ⟨some (d,.d (.val (.bool (o0 a b c e)))),[]⟩:=by
 intro g2 hg
 have h1:=hg.ev (x:=x) (fun t h=>List.mem_append_left _ h)
 have h2:=hg.ev (x:=y) (fun t h=>List.mem_append_right _ h)
 refine wO.val rfl fun X ν act w hs=>?_
 have hv:=hs.ev x
 have hv2:=hs.ev y
 rw[h1,hx] at hv
 rw[h2,hy] at hv2
 have q1:=Et hv
 have q2:=Et hv2
 obtain⟨_,_,_,_,_,_,_,_,_,_,_,_,hm⟩:=ze ht
 refine⟨.bool (o0 a b c e),?_,iz rfl⟩
 simp[execOp,q1,q2,run_eqGuard_agg w .eql t x y _ _ hm,run_eql_struct,EG w ht]
theorem P5{m:Option (List Ky)}{gs:Option Nat}{rest:jZ→Option (List Ky)→G→Prop}{x y:Operand}{t u:TypeId}(ht:yU E.P t=true){a b c e:Int}(hx:g.ev x= .agg [.d (.val (.int .i64 a)),.d (.val (.int .i64 b))])(hy:g.ev y= .agg [.d (.val (.int .i64 c)),.d (.val (.int .i64 e))])
 (hr:rest .on (gl m (hY (n6 gs ⟨ba x++ba y,[]⟩) ⟨some (d,.d (.val (.bool (o0 a b c e)))),[]⟩)) (g.app ⟨some (d,.d (.val (.bool (o0 a b c e)))),[]⟩)):mj E m gs ⟨some d,.binOp .eql t x y u,ty,pos,aft,gd⟩ g rest:=
 bU (J5 x y t u a b c e ht hx hy) hr
theorem Re(x y:Operand)(m n:Int)(tys:Array TypeId)(hx:g.ev x= .d (.val (.int .i64 m)))(hy:g.ev y= .d (.val (.int .i64 n))) :
 dX E.P ⟨some d,.call ⟨.builtin .max,#[x,y],tys⟩,ty,pos,aft,gd⟩ g ⟨ba x++ba y,[]⟩ ⟨some (d,.d (.val (.int .i64 (if m<n then n else m)))),[]⟩:=
 ji rfl hx hy rfl fun a w h1 h2=>by
  simp[execOp,resolve,invoke,builtin,Builtin.max_,Builtin.max2,h1,h2]
theorem PR{m:Option (List Ky)}{gs:Option Nat}{rest:jZ→Option (List Ky)→G→Prop}{x y:Operand}{tys:Array TypeId}(a b c:Int)(hc:(if a<b then b else a)=c)(hx:g.ev x= .d (.val (.int .i64 a)))(hy:g.ev y= .d (.val (.int .i64 b)))
 (hr:rest .on (gl m (hY (n6 gs ⟨ba x++ba y,[]⟩) ⟨some (d,.d (.val (.int .i64 c))),[]⟩)) (g.app ⟨some (d,.d (.val (.int .i64 c))),[]⟩)):mj E m gs ⟨some d,.call ⟨.builtin .max,#[x,y],tys⟩,ty,pos,aft,gd⟩ g rest:=by
 subst hc
 exact bU (Re x y a b tys hx hy) hr
theorem O2(x:Operand)(m:Int)(t u:TypeId)(hx:g.ev x= .d (.val (.int .u64 m))) :
 dX E.P ⟨some d,.binOp .shr t x (.const (.int .u64 1)) u,ty,pos,aft,gd⟩ g ⟨ba x,[]⟩ ⟨some (d,.d (.val (.int .u64 (m.fdiv 2)))),[]⟩:=
 xn rfl hx rfl fun a w h1=>by
  have he:a.eval (.const (.int .u64 1))= .int .u64 1:=rfl
  have hb:min 1 (IntKind.u64).bits=1:=by decide
  simp[execOp,h1,he,eqGuard,binOp,Op.shift,hb]
theorem Qz{m:Option (List Ky)}{gs:Option Nat}{rest:jZ→Option (List Ky)→G→Prop}{x:Operand}{t u:TypeId}(a c:Int)(hc:a.fdiv 2=c)(hx:g.ev x= .d (.val (.int .u64 a)))
 (hr:rest .on (gl m (hY (n6 gs ⟨ba x,[]⟩) ⟨some (d,.d (.val (.int .u64 c))),[]⟩)) (g.app ⟨some (d,.d (.val (.int .u64 c))),[]⟩)):mj E m gs ⟨some d,.binOp .shr t x (.const (.int .u64 1)) u,ty,pos,aft,gd⟩ g rest:=by
 subst hc
 exact bU (O2 x a t u hx) hr
theorem wrap_u64{n:Int}(h0:0≤n)(h1:n≤9223372036854775807):IntKind.wrap .u64 n=n:=by
 simp only[IntKind.wrap,IntKind.bits,IntKind.signed,Bool.false_and,Bool.false_eq_true,if_false]
 omega
end
end Go.Eng
