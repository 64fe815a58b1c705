/-
  The symbolic layer, twenty-third text: from a function's code to its contract; what the working out may unfold.
-/
import Derived.Test.YtgpjhjalfakpoaaGreatKBC
import Derived.Laws.StructEq
import Derived.Laws.IdiomCopy
import Derived.Deep.Draws
set_option linter.unusedVariables false
set_option linter.unusedSimpArgs false
open Array renaming length_toList→cO
open Bool renaming and_eq_true→ae,false_and→aK,or_eq_true→fF,not_true→fR,not_false→gv
open Int renaming toNat_natCast→aA,le_refl→fM
open List renaming getElem?_eq_getElem→ab,take_of_length_le→an,length_cons→aq,replicate→au,mem_cons→aw,getD_eq_getElem?_getD→aB,map_cons→aR,getElem?_append_right→aX,getElem?_append_left→aZ,nil_append→bB,getD→bK,getElem?_eq_none→bM,cons_append→bO,length_eq_one_iff→cj,take_append_of_le_length→cG,map_nil→cK,drop_zero→gr
open Nat renaming le_refl→ar,mul_le_mul_right→aY,eq_of_beq_eq_true→a6,zero_add→bV,add_zero→eD,beq→eU,sub_self→gG,zero_mul→lG
open Option renaming map_some→db,map_none→dU,getD_none→gu,toList_some→mj
namespace Go.Eng
open Go.RowKit
def pad:List PV→Nat→List PV
 | [],0=>[]
 | [],n+1=>.undef::pad [] n
 | l,0=>l
 | a::as,n+1=>a::pad as n
theorem qF:∀(l:List PV)(n:Nat),pad l n=l++au (n-l.length) .undef
 | [],0=>rfl
 | [],n+1=>by simp[pad,qF [] n,List.replicate_succ]
 | a::as,0=>by simp[pad]
 | a::as,n+1=>by simp[pad,qF as n]
def qG(E:Env)(rs:List ResultVar)(n0:Nat)(R:PV→List (Option En)→Prop)(g:G):Prop:=
 ∃ps m q st',qJ E g rs=some ps∧Wk n0 m ⟨[gf ps],g.st⟩ ⟨[q],st'⟩∧R q st'
theorem qG.sat{E:Env}{rs:List ResultVar}{n0:Nat}{R:PV→List (Option En)→Prop}{g:G}(h:qG E rs n0 R g){X:Cx}{ν:Nat→Nm}{a:Act}{w:World}(hp:Mw X n0)(hs:Sat E.P X ν g a w){fn:Func}(hfn:fn.results.toList=rs) :
 ∃v res st' ν',(results fn a.tmps).run E.P w= .ok v w∧R res st'∧Gk E.P X ν' res st' v w:=by
 obtain⟨ps,m,q,st',h1,h2,h3⟩:=h
 obtain⟨v,hr,hv⟩:=uS hs (fn:=fn) (by rw[hfn];exact h1)
 have hs1:Sat E.P X ν ⟨[gf ps],g.st⟩ ⟨#[v],[]⟩ w:=by
  refine⟨rfl,fun t=>?_,hs.en,hs.inj,hs.base,hs.nu,hs.par,hs.wx,hs.qp,rfl⟩
  cases t with
  | zero=>exact hv
  | succ t=>simp[nth,aj]
 obtain⟨ν',hs2⟩:=AH h2 X ν _ _ hp hs1
 exact⟨v,q,st',ν',hr,h3,hs2⟩
theorem O6{E:Env}{rs:List ResultVar}{g:G}{ps:List PV}{q:PV}(h1:qJ E g rs=some ps)(h2:wk ⟨[gf ps],g.st⟩ [] (gf ps) q):qG E rs 0 (bw q []) g:=
 ⟨ps,[],q,[],h1,⟨by simp only[rB];exact⟨h2,trivial⟩,by simp[hE],rfl,rfl⟩,rfl,rfl⟩
theorem Ls:ff []=[]:=rfl
theorem JT(x:D)(xs:List D):ff (x::xs)= .d x::ff xs:=rfl
def rl(t:Nat):List (Nat×PV)→PV→PV
 | [],p=>p
 | (d,v)::r,p=>match eU t d with
   | true=>v
   | false=>rl t r p
def eQ(n:Nat)(p:PV)(ch:List (Nat×PV)):List PV:=(List.range n).map fun t=>rl t ch p
theorem pP{a b:Nat}:Nat.ble b a=false↔a<b:=by
 cases h:Nat.ble b a
 ·simp only[true_iff]
  have h':¬b≤a:=fun hl=>by rw[Nat.ble_eq_true_of_le hl] at h;cases h
  omega
 ·have:=Nat.le_of_ble_eq_true h
  simp
  omega
theorem px:∀(l:List PV)(t:Nat),nth l t=l.getD t .any
 | [],t=>by cases t<;>rfl
 | _::_,0=>rfl
 | _::l,t+1=>by simp only[nth,px l t];rfl
theorem sY(n:Nat)(p:PV)(ch:List (Nat×PV)):(eQ n p ch).length=n:=by simp[eQ]
theorem wo(n:Nat)(p:PV)(ch:List (Nat×PV))(t:Nat):nth (eQ n p ch) t=match Nat.ble n t with|false=>rl t ch p|true=>.any:=by
 rw[px]
 cases h:Nat.ble n t
 ·have h':t<n:=pP.1 h
  simp[eQ,bK,h']
 ·have h':¬t<n:=fun hl=>by rw[pP.2 hl] at h;cases h
  simp[eQ,bK,h']
theorem Fk{l l':List PV}(hl:l.length=l'.length)(h:∀t,nth l t=nth l' t):l=l':=by
 refine List.ext_getElem hl fun t h1 h2=>?_
 have:=h t
 rw[px,px] at this
 simpa[bK,h1,h2] using this
theorem Im(n:Nat)(p:PV)(ch:List (Nat×PV))(d:Nat)(v:PV):gy (eQ n p ch) d v=eQ n p ((d,v)::ch):=by
 refine Fk (by rw[eM,sY,sY]) fun t=>?_
 rw[il,sY,wo,wo]
 by_cases h:t=d
 ·subst h
  by_cases hn:t<n
  ·rw[if_pos ⟨rfl,hn⟩,pP.2 hn]
   simp only[rl,Nat.beq_refl]
  ·rw[if_neg (fun hc=>hn hc.2)]
   have:Nat.ble n t=true:=by
    cases hb:Nat.ble n t
    ·exact(hn (pP.1 hb)).elim
    ·rfl
   rw[this]
 ·rw[if_neg (fun hc=>h hc.1)]
  have:eU t d=false:=by
   cases hb:eU t d
   ·rfl
   ·exact(h (a6 hb)).elim
  simp only[rl,this]
def I1:Nat→List PV→List (Nat×PV)
 | _,[]=>[]
 | i,a::l=>(i,a)::I1 (i+1) l
theorem Cs:∀(l:List PV)(i t:Nat)(p:PV),rl (i+t) (I1 i l) p=l.getD t p
 | [],i,t,p=>by simp[I1,rl]
 | a::l,i,0,p=>by simp[I1,rl]
 | a::l,i,t+1,p=>by
   have:eU (i+(t+1)) i=false:=by
    cases hb:eU (i+(t+1)) i
    ·rfl
    ·have:=a6 hb;omega
   simp only[I1,rl,this]
   have:=Cs l (i+1) t p
   rw[show i+1+t=i+(t+1) by omega] at this
   rw[this]
   rfl
theorem FZ{l:List PV}{n:Nat}(h:l.length≤n):pad l n=eQ n .undef (I1 0 l):=by
 rw[qF]
 refine Fk (by rw[sY];simp;omega) fun t=>?_
 rw[wo,px]
 have:=Cs l 0 t .undef
 rw[bV] at this
 rw[this]
 cases hb:Nat.ble n t
 rotate_left
 ·have h':¬t<n:=fun hl=>by rw[pP.2 hl] at hb;cases hb
  have h1:(l++au (n-l.length) PV.undef).length≤t:=by simp;omega
  simp only[bK,bM h1,gu]
 ·have h':t<n:=pP.1 hb
  simp only[bK]
  by_cases hl:t<l.length
  ·rw[aZ hl,ab hl];rfl
  ·rw[aX (by omega),List.getElem?_replicate,if_pos (by omega),bM (by omega)]
   rfl
def NU(g:G)(m:List (Option Nat))(ch:List (Nat×PV))(p:PV):List (Nat×PV)→Prop
 | []=>True
 | (t,q)::r=>wk g m (rl t ch p) q∧NU g m ch p r
theorem NF{g:G}{m:List (Option Nat)}(p:PV):wk g m p .any:=by cases p<;>simp[wk]
theorem HK{g:G}{m:List (Option Nat)}{ch:List (Nat×PV)}{p:PV}:∀{ch':List (Nat×PV)},NU g m ch p ch'→∀t,wk g m (rl t ch p) (rl t ch' .any)
 | [],_,t=>by simp only[rl];exact NF _
 | (d,q)::r,h,t=>by
   simp only[NU] at h
   simp only[rl]
   cases hb:eU t d
   ·exact HK h.2 t
   ·have:=a6 hb
    subst this
    exact h.1
theorem E7{g:G}{m:List (Option Nat)}{f f':Nat→PV}(h:∀t,wk g m (f t) (f' t)):∀(l:List Nat),rB g m (l.map f) (l.map f')
 | []=>by simp only[cK,rB]
 | a::l=>by simp only[aR,rB];exact⟨h a,E7 h l⟩
theorem ax{P:Program}{n0 n:Nat}(m:List (Option Nat)){p:PV}{ch ch':List (Nat×PV)}{st st':List (Option En)}(h1:NU ⟨eQ n p ch,st⟩ m ch p ch')(h2:hE ⟨eQ n p ch,st⟩ m m st')(h3:uh m st'=true)(h4:keeps n0 0 m=true):kG P n0 ⟨eQ n p ch,st⟩ ⟨eQ n .any ch',st'⟩:=
 AH ⟨E7 (HK h1) _,h2,h3,h4⟩
attribute [go_sem] xp BD wo Im rl NU I1 bR bG gI pb tk dr Ev EW Ez GQ N9 OE NM Ox Ng Eh GU BV OV Pe OY Mi JC OT pM
attribute [go_sem] BJ ym D7 wq Bt rE vS Av FY wc sU Bk wg MZ Bd A3 Ap AL vQ Bi pA tg Gl Fa vN E3 Mx
theorem OJ(sl:List PV)(st:List (Option En))(dst:Option (Nat×PV))(up:List (Nat×En)):(G.mk sl st).app ⟨dst,up⟩=⟨nD sl dst,pU st up⟩:=rfl
theorem Gh(sl:List PV):nD sl none=sl:=rfl
theorem Gf(sl:List PV)(d:Nat)(p:PV):nD sl (some (d,p))=gy sl d p:=rfl
theorem JW(sl:List PV)(st:List (Option En))(t:Nat):(G.mk sl st).ev (.tmp t)=nth sl t:=rfl
theorem Ds(sl:List PV)(st:List (Option En))(v:Value):(G.mk sl st).ev (.const v)=Ow v:=rfl
theorem G9(sl:List PV)(st:List (Option En))(f:Nat):(G.mk sl st).ev (.func f)= .fn f []:=rfl
theorem O3(sl:List PV)(st:List (Option En))(k:Nat):(G.mk sl st).at k=bR st k:=rfl
theorem OD(sl:List PV)(st:List (Option En)):(G.mk sl st).new=gI st:=rfl
theorem Lu(s p:List Nat)(dst:Option (Nat×PV))(up:List (Nat×En)):j9 ⟨s,p⟩ ⟨dst,up⟩=⟨s,p,Dl.ws ⟨dst,up⟩,Dl.wp ⟨dst,up⟩⟩:=rfl
theorem Lr(up:List (Nat×En)):Dl.ws ⟨none,up⟩=[]:=rfl
theorem Ka(d:Nat)(p:PV)(up:List (Nat×En)):Dl.ws ⟨some (d,p),up⟩=[d]:=rfl
theorem Mp(dst:Option (Nat×PV)):Dl.wp ⟨dst,[]⟩=[]:=rfl
theorem Lj(dst:Option (Nat×PV))(k:Nat)(e:En)(r:List (Nat×En)):Dl.wp ⟨dst,(k,e)::r⟩=k::Dl.wp ⟨none,r⟩:=rfl
attribute [go_sem] NW Oh snoc ji.eq_1 ji.eq_2 o3.eq_1 o3.eq_2 zR.eq_1 zR.eq_2 zR.eq_3 MA.eq_1 IC.eq_1 lO.eq_1 lO.eq_2 lO.eq_3 NK MP.eq_1 MP.eq_2 KU.eq_1 KU.eq_2 run Fs.eq_1 Fs.eq_2 Fs.eq_3 xk.eq_1 xk.eq_2 xk.eq_3 Hi.eq_1 I9.eq_1 M0.eq_1 M0.eq_2 BM
attribute [go_sem] OJ Gh Gf pU O3 JW Ds G9 OD tN Ow I0 Bq ct PV.whole PV.one ob Fq FQ Oy qE rowsOf y3 nb Lu Lr Ka Mp Lj bZ J7 TI.isAgg Ls JT
attribute [go_sem] Ei FO El H7 qJ gf bw aR cK pX B6
attribute [go_sem] rB wk hE s6 dN vl keeps uh EM
attribute [go_sem] Dj T.pv Nj gK lQ OZ tZ Dy vT wz zm pO LX L5 NN K5
mutual
def xy:PV→Prop
 | .d (.b7 xs)=>xs.length≤LB
 | .d (.str s)=>s.length≤LB
 | .agg cs=>kV cs
 | _=>True
def kV:List PV→Prop
 | []=>True
 | p::ps=>xy p∧kV ps
end
mutual
theorem aj.xy{w:World}{ok:Nat→Prop}{ν:Nat→Nm}{st:Nat→Option En}:∀(p:PV)(v:Value),aj w ok ν st p v→xy p
 | .d (.b7 xs),v,h=>by
   simp only[aj] at h
   simp only[Eng.xy]
   exact h.NI
 | .d (.str s),v,h=>by
   simp only[aj] at h
   simp only[Eng.xy]
   exact h.wi.2
 | .agg cs,v,h=>by
   simp only[aj] at h
   simp only[Eng.xy]
   obtain⟨vs,_,h⟩:=h
   exact ai.xy cs vs h
 | .d (.val _),_,_=>by simp only[Eng.xy]
 | .any,_,_=>by simp only[Eng.xy]
 | .undef,_,_=>by simp only[Eng.xy]
 | .aV,_,_=>by simp only[Eng.xy]
 | .gN _,_,_=>by simp only[Eng.xy]
 | .ptr _ _,_,_=>by simp only[Eng.xy]
 | .acc _,_,_=>by simp only[Eng.xy]
 | .dv _ _ _ _,_,_=>by simp only[Eng.xy]
 | .di _ _ _,_,_=>by simp only[Eng.xy]
 | .fn _ _,_,_=>by simp only[Eng.xy]
theorem ai.xy{w:World}{ok:Nat→Prop}{ν:Nat→Nm}{st:Nat→Option En}:∀(ps:List PV)(vs:List Value),ai w ok ν st ps vs→kV ps
 | [],_,_=>by simp only[Eng.kV]
 | p::ps,v::vs,h=>by
   simp only[ai] at h
   simp only[Eng.kV]
   exact⟨aj.xy p v h.1,ai.xy ps vs h.2⟩
 | _::_,[],h=>by simp[ai] at h
end
def Gm:Option En→Prop
 | some (.box cs)=>kV cs
 | some (.acc _ xs)=>xs.length≤LB
 | some (.cY _ xs)=>xs.length≤LB
 | _=>True
def s0:List (Option En)→Prop
 | []=>True
 | e::es=>Gm e∧s0 es
theorem Sat.kV{P:Program}{X:Cx}{ν:Nat→Nm}{g:G}{a:Act}{w:World}(h:Sat P X ν g a w):Eng.kV g.sl:=by
 have key:∀(ps:List PV),(∀t,∃v,aj w (bm X ν g.at) ν g.at (nth ps t) v)→Eng.kV ps:=by
  intro ps
  induction ps with
  | nil=>intro _;simp only[Eng.kV]
  | cons p ps ih=>
    intro hp
    simp only[Eng.kV]
    obtain⟨v,hv⟩:=hp 0
    exact⟨aj.xy p v hv,ih fun t=>hp (t+1)⟩
 exact key _ fun t=>⟨_,h.sl t⟩
theorem Sat.Gm{P:Program}{X:Cx}{ν:Nat→Nm}{g:G}{a:Act}{w:World}(h:Sat P X ν g a w)(k:Nat):Eng.Gm (g.at k):=by
 cases hk:g.at k with
 | none=>trivial
 | some e=>
   have:=h.en k e hk
   cases e with
   | dead=>trivial
   | box cs=>obtain⟨b,vs,T,_,_,h3,_⟩:=this;exact ai.xy cs vs h3
   | acc t xs=>obtain⟨us,_,_,h3,_⟩:=this;exact h3
   | map yO=>trivial
   | cY t xs=>
     have h1:=this.1
     simp only[fP] at h1
     obtain⟨us,F1,_,_,_,h4,_⟩:=h1
     exact h4
theorem Cf:∀{l:List (Option En)},(∀k,Gm (bR l k))→s0 l
 | [],_=>trivial
 | _::_,h=>⟨h 0,Cf fun k=>h (k+1)⟩
theorem Mf{P:Program}{n0:Nat}{c:Code}{g:G}{Q:Ex→G→Prop}(h:kV g.sl→s0 g.st→W P n0 c g Q):W P n0 c g Q:=fun X ν a w hp hs=>
 h hs.kV (Cf fun k=>hs.Gm k) X ν a w hp hs
theorem tt:∀{ps r:List PV},kV (ps++r)→kV ps
 | [],_,_=>by simp only[kV]
 | p::ps,r,h=>by
   simp only[bO,kV] at h⊢
   exact⟨h.1,tt h.2⟩
theorem N1 {E : Env} (hm : E.P.follows .mixedOrders = true) {f : FuncId} {fn : Func} {c : Code} {args : List PV} {cE : List (Option En)} {R : PV → List (Option En) → Prop} {nt : Nat} {rs : List ResultVar} (hf : E.P.funcs[f]? = some fn) (hb : fn.body = some c) (hname : (fn.name == "runtime.NumGoroutine") = false)
 (hnt:fn.ntmps=nt) (hrs:fn.results.toList=rs) (h:kV args→s0 cE→BM E (gI cE) c .on ⟨pad args nt,cE⟩ (fun _=>Ei (qG E rs (gI cE) R))):C E.P f args cE R:=by
 rw[iR] at h
 refine BX hf hb hname (qG E rs cE.length R) (fun _ _ _ _ _ h1 hp hs=>qG.sat h1 hp hs hrs) ?_
 rw[hnt,←qF]
 refine Mf fun h1 h2=>EG hm c _ _ (h ?_ h2)
 have h1:kV (pad args nt):=h1
 rw[qF] at h1
 exact tt h1
theorem BQ {E : Env} (hm : E.P.follows .mixedOrders = true) {f : FuncId} {fn : Func} {c : Code} {args : List PV} {cE : List (Option En)} {R : PV → List (Option En) → Prop} {nt : Nat} {rs : List ResultVar} (hf : E.P.funcs[f]? = some fn) (hb : fn.body = some c) (hname : (fn.name == "runtime.NumGoroutine") = false)
 (hnt:fn.ntmps=nt) (hrs:fn.results.toList=rs) (hn:pM (pb args) nt=true) (h:kV args→s0 cE→BM E (gI cE) c .on ⟨eQ nt .undef (I1 0 args),cE⟩ (fun _=>Ei (qG E rs (gI cE) R))):C E.P f args cE R:=by
 have hn:=gg hn
 rw[jz] at hn
 rw[←FZ hn] at h
 exact N1 hm hf hb hname hnt hrs h
attribute [go_sem] xy kV Gm s0
mutual
theorem FT(m:List Nat):∀(p:PV),p.lt 0=true→p.gZ m=p
 | .agg cs,h=>by simp only[PV.lt] at h;simp only[PV.gZ,o7 m cs h]
 | .gN cs,h=>by simp only[PV.lt] at h;simp only[PV.gZ,o7 m cs h]
 | .fn f cs,h=>by simp only[PV.lt] at h;simp only[PV.gZ,o7 m cs h]
 | .any,_=>rfl
 | .undef,_=>rfl
 | .aV,_=>rfl
 | .d _,_=>rfl
 | .di _ _ _,_=>rfl
 | .ptr _ _,h=>by simp[PV.lt] at h
 | .acc _,h=>by simp[PV.lt] at h
 | .dv _ _ _ _,h=>by simp[PV.lt] at h
theorem o7(m:List Nat):∀(ps:List PV),oo 0 ps=true→kR m ps=ps
 | [],_=>rfl
 | p::ps,h=>by
   simp only[oo,ae] at h
   simp only[kR,FT m p h.1,o7 m ps h.2]
end
section
variable{E:Env}{g:G}{d:Nat}{ty:TypeId}{pos:String}{cP:Array Edge}{gd:Option (Nat×Bool)}
theorem JJ(iB:Operand)(xs:List Operand)(tys:Array TypeId)(f:FuncId)(cap:List PV)(hfn:g.ev iB= .fn f cap)(bA:List PV)(res:PV)(hC:C E.P f bA [] (bw res []))(jN:yb (xs.map g.ev++cap) bA)(kf:oo 0 bA=true)(hres:res.lt 0=true) :
 gL E.P ⟨some d,.call ⟨.value iB,⟨xs⟩,tys⟩,ty,pos,cP,gd⟩ g ⟨bZ iB++xs.flatMap bZ,[]⟩ ⟨some (d,res),[]⟩:=by
 have h:=FC (E:=E) (g:=g) (d:=d) (ty:=ty) (pos:=pos) (cP:=cP) (gd:=gd) iB xs tys f cap hfn [] bA [] [] res hC (by rw[o7 _ _ kf];exact jN) kf (by simp) (by simp) trivial trivial (by simp) (by simp)
 rw[FT _ _ hres] at h
 exact h
end
def iv(n:Int):PV:=.d (.val (.int .i64 n))
def bv(b:Bool):PV:=.d (.val (.bool b))
def sv(s:List UInt8):PV:=.d (.str s)
def lv(xs:List (List D)):PV:=.d (.b7 xs)
attribute [go_sem] iv bv sv lv PV.gZ kR gi look PV.lt oo dU db Option.toList_none mj
end Go.Eng
namespace Go.Eng
open Go.RowKit
section
variable{E:Env}{n0:Nat}{g:G}{c:Code}{Q:Ex→G→Prop}
def uc{A:Type}(P:Program)(n0:Nat)(I:A→Prop)(T:A→G)(μ:A→Nat)(a:A)(Q:Ex→G→Prop):Ex→G→Prop
 | .normal,g=>∃a',I a'∧μ a' < μ a∧kG P n0 g (T a')
 | .exit id,g=>Q (.exit id) g
 | .ret,g=>Q .ret g
def tf{A B:Type}(P:Program)(n0:Nat)(I:A→B→Prop)(T:A→B→G)(μ:A→B→Nat)(a:A)(b:B)(Q:Ex→G→Prop):Ex→G→Prop
 | .normal,g=>∃a' b',I a' b'∧μ a' b' < μ a b∧kG P n0 g (T a' b')
 | .exit id,g=>Q (.exit id) g
 | .ret,g=>Q .ret g
def Ao{A B C:Type}(P:Program)(n0:Nat)(I:A→B→C→Prop)(T:A→B→C→G)(μ:A→B→C→Nat)(a:A)(b:B)(c:C)(Q:Ex→G→Prop):Ex→G→Prop
 | .normal,g=>∃a' b' c',I a' b' c'∧μ a' b' c' < μ a b c∧kG P n0 g (T a' b' c')
 | .exit id,g=>Q (.exit id) g
 | .ret,g=>Q .ret g
theorem aI(hm:E.P.follows .mixedOrders=true){A:Type}(I:A→Prop)(T:A→G)(μ:A→Nat)(a0:A)(hi:I a0)(h0:kG E.P n0 g (T a0))
 (round:∀a,I a→BM E n0 c .on (T a) (fun _=>uc E.P n0 I T μ a Q)):W E.P n0 (.loop c) g Q:=by
 refine Nf (α:={a // I a}) (fun x=>T x.1) (fun x=>μ x.1) ⟨a0,hi⟩ h0 ?_
 rintro⟨a,ha⟩
 have h:=EG hm c _ _ (round a ha)
 have e:(uc E.P n0 I T μ a Q)=(FO E.P n0 (fun x:{a // I a}=>T x.1) (fun x=>μ x.1) ⟨a,ha⟩ Q):=by
  funext e g'
  cases e with
  | normal=>
    simp only[uc,FO]
    apply propext
    exact⟨fun⟨a',h1,h2,h3⟩=>⟨⟨a',h1⟩,h2,h3⟩,fun⟨⟨a',h1⟩,h2,h3⟩=>⟨a',h1,h2,h3⟩⟩
  | exit id=>rfl
  | ret=>rfl
 rw[←e]
 exact h
theorem pr(hm:E.P.follows .mixedOrders=true){A B:Type}(I:A→B→Prop)(T:A→B→G)(μ:A→B→Nat)(a0:A)(b0:B)(hi:I a0 b0)(h0:kG E.P n0 g (T a0 b0))
 (round:∀a b,I a b→BM E n0 c .on (T a b) (fun _=>tf E.P n0 I T μ a b Q)):W E.P n0 (.loop c) g Q:=by
 refine aI hm (A:=A×B) (fun x=>I x.1 x.2) (fun x=>T x.1 x.2) (fun x=>μ x.1 x.2) (a0,b0) hi h0 ?_
 rintro⟨a,b⟩ h
 have h:=round a b h
 have e:(tf E.P n0 I T μ a b Q)=(uc E.P n0 (fun x:A×B=>I x.1 x.2) (fun x=>T x.1 x.2) (fun x=>μ x.1 x.2) (a,b) Q):=by
  funext e g'
  cases e with
  | normal=>
    simp only[uc,tf]
    apply propext
    exact⟨fun⟨a',b',h1,h2,h3⟩=>⟨(a',b'),h1,h2,h3⟩,fun⟨(a',b'),h1,h2,h3⟩=>⟨a',b',h1,h2,h3⟩⟩
  | exit id=>rfl
  | ret=>rfl
 rw[e] at h
 exact h
theorem kL(hm:E.P.follows .mixedOrders=true){A B D:Type}(I:A→B→D→Prop)(T:A→B→D→G)(μ:A→B→D→Nat)(a0:A)(b0:B)(d0:D)(hi:I a0 b0 d0)(h0:kG E.P n0 g (T a0 b0 d0))
 (round:∀a b d,I a b d→BM E n0 c .on (T a b d) (fun _=>Ao E.P n0 I T μ a b d Q)):W E.P n0 (.loop c) g Q:=by
 refine pr hm (A:=A) (B:=B×D) (fun a x=>I a x.1 x.2) (fun a x=>T a x.1 x.2) (fun a x=>μ a x.1 x.2) a0 (b0,d0) hi h0 ?_
 rintro a ⟨b,d⟩ h
 have h:=round a b d h
 have e:(Ao E.P n0 I T μ a b d Q)=(tf E.P n0 (fun a (x:B×D)=>I a x.1 x.2) (fun a x=>T a x.1 x.2) (fun a x=>μ a x.1 x.2) a (b,d) Q):=by
  funext e g'
  cases e with
  | normal=>
    simp only[Ao,tf]
    apply propext
    exact⟨fun⟨a',b',d',h1,h2,h3⟩=>⟨a',(b',d'),h1,h2,h3⟩,fun⟨a',(b',d'),h1,h2,h3⟩=>⟨a',b',d',h1,h2,h3⟩⟩
  | exit id=>rfl
  | ret=>rfl
 rw[e] at h
 exact h
end
theorem wu{α:Type}{l:List α}{i:Nat}(h:i<l.length)(d:α):l.getD i d=l[i]:=by simp[bK,ab h]
mutual
theorem Nl{g:G}{m:List (Option Nat)}:∀{p:PV},p.lt 0=true→wk g m p p
 | .agg cs,h=>by simp only[PV.lt] at h;simp only[wk];exact aS h
 | .gN cs,h=>by simp only[PV.lt] at h;simp only[wk];exact aS h
 | .fn f cs,h=>by simp only[PV.lt] at h;simp only[wk,true_and];exact aS h
 | .any,_=>by simp only[wk]
 | .undef,_=>by simp only[wk]
 | .aV,_=>by simp only[wk]
 | .d _,_=>by simp only[wk]
 | .di _ _ _,_=>by simp only[wk,and_self]
 | .ptr _ _,h=>by simp[PV.lt] at h
 | .acc _,h=>by simp[PV.lt] at h
 | .dv _ _ _ _,h=>by simp[PV.lt] at h
theorem aS{g:G}{m:List (Option Nat)}:∀{ps:List PV},oo 0 ps=true→rB g m ps ps
 | [],_=>by simp only[rB]
 | p::ps,h=>by
   simp only[oo,ae] at h
   simp only[rB]
   exact⟨Nl h.1,aS h.2⟩
end
theorem LH(a b:Int):(a != b)= !decide (a=b):=by
 by_cases h:a=b<;>simp[h]
theorem KO(a b:Int):(a == b)=decide (a=b):=by
 by_cases h:a=b<;>simp[h]
theorem KL(a b:List UInt8):(a == b)=decide (a=b):=by
 by_cases h:a=b<;>simp[h]
theorem Jr(x:List D)(xs:List (List D)):row (x::xs) 0=x:=rfl
attribute [go_sem] Jr
theorem K1(e0:En)(Q:En→Prop):(∃e,some e0=some e∧Q e)=Q e0:=by
 apply propext
 constructor
 ·rintro⟨e,h,hq⟩
  cases h
  exact hq
 ·intro hq
  exact⟨_,rfl,hq⟩
theorem BR(n:Nat):((no_index (OfNat.ofNat n):Nat):Int)=OfNat.ofNat n:=rfl
theorem Ir(e0:En):(∃e,some e0=some e)=True:=eq_true ⟨_,rfl⟩
theorem Le(xs ys:List (List D)):(D.b7 xs=D.b7 ys)=(xs=ys):=by simp
attribute [go_sem] aw List.not_mem_nil or_false forall_eq List.length_take List.length_map
attribute [go_sem] Int.natCast_add Int.natCast_one Int.natCast_zero BR Ir ite_true ite_false K1 Le List.take_zero eq_self
attribute [go_sem] LH KO KL
attribute [go_sem] bO bB List.append_nil
theorem H2(ps:List PV):yb ps ps=True:=eq_true (BA ps)
attribute [go_sem] cv yb H2
theorem fm{m:Option (List Ky)}{gs:Option Nat}{d:Nat}{ty:TypeId}{pos:String}{cP:Array Edge}{gd:Option (Nat×Bool)}{E:Env}{g:G}{rest:lK→Option (List Ky)→G→Prop}{iB:Operand}{xs:List Operand}{tys:Array TypeId}{f:FuncId}(cap:List PV){bA:List PV}{res:PV}
 (hC:C E.P f bA [] (bw res [])) (h:g.ev iB= .fn f cap∧yb (Gl g xs++cap) bA∧oo 0 bA=true∧res.lt 0=true)
 (hr:rest .on (ji m (j9 (o3 gs ⟨bZ iB++tg xs,[]⟩) ⟨some (d,res),[]⟩)) (g.app ⟨some (d,res),[]⟩)):oB E m gs ⟨some d,.call ⟨.value iB,⟨xs⟩,tys⟩,ty,pos,cP,gd⟩ g rest:=by
 rw[pF] at hr
 rw[tz] at h
 exact mC (JJ iB xs tys f cap h.1 bA res hC h.2.1 h.2.2.1 h.2.2.2) hr
theorem ja{m:Option (List Ky)}{gs:Option Nat}{d:Nat}{ty:TypeId}{pos:String}{cP:Array Edge}{gd:Option (Nat×Bool)}{E:Env}{g:G}{rest:lK→Option (List Ky)→G→Prop}{iB:Operand}{xs:List Operand}{tys:Array TypeId}{f:FuncId}(cap:List PV)(ks:List Nat){bA:List PV}{res:PV}
 (hC:C E.P f bA [] (bw res [])) (h1:g.ev iB= .fn f cap) (h2:pY g ks (Gl g xs++cap) bA) (h3:sc res=true)
 (hr:rest .on (ji m (j9 (o3 gs ⟨bZ iB++tg xs,ks⟩) ⟨some (d,res),[]⟩)) (g.app ⟨some (d,res),[]⟩)):oB E m gs ⟨some d,.call ⟨.value iB,⟨xs⟩,tys⟩,ty,pos,cP,gd⟩ g rest:=by
 rw[pF] at hr
 rw[tz] at h2
 exact mC (Lq iB xs tys f cap h1 ks bA res hC h2 h3) hr
def JM(k:Nat):List Nat→Bool
 | []=>false
 | j::js=>xp k j||JM k js
theorem xj:∀(k:Nat),xp k k=true
 | 0=>rfl
 | k+1=>xj k
theorem FI{k:Nat}:∀{m:List Nat},k∈m→JM k m=true
 | [],h=>by simp at h
 | j::js,h=>by
   simp only[JM,fF]
   rcases aw.1 h with rfl|h
   ·exact .inl (xj _)
   ·exact .inr (FI h)
def Da:List Nat→Bool
 | []=>true
 | k::ks=>!JM k ks&&Da ks
theorem Ax:∀{m:List Nat},Da m=true→m.Nodup
 | [],_=>by simp
 | k::ks,h=>by
   simp only[Da,ae,Bool.not_eq_true'] at h
   refine List.nodup_cons.2 ⟨fun hk=>?_,Ax h.2⟩
   rw[FI hk] at h
   cases h.1
def xB:List Nat→Nat
 | []=>0
 | _::as=>xB as+1
theorem vM:∀(l:List Nat),xB l=l.length
 | []=>rfl
 | _::as=>by simp[xB,vM as]
theorem bT{m:Option (List Ky)}{gs:Option Nat}{d:Nat}{ty:TypeId}{pos:String}{cP:Array Edge}{gd:Option (Nat×Bool)}{E:Env}{g:G}{rest:lK→Option (List Ky)→G→Prop}{iB:Operand}{xs:List Operand}{tys:Array TypeId}{f:FuncId}(cap:List PV)(M:List Nat){bA:List PV}{cE st':List (Option En)}{res:PV}
 (hC:C E.P f bA cE (bw res st')) (h:g.ev iB= .fn f cap∧yb (Gl g xs++cap) (kR M bA)∧oo (gI cE) bA=true∧Da M=true∧pM (gI cE) (xB M)=true∧pM (gI cE) (gI st')=true∧pM (gI st') (xB M)=true∧jj g M (gI cE) M cE∧eL g (gI cE) M)
 (hr:rest .on (ji m (j9 (o3 gs ⟨bZ iB++tg xs,M⟩) ⟨some (d,res.gZ M),gi M M st'⟩)) (g.app ⟨some (d,res.gZ M),gi M M st'⟩)):oB E m gs ⟨some d,.call ⟨.value iB,⟨xs⟩,tys⟩,ty,pos,cP,gd⟩ g rest:=by
 rw[pF] at hr
 rw[tz] at h
 obtain⟨h1,h2,h3,h4,h5,h6,h7,h8,h9⟩:=h
 have h5:=gg h5
 have h6:=gg h6
 have h7:=gg h7
 rw[iR,vM] at h5
 rw[iR,iR] at h6
 rw[iR,vM] at h7
 rw[iR] at h3 h8 h9
 exact mC (FC iB xs tys f cap h1 M bA cE st' res hC h2 h3 (Ax h4) h5 h8 h9 h6 h7) hr
theorem O7{E:Env}{rs:List ResultVar}{n0:Nat}{g:G}{ps:List PV}{q:PV}{st':List (Option En)}(m:List (Option Nat))(h1:qJ E g rs=some ps)(h2:rB ⟨[gf ps],g.st⟩ m [gf ps] [q]∧hE ⟨[gf ps],g.st⟩ m m st')(h3:uh m st'=true)(h4:keeps n0 0 m=true):qG E rs n0 (bw q st') g:=
 ⟨ps,m,q,st',h1,⟨h2.1,h2.2,h3,h4⟩,rfl,rfl⟩
theorem ak{E:Env}{rs:List ResultVar}{g:G}{q:PV}(h:(qJ E g rs).elim False fun ps=>wk ⟨[gf ps],g.st⟩ [] (gf ps) q):qG E rs 0 (bw q []) g:=by
 cases hps:qJ E g rs with
 | none=>rw[hps] at h;exact h.elim
 | some ps=>rw[hps] at h;exact O6 hps h
theorem bh{E:Env}{rs:List ResultVar}{n0:Nat}{g:G}{q:PV}{st':List (Option En)}(m:List (Option Nat))(h:(qJ E g rs).elim False fun ps=>rB ⟨[gf ps],g.st⟩ m [gf ps] [q]∧hE ⟨[gf ps],g.st⟩ m m st')(h3:uh m st'=true)(h4:keeps n0 0 m=true):qG E rs n0 (bw q st') g:=by
 cases hps:qJ E g rs with
 | none=>rw[hps] at h;exact h.elim
 | some ps=>rw[hps] at h;exact O7 m hps h h3 h4
attribute [go_sem] Option.elim_some
attribute [go_sem] Da xB JM jj eL En.gZ En.lt En.live fR gv Bool.or_true Bool.true_or Bool.or_false Bool.false_or aK Bool.and_false
attribute [go_sem] sc NL
attribute [go_sem] uc tf Ao Hg and_true true_and and_self Int.natCast_nonneg fM Int.toNat_zero Nat.zero_lt_succ bV eD ar aA Int.ofNat_lt Int.ofNat_le Int.ofNat_inj decide_true decide_false fR gv aq List.length_nil gt_iff_lt ge_iff_le
attribute [go_sem] Bool.true_and Bool.and_true Bool.and_self beq_self_eq_true
theorem iL(ν:Nat→Nm)(b:Nat):¬Own ν (bR []) b:=by
 rintro⟨k,e,h,_⟩
 cases k<;>simp[bR] at h
section
variable{P:Program}{X:Cx}{vs:List Value}{e:TypeId}{xs:List (List D)}{rest:List PV}
theorem GS(hr:oo 0 rest=true)(hs:Sat P X X.ν0 ⟨.acc 0::rest,[some (.acc e xs)]⟩ ⟨⟨vs⟩,[]⟩ X.w0) :
 Sat P ⟨X.w0,Own X.ν0 (bR []),X.ν0,bR [],X.Z⟩ X.ν0 ⟨.d (.b7 xs)::rest,[]⟩ ⟨⟨vs⟩,[]⟩ X.w0:=by
 have hw:∀b,bm X X.ν0 (G.at ⟨.acc 0::rest,[some (.acc e xs)]⟩) b→b<X.w0.heap.size→bm ⟨X.w0,Own X.ν0 (bR []),X.ν0,bR [],X.Z⟩ X.ν0 (G.at ⟨.d (.b7 xs)::rest,[]⟩) b∧X.w0.heap[b]?=X.w0.heap[b]?:=fun b hb _=>⟨⟨iL _ b,hb.2⟩,rfl⟩
 have fX:∀k,G.at ⟨.d (.b7 xs)::rest,[]⟩ k=none:=fun _=>rfl
 refine⟨hs.size,fun t=>?_,fun k e h=>?_,fun k k' e e' b h=>?_,fun b hb=>?_,fun k h=>?_,fun k h=>?_,⟨fun b hb=>?_,hs.kt rfl fun b hb=>(iL _ b hb).elim⟩,nv.refl _ _,rfl⟩
 ·cases t with
  | zero=>
    have h:=hs.sl 0
    simp only[nth,aj] at h⊢
    rw[h.2]
    obtain⟨us,h1,h2,h3,_⟩:=hs.en 0 (.acc e xs) rfl
    exact nB h1 h2 h3 (fun b hb=>⟨iL _ b,hs.BK ⟨0,_,rfl,rfl,.inl hb⟩⟩) hw
  | succ t=>
    have h:=hs.sl (t+1)
    simp only[nth] at h⊢
    have hl:∀(ps:List PV)(t:Nat),oo 0 ps=true→(nth ps t).lt 0=true:=by
     intro ps
     induction ps with
     | nil=>intro t _;rfl
     | cons p ps ih=>
       intro t h
       simp only[oo,ae] at h
       cases t with
       | zero=>exact h.1
       | succ t=>exact ih t h.2
    exact aj.FP hw _ _ (hl rest t hr) h
 ·rw[fX] at h;cases h
 ·rw[fX] at h;cases h
 ·exact(iL _ b hb).elim
 ·rw[fX] at h;cases h
 ·cases k<;>simp[bR] at h
 ·exact⟨(hs.wx b hb).1,iL _ b⟩
theorem MT{f:FuncId}{e':TypeId}{ys:List (List D)}(hr:oo 0 rest=true)(hC:C P f (.d (.b7 xs)::rest) [] (bw (.acc 0) [some (.acc e' ys)])):C P f (.acc 0::rest) [some (.acc e xs)] (bw (.acc 1) [some .dead,some (.acc e' ys)]):=by
 refine⟨hC.1,fun X vs dh hO hs=>?_⟩
 refine(hC.2 _ vs rfl rfl (GS hr hs)).mono ?_
 rintro ex w' ⟨v,_,_,ν',rfl,⟨rfl,rfl⟩,dX⟩
 refine⟨v,_,_,fun|0=>X.ν0 0|k+1=>ν' k,rfl,⟨rfl,rfl⟩,?_⟩
 have fX:∀k e,G.at ⟨[.acc 1],[some .dead,some (.acc e' ys)]⟩ k=some e→e.live=true→k=1∧e= .acc e' ys:=by
  intro k e h hl
  match k,h with
  | 0,h=>
    obtain rfl:En.dead=e:=by simpa[G.at,bR] using h
    cases hl
  | 1,h=>exact⟨rfl,by simpa[G.at,bR] using h.symm⟩
  | k+2,h=>simp[G.at,bR] at h
 have dP:∀b,Own (fun|0=>X.ν0 0|k+1=>ν' k) (G.at ⟨[.acc 1],[some .dead,some (.acc e' ys)]⟩) b↔Own ν' (G.at ⟨[.acc 0],[some (.acc e' ys)]⟩) b:=by
  intro b
  constructor
  ·rintro⟨k,e,h,hl,hb⟩
   obtain⟨rfl,rfl⟩:=fX k e h hl
   exact⟨0,_,rfl,rfl,hb⟩
  ·rintro⟨k,e,h,hl,hb⟩
   match k,h with
   | 0,h=>
     obtain rfl:En.acc e' ys=e:=by simpa[G.at,bR] using h
     exact⟨1,_,rfl,rfl,hb⟩
   | k+1,h=>simp[G.at,bR] at h
 have hw:∀b,bm (⟨X.w0,Own X.ν0 (bR []),X.ν0,bR [],X.Z⟩:Cx) ν' (G.at ⟨[.acc 0],[some (.acc e' ys)]⟩) b→b<w'.heap.size→bm X (fun|0=>X.ν0 0|k+1=>ν' k) (G.at ⟨[.acc 1],[some .dead,some (.acc e' ys)]⟩) b∧w'.heap[b]?=w'.heap[b]?:=fun b hb _=>⟨⟨fun h=>hb.1 ((dP b).1 h),hb.2⟩,rfl⟩
 refine⟨rfl,fun t=>?_,fun k e h=>?_,fun k k' e e2 b h1 h2 hl hl2 _ _=>?_,fun b hb=>?_,fun k h=>?_,fun k h=>?_,hs.wx,dX.qp.mono fun b hb _=>(iL _ b hb).elim,rfl⟩
 ·cases t with
  | zero=>
    have h:=dX.sl 0
    simp only[nth,aj] at h⊢
    exact⟨rfl,h.2⟩
  | succ t=>exact trivial
 ·match k,h with
  | 0,h=>
    obtain rfl:En.dead=e:=by simpa[G.at,bR] using h
    exact trivial
  | 1,h=>
    obtain rfl:En.acc e' ys=e:=by simpa[G.at,bR] using h
    obtain⟨us,h1,h2,h3⟩:=dX.en 0 _ rfl
    exact⟨us,h1,h2.frame hw (ar _),h3⟩
  | k+2,h=>simp[G.at,bR] at h
 ·rw[(fX k e h1 hl).1,(fX k' e2 h2 hl2).1]
 ·rcases dX.base b ((dP b).1 hb) with h|h
  ·exact(iL _ b h).elim
  ·exact .inr h
 ·match k,h with
  | 0,_=>exact hs.nu 0 rfl
  | 1,_=>exact dX.nu 0 rfl
  | k+2,h=>simp[G.at,bR] at h
 ·rw[dh] at h
  match k,h with
  | 0,_=>exact⟨rfl,rfl⟩
  | k+1,h=>simp[bR] at h
end
def qL(M:List Nat):List Nat→Nat
 | []=>0
 | j::js=>Nat.lor (Nat.lor (Nat.pow 2 j) (M.getD j 0)) (qL M js)
def Kr:List Oper→List Nat→List Nat
 | [],M=>M
 | o::os,M=>Kr os (M++[qL M (gB o)])
def Gv(b k:Nat):Bool:=eU (Nat.land (Nat.shiftRight b k) 1) 1
def vO(b:Nat)(y:Ky):Nat→List Ky→Bool
 | _,[]=>true
 | j,x::xs=>(Gv b j|| !(x.qq y))&&vO b y (j+1) xs
def wa(M:List Nat):Nat→List Ky→List Ky→Bool
 | _,_,[]=>true
 | i,pre,y::ys=>vO (M.getD i 0) y 0 pre&&wa M (i+1) (pre++[y]) ys
def AV(os:List Oper)(L:List Ky):Bool:=Hs 0 os&&wa (Kr os []) 0 [] L
theorem vX(b k:Nat):Gv b k=b.testBit k:=by
 simp only[Gv,Nat.testBit]
 have h:Nat.land (Nat.shiftRight b k) 1=(b >>> k) &&& 1:=rfl
 rw[h,Nat.and_comm 1 (b >>> k),Nat.and_one_is_mod]
 rcases Nat.mod_two_eq_zero_or_one (b >>> k) with h2|h2<;>rw[h2]<;>rfl
def OS(T:List (List Nat))(M:List Nat):Prop:=T.length=M.length∧∀j k,oP k (T.getD j [])=Gv (M.getD j 0) k
theorem CJ{a b:Bool}(h:a=true↔b=true):a=b:=by
 cases a<;>cases b<;>simp_all
theorem Ha(k j:Nat)(l:List Nat):oP k (j::l)=(decide (j=k)||oP k l):=by
 apply CJ
 simp only[kI,aw,fF,decide_eq_true_eq]
 exact⟨fun h=>h.imp Eq.symm id,fun h=>h.imp Eq.symm id⟩
theorem Iu(k:Nat)(l l':List Nat):oP k (l++l')=(oP k l||oP k l'):=by
 apply CJ
 simp only[kI,List.mem_append,fF]
theorem xx{T:List (List Nat)}{M:List Nat}(h:OS T M)(k:Nat):∀(js:List Nat),oP k (nU T js)=Gv (qL M js) k
 | []=>by
   simp only[nU,qL,vX,Nat.zero_testBit]
   rfl
 | j::js=>by
   have e:Nat.lor (Nat.lor (Nat.pow 2 j) (M.getD j 0)) (qL M js)=(2 ^ j ||| M.getD j 0) ||| qL M js:=rfl
   simp only[nU,qL,e,Ha,Iu,xx h k js,h.2 j k]
   simp only[vX,Nat.testBit_or,Nat.testBit_two_pow,Bool.or_assoc]
theorem Cm:∀(os:List Oper){T:List (List Nat)}{M:List Nat},OS T M→OS (sm os T) (Kr os M)
 | [],_,_,h=>h
 | o::os,T,M,h=>by
   simp only[sm,Kr]
   refine Cm os ⟨by simp[h.1],fun j k=>?_⟩
   rcases Nat.lt_trichotomy j T.length with hj|hj|hj
   ·have hj':j<M.length:=by rw[←h.1];exact hj
    have:=h.2 j k
    rw[aB,aB] at this⊢
    rwa [aZ hj,aZ hj']
   ·subst hj
    have hM:M.length≤T.length:=by rw[h.1];exact ar _
    rw[aB,aB,aX (ar _),aX hM,←h.1]
    simp only[gG,List.getElem?_cons_zero,Option.getD_some]
    exact xx h k _
   ·have hj':M.length<j:=by rw[←h.1];exact hj
    rw[aB,aB,bM (by simp;omega),bM (by simp;omega)]
    simp only[gu,vX,Nat.zero_testBit]
    rfl
theorem xA{b:List Nat}{c:Nat}(h:∀k,oP k b=Gv c k)(y:Ky):∀(j:Nat)(l:List Ky),vO c y j l=tl b y j l
 | _,[]=>rfl
 | j,x::xs=>by simp only[vO,tl,h,xA h y (j+1) xs]
theorem xW{T:List (List Nat)}{M:List Nat}(h:OS T M):∀(i:Nat)(pre l:List Ky),wa M i pre l=tb T i pre l
 | _,_,[]=>rfl
 | i,pre,y::ys=>by simp only[wa,tb,xA (h.2 i),xW h (i+1)]
theorem tV{os:List Oper}{L:List Ky}(h:AV os L=true):indep os L=true:=by
 simp only[AV,ae] at h
 simp only[indep,ae]
 refine⟨h.1,?_⟩
 rw[←xW (Cm os (T:=[]) (M:=[]) ⟨rfl,fun j k=>?_⟩)]
 ·exact h.2
 ·simp only[List.getD_nil,vX,Nat.zero_testBit]
  rfl
theorem CQ{os:List Oper}{L:List Ky}{p:Prop}(h:AV os L=true)(hp:p):indep os L=true∧p:=⟨tV h,hp⟩
theorem pY.nth{g:G}{ks:List Nat}:∀{ps qs:List PV},pY g ks ps qs→∀t,Vw g ks (nth ps t) (nth qs t)
 | _,_,.nil,t=>by cases t<;>exact .same rfl
 | _,_,.cons h _,0=>h
 | _,_,.cons _ h',t+1=>pY.nth h' t
theorem pY.len{g:G}{ks:List Nat}:∀{ps qs:List PV},pY g ks ps qs→qs.length=ps.length
 | _,_,.nil=>rfl
 | _,_,.cons _ h'=>by simp only[aq,pY.len h']
section
variable{P:Program}{X:Cx}{vs:List Value}{e:TypeId}{xs:List (List D)}
end
section
variable{E:Env}{g:G}{d:Nat}{ty:TypeId}{pos:String}{cP:Array Edge}{gd:Option (Nat×Bool)}
theorem AJ{P:Program}(w:World)(n:Nat)(t e:TypeId)(a:Option Addr)(l c:Nat)(h:P.underlying t=some (.slice e)):(Op.equalIn (n+1) t (.slice a l c) (.slice none 0 0)).run P w= .ok a.isNone w:=by
 cases a<;>simp[Op.equalIn,run_underlying h]
theorem DN{P:Program}(w:World)(t e:TypeId)(a:Option Addr)(l c:Nat)(h:P.underlying t=some (.slice e)):(Op.equal t (.slice a l c) (.slice none 0 0)).run P w= .ok a.isNone w:=AJ w 9999 t e a l c h
theorem Ic(x:Operand)(t e u:TypeId)(ti:TI)(b:Bool)(ht:E.ti t=some ti)(fW:ti.ty= .slice e)(hp:∀(w:World)(ok:Nat→Prop)(ν:Nat→Nm)(st:Nat→Option En)(v:Value),aj w ok ν st (g.ev x) v→∃a n c,v= .slice a n c∧a.isNone=b) :
 gL E.P ⟨some d,.binOp .eql t x (.const (.slice none 0 0)) u,ty,pos,cP,gd⟩ g ⟨bZ x,[]⟩ ⟨some (d,.d (.val (.bool b))),[]⟩:=by
 intro g2 hg
 have h1:=hg.ev (x:=x) (fun t h=>h)
 refine yP.val rfl fun X ν a w hs=>?_
 have hv:=hs.ev x
 rw[h1] at hv
 obtain⟨ad,n,c,hva,hb⟩:=hp _ _ _ _ _ hv
 have h:=(E.ok t ti ht).ty
 rw[fW] at h
 refine⟨.bool b,?_,ig rfl⟩
 have he:a.eval (.const (.slice none 0 0))= .slice none 0 0:=rfl
 simp[execOp,hva,he,eqGuard,binOp,DN w t e ad n c h,hb]
theorem pV:∀(w:World)(ok:Nat→Prop)(ν:Nat→Nm)(st:Nat→Option En)(v:Value),aj w ok ν st .aV v→∃a n c,v= .slice a n c∧a.isNone=true:=by
 intro w ok ν st v h
 simp only[aj] at h
 exact⟨_,_,_,h,rfl⟩
theorem ta(ad:Addr)(n c:Nat):∀(w:World)(ok:Nat→Prop)(ν:Nat→Nm)(st:Nat→Option En)(v:Value),aj w ok ν st (.d (.val (.slice (some ad) n c))) v→∃a n c,v= .slice a n c∧a.isNone=false:=by
 intro w ok ν st v h
 exact⟨_,_,_,fK h,rfl⟩
theorem td{x:List D}{xs:List (List D)}:∀(w:World)(ok:Nat→Prop)(ν:Nat→Nm)(st:Nat→Option En)(v:Value),aj w ok ν st (.d (.b7 (x::xs))) v→∃a n c,v= .slice a n c∧a.isNone=false:=by
 intro w ok ν st v h
 simp only[aj] at h
 cases h with
 | b7=>exact⟨_,_,_,rfl,rfl⟩
theorem qw{m:Option (List Ky)}{gs:Option Nat}{rest:lK→Option (List Ky)→G→Prop}{x:Operand}{t u:TypeId}(e:TypeId)(ti:TI)(b:Bool)(ht:E.ti t=some ti)(fW:ti.ty= .slice e){p:PV}(hx:g.ev x=p)(hp:∀(w:World)(ok:Nat→Prop)(ν:Nat→Nm)(st:Nat→Option En)(v:Value),aj w ok ν st p v→∃a n c,v= .slice a n c∧a.isNone=b)
 (hr:rest .on (ji m (j9 (o3 gs ⟨bZ x,[]⟩) ⟨some (d,.d (.val (.bool b))),[]⟩)) (g.app ⟨some (d,.d (.val (.bool b))),[]⟩)):oB E m gs ⟨some d,.binOp .eql t x (.const (.slice none 0 0)) u,ty,pos,cP,gd⟩ g rest:=
 mC (Ic x t e u ti b ht fW (by rw[hx];exact hp)) hr
end
theorem FM{P:Program}{f:FuncId}{R:PV→List (Option En)→Prop}(h1:C P f [.aV] [] R)(h2:∀a c,C P f [.d (.val (.slice (some a) 0 c))] [] R):C P f [.d (.b7 [])] [] R:=by
 refine⟨h1.1,fun X vs dh hO hs=>?_⟩
 have hsz:=hs.size
 obtain⟨v,rfl⟩:=cj.1 (show vs.length=1 by simpa using hsz)
 have h0:=hs.sl 0
 have h0:dC X.w0 (bm X X.ν0 (G.at ⟨[.d (.b7 [])],[]⟩)) (.b7 []) v:=h0
 have key:∀p:PV,aj X.w0 (bm X X.ν0 (G.at ⟨[p],[]⟩)) X.ν0 (G.at ⟨[p],[]⟩) p v→Sat P X X.ν0 ⟨[p],[]⟩ ⟨⟨[v]⟩,[]⟩ X.w0:=fun p hp=>
  ⟨rfl,fun t=>by
   match t with
   | 0=>exact hp
   | t+1=>simp only[nth,aj],hs.en,hs.inj,hs.base,hs.nu,hs.par,hs.wx,hs.qp,rfl⟩
 cases h0 with
 | nil=>exact h1.2 X _ dh hO (key .aV rfl)
 | emp a c h=>exact(h2 a c).2 X _ dh hO (key _ (ig rfl))
 | b7 _ us b off cap sz kC hb fV hmax hB hlu hxx hu hc fC=>exact(h2 _ cap).2 X _ dh hO (key _ (ig rfl))
theorem yc(z:Array Value)(hz:0<z.toList.length)(n:Nat):(Builtin.zeroCells z n).toList=(au n z.toList).flatten:=z8 z.toList hz n
theorem oM{P:Program}(w:World)(t e ty:TypeId)(ht:P.underlying t=some (.slice e))(a:Option Addr)(c:Nat):(Builtin.clear_ #[t] ty #[.slice a 0 c]).run P w= .ok (.tuple #[]) w:=by
 cases a<;>simp[Builtin.clear_,run_underlying ht]
theorem zh{P:Program}(w:World)(t e ty:TypeId)(z:Value)(ht:P.underlying t=some (.slice e))(hv:(zeroValue e).run P w= .ok z w)(b o n c:Nat)(hn:n≠0)(hz:0<z.cells.toList.length)
 (cur:Array Value) (T:TypeId) (hg:w.heap[b]?=some (.cells cur T (0,0))) (hl:o+(au n z.cells.toList).flatten.length≤cur.size) (h1:∀v∈(au n z.cells.toList).flatten,v.oneCell'=true) :
 (Builtin.clear_ #[t] ty #[.slice (some ⟨b,o,none⟩) n c]).run P w= .ok (.tuple #[]) (w.setRow b (cur.toList.take o++(au n z.cells.toList).flatten++cur.toList.drop (o+(au n z.cells.toList).flatten.length)).toArray):=by
 have dh:=run_storeCells_at (P:=P) b o T (au n z.cells.toList).flatten 0 cur w hg (by omega) h1
 simp only[eD] at dh
 obtain⟨m,rfl⟩:∃m,n=m+1:=⟨n-1,by omega⟩
 rw[←yc z.cells hz] at dh⊢
 simp[Builtin.clear_,run_underlying ht,hv,dh]
section
variable{E:Env}{X:Cx}{ν:Nat→Nm}{g:G}{a:Act}{w:World}
def Ca(z:List D)(xs:List (List D))(m:Nat):List (List D):=xs.take m++au (xs.length-m) z
theorem HY{t e k m dd:Nat}{ty:TypeId}{pos:String}{cP:Array Edge}{gd:Option (Nat×Bool)}{xs:List (List D)}{z:List D}{ti ei:TI}(ht:E.ti t=some ti)(fW:ti.ty= .slice e)(he:E.ti e=some ei)(hz:qE ei.zero=some z)
 (hk:g.at k=some (.acc e xs)) (hm:m≤xs.length) (n c:Nat) (a0:Option Addr) (hν:(ν k).v= .slice a0 n c) (hv:a.eval (.tmp dd)=sliced a0 m n c ei.n)
 (hs:Sat E.P X ν g a w) (next:Act→World→Prop) (Q:Exit→Act→World→Prop) (hn:∀ν' a' w',Sat E.P X ν' ⟨g.sl,bG g.st k (some (.acc e (Ca z xs m)))⟩ a' w'→next a' w') :
 (⟨none,.call ⟨.builtin .clear,#[.tmp dd],#[t]⟩,ty,pos,cP,gd⟩:Oper).wp E.P a w next Q:=by
 have hu:=(E.ok t ti ht).ty
 rw[fW] at hu
 obtain⟨i,zv,i1,i2,i3,i4,i5,i6⟩:=(E.ok e ei he).info
 have hpos:=(E.ok e ei he).pos
 have hzl:zv.cells.toList.length=ei.n:=by simpa using i6
 have hzv:(zeroValue e).run E.P w= .ok zv w:=by simp[zeroValue,typeInfo,i1,i4]
 obtain⟨us,ho,fC,hB,hf0⟩:=hs.en k _ hk
 rw[(E.ok e ei he).cells] at fC ho
 have hul:us.length=xs.length:=fC.len
 have hfl:=fC.ij
 have key:∀(w':World)(us':List (List Value)),(execOp a.eval ⟨none,.call ⟨.builtin .clear,#[.tmp dd],#[t]⟩,ty,pos,cP,gd⟩).run E.P w= .ok (.value (.tuple #[])) w'→nv (fun b=>(ν k).has b) w w' →
  (w'.ownsRow 0 e ei.n (ν k).v (Ca z xs m).length us'.flatten)→bg w (bm X ν g.at) ei.n (Ca z xs m) us' →
  (⟨none,.call ⟨.builtin .clear,#[.tmp dd],#[t]⟩,ty,pos,cP,gd⟩:Oper).wp E.P a w next Q:=by
  intro w' us' hr lF kM iO
  unfold Oper.wp
  rw[hr,Oper.upon_value]
  refine hn _ _ _ (hs.xd k (.acc e xs) (.acc e (Ca z xs m)) hk rfl lF none .undef Go.undef ?_ (fun h=>by cases h))
  intro hwf _
  refine⟨us',?_,?_,by simp[Ca];omega,hf0⟩
  ·rw[(E.ok e ei he).cells]
   exact kM
  ·rw[(E.ok e ei he).cells]
   exact iO.frame hwf lF.size
 have hex:∀(v:Value)(w':World),(Builtin.clear_ #[t] ty #[a.eval (.tmp dd)]).run E.P w= .ok v w'→(execOp a.eval ⟨none,.call ⟨.builtin .clear,#[.tmp dd],#[t]⟩,ty,pos,cP,gd⟩).run E.P w= .ok (.value v) w':=by
  intro v w' h
  unfold execOp
  simp only[resolve,invoke,builtin,Sem.run_bind,Sem.run_pure,Result.andThen_ok,List.map_toArray,aR,cK,h]
 rcases ho.2 with⟨h1,h2⟩|⟨b,cap,cur,h1,_,h2,h4,h5,h6,h7⟩
 ·rw[h1] at hν
  obtain⟨rfl,rfl,rfl⟩:none=a0∧0=n∧0=c:=by simpa using hν
  have hm0:m=0:=by omega
  subst hm0
  have hxs:xs=[]:=List.eq_nil_of_length_eq_zero h2
  subst hxs
  refine key w us (hex _ _ ?_) (nv.refl _ w) ?_ ?_
  ·rw[hv]
   exact oM w t e ty hu _ _
  ·exact ho
  ·exact fC
 ·rw[h1] at hν
  obtain⟨rfl,rfl,rfl⟩:some ⟨b,0,none⟩=a0∧xs.length=n∧cap=c:=by simpa using hν
  by_cases kf:m=xs.length
  ·refine key w us (hex _ _ ?_) (nv.refl _ w) ?_ ?_
   ·rw[hv]
    unfold sliced
    rw[kf,gG]
    exact oM w t e ty hu _ _
   ·simpa[Ca,kf] using ho
   ·simpa[Ca,kf] using fC
  ·have hzr:ai w (bm X ν g.at) ν g.at (ff z) zv.cells.toList:=oJ (nC _ _ _ _ zv.cells.toList) (by rw[i5];exact hz)
   obtain⟨hz1,hz2⟩:=sH hzr
   have hrep0:bg w (bm X ν g.at) ei.n (au (xs.length-m) z) (au (xs.length-m) zv.cells.toList):=bg.replicate _ (by rw[←hz1];exact hzl) hzl hz2
   have iO:bg w (bm X ν g.at) ei.n (Ca z xs m) (us.take m++au (xs.length-m) zv.cells.toList):=by
    have:=fC.cut 0 m
    simp only[gr] at this
    exact this.append hrep0
   have hmul:m*ei.n≤xs.length*ei.n:=aY _ hm
   have hZ:(au (xs.length-m) zv.cells.toList).flatten.length=(xs.length-m)*ei.n:=hrep0.ij.trans (by simp)
   have hsum:m*ei.n+(xs.length-m)*ei.n=xs.length*ei.n:=by rw[←Nat.add_mul];congr 1;omega
   have fV:xs.length*ei.n≤cap*ei.n:=aY _ h4
   have ke:=zh (P:=E.P) w t e ty zv hu hzv b (m*ei.n) (xs.length-m) (cap-m) (by omega) (by omega) cur e h2 (by rw[hZ,hsum,h6];exact fV) hrep0.one
   have hval:a.eval (.tmp dd)= .slice (some ⟨b,m*ei.n,none⟩) (xs.length-m) (cap-m):=by
    rw[hv]
    unfold sliced
    rw[if_neg (by omega),db,add_lit,bV]
   refine key _ _ (hex _ _ (by rw[hval];exact ke)) (j7 w b _ _ ((hX hf0).2 (by rw[h1];rfl))) ?_ iO
   have htake:cur.toList.take (m*ei.n)=(us.take m).flatten:=by
    have:=pa us 0 m fC.hu (by omega)
    simp only[gr,lG] at this
    rw[this,←h7,List.take_take,Nat.min_eq_left hmul]
   have hnew:cur.toList.take (m*ei.n)++(au (xs.length-m) zv.cells.toList).flatten=(us.take m++au (xs.length-m) zv.cells.toList).flatten:=by rw[htake,List.flatten_append]
   have hnl:(us.take m++au (xs.length-m) zv.cells.toList).flatten.length=(Ca z xs m).length*ei.n:=iO.ij
   have hcl:(Ca z xs m).length=xs.length:=by simp[Ca];omega
   rw[h1]
   refine⟨hnl,.inr ⟨b,cap,_,by rw[hcl],Nat.zero_le _,setRow_heap w b _ _ e _ h2,by rw[hcl];exact h4,h5,?_,?_⟩⟩
   ·rw[hnew]
    simp only[List.size_toArray,List.length_append,hnl,hcl,List.length_drop,cO,h6,hZ,hsum]
    omega
   ·rw[hnew,hcl]
    simp only
    rw[cG (by rw[hnl,hcl];exact ar _),an (by rw[hnl,hcl];exact ar _)]
end
theorem JO(z:List D)(xs:List (List D))(m:Nat)(h:m≤xs.length):(Ca z xs m).take m=xs.take m:=by
 have e:(xs.take m).length=m:=by simp;omega
 rw[Ca,cG (by omega),an (by omega)]
theorem LC(z:List D)(xs:List (List D))(m:Nat)(h:m≤xs.length):(Ca z xs m).length=xs.length:=by simp[Ca];omega
theorem M3{P:Program}{ops:Array Oper}{o1 o2:Oper}{os:List Oper}{g g':G}{K:G→Prop}(hg1:o1.guard=none)(hg2:o2.guard=none)
 (h:∀(X:Cx)(ν:Nat→Nm)(a:Act)(w:World)(next next1:Act→World→Prop)(Q:Exit→Act→World→Prop),Sat P X ν g a w→(∀ν' a' w',Sat P X ν' g' a' w'→next a' w')→(∀a1 w1,o2.wp P a1 w1 next Q→next1 a1 w1)→o1.wp P a w next1 Q)
 (hr:WO P ops os g' K):WO P ops (o1::o2::os) g K:=by
 intro i hi X ν a w Q hs hn
 have ho1:ops[i]?=some o1:=hi 0 o1 rfl
 have ho2:ops[i+1]?=some o2:=hi 1 o2 rfl
 simp only[aq,List.range'_succ,wpOps,ho1]
 have hrest:=hr (i+2) (fun j o' hj=>by have:=hi (j+2) o' (by simpa using hj);rw[show i+2+j=i+(j+2) from by omega];exact this)
 rw[if_pos (by simp[Region.wanted,hg1])]
 refine .inl (h X ν a w (wpOps P ops Q (List.range' (i+2) os.length)) _ Q hs (fun ν' a' w' hs'=>hrest X ν' a' w' Q hs' hn) fun a1 w1 h2=>?_)
 simp only[ho2]
 rw[if_pos (by simp[Region.wanted,hg2])]
 exact .inl h2
section
variable{E:Env}{g:G}{n0:Nat}
theorem M6{ops:Array Oper}{os:List Oper}{K:G→Prop}{x lo:Operand}{t e k d:Nat}{m:Int}{ty ty2:TypeId}{pos pos2:String}{cP aft2:Array Edge}{xs:List (List D)}(z:List D)(ti ei:TI)(ht:E.ti t=some ti)(fW:ti.ty= .slice e)(he:E.ti e=some ei)(hz:qE ei.zero=some z)
 (hx:g.ev x= .acc k) (hlo:g.ev lo= .d (.val (.int .i64 m))) (hk:g.at k=some (.acc e xs)) (h0:0≤m) (hm:m≤xs.length) (hd:d<g.sl.length)
 (hr:WO E.P ops os ⟨gy g.sl d .any,bG g.st k (some (.acc e (Ca z xs m.toNat)))⟩ K) :
 WO E.P ops (⟨some d,.slice t x (some lo) none none,ty,pos,cP,none⟩::⟨none,.call ⟨.builtin .clear,#[.tmp d],#[t]⟩,ty2,pos2,aft2,none⟩::os) g K:=by
 refine M3 rfl rfl (fun X ν a w next next1 Q hs hn h2=>?_) hr
 have hu:=(E.ok t ti ht).ty
 rw[fW] at hu
 have hv:=hs.ev x
 rw[hx] at hv
 have jT:=hs.ev lo
 rw[hlo] at jT
 have jT:=fK jT
 simp only[aj] at hv
 have hsize:=(E.ok e ei he).size
 have hs1:=hs.put d (p:=.any) (v:=Go.undef) trivial
 obtain⟨us,ho,fC,hB,hf0⟩:=hs.en k _ hk
 have ke:∃n c a0,(ν k).v= .slice a0 n c∧(execOp a.eval ⟨some d,.slice t x (some lo) none none,ty,pos,cP,none⟩).run E.P w= .ok (.value (sliced a0 m.toNat n c ei.n)) w:=by
  rcases ho.2 with⟨h1,h2⟩|⟨b,cap,cur,h1,_,_,h4,_⟩
  ·refine⟨0,0,none,h1,?_⟩
   have hr:=pW (P:=E.P) w hu hsize none 0 0 (some (.int .i64 m)) none m ((0:Nat):Int) (.inr ⟨_,rfl⟩) (.inl ⟨rfl,rfl⟩) h0 (by omega) (fM _) (ar _)
   simp only[execOp,hv.2,h1,jT,dU,db,Sem.run_bind,hr,Result.andThen_ok]
   rfl
  ·refine⟨xs.length,cap,some ⟨b,0,none⟩,h1,?_⟩
   have hr:=pW (P:=E.P) w hu hsize (some ⟨b,0,none⟩) xs.length cap (some (.int .i64 m)) none m (xs.length:Int) (.inr ⟨_,rfl⟩) (.inl ⟨rfl,rfl⟩) h0 (by omega) (fM _) h4
   simp only[aA] at hr
   simp only[execOp,hv.2,h1,jT,dU,db,Sem.run_bind,hr,Result.andThen_ok]
   rfl
 obtain⟨n,c,a0,hν,hr⟩:=ke
 unfold Oper.wp
 rw[hr,Oper.upon_value]
 refine h2 _ _ ?_
 have hs2:=hs.put d (p:=.any) (v:=sliced a0 m.toNat n c ei.n) trivial
 refine HY (g:=⟨gy g.sl d .any,g.st⟩) ht fW he hz hk (by omega) n c a0 hν ?_ hs2 next Q hn
 show(a.put (some d) _).tmps.getD d Go.undef=_
 rw[lY,if_pos ⟨rfl,by rw[hs.size];exact hd⟩]
theorem Ki(x hi:Operand)(t e k:Nat){d:Nat}{ty:TypeId}{pos:String}{cP:Array Edge}{gd:Option (Nat×Bool)}(ti ei:TI)(xs:List (List D))(h:Int)(ht:E.ti t=some ti)(fW:ti.ty= .slice e)(he:E.ti e=some ei)
 (hx:g.ev x= .acc k) (hk:g.at k=some (.acc e xs)) (hhi:g.ev hi= .d (.val (.int .i64 h))) (h0:0≤h) (h1:h≤xs.length) :
 gL E.P ⟨some d,.slice t x none (some hi) none,ty,pos,cP,gd⟩ g ⟨bZ x++bZ hi,[k]⟩ ⟨some (d,.d (.b7 (xs.take h.toNat))),[(k,.dead)]⟩:=by
 intro g2 hg
 have e1:=hg.ev (x:=x) (fun t h=>by simp[h])
 have e2:=hg.ev (x:=hi) (fun t h=>by simp[h])
 have h3:=(hg.p k (by simp)).trans hk
 intro X ν a w next Q hs hn
 have hu:=(E.ok t ti ht).ty
 rw[fW] at hu
 have hv:=hs.ev x
 rw[e1,hx] at hv
 have jT:=hs.ev hi
 rw[e2,hhi] at jT
 have jT:=fK jT
 simp only[aj] at hv
 have hsize:=(E.ok e ei he).size
 obtain⟨hn',rfl⟩:∃n:Nat,h=n:=⟨h.toNat,by omega⟩
 simp only[aA] at hn⊢
 obtain⟨us,ho,fC,hB,hf0⟩:=hs.en k _ h3
 have fX:∀j,(g2.app ⟨some (d,.d (.b7 (xs.take hn'))),[(k,.dead)]⟩).at j=if j=k then some .dead else g2.at j:=fun j=>dp g2.st k (some .dead) j
 have iP:∀j e1,(g2.app ⟨some (d,.d (.b7 (xs.take hn'))),[(k,.dead)]⟩).at j=some e1→e1.live=true→j≠k∧g2.at j=some e1:=by
  intro j e1 h1 h2
  rw[fX] at h1
  by_cases hj:j=k
  ·rw[if_pos hj] at h1
   cases h1;cases h2
  ·rw[if_neg hj] at h1
   exact⟨hj,h1⟩
 have dP:∀b,Own ν (g2.app ⟨some (d,.d (.b7 (xs.take hn'))),[(k,.dead)]⟩).at b→Own ν g2.at b:=by
  rintro b ⟨j,e1,h1,h2,h3⟩
  exact⟨j,e1,(iP j e1 h1 h2).2,h2,h3⟩
 have hw:∀b,bm X ν g2.at b→b<w.heap.size→bm X ν (g2.app ⟨some (d,.d (.b7 (xs.take hn'))),[(k,.dead)]⟩).at b∧w.heap[b]?=w.heap[b]?:=fun b hb _=>⟨⟨fun ho=>hb.1 (dP b ho),hb.2⟩,rfl⟩
 have ke:∃v,(execOp a.eval ⟨some d,.slice t x none (some hi) none,ty,pos,cP,gd⟩).run E.P w= .ok (.value v) w∧dC w (bm X ν (g2.app ⟨some (d,.d (.b7 (xs.take hn'))),[(k,.dead)]⟩).at) (.b7 (xs.take hn')) v:=by
  rcases ho.2 with⟨k1,k2⟩|⟨b,cap,cur,k1,_,k2,k4,k5,k6,k7⟩
  ·have hr:=pW (P:=E.P) w hu hsize none 0 0 none (some (.int .i64 (hn':Int))) 0 (hn':Int) (.inl ⟨rfl,rfl⟩) (.inr ⟨_,rfl⟩) (fM _) h0 (by omega) (ar _)
   obtain rfl:hn'=0:=by omega
   refine⟨.slice none 0 0,?_,by simp;exact .nil⟩
   simp only[execOp,hv.2,k1,jT,dU,db,Sem.run_bind,hr,Result.andThen_ok]
   rfl
  ·have hr:=pW (P:=E.P) w hu hsize (some ⟨b,0,none⟩) xs.length cap none (some (.int .i64 (hn':Int))) 0 (hn':Int) (.inl ⟨rfl,rfl⟩) (.inr ⟨_,rfl⟩) (fM _) h0 (by omega) k4
   simp only[aA] at hr
   refine⟨.slice (some ⟨b,0,none⟩) hn' cap,?_,?_⟩
   ·simp only[execOp,hv.2,k1,jT,dU,db,Sem.run_bind,hr,Result.andThen_ok]
    unfold sliced
    simp[add_lit]
   ·have hrr':=(fC.frame hw (ar _)).cut 0 hn'
    simp only[gr] at hrr'
    have cZ:(xs.take hn').length=hn':=by simp;omega
    have hcl:=pa us 0 hn' fC.hu (by rw[fC.len];omega)
    simp only[gr,lG] at hcl
    have hokb:bm X ν (g2.app ⟨some (d,.d (.b7 (xs.take hn'))),[(k,.dead)]⟩).at b:=by
     refine⟨?_,hs.BK ⟨k,_,h3,rfl,.inl (by rw[k1];rfl)⟩⟩
     rintro⟨j,e1,m1,m2,m3⟩
     obtain⟨m4,m5⟩:=iP j e1 m1 m2
     exact m4 (hs.inj j k e1 _ b m5 h3 m2 rfl m3 (.inl (by rw[k1];rfl)))
    have hres:=dC.b7 (w:=w) (ok:=bm X ν (g2.app ⟨some (d,.d (.b7 (xs.take hn'))),[(k,.dead)]⟩).at) (xs.take hn') (us.take hn') b 0 cap (E.P.cellsOf e) hokb (n7 k2) (by rw[cZ];omega) k5 (by rw[cZ];omega) hrr'.len hrr'.hx hrr'.hu (fun j u hj=>?_) hrr'.hr
    ·rw[cZ] at hres
     exact hres
    ·rw[hcl,←k7,List.take_take] at hj
     have hj':cur.toList[j]?=some u:=by
      rw[List.getElem?_take] at hj
      split at hj
      ·exact hj
      ·cases hj
     have hj2:cur[j]?=some u:=by simpa using hj'
     simp[World.cell?,k2,hj2]
 obtain⟨v,hr,iO⟩:=ke
 unfold Oper.wp
 rw[hr,Oper.upon_value]
 refine hn ν _ _ (hs.JL (g':=g2.app ⟨some (d,.d (.b7 (xs.take hn'))),[(k,.dead)]⟩) (fun _=>False) (nv.refl _ w) (fun _ hb=>hb.elim) ?_ ?_ ?_ ?_ ?_ ?_ ?_ rfl)
 ·intro j hj
  refine⟨rfl,?_⟩
  rw[fX]
  split
  ·rfl
  ·exact hj
 ·intro j e1 hj
  rw[fX] at hj
  by_cases fY:j=k
  ·rw[if_pos fY] at hj
   cases hj
   exact .inr trivial
  ·rw[if_neg fY] at hj
   exact .inl ⟨hj,rfl,fun _ _ _ hb=>hb⟩
 ·intro j e1 b m1 m2 m3
  exact .inl ⟨j,e1,(iP j e1 m1 m2).2,m2,m3⟩
 ·intro j j' e1 e2 b m1 m2 m3 m4 m5 m6
  exact hs.inj j j' e1 e2 b (iP j e1 m1 m3).2 (iP j' e2 m2 m4).2 m3 m4 m5 m6
 ·intro j hj
  rw[fX] at hj
  by_cases fY:j=k
  ·exact .inl (by rw[fY,h3];rfl)
  ·rw[if_neg fY] at hj
   exact .inl hj
 ·simp[G.app,nD,size_put,eM,hs.size]
 ·intro t
  simp only[G.app,nD,lY,il,hs.size]
  by_cases hc:t=d∧d<g2.sl.length
  ·simp only[hc,and_self,if_true]
   refine .inr ?_
   simp only[aj]
   exact iO
  ·simp only[hc,if_false]
   exact .inl ⟨trivial,trivial⟩
def Pm(Q:Ex→G→Prop):lK→Ex→G→Prop
 | .on=>Q
 | .off=>fun _ _=>False
theorem fp(Q:Ex→G→Prop)(e:Ex)(g:G):Pm Q .on e g=Q e g:=rfl
theorem lu(hm:E.P.follows .mixedOrders=true){c:Code}{Q:Ex→G→Prop}(h:BM E n0 c .on g (Pm Q)):W E.P n0 c g Q:=EG hm c g _ h
theorem fb(K:G→Prop)(Q:Ex→G→Prop)(g:G):FF K Q .normal g=K g:=rfl
theorem KY(K:G→Prop)(Q:Ex→G→Prop)(i:Nat)(g:G):FF K Q (.exit i) g=Q (.exit i) g:=rfl
theorem vW(K:G→Prop)(Q:Ex→G→Prop)(g:G):FF K Q .ret g=Q .ret g:=rfl
theorem z7{P:Program}(t k e:Nat)(xs:List (List D))(ht:nth g.sl t= .acc k)(hk:g.at k=some (.acc e xs)):kG P n0 g ⟨gy g.sl t (.d (.b7 xs)),bG g.st k (some .dead)⟩:=by
 intro X ν a w _ hs
 refine⟨ν,?_⟩
 obtain⟨us,ho,fC,hB,hf0⟩:=hs.en k _ hk
 have fX:∀j,(⟨gy g.sl t (.d (.b7 xs)),bG g.st k (some .dead)⟩:G).at j=if j=k then some .dead else g.at j:=fun j=>dp g.st k (some .dead) j
 have iP:∀j e1,(⟨gy g.sl t (.d (.b7 xs)),bG g.st k (some .dead)⟩:G).at j=some e1→e1.live=true→j≠k∧g.at j=some e1:=by
  intro j e1 h1 h2
  rw[fX] at h1
  by_cases hj:j=k
  ·rw[if_pos hj] at h1
   cases h1;cases h2
  ·rw[if_neg hj] at h1
   exact⟨hj,h1⟩
 have dP:∀b,Own ν (⟨gy g.sl t (.d (.b7 xs)),bG g.st k (some .dead)⟩:G).at b→Own ν g.at b:=by
  rintro b ⟨j,e1,h1,h2,h3⟩
  exact⟨j,e1,(iP j e1 h1 h2).2,h2,h3⟩
 have hw:∀b,bm X ν g.at b→b<w.heap.size→bm X ν (⟨gy g.sl t (.d (.b7 xs)),bG g.st k (some .dead)⟩:G).at b∧w.heap[b]?=w.heap[b]?:=fun b hb _=>⟨⟨fun ho=>hb.1 (dP b ho),hb.2⟩,rfl⟩
 have iO:dC w (bm X ν (⟨gy g.sl t (.d (.b7 xs)),bG g.st k (some .dead)⟩:G).at) (.b7 xs) (ν k).v:=by
  refine nB ho fC hB (fun b hb=>⟨?_,hs.BK ⟨k,_,hk,rfl,.inl hb⟩⟩) hw
  rintro⟨j,e1,m1,m2,m3⟩
  obtain⟨m4,m5⟩:=iP j e1 m1 m2
  exact m4 (hs.inj j k e1 _ b m5 hk m2 rfl m3 (.inl hb))
 refine hs.JL (g':=⟨gy g.sl t (.d (.b7 xs)),bG g.st k (some .dead)⟩) (fun _=>False) (nv.refl _ w) (fun _ hb=>hb.elim) ?_ ?_ ?_ ?_ ?_ ?_ ?_ rfl
 ·intro j hj
  refine⟨rfl,?_⟩
  rw[fX]
  split
  ·rfl
  ·exact hj
 ·intro j e1 hj
  rw[fX] at hj
  by_cases fY:j=k
  ·rw[if_pos fY] at hj
   cases hj
   exact .inr trivial
  ·rw[if_neg fY] at hj
   exact .inl ⟨hj,rfl,fun _ _ _ hb=>hb⟩
 ·intro j e1 b m1 m2 m3
  exact .inl ⟨j,e1,(iP j e1 m1 m2).2,m2,m3⟩
 ·intro j j' e1 e2 b m1 m2 m3 m4 m5 m6
  exact hs.inj j j' e1 e2 b (iP j e1 m1 m3).2 (iP j' e2 m2 m4).2 m3 m4 m5 m6
 ·intro j hj
  rw[fX] at hj
  by_cases fY:j=k
  ·exact .inl (by rw[fY,hk];rfl)
  ·rw[if_neg fY] at hj
   exact .inl hj
 ·simp[eM,hs.size]
 ·intro j
  simp only[il]
  by_cases hc:j=t∧t<g.sl.length
  ·simp only[hc,and_self,if_true]
   refine .inr ?_
   have:=hs.sl t
   rw[ht] at this
   simp only[aj] at this⊢
   rw[this.2]
   exact iO
  ·simp only[hc,if_false]
   exact .inl ⟨trivial,trivial⟩
def HM(E:Env)(rs:List ResultVar)(n0:Nat)(R:PV→List (Option En)→Prop)(g:G):Prop:=∃g',kG E.P n0 g g'∧qG E rs n0 R g'
theorem iu{rs:List ResultVar}{R:PV→List (Option En)→Prop}(h:qG E rs n0 R g):HM E rs n0 R g:=⟨g,kG.refl g,h⟩
theorem Ah {f : FuncId} {fn : Func} {c : Code} {args : List PV} {cE : List (Option En)} {R : PV → List (Option En) → Prop} {nt : Nat} {rs : List ResultVar} (hf : E.P.funcs[f]? = some fn) (hb : fn.body = some c) (hname : (fn.name == "runtime.NumGoroutine") = false)
 (hnt:fn.ntmps=nt) (hrs:fn.results.toList=rs) (hn:pM (pb args) nt=true) (h:kV args→s0 cE→W E.P (gI cE) c ⟨eQ nt .undef (I1 0 args),cE⟩ (Ei (HM E rs (gI cE) R))):C E.P f args cE R:=by
 have hn:=gg hn
 rw[jz] at hn
 rw[←FZ hn,iR] at h
 refine BX hf hb hname (HM E rs cE.length R) (fun _ X ν a w ⟨_,hw,h1⟩ hp hs=>let ⟨_,hs'⟩:=hw X ν a w hp hs;qG.sat h1 hp hs' hrs) ?_
 rw[hnt,←qF]
 refine Mf fun h1 h2=>h ?_ h2
 have h1:kV (pad args nt):=h1
 rw[qF] at h1
 exact tt h1
end
def OW(P:Program)(t:TypeId):Bool:=
 match P.underlying t with
 | some (.struct ⟨[f, g]⟩) => (f.name != "_" && (g.name != "_" && (f.offset == 0 && (g.offset == 1 && ((match P.underlying f.type, P.underlying g.type with | some (.int _), some (.int _) => true | _, _ => false) && (!P.stoodInHeld t && !P.eqGuardType P.depth t))))))
 | _=>false
def Pb(a b c e:Int):Bool:=a == c&&b == e
section
variable{E:Env}{g:G}{d:Nat}{ty:TypeId}{pos:String}{cP:Array Edge}{gd:Option (Nat×Bool)}
theorem MI(x y:Operand)(m n:Int)(tys:Array TypeId)(hx:g.ev x= .d (.val (.int .i64 m)))(hy:g.ev y= .d (.val (.int .i64 n))) :
 gL E.P ⟨some d,.call ⟨.builtin .max,#[x,y],tys⟩,ty,pos,cP,gd⟩ g ⟨bZ x++bZ y,[]⟩ ⟨some (d,.d (.val (.int .i64 (if m<n then n else m)))),[]⟩:=
 km rfl hx hy rfl fun a w h1 h2=>by
  simp[execOp,resolve,invoke,builtin,Builtin.max_,Builtin.max2,h1,h2]
theorem NX{m:Option (List Ky)}{gs:Option Nat}{rest:lK→Option (List Ky)→G→Prop}{x y:Operand}{tys:Array TypeId}(a b c:Int)(hc:(if a<b then b else a)=c)(hx:g.ev x= .d (.val (.int .i64 a)))(hy:g.ev y= .d (.val (.int .i64 b)))
 (hr:rest .on (ji m (j9 (o3 gs ⟨bZ x++bZ y,[]⟩) ⟨some (d,.d (.val (.int .i64 c))),[]⟩)) (g.app ⟨some (d,.d (.val (.int .i64 c))),[]⟩)):oB E m gs ⟨some d,.call ⟨.builtin .max,#[x,y],tys⟩,ty,pos,cP,gd⟩ g rest:=by
 subst hc
 exact mC (MI x y a b tys hx hy) hr
theorem wrap_u64{n:Int}(h0:0≤n)(h1:n≤9223372036854775807):IntKind.wrap .u64 n=n:=by
 simp only[IntKind.wrap,IntKind.bits,IntKind.signed,aK,Bool.false_eq_true,if_false]
 omega
end
theorem HU{P:Program}{f:FuncId}{q:PV}{R:PV→List (Option En)→Prop}(h1:C P f [q,.aV] [] R)(h2:∀a c,C P f [q,.d (.val (.slice (some a) 0 c))] [] R):C P f [q,.d (.b7 [])] [] R:=by
 refine⟨h1.1,fun X vs dh hO hs=>?_⟩
 have hsz:=hs.size
 obtain⟨v0,v,rfl⟩:∃a b,vs=[a,b]:=by
  match vs,hsz with
  | [a,b],_=>exact⟨a,b,rfl⟩
  | [],h=>simp at h
  | [_],h=>simp at h
  | _::_::_::_,h=>simp at h
 have hq:=hs.sl 0
 have h0:=hs.sl 1
 have hq:aj X.w0 (bm X X.ν0 (G.at ⟨[q,.d (.b7 [])],[]⟩)) X.ν0 (G.at ⟨[q,.d (.b7 [])],[]⟩) q v0:=hq
 have h0:dC X.w0 (bm X X.ν0 (G.at ⟨[q,.d (.b7 [])],[]⟩)) (.b7 []) v:=h0
 have key:∀p:PV,aj X.w0 (bm X X.ν0 (G.at ⟨[q,p],[]⟩)) X.ν0 (G.at ⟨[q,p],[]⟩) p v→Sat P X X.ν0 ⟨[q,p],[]⟩ ⟨⟨[v0,v]⟩,[]⟩ X.w0:=fun p hp=>
  ⟨rfl,fun t=>by
   match t with
   | 0=>exact hq
   | 1=>exact hp
   | t+2=>simp only[nth,aj],hs.en,hs.inj,hs.base,hs.nu,hs.par,hs.wx,hs.qp,rfl⟩
 cases h0 with
 | nil=>exact h1.2 X _ dh hO (key .aV rfl)
 | emp a c h=>exact(h2 a c).2 X _ dh hO (key _ (ig rfl))
 | b7 _ us b off cap sz kC hb fV hmax hB hlu hxx hu hc fC=>exact(h2 _ cap).2 X _ dh hO (key _ (ig rfl))
theorem Ik{P:Program}{f:FuncId}{q:PV}{R:PV→List (Option En)→Prop}(h1:C P f [.aV,q] [] R)(h2:∀a c,C P f [.d (.val (.slice (some a) 0 c)),q] [] R):C P f [.d (.b7 []),q] [] R:=by
 refine⟨h1.1,fun X vs dh hO hs=>?_⟩
 have hsz:=hs.size
 obtain⟨v,v0,rfl⟩:∃a b,vs=[a,b]:=by
  match vs,hsz with
  | [a,b],_=>exact⟨a,b,rfl⟩
  | [],h=>simp at h
  | [_],h=>simp at h
  | _::_::_::_,h=>simp at h
 have hq:=hs.sl 1
 have h0:=hs.sl 0
 have hq:aj X.w0 (bm X X.ν0 (G.at ⟨[.d (.b7 []),q],[]⟩)) X.ν0 (G.at ⟨[.d (.b7 []),q],[]⟩) q v0:=hq
 have h0:dC X.w0 (bm X X.ν0 (G.at ⟨[.d (.b7 []),q],[]⟩)) (.b7 []) v:=h0
 have key:∀p:PV,aj X.w0 (bm X X.ν0 (G.at ⟨[p,q],[]⟩)) X.ν0 (G.at ⟨[p,q],[]⟩) p v→Sat P X X.ν0 ⟨[p,q],[]⟩ ⟨⟨[v,v0]⟩,[]⟩ X.w0:=fun p hp=>
  ⟨rfl,fun t=>by
   match t with
   | 0=>exact hp
   | 1=>exact hq
   | t+2=>simp only[nth,aj],hs.en,hs.inj,hs.base,hs.nu,hs.par,hs.wx,hs.qp,rfl⟩
 cases h0 with
 | nil=>exact h1.2 X _ dh hO (key .aV rfl)
 | emp a c h=>exact(h2 a c).2 X _ dh hO (key _ (ig rfl))
 | b7 _ us b off cap sz kC hb fV hmax hB hlu hxx hu hc fC=>exact(h2 _ cap).2 X _ dh hO (key _ (ig rfl))
def Gr(cur:Array Value):Nat→List Value→Array Value
 | _,[]=>cur
 | o,v::r=>Gr (cur.setIfInBounds o v) (o+1) r
theorem Ag:∀(vs:List Value)(o:Nat)(cur:Array Value),o+vs.length≤cur.size→(Gr cur o vs).toList=cur.toList.take o++vs++cur.toList.drop (o+vs.length)
 | [],o,cur,_=>by simp[Gr]
 | v::r,o,cur,h=>by
   simp only[aq] at h
   have ho:o<cur.toList.length:=by rw[cO];omega
   rw[Gr,Ag r (o+1) _ (by rw[Array.size_setIfInBounds];omega),Array.toList_setIfInBounds,List.take_add_one,List.take_set_of_le (ar _),List.getElem?_set_self ho,List.drop_set_of_lt (by omega)]
   have e:o+1+r.length=o+(r.length+1):=by omega
   simp only[mj,List.append_assoc,List.singleton_append,aq,bO,bB,e]
theorem Ci(b:Nat):∀(vs:List Value)(o:Nat)(w:World),(w.setCells b o vs).os=w.os∧(w.setCells b o vs).tape=w.tape∧(w.setCells b o vs).output=w.output∧(w.setCells b o vs).heap.size=w.heap.size∧(∀k,k≠b→(w.setCells b o vs).heap[k]?=w.heap[k]?) ∧
 ∀cur e fr,w.heap[b]?=some (.cells cur e fr)→(w.setCells b o vs).heap[b]?=some (.cells (Gr cur o vs) e fr)
 | [],o,w=>⟨rfl,rfl,rfl,rfl,fun _ _=>rfl,fun cur e fr h=>h⟩
 | v::r,o,w=>by
   obtain⟨h1,h2,h3,h4,h5,h6⟩:=Ci b r (o+1) (w.setCell ⟨b,o,none⟩ v)
   rw[World.setCells]
   refine⟨h1,h2,h3,?_,fun k hk=>?_,fun cur e fr h=>?_⟩
   ·rw[h4];simp[World.setCell]
   ·rw[h5 k hk]
    simp only[World.setCell,Array.getElem?_modify]
    rw[if_neg (fun e=>hk e.symm)]
   ·refine h6 _ e fr ?_
    simp only[World.setCell,Array.getElem?_modify,if_pos,h]
    rfl
theorem LJ{P:Program}{f:FuncId}{p:PV}{v r:Value}(hc:B5 P f)(hp:∀(w:World)(ok:Nat→Prop)(ν:Nat→Nm)(st:Nat→Option En)(u:Value),aj w ok ν st p u→u=v)(h1:r.oneCell'=true)
 (h:∀w,Calls P f #[v] w fun e w'=>e= .returned r∧w'=w):C P f [p] [] (bw (.d (.val r)) []):=by
 refine⟨hc,fun X vs dh hO hs=>?_⟩
 have hsz:=hs.size
 obtain⟨u,rfl⟩:=cj.1 (show vs.length=1 by simpa using hsz)
 have h0:=hp _ _ _ _ u (hs.sl 0)
 subst h0
 refine(h X.w0).mono ?_
 rintro e w' ⟨rfl,rfl⟩
 refine⟨_,_,_,X.ν0,rfl,⟨rfl,rfl⟩,rfl,fun t=>?_,hs.en,hs.inj,hs.base,hs.nu,hs.par,hs.wx,hs.qp,rfl⟩
 match t with
 | 0=>exact ig h1
 | t+1=>simp only[nth,aj]
end Go.Eng
