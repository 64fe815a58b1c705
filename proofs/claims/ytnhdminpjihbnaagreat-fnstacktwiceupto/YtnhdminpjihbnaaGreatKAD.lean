/-
  The symbolic layer, twenty-third text: from a function's code to its contract; what the working out may unfold.
-/
import Derived.Test.YtnhdminpjihbnaaGreatKAC
import Derived.Laws.StructEq
import Derived.Laws.IdiomCopy
import Derived.Deep.Draws
set_option linter.unusedVariables false
set_option linter.unusedSimpArgs false
open Array renaming length_toList→fx
open Bool renaming and_eq_true→ab,false_eq_true→aw,true_and→aN,false_and→aZ,not_false→iO,or_eq_true→iV,not_true→ju,not_eq_true'→mF
open Int renaming toNat_natCast→aS,le_refl→lF
open List renaming getElem?_eq_getElem→ae,take_of_length_le→ak,mem_cons→ax,getD_eq_getElem?_getD→aE,length_cons→aG,map_cons→aJ,replicate→aL,cons_append→bu,getElem?_append_right→bG,getElem?_eq_none→bL,nil_append→bQ,getD→b9,take_append_of_le_length→cH,map_nil→cL,length_eq_one_iff→fE,drop_zero→kK
open Nat renaming le_refl→aH,mul_le_mul_right→bD,eq_of_beq_eq_true→cg,zero_add→dQ,add_zero→jH,sub_self→jI,beq→kV
open Option renaming map_some→dV,map_none→hX,getD_none→lK
namespace Go.Eng
open Go.RowKit
def pad:List PV→Nat→List PV
 | [],0=>[]
 | [],n+1=>.undef::pad [] n
 | l,0=>l
 | a::as,n+1=>a::pad as n
theorem Es:∀(l:List PV)(n:Nat),pad l n=l++aL (n-l.length) .undef
 | [],0=>rfl
 | [],n+1=>by simp[pad,Es [] n,List.replicate_succ]
 | a::as,0=>by simp[pad]
 | a::as,n+1=>by simp[pad,Es as n]
def zm(E:Env)(rs:List ResultVar)(n0:Nat)(R:PV→List (Option En)→Prop)(g:G):Prop:=
 ∃ps m q st',zE E g rs=some ps∧Wk n0 m ⟨[jm ps],g.st⟩ ⟨[q],st'⟩∧R q st'
theorem zm.sat{E:Env}{rs:List ResultVar}{n0:Nat}{R:PV→List (Option En)→Prop}{g:G}(h:zm E rs n0 R g){X:Cx}{ν:Nat→Nm}{a:Act}{w:World}(hp:Par X n0)(hs:Sat E.P X ν g a w){fn:Func}(hfn:fn.results.toList=rs) :
 ∃v res st' ν',(results fn a.tmps).run E.P w= .ok v w∧R res st'∧Xj E.P X ν' res st' v w:=by
 obtain⟨ps,m,q,st',h1,h2,h3⟩:=h
 obtain⟨v,hr,hv⟩:=IU hs (fn:=fn) (by rw[hfn];exact h1)
 have hs1:Sat E.P X ν ⟨[jm ps],g.st⟩ ⟨#[v],[]⟩ w:=by
  refine⟨rfl,fun t=>?_,hs.en,hs.inj,hs.base,hs.nu,hs.par,hs.J1,hs.C4,rfl⟩;cases t with
  | zero=>exact hv
  | succ t=>simp[nth,aF]
 obtain⟨ν',hs2⟩:=Q7 h2 X ν _ _ hp hs1
 exact⟨v,q,st',ν',hr,h3,hs2⟩
theorem akf{E:Env}{rs:List ResultVar}{g:G}{ps:List PV}{q:PV}(h1:zE E g rs=some ps)(h2:wk ⟨[jm ps],g.st⟩ [] (jm ps) q):zm E rs 0 (gR q []) g:=
 ⟨ps,[],q,[],h1,⟨by simp only[Dm];exact⟨h2,trivial⟩,by simp[np],rfl,rfl⟩,rfl,rfl⟩
theorem afh:fy []=[]:=rfl
theorem acX(x:D)(xs:List D):fy (x::xs)= .d x::fy xs:=rfl
def DL(t:Nat):List (Nat×PV)→PV→PV
 | [],p=>p
 | (d,v)::r,p=>match kV t d with
   | true=>v
   | false=>DL t r p
def fk(n:Nat)(p:PV)(ch:List (Nat×PV)):List PV:=(List.range n).map fun t=>DL t ch p
theorem Cn{a b:Nat}:Nat.ble b a=false↔a<b:=by
 cases h:Nat.ble b a;simp only[true_iff];have h':¬b≤a:=fun hl=>by rw[Nat.ble_eq_true_of_le hl] at h;cases h
 omega;have:=Nat.le_of_ble_eq_true h;simp;omega
theorem AF:∀(l:List PV)(t:Nat),nth l t=l.getD t .any
 | [],t=>by cases t<;>rfl
 | _::_,0=>rfl
 | _::l,t+1=>by simp only[nth,AF l t];rfl
theorem vg(n:Nat)(p:PV)(ch:List (Nat×PV)):(fk n p ch).length=n:=by simp[fk]
theorem Kn(n:Nat)(p:PV)(ch:List (Nat×PV))(t:Nat):nth (fk n p ch) t=match Nat.ble n t with|false=>DL t ch p|true=>.any:=by
 rw[AF];cases h:Nat.ble n t;have h':t<n:=Cn.1 h;simp[fk,b9,h'];have h':¬t<n:=fun hl=>by rw[Cn.2 hl] at h;cases h
 simp[fk,b9,h']
theorem XX{l l':List PV}(hl:l.length=l'.length)(h:∀t,nth l t=nth l' t):l=l':=by refine List.ext_getElem hl fun t h1 h2=>?_;have:=h t;rw[AF,AF] at this;simpa[b9,h1,h2] using this
theorem abB(n:Nat)(p:PV)(ch:List (Nat×PV))(d:Nat)(v:PV):kM (fk n p ch) d v=fk n p ((d,v)::ch):=by
 refine XX (by rw[kJ,vg,vg]) fun t=>?_;rw[oj,vg,Kn,Kn];by_cases h:t=d;subst h;by_cases hn:t<n;rw[if_pos ⟨rfl,hn⟩,Cn.2 hn];simp only[DL,Nat.beq_refl];rw[if_neg (fun hc=>hn hc.2)];have:Nat.ble n t=true:=by cases hb:Nat.ble n t;exact(hn (Cn.1 hb)).elim;rfl
 rw[this];rw[if_neg (fun hc=>h hc.1)];have:kV t d=false:=by cases hb:kV t d;rfl;exact(h (cg hb)).elim
 simp only[DL,this]
def ixs:Nat→List PV→List (Nat×PV)
 | _,[]=>[]
 | i,a::l=>(i,a)::ixs (i+1) l
theorem T9:∀(l:List PV)(i t:Nat)(p:PV),DL (i+t) (ixs i l) p=l.getD t p
 | [],i,t,p=>by simp[ixs,DL]
 | a::l,i,0,p=>by simp[ixs,DL]
 | a::l,i,t+1,p=>by have:kV (i+(t+1)) i=false:=(by cases hb:kV (i+(t+1)) i;rfl;have:=cg hb;omega);simp only[ixs,DL,this];have:=T9 l (i+1) t p;rw[show i+1+t=i+(t+1) by omega] at this;rw[this];rfl
theorem Yq{l:List PV}{n:Nat}(h:l.length≤n):pad l n=fk n .undef (ixs 0 l):=by
 rw[Es];refine XX (by rw[vg];simp;omega) fun t=>?_;rw[Kn,AF];have:=T9 l 0 t .undef;rw[dQ] at this;rw[this];cases hb:Nat.ble n t;rotate_left;have h':¬t<n:=fun hl=>by rw[Cn.2 hl] at hb;cases hb
 have h1:(l++aL (n-l.length) PV.undef).length≤t:=by simp;omega
 simp only[b9,bL h1,lK];have h':t<n:=Cn.1 hb;simp only[b9];by_cases hl:t<l.length;rw[List.getElem?_append_left hl,ae hl];rfl;rw[bG oM,List.getElem?_replicate,if_pos oM,bL oM];rfl
def wkC(g:G)(m:List (Option Nat))(ch:List (Nat×PV))(p:PV):List (Nat×PV)→Prop
 | []=>True
 | (t,q)::r=>wk g m (DL t ch p) q∧wkC g m ch p r
theorem ahn{g:G}{m:List (Option Nat)}(p:PV):wk g m p .any:=by cases p<;>simp[wk]
theorem adh{g:G}{m:List (Option Nat)}{ch:List (Nat×PV)}{p:PV}:∀{ch':List (Nat×PV)},wkC g m ch p ch'→∀t,wk g m (DL t ch p) (DL t ch' .any)
 | [],_,t=>by simp only[DL];exact ahn _
 | (d,q)::r,h,t=>by simp only[wkC] at h;simp only[DL];cases hb:kV t d;exact adh h.2 t;have:=cg hb;subst this;exact h.1
theorem X5{g:G}{m:List (Option Nat)}{f f':Nat→PV}(h:∀t,wk g m (f t) (f' t)):∀(l:List Nat),Dm g m (l.map f) (l.map f')
 | []=>by simp only[cL,Dm]
 | a::l=>by simp only[aJ,Dm];exact⟨h a,X5 h l⟩
theorem bW{P:Program}{n0 n:Nat}(m:List (Option Nat)){p:PV}{ch ch':List (Nat×PV)}{st st':List (Option En)}(h1:wkC ⟨fk n p ch,st⟩ m ch p ch')(h2:np ⟨fk n p ch,st⟩ m m st')(h3:AI m st'=true)(h4:keeps n0 0 m=true):pG P n0 ⟨fk n p ch,st⟩ ⟨fk n .any ch',st'⟩:=
 Q7 ⟨X5 (adh h1) _,h2,h3,h4⟩
attribute [go_sem] K6 R5 Kn abB DL wkC ixs eJ dv mj Ao tk dr WZ Xl XD aaa pls evp ev2 ix2 sl2 Vr ZI TC iop cop sop agX abe bop Ae
attribute [go_sem] P5 M1 Wa J7 QZ EB Kh QI X6 J9 EY QX Kf obI Q9 Sa Qh Qc Ke QO AN CQ U1 Yj Kv Ye stp
theorem aja(sl:List PV)(st:List (Option En))(dst:Option (Nat×PV))(up:List (Nat×En)):(G.mk sl st).app ⟨dst,up⟩=⟨yu sl dst,B9 st up⟩:=rfl
theorem aaA(sl:List PV):yu sl none=sl:=rfl
theorem aaQ(sl:List PV)(d:Nat)(p:PV):yu sl (some (d,p))=kM sl d p:=rfl
theorem ach(sl:List PV)(st:List (Option En))(t:Nat):(G.mk sl st).ev (.tmp t)=nth sl t:=rfl
theorem Xr(sl:List PV)(st:List (Option En))(v:Value):(G.mk sl st).ev (.const v)=cpv v:=rfl
theorem aaj(sl:List PV)(st:List (Option En))(f:Nat):(G.mk sl st).ev (.func f)= .fn f []:=rfl
theorem aj5(sl:List PV)(st:List (Option En))(k:Nat):(G.mk sl st).at k=eJ st k:=rfl
theorem ajg(sl:List PV)(st:List (Option En)):(G.mk sl st).new=mj st:=rfl
theorem agj(s p:List Nat)(dst:Option (Nat×PV))(up:List (Nat×En)):pZ ⟨s,p⟩ ⟨dst,up⟩=⟨s,p,Dl.ws ⟨dst,up⟩,Dl.wp ⟨dst,up⟩⟩:=rfl
theorem agB(up:List (Nat×En)):Dl.ws ⟨none,up⟩=[]:=rfl
theorem agc(d:Nat)(p:PV)(up:List (Nat×En)):Dl.ws ⟨some (d,p),up⟩=[d]:=rfl
theorem ah7(dst:Option (Nat×PV)):Dl.wp ⟨dst,[]⟩=[]:=rfl
theorem agn(dst:Option (Nat×PV))(k:Nat)(e:En)(r:List (Nat×En)):Dl.wp ⟨dst,(k,e)::r⟩=k::Dl.wp ⟨none,r⟩:=rfl
attribute [go_sem] ai8 ai6 snoc n9.eq_1 n9.eq_2 wD.eq_1 wD.eq_2 Pf.eq_1 Pf.eq_2 Pf.eq_3 aid.eq_1 acq.eq_1 vR.eq_1 vR.eq_2 vR.eq_3 gsl ahV.eq_1 ahV.eq_2 afI.eq_1 afI.eq_2 run XY.eq_1 XY.eq_2 XY.eq_3 Mg.eq_1 Mg.eq_2 Mg.eq_3 ab7.eq_1 acj.eq_1 aiE.eq_1 aiE.eq_2 Nv
attribute [go_sem] aja aaA aaQ B9 aj5 ach Xr aaj ajg Hq cpv ack QR fK PV.whole PV.one zl YE UJ toD DW rowsOf NR xC agj agB agc ah7 agn eu osl TI.isAgg afh acX
attribute [go_sem] Vd Pn XK aa2 zE jm gR aJ cL CL TV
attribute [go_sem] Dm wk np Gw jE JB keeps AI VJ
attribute [go_sem] W0 T.pv pvT og vZ toT HA Ve J3 Kr N1 Cq tkT drT apT afW
mutual
def LW:PV→Prop
 | .d (.eP xs)=>xs.length≤LB
 | .d (.str s)=>s.length≤LB
 | .agg cs=>tS cs
 | _=>True
def tS:List PV→Prop
 | []=>True
 | p::ps=>LW p∧tS ps
end
mutual
theorem aF.LW{w:World}{ok:Nat→Prop}{ν:Nat→Nm}{st:Nat→Option En}:∀(p:PV)(v:Value),aF w ok ν st p v→LW p
 | .d (.eP xs),v,h=>by simp only[aF] at h;simp only[Eng.LW];exact h.aie
 | .d (.str s),v,h=>by simp only[aF] at h;simp only[Eng.LW];exact h.J4.2
 | .agg cs,v,h=>by simp only[aF] at h;simp only[Eng.LW];obtain⟨vs,_,h⟩:=h;exact aB.LW cs vs h
 | .d (.val _),_,_=>by simp only[Eng.LW]
 | .any,_,_=>by simp only[Eng.LW]
 | .undef,_,_=>by simp only[Eng.LW]
 | .bE,_,_=>by simp only[Eng.LW]
 | .ko _,_,_=>by simp only[Eng.LW]
 | .bK _ _,_,_=>by simp only[Eng.LW]
 | .aW _,_,_=>by simp only[Eng.LW]
 | .iT _ _ _ _,_,_=>by simp only[Eng.LW]
 | .gQ _ _ _,_,_=>by simp only[Eng.LW]
 | .fn _ _,_,_=>by simp only[Eng.LW]
theorem aB.LW{w:World}{ok:Nat→Prop}{ν:Nat→Nm}{st:Nat→Option En}:∀(ps:List PV)(vs:List Value),aB w ok ν st ps vs→tS ps
 | [],_,_=>by simp only[Eng.tS]
 | p::ps,v::vs,h=>by simp only[aB] at h;simp only[Eng.tS];exact⟨aF.LW p v h.1,aB.LW ps vs h.2⟩
 | _::_,[],h=>by simp[aB] at h
end
def aaG:Option En→Prop
 | some (.box cs)=>tS cs
 | some (.aW _ xs)=>xs.length≤LB
 | some (.e9 _ xs)=>xs.length≤LB
 | _=>True
def Gg:List (Option En)→Prop
 | []=>True
 | e::es=>aaG e∧Gg es
theorem Sat.tS{P:Program}{X:Cx}{ν:Nat→Nm}{g:G}{a:Act}{w:World}(h:Sat P X ν g a w):Eng.tS g.sl:=by
 have key:∀(ps:List PV),(∀t,∃v,aF w (dg X ν g.at) ν g.at (nth ps t) v)→Eng.tS ps:=by
  intro ps;induction ps with
  | nil=>intro _;simp only[Eng.tS]
  | cons p ps ih=>intro hp;simp only[Eng.tS];obtain⟨v,hv⟩:=hp 0;exact⟨aF.LW p v hv,ih fun t=>hp (t+1)⟩
 exact key _ fun t=>⟨_,h.sl t⟩
theorem Sat.aaG{P:Program}{X:Cx}{ν:Nat→Nm}{g:G}{a:Act}{w:World}(h:Sat P X ν g a w)(k:Nat):Eng.aaG (g.at k):=by
 cases hk:g.at k with
 | none=>trivial
 | some e=>
  have:=h.en k e hk;cases e with
  | dead=>trivial
  | box cs=>obtain⟨b,vs,T,_,_,h3,_⟩:=this;exact aB.LW cs vs h3
  | aW t xs=>obtain⟨us,_,_,h3,_⟩:=this;exact h3
  | map wC=>trivial
  | e9 t xs=>have h1:=this.1;simp only[mS] at h1;obtain⟨us,F1,_,_,_,h4,_⟩:=h1;exact h4
theorem Us:∀{l:List (Option En)},(∀k,aaG (eJ l k))→Gg l
 | [],_=>trivial
 | _::_,h=>⟨h 0,Us fun k=>h (k+1)⟩
theorem agU{P:Program}{n0:Nat}{c:Code}{g:G}{Q:Ex→G→Prop}(h:tS g.sl→Gg g.st→W P n0 c g Q):W P n0 c g Q:=fun X ν a w hp hs=>
 h hs.tS (Us fun k=>hs.aaG k) X ν a w hp hs
theorem Hp:∀{ps r:List PV},tS (ps++r)→tS ps
 | [],_,_=>by simp only[tS]
 | p::ps,r,h=>by simp only[bu,tS] at h⊢;exact⟨h.1,Hp h.2⟩
theorem ajy {E : Env} (hm : E.P.follows .mixedOrders = true) {f : FuncId} {fn : Func} {c : Code} {args : List PV} {fR : List (Option En)} {R : PV → List (Option En) → Prop} {nt : Nat} {rs : List ResultVar} (hf : E.P.funcs[f]? = some fn) (hb : fn.body = some c) (hname : (fn.name == "runtime.NumGoroutine") = false)
 (hnt:fn.ntmps=nt) (hrs:fn.results.toList=rs) (h:tS args→Gg fR→Nv E (mj fR) c .on ⟨pad args nt,fR⟩ (fun _=>Vd (zm E rs (mj fR) R))):C E.P f args fR R:=by
 rw[qk] at h
 refine Sv hf hb hname (zm E rs fR.length R) (fun _ _ _ _ _ h1 hp hs=>zm.sat h1 hp hs hrs) ?_
 rw[hnt,←Es]
 refine agU fun h1 h2=>V3 hm c _ _ (h ?_ h2)
 have h1:tS (pad args nt):=h1
 rw[Es] at h1
 exact Hp h1
theorem tI {E : Env} (hm : E.P.follows .mixedOrders = true) {f : FuncId} {fn : Func} {c : Code} {args : List PV} {fR : List (Option En)} {R : PV → List (Option En) → Prop} {nt : Nat} {rs : List ResultVar} (hf : E.P.funcs[f]? = some fn) (hb : fn.body = some c) (hname : (fn.name == "runtime.NumGoroutine") = false)
 (hnt:fn.ntmps=nt) (hrs:fn.results.toList=rs) (hn:Ae (Ao args) nt=true) (h:tS args→Gg fR→Nv E (mj fR) c .on ⟨fk nt .undef (ixs 0 args),fR⟩ (fun _=>Vd (zm E rs (mj fR) R))):C E.P f args fR R:=by
 have hn:=nv hn
 rw[rB] at hn
 rw[←Yq hn] at h
 exact ajy hm hf hb hname hnt hrs h
attribute [go_sem] LW tS aaG Gg
mutual
theorem YT(m:List Nat):∀(p:PV),p.lt 0=true→p.oh m=p
 | .agg cs,h=>by simp only[PV.lt] at h;simp only[PV.oh,BP m cs h]
 | .ko cs,h=>by simp only[PV.lt] at h;simp only[PV.oh,BP m cs h]
 | .fn f cs,h=>by simp only[PV.lt] at h;simp only[PV.oh,BP m cs h]
 | .any,_=>rfl
 | .undef,_=>rfl
 | .bE,_=>rfl
 | .d _,_=>rfl
 | .gQ _ _ _,_=>rfl
 | .bK _ _,h=>by simp[PV.lt] at h
 | .aW _,h=>by simp[PV.lt] at h
 | .iT _ _ _ _,h=>by simp[PV.lt] at h
theorem BP(m:List Nat):∀(ps:List PV),wB 0 ps=true→tx m ps=ps
 | [],_=>rfl
 | p::ps,h=>by simp only[wB,ab] at h;simp only[tx,YT m p h.1,BP m ps h.2]
end
section
variable{E:Env}{g:G}{d:Nat}{ty:TypeId}{pos:String}{fI:Array Edge}{gd:Option (Nat×Bool)}
theorem abr(nZ:Operand)(xs:List Operand)(tys:Array TypeId)(f:FuncId)(cap:List PV)(hfn:g.ev nZ= .fn f cap)(de:List PV)(res:PV)(hC:C E.P f de [] (gR res []))(rO:JF (xs.map g.ev++cap) de)(pz:wB 0 de=true)(hres:res.lt 0=true) :
 mQ E.P ⟨some d,.call ⟨.value nZ,⟨xs⟩,tys⟩,ty,pos,fI,gd⟩ g ⟨eu nZ++xs.flatMap eu,[]⟩ ⟨some (d,res),[]⟩:=by
 have h:=Y2 (E:=E) (g:=g) (d:=d) (ty:=ty) (pos:=pos) (fI:=fI) (gd:=gd) nZ xs tys f cap hfn [] de [] [] res hC (by rw[BP _ _ pz];exact rO) pz (by simp) (by simp) trivial trivial (by simp) (by simp)
 rw[YT _ _ hres] at h
 exact h
end
def iv(n:Int):PV:=.d (.val (.int .i64 n))
def bv(b:Bool):PV:=.d (.val (.bool b))
def sv(s:List UInt8):PV:=.d (.str s)
def lv(xs:List (List D)):PV:=.d (.eP xs)
attribute [go_sem] iv bv sv lv PV.oh tx mL look PV.lt wB hX dV Option.toList_none Option.toList_some
end Go.Eng
namespace Go.Eng
open Go.RowKit
section
variable{E:Env}{n0:Nat}{g:G}{c:Code}{Q:Ex→G→Prop}
def tW{A:Type}(P:Program)(n0:Nat)(I:A→Prop)(T:A→G)(μ:A→Nat)(a:A)(Q:Ex→G→Prop):Ex→G→Prop
 | .normal,g=>∃a',I a'∧μ a' < μ a∧pG P n0 g (T a')
 | .exit id,g=>Q (.exit id) g
 | .ret,g=>Q .ret g
def DP{A B:Type}(P:Program)(n0:Nat)(I:A→B→Prop)(T:A→B→G)(μ:A→B→Nat)(a:A)(b:B)(Q:Ex→G→Prop):Ex→G→Prop
 | .normal,g=>∃a' b',I a' b'∧μ a' b' < μ a b∧pG P n0 g (T a' b')
 | .exit id,g=>Q (.exit id) g
 | .ret,g=>Q .ret g
def No{A B C:Type}(P:Program)(n0:Nat)(I:A→B→C→Prop)(T:A→B→C→G)(μ:A→B→C→Nat)(a:A)(b:B)(c:C)(Q:Ex→G→Prop):Ex→G→Prop
 | .normal,g=>∃a' b' c',I a' b' c'∧μ a' b' c' < μ a b c∧pG P n0 g (T a' b' c')
 | .exit id,g=>Q (.exit id) g
 | .ret,g=>Q .ret g
theorem hJ(hm:E.P.follows .mixedOrders=true){A:Type}(I:A→Prop)(T:A→G)(μ:A→Nat)(a0:A)(hi:I a0)(h0:pG E.P n0 g (T a0))
 (round:∀a,I a→Nv E n0 c .on (T a) (fun _=>tW E.P n0 I T μ a Q)):W E.P n0 (.loop c) g Q:=by
 refine aa7 (α:={a // I a}) (fun x=>T x.1) (fun x=>μ x.1) ⟨a0,hi⟩ h0 ?_
 rintro⟨a,ha⟩
 have h:=V3 hm c _ _ (round a ha)
 have e:(tW E.P n0 I T μ a Q)=(Pn E.P n0 (fun x:{a // I a}=>T x.1) (fun x=>μ x.1) ⟨a,ha⟩ Q):=by
  funext e g';cases e with
  | normal=>simp only[tW,Pn];apply propext;exact⟨fun⟨a',h1,h2,h3⟩=>⟨⟨a',h1⟩,h2,h3⟩,fun⟨⟨a',h1⟩,h2,h3⟩=>⟨a',h1,h2,h3⟩⟩
  | exit id=>rfl
  | ret=>rfl
 rw[←e]
 exact h
theorem pY(hm:E.P.follows .mixedOrders=true){A B:Type}(I:A→B→Prop)(T:A→B→G)(μ:A→B→Nat)(a0:A)(b0:B)(hi:I a0 b0)(h0:pG E.P n0 g (T a0 b0))
 (round:∀a b,I a b→Nv E n0 c .on (T a b) (fun _=>DP E.P n0 I T μ a b Q)):W E.P n0 (.loop c) g Q:=by
 refine hJ hm (A:=A×B) (fun x=>I x.1 x.2) (fun x=>T x.1 x.2) (fun x=>μ x.1 x.2) (a0,b0) hi h0 ?_
 rintro⟨a,b⟩ h
 have h:=round a b h
 have e:(DP E.P n0 I T μ a b Q)=(tW E.P n0 (fun x:A×B=>I x.1 x.2) (fun x=>T x.1 x.2) (fun x=>μ x.1 x.2) (a,b) Q):=by
  funext e g';cases e with
  | normal=>simp only[tW,DP];apply propext;exact⟨fun⟨a',b',h1,h2,h3⟩=>⟨(a',b'),h1,h2,h3⟩,fun⟨(a',b'),h1,h2,h3⟩=>⟨a',b',h1,h2,h3⟩⟩
  | exit id=>rfl
  | ret=>rfl
 rw[e] at h
 exact h
theorem tG(hm:E.P.follows .mixedOrders=true){A B D:Type}(I:A→B→D→Prop)(T:A→B→D→G)(μ:A→B→D→Nat)(a0:A)(b0:B)(d0:D)(hi:I a0 b0 d0)(h0:pG E.P n0 g (T a0 b0 d0))
 (round:∀a b d,I a b d→Nv E n0 c .on (T a b d) (fun _=>No E.P n0 I T μ a b d Q)):W E.P n0 (.loop c) g Q:=by
 refine pY hm (A:=A) (B:=B×D) (fun a x=>I a x.1 x.2) (fun a x=>T a x.1 x.2) (fun a x=>μ a x.1 x.2) a0 (b0,d0) hi h0 ?_
 rintro a ⟨b,d⟩ h
 have h:=round a b d h
 have e:(No E.P n0 I T μ a b d Q)=(DP E.P n0 (fun a (x:B×D)=>I a x.1 x.2) (fun a x=>T a x.1 x.2) (fun a x=>μ a x.1 x.2) a (b,d) Q):=by
  funext e g';cases e with
  | normal=>simp only[No,DP];apply propext;exact⟨fun⟨a',b',d',h1,h2,h3⟩=>⟨a',(b',d'),h1,h2,h3⟩,fun⟨a',(b',d'),h1,h2,h3⟩=>⟨a',b',d',h1,h2,h3⟩⟩
  | exit id=>rfl
  | ret=>rfl
 rw[e] at h
 exact h
end
theorem Gl{α:Type}{l:List α}{i:Nat}(h:i<l.length)(d:α):l.getD i d=l[i]:=by simp[b9,ae h]
mutual
theorem ahD{g:G}{m:List (Option Nat)}:∀{p:PV},p.lt 0=true→wk g m p p
 | .agg cs,h=>by simp only[PV.lt] at h;simp only[wk];exact aR h
 | .ko cs,h=>by simp only[PV.lt] at h;simp only[wk];exact aR h
 | .fn f cs,h=>by simp only[PV.lt] at h;simp only[wk,true_and];exact aR h
 | .any,_=>by simp only[wk]
 | .undef,_=>by simp only[wk]
 | .bE,_=>by simp only[wk]
 | .d _,_=>by simp only[wk]
 | .gQ _ _ _,_=>by simp only[wk,and_self]
 | .bK _ _,h=>by simp[PV.lt] at h
 | .aW _,h=>by simp[PV.lt] at h
 | .iT _ _ _ _,h=>by simp[PV.lt] at h
theorem aR{g:G}{m:List (Option Nat)}:∀{ps:List PV},wB 0 ps=true→Dm g m ps ps
 | [],_=>by simp only[Dm]
 | p::ps,h=>by simp only[wB,ab] at h;simp only[Dm];exact⟨ahD h.1,aR h.2⟩
end
theorem afY(a b:Int):(a != b)= !decide (a=b):=by by_cases h:a=b<;>simp[h]
theorem agN(a b:Int):(a == b)=decide (a=b):=by by_cases h:a=b<;>simp[h]
theorem afX(a b:List UInt8):(a == b)=decide (a=b):=by by_cases h:a=b<;>simp[h]
theorem aeb(x:List D)(xs:List (List D)):row (x::xs) 0=x:=rfl
attribute [go_sem] aeb
theorem afl(e0:En)(Q:En→Prop):(∃e,some e0=some e∧Q e)=Q e0:=by apply propext;constructor;rintro⟨e,h,hq⟩;cases h;exact hq;intro hq;exact⟨_,rfl,hq⟩
theorem Th(n:Nat):((no_index (OfNat.ofNat n):Nat):Int)=OfNat.ofNat n:=rfl
theorem ada(e0:En):(∃e,some e0=some e)=True:=eq_true ⟨_,rfl⟩
theorem afd(xs ys:List (List D)):(D.eP xs=D.eP ys)=(xs=ys):=by simp
attribute [go_sem] ax List.not_mem_nil or_false forall_eq List.length_take List.length_map
attribute [go_sem] Int.natCast_add Int.natCast_one Int.natCast_zero Th ada ite_true ite_false afl afd List.take_zero eq_self
attribute [go_sem] afY agN afX
attribute [go_sem] bu bQ List.append_nil
theorem aeu(ps:List PV):JF ps ps=True:=eq_true (Qn ps)
attribute [go_sem] cv JF aeu
theorem eh{m:Option (List Ky)}{gs:Option Nat}{d:Nat}{ty:TypeId}{pos:String}{fI:Array Edge}{gd:Option (Nat×Bool)}{E:Env}{g:G}{rest:sH→Option (List Ky)→G→Prop}{nZ:Operand}{xs:List Operand}{tys:Array TypeId}{f:FuncId}(cap:List PV){de:List PV}{res:PV}
 (hC:C E.P f de [] (gR res [])) (h:g.ev nZ= .fn f cap∧JF (U1 g xs++cap) de∧wB 0 de=true∧res.lt 0=true)
 (hr:rest .on (n9 m (pZ (wD gs ⟨eu nZ++CQ xs,[]⟩) ⟨some (d,res),[]⟩)) (g.app ⟨some (d,res),[]⟩)):tm E m gs ⟨some d,.call ⟨.value nZ,⟨xs⟩,tys⟩,ty,pos,fI,gd⟩ g rest:=by
 rw[Cp] at hr
 rw[HV] at h
 exact hY (abr nZ xs tys f cap h.1 de res hC h.2.1 h.2.2.1 h.2.2.2) hr
theorem ox{m:Option (List Ky)}{gs:Option Nat}{d:Nat}{ty:TypeId}{pos:String}{fI:Array Edge}{gd:Option (Nat×Bool)}{E:Env}{g:G}{rest:sH→Option (List Ky)→G→Prop}{nZ:Operand}{xs:List Operand}{tys:Array TypeId}{f:FuncId}(cap:List PV)(ks:List Nat){de:List PV}{res:PV}
 (hC:C E.P f de [] (gR res [])) (h1:g.ev nZ= .fn f cap) (h2:qn g ks (U1 g xs++cap) de) (h3:sc res=true)
 (hr:rest .on (n9 m (pZ (wD gs ⟨eu nZ++CQ xs,ks⟩) ⟨some (d,res),[]⟩)) (g.app ⟨some (d,res),[]⟩)):tm E m gs ⟨some d,.call ⟨.value nZ,⟨xs⟩,tys⟩,ty,pos,fI,gd⟩ g rest:=by
 rw[Cp] at hr
 rw[HV] at h2
 exact hY (af9 nZ xs tys f cap h1 ks de res hC h2 h3) hr
def aef(k:Nat):List Nat→Bool
 | []=>false
 | j::js=>K6 k j||aef k js
theorem KP:∀(k:Nat),K6 k k=true
 | 0=>rfl
 | k+1=>KP k
theorem Yk{k:Nat}:∀{m:List Nat},k∈m→aef k m=true
 | [],h=>by simp at h
 | j::js,h=>by simp only[aef,iV];rcases ax.1 h with rfl|h;exact .inl (KP _);exact .inr (Yk h)
def RT:List Nat→Bool
 | []=>true
 | k::ks=>!aef k ks&&RT ks
theorem QL:∀{m:List Nat},RT m=true→m.Nodup
 | [],_=>by simp
 | k::ks,h=>by simp only[RT,ab,mF] at h;refine List.nodup_cons.2 ⟨fun hk=>?_,QL h.2⟩;rw[Yk hk] at h;cases h.1
def Hg:List Nat→Nat
 | []=>0
 | _::as=>Hg as+1
theorem JW:∀(l:List Nat),Hg l=l.length
 | []=>rfl
 | _::as=>by simp[Hg,JW as]
theorem ff{m:Option (List Ky)}{gs:Option Nat}{d:Nat}{ty:TypeId}{pos:String}{fI:Array Edge}{gd:Option (Nat×Bool)}{E:Env}{g:G}{rest:sH→Option (List Ky)→G→Prop}{nZ:Operand}{xs:List Operand}{tys:Array TypeId}{f:FuncId}(cap:List PV)(M:List Nat){de:List PV}{fR st':List (Option En)}{res:PV}
 (hC:C E.P f de fR (gR res st')) (h:g.ev nZ= .fn f cap∧JF (U1 g xs++cap) (tx M de)∧wB (mj fR) de=true∧RT M=true∧Ae (mj fR) (Hg M)=true∧Ae (mj fR) (mj st')=true∧Ae (mj st') (Hg M)=true∧pU g M (mj fR) M fR∧kd g (mj fR) M)
 (hr:rest .on (n9 m (pZ (wD gs ⟨eu nZ++CQ xs,M⟩) ⟨some (d,res.oh M),mL M M st'⟩)) (g.app ⟨some (d,res.oh M),mL M M st'⟩)):tm E m gs ⟨some d,.call ⟨.value nZ,⟨xs⟩,tys⟩,ty,pos,fI,gd⟩ g rest:=by
 rw[Cp] at hr
 rw[HV] at h
 obtain⟨h1,h2,h3,h4,h5,h6,h7,h8,h9⟩:=h
 have h5:=nv h5
 have h6:=nv h6
 have h7:=nv h7
 rw[qk,JW] at h5
 rw[qk,qk] at h6
 rw[qk,JW] at h7
 rw[qk] at h3 h8 h9
 exact hY (Y2 nZ xs tys f cap h1 M de fR st' res hC h2 h3 (QL h4) h5 h8 h9 h6 h7) hr
theorem aj7{E:Env}{rs:List ResultVar}{n0:Nat}{g:G}{ps:List PV}{q:PV}{st':List (Option En)}(m:List (Option Nat))(h1:zE E g rs=some ps)(h2:Dm ⟨[jm ps],g.st⟩ m [jm ps] [q]∧np ⟨[jm ps],g.st⟩ m m st')(h3:AI m st'=true)(h4:keeps n0 0 m=true):zm E rs n0 (gR q st') g:=
 ⟨ps,m,q,st',h1,⟨h2.1,h2.2,h3,h4⟩,rfl,rfl⟩
theorem fv{E:Env}{rs:List ResultVar}{g:G}{q:PV}(h:(zE E g rs).elim False fun ps=>wk ⟨[jm ps],g.st⟩ [] (jm ps) q):zm E rs 0 (gR q []) g:=by
 cases hps:zE E g rs with
 | none=>rw[hps] at h;exact h.elim
 | some ps=>rw[hps] at h;exact akf hps h
theorem bM{E:Env}{rs:List ResultVar}{n0:Nat}{g:G}{q:PV}{st':List (Option En)}(m:List (Option Nat))(h:(zE E g rs).elim False fun ps=>Dm ⟨[jm ps],g.st⟩ m [jm ps] [q]∧np ⟨[jm ps],g.st⟩ m m st')(h3:AI m st'=true)(h4:keeps n0 0 m=true):zm E rs n0 (gR q st') g:=by
 cases hps:zE E g rs with
 | none=>rw[hps] at h;exact h.elim
 | some ps=>rw[hps] at h;exact aj7 m hps h h3 h4
attribute [go_sem] Option.elim_some
attribute [go_sem] RT Hg aef pU kd En.oh En.lt En.live ju iO Bool.or_true Bool.true_or Bool.or_false Bool.false_or aZ Bool.and_false
attribute [go_sem] sc scs
attribute [go_sem] tW DP No I64 and_true true_and and_self Int.natCast_nonneg lF Int.toNat_zero Nat.zero_lt_succ dQ jH aH aS Int.ofNat_lt Int.ofNat_le Int.ofNat_inj decide_true decide_false ju iO aG List.length_nil gt_iff_lt ge_iff_le
attribute [go_sem] aN Bool.and_true Bool.and_self beq_self_eq_true
theorem pP(ν:Nat→Nm)(b:Nat):¬Own ν (eJ []) b:=by rintro⟨k,e,h,_⟩;cases k<;>simp[eJ] at h
section
variable{P:Program}{X:Cx}{vs:List Value}{e:TypeId}{xs:List (List D)}{rest:List PV}
theorem Zn(hr:wB 0 rest=true)(hs:Sat P X X.ν0 ⟨.aW 0::rest,[some (.aW e xs)]⟩ ⟨⟨vs⟩,[]⟩ X.w0) :
 Sat P ⟨X.w0,Own X.ν0 (eJ []),X.ν0,eJ [],X.Z⟩ X.ν0 ⟨.d (.eP xs)::rest,[]⟩ ⟨⟨vs⟩,[]⟩ X.w0:=by
 have hw:∀b,dg X X.ν0 (G.at ⟨.aW 0::rest,[some (.aW e xs)]⟩) b→b<X.w0.heap.size→dg ⟨X.w0,Own X.ν0 (eJ []),X.ν0,eJ [],X.Z⟩ X.ν0 (G.at ⟨.d (.eP xs)::rest,[]⟩) b∧X.w0.heap[b]?=X.w0.heap[b]?:=fun b hb _=>⟨⟨pP _ b,hb.2⟩,rfl⟩
 have mf:∀k,G.at ⟨.d (.eP xs)::rest,[]⟩ k=none:=fun _=>rfl
 refine⟨hs.size,fun t=>?_,fun k e h=>?_,fun k k' e e' b h=>?_,fun b hb=>?_,fun k h=>?_,fun k h=>?_,⟨fun b hb=>?_,hs.kt rfl fun b hb=>(pP _ b hb).elim⟩,uO.refl _ _,rfl⟩
 ·cases t with
  | zero=>have h:=hs.sl 0;simp only[nth,aF] at h⊢;rw[h.2];obtain⟨us,h1,h2,h3,_⟩:=hs.en 0 (.aW e xs) rfl;exact yl h1 h2 h3 (fun b hb=>⟨pP _ b,hs.Sj ⟨0,_,rfl,rfl,.inl hb⟩⟩) hw
  | succ t=>
   have h:=hs.sl (t+1);simp only[nth] at h⊢;have hl:∀(ps:List PV)(t:Nat),wB 0 ps=true→(nth ps t).lt 0=true:=by
    intro ps;induction ps with
    | nil=>intro t _;rfl
    | cons p ps ih=>
     intro t h;simp only[wB,ab] at h;cases t with
     | zero=>exact h.1
     | succ t=>exact ih t h.2
   exact aF.Y0 hw _ _ (hl rest t hr) h
 ·rw[mf] at h;cases h
 ·rw[mf] at h;cases h
 ·exact(pP _ b hb).elim
 ·rw[mf] at h;cases h
 ·cases k<;>simp[eJ] at h
 ·exact⟨(hs.J1 b hb).1,pP _ b⟩
theorem acp{f:FuncId}{e':TypeId}{ys:List (List D)}(hr:wB 0 rest=true)(hC:C P f (.d (.eP xs)::rest) [] (gR (.aW 0) [some (.aW e' ys)])):C P f (.aW 0::rest) [some (.aW e xs)] (gR (.aW 1) [some .dead,some (.aW e' ys)]):=by
 refine⟨hC.1,fun X vs gY hO hs=>?_⟩;refine(hC.2 _ vs rfl rfl (Zn hr hs)).mono ?_;rintro ex w' ⟨v,_,_,ν',rfl,⟨rfl,rfl⟩,jS⟩;refine⟨v,_,_,fun|0=>X.ν0 0|k+1=>ν' k,rfl,⟨rfl,rfl⟩,?_⟩;have mf:∀k e,G.at ⟨[.aW 1],[some .dead,some (.aW e' ys)]⟩ k=some e→e.live=true→k=1∧e= .aW e' ys:=by
  intro k e h hl
  match k,h with
  | 0,h=>
    obtain rfl:En.dead=e:=by simpa[G.at,eJ] using h
    cases hl
  | 1,h=>exact⟨rfl,by simpa[G.at,eJ] using h.symm⟩
  | k+2,h=>simp[G.at,eJ] at h
 have jG:∀b,Own (fun|0=>X.ν0 0|k+1=>ν' k) (G.at ⟨[.aW 1],[some .dead,some (.aW e' ys)]⟩) b↔Own ν' (G.at ⟨[.aW 0],[some (.aW e' ys)]⟩) b:=by
  intro b;constructor;rintro⟨k,e,h,hl,hb⟩;obtain⟨rfl,rfl⟩:=mf k e h hl;exact⟨0,_,rfl,rfl,hb⟩;rintro⟨k,e,h,hl,hb⟩
  match k,h with
  | 0,h=>
   obtain rfl:En.aW e' ys=e:=by simpa[G.at,eJ] using h
   exact⟨1,_,rfl,rfl,hb⟩
  | k+1,h=>simp[G.at,eJ] at h
 have hw:∀b,dg (⟨X.w0,Own X.ν0 (eJ []),X.ν0,eJ [],X.Z⟩:Cx) ν' (G.at ⟨[.aW 0],[some (.aW e' ys)]⟩) b→b<w'.heap.size→dg X (fun|0=>X.ν0 0|k+1=>ν' k) (G.at ⟨[.aW 1],[some .dead,some (.aW e' ys)]⟩) b∧w'.heap[b]?=w'.heap[b]?:=fun b hb _=>⟨⟨fun h=>hb.1 ((jG b).1 h),hb.2⟩,rfl⟩;refine⟨rfl,fun t=>?_,fun k e h=>?_,fun k k' e e2 b h1 h2 hl hl2 _ _=>?_,fun b hb=>?_,fun k h=>?_,fun k h=>?_,hs.J1,jS.C4.mono fun b hb _=>(pP _ b hb).elim,rfl⟩
 ·cases t with
  | zero=>have h:=jS.sl 0;simp only[nth,aF] at h⊢;exact⟨rfl,h.2⟩
  | succ t=>exact trivial
 ·match k,h with
  | 0,h=>
   obtain rfl:En.dead=e:=by simpa[G.at,eJ] using h
   exact trivial
  | 1,h=>
   obtain rfl:En.aW e' ys=e:=by simpa[G.at,eJ] using h
   obtain⟨us,h1,h2,h3⟩:=jS.en 0 _ rfl;exact⟨us,h1,h2.frame hw (aH _),h3⟩
  | k+2,h=>simp[G.at,eJ] at h
 rw[(mf k e h1 hl).1,(mf k' e2 h2 hl2).1];rcases jS.base b ((jG b).1 hb) with h|h;exact(pP _ b h).elim;exact .inr h
 ·match k,h with
  | 0,_=>exact hs.nu 0 rfl
  | 1,_=>exact jS.nu 0 rfl
  | k+2,h=>simp[G.at,eJ] at h
 rw[gY] at h
 match k,h with
 | 0,_=>exact⟨rfl,rfl⟩
 | k+1,h=>simp[eJ] at h
end
def DV(M:List Nat):List Nat→Nat
 | []=>0
 | j::js=>Nat.lor (Nat.lor (Nat.pow 2 j) (M.getD j 0)) (DV M js)
def af5:List Oper→List Nat→List Nat
 | [],M=>M
 | o::os,M=>af5 os (M++[DV M (nR o)])
def Z5(b k:Nat):Bool:=kV (Nat.land (Nat.shiftRight b k) 1) 1
def Kk(b:Nat)(y:Ky):Nat→List Ky→Bool
 | _,[]=>true
 | j,x::xs=>(Z5 b j|| !(x.CV y))&&Kk b y (j+1) xs
def Kd(M:List Nat):Nat→List Ky→List Ky→Bool
 | _,_,[]=>true
 | i,pre,y::ys=>Kk (M.getD i 0) y 0 pre&&Kd M (i+1) (pre++[y]) ys
def QK(os:List Oper)(L:List Ky):Bool:=ad8 0 os&&Kd (af5 os []) 0 [] L
theorem J8(b k:Nat):Z5 b k=b.testBit k:=by simp only[Z5,Nat.testBit];have h:Nat.land (Nat.shiftRight b k) 1=(b >>> k) &&& 1:=rfl;rw[h,Nat.and_comm 1 (b >>> k),Nat.and_one_is_mod];rcases Nat.mod_two_eq_zero_or_one (b >>> k) with h2|h2<;>rw[h2]<;>rfl
def Cor(T:List (List Nat))(M:List Nat):Prop:=T.length=M.length∧∀j k,BH k (T.getD j [])=Z5 (M.getD j 0) k
theorem S7{a b:Bool}(h:a=true↔b=true):a=b:=by cases a<;>cases b<;>simp_all
theorem aaM(k j:Nat)(l:List Nat):BH k (j::l)=(decide (j=k)||BH k l):=by apply S7;simp only[te,ax,iV,decide_eq_true_eq];grind
theorem adT(k:Nat)(l l':List Nat):BH k (l++l')=(BH k l||BH k l'):=by apply S7;simp only[te,List.mem_append,iV]
theorem Mm{T:List (List Nat)}{M:List Nat}(h:Cor T M)(k:Nat):∀(js:List Nat),BH k (zN T js)=Z5 (DV M js) k
 | []=>by simp only[zN,DV,J8,Nat.zero_testBit];rfl
 | j::js=>by
  have e:Nat.lor (Nat.lor (Nat.pow 2 j) (M.getD j 0)) (DV M js)=(2 ^ j ||| M.getD j 0) ||| DV M js:=rfl
  simp only[zN,DV,e,aaM,adT,Mm h k js,h.2 j k];simp only[J8,Nat.testBit_or,Nat.testBit_two_pow,Bool.or_assoc]
theorem Uk:∀(os:List Oper){T:List (List Nat)}{M:List Nat},Cor T M→Cor (E5 os T) (af5 os M)
 | [],_,_,h=>h
 | o::os,T,M,h=>by simp only[E5,af5];refine Uk os ⟨by simp[h.1],fun j k=>?_⟩;rcases Nat.lt_trichotomy j T.length with hj|hj|hj;have hj':j<M.length:=(by rw[←h.1];exact hj);have:=h.2 j k;grind;subst hj;have hM:M.length≤T.length:=(by rw[h.1];exact aH _);rw[aE,aE,bG (aH _),bG hM,←h.1];simp only[jI,List.getElem?_cons_zero,Option.getD_some];exact Mm h k _;have hj':M.length<j:=(by rw[←h.1];exact hj);rw[aE,aE,bL (by simp;omega),bL (by simp;omega)];simp only[lK,J8,Nat.zero_testBit];rfl
theorem MB{b:List Nat}{c:Nat}(h:∀k,BH k b=Z5 c k)(y:Ky):∀(j:Nat)(l:List Ky),Kk c y j l=GB b y j l
 | _,[]=>rfl
 | j,x::xs=>by simp only[Kk,GB,h,MB h y (j+1) xs]
theorem M8{T:List (List Nat)}{M:List Nat}(h:Cor T M):∀(i:Nat)(pre l:List Ky),Kd M i pre l=GF T i pre l
 | _,_,[]=>rfl
 | i,pre,y::ys=>by simp only[Kd,GF,MB (h.2 i),M8 h (i+1)]
theorem HS{os:List Oper}{L:List Ky}(h:QK os L=true):indep os L=true:=by simp only[QK,ab] at h;simp only[indep,ab];refine⟨h.1,?_⟩;rw[←M8 (Uk os (T:=[]) (M:=[]) ⟨rfl,fun j k=>?_⟩)];exact h.2;simp only[List.getD_nil,J8,Nat.zero_testBit];rfl
theorem SZ{os:List Oper}{L:List Ky}{p:Prop}(h:QK os L=true)(hp:p):indep os L=true∧p:=⟨HS h,hp⟩
theorem qn.nth{g:G}{ks:List Nat}:∀{ps qs:List PV},qn g ks ps qs→∀t,Vw g ks (nth ps t) (nth qs t)
 | _,_,.nil,t=>by cases t<;>exact .same rfl
 | _,_,.cons h _,0=>h
 | _,_,.cons _ h',t+1=>qn.nth h' t
theorem qn.len{g:G}{ks:List Nat}:∀{ps qs:List PV},qn g ks ps qs→qs.length=ps.length
 | _,_,.nil=>rfl
 | _,_,.cons _ h'=>by simp only[aG,qn.len h']
section
variable{P:Program}{X:Cx}{vs:List Value}{e:TypeId}{xs:List (List D)}
end
section
variable{E:Env}{g:G}{d:Nat}{ty:TypeId}{pos:String}{fI:Array Edge}{gd:Option (Nat×Bool)}
theorem RY{P:Program}(w:World)(n:Nat)(t e:TypeId)(a:Option Addr)(l c:Nat)(h:P.underlying t=some (.slice e)):(Op.equalIn (n+1) t (.slice a l c) (.slice none 0 0)).run P w= .ok a.isNone w:=by cases a<;>simp[Op.equalIn,run_underlying h]
theorem XS{P:Program}(w:World)(t e:TypeId)(a:Option Addr)(l c:Nat)(h:P.underlying t=some (.slice e)):(Op.equal t (.slice a l c) (.slice none 0 0)).run P w= .ok a.isNone w:=RY w 9999 t e a l c h
theorem adW(x:Operand)(t e u:TypeId)(ti:TI)(b:Bool)(ht:E.ti t=some ti)(mU:ti.ty= .slice e)(hp:∀(w:World)(ok:Nat→Prop)(ν:Nat→Nm)(st:Nat→Option En)(v:Value),aF w ok ν st (g.ev x) v→∃a n c,v= .slice a n c∧a.isNone=b) :
 mQ E.P ⟨some d,.binOp .eql t x (.const (.slice none 0 0)) u,ty,pos,fI,gd⟩ g ⟨eu x,[]⟩ ⟨some (d,.d (.val (.bool b))),[]⟩:=by
 intro g2 hg
 have h1:=hg.ev (x:=x) (fun t h=>h)
 refine JC.val rfl fun X ν a w hs=>?_
 have hv:=hs.ev x
 rw[h1] at hv
 obtain⟨ad,n,c,hva,hb⟩:=hp _ _ _ _ _ hv
 have h:=(E.ok t ti ht).ty
 rw[mU] at h
 refine⟨.bool b,?_,oX rfl⟩
 have he:a.eval (.const (.slice none 0 0))= .slice none 0 0:=rfl
 simp[execOp,hva,he,eqGuard,binOp,XS w t e ad n c h,hb]
theorem vl:∀(w:World)(ok:Nat→Prop)(ν:Nat→Nm)(st:Nat→Option En)(v:Value),aF w ok ν st .bE v→∃a n c,v= .slice a n c∧a.isNone=true:=by intro w ok ν st v h;simp only[aF] at h;exact⟨_,_,_,h,rfl⟩
theorem B6(ad:Addr)(n c:Nat):∀(w:World)(ok:Nat→Prop)(ν:Nat→Nm)(st:Nat→Option En)(v:Value),aF w ok ν st (.d (.val (.slice (some ad) n c))) v→∃a n c,v= .slice a n c∧a.isNone=false:=by intro w ok ν st v h;exact⟨_,_,_,iB h,rfl⟩
theorem CB{x:List D}{xs:List (List D)}:∀(w:World)(ok:Nat→Prop)(ν:Nat→Nm)(st:Nat→Option En)(v:Value),aF w ok ν st (.d (.eP (x::xs))) v→∃a n c,v= .slice a n c∧a.isNone=false:=by
 intro w ok ν st v h;simp only[aF] at h;cases h with
 | eP=>exact⟨_,_,_,rfl,rfl⟩
theorem wW{m:Option (List Ky)}{gs:Option Nat}{rest:sH→Option (List Ky)→G→Prop}{x:Operand}{t u:TypeId}(e:TypeId)(ti:TI)(b:Bool)(ht:E.ti t=some ti)(mU:ti.ty= .slice e){p:PV}(hx:g.ev x=p)(hp:∀(w:World)(ok:Nat→Prop)(ν:Nat→Nm)(st:Nat→Option En)(v:Value),aF w ok ν st p v→∃a n c,v= .slice a n c∧a.isNone=b)
 (hr:rest .on (n9 m (pZ (wD gs ⟨eu x,[]⟩) ⟨some (d,.d (.val (.bool b))),[]⟩)) (g.app ⟨some (d,.d (.val (.bool b))),[]⟩)):tm E m gs ⟨some d,.binOp .eql t x (.const (.slice none 0 0)) u,ty,pos,fI,gd⟩ g rest:=
 hY (adW x t e u ti b ht mU (by rw[hx];exact hp)) hr
end
theorem ES{P:Program}{f:FuncId}{R:PV→List (Option En)→Prop}(h1:C P f [.bE] [] R)(h2:∀a c,C P f [.d (.val (.slice (some a) 0 c))] [] R):C P f [.d (.eP [])] [] R:=by
 refine⟨h1.1,fun X vs gY hO hs=>?_⟩;have hsz:=hs.size;obtain⟨v,rfl⟩:=fE.1 (show vs.length=1 by simpa using hsz);have h0:=hs.sl 0;have h0:jn X.w0 (dg X X.ν0 (G.at ⟨[.d (.eP [])],[]⟩)) (.eP []) v:=h0;have key:∀p:PV,aF X.w0 (dg X X.ν0 (G.at ⟨[p],[]⟩)) X.ν0 (G.at ⟨[p],[]⟩) p v→Sat P X X.ν0 ⟨[p],[]⟩ ⟨⟨[v]⟩,[]⟩ X.w0:=fun p hp=>
  ⟨rfl,fun t=>by
   match t with
   | 0=>exact hp
   | t+1=>simp only[nth,aF],hs.en,hs.inj,hs.base,hs.nu,hs.par,hs.J1,hs.C4,rfl⟩
 cases h0 with
 | nil=>exact h1.2 X _ gY hO (key .bE rfl)
 | emp a c h=>exact(h2 a c).2 X _ gY hO (key _ (oX rfl))
 | eP _ us b off cap sz dL hb jX hmax hB hlu hxx hu hc k9=>exact(h2 _ cap).2 X _ gY hO (key _ (oX rfl))
theorem AG(z:Array Value)(hz:0<z.toList.length)(n:Nat):(Builtin.zeroCells z n).toList=(aL n z.toList).flatten:=Pt z.toList hz n
theorem As{P:Program}(w:World)(t e ty:TypeId)(ht:P.underlying t=some (.slice e))(a:Option Addr)(c:Nat):(Builtin.clear_ #[t] ty #[.slice a 0 c]).run P w= .ok (.tuple #[]) w:=by cases a<;>simp[Builtin.clear_,run_underlying ht]
theorem NN{P:Program}(w:World)(t e ty:TypeId)(z:Value)(ht:P.underlying t=some (.slice e))(hv:(zeroValue e).run P w= .ok z w)(b o n c:Nat)(hn:n≠0)(hz:0<z.cells.toList.length)
 (cur:Array Value) (T:TypeId) (hg:w.heap[b]?=some (.cells cur T (0,0))) (hl:o+(aL n z.cells.toList).flatten.length≤cur.size) (h1:∀v∈(aL n z.cells.toList).flatten,v.oneCell'=true) :
 (Builtin.clear_ #[t] ty #[.slice (some ⟨b,o,none⟩) n c]).run P w= .ok (.tuple #[]) (w.setRow b (cur.toList.take o++(aL n z.cells.toList).flatten++cur.toList.drop (o+(aL n z.cells.toList).flatten.length)).toArray):=by
 have gY:=run_storeCells_at (P:=P) b o T (aL n z.cells.toList).flatten 0 cur w hg oM h1
 simp only[jH] at gY
 obtain⟨m,rfl⟩:∃m,n=m+1:=⟨n-1,oM⟩
 rw[←AG z.cells hz] at gY⊢
 simp[Builtin.clear_,run_underlying ht,hv,gY]
section
variable{E:Env}{X:Cx}{ν:Nat→Nm}{g:G}{a:Act}{w:World}
def Sl(z:List D)(xs:List (List D))(m:Nat):List (List D):=xs.take m++aL (xs.length-m) z
theorem abH{t e k m dd:Nat}{ty:TypeId}{pos:String}{fI:Array Edge}{gd:Option (Nat×Bool)}{xs:List (List D)}{z:List D}{ti ei:TI}(ht:E.ti t=some ti)(mU:ti.ty= .slice e)(he:E.ti e=some ei)(hz:DW ei.zero=some z)
 (hk:g.at k=some (.aW e xs)) (hm:m≤xs.length) (n c:Nat) (a0:Option Addr) (hν:(ν k).v= .slice a0 n c) (hv:a.eval (.tmp dd)=sliced a0 m n c ei.n)
 (hs:Sat E.P X ν g a w) (next:Act→World→Prop) (Q:Exit→Act→World→Prop) (hn:∀ν' a' w',Sat E.P X ν' ⟨g.sl,dv g.st k (some (.aW e (Sl z xs m)))⟩ a' w'→next a' w') :
 (⟨none,.call ⟨.builtin .clear,#[.tmp dd],#[t]⟩,ty,pos,fI,gd⟩:Oper).wp E.P a w next Q:=by
 have hu:=(E.ok t ti ht).ty
 rw[mU] at hu
 obtain⟨i,zv,i1,i2,i3,i4,i5,i6⟩:=(E.ok e ei he).info
 have hpos:=(E.ok e ei he).pos
 have hzl:zv.cells.toList.length=ei.n:=by simpa using i6
 have hzv:(zeroValue e).run E.P w= .ok zv w:=by simp[zeroValue,typeInfo,i1,i4]
 obtain⟨us,ho,k9,hB,hf0⟩:=hs.en k _ hk
 rw[(E.ok e ei he).cells] at k9 ho
 have hul:us.length=xs.length:=k9.len
 have hfl:=k9.gM
 have key:∀(w':World)(us':List (List Value)),(execOp a.eval ⟨none,.call ⟨.builtin .clear,#[.tmp dd],#[t]⟩,ty,pos,fI,gd⟩).run E.P w= .ok (.value (.tuple #[])) w'→uO (fun b=>(ν k).has b) w w' →
  (w'.ownsRow 0 e ei.n (ν k).v (Sl z xs m).length us'.flatten)→cW w (dg X ν g.at) ei.n (Sl z xs m) us' →
  (⟨none,.call ⟨.builtin .clear,#[.tmp dd],#[t]⟩,ty,pos,fI,gd⟩:Oper).wp E.P a w next Q:=by
  intro w' us' hr tK qf qe
  unfold Oper.wp
  rw[hr,Oper.upon_value]
  refine hn _ _ _ (hs.G8 k (.aW e xs) (.aW e (Sl z xs m)) hk rfl tK none .undef Go.undef ?_ (fun h=>by cases h))
  intro hwf _
  refine⟨us',?_,?_,by simp[Sl];omega,hf0⟩
  ·rw[(E.ok e ei he).cells]
   exact qf
  ·rw[(E.ok e ei he).cells]
   exact qe.frame hwf tK.size
 have hex:∀(v:Value)(w':World),(Builtin.clear_ #[t] ty #[a.eval (.tmp dd)]).run E.P w= .ok v w'→(execOp a.eval ⟨none,.call ⟨.builtin .clear,#[.tmp dd],#[t]⟩,ty,pos,fI,gd⟩).run E.P w= .ok (.value v) w':=by intro v w' h;unfold execOp;simp only[resolve,invoke,builtin,Sem.run_bind,Sem.run_pure,Result.andThen_ok,List.map_toArray,aJ,cL,h]
 rcases ho.2 with⟨h1,h2⟩|⟨b,cap,cur,h1,_,h2,h4,h5,h6,h7⟩
 ·rw[h1] at hν
  obtain⟨rfl,rfl,rfl⟩:none=a0∧0=n∧0=c:=by simpa using hν
  have hm0:m=0:=oM
  subst hm0
  have hxs:xs=[]:=List.eq_nil_of_length_eq_zero h2
  subst hxs
  refine key w us (hex _ _ ?_) (uO.refl _ w) ?_ ?_
  ·rw[hv]
   exact As w t e ty hu _ _
  ·exact ho
  ·exact k9
 ·rw[h1] at hν
  obtain⟨rfl,rfl,rfl⟩:some ⟨b,0,none⟩=a0∧xs.length=n∧cap=c:=by simpa using hν
  by_cases pz:m=xs.length
  ·refine key w us (hex _ _ ?_) (uO.refl _ w) ?_ ?_
   ·rw[hv]
    unfold sliced
    rw[pz,jI]
    exact As w t e ty hu _ _
   ·simpa[Sl,pz] using ho
   ·simpa[Sl,pz] using k9
  ·have hzr:aB w (dg X ν g.at) ν g.at (fy z) zv.cells.toList:=BO (xS _ _ _ _ zv.cells.toList) (by rw[i5];exact hz)
   obtain⟨hz1,hz2⟩:=Gh hzr
   have hrep0:cW w (dg X ν g.at) ei.n (aL (xs.length-m) z) (aL (xs.length-m) zv.cells.toList):=cW.replicate _ (by rw[←hz1];exact hzl) hzl hz2
   have qe:cW w (dg X ν g.at) ei.n (Sl z xs m) (us.take m++aL (xs.length-m) zv.cells.toList):=by have:=k9.cut 0 m;simp only[kK] at this;exact this.append hrep0
   have hmul:m*ei.n≤xs.length*ei.n:=bD _ hm
   have hZ:(aL (xs.length-m) zv.cells.toList).flatten.length=(xs.length-m)*ei.n:=hrep0.gM.trans (by simp)
   have hsum:m*ei.n+(xs.length-m)*ei.n=xs.length*ei.n:=by rw[←Nat.add_mul];congr 1;omega
   have jX:xs.length*ei.n≤cap*ei.n:=bD _ h4
   have pI:=NN (P:=E.P) w t e ty zv hu hzv b (m*ei.n) (xs.length-m) (cap-m) oM oM cur e h2 (by rw[hZ,hsum,h6];exact jX) hrep0.one
   have hval:a.eval (.tmp dd)= .slice (some ⟨b,m*ei.n,none⟩) (xs.length-m) (cap-m):=by rw[hv];unfold sliced;rw[if_neg oM,dV,add_lit,dQ]
   refine key _ _ (hex _ _ (by rw[hval];exact pI)) (mP w b _ _ ((lx hf0).2 (by rw[h1];rfl))) ?_ qe
   have htake:cur.toList.take (m*ei.n)=(us.take m).flatten:=by have:=vG us 0 m k9.hu oM;simp only[kK,Nat.zero_mul] at this;rw[this,←h7,List.take_take,Nat.min_eq_left hmul]
   have hnew:cur.toList.take (m*ei.n)++(aL (xs.length-m) zv.cells.toList).flatten=(us.take m++aL (xs.length-m) zv.cells.toList).flatten:=by rw[htake,List.flatten_append]
   have hnl:(us.take m++aL (xs.length-m) zv.cells.toList).flatten.length=(Sl z xs m).length*ei.n:=qe.gM
   have hcl:(Sl z xs m).length=xs.length:=by simp[Sl];omega
   rw[h1]
   refine⟨hnl,.inr ⟨b,cap,_,by rw[hcl],Nat.zero_le _,setRow_heap w b _ _ e _ h2,by rw[hcl];exact h4,h5,?_,?_⟩⟩
   ·rw[hnew]
    simp only[List.size_toArray,List.length_append,hnl,hcl,List.length_drop,fx,h6,hZ,hsum]
    omega
   ·rw[hnew,hcl]
    simp only
    rw[cH (by rw[hnl,hcl];exact aH _),ak (by rw[hnl,hcl];exact aH _)]
end
theorem TL(z:List D)(xs:List (List D))(m:Nat)(h:m≤xs.length):(Sl z xs m).take m=xs.take m:=by
 have e:(xs.take m).length=m:=by simp;omega
 rw[Sl,cH oM,ak oM]
theorem Yg(z:List D)(xs:List (List D))(m:Nat)(h:m≤xs.length):(Sl z xs m).length=xs.length:=by simp[Sl];omega
theorem ahz{P:Program}{ops:Array Oper}{o1 o2:Oper}{os:List Oper}{g g':G}{K:G→Prop}(hg1:o1.guard=none)(hg2:o2.guard=none)
 (h:∀(X:Cx)(ν:Nat→Nm)(a:Act)(w:World)(next next1:Act→World→Prop)(Q:Exit→Act→World→Prop),Sat P X ν g a w→(∀ν' a' w',Sat P X ν' g' a' w'→next a' w')→(∀a1 w1,o2.wp P a1 w1 next Q→next1 a1 w1)→o1.wp P a w next1 Q)
 (hr:WO P ops os g' K):WO P ops (o1::o2::os) g K:=by
 intro i hi X ν a w Q hs hn
 have ho1:ops[i]?=some o1:=hi 0 o1 rfl
 have ho2:ops[i+1]?=some o2:=hi 1 o2 rfl
 simp only[aG,List.range'_succ,wpOps,ho1]
 have hrest:=hr (i+2) (fun j o' hj=>by have:=hi (j+2) o' (by simpa using hj);rw[show i+2+j=i+(j+2) from by omega];exact this)
 rw[if_pos (by simp[Region.wanted,hg1])]
 refine .inl (h X ν a w (wpOps P ops Q (List.range' (i+2) os.length)) _ Q hs (fun ν' a' w' hs'=>hrest X ν' a' w' Q hs' hn) fun a1 w1 h2=>?_)
 simp only[ho2]
 rw[if_pos (by simp[Region.wanted,hg2])]
 exact .inl h2
section
variable{E:Env}{g:G}{n0:Nat}
theorem acW{ops:Array Oper}{os:List Oper}{K:G→Prop}{x lo:Operand}{t e k d:Nat}{m:Int}{ty ty2:TypeId}{pos pos2:String}{fI aft2:Array Edge}{xs:List (List D)}(z:List D)(ti ei:TI)(ht:E.ti t=some ti)(mU:ti.ty= .slice e)(he:E.ti e=some ei)(hz:DW ei.zero=some z)
 (hx:g.ev x= .aW k) (hlo:g.ev lo= .d (.val (.int .i64 m))) (hk:g.at k=some (.aW e xs)) (h0:0≤m) (hm:m≤xs.length) (hd:d<g.sl.length)
 (hr:WO E.P ops os ⟨kM g.sl d .any,dv g.st k (some (.aW e (Sl z xs m.toNat)))⟩ K) :
 WO E.P ops (⟨some d,.slice t x (some lo) none none,ty,pos,fI,none⟩::⟨none,.call ⟨.builtin .clear,#[.tmp d],#[t]⟩,ty2,pos2,aft2,none⟩::os) g K:=by
 refine ahz rfl rfl (fun X ν a w next next1 Q hs hn h2=>?_) hr
 have hu:=(E.ok t ti ht).ty
 rw[mU] at hu
 have hv:=hs.ev x
 rw[hx] at hv
 have pJ:=hs.ev lo
 rw[hlo] at pJ
 have pJ:=iB pJ
 simp only[aF] at hv
 have hsize:=(E.ok e ei he).size
 have hs1:=hs.put d (p:=.any) (v:=Go.undef) trivial
 obtain⟨us,ho,k9,hB,hf0⟩:=hs.en k _ hk
 have pI:∃n c a0,(ν k).v= .slice a0 n c∧(execOp a.eval ⟨some d,.slice t x (some lo) none none,ty,pos,fI,none⟩).run E.P w= .ok (.value (sliced a0 m.toNat n c ei.n)) w:=by rcases ho.2 with⟨h1,h2⟩|⟨b,cap,cur,h1,_,_,h4,_⟩;refine⟨0,0,none,h1,?_⟩;have hr:=wL (P:=E.P) w hu hsize none 0 0 (some (.int .i64 m)) none m ((0:Nat):Int) (.inr ⟨_,rfl⟩) (.inl ⟨rfl,rfl⟩) h0 oM (lF _) (aH _);simp only[execOp,hv.2,h1,pJ,hX,dV,Sem.run_bind,hr,Result.andThen_ok];rfl;refine⟨xs.length,cap,some ⟨b,0,none⟩,h1,?_⟩;have hr:=wL (P:=E.P) w hu hsize (some ⟨b,0,none⟩) xs.length cap (some (.int .i64 m)) none m (xs.length:Int) (.inr ⟨_,rfl⟩) (.inl ⟨rfl,rfl⟩) h0 oM (lF _) h4;simp only[aS] at hr;simp only[execOp,hv.2,h1,pJ,hX,dV,Sem.run_bind,hr,Result.andThen_ok];rfl
 obtain⟨n,c,a0,hν,hr⟩:=pI
 unfold Oper.wp
 rw[hr,Oper.upon_value]
 refine h2 _ _ ?_
 have hs2:=hs.put d (p:=.any) (v:=sliced a0 m.toNat n c ei.n) trivial
 refine abH (g:=⟨kM g.sl d .any,g.st⟩) ht mU he hz hk oM n c a0 hν ?_ hs2 next Q hn
 show(a.put (some d) _).tmps.getD d Go.undef=_
 rw[we,if_pos ⟨rfl,by rw[hs.size];exact hd⟩]
theorem Yu(x hi:Operand)(t e k:Nat){d:Nat}{ty:TypeId}{pos:String}{fI:Array Edge}{gd:Option (Nat×Bool)}(ti ei:TI)(xs:List (List D))(h:Int)(ht:E.ti t=some ti)(mU:ti.ty= .slice e)(he:E.ti e=some ei)
 (hx:g.ev x= .aW k) (hk:g.at k=some (.aW e xs)) (hhi:g.ev hi= .d (.val (.int .i64 h))) (h0:0≤h) (h1:h≤xs.length) :
 mQ E.P ⟨some d,.slice t x none (some hi) none,ty,pos,fI,gd⟩ g ⟨eu x++eu hi,[k]⟩ ⟨some (d,.d (.eP (xs.take h.toNat))),[(k,.dead)]⟩:=by
 intro g2 hg
 have e1:=hg.ev (x:=x) (fun t h=>by simp[h])
 have e2:=hg.ev (x:=hi) (fun t h=>by simp[h])
 have h3:=(hg.p k (by simp)).trans hk
 intro X ν a w next Q hs hn
 have hu:=(E.ok t ti ht).ty
 rw[mU] at hu
 have hv:=hs.ev x
 rw[e1,hx] at hv
 have pJ:=hs.ev hi
 rw[e2,hhi] at pJ
 have pJ:=iB pJ
 simp only[aF] at hv
 have hsize:=(E.ok e ei he).size
 obtain⟨hn',rfl⟩:∃n:Nat,h=n:=⟨h.toNat,oM⟩
 simp only[aS] at hn⊢
 obtain⟨us,ho,k9,hB,hf0⟩:=hs.en k _ h3
 have mf:∀j,(g2.app ⟨some (d,.d (.eP (xs.take hn'))),[(k,.dead)]⟩).at j=if j=k then some .dead else g2.at j:=fun j=>il g2.st k (some .dead) j
 have qg:∀j e1,(g2.app ⟨some (d,.d (.eP (xs.take hn'))),[(k,.dead)]⟩).at j=some e1→e1.live=true→j≠k∧g2.at j=some e1:=by intro j e1 h1 h2;rw[mf] at h1;by_cases hj:j=k;rw[if_pos hj] at h1;cases h1;cases h2;rw[if_neg hj] at h1;exact⟨hj,h1⟩
 have jG:∀b,Own ν (g2.app ⟨some (d,.d (.eP (xs.take hn'))),[(k,.dead)]⟩).at b→Own ν g2.at b:=by rintro b ⟨j,e1,h1,h2,h3⟩;exact⟨j,e1,(qg j e1 h1 h2).2,h2,h3⟩
 have hw:∀b,dg X ν g2.at b→b<w.heap.size→dg X ν (g2.app ⟨some (d,.d (.eP (xs.take hn'))),[(k,.dead)]⟩).at b∧w.heap[b]?=w.heap[b]?:=fun b hb _=>⟨⟨fun ho=>hb.1 (jG b ho),hb.2⟩,rfl⟩
 have pI:∃v,(execOp a.eval ⟨some d,.slice t x none (some hi) none,ty,pos,fI,gd⟩).run E.P w= .ok (.value v) w∧jn w (dg X ν (g2.app ⟨some (d,.d (.eP (xs.take hn'))),[(k,.dead)]⟩).at) (.eP (xs.take hn')) v:=by rcases ho.2 with⟨k1,k2⟩|⟨b,cap,cur,k1,_,k2,k4,k5,k6,k7⟩;have hr:=wL (P:=E.P) w hu hsize none 0 0 none (some (.int .i64 (hn':Int))) 0 (hn':Int) (.inl ⟨rfl,rfl⟩) (.inr ⟨_,rfl⟩) (lF _) h0 oM (aH _);obtain rfl:hn'=0:=oM;refine⟨.slice none 0 0,?_,by simp;exact .nil⟩;simp only[execOp,hv.2,k1,pJ,hX,dV,Sem.run_bind,hr,Result.andThen_ok];rfl;have hr:=wL (P:=E.P) w hu hsize (some ⟨b,0,none⟩) xs.length cap none (some (.int .i64 (hn':Int))) 0 (hn':Int) (.inl ⟨rfl,rfl⟩) (.inr ⟨_,rfl⟩) (lF _) h0 oM k4;simp only[aS] at hr;refine⟨.slice (some ⟨b,0,none⟩) hn' cap,?_,?_⟩;simp only[execOp,hv.2,k1,pJ,hX,dV,Sem.run_bind,hr,Result.andThen_ok];unfold sliced;simp[add_lit];have hrr':=(k9.frame hw (aH _)).cut 0 hn';simp only[kK] at hrr';have fj:(xs.take hn').length=hn':=(by simp;omega);have hcl:=vG us 0 hn' k9.hu (by rw[k9.len];omega);simp only[kK,Nat.zero_mul] at hcl;have hokb:dg X ν (g2.app ⟨some (d,.d (.eP (xs.take hn'))),[(k,.dead)]⟩).at b:=(by refine⟨?_,hs.Sj ⟨k,_,h3,rfl,.inl (by rw[k1];rfl)⟩⟩;rintro⟨j,e1,m1,m2,m3⟩;obtain⟨m4,m5⟩:=qg j e1 m1 m2;exact m4 (hs.inj j k e1 _ b m5 h3 m2 rfl m3 (.inl (by rw[k1];rfl))));have hres:=jn.eP (w:=w) (ok:=dg X ν (g2.app ⟨some (d,.d (.eP (xs.take hn'))),[(k,.dead)]⟩).at) (xs.take hn') (us.take hn') b 0 cap (E.P.cellsOf e) hokb (sY k2) (by rw[fj];omega) k5 (by rw[fj];omega) hrr'.len hrr'.hx hrr'.hu (fun j u hj=>?_) hrr'.hr;rw[fj] at hres;exact hres;rw[hcl,←k7,List.take_take] at hj;have hj':cur.toList[j]?=some u:=(by rw[List.getElem?_take] at hj;split at hj;exact hj;cases hj);have hj2:cur[j]?=some u:=(by simpa using hj');simp[World.cell?,k2,hj2]
 obtain⟨v,hr,qe⟩:=pI
 unfold Oper.wp
 rw[hr,Oper.upon_value]
 refine hn ν _ _ (hs.upd (g':=g2.app ⟨some (d,.d (.eP (xs.take hn'))),[(k,.dead)]⟩) (fun _=>False) (uO.refl _ w) (fun _ hb=>hb.elim) ?_ ?_ ?_ ?_ ?_ ?_ ?_ rfl)
 ·intro j hj
  refine⟨rfl,?_⟩
  rw[mf]
  split
  ·rfl
  ·exact hj
 ·intro j e1 hj
  rw[mf] at hj
  by_cases na:j=k
  ·rw[if_pos na] at hj
   cases hj
   exact .inr trivial
  ·rw[if_neg na] at hj
   exact .inl ⟨hj,rfl,fun _ _ _ hb=>hb⟩
 ·intro j e1 b m1 m2 m3
  exact .inl ⟨j,e1,(qg j e1 m1 m2).2,m2,m3⟩
 ·intro j j' e1 e2 b m1 m2 m3 m4 m5 m6
  exact hs.inj j j' e1 e2 b (qg j e1 m1 m3).2 (qg j' e2 m2 m4).2 m3 m4 m5 m6
 ·intro j hj
  rw[mf] at hj
  by_cases na:j=k
  ·exact .inl (by rw[na,h3];rfl)
  ·rw[if_neg na] at hj
   exact .inl hj
 ·simp[G.app,yu,size_put,kJ,hs.size]
 ·intro t
  simp only[G.app,yu,we,oj,hs.size]
  by_cases hc:t=d∧d<g2.sl.length
  ·simp only[hc,and_self,if_true]
   refine .inr ?_
   simp only[aF]
   exact qe
  ·simp only[hc,if_false]
   exact .inl ⟨trivial,trivial⟩
def onQ(Q:Ex→G→Prop):sH→Ex→G→Prop
 | .on=>Q
 | .off=>fun _ _=>False
theorem bO(Q:Ex→G→Prop)(e:Ex)(g:G):onQ Q .on e g=Q e g:=rfl
theorem fh(hm:E.P.follows .mixedOrders=true){c:Code}{Q:Ex→G→Prop}(h:Nv E n0 c .on g (onQ Q)):W E.P n0 c g Q:=V3 hm c g _ h
theorem ck(K:G→Prop)(Q:Ex→G→Prop)(g:G):X1 K Q .normal g=K g:=rfl
theorem agd(K:G→Prop)(Q:Ex→G→Prop)(i:Nat)(g:G):X1 K Q (.exit i) g=Q (.exit i) g:=rfl
theorem ma(K:G→Prop)(Q:Ex→G→Prop)(g:G):X1 K Q .ret g=Q .ret g:=rfl
theorem vj{P:Program}(t k e:Nat)(xs:List (List D))(ht:nth g.sl t= .aW k)(hk:g.at k=some (.aW e xs)):pG P n0 g ⟨kM g.sl t (.d (.eP xs)),dv g.st k (some .dead)⟩:=by
 intro X ν a w _ hs;refine⟨ν,?_⟩;obtain⟨us,ho,k9,hB,hf0⟩:=hs.en k _ hk;have mf:∀j,(⟨kM g.sl t (.d (.eP xs)),dv g.st k (some .dead)⟩:G).at j=if j=k then some .dead else g.at j:=fun j=>il g.st k (some .dead) j
 have qg:∀j e1,(⟨kM g.sl t (.d (.eP xs)),dv g.st k (some .dead)⟩:G).at j=some e1→e1.live=true→j≠k∧g.at j=some e1:=by intro j e1 h1 h2;rw[mf] at h1;by_cases hj:j=k;rw[if_pos hj] at h1;cases h1;cases h2;rw[if_neg hj] at h1;exact⟨hj,h1⟩
 have jG:∀b,Own ν (⟨kM g.sl t (.d (.eP xs)),dv g.st k (some .dead)⟩:G).at b→Own ν g.at b:=by rintro b ⟨j,e1,h1,h2,h3⟩;exact⟨j,e1,(qg j e1 h1 h2).2,h2,h3⟩
 have hw:∀b,dg X ν g.at b→b<w.heap.size→dg X ν (⟨kM g.sl t (.d (.eP xs)),dv g.st k (some .dead)⟩:G).at b∧w.heap[b]?=w.heap[b]?:=fun b hb _=>⟨⟨fun ho=>hb.1 (jG b ho),hb.2⟩,rfl⟩;have qe:jn w (dg X ν (⟨kM g.sl t (.d (.eP xs)),dv g.st k (some .dead)⟩:G).at) (.eP xs) (ν k).v:=by refine yl ho k9 hB (fun b hb=>⟨?_,hs.Sj ⟨k,_,hk,rfl,.inl hb⟩⟩) hw;rintro⟨j,e1,m1,m2,m3⟩;obtain⟨m4,m5⟩:=qg j e1 m1 m2;exact m4 (hs.inj j k e1 _ b m5 hk m2 rfl m3 (.inl hb))
 refine hs.upd (g':=⟨kM g.sl t (.d (.eP xs)),dv g.st k (some .dead)⟩) (fun _=>False) (uO.refl _ w) (fun _ hb=>hb.elim) ?_ ?_ ?_ ?_ ?_ ?_ ?_ rfl;intro j hj;refine⟨rfl,?_⟩;rw[mf];split;rfl;exact hj;intro j e1 hj;rw[mf] at hj;by_cases na:j=k;rw[if_pos na] at hj;cases hj;exact .inr trivial;rw[if_neg na] at hj;exact .inl ⟨hj,rfl,fun _ _ _ hb=>hb⟩;intro j e1 b m1 m2 m3;exact .inl ⟨j,e1,(qg j e1 m1 m2).2,m2,m3⟩;intro j j' e1 e2 b m1 m2 m3 m4 m5 m6;exact hs.inj j j' e1 e2 b (qg j e1 m1 m3).2 (qg j' e2 m2 m4).2 m3 m4 m5 m6;intro j hj;rw[mf] at hj;by_cases na:j=k;exact .inl (by rw[na,hk];rfl);rw[if_neg na] at hj;exact .inl hj;simp[kJ,hs.size];intro j;simp only[oj];by_cases hc:j=t∧t<g.sl.length;simp only[hc,and_self,if_true];refine .inr ?_;have:=hs.sl t;rw[ht] at this;simp only[aF] at this⊢;rw[this.2];exact qe;simp only[hc,if_false];exact .inl ⟨trivial,trivial⟩
def abW(E:Env)(rs:List ResultVar)(n0:Nat)(R:PV→List (Option En)→Prop)(g:G):Prop:=∃g',pG E.P n0 g g'∧zm E rs n0 R g'
theorem dw{rs:List ResultVar}{R:PV→List (Option En)→Prop}(h:zm E rs n0 R g):abW E rs n0 R g:=⟨g,pG.refl g,h⟩
theorem rF {f : FuncId} {fn : Func} {c : Code} {args : List PV} {fR : List (Option En)} {R : PV → List (Option En) → Prop} {nt : Nat} {rs : List ResultVar} (hf : E.P.funcs[f]? = some fn) (hb : fn.body = some c) (hname : (fn.name == "runtime.NumGoroutine") = false)
 (hnt:fn.ntmps=nt) (hrs:fn.results.toList=rs) (hn:Ae (Ao args) nt=true) (h:tS args→Gg fR→W E.P (mj fR) c ⟨fk nt .undef (ixs 0 args),fR⟩ (Vd (abW E rs (mj fR) R))):C E.P f args fR R:=by
 have hn:=nv hn
 rw[rB] at hn
 rw[←Yq hn,qk] at h
 refine Sv hf hb hname (abW E rs fR.length R) (fun _ X ν a w ⟨_,hw,h1⟩ hp hs=>let ⟨_,hs'⟩:=hw X ν a w hp hs;zm.sat h1 hp hs' hrs) ?_
 rw[hnt,←Es]
 refine agU fun h1 h2=>h ?_ h2
 have h1:tS (pad args nt):=h1
 rw[Es] at h1
 exact Hp h1
end
def KF(P:Program)(t:TypeId):Bool:=
 match P.underlying t with
 | some (.struct ⟨[f, g]⟩) => (f.name != "_" && (g.name != "_" && (f.offset == 0 && (g.offset == 1 && ((match P.underlying f.type, P.underlying g.type with | some (.int _), some (.int _) => true | _, _ => false) && (!P.stoodInHeld t && !P.eqGuardType P.depth t))))))
 | _=>false
def Av(a b c e:Int):Bool:=a == c&&b == e
theorem LI {P : Program} {t : TypeId} (h : KF P t = true) : ∃ (f g : Field) (k l : IntKind), P.underlying t = some (.struct ⟨[f, g]⟩) ∧ f.name ≠ "_" ∧ g.name ≠ "_" ∧ f.offset = 0 ∧ g.offset = 1 ∧ P.underlying f.type = some (.int k) ∧ P.underlying g.type = some (.int l) ∧ P.stoodInHeld t = false ∧ P.eqGuardType P.depth t = false := by unfold KF at h;split at h;rename_i f g hu;simp only[ab,bne_iff_ne,ne_eq,beq_iff_eq,mF] at h;obtain⟨h1,h2,h3,h4,h5,h6,h7⟩:=h;split at h5;rename_i k l hk hl;exact⟨f,g,k,l,hu,h1,h2,h3,h4,hk,hl,h6,h7⟩;cases h5;cases h
theorem Tk{P:Program}(w:World){t:TypeId}(h:KF P t=true)(a b c e:Int) :
 (Op.equalIn 10000 t (.agg ⟨[.int .i64 a,.int .i64 b]⟩) (.agg ⟨[.int .i64 c,.int .i64 e]⟩)).run P w= .ok (Av a b c e) w:=by
 obtain⟨f,g,k,l,hu,n1,n2,o1,o2,hf,hg,hs,_⟩:=LI h
 have hfs:P.fieldsOf t=⟨[f,g]⟩:=by simp only[Program.fieldsOf,hu]
 rw[run_equalIn_struct w 9999 t _ _ (by rw[hfs];exact hu) hs,hfs]
 have p1:P.plainKey f.type=true:=by simp[Program.plainKey,hf]
 have p2:P.plainKey g.type=true:=by simp[Program.plainKey,hg]
 have e1:=run_part_plain (P:=P) w p1 (xs:=⟨[.int .i64 a,.int .i64 b]⟩) (off:=f.offset) (v:=.int .i64 a) (by rw[o1];rfl)
 have e2:=run_part_plain (P:=P) w p1 (xs:=⟨[.int .i64 c,.int .i64 e]⟩) (off:=f.offset) (v:=.int .i64 c) (by rw[o1];rfl)
 have e3:=run_part_plain (P:=P) w p2 (xs:=⟨[.int .i64 a,.int .i64 b]⟩) (off:=g.offset) (v:=.int .i64 b) (by rw[o2];rfl)
 have e4:=run_part_plain (P:=P) w p2 (xs:=⟨[.int .i64 c,.int .i64 e]⟩) (off:=g.offset) (v:=.int .i64 e) (by rw[o2];rfl)
 have q1:(Op.equalIn 9999 f.type (.int .i64 a) (.int .i64 c)).run P w= .ok (a == c) w:=run_equalIn_int w 9998 f.type .i64 k a c hf
 have q2:(Op.equalIn 9999 g.type (.int .i64 b) (.int .i64 e)).run P w= .ok (b == e) w:=run_equalIn_int w 9998 g.type .i64 l b e hg
 simp only[Op.eqFields,n1,n2,ne_eq,not_false_eq_true,if_true,Sem.run_bind,Sem.run_ite,e1,e2,e3,e4,Result.andThen_ok,q1,q2,Av]
 cases a == c
 ·rfl
 ·simp only[ju,aw,if_false,aN,Sem.run_bind,Sem.run_ite,e3,e4,Result.andThen_ok,q2]
  cases b == e<;>rfl
section
variable{E:Env}{g:G}{d:Nat}{ty:TypeId}{pos:String}{fI:Array Edge}{gd:Option (Nat×Bool)}
theorem St{w:World}{ok:Nat→Prop}{ν:Nat→Nm}{st:Nat→Option En}{a b:Int}{v:Value}(h:aF w ok ν st (.agg [.d (.val (.int .i64 a)),.d (.val (.int .i64 b))]) v):v= .agg ⟨[.int .i64 a,.int .i64 b]⟩:=by
 simp only[aF] at h
 obtain⟨vs,rfl,h⟩:=h
 match vs,h with
 | [v1,v2],h=>simp only[aB,and_true] at h;rw[iB h.1,iB h.2]
theorem aac(x y:Operand)(t u:TypeId)(a b c e:Int)(ht:KF E.P t=true)(hx:g.ev x= .agg [.d (.val (.int .i64 a)),.d (.val (.int .i64 b))])(hy:g.ev y= .agg [.d (.val (.int .i64 c)),.d (.val (.int .i64 e))]) :
 mQ E.P ⟨some d,.binOp .eql t x y u,ty,pos,fI,gd⟩ g ⟨eu x++eu y,[]⟩ ⟨some (d,.d (.val (.bool (Av a b c e)))),[]⟩:=by
 intro g2 hg
 have h1:=hg.ev (x:=x) (fun t h=>List.mem_append_left _ h)
 have h2:=hg.ev (x:=y) (fun t h=>List.mem_append_right _ h)
 refine JC.val rfl fun X ν act w hs=>?_
 have hv:=hs.ev x
 have pJ:=hs.ev y
 rw[h1,hx] at hv
 rw[h2,hy] at pJ
 have q1:=St hv
 have q2:=St pJ
 obtain⟨_,_,_,_,_,_,_,_,_,_,_,_,hm⟩:=LI ht
 refine⟨.bool (Av a b c e),?_,oX rfl⟩
 simp[execOp,q1,q2,run_eqGuard_agg w .eql t x y _ _ hm,run_eql_struct,Tk w ht]
theorem aiF{m:Option (List Ky)}{gs:Option Nat}{rest:sH→Option (List Ky)→G→Prop}{x y:Operand}{t u:TypeId}(ht:KF E.P t=true){a b c e:Int}(hx:g.ev x= .agg [.d (.val (.int .i64 a)),.d (.val (.int .i64 b))])(hy:g.ev y= .agg [.d (.val (.int .i64 c)),.d (.val (.int .i64 e))])
 (hr:rest .on (n9 m (pZ (wD gs ⟨eu x++eu y,[]⟩) ⟨some (d,.d (.val (.bool (Av a b c e)))),[]⟩)) (g.app ⟨some (d,.d (.val (.bool (Av a b c e)))),[]⟩)):tm E m gs ⟨some d,.binOp .eql t x y u,ty,pos,fI,gd⟩ g rest:=
 hY (aac x y t u a b c e ht hx hy) hr
theorem ail(x y:Operand)(m n:Int)(tys:Array TypeId)(hx:g.ev x= .d (.val (.int .i64 m)))(hy:g.ev y= .d (.val (.int .i64 n))) :
 mQ E.P ⟨some d,.call ⟨.builtin .max,#[x,y],tys⟩,ty,pos,fI,gd⟩ g ⟨eu x++eu y,[]⟩ ⟨some (d,.d (.val (.int .i64 (if m<n then n else m)))),[]⟩:=
 s6 rfl hx hy rfl fun a w h1 h2=>by simp[execOp,resolve,invoke,builtin,Builtin.max_,Builtin.max2,h1,h2]
theorem aej{m:Option (List Ky)}{gs:Option Nat}{rest:sH→Option (List Ky)→G→Prop}{x y:Operand}{tys:Array TypeId}(a b c:Int)(hc:(if a<b then b else a)=c)(hx:g.ev x= .d (.val (.int .i64 a)))(hy:g.ev y= .d (.val (.int .i64 b)))
 (hr:rest .on (n9 m (pZ (wD gs ⟨eu x++eu y,[]⟩) ⟨some (d,.d (.val (.int .i64 c))),[]⟩)) (g.app ⟨some (d,.d (.val (.int .i64 c))),[]⟩)):tm E m gs ⟨some d,.call ⟨.builtin .max,#[x,y],tys⟩,ty,pos,fI,gd⟩ g rest:=by
 subst hc
 exact hY (ail x y a b tys hx hy) hr
theorem aff(x:Operand)(m:Int)(t u:TypeId)(hx:g.ev x= .d (.val (.int .u64 m))) :
 mQ E.P ⟨some d,.binOp .shr t x (.const (.int .u64 1)) u,ty,pos,fI,gd⟩ g ⟨eu x,[]⟩ ⟨some (d,.d (.val (.int .u64 (m.fdiv 2)))),[]⟩:=
 Ki rfl hx rfl fun a w h1=>by have he:a.eval (.const (.int .u64 1))= .int .u64 1:=rfl;have hb:min 1 (IntKind.u64).bits=1:=(by decide);simp[execOp,h1,he,eqGuard,binOp,Op.shift,hb]
theorem aiG{m:Option (List Ky)}{gs:Option Nat}{rest:sH→Option (List Ky)→G→Prop}{x:Operand}{t u:TypeId}(a c:Int)(hc:a.fdiv 2=c)(hx:g.ev x= .d (.val (.int .u64 a)))
 (hr:rest .on (n9 m (pZ (wD gs ⟨eu x,[]⟩) ⟨some (d,.d (.val (.int .u64 c))),[]⟩)) (g.app ⟨some (d,.d (.val (.int .u64 c))),[]⟩)):tm E m gs ⟨some d,.binOp .shr t x (.const (.int .u64 1)) u,ty,pos,fI,gd⟩ g rest:=by
 subst hc
 exact hY (aff x a t u hx) hr
theorem wrap_u64{n:Int}(h0:0≤n)(h1:n≤9223372036854775807):IntKind.wrap .u64 n=n:=by simp only[IntKind.wrap,IntKind.bits,IntKind.signed,aZ,aw,if_false];omega
end
theorem acz{P:Program}{f:FuncId}{q:PV}{R:PV→List (Option En)→Prop}(h1:C P f [q,.bE] [] R)(h2:∀a c,C P f [q,.d (.val (.slice (some a) 0 c))] [] R):C P f [q,.d (.eP [])] [] R:=by
 refine⟨h1.1,fun X vs gY hO hs=>?_⟩;have hsz:=hs.size;obtain⟨v0,v,rfl⟩:∃a b,vs=[a,b]:=by
  match vs,hsz with
  | [a,b],_=>exact⟨a,b,rfl⟩
  | [],h=>simp at h
  | [_],h=>simp at h
  | _::_::_::_,h=>simp at h
 have hq:=hs.sl 0;have h0:=hs.sl 1;have hq:aF X.w0 (dg X X.ν0 (G.at ⟨[q,.d (.eP [])],[]⟩)) X.ν0 (G.at ⟨[q,.d (.eP [])],[]⟩) q v0:=hq;have h0:jn X.w0 (dg X X.ν0 (G.at ⟨[q,.d (.eP [])],[]⟩)) (.eP []) v:=h0;have key:∀p:PV,aF X.w0 (dg X X.ν0 (G.at ⟨[q,p],[]⟩)) X.ν0 (G.at ⟨[q,p],[]⟩) p v→Sat P X X.ν0 ⟨[q,p],[]⟩ ⟨⟨[v0,v]⟩,[]⟩ X.w0:=fun p hp=>
  ⟨rfl,fun t=>by
   match t with
   | 0=>exact hq
   | 1=>exact hp
   | t+2=>simp only[nth,aF],hs.en,hs.inj,hs.base,hs.nu,hs.par,hs.J1,hs.C4,rfl⟩
 cases h0 with
 | nil=>exact h1.2 X _ gY hO (key .bE rfl)
 | emp a c h=>exact(h2 a c).2 X _ gY hO (key _ (oX rfl))
 | eP _ us b off cap sz dL hb jX hmax hB hlu hxx hu hc k9=>exact(h2 _ cap).2 X _ gY hO (key _ (oX rfl))
def aaT(cur:Array Value):Nat→List Value→Array Value
 | _,[]=>cur
 | o,v::r=>aaT (cur.setIfInBounds o v) (o+1) r
theorem PL:∀(vs:List Value)(o:Nat)(cur:Array Value),o+vs.length≤cur.size→(aaT cur o vs).toList=cur.toList.take o++vs++cur.toList.drop (o+vs.length)
 | [],o,cur,_=>by simp[aaT]
 | v::r,o,cur,h=>by simp only[aG] at h;have ho:o<cur.toList.length:=(by rw[fx];omega);rw[aaT,PL r (o+1) _ (by rw[Array.size_setIfInBounds];omega),Array.toList_setIfInBounds,List.take_add_one,List.take_set_of_le (aH _),List.getElem?_set_self ho,List.drop_set_of_lt oM];have e:o+1+r.length=o+(r.length+1):=oM;simp only[Option.toList_some,List.append_assoc,List.singleton_append,aG,bu,bQ,e]
theorem UO(b:Nat):∀(vs:List Value)(o:Nat)(w:World),(w.setCells b o vs).os=w.os∧(w.setCells b o vs).tape=w.tape∧(w.setCells b o vs).output=w.output∧(w.setCells b o vs).heap.size=w.heap.size∧(∀k,k≠b→(w.setCells b o vs).heap[k]?=w.heap[k]?) ∧
 ∀cur e fr,w.heap[b]?=some (.cells cur e fr)→(w.setCells b o vs).heap[b]?=some (.cells (aaT cur o vs) e fr)
 | [],o,w=>⟨rfl,rfl,rfl,rfl,fun _ _=>rfl,fun cur e fr h=>h⟩
 | v::r,o,w=>by obtain⟨h1,h2,h3,h4,h5,h6⟩:=UO b r (o+1) (w.setCell ⟨b,o,none⟩ v);rw[World.setCells];refine⟨h1,h2,h3,?_,fun k hk=>?_,fun cur e fr h=>?_⟩;rw[h4];simp[World.setCell];rw[h5 k hk];simp only[World.setCell,Array.getElem?_modify];rw[if_neg (fun e=>hk e.symm)];refine h6 _ e fr ?_;simp only[World.setCell,Array.getElem?_modify,if_pos,h];rfl
theorem agy{P:Program}{f:FuncId}{p:PV}{v r:Value}(hc:Uh P f)(hp:∀(w:World)(ok:Nat→Prop)(ν:Nat→Nm)(st:Nat→Option En)(u:Value),aF w ok ν st p u→u=v)(h1:r.oneCell'=true)
 (h:∀w,Calls P f #[v] w fun e w'=>e= .returned r∧w'=w):C P f [p] [] (gR (.d (.val r)) []):=by
 refine⟨hc,fun X vs gY hO hs=>?_⟩
 have hsz:=hs.size
 obtain⟨u,rfl⟩:=fE.1 (show vs.length=1 by simpa using hsz)
 have h0:=hp _ _ _ _ u (hs.sl 0)
 subst h0
 refine(h X.w0).mono ?_
 rintro e w' ⟨rfl,rfl⟩
 refine⟨_,_,_,X.ν0,rfl,⟨rfl,rfl⟩,rfl,fun t=>?_,hs.en,hs.inj,hs.base,hs.nu,hs.par,hs.J1,hs.C4,rfl⟩
 match t with
 | 0=>exact oX h1
 | t+1=>simp only[nth,aF]
end Go.Eng
