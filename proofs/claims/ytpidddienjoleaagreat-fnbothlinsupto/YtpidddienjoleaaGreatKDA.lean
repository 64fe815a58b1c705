/-
  The symbolic layer, first text: data by value, what a slot and an owned block hold, and how a real world fits them. No program is named here.
-/
import Derived.WalkKit
import Derived.Laws.AppendOwn
import Derived.Below
import GoSem.Claims
import Derived.ChangeKeysEq
import Derived.IntWalk
import Derived.WalkSpells
import Derived.Laws.MakeOwn
import Derived.Laws.OwnMore
import Derived.Laws.Tables
set_option linter.unusedVariables false
set_option linter.unusedSimpArgs false
namespace Go.Eng
open Go.RowKit
def LB:Nat:=1099511627776
theorem vP:LB=1099511627776:=rfl
inductive D where
 | val(v:Value)
 | str(s:List UInt8)
 | bx(xs:List (List D))
inductive T where
 | leaf(d:D)
 | ref(j:Nat)
 | own(e:TypeId)(xs:List (List T))
structure Nm where
 v:Value
 f:List Nat
inductive PV where
 | any
 | undef
 | aK
 | d(x:D)
 | agg(cs:List PV)
 | eZ(cs:List PV)
 | ptr(k off:Nat)
 | acc(k:Nat)
 | cC(k i off sz:Nat)
 | cf(xs:List (List D))(i off:Nat)
 | fn(f:Nat)(cap:List PV)
inductive En where
 | box(cs:List PV)
 | acc(e:TypeId)(xs:List (List D))
 | bM(e:TypeId)(xs:List (List T))
 | map(kvs:List (Int×Value))
 | dead
structure G where
 sl:List PV
 st:List (Option En)
def dF(w:World)(b off:Nat)(us:List Value):Prop:=∀j u,us[j]?=some u→w.cell? ⟨b,off+j,none⟩=some u
inductive cM(w:World)(ok:Nat→Prop):D→Value→Prop where
 | val(v:Value)(h:v.oneCell'=true):cM w ok (.val v) v
 | str(l:List UInt8)(h:l.length≤LB):cM w ok (.str l) (.string ⟨l.toArray⟩)
 | nil:cM w ok (.bx []) (.slice none 0 0)
 | emp(a:Addr)(c:Nat)(h:c≤maxLen):cM w ok (.bx []) (.slice (some a) 0 c)
 | bx(xs:List (List D))(us:List (List Value))(b off cap sz:Nat)(hok:ok b)(hb:b<w.heap.size)(hcap:xs.length≤cap)(hmax:cap≤maxLen)(hB:xs.length≤LB)
  (hl:us.length=xs.length) (hx:∀(i:Nat)(x:List D),xs[i]?=some x→x.length=sz) (hu:∀(i:Nat)(u:List Value),us[i]?=some u→u.length=sz)
  (hc:dF w b off us.flatten)
  (hr:∀(i j:Nat)(x:List D)(u:List Value)(d:D)(v:Value),xs[i]?=some x→us[i]?=some u→x[j]?=some d→u[j]?=some v→cM w ok d v) :
  cM w ok (.bx xs) (.slice (some ⟨b,off,none⟩) xs.length cap)
theorem dF.frame{w w':World}{b off:Nat}{us:List Value}(h:dF w b off us)(hw:w'.heap[b]?=w.heap[b]?):dF w' b off us:=
 fun j u hu=>(World.cell?_of_block (w:=w) (a:=⟨b,off+j,none⟩) hw).trans (h j u hu)
theorem cM.frame{w w':World}{ok ok':Nat→Prop}{d:D}{v:Value}(h:cM w ok d v)
 (hw:∀b,ok b→b<w.heap.size→ok' b∧w'.heap[b]?=w.heap[b]?) (hs:w.heap.size≤w'.heap.size):cM w' ok' d v:=by
 induction h with
 | val v h=>exact .val v h
 | str l h=>exact .str l h
 | nil=>exact .nil
 | emp a c h=>exact .emp a c h
 | bx xs us b off cap sz hok hb hcap hmax hB hl hx hu hc hr ih=>
   exact .bx xs us b off cap sz (hw b hok hb).1 (Nat.lt_of_lt_of_le hb hs) hcap hmax hB hl hx hu (hc.frame (hw b hok hb).2) ih
theorem cM.one{w:World}{ok:Nat→Prop}{d:D}{v:Value}(h:cM w ok d v):v.oneCell'=true:=by
 cases h with
 | val v h=>exact h
 | str l h=>rfl
 | nil=>rfl
 | emp a c h=>rfl
 | bx xs us b off cap sz hok hb hcap hmax hB hl hx hu hc hr=>rfl
theorem cM.xm{w:World}{ok:Nat→Prop}{l:List UInt8}{v:Value}(h:cM w ok (.str l) v):v= .string ⟨l.toArray⟩∧l.length≤LB:=by
 cases h with
 | str l h=>exact⟨rfl,h⟩
theorem cM.xC{w:World}{ok:Nat→Prop}{u v:Value}(h:cM w ok (.val u) v):v=u:=by
 cases h with
 | val l h=>rfl
mutual
def af(w:World)(ok:Nat→Prop)(ν:Nat→Nm)(st:Nat→Option En):PV→Value→Prop
 | .any,_=>True
 | .undef,v=>v=Go.undef
 | .aK,v=>v= .slice none 0 0
 | .d x,v=>cM w ok x v
 | .agg cs,v=>∃vs,v= .agg ⟨vs⟩∧ae w ok ν st cs vs
 | .eZ cs,v=>∃vs,v= .tuple ⟨vs⟩∧ae w ok ν st cs vs
 | .ptr k off,v=>(st k).isSome=true∧∃b,(ν k).v= .pointer (some ⟨b,0,none⟩)∧v= .pointer (some ⟨b,off,none⟩)
 | .acc k,v=>(st k).isSome=true∧v=(ν k).v
 | .cC k i off sz,v=>(st k).isSome=true∧∃b n c,(ν k).v= .slice (some ⟨b,0,none⟩) n c∧v= .pointer (some ⟨b,i*sz+off,none⟩)
 | .cf xs i off,v=>∃b o cap,cM w ok (.bx xs) (.slice (some ⟨b,o,none⟩) xs.length cap)∧i<xs.length∧v= .pointer (some ⟨b,o+(i*(xs.getD i []).length+off),none⟩)
 | .fn f cap,v=>∃vs,v= .func (.func f) #[] ⟨vs⟩∧ae w ok ν st cap vs
def ae(w:World)(ok:Nat→Prop)(ν:Nat→Nm)(st:Nat→Option En):List PV→List Value→Prop
 | [],[]=>True
 | p::ps,v::vs=>af w ok ν st p v∧ae w ok ν st ps vs
 | _,_=>False
end
end Go.Eng
namespace Go.Eng
open Go.RowKit
def nth:List PV→Nat→PV
 | [],_=>.any
 | a::_,0=>a
 | _::as,n+1=>nth as n
def fm:List PV→Nat→PV→List PV
 | [],_,_=>[]
 | _::as,0,v=>v::as
 | a::as,n+1,v=>a::fm as n v
def aV:List (Option En)→Nat→Option En
 | [],_=>none
 | a::_,0=>a
 | _::as,n+1=>aV as n
def aX:List (Option En)→Nat→Option En→List (Option En)
 | [],0,v=>[v]
 | [],n+1,v=>none::aX [] n v
 | _::as,0,v=>v::as
 | a::as,n+1,v=>a::aX as n v
theorem dt:∀(l:List PV)(n:Nat)(v:PV),(fm l n v).length=l.length
 | [],_,_=>rfl
 | _::_,0,_=>rfl
 | _::as,n+1,v=>by simp[fm,dt as n v]
theorem gw:∀(l:List PV)(n:Nat)(v:PV)(t:Nat),nth (fm l n v) t=if t=n∧n<l.length then v else nth l t
 | [],n,v,t=>by cases t<;>simp[fm,nth]
 | a::as,0,v,t=>by cases t<;>simp[fm,nth]
 | a::as,n+1,v,t=>by
   cases t with
   | zero=>simp[fm,nth]
   | succ t=>simp[fm,nth,gw as n v t]
theorem ck:∀(l:List (Option En))(n:Nat)(v:Option En)(t:Nat),aV (aX l n v) t=if t=n then v else aV l t
 | [],0,v,t=>by cases t<;>simp[aX,aV]
 | [],n+1,v,t=>by
   cases t with
   | zero=>simp[aX,aV]
   | succ t=>simp[aX,aV,ck [] n v t]
 | a::as,0,v,t=>by cases t<;>simp[aX,aV]
 | a::as,n+1,v,t=>by
   cases t with
   | zero=>simp[aX,aV]
   | succ t=>simp[aX,aV,ck as n v t]
def G.at(g:G)(k:Nat):Option En:=aV g.st k
def En.live:En→Bool
 | .dead=>false
 | _=>true
def oq:Value→Option Nat
 | .pointer (some a)=>some a.block
 | .slice (some a) _ _=>some a.block
 | .map (some r)=>some r
 | _=>none
def Nm.has(n:Nm)(b:Nat):Prop:=oq n.v=some b∨b∈n.f
def hb(v:Value):List Nat:=match oq v with|some b=>[b]|none=>[]
theorem uB{v:Value}{b:Nat}:b∈hb v↔oq v=some b:=by
 unfold hb
 cases oq v with
 | none=>simp
 | some c=>simp[eq_comm]
def Own(ν:Nat→Nm)(st:Nat→Option En)(b:Nat):Prop:=∃k e,st k=some e∧e.live=true∧(ν k).has b
structure Cx where
 w0:World
 O0:Nat→Prop
 ν0:Nat→Nm
 Oa:Nat→Option En
 Z:Nat→Prop
def aN(X:Cx)(ν:Nat→Nm)(st:Nat→Option En)(b:Nat):Prop:=¬Own ν st b∧¬X.Z b
structure aL(w:World)(ok:Nat→Prop)(sz:Nat)(xs:List (List D))(us:List (List Value)):Prop where
 len:us.length=xs.length
 hx:∀(i:Nat)(x:List D),xs[i]?=some x→x.length=sz
 hu:∀(i:Nat)(u:List Value),us[i]?=some u→u.length=sz
 hr:∀(i j:Nat)(x:List D)(u:List Value)(d:D)(v:Value),xs[i]?=some x→us[i]?=some u→x[j]?=some d→u[j]?=some v→cM w ok d v
mutual
def dU(P:Program)(w:World)(ok:Nat→Prop)(ν:Nat→Nm)(st:Nat→Option En):T→Value→List Nat→Prop
 | .leaf d,v,F=>cM w ok d v∧F=[]
 | .ref j,v,F=>(st j).isSome=true∧v=(ν j).v∧F=[]
 | .own e xs,v,F=>∃us F1,w.ownsRow 0 e (P.cellsOf e) v xs.length us.flatten∧(∀(i:Nat)(u:List Value),us[i]?=some u→u.length=P.cellsOf e)∧aA P w ok ν st xs us F1∧xs.length≤LB∧F=hb v++F1
def ar(P:Program)(w:World)(ok:Nat→Prop)(ν:Nat→Nm)(st:Nat→Option En):List T→List Value→List Nat→Prop
 | [],[],F=>F=[]
 | t::ts,v::vs,F=>∃F1 F2,dU P w ok ν st t v F1∧ar P w ok ν st ts vs F2∧F=F1++F2
 | _,_,_=>False
def aA(P:Program)(w:World)(ok:Nat→Prop)(ν:Nat→Nm)(st:Nat→Option En):List (List T)→List (List Value)→List Nat→Prop
 | [],[],F=>F=[]
 | x::xs,u::us,F=>∃F1 F2,ar P w ok ν st x u F1∧aA P w ok ν st xs us F2∧F=F1++F2
 | _,_,_=>False
end
def PY:Value→PV
 | .agg cs=>.agg (cs.toList.map fun v=>.d (.val v))
 | v=>.d (.val v)
def Ss:Value→Bool
 | .agg cs=>cs.toList.all fun v=>v.oneCell'
 | v=>v.oneCell'
def qm(es:List MapEntry):List (Value×Value):=es.map fun e=>(e.key,e.val)
def qo(kvs:List (Int×Value)):List (Value×Value):=kvs.map fun p=>(.int .i64 p.1,p.2)
def eP(P:Program)(w:World)(ok:Nat→Prop)(ν:Nat→Nm)(st:Nat→Option En)(k:Nat):En→Prop
 | .dead=>True
 | .box cs=>∃b vs T,(ν k).v= .pointer (some ⟨b,0,none⟩)∧w.heap[b]?=some (.cells ⟨vs⟩ T (0,0))∧ae w ok ν st cs vs∧(ν k).f=[]
 | .acc e xs=>∃us:List (List Value),w.ownsRow 0 e (P.cellsOf e) (ν k).v xs.length us.flatten∧aL w ok (P.cellsOf e) xs us∧xs.length≤LB∧(ν k).f=[]
 | .bM e xs=>dU P w ok ν st (.own e xs) (ν k).v (hb (ν k).v++(ν k).f)∧(hb (ν k).v++(ν k).f).Nodup
 | .map kvs=>∃r es clock,(ν k).v= .map (some r)∧w.heap[r]?=some (.map es clock)∧qm es.toList=qo kvs∧(∀p∈kvs,Ss p.2=true)∧(ν k).f=[]
structure kG(B:Nat→Prop)(w w':World):Prop where
 os:w'.os=w.os
 tape:w'.tape=w.tape
 output:w'.output=w.output
 size:w.heap.size≤w'.heap.size
 block:∀k,k<w.heap.size→¬B k→w'.heap[k]?=w.heap[k]?
theorem kG.refl(B:Nat→Prop)(w:World):kG B w w:=⟨rfl,rfl,rfl,Nat.le_refl _,fun _ _ _=>rfl⟩
theorem kG.trans{B B':Nat→Prop}{a b c:World}(h:kG B a b)(h':kG B' b c)(hb:∀k,B' k→k<a.heap.size→B k):kG B a c:=
 ⟨h'.os.trans h.os,h'.tape.trans h.tape,h'.output.trans h.output,Nat.le_trans h.size h'.size,
  fun k hk hn=>(h'.block k (Nat.lt_of_lt_of_le hk h.size) (fun hB=>hn (hb k hB hk))).trans (h.block k hk hn)⟩
theorem kG.mono{B B':Nat→Prop}{a b:World}(h:kG B a b)(hb:∀k,B k→k<a.heap.size→B' k):kG B' a b:=
 ⟨h.os,h.tape,h.output,h.size,fun k hk hn=>h.block k hk (fun hB=>hn (hb k hB hk))⟩
def CO : String := "internal/strconv.uint64pow10"
def LH:Array Value:=((List.range 20).map fun i=>Value.int .u64 ((10 ^ i:Nat):Int)).toArray
def Kt(P:Program)(X:Cx):Prop:=∀g,P.globalNamed CO=some g→¬X.O0 g∧g<X.w0.heap.size∧X.w0.var? P CO=some LH
theorem OX{P:Program}{X:Cx}(h:P.globalNamed CO=none):Kt P X:=fun g hg=>by rw[h] at hg;cases hg
structure Zl(P:Program)(X:Cx):Prop where
 z:∀b,X.Z b→b<X.w0.heap.size∧¬X.O0 b
 k:Kt P X
instance{P:Program}{X:Cx}:CoeFun (Zl P X) (fun _=>∀b,X.Z b→b<X.w0.heap.size∧¬X.O0 b):=⟨Zl.z⟩
structure Sat(P:Program)(X:Cx)(ν:Nat→Nm)(g:G)(a:Act)(w:World):Prop where
 size:a.tmps.size=g.sl.length
 sl:∀t,af w (aN X ν g.at) ν g.at (nth g.sl t) (a.tmps.getD t Go.undef)
 en:∀k e,g.at k=some e→eP P w (aN X ν g.at) ν g.at k e
 inj:∀k k' e e' b,g.at k=some e→g.at k'=some e'→e.live=true→e'.live=true→(ν k).has b→(ν k').has b→k=k'
 base:∀b,Own ν g.at b→X.O0 b∨X.w0.heap.size≤b
 nu:∀k,(g.at k).isSome=true→(ν k).v.oneCell'=true
 par:∀k,(X.Oa k).isSome=true→(ν k).v=(X.ν0 k).v∧(g.at k).isSome=true
 xy:Zl P X
 r3:kG X.O0 X.w0 w
 defs:a.defers=[]
theorem Sat.C5{P:Program}{X:Cx}{ν:Nat→Nm}{g:G}{a:Act}{w:World}(h:Sat P X ν g a w){b:Nat}(hb:Own ν g.at b):¬X.Z b:=fun hz=>
 (h.base b hb).elim (h.xy b hz).2 (fun hge=>by have:=(h.xy b hz).1;omega)
theorem Sat.kt{P:Program}{X X':Cx}{ν:Nat→Nm}{g:G}{a:Act}{w:World}(h:Sat P X ν g a w)(hw:X'.w0=w)(ho:∀b,X'.O0 b→Own ν g.at b):Kt P X':=fun t ht=>by
 obtain⟨k1,k2,k3⟩:=h.xy.k t ht
 have hb:=h.r3.block t k2 k1
 refine⟨fun hx=>?_,by rw[hw];exact Nat.lt_of_lt_of_le k2 h.r3.size,?_⟩
 ·rcases h.base t (ho t hx) with h1|h1
  ·exact k1 h1
  ·omega
 ·rw[hw,←k3]
  simp only[World.var?,ht,Option.bind_some,hb]
def e9(st st':Nat→Option En)(ν ν':Nat→Nm):Prop:=∀k,(st k).isSome=true→(ν' k).v=(ν k).v∧(st' k).isSome=true
theorem e9.refl(st:Nat→Option En)(ν:Nat→Nm):e9 st st ν ν:=fun _ h=>⟨rfl,h⟩
section
variable{w w':World}{ok ok':Nat→Prop}{ν ν':Nat→Nm}{st st':Nat→Option En}
mutual
theorem af.frame(hw:∀b,ok b→b<w.heap.size→ok' b∧w'.heap[b]?=w.heap[b]?)(hs:w.heap.size≤w'.heap.size)(hm:e9 st st' ν ν') :
 ∀(p:PV)(v:Value),af w ok ν st p v→af w' ok' ν' st' p v
 | .any,_,_=>by simp[af]
 | .undef,_,h=>by simpa[af] using h
 | .aK,_,h=>by simpa[af] using h
 | .d x,v,h=>by
   simp only[af] at h⊢
   exact h.frame hw hs
 | .agg cs,v,h=>by
   simp only[af] at h⊢
   obtain⟨vs,rfl,h⟩:=h
   exact⟨vs,rfl,ae.frame hw hs hm cs vs h⟩
 | .eZ cs,v,h=>by
   simp only[af] at h⊢
   obtain⟨vs,rfl,h⟩:=h
   exact⟨vs,rfl,ae.frame hw hs hm cs vs h⟩
 | .ptr k off,v,h=>by
   simp only[af] at h⊢
   rw[(hm k h.1).1]
   exact⟨(hm k h.1).2,h.2⟩
 | .acc k,v,h=>by
   simp only[af] at h⊢
   rw[(hm k h.1).1]
   exact⟨(hm k h.1).2,h.2⟩
 | .cC k i off sz,v,h=>by
   simp only[af] at h⊢
   rw[(hm k h.1).1]
   exact⟨(hm k h.1).2,h.2⟩
 | .cf xs i off,v,h=>by
   simp only[af] at h⊢
   obtain⟨b,o,cap,h1,h2,h3⟩:=h
   exact⟨b,o,cap,h1.frame hw hs,h2,h3⟩
 | .fn f cap,v,h=>by
   simp only[af] at h⊢
   obtain⟨vs,rfl,h⟩:=h
   exact⟨vs,rfl,ae.frame hw hs hm cap vs h⟩
theorem ae.frame(hw:∀b,ok b→b<w.heap.size→ok' b∧w'.heap[b]?=w.heap[b]?)(hs:w.heap.size≤w'.heap.size)(hm:e9 st st' ν ν') :
 ∀(ps:List PV)(vs:List Value),ae w ok ν st ps vs→ae w' ok' ν' st' ps vs
 | [],[],_=>by simp[ae]
 | [],_::_,h=>by simp[ae] at h
 | _::_,[],h=>by simp[ae] at h
 | p::ps,v::vs,h=>by
   simp only[ae] at h⊢
   exact⟨af.frame hw hs hm p v h.1,ae.frame hw hs hm ps vs h.2⟩
end
end
theorem aL.frame{w w':World}{ok ok':Nat→Prop}{sz:Nat}{xs:List (List D)}{us:List (List Value)}(h:aL w ok sz xs us)
 (hw:∀b,ok b→b<w.heap.size→ok' b∧w'.heap[b]?=w.heap[b]?) (hs:w.heap.size≤w'.heap.size):aL w' ok' sz xs us:=
 ⟨h.len,h.hx,h.hu,fun i j x u d v h1 h2 h3 h4=>(h.hr i j x u d v h1 h2 h3 h4).frame hw hs⟩
theorem je{w:World}{b:Nat}{o:Obj}(h:w.heap[b]?=some o):b<w.heap.size:=by
 rcases Nat.lt_or_ge b w.heap.size with h' | h'
 ·exact h'
 ·rw[Array.getElem?_eq_none h'] at h;cases h
theorem dS{n:Nm}{b:Nat}(h:n.f=[]):n.has b↔oq n.v=some b:=by simp[Nm.has,h]
theorem im{n:Nm}{b:Nat}:n.has b↔b∈hb n.v++n.f:=by rw[List.mem_append,uB];exact Iff.rfl
theorem zP{w:World}{e sz n b:Nat}{v:Value}{us:List Value}(h:w.ownsRow 0 e sz v n us)(hb:oq v=some b):b<w.heap.size:=by
 rcases h.2 with⟨h2,_⟩|⟨g,cap,cur,h2,_,h3,_⟩
 ·rw[h2] at hb;simp[oq] at hb
 ·rw[h2] at hb
  obtain rfl:g=b:=by simpa[oq] using hb
  exact je h3
theorem qM{w w':World}{e sz n:Nat}{v:Value}{us:List Value}(h:w.ownsRow 0 e sz v n us)(hb:∀b,oq v=some b→w'.heap[b]?=w.heap[b]?):w'.ownsRow 0 e sz v n us:=by
 refine⟨h.1,?_⟩
 rcases h.2 with⟨h4,h5⟩|⟨b,cap,cur,h4,h5,h6,h7⟩
 ·exact .inl ⟨h4,h5⟩
 ·exact .inr ⟨b,cap,cur,h4,h5,(hb b (by rw[h4];rfl)).trans h6,h7⟩
section
variable{P:Program}{w w':World}{ok ok':Nat→Prop}{ν ν':Nat→Nm}{st st':Nat→Option En}
mutual
theorem dU.lt:∀(t:T)(v:Value)(F:List Nat),dU P w ok ν st t v F→∀b∈F,b<w.heap.size
 | .leaf d,v,F,h,b,hm=>by simp only[dU] at h;rw[h.2] at hm;cases hm
 | .ref j,v,F,h,b,hm=>by simp only[dU] at h;rw[h.2.2] at hm;cases hm
 | .own e xs,v,F,h,b,hm=>by
   simp only[dU] at h
   obtain⟨us,F1,h1,_,h2,_,rfl⟩:=h
   rcases List.mem_append.1 hm with hm|hm
   ·exact zP h1 (uB.1 hm)
   ·exact aA.lt xs us F1 h2 b hm
theorem ar.lt:∀(ts:List T)(vs:List Value)(F:List Nat),ar P w ok ν st ts vs F→∀b∈F,b<w.heap.size
 | [],[],F,h,b,hm=>by simp only[ar] at h;rw[h] at hm;cases hm
 | [],_::_,F,h,b,hm=>by simp[ar] at h
 | _::_,[],F,h,b,hm=>by simp[ar] at h
 | t::ts,v::vs,F,h,b,hm=>by
   simp only[ar] at h
   obtain⟨F1,F2,h1,h2,rfl⟩:=h
   rcases List.mem_append.1 hm with hm|hm
   ·exact dU.lt t v F1 h1 b hm
   ·exact ar.lt ts vs F2 h2 b hm
theorem aA.lt:∀(xs:List (List T))(us:List (List Value))(F:List Nat),aA P w ok ν st xs us F→∀b∈F,b<w.heap.size
 | [],[],F,h,b,hm=>by simp only[aA] at h;rw[h] at hm;cases hm
 | [],_::_,F,h,b,hm=>by simp[aA] at h
 | _::_,[],F,h,b,hm=>by simp[aA] at h
 | x::xs,u::us,F,h,b,hm=>by
   simp only[aA] at h
   obtain⟨F1,F2,h1,h2,rfl⟩:=h
   rcases List.mem_append.1 hm with hm|hm
   ·exact ar.lt x u F1 h1 b hm
   ·exact aA.lt xs us F2 h2 b hm
end
mutual
theorem dU.frame(hw:∀b,ok b→b<w.heap.size→ok' b∧w'.heap[b]?=w.heap[b]?)(hs:w.heap.size≤w'.heap.size)(hm:e9 st st' ν ν') :
 ∀(t:T)(v:Value)(F:List Nat),dU P w ok ν st t v F→(∀b∈F,w'.heap[b]?=w.heap[b]?)→dU P w' ok' ν' st' t v F
 | .leaf d,v,F,h,_=>by simp only[dU] at h⊢;exact⟨h.1.frame hw hs,h.2⟩
 | .ref j,v,F,h,_=>by simp only[dU] at h⊢;exact⟨(hm j h.1).2,by rw[h.2.1,(hm j h.1).1],h.2.2⟩
 | .own e xs,v,F,h,hF=>by
   simp only[dU] at h⊢
   obtain⟨us,F1,h1,h2,h3,h4,rfl⟩:=h
   exact⟨us,F1,qM h1 fun b hb=>hF b (List.mem_append.2 (.inl (uB.2 hb))),h2,aA.frame hw hs hm xs us F1 h3 fun b hb=>hF b (List.mem_append.2 (.inr hb)),h4,rfl⟩
theorem ar.frame(hw:∀b,ok b→b<w.heap.size→ok' b∧w'.heap[b]?=w.heap[b]?)(hs:w.heap.size≤w'.heap.size)(hm:e9 st st' ν ν') :
 ∀(ts:List T)(vs:List Value)(F:List Nat),ar P w ok ν st ts vs F→(∀b∈F,w'.heap[b]?=w.heap[b]?)→ar P w' ok' ν' st' ts vs F
 | [],[],F,h,_=>by simpa only[ar] using h
 | [],_::_,F,h,_=>by simp[ar] at h
 | _::_,[],F,h,_=>by simp[ar] at h
 | t::ts,v::vs,F,h,hF=>by
   simp only[ar] at h⊢
   obtain⟨F1,F2,h1,h2,rfl⟩:=h
   exact⟨F1,F2,dU.frame hw hs hm t v F1 h1 fun b hb=>hF b (List.mem_append.2 (.inl hb)),ar.frame hw hs hm ts vs F2 h2 fun b hb=>hF b (List.mem_append.2 (.inr hb)),rfl⟩
theorem aA.frame(hw:∀b,ok b→b<w.heap.size→ok' b∧w'.heap[b]?=w.heap[b]?)(hs:w.heap.size≤w'.heap.size)(hm:e9 st st' ν ν') :
 ∀(xs:List (List T))(us:List (List Value))(F:List Nat),aA P w ok ν st xs us F→(∀b∈F,w'.heap[b]?=w.heap[b]?)→aA P w' ok' ν' st' xs us F
 | [],[],F,h,_=>by simpa only[aA] using h
 | [],_::_,F,h,_=>by simp[aA] at h
 | _::_,[],F,h,_=>by simp[aA] at h
 | x::xs,u::us,F,h,hF=>by
   simp only[aA] at h⊢
   obtain⟨F1,F2,h1,h2,rfl⟩:=h
   exact⟨F1,F2,ar.frame hw hs hm x u F1 h1 fun b hb=>hF b (List.mem_append.2 (.inl hb)),aA.frame hw hs hm xs us F2 h2 fun b hb=>hF b (List.mem_append.2 (.inr hb)),rfl⟩
end
end
theorem eP.lt{P:Program}{w:World}{ok:Nat→Prop}{ν:Nat→Nm}{st:Nat→Option En}{k b:Nat}{e:En}
 (h:eP P w ok ν st k e) (hl:e.live=true) (hb:(ν k).has b):b<w.heap.size:=by
 cases e with
 | dead=>cases hl
 | box cs=>
   obtain⟨b',vs,T,h1,h2,_,h3⟩:=h
   rw[dS h3,h1] at hb
   obtain rfl:b'=b:=by simpa[oq] using hb
   exact je h2
 | acc e xs=>
   obtain⟨us,h1,_,_,h3⟩:=h
   rw[dS h3] at hb
   exact zP h1 hb
 | bM e xs=>exact dU.lt _ _ _ h.1 b (im.1 hb)
 | map kvs=>
   obtain⟨r,es,clock,h1,h2,_,_,h3⟩:=h
   rw[dS h3,h1] at hb
   obtain rfl:r=b:=by simpa[oq] using hb
   exact je h2
theorem Sat.lt{P:Program}{X:Cx}{ν:Nat→Nm}{g:G}{a:Act}{w:World}(h:Sat P X ν g a w){b:Nat}
 (hb:Own ν g.at b):b<w.heap.size:=by
 obtain⟨k,e,h1,h2,h3⟩:=hb
 exact(h.en k e h1).lt h2 h3
theorem eP.frame{P:Program}{w w':World}{ok ok':Nat→Prop}{ν ν':Nat→Nm}{st st':Nat→Option En}{k:Nat}{e:En}
 (h:eP P w ok ν st k e) (hw:∀b,ok b→b<w.heap.size→ok' b∧w'.heap[b]?=w.heap[b]?) (hs:w.heap.size≤w'.heap.size) (hm:e9 st st' ν ν')
 (hν:ν' k=ν k) (hb:∀b,e.live=true→(ν k).has b→w'.heap[b]?=w.heap[b]?):eP P w' ok' ν' st' k e:=by
 cases e with
 | dead=>trivial
 | box cs=>
   obtain⟨b,vs,T,h1,h2,h3,h4⟩:=h
   simp only[eP,hν]
   exact⟨b,vs,T,h1,(hb b rfl ((dS h4).2 (by rw[h1];rfl))).trans h2,ae.frame hw hs hm cs vs h3,h4⟩
 | acc t xs=>
   obtain⟨us,h1,h2,h3,h4⟩:=h
   simp only[eP,hν]
   exact⟨us,qM h1 fun b h=>hb b rfl ((dS h4).2 h),h2.frame hw hs,h3,h4⟩
 | bM t xs=>
   simp only[eP,hν]
   exact⟨dU.frame hw hs hm _ _ _ h.1 fun b h=>hb b rfl (im.2 h),h.2⟩
 | map kvs=>
   obtain⟨r,es,clock,h1,h2,h3,h4,h5⟩:=h
   simp only[eP,hν]
   exact⟨r,es,clock,h1,(hb r rfl ((dS h5).2 (by rw[h1];rfl))).trans h2,h3,h4,h5⟩
theorem Sat.NS{P:Program}{X:Cx}{ν:Nat→Nm}{g:G}{a:Act}{w:World}(h:Sat P X ν g a w)
 {ν':Nat→Nm} {g':G} {a':Act} {w':World} (B:Nat→Prop) (hchg:kG B w w') (hB:∀b,B b→Own ν g.at b)
 (hm:e9 g.at g'.at ν ν')
 (hen:∀k e,g'.at k=some e→(g.at k=some e∧ν' k=ν k∧∀b,e.live=true→(ν k).has b→¬B b)∨eP P w' (aN X ν' g'.at) ν' g'.at k e)
 (hown:∀k e b,g'.at k=some e→e.live=true→(ν' k).has b→Own ν g.at b∨w.heap.size≤b)
 (hinj:∀k k' e e' b,g'.at k=some e→g'.at k'=some e'→e.live=true→e'.live=true→(ν' k).has b→(ν' k').has b→k=k')
 (hnu:∀k,(g'.at k).isSome=true→(g.at k).isSome=true∨(ν' k).v.oneCell'=true)
 (hsize:a'.tmps.size=g'.sl.length)
 (hsl:∀t,(nth g'.sl t=nth g.sl t∧a'.tmps.getD t Go.undef=a.tmps.getD t Go.undef)∨af w' (aN X ν' g'.at) ν' g'.at (nth g'.sl t) (a'.tmps.getD t Go.undef))
 (hdefs:a'.defers=a.defers):Sat P X ν' g' a' w':=by
 have hown':∀b,Own ν' g'.at b→Own ν g.at b∨w.heap.size≤b:=by
  rintro b ⟨k,e,h1,h2,h3⟩
  exact hown k e b h1 h2 h3
 have hw:∀b,aN X ν g.at b→b<w.heap.size→aN X ν' g'.at b∧w'.heap[b]?=w.heap[b]?:=fun b hn hb=>
  ⟨⟨fun ho=>(hown' b ho).elim hn.1 (fun hge=>by omega),hn.2⟩,hchg.block b hb (fun hBb=>hn.1 (hB b hBb))⟩
 refine⟨hsize,fun t=>?_,fun k e he=>?_,fun k k' e e' b h1 h2 h3 h4 h5 h6=>?_,fun b hb=>?_,fun k hk=>?_,fun k hk=>?_,h.xy,?_,hdefs.trans h.defs⟩
 ·rcases hsl t with⟨h1,h2⟩|h1
  ·rw[h1,h2]
   exact af.frame hw hchg.size hm _ _ (h.sl t)
  ·exact h1
 ·rcases hen k e he with⟨h1,hν,h2⟩|h1
  ·refine(h.en k e h1).frame hw hchg.size hm hν fun b hl hb=>?_
   exact hchg.block b ((h.en k e h1).lt hl hb) (h2 b hl hb)
  ·exact h1
 ·exact hinj k k' e e' b h1 h2 h3 h4 h5 h6
 ·rcases hown' b hb with h1|h1
  ·exact h.base b h1
  ·exact .inr (Nat.le_trans h.r3.size h1)
 ·rcases hnu k hk with h1|h1
  ·rw[(hm k h1).1];exact h.nu k h1
  ·exact h1
 ·obtain⟨h1,h2⟩:=h.par k hk
  exact⟨(hm k h2).1.trans h1,(hm k h2).2⟩
 ·refine h.r3.trans hchg fun k hk hlt=>?_
  rcases h.base k (hB k hk) with h1|h1
  ·exact h1
  ·omega
end Go.Eng
namespace Go.Eng
open Go.RowKit
inductive TY where
 | bool|int (k:IntKind)|str|ptr (e:Nat)|slice (e:Nat)|arr (len e:Nat)|struct (fs:List (Nat×Nat×Nat))|other
structure TI where
 ty:TY
 n:Nat
 bytes:Nat
 zero:List PV
def TI.isAgg(ti:TI):Bool:=
 match ti.ty with
 | .struct _=>true
 | .arr _ _=>true
 | _=>false
def uL:List UInt8→Nat→Bool
 | [],_=>true
 | _::_,0=>false
 | _::as,n+1=>uL as n
theorem Bk:∀{l:List UInt8}{n:Nat},uL l n=true→l.length≤n
 | [],_,_=>Nat.zero_le _
 | _::_,0,h=>by simp[uL] at h
 | _::as,n+1,h=>Nat.succ_le_succ (Bk (l:=as) (by simpa[uL] using h))
def Lk:Value→PV
 | .bool b=>.d (.val (.bool b))
 | .int k n=>.d (.val (.int k n))
 | .string s=>match uL s.data.toList 4096 with|true=>.d (.str s.data.toList)|false=>.any
 | .slice none 0 0=>.aK
 | .pointer none=>.d (.val (.pointer none))
 | .nilFunc=>.d (.val .nilFunc)
 | .nilIface=>.d (.val .nilIface)
 | .map none=>.d (.val (.map none))
 | _=>.any
def De:List Value→List PV
 | []=>[]
 | v::vs=>Lk v::De vs
def So:Value→PV
 | .agg cs=>.agg (De cs.toList)
 | .tuple cs=>match cs.toList with | []=>.undef|_=>.any
 | v=>Lk v
def Sb:PV→Option D
 | .d x=>some x
 | .aK=>some (.bx [])
 | _=>none
def rS:List PV→Option (List D)
 | []=>some []
 | p::ps=>match Sb p,rS ps with|some x,some xs=>some (x::xs)|_,_=>none
def TY.Ok(P:Program)(t:TypeId):TY→Prop
 | .bool=>P.underlying t=some .bool
 | .int k=>P.underlying t=some (.int k)
 | .str=>P.underlying t=some .string
 | .ptr e=>P.underlying t=some (.pointer e)
 | .slice e=>P.underlying t=some (.slice e)
 | .arr n e=>P.underlying t=some (.array n e)
 | .struct fs=>∃fields:Array Field,P.underlying t=some (.struct fields)∧fields.toList.mapM (fun f=>(P.info? f.type).map fun i=>(f.offset,i.size))=some (fs.map fun x=>(x.2.1,x.2.2)) ∧
  ∀(j ft off sz:Nat),fs[j]?=some (ft,off,sz)→∃f,fields[j]?=some f∧f.type=ft∧f.offset=off∧P.cellsOf ft=sz∧0<sz
 | .other=>∃d,P.underlying t=some d∧(match d with | .struct _ | .array _ _=>False|_=>True)
structure TI.Ok(P:Program)(t:TypeId)(ti:TI):Prop where
 info:∃i z,P.info? t=some i∧i.size=ti.n∧i.bytes=ti.bytes∧i.zero=some z∧De z.cells.toList=ti.zero∧z.cells.size=ti.n
 pos:0<ti.n
 one:ti.isAgg=false→ti.n=1
 ty:TY.Ok P t ti.ty
structure Env where
 P:Program
 ti:Nat→Option TI
 ok:∀t i,ti t=some i→TI.Ok P t i
theorem Es(w:World)(ok:Nat→Prop)(ν:Nat→Nm)(st:Nat→Option En)(v:Value):af w ok ν st (Lk v) v:=by
 unfold Lk
 split<;>try simp only[af]
 ·exact .val _ rfl
 ·exact .val _ rfl
 ·rename_i s
  split
  ·rename_i h
   have:=Bk h
   simp only[af]
   exact .str s.data.toList (by unfold LB;omega)
  ·simp only[af]
 ·exact .val _ rfl
 ·exact .val _ rfl
 ·exact .val _ rfl
 ·exact .val _ rfl
theorem mW(w:World)(ok:Nat→Prop)(ν:Nat→Nm)(st:Nat→Option En):∀(vs:List Value),ae w ok ν st (De vs) vs
 | []=>by simp[De,ae]
 | v::vs=>by simp only[De,ae];exact⟨Es w ok ν st v,mW w ok ν st vs⟩
theorem Pw(w:World)(ok:Nat→Prop)(ν:Nat→Nm)(st:Nat→Option En)(v:Value):af w ok ν st (So v) v:=by
 unfold So
 split
 ·rename_i cs
  simp only[af]
  exact⟨cs.toList,rfl,mW w ok ν st _⟩
 ·rename_i cs
  split
  ·rename_i h
   simp only[af]
   have:cs = #[]:=by simpa using h
   rw[this];rfl
  ·simp only[af]
 ·exact Es w ok ν st v
def G.ev(g:G):Operand→PV
 | .tmp t=>nth g.sl t
 | .const v=>So v
 | .global _=>.any
 | .func f=>.fn f []
def ba:Operand→List Nat
 | .tmp t=>[t]
 | _=>[]
theorem Sat.ev{P:Program}{X:Cx}{ν:Nat→Nm}{g:G}{a:Act}{w:World}(h:Sat P X ν g a w)(x:Operand) :
 af w (aN X ν g.at) ν g.at (g.ev x) (a.eval x):=by
 cases x with
 | tmp t=>exact h.sl t
 | const v=>exact Pw _ _ _ _ v
 | global n=>simp only[G.ev,af]
 | func f=>simp only[G.ev,af];exact⟨[],rfl,by simp[ae]⟩
structure Dl where
 dst:Option (Nat×PV)
 up:List (Nat×En)
def pV:List (Option En)→List (Nat×En)→List (Option En)
 | st,[]=>st
 | st,(k,e)::r=>pV (aX st k (some e)) r
def m9(sl:List PV):Option (Nat×PV)→List PV
 | none=>sl
 | some (d,p)=>fm sl d p
def G.app(g:G)(δ:Dl):G:=⟨m9 g.sl δ.dst,pV g.st δ.up⟩
structure Rd where
 s:List Nat
 p:List Nat
structure sR(R:Rd)(g g2:G):Prop where
 s:∀t∈R.s,nth g2.sl t=nth g.sl t
 p:∀k∈R.p,g2.at k=g.at k
theorem sR.ev{R:Rd}{g g2:G}(h:sR R g g2){x:Operand}(hx:∀t∈ba x,t∈R.s):g2.ev x=g.ev x:=by
 cases x with
 | tmp t=>exact h.s t (hx t (by simp[ba]))
 | const v=>rfl
 | global n=>rfl
 | func f=>rfl
def wO(P:Program)(o:Oper)(g g':G):Prop:=
 ∀(X:Cx)(ν:Nat→Nm)(a:Act)(w:World)(next:Act→World→Prop)(Q:Exit→Act→World→Prop),
  Sat P X ν g a w→(∀ν' a' w',Sat P X ν' g' a' w'→next a' w')→o.wp P a w next Q
def dX(P:Program)(o:Oper)(g:G)(R:Rd)(δ:Dl):Prop:=∀g2,sR R g g2→wO P o g2 (g2.app δ)
theorem size_put(a:Act)(d:Nat)(v:Value):(a.put (some d) v).tmps.size=a.tmps.size:=by simp[Act.put]
theorem lh(a:Act)(d:Nat)(v:Value)(t:Nat) :
 (a.put (some d) v).tmps.getD t Go.undef=if t=d∧d<a.tmps.size then v else a.tmps.getD t Go.undef:=by
 simp only[Act.put,Array.getD_eq_getD_getElem?,Array.getElem?_setIfInBounds]
 by_cases h:d=t
 ·subst h
  by_cases h2:d<a.tmps.size
  ·simp[h2]
  ·simp[h2]
 ·have h':¬t=d:=fun e=>h e.symm
  simp[h,h']
theorem Sat.put{P:Program}{X:Cx}{ν:Nat→Nm}{g:G}{a:Act}{w:World}(h:Sat P X ν g a w)(d:Nat){p:PV}{v:Value}
 (hv:af w (aN X ν g.at) ν g.at p v):Sat P X ν ⟨fm g.sl d p,g.st⟩ (a.put (some d) v) w:=by
 refine h.NS (g':=⟨fm g.sl d p,g.st⟩) (fun _=>False) (kG.refl _ w) (fun _ hb=>hb.elim) (e9.refl _ _) (fun k e he=>.inl ⟨he,rfl,fun _ _ _ hb=>hb⟩) (fun k e b he hl hb=>.inl ⟨k,e,he,hl,hb⟩) ?_ (fun k hk=>.inl hk) ?_ ?_ rfl
 ·intro k k' e e' b h1 h2 h3 h4 h5 h6
  exact h.inj k k' e e' b h1 h2 h3 h4 h5 h6
 ·simp[size_put,dt,h.size]
 ·intro t
  simp only[lh,gw,h.size]
  by_cases hc:t=d∧d<g.sl.length
  ·simp only[hc,and_self,if_true]
   exact .inr hv
  ·simp only[hc,if_false]
   exact .inl ⟨trivial,trivial⟩
theorem wO.val{P:Program}{o:Oper}{g:G}{d:Nat}{p:PV}(hd:o.dst=some d)
 (h:∀(X:Cx)(ν:Nat→Nm)(a:Act)(w:World),Sat P X ν g a w→∃v,(execOp a.eval o).run P w= .ok (.value v) w∧af w (aN X ν g.at) ν g.at p v) :
 wO P o g (g.app ⟨some (d,p),[]⟩):=by
 intro X ν a w next Q hs hn
 obtain⟨v,hr,hv⟩:=h X ν a w hs
 unfold Oper.wp
 rw[hr,Oper.upon_value,hd]
 exact hn ν _ _ (hs.put d hv)
section
variable{E:Env}{g:G}{d:Nat}{ty:TypeId}{pos:String}{aft:Array Edge}{gd:Option (Nat×Bool)}
theorem CJ(x:Operand):dX E.P ⟨some d,.move x,ty,pos,aft,gd⟩ g ⟨ba x,[]⟩ ⟨some (d,g.ev x),[]⟩:=by
 intro g2 hg
 rw[←hg.ev (x:=x) (fun t h=>h)]
 exact wO.val rfl fun X ν a w hs=>⟨a.eval x,rfl,hs.ev x⟩
theorem JH(x:Operand):dX E.P ⟨some d,.assign x,ty,pos,aft,gd⟩ g ⟨ba x,[]⟩ ⟨some (d,g.ev x),[]⟩:=by
 intro g2 hg
 rw[←hg.ev (x:=x) (fun t h=>h)]
 exact wO.val rfl fun X ν a w hs=>⟨a.eval x,rfl,hs.ev x⟩
theorem IK(c x y:Operand)(b:Bool)(hc:g.ev c= .d (.val (.bool b))) :
 dX E.P ⟨some d,.pick c x y,ty,pos,aft,gd⟩ g ⟨ba c++ba (if b then x else y),[]⟩ ⟨some (d,g.ev (if b then x else y)),[]⟩:=by
 intro g2 hg
 have h1:=hg.ev (x:=c) (fun t h=>by simp[h])
 rw[←hg.ev (x:=if b then x else y) (fun t h=>by simp[h])]
 refine wO.val rfl fun X ν a w hs=>?_
 have hcv:=hs.ev c
 rw[h1,hc] at hcv
 simp only[af] at hcv
 have:=hcv.xC
 refine⟨a.eval (if b then x else y),?_,hs.ev _⟩
 cases b<;>simp[execOp,this,asBool]
theorem bW{w:World}{ok:Nat→Prop}{ν:Nat→Nm}{st:Nat→Option En}{u v:Value}(h:af w ok ν st (.d (.val u)) v):v=u:=by
 simp only[af] at h
 exact h.xC
theorem nk{w:World}{ok:Nat→Prop}{ν:Nat→Nm}{st:Nat→Option En}{l:List UInt8}{v:Value}(h:af w ok ν st (.d (.str l)) v):v= .string ⟨l.toArray⟩∧l.length≤LB:=by
 simp only[af] at h
 exact h.xm
theorem iz{w:World}{ok:Nat→Prop}{ν:Nat→Nm}{st:Nat→Option En}{v:Value}(h:v.oneCell'=true):af w ok ν st (.d (.val v)) v:=by
 simp only[af]
 exact .val v h
theorem xn{o:Oper}{x:Operand}{u r:Value}(hd:o.dst=some d)(hx:g.ev x= .d (.val u))(hr:r.oneCell'=true)
 (h:∀(a:Act)(w:World),a.eval x=u→(execOp a.eval o).run E.P w= .ok (.value r) w):dX E.P o g ⟨ba x,[]⟩ ⟨some (d,.d (.val r)),[]⟩:=by
 intro g2 hg
 have h1:=hg.ev (x:=x) (fun t h=>h)
 refine wO.val hd fun X ν a w hs=>?_
 have hv:=hs.ev x
 rw[h1,hx] at hv
 exact⟨r,h a w (bW hv),iz hr⟩
theorem ji{o:Oper}{x y:Operand}{u v r:Value}(hd:o.dst=some d)(hx:g.ev x= .d (.val u))(hy:g.ev y= .d (.val v))(hr:r.oneCell'=true)
 (h:∀(a:Act)(w:World),a.eval x=u→a.eval y=v→(execOp a.eval o).run E.P w= .ok (.value r) w):dX E.P o g ⟨ba x++ba y,[]⟩ ⟨some (d,.d (.val r)),[]⟩:=by
 intro g2 hg
 have h1:=hg.ev (x:=x) (fun t h=>by simp[h])
 have h2:=hg.ev (x:=y) (fun t h=>by simp[h])
 refine wO.val hd fun X ν a w hs=>?_
 have hv:=hs.ev x
 rw[h1,hx] at hv
 have hv2:=hs.ev y
 rw[h2,hy] at hv2
 exact⟨r,h a w (bW hv) (bW hv2),iz hr⟩
def Jz(n:Int):Prop:=-9223372036854775808≤n∧n≤9223372036854775807
theorem wrap_i64{n:Int}(h:Jz n):IntKind.i64.wrap n=n:=IntWalk.i64_in n h
theorem run_equalIn_bool(P:Program)(w:World)(n:Nat){t:TypeId}(a b:Bool)(h:P.underlying t=some .bool):(Op.equalIn (n+1) t (.bool a) (.bool b)).run P w= .ok (a == b) w:=by
 simp[Op.equalIn,run_underlying h]
theorem run_equal_bool(P:Program)(w:World){t:TypeId}(a b:Bool)(h:P.underlying t=some .bool):(Op.equal t (.bool a) (.bool b)).run P w= .ok (a == b) w:=
 run_equalIn_bool P w 9999 a b h
theorem Q4(x y:Operand)(m n:Int)(t u:TypeId)(hx:g.ev x= .d (.val (.int .i64 m)))(hy:g.ev y= .d (.val (.int .i64 n)))(hi:Jz (m+n)) :
 dX E.P ⟨some d,.binOp .add t x y u,ty,pos,aft,gd⟩ g ⟨ba x++ba y,[]⟩ ⟨some (d,.d (.val (.int .i64 (m+n)))),[]⟩:=
 ji rfl hx hy rfl fun a w h1 h2=>by simp[execOp,h1,h2,eqGuard,binOp,Op.intArith,wrap_i64 hi]
theorem Rr(x y:Operand)(m n:Int)(t u:TypeId)(hx:g.ev x= .d (.val (.int .i64 m)))(hy:g.ev y= .d (.val (.int .i64 n)))(hi:Jz (m-n)) :
 dX E.P ⟨some d,.binOp .sub t x y u,ty,pos,aft,gd⟩ g ⟨ba x++ba y,[]⟩ ⟨some (d,.d (.val (.int .i64 (m-n)))),[]⟩:=
 ji rfl hx hy rfl fun a w h1 h2=>by simp[execOp,h1,h2,eqGuard,binOp,Op.intArith,wrap_i64 hi]
theorem Q2(x y:Operand)(m n:Int)(t u:TypeId)(hx:g.ev x= .d (.val (.int .i64 m)))(hy:g.ev y= .d (.val (.int .i64 n)))(hi:Jz (m*n)) :
 dX E.P ⟨some d,.binOp .mul t x y u,ty,pos,aft,gd⟩ g ⟨ba x++ba y,[]⟩ ⟨some (d,.d (.val (.int .i64 (m*n)))),[]⟩:=
 ji rfl hx hy rfl fun a w h1 h2=>by simp[execOp,h1,h2,eqGuard,binOp,Op.intArith,wrap_i64 hi]
theorem QD(x y:Operand)(m n:Int)(t u:TypeId)(hx:g.ev x= .d (.val (.int .i64 m)))(hy:g.ev y= .d (.val (.int .i64 n)))(hn:n≠0)(hi:Jz (m.tdiv n)) :
 dX E.P ⟨some d,.binOp .quo t x y u,ty,pos,aft,gd⟩ g ⟨ba x++ba y,[]⟩ ⟨some (d,.d (.val (.int .i64 (m.tdiv n)))),[]⟩:=
 ji rfl hx hy rfl fun a w h1 h2=>by simp[execOp,h1,h2,eqGuard,binOp,Op.intDiv,wrap_i64 hi,hn]
theorem QP(x y:Operand)(m n:Int)(t u:TypeId)(hx:g.ev x= .d (.val (.int .i64 m)))(hy:g.ev y= .d (.val (.int .i64 n)))(hn:n≠0) :
 dX E.P ⟨some d,.binOp .rem t x y u,ty,pos,aft,gd⟩ g ⟨ba x++ba y,[]⟩ ⟨some (d,.d (.val (.int .i64 (m.tmod n)))),[]⟩:=
 ji rfl hx hy rfl fun a w h1 h2=>by simp[execOp,h1,h2,eqGuard,binOp,Op.intDiv,hn]
def Sc:BinOp→Int→Int→Option Bool
 | .eql,m,n=>some (m == n)
 | .neq,m,n=>some (m != n)
 | .lss,m,n=>some (decide (m<n))
 | .leq,m,n=>some (decide (m≤n))
 | .gtr,m,n=>some (decide (m>n))
 | .geq,m,n=>some (decide (m≥n))
 | _,_,_=>none
theorem NT(op:BinOp)(x y:Operand)(k:IntKind)(m n:Int)(b:Bool)(t u:TypeId)(hx:g.ev x= .d (.val (.int k m)))(hy:g.ev y= .d (.val (.int k n)))(hb:Sc op m n=some b) :
 dX E.P ⟨some d,.binOp op t x y u,ty,pos,aft,gd⟩ g ⟨ba x++ba y,[]⟩ ⟨some (d,.d (.val (.bool b))),[]⟩:=
 ji rfl hx hy rfl fun a w h1 h2=>by
  cases op<;>simp only[Sc] at hb<;>first
   | (cases hb;done)
   | (obtain rfl:=Option.some.inj hb;simp[execOp,h1,h2,eqGuard,binOp,Op.intCmp])
theorem QC(x y:Operand)(m n:Bool)(t u:TypeId)(ti:TI)(ht:E.ti t=some ti)(hty:ti.ty= .bool)(hx:g.ev x= .d (.val (.bool m)))(hy:g.ev y= .d (.val (.bool n))) :
 dX E.P ⟨some d,.binOp .eql t x y u,ty,pos,aft,gd⟩ g ⟨ba x++ba y,[]⟩ ⟨some (d,.d (.val (.bool (m == n)))),[]⟩:=
 ji rfl hx hy rfl fun a w h1 h2=>by
  have h:=(E.ok t ti ht).ty
  rw[hty] at h
  simp[execOp,h1,h2,eqGuard,binOp,run_equal_bool E.P w m n h]
theorem QI(x y:Operand)(m n:Bool)(t u:TypeId)(ti:TI)(ht:E.ti t=some ti)(hty:ti.ty= .bool)(hx:g.ev x= .d (.val (.bool m)))(hy:g.ev y= .d (.val (.bool n))) :
 dX E.P ⟨some d,.binOp .neq t x y u,ty,pos,aft,gd⟩ g ⟨ba x++ba y,[]⟩ ⟨some (d,.d (.val (.bool (!(m == n))))),[]⟩:=
 ji rfl hx hy rfl fun a w h1 h2=>by
  have h:=(E.ok t ti ht).ty
  rw[hty] at h
  simp[execOp,h1,h2,eqGuard,binOp,run_equal_bool E.P w m n h]
theorem Qg(x:Operand)(m:Bool)(t:TypeId)(hx:g.ev x= .d (.val (.bool m))) :
 dX E.P ⟨some d,.unOp .not t x,ty,pos,aft,gd⟩ g ⟨ba x,[]⟩ ⟨some (d,.d (.val (.bool (!m)))),[]⟩:=
 xn rfl hx rfl fun a w h1=>by simp[execOp,h1,Op.unary]
theorem QJ(x:Operand)(m:Int)(t:TypeId)(hx:g.ev x= .d (.val (.int .i64 m)))(hi:Jz (-m)) :
 dX E.P ⟨some d,.unOp .neg t x,ty,pos,aft,gd⟩ g ⟨ba x,[]⟩ ⟨some (d,.d (.val (.int .i64 (-m)))),[]⟩:=
 xn rfl hx rfl fun a w h1=>by simp[execOp,h1,Op.unary,Op.intArith,wrap_i64 hi]
theorem O7(x:Operand)(k k':IntKind)(m:Int)(s t:TypeId)(si ti:TI)(hs:E.ti s=some si)(hsy:si.ty= .int k)(ht:E.ti t=some ti)(hty:ti.ty= .int k')(hx:g.ev x= .d (.val (.int k m))) :
 dX E.P ⟨some d,.convert s t x,ty,pos,aft,gd⟩ g ⟨ba x,[]⟩ ⟨some (d,.d (.val (.int k' (k'.wrap m)))),[]⟩:=
 xn rfl hx rfl fun a w h1=>by
  have h:=(E.ok t ti ht).ty
  rw[hty] at h
  have h':=(E.ok s si hs).ty
  rw[hsy] at h'
  simp[execOp,h1,convert,run_underlying h,run_underlying h',Conv.intToInt]
end
end Go.Eng
namespace Go.Eng
open Go.RowKit
def row(xs:List (List D))(i:Nat):List D:=xs.getD i []
def bn(cs:List D):List PV:=cs.map .d
def K0:List PV→PV
 | [p]=>p
 | _=>.any
def Jb:Bool→List PV→PV
 | true,cs=>.agg cs
 | false,cs=>K0 cs
def PV.one:PV→Bool
 | .aK=>true
 | .d _=>true
 | .ptr _ _=>true
 | .acc _=>true
 | .cC _ _ _ _=>true
 | .cf _ _ _=>true
 | .fn _ _=>true
 | _=>false
def bw:PV→List PV
 | .agg cs=>cs
 | p=>[p]
def PV.whole:PV→Bool
 | .agg _=>true
 | p=>p.one
def n9:List PV→Bool
 | []=>true
 | p::ps=>p.one&&n9 ps
section
variable{w:World}{ok:Nat→Prop}{ν:Nat→Nm}{st:Nat→Option En}
theorem ae.length:∀{ps:List PV}{vs:List Value},ae w ok ν st ps vs→vs.length=ps.length
 | [],[],_=>rfl
 | [],_::_,h=>by simp[ae] at h
 | _::_,[],h=>by simp[ae] at h
 | _::ps,_::vs,h=>by simp only[ae] at h;simp[ae.length h.2]
theorem ae.drop:∀(n:Nat){ps:List PV}{vs:List Value},ae w ok ν st ps vs→ae w ok ν st (ps.drop n) (vs.drop n)
 | 0,_,_,h=>h
 | n+1,[],[],_=>by simp[ae]
 | _+1,[],_::_,h=>by simp[ae] at h
 | _+1,_::_,[],h=>by simp[ae] at h
 | n+1,_::ps,_::vs,h=>by simp only[ae] at h;exact ae.drop n h.2
theorem ae.take:∀(n:Nat){ps:List PV}{vs:List Value},ae w ok ν st ps vs→ae w ok ν st (ps.take n) (vs.take n)
 | 0,_,_,_=>by simp[ae]
 | n+1,[],[],_=>by simp[ae]
 | _+1,[],_::_,h=>by simp[ae] at h
 | _+1,_::_,[],h=>by simp[ae] at h
 | n+1,_::ps,_::vs,h=>by simp only[ae] at h;simp only[List.take_succ_cons,ae];exact⟨h.1,ae.take n h.2⟩
theorem ae.append:∀{ps ps':List PV}{vs vs':List Value},ae w ok ν st ps vs→ae w ok ν st ps' vs'→ae w ok ν st (ps++ps') (vs++vs')
 | [],_,[],_,_,h'=>h'
 | [],_,_::_,_,h,_=>by simp[ae] at h
 | _::_,_,[],_,h,_=>by simp[ae] at h
 | _::ps,_,_::vs,_,h,h'=>by simp only[ae] at h;simp only[List.cons_append,ae];exact⟨h.1,ae.append h.2 h'⟩
theorem af.one{p:PV}{v:Value}(h:af w ok ν st p v)(hp:p.one=true)(hν:∀k,(st k).isSome=true→(ν k).v.oneCell'=true):v.oneCell'=true:=by
 cases p<;>first
  | (cases hp;done)
  | (simp only[af] at h
     first
      | (subst h;rfl)
      | exact h.one
      | (obtain⟨_,b,_,rfl⟩:=h;rfl)
      | (obtain⟨h1,rfl⟩:=h;exact hν _ h1)
      | (obtain⟨_,b,_,_,_,rfl⟩:=h;rfl)
      | (obtain⟨b,_,_,_,_,rfl⟩:=h;rfl)
      | (obtain⟨_,rfl,_⟩:=h;rfl))
theorem td{v:Value}(h:v.oneCell'=true):v.cells = #[v]:=by
 cases v<;>first|rfl|(cases h;done)
theorem af.cells{p:PV}{v:Value}(h:af w ok ν st p v)(hp:p.whole=true)(hν:∀k,(st k).isSome=true→(ν k).v.oneCell'=true) :
 ae w ok ν st (bw p) v.cells.toList:=by
 by_cases ha:∃cs,p= .agg cs
 ·obtain⟨cs,rfl⟩:=ha
  simp only[af] at h
  obtain⟨vs,rfl,h⟩:=h
  exact h
 ·have h1:p.one=true:=by cases p<;>first|rfl|(cases hp;done)|exact absurd ⟨_,rfl⟩ ha
  have e:bw p=[p]:=by cases p<;>first|rfl|exact absurd ⟨_,rfl⟩ ha
  rw[e,td (h.one h1 hν)]
  simp only[ae,and_true]
  exact h
theorem ae.n9:∀{ps:List PV}{vs:List Value},ae w ok ν st ps vs→n9 ps=true→(∀k,(st k).isSome=true→(ν k).v.oneCell'=true)→∀v∈vs,v.oneCell'=true
 | [],[],_,_,_=>by simp
 | [],_::_,h,_,_=>by simp[ae] at h
 | _::_,[],h,_,_=>by simp[ae] at h
 | p::ps,v::vs,h,ho,hν=>by
   simp only[ae] at h
   simp only[Eng.n9,Bool.and_eq_true] at ho
   intro u hu
   rcases List.mem_cons.1 hu with rfl|hu
   ·exact h.1.one ho.1 hν
   ·exact ae.n9 h.2 ho.2 hν u hu
end
section
variable{P:Program}{t:TypeId}{ti:TI}
theorem TI.Ok.size(h:TI.Ok P t ti)(w:World):(sizeOf t).run P w= .ok ti.n w:=by
 obtain⟨i,z,h1,h2,_⟩:=h.info
 simp[sizeOf,typeInfo,h1,h2]
theorem TI.Ok.cells(h:TI.Ok P t ti):P.cellsOf t=ti.n:=by
 obtain⟨i,z,h1,h2,_⟩:=h.info
 simp[Program.cellsOf,h1,h2]
theorem TI.Ok.agg(h:TI.Ok P t ti)(w:World):(Go.isAgg t).run P w= .ok ti.isAgg w:=by
 have hy:=h.ty
 unfold TI.isAgg
 cases ht:ti.ty with
 | struct fs=>
   rw[ht] at hy
   obtain⟨fields,hf,_,_⟩:=hy
   simp[Go.isAgg,run_underlying hf]
 | arr n e=>
   rw[ht] at hy
   simp only[TY.Ok] at hy
   simp[Go.isAgg,run_underlying hy]
 | other=>
   rw[ht] at hy
   obtain⟨d,hd,hn⟩:=hy
   cases d<;>first|(exact hn.elim)|simp[Go.isAgg,run_underlying hd]
 | _=>rw[ht] at hy;simp only[TY.Ok] at hy;simp[Go.isAgg,run_underlying hy]
theorem add_lit(b off n:Nat):(⟨b,off,none⟩:Addr).add n=⟨b,off+n,none⟩:=by
 unfold Addr.add
 split<;>simp_all
theorem jt(h:TI.Ok P t ti)(w:World)(b off:Nat)(vs:List Value)(hl:vs.length=ti.n)(hc:dF w b off vs) :
 ∃v,(loadVar t ⟨b,off,none⟩).run P w= .ok v w∧(if ti.isAgg then v= .agg ⟨vs⟩ else vs=[v]):=by
 by_cases ha:ti.isAgg=true
 ·have hcs:∀j v,vs[j]?=some v→w.cell? ((⟨b,off,none⟩:Addr).add j)=some v:=fun j v hv=>by rw[add_lit];exact hc j v hv
  have hr:=run_loadCells_list (P:=P) w ⟨b,off,none⟩ vs hcs
  refine⟨.agg ⟨vs⟩,?_,by simp[ha]⟩
  simp only[loadVar,Sem.run_bind,h.agg w,Result.andThen_ok,ha,if_true,h.size w,←hl,hr]
  rfl
 ·have ha':ti.isAgg=false:=by simpa using ha
  have h1:=h.one ha'
  match vs,hl.trans h1 with
  | [v],_=>
    have:=hc 0 v rfl
    refine⟨v,?_,by simp[ha']⟩
    simp only[Nat.add_zero] at this
    simp only[loadVar,Sem.run_bind,h.agg w,Result.andThen_ok,ha',Bool.false_eq_true,if_false]
    simp[run_load,this]
end
end Go.Eng
namespace Go.Eng
open Go.RowKit
theorem tK{sz:Nat}:∀(us:List (List Value))(i j:Nat)(u:List Value)(v:Value),(∀(i:Nat)(u:List Value),us[i]?=some u→u.length=sz)→us[i]?=some u→u[j]?=some v→us.flatten[i*sz+j]?=some v
 | [],i,j,u,v,_,h,_=>by simp at h
 | x::xs,0,j,u,v,hu,h,hv=>by
   obtain rfl:x=u:=by simpa using h
   have hj:j<x.length:=by
    rcases Nat.lt_or_ge j x.length with h' | h'
    ·exact h'
    ·rw[List.getElem?_eq_none h'] at hv;cases hv
   simp only[List.flatten_cons,Nat.zero_mul,Nat.zero_add]
   rw[List.getElem?_append_left hj]
   exact hv
 | x::xs,i+1,j,u,v,hu,h,hv=>by
   have hx:x.length=sz:=hu 0 x rfl
   have ih:=tK xs i j u v (fun i u h=>hu (i+1) u (by simpa using h)) (by simpa using h) hv
   simp only[List.flatten_cons]
   rw[List.getElem?_append_right (by rw[hx,Nat.add_mul];omega),hx]
   have e:(i+1)*sz+j-sz=i*sz+j:=by rw[Nat.add_mul];omega
   rw[e]
   exact ih
theorem Iv{w:World}{ok:Nat→Prop}{sz:Nat}{xs:List (List D)}{us:List (List Value)}(h:aL w ok sz xs us){i:Nat}(hi:i<xs.length)(ν:Nat→Nm)(st:Nat→Option En) :
 ∃u,us[i]?=some u∧u.length=sz∧(row xs i).length=sz∧ae w ok ν st (bn (row xs i)) u:=by
 have hi':i<us.length:=by rw[h.len];exact hi
 have hx:xs[i]?=some (row xs i):=by simp[row,List.getD,List.getElem?_eq_getElem hi]
 have hl:=h.hx i _ hx
 have hul:=h.hu i us[i] (List.getElem?_eq_getElem hi')
 refine⟨us[i],List.getElem?_eq_getElem hi',hul,hl,?_⟩
 have hr:=fun j d v=>h.hr i j (row xs i) us[i] d v hx (List.getElem?_eq_getElem hi')
 revert hr hl hul
 generalize row xs i=x
 generalize us[i]=u
 intro hl hul hr
 have key:∀(x:List D)(u:List Value),x.length=u.length→(∀(j:Nat)(d:D)(v:Value),x[j]?=some d→u[j]?=some v→cM w ok d v)→ae w ok ν st (bn x) u:=by
  intro x
  induction x with
  | nil=>intro u h _;cases u with
    | nil=>simp[bn,ae]
    | cons a b=>simp at h
  | cons d x ih=>intro u h hr;cases u with
    | nil=>simp at h
    | cons v u=>
      simp only[bn,List.map_cons,ae,af]
      exact⟨hr 0 d v rfl rfl,ih u (by simpa using h) fun j d' v' h1 h2=>hr (j+1) d' v' (by simpa using h1) (by simpa using h2)⟩
 exact key x u (by rw[hl,hul]) hr
def Te(a:Option Addr)(c:Nat):Prop:=(a=none∧c=0)∨(a.isSome=true∧c≤maxLen)
theorem cM.RF{w:World}{ok:Nat→Prop}{a:Option Addr}{c:Nat}(h:Te a c):cM w ok (.bx []) (.slice a 0 c):=by
 rcases h with⟨rfl,rfl⟩|⟨h1,h2⟩
 ·exact .nil
 ·obtain⟨a,rfl⟩:=Option.isSome_iff_exists.1 h1
  exact .emp a c h2
theorem cM.nR{w:World}{ok:Nat→Prop}{xs:List (List D)}{v:Value}(h:cM w ok (.bx xs) v) :
 (xs=[]∧∃a c,v= .slice a 0 c∧Te a c)∨∃us b off cap sz,v= .slice (some ⟨b,off,none⟩) xs.length cap∧ok b∧b<w.heap.size∧xs.length≤cap∧cap≤maxLen∧xs.length≤LB∧aL w ok sz xs us∧dF w b off us.flatten:=by
 cases h with
 | nil=>exact .inl ⟨rfl,_,_,rfl,.inl ⟨rfl,rfl⟩⟩
 | emp a c h=>exact .inl ⟨rfl,_,_,rfl,.inr ⟨rfl,h⟩⟩
 | bx xs us b off cap sz hok hb hcap hmax hB hl hx hu hc hr=>exact .inr ⟨us,b,off,cap,sz,rfl,hok,hb,hcap,hmax,hB,⟨hl,hx,hu,hr⟩,hc⟩
theorem cM.Rt{w:World}{ok:Nat→Prop}{xs:List (List D)}{v:Value}(h:cM w ok (.bx xs) v):xs.length≤LB:=by
 rcases h.nR with⟨rfl,_⟩|⟨us,b,off,cap,sz,_,_,_,_,_,h,_⟩
 ·simp
 ·exact h
theorem dF.sub{w:World}{b off:Nat}{us us':List Value}(h:dF w b off us)(n:Nat)(hs:∀j u,us'[j]?=some u→us[n+j]?=some u):dF w b (off+n) us':=
 fun j u hu=>by rw[Nat.add_assoc];exact h (n+j) u (hs j u hu)
section
variable{E:Env}{g:G}{d:Nat}{ty:TypeId}{pos:String}{aft:Array Edge}{gd:Option (Nat×Bool)}{dn:Option Nat}
theorem jU{o:Oper}{x:Operand}{p r:PV}(hd:o.dst=some d)(hx:g.ev x=p)
 (h:∀(X:Cx)(ν:Nat→Nm)(g:G)(a:Act)(w:World),Sat E.P X ν g a w→af w (aN X ν g.at) ν g.at p (a.eval x) →
  ∃v,(execOp a.eval o).run E.P w= .ok (.value v) w∧af w (aN X ν g.at) ν g.at r v):dX E.P o g ⟨ba x,[]⟩ ⟨some (d,r),[]⟩:=by
 intro g2 hg
 have h1:=hg.ev (x:=x) (fun t h=>h)
 refine wO.val hd fun X ν a w hs=>?_
 have hv:=hs.ev x
 rw[h1,hx] at hv
 exact h X ν g2 a w hs hv
theorem zg{o:Oper}{x y:Operand}{p q r:PV}(hd:o.dst=some d)(hx:g.ev x=p)(hy:g.ev y=q)
 (h:∀(X:Cx)(ν:Nat→Nm)(g:G)(a:Act)(w:World),Sat E.P X ν g a w→af w (aN X ν g.at) ν g.at p (a.eval x)→af w (aN X ν g.at) ν g.at q (a.eval y) →
  ∃v,(execOp a.eval o).run E.P w= .ok (.value v) w∧af w (aN X ν g.at) ν g.at r v):dX E.P o g ⟨ba x++ba y,[]⟩ ⟨some (d,r),[]⟩:=by
 intro g2 hg
 have h1:=hg.ev (x:=x) (fun t h=>by simp[h])
 have h2:=hg.ev (x:=y) (fun t h=>by simp[h])
 refine wO.val hd fun X ν a w hs=>?_
 have hv:=hs.ev x
 rw[h1,hx] at hv
 have hv2:=hs.ev y
 rw[h2,hy] at hv2
 exact h X ν g2 a w hs hv hv2
theorem pF{s:TypeId}{si:TI}{fs:List (Nat×Nat×Nat)}{f ft fo fz:Nat}(hs:E.ti s=some si)(hsy:si.ty= .struct fs)(hf:fs[f]?=some (ft,fo,fz))(w:World)(b off:Nat) :
 (Instr.fieldAt s (.pointer (some ⟨b,off,none⟩)) f).run E.P w= .ok (.pointer (some ⟨b,off+fo,none⟩)) w:=by
 have h:=(E.ok s si hs).ty
 rw[hsy] at h
 obtain⟨fields,hu,_,hfs⟩:=h
 obtain⟨fd,h1,h2,h3,h4,h5⟩:=hfs f ft fo fz hf
 have hi:∃i,E.P.info? ft=some i∧i.size=fz:=by
  cases hq:E.P.info? ft with
  | none=>simp[Program.cellsOf,hq] at h4;omega
  | some i=>exact⟨i,rfl,by simpa[Program.cellsOf,hq] using h4⟩
 obtain⟨i,hi,hiz⟩:=hi
 have hne:fz≠0:=by omega
 simp[Instr.fieldAt,run_underlying hu,h1,Instr.sureAddr,fieldPlace,sizeOf,typeInfo,h2,hi,hiz,hne,h3,add_lit]
theorem HL(x:Operand)(s f k off:Nat)(si:TI)(fs:List (Nat×Nat×Nat))(ft fo fz:Nat)(hs:E.ti s=some si)(hsy:si.ty= .struct fs)(hf:fs[f]?=some (ft,fo,fz))(hx:g.ev x= .ptr k off) :
 dX E.P ⟨some d,.fieldAddr s x f,ty,pos,aft,gd⟩ g ⟨ba x,[]⟩ ⟨some (d,.ptr k (off+fo)),[]⟩:=
 jU rfl hx fun X ν g a w _ hv=>by
  simp only[af] at hv⊢
  obtain⟨h1,b,h2,h3⟩:=hv
  exact⟨_,by simp only[execOp,h3,Sem.run_bind,pF hs hsy hf,Result.andThen_ok];rfl,h1,b,h2,rfl⟩
theorem DM(x:Operand)(s f:Nat)(xs:List (List D))(i off:Nat)(si:TI)(fs:List (Nat×Nat×Nat))(ft fo fz:Nat)(hs:E.ti s=some si)(hsy:si.ty= .struct fs)(hf:fs[f]?=some (ft,fo,fz))(hx:g.ev x= .cf xs i off) :
 dX E.P ⟨some d,.fieldAddr s x f,ty,pos,aft,gd⟩ g ⟨ba x,[]⟩ ⟨some (d,.cf xs i (off+fo)),[]⟩:=
 jU rfl hx fun X ν g a w _ hv=>by
  simp only[af] at hv⊢
  obtain⟨b,o,cap,h1,h2,h3⟩:=hv
  exact⟨_,by simp only[execOp,h3,Sem.run_bind,pF hs hsy hf,Result.andThen_ok];rfl,b,o,cap,h1,h2,by simp[Nat.add_assoc]⟩
theorem FB(x:Operand)(s f:Nat)(k i off sz:Nat)(si:TI)(fs:List (Nat×Nat×Nat))(ft fo fz:Nat)(hs:E.ti s=some si)(hsy:si.ty= .struct fs)(hf:fs[f]?=some (ft,fo,fz))(hx:g.ev x= .cC k i off sz) :
 dX E.P ⟨some d,.fieldAddr s x f,ty,pos,aft,gd⟩ g ⟨ba x,[]⟩ ⟨some (d,.cC k i (off+fo) sz),[]⟩:=
 jU rfl hx fun X ν g a w _ hv=>by
  simp only[af] at hv⊢
  obtain⟨h0,b,n,c,h1,h3⟩:=hv
  exact⟨_,by simp only[execOp,h3,Sem.run_bind,pF hs hsy hf,Result.andThen_ok];rfl,h0,b,n,c,h1,by simp[Nat.add_assoc]⟩
theorem H3(x y:Operand)(s:Nat)(si ei:TI)(e:Nat)(xs:List (List D))(n:Int)(hs:E.ti s=some si)(hsy:si.ty= .slice e)(he:E.ti e=some ei)(hx:g.ev x= .d (.bx xs))(hy:g.ev y= .d (.val (.int .i64 n)))
 (h0:0≤n) (hlt:n.toNat<xs.length) (hz:(row xs n.toNat).length=ei.n) :
 dX E.P ⟨some d,.indexAddr s x y,ty,pos,aft,gd⟩ g ⟨ba x++ba y,[]⟩ ⟨some (d,.cf xs n.toNat 0),[]⟩:=
 zg rfl hx hy fun X ν g a w _ hv hv2=>by
  have hu:=(E.ok s si hs).ty
  rw[hsy] at hu
  have h2:=bW hv2
  simp only[af] at hv⊢
  have hv':=hv
  rcases hv.nR with⟨rfl,_⟩|⟨us,b,off,cap,sz,hv,hok,hb,hcap,hmax,hB,hrr,hc⟩
  ·simp at hlt
  ·have hlt':n<(xs.length:Int):=by omega
   refine⟨.pointer (some ⟨b,off+(n.toNat*ei.n),none⟩),?_,b,off,cap,by rw[←hv];exact hv',hlt,?_⟩
   ·simp[execOp,hv,h2,Instr.indexAt,asIntOf,run_underlying hu,h0,hlt',(E.ok e ei he).size,add_lit]
   ·have:(xs.getD n.toNat []).length=ei.n:=hz
    rw[this];simp
theorem H6(x y:Operand)(s:Nat)(si ei:TI)(e k:Nat)(xs:List (List D))(n:Int)(hs:E.ti s=some si)(hsy:si.ty= .slice e)(he:E.ti e=some ei)(hx:g.ev x= .acc k)(hk:g.at k=some (.acc e xs))(hy:g.ev y= .d (.val (.int .i64 n)))
 (h0:0≤n) (hlt:n.toNat<xs.length) :
 dX E.P ⟨some d,.indexAddr s x y,ty,pos,aft,gd⟩ g ⟨ba x++ba y,[k]⟩ ⟨some (d,.cC k n.toNat 0 ei.n),[]⟩:=by
 intro g2 hg
 have h1:=hg.ev (x:=x) (fun t h=>by simp[h])
 have h2:=hg.ev (x:=y) (fun t h=>by simp[h])
 have h3:=(hg.p k (by simp)).trans hk
 refine wO.val rfl fun X ν a w hs'=>?_
 have hu:=(E.ok s si hs).ty
 rw[hsy] at hu
 have hv:=hs'.ev x
 rw[h1,hx] at hv
 have hv2:=hs'.ev y
 rw[h2,hy] at hv2
 have hv2:=bW hv2
 simp only[af] at hv⊢
 obtain⟨us,ho,hrr,_⟩:=hs'.en k _ h3
 rcases ho.2 with⟨_,hn⟩|⟨b,cap,cur,hb,_⟩
 ·omega
 ·have hlt':n<(xs.length:Int):=by omega
  refine⟨.pointer (some ⟨b,n.toNat*ei.n,none⟩),?_,by rw[h3];rfl,b,xs.length,cap,hb,rfl⟩
  simp[execOp,hv.2,hb,hv2,Instr.indexAt,asIntOf,run_underlying hu,h0,hlt',(E.ok e ei he).size,add_lit]
theorem H4(x y:Operand)(s:Nat)(si ei:TI)(e len k off:Nat)(n:Int)(hs:E.ti s=some si)(hsy:si.ty= .arr len e)(he:E.ti e=some ei)(hx:g.ev x= .ptr k off)(hy:g.ev y= .d (.val (.int .i64 n)))
 (h0:0≤n) (hlt:n.toNat<len) :
 dX E.P ⟨some d,.indexAddr s x y,ty,pos,aft,gd⟩ g ⟨ba x++ba y,[]⟩ ⟨some (d,.ptr k (off+n.toNat*ei.n)),[]⟩:=
 zg rfl hx hy fun X ν g a w _ hv hv2=>by
  have hu:=(E.ok s si hs).ty
  rw[hsy] at hu
  have h2:=bW hv2
  simp only[af] at hv⊢
  obtain⟨h1,b,h3,h4⟩:=hv
  have hlt':n<(len:Int):=by omega
  refine⟨.pointer (some ⟨b,off+n.toNat*ei.n,none⟩),?_,h1,b,h3,rfl⟩
  simp[execOp,h4,h2,Instr.indexAt,asIntOf,run_underlying hu,h0,hlt',(E.ok e ei he).size,add_lit,Instr.sureAddr]
theorem Gj(x y:Operand)(s:Nat)(si:TI)(l:List UInt8)(n:Int)(hs:E.ti s=some si)(hsy:si.ty= .str)(hx:g.ev x= .d (.str l))(hy:g.ev y= .d (.val (.int .i64 n)))
 (h0:0≤n) (hlt:n.toNat<l.length) :
 dX E.P ⟨some d,.index s x y,ty,pos,aft,gd⟩ g ⟨ba x++ba y,[]⟩ ⟨some (d,.d (.val (.int .u8 ((l.getD n.toNat 0).toNat:Int)))),[]⟩:=
 zg rfl hx hy fun X ν g a w _ hv hv2=>by
  have hu:=(E.ok s si hs).ty
  rw[hsy] at hu
  have h2:=bW hv2
  have h1:=(nk hv).1
  refine⟨_,?_,iz rfl⟩
  have hget:(⟨l.toArray⟩:ByteArray)[n.toNat]?=some (l.getD n.toNat 0):=by
   have hs:n.toNat<(⟨l.toArray⟩:ByteArray).size:=by simpa[ByteArray.size] using hlt
   have h1:(⟨l.toArray⟩:ByteArray)[n.toNat]?=some ((⟨l.toArray⟩:ByteArray)[n.toNat]'hs):=getElem?_pos (⟨l.toArray⟩:ByteArray) n.toNat hs
   rw[h1]
   have h2:(⟨l.toArray⟩:ByteArray)[n.toNat]'hs=l[n.toNat]:=rfl
   rw[h2]
   simp[List.getD,hlt]
  simp[execOp,h1,h2,Instr.index,asIntOf,run_underlying hu,h0,hget]
end
end Go.Eng
namespace Go.Eng
open Go.RowKit
section
variable{P:Program}{X:Cx}{ν:Nat→Nm}{g:G}{a:Act}{w:World}
theorem nL(g:G)(k:Nat)(e:Option En)(j:Nat)(sl:List PV):(⟨sl,aX g.st k e⟩:G).at j=if j=k then e else g.at j:=ck g.st k e j
def gone(st:List (Option En)):Option Nat→List (Option En)
 | none=>st
 | some k=>aX st k (some .dead)
theorem Sat.move(h:Sat P X ν g a w){w':World}(old:Option Nat)(hold:∀k,old=some k→∃e,g.at k=some e∧e.live=true)
 (hchg:kG (fun b=>∃k,old=some k∧(ν k).has b) w w') (k:Nat) (hk:g.at k=none) (e:En) (n0:Nm) (h1:n0.v.oneCell'=true)
 (hb:∀b,n0.has b→(∃k,old=some k∧(ν k).has b)∨w.heap.size≤b) (d:Nat) (p:PV) (v:Value)
 (hen:∀(ok:Nat→Prop)(st:Nat→Option En)(ν':Nat→Nm),ν' k=n0→(∀b,aN X ν g.at b→b<w.heap.size→ok b∧w'.heap[b]?=w.heap[b]?)→e9 g.at st ν ν'→eP P w' ok ν' st k e)
 (hv:∀(ok:Nat→Prop)(st:Nat→Option En)(ν':Nat→Nm),ν' k=n0→st k=some e→(∀b,aN X ν g.at b→b<w.heap.size→ok b∧w'.heap[b]?=w.heap[b]?)→e9 g.at st ν ν'→af w' ok ν' st p v) :
 Sat P X (fun j=>if j=k then n0 else ν j) ⟨fm g.sl d p,aX (gone g.st old) k (some e)⟩ (a.put (some d) v) w':=by
 have hok:∀j,old=some j→j≠k:=fun j hj e=>by
  obtain⟨e',h',_⟩:=hold j hj
  rw[e,hk] at h';cases h'
 have hat:∀j,(⟨fm g.sl d p,aX (gone g.st old) k (some e)⟩:G).at j=if j=k then some e else if old=some j then some .dead else g.at j:=by
  intro j
  show aV (aX (gone g.st old) k (some e)) j=_
  rw[ck]
  split
  ·rfl
  ·cases old with
   | none=>simp[gone,G.at]
   | some o=>
     simp only[gone,ck,Option.some.injEq,G.at]
     by_cases hjo:j=o
     ·simp[hjo]
     ·have:¬o=j:=fun e=>hjo e.symm
      simp[hjo,this]
 have hm:e9 g.at (⟨fm g.sl d p,aX (gone g.st old) k (some e)⟩:G).at ν (fun j=>if j=k then n0 else ν j):=by
  intro j hj
  have:j≠k:=fun e=>by rw[e,hk] at hj;cases hj
  refine⟨by simp[this],?_⟩
  rw[hat,if_neg this]
  split
  ·rfl
  ·exact hj
 have hB:∀b,(∃k,old=some k∧(ν k).has b)→Own ν g.at b:=by
  rintro b ⟨o,ho,hbo⟩
  obtain⟨e0,h1,h2⟩:=hold o ho
  exact⟨o,e0,h1,h2,hbo⟩
 have hownb:∀j e' b,(⟨fm g.sl d p,aX (gone g.st old) k (some e)⟩:G).at j=some e'→e'.live=true→((fun j=>if j=k then n0 else ν j) j).has b→Own ν g.at b∨w.heap.size≤b:=by
  intro j e' b h1 h2 h3
  rw[hat] at h1
  by_cases hj:j=k
  ·simp only[hj,if_true] at h3
   exact(hb b h3).imp (hB b) id
  ·simp only[hj,if_false] at h1 h3
   by_cases hjo:old=some j
   ·rw[if_pos hjo] at h1
    cases h1;cases h2
   ·rw[if_neg hjo] at h1
    exact .inl ⟨j,e',h1,h2,h3⟩
 have hown:∀b,aN X ν g.at b→b<w.heap.size→aN X (fun j=>if j=k then n0 else ν j) (⟨fm g.sl d p,aX (gone g.st old) k (some e)⟩:G).at b:=by
  intro b hn hlt
  refine⟨?_,hn.2⟩
  rintro⟨j,e',h1,h2,h3⟩
  rcases hownb j e' b h1 h2 h3 with h4|h4
  ·exact hn.1 h4
  ·omega
 have hw:∀b,aN X ν g.at b→b<w.heap.size→aN X (fun j=>if j=k then n0 else ν j) (⟨fm g.sl d p,aX (gone g.st old) k (some e)⟩:G).at b∧w'.heap[b]?=w.heap[b]?:=
  fun b hn hlt=>⟨hown b hn hlt,hchg.block b hlt (fun h=>hn.1 (hB b h))⟩
 refine h.NS (fun b=>∃k,old=some k∧(ν k).has b) hchg hB hm ?_ hownb ?_ ?_ ?_ ?_ rfl
 ·intro j e' hj
  rw[hat] at hj
  by_cases hjk:j=k
  ·subst hjk
   simp only[if_true,Option.some.injEq] at hj
   subst hj
   exact .inr (hen _ _ _ (by simp) hw hm)
  ·rw[if_neg hjk] at hj
   by_cases hjo:old=some j
   ·rw[if_pos hjo] at hj
    cases hj
    exact .inr trivial
   ·rw[if_neg hjo] at hj
    refine .inl ⟨hj,by simp[hjk],?_⟩
    rintro b hl hbj ⟨o,ho,hbo⟩
    obtain⟨e0,h1,h2⟩:=hold o ho
    exact hjo (by rw[ho,h.inj j o e' e0 b hj h1 hl h2 hbj hbo])
 ·have key:∀(j:Nat)(e1:En)(b:Nat),j≠k→(⟨fm g.sl d p,aX (gone g.st old) k (some e)⟩:G).at j=some e1→e1.live=true→((fun j=>if j=k then n0 else ν j) j).has b →
   g.at j=some e1∧old≠some j∧(ν j).has b:=by
   intro j e1 b hjk h1 h2 h3
   rw[hat,if_neg hjk] at h1
   simp only[hjk,if_false] at h3
   by_cases hjo:old=some j
   ·rw[if_pos hjo] at h1
    cases h1;cases h2
   ·rw[if_neg hjo] at h1
    exact⟨h1,hjo,h3⟩
  have key2:∀(j:Nat)(e1:En)(b:Nat),j≠k→(⟨fm g.sl d p,aX (gone g.st old) k (some e)⟩:G).at j=some e1→e1.live=true→((fun j=>if j=k then n0 else ν j) j).has b→n0.has b→False:=by
   intro j e1 b hjk h1 h2 h3 h4
   obtain⟨k1,k2,k3⟩:=key j e1 b hjk h1 h2 h3
   rcases hb b h4 with⟨o,ho,hbo⟩|hge
   ·obtain⟨e0,m1,m2⟩:=hold o ho
    exact k2 (by rw[ho,h.inj j o e1 e0 b k1 m1 h2 m2 k3 hbo])
   ·have:=h.lt ⟨j,e1,k1,h2,k3⟩
    omega
  intro j j' e1 e2 b h1 h2 h3 h4 h5 h6
  by_cases hj:j=k
  ·by_cases hj':j'=k
   ·rw[hj,hj']
   ·exact(key2 j' e2 b hj' h2 h4 h6 (by simpa[hj] using h5)).elim
  ·by_cases hj':j'=k
   ·exact(key2 j e1 b hj h1 h3 h5 (by simpa[hj'] using h6)).elim
   ·obtain⟨k1,_,k3⟩:=key j e1 b hj h1 h3 h5
    obtain⟨m1,_,m3⟩:=key j' e2 b hj' h2 h4 h6
    exact h.inj j j' e1 e2 b k1 m1 h3 h4 k3 m3
 ·intro j hj
  rw[hat] at hj
  by_cases hjk:j=k
  ·exact .inr (by simp[hjk,h1])
  ·rw[if_neg hjk] at hj
   by_cases hjo:old=some j
   ·obtain⟨e0,m1,m2⟩:=hold j hjo
    exact .inl (by rw[m1];rfl)
   ·rw[if_neg hjo] at hj
    exact .inl hj
 ·simp[size_put,dt,h.size]
 ·intro t
  simp only[lh,gw,h.size]
  by_cases hc:t=d∧d<g.sl.length
  ·simp only[hc,and_self,if_true]
   exact .inr (hv _ _ _ (by simp) (by rw[hat];simp) hw hm)
  ·simp only[hc,if_false]
   exact .inl ⟨trivial,trivial⟩
theorem Sat.oX(h:Sat P X ν g a w){w':World}(hchg:kG (fun _=>False) w w')(k:Nat)(hk:g.at k=none)(e:En)(n0:Nm)(h1:n0.v.oneCell'=true)
 (hb:∀b,n0.has b→w.heap.size≤b) (d:Nat) (p:PV) (v:Value)
 (hen:∀(ok:Nat→Prop)(st:Nat→Option En)(ν':Nat→Nm),ν' k=n0→(∀b,aN X ν g.at b→b<w.heap.size→ok b∧w'.heap[b]?=w.heap[b]?)→e9 g.at st ν ν'→eP P w' ok ν' st k e)
 (hv:∀(ok:Nat→Prop)(st:Nat→Option En)(ν':Nat→Nm),ν' k=n0→st k=some e→(∀b,aN X ν g.at b→b<w.heap.size→ok b∧w'.heap[b]?=w.heap[b]?)→e9 g.at st ν ν'→af w' ok ν' st p v) :
 Sat P X (fun j=>if j=k then n0 else ν j) ⟨fm g.sl d p,aX g.st k (some e)⟩ (a.put (some d) v) w':=
 h.move none (fun _ h=>by cases h) (hchg.mono fun _ h _=>h.elim) k hk e n0 h1 (fun b hb'=>.inr (hb b hb')) d p v hen hv
theorem dx(w:World)(o:Obj):kG (fun _=>False) w (w.alloc o):=
 ⟨rfl,rfl,rfl,by simp,fun k hk _=>Below.heap_alloc w o k hk⟩
theorem tx(w:World):kG (fun _=>False) w w.drew:=⟨rfl,rfl,rfl,Nat.le_refl _,fun _ _ _=>rfl⟩
theorem kE(w:World)(o:Obj):(w.alloc o).heap[w.heap.size]?=some o:=by
 show(w.heap.push o)[w.heap.size]?=some o
 simp
theorem Sat.uj(h:Sat P X ν g a w){w':World}(k:Nat)(e0 e:En)(hk:g.at k=some e0)(hl0:e0.live=true)(hchg:kG (fun b=>(ν k).has b) w w')(d:Option Nat)(p:PV)(v:Value)
 (hen:(∀b,aN X ν g.at b→b<w.heap.size→aN X ν (⟨m9 g.sl (d.map fun d=>(d,p)),aX g.st k (some e)⟩:G).at b∧w'.heap[b]?=w.heap[b]?)→e9 g.at (⟨m9 g.sl (d.map fun d=>(d,p)),aX g.st k (some e)⟩:G).at ν ν →
  eP P w' (aN X ν (⟨m9 g.sl (d.map fun d=>(d,p)),aX g.st k (some e)⟩:G).at) ν (⟨m9 g.sl (d.map fun d=>(d,p)),aX g.st k (some e)⟩:G).at k e)
 (hv:d.isSome=true→af w (aN X ν g.at) ν g.at p v) :
 Sat P X ν ⟨m9 g.sl (d.map fun d=>(d,p)),aX g.st k (some e)⟩ (a.put d v) w':=by
 have hat:∀j,(⟨m9 g.sl (d.map fun d=>(d,p)),aX g.st k (some e)⟩:G).at j=if j=k then some e else g.at j:=fun j=>nL g k (some e) j _
 have hm:e9 g.at (⟨m9 g.sl (d.map fun d=>(d,p)),aX g.st k (some e)⟩:G).at ν ν:=by
  intro j hj
  refine⟨rfl,?_⟩
  rw[hat]
  split
  ·rfl
  ·exact hj
 have hown:∀b,aN X ν g.at b→aN X ν (⟨m9 g.sl (d.map fun d=>(d,p)),aX g.st k (some e)⟩:G).at b:=by
  intro b hn
  refine⟨?_,hn.2⟩
  rintro⟨j,e',h1,h2,h3⟩
  rw[hat] at h1
  by_cases hj:j=k
  ·subst hj
   exact hn.1 ⟨j,e0,hk,hl0,h3⟩
  ·simp only[hj,if_false] at h1
   exact hn.1 ⟨j,e',h1,h2,h3⟩
 have hB:∀b,(ν k).has b→Own ν g.at b:=fun b hb=>⟨k,e0,hk,hl0,hb⟩
 have hw:∀b,aN X ν g.at b→b<w.heap.size→aN X ν (⟨m9 g.sl (d.map fun d=>(d,p)),aX g.st k (some e)⟩:G).at b∧w'.heap[b]?=w.heap[b]?:=
  fun b hn hlt=>⟨hown b hn,hchg.block b hlt (fun hb=>hn.1 (hB b hb))⟩
 refine h.NS (fun b=>(ν k).has b) hchg hB hm ?_ ?_ ?_ ?_ ?_ ?_ (by cases d<;>rfl)
 ·intro j e' hj
  rw[hat] at hj
  by_cases hjk:j=k
  ·subst hjk
   simp only[if_true,Option.some.injEq] at hj
   subst hj
   exact .inr (hen hw hm)
  ·rw[if_neg hjk] at hj
   exact .inl ⟨hj,rfl,fun b hl hb hb'=>hjk (h.inj j k e' e0 b hj hk hl hl0 hb hb')⟩
 ·intro j e' b hj hl hbj
  rw[hat] at hj
  by_cases hjk:j=k
  ·subst hjk
   exact .inl (hB b hbj)
  ·simp only[hjk,if_false] at hj
   exact .inl ⟨j,e',hj,hl,hbj⟩
 ·have key:∀(j:Nat)(e1:En),(⟨m9 g.sl (d.map fun d=>(d,p)),aX g.st k (some e)⟩:G).at j=some e1→e1.live=true→∃e2,g.at j=some e2∧e2.live=true:=by
   intro j e1 h1 h2
   rw[hat] at h1
   by_cases hj:j=k
   ·subst hj
    exact⟨e0,hk,hl0⟩
   ·rw[if_neg hj] at h1
    exact⟨e1,h1,h2⟩
  intro j j' e1 e2 b h1 h2 h3 h4 h5 h6
  obtain⟨e3,k1,k2⟩:=key j e1 h1 h3
  obtain⟨e4,m1,m2⟩:=key j' e2 h2 h4
  exact h.inj j j' e3 e4 b k1 m1 k2 m2 h5 h6
 ·intro j hj
  rw[hat] at hj
  by_cases hjk:j=k
  ·subst hjk
   exact .inl (by rw[hk];rfl)
  ·rw[if_neg hjk] at hj
   exact .inl hj
 ·cases d with
  | none=>exact h.size
  | some d=>simp[m9,size_put,dt,h.size]
 ·intro t
  cases d with
  | none=>exact .inl ⟨rfl,rfl⟩
  | some d=>
    simp only[Option.map_some,m9,lh,gw,h.size]
    by_cases hc:t=d∧d<g.sl.length
    ·simp only[hc,and_self,if_true]
     exact .inr (af.frame hw hchg.size hm _ _ (hv rfl))
    ·simp only[hc,if_false]
     exact .inl ⟨trivial,trivial⟩
end
section
variable{E:Env}{g:G}{d:Nat}{ty:TypeId}{pos:String}{aft:Array Edge}{gd:Option (Nat×Bool)}{dn:Option Nat}
theorem pZ{w:World}{ok:Nat→Prop}{ν:Nat→Nm}{st:Nat→Option En}{b:Bool}{cs:List PV}{vs:List Value}{v:Value}(h:ae w ok ν st cs vs)(hv:if b then v= .agg ⟨vs⟩ else vs=[v]) :
 af w ok ν st (Jb b cs) v:=by
 cases b with
 | true=>simp only[if_true] at hv;simp only[Jb,af];exact⟨vs,hv,h⟩
 | false=>
   simp only[Bool.false_eq_true,if_false] at hv
   subst hv
   match cs,h with
   | [p],h=>simp only[ae,and_true] at h;exact h
   | [],h=>simp[ae] at h
   | _::_::_,h=>simp[ae] at h
theorem oc{w:World}{b:Nat}{vs:List Value}{T:TypeId}{fr:Nat×Nat}(h:w.heap[b]?=some (.cells ⟨vs⟩ T fr)):dF w b 0 vs:=by
 intro j u hu
 simp[World.cell?,h,hu]
theorem DL(x:Operand)(t k off:Nat)(ti:TI)(cs:List PV)(ht:E.ti t=some ti)(hx:g.ev x= .ptr k off)(hk:g.at k=some (.box cs))(hl:off+ti.n≤cs.length) :
 dX E.P ⟨some d,.load t x,ty,pos,aft,gd⟩ g ⟨ba x,[k]⟩ ⟨some (d,Jb ti.isAgg ((cs.drop off).take ti.n)),[]⟩:=by
 intro g2 hg
 have h1:=hg.ev (x:=x) (fun t h=>h)
 have h3:=(hg.p k (by simp)).trans hk
 refine wO.val rfl fun X ν a w hs=>?_
 have hv:=hs.ev x
 rw[h1,hx] at hv
 simp only[af] at hv
 obtain⟨_,b,hb,hv⟩:=hv
 obtain⟨b',vs,T,hb',hheap,hrep,hf0⟩:=hs.en k _ h3
 obtain rfl:b'=b:=by rw[hb'] at hb;simpa using hb
 have hvl:=hrep.length
 have hrep':=(hrep.drop off).take ti.n
 have hlen:((vs.drop off).take ti.n).length=ti.n:=by simp;omega
 have hc:dF w b' off ((vs.drop off).take ti.n):=by
  have h0:=(oc hheap).sub (us':=(vs.drop off).take ti.n) off (fun j u hu=>by
   rw[List.getElem?_take] at hu
   split at hu
   ·rw[List.getElem?_drop] at hu;exact hu
   ·cases hu)
  simpa using h0
 obtain⟨v,hr,hvv⟩:=jt (E.ok t ti ht) w b' off _ hlen hc
 refine⟨v,?_,pZ hrep' hvv⟩
 simp only[execOp,hv,Instr.loadAt,Instr.sureAddr,Sem.run_bind,Sem.run_pure,Result.andThen_ok,hr]
theorem CR(x:Operand)(t i off:Nat)(ti:TI)(xs:List (List D))(cells:List D)(ht:E.ti t=some ti)(hx:g.ev x= .cf xs i off)(hrow:row xs i=cells)(hl:off+ti.n≤cells.length) :
 dX E.P ⟨some d,.load t x,ty,pos,aft,gd⟩ g ⟨ba x,[]⟩ ⟨some (d,Jb ti.isAgg (((bn cells).drop off).take ti.n)),[]⟩:=by
 subst hrow
 refine jU rfl hx fun X ν g a w hs hv=>?_
 simp only[af] at hv
 obtain⟨b,o,cap,hr,hi,hv⟩:=hv
 rcases hr.nR with⟨h,_⟩|⟨us,b',off',cap',sz,heq,hok,hb,hcap,hmax,hB,hrr,hc⟩
 ·rw[h] at hi
  simp at hi
 ·obtain⟨⟨rfl,rfl⟩,rfl⟩:(b=b'∧o=off')∧cap=cap':=by simpa using heq
  obtain⟨u,hu,hul,hrl,hrep⟩:=Iv hrr hi ν g.at
  have hrep':=(hrep.drop off).take ti.n
  have hlen:((u.drop off).take ti.n).length=ti.n:=by simp;omega
  have hrl':(xs.getD i []).length=sz:=hrl
  rw[hrl'] at hv
  have hca:dF w b (o+(i*sz+off)) ((u.drop off).take ti.n):=hc.sub (i*sz+off) (fun j x hx=>by
   rw[List.getElem?_take] at hx
   split at hx
   ·rw[List.getElem?_drop] at hx
    have:=tK us i (off+j) u x hrr.hu hu hx
    rw[Nat.add_assoc];exact this
   ·cases hx)
  obtain⟨v,hrun,hvv⟩:=jt (E.ok t ti ht) w b _ _ hlen hca
  refine⟨v,?_,pZ hrep' hvv⟩
  simp only[execOp,hv,Instr.loadAt,Instr.sureAddr,Sem.run_bind,Sem.run_pure,Result.andThen_ok,hrun]
theorem jd{w:World}{e sz n:Nat}{b cap m:Nat}{us:List Value}{v:Value}(h:w.ownsRow 0 e sz v n us)(hv:v= .slice (some ⟨b,0,none⟩) m cap):dF w b 0 us:=by
 intro j u hu
 rcases h.2 with⟨h2,_⟩|⟨g,cap',cur,h2,_,h3,_,_,_,h4⟩
 ·rw[h2] at hv;cases hv
 ·rw[h2] at hv
  obtain⟨rfl,rfl,rfl⟩:g=b∧n=m∧cap'=cap:=by simpa using hv
  rw[←h4,List.getElem?_take] at hu
  split at hu
  ·simpa[World.cell?,h3] using hu
  ·cases hu
theorem Dw(x:Operand)(t k i off sz e:Nat)(ti ei:TI)(xs:List (List D))(cells:List D)(ht:E.ti t=some ti)(he:E.ti e=some ei)(hsz:sz=ei.n)(hx:g.ev x= .cC k i off sz)(hk:g.at k=some (.acc e xs))
 (hi:i<xs.length) (hrow:row xs i=cells) (hl:off+ti.n≤cells.length) :
 dX E.P ⟨some d,.load t x,ty,pos,aft,gd⟩ g ⟨ba x,[k]⟩ ⟨some (d,Jb ti.isAgg (((bn cells).drop off).take ti.n)),[]⟩:=by
 subst hrow
 intro g2 hg
 have h1:=hg.ev (x:=x) (fun t h=>h)
 have h3:=(hg.p k (by simp)).trans hk
 refine wO.val rfl fun X ν a w hs=>?_
 have hv:=hs.ev x
 rw[h1,hx] at hv
 simp only[af] at hv
 obtain⟨_,b,n,c,hb,hv⟩:=hv
 obtain⟨us,ho,hrr,_⟩:=hs.en k _ h3
 have hcell:=jd ho hb
 rw[(E.ok e ei he).cells] at hrr
 obtain⟨u,hu,hul,hrl,hrep⟩:=Iv hrr hi ν g2.at
 have hrep':=(hrep.drop off).take ti.n
 have hlen:((u.drop off).take ti.n).length=ti.n:=by simp;omega
 have hca:dF w b (i*ei.n+off) ((u.drop off).take ti.n):=by
  have h0:=hcell.sub (us':=(u.drop off).take ti.n) (i*ei.n+off) (fun j x hx=>by
   rw[List.getElem?_take] at hx
   split at hx
   ·rw[List.getElem?_drop] at hx
    have:=tK us i (off+j) u x hrr.hu hu hx
    rw[Nat.add_assoc];exact this
   ·cases hx)
  simpa using h0
 subst hsz
 obtain⟨v,hrun,hvv⟩:=jt (E.ok t ti ht) w b _ _ hlen hca
 refine⟨v,?_,pZ hrep' hvv⟩
 simp only[execOp,hv,Instr.loadAt,Instr.sureAddr,Sem.run_bind,Sem.run_pure,Result.andThen_ok,hrun]
theorem MV(t k:Nat)(ti:TI)(ht:E.ti t=some ti)(hk:g.at k=none) :
 dX E.P ⟨some d,.alloc t,ty,pos,aft,gd⟩ g ⟨[],[k]⟩ ⟨some (d,.ptr k 0),[(k,.box ti.zero)]⟩:=by
 intro g2 hg
 have h3:=(hg.p k (by simp)).trans hk
 intro X ν a w next Q hs hn
 obtain⟨i,z,h1,h2,h4,h5,h6,h7⟩:=(E.ok t ti ht).info
 have hr:(execOp a.eval ⟨some d,.alloc t,ty,pos,aft,gd⟩).run E.P w= .ok (.value (.pointer (some ⟨w.heap.size,0,none⟩))) (w.alloc (.cells z.cells t)):=by
  simp[execOp,Instr.alloc,zeroValue,typeInfo,h1,h5,newVar,newRow]
 unfold Oper.wp
 rw[hr,Oper.upon_value]
 refine hn _ _ _ (hs.oX (dx w _) k h3 (.box ti.zero) ⟨.pointer (some ⟨w.heap.size,0,none⟩),[]⟩ rfl ?_ d _ _ ?_ ?_)
 ·intro b hb
  obtain rfl:w.heap.size=b:=by simpa[Nm.has,oq] using hb
  exact Nat.le_refl _
 ·intro ok st ν' hν hw hm
  exact⟨w.heap.size,z.cells.toList,t,by rw[hν],by rw[kE],by rw[←h6];exact mW _ _ _ _ _,by rw[hν]⟩
 ·intro ok st ν' hν hst hw hm
  simp only[af]
  exact⟨by rw[hst];rfl,w.heap.size,by rw[hν],rfl⟩
theorem Qq(x:Operand)(t k:Nat)(hk:g.at k=none)(hp:(g.ev x).whole=true) :
 dX E.P ⟨some d,.box t x,ty,pos,aft,gd⟩ g ⟨ba x,[k]⟩ ⟨some (d,.ptr k 0),[(k,.box (bw (g.ev x)))]⟩:=by
 intro g2 hg
 have h1:=hg.ev (x:=x) (fun t h=>h)
 have h3:=(hg.p k (by simp)).trans hk
 intro X ν a w next Q hs hn
 have hv:=hs.ev x
 rw[h1] at hv
 have hr:(execOp a.eval ⟨some d,.box t x,ty,pos,aft,gd⟩).run E.P w= .ok (.value (.pointer (some ⟨w.heap.size,0,none⟩))) (w.alloc (.cells (a.eval x).cells t)):=by
  simp[execOp,Instr.box,newVar,newRow]
 unfold Oper.wp
 rw[hr,Oper.upon_value]
 refine hn _ _ _ (hs.oX (dx w _) k h3 (.box (bw (g.ev x))) ⟨.pointer (some ⟨w.heap.size,0,none⟩),[]⟩ rfl ?_ d _ _ ?_ ?_)
 ·intro b hb
  obtain rfl:w.heap.size=b:=by simpa[Nm.has,oq] using hb
  exact Nat.le_refl _
 ·intro ok st ν' hν hw hm
  refine⟨w.heap.size,(a.eval x).cells.toList,t,by rw[hν],by rw[kE],?_,by rw[hν]⟩
  exact ae.frame hw (dx w _).size hm _ _ (hv.cells hp hs.nu)
 ·intro ok st ν' hν hst hw hm
  simp only[af]
  exact⟨by rw[hst];rfl,w.heap.size,by rw[hν],rfl⟩
def rX(cs:List PV)(off:Nat)(vs:List PV):List PV:=cs.take off++(vs++cs.drop (off+vs.length))
theorem n8{t:TypeId}{ti:TI}(ht:TI.Ok E.P t ti)(w:World)(b off:Nat)(T:TypeId)(cur:Array Value)(v:Value)(hg:w.heap[b]?=some (.cells cur T (0,0)))(hv:v.cells.toList.length=ti.n)
 (hfit:off+ti.n≤cur.size) (h1:∀u∈v.cells.toList,u.oneCell'=true) :
 (storeVar t ⟨b,off,none⟩ v).run E.P w= .ok () (w.setRow b (cur.toList.take off++v.cells.toList++cur.toList.drop (off+v.cells.toList.length)).toArray):=by
 have hst:=run_storeCells_at E.P b off T v.cells.toList 0 cur w hg (by omega) h1
 simp only[Nat.add_zero] at hst
 have hsz:v.cells.size=ti.n:=by simpa using hv
 simp only[storeVar,Sem.run_bind,ht.size w,Result.andThen_ok,hsz,ne_eq,not_true_eq_false,if_false,hst]
theorem dW(w:World)(b:Nat)(cs:Array Value)(B:Nat→Prop)(hB:B b):kG B w (w.setRow b cs):=
 ⟨rfl,rfl,rfl,by simp[World.setRow],fun k _ hn=>setRow_other w b k cs (fun e=>hn (e▸hB))⟩
theorem CG(x y:Operand)(t k off:Nat)(ti:TI)(cs:List PV)(p:PV)(ht:E.ti t=some ti)(hx:g.ev x= .ptr k off)(hk:g.at k=some (.box cs))(hy:g.ev y=p)(hl:off+ti.n≤cs.length)
 (hp:p.whole=true) (hn:(bw p).length=ti.n) (h1:n9 (bw p)=true) :
 dX E.P ⟨dn,.store t x y,ty,pos,aft,gd⟩ g ⟨ba x++ba y++dn.toList,[k]⟩ ⟨dn.map fun d=>(d,.undef),[(k,.box (rX cs off (bw p)))]⟩:=by
 intro g2 hg
 have e1:=hg.ev (x:=x) (fun t h=>by simp[h])
 have e2:=hg.ev (x:=y) (fun t h=>by simp[h])
 have h3:=(hg.p k (by simp)).trans hk
 intro X ν a w next Q hs hnx
 have hv:=hs.ev x
 rw[e1,hx] at hv
 have hw:=hs.ev y
 rw[e2,hy] at hw
 simp only[af] at hv
 obtain⟨_,b,hb,hv⟩:=hv
 obtain⟨b',vs,T,hb',hheap,hrep,hf0⟩:=hs.en k _ h3
 obtain rfl:b'=b:=by rw[hb'] at hb;simpa using hb
 have hcells:=hw.cells hp hs.nu
 have hlen:=hcells.length
 have hvl:=hrep.length
 have hrun:=n8 (E.ok t ti ht) w b' off T ⟨vs⟩ (a.eval y) hheap (by rw[hlen,hn]) (by simpa[hvl] using hl) (hcells.n9 h1 hs.nu)
 have hr:(execOp a.eval ⟨dn,.store t x y,ty,pos,aft,gd⟩).run E.P w= .ok .skip (w.setRow b' (vs.take off++(a.eval y).cells.toList++vs.drop (off+(a.eval y).cells.toList.length)).toArray):=by
  simp only[execOp,hv,Instr.storeAt,Instr.sureAddr,Sem.run_bind,Sem.run_pure,Result.andThen_ok,hrun]
 unfold Oper.wp
 rw[hr,Oper.upon_skip]
 refine hnx _ _ _ (hs.uj k (.box cs) (.box (rX cs off (bw p))) h3 rfl (dW w b' _ _ ((dS hf0).2 (by rw[hb'];rfl))) dn .undef Go.undef ?_ ?_)
 ·intro hwf hm
  refine⟨b',_,T,hb',setRow_heap w b' _ _ T _ hheap,?_,hf0⟩
  refine ae.frame hwf (by simp[World.setRow]) hm _ _ ?_
  rw[List.append_assoc,hlen]
  exact(hrep.take off).append (hcells.append (hrep.drop _))
 ·intro _
  simp only[af]
end
end Go.Eng
namespace Go.Eng
open Go.RowKit
section
variable{E:Env}{g:G}{d:Nat}{ty:TypeId}{pos:String}{aft:Array Edge}{gd:Option (Nat×Bool)}{dn:Option Nat}
theorem ae.get{w:World}{ok:Nat→Prop}{ν:Nat→Nm}{st:Nat→Option En}:∀{ps:List PV}{vs:List Value}{n:Nat}{p:PV},ae w ok ν st ps vs→ps[n]?=some p→∃v,vs[n]?=some v∧af w ok ν st p v
 | [],[],n,p,_,hp=>by simp at hp
 | [],_::_,_,_,h,_=>by simp[ae] at h
 | _::_,[],_,_,h,_=>by simp[ae] at h
 | p::ps,v::vs,0,q,h,hq=>by
   simp only[ae] at h
   obtain rfl:p=q:=by simpa using hq
   exact⟨v,rfl,h.1⟩
 | p::ps,v::vs,n+1,q,h,hq=>by
   simp only[ae] at h
   obtain⟨u,h1,h2⟩:=ae.get (n:=n) h.2 (by simpa using hq)
   exact⟨u,by simpa using h1,h2⟩
theorem GK(x:Operand)(i:Nat)(ps:List PV)(p:PV)(hx:g.ev x= .eZ ps)(hp:ps[i]?=some p) :
 dX E.P ⟨some d,.extract x i,ty,pos,aft,gd⟩ g ⟨ba x,[]⟩ ⟨some (d,p),[]⟩:=
 jU rfl hx fun X ν g a w _ hv=>by
  simp only[af] at hv
  obtain⟨vs,hv,hr⟩:=hv
  obtain⟨v,h1,h2⟩:=hr.get hp
  refine⟨v,?_,h2⟩
  simp[execOp,hv,Instr.extract,h1]
theorem pz{t:TypeId}{ti:TI}(h:TI.Ok E.P t ti)(w:World)(cs:List Value)(off:Nat)(hl:off+ti.n≤cs.length) :
 ∃v,(part t ⟨cs⟩ off).run E.P w= .ok v w∧(if ti.isAgg then v= .agg ⟨(cs.drop off).take ti.n⟩ else(cs.drop off).take ti.n=[v]):=by
 by_cases ha:ti.isAgg=true
 ·refine⟨_,?_,by rw[if_pos ha]⟩
  simp only[part,Sem.run_bind,h.agg w,Result.andThen_ok,ha,if_true,h.size w]
  simp[List.drop_take]
 ·have ha':ti.isAgg=false:=by simpa using ha
  have h1:=h.one ha'
  have hlt:off<cs.length:=by omega
  refine⟨cs[off],?_,?_⟩
  ·simp only[part,Sem.run_bind,h.agg w,Result.andThen_ok,ha',Bool.false_eq_true,if_false]
   simp[hlt]
  ·rw[ha',h1]
   simp only[Bool.false_eq_true,if_false]
   rw[List.drop_eq_getElem_cons hlt]
   rfl
theorem LS(x:Operand)(s f:Nat)(si:TI)(fs:List (Nat×Nat×Nat))(ft fo fz:Nat)(fi:TI)(cs:List PV)(hs:E.ti s=some si)(hsy:si.ty= .struct fs)(hf:fs[f]?=some (ft,fo,fz))(hfi:E.ti ft=some fi)(hx:g.ev x= .agg cs)
 (hl:fo+fi.n≤cs.length) :
 dX E.P ⟨some d,.field s x f,ty,pos,aft,gd⟩ g ⟨ba x,[]⟩ ⟨some (d,Jb fi.isAgg ((cs.drop fo).take fi.n)),[]⟩:=
 jU rfl hx fun X ν g a w _ hv=>by
  simp only[af] at hv
  obtain⟨vs,hv,hr⟩:=hv
  have h:=(E.ok s si hs).ty
  rw[hsy] at h
  obtain⟨fields,hu,_,hfs⟩:=h
  obtain⟨fd,h1,h2,h3,h4,h5⟩:=hfs f ft fo fz hf
  obtain⟨v,hrun,hvv⟩:=pz (E.ok ft fi hfi) w vs fo (by rw[hr.length];exact hl)
  refine⟨v,?_,pZ ((hr.drop fo).take fi.n) hvv⟩
  simp only[execOp,hv,Instr.field,Sem.run_bind,run_underlying hu,Result.andThen_ok,h1,asAgg,Sem.run_pure,h2,h3,hrun]
theorem so{P:Program}{X:Cx}{ν:Nat→Nm}{g:G}{a:Act}{w:World}(h:Sat P X ν g a w):∀(xs:List Operand),ae w (aN X ν g.at) ν g.at (xs.map g.ev) (xs.map a.eval)
 | []=>by simp[ae]
 | x::xs=>by simp only[List.map_cons,ae];exact⟨h.ev x,so h xs⟩
theorem mX{R:Rd}{g g2:G}(h:sR R g g2):∀(xs:List Operand),(∀t∈xs.flatMap ba,t∈R.s)→xs.map g2.ev=xs.map g.ev
 | [],_=>rfl
 | x::xs,hx=>by
   simp only[List.map_cons]
   rw[h.ev (x:=x) (fun t ht=>hx t (by simp[ht])),mX h xs (fun t ht=>hx t (by simp only[List.flatMap_cons,List.mem_append];exact .inr ht))]
theorem E3(f:Nat)(cs:List Operand) :
 dX E.P ⟨some d,.makeFunc (.func f) #[] ⟨cs⟩,ty,pos,aft,gd⟩ g ⟨cs.flatMap ba,[]⟩ ⟨some (d,.fn f (cs.map g.ev)),[]⟩:=by
 intro g2 hg
 rw[←mX hg cs (fun t h=>h)]
 refine wO.val rfl fun X ν a w hs=>⟨.func (.func f) #[] ⟨cs.map a.eval⟩,by simp[execOp,Instr.makeFunc],?_⟩
 simp only[af]
 exact⟨_,rfl,so hs cs⟩
theorem wI(x:Operand)(k off:Nat)(hx:g.ev x= .ptr k off):dX E.P ⟨some d,.nilCheck x,ty,pos,aft,gd⟩ g ⟨ba x,[]⟩ ⟨some (d,.ptr k off),[]⟩:=
 jU rfl hx fun X ν g a w _ hv=>by
  have hv':=hv
  simp only[af] at hv
  obtain⟨_,b,_,hv⟩:=hv
  exact⟨a.eval x,by simp[execOp,hv],hv'⟩
theorem uE(x:Operand)(xs:List (List D))(i off:Nat)(hx:g.ev x= .cf xs i off):dX E.P ⟨some d,.nilCheck x,ty,pos,aft,gd⟩ g ⟨ba x,[]⟩ ⟨some (d,.cf xs i off),[]⟩:=
 jU rfl hx fun X ν g a w _ hv=>by
  have hv':=hv
  simp only[af] at hv
  obtain⟨b,o,cap,_,_,hv⟩:=hv
  exact⟨a.eval x,by simp[execOp,hv],hv'⟩
theorem uS(x:Operand)(k i off sz:Nat)(hx:g.ev x= .cC k i off sz):dX E.P ⟨some d,.nilCheck x,ty,pos,aft,gd⟩ g ⟨ba x,[]⟩ ⟨some (d,.cC k i off sz),[]⟩:=
 jU rfl hx fun X ν g a w _ hv=>by
  have hv':=hv
  simp only[af] at hv
  obtain⟨_,b,_,_,_,hv⟩:=hv
  exact⟨a.eval x,by simp[execOp,hv],hv'⟩
theorem run_len_slice{s:TypeId}{e:TypeId}(h:E.P.underlying s=some (.slice e))(a:Option Addr)(n c:Nat)(t:TypeId)(w:World):(Builtin.len_ #[s] t #[.slice a n c]).run E.P w= .ok (.int .i64 n) w:=by
 simp[Builtin.len_,run_underlying h,goInt]
theorem oy{o:Oper}{x:Operand}{s:TypeId}(ho:o.op= .call { callee:=.builtin .len,args:=#[x],argTypes:=#[s] })(a:Act)(w:World)(v:Value)(h:(Builtin.len_ #[s] o.type #[a.eval x]).run E.P w= .ok v w) :
 (execOp a.eval o).run E.P w= .ok (.value v) w:=by
 unfold execOp
 simp only[ho,resolve,invoke,builtin,Sem.run_bind,Sem.run_pure,Result.andThen_ok,List.map_toArray,List.map_cons,List.map_nil,h]
theorem Hs(x:Operand)(s:Nat)(si:TI)(e:Nat)(xs:List (List D))(hs:E.ti s=some si)(hsy:si.ty= .slice e)(hx:g.ev x= .d (.bx xs)) :
 dX E.P ⟨some d,.call ⟨.builtin .len,#[x],#[s]⟩,ty,pos,aft,gd⟩ g ⟨ba x,[]⟩ ⟨some (d,.d (.val (.int .i64 (xs.length:Int)))),[]⟩:=
 jU rfl hx fun X ν g a w _ hv=>by
  have hu:=(E.ok s si hs).ty
  rw[hsy] at hu
  simp only[af] at hv
  refine⟨_,oy rfl a w _ ?_,iz rfl⟩
  rcases hv.nR with⟨rfl,_,_,h,_⟩|⟨us,b,off,cap,sz,h,_⟩
  ·rw[h];exact run_len_slice hu _ _ _ _ _
  ·rw[h];exact run_len_slice hu _ _ _ _ _
theorem GF(x:Operand)(s:Nat)(si:TI)(e:Nat)(hs:E.ti s=some si)(hsy:si.ty= .slice e)(hx:g.ev x= .aK) :
 dX E.P ⟨some d,.call ⟨.builtin .len,#[x],#[s]⟩,ty,pos,aft,gd⟩ g ⟨ba x,[]⟩ ⟨some (d,.d (.val (.int .i64 0))),[]⟩:=
 jU rfl hx fun X ν g a w _ hv=>by
  have hu:=(E.ok s si hs).ty
  rw[hsy] at hu
  simp only[af] at hv
  exact⟨_,oy rfl a w _ (by rw[hv];exact run_len_slice hu _ _ _ _ _),iz rfl⟩
theorem KG{P:Program}{X:Cx}{ν:Nat→Nm}{g:G}{a:Act}{w:World}(h:Sat P X ν g a w){k e:Nat}{xs:List (List D)}(hk:g.at k=some (.acc e xs)) :
 ∃b c,(ν k).v= .slice b xs.length c:=by
 obtain⟨us,ho,_⟩:=h.en k _ hk
 rcases ho.2 with⟨h1,h2⟩|⟨b,cap,cur,h1,_⟩
 ·exact⟨none,0,by rw[h1,h2]⟩
 ·exact⟨_,cap,h1⟩
theorem HT(x:Operand)(s:Nat)(si:TI)(e' e k:Nat)(xs:List (List D))(hs:E.ti s=some si)(hsy:si.ty= .slice e')(hx:g.ev x= .acc k)(hk:g.at k=some (.acc e xs)) :
 dX E.P ⟨some d,.call ⟨.builtin .len,#[x],#[s]⟩,ty,pos,aft,gd⟩ g ⟨ba x,[k]⟩ ⟨some (d,.d (.val (.int .i64 (xs.length:Int)))),[]⟩:=by
 intro g2 hg
 have h1:=hg.ev (x:=x) (fun t h=>by simp[h])
 have h3:=(hg.p k (by simp)).trans hk
 refine wO.val rfl fun X ν a w hs'=>?_
 have hu:=(E.ok s si hs).ty
 rw[hsy] at hu
 have hv:=hs'.ev x
 rw[h1,hx] at hv
 simp only[af] at hv
 obtain⟨b,c,hb⟩:=KG hs' h3
 exact⟨_,oy rfl a w _ (by rw[hv.2,hb];exact run_len_slice hu _ _ _ _ _),iz rfl⟩
theorem size_mk(l:List UInt8):(⟨l.toArray⟩:ByteArray).size=l.length:=by
 show l.toArray.size=l.length
 simp
theorem Gq(x:Operand)(s:Nat)(si:TI)(l:List UInt8)(hs:E.ti s=some si)(hsy:si.ty= .str)(hx:g.ev x= .d (.str l)) :
 dX E.P ⟨some d,.call ⟨.builtin .len,#[x],#[s]⟩,ty,pos,aft,gd⟩ g ⟨ba x,[]⟩ ⟨some (d,.d (.val (.int .i64 (l.length:Int)))),[]⟩:=
 jU rfl hx fun X ν g a w _ hv=>by
  have hu:=(E.ok s si hs).ty
  rw[hsy] at hu
  have h1:=(nk hv).1
  exact⟨_,oy rfl a w _ (by rw[h1];simp[Builtin.len_,run_underlying hu,goInt,size_mk]),iz rfl⟩
theorem NU{o:Oper}{x y:Operand}{l m:List UInt8}{r:Value}(hd:o.dst=some d)(hx:g.ev x= .d (.str l))(hy:g.ev y= .d (.str m))(hr:r.oneCell'=true)
 (h:∀(a:Act)(w:World),a.eval x= .string ⟨l.toArray⟩→a.eval y= .string ⟨m.toArray⟩→(execOp a.eval o).run E.P w= .ok (.value r) w):dX E.P o g ⟨ba x++ba y,[]⟩ ⟨some (d,.d (.val r)),[]⟩:=
 zg hd hx hy fun X ν g a w _ hv hv2=>⟨r,h a w (nk hv).1 (nk hv2).1,iz hr⟩
def Sv:BinOp→List UInt8→List UInt8→Option Bool
 | .eql,l,m=>some (l == m)
 | .neq,l,m=>some (!(l == m))
 | .lss,l,m=>some (Op.bytesLess l m)
 | .leq,l,m=>some (Op.bytesLess l m||l == m)
 | .gtr,l,m=>some (!(Op.bytesLess l m||l == m))
 | .geq,l,m=>some (!Op.bytesLess l m)
 | _,_,_=>none
theorem toList_mk(l:List UInt8):(⟨l.toArray⟩:ByteArray).toList=l:=by
 rw[ByteArray.toList_eq]
theorem Ps(op:BinOp)(x y:Operand)(l m:List UInt8)(b:Bool)(t u:TypeId)(hx:g.ev x= .d (.str l))(hy:g.ev y= .d (.str m))(hb:Sv op l m=some b) :
 dX E.P ⟨some d,.binOp op t x y u,ty,pos,aft,gd⟩ g ⟨ba x++ba y,[]⟩ ⟨some (d,.d (.val (.bool b))),[]⟩:=
 NU rfl hx hy rfl fun a w h1 h2=>by
  cases op<;>simp only[Sv] at hb<;>first
   | (cases hb;done)
   | (obtain rfl:=Option.some.inj hb;simp[execOp,h1,h2,eqGuard,binOp,Op.stringOp,toList_mk])
theorem QE(x y:Operand)(l m:List UInt8)(t u:TypeId)(hx:g.ev x= .d (.str l))(hy:g.ev y= .d (.str m))(hl:l.length+m.length≤LB) :
 dX E.P ⟨some d,.binOp .add t x y u,ty,pos,aft,gd⟩ g ⟨ba x++ba y,[]⟩ ⟨some (d,.d (.str (l++m))),[]⟩:=
 zg rfl hx hy fun X ν g a w _ hv hv2=>by
  have h1:=(nk hv).1
  have h2:=(nk hv2).1
  refine⟨.string ⟨(l++m).toArray⟩,?_,by simp only[af];exact .str _ (by simpa using hl)⟩
  have hsz:¬ (((⟨l.toArray⟩:ByteArray).size+(⟨m.toArray⟩:ByteArray).size:Nat):Int)>IntKind.i64.max:=by
   rw[size_mk,size_mk]
   simp only[IntKind.max,IntKind.signed,IntKind.bits]
   unfold LB at hl
   omega
  have happ:(⟨l.toArray⟩:ByteArray)++(⟨m.toArray⟩:ByteArray)=⟨(l++m).toArray⟩:=by
   apply ByteArray.ext
   simp
  have hr:(Op.stringOp .add ⟨l.toArray⟩ ⟨m.toArray⟩).run E.P w= .ok (.string ⟨(l++m).toArray⟩) w:=by
   simp only[Op.stringOp]
   rw[if_neg hsz,happ]
   rfl
  simp only[execOp,h1,h2,eqGuard,binOp,Sem.run_bind]
  simp[hr]
end
end Go.Eng
namespace Go.Eng
open Go.RowKit
theorem PD{w:World}{ok:Nat→Prop}{ν:Nat→Nm}{st:Nat→Option En}{p:PV}{x:D}{v:Value}(h:af w ok ν st p v)(hx:Sb p=some x):cM w ok x v:=by
 cases p<;>simp only[Sb] at hx<;>first|(cases hx;done)|skip
 ·obtain rfl:=Option.some.inj hx
  simp only[af] at h
  subst h
  exact .nil
 ·obtain rfl:=Option.some.inj hx
  simpa only[af] using h
theorem pR{w:World}{ok:Nat→Prop}{ν:Nat→Nm}{st:Nat→Option En}:∀{ps:List PV}{xs:List D}{vs:List Value},ae w ok ν st ps vs→rS ps=some xs→ae w ok ν st (bn xs) vs
 | [],xs,[],_,h=>by simp[rS] at h;subst h;simp[bn,ae]
 | [],_,_::_,h,_=>by simp[ae] at h
 | _::_,_,[],h,_=>by simp[ae] at h
 | p::ps,xs,v::vs,h,hx=>by
   simp only[rS] at hx
   simp only[ae] at h
   split at hx
   ·rename_i x xs' h1 h2
    obtain rfl:=Option.some.inj hx
    simp only[bn,List.map_cons,ae,af]
    exact⟨PD h.1 h1,pR h.2 h2⟩
   ·cases hx
theorem sJ{w:World}{ok:Nat→Prop}{ν:Nat→Nm}{st:Nat→Option En}:∀{xs:List D}{vs:List Value},ae w ok ν st (bn xs) vs →
 vs.length=xs.length∧∀(j:Nat)(d:D)(v:Value),xs[j]?=some d→vs[j]?=some v→cM w ok d v
 | [],[],_=>⟨rfl,by simp⟩
 | [],_::_,h=>by simp[bn,ae] at h
 | _::_,[],h=>by simp[bn,ae] at h
 | x::xs,v::vs,h=>by
   simp only[bn,List.map_cons,ae,af] at h
   obtain⟨h1,h2⟩:=sJ (xs:=xs) h.2
   refine⟨by simp[h1],fun j d u hd hu=>?_⟩
   cases j with
   | zero=>
     obtain rfl:x=d:=by simpa using hd
     obtain rfl:v=u:=by simpa using hu
     exact h.1
   | succ j=>exact h2 j d u (by simpa using hd) (by simpa using hu)
theorem aL.nil(w:World)(ok:Nat→Prop)(sz:Nat):aL w ok sz [] []:=⟨rfl,by simp,by simp,by simp⟩
theorem aL.cons{w:World}{ok:Nat→Prop}{sz:Nat}{x:List D}{u:List Value}{xs:List (List D)}{us:List (List Value)}(h:aL w ok sz xs us)(hx:x.length=sz)(hu:u.length=sz)
 (hr:∀(j:Nat)(d:D)(v:Value),x[j]?=some d→u[j]?=some v→cM w ok d v):aL w ok sz (x::xs) (u::us):=by
 refine⟨by simp[h.len],fun i y hy=>?_,fun i y hy=>?_,fun i j y z d v h1 h2 h3 h4=>?_⟩
 ·cases i with
  | zero=>obtain rfl:x=y:=by simpa using hy
          exact hx
  | succ i=>exact h.hx i y (by simpa using hy)
 ·cases i with
  | zero=>obtain rfl:u=y:=by simpa using hy
          exact hu
  | succ i=>exact h.hu i y (by simpa using hy)
 ·cases i with
  | zero=>
    obtain rfl:x=y:=by simpa using h1
    obtain rfl:u=z:=by simpa using h2
    exact hr j d v h3 h4
  | succ i=>exact h.hr i j y z d v (by simpa using h1) (by simpa using h2) h3 h4
theorem aL.append{w:World}{ok:Nat→Prop}{sz:Nat}:∀{xs ys:List (List D)}{us vs:List (List Value)},aL w ok sz xs us→aL w ok sz ys vs→aL w ok sz (xs++ys) (us++vs)
 | [],_,[],_,_,h=>h
 | [],_,_::_,_,h,_=>by have:=h.len;simp at this
 | _::_,_,[],_,h,_=>by have:=h.len;simp at this
 | x::xs,ys,u::us,vs,h,h'=>by
   have h2:aL w ok sz xs us:=⟨by have:=h.len;simpa using this,fun i y hy=>h.hx (i+1) y (by simpa using hy),fun i y hy=>h.hu (i+1) y (by simpa using hy),
    fun i j a b c d h1 h2 h3 h4=>h.hr (i+1) j a b c d (by simpa using h1) (by simpa using h2) h3 h4⟩
   exact(aL.append h2 h').cons (h.hx 0 x rfl) (h.hu 0 u rfl) fun j d v h3 h4=>h.hr 0 j x u d v rfl rfl h3 h4
theorem aL.ew{w:World}{ok:Nat→Prop}{sz:Nat}:∀{xs:List (List D)}{us:List (List Value)},aL w ok sz xs us→us.flatten.length=xs.length*sz
 | [],[],_=>by simp
 | [],_::_,h=>by have:=h.len;simp at this
 | _::_,[],h=>by have:=h.len;simp at this
 | x::xs,u::us,h=>by
   have h2:aL w ok sz xs us:=⟨by have:=h.len;simpa using this,fun i y hy=>h.hx (i+1) y (by simpa using hy),fun i y hy=>h.hu (i+1) y (by simpa using hy),
    fun i j a b c d h1 h2 h3 h4=>h.hr (i+1) j a b c d (by simpa using h1) (by simpa using h2) h3 h4⟩
   rw[List.flatten_cons,List.length_append,aL.ew h2,h.hu 0 u rfl,List.length_cons,Nat.add_mul]
   omega
theorem aL.one{w:World}{ok:Nat→Prop}{sz:Nat}{xs:List (List D)}{us:List (List Value)}(h:aL w ok sz xs us):∀v∈us.flatten,v.oneCell'=true:=by
 intro v hv
 obtain⟨u,hu,hv⟩:=List.mem_flatten.1 hv
 obtain⟨i,hi,rfl⟩:=List.getElem_of_mem hu
 obtain⟨j,hj,rfl⟩:=List.getElem_of_mem hv
 have hi':i<xs.length:=by rw[←h.len];exact hi
 have hx:xs[i]?=some xs[i]:=List.getElem?_eq_getElem hi'
 have hu':us[i]?=some us[i]:=List.getElem?_eq_getElem hi
 have hj':j<(xs[i]).length:=by rw[h.hx i _ hx,←h.hu i _ hu'];exact hj
 exact(h.hr i j _ _ _ _ hx hu' (List.getElem?_eq_getElem hj') (List.getElem?_eq_getElem hj)).one
def qg(w:World)(v:Value)(us:List (List Value)):Prop:=
 ((∃a c,v= .slice a 0 c)∧us=[])∨∃b off c,v= .slice (some ⟨b,off,none⟩) us.length c∧dF w b off us.flatten
section
variable{E:Env}
theorem rF{t e:TypeId}{i:TypeInfo}(ht:E.P.underlying t=some (.slice e))(hi:E.P.info? e=some i)(w:World)(ty:TypeId)(b:Option Addr)(n c:Nat)(h:n≤c)(a:Option Addr)(c':Nat) :
 (Builtin.append_ #[t,t] ty #[.slice b n c,.slice a 0 c']).run E.P w= .ok (.slice b n c) w:=by
 cases b with
 | none=>cases a<;>simp[Builtin.append_,run_underlying ht,sizeOf,typeInfo,hi,Builtin.lenOf,Builtin.firstCells,h,loadCells,loadCellsFrom]
 | some b=>cases a<;>simp[Builtin.append_,run_underlying ht,sizeOf,typeInfo,hi,Builtin.lenOf,Builtin.firstCells,h,storeCells,loadCells,loadCellsFrom]
theorem BJ{P:Program}(w:World){e:TypeId}{i:TypeInfo}{z:Value}(hzs:z.cells.size=i.size)(n m old:Nat)(xs news:List Value)(hx:xs.length=n*i.size)(hl:news.length=m*i.size)(h63:n+m≤maxLen) :
 (w.drew.alloc (.cells (xs.toArray++news.toArray++Builtin.zeroCells z.cells (grownCap w (n+m) old e-(n+m))) e)).ownsRow 0 e i.size
  (.slice (some ⟨w.heap.size,0,none⟩) (n+m) (grownCap w (n+m) old e)) (n+m) (xs++news):=by
 have hge:=grownCap_ge w (n+m) old e
 have hcm:grownCap w (n+m) old e≤maxLen:=grownCap_le_maxLen w (n+m) old e h63
 have hlen:(xs++news).length=(n+m)*i.size:=by rw[List.length_append,hx,hl,Nat.add_mul]
 refine⟨hlen,.inr ⟨w.heap.size,_,_,rfl,Nat.zero_le _,heap_alloc_new w.drew _,hge,hcm,?_,?_⟩⟩
 ·simp only[Array.size_append,List.size_toArray,size_zeroCells,hzs,hx,hl,←Nat.add_mul]
  congr 1
  omega
 ·simp only[Array.toList_append,List.append_assoc]
  rw[←List.append_assoc,←hlen]
  exact List.take_left
theorem BP(w:World)(o:Obj)(B:Nat→Prop):kG B w (w.drew.alloc o):=
 ((tx w).mono fun _ h _=>h.elim).trans ((dx w.drew o).mono (B':=B) fun _ h _=>h.elim) (fun _ h _=>h)
theorem iC{t e:TypeId}{ti ei:TI}(ht:E.ti t=some ti)(hty:ti.ty= .slice e)(he:E.ti e=some ei)(w:World)(ty:TypeId)(v x:Value)(n:Nat)(us:List Value)(ys:List (List D))(vs:List (List Value))(ok:Nat→Prop)
 (hown:w.ownsRow 0 e ei.n v n us) (hrr:aL w ok ei.n ys vs) (hx:qg w x vs) (hlb:n+ys.length≤LB) (hby:(n+ys.length)*ei.bytes≤140737488355328) :
 ∃v' w',(Builtin.append_ #[t,t] ty #[v,x]).run E.P w= .ok v' w'∧w'.ownsRow 0 e ei.n v' (n+ys.length) (us++vs.flatten)∧kG (fun b=>oq v=some b) w w' ∧
  (∀b,oq v'=some b→oq v=some b∨w.heap.size≤b):=by
 have hu:=(E.ok t ti ht).ty
 rw[hty] at hu
 obtain⟨i,z,h1,h2,h3,h4,h5,h6⟩:=(E.ok e ei he).info
 have hpos:=(E.ok e ei he).pos
 rcases hx with⟨⟨xa,xc,rfl⟩,hvs⟩|⟨b,off,c,rfl,hc⟩
 ·subst hvs
  have hy:ys=[]:=List.eq_nil_of_length_eq_zero (by have:=hrr.len;simpa using this.symm)
  subst hy
  have hv:∃b c,v= .slice b n c∧n≤c:=by
   rcases hown.2 with⟨h7,h8⟩|⟨g,cap,cur,h7,_,_,h8,_⟩
   ·exact⟨none,0,by rw[h7,h8],by omega⟩
   ·exact⟨_,cap,h7,h8⟩
  obtain⟨b,c,hv,hnc⟩:=hv
  refine⟨v,w,?_,by simpa using hown,kG.refl _ w,fun b hb=>.inl hb⟩
  rw[hv]
  exact rF hu h1 w ty b n c hnc xa xc
 ·have hm:n+vs.length≤maxLen:=by rw[hrr.len];unfold LB at hlb;simp only[maxLen];omega
  rw[←hrr.len] at hby⊢
  have hl:vs.flatten.length=vs.length*i.size:=by rw[hrr.ew,hrr.len,h2]
  have hnews:∀j u,vs.flatten[j]?=some u→w.cell? ((⟨b,off,none⟩:Addr).add j)=some u:=fun j u hj=>by rw[add_lit];exact hc j u hj
  have hone:=hrr.one
  rw[←h3] at hby
  rw[←h2] at hown h6 hpos⊢
  have hsmall:n+vs.length≤9223372036854775807:=by simp only[maxLen] at hm;omega
  generalize vs.length=m at hl hm hby hsmall⊢
  generalize vs.flatten=news at hl hnews hone⊢
  rcases hown.2 with⟨rfl,rfl⟩|⟨gb,cap,cur,rfl,hbg,hg,hnc,hcm,hcs,htake⟩
  ·have hx:us=[]:=List.eq_nil_of_length_eq_zero (by simpa using hown.1)
   subst hx
   by_cases hm0:m=0
   ·subst hm0
    have hn:news=[]:=List.eq_nil_of_length_eq_zero (by simpa using hl)
    subst hn
    refine⟨.slice none 0 0,w,?_,World.ownsRow_nil w 0 e i.size,kG.refl _ w,fun b hb=>.inl hb⟩
    simp[Builtin.append_,run_underlying hu,sizeOf,typeInfo,h1,Builtin.lenOf,Builtin.firstCells,loadCells,loadCellsFrom]
   ·have hr:=run_append_nil (P:=E.P) w t ty e i z hu h1 h4 ⟨b,off,none⟩ m c news hl hnews (by omega) (by omega) (by have hb:=hby;simp only[Nat.zero_add] at hb;omega)
    have hgr:=BJ (P:=E.P) w (e:=e) h6 0 m 0 [] news (by simp) hl hm
    simp only[Nat.zero_add,List.nil_append,Array.empty_append] at hgr⊢
    refine⟨_,_,hr,hgr,BP w _ _,fun b hb=>.inr ?_⟩
    obtain rfl:w.heap.size=b:=by simpa[oq] using hb
    exact Nat.le_refl _
  ·have hlen:(us++news).length=(n+m)*i.size:=by rw[List.length_append,hown.1,hl,Nat.add_mul]
   by_cases hroom:n+m≤cap
   ·have hfit:n*i.size+news.length≤cur.size:=by rw[hl,hcs,←Nat.add_mul];exact Nat.mul_le_mul_right _ hroom
    have hr:=run_append_room (P:=E.P) w t ty e i hu h1 gb n cap cur hg ⟨b,off,none⟩ m c news hl hnews hone hroom hfit
    refine⟨_,_,hr,⟨hlen,.inr ⟨gb,cap,_,rfl,hbg,setRow_heap w gb cur _ e _ hg,hroom,hcm,?_,?_⟩⟩,dW w gb _ _ rfl,fun b hb=>.inl hb⟩
    ·simp only[List.size_toArray,List.length_append,List.length_take,List.length_drop,Array.length_toList]
     omega
    ·rw[htake,←hlen]
     exact List.take_left
   ·have holds:∀j u,us[j]?=some u→w.cell? ((⟨gb,0,none⟩:Addr).add j)=some u:=hown.cells (g:=gb) rfl
    have hr:=run_append_grow (P:=E.P) w t ty e i z hu h1 h4 ⟨gb,0,none⟩ n cap us hown.1 holds ⟨b,off,none⟩ m c news hl hnews (by omega) (by omega) (growslice_fits (by omega) hby)
    have hgr:=BJ (P:=E.P) w (e:=e) h6 n m cap us news hown.1 hl hm
    refine⟨_,_,hr,hgr,BP w _ _,fun b hb=>.inr ?_⟩
    obtain rfl:w.heap.size=b:=by simpa[oq] using hb
    exact Nat.le_refl _
end
end Go.Eng
