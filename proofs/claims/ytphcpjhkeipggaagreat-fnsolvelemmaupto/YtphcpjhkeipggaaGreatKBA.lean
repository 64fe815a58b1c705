/-
  The symbolic layer, first text: data by value, what a slot and an owned block hold, and how a real world fits them. No program is named here.
-/
import Derived.WalkKit
import Derived.Laws.AppendOwn
import Derived.Below
import GoSem.Claims
import Derived.ChangeKeysEq
import Derived.IntWalk
import Derived.WalkSpells
import Derived.Laws.MakeOwn
import Derived.Laws.OwnMore
import Derived.Laws.Tables
set_option linter.unusedVariables false
set_option linter.unusedSimpArgs false
open Bool renaming false_eq_true→au
open List renaming getElem?_eq_getElem→af,mem_append→aO,length_append→aP,map_cons→aV,append_assoc→bC,eq_nil_of_length_eq_zero→bR,getD→ct,getElem?_take→dR,getElem?_drop→eV,flatten_cons→fw,size_toArray→fx
open Nat renaming le_refl→aK,zero_le→bo,lt_or_ge→cz,add_mul→dx,zero_add→eu,le_trans→fv,add_zero→jw,lt_of_lt_of_le→jV,add_assoc→ki
namespace Go.Eng
theorem oM{p:Prop}(h:p:=by omega):p:=h
open Go.RowKit
def LB:Nat:=1099511627776
theorem qq:LB=1099511627776:=rfl
inductive D where
 | val(v:Value)
 | str(s:List UInt8)
 | eC(xs:List (List D))
inductive T where
 | fM(d:D)
 | ref(j:Nat)
 | own(e:TypeId)(xs:List (List T))
structure Nm where
 v:Value
 f:List Nat
inductive PV where
 | any
 | undef
 | bW
 | d(x:D)
 | agg(cs:List PV)
 | iZ(cs:List PV)
 | bA(k off:Nat)
 | aX(k:Nat)
 | jg(k i off sz:Nat)
 | ib(xs:List (List D))(i off:Nat)
 | fn(f:Nat)(cap:List PV)
inductive En where
 | box(cs:List PV)
 | aX(e:TypeId)(xs:List (List D))
 | gD(e:TypeId)(xs:List (List T))
 | map(wu:List (Int×Value))
 | dead
structure G where
 sl:List PV
 st:List (Option En)
def lU(w:World)(b off:Nat)(us:List Value):Prop:=∀j u,us[j]?=some u→w.cell? ⟨b,off+j,none⟩=some u
inductive jD(w:World)(ok:Nat→Prop):D→Value→Prop where
 | val(v:Value)(h:v.oneCell'=true):jD w ok (.val v) v
 | str(l:List UInt8)(h:l.length≤LB):jD w ok (.str l) (.string ⟨l.toArray⟩)
 | nil:jD w ok (.eC []) (.slice none 0 0)
 | emp(a:Addr)(c:Nat)(h:c≤maxLen):jD w ok (.eC []) (.slice (some a) 0 c)
 | eC(xs:List (List D))(us:List (List Value))(b off cap sz:Nat)(fy:ok b)(hb:b<w.heap.size)(lF:xs.length≤cap)(hmax:cap≤maxLen)(hB:xs.length≤LB)
  (hl:us.length=xs.length) (hx:∀(i:Nat)(x:List D),xs[i]?=some x→x.length=sz) (hu:∀(i:Nat)(u:List Value),us[i]?=some u→u.length=sz)
  (hc:lU w b off us.flatten)
  (hr:∀(i j:Nat)(x:List D)(u:List Value)(d:D)(v:Value),xs[i]?=some x→us[i]?=some u→x[j]?=some d→u[j]?=some v→jD w ok d v) :
  jD w ok (.eC xs) (.slice (some ⟨b,off,none⟩) xs.length cap)
theorem lU.frame{w w':World}{b off:Nat}{us:List Value}(h:lU w b off us)(hw:w'.heap[b]?=w.heap[b]?):lU w' b off us:=
 fun j u hu=>(World.cell?_of_block (w:=w) (a:=⟨b,off+j,none⟩) hw).trans (h j u hu)
theorem jD.frame{w w':World}{ok ok':Nat→Prop}{d:D}{v:Value}(h:jD w ok d v)
 (hw:∀b,ok b→b<w.heap.size→ok' b∧w'.heap[b]?=w.heap[b]?) (hs:w.heap.size≤w'.heap.size):jD w' ok' d v:=by
 induction h with
 | val v h=>exact .val v h
 | str l h=>exact .str l h
 | nil=>exact .nil
 | emp a c h=>exact .emp a c h
 | eC xs us b off cap sz fy hb lF hmax hB hl hx hu hc hr ih=>exact .eC xs us b off cap sz (hw b fy hb).1 (jV hb hs) lF hmax hB hl hx hu (hc.frame (hw b fy hb).2) ih
theorem jD.one{w:World}{ok:Nat→Prop}{d:D}{v:Value}(h:jD w ok d v):v.oneCell'=true:=by
 cases h with
 | val v h=>exact h
 | str l h=>rfl
 | nil=>rfl
 | emp a c h=>rfl
 | eC xs us b off cap sz fy hb lF hmax hB hl hx hu hc hr=>rfl
theorem jD.Jx{w:World}{ok:Nat→Prop}{l:List UInt8}{v:Value}(h:jD w ok (.str l) v):v= .string ⟨l.toArray⟩∧l.length≤LB:=by
 cases h with
 | str l h=>exact⟨rfl,h⟩
theorem jD.Ju{w:World}{ok:Nat→Prop}{u v:Value}(h:jD w ok (.val u) v):v=u:=by
 cases h with
 | val l h=>rfl
mutual
def aJ(w:World)(ok:Nat→Prop)(ν:Nat→Nm)(st:Nat→Option En):PV→Value→Prop
 | .any,_=>True
 | .undef,v=>v=Go.undef
 | .bW,v=>v= .slice none 0 0
 | .d x,v=>jD w ok x v
 | .agg cs,v=>∃vs,v= .agg ⟨vs⟩∧aH w ok ν st cs vs
 | .iZ cs,v=>∃vs,v= .tuple ⟨vs⟩∧aH w ok ν st cs vs
 | .bA k off,v=>(st k).isSome=true∧∃b,(ν k).v= .pointer (some ⟨b,0,none⟩)∧v= .pointer (some ⟨b,off,none⟩)
 | .aX k,v=>(st k).isSome=true∧v=(ν k).v
 | .jg k i off sz,v=>(st k).isSome=true∧∃b n c,(ν k).v= .slice (some ⟨b,0,none⟩) n c∧v= .pointer (some ⟨b,i*sz+off,none⟩)
 | .ib xs i off,v=>∃b o cap,jD w ok (.eC xs) (.slice (some ⟨b,o,none⟩) xs.length cap)∧i<xs.length∧v= .pointer (some ⟨b,o+(i*(xs.getD i []).length+off),none⟩)
 | .fn f cap,v=>∃vs,v= .func (.func f) #[] ⟨vs⟩∧aH w ok ν st cap vs
def aH(w:World)(ok:Nat→Prop)(ν:Nat→Nm)(st:Nat→Option En):List PV→List Value→Prop
 | [],[]=>True
 | p::ps,v::vs=>aJ w ok ν st p v∧aH w ok ν st ps vs
 | _,_=>False
end
end Go.Eng
namespace Go.Eng
open Go.RowKit
def nth:List PV→Nat→PV
 | [],_=>.any
 | a::_,0=>a
 | _::as,n+1=>nth as n
def n8:List PV→Nat→PV→List PV
 | [],_,_=>[]
 | _::as,0,v=>v::as
 | a::as,n+1,v=>a::n8 as n v
def dV:List (Option En)→Nat→Option En
 | [],_=>none
 | a::_,0=>a
 | _::as,n+1=>dV as n
def dW:List (Option En)→Nat→Option En→List (Option En)
 | [],0,v=>[v]
 | [],n+1,v=>none::dW [] n v
 | _::as,0,v=>v::as
 | a::as,n+1,v=>a::dW as n v
theorem lq:∀(l:List PV)(n:Nat)(v:PV),(n8 l n v).length=l.length
 | [],_,_=>rfl
 | _::_,0,_=>rfl
 | _::as,n+1,v=>by simp[n8,lq as n v]
theorem pM:∀(l:List PV)(n:Nat)(v:PV)(t:Nat),nth (n8 l n v) t=if t=n∧n<l.length then v else nth l t
 | [],n,v,t=>by cases t<;>simp[n8,nth]
 | a::as,0,v,t=>by cases t<;>simp[n8,nth]
 | a::as,n+1,v,t=>by
  cases t with
  | zero=>simp[n8,nth]
  | succ t=>simp[n8,nth,pM as n v t]
theorem iT:∀(l:List (Option En))(n:Nat)(v:Option En)(t:Nat),dV (dW l n v) t=if t=n then v else dV l t
 | [],0,v,t=>by cases t<;>simp[dW,dV]
 | [],n+1,v,t=>by
  cases t with
  | zero=>simp[dW,dV]
  | succ t=>simp[dW,dV,iT [] n v t]
 | a::as,0,v,t=>by cases t<;>simp[dW,dV]
 | a::as,n+1,v,t=>by
  cases t with
  | zero=>simp[dW,dV]
  | succ t=>simp[dW,dV,iT as n v t]
def G.at(g:G)(k:Nat):Option En:=dV g.st k
def En.live:En→Bool
 | .dead=>false
 | _=>true
def zV:Value→Option Nat
 | .pointer (some a)=>some a.block
 | .slice (some a) _ _=>some a.block
 | .map (some r)=>some r
 | _=>none
def Nm.has(n:Nm)(b:Nat):Prop:=zV n.v=some b∨b∈n.f
def hb(v:Value):List Nat:=match zV v with|some b=>[b]|none=>[]
theorem Gu{v:Value}{b:Nat}:b∈hb v↔zV v=some b:=by
 unfold hb;cases zV v with
 | none=>simp
 | some c=>simp[eq_comm]
def Own(ν:Nat→Nm)(st:Nat→Option En)(b:Nat):Prop:=∃k e,st k=some e∧e.live=true∧(ν k).has b
structure Cx where
 w0:World
 O0:Nat→Prop
 ν0:Nat→Nm
 st0:Nat→Option En
 Z:Nat→Prop
def dk(X:Cx)(ν:Nat→Nm)(st:Nat→Option En)(b:Nat):Prop:=¬Own ν st b∧¬X.Z b
structure de(w:World)(ok:Nat→Prop)(sz:Nat)(xs:List (List D))(us:List (List Value)):Prop where
 len:us.length=xs.length
 hx:∀(i:Nat)(x:List D),xs[i]?=some x→x.length=sz
 hu:∀(i:Nat)(u:List Value),us[i]?=some u→u.length=sz
 hr:∀(i j:Nat)(x:List D)(u:List Value)(d:D)(v:Value),xs[i]?=some x→us[i]?=some u→x[j]?=some d→u[j]?=some v→jD w ok d v
mutual
def mD(P:Program)(w:World)(ok:Nat→Prop)(ν:Nat→Nm)(st:Nat→Option En):T→Value→List Nat→Prop
 | .fM d,v,F=>jD w ok d v∧F=[]
 | .ref j,v,F=>(st j).isSome=true∧v=(ν j).v∧F=[]
 | .own e xs,v,F=>∃us F1,w.ownsRow 0 e (P.cellsOf e) v xs.length us.flatten∧(∀(i:Nat)(u:List Value),us[i]?=some u→u.length=P.cellsOf e)∧bP P w ok ν st xs us F1∧xs.length≤LB∧F=hb v++F1
def bq(P:Program)(w:World)(ok:Nat→Prop)(ν:Nat→Nm)(st:Nat→Option En):List T→List Value→List Nat→Prop
 | [],[],F=>F=[]
 | t::ts,v::vs,F=>∃F1 F2,mD P w ok ν st t v F1∧bq P w ok ν st ts vs F2∧F=F1++F2
 | _,_,_=>False
def bP(P:Program)(w:World)(ok:Nat→Prop)(ν:Nat→Nm)(st:Nat→Option En):List (List T)→List (List Value)→List Nat→Prop
 | [],[],F=>F=[]
 | x::xs,u::us,F=>∃F1 F2,bq P w ok ν st x u F1∧bP P w ok ν st xs us F2∧F=F1++F2
 | _,_,_=>False
end
def pvV:Value→PV
 | .agg cs=>.agg (cs.toList.map fun v=>.d (.val v))
 | v=>.d (.val v)
def okV:Value→Bool
 | .agg cs=>cs.toList.all fun v=>v.oneCell'
 | v=>v.oneCell'
def BU(es:List MapEntry):List (Value×Value):=es.map fun e=>(e.key,e.val)
def BD(wu:List (Int×Value)):List (Value×Value):=wu.map fun p=>(.int .i64 p.1,p.2)
def mS(P:Program)(w:World)(ok:Nat→Prop)(ν:Nat→Nm)(st:Nat→Option En)(k:Nat):En→Prop
 | .dead=>True
 | .box cs=>∃b vs T,(ν k).v= .pointer (some ⟨b,0,none⟩)∧w.heap[b]?=some (.cells ⟨vs⟩ T (0,0))∧aH w ok ν st cs vs∧(ν k).f=[]
 | .aX e xs=>∃us:List (List Value),w.ownsRow 0 e (P.cellsOf e) (ν k).v xs.length us.flatten∧de w ok (P.cellsOf e) xs us∧xs.length≤LB∧(ν k).f=[]
 | .gD e xs=>mD P w ok ν st (.own e xs) (ν k).v (hb (ν k).v++(ν k).f)∧(hb (ν k).v++(ν k).f).Nodup
 | .map wu=>∃r es clock,(ν k).v= .map (some r)∧w.heap[r]?=some (.map es clock)∧BU es.toList=BD wu∧(∀p∈wu,okV p.2=true)∧(ν k).f=[]
structure vg(B:Nat→Prop)(w w':World):Prop where
 os:w'.os=w.os
 tape:w'.tape=w.tape
 output:w'.output=w.output
 size:w.heap.size≤w'.heap.size
 block:∀k,k<w.heap.size→¬B k→w'.heap[k]?=w.heap[k]?
theorem vg.refl(B:Nat→Prop)(w:World):vg B w w:=⟨rfl,rfl,rfl,aK _,fun _ _ _=>rfl⟩
theorem vg.trans{B B':Nat→Prop}{a b c:World}(h:vg B a b)(h':vg B' b c)(hb:∀k,B' k→k<a.heap.size→B k):vg B a c:=
 ⟨h'.os.trans h.os,h'.tape.trans h.tape,h'.output.trans h.output,fv h.size h'.size,
  fun k hk hn=>(h'.block k (jV hk h.size) (fun hB=>hn (hb k hB hk))).trans (h.block k hk hn)⟩
theorem vg.mono{B B':Nat→Prop}{a b:World}(h:vg B a b)(hb:∀k,B k→k<a.heap.size→B' k):vg B' a b:=
 ⟨h.os,h.tape,h.output,h.size,fun k hk hn=>h.block k hk (fun hB=>hn (hb k hB hk))⟩
def Rs : String := "internal/strconv.uint64pow10"
def acB:Array Value:=((List.range 20).map fun i=>Value.int .u64 ((10 ^ i:Nat):Int)).toArray
def Kt(P:Program)(X:Cx):Prop:=∀g,P.globalNamed Rs=some g→¬X.O0 g∧g<X.w0.heap.size∧X.w0.var? P Rs=some acB
theorem aej{P:Program}{X:Cx}(h:P.globalNamed Rs=none):Kt P X:=fun g hg=>by rw[h] at hg;cases hg
structure Zl(P:Program)(X:Cx):Prop where
 z:∀b,X.Z b→b<X.w0.heap.size∧¬X.O0 b
 k:Kt P X
instance{P:Program}{X:Cx}:CoeFun (Zl P X) (fun _=>∀b,X.Z b→b<X.w0.heap.size∧¬X.O0 b):=⟨Zl.z⟩
structure Sat(P:Program)(X:Cx)(ν:Nat→Nm)(g:G)(a:Act)(w:World):Prop where
 size:a.tmps.size=g.sl.length
 sl:∀t,aJ w (dk X ν g.at) ν g.at (nth g.sl t) (a.tmps.getD t Go.undef)
 en:∀k e,g.at k=some e→mS P w (dk X ν g.at) ν g.at k e
 inj:∀k k' e e' b,g.at k=some e→g.at k'=some e'→e.live=true→e'.live=true→(ν k).has b→(ν k').has b→k=k'
 base:∀b,Own ν g.at b→X.O0 b∨X.w0.heap.size≤b
 nu:∀k,(g.at k).isSome=true→(ν k).v.oneCell'=true
 par:∀k,(X.st0 k).isSome=true→(ν k).v=(X.ν0 k).v∧(g.at k).isSome=true
 Jy:Zl P X
 Da:vg X.O0 X.w0 w
 defs:a.defers=[]
theorem Sat.PG{P:Program}{X:Cx}{ν:Nat→Nm}{g:G}{a:Act}{w:World}(h:Sat P X ν g a w){b:Nat}(hb:Own ν g.at b):¬X.Z b:=fun hz=>
 (h.base b hb).elim (h.Jy b hz).2 (fun hge=>by have:=(h.Jy b hz).1;omega)
theorem Sat.kt{P:Program}{X X':Cx}{ν:Nat→Nm}{g:G}{a:Act}{w:World}(h:Sat P X ν g a w)(hw:X'.w0=w)(ho:∀b,X'.O0 b→Own ν g.at b):Kt P X':=fun t ht=>by obtain⟨k1,k2,k3⟩:=h.Jy.k t ht;have hb:=h.Da.block t k2 k1;refine⟨fun hx=>?_,by rw[hw];exact jV k2 h.Da.size,?_⟩;rcases h.base t (ho t hx) with h1|h1;exact k1 h1;omega;rw[hw,←k3];simp only[World.var?,ht,Option.bind_some,hb]
def nH(st st':Nat→Option En)(ν ν':Nat→Nm):Prop:=∀k,(st k).isSome=true→(ν' k).v=(ν k).v∧(st' k).isSome=true
theorem nH.refl(st:Nat→Option En)(ν:Nat→Nm):nH st st ν ν:=fun _ h=>⟨rfl,h⟩
section
variable{w w':World}{ok ok':Nat→Prop}{ν ν':Nat→Nm}{st st':Nat→Option En}
mutual
theorem aJ.frame(hw:∀b,ok b→b<w.heap.size→ok' b∧w'.heap[b]?=w.heap[b]?)(hs:w.heap.size≤w'.heap.size)(hm:nH st st' ν ν') :
 ∀(p:PV)(v:Value),aJ w ok ν st p v→aJ w' ok' ν' st' p v
 | .any,_,_=>by simp[aJ]
 | .undef,_,h=>by simpa[aJ] using h
 | .bW,_,h=>by simpa[aJ] using h
 | .d x,v,h=>by simp only[aJ] at h⊢;exact h.frame hw hs
 | .agg cs,v,h=>by simp only[aJ] at h⊢;obtain⟨vs,rfl,h⟩:=h;exact⟨vs,rfl,aH.frame hw hs hm cs vs h⟩
 | .iZ cs,v,h=>by simp only[aJ] at h⊢;obtain⟨vs,rfl,h⟩:=h;exact⟨vs,rfl,aH.frame hw hs hm cs vs h⟩
 | .bA k off,v,h=>by simp only[aJ] at h⊢;rw[(hm k h.1).1];exact⟨(hm k h.1).2,h.2⟩
 | .aX k,v,h=>by simp only[aJ] at h⊢;rw[(hm k h.1).1];exact⟨(hm k h.1).2,h.2⟩
 | .jg k i off sz,v,h=>by simp only[aJ] at h⊢;rw[(hm k h.1).1];exact⟨(hm k h.1).2,h.2⟩
 | .ib xs i off,v,h=>by simp only[aJ] at h⊢;obtain⟨b,o,cap,h1,h2,h3⟩:=h;exact⟨b,o,cap,h1.frame hw hs,h2,h3⟩
 | .fn f cap,v,h=>by simp only[aJ] at h⊢;obtain⟨vs,rfl,h⟩:=h;exact⟨vs,rfl,aH.frame hw hs hm cap vs h⟩
theorem aH.frame(hw:∀b,ok b→b<w.heap.size→ok' b∧w'.heap[b]?=w.heap[b]?)(hs:w.heap.size≤w'.heap.size)(hm:nH st st' ν ν') :
 ∀(ps:List PV)(vs:List Value),aH w ok ν st ps vs→aH w' ok' ν' st' ps vs
 | [],[],_=>by simp[aH]
 | [],_::_,h=>by simp[aH] at h
 | _::_,[],h=>by simp[aH] at h
 | p::ps,v::vs,h=>by simp only[aH] at h⊢;exact⟨aJ.frame hw hs hm p v h.1,aH.frame hw hs hm ps vs h.2⟩
end
end
theorem de.frame{w w':World}{ok ok':Nat→Prop}{sz:Nat}{xs:List (List D)}{us:List (List Value)}(h:de w ok sz xs us)
 (hw:∀b,ok b→b<w.heap.size→ok' b∧w'.heap[b]?=w.heap[b]?) (hs:w.heap.size≤w'.heap.size):de w' ok' sz xs us:=
 ⟨h.len,h.hx,h.hu,fun i j x u d v h1 h2 h3 h4=>(h.hr i j x u d v h1 h2 h3 h4).frame hw hs⟩
theorem sN{w:World}{b:Nat}{o:Obj}(h:w.heap[b]?=some o):b<w.heap.size:=by rcases cz b w.heap.size with h' | h';exact h';rw[Array.getElem?_eq_none h'] at h;cases h
theorem mi{n:Nm}{b:Nat}(h:n.f=[]):n.has b↔zV n.v=some b:=by simp[Nm.has,h]
theorem qJ{n:Nm}{b:Nat}:n.has b↔b∈hb n.v++n.f:=by rw[aO,Gu];exact Iff.rfl
theorem Mr{w:World}{e sz n b:Nat}{v:Value}{us:List Value}(h:w.ownsRow 0 e sz v n us)(hb:zV v=some b):b<w.heap.size:=by
 rcases h.2 with⟨h2,_⟩|⟨g,cap,cur,h2,_,h3,_⟩;rw[h2] at hb;simp[zV] at hb;rw[h2] at hb;obtain rfl:g=b:=by simpa[zV] using hb
 exact sN h3
theorem Cv{w w':World}{e sz n:Nat}{v:Value}{us:List Value}(h:w.ownsRow 0 e sz v n us)(hb:∀b,zV v=some b→w'.heap[b]?=w.heap[b]?):w'.ownsRow 0 e sz v n us:=by refine⟨h.1,?_⟩;rcases h.2 with⟨h4,h5⟩|⟨b,cap,cur,h4,h5,h6,h7⟩;exact .inl ⟨h4,h5⟩;exact .inr ⟨b,cap,cur,h4,h5,(hb b (by rw[h4];rfl)).trans h6,h7⟩
section
variable{P:Program}{w w':World}{ok ok':Nat→Prop}{ν ν':Nat→Nm}{st st':Nat→Option En}
mutual
theorem mD.lt:∀(t:T)(v:Value)(F:List Nat),mD P w ok ν st t v F→∀b∈F,b<w.heap.size
 | .fM d,v,F,h,b,hm=>by simp only[mD] at h;rw[h.2] at hm;cases hm
 | .ref j,v,F,h,b,hm=>by simp only[mD] at h;rw[h.2.2] at hm;cases hm
 | .own e xs,v,F,h,b,hm=>by simp only[mD] at h;obtain⟨us,F1,h1,_,h2,_,rfl⟩:=h;rcases aO.1 hm with hm|hm;exact Mr h1 (Gu.1 hm);exact bP.lt xs us F1 h2 b hm
theorem bq.lt:∀(ts:List T)(vs:List Value)(F:List Nat),bq P w ok ν st ts vs F→∀b∈F,b<w.heap.size
 | [],[],F,h,b,hm=>by simp only[bq] at h;rw[h] at hm;cases hm
 | [],_::_,F,h,b,hm=>by simp[bq] at h
 | _::_,[],F,h,b,hm=>by simp[bq] at h
 | t::ts,v::vs,F,h,b,hm=>by simp only[bq] at h;obtain⟨F1,F2,h1,h2,rfl⟩:=h;rcases aO.1 hm with hm|hm;exact mD.lt t v F1 h1 b hm;exact bq.lt ts vs F2 h2 b hm
theorem bP.lt:∀(xs:List (List T))(us:List (List Value))(F:List Nat),bP P w ok ν st xs us F→∀b∈F,b<w.heap.size
 | [],[],F,h,b,hm=>by simp only[bP] at h;rw[h] at hm;cases hm
 | [],_::_,F,h,b,hm=>by simp[bP] at h
 | _::_,[],F,h,b,hm=>by simp[bP] at h
 | x::xs,u::us,F,h,b,hm=>by simp only[bP] at h;obtain⟨F1,F2,h1,h2,rfl⟩:=h;rcases aO.1 hm with hm|hm;exact bq.lt x u F1 h1 b hm;exact bP.lt xs us F2 h2 b hm
end
mutual
theorem mD.frame(hw:∀b,ok b→b<w.heap.size→ok' b∧w'.heap[b]?=w.heap[b]?)(hs:w.heap.size≤w'.heap.size)(hm:nH st st' ν ν') :
 ∀(t:T)(v:Value)(F:List Nat),mD P w ok ν st t v F→(∀b∈F,w'.heap[b]?=w.heap[b]?)→mD P w' ok' ν' st' t v F
 | .fM d,v,F,h,_=>by simp only[mD] at h⊢;exact⟨h.1.frame hw hs,h.2⟩
 | .ref j,v,F,h,_=>by simp only[mD] at h⊢;exact⟨(hm j h.1).2,by rw[h.2.1,(hm j h.1).1],h.2.2⟩
 | .own e xs,v,F,h,hF=>by simp only[mD] at h⊢;obtain⟨us,F1,h1,h2,h3,h4,rfl⟩:=h;exact⟨us,F1,Cv h1 fun b hb=>hF b (aO.2 (.inl (Gu.2 hb))),h2,bP.frame hw hs hm xs us F1 h3 fun b hb=>hF b (aO.2 (.inr hb)),h4,rfl⟩
theorem bq.frame(hw:∀b,ok b→b<w.heap.size→ok' b∧w'.heap[b]?=w.heap[b]?)(hs:w.heap.size≤w'.heap.size)(hm:nH st st' ν ν') :
 ∀(ts:List T)(vs:List Value)(F:List Nat),bq P w ok ν st ts vs F→(∀b∈F,w'.heap[b]?=w.heap[b]?)→bq P w' ok' ν' st' ts vs F
 | [],[],F,h,_=>by simpa only[bq] using h
 | [],_::_,F,h,_=>by simp[bq] at h
 | _::_,[],F,h,_=>by simp[bq] at h
 | t::ts,v::vs,F,h,hF=>by simp only[bq] at h⊢;obtain⟨F1,F2,h1,h2,rfl⟩:=h;exact⟨F1,F2,mD.frame hw hs hm t v F1 h1 fun b hb=>hF b (aO.2 (.inl hb)),bq.frame hw hs hm ts vs F2 h2 fun b hb=>hF b (aO.2 (.inr hb)),rfl⟩
theorem bP.frame(hw:∀b,ok b→b<w.heap.size→ok' b∧w'.heap[b]?=w.heap[b]?)(hs:w.heap.size≤w'.heap.size)(hm:nH st st' ν ν') :
 ∀(xs:List (List T))(us:List (List Value))(F:List Nat),bP P w ok ν st xs us F→(∀b∈F,w'.heap[b]?=w.heap[b]?)→bP P w' ok' ν' st' xs us F
 | [],[],F,h,_=>by simpa only[bP] using h
 | [],_::_,F,h,_=>by simp[bP] at h
 | _::_,[],F,h,_=>by simp[bP] at h
 | x::xs,u::us,F,h,hF=>by simp only[bP] at h⊢;obtain⟨F1,F2,h1,h2,rfl⟩:=h;exact⟨F1,F2,bq.frame hw hs hm x u F1 h1 fun b hb=>hF b (aO.2 (.inl hb)),bP.frame hw hs hm xs us F2 h2 fun b hb=>hF b (aO.2 (.inr hb)),rfl⟩
end
end
theorem mS.lt{P:Program}{w:World}{ok:Nat→Prop}{ν:Nat→Nm}{st:Nat→Option En}{k b:Nat}{e:En}
 (h:mS P w ok ν st k e) (hl:e.live=true) (hb:(ν k).has b):b<w.heap.size:=by
 cases e with
 | dead=>cases hl
 | box cs=>
  obtain⟨b',vs,T,h1,h2,_,h3⟩:=h;rw[mi h3,h1] at hb;obtain rfl:b'=b:=by simpa[zV] using hb
  exact sN h2
 | aX e xs=>obtain⟨us,h1,_,_,h3⟩:=h;rw[mi h3] at hb;exact Mr h1 hb
 | gD e xs=>exact mD.lt _ _ _ h.1 b (qJ.1 hb)
 | map wu=>
  obtain⟨r,es,clock,h1,h2,_,_,h3⟩:=h;rw[mi h3,h1] at hb;obtain rfl:r=b:=by simpa[zV] using hb
  exact sN h2
theorem Sat.lt{P:Program}{X:Cx}{ν:Nat→Nm}{g:G}{a:Act}{w:World}(h:Sat P X ν g a w){b:Nat}
 (hb:Own ν g.at b):b<w.heap.size:=by
 obtain⟨k,e,h1,h2,h3⟩:=hb
 exact(h.en k e h1).lt h2 h3
theorem mS.frame{P:Program}{w w':World}{ok ok':Nat→Prop}{ν ν':Nat→Nm}{st st':Nat→Option En}{k:Nat}{e:En}
 (h:mS P w ok ν st k e) (hw:∀b,ok b→b<w.heap.size→ok' b∧w'.heap[b]?=w.heap[b]?) (hs:w.heap.size≤w'.heap.size) (hm:nH st st' ν ν')
 (hν:ν' k=ν k) (hb:∀b,e.live=true→(ν k).has b→w'.heap[b]?=w.heap[b]?):mS P w' ok' ν' st' k e:=by
 cases e with
 | dead=>trivial
 | box cs=>obtain⟨b,vs,T,h1,h2,h3,h4⟩:=h;simp only[mS,hν];exact⟨b,vs,T,h1,(hb b rfl ((mi h4).2 (by rw[h1];rfl))).trans h2,aH.frame hw hs hm cs vs h3,h4⟩
 | aX t xs=>obtain⟨us,h1,h2,h3,h4⟩:=h;simp only[mS,hν];exact⟨us,Cv h1 fun b h=>hb b rfl ((mi h4).2 h),h2.frame hw hs,h3,h4⟩
 | gD t xs=>simp only[mS,hν];exact⟨mD.frame hw hs hm _ _ _ h.1 fun b h=>hb b rfl (qJ.2 h),h.2⟩
 | map wu=>obtain⟨r,es,clock,h1,h2,h3,h4,h5⟩:=h;simp only[mS,hν];exact⟨r,es,clock,h1,(hb r rfl ((mi h5).2 (by rw[h1];rfl))).trans h2,h3,h4,h5⟩
theorem Sat.upd{P:Program}{X:Cx}{ν:Nat→Nm}{g:G}{a:Act}{w:World}(h:Sat P X ν g a w)
 {ν':Nat→Nm} {g':G} {a':Act} {w':World} (B:Nat→Prop) (uX:vg B w w') (hB:∀b,B b→Own ν g.at b)
 (hm:nH g.at g'.at ν ν')
 (hen:∀k e,g'.at k=some e→(g.at k=some e∧ν' k=ν k∧∀b,e.live=true→(ν k).has b→¬B b)∨mS P w' (dk X ν' g'.at) ν' g'.at k e)
 (jU:∀k e b,g'.at k=some e→e.live=true→(ν' k).has b→Own ν g.at b∨w.heap.size≤b)
 (hinj:∀k k' e e' b,g'.at k=some e→g'.at k'=some e'→e.live=true→e'.live=true→(ν' k).has b→(ν' k').has b→k=k')
 (hnu:∀k,(g'.at k).isSome=true→(g.at k).isSome=true∨(ν' k).v.oneCell'=true)
 (hsize:a'.tmps.size=g'.sl.length)
 (hsl:∀t,(nth g'.sl t=nth g.sl t∧a'.tmps.getD t Go.undef=a.tmps.getD t Go.undef)∨aJ w' (dk X ν' g'.at) ν' g'.at (nth g'.sl t) (a'.tmps.getD t Go.undef))
 (hdefs:a'.defers=a.defers):Sat P X ν' g' a' w':=by
 have hown':∀b,Own ν' g'.at b→Own ν g.at b∨w.heap.size≤b:=by rintro b ⟨k,e,h1,h2,h3⟩;exact jU k e b h1 h2 h3
 have hw:∀b,dk X ν g.at b→b<w.heap.size→dk X ν' g'.at b∧w'.heap[b]?=w.heap[b]?:=fun b hn hb=>
  ⟨⟨fun ho=>(hown' b ho).elim hn.1 (fun hge=>by omega),hn.2⟩,uX.block b hb (fun hBb=>hn.1 (hB b hBb))⟩
 refine⟨hsize,fun t=>?_,fun k e he=>?_,fun k k' e e' b h1 h2 h3 h4 h5 h6=>?_,fun b hb=>?_,fun k hk=>?_,fun k hk=>?_,h.Jy,?_,hdefs.trans h.defs⟩
 ·rcases hsl t with⟨h1,h2⟩|h1
  ·rw[h1,h2]
   exact aJ.frame hw uX.size hm _ _ (h.sl t)
  ·exact h1
 ·rcases hen k e he with⟨h1,hν,h2⟩|h1
  ·refine(h.en k e h1).frame hw uX.size hm hν fun b hl hb=>?_
   exact uX.block b ((h.en k e h1).lt hl hb) (h2 b hl hb)
  ·exact h1
 ·exact hinj k k' e e' b h1 h2 h3 h4 h5 h6
 ·rcases hown' b hb with h1|h1
  ·exact h.base b h1
  ·exact .inr (fv h.Da.size h1)
 ·rcases hnu k hk with h1|h1
  ·rw[(hm k h1).1];exact h.nu k h1
  ·exact h1
 ·obtain⟨h1,h2⟩:=h.par k hk
  exact⟨(hm k h2).1.trans h1,(hm k h2).2⟩
 ·refine h.Da.trans uX fun k hk nS=>?_
  rcases h.base k (hB k hk) with h1|h1
  ·exact h1
  ·omega
end Go.Eng
namespace Go.Eng
open Go.RowKit
inductive TY where
 | bool|int (k:IntKind)|str|bA (e:Nat)|slice (e:Nat)|arr (len e:Nat)|struct (fs:List (Nat×Nat×Nat))|other
structure TI where
 ty:TY
 n:Nat
 bytes:Nat
 zero:List PV
def TI.isAgg(ti:TI):Bool:=
 match ti.ty with
 | .struct _=>true
 | .arr _ _=>true
 | _=>false
def Gj:List UInt8→Nat→Bool
 | [],_=>true
 | _::_,0=>false
 | _::as,n+1=>Gj as n
theorem NO:∀{l:List UInt8}{n:Nat},Gj l n=true→l.length≤n
 | [],_,_=>bo _
 | _::_,0,h=>by simp[Gj] at h
 | _::as,n+1,h=>Nat.succ_le_succ (NO (l:=as) (by simpa[Gj] using h))
def Zy:Value→PV
 | .bool b=>.d (.val (.bool b))
 | .int k n=>.d (.val (.int k n))
 | .string s=>match Gj s.data.toList 4096 with|true=>.d (.str s.data.toList)|false=>.any
 | .slice none 0 0=>.bW
 | .pointer none=>.d (.val (.pointer none))
 | .nilFunc=>.d (.val .nilFunc)
 | .nilIface=>.d (.val .nilIface)
 | .map none=>.d (.val (.map none))
 | _=>.any
def Py:List Value→List PV
 | []=>[]
 | v::vs=>Zy v::Py vs
def cpv:Value→PV
 | .agg cs=>.agg (Py cs.toList)
 | .tuple cs=>match cs.toList with | []=>.undef|_=>.any
 | v=>Zy v
def toD:PV→Option D
 | .d x=>some x
 | .bW=>some (.eC [])
 | _=>none
def Dp:List PV→Option (List D)
 | []=>some []
 | p::ps=>match toD p,Dp ps with|some x,some xs=>some (x::xs)|_,_=>none
def TY.Ok(P:Program)(t:TypeId):TY→Prop
 | .bool=>P.underlying t=some .bool
 | .int k=>P.underlying t=some (.int k)
 | .str=>P.underlying t=some .string
 | .bA e=>P.underlying t=some (.pointer e)
 | .slice e=>P.underlying t=some (.slice e)
 | .arr n e=>P.underlying t=some (.array n e)
 | .struct fs=>∃fields:Array Field,P.underlying t=some (.struct fields)∧fields.toList.mapM (fun f=>(P.info? f.type).map fun i=>(f.offset,i.size))=some (fs.map fun x=>(x.2.1,x.2.2)) ∧
  ∀(j ft off sz:Nat),fs[j]?=some (ft,off,sz)→∃f,fields[j]?=some f∧f.type=ft∧f.offset=off∧P.cellsOf ft=sz∧0<sz
 | .other=>∃d,P.underlying t=some d∧(match d with | .struct _ | .array _ _=>False|_=>True)
structure TI.Ok(P:Program)(t:TypeId)(ti:TI):Prop where
 info:∃i z,P.info? t=some i∧i.size=ti.n∧i.bytes=ti.bytes∧i.zero=some z∧Py z.cells.toList=ti.zero∧z.cells.size=ti.n
 pos:0<ti.n
 one:ti.isAgg=false→ti.n=1
 ty:TY.Ok P t ti.ty
structure Env where
 P:Program
 ti:Nat→Option TI
 ok:∀t i,ti t=some i→TI.Ok P t i
theorem Sk(w:World)(ok:Nat→Prop)(ν:Nat→Nm)(st:Nat→Option En)(v:Value):aJ w ok ν st (Zy v) v:=by
 unfold Zy;split<;>try simp only[aJ]
 exact .val _ rfl;exact .val _ rfl;rename_i s;split;rename_i h;have:=NO h;simp only[aJ];exact .str s.data.toList (by unfold LB;omega);simp only[aJ];exact .val _ rfl;exact .val _ rfl;exact .val _ rfl;exact .val _ rfl
theorem xX(w:World)(ok:Nat→Prop)(ν:Nat→Nm)(st:Nat→Option En):∀(vs:List Value),aH w ok ν st (Py vs) vs
 | []=>by simp[Py,aH]
 | v::vs=>by simp only[Py,aH];exact⟨Sk w ok ν st v,xX w ok ν st vs⟩
theorem ael(w:World)(ok:Nat→Prop)(ν:Nat→Nm)(st:Nat→Option En)(v:Value):aJ w ok ν st (cpv v) v:=by
 unfold cpv;split;rename_i cs;simp only[aJ];exact⟨cs.toList,rfl,xX w ok ν st _⟩;rename_i cs;split;rename_i h;simp only[aJ];have:cs = #[]:=by simpa using h
 rw[this];rfl;simp only[aJ];exact Sk w ok ν st v
def G.ev(g:G):Operand→PV
 | .tmp t=>nth g.sl t
 | .const v=>cpv v
 | .global _=>.any
 | .func f=>.fn f []
def ez:Operand→List Nat
 | .tmp t=>[t]
 | _=>[]
theorem Sat.ev{P:Program}{X:Cx}{ν:Nat→Nm}{g:G}{a:Act}{w:World}(h:Sat P X ν g a w)(x:Operand) :
 aJ w (dk X ν g.at) ν g.at (g.ev x) (a.eval x):=by
 cases x with
 | tmp t=>exact h.sl t
 | const v=>exact ael _ _ _ _ v
 | global n=>simp only[G.ev,aJ]
 | func f=>simp only[G.ev,aJ];exact⟨[],rfl,by simp[aH]⟩
structure Dl where
 dst:Option (Nat×PV)
 up:List (Nat×En)
def B4:List (Option En)→List (Nat×En)→List (Option En)
 | st,[]=>st
 | st,(k,e)::r=>B4 (dW st k (some e)) r
def xF(sl:List PV):Option (Nat×PV)→List PV
 | none=>sl
 | some (d,p)=>n8 sl d p
def G.app(g:G)(δ:Dl):G:=⟨xF g.sl δ.dst,B4 g.st δ.up⟩
structure Rd where
 s:List Nat
 p:List Nat
structure FF(R:Rd)(g g2:G):Prop where
 s:∀t∈R.s,nth g2.sl t=nth g.sl t
 p:∀k∈R.p,g2.at k=g.at k
theorem FF.ev{R:Rd}{g g2:G}(h:FF R g g2){x:Operand}(hx:∀t∈ez x,t∈R.s):g2.ev x=g.ev x:=by
 cases x with
 | tmp t=>exact h.s t (hx t (by simp[ez]))
 | const v=>rfl
 | global n=>rfl
 | func f=>rfl
def HC(P:Program)(o:Oper)(g g':G):Prop:=
 ∀(X:Cx)(ν:Nat→Nm)(a:Act)(w:World)(next:Act→World→Prop)(Q:Exit→Act→World→Prop),
  Sat P X ν g a w→(∀ν' a' w',Sat P X ν' g' a' w'→next a' w')→o.wp P a w next Q
def mM(P:Program)(o:Oper)(g:G)(R:Rd)(δ:Dl):Prop:=∀g2,FF R g g2→HC P o g2 (g2.app δ)
theorem size_put(a:Act)(d:Nat)(v:Value):(a.put (some d) v).tmps.size=a.tmps.size:=by simp[Act.put]
theorem v7(a:Act)(d:Nat)(v:Value)(t:Nat) :
 (a.put (some d) v).tmps.getD t Go.undef=if t=d∧d<a.tmps.size then v else a.tmps.getD t Go.undef:=by
 simp only[Act.put,Array.getD_eq_getD_getElem?,Array.getElem?_setIfInBounds]
 by_cases h:d=t
 ·subst h
  by_cases h2:d<a.tmps.size
  ·simp[h2]
  ·simp[h2]
 ·have h':¬t=d:=fun e=>h e.symm
  simp[h,h']
theorem Sat.put{P:Program}{X:Cx}{ν:Nat→Nm}{g:G}{a:Act}{w:World}(h:Sat P X ν g a w)(d:Nat){p:PV}{v:Value}
 (hv:aJ w (dk X ν g.at) ν g.at p v):Sat P X ν ⟨n8 g.sl d p,g.st⟩ (a.put (some d) v) w:=by
 refine h.upd (g':=⟨n8 g.sl d p,g.st⟩) (fun _=>False) (vg.refl _ w) (fun _ hb=>hb.elim) (nH.refl _ _) (fun k e he=>.inl ⟨he,rfl,fun _ _ _ hb=>hb⟩) (fun k e b he hl hb=>.inl ⟨k,e,he,hl,hb⟩) ?_ (fun k hk=>.inl hk) ?_ ?_ rfl
 ·intro k k' e e' b h1 h2 h3 h4 h5 h6
  exact h.inj k k' e e' b h1 h2 h3 h4 h5 h6
 ·simp[size_put,lq,h.size]
 ·intro t
  simp only[v7,pM,h.size]
  by_cases hc:t=d∧d<g.sl.length
  ·simp only[hc,and_self,if_true]
   exact .inr hv
  ·simp only[hc,if_false]
   exact .inl ⟨trivial,trivial⟩
theorem HC.val{P:Program}{o:Oper}{g:G}{d:Nat}{p:PV}(hd:o.dst=some d)
 (h:∀(X:Cx)(ν:Nat→Nm)(a:Act)(w:World),Sat P X ν g a w→∃v,(execOp a.eval o).run P w= .ok (.value v) w∧aJ w (dk X ν g.at) ν g.at p v) :
 HC P o g (g.app ⟨some (d,p),[]⟩):=by
 intro X ν a w next Q hs hn
 obtain⟨v,hr,hv⟩:=h X ν a w hs
 unfold Oper.wp
 rw[hr,Oper.upon_value,hd]
 exact hn ν _ _ (hs.put d hv)
section
variable{E:Env}{g:G}{d:Nat}{ty:TypeId}{pos:String}{fK:Array Edge}{gd:Option (Nat×Bool)}
theorem ET(x:Operand):mM E.P ⟨some d,.move x,ty,pos,fK,gd⟩ g ⟨ez x,[]⟩ ⟨some (d,g.ev x),[]⟩:=by intro g2 hg;rw[←hg.ev (x:=x) (fun t h=>h)];exact HC.val rfl fun X ν a w hs=>⟨a.eval x,rfl,hs.ev x⟩
theorem YW(x:Operand):mM E.P ⟨some d,.assign x,ty,pos,fK,gd⟩ g ⟨ez x,[]⟩ ⟨some (d,g.ev x),[]⟩:=by intro g2 hg;rw[←hg.ev (x:=x) (fun t h=>h)];exact HC.val rfl fun X ν a w hs=>⟨a.eval x,rfl,hs.ev x⟩
theorem XI(c x y:Operand)(b:Bool)(hc:g.ev c= .d (.val (.bool b))) :
 mM E.P ⟨some d,.pick c x y,ty,pos,fK,gd⟩ g ⟨ez c++ez (if b then x else y),[]⟩ ⟨some (d,g.ev (if b then x else y)),[]⟩:=by
 intro g2 hg
 have h1:=hg.ev (x:=c) (fun t h=>by simp[h])
 rw[←hg.ev (x:=if b then x else y) (fun t h=>by simp[h])]
 refine HC.val rfl fun X ν a w hs=>?_
 have hcv:=hs.ev c
 rw[h1,hc] at hcv
 simp only[aJ] at hcv
 have:=hcv.Ju
 refine⟨a.eval (if b then x else y),?_,hs.ev _⟩
 cases b<;>simp[execOp,this,asBool]
theorem ig{w:World}{ok:Nat→Prop}{ν:Nat→Nm}{st:Nat→Option En}{u v:Value}(h:aJ w ok ν st (.d (.val u)) v):v=u:=by simp only[aJ] at h;exact h.Ju
theorem yL{w:World}{ok:Nat→Prop}{ν:Nat→Nm}{st:Nat→Option En}{l:List UInt8}{v:Value}(h:aJ w ok ν st (.d (.str l)) v):v= .string ⟨l.toArray⟩∧l.length≤LB:=by simp only[aJ] at h;exact h.Jx
theorem qd{w:World}{ok:Nat→Prop}{ν:Nat→Nm}{st:Nat→Option En}{v:Value}(h:v.oneCell'=true):aJ w ok ν st (.d (.val v)) v:=by simp only[aJ];exact .val v h
theorem JN{o:Oper}{x:Operand}{u r:Value}(hd:o.dst=some d)(hx:g.ev x= .d (.val u))(hr:r.oneCell'=true)
 (h:∀(a:Act)(w:World),a.eval x=u→(execOp a.eval o).run E.P w= .ok (.value r) w):mM E.P o g ⟨ez x,[]⟩ ⟨some (d,.d (.val r)),[]⟩:=by
 intro g2 hg
 have h1:=hg.ev (x:=x) (fun t h=>h)
 refine HC.val hd fun X ν a w hs=>?_
 have hv:=hs.ev x
 rw[h1,hx] at hv
 exact⟨r,h a w (ig hv),qd hr⟩
theorem sy{o:Oper}{x y:Operand}{u v r:Value}(hd:o.dst=some d)(hx:g.ev x= .d (.val u))(hy:g.ev y= .d (.val v))(hr:r.oneCell'=true)
 (h:∀(a:Act)(w:World),a.eval x=u→a.eval y=v→(execOp a.eval o).run E.P w= .ok (.value r) w):mM E.P o g ⟨ez x++ez y,[]⟩ ⟨some (d,.d (.val r)),[]⟩:=by
 intro g2 hg
 have h1:=hg.ev (x:=x) (fun t h=>by simp[h])
 have h2:=hg.ev (x:=y) (fun t h=>by simp[h])
 refine HC.val hd fun X ν a w hs=>?_
 have hv:=hs.ev x
 rw[h1,hx] at hv
 have oI:=hs.ev y
 rw[h2,hy] at oI
 exact⟨r,h a w (ig hv) (ig oI),qd hr⟩
def YK(n:Int):Prop:=-9223372036854775808≤n∧n≤9223372036854775807
theorem wrap_i64{n:Int}(h:YK n):IntKind.i64.wrap n=n:=IntWalk.i64_in n h
theorem run_equalIn_bool(P:Program)(w:World)(n:Nat){t:TypeId}(a b:Bool)(h:P.underlying t=some .bool):(Op.equalIn (n+1) t (.bool a) (.bool b)).run P w= .ok (a == b) w:=by simp[Op.equalIn,run_underlying h]
theorem run_equal_bool(P:Program)(w:World){t:TypeId}(a b:Bool)(h:P.underlying t=some .bool):(Op.equal t (.bool a) (.bool b)).run P w= .ok (a == b) w:=
 run_equalIn_bool P w 9999 a b h
theorem af6(x y:Operand)(m n:Int)(t u:TypeId)(hx:g.ev x= .d (.val (.int .i64 m)))(hy:g.ev y= .d (.val (.int .i64 n)))(hi:YK (m+n)) :
 mM E.P ⟨some d,.binOp .add t x y u,ty,pos,fK,gd⟩ g ⟨ez x++ez y,[]⟩ ⟨some (d,.d (.val (.int .i64 (m+n)))),[]⟩:=
 sy rfl hx hy rfl fun a w h1 h2=>by simp[execOp,h1,h2,eqGuard,binOp,Op.intArith,wrap_i64 hi]
theorem afk(x y:Operand)(m n:Int)(t u:TypeId)(hx:g.ev x= .d (.val (.int .i64 m)))(hy:g.ev y= .d (.val (.int .i64 n)))(hi:YK (m-n)) :
 mM E.P ⟨some d,.binOp .sub t x y u,ty,pos,fK,gd⟩ g ⟨ez x++ez y,[]⟩ ⟨some (d,.d (.val (.int .i64 (m-n)))),[]⟩:=
 sy rfl hx hy rfl fun a w h1 h2=>by simp[execOp,h1,h2,eqGuard,binOp,Op.intArith,wrap_i64 hi]
theorem agj(x y:Operand)(m n:Int)(t u:TypeId)(hx:g.ev x= .d (.val (.int .i64 m)))(hy:g.ev y= .d (.val (.int .i64 n)))(hi:YK (m*n)) :
 mM E.P ⟨some d,.binOp .mul t x y u,ty,pos,fK,gd⟩ g ⟨ez x++ez y,[]⟩ ⟨some (d,.d (.val (.int .i64 (m*n)))),[]⟩:=
 sy rfl hx hy rfl fun a w h1 h2=>by simp[execOp,h1,h2,eqGuard,binOp,Op.intArith,wrap_i64 hi]
theorem afv(x y:Operand)(m n:Int)(t u:TypeId)(hx:g.ev x= .d (.val (.int .i64 m)))(hy:g.ev y= .d (.val (.int .i64 n)))(hn:n≠0)(hi:YK (m.tdiv n)) :
 mM E.P ⟨some d,.binOp .quo t x y u,ty,pos,fK,gd⟩ g ⟨ez x++ez y,[]⟩ ⟨some (d,.d (.val (.int .i64 (m.tdiv n)))),[]⟩:=
 sy rfl hx hy rfl fun a w h1 h2=>by simp[execOp,h1,h2,eqGuard,binOp,Op.intDiv,wrap_i64 hi,hn]
theorem af5(x y:Operand)(m n:Int)(t u:TypeId)(hx:g.ev x= .d (.val (.int .i64 m)))(hy:g.ev y= .d (.val (.int .i64 n)))(hn:n≠0) :
 mM E.P ⟨some d,.binOp .rem t x y u,ty,pos,fK,gd⟩ g ⟨ez x++ez y,[]⟩ ⟨some (d,.d (.val (.int .i64 (m.tmod n)))),[]⟩:=
 sy rfl hx hy rfl fun a w h1 h2=>by simp[execOp,h1,h2,eqGuard,binOp,Op.intDiv,hn]
def ag2:BinOp→Int→Int→Option Bool
 | .eql,m,n=>some (m == n)
 | .neq,m,n=>some (m != n)
 | .lss,m,n=>some (decide (m<n))
 | .leq,m,n=>some (decide (m≤n))
 | .gtr,m,n=>some (decide (m>n))
 | .geq,m,n=>some (decide (m≥n))
 | _,_,_=>none
theorem adS(op:BinOp)(x y:Operand)(k:IntKind)(m n:Int)(b:Bool)(t u:TypeId)(hx:g.ev x= .d (.val (.int k m)))(hy:g.ev y= .d (.val (.int k n)))(hb:ag2 op m n=some b) :
 mM E.P ⟨some d,.binOp op t x y u,ty,pos,fK,gd⟩ g ⟨ez x++ez y,[]⟩ ⟨some (d,.d (.val (.bool b))),[]⟩:=
 sy rfl hx hy rfl fun a w h1 h2=>by
  cases op<;>simp only[ag2] at hb<;>first
   | (cases hb;done)
   | (obtain rfl:=Option.some.inj hb;simp[execOp,h1,h2,eqGuard,binOp,Op.intCmp])
theorem afl(x y:Operand)(m n:Bool)(t u:TypeId)(ti:TI)(ht:E.ti t=some ti)(mI:ti.ty= .bool)(hx:g.ev x= .d (.val (.bool m)))(hy:g.ev y= .d (.val (.bool n))) :
 mM E.P ⟨some d,.binOp .eql t x y u,ty,pos,fK,gd⟩ g ⟨ez x++ez y,[]⟩ ⟨some (d,.d (.val (.bool (m == n)))),[]⟩:=
 sy rfl hx hy rfl fun a w h1 h2=>by have h:=(E.ok t ti ht).ty;rw[mI] at h;simp[execOp,h1,h2,eqGuard,binOp,run_equal_bool E.P w m n h]
theorem af8(x y:Operand)(m n:Bool)(t u:TypeId)(ti:TI)(ht:E.ti t=some ti)(mI:ti.ty= .bool)(hx:g.ev x= .d (.val (.bool m)))(hy:g.ev y= .d (.val (.bool n))) :
 mM E.P ⟨some d,.binOp .neq t x y u,ty,pos,fK,gd⟩ g ⟨ez x++ez y,[]⟩ ⟨some (d,.d (.val (.bool (!(m == n))))),[]⟩:=
 sy rfl hx hy rfl fun a w h1 h2=>by have h:=(E.ok t ti ht).ty;rw[mI] at h;simp[execOp,h1,h2,eqGuard,binOp,run_equal_bool E.P w m n h]
theorem agb(x:Operand)(m:Bool)(t:TypeId)(hx:g.ev x= .d (.val (.bool m))) :
 mM E.P ⟨some d,.unOp .not t x,ty,pos,fK,gd⟩ g ⟨ez x,[]⟩ ⟨some (d,.d (.val (.bool (!m)))),[]⟩:=
 JN rfl hx rfl fun a w h1=>by simp[execOp,h1,Op.unary]
theorem afw(x:Operand)(m:Int)(t:TypeId)(hx:g.ev x= .d (.val (.int .i64 m)))(hi:YK (-m)) :
 mM E.P ⟨some d,.unOp .neg t x,ty,pos,fK,gd⟩ g ⟨ez x,[]⟩ ⟨some (d,.d (.val (.int .i64 (-m)))),[]⟩:=
 JN rfl hx rfl fun a w h1=>by simp[execOp,h1,Op.unary,Op.intArith,wrap_i64 hi]
theorem adE(x:Operand)(k k':IntKind)(m:Int)(s t:TypeId)(si ti:TI)(hs:E.ti s=some si)(rG:si.ty= .int k)(ht:E.ti t=some ti)(mI:ti.ty= .int k')(hx:g.ev x= .d (.val (.int k m))) :
 mM E.P ⟨some d,.convert s t x,ty,pos,fK,gd⟩ g ⟨ez x,[]⟩ ⟨some (d,.d (.val (.int k' (k'.wrap m)))),[]⟩:=
 JN rfl hx rfl fun a w h1=>by have h:=(E.ok t ti ht).ty;rw[mI] at h;have h':=(E.ok s si hs).ty;rw[rG] at h';simp[execOp,h1,convert,run_underlying h,run_underlying h',Conv.intToInt]
end
def row(xs:List (List D))(i:Nat):List D:=xs.getD i []
def dm(cs:List D):List PV:=cs.map .d
def Kp:List PV→PV
 | [p]=>p
 | _=>.any
def W5:Bool→List PV→PV
 | true,cs=>.agg cs
 | false,cs=>Kp cs
def PV.one:PV→Bool
 | .bW=>true
 | .d _=>true
 | .bA _ _=>true
 | .aX _=>true
 | .jg _ _ _ _=>true
 | .ib _ _ _=>true
 | .fn _ _=>true
 | _=>false
def fJ:PV→List PV
 | .agg cs=>cs
 | p=>[p]
def PV.whole:PV→Bool
 | .agg _=>true
 | p=>p.one
def yu:List PV→Bool
 | []=>true
 | p::ps=>p.one&&yu ps
section
variable{w:World}{ok:Nat→Prop}{ν:Nat→Nm}{st:Nat→Option En}
theorem aH.length:∀{ps:List PV}{vs:List Value},aH w ok ν st ps vs→vs.length=ps.length
 | [],[],_=>rfl
 | [],_::_,h=>by simp[aH] at h
 | _::_,[],h=>by simp[aH] at h
 | _::ps,_::vs,h=>by simp only[aH] at h;simp[aH.length h.2]
theorem aH.drop:∀(n:Nat){ps:List PV}{vs:List Value},aH w ok ν st ps vs→aH w ok ν st (ps.drop n) (vs.drop n)
 | 0,_,_,h=>h
 | n+1,[],[],_=>by simp[aH]
 | _+1,[],_::_,h=>by simp[aH] at h
 | _+1,_::_,[],h=>by simp[aH] at h
 | n+1,_::ps,_::vs,h=>by simp only[aH] at h;exact aH.drop n h.2
theorem aH.take:∀(n:Nat){ps:List PV}{vs:List Value},aH w ok ν st ps vs→aH w ok ν st (ps.take n) (vs.take n)
 | 0,_,_,_=>by simp[aH]
 | n+1,[],[],_=>by simp[aH]
 | _+1,[],_::_,h=>by simp[aH] at h
 | _+1,_::_,[],h=>by simp[aH] at h
 | n+1,_::ps,_::vs,h=>by simp only[aH] at h;simp only[List.take_succ_cons,aH];exact⟨h.1,aH.take n h.2⟩
theorem aH.append:∀{ps ps':List PV}{vs vs':List Value},aH w ok ν st ps vs→aH w ok ν st ps' vs'→aH w ok ν st (ps++ps') (vs++vs')
 | [],_,[],_,_,h'=>h'
 | [],_,_::_,_,h,_=>by simp[aH] at h
 | _::_,_,[],_,h,_=>by simp[aH] at h
 | _::ps,_,_::vs,_,h,h'=>by simp only[aH] at h;simp only[List.cons_append,aH];exact⟨h.1,aH.append h.2 h'⟩
theorem aJ.one{p:PV}{v:Value}(h:aJ w ok ν st p v)(hp:p.one=true)(hν:∀k,(st k).isSome=true→(ν k).v.oneCell'=true):v.oneCell'=true:=by
 cases p<;>first
  | (cases hp;done)
  | (simp only[aJ] at h
     first
      | (subst h;rfl)
      | exact h.one
      | (obtain⟨_,b,_,rfl⟩:=h;rfl)
      | (obtain⟨h1,rfl⟩:=h;exact hν _ h1)
      | (obtain⟨_,b,_,_,_,rfl⟩:=h;rfl)
      | (obtain⟨b,_,_,_,_,rfl⟩:=h;rfl)
      | (obtain⟨_,rfl,_⟩:=h;rfl))
theorem Fj{v:Value}(h:v.oneCell'=true):v.cells = #[v]:=by cases v<;>first|rfl|(cases h;done)
theorem aJ.cells{p:PV}{v:Value}(h:aJ w ok ν st p v)(hp:p.whole=true)(hν:∀k,(st k).isSome=true→(ν k).v.oneCell'=true) :
 aH w ok ν st (fJ p) v.cells.toList:=by
 by_cases ha:∃cs,p= .agg cs
 ·obtain⟨cs,rfl⟩:=ha
  simp only[aJ] at h
  obtain⟨vs,rfl,h⟩:=h
  exact h
 ·have h1:p.one=true:=by cases p<;>first|rfl|(cases hp;done)|exact absurd ⟨_,rfl⟩ ha
  have e:fJ p=[p]:=by cases p<;>first|rfl|exact absurd ⟨_,rfl⟩ ha
  rw[e,Fj (h.one h1 hν)]
  simp only[aH,and_true]
  exact h
theorem aH.yu:∀{ps:List PV}{vs:List Value},aH w ok ν st ps vs→yu ps=true→(∀k,(st k).isSome=true→(ν k).v.oneCell'=true)→∀v∈vs,v.oneCell'=true
 | [],[],_,_,_=>by simp
 | [],_::_,h,_,_=>by simp[aH] at h
 | _::_,[],h,_,_=>by simp[aH] at h
 | p::ps,v::vs,h,ho,hν=>by simp only[aH] at h;simp only[Eng.yu,Bool.and_eq_true] at ho;intro u hu;rcases List.mem_cons.1 hu with rfl|hu;exact h.1.one ho.1 hν;exact aH.yu h.2 ho.2 hν u hu
end
section
variable{P:Program}{t:TypeId}{ti:TI}
theorem TI.Ok.size(h:TI.Ok P t ti)(w:World):(sizeOf t).run P w= .ok ti.n w:=by obtain⟨i,z,h1,h2,_⟩:=h.info;simp[sizeOf,typeInfo,h1,h2]
theorem TI.Ok.cells(h:TI.Ok P t ti):P.cellsOf t=ti.n:=by obtain⟨i,z,h1,h2,_⟩:=h.info;simp[Program.cellsOf,h1,h2]
theorem TI.Ok.agg(h:TI.Ok P t ti)(w:World):(Go.isAgg t).run P w= .ok ti.isAgg w:=by
 have hy:=h.ty;unfold TI.isAgg;cases ht:ti.ty with
 | struct fs=>rw[ht] at hy;obtain⟨fields,hf,_,_⟩:=hy;simp[Go.isAgg,run_underlying hf]
 | arr n e=>rw[ht] at hy;simp only[TY.Ok] at hy;simp[Go.isAgg,run_underlying hy]
 | other=>rw[ht] at hy;obtain⟨d,hd,hn⟩:=hy;cases d<;>first|(exact hn.elim)|simp[Go.isAgg,run_underlying hd]
 | _=>rw[ht] at hy;simp only[TY.Ok] at hy;simp[Go.isAgg,run_underlying hy]
theorem add_lit(b off n:Nat):(⟨b,off,none⟩:Addr).add n=⟨b,off+n,none⟩:=by unfold Addr.add;split<;>simp_all
theorem tm(h:TI.Ok P t ti)(w:World)(b off:Nat)(vs:List Value)(hl:vs.length=ti.n)(hc:lU w b off vs) :
 ∃v,(loadVar t ⟨b,off,none⟩).run P w= .ok v w∧(if ti.isAgg then v= .agg ⟨vs⟩ else vs=[v]):=by
 by_cases ha:ti.isAgg=true
 ·have hcs:∀j v,vs[j]?=some v→w.cell? ((⟨b,off,none⟩:Addr).add j)=some v:=fun j v hv=>by rw[add_lit];exact hc j v hv
  have hr:=run_loadCells_list (P:=P) w ⟨b,off,none⟩ vs hcs
  refine⟨.agg ⟨vs⟩,?_,by simp[ha]⟩
  simp only[loadVar,Sem.run_bind,h.agg w,Result.andThen_ok,ha,if_true,h.size w,←hl,hr]
  rfl
 ·have ha':ti.isAgg=false:=by simpa using ha
  have h1:=h.one ha'
  match vs,hl.trans h1 with
  | [v],_=>have:=hc 0 v rfl;refine⟨v,?_,by simp[ha']⟩;simp only[jw] at this;simp only[loadVar,Sem.run_bind,h.agg w,Result.andThen_ok,ha',au,if_false];simp[run_load,this]
end
theorem FT{sz:Nat}:∀(us:List (List Value))(i j:Nat)(u:List Value)(v:Value),(∀(i:Nat)(u:List Value),us[i]?=some u→u.length=sz)→us[i]?=some u→u[j]?=some v→us.flatten[i*sz+j]?=some v
 | [],i,j,u,v,_,h,_=>by simp at h
 | x::xs,0,j,u,v,hu,h,hv=>by
  obtain rfl:x=u:=by simpa using h
  have hj:j<x.length:=by rcases cz j x.length with h' | h';exact h';rw[List.getElem?_eq_none h'] at hv;cases hv
  simp only[fw,Nat.zero_mul,eu];rw[List.getElem?_append_left hj];exact hv
 | x::xs,i+1,j,u,v,hu,h,hv=>by have hx:x.length=sz:=hu 0 x rfl;have ih:=FT xs i j u v (fun i u h=>hu (i+1) u (by simpa using h)) (by simpa using h) hv;simp only[fw];rw[List.getElem?_append_right (by rw[hx,dx];omega),hx];have e:(i+1)*sz+j-sz=i*sz+j:=(by rw[dx];omega);rw[e];exact ih
theorem WK{w:World}{ok:Nat→Prop}{sz:Nat}{xs:List (List D)}{us:List (List Value)}(h:de w ok sz xs us){i:Nat}(hi:i<xs.length)(ν:Nat→Nm)(st:Nat→Option En) :
 ∃u,us[i]?=some u∧u.length=sz∧(row xs i).length=sz∧aH w ok ν st (dm (row xs i)) u:=by
 have hi':i<us.length:=by rw[h.len];exact hi
 have hx:xs[i]?=some (row xs i):=by simp[row,ct,af hi]
 have hl:=h.hx i _ hx
 have hul:=h.hu i us[i] (af hi')
 refine⟨us[i],af hi',hul,hl,?_⟩
 have hr:=fun j d v=>h.hr i j (row xs i) us[i] d v hx (af hi')
 revert hr hl hul
 generalize row xs i=x
 generalize us[i]=u
 intro hl hul hr
 have key:∀(x:List D)(u:List Value),x.length=u.length→(∀(j:Nat)(d:D)(v:Value),x[j]?=some d→u[j]?=some v→jD w ok d v)→aH w ok ν st (dm x) u:=by
  intro x;induction x with
  | nil=>intro u h _;cases u with
    | nil=>simp[dm,aH]
    | cons a b=>simp at h
  | cons d x ih=>intro u h hr;cases u with
    | nil=>simp at h
    | cons v u=>simp only[dm,aV,aH,aJ];exact⟨hr 0 d v rfl rfl,ih u (by simpa using h) fun j d' v' h1 h2=>hr (j+1) d' v' (by simpa using h1) (by simpa using h2)⟩
 exact key x u (by rw[hl,hul]) hr
def Emp(a:Option Addr)(c:Nat):Prop:=(a=none∧c=0)∨(a.isSome=true∧c≤maxLen)
theorem jD.agD{w:World}{ok:Nat→Prop}{a:Option Addr}{c:Nat}(h:Emp a c):jD w ok (.eC []) (.slice a 0 c):=by rcases h with⟨rfl,rfl⟩|⟨h1,h2⟩;exact .nil;obtain⟨a,rfl⟩:=Option.isSome_iff_exists.1 h1;exact .emp a c h2
theorem jD.zz{w:World}{ok:Nat→Prop}{xs:List (List D)}{v:Value}(h:jD w ok (.eC xs) v) :
 (xs=[]∧∃a c,v= .slice a 0 c∧Emp a c)∨∃us b off cap sz,v= .slice (some ⟨b,off,none⟩) xs.length cap∧ok b∧b<w.heap.size∧xs.length≤cap∧cap≤maxLen∧xs.length≤LB∧de w ok sz xs us∧lU w b off us.flatten:=by
 cases h with
 | nil=>exact .inl ⟨rfl,_,_,rfl,.inl ⟨rfl,rfl⟩⟩
 | emp a c h=>exact .inl ⟨rfl,_,_,rfl,.inr ⟨rfl,h⟩⟩
 | eC xs us b off cap sz fy hb lF hmax hB hl hx hu hc hr=>exact .inr ⟨us,b,off,cap,sz,rfl,fy,hb,lF,hmax,hB,⟨hl,hx,hu,hr⟩,hc⟩
theorem jD.afd{w:World}{ok:Nat→Prop}{xs:List (List D)}{v:Value}(h:jD w ok (.eC xs) v):xs.length≤LB:=by rcases h.zz with⟨rfl,_⟩|⟨us,b,off,cap,sz,_,_,_,_,_,h,_⟩;simp;exact h
theorem lU.sub{w:World}{b off:Nat}{us us':List Value}(h:lU w b off us)(n:Nat)(hs:∀j u,us'[j]?=some u→us[n+j]?=some u):lU w b (off+n) us':=
 fun j u hu=>by rw[ki];exact h (n+j) u (hs j u hu)
section
variable{E:Env}{g:G}{d:Nat}{ty:TypeId}{pos:String}{fK:Array Edge}{gd:Option (Nat×Bool)}{dn:Option Nat}
theorem tH{o:Oper}{x:Operand}{p r:PV}(hd:o.dst=some d)(hx:g.ev x=p)
 (h:∀(X:Cx)(ν:Nat→Nm)(g:G)(a:Act)(w:World),Sat E.P X ν g a w→aJ w (dk X ν g.at) ν g.at p (a.eval x) →
  ∃v,(execOp a.eval o).run E.P w= .ok (.value v) w∧aJ w (dk X ν g.at) ν g.at r v):mM E.P o g ⟨ez x,[]⟩ ⟨some (d,r),[]⟩:=by
 intro g2 hg
 have h1:=hg.ev (x:=x) (fun t h=>h)
 refine HC.val hd fun X ν a w hs=>?_
 have hv:=hs.ev x
 rw[h1,hx] at hv
 exact h X ν g2 a w hs hv
theorem Kq{o:Oper}{x y:Operand}{p q r:PV}(hd:o.dst=some d)(hx:g.ev x=p)(hy:g.ev y=q)
 (h:∀(X:Cx)(ν:Nat→Nm)(g:G)(a:Act)(w:World),Sat E.P X ν g a w→aJ w (dk X ν g.at) ν g.at p (a.eval x)→aJ w (dk X ν g.at) ν g.at q (a.eval y) →
  ∃v,(execOp a.eval o).run E.P w= .ok (.value v) w∧aJ w (dk X ν g.at) ν g.at r v):mM E.P o g ⟨ez x++ez y,[]⟩ ⟨some (d,r),[]⟩:=by
 intro g2 hg
 have h1:=hg.ev (x:=x) (fun t h=>by simp[h])
 have h2:=hg.ev (x:=y) (fun t h=>by simp[h])
 refine HC.val hd fun X ν a w hs=>?_
 have hv:=hs.ev x
 rw[h1,hx] at hv
 have oI:=hs.ev y
 rw[h2,hy] at oI
 exact h X ν g2 a w hs hv oI
theorem Bv{s:TypeId}{si:TI}{fs:List (Nat×Nat×Nat)}{f ft fo fz:Nat}(hs:E.ti s=some si)(rG:si.ty= .struct fs)(hf:fs[f]?=some (ft,fo,fz))(w:World)(b off:Nat) :
 (Instr.fieldAt s (.pointer (some ⟨b,off,none⟩)) f).run E.P w= .ok (.pointer (some ⟨b,off+fo,none⟩)) w:=by
 have h:=(E.ok s si hs).ty
 rw[rG] at h
 obtain⟨fields,hu,_,hfs⟩:=h
 obtain⟨fd,h1,h2,h3,h4,h5⟩:=hfs f ft fo fz hf
 have hi:∃i,E.P.info? ft=some i∧i.size=fz:=by
  cases hq:E.P.info? ft with
  | none=>simp[Program.cellsOf,hq] at h4;omega
  | some i=>exact⟨i,rfl,by simpa[Program.cellsOf,hq] using h4⟩
 obtain⟨i,hi,hiz⟩:=hi
 have lj:fz≠0:=oM
 simp[Instr.fieldAt,run_underlying hu,h1,Instr.sureAddr,fieldPlace,sizeOf,typeInfo,h2,hi,hiz,lj,h3,add_lit]
theorem Ua(x:Operand)(s f k off:Nat)(si:TI)(fs:List (Nat×Nat×Nat))(ft fo fz:Nat)(hs:E.ti s=some si)(rG:si.ty= .struct fs)(hf:fs[f]?=some (ft,fo,fz))(hx:g.ev x= .bA k off) :
 mM E.P ⟨some d,.fieldAddr s x f,ty,pos,fK,gd⟩ g ⟨ez x,[]⟩ ⟨some (d,.bA k (off+fo)),[]⟩:=
 tH rfl hx fun X ν g a w _ hv=>by simp only[aJ] at hv⊢;obtain⟨h1,b,h2,h3⟩:=hv;exact⟨_,by simp only[execOp,h3,Sem.run_bind,Bv hs rG hf,Result.andThen_ok];rfl,h1,b,h2,rfl⟩
theorem TO(x:Operand)(s f:Nat)(xs:List (List D))(i off:Nat)(si:TI)(fs:List (Nat×Nat×Nat))(ft fo fz:Nat)(hs:E.ti s=some si)(rG:si.ty= .struct fs)(hf:fs[f]?=some (ft,fo,fz))(hx:g.ev x= .ib xs i off) :
 mM E.P ⟨some d,.fieldAddr s x f,ty,pos,fK,gd⟩ g ⟨ez x,[]⟩ ⟨some (d,.ib xs i (off+fo)),[]⟩:=
 tH rfl hx fun X ν g a w _ hv=>by simp only[aJ] at hv⊢;obtain⟨b,o,cap,h1,h2,h3⟩:=hv;exact⟨_,by simp only[execOp,h3,Sem.run_bind,Bv hs rG hf,Result.andThen_ok];rfl,b,o,cap,h1,h2,by simp[ki]⟩
theorem Tu(x:Operand)(s f:Nat)(k i off sz:Nat)(si:TI)(fs:List (Nat×Nat×Nat))(ft fo fz:Nat)(hs:E.ti s=some si)(rG:si.ty= .struct fs)(hf:fs[f]?=some (ft,fo,fz))(hx:g.ev x= .jg k i off sz) :
 mM E.P ⟨some d,.fieldAddr s x f,ty,pos,fK,gd⟩ g ⟨ez x,[]⟩ ⟨some (d,.jg k i (off+fo) sz),[]⟩:=
 tH rfl hx fun X ν g a w _ hv=>by simp only[aJ] at hv⊢;obtain⟨h0,b,n,c,h1,h3⟩:=hv;exact⟨_,by simp only[execOp,h3,Sem.run_bind,Bv hs rG hf,Result.andThen_ok];rfl,h0,b,n,c,h1,by simp[ki]⟩
theorem VO(x y:Operand)(s:Nat)(si ei:TI)(e:Nat)(xs:List (List D))(n:Int)(hs:E.ti s=some si)(rG:si.ty= .slice e)(he:E.ti e=some ei)(hx:g.ev x= .d (.eC xs))(hy:g.ev y= .d (.val (.int .i64 n)))
 (h0:0≤n) (nS:n.toNat<xs.length) (hz:(row xs n.toNat).length=ei.n) :
 mM E.P ⟨some d,.indexAddr s x y,ty,pos,fK,gd⟩ g ⟨ez x++ez y,[]⟩ ⟨some (d,.ib xs n.toNat 0),[]⟩:=
 Kq rfl hx hy fun X ν g a w _ hv oI=>by have hu:=(E.ok s si hs).ty;rw[rG] at hu;have h2:=ig oI;simp only[aJ] at hv⊢;have hv':=hv;rcases hv.zz with⟨rfl,_⟩|⟨us,b,off,cap,sz,hv,fy,hb,lF,hmax,hB,kS,hc⟩;simp at nS;have hlt':n<(xs.length:Int):=oM;refine⟨.pointer (some ⟨b,off+(n.toNat*ei.n),none⟩),?_,b,off,cap,by rw[←hv];exact hv',nS,?_⟩;simp[execOp,hv,h2,Instr.indexAt,asIntOf,run_underlying hu,h0,hlt',(E.ok e ei he).size,add_lit];have:(xs.getD n.toNat []).length=ei.n:=hz;rw[this];simp
theorem U2(x y:Operand)(s:Nat)(si ei:TI)(e k:Nat)(xs:List (List D))(n:Int)(hs:E.ti s=some si)(rG:si.ty= .slice e)(he:E.ti e=some ei)(hx:g.ev x= .aX k)(hk:g.at k=some (.aX e xs))(hy:g.ev y= .d (.val (.int .i64 n)))
 (h0:0≤n) (nS:n.toNat<xs.length) :
 mM E.P ⟨some d,.indexAddr s x y,ty,pos,fK,gd⟩ g ⟨ez x++ez y,[k]⟩ ⟨some (d,.jg k n.toNat 0 ei.n),[]⟩:=by
 intro g2 hg
 have h1:=hg.ev (x:=x) (fun t h=>by simp[h])
 have h2:=hg.ev (x:=y) (fun t h=>by simp[h])
 have h3:=(hg.p k (by simp)).trans hk
 refine HC.val rfl fun X ν a w hs'=>?_
 have hu:=(E.ok s si hs).ty
 rw[rG] at hu
 have hv:=hs'.ev x
 rw[h1,hx] at hv
 have oI:=hs'.ev y
 rw[h2,hy] at oI
 have oI:=ig oI
 simp only[aJ] at hv⊢
 obtain⟨us,ho,kS,_⟩:=hs'.en k _ h3
 rcases ho.2 with⟨_,hn⟩|⟨b,cap,cur,hb,_⟩
 ·omega
 ·have hlt':n<(xs.length:Int):=oM
  refine⟨.pointer (some ⟨b,n.toNat*ei.n,none⟩),?_,by rw[h3];rfl,b,xs.length,cap,hb,rfl⟩
  simp[execOp,hv.2,hb,oI,Instr.indexAt,asIntOf,run_underlying hu,h0,hlt',(E.ok e ei he).size,add_lit]
theorem UY(x y:Operand)(s:Nat)(si ei:TI)(e len k off:Nat)(n:Int)(hs:E.ti s=some si)(rG:si.ty= .arr len e)(he:E.ti e=some ei)(hx:g.ev x= .bA k off)(hy:g.ev y= .d (.val (.int .i64 n)))
 (h0:0≤n) (nS:n.toNat<len) :
 mM E.P ⟨some d,.indexAddr s x y,ty,pos,fK,gd⟩ g ⟨ez x++ez y,[]⟩ ⟨some (d,.bA k (off+n.toNat*ei.n)),[]⟩:=
 Kq rfl hx hy fun X ν g a w _ hv oI=>by have hu:=(E.ok s si hs).ty;rw[rG] at hu;have h2:=ig oI;simp only[aJ] at hv⊢;obtain⟨h1,b,h3,h4⟩:=hv;have hlt':n<(len:Int):=oM;refine⟨.pointer (some ⟨b,off+n.toNat*ei.n,none⟩),?_,h1,b,h3,rfl⟩;simp[execOp,h4,h2,Instr.indexAt,asIntOf,run_underlying hu,h0,hlt',(E.ok e ei he).size,add_lit,Instr.sureAddr]
theorem UI(x y:Operand)(s:Nat)(si:TI)(l:List UInt8)(n:Int)(hs:E.ti s=some si)(rG:si.ty= .str)(hx:g.ev x= .d (.str l))(hy:g.ev y= .d (.val (.int .i64 n)))
 (h0:0≤n) (nS:n.toNat<l.length) :
 mM E.P ⟨some d,.index s x y,ty,pos,fK,gd⟩ g ⟨ez x++ez y,[]⟩ ⟨some (d,.d (.val (.int .u8 ((l.getD n.toNat 0).toNat:Int)))),[]⟩:=
 Kq rfl hx hy fun X ν g a w _ hv oI=>by have hu:=(E.ok s si hs).ty;rw[rG] at hu;have h2:=ig oI;have h1:=(yL hv).1;refine⟨_,?_,qd rfl⟩;have hget:(⟨l.toArray⟩:ByteArray)[n.toNat]?=some (l.getD n.toNat 0):=(by have hs:n.toNat<(⟨l.toArray⟩:ByteArray).size:=(by simpa[ByteArray.size] using nS);have h1:(⟨l.toArray⟩:ByteArray)[n.toNat]?=some ((⟨l.toArray⟩:ByteArray)[n.toNat]'hs):=getElem?_pos (⟨l.toArray⟩:ByteArray) n.toNat hs;rw[h1];have h2:(⟨l.toArray⟩:ByteArray)[n.toNat]'hs=l[n.toNat]:=rfl;rw[h2];simp[ct,nS]);simp[execOp,h1,h2,Instr.index,asIntOf,run_underlying hu,h0,hget]
end
section
variable{P:Program}{X:Cx}{ν:Nat→Nm}{g:G}{a:Act}{w:World}
theorem ym(g:G)(k:Nat)(e:Option En)(j:Nat)(sl:List PV):(⟨sl,dW g.st k e⟩:G).at j=if j=k then e else g.at j:=iT g.st k e j
def gone(st:List (Option En)):Option Nat→List (Option En)
 | none=>st
 | some k=>dW st k (some .dead)
theorem Sat.move(h:Sat P X ν g a w){w':World}(old:Option Nat)(hold:∀k,old=some k→∃e,g.at k=some e∧e.live=true)
 (uX:vg (fun b=>∃k,old=some k∧(ν k).has b) w w') (k:Nat) (hk:g.at k=none) (e:En) (n0:Nm) (h1:n0.v.oneCell'=true)
 (hb:∀b,n0.has b→(∃k,old=some k∧(ν k).has b)∨w.heap.size≤b) (d:Nat) (p:PV) (v:Value)
 (hen:∀(ok:Nat→Prop)(st:Nat→Option En)(ν':Nat→Nm),ν' k=n0→(∀b,dk X ν g.at b→b<w.heap.size→ok b∧w'.heap[b]?=w.heap[b]?)→nH g.at st ν ν'→mS P w' ok ν' st k e)
 (hv:∀(ok:Nat→Prop)(st:Nat→Option En)(ν':Nat→Nm),ν' k=n0→st k=some e→(∀b,dk X ν g.at b→b<w.heap.size→ok b∧w'.heap[b]?=w.heap[b]?)→nH g.at st ν ν'→aJ w' ok ν' st p v) :
 Sat P X (fun j=>if j=k then n0 else ν j) ⟨n8 g.sl d p,dW (gone g.st old) k (some e)⟩ (a.put (some d) v) w':=by
 have fy:∀j,old=some j→j≠k:=fun j hj e=>by obtain⟨e',h',_⟩:=hold j hj;rw[e,hk] at h';cases h'
 have np:∀j,(⟨n8 g.sl d p,dW (gone g.st old) k (some e)⟩:G).at j=if j=k then some e else if old=some j then some .dead else g.at j:=by
  intro j;show dV (dW (gone g.st old) k (some e)) j=_;rw[iT];split;rfl;cases old with
  | none=>simp[gone,G.at]
  | some o=>simp only[gone,iT,Option.some.injEq,G.at];by_cases hjo:j=o;simp[hjo];have:¬o=j:=fun e=>hjo e.symm;simp[hjo,this]
 have hm:nH g.at (⟨n8 g.sl d p,dW (gone g.st old) k (some e)⟩:G).at ν (fun j=>if j=k then n0 else ν j):=by
  intro j hj;have:j≠k:=fun e=>by rw[e,hk] at hj;cases hj
  refine⟨by simp[this],?_⟩;rw[np,if_neg this];split;rfl;exact hj
 have hB:∀b,(∃k,old=some k∧(ν k).has b)→Own ν g.at b:=by rintro b ⟨o,ho,hbo⟩;obtain⟨e0,h1,h2⟩:=hold o ho;exact⟨o,e0,h1,h2,hbo⟩
 have hownb:∀j e' b,(⟨n8 g.sl d p,dW (gone g.st old) k (some e)⟩:G).at j=some e'→e'.live=true→((fun j=>if j=k then n0 else ν j) j).has b→Own ν g.at b∨w.heap.size≤b:=by intro j e' b h1 h2 h3;rw[np] at h1;by_cases hj:j=k;simp only[hj,if_true] at h3;exact(hb b h3).imp (hB b) id;simp only[hj,if_false] at h1 h3;by_cases hjo:old=some j;rw[if_pos hjo] at h1;cases h1;cases h2;rw[if_neg hjo] at h1;exact .inl ⟨j,e',h1,h2,h3⟩
 have jU:∀b,dk X ν g.at b→b<w.heap.size→dk X (fun j=>if j=k then n0 else ν j) (⟨n8 g.sl d p,dW (gone g.st old) k (some e)⟩:G).at b:=by intro b hn nS;refine⟨?_,hn.2⟩;rintro⟨j,e',h1,h2,h3⟩;rcases hownb j e' b h1 h2 h3 with h4|h4;exact hn.1 h4;omega
 have hw:∀b,dk X ν g.at b→b<w.heap.size→dk X (fun j=>if j=k then n0 else ν j) (⟨n8 g.sl d p,dW (gone g.st old) k (some e)⟩:G).at b∧w'.heap[b]?=w.heap[b]?:=
  fun b hn nS=>⟨jU b hn nS,uX.block b nS (fun h=>hn.1 (hB b h))⟩
 refine h.upd (fun b=>∃k,old=some k∧(ν k).has b) uX hB hm ?_ hownb ?_ ?_ ?_ ?_ rfl
 ·intro j e' hj
  rw[np] at hj
  by_cases nR:j=k
  ·subst nR
   simp only[if_true,Option.some.injEq] at hj
   subst hj
   exact .inr (hen _ _ _ (by simp) hw hm)
  ·rw[if_neg nR] at hj
   by_cases hjo:old=some j
   ·rw[if_pos hjo] at hj
    cases hj
    exact .inr trivial
   ·rw[if_neg hjo] at hj
    refine .inl ⟨hj,by simp[nR],?_⟩
    rintro b hl hbj ⟨o,ho,hbo⟩
    obtain⟨e0,h1,h2⟩:=hold o ho
    exact hjo (by rw[ho,h.inj j o e' e0 b hj h1 hl h2 hbj hbo])
 ·have key:∀(j:Nat)(e1:En)(b:Nat),j≠k→(⟨n8 g.sl d p,dW (gone g.st old) k (some e)⟩:G).at j=some e1→e1.live=true→((fun j=>if j=k then n0 else ν j) j).has b →
   g.at j=some e1∧old≠some j∧(ν j).has b:=by
   intro j e1 b nR h1 h2 h3
   rw[np,if_neg nR] at h1
   simp only[nR,if_false] at h3
   by_cases hjo:old=some j
   ·rw[if_pos hjo] at h1
    cases h1;cases h2
   ·rw[if_neg hjo] at h1
    exact⟨h1,hjo,h3⟩
  have key2:∀(j:Nat)(e1:En)(b:Nat),j≠k→(⟨n8 g.sl d p,dW (gone g.st old) k (some e)⟩:G).at j=some e1→e1.live=true→((fun j=>if j=k then n0 else ν j) j).has b→n0.has b→False:=by intro j e1 b nR h1 h2 h3 h4;obtain⟨k1,k2,k3⟩:=key j e1 b nR h1 h2 h3;rcases hb b h4 with⟨o,ho,hbo⟩|hge;obtain⟨e0,m1,m2⟩:=hold o ho;exact k2 (by rw[ho,h.inj j o e1 e0 b k1 m1 h2 m2 k3 hbo]);have:=h.lt ⟨j,e1,k1,h2,k3⟩;omega
  intro j j' e1 e2 b h1 h2 h3 h4 h5 h6
  by_cases hj:j=k
  ·by_cases hj':j'=k
   ·rw[hj,hj']
   ·exact(key2 j' e2 b hj' h2 h4 h6 (by simpa[hj] using h5)).elim
  ·by_cases hj':j'=k
   ·exact(key2 j e1 b hj h1 h3 h5 (by simpa[hj'] using h6)).elim
   ·obtain⟨k1,_,k3⟩:=key j e1 b hj h1 h3 h5
    obtain⟨m1,_,m3⟩:=key j' e2 b hj' h2 h4 h6
    exact h.inj j j' e1 e2 b k1 m1 h3 h4 k3 m3
 ·intro j hj
  rw[np] at hj
  by_cases nR:j=k
  ·exact .inr (by simp[nR,h1])
  ·rw[if_neg nR] at hj
   by_cases hjo:old=some j
   ·obtain⟨e0,m1,m2⟩:=hold j hjo
    exact .inl (by rw[m1];rfl)
   ·rw[if_neg hjo] at hj
    exact .inl hj
 ·simp[size_put,lq,h.size]
 ·intro t
  simp only[v7,pM,h.size]
  by_cases hc:t=d∧d<g.sl.length
  ·simp only[hc,and_self,if_true]
   exact .inr (hv _ _ _ (by simp) (by rw[np];simp) hw hm)
  ·simp only[hc,if_false]
   exact .inl ⟨trivial,trivial⟩
theorem Sat.Bj(h:Sat P X ν g a w){w':World}(uX:vg (fun _=>False) w w')(k:Nat)(hk:g.at k=none)(e:En)(n0:Nm)(h1:n0.v.oneCell'=true)
 (hb:∀b,n0.has b→w.heap.size≤b) (d:Nat) (p:PV) (v:Value)
 (hen:∀(ok:Nat→Prop)(st:Nat→Option En)(ν':Nat→Nm),ν' k=n0→(∀b,dk X ν g.at b→b<w.heap.size→ok b∧w'.heap[b]?=w.heap[b]?)→nH g.at st ν ν'→mS P w' ok ν' st k e)
 (hv:∀(ok:Nat→Prop)(st:Nat→Option En)(ν':Nat→Nm),ν' k=n0→st k=some e→(∀b,dk X ν g.at b→b<w.heap.size→ok b∧w'.heap[b]?=w.heap[b]?)→nH g.at st ν ν'→aJ w' ok ν' st p v) :
 Sat P X (fun j=>if j=k then n0 else ν j) ⟨n8 g.sl d p,dW g.st k (some e)⟩ (a.put (some d) v) w':=
 h.move none (fun _ h=>by cases h) (uX.mono fun _ h _=>h.elim) k hk e n0 h1 (fun b hb'=>.inr (hb b hb')) d p v hen hv
theorem lE(w:World)(o:Obj):vg (fun _=>False) w (w.alloc o):=
 ⟨rfl,rfl,rfl,by simp,fun k hk _=>Below.heap_alloc w o k hk⟩
theorem FI(w:World):vg (fun _=>False) w w.drew:=⟨rfl,rfl,rfl,aK _,fun _ _ _=>rfl⟩
theorem vh(w:World)(o:Obj):(w.alloc o).heap[w.heap.size]?=some o:=by show(w.heap.push o)[w.heap.size]?=some o;simp
theorem Sat.Gh(h:Sat P X ν g a w){w':World}(k:Nat)(e0 e:En)(hk:g.at k=some e0)(hl0:e0.live=true)(uX:vg (fun b=>(ν k).has b) w w')(d:Option Nat)(p:PV)(v:Value)
 (hen:(∀b,dk X ν g.at b→b<w.heap.size→dk X ν (⟨xF g.sl (d.map fun d=>(d,p)),dW g.st k (some e)⟩:G).at b∧w'.heap[b]?=w.heap[b]?)→nH g.at (⟨xF g.sl (d.map fun d=>(d,p)),dW g.st k (some e)⟩:G).at ν ν →
  mS P w' (dk X ν (⟨xF g.sl (d.map fun d=>(d,p)),dW g.st k (some e)⟩:G).at) ν (⟨xF g.sl (d.map fun d=>(d,p)),dW g.st k (some e)⟩:G).at k e)
 (hv:d.isSome=true→aJ w (dk X ν g.at) ν g.at p v) :
 Sat P X ν ⟨xF g.sl (d.map fun d=>(d,p)),dW g.st k (some e)⟩ (a.put d v) w':=by
 have np:∀j,(⟨xF g.sl (d.map fun d=>(d,p)),dW g.st k (some e)⟩:G).at j=if j=k then some e else g.at j:=fun j=>ym g k (some e) j _
 have hm:nH g.at (⟨xF g.sl (d.map fun d=>(d,p)),dW g.st k (some e)⟩:G).at ν ν:=by intro j hj;refine⟨rfl,?_⟩;rw[np];split;rfl;exact hj
 have jU:∀b,dk X ν g.at b→dk X ν (⟨xF g.sl (d.map fun d=>(d,p)),dW g.st k (some e)⟩:G).at b:=by intro b hn;refine⟨?_,hn.2⟩;rintro⟨j,e',h1,h2,h3⟩;rw[np] at h1;by_cases hj:j=k;subst hj;exact hn.1 ⟨j,e0,hk,hl0,h3⟩;simp only[hj,if_false] at h1;exact hn.1 ⟨j,e',h1,h2,h3⟩
 have hB:∀b,(ν k).has b→Own ν g.at b:=fun b hb=>⟨k,e0,hk,hl0,hb⟩
 have hw:∀b,dk X ν g.at b→b<w.heap.size→dk X ν (⟨xF g.sl (d.map fun d=>(d,p)),dW g.st k (some e)⟩:G).at b∧w'.heap[b]?=w.heap[b]?:=
  fun b hn nS=>⟨jU b hn,uX.block b nS (fun hb=>hn.1 (hB b hb))⟩
 refine h.upd (fun b=>(ν k).has b) uX hB hm ?_ ?_ ?_ ?_ ?_ ?_ (by cases d<;>rfl)
 ·intro j e' hj
  rw[np] at hj
  by_cases nR:j=k
  ·subst nR
   simp only[if_true,Option.some.injEq] at hj
   subst hj
   exact .inr (hen hw hm)
  ·rw[if_neg nR] at hj
   exact .inl ⟨hj,rfl,fun b hl hb hb'=>nR (h.inj j k e' e0 b hj hk hl hl0 hb hb')⟩
 ·intro j e' b hj hl hbj
  rw[np] at hj
  by_cases nR:j=k
  ·subst nR
   exact .inl (hB b hbj)
  ·simp only[nR,if_false] at hj
   exact .inl ⟨j,e',hj,hl,hbj⟩
 ·have key:∀(j:Nat)(e1:En),(⟨xF g.sl (d.map fun d=>(d,p)),dW g.st k (some e)⟩:G).at j=some e1→e1.live=true→∃e2,g.at j=some e2∧e2.live=true:=by
   intro j e1 h1 h2
   rw[np] at h1
   by_cases hj:j=k
   ·subst hj
    exact⟨e0,hk,hl0⟩
   ·rw[if_neg hj] at h1
    exact⟨e1,h1,h2⟩
  intro j j' e1 e2 b h1 h2 h3 h4 h5 h6
  obtain⟨e3,k1,k2⟩:=key j e1 h1 h3
  obtain⟨e4,m1,m2⟩:=key j' e2 h2 h4
  exact h.inj j j' e3 e4 b k1 m1 k2 m2 h5 h6
 ·intro j hj
  rw[np] at hj
  by_cases nR:j=k
  ·subst nR
   exact .inl (by rw[hk];rfl)
  ·rw[if_neg nR] at hj
   exact .inl hj
 ·cases d with
  | none=>exact h.size
  | some d=>simp[xF,size_put,lq,h.size]
 ·intro t
  cases d with
  | none=>exact .inl ⟨rfl,rfl⟩
  | some d=>simp only[Option.map_some,xF,v7,pM,h.size];by_cases hc:t=d∧d<g.sl.length;simp only[hc,and_self,if_true];exact .inr (aJ.frame hw uX.size hm _ _ (hv rfl));simp only[hc,if_false];exact .inl ⟨trivial,trivial⟩
end
section
variable{E:Env}{g:G}{d:Nat}{ty:TypeId}{pos:String}{fK:Array Edge}{gd:Option (Nat×Bool)}{dn:Option Nat}
theorem BL{w:World}{ok:Nat→Prop}{ν:Nat→Nm}{st:Nat→Option En}{b:Bool}{cs:List PV}{vs:List Value}{v:Value}(h:aH w ok ν st cs vs)(hv:if b then v= .agg ⟨vs⟩ else vs=[v]) :
 aJ w ok ν st (W5 b cs) v:=by
 cases b with
 | true=>simp only[if_true] at hv;simp only[W5,aJ];exact⟨vs,hv,h⟩
 | false=>
   simp only[au,if_false] at hv
   subst hv
   match cs,h with
   | [p],h=>simp only[aH,and_true] at h;exact h
   | [],h=>simp[aH] at h
   | _::_::_,h=>simp[aH] at h
theorem yW{w:World}{b:Nat}{vs:List Value}{T:TypeId}{fr:Nat×Nat}(h:w.heap[b]?=some (.cells ⟨vs⟩ T fr)):lU w b 0 vs:=by intro j u hu;simp[World.cell?,h,hu]
theorem SS(x:Operand)(t k off:Nat)(ti:TI)(cs:List PV)(ht:E.ti t=some ti)(hx:g.ev x= .bA k off)(hk:g.at k=some (.box cs))(hl:off+ti.n≤cs.length) :
 mM E.P ⟨some d,.load t x,ty,pos,fK,gd⟩ g ⟨ez x,[k]⟩ ⟨some (d,W5 ti.isAgg ((cs.drop off).take ti.n)),[]⟩:=by
 intro g2 hg
 have h1:=hg.ev (x:=x) (fun t h=>h)
 have h3:=(hg.p k (by simp)).trans hk
 refine HC.val rfl fun X ν a w hs=>?_
 have hv:=hs.ev x
 rw[h1,hx] at hv
 simp only[aJ] at hv
 obtain⟨_,b,hb,hv⟩:=hv
 obtain⟨b',vs,T,hb',hheap,qI,hf0⟩:=hs.en k _ h3
 obtain rfl:b'=b:=by rw[hb'] at hb;simpa using hb
 have hvl:=qI.length
 have hrep':=(qI.drop off).take ti.n
 have eO:((vs.drop off).take ti.n).length=ti.n:=by simp;omega
 have hc:lU w b' off ((vs.drop off).take ti.n):=by
  have h0:=(yW hheap).sub (us':=(vs.drop off).take ti.n) off (fun j u hu=>by
   rw[dR] at hu
   split at hu
   ·rw[eV] at hu;exact hu
   ·cases hu)
  simpa using h0
 obtain⟨v,hr,hvv⟩:=tm (E.ok t ti ht) w b' off _ eO hc
 refine⟨v,?_,BL hrep' hvv⟩
 simp only[execOp,hv,Instr.loadAt,Instr.sureAddr,Sem.run_bind,Sem.run_pure,Result.andThen_ok,hr]
theorem Pq(x:Operand)(t i off:Nat)(ti:TI)(xs:List (List D))(cells:List D)(ht:E.ti t=some ti)(hx:g.ev x= .ib xs i off)(rA:row xs i=cells)(hl:off+ti.n≤cells.length) :
 mM E.P ⟨some d,.load t x,ty,pos,fK,gd⟩ g ⟨ez x,[]⟩ ⟨some (d,W5 ti.isAgg (((dm cells).drop off).take ti.n)),[]⟩:=by
 subst rA
 refine tH rfl hx fun X ν g a w hs hv=>?_
 simp only[aJ] at hv
 obtain⟨b,o,cap,hr,hi,hv⟩:=hv
 rcases hr.zz with⟨h,_⟩|⟨us,b',off',cap',sz,heq,fy,hb,lF,hmax,hB,kS,hc⟩
 ·rw[h] at hi
  simp at hi
 ·obtain⟨⟨rfl,rfl⟩,rfl⟩:(b=b'∧o=off')∧cap=cap':=by simpa using heq
  obtain⟨u,hu,hul,hrl,qI⟩:=WK kS hi ν g.at
  have hrep':=(qI.drop off).take ti.n
  have eO:((u.drop off).take ti.n).length=ti.n:=by simp;omega
  have hrl':(xs.getD i []).length=sz:=hrl
  rw[hrl'] at hv
  have hca:lU w b (o+(i*sz+off)) ((u.drop off).take ti.n):=hc.sub (i*sz+off) (fun j x hx=>by rw[dR] at hx;split at hx;rw[eV] at hx;have:=FT us i (off+j) u x kS.hu hu hx;rw[ki];exact this;cases hx)
  obtain⟨v,ou,hvv⟩:=tm (E.ok t ti ht) w b _ _ eO hca
  refine⟨v,?_,BL hrep' hvv⟩
  simp only[execOp,hv,Instr.loadAt,Instr.sureAddr,Sem.run_bind,Sem.run_pure,Result.andThen_ok,ou]
theorem sr{w:World}{e sz n:Nat}{b cap m:Nat}{us:List Value}{v:Value}(h:w.ownsRow 0 e sz v n us)(hv:v= .slice (some ⟨b,0,none⟩) m cap):lU w b 0 us:=by
 intro j u hu;rcases h.2 with⟨h2,_⟩|⟨g,cap',cur,h2,_,h3,_,_,_,h4⟩;rw[h2] at hv;cases hv;rw[h2] at hv;obtain⟨rfl,rfl,rfl⟩:g=b∧n=m∧cap'=cap:=by simpa using hv
 rw[←h4,dR] at hu;split at hu;simpa[World.cell?,h3] using hu;cases hu
theorem QE(x:Operand)(t k i off sz e:Nat)(ti ei:TI)(xs:List (List D))(cells:List D)(ht:E.ti t=some ti)(he:E.ti e=some ei)(hsz:sz=ei.n)(hx:g.ev x= .jg k i off sz)(hk:g.at k=some (.aX e xs))
 (hi:i<xs.length) (rA:row xs i=cells) (hl:off+ti.n≤cells.length) :
 mM E.P ⟨some d,.load t x,ty,pos,fK,gd⟩ g ⟨ez x,[k]⟩ ⟨some (d,W5 ti.isAgg (((dm cells).drop off).take ti.n)),[]⟩:=by
 subst rA
 intro g2 hg
 have h1:=hg.ev (x:=x) (fun t h=>h)
 have h3:=(hg.p k (by simp)).trans hk
 refine HC.val rfl fun X ν a w hs=>?_
 have hv:=hs.ev x
 rw[h1,hx] at hv
 simp only[aJ] at hv
 obtain⟨_,b,n,c,hb,hv⟩:=hv
 obtain⟨us,ho,kS,_⟩:=hs.en k _ h3
 have hcell:=sr ho hb
 rw[(E.ok e ei he).cells] at kS
 obtain⟨u,hu,hul,hrl,qI⟩:=WK kS hi ν g2.at
 have hrep':=(qI.drop off).take ti.n
 have eO:((u.drop off).take ti.n).length=ti.n:=by simp;omega
 have hca:lU w b (i*ei.n+off) ((u.drop off).take ti.n):=by
  have h0:=hcell.sub (us':=(u.drop off).take ti.n) (i*ei.n+off) (fun j x hx=>by
   rw[dR] at hx
   split at hx
   ·rw[eV] at hx
    have:=FT us i (off+j) u x kS.hu hu hx
    rw[ki];exact this
   ·cases hx)
  simpa using h0
 subst hsz
 obtain⟨v,ou,hvv⟩:=tm (E.ok t ti ht) w b _ _ eO hca
 refine⟨v,?_,BL hrep' hvv⟩
 simp only[execOp,hv,Instr.loadAt,Instr.sureAddr,Sem.run_bind,Sem.run_pure,Result.andThen_ok,ou]
theorem Zt(t k:Nat)(ti:TI)(ht:E.ti t=some ti)(hk:g.at k=none) :
 mM E.P ⟨some d,.alloc t,ty,pos,fK,gd⟩ g ⟨[],[k]⟩ ⟨some (d,.bA k 0),[(k,.box ti.zero)]⟩:=by
 intro g2 hg
 have h3:=(hg.p k (by simp)).trans hk
 intro X ν a w next Q hs hn
 obtain⟨i,z,h1,h2,h4,h5,h6,h7⟩:=(E.ok t ti ht).info
 have hr:(execOp a.eval ⟨some d,.alloc t,ty,pos,fK,gd⟩).run E.P w= .ok (.value (.pointer (some ⟨w.heap.size,0,none⟩))) (w.alloc (.cells z.cells t)):=by simp[execOp,Instr.alloc,zeroValue,typeInfo,h1,h5,newVar,newRow]
 unfold Oper.wp
 rw[hr,Oper.upon_value]
 refine hn _ _ _ (hs.Bj (lE w _) k h3 (.box ti.zero) ⟨.pointer (some ⟨w.heap.size,0,none⟩),[]⟩ rfl ?_ d _ _ ?_ ?_)
 ·intro b hb
  obtain rfl:w.heap.size=b:=by simpa[Nm.has,zV] using hb
  exact aK _
 ·intro ok st ν' hν hw hm
  exact⟨w.heap.size,z.cells.toList,t,by rw[hν],by rw[vh],by rw[←h6];exact xX _ _ _ _ _,by rw[hν]⟩
 ·intro ok st ν' hν ld hw hm
  simp only[aJ]
  exact⟨by rw[ld];rfl,w.heap.size,by rw[hν],rfl⟩
theorem af0(x:Operand)(t k:Nat)(hk:g.at k=none)(hp:(g.ev x).whole=true) :
 mM E.P ⟨some d,.box t x,ty,pos,fK,gd⟩ g ⟨ez x,[k]⟩ ⟨some (d,.bA k 0),[(k,.box (fJ (g.ev x)))]⟩:=by
 intro g2 hg
 have h1:=hg.ev (x:=x) (fun t h=>h)
 have h3:=(hg.p k (by simp)).trans hk
 intro X ν a w next Q hs hn
 have hv:=hs.ev x
 rw[h1] at hv
 have hr:(execOp a.eval ⟨some d,.box t x,ty,pos,fK,gd⟩).run E.P w= .ok (.value (.pointer (some ⟨w.heap.size,0,none⟩))) (w.alloc (.cells (a.eval x).cells t)):=by simp[execOp,Instr.box,newVar,newRow]
 unfold Oper.wp
 rw[hr,Oper.upon_value]
 refine hn _ _ _ (hs.Bj (lE w _) k h3 (.box (fJ (g.ev x))) ⟨.pointer (some ⟨w.heap.size,0,none⟩),[]⟩ rfl ?_ d _ _ ?_ ?_)
 ·intro b hb
  obtain rfl:w.heap.size=b:=by simpa[Nm.has,zV] using hb
  exact aK _
 ·intro ok st ν' hν hw hm
  refine⟨w.heap.size,(a.eval x).cells.toList,t,by rw[hν],by rw[vh],?_,by rw[hν]⟩
  exact aH.frame hw (lE w _).size hm _ _ (hv.cells hp hs.nu)
 ·intro ok st ν' hν ld hw hm
  simp only[aJ]
  exact⟨by rw[ld];rfl,w.heap.size,by rw[hν],rfl⟩
def DR(cs:List PV)(off:Nat)(vs:List PV):List PV:=cs.take off++(vs++cs.drop (off+vs.length))
theorem zq{t:TypeId}{ti:TI}(ht:TI.Ok E.P t ti)(w:World)(b off:Nat)(T:TypeId)(cur:Array Value)(v:Value)(hg:w.heap[b]?=some (.cells cur T (0,0)))(hv:v.cells.toList.length=ti.n)
 (hfit:off+ti.n≤cur.size) (h1:∀u∈v.cells.toList,u.oneCell'=true) :
 (storeVar t ⟨b,off,none⟩ v).run E.P w= .ok () (w.setRow b (cur.toList.take off++v.cells.toList++cur.toList.drop (off+v.cells.toList.length)).toArray):=by
 have ld:=run_storeCells_at E.P b off T v.cells.toList 0 cur w hg oM h1
 simp only[jw] at ld
 have hsz:v.cells.size=ti.n:=by simpa using hv
 simp only[storeVar,Sem.run_bind,ht.size w,Result.andThen_ok,hsz,ne_eq,not_true_eq_false,if_false,ld]
theorem mE(w:World)(b:Nat)(cs:Array Value)(B:Nat→Prop)(hB:B b):vg B w (w.setRow b cs):=
 ⟨rfl,rfl,rfl,by simp[World.setRow],fun k _ hn=>setRow_other w b k cs (fun e=>hn (e▸hB))⟩
theorem PL(x y:Operand)(t k off:Nat)(ti:TI)(cs:List PV)(p:PV)(ht:E.ti t=some ti)(hx:g.ev x= .bA k off)(hk:g.at k=some (.box cs))(hy:g.ev y=p)(hl:off+ti.n≤cs.length)
 (hp:p.whole=true) (hn:(fJ p).length=ti.n) (h1:yu (fJ p)=true) :
 mM E.P ⟨dn,.store t x y,ty,pos,fK,gd⟩ g ⟨ez x++ez y++dn.toList,[k]⟩ ⟨dn.map fun d=>(d,.undef),[(k,.box (DR cs off (fJ p)))]⟩:=by
 intro g2 hg
 have e1:=hg.ev (x:=x) (fun t h=>by simp[h])
 have e2:=hg.ev (x:=y) (fun t h=>by simp[h])
 have h3:=(hg.p k (by simp)).trans hk
 intro X ν a w next Q hs hnx
 have hv:=hs.ev x
 rw[e1,hx] at hv
 have hw:=hs.ev y
 rw[e2,hy] at hw
 simp only[aJ] at hv
 obtain⟨_,b,hb,hv⟩:=hv
 obtain⟨b',vs,T,hb',hheap,qI,hf0⟩:=hs.en k _ h3
 obtain rfl:b'=b:=by rw[hb'] at hb;simpa using hb
 have sk:=hw.cells hp hs.nu
 have eO:=sk.length
 have hvl:=qI.length
 have ou:=zq (E.ok t ti ht) w b' off T ⟨vs⟩ (a.eval y) hheap (by rw[eO,hn]) (by simpa[hvl] using hl) (sk.yu h1 hs.nu)
 have hr:(execOp a.eval ⟨dn,.store t x y,ty,pos,fK,gd⟩).run E.P w= .ok .skip (w.setRow b' (vs.take off++(a.eval y).cells.toList++vs.drop (off+(a.eval y).cells.toList.length)).toArray):=by simp only[execOp,hv,Instr.storeAt,Instr.sureAddr,Sem.run_bind,Sem.run_pure,Result.andThen_ok,ou]
 unfold Oper.wp
 rw[hr,Oper.upon_skip]
 refine hnx _ _ _ (hs.Gh k (.box cs) (.box (DR cs off (fJ p))) h3 rfl (mE w b' _ _ ((mi hf0).2 (by rw[hb'];rfl))) dn .undef Go.undef ?_ ?_)
 ·intro hwf hm
  refine⟨b',_,T,hb',setRow_heap w b' _ _ T _ hheap,?_,hf0⟩
  refine aH.frame hwf (by simp[World.setRow]) hm _ _ ?_
  rw[bC,eO]
  exact(qI.take off).append (sk.append (qI.drop _))
 ·intro _
  simp only[aJ]
end
section
variable{E:Env}{g:G}{d:Nat}{ty:TypeId}{pos:String}{fK:Array Edge}{gd:Option (Nat×Bool)}{dn:Option Nat}
theorem aH.get{w:World}{ok:Nat→Prop}{ν:Nat→Nm}{st:Nat→Option En}:∀{ps:List PV}{vs:List Value}{n:Nat}{p:PV},aH w ok ν st ps vs→ps[n]?=some p→∃v,vs[n]?=some v∧aJ w ok ν st p v
 | [],[],n,p,_,hp=>by simp at hp
 | [],_::_,_,_,h,_=>by simp[aH] at h
 | _::_,[],_,_,h,_=>by simp[aH] at h
 | p::ps,v::vs,0,q,h,hq=>by
  simp only[aH] at h;obtain rfl:p=q:=by simpa using hq
  exact⟨v,rfl,h.1⟩
 | p::ps,v::vs,n+1,q,h,hq=>by simp only[aH] at h;obtain⟨u,h1,h2⟩:=aH.get (n:=n) h.2 (by simpa using hq);exact⟨u,by simpa using h1,h2⟩
theorem TZ(x:Operand)(i:Nat)(ps:List PV)(p:PV)(hx:g.ev x= .iZ ps)(hp:ps[i]?=some p) :
 mM E.P ⟨some d,.extract x i,ty,pos,fK,gd⟩ g ⟨ez x,[]⟩ ⟨some (d,p),[]⟩:=
 tH rfl hx fun X ν g a w _ hv=>by simp only[aJ] at hv;obtain⟨vs,hv,hr⟩:=hv;obtain⟨v,h1,h2⟩:=hr.get hp;refine⟨v,?_,h2⟩;simp[execOp,hv,Instr.extract,h1]
theorem yh{t:TypeId}{ti:TI}(h:TI.Ok E.P t ti)(w:World)(cs:List Value)(off:Nat)(hl:off+ti.n≤cs.length) :
 ∃v,(part t ⟨cs⟩ off).run E.P w= .ok v w∧(if ti.isAgg then v= .agg ⟨(cs.drop off).take ti.n⟩ else(cs.drop off).take ti.n=[v]):=by
 by_cases ha:ti.isAgg=true
 ·refine⟨_,?_,by rw[if_pos ha]⟩
  simp only[part,Sem.run_bind,h.agg w,Result.andThen_ok,ha,if_true,h.size w]
  simp[List.drop_take]
 ·have ha':ti.isAgg=false:=by simpa using ha
  have h1:=h.one ha'
  have nS:off<cs.length:=oM
  refine⟨cs[off],?_,?_⟩
  ·simp only[part,Sem.run_bind,h.agg w,Result.andThen_ok,ha',au,if_false]
   simp[nS]
  ·rw[ha',h1]
   simp only[au,if_false]
   rw[List.drop_eq_getElem_cons nS]
   rfl
theorem aaS(x:Operand)(s f:Nat)(si:TI)(fs:List (Nat×Nat×Nat))(ft fo fz:Nat)(fi:TI)(cs:List PV)(hs:E.ti s=some si)(rG:si.ty= .struct fs)(hf:fs[f]?=some (ft,fo,fz))(hfi:E.ti ft=some fi)(hx:g.ev x= .agg cs)
 (hl:fo+fi.n≤cs.length) :
 mM E.P ⟨some d,.field s x f,ty,pos,fK,gd⟩ g ⟨ez x,[]⟩ ⟨some (d,W5 fi.isAgg ((cs.drop fo).take fi.n)),[]⟩:=
 tH rfl hx fun X ν g a w _ hv=>by simp only[aJ] at hv;obtain⟨vs,hv,hr⟩:=hv;have h:=(E.ok s si hs).ty;rw[rG] at h;obtain⟨fields,hu,_,hfs⟩:=h;obtain⟨fd,h1,h2,h3,h4,h5⟩:=hfs f ft fo fz hf;obtain⟨v,ou,hvv⟩:=yh (E.ok ft fi hfi) w vs fo (by rw[hr.length];exact hl);refine⟨v,?_,BL ((hr.drop fo).take fi.n) hvv⟩;simp only[execOp,hv,Instr.field,Sem.run_bind,run_underlying hu,Result.andThen_ok,h1,asAgg,Sem.run_pure,h2,h3,ou]
theorem Fk{P:Program}{X:Cx}{ν:Nat→Nm}{g:G}{a:Act}{w:World}(h:Sat P X ν g a w):∀(xs:List Operand),aH w (dk X ν g.at) ν g.at (xs.map g.ev) (xs.map a.eval)
 | []=>by simp[aH]
 | x::xs=>by simp only[aV,aH];exact⟨h.ev x,Fk h xs⟩
theorem x8{R:Rd}{g g2:G}(h:FF R g g2):∀(xs:List Operand),(∀t∈xs.flatMap ez,t∈R.s)→xs.map g2.ev=xs.map g.ev
 | [],_=>rfl
 | x::xs,hx=>by simp only[aV];rw[h.ev (x:=x) (fun t ht=>hx t (by simp[ht])),x8 h xs (fun t ht=>hx t (by simp only[List.flatMap_cons,aO];exact .inr ht))]
theorem Sc(f:Nat)(cs:List Operand) :
 mM E.P ⟨some d,.makeFunc (.func f) #[] ⟨cs⟩,ty,pos,fK,gd⟩ g ⟨cs.flatMap ez,[]⟩ ⟨some (d,.fn f (cs.map g.ev)),[]⟩:=by
 intro g2 hg
 rw[←x8 hg cs (fun t h=>h)]
 refine HC.val rfl fun X ν a w hs=>⟨.func (.func f) #[] ⟨cs.map a.eval⟩,by simp[execOp,Instr.makeFunc],?_⟩
 simp only[aJ]
 exact⟨_,rfl,Fk hs cs⟩
theorem I7(x:Operand)(k off:Nat)(hx:g.ev x= .bA k off):mM E.P ⟨some d,.nilCheck x,ty,pos,fK,gd⟩ g ⟨ez x,[]⟩ ⟨some (d,.bA k off),[]⟩:=
 tH rfl hx fun X ν g a w _ hv=>by have hv':=hv;simp only[aJ] at hv;obtain⟨_,b,_,hv⟩:=hv;exact⟨a.eval x,by simp[execOp,hv],hv'⟩
theorem Hj(x:Operand)(xs:List (List D))(i off:Nat)(hx:g.ev x= .ib xs i off):mM E.P ⟨some d,.nilCheck x,ty,pos,fK,gd⟩ g ⟨ez x,[]⟩ ⟨some (d,.ib xs i off),[]⟩:=
 tH rfl hx fun X ν g a w _ hv=>by have hv':=hv;simp only[aJ] at hv;obtain⟨b,o,cap,_,_,hv⟩:=hv;exact⟨a.eval x,by simp[execOp,hv],hv'⟩
theorem F6(x:Operand)(k i off sz:Nat)(hx:g.ev x= .jg k i off sz):mM E.P ⟨some d,.nilCheck x,ty,pos,fK,gd⟩ g ⟨ez x,[]⟩ ⟨some (d,.jg k i off sz),[]⟩:=
 tH rfl hx fun X ν g a w _ hv=>by have hv':=hv;simp only[aJ] at hv;obtain⟨_,b,_,_,_,hv⟩:=hv;exact⟨a.eval x,by simp[execOp,hv],hv'⟩
theorem run_len_slice{s:TypeId}{e:TypeId}(h:E.P.underlying s=some (.slice e))(a:Option Addr)(n c:Nat)(t:TypeId)(w:World):(Builtin.len_ #[s] t #[.slice a n c]).run E.P w= .ok (.int .i64 n) w:=by simp[Builtin.len_,run_underlying h,goInt]
theorem An{o:Oper}{x:Operand}{s:TypeId}(ho:o.op= .call { callee:=.builtin .len,args:=#[x],argTypes:=#[s] })(a:Act)(w:World)(v:Value)(h:(Builtin.len_ #[s] o.type #[a.eval x]).run E.P w= .ok v w) :
 (execOp a.eval o).run E.P w= .ok (.value v) w:=by
 unfold execOp
 simp only[ho,resolve,invoke,builtin,Sem.run_bind,Sem.run_pure,Result.andThen_ok,List.map_toArray,aV,List.map_nil,h]
theorem V0(x:Operand)(s:Nat)(si:TI)(e:Nat)(xs:List (List D))(hs:E.ti s=some si)(rG:si.ty= .slice e)(hx:g.ev x= .d (.eC xs)) :
 mM E.P ⟨some d,.call ⟨.builtin .len,#[x],#[s]⟩,ty,pos,fK,gd⟩ g ⟨ez x,[]⟩ ⟨some (d,.d (.val (.int .i64 (xs.length:Int)))),[]⟩:=
 tH rfl hx fun X ν g a w _ hv=>by have hu:=(E.ok s si hs).ty;rw[rG] at hu;simp only[aJ] at hv;refine⟨_,An rfl a w _ ?_,qd rfl⟩;rcases hv.zz with⟨rfl,_,_,h,_⟩|⟨us,b,off,cap,sz,h,_⟩;rw[h];exact run_len_slice hu _ _ _ _ _;rw[h];exact run_len_slice hu _ _ _ _ _
theorem VE(x:Operand)(s:Nat)(si:TI)(e:Nat)(hs:E.ti s=some si)(rG:si.ty= .slice e)(hx:g.ev x= .bW) :
 mM E.P ⟨some d,.call ⟨.builtin .len,#[x],#[s]⟩,ty,pos,fK,gd⟩ g ⟨ez x,[]⟩ ⟨some (d,.d (.val (.int .i64 0))),[]⟩:=
 tH rfl hx fun X ν g a w _ hv=>by have hu:=(E.ok s si hs).ty;rw[rG] at hu;simp only[aJ] at hv;exact⟨_,An rfl a w _ (by rw[hv];exact run_len_slice hu _ _ _ _ _),qd rfl⟩
theorem Ye{P:Program}{X:Cx}{ν:Nat→Nm}{g:G}{a:Act}{w:World}(h:Sat P X ν g a w){k e:Nat}{xs:List (List D)}(hk:g.at k=some (.aX e xs)) :
 ∃b c,(ν k).v= .slice b xs.length c:=by
 obtain⟨us,ho,_⟩:=h.en k _ hk
 rcases ho.2 with⟨h1,h2⟩|⟨b,cap,cur,h1,_⟩
 ·exact⟨none,0,by rw[h1,h2]⟩
 ·exact⟨_,cap,h1⟩
theorem Uv(x:Operand)(s:Nat)(si:TI)(e' e k:Nat)(xs:List (List D))(hs:E.ti s=some si)(rG:si.ty= .slice e')(hx:g.ev x= .aX k)(hk:g.at k=some (.aX e xs)) :
 mM E.P ⟨some d,.call ⟨.builtin .len,#[x],#[s]⟩,ty,pos,fK,gd⟩ g ⟨ez x,[k]⟩ ⟨some (d,.d (.val (.int .i64 (xs.length:Int)))),[]⟩:=by
 intro g2 hg
 have h1:=hg.ev (x:=x) (fun t h=>by simp[h])
 have h3:=(hg.p k (by simp)).trans hk
 refine HC.val rfl fun X ν a w hs'=>?_
 have hu:=(E.ok s si hs).ty
 rw[rG] at hu
 have hv:=hs'.ev x
 rw[h1,hx] at hv
 simp only[aJ] at hv
 obtain⟨b,c,hb⟩:=Ye hs' h3
 exact⟨_,An rfl a w _ (by rw[hv.2,hb];exact run_len_slice hu _ _ _ _ _),qd rfl⟩
theorem size_mk(l:List UInt8):(⟨l.toArray⟩:ByteArray).size=l.length:=by show l.toArray.size=l.length;simp
theorem Vq(x:Operand)(s:Nat)(si:TI)(l:List UInt8)(hs:E.ti s=some si)(rG:si.ty= .str)(hx:g.ev x= .d (.str l)) :
 mM E.P ⟨some d,.call ⟨.builtin .len,#[x],#[s]⟩,ty,pos,fK,gd⟩ g ⟨ez x,[]⟩ ⟨some (d,.d (.val (.int .i64 (l.length:Int)))),[]⟩:=
 tH rfl hx fun X ν g a w _ hv=>by have hu:=(E.ok s si hs).ty;rw[rG] at hu;have h1:=(yL hv).1;exact⟨_,An rfl a w _ (by rw[h1];simp[Builtin.len_,run_underlying hu,goInt,size_mk]),qd rfl⟩
theorem aeA{o:Oper}{x y:Operand}{l m:List UInt8}{r:Value}(hd:o.dst=some d)(hx:g.ev x= .d (.str l))(hy:g.ev y= .d (.str m))(hr:r.oneCell'=true)
 (h:∀(a:Act)(w:World),a.eval x= .string ⟨l.toArray⟩→a.eval y= .string ⟨m.toArray⟩→(execOp a.eval o).run E.P w= .ok (.value r) w):mM E.P o g ⟨ez x++ez y,[]⟩ ⟨some (d,.d (.val r)),[]⟩:=
 Kq hd hx hy fun X ν g a w _ hv oI=>⟨r,h a w (yL hv).1 (yL oI).1,qd hr⟩
def agW:BinOp→List UInt8→List UInt8→Option Bool
 | .eql,l,m=>some (l == m)
 | .neq,l,m=>some (!(l == m))
 | .lss,l,m=>some (Op.bytesLess l m)
 | .leq,l,m=>some (Op.bytesLess l m||l == m)
 | .gtr,l,m=>some (!(Op.bytesLess l m||l == m))
 | .geq,l,m=>some (!Op.bytesLess l m)
 | _,_,_=>none
theorem toList_mk(l:List UInt8):(⟨l.toArray⟩:ByteArray).toList=l:=by rw[ByteArray.toList_eq]
theorem aee(op:BinOp)(x y:Operand)(l m:List UInt8)(b:Bool)(t u:TypeId)(hx:g.ev x= .d (.str l))(hy:g.ev y= .d (.str m))(hb:agW op l m=some b) :
 mM E.P ⟨some d,.binOp op t x y u,ty,pos,fK,gd⟩ g ⟨ez x++ez y,[]⟩ ⟨some (d,.d (.val (.bool b))),[]⟩:=
 aeA rfl hx hy rfl fun a w h1 h2=>by
  cases op<;>simp only[agW] at hb<;>first
   | (cases hb;done)
   | (obtain rfl:=Option.some.inj hb;simp[execOp,h1,h2,eqGuard,binOp,Op.stringOp,toList_mk])
theorem afC(x y:Operand)(l m:List UInt8)(t u:TypeId)(hx:g.ev x= .d (.str l))(hy:g.ev y= .d (.str m))(hl:l.length+m.length≤LB) :
 mM E.P ⟨some d,.binOp .add t x y u,ty,pos,fK,gd⟩ g ⟨ez x++ez y,[]⟩ ⟨some (d,.d (.str (l++m))),[]⟩:=
 Kq rfl hx hy fun X ν g a w _ hv oI=>by have h1:=(yL hv).1;have h2:=(yL oI).1;refine⟨.string ⟨(l++m).toArray⟩,?_,by simp only[aJ];exact .str _ (by simpa using hl)⟩;have hsz:¬ (((⟨l.toArray⟩:ByteArray).size+(⟨m.toArray⟩:ByteArray).size:Nat):Int)>IntKind.i64.max:=(by rw[size_mk,size_mk];simp only[IntKind.max,IntKind.signed,IntKind.bits];unfold LB at hl;omega);have happ:(⟨l.toArray⟩:ByteArray)++(⟨m.toArray⟩:ByteArray)=⟨(l++m).toArray⟩:=(by apply ByteArray.ext;simp);have hr:(Op.stringOp .add ⟨l.toArray⟩ ⟨m.toArray⟩).run E.P w= .ok (.string ⟨(l++m).toArray⟩) w:=(by simp only[Op.stringOp];rw[if_neg hsz,happ];rfl);simp only[execOp,h1,h2,eqGuard,binOp,Sem.run_bind];simp[hr]
end
theorem ac2{w:World}{ok:Nat→Prop}{ν:Nat→Nm}{st:Nat→Option En}{p:PV}{x:D}{v:Value}(h:aJ w ok ν st p v)(hx:toD p=some x):jD w ok x v:=by
 cases p<;>simp only[toD] at hx<;>first|(cases hx;done)|skip
 obtain rfl:=Option.some.inj hx;simp only[aJ] at h;subst h;exact .nil;obtain rfl:=Option.some.inj hx;simpa only[aJ] using h
theorem AM{w:World}{ok:Nat→Prop}{ν:Nat→Nm}{st:Nat→Option En}:∀{ps:List PV}{xs:List D}{vs:List Value},aH w ok ν st ps vs→Dp ps=some xs→aH w ok ν st (dm xs) vs
 | [],xs,[],_,h=>by simp[Dp] at h;subst h;simp[dm,aH]
 | [],_,_::_,h,_=>by simp[aH] at h
 | _::_,_,[],h,_=>by simp[aH] at h
 | p::ps,xs,v::vs,h,hx=>by simp only[Dp] at hx;simp only[aH] at h;split at hx;rename_i x xs' h1 h2;obtain rfl:=Option.some.inj hx;simp only[dm,aV,aH,aJ];exact⟨ac2 h.1 h1,AM h.2 h2⟩;cases hx
theorem Fo{w:World}{ok:Nat→Prop}{ν:Nat→Nm}{st:Nat→Option En}:∀{xs:List D}{vs:List Value},aH w ok ν st (dm xs) vs →
 vs.length=xs.length∧∀(j:Nat)(d:D)(v:Value),xs[j]?=some d→vs[j]?=some v→jD w ok d v
 | [],[],_=>⟨rfl,by simp⟩
 | [],_::_,h=>by simp[dm,aH] at h
 | _::_,[],h=>by simp[dm,aH] at h
 | x::xs,v::vs,h=>by
  simp only[dm,aV,aH,aJ] at h;obtain⟨h1,h2⟩:=Fo (xs:=xs) h.2;refine⟨by simp[h1],fun j d u hd hu=>?_⟩;cases j with
  | zero=>
   obtain rfl:x=d:=by simpa using hd
   obtain rfl:v=u:=by simpa using hu
   exact h.1
  | succ j=>exact h2 j d u (by simpa using hd) (by simpa using hu)
theorem de.nil(w:World)(ok:Nat→Prop)(sz:Nat):de w ok sz [] []:=⟨rfl,by simp,by simp,by simp⟩
theorem de.cons{w:World}{ok:Nat→Prop}{sz:Nat}{x:List D}{u:List Value}{xs:List (List D)}{us:List (List Value)}(h:de w ok sz xs us)(hx:x.length=sz)(hu:u.length=sz)
 (hr:∀(j:Nat)(d:D)(v:Value),x[j]?=some d→u[j]?=some v→jD w ok d v):de w ok sz (x::xs) (u::us):=by
 refine⟨by simp[h.len],fun i y hy=>?_,fun i y hy=>?_,fun i j y z d v h1 h2 h3 h4=>?_⟩
 ·cases i with
  | zero=>obtain rfl:x=y:=by simpa using hy
          exact hx
  | succ i=>exact h.hx i y (by simpa using hy)
 ·cases i with
  | zero=>obtain rfl:u=y:=by simpa using hy
          exact hu
  | succ i=>exact h.hu i y (by simpa using hy)
 ·cases i with
  | zero=>
   obtain rfl:x=y:=by simpa using h1
   obtain rfl:u=z:=by simpa using h2
   exact hr j d v h3 h4
  | succ i=>exact h.hr i j y z d v (by simpa using h1) (by simpa using h2) h3 h4
theorem de.append{w:World}{ok:Nat→Prop}{sz:Nat}:∀{xs ys:List (List D)}{us vs:List (List Value)},de w ok sz xs us→de w ok sz ys vs→de w ok sz (xs++ys) (us++vs)
 | [],_,[],_,_,h=>h
 | [],_,_::_,_,h,_=>by have:=h.len;simp at this
 | _::_,_,[],_,h,_=>by have:=h.len;simp at this
 | x::xs,ys,u::us,vs,h,h'=>by
  have h2:de w ok sz xs us:=⟨by have:=h.len;simpa using this,fun i y hy=>h.hx (i+1) y (by simpa using hy),fun i y hy=>h.hu (i+1) y (by simpa using hy),
   fun i j a b c d h1 h2 h3 h4=>h.hr (i+1) j a b c d (by simpa using h1) (by simpa using h2) h3 h4⟩
  exact(de.append h2 h').cons (h.hx 0 x rfl) (h.hu 0 u rfl) fun j d v h3 h4=>h.hr 0 j x u d v rfl rfl h3 h4
theorem de.mZ{w:World}{ok:Nat→Prop}{sz:Nat}:∀{xs:List (List D)}{us:List (List Value)},de w ok sz xs us→us.flatten.length=xs.length*sz
 | [],[],_=>by simp
 | [],_::_,h=>by have:=h.len;simp at this
 | _::_,[],h=>by have:=h.len;simp at this
 | x::xs,u::us,h=>by
  have h2:de w ok sz xs us:=⟨by have:=h.len;simpa using this,fun i y hy=>h.hx (i+1) y (by simpa using hy),fun i y hy=>h.hu (i+1) y (by simpa using hy),
   fun i j a b c d h1 h2 h3 h4=>h.hr (i+1) j a b c d (by simpa using h1) (by simpa using h2) h3 h4⟩
  rw[fw,aP,de.mZ h2,h.hu 0 u rfl,List.length_cons,dx];omega
theorem de.one{w:World}{ok:Nat→Prop}{sz:Nat}{xs:List (List D)}{us:List (List Value)}(h:de w ok sz xs us):∀v∈us.flatten,v.oneCell'=true:=by
 intro v hv;obtain⟨u,hu,hv⟩:=List.mem_flatten.1 hv;obtain⟨i,hi,rfl⟩:=List.getElem_of_mem hu;obtain⟨j,hj,rfl⟩:=List.getElem_of_mem hv;have hi':i<xs.length:=by rw[←h.len];exact hi
 have hx:xs[i]?=some xs[i]:=af hi';have hu':us[i]?=some us[i]:=af hi;have hj':j<(xs[i]).length:=by rw[h.hx i _ hx,←h.hu i _ hu'];exact hj
 exact(h.hr i j _ _ _ _ hx hu' (af hj') (af hj)).one
def BS(w:World)(v:Value)(us:List (List Value)):Prop:=
 ((∃a c,v= .slice a 0 c)∧us=[])∨∃b off c,v= .slice (some ⟨b,off,none⟩) us.length c∧lU w b off us.flatten
section
variable{E:Env}
theorem Dm{t e:TypeId}{i:TypeInfo}(ht:E.P.underlying t=some (.slice e))(hi:E.P.info? e=some i)(w:World)(ty:TypeId)(b:Option Addr)(n c:Nat)(h:n≤c)(a:Option Addr)(c':Nat) :
 (Builtin.append_ #[t,t] ty #[.slice b n c,.slice a 0 c']).run E.P w= .ok (.slice b n c) w:=by
 cases b with
 | none=>cases a<;>simp[Builtin.append_,run_underlying ht,sizeOf,typeInfo,hi,Builtin.lenOf,Builtin.firstCells,h,loadCells,loadCellsFrom]
 | some b=>cases a<;>simp[Builtin.append_,run_underlying ht,sizeOf,typeInfo,hi,Builtin.lenOf,Builtin.firstCells,h,storeCells,loadCells,loadCellsFrom]
theorem OK{P:Program}(w:World){e:TypeId}{i:TypeInfo}{z:Value}(hzs:z.cells.size=i.size)(n m old:Nat)(xs news:List Value)(hx:xs.length=n*i.size)(hl:news.length=m*i.size)(h63:n+m≤maxLen) :
 (w.drew.alloc (.cells (xs.toArray++news.toArray++Builtin.zeroCells z.cells (grownCap w (n+m) old e-(n+m))) e)).ownsRow 0 e i.size
  (.slice (some ⟨w.heap.size,0,none⟩) (n+m) (grownCap w (n+m) old e)) (n+m) (xs++news):=by
 have hge:=grownCap_ge w (n+m) old e
 have hcm:grownCap w (n+m) old e≤maxLen:=grownCap_le_maxLen w (n+m) old e h63
 have eO:(xs++news).length=(n+m)*i.size:=by rw[aP,hx,hl,dx]
 refine⟨eO,.inr ⟨w.heap.size,_,_,rfl,bo _,heap_alloc_new w.drew _,hge,hcm,?_,?_⟩⟩
 ·simp only[Array.size_append,fx,size_zeroCells,hzs,hx,hl,←dx]
  congr 1
  omega
 ·simp only[Array.toList_append,bC]
  rw[←bC,←eO]
  exact List.take_left
theorem On(w:World)(o:Obj)(B:Nat→Prop):vg B w (w.drew.alloc o):=
 ((FI w).mono fun _ h _=>h.elim).trans ((lE w.drew o).mono (B':=B) fun _ h _=>h.elim) (fun _ h _=>h)
theorem rk{t e:TypeId}{ti ei:TI}(ht:E.ti t=some ti)(mI:ti.ty= .slice e)(he:E.ti e=some ei)(w:World)(ty:TypeId)(v x:Value)(n:Nat)(us:List Value)(ys:List (List D))(vs:List (List Value))(ok:Nat→Prop)
 (jU:w.ownsRow 0 e ei.n v n us) (kS:de w ok ei.n ys vs) (hx:BS w x vs) (hlb:n+ys.length≤LB) (hby:(n+ys.length)*ei.bytes≤140737488355328) :
 ∃v' w',(Builtin.append_ #[t,t] ty #[v,x]).run E.P w= .ok v' w'∧w'.ownsRow 0 e ei.n v' (n+ys.length) (us++vs.flatten)∧vg (fun b=>zV v=some b) w w' ∧
  (∀b,zV v'=some b→zV v=some b∨w.heap.size≤b):=by
 have hu:=(E.ok t ti ht).ty
 rw[mI] at hu
 obtain⟨i,z,h1,h2,h3,h4,h5,h6⟩:=(E.ok e ei he).info
 have hpos:=(E.ok e ei he).pos
 rcases hx with⟨⟨xa,xc,rfl⟩,hvs⟩|⟨b,off,c,rfl,hc⟩
 ·subst hvs
  have hy:ys=[]:=bR (by have:=kS.len;simpa using this.symm)
  subst hy
  have hv:∃b c,v= .slice b n c∧n≤c:=by rcases jU.2 with⟨h7,h8⟩|⟨g,cap,cur,h7,_,_,h8,_⟩;exact⟨none,0,by rw[h7,h8],oM⟩;exact⟨_,cap,h7,h8⟩
  obtain⟨b,c,hv,hnc⟩:=hv
  refine⟨v,w,?_,by simpa using jU,vg.refl _ w,fun b hb=>.inl hb⟩
  rw[hv]
  exact Dm hu h1 w ty b n c hnc xa xc
 ·have hm:n+vs.length≤maxLen:=by rw[kS.len];unfold LB at hlb;simp only[maxLen];omega
  rw[←kS.len] at hby⊢
  have hl:vs.flatten.length=vs.length*i.size:=by rw[kS.mZ,kS.len,h2]
  have hnews:∀j u,vs.flatten[j]?=some u→w.cell? ((⟨b,off,none⟩:Addr).add j)=some u:=fun j u hj=>by rw[add_lit];exact hc j u hj
  have hone:=kS.one
  rw[←h3] at hby
  rw[←h2] at jU h6 hpos⊢
  have hsmall:n+vs.length≤9223372036854775807:=by simp only[maxLen] at hm;omega
  generalize vs.length=m at hl hm hby hsmall⊢
  generalize vs.flatten=news at hl hnews hone⊢
  rcases jU.2 with⟨rfl,rfl⟩|⟨gb,cap,cur,rfl,hbg,hg,hnc,hcm,hcs,htake⟩
  ·have hx:us=[]:=bR (by simpa using jU.1)
   subst hx
   by_cases hm0:m=0
   ·subst hm0
    have hn:news=[]:=bR (by simpa using hl)
    subst hn
    refine⟨.slice none 0 0,w,?_,World.ownsRow_nil w 0 e i.size,vg.refl _ w,fun b hb=>.inl hb⟩
    simp[Builtin.append_,run_underlying hu,sizeOf,typeInfo,h1,Builtin.lenOf,Builtin.firstCells,loadCells,loadCellsFrom]
   ·have hr:=run_append_nil (P:=E.P) w t ty e i z hu h1 h4 ⟨b,off,none⟩ m c news hl hnews oM oM (by have hb:=hby;simp only[eu] at hb;omega)
    have hgr:=OK (P:=E.P) w (e:=e) h6 0 m 0 [] news (by simp) hl hm
    simp only[eu,List.nil_append,Array.empty_append] at hgr⊢
    refine⟨_,_,hr,hgr,On w _ _,fun b hb=>.inr ?_⟩
    obtain rfl:w.heap.size=b:=by simpa[zV] using hb
    exact aK _
  ·have eO:(us++news).length=(n+m)*i.size:=by rw[aP,jU.1,hl,dx]
   by_cases hroom:n+m≤cap
   ·have hfit:n*i.size+news.length≤cur.size:=by rw[hl,hcs,←dx];exact Nat.mul_le_mul_right _ hroom
    have hr:=run_append_room (P:=E.P) w t ty e i hu h1 gb n cap cur hg ⟨b,off,none⟩ m c news hl hnews hone hroom hfit
    refine⟨_,_,hr,⟨eO,.inr ⟨gb,cap,_,rfl,hbg,setRow_heap w gb cur _ e _ hg,hroom,hcm,?_,?_⟩⟩,mE w gb _ _ rfl,fun b hb=>.inl hb⟩
    ·simp only[fx,aP,List.length_take,List.length_drop,Array.length_toList]
     omega
    ·rw[htake,←eO]
     exact List.take_left
   ·have holds:∀j u,us[j]?=some u→w.cell? ((⟨gb,0,none⟩:Addr).add j)=some u:=jU.cells (g:=gb) rfl
    have hr:=run_append_grow (P:=E.P) w t ty e i z hu h1 h4 ⟨gb,0,none⟩ n cap us jU.1 holds ⟨b,off,none⟩ m c news hl hnews oM oM (growslice_fits oM hby)
    have hgr:=OK (P:=E.P) w (e:=e) h6 n m cap us news jU.1 hl hm
    refine⟨_,_,hr,hgr,On w _ _,fun b hb=>.inr ?_⟩
    obtain rfl:w.heap.size=b:=by simpa[zV] using hb
    exact aK _
end
end Go.Eng
