/-
  The symbolic layer, first text: data by value, what a slot and an owned block hold, and how a real world fits them. No program is named here.
-/
import Derived.WalkKit
import Derived.Laws.AppendOwn
import Derived.Below
import GoSem.Claims
import Derived.ChangeKeysEq
import Derived.IntWalk
import Derived.WalkSpells
import Derived.Laws.MakeOwn
import Derived.Laws.OwnMore
import Derived.Laws.Tables
set_option linter.unusedVariables false
set_option linter.unusedSimpArgs false
open Bool renaming false_eq_true→aw
open List renaming getElem?_eq_getElem→af,mem_append→aP,map_cons→aQ,length_append→aR,append_assoc→bj,eq_nil_of_length_eq_zero→bG,getD→ct,getElem?_take→c9,getElem?_drop→dD,flatten_cons→eH,size_toArray→eJ
open Nat renaming le_refl→aJ,zero_le→bc,lt_or_ge→bV,add_mul→cY,zero_add→di,le_trans→eO,add_zero→hQ,lt_of_lt_of_le→iA,add_assoc→iP
namespace Go.Eng
open Go.RowKit
def LB:Nat:=1099511627776
theorem jZ:LB=1099511627776:=rfl
inductive D where
 | val(v:Value)
 | str(s:List UInt8)
 | dC(xs:List (List D))
inductive T where
 | leaf(d:D)
 | ref(j:Nat)
 | own(e:TypeId)(xs:List (List T))
structure Nm where
 v:Value
 f:List Nat
inductive PV where
 | any
 | undef
 | b6
 | d(x:D)
 | agg(cs:List PV)
 | gV(cs:List PV)
 | ptr(k off:Nat)
 | acc(k:Nat)
 | gM(k i off sz:Nat)
 | gy(xs:List (List D))(i off:Nat)
 | fn(f:Nat)(cap:List PV)
inductive En where
 | box(cs:List PV)
 | acc(e:TypeId)(xs:List (List D))
 | fw(e:TypeId)(xs:List (List T))
 | map(sR:List (Int×Value))
 | dead
structure G where
 sl:List PV
 st:List (Option En)
def jW(w:World)(b off:Nat)(us:List Value):Prop:=∀j u,us[j]?=some u→w.cell? ⟨b,off+j,none⟩=some u
inductive ij(w:World)(ok:Nat→Prop):D→Value→Prop where
 | val(v:Value)(h:v.oneCell'=true):ij w ok (.val v) v
 | str(l:List UInt8)(h:l.length≤LB):ij w ok (.str l) (.string ⟨l.toArray⟩)
 | nil:ij w ok (.dC []) (.slice none 0 0)
 | emp(a:Addr)(c:Nat)(h:c≤maxLen):ij w ok (.dC []) (.slice (some a) 0 c)
 | dC(xs:List (List D))(us:List (List Value))(b off cap sz:Nat)(e7:ok b)(hb:b<w.heap.size)(jX:xs.length≤cap)(hmax:cap≤maxLen)(hB:xs.length≤LB)
  (hl:us.length=xs.length) (hx:∀(i:Nat)(x:List D),xs[i]?=some x→x.length=sz) (hu:∀(i:Nat)(u:List Value),us[i]?=some u→u.length=sz)
  (hc:jW w b off us.flatten)
  (hr:∀(i j:Nat)(x:List D)(u:List Value)(d:D)(v:Value),xs[i]?=some x→us[i]?=some u→x[j]?=some d→u[j]?=some v→ij w ok d v) :
  ij w ok (.dC xs) (.slice (some ⟨b,off,none⟩) xs.length cap)
theorem jW.frame{w w':World}{b off:Nat}{us:List Value}(h:jW w b off us)(hw:w'.heap[b]?=w.heap[b]?):jW w' b off us:=
 fun j u hu=>(World.cell?_of_block (w:=w) (a:=⟨b,off+j,none⟩) hw).trans (h j u hu)
theorem ij.frame{w w':World}{ok ok':Nat→Prop}{d:D}{v:Value}(h:ij w ok d v)
 (hw:∀b,ok b→b<w.heap.size→ok' b∧w'.heap[b]?=w.heap[b]?) (hs:w.heap.size≤w'.heap.size):ij w' ok' d v:=by
 induction h with
 | val v h=>exact .val v h
 | str l h=>exact .str l h
 | nil=>exact .nil
 | emp a c h=>exact .emp a c h
 | dC xs us b off cap sz e7 hb jX hmax hB hl hx hu hc hr ih=>
   exact .dC xs us b off cap sz (hw b e7 hb).1 (iA hb hs) jX hmax hB hl hx hu (hc.frame (hw b e7 hb).2) ih
theorem ij.one{w:World}{ok:Nat→Prop}{d:D}{v:Value}(h:ij w ok d v):v.oneCell'=true:=by
 cases h with
 | val v h=>exact h
 | str l h=>rfl
 | nil=>rfl
 | emp a c h=>rfl
 | dC xs us b off cap sz e7 hb jX hmax hB hl hx hu hc hr=>rfl
theorem ij.E7{w:World}{ok:Nat→Prop}{l:List UInt8}{v:Value}(h:ij w ok (.str l) v):v= .string ⟨l.toArray⟩∧l.length≤LB:=by
 cases h with
 | str l h=>exact⟨rfl,h⟩
theorem ij.Fo{w:World}{ok:Nat→Prop}{u v:Value}(h:ij w ok (.val u) v):v=u:=by
 cases h with
 | val l h=>rfl
mutual
def aF(w:World)(ok:Nat→Prop)(ν:Nat→Nm)(st:Nat→Option En):PV→Value→Prop
 | .any,_=>True
 | .undef,v=>v=Go.undef
 | .b6,v=>v= .slice none 0 0
 | .d x,v=>ij w ok x v
 | .agg cs,v=>∃vs,v= .agg ⟨vs⟩∧aA w ok ν st cs vs
 | .gV cs,v=>∃vs,v= .tuple ⟨vs⟩∧aA w ok ν st cs vs
 | .ptr k off,v=>(st k).isSome=true∧∃b,(ν k).v= .pointer (some ⟨b,0,none⟩)∧v= .pointer (some ⟨b,off,none⟩)
 | .acc k,v=>(st k).isSome=true∧v=(ν k).v
 | .gM k i off sz,v=>(st k).isSome=true∧∃b n c,(ν k).v= .slice (some ⟨b,0,none⟩) n c∧v= .pointer (some ⟨b,i*sz+off,none⟩)
 | .gy xs i off,v=>∃b o cap,ij w ok (.dC xs) (.slice (some ⟨b,o,none⟩) xs.length cap)∧i<xs.length∧v= .pointer (some ⟨b,o+(i*(xs.getD i []).length+off),none⟩)
 | .fn f cap,v=>∃vs,v= .func (.func f) #[] ⟨vs⟩∧aA w ok ν st cap vs
def aA(w:World)(ok:Nat→Prop)(ν:Nat→Nm)(st:Nat→Option En):List PV→List Value→Prop
 | [],[]=>True
 | p::ps,v::vs=>aF w ok ν st p v∧aA w ok ν st ps vs
 | _,_=>False
end
def nth:List PV→Nat→PV
 | [],_=>.any
 | a::_,0=>a
 | _::as,n+1=>nth as n
def lY:List PV→Nat→PV→List PV
 | [],_,_=>[]
 | _::as,0,v=>v::as
 | a::as,n+1,v=>a::lY as n v
def da:List (Option En)→Nat→Option En
 | [],_=>none
 | a::_,0=>a
 | _::as,n+1=>da as n
def db:List (Option En)→Nat→Option En→List (Option En)
 | [],0,v=>[v]
 | [],n+1,v=>none::db [] n v
 | _::as,0,v=>v::as
 | a::as,n+1,v=>a::db as n v
theorem jz:∀(l:List PV)(n:Nat)(v:PV),(lY l n v).length=l.length
 | [],_,_=>rfl
 | _::_,0,_=>rfl
 | _::as,n+1,v=>by simp[lY,jz as n v]
theorem nF:∀(l:List PV)(n:Nat)(v:PV)(t:Nat),nth (lY l n v) t=if t=n∧n<l.length then v else nth l t
 | [],n,v,t=>by cases t<;>simp[lY,nth]
 | a::as,0,v,t=>by cases t<;>simp[lY,nth]
 | a::as,n+1,v,t=>by
   cases t with
   | zero=>simp[lY,nth]
   | succ t=>simp[lY,nth,nF as n v t]
theorem gF:∀(l:List (Option En))(n:Nat)(v:Option En)(t:Nat),da (db l n v) t=if t=n then v else da l t
 | [],0,v,t=>by cases t<;>simp[db,da]
 | [],n+1,v,t=>by
   cases t with
   | zero=>simp[db,da]
   | succ t=>simp[db,da,gF [] n v t]
 | a::as,0,v,t=>by cases t<;>simp[db,da]
 | a::as,n+1,v,t=>by
   cases t with
   | zero=>simp[db,da]
   | succ t=>simp[db,da,gF as n v t]
def G.at(g:G)(k:Nat):Option En:=da g.st k
def En.live:En→Bool
 | .dead=>false
 | _=>true
def wL:Value→Option Nat
 | .pointer (some a)=>some a.block
 | .slice (some a) _ _=>some a.block
 | .map (some r)=>some r
 | _=>none
def Nm.has(n:Nm)(b:Nat):Prop:=wL n.v=some b∨b∈n.f
def hb(v:Value):List Nat:=match wL v with|some b=>[b]|none=>[]
theorem CL{v:Value}{b:Nat}:b∈hb v↔wL v=some b:=by
 unfold hb
 cases wL v with
 | none=>simp
 | some c=>simp[eq_comm]
def Own(ν:Nat→Nm)(st:Nat→Option En)(b:Nat):Prop:=∃k e,st k=some e∧e.live=true∧(ν k).has b
structure Cx where
 w0:World
 O0:Nat→Prop
 ν0:Nat→Nm
 Yb:Nat→Option En
 Z:Nat→Prop
def cG(X:Cx)(ν:Nat→Nm)(st:Nat→Option En)(b:Nat):Prop:=¬Own ν st b∧¬X.Z b
structure cC(w:World)(ok:Nat→Prop)(sz:Nat)(xs:List (List D))(us:List (List Value)):Prop where
 len:us.length=xs.length
 hx:∀(i:Nat)(x:List D),xs[i]?=some x→x.length=sz
 hu:∀(i:Nat)(u:List Value),us[i]?=some u→u.length=sz
 hr:∀(i j:Nat)(x:List D)(u:List Value)(d:D)(v:Value),xs[i]?=some x→us[i]?=some u→x[j]?=some d→u[j]?=some v→ij w ok d v
mutual
def kG(P:Program)(w:World)(ok:Nat→Prop)(ν:Nat→Nm)(st:Nat→Option En):T→Value→List Nat→Prop
 | .leaf d,v,F=>ij w ok d v∧F=[]
 | .ref j,v,F=>(st j).isSome=true∧v=(ν j).v∧F=[]
 | .own e xs,v,F=>∃us F1,w.ownsRow 0 e (P.cellsOf e) v xs.length us.flatten∧(∀(i:Nat)(u:List Value),us[i]?=some u→u.length=P.cellsOf e)∧bx P w ok ν st xs us F1∧xs.length≤LB∧F=hb v++F1
def a8(P:Program)(w:World)(ok:Nat→Prop)(ν:Nat→Nm)(st:Nat→Option En):List T→List Value→List Nat→Prop
 | [],[],F=>F=[]
 | t::ts,v::vs,F=>∃F1 F2,kG P w ok ν st t v F1∧a8 P w ok ν st ts vs F2∧F=F1++F2
 | _,_,_=>False
def bx(P:Program)(w:World)(ok:Nat→Prop)(ν:Nat→Nm)(st:Nat→Option En):List (List T)→List (List Value)→List Nat→Prop
 | [],[],F=>F=[]
 | x::xs,u::us,F=>∃F1 F2,a8 P w ok ν st x u F1∧bx P w ok ν st xs us F2∧F=F1++F2
 | _,_,_=>False
end
def Zu:Value→PV
 | .agg cs=>.agg (cs.toList.map fun v=>.d (.val v))
 | v=>.d (.val v)
def okV:Value→Bool
 | .agg cs=>cs.toList.all fun v=>v.oneCell'
 | v=>v.oneCell'
def yk(es:List MapEntry):List (Value×Value):=es.map fun e=>(e.key,e.val)
def yK(sR:List (Int×Value)):List (Value×Value):=sR.map fun p=>(.int .i64 p.1,p.2)
def ld(P:Program)(w:World)(ok:Nat→Prop)(ν:Nat→Nm)(st:Nat→Option En)(k:Nat):En→Prop
 | .dead=>True
 | .box cs=>∃b vs T,(ν k).v= .pointer (some ⟨b,0,none⟩)∧w.heap[b]?=some (.cells ⟨vs⟩ T (0,0))∧aA w ok ν st cs vs∧(ν k).f=[]
 | .acc e xs=>∃us:List (List Value),w.ownsRow 0 e (P.cellsOf e) (ν k).v xs.length us.flatten∧cC w ok (P.cellsOf e) xs us∧xs.length≤LB∧(ν k).f=[]
 | .fw e xs=>kG P w ok ν st (.own e xs) (ν k).v (hb (ν k).v++(ν k).f)∧(hb (ν k).v++(ν k).f).Nodup
 | .map sR=>∃r es clock,(ν k).v= .map (some r)∧w.heap[r]?=some (.map es clock)∧yk es.toList=yK sR∧(∀p∈sR,okV p.2=true)∧(ν k).f=[]
structure sH(B:Nat→Prop)(w w':World):Prop where
 os:w'.os=w.os
 tape:w'.tape=w.tape
 output:w'.output=w.output
 size:w.heap.size≤w'.heap.size
 block:∀k,k<w.heap.size→¬B k→w'.heap[k]?=w.heap[k]?
theorem sH.refl(B:Nat→Prop)(w:World):sH B w w:=⟨rfl,rfl,rfl,aJ _,fun _ _ _=>rfl⟩
theorem sH.trans{B B':Nat→Prop}{a b c:World}(h:sH B a b)(h':sH B' b c)(hb:∀k,B' k→k<a.heap.size→B k):sH B a c:=
 ⟨h'.os.trans h.os,h'.tape.trans h.tape,h'.output.trans h.output,eO h.size h'.size,
  fun k hk hn=>(h'.block k (iA hk h.size) (fun hB=>hn (hb k hB hk))).trans (h.block k hk hn)⟩
theorem sH.mono{B B':Nat→Prop}{a b:World}(h:sH B a b)(hb:∀k,B k→k<a.heap.size→B' k):sH B' a b:=
 ⟨h.os,h.tape,h.output,h.size,fun k hk hn=>h.block k hk (fun hB=>hn (hb k hB hk))⟩
def Mr : String := "internal/strconv.uint64pow10"
def Wq:Array Value:=((List.range 20).map fun i=>Value.int .u64 ((10 ^ i:Nat):Int)).toArray
def Kt(P:Program)(X:Cx):Prop:=∀g,P.globalNamed Mr=some g→¬X.O0 g∧g<X.w0.heap.size∧X.w0.var? P Mr=some Wq
theorem YQ{P:Program}{X:Cx}(h:P.globalNamed Mr=none):Kt P X:=fun g hg=>by rw[h] at hg;cases hg
structure Zl(P:Program)(X:Cx):Prop where
 z:∀b,X.Z b→b<X.w0.heap.size∧¬X.O0 b
 k:Kt P X
instance{P:Program}{X:Cx}:CoeFun (Zl P X) (fun _=>∀b,X.Z b→b<X.w0.heap.size∧¬X.O0 b):=⟨Zl.z⟩
structure Sat(P:Program)(X:Cx)(ν:Nat→Nm)(g:G)(a:Act)(w:World):Prop where
 size:a.tmps.size=g.sl.length
 sl:∀t,aF w (cG X ν g.at) ν g.at (nth g.sl t) (a.tmps.getD t Go.undef)
 en:∀k e,g.at k=some e→ld P w (cG X ν g.at) ν g.at k e
 inj:∀k k' e e' b,g.at k=some e→g.at k'=some e'→e.live=true→e'.live=true→(ν k).has b→(ν k').has b→k=k'
 base:∀b,Own ν g.at b→X.O0 b∨X.w0.heap.size≤b
 nu:∀k,(g.at k).isSome=true→(ν k).v.oneCell'=true
 par:∀k,(X.Yb k).isSome=true→(ν k).v=(X.ν0 k).v∧(g.at k).isSome=true
 Fk:Zl P X
 Ai:sH X.O0 X.w0 w
 defs:a.defers=[]
theorem Sat.K4{P:Program}{X:Cx}{ν:Nat→Nm}{g:G}{a:Act}{w:World}(h:Sat P X ν g a w){b:Nat}(hb:Own ν g.at b):¬X.Z b:=fun hz=>
 (h.base b hb).elim (h.Fk b hz).2 (fun hge=>by have:=(h.Fk b hz).1;omega)
theorem Sat.kt{P:Program}{X X':Cx}{ν:Nat→Nm}{g:G}{a:Act}{w:World}(h:Sat P X ν g a w)(hw:X'.w0=w)(ho:∀b,X'.O0 b→Own ν g.at b):Kt P X':=fun t ht=>by
 obtain⟨k1,k2,k3⟩:=h.Fk.k t ht
 have hb:=h.Ai.block t k2 k1
 refine⟨fun hx=>?_,by rw[hw];exact iA k2 h.Ai.size,?_⟩
 ·rcases h.base t (ho t hx) with h1|h1
  ·exact k1 h1
  ·omega
 ·rw[hw,←k3]
  simp only[World.var?,ht,Option.bind_some,hb]
def lL(st st':Nat→Option En)(ν ν':Nat→Nm):Prop:=∀k,(st k).isSome=true→(ν' k).v=(ν k).v∧(st' k).isSome=true
theorem lL.refl(st:Nat→Option En)(ν:Nat→Nm):lL st st ν ν:=fun _ h=>⟨rfl,h⟩
section
variable{w w':World}{ok ok':Nat→Prop}{ν ν':Nat→Nm}{st st':Nat→Option En}
mutual
theorem aF.frame(hw:∀b,ok b→b<w.heap.size→ok' b∧w'.heap[b]?=w.heap[b]?)(hs:w.heap.size≤w'.heap.size)(hm:lL st st' ν ν') :
 ∀(p:PV)(v:Value),aF w ok ν st p v→aF w' ok' ν' st' p v
 | .any,_,_=>by simp[aF]
 | .undef,_,h=>by simpa[aF] using h
 | .b6,_,h=>by simpa[aF] using h
 | .d x,v,h=>by
   simp only[aF] at h⊢
   exact h.frame hw hs
 | .agg cs,v,h=>by
   simp only[aF] at h⊢
   obtain⟨vs,rfl,h⟩:=h
   exact⟨vs,rfl,aA.frame hw hs hm cs vs h⟩
 | .gV cs,v,h=>by
   simp only[aF] at h⊢
   obtain⟨vs,rfl,h⟩:=h
   exact⟨vs,rfl,aA.frame hw hs hm cs vs h⟩
 | .ptr k off,v,h=>by
   simp only[aF] at h⊢
   rw[(hm k h.1).1]
   exact⟨(hm k h.1).2,h.2⟩
 | .acc k,v,h=>by
   simp only[aF] at h⊢
   rw[(hm k h.1).1]
   exact⟨(hm k h.1).2,h.2⟩
 | .gM k i off sz,v,h=>by
   simp only[aF] at h⊢
   rw[(hm k h.1).1]
   exact⟨(hm k h.1).2,h.2⟩
 | .gy xs i off,v,h=>by
   simp only[aF] at h⊢
   obtain⟨b,o,cap,h1,h2,h3⟩:=h
   exact⟨b,o,cap,h1.frame hw hs,h2,h3⟩
 | .fn f cap,v,h=>by
   simp only[aF] at h⊢
   obtain⟨vs,rfl,h⟩:=h
   exact⟨vs,rfl,aA.frame hw hs hm cap vs h⟩
theorem aA.frame(hw:∀b,ok b→b<w.heap.size→ok' b∧w'.heap[b]?=w.heap[b]?)(hs:w.heap.size≤w'.heap.size)(hm:lL st st' ν ν') :
 ∀(ps:List PV)(vs:List Value),aA w ok ν st ps vs→aA w' ok' ν' st' ps vs
 | [],[],_=>by simp[aA]
 | [],_::_,h=>by simp[aA] at h
 | _::_,[],h=>by simp[aA] at h
 | p::ps,v::vs,h=>by
   simp only[aA] at h⊢
   exact⟨aF.frame hw hs hm p v h.1,aA.frame hw hs hm ps vs h.2⟩
end
end
theorem cC.frame{w w':World}{ok ok':Nat→Prop}{sz:Nat}{xs:List (List D)}{us:List (List Value)}(h:cC w ok sz xs us)
 (hw:∀b,ok b→b<w.heap.size→ok' b∧w'.heap[b]?=w.heap[b]?) (hs:w.heap.size≤w'.heap.size):cC w' ok' sz xs us:=
 ⟨h.len,h.hx,h.hu,fun i j x u d v h1 h2 h3 h4=>(h.hr i j x u d v h1 h2 h3 h4).frame hw hs⟩
theorem qh{w:World}{b:Nat}{o:Obj}(h:w.heap[b]?=some o):b<w.heap.size:=by
 rcases bV b w.heap.size with h' | h'
 ·exact h'
 ·rw[Array.getElem?_eq_none h'] at h;cases h
theorem kv{n:Nm}{b:Nat}(h:n.f=[]):n.has b↔wL n.v=some b:=by simp[Nm.has,h]
theorem oO{n:Nm}{b:Nat}:n.has b↔b∈hb n.v++n.f:=by rw[aP,CL];exact Iff.rfl
theorem Ga{w:World}{e sz n b:Nat}{v:Value}{us:List Value}(h:w.ownsRow 0 e sz v n us)(hb:wL v=some b):b<w.heap.size:=by
 rcases h.2 with⟨h2,_⟩|⟨g,cap,cur,h2,_,h3,_⟩
 ·rw[h2] at hb;simp[wL] at hb
 ·rw[h2] at hb
  obtain rfl:g=b:=by simpa[wL] using hb
  exact qh h3
theorem y8{w w':World}{e sz n:Nat}{v:Value}{us:List Value}(h:w.ownsRow 0 e sz v n us)(hb:∀b,wL v=some b→w'.heap[b]?=w.heap[b]?):w'.ownsRow 0 e sz v n us:=by
 refine⟨h.1,?_⟩
 rcases h.2 with⟨h4,h5⟩|⟨b,cap,cur,h4,h5,h6,h7⟩
 ·exact .inl ⟨h4,h5⟩
 ·exact .inr ⟨b,cap,cur,h4,h5,(hb b (by rw[h4];rfl)).trans h6,h7⟩
section
variable{P:Program}{w w':World}{ok ok':Nat→Prop}{ν ν':Nat→Nm}{st st':Nat→Option En}
mutual
theorem kG.lt:∀(t:T)(v:Value)(F:List Nat),kG P w ok ν st t v F→∀b∈F,b<w.heap.size
 | .leaf d,v,F,h,b,hm=>by simp only[kG] at h;rw[h.2] at hm;cases hm
 | .ref j,v,F,h,b,hm=>by simp only[kG] at h;rw[h.2.2] at hm;cases hm
 | .own e xs,v,F,h,b,hm=>by
   simp only[kG] at h
   obtain⟨us,F1,h1,_,h2,_,rfl⟩:=h
   rcases aP.1 hm with hm|hm
   ·exact Ga h1 (CL.1 hm)
   ·exact bx.lt xs us F1 h2 b hm
theorem a8.lt:∀(ts:List T)(vs:List Value)(F:List Nat),a8 P w ok ν st ts vs F→∀b∈F,b<w.heap.size
 | [],[],F,h,b,hm=>by simp only[a8] at h;rw[h] at hm;cases hm
 | [],_::_,F,h,b,hm=>by simp[a8] at h
 | _::_,[],F,h,b,hm=>by simp[a8] at h
 | t::ts,v::vs,F,h,b,hm=>by
   simp only[a8] at h
   obtain⟨F1,F2,h1,h2,rfl⟩:=h
   rcases aP.1 hm with hm|hm
   ·exact kG.lt t v F1 h1 b hm
   ·exact a8.lt ts vs F2 h2 b hm
theorem bx.lt:∀(xs:List (List T))(us:List (List Value))(F:List Nat),bx P w ok ν st xs us F→∀b∈F,b<w.heap.size
 | [],[],F,h,b,hm=>by simp only[bx] at h;rw[h] at hm;cases hm
 | [],_::_,F,h,b,hm=>by simp[bx] at h
 | _::_,[],F,h,b,hm=>by simp[bx] at h
 | x::xs,u::us,F,h,b,hm=>by
   simp only[bx] at h
   obtain⟨F1,F2,h1,h2,rfl⟩:=h
   rcases aP.1 hm with hm|hm
   ·exact a8.lt x u F1 h1 b hm
   ·exact bx.lt xs us F2 h2 b hm
end
mutual
theorem kG.frame(hw:∀b,ok b→b<w.heap.size→ok' b∧w'.heap[b]?=w.heap[b]?)(hs:w.heap.size≤w'.heap.size)(hm:lL st st' ν ν') :
 ∀(t:T)(v:Value)(F:List Nat),kG P w ok ν st t v F→(∀b∈F,w'.heap[b]?=w.heap[b]?)→kG P w' ok' ν' st' t v F
 | .leaf d,v,F,h,_=>by simp only[kG] at h⊢;exact⟨h.1.frame hw hs,h.2⟩
 | .ref j,v,F,h,_=>by simp only[kG] at h⊢;exact⟨(hm j h.1).2,by rw[h.2.1,(hm j h.1).1],h.2.2⟩
 | .own e xs,v,F,h,hF=>by
   simp only[kG] at h⊢
   obtain⟨us,F1,h1,h2,h3,h4,rfl⟩:=h
   exact⟨us,F1,y8 h1 fun b hb=>hF b (aP.2 (.inl (CL.2 hb))),h2,bx.frame hw hs hm xs us F1 h3 fun b hb=>hF b (aP.2 (.inr hb)),h4,rfl⟩
theorem a8.frame(hw:∀b,ok b→b<w.heap.size→ok' b∧w'.heap[b]?=w.heap[b]?)(hs:w.heap.size≤w'.heap.size)(hm:lL st st' ν ν') :
 ∀(ts:List T)(vs:List Value)(F:List Nat),a8 P w ok ν st ts vs F→(∀b∈F,w'.heap[b]?=w.heap[b]?)→a8 P w' ok' ν' st' ts vs F
 | [],[],F,h,_=>by simpa only[a8] using h
 | [],_::_,F,h,_=>by simp[a8] at h
 | _::_,[],F,h,_=>by simp[a8] at h
 | t::ts,v::vs,F,h,hF=>by
   simp only[a8] at h⊢
   obtain⟨F1,F2,h1,h2,rfl⟩:=h
   exact⟨F1,F2,kG.frame hw hs hm t v F1 h1 fun b hb=>hF b (aP.2 (.inl hb)),a8.frame hw hs hm ts vs F2 h2 fun b hb=>hF b (aP.2 (.inr hb)),rfl⟩
theorem bx.frame(hw:∀b,ok b→b<w.heap.size→ok' b∧w'.heap[b]?=w.heap[b]?)(hs:w.heap.size≤w'.heap.size)(hm:lL st st' ν ν') :
 ∀(xs:List (List T))(us:List (List Value))(F:List Nat),bx P w ok ν st xs us F→(∀b∈F,w'.heap[b]?=w.heap[b]?)→bx P w' ok' ν' st' xs us F
 | [],[],F,h,_=>by simpa only[bx] using h
 | [],_::_,F,h,_=>by simp[bx] at h
 | _::_,[],F,h,_=>by simp[bx] at h
 | x::xs,u::us,F,h,hF=>by
   simp only[bx] at h⊢
   obtain⟨F1,F2,h1,h2,rfl⟩:=h
   exact⟨F1,F2,a8.frame hw hs hm x u F1 h1 fun b hb=>hF b (aP.2 (.inl hb)),bx.frame hw hs hm xs us F2 h2 fun b hb=>hF b (aP.2 (.inr hb)),rfl⟩
end
end
theorem ld.lt{P:Program}{w:World}{ok:Nat→Prop}{ν:Nat→Nm}{st:Nat→Option En}{k b:Nat}{e:En}
 (h:ld P w ok ν st k e) (hl:e.live=true) (hb:(ν k).has b):b<w.heap.size:=by
 cases e with
 | dead=>cases hl
 | box cs=>
   obtain⟨b',vs,T,h1,h2,_,h3⟩:=h
   rw[kv h3,h1] at hb
   obtain rfl:b'=b:=by simpa[wL] using hb
   exact qh h2
 | acc e xs=>
   obtain⟨us,h1,_,_,h3⟩:=h
   rw[kv h3] at hb
   exact Ga h1 hb
 | fw e xs=>exact kG.lt _ _ _ h.1 b (oO.1 hb)
 | map sR=>
   obtain⟨r,es,clock,h1,h2,_,_,h3⟩:=h
   rw[kv h3,h1] at hb
   obtain rfl:r=b:=by simpa[wL] using hb
   exact qh h2
theorem Sat.lt{P:Program}{X:Cx}{ν:Nat→Nm}{g:G}{a:Act}{w:World}(h:Sat P X ν g a w){b:Nat}
 (hb:Own ν g.at b):b<w.heap.size:=by
 obtain⟨k,e,h1,h2,h3⟩:=hb
 exact(h.en k e h1).lt h2 h3
theorem ld.frame{P:Program}{w w':World}{ok ok':Nat→Prop}{ν ν':Nat→Nm}{st st':Nat→Option En}{k:Nat}{e:En}
 (h:ld P w ok ν st k e) (hw:∀b,ok b→b<w.heap.size→ok' b∧w'.heap[b]?=w.heap[b]?) (hs:w.heap.size≤w'.heap.size) (hm:lL st st' ν ν')
 (hν:ν' k=ν k) (hb:∀b,e.live=true→(ν k).has b→w'.heap[b]?=w.heap[b]?):ld P w' ok' ν' st' k e:=by
 cases e with
 | dead=>trivial
 | box cs=>
   obtain⟨b,vs,T,h1,h2,h3,h4⟩:=h
   simp only[ld,hν]
   exact⟨b,vs,T,h1,(hb b rfl ((kv h4).2 (by rw[h1];rfl))).trans h2,aA.frame hw hs hm cs vs h3,h4⟩
 | acc t xs=>
   obtain⟨us,h1,h2,h3,h4⟩:=h
   simp only[ld,hν]
   exact⟨us,y8 h1 fun b h=>hb b rfl ((kv h4).2 h),h2.frame hw hs,h3,h4⟩
 | fw t xs=>
   simp only[ld,hν]
   exact⟨kG.frame hw hs hm _ _ _ h.1 fun b h=>hb b rfl (oO.2 h),h.2⟩
 | map sR=>
   obtain⟨r,es,clock,h1,h2,h3,h4,h5⟩:=h
   simp only[ld,hν]
   exact⟨r,es,clock,h1,(hb r rfl ((kv h5).2 (by rw[h1];rfl))).trans h2,h3,h4,h5⟩
theorem Sat.XC{P:Program}{X:Cx}{ν:Nat→Nm}{g:G}{a:Act}{w:World}(h:Sat P X ν g a w)
 {ν':Nat→Nm} {g':G} {a':Act} {w':World} (B:Nat→Prop) (rA:sH B w w') (hB:∀b,B b→Own ν g.at b)
 (hm:lL g.at g'.at ν ν')
 (hen:∀k e,g'.at k=some e→(g.at k=some e∧ν' k=ν k∧∀b,e.live=true→(ν k).has b→¬B b)∨ld P w' (cG X ν' g'.at) ν' g'.at k e)
 (iz:∀k e b,g'.at k=some e→e.live=true→(ν' k).has b→Own ν g.at b∨w.heap.size≤b)
 (hinj:∀k k' e e' b,g'.at k=some e→g'.at k'=some e'→e.live=true→e'.live=true→(ν' k).has b→(ν' k').has b→k=k')
 (hnu:∀k,(g'.at k).isSome=true→(g.at k).isSome=true∨(ν' k).v.oneCell'=true)
 (hsize:a'.tmps.size=g'.sl.length)
 (hsl:∀t,(nth g'.sl t=nth g.sl t∧a'.tmps.getD t Go.undef=a.tmps.getD t Go.undef)∨aF w' (cG X ν' g'.at) ν' g'.at (nth g'.sl t) (a'.tmps.getD t Go.undef))
 (hdefs:a'.defers=a.defers):Sat P X ν' g' a' w':=by
 have hown':∀b,Own ν' g'.at b→Own ν g.at b∨w.heap.size≤b:=by
  rintro b ⟨k,e,h1,h2,h3⟩
  exact iz k e b h1 h2 h3
 have hw:∀b,cG X ν g.at b→b<w.heap.size→cG X ν' g'.at b∧w'.heap[b]?=w.heap[b]?:=fun b hn hb=>
  ⟨⟨fun ho=>(hown' b ho).elim hn.1 (fun hge=>by omega),hn.2⟩,rA.block b hb (fun hBb=>hn.1 (hB b hBb))⟩
 refine⟨hsize,fun t=>?_,fun k e he=>?_,fun k k' e e' b h1 h2 h3 h4 h5 h6=>?_,fun b hb=>?_,fun k hk=>?_,fun k hk=>?_,h.Fk,?_,hdefs.trans h.defs⟩
 ·rcases hsl t with⟨h1,h2⟩|h1
  ·rw[h1,h2]
   exact aF.frame hw rA.size hm _ _ (h.sl t)
  ·exact h1
 ·rcases hen k e he with⟨h1,hν,h2⟩|h1
  ·refine(h.en k e h1).frame hw rA.size hm hν fun b hl hb=>?_
   exact rA.block b ((h.en k e h1).lt hl hb) (h2 b hl hb)
  ·exact h1
 ·exact hinj k k' e e' b h1 h2 h3 h4 h5 h6
 ·rcases hown' b hb with h1|h1
  ·exact h.base b h1
  ·exact .inr (eO h.Ai.size h1)
 ·rcases hnu k hk with h1|h1
  ·rw[(hm k h1).1];exact h.nu k h1
  ·exact h1
 ·obtain⟨h1,h2⟩:=h.par k hk
  exact⟨(hm k h2).1.trans h1,(hm k h2).2⟩
 ·refine h.Ai.trans rA fun k hk lQ=>?_
  rcases h.base k (hB k hk) with h1|h1
  ·exact h1
  ·omega
end Go.Eng
namespace Go.Eng
open Go.RowKit
inductive TY where
 | bool|int (k:IntKind)|str|ptr (e:Nat)|slice (e:Nat)|arr (len e:Nat)|struct (fs:List (Nat×Nat×Nat))|other
structure TI where
 ty:TY
 n:Nat
 bytes:Nat
 zero:List PV
def TI.isAgg(ti:TI):Bool:=
 match ti.ty with
 | .struct _=>true
 | .arr _ _=>true
 | _=>false
def CU:List UInt8→Nat→Bool
 | [],_=>true
 | _::_,0=>false
 | _::as,n+1=>CU as n
theorem JE:∀{l:List UInt8}{n:Nat},CU l n=true→l.length≤n
 | [],_,_=>bc _
 | _::_,0,h=>by simp[CU] at h
 | _::as,n+1,h=>Nat.succ_le_succ (JE (l:=as) (by simpa[CU] using h))
def Wt:Value→PV
 | .bool b=>.d (.val (.bool b))
 | .int k n=>.d (.val (.int k n))
 | .string s=>match CU s.data.toList 4096 with|true=>.d (.str s.data.toList)|false=>.any
 | .slice none 0 0=>.b6
 | .pointer none=>.d (.val (.pointer none))
 | .nilFunc=>.d (.val .nilFunc)
 | .nilIface=>.d (.val .nilIface)
 | .map none=>.d (.val (.map none))
 | _=>.any
def MB:List Value→List PV
 | []=>[]
 | v::vs=>Wt v::MB vs
def cpv:Value→PV
 | .agg cs=>.agg (MB cs.toList)
 | .tuple cs=>match cs.toList with | []=>.undef|_=>.any
 | v=>Wt v
def toD:PV→Option D
 | .d x=>some x
 | .b6=>some (.dC [])
 | _=>none
def AJ:List PV→Option (List D)
 | []=>some []
 | p::ps=>match toD p,AJ ps with|some x,some xs=>some (x::xs)|_,_=>none
def TY.Ok(P:Program)(t:TypeId):TY→Prop
 | .bool=>P.underlying t=some .bool
 | .int k=>P.underlying t=some (.int k)
 | .str=>P.underlying t=some .string
 | .ptr e=>P.underlying t=some (.pointer e)
 | .slice e=>P.underlying t=some (.slice e)
 | .arr n e=>P.underlying t=some (.array n e)
 | .struct fs=>∃fields:Array Field,P.underlying t=some (.struct fields)∧fields.toList.mapM (fun f=>(P.info? f.type).map fun i=>(f.offset,i.size))=some (fs.map fun x=>(x.2.1,x.2.2)) ∧
  ∀(j ft off sz:Nat),fs[j]?=some (ft,off,sz)→∃f,fields[j]?=some f∧f.type=ft∧f.offset=off∧P.cellsOf ft=sz∧0<sz
 | .other=>∃d,P.underlying t=some d∧(match d with | .struct _ | .array _ _=>False|_=>True)
structure TI.Ok(P:Program)(t:TypeId)(ti:TI):Prop where
 info:∃i z,P.info? t=some i∧i.size=ti.n∧i.bytes=ti.bytes∧i.zero=some z∧MB z.cells.toList=ti.zero∧z.cells.size=ti.n
 pos:0<ti.n
 one:ti.isAgg=false→ti.n=1
 ty:TY.Ok P t ti.ty
structure Env where
 P:Program
 ti:Nat→Option TI
 ok:∀t i,ti t=some i→TI.Ok P t i
theorem MQ(w:World)(ok:Nat→Prop)(ν:Nat→Nm)(st:Nat→Option En)(v:Value):aF w ok ν st (Wt v) v:=by
 unfold Wt
 split<;>try simp only[aF]
 ·exact .val _ rfl
 ·exact .val _ rfl
 ·rename_i s
  split
  ·rename_i h
   have:=JE h
   simp only[aF]
   exact .str s.data.toList (by unfold LB;omega)
  ·simp only[aF]
 ·exact .val _ rfl
 ·exact .val _ rfl
 ·exact .val _ rfl
 ·exact .val _ rfl
theorem uN(w:World)(ok:Nat→Prop)(ν:Nat→Nm)(st:Nat→Option En):∀(vs:List Value),aA w ok ν st (MB vs) vs
 | []=>by simp[MB,aA]
 | v::vs=>by simp only[MB,aA];exact⟨MQ w ok ν st v,uN w ok ν st vs⟩
theorem YN(w:World)(ok:Nat→Prop)(ν:Nat→Nm)(st:Nat→Option En)(v:Value):aF w ok ν st (cpv v) v:=by
 unfold cpv
 split
 ·rename_i cs
  simp only[aF]
  exact⟨cs.toList,rfl,uN w ok ν st _⟩
 ·rename_i cs
  split
  ·rename_i h
   simp only[aF]
   have:cs = #[]:=by simpa using h
   rw[this];rfl
  ·simp only[aF]
 ·exact MQ w ok ν st v
def G.ev(g:G):Operand→PV
 | .tmp t=>nth g.sl t
 | .const v=>cpv v
 | .global _=>.any
 | .func f=>.fn f []
def dj:Operand→List Nat
 | .tmp t=>[t]
 | _=>[]
theorem Sat.ev{P:Program}{X:Cx}{ν:Nat→Nm}{g:G}{a:Act}{w:World}(h:Sat P X ν g a w)(x:Operand) :
 aF w (cG X ν g.at) ν g.at (g.ev x) (a.eval x):=by
 cases x with
 | tmp t=>exact h.sl t
 | const v=>exact YN _ _ _ _ v
 | global n=>simp only[G.ev,aF]
 | func f=>simp only[G.ev,aF];exact⟨[],rfl,by simp[aA]⟩
structure Dl where
 dst:Option (Nat×PV)
 up:List (Nat×En)
def yy:List (Option En)→List (Nat×En)→List (Option En)
 | st,[]=>st
 | st,(k,e)::r=>yy (db st k (some e)) r
def uw(sl:List PV):Option (Nat×PV)→List PV
 | none=>sl
 | some (d,p)=>lY sl d p
def G.app(g:G)(δ:Dl):G:=⟨uw g.sl δ.dst,yy g.st δ.up⟩
structure Rd where
 s:List Nat
 p:List Nat
structure Cs(R:Rd)(g g2:G):Prop where
 s:∀t∈R.s,nth g2.sl t=nth g.sl t
 p:∀k∈R.p,g2.at k=g.at k
theorem Cs.ev{R:Rd}{g g2:G}(h:Cs R g g2){x:Operand}(hx:∀t∈dj x,t∈R.s):g2.ev x=g.ev x:=by
 cases x with
 | tmp t=>exact h.s t (hx t (by simp[dj]))
 | const v=>rfl
 | global n=>rfl
 | func f=>rfl
def D7(P:Program)(o:Oper)(g g':G):Prop:=
 ∀(X:Cx)(ν:Nat→Nm)(a:Act)(w:World)(next:Act→World→Prop)(Q:Exit→Act→World→Prop),
  Sat P X ν g a w→(∀ν' a' w',Sat P X ν' g' a' w'→next a' w')→o.wp P a w next Q
def kM(P:Program)(o:Oper)(g:G)(R:Rd)(δ:Dl):Prop:=∀g2,Cs R g g2→D7 P o g2 (g2.app δ)
theorem size_put(a:Act)(d:Nat)(v:Value):(a.put (some d) v).tmps.size=a.tmps.size:=by simp[Act.put]
theorem sn(a:Act)(d:Nat)(v:Value)(t:Nat) :
 (a.put (some d) v).tmps.getD t Go.undef=if t=d∧d<a.tmps.size then v else a.tmps.getD t Go.undef:=by
 simp only[Act.put,Array.getD_eq_getD_getElem?,Array.getElem?_setIfInBounds]
 by_cases h:d=t
 ·subst h
  by_cases h2:d<a.tmps.size
  ·simp[h2]
  ·simp[h2]
 ·have h':¬t=d:=fun e=>h e.symm
  simp[h,h']
theorem Sat.put{P:Program}{X:Cx}{ν:Nat→Nm}{g:G}{a:Act}{w:World}(h:Sat P X ν g a w)(d:Nat){p:PV}{v:Value}
 (hv:aF w (cG X ν g.at) ν g.at p v):Sat P X ν ⟨lY g.sl d p,g.st⟩ (a.put (some d) v) w:=by
 refine h.XC (g':=⟨lY g.sl d p,g.st⟩) (fun _=>False) (sH.refl _ w) (fun _ hb=>hb.elim) (lL.refl _ _) (fun k e he=>.inl ⟨he,rfl,fun _ _ _ hb=>hb⟩) (fun k e b he hl hb=>.inl ⟨k,e,he,hl,hb⟩) ?_ (fun k hk=>.inl hk) ?_ ?_ rfl
 ·intro k k' e e' b h1 h2 h3 h4 h5 h6
  exact h.inj k k' e e' b h1 h2 h3 h4 h5 h6
 ·simp[size_put,jz,h.size]
 ·intro t
  simp only[sn,nF,h.size]
  by_cases hc:t=d∧d<g.sl.length
  ·simp only[hc,and_self,if_true]
   exact .inr hv
  ·simp only[hc,if_false]
   exact .inl ⟨trivial,trivial⟩
theorem D7.val{P:Program}{o:Oper}{g:G}{d:Nat}{p:PV}(hd:o.dst=some d)
 (h:∀(X:Cx)(ν:Nat→Nm)(a:Act)(w:World),Sat P X ν g a w→∃v,(execOp a.eval o).run P w= .ok (.value v) w∧aF w (cG X ν g.at) ν g.at p v) :
 D7 P o g (g.app ⟨some (d,p),[]⟩):=by
 intro X ν a w next Q hs hn
 obtain⟨v,hr,hv⟩:=h X ν a w hs
 unfold Oper.wp
 rw[hr,Oper.upon_value,hd]
 exact hn ν _ _ (hs.put d hv)
section
variable{E:Env}{g:G}{d:Nat}{ty:TypeId}{pos:String}{eU:Array Edge}{gd:Option (Nat×Bool)}
theorem MD(x:Operand):kM E.P ⟨some d,.move x,ty,pos,eU,gd⟩ g ⟨dj x,[]⟩ ⟨some (d,g.ev x),[]⟩:=by
 intro g2 hg
 rw[←hg.ev (x:=x) (fun t h=>h)]
 exact D7.val rfl fun X ν a w hs=>⟨a.eval x,rfl,hs.ev x⟩
theorem Th(x:Operand):kM E.P ⟨some d,.assign x,ty,pos,eU,gd⟩ g ⟨dj x,[]⟩ ⟨some (d,g.ev x),[]⟩:=by
 intro g2 hg
 rw[←hg.ev (x:=x) (fun t h=>h)]
 exact D7.val rfl fun X ν a w hs=>⟨a.eval x,rfl,hs.ev x⟩
theorem R7(c x y:Operand)(b:Bool)(hc:g.ev c= .d (.val (.bool b))) :
 kM E.P ⟨some d,.pick c x y,ty,pos,eU,gd⟩ g ⟨dj c++dj (if b then x else y),[]⟩ ⟨some (d,g.ev (if b then x else y)),[]⟩:=by
 intro g2 hg
 have h1:=hg.ev (x:=c) (fun t h=>by simp[h])
 rw[←hg.ev (x:=if b then x else y) (fun t h=>by simp[h])]
 refine D7.val rfl fun X ν a w hs=>?_
 have hcv:=hs.ev c
 rw[h1,hc] at hcv
 simp only[aF] at hcv
 have:=hcv.Fo
 refine⟨a.eval (if b then x else y),?_,hs.ev _⟩
 cases b<;>simp[execOp,this,asBool]
theorem fV{w:World}{ok:Nat→Prop}{ν:Nat→Nm}{st:Nat→Option En}{u v:Value}(h:aF w ok ν st (.d (.val u)) v):v=u:=by
 simp only[aF] at h
 exact h.Fo
theorem vD{w:World}{ok:Nat→Prop}{ν:Nat→Nm}{st:Nat→Option En}{l:List UInt8}{v:Value}(h:aF w ok ν st (.d (.str l)) v):v= .string ⟨l.toArray⟩∧l.length≤LB:=by
 simp only[aF] at h
 exact h.E7
theorem nY{w:World}{ok:Nat→Prop}{ν:Nat→Nm}{st:Nat→Option En}{v:Value}(h:v.oneCell'=true):aF w ok ν st (.d (.val v)) v:=by
 simp only[aF]
 exact .val v h
theorem Fw{o:Oper}{x:Operand}{u r:Value}(hd:o.dst=some d)(hx:g.ev x= .d (.val u))(hr:r.oneCell'=true)
 (h:∀(a:Act)(w:World),a.eval x=u→(execOp a.eval o).run E.P w= .ok (.value r) w):kM E.P o g ⟨dj x,[]⟩ ⟨some (d,.d (.val r)),[]⟩:=by
 intro g2 hg
 have h1:=hg.ev (x:=x) (fun t h=>h)
 refine D7.val hd fun X ν a w hs=>?_
 have hv:=hs.ev x
 rw[h1,hx] at hv
 exact⟨r,h a w (fV hv),nY hr⟩
theorem qg{o:Oper}{x y:Operand}{u v r:Value}(hd:o.dst=some d)(hx:g.ev x= .d (.val u))(hy:g.ev y= .d (.val v))(hr:r.oneCell'=true)
 (h:∀(a:Act)(w:World),a.eval x=u→a.eval y=v→(execOp a.eval o).run E.P w= .ok (.value r) w):kM E.P o g ⟨dj x++dj y,[]⟩ ⟨some (d,.d (.val r)),[]⟩:=by
 intro g2 hg
 have h1:=hg.ev (x:=x) (fun t h=>by simp[h])
 have h2:=hg.ev (x:=y) (fun t h=>by simp[h])
 refine D7.val hd fun X ν a w hs=>?_
 have hv:=hs.ev x
 rw[h1,hx] at hv
 have np:=hs.ev y
 rw[h2,hy] at np
 exact⟨r,h a w (fV hv) (fV np),nY hr⟩
def Td(n:Int):Prop:=-9223372036854775808≤n∧n≤9223372036854775807
theorem wrap_i64{n:Int}(h:Td n):IntKind.i64.wrap n=n:=IntWalk.i64_in n h
theorem run_equalIn_bool(P:Program)(w:World)(n:Nat){t:TypeId}(a b:Bool)(h:P.underlying t=some .bool):(Op.equalIn (n+1) t (.bool a) (.bool b)).run P w= .ok (a == b) w:=by
 simp[Op.equalIn,run_underlying h]
theorem run_equal_bool(P:Program)(w:World){t:TypeId}(a b:Bool)(h:P.underlying t=some .bool):(Op.equal t (.bool a) (.bool b)).run P w= .ok (a == b) w:=
 run_equalIn_bool P w 9999 a b h
theorem aaX(x y:Operand)(m n:Int)(t u:TypeId)(hx:g.ev x= .d (.val (.int .i64 m)))(hy:g.ev y= .d (.val (.int .i64 n)))(hi:Td (m+n)) :
 kM E.P ⟨some d,.binOp .add t x y u,ty,pos,eU,gd⟩ g ⟨dj x++dj y,[]⟩ ⟨some (d,.d (.val (.int .i64 (m+n)))),[]⟩:=
 qg rfl hx hy rfl fun a w h1 h2=>by simp[execOp,h1,h2,eqGuard,binOp,Op.intArith,wrap_i64 hi]
theorem aa3(x y:Operand)(m n:Int)(t u:TypeId)(hx:g.ev x= .d (.val (.int .i64 m)))(hy:g.ev y= .d (.val (.int .i64 n)))(hi:Td (m-n)) :
 kM E.P ⟨some d,.binOp .sub t x y u,ty,pos,eU,gd⟩ g ⟨dj x++dj y,[]⟩ ⟨some (d,.d (.val (.int .i64 (m-n)))),[]⟩:=
 qg rfl hx hy rfl fun a w h1 h2=>by simp[execOp,h1,h2,eqGuard,binOp,Op.intArith,wrap_i64 hi]
theorem aab(x y:Operand)(m n:Int)(t u:TypeId)(hx:g.ev x= .d (.val (.int .i64 m)))(hy:g.ev y= .d (.val (.int .i64 n)))(hi:Td (m*n)) :
 kM E.P ⟨some d,.binOp .mul t x y u,ty,pos,eU,gd⟩ g ⟨dj x++dj y,[]⟩ ⟨some (d,.d (.val (.int .i64 (m*n)))),[]⟩:=
 qg rfl hx hy rfl fun a w h1 h2=>by simp[execOp,h1,h2,eqGuard,binOp,Op.intArith,wrap_i64 hi]
theorem ZR(x y:Operand)(m n:Int)(t u:TypeId)(hx:g.ev x= .d (.val (.int .i64 m)))(hy:g.ev y= .d (.val (.int .i64 n)))(hn:n≠0)(hi:Td (m.tdiv n)) :
 kM E.P ⟨some d,.binOp .quo t x y u,ty,pos,eU,gd⟩ g ⟨dj x++dj y,[]⟩ ⟨some (d,.d (.val (.int .i64 (m.tdiv n)))),[]⟩:=
 qg rfl hx hy rfl fun a w h1 h2=>by simp[execOp,h1,h2,eqGuard,binOp,Op.intDiv,wrap_i64 hi,hn]
theorem aac(x y:Operand)(m n:Int)(t u:TypeId)(hx:g.ev x= .d (.val (.int .i64 m)))(hy:g.ev y= .d (.val (.int .i64 n)))(hn:n≠0) :
 kM E.P ⟨some d,.binOp .rem t x y u,ty,pos,eU,gd⟩ g ⟨dj x++dj y,[]⟩ ⟨some (d,.d (.val (.int .i64 (m.tmod n)))),[]⟩:=
 qg rfl hx hy rfl fun a w h1 h2=>by simp[execOp,h1,h2,eqGuard,binOp,Op.intDiv,hn]
def abL:BinOp→Int→Int→Option Bool
 | .eql,m,n=>some (m == n)
 | .neq,m,n=>some (m != n)
 | .lss,m,n=>some (decide (m<n))
 | .leq,m,n=>some (decide (m≤n))
 | .gtr,m,n=>some (decide (m>n))
 | .geq,m,n=>some (decide (m≥n))
 | _,_,_=>none
theorem YB(op:BinOp)(x y:Operand)(k:IntKind)(m n:Int)(b:Bool)(t u:TypeId)(hx:g.ev x= .d (.val (.int k m)))(hy:g.ev y= .d (.val (.int k n)))(hb:abL op m n=some b) :
 kM E.P ⟨some d,.binOp op t x y u,ty,pos,eU,gd⟩ g ⟨dj x++dj y,[]⟩ ⟨some (d,.d (.val (.bool b))),[]⟩:=
 qg rfl hx hy rfl fun a w h1 h2=>by
  cases op<;>simp only[abL] at hb<;>first
   | (cases hb;done)
   | (obtain rfl:=Option.some.inj hb;simp[execOp,h1,h2,eqGuard,binOp,Op.intCmp])
theorem aaI(x y:Operand)(m n:Bool)(t u:TypeId)(ti:TI)(ht:E.ti t=some ti)(kJ:ti.ty= .bool)(hx:g.ev x= .d (.val (.bool m)))(hy:g.ev y= .d (.val (.bool n))) :
 kM E.P ⟨some d,.binOp .eql t x y u,ty,pos,eU,gd⟩ g ⟨dj x++dj y,[]⟩ ⟨some (d,.d (.val (.bool (m == n)))),[]⟩:=
 qg rfl hx hy rfl fun a w h1 h2=>by
  have h:=(E.ok t ti ht).ty
  rw[kJ] at h
  simp[execOp,h1,h2,eqGuard,binOp,run_equal_bool E.P w m n h]
theorem aam(x y:Operand)(m n:Bool)(t u:TypeId)(ti:TI)(ht:E.ti t=some ti)(kJ:ti.ty= .bool)(hx:g.ev x= .d (.val (.bool m)))(hy:g.ev y= .d (.val (.bool n))) :
 kM E.P ⟨some d,.binOp .neq t x y u,ty,pos,eU,gd⟩ g ⟨dj x++dj y,[]⟩ ⟨some (d,.d (.val (.bool (!(m == n))))),[]⟩:=
 qg rfl hx hy rfl fun a w h1 h2=>by
  have h:=(E.ok t ti ht).ty
  rw[kJ] at h
  simp[execOp,h1,h2,eqGuard,binOp,run_equal_bool E.P w m n h]
theorem Z9(x:Operand)(m:Bool)(t:TypeId)(hx:g.ev x= .d (.val (.bool m))) :
 kM E.P ⟨some d,.unOp .not t x,ty,pos,eU,gd⟩ g ⟨dj x,[]⟩ ⟨some (d,.d (.val (.bool (!m)))),[]⟩:=
 Fw rfl hx rfl fun a w h1=>by simp[execOp,h1,Op.unary]
theorem ZY(x:Operand)(m:Int)(t:TypeId)(hx:g.ev x= .d (.val (.int .i64 m)))(hi:Td (-m)) :
 kM E.P ⟨some d,.unOp .neg t x,ty,pos,eU,gd⟩ g ⟨dj x,[]⟩ ⟨some (d,.d (.val (.int .i64 (-m)))),[]⟩:=
 Fw rfl hx rfl fun a w h1=>by simp[execOp,h1,Op.unary,Op.intArith,wrap_i64 hi]
theorem YX(x:Operand)(k k':IntKind)(m:Int)(s t:TypeId)(si ti:TI)(hs:E.ti s=some si)(pf:si.ty= .int k)(ht:E.ti t=some ti)(kJ:ti.ty= .int k')(hx:g.ev x= .d (.val (.int k m))) :
 kM E.P ⟨some d,.convert s t x,ty,pos,eU,gd⟩ g ⟨dj x,[]⟩ ⟨some (d,.d (.val (.int k' (k'.wrap m)))),[]⟩:=
 Fw rfl hx rfl fun a w h1=>by
  have h:=(E.ok t ti ht).ty
  rw[kJ] at h
  have h':=(E.ok s si hs).ty
  rw[pf] at h'
  simp[execOp,h1,convert,run_underlying h,run_underlying h',Conv.intToInt]
end
def row(xs:List (List D))(i:Nat):List D:=xs.getD i []
def cF(cs:List D):List PV:=cs.map .d
def Jj:List PV→PV
 | [p]=>p
 | _=>.any
def Su:Bool→List PV→PV
 | true,cs=>.agg cs
 | false,cs=>Jj cs
def PV.one:PV→Bool
 | .b6=>true
 | .d _=>true
 | .ptr _ _=>true
 | .acc _=>true
 | .gM _ _ _ _=>true
 | .gy _ _ _=>true
 | .fn _ _=>true
 | _=>false
def eM:PV→List PV
 | .agg cs=>cs
 | p=>[p]
def PV.whole:PV→Bool
 | .agg _=>true
 | p=>p.one
def vi:List PV→Bool
 | []=>true
 | p::ps=>p.one&&vi ps
section
variable{w:World}{ok:Nat→Prop}{ν:Nat→Nm}{st:Nat→Option En}
theorem aA.length:∀{ps:List PV}{vs:List Value},aA w ok ν st ps vs→vs.length=ps.length
 | [],[],_=>rfl
 | [],_::_,h=>by simp[aA] at h
 | _::_,[],h=>by simp[aA] at h
 | _::ps,_::vs,h=>by simp only[aA] at h;simp[aA.length h.2]
theorem aA.drop:∀(n:Nat){ps:List PV}{vs:List Value},aA w ok ν st ps vs→aA w ok ν st (ps.drop n) (vs.drop n)
 | 0,_,_,h=>h
 | n+1,[],[],_=>by simp[aA]
 | _+1,[],_::_,h=>by simp[aA] at h
 | _+1,_::_,[],h=>by simp[aA] at h
 | n+1,_::ps,_::vs,h=>by simp only[aA] at h;exact aA.drop n h.2
theorem aA.take:∀(n:Nat){ps:List PV}{vs:List Value},aA w ok ν st ps vs→aA w ok ν st (ps.take n) (vs.take n)
 | 0,_,_,_=>by simp[aA]
 | n+1,[],[],_=>by simp[aA]
 | _+1,[],_::_,h=>by simp[aA] at h
 | _+1,_::_,[],h=>by simp[aA] at h
 | n+1,_::ps,_::vs,h=>by simp only[aA] at h;simp only[List.take_succ_cons,aA];exact⟨h.1,aA.take n h.2⟩
theorem aA.append:∀{ps ps':List PV}{vs vs':List Value},aA w ok ν st ps vs→aA w ok ν st ps' vs'→aA w ok ν st (ps++ps') (vs++vs')
 | [],_,[],_,_,h'=>h'
 | [],_,_::_,_,h,_=>by simp[aA] at h
 | _::_,_,[],_,h,_=>by simp[aA] at h
 | _::ps,_,_::vs,_,h,h'=>by simp only[aA] at h;simp only[List.cons_append,aA];exact⟨h.1,aA.append h.2 h'⟩
theorem aF.one{p:PV}{v:Value}(h:aF w ok ν st p v)(hp:p.one=true)(hν:∀k,(st k).isSome=true→(ν k).v.oneCell'=true):v.oneCell'=true:=by
 cases p<;>first
  | (cases hp;done)
  | (simp only[aF] at h
     first
      | (subst h;rfl)
      | exact h.one
      | (obtain⟨_,b,_,rfl⟩:=h;rfl)
      | (obtain⟨h1,rfl⟩:=h;exact hν _ h1)
      | (obtain⟨_,b,_,_,_,rfl⟩:=h;rfl)
      | (obtain⟨b,_,_,_,_,rfl⟩:=h;rfl)
      | (obtain⟨_,rfl,_⟩:=h;rfl))
theorem BX{v:Value}(h:v.oneCell'=true):v.cells = #[v]:=by
 cases v<;>first|rfl|(cases h;done)
theorem aF.cells{p:PV}{v:Value}(h:aF w ok ν st p v)(hp:p.whole=true)(hν:∀k,(st k).isSome=true→(ν k).v.oneCell'=true) :
 aA w ok ν st (eM p) v.cells.toList:=by
 by_cases ha:∃cs,p= .agg cs
 ·obtain⟨cs,rfl⟩:=ha
  simp only[aF] at h
  obtain⟨vs,rfl,h⟩:=h
  exact h
 ·have h1:p.one=true:=by cases p<;>first|rfl|(cases hp;done)|exact absurd ⟨_,rfl⟩ ha
  have e:eM p=[p]:=by cases p<;>first|rfl|exact absurd ⟨_,rfl⟩ ha
  rw[e,BX (h.one h1 hν)]
  simp only[aA,and_true]
  exact h
theorem aA.vi:∀{ps:List PV}{vs:List Value},aA w ok ν st ps vs→vi ps=true→(∀k,(st k).isSome=true→(ν k).v.oneCell'=true)→∀v∈vs,v.oneCell'=true
 | [],[],_,_,_=>by simp
 | [],_::_,h,_,_=>by simp[aA] at h
 | _::_,[],h,_,_=>by simp[aA] at h
 | p::ps,v::vs,h,ho,hν=>by
   simp only[aA] at h
   simp only[Eng.vi,Bool.and_eq_true] at ho
   intro u hu
   rcases List.mem_cons.1 hu with rfl|hu
   ·exact h.1.one ho.1 hν
   ·exact aA.vi h.2 ho.2 hν u hu
end
section
variable{P:Program}{t:TypeId}{ti:TI}
theorem TI.Ok.size(h:TI.Ok P t ti)(w:World):(sizeOf t).run P w= .ok ti.n w:=by
 obtain⟨i,z,h1,h2,_⟩:=h.info
 simp[sizeOf,typeInfo,h1,h2]
theorem TI.Ok.cells(h:TI.Ok P t ti):P.cellsOf t=ti.n:=by
 obtain⟨i,z,h1,h2,_⟩:=h.info
 simp[Program.cellsOf,h1,h2]
theorem TI.Ok.agg(h:TI.Ok P t ti)(w:World):(Go.isAgg t).run P w= .ok ti.isAgg w:=by
 have hy:=h.ty
 unfold TI.isAgg
 cases ht:ti.ty with
 | struct fs=>
   rw[ht] at hy
   obtain⟨fields,hf,_,_⟩:=hy
   simp[Go.isAgg,run_underlying hf]
 | arr n e=>
   rw[ht] at hy
   simp only[TY.Ok] at hy
   simp[Go.isAgg,run_underlying hy]
 | other=>
   rw[ht] at hy
   obtain⟨d,hd,hn⟩:=hy
   cases d<;>first|(exact hn.elim)|simp[Go.isAgg,run_underlying hd]
 | _=>rw[ht] at hy;simp only[TY.Ok] at hy;simp[Go.isAgg,run_underlying hy]
theorem add_lit(b off n:Nat):(⟨b,off,none⟩:Addr).add n=⟨b,off+n,none⟩:=by
 unfold Addr.add
 split<;>simp_all
theorem qw(h:TI.Ok P t ti)(w:World)(b off:Nat)(vs:List Value)(hl:vs.length=ti.n)(hc:jW w b off vs) :
 ∃v,(loadVar t ⟨b,off,none⟩).run P w= .ok v w∧(if ti.isAgg then v= .agg ⟨vs⟩ else vs=[v]):=by
 by_cases ha:ti.isAgg=true
 ·have hcs:∀j v,vs[j]?=some v→w.cell? ((⟨b,off,none⟩:Addr).add j)=some v:=fun j v hv=>by rw[add_lit];exact hc j v hv
  have hr:=run_loadCells_list (P:=P) w ⟨b,off,none⟩ vs hcs
  refine⟨.agg ⟨vs⟩,?_,by simp[ha]⟩
  simp only[loadVar,Sem.run_bind,h.agg w,Result.andThen_ok,ha,if_true,h.size w,←hl,hr]
  rfl
 ·have ha':ti.isAgg=false:=by simpa using ha
  have h1:=h.one ha'
  match vs,hl.trans h1 with
  | [v],_=>
    have:=hc 0 v rfl
    refine⟨v,?_,by simp[ha']⟩
    simp only[hQ] at this
    simp only[loadVar,Sem.run_bind,h.agg w,Result.andThen_ok,ha',aw,if_false]
    simp[run_load,this]
end
theorem BL{sz:Nat}:∀(us:List (List Value))(i j:Nat)(u:List Value)(v:Value),(∀(i:Nat)(u:List Value),us[i]?=some u→u.length=sz)→us[i]?=some u→u[j]?=some v→us.flatten[i*sz+j]?=some v
 | [],i,j,u,v,_,h,_=>by simp at h
 | x::xs,0,j,u,v,hu,h,hv=>by
   obtain rfl:x=u:=by simpa using h
   have hj:j<x.length:=by
    rcases bV j x.length with h' | h'
    ·exact h'
    ·rw[List.getElem?_eq_none h'] at hv;cases hv
   simp only[eH,Nat.zero_mul,di]
   rw[List.getElem?_append_left hj]
   exact hv
 | x::xs,i+1,j,u,v,hu,h,hv=>by
   have hx:x.length=sz:=hu 0 x rfl
   have ih:=BL xs i j u v (fun i u h=>hu (i+1) u (by simpa using h)) (by simpa using h) hv
   simp only[eH]
   rw[List.getElem?_append_right (by rw[hx,cY];omega),hx]
   have e:(i+1)*sz+j-sz=i*sz+j:=by rw[cY];omega
   rw[e]
   exact ih
theorem Sp{w:World}{ok:Nat→Prop}{sz:Nat}{xs:List (List D)}{us:List (List Value)}(h:cC w ok sz xs us){i:Nat}(hi:i<xs.length)(ν:Nat→Nm)(st:Nat→Option En) :
 ∃u,us[i]?=some u∧u.length=sz∧(row xs i).length=sz∧aA w ok ν st (cF (row xs i)) u:=by
 have hi':i<us.length:=by rw[h.len];exact hi
 have hx:xs[i]?=some (row xs i):=by simp[row,ct,af hi]
 have hl:=h.hx i _ hx
 have hul:=h.hu i us[i] (af hi')
 refine⟨us[i],af hi',hul,hl,?_⟩
 have hr:=fun j d v=>h.hr i j (row xs i) us[i] d v hx (af hi')
 revert hr hl hul
 generalize row xs i=x
 generalize us[i]=u
 intro hl hul hr
 have key:∀(x:List D)(u:List Value),x.length=u.length→(∀(j:Nat)(d:D)(v:Value),x[j]?=some d→u[j]?=some v→ij w ok d v)→aA w ok ν st (cF x) u:=by
  intro x
  induction x with
  | nil=>intro u h _;cases u with
    | nil=>simp[cF,aA]
    | cons a b=>simp at h
  | cons d x ih=>intro u h hr;cases u with
    | nil=>simp at h
    | cons v u=>
      simp only[cF,aQ,aA,aF]
      exact⟨hr 0 d v rfl rfl,ih u (by simpa using h) fun j d' v' h1 h2=>hr (j+1) d' v' (by simpa using h1) (by simpa using h2)⟩
 exact key x u (by rw[hl,hul]) hr
def Emp(a:Option Addr)(c:Nat):Prop:=(a=none∧c=0)∨(a.isSome=true∧c≤maxLen)
theorem ij.abf{w:World}{ok:Nat→Prop}{a:Option Addr}{c:Nat}(h:Emp a c):ij w ok (.dC []) (.slice a 0 c):=by
 rcases h with⟨rfl,rfl⟩|⟨h1,h2⟩
 ·exact .nil
 ·obtain⟨a,rfl⟩:=Option.isSome_iff_exists.1 h1
  exact .emp a c h2
theorem ij.vg{w:World}{ok:Nat→Prop}{xs:List (List D)}{v:Value}(h:ij w ok (.dC xs) v) :
 (xs=[]∧∃a c,v= .slice a 0 c∧Emp a c)∨∃us b off cap sz,v= .slice (some ⟨b,off,none⟩) xs.length cap∧ok b∧b<w.heap.size∧xs.length≤cap∧cap≤maxLen∧xs.length≤LB∧cC w ok sz xs us∧jW w b off us.flatten:=by
 cases h with
 | nil=>exact .inl ⟨rfl,_,_,rfl,.inl ⟨rfl,rfl⟩⟩
 | emp a c h=>exact .inl ⟨rfl,_,_,rfl,.inr ⟨rfl,h⟩⟩
 | dC xs us b off cap sz e7 hb jX hmax hB hl hx hu hc hr=>exact .inr ⟨us,b,off,cap,sz,rfl,e7,hb,jX,hmax,hB,⟨hl,hx,hu,hr⟩,hc⟩
theorem ij.aaa{w:World}{ok:Nat→Prop}{xs:List (List D)}{v:Value}(h:ij w ok (.dC xs) v):xs.length≤LB:=by
 rcases h.vg with⟨rfl,_⟩|⟨us,b,off,cap,sz,_,_,_,_,_,h,_⟩
 ·simp
 ·exact h
theorem jW.sub{w:World}{b off:Nat}{us us':List Value}(h:jW w b off us)(n:Nat)(hs:∀j u,us'[j]?=some u→us[n+j]?=some u):jW w b (off+n) us':=
 fun j u hu=>by rw[iP];exact h (n+j) u (hs j u hu)
section
variable{E:Env}{g:G}{d:Nat}{ty:TypeId}{pos:String}{eU:Array Edge}{gd:Option (Nat×Bool)}{dn:Option Nat}
theorem qY{o:Oper}{x:Operand}{p r:PV}(hd:o.dst=some d)(hx:g.ev x=p)
 (h:∀(X:Cx)(ν:Nat→Nm)(g:G)(a:Act)(w:World),Sat E.P X ν g a w→aF w (cG X ν g.at) ν g.at p (a.eval x) →
  ∃v,(execOp a.eval o).run E.P w= .ok (.value v) w∧aF w (cG X ν g.at) ν g.at r v):kM E.P o g ⟨dj x,[]⟩ ⟨some (d,r),[]⟩:=by
 intro g2 hg
 have h1:=hg.ev (x:=x) (fun t h=>h)
 refine D7.val hd fun X ν a w hs=>?_
 have hv:=hs.ev x
 rw[h1,hx] at hv
 exact h X ν g2 a w hs hv
theorem Ge{o:Oper}{x y:Operand}{p q r:PV}(hd:o.dst=some d)(hx:g.ev x=p)(hy:g.ev y=q)
 (h:∀(X:Cx)(ν:Nat→Nm)(g:G)(a:Act)(w:World),Sat E.P X ν g a w→aF w (cG X ν g.at) ν g.at p (a.eval x)→aF w (cG X ν g.at) ν g.at q (a.eval y) →
  ∃v,(execOp a.eval o).run E.P w= .ok (.value v) w∧aF w (cG X ν g.at) ν g.at r v):kM E.P o g ⟨dj x++dj y,[]⟩ ⟨some (d,r),[]⟩:=by
 intro g2 hg
 have h1:=hg.ev (x:=x) (fun t h=>by simp[h])
 have h2:=hg.ev (x:=y) (fun t h=>by simp[h])
 refine D7.val hd fun X ν a w hs=>?_
 have hv:=hs.ev x
 rw[h1,hx] at hv
 have np:=hs.ev y
 rw[h2,hy] at np
 exact h X ν g2 a w hs hv np
theorem xH{s:TypeId}{si:TI}{fs:List (Nat×Nat×Nat)}{f ft fo fz:Nat}(hs:E.ti s=some si)(pf:si.ty= .struct fs)(hf:fs[f]?=some (ft,fo,fz))(w:World)(b off:Nat) :
 (Instr.fieldAt s (.pointer (some ⟨b,off,none⟩)) f).run E.P w= .ok (.pointer (some ⟨b,off+fo,none⟩)) w:=by
 have h:=(E.ok s si hs).ty
 rw[pf] at h
 obtain⟨fields,hu,_,hfs⟩:=h
 obtain⟨fd,h1,h2,h3,h4,h5⟩:=hfs f ft fo fz hf
 have hi:∃i,E.P.info? ft=some i∧i.size=fz:=by
  cases hq:E.P.info? ft with
  | none=>simp[Program.cellsOf,hq] at h4;omega
  | some i=>exact⟨i,rfl,by simpa[Program.cellsOf,hq] using h4⟩
 obtain⟨i,hi,hiz⟩:=hi
 have jD:fz≠0:=by omega
 simp[Instr.fieldAt,run_underlying hu,h1,Instr.sureAddr,fieldPlace,sizeOf,typeInfo,h2,hi,hiz,jD,h3,add_lit]
theorem Ra(x:Operand)(s f k off:Nat)(si:TI)(fs:List (Nat×Nat×Nat))(ft fo fz:Nat)(hs:E.ti s=some si)(pf:si.ty= .struct fs)(hf:fs[f]?=some (ft,fo,fz))(hx:g.ev x= .ptr k off) :
 kM E.P ⟨some d,.fieldAddr s x f,ty,pos,eU,gd⟩ g ⟨dj x,[]⟩ ⟨some (d,.ptr k (off+fo)),[]⟩:=
 qY rfl hx fun X ν g a w _ hv=>by
  simp only[aF] at hv⊢
  obtain⟨h1,b,h2,h3⟩:=hv
  exact⟨_,by simp only[execOp,h3,Sem.run_bind,xH hs pf hf,Result.andThen_ok];rfl,h1,b,h2,rfl⟩
theorem Nu(x:Operand)(s f:Nat)(xs:List (List D))(i off:Nat)(si:TI)(fs:List (Nat×Nat×Nat))(ft fo fz:Nat)(hs:E.ti s=some si)(pf:si.ty= .struct fs)(hf:fs[f]?=some (ft,fo,fz))(hx:g.ev x= .gy xs i off) :
 kM E.P ⟨some d,.fieldAddr s x f,ty,pos,eU,gd⟩ g ⟨dj x,[]⟩ ⟨some (d,.gy xs i (off+fo)),[]⟩:=
 qY rfl hx fun X ν g a w _ hv=>by
  simp only[aF] at hv⊢
  obtain⟨b,o,cap,h1,h2,h3⟩:=hv
  exact⟨_,by simp only[execOp,h3,Sem.run_bind,xH hs pf hf,Result.andThen_ok];rfl,b,o,cap,h1,h2,by simp[iP]⟩
theorem M5(x:Operand)(s f:Nat)(k i off sz:Nat)(si:TI)(fs:List (Nat×Nat×Nat))(ft fo fz:Nat)(hs:E.ti s=some si)(pf:si.ty= .struct fs)(hf:fs[f]?=some (ft,fo,fz))(hx:g.ev x= .gM k i off sz) :
 kM E.P ⟨some d,.fieldAddr s x f,ty,pos,eU,gd⟩ g ⟨dj x,[]⟩ ⟨some (d,.gM k i (off+fo) sz),[]⟩:=
 qY rfl hx fun X ν g a w _ hv=>by
  simp only[aF] at hv⊢
  obtain⟨h0,b,n,c,h1,h3⟩:=hv
  exact⟨_,by simp only[execOp,h3,Sem.run_bind,xH hs pf hf,Result.andThen_ok];rfl,h0,b,n,c,h1,by simp[iP]⟩
theorem Pk(x y:Operand)(s:Nat)(si ei:TI)(e:Nat)(xs:List (List D))(n:Int)(hs:E.ti s=some si)(pf:si.ty= .slice e)(he:E.ti e=some ei)(hx:g.ev x= .d (.dC xs))(hy:g.ev y= .d (.val (.int .i64 n)))
 (h0:0≤n) (lQ:n.toNat<xs.length) (hz:(row xs n.toNat).length=ei.n) :
 kM E.P ⟨some d,.indexAddr s x y,ty,pos,eU,gd⟩ g ⟨dj x++dj y,[]⟩ ⟨some (d,.gy xs n.toNat 0),[]⟩:=
 Ge rfl hx hy fun X ν g a w _ hv np=>by
  have hu:=(E.ok s si hs).ty
  rw[pf] at hu
  have h2:=fV np
  simp only[aF] at hv⊢
  have hv':=hv
  rcases hv.vg with⟨rfl,_⟩|⟨us,b,off,cap,sz,hv,e7,hb,jX,hmax,hB,jl,hc⟩
  ·simp at lQ
  ·have hlt':n<(xs.length:Int):=by omega
   refine⟨.pointer (some ⟨b,off+(n.toNat*ei.n),none⟩),?_,b,off,cap,by rw[←hv];exact hv',lQ,?_⟩
   ·simp[execOp,hv,h2,Instr.indexAt,asIntOf,run_underlying hu,h0,hlt',(E.ok e ei he).size,add_lit]
   ·have:(xs.getD n.toNat []).length=ei.n:=hz
    rw[this];simp
theorem Rf(x y:Operand)(s:Nat)(si ei:TI)(e k:Nat)(xs:List (List D))(n:Int)(hs:E.ti s=some si)(pf:si.ty= .slice e)(he:E.ti e=some ei)(hx:g.ev x= .acc k)(hk:g.at k=some (.acc e xs))(hy:g.ev y= .d (.val (.int .i64 n)))
 (h0:0≤n) (lQ:n.toNat<xs.length) :
 kM E.P ⟨some d,.indexAddr s x y,ty,pos,eU,gd⟩ g ⟨dj x++dj y,[k]⟩ ⟨some (d,.gM k n.toNat 0 ei.n),[]⟩:=by
 intro g2 hg
 have h1:=hg.ev (x:=x) (fun t h=>by simp[h])
 have h2:=hg.ev (x:=y) (fun t h=>by simp[h])
 have h3:=(hg.p k (by simp)).trans hk
 refine D7.val rfl fun X ν a w hs'=>?_
 have hu:=(E.ok s si hs).ty
 rw[pf] at hu
 have hv:=hs'.ev x
 rw[h1,hx] at hv
 have np:=hs'.ev y
 rw[h2,hy] at np
 have np:=fV np
 simp only[aF] at hv⊢
 obtain⟨us,ho,jl,_⟩:=hs'.en k _ h3
 rcases ho.2 with⟨_,hn⟩|⟨b,cap,cur,hb,_⟩
 ·omega
 ·have hlt':n<(xs.length:Int):=by omega
  refine⟨.pointer (some ⟨b,n.toNat*ei.n,none⟩),?_,by rw[h3];rfl,b,xs.length,cap,hb,rfl⟩
  simp[execOp,hv.2,hb,np,Instr.indexAt,asIntOf,run_underlying hu,h0,hlt',(E.ok e ei he).size,add_lit]
theorem Qj(x y:Operand)(s:Nat)(si ei:TI)(e len k off:Nat)(n:Int)(hs:E.ti s=some si)(pf:si.ty= .arr len e)(he:E.ti e=some ei)(hx:g.ev x= .ptr k off)(hy:g.ev y= .d (.val (.int .i64 n)))
 (h0:0≤n) (lQ:n.toNat<len) :
 kM E.P ⟨some d,.indexAddr s x y,ty,pos,eU,gd⟩ g ⟨dj x++dj y,[]⟩ ⟨some (d,.ptr k (off+n.toNat*ei.n)),[]⟩:=
 Ge rfl hx hy fun X ν g a w _ hv np=>by
  have hu:=(E.ok s si hs).ty
  rw[pf] at hu
  have h2:=fV np
  simp only[aF] at hv⊢
  obtain⟨h1,b,h3,h4⟩:=hv
  have hlt':n<(len:Int):=by omega
  refine⟨.pointer (some ⟨b,off+n.toNat*ei.n,none⟩),?_,h1,b,h3,rfl⟩
  simp[execOp,h4,h2,Instr.indexAt,asIntOf,run_underlying hu,h0,hlt',(E.ok e ei he).size,add_lit,Instr.sureAddr]
theorem QT(x y:Operand)(s:Nat)(si:TI)(l:List UInt8)(n:Int)(hs:E.ti s=some si)(pf:si.ty= .str)(hx:g.ev x= .d (.str l))(hy:g.ev y= .d (.val (.int .i64 n)))
 (h0:0≤n) (lQ:n.toNat<l.length) :
 kM E.P ⟨some d,.index s x y,ty,pos,eU,gd⟩ g ⟨dj x++dj y,[]⟩ ⟨some (d,.d (.val (.int .u8 ((l.getD n.toNat 0).toNat:Int)))),[]⟩:=
 Ge rfl hx hy fun X ν g a w _ hv np=>by
  have hu:=(E.ok s si hs).ty
  rw[pf] at hu
  have h2:=fV np
  have h1:=(vD hv).1
  refine⟨_,?_,nY rfl⟩
  have hget:(⟨l.toArray⟩:ByteArray)[n.toNat]?=some (l.getD n.toNat 0):=by
   have hs:n.toNat<(⟨l.toArray⟩:ByteArray).size:=by simpa[ByteArray.size] using lQ
   have h1:(⟨l.toArray⟩:ByteArray)[n.toNat]?=some ((⟨l.toArray⟩:ByteArray)[n.toNat]'hs):=getElem?_pos (⟨l.toArray⟩:ByteArray) n.toNat hs
   rw[h1]
   have h2:(⟨l.toArray⟩:ByteArray)[n.toNat]'hs=l[n.toNat]:=rfl
   rw[h2]
   simp[ct,lQ]
  simp[execOp,h1,h2,Instr.index,asIntOf,run_underlying hu,h0,hget]
end
section
variable{P:Program}{X:Cx}{ν:Nat→Nm}{g:G}{a:Act}{w:World}
theorem vx(g:G)(k:Nat)(e:Option En)(j:Nat)(sl:List PV):(⟨sl,db g.st k e⟩:G).at j=if j=k then e else g.at j:=gF g.st k e j
def gone(st:List (Option En)):Option Nat→List (Option En)
 | none=>st
 | some k=>db st k (some .dead)
theorem Sat.move(h:Sat P X ν g a w){w':World}(old:Option Nat)(hold:∀k,old=some k→∃e,g.at k=some e∧e.live=true)
 (rA:sH (fun b=>∃k,old=some k∧(ν k).has b) w w') (k:Nat) (hk:g.at k=none) (e:En) (n0:Nm) (h1:n0.v.oneCell'=true)
 (hb:∀b,n0.has b→(∃k,old=some k∧(ν k).has b)∨w.heap.size≤b) (d:Nat) (p:PV) (v:Value)
 (hen:∀(ok:Nat→Prop)(st:Nat→Option En)(ν':Nat→Nm),ν' k=n0→(∀b,cG X ν g.at b→b<w.heap.size→ok b∧w'.heap[b]?=w.heap[b]?)→lL g.at st ν ν'→ld P w' ok ν' st k e)
 (hv:∀(ok:Nat→Prop)(st:Nat→Option En)(ν':Nat→Nm),ν' k=n0→st k=some e→(∀b,cG X ν g.at b→b<w.heap.size→ok b∧w'.heap[b]?=w.heap[b]?)→lL g.at st ν ν'→aF w' ok ν' st p v) :
 Sat P X (fun j=>if j=k then n0 else ν j) ⟨lY g.sl d p,db (gone g.st old) k (some e)⟩ (a.put (some d) v) w':=by
 have e7:∀j,old=some j→j≠k:=fun j hj e=>by
  obtain⟨e',h',_⟩:=hold j hj
  rw[e,hk] at h';cases h'
 have lq:∀j,(⟨lY g.sl d p,db (gone g.st old) k (some e)⟩:G).at j=if j=k then some e else if old=some j then some .dead else g.at j:=by
  intro j
  show da (db (gone g.st old) k (some e)) j=_
  rw[gF]
  split
  ·rfl
  ·cases old with
   | none=>simp[gone,G.at]
   | some o=>
     simp only[gone,gF,Option.some.injEq,G.at]
     by_cases hjo:j=o
     ·simp[hjo]
     ·have:¬o=j:=fun e=>hjo e.symm
      simp[hjo,this]
 have hm:lL g.at (⟨lY g.sl d p,db (gone g.st old) k (some e)⟩:G).at ν (fun j=>if j=k then n0 else ν j):=by
  intro j hj
  have:j≠k:=fun e=>by rw[e,hk] at hj;cases hj
  refine⟨by simp[this],?_⟩
  rw[lq,if_neg this]
  split
  ·rfl
  ·exact hj
 have hB:∀b,(∃k,old=some k∧(ν k).has b)→Own ν g.at b:=by
  rintro b ⟨o,ho,hbo⟩
  obtain⟨e0,h1,h2⟩:=hold o ho
  exact⟨o,e0,h1,h2,hbo⟩
 have hownb:∀j e' b,(⟨lY g.sl d p,db (gone g.st old) k (some e)⟩:G).at j=some e'→e'.live=true→((fun j=>if j=k then n0 else ν j) j).has b→Own ν g.at b∨w.heap.size≤b:=by
  intro j e' b h1 h2 h3
  rw[lq] at h1
  by_cases hj:j=k
  ·simp only[hj,if_true] at h3
   exact(hb b h3).imp (hB b) id
  ·simp only[hj,if_false] at h1 h3
   by_cases hjo:old=some j
   ·rw[if_pos hjo] at h1
    cases h1;cases h2
   ·rw[if_neg hjo] at h1
    exact .inl ⟨j,e',h1,h2,h3⟩
 have iz:∀b,cG X ν g.at b→b<w.heap.size→cG X (fun j=>if j=k then n0 else ν j) (⟨lY g.sl d p,db (gone g.st old) k (some e)⟩:G).at b:=by
  intro b hn lQ
  refine⟨?_,hn.2⟩
  rintro⟨j,e',h1,h2,h3⟩
  rcases hownb j e' b h1 h2 h3 with h4|h4
  ·exact hn.1 h4
  ·omega
 have hw:∀b,cG X ν g.at b→b<w.heap.size→cG X (fun j=>if j=k then n0 else ν j) (⟨lY g.sl d p,db (gone g.st old) k (some e)⟩:G).at b∧w'.heap[b]?=w.heap[b]?:=
  fun b hn lQ=>⟨iz b hn lQ,rA.block b lQ (fun h=>hn.1 (hB b h))⟩
 refine h.XC (fun b=>∃k,old=some k∧(ν k).has b) rA hB hm ?_ hownb ?_ ?_ ?_ ?_ rfl
 ·intro j e' hj
  rw[lq] at hj
  by_cases lN:j=k
  ·subst lN
   simp only[if_true,Option.some.injEq] at hj
   subst hj
   exact .inr (hen _ _ _ (by simp) hw hm)
  ·rw[if_neg lN] at hj
   by_cases hjo:old=some j
   ·rw[if_pos hjo] at hj
    cases hj
    exact .inr trivial
   ·rw[if_neg hjo] at hj
    refine .inl ⟨hj,by simp[lN],?_⟩
    rintro b hl hbj ⟨o,ho,hbo⟩
    obtain⟨e0,h1,h2⟩:=hold o ho
    exact hjo (by rw[ho,h.inj j o e' e0 b hj h1 hl h2 hbj hbo])
 ·have key:∀(j:Nat)(e1:En)(b:Nat),j≠k→(⟨lY g.sl d p,db (gone g.st old) k (some e)⟩:G).at j=some e1→e1.live=true→((fun j=>if j=k then n0 else ν j) j).has b →
   g.at j=some e1∧old≠some j∧(ν j).has b:=by
   intro j e1 b lN h1 h2 h3
   rw[lq,if_neg lN] at h1
   simp only[lN,if_false] at h3
   by_cases hjo:old=some j
   ·rw[if_pos hjo] at h1
    cases h1;cases h2
   ·rw[if_neg hjo] at h1
    exact⟨h1,hjo,h3⟩
  have key2:∀(j:Nat)(e1:En)(b:Nat),j≠k→(⟨lY g.sl d p,db (gone g.st old) k (some e)⟩:G).at j=some e1→e1.live=true→((fun j=>if j=k then n0 else ν j) j).has b→n0.has b→False:=by
   intro j e1 b lN h1 h2 h3 h4
   obtain⟨k1,k2,k3⟩:=key j e1 b lN h1 h2 h3
   rcases hb b h4 with⟨o,ho,hbo⟩|hge
   ·obtain⟨e0,m1,m2⟩:=hold o ho
    exact k2 (by rw[ho,h.inj j o e1 e0 b k1 m1 h2 m2 k3 hbo])
   ·have:=h.lt ⟨j,e1,k1,h2,k3⟩
    omega
  intro j j' e1 e2 b h1 h2 h3 h4 h5 h6
  by_cases hj:j=k
  ·by_cases hj':j'=k
   ·rw[hj,hj']
   ·exact(key2 j' e2 b hj' h2 h4 h6 (by simpa[hj] using h5)).elim
  ·by_cases hj':j'=k
   ·exact(key2 j e1 b hj h1 h3 h5 (by simpa[hj'] using h6)).elim
   ·obtain⟨k1,_,k3⟩:=key j e1 b hj h1 h3 h5
    obtain⟨m1,_,m3⟩:=key j' e2 b hj' h2 h4 h6
    exact h.inj j j' e1 e2 b k1 m1 h3 h4 k3 m3
 ·intro j hj
  rw[lq] at hj
  by_cases lN:j=k
  ·exact .inr (by simp[lN,h1])
  ·rw[if_neg lN] at hj
   by_cases hjo:old=some j
   ·obtain⟨e0,m1,m2⟩:=hold j hjo
    exact .inl (by rw[m1];rfl)
   ·rw[if_neg hjo] at hj
    exact .inl hj
 ·simp[size_put,jz,h.size]
 ·intro t
  simp only[sn,nF,h.size]
  by_cases hc:t=d∧d<g.sl.length
  ·simp only[hc,and_self,if_true]
   exact .inr (hv _ _ _ (by simp) (by rw[lq];simp) hw hm)
  ·simp only[hc,if_false]
   exact .inl ⟨trivial,trivial⟩
theorem Sat.xg(h:Sat P X ν g a w){w':World}(rA:sH (fun _=>False) w w')(k:Nat)(hk:g.at k=none)(e:En)(n0:Nm)(h1:n0.v.oneCell'=true)
 (hb:∀b,n0.has b→w.heap.size≤b) (d:Nat) (p:PV) (v:Value)
 (hen:∀(ok:Nat→Prop)(st:Nat→Option En)(ν':Nat→Nm),ν' k=n0→(∀b,cG X ν g.at b→b<w.heap.size→ok b∧w'.heap[b]?=w.heap[b]?)→lL g.at st ν ν'→ld P w' ok ν' st k e)
 (hv:∀(ok:Nat→Prop)(st:Nat→Option En)(ν':Nat→Nm),ν' k=n0→st k=some e→(∀b,cG X ν g.at b→b<w.heap.size→ok b∧w'.heap[b]?=w.heap[b]?)→lL g.at st ν ν'→aF w' ok ν' st p v) :
 Sat P X (fun j=>if j=k then n0 else ν j) ⟨lY g.sl d p,db g.st k (some e)⟩ (a.put (some d) v) w':=
 h.move none (fun _ h=>by cases h) (rA.mono fun _ h _=>h.elim) k hk e n0 h1 (fun b hb'=>.inr (hb b hb')) d p v hen hv
theorem jF(w:World)(o:Obj):sH (fun _=>False) w (w.alloc o):=
 ⟨rfl,rfl,rfl,by simp,fun k hk _=>Below.heap_alloc w o k hk⟩
theorem Ci(w:World):sH (fun _=>False) w w.drew:=⟨rfl,rfl,rfl,aJ _,fun _ _ _=>rfl⟩
theorem rZ(w:World)(o:Obj):(w.alloc o).heap[w.heap.size]?=some o:=by
 show(w.heap.push o)[w.heap.size]?=some o
 simp
theorem Sat.C0(h:Sat P X ν g a w){w':World}(k:Nat)(e0 e:En)(hk:g.at k=some e0)(hl0:e0.live=true)(rA:sH (fun b=>(ν k).has b) w w')(d:Option Nat)(p:PV)(v:Value)
 (hen:(∀b,cG X ν g.at b→b<w.heap.size→cG X ν (⟨uw g.sl (d.map fun d=>(d,p)),db g.st k (some e)⟩:G).at b∧w'.heap[b]?=w.heap[b]?)→lL g.at (⟨uw g.sl (d.map fun d=>(d,p)),db g.st k (some e)⟩:G).at ν ν →
  ld P w' (cG X ν (⟨uw g.sl (d.map fun d=>(d,p)),db g.st k (some e)⟩:G).at) ν (⟨uw g.sl (d.map fun d=>(d,p)),db g.st k (some e)⟩:G).at k e)
 (hv:d.isSome=true→aF w (cG X ν g.at) ν g.at p v) :
 Sat P X ν ⟨uw g.sl (d.map fun d=>(d,p)),db g.st k (some e)⟩ (a.put d v) w':=by
 have lq:∀j,(⟨uw g.sl (d.map fun d=>(d,p)),db g.st k (some e)⟩:G).at j=if j=k then some e else g.at j:=fun j=>vx g k (some e) j _
 have hm:lL g.at (⟨uw g.sl (d.map fun d=>(d,p)),db g.st k (some e)⟩:G).at ν ν:=by
  intro j hj
  refine⟨rfl,?_⟩
  rw[lq]
  split
  ·rfl
  ·exact hj
 have iz:∀b,cG X ν g.at b→cG X ν (⟨uw g.sl (d.map fun d=>(d,p)),db g.st k (some e)⟩:G).at b:=by
  intro b hn
  refine⟨?_,hn.2⟩
  rintro⟨j,e',h1,h2,h3⟩
  rw[lq] at h1
  by_cases hj:j=k
  ·subst hj
   exact hn.1 ⟨j,e0,hk,hl0,h3⟩
  ·simp only[hj,if_false] at h1
   exact hn.1 ⟨j,e',h1,h2,h3⟩
 have hB:∀b,(ν k).has b→Own ν g.at b:=fun b hb=>⟨k,e0,hk,hl0,hb⟩
 have hw:∀b,cG X ν g.at b→b<w.heap.size→cG X ν (⟨uw g.sl (d.map fun d=>(d,p)),db g.st k (some e)⟩:G).at b∧w'.heap[b]?=w.heap[b]?:=
  fun b hn lQ=>⟨iz b hn,rA.block b lQ (fun hb=>hn.1 (hB b hb))⟩
 refine h.XC (fun b=>(ν k).has b) rA hB hm ?_ ?_ ?_ ?_ ?_ ?_ (by cases d<;>rfl)
 ·intro j e' hj
  rw[lq] at hj
  by_cases lN:j=k
  ·subst lN
   simp only[if_true,Option.some.injEq] at hj
   subst hj
   exact .inr (hen hw hm)
  ·rw[if_neg lN] at hj
   exact .inl ⟨hj,rfl,fun b hl hb hb'=>lN (h.inj j k e' e0 b hj hk hl hl0 hb hb')⟩
 ·intro j e' b hj hl hbj
  rw[lq] at hj
  by_cases lN:j=k
  ·subst lN
   exact .inl (hB b hbj)
  ·simp only[lN,if_false] at hj
   exact .inl ⟨j,e',hj,hl,hbj⟩
 ·have key:∀(j:Nat)(e1:En),(⟨uw g.sl (d.map fun d=>(d,p)),db g.st k (some e)⟩:G).at j=some e1→e1.live=true→∃e2,g.at j=some e2∧e2.live=true:=by
   intro j e1 h1 h2
   rw[lq] at h1
   by_cases hj:j=k
   ·subst hj
    exact⟨e0,hk,hl0⟩
   ·rw[if_neg hj] at h1
    exact⟨e1,h1,h2⟩
  intro j j' e1 e2 b h1 h2 h3 h4 h5 h6
  obtain⟨e3,k1,k2⟩:=key j e1 h1 h3
  obtain⟨e4,m1,m2⟩:=key j' e2 h2 h4
  exact h.inj j j' e3 e4 b k1 m1 k2 m2 h5 h6
 ·intro j hj
  rw[lq] at hj
  by_cases lN:j=k
  ·subst lN
   exact .inl (by rw[hk];rfl)
  ·rw[if_neg lN] at hj
   exact .inl hj
 ·cases d with
  | none=>exact h.size
  | some d=>simp[uw,size_put,jz,h.size]
 ·intro t
  cases d with
  | none=>exact .inl ⟨rfl,rfl⟩
  | some d=>
    simp only[Option.map_some,uw,sn,nF,h.size]
    by_cases hc:t=d∧d<g.sl.length
    ·simp only[hc,and_self,if_true]
     exact .inr (aF.frame hw rA.size hm _ _ (hv rfl))
    ·simp only[hc,if_false]
     exact .inl ⟨trivial,trivial⟩
end
section
variable{E:Env}{g:G}{d:Nat}{ty:TypeId}{pos:String}{eU:Array Edge}{gd:Option (Nat×Bool)}{dn:Option Nat}
theorem yT{w:World}{ok:Nat→Prop}{ν:Nat→Nm}{st:Nat→Option En}{b:Bool}{cs:List PV}{vs:List Value}{v:Value}(h:aA w ok ν st cs vs)(hv:if b then v= .agg ⟨vs⟩ else vs=[v]) :
 aF w ok ν st (Su b cs) v:=by
 cases b with
 | true=>simp only[if_true] at hv;simp only[Su,aF];exact⟨vs,hv,h⟩
 | false=>
   simp only[aw,if_false] at hv
   subst hv
   match cs,h with
   | [p],h=>simp only[aA,and_true] at h;exact h
   | [],h=>simp[aA] at h
   | _::_::_,h=>simp[aA] at h
theorem wv{w:World}{b:Nat}{vs:List Value}{T:TypeId}{fr:Nat×Nat}(h:w.heap[b]?=some (.cells ⟨vs⟩ T fr)):jW w b 0 vs:=by
 intro j u hu
 simp[World.cell?,h,hu]
theorem Og(x:Operand)(t k off:Nat)(ti:TI)(cs:List PV)(ht:E.ti t=some ti)(hx:g.ev x= .ptr k off)(hk:g.at k=some (.box cs))(hl:off+ti.n≤cs.length) :
 kM E.P ⟨some d,.load t x,ty,pos,eU,gd⟩ g ⟨dj x,[k]⟩ ⟨some (d,Su ti.isAgg ((cs.drop off).take ti.n)),[]⟩:=by
 intro g2 hg
 have h1:=hg.ev (x:=x) (fun t h=>h)
 have h3:=(hg.p k (by simp)).trans hk
 refine D7.val rfl fun X ν a w hs=>?_
 have hv:=hs.ev x
 rw[h1,hx] at hv
 simp only[aF] at hv
 obtain⟨_,b,hb,hv⟩:=hv
 obtain⟨b',vs,T,hb',hheap,ov,hf0⟩:=hs.en k _ h3
 obtain rfl:b'=b:=by rw[hb'] at hb;simpa using hb
 have hvl:=ov.length
 have hrep':=(ov.drop off).take ti.n
 have dz:((vs.drop off).take ti.n).length=ti.n:=by simp;omega
 have hc:jW w b' off ((vs.drop off).take ti.n):=by
  have h0:=(wv hheap).sub (us':=(vs.drop off).take ti.n) off (fun j u hu=>by
   rw[c9] at hu
   split at hu
   ·rw[dD] at hu;exact hu
   ·cases hu)
  simpa using h0
 obtain⟨v,hr,hvv⟩:=qw (E.ok t ti ht) w b' off _ dz hc
 refine⟨v,?_,yT hrep' hvv⟩
 simp only[execOp,hv,Instr.loadAt,Instr.sureAddr,Sem.run_bind,Sem.run_pure,Result.andThen_ok,hr]
theorem Lp(x:Operand)(t i off:Nat)(ti:TI)(xs:List (List D))(cells:List D)(ht:E.ti t=some ti)(hx:g.ev x= .gy xs i off)(qO:row xs i=cells)(hl:off+ti.n≤cells.length) :
 kM E.P ⟨some d,.load t x,ty,pos,eU,gd⟩ g ⟨dj x,[]⟩ ⟨some (d,Su ti.isAgg (((cF cells).drop off).take ti.n)),[]⟩:=by
 subst qO
 refine qY rfl hx fun X ν g a w hs hv=>?_
 simp only[aF] at hv
 obtain⟨b,o,cap,hr,hi,hv⟩:=hv
 rcases hr.vg with⟨h,_⟩|⟨us,b',off',cap',sz,heq,e7,hb,jX,hmax,hB,jl,hc⟩
 ·rw[h] at hi
  simp at hi
 ·obtain⟨⟨rfl,rfl⟩,rfl⟩:(b=b'∧o=off')∧cap=cap':=by simpa using heq
  obtain⟨u,hu,hul,hrl,ov⟩:=Sp jl hi ν g.at
  have hrep':=(ov.drop off).take ti.n
  have dz:((u.drop off).take ti.n).length=ti.n:=by simp;omega
  have hrl':(xs.getD i []).length=sz:=hrl
  rw[hrl'] at hv
  have hca:jW w b (o+(i*sz+off)) ((u.drop off).take ti.n):=hc.sub (i*sz+off) (fun j x hx=>by
   rw[c9] at hx
   split at hx
   ·rw[dD] at hx
    have:=BL us i (off+j) u x jl.hu hu hx
    rw[iP];exact this
   ·cases hx)
  obtain⟨v,lO,hvv⟩:=qw (E.ok t ti ht) w b _ _ dz hca
  refine⟨v,?_,yT hrep' hvv⟩
  simp only[execOp,hv,Instr.loadAt,Instr.sureAddr,Sem.run_bind,Sem.run_pure,Result.andThen_ok,lO]
theorem qb{w:World}{e sz n:Nat}{b cap m:Nat}{us:List Value}{v:Value}(h:w.ownsRow 0 e sz v n us)(hv:v= .slice (some ⟨b,0,none⟩) m cap):jW w b 0 us:=by
 intro j u hu
 rcases h.2 with⟨h2,_⟩|⟨g,cap',cur,h2,_,h3,_,_,_,h4⟩
 ·rw[h2] at hv;cases hv
 ·rw[h2] at hv
  obtain⟨rfl,rfl,rfl⟩:g=b∧n=m∧cap'=cap:=by simpa using hv
  rw[←h4,c9] at hu
  split at hu
  ·simpa[World.cell?,h3] using hu
  ·cases hu
theorem K6(x:Operand)(t k i off sz e:Nat)(ti ei:TI)(xs:List (List D))(cells:List D)(ht:E.ti t=some ti)(he:E.ti e=some ei)(hsz:sz=ei.n)(hx:g.ev x= .gM k i off sz)(hk:g.at k=some (.acc e xs))
 (hi:i<xs.length) (qO:row xs i=cells) (hl:off+ti.n≤cells.length) :
 kM E.P ⟨some d,.load t x,ty,pos,eU,gd⟩ g ⟨dj x,[k]⟩ ⟨some (d,Su ti.isAgg (((cF cells).drop off).take ti.n)),[]⟩:=by
 subst qO
 intro g2 hg
 have h1:=hg.ev (x:=x) (fun t h=>h)
 have h3:=(hg.p k (by simp)).trans hk
 refine D7.val rfl fun X ν a w hs=>?_
 have hv:=hs.ev x
 rw[h1,hx] at hv
 simp only[aF] at hv
 obtain⟨_,b,n,c,hb,hv⟩:=hv
 obtain⟨us,ho,jl,_⟩:=hs.en k _ h3
 have hcell:=qb ho hb
 rw[(E.ok e ei he).cells] at jl
 obtain⟨u,hu,hul,hrl,ov⟩:=Sp jl hi ν g2.at
 have hrep':=(ov.drop off).take ti.n
 have dz:((u.drop off).take ti.n).length=ti.n:=by simp;omega
 have hca:jW w b (i*ei.n+off) ((u.drop off).take ti.n):=by
  have h0:=hcell.sub (us':=(u.drop off).take ti.n) (i*ei.n+off) (fun j x hx=>by
   rw[c9] at hx
   split at hx
   ·rw[dD] at hx
    have:=BL us i (off+j) u x jl.hu hu hx
    rw[iP];exact this
   ·cases hx)
  simpa using h0
 subst hsz
 obtain⟨v,lO,hvv⟩:=qw (E.ok t ti ht) w b _ _ dz hca
 refine⟨v,?_,yT hrep' hvv⟩
 simp only[execOp,hv,Instr.loadAt,Instr.sureAddr,Sem.run_bind,Sem.run_pure,Result.andThen_ok,lO]
theorem WU(t k:Nat)(ti:TI)(ht:E.ti t=some ti)(hk:g.at k=none) :
 kM E.P ⟨some d,.alloc t,ty,pos,eU,gd⟩ g ⟨[],[k]⟩ ⟨some (d,.ptr k 0),[(k,.box ti.zero)]⟩:=by
 intro g2 hg
 have h3:=(hg.p k (by simp)).trans hk
 intro X ν a w next Q hs hn
 obtain⟨i,z,h1,h2,h4,h5,h6,h7⟩:=(E.ok t ti ht).info
 have hr:(execOp a.eval ⟨some d,.alloc t,ty,pos,eU,gd⟩).run E.P w= .ok (.value (.pointer (some ⟨w.heap.size,0,none⟩))) (w.alloc (.cells z.cells t)):=by
  simp[execOp,Instr.alloc,zeroValue,typeInfo,h1,h5,newVar,newRow]
 unfold Oper.wp
 rw[hr,Oper.upon_value]
 refine hn _ _ _ (hs.xg (jF w _) k h3 (.box ti.zero) ⟨.pointer (some ⟨w.heap.size,0,none⟩),[]⟩ rfl ?_ d _ _ ?_ ?_)
 ·intro b hb
  obtain rfl:w.heap.size=b:=by simpa[Nm.has,wL] using hb
  exact aJ _
 ·intro ok st ν' hν hw hm
  exact⟨w.heap.size,z.cells.toList,t,by rw[hν],by rw[rZ],by rw[←h6];exact uN _ _ _ _ _,by rw[hν]⟩
 ·intro ok st ν' hν jC hw hm
  simp only[aF]
  exact⟨by rw[jC];rfl,w.heap.size,by rw[hν],rfl⟩
theorem aaO(x:Operand)(t k:Nat)(hk:g.at k=none)(hp:(g.ev x).whole=true) :
 kM E.P ⟨some d,.box t x,ty,pos,eU,gd⟩ g ⟨dj x,[k]⟩ ⟨some (d,.ptr k 0),[(k,.box (eM (g.ev x)))]⟩:=by
 intro g2 hg
 have h1:=hg.ev (x:=x) (fun t h=>h)
 have h3:=(hg.p k (by simp)).trans hk
 intro X ν a w next Q hs hn
 have hv:=hs.ev x
 rw[h1] at hv
 have hr:(execOp a.eval ⟨some d,.box t x,ty,pos,eU,gd⟩).run E.P w= .ok (.value (.pointer (some ⟨w.heap.size,0,none⟩))) (w.alloc (.cells (a.eval x).cells t)):=by
  simp[execOp,Instr.box,newVar,newRow]
 unfold Oper.wp
 rw[hr,Oper.upon_value]
 refine hn _ _ _ (hs.xg (jF w _) k h3 (.box (eM (g.ev x))) ⟨.pointer (some ⟨w.heap.size,0,none⟩),[]⟩ rfl ?_ d _ _ ?_ ?_)
 ·intro b hb
  obtain rfl:w.heap.size=b:=by simpa[Nm.has,wL] using hb
  exact aJ _
 ·intro ok st ν' hν hw hm
  refine⟨w.heap.size,(a.eval x).cells.toList,t,by rw[hν],by rw[rZ],?_,by rw[hν]⟩
  exact aA.frame hw (jF w _).size hm _ _ (hv.cells hp hs.nu)
 ·intro ok st ν' hν jC hw hm
  simp only[aF]
  exact⟨by rw[jC];rfl,w.heap.size,by rw[hν],rfl⟩
def z7(cs:List PV)(off:Nat)(vs:List PV):List PV:=cs.take off++(vs++cs.drop (off+vs.length))
theorem u9{t:TypeId}{ti:TI}(ht:TI.Ok E.P t ti)(w:World)(b off:Nat)(T:TypeId)(cur:Array Value)(v:Value)(hg:w.heap[b]?=some (.cells cur T (0,0)))(hv:v.cells.toList.length=ti.n)
 (hfit:off+ti.n≤cur.size) (h1:∀u∈v.cells.toList,u.oneCell'=true) :
 (storeVar t ⟨b,off,none⟩ v).run E.P w= .ok () (w.setRow b (cur.toList.take off++v.cells.toList++cur.toList.drop (off+v.cells.toList.length)).toArray):=by
 have jC:=run_storeCells_at E.P b off T v.cells.toList 0 cur w hg (by omega) h1
 simp only[hQ] at jC
 have hsz:v.cells.size=ti.n:=by simpa using hv
 simp only[storeVar,Sem.run_bind,ht.size w,Result.andThen_ok,hsz,ne_eq,not_true_eq_false,if_false,jC]
theorem kI(w:World)(b:Nat)(cs:Array Value)(B:Nat→Prop)(hB:B b):sH B w (w.setRow b cs):=
 ⟨rfl,rfl,rfl,by simp[World.setRow],fun k _ hn=>setRow_other w b k cs (fun e=>hn (e▸hB))⟩
theorem Ls(x y:Operand)(t k off:Nat)(ti:TI)(cs:List PV)(p:PV)(ht:E.ti t=some ti)(hx:g.ev x= .ptr k off)(hk:g.at k=some (.box cs))(hy:g.ev y=p)(hl:off+ti.n≤cs.length)
 (hp:p.whole=true) (hn:(eM p).length=ti.n) (h1:vi (eM p)=true) :
 kM E.P ⟨dn,.store t x y,ty,pos,eU,gd⟩ g ⟨dj x++dj y++dn.toList,[k]⟩ ⟨dn.map fun d=>(d,.undef),[(k,.box (z7 cs off (eM p)))]⟩:=by
 intro g2 hg
 have e1:=hg.ev (x:=x) (fun t h=>by simp[h])
 have e2:=hg.ev (x:=y) (fun t h=>by simp[h])
 have h3:=(hg.p k (by simp)).trans hk
 intro X ν a w next Q hs hnx
 have hv:=hs.ev x
 rw[e1,hx] at hv
 have hw:=hs.ev y
 rw[e2,hy] at hw
 simp only[aF] at hv
 obtain⟨_,b,hb,hv⟩:=hv
 obtain⟨b',vs,T,hb',hheap,ov,hf0⟩:=hs.en k _ h3
 obtain rfl:b'=b:=by rw[hb'] at hb;simpa using hb
 have pX:=hw.cells hp hs.nu
 have dz:=pX.length
 have hvl:=ov.length
 have lO:=u9 (E.ok t ti ht) w b' off T ⟨vs⟩ (a.eval y) hheap (by rw[dz,hn]) (by simpa[hvl] using hl) (pX.vi h1 hs.nu)
 have hr:(execOp a.eval ⟨dn,.store t x y,ty,pos,eU,gd⟩).run E.P w= .ok .skip (w.setRow b' (vs.take off++(a.eval y).cells.toList++vs.drop (off+(a.eval y).cells.toList.length)).toArray):=by
  simp only[execOp,hv,Instr.storeAt,Instr.sureAddr,Sem.run_bind,Sem.run_pure,Result.andThen_ok,lO]
 unfold Oper.wp
 rw[hr,Oper.upon_skip]
 refine hnx _ _ _ (hs.C0 k (.box cs) (.box (z7 cs off (eM p))) h3 rfl (kI w b' _ _ ((kv hf0).2 (by rw[hb'];rfl))) dn .undef Go.undef ?_ ?_)
 ·intro hwf hm
  refine⟨b',_,T,hb',setRow_heap w b' _ _ T _ hheap,?_,hf0⟩
  refine aA.frame hwf (by simp[World.setRow]) hm _ _ ?_
  rw[bj,dz]
  exact(ov.take off).append (pX.append (ov.drop _))
 ·intro _
  simp only[aF]
end
section
variable{E:Env}{g:G}{d:Nat}{ty:TypeId}{pos:String}{eU:Array Edge}{gd:Option (Nat×Bool)}{dn:Option Nat}
theorem aA.get{w:World}{ok:Nat→Prop}{ν:Nat→Nm}{st:Nat→Option En}:∀{ps:List PV}{vs:List Value}{n:Nat}{p:PV},aA w ok ν st ps vs→ps[n]?=some p→∃v,vs[n]?=some v∧aF w ok ν st p v
 | [],[],n,p,_,hp=>by simp at hp
 | [],_::_,_,_,h,_=>by simp[aA] at h
 | _::_,[],_,_,h,_=>by simp[aA] at h
 | p::ps,v::vs,0,q,h,hq=>by
   simp only[aA] at h
   obtain rfl:p=q:=by simpa using hq
   exact⟨v,rfl,h.1⟩
 | p::ps,v::vs,n+1,q,h,hq=>by
   simp only[aA] at h
   obtain⟨u,h1,h2⟩:=aA.get (n:=n) h.2 (by simpa using hq)
   exact⟨u,by simpa using h1,h2⟩
theorem Rl(x:Operand)(i:Nat)(ps:List PV)(p:PV)(hx:g.ev x= .gV ps)(hp:ps[i]?=some p) :
 kM E.P ⟨some d,.extract x i,ty,pos,eU,gd⟩ g ⟨dj x,[]⟩ ⟨some (d,p),[]⟩:=
 qY rfl hx fun X ν g a w _ hv=>by
  simp only[aF] at hv
  obtain⟨vs,hv,hr⟩:=hv
  obtain⟨v,h1,h2⟩:=hr.get hp
  refine⟨v,?_,h2⟩
  simp[execOp,hv,Instr.extract,h1]
theorem qH{t:TypeId}{ti:TI}(h:TI.Ok E.P t ti)(w:World)(cs:List Value)(off:Nat)(hl:off+ti.n≤cs.length) :
 ∃v,(part t ⟨cs⟩ off).run E.P w= .ok v w∧(if ti.isAgg then v= .agg ⟨(cs.drop off).take ti.n⟩ else(cs.drop off).take ti.n=[v]):=by
 by_cases ha:ti.isAgg=true
 ·refine⟨_,?_,by rw[if_pos ha]⟩
  simp only[part,Sem.run_bind,h.agg w,Result.andThen_ok,ha,if_true,h.size w]
  simp[List.drop_take]
 ·have ha':ti.isAgg=false:=by simpa using ha
  have h1:=h.one ha'
  have lQ:off<cs.length:=by omega
  refine⟨cs[off],?_,?_⟩
  ·simp only[part,Sem.run_bind,h.agg w,Result.andThen_ok,ha',aw,if_false]
   simp[lQ]
  ·rw[ha',h1]
   simp only[aw,if_false]
   rw[List.drop_eq_getElem_cons lQ]
   rfl
theorem Vl(x:Operand)(s f:Nat)(si:TI)(fs:List (Nat×Nat×Nat))(ft fo fz:Nat)(fi:TI)(cs:List PV)(hs:E.ti s=some si)(pf:si.ty= .struct fs)(hf:fs[f]?=some (ft,fo,fz))(hfi:E.ti ft=some fi)(hx:g.ev x= .agg cs)
 (hl:fo+fi.n≤cs.length) :
 kM E.P ⟨some d,.field s x f,ty,pos,eU,gd⟩ g ⟨dj x,[]⟩ ⟨some (d,Su fi.isAgg ((cs.drop fo).take fi.n)),[]⟩:=
 qY rfl hx fun X ν g a w _ hv=>by
  simp only[aF] at hv
  obtain⟨vs,hv,hr⟩:=hv
  have h:=(E.ok s si hs).ty
  rw[pf] at h
  obtain⟨fields,hu,_,hfs⟩:=h
  obtain⟨fd,h1,h2,h3,h4,h5⟩:=hfs f ft fo fz hf
  obtain⟨v,lO,hvv⟩:=qH (E.ok ft fi hfi) w vs fo (by rw[hr.length];exact hl)
  refine⟨v,?_,yT ((hr.drop fo).take fi.n) hvv⟩
  simp only[execOp,hv,Instr.field,Sem.run_bind,run_underlying hu,Result.andThen_ok,h1,asAgg,Sem.run_pure,h2,h3,lO]
theorem Bb{P:Program}{X:Cx}{ν:Nat→Nm}{g:G}{a:Act}{w:World}(h:Sat P X ν g a w):∀(xs:List Operand),aA w (cG X ν g.at) ν g.at (xs.map g.ev) (xs.map a.eval)
 | []=>by simp[aA]
 | x::xs=>by simp only[aQ,aA];exact⟨h.ev x,Bb h xs⟩
theorem uU{R:Rd}{g g2:G}(h:Cs R g g2):∀(xs:List Operand),(∀t∈xs.flatMap dj,t∈R.s)→xs.map g2.ev=xs.map g.ev
 | [],_=>rfl
 | x::xs,hx=>by
   simp only[aQ]
   rw[h.ev (x:=x) (fun t ht=>hx t (by simp[ht])),uU h xs (fun t ht=>hx t (by simp only[List.flatMap_cons,aP];exact .inr ht))]
theorem M6(f:Nat)(cs:List Operand) :
 kM E.P ⟨some d,.makeFunc (.func f) #[] ⟨cs⟩,ty,pos,eU,gd⟩ g ⟨cs.flatMap dj,[]⟩ ⟨some (d,.fn f (cs.map g.ev)),[]⟩:=by
 intro g2 hg
 rw[←uU hg cs (fun t h=>h)]
 refine D7.val rfl fun X ν a w hs=>⟨.func (.func f) #[] ⟨cs.map a.eval⟩,by simp[execOp,Instr.makeFunc],?_⟩
 simp only[aF]
 exact⟨_,rfl,Bb hs cs⟩
theorem EP(x:Operand)(k off:Nat)(hx:g.ev x= .ptr k off):kM E.P ⟨some d,.nilCheck x,ty,pos,eU,gd⟩ g ⟨dj x,[]⟩ ⟨some (d,.ptr k off),[]⟩:=
 qY rfl hx fun X ν g a w _ hv=>by
  have hv':=hv
  simp only[aF] at hv
  obtain⟨_,b,_,hv⟩:=hv
  exact⟨a.eval x,by simp[execOp,hv],hv'⟩
theorem C5(x:Operand)(xs:List (List D))(i off:Nat)(hx:g.ev x= .gy xs i off):kM E.P ⟨some d,.nilCheck x,ty,pos,eU,gd⟩ g ⟨dj x,[]⟩ ⟨some (d,.gy xs i off),[]⟩:=
 qY rfl hx fun X ν g a w _ hv=>by
  have hv':=hv
  simp only[aF] at hv
  obtain⟨b,o,cap,_,_,hv⟩:=hv
  exact⟨a.eval x,by simp[execOp,hv],hv'⟩
theorem CI(x:Operand)(k i off sz:Nat)(hx:g.ev x= .gM k i off sz):kM E.P ⟨some d,.nilCheck x,ty,pos,eU,gd⟩ g ⟨dj x,[]⟩ ⟨some (d,.gM k i off sz),[]⟩:=
 qY rfl hx fun X ν g a w _ hv=>by
  have hv':=hv
  simp only[aF] at hv
  obtain⟨_,b,_,_,_,hv⟩:=hv
  exact⟨a.eval x,by simp[execOp,hv],hv'⟩
theorem run_len_slice{s:TypeId}{e:TypeId}(h:E.P.underlying s=some (.slice e))(a:Option Addr)(n c:Nat)(t:TypeId)(w:World):(Builtin.len_ #[s] t #[.slice a n c]).run E.P w= .ok (.int .i64 n) w:=by
 simp[Builtin.len_,run_underlying h,goInt]
theorem xp{o:Oper}{x:Operand}{s:TypeId}(ho:o.op= .call { callee:=.builtin .len,args:=#[x],argTypes:=#[s] })(a:Act)(w:World)(v:Value)(h:(Builtin.len_ #[s] o.type #[a.eval x]).run E.P w= .ok v w) :
 (execOp a.eval o).run E.P w= .ok (.value v) w:=by
 unfold execOp
 simp only[ho,resolve,invoke,builtin,Sem.run_bind,Sem.run_pure,Result.andThen_ok,List.map_toArray,aQ,List.map_nil,h]
theorem Pn(x:Operand)(s:Nat)(si:TI)(e:Nat)(xs:List (List D))(hs:E.ti s=some si)(pf:si.ty= .slice e)(hx:g.ev x= .d (.dC xs)) :
 kM E.P ⟨some d,.call ⟨.builtin .len,#[x],#[s]⟩,ty,pos,eU,gd⟩ g ⟨dj x,[]⟩ ⟨some (d,.d (.val (.int .i64 (xs.length:Int)))),[]⟩:=
 qY rfl hx fun X ν g a w _ hv=>by
  have hu:=(E.ok s si hs).ty
  rw[pf] at hu
  simp only[aF] at hv
  refine⟨_,xp rfl a w _ ?_,nY rfl⟩
  rcases hv.vg with⟨rfl,_,_,h,_⟩|⟨us,b,off,cap,sz,h,_⟩
  ·rw[h];exact run_len_slice hu _ _ _ _ _
  ·rw[h];exact run_len_slice hu _ _ _ _ _
theorem Ro(x:Operand)(s:Nat)(si:TI)(e:Nat)(hs:E.ti s=some si)(pf:si.ty= .slice e)(hx:g.ev x= .b6) :
 kM E.P ⟨some d,.call ⟨.builtin .len,#[x],#[s]⟩,ty,pos,eU,gd⟩ g ⟨dj x,[]⟩ ⟨some (d,.d (.val (.int .i64 0))),[]⟩:=
 qY rfl hx fun X ν g a w _ hv=>by
  have hu:=(E.ok s si hs).ty
  rw[pf] at hu
  simp only[aF] at hv
  exact⟨_,xp rfl a w _ (by rw[hv];exact run_len_slice hu _ _ _ _ _),nY rfl⟩
theorem Ub{P:Program}{X:Cx}{ν:Nat→Nm}{g:G}{a:Act}{w:World}(h:Sat P X ν g a w){k e:Nat}{xs:List (List D)}(hk:g.at k=some (.acc e xs)) :
 ∃b c,(ν k).v= .slice b xs.length c:=by
 obtain⟨us,ho,_⟩:=h.en k _ hk
 rcases ho.2 with⟨h1,h2⟩|⟨b,cap,cur,h1,_⟩
 ·exact⟨none,0,by rw[h1,h2]⟩
 ·exact⟨_,cap,h1⟩
theorem Rx(x:Operand)(s:Nat)(si:TI)(e' e k:Nat)(xs:List (List D))(hs:E.ti s=some si)(pf:si.ty= .slice e')(hx:g.ev x= .acc k)(hk:g.at k=some (.acc e xs)) :
 kM E.P ⟨some d,.call ⟨.builtin .len,#[x],#[s]⟩,ty,pos,eU,gd⟩ g ⟨dj x,[k]⟩ ⟨some (d,.d (.val (.int .i64 (xs.length:Int)))),[]⟩:=by
 intro g2 hg
 have h1:=hg.ev (x:=x) (fun t h=>by simp[h])
 have h3:=(hg.p k (by simp)).trans hk
 refine D7.val rfl fun X ν a w hs'=>?_
 have hu:=(E.ok s si hs).ty
 rw[pf] at hu
 have hv:=hs'.ev x
 rw[h1,hx] at hv
 simp only[aF] at hv
 obtain⟨b,c,hb⟩:=Ub hs' h3
 exact⟨_,xp rfl a w _ (by rw[hv.2,hb];exact run_len_slice hu _ _ _ _ _),nY rfl⟩
theorem size_mk(l:List UInt8):(⟨l.toArray⟩:ByteArray).size=l.length:=by
 show l.toArray.size=l.length
 simp
theorem P6(x:Operand)(s:Nat)(si:TI)(l:List UInt8)(hs:E.ti s=some si)(pf:si.ty= .str)(hx:g.ev x= .d (.str l)) :
 kM E.P ⟨some d,.call ⟨.builtin .len,#[x],#[s]⟩,ty,pos,eU,gd⟩ g ⟨dj x,[]⟩ ⟨some (d,.d (.val (.int .i64 (l.length:Int)))),[]⟩:=
 qY rfl hx fun X ν g a w _ hv=>by
  have hu:=(E.ok s si hs).ty
  rw[pf] at hu
  have h1:=(vD hv).1
  exact⟨_,xp rfl a w _ (by rw[h1];simp[Builtin.len_,run_underlying hu,goInt,size_mk]),nY rfl⟩
theorem Yz{o:Oper}{x y:Operand}{l m:List UInt8}{r:Value}(hd:o.dst=some d)(hx:g.ev x= .d (.str l))(hy:g.ev y= .d (.str m))(hr:r.oneCell'=true)
 (h:∀(a:Act)(w:World),a.eval x= .string ⟨l.toArray⟩→a.eval y= .string ⟨m.toArray⟩→(execOp a.eval o).run E.P w= .ok (.value r) w):kM E.P o g ⟨dj x++dj y,[]⟩ ⟨some (d,.d (.val r)),[]⟩:=
 Ge hd hx hy fun X ν g a w _ hv np=>⟨r,h a w (vD hv).1 (vD np).1,nY hr⟩
def abA:BinOp→List UInt8→List UInt8→Option Bool
 | .eql,l,m=>some (l == m)
 | .neq,l,m=>some (!(l == m))
 | .lss,l,m=>some (Op.bytesLess l m)
 | .leq,l,m=>some (Op.bytesLess l m||l == m)
 | .gtr,l,m=>some (!(Op.bytesLess l m||l == m))
 | .geq,l,m=>some (!Op.bytesLess l m)
 | _,_,_=>none
theorem toList_mk(l:List UInt8):(⟨l.toArray⟩:ByteArray).toList=l:=by
 rw[ByteArray.toList_eq]
theorem Ya(op:BinOp)(x y:Operand)(l m:List UInt8)(b:Bool)(t u:TypeId)(hx:g.ev x= .d (.str l))(hy:g.ev y= .d (.str m))(hb:abA op l m=some b) :
 kM E.P ⟨some d,.binOp op t x y u,ty,pos,eU,gd⟩ g ⟨dj x++dj y,[]⟩ ⟨some (d,.d (.val (.bool b))),[]⟩:=
 Yz rfl hx hy rfl fun a w h1 h2=>by
  cases op<;>simp only[abA] at hb<;>first
   | (cases hb;done)
   | (obtain rfl:=Option.some.inj hb;simp[execOp,h1,h2,eqGuard,binOp,Op.stringOp,toList_mk])
theorem Z8(x y:Operand)(l m:List UInt8)(t u:TypeId)(hx:g.ev x= .d (.str l))(hy:g.ev y= .d (.str m))(hl:l.length+m.length≤LB) :
 kM E.P ⟨some d,.binOp .add t x y u,ty,pos,eU,gd⟩ g ⟨dj x++dj y,[]⟩ ⟨some (d,.d (.str (l++m))),[]⟩:=
 Ge rfl hx hy fun X ν g a w _ hv np=>by
  have h1:=(vD hv).1
  have h2:=(vD np).1
  refine⟨.string ⟨(l++m).toArray⟩,?_,by simp only[aF];exact .str _ (by simpa using hl)⟩
  have hsz:¬ (((⟨l.toArray⟩:ByteArray).size+(⟨m.toArray⟩:ByteArray).size:Nat):Int)>IntKind.i64.max:=by
   rw[size_mk,size_mk]
   simp only[IntKind.max,IntKind.signed,IntKind.bits]
   unfold LB at hl
   omega
  have happ:(⟨l.toArray⟩:ByteArray)++(⟨m.toArray⟩:ByteArray)=⟨(l++m).toArray⟩:=by
   apply ByteArray.ext
   simp
  have hr:(Op.stringOp .add ⟨l.toArray⟩ ⟨m.toArray⟩).run E.P w= .ok (.string ⟨(l++m).toArray⟩) w:=by
   simp only[Op.stringOp]
   rw[if_neg hsz,happ]
   rfl
  simp only[execOp,h1,h2,eqGuard,binOp,Sem.run_bind]
  simp[hr]
end
theorem YW{w:World}{ok:Nat→Prop}{ν:Nat→Nm}{st:Nat→Option En}{p:PV}{x:D}{v:Value}(h:aF w ok ν st p v)(hx:toD p=some x):ij w ok x v:=by
 cases p<;>simp only[toD] at hx<;>first|(cases hx;done)|skip
 ·obtain rfl:=Option.some.inj hx
  simp only[aF] at h
  subst h
  exact .nil
 ·obtain rfl:=Option.some.inj hx
  simpa only[aF] using h
theorem xT{w:World}{ok:Nat→Prop}{ν:Nat→Nm}{st:Nat→Option En}:∀{ps:List PV}{xs:List D}{vs:List Value},aA w ok ν st ps vs→AJ ps=some xs→aA w ok ν st (cF xs) vs
 | [],xs,[],_,h=>by simp[AJ] at h;subst h;simp[cF,aA]
 | [],_,_::_,h,_=>by simp[aA] at h
 | _::_,_,[],h,_=>by simp[aA] at h
 | p::ps,xs,v::vs,h,hx=>by
   simp only[AJ] at hx
   simp only[aA] at h
   split at hx
   ·rename_i x xs' h1 h2
    obtain rfl:=Option.some.inj hx
    simp only[cF,aQ,aA,aF]
    exact⟨YW h.1 h1,xT h.2 h2⟩
   ·cases hx
theorem A5{w:World}{ok:Nat→Prop}{ν:Nat→Nm}{st:Nat→Option En}:∀{xs:List D}{vs:List Value},aA w ok ν st (cF xs) vs →
 vs.length=xs.length∧∀(j:Nat)(d:D)(v:Value),xs[j]?=some d→vs[j]?=some v→ij w ok d v
 | [],[],_=>⟨rfl,by simp⟩
 | [],_::_,h=>by simp[cF,aA] at h
 | _::_,[],h=>by simp[cF,aA] at h
 | x::xs,v::vs,h=>by
   simp only[cF,aQ,aA,aF] at h
   obtain⟨h1,h2⟩:=A5 (xs:=xs) h.2
   refine⟨by simp[h1],fun j d u hd hu=>?_⟩
   cases j with
   | zero=>
     obtain rfl:x=d:=by simpa using hd
     obtain rfl:v=u:=by simpa using hu
     exact h.1
   | succ j=>exact h2 j d u (by simpa using hd) (by simpa using hu)
theorem cC.nil(w:World)(ok:Nat→Prop)(sz:Nat):cC w ok sz [] []:=⟨rfl,by simp,by simp,by simp⟩
theorem cC.cons{w:World}{ok:Nat→Prop}{sz:Nat}{x:List D}{u:List Value}{xs:List (List D)}{us:List (List Value)}(h:cC w ok sz xs us)(hx:x.length=sz)(hu:u.length=sz)
 (hr:∀(j:Nat)(d:D)(v:Value),x[j]?=some d→u[j]?=some v→ij w ok d v):cC w ok sz (x::xs) (u::us):=by
 refine⟨by simp[h.len],fun i y hy=>?_,fun i y hy=>?_,fun i j y z d v h1 h2 h3 h4=>?_⟩
 ·cases i with
  | zero=>obtain rfl:x=y:=by simpa using hy
          exact hx
  | succ i=>exact h.hx i y (by simpa using hy)
 ·cases i with
  | zero=>obtain rfl:u=y:=by simpa using hy
          exact hu
  | succ i=>exact h.hu i y (by simpa using hy)
 ·cases i with
  | zero=>
    obtain rfl:x=y:=by simpa using h1
    obtain rfl:u=z:=by simpa using h2
    exact hr j d v h3 h4
  | succ i=>exact h.hr i j y z d v (by simpa using h1) (by simpa using h2) h3 h4
theorem cC.append{w:World}{ok:Nat→Prop}{sz:Nat}:∀{xs ys:List (List D)}{us vs:List (List Value)},cC w ok sz xs us→cC w ok sz ys vs→cC w ok sz (xs++ys) (us++vs)
 | [],_,[],_,_,h=>h
 | [],_,_::_,_,h,_=>by have:=h.len;simp at this
 | _::_,_,[],_,h,_=>by have:=h.len;simp at this
 | x::xs,ys,u::us,vs,h,h'=>by
   have h2:cC w ok sz xs us:=⟨by have:=h.len;simpa using this,fun i y hy=>h.hx (i+1) y (by simpa using hy),fun i y hy=>h.hu (i+1) y (by simpa using hy),
    fun i j a b c d h1 h2 h3 h4=>h.hr (i+1) j a b c d (by simpa using h1) (by simpa using h2) h3 h4⟩
   exact(cC.append h2 h').cons (h.hx 0 x rfl) (h.hu 0 u rfl) fun j d v h3 h4=>h.hr 0 j x u d v rfl rfl h3 h4
theorem cC.kZ{w:World}{ok:Nat→Prop}{sz:Nat}:∀{xs:List (List D)}{us:List (List Value)},cC w ok sz xs us→us.flatten.length=xs.length*sz
 | [],[],_=>by simp
 | [],_::_,h=>by have:=h.len;simp at this
 | _::_,[],h=>by have:=h.len;simp at this
 | x::xs,u::us,h=>by
   have h2:cC w ok sz xs us:=⟨by have:=h.len;simpa using this,fun i y hy=>h.hx (i+1) y (by simpa using hy),fun i y hy=>h.hu (i+1) y (by simpa using hy),
    fun i j a b c d h1 h2 h3 h4=>h.hr (i+1) j a b c d (by simpa using h1) (by simpa using h2) h3 h4⟩
   rw[eH,aR,cC.kZ h2,h.hu 0 u rfl,List.length_cons,cY]
   omega
theorem cC.one{w:World}{ok:Nat→Prop}{sz:Nat}{xs:List (List D)}{us:List (List Value)}(h:cC w ok sz xs us):∀v∈us.flatten,v.oneCell'=true:=by
 intro v hv
 obtain⟨u,hu,hv⟩:=List.mem_flatten.1 hv
 obtain⟨i,hi,rfl⟩:=List.getElem_of_mem hu
 obtain⟨j,hj,rfl⟩:=List.getElem_of_mem hv
 have hi':i<xs.length:=by rw[←h.len];exact hi
 have hx:xs[i]?=some xs[i]:=af hi'
 have hu':us[i]?=some us[i]:=af hi
 have hj':j<(xs[i]).length:=by rw[h.hx i _ hx,←h.hu i _ hu'];exact hj
 exact(h.hr i j _ _ _ _ hx hu' (af hj') (af hj)).one
def yw(w:World)(v:Value)(us:List (List Value)):Prop:=
 ((∃a c,v= .slice a 0 c)∧us=[])∨∃b off c,v= .slice (some ⟨b,off,none⟩) us.length c∧jW w b off us.flatten
section
variable{E:Env}
theorem AP{t e:TypeId}{i:TypeInfo}(ht:E.P.underlying t=some (.slice e))(hi:E.P.info? e=some i)(w:World)(ty:TypeId)(b:Option Addr)(n c:Nat)(h:n≤c)(a:Option Addr)(c':Nat) :
 (Builtin.append_ #[t,t] ty #[.slice b n c,.slice a 0 c']).run E.P w= .ok (.slice b n c) w:=by
 cases b with
 | none=>cases a<;>simp[Builtin.append_,run_underlying ht,sizeOf,typeInfo,hi,Builtin.lenOf,Builtin.firstCells,h,loadCells,loadCellsFrom]
 | some b=>cases a<;>simp[Builtin.append_,run_underlying ht,sizeOf,typeInfo,hi,Builtin.lenOf,Builtin.firstCells,h,storeCells,loadCells,loadCellsFrom]
theorem JI{P:Program}(w:World){e:TypeId}{i:TypeInfo}{z:Value}(hzs:z.cells.size=i.size)(n m old:Nat)(xs news:List Value)(hx:xs.length=n*i.size)(hl:news.length=m*i.size)(h63:n+m≤maxLen) :
 (w.drew.alloc (.cells (xs.toArray++news.toArray++Builtin.zeroCells z.cells (grownCap w (n+m) old e-(n+m))) e)).ownsRow 0 e i.size
  (.slice (some ⟨w.heap.size,0,none⟩) (n+m) (grownCap w (n+m) old e)) (n+m) (xs++news):=by
 have hge:=grownCap_ge w (n+m) old e
 have hcm:grownCap w (n+m) old e≤maxLen:=grownCap_le_maxLen w (n+m) old e h63
 have dz:(xs++news).length=(n+m)*i.size:=by rw[aR,hx,hl,cY]
 refine⟨dz,.inr ⟨w.heap.size,_,_,rfl,bc _,heap_alloc_new w.drew _,hge,hcm,?_,?_⟩⟩
 ·simp only[Array.size_append,eJ,size_zeroCells,hzs,hx,hl,←cY]
  congr 1
  omega
 ·simp only[Array.toList_append,bj]
  rw[←bj,←dz]
  exact List.take_left
theorem JD(w:World)(o:Obj)(B:Nat→Prop):sH B w (w.drew.alloc o):=
 ((Ci w).mono fun _ h _=>h.elim).trans ((jF w.drew o).mono (B':=B) fun _ h _=>h.elim) (fun _ h _=>h)
theorem oM{t e:TypeId}{ti ei:TI}(ht:E.ti t=some ti)(kJ:ti.ty= .slice e)(he:E.ti e=some ei)(w:World)(ty:TypeId)(v x:Value)(n:Nat)(us:List Value)(ys:List (List D))(vs:List (List Value))(ok:Nat→Prop)
 (iz:w.ownsRow 0 e ei.n v n us) (jl:cC w ok ei.n ys vs) (hx:yw w x vs) (hlb:n+ys.length≤LB) (hby:(n+ys.length)*ei.bytes≤140737488355328) :
 ∃v' w',(Builtin.append_ #[t,t] ty #[v,x]).run E.P w= .ok v' w'∧w'.ownsRow 0 e ei.n v' (n+ys.length) (us++vs.flatten)∧sH (fun b=>wL v=some b) w w' ∧
  (∀b,wL v'=some b→wL v=some b∨w.heap.size≤b):=by
 have hu:=(E.ok t ti ht).ty
 rw[kJ] at hu
 obtain⟨i,z,h1,h2,h3,h4,h5,h6⟩:=(E.ok e ei he).info
 have hpos:=(E.ok e ei he).pos
 rcases hx with⟨⟨xa,xc,rfl⟩,hvs⟩|⟨b,off,c,rfl,hc⟩
 ·subst hvs
  have hy:ys=[]:=bG (by have:=jl.len;simpa using this.symm)
  subst hy
  have hv:∃b c,v= .slice b n c∧n≤c:=by
   rcases iz.2 with⟨h7,h8⟩|⟨g,cap,cur,h7,_,_,h8,_⟩
   ·exact⟨none,0,by rw[h7,h8],by omega⟩
   ·exact⟨_,cap,h7,h8⟩
  obtain⟨b,c,hv,hnc⟩:=hv
  refine⟨v,w,?_,by simpa using iz,sH.refl _ w,fun b hb=>.inl hb⟩
  rw[hv]
  exact AP hu h1 w ty b n c hnc xa xc
 ·have hm:n+vs.length≤maxLen:=by rw[jl.len];unfold LB at hlb;simp only[maxLen];omega
  rw[←jl.len] at hby⊢
  have hl:vs.flatten.length=vs.length*i.size:=by rw[jl.kZ,jl.len,h2]
  have hnews:∀j u,vs.flatten[j]?=some u→w.cell? ((⟨b,off,none⟩:Addr).add j)=some u:=fun j u hj=>by rw[add_lit];exact hc j u hj
  have hone:=jl.one
  rw[←h3] at hby
  rw[←h2] at iz h6 hpos⊢
  have hsmall:n+vs.length≤9223372036854775807:=by simp only[maxLen] at hm;omega
  generalize vs.length=m at hl hm hby hsmall⊢
  generalize vs.flatten=news at hl hnews hone⊢
  rcases iz.2 with⟨rfl,rfl⟩|⟨gb,cap,cur,rfl,hbg,hg,hnc,hcm,hcs,htake⟩
  ·have hx:us=[]:=bG (by simpa using iz.1)
   subst hx
   by_cases hm0:m=0
   ·subst hm0
    have hn:news=[]:=bG (by simpa using hl)
    subst hn
    refine⟨.slice none 0 0,w,?_,World.ownsRow_nil w 0 e i.size,sH.refl _ w,fun b hb=>.inl hb⟩
    simp[Builtin.append_,run_underlying hu,sizeOf,typeInfo,h1,Builtin.lenOf,Builtin.firstCells,loadCells,loadCellsFrom]
   ·have hr:=run_append_nil (P:=E.P) w t ty e i z hu h1 h4 ⟨b,off,none⟩ m c news hl hnews (by omega) (by omega) (by have hb:=hby;simp only[di] at hb;omega)
    have hgr:=JI (P:=E.P) w (e:=e) h6 0 m 0 [] news (by simp) hl hm
    simp only[di,List.nil_append,Array.empty_append] at hgr⊢
    refine⟨_,_,hr,hgr,JD w _ _,fun b hb=>.inr ?_⟩
    obtain rfl:w.heap.size=b:=by simpa[wL] using hb
    exact aJ _
  ·have dz:(us++news).length=(n+m)*i.size:=by rw[aR,iz.1,hl,cY]
   by_cases hroom:n+m≤cap
   ·have hfit:n*i.size+news.length≤cur.size:=by rw[hl,hcs,←cY];exact Nat.mul_le_mul_right _ hroom
    have hr:=run_append_room (P:=E.P) w t ty e i hu h1 gb n cap cur hg ⟨b,off,none⟩ m c news hl hnews hone hroom hfit
    refine⟨_,_,hr,⟨dz,.inr ⟨gb,cap,_,rfl,hbg,setRow_heap w gb cur _ e _ hg,hroom,hcm,?_,?_⟩⟩,kI w gb _ _ rfl,fun b hb=>.inl hb⟩
    ·simp only[eJ,aR,List.length_take,List.length_drop,Array.length_toList]
     omega
    ·rw[htake,←dz]
     exact List.take_left
   ·have holds:∀j u,us[j]?=some u→w.cell? ((⟨gb,0,none⟩:Addr).add j)=some u:=iz.cells (g:=gb) rfl
    have hr:=run_append_grow (P:=E.P) w t ty e i z hu h1 h4 ⟨gb,0,none⟩ n cap us iz.1 holds ⟨b,off,none⟩ m c news hl hnews (by omega) (by omega) (growslice_fits (by omega) hby)
    have hgr:=JI (P:=E.P) w (e:=e) h6 n m cap us news iz.1 hl hm
    refine⟨_,_,hr,hgr,JD w _ _,fun b hb=>.inr ?_⟩
    obtain rfl:w.heap.size=b:=by simpa[wL] using hb
    exact aJ _
end
end Go.Eng
