/-
  The symbolic layer, first text: data by value, what a slot and an owned block hold, and how a real world fits them. No program is named here.
-/
import Derived.WalkKit
import Derived.Laws.AppendOwn
import Derived.Below
import GoSem.Claims
import Derived.ChangeKeysEq
import Derived.IntWalk
import Derived.WalkSpells
import Derived.Laws.MakeOwn
import Derived.Laws.OwnMore
import Derived.Laws.Tables
set_option linter.unusedVariables false
set_option linter.unusedSimpArgs false
open Bool renaming false_eq_true→al
open List renaming getElem?_eq_getElem→ab,length_append→ao,mem_append→aG,map_cons→aR,eq_nil_of_length_eq_zero→ba,append_assoc→bf,getD→bK,flatten_cons→bU,getElem?_take→cJ,getElem?_drop→c9,size_toArray→fL,getElem_of_mem→ld
open Nat renaming le_refl→ar,add_mul→br,zero_add→bV,lt_or_ge→cI,zero_le→cN,lt_of_lt_of_le→eh,le_trans→eC,add_zero→eD,add_assoc→eE
namespace Go.Eng
open Go.RowKit
def LB:Nat:=1099511627776
theorem CA:LB=1099511627776:=rfl
inductive D where
 | val(v:Value)
 | str(s:List UInt8)
 | b7(xs:List (List D))
inductive T where
 | leaf(d:D)
 | ref(j:Nat)
 | own(e:TypeId)(xs:List (List T))
structure Nm where
 v:Value
 f:List Nat
inductive PV where
 | any
 | undef
 | aV
 | d(x:D)
 | agg(cs:List PV)
 | gN(cs:List PV)
 | ptr(k off:Nat)
 | acc(k:Nat)
 | dv(k i off sz:Nat)
 | di(xs:List (List D))(i off:Nat)
 | fn(f:Nat)(cap:List PV)
inductive En where
 | box(cs:List PV)
 | acc(e:TypeId)(xs:List (List D))
 | cY(e:TypeId)(xs:List (List T))
 | map(yO:List (Int×Value))
 | dead
structure G where
 sl:List PV
 st:List (Option En)
def fy(w:World)(b off:Nat)(us:List Value):Prop:=∀j u,us[j]?=some u→w.cell? ⟨b,off+j,none⟩=some u
inductive dC(w:World)(ok:Nat→Prop):D→Value→Prop where
 | val(v:Value)(h:v.oneCell'=true):dC w ok (.val v) v
 | str(l:List UInt8)(h:l.length≤LB):dC w ok (.str l) (.string ⟨l.toArray⟩)
 | nil:dC w ok (.b7 []) (.slice none 0 0)
 | emp(a:Addr)(c:Nat)(h:c≤maxLen):dC w ok (.b7 []) (.slice (some a) 0 c)
 | b7(xs:List (List D))(us:List (List Value))(b off cap sz:Nat)(kC:ok b)(hb:b<w.heap.size)(fV:xs.length≤cap)(hmax:cap≤maxLen)(hB:xs.length≤LB)
  (hl:us.length=xs.length) (hx:∀(i:Nat)(x:List D),xs[i]?=some x→x.length=sz) (hu:∀(i:Nat)(u:List Value),us[i]?=some u→u.length=sz)
  (hc:fy w b off us.flatten)
  (hr:∀(i j:Nat)(x:List D)(u:List Value)(d:D)(v:Value),xs[i]?=some x→us[i]?=some u→x[j]?=some d→u[j]?=some v→dC w ok d v) :
  dC w ok (.b7 xs) (.slice (some ⟨b,off,none⟩) xs.length cap)
theorem fy.frame{w w':World}{b off:Nat}{us:List Value}(h:fy w b off us)(hw:w'.heap[b]?=w.heap[b]?):fy w' b off us:=
 fun j u hu=>(World.cell?_of_block (w:=w) (a:=⟨b,off+j,none⟩) hw).trans (h j u hu)
theorem dC.frame{w w':World}{ok ok':Nat→Prop}{d:D}{v:Value}(h:dC w ok d v)
 (hw:∀b,ok b→b<w.heap.size→ok' b∧w'.heap[b]?=w.heap[b]?) (hs:w.heap.size≤w'.heap.size):dC w' ok' d v:=by
 induction h with
 | val v h=>exact .val v h
 | str l h=>exact .str l h
 | nil=>exact .nil
 | emp a c h=>exact .emp a c h
 | b7 xs us b off cap sz kC hb fV hmax hB hl hx hu hc hr ih=>
   exact .b7 xs us b off cap sz (hw b kC hb).1 (eh hb hs) fV hmax hB hl hx hu (hc.frame (hw b kC hb).2) ih
theorem dC.one{w:World}{ok:Nat→Prop}{d:D}{v:Value}(h:dC w ok d v):v.oneCell'=true:=by
 cases h with
 | val v h=>exact h
 | str l h=>rfl
 | nil=>rfl
 | emp a c h=>rfl
 | b7 xs us b off cap sz kC hb fV hmax hB hl hx hu hc hr=>rfl
theorem dC.wi{w:World}{ok:Nat→Prop}{l:List UInt8}{v:Value}(h:dC w ok (.str l) v):v= .string ⟨l.toArray⟩∧l.length≤LB:=by
 cases h with
 | str l h=>exact⟨rfl,h⟩
theorem dC.vP{w:World}{ok:Nat→Prop}{u v:Value}(h:dC w ok (.val u) v):v=u:=by
 cases h with
 | val l h=>rfl
mutual
def aj(w:World)(ok:Nat→Prop)(ν:Nat→Nm)(st:Nat→Option En):PV→Value→Prop
 | .any,_=>True
 | .undef,v=>v=Go.undef
 | .aV,v=>v= .slice none 0 0
 | .d x,v=>dC w ok x v
 | .agg cs,v=>∃vs,v= .agg ⟨vs⟩∧ai w ok ν st cs vs
 | .gN cs,v=>∃vs,v= .tuple ⟨vs⟩∧ai w ok ν st cs vs
 | .ptr k off,v=>(st k).isSome=true∧∃b,(ν k).v= .pointer (some ⟨b,0,none⟩)∧v= .pointer (some ⟨b,off,none⟩)
 | .acc k,v=>(st k).isSome=true∧v=(ν k).v
 | .dv k i off sz,v=>(st k).isSome=true∧∃b n c,(ν k).v= .slice (some ⟨b,0,none⟩) n c∧v= .pointer (some ⟨b,i*sz+off,none⟩)
 | .di xs i off,v=>∃b o cap,dC w ok (.b7 xs) (.slice (some ⟨b,o,none⟩) xs.length cap)∧i<xs.length∧v= .pointer (some ⟨b,o+(i*(xs.getD i []).length+off),none⟩)
 | .fn f cap,v=>∃vs,v= .func (.func f) #[] ⟨vs⟩∧ai w ok ν st cap vs
def ai(w:World)(ok:Nat→Prop)(ν:Nat→Nm)(st:Nat→Option En):List PV→List Value→Prop
 | [],[]=>True
 | p::ps,v::vs=>aj w ok ν st p v∧ai w ok ν st ps vs
 | _,_=>False
end
def nth:List PV→Nat→PV
 | [],_=>.any
 | a::_,0=>a
 | _::as,n+1=>nth as n
def gy:List PV→Nat→PV→List PV
 | [],_,_=>[]
 | _::as,0,v=>v::as
 | a::as,n+1,v=>a::gy as n v
def bR:List (Option En)→Nat→Option En
 | [],_=>none
 | a::_,0=>a
 | _::as,n+1=>bR as n
def bG:List (Option En)→Nat→Option En→List (Option En)
 | [],0,v=>[v]
 | [],n+1,v=>none::bG [] n v
 | _::as,0,v=>v::as
 | a::as,n+1,v=>a::bG as n v
theorem eM:∀(l:List PV)(n:Nat)(v:PV),(gy l n v).length=l.length
 | [],_,_=>rfl
 | _::_,0,_=>rfl
 | _::as,n+1,v=>by simp[gy,eM as n v]
theorem il:∀(l:List PV)(n:Nat)(v:PV)(t:Nat),nth (gy l n v) t=if t=n∧n<l.length then v else nth l t
 | [],n,v,t=>by cases t<;>simp[gy,nth]
 | a::as,0,v,t=>by cases t<;>simp[gy,nth]
 | a::as,n+1,v,t=>by
   cases t with
   | zero=>simp[gy,nth]
   | succ t=>simp[gy,nth,il as n v t]
theorem dp:∀(l:List (Option En))(n:Nat)(v:Option En)(t:Nat),bR (bG l n v) t=if t=n then v else bR l t
 | [],0,v,t=>by cases t<;>simp[bG,bR]
 | [],n+1,v,t=>by
   cases t with
   | zero=>simp[bG,bR]
   | succ t=>simp[bG,bR,dp [] n v t]
 | a::as,0,v,t=>by cases t<;>simp[bG,bR]
 | a::as,n+1,v,t=>by
   cases t with
   | zero=>simp[bG,bR]
   | succ t=>simp[bG,bR,dp as n v t]
def G.at(g:G)(k:Nat):Option En:=bR g.st k
def En.live:En→Bool
 | .dead=>false
 | _=>true
def oE:Value→Option Nat
 | .pointer (some a)=>some a.block
 | .slice (some a) _ _=>some a.block
 | .map (some r)=>some r
 | _=>none
def Nm.has(n:Nm)(b:Nat):Prop:=oE n.v=some b∨b∈n.f
def hb(v:Value):List Nat:=match oE v with|some b=>[b]|none=>[]
theorem s8{v:Value}{b:Nat}:b∈hb v↔oE v=some b:=by
 unfold hb
 cases oE v with
 | none=>simp
 | some c=>simp[eq_comm]
def Own(ν:Nat→Nm)(st:Nat→Option En)(b:Nat):Prop:=∃k e,st k=some e∧e.live=true∧(ν k).has b
structure Cx where
 w0:World
 O0:Nat→Prop
 ν0:Nat→Nm
 Ko:Nat→Option En
 Z:Nat→Prop
def bm(X:Cx)(ν:Nat→Nm)(st:Nat→Option En)(b:Nat):Prop:=¬Own ν st b∧¬X.Z b
structure bg(w:World)(ok:Nat→Prop)(sz:Nat)(xs:List (List D))(us:List (List Value)):Prop where
 len:us.length=xs.length
 hx:∀(i:Nat)(x:List D),xs[i]?=some x→x.length=sz
 hu:∀(i:Nat)(u:List Value),us[i]?=some u→u.length=sz
 hr:∀(i j:Nat)(x:List D)(u:List Value)(d:D)(v:Value),xs[i]?=some x→us[i]?=some u→x[j]?=some d→u[j]?=some v→dC w ok d v
mutual
def fP(P:Program)(w:World)(ok:Nat→Prop)(ν:Nat→Nm)(st:Nat→Option En):T→Value→List Nat→Prop
 | .leaf d,v,F=>dC w ok d v∧F=[]
 | .ref j,v,F=>(st j).isSome=true∧v=(ν j).v∧F=[]
 | .own e xs,v,F=>∃us F1,w.ownsRow 0 e (P.cellsOf e) v xs.length us.flatten∧(∀(i:Nat)(u:List Value),us[i]?=some u→u.length=P.cellsOf e)∧aU P w ok ν st xs us F1∧xs.length≤LB∧F=hb v++F1
def aE(P:Program)(w:World)(ok:Nat→Prop)(ν:Nat→Nm)(st:Nat→Option En):List T→List Value→List Nat→Prop
 | [],[],F=>F=[]
 | t::ts,v::vs,F=>∃F1 F2,fP P w ok ν st t v F1∧aE P w ok ν st ts vs F2∧F=F1++F2
 | _,_,_=>False
def aU(P:Program)(w:World)(ok:Nat→Prop)(ν:Nat→Nm)(st:Nat→Option En):List (List T)→List (List Value)→List Nat→Prop
 | [],[],F=>F=[]
 | x::xs,u::us,F=>∃F1 F2,aE P w ok ν st x u F1∧aU P w ok ν st xs us F2∧F=F1++F2
 | _,_,_=>False
end
def PF:Value→PV
 | .agg cs=>.agg (cs.toList.map fun v=>.d (.val v))
 | v=>.d (.val v)
def PB:Value→Bool
 | .agg cs=>cs.toList.all fun v=>v.oneCell'
 | v=>v.oneCell'
def KP(es:List MapEntry):List (Value×Value):=es.map fun e=>(e.key,e.val)
def Km(yO:List (Int×Value)):List (Value×Value):=yO.map fun p=>(.int .i64 p.1,p.2)
def gk(P:Program)(w:World)(ok:Nat→Prop)(ν:Nat→Nm)(st:Nat→Option En)(k:Nat):En→Prop
 | .dead=>True
 | .box cs=>∃b vs T,(ν k).v= .pointer (some ⟨b,0,none⟩)∧w.heap[b]?=some (.cells ⟨vs⟩ T (0,0))∧ai w ok ν st cs vs∧(ν k).f=[]
 | .acc e xs=>∃us:List (List Value),w.ownsRow 0 e (P.cellsOf e) (ν k).v xs.length us.flatten∧bg w ok (P.cellsOf e) xs us∧xs.length≤LB∧(ν k).f=[]
 | .cY e xs=>fP P w ok ν st (.own e xs) (ν k).v (hb (ν k).v++(ν k).f)∧(hb (ν k).v++(ν k).f).Nodup
 | .map yO=>∃r es clock,(ν k).v= .map (some r)∧w.heap[r]?=some (.map es clock)∧KP es.toList=Km yO∧(∀p∈yO,PB p.2=true)∧(ν k).f=[]
structure nv(B:Nat→Prop)(w w':World):Prop where
 os:w'.os=w.os
 tape:w'.tape=w.tape
 output:w'.output=w.output
 size:w.heap.size≤w'.heap.size
 block:∀k,k<w.heap.size→¬B k→w'.heap[k]?=w.heap[k]?
theorem nv.refl(B:Nat→Prop)(w:World):nv B w w:=⟨rfl,rfl,rfl,ar _,fun _ _ _=>rfl⟩
theorem nv.trans{B B':Nat→Prop}{a b c:World}(h:nv B a b)(h':nv B' b c)(hb:∀k,B' k→k<a.heap.size→B k):nv B a c:=
 ⟨h'.os.trans h.os,h'.tape.trans h.tape,h'.output.trans h.output,eC h.size h'.size,
  fun k hk hn=>(h'.block k (eh hk h.size) (fun hB=>hn (hb k hB hk))).trans (h.block k hk hn)⟩
theorem nv.mono{B B':Nat→Prop}{a b:World}(h:nv B a b)(hb:∀k,B k→k<a.heap.size→B' k):nv B' a b:=
 ⟨h.os,h.tape,h.output,h.size,fun k hk hn=>h.block k hk (fun hB=>hn (hb k hB hk))⟩
def BE : String := "internal/strconv.uint64pow10"
def ID:Array Value:=((List.range 20).map fun i=>Value.int .u64 ((10 ^ i:Nat):Int)).toArray
def Kt(P:Program)(X:Cx):Prop:=∀g,P.globalNamed BE=some g→¬X.O0 g∧g<X.w0.heap.size∧X.w0.var? P BE=some ID
theorem LF{P:Program}{X:Cx}(h:P.globalNamed BE=none):Kt P X:=fun g hg=>by rw[h] at hg;cases hg
structure Zl(P:Program)(X:Cx):Prop where
 z:∀b,X.Z b→b<X.w0.heap.size∧¬X.O0 b
 k:Kt P X
instance{P:Program}{X:Cx}:CoeFun (Zl P X) (fun _=>∀b,X.Z b→b<X.w0.heap.size∧¬X.O0 b):=⟨Zl.z⟩
structure Sat(P:Program)(X:Cx)(ν:Nat→Nm)(g:G)(a:Act)(w:World):Prop where
 size:a.tmps.size=g.sl.length
 sl:∀t,aj w (bm X ν g.at) ν g.at (nth g.sl t) (a.tmps.getD t Go.undef)
 en:∀k e,g.at k=some e→gk P w (bm X ν g.at) ν g.at k e
 inj:∀k k' e e' b,g.at k=some e→g.at k'=some e'→e.live=true→e'.live=true→(ν k).has b→(ν k').has b→k=k'
 base:∀b,Own ν g.at b→X.O0 b∨X.w0.heap.size≤b
 nu:∀k,(g.at k).isSome=true→(ν k).v.oneCell'=true
 par:∀k,(X.Ko k).isSome=true→(ν k).v=(X.ν0 k).v∧(g.at k).isSome=true
 wx:Zl P X
 qp:nv X.O0 X.w0 w
 defs:a.defers=[]
theorem Sat.BK{P:Program}{X:Cx}{ν:Nat→Nm}{g:G}{a:Act}{w:World}(h:Sat P X ν g a w){b:Nat}(hb:Own ν g.at b):¬X.Z b:=fun hz=>
 (h.base b hb).elim (h.wx b hz).2 (fun hge=>by have:=(h.wx b hz).1;omega)
theorem Sat.kt{P:Program}{X X':Cx}{ν:Nat→Nm}{g:G}{a:Act}{w:World}(h:Sat P X ν g a w)(hw:X'.w0=w)(ho:∀b,X'.O0 b→Own ν g.at b):Kt P X':=fun t ht=>by
 obtain⟨k1,k2,k3⟩:=h.wx.k t ht
 have hb:=h.qp.block t k2 k1
 refine⟨fun hx=>?_,by rw[hw];exact eh k2 h.qp.size,?_⟩
 ·rcases h.base t (ho t hx) with h1|h1
  ·exact k1 h1
  ·omega
 ·rw[hw,←k3]
  simp only[World.var?,ht,Option.bind_some,hb]
def gY(st st':Nat→Option En)(ν ν':Nat→Nm):Prop:=∀k,(st k).isSome=true→(ν' k).v=(ν k).v∧(st' k).isSome=true
theorem gY.refl(st:Nat→Option En)(ν:Nat→Nm):gY st st ν ν:=fun _ h=>⟨rfl,h⟩
section
variable{w w':World}{ok ok':Nat→Prop}{ν ν':Nat→Nm}{st st':Nat→Option En}
mutual
theorem aj.frame(hw:∀b,ok b→b<w.heap.size→ok' b∧w'.heap[b]?=w.heap[b]?)(hs:w.heap.size≤w'.heap.size)(hm:gY st st' ν ν') :
 ∀(p:PV)(v:Value),aj w ok ν st p v→aj w' ok' ν' st' p v
 | .any,_,_=>by simp[aj]
 | .undef,_,h=>by simpa[aj] using h
 | .aV,_,h=>by simpa[aj] using h
 | .d x,v,h=>by
   simp only[aj] at h⊢
   exact h.frame hw hs
 | .agg cs,v,h=>by
   simp only[aj] at h⊢
   obtain⟨vs,rfl,h⟩:=h
   exact⟨vs,rfl,ai.frame hw hs hm cs vs h⟩
 | .gN cs,v,h=>by
   simp only[aj] at h⊢
   obtain⟨vs,rfl,h⟩:=h
   exact⟨vs,rfl,ai.frame hw hs hm cs vs h⟩
 | .ptr k off,v,h=>by
   simp only[aj] at h⊢
   rw[(hm k h.1).1]
   exact⟨(hm k h.1).2,h.2⟩
 | .acc k,v,h=>by
   simp only[aj] at h⊢
   rw[(hm k h.1).1]
   exact⟨(hm k h.1).2,h.2⟩
 | .dv k i off sz,v,h=>by
   simp only[aj] at h⊢
   rw[(hm k h.1).1]
   exact⟨(hm k h.1).2,h.2⟩
 | .di xs i off,v,h=>by
   simp only[aj] at h⊢
   obtain⟨b,o,cap,h1,h2,h3⟩:=h
   exact⟨b,o,cap,h1.frame hw hs,h2,h3⟩
 | .fn f cap,v,h=>by
   simp only[aj] at h⊢
   obtain⟨vs,rfl,h⟩:=h
   exact⟨vs,rfl,ai.frame hw hs hm cap vs h⟩
theorem ai.frame(hw:∀b,ok b→b<w.heap.size→ok' b∧w'.heap[b]?=w.heap[b]?)(hs:w.heap.size≤w'.heap.size)(hm:gY st st' ν ν') :
 ∀(ps:List PV)(vs:List Value),ai w ok ν st ps vs→ai w' ok' ν' st' ps vs
 | [],[],_=>by simp[ai]
 | [],_::_,h=>by simp[ai] at h
 | _::_,[],h=>by simp[ai] at h
 | p::ps,v::vs,h=>by
   simp only[ai] at h⊢
   exact⟨aj.frame hw hs hm p v h.1,ai.frame hw hs hm ps vs h.2⟩
end
end
theorem bg.frame{w w':World}{ok ok':Nat→Prop}{sz:Nat}{xs:List (List D)}{us:List (List Value)}(h:bg w ok sz xs us)
 (hw:∀b,ok b→b<w.heap.size→ok' b∧w'.heap[b]?=w.heap[b]?) (hs:w.heap.size≤w'.heap.size):bg w' ok' sz xs us:=
 ⟨h.len,h.hx,h.hu,fun i j x u d v h1 h2 h3 h4=>(h.hr i j x u d v h1 h2 h3 h4).frame hw hs⟩
theorem n7{w:World}{b:Nat}{o:Obj}(h:w.heap[b]?=some o):b<w.heap.size:=by
 rcases cI b w.heap.size with h' | h'
 ·exact h'
 ·rw[Array.getElem?_eq_none h'] at h;cases h
theorem hX{n:Nm}{b:Nat}(h:n.f=[]):n.has b↔oE n.v=some b:=by simp[Nm.has,h]
theorem jL{n:Nm}{b:Nat}:n.has b↔b∈hb n.v++n.f:=by rw[aG,s8];exact Iff.rfl
theorem w7{w:World}{e sz n b:Nat}{v:Value}{us:List Value}(h:w.ownsRow 0 e sz v n us)(hb:oE v=some b):b<w.heap.size:=by
 rcases h.2 with⟨h2,_⟩|⟨g,cap,cur,h2,_,h3,_⟩
 ·rw[h2] at hb;simp[oE] at hb
 ·rw[h2] at hb
  obtain rfl:g=b:=by simpa[oE] using hb
  exact n7 h3
theorem qy{w w':World}{e sz n:Nat}{v:Value}{us:List Value}(h:w.ownsRow 0 e sz v n us)(hb:∀b,oE v=some b→w'.heap[b]?=w.heap[b]?):w'.ownsRow 0 e sz v n us:=by
 refine⟨h.1,?_⟩
 rcases h.2 with⟨h4,h5⟩|⟨b,cap,cur,h4,h5,h6,h7⟩
 ·exact .inl ⟨h4,h5⟩
 ·exact .inr ⟨b,cap,cur,h4,h5,(hb b (by rw[h4];rfl)).trans h6,h7⟩
section
variable{P:Program}{w w':World}{ok ok':Nat→Prop}{ν ν':Nat→Nm}{st st':Nat→Option En}
mutual
theorem fP.lt:∀(t:T)(v:Value)(F:List Nat),fP P w ok ν st t v F→∀b∈F,b<w.heap.size
 | .leaf d,v,F,h,b,hm=>by simp only[fP] at h;rw[h.2] at hm;cases hm
 | .ref j,v,F,h,b,hm=>by simp only[fP] at h;rw[h.2.2] at hm;cases hm
 | .own e xs,v,F,h,b,hm=>by
   simp only[fP] at h
   obtain⟨us,F1,h1,_,h2,_,rfl⟩:=h
   rcases aG.1 hm with hm|hm
   ·exact w7 h1 (s8.1 hm)
   ·exact aU.lt xs us F1 h2 b hm
theorem aE.lt:∀(ts:List T)(vs:List Value)(F:List Nat),aE P w ok ν st ts vs F→∀b∈F,b<w.heap.size
 | [],[],F,h,b,hm=>by simp only[aE] at h;rw[h] at hm;cases hm
 | [],_::_,F,h,b,hm=>by simp[aE] at h
 | _::_,[],F,h,b,hm=>by simp[aE] at h
 | t::ts,v::vs,F,h,b,hm=>by
   simp only[aE] at h
   obtain⟨F1,F2,h1,h2,rfl⟩:=h
   rcases aG.1 hm with hm|hm
   ·exact fP.lt t v F1 h1 b hm
   ·exact aE.lt ts vs F2 h2 b hm
theorem aU.lt:∀(xs:List (List T))(us:List (List Value))(F:List Nat),aU P w ok ν st xs us F→∀b∈F,b<w.heap.size
 | [],[],F,h,b,hm=>by simp only[aU] at h;rw[h] at hm;cases hm
 | [],_::_,F,h,b,hm=>by simp[aU] at h
 | _::_,[],F,h,b,hm=>by simp[aU] at h
 | x::xs,u::us,F,h,b,hm=>by
   simp only[aU] at h
   obtain⟨F1,F2,h1,h2,rfl⟩:=h
   rcases aG.1 hm with hm|hm
   ·exact aE.lt x u F1 h1 b hm
   ·exact aU.lt xs us F2 h2 b hm
end
mutual
theorem fP.frame(hw:∀b,ok b→b<w.heap.size→ok' b∧w'.heap[b]?=w.heap[b]?)(hs:w.heap.size≤w'.heap.size)(hm:gY st st' ν ν') :
 ∀(t:T)(v:Value)(F:List Nat),fP P w ok ν st t v F→(∀b∈F,w'.heap[b]?=w.heap[b]?)→fP P w' ok' ν' st' t v F
 | .leaf d,v,F,h,_=>by simp only[fP] at h⊢;exact⟨h.1.frame hw hs,h.2⟩
 | .ref j,v,F,h,_=>by simp only[fP] at h⊢;exact⟨(hm j h.1).2,by rw[h.2.1,(hm j h.1).1],h.2.2⟩
 | .own e xs,v,F,h,hF=>by
   simp only[fP] at h⊢
   obtain⟨us,F1,h1,h2,h3,h4,rfl⟩:=h
   exact⟨us,F1,qy h1 fun b hb=>hF b (aG.2 (.inl (s8.2 hb))),h2,aU.frame hw hs hm xs us F1 h3 fun b hb=>hF b (aG.2 (.inr hb)),h4,rfl⟩
theorem aE.frame(hw:∀b,ok b→b<w.heap.size→ok' b∧w'.heap[b]?=w.heap[b]?)(hs:w.heap.size≤w'.heap.size)(hm:gY st st' ν ν') :
 ∀(ts:List T)(vs:List Value)(F:List Nat),aE P w ok ν st ts vs F→(∀b∈F,w'.heap[b]?=w.heap[b]?)→aE P w' ok' ν' st' ts vs F
 | [],[],F,h,_=>by simpa only[aE] using h
 | [],_::_,F,h,_=>by simp[aE] at h
 | _::_,[],F,h,_=>by simp[aE] at h
 | t::ts,v::vs,F,h,hF=>by
   simp only[aE] at h⊢
   obtain⟨F1,F2,h1,h2,rfl⟩:=h
   exact⟨F1,F2,fP.frame hw hs hm t v F1 h1 fun b hb=>hF b (aG.2 (.inl hb)),aE.frame hw hs hm ts vs F2 h2 fun b hb=>hF b (aG.2 (.inr hb)),rfl⟩
theorem aU.frame(hw:∀b,ok b→b<w.heap.size→ok' b∧w'.heap[b]?=w.heap[b]?)(hs:w.heap.size≤w'.heap.size)(hm:gY st st' ν ν') :
 ∀(xs:List (List T))(us:List (List Value))(F:List Nat),aU P w ok ν st xs us F→(∀b∈F,w'.heap[b]?=w.heap[b]?)→aU P w' ok' ν' st' xs us F
 | [],[],F,h,_=>by simpa only[aU] using h
 | [],_::_,F,h,_=>by simp[aU] at h
 | _::_,[],F,h,_=>by simp[aU] at h
 | x::xs,u::us,F,h,hF=>by
   simp only[aU] at h⊢
   obtain⟨F1,F2,h1,h2,rfl⟩:=h
   exact⟨F1,F2,aE.frame hw hs hm x u F1 h1 fun b hb=>hF b (aG.2 (.inl hb)),aU.frame hw hs hm xs us F2 h2 fun b hb=>hF b (aG.2 (.inr hb)),rfl⟩
end
end
theorem gk.lt{P:Program}{w:World}{ok:Nat→Prop}{ν:Nat→Nm}{st:Nat→Option En}{k b:Nat}{e:En}
 (h:gk P w ok ν st k e) (hl:e.live=true) (hb:(ν k).has b):b<w.heap.size:=by
 cases e with
 | dead=>cases hl
 | box cs=>
   obtain⟨b',vs,T,h1,h2,_,h3⟩:=h
   rw[hX h3,h1] at hb
   obtain rfl:b'=b:=by simpa[oE] using hb
   exact n7 h2
 | acc e xs=>
   obtain⟨us,h1,_,_,h3⟩:=h
   rw[hX h3] at hb
   exact w7 h1 hb
 | cY e xs=>exact fP.lt _ _ _ h.1 b (jL.1 hb)
 | map yO=>
   obtain⟨r,es,clock,h1,h2,_,_,h3⟩:=h
   rw[hX h3,h1] at hb
   obtain rfl:r=b:=by simpa[oE] using hb
   exact n7 h2
theorem Sat.lt{P:Program}{X:Cx}{ν:Nat→Nm}{g:G}{a:Act}{w:World}(h:Sat P X ν g a w){b:Nat}
 (hb:Own ν g.at b):b<w.heap.size:=by
 obtain⟨k,e,h1,h2,h3⟩:=hb
 exact(h.en k e h1).lt h2 h3
theorem gk.frame{P:Program}{w w':World}{ok ok':Nat→Prop}{ν ν':Nat→Nm}{st st':Nat→Option En}{k:Nat}{e:En}
 (h:gk P w ok ν st k e) (hw:∀b,ok b→b<w.heap.size→ok' b∧w'.heap[b]?=w.heap[b]?) (hs:w.heap.size≤w'.heap.size) (hm:gY st st' ν ν')
 (hν:ν' k=ν k) (hb:∀b,e.live=true→(ν k).has b→w'.heap[b]?=w.heap[b]?):gk P w' ok' ν' st' k e:=by
 cases e with
 | dead=>trivial
 | box cs=>
   obtain⟨b,vs,T,h1,h2,h3,h4⟩:=h
   simp only[gk,hν]
   exact⟨b,vs,T,h1,(hb b rfl ((hX h4).2 (by rw[h1];rfl))).trans h2,ai.frame hw hs hm cs vs h3,h4⟩
 | acc t xs=>
   obtain⟨us,h1,h2,h3,h4⟩:=h
   simp only[gk,hν]
   exact⟨us,qy h1 fun b h=>hb b rfl ((hX h4).2 h),h2.frame hw hs,h3,h4⟩
 | cY t xs=>
   simp only[gk,hν]
   exact⟨fP.frame hw hs hm _ _ _ h.1 fun b h=>hb b rfl (jL.2 h),h.2⟩
 | map yO=>
   obtain⟨r,es,clock,h1,h2,h3,h4,h5⟩:=h
   simp only[gk,hν]
   exact⟨r,es,clock,h1,(hb r rfl ((hX h5).2 (by rw[h1];rfl))).trans h2,h3,h4,h5⟩
theorem Sat.JL{P:Program}{X:Cx}{ν:Nat→Nm}{g:G}{a:Act}{w:World}(h:Sat P X ν g a w)
 {ν':Nat→Nm} {g':G} {a':Act} {w':World} (B:Nat→Prop) (lF:nv B w w') (hB:∀b,B b→Own ν g.at b)
 (hm:gY g.at g'.at ν ν')
 (hen:∀k e,g'.at k=some e→(g.at k=some e∧ν' k=ν k∧∀b,e.live=true→(ν k).has b→¬B b)∨gk P w' (bm X ν' g'.at) ν' g'.at k e)
 (dP:∀k e b,g'.at k=some e→e.live=true→(ν' k).has b→Own ν g.at b∨w.heap.size≤b)
 (hinj:∀k k' e e' b,g'.at k=some e→g'.at k'=some e'→e.live=true→e'.live=true→(ν' k).has b→(ν' k').has b→k=k')
 (hnu:∀k,(g'.at k).isSome=true→(g.at k).isSome=true∨(ν' k).v.oneCell'=true)
 (hsize:a'.tmps.size=g'.sl.length)
 (hsl:∀t,(nth g'.sl t=nth g.sl t∧a'.tmps.getD t Go.undef=a.tmps.getD t Go.undef)∨aj w' (bm X ν' g'.at) ν' g'.at (nth g'.sl t) (a'.tmps.getD t Go.undef))
 (hdefs:a'.defers=a.defers):Sat P X ν' g' a' w':=by
 have hown':∀b,Own ν' g'.at b→Own ν g.at b∨w.heap.size≤b:=by
  rintro b ⟨k,e,h1,h2,h3⟩
  exact dP k e b h1 h2 h3
 have hw:∀b,bm X ν g.at b→b<w.heap.size→bm X ν' g'.at b∧w'.heap[b]?=w.heap[b]?:=fun b hn hb=>
  ⟨⟨fun ho=>(hown' b ho).elim hn.1 (fun hge=>by omega),hn.2⟩,lF.block b hb (fun hBb=>hn.1 (hB b hBb))⟩
 refine⟨hsize,fun t=>?_,fun k e he=>?_,fun k k' e e' b h1 h2 h3 h4 h5 h6=>?_,fun b hb=>?_,fun k hk=>?_,fun k hk=>?_,h.wx,?_,hdefs.trans h.defs⟩
 ·rcases hsl t with⟨h1,h2⟩|h1
  ·rw[h1,h2]
   exact aj.frame hw lF.size hm _ _ (h.sl t)
  ·exact h1
 ·rcases hen k e he with⟨h1,hν,h2⟩|h1
  ·refine(h.en k e h1).frame hw lF.size hm hν fun b hl hb=>?_
   exact lF.block b ((h.en k e h1).lt hl hb) (h2 b hl hb)
  ·exact h1
 ·exact hinj k k' e e' b h1 h2 h3 h4 h5 h6
 ·rcases hown' b hb with h1|h1
  ·exact h.base b h1
  ·exact .inr (eC h.qp.size h1)
 ·rcases hnu k hk with h1|h1
  ·rw[(hm k h1).1];exact h.nu k h1
  ·exact h1
 ·obtain⟨h1,h2⟩:=h.par k hk
  exact⟨(hm k h2).1.trans h1,(hm k h2).2⟩
 ·refine h.qp.trans lF fun k hk kf=>?_
  rcases h.base k (hB k hk) with h1|h1
  ·exact h1
  ·omega
end Go.Eng
namespace Go.Eng
open Go.RowKit
inductive TY where
 | bool|int (k:IntKind)|str|ptr (e:Nat)|slice (e:Nat)|arr (len e:Nat)|struct (fs:List (Nat×Nat×Nat))|other
structure TI where
 ty:TY
 n:Nat
 bytes:Nat
 zero:List PV
def TI.isAgg(ti:TI):Bool:=
 match ti.ty with
 | .struct _=>true
 | .arr _ _=>true
 | _=>false
def tN:List UInt8→Nat→Bool
 | [],_=>true
 | _::_,0=>false
 | _::as,n+1=>tN as n
theorem An:∀{l:List UInt8}{n:Nat},tN l n=true→l.length≤n
 | [],_,_=>cN _
 | _::_,0,h=>by simp[tN] at h
 | _::as,n+1,h=>Nat.succ_le_succ (An (l:=as) (by simpa[tN] using h))
def I0:Value→PV
 | .bool b=>.d (.val (.bool b))
 | .int k n=>.d (.val (.int k n))
 | .string s=>match tN s.data.toList 4096 with|true=>.d (.str s.data.toList)|false=>.any
 | .slice none 0 0=>.aV
 | .pointer none=>.d (.val (.pointer none))
 | .nilFunc=>.d (.val .nilFunc)
 | .nilIface=>.d (.val .nilIface)
 | .map none=>.d (.val (.map none))
 | _=>.any
def Bq:List Value→List PV
 | []=>[]
 | v::vs=>I0 v::Bq vs
def Ow:Value→PV
 | .agg cs=>.agg (Bq cs.toList)
 | .tuple cs=>match cs.toList with | []=>.undef|_=>.any
 | v=>I0 v
def Oy:PV→Option D
 | .d x=>some x
 | .aV=>some (.b7 [])
 | _=>none
def qE:List PV→Option (List D)
 | []=>some []
 | p::ps=>match Oy p,qE ps with|some x,some xs=>some (x::xs)|_,_=>none
def TY.Ok(P:Program)(t:TypeId):TY→Prop
 | .bool=>P.underlying t=some .bool
 | .int k=>P.underlying t=some (.int k)
 | .str=>P.underlying t=some .string
 | .ptr e=>P.underlying t=some (.pointer e)
 | .slice e=>P.underlying t=some (.slice e)
 | .arr n e=>P.underlying t=some (.array n e)
 | .struct fs=>∃fields:Array Field,P.underlying t=some (.struct fields)∧fields.toList.mapM (fun f=>(P.info? f.type).map fun i=>(f.offset,i.size))=some (fs.map fun x=>(x.2.1,x.2.2)) ∧
  ∀(j ft off sz:Nat),fs[j]?=some (ft,off,sz)→∃f,fields[j]?=some f∧f.type=ft∧f.offset=off∧P.cellsOf ft=sz∧0<sz
 | .other=>∃d,P.underlying t=some d∧(match d with | .struct _ | .array _ _=>False|_=>True)
structure TI.Ok(P:Program)(t:TypeId)(ti:TI):Prop where
 info:∃i z,P.info? t=some i∧i.size=ti.n∧i.bytes=ti.bytes∧i.zero=some z∧Bq z.cells.toList=ti.zero∧z.cells.size=ti.n
 pos:0<ti.n
 one:ti.isAgg=false→ti.n=1
 ty:TY.Ok P t ti.ty
structure Env where
 P:Program
 ti:Nat→Option TI
 ok:∀t i,ti t=some i→TI.Ok P t i
theorem Cd(w:World)(ok:Nat→Prop)(ν:Nat→Nm)(st:Nat→Option En)(v:Value):aj w ok ν st (I0 v) v:=by
 unfold I0
 split<;>try simp only[aj]
 ·exact .val _ rfl
 ·exact .val _ rfl
 ·rename_i s
  split
  ·rename_i h
   have:=An h
   simp only[aj]
   exact .str s.data.toList (by unfold LB;omega)
  ·simp only[aj]
 ·exact .val _ rfl
 ·exact .val _ rfl
 ·exact .val _ rfl
 ·exact .val _ rfl
theorem nC(w:World)(ok:Nat→Prop)(ν:Nat→Nm)(st:Nat→Option En):∀(vs:List Value),ai w ok ν st (Bq vs) vs
 | []=>by simp[Bq,ai]
 | v::vs=>by simp only[Bq,ai];exact⟨Cd w ok ν st v,nC w ok ν st vs⟩
theorem K8(w:World)(ok:Nat→Prop)(ν:Nat→Nm)(st:Nat→Option En)(v:Value):aj w ok ν st (Ow v) v:=by
 unfold Ow
 split
 ·rename_i cs
  simp only[aj]
  exact⟨cs.toList,rfl,nC w ok ν st _⟩
 ·rename_i cs
  split
  ·rename_i h
   simp only[aj]
   have:cs = #[]:=by simpa using h
   rw[this];rfl
  ·simp only[aj]
 ·exact Cd w ok ν st v
def G.ev(g:G):Operand→PV
 | .tmp t=>nth g.sl t
 | .const v=>Ow v
 | .global _=>.any
 | .func f=>.fn f []
def bZ:Operand→List Nat
 | .tmp t=>[t]
 | _=>[]
theorem Sat.ev{P:Program}{X:Cx}{ν:Nat→Nm}{g:G}{a:Act}{w:World}(h:Sat P X ν g a w)(x:Operand) :
 aj w (bm X ν g.at) ν g.at (g.ev x) (a.eval x):=by
 cases x with
 | tmp t=>exact h.sl t
 | const v=>exact K8 _ _ _ _ v
 | global n=>simp only[G.ev,aj]
 | func f=>simp only[G.ev,aj];exact⟨[],rfl,by simp[ai]⟩
structure Dl where
 dst:Option (Nat×PV)
 up:List (Nat×En)
def pU:List (Option En)→List (Nat×En)→List (Option En)
 | st,[]=>st
 | st,(k,e)::r=>pU (bG st k (some e)) r
def nD(sl:List PV):Option (Nat×PV)→List PV
 | none=>sl
 | some (d,p)=>gy sl d p
def G.app(g:G)(δ:Dl):G:=⟨nD g.sl δ.dst,pU g.st δ.up⟩
structure Rd where
 s:List Nat
 p:List Nat
structure rN(R:Rd)(g g2:G):Prop where
 s:∀t∈R.s,nth g2.sl t=nth g.sl t
 p:∀k∈R.p,g2.at k=g.at k
theorem rN.ev{R:Rd}{g g2:G}(h:rN R g g2){x:Operand}(hx:∀t∈bZ x,t∈R.s):g2.ev x=g.ev x:=by
 cases x with
 | tmp t=>exact h.s t (hx t (by simp[bZ]))
 | const v=>rfl
 | global n=>rfl
 | func f=>rfl
def yP(P:Program)(o:Oper)(g g':G):Prop:=
 ∀(X:Cx)(ν:Nat→Nm)(a:Act)(w:World)(next:Act→World→Prop)(Q:Exit→Act→World→Prop),
  Sat P X ν g a w→(∀ν' a' w',Sat P X ν' g' a' w'→next a' w')→o.wp P a w next Q
def gL(P:Program)(o:Oper)(g:G)(R:Rd)(δ:Dl):Prop:=∀g2,rN R g g2→yP P o g2 (g2.app δ)
theorem size_put(a:Act)(d:Nat)(v:Value):(a.put (some d) v).tmps.size=a.tmps.size:=by simp[Act.put]
theorem lY(a:Act)(d:Nat)(v:Value)(t:Nat) :
 (a.put (some d) v).tmps.getD t Go.undef=if t=d∧d<a.tmps.size then v else a.tmps.getD t Go.undef:=by
 simp only[Act.put,Array.getD_eq_getD_getElem?,Array.getElem?_setIfInBounds]
 by_cases h:d=t
 ·subst h
  by_cases h2:d<a.tmps.size
  ·simp[h2]
  ·simp[h2]
 ·have h':¬t=d:=fun e=>h e.symm
  simp[h,h']
theorem Sat.put{P:Program}{X:Cx}{ν:Nat→Nm}{g:G}{a:Act}{w:World}(h:Sat P X ν g a w)(d:Nat){p:PV}{v:Value}
 (hv:aj w (bm X ν g.at) ν g.at p v):Sat P X ν ⟨gy g.sl d p,g.st⟩ (a.put (some d) v) w:=by
 refine h.JL (g':=⟨gy g.sl d p,g.st⟩) (fun _=>False) (nv.refl _ w) (fun _ hb=>hb.elim) (gY.refl _ _) (fun k e he=>.inl ⟨he,rfl,fun _ _ _ hb=>hb⟩) (fun k e b he hl hb=>.inl ⟨k,e,he,hl,hb⟩) ?_ (fun k hk=>.inl hk) ?_ ?_ rfl
 ·intro k k' e e' b h1 h2 h3 h4 h5 h6
  exact h.inj k k' e e' b h1 h2 h3 h4 h5 h6
 ·simp[size_put,eM,h.size]
 ·intro t
  simp only[lY,il,h.size]
  by_cases hc:t=d∧d<g.sl.length
  ·simp only[hc,and_self,if_true]
   exact .inr hv
  ·simp only[hc,if_false]
   exact .inl ⟨trivial,trivial⟩
theorem yP.val{P:Program}{o:Oper}{g:G}{d:Nat}{p:PV}(hd:o.dst=some d)
 (h:∀(X:Cx)(ν:Nat→Nm)(a:Act)(w:World),Sat P X ν g a w→∃v,(execOp a.eval o).run P w= .ok (.value v) w∧aj w (bm X ν g.at) ν g.at p v) :
 yP P o g (g.app ⟨some (d,p),[]⟩):=by
 intro X ν a w next Q hs hn
 obtain⟨v,hr,hv⟩:=h X ν a w hs
 unfold Oper.wp
 rw[hr,Oper.upon_value,hd]
 exact hn ν _ _ (hs.put d hv)
section
variable{E:Env}{g:G}{d:Nat}{ty:TypeId}{pos:String}{cP:Array Edge}{gd:Option (Nat×Bool)}
theorem Bn(x:Operand):gL E.P ⟨some d,.move x,ty,pos,cP,gd⟩ g ⟨bZ x,[]⟩ ⟨some (d,g.ev x),[]⟩:=by
 intro g2 hg
 rw[←hg.ev (x:=x) (fun t h=>h)]
 exact yP.val rfl fun X ν a w hs=>⟨a.eval x,rfl,hs.ev x⟩
theorem GD(x:Operand):gL E.P ⟨some d,.assign x,ty,pos,cP,gd⟩ g ⟨bZ x,[]⟩ ⟨some (d,g.ev x),[]⟩:=by
 intro g2 hg
 rw[←hg.ev (x:=x) (fun t h=>h)]
 exact yP.val rfl fun X ν a w hs=>⟨a.eval x,rfl,hs.ev x⟩
theorem FW(c x y:Operand)(b:Bool)(hc:g.ev c= .d (.val (.bool b))) :
 gL E.P ⟨some d,.pick c x y,ty,pos,cP,gd⟩ g ⟨bZ c++bZ (if b then x else y),[]⟩ ⟨some (d,g.ev (if b then x else y)),[]⟩:=by
 intro g2 hg
 have h1:=hg.ev (x:=c) (fun t h=>by simp[h])
 rw[←hg.ev (x:=if b then x else y) (fun t h=>by simp[h])]
 refine yP.val rfl fun X ν a w hs=>?_
 have hcv:=hs.ev c
 rw[h1,hc] at hcv
 simp only[aj] at hcv
 have:=hcv.vP
 refine⟨a.eval (if b then x else y),?_,hs.ev _⟩
 cases b<;>simp[execOp,this,asBool]
theorem fK{w:World}{ok:Nat→Prop}{ν:Nat→Nm}{st:Nat→Option En}{u v:Value}(h:aj w ok ν st (.d (.val u)) v):v=u:=by
 simp only[aj] at h
 exact h.vP
theorem n9{w:World}{ok:Nat→Prop}{ν:Nat→Nm}{st:Nat→Option En}{l:List UInt8}{v:Value}(h:aj w ok ν st (.d (.str l)) v):v= .string ⟨l.toArray⟩∧l.length≤LB:=by
 simp only[aj] at h
 exact h.wi
theorem ig{w:World}{ok:Nat→Prop}{ν:Nat→Nm}{st:Nat→Option En}{v:Value}(h:v.oneCell'=true):aj w ok ν st (.d (.val v)) v:=by
 simp only[aj]
 exact .val v h
theorem BC{o:Oper}{x:Operand}{u r:Value}(hd:o.dst=some d)(hx:g.ev x= .d (.val u))(hr:r.oneCell'=true)
 (h:∀(a:Act)(w:World),a.eval x=u→(execOp a.eval o).run E.P w= .ok (.value r) w):gL E.P o g ⟨bZ x,[]⟩ ⟨some (d,.d (.val r)),[]⟩:=by
 intro g2 hg
 have h1:=hg.ev (x:=x) (fun t h=>h)
 refine yP.val hd fun X ν a w hs=>?_
 have hv:=hs.ev x
 rw[h1,hx] at hv
 exact⟨r,h a w (fK hv),ig hr⟩
theorem km{o:Oper}{x y:Operand}{u v r:Value}(hd:o.dst=some d)(hx:g.ev x= .d (.val u))(hy:g.ev y= .d (.val v))(hr:r.oneCell'=true)
 (h:∀(a:Act)(w:World),a.eval x=u→a.eval y=v→(execOp a.eval o).run E.P w= .ok (.value r) w):gL E.P o g ⟨bZ x++bZ y,[]⟩ ⟨some (d,.d (.val r)),[]⟩:=by
 intro g2 hg
 have h1:=hg.ev (x:=x) (fun t h=>by simp[h])
 have h2:=hg.ev (x:=y) (fun t h=>by simp[h])
 refine yP.val hd fun X ν a w hs=>?_
 have hv:=hs.ev x
 rw[h1,hx] at hv
 have jT:=hs.ev y
 rw[h2,hy] at jT
 exact⟨r,h a w (fK hv) (fK jT),ig hr⟩
def Hg(n:Int):Prop:=-9223372036854775808≤n∧n≤9223372036854775807
theorem wrap_i64{n:Int}(h:Hg n):IntKind.i64.wrap n=n:=IntWalk.i64_in n h
theorem run_equalIn_bool(P:Program)(w:World)(n:Nat){t:TypeId}(a b:Bool)(h:P.underlying t=some .bool):(Op.equalIn (n+1) t (.bool a) (.bool b)).run P w= .ok (a == b) w:=by
 simp[Op.equalIn,run_underlying h]
theorem run_equal_bool(P:Program)(w:World){t:TypeId}(a b:Bool)(h:P.underlying t=some .bool):(Op.equal t (.bool a) (.bool b)).run P w= .ok (a == b) w:=
 run_equalIn_bool P w 9999 a b h
theorem MS(x y:Operand)(m n:Int)(t u:TypeId)(hx:g.ev x= .d (.val (.int .i64 m)))(hy:g.ev y= .d (.val (.int .i64 n)))(hi:Hg (m+n)) :
 gL E.P ⟨some d,.binOp .add t x y u,ty,pos,cP,gd⟩ g ⟨bZ x++bZ y,[]⟩ ⟨some (d,.d (.val (.int .i64 (m+n)))),[]⟩:=
 km rfl hx hy rfl fun a w h1 h2=>by simp[execOp,h1,h2,eqGuard,binOp,Op.intArith,wrap_i64 hi]
theorem ND(x y:Operand)(m n:Int)(t u:TypeId)(hx:g.ev x= .d (.val (.int .i64 m)))(hy:g.ev y= .d (.val (.int .i64 n)))(hi:Hg (m-n)) :
 gL E.P ⟨some d,.binOp .sub t x y u,ty,pos,cP,gd⟩ g ⟨bZ x++bZ y,[]⟩ ⟨some (d,.d (.val (.int .i64 (m-n)))),[]⟩:=
 km rfl hx hy rfl fun a w h1 h2=>by simp[execOp,h1,h2,eqGuard,binOp,Op.intArith,wrap_i64 hi]
theorem MV(x y:Operand)(m n:Int)(t u:TypeId)(hx:g.ev x= .d (.val (.int .i64 m)))(hy:g.ev y= .d (.val (.int .i64 n)))(hi:Hg (m*n)) :
 gL E.P ⟨some d,.binOp .mul t x y u,ty,pos,cP,gd⟩ g ⟨bZ x++bZ y,[]⟩ ⟨some (d,.d (.val (.int .i64 (m*n)))),[]⟩:=
 km rfl hx hy rfl fun a w h1 h2=>by simp[execOp,h1,h2,eqGuard,binOp,Op.intArith,wrap_i64 hi]
theorem ML(x y:Operand)(m n:Int)(t u:TypeId)(hx:g.ev x= .d (.val (.int .i64 m)))(hy:g.ev y= .d (.val (.int .i64 n)))(hn:n≠0)(hi:Hg (m.tdiv n)) :
 gL E.P ⟨some d,.binOp .quo t x y u,ty,pos,cP,gd⟩ g ⟨bZ x++bZ y,[]⟩ ⟨some (d,.d (.val (.int .i64 (m.tdiv n)))),[]⟩:=
 km rfl hx hy rfl fun a w h1 h2=>by simp[execOp,h1,h2,eqGuard,binOp,Op.intDiv,wrap_i64 hi,hn]
theorem MQ(x y:Operand)(m n:Int)(t u:TypeId)(hx:g.ev x= .d (.val (.int .i64 m)))(hy:g.ev y= .d (.val (.int .i64 n)))(hn:n≠0) :
 gL E.P ⟨some d,.binOp .rem t x y u,ty,pos,cP,gd⟩ g ⟨bZ x++bZ y,[]⟩ ⟨some (d,.d (.val (.int .i64 (m.tmod n)))),[]⟩:=
 km rfl hx hy rfl fun a w h1 h2=>by simp[execOp,h1,h2,eqGuard,binOp,Op.intDiv,hn]
def On:BinOp→Int→Int→Option Bool
 | .eql,m,n=>some (m == n)
 | .neq,m,n=>some (m != n)
 | .lss,m,n=>some (decide (m<n))
 | .leq,m,n=>some (decide (m≤n))
 | .gtr,m,n=>some (decide (m>n))
 | .geq,m,n=>some (decide (m≥n))
 | _,_,_=>none
theorem Lv(op:BinOp)(x y:Operand)(k:IntKind)(m n:Int)(b:Bool)(t u:TypeId)(hx:g.ev x= .d (.val (.int k m)))(hy:g.ev y= .d (.val (.int k n)))(hb:On op m n=some b) :
 gL E.P ⟨some d,.binOp op t x y u,ty,pos,cP,gd⟩ g ⟨bZ x++bZ y,[]⟩ ⟨some (d,.d (.val (.bool b))),[]⟩:=
 km rfl hx hy rfl fun a w h1 h2=>by
  cases op<;>simp only[On] at hb<;>first
   | (cases hb;done)
   | (obtain rfl:=Option.some.inj hb;simp[execOp,h1,h2,eqGuard,binOp,Op.intCmp])
theorem Nt(x y:Operand)(m n:Bool)(t u:TypeId)(ti:TI)(ht:E.ti t=some ti)(fW:ti.ty= .bool)(hx:g.ev x= .d (.val (.bool m)))(hy:g.ev y= .d (.val (.bool n))) :
 gL E.P ⟨some d,.binOp .eql t x y u,ty,pos,cP,gd⟩ g ⟨bZ x++bZ y,[]⟩ ⟨some (d,.d (.val (.bool (m == n)))),[]⟩:=
 km rfl hx hy rfl fun a w h1 h2=>by
  have h:=(E.ok t ti ht).ty
  rw[fW] at h
  simp[execOp,h1,h2,eqGuard,binOp,run_equal_bool E.P w m n h]
theorem Mm(x y:Operand)(m n:Bool)(t u:TypeId)(ti:TI)(ht:E.ti t=some ti)(fW:ti.ty= .bool)(hx:g.ev x= .d (.val (.bool m)))(hy:g.ev y= .d (.val (.bool n))) :
 gL E.P ⟨some d,.binOp .neq t x y u,ty,pos,cP,gd⟩ g ⟨bZ x++bZ y,[]⟩ ⟨some (d,.d (.val (.bool (!(m == n))))),[]⟩:=
 km rfl hx hy rfl fun a w h1 h2=>by
  have h:=(E.ok t ti ht).ty
  rw[fW] at h
  simp[execOp,h1,h2,eqGuard,binOp,run_equal_bool E.P w m n h]
theorem Nh(x:Operand)(m:Bool)(t:TypeId)(hx:g.ev x= .d (.val (.bool m))) :
 gL E.P ⟨some d,.unOp .not t x,ty,pos,cP,gd⟩ g ⟨bZ x,[]⟩ ⟨some (d,.d (.val (.bool (!m)))),[]⟩:=
 BC rfl hx rfl fun a w h1=>by simp[execOp,h1,Op.unary]
theorem Np(x:Operand)(m:Int)(t:TypeId)(hx:g.ev x= .d (.val (.int .i64 m)))(hi:Hg (-m)) :
 gL E.P ⟨some d,.unOp .neg t x,ty,pos,cP,gd⟩ g ⟨bZ x,[]⟩ ⟨some (d,.d (.val (.int .i64 (-m)))),[]⟩:=
 BC rfl hx rfl fun a w h1=>by simp[execOp,h1,Op.unary,Op.intArith,wrap_i64 hi]
theorem KB(x:Operand)(k k':IntKind)(m:Int)(s t:TypeId)(si ti:TI)(hs:E.ti s=some si)(jU:si.ty= .int k)(ht:E.ti t=some ti)(fW:ti.ty= .int k')(hx:g.ev x= .d (.val (.int k m))) :
 gL E.P ⟨some d,.convert s t x,ty,pos,cP,gd⟩ g ⟨bZ x,[]⟩ ⟨some (d,.d (.val (.int k' (k'.wrap m)))),[]⟩:=
 BC rfl hx rfl fun a w h1=>by
  have h:=(E.ok t ti ht).ty
  rw[fW] at h
  have h':=(E.ok s si hs).ty
  rw[jU] at h'
  simp[execOp,h1,convert,run_underlying h,run_underlying h',Conv.intToInt]
end
def row(xs:List (List D))(i:Nat):List D:=xs.getD i []
def ff(cs:List D):List PV:=cs.map .d
def FQ:List PV→PV
 | [p]=>p
 | _=>.any
def Fq:Bool→List PV→PV
 | true,cs=>.agg cs
 | false,cs=>FQ cs
def PV.one:PV→Bool
 | .aV=>true
 | .d _=>true
 | .ptr _ _=>true
 | .acc _=>true
 | .dv _ _ _ _=>true
 | .di _ _ _=>true
 | .fn _ _=>true
 | _=>false
def ct:PV→List PV
 | .agg cs=>cs
 | p=>[p]
def PV.whole:PV→Bool
 | .agg _=>true
 | p=>p.one
def ob:List PV→Bool
 | []=>true
 | p::ps=>p.one&&ob ps
section
variable{w:World}{ok:Nat→Prop}{ν:Nat→Nm}{st:Nat→Option En}
theorem ai.length:∀{ps:List PV}{vs:List Value},ai w ok ν st ps vs→vs.length=ps.length
 | [],[],_=>rfl
 | [],_::_,h=>by simp[ai] at h
 | _::_,[],h=>by simp[ai] at h
 | _::ps,_::vs,h=>by simp only[ai] at h;simp[ai.length h.2]
theorem ai.drop:∀(n:Nat){ps:List PV}{vs:List Value},ai w ok ν st ps vs→ai w ok ν st (ps.drop n) (vs.drop n)
 | 0,_,_,h=>h
 | n+1,[],[],_=>by simp[ai]
 | _+1,[],_::_,h=>by simp[ai] at h
 | _+1,_::_,[],h=>by simp[ai] at h
 | n+1,_::ps,_::vs,h=>by simp only[ai] at h;exact ai.drop n h.2
theorem ai.take:∀(n:Nat){ps:List PV}{vs:List Value},ai w ok ν st ps vs→ai w ok ν st (ps.take n) (vs.take n)
 | 0,_,_,_=>by simp[ai]
 | n+1,[],[],_=>by simp[ai]
 | _+1,[],_::_,h=>by simp[ai] at h
 | _+1,_::_,[],h=>by simp[ai] at h
 | n+1,_::ps,_::vs,h=>by simp only[ai] at h;simp only[List.take_succ_cons,ai];exact⟨h.1,ai.take n h.2⟩
theorem ai.append:∀{ps ps':List PV}{vs vs':List Value},ai w ok ν st ps vs→ai w ok ν st ps' vs'→ai w ok ν st (ps++ps') (vs++vs')
 | [],_,[],_,_,h'=>h'
 | [],_,_::_,_,h,_=>by simp[ai] at h
 | _::_,_,[],_,h,_=>by simp[ai] at h
 | _::ps,_,_::vs,_,h,h'=>by simp only[ai] at h;simp only[List.cons_append,ai];exact⟨h.1,ai.append h.2 h'⟩
theorem aj.one{p:PV}{v:Value}(h:aj w ok ν st p v)(hp:p.one=true)(hν:∀k,(st k).isSome=true→(ν k).v.oneCell'=true):v.oneCell'=true:=by
 cases p<;>first
  | (cases hp;done)
  | (simp only[aj] at h
     first
      | (subst h;rfl)
      | exact h.one
      | (obtain⟨_,b,_,rfl⟩:=h;rfl)
      | (obtain⟨h1,rfl⟩:=h;exact hν _ h1)
      | (obtain⟨_,b,_,_,_,rfl⟩:=h;rfl)
      | (obtain⟨b,_,_,_,_,rfl⟩:=h;rfl)
      | (obtain⟨_,rfl,_⟩:=h;rfl))
theorem r5{v:Value}(h:v.oneCell'=true):v.cells = #[v]:=by
 cases v<;>first|rfl|(cases h;done)
theorem aj.cells{p:PV}{v:Value}(h:aj w ok ν st p v)(hp:p.whole=true)(hν:∀k,(st k).isSome=true→(ν k).v.oneCell'=true) :
 ai w ok ν st (ct p) v.cells.toList:=by
 by_cases ha:∃cs,p= .agg cs
 ·obtain⟨cs,rfl⟩:=ha
  simp only[aj] at h
  obtain⟨vs,rfl,h⟩:=h
  exact h
 ·have h1:p.one=true:=by cases p<;>first|rfl|(cases hp;done)|exact absurd ⟨_,rfl⟩ ha
  have e:ct p=[p]:=by cases p<;>first|rfl|exact absurd ⟨_,rfl⟩ ha
  rw[e,r5 (h.one h1 hν)]
  simp only[ai,and_true]
  exact h
theorem ai.ob:∀{ps:List PV}{vs:List Value},ai w ok ν st ps vs→ob ps=true→(∀k,(st k).isSome=true→(ν k).v.oneCell'=true)→∀v∈vs,v.oneCell'=true
 | [],[],_,_,_=>by simp
 | [],_::_,h,_,_=>by simp[ai] at h
 | _::_,[],h,_,_=>by simp[ai] at h
 | p::ps,v::vs,h,ho,hν=>by
   simp only[ai] at h
   simp only[Eng.ob,Bool.and_eq_true] at ho
   intro u hu
   rcases List.mem_cons.1 hu with rfl|hu
   ·exact h.1.one ho.1 hν
   ·exact ai.ob h.2 ho.2 hν u hu
end
section
variable{P:Program}{t:TypeId}{ti:TI}
theorem TI.Ok.size(h:TI.Ok P t ti)(w:World):(sizeOf t).run P w= .ok ti.n w:=by
 obtain⟨i,z,h1,h2,_⟩:=h.info
 simp[sizeOf,typeInfo,h1,h2]
theorem TI.Ok.cells(h:TI.Ok P t ti):P.cellsOf t=ti.n:=by
 obtain⟨i,z,h1,h2,_⟩:=h.info
 simp[Program.cellsOf,h1,h2]
theorem TI.Ok.agg(h:TI.Ok P t ti)(w:World):(Go.isAgg t).run P w= .ok ti.isAgg w:=by
 have hy:=h.ty
 unfold TI.isAgg
 cases ht:ti.ty with
 | struct fs=>
   rw[ht] at hy
   obtain⟨fields,hf,_,_⟩:=hy
   simp[Go.isAgg,run_underlying hf]
 | arr n e=>
   rw[ht] at hy
   simp only[TY.Ok] at hy
   simp[Go.isAgg,run_underlying hy]
 | other=>
   rw[ht] at hy
   obtain⟨d,hd,hn⟩:=hy
   cases d<;>first|(exact hn.elim)|simp[Go.isAgg,run_underlying hd]
 | _=>rw[ht] at hy;simp only[TY.Ok] at hy;simp[Go.isAgg,run_underlying hy]
theorem add_lit(b off n:Nat):(⟨b,off,none⟩:Addr).add n=⟨b,off+n,none⟩:=by
 unfold Addr.add
 split<;>simp_all
theorem kJ(h:TI.Ok P t ti)(w:World)(b off:Nat)(vs:List Value)(hl:vs.length=ti.n)(hc:fy w b off vs) :
 ∃v,(loadVar t ⟨b,off,none⟩).run P w= .ok v w∧(if ti.isAgg then v= .agg ⟨vs⟩ else vs=[v]):=by
 by_cases ha:ti.isAgg=true
 ·have hcs:∀j v,vs[j]?=some v→w.cell? ((⟨b,off,none⟩:Addr).add j)=some v:=fun j v hv=>by rw[add_lit];exact hc j v hv
  have hr:=run_loadCells_list (P:=P) w ⟨b,off,none⟩ vs hcs
  refine⟨.agg ⟨vs⟩,?_,by simp[ha]⟩
  simp only[loadVar,Sem.run_bind,h.agg w,Result.andThen_ok,ha,if_true,h.size w,←hl,hr]
  rfl
 ·have ha':ti.isAgg=false:=by simpa using ha
  have h1:=h.one ha'
  match vs,hl.trans h1 with
  | [v],_=>
    have:=hc 0 v rfl
    refine⟨v,?_,by simp[ha']⟩
    simp only[eD] at this
    simp only[loadVar,Sem.run_bind,h.agg w,Result.andThen_ok,ha',al,if_false]
    simp[run_load,this]
end
theorem rF{sz:Nat}:∀(us:List (List Value))(i j:Nat)(u:List Value)(v:Value),(∀(i:Nat)(u:List Value),us[i]?=some u→u.length=sz)→us[i]?=some u→u[j]?=some v→us.flatten[i*sz+j]?=some v
 | [],i,j,u,v,_,h,_=>by simp at h
 | x::xs,0,j,u,v,hu,h,hv=>by
   obtain rfl:x=u:=by simpa using h
   have hj:j<x.length:=by
    rcases cI j x.length with h' | h'
    ·exact h'
    ·rw[List.getElem?_eq_none h'] at hv;cases hv
   simp only[bU,Nat.zero_mul,bV]
   rw[List.getElem?_append_left hj]
   exact hv
 | x::xs,i+1,j,u,v,hu,h,hv=>by
   have hx:x.length=sz:=hu 0 x rfl
   have ih:=rF xs i j u v (fun i u h=>hu (i+1) u (by simpa using h)) (by simpa using h) hv
   simp only[bU]
   rw[List.getElem?_append_right (by rw[hx,br];omega),hx]
   have e:(i+1)*sz+j-sz=i*sz+j:=by rw[br];omega
   rw[e]
   exact ih
theorem FE{w:World}{ok:Nat→Prop}{sz:Nat}{xs:List (List D)}{us:List (List Value)}(h:bg w ok sz xs us){i:Nat}(hi:i<xs.length)(ν:Nat→Nm)(st:Nat→Option En) :
 ∃u,us[i]?=some u∧u.length=sz∧(row xs i).length=sz∧ai w ok ν st (ff (row xs i)) u:=by
 have hi':i<us.length:=by rw[h.len];exact hi
 have hx:xs[i]?=some (row xs i):=by simp[row,bK,ab hi]
 have hl:=h.hx i _ hx
 have hul:=h.hu i us[i] (ab hi')
 refine⟨us[i],ab hi',hul,hl,?_⟩
 have hr:=fun j d v=>h.hr i j (row xs i) us[i] d v hx (ab hi')
 revert hr hl hul
 generalize row xs i=x
 generalize us[i]=u
 intro hl hul hr
 have key:∀(x:List D)(u:List Value),x.length=u.length→(∀(j:Nat)(d:D)(v:Value),x[j]?=some d→u[j]?=some v→dC w ok d v)→ai w ok ν st (ff x) u:=by
  intro x
  induction x with
  | nil=>intro u h _;cases u with
    | nil=>simp[ff,ai]
    | cons a b=>simp at h
  | cons d x ih=>intro u h hr;cases u with
    | nil=>simp at h
    | cons v u=>
      simp only[ff,aR,ai,aj]
      exact⟨hr 0 d v rfl rfl,ih u (by simpa using h) fun j d' v' h1 h2=>hr (j+1) d' v' (by simpa using h1) (by simpa using h2)⟩
 exact key x u (by rw[hl,hul]) hr
def Po(a:Option Addr)(c:Nat):Prop:=(a=none∧c=0)∨(a.isSome=true∧c≤maxLen)
theorem dC.OC{w:World}{ok:Nat→Prop}{a:Option Addr}{c:Nat}(h:Po a c):dC w ok (.b7 []) (.slice a 0 c):=by
 rcases h with⟨rfl,rfl⟩|⟨h1,h2⟩
 ·exact .nil
 ·obtain⟨a,rfl⟩:=Option.isSome_iff_exists.1 h1
  exact .emp a c h2
theorem dC.nW{w:World}{ok:Nat→Prop}{xs:List (List D)}{v:Value}(h:dC w ok (.b7 xs) v) :
 (xs=[]∧∃a c,v= .slice a 0 c∧Po a c)∨∃us b off cap sz,v= .slice (some ⟨b,off,none⟩) xs.length cap∧ok b∧b<w.heap.size∧xs.length≤cap∧cap≤maxLen∧xs.length≤LB∧bg w ok sz xs us∧fy w b off us.flatten:=by
 cases h with
 | nil=>exact .inl ⟨rfl,_,_,rfl,.inl ⟨rfl,rfl⟩⟩
 | emp a c h=>exact .inl ⟨rfl,_,_,rfl,.inr ⟨rfl,h⟩⟩
 | b7 xs us b off cap sz kC hb fV hmax hB hl hx hu hc hr=>exact .inr ⟨us,b,off,cap,sz,rfl,kC,hb,fV,hmax,hB,⟨hl,hx,hu,hr⟩,hc⟩
theorem dC.NI{w:World}{ok:Nat→Prop}{xs:List (List D)}{v:Value}(h:dC w ok (.b7 xs) v):xs.length≤LB:=by
 rcases h.nW with⟨rfl,_⟩|⟨us,b,off,cap,sz,_,_,_,_,_,h,_⟩
 ·simp
 ·exact h
theorem fy.sub{w:World}{b off:Nat}{us us':List Value}(h:fy w b off us)(n:Nat)(hs:∀j u,us'[j]?=some u→us[n+j]?=some u):fy w b (off+n) us':=
 fun j u hu=>by rw[eE];exact h (n+j) u (hs j u hu)
section
variable{E:Env}{g:G}{d:Nat}{ty:TypeId}{pos:String}{cP:Array Edge}{gd:Option (Nat×Bool)}{dn:Option Nat}
theorem kN{o:Oper}{x:Operand}{p r:PV}(hd:o.dst=some d)(hx:g.ev x=p)
 (h:∀(X:Cx)(ν:Nat→Nm)(g:G)(a:Act)(w:World),Sat E.P X ν g a w→aj w (bm X ν g.at) ν g.at p (a.eval x) →
  ∃v,(execOp a.eval o).run E.P w= .ok (.value v) w∧aj w (bm X ν g.at) ν g.at r v):gL E.P o g ⟨bZ x,[]⟩ ⟨some (d,r),[]⟩:=by
 intro g2 hg
 have h1:=hg.ev (x:=x) (fun t h=>h)
 refine yP.val hd fun X ν a w hs=>?_
 have hv:=hs.ev x
 rw[h1,hx] at hv
 exact h X ν g2 a w hs hv
theorem w5{o:Oper}{x y:Operand}{p q r:PV}(hd:o.dst=some d)(hx:g.ev x=p)(hy:g.ev y=q)
 (h:∀(X:Cx)(ν:Nat→Nm)(g:G)(a:Act)(w:World),Sat E.P X ν g a w→aj w (bm X ν g.at) ν g.at p (a.eval x)→aj w (bm X ν g.at) ν g.at q (a.eval y) →
  ∃v,(execOp a.eval o).run E.P w= .ok (.value v) w∧aj w (bm X ν g.at) ν g.at r v):gL E.P o g ⟨bZ x++bZ y,[]⟩ ⟨some (d,r),[]⟩:=by
 intro g2 hg
 have h1:=hg.ev (x:=x) (fun t h=>by simp[h])
 have h2:=hg.ev (x:=y) (fun t h=>by simp[h])
 refine yP.val hd fun X ν a w hs=>?_
 have hv:=hs.ev x
 rw[h1,hx] at hv
 have jT:=hs.ev y
 rw[h2,hy] at jT
 exact h X ν g2 a w hs hv jT
theorem o4{s:TypeId}{si:TI}{fs:List (Nat×Nat×Nat)}{f ft fo fz:Nat}(hs:E.ti s=some si)(jU:si.ty= .struct fs)(hf:fs[f]?=some (ft,fo,fz))(w:World)(b off:Nat) :
 (Instr.fieldAt s (.pointer (some ⟨b,off,none⟩)) f).run E.P w= .ok (.pointer (some ⟨b,off+fo,none⟩)) w:=by
 have h:=(E.ok s si hs).ty
 rw[jU] at h
 obtain⟨fields,hu,_,hfs⟩:=h
 obtain⟨fd,h1,h2,h3,h4,h5⟩:=hfs f ft fo fz hf
 have hi:∃i,E.P.info? ft=some i∧i.size=fz:=by
  cases hq:E.P.info? ft with
  | none=>simp[Program.cellsOf,hq] at h4;omega
  | some i=>exact⟨i,rfl,by simpa[Program.cellsOf,hq] using h4⟩
 obtain⟨i,hi,hiz⟩:=hi
 have mq:fz≠0:=by omega
 simp[Instr.fieldAt,run_underlying hu,h1,Instr.sureAddr,fieldPlace,sizeOf,typeInfo,h2,hi,hiz,mq,h3,add_lit]
theorem E1(x:Operand)(s f k off:Nat)(si:TI)(fs:List (Nat×Nat×Nat))(ft fo fz:Nat)(hs:E.ti s=some si)(jU:si.ty= .struct fs)(hf:fs[f]?=some (ft,fo,fz))(hx:g.ev x= .ptr k off) :
 gL E.P ⟨some d,.fieldAddr s x f,ty,pos,cP,gd⟩ g ⟨bZ x,[]⟩ ⟨some (d,.ptr k (off+fo)),[]⟩:=
 kN rfl hx fun X ν g a w _ hv=>by
  simp only[aj] at hv⊢
  obtain⟨h1,b,h2,h3⟩:=hv
  exact⟨_,by simp only[execOp,h3,Sem.run_bind,o4 hs jU hf,Result.andThen_ok];rfl,h1,b,h2,rfl⟩
theorem Cl(x:Operand)(s f:Nat)(xs:List (List D))(i off:Nat)(si:TI)(fs:List (Nat×Nat×Nat))(ft fo fz:Nat)(hs:E.ti s=some si)(jU:si.ty= .struct fs)(hf:fs[f]?=some (ft,fo,fz))(hx:g.ev x= .di xs i off) :
 gL E.P ⟨some d,.fieldAddr s x f,ty,pos,cP,gd⟩ g ⟨bZ x,[]⟩ ⟨some (d,.di xs i (off+fo)),[]⟩:=
 kN rfl hx fun X ν g a w _ hv=>by
  simp only[aj] at hv⊢
  obtain⟨b,o,cap,h1,h2,h3⟩:=hv
  exact⟨_,by simp only[execOp,h3,Sem.run_bind,o4 hs jU hf,Result.andThen_ok];rfl,b,o,cap,h1,h2,by simp[eE]⟩
theorem BU(x:Operand)(s f:Nat)(k i off sz:Nat)(si:TI)(fs:List (Nat×Nat×Nat))(ft fo fz:Nat)(hs:E.ti s=some si)(jU:si.ty= .struct fs)(hf:fs[f]?=some (ft,fo,fz))(hx:g.ev x= .dv k i off sz) :
 gL E.P ⟨some d,.fieldAddr s x f,ty,pos,cP,gd⟩ g ⟨bZ x,[]⟩ ⟨some (d,.dv k i (off+fo) sz),[]⟩:=
 kN rfl hx fun X ν g a w _ hv=>by
  simp only[aj] at hv⊢
  obtain⟨h0,b,n,c,h1,h3⟩:=hv
  exact⟨_,by simp only[execOp,h3,Sem.run_bind,o4 hs jU hf,Result.andThen_ok];rfl,h0,b,n,c,h1,by simp[eE]⟩
theorem EE(x y:Operand)(s:Nat)(si ei:TI)(e:Nat)(xs:List (List D))(n:Int)(hs:E.ti s=some si)(jU:si.ty= .slice e)(he:E.ti e=some ei)(hx:g.ev x= .d (.b7 xs))(hy:g.ev y= .d (.val (.int .i64 n)))
 (h0:0≤n) (kf:n.toNat<xs.length) (hz:(row xs n.toNat).length=ei.n) :
 gL E.P ⟨some d,.indexAddr s x y,ty,pos,cP,gd⟩ g ⟨bZ x++bZ y,[]⟩ ⟨some (d,.di xs n.toNat 0),[]⟩:=
 w5 rfl hx hy fun X ν g a w _ hv jT=>by
  have hu:=(E.ok s si hs).ty
  rw[jU] at hu
  have h2:=fK jT
  simp only[aj] at hv⊢
  have hv':=hv
  rcases hv.nW with⟨rfl,_⟩|⟨us,b,off,cap,sz,hv,kC,hb,fV,hmax,hB,fC,hc⟩
  ·simp at kf
  ·have hlt':n<(xs.length:Int):=by omega
   refine⟨.pointer (some ⟨b,off+(n.toNat*ei.n),none⟩),?_,b,off,cap,by rw[←hv];exact hv',kf,?_⟩
   ·simp[execOp,hv,h2,Instr.indexAt,asIntOf,run_underlying hu,h0,hlt',(E.ok e ei he).size,add_lit]
   ·have:(xs.getD n.toNat []).length=ei.n:=hz
    rw[this];simp
theorem DC(x y:Operand)(s:Nat)(si ei:TI)(e k:Nat)(xs:List (List D))(n:Int)(hs:E.ti s=some si)(jU:si.ty= .slice e)(he:E.ti e=some ei)(hx:g.ev x= .acc k)(hk:g.at k=some (.acc e xs))(hy:g.ev y= .d (.val (.int .i64 n)))
 (h0:0≤n) (kf:n.toNat<xs.length) :
 gL E.P ⟨some d,.indexAddr s x y,ty,pos,cP,gd⟩ g ⟨bZ x++bZ y,[k]⟩ ⟨some (d,.dv k n.toNat 0 ei.n),[]⟩:=by
 intro g2 hg
 have h1:=hg.ev (x:=x) (fun t h=>by simp[h])
 have h2:=hg.ev (x:=y) (fun t h=>by simp[h])
 have h3:=(hg.p k (by simp)).trans hk
 refine yP.val rfl fun X ν a w hs'=>?_
 have hu:=(E.ok s si hs).ty
 rw[jU] at hu
 have hv:=hs'.ev x
 rw[h1,hx] at hv
 have jT:=hs'.ev y
 rw[h2,hy] at jT
 have jT:=fK jT
 simp only[aj] at hv⊢
 obtain⟨us,ho,fC,_⟩:=hs'.en k _ h3
 rcases ho.2 with⟨_,hn⟩|⟨b,cap,cur,hb,_⟩
 ·omega
 ·have hlt':n<(xs.length:Int):=by omega
  refine⟨.pointer (some ⟨b,n.toNat*ei.n,none⟩),?_,by rw[h3];rfl,b,xs.length,cap,hb,rfl⟩
  simp[execOp,hv.2,hb,jT,Instr.indexAt,asIntOf,run_underlying hu,h0,hlt',(E.ok e ei he).size,add_lit]
theorem DH(x y:Operand)(s:Nat)(si ei:TI)(e len k off:Nat)(n:Int)(hs:E.ti s=some si)(jU:si.ty= .arr len e)(he:E.ti e=some ei)(hx:g.ev x= .ptr k off)(hy:g.ev y= .d (.val (.int .i64 n)))
 (h0:0≤n) (kf:n.toNat<len) :
 gL E.P ⟨some d,.indexAddr s x y,ty,pos,cP,gd⟩ g ⟨bZ x++bZ y,[]⟩ ⟨some (d,.ptr k (off+n.toNat*ei.n)),[]⟩:=
 w5 rfl hx hy fun X ν g a w _ hv jT=>by
  have hu:=(E.ok s si hs).ty
  rw[jU] at hu
  have h2:=fK jT
  simp only[aj] at hv⊢
  obtain⟨h1,b,h3,h4⟩:=hv
  have hlt':n<(len:Int):=by omega
  refine⟨.pointer (some ⟨b,off+n.toNat*ei.n,none⟩),?_,h1,b,h3,rfl⟩
  simp[execOp,h4,h2,Instr.indexAt,asIntOf,run_underlying hu,h0,hlt',(E.ok e ei he).size,add_lit,Instr.sureAddr]
theorem ER(x y:Operand)(s:Nat)(si:TI)(l:List UInt8)(n:Int)(hs:E.ti s=some si)(jU:si.ty= .str)(hx:g.ev x= .d (.str l))(hy:g.ev y= .d (.val (.int .i64 n)))
 (h0:0≤n) (kf:n.toNat<l.length) :
 gL E.P ⟨some d,.index s x y,ty,pos,cP,gd⟩ g ⟨bZ x++bZ y,[]⟩ ⟨some (d,.d (.val (.int .u8 ((l.getD n.toNat 0).toNat:Int)))),[]⟩:=
 w5 rfl hx hy fun X ν g a w _ hv jT=>by
  have hu:=(E.ok s si hs).ty
  rw[jU] at hu
  have h2:=fK jT
  have h1:=(n9 hv).1
  refine⟨_,?_,ig rfl⟩
  have hget:(⟨l.toArray⟩:ByteArray)[n.toNat]?=some (l.getD n.toNat 0):=by
   have hs:n.toNat<(⟨l.toArray⟩:ByteArray).size:=by simpa[ByteArray.size] using kf
   have h1:(⟨l.toArray⟩:ByteArray)[n.toNat]?=some ((⟨l.toArray⟩:ByteArray)[n.toNat]'hs):=getElem?_pos (⟨l.toArray⟩:ByteArray) n.toNat hs
   rw[h1]
   have h2:(⟨l.toArray⟩:ByteArray)[n.toNat]'hs=l[n.toNat]:=rfl
   rw[h2]
   simp[bK,kf]
  simp[execOp,h1,h2,Instr.index,asIntOf,run_underlying hu,h0,hget]
end
section
variable{P:Program}{X:Cx}{ν:Nat→Nm}{g:G}{a:Act}{w:World}
theorem nV(g:G)(k:Nat)(e:Option En)(j:Nat)(sl:List PV):(⟨sl,bG g.st k e⟩:G).at j=if j=k then e else g.at j:=dp g.st k e j
def gone(st:List (Option En)):Option Nat→List (Option En)
 | none=>st
 | some k=>bG st k (some .dead)
theorem Sat.move(h:Sat P X ν g a w){w':World}(old:Option Nat)(hold:∀k,old=some k→∃e,g.at k=some e∧e.live=true)
 (lF:nv (fun b=>∃k,old=some k∧(ν k).has b) w w') (k:Nat) (hk:g.at k=none) (e:En) (n0:Nm) (h1:n0.v.oneCell'=true)
 (hb:∀b,n0.has b→(∃k,old=some k∧(ν k).has b)∨w.heap.size≤b) (d:Nat) (p:PV) (v:Value)
 (hen:∀(ok:Nat→Prop)(st:Nat→Option En)(ν':Nat→Nm),ν' k=n0→(∀b,bm X ν g.at b→b<w.heap.size→ok b∧w'.heap[b]?=w.heap[b]?)→gY g.at st ν ν'→gk P w' ok ν' st k e)
 (hv:∀(ok:Nat→Prop)(st:Nat→Option En)(ν':Nat→Nm),ν' k=n0→st k=some e→(∀b,bm X ν g.at b→b<w.heap.size→ok b∧w'.heap[b]?=w.heap[b]?)→gY g.at st ν ν'→aj w' ok ν' st p v) :
 Sat P X (fun j=>if j=k then n0 else ν j) ⟨gy g.sl d p,bG (gone g.st old) k (some e)⟩ (a.put (some d) v) w':=by
 have kC:∀j,old=some j→j≠k:=fun j hj e=>by
  obtain⟨e',h',_⟩:=hold j hj
  rw[e,hk] at h';cases h'
 have fX:∀j,(⟨gy g.sl d p,bG (gone g.st old) k (some e)⟩:G).at j=if j=k then some e else if old=some j then some .dead else g.at j:=by
  intro j
  show bR (bG (gone g.st old) k (some e)) j=_
  rw[dp]
  split
  ·rfl
  ·cases old with
   | none=>simp[gone,G.at]
   | some o=>
     simp only[gone,dp,Option.some.injEq,G.at]
     by_cases hjo:j=o
     ·simp[hjo]
     ·have:¬o=j:=fun e=>hjo e.symm
      simp[hjo,this]
 have hm:gY g.at (⟨gy g.sl d p,bG (gone g.st old) k (some e)⟩:G).at ν (fun j=>if j=k then n0 else ν j):=by
  intro j hj
  have:j≠k:=fun e=>by rw[e,hk] at hj;cases hj
  refine⟨by simp[this],?_⟩
  rw[fX,if_neg this]
  split
  ·rfl
  ·exact hj
 have hB:∀b,(∃k,old=some k∧(ν k).has b)→Own ν g.at b:=by
  rintro b ⟨o,ho,hbo⟩
  obtain⟨e0,h1,h2⟩:=hold o ho
  exact⟨o,e0,h1,h2,hbo⟩
 have hownb:∀j e' b,(⟨gy g.sl d p,bG (gone g.st old) k (some e)⟩:G).at j=some e'→e'.live=true→((fun j=>if j=k then n0 else ν j) j).has b→Own ν g.at b∨w.heap.size≤b:=by
  intro j e' b h1 h2 h3
  rw[fX] at h1
  by_cases hj:j=k
  ·simp only[hj,if_true] at h3
   exact(hb b h3).imp (hB b) id
  ·simp only[hj,if_false] at h1 h3
   by_cases hjo:old=some j
   ·rw[if_pos hjo] at h1
    cases h1;cases h2
   ·rw[if_neg hjo] at h1
    exact .inl ⟨j,e',h1,h2,h3⟩
 have dP:∀b,bm X ν g.at b→b<w.heap.size→bm X (fun j=>if j=k then n0 else ν j) (⟨gy g.sl d p,bG (gone g.st old) k (some e)⟩:G).at b:=by
  intro b hn kf
  refine⟨?_,hn.2⟩
  rintro⟨j,e',h1,h2,h3⟩
  rcases hownb j e' b h1 h2 h3 with h4|h4
  ·exact hn.1 h4
  ·omega
 have hw:∀b,bm X ν g.at b→b<w.heap.size→bm X (fun j=>if j=k then n0 else ν j) (⟨gy g.sl d p,bG (gone g.st old) k (some e)⟩:G).at b∧w'.heap[b]?=w.heap[b]?:=
  fun b hn kf=>⟨dP b hn kf,lF.block b kf (fun h=>hn.1 (hB b h))⟩
 refine h.JL (fun b=>∃k,old=some k∧(ν k).has b) lF hB hm ?_ hownb ?_ ?_ ?_ ?_ rfl
 ·intro j e' hj
  rw[fX] at hj
  by_cases fY:j=k
  ·subst fY
   simp only[if_true,Option.some.injEq] at hj
   subst hj
   exact .inr (hen _ _ _ (by simp) hw hm)
  ·rw[if_neg fY] at hj
   by_cases hjo:old=some j
   ·rw[if_pos hjo] at hj
    cases hj
    exact .inr trivial
   ·rw[if_neg hjo] at hj
    refine .inl ⟨hj,by simp[fY],?_⟩
    rintro b hl hbj ⟨o,ho,hbo⟩
    obtain⟨e0,h1,h2⟩:=hold o ho
    exact hjo (by rw[ho,h.inj j o e' e0 b hj h1 hl h2 hbj hbo])
 ·have key:∀(j:Nat)(e1:En)(b:Nat),j≠k→(⟨gy g.sl d p,bG (gone g.st old) k (some e)⟩:G).at j=some e1→e1.live=true→((fun j=>if j=k then n0 else ν j) j).has b →
   g.at j=some e1∧old≠some j∧(ν j).has b:=by
   intro j e1 b fY h1 h2 h3
   rw[fX,if_neg fY] at h1
   simp only[fY,if_false] at h3
   by_cases hjo:old=some j
   ·rw[if_pos hjo] at h1
    cases h1;cases h2
   ·rw[if_neg hjo] at h1
    exact⟨h1,hjo,h3⟩
  have key2:∀(j:Nat)(e1:En)(b:Nat),j≠k→(⟨gy g.sl d p,bG (gone g.st old) k (some e)⟩:G).at j=some e1→e1.live=true→((fun j=>if j=k then n0 else ν j) j).has b→n0.has b→False:=by
   intro j e1 b fY h1 h2 h3 h4
   obtain⟨k1,k2,k3⟩:=key j e1 b fY h1 h2 h3
   rcases hb b h4 with⟨o,ho,hbo⟩|hge
   ·obtain⟨e0,m1,m2⟩:=hold o ho
    exact k2 (by rw[ho,h.inj j o e1 e0 b k1 m1 h2 m2 k3 hbo])
   ·have:=h.lt ⟨j,e1,k1,h2,k3⟩
    omega
  intro j j' e1 e2 b h1 h2 h3 h4 h5 h6
  by_cases hj:j=k
  ·by_cases hj':j'=k
   ·rw[hj,hj']
   ·exact(key2 j' e2 b hj' h2 h4 h6 (by simpa[hj] using h5)).elim
  ·by_cases hj':j'=k
   ·exact(key2 j e1 b hj h1 h3 h5 (by simpa[hj'] using h6)).elim
   ·obtain⟨k1,_,k3⟩:=key j e1 b hj h1 h3 h5
    obtain⟨m1,_,m3⟩:=key j' e2 b hj' h2 h4 h6
    exact h.inj j j' e1 e2 b k1 m1 h3 h4 k3 m3
 ·intro j hj
  rw[fX] at hj
  by_cases fY:j=k
  ·exact .inr (by simp[fY,h1])
  ·rw[if_neg fY] at hj
   by_cases hjo:old=some j
   ·obtain⟨e0,m1,m2⟩:=hold j hjo
    exact .inl (by rw[m1];rfl)
   ·rw[if_neg hjo] at hj
    exact .inl hj
 ·simp[size_put,eM,h.size]
 ·intro t
  simp only[lY,il,h.size]
  by_cases hc:t=d∧d<g.sl.length
  ·simp only[hc,and_self,if_true]
   exact .inr (hv _ _ _ (by simp) (by rw[fX];simp) hw hm)
  ·simp only[hc,if_false]
   exact .inl ⟨trivial,trivial⟩
theorem Sat.qW(h:Sat P X ν g a w){w':World}(lF:nv (fun _=>False) w w')(k:Nat)(hk:g.at k=none)(e:En)(n0:Nm)(h1:n0.v.oneCell'=true)
 (hb:∀b,n0.has b→w.heap.size≤b) (d:Nat) (p:PV) (v:Value)
 (hen:∀(ok:Nat→Prop)(st:Nat→Option En)(ν':Nat→Nm),ν' k=n0→(∀b,bm X ν g.at b→b<w.heap.size→ok b∧w'.heap[b]?=w.heap[b]?)→gY g.at st ν ν'→gk P w' ok ν' st k e)
 (hv:∀(ok:Nat→Prop)(st:Nat→Option En)(ν':Nat→Nm),ν' k=n0→st k=some e→(∀b,bm X ν g.at b→b<w.heap.size→ok b∧w'.heap[b]?=w.heap[b]?)→gY g.at st ν ν'→aj w' ok ν' st p v) :
 Sat P X (fun j=>if j=k then n0 else ν j) ⟨gy g.sl d p,bG g.st k (some e)⟩ (a.put (some d) v) w':=
 h.move none (fun _ h=>by cases h) (lF.mono fun _ h _=>h.elim) k hk e n0 h1 (fun b hb'=>.inr (hb b hb')) d p v hen hv
theorem gp(w:World)(o:Obj):nv (fun _=>False) w (w.alloc o):=
 ⟨rfl,rfl,rfl,by simp,fun k hk _=>Below.heap_alloc w o k hk⟩
theorem Hx(w:World):nv (fun _=>False) w w.drew:=⟨rfl,rfl,rfl,ar _,fun _ _ _=>rfl⟩
theorem ss(w:World)(o:Obj):(w.alloc o).heap[w.heap.size]?=some o:=by
 show(w.heap.push o)[w.heap.size]?=some o
 simp
theorem Sat.xd(h:Sat P X ν g a w){w':World}(k:Nat)(e0 e:En)(hk:g.at k=some e0)(hl0:e0.live=true)(lF:nv (fun b=>(ν k).has b) w w')(d:Option Nat)(p:PV)(v:Value)
 (hen:(∀b,bm X ν g.at b→b<w.heap.size→bm X ν (⟨nD g.sl (d.map fun d=>(d,p)),bG g.st k (some e)⟩:G).at b∧w'.heap[b]?=w.heap[b]?)→gY g.at (⟨nD g.sl (d.map fun d=>(d,p)),bG g.st k (some e)⟩:G).at ν ν →
  gk P w' (bm X ν (⟨nD g.sl (d.map fun d=>(d,p)),bG g.st k (some e)⟩:G).at) ν (⟨nD g.sl (d.map fun d=>(d,p)),bG g.st k (some e)⟩:G).at k e)
 (hv:d.isSome=true→aj w (bm X ν g.at) ν g.at p v) :
 Sat P X ν ⟨nD g.sl (d.map fun d=>(d,p)),bG g.st k (some e)⟩ (a.put d v) w':=by
 have fX:∀j,(⟨nD g.sl (d.map fun d=>(d,p)),bG g.st k (some e)⟩:G).at j=if j=k then some e else g.at j:=fun j=>nV g k (some e) j _
 have hm:gY g.at (⟨nD g.sl (d.map fun d=>(d,p)),bG g.st k (some e)⟩:G).at ν ν:=by
  intro j hj
  refine⟨rfl,?_⟩
  rw[fX]
  split
  ·rfl
  ·exact hj
 have dP:∀b,bm X ν g.at b→bm X ν (⟨nD g.sl (d.map fun d=>(d,p)),bG g.st k (some e)⟩:G).at b:=by
  intro b hn
  refine⟨?_,hn.2⟩
  rintro⟨j,e',h1,h2,h3⟩
  rw[fX] at h1
  by_cases hj:j=k
  ·subst hj
   exact hn.1 ⟨j,e0,hk,hl0,h3⟩
  ·simp only[hj,if_false] at h1
   exact hn.1 ⟨j,e',h1,h2,h3⟩
 have hB:∀b,(ν k).has b→Own ν g.at b:=fun b hb=>⟨k,e0,hk,hl0,hb⟩
 have hw:∀b,bm X ν g.at b→b<w.heap.size→bm X ν (⟨nD g.sl (d.map fun d=>(d,p)),bG g.st k (some e)⟩:G).at b∧w'.heap[b]?=w.heap[b]?:=
  fun b hn kf=>⟨dP b hn,lF.block b kf (fun hb=>hn.1 (hB b hb))⟩
 refine h.JL (fun b=>(ν k).has b) lF hB hm ?_ ?_ ?_ ?_ ?_ ?_ (by cases d<;>rfl)
 ·intro j e' hj
  rw[fX] at hj
  by_cases fY:j=k
  ·subst fY
   simp only[if_true,Option.some.injEq] at hj
   subst hj
   exact .inr (hen hw hm)
  ·rw[if_neg fY] at hj
   exact .inl ⟨hj,rfl,fun b hl hb hb'=>fY (h.inj j k e' e0 b hj hk hl hl0 hb hb')⟩
 ·intro j e' b hj hl hbj
  rw[fX] at hj
  by_cases fY:j=k
  ·subst fY
   exact .inl (hB b hbj)
  ·simp only[fY,if_false] at hj
   exact .inl ⟨j,e',hj,hl,hbj⟩
 ·have key:∀(j:Nat)(e1:En),(⟨nD g.sl (d.map fun d=>(d,p)),bG g.st k (some e)⟩:G).at j=some e1→e1.live=true→∃e2,g.at j=some e2∧e2.live=true:=by
   intro j e1 h1 h2
   rw[fX] at h1
   by_cases hj:j=k
   ·subst hj
    exact⟨e0,hk,hl0⟩
   ·rw[if_neg hj] at h1
    exact⟨e1,h1,h2⟩
  intro j j' e1 e2 b h1 h2 h3 h4 h5 h6
  obtain⟨e3,k1,k2⟩:=key j e1 h1 h3
  obtain⟨e4,m1,m2⟩:=key j' e2 h2 h4
  exact h.inj j j' e3 e4 b k1 m1 k2 m2 h5 h6
 ·intro j hj
  rw[fX] at hj
  by_cases fY:j=k
  ·subst fY
   exact .inl (by rw[hk];rfl)
  ·rw[if_neg fY] at hj
   exact .inl hj
 ·cases d with
  | none=>exact h.size
  | some d=>simp[nD,size_put,eM,h.size]
 ·intro t
  cases d with
  | none=>exact .inl ⟨rfl,rfl⟩
  | some d=>
    simp only[Option.map_some,nD,lY,il,h.size]
    by_cases hc:t=d∧d<g.sl.length
    ·simp only[hc,and_self,if_true]
     exact .inr (aj.frame hw lF.size hm _ _ (hv rfl))
    ·simp only[hc,if_false]
     exact .inl ⟨trivial,trivial⟩
end
section
variable{E:Env}{g:G}{d:Nat}{ty:TypeId}{pos:String}{cP:Array Edge}{gd:Option (Nat×Bool)}{dn:Option Nat}
theorem pH{w:World}{ok:Nat→Prop}{ν:Nat→Nm}{st:Nat→Option En}{b:Bool}{cs:List PV}{vs:List Value}{v:Value}(h:ai w ok ν st cs vs)(hv:if b then v= .agg ⟨vs⟩ else vs=[v]) :
 aj w ok ν st (Fq b cs) v:=by
 cases b with
 | true=>simp only[if_true] at hv;simp only[Fq,aj];exact⟨vs,hv,h⟩
 | false=>
   simp only[al,if_false] at hv
   subst hv
   match cs,h with
   | [p],h=>simp only[ai,and_true] at h;exact h
   | [],h=>simp[ai] at h
   | _::_::_,h=>simp[ai] at h
theorem nT{w:World}{b:Nat}{vs:List Value}{T:TypeId}{fr:Nat×Nat}(h:w.heap[b]?=some (.cells ⟨vs⟩ T fr)):fy w b 0 vs:=by
 intro j u hu
 simp[World.cell?,h,hu]
theorem Cc(x:Operand)(t k off:Nat)(ti:TI)(cs:List PV)(ht:E.ti t=some ti)(hx:g.ev x= .ptr k off)(hk:g.at k=some (.box cs))(hl:off+ti.n≤cs.length) :
 gL E.P ⟨some d,.load t x,ty,pos,cP,gd⟩ g ⟨bZ x,[k]⟩ ⟨some (d,Fq ti.isAgg ((cs.drop off).take ti.n)),[]⟩:=by
 intro g2 hg
 have h1:=hg.ev (x:=x) (fun t h=>h)
 have h3:=(hg.p k (by simp)).trans hk
 refine yP.val rfl fun X ν a w hs=>?_
 have hv:=hs.ev x
 rw[h1,hx] at hv
 simp only[aj] at hv
 obtain⟨_,b,hb,hv⟩:=hv
 obtain⟨b',vs,T,hb',hheap,iO,hf0⟩:=hs.en k _ h3
 obtain rfl:b'=b:=by rw[hb'] at hb;simpa using hb
 have hvl:=iO.length
 have hrep':=(iO.drop off).take ti.n
 have cZ:((vs.drop off).take ti.n).length=ti.n:=by simp;omega
 have hc:fy w b' off ((vs.drop off).take ti.n):=by
  have h0:=(nT hheap).sub (us':=(vs.drop off).take ti.n) off (fun j u hu=>by
   rw[cJ] at hu
   split at hu
   ·rw[c9] at hu;exact hu
   ·cases hu)
  simpa using h0
 obtain⟨v,hr,hvv⟩:=kJ (E.ok t ti ht) w b' off _ cZ hc
 refine⟨v,?_,pH hrep' hvv⟩
 simp only[execOp,hv,Instr.loadAt,Instr.sureAddr,Sem.run_bind,Sem.run_pure,Result.andThen_ok,hr]
theorem Bc(x:Operand)(t i off:Nat)(ti:TI)(xs:List (List D))(cells:List D)(ht:E.ti t=some ti)(hx:g.ev x= .di xs i off)(kM:row xs i=cells)(hl:off+ti.n≤cells.length) :
 gL E.P ⟨some d,.load t x,ty,pos,cP,gd⟩ g ⟨bZ x,[]⟩ ⟨some (d,Fq ti.isAgg (((ff cells).drop off).take ti.n)),[]⟩:=by
 subst kM
 refine kN rfl hx fun X ν g a w hs hv=>?_
 simp only[aj] at hv
 obtain⟨b,o,cap,hr,hi,hv⟩:=hv
 rcases hr.nW with⟨h,_⟩|⟨us,b',off',cap',sz,heq,kC,hb,fV,hmax,hB,fC,hc⟩
 ·rw[h] at hi
  simp at hi
 ·obtain⟨⟨rfl,rfl⟩,rfl⟩:(b=b'∧o=off')∧cap=cap':=by simpa using heq
  obtain⟨u,hu,hul,hrl,iO⟩:=FE fC hi ν g.at
  have hrep':=(iO.drop off).take ti.n
  have cZ:((u.drop off).take ti.n).length=ti.n:=by simp;omega
  have hrl':(xs.getD i []).length=sz:=hrl
  rw[hrl'] at hv
  have hca:fy w b (o+(i*sz+off)) ((u.drop off).take ti.n):=hc.sub (i*sz+off) (fun j x hx=>by
   rw[cJ] at hx
   split at hx
   ·rw[c9] at hx
    have:=rF us i (off+j) u x fC.hu hu hx
    rw[eE];exact this
   ·cases hx)
  obtain⟨v,ke,hvv⟩:=kJ (E.ok t ti ht) w b _ _ cZ hca
  refine⟨v,?_,pH hrep' hvv⟩
  simp only[execOp,hv,Instr.loadAt,Instr.sureAddr,Sem.run_bind,Sem.run_pure,Result.andThen_ok,ke]
theorem ky{w:World}{e sz n:Nat}{b cap m:Nat}{us:List Value}{v:Value}(h:w.ownsRow 0 e sz v n us)(hv:v= .slice (some ⟨b,0,none⟩) m cap):fy w b 0 us:=by
 intro j u hu
 rcases h.2 with⟨h2,_⟩|⟨g,cap',cur,h2,_,h3,_,_,_,h4⟩
 ·rw[h2] at hv;cases hv
 ·rw[h2] at hv
  obtain⟨rfl,rfl,rfl⟩:g=b∧n=m∧cap'=cap:=by simpa using hv
  rw[←h4,cJ] at hu
  split at hu
  ·simpa[World.cell?,h3] using hu
  ·cases hu
theorem Aw(x:Operand)(t k i off sz e:Nat)(ti ei:TI)(xs:List (List D))(cells:List D)(ht:E.ti t=some ti)(he:E.ti e=some ei)(hsz:sz=ei.n)(hx:g.ev x= .dv k i off sz)(hk:g.at k=some (.acc e xs))
 (hi:i<xs.length) (kM:row xs i=cells) (hl:off+ti.n≤cells.length) :
 gL E.P ⟨some d,.load t x,ty,pos,cP,gd⟩ g ⟨bZ x,[k]⟩ ⟨some (d,Fq ti.isAgg (((ff cells).drop off).take ti.n)),[]⟩:=by
 subst kM
 intro g2 hg
 have h1:=hg.ev (x:=x) (fun t h=>h)
 have h3:=(hg.p k (by simp)).trans hk
 refine yP.val rfl fun X ν a w hs=>?_
 have hv:=hs.ev x
 rw[h1,hx] at hv
 simp only[aj] at hv
 obtain⟨_,b,n,c,hb,hv⟩:=hv
 obtain⟨us,ho,fC,_⟩:=hs.en k _ h3
 have hcell:=ky ho hb
 rw[(E.ok e ei he).cells] at fC
 obtain⟨u,hu,hul,hrl,iO⟩:=FE fC hi ν g2.at
 have hrep':=(iO.drop off).take ti.n
 have cZ:((u.drop off).take ti.n).length=ti.n:=by simp;omega
 have hca:fy w b (i*ei.n+off) ((u.drop off).take ti.n):=by
  have h0:=hcell.sub (us':=(u.drop off).take ti.n) (i*ei.n+off) (fun j x hx=>by
   rw[cJ] at hx
   split at hx
   ·rw[c9] at hx
    have:=rF us i (off+j) u x fC.hu hu hx
    rw[eE];exact this
   ·cases hx)
  simpa using h0
 subst hsz
 obtain⟨v,ke,hvv⟩:=kJ (E.ok t ti ht) w b _ _ cZ hca
 refine⟨v,?_,pH hrep' hvv⟩
 simp only[execOp,hv,Instr.loadAt,Instr.sureAddr,Sem.run_bind,Sem.run_pure,Result.andThen_ok,ke]
theorem Jq(t k:Nat)(ti:TI)(ht:E.ti t=some ti)(hk:g.at k=none) :
 gL E.P ⟨some d,.alloc t,ty,pos,cP,gd⟩ g ⟨[],[k]⟩ ⟨some (d,.ptr k 0),[(k,.box ti.zero)]⟩:=by
 intro g2 hg
 have h3:=(hg.p k (by simp)).trans hk
 intro X ν a w next Q hs hn
 obtain⟨i,z,h1,h2,h4,h5,h6,h7⟩:=(E.ok t ti ht).info
 have hr:(execOp a.eval ⟨some d,.alloc t,ty,pos,cP,gd⟩).run E.P w= .ok (.value (.pointer (some ⟨w.heap.size,0,none⟩))) (w.alloc (.cells z.cells t)):=by
  simp[execOp,Instr.alloc,zeroValue,typeInfo,h1,h5,newVar,newRow]
 unfold Oper.wp
 rw[hr,Oper.upon_value]
 refine hn _ _ _ (hs.qW (gp w _) k h3 (.box ti.zero) ⟨.pointer (some ⟨w.heap.size,0,none⟩),[]⟩ rfl ?_ d _ _ ?_ ?_)
 ·intro b hb
  obtain rfl:w.heap.size=b:=by simpa[Nm.has,oE] using hb
  exact ar _
 ·intro ok st ν' hν hw hm
  exact⟨w.heap.size,z.cells.toList,t,by rw[hν],by rw[ss],by rw[←h6];exact nC _ _ _ _ _,by rw[hν]⟩
 ·intro ok st ν' hν dh hw hm
  simp only[aj]
  exact⟨by rw[dh];rfl,w.heap.size,by rw[hν],rfl⟩
theorem MB(x:Operand)(t k:Nat)(hk:g.at k=none)(hp:(g.ev x).whole=true) :
 gL E.P ⟨some d,.box t x,ty,pos,cP,gd⟩ g ⟨bZ x,[k]⟩ ⟨some (d,.ptr k 0),[(k,.box (ct (g.ev x)))]⟩:=by
 intro g2 hg
 have h1:=hg.ev (x:=x) (fun t h=>h)
 have h3:=(hg.p k (by simp)).trans hk
 intro X ν a w next Q hs hn
 have hv:=hs.ev x
 rw[h1] at hv
 have hr:(execOp a.eval ⟨some d,.box t x,ty,pos,cP,gd⟩).run E.P w= .ok (.value (.pointer (some ⟨w.heap.size,0,none⟩))) (w.alloc (.cells (a.eval x).cells t)):=by
  simp[execOp,Instr.box,newVar,newRow]
 unfold Oper.wp
 rw[hr,Oper.upon_value]
 refine hn _ _ _ (hs.qW (gp w _) k h3 (.box (ct (g.ev x))) ⟨.pointer (some ⟨w.heap.size,0,none⟩),[]⟩ rfl ?_ d _ _ ?_ ?_)
 ·intro b hb
  obtain rfl:w.heap.size=b:=by simpa[Nm.has,oE] using hb
  exact ar _
 ·intro ok st ν' hν hw hm
  refine⟨w.heap.size,(a.eval x).cells.toList,t,by rw[hν],by rw[ss],?_,by rw[hν]⟩
  exact ai.frame hw (gp w _).size hm _ _ (hv.cells hp hs.nu)
 ·intro ok st ν' hν dh hw hm
  simp only[aj]
  exact⟨by rw[dh];rfl,w.heap.size,by rw[hν],rfl⟩
def qZ(cs:List PV)(off:Nat)(vs:List PV):List PV:=cs.take off++(vs++cs.drop (off+vs.length))
theorem nX{t:TypeId}{ti:TI}(ht:TI.Ok E.P t ti)(w:World)(b off:Nat)(T:TypeId)(cur:Array Value)(v:Value)(hg:w.heap[b]?=some (.cells cur T (0,0)))(hv:v.cells.toList.length=ti.n)
 (hfit:off+ti.n≤cur.size) (h1:∀u∈v.cells.toList,u.oneCell'=true) :
 (storeVar t ⟨b,off,none⟩ v).run E.P w= .ok () (w.setRow b (cur.toList.take off++v.cells.toList++cur.toList.drop (off+v.cells.toList.length)).toArray):=by
 have dh:=run_storeCells_at E.P b off T v.cells.toList 0 cur w hg (by omega) h1
 simp only[eD] at dh
 have hsz:v.cells.size=ti.n:=by simpa using hv
 simp only[storeVar,Sem.run_bind,ht.size w,Result.andThen_ok,hsz,ne_eq,not_true_eq_false,if_false,dh]
theorem j7(w:World)(b:Nat)(cs:Array Value)(B:Nat→Prop)(hB:B b):nv B w (w.setRow b cs):=
 ⟨rfl,rfl,rfl,by simp[World.setRow],fun k _ hn=>setRow_other w b k cs (fun e=>hn (e▸hB))⟩
theorem Bh(x y:Operand)(t k off:Nat)(ti:TI)(cs:List PV)(p:PV)(ht:E.ti t=some ti)(hx:g.ev x= .ptr k off)(hk:g.at k=some (.box cs))(hy:g.ev y=p)(hl:off+ti.n≤cs.length)
 (hp:p.whole=true) (hn:(ct p).length=ti.n) (h1:ob (ct p)=true) :
 gL E.P ⟨dn,.store t x y,ty,pos,cP,gd⟩ g ⟨bZ x++bZ y++dn.toList,[k]⟩ ⟨dn.map fun d=>(d,.undef),[(k,.box (qZ cs off (ct p)))]⟩:=by
 intro g2 hg
 have e1:=hg.ev (x:=x) (fun t h=>by simp[h])
 have e2:=hg.ev (x:=y) (fun t h=>by simp[h])
 have h3:=(hg.p k (by simp)).trans hk
 intro X ν a w next Q hs hnx
 have hv:=hs.ev x
 rw[e1,hx] at hv
 have hw:=hs.ev y
 rw[e2,hy] at hw
 simp only[aj] at hv
 obtain⟨_,b,hb,hv⟩:=hv
 obtain⟨b',vs,T,hb',hheap,iO,hf0⟩:=hs.en k _ h3
 obtain rfl:b'=b:=by rw[hb'] at hb;simpa using hb
 have kg:=hw.cells hp hs.nu
 have cZ:=kg.length
 have hvl:=iO.length
 have ke:=nX (E.ok t ti ht) w b' off T ⟨vs⟩ (a.eval y) hheap (by rw[cZ,hn]) (by simpa[hvl] using hl) (kg.ob h1 hs.nu)
 have hr:(execOp a.eval ⟨dn,.store t x y,ty,pos,cP,gd⟩).run E.P w= .ok .skip (w.setRow b' (vs.take off++(a.eval y).cells.toList++vs.drop (off+(a.eval y).cells.toList.length)).toArray):=by
  simp only[execOp,hv,Instr.storeAt,Instr.sureAddr,Sem.run_bind,Sem.run_pure,Result.andThen_ok,ke]
 unfold Oper.wp
 rw[hr,Oper.upon_skip]
 refine hnx _ _ _ (hs.xd k (.box cs) (.box (qZ cs off (ct p))) h3 rfl (j7 w b' _ _ ((hX hf0).2 (by rw[hb'];rfl))) dn .undef Go.undef ?_ ?_)
 ·intro hwf hm
  refine⟨b',_,T,hb',setRow_heap w b' _ _ T _ hheap,?_,hf0⟩
  refine ai.frame hwf (by simp[World.setRow]) hm _ _ ?_
  rw[bf,cZ]
  exact(iO.take off).append (kg.append (iO.drop _))
 ·intro _
  simp only[aj]
end
section
variable{E:Env}{g:G}{d:Nat}{ty:TypeId}{pos:String}{cP:Array Edge}{gd:Option (Nat×Bool)}{dn:Option Nat}
theorem ai.get{w:World}{ok:Nat→Prop}{ν:Nat→Nm}{st:Nat→Option En}:∀{ps:List PV}{vs:List Value}{n:Nat}{p:PV},ai w ok ν st ps vs→ps[n]?=some p→∃v,vs[n]?=some v∧aj w ok ν st p v
 | [],[],n,p,_,hp=>by simp at hp
 | [],_::_,_,_,h,_=>by simp[ai] at h
 | _::_,[],_,_,h,_=>by simp[ai] at h
 | p::ps,v::vs,0,q,h,hq=>by
   simp only[ai] at h
   obtain rfl:p=q:=by simpa using hq
   exact⟨v,rfl,h.1⟩
 | p::ps,v::vs,n+1,q,h,hq=>by
   simp only[ai] at h
   obtain⟨u,h1,h2⟩:=ai.get (n:=n) h.2 (by simpa using hq)
   exact⟨u,by simpa using h1,h2⟩
theorem D8(x:Operand)(i:Nat)(ps:List PV)(p:PV)(hx:g.ev x= .gN ps)(hp:ps[i]?=some p) :
 gL E.P ⟨some d,.extract x i,ty,pos,cP,gd⟩ g ⟨bZ x,[]⟩ ⟨some (d,p),[]⟩:=
 kN rfl hx fun X ν g a w _ hv=>by
  simp only[aj] at hv
  obtain⟨vs,hv,hr⟩:=hv
  obtain⟨v,h1,h2⟩:=hr.get hp
  refine⟨v,?_,h2⟩
  simp[execOp,hv,Instr.extract,h1]
theorem Ie{t:TypeId}{ti:TI}(h:TI.Ok E.P t ti)(w:World)(cs:List Value)(off:Nat)(hl:off+ti.n≤cs.length) :
 ∃v,(part t ⟨cs⟩ off).run E.P w= .ok v w∧(if ti.isAgg then v= .agg ⟨(cs.drop off).take ti.n⟩ else(cs.drop off).take ti.n=[v]):=by
 by_cases ha:ti.isAgg=true
 ·refine⟨_,?_,by rw[if_pos ha]⟩
  simp only[part,Sem.run_bind,h.agg w,Result.andThen_ok,ha,if_true,h.size w]
  simp[List.drop_take]
 ·have ha':ti.isAgg=false:=by simpa using ha
  have h1:=h.one ha'
  have kf:off<cs.length:=by omega
  refine⟨cs[off],?_,?_⟩
  ·simp only[part,Sem.run_bind,h.agg w,Result.andThen_ok,ha',al,if_false]
   simp[kf]
  ·rw[ha',h1]
   simp only[al,if_false]
   rw[List.drop_eq_getElem_cons kf]
   rfl
theorem Hq(x:Operand)(s f:Nat)(si:TI)(fs:List (Nat×Nat×Nat))(ft fo fz:Nat)(fi:TI)(cs:List PV)(hs:E.ti s=some si)(jU:si.ty= .struct fs)(hf:fs[f]?=some (ft,fo,fz))(hfi:E.ti ft=some fi)(hx:g.ev x= .agg cs)
 (hl:fo+fi.n≤cs.length) :
 gL E.P ⟨some d,.field s x f,ty,pos,cP,gd⟩ g ⟨bZ x,[]⟩ ⟨some (d,Fq fi.isAgg ((cs.drop fo).take fi.n)),[]⟩:=
 kN rfl hx fun X ν g a w _ hv=>by
  simp only[aj] at hv
  obtain⟨vs,hv,hr⟩:=hv
  have h:=(E.ok s si hs).ty
  rw[jU] at h
  obtain⟨fields,hu,_,hfs⟩:=h
  obtain⟨fd,h1,h2,h3,h4,h5⟩:=hfs f ft fo fz hf
  obtain⟨v,ke,hvv⟩:=Ie (E.ok ft fi hfi) w vs fo (by rw[hr.length];exact hl)
  refine⟨v,?_,pH ((hr.drop fo).take fi.n) hvv⟩
  simp only[execOp,hv,Instr.field,Sem.run_bind,run_underlying hu,Result.andThen_ok,h1,asAgg,Sem.run_pure,h2,h3,ke]
theorem rU{P:Program}{X:Cx}{ν:Nat→Nm}{g:G}{a:Act}{w:World}(h:Sat P X ν g a w):∀(xs:List Operand),ai w (bm X ν g.at) ν g.at (xs.map g.ev) (xs.map a.eval)
 | []=>by simp[ai]
 | x::xs=>by simp only[aR,ai];exact⟨h.ev x,rU h xs⟩
theorem np{R:Rd}{g g2:G}(h:rN R g g2):∀(xs:List Operand),(∀t∈xs.flatMap bZ,t∈R.s)→xs.map g2.ev=xs.map g.ev
 | [],_=>rfl
 | x::xs,hx=>by
   simp only[aR]
   rw[h.ev (x:=x) (fun t ht=>hx t (by simp[ht])),np h xs (fun t ht=>hx t (by simp only[List.flatMap_cons,aG];exact .inr ht))]
theorem C7(f:Nat)(cs:List Operand) :
 gL E.P ⟨some d,.makeFunc (.func f) #[] ⟨cs⟩,ty,pos,cP,gd⟩ g ⟨cs.flatMap bZ,[]⟩ ⟨some (d,.fn f (cs.map g.ev)),[]⟩:=by
 intro g2 hg
 rw[←np hg cs (fun t h=>h)]
 refine yP.val rfl fun X ν a w hs=>⟨.func (.func f) #[] ⟨cs.map a.eval⟩,by simp[execOp,Instr.makeFunc],?_⟩
 simp only[aj]
 exact⟨_,rfl,rU hs cs⟩
theorem vD(x:Operand)(k off:Nat)(hx:g.ev x= .ptr k off):gL E.P ⟨some d,.nilCheck x,ty,pos,cP,gd⟩ g ⟨bZ x,[]⟩ ⟨some (d,.ptr k off),[]⟩:=
 kN rfl hx fun X ν g a w _ hv=>by
  have hv':=hv
  simp only[aj] at hv
  obtain⟨_,b,_,hv⟩:=hv
  exact⟨a.eval x,by simp[execOp,hv],hv'⟩
theorem s9(x:Operand)(xs:List (List D))(i off:Nat)(hx:g.ev x= .di xs i off):gL E.P ⟨some d,.nilCheck x,ty,pos,cP,gd⟩ g ⟨bZ x,[]⟩ ⟨some (d,.di xs i off),[]⟩:=
 kN rfl hx fun X ν g a w _ hv=>by
  have hv':=hv
  simp only[aj] at hv
  obtain⟨b,o,cap,_,_,hv⟩:=hv
  exact⟨a.eval x,by simp[execOp,hv],hv'⟩
theorem tx(x:Operand)(k i off sz:Nat)(hx:g.ev x= .dv k i off sz):gL E.P ⟨some d,.nilCheck x,ty,pos,cP,gd⟩ g ⟨bZ x,[]⟩ ⟨some (d,.dv k i off sz),[]⟩:=
 kN rfl hx fun X ν g a w _ hv=>by
  have hv':=hv
  simp only[aj] at hv
  obtain⟨_,b,_,_,_,hv⟩:=hv
  exact⟨a.eval x,by simp[execOp,hv],hv'⟩
theorem run_len_slice{s:TypeId}{e:TypeId}(h:E.P.underlying s=some (.slice e))(a:Option Addr)(n c:Nat)(t:TypeId)(w:World):(Builtin.len_ #[s] t #[.slice a n c]).run E.P w= .ok (.int .i64 n) w:=by
 simp[Builtin.len_,run_underlying h,goInt]
theorem oH{o:Oper}{x:Operand}{s:TypeId}(ho:o.op= .call { callee:=.builtin .len,args:=#[x],argTypes:=#[s] })(a:Act)(w:World)(v:Value)(h:(Builtin.len_ #[s] o.type #[a.eval x]).run E.P w= .ok v w) :
 (execOp a.eval o).run E.P w= .ok (.value v) w:=by
 unfold execOp
 simp only[ho,resolve,invoke,builtin,Sem.run_bind,Sem.run_pure,Result.andThen_ok,List.map_toArray,aR,List.map_nil,h]
theorem Ed(x:Operand)(s:Nat)(si:TI)(e:Nat)(xs:List (List D))(hs:E.ti s=some si)(jU:si.ty= .slice e)(hx:g.ev x= .d (.b7 xs)) :
 gL E.P ⟨some d,.call ⟨.builtin .len,#[x],#[s]⟩,ty,pos,cP,gd⟩ g ⟨bZ x,[]⟩ ⟨some (d,.d (.val (.int .i64 (xs.length:Int)))),[]⟩:=
 kN rfl hx fun X ν g a w _ hv=>by
  have hu:=(E.ok s si hs).ty
  rw[jU] at hu
  simp only[aj] at hv
  refine⟨_,oH rfl a w _ ?_,ig rfl⟩
  rcases hv.nW with⟨rfl,_,_,h,_⟩|⟨us,b,off,cap,sz,h,_⟩
  ·rw[h];exact run_len_slice hu _ _ _ _ _
  ·rw[h];exact run_len_slice hu _ _ _ _ _
theorem Eg(x:Operand)(s:Nat)(si:TI)(e:Nat)(hs:E.ti s=some si)(jU:si.ty= .slice e)(hx:g.ev x= .aV) :
 gL E.P ⟨some d,.call ⟨.builtin .len,#[x],#[s]⟩,ty,pos,cP,gd⟩ g ⟨bZ x,[]⟩ ⟨some (d,.d (.val (.int .i64 0))),[]⟩:=
 kN rfl hx fun X ν g a w _ hv=>by
  have hu:=(E.ok s si hs).ty
  rw[jU] at hu
  simp only[aj] at hv
  exact⟨_,oH rfl a w _ (by rw[hv];exact run_len_slice hu _ _ _ _ _),ig rfl⟩
theorem Gz{P:Program}{X:Cx}{ν:Nat→Nm}{g:G}{a:Act}{w:World}(h:Sat P X ν g a w){k e:Nat}{xs:List (List D)}(hk:g.at k=some (.acc e xs)) :
 ∃b c,(ν k).v= .slice b xs.length c:=by
 obtain⟨us,ho,_⟩:=h.en k _ hk
 rcases ho.2 with⟨h1,h2⟩|⟨b,cap,cur,h1,_⟩
 ·exact⟨none,0,by rw[h1,h2]⟩
 ·exact⟨_,cap,h1⟩
theorem D1(x:Operand)(s:Nat)(si:TI)(e' e k:Nat)(xs:List (List D))(hs:E.ti s=some si)(jU:si.ty= .slice e')(hx:g.ev x= .acc k)(hk:g.at k=some (.acc e xs)) :
 gL E.P ⟨some d,.call ⟨.builtin .len,#[x],#[s]⟩,ty,pos,cP,gd⟩ g ⟨bZ x,[k]⟩ ⟨some (d,.d (.val (.int .i64 (xs.length:Int)))),[]⟩:=by
 intro g2 hg
 have h1:=hg.ev (x:=x) (fun t h=>by simp[h])
 have h3:=(hg.p k (by simp)).trans hk
 refine yP.val rfl fun X ν a w hs'=>?_
 have hu:=(E.ok s si hs).ty
 rw[jU] at hu
 have hv:=hs'.ev x
 rw[h1,hx] at hv
 simp only[aj] at hv
 obtain⟨b,c,hb⟩:=Gz hs' h3
 exact⟨_,oH rfl a w _ (by rw[hv.2,hb];exact run_len_slice hu _ _ _ _ _),ig rfl⟩
theorem size_mk(l:List UInt8):(⟨l.toArray⟩:ByteArray).size=l.length:=by
 show l.toArray.size=l.length
 simp
theorem DJ(x:Operand)(s:Nat)(si:TI)(l:List UInt8)(hs:E.ti s=some si)(jU:si.ty= .str)(hx:g.ev x= .d (.str l)) :
 gL E.P ⟨some d,.call ⟨.builtin .len,#[x],#[s]⟩,ty,pos,cP,gd⟩ g ⟨bZ x,[]⟩ ⟨some (d,.d (.val (.int .i64 (l.length:Int)))),[]⟩:=
 kN rfl hx fun X ν g a w _ hv=>by
  have hu:=(E.ok s si hs).ty
  rw[jU] at hu
  have h1:=(n9 hv).1
  exact⟨_,oH rfl a w _ (by rw[h1];simp[Builtin.len_,run_underlying hu,goInt,size_mk]),ig rfl⟩
theorem KE{o:Oper}{x y:Operand}{l m:List UInt8}{r:Value}(hd:o.dst=some d)(hx:g.ev x= .d (.str l))(hy:g.ev y= .d (.str m))(hr:r.oneCell'=true)
 (h:∀(a:Act)(w:World),a.eval x= .string ⟨l.toArray⟩→a.eval y= .string ⟨m.toArray⟩→(execOp a.eval o).run E.P w= .ok (.value r) w):gL E.P o g ⟨bZ x++bZ y,[]⟩ ⟨some (d,.d (.val r)),[]⟩:=
 w5 hd hx hy fun X ν g a w _ hv jT=>⟨r,h a w (n9 hv).1 (n9 jT).1,ig hr⟩
def Om:BinOp→List UInt8→List UInt8→Option Bool
 | .eql,l,m=>some (l == m)
 | .neq,l,m=>some (!(l == m))
 | .lss,l,m=>some (Op.bytesLess l m)
 | .leq,l,m=>some (Op.bytesLess l m||l == m)
 | .gtr,l,m=>some (!(Op.bytesLess l m||l == m))
 | .geq,l,m=>some (!Op.bytesLess l m)
 | _,_,_=>none
theorem toList_mk(l:List UInt8):(⟨l.toArray⟩:ByteArray).toList=l:=by
 rw[ByteArray.toList_eq]
theorem Ln(op:BinOp)(x y:Operand)(l m:List UInt8)(b:Bool)(t u:TypeId)(hx:g.ev x= .d (.str l))(hy:g.ev y= .d (.str m))(hb:Om op l m=some b) :
 gL E.P ⟨some d,.binOp op t x y u,ty,pos,cP,gd⟩ g ⟨bZ x++bZ y,[]⟩ ⟨some (d,.d (.val (.bool b))),[]⟩:=
 KE rfl hx hy rfl fun a w h1 h2=>by
  cases op<;>simp only[Om] at hb<;>first
   | (cases hb;done)
   | (obtain rfl:=Option.some.inj hb;simp[execOp,h1,h2,eqGuard,binOp,Op.stringOp,toList_mk])
theorem MM(x y:Operand)(l m:List UInt8)(t u:TypeId)(hx:g.ev x= .d (.str l))(hy:g.ev y= .d (.str m))(hl:l.length+m.length≤LB) :
 gL E.P ⟨some d,.binOp .add t x y u,ty,pos,cP,gd⟩ g ⟨bZ x++bZ y,[]⟩ ⟨some (d,.d (.str (l++m))),[]⟩:=
 w5 rfl hx hy fun X ν g a w _ hv jT=>by
  have h1:=(n9 hv).1
  have h2:=(n9 jT).1
  refine⟨.string ⟨(l++m).toArray⟩,?_,by simp only[aj];exact .str _ (by simpa using hl)⟩
  have hsz:¬ (((⟨l.toArray⟩:ByteArray).size+(⟨m.toArray⟩:ByteArray).size:Nat):Int)>IntKind.i64.max:=by
   rw[size_mk,size_mk]
   simp only[IntKind.max,IntKind.signed,IntKind.bits]
   unfold LB at hl
   omega
  have happ:(⟨l.toArray⟩:ByteArray)++(⟨m.toArray⟩:ByteArray)=⟨(l++m).toArray⟩:=by
   apply ByteArray.ext
   simp
  have hr:(Op.stringOp .add ⟨l.toArray⟩ ⟨m.toArray⟩).run E.P w= .ok (.string ⟨(l++m).toArray⟩) w:=by
   simp only[Op.stringOp]
   rw[if_neg hsz,happ]
   rfl
  simp only[execOp,h1,h2,eqGuard,binOp,Sem.run_bind]
  simp[hr]
end
theorem Kl{w:World}{ok:Nat→Prop}{ν:Nat→Nm}{st:Nat→Option En}{p:PV}{x:D}{v:Value}(h:aj w ok ν st p v)(hx:Oy p=some x):dC w ok x v:=by
 cases p<;>simp only[Oy] at hx<;>first|(cases hx;done)|skip
 ·obtain rfl:=Option.some.inj hx
  simp only[aj] at h
  subst h
  exact .nil
 ·obtain rfl:=Option.some.inj hx
  simpa only[aj] using h
theorem oJ{w:World}{ok:Nat→Prop}{ν:Nat→Nm}{st:Nat→Option En}:∀{ps:List PV}{xs:List D}{vs:List Value},ai w ok ν st ps vs→qE ps=some xs→ai w ok ν st (ff xs) vs
 | [],xs,[],_,h=>by simp[qE] at h;subst h;simp[ff,ai]
 | [],_,_::_,h,_=>by simp[ai] at h
 | _::_,_,[],h,_=>by simp[ai] at h
 | p::ps,xs,v::vs,h,hx=>by
   simp only[qE] at hx
   simp only[ai] at h
   split at hx
   ·rename_i x xs' h1 h2
    obtain rfl:=Option.some.inj hx
    simp only[ff,aR,ai,aj]
    exact⟨Kl h.1 h1,oJ h.2 h2⟩
   ·cases hx
theorem sH{w:World}{ok:Nat→Prop}{ν:Nat→Nm}{st:Nat→Option En}:∀{xs:List D}{vs:List Value},ai w ok ν st (ff xs) vs →
 vs.length=xs.length∧∀(j:Nat)(d:D)(v:Value),xs[j]?=some d→vs[j]?=some v→dC w ok d v
 | [],[],_=>⟨rfl,by simp⟩
 | [],_::_,h=>by simp[ff,ai] at h
 | _::_,[],h=>by simp[ff,ai] at h
 | x::xs,v::vs,h=>by
   simp only[ff,aR,ai,aj] at h
   obtain⟨h1,h2⟩:=sH (xs:=xs) h.2
   refine⟨by simp[h1],fun j d u hd hu=>?_⟩
   cases j with
   | zero=>
     obtain rfl:x=d:=by simpa using hd
     obtain rfl:v=u:=by simpa using hu
     exact h.1
   | succ j=>exact h2 j d u (by simpa using hd) (by simpa using hu)
theorem bg.nil(w:World)(ok:Nat→Prop)(sz:Nat):bg w ok sz [] []:=⟨rfl,by simp,by simp,by simp⟩
theorem bg.cons{w:World}{ok:Nat→Prop}{sz:Nat}{x:List D}{u:List Value}{xs:List (List D)}{us:List (List Value)}(h:bg w ok sz xs us)(hx:x.length=sz)(hu:u.length=sz)
 (hr:∀(j:Nat)(d:D)(v:Value),x[j]?=some d→u[j]?=some v→dC w ok d v):bg w ok sz (x::xs) (u::us):=by
 refine⟨by simp[h.len],fun i y hy=>?_,fun i y hy=>?_,fun i j y z d v h1 h2 h3 h4=>?_⟩
 ·cases i with
  | zero=>obtain rfl:x=y:=by simpa using hy
          exact hx
  | succ i=>exact h.hx i y (by simpa using hy)
 ·cases i with
  | zero=>obtain rfl:u=y:=by simpa using hy
          exact hu
  | succ i=>exact h.hu i y (by simpa using hy)
 ·cases i with
  | zero=>
    obtain rfl:x=y:=by simpa using h1
    obtain rfl:u=z:=by simpa using h2
    exact hr j d v h3 h4
  | succ i=>exact h.hr i j y z d v (by simpa using h1) (by simpa using h2) h3 h4
theorem bg.append{w:World}{ok:Nat→Prop}{sz:Nat}:∀{xs ys:List (List D)}{us vs:List (List Value)},bg w ok sz xs us→bg w ok sz ys vs→bg w ok sz (xs++ys) (us++vs)
 | [],_,[],_,_,h=>h
 | [],_,_::_,_,h,_=>by have:=h.len;simp at this
 | _::_,_,[],_,h,_=>by have:=h.len;simp at this
 | x::xs,ys,u::us,vs,h,h'=>by
   have h2:bg w ok sz xs us:=⟨by have:=h.len;simpa using this,fun i y hy=>h.hx (i+1) y (by simpa using hy),fun i y hy=>h.hu (i+1) y (by simpa using hy),
    fun i j a b c d h1 h2 h3 h4=>h.hr (i+1) j a b c d (by simpa using h1) (by simpa using h2) h3 h4⟩
   exact(bg.append h2 h').cons (h.hx 0 x rfl) (h.hu 0 u rfl) fun j d v h3 h4=>h.hr 0 j x u d v rfl rfl h3 h4
theorem bg.ij{w:World}{ok:Nat→Prop}{sz:Nat}:∀{xs:List (List D)}{us:List (List Value)},bg w ok sz xs us→us.flatten.length=xs.length*sz
 | [],[],_=>by simp
 | [],_::_,h=>by have:=h.len;simp at this
 | _::_,[],h=>by have:=h.len;simp at this
 | x::xs,u::us,h=>by
   have h2:bg w ok sz xs us:=⟨by have:=h.len;simpa using this,fun i y hy=>h.hx (i+1) y (by simpa using hy),fun i y hy=>h.hu (i+1) y (by simpa using hy),
    fun i j a b c d h1 h2 h3 h4=>h.hr (i+1) j a b c d (by simpa using h1) (by simpa using h2) h3 h4⟩
   rw[bU,ao,bg.ij h2,h.hu 0 u rfl,List.length_cons,br]
   omega
theorem bg.one{w:World}{ok:Nat→Prop}{sz:Nat}{xs:List (List D)}{us:List (List Value)}(h:bg w ok sz xs us):∀v∈us.flatten,v.oneCell'=true:=by
 intro v hv
 obtain⟨u,hu,hv⟩:=List.mem_flatten.1 hv
 obtain⟨i,hi,rfl⟩:=ld hu
 obtain⟨j,hj,rfl⟩:=ld hv
 have hi':i<xs.length:=by rw[←h.len];exact hi
 have hx:xs[i]?=some xs[i]:=ab hi'
 have hu':us[i]?=some us[i]:=ab hi
 have hj':j<(xs[i]).length:=by rw[h.hx i _ hx,←h.hu i _ hu'];exact hj
 exact(h.hr i j _ _ _ _ hx hu' (ab hj') (ab hj)).one
def pG(w:World)(v:Value)(us:List (List Value)):Prop:=
 ((∃a c,v= .slice a 0 c)∧us=[])∨∃b off c,v= .slice (some ⟨b,off,none⟩) us.length c∧fy w b off us.flatten
section
variable{E:Env}
theorem qV{t e:TypeId}{i:TypeInfo}(ht:E.P.underlying t=some (.slice e))(hi:E.P.info? e=some i)(w:World)(ty:TypeId)(b:Option Addr)(n c:Nat)(h:n≤c)(a:Option Addr)(c':Nat) :
 (Builtin.append_ #[t,t] ty #[.slice b n c,.slice a 0 c']).run E.P w= .ok (.slice b n c) w:=by
 cases b with
 | none=>cases a<;>simp[Builtin.append_,run_underlying ht,sizeOf,typeInfo,hi,Builtin.lenOf,Builtin.firstCells,h,loadCells,loadCellsFrom]
 | some b=>cases a<;>simp[Builtin.append_,run_underlying ht,sizeOf,typeInfo,hi,Builtin.lenOf,Builtin.firstCells,h,storeCells,loadCells,loadCellsFrom]
theorem zM{P:Program}(w:World){e:TypeId}{i:TypeInfo}{z:Value}(hzs:z.cells.size=i.size)(n m old:Nat)(xs news:List Value)(hx:xs.length=n*i.size)(hl:news.length=m*i.size)(h63:n+m≤maxLen) :
 (w.drew.alloc (.cells (xs.toArray++news.toArray++Builtin.zeroCells z.cells (grownCap w (n+m) old e-(n+m))) e)).ownsRow 0 e i.size
  (.slice (some ⟨w.heap.size,0,none⟩) (n+m) (grownCap w (n+m) old e)) (n+m) (xs++news):=by
 have hge:=grownCap_ge w (n+m) old e
 have hcm:grownCap w (n+m) old e≤maxLen:=grownCap_le_maxLen w (n+m) old e h63
 have cZ:(xs++news).length=(n+m)*i.size:=by rw[ao,hx,hl,br]
 refine⟨cZ,.inr ⟨w.heap.size,_,_,rfl,cN _,heap_alloc_new w.drew _,hge,hcm,?_,?_⟩⟩
 ·simp only[Array.size_append,fL,size_zeroCells,hzs,hx,hl,←br]
  congr 1
  omega
 ·simp only[Array.toList_append,bf]
  rw[←bf,←cZ]
  exact List.take_left
theorem zO(w:World)(o:Obj)(B:Nat→Prop):nv B w (w.drew.alloc o):=
 ((Hx w).mono fun _ h _=>h.elim).trans ((gp w.drew o).mono (B':=B) fun _ h _=>h.elim) (fun _ h _=>h)
theorem jA{t e:TypeId}{ti ei:TI}(ht:E.ti t=some ti)(fW:ti.ty= .slice e)(he:E.ti e=some ei)(w:World)(ty:TypeId)(v x:Value)(n:Nat)(us:List Value)(ys:List (List D))(vs:List (List Value))(ok:Nat→Prop)
 (dP:w.ownsRow 0 e ei.n v n us) (fC:bg w ok ei.n ys vs) (hx:pG w x vs) (hlb:n+ys.length≤LB) (hby:(n+ys.length)*ei.bytes≤140737488355328) :
 ∃v' w',(Builtin.append_ #[t,t] ty #[v,x]).run E.P w= .ok v' w'∧w'.ownsRow 0 e ei.n v' (n+ys.length) (us++vs.flatten)∧nv (fun b=>oE v=some b) w w' ∧
  (∀b,oE v'=some b→oE v=some b∨w.heap.size≤b):=by
 have hu:=(E.ok t ti ht).ty
 rw[fW] at hu
 obtain⟨i,z,h1,h2,h3,h4,h5,h6⟩:=(E.ok e ei he).info
 have hpos:=(E.ok e ei he).pos
 rcases hx with⟨⟨xa,xc,rfl⟩,hvs⟩|⟨b,off,c,rfl,hc⟩
 ·subst hvs
  have hy:ys=[]:=ba (by have:=fC.len;simpa using this.symm)
  subst hy
  have hv:∃b c,v= .slice b n c∧n≤c:=by
   rcases dP.2 with⟨h7,h8⟩|⟨g,cap,cur,h7,_,_,h8,_⟩
   ·exact⟨none,0,by rw[h7,h8],by omega⟩
   ·exact⟨_,cap,h7,h8⟩
  obtain⟨b,c,hv,hnc⟩:=hv
  refine⟨v,w,?_,by simpa using dP,nv.refl _ w,fun b hb=>.inl hb⟩
  rw[hv]
  exact qV hu h1 w ty b n c hnc xa xc
 ·have hm:n+vs.length≤maxLen:=by rw[fC.len];unfold LB at hlb;simp only[maxLen];omega
  rw[←fC.len] at hby⊢
  have hl:vs.flatten.length=vs.length*i.size:=by rw[fC.ij,fC.len,h2]
  have hnews:∀j u,vs.flatten[j]?=some u→w.cell? ((⟨b,off,none⟩:Addr).add j)=some u:=fun j u hj=>by rw[add_lit];exact hc j u hj
  have hone:=fC.one
  rw[←h3] at hby
  rw[←h2] at dP h6 hpos⊢
  have hsmall:n+vs.length≤9223372036854775807:=by simp only[maxLen] at hm;omega
  generalize vs.length=m at hl hm hby hsmall⊢
  generalize vs.flatten=news at hl hnews hone⊢
  rcases dP.2 with⟨rfl,rfl⟩|⟨gb,cap,cur,rfl,hbg,hg,hnc,hcm,hcs,htake⟩
  ·have hx:us=[]:=ba (by simpa using dP.1)
   subst hx
   by_cases hm0:m=0
   ·subst hm0
    have hn:news=[]:=ba (by simpa using hl)
    subst hn
    refine⟨.slice none 0 0,w,?_,World.ownsRow_nil w 0 e i.size,nv.refl _ w,fun b hb=>.inl hb⟩
    simp[Builtin.append_,run_underlying hu,sizeOf,typeInfo,h1,Builtin.lenOf,Builtin.firstCells,loadCells,loadCellsFrom]
   ·have hr:=run_append_nil (P:=E.P) w t ty e i z hu h1 h4 ⟨b,off,none⟩ m c news hl hnews (by omega) (by omega) (by have hb:=hby;simp only[bV] at hb;omega)
    have hgr:=zM (P:=E.P) w (e:=e) h6 0 m 0 [] news (by simp) hl hm
    simp only[bV,List.nil_append,Array.empty_append] at hgr⊢
    refine⟨_,_,hr,hgr,zO w _ _,fun b hb=>.inr ?_⟩
    obtain rfl:w.heap.size=b:=by simpa[oE] using hb
    exact ar _
  ·have cZ:(us++news).length=(n+m)*i.size:=by rw[ao,dP.1,hl,br]
   by_cases hroom:n+m≤cap
   ·have hfit:n*i.size+news.length≤cur.size:=by rw[hl,hcs,←br];exact Nat.mul_le_mul_right _ hroom
    have hr:=run_append_room (P:=E.P) w t ty e i hu h1 gb n cap cur hg ⟨b,off,none⟩ m c news hl hnews hone hroom hfit
    refine⟨_,_,hr,⟨cZ,.inr ⟨gb,cap,_,rfl,hbg,setRow_heap w gb cur _ e _ hg,hroom,hcm,?_,?_⟩⟩,j7 w gb _ _ rfl,fun b hb=>.inl hb⟩
    ·simp only[fL,ao,List.length_take,List.length_drop,Array.length_toList]
     omega
    ·rw[htake,←cZ]
     exact List.take_left
   ·have holds:∀j u,us[j]?=some u→w.cell? ((⟨gb,0,none⟩:Addr).add j)=some u:=dP.cells (g:=gb) rfl
    have hr:=run_append_grow (P:=E.P) w t ty e i z hu h1 h4 ⟨gb,0,none⟩ n cap us dP.1 holds ⟨b,off,none⟩ m c news hl hnews (by omega) (by omega) (growslice_fits (by omega) hby)
    have hgr:=zM (P:=E.P) w (e:=e) h6 n m cap us news dP.1 hl hm
    refine⟨_,_,hr,hgr,zO w _ _,fun b hb=>.inr ?_⟩
    obtain rfl:w.heap.size=b:=by simpa[oE] using hb
    exact ar _
end
end Go.Eng
