/-
  The symbolic layer, sixteenth text: a state seen with less, its owned places under other numbers, a grown slice seen as data.
-/
import Derived.Test.YtpidddienjoleaaGreatKDB
import Derived.Laws.BytesArg
import Derived.Laws.Slices
set_option linter.unusedVariables false
set_option linter.unusedSimpArgs false
namespace Go.Eng
open Go.RowKit
theorem pr{w:World}{ok ok':Nat→Prop}{e:TypeId}{sz:Nat}{v:Value}{xs:List (List D)}{us:List (List Value)}(ho:w.ownsRow 0 e sz v xs.length us.flatten)(hr:aL w ok sz xs us)(hB:xs.length≤LB)
 (hok:∀b,oq v=some b→ok' b) (hf:∀b,ok b→b<w.heap.size→ok' b∧w.heap[b]?=w.heap[b]?):cM w ok' (.bx xs) v:=by
 rcases ho.2 with⟨h1,h2⟩|⟨b,cap,cur,h1,_,h2,h3,h4,h5,h6⟩
 ·obtain rfl:=List.eq_nil_of_length_eq_zero h2
  rw[h1];exact .nil
 ·subst h1
  have hr':=hr.frame hf (Nat.le_refl _)
  refine .bx xs us b 0 cap sz (hok b rfl) (je h2) h3 h4 hB hr'.len hr'.hx hr'.hu (fun j u hu=>?_) hr'.hr
  have hj:j<us.flatten.length:=by
   rcases Nat.lt_or_ge j us.flatten.length with h' | h'
   ·exact h'
   ·rw[List.getElem?_eq_none h'] at hu;cases hu
  rw[←h6] at hu
  have hu2:cur.toList[j]?=some u:=by
   rw[List.getElem?_take] at hu
   split at hu
   ·exact hu
   ·cases hu
  have hcur:cur[j]?=some u:=by simpa using hu2
  simp[World.cell?,h2,hcur]
mutual
def T.yG:T→Option D
 | .leaf d=>some d
 | .ref _=>none
 | .own _ xs=>match aW xs with|some ys=>some (.bx ys)|none=>none
def b8:List T→Option (List D)
 | []=>some []
 | t::ts=>match t.yG,b8 ts with|some d,some ds=>some (d::ds)|_,_=>none
def aW:List (List T)→Option (List (List D))
 | []=>some []
 | x::xs=>match b8 x,aW xs with|some y,some ys=>some (y::ys)|_,_=>none
end
def HO:Option En→D→Prop
 | some (.acc _ xs),y=>y= .bx xs
 | some (.bM _ xs),y=>∃ys,aW xs=some ys∧y= .bx ys
 | _,_=>False
section
variable{P:Program}{w:World}{ok ok':Nat→Prop}{ν ν':Nat→Nm}{st st':Nat→Option En}
mutual
theorem dU.data(hf:∀b,ok b→b<w.heap.size→ok' b∧w.heap[b]?=w.heap[b]?):∀(t:T)(v:Value)(F:List Nat)(d:D),t.yG=some d→dU P w ok ν st t v F→(∀b∈F,ok' b)→cM w ok' d v
 | .leaf x,v,F,d,hd,h,_=>by
   simp only[T.yG,Option.some.injEq] at hd
   simp only[dU] at h
   rw[←hd]
   exact h.1.frame hf (Nat.le_refl _)
 | .ref j,v,F,d,hd,_,_=>by simp[T.yG] at hd
 | .own e xs,v,F,d,hd,h,hF=>by
   simp only[T.yG] at hd
   split at hd
   ·rename_i ys hys
    obtain rfl:=Option.some.inj hd
    simp only[dU] at h
    obtain⟨us,F1,h1,h2,h3,h4,rfl⟩:=h
    obtain⟨k1,k2,k3⟩:=aA.data hf xs us F1 ys hys h3 (fun b hb=>hF b (List.mem_append.2 (.inr hb)))
    refine pr (ok:=ok') (by rw[←k2];exact h1) ⟨k1,fun i x hx=>?_,h2,fun i j x u dd vv a1 a2 a3 a4=>(k3 i x u a1 a2).2 j dd vv a3 a4⟩ (by rw[←k2];exact h4) (fun b hb=>hF b (List.mem_append.2 (.inl (uB.2 hb)))) (fun b hb _=>⟨hb,rfl⟩)
    have hi:i<us.length:=by
     rw[k1]
     exact(List.getElem?_eq_some_iff.1 hx).1
    rw[(k3 i x us[i] hx (List.getElem?_eq_getElem hi)).1]
    exact h2 i _ (List.getElem?_eq_getElem hi)
   ·cases hd
theorem ar.data(hf:∀b,ok b→b<w.heap.size→ok' b∧w.heap[b]?=w.heap[b]?):∀(ts:List T)(vs:List Value)(F:List Nat)(ds:List D),b8 ts=some ds→ar P w ok ν st ts vs F→(∀b∈F,ok' b)→ds.length=vs.length∧∀(j:Nat)(d:D)(v:Value),ds[j]?=some d→vs[j]?=some v→cM w ok' d v
 | [],[],F,ds,hd,_,_=>by
   simp only[b8,Option.some.injEq] at hd
   rw[←hd]
   simp
 | [],_::_,F,ds,_,h,_=>by simp[ar] at h
 | _::_,[],F,ds,_,h,_=>by simp[ar] at h
 | t::ts,v::vs,F,ds,hd,h,hF=>by
   simp only[b8] at hd
   split at hd
   ·rename_i d' ds' e1 e2
    obtain rfl:=Option.some.inj hd
    simp only[ar] at h
    obtain⟨F1,F2,h1,h2,rfl⟩:=h
    have k1:=dU.data hf t v F1 d' e1 h1 fun b hb=>hF b (List.mem_append.2 (.inl hb))
    obtain⟨k2,k3⟩:=ar.data hf ts vs F2 ds' e2 h2 fun b hb=>hF b (List.mem_append.2 (.inr hb))
    refine⟨by simp[k2],fun j d u a1 a2=>?_⟩
    cases j with
    | zero=>
      obtain rfl:d'=d:=by simpa using a1
      obtain rfl:v=u:=by simpa using a2
      exact k1
    | succ j=>exact k3 j d u (by simpa using a1) (by simpa using a2)
   ·cases hd
theorem aA.data(hf:∀b,ok b→b<w.heap.size→ok' b∧w.heap[b]?=w.heap[b]?):∀(xs:List (List T))(us:List (List Value))(F:List Nat)(ys:List (List D)),aW xs=some ys→aA P w ok ν st xs us F→(∀b∈F,ok' b)→us.length=ys.length∧xs.length=ys.length∧∀(i:Nat)(x:List D)(u:List Value),ys[i]?=some x→us[i]?=some u→x.length=u.length∧∀(j:Nat)(d:D)(v:Value),x[j]?=some d→u[j]?=some v→cM w ok' d v
 | [],[],F,ys,hd,_,_=>by
   simp only[aW,Option.some.injEq] at hd
   rw[←hd]
   simp
 | [],_::_,F,ds,_,h,_=>by simp[aA] at h
 | _::_,[],F,ds,_,h,_=>by simp[aA] at h
 | x::xs,u::us,F,ys,hd,h,hF=>by
   simp only[aW] at hd
   split at hd
   ·rename_i y' ys' e1 e2
    obtain rfl:=Option.some.inj hd
    simp only[aA] at h
    obtain⟨F1,F2,h1,h2,rfl⟩:=h
    have k1:=ar.data hf x u F1 y' e1 h1 fun b hb=>hF b (List.mem_append.2 (.inl hb))
    obtain⟨k2,k3,k4⟩:=aA.data hf xs us F2 ys' e2 h2 fun b hb=>hF b (List.mem_append.2 (.inr hb))
    refine⟨by simp[k2],by simp[k3],fun i z q a1 a2=>?_⟩
    cases i with
    | zero=>
      obtain rfl:y'=z:=by simpa using a1
      obtain rfl:u=q:=by simpa using a2
      exact k1
    | succ i=>exact k4 i z q (by simpa using a1) (by simpa using a2)
   ·cases hd
end
mutual
theorem dU.still:∀(t:T)(v:Value)(F:List Nat),t.yG.isSome=true→dU P w ok ν st t v F→dU P w ok ν' st' t v F
 | .leaf x,v,F,_,h=>by simpa only[dU] using h
 | .ref j,v,F,hd,_=>by simp[T.yG] at hd
 | .own e xs,v,F,hd,h=>by
   simp only[T.yG] at hd
   simp only[dU] at h⊢
   obtain⟨us,F1,h1,h2,h3,h4⟩:=h
   refine⟨us,F1,h1,h2,aA.still xs us F1 ?_ h3,h4⟩
   split at hd
   ·rename_i e;rw[e];rfl
   ·cases hd
theorem ar.still:∀(ts:List T)(vs:List Value)(F:List Nat),(b8 ts).isSome=true→ar P w ok ν st ts vs F→ar P w ok ν' st' ts vs F
 | [],[],F,_,h=>by simpa only[ar] using h
 | [],_::_,F,_,h=>by simp[ar] at h
 | _::_,[],F,_,h=>by simp[ar] at h
 | t::ts,v::vs,F,hd,h=>by
   simp only[b8] at hd
   simp only[ar] at h⊢
   obtain⟨F1,F2,h1,h2,h3⟩:=h
   split at hd
   ·rename_i e1 e2
    exact⟨F1,F2,dU.still t v F1 (by rw[e1];rfl) h1,ar.still ts vs F2 (by rw[e2];rfl) h2,h3⟩
   ·cases hd
theorem aA.still:∀(xs:List (List T))(us:List (List Value))(F:List Nat),(aW xs).isSome=true→aA P w ok ν st xs us F→aA P w ok ν' st' xs us F
 | [],[],F,_,h=>by simpa only[aA] using h
 | [],_::_,F,_,h=>by simp[aA] at h
 | _::_,[],F,_,h=>by simp[aA] at h
 | x::xs,u::us,F,hd,h=>by
   simp only[aW] at hd
   simp only[aA] at h⊢
   obtain⟨F1,F2,h1,h2,h3⟩:=h
   split at hd
   ·rename_i e1 e2
    exact⟨F1,F2,ar.still x u F1 (by rw[e1];rfl) h1,aA.still xs us F2 (by rw[e2];rfl) h2,h3⟩
   ·cases hd
end
def lift(xs:List (List D)):List (List T):=xs.map fun x=>x.map T.leaf
theorem qT:∀(x:List D),b8 (x.map T.leaf)=some x
 | []=>rfl
 | d::x=>by simp[b8,T.yG,qT x]
theorem gg:∀(xs:List (List D)),aW (lift xs)=some xs
 | []=>rfl
 | x::xs=>by
   have:=gg xs
   simp only[lift] at this
   simp[lift,aW,qT,this]
theorem ar.tz:∀{ds:List D}{vs:List Value},vs.length=ds.length→(∀(j:Nat)(d:D)(v:Value),ds[j]?=some d→vs[j]?=some v→cM w ok d v)→ar P w ok ν st (ds.map T.leaf) vs []
 | [],[],_,_=>by simp[ar]
 | d::ds,v::vs,hl,h=>by
   simp only[List.map_cons,ar,dU]
   exact⟨[],[],⟨h 0 d v rfl rfl,rfl⟩,ar.tz (by simpa using hl) fun j d v a1 a2=>h (j+1) d v (by simpa using a1) (by simpa using a2),rfl⟩
 | [],_::_,hl,_=>by simp at hl
 | _::_,[],hl,_=>by simp at hl
theorem aA.tz{sz:Nat}:∀{xs:List (List D)}{us:List (List Value)},aL w ok sz xs us→aA P w ok ν st (lift xs) us []
 | [],[],_=>by simp[lift,aA]
 | x::xs,u::us,h=>by
   simp only[lift,List.map_cons,aA]
   refine⟨[],[],ar.tz ?_ fun j d v a1 a2=>h.hr 0 j x u d v rfl rfl a1 a2,aA.tz (sz:=sz) (xs:=xs) ⟨by simpa using h.len,fun i x hx=>h.hx (i+1) x (by simpa using hx),fun i u hu=>h.hu (i+1) u (by simpa using hu),fun i j x u d v a1 a2 a3 a4=>h.hr (i+1) j x u d v (by simpa using a1) (by simpa using a2) a3 a4⟩,rfl⟩
   rw[h.hu 0 u rfl,h.hx 0 x rfl]
 | [],_::_,h=>by have:=h.len;simp at this
 | _::_,[],h=>by have:=h.len;simp at this
theorem kD(xs:List (List D)):(lift xs).length=xs.length:=by simp[lift]
end
def cI:List (Option Nat)→Nat→Option (Option Nat)
 | [],_=>none
 | a::_,0=>some a
 | _::as,n+1=>cI as n
def w8(k:Nat):List (Option Nat)→Bool
 | []=>false
 | some j::r=>k == j||w8 k r
 | none::r=>w8 k r
def Sh:List (Option Nat)→Bool
 | []=>true
 | some j::r=>!w8 j r&&Sh r
 | none::r=>Sh r
mutual
def wk(g:G)(m:List (Option Nat)):PV→PV→Prop
 | p,.any=>True
 | .aK,.aK=>True
 | .undef,.undef=>True
 | .aK,.d y=>y= .bx []
 | .aK,.acc k'=>cI m k'=some none
 | .d x,.d y=>x=y
 | .acc k,.d y=>HO (g.at k) y∧w8 k m=false
 | .acc k,.acc k'=>cI m k'=some (some k)
 | .ptr k off,.ptr k' off'=>cI m k'=some (some k)∧off=off'
 | .cC k i off sz,.cC k' i' off' sz'=>cI m k'=some (some k)∧i=i'∧off=off'∧sz=sz'
 | .cf xs i off,.cf ys j off'=>xs=ys∧i=j∧off=off'
 | .agg cs,.agg ds=>sg g m cs ds
 | .eZ cs,.eZ ds=>sg g m cs ds
 | .fn f cs,.fn f' ds=>f=f'∧sg g m cs ds
 | _,_=>False
def sg(g:G)(m:List (Option Nat)):List PV→List PV→Prop
 | [],[]=>True
 | p::ps,q::qs=>wk g m p q∧sg g m ps qs
 | _,_=>False
end
def uh(g:G)(m:List (Option Nat)):En→En→Prop
 | _,.dead=>True
 | .box cs,.box ds=>sg g m cs ds
 | .acc e xs,.acc e' ys=>e=e'∧xs=ys
 | .acc e xs,.bM e' ys=>e=e'∧lift xs=ys
 | .bM e xs,.bM e' ys=>e=e'∧xs=ys∧(aW xs).isSome=true
 | .map kvs,.map kvs'=>kvs=kvs'
 | _,_=>False
def fD(g:G)(m:List (Option Nat)):List (Option Nat)→List (Option En)→Prop
 | [],[]=>True
 | some k::ks,some e'::es=>(∃e,g.at k=some e∧uh g m e e')∧fD g m ks es
 | none::ks,some (.acc _ xs)::es=>xs=[]∧fD g m ks es
 | none::ks,some (.bM _ xs)::es=>xs=[]∧fD g m ks es
 | _,_=>False
def keeps:Nat→Nat→List (Option Nat)→Bool
 | 0,_,_=>true
 | n+1,i,some j::r=>i == j&&keeps n (i+1) r
 | _,_,_=>false
def GC(k:Nat):List (Option Nat)→List (Option En)→Bool
 | some j::r,some e::es=>(e.live&&k == j)||GC k r es
 | _::r,_::es=>GC k r es
 | _,_=>false
def vo:List (Option Nat)→List (Option En)→Bool
 | some j::r,some e::es=>(!e.live|| !GC j r es)&&vo r es
 | _::r,_::es=>vo r es
 | _,_=>true
structure Wk(n0:Nat)(m:List (Option Nat))(g g':G):Prop where
 s:sg g m g.sl g'.sl
 p:fD g m m g'.st
 NR:vo m g'.st=true
 keep:keeps n0 0 m=true
theorem Bg:∀{m:List (Option Nat)}{i k:Nat},cI m i=some (some k)→w8 k m=true
 | [],_,_,h=>by simp[cI] at h
 | a::as,0,k,h=>by
   simp only[cI,Option.some.injEq] at h
   subst h
   simp[w8]
 | a::as,n+1,k,h=>by
   simp only[cI] at h
   have:=Bg h
   cases a<;>simp[w8,this]
theorem CX:∀{m:List (Option Nat)}{es:List (Option En)}{i k:Nat}{e:En},cI m i=some (some k)→aV es i=some e→e.live=true→GC k m es=true
 | [],_,_,_,_,h,_,_=>by simp[cI] at h
 | _::_,[],i,_,_,_,h,_=>by cases i<;>simp[aV] at h
 | a::as,o::os,0,k,e,h,h2,h3=>by
   simp only[cI,Option.some.injEq] at h
   simp only[aV] at h2
   subst h h2
   simp[GC,h3]
 | a::as,o::os,i+1,k,e,h,h2,h3=>by
   simp only[cI] at h
   simp only[aV] at h2
   have:=CX h h2 h3
   cases a<;>cases o<;>simp[GC,this]
theorem Bd:∀{m:List (Option Nat)}{es:List (Option En)},vo m es=true→∀{i j k:Nat}{e e':En},cI m i=some (some k)→cI m j=some (some k)→aV es i=some e→aV es j=some e'→e.live=true→e'.live=true→i=j
 | [],_,_,_,_,_,_,_,h,_,_,_,_,_=>by simp[cI] at h
 | _::_,[],_,i,_,_,_,_,_,_,h,_,_,_=>by cases i<;>simp[aV] at h
 | a::as,o::os,hn,0,0,_,_,_,_,_,_,_,_,_=>rfl
 | a::as,o::os,hn,0,j+1,k,e,e',h1,h2,g1,g2,l1,l2=>by
   simp only[cI,Option.some.injEq] at h1 h2
   simp only[aV] at g1 g2
   subst h1 g1
   have:=CX h2 g2 l2
   simp[vo,this,l1] at hn
 | a::as,o::os,hn,i+1,0,k,e,e',h1,h2,g1,g2,l1,l2=>by
   simp only[cI,Option.some.injEq] at h1 h2
   simp only[aV] at g1 g2
   subst h2 g2
   have:=CX h1 g1 l1
   simp[vo,this,l2] at hn
 | a::as,o::os,hn,i+1,j+1,k,e,e',h1,h2,g1,g2,l1,l2=>by
   simp only[cI] at h1 h2
   simp only[aV] at g1 g2
   have hn':vo as os=true:=by
    cases a<;>cases o<;>simp only[vo,Bool.and_eq_true] at hn<;>first|exact hn|exact hn.2
   rw[Bd hn' h1 h2 g1 g2 l1 l2]
theorem zj:∀{n i:Nat}{m:List (Option Nat)},keeps n i m=true→∀j,j<n→cI m j=some (some (i+j))
 | 0,_,_,_,j,h=>by omega
 | n+1,i,[],h,_,_=>by simp[keeps] at h
 | n+1,i,none::r,h,_,_=>by simp[keeps] at h
 | n+1,i,some a::r,h,j,hj=>by
   simp only[keeps,Bool.and_eq_true,beq_iff_eq] at h
   obtain⟨rfl,h2⟩:=h
   cases j with
   | zero=>rfl
   | succ j=>
     simp only[cI]
     rw[zj h2 j (by omega)]
     congr 2;omega
theorem xE{g:G}{m:List (Option Nat)}:∀{ks:List (Option Nat)}{es:List (Option En)},fD g m ks es→∀(i:Nat)(e':En),aV es i=some e' →
 (∃k e,cI ks i=some (some k)∧g.at k=some e∧uh g m e e')∨(cI ks i=some none∧∃t,e'= .acc t []∨e'= .bM t [])
 | [],[],_,i,e',h=>by cases i<;>simp[aV] at h
 | some k::ks,some e::es,hw,0,e',h=>by
   simp only[fD] at hw
   obtain⟨⟨e0,h1,h2⟩,_⟩:=hw
   obtain rfl:e=e':=by simpa[aV] using h
   exact .inl ⟨k,e0,rfl,h1,h2⟩
 | some k::ks,some e::es,hw,i+1,e',h=>by
   simp only[fD] at hw
   simp only[cI]
   exact xE hw.2 i e' (by simpa[aV] using h)
 | none::ks,some (.acc t xs)::es,hw,0,e',h=>by
   simp only[fD] at hw
   obtain rfl:En.acc t xs=e':=by simpa[aV] using h
   exact .inr ⟨rfl,t,.inl (by rw[hw.1])⟩
 | none::ks,some (.acc t xs)::es,hw,i+1,e',h=>by
   simp only[fD] at hw
   simp only[cI]
   exact xE hw.2 i e' (by simpa[aV] using h)
 | none::ks,some (.bM t xs)::es,hw,0,e',h=>by
   simp only[fD] at hw
   obtain rfl:En.bM t xs=e':=by simpa[aV] using h
   exact .inr ⟨rfl,t,.inr (by rw[hw.1])⟩
 | none::ks,some (.bM t xs)::es,hw,i+1,e',h=>by
   simp only[fD] at hw
   simp only[cI]
   exact xE hw.2 i e' (by simpa[aV] using h)
 | none::ks,some (.box _)::es,hw,_,_,_=>by simp[fD] at hw
 | none::ks,some .dead::es,hw,_,_,_=>by simp[fD] at hw
 | none::ks,some (.map _)::es,hw,_,_,_=>by simp[fD] at hw
 | some k::ks,none::es,hw,_,_,_=>by simp[fD] at hw
 | none::ks,none::es,hw,_,_,_=>by simp[fD] at hw
 | some k::ks,[],hw,_,_,_=>by simp[fD] at hw
 | none::ks,[],hw,_,_,_=>by simp[fD] at hw
 | [],_::_,hw,_,_,_=>by simp[fD] at hw
theorem qb{g:G}{m:List (Option Nat)}:∀{ks:List (Option Nat)}{es:List (Option En)},fD g m ks es→∀(i:Nat)(x:Option Nat),cI ks i=some x→(aV es i).isSome=true
 | [],[],_,i,x,h=>by simp[cI] at h
 | some k::ks,some e::es,hw,0,x,h=>rfl
 | some k::ks,some e::es,hw,i+1,x,h=>by
   simp only[fD] at hw
   simp only[aV]
   exact qb hw.2 i x (by simpa[cI] using h)
 | none::ks,some (.acc t xs)::es,hw,0,x,h=>rfl
 | none::ks,some (.acc t xs)::es,hw,i+1,x,h=>by
   simp only[fD] at hw
   simp only[aV]
   exact qb hw.2 i x (by simpa[cI] using h)
 | none::ks,some (.bM t xs)::es,hw,0,x,h=>rfl
 | none::ks,some (.bM t xs)::es,hw,i+1,x,h=>by
   simp only[fD] at hw
   simp only[aV]
   exact qb hw.2 i x (by simpa[cI] using h)
 | none::ks,some (.box _)::es,hw,_,_,_=>by simp[fD] at hw
 | none::ks,some .dead::es,hw,_,_,_=>by simp[fD] at hw
 | none::ks,some (.map _)::es,hw,_,_,_=>by simp[fD] at hw
 | some k::ks,none::es,hw,_,_,_=>by simp[fD] at hw
 | none::ks,none::es,hw,_,_,_=>by simp[fD] at hw
 | some k::ks,[],hw,_,_,_=>by simp[fD] at hw
 | none::ks,[],hw,_,_,_=>by simp[fD] at hw
 | [],_::_,hw,_,_,_=>by simp[fD] at hw
def Ji(ν:Nat→Nm)(m:List (Option Nat))(i:Nat):Nm:=
 match cI m i with
 | some (some k)=>ν k
 | _=>⟨.slice none 0 0,[]⟩
theorem eL{ν:Nat→Nm}{m:List (Option Nat)}{i k:Nat}(h:cI m i=some (some k)):Ji ν m i=ν k:=by simp[Ji,h]
theorem gy{ν:Nat→Nm}{m:List (Option Nat)}{i:Nat}(h:cI m i=some none):Ji ν m i=⟨.slice none 0 0,[]⟩:=by simp[Ji,h]
section
variable{w:World}{ok ok':Nat→Prop}{ν:Nat→Nm}{g:G}{m:List (Option Nat)}{st':Nat→Option En}
mutual
theorem af.wk(hf:∀b,ok b→b<w.heap.size→ok' b∧w.heap[b]?=w.heap[b]?)(hst:∀i x,cI m i=some x→(st' i).isSome=true)
 (hacc:∀k y,HO (g.at k) y→w8 k m=false→cM w ok' y (ν k).v) :
 ∀(p q:PV)(v:Value),wk g m p q→af w ok ν g.at p v→af w ok' (Ji ν m) st' q v
 | p,.any,_,_,_=>by simp[af]
 | .aK,.aK,v,_,h=>by simpa[af] using h
 | .undef,.undef,v,_,h=>by simpa[af] using h
 | .aK,.d y,v,hw,h=>by
   simp only[Eng.wk] at hw
   simp only[af] at h⊢
   rw[hw,h];exact .nil
 | .aK,.acc k',v,hw,h=>by
   simp only[Eng.wk] at hw
   simp only[af] at h⊢
   rw[gy hw]
   exact⟨hst _ _ hw,h⟩
 | .d x,.d y,v,hw,h=>by
   simp only[Eng.wk] at hw
   simp only[af] at h⊢
   rw[←hw]
   exact h.frame hf (Nat.le_refl _)
 | .acc k,.d y,v,hw,h=>by
   simp only[Eng.wk] at hw
   simp only[af] at h⊢
   rw[h.2]
   exact hacc k y hw.1 hw.2
 | .acc k,.acc k',v,hw,h=>by
   simp only[Eng.wk] at hw
   simp only[af] at h⊢
   rw[eL hw]
   exact⟨hst _ _ hw,h.2⟩
 | .ptr k off,.ptr k' off',v,hw,h=>by
   simp only[Eng.wk] at hw
   obtain⟨hw,rfl⟩:=hw
   simp only[af] at h⊢
   rw[eL hw]
   exact⟨hst _ _ hw,h.2⟩
 | .cC k i off sz,.cC k' i' off' sz',v,hw,h=>by
   simp only[Eng.wk] at hw
   obtain⟨hw,rfl,rfl,rfl⟩:=hw
   simp only[af] at h⊢
   rw[eL hw]
   exact⟨hst _ _ hw,h.2⟩
 | .cf xs i off,.cf ys j off',v,hw,h=>by
   simp only[Eng.wk] at hw
   obtain⟨rfl,rfl,rfl⟩:=hw
   simp only[af] at h⊢
   obtain⟨b,o,cap,h1,h2,h3⟩:=h
   exact⟨b,o,cap,h1.frame hf (Nat.le_refl _),h2,h3⟩
 | .agg cs,.agg ds,v,hw,h=>by
   simp only[Eng.wk] at hw
   simp only[af] at h⊢
   obtain⟨vs,rfl,h⟩:=h
   exact⟨vs,rfl,ae.wk hf hst hacc cs ds vs hw h⟩
 | .eZ cs,.eZ ds,v,hw,h=>by
   simp only[Eng.wk] at hw
   simp only[af] at h⊢
   obtain⟨vs,rfl,h⟩:=h
   exact⟨vs,rfl,ae.wk hf hst hacc cs ds vs hw h⟩
 | .fn f cs,.fn f' ds,v,hw,h=>by
   simp only[Eng.wk] at hw
   obtain⟨rfl,hw⟩:=hw
   simp only[af] at h⊢
   obtain⟨vs,rfl,h⟩:=h
   exact⟨vs,rfl,ae.wk hf hst hacc cs ds vs hw h⟩
 | .any,.undef,_,hw,_ | .any,.aK,_,hw,_ | .any,.d _,_,hw,_ | .any,.agg _,_,hw,_ | .any,.eZ _,_,hw,_ | .any,.ptr _ _,_,hw,_ | .any,.acc _,_,hw,_ | .any,.cC _ _ _ _,_,hw,_ | .any,.cf _ _ _,_,hw,_ | .any,.fn _ _,_,hw,_=>by simp[Eng.wk] at hw
 | .undef,.aK,_,hw,_ | .undef,.d _,_,hw,_ | .undef,.agg _,_,hw,_ | .undef,.eZ _,_,hw,_ | .undef,.ptr _ _,_,hw,_ | .undef,.acc _,_,hw,_ | .undef,.cC _ _ _ _,_,hw,_ | .undef,.cf _ _ _,_,hw,_ | .undef,.fn _ _,_,hw,_=>by simp[Eng.wk] at hw
 | .aK,.undef,_,hw,_ | .aK,.agg _,_,hw,_ | .aK,.eZ _,_,hw,_ | .aK,.ptr _ _,_,hw,_ | .aK,.cC _ _ _ _,_,hw,_ | .aK,.cf _ _ _,_,hw,_ | .aK,.fn _ _,_,hw,_=>by simp[Eng.wk] at hw
 | .d _,.undef,_,hw,_ | .d _,.aK,_,hw,_ | .d _,.agg _,_,hw,_ | .d _,.eZ _,_,hw,_ | .d _,.ptr _ _,_,hw,_ | .d _,.acc _,_,hw,_ | .d _,.cC _ _ _ _,_,hw,_ | .d _,.cf _ _ _,_,hw,_ | .d _,.fn _ _,_,hw,_=>by simp[Eng.wk] at hw
 | .agg _,.undef,_,hw,_ | .agg _,.aK,_,hw,_ | .agg _,.d _,_,hw,_ | .agg _,.eZ _,_,hw,_ | .agg _,.ptr _ _,_,hw,_ | .agg _,.acc _,_,hw,_ | .agg _,.cC _ _ _ _,_,hw,_ | .agg _,.cf _ _ _,_,hw,_ | .agg _,.fn _ _,_,hw,_=>by simp[Eng.wk] at hw
 | .eZ _,.undef,_,hw,_ | .eZ _,.aK,_,hw,_ | .eZ _,.agg _,_,hw,_ | .eZ _,.d _,_,hw,_ | .eZ _,.ptr _ _,_,hw,_ | .eZ _,.acc _,_,hw,_ | .eZ _,.cC _ _ _ _,_,hw,_ | .eZ _,.cf _ _ _,_,hw,_ | .eZ _,.fn _ _,_,hw,_=>by simp[Eng.wk] at hw
 | .ptr _ _,.undef,_,hw,_ | .ptr _ _,.aK,_,hw,_ | .ptr _ _,.agg _,_,hw,_ | .ptr _ _,.d _,_,hw,_ | .ptr _ _,.eZ _,_,hw,_ | .ptr _ _,.acc _,_,hw,_ | .ptr _ _,.cC _ _ _ _,_,hw,_ | .ptr _ _,.cf _ _ _,_,hw,_ | .ptr _ _,.fn _ _,_,hw,_=>by simp[Eng.wk] at hw
 | .acc _,.undef,_,hw,_ | .acc _,.aK,_,hw,_ | .acc _,.agg _,_,hw,_ | .acc _,.eZ _,_,hw,_ | .acc _,.ptr _ _,_,hw,_ | .acc _,.cC _ _ _ _,_,hw,_ | .acc _,.cf _ _ _,_,hw,_ | .acc _,.fn _ _,_,hw,_=>by simp[Eng.wk] at hw
 | .cC _ _ _ _,.undef,_,hw,_ | .cC _ _ _ _,.aK,_,hw,_ | .cC _ _ _ _,.agg _,_,hw,_ | .cC _ _ _ _,.d _,_,hw,_ | .cC _ _ _ _,.eZ _,_,hw,_ | .cC _ _ _ _,.ptr _ _,_,hw,_ | .cC _ _ _ _,.acc _,_,hw,_ | .cC _ _ _ _,.cf _ _ _,_,hw,_ | .cC _ _ _ _,.fn _ _,_,hw,_=>by simp[Eng.wk] at hw
 | .cf _ _ _,.undef,_,hw,_ | .cf _ _ _,.aK,_,hw,_ | .cf _ _ _,.agg _,_,hw,_ | .cf _ _ _,.d _,_,hw,_ | .cf _ _ _,.eZ _,_,hw,_ | .cf _ _ _,.ptr _ _,_,hw,_ | .cf _ _ _,.acc _,_,hw,_ | .cf _ _ _,.cC _ _ _ _,_,hw,_ | .cf _ _ _,.fn _ _,_,hw,_=>by simp[Eng.wk] at hw
 | .fn _ _,.undef,_,hw,_ | .fn _ _,.aK,_,hw,_ | .fn _ _,.agg _,_,hw,_ | .fn _ _,.d _,_,hw,_ | .fn _ _,.eZ _,_,hw,_ | .fn _ _,.ptr _ _,_,hw,_ | .fn _ _,.acc _,_,hw,_ | .fn _ _,.cC _ _ _ _,_,hw,_ | .fn _ _,.cf _ _ _,_,hw,_=>by simp[Eng.wk] at hw
theorem ae.wk(hf:∀b,ok b→b<w.heap.size→ok' b∧w.heap[b]?=w.heap[b]?)(hst:∀i x,cI m i=some x→(st' i).isSome=true)
 (hacc:∀k y,HO (g.at k) y→w8 k m=false→cM w ok' y (ν k).v) :
 ∀(ps qs:List PV)(vs:List Value),sg g m ps qs→ae w ok ν g.at ps vs→ae w ok' (Ji ν m) st' qs vs
 | [],[],vs,_,h=>by cases vs<;>simp[ae] at h⊢
 | p::ps,q::qs,[],_,h=>by simp[ae] at h
 | p::ps,q::qs,v::vs,hw,h=>by
   simp only[sg] at hw
   simp only[ae] at h⊢
   exact⟨af.wk hf hst hacc p q v hw.1 h.1,ae.wk hf hst hacc ps qs vs hw.2 h.2⟩
 | [],_::_,_,hw,_=>by simp[sg] at hw
 | _::_,[],_,hw,_=>by simp[sg] at hw
end
end
theorem II:∀{g:G}{m:List (Option Nat)}{ps qs:List PV},sg g m ps qs→ps.length=qs.length
 | _,_,[],[],_=>rfl
 | _,_,p::ps,q::qs,h=>by simp only[sg] at h;simp[II h.2]
 | _,_,[],_::_,h=>by simp[sg] at h
 | _,_,_::_,[],h=>by simp[sg] at h
theorem Jd{w:World}{ok:Nat→Prop}{ν ν':Nat→Nm}{g:G}{m:List (Option Nat)}{st':Nat→Option En}{ok':Nat→Prop}(hv:∀(p q:PV)(v:Value),wk g m p q→af w ok ν g.at p v→af w ok' ν' st' q v) :
 ∀{ps qs:List PV},sg g m ps qs→∀(t:Nat)(v:Value),af w ok ν g.at (nth ps t) v→af w ok' ν' st' (nth qs t) v
 | [],[],_,t,v,_=>by simp[nth,af]
 | p::ps,q::qs,h,0,v,hr=>by simp only[sg] at h;simp only[nth] at hr⊢;exact hv p q v h.1 hr
 | p::ps,q::qs,h,t+1,v,hr=>by simp only[sg] at h;simp only[nth] at hr⊢;exact Jd hv h.2 t v hr
 | [],_::_,h,_,_,_=>by simp[sg] at h
 | _::_,[],h,_,_,_=>by simp[sg] at h
theorem Ch{P:Program}{n0:Nat}{m:List (Option Nat)}{g g':G}(h:Wk n0 m g g'):jS P n0 g g':=by
 intro X ν a w hp hs
 refine⟨Ji ν m,?_⟩
 have hst:∀i x,cI m i=some x→(g'.at i).isSome=true:=fun i x hx=>qb h.p i x hx
 have hat:=fun i e' he=>xE h.p i e' he
 have hlive:∀e e',uh g m e e'→e'.live=true→e.live=true:=by
  intro e e' hw hl
  cases e' with
  | dead=>cases hl
  | box ds=>cases e<;>first|rfl|(simp[uh] at hw)
  | acc t ys=>cases e<;>first|rfl|(simp[uh] at hw)
  | bM t ys=>cases e<;>first|rfl|(simp[uh] at hw)
  | map kvs=>cases e<;>first|rfl|(simp[uh] at hw)
 have howned:∀b,Own (Ji ν m) g'.at b→∃i k e,cI m i=some (some k)∧g.at k=some e∧e.live=true∧(ν k).has b:=by
  rintro b ⟨i,e',h1,h2,h3⟩
  rcases hat i e' h1 with⟨k,e,k1,k2,k3⟩|⟨k1,t,rfl|rfl⟩
  ·rw[eL k1] at h3
   exact⟨i,k,e,k1,k2,hlive e e' k3 h2,h3⟩
  all_goals
   rw[gy k1] at h3
   simp[Nm.has,oq] at h3
 have hsub:∀b,Own (Ji ν m) g'.at b→Own ν g.at b:=fun b hb=>by
  obtain⟨i,k,e,k1,k2,k3,k4⟩:=howned b hb
  exact⟨k,e,k2,k3,k4⟩
 have hf:∀b,aN X ν g.at b→b<w.heap.size→aN X (Ji ν m) g'.at b∧w.heap[b]?=w.heap[b]?:=fun b hb _=>⟨⟨fun ho=>hb.1 (hsub b ho),hb.2⟩,rfl⟩
 have hfr:∀k e,g.at k=some e→e.live=true→w8 k m=false→∀b,(ν k).has b→aN X (Ji ν m) g'.at b:=by
  intro k e hk hl hm b hb
  have hown:Own ν g.at b:=⟨k,_,hk,hl,hb⟩
  refine⟨fun ho=>?_,hs.C5 hown⟩
  obtain⟨i,k',e',k1,k2,k3,k4⟩:=howned b ho
  have:=hs.inj k k' _ _ b hk k2 hl k3 hb k4
  subst this
  rw[Bg k1] at hm
  cases hm
 have hacc:∀k y,HO (g.at k) y→w8 k m=false→cM w (aN X (Ji ν m) g'.at) y (ν k).v:=by
  intro k y hk hm
  cases hgk:g.at k with
  | none=>rw[hgk] at hk;exact hk.elim
  | some e=>
    rw[hgk] at hk
    cases e with
    | box cs=>exact hk.elim
    | dead=>exact hk.elim
    | map kvs=>exact hk.elim
    | acc e xs=>
      simp only[HO] at hk
      rw[hk]
      obtain⟨us,h1,h2,h3,h4⟩:=hs.en k _ hgk
      exact pr h1 h2 h3 (fun b hb=>hfr k _ hgk rfl hm b (.inl hb)) hf
    | bM e xs=>
      simp only[HO] at hk
      obtain⟨ys,h1,rfl⟩:=hk
      have hen:=hs.en k _ hgk
      exact dU.data hf (.own e xs) _ _ _ (by simp only[T.yG,h1]) hen.1 fun b hb=>hfr k _ hgk rfl hm b (im.2 hb)
 have hrep:=fun p q v=>af.wk (w:=w) (ok:=aN X ν g.at) (ok':=aN X (Ji ν m) g'.at) (ν:=ν) (g:=g) (m:=m) (st':=g'.at) hf hst hacc p q v
 have hreps:=fun ps qs vs=>ae.wk (w:=w) (ok:=aN X ν g.at) (ok':=aN X (Ji ν m) g'.at) (ν:=ν) (g:=g) (m:=m) (st':=g'.at) hf hst hacc ps qs vs
 refine⟨by rw[hs.size,II h.s],fun t=>?_,fun i e' he=>?_,fun i j e e' b h1 h2 h3 h4 h5 h6=>?_,fun b hb=>hs.base b (hsub b hb),fun i hi=>?_,fun i hi=>?_,hs.xy,hs.r3,hs.defs⟩
 ·exact Jd hrep h.s t _ (hs.sl t)
 ·rcases hat i e' he with⟨k,e,k1,k2,k3⟩|⟨k1,t,rfl|rfl⟩
  ·have hen:=hs.en k e k2
   cases e' with
   | dead=>trivial
   | box ds=>
     cases e with
     | box cs=>
       obtain⟨b,vs,T,q1,q2,q3,q4⟩:=hen
       simp only[uh] at k3
       simp only[eP,eL k1]
       exact⟨b,vs,T,q1,q2,hreps cs ds vs k3 q3,q4⟩
     | acc t xs=>simp[uh] at k3
     | bM t xs=>simp[uh] at k3
     | dead=>simp[uh] at k3
     | map kvs=>simp[uh] at k3
   | acc t ys=>
     cases e with
     | acc t' xs=>
       simp only[uh] at k3
       obtain⟨rfl,rfl⟩:=k3
       obtain⟨us,q1,q2,q3⟩:=hen
       simp only[eP,eL k1]
       exact⟨us,q1,q2.frame hf (Nat.le_refl _),q3⟩
     | box cs=>simp[uh] at k3
     | dead=>simp[uh] at k3
     | map kvs=>simp[uh] at k3
     | bM t xs=>simp[uh] at k3
   | bM t ys=>
     cases e with
     | acc t' xs=>
       simp only[uh] at k3
       obtain⟨rfl,rfl⟩:=k3
       obtain⟨us,q1,q2,q3,q4⟩:=hen
       simp only[eP,dU,eL k1,q4,kD,List.append_nil]
       refine⟨⟨us,[],q1,q2.hu,aA.tz (q2.frame hf (Nat.le_refl _)),q3,by simp⟩,?_⟩
       unfold hb
       split<;>simp
     | bM t' xs=>
       simp only[uh] at k3
       obtain⟨rfl,rfl,k4⟩:=k3
       simp only[eP,eL k1]
       refine⟨dU.still (.own t' xs) _ _ ?_ (dU.frame hf (Nat.le_refl _) (e9.refl _ _) _ _ _ hen.1 fun _ _=>rfl),hen.2⟩
       simp only[T.yG]
       obtain⟨zs,hz⟩:=Option.isSome_iff_exists.1 k4
       rw[hz];rfl
     | box cs=>simp[uh] at k3
     | dead=>simp[uh] at k3
     | map kvs=>simp[uh] at k3
   | map kvs'=>
     cases e with
     | map kvs=>
       simp only[uh] at k3
       subst k3
       simp only[eP,eL k1] at hen⊢
       exact hen
     | box cs=>simp[uh] at k3
     | acc t xs=>simp[uh] at k3
     | bM t xs=>simp[uh] at k3
     | dead=>simp[uh] at k3
  ·simp only[eP,gy k1]
   exact⟨[],⟨by simp,.inl ⟨rfl,rfl⟩⟩,aL.nil _ _ _,by simp,trivial⟩
  ·simp only[eP,gy k1,dU]
   exact⟨⟨[],[],⟨by simp,.inl ⟨rfl,rfl⟩⟩,by simp,by simp[aA],by simp,rfl⟩,by simp[hb,oq]⟩
 ·rcases hat i e h1 with⟨k,e1,k1,k2,k3⟩|⟨k1,t,rfl|rfl⟩
  ·rcases hat j e' h2 with⟨l,e2,l1,l2,l3⟩|⟨l1,t,rfl|rfl⟩
   ·rw[eL k1] at h5
    rw[eL l1] at h6
    have:=hs.inj k l e1 e2 b k2 l2 (hlive _ _ k3 h3) (hlive _ _ l3 h4) h5 h6
    subst this
    exact Bd h.NR k1 l1 h1 h2 h3 h4
   ·rw[gy l1] at h6;simp[Nm.has,oq] at h6
   ·rw[gy l1] at h6;simp[Nm.has,oq] at h6
  ·rw[gy k1] at h5;simp[Nm.has,oq] at h5
  ·rw[gy k1] at h5;simp[Nm.has,oq] at h5
 ·obtain⟨e',he⟩:=Option.isSome_iff_exists.1 hi
  rcases hat i e' he with⟨k,e,k1,k2,k3⟩|⟨k1,t,rfl|rfl⟩
  ·rw[eL k1];exact hs.nu k (by rw[k2];rfl)
  ·rw[gy k1];rfl
  ·rw[gy k1];rfl
 ·have hlt:=hp i hi
  have hl:=zj h.keep i hlt
  rw[Nat.zero_add] at hl
  exact⟨by rw[eL hl];exact(hs.par i hi).1,hst i _ hl⟩
end Go.Eng
namespace Go.Eng
open Go.RowKit
theorem Sat.MO{P:Program}{X:Cx}{ν:Nat→Nm}{g:G}{a:Act}{w w':World}(h:Sat P X ν g a w)(hchg:kG (fun _=>False) w w')(d:Nat)(p:PV)(v:Value)
 (hv:(∀b,w.heap.size≤b→aN X ν g.at b)→(∀b,aN X ν g.at b→b<w.heap.size→aN X ν g.at b∧w'.heap[b]?=w.heap[b]?)→af w' (aN X ν g.at) ν g.at p v) :
 Sat P X ν ⟨fm g.sl d p,g.st⟩ (a.put (some d) v) w':=by
 have hfree:∀b,w.heap.size≤b→aN X ν g.at b:=fun b hb=>⟨fun ho=>by have:=h.lt ho;omega,fun hz=>by have:=(h.xy b hz).1;have:=h.r3.size;omega⟩
 have hsame:∀b,aN X ν g.at b→b<w.heap.size→aN X ν g.at b∧w'.heap[b]?=w.heap[b]?:=fun b hb hlt=>⟨hb,hchg.block b hlt (fun hf=>hf)⟩
 refine h.NS (g':=⟨fm g.sl d p,g.st⟩) (fun _=>False) hchg (fun _ hb=>hb.elim) (e9.refl _ _) (fun k e he=>.inl ⟨he,rfl,fun _ _ _ hb=>hb⟩) (fun k e b he hl hb=>.inl ⟨k,e,he,hl,hb⟩) ?_ (fun k hk=>.inl hk) ?_ ?_ rfl
 ·intro k k' e e' b h1 h2 h3 h4 h5 h6
  exact h.inj k k' e e' b h1 h2 h3 h4 h5 h6
 ·simp[size_put,dt,h.size]
 ·intro t
  simp only[lh,gw,h.size]
  by_cases hc:t=d∧d<g.sl.length
  ·simp only[hc,and_self,if_true]
   exact .inr (hv hfree hsame)
  ·simp only[hc,if_false]
   exact .inl ⟨trivial,trivial⟩
theorem BH(off:Nat):∀(l:List Value)(n:Nat)(cells:Array Value)(k:Nat),off+n+l.length≤cells.size →
 ((l.zipIdx n).foldl (fun cs (x:Value×Nat)=>cs.setIfInBounds (off+x.2) x.1) cells)[k]?=if off+n≤k∧k<off+n+l.length then l[k-(off+n)]? else cells[k]?
 | [],n,cells,k,_=>by
   have:¬ (off+n≤k∧k<off+n+0):=by omega
   simp
   intro h1 h2;omega
 | c::l,n,cells,k,hl=>by
   simp only[List.zipIdx_cons,List.foldl_cons]
   simp only[List.length_cons] at hl
   rw[BH off l (n+1) _ k (by simp;omega)]
   by_cases h1:off+(n+1)≤k∧k<off+(n+1)+l.length
   ·rw[if_pos h1,if_pos (by simp only[List.length_cons];omega)]
    have:k-(off+n)=(k-(off+(n+1)))+1:=by omega
    rw[this];simp
   ·rw[if_neg h1]
    by_cases h2:k=off+n
    ·subst h2
     have hlt:off+n<cells.size:=by omega
     rw[if_pos (by simp only[List.length_cons];omega)]
     simp[hlt]
    ·rw[if_neg (by simp only[List.length_cons];omega)]
     simp[Array.getElem?_setIfInBounds,show ¬off+n=k from fun e=>h2 e.symm]
theorem D5(off:Nat)(l:List Value)(cells:Array Value)(hl:off+l.length≤cells.size) :
 (l.zipIdx.foldl (fun cs (x:Value×Nat)=>cs.setIfInBounds (off+x.2) x.1) cells).toList=cells.toList.take off++(l++cells.toList.drop (off+l.length)):=by
 apply List.ext_getElem?
 intro k
 have h:=BH off l 0 cells k (by omega)
 simp only[Nat.add_zero] at h
 rw[Array.getElem?_toList,h]
 by_cases h1:k<off
 ·rw[if_neg (by omega),List.getElem?_append_left (by simp;omega),List.getElem?_take,if_pos h1]
  simp
 ·rw[List.getElem?_append_right (by simp;omega)]
  have e:(List.take off cells.toList).length=off:=by simp;omega
  rw[e]
  by_cases h2:k<off+l.length
  ·rw[if_pos (by omega),List.getElem?_append_left (by omega)]
  ·rw[if_neg (by omega),List.getElem?_append_right (by omega),List.getElem?_drop]
   have:off+l.length+(k-off-l.length)=k:=by omega
   rw[this];simp
def yl(places:List (Nat×Nat))(cs:List PV):List (Nat×PV)→Option (List PV)
 | []=>some cs
 | (i,p)::rest=>
   match places[i]? with
   | none=>none
   | some (off,sz)=>if p.whole=true∧(bw p).length=sz∧off+sz≤cs.length then yl places (rX cs off (bw p)) rest else none
theorem E8{w:World}{ok:Nat→Prop}{ν:Nat→Nm}{st:Nat→Option En}(hν:∀k,(st k).isSome=true→(ν k).v.oneCell'=true)(places:List (Nat×Nat))(ev:Operand→PV)(ρ:Operand→Value)(hev:∀x,af w ok ν st (ev x) (ρ x)) :
 ∀(ps:List (Nat×Operand))(cs:List PV)(cells:Array Value)(r:List PV),ae w ok ν st cs cells.toList→yl places cs (ps.map fun x=>(x.1,ev x.2))=some r →
 ∃cells',Instr.fill (places.toArray[·]?) cells (ps.map fun x=>(x.1,ρ x.2))=some cells'∧ae w ok ν st r cells'.toList
 | [],cs,cells,r,h,hr=>by
   simp only[List.map_nil,yl,Option.some.injEq] at hr
   subst hr
   exact⟨cells,rfl,h⟩
 | (i,x)::ps,cs,cells,r,h,hr=>by
   simp only[List.map_cons,yl] at hr
   split at hr
   ·cases hr
   ·rename_i off sz hpl
    split at hr
    ·rename_i hc
     obtain⟨h1,h2,h3⟩:=hc
     have hx:=(hev x).cells h1 hν
     have hxl:=hx.length
     have hcl:=h.length
     have hxs:(ρ x).cells.size=sz:=by rw[←h2,←hxl];simp
     have hcs:cells.size=cs.length:=by rw[←hcl];simp
     have hone:=D5 off (ρ x).cells.toList cells (by rw[hxl,hcs,h2];exact h3)
     have hrep:ae w ok ν st (rX cs off (bw (ev x))) ((ρ x).cells.toList.zipIdx.foldl (fun cs (x:Value×Nat)=>cs.setIfInBounds (off+x.2) x.1) cells).toList:=by
      rw[hone,hxl]
      exact(h.take off).append (hx.append (h.drop _))
     obtain⟨cells',k1,k2⟩:=E8 hν places ev ρ hev ps _ _ r hrep hr
     refine⟨cells',?_,k2⟩
     simp only[List.map_cons,Instr.fill]
     have hpl':(places.toArray[i]?:Option (Nat×Nat))=some (off,sz):=by simpa using hpl
     rw[hpl']
     simp only
     rw[if_neg (by simp only[hxs,hcs,ne_eq,not_true_eq_false,decide_false,Bool.false_or,decide_eq_true_eq];omega)]
     rw[←k1]
     congr 1
     rw[←Array.foldl_toList,Array.toList_zipIdx]
    ·cases hr
section
variable{E:Env}{g:G}{d:Nat}{ty:TypeId}{pos:String}{aft:Array Edge}{gd:Option (Nat×Bool)}{dn:Option Nat}
theorem KK(t:TypeId)(ps:List (Nat×Operand))(ti:TI)(fs:List (Nat×Nat×Nat))(r:List PV)(ht:E.ti t=some ti)(hty:ti.ty= .struct fs)
 (hr:yl (fs.map fun x=>(x.2.1,x.2.2)) ti.zero (ps.map fun x=>(x.1,g.ev x.2))=some r) :
 dX E.P ⟨some d,.build t ⟨ps⟩,ty,pos,aft,gd⟩ g ⟨ps.flatMap fun x=>ba x.2,[]⟩ ⟨some (d,.agg r),[]⟩:=by
 intro g2 hg
 have hmap:ps.map (fun x=>(x.1,g2.ev x.2))=ps.map (fun x=>(x.1,g.ev x.2)):=by
  have:∀(ps:List (Nat×Operand)),(∀t∈ps.flatMap (fun x=>ba x.2),t∈ps.flatMap (fun x=>ba x.2))→True:=fun _ _=>trivial
  apply List.map_congr_left
  intro x hx
  rw[hg.ev (x:=x.2) (fun t h=>List.mem_flatMap.2 ⟨x,hx,h⟩)]
 refine wO.val rfl fun X ν a w hs=>?_
 obtain⟨i,z,h1,h2,h4,h5,h6,h7⟩:=(E.ok t ti ht).info
 have hu:=(E.ok t ti ht).ty
 rw[hty] at hu
 obtain⟨fields,hu,hpl,_⟩:=hu
 rw[←hmap] at hr
 obtain⟨cells',k1,k2⟩:=E8 hs.nu (fs.map fun x=>(x.2.1,x.2.2)) g2.ev a.eval hs.ev ps ti.zero z.cells r (by rw[←h6];exact mW _ _ _ _ _) hr
 refine⟨.agg cells',?_,by simp only[af];exact⟨cells'.toList,rfl,k2⟩⟩
 have hb:E.P.built t (ps.map fun x=>(x.1,a.eval x.2))=some cells':=by
  simp only[Program.built,h1,hu,h5,hpl,k1]
 have:=run_build (P:=E.P) w t ⟨ps.map fun x=>(x.1,a.eval x.2)⟩ cells' hb
 simp only[execOp,List.map_toArray,Sem.run_bind,this,Result.andThen_ok]
 rfl
def rowsOf:List PV→Option (List (List D))
 | []=>some []
 | p::ps=>if p.whole=true then match rS (bw p),rowsOf ps with|some x,some xs=>some (x::xs)|_,_=>none else none
def Aj:Nat→List Nat→Bool
 | _,[]=>true
 | i,j::js=>i == j&&Aj (i+1) js
def mD(n:Nat):List (List D)→Bool
 | []=>true
 | x::xs=>x.length == n&&mD n xs
theorem vq{w:World}{ok:Nat→Prop}{ν:Nat→Nm}{st:Nat→Option En}(hν:∀k,(st k).isSome=true→(ν k).v.oneCell'=true)(sz:Nat)(ev:Operand→PV)(ρ:Operand→Value)(hev:∀x,af w ok ν st (ev x) (ρ x)) :
 ∀(ps:List (Nat×Operand))(i:Nat)(pre:List Value)(cells:Array Value)(rows:List (List D)),Aj i (ps.map (·.1))=true→rowsOf (ps.map fun x=>ev x.2)=some rows→mD sz rows=true→pre.length=i*sz→cells.toList.take (i*sz)=pre→cells.size=(i+ps.length)*sz →
 ∃us:List (List Value),Instr.fill (fun i=>some (i*sz,sz)) cells (ps.map fun x=>(x.1,ρ x.2))=some ⟨pre++us.flatten⟩∧aL w ok sz rows us
 | [],i,pre,cells,rows,_,hr,_,hpl,hpre,hsz=>by
   simp only[List.map_nil,rowsOf,Option.some.injEq] at hr
   subst hr
   refine⟨[],?_,aL.nil _ _ _⟩
   simp only[List.map_nil,Instr.fill,List.flatten_nil,List.append_nil]
   congr 1
   rw[←hpre,List.take_of_length_le (by rw[Array.length_toList,hsz];exact Nat.le_refl _)]
 | (j,x)::ps,i,pre,cells,rows,hup,hr,hlen,hpl,hpre,hsz=>by
   simp only[List.map_cons,Aj,Bool.and_eq_true,beq_iff_eq] at hup
   obtain⟨rfl,hup⟩:=hup
   simp only[List.map_cons,rowsOf] at hr
   split at hr
   ·rename_i hwh
    split at hr
    ·rename_i row rows' hrow hrows
     obtain rfl:=Option.some.inj hr
     simp only[mD,Bool.and_eq_true,beq_iff_eq] at hlen
     have hx:=(hev x).cells hwh hν
     have hxl:=hx.length
     have hd:=pR hx hrow
     obtain⟨K0,hd2⟩:=sJ hd
     have hxs:(ρ x).cells.toList.length=sz:=by rw[K0];exact hlen.1
     simp only[List.length_cons] at hsz
     have hmul:(i+(ps.length+1))*sz=i*sz+(sz+ps.length*sz):=by rw[Nat.add_mul,Nat.add_mul];omega
     have hone:=D5 (i*sz) (ρ x).cells.toList cells (by rw[hxs,hsz,hmul];omega)
     have hsz2:(((ρ x).cells.toList.zipIdx.foldl (fun cs (x:Value×Nat)=>cs.setIfInBounds (i*sz+x.2) x.1) cells)).size=(i+1+ps.length)*sz:=by
      rw[←Array.length_toList,hone]
      simp only[List.length_append,List.length_take,List.length_drop,Array.length_toList,hsz,hxs]
      rw[hmul,show i+1+ps.length=i+(ps.length+1) by omega,hmul]
      omega
     obtain⟨us,k1,k2⟩:=vq hν sz ev ρ hev ps (i+1) (pre++(ρ x).cells.toList) _ rows' hup hrows hlen.2 (by rw[List.length_append,hpl,hxs,Nat.add_mul];omega)
      (by
       rw[hone,hpre,←List.append_assoc,List.take_append_of_le_length (by rw[List.length_append,hpl,hxs,Nat.add_mul];omega)]
       rw[List.take_of_length_le (by rw[List.length_append,hpl,hxs,Nat.add_mul];omega)]) hsz2
     refine⟨(ρ x).cells.toList::us,?_,k2.cons hlen.1 hxs hd2⟩
     have hxs':(ρ x).cells.size=sz:=by simpa using hxs
     simp only[List.map_cons,Instr.fill]
     rw[if_neg (by simp only[hxs',hsz,hmul,ne_eq,not_true_eq_false,decide_false,Bool.false_or,decide_eq_true_eq];omega)]
     rw[List.flatten_cons,←List.append_assoc,←k1]
     congr 1
     rw[←Array.foldl_toList,Array.toList_zipIdx]
    ·cases hr
   ·cases hr
theorem IC{t e:Nat}{ti ei:TI}(ht:E.ti t=some ti)(hty:ti.ty= .slice e)(he:E.ti e=some ei){X:Cx}{ν:Nat→Nm}{g2:G}{a:Act}{w:World}(hs:Sat E.P X ν g2 a w)(ps:List (Nat×Operand))(rows:List (List D))
 (hup:Aj 0 (ps.map (·.1))=true) (hr:rowsOf (ps.map fun x=>g2.ev x.2)=some rows) (hlen:mD ei.n rows=true) (hbig:ps.length*ei.n≤16777216) {o:Oper} (ho:o.op= .buildSlice t ps.length ⟨ps⟩) :
 ∃us:List (List Value),(execOp a.eval o).run E.P w= .ok (.value (.slice (some ⟨w.heap.size,0,none⟩) ps.length ps.length)) (w.alloc (.cells ⟨us.flatten⟩ e))∧aL w (aN X ν g2.at) ei.n rows us:=by
 obtain⟨i,z,h1,h2,h4,h5,h6,h7⟩:=(E.ok e ei he).info
 have hu:=(E.ok t ti ht).ty
 rw[hty] at hu
 have hpos:=(E.ok e ei he).pos
 have hrowsl:∀(qs:List PV)(rows:List (List D)),rowsOf qs=some rows→rows.length=qs.length:=by
  intro qs
  induction qs with
  | nil=>intro rows h;simp[rowsOf] at h;simp[←h]
  | cons q qs ih=>
    intro rows h
    simp only[rowsOf] at h
    split at h
    ·split at h
     ·rename_i h1 h2
      obtain rfl:=Option.some.inj h
      simp[ih _ h2]
     ·cases h
    ·cases h
 have hrl:=hrowsl _ _ hr
 simp only[List.length_map] at hrl
 have key:∀init:Array Value,init.size=ps.length*ei.n→∃us:List (List Value),Instr.fill (fun i=>some (i*ei.n,ei.n)) init (ps.map fun x=>(x.1,a.eval x.2))=some ⟨us.flatten⟩∧aL w (aN X ν g2.at) ei.n rows us:=by
  intro init hi
  obtain⟨us,k1,k2⟩:=vq hs.nu ei.n g2.ev a.eval hs.ev ps 0 [] init rows hup hr hlen (by simp) (by simp) (by simpa using hi)
  exact⟨us,by simpa using k1,k2⟩
 by_cases hz:ps.length*ei.n=0
 ·obtain⟨us,k1,k2⟩:=key ((Array.range 0).map fun _=>default) (by rw[Array.size_map,Array.size_range,hz])
  refine⟨us,?_,k2⟩
  simp only[execOp,ho,List.map_toArray,Instr.buildSlice,Sem.run_bind,run_underlying hu,Result.andThen_ok,(E.ok e ei he).size w,hz]
  simp[k1,newRow]
 ·obtain⟨us,k1,k2⟩:=key ((Array.range (ps.length*ei.n)).map (z.cells[· % z.cells.size]!)) (by simp)
  refine⟨us,?_,k2⟩
  have hn:¬ps.length*ei.n>16777216:=by omega
  simp only[execOp,ho,List.map_toArray,Instr.buildSlice,Sem.run_bind,run_underlying hu,Result.andThen_ok,(E.ok e ei he).size w]
  simp[hn,hz,zeroValue,typeInfo,h1,h5,k1,newRow]
theorem rr:∀{qs:List PV}{rows:List (List D)},rowsOf qs=some rows→rows.length=qs.length
 | [],rows,h=>by simp[rowsOf] at h;simp[←h]
 | q::qs,rows,h=>by
   simp only[rowsOf] at h
   split at h
   ·split at h
    ·rename_i h1 h2
     obtain rfl:=Option.some.inj h
     simp[rr h2]
    ·cases h
   ·cases h
theorem Ew(w:World)(us:List Value)(e:TypeId):dF (w.alloc (.cells ⟨us⟩ e)) w.heap.size 0 us:=by
 intro j u hu
 simp only[World.cell?,kE,Nat.zero_add]
 simpa using hu
theorem Ln(t e n:Nat)(ps:List (Nat×Operand))(ti ei:TI)(rows:List (List D))(ht:E.ti t=some ti)(hty:ti.ty= .slice e)(he:E.ti e=some ei)(hn:n=ps.length)(hup:Aj 0 (ps.map (·.1))=true)
 (hr:rowsOf (ps.map fun x=>g.ev x.2)=some rows) (hlen:mD ei.n rows=true) (hbig:ps.length*ei.n≤16777216) :
 dX E.P ⟨some d,.buildSlice t n ⟨ps⟩,ty,pos,aft,gd⟩ g ⟨ps.flatMap fun x=>ba x.2,[]⟩ ⟨some (d,.d (.bx rows)),[]⟩:=by
 subst hn
 intro g2 hg
 have hmap:ps.map (fun x=>g2.ev x.2)=ps.map (fun x=>g.ev x.2):=by
  apply List.map_congr_left
  intro x hx
  rw[hg.ev (x:=x.2) (fun t h=>List.mem_flatMap.2 ⟨x,hx,h⟩)]
 rw[←hmap] at hr
 intro X ν a w next Q hs hnx
 obtain⟨us,hrun,hrr⟩:=IC ht hty he hs ps rows hup hr hlen hbig (o:=⟨some d,.buildSlice t ps.length ⟨ps⟩,ty,pos,aft,gd⟩) rfl
 have hpos:=(E.ok e ei he).pos
 have hrl:=rr hr
 simp only[List.length_map] at hrl
 have hle:ps.length≤16777216:=Nat.le_trans (Nat.le_mul_of_pos_right _ hpos) hbig
 unfold Oper.wp
 rw[hrun,Oper.upon_value]
 refine hnx ν _ _ (hs.MO (w':=w.alloc (.cells ⟨us.flatten⟩ e)) (dx w _) d _ _ fun hfree hsame=>?_)
 simp only[af]
 have hrr':=hrr.frame hsame (dx w _).size
 rw[←hrl]
 exact .bx rows us w.heap.size 0 rows.length ei.n (hfree _ (Nat.le_refl _)) (je (kE w _)) (Nat.le_refl _) (by simp only[maxLen];omega) (by unfold LB;omega) hrr'.len hrr'.hx hrr'.hu (Ew w _ e) hrr'.hr
theorem rk(t e n k:Nat)(ps:List (Nat×Operand))(ti ei:TI)(rows:List (List D))(ht:E.ti t=some ti)(hty:ti.ty= .slice e)(he:E.ti e=some ei)(hn:n=ps.length)(hup:Aj 0 (ps.map (·.1))=true)
 (hr:rowsOf (ps.map fun x=>g.ev x.2)=some rows) (hlen:mD ei.n rows=true) (hbig:ps.length*ei.n≤16777216) (hk:g.at k=none) :
 dX E.P ⟨some d,.buildSlice t n ⟨ps⟩,ty,pos,aft,gd⟩ g ⟨ps.flatMap fun x=>ba x.2,[k]⟩ ⟨some (d,.acc k),[(k,.acc e rows)]⟩:=by
 subst hn
 intro g2 hg
 have hmap:ps.map (fun x=>g2.ev x.2)=ps.map (fun x=>g.ev x.2):=by
  apply List.map_congr_left
  intro x hx
  rw[hg.ev (x:=x.2) (fun t h=>List.mem_flatMap.2 ⟨x,hx,h⟩)]
 have h3:=(hg.p k (by simp)).trans hk
 rw[←hmap] at hr
 intro X ν a w next Q hs hnx
 obtain⟨us,hrun,hrr⟩:=IC ht hty he hs ps rows hup hr hlen hbig (o:=⟨some d,.buildSlice t ps.length ⟨ps⟩,ty,pos,aft,gd⟩) rfl
 have hpos:=(E.ok e ei he).pos
 have hrl:=rr hr
 simp only[List.length_map] at hrl
 have hle:ps.length≤16777216:=Nat.le_trans (Nat.le_mul_of_pos_right _ hpos) hbig
 unfold Oper.wp
 rw[hrun,Oper.upon_value]
 have hfl:=hrr.ew
 have hrow:=World.ownsRow_lit w (e:=e) (⟨us.flatten⟩:Array Value) rows.length (base:=0) (size:=ei.n) (Nat.zero_le _) (by simp only[maxLen];omega) (by simpa using hfl)
 refine hnx _ _ _ (hs.oX (dx w _) k h3 (.acc e rows) ⟨.slice (some ⟨w.heap.size,0,none⟩) ps.length ps.length,[]⟩ rfl (fun b hb=>?_) d _ _ ?_ ?_)
 ·obtain rfl:w.heap.size=b:=by simpa[Nm.has,oq] using hb
  exact Nat.le_refl _
 ·intro ok st ν' hν hw hm
  refine⟨us,?_,?_,by unfold LB;omega,by rw[hν]⟩
  ·rw[hν,(E.ok e ei he).cells,←hrl]
   exact hrow
  ·rw[(E.ok e ei he).cells]
   exact hrr.frame hw (dx w _).size
 ·intro ok st ν' hν hst hw hm
  simp only[af]
  exact⟨by rw[hst];rfl,by rw[hν]⟩
end
end Go.Eng
namespace Go.Eng
open Go.RowKit
def OI(g:G):Option Operand→Int→Int→Prop
 | none,dflt,i=>i=dflt
 | some x,_,i=>∃k,g.ev x= .d (.val (.int k i))
def NQ:Option Operand→List Nat
 | none=>[]
 | some x=>ba x
theorem OI.agree{R:Rd}{g g2:G}(h:sR R g g2){o:Option Operand}{a i:Int}(ho:∀t∈NQ o,t∈R.s)(hi:OI g o a i):OI g2 o a i:=by
 cases o with
 | none=>exact hi
 | some x=>
   obtain⟨k,hk⟩:=hi
   exact⟨k,(h.ev (x:=x) ho).trans hk⟩
theorem OI.value{P:Program}{X:Cx}{ν:Nat→Nm}{g:G}{a:Act}{w:World}(h:Sat P X ν g a w){o:Option Operand}{d i:Int}(hi:OI g o d i):(o=none∧i=d)∨∃k,o.map a.eval=some (.int k i):=by
 cases o with
 | none=>exact .inl ⟨rfl,hi⟩
 | some x=>
   obtain⟨k,hk⟩:=hi
   have hv:=h.ev x
   rw[hk] at hv
   exact .inr ⟨k,by simp[bW hv]⟩
theorem lD{P:Program}(w:World){t e s:Nat}(hu:P.underlying t=some (.slice e))(hs:∀w,(sizeOf e).run P w= .ok s w)(a:Option Addr)(len cap:Nat)(lo hi:Option Value)(l h:Int)
 (hlo:(lo=none∧l=0)∨∃k,lo=some (.int k l)) (hhi:(hi=none∧h=len)∨∃k,hi=some (.int k h)) (h0:0≤l) (h1:l≤h) (h2:h≤len) (h3:len≤cap) :
 (Instr.sliceAt t (.slice a len cap) lo hi none).run P w= .ok (sliced a l.toNat h.toNat cap s) w:=by
 have hel:P.elem t=e:=by simp[Program.elem,hu]
 have ht:P.underlying t=some (.slice (P.elem t)):=by rw[hel];exact hu
 rw[run_sliceAt_slice w t _ _ _ _ ht]
 have h2':h≤(cap:Int):=by omega
 rcases hlo with⟨rfl,rfl⟩|⟨k,rfl⟩
 ·rcases hhi with⟨rfl,rfl⟩|⟨k',rfl⟩
  ·rw[run_slice_all w t a len cap ht,hel,hs]
   simp[Result.andThen]
  ·rw[run_slice_h w t a len cap ht k' h (by omega) h2',hel,hs]
   simp[Result.andThen]
 ·rcases hhi with⟨rfl,rfl⟩|⟨k',rfl⟩
  ·rw[run_slice_l w t a len cap ht k l h0 h1,hel,hs]
   simp[Result.andThen]
  ·rw[run_slice_lh w t a len cap ht k k' l h h0 h1 h2',hel,hs]
   simp[Result.andThen]
theorem Mi{P:Program}(w:World){t:Nat}(hu:P.underlying t=some .string)(s:List UInt8)(lo hi:Option Value)(l h:Int)
 (hlo:(lo=none∧l=0)∨∃k,lo=some (.int k l)) (hhi:(hi=none∧h=s.length)∨∃k,hi=some (.int k h)) (h0:0≤l) (h1:l≤h) (h2:h≤s.length) :
 (Instr.sliceAt t (.string ⟨s.toArray⟩) lo hi none).run P w= .ok (.string ⟨((s.drop l.toNat).take (h.toNat-l.toNat)).toArray⟩) w:=by
 rw[run_sliceAt_string w t _ _ _ _ hu]
 have hsz:(⟨s.toArray⟩:ByteArray).size=s.length:=size_mk s
 rcases hlo with⟨rfl,rfl⟩|⟨k,rfl⟩
 ·rcases hhi with⟨rfl,rfl⟩|⟨k',rfl⟩
  ·rw[run_slice_string_all w t _ hu,ByteArray.extract_mk,hsz]
   simp
  ·rw[run_slice_string_h w t _ hu k' h (by omega) (by omega),ByteArray.extract_mk]
   simp
 ·rcases hhi with⟨rfl,rfl⟩|⟨k',rfl⟩
  ·rw[run_slice_string_l w t _ hu k l h0 (by omega),ByteArray.extract_mk,hsz]
   simp
  ·rw[Go.run_slice_string w t _ k k' l h hu h0 h1 (by omega),ByteArray.extract_mk]
section
variable{E:Env}{g:G}{d:Nat}{ty:TypeId}{pos:String}{aft:Array Edge}{gd:Option (Nat×Bool)}{dn:Option Nat}
theorem kT{sz:Nat}:∀(us:List (List Value))(l n:Nat),(∀(i:Nat)(u:List Value),us[i]?=some u→u.length=sz)→l+n≤us.length→((us.drop l).take n).flatten=(us.flatten.drop (l*sz)).take (n*sz)
 | [],l,n,_,h=>by
   have h1:l=0:=by simp at h;omega
   have h2:n=0:=by simp at h;omega
   subst h1 h2;simp
 | u::us,0,n,hu,h=>by
   cases n with
   | zero=>simp
   | succ n=>
     have h0:u.length=sz:=hu 0 u rfl
     have ih:=kT us 0 n (fun i x hx=>hu (i+1) x (by simpa using hx)) (by simp at h;omega)
     simp only[List.drop_zero,Nat.zero_mul] at ih⊢
     rw[List.take_succ_cons,List.flatten_cons,List.flatten_cons,ih,List.take_append]
     have e1:(n+1)*sz-u.length=n*sz:=by rw[Nat.add_mul,h0];omega
     rw[e1,List.take_of_length_le (l:=u) (by rw[h0,Nat.add_mul];omega)]
 | u::us,l+1,n,hu,h=>by
   have h0:u.length=sz:=hu 0 u rfl
   have ih:=kT us l n (fun i x hx=>hu (i+1) x (by simpa using hx)) (by simp at h;omega)
   rw[List.drop_succ_cons,ih,List.flatten_cons]
   congr 1
   rw[List.drop_append,List.drop_of_length_le (l:=u) (by rw[h0,Nat.add_mul];omega),List.nil_append]
   congr 1
   rw[Nat.add_mul,h0];omega
theorem hU{α:Type}(xs:List α)(l n i:Nat)(x:α)(h:((xs.drop l).take n)[i]?=some x):xs[l+i]?=some x:=by
 rw[List.getElem?_take] at h
 split at h
 ·rwa [List.getElem?_drop] at h
 ·cases h
theorem aL.cut{w:World}{ok:Nat→Prop}{sz:Nat}{xs:List (List D)}{us:List (List Value)}(h:aL w ok sz xs us)(l n:Nat):aL w ok sz ((xs.drop l).take n) ((us.drop l).take n):=by
 refine⟨by simp[h.len],fun i x hx=>h.hx (l+i) x (hU _ _ _ _ _ hx),fun i u hu=>h.hu (l+i) u (hU _ _ _ _ _ hu),fun i j x u d v h1 h2 h3 h4=>h.hr (l+i) j x u d v (hU _ _ _ _ _ h1) (hU _ _ _ _ _ h2) h3 h4⟩
theorem Gd(x:Operand)(lo hi:Option Operand)(t e:Nat)(ti ei:TI)(xs r:List (List D))(l h:Int)(ht:E.ti t=some ti)(hty:ti.ty= .slice e)(he:E.ti e=some ei)(hx:g.ev x= .d (.bx xs))(hlo:OI g lo 0 l)(hhi:OI g hi xs.length h)
 (h0:0≤l) (h1:l≤h) (h2:h≤xs.length) (hz:∀y∈xs,y.length=ei.n) (hr:(xs.drop l.toNat).take (h.toNat-l.toNat)=r) :
 dX E.P ⟨some d,.slice t x lo hi none,ty,pos,aft,gd⟩ g ⟨ba x++(NQ lo++NQ hi),[]⟩ ⟨some (d,.d (.bx r)),[]⟩:=by
 subst hr
 intro g2 hg
 have e1:=hg.ev (x:=x) (fun t h=>by simp[h])
 have hlo2:=hlo.agree hg (fun t h=>by simp[h])
 have hhi2:=hhi.agree hg (fun t h=>by simp[h])
 refine wO.val rfl fun X ν a w hs=>?_
 have hv:=hs.ev x
 rw[e1,hx] at hv
 simp only[af] at hv⊢
 have hu:=(E.ok t ti ht).ty
 rw[hty] at hu
 have hlv:(lo.map a.eval=none∧l=0)∨∃k,lo.map a.eval=some (.int k l):=(hlo2.value hs).imp (fun h=>⟨by rw[h.1];rfl,h.2⟩) id
 have hhv:(hi.map a.eval=none∧h=xs.length)∨∃k,hi.map a.eval=some (.int k h):=(hhi2.value hs).imp (fun h=>⟨by rw[h.1];rfl,h.2⟩) id
 have hsize:=(E.ok e ei he).size
 obtain⟨ln,rfl⟩:∃n:Nat,l=n:=⟨l.toNat,by omega⟩
 obtain⟨hn,rfl⟩:∃n:Nat,h=n:=⟨h.toNat,by omega⟩
 simp only[Int.toNat_natCast]
 rcases hv.nR with⟨rfl,ea,ec,hvv,hemp⟩|⟨us,b,off,cap,sz,hvv,hok,hb,hcap,hmax,hB,hrr,hc⟩
 ·simp only[List.length_nil] at h2
  have hr:=lD (P:=E.P) w hu hsize ea 0 ec _ _ ln hn hlv hhv h0 h1 h2 (Nat.zero_le _)
  obtain rfl:hn=0:=by omega
  obtain rfl:ln=0:=by omega
  refine⟨sliced ea 0 0 ec ei.n,?_,?_⟩
  ·simp only[execOp,hvv,Option.map_none,Sem.run_bind,hr,Result.andThen_ok]
   rfl
  ·simp only[List.drop_nil,List.take_nil]
   unfold sliced
   refine cM.RF ?_
   rcases hemp with⟨rfl,rfl⟩|⟨k1,k2⟩
   ·exact .inl ⟨by simp,rfl⟩
   ·refine .inr ⟨?_,by omega⟩
    split
    ·exact k1
    ·rw[Option.isSome_map]
     exact k1
 ·have hr:=lD (P:=E.P) w hu hsize (some ⟨b,off,none⟩) xs.length cap _ _ ln hn hlv hhv h0 h1 h2 hcap
  simp only[Int.toNat_natCast] at hr
  have hsz:xs=[]∨sz=ei.n:=by
   cases xs with
   | nil=>exact .inl rfl
   | cons y ys=>right;rw[←hrr.hx 0 y rfl];exact hz y (by simp)
  refine⟨sliced (some ⟨b,off,none⟩) ln hn cap ei.n,?_,?_⟩
  ·simp only[execOp,hvv,Option.map_none,Sem.run_bind,hr,Result.andThen_ok]
   rfl
  ·have hlen:((xs.drop ln).take (hn-ln)).length=hn-ln:=by simp;omega
   have hrc:=hrr.cut ln (hn-ln)
   have hcl:=kT us ln (hn-ln) hrr.hu (by rw[hrr.len];omega)
   unfold sliced
   by_cases hcm:cap=ln
   ·rw[if_pos hcm]
    have:hn-ln=0:=by omega
    rw[this] at hlen hrc⊢
    simp only[List.take_zero] at hlen hrc⊢
    exact .bx [] [] b off (cap-ln) sz hok hb (by simp) (by simp only[maxLen] at hmax⊢;omega) (by simp) rfl (by simp) (by simp) (fun j u hu=>by simp at hu) (by simp)
   ·rw[if_neg hcm]
    have hsz':sz=ei.n∨ln=0:=by
     rcases hsz with rfl|h
     ·right;simp at h2;omega
     ·exact .inl h
    have hoff:(⟨b,off,none⟩:Addr).add (ln*ei.n)=⟨b,off+ln*sz,none⟩:=by
     rw[add_lit]
     rcases hsz' with h|h<;>rw[h]
     simp
    simp only[Option.map_some,hoff]
    have hres:=cM.bx (w:=w) (ok:=aN X ν g2.at) ((xs.drop ln).take (hn-ln)) ((us.drop ln).take (hn-ln)) b (off+ln*sz) (cap-ln) sz hok hb (by rw[hlen];omega) (by simp only[maxLen] at hmax⊢;omega) (by rw[hlen];omega) hrc.len hrc.hx hrc.hu
     (hc.sub (ln*sz) fun j u hu=>by
      rw[hcl] at hu
      exact hU _ _ _ _ _ hu) hrc.hr
    rw[hlen] at hres
    exact hres
theorem HS(x:Operand)(lo hi:Option Operand)(t:Nat)(ti:TI)(s r:List UInt8)(l h:Int)(ht:E.ti t=some ti)(hty:ti.ty= .str)(hx:g.ev x= .d (.str s))(hlo:OI g lo 0 l)(hhi:OI g hi s.length h)
 (h0:0≤l) (h1:l≤h) (h2:h≤s.length) (hr:(s.drop l.toNat).take (h.toNat-l.toNat)=r) :
 dX E.P ⟨some d,.slice t x lo hi none,ty,pos,aft,gd⟩ g ⟨ba x++(NQ lo++NQ hi),[]⟩ ⟨some (d,.d (.str r)),[]⟩:=by
 subst hr
 intro g2 hg
 have e1:=hg.ev (x:=x) (fun t h=>by simp[h])
 have hlo2:=hlo.agree hg (fun t h=>by simp[h])
 have hhi2:=hhi.agree hg (fun t h=>by simp[h])
 refine wO.val rfl fun X ν a w hs=>?_
 have hv:=hs.ev x
 rw[e1,hx] at hv
 obtain⟨hv,hB⟩:=nk hv
 have hu:=(E.ok t ti ht).ty
 rw[hty] at hu
 have hlv:(lo.map a.eval=none∧l=0)∨∃k,lo.map a.eval=some (.int k l):=(hlo2.value hs).imp (fun h=>⟨by rw[h.1];rfl,h.2⟩) id
 have hhv:(hi.map a.eval=none∧h=s.length)∨∃k,hi.map a.eval=some (.int k h):=(hhi2.value hs).imp (fun h=>⟨by rw[h.1];rfl,h.2⟩) id
 have hr:=Mi (P:=E.P) w hu s _ _ l h hlv hhv h0 h1 h2
 refine⟨_,?_,by simp only[af];exact .str _ (by simp;omega)⟩
 simp only[execOp,hv,Option.map_none,Sem.run_bind,hr,Result.andThen_ok]
 rfl
def mg{α:Type}(cs:List α)(off:Nat)(vs:List α):List α:=cs.take off++(vs++cs.drop (off+vs.length))
theorem Dq{α:Type}(cs vs:List α)(off:Nat)(h:off+vs.length≤cs.length):(mg cs off vs).length=cs.length:=by
 simp[mg];omega
theorem zf{sz:Nat}:∀(us:List (List Value))(i off:Nat)(vs rest:List Value),(∀(i:Nat)(u:List Value),us[i]?=some u→u.length=sz)→i<us.length→off+vs.length≤sz →
 mg (us.flatten++rest) (i*sz+off) vs=(us.set i (mg (us.getD i []) off vs)).flatten++rest
 | [],i,_,_,_,_,h,_=>by simp at h
 | u::us,0,off,vs,rest,hu,_,ho=>by
   have h0:u.length=sz:=hu 0 u rfl
   simp only[mg,Nat.zero_mul,Nat.zero_add,List.set_cons_zero,List.flatten_cons,List.getD_cons_zero,List.append_assoc]
   rw[List.take_append_of_le_length (by omega),List.drop_append_of_le_length (by omega)]
 | u::us,i+1,off,vs,rest,hu,hi,ho=>by
   have h0:u.length=sz:=hu 0 u rfl
   have ih:=zf us i off vs rest (fun i x hx=>hu (i+1) x (by simpa using hx)) (by simpa using hi) ho
   have e1:(i+1)*sz+off=sz+(i*sz+off):=by rw[Nat.add_mul];omega
   simp only[List.set_cons_succ,List.flatten_cons,List.getD_cons_succ,List.append_assoc]
   rw[←ih,e1]
   simp only[mg]
   have e2:List.take (sz+(i*sz+off)) (u++(us.flatten++rest))=u++List.take (i*sz+off) (us.flatten++rest):=by
    rw[List.take_append,List.take_of_length_le (by omega),h0]
    congr 2;omega
   have e3:List.drop (sz+(i*sz+off)+vs.length) (u++(us.flatten++rest))=List.drop (i*sz+off+vs.length) (us.flatten++rest):=by
    rw[List.drop_append,List.drop_of_length_le (by omega),List.nil_append,h0]
    congr 1;omega
   rw[e2,e3,List.append_assoc]
theorem tD{α:Type}(cs vs:List α)(off j:Nat)(h:off+vs.length≤cs.length):(mg cs off vs)[j]?=if off≤j∧j<off+vs.length then vs[j-off]? else cs[j]?:=by
 unfold mg
 by_cases h1:j<off
 ·rw[if_neg (by omega),List.getElem?_append_left (by simp;omega),List.getElem?_take,if_pos h1]
 ·have e:(cs.take off).length=off:=by simp;omega
  rw[List.getElem?_append_right (by omega),e]
  by_cases h2:j<off+vs.length
  ·rw[if_pos (by omega),List.getElem?_append_left (by omega)]
  ·rw[if_neg (by omega),List.getElem?_append_right (by omega),List.getElem?_drop]
   congr 1;omega
theorem AF(x y:Operand)(t k i off sz e:Nat)(ti ei:TI)(xs:List (List D))(p:PV)(cs:List D)(ht:E.ti t=some ti)(he:E.ti e=some ei)(hsz:sz=ei.n)(hx:g.ev x= .cC k i off sz)(hk:g.at k=some (.acc e xs))(hy:g.ev y=p)
 (hi:i<xs.length) (hl:off+ti.n≤ei.n) (hp:p.whole=true) (hn:(bw p).length=ti.n) (hcs:rS (bw p)=some cs) :
 dX E.P ⟨dn,.store t x y,ty,pos,aft,gd⟩ g ⟨ba x++ba y++dn.toList,[k]⟩ ⟨dn.map fun d=>(d,.undef),[(k,.acc e (xs.set i (mg (row xs i) off cs)))]⟩:=by
 intro g2 hg
 have e1:=hg.ev (x:=x) (fun t h=>by simp[h])
 have e2:=hg.ev (x:=y) (fun t h=>by simp[h])
 have h3:=(hg.p k (by simp)).trans hk
 intro X ν a w next Q hs hnx
 have hv:=hs.ev x
 rw[e1,hx] at hv
 have hw:=hs.ev y
 rw[e2,hy] at hw
 simp only[af] at hv
 obtain⟨_,b,n,c,hb,hv⟩:=hv
 obtain⟨us,ho,hrr,hB,hf0⟩:=hs.en k _ h3
 have hcells:=hw.cells hp hs.nu
 have hlen:=hcells.length
 obtain⟨K0,hd2⟩:=sJ (pR hcells hcs)
 rw[(E.ok e ei he).cells] at hrr ho
 subst hsz
 have hlast:=ho.2
 rcases hlast with⟨h1,h2⟩|⟨b',cap,cur,h1,_,h2,h4,h5,h6,h7⟩
 ·omega
 ·rw[h1] at hb
  obtain⟨rfl,rfl,rfl⟩:b'=b∧xs.length=n∧cap=c:=by simpa using hb
  have hul:us.length=xs.length:=hrr.len
  have hfl:=hrr.ew
  have hmulle:(i+1)*ei.n≤xs.length*ei.n:=Nat.mul_le_mul_right _ hi
  have hmulle2:xs.length*ei.n≤cap*ei.n:=Nat.mul_le_mul_right _ h4
  have hadd:(i+1)*ei.n=i*ei.n+ei.n:=by rw[Nat.add_mul];omega
  have hone:∀u∈(a.eval y).cells.toList,u.oneCell'=true:=by
   intro u hu
   obtain⟨j,hj,rfl⟩:=List.getElem_of_mem hu
   have hjc:j<cs.length:=by rw[←K0];exact hj
   exact(hd2 j cs[j] _ (List.getElem?_eq_getElem hjc) (List.getElem?_eq_getElem hj)).one
  have hvl:(a.eval y).cells.toList.length=ti.n:=by rw[hlen,hn]
  have hrun:=n8 (E.ok t ti ht) w b' (i*ei.n+off) e cur (a.eval y) h2 hvl (by omega) hone
  have hr:(execOp a.eval ⟨dn,.store t x y,ty,pos,aft,gd⟩).run E.P w= .ok .skip (w.setRow b' (cur.toList.take (i*ei.n+off)++(a.eval y).cells.toList++cur.toList.drop (i*ei.n+off+(a.eval y).cells.toList.length)).toArray):=by
   simp only[execOp,hv,Instr.storeAt,Instr.sureAddr,Sem.run_bind,Sem.run_pure,Result.andThen_ok,hrun]
  have hcur:cur.toList=us.flatten++cur.toList.drop (xs.length*ei.n):=by rw[←h7];exact(List.take_append_drop _ _).symm
  have hnew:cur.toList.take (i*ei.n+off)++(a.eval y).cells.toList++cur.toList.drop (i*ei.n+off+(a.eval y).cells.toList.length)=(us.set i (mg (us.getD i []) off (a.eval y).cells.toList)).flatten++cur.toList.drop (xs.length*ei.n):=by
   have:=zf us i off (a.eval y).cells.toList (cur.toList.drop (xs.length*ei.n)) hrr.hu (by omega) (by omega)
   rw[←hcur] at this
   rw[←this,List.append_assoc]
   rfl
  have hui:us[i]?=some (us.getD i []):=by
   have:i<us.length:=by omega
   simp[List.getD,List.getElem?_eq_getElem this]
  have hxi:xs[i]?=some (row xs i):=by simp[row,List.getD,List.getElem?_eq_getElem hi]
  have hxil:=hrr.hx i _ hxi
  have huil:=hrr.hu i _ hui
  have hrows:aL w (aN X ν g2.at) ei.n (xs.set i (mg (row xs i) off cs)) (us.set i (mg (us.getD i []) off (a.eval y).cells.toList)):=by
   refine⟨by simp[hul],fun j z hz=>?_,fun j z hz=>?_,fun j l z u q v k1 k2 k3 k4=>?_⟩
   ·rw[List.getElem?_set] at hz
    by_cases hij:i=j
    ·subst hij
     rw[if_pos rfl,if_pos hi] at hz
     obtain rfl:=Option.some.inj hz
     rw[Dq _ _ _ (by rw[hxil,←K0,hvl];exact hl),hxil]
    ·rw[if_neg hij] at hz
     exact hrr.hx j z hz
   ·rw[List.getElem?_set] at hz
    by_cases hij:i=j
    ·subst hij
     rw[if_pos rfl,if_pos (by omega)] at hz
     obtain rfl:=Option.some.inj hz
     rw[Dq _ _ _ (by rw[huil,hvl];exact hl),huil]
    ·rw[if_neg hij] at hz
     exact hrr.hu j z hz
   ·rw[List.getElem?_set] at k1 k2
    by_cases hij:i=j
    ·subst hij
     rw[if_pos rfl,if_pos hi] at k1
     rw[if_pos rfl,if_pos (by omega)] at k2
     obtain rfl:=Option.some.inj k1
     obtain rfl:=Option.some.inj k2
     rw[tD _ _ _ _ (by rw[hxil,←K0,hvl];exact hl)] at k3
     rw[tD _ _ _ _ (by rw[huil,hvl];exact hl)] at k4
     rw[K0] at k4
     by_cases hin:off≤l∧l<off+cs.length
     ·rw[if_pos hin] at k3 k4
      exact hd2 _ _ _ k3 k4
     ·rw[if_neg hin] at k3 k4
      exact hrr.hr i l _ _ q v hxi hui k3 k4
    ·rw[if_neg hij] at k1 k2
     exact hrr.hr j l z u q v k1 k2 k3 k4
  unfold Oper.wp
  rw[hr,Oper.upon_skip,hnew]
  refine hnx _ _ _ (hs.uj k (.acc e xs) (.acc e (xs.set i (mg (row xs i) off cs))) h3 rfl (dW w b' _ _ ((dS hf0).2 (by rw[h1];rfl))) dn .undef Go.undef ?_ ?_)
  ·intro hwf hm
   refine⟨us.set i (mg (us.getD i []) off (a.eval y).cells.toList),?_,?_,by simpa using hB,hf0⟩
   ·rw[(E.ok e ei he).cells,h1]
    have hf2:=hrows.ew
    refine⟨hf2,.inr ⟨b',cap,_,by simp,Nat.zero_le _,setRow_heap w b' _ _ e _ h2,by simpa using h4,h5,?_,?_⟩⟩
    ·simp only[List.size_toArray,List.length_append,hf2,List.length_set,List.length_drop,Array.length_toList,h6]
     omega
    ·rw[List.take_append_of_le_length (by rw[hf2];exact Nat.le_refl _),List.take_of_length_le (by rw[hf2];exact Nat.le_refl _)]
   ·rw[(E.ok e ei he).cells]
    exact hrows.frame hwf (by simp[World.setRow])
  ·intro _
   simp only[af]
def JG(ns:List Int):List (List D):=ns.map fun n=>[.val (.int .u8 n)]
def Tq(ns:List Int):List UInt8:=ns.map fun n=>UInt8.ofNat n.toNat
end
end Go.Eng
namespace Go.Eng
open Go.RowKit
mutual
def sc:PV→Bool
 | .undef=>true
 | .aK=>true
 | .d (.val _)=>true
 | .d (.str _)=>true
 | .agg cs=>Rx cs
 | .eZ cs=>Rx cs
 | _=>false
def Rx:List PV→Bool
 | []=>true
 | p::ps=>sc p&&Rx ps
end
section
variable{w w':World}{ok ok':Nat→Prop}{ν ν':Nat→Nm}{st st':Nat→Option En}
mutual
theorem af.sc:∀(p:PV)(v:Value),sc p=true→af w ok ν st p v→af w' ok' ν' st' p v
 | .undef,v,_,h=>by simpa[af] using h
 | .aK,v,_,h=>by simpa[af] using h
 | .d (.val u),v,_,h=>by
   simp only[af] at h⊢
   cases h with
   | val u h=>exact .val _ h
 | .d (.str u),v,_,h=>by
   simp only[af] at h⊢
   cases h with
   | str u h=>exact .str _ h
 | .agg cs,v,hs,h=>by
   simp only[Eng.sc] at hs
   simp only[af] at h⊢
   obtain⟨vs,e,h⟩:=h
   exact⟨vs,e,ae.sc cs vs hs h⟩
 | .eZ cs,v,hs,h=>by
   simp only[Eng.sc] at hs
   simp only[af] at h⊢
   obtain⟨vs,e,h⟩:=h
   exact⟨vs,e,ae.sc cs vs hs h⟩
 | .any,_,hs,_=>by simp[Eng.sc] at hs
 | .d (.bx _),_,hs,_=>by simp[Eng.sc] at hs
 | .ptr _ _,_,hs,_=>by simp[Eng.sc] at hs
 | .acc _,_,hs,_=>by simp[Eng.sc] at hs
 | .cC _ _ _ _,_,hs,_=>by simp[Eng.sc] at hs
 | .cf _ _ _,_,hs,_=>by simp[Eng.sc] at hs
 | .fn _ _,_,hs,_=>by simp[Eng.sc] at hs
theorem ae.sc:∀(ps:List PV)(vs:List Value),Rx ps=true→ae w ok ν st ps vs→ae w' ok' ν' st' ps vs
 | [],[],_,_=>by simp[ae]
 | p::ps,v::vs,hs,h=>by
   simp only[Eng.Rx,Bool.and_eq_true] at hs
   simp only[ae] at h⊢
   exact⟨af.sc p v hs.1 h.1,ae.sc ps vs hs.2 h.2⟩
 | [],_::_,_,h=>by simp[ae] at h
 | _::_,[],_,h=>by simp[ae] at h
end
end
mutual
inductive Vw(g:G)(ks:List Nat):PV→PV→Prop where
 | same {p:PV} (h:p.lt 0=true):Vw g ks p p
 | nil:Vw g ks .aK (.d (.bx []))
 | acc {k:Nat} {e:TypeId} {xs:List (List D)} (h:pn k ks=true) (hk:g.at k=some (.acc e xs)):Vw g ks (.acc k) (.d (.bx xs))
 | bM {k:Nat} {e:TypeId} {xs:List (List T)} {ys:List (List D)} (h:pn k ks=true) (hk:g.at k=some (.bM e xs)) (hf:aW xs=some ys):Vw g ks (.acc k) (.d (.bx ys))
 | agg {cs ds:List PV} (h:lR g ks cs ds):Vw g ks (.agg cs) (.agg ds)
 | fn {f:Nat} {cs ds:List PV} (h:lR g ks cs ds):Vw g ks (.fn f cs) (.fn f ds)
 | box {k:Nat} {cs:List PV} {ds:List D} (h:pn k ks=true) (hk:g.at k=some (.box cs)) (hc:lR g ks cs (bn ds)):Vw g ks (.ptr k 0) (.cf [ds] 0 0)
inductive lR(g:G)(ks:List Nat):List PV→List PV→Prop where
 | nil:lR g ks [] []
 | cons {p q:PV} {ps qs:List PV} (h:Vw g ks p q) (h':lR g ks ps qs):lR g ks (p::ps) (q::qs)
end
section
variable{g g2:G}{ks:List Nat}
mutual
theorem Vw.GS{p q:PV}:Vw g ks p q→q.lt 0=true
 | .same h=>h
 | .nil=>rfl
 | .acc _ _=>rfl
 | .bM _ _ _=>rfl
 | .agg h=>by simp only[PV.lt];exact lR.GS h
 | .fn h=>by simp only[PV.lt];exact lR.GS h
 | .box _ _ _=>rfl
theorem lR.GS{ps qs:List PV}:lR g ks ps qs→mi 0 qs=true
 | .nil=>rfl
 | .cons h h'=>by simp only[mi,Bool.and_eq_true];exact⟨Vw.GS h,lR.GS h'⟩
end
mutual
theorem Vw.agree(ha:∀k∈ks,g2.at k=g.at k){p q:PV}:Vw g ks p q→Vw g2 ks p q
 | .same h=>.same h
 | .nil=>.nil
 | .acc h hk=>.acc h ((ha _ (jJ.1 h)).trans hk)
 | .bM h hk hf=>.bM h ((ha _ (jJ.1 h)).trans hk) hf
 | .agg h=>.agg (lR.agree ha h)
 | .fn h=>.fn (lR.agree ha h)
 | .box h hk hc=>.box h ((ha _ (jJ.1 h)).trans hk) (lR.agree ha hc)
theorem lR.agree(ha:∀k∈ks,g2.at k=g.at k){ps qs:List PV}:lR g ks ps qs→lR g2 ks ps qs
 | .nil=>.nil
 | .cons h h'=>.cons (Vw.agree ha h) (lR.agree ha h')
end
end
section
variable{P:Program}{X:Cx}{ν ν':Nat→Nm}{g:G}{a:Act}{w:World}{ok:Nat→Prop}{st:Nat→Option En}{ks:List Nat}
mutual
theorem af.GS(hw:∀b,aN X ν g.at b→b<w.heap.size→ok b∧w.heap[b]?=w.heap[b]?):∀(p:PV)(v:Value),p.lt 0=true→af w (aN X ν g.at) ν g.at p v→af w ok ν' st p v
 | .any,_,_,_=>by simp[af]
 | .undef,_,_,h=>by simpa[af] using h
 | .aK,_,_,h=>by simpa[af] using h
 | .d x,v,_,h=>by
   simp only[af] at h⊢
   exact h.frame hw (Nat.le_refl _)
 | .agg cs,v,hl,h=>by
   simp only[PV.lt] at hl
   simp only[af] at h⊢
   obtain⟨vs,e,h⟩:=h
   exact⟨vs,e,ae.GS hw cs vs hl h⟩
 | .eZ cs,v,hl,h=>by
   simp only[PV.lt] at hl
   simp only[af] at h⊢
   obtain⟨vs,e,h⟩:=h
   exact⟨vs,e,ae.GS hw cs vs hl h⟩
 | .cf xs i off,v,_,h=>by
   simp only[af] at h⊢
   obtain⟨b,o,cap,h1,h2,h3⟩:=h
   exact⟨b,o,cap,h1.frame hw (Nat.le_refl _),h2,h3⟩
 | .fn f cs,v,hl,h=>by
   simp only[PV.lt] at hl
   simp only[af] at h⊢
   obtain⟨vs,e,h⟩:=h
   exact⟨vs,e,ae.GS hw cs vs hl h⟩
 | .ptr _ _,_,hl,_=>by simp[PV.lt] at hl
 | .acc _,_,hl,_=>by simp[PV.lt] at hl
 | .cC _ _ _ _,_,hl,_=>by simp[PV.lt] at hl
theorem ae.GS(hw:∀b,aN X ν g.at b→b<w.heap.size→ok b∧w.heap[b]?=w.heap[b]?):∀(ps:List PV)(vs:List Value),mi 0 ps=true→ae w (aN X ν g.at) ν g.at ps vs→ae w ok ν' st ps vs
 | [],[],_,_=>by simp[ae]
 | p::ps,v::vs,hl,h=>by
   simp only[mi,Bool.and_eq_true] at hl
   simp only[ae] at h⊢
   exact⟨af.GS hw p v hl.1 h.1,ae.GS hw ps vs hl.2 h.2⟩
 | [],_::_,_,h=>by simp[ae] at h
 | _::_,[],_,h=>by simp[ae] at h
end
theorem HU{w:World}{ok:Nat→Prop}{ν:Nat→Nm}{st:Nat→Option En}:∀{ds:List D}{vs:List Value},ae w ok ν st (bn ds) vs→∀(j:Nat)(d:D)(v:Value),ds[j]?=some d→vs[j]?=some v→cM w ok d v
 | [],_,_,j,d,v,h,_=>by simp at h
 | _::_,[],h,_,_,_,_,_=>by simp[bn,ae] at h
 | e::ds,u::vs,h,0,d,v,h1,h2=>by
   simp only[bn,List.map_cons,ae,af] at h
   obtain rfl:e=d:=by simpa using h1
   obtain rfl:u=v:=by simpa using h2
   exact h.1
 | e::ds,u::vs,h,j+1,d,v,h1,h2=>by
   simp only[bn,List.map_cons,ae] at h
   exact HU (ds:=ds) h.2 j d v (by simpa using h1) (by simpa using h2)
theorem Dz{w:World}{ok:Nat→Prop}{ν:Nat→Nm}{st:Nat→Option En}{b:Nat}{ds:List D}{vs:List Value}(hok:ok b)(hb:b<w.heap.size)(hc:dF w b 0 vs)(h:ae w ok ν st (bn ds) vs) :
 cM w ok (.bx [ds]) (.slice (some ⟨b,0,none⟩) [ds].length 1):=by
 have hl:vs.length=ds.length:=by simpa[bn] using h.length
 refine .bx [ds] [vs] b 0 1 ds.length hok hb (by simp) (by unfold maxLen;omega) (by simp[LB]) rfl ?_ ?_ (by simpa using hc) ?_
 ·intro i x hx
  cases i with
  | zero=>obtain rfl:ds=x:=by simpa using hx
          rfl
  | succ i=>simp at hx
 ·intro i x hx
  cases i with
  | zero=>obtain rfl:vs=x:=by simpa using hx
          exact hl
  | succ i=>simp at hx
 ·intro i j x u d v h1 h2 h3 h4
  cases i with
  | zero=>
    obtain rfl:ds=x:=by simpa using h1
    obtain rfl:vs=u:=by simpa using h2
    exact HU h j d v h3 h4
  | succ i=>simp at h1
mutual
theorem af.vw(hs:Sat P X ν g a w)(hw:∀b,aN X ν g.at b→b<w.heap.size→ok b∧w.heap[b]?=w.heap[b]?)(hown:∀b,Own ν g.at b→ok b){p q:PV}:∀(v:Value),Vw g ks p q→af w (aN X ν g.at) ν g.at p v→af w ok ν' st q v
 | v,.same hl,h=>af.GS hw _ v hl h
 | v,.nil,h=>by
   simp only[af] at h⊢
   rw[h];exact .nil
 | v,.acc _ hk,h=>by
   simp only[af] at h⊢
   rw[h.2]
   obtain⟨us,h1,h2,h3,_⟩:=hs.en _ _ hk
   exact pr h1 h2 h3 (fun b hb=>hown b ⟨_,_,hk,rfl,.inl hb⟩) hw
 | v,.bM (xs:=xs) (e:=e) _ hk hf,h=>by
   simp only[af] at h⊢
   rw[h.2]
   have hen:=hs.en _ _ hk
   exact dU.data hw (.own e xs) _ _ _ (by simp only[T.yG,hf]) hen.1 fun b hb=>hown b ⟨_,_,hk,rfl,im.2 hb⟩
 | v,.agg hc,h=>by
   simp only[af] at h⊢
   obtain⟨vs,e,h⟩:=h
   exact⟨vs,e,ae.vw hs hw hown vs hc h⟩
 | v,.fn hc,h=>by
   simp only[af] at h⊢
   obtain⟨vs,e,h⟩:=h
   exact⟨vs,e,ae.vw hs hw hown vs hc h⟩
 | v,.box _ hk hc,h=>by
   simp only[af] at h⊢
   obtain⟨_,b,h1,h2⟩:=h
   obtain⟨b',vs,T,h3,h4,h5,_⟩:=hs.en _ _ hk
   obtain rfl:b'=b:=by
    rw[h1] at h3
    simpa using h3.symm
   have h6:=ae.vw hs hw hown vs hc h5
   refine⟨b',0,1,Dz (hown b' ⟨_,_,hk,rfl,.inl (by rw[h1];rfl)⟩) (je h4) (oc h4) h6,by simp,by rw[h2];simp⟩
theorem ae.vw(hs:Sat P X ν g a w)(hw:∀b,aN X ν g.at b→b<w.heap.size→ok b∧w.heap[b]?=w.heap[b]?)(hown:∀b,Own ν g.at b→ok b){ps qs:List PV}:∀(vs:List Value),lR g ks ps qs→ae w (aN X ν g.at) ν g.at ps vs→ae w ok ν' st qs vs
 | [],.nil,_=>by simp[ae]
 | v::vs,.cons h1 h2,h=>by
   simp only[ae] at h⊢
   exact⟨af.vw hs hw hown v h1 h.1,ae.vw hs hw hown vs h2 h.2⟩
 | _::_,.nil,h=>by simp[ae] at h
 | [],.cons _ _,h=>by simp[ae] at h
end
end
theorem OC{P:Program}{o:Oper}{g:G}{fop:Operand}{xs:List Operand}{tys:Array TypeId}{d:Nat}(ho:o.op= .call ⟨.value fop,⟨xs⟩,tys⟩)(hd:o.dst=some d){f:FuncId}{cap:List PV}(hfn:g.ev fop= .fn f cap)
 (ks:List Nat) (cargs:List PV) (R:PV→List (Option En)→Prop) (hC:C P f cargs [] R) (hargs:lR g ks (xs.map g.ev++cap) cargs) (hR:∀r s,R r s→sc r=true)
 (X:Cx) (ν:Nat→Nm) (a:Act) (w:World) (next:Act→World→Prop) (Q:Exit→Act→World→Prop) (hs:Sat P X ν g a w)
 (hn:∀r s ν' a' w',R r s→Sat P X ν' ⟨fm g.sl d r,g.st⟩ a' w'→next a' w'):o.wp P a w next Q:=by
 have hfv:=hs.ev fop
 rw[hfn] at hfv
 simp only[af] at hfv
 obtain⟨vcap,hfv,hcap⟩:=hfv
 have hxs:=so hs xs
 let Xc:Cx:=⟨w,Own ν (aV []),ν,aV [],X.Z⟩
 have hno:∀b,¬Own ν (aV []) b:=by
  rintro b ⟨k,e,h,_⟩
  cases k<;>simp[aV] at h
 have hw:∀b,aN X ν g.at b→b<w.heap.size→aN Xc ν (aV []) b∧w.heap[b]?=w.heap[b]?:=fun b hb _=>⟨⟨hno b,hb.2⟩,rfl⟩
 have hown:∀b,Own ν g.at b→aN Xc ν (aV []) b:=fun b hb=>⟨hno b,hs.C5 hb⟩
 have hall:ae w (aN Xc ν (aV [])) ν (aV []) cargs (xs.map a.eval++vcap):=ae.vw hs hw hown _ hargs (hxs.app hcap)
 obtain⟨⟨fn,hfn1,hfn2,hfn3⟩,hC⟩:=hC
 have hr:(execOp a.eval o).run P w= .ok (.enter f ⟨xs.map a.eval++vcap⟩) w:=by
  have n1 : ¬ fn.name = "runtime.NumGoroutine" := by simpa using hfn3
  have n2:¬fn.body=none:=fun e=>by rw[e] at hfn2;cases hfn2
  simp[execOp,ho,resolve,hfv,Deferred.ofValue,invoke,callFunc,program,hfn1,n1,n2,Sem.run]
 have hat:∀k,(⟨cargs,[]⟩:G).at k=none:=fun k=>by cases k<;>rfl
 have hent:Sat P Xc ν ⟨cargs,[]⟩ ⟨⟨xs.map a.eval++vcap⟩,[]⟩ w:=by
  refine⟨by simpa using hall.length,fun t=>?_,fun k e h=>?_,fun k k' e e' b h=>?_,fun b hb=>?_,fun k h=>?_,fun k h=>?_,⟨fun b hb=>?_,hs.kt rfl fun b hb=>(hno b hb).elim⟩,kG.refl _ w,rfl⟩
  ·have key:∀(ps:List PV)(us:List Value)(t:Nat),ae w (aN Xc ν (aV [])) ν (aV []) ps us→af w (aN Xc ν (aV [])) ν (aV []) (nth ps t) (us.getD t Go.undef):=by
    intro ps
    induction ps with
    | nil=>intro us t _;cases t<;>simp[nth,af]
    | cons p ps ih=>
      intro us t hr
      cases us with
      | nil=>simp[ae] at hr
      | cons u us=>
        simp only[ae] at hr
        cases t with
        | zero=>simpa[nth] using hr.1
        | succ t=>simpa[nth] using ih us t hr.2
   have:=key cargs _ t hall
   show af w (aN Xc ν (aV [])) ν (aV []) (nth cargs t) ((⟨xs.map a.eval++vcap⟩:Array Value).getD t Go.undef)
   simpa[Array.getD_eq_getD_getElem?] using this
  ·rw[hat] at h;cases h
  ·rw[hat] at h;cases h
  ·exact(hno b hb).elim
  ·rw[hat] at h;cases h
  ·exact⟨rfl,h⟩
  ·exact⟨Nat.lt_of_lt_of_le (hs.xy b hb).1 hs.r3.size,hno b⟩
 unfold Oper.wp
 rw[hr,Oper.upon_enter]
 refine(hC Xc (xs.map a.eval++vcap) rfl rfl hent).mono ?_
 rintro e w' ⟨v,res,st',ν',rfl,hRr,hsat⟩
 show next (a.put o.dst v) w'
 rw[hd]
 refine hn res st' ν _ _ hRr (hs.MO (hsat.r3.mono fun b hb _=>hno b hb) d res v fun _ _=>?_)
 have:=hsat.sl 0
 exact af.sc res v (hR _ _ hRr) this
section
variable{E:Env}{g:G}{d:Nat}{ty:TypeId}{pos:String}{aft:Array Edge}{gd:Option (Nat×Bool)}
theorem NX(fop:Operand)(xs:List Operand)(tys:Array TypeId)(f:FuncId)(cap:List PV)(hfn:g.ev fop= .fn f cap)(ks:List Nat)(cargs:List PV)(res:PV)(hC:C E.P f cargs [] (aO res []))
 (hargs:lR g ks (xs.map g.ev++cap) cargs) (hsc:sc res=true) :
 dX E.P ⟨some d,.call ⟨.value fop,⟨xs⟩,tys⟩,ty,pos,aft,gd⟩ g ⟨ba fop++xs.flatMap ba,ks⟩ ⟨some (d,res),[]⟩:=by
 intro g2 hg
 have e1:=hg.ev (x:=fop) (fun t h=>by simp[h])
 have e2:=mX hg xs (fun t h=>by simp only[List.mem_append];exact .inr h)
 intro X ν a w next Q hs hn
 refine OC rfl rfl (by rw[e1,hfn]) ks cargs (aO res []) hC (by rw[e2];exact hargs.agree (fun k hk=>hg.p k hk)) (fun r s h=>by rw[h.1];exact hsc) X ν a w next Q hs ?_
 rintro r s ν' a' w' ⟨rfl,rfl⟩ hs'
 exact hn ν' a' w' hs'
end
def Fin(E:Env)(rs:List ResultVar)(n0:Nat)(R:PV→List (Option En)→Prop)(g:G):Prop:=∃g',jS E.P n0 g g'∧Q7 E rs n0 R g'
theorem Fin.plain{E:Env}{rs:List ResultVar}{R:PV→List (Option En)→Prop}{g:G}(ps:List PV)(q:PV)(h1:rJ E g rs=some ps)(h2:cv (eJ ps) q)(hl:q.lt 0=true)(hR:R q []):True:=trivial
end Go.Eng
namespace Go.Eng
open Go.RowKit
inductive rq where
 | go(R:Rd)(δ:Dl)
 | hJ(φ:Prop)(R:Rd)(δ:Dl)
 | stop
def rq.Ok(P:Program)(o:Oper)(g:G):rq→Prop
 | .go R δ=>dX P o g R δ
 | .hJ φ R δ=>φ→dX P o g R δ
 | .stop=>True
def qc:Nat→Nat→Bool
 | 0,_=>true
 | _+1,0=>false
 | n+1,m+1=>qc n m
theorem eK:∀{n m:Nat},qc n m=true→n≤m
 | 0,_,_=>Nat.zero_le _
 | n+1,0,h=>by simp[qc] at h
 | n+1,m+1,h=>Nat.succ_le_succ (eK (by simpa[qc] using h))
def Al:Nat→Nat→Bool
 | 0,0=>true
 | n+1,m+1=>Al n m
 | _,_=>false
theorem pC:∀{n m:Nat},Al n m=true→n=m
 | 0,0,_=>rfl
 | n+1,m+1,h=>congrArg (·+1) (pC (by simpa[Al] using h))
 | 0,m+1,h=>by simp[Al] at h
 | n+1,0,h=>by simp[Al] at h
def DH:List D→Nat
 | []=>0
 | _::as=>DH as+1
theorem CB:∀(l:List D),DH l=l.length
 | []=>rfl
 | _::as=>by simp[DH,CB as]
theorem IE{n:Nat}{l:List D}(h:qc n (DH l)=true):n≤l.length:=by
 have:=eK h
 rwa [CB] at this
theorem OQ{n:Nat}{l:List D}(h:Al (DH l) n=true):l.length=n:=by
 have:=pC h
 rwa [CB] at this
def ff:List (Option En)→Nat
 | []=>0
 | _::as=>ff as+1
theorem gF:∀(l:List (Option En)),ff l=l.length
 | []=>rfl
 | _::as=>by simp[ff,gF as]
def oG:List PV→Nat
 | []=>0
 | _::as=>oG as+1
theorem iI:∀(l:List PV),oG l=l.length
 | []=>rfl
 | _::as=>by simp[oG,iI as]
def G.new(g:G):Nat:=ff g.st
theorem G.fk(g:G):g.at g.new=none:=yz (by unfold G.new;rw[gF];exact Nat.le_refl _)
def tk:Nat→List PV→List PV
 | 0,_=>[]
 | _+1,[]=>[]
 | n+1,a::as=>a::tk n as
theorem A7:∀(n:Nat)(l:List PV),tk n l=l.take n
 | 0,l=>by simp[tk]
 | n+1,[]=>by simp[tk]
 | n+1,a::as=>by simp[tk,A7 n as]
def dr:Nat→List PV→List PV
 | 0,l=>l
 | _+1,[]=>[]
 | n+1,_::as=>dr n as
theorem Bw:∀(n:Nat)(l:List PV),dr n l=l.drop n
 | 0,l=>by simp[dr]
 | n+1,[]=>by simp[dr]
 | n+1,a::as=>by simp[dr,Bw n as]
def Hn:List PV→List PV→List PV
 | cs,[]=>cs
 | [],vs=>vs
 | _::cs,v::vs=>v::Hn cs vs
def Ga:List PV→Nat→List PV→List PV
 | cs,0,vs=>Hn cs vs
 | [],_+1,vs=>vs
 | c::cs,n+1,vs=>c::Ga cs n vs
theorem Jo:∀(cs vs:List PV),vs.length≤cs.length→Hn cs vs=vs++cs.drop vs.length
 | cs,[],_=>by cases cs<;>simp[Hn]
 | [],v::vs,h=>by simp at h
 | c::cs,v::vs,h=>by simp[Hn,Jo cs vs (by simpa using h)]
theorem CW:∀(cs:List PV)(n:Nat)(vs:List PV),n+vs.length≤cs.length→Ga cs n vs=rX cs n vs
 | cs,0,vs,h=>by
   rw[Nat.zero_add] at h
   have e:Ga cs 0 vs=Hn cs vs:=by cases cs<;>rfl
   rw[e,Jo cs vs h]
   simp[rX]
 | [],n+1,vs,h=>by simp at h
 | c::cs,n+1,vs,h=>by
   have:=CW cs n vs (by simp at h;omega)
   simp only[Ga,this,rX]
   rw[show n+1+vs.length=n+vs.length+1 by omega]
   simp
def Gh:List (Nat×Nat×Nat)→Nat→Option (Nat×Nat×Nat)
 | [],_=>none
 | a::_,0=>some a
 | _::as,n+1=>Gh as n
theorem DA:∀(l:List (Nat×Nat×Nat))(n:Nat),Gh l n=l[n]?
 | [],n=>by simp[Gh]
 | a::as,0=>rfl
 | a::as,n+1=>by simp[Gh,DA as n]
def JJ:List PV→Nat→Option PV
 | [],_=>none
 | a::_,0=>some a
 | _::as,n+1=>JJ as n
theorem I7:∀(l:List PV)(n:Nat),JJ l n=l[n]?
 | [],n=>by simp[JJ]
 | a::as,0=>rfl
 | a::as,n+1=>by simp[JJ,I7 as n]
def Sj:List (Nat×Nat×Nat)→List (Nat×Nat)
 | []=>[]
 | (_,o,s)::r=>(o,s)::Sj r
theorem MH:∀(l:List (Nat×Nat×Nat)),Sj l=l.map fun x=>(x.2.1,x.2.2)
 | []=>rfl
 | (a,o,s)::r=>by simp[Sj,MH r]
def Sn(g:G):List (Nat×Operand)→List (Nat×PV)
 | []=>[]
 | (i,x)::r=>(i,g.ev x)::Sn g r
theorem K7(g:G):∀(l:List (Nat×Operand)),Sn g l=l.map fun x=>(x.1,g.ev x.2)
 | []=>rfl
 | (i,x)::r=>by simp[Sn,K7 g r]
def RC(g:G):List (Nat×Operand)→List PV
 | []=>[]
 | (_,x)::r=>g.ev x::RC g r
theorem GU(g:G):∀(l:List (Nat×Operand)),RC g l=l.map fun x=>g.ev x.2
 | []=>rfl
 | (i,x)::r=>by simp[RC,GU g r]
def RU:List (Nat×Operand)→List Nat
 | []=>[]
 | (i,_)::r=>i::RU r
theorem HM:∀(l:List (Nat×Operand)),RU l=l.map (·.1)
 | []=>rfl
 | (i,x)::r=>by simp[RU,HM r]
def Rp:List (Nat×Operand)→List Nat
 | []=>[]
 | (_,x)::r=>ba x++Rp r
theorem Ck:∀(l:List (Nat×Operand)),Rp l=l.flatMap fun x=>ba x.2
 | []=>rfl
 | (i,x)::r=>by simp[Rp,Ck r]
def HB:List (Nat×Operand)→Nat
 | []=>0
 | _::r=>HB r+1
theorem BZ:∀(l:List (Nat×Operand)),HB l=l.length
 | []=>rfl
 | (i,x)::r=>by simp[HB,BZ r]
def KD:List (Nat×Nat)→Nat→Option (Nat×Nat)
 | [],_=>none
 | a::_,0=>some a
 | _::as,n+1=>KD as n
theorem Ip:∀(l:List (Nat×Nat))(n:Nat),KD l n=l[n]?
 | [],n=>by simp[KD]
 | a::as,0=>rfl
 | a::as,n+1=>by simp[KD,Ip as n]
def FU(places:List (Nat×Nat))(cs:List PV):List (Nat×PV)→Option (List PV)
 | []=>some cs
 | (i,p)::rest=>
   match KD places i with
   | none=>none
   | some (off,sz)=>match p.whole,Nat.beq (oG (bw p)) sz,qc (off+sz) (oG cs) with
     | true,true,true=>FU places (Ga cs off (bw p)) rest
     | _,_,_=>none
theorem IU:∀(rest:List (Nat×PV))(places:List (Nat×Nat))(cs r:List PV),FU places cs rest=some r→yl places cs rest=some r
 | [],_,_,_,h=>h
 | (i,p)::rest,places,cs,r,h=>by
   simp only[FU] at h
   simp only[yl]
   split at h
   ·cases h
   ·rename_i off sz hpl
    rw[Ip] at hpl
    rw[hpl]
    simp only
    split at h
    ·rename_i h1 h2 h3
     have h2:oG (bw p)=sz:=Nat.eq_of_beq_eq_true h2
     rw[iI] at h2
     have h3:=eK h3
     rw[iI] at h3
     rw[if_pos ⟨h1,h2,h3⟩]
     rw[CW _ _ _ (by omega)] at h
     exact IU rest places _ r h
    ·cases h
def i64(p:PV):Option Int:=match p with | .d (.val (.int .i64 n))=>some n|_=>none
def SQ(d:Nat)(R:Rd):BinOp→Int→Int→rq
 | .add,m,n=>.hJ (Jz (m+n)) R ⟨some (d,.d (.val (.int .i64 (m+n)))),[]⟩
 | .sub,m,n=>.hJ (Jz (m-n)) R ⟨some (d,.d (.val (.int .i64 (m-n)))),[]⟩
 | .mul,m,n=>.hJ (Jz (m*n)) R ⟨some (d,.d (.val (.int .i64 (m*n)))),[]⟩
 | .quo,m,n=>.hJ (n≠0∧Jz (m.tdiv n)) R ⟨some (d,.d (.val (.int .i64 (m.tdiv n)))),[]⟩
 | .rem,m,n=>.hJ (n≠0) R ⟨some (d,.d (.val (.int .i64 (m.tmod n)))),[]⟩
 | _,_,_=>.stop
def S1(d:Nat)(R:Rd):BinOp→Int→Int→rq
 | .eql,m,n=>.go R ⟨some (d,.d (.val (.bool (m == n)))),[]⟩
 | .neq,m,n=>.go R ⟨some (d,.d (.val (.bool (m != n)))),[]⟩
 | .lss,m,n=>.go R ⟨some (d,.d (.val (.bool (decide (m<n))))),[]⟩
 | .leq,m,n=>.go R ⟨some (d,.d (.val (.bool (decide (m≤n))))),[]⟩
 | .gtr,m,n=>.go R ⟨some (d,.d (.val (.bool (decide (m>n))))),[]⟩
 | .geq,m,n=>.go R ⟨some (d,.d (.val (.bool (decide (m≥n))))),[]⟩
 | _,_,_=>.stop
def PM:BinOp→Bool
 | .eql=>true
 | .neq=>true
 | .lss=>true
 | .leq=>true
 | .gtr=>true
 | .geq=>true
 | _=>false
def SW(d:Nat)(R:Rd):BinOp→List UInt8→List UInt8→rq
 | .add,l,m=>.hJ (l.length+m.length≤LB) R ⟨some (d,.d (.str (l++m))),[]⟩
 | .eql,l,m=>.go R ⟨some (d,.d (.val (.bool (l == m)))),[]⟩
 | .neq,l,m=>.go R ⟨some (d,.d (.val (.bool (!(l == m))))),[]⟩
 | .lss,l,m=>.go R ⟨some (d,.d (.val (.bool (Op.bytesLess l m)))),[]⟩
 | .leq,l,m=>.go R ⟨some (d,.d (.val (.bool (Op.bytesLess l m||l == m)))),[]⟩
 | .gtr,l,m=>.go R ⟨some (d,.d (.val (.bool (!(Op.bytesLess l m||l == m))))),[]⟩
 | .geq,l,m=>.go R ⟨some (d,.d (.val (.bool (!Op.bytesLess l m)))),[]⟩
 | _,_,_=>.stop
def KP:IntKind→IntKind→Bool
 | .i64,.i64=>true
 | .u8,.u8=>true
 | .u64,.u64=>true
 | .u32,.u32=>true
 | _,_=>false
theorem DE{a b:IntKind}(h:KP a b=true):a=b:=by cases a<;>cases b<;>first|rfl|(cases h;done)
def SE(E:Env)(g:G)(d:Nat)(b:BinOp)(t:TypeId)(x y:Operand):rq:=
 match g.ev x,g.ev y with
 | .d (.val (.int k m)),.d (.val (.int k' n))=>
   match KP k k' with
   | true=>match PM b with
     | true=>S1 d ⟨ba x++ba y,[]⟩ b m n
     | false=>match KP k .i64 with
       | true=>SQ d ⟨ba x++ba y,[]⟩ b m n
       | false=>.stop
   | false=>.stop
 | .d (.str l),.d (.str m)=>SW d ⟨ba x++ba y,[]⟩ b l m
 | .d (.val (.bool m)),.d (.val (.bool n))=>
   match E.ti t with
   | some ti=>match ti.ty,b with
     | .bool,.eql=>.go ⟨ba x++ba y,[]⟩ ⟨some (d,.d (.val (.bool (m == n)))),[]⟩
     | .bool,.neq=>.go ⟨ba x++ba y,[]⟩ ⟨some (d,.d (.val (.bool (!(m == n))))),[]⟩
     | _,_=>.stop
   | none=>.stop
 | _,_=>.stop
section
variable{E:Env}{g:G}{d:Nat}{ty:TypeId}{pos:String}{aft:Array Edge}{gd:Option (Nat×Bool)}{dn:Option Nat}
theorem QR(b:BinOp)(m n:Int)(t u:TypeId)(x y:Operand)(hx:g.ev x= .d (.val (.int .i64 m)))(hy:g.ev y= .d (.val (.int .i64 n))) :
 (SQ d ⟨ba x++ba y,[]⟩ b m n).Ok E.P ⟨some d,.binOp b t x y u,ty,pos,aft,gd⟩ g:=by
 cases b<;>first
  | exact fun h=>Q4 x y m n t u hx hy h
  | exact fun h=>Rr x y m n t u hx hy h
  | exact fun h=>Q2 x y m n t u hx hy h
  | exact fun h=>QD x y m n t u hx hy h.1 h.2
  | exact fun h=>QP x y m n t u hx hy h
  | exact trivial
theorem Q6(b:BinOp)(k:IntKind)(m n:Int)(t u:TypeId)(x y:Operand)(hx:g.ev x= .d (.val (.int k m)))(hy:g.ev y= .d (.val (.int k n))) :
 (S1 d ⟨ba x++ba y,[]⟩ b m n).Ok E.P ⟨some d,.binOp b t x y u,ty,pos,aft,gd⟩ g:=by
 cases b<;>first
  | exact NT _ x y k m n _ t u hx hy rfl
  | exact trivial
theorem QX(b:BinOp)(l m:List UInt8)(t u:TypeId)(x y:Operand)(hx:g.ev x= .d (.str l))(hy:g.ev y= .d (.str m)) :
 (SW d ⟨ba x++ba y,[]⟩ b l m).Ok E.P ⟨some d,.binOp b t x y u,ty,pos,aft,gd⟩ g:=by
 cases b<;>first
  | exact fun h=>QE x y l m t u hx hy h
  | exact Ps _ x y l m _ t u hx hy rfl
  | exact trivial
theorem Rq(b:BinOp)(t u:TypeId)(x y:Operand):(SE E g d b t x y).Ok E.P ⟨some d,.binOp b t x y u,ty,pos,aft,gd⟩ g:=by
 unfold SE
 split
 ·rename_i k m k' n hx hy
  split
  ·rename_i hk
   have hk:=DE hk
   subst hk
   split
   ·exact Q6 b _ m n t u x y hx hy
   ·split
    ·rename_i hk
     have hk:=DE hk
     subst hk
     exact QR b m n t u x y hx hy
    ·trivial
  ·trivial
 ·rename_i l m hx hy
  exact QX b l m t u x y hx hy
 ·rename_i m n hx hy
  split
  ·rename_i ti ht
   split
   ·rename_i hty
    exact QC x y m n t u ti ht hty hx hy
   ·rename_i hty
    exact QI x y m n t u ti ht hty hx hy
   ·trivial
  ·trivial
 ·trivial
end
end Go.Eng
namespace Go.Eng
open Go.RowKit
def T.pv:T→PV
 | .leaf d=>.d d
 | .ref j=>.acc j
 | .own _ _=>.any
def QF:List T→List PV
 | []=>[]
 | t::ts=>t.pv::QF ts
def ij(xs:List (List T))(i:Nat):List T:=xs.getD i []
def fl:List T→Bool
 | []=>true
 | .own _ _::_=>false
 | _::ts=>fl ts
def kS:List (List T)→Bool
 | []=>true
 | x::xs=>fl x&&kS xs
def SL:PV→Option T
 | .d x=>some (.leaf x)
 | .aK=>some (.leaf (.bx []))
 | .acc j=>some (.ref j)
 | _=>none
def uz:List PV→Option (List T)
 | []=>some []
 | p::ps=>match SL p,uz ps with|some x,some xs=>some (x::xs)|_,_=>none
def GM:List T→Nat
 | []=>0
 | _::as=>GM as+1
theorem xw:∀(l:List T),GM l=l.length
 | []=>rfl
 | _::as=>by simp[GM,xw as]
theorem K9{xs:List (List T)}{i:Nat}(h:i<xs.length):xs[i]?=some (ij xs i):=by simp[ij,List.getD,List.getElem?_eq_getElem h]
section
variable{P:Program}{w:World}{ok:Nat→Prop}{ν:Nat→Nm}{st:Nat→Option En}
theorem dU.pv{t:T}{v:Value}{F:List Nat}(h:dU P w ok ν st t v F):af w ok ν st t.pv v:=by
 cases t with
 | leaf d=>simp only[dU] at h;simp only[T.pv,af];exact h.1
 | ref j=>simp only[dU] at h;simp only[T.pv,af];exact⟨h.1,h.2.1⟩
 | own e xs=>simp only[T.pv,af]
theorem ar.pv:∀{ts:List T}{vs:List Value}{F:List Nat},ar P w ok ν st ts vs F→ae w ok ν st (QF ts) vs
 | [],[],_,_=>by simp[QF,ae]
 | [],_::_,_,h=>by simp[ar] at h
 | _::_,[],_,h=>by simp[ar] at h
 | t::ts,v::vs,F,h=>by
   simp only[ar] at h
   obtain⟨F1,F2,h1,h2,_⟩:=h
   simp only[QF,ae]
   exact⟨h1.pv,h2.pv⟩
theorem dU.one{t:T}{v:Value}{F:List Nat}(h:dU P w ok ν st t v F)(hν:∀k,(st k).isSome=true→(ν k).v.oneCell'=true):v.oneCell'=true:=by
 cases t with
 | leaf d=>simp only[dU] at h;exact h.1.one
 | ref j=>simp only[dU] at h;rw[h.2.1];exact hν j h.1
 | own e xs=>
   simp only[dU] at h
   obtain⟨us,F1,h1,_⟩:=h
   rcases h1.2 with⟨h2,_⟩|⟨b,c,cur,h2,_⟩<;>rw[h2]<;>rfl
theorem ar.one(hν:∀k,(st k).isSome=true→(ν k).v.oneCell'=true):∀{ts:List T}{vs:List Value}{F:List Nat},ar P w ok ν st ts vs F→∀v∈vs,v.oneCell'=true
 | [],[],_,_,v,hv=>by cases hv
 | [],_::_,_,h,_,_=>by simp[ar] at h
 | _::_,[],_,h,_,_=>by simp[ar] at h
 | t::ts,v::vs,F,h,u,hu=>by
   simp only[ar] at h
   obtain⟨F1,F2,h1,h2,_⟩:=h
   rcases List.mem_cons.1 hu with rfl|hu
   ·exact h1.one hν
   ·exact ar.one hν h2 u hu
theorem aA.one(hν:∀k,(st k).isSome=true→(ν k).v.oneCell'=true):∀{xs:List (List T)}{us:List (List Value)}{F:List Nat},aA P w ok ν st xs us F→∀u∈us,∀v∈u,v.oneCell'=true
 | [],[],_,_,v,hv=>by cases hv
 | [],_::_,_,h,_,_=>by simp[aA] at h
 | _::_,[],_,h,_,_=>by simp[aA] at h
 | t::ts,v::vs,F,h,u,hu=>by
   simp only[aA] at h
   obtain⟨F1,F2,h1,h2,_⟩:=h
   rcases List.mem_cons.1 hu with rfl|hu
   ·exact h1.one hν
   ·exact aA.one hν h2 u hu
theorem ar.len:∀{ts:List T}{vs:List Value}{F:List Nat},ar P w ok ν st ts vs F→vs.length=ts.length
 | [],[],_,_=>rfl
 | [],_::_,_,h=>by simp[ar] at h
 | _::_,[],_,h=>by simp[ar] at h
 | t::ts,v::vs,F,h=>by
   simp only[ar] at h
   obtain⟨F1,F2,_,h2,_⟩:=h
   simp[h2.len]
theorem aA.len:∀{ts:List (List T)}{vs:List (List Value)}{F:List Nat},aA P w ok ν st ts vs F→vs.length=ts.length
 | [],[],_,_=>rfl
 | [],_::_,_,h=>by simp[aA] at h
 | _::_,[],_,h=>by simp[aA] at h
 | t::ts,v::vs,F,h=>by
   simp only[aA] at h
   obtain⟨F1,F2,_,h2,_⟩:=h
   simp[h2.len]
theorem ar.append:∀{x y:List T}{u v:List Value}{F G:List Nat},ar P w ok ν st x u F→ar P w ok ν st y v G→ar P w ok ν st (x++y) (u++v) (F++G)
 | [],y,[],v,F,G,h,h'=>by simp only[ar] at h;subst h;simpa using h'
 | [],_,_::_,_,_,_,h,_=>by simp[ar] at h
 | _::_,_,[],_,_,_,h,_=>by simp[ar] at h
 | t::ts,y,a::u,v,F,G,h,h'=>by
   simp only[ar] at h
   obtain⟨F1,F2,h1,h2,rfl⟩:=h
   simp only[List.cons_append,ar]
   exact⟨F1,F2++G,h1,h2.append h',by rw[List.append_assoc]⟩
theorem aA.append:∀{x y:List (List T)}{u v:List (List Value)}{F G:List Nat},aA P w ok ν st x u F→aA P w ok ν st y v G→aA P w ok ν st (x++y) (u++v) (F++G)
 | [],y,[],v,F,G,h,h'=>by simp only[aA] at h;subst h;simpa using h'
 | [],_,_::_,_,_,_,h,_=>by simp[aA] at h
 | _::_,_,[],_,_,_,h,_=>by simp[aA] at h
 | t::ts,y,a::u,v,F,G,h,h'=>by
   simp only[aA] at h
   obtain⟨F1,F2,h1,h2,rfl⟩:=h
   simp only[List.cons_append,aA]
   exact⟨F1,F2++G,h1,h2.append h',by rw[List.append_assoc]⟩
theorem ar.split:∀(n:Nat){x:List T}{u:List Value}{F:List Nat},ar P w ok ν st x u F→∃F1 F2,ar P w ok ν st (x.take n) (u.take n) F1∧ar P w ok ν st (x.drop n) (u.drop n) F2∧F=F1++F2
 | 0,x,u,F,h=>⟨[],F,by simp[ar],by simpa using h,rfl⟩
 | n+1,[],[],F,h=>⟨[],F,by simp[ar],by simpa using h,rfl⟩
 | _+1,[],_::_,_,h=>by simp[ar] at h
 | _+1,_::_,[],_,h=>by simp[ar] at h
 | n+1,t::ts,a::u,F,h=>by
   simp only[ar] at h
   obtain⟨F1,F2,h1,h2,rfl⟩:=h
   obtain⟨G1,G2,k1,k2,rfl⟩:=ar.split n h2
   refine⟨F1++G1,G2,?_,by simpa using k2,by rw[List.append_assoc]⟩
   simp only[List.take_succ_cons,ar]
   exact⟨F1,G1,h1,k1,rfl⟩
theorem xI:∀{x:List T}{u:List Value}{F:List Nat},ar P w ok ν st x u F→fl x=true→F=[]
 | [],[],F,h,_=>by simpa only[ar] using h
 | [],_::_,_,h,_=>by simp[ar] at h
 | _::_,[],_,h,_=>by simp[ar] at h
 | t::ts,a::u,F,h,hn=>by
   simp only[ar] at h
   obtain⟨F1,F2,h1,h2,rfl⟩:=h
   cases t with
   | leaf d=>simp only[dU] at h1;simp only[fl] at hn;rw[h1.2,xI h2 hn];rfl
   | ref j=>simp only[dU] at h1;simp only[fl] at hn;rw[h1.2.2,xI h2 hn];rfl
   | own e xs=>simp[fl] at hn
theorem D1:∀{x:List (List T)}{u:List (List Value)}{F:List Nat},aA P w ok ν st x u F→kS x=true→F=[]
 | [],[],F,h,_=>by simpa only[aA] using h
 | [],_::_,_,h,_=>by simp[aA] at h
 | _::_,[],_,h,_=>by simp[aA] at h
 | t::ts,a::u,F,h,hn=>by
   simp only[aA] at h
   obtain⟨F1,F2,h1,h2,rfl⟩:=h
   simp only[kS,Bool.and_eq_true] at hn
   rw[xI h1 hn.1,D1 h2 hn.2]
   rfl
theorem aA.get:∀(i:Nat){xs:List (List T)}{us:List (List Value)}{F:List Nat},aA P w ok ν st xs us F→i<xs.length →
 ∃u G,us[i]?=some u∧ar P w ok ν st (ij xs i) u G∧∀(x':List T)(u':List Value),ar P w ok ν st x' u' G→aA P w ok ν st (xs.set i x') (us.set i u') F
 | _,[],_,_,_,hi=>by simp at hi
 | _,_::_,[],_,h,_=>by simp[aA] at h
 | 0,x::xs,u::us,F,h,_=>by
   simp only[aA] at h
   obtain⟨F1,F2,h1,h2,rfl⟩:=h
   refine⟨u,F1,rfl,h1,fun x' u' h'=>?_⟩
   simp only[List.set_cons_zero,aA]
   exact⟨F1,F2,h',h2,rfl⟩
 | i+1,x::xs,u::us,F,h,hi=>by
   simp only[aA] at h
   obtain⟨F1,F2,h1,h2,rfl⟩:=h
   obtain⟨u1,G,k1,k2,k3⟩:=aA.get i h2 (by simpa using hi)
   refine⟨u1,G,by simpa using k1,by simpa[ij] using k2,fun x' u' h'=>?_⟩
   simp only[List.set_cons_succ,aA]
   exact⟨F1,F2,h1,k3 x' u' h',rfl⟩
theorem Ec:∀{ps:List PV}{ts:List T},uz ps=some ts→ts.length=ps.length
 | [],ts,h=>by simp[uz] at h;simp[←h]
 | p::ps,ts,h=>by
   simp only[uz] at h
   split at h
   ·rename_i x xs h1 h2
    obtain rfl:=Option.some.inj h
    simp[Ec h2]
   ·cases h
theorem Dp:∀{ps:List PV}{ts:List T}{vs:List Value},ae w ok ν st ps vs→uz ps=some ts→ar P w ok ν st ts vs []
 | [],ts,[],_,h=>by simp only[uz,Option.some.injEq] at h;subst h;simp only[ar]
 | [],_,_::_,h,_=>by simp[ae] at h
 | _::_,_,[],h,_=>by simp[ae] at h
 | p::ps,ts,v::vs,h,ht=>by
   simp only[uz] at ht
   simp only[ae] at h
   split at ht
   ·rename_i x xs h1 h2
    obtain rfl:=Option.some.inj ht
    simp only[ar]
    refine⟨[],[],?_,Dp h.2 h2,rfl⟩
    have hp:=h.1
    cases p<;>simp only[SL] at h1<;>first|(cases h1;done)|skip
    ·obtain rfl:=Option.some.inj h1
     simp only[af] at hp
     subst hp
     simp only[dU,and_true]
     exact .nil
    ·obtain rfl:=Option.some.inj h1
     simp only[af] at hp
     simp only[dU,and_true]
     exact hp
    ·obtain rfl:=Option.some.inj h1
     simp only[af] at hp
     simp only[dU,and_true]
     exact hp
   ·cases ht
theorem DB:∀{xs:List (List D)}{us:List (List Value)}{sz:Nat},aL w ok sz xs us→aA P w ok ν st (lift xs) us []
 | [],us,sz,h=>by
   have:us=[]:=List.eq_nil_of_length_eq_zero h.len
   subst this
   simp only[lift,List.map_nil,aA]
 | x::xs,[],sz,h=>by have:=h.len;simp at this
 | x::xs,u::us,sz,h=>by
   have h1:∀(x:List D)(u:List Value),x.length=u.length→(∀(j:Nat)(d:D)(v:Value),x[j]?=some d→u[j]?=some v→cM w ok d v)→ar P w ok ν st (x.map T.leaf) u []:=by
    intro x
    induction x with
    | nil=>intro u hl _;cases u with
      | nil=>simp[ar]
      | cons a b=>simp at hl
    | cons d x ih=>intro u hl hr;cases u with
      | nil=>simp at hl
      | cons v u=>
        simp only[List.map_cons,ar,dU]
        exact⟨[],[],⟨hr 0 d v rfl rfl,rfl⟩,ih u (by simpa using hl) fun j d' v' k1 k2=>hr (j+1) d' v' (by simpa using k1) (by simpa using k2),rfl⟩
   have h2:aL w ok sz xs us:=⟨by simpa using h.len,fun i y hy=>h.hx (i+1) y (by simpa using hy),fun i y hy=>h.hu (i+1) y (by simpa using hy),fun i j y u d v k1 k2 k3 k4=>h.hr (i+1) j y u d v (by simpa using k1) (by simpa using k2) k3 k4⟩
   have:=DB h2
   simp only[lift,List.map_cons,aA] at this⊢
   exact⟨[],[],h1 x u (by rw[h.hx 0 x rfl,h.hu 0 u rfl]) fun j d v k1 k2=>h.hr 0 j x u d v rfl rfl k1 k2,this,rfl⟩
theorem oS{sz:Nat}{us:List (List Value)}(hu:∀(i:Nat)(u:List Value),us[i]?=some u→u.length=sz)(h1:∀u∈us,∀v∈u,v.oneCell'=true):aL w ok sz (us.map fun u=>u.map D.val) us:=by
 refine⟨by simp,fun i x hx=>?_,hu,fun i j x u d v k1 k2 k3 k4=>?_⟩
 ·rw[List.getElem?_map] at hx
  cases hq:us[i]? with
  | none=>rw[hq] at hx;cases hx
  | some u=>rw[hq] at hx;obtain rfl:=Option.some.inj hx;simp[hu i u hq]
 ·rw[List.getElem?_map,k2] at k1
  obtain rfl:=Option.some.inj k1
  rw[List.getElem?_map,k4] at k3
  obtain rfl:=Option.some.inj k3
  exact .val v (h1 u (List.mem_of_getElem? k2) v (List.mem_of_getElem? k4))
end
section
variable{P:Program}{X:Cx}{ν:Nat→Nm}{g:G}{a:Act}{w:World}
theorem nj(h:Sat P X ν g a w){k e:Nat}{xs:List (List T)}(hk:g.at k=some (.bM e xs)):∃us:List (List Value),w.ownsRow 0 e (P.cellsOf e) (ν k).v xs.length us.flatten ∧
 (∀(i:Nat)(u:List Value),us[i]?=some u→u.length=P.cellsOf e)∧aA P w (aN X ν g.at) ν g.at xs us (ν k).f∧xs.length≤LB∧(hb (ν k).v++(ν k).f).Nodup:=by
 obtain⟨h1,h2⟩:=h.en k _ hk
 simp only[dU] at h1
 obtain⟨us,F1,k1,k2,k3,k4,k5⟩:=h1
 have:F1=(ν k).f:=(List.append_cancel_left k5).symm
 exact⟨us,k1,k2,this▸k3,k4,h2⟩
theorem r7{ok:Nat→Prop}{st:Nat→Option En}{k e:Nat}{xs:List (List T)}{us:List (List Value)}(h1:w.ownsRow 0 e (P.cellsOf e) (ν k).v xs.length us.flatten)
 (h2:∀(i:Nat)(u:List Value),us[i]?=some u→u.length=P.cellsOf e) (h3:aA P w ok ν st xs us (ν k).f) (h4:xs.length≤LB) (h5:(hb (ν k).v++(ν k).f).Nodup):eP P w ok ν st k (.bM e xs):=by
 refine⟨?_,h5⟩
 simp only[dU]
 exact⟨us,(ν k).f,h1,h2,h3,h4,rfl⟩
theorem J8(h:Sat P X ν g a w){k e:Nat}{xs:List (List T)}(hk:g.at k=some (.bM e xs)):∃b c,(ν k).v= .slice b xs.length c:=by
 obtain⟨us,ho,_⟩:=nj h hk
 rcases ho.2 with⟨h1,h2⟩|⟨b,cap,cur,h1,_⟩
 ·exact⟨none,0,by rw[h1,h2]⟩
 ·exact⟨_,cap,h1⟩
theorem iP:∀(l:List (Option En))(k:Nat)(x y:Option En),aX (aX l k x) k y=aX l k y
 | [],0,_,_=>rfl
 | [],n+1,x,y=>by simp[aX,iP [] n x y]
 | _::_,0,_,_=>rfl
 | a::as,n+1,x,y=>by simp[aX,iP as n x y]
theorem Sat.lift(h:Sat P X ν g a w){k e:Nat}{xs:List (List D)}(hk:g.at k=some (.acc e xs)):Sat P X ν ⟨g.sl,aX g.st k (some (.bM e (lift xs)))⟩ a w:=by
 have:=h.uj (w':=w) k (.acc e xs) (.bM e (Eng.lift xs)) hk rfl (kG.refl _ w) none .undef Go.undef ?_ (fun h=>by cases h)
 ·exact this
 ·intro hw hm
  obtain⟨us,ho,hrr,hB,hf0⟩:=h.en k _ hk
  have hl:(Eng.lift xs).length=xs.length:=by simp[Eng.lift]
  refine r7 (us:=us) (by rw[hl];exact ho) (fun i u hu=>hrr.hu i u hu) ?_ (by rw[hl];exact hB) ?_
  ·rw[hf0]
   exact DB (hrr.frame hw (Nat.le_refl _))
  ·rw[hf0,List.append_nil]
   unfold hb
   split<;>simp
end
end Go.Eng
namespace Go.Eng
open Go.RowKit
section
variable{E:Env}{g:G}{d:Nat}{ty:TypeId}{pos:String}{aft:Array Edge}{gd:Option (Nat×Bool)}{dn:Option Nat}
theorem Er(x:Operand)(t k i off sz e:Nat)(ti ei:TI)(xs:List (List T))(ht:E.ti t=some ti)(he:E.ti e=some ei)(hsz:sz=ei.n)(hx:g.ev x= .cC k i off sz)(hk:g.at k=some (.bM e xs))
 (hi:i<xs.length) (hl:off+ti.n≤(ij xs i).length) :
 dX E.P ⟨some d,.load t x,ty,pos,aft,gd⟩ g ⟨ba x,[k]⟩ ⟨some (d,Jb ti.isAgg (((QF (ij xs i)).drop off).take ti.n)),[]⟩:=by
 intro g2 hg
 have h1:=hg.ev (x:=x) (fun t h=>h)
 have h3:=(hg.p k (by simp)).trans hk
 refine wO.val rfl fun X ν a w hs=>?_
 have hv:=hs.ev x
 rw[h1,hx] at hv
 simp only[af] at hv
 obtain⟨_,b,n,c,hb,hv⟩:=hv
 obtain⟨us,ho,hul,hr,_⟩:=nj hs h3
 have hcell:=jd ho hb
 rw[(E.ok e ei he).cells] at hul
 obtain⟨u,G,hu,hc,_⟩:=hr.get i hi
 have hrep:=hc.pv
 have hlenu:=hc.len
 have hrep':=(hrep.drop off).take ti.n
 have hlen:((u.drop off).take ti.n).length=ti.n:=by simp;omega
 have hca:dF w b (i*ei.n+off) ((u.drop off).take ti.n):=by
  have h0:=hcell.sub (us':=(u.drop off).take ti.n) (i*ei.n+off) (fun j x hx=>by
   rw[List.getElem?_take] at hx
   split at hx
   ·rw[List.getElem?_drop] at hx
    have:=tK us i (off+j) u x hul hu hx
    rw[Nat.add_assoc];exact this
   ·cases hx)
  simpa using h0
 subst hsz
 obtain⟨v,hrun,hvv⟩:=jt (E.ok t ti ht) w b _ _ hlen hca
 refine⟨v,?_,pZ hrep' hvv⟩
 simp only[execOp,hv,Instr.loadAt,Instr.sureAddr,Sem.run_bind,Sem.run_pure,Result.andThen_ok,hrun]
theorem GI(x y:Operand)(s:Nat)(si ei:TI)(e k:Nat)(xs:List (List T))(n:Int)(hs:E.ti s=some si)(hsy:si.ty= .slice e)(he:E.ti e=some ei)(hx:g.ev x= .acc k)(hk:g.at k=some (.bM e xs))(hy:g.ev y= .d (.val (.int .i64 n)))
 (h0:0≤n) (hlt:n.toNat<xs.length) :
 dX E.P ⟨some d,.indexAddr s x y,ty,pos,aft,gd⟩ g ⟨ba x++ba y,[k]⟩ ⟨some (d,.cC k n.toNat 0 ei.n),[]⟩:=by
 intro g2 hg
 have h1:=hg.ev (x:=x) (fun t h=>by simp[h])
 have h2:=hg.ev (x:=y) (fun t h=>by simp[h])
 have h3:=(hg.p k (by simp)).trans hk
 refine wO.val rfl fun X ν a w hs'=>?_
 have hu:=(E.ok s si hs).ty
 rw[hsy] at hu
 have hv:=hs'.ev x
 rw[h1,hx] at hv
 have hv2:=hs'.ev y
 rw[h2,hy] at hv2
 have hv2:=bW hv2
 simp only[af] at hv⊢
 obtain⟨us,ho,_⟩:=nj hs' h3
 rcases ho.2 with⟨_,hn⟩|⟨b,cap,cur,hb,_⟩
 ·omega
 ·have hlt':n<(xs.length:Int):=by omega
  refine⟨.pointer (some ⟨b,n.toNat*ei.n,none⟩),?_,by rw[h3];rfl,b,xs.length,cap,hb,rfl⟩
  simp[execOp,hv.2,hb,hv2,Instr.indexAt,asIntOf,run_underlying hu,h0,hlt',(E.ok e ei he).size,add_lit]
theorem Gi(x:Operand)(s:Nat)(si:TI)(e' e k:Nat)(xs:List (List T))(hs:E.ti s=some si)(hsy:si.ty= .slice e')(hx:g.ev x= .acc k)(hk:g.at k=some (.bM e xs)) :
 dX E.P ⟨some d,.call ⟨.builtin .len,#[x],#[s]⟩,ty,pos,aft,gd⟩ g ⟨ba x,[k]⟩ ⟨some (d,.d (.val (.int .i64 (xs.length:Int)))),[]⟩:=by
 intro g2 hg
 have h1:=hg.ev (x:=x) (fun t h=>h)
 have h3:=(hg.p k (by simp)).trans hk
 refine wO.val rfl fun X ν a w hs'=>?_
 have hu:=(E.ok s si hs).ty
 rw[hsy] at hu
 have hv:=hs'.ev x
 rw[h1,hx] at hv
 simp only[af] at hv
 obtain⟨b,c,hb⟩:=J8 hs' h3
 exact⟨_,oy rfl a w _ (by rw[hv.2,hb];exact run_len_slice hu _ _ _ _ _),iz rfl⟩
theorem tj(x y:Operand)(t k i off sz e:Nat)(ti ei:TI)(xs:List (List T))(p:PV)(cs:List T)(ht:E.ti t=some ti)(he:E.ti e=some ei)(hsz:sz=ei.n)(hx:g.ev x= .cC k i off sz)(hk:g.at k=some (.bM e xs))(hy:g.ev y=p)
 (hi:i<xs.length) (hl:off+ti.n≤ei.n) (hp:p.whole=true) (hn:(bw p).length=ti.n) (hcs:uz (bw p)=some cs) (hno:fl (((ij xs i).drop off).take ti.n)=true) :
 dX E.P ⟨dn,.store t x y,ty,pos,aft,gd⟩ g ⟨ba x++ba y++dn.toList,[k]⟩ ⟨dn.map fun d=>(d,.undef),[(k,.bM e (xs.set i (mg (ij xs i) off cs)))]⟩:=by
 intro g2 hg
 have e1:=hg.ev (x:=x) (fun t h=>by simp[h])
 have e2:=hg.ev (x:=y) (fun t h=>by simp[h])
 have h3:=(hg.p k (by simp)).trans hk
 intro X ν a w next Q hs hnx
 have hv:=hs.ev x
 rw[e1,hx] at hv
 have hw:=hs.ev y
 rw[e2,hy] at hw
 simp only[af] at hv
 obtain⟨_,b,n,c,hb,hv⟩:=hv
 obtain⟨us,ho,hul,hrr,hB,hnd⟩:=nj hs h3
 have hcells:=hw.cells hp hs.nu
 have hlen:=hcells.length
 have htc:=Dp (P:=E.P) hcells hcs
 rw[(E.ok e ei he).cells] at hul ho
 subst hsz
 rcases ho.2 with⟨h1,h2⟩|⟨b',cap,cur,h1,_,h2,h4,h5,h6,h7⟩
 ·omega
 ·rw[h1] at hb
  obtain⟨rfl,rfl,rfl⟩:b'=b∧xs.length=n∧cap=c:=by simpa using hb
  have hull:us.length=xs.length:=hrr.len
  have hfl:=(oS (w:=w) (ok:=fun _=>True) hul (hrr.one hs.nu)).ew
  rw[List.length_map] at hfl
  have hmulle:(i+1)*ei.n≤xs.length*ei.n:=Nat.mul_le_mul_right _ hi
  have hmulle2:xs.length*ei.n≤cap*ei.n:=Nat.mul_le_mul_right _ h4
  have hadd:(i+1)*ei.n=i*ei.n+ei.n:=by rw[Nat.add_mul];omega
  have hone:∀u∈(a.eval y).cells.toList,u.oneCell'=true:=htc.one hs.nu
  have hvl:(a.eval y).cells.toList.length=ti.n:=by rw[hlen,hn]
  have hrun:=n8 (E.ok t ti ht) w b' (i*ei.n+off) e cur (a.eval y) h2 hvl (by omega) hone
  have hr:(execOp a.eval ⟨dn,.store t x y,ty,pos,aft,gd⟩).run E.P w= .ok .skip (w.setRow b' (cur.toList.take (i*ei.n+off)++(a.eval y).cells.toList++cur.toList.drop (i*ei.n+off+(a.eval y).cells.toList.length)).toArray):=by
   simp only[execOp,hv,Instr.storeAt,Instr.sureAddr,Sem.run_bind,Sem.run_pure,Result.andThen_ok,hrun]
  have hcur:cur.toList=us.flatten++cur.toList.drop (xs.length*ei.n):=by rw[←h7];exact(List.take_append_drop _ _).symm
  have hnew:cur.toList.take (i*ei.n+off)++(a.eval y).cells.toList++cur.toList.drop (i*ei.n+off+(a.eval y).cells.toList.length)=(us.set i (mg (us.getD i []) off (a.eval y).cells.toList)).flatten++cur.toList.drop (xs.length*ei.n):=by
   have:=zf us i off (a.eval y).cells.toList (cur.toList.drop (xs.length*ei.n)) hul (by omega) (by omega)
   rw[←hcur] at this
   rw[←this,List.append_assoc]
   rfl
  obtain⟨u,G,hu,hc,hset⟩:=hrr.get i hi
  have hug:us.getD i []=u:=by simp[List.getD,hu]
  have huil:=hul i u hu
  have hxil:(ij xs i).length=ei.n:=by rw[←hc.len];exact huil
  have hcsl:cs.length=ti.n:=by rw[Ec hcs,hn]
  obtain⟨G1,G2,c1,c2,rfl⟩:=hc.split off
  obtain⟨G3,G4,c3,c4,rfl⟩:=c2.split ti.n
  have hG3:G3=[]:=xI c3 hno
  subst hG3
  have hrow:=hset (mg (ij xs i) off cs) (mg u off (a.eval y).cells.toList) (by
   unfold mg
   refine c1.append ?_
   refine htc.append ?_
   rw[List.drop_drop,List.drop_drop] at c4
   rw[hcsl,hvl]
   exact c4)
  rw[←hug] at hrow
  have hul':∀(j:Nat)(z:List Value),(us.set i (mg (us.getD i []) off (a.eval y).cells.toList))[j]?=some z→z.length=ei.n:=by
   intro j z hz
   rw[List.getElem?_set] at hz
   by_cases hij:i=j
   ·subst hij
    rw[if_pos rfl,if_pos (by omega)] at hz
    obtain rfl:=Option.some.inj hz
    rw[hug,Dq _ _ _ (by rw[huil,hvl];exact hl),huil]
   ·rw[if_neg hij] at hz
    exact hul j z hz
  have hf2:=(oS (w:=w) (ok:=fun _=>True) hul' (hrow.one hs.nu)).ew
  rw[List.length_map,List.length_set] at hf2
  have hbF:∀b∈(ν k).f,b≠b':=by
   intro b hbf hbe
   rw[h1] at hnd
   exact(List.nodup_append.1 hnd).2.2 b' (uB.2 rfl) b hbf hbe.symm
  unfold Oper.wp
  rw[hr,Oper.upon_skip,hnew]
  refine hnx _ _ _ (hs.uj k (.bM e xs) (.bM e (xs.set i (mg (ij xs i) off cs))) h3 rfl (dW w b' _ _ (.inl (by rw[h1];rfl))) dn .undef Go.undef ?_ ?_)
  ·intro hwf hm
   refine r7 (us:=us.set i (mg (us.getD i []) off (a.eval y).cells.toList)) ?_ ?_ ?_ (by simpa using hB) hnd
   ·rw[(E.ok e ei he).cells,h1]
    rw[hull] at hfl hf2
    refine⟨by rw[hf2,List.length_set],.inr ⟨b',cap,_,by simp,Nat.zero_le _,setRow_heap w b' _ _ e _ h2,by simpa using h4,h5,?_,?_⟩⟩
    ·simp only[List.size_toArray,List.length_append,hf2,List.length_drop,Array.length_toList,h6]
     omega
    ·rw[List.length_set,List.take_append_of_le_length (by rw[hf2];exact Nat.le_refl _),List.take_of_length_le (by rw[hf2];exact Nat.le_refl _)]
   ·rw[(E.ok e ei he).cells];exact hul'
   ·refine hrow.frame hwf (by simp[World.setRow]) hm _ _ _ fun b hb=>?_
    have hne:=hbF b hb
    exact(dW w b' _ (fun c=>c=b') rfl).block b (hrr.lt _ _ _ b hb) hne
  ·intro _
   simp only[af]
theorem r6:∀(x:List D),fl (x.map T.leaf)=true
 | []=>rfl
 | d::x=>by simp[fl,r6 x]
theorem Kd:∀{x:List T}(n m:Nat),fl x=true→fl ((x.drop n).take m)=true:=by
 have h1:∀(x:List T)(n:Nat),fl x=true→fl (x.drop n)=true:=by
  intro x
  induction x with
  | nil=>intro n h;simpa using h
  | cons t x ih=>
    intro n h
    cases n with
    | zero=>exact h
    | succ n=>
      cases t with
      | own e xs=>simp[fl] at h
      | leaf d=>exact ih n (by simpa[fl] using h)
      | ref d=>exact ih n (by simpa[fl] using h)
 have h2:∀(x:List T)(n:Nat),fl x=true→fl (x.take n)=true:=by
  intro x
  induction x with
  | nil=>intro n h;simpa using h
  | cons t x ih=>
    intro n h
    cases n with
    | zero=>rfl
    | succ n=>
      cases t with
      | own e xs=>simp[fl] at h
      | leaf d=>simpa[fl] using ih n (by simpa[fl] using h)
      | ref d=>simpa[fl] using ih n (by simpa[fl] using h)
 intro x n m h
 exact h2 _ m (h1 _ n h)
theorem NP(xs:List (List D))(i:Nat):ij (lift xs) i=(row xs i).map T.leaf:=by
 unfold ij lift row
 simp only[List.getD_eq_getElem?_getD,List.getElem?_map]
 cases xs[i]?<;>rfl
theorem we:∀(xs:List (List D)),kS (lift xs)=true
 | []=>rfl
 | x::xs=>by
   have:=we xs
   simp only[lift,List.map_cons,kS,Bool.and_eq_true] at this⊢
   exact⟨r6 x,this⟩
theorem Cg(x y:Operand)(t k i off sz e:Nat)(ti ei:TI)(xs:List (List D))(p:PV)(cs:List T)(ht:E.ti t=some ti)(he:E.ti e=some ei)(hsz:sz=ei.n)(hx:g.ev x= .cC k i off sz)(hk:g.at k=some (.acc e xs))(hy:g.ev y=p)
 (hi:i<xs.length) (hl:off+ti.n≤ei.n) (hp:p.whole=true) (hn:(bw p).length=ti.n) (hcs:uz (bw p)=some cs) :
 dX E.P ⟨dn,.store t x y,ty,pos,aft,gd⟩ g ⟨ba x++ba y++dn.toList,[k]⟩ ⟨dn.map fun d=>(d,.undef),[(k,.bM e ((lift xs).set i (mg (ij (lift xs) i) off cs)))]⟩:=by
 intro g2 hg X ν a w next Q hs hnx
 have e1:=hg.ev (x:=x) (fun t h=>by simp[h])
 have e2:=hg.ev (x:=y) (fun t h=>by simp[h])
 have h3:=(hg.p k (by simp)).trans hk
 have hs2:=hs.lift h3
 have hev:∀z,(⟨g2.sl,aX g2.st k (some (.bM e (lift xs)))⟩:G).ev z=g2.ev z:=fun z=>by cases z<;>rfl
 refine tj (g:=⟨g2.sl,aX g2.st k (some (.bM e (lift xs)))⟩) x y t k i off sz e ti ei (lift xs) p cs ht he hsz (by rw[hev,e1];exact hx) ?_ (by rw[hev,e2];exact hy) (by rw[kD];exact hi) hl hp hn hcs ?_ _ ⟨fun _ _=>rfl,fun _ _=>rfl⟩ X ν a w next Q hs2 ?_
 ·rw[nL,if_pos rfl]
 ·rw[NP]
  exact Kd _ _ (r6 _)
 ·intro ν' a' w' h
  refine hnx ν' a' w' ?_
  simpa only[G.app,pV,iP] using h
end
end Go.Eng
namespace Go.Eng
open Go.RowKit
section
variable{E:Env}{g:G}{d:Nat}{ty:TypeId}{pos:String}{aft:Array Edge}{gd:Option (Nat×Bool)}{dn:Option Nat}
def Dj(E:Env)(sz:Nat)(g:G)(p:PV)(ys:List (List T)):Prop:=
 (∃ys',ow E sz g p ys'∧ys=lift ys')∨(∃m e ei,p= .acc m∧g.at m=some (.bM e ys)∧E.ti e=some ei∧ei.n=sz∧kS ys=true)
theorem Dj.agree{R:Rd}{g g2:G}(h:sR R g g2){sz:Nat}{p:PV}{ys:List (List T)}(hp:∀k∈qq p,k∈R.p)(ha:Dj E sz g p ys):Dj E sz g2 p ys:=by
 rcases ha with⟨ys',h1,h2⟩|⟨m,e,ei,rfl,hk,he,hz⟩
 ·exact .inl ⟨ys',h1.agree h hp,h2⟩
 ·exact .inr ⟨m,e,ei,rfl,(h.p m (hp m (by simp[qq]))).trans hk,he,hz⟩
theorem yp{X:Cx}{ν:Nat→Nm}{g:G}{a:Act}{w:World}{sz:Nat}{p:PV}{ys:List (List T)}{v:Value}(h:Sat E.P X ν g a w)(ha:Dj E sz g p ys)(hv:af w (aN X ν g.at) ν g.at p v) :
 ∃vs:List (List Value),aA E.P w (aN X ν g.at) ν g.at ys vs []∧(∀(i:Nat)(u:List Value),vs[i]?=some u→u.length=sz)∧qg w v vs∧ys.length≤LB:=by
 rcases ha with⟨ys',h1,rfl⟩|⟨m,e,ei,rfl,hk,he,hz,hn⟩
 ·obtain⟨vs,h2,h3,h4⟩:=nH (P0:=E.P) h h1 hv
  exact⟨vs,DB h2,h2.hu,h3,by rw[kD];exact h4⟩
 ·simp only[af] at hv
  obtain⟨us,ho,hul,hrr,hB,hnd⟩:=nj h hk
  have hf:=D1 hrr hn
  rw[hf] at hrr
  refine⟨us,hrr,fun i u hu=>by rw[←hz,← (E.ok e ei he).cells];exact hul i u hu,?_,hB⟩
  rw[hv.2]
  have hl:=hrr.len
  rcases ho.2 with⟨h1,h2⟩|⟨b,cap,cur,h1,_⟩
  ·left
   refine⟨⟨none,0,h1⟩,List.eq_nil_of_length_eq_zero (by rw[hl];exact h2)⟩
  ·right
   exact⟨b,0,cap,by rw[h1,hl],jd ho h1⟩
theorem zA{v:Value}{F:List Nat}(hF:F.Nodup)(h:∀b,oq v=some b→b∉F):(hb v++F).Nodup:=by
 unfold hb
 cases hv:oq v with
 | none=>simpa using hF
 | some b=>simpa using ⟨h b hv,hF⟩
theorem row_one{w:World}{e sz n:Nat}{v:Value}{us:List Value}(h:w.ownsRow 0 e sz v n us):v.oneCell'=true:=by
 rcases h.2 with⟨h,_⟩|⟨b,c,cur,h,_⟩<;>rw[h]<;>rfl
theorem yL(s x:Operand)(t e k':Nat)(ti ei:TI)(p:PV)(ys:List (List T))(ht:E.ti t=some ti)(hty:ti.ty= .slice e)(he:E.ti e=some ei)(hs:g.ev s= .aK)(hx:g.ev x=p)(ha:Dj E ei.n g p ys)(hk':g.at k'=none)
 (hlb:ys.length≤LB) (hby:ys.length*ei.bytes≤140737488355328) :
 dX E.P ⟨some d,.call ⟨.builtin .append,#[s,x],#[t,t]⟩,ty,pos,aft,gd⟩ g ⟨ba s++ba x,k'::qq p⟩ ⟨some (d,.acc k'),[(k',.bM e ys)]⟩:=by
 intro g2 hg
 have e1:=hg.ev (x:=s) (fun t h=>by simp[h])
 have e2:=hg.ev (x:=x) (fun t h=>by simp[h])
 have h3:=(hg.p k' (by simp)).trans hk'
 have ha2:=ha.agree hg (fun k h=>by simp[h])
 intro X ν a w next Q hsat hn
 have hv:=hsat.ev s
 rw[e1,hs] at hv
 have hv2:=hsat.ev x
 rw[e2,hx] at hv2
 simp only[af] at hv
 obtain⟨vs,htr,hul,hsl,_⟩:=yp hsat ha2 hv2
 have hraw:=oS (w:=w) (ok:=fun _=>True) hul (htr.one hsat.nu)
 have hl:=htr.len
 obtain⟨v',w',k1,k2,k3,k4⟩:=iC ht hty he w ty (.slice none 0 0) (a.eval x) 0 [] _ vs _ (World.ownsRow_nil w 0 e ei.n) hraw hsl (by simpa[hl] using hlb) (by simpa[hl] using hby)
 have hr:=lY (E:=E) (o:=⟨some d,.call ⟨.builtin .append,#[s,x],#[t,t]⟩,ty,pos,aft,gd⟩) rfl a w w' v' (by rw[hv];exact k1)
 unfold Oper.wp
 rw[hr,Oper.upon_value]
 simp only[Nat.zero_add,List.nil_append,List.length_map,hl] at k2
 refine hn _ _ _ (hsat.oX (k3.mono fun b hb _=>by simp[oq] at hb) k' h3 (.bM e ys) ⟨v',[]⟩ (row_one k2) (fun b hb=>(k4 b ((dS rfl).1 hb)).resolve_left (by simp[oq])) d _ _ ?_ ?_)
 ·intro ok st ν' hν hw hm
  refine r7 (us:=vs) (by rw[hν,(E.ok e ei he).cells];exact k2) (by rw[(E.ok e ei he).cells];exact hul) ?_ hlb (by rw[hν];exact zA List.nodup_nil (by simp))
  rw[hν]
  exact htr.frame hw k3.size hm _ _ _ (by simp)
 ·intro ok st ν' hν hst hw hm
  simp only[af]
  exact⟨by rw[hst];rfl,by rw[hν]⟩
theorem ld(s x:Operand)(t e k k':Nat)(ti ei:TI)(p:PV)(xs ys:List (List T))(ht:E.ti t=some ti)(hty:ti.ty= .slice e)(he:E.ti e=some ei)(hs:g.ev s= .acc k)(hk:g.at k=some (.bM e xs))(hx:g.ev x=p)(ha:Dj E ei.n g p ys)(hk':g.at k'=none)
 (hlb:xs.length+ys.length≤LB) (hby:(xs.length+ys.length)*ei.bytes≤140737488355328) :
 dX E.P ⟨some d,.call ⟨.builtin .append,#[s,x],#[t,t]⟩,ty,pos,aft,gd⟩ g ⟨ba s++ba x,k::k'::qq p⟩ ⟨some (d,.acc k'),[(k,.dead),(k',.bM e (xs++ys))]⟩:=by
 intro g2 hg
 have e1:=hg.ev (x:=s) (fun t h=>by simp[h])
 have e2:=hg.ev (x:=x) (fun t h=>by simp[h])
 have h2:=(hg.p k (by simp)).trans hk
 have h3:=(hg.p k' (by simp)).trans hk'
 have ha2:=ha.agree hg (fun k h=>by simp[h])
 intro X ν a w next Q hsat hn
 have hv:=hsat.ev s
 rw[e1,hs] at hv
 have hv2:=hsat.ev x
 rw[e2,hx] at hv2
 simp only[af] at hv
 obtain⟨vs,htr,hul,hsl,_⟩:=yp hsat ha2 hv2
 have hraw:=oS (w:=w) (ok:=fun _=>True) hul (htr.one hsat.nu)
 have hl:=htr.len
 obtain⟨us,hown,huu,hru,hB,hnd⟩:=nj hsat h2
 rw[(E.ok e ei he).cells] at hown huu
 obtain⟨v',w',k1,k2,k3,k4⟩:=iC ht hty he w ty (ν k).v (a.eval x) xs.length us.flatten _ vs _ hown hraw hsl (by simpa[hl] using hlb) (by simpa[hl] using hby)
 have hr:=lY (E:=E) (o:=⟨some d,.call ⟨.builtin .append,#[s,x],#[t,t]⟩,ty,pos,aft,gd⟩) rfl a w w' v' (by rw[hv.2];exact k1)
 unfold Oper.wp
 rw[hr,Oper.upon_value]
 simp only[List.length_map,hl] at k2
 have hnd2:=List.nodup_append.1 hnd
 have hnb:∀b∈(ν k).f,oq (ν k).v≠some b:=fun b hb hc=>hnd2.2.2 b (uB.2 hc) b hb rfl
 have hlt:∀b∈(ν k).f,b<w.heap.size:=fun b hb=>hru.lt _ _ _ b hb
 refine hn _ _ _ (hsat.move (some k) (fun j hj=>⟨_,by obtain rfl:=Option.some.inj hj;exact h2,rfl⟩) (k3.mono fun b hb _=>⟨k,rfl,.inl hb⟩) k' h3 (.bM e (xs++ys)) ⟨v',(ν k).f⟩ (row_one k2)
  (fun b hb=>hb.elim (fun h=>(k4 b h).imp (fun h=>⟨k,rfl,.inl h⟩) id) fun h=>.inl ⟨k,rfl,.inr h⟩) d _ _ ?_ ?_)
 ·intro ok st ν' hν hw hm
  refine r7 (us:=us++vs) ?_ ?_ ?_ (by simpa using hlb) ?_
  ·rw[hν,(E.ok e ei he).cells,List.length_append,List.flatten_append];exact k2
  ·rw[(E.ok e ei he).cells]
   intro i u hu
   rcases Nat.lt_or_ge i us.length with hi|hi
   ·rw[List.getElem?_append_left hi] at hu;exact huu i u hu
   ·rw[List.getElem?_append_right hi] at hu;exact hul _ u hu
  ·rw[hν]
   have h1:=hru.frame hw k3.size hm _ _ _ fun b hb=>k3.block b (hlt b hb) (hnb b hb)
   have h2:=htr.frame hw k3.size hm _ _ _ (by simp)
   have:=h1.append h2
   rwa [List.append_nil] at this
  ·rw[hν]
   refine zA hnd2.2.1 fun b hb hm=>?_
   rcases k4 b hb with h|h
   ·exact hnb b hm h
   ·have:=hlt b hm;omega
 ·intro ok st ν' hν hst hw hm
  simp only[af]
  exact⟨by rw[hst];rfl,by rw[hν]⟩
theorem y8(s x:Operand)(t e k k':Nat)(ti ei:TI)(p:PV)(xs:List (List D))(ys:List (List T))(ht:E.ti t=some ti)(hty:ti.ty= .slice e)(he:E.ti e=some ei)(hs:g.ev s= .acc k)(hk:g.at k=some (.acc e xs))(hx:g.ev x=p)(ha:Dj E ei.n g p ys)(hk':g.at k'=none)
 (hlb:xs.length+ys.length≤LB) (hby:(xs.length+ys.length)*ei.bytes≤140737488355328) :
 dX E.P ⟨some d,.call ⟨.builtin .append,#[s,x],#[t,t]⟩,ty,pos,aft,gd⟩ g ⟨ba s++ba x,k::k'::qq p⟩ ⟨some (d,.acc k'),[(k,.dead),(k',.bM e (lift xs++ys))]⟩:=by
 intro g2 hg X ν a w next Q hs' hnx
 have e1:=hg.ev (x:=s) (fun t h=>by simp[h])
 have e2:=hg.ev (x:=x) (fun t h=>by simp[h])
 have h3:=(hg.p k (by simp)).trans hk
 have h4:=(hg.p k' (by simp)).trans hk'
 have ha2:=ha.agree hg (fun k h=>by simp[h])
 have hs2:=hs'.lift h3
 have hev:∀z,(⟨g2.sl,aX g2.st k (some (.bM e (lift xs)))⟩:G).ev z=g2.ev z:=fun z=>by cases z<;>rfl
 have hkk:k'≠k:=fun h=>by rw[h,h3] at h4;cases h4
 have ha3:Dj E ei.n ⟨g2.sl,aX g2.st k (some (.bM e (lift xs)))⟩ p ys:=by
  rcases ha2 with⟨ys',h1,rfl⟩|⟨m,e',ei',rfl,hm,he',hz,hn⟩
  ·by_cases hp:p= .acc k
   ·subst hp
    rcases h1 with⟨h,_⟩|⟨h,_⟩|⟨m,e',ei',h,hm,he',hz⟩|⟨_,_,h,_⟩
    ·cases h
    ·cases h
    ·obtain rfl:k=m:=by simpa using h
     rw[h3] at hm
     obtain⟨rfl,rfl⟩:e=e'∧xs=ys':=by simpa using hm
     exact .inr ⟨k,e,ei',rfl,by rw[nL,if_pos rfl],he',hz,we _⟩
    ·cases h
   ·refine .inl ⟨ys',?_,rfl⟩
    rcases h1 with h|h|⟨m,e',ei',h,hm,he',hz⟩|h
    ·exact .inl h
    ·exact .inr (.inl h)
    ·exact .inr (.inr (.inl ⟨m,e',ei',h,by rw[nL,if_neg (fun hc=>hp (by rw[h,hc]))];exact hm,he',hz⟩))
    ·exact .inr (.inr (.inr h))
  ·refine .inr ⟨m,e',ei',rfl,?_,he',hz,hn⟩
   rw[nL,if_neg (fun hc=>by rw[hc,h3] at hm;cases hm)]
   exact hm
 refine ld (g:=⟨g2.sl,aX g2.st k (some (.bM e (lift xs)))⟩) s x t e k k' ti ei p (lift xs) ys ht hty he (by rw[hev,e1];exact hs) (by rw[nL,if_pos rfl]) (by rw[hev,e2];exact hx) ha3 (by rw[nL,if_neg hkk];exact h4)
  (by rw[kD];exact hlb) (by rw[kD];exact hby) _ ⟨fun _ _=>rfl,fun _ _=>rfl⟩ X ν a w next Q hs2 ?_
 intro ν' a' w' h
 refine hnx ν' a' w' ?_
 simpa only[G.app,pV,iP] using h
def Au:List PV→Option (List (List T))
 | []=>some []
 | p::ps=>match p.whole,uz (bw p),Au ps with
   | true,some x,some xs=>some (x::xs)
   | _,_,_=>none
def pX(n:Nat):List (List T)→Bool
 | []=>true
 | x::xs=>Al (GM x) n&&pX n xs
theorem FE:∀{qs:List PV}{rows:List (List T)},Au qs=some rows→rows.length=qs.length
 | [],rows,h=>by simp[Au] at h;simp[←h]
 | q::qs,rows,h=>by
   simp only[Au] at h
   split at h
   ·rename_i h1 h2 h3
    obtain rfl:=Option.some.inj h
    simp[FE h3]
   ·cases h
def zG(v:Value):PV:=if(∀u∈v.cells.toList,u.oneCell'=true) then(if v.oneCell'=true then .d (.val v) else .agg (v.cells.toList.map fun u=>.d (.val u))) else .any
theorem PH{w:World}{ok:Nat→Prop}{ν:Nat→Nm}{st:Nat→Option En}:∀(cs:List Value),(∀u∈cs,u.oneCell'=true)→ae w ok ν st (cs.map fun u=>.d (.val u)) cs
 | [],_=>by simp[ae]
 | u::cs,h=>by
   simp only[List.map_cons,ae,af]
   exact⟨.val u (h u (by simp)),PH cs fun u hu=>h u (by simp[hu])⟩
theorem Em:∀(cs:List Value),rS (cs.map fun u=>.d (.val u))=some (cs.map D.val)
 | []=>rfl
 | u::cs=>by simp[rS,Sb,Em cs]
theorem OG{w:World}{ok:Nat→Prop}{ν:Nat→Nm}{st:Nat→Option En}(v:Value):af w ok ν st (zG v) v:=by
 unfold zG
 by_cases h:∀u∈v.cells.toList,u.oneCell'=true
 ·rw[if_pos h]
  by_cases h1:v.oneCell'=true
  ·rw[if_pos h1]
   simp only[af]
   exact .val v h1
  ·rw[if_neg h1]
   cases v with
   | agg cs=>simp only[af];exact⟨_,rfl,PH _ h⟩
   | _=>exact absurd (h _ (List.mem_singleton.2 rfl)) h1
 ·rw[if_neg h]
  simp only[af]
theorem Pd(v:Value)(h:∀u∈v.cells.toList,u.oneCell'=true):(zG v).whole=true∧rS (bw (zG v))=some (v.cells.toList.map D.val):=by
 unfold zG
 rw[if_pos h]
 by_cases h1:v.oneCell'=true
 ·rw[if_pos h1,td h1]
  exact⟨rfl,rfl⟩
 ·rw[if_neg h1]
  exact⟨rfl,Em _⟩
theorem EX(ρ:Operand→Value):∀(ps:List (Nat×Operand)),(∀x∈ps,∀u∈(ρ x.2).cells.toList,u.oneCell'=true)→rowsOf (ps.map fun x=>zG (ρ x.2))=some (ps.map fun x=>(ρ x.2).cells.toList.map D.val)
 | [],_=>rfl
 | x::ps,h=>by
   obtain⟨h1,h2⟩:=Pd (ρ x.2) (h x (by simp))
   simp only[List.map_cons,rowsOf]
   rw[if_pos h1,h2,EX ρ ps fun y hy=>h y (by simp[hy])]
theorem zy(ρ:Operand→Value)(n:Nat):∀(ps:List (Nat×Operand)),(∀x∈ps,(ρ x.2).cells.toList.length=n)→mD n (ps.map fun x=>(ρ x.2).cells.toList.map D.val)=true
 | [],_=>rfl
 | x::ps,h=>by
   have:=h x (by simp)
   simp only[List.map_cons,mD,Bool.and_eq_true,List.length_map,beq_iff_eq]
   exact⟨this,zy ρ n ps fun y hy=>h y (by simp[hy])⟩
theorem Qw{w:World}{ok:Nat→Prop}{sz:Nat}{vs us:List (List Value)}(hv:∀v∈vs,v.length=sz)(h:aL w ok sz (vs.map fun u=>u.map D.val) us):us=vs:=by
 have hl:=h.len
 rw[List.length_map] at hl
 refine List.ext_getElem hl fun i h1 h2=>?_
 have e1:(vs.map fun u=>u.map D.val)[i]?=some (vs[i].map D.val):=by simp[List.getElem?_eq_getElem h2]
 have e2:=List.getElem?_eq_getElem h1
 have l1:=h.hu i _ e2
 have l2:=hv _ (List.getElem_mem h2)
 refine List.ext_getElem (by rw[l1,l2]) fun j h3 h4=>?_
 exact(h.hr i j _ _ (.val vs[i][j]) _ e1 e2 (by simp[List.getElem?_eq_getElem h4]) (List.getElem?_eq_getElem h3)).xC
theorem Lq{t e:Nat}{ti ei:TI}(ht:E.ti t=some ti)(hty:ti.ty= .slice e)(he:E.ti e=some ei)(a:Act)(w:World)(ps:List (Nat×Operand))(hup:Aj 0 (ps.map (·.1))=true)
 (h1:∀x∈ps,∀u∈(a.eval x.2).cells.toList,u.oneCell'=true) (h2:∀x∈ps,(a.eval x.2).cells.toList.length=ei.n) (hbig:ps.length*ei.n≤16777216) {o:Oper} (ho:o.op= .buildSlice t ps.length ⟨ps⟩) :
 (execOp a.eval o).run E.P w= .ok (.value (.slice (some ⟨w.heap.size,0,none⟩) ps.length ps.length)) (w.alloc (.cells ⟨(ps.map fun x=>(a.eval x.2).cells.toList).flatten⟩ e)):=by
 obtain⟨i,z,k1,k2,k4,k5,k6,k7⟩:=(E.ok e ei he).info
 have hu:=(E.ok t ti ht).ty
 rw[hty] at hu
 have hpos:=(E.ok e ei he).pos
 have key:∀init:Array Value,init.size=ps.length*ei.n→Instr.fill (fun i=>some (i*ei.n,ei.n)) init (ps.map fun x=>(x.1,a.eval x.2))=some ⟨(ps.map fun x=>(a.eval x.2).cells.toList).flatten⟩:=by
  intro init hi
  obtain⟨us,m1,m2⟩:=vq (w:=w) (ok:=fun _=>True) (ν:=fun _=>⟨.bool false,[]⟩) (st:=fun _=>none) (fun _ h=>by cases h) ei.n (fun x=>zG (a.eval x)) a.eval (fun x=>OG _) ps 0 [] init _ hup (EX a.eval ps h1) (zy a.eval ei.n ps h2) (by simp) (by simp) (by simpa using hi)
  have e1:(ps.map fun x=>(a.eval x.2).cells.toList.map D.val)=(ps.map fun x=>(a.eval x.2).cells.toList).map fun u=>u.map D.val:=by simp
  rw[e1] at m2
  have:=Qw (by
   intro v hv
   obtain⟨x,hx,rfl⟩:=List.mem_map.1 hv
   exact h2 x hx) m2
  subst this
  simpa using m1
 by_cases hz:ps.length*ei.n=0
 ·have m1:=key ((Array.range 0).map fun _=>default) (by rw[Array.size_map,Array.size_range,hz])
  simp only[execOp,ho,List.map_toArray,Instr.buildSlice,Sem.run_bind,run_underlying hu,Result.andThen_ok,(E.ok e ei he).size w,hz]
  simp[m1,newRow]
 ·have m1:=key ((Array.range (ps.length*ei.n)).map (z.cells[· % z.cells.size]!)) (by simp)
  have hn:¬ps.length*ei.n>16777216:=by omega
  simp only[execOp,ho,List.map_toArray,Instr.buildSlice,Sem.run_bind,run_underlying hu,Result.andThen_ok,(E.ok e ei he).size w]
  simp[hn,hz,zeroValue,typeInfo,k1,k5,m1,newRow]
theorem IP{w:World}{ok:Nat→Prop}{ν:Nat→Nm}{st:Nat→Option En}(hν:∀k,(st k).isSome=true→(ν k).v.oneCell'=true)(ev:Operand→PV)(ρ:Operand→Value)(hev:∀x,af w ok ν st (ev x) (ρ x))(n:Nat) :
 ∀(ps:List (Nat×Operand))(rows:List (List T)),Au (ps.map fun x=>ev x.2)=some rows→pX n rows=true →
  aA E.P w ok ν st rows (ps.map fun x=>(ρ x.2).cells.toList) []∧(∀x∈ps,∀u∈(ρ x.2).cells.toList,u.oneCell'=true)∧(∀x∈ps,(ρ x.2).cells.toList.length=n)
 | [],rows,h,_=>by
   simp only[List.map_nil,Au,Option.some.injEq] at h
   subst h
   exact⟨by simp[aA],by simp,by simp⟩
 | x::ps,rows,h,hl=>by
   simp only[List.map_cons,Au] at h
   split at h
   ·rename_i row rows' h1 h2 h3
    obtain rfl:=Option.some.inj h
    simp only[pX,Bool.and_eq_true] at hl
    have hl1:=pC hl.1
    rw[xw] at hl1
    obtain⟨k1,k2,k3⟩:=IP hν ev ρ hev n ps rows' h3 hl.2
    have hc:=(hev x.2).cells h1 hν
    have ht:=Dp (P:=E.P) hc h2
    refine⟨?_,?_,?_⟩
    ·simp only[List.map_cons,aA]
     exact⟨[],[],ht,k1,rfl⟩
    ·intro y hy
     rcases List.mem_cons.1 hy with rfl|hy
     ·exact ht.one hν
     ·exact k2 y hy
    ·intro y hy
     rcases List.mem_cons.1 hy with rfl|hy
     ·rw[ht.len];exact hl1
     ·exact k3 y hy
   ·cases h
theorem Ho(t e n k:Nat)(ps:List (Nat×Operand))(ti ei:TI)(rows:List (List T))(ht:E.ti t=some ti)(hty:ti.ty= .slice e)(he:E.ti e=some ei)(hn:n=ps.length)(hup:Aj 0 (ps.map (·.1))=true)
 (hr:Au (ps.map fun x=>g.ev x.2)=some rows) (hlen:pX ei.n rows=true) (hbig:ps.length*ei.n≤16777216) (hk:g.at k=none) :
 dX E.P ⟨some d,.buildSlice t n ⟨ps⟩,ty,pos,aft,gd⟩ g ⟨ps.flatMap fun x=>ba x.2,[k]⟩ ⟨some (d,.acc k),[(k,.bM e rows)]⟩:=by
 subst hn
 intro g2 hg
 have hmap:ps.map (fun x=>g2.ev x.2)=ps.map (fun x=>g.ev x.2):=by
  apply List.map_congr_left
  intro x hx
  rw[hg.ev (x:=x.2) (fun t h=>List.mem_flatMap.2 ⟨x,hx,h⟩)]
 have h3:=(hg.p k (by simp)).trans hk
 rw[←hmap] at hr
 intro X ν a w next Q hs hnx
 obtain⟨htr,m1,m2⟩:=IP hs.nu g2.ev a.eval hs.ev ei.n ps rows hr hlen
 have hrun:=Lq ht hty he a w ps hup m1 m2 hbig (o:=⟨some d,.buildSlice t ps.length ⟨ps⟩,ty,pos,aft,gd⟩) rfl
 have hpos:=(E.ok e ei he).pos
 have hrl:=FE hr
 simp only[List.length_map] at hrl
 have hle:ps.length≤16777216:=Nat.le_trans (Nat.le_mul_of_pos_right _ hpos) hbig
 have hul:∀(i:Nat)(u:List Value),(ps.map fun x=>(a.eval x.2).cells.toList)[i]?=some u→u.length=ei.n:=by
  intro i u hu
  obtain⟨x,hx,rfl⟩:=List.mem_map.1 (List.mem_of_getElem? hu)
  exact m2 x hx
 have hfl:=(oS (w:=w) (ok:=fun _=>True) hul (htr.one hs.nu)).ew
 simp only[List.length_map] at hfl
 unfold Oper.wp
 rw[hrun,Oper.upon_value]
 have hrow:=World.ownsRow_lit w (e:=e) (⟨(ps.map fun x=>(a.eval x.2).cells.toList).flatten⟩:Array Value) rows.length (base:=0) (size:=ei.n) (Nat.zero_le _) (by simp only[maxLen];omega) (by rw[hrl];simpa using hfl)
 refine hnx _ _ _ (hs.oX (dx w _) k h3 (.bM e rows) ⟨.slice (some ⟨w.heap.size,0,none⟩) ps.length ps.length,[]⟩ rfl (fun b hb=>?_) d _ _ ?_ ?_)
 ·obtain rfl:w.heap.size=b:=by simpa[Nm.has,oq] using hb
  exact Nat.le_refl _
 ·intro ok st ν' hν hw hm
  refine r7 (us:=ps.map fun x=>(a.eval x.2).cells.toList) ?_ (by rw[(E.ok e ei he).cells];exact hul) ?_ (by unfold LB;omega) (by rw[hν];exact zA List.nodup_nil (by simp))
  ·rw[hν,(E.ok e ei he).cells,←hrl]
   exact hrow
  ·rw[hν]
   exact htr.frame hw (dx w _).size hm _ _ _ (by simp)
 ·intro ok st ν' hν hst hw hm
  simp only[af]
  exact⟨by rw[hst];rfl,by rw[hν]⟩
end
def PT:Nat→List T→List T
 | 0,_=>[]
 | _+1,[]=>[]
 | n+1,a::as=>a::PT n as
theorem Hh:∀(n:Nat)(l:List T),PT n l=l.take n
 | 0,l=>by simp[PT]
 | n+1,[]=>by simp[PT]
 | n+1,a::as=>by simp[PT,Hh n as]
def PX:Nat→List T→List T
 | 0,l=>l
 | _+1,[]=>[]
 | n+1,_::as=>PX n as
theorem GB:∀(n:Nat)(l:List T),PX n l=l.drop n
 | 0,l=>by simp[PX]
 | n+1,[]=>by simp[PX]
 | n+1,a::as=>by simp[PX,GB n as]
def Rz:List T→List T→List T
 | [],ys=>ys
 | x::xs,ys=>x::Rz xs ys
theorem L8:∀(xs ys:List T),Rz xs ys=xs++ys
 | [],ys=>rfl
 | x::xs,ys=>by simp[Rz,L8 xs ys]
def N5(cs:List T)(off:Nat)(vs:List T):List T:=Rz (PT off cs) (Rz vs (PX (off+GM vs) cs))
theorem OM(cs:List T)(off:Nat)(vs:List T):N5 cs off vs=mg cs off vs:=by
 simp only[N5,mg,L8,Hh,GB,xw]
end Go.Eng
namespace Go.Eng
open Go.RowKit
def B4(g:G)(d:Nat)(c x y:Operand):rq:=
 match g.ev c with
 | .d (.val (.bool true))=>.go ⟨ba c++ba x,[]⟩ ⟨some (d,g.ev x),[]⟩
 | .d (.val (.bool false))=>.go ⟨ba c++ba y,[]⟩ ⟨some (d,g.ev y),[]⟩
 | _=>.stop
def yI(E:Env)(g:G)(d:Nat)(t:TypeId):rq:=
 match E.ti t with
 | some ti=>.go ⟨[],[g.new]⟩ ⟨some (d,.ptr g.new 0),[(g.new,.box ti.zero)]⟩
 | none=>.stop
def Gg(g:G)(d:Nat)(x:Operand):rq:=
 match(g.ev x).whole with
 | true=>.go ⟨ba x,[g.new]⟩ ⟨some (d,.ptr g.new 0),[(g.new,.box (bw (g.ev x)))]⟩
 | false=>.stop
def xx(E:Env)(g:G)(d:Nat)(t:TypeId)(x:Operand):rq:=
 match E.ti t with
 | none=>.stop
 | some ti=>
   match g.ev x with
   | .ptr k off=>
     match g.at k with
     | some (.box cs)=>match qc (off+ti.n) (oG cs) with
       | true=>.go ⟨ba x,[k]⟩ ⟨some (d,Jb ti.isAgg (tk ti.n (dr off cs))),[]⟩
       | false=>.stop
     | _=>.stop
   | .cf xs i off=>.hJ (qc (off+ti.n) (DH (row xs i))=true) ⟨ba x,[]⟩ ⟨some (d,Jb ti.isAgg (tk ti.n (dr off (bn (row xs i))))),[]⟩
   | .cC k i off sz=>
     match g.at k with
     | some (.acc e xs)=>match E.ti e with
       | some ei=>.hJ (Al sz ei.n=true∧i<xs.length∧qc (off+ti.n) (DH (row xs i))=true) ⟨ba x,[k]⟩ ⟨some (d,Jb ti.isAgg (tk ti.n (dr off (bn (row xs i))))),[]⟩
       | none=>.stop
     | some (.bM e xs)=>match E.ti e with
       | some ei=>.hJ (Al sz ei.n=true∧i<xs.length∧qc (off+ti.n) (GM (ij xs i))=true) ⟨ba x,[k]⟩ ⟨some (d,Jb ti.isAgg (tk ti.n (dr off (QF (ij xs i))))),[]⟩
       | none=>.stop
     | _=>.stop
   | _=>.stop
def C7(E:Env)(g:G)(d:Nat)(s:TypeId)(x:Operand)(f:Nat):rq:=
 match E.ti s with
 | none=>.stop
 | some si=>match si.ty with
   | .struct fs=>match Gh fs f with
     | some (_,fo,_)=>match g.ev x with
       | .ptr k off=>.go ⟨ba x,[]⟩ ⟨some (d,.ptr k (off+fo)),[]⟩
       | .cf xs i off=>.go ⟨ba x,[]⟩ ⟨some (d,.cf xs i (off+fo)),[]⟩
       | .cC k i off sz=>.go ⟨ba x,[]⟩ ⟨some (d,.cC k i (off+fo) sz),[]⟩
       | _=>.stop
     | none=>.stop
   | _=>.stop
def tR(E:Env)(g:G)(d:Nat)(s:TypeId)(x:Operand)(f:Nat):rq:=
 match E.ti s with
 | none=>.stop
 | some si=>match si.ty with
   | .struct fs=>match Gh fs f with
     | some (ft,fo,_)=>match E.ti ft with
       | none=>.stop
       | some fi=>match g.ev x with
         | .agg cs=>match qc (fo+fi.n) (oG cs) with
           | true=>.go ⟨ba x,[]⟩ ⟨some (d,Jb fi.isAgg (tk fi.n (dr fo cs))),[]⟩
           | false=>.stop
         | _=>.stop
     | none=>.stop
   | _=>.stop
def xl(E:Env)(g:G)(d:Nat)(s:TypeId)(x y:Operand):rq:=
 match E.ti s with
 | none=>.stop
 | some si=>match g.ev y with
   | .d (.val (.int .i64 n))=>match si.ty with
     | .slice e=>match E.ti e with
       | none=>.stop
       | some ei=>match g.ev x with
         | .d (.bx xs)=>.hJ (0≤n∧n.toNat<xs.length∧Al (DH (row xs n.toNat)) ei.n=true) ⟨ba x++ba y,[]⟩ ⟨some (d,.cf xs n.toNat 0),[]⟩
         | .acc k=>match g.at k with
           | some (.acc e' xs)=>match Nat.beq e e' with
             | true=>.hJ (0≤n∧n.toNat<xs.length) ⟨ba x++ba y,[k]⟩ ⟨some (d,.cC k n.toNat 0 ei.n),[]⟩
             | false=>.stop
           | some (.bM e' xs)=>match Nat.beq e e' with
             | true=>.hJ (0≤n∧n.toNat<xs.length) ⟨ba x++ba y,[k]⟩ ⟨some (d,.cC k n.toNat 0 ei.n),[]⟩
             | false=>.stop
           | _=>.stop
         | _=>.stop
     | .arr len e=>match E.ti e with
       | none=>.stop
       | some ei=>match g.ev x with
         | .ptr k off=>.hJ (0≤n∧n.toNat<len) ⟨ba x++ba y,[]⟩ ⟨some (d,.ptr k (off+n.toNat*ei.n)),[]⟩
         | _=>.stop
     | _=>.stop
   | _=>.stop
def Ca(E:Env)(g:G)(d:Nat)(s:TypeId)(x y:Operand):rq:=
 match E.ti s with
 | none=>.stop
 | some si=>match g.ev y with
   | .d (.val (.int .i64 n))=>match si.ty with
     | .str=>match g.ev x with
       | .d (.str l)=>.hJ (0≤n∧n.toNat<l.length) ⟨ba x++ba y,[]⟩ ⟨some (d,.d (.val (.int .u8 ((l.getD n.toNat 0).toNat:Int)))),[]⟩
       | _=>.stop
     | _=>.stop
   | _=>.stop
def Jc(g:G)(d:Nat)(u:UnOp)(x:Operand):rq:=
 match u,g.ev x with
 | .not,.d (.val (.bool m))=>.go ⟨ba x,[]⟩ ⟨some (d,.d (.val (.bool (!m)))),[]⟩
 | .neg,.d (.val (.int .i64 m))=>.hJ (Jz (-m)) ⟨ba x,[]⟩ ⟨some (d,.d (.val (.int .i64 (-m)))),[]⟩
 | _,_=>.stop
def xB(E:Env)(g:G)(d:Nat)(s t:TypeId)(x:Operand):rq:=
 match E.ti s,E.ti t with
 | some si,some ti=>match si.ty,ti.ty,g.ev x with
   | .int k,.int k',.d (.val (.int k2 m))=>match KP k k2 with
     | true=>.go ⟨ba x,[]⟩ ⟨some (d,.d (.val (.int k' (k'.wrap m)))),[]⟩
     | false=>.stop
   | _,_,_=>.stop
 | _,_=>.stop
def sr(E:Env)(g:G)(d:Nat)(t:TypeId)(ps:List (Nat×Operand)):rq:=
 match E.ti t with
 | none=>.stop
 | some ti=>match ti.ty with
   | .struct fs=>match FU (Sj fs) ti.zero (Sn g ps) with
     | some r=>.go ⟨Rp ps,[]⟩ ⟨some (d,.agg r),[]⟩
     | none=>.stop
   | _=>.stop
def Dc(E:Env)(g:G)(d:Nat)(t:TypeId)(n:Nat)(ps:List (Nat×Operand)):rq:=
 match E.ti t with
 | none=>.stop
 | some ti=>match ti.ty with
   | .slice e=>match E.ti e with
     | none=>.stop
     | some ei=>match ps with
       | []=>match n with
         | 0=>.go ⟨[],[g.new]⟩ ⟨some (d,.acc g.new),[(g.new,.acc e [])]⟩
         | _=>.stop
       | p::ps=>match Nat.beq n (HB (p::ps)),Aj 0 (RU (p::ps)),rowsOf (RC g (p::ps)) with
         | true,true,some rows=>match mD ei.n rows,qc (HB (p::ps)) 64,qc ei.n 64 with
           | true,true,true=>.go ⟨Rp (p::ps),[]⟩ ⟨some (d,.d (.bx rows)),[]⟩
           | _,_,_=>.stop
         | true,true,none=>match Au (RC g (p::ps)) with
           | none=>.stop
           | some rows=>match pX ei.n rows,qc (HB (p::ps)) 64,qc ei.n 64 with
             | true,true,true=>.go ⟨Rp (p::ps),[g.new]⟩ ⟨some (d,.acc g.new),[(g.new,.bM e rows)]⟩
             | _,_,_=>.stop
         | _,_,_=>.stop
   | _=>.stop
def xz(E:Env)(g:G)(d:Nat)(t:TypeId)(l c:Operand):rq:=
 match E.ti t with
 | none=>.stop
 | some ti=>match ti.ty with
   | .slice e=>match E.ti e with
     | none=>.stop
     | some ei=>match rS ei.zero,g.ev l,g.ev c with
       | some z,.d (.val (.int .i64 n)),.d (.val (.int .i64 n'))=>.hJ (n'=n∧0≤n∧n.toNat≤LB∧ei.bytes*n.toNat≤281474976710656) ⟨ba l++ba c,[g.new]⟩ ⟨some (d,.acc g.new),[(g.new,.acc e (List.replicate n.toNat z))]⟩
       | _,_,_=>.stop
   | _=>.stop
def Rk(g:G)(dflt:Int):Option Operand→Option Int
 | none=>some dflt
 | some x=>match g.ev x with
   | .d (.val (.int _ i))=>some i
   | _=>none
theorem Ce{g:G}{d i:Int}{o:Option Operand}(h:Rk g d o=some i):OI g o d i:=by
 cases o with
 | none=>exact(Option.some.inj h).symm
 | some x=>
   simp only[Rk] at h
   split at h
   ·rename_i k j hj
    obtain rfl:=Option.some.inj h
    exact⟨k,hj⟩
   ·cases h
def C2(E:Env)(g:G)(d:Nat)(t:TypeId)(x:Operand)(lo hi mx:Option Operand):rq:=
 match mx,E.ti t with
 | none,some ti=>match ti.ty,g.ev x with
   | .slice e,.d (.bx xs)=>match E.ti e,Rk g 0 lo,Rk g xs.length hi with
     | some ei,some l,some h=>.hJ (0≤l∧l≤h∧h≤xs.length∧∀y∈xs,y.length=ei.n) ⟨ba x++(NQ lo++NQ hi),[]⟩ ⟨some (d,.d (.bx ((xs.drop l.toNat).take (h.toNat-l.toNat)))),[]⟩
     | _,_,_=>.stop
   | .str,.d (.str s)=>match Rk g 0 lo,Rk g s.length hi with
     | some l,some h=>.hJ (0≤l∧l≤h∧h≤s.length) ⟨ba x++(NQ lo++NQ hi),[]⟩ ⟨some (d,.d (.str ((s.drop l.toNat).take (h.toNat-l.toNat)))),[]⟩
     | _,_=>.stop
   | _,_=>.stop
 | _,_=>.stop
def Cu(g:G)(d:Nat)(x:Operand):rq:=
 match g.ev x with
 | .ptr k off=>.go ⟨ba x,[]⟩ ⟨some (d,.ptr k off),[]⟩
 | .cf xs i off=>.go ⟨ba x,[]⟩ ⟨some (d,.cf xs i off),[]⟩
 | .cC k i off sz=>.go ⟨ba x,[]⟩ ⟨some (d,.cC k i off sz),[]⟩
 | _=>.stop
def Cj(g:G)(d:Nat)(x:Operand)(i:Nat):rq:=
 match g.ev x with
 | .eZ ps=>match JJ ps i with
   | some p=>.go ⟨ba x,[]⟩ ⟨some (d,p),[]⟩
   | none=>.stop
 | _=>.stop
def Dk(E:Env)(g:G)(d:Nat)(s:TypeId)(x:Operand):rq:=
 match E.ti s with
 | none=>.stop
 | some si=>match si.ty,g.ev x with
   | .slice _,.d (.bx xs)=>.go ⟨ba x,[]⟩ ⟨some (d,.d (.val (.int .i64 (xs.length:Int)))),[]⟩
   | .slice _,.aK=>.go ⟨ba x,[]⟩ ⟨some (d,.d (.val (.int .i64 0))),[]⟩
   | .slice _,.acc k=>match g.at k with
     | some (.acc _ xs)=>.go ⟨ba x,[k]⟩ ⟨some (d,.d (.val (.int .i64 (xs.length:Int)))),[]⟩
     | some (.bM _ xs)=>.go ⟨ba x,[k]⟩ ⟨some (d,.d (.val (.int .i64 (xs.length:Int)))),[]⟩
     | _=>.stop
   | .str,.d (.str l)=>.go ⟨ba x,[]⟩ ⟨some (d,.d (.val (.int .i64 (l.length:Int)))),[]⟩
   | _,_=>.stop
def xF(E:Env)(g:G)(p:PV):Option (List (List D)×Option TypeId):=
 match p with
 | .aK=>some ([],none)
 | .d (.bx ys)=>some (ys,none)
 | .acc k=>match g.at k with
   | some (.acc e ys)=>some (ys,some e)
   | _=>none
 | .d (.val (.slice (some _) 0 _))=>some ([],none)
 | _=>none
def D3(E:Env)(sz:Nat)(p:PV)(ys:List (List D)):Option TypeId→Prop
 | none=>∀y∈ys,y.length=sz
 | some e=>∃ei,E.ti e=some ei∧ei.n=sz
theorem rY{E:Env}{g:G}{p:PV}{ys:List (List D)}{o:Option TypeId}{sz:Nat}(h:xF E g p=some (ys,o))(ho:D3 E sz p ys o):ow E sz g p ys:=by
 unfold xF at h
 split at h
 ·obtain⟨rfl,rfl⟩:[]=ys∧none=o:=by simpa using h
  exact .inl ⟨rfl,rfl⟩
 ·obtain⟨rfl,rfl⟩:_=ys∧none=o:=by simpa using h
  exact .inr (.inl ⟨rfl,ho⟩)
 ·split at h
  ·rename_i e ys' hk
   obtain⟨rfl,rfl⟩:_=ys∧some e=o:=by simpa using h
   obtain⟨ei,h1,h2⟩:=ho
   exact .inr (.inr (.inl ⟨_,e,ei,rfl,hk,h1,h2⟩))
  ·cases h
 ·obtain⟨rfl,rfl⟩:[]=ys∧none=o:=by simpa using h
  exact .inr (.inr (.inr ⟨_,_,rfl,rfl⟩))
 ·cases h
def xk(g:G)(p:PV):Option (List (List T)×TypeId):=
 match p with
 | .acc k=>match g.at k with
   | some (.bM e ys)=>some (ys,e)
   | _=>none
 | _=>none
theorem rN{E:Env}{g:G}{p:PV}{ys:List (List T)}{e:TypeId}{ei:TI}(h:xk g p=some (ys,e))(he:E.ti e=some ei)(hn:kS ys=true):Dj E ei.n g p ys:=by
 unfold xk at h
 split at h
 ·rename_i k
  split at h
  ·rename_i e' ys' hk
   obtain⟨rfl,rfl⟩:ys'=ys∧e'=e:=by simpa using h
   exact .inr ⟨k,e',ei,rfl,hk,he,rfl,hn⟩
  ·cases h
 ·cases h
def xp(g:G)(d:Nat)(s x:Operand)(e:TypeId)(ei:TI):rq:=
 match xk g (g.ev x) with
 | none=>.stop
 | some (ys,e2)=>match Nat.beq e e2 with
   | false=>.stop
   | true=>match g.ev s with
     | .aK=>.hJ (kS ys=true∧ys.length≤LB∧ys.length*ei.bytes≤140737488355328) ⟨ba s++ba x,g.new::qq (g.ev x)⟩ ⟨some (d,.acc g.new),[(g.new,.bM e ys)]⟩
     | .acc k=>match g.at k with
       | some (.acc e' xs)=>match Nat.beq e e' with
         | true=>.hJ (kS ys=true∧xs.length+ys.length≤LB∧(xs.length+ys.length)*ei.bytes≤140737488355328) ⟨ba s++ba x,k::g.new::qq (g.ev x)⟩ ⟨some (d,.acc g.new),[(k,.dead),(g.new,.bM e (lift xs++ys))]⟩
         | false=>.stop
       | some (.bM e' xs)=>match Nat.beq e e' with
         | true=>.hJ (kS ys=true∧xs.length+ys.length≤LB∧(xs.length+ys.length)*ei.bytes≤140737488355328) ⟨ba s++ba x,k::g.new::qq (g.ev x)⟩ ⟨some (d,.acc g.new),[(k,.dead),(g.new,.bM e (xs++ys))]⟩
         | false=>.stop
       | _=>.stop
     | _=>.stop
def Da(E:Env)(g:G)(d:Nat)(s x:Operand)(t t':TypeId):rq:=
 match Nat.beq t t',E.ti t with
 | true,some ti=>match ti.ty with
   | .slice e=>match E.ti e,xF E g (g.ev x) with
     | some ei,some (ys,o)=>match g.ev s with
       | .aK=>.hJ (D3 E ei.n (g.ev x) ys o∧ys.length≤LB∧ys.length*ei.bytes≤140737488355328) ⟨ba s++ba x,g.new::qq (g.ev x)⟩ ⟨some (d,.acc g.new),[(g.new,.acc e ys)]⟩
       | .acc k=>match g.at k with
         | some (.acc e' xs)=>match Nat.beq e e' with
           | true=>.hJ (D3 E ei.n (g.ev x) ys o∧xs.length+ys.length≤LB∧(xs.length+ys.length)*ei.bytes≤140737488355328) ⟨ba s++ba x,k::g.new::qq (g.ev x)⟩ ⟨some (d,.acc g.new),[(k,.dead),(g.new,.acc e (xs++ys))]⟩
           | false=>.stop
         | some (.bM e' xs)=>match Nat.beq e e' with
           | true=>.hJ (D3 E ei.n (g.ev x) ys o∧xs.length+ys.length≤LB∧(xs.length+ys.length)*ei.bytes≤140737488355328) ⟨ba s++ba x,k::g.new::qq (g.ev x)⟩ ⟨some (d,.acc g.new),[(k,.dead),(g.new,.bM e (xs++lift ys))]⟩
           | false=>.stop
         | _=>.stop
       | _=>.stop
     | some ei,none=>xp g d s x e ei
     | _,_=>.stop
   | _=>.stop
 | _,_=>.stop
def o4(E:Env)(g:G)(dn:Option Nat)(t:TypeId)(x y:Operand):rq:=
 match E.ti t with
 | none=>.stop
 | some ti=>match g.ev x with
   | .ptr k off=>match g.at k with
     | some (.box cs)=>match qc (off+ti.n) (oG cs),(g.ev y).whole,Nat.beq (oG (bw (g.ev y))) ti.n,n9 (bw (g.ev y)) with
       | true,true,true,true=>.go ⟨ba x++ba y++dn.toList,[k]⟩ ⟨dn.map fun d=>(d,.undef),[(k,.box (Ga cs off (bw (g.ev y))))]⟩
       | _,_,_,_=>.stop
     | _=>.stop
   | .cC k i off sz=>match g.at k with
     | some (.acc e xs)=>match E.ti e,(g.ev y).whole,Nat.beq (oG (bw (g.ev y))) ti.n,rS (bw (g.ev y)) with
       | some ei,true,true,some cs=>.hJ (Al sz ei.n=true∧i<xs.length∧qc (off+ti.n) ei.n=true) ⟨ba x++ba y++dn.toList,[k]⟩ ⟨dn.map fun d=>(d,.undef),[(k,.acc e (xs.set i (mg (row xs i) off cs)))]⟩
       | some ei,true,true,none=>match uz (bw (g.ev y)) with
         | none=>.stop
         | some cs=>.hJ (Al sz ei.n=true∧i<xs.length∧qc (off+ti.n) ei.n=true) ⟨ba x++ba y++dn.toList,[k]⟩ ⟨dn.map fun d=>(d,.undef),[(k,.bM e ((lift xs).set i (mg (ij (lift xs) i) off cs)))]⟩
       | _,_,_,_=>.stop
     | some (.bM e xs)=>match E.ti e,(g.ev y).whole,Nat.beq (oG (bw (g.ev y))) ti.n,uz (bw (g.ev y)) with
       | some ei,true,true,some cs=>.hJ (Al sz ei.n=true∧i<xs.length∧qc (off+ti.n) ei.n=true∧fl (PT ti.n (PX off (ij xs i)))=true) ⟨ba x++ba y++dn.toList,[k]⟩ ⟨dn.map fun d=>(d,.undef),[(k,.bM e (xs.set i (N5 (ij xs i) off cs)))]⟩
       | _,_,_,_=>.stop
     | _=>.stop
   | _=>.stop
def uQ:List Operand→List Nat
 | []=>[]
 | x::xs=>ba x++uQ xs
theorem p8:∀(l:List Operand),uQ l=l.flatMap ba
 | []=>rfl
 | x::xs=>by simp[uQ,p8 xs]
def JZ(g:G):List Operand→List PV
 | []=>[]
 | x::xs=>g.ev x::JZ g xs
theorem uJ(g:G):∀(l:List Operand),JZ g l=l.map g.ev
 | []=>rfl
 | x::xs=>by simp[JZ,uJ g xs]
def Ij(g:G)(d:Nat)(fn:Fn)(first cs:List Operand):rq:=
 match fn,first with
 | .func f,[]=>.go ⟨uQ cs,[]⟩ ⟨some (d,.fn f (JZ g cs)),[]⟩
 | _,_=>.stop
def xv(E:Env)(g:G)(d:Nat)(callee:Callee)(args:List Operand)(tys:List TypeId):rq:=
 match callee with
 | .builtin b=>match b,args,tys with
   | .len,[x],[s]=>Dk E g d s x
   | .append,[s,x],[t,t']=>Da E g d s x t t'
   | _,_,_=>.stop
 | _=>.stop
def Io(E:Env)(g:G)(d:Nat):Op→rq
 | .move x=>.go ⟨ba x,[]⟩ ⟨some (d,g.ev x),[]⟩
 | .assign x=>.go ⟨ba x,[]⟩ ⟨some (d,g.ev x),[]⟩
 | .pick c x y=>B4 g d c x y
 | .alloc t=>yI E g d t
 | .box _ x=>Gg g d x
 | .load t x=>xx E g d t x
 | .fieldAddr s x f=>C7 E g d s x f
 | .field s x f=>tR E g d s x f
 | .indexAddr s x y=>xl E g d s x y
 | .index s x y=>Ca E g d s x y
 | .store t x y=>o4 E g (some d) t x y
 | .binOp b t x y _=>SE E g d b t x y
 | .unOp u _ x=>Jc g d u x
 | .convert s t x=>xB E g d s t x
 | .makeFunc fn first cs=>Ij g d fn first.toList cs.toList
 | .build t ps=>sr E g d t ps.toList
 | .buildSlice t n ps=>Dc E g d t n ps.toList
 | .makeSlice t l c=>xz E g d t l c
 | .slice t x lo hi mx=>C2 E g d t x lo hi mx
 | .nilCheck x=>Cu g d x
 | .extract x i=>Cj g d x i
 | .call c=>xv E g d c.callee c.args.toList c.argTypes.toList
 | _=>.stop
def Rs(E:Env)(g:G)(o:Oper):rq:=
 match o.dst,o.op with
 | some d,op=>Io E g d op
 | none,.store t x y=>o4 E g none t x y
 | none,_=>.stop
section
variable{E:Env}{g:G}{d:Nat}{ty:TypeId}{pos:String}{aft:Array Edge}{gd:Option (Nat×Bool)}{dn:Option Nat}
theorem Hp(t:TypeId)(x:Operand):(xx E g d t x).Ok E.P ⟨some d,.load t x,ty,pos,aft,gd⟩ g:=by
 unfold xx
 split
 ·trivial
 ·rename_i ti ht
  split
  ·rename_i k off hx
   split
   ·rename_i cs hk
    split
    ·rename_i hl
     have hl:=eK hl
     rw[iI] at hl
     simp only[A7,Bw]
     exact DL x t k off ti cs ht hx hk hl
    ·trivial
   ·trivial
  ·rename_i xs i off hx
   simp only[A7,Bw]
   exact fun h=>CR x t i off ti xs _ ht hx rfl (IE h)
  ·rename_i k i off sz hx
   split
   ·rename_i e xs hk
    split
    ·rename_i ei he
     simp only[A7,Bw]
     exact fun h=>Dw x t k i off sz e ti ei xs _ ht he (pC h.1) hx hk h.2.1 rfl (IE h.2.2)
    ·trivial
   ·rename_i e xs hk
    split
    ·rename_i ei he
     simp only[A7,Bw]
     exact fun h=>Er x t k i off sz e ti ei xs ht he (pC h.1) hx hk h.2.1 (by have:=eK h.2.2;rwa [xw] at this)
    ·trivial
   ·trivial
  ·trivial
theorem Ke(s:TypeId)(x:Operand)(f:Nat):(C7 E g d s x f).Ok E.P ⟨some d,.fieldAddr s x f,ty,pos,aft,gd⟩ g:=by
 unfold C7
 split
 ·trivial
 ·rename_i si hs
  split
  ·rename_i fs hsy
   split
   ·rename_i ft fo fz hf
    rw[DA] at hf
    split
    ·rename_i hx;exact HL x s f _ _ si fs ft fo fz hs hsy hf hx
    ·rename_i hx;exact DM x s f _ _ _ si fs ft fo fz hs hsy hf hx
    ·rename_i hx;exact FB x s f _ _ _ _ si fs ft fo fz hs hsy hf hx
    ·trivial
   ·trivial
  ·trivial
theorem Fy(s:TypeId)(x:Operand)(f:Nat):(tR E g d s x f).Ok E.P ⟨some d,.field s x f,ty,pos,aft,gd⟩ g:=by
 unfold tR
 split
 ·trivial
 ·rename_i si hs
  split
  ·rename_i fs hsy
   split
   ·rename_i ft fo fz hf
    rw[DA] at hf
    split
    ·trivial
    ·rename_i fi hfi
     split
     ·rename_i cs hx
      split
      ·rename_i hl
       have hl:=eK hl
       rw[iI] at hl
       simp only[A7,Bw]
       exact LS x s f si fs ft fo fz fi cs hs hsy hf hfi hx hl
      ·trivial
     ·trivial
   ·trivial
  ·trivial
theorem Gf(s:TypeId)(x y:Operand):(xl E g d s x y).Ok E.P ⟨some d,.indexAddr s x y,ty,pos,aft,gd⟩ g:=by
 unfold xl
 split
 ·trivial
 ·rename_i si hs
  split
  ·rename_i n hy
   split
   ·rename_i e hsy
    split
    ·trivial
    ·rename_i ei he
     split
     ·rename_i xs hx
      exact fun h=>H3 x y s si ei e xs n hs hsy he hx hy h.1 h.2.1 (OQ h.2.2)
     ·rename_i k hx
      split
      ·rename_i e' xs hk
       split
       ·rename_i hee
        obtain rfl:=Nat.eq_of_beq_eq_true hee
        exact fun h=>H6 x y s si ei e k xs n hs hsy he hx hk hy h.1 h.2
       ·trivial
      ·rename_i e' xs hk
       split
       ·rename_i hee
        obtain rfl:=Nat.eq_of_beq_eq_true hee
        exact fun h=>GI x y s si ei e k xs n hs hsy he hx hk hy h.1 h.2
       ·trivial
      ·trivial
     ·trivial
   ·rename_i len e hsy
    split
    ·trivial
    ·rename_i ei he
     split
     ·rename_i k off hx
      exact fun h=>H4 x y s si ei e len k off n hs hsy he hx hy h.1 h.2
     ·trivial
   ·trivial
  ·trivial
theorem JR(s:TypeId)(x y:Operand):(Ca E g d s x y).Ok E.P ⟨some d,.index s x y,ty,pos,aft,gd⟩ g:=by
 unfold Ca
 split
 ·trivial
 ·rename_i si hs
  split
  ·rename_i n hy
   split
   ·rename_i hsy
    split
    ·rename_i l hx
     exact fun h=>Gj x y s si l n hs hsy hx hy h.1 h.2
    ·trivial
   ·trivial
  ·trivial
theorem KX(u:UnOp)(t:TypeId)(x:Operand):(Jc g d u x).Ok E.P ⟨some d,.unOp u t x,ty,pos,aft,gd⟩ g:=by
 unfold Jc
 split
 ·rename_i m hx;exact Qg x m t hx
 ·rename_i m hx;exact fun h=>QJ x m t hx h
 ·trivial
theorem H5(s t:TypeId)(x:Operand):(xB E g d s t x).Ok E.P ⟨some d,.convert s t x,ty,pos,aft,gd⟩ g:=by
 unfold xB
 split
 ·rename_i si ti hs ht
  split
  ·rename_i k k' k2 m hsy hty hx
   split
   ·rename_i hk
    obtain rfl:=DE hk
    exact O7 x k k' m s t si ti hs hsy ht hty hx
   ·trivial
  ·trivial
 ·trivial
theorem Fb(t:TypeId)(ps:Array (Nat×Operand)):(sr E g d t ps.toList).Ok E.P ⟨some d,.build t ps,ty,pos,aft,gd⟩ g:=by
 unfold sr
 split
 ·trivial
 ·rename_i ti ht
  split
  ·rename_i fs hty
   split
   ·rename_i r hr
    have hr:=IU _ _ _ _ hr
    rw[MH,K7] at hr
    rw[Ck]
    exact KK t ps.toList ti fs r ht hty hr
   ·trivial
  ·trivial
theorem Ku(t:TypeId)(n:Nat)(ps:Array (Nat×Operand)):(Dc E g d t n ps.toList).Ok E.P ⟨some d,.buildSlice t n ps,ty,pos,aft,gd⟩ g:=by
 obtain⟨ps⟩:=ps
 simp only
 unfold Dc
 split
 ·trivial
 ·rename_i ti ht
  split
  ·rename_i e hty
   split
   ·trivial
   ·rename_i ei he
    split
    ·split
     ·exact rk t e 0 g.new [] ti ei [] ht hty he rfl rfl rfl rfl (by simp) g.fk
     ·trivial
    ·rename_i p ps
     split
     ·rename_i rows h1 h2 h3
      split
      ·rename_i h4 h5 h6
       have h1:=Nat.eq_of_beq_eq_true h1
       have h5:=eK h5
       have h6:=eK h6
       rw[BZ] at h1 h5
       rw[HM] at h2
       rw[GU] at h3
       rw[Ck]
       exact Ln t e n (p::ps) ti ei rows ht hty he h1 h2 h3 h4 (Nat.le_trans (Nat.mul_le_mul h5 h6) (by omega))
      ·trivial
     ·rename_i h1 h2 _
      split
      ·trivial
      ·rename_i rows h3
       split
       ·rename_i h4 h5 h6
        have h1:=Nat.eq_of_beq_eq_true h1
        have h5:=eK h5
        have h6:=eK h6
        rw[BZ] at h1 h5
        rw[HM] at h2
        rw[GU] at h3
        rw[Ck]
        exact Ho t e n g.new (p::ps) ti ei rows ht hty he h1 h2 h3 h4 (Nat.le_trans (Nat.mul_le_mul h5 h6) (by omega)) g.fk
       ·trivial
     ·trivial
  ·trivial
theorem H7(t:TypeId)(l c:Operand):(xz E g d t l c).Ok E.P ⟨some d,.makeSlice t l c,ty,pos,aft,gd⟩ g:=by
 unfold xz
 split
 ·trivial
 ·rename_i ti ht
  split
  ·rename_i e hty
   split
   ·trivial
   ·rename_i ei he
    split
    ·rename_i z n n' hz hl hc
     rintro⟨rfl,h1,h2,h3⟩
     exact N2 l c t e g.new ti ei n' z ht hty he hz hl hc g.fk h1 h2 h3
    ·trivial
  ·trivial
theorem JA(t:TypeId)(x:Operand)(lo hi mx:Option Operand):(C2 E g d t x lo hi mx).Ok E.P ⟨some d,.slice t x lo hi mx,ty,pos,aft,gd⟩ g:=by
 unfold C2
 split
 ·rename_i ti ht
  split
  ·rename_i e xs hty hx
   split
   ·rename_i ei l h he hl hh
    exact fun k=>Gd x lo hi t e ti ei xs _ l h ht hty he hx (Ce hl) (Ce hh) k.1 k.2.1 k.2.2.1 k.2.2.2 rfl
   ·trivial
  ·rename_i s hty hx
   split
   ·rename_i l h hl hh
    exact fun k=>HS x lo hi t ti s _ l h ht hty hx (Ce hl) (Ce hh) k.1 k.2.1 k.2.2 rfl
   ·trivial
  ·trivial
 ·trivial
theorem Kc(x:Operand):(Cu g d x).Ok E.P ⟨some d,.nilCheck x,ty,pos,aft,gd⟩ g:=by
 unfold Cu
 split
 ·rename_i hx;exact wI x _ _ hx
 ·rename_i hx;exact uE x _ _ _ hx
 ·rename_i hx;exact uS x _ _ _ _ hx
 ·trivial
theorem J0(x:Operand)(i:Nat):(Cj g d x i).Ok E.P ⟨some d,.extract x i,ty,pos,aft,gd⟩ g:=by
 unfold Cj
 split
 ·rename_i ps hx
  split
  ·rename_i p hp
   rw[I7] at hp
   exact GK x i ps p hx hp
  ·trivial
 ·trivial
theorem Ju(s:TypeId)(x:Operand):(Dk E g d s x).Ok E.P ⟨some d,.call ⟨.builtin .len,#[x],#[s]⟩,ty,pos,aft,gd⟩ g:=by
 unfold Dk
 split
 ·trivial
 ·rename_i si hs
  split
  ·rename_i e xs hsy hx;exact Hs x s si e xs hs hsy hx
  ·rename_i e hsy hx;exact GF x s si e hs hsy hx
  ·rename_i e k hsy hx
   split
   ·rename_i e' xs hk;exact HT x s si e e' k xs hs hsy hx hk
   ·rename_i e' xs hk;exact Gi x s si e e' k xs hs hsy hx hk
   ·trivial
  ·rename_i l hsy hx;exact Gq x s si l hs hsy hx
  ·trivial
theorem Gb(s x:Operand)(t e:TypeId)(ti ei:TI)(ht:E.ti t=some ti)(hty:ti.ty= .slice e)(he:E.ti e=some ei):(xp g d s x e ei).Ok E.P ⟨some d,.call ⟨.builtin .append,#[s,x],#[t,t]⟩,ty,pos,aft,gd⟩ g:=by
 unfold xp
 split
 ·trivial
 ·rename_i ys e2 hr
  split
  ·trivial
  ·rename_i h2
   obtain rfl:=Nat.eq_of_beq_eq_true h2
   split
   ·rename_i hs
    exact fun h=>yL s x t e g.new ti ei _ ys ht hty he hs rfl (rN hr he h.1) g.fk h.2.1 h.2.2
   ·rename_i k hs
    split
    ·rename_i e' xs hk
     split
     ·rename_i hee
      obtain rfl:=Nat.eq_of_beq_eq_true hee
      exact fun h=>y8 s x t e k g.new ti ei _ xs ys ht hty he hs hk rfl (rN hr he h.1) g.fk h.2.1 h.2.2
     ·trivial
    ·rename_i e' xs hk
     split
     ·rename_i hee
      obtain rfl:=Nat.eq_of_beq_eq_true hee
      exact fun h=>ld s x t e k g.new ti ei _ xs ys ht hty he hs hk rfl (rN hr he h.1) g.fk h.2.1 h.2.2
     ·trivial
    ·trivial
   ·trivial
theorem Kr(s x:Operand)(t t':TypeId):(Da E g d s x t t').Ok E.P ⟨some d,.call ⟨.builtin .append,#[s,x],#[t,t']⟩,ty,pos,aft,gd⟩ g:=by
 unfold Da
 split
 ·rename_i ti htt ht
  obtain rfl:=Nat.eq_of_beq_eq_true htt
  split
  ·rename_i e hty
   split
   ·rename_i ei ys o he hap
    split
    ·rename_i hs
     exact fun h=>Ab s x t e g.new ti ei _ ys ht hty he hs rfl (rY hap h.1) g.fk h.2.1 h.2.2
    ·rename_i k hs
     split
     ·rename_i e' xs hk
      split
      ·rename_i hee
       obtain rfl:=Nat.eq_of_beq_eq_true hee
       exact fun h=>Ag s x t e k g.new ti ei _ xs ys ht hty he hs hk rfl (rY hap h.1) g.fk h.2.1 h.2.2
      ·trivial
     ·rename_i e' xs hk
      split
      ·rename_i hee
       obtain rfl:=Nat.eq_of_beq_eq_true hee
       exact fun h=>ld s x t e k g.new ti ei _ xs (lift ys) ht hty he hs hk rfl (.inl ⟨ys,rY hap h.1,rfl⟩) g.fk (by rw[kD];exact h.2.1) (by rw[kD];exact h.2.2)
      ·trivial
     ·trivial
    ·trivial
   ·rename_i ei he _
    exact Gb s x t e ti ei ht hty he
   ·trivial
  ·trivial
 ·trivial
theorem v8(t:TypeId)(x y:Operand):(o4 E g dn t x y).Ok E.P ⟨dn,.store t x y,ty,pos,aft,gd⟩ g:=by
 unfold o4
 split
 ·trivial
 ·rename_i ti ht
  split
  ·rename_i k off hx
   split
   ·rename_i cs hk
    split
    ·rename_i h1 h2 h3 h4
     have h1:=eK h1
     have h3:=Nat.eq_of_beq_eq_true h3
     rw[iI] at h1 h3
     rw[CW _ _ _ (by omega)]
     exact CG x y t k off ti cs _ ht hx hk rfl h1 h2 h3 h4
    ·trivial
   ·trivial
  ·rename_i k i off sz hx
   split
   ·rename_i e xs hk
    split
    ·rename_i ei cs he h2 h3 h4
     have h3:=Nat.eq_of_beq_eq_true h3
     rw[iI] at h3
     exact fun h=>AF x y t k i off sz e ti ei xs _ cs ht he (pC h.1) hx hk rfl h.2.1 (eK h.2.2) h2 h3 h4
    ·rename_i ei he h2 h3 _
     have h3:=Nat.eq_of_beq_eq_true h3
     rw[iI] at h3
     split
     ·trivial
     ·rename_i cs h4
      exact fun h=>Cg x y t k i off sz e ti ei xs _ cs ht he (pC h.1) hx hk rfl h.2.1 (eK h.2.2) h2 h3 h4
    ·trivial
   ·rename_i e xs hk
    split
    ·rename_i ei cs he h2 h3 h4
     have h3:=Nat.eq_of_beq_eq_true h3
     rw[iI] at h3
     simp only[Hh,GB,OM]
     exact fun h=>tj x y t k i off sz e ti ei xs _ cs ht he (pC h.1) hx hk rfl h.2.1 (eK h.2.2.1) h2 h3 h4 h.2.2.2
    ·trivial
   ·trivial
  ·trivial
theorem NI(fn:Fn)(first cs:Array Operand):(Ij g d fn first.toList cs.toList).Ok E.P ⟨some d,.makeFunc fn first cs,ty,pos,aft,gd⟩ g:=by
 obtain⟨first⟩:=first
 obtain⟨cs⟩:=cs
 unfold Ij
 split
 ·rename_i f h
  simp only at h
  subst h
  rw[p8,uJ]
  exact E3 _ _
 ·trivial
theorem Gz(c:Call):(xv E g d c.callee c.args.toList c.argTypes.toList).Ok E.P ⟨some d,.call c,ty,pos,aft,gd⟩ g:=by
 obtain⟨callee,⟨args⟩,⟨tys⟩⟩:=c
 unfold xv
 split
 ·split
  ·rename_i h1 h2
   simp only at h1 h2
   subst h1 h2
   rename_i h
   simp only at h
   subst h
   exact Ju _ _
  ·rename_i h1 h2
   simp only at h1 h2
   subst h1 h2
   rename_i h
   simp only at h
   subst h
   exact Kr _ _ _ _
  ·trivial
 ·trivial
theorem Ld(op:Op):(Io E g d op).Ok E.P ⟨some d,op,ty,pos,aft,gd⟩ g:=by
 unfold Io
 split
 ·exact CJ _
 ·exact JH _
 ·unfold B4
  split
  ·rename_i hc;exact IK _ _ _ true hc
  ·rename_i hc;exact IK _ _ _ false hc
  ·trivial
 ·unfold yI
  split
  ·rename_i ti ht;exact MV _ g.new ti ht g.fk
  ·trivial
 ·unfold Gg
  split
  ·rename_i hw;exact Qq _ _ g.new g.fk hw
  ·trivial
 ·exact Hp _ _
 ·exact Ke _ _ _
 ·exact Fy _ _ _
 ·exact Gf _ _ _
 ·exact JR _ _ _
 ·exact v8 _ _ _
 ·exact Rq _ _ _ _ _
 ·exact KX _ _ _
 ·exact H5 _ _ _
 ·exact NI _ _ _
 ·exact Fb _ _
 ·exact Ku _ _ _
 ·exact H7 _ _ _
 ·exact JA _ _ _ _ _
 ·exact Kc _
 ·exact J0 _ _
 ·exact Gz _
 ·trivial
theorem Ri(o:Oper):(Rs E g o).Ok E.P o g:=by
 obtain⟨dst,op,ty,pos,aft,gd⟩:=o
 unfold Rs
 split
 ·rename_i d h
  obtain rfl:dst=some d:=h
  exact Ld op
 ·rename_i t x y h1 h2
  obtain rfl:dst=none:=h1
  obtain rfl:op= .store t x y:=h2
  exact v8 _ _ _
 ·trivial
end
end Go.Eng
namespace Go.Eng
open Go.RowKit
inductive jZ where
 | on
 | off
def Ro:Bool→(jZ→Prop)→(jZ→Prop)→Prop
 | true,a,_=>a .on
 | false,_,b=>b .on
theorem Su(a b:jZ→Prop):Ro true a b=a .on:=rfl
theorem RX(a b:jZ→Prop):Ro false a b=b .on:=rfl
theorem JD{c:Bool}{a b:jZ→Prop}(ht:c=true→a .on)(hf:c=false→b .on):Ro c a b:=by
 cases c
 ·exact hf rfl
 ·exact ht rfl
theorem qi{c:Bool}{a b:jZ→Prop}(h:Ro c a b):(c=true∧a .on)∨(c=false∧b .on):=by
 cases c
 ·exact .inr ⟨rfl,h⟩
 ·exact .inl ⟨rfl,h⟩
def snoc:List Ky→Ky→List Ky
 | [],k=>[k]
 | a::as,k=>a::snoc as k
theorem Ii:∀(l:List Ky)(k:Ky),snoc l k=l++[k]
 | [],_=>rfl
 | a::as,k=>by simp[snoc,Ii as k]
def gl:Option (List Ky)→Ky→Option (List Ky)
 | none,_=>none
 | some l,k=>some (snoc l k)
def WM(P:Program)(ops:Array Oper):Option (List Ky)→List Oper→G→(G→Prop)→Prop
 | none,os,g,K=>WO P ops os g K
 | some pre,os,g,K=>WD P ops os pre g K
theorem xi{P:Program}{ops:Array Oper}{m:Option (List Ky)}{o:Oper}{os:List Oper}{g:G}{K:G→Prop}{R:Rd}{δ:Dl}(h:xU P ops o g R δ)(hr:WM P ops (gl m (hY R δ)) os (g.app δ) K):WM P ops m (o::os) g K:=by
 cases m with
 | none=>exact pW h hr
 | some pre=>
   simp only[gl,Ii] at hr
   exact ON h hr
def n6:Option Nat→Rd→Rd
 | none,R=>R
 | some t,R=>⟨t::R.s,R.p⟩
def sj(P:Program)(g g':G):Prop:=∀(X:Cx)(ν:Nat→Nm)(a:Act)(w:World),Sat P X ν g a w→∃ν',Sat P X ν' g' a w
theorem sj.trans{P:Program}{g g1 g2:G}(h:sj P g g1)(h':sj P g1 g2):sj P g g2:=fun X ν a w hs=>
 let ⟨ν1,h1⟩:=h X ν a w hs
 h' X ν1 a w h1
theorem Jf{P:Program}{ops:Array Oper}{os:List Oper}{g g':G}{K:G→Prop}(hw:sj P g g')(h:WO P ops os g' K):WO P ops os g K:=fun i hi X ν a w Q hs hn=>
 let ⟨ν',hs'⟩:=hw X ν a w hs
 h i hi X ν' a w Q hs' hn
def mj(E:Env)(m:Option (List Ky))(gs:Option Nat)(o:Oper)(g:G)(rest:jZ→Option (List Ky)→G→Prop):Prop:=
 (∃R δ,dX E.P o g R δ∧rest .on (gl m (hY (n6 gs R) δ)) (g.app δ)) ∨
 (m=none∧gs=none∧∃g',sj E.P g g'∧∃R δ,dX E.P o g' R δ∧rest .on none (g'.app δ))
theorem bU{E:Env}{m:Option (List Ky)}{gs:Option Nat}{o:Oper}{g:G}{rest:jZ→Option (List Ky)→G→Prop}{R:Rd}{δ:Dl}(h:dX E.P o g R δ)(hr:rest .on (gl m (hY (n6 gs R) δ)) (g.app δ)):mj E m gs o g rest:=.inl ⟨R,δ,h,hr⟩
def Bm(E:Env)(m:Option (List Ky))(gs:Option Nat)(o:Oper)(g:G)(rest:jZ→Option (List Ky)→G→Prop):rq→Prop
 | .go R δ=>rest .on (gl m (hY (n6 gs R) δ)) (g.app δ)
 | .hJ φ R δ=>φ∧rest .on (gl m (hY (n6 gs R) δ)) (g.app δ)
 | .stop=>mj E m gs o g rest
theorem ib{E:Env}{m:Option (List Ky)}{gs:Option Nat}{o:Oper}{g:G}{rest:jZ→Option (List Ky)→G→Prop}(h:Bm E m gs o g rest (Rs E g o)):mj E m gs o g rest:=by
 have hk:=Ri (E:=E) (g:=g) o
 generalize Rs E g o=s at h hk
 cases s with
 | go R δ=>exact .inl ⟨R,δ,hk,h⟩
 | hJ φ R δ=>exact .inl ⟨R,δ,hk h.1,h.2⟩
 | stop=>exact h
def Ra(E:Env)(m:Option (List Ky))(t:Nat)(o:Oper)(g:G)(rest:jZ→Option (List Ky)→G→Prop):jZ→Prop
 | .on=>Bm E m (some t) o g rest (Rs E g o)
 | .off=>False
def Nb(m:Option (List Ky))(t:Nat)(g:G)(rest:jZ→Option (List Ky)→G→Prop):Option Nat→jZ→Prop
 | some d,.on=>rest .on (gl m ⟨[t],[],[d],[]⟩) (g.app ⟨some (d,.undef),[]⟩)
 | _,_=>False
def lg:PV→Bool→(jZ→Prop)→(jZ→Prop)→Prop
 | .d (.val (.bool c)),true,yes,no=>Ro c yes no
 | .d (.val (.bool c)),false,yes,no=>Ro c no yes
 | .undef,_,_,no=>no .on
 | _,_,_,_=>False
def RD:List Oper→Nat→Option Nat
 | [],_=>none
 | o::_,0=>o.dst
 | _::os,n+1=>RD os n
theorem LJ:∀(l:List Oper)(n:Nat),RD l n=(l[n]?).bind (·.dst)
 | [],n=>by simp[RD]
 | o::_,0=>rfl
 | _::os,n+1=>by simp[RD,LJ os n]
def Q0(all:List Oper)(g:G)(K:jZ→G→Prop):Option (List Ky)→Prop
 | none=>K .on g
 | some pre=>indep all pre=true∧K .on g
def O8(E:Env)(all:List Oper)(m:Option (List Ky))(o:Oper)(g:G)(rest:jZ→Option (List Ky)→G→Prop):Option (Nat×Bool)→Prop
 | none=>Bm E m none o g rest (Rs E g o)
 | some (j,b)=>match RD all j with
   | none=>False
   | some t=>lg (nth g.sl t) b (Ra E m t o g rest) (Nb m t g rest o.dst)
def run(E:Env)(all:List Oper)(K:jZ→G→Prop):List Oper→jZ→Option (List Ky)→G→Prop
 | [],.on,m,g=>Q0 all g K m
 | o::os,.on,m,g=>O8 E all m o g (run E all K os) o.guard
 | [],.off,_,_=>False
 | _::_,.off,_,_=>False
theorem Ha{E:Env}{ops:Array Oper}{K:jZ→G→Prop}:∀(os:List Oper)(m:Option (List Ky))(g:G),run E ops.toList K os .on m g→WM E.P ops m os g (K .on)
 | [],none,g,h=>vf h
 | [],some pre,g,h=>Qo h.1 h.2
 | o::os,m,g,h=>by
   have ih:=Ha (E:=E) (ops:=ops) (K:=K) os
   simp only[run] at h
   cases hg:o.guard with
   | none=>
     rw[hg] at h
     rcases ib h with⟨R,δ,h1,h2⟩|⟨rfl,_,g',hw,R,δ,h1,h2⟩
     ·exact xi (xU.plain hg h1) (ih _ _ h2)
     ·exact Jf hw (pW (xU.plain hg h1) (ih _ _ h2))
   | some jb=>
     obtain⟨j,b⟩:=jb
     rw[hg] at h
     simp only[O8] at h
     split at h
     ·exact h.elim
     ·rename_i t ht
      have hj:vX ops j=some t:=by
       rw[LJ] at ht
       unfold vX
       rw[←ht]
       simp
      have hyes:∀c,nth g.sl t= .d (.val (.bool c))→c=b→Ra E m t o g (run E ops.toList K os) .on→WM E.P ops m (o::os) g (K .on):=by
       intro c hc hcb hd
       subst hcb
       rcases ib hd with⟨R,δ,h1,h2⟩|⟨_,h0,_⟩
       rotate_left
       ·cases h0
       exact xi (xU.run hg hj hc h1) (ih _ _ h2)
      have hno:∀c,nth g.sl t= .d (.val (.bool c))→c≠b→Nb m t g (run E ops.toList K os) o.dst .on→WM E.P ops m (o::os) g (K .on):=by
       intro c hc hcb hd
       cases hdst:o.dst with
       | none=>rw[hdst] at hd;exact hd.elim
       | some d=>
         rw[hdst] at hd
         exact xi (xU.skip hg hj hc hcb hdst) (ih _ _ hd)
      cases hv:nth g.sl t<;>rw[hv] at h<;>first
       | (simp only[lg] at h;done)
       | skip
      ·simp only[lg] at h
       cases hdst:o.dst with
       | none=>rw[hdst] at h;exact h.elim
       | some d=>
         rw[hdst] at h
         exact xi (xU.RP hg hj hv hdst) (ih _ _ h)
      ·rename_i x
       cases x with
       | str s=>simp only[lg] at h
       | bx s=>simp only[lg] at h
       | val v=>
         cases v<;>first
          | (simp only[lg] at h;done)
          | skip
         rename_i c
         cases b with
         | true=>
           simp only[lg] at h
           rcases qi h with⟨h1,h2⟩|⟨h1,h2⟩
           ·exact hyes c hv h1 h2
           ·exact hno c hv (by rw[h1];simp) h2
         | false=>
           simp only[lg] at h
           rcases qi h with⟨h1,h2⟩|⟨h1,h2⟩
           ·exact hno c hv (by rw[h1];simp) h2
           ·exact hyes c hv h1 h2
def Ib(K:jZ→G→Prop)(Q:jZ→Ex→G→Prop):jZ→Ex→G→Prop
 | .on,.normal,g=>K .on g
 | .on,.exit id,g=>Q .on (.exit id) g
 | .on,.ret,g=>Q .on .ret g
 | .off,_,_=>False
def zF(id:Nat)(Q:jZ→Ex→G→Prop):jZ→Ex→G→Prop
 | .on,.normal,g=>Q .on .normal g
 | .on,.exit i,g=>match Nat.beq i id with|true=>Q .on .normal g|false=>Q .on (.exit i) g
 | .on,.ret,g=>Q .on .ret g
 | .off,_,_=>False
def LU(Q:jZ→Ex→G→Prop):jZ→G→Prop
 | .on,g=>Q .on .normal g
 | .off,_=>False
def M1:PV→(jZ→Prop)→(jZ→Prop)→Prop
 | .d (.val (.bool b)),x,y=>Ro b x y
 | _,_,_=>False
def Rl(E:Env)(ops:List Oper)(Q:jZ→Ex→G→Prop)(g:G):Bool→Prop
 | false=>run E ops (LU Q) ops .on none g
 | true=>run E ops (LU Q) ops .on (some []) g
def DJ(E:Env)(n0:Nat):Code→jZ→G→(jZ→Ex→G→Prop)→Prop
 | .skip,.on,g,Q=>Q .on .normal g
 | .exit id,.on,g,Q=>Q .on (.exit id) g
 | .ret,.on,g,Q=>Q .on .ret g
 | .seq a b,.on,g,Q=>DJ E n0 a .on g (Ib (fun tok g'=>DJ E n0 b tok g' Q) Q)
 | .cond c x y,.on,g,Q=>M1 (g.ev c) (fun tok=>DJ E n0 x tok g Q) (fun tok=>DJ E n0 y tok g Q)
 | .block id c,.on,g,Q=>DJ E n0 c .on g (zF id Q)
 | .region _ ops dr,.on,g,Q=>Rl E ops.toList Q g dr
 | .loop c,.on,g,Q=>W E.P n0 (.loop c) g (Q .on)
 | _,_,_,_=>False
theorem Hu{E:Env}(hm:E.P.follows .mixedOrders=true){n0:Nat}:∀(c:Code)(g:G)(Q:jZ→Ex→G→Prop),DJ E n0 c .on g Q→W E.P n0 c g (Q .on):=by
 intro c
 induction c with
 | skip=>intro g Q h;exact Rg h
 | exit id=>intro g Q h;exact Qt h
 | ret=>intro g Q h;exact R7 h
 | seq a b iha ihb=>
   intro g Q h
   have:=iha g _ h
   refine gV (fun X ν ac w hp hs=>wp_mono (this X ν ac w hp hs) fun e a' w' hl=>?_)
   cases e with
   | normal=>obtain⟨g',ν',h1,h2⟩:=hl;exact⟨g',ν',ihb g' Q h1,h2⟩
   | exit id=>exact hl
   | ret=>exact hl
   | goto l=>exact hl
   | panic c=>exact hl
   | outgrown=>exact hl
 | cond c x y ihx ihy=>
   intro g Q h
   simp only[DJ] at h
   unfold M1 at h
   split at h
   ·rename_i b hb
    refine Qa hb (fun hc=>?_) (fun hc=>?_)
    ·rcases qi h with⟨h1,h2⟩|⟨h1,h2⟩
     ·exact ihx g Q h2
     ·rw[hc] at h1;cases h1
    ·rcases qi h with⟨h1,h2⟩|⟨h1,h2⟩
     ·rw[hc] at h1;cases h1
     ·exact ihy g Q h2
   ·exact h.elim
 | block id c ih=>
   intro g Q h
   have:=ih g _ h
   refine Pe (fun X ν ac w hp hs=>wp_mono (this X ν ac w hp hs) fun e a' w' hl=>?_)
   cases e with
   | normal=>exact hl
   | exit i=>
     obtain⟨g',ν',h1,h2⟩:=hl
     refine⟨g',ν',?_,h2⟩
     simp only[zF] at h1
     simp only[Ht]
     split at h1
     ·rename_i he
      rw[if_pos (Nat.eq_of_beq_eq_true he)]
      exact h1
     ·rename_i he
      rw[if_neg (fun e=>by subst e;simp at he)]
      exact h1
   | ret=>exact hl
   | goto l=>exact hl
   | panic c=>exact hl
   | outgrown=>exact hl
 | region id ops dr=>
   intro g Q h
   simp only[DJ] at h
   cases dr with
   | false=>exact mY (Ha ops.toList none g h)
   | true=>exact OZ hm (Ha ops.toList (some []) g h)
 | loop c _=>intro g Q h;exact h
 | _=>intro g Q h;simp[DJ] at h
end Go.Eng
