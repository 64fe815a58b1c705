/-
  The symbolic layer, sixteenth text: a state seen with less, its owned places under other numbers, a grown slice seen as data.
-/
import Derived.Test.YtpidddienjoleaaGreatKCB
import Derived.Laws.BytesArg
import Derived.Laws.Slices
set_option linter.unusedVariables false
set_option linter.unusedSimpArgs false
namespace Go.Eng
open Go.RowKit
theorem n9{w:World}{ok ok':Nat→Prop}{e:TypeId}{sz:Nat}{v:Value}{xs:List (List D)}{us:List (List Value)}(ho:w.ownsRow 0 e sz v xs.length us.flatten)(hr:aK w ok sz xs us)(hB:xs.length≤LB)
 (hok:∀b,nS v=some b→ok' b) (hf:∀b,ok b→b<w.heap.size→ok' b∧w.heap[b]?=w.heap[b]?):cI w ok' (.bu xs) v:=by
 rcases ho.2 with⟨h1,h2⟩|⟨b,cap,cur,h1,_,h2,h3,h4,h5,h6⟩
 ·obtain rfl:=List.eq_nil_of_length_eq_zero h2
  rw[h1];exact .nil
 ·subst h1
  have hr':=hr.frame hf (Nat.le_refl _)
  refine .bu xs us b 0 cap sz (hok b rfl) (iP h2) h3 h4 hB hr'.len hr'.hx hr'.hu (fun j u hu=>?_) hr'.hr
  have hj:j<us.flatten.length:=by
   rcases Nat.lt_or_ge j us.flatten.length with h' | h'
   ·exact h'
   ·rw[List.getElem?_eq_none h'] at hu;cases hu
  rw[←h6] at hu
  have hu2:cur.toList[j]?=some u:=by
   rw[List.getElem?_take] at hu
   split at hu
   ·exact hu
   ·cases hu
  have hcur:cur[j]?=some u:=by simpa using hu2
  simp[World.cell?,h2,hcur]
mutual
def T.yF:T→Option D
 | .leaf d=>some d
 | .ref _=>none
 | .own _ xs=>match aU xs with|some ys=>some (.bu ys)|none=>none
def bX:List T→Option (List D)
 | []=>some []
 | t::ts=>match t.yF,bX ts with|some d,some ds=>some (d::ds)|_,_=>none
def aU:List (List T)→Option (List (List D))
 | []=>some []
 | x::xs=>match bX x,aU xs with|some y,some ys=>some (y::ys)|_,_=>none
end
def F4:Option En→D→Prop
 | some (.acc _ xs),y=>y= .bu xs
 | some (.bM _ xs),y=>∃ys,aU xs=some ys∧y= .bu ys
 | _,_=>False
section
variable{P:Program}{w:World}{ok ok':Nat→Prop}{ν ν':Nat→Nm}{st st':Nat→Option En}
mutual
theorem dV.data(hf:∀b,ok b→b<w.heap.size→ok' b∧w.heap[b]?=w.heap[b]?):∀(t:T)(v:Value)(F:List Nat)(d:D),t.yF=some d→dV P w ok ν st t v F→(∀b∈F,ok' b)→cI w ok' d v
 | .leaf x,v,F,d,hd,h,_=>by
   simp only[T.yF,Option.some.injEq] at hd
   simp only[dV] at h
   rw[←hd]
   exact h.1.frame hf (Nat.le_refl _)
 | .ref j,v,F,d,hd,_,_=>by simp[T.yF] at hd
 | .own e xs,v,F,d,hd,h,hF=>by
   simp only[T.yF] at hd
   split at hd
   ·rename_i ys hys
    obtain rfl:=Option.some.inj hd
    simp only[dV] at h
    obtain⟨us,F1,h1,h2,h3,h4,rfl⟩:=h
    obtain⟨k1,k2,k3⟩:=az.data hf xs us F1 ys hys h3 (fun b hb=>hF b (List.mem_append.2 (.inr hb)))
    refine n9 (ok:=ok') (by rw[←k2];exact h1) ⟨k1,fun i x hx=>?_,h2,fun i j x u dd vv a1 a2 a3 a4=>(k3 i x u a1 a2).2 j dd vv a3 a4⟩ (by rw[←k2];exact h4) (fun b hb=>hF b (List.mem_append.2 (.inl (tZ.2 hb)))) (fun b hb _=>⟨hb,rfl⟩)
    have hi:i<us.length:=by
     rw[k1]
     exact(List.getElem?_eq_some_iff.1 hx).1
    rw[(k3 i x us[i] hx (List.getElem?_eq_getElem hi)).1]
    exact h2 i _ (List.getElem?_eq_getElem hi)
   ·cases hd
theorem an.data(hf:∀b,ok b→b<w.heap.size→ok' b∧w.heap[b]?=w.heap[b]?):∀(ts:List T)(vs:List Value)(F:List Nat)(ds:List D),bX ts=some ds→an P w ok ν st ts vs F→(∀b∈F,ok' b)→ds.length=vs.length∧∀(j:Nat)(d:D)(v:Value),ds[j]?=some d→vs[j]?=some v→cI w ok' d v
 | [],[],F,ds,hd,_,_=>by
   simp only[bX,Option.some.injEq] at hd
   rw[←hd]
   simp
 | [],_::_,F,ds,_,h,_=>by simp[an] at h
 | _::_,[],F,ds,_,h,_=>by simp[an] at h
 | t::ts,v::vs,F,ds,hd,h,hF=>by
   simp only[bX] at hd
   split at hd
   ·rename_i d' ds' e1 e2
    obtain rfl:=Option.some.inj hd
    simp only[an] at h
    obtain⟨F1,F2,h1,h2,rfl⟩:=h
    have k1:=dV.data hf t v F1 d' e1 h1 fun b hb=>hF b (List.mem_append.2 (.inl hb))
    obtain⟨k2,k3⟩:=an.data hf ts vs F2 ds' e2 h2 fun b hb=>hF b (List.mem_append.2 (.inr hb))
    refine⟨by simp[k2],fun j d u a1 a2=>?_⟩
    cases j with
    | zero=>
      obtain rfl:d'=d:=by simpa using a1
      obtain rfl:v=u:=by simpa using a2
      exact k1
    | succ j=>exact k3 j d u (by simpa using a1) (by simpa using a2)
   ·cases hd
theorem az.data(hf:∀b,ok b→b<w.heap.size→ok' b∧w.heap[b]?=w.heap[b]?):∀(xs:List (List T))(us:List (List Value))(F:List Nat)(ys:List (List D)),aU xs=some ys→az P w ok ν st xs us F→(∀b∈F,ok' b)→us.length=ys.length∧xs.length=ys.length∧∀(i:Nat)(x:List D)(u:List Value),ys[i]?=some x→us[i]?=some u→x.length=u.length∧∀(j:Nat)(d:D)(v:Value),x[j]?=some d→u[j]?=some v→cI w ok' d v
 | [],[],F,ys,hd,_,_=>by
   simp only[aU,Option.some.injEq] at hd
   rw[←hd]
   simp
 | [],_::_,F,ds,_,h,_=>by simp[az] at h
 | _::_,[],F,ds,_,h,_=>by simp[az] at h
 | x::xs,u::us,F,ys,hd,h,hF=>by
   simp only[aU] at hd
   split at hd
   ·rename_i y' ys' e1 e2
    obtain rfl:=Option.some.inj hd
    simp only[az] at h
    obtain⟨F1,F2,h1,h2,rfl⟩:=h
    have k1:=an.data hf x u F1 y' e1 h1 fun b hb=>hF b (List.mem_append.2 (.inl hb))
    obtain⟨k2,k3,k4⟩:=az.data hf xs us F2 ys' e2 h2 fun b hb=>hF b (List.mem_append.2 (.inr hb))
    refine⟨by simp[k2],by simp[k3],fun i z q a1 a2=>?_⟩
    cases i with
    | zero=>
      obtain rfl:y'=z:=by simpa using a1
      obtain rfl:u=q:=by simpa using a2
      exact k1
    | succ i=>exact k4 i z q (by simpa using a1) (by simpa using a2)
   ·cases hd
end
mutual
theorem dV.still:∀(t:T)(v:Value)(F:List Nat),t.yF.isSome=true→dV P w ok ν st t v F→dV P w ok ν' st' t v F
 | .leaf x,v,F,_,h=>by simpa only[dV] using h
 | .ref j,v,F,hd,_=>by simp[T.yF] at hd
 | .own e xs,v,F,hd,h=>by
   simp only[T.yF] at hd
   simp only[dV] at h⊢
   obtain⟨us,F1,h1,h2,h3,h4⟩:=h
   refine⟨us,F1,h1,h2,az.still xs us F1 ?_ h3,h4⟩
   split at hd
   ·rename_i e;rw[e];rfl
   ·cases hd
theorem an.still:∀(ts:List T)(vs:List Value)(F:List Nat),(bX ts).isSome=true→an P w ok ν st ts vs F→an P w ok ν' st' ts vs F
 | [],[],F,_,h=>by simpa only[an] using h
 | [],_::_,F,_,h=>by simp[an] at h
 | _::_,[],F,_,h=>by simp[an] at h
 | t::ts,v::vs,F,hd,h=>by
   simp only[bX] at hd
   simp only[an] at h⊢
   obtain⟨F1,F2,h1,h2,h3⟩:=h
   split at hd
   ·rename_i e1 e2
    exact⟨F1,F2,dV.still t v F1 (by rw[e1];rfl) h1,an.still ts vs F2 (by rw[e2];rfl) h2,h3⟩
   ·cases hd
theorem az.still:∀(xs:List (List T))(us:List (List Value))(F:List Nat),(aU xs).isSome=true→az P w ok ν st xs us F→az P w ok ν' st' xs us F
 | [],[],F,_,h=>by simpa only[az] using h
 | [],_::_,F,_,h=>by simp[az] at h
 | _::_,[],F,_,h=>by simp[az] at h
 | x::xs,u::us,F,hd,h=>by
   simp only[aU] at hd
   simp only[az] at h⊢
   obtain⟨F1,F2,h1,h2,h3⟩:=h
   split at hd
   ·rename_i e1 e2
    exact⟨F1,F2,an.still x u F1 (by rw[e1];rfl) h1,az.still xs us F2 (by rw[e2];rfl) h2,h3⟩
   ·cases hd
end
def lift(xs:List (List D)):List (List T):=xs.map fun x=>x.map T.leaf
theorem qk:∀(x:List D),bX (x.map T.leaf)=some x
 | []=>rfl
 | d::x=>by simp[bX,T.yF,qk x]
theorem fQ:∀(xs:List (List D)),aU (lift xs)=some xs
 | []=>rfl
 | x::xs=>by
   have:=fQ xs
   simp only[lift] at this
   simp[lift,aU,qk,this]
theorem an.s8:∀{ds:List D}{vs:List Value},vs.length=ds.length→(∀(j:Nat)(d:D)(v:Value),ds[j]?=some d→vs[j]?=some v→cI w ok d v)→an P w ok ν st (ds.map T.leaf) vs []
 | [],[],_,_=>by simp[an]
 | d::ds,v::vs,hl,h=>by
   simp only[List.map_cons,an,dV]
   exact⟨[],[],⟨h 0 d v rfl rfl,rfl⟩,an.s8 (by simpa using hl) fun j d v a1 a2=>h (j+1) d v (by simpa using a1) (by simpa using a2),rfl⟩
 | [],_::_,hl,_=>by simp at hl
 | _::_,[],hl,_=>by simp at hl
theorem az.s8{sz:Nat}:∀{xs:List (List D)}{us:List (List Value)},aK w ok sz xs us→az P w ok ν st (lift xs) us []
 | [],[],_=>by simp[lift,az]
 | x::xs,u::us,h=>by
   simp only[lift,List.map_cons,az]
   refine⟨[],[],an.s8 ?_ fun j d v a1 a2=>h.hr 0 j x u d v rfl rfl a1 a2,az.s8 (sz:=sz) (xs:=xs) ⟨by simpa using h.len,fun i x hx=>h.hx (i+1) x (by simpa using hx),fun i u hu=>h.hu (i+1) u (by simpa using hu),fun i j x u d v a1 a2 a3 a4=>h.hr (i+1) j x u d v (by simpa using a1) (by simpa using a2) a3 a4⟩,rfl⟩
   rw[h.hu 0 u rfl,h.hx 0 x rfl]
 | [],_::_,h=>by have:=h.len;simp at this
 | _::_,[],h=>by have:=h.len;simp at this
theorem ko(xs:List (List D)):(lift xs).length=xs.length:=by simp[lift]
end
def cG:List (Option Nat)→Nat→Option (Option Nat)
 | [],_=>none
 | a::_,0=>some a
 | _::as,n+1=>cG as n
def vL(k:Nat):List (Option Nat)→Bool
 | []=>false
 | some j::r=>k == j||vL k r
 | none::r=>vL k r
def Qj:List (Option Nat)→Bool
 | []=>true
 | some j::r=>!vL j r&&Qj r
 | none::r=>Qj r
mutual
def wk(g:G)(m:List (Option Nat)):PV→PV→Prop
 | p,.any=>True
 | .aJ,.aJ=>True
 | .undef,.undef=>True
 | .aJ,.d y=>y= .bu []
 | .aJ,.acc k'=>cG m k'=some none
 | .d x,.d y=>x=y
 | .acc k,.d y=>F4 (g.at k) y∧vL k m=false
 | .acc k,.acc k'=>cG m k'=some (some k)
 | .ptr k off,.ptr k' off'=>cG m k'=some (some k)∧off=off'
 | .cq k i off sz,.cq k' i' off' sz'=>cG m k'=some (some k)∧i=i'∧off=off'∧sz=sz'
 | .cf xs i off,.cf ys j off'=>xs=ys∧i=j∧off=off'
 | .agg cs,.agg ds=>rF g m cs ds
 | .eL cs,.eL ds=>rF g m cs ds
 | .fn f cs,.fn f' ds=>f=f'∧rF g m cs ds
 | _,_=>False
def rF(g:G)(m:List (Option Nat)):List PV→List PV→Prop
 | [],[]=>True
 | p::ps,q::qs=>wk g m p q∧rF g m ps qs
 | _,_=>False
end
def tu(g:G)(m:List (Option Nat)):En→En→Prop
 | _,.dead=>True
 | .box cs,.box ds=>rF g m cs ds
 | .acc e xs,.acc e' ys=>e=e'∧xs=ys
 | .acc e xs,.bM e' ys=>e=e'∧lift xs=ys
 | .bM e xs,.bM e' ys=>e=e'∧xs=ys∧(aU xs).isSome=true
 | .map kvs,.map kvs'=>kvs=kvs'
 | _,_=>False
def fm(g:G)(m:List (Option Nat)):List (Option Nat)→List (Option En)→Prop
 | [],[]=>True
 | some k::ks,some e'::es=>(∃e,g.at k=some e∧tu g m e e')∧fm g m ks es
 | none::ks,some (.acc _ xs)::es=>xs=[]∧fm g m ks es
 | none::ks,some (.bM _ xs)::es=>xs=[]∧fm g m ks es
 | _,_=>False
def keeps:Nat→Nat→List (Option Nat)→Bool
 | 0,_,_=>true
 | n+1,i,some j::r=>i == j&&keeps n (i+1) r
 | _,_,_=>false
def Gz(k:Nat):List (Option Nat)→List (Option En)→Bool
 | some j::r,some e::es=>(e.live&&k == j)||Gz k r es
 | _::r,_::es=>Gz k r es
 | _,_=>false
def tx:List (Option Nat)→List (Option En)→Bool
 | some j::r,some e::es=>(!e.live|| !Gz j r es)&&tx r es
 | _::r,_::es=>tx r es
 | _,_=>true
structure Wk(n0:Nat)(m:List (Option Nat))(g g':G):Prop where
 s:rF g m g.sl g'.sl
 p:fm g m m g'.st
 Mw:tx m g'.st=true
 keep:keeps n0 0 m=true
theorem zX:∀{m:List (Option Nat)}{i k:Nat},cG m i=some (some k)→vL k m=true
 | [],_,_,h=>by simp[cG] at h
 | a::as,0,k,h=>by
   simp only[cG,Option.some.injEq] at h
   subst h
   simp[vL]
 | a::as,n+1,k,h=>by
   simp only[cG] at h
   have:=zX h
   cases a<;>simp[vL,this]
theorem Bz:∀{m:List (Option Nat)}{es:List (Option En)}{i k:Nat}{e:En},cG m i=some (some k)→aS es i=some e→e.live=true→Gz k m es=true
 | [],_,_,_,_,h,_,_=>by simp[cG] at h
 | _::_,[],i,_,_,_,h,_=>by cases i<;>simp[aS] at h
 | a::as,o::os,0,k,e,h,h2,h3=>by
   simp only[cG,Option.some.injEq] at h
   simp only[aS] at h2
   subst h h2
   simp[Gz,h3]
 | a::as,o::os,i+1,k,e,h,h2,h3=>by
   simp only[cG] at h
   simp only[aS] at h2
   have:=Bz h h2 h3
   cases a<;>cases o<;>simp[Gz,this]
theorem Ar:∀{m:List (Option Nat)}{es:List (Option En)},tx m es=true→∀{i j k:Nat}{e e':En},cG m i=some (some k)→cG m j=some (some k)→aS es i=some e→aS es j=some e'→e.live=true→e'.live=true→i=j
 | [],_,_,_,_,_,_,_,h,_,_,_,_,_=>by simp[cG] at h
 | _::_,[],_,i,_,_,_,_,_,_,h,_,_,_=>by cases i<;>simp[aS] at h
 | a::as,o::os,hn,0,0,_,_,_,_,_,_,_,_,_=>rfl
 | a::as,o::os,hn,0,j+1,k,e,e',h1,h2,g1,g2,l1,l2=>by
   simp only[cG,Option.some.injEq] at h1 h2
   simp only[aS] at g1 g2
   subst h1 g1
   have:=Bz h2 g2 l2
   simp[tx,this,l1] at hn
 | a::as,o::os,hn,i+1,0,k,e,e',h1,h2,g1,g2,l1,l2=>by
   simp only[cG,Option.some.injEq] at h1 h2
   simp only[aS] at g1 g2
   subst h2 g2
   have:=Bz h1 g1 l1
   simp[tx,this,l2] at hn
 | a::as,o::os,hn,i+1,j+1,k,e,e',h1,h2,g1,g2,l1,l2=>by
   simp only[cG] at h1 h2
   simp only[aS] at g1 g2
   have hn':tx as os=true:=by
    cases a<;>cases o<;>simp only[tx,Bool.and_eq_true] at hn<;>first|exact hn|exact hn.2
   rw[Ar hn' h1 h2 g1 g2 l1 l2]
theorem xC:∀{n i:Nat}{m:List (Option Nat)},keeps n i m=true→∀j,j<n→cG m j=some (some (i+j))
 | 0,_,_,_,j,h=>by omega
 | n+1,i,[],h,_,_=>by simp[keeps] at h
 | n+1,i,none::r,h,_,_=>by simp[keeps] at h
 | n+1,i,some a::r,h,j,hj=>by
   simp only[keeps,Bool.and_eq_true,beq_iff_eq] at h
   obtain⟨rfl,h2⟩:=h
   cases j with
   | zero=>rfl
   | succ j=>
     simp only[cG]
     rw[xC h2 j (by omega)]
     congr 2;omega
theorem wO{g:G}{m:List (Option Nat)}:∀{ks:List (Option Nat)}{es:List (Option En)},fm g m ks es→∀(i:Nat)(e':En),aS es i=some e' →
 (∃k e,cG ks i=some (some k)∧g.at k=some e∧tu g m e e')∨(cG ks i=some none∧∃t,e'= .acc t []∨e'= .bM t [])
 | [],[],_,i,e',h=>by cases i<;>simp[aS] at h
 | some k::ks,some e::es,hw,0,e',h=>by
   simp only[fm] at hw
   obtain⟨⟨e0,h1,h2⟩,_⟩:=hw
   obtain rfl:e=e':=by simpa[aS] using h
   exact .inl ⟨k,e0,rfl,h1,h2⟩
 | some k::ks,some e::es,hw,i+1,e',h=>by
   simp only[fm] at hw
   simp only[cG]
   exact wO hw.2 i e' (by simpa[aS] using h)
 | none::ks,some (.acc t xs)::es,hw,0,e',h=>by
   simp only[fm] at hw
   obtain rfl:En.acc t xs=e':=by simpa[aS] using h
   exact .inr ⟨rfl,t,.inl (by rw[hw.1])⟩
 | none::ks,some (.acc t xs)::es,hw,i+1,e',h=>by
   simp only[fm] at hw
   simp only[cG]
   exact wO hw.2 i e' (by simpa[aS] using h)
 | none::ks,some (.bM t xs)::es,hw,0,e',h=>by
   simp only[fm] at hw
   obtain rfl:En.bM t xs=e':=by simpa[aS] using h
   exact .inr ⟨rfl,t,.inr (by rw[hw.1])⟩
 | none::ks,some (.bM t xs)::es,hw,i+1,e',h=>by
   simp only[fm] at hw
   simp only[cG]
   exact wO hw.2 i e' (by simpa[aS] using h)
 | none::ks,some (.box _)::es,hw,_,_,_=>by simp[fm] at hw
 | none::ks,some .dead::es,hw,_,_,_=>by simp[fm] at hw
 | none::ks,some (.map _)::es,hw,_,_,_=>by simp[fm] at hw
 | some k::ks,none::es,hw,_,_,_=>by simp[fm] at hw
 | none::ks,none::es,hw,_,_,_=>by simp[fm] at hw
 | some k::ks,[],hw,_,_,_=>by simp[fm] at hw
 | none::ks,[],hw,_,_,_=>by simp[fm] at hw
 | [],_::_,hw,_,_,_=>by simp[fm] at hw
theorem pG{g:G}{m:List (Option Nat)}:∀{ks:List (Option Nat)}{es:List (Option En)},fm g m ks es→∀(i:Nat)(x:Option Nat),cG ks i=some x→(aS es i).isSome=true
 | [],[],_,i,x,h=>by simp[cG] at h
 | some k::ks,some e::es,hw,0,x,h=>rfl
 | some k::ks,some e::es,hw,i+1,x,h=>by
   simp only[fm] at hw
   simp only[aS]
   exact pG hw.2 i x (by simpa[cG] using h)
 | none::ks,some (.acc t xs)::es,hw,0,x,h=>rfl
 | none::ks,some (.acc t xs)::es,hw,i+1,x,h=>by
   simp only[fm] at hw
   simp only[aS]
   exact pG hw.2 i x (by simpa[cG] using h)
 | none::ks,some (.bM t xs)::es,hw,0,x,h=>rfl
 | none::ks,some (.bM t xs)::es,hw,i+1,x,h=>by
   simp only[fm] at hw
   simp only[aS]
   exact pG hw.2 i x (by simpa[cG] using h)
 | none::ks,some (.box _)::es,hw,_,_,_=>by simp[fm] at hw
 | none::ks,some .dead::es,hw,_,_,_=>by simp[fm] at hw
 | none::ks,some (.map _)::es,hw,_,_,_=>by simp[fm] at hw
 | some k::ks,none::es,hw,_,_,_=>by simp[fm] at hw
 | none::ks,none::es,hw,_,_,_=>by simp[fm] at hw
 | some k::ks,[],hw,_,_,_=>by simp[fm] at hw
 | none::ks,[],hw,_,_,_=>by simp[fm] at hw
 | [],_::_,hw,_,_,_=>by simp[fm] at hw
def H0(ν:Nat→Nm)(m:List (Option Nat))(i:Nat):Nm:=
 match cG m i with
 | some (some k)=>ν k
 | _=>⟨.slice none 0 0,[]⟩
theorem eH{ν:Nat→Nm}{m:List (Option Nat)}{i k:Nat}(h:cG m i=some (some k)):H0 ν m i=ν k:=by simp[H0,h]
theorem fY{ν:Nat→Nm}{m:List (Option Nat)}{i:Nat}(h:cG m i=some none):H0 ν m i=⟨.slice none 0 0,[]⟩:=by simp[H0,h]
section
variable{w:World}{ok ok':Nat→Prop}{ν:Nat→Nm}{g:G}{m:List (Option Nat)}{st':Nat→Option En}
mutual
theorem af.wk(hf:∀b,ok b→b<w.heap.size→ok' b∧w.heap[b]?=w.heap[b]?)(hst:∀i x,cG m i=some x→(st' i).isSome=true)
 (hacc:∀k y,F4 (g.at k) y→vL k m=false→cI w ok' y (ν k).v) :
 ∀(p q:PV)(v:Value),wk g m p q→af w ok ν g.at p v→af w ok' (H0 ν m) st' q v
 | p,.any,_,_,_=>by simp[af]
 | .aJ,.aJ,v,_,h=>by simpa[af] using h
 | .undef,.undef,v,_,h=>by simpa[af] using h
 | .aJ,.d y,v,hw,h=>by
   simp only[Eng.wk] at hw
   simp only[af] at h⊢
   rw[hw,h];exact .nil
 | .aJ,.acc k',v,hw,h=>by
   simp only[Eng.wk] at hw
   simp only[af] at h⊢
   rw[fY hw]
   exact⟨hst _ _ hw,h⟩
 | .d x,.d y,v,hw,h=>by
   simp only[Eng.wk] at hw
   simp only[af] at h⊢
   rw[←hw]
   exact h.frame hf (Nat.le_refl _)
 | .acc k,.d y,v,hw,h=>by
   simp only[Eng.wk] at hw
   simp only[af] at h⊢
   rw[h.2]
   exact hacc k y hw.1 hw.2
 | .acc k,.acc k',v,hw,h=>by
   simp only[Eng.wk] at hw
   simp only[af] at h⊢
   rw[eH hw]
   exact⟨hst _ _ hw,h.2⟩
 | .ptr k off,.ptr k' off',v,hw,h=>by
   simp only[Eng.wk] at hw
   obtain⟨hw,rfl⟩:=hw
   simp only[af] at h⊢
   rw[eH hw]
   exact⟨hst _ _ hw,h.2⟩
 | .cq k i off sz,.cq k' i' off' sz',v,hw,h=>by
   simp only[Eng.wk] at hw
   obtain⟨hw,rfl,rfl,rfl⟩:=hw
   simp only[af] at h⊢
   rw[eH hw]
   exact⟨hst _ _ hw,h.2⟩
 | .cf xs i off,.cf ys j off',v,hw,h=>by
   simp only[Eng.wk] at hw
   obtain⟨rfl,rfl,rfl⟩:=hw
   simp only[af] at h⊢
   obtain⟨b,o,cap,h1,h2,h3⟩:=h
   exact⟨b,o,cap,h1.frame hf (Nat.le_refl _),h2,h3⟩
 | .agg cs,.agg ds,v,hw,h=>by
   simp only[Eng.wk] at hw
   simp only[af] at h⊢
   obtain⟨vs,rfl,h⟩:=h
   exact⟨vs,rfl,ae.wk hf hst hacc cs ds vs hw h⟩
 | .eL cs,.eL ds,v,hw,h=>by
   simp only[Eng.wk] at hw
   simp only[af] at h⊢
   obtain⟨vs,rfl,h⟩:=h
   exact⟨vs,rfl,ae.wk hf hst hacc cs ds vs hw h⟩
 | .fn f cs,.fn f' ds,v,hw,h=>by
   simp only[Eng.wk] at hw
   obtain⟨rfl,hw⟩:=hw
   simp only[af] at h⊢
   obtain⟨vs,rfl,h⟩:=h
   exact⟨vs,rfl,ae.wk hf hst hacc cs ds vs hw h⟩
 | .any,.undef,_,hw,_ | .any,.aJ,_,hw,_ | .any,.d _,_,hw,_ | .any,.agg _,_,hw,_ | .any,.eL _,_,hw,_ | .any,.ptr _ _,_,hw,_ | .any,.acc _,_,hw,_ | .any,.cq _ _ _ _,_,hw,_ | .any,.cf _ _ _,_,hw,_ | .any,.fn _ _,_,hw,_=>by simp[Eng.wk] at hw
 | .undef,.aJ,_,hw,_ | .undef,.d _,_,hw,_ | .undef,.agg _,_,hw,_ | .undef,.eL _,_,hw,_ | .undef,.ptr _ _,_,hw,_ | .undef,.acc _,_,hw,_ | .undef,.cq _ _ _ _,_,hw,_ | .undef,.cf _ _ _,_,hw,_ | .undef,.fn _ _,_,hw,_=>by simp[Eng.wk] at hw
 | .aJ,.undef,_,hw,_ | .aJ,.agg _,_,hw,_ | .aJ,.eL _,_,hw,_ | .aJ,.ptr _ _,_,hw,_ | .aJ,.cq _ _ _ _,_,hw,_ | .aJ,.cf _ _ _,_,hw,_ | .aJ,.fn _ _,_,hw,_=>by simp[Eng.wk] at hw
 | .d _,.undef,_,hw,_ | .d _,.aJ,_,hw,_ | .d _,.agg _,_,hw,_ | .d _,.eL _,_,hw,_ | .d _,.ptr _ _,_,hw,_ | .d _,.acc _,_,hw,_ | .d _,.cq _ _ _ _,_,hw,_ | .d _,.cf _ _ _,_,hw,_ | .d _,.fn _ _,_,hw,_=>by simp[Eng.wk] at hw
 | .agg _,.undef,_,hw,_ | .agg _,.aJ,_,hw,_ | .agg _,.d _,_,hw,_ | .agg _,.eL _,_,hw,_ | .agg _,.ptr _ _,_,hw,_ | .agg _,.acc _,_,hw,_ | .agg _,.cq _ _ _ _,_,hw,_ | .agg _,.cf _ _ _,_,hw,_ | .agg _,.fn _ _,_,hw,_=>by simp[Eng.wk] at hw
 | .eL _,.undef,_,hw,_ | .eL _,.aJ,_,hw,_ | .eL _,.agg _,_,hw,_ | .eL _,.d _,_,hw,_ | .eL _,.ptr _ _,_,hw,_ | .eL _,.acc _,_,hw,_ | .eL _,.cq _ _ _ _,_,hw,_ | .eL _,.cf _ _ _,_,hw,_ | .eL _,.fn _ _,_,hw,_=>by simp[Eng.wk] at hw
 | .ptr _ _,.undef,_,hw,_ | .ptr _ _,.aJ,_,hw,_ | .ptr _ _,.agg _,_,hw,_ | .ptr _ _,.d _,_,hw,_ | .ptr _ _,.eL _,_,hw,_ | .ptr _ _,.acc _,_,hw,_ | .ptr _ _,.cq _ _ _ _,_,hw,_ | .ptr _ _,.cf _ _ _,_,hw,_ | .ptr _ _,.fn _ _,_,hw,_=>by simp[Eng.wk] at hw
 | .acc _,.undef,_,hw,_ | .acc _,.aJ,_,hw,_ | .acc _,.agg _,_,hw,_ | .acc _,.eL _,_,hw,_ | .acc _,.ptr _ _,_,hw,_ | .acc _,.cq _ _ _ _,_,hw,_ | .acc _,.cf _ _ _,_,hw,_ | .acc _,.fn _ _,_,hw,_=>by simp[Eng.wk] at hw
 | .cq _ _ _ _,.undef,_,hw,_ | .cq _ _ _ _,.aJ,_,hw,_ | .cq _ _ _ _,.agg _,_,hw,_ | .cq _ _ _ _,.d _,_,hw,_ | .cq _ _ _ _,.eL _,_,hw,_ | .cq _ _ _ _,.ptr _ _,_,hw,_ | .cq _ _ _ _,.acc _,_,hw,_ | .cq _ _ _ _,.cf _ _ _,_,hw,_ | .cq _ _ _ _,.fn _ _,_,hw,_=>by simp[Eng.wk] at hw
 | .cf _ _ _,.undef,_,hw,_ | .cf _ _ _,.aJ,_,hw,_ | .cf _ _ _,.agg _,_,hw,_ | .cf _ _ _,.d _,_,hw,_ | .cf _ _ _,.eL _,_,hw,_ | .cf _ _ _,.ptr _ _,_,hw,_ | .cf _ _ _,.acc _,_,hw,_ | .cf _ _ _,.cq _ _ _ _,_,hw,_ | .cf _ _ _,.fn _ _,_,hw,_=>by simp[Eng.wk] at hw
 | .fn _ _,.undef,_,hw,_ | .fn _ _,.aJ,_,hw,_ | .fn _ _,.agg _,_,hw,_ | .fn _ _,.d _,_,hw,_ | .fn _ _,.eL _,_,hw,_ | .fn _ _,.ptr _ _,_,hw,_ | .fn _ _,.acc _,_,hw,_ | .fn _ _,.cq _ _ _ _,_,hw,_ | .fn _ _,.cf _ _ _,_,hw,_=>by simp[Eng.wk] at hw
theorem ae.wk(hf:∀b,ok b→b<w.heap.size→ok' b∧w.heap[b]?=w.heap[b]?)(hst:∀i x,cG m i=some x→(st' i).isSome=true)
 (hacc:∀k y,F4 (g.at k) y→vL k m=false→cI w ok' y (ν k).v) :
 ∀(ps qs:List PV)(vs:List Value),rF g m ps qs→ae w ok ν g.at ps vs→ae w ok' (H0 ν m) st' qs vs
 | [],[],vs,_,h=>by cases vs<;>simp[ae] at h⊢
 | p::ps,q::qs,[],_,h=>by simp[ae] at h
 | p::ps,q::qs,v::vs,hw,h=>by
   simp only[rF] at hw
   simp only[ae] at h⊢
   exact⟨af.wk hf hst hacc p q v hw.1 h.1,ae.wk hf hst hacc ps qs vs hw.2 h.2⟩
 | [],_::_,_,hw,_=>by simp[rF] at hw
 | _::_,[],_,hw,_=>by simp[rF] at hw
end
end
theorem Ie:∀{g:G}{m:List (Option Nat)}{ps qs:List PV},rF g m ps qs→ps.length=qs.length
 | _,_,[],[],_=>rfl
 | _,_,p::ps,q::qs,h=>by simp only[rF] at h;simp[Ie h.2]
 | _,_,[],_::_,h=>by simp[rF] at h
 | _,_,_::_,[],h=>by simp[rF] at h
theorem Hm{w:World}{ok:Nat→Prop}{ν ν':Nat→Nm}{g:G}{m:List (Option Nat)}{st':Nat→Option En}{ok':Nat→Prop}(hv:∀(p q:PV)(v:Value),wk g m p q→af w ok ν g.at p v→af w ok' ν' st' q v) :
 ∀{ps qs:List PV},rF g m ps qs→∀(t:Nat)(v:Value),af w ok ν g.at (nth ps t) v→af w ok' ν' st' (nth qs t) v
 | [],[],_,t,v,_=>by simp[nth,af]
 | p::ps,q::qs,h,0,v,hr=>by simp only[rF] at h;simp only[nth] at hr⊢;exact hv p q v h.1 hr
 | p::ps,q::qs,h,t+1,v,hr=>by simp only[rF] at h;simp only[nth] at hr⊢;exact Hm hv h.2 t v hr
 | [],_::_,h,_,_,_=>by simp[rF] at h
 | _::_,[],h,_,_,_=>by simp[rF] at h
theorem CM{P:Program}{n0:Nat}{m:List (Option Nat)}{g g':G}(h:Wk n0 m g g'):jv P n0 g g':=by
 intro X ν a w hp hs
 refine⟨H0 ν m,?_⟩
 have hst:∀i x,cG m i=some x→(g'.at i).isSome=true:=fun i x hx=>pG h.p i x hx
 have hat:=fun i e' he=>wO h.p i e' he
 have hlive:∀e e',tu g m e e'→e'.live=true→e.live=true:=by
  intro e e' hw hl
  cases e' with
  | dead=>cases hl
  | box ds=>cases e<;>first|rfl|(simp[tu] at hw)
  | acc t ys=>cases e<;>first|rfl|(simp[tu] at hw)
  | bM t ys=>cases e<;>first|rfl|(simp[tu] at hw)
  | map kvs=>cases e<;>first|rfl|(simp[tu] at hw)
 have howned:∀b,Own (H0 ν m) g'.at b→∃i k e,cG m i=some (some k)∧g.at k=some e∧e.live=true∧(ν k).has b:=by
  rintro b ⟨i,e',h1,h2,h3⟩
  rcases hat i e' h1 with⟨k,e,k1,k2,k3⟩|⟨k1,t,rfl|rfl⟩
  ·rw[eH k1] at h3
   exact⟨i,k,e,k1,k2,hlive e e' k3 h2,h3⟩
  all_goals
   rw[fY k1] at h3
   simp[Nm.has,nS] at h3
 have hsub:∀b,Own (H0 ν m) g'.at b→Own ν g.at b:=fun b hb=>by
  obtain⟨i,k,e,k1,k2,k3,k4⟩:=howned b hb
  exact⟨k,e,k2,k3,k4⟩
 have hf:∀b,aL X ν g.at b→b<w.heap.size→aL X (H0 ν m) g'.at b∧w.heap[b]?=w.heap[b]?:=fun b hb _=>⟨⟨fun ho=>hb.1 (hsub b ho),hb.2⟩,rfl⟩
 have hfr:∀k e,g.at k=some e→e.live=true→vL k m=false→∀b,(ν k).has b→aL X (H0 ν m) g'.at b:=by
  intro k e hk hl hm b hb
  have hown:Own ν g.at b:=⟨k,_,hk,hl,hb⟩
  refine⟨fun ho=>?_,hs.Cg hown⟩
  obtain⟨i,k',e',k1,k2,k3,k4⟩:=howned b ho
  have:=hs.inj k k' _ _ b hk k2 hl k3 hb k4
  subst this
  rw[zX k1] at hm
  cases hm
 have hacc:∀k y,F4 (g.at k) y→vL k m=false→cI w (aL X (H0 ν m) g'.at) y (ν k).v:=by
  intro k y hk hm
  cases hgk:g.at k with
  | none=>rw[hgk] at hk;exact hk.elim
  | some e=>
    rw[hgk] at hk
    cases e with
    | box cs=>exact hk.elim
    | dead=>exact hk.elim
    | map kvs=>exact hk.elim
    | acc e xs=>
      simp only[F4] at hk
      rw[hk]
      obtain⟨us,h1,h2,h3,h4⟩:=hs.en k _ hgk
      exact n9 h1 h2 h3 (fun b hb=>hfr k _ hgk rfl hm b (.inl hb)) hf
    | bM e xs=>
      simp only[F4] at hk
      obtain⟨ys,h1,rfl⟩:=hk
      have hen:=hs.en k _ hgk
      exact dV.data hf (.own e xs) _ _ _ (by simp only[T.yF,h1]) hen.1 fun b hb=>hfr k _ hgk rfl hm b (gN.2 hb)
 have hrep:=fun p q v=>af.wk (w:=w) (ok:=aL X ν g.at) (ok':=aL X (H0 ν m) g'.at) (ν:=ν) (g:=g) (m:=m) (st':=g'.at) hf hst hacc p q v
 have hreps:=fun ps qs vs=>ae.wk (w:=w) (ok:=aL X ν g.at) (ok':=aL X (H0 ν m) g'.at) (ν:=ν) (g:=g) (m:=m) (st':=g'.at) hf hst hacc ps qs vs
 refine⟨by rw[hs.size,Ie h.s],fun t=>?_,fun i e' he=>?_,fun i j e e' b h1 h2 h3 h4 h5 h6=>?_,fun b hb=>hs.base b (hsub b hb),fun i hi=>?_,fun i hi=>?_,hs.wS,hs.rj,hs.defs⟩
 ·exact Hm hrep h.s t _ (hs.sl t)
 ·rcases hat i e' he with⟨k,e,k1,k2,k3⟩|⟨k1,t,rfl|rfl⟩
  ·have hen:=hs.en k e k2
   cases e' with
   | dead=>trivial
   | box ds=>
     cases e with
     | box cs=>
       obtain⟨b,vs,T,q1,q2,q3,q4⟩:=hen
       simp only[tu] at k3
       simp only[eJ,eH k1]
       exact⟨b,vs,T,q1,q2,hreps cs ds vs k3 q3,q4⟩
     | acc t xs=>simp[tu] at k3
     | bM t xs=>simp[tu] at k3
     | dead=>simp[tu] at k3
     | map kvs=>simp[tu] at k3
   | acc t ys=>
     cases e with
     | acc t' xs=>
       simp only[tu] at k3
       obtain⟨rfl,rfl⟩:=k3
       obtain⟨us,q1,q2,q3⟩:=hen
       simp only[eJ,eH k1]
       exact⟨us,q1,q2.frame hf (Nat.le_refl _),q3⟩
     | box cs=>simp[tu] at k3
     | dead=>simp[tu] at k3
     | map kvs=>simp[tu] at k3
     | bM t xs=>simp[tu] at k3
   | bM t ys=>
     cases e with
     | acc t' xs=>
       simp only[tu] at k3
       obtain⟨rfl,rfl⟩:=k3
       obtain⟨us,q1,q2,q3,q4⟩:=hen
       simp only[eJ,dV,eH k1,q4,ko,List.append_nil]
       refine⟨⟨us,[],q1,q2.hu,az.s8 (q2.frame hf (Nat.le_refl _)),q3,by simp⟩,?_⟩
       unfold hb
       split<;>simp
     | bM t' xs=>
       simp only[tu] at k3
       obtain⟨rfl,rfl,k4⟩:=k3
       simp only[eJ,eH k1]
       refine⟨dV.still (.own t' xs) _ _ ?_ (dV.frame hf (Nat.le_refl _) (eS.refl _ _) _ _ _ hen.1 fun _ _=>rfl),hen.2⟩
       simp only[T.yF]
       obtain⟨zs,hz⟩:=Option.isSome_iff_exists.1 k4
       rw[hz];rfl
     | box cs=>simp[tu] at k3
     | dead=>simp[tu] at k3
     | map kvs=>simp[tu] at k3
   | map kvs'=>
     cases e with
     | map kvs=>
       simp only[tu] at k3
       subst k3
       simp only[eJ,eH k1] at hen⊢
       exact hen
     | box cs=>simp[tu] at k3
     | acc t xs=>simp[tu] at k3
     | bM t xs=>simp[tu] at k3
     | dead=>simp[tu] at k3
  ·simp only[eJ,fY k1]
   exact⟨[],⟨by simp,.inl ⟨rfl,rfl⟩⟩,aK.nil _ _ _,by simp,trivial⟩
  ·simp only[eJ,fY k1,dV]
   exact⟨⟨[],[],⟨by simp,.inl ⟨rfl,rfl⟩⟩,by simp,by simp[az],by simp,rfl⟩,by simp[hb,nS]⟩
 ·rcases hat i e h1 with⟨k,e1,k1,k2,k3⟩|⟨k1,t,rfl|rfl⟩
  ·rcases hat j e' h2 with⟨l,e2,l1,l2,l3⟩|⟨l1,t,rfl|rfl⟩
   ·rw[eH k1] at h5
    rw[eH l1] at h6
    have:=hs.inj k l e1 e2 b k2 l2 (hlive _ _ k3 h3) (hlive _ _ l3 h4) h5 h6
    subst this
    exact Ar h.Mw k1 l1 h1 h2 h3 h4
   ·rw[fY l1] at h6;simp[Nm.has,nS] at h6
   ·rw[fY l1] at h6;simp[Nm.has,nS] at h6
  ·rw[fY k1] at h5;simp[Nm.has,nS] at h5
  ·rw[fY k1] at h5;simp[Nm.has,nS] at h5
 ·obtain⟨e',he⟩:=Option.isSome_iff_exists.1 hi
  rcases hat i e' he with⟨k,e,k1,k2,k3⟩|⟨k1,t,rfl|rfl⟩
  ·rw[eH k1];exact hs.nu k (by rw[k2];rfl)
  ·rw[fY k1];rfl
  ·rw[fY k1];rfl
 ·have hlt:=hp i hi
  have hl:=xC h.keep i hlt
  rw[Nat.zero_add] at hl
  exact⟨by rw[eH hl];exact(hs.par i hi).1,hst i _ hl⟩
end Go.Eng
namespace Go.Eng
open Go.RowKit
theorem Sat.KE{P:Program}{X:Cx}{ν:Nat→Nm}{g:G}{a:Act}{w w':World}(h:Sat P X ν g a w)(hchg:kF (fun _=>False) w w')(d:Nat)(p:PV)(v:Value)
 (hv:(∀b,w.heap.size≤b→aL X ν g.at b)→(∀b,aL X ν g.at b→b<w.heap.size→aL X ν g.at b∧w'.heap[b]?=w.heap[b]?)→af w' (aL X ν g.at) ν g.at p v) :
 Sat P X ν ⟨fb g.sl d p,g.st⟩ (a.put (some d) v) w':=by
 have hfree:∀b,w.heap.size≤b→aL X ν g.at b:=fun b hb=>⟨fun ho=>by have:=h.lt ho;omega,fun hz=>by have:=(h.wS b hz).1;have:=h.rj.size;omega⟩
 have hsame:∀b,aL X ν g.at b→b<w.heap.size→aL X ν g.at b∧w'.heap[b]?=w.heap[b]?:=fun b hb hlt=>⟨hb,hchg.block b hlt (fun hf=>hf)⟩
 refine h.My (g':=⟨fb g.sl d p,g.st⟩) (fun _=>False) hchg (fun _ hb=>hb.elim) (eS.refl _ _) (fun k e he=>.inl ⟨he,rfl,fun _ _ _ hb=>hb⟩) (fun k e b he hl hb=>.inl ⟨k,e,he,hl,hb⟩) ?_ (fun k hk=>.inl hk) ?_ ?_ rfl
 ·intro k k' e e' b h1 h2 h3 h4 h5 h6
  exact h.inj k k' e e' b h1 h2 h3 h4 h5 h6
 ·simp[size_put,du,h.size]
 ·intro t
  simp only[kp,fW,h.size]
  by_cases hc:t=d∧d<g.sl.length
  ·simp only[hc,and_self,if_true]
   exact .inr (hv hfree hsame)
  ·simp only[hc,if_false]
   exact .inl ⟨trivial,trivial⟩
theorem zW(off:Nat):∀(l:List Value)(n:Nat)(cells:Array Value)(k:Nat),off+n+l.length≤cells.size →
 ((l.zipIdx n).foldl (fun cs (x:Value×Nat)=>cs.setIfInBounds (off+x.2) x.1) cells)[k]?=if off+n≤k∧k<off+n+l.length then l[k-(off+n)]? else cells[k]?
 | [],n,cells,k,_=>by
   have:¬ (off+n≤k∧k<off+n+0):=by omega
   simp
   intro h1 h2;omega
 | c::l,n,cells,k,hl=>by
   simp only[List.zipIdx_cons,List.foldl_cons]
   simp only[List.length_cons] at hl
   rw[zW off l (n+1) _ k (by simp;omega)]
   by_cases h1:off+(n+1)≤k∧k<off+(n+1)+l.length
   ·rw[if_pos h1,if_pos (by simp only[List.length_cons];omega)]
    have:k-(off+n)=(k-(off+(n+1)))+1:=by omega
    rw[this];simp
   ·rw[if_neg h1]
    by_cases h2:k=off+n
    ·subst h2
     have hlt:off+n<cells.size:=by omega
     rw[if_pos (by simp only[List.length_cons];omega)]
     simp[hlt]
    ·rw[if_neg (by simp only[List.length_cons];omega)]
     simp[Array.getElem?_setIfInBounds,show ¬off+n=k from fun e=>h2 e.symm]
theorem Ed(off:Nat)(l:List Value)(cells:Array Value)(hl:off+l.length≤cells.size) :
 (l.zipIdx.foldl (fun cs (x:Value×Nat)=>cs.setIfInBounds (off+x.2) x.1) cells).toList=cells.toList.take off++(l++cells.toList.drop (off+l.length)):=by
 apply List.ext_getElem?
 intro k
 have h:=zW off l 0 cells k (by omega)
 simp only[Nat.add_zero] at h
 rw[Array.getElem?_toList,h]
 by_cases h1:k<off
 ·rw[if_neg (by omega),List.getElem?_append_left (by simp;omega),List.getElem?_take,if_pos h1]
  simp
 ·rw[List.getElem?_append_right (by simp;omega)]
  have e:(List.take off cells.toList).length=off:=by simp;omega
  rw[e]
  by_cases h2:k<off+l.length
  ·rw[if_pos (by omega),List.getElem?_append_left (by omega)]
  ·rw[if_neg (by omega),List.getElem?_append_right (by omega),List.getElem?_drop]
   have:off+l.length+(k-off-l.length)=k:=by omega
   rw[this];simp
def yI(places:List (Nat×Nat))(cs:List PV):List (Nat×PV)→Option (List PV)
 | []=>some cs
 | (i,p)::rest=>
   match places[i]? with
   | none=>none
   | some (off,sz)=>if p.whole=true∧(bt p).length=sz∧off+sz≤cs.length then yI places (qG cs off (bt p)) rest else none
theorem D1{w:World}{ok:Nat→Prop}{ν:Nat→Nm}{st:Nat→Option En}(hν:∀k,(st k).isSome=true→(ν k).v.oneCell'=true)(places:List (Nat×Nat))(ev:Operand→PV)(ρ:Operand→Value)(hev:∀x,af w ok ν st (ev x) (ρ x)) :
 ∀(ps:List (Nat×Operand))(cs:List PV)(cells:Array Value)(r:List PV),ae w ok ν st cs cells.toList→yI places cs (ps.map fun x=>(x.1,ev x.2))=some r →
 ∃cells',Instr.fill (places.toArray[·]?) cells (ps.map fun x=>(x.1,ρ x.2))=some cells'∧ae w ok ν st r cells'.toList
 | [],cs,cells,r,h,hr=>by
   simp only[List.map_nil,yI,Option.some.injEq] at hr
   subst hr
   exact⟨cells,rfl,h⟩
 | (i,x)::ps,cs,cells,r,h,hr=>by
   simp only[List.map_cons,yI] at hr
   split at hr
   ·cases hr
   ·rename_i off sz hpl
    split at hr
    ·rename_i hc
     obtain⟨h1,h2,h3⟩:=hc
     have hx:=(hev x).cells h1 hν
     have hxl:=hx.length
     have hcl:=h.length
     have hxs:(ρ x).cells.size=sz:=by rw[←h2,←hxl];simp
     have hcs:cells.size=cs.length:=by rw[←hcl];simp
     have hone:=Ed off (ρ x).cells.toList cells (by rw[hxl,hcs,h2];exact h3)
     have hrep:ae w ok ν st (qG cs off (bt (ev x))) ((ρ x).cells.toList.zipIdx.foldl (fun cs (x:Value×Nat)=>cs.setIfInBounds (off+x.2) x.1) cells).toList:=by
      rw[hone,hxl]
      exact(h.take off).append (hx.append (h.drop _))
     obtain⟨cells',k1,k2⟩:=D1 hν places ev ρ hev ps _ _ r hrep hr
     refine⟨cells',?_,k2⟩
     simp only[List.map_cons,Instr.fill]
     have hpl':(places.toArray[i]?:Option (Nat×Nat))=some (off,sz):=by simpa using hpl
     rw[hpl']
     simp only
     rw[if_neg (by simp only[hxs,hcs,ne_eq,not_true_eq_false,decide_false,Bool.false_or,decide_eq_true_eq];omega)]
     rw[←k1]
     congr 1
     rw[←Array.foldl_toList,Array.toList_zipIdx]
    ·cases hr
section
variable{E:Env}{g:G}{d:Nat}{ty:TypeId}{pos:String}{aft:Array Edge}{gd:Option (Nat×Bool)}{dn:Option Nat}
theorem L9(t:TypeId)(ps:List (Nat×Operand))(ti:TI)(fs:List (Nat×Nat×Nat))(r:List PV)(ht:E.ti t=some ti)(hty:ti.ty= .struct fs)
 (hr:yI (fs.map fun x=>(x.2.1,x.2.2)) ti.zero (ps.map fun x=>(x.1,g.ev x.2))=some r) :
 eh E.P ⟨some d,.build t ⟨ps⟩,ty,pos,aft,gd⟩ g ⟨ps.flatMap fun x=>aY x.2,[]⟩ ⟨some (d,.agg r),[]⟩:=by
 intro g2 hg
 have hmap:ps.map (fun x=>(x.1,g2.ev x.2))=ps.map (fun x=>(x.1,g.ev x.2)):=by
  have:∀(ps:List (Nat×Operand)),(∀t∈ps.flatMap (fun x=>aY x.2),t∈ps.flatMap (fun x=>aY x.2))→True:=fun _ _=>trivial
  apply List.map_congr_left
  intro x hx
  rw[hg.ev (x:=x.2) (fun t h=>List.mem_flatMap.2 ⟨x,hx,h⟩)]
 refine vz.val rfl fun X ν a w hs=>?_
 obtain⟨i,z,h1,h2,h4,h5,h6,h7⟩:=(E.ok t ti ht).info
 have hu:=(E.ok t ti ht).ty
 rw[hty] at hu
 obtain⟨fields,hu,hpl,_⟩:=hu
 rw[←hmap] at hr
 obtain⟨cells',k1,k2⟩:=D1 hs.nu (fs.map fun x=>(x.2.1,x.2.2)) g2.ev a.eval hs.ev ps ti.zero z.cells r (by rw[←h6];exact l7 _ _ _ _ _) hr
 refine⟨.agg cells',?_,by simp only[af];exact⟨cells'.toList,rfl,k2⟩⟩
 have hb:E.P.built t (ps.map fun x=>(x.1,a.eval x.2))=some cells':=by
  simp only[Program.built,h1,hu,h5,hpl,k1]
 have:=run_build (P:=E.P) w t ⟨ps.map fun x=>(x.1,a.eval x.2)⟩ cells' hb
 simp only[execOp,List.map_toArray,Sem.run_bind,this,Result.andThen_ok]
 rfl
def rowsOf:List PV→Option (List (List D))
 | []=>some []
 | p::ps=>if p.whole=true then match qM (bt p),rowsOf ps with|some x,some xs=>some (x::xs)|_,_=>none else none
def zG:Nat→List Nat→Bool
 | _,[]=>true
 | i,j::js=>i == j&&zG (i+1) js
def lJ(n:Nat):List (List D)→Bool
 | []=>true
 | x::xs=>x.length == n&&lJ n xs
theorem uw{w:World}{ok:Nat→Prop}{ν:Nat→Nm}{st:Nat→Option En}(hν:∀k,(st k).isSome=true→(ν k).v.oneCell'=true)(sz:Nat)(ev:Operand→PV)(ρ:Operand→Value)(hev:∀x,af w ok ν st (ev x) (ρ x)) :
 ∀(ps:List (Nat×Operand))(i:Nat)(pre:List Value)(cells:Array Value)(rows:List (List D)),zG i (ps.map (·.1))=true→rowsOf (ps.map fun x=>ev x.2)=some rows→lJ sz rows=true→pre.length=i*sz→cells.toList.take (i*sz)=pre→cells.size=(i+ps.length)*sz →
 ∃us:List (List Value),Instr.fill (fun i=>some (i*sz,sz)) cells (ps.map fun x=>(x.1,ρ x.2))=some ⟨pre++us.flatten⟩∧aK w ok sz rows us
 | [],i,pre,cells,rows,_,hr,_,hpl,hpre,hsz=>by
   simp only[List.map_nil,rowsOf,Option.some.injEq] at hr
   subst hr
   refine⟨[],?_,aK.nil _ _ _⟩
   simp only[List.map_nil,Instr.fill,List.flatten_nil,List.append_nil]
   congr 1
   rw[←hpre,List.take_of_length_le (by rw[Array.length_toList,hsz];exact Nat.le_refl _)]
 | (j,x)::ps,i,pre,cells,rows,hup,hr,hlen,hpl,hpre,hsz=>by
   simp only[List.map_cons,zG,Bool.and_eq_true,beq_iff_eq] at hup
   obtain⟨rfl,hup⟩:=hup
   simp only[List.map_cons,rowsOf] at hr
   split at hr
   ·rename_i hwh
    split at hr
    ·rename_i row rows' hrow hrows
     obtain rfl:=Option.some.inj hr
     simp only[lJ,Bool.and_eq_true,beq_iff_eq] at hlen
     have hx:=(hev x).cells hwh hν
     have hxl:=hx.length
     have hd:=pa hx hrow
     obtain⟨KS,hd2⟩:=tq hd
     have hxs:(ρ x).cells.toList.length=sz:=by rw[KS];exact hlen.1
     simp only[List.length_cons] at hsz
     have hmul:(i+(ps.length+1))*sz=i*sz+(sz+ps.length*sz):=by rw[Nat.add_mul,Nat.add_mul];omega
     have hone:=Ed (i*sz) (ρ x).cells.toList cells (by rw[hxs,hsz,hmul];omega)
     have hsz2:(((ρ x).cells.toList.zipIdx.foldl (fun cs (x:Value×Nat)=>cs.setIfInBounds (i*sz+x.2) x.1) cells)).size=(i+1+ps.length)*sz:=by
      rw[←Array.length_toList,hone]
      simp only[List.length_append,List.length_take,List.length_drop,Array.length_toList,hsz,hxs]
      rw[hmul,show i+1+ps.length=i+(ps.length+1) by omega,hmul]
      omega
     obtain⟨us,k1,k2⟩:=uw hν sz ev ρ hev ps (i+1) (pre++(ρ x).cells.toList) _ rows' hup hrows hlen.2 (by rw[List.length_append,hpl,hxs,Nat.add_mul];omega)
      (by
       rw[hone,hpre,←List.append_assoc,List.take_append_of_le_length (by rw[List.length_append,hpl,hxs,Nat.add_mul];omega)]
       rw[List.take_of_length_le (by rw[List.length_append,hpl,hxs,Nat.add_mul];omega)]) hsz2
     refine⟨(ρ x).cells.toList::us,?_,k2.cons hlen.1 hxs hd2⟩
     have hxs':(ρ x).cells.size=sz:=by simpa using hxs
     simp only[List.map_cons,Instr.fill]
     rw[if_neg (by simp only[hxs',hsz,hmul,ne_eq,not_true_eq_false,decide_false,Bool.false_or,decide_eq_true_eq];omega)]
     rw[List.flatten_cons,←List.append_assoc,←k1]
     congr 1
     rw[←Array.foldl_toList,Array.toList_zipIdx]
    ·cases hr
   ·cases hr
theorem Hj{t e:Nat}{ti ei:TI}(ht:E.ti t=some ti)(hty:ti.ty= .slice e)(he:E.ti e=some ei){X:Cx}{ν:Nat→Nm}{g2:G}{a:Act}{w:World}(hs:Sat E.P X ν g2 a w)(ps:List (Nat×Operand))(rows:List (List D))
 (hup:zG 0 (ps.map (·.1))=true) (hr:rowsOf (ps.map fun x=>g2.ev x.2)=some rows) (hlen:lJ ei.n rows=true) (hbig:ps.length*ei.n≤16777216) {o:Oper} (ho:o.op= .buildSlice t ps.length ⟨ps⟩) :
 ∃us:List (List Value),(execOp a.eval o).run E.P w= .ok (.value (.slice (some ⟨w.heap.size,0,none⟩) ps.length ps.length)) (w.alloc (.cells ⟨us.flatten⟩ e))∧aK w (aL X ν g2.at) ei.n rows us:=by
 obtain⟨i,z,h1,h2,h4,h5,h6,h7⟩:=(E.ok e ei he).info
 have hu:=(E.ok t ti ht).ty
 rw[hty] at hu
 have hpos:=(E.ok e ei he).pos
 have hrowsl:∀(qs:List PV)(rows:List (List D)),rowsOf qs=some rows→rows.length=qs.length:=by
  intro qs
  induction qs with
  | nil=>intro rows h;simp[rowsOf] at h;simp[←h]
  | cons q qs ih=>
    intro rows h
    simp only[rowsOf] at h
    split at h
    ·split at h
     ·rename_i h1 h2
      obtain rfl:=Option.some.inj h
      simp[ih _ h2]
     ·cases h
    ·cases h
 have hrl:=hrowsl _ _ hr
 simp only[List.length_map] at hrl
 have key:∀init:Array Value,init.size=ps.length*ei.n→∃us:List (List Value),Instr.fill (fun i=>some (i*ei.n,ei.n)) init (ps.map fun x=>(x.1,a.eval x.2))=some ⟨us.flatten⟩∧aK w (aL X ν g2.at) ei.n rows us:=by
  intro init hi
  obtain⟨us,k1,k2⟩:=uw hs.nu ei.n g2.ev a.eval hs.ev ps 0 [] init rows hup hr hlen (by simp) (by simp) (by simpa using hi)
  exact⟨us,by simpa using k1,k2⟩
 by_cases hz:ps.length*ei.n=0
 ·obtain⟨us,k1,k2⟩:=key ((Array.range 0).map fun _=>default) (by rw[Array.size_map,Array.size_range,hz])
  refine⟨us,?_,k2⟩
  simp only[execOp,ho,List.map_toArray,Instr.buildSlice,Sem.run_bind,run_underlying hu,Result.andThen_ok,(E.ok e ei he).size w,hz]
  simp[k1,newRow]
 ·obtain⟨us,k1,k2⟩:=key ((Array.range (ps.length*ei.n)).map (z.cells[· % z.cells.size]!)) (by simp)
  refine⟨us,?_,k2⟩
  have hn:¬ps.length*ei.n>16777216:=by omega
  simp only[execOp,ho,List.map_toArray,Instr.buildSlice,Sem.run_bind,run_underlying hu,Result.andThen_ok,(E.ok e ei he).size w]
  simp[hn,hz,zeroValue,typeInfo,h1,h5,k1,newRow]
theorem rB:∀{qs:List PV}{rows:List (List D)},rowsOf qs=some rows→rows.length=qs.length
 | [],rows,h=>by simp[rowsOf] at h;simp[←h]
 | q::qs,rows,h=>by
   simp only[rowsOf] at h
   split at h
   ·split at h
    ·rename_i h1 h2
     obtain rfl:=Option.some.inj h
     simp[rB h2]
    ·cases h
   ·cases h
theorem Dm(w:World)(us:List Value)(e:TypeId):dB (w.alloc (.cells ⟨us⟩ e)) w.heap.size 0 us:=by
 intro j u hu
 simp only[World.cell?,kK,Nat.zero_add]
 simpa using hu
theorem KJ(t e n:Nat)(ps:List (Nat×Operand))(ti ei:TI)(rows:List (List D))(ht:E.ti t=some ti)(hty:ti.ty= .slice e)(he:E.ti e=some ei)(hn:n=ps.length)(hup:zG 0 (ps.map (·.1))=true)
 (hr:rowsOf (ps.map fun x=>g.ev x.2)=some rows) (hlen:lJ ei.n rows=true) (hbig:ps.length*ei.n≤16777216) :
 eh E.P ⟨some d,.buildSlice t n ⟨ps⟩,ty,pos,aft,gd⟩ g ⟨ps.flatMap fun x=>aY x.2,[]⟩ ⟨some (d,.d (.bu rows)),[]⟩:=by
 subst hn
 intro g2 hg
 have hmap:ps.map (fun x=>g2.ev x.2)=ps.map (fun x=>g.ev x.2):=by
  apply List.map_congr_left
  intro x hx
  rw[hg.ev (x:=x.2) (fun t h=>List.mem_flatMap.2 ⟨x,hx,h⟩)]
 rw[←hmap] at hr
 intro X ν a w next Q hs hnx
 obtain⟨us,hrun,hrr⟩:=Hj ht hty he hs ps rows hup hr hlen hbig (o:=⟨some d,.buildSlice t ps.length ⟨ps⟩,ty,pos,aft,gd⟩) rfl
 have hpos:=(E.ok e ei he).pos
 have hrl:=rB hr
 simp only[List.length_map] at hrl
 have hle:ps.length≤16777216:=Nat.le_trans (Nat.le_mul_of_pos_right _ hpos) hbig
 unfold Oper.wp
 rw[hrun,Oper.upon_value]
 refine hnx ν _ _ (hs.KE (w':=w.alloc (.cells ⟨us.flatten⟩ e)) (dw w _) d _ _ fun hfree hsame=>?_)
 simp only[af]
 have hrr':=hrr.frame hsame (dw w _).size
 rw[←hrl]
 exact .bu rows us w.heap.size 0 rows.length ei.n (hfree _ (Nat.le_refl _)) (iP (kK w _)) (Nat.le_refl _) (by simp only[maxLen];omega) (by unfold LB;omega) hrr'.len hrr'.hx hrr'.hu (Dm w _ e) hrr'.hr
theorem qK(t e n k:Nat)(ps:List (Nat×Operand))(ti ei:TI)(rows:List (List D))(ht:E.ti t=some ti)(hty:ti.ty= .slice e)(he:E.ti e=some ei)(hn:n=ps.length)(hup:zG 0 (ps.map (·.1))=true)
 (hr:rowsOf (ps.map fun x=>g.ev x.2)=some rows) (hlen:lJ ei.n rows=true) (hbig:ps.length*ei.n≤16777216) (hk:g.at k=none) :
 eh E.P ⟨some d,.buildSlice t n ⟨ps⟩,ty,pos,aft,gd⟩ g ⟨ps.flatMap fun x=>aY x.2,[k]⟩ ⟨some (d,.acc k),[(k,.acc e rows)]⟩:=by
 subst hn
 intro g2 hg
 have hmap:ps.map (fun x=>g2.ev x.2)=ps.map (fun x=>g.ev x.2):=by
  apply List.map_congr_left
  intro x hx
  rw[hg.ev (x:=x.2) (fun t h=>List.mem_flatMap.2 ⟨x,hx,h⟩)]
 have h3:=(hg.p k (by simp)).trans hk
 rw[←hmap] at hr
 intro X ν a w next Q hs hnx
 obtain⟨us,hrun,hrr⟩:=Hj ht hty he hs ps rows hup hr hlen hbig (o:=⟨some d,.buildSlice t ps.length ⟨ps⟩,ty,pos,aft,gd⟩) rfl
 have hpos:=(E.ok e ei he).pos
 have hrl:=rB hr
 simp only[List.length_map] at hrl
 have hle:ps.length≤16777216:=Nat.le_trans (Nat.le_mul_of_pos_right _ hpos) hbig
 unfold Oper.wp
 rw[hrun,Oper.upon_value]
 have hfl:=hrr.eK
 have hrow:=World.ownsRow_lit w (e:=e) (⟨us.flatten⟩:Array Value) rows.length (base:=0) (size:=ei.n) (Nat.zero_le _) (by simp only[maxLen];omega) (by simpa using hfl)
 refine hnx _ _ _ (hs.n8 (dw w _) k h3 (.acc e rows) ⟨.slice (some ⟨w.heap.size,0,none⟩) ps.length ps.length,[]⟩ rfl (fun b hb=>?_) d _ _ ?_ ?_)
 ·obtain rfl:w.heap.size=b:=by simpa[Nm.has,nS] using hb
  exact Nat.le_refl _
 ·intro ok st ν' hν hw hm
  refine⟨us,?_,?_,by unfold LB;omega,by rw[hν]⟩
  ·rw[hν,(E.ok e ei he).cells,←hrl]
   exact hrow
  ·rw[(E.ok e ei he).cells]
   exact hrr.frame hw (dw w _).size
 ·intro ok st ν' hν hst hw hm
  simp only[af]
  exact⟨by rw[hst];rfl,by rw[hν]⟩
end
end Go.Eng
namespace Go.Eng
open Go.RowKit
def OI(g:G):Option Operand→Int→Int→Prop
 | none,dflt,i=>i=dflt
 | some x,_,i=>∃k,g.ev x= .d (.val (.int k i))
def Mx:Option Operand→List Nat
 | none=>[]
 | some x=>aY x
theorem OI.agree{R:Rd}{g g2:G}(h:rN R g g2){o:Option Operand}{a i:Int}(ho:∀t∈Mx o,t∈R.s)(hi:OI g o a i):OI g2 o a i:=by
 cases o with
 | none=>exact hi
 | some x=>
   obtain⟨k,hk⟩:=hi
   exact⟨k,(h.ev (x:=x) ho).trans hk⟩
theorem OI.value{P:Program}{X:Cx}{ν:Nat→Nm}{g:G}{a:Act}{w:World}(h:Sat P X ν g a w){o:Option Operand}{d i:Int}(hi:OI g o d i):(o=none∧i=d)∨∃k,o.map a.eval=some (.int k i):=by
 cases o with
 | none=>exact .inl ⟨rfl,hi⟩
 | some x=>
   obtain⟨k,hk⟩:=hi
   have hv:=h.ev x
   rw[hk] at hv
   exact .inr ⟨k,by simp[bU hv]⟩
theorem kR{P:Program}(w:World){t e s:Nat}(hu:P.underlying t=some (.slice e))(hs:∀w,(sizeOf e).run P w= .ok s w)(a:Option Addr)(len cap:Nat)(lo hi:Option Value)(l h:Int)
 (hlo:(lo=none∧l=0)∨∃k,lo=some (.int k l)) (hhi:(hi=none∧h=len)∨∃k,hi=some (.int k h)) (h0:0≤l) (h1:l≤h) (h2:h≤len) (h3:len≤cap) :
 (Instr.sliceAt t (.slice a len cap) lo hi none).run P w= .ok (sliced a l.toNat h.toNat cap s) w:=by
 have hel:P.elem t=e:=by simp[Program.elem,hu]
 have ht:P.underlying t=some (.slice (P.elem t)):=by rw[hel];exact hu
 rw[run_sliceAt_slice w t _ _ _ _ ht]
 have h2':h≤(cap:Int):=by omega
 rcases hlo with⟨rfl,rfl⟩|⟨k,rfl⟩
 ·rcases hhi with⟨rfl,rfl⟩|⟨k',rfl⟩
  ·rw[run_slice_all w t a len cap ht,hel,hs]
   simp[Result.andThen]
  ·rw[run_slice_h w t a len cap ht k' h (by omega) h2',hel,hs]
   simp[Result.andThen]
 ·rcases hhi with⟨rfl,rfl⟩|⟨k',rfl⟩
  ·rw[run_slice_l w t a len cap ht k l h0 h1,hel,hs]
   simp[Result.andThen]
  ·rw[run_slice_lh w t a len cap ht k k' l h h0 h1 h2',hel,hs]
   simp[Result.andThen]
theorem LJ{P:Program}(w:World){t:Nat}(hu:P.underlying t=some .string)(s:List UInt8)(lo hi:Option Value)(l h:Int)
 (hlo:(lo=none∧l=0)∨∃k,lo=some (.int k l)) (hhi:(hi=none∧h=s.length)∨∃k,hi=some (.int k h)) (h0:0≤l) (h1:l≤h) (h2:h≤s.length) :
 (Instr.sliceAt t (.string ⟨s.toArray⟩) lo hi none).run P w= .ok (.string ⟨((s.drop l.toNat).take (h.toNat-l.toNat)).toArray⟩) w:=by
 rw[run_sliceAt_string w t _ _ _ _ hu]
 have hsz:(⟨s.toArray⟩:ByteArray).size=s.length:=size_mk s
 rcases hlo with⟨rfl,rfl⟩|⟨k,rfl⟩
 ·rcases hhi with⟨rfl,rfl⟩|⟨k',rfl⟩
  ·rw[run_slice_string_all w t _ hu,ByteArray.extract_mk,hsz]
   simp
  ·rw[run_slice_string_h w t _ hu k' h (by omega) (by omega),ByteArray.extract_mk]
   simp
 ·rcases hhi with⟨rfl,rfl⟩|⟨k',rfl⟩
  ·rw[run_slice_string_l w t _ hu k l h0 (by omega),ByteArray.extract_mk,hsz]
   simp
  ·rw[Go.run_slice_string w t _ k k' l h hu h0 h1 (by omega),ByteArray.extract_mk]
section
variable{E:Env}{g:G}{d:Nat}{ty:TypeId}{pos:String}{aft:Array Edge}{gd:Option (Nat×Bool)}{dn:Option Nat}
theorem kq{sz:Nat}:∀(us:List (List Value))(l n:Nat),(∀(i:Nat)(u:List Value),us[i]?=some u→u.length=sz)→l+n≤us.length→((us.drop l).take n).flatten=(us.flatten.drop (l*sz)).take (n*sz)
 | [],l,n,_,h=>by
   have h1:l=0:=by simp at h;omega
   have h2:n=0:=by simp at h;omega
   subst h1 h2;simp
 | u::us,0,n,hu,h=>by
   cases n with
   | zero=>simp
   | succ n=>
     have h0:u.length=sz:=hu 0 u rfl
     have ih:=kq us 0 n (fun i x hx=>hu (i+1) x (by simpa using hx)) (by simp at h;omega)
     simp only[List.drop_zero,Nat.zero_mul] at ih⊢
     rw[List.take_succ_cons,List.flatten_cons,List.flatten_cons,ih,List.take_append]
     have e1:(n+1)*sz-u.length=n*sz:=by rw[Nat.add_mul,h0];omega
     rw[e1,List.take_of_length_le (l:=u) (by rw[h0,Nat.add_mul];omega)]
 | u::us,l+1,n,hu,h=>by
   have h0:u.length=sz:=hu 0 u rfl
   have ih:=kq us l n (fun i x hx=>hu (i+1) x (by simpa using hx)) (by simp at h;omega)
   rw[List.drop_succ_cons,ih,List.flatten_cons]
   congr 1
   rw[List.drop_append,List.drop_of_length_le (l:=u) (by rw[h0,Nat.add_mul];omega),List.nil_append]
   congr 1
   rw[Nat.add_mul,h0];omega
theorem gW{α:Type}(xs:List α)(l n i:Nat)(x:α)(h:((xs.drop l).take n)[i]?=some x):xs[l+i]?=some x:=by
 rw[List.getElem?_take] at h
 split at h
 ·rwa [List.getElem?_drop] at h
 ·cases h
theorem aK.cut{w:World}{ok:Nat→Prop}{sz:Nat}{xs:List (List D)}{us:List (List Value)}(h:aK w ok sz xs us)(l n:Nat):aK w ok sz ((xs.drop l).take n) ((us.drop l).take n):=by
 refine⟨by simp[h.len],fun i x hx=>h.hx (l+i) x (gW _ _ _ _ _ hx),fun i u hu=>h.hu (l+i) u (gW _ _ _ _ _ hu),fun i j x u d v h1 h2 h3 h4=>h.hr (l+i) j x u d v (gW _ _ _ _ _ h1) (gW _ _ _ _ _ h2) h3 h4⟩
theorem E5(x:Operand)(lo hi:Option Operand)(t e:Nat)(ti ei:TI)(xs r:List (List D))(l h:Int)(ht:E.ti t=some ti)(hty:ti.ty= .slice e)(he:E.ti e=some ei)(hx:g.ev x= .d (.bu xs))(hlo:OI g lo 0 l)(hhi:OI g hi xs.length h)
 (h0:0≤l) (h1:l≤h) (h2:h≤xs.length) (hz:∀y∈xs,y.length=ei.n) (hr:(xs.drop l.toNat).take (h.toNat-l.toNat)=r) :
 eh E.P ⟨some d,.slice t x lo hi none,ty,pos,aft,gd⟩ g ⟨aY x++(Mx lo++Mx hi),[]⟩ ⟨some (d,.d (.bu r)),[]⟩:=by
 subst hr
 intro g2 hg
 have e1:=hg.ev (x:=x) (fun t h=>by simp[h])
 have hlo2:=hlo.agree hg (fun t h=>by simp[h])
 have hhi2:=hhi.agree hg (fun t h=>by simp[h])
 refine vz.val rfl fun X ν a w hs=>?_
 have hv:=hs.ev x
 rw[e1,hx] at hv
 simp only[af] at hv⊢
 have hu:=(E.ok t ti ht).ty
 rw[hty] at hu
 have hlv:(lo.map a.eval=none∧l=0)∨∃k,lo.map a.eval=some (.int k l):=(hlo2.value hs).imp (fun h=>⟨by rw[h.1];rfl,h.2⟩) id
 have hhv:(hi.map a.eval=none∧h=xs.length)∨∃k,hi.map a.eval=some (.int k h):=(hhi2.value hs).imp (fun h=>⟨by rw[h.1];rfl,h.2⟩) id
 have hsize:=(E.ok e ei he).size
 obtain⟨ln,rfl⟩:∃n:Nat,l=n:=⟨l.toNat,by omega⟩
 obtain⟨hn,rfl⟩:∃n:Nat,h=n:=⟨h.toNat,by omega⟩
 simp only[Int.toNat_natCast]
 rcases hv.mY with⟨rfl,ea,ec,hvv,hemp⟩|⟨us,b,off,cap,sz,hvv,hok,hb,hcap,hmax,hB,hrr,hc⟩
 ·simp only[List.length_nil] at h2
  have hr:=kR (P:=E.P) w hu hsize ea 0 ec _ _ ln hn hlv hhv h0 h1 h2 (Nat.zero_le _)
  obtain rfl:hn=0:=by omega
  obtain rfl:ln=0:=by omega
  refine⟨sliced ea 0 0 ec ei.n,?_,?_⟩
  ·simp only[execOp,hvv,Option.map_none,Sem.run_bind,hr,Result.andThen_ok]
   rfl
  ·simp only[List.drop_nil,List.take_nil]
   unfold sliced
   refine cI.Qh ?_
   rcases hemp with⟨rfl,rfl⟩|⟨k1,k2⟩
   ·exact .inl ⟨by simp,rfl⟩
   ·refine .inr ⟨?_,by omega⟩
    split
    ·exact k1
    ·rw[Option.isSome_map]
     exact k1
 ·have hr:=kR (P:=E.P) w hu hsize (some ⟨b,off,none⟩) xs.length cap _ _ ln hn hlv hhv h0 h1 h2 hcap
  simp only[Int.toNat_natCast] at hr
  have hsz:xs=[]∨sz=ei.n:=by
   cases xs with
   | nil=>exact .inl rfl
   | cons y ys=>right;rw[←hrr.hx 0 y rfl];exact hz y (by simp)
  refine⟨sliced (some ⟨b,off,none⟩) ln hn cap ei.n,?_,?_⟩
  ·simp only[execOp,hvv,Option.map_none,Sem.run_bind,hr,Result.andThen_ok]
   rfl
  ·have hlen:((xs.drop ln).take (hn-ln)).length=hn-ln:=by simp;omega
   have hrc:=hrr.cut ln (hn-ln)
   have hcl:=kq us ln (hn-ln) hrr.hu (by rw[hrr.len];omega)
   unfold sliced
   by_cases hcm:cap=ln
   ·rw[if_pos hcm]
    have:hn-ln=0:=by omega
    rw[this] at hlen hrc⊢
    simp only[List.take_zero] at hlen hrc⊢
    exact .bu [] [] b off (cap-ln) sz hok hb (by simp) (by simp only[maxLen] at hmax⊢;omega) (by simp) rfl (by simp) (by simp) (fun j u hu=>by simp at hu) (by simp)
   ·rw[if_neg hcm]
    have hsz':sz=ei.n∨ln=0:=by
     rcases hsz with rfl|h
     ·right;simp at h2;omega
     ·exact .inl h
    have hoff:(⟨b,off,none⟩:Addr).add (ln*ei.n)=⟨b,off+ln*sz,none⟩:=by
     rw[add_lit]
     rcases hsz' with h|h<;>rw[h]
     simp
    simp only[Option.map_some,hoff]
    have hres:=cI.bu (w:=w) (ok:=aL X ν g2.at) ((xs.drop ln).take (hn-ln)) ((us.drop ln).take (hn-ln)) b (off+ln*sz) (cap-ln) sz hok hb (by rw[hlen];omega) (by simp only[maxLen] at hmax⊢;omega) (by rw[hlen];omega) hrc.len hrc.hx hrc.hu
     (hc.sub (ln*sz) fun j u hu=>by
      rw[hcl] at hu
      exact gW _ _ _ _ _ hu) hrc.hr
    rw[hlen] at hres
    exact hres
theorem EX(x:Operand)(lo hi:Option Operand)(t:Nat)(ti:TI)(s r:List UInt8)(l h:Int)(ht:E.ti t=some ti)(hty:ti.ty= .str)(hx:g.ev x= .d (.str s))(hlo:OI g lo 0 l)(hhi:OI g hi s.length h)
 (h0:0≤l) (h1:l≤h) (h2:h≤s.length) (hr:(s.drop l.toNat).take (h.toNat-l.toNat)=r) :
 eh E.P ⟨some d,.slice t x lo hi none,ty,pos,aft,gd⟩ g ⟨aY x++(Mx lo++Mx hi),[]⟩ ⟨some (d,.d (.str r)),[]⟩:=by
 subst hr
 intro g2 hg
 have e1:=hg.ev (x:=x) (fun t h=>by simp[h])
 have hlo2:=hlo.agree hg (fun t h=>by simp[h])
 have hhi2:=hhi.agree hg (fun t h=>by simp[h])
 refine vz.val rfl fun X ν a w hs=>?_
 have hv:=hs.ev x
 rw[e1,hx] at hv
 obtain⟨hv,hB⟩:=mU hv
 have hu:=(E.ok t ti ht).ty
 rw[hty] at hu
 have hlv:(lo.map a.eval=none∧l=0)∨∃k,lo.map a.eval=some (.int k l):=(hlo2.value hs).imp (fun h=>⟨by rw[h.1];rfl,h.2⟩) id
 have hhv:(hi.map a.eval=none∧h=s.length)∨∃k,hi.map a.eval=some (.int k h):=(hhi2.value hs).imp (fun h=>⟨by rw[h.1];rfl,h.2⟩) id
 have hr:=LJ (P:=E.P) w hu s _ _ l h hlv hhv h0 h1 h2
 refine⟨_,?_,by simp only[af];exact .str _ (by simp;omega)⟩
 simp only[execOp,hv,Option.map_none,Sem.run_bind,hr,Result.andThen_ok]
 rfl
def lS{α:Type}(cs:List α)(off:Nat)(vs:List α):List α:=cs.take off++(vs++cs.drop (off+vs.length))
theorem B9{α:Type}(cs vs:List α)(off:Nat)(h:off+vs.length≤cs.length):(lS cs off vs).length=cs.length:=by
 simp[lS];omega
theorem yr{sz:Nat}:∀(us:List (List Value))(i off:Nat)(vs rest:List Value),(∀(i:Nat)(u:List Value),us[i]?=some u→u.length=sz)→i<us.length→off+vs.length≤sz →
 lS (us.flatten++rest) (i*sz+off) vs=(us.set i (lS (us.getD i []) off vs)).flatten++rest
 | [],i,_,_,_,_,h,_=>by simp at h
 | u::us,0,off,vs,rest,hu,_,ho=>by
   have h0:u.length=sz:=hu 0 u rfl
   simp only[lS,Nat.zero_mul,Nat.zero_add,List.set_cons_zero,List.flatten_cons,List.getD_cons_zero,List.append_assoc]
   rw[List.take_append_of_le_length (by omega),List.drop_append_of_le_length (by omega)]
 | u::us,i+1,off,vs,rest,hu,hi,ho=>by
   have h0:u.length=sz:=hu 0 u rfl
   have ih:=yr us i off vs rest (fun i x hx=>hu (i+1) x (by simpa using hx)) (by simpa using hi) ho
   have e1:(i+1)*sz+off=sz+(i*sz+off):=by rw[Nat.add_mul];omega
   simp only[List.set_cons_succ,List.flatten_cons,List.getD_cons_succ,List.append_assoc]
   rw[←ih,e1]
   simp only[lS]
   have e2:List.take (sz+(i*sz+off)) (u++(us.flatten++rest))=u++List.take (i*sz+off) (us.flatten++rest):=by
    rw[List.take_append,List.take_of_length_le (by omega),h0]
    congr 2;omega
   have e3:List.drop (sz+(i*sz+off)+vs.length) (u++(us.flatten++rest))=List.drop (i*sz+off+vs.length) (us.flatten++rest):=by
    rw[List.drop_append,List.drop_of_length_le (by omega),List.nil_append,h0]
    congr 1;omega
   rw[e2,e3,List.append_assoc]
theorem rY{α:Type}(cs vs:List α)(off j:Nat)(h:off+vs.length≤cs.length):(lS cs off vs)[j]?=if off≤j∧j<off+vs.length then vs[j-off]? else cs[j]?:=by
 unfold lS
 by_cases h1:j<off
 ·rw[if_neg (by omega),List.getElem?_append_left (by simp;omega),List.getElem?_take,if_pos h1]
 ·have e:(cs.take off).length=off:=by simp;omega
  rw[List.getElem?_append_right (by omega),e]
  by_cases h2:j<off+vs.length
  ·rw[if_pos (by omega),List.getElem?_append_left (by omega)]
  ·rw[if_neg (by omega),List.getElem?_append_right (by omega),List.getElem?_drop]
   congr 1;omega
theorem zC(x y:Operand)(t k i off sz e:Nat)(ti ei:TI)(xs:List (List D))(p:PV)(cs:List D)(ht:E.ti t=some ti)(he:E.ti e=some ei)(hsz:sz=ei.n)(hx:g.ev x= .cq k i off sz)(hk:g.at k=some (.acc e xs))(hy:g.ev y=p)
 (hi:i<xs.length) (hl:off+ti.n≤ei.n) (hp:p.whole=true) (hn:(bt p).length=ti.n) (hcs:qM (bt p)=some cs) :
 eh E.P ⟨dn,.store t x y,ty,pos,aft,gd⟩ g ⟨aY x++aY y++dn.toList,[k]⟩ ⟨dn.map fun d=>(d,.undef),[(k,.acc e (xs.set i (lS (row xs i) off cs)))]⟩:=by
 intro g2 hg
 have e1:=hg.ev (x:=x) (fun t h=>by simp[h])
 have e2:=hg.ev (x:=y) (fun t h=>by simp[h])
 have h3:=(hg.p k (by simp)).trans hk
 intro X ν a w next Q hs hnx
 have hv:=hs.ev x
 rw[e1,hx] at hv
 have hw:=hs.ev y
 rw[e2,hy] at hw
 simp only[af] at hv
 obtain⟨_,b,n,c,hb,hv⟩:=hv
 obtain⟨us,ho,hrr,hB,hf0⟩:=hs.en k _ h3
 have hcells:=hw.cells hp hs.nu
 have hlen:=hcells.length
 obtain⟨KS,hd2⟩:=tq (pa hcells hcs)
 rw[(E.ok e ei he).cells] at hrr ho
 subst hsz
 have hlast:=ho.2
 rcases hlast with⟨h1,h2⟩|⟨b',cap,cur,h1,_,h2,h4,h5,h6,h7⟩
 ·omega
 ·rw[h1] at hb
  obtain⟨rfl,rfl,rfl⟩:b'=b∧xs.length=n∧cap=c:=by simpa using hb
  have hul:us.length=xs.length:=hrr.len
  have hfl:=hrr.eK
  have hmulle:(i+1)*ei.n≤xs.length*ei.n:=Nat.mul_le_mul_right _ hi
  have hmulle2:xs.length*ei.n≤cap*ei.n:=Nat.mul_le_mul_right _ h4
  have hadd:(i+1)*ei.n=i*ei.n+ei.n:=by rw[Nat.add_mul];omega
  have hone:∀u∈(a.eval y).cells.toList,u.oneCell'=true:=by
   intro u hu
   obtain⟨j,hj,rfl⟩:=List.getElem_of_mem hu
   have hjc:j<cs.length:=by rw[←KS];exact hj
   exact(hd2 j cs[j] _ (List.getElem?_eq_getElem hjc) (List.getElem?_eq_getElem hj)).one
  have hvl:(a.eval y).cells.toList.length=ti.n:=by rw[hlen,hn]
  have hrun:=ni (E.ok t ti ht) w b' (i*ei.n+off) e cur (a.eval y) h2 hvl (by omega) hone
  have hr:(execOp a.eval ⟨dn,.store t x y,ty,pos,aft,gd⟩).run E.P w= .ok .skip (w.setRow b' (cur.toList.take (i*ei.n+off)++(a.eval y).cells.toList++cur.toList.drop (i*ei.n+off+(a.eval y).cells.toList.length)).toArray):=by
   simp only[execOp,hv,Instr.storeAt,Instr.sureAddr,Sem.run_bind,Sem.run_pure,Result.andThen_ok,hrun]
  have hcur:cur.toList=us.flatten++cur.toList.drop (xs.length*ei.n):=by rw[←h7];exact(List.take_append_drop _ _).symm
  have hnew:cur.toList.take (i*ei.n+off)++(a.eval y).cells.toList++cur.toList.drop (i*ei.n+off+(a.eval y).cells.toList.length)=(us.set i (lS (us.getD i []) off (a.eval y).cells.toList)).flatten++cur.toList.drop (xs.length*ei.n):=by
   have:=yr us i off (a.eval y).cells.toList (cur.toList.drop (xs.length*ei.n)) hrr.hu (by omega) (by omega)
   rw[←hcur] at this
   rw[←this,List.append_assoc]
   rfl
  have hui:us[i]?=some (us.getD i []):=by
   have:i<us.length:=by omega
   simp[List.getD,List.getElem?_eq_getElem this]
  have hxi:xs[i]?=some (row xs i):=by simp[row,List.getD,List.getElem?_eq_getElem hi]
  have hxil:=hrr.hx i _ hxi
  have huil:=hrr.hu i _ hui
  have hrows:aK w (aL X ν g2.at) ei.n (xs.set i (lS (row xs i) off cs)) (us.set i (lS (us.getD i []) off (a.eval y).cells.toList)):=by
   refine⟨by simp[hul],fun j z hz=>?_,fun j z hz=>?_,fun j l z u q v k1 k2 k3 k4=>?_⟩
   ·rw[List.getElem?_set] at hz
    by_cases hij:i=j
    ·subst hij
     rw[if_pos rfl,if_pos hi] at hz
     obtain rfl:=Option.some.inj hz
     rw[B9 _ _ _ (by rw[hxil,←KS,hvl];exact hl),hxil]
    ·rw[if_neg hij] at hz
     exact hrr.hx j z hz
   ·rw[List.getElem?_set] at hz
    by_cases hij:i=j
    ·subst hij
     rw[if_pos rfl,if_pos (by omega)] at hz
     obtain rfl:=Option.some.inj hz
     rw[B9 _ _ _ (by rw[huil,hvl];exact hl),huil]
    ·rw[if_neg hij] at hz
     exact hrr.hu j z hz
   ·rw[List.getElem?_set] at k1 k2
    by_cases hij:i=j
    ·subst hij
     rw[if_pos rfl,if_pos hi] at k1
     rw[if_pos rfl,if_pos (by omega)] at k2
     obtain rfl:=Option.some.inj k1
     obtain rfl:=Option.some.inj k2
     rw[rY _ _ _ _ (by rw[hxil,←KS,hvl];exact hl)] at k3
     rw[rY _ _ _ _ (by rw[huil,hvl];exact hl)] at k4
     rw[KS] at k4
     by_cases hin:off≤l∧l<off+cs.length
     ·rw[if_pos hin] at k3 k4
      exact hd2 _ _ _ k3 k4
     ·rw[if_neg hin] at k3 k4
      exact hrr.hr i l _ _ q v hxi hui k3 k4
    ·rw[if_neg hij] at k1 k2
     exact hrr.hr j l z u q v k1 k2 k3 k4
  unfold Oper.wp
  rw[hr,Oper.upon_skip,hnew]
  refine hnx _ _ _ (hs.uA k (.acc e xs) (.acc e (xs.set i (lS (row xs i) off cs))) h3 rfl (dW w b' _ _ ((dP hf0).2 (by rw[h1];rfl))) dn .undef Go.undef ?_ ?_)
  ·intro hwf hm
   refine⟨us.set i (lS (us.getD i []) off (a.eval y).cells.toList),?_,?_,by simpa using hB,hf0⟩
   ·rw[(E.ok e ei he).cells,h1]
    have hf2:=hrows.eK
    refine⟨hf2,.inr ⟨b',cap,_,by simp,Nat.zero_le _,setRow_heap w b' _ _ e _ h2,by simpa using h4,h5,?_,?_⟩⟩
    ·simp only[List.size_toArray,List.length_append,hf2,List.length_set,List.length_drop,Array.length_toList,h6]
     omega
    ·rw[List.take_append_of_le_length (by rw[hf2];exact Nat.le_refl _),List.take_of_length_le (by rw[hf2];exact Nat.le_refl _)]
   ·rw[(E.ok e ei he).cells]
    exact hrows.frame hwf (by simp[World.setRow])
  ·intro _
   simp only[af]
def IU(ns:List Int):List (List D):=ns.map fun n=>[.val (.int .u8 n)]
def R1(ns:List Int):List UInt8:=ns.map fun n=>UInt8.ofNat n.toNat
end
end Go.Eng
namespace Go.Eng
open Go.RowKit
mutual
def sc:PV→Bool
 | .undef=>true
 | .aJ=>true
 | .d (.val _)=>true
 | .d (.str _)=>true
 | .agg cs=>Qb cs
 | .eL cs=>Qb cs
 | _=>false
def Qb:List PV→Bool
 | []=>true
 | p::ps=>sc p&&Qb ps
end
section
variable{w w':World}{ok ok':Nat→Prop}{ν ν':Nat→Nm}{st st':Nat→Option En}
mutual
theorem af.sc:∀(p:PV)(v:Value),sc p=true→af w ok ν st p v→af w' ok' ν' st' p v
 | .undef,v,_,h=>by simpa[af] using h
 | .aJ,v,_,h=>by simpa[af] using h
 | .d (.val u),v,_,h=>by
   simp only[af] at h⊢
   cases h with
   | val u h=>exact .val _ h
 | .d (.str u),v,_,h=>by
   simp only[af] at h⊢
   cases h with
   | str u h=>exact .str _ h
 | .agg cs,v,hs,h=>by
   simp only[Eng.sc] at hs
   simp only[af] at h⊢
   obtain⟨vs,e,h⟩:=h
   exact⟨vs,e,ae.sc cs vs hs h⟩
 | .eL cs,v,hs,h=>by
   simp only[Eng.sc] at hs
   simp only[af] at h⊢
   obtain⟨vs,e,h⟩:=h
   exact⟨vs,e,ae.sc cs vs hs h⟩
 | .any,_,hs,_=>by simp[Eng.sc] at hs
 | .d (.bu _),_,hs,_=>by simp[Eng.sc] at hs
 | .ptr _ _,_,hs,_=>by simp[Eng.sc] at hs
 | .acc _,_,hs,_=>by simp[Eng.sc] at hs
 | .cq _ _ _ _,_,hs,_=>by simp[Eng.sc] at hs
 | .cf _ _ _,_,hs,_=>by simp[Eng.sc] at hs
 | .fn _ _,_,hs,_=>by simp[Eng.sc] at hs
theorem ae.sc:∀(ps:List PV)(vs:List Value),Qb ps=true→ae w ok ν st ps vs→ae w' ok' ν' st' ps vs
 | [],[],_,_=>by simp[ae]
 | p::ps,v::vs,hs,h=>by
   simp only[Eng.Qb,Bool.and_eq_true] at hs
   simp only[ae] at h⊢
   exact⟨af.sc p v hs.1 h.1,ae.sc ps vs hs.2 h.2⟩
 | [],_::_,_,h=>by simp[ae] at h
 | _::_,[],_,h=>by simp[ae] at h
end
end
mutual
inductive Vw(g:G)(ks:List Nat):PV→PV→Prop where
 | same {p:PV} (h:p.lt 0=true):Vw g ks p p
 | nil:Vw g ks .aJ (.d (.bu []))
 | acc {k:Nat} {e:TypeId} {xs:List (List D)} (h:om k ks=true) (hk:g.at k=some (.acc e xs)):Vw g ks (.acc k) (.d (.bu xs))
 | bM {k:Nat} {e:TypeId} {xs:List (List T)} {ys:List (List D)} (h:om k ks=true) (hk:g.at k=some (.bM e xs)) (hf:aU xs=some ys):Vw g ks (.acc k) (.d (.bu ys))
 | agg {cs ds:List PV} (h:nQ g ks cs ds):Vw g ks (.agg cs) (.agg ds)
 | fn {f:Nat} {cs ds:List PV} (h:nQ g ks cs ds):Vw g ks (.fn f cs) (.fn f ds)
 | box {k:Nat} {cs:List PV} {ds:List D} (h:om k ks=true) (hk:g.at k=some (.box cs)) (hc:nQ g ks cs (bn ds)):Vw g ks (.ptr k 0) (.cf [ds] 0 0)
inductive nQ(g:G)(ks:List Nat):List PV→List PV→Prop where
 | nil:nQ g ks [] []
 | cons {p q:PV} {ps qs:List PV} (h:Vw g ks p q) (h':nQ g ks ps qs):nQ g ks (p::ps) (q::qs)
end
section
variable{g g2:G}{ks:List Nat}
mutual
theorem Vw.F9{p q:PV}:Vw g ks p q→q.lt 0=true
 | .same h=>h
 | .nil=>rfl
 | .acc _ _=>rfl
 | .bM _ _ _=>rfl
 | .agg h=>by simp only[PV.lt];exact nQ.F9 h
 | .fn h=>by simp only[PV.lt];exact nQ.F9 h
 | .box _ _ _=>rfl
theorem nQ.F9{ps qs:List PV}:nQ g ks ps qs→lU 0 qs=true
 | .nil=>rfl
 | .cons h h'=>by simp only[lU,Bool.and_eq_true];exact⟨Vw.F9 h,nQ.F9 h'⟩
end
mutual
theorem Vw.agree(ha:∀k∈ks,g2.at k=g.at k){p q:PV}:Vw g ks p q→Vw g2 ks p q
 | .same h=>.same h
 | .nil=>.nil
 | .acc h hk=>.acc h ((ha _ (jl.1 h)).trans hk)
 | .bM h hk hf=>.bM h ((ha _ (jl.1 h)).trans hk) hf
 | .agg h=>.agg (nQ.agree ha h)
 | .fn h=>.fn (nQ.agree ha h)
 | .box h hk hc=>.box h ((ha _ (jl.1 h)).trans hk) (nQ.agree ha hc)
theorem nQ.agree(ha:∀k∈ks,g2.at k=g.at k){ps qs:List PV}:nQ g ks ps qs→nQ g2 ks ps qs
 | .nil=>.nil
 | .cons h h'=>.cons (Vw.agree ha h) (nQ.agree ha h')
end
end
section
variable{P:Program}{X:Cx}{ν ν':Nat→Nm}{g:G}{a:Act}{w:World}{ok:Nat→Prop}{st:Nat→Option En}{ks:List Nat}
mutual
theorem af.F9(hw:∀b,aL X ν g.at b→b<w.heap.size→ok b∧w.heap[b]?=w.heap[b]?):∀(p:PV)(v:Value),p.lt 0=true→af w (aL X ν g.at) ν g.at p v→af w ok ν' st p v
 | .any,_,_,_=>by simp[af]
 | .undef,_,_,h=>by simpa[af] using h
 | .aJ,_,_,h=>by simpa[af] using h
 | .d x,v,_,h=>by
   simp only[af] at h⊢
   exact h.frame hw (Nat.le_refl _)
 | .agg cs,v,hl,h=>by
   simp only[PV.lt] at hl
   simp only[af] at h⊢
   obtain⟨vs,e,h⟩:=h
   exact⟨vs,e,ae.F9 hw cs vs hl h⟩
 | .eL cs,v,hl,h=>by
   simp only[PV.lt] at hl
   simp only[af] at h⊢
   obtain⟨vs,e,h⟩:=h
   exact⟨vs,e,ae.F9 hw cs vs hl h⟩
 | .cf xs i off,v,_,h=>by
   simp only[af] at h⊢
   obtain⟨b,o,cap,h1,h2,h3⟩:=h
   exact⟨b,o,cap,h1.frame hw (Nat.le_refl _),h2,h3⟩
 | .fn f cs,v,hl,h=>by
   simp only[PV.lt] at hl
   simp only[af] at h⊢
   obtain⟨vs,e,h⟩:=h
   exact⟨vs,e,ae.F9 hw cs vs hl h⟩
 | .ptr _ _,_,hl,_=>by simp[PV.lt] at hl
 | .acc _,_,hl,_=>by simp[PV.lt] at hl
 | .cq _ _ _ _,_,hl,_=>by simp[PV.lt] at hl
theorem ae.F9(hw:∀b,aL X ν g.at b→b<w.heap.size→ok b∧w.heap[b]?=w.heap[b]?):∀(ps:List PV)(vs:List Value),lU 0 ps=true→ae w (aL X ν g.at) ν g.at ps vs→ae w ok ν' st ps vs
 | [],[],_,_=>by simp[ae]
 | p::ps,v::vs,hl,h=>by
   simp only[lU,Bool.and_eq_true] at hl
   simp only[ae] at h⊢
   exact⟨af.F9 hw p v hl.1 h.1,ae.F9 hw ps vs hl.2 h.2⟩
 | [],_::_,_,h=>by simp[ae] at h
 | _::_,[],_,h=>by simp[ae] at h
end
theorem FK{w:World}{ok:Nat→Prop}{ν:Nat→Nm}{st:Nat→Option En}:∀{ds:List D}{vs:List Value},ae w ok ν st (bn ds) vs→∀(j:Nat)(d:D)(v:Value),ds[j]?=some d→vs[j]?=some v→cI w ok d v
 | [],_,_,j,d,v,h,_=>by simp at h
 | _::_,[],h,_,_,_,_,_=>by simp[bn,ae] at h
 | e::ds,u::vs,h,0,d,v,h1,h2=>by
   simp only[bn,List.map_cons,ae,af] at h
   obtain rfl:e=d:=by simpa using h1
   obtain rfl:u=v:=by simpa using h2
   exact h.1
 | e::ds,u::vs,h,j+1,d,v,h1,h2=>by
   simp only[bn,List.map_cons,ae] at h
   exact FK (ds:=ds) h.2 j d v (by simpa using h1) (by simpa using h2)
theorem Cd{w:World}{ok:Nat→Prop}{ν:Nat→Nm}{st:Nat→Option En}{b:Nat}{ds:List D}{vs:List Value}(hok:ok b)(hb:b<w.heap.size)(hc:dB w b 0 vs)(h:ae w ok ν st (bn ds) vs) :
 cI w ok (.bu [ds]) (.slice (some ⟨b,0,none⟩) [ds].length 1):=by
 have hl:vs.length=ds.length:=by simpa[bn] using h.length
 refine .bu [ds] [vs] b 0 1 ds.length hok hb (by simp) (by unfold maxLen;omega) (by simp[LB]) rfl ?_ ?_ (by simpa using hc) ?_
 ·intro i x hx
  cases i with
  | zero=>obtain rfl:ds=x:=by simpa using hx
          rfl
  | succ i=>simp at hx
 ·intro i x hx
  cases i with
  | zero=>obtain rfl:vs=x:=by simpa using hx
          exact hl
  | succ i=>simp at hx
 ·intro i j x u d v h1 h2 h3 h4
  cases i with
  | zero=>
    obtain rfl:ds=x:=by simpa using h1
    obtain rfl:vs=u:=by simpa using h2
    exact FK h j d v h3 h4
  | succ i=>simp at h1
mutual
theorem af.vw(hs:Sat P X ν g a w)(hw:∀b,aL X ν g.at b→b<w.heap.size→ok b∧w.heap[b]?=w.heap[b]?)(hown:∀b,Own ν g.at b→ok b){p q:PV}:∀(v:Value),Vw g ks p q→af w (aL X ν g.at) ν g.at p v→af w ok ν' st q v
 | v,.same hl,h=>af.F9 hw _ v hl h
 | v,.nil,h=>by
   simp only[af] at h⊢
   rw[h];exact .nil
 | v,.acc _ hk,h=>by
   simp only[af] at h⊢
   rw[h.2]
   obtain⟨us,h1,h2,h3,_⟩:=hs.en _ _ hk
   exact n9 h1 h2 h3 (fun b hb=>hown b ⟨_,_,hk,rfl,.inl hb⟩) hw
 | v,.bM (xs:=xs) (e:=e) _ hk hf,h=>by
   simp only[af] at h⊢
   rw[h.2]
   have hen:=hs.en _ _ hk
   exact dV.data hw (.own e xs) _ _ _ (by simp only[T.yF,hf]) hen.1 fun b hb=>hown b ⟨_,_,hk,rfl,gN.2 hb⟩
 | v,.agg hc,h=>by
   simp only[af] at h⊢
   obtain⟨vs,e,h⟩:=h
   exact⟨vs,e,ae.vw hs hw hown vs hc h⟩
 | v,.fn hc,h=>by
   simp only[af] at h⊢
   obtain⟨vs,e,h⟩:=h
   exact⟨vs,e,ae.vw hs hw hown vs hc h⟩
 | v,.box _ hk hc,h=>by
   simp only[af] at h⊢
   obtain⟨_,b,h1,h2⟩:=h
   obtain⟨b',vs,T,h3,h4,h5,_⟩:=hs.en _ _ hk
   obtain rfl:b'=b:=by
    rw[h1] at h3
    simpa using h3.symm
   have h6:=ae.vw hs hw hown vs hc h5
   refine⟨b',0,1,Cd (hown b' ⟨_,_,hk,rfl,.inl (by rw[h1];rfl)⟩) (iP h4) (mG h4) h6,by simp,by rw[h2];simp⟩
theorem ae.vw(hs:Sat P X ν g a w)(hw:∀b,aL X ν g.at b→b<w.heap.size→ok b∧w.heap[b]?=w.heap[b]?)(hown:∀b,Own ν g.at b→ok b){ps qs:List PV}:∀(vs:List Value),nQ g ks ps qs→ae w (aL X ν g.at) ν g.at ps vs→ae w ok ν' st qs vs
 | [],.nil,_=>by simp[ae]
 | v::vs,.cons h1 h2,h=>by
   simp only[ae] at h⊢
   exact⟨af.vw hs hw hown v h1 h.1,ae.vw hs hw hown vs h2 h.2⟩
 | _::_,.nil,h=>by simp[ae] at h
 | [],.cons _ _,h=>by simp[ae] at h
end
end
theorem Ni{P:Program}{o:Oper}{g:G}{fop:Operand}{xs:List Operand}{tys:Array TypeId}{d:Nat}(ho:o.op= .call ⟨.value fop,⟨xs⟩,tys⟩)(hd:o.dst=some d){f:FuncId}{cap:List PV}(hfn:g.ev fop= .fn f cap)
 (ks:List Nat) (cargs:List PV) (R:PV→List (Option En)→Prop) (hC:C P f cargs [] R) (hargs:nQ g ks (xs.map g.ev++cap) cargs) (hR:∀r s,R r s→sc r=true)
 (X:Cx) (ν:Nat→Nm) (a:Act) (w:World) (next:Act→World→Prop) (Q:Exit→Act→World→Prop) (hs:Sat P X ν g a w)
 (hn:∀r s ν' a' w',R r s→Sat P X ν' ⟨fb g.sl d r,g.st⟩ a' w'→next a' w'):o.wp P a w next Q:=by
 have hfv:=hs.ev fop
 rw[hfn] at hfv
 simp only[af] at hfv
 obtain⟨vcap,hfv,hcap⟩:=hfv
 have hxs:=sy hs xs
 let Xc:Cx:=⟨w,Own ν (aS []),ν,aS [],X.Z⟩
 have hno:∀b,¬Own ν (aS []) b:=by
  rintro b ⟨k,e,h,_⟩
  cases k<;>simp[aS] at h
 have hw:∀b,aL X ν g.at b→b<w.heap.size→aL Xc ν (aS []) b∧w.heap[b]?=w.heap[b]?:=fun b hb _=>⟨⟨hno b,hb.2⟩,rfl⟩
 have hown:∀b,Own ν g.at b→aL Xc ν (aS []) b:=fun b hb=>⟨hno b,hs.Cg hb⟩
 have hall:ae w (aL Xc ν (aS [])) ν (aS []) cargs (xs.map a.eval++vcap):=ae.vw hs hw hown _ hargs (hxs.app hcap)
 obtain⟨⟨fn,hfn1,hfn2,hfn3⟩,hC⟩:=hC
 have hr:(execOp a.eval o).run P w= .ok (.enter f ⟨xs.map a.eval++vcap⟩) w:=by
  have n1 : ¬ fn.name = "runtime.NumGoroutine" := by simpa using hfn3
  have n2:¬fn.body=none:=fun e=>by rw[e] at hfn2;cases hfn2
  simp[execOp,ho,resolve,hfv,Deferred.ofValue,invoke,callFunc,program,hfn1,n1,n2,Sem.run]
 have hat:∀k,(⟨cargs,[]⟩:G).at k=none:=fun k=>by cases k<;>rfl
 have hent:Sat P Xc ν ⟨cargs,[]⟩ ⟨⟨xs.map a.eval++vcap⟩,[]⟩ w:=by
  refine⟨by simpa using hall.length,fun t=>?_,fun k e h=>?_,fun k k' e e' b h=>?_,fun b hb=>?_,fun k h=>?_,fun k h=>?_,⟨fun b hb=>?_,hs.kt rfl fun b hb=>(hno b hb).elim⟩,kF.refl _ w,rfl⟩
  ·have key:∀(ps:List PV)(us:List Value)(t:Nat),ae w (aL Xc ν (aS [])) ν (aS []) ps us→af w (aL Xc ν (aS [])) ν (aS []) (nth ps t) (us.getD t Go.undef):=by
    intro ps
    induction ps with
    | nil=>intro us t _;cases t<;>simp[nth,af]
    | cons p ps ih=>
      intro us t hr
      cases us with
      | nil=>simp[ae] at hr
      | cons u us=>
        simp only[ae] at hr
        cases t with
        | zero=>simpa[nth] using hr.1
        | succ t=>simpa[nth] using ih us t hr.2
   have:=key cargs _ t hall
   show af w (aL Xc ν (aS [])) ν (aS []) (nth cargs t) ((⟨xs.map a.eval++vcap⟩:Array Value).getD t Go.undef)
   simpa[Array.getD_eq_getD_getElem?] using this
  ·rw[hat] at h;cases h
  ·rw[hat] at h;cases h
  ·exact(hno b hb).elim
  ·rw[hat] at h;cases h
  ·exact⟨rfl,h⟩
  ·exact⟨Nat.lt_of_lt_of_le (hs.wS b hb).1 hs.rj.size,hno b⟩
 unfold Oper.wp
 rw[hr,Oper.upon_enter]
 refine(hC Xc (xs.map a.eval++vcap) rfl rfl hent).mono ?_
 rintro e w' ⟨v,res,st',ν',rfl,hRr,hsat⟩
 show next (a.put o.dst v) w'
 rw[hd]
 refine hn res st' ν _ _ hRr (hs.KE (hsat.rj.mono fun b hb _=>hno b hb) d res v fun _ _=>?_)
 have:=hsat.sl 0
 exact af.sc res v (hR _ _ hRr) this
section
variable{E:Env}{g:G}{d:Nat}{ty:TypeId}{pos:String}{aft:Array Edge}{gd:Option (Nat×Bool)}
theorem NX(fop:Operand)(xs:List Operand)(tys:Array TypeId)(f:FuncId)(cap:List PV)(hfn:g.ev fop= .fn f cap)(ks:List Nat)(cargs:List PV)(res:PV)(hC:C E.P f cargs [] (aM res []))
 (hargs:nQ g ks (xs.map g.ev++cap) cargs) (hsc:sc res=true) :
 eh E.P ⟨some d,.call ⟨.value fop,⟨xs⟩,tys⟩,ty,pos,aft,gd⟩ g ⟨aY fop++xs.flatMap aY,ks⟩ ⟨some (d,res),[]⟩:=by
 intro g2 hg
 have e1:=hg.ev (x:=fop) (fun t h=>by simp[h])
 have e2:=lZ hg xs (fun t h=>by simp only[List.mem_append];exact .inr h)
 intro X ν a w next Q hs hn
 refine Ni rfl rfl (by rw[e1,hfn]) ks cargs (aM res []) hC (by rw[e2];exact hargs.agree (fun k hk=>hg.p k hk)) (fun r s h=>by rw[h.1];exact hsc) X ν a w next Q hs ?_
 rintro r s ν' a' w' ⟨rfl,rfl⟩ hs'
 exact hn ν' a' w' hs'
end
def Fin(E:Env)(rs:List ResultVar)(n0:Nat)(R:PV→List (Option En)→Prop)(g:G):Prop:=∃g',jv E.P n0 g g'∧OO E rs n0 R g'
theorem Fin.plain{E:Env}{rs:List ResultVar}{R:PV→List (Option En)→Prop}{g:G}(ps:List PV)(q:PV)(h1:qW E g rs=some ps)(h2:cv (eG ps) q)(hl:q.lt 0=true)(hR:R q []):True:=trivial
end Go.Eng
namespace Go.Eng
open Go.RowKit
inductive rr where
 | go(R:Rd)(δ:Dl)
 | gK(φ:Prop)(R:Rd)(δ:Dl)
 | stop
def rr.Ok(P:Program)(o:Oper)(g:G):rr→Prop
 | .go R δ=>eh P o g R δ
 | .gK φ R δ=>φ→eh P o g R δ
 | .stop=>True
def pM:Nat→Nat→Bool
 | 0,_=>true
 | _+1,0=>false
 | n+1,m+1=>pM n m
theorem ew:∀{n m:Nat},pM n m=true→n≤m
 | 0,_,_=>Nat.zero_le _
 | n+1,0,h=>by simp[pM] at h
 | n+1,m+1,h=>Nat.succ_le_succ (ew (by simpa[pM] using h))
def ze:Nat→Nat→Bool
 | 0,0=>true
 | n+1,m+1=>ze n m
 | _,_=>false
theorem oc:∀{n m:Nat},ze n m=true→n=m
 | 0,0,_=>rfl
 | n+1,m+1,h=>congrArg (·+1) (oc (by simpa[ze] using h))
 | 0,m+1,h=>by simp[ze] at h
 | n+1,0,h=>by simp[ze] at h
def B3:List D→Nat
 | []=>0
 | _::as=>B3 as+1
theorem Bj:∀(l:List D),B3 l=l.length
 | []=>rfl
 | _::as=>by simp[B3,Bj as]
theorem Hy{n:Nat}{l:List D}(h:pM n (B3 l)=true):n≤l.length:=by
 have:=ew h
 rwa [Bj] at this
theorem Nt{n:Nat}{l:List D}(h:ze (B3 l) n=true):l.length=n:=by
 have:=oc h
 rwa [Bj] at this
def e9:List (Option En)→Nat
 | []=>0
 | _::as=>e9 as+1
theorem gj:∀(l:List (Option En)),e9 l=l.length
 | []=>rfl
 | _::as=>by simp[e9,gj as]
def oQ:List PV→Nat
 | []=>0
 | _::as=>oQ as+1
theorem gR:∀(l:List PV),oQ l=l.length
 | []=>rfl
 | _::as=>by simp[oQ,gR as]
def G.new(g:G):Nat:=e9 g.st
theorem G.eZ(g:G):g.at g.new=none:=xA (by unfold G.new;rw[gj];exact Nat.le_refl _)
def tk:Nat→List PV→List PV
 | 0,_=>[]
 | _+1,[]=>[]
 | n+1,a::as=>a::tk n as
theorem zP:∀(n:Nat)(l:List PV),tk n l=l.take n
 | 0,l=>by simp[tk]
 | n+1,[]=>by simp[tk]
 | n+1,a::as=>by simp[tk,zP n as]
def dr:Nat→List PV→List PV
 | 0,l=>l
 | _+1,[]=>[]
 | n+1,_::as=>dr n as
theorem Az:∀(n:Nat)(l:List PV),dr n l=l.drop n
 | 0,l=>by simp[dr]
 | n+1,[]=>by simp[dr]
 | n+1,a::as=>by simp[dr,Az n as]
def GD:List PV→List PV→List PV
 | cs,[]=>cs
 | [],vs=>vs
 | _::cs,v::vs=>v::GD cs vs
def GV:List PV→Nat→List PV→List PV
 | cs,0,vs=>GD cs vs
 | [],_+1,vs=>vs
 | c::cs,n+1,vs=>c::GV cs n vs
theorem Hn:∀(cs vs:List PV),vs.length≤cs.length→GD cs vs=vs++cs.drop vs.length
 | cs,[],_=>by cases cs<;>simp[GD]
 | [],v::vs,h=>by simp at h
 | c::cs,v::vs,h=>by simp[GD,Hn cs vs (by simpa using h)]
theorem Bm:∀(cs:List PV)(n:Nat)(vs:List PV),n+vs.length≤cs.length→GV cs n vs=qG cs n vs
 | cs,0,vs,h=>by
   rw[Nat.zero_add] at h
   have e:GV cs 0 vs=GD cs vs:=by cases cs<;>rfl
   rw[e,Hn cs vs h]
   simp[qG]
 | [],n+1,vs,h=>by simp at h
 | c::cs,n+1,vs,h=>by
   have:=Bm cs n vs (by simp at h;omega)
   simp only[GV,this,qG]
   rw[show n+1+vs.length=n+vs.length+1 by omega]
   simp
def Fi:List (Nat×Nat×Nat)→Nat→Option (Nat×Nat×Nat)
 | [],_=>none
 | a::_,0=>some a
 | _::as,n+1=>Fi as n
theorem Cq:∀(l:List (Nat×Nat×Nat))(n:Nat),Fi l n=l[n]?
 | [],n=>by simp[Fi]
 | a::as,0=>rfl
 | a::as,n+1=>by simp[Fi,Cq as n]
def I6:List PV→Nat→Option PV
 | [],_=>none
 | a::_,0=>some a
 | _::as,n+1=>I6 as n
theorem HI:∀(l:List PV)(n:Nat),I6 l n=l[n]?
 | [],n=>by simp[I6]
 | a::as,0=>rfl
 | a::as,n+1=>by simp[I6,HI as n]
def Q3:List (Nat×Nat×Nat)→List (Nat×Nat)
 | []=>[]
 | (_,o,s)::r=>(o,s)::Q3 r
theorem Mn:∀(l:List (Nat×Nat×Nat)),Q3 l=l.map fun x=>(x.2.1,x.2.2)
 | []=>rfl
 | (a,o,s)::r=>by simp[Q3,Mn r]
def QE(g:G):List (Nat×Operand)→List (Nat×PV)
 | []=>[]
 | (i,x)::r=>(i,g.ev x)::QE g r
theorem Lj(g:G):∀(l:List (Nat×Operand)),QE g l=l.map fun x=>(x.1,g.ev x.2)
 | []=>rfl
 | (i,x)::r=>by simp[QE,Lj g r]
def Qa(g:G):List (Nat×Operand)→List PV
 | []=>[]
 | (_,x)::r=>g.ev x::Qa g r
theorem E2(g:G):∀(l:List (Nat×Operand)),Qa g l=l.map fun x=>g.ev x.2
 | []=>rfl
 | (i,x)::r=>by simp[Qa,E2 g r]
def Ql:List (Nat×Operand)→List Nat
 | []=>[]
 | (i,_)::r=>i::Ql r
theorem Gp:∀(l:List (Nat×Operand)),Ql l=l.map (·.1)
 | []=>rfl
 | (i,x)::r=>by simp[Ql,Gp r]
def OG:List (Nat×Operand)→List Nat
 | []=>[]
 | (_,x)::r=>aY x++OG r
theorem Bf:∀(l:List (Nat×Operand)),OG l=l.flatMap fun x=>aY x.2
 | []=>rfl
 | (i,x)::r=>by simp[OG,Bf r]
def G6:List (Nat×Operand)→Nat
 | []=>0
 | _::r=>G6 r+1
theorem BG:∀(l:List (Nat×Operand)),G6 l=l.length
 | []=>rfl
 | (i,x)::r=>by simp[G6,BG r]
def IJ:List (Nat×Nat)→Nat→Option (Nat×Nat)
 | [],_=>none
 | a::_,0=>some a
 | _::as,n+1=>IJ as n
theorem HD:∀(l:List (Nat×Nat))(n:Nat),IJ l n=l[n]?
 | [],n=>by simp[IJ]
 | a::as,0=>rfl
 | a::as,n+1=>by simp[IJ,HD as n]
def DF(places:List (Nat×Nat))(cs:List PV):List (Nat×PV)→Option (List PV)
 | []=>some cs
 | (i,p)::rest=>
   match IJ places i with
   | none=>none
   | some (off,sz)=>match p.whole,Nat.beq (oQ (bt p)) sz,pM (off+sz) (oQ cs) with
     | true,true,true=>DF places (GV cs off (bt p)) rest
     | _,_,_=>none
theorem Ib:∀(rest:List (Nat×PV))(places:List (Nat×Nat))(cs r:List PV),DF places cs rest=some r→yI places cs rest=some r
 | [],_,_,_,h=>h
 | (i,p)::rest,places,cs,r,h=>by
   simp only[DF] at h
   simp only[yI]
   split at h
   ·cases h
   ·rename_i off sz hpl
    rw[HD] at hpl
    rw[hpl]
    simp only
    split at h
    ·rename_i h1 h2 h3
     have h2:oQ (bt p)=sz:=Nat.eq_of_beq_eq_true h2
     rw[gR] at h2
     have h3:=ew h3
     rw[gR] at h3
     rw[if_pos ⟨h1,h2,h3⟩]
     rw[Bm _ _ _ (by omega)] at h
     exact Ib rest places _ r h
    ·cases h
def i64(p:PV):Option Int:=match p with | .d (.val (.int .i64 n))=>some n|_=>none
def Rs(d:Nat)(R:Rd):BinOp→Int→Int→rr
 | .add,m,n=>.gK (Iw (m+n)) R ⟨some (d,.d (.val (.int .i64 (m+n)))),[]⟩
 | .sub,m,n=>.gK (Iw (m-n)) R ⟨some (d,.d (.val (.int .i64 (m-n)))),[]⟩
 | .mul,m,n=>.gK (Iw (m*n)) R ⟨some (d,.d (.val (.int .i64 (m*n)))),[]⟩
 | .quo,m,n=>.gK (n≠0∧Iw (m.tdiv n)) R ⟨some (d,.d (.val (.int .i64 (m.tdiv n)))),[]⟩
 | .rem,m,n=>.gK (n≠0) R ⟨some (d,.d (.val (.int .i64 (m.tmod n)))),[]⟩
 | _,_,_=>.stop
def Rm(d:Nat)(R:Rd):BinOp→Int→Int→rr
 | .eql,m,n=>.go R ⟨some (d,.d (.val (.bool (m == n)))),[]⟩
 | .neq,m,n=>.go R ⟨some (d,.d (.val (.bool (m != n)))),[]⟩
 | .lss,m,n=>.go R ⟨some (d,.d (.val (.bool (decide (m<n))))),[]⟩
 | .leq,m,n=>.go R ⟨some (d,.d (.val (.bool (decide (m≤n))))),[]⟩
 | .gtr,m,n=>.go R ⟨some (d,.d (.val (.bool (decide (m>n))))),[]⟩
 | .geq,m,n=>.go R ⟨some (d,.d (.val (.bool (decide (m≥n))))),[]⟩
 | _,_,_=>.stop
def Oo:BinOp→Bool
 | .eql=>true
 | .neq=>true
 | .lss=>true
 | .leq=>true
 | .gtr=>true
 | .geq=>true
 | _=>false
def Ro(d:Nat)(R:Rd):BinOp→List UInt8→List UInt8→rr
 | .add,l,m=>.gK (l.length+m.length≤LB) R ⟨some (d,.d (.str (l++m))),[]⟩
 | .eql,l,m=>.go R ⟨some (d,.d (.val (.bool (l == m)))),[]⟩
 | .neq,l,m=>.go R ⟨some (d,.d (.val (.bool (!(l == m))))),[]⟩
 | .lss,l,m=>.go R ⟨some (d,.d (.val (.bool (Op.bytesLess l m)))),[]⟩
 | .leq,l,m=>.go R ⟨some (d,.d (.val (.bool (Op.bytesLess l m||l == m)))),[]⟩
 | .gtr,l,m=>.go R ⟨some (d,.d (.val (.bool (!(Op.bytesLess l m||l == m))))),[]⟩
 | .geq,l,m=>.go R ⟨some (d,.d (.val (.bool (!Op.bytesLess l m)))),[]⟩
 | _,_,_=>.stop
def Mv:IntKind→IntKind→Bool
 | .i64,.i64=>true
 | .u8,.u8=>true
 | .u64,.u64=>true
 | .u32,.u32=>true
 | _,_=>false
theorem BQ{a b:IntKind}(h:Mv a b=true):a=b:=by cases a<;>cases b<;>first|rfl|(cases h;done)
def Q4(E:Env)(g:G)(d:Nat)(b:BinOp)(t:TypeId)(x y:Operand):rr:=
 match g.ev x,g.ev y with
 | .d (.val (.int k m)),.d (.val (.int k' n))=>
   match Mv k k' with
   | true=>match Oo b with
     | true=>Rm d ⟨aY x++aY y,[]⟩ b m n
     | false=>match Mv k .i64 with
       | true=>Rs d ⟨aY x++aY y,[]⟩ b m n
       | false=>.stop
   | false=>.stop
 | .d (.str l),.d (.str m)=>Ro d ⟨aY x++aY y,[]⟩ b l m
 | .d (.val (.bool m)),.d (.val (.bool n))=>
   match E.ti t with
   | some ti=>match ti.ty,b with
     | .bool,.eql=>.go ⟨aY x++aY y,[]⟩ ⟨some (d,.d (.val (.bool (m == n)))),[]⟩
     | .bool,.neq=>.go ⟨aY x++aY y,[]⟩ ⟨some (d,.d (.val (.bool (!(m == n))))),[]⟩
     | _,_=>.stop
   | none=>.stop
 | _,_=>.stop
section
variable{E:Env}{g:G}{d:Nat}{ty:TypeId}{pos:String}{aft:Array Edge}{gd:Option (Nat×Bool)}{dn:Option Nat}
theorem OW(b:BinOp)(m n:Int)(t u:TypeId)(x y:Operand)(hx:g.ev x= .d (.val (.int .i64 m)))(hy:g.ev y= .d (.val (.int .i64 n))) :
 (Rs d ⟨aY x++aY y,[]⟩ b m n).Ok E.P ⟨some d,.binOp b t x y u,ty,pos,aft,gd⟩ g:=by
 cases b<;>first
  | exact fun h=>Pq x y m n t u hx hy h
  | exact fun h=>OQ x y m n t u hx hy h
  | exact fun h=>OM x y m n t u hx hy h
  | exact fun h=>Pk x y m n t u hx hy h.1 h.2
  | exact fun h=>PD x y m n t u hx hy h
  | exact trivial
theorem O8(b:BinOp)(k:IntKind)(m n:Int)(t u:TypeId)(x y:Operand)(hx:g.ev x= .d (.val (.int k m)))(hy:g.ev y= .d (.val (.int k n))) :
 (Rm d ⟨aY x++aY y,[]⟩ b m n).Ok E.P ⟨some d,.binOp b t x y u,ty,pos,aft,gd⟩ g:=by
 cases b<;>first
  | exact N9 _ x y k m n _ t u hx hy rfl
  | exact trivial
theorem PW(b:BinOp)(l m:List UInt8)(t u:TypeId)(x y:Operand)(hx:g.ev x= .d (.str l))(hy:g.ev y= .d (.str m)) :
 (Ro d ⟨aY x++aY y,[]⟩ b l m).Ok E.P ⟨some d,.binOp b t x y u,ty,pos,aft,gd⟩ g:=by
 cases b<;>first
  | exact fun h=>O6 x y l m t u hx hy h
  | exact Od _ x y l m _ t u hx hy rfl
  | exact trivial
theorem O2(b:BinOp)(t u:TypeId)(x y:Operand):(Q4 E g d b t x y).Ok E.P ⟨some d,.binOp b t x y u,ty,pos,aft,gd⟩ g:=by
 unfold Q4
 split
 ·rename_i k m k' n hx hy
  split
  ·rename_i hk
   have hk:=BQ hk
   subst hk
   split
   ·exact O8 b _ m n t u x y hx hy
   ·split
    ·rename_i hk
     have hk:=BQ hk
     subst hk
     exact OW b m n t u x y hx hy
    ·trivial
  ·trivial
 ·rename_i l m hx hy
  exact PW b l m t u x y hx hy
 ·rename_i m n hx hy
  split
  ·rename_i ti ht
   split
   ·rename_i hty
    exact O1 x y m n t u ti ht hty hx hy
   ·rename_i hty
    exact O5 x y m n t u ti ht hty hx hy
   ·trivial
  ·trivial
 ·trivial
end
end Go.Eng
namespace Go.Eng
open Go.RowKit
def T.pv:T→PV
 | .leaf d=>.d d
 | .ref j=>.acc j
 | .own _ _=>.any
def PM:List T→List PV
 | []=>[]
 | t::ts=>t.pv::PM ts
def hJ(xs:List (List T))(i:Nat):List T:=xs.getD i []
def fe:List T→Bool
 | []=>true
 | .own _ _::_=>false
 | _::ts=>fe ts
def kL:List (List T)→Bool
 | []=>true
 | x::xs=>fe x&&kL xs
def Rk:PV→Option T
 | .d x=>some (.leaf x)
 | .aJ=>some (.leaf (.bu []))
 | .acc j=>some (.ref j)
 | _=>none
def tI:List PV→Option (List T)
 | []=>some []
 | p::ps=>match Rk p,tI ps with|some x,some xs=>some (x::xs)|_,_=>none
def Gt:List T→Nat
 | []=>0
 | _::as=>Gt as+1
theorem wu:∀(l:List T),Gt l=l.length
 | []=>rfl
 | _::as=>by simp[Gt,wu as]
theorem K8{xs:List (List T)}{i:Nat}(h:i<xs.length):xs[i]?=some (hJ xs i):=by simp[hJ,List.getD,List.getElem?_eq_getElem h]
section
variable{P:Program}{w:World}{ok:Nat→Prop}{ν:Nat→Nm}{st:Nat→Option En}
theorem dV.pv{t:T}{v:Value}{F:List Nat}(h:dV P w ok ν st t v F):af w ok ν st t.pv v:=by
 cases t with
 | leaf d=>simp only[dV] at h;simp only[T.pv,af];exact h.1
 | ref j=>simp only[dV] at h;simp only[T.pv,af];exact⟨h.1,h.2.1⟩
 | own e xs=>simp only[T.pv,af]
theorem an.pv:∀{ts:List T}{vs:List Value}{F:List Nat},an P w ok ν st ts vs F→ae w ok ν st (PM ts) vs
 | [],[],_,_=>by simp[PM,ae]
 | [],_::_,_,h=>by simp[an] at h
 | _::_,[],_,h=>by simp[an] at h
 | t::ts,v::vs,F,h=>by
   simp only[an] at h
   obtain⟨F1,F2,h1,h2,_⟩:=h
   simp only[PM,ae]
   exact⟨h1.pv,h2.pv⟩
theorem dV.one{t:T}{v:Value}{F:List Nat}(h:dV P w ok ν st t v F)(hν:∀k,(st k).isSome=true→(ν k).v.oneCell'=true):v.oneCell'=true:=by
 cases t with
 | leaf d=>simp only[dV] at h;exact h.1.one
 | ref j=>simp only[dV] at h;rw[h.2.1];exact hν j h.1
 | own e xs=>
   simp only[dV] at h
   obtain⟨us,F1,h1,_⟩:=h
   rcases h1.2 with⟨h2,_⟩|⟨b,c,cur,h2,_⟩<;>rw[h2]<;>rfl
theorem an.one(hν:∀k,(st k).isSome=true→(ν k).v.oneCell'=true):∀{ts:List T}{vs:List Value}{F:List Nat},an P w ok ν st ts vs F→∀v∈vs,v.oneCell'=true
 | [],[],_,_,v,hv=>by cases hv
 | [],_::_,_,h,_,_=>by simp[an] at h
 | _::_,[],_,h,_,_=>by simp[an] at h
 | t::ts,v::vs,F,h,u,hu=>by
   simp only[an] at h
   obtain⟨F1,F2,h1,h2,_⟩:=h
   rcases List.mem_cons.1 hu with rfl|hu
   ·exact h1.one hν
   ·exact an.one hν h2 u hu
theorem az.one(hν:∀k,(st k).isSome=true→(ν k).v.oneCell'=true):∀{xs:List (List T)}{us:List (List Value)}{F:List Nat},az P w ok ν st xs us F→∀u∈us,∀v∈u,v.oneCell'=true
 | [],[],_,_,v,hv=>by cases hv
 | [],_::_,_,h,_,_=>by simp[az] at h
 | _::_,[],_,h,_,_=>by simp[az] at h
 | t::ts,v::vs,F,h,u,hu=>by
   simp only[az] at h
   obtain⟨F1,F2,h1,h2,_⟩:=h
   rcases List.mem_cons.1 hu with rfl|hu
   ·exact h1.one hν
   ·exact az.one hν h2 u hu
theorem an.len:∀{ts:List T}{vs:List Value}{F:List Nat},an P w ok ν st ts vs F→vs.length=ts.length
 | [],[],_,_=>rfl
 | [],_::_,_,h=>by simp[an] at h
 | _::_,[],_,h=>by simp[an] at h
 | t::ts,v::vs,F,h=>by
   simp only[an] at h
   obtain⟨F1,F2,_,h2,_⟩:=h
   simp[h2.len]
theorem az.len:∀{ts:List (List T)}{vs:List (List Value)}{F:List Nat},az P w ok ν st ts vs F→vs.length=ts.length
 | [],[],_,_=>rfl
 | [],_::_,_,h=>by simp[az] at h
 | _::_,[],_,h=>by simp[az] at h
 | t::ts,v::vs,F,h=>by
   simp only[az] at h
   obtain⟨F1,F2,_,h2,_⟩:=h
   simp[h2.len]
theorem an.append:∀{x y:List T}{u v:List Value}{F G:List Nat},an P w ok ν st x u F→an P w ok ν st y v G→an P w ok ν st (x++y) (u++v) (F++G)
 | [],y,[],v,F,G,h,h'=>by simp only[an] at h;subst h;simpa using h'
 | [],_,_::_,_,_,_,h,_=>by simp[an] at h
 | _::_,_,[],_,_,_,h,_=>by simp[an] at h
 | t::ts,y,a::u,v,F,G,h,h'=>by
   simp only[an] at h
   obtain⟨F1,F2,h1,h2,rfl⟩:=h
   simp only[List.cons_append,an]
   exact⟨F1,F2++G,h1,h2.append h',by rw[List.append_assoc]⟩
theorem az.append:∀{x y:List (List T)}{u v:List (List Value)}{F G:List Nat},az P w ok ν st x u F→az P w ok ν st y v G→az P w ok ν st (x++y) (u++v) (F++G)
 | [],y,[],v,F,G,h,h'=>by simp only[az] at h;subst h;simpa using h'
 | [],_,_::_,_,_,_,h,_=>by simp[az] at h
 | _::_,_,[],_,_,_,h,_=>by simp[az] at h
 | t::ts,y,a::u,v,F,G,h,h'=>by
   simp only[az] at h
   obtain⟨F1,F2,h1,h2,rfl⟩:=h
   simp only[List.cons_append,az]
   exact⟨F1,F2++G,h1,h2.append h',by rw[List.append_assoc]⟩
theorem an.split:∀(n:Nat){x:List T}{u:List Value}{F:List Nat},an P w ok ν st x u F→∃F1 F2,an P w ok ν st (x.take n) (u.take n) F1∧an P w ok ν st (x.drop n) (u.drop n) F2∧F=F1++F2
 | 0,x,u,F,h=>⟨[],F,by simp[an],by simpa using h,rfl⟩
 | n+1,[],[],F,h=>⟨[],F,by simp[an],by simpa using h,rfl⟩
 | _+1,[],_::_,_,h=>by simp[an] at h
 | _+1,_::_,[],_,h=>by simp[an] at h
 | n+1,t::ts,a::u,F,h=>by
   simp only[an] at h
   obtain⟨F1,F2,h1,h2,rfl⟩:=h
   obtain⟨G1,G2,k1,k2,rfl⟩:=an.split n h2
   refine⟨F1++G1,G2,?_,by simpa using k2,by rw[List.append_assoc]⟩
   simp only[List.take_succ_cons,an]
   exact⟨F1,G1,h1,k1,rfl⟩
theorem wA:∀{x:List T}{u:List Value}{F:List Nat},an P w ok ν st x u F→fe x=true→F=[]
 | [],[],F,h,_=>by simpa only[an] using h
 | [],_::_,_,h,_=>by simp[an] at h
 | _::_,[],_,h,_=>by simp[an] at h
 | t::ts,a::u,F,h,hn=>by
   simp only[an] at h
   obtain⟨F1,F2,h1,h2,rfl⟩:=h
   cases t with
   | leaf d=>simp only[dV] at h1;simp only[fe] at hn;rw[h1.2,wA h2 hn];rfl
   | ref j=>simp only[dV] at h1;simp only[fe] at hn;rw[h1.2.2,wA h2 hn];rfl
   | own e xs=>simp[fe] at hn
theorem CZ:∀{x:List (List T)}{u:List (List Value)}{F:List Nat},az P w ok ν st x u F→kL x=true→F=[]
 | [],[],F,h,_=>by simpa only[az] using h
 | [],_::_,_,h,_=>by simp[az] at h
 | _::_,[],_,h,_=>by simp[az] at h
 | t::ts,a::u,F,h,hn=>by
   simp only[az] at h
   obtain⟨F1,F2,h1,h2,rfl⟩:=h
   simp only[kL,Bool.and_eq_true] at hn
   rw[wA h1 hn.1,CZ h2 hn.2]
   rfl
theorem az.get:∀(i:Nat){xs:List (List T)}{us:List (List Value)}{F:List Nat},az P w ok ν st xs us F→i<xs.length →
 ∃u G,us[i]?=some u∧an P w ok ν st (hJ xs i) u G∧∀(x':List T)(u':List Value),an P w ok ν st x' u' G→az P w ok ν st (xs.set i x') (us.set i u') F
 | _,[],_,_,_,hi=>by simp at hi
 | _,_::_,[],_,h,_=>by simp[az] at h
 | 0,x::xs,u::us,F,h,_=>by
   simp only[az] at h
   obtain⟨F1,F2,h1,h2,rfl⟩:=h
   refine⟨u,F1,rfl,h1,fun x' u' h'=>?_⟩
   simp only[List.set_cons_zero,az]
   exact⟨F1,F2,h',h2,rfl⟩
 | i+1,x::xs,u::us,F,h,hi=>by
   simp only[az] at h
   obtain⟨F1,F2,h1,h2,rfl⟩:=h
   obtain⟨u1,G,k1,k2,k3⟩:=az.get i h2 (by simpa using hi)
   refine⟨u1,G,by simpa using k1,by simpa[hJ] using k2,fun x' u' h'=>?_⟩
   simp only[List.set_cons_succ,az]
   exact⟨F1,F2,h1,k3 x' u' h',rfl⟩
theorem DD:∀{ps:List PV}{ts:List T},tI ps=some ts→ts.length=ps.length
 | [],ts,h=>by simp[tI] at h;simp[←h]
 | p::ps,ts,h=>by
   simp only[tI] at h
   split at h
   ·rename_i x xs h1 h2
    obtain rfl:=Option.some.inj h
    simp[DD h2]
   ·cases h
theorem BP:∀{ps:List PV}{ts:List T}{vs:List Value},ae w ok ν st ps vs→tI ps=some ts→an P w ok ν st ts vs []
 | [],ts,[],_,h=>by simp only[tI,Option.some.injEq] at h;subst h;simp only[an]
 | [],_,_::_,h,_=>by simp[ae] at h
 | _::_,_,[],h,_=>by simp[ae] at h
 | p::ps,ts,v::vs,h,ht=>by
   simp only[tI] at ht
   simp only[ae] at h
   split at ht
   ·rename_i x xs h1 h2
    obtain rfl:=Option.some.inj ht
    simp only[an]
    refine⟨[],[],?_,BP h.2 h2,rfl⟩
    have hp:=h.1
    cases p<;>simp only[Rk] at h1<;>first|(cases h1;done)|skip
    ·obtain rfl:=Option.some.inj h1
     simp only[af] at hp
     subst hp
     simp only[dV,and_true]
     exact .nil
    ·obtain rfl:=Option.some.inj h1
     simp only[af] at hp
     simp only[dV,and_true]
     exact hp
    ·obtain rfl:=Option.some.inj h1
     simp only[af] at hp
     simp only[dV,and_true]
     exact hp
   ·cases ht
theorem Bq:∀{xs:List (List D)}{us:List (List Value)}{sz:Nat},aK w ok sz xs us→az P w ok ν st (lift xs) us []
 | [],us,sz,h=>by
   have:us=[]:=List.eq_nil_of_length_eq_zero h.len
   subst this
   simp only[lift,List.map_nil,az]
 | x::xs,[],sz,h=>by have:=h.len;simp at this
 | x::xs,u::us,sz,h=>by
   have h1:∀(x:List D)(u:List Value),x.length=u.length→(∀(j:Nat)(d:D)(v:Value),x[j]?=some d→u[j]?=some v→cI w ok d v)→an P w ok ν st (x.map T.leaf) u []:=by
    intro x
    induction x with
    | nil=>intro u hl _;cases u with
      | nil=>simp[an]
      | cons a b=>simp at hl
    | cons d x ih=>intro u hl hr;cases u with
      | nil=>simp at hl
      | cons v u=>
        simp only[List.map_cons,an,dV]
        exact⟨[],[],⟨hr 0 d v rfl rfl,rfl⟩,ih u (by simpa using hl) fun j d' v' k1 k2=>hr (j+1) d' v' (by simpa using k1) (by simpa using k2),rfl⟩
   have h2:aK w ok sz xs us:=⟨by simpa using h.len,fun i y hy=>h.hx (i+1) y (by simpa using hy),fun i y hy=>h.hu (i+1) y (by simpa using hy),fun i j y u d v k1 k2 k3 k4=>h.hr (i+1) j y u d v (by simpa using k1) (by simpa using k2) k3 k4⟩
   have:=Bq h2
   simp only[lift,List.map_cons,az] at this⊢
   exact⟨[],[],h1 x u (by rw[h.hx 0 x rfl,h.hu 0 u rfl]) fun j d v k1 k2=>h.hr 0 j x u d v rfl rfl k1 k2,this,rfl⟩
theorem oq{sz:Nat}{us:List (List Value)}(hu:∀(i:Nat)(u:List Value),us[i]?=some u→u.length=sz)(h1:∀u∈us,∀v∈u,v.oneCell'=true):aK w ok sz (us.map fun u=>u.map D.val) us:=by
 refine⟨by simp,fun i x hx=>?_,hu,fun i j x u d v k1 k2 k3 k4=>?_⟩
 ·rw[List.getElem?_map] at hx
  cases hq:us[i]? with
  | none=>rw[hq] at hx;cases hx
  | some u=>rw[hq] at hx;obtain rfl:=Option.some.inj hx;simp[hu i u hq]
 ·rw[List.getElem?_map,k2] at k1
  obtain rfl:=Option.some.inj k1
  rw[List.getElem?_map,k4] at k3
  obtain rfl:=Option.some.inj k3
  exact .val v (h1 u (List.mem_of_getElem? k2) v (List.mem_of_getElem? k4))
end
section
variable{P:Program}{X:Cx}{ν:Nat→Nm}{g:G}{a:Act}{w:World}
theorem m0(h:Sat P X ν g a w){k e:Nat}{xs:List (List T)}(hk:g.at k=some (.bM e xs)):∃us:List (List Value),w.ownsRow 0 e (P.cellsOf e) (ν k).v xs.length us.flatten ∧
 (∀(i:Nat)(u:List Value),us[i]?=some u→u.length=P.cellsOf e)∧az P w (aL X ν g.at) ν g.at xs us (ν k).f∧xs.length≤LB∧(hb (ν k).v++(ν k).f).Nodup:=by
 obtain⟨h1,h2⟩:=h.en k _ hk
 simp only[dV] at h1
 obtain⟨us,F1,k1,k2,k3,k4,k5⟩:=h1
 have:F1=(ν k).f:=(List.append_cancel_left k5).symm
 exact⟨us,k1,k2,this▸k3,k4,h2⟩
theorem ra{ok:Nat→Prop}{st:Nat→Option En}{k e:Nat}{xs:List (List T)}{us:List (List Value)}(h1:w.ownsRow 0 e (P.cellsOf e) (ν k).v xs.length us.flatten)
 (h2:∀(i:Nat)(u:List Value),us[i]?=some u→u.length=P.cellsOf e) (h3:az P w ok ν st xs us (ν k).f) (h4:xs.length≤LB) (h5:(hb (ν k).v++(ν k).f).Nodup):eJ P w ok ν st k (.bM e xs):=by
 refine⟨?_,h5⟩
 simp only[dV]
 exact⟨us,(ν k).f,h1,h2,h3,h4,rfl⟩
theorem IG(h:Sat P X ν g a w){k e:Nat}{xs:List (List T)}(hk:g.at k=some (.bM e xs)):∃b c,(ν k).v= .slice b xs.length c:=by
 obtain⟨us,ho,_⟩:=m0 h hk
 rcases ho.2 with⟨h1,h2⟩|⟨b,cap,cur,h1,_⟩
 ·exact⟨none,0,by rw[h1,h2]⟩
 ·exact⟨_,cap,h1⟩
theorem iE:∀(l:List (Option En))(k:Nat)(x y:Option En),aV (aV l k x) k y=aV l k y
 | [],0,_,_=>rfl
 | [],n+1,x,y=>by simp[aV,iE [] n x y]
 | _::_,0,_,_=>rfl
 | a::as,n+1,x,y=>by simp[aV,iE as n x y]
theorem Sat.lift(h:Sat P X ν g a w){k e:Nat}{xs:List (List D)}(hk:g.at k=some (.acc e xs)):Sat P X ν ⟨g.sl,aV g.st k (some (.bM e (lift xs)))⟩ a w:=by
 have:=h.uA (w':=w) k (.acc e xs) (.bM e (Eng.lift xs)) hk rfl (kF.refl _ w) none .undef Go.undef ?_ (fun h=>by cases h)
 ·exact this
 ·intro hw hm
  obtain⟨us,ho,hrr,hB,hf0⟩:=h.en k _ hk
  have hl:(Eng.lift xs).length=xs.length:=by simp[Eng.lift]
  refine ra (us:=us) (by rw[hl];exact ho) (fun i u hu=>hrr.hu i u hu) ?_ (by rw[hl];exact hB) ?_
  ·rw[hf0]
   exact Bq (hrr.frame hw (Nat.le_refl _))
  ·rw[hf0,List.append_nil]
   unfold hb
   split<;>simp
end
end Go.Eng
namespace Go.Eng
open Go.RowKit
section
variable{E:Env}{g:G}{d:Nat}{ty:TypeId}{pos:String}{aft:Array Edge}{gd:Option (Nat×Bool)}{dn:Option Nat}
theorem Dp(x:Operand)(t k i off sz e:Nat)(ti ei:TI)(xs:List (List T))(ht:E.ti t=some ti)(he:E.ti e=some ei)(hsz:sz=ei.n)(hx:g.ev x= .cq k i off sz)(hk:g.at k=some (.bM e xs))
 (hi:i<xs.length) (hl:off+ti.n≤(hJ xs i).length) :
 eh E.P ⟨some d,.load t x,ty,pos,aft,gd⟩ g ⟨aY x,[k]⟩ ⟨some (d,Hs ti.isAgg (((PM (hJ xs i)).drop off).take ti.n)),[]⟩:=by
 intro g2 hg
 have h1:=hg.ev (x:=x) (fun t h=>h)
 have h3:=(hg.p k (by simp)).trans hk
 refine vz.val rfl fun X ν a w hs=>?_
 have hv:=hs.ev x
 rw[h1,hx] at hv
 simp only[af] at hv
 obtain⟨_,b,n,c,hb,hv⟩:=hv
 obtain⟨us,ho,hul,hr,_⟩:=m0 hs h3
 have hcell:=iJ ho hb
 rw[(E.ok e ei he).cells] at hul
 obtain⟨u,G,hu,hc,_⟩:=hr.get i hi
 have hrep:=hc.pv
 have hlenu:=hc.len
 have hrep':=(hrep.drop off).take ti.n
 have hlen:((u.drop off).take ti.n).length=ti.n:=by simp;omega
 have hca:dB w b (i*ei.n+off) ((u.drop off).take ti.n):=by
  have h0:=hcell.sub (us':=(u.drop off).take ti.n) (i*ei.n+off) (fun j x hx=>by
   rw[List.getElem?_take] at hx
   split at hx
   ·rw[List.getElem?_drop] at hx
    have:=sP us i (off+j) u x hul hu hx
    rw[Nat.add_assoc];exact this
   ·cases hx)
  simpa using h0
 subst hsz
 obtain⟨v,hrun,hvv⟩:=je (E.ok t ti ht) w b _ _ hlen hca
 refine⟨v,?_,pL hrep' hvv⟩
 simp only[execOp,hv,Instr.loadAt,Instr.sureAddr,Sem.run_bind,Sem.run_pure,Result.andThen_ok,hrun]
theorem FI(x y:Operand)(s:Nat)(si ei:TI)(e k:Nat)(xs:List (List T))(n:Int)(hs:E.ti s=some si)(hsy:si.ty= .slice e)(he:E.ti e=some ei)(hx:g.ev x= .acc k)(hk:g.at k=some (.bM e xs))(hy:g.ev y= .d (.val (.int .i64 n)))
 (h0:0≤n) (hlt:n.toNat<xs.length) :
 eh E.P ⟨some d,.indexAddr s x y,ty,pos,aft,gd⟩ g ⟨aY x++aY y,[k]⟩ ⟨some (d,.cq k n.toNat 0 ei.n),[]⟩:=by
 intro g2 hg
 have h1:=hg.ev (x:=x) (fun t h=>by simp[h])
 have h2:=hg.ev (x:=y) (fun t h=>by simp[h])
 have h3:=(hg.p k (by simp)).trans hk
 refine vz.val rfl fun X ν a w hs'=>?_
 have hu:=(E.ok s si hs).ty
 rw[hsy] at hu
 have hv:=hs'.ev x
 rw[h1,hx] at hv
 have hv2:=hs'.ev y
 rw[h2,hy] at hv2
 have hv2:=bU hv2
 simp only[af] at hv⊢
 obtain⟨us,ho,_⟩:=m0 hs' h3
 rcases ho.2 with⟨_,hn⟩|⟨b,cap,cur,hb,_⟩
 ·omega
 ·have hlt':n<(xs.length:Int):=by omega
  refine⟨.pointer (some ⟨b,n.toNat*ei.n,none⟩),?_,by rw[h3];rfl,b,xs.length,cap,hb,rfl⟩
  simp[execOp,hv.2,hb,hv2,Instr.indexAt,asIntOf,run_underlying hu,h0,hlt',(E.ok e ei he).size,add_lit]
theorem GL(x:Operand)(s:Nat)(si:TI)(e' e k:Nat)(xs:List (List T))(hs:E.ti s=some si)(hsy:si.ty= .slice e')(hx:g.ev x= .acc k)(hk:g.at k=some (.bM e xs)) :
 eh E.P ⟨some d,.call ⟨.builtin .len,#[x],#[s]⟩,ty,pos,aft,gd⟩ g ⟨aY x,[k]⟩ ⟨some (d,.d (.val (.int .i64 (xs.length:Int)))),[]⟩:=by
 intro g2 hg
 have h1:=hg.ev (x:=x) (fun t h=>h)
 have h3:=(hg.p k (by simp)).trans hk
 refine vz.val rfl fun X ν a w hs'=>?_
 have hu:=(E.ok s si hs).ty
 rw[hsy] at hu
 have hv:=hs'.ev x
 rw[h1,hx] at hv
 simp only[af] at hv
 obtain⟨b,c,hb⟩:=IG hs' h3
 exact⟨_,oW rfl a w _ (by rw[hv.2,hb];exact run_len_slice hu _ _ _ _ _),gv rfl⟩
theorem tr(x y:Operand)(t k i off sz e:Nat)(ti ei:TI)(xs:List (List T))(p:PV)(cs:List T)(ht:E.ti t=some ti)(he:E.ti e=some ei)(hsz:sz=ei.n)(hx:g.ev x= .cq k i off sz)(hk:g.at k=some (.bM e xs))(hy:g.ev y=p)
 (hi:i<xs.length) (hl:off+ti.n≤ei.n) (hp:p.whole=true) (hn:(bt p).length=ti.n) (hcs:tI (bt p)=some cs) (hno:fe (((hJ xs i).drop off).take ti.n)=true) :
 eh E.P ⟨dn,.store t x y,ty,pos,aft,gd⟩ g ⟨aY x++aY y++dn.toList,[k]⟩ ⟨dn.map fun d=>(d,.undef),[(k,.bM e (xs.set i (lS (hJ xs i) off cs)))]⟩:=by
 intro g2 hg
 have e1:=hg.ev (x:=x) (fun t h=>by simp[h])
 have e2:=hg.ev (x:=y) (fun t h=>by simp[h])
 have h3:=(hg.p k (by simp)).trans hk
 intro X ν a w next Q hs hnx
 have hv:=hs.ev x
 rw[e1,hx] at hv
 have hw:=hs.ev y
 rw[e2,hy] at hw
 simp only[af] at hv
 obtain⟨_,b,n,c,hb,hv⟩:=hv
 obtain⟨us,ho,hul,hrr,hB,hnd⟩:=m0 hs h3
 have hcells:=hw.cells hp hs.nu
 have hlen:=hcells.length
 have htc:=BP (P:=E.P) hcells hcs
 rw[(E.ok e ei he).cells] at hul ho
 subst hsz
 rcases ho.2 with⟨h1,h2⟩|⟨b',cap,cur,h1,_,h2,h4,h5,h6,h7⟩
 ·omega
 ·rw[h1] at hb
  obtain⟨rfl,rfl,rfl⟩:b'=b∧xs.length=n∧cap=c:=by simpa using hb
  have hull:us.length=xs.length:=hrr.len
  have hfl:=(oq (w:=w) (ok:=fun _=>True) hul (hrr.one hs.nu)).eK
  rw[List.length_map] at hfl
  have hmulle:(i+1)*ei.n≤xs.length*ei.n:=Nat.mul_le_mul_right _ hi
  have hmulle2:xs.length*ei.n≤cap*ei.n:=Nat.mul_le_mul_right _ h4
  have hadd:(i+1)*ei.n=i*ei.n+ei.n:=by rw[Nat.add_mul];omega
  have hone:∀u∈(a.eval y).cells.toList,u.oneCell'=true:=htc.one hs.nu
  have hvl:(a.eval y).cells.toList.length=ti.n:=by rw[hlen,hn]
  have hrun:=ni (E.ok t ti ht) w b' (i*ei.n+off) e cur (a.eval y) h2 hvl (by omega) hone
  have hr:(execOp a.eval ⟨dn,.store t x y,ty,pos,aft,gd⟩).run E.P w= .ok .skip (w.setRow b' (cur.toList.take (i*ei.n+off)++(a.eval y).cells.toList++cur.toList.drop (i*ei.n+off+(a.eval y).cells.toList.length)).toArray):=by
   simp only[execOp,hv,Instr.storeAt,Instr.sureAddr,Sem.run_bind,Sem.run_pure,Result.andThen_ok,hrun]
  have hcur:cur.toList=us.flatten++cur.toList.drop (xs.length*ei.n):=by rw[←h7];exact(List.take_append_drop _ _).symm
  have hnew:cur.toList.take (i*ei.n+off)++(a.eval y).cells.toList++cur.toList.drop (i*ei.n+off+(a.eval y).cells.toList.length)=(us.set i (lS (us.getD i []) off (a.eval y).cells.toList)).flatten++cur.toList.drop (xs.length*ei.n):=by
   have:=yr us i off (a.eval y).cells.toList (cur.toList.drop (xs.length*ei.n)) hul (by omega) (by omega)
   rw[←hcur] at this
   rw[←this,List.append_assoc]
   rfl
  obtain⟨u,G,hu,hc,hset⟩:=hrr.get i hi
  have hug:us.getD i []=u:=by simp[List.getD,hu]
  have huil:=hul i u hu
  have hxil:(hJ xs i).length=ei.n:=by rw[←hc.len];exact huil
  have hcsl:cs.length=ti.n:=by rw[DD hcs,hn]
  obtain⟨G1,G2,c1,c2,rfl⟩:=hc.split off
  obtain⟨G3,G4,c3,c4,rfl⟩:=c2.split ti.n
  have hG3:G3=[]:=wA c3 hno
  subst hG3
  have hrow:=hset (lS (hJ xs i) off cs) (lS u off (a.eval y).cells.toList) (by
   unfold lS
   refine c1.append ?_
   refine htc.append ?_
   rw[List.drop_drop,List.drop_drop] at c4
   rw[hcsl,hvl]
   exact c4)
  rw[←hug] at hrow
  have hul':∀(j:Nat)(z:List Value),(us.set i (lS (us.getD i []) off (a.eval y).cells.toList))[j]?=some z→z.length=ei.n:=by
   intro j z hz
   rw[List.getElem?_set] at hz
   by_cases hij:i=j
   ·subst hij
    rw[if_pos rfl,if_pos (by omega)] at hz
    obtain rfl:=Option.some.inj hz
    rw[hug,B9 _ _ _ (by rw[huil,hvl];exact hl),huil]
   ·rw[if_neg hij] at hz
    exact hul j z hz
  have hf2:=(oq (w:=w) (ok:=fun _=>True) hul' (hrow.one hs.nu)).eK
  rw[List.length_map,List.length_set] at hf2
  have hbF:∀b∈(ν k).f,b≠b':=by
   intro b hbf hbe
   rw[h1] at hnd
   exact(List.nodup_append.1 hnd).2.2 b' (tZ.2 rfl) b hbf hbe.symm
  unfold Oper.wp
  rw[hr,Oper.upon_skip,hnew]
  refine hnx _ _ _ (hs.uA k (.bM e xs) (.bM e (xs.set i (lS (hJ xs i) off cs))) h3 rfl (dW w b' _ _ (.inl (by rw[h1];rfl))) dn .undef Go.undef ?_ ?_)
  ·intro hwf hm
   refine ra (us:=us.set i (lS (us.getD i []) off (a.eval y).cells.toList)) ?_ ?_ ?_ (by simpa using hB) hnd
   ·rw[(E.ok e ei he).cells,h1]
    rw[hull] at hfl hf2
    refine⟨by rw[hf2,List.length_set],.inr ⟨b',cap,_,by simp,Nat.zero_le _,setRow_heap w b' _ _ e _ h2,by simpa using h4,h5,?_,?_⟩⟩
    ·simp only[List.size_toArray,List.length_append,hf2,List.length_drop,Array.length_toList,h6]
     omega
    ·rw[List.length_set,List.take_append_of_le_length (by rw[hf2];exact Nat.le_refl _),List.take_of_length_le (by rw[hf2];exact Nat.le_refl _)]
   ·rw[(E.ok e ei he).cells];exact hul'
   ·refine hrow.frame hwf (by simp[World.setRow]) hm _ _ _ fun b hb=>?_
    have hne:=hbF b hb
    exact(dW w b' _ (fun c=>c=b') rfl).block b (hrr.lt _ _ _ b hb) hne
  ·intro _
   simp only[af]
theorem rz:∀(x:List D),fe (x.map T.leaf)=true
 | []=>rfl
 | d::x=>by simp[fe,rz x]
theorem Ik:∀{x:List T}(n m:Nat),fe x=true→fe ((x.drop n).take m)=true:=by
 have h1:∀(x:List T)(n:Nat),fe x=true→fe (x.drop n)=true:=by
  intro x
  induction x with
  | nil=>intro n h;simpa using h
  | cons t x ih=>
    intro n h
    cases n with
    | zero=>exact h
    | succ n=>
      cases t with
      | own e xs=>simp[fe] at h
      | leaf d=>exact ih n (by simpa[fe] using h)
      | ref d=>exact ih n (by simpa[fe] using h)
 have h2:∀(x:List T)(n:Nat),fe x=true→fe (x.take n)=true:=by
  intro x
  induction x with
  | nil=>intro n h;simpa using h
  | cons t x ih=>
    intro n h
    cases n with
    | zero=>rfl
    | succ n=>
      cases t with
      | own e xs=>simp[fe] at h
      | leaf d=>simpa[fe] using ih n (by simpa[fe] using h)
      | ref d=>simpa[fe] using ih n (by simpa[fe] using h)
 intro x n m h
 exact h2 _ m (h1 _ n h)
theorem Kw(xs:List (List D))(i:Nat):hJ (lift xs) i=(row xs i).map T.leaf:=by
 unfold hJ lift row
 simp only[List.getD_eq_getElem?_getD,List.getElem?_map]
 cases xs[i]?<;>rfl
theorem vy:∀(xs:List (List D)),kL (lift xs)=true
 | []=>rfl
 | x::xs=>by
   have:=vy xs
   simp only[lift,List.map_cons,kL,Bool.and_eq_true] at this⊢
   exact⟨rz x,this⟩
theorem BT(x y:Operand)(t k i off sz e:Nat)(ti ei:TI)(xs:List (List D))(p:PV)(cs:List T)(ht:E.ti t=some ti)(he:E.ti e=some ei)(hsz:sz=ei.n)(hx:g.ev x= .cq k i off sz)(hk:g.at k=some (.acc e xs))(hy:g.ev y=p)
 (hi:i<xs.length) (hl:off+ti.n≤ei.n) (hp:p.whole=true) (hn:(bt p).length=ti.n) (hcs:tI (bt p)=some cs) :
 eh E.P ⟨dn,.store t x y,ty,pos,aft,gd⟩ g ⟨aY x++aY y++dn.toList,[k]⟩ ⟨dn.map fun d=>(d,.undef),[(k,.bM e ((lift xs).set i (lS (hJ (lift xs) i) off cs)))]⟩:=by
 intro g2 hg X ν a w next Q hs hnx
 have e1:=hg.ev (x:=x) (fun t h=>by simp[h])
 have e2:=hg.ev (x:=y) (fun t h=>by simp[h])
 have h3:=(hg.p k (by simp)).trans hk
 have hs2:=hs.lift h3
 have hev:∀z,(⟨g2.sl,aV g2.st k (some (.bM e (lift xs)))⟩:G).ev z=g2.ev z:=fun z=>by cases z<;>rfl
 refine tr (g:=⟨g2.sl,aV g2.st k (some (.bM e (lift xs)))⟩) x y t k i off sz e ti ei (lift xs) p cs ht he hsz (by rw[hev,e1];exact hx) ?_ (by rw[hev,e2];exact hy) (by rw[ko];exact hi) hl hp hn hcs ?_ _ ⟨fun _ _=>rfl,fun _ _=>rfl⟩ X ν a w next Q hs2 ?_
 ·rw[mK,if_pos rfl]
 ·rw[Kw]
  exact Ik _ _ (rz _)
 ·intro ν' a' w' h
  refine hnx ν' a' w' ?_
  simpa only[G.app,pC,iE] using h
end
end Go.Eng
namespace Go.Eng
open Go.RowKit
section
variable{E:Env}{g:G}{d:Nat}{ty:TypeId}{pos:String}{aft:Array Edge}{gd:Option (Nat×Bool)}{dn:Option Nat}
def Cr(E:Env)(sz:Nat)(g:G)(p:PV)(ys:List (List T)):Prop:=
 (∃ys',pf E sz g p ys'∧ys=lift ys')∨(∃m e ei,p= .acc m∧g.at m=some (.bM e ys)∧E.ti e=some ei∧ei.n=sz∧kL ys=true)
theorem Cr.agree{R:Rd}{g g2:G}(h:rN R g g2){sz:Nat}{p:PV}{ys:List (List T)}(hp:∀k∈pW p,k∈R.p)(ha:Cr E sz g p ys):Cr E sz g2 p ys:=by
 rcases ha with⟨ys',h1,h2⟩|⟨m,e,ei,rfl,hk,he,hz⟩
 ·exact .inl ⟨ys',h1.agree h hp,h2⟩
 ·exact .inr ⟨m,e,ei,rfl,(h.p m (hp m (by simp[pW]))).trans hk,he,hz⟩
theorem xz{X:Cx}{ν:Nat→Nm}{g:G}{a:Act}{w:World}{sz:Nat}{p:PV}{ys:List (List T)}{v:Value}(h:Sat E.P X ν g a w)(ha:Cr E sz g p ys)(hv:af w (aL X ν g.at) ν g.at p v) :
 ∃vs:List (List Value),az E.P w (aL X ν g.at) ν g.at ys vs []∧(∀(i:Nat)(u:List Value),vs[i]?=some u→u.length=sz)∧pn w v vs∧ys.length≤LB:=by
 rcases ha with⟨ys',h1,rfl⟩|⟨m,e,ei,rfl,hk,he,hz,hn⟩
 ·obtain⟨vs,h2,h3,h4⟩:=nb (P0:=E.P) h h1 hv
  exact⟨vs,Bq h2,h2.hu,h3,by rw[ko];exact h4⟩
 ·simp only[af] at hv
  obtain⟨us,ho,hul,hrr,hB,hnd⟩:=m0 h hk
  have hf:=CZ hrr hn
  rw[hf] at hrr
  refine⟨us,hrr,fun i u hu=>by rw[←hz,← (E.ok e ei he).cells];exact hul i u hu,?_,hB⟩
  rw[hv.2]
  have hl:=hrr.len
  rcases ho.2 with⟨h1,h2⟩|⟨b,cap,cur,h1,_⟩
  ·left
   refine⟨⟨none,0,h1⟩,List.eq_nil_of_length_eq_zero (by rw[hl];exact h2)⟩
  ·right
   exact⟨b,0,cap,by rw[h1,hl],iJ ho h1⟩
theorem yL{v:Value}{F:List Nat}(hF:F.Nodup)(h:∀b,nS v=some b→b∉F):(hb v++F).Nodup:=by
 unfold hb
 cases hv:nS v with
 | none=>simpa using hF
 | some b=>simpa using ⟨h b hv,hF⟩
theorem row_one{w:World}{e sz n:Nat}{v:Value}{us:List Value}(h:w.ownsRow 0 e sz v n us):v.oneCell'=true:=by
 rcases h.2 with⟨h,_⟩|⟨b,c,cur,h,_⟩<;>rw[h]<;>rfl
theorem xu(s x:Operand)(t e k':Nat)(ti ei:TI)(p:PV)(ys:List (List T))(ht:E.ti t=some ti)(hty:ti.ty= .slice e)(he:E.ti e=some ei)(hs:g.ev s= .aJ)(hx:g.ev x=p)(ha:Cr E ei.n g p ys)(hk':g.at k'=none)
 (hlb:ys.length≤LB) (hby:ys.length*ei.bytes≤140737488355328) :
 eh E.P ⟨some d,.call ⟨.builtin .append,#[s,x],#[t,t]⟩,ty,pos,aft,gd⟩ g ⟨aY s++aY x,k'::pW p⟩ ⟨some (d,.acc k'),[(k',.bM e ys)]⟩:=by
 intro g2 hg
 have e1:=hg.ev (x:=s) (fun t h=>by simp[h])
 have e2:=hg.ev (x:=x) (fun t h=>by simp[h])
 have h3:=(hg.p k' (by simp)).trans hk'
 have ha2:=ha.agree hg (fun k h=>by simp[h])
 intro X ν a w next Q hsat hn
 have hv:=hsat.ev s
 rw[e1,hs] at hv
 have hv2:=hsat.ev x
 rw[e2,hx] at hv2
 simp only[af] at hv
 obtain⟨vs,htr,hul,hsl,_⟩:=xz hsat ha2 hv2
 have hraw:=oq (w:=w) (ok:=fun _=>True) hul (htr.one hsat.nu)
 have hl:=htr.len
 obtain⟨v',w',k1,k2,k3,k4⟩:=ik ht hty he w ty (.slice none 0 0) (a.eval x) 0 [] _ vs _ (World.ownsRow_nil w 0 e ei.n) hraw hsl (by simpa[hl] using hlb) (by simpa[hl] using hby)
 have hr:=lx (E:=E) (o:=⟨some d,.call ⟨.builtin .append,#[s,x],#[t,t]⟩,ty,pos,aft,gd⟩) rfl a w w' v' (by rw[hv];exact k1)
 unfold Oper.wp
 rw[hr,Oper.upon_value]
 simp only[Nat.zero_add,List.nil_append,List.length_map,hl] at k2
 refine hn _ _ _ (hsat.n8 (k3.mono fun b hb _=>by simp[nS] at hb) k' h3 (.bM e ys) ⟨v',[]⟩ (row_one k2) (fun b hb=>(k4 b ((dP rfl).1 hb)).resolve_left (by simp[nS])) d _ _ ?_ ?_)
 ·intro ok st ν' hν hw hm
  refine ra (us:=vs) (by rw[hν,(E.ok e ei he).cells];exact k2) (by rw[(E.ok e ei he).cells];exact hul) ?_ hlb (by rw[hν];exact yL List.nodup_nil (by simp))
  rw[hν]
  exact htr.frame hw k3.size hm _ _ _ (by simp)
 ·intro ok st ν' hν hst hw hm
  simp only[af]
  exact⟨by rw[hst];rfl,by rw[hν]⟩
theorem kn(s x:Operand)(t e k k':Nat)(ti ei:TI)(p:PV)(xs ys:List (List T))(ht:E.ti t=some ti)(hty:ti.ty= .slice e)(he:E.ti e=some ei)(hs:g.ev s= .acc k)(hk:g.at k=some (.bM e xs))(hx:g.ev x=p)(ha:Cr E ei.n g p ys)(hk':g.at k'=none)
 (hlb:xs.length+ys.length≤LB) (hby:(xs.length+ys.length)*ei.bytes≤140737488355328) :
 eh E.P ⟨some d,.call ⟨.builtin .append,#[s,x],#[t,t]⟩,ty,pos,aft,gd⟩ g ⟨aY s++aY x,k::k'::pW p⟩ ⟨some (d,.acc k'),[(k,.dead),(k',.bM e (xs++ys))]⟩:=by
 intro g2 hg
 have e1:=hg.ev (x:=s) (fun t h=>by simp[h])
 have e2:=hg.ev (x:=x) (fun t h=>by simp[h])
 have h2:=(hg.p k (by simp)).trans hk
 have h3:=(hg.p k' (by simp)).trans hk'
 have ha2:=ha.agree hg (fun k h=>by simp[h])
 intro X ν a w next Q hsat hn
 have hv:=hsat.ev s
 rw[e1,hs] at hv
 have hv2:=hsat.ev x
 rw[e2,hx] at hv2
 simp only[af] at hv
 obtain⟨vs,htr,hul,hsl,_⟩:=xz hsat ha2 hv2
 have hraw:=oq (w:=w) (ok:=fun _=>True) hul (htr.one hsat.nu)
 have hl:=htr.len
 obtain⟨us,hown,huu,hru,hB,hnd⟩:=m0 hsat h2
 rw[(E.ok e ei he).cells] at hown huu
 obtain⟨v',w',k1,k2,k3,k4⟩:=ik ht hty he w ty (ν k).v (a.eval x) xs.length us.flatten _ vs _ hown hraw hsl (by simpa[hl] using hlb) (by simpa[hl] using hby)
 have hr:=lx (E:=E) (o:=⟨some d,.call ⟨.builtin .append,#[s,x],#[t,t]⟩,ty,pos,aft,gd⟩) rfl a w w' v' (by rw[hv.2];exact k1)
 unfold Oper.wp
 rw[hr,Oper.upon_value]
 simp only[List.length_map,hl] at k2
 have hnd2:=List.nodup_append.1 hnd
 have hnb:∀b∈(ν k).f,nS (ν k).v≠some b:=fun b hb hc=>hnd2.2.2 b (tZ.2 hc) b hb rfl
 have hlt:∀b∈(ν k).f,b<w.heap.size:=fun b hb=>hru.lt _ _ _ b hb
 refine hn _ _ _ (hsat.move (some k) (fun j hj=>⟨_,by obtain rfl:=Option.some.inj hj;exact h2,rfl⟩) (k3.mono fun b hb _=>⟨k,rfl,.inl hb⟩) k' h3 (.bM e (xs++ys)) ⟨v',(ν k).f⟩ (row_one k2)
  (fun b hb=>hb.elim (fun h=>(k4 b h).imp (fun h=>⟨k,rfl,.inl h⟩) id) fun h=>.inl ⟨k,rfl,.inr h⟩) d _ _ ?_ ?_)
 ·intro ok st ν' hν hw hm
  refine ra (us:=us++vs) ?_ ?_ ?_ (by simpa using hlb) ?_
  ·rw[hν,(E.ok e ei he).cells,List.length_append,List.flatten_append];exact k2
  ·rw[(E.ok e ei he).cells]
   intro i u hu
   rcases Nat.lt_or_ge i us.length with hi|hi
   ·rw[List.getElem?_append_left hi] at hu;exact huu i u hu
   ·rw[List.getElem?_append_right hi] at hu;exact hul _ u hu
  ·rw[hν]
   have h1:=hru.frame hw k3.size hm _ _ _ fun b hb=>k3.block b (hlt b hb) (hnb b hb)
   have h2:=htr.frame hw k3.size hm _ _ _ (by simp)
   have:=h1.append h2
   rwa [List.append_nil] at this
  ·rw[hν]
   refine yL hnd2.2.1 fun b hb hm=>?_
   rcases k4 b hb with h|h
   ·exact hnb b hm h
   ·have:=hlt b hm;omega
 ·intro ok st ν' hν hst hw hm
  simp only[af]
  exact⟨by rw[hst];rfl,by rw[hν]⟩
theorem xp(s x:Operand)(t e k k':Nat)(ti ei:TI)(p:PV)(xs:List (List D))(ys:List (List T))(ht:E.ti t=some ti)(hty:ti.ty= .slice e)(he:E.ti e=some ei)(hs:g.ev s= .acc k)(hk:g.at k=some (.acc e xs))(hx:g.ev x=p)(ha:Cr E ei.n g p ys)(hk':g.at k'=none)
 (hlb:xs.length+ys.length≤LB) (hby:(xs.length+ys.length)*ei.bytes≤140737488355328) :
 eh E.P ⟨some d,.call ⟨.builtin .append,#[s,x],#[t,t]⟩,ty,pos,aft,gd⟩ g ⟨aY s++aY x,k::k'::pW p⟩ ⟨some (d,.acc k'),[(k,.dead),(k',.bM e (lift xs++ys))]⟩:=by
 intro g2 hg X ν a w next Q hs' hnx
 have e1:=hg.ev (x:=s) (fun t h=>by simp[h])
 have e2:=hg.ev (x:=x) (fun t h=>by simp[h])
 have h3:=(hg.p k (by simp)).trans hk
 have h4:=(hg.p k' (by simp)).trans hk'
 have ha2:=ha.agree hg (fun k h=>by simp[h])
 have hs2:=hs'.lift h3
 have hev:∀z,(⟨g2.sl,aV g2.st k (some (.bM e (lift xs)))⟩:G).ev z=g2.ev z:=fun z=>by cases z<;>rfl
 have hkk:k'≠k:=fun h=>by rw[h,h3] at h4;cases h4
 have ha3:Cr E ei.n ⟨g2.sl,aV g2.st k (some (.bM e (lift xs)))⟩ p ys:=by
  rcases ha2 with⟨ys',h1,rfl⟩|⟨m,e',ei',rfl,hm,he',hz,hn⟩
  ·by_cases hp:p= .acc k
   ·subst hp
    rcases h1 with⟨h,_⟩|⟨h,_⟩|⟨m,e',ei',h,hm,he',hz⟩|⟨_,_,h,_⟩
    ·cases h
    ·cases h
    ·obtain rfl:k=m:=by simpa using h
     rw[h3] at hm
     obtain⟨rfl,rfl⟩:e=e'∧xs=ys':=by simpa using hm
     exact .inr ⟨k,e,ei',rfl,by rw[mK,if_pos rfl],he',hz,vy _⟩
    ·cases h
   ·refine .inl ⟨ys',?_,rfl⟩
    rcases h1 with h|h|⟨m,e',ei',h,hm,he',hz⟩|h
    ·exact .inl h
    ·exact .inr (.inl h)
    ·exact .inr (.inr (.inl ⟨m,e',ei',h,by rw[mK,if_neg (fun hc=>hp (by rw[h,hc]))];exact hm,he',hz⟩))
    ·exact .inr (.inr (.inr h))
  ·refine .inr ⟨m,e',ei',rfl,?_,he',hz,hn⟩
   rw[mK,if_neg (fun hc=>by rw[hc,h3] at hm;cases hm)]
   exact hm
 refine kn (g:=⟨g2.sl,aV g2.st k (some (.bM e (lift xs)))⟩) s x t e k k' ti ei p (lift xs) ys ht hty he (by rw[hev,e1];exact hs) (by rw[mK,if_pos rfl]) (by rw[hev,e2];exact hx) ha3 (by rw[mK,if_neg hkk];exact h4)
  (by rw[ko];exact hlb) (by rw[ko];exact hby) _ ⟨fun _ _=>rfl,fun _ _=>rfl⟩ X ν a w next Q hs2 ?_
 intro ν' a' w' h
 refine hnx ν' a' w' ?_
 simpa only[G.app,pC,iE] using h
def y6:List PV→Option (List (List T))
 | []=>some []
 | p::ps=>match p.whole,tI (bt p),y6 ps with
   | true,some x,some xs=>some (x::xs)
   | _,_,_=>none
def pR(n:Nat):List (List T)→Bool
 | []=>true
 | x::xs=>ze (Gt x) n&&pR n xs
theorem DQ:∀{qs:List PV}{rows:List (List T)},y6 qs=some rows→rows.length=qs.length
 | [],rows,h=>by simp[y6] at h;simp[←h]
 | q::qs,rows,h=>by
   simp only[y6] at h
   split at h
   ·rename_i h1 h2 h3
    obtain rfl:=Option.some.inj h
    simp[DQ h3]
   ·cases h
def xv(v:Value):PV:=if(∀u∈v.cells.toList,u.oneCell'=true) then(if v.oneCell'=true then .d (.val v) else .agg (v.cells.toList.map fun u=>.d (.val u))) else .any
theorem OC{w:World}{ok:Nat→Prop}{ν:Nat→Nm}{st:Nat→Option En}:∀(cs:List Value),(∀u∈cs,u.oneCell'=true)→ae w ok ν st (cs.map fun u=>.d (.val u)) cs
 | [],_=>by simp[ae]
 | u::cs,h=>by
   simp only[List.map_cons,ae,af]
   exact⟨.val u (h u (by simp)),OC cs fun u hu=>h u (by simp[hu])⟩
theorem EU:∀(cs:List Value),qM (cs.map fun u=>.d (.val u))=some (cs.map D.val)
 | []=>rfl
 | u::cs=>by simp[qM,Qu,EU cs]
theorem M5{w:World}{ok:Nat→Prop}{ν:Nat→Nm}{st:Nat→Option En}(v:Value):af w ok ν st (xv v) v:=by
 unfold xv
 by_cases h:∀u∈v.cells.toList,u.oneCell'=true
 ·rw[if_pos h]
  by_cases h1:v.oneCell'=true
  ·rw[if_pos h1]
   simp only[af]
   exact .val v h1
  ·rw[if_neg h1]
   cases v with
   | agg cs=>simp only[af];exact⟨_,rfl,OC _ h⟩
   | _=>exact absurd (h _ (List.mem_singleton.2 rfl)) h1
 ·rw[if_neg h]
  simp only[af]
theorem MG(v:Value)(h:∀u∈v.cells.toList,u.oneCell'=true):(xv v).whole=true∧qM (bt (xv v))=some (v.cells.toList.map D.val):=by
 unfold xv
 rw[if_pos h]
 by_cases h1:v.oneCell'=true
 ·rw[if_pos h1,rQ h1]
  exact⟨rfl,rfl⟩
 ·rw[if_neg h1]
  exact⟨rfl,EU _⟩
theorem C4(ρ:Operand→Value):∀(ps:List (Nat×Operand)),(∀x∈ps,∀u∈(ρ x.2).cells.toList,u.oneCell'=true)→rowsOf (ps.map fun x=>xv (ρ x.2))=some (ps.map fun x=>(ρ x.2).cells.toList.map D.val)
 | [],_=>rfl
 | x::ps,h=>by
   obtain⟨h1,h2⟩:=MG (ρ x.2) (h x (by simp))
   simp only[List.map_cons,rowsOf]
   rw[if_pos h1,h2,C4 ρ ps fun y hy=>h y (by simp[hy])]
theorem xh(ρ:Operand→Value)(n:Nat):∀(ps:List (Nat×Operand)),(∀x∈ps,(ρ x.2).cells.toList.length=n)→lJ n (ps.map fun x=>(ρ x.2).cells.toList.map D.val)=true
 | [],_=>rfl
 | x::ps,h=>by
   have:=h x (by simp)
   simp only[List.map_cons,lJ,Bool.and_eq_true,List.length_map,beq_iff_eq]
   exact⟨this,xh ρ n ps fun y hy=>h y (by simp[hy])⟩
theorem PF{w:World}{ok:Nat→Prop}{sz:Nat}{vs us:List (List Value)}(hv:∀v∈vs,v.length=sz)(h:aK w ok sz (vs.map fun u=>u.map D.val) us):us=vs:=by
 have hl:=h.len
 rw[List.length_map] at hl
 refine List.ext_getElem hl fun i h1 h2=>?_
 have e1:(vs.map fun u=>u.map D.val)[i]?=some (vs[i].map D.val):=by simp[List.getElem?_eq_getElem h2]
 have e2:=List.getElem?_eq_getElem h1
 have l1:=h.hu i _ e2
 have l2:=hv _ (List.getElem_mem h2)
 refine List.ext_getElem (by rw[l1,l2]) fun j h3 h4=>?_
 exact(h.hr i j _ _ (.val vs[i][j]) _ e1 e2 (by simp[List.getElem?_eq_getElem h4]) (List.getElem?_eq_getElem h3)).wH
theorem KD{t e:Nat}{ti ei:TI}(ht:E.ti t=some ti)(hty:ti.ty= .slice e)(he:E.ti e=some ei)(a:Act)(w:World)(ps:List (Nat×Operand))(hup:zG 0 (ps.map (·.1))=true)
 (h1:∀x∈ps,∀u∈(a.eval x.2).cells.toList,u.oneCell'=true) (h2:∀x∈ps,(a.eval x.2).cells.toList.length=ei.n) (hbig:ps.length*ei.n≤16777216) {o:Oper} (ho:o.op= .buildSlice t ps.length ⟨ps⟩) :
 (execOp a.eval o).run E.P w= .ok (.value (.slice (some ⟨w.heap.size,0,none⟩) ps.length ps.length)) (w.alloc (.cells ⟨(ps.map fun x=>(a.eval x.2).cells.toList).flatten⟩ e)):=by
 obtain⟨i,z,k1,k2,k4,k5,k6,k7⟩:=(E.ok e ei he).info
 have hu:=(E.ok t ti ht).ty
 rw[hty] at hu
 have hpos:=(E.ok e ei he).pos
 have key:∀init:Array Value,init.size=ps.length*ei.n→Instr.fill (fun i=>some (i*ei.n,ei.n)) init (ps.map fun x=>(x.1,a.eval x.2))=some ⟨(ps.map fun x=>(a.eval x.2).cells.toList).flatten⟩:=by
  intro init hi
  obtain⟨us,m1,m2⟩:=uw (w:=w) (ok:=fun _=>True) (ν:=fun _=>⟨.bool false,[]⟩) (st:=fun _=>none) (fun _ h=>by cases h) ei.n (fun x=>xv (a.eval x)) a.eval (fun x=>M5 _) ps 0 [] init _ hup (C4 a.eval ps h1) (xh a.eval ei.n ps h2) (by simp) (by simp) (by simpa using hi)
  have e1:(ps.map fun x=>(a.eval x.2).cells.toList.map D.val)=(ps.map fun x=>(a.eval x.2).cells.toList).map fun u=>u.map D.val:=by simp
  rw[e1] at m2
  have:=PF (by
   intro v hv
   obtain⟨x,hx,rfl⟩:=List.mem_map.1 hv
   exact h2 x hx) m2
  subst this
  simpa using m1
 by_cases hz:ps.length*ei.n=0
 ·have m1:=key ((Array.range 0).map fun _=>default) (by rw[Array.size_map,Array.size_range,hz])
  simp only[execOp,ho,List.map_toArray,Instr.buildSlice,Sem.run_bind,run_underlying hu,Result.andThen_ok,(E.ok e ei he).size w,hz]
  simp[m1,newRow]
 ·have m1:=key ((Array.range (ps.length*ei.n)).map (z.cells[· % z.cells.size]!)) (by simp)
  have hn:¬ps.length*ei.n>16777216:=by omega
  simp only[execOp,ho,List.map_toArray,Instr.buildSlice,Sem.run_bind,run_underlying hu,Result.andThen_ok,(E.ok e ei he).size w]
  simp[hn,hz,zeroValue,typeInfo,k1,k5,m1,newRow]
theorem H3{w:World}{ok:Nat→Prop}{ν:Nat→Nm}{st:Nat→Option En}(hν:∀k,(st k).isSome=true→(ν k).v.oneCell'=true)(ev:Operand→PV)(ρ:Operand→Value)(hev:∀x,af w ok ν st (ev x) (ρ x))(n:Nat) :
 ∀(ps:List (Nat×Operand))(rows:List (List T)),y6 (ps.map fun x=>ev x.2)=some rows→pR n rows=true →
  az E.P w ok ν st rows (ps.map fun x=>(ρ x.2).cells.toList) []∧(∀x∈ps,∀u∈(ρ x.2).cells.toList,u.oneCell'=true)∧(∀x∈ps,(ρ x.2).cells.toList.length=n)
 | [],rows,h,_=>by
   simp only[List.map_nil,y6,Option.some.injEq] at h
   subst h
   exact⟨by simp[az],by simp,by simp⟩
 | x::ps,rows,h,hl=>by
   simp only[List.map_cons,y6] at h
   split at h
   ·rename_i row rows' h1 h2 h3
    obtain rfl:=Option.some.inj h
    simp only[pR,Bool.and_eq_true] at hl
    have hl1:=oc hl.1
    rw[wu] at hl1
    obtain⟨k1,k2,k3⟩:=H3 hν ev ρ hev n ps rows' h3 hl.2
    have hc:=(hev x.2).cells h1 hν
    have ht:=BP (P:=E.P) hc h2
    refine⟨?_,?_,?_⟩
    ·simp only[List.map_cons,az]
     exact⟨[],[],ht,k1,rfl⟩
    ·intro y hy
     rcases List.mem_cons.1 hy with rfl|hy
     ·exact ht.one hν
     ·exact k2 y hy
    ·intro y hy
     rcases List.mem_cons.1 hy with rfl|hy
     ·rw[ht.len];exact hl1
     ·exact k3 y hy
   ·cases h
theorem Gf(t e n k:Nat)(ps:List (Nat×Operand))(ti ei:TI)(rows:List (List T))(ht:E.ti t=some ti)(hty:ti.ty= .slice e)(he:E.ti e=some ei)(hn:n=ps.length)(hup:zG 0 (ps.map (·.1))=true)
 (hr:y6 (ps.map fun x=>g.ev x.2)=some rows) (hlen:pR ei.n rows=true) (hbig:ps.length*ei.n≤16777216) (hk:g.at k=none) :
 eh E.P ⟨some d,.buildSlice t n ⟨ps⟩,ty,pos,aft,gd⟩ g ⟨ps.flatMap fun x=>aY x.2,[k]⟩ ⟨some (d,.acc k),[(k,.bM e rows)]⟩:=by
 subst hn
 intro g2 hg
 have hmap:ps.map (fun x=>g2.ev x.2)=ps.map (fun x=>g.ev x.2):=by
  apply List.map_congr_left
  intro x hx
  rw[hg.ev (x:=x.2) (fun t h=>List.mem_flatMap.2 ⟨x,hx,h⟩)]
 have h3:=(hg.p k (by simp)).trans hk
 rw[←hmap] at hr
 intro X ν a w next Q hs hnx
 obtain⟨htr,m1,m2⟩:=H3 hs.nu g2.ev a.eval hs.ev ei.n ps rows hr hlen
 have hrun:=KD ht hty he a w ps hup m1 m2 hbig (o:=⟨some d,.buildSlice t ps.length ⟨ps⟩,ty,pos,aft,gd⟩) rfl
 have hpos:=(E.ok e ei he).pos
 have hrl:=DQ hr
 simp only[List.length_map] at hrl
 have hle:ps.length≤16777216:=Nat.le_trans (Nat.le_mul_of_pos_right _ hpos) hbig
 have hul:∀(i:Nat)(u:List Value),(ps.map fun x=>(a.eval x.2).cells.toList)[i]?=some u→u.length=ei.n:=by
  intro i u hu
  obtain⟨x,hx,rfl⟩:=List.mem_map.1 (List.mem_of_getElem? hu)
  exact m2 x hx
 have hfl:=(oq (w:=w) (ok:=fun _=>True) hul (htr.one hs.nu)).eK
 simp only[List.length_map] at hfl
 unfold Oper.wp
 rw[hrun,Oper.upon_value]
 have hrow:=World.ownsRow_lit w (e:=e) (⟨(ps.map fun x=>(a.eval x.2).cells.toList).flatten⟩:Array Value) rows.length (base:=0) (size:=ei.n) (Nat.zero_le _) (by simp only[maxLen];omega) (by rw[hrl];simpa using hfl)
 refine hnx _ _ _ (hs.n8 (dw w _) k h3 (.bM e rows) ⟨.slice (some ⟨w.heap.size,0,none⟩) ps.length ps.length,[]⟩ rfl (fun b hb=>?_) d _ _ ?_ ?_)
 ·obtain rfl:w.heap.size=b:=by simpa[Nm.has,nS] using hb
  exact Nat.le_refl _
 ·intro ok st ν' hν hw hm
  refine ra (us:=ps.map fun x=>(a.eval x.2).cells.toList) ?_ (by rw[(E.ok e ei he).cells];exact hul) ?_ (by unfold LB;omega) (by rw[hν];exact yL List.nodup_nil (by simp))
  ·rw[hν,(E.ok e ei he).cells,←hrl]
   exact hrow
  ·rw[hν]
   exact htr.frame hw (dw w _).size hm _ _ _ (by simp)
 ·intro ok st ν' hν hst hw hm
  simp only[af]
  exact⟨by rw[hst];rfl,by rw[hν]⟩
end
def OB:Nat→List T→List T
 | 0,_=>[]
 | _+1,[]=>[]
 | n+1,a::as=>a::OB n as
theorem FM:∀(n:Nat)(l:List T),OB n l=l.take n
 | 0,l=>by simp[OB]
 | n+1,[]=>by simp[OB]
 | n+1,a::as=>by simp[OB,FM n as]
def Ow:Nat→List T→List T
 | 0,l=>l
 | _+1,[]=>[]
 | n+1,_::as=>Ow n as
theorem Gr:∀(n:Nat)(l:List T),Ow n l=l.drop n
 | 0,l=>by simp[Ow]
 | n+1,[]=>by simp[Ow]
 | n+1,a::as=>by simp[Ow,Gr n as]
def Qg:List T→List T→List T
 | [],ys=>ys
 | x::xs,ys=>x::Qg xs ys
theorem J5:∀(xs ys:List T),Qg xs ys=xs++ys
 | [],ys=>rfl
 | x::xs,ys=>by simp[Qg,J5 xs ys]
def N3(cs:List T)(off:Nat)(vs:List T):List T:=Qg (OB off cs) (Qg vs (Ow (off+Gt vs) cs))
theorem NK(cs:List T)(off:Nat)(vs:List T):N3 cs off vs=lS cs off vs:=by
 simp only[N3,lS,J5,FM,Gr,wu]
end Go.Eng
namespace Go.Eng
open Go.RowKit
def Bn(g:G)(d:Nat)(c x y:Operand):rr:=
 match g.ev c with
 | .d (.val (.bool true))=>.go ⟨aY c++aY x,[]⟩ ⟨some (d,g.ev x),[]⟩
 | .d (.val (.bool false))=>.go ⟨aY c++aY y,[]⟩ ⟨some (d,g.ev y),[]⟩
 | _=>.stop
def w6(E:Env)(g:G)(d:Nat)(t:TypeId):rr:=
 match E.ti t with
 | some ti=>.go ⟨[],[g.new]⟩ ⟨some (d,.ptr g.new 0),[(g.new,.box ti.zero)]⟩
 | none=>.stop
def F5(g:G)(d:Nat)(x:Operand):rr:=
 match(g.ev x).whole with
 | true=>.go ⟨aY x,[g.new]⟩ ⟨some (d,.ptr g.new 0),[(g.new,.box (bt (g.ev x)))]⟩
 | false=>.stop
def wG(E:Env)(g:G)(d:Nat)(t:TypeId)(x:Operand):rr:=
 match E.ti t with
 | none=>.stop
 | some ti=>
   match g.ev x with
   | .ptr k off=>
     match g.at k with
     | some (.box cs)=>match pM (off+ti.n) (oQ cs) with
       | true=>.go ⟨aY x,[k]⟩ ⟨some (d,Hs ti.isAgg (tk ti.n (dr off cs))),[]⟩
       | false=>.stop
     | _=>.stop
   | .cf xs i off=>.gK (pM (off+ti.n) (B3 (row xs i))=true) ⟨aY x,[]⟩ ⟨some (d,Hs ti.isAgg (tk ti.n (dr off (bn (row xs i))))),[]⟩
   | .cq k i off sz=>
     match g.at k with
     | some (.acc e xs)=>match E.ti e with
       | some ei=>.gK (ze sz ei.n=true∧i<xs.length∧pM (off+ti.n) (B3 (row xs i))=true) ⟨aY x,[k]⟩ ⟨some (d,Hs ti.isAgg (tk ti.n (dr off (bn (row xs i))))),[]⟩
       | none=>.stop
     | some (.bM e xs)=>match E.ti e with
       | some ei=>.gK (ze sz ei.n=true∧i<xs.length∧pM (off+ti.n) (Gt (hJ xs i))=true) ⟨aY x,[k]⟩ ⟨some (d,Hs ti.isAgg (tk ti.n (dr off (PM (hJ xs i))))),[]⟩
       | none=>.stop
     | _=>.stop
   | _=>.stop
def B7(E:Env)(g:G)(d:Nat)(s:TypeId)(x:Operand)(f:Nat):rr:=
 match E.ti s with
 | none=>.stop
 | some si=>match si.ty with
   | .struct fs=>match Fi fs f with
     | some (_,fo,_)=>match g.ev x with
       | .ptr k off=>.go ⟨aY x,[]⟩ ⟨some (d,.ptr k (off+fo)),[]⟩
       | .cf xs i off=>.go ⟨aY x,[]⟩ ⟨some (d,.cf xs i (off+fo)),[]⟩
       | .cq k i off sz=>.go ⟨aY x,[]⟩ ⟨some (d,.cq k i (off+fo) sz),[]⟩
       | _=>.stop
     | none=>.stop
   | _=>.stop
def rS(E:Env)(g:G)(d:Nat)(s:TypeId)(x:Operand)(f:Nat):rr:=
 match E.ti s with
 | none=>.stop
 | some si=>match si.ty with
   | .struct fs=>match Fi fs f with
     | some (ft,fo,_)=>match E.ti ft with
       | none=>.stop
       | some fi=>match g.ev x with
         | .agg cs=>match pM (fo+fi.n) (oQ cs) with
           | true=>.go ⟨aY x,[]⟩ ⟨some (d,Hs fi.isAgg (tk fi.n (dr fo cs))),[]⟩
           | false=>.stop
         | _=>.stop
     | none=>.stop
   | _=>.stop
def wF(E:Env)(g:G)(d:Nat)(s:TypeId)(x y:Operand):rr:=
 match E.ti s with
 | none=>.stop
 | some si=>match g.ev y with
   | .d (.val (.int .i64 n))=>match si.ty with
     | .slice e=>match E.ti e with
       | none=>.stop
       | some ei=>match g.ev x with
         | .d (.bu xs)=>.gK (0≤n∧n.toNat<xs.length∧ze (B3 (row xs n.toNat)) ei.n=true) ⟨aY x++aY y,[]⟩ ⟨some (d,.cf xs n.toNat 0),[]⟩
         | .acc k=>match g.at k with
           | some (.acc e' xs)=>match Nat.beq e e' with
             | true=>.gK (0≤n∧n.toNat<xs.length) ⟨aY x++aY y,[k]⟩ ⟨some (d,.cq k n.toNat 0 ei.n),[]⟩
             | false=>.stop
           | some (.bM e' xs)=>match Nat.beq e e' with
             | true=>.gK (0≤n∧n.toNat<xs.length) ⟨aY x++aY y,[k]⟩ ⟨some (d,.cq k n.toNat 0 ei.n),[]⟩
             | false=>.stop
           | _=>.stop
         | _=>.stop
     | .arr len e=>match E.ti e with
       | none=>.stop
       | some ei=>match g.ev x with
         | .ptr k off=>.gK (0≤n∧n.toNat<len) ⟨aY x++aY y,[]⟩ ⟨some (d,.ptr k (off+n.toNat*ei.n)),[]⟩
         | _=>.stop
     | _=>.stop
   | _=>.stop
def BS(E:Env)(g:G)(d:Nat)(s:TypeId)(x y:Operand):rr:=
 match E.ti s with
 | none=>.stop
 | some si=>match g.ev y with
   | .d (.val (.int .i64 n))=>match si.ty with
     | .str=>match g.ev x with
       | .d (.str l)=>.gK (0≤n∧n.toNat<l.length) ⟨aY x++aY y,[]⟩ ⟨some (d,.d (.val (.int .u8 ((l.getD n.toNat 0).toNat:Int)))),[]⟩
       | _=>.stop
     | _=>.stop
   | _=>.stop
def HB(g:G)(d:Nat)(u:UnOp)(x:Operand):rr:=
 match u,g.ev x with
 | .not,.d (.val (.bool m))=>.go ⟨aY x,[]⟩ ⟨some (d,.d (.val (.bool (!m)))),[]⟩
 | .neg,.d (.val (.int .i64 m))=>.gK (Iw (-m)) ⟨aY x,[]⟩ ⟨some (d,.d (.val (.int .i64 (-m)))),[]⟩
 | _,_=>.stop
def wq(E:Env)(g:G)(d:Nat)(s t:TypeId)(x:Operand):rr:=
 match E.ti s,E.ti t with
 | some si,some ti=>match si.ty,ti.ty,g.ev x with
   | .int k,.int k',.d (.val (.int k2 m))=>match Mv k k2 with
     | true=>.go ⟨aY x,[]⟩ ⟨some (d,.d (.val (.int k' (k'.wrap m)))),[]⟩
     | false=>.stop
   | _,_,_=>.stop
 | _,_=>.stop
def tj(E:Env)(g:G)(d:Nat)(t:TypeId)(ps:List (Nat×Operand)):rr:=
 match E.ti t with
 | none=>.stop
 | some ti=>match ti.ty with
   | .struct fs=>match DF (Q3 fs) ti.zero (QE g ps) with
     | some r=>.go ⟨OG ps,[]⟩ ⟨some (d,.agg r),[]⟩
     | none=>.stop
   | _=>.stop
def BB(E:Env)(g:G)(d:Nat)(t:TypeId)(n:Nat)(ps:List (Nat×Operand)):rr:=
 match E.ti t with
 | none=>.stop
 | some ti=>match ti.ty with
   | .slice e=>match E.ti e with
     | none=>.stop
     | some ei=>match ps with
       | []=>match n with
         | 0=>.go ⟨[],[g.new]⟩ ⟨some (d,.acc g.new),[(g.new,.acc e [])]⟩
         | _=>.stop
       | p::ps=>match Nat.beq n (G6 (p::ps)),zG 0 (Ql (p::ps)),rowsOf (Qa g (p::ps)) with
         | true,true,some rows=>match lJ ei.n rows,pM (G6 (p::ps)) 64,pM ei.n 64 with
           | true,true,true=>.go ⟨OG (p::ps),[]⟩ ⟨some (d,.d (.bu rows)),[]⟩
           | _,_,_=>.stop
         | true,true,none=>match y6 (Qa g (p::ps)) with
           | none=>.stop
           | some rows=>match pR ei.n rows,pM (G6 (p::ps)) 64,pM ei.n 64 with
             | true,true,true=>.go ⟨OG (p::ps),[g.new]⟩ ⟨some (d,.acc g.new),[(g.new,.bM e rows)]⟩
             | _,_,_=>.stop
         | _,_,_=>.stop
   | _=>.stop
def wB(E:Env)(g:G)(d:Nat)(t:TypeId)(l c:Operand):rr:=
 match E.ti t with
 | none=>.stop
 | some ti=>match ti.ty with
   | .slice e=>match E.ti e with
     | none=>.stop
     | some ei=>match qM ei.zero,g.ev l,g.ev c with
       | some z,.d (.val (.int .i64 n)),.d (.val (.int .i64 n'))=>.gK (n'=n∧0≤n∧n.toNat≤LB∧ei.bytes*n.toNat≤281474976710656) ⟨aY l++aY c,[g.new]⟩ ⟨some (d,.acc g.new),[(g.new,.acc e (List.replicate n.toNat z))]⟩
       | _,_,_=>.stop
   | _=>.stop
def PR(g:G)(dflt:Int):Option Operand→Option Int
 | none=>some dflt
 | some x=>match g.ev x with
   | .d (.val (.int _ i))=>some i
   | _=>none
theorem CK{g:G}{d i:Int}{o:Option Operand}(h:PR g d o=some i):OI g o d i:=by
 cases o with
 | none=>exact(Option.some.inj h).symm
 | some x=>
   simp only[PR] at h
   split at h
   ·rename_i k j hj
    obtain rfl:=Option.some.inj h
    exact⟨k,hj⟩
   ·cases h
def Br(E:Env)(g:G)(d:Nat)(t:TypeId)(x:Operand)(lo hi mx:Option Operand):rr:=
 match mx,E.ti t with
 | none,some ti=>match ti.ty,g.ev x with
   | .slice e,.d (.bu xs)=>match E.ti e,PR g 0 lo,PR g xs.length hi with
     | some ei,some l,some h=>.gK (0≤l∧l≤h∧h≤xs.length∧∀y∈xs,y.length=ei.n) ⟨aY x++(Mx lo++Mx hi),[]⟩ ⟨some (d,.d (.bu ((xs.drop l.toNat).take (h.toNat-l.toNat)))),[]⟩
     | _,_,_=>.stop
   | .str,.d (.str s)=>match PR g 0 lo,PR g s.length hi with
     | some l,some h=>.gK (0≤l∧l≤h∧h≤s.length) ⟨aY x++(Mx lo++Mx hi),[]⟩ ⟨some (d,.d (.str ((s.drop l.toNat).take (h.toNat-l.toNat)))),[]⟩
     | _,_=>.stop
   | _,_=>.stop
 | _,_=>.stop
def Be(g:G)(d:Nat)(x:Operand):rr:=
 match g.ev x with
 | .ptr k off=>.go ⟨aY x,[]⟩ ⟨some (d,.ptr k off),[]⟩
 | .cf xs i off=>.go ⟨aY x,[]⟩ ⟨some (d,.cf xs i off),[]⟩
 | .cq k i off sz=>.go ⟨aY x,[]⟩ ⟨some (d,.cq k i off sz),[]⟩
 | _=>.stop
def Bw(g:G)(d:Nat)(x:Operand)(i:Nat):rr:=
 match g.ev x with
 | .eL ps=>match I6 ps i with
   | some p=>.go ⟨aY x,[]⟩ ⟨some (d,p),[]⟩
   | none=>.stop
 | _=>.stop
def A9(E:Env)(g:G)(d:Nat)(s:TypeId)(x:Operand):rr:=
 match E.ti s with
 | none=>.stop
 | some si=>match si.ty,g.ev x with
   | .slice _,.d (.bu xs)=>.go ⟨aY x,[]⟩ ⟨some (d,.d (.val (.int .i64 (xs.length:Int)))),[]⟩
   | .slice _,.aJ=>.go ⟨aY x,[]⟩ ⟨some (d,.d (.val (.int .i64 0))),[]⟩
   | .slice _,.acc k=>match g.at k with
     | some (.acc _ xs)=>.go ⟨aY x,[k]⟩ ⟨some (d,.d (.val (.int .i64 (xs.length:Int)))),[]⟩
     | some (.bM _ xs)=>.go ⟨aY x,[k]⟩ ⟨some (d,.d (.val (.int .i64 (xs.length:Int)))),[]⟩
     | _=>.stop
   | .str,.d (.str l)=>.go ⟨aY x,[]⟩ ⟨some (d,.d (.val (.int .i64 (l.length:Int)))),[]⟩
   | _,_=>.stop
def wN(E:Env)(g:G)(p:PV):Option (List (List D)×Option TypeId):=
 match p with
 | .aJ=>some ([],none)
 | .d (.bu ys)=>some (ys,none)
 | .acc k=>match g.at k with
   | some (.acc e ys)=>some (ys,some e)
   | _=>none
 | .d (.val (.slice (some _) 0 _))=>some ([],none)
 | _=>none
def DW(E:Env)(sz:Nat)(p:PV)(ys:List (List D)):Option TypeId→Prop
 | none=>∀y∈ys,y.length=sz
 | some e=>∃ei,E.ti e=some ei∧ei.n=sz
theorem rq{E:Env}{g:G}{p:PV}{ys:List (List D)}{o:Option TypeId}{sz:Nat}(h:wN E g p=some (ys,o))(ho:DW E sz p ys o):pf E sz g p ys:=by
 unfold wN at h
 split at h
 ·obtain⟨rfl,rfl⟩:[]=ys∧none=o:=by simpa using h
  exact .inl ⟨rfl,rfl⟩
 ·obtain⟨rfl,rfl⟩:_=ys∧none=o:=by simpa using h
  exact .inr (.inl ⟨rfl,ho⟩)
 ·split at h
  ·rename_i e ys' hk
   obtain⟨rfl,rfl⟩:_=ys∧some e=o:=by simpa using h
   obtain⟨ei,h1,h2⟩:=ho
   exact .inr (.inr (.inl ⟨_,e,ei,rfl,hk,h1,h2⟩))
  ·cases h
 ·obtain⟨rfl,rfl⟩:[]=ys∧none=o:=by simpa using h
  exact .inr (.inr (.inr ⟨_,_,rfl,rfl⟩))
 ·cases h
def wI(g:G)(p:PV):Option (List (List T)×TypeId):=
 match p with
 | .acc k=>match g.at k with
   | some (.bM e ys)=>some (ys,e)
   | _=>none
 | _=>none
theorem ri{E:Env}{g:G}{p:PV}{ys:List (List T)}{e:TypeId}{ei:TI}(h:wI g p=some (ys,e))(he:E.ti e=some ei)(hn:kL ys=true):Cr E ei.n g p ys:=by
 unfold wI at h
 split at h
 ·rename_i k
  split at h
  ·rename_i e' ys' hk
   obtain⟨rfl,rfl⟩:ys'=ys∧e'=e:=by simpa using h
   exact .inr ⟨k,e',ei,rfl,hk,he,rfl,hn⟩
  ·cases h
 ·cases h
def wy(g:G)(d:Nat)(s x:Operand)(e:TypeId)(ei:TI):rr:=
 match wI g (g.ev x) with
 | none=>.stop
 | some (ys,e2)=>match Nat.beq e e2 with
   | false=>.stop
   | true=>match g.ev s with
     | .aJ=>.gK (kL ys=true∧ys.length≤LB∧ys.length*ei.bytes≤140737488355328) ⟨aY s++aY x,g.new::pW (g.ev x)⟩ ⟨some (d,.acc g.new),[(g.new,.bM e ys)]⟩
     | .acc k=>match g.at k with
       | some (.acc e' xs)=>match Nat.beq e e' with
         | true=>.gK (kL ys=true∧xs.length+ys.length≤LB∧(xs.length+ys.length)*ei.bytes≤140737488355328) ⟨aY s++aY x,k::g.new::pW (g.ev x)⟩ ⟨some (d,.acc g.new),[(k,.dead),(g.new,.bM e (lift xs++ys))]⟩
         | false=>.stop
       | some (.bM e' xs)=>match Nat.beq e e' with
         | true=>.gK (kL ys=true∧xs.length+ys.length≤LB∧(xs.length+ys.length)*ei.bytes≤140737488355328) ⟨aY s++aY x,k::g.new::pW (g.ev x)⟩ ⟨some (d,.acc g.new),[(k,.dead),(g.new,.bM e (xs++ys))]⟩
         | false=>.stop
       | _=>.stop
     | _=>.stop
def Cw(E:Env)(g:G)(d:Nat)(s x:Operand)(t t':TypeId):rr:=
 match Nat.beq t t',E.ti t with
 | true,some ti=>match ti.ty with
   | .slice e=>match E.ti e,wN E g (g.ev x) with
     | some ei,some (ys,o)=>match g.ev s with
       | .aJ=>.gK (DW E ei.n (g.ev x) ys o∧ys.length≤LB∧ys.length*ei.bytes≤140737488355328) ⟨aY s++aY x,g.new::pW (g.ev x)⟩ ⟨some (d,.acc g.new),[(g.new,.acc e ys)]⟩
       | .acc k=>match g.at k with
         | some (.acc e' xs)=>match Nat.beq e e' with
           | true=>.gK (DW E ei.n (g.ev x) ys o∧xs.length+ys.length≤LB∧(xs.length+ys.length)*ei.bytes≤140737488355328) ⟨aY s++aY x,k::g.new::pW (g.ev x)⟩ ⟨some (d,.acc g.new),[(k,.dead),(g.new,.acc e (xs++ys))]⟩
           | false=>.stop
         | some (.bM e' xs)=>match Nat.beq e e' with
           | true=>.gK (DW E ei.n (g.ev x) ys o∧xs.length+ys.length≤LB∧(xs.length+ys.length)*ei.bytes≤140737488355328) ⟨aY s++aY x,k::g.new::pW (g.ev x)⟩ ⟨some (d,.acc g.new),[(k,.dead),(g.new,.bM e (xs++lift ys))]⟩
           | false=>.stop
         | _=>.stop
       | _=>.stop
     | some ei,none=>wy g d s x e ei
     | _,_=>.stop
   | _=>.stop
 | _,_=>.stop
def o3(E:Env)(g:G)(dn:Option Nat)(t:TypeId)(x y:Operand):rr:=
 match E.ti t with
 | none=>.stop
 | some ti=>match g.ev x with
   | .ptr k off=>match g.at k with
     | some (.box cs)=>match pM (off+ti.n) (oQ cs),(g.ev y).whole,Nat.beq (oQ (bt (g.ev y))) ti.n,nc (bt (g.ev y)) with
       | true,true,true,true=>.go ⟨aY x++aY y++dn.toList,[k]⟩ ⟨dn.map fun d=>(d,.undef),[(k,.box (GV cs off (bt (g.ev y))))]⟩
       | _,_,_,_=>.stop
     | _=>.stop
   | .cq k i off sz=>match g.at k with
     | some (.acc e xs)=>match E.ti e,(g.ev y).whole,Nat.beq (oQ (bt (g.ev y))) ti.n,qM (bt (g.ev y)) with
       | some ei,true,true,some cs=>.gK (ze sz ei.n=true∧i<xs.length∧pM (off+ti.n) ei.n=true) ⟨aY x++aY y++dn.toList,[k]⟩ ⟨dn.map fun d=>(d,.undef),[(k,.acc e (xs.set i (lS (row xs i) off cs)))]⟩
       | some ei,true,true,none=>match tI (bt (g.ev y)) with
         | none=>.stop
         | some cs=>.gK (ze sz ei.n=true∧i<xs.length∧pM (off+ti.n) ei.n=true) ⟨aY x++aY y++dn.toList,[k]⟩ ⟨dn.map fun d=>(d,.undef),[(k,.bM e ((lift xs).set i (lS (hJ (lift xs) i) off cs)))]⟩
       | _,_,_,_=>.stop
     | some (.bM e xs)=>match E.ti e,(g.ev y).whole,Nat.beq (oQ (bt (g.ev y))) ti.n,tI (bt (g.ev y)) with
       | some ei,true,true,some cs=>.gK (ze sz ei.n=true∧i<xs.length∧pM (off+ti.n) ei.n=true∧fe (OB ti.n (Ow off (hJ xs i)))=true) ⟨aY x++aY y++dn.toList,[k]⟩ ⟨dn.map fun d=>(d,.undef),[(k,.bM e (xs.set i (N3 (hJ xs i) off cs)))]⟩
       | _,_,_,_=>.stop
     | _=>.stop
   | _=>.stop
def uo:List Operand→List Nat
 | []=>[]
 | x::xs=>aY x++uo xs
theorem pI:∀(l:List Operand),uo l=l.flatMap aY
 | []=>rfl
 | x::xs=>by simp[uo,pI xs]
def I4(g:G):List Operand→List PV
 | []=>[]
 | x::xs=>g.ev x::I4 g xs
theorem tH(g:G):∀(l:List Operand),I4 g l=l.map g.ev
 | []=>rfl
 | x::xs=>by simp[I4,tH g xs]
def Hv(g:G)(d:Nat)(fn:Fn)(first cs:List Operand):rr:=
 match fn,first with
 | .func f,[]=>.go ⟨uo cs,[]⟩ ⟨some (d,.fn f (I4 g cs)),[]⟩
 | _,_=>.stop
def wC(E:Env)(g:G)(d:Nat)(callee:Callee)(args:List Operand)(tys:List TypeId):rr:=
 match callee with
 | .builtin b=>match b,args,tys with
   | .len,[x],[s]=>A9 E g d s x
   | .append,[s,x],[t,t']=>Cw E g d s x t t'
   | _,_,_=>.stop
 | _=>.stop
def Hp(E:Env)(g:G)(d:Nat):Op→rr
 | .move x=>.go ⟨aY x,[]⟩ ⟨some (d,g.ev x),[]⟩
 | .assign x=>.go ⟨aY x,[]⟩ ⟨some (d,g.ev x),[]⟩
 | .pick c x y=>Bn g d c x y
 | .alloc t=>w6 E g d t
 | .box _ x=>F5 g d x
 | .load t x=>wG E g d t x
 | .fieldAddr s x f=>B7 E g d s x f
 | .field s x f=>rS E g d s x f
 | .indexAddr s x y=>wF E g d s x y
 | .index s x y=>BS E g d s x y
 | .store t x y=>o3 E g (some d) t x y
 | .binOp b t x y _=>Q4 E g d b t x y
 | .unOp u _ x=>HB g d u x
 | .convert s t x=>wq E g d s t x
 | .makeFunc fn first cs=>Hv g d fn first.toList cs.toList
 | .build t ps=>tj E g d t ps.toList
 | .buildSlice t n ps=>BB E g d t n ps.toList
 | .makeSlice t l c=>wB E g d t l c
 | .slice t x lo hi mx=>Br E g d t x lo hi mx
 | .nilCheck x=>Be g d x
 | .extract x i=>Bw g d x i
 | .call c=>wC E g d c.callee c.args.toList c.argTypes.toList
 | _=>.stop
def PT(E:Env)(g:G)(o:Oper):rr:=
 match o.dst,o.op with
 | some d,op=>Hp E g d op
 | none,.store t x y=>o3 E g none t x y
 | none,_=>.stop
section
variable{E:Env}{g:G}{d:Nat}{ty:TypeId}{pos:String}{aft:Array Edge}{gd:Option (Nat×Bool)}{dn:Option Nat}
theorem FF(t:TypeId)(x:Operand):(wG E g d t x).Ok E.P ⟨some d,.load t x,ty,pos,aft,gd⟩ g:=by
 unfold wG
 split
 ·trivial
 ·rename_i ti ht
  split
  ·rename_i k off hx
   split
   ·rename_i cs hk
    split
    ·rename_i hl
     have hl:=ew hl
     rw[gR] at hl
     simp only[zP,Az]
     exact C2 x t k off ti cs ht hx hk hl
    ·trivial
   ·trivial
  ·rename_i xs i off hx
   simp only[zP,Az]
   exact fun h=>CL x t i off ti xs _ ht hx rfl (Hy h)
  ·rename_i k i off sz hx
   split
   ·rename_i e xs hk
    split
    ·rename_i ei he
     simp only[zP,Az]
     exact fun h=>Ck x t k i off sz e ti ei xs _ ht he (oc h.1) hx hk h.2.1 rfl (Hy h.2.2)
    ·trivial
   ·rename_i e xs hk
    split
    ·rename_i ei he
     simp only[zP,Az]
     exact fun h=>Dp x t k i off sz e ti ei xs ht he (oc h.1) hx hk h.2.1 (by have:=ew h.2.2;rwa [wu] at this)
    ·trivial
   ·trivial
  ·trivial
theorem I3(s:TypeId)(x:Operand)(f:Nat):(B7 E g d s x f).Ok E.P ⟨some d,.fieldAddr s x f,ty,pos,aft,gd⟩ g:=by
 unfold B7
 split
 ·trivial
 ·rename_i si hs
  split
  ·rename_i fs hsy
   split
   ·rename_i ft fo fz hf
    rw[Cq] at hf
    split
    ·rename_i hx;exact Gb x s f _ _ si fs ft fo fz hs hsy hf hx
    ·rename_i hx;exact Db x s f _ _ _ si fs ft fo fz hs hsy hf hx
    ·rename_i hx;exact Eh x s f _ _ _ _ si fs ft fo fz hs hsy hf hx
    ·trivial
   ·trivial
  ·trivial
theorem DJ(s:TypeId)(x:Operand)(f:Nat):(rS E g d s x f).Ok E.P ⟨some d,.field s x f,ty,pos,aft,gd⟩ g:=by
 unfold rS
 split
 ·trivial
 ·rename_i si hs
  split
  ·rename_i fs hsy
   split
   ·rename_i ft fo fz hf
    rw[Cq] at hf
    split
    ·trivial
    ·rename_i fi hfi
     split
     ·rename_i cs hx
      split
      ·rename_i hl
       have hl:=ew hl
       rw[gR] at hl
       simp only[zP,Az]
       exact Lf x s f si fs ft fo fz fi cs hs hsy hf hfi hx hl
      ·trivial
     ·trivial
   ·trivial
  ·trivial
theorem Fg(s:TypeId)(x y:Operand):(wF E g d s x y).Ok E.P ⟨some d,.indexAddr s x y,ty,pos,aft,gd⟩ g:=by
 unfold wF
 split
 ·trivial
 ·rename_i si hs
  split
  ·rename_i n hy
   split
   ·rename_i e hsy
    split
    ·trivial
    ·rename_i ei he
     split
     ·rename_i xs hx
      exact fun h=>G0 x y s si ei e xs n hs hsy he hx hy h.1 h.2.1 (Nt h.2.2)
     ·rename_i k hx
      split
      ·rename_i e' xs hk
       split
       ·rename_i hee
        obtain rfl:=Nat.eq_of_beq_eq_true hee
        exact fun h=>FT x y s si ei e k xs n hs hsy he hx hk hy h.1 h.2
       ·trivial
      ·rename_i e' xs hk
       split
       ·rename_i hee
        obtain rfl:=Nat.eq_of_beq_eq_true hee
        exact fun h=>FI x y s si ei e k xs n hs hsy he hx hk hy h.1 h.2
       ·trivial
      ·trivial
     ·trivial
   ·rename_i len e hsy
    split
    ·trivial
    ·rename_i ei he
     split
     ·rename_i k off hx
      exact fun h=>FH x y s si ei e len k off n hs hsy he hx hy h.1 h.2
     ·trivial
   ·trivial
  ·trivial
theorem I7(s:TypeId)(x y:Operand):(BS E g d s x y).Ok E.P ⟨some d,.index s x y,ty,pos,aft,gd⟩ g:=by
 unfold BS
 split
 ·trivial
 ·rename_i si hs
  split
  ·rename_i n hy
   split
   ·rename_i hsy
    split
    ·rename_i l hx
     exact fun h=>Fm x y s si l n hs hsy hx hy h.1 h.2
    ·trivial
   ·trivial
  ·trivial
theorem J7(u:UnOp)(t:TypeId)(x:Operand):(HB g d u x).Ok E.P ⟨some d,.unOp u t x,ty,pos,aft,gd⟩ g:=by
 unfold HB
 split
 ·rename_i m hx;exact Pm x m t hx
 ·rename_i m hx;exact fun h=>P5 x m t hx h
 ·trivial
theorem FN(s t:TypeId)(x:Operand):(wq E g d s t x).Ok E.P ⟨some d,.convert s t x,ty,pos,aft,gd⟩ g:=by
 unfold wq
 split
 ·rename_i si ti hs ht
  split
  ·rename_i k k' k2 m hsy hty hx
   split
   ·rename_i hk
    obtain rfl:=BQ hk
    exact M0 x k k' m s t si ti hs hsy ht hty hx
   ·trivial
  ·trivial
 ·trivial
theorem ER(t:TypeId)(ps:Array (Nat×Operand)):(tj E g d t ps.toList).Ok E.P ⟨some d,.build t ps,ty,pos,aft,gd⟩ g:=by
 unfold tj
 split
 ·trivial
 ·rename_i ti ht
  split
  ·rename_i fs hty
   split
   ·rename_i r hr
    have hr:=Ib _ _ _ _ hr
    rw[Mn,Lj] at hr
    rw[Bf]
    exact L9 t ps.toList ti fs r ht hty hr
   ·trivial
  ·trivial
theorem I8(t:TypeId)(n:Nat)(ps:Array (Nat×Operand)):(BB E g d t n ps.toList).Ok E.P ⟨some d,.buildSlice t n ps,ty,pos,aft,gd⟩ g:=by
 obtain⟨ps⟩:=ps
 simp only
 unfold BB
 split
 ·trivial
 ·rename_i ti ht
  split
  ·rename_i e hty
   split
   ·trivial
   ·rename_i ei he
    split
    ·split
     ·exact qK t e 0 g.new [] ti ei [] ht hty he rfl rfl rfl rfl (by simp) g.eZ
     ·trivial
    ·rename_i p ps
     split
     ·rename_i rows h1 h2 h3
      split
      ·rename_i h4 h5 h6
       have h1:=Nat.eq_of_beq_eq_true h1
       have h5:=ew h5
       have h6:=ew h6
       rw[BG] at h1 h5
       rw[Gp] at h2
       rw[E2] at h3
       rw[Bf]
       exact KJ t e n (p::ps) ti ei rows ht hty he h1 h2 h3 h4 (Nat.le_trans (Nat.mul_le_mul h5 h6) (by omega))
      ·trivial
     ·rename_i h1 h2 _
      split
      ·trivial
      ·rename_i rows h3
       split
       ·rename_i h4 h5 h6
        have h1:=Nat.eq_of_beq_eq_true h1
        have h5:=ew h5
        have h6:=ew h6
        rw[BG] at h1 h5
        rw[Gp] at h2
        rw[E2] at h3
        rw[Bf]
        exact Gf t e n g.new (p::ps) ti ei rows ht hty he h1 h2 h3 h4 (Nat.le_trans (Nat.mul_le_mul h5 h6) (by omega)) g.eZ
       ·trivial
     ·trivial
  ·trivial
theorem GA(t:TypeId)(l c:Operand):(wB E g d t l c).Ok E.P ⟨some d,.makeSlice t l c,ty,pos,aft,gd⟩ g:=by
 unfold wB
 split
 ·trivial
 ·rename_i ti ht
  split
  ·rename_i e hty
   split
   ·trivial
   ·rename_i ei he
    split
    ·rename_i z n n' hz hl hc
     rintro⟨rfl,h1,h2,h3⟩
     exact ML l c t e g.new ti ei n' z ht hty he hz hl hc g.eZ h1 h2 h3
    ·trivial
  ·trivial
theorem Im(t:TypeId)(x:Operand)(lo hi mx:Option Operand):(Br E g d t x lo hi mx).Ok E.P ⟨some d,.slice t x lo hi mx,ty,pos,aft,gd⟩ g:=by
 unfold Br
 split
 ·rename_i ti ht
  split
  ·rename_i e xs hty hx
   split
   ·rename_i ei l h he hl hh
    exact fun k=>E5 x lo hi t e ti ei xs _ l h ht hty he hx (CK hl) (CK hh) k.1 k.2.1 k.2.2.1 k.2.2.2 rfl
   ·trivial
  ·rename_i s hty hx
   split
   ·rename_i l h hl hh
    exact fun k=>EX x lo hi t ti s _ l h ht hty hx (CK hl) (CK hh) k.1 k.2.1 k.2.2 rfl
   ·trivial
  ·trivial
 ·trivial
theorem Iv(x:Operand):(Be g d x).Ok E.P ⟨some d,.nilCheck x,ty,pos,aft,gd⟩ g:=by
 unfold Be
 split
 ·rename_i hx;exact vU x _ _ hx
 ·rename_i hx;exact tM x _ _ _ hx
 ·rename_i hx;exact uh x _ _ _ _ hx
 ·trivial
theorem Jv(x:Operand)(i:Nat):(Bw g d x i).Ok E.P ⟨some d,.extract x i,ty,pos,aft,gd⟩ g:=by
 unfold Bw
 split
 ·rename_i ps hx
  split
  ·rename_i p hp
   rw[HI] at hp
   exact Fx x i ps p hx hp
  ·trivial
 ·trivial
theorem IM(s:TypeId)(x:Operand):(A9 E g d s x).Ok E.P ⟨some d,.call ⟨.builtin .len,#[x],#[s]⟩,ty,pos,aft,gd⟩ g:=by
 unfold A9
 split
 ·trivial
 ·rename_i si hs
  split
  ·rename_i e xs hsy hx;exact Fw x s si e xs hs hsy hx
  ·rename_i e hsy hx;exact F7 x s si e hs hsy hx
  ·rename_i e k hsy hx
   split
   ·rename_i e' xs hk;exact GF x s si e e' k xs hs hsy hx hk
   ·rename_i e' xs hk;exact GL x s si e e' k xs hs hsy hx hk
   ·trivial
  ·rename_i l hsy hx;exact Fp x s si l hs hsy hx
  ·trivial
theorem GH(s x:Operand)(t e:TypeId)(ti ei:TI)(ht:E.ti t=some ti)(hty:ti.ty= .slice e)(he:E.ti e=some ei):(wy g d s x e ei).Ok E.P ⟨some d,.call ⟨.builtin .append,#[s,x],#[t,t]⟩,ty,pos,aft,gd⟩ g:=by
 unfold wy
 split
 ·trivial
 ·rename_i ys e2 hr
  split
  ·trivial
  ·rename_i h2
   obtain rfl:=Nat.eq_of_beq_eq_true h2
   split
   ·rename_i hs
    exact fun h=>xu s x t e g.new ti ei _ ys ht hty he hs rfl (ri hr he h.1) g.eZ h.2.1 h.2.2
   ·rename_i k hs
    split
    ·rename_i e' xs hk
     split
     ·rename_i hee
      obtain rfl:=Nat.eq_of_beq_eq_true hee
      exact fun h=>xp s x t e k g.new ti ei _ xs ys ht hty he hs hk rfl (ri hr he h.1) g.eZ h.2.1 h.2.2
     ·trivial
    ·rename_i e' xs hk
     split
     ·rename_i hee
      obtain rfl:=Nat.eq_of_beq_eq_true hee
      exact fun h=>kn s x t e k g.new ti ei _ xs ys ht hty he hs hk rfl (ri hr he h.1) g.eZ h.2.1 h.2.2
     ·trivial
    ·trivial
   ·trivial
theorem Ii(s x:Operand)(t t':TypeId):(Cw E g d s x t t').Ok E.P ⟨some d,.call ⟨.builtin .append,#[s,x],#[t,t']⟩,ty,pos,aft,gd⟩ g:=by
 unfold Cw
 split
 ·rename_i ti htt ht
  obtain rfl:=Nat.eq_of_beq_eq_true htt
  split
  ·rename_i e hty
   split
   ·rename_i ei ys o he hap
    split
    ·rename_i hs
     exact fun h=>zj s x t e g.new ti ei _ ys ht hty he hs rfl (rq hap h.1) g.eZ h.2.1 h.2.2
    ·rename_i k hs
     split
     ·rename_i e' xs hk
      split
      ·rename_i hee
       obtain rfl:=Nat.eq_of_beq_eq_true hee
       exact fun h=>y8 s x t e k g.new ti ei _ xs ys ht hty he hs hk rfl (rq hap h.1) g.eZ h.2.1 h.2.2
      ·trivial
     ·rename_i e' xs hk
      split
      ·rename_i hee
       obtain rfl:=Nat.eq_of_beq_eq_true hee
       exact fun h=>kn s x t e k g.new ti ei _ xs (lift ys) ht hty he hs hk rfl (.inl ⟨ys,rq hap h.1,rfl⟩) g.eZ (by rw[ko];exact h.2.1) (by rw[ko];exact h.2.2)
      ·trivial
     ·trivial
    ·trivial
   ·rename_i ei he _
    exact GH s x t e ti ei ht hty he
   ·trivial
  ·trivial
 ·trivial
theorem vk(t:TypeId)(x y:Operand):(o3 E g dn t x y).Ok E.P ⟨dn,.store t x y,ty,pos,aft,gd⟩ g:=by
 unfold o3
 split
 ·trivial
 ·rename_i ti ht
  split
  ·rename_i k off hx
   split
   ·rename_i cs hk
    split
    ·rename_i h1 h2 h3 h4
     have h1:=ew h1
     have h3:=Nat.eq_of_beq_eq_true h3
     rw[gR] at h1 h3
     rw[Bm _ _ _ (by omega)]
     exact B0 x y t k off ti cs _ ht hx hk rfl h1 h2 h3 h4
    ·trivial
   ·trivial
  ·rename_i k i off sz hx
   split
   ·rename_i e xs hk
    split
    ·rename_i ei cs he h2 h3 h4
     have h3:=Nat.eq_of_beq_eq_true h3
     rw[gR] at h3
     exact fun h=>zC x y t k i off sz e ti ei xs _ cs ht he (oc h.1) hx hk rfl h.2.1 (ew h.2.2) h2 h3 h4
    ·rename_i ei he h2 h3 _
     have h3:=Nat.eq_of_beq_eq_true h3
     rw[gR] at h3
     split
     ·trivial
     ·rename_i cs h4
      exact fun h=>BT x y t k i off sz e ti ei xs _ cs ht he (oc h.1) hx hk rfl h.2.1 (ew h.2.2) h2 h3 h4
    ·trivial
   ·rename_i e xs hk
    split
    ·rename_i ei cs he h2 h3 h4
     have h3:=Nat.eq_of_beq_eq_true h3
     rw[gR] at h3
     simp only[FM,Gr,NK]
     exact fun h=>tr x y t k i off sz e ti ei xs _ cs ht he (oc h.1) hx hk rfl h.2.1 (ew h.2.2.1) h2 h3 h4 h.2.2.2
    ·trivial
   ·trivial
  ·trivial
theorem J9(fn:Fn)(first cs:Array Operand):(Hv g d fn first.toList cs.toList).Ok E.P ⟨some d,.makeFunc fn first cs,ty,pos,aft,gd⟩ g:=by
 obtain⟨first⟩:=first
 obtain⟨cs⟩:=cs
 unfold Hv
 split
 ·rename_i f h
  simp only at h
  subst h
  rw[pI,tH]
  exact ED _ _
 ·trivial
theorem Ha(c:Call):(wC E g d c.callee c.args.toList c.argTypes.toList).Ok E.P ⟨some d,.call c,ty,pos,aft,gd⟩ g:=by
 obtain⟨callee,⟨args⟩,⟨tys⟩⟩:=c
 unfold wC
 split
 ·split
  ·rename_i h1 h2
   simp only at h1 h2
   subst h1 h2
   rename_i h
   simp only at h
   subst h
   exact IM _ _
  ·rename_i h1 h2
   simp only at h1 h2
   subst h1 h2
   rename_i h
   simp only at h
   subst h
   exact Ii _ _ _ _
  ·trivial
 ·trivial
theorem Lv(op:Op):(Hp E g d op).Ok E.P ⟨some d,op,ty,pos,aft,gd⟩ g:=by
 unfold Hp
 split
 ·exact Ca _
 ·exact IL _
 ·unfold Bn
  split
  ·rename_i hc;exact HX _ _ _ true hc
  ·rename_i hc;exact HX _ _ _ false hc
  ·trivial
 ·unfold w6
  split
  ·rename_i ti ht;exact K5 _ g.new ti ht g.eZ
  ·trivial
 ·unfold F5
  split
  ·rename_i hw;exact Ph _ _ g.new g.eZ hw
  ·trivial
 ·exact FF _ _
 ·exact I3 _ _ _
 ·exact DJ _ _ _
 ·exact Fg _ _ _
 ·exact I7 _ _ _
 ·exact vk _ _ _
 ·exact O2 _ _ _ _ _
 ·exact J7 _ _ _
 ·exact FN _ _ _
 ·exact J9 _ _ _
 ·exact ER _ _
 ·exact I8 _ _ _
 ·exact GA _ _ _
 ·exact Im _ _ _ _ _
 ·exact Iv _
 ·exact Jv _ _
 ·exact Ha _
 ·trivial
theorem PO(o:Oper):(PT E g o).Ok E.P o g:=by
 obtain⟨dst,op,ty,pos,aft,gd⟩:=o
 unfold PT
 split
 ·rename_i d h
  obtain rfl:dst=some d:=h
  exact Lv op
 ·rename_i t x y h1 h2
  obtain rfl:dst=none:=h1
  obtain rfl:op= .store t x y:=h2
  exact vk _ _ _
 ·trivial
end
end Go.Eng
namespace Go.Eng
open Go.RowKit
inductive jq where
 | on
 | off
def PE:Bool→(jq→Prop)→(jq→Prop)→Prop
 | true,a,_=>a .on
 | false,_,b=>b .on
theorem QK(a b:jq→Prop):PE true a b=a .on:=rfl
theorem Qz(a b:jq→Prop):PE false a b=b .on:=rfl
theorem IB{c:Bool}{a b:jq→Prop}(ht:c=true→a .on)(hf:c=false→b .on):PE c a b:=by
 cases c
 ·exact hf rfl
 ·exact ht rfl
theorem ph{c:Bool}{a b:jq→Prop}(h:PE c a b):(c=true∧a .on)∨(c=false∧b .on):=by
 cases c
 ·exact .inr ⟨rfl,h⟩
 ·exact .inl ⟨rfl,h⟩
def snoc:List Ky→Ky→List Ky
 | [],k=>[k]
 | a::as,k=>a::snoc as k
theorem HE:∀(l:List Ky)(k:Ky),snoc l k=l++[k]
 | [],_=>rfl
 | a::as,k=>by simp[snoc,HE as k]
def fE:Option (List Ky)→Ky→Option (List Ky)
 | none,_=>none
 | some l,k=>some (snoc l k)
def WM(P:Program)(ops:Array Oper):Option (List Ky)→List Oper→G→(G→Prop)→Prop
 | none,os,g,K=>WO P ops os g K
 | some pre,os,g,K=>WD P ops os pre g K
theorem wE{P:Program}{ops:Array Oper}{m:Option (List Ky)}{o:Oper}{os:List Oper}{g:G}{K:G→Prop}{R:Rd}{δ:Dl}(h:x7 P ops o g R δ)(hr:WM P ops (fE m (gM R δ)) os (g.app δ) K):WM P ops m (o::os) g K:=by
 cases m with
 | none=>exact pP h hr
 | some pre=>
   simp only[fE,HE] at hr
   exact NW h hr
def l6:Option Nat→Rd→Rd
 | none,R=>R
 | some t,R=>⟨t::R.s,R.p⟩
def rG(P:Program)(g g':G):Prop:=∀(X:Cx)(ν:Nat→Nm)(a:Act)(w:World),Sat P X ν g a w→∃ν',Sat P X ν' g' a w
theorem rG.trans{P:Program}{g g1 g2:G}(h:rG P g g1)(h':rG P g1 g2):rG P g g2:=fun X ν a w hs=>
 let ⟨ν1,h1⟩:=h X ν a w hs
 h' X ν1 a w h1
theorem Ia{P:Program}{ops:Array Oper}{os:List Oper}{g g':G}{K:G→Prop}(hw:rG P g g')(h:WO P ops os g' K):WO P ops os g K:=fun i hi X ν a w Q hs hn=>
 let ⟨ν',hs'⟩:=hw X ν a w hs
 h i hi X ν' a w Q hs' hn
def kP(E:Env)(m:Option (List Ky))(gs:Option Nat)(o:Oper)(g:G)(rest:jq→Option (List Ky)→G→Prop):Prop:=
 (∃R δ,eh E.P o g R δ∧rest .on (fE m (gM (l6 gs R) δ)) (g.app δ)) ∨
 (m=none∧gs=none∧∃g',rG E.P g g'∧∃R δ,eh E.P o g' R δ∧rest .on none (g'.app δ))
theorem bS{E:Env}{m:Option (List Ky)}{gs:Option Nat}{o:Oper}{g:G}{rest:jq→Option (List Ky)→G→Prop}{R:Rd}{δ:Dl}(h:eh E.P o g R δ)(hr:rest .on (fE m (gM (l6 gs R) δ)) (g.app δ)):kP E m gs o g rest:=.inl ⟨R,δ,h,hr⟩
def Af(E:Env)(m:Option (List Ky))(gs:Option Nat)(o:Oper)(g:G)(rest:jq→Option (List Ky)→G→Prop):rr→Prop
 | .go R δ=>rest .on (fE m (gM (l6 gs R) δ)) (g.app δ)
 | .gK φ R δ=>φ∧rest .on (fE m (gM (l6 gs R) δ)) (g.app δ)
 | .stop=>kP E m gs o g rest
theorem gP{E:Env}{m:Option (List Ky)}{gs:Option Nat}{o:Oper}{g:G}{rest:jq→Option (List Ky)→G→Prop}(h:Af E m gs o g rest (PT E g o)):kP E m gs o g rest:=by
 have hk:=PO (E:=E) (g:=g) o
 generalize PT E g o=s at h hk
 cases s with
 | go R δ=>exact .inl ⟨R,δ,hk,h⟩
 | gK φ R δ=>exact .inl ⟨R,δ,hk h.1,h.2⟩
 | stop=>exact h
def O7(E:Env)(m:Option (List Ky))(t:Nat)(o:Oper)(g:G)(rest:jq→Option (List Ky)→G→Prop):jq→Prop
 | .on=>Af E m (some t) o g rest (PT E g o)
 | .off=>False
def Lb(m:Option (List Ky))(t:Nat)(g:G)(rest:jq→Option (List Ky)→G→Prop):Option Nat→jq→Prop
 | some d,.on=>rest .on (fE m ⟨[t],[],[d],[]⟩) (g.app ⟨some (d,.undef),[]⟩)
 | _,_=>False
def jX:PV→Bool→(jq→Prop)→(jq→Prop)→Prop
 | .d (.val (.bool c)),true,yes,no=>PE c yes no
 | .d (.val (.bool c)),false,yes,no=>PE c no yes
 | .undef,_,_,no=>no .on
 | _,_,_,_=>False
def Qe:List Oper→Nat→Option Nat
 | [],_=>none
 | o::_,0=>o.dst
 | _::os,n+1=>Qe os n
theorem K6:∀(l:List Oper)(n:Nat),Qe l n=(l[n]?).bind (·.dst)
 | [],n=>by simp[Qe]
 | o::_,0=>rfl
 | _::os,n+1=>by simp[Qe,K6 os n]
def PN(all:List Oper)(g:G)(K:jq→G→Prop):Option (List Ky)→Prop
 | none=>K .on g
 | some pre=>indep all pre=true∧K .on g
def MD(E:Env)(all:List Oper)(m:Option (List Ky))(o:Oper)(g:G)(rest:jq→Option (List Ky)→G→Prop):Option (Nat×Bool)→Prop
 | none=>Af E m none o g rest (PT E g o)
 | some (j,b)=>match Qe all j with
   | none=>False
   | some t=>jX (nth g.sl t) b (O7 E m t o g rest) (Lb m t g rest o.dst)
def run(E:Env)(all:List Oper)(K:jq→G→Prop):List Oper→jq→Option (List Ky)→G→Prop
 | [],.on,m,g=>PN all g K m
 | o::os,.on,m,g=>MD E all m o g (run E all K os) o.guard
 | [],.off,_,_=>False
 | _::_,.off,_,_=>False
theorem F3{E:Env}{ops:Array Oper}{K:jq→G→Prop}:∀(os:List Oper)(m:Option (List Ky))(g:G),run E ops.toList K os .on m g→WM E.P ops m os g (K .on)
 | [],none,g,h=>tY h
 | [],some pre,g,h=>Pg h.1 h.2
 | o::os,m,g,h=>by
   have ih:=F3 (E:=E) (ops:=ops) (K:=K) os
   simp only[run] at h
   cases hg:o.guard with
   | none=>
     rw[hg] at h
     rcases gP h with⟨R,δ,h1,h2⟩|⟨rfl,_,g',hw,R,δ,h1,h2⟩
     ·exact wE (x7.plain hg h1) (ih _ _ h2)
     ·exact Ia hw (pP (x7.plain hg h1) (ih _ _ h2))
   | some jb=>
     obtain⟨j,b⟩:=jb
     rw[hg] at h
     simp only[MD] at h
     split at h
     ·exact h.elim
     ·rename_i t ht
      have hj:vu ops j=some t:=by
       rw[K6] at ht
       unfold vu
       rw[←ht]
       simp
      have hyes:∀c,nth g.sl t= .d (.val (.bool c))→c=b→O7 E m t o g (run E ops.toList K os) .on→WM E.P ops m (o::os) g (K .on):=by
       intro c hc hcb hd
       subst hcb
       rcases gP hd with⟨R,δ,h1,h2⟩|⟨_,h0,_⟩
       rotate_left
       ·cases h0
       exact wE (x7.run hg hj hc h1) (ih _ _ h2)
      have hno:∀c,nth g.sl t= .d (.val (.bool c))→c≠b→Lb m t g (run E ops.toList K os) o.dst .on→WM E.P ops m (o::os) g (K .on):=by
       intro c hc hcb hd
       cases hdst:o.dst with
       | none=>rw[hdst] at hd;exact hd.elim
       | some d=>
         rw[hdst] at hd
         exact wE (x7.skip hg hj hc hcb hdst) (ih _ _ hd)
      cases hv:nth g.sl t<;>rw[hv] at h<;>first
       | (simp only[jX] at h;done)
       | skip
      ·simp only[jX] at h
       cases hdst:o.dst with
       | none=>rw[hdst] at h;exact h.elim
       | some d=>
         rw[hdst] at h
         exact wE (x7.Qs hg hj hv hdst) (ih _ _ h)
      ·rename_i x
       cases x with
       | str s=>simp only[jX] at h
       | bu s=>simp only[jX] at h
       | val v=>
         cases v<;>first
          | (simp only[jX] at h;done)
          | skip
         rename_i c
         cases b with
         | true=>
           simp only[jX] at h
           rcases ph h with⟨h1,h2⟩|⟨h1,h2⟩
           ·exact hyes c hv h1 h2
           ·exact hno c hv (by rw[h1];simp) h2
         | false=>
           simp only[jX] at h
           rcases ph h with⟨h1,h2⟩|⟨h1,h2⟩
           ·exact hno c hv (by rw[h1];simp) h2
           ·exact hyes c hv h1 h2
def H4(K:jq→G→Prop)(Q:jq→Ex→G→Prop):jq→Ex→G→Prop
 | .on,.normal,g=>K .on g
 | .on,.exit id,g=>Q .on (.exit id) g
 | .on,.ret,g=>Q .on .ret g
 | .off,_,_=>False
def yk(id:Nat)(Q:jq→Ex→G→Prop):jq→Ex→G→Prop
 | .on,.normal,g=>Q .on .normal g
 | .on,.exit i,g=>match Nat.beq i id with|true=>Q .on .normal g|false=>Q .on (.exit i) g
 | .on,.ret,g=>Q .on .ret g
 | .off,_,_=>False
def JE(Q:jq→Ex→G→Prop):jq→G→Prop
 | .on,g=>Q .on .normal g
 | .off,_=>False
def K3:PV→(jq→Prop)→(jq→Prop)→Prop
 | .d (.val (.bool b)),x,y=>PE b x y
 | _,_,_=>False
def Pb(E:Env)(ops:List Oper)(Q:jq→Ex→G→Prop)(g:G):Bool→Prop
 | false=>run E ops (JE Q) ops .on none g
 | true=>run E ops (JE Q) ops .on (some []) g
def CR(E:Env)(n0:Nat):Code→jq→G→(jq→Ex→G→Prop)→Prop
 | .skip,.on,g,Q=>Q .on .normal g
 | .exit id,.on,g,Q=>Q .on (.exit id) g
 | .ret,.on,g,Q=>Q .on .ret g
 | .seq a b,.on,g,Q=>CR E n0 a .on g (H4 (fun tok g'=>CR E n0 b tok g' Q) Q)
 | .cond c x y,.on,g,Q=>K3 (g.ev c) (fun tok=>CR E n0 x tok g Q) (fun tok=>CR E n0 y tok g Q)
 | .block id c,.on,g,Q=>CR E n0 c .on g (yk id Q)
 | .region _ ops dr,.on,g,Q=>Pb E ops.toList Q g dr
 | .loop c,.on,g,Q=>W E.P n0 (.loop c) g (Q .on)
 | _,_,_,_=>False
theorem FZ{E:Env}(hm:E.P.follows .mixedOrders=true){n0:Nat}:∀(c:Code)(g:G)(Q:jq→Ex→G→Prop),CR E n0 c .on g Q→W E.P n0 c g (Q .on):=by
 intro c
 induction c with
 | skip=>intro g Q h;exact Pw h
 | exit id=>intro g Q h;exact Pz h
 | ret=>intro g Q h;exact QS h
 | seq a b iha ihb=>
   intro g Q h
   have:=iha g _ h
   refine gG (fun X ν ac w hp hs=>wp_mono (this X ν ac w hp hs) fun e a' w' hl=>?_)
   cases e with
   | normal=>obtain⟨g',ν',h1,h2⟩:=hl;exact⟨g',ν',ihb g' Q h1,h2⟩
   | exit id=>exact hl
   | ret=>exact hl
   | goto l=>exact hl
   | panic c=>exact hl
   | outgrown=>exact hl
 | cond c x y ihx ihy=>
   intro g Q h
   simp only[CR] at h
   unfold K3 at h
   split at h
   ·rename_i b hb
    refine OP hb (fun hc=>?_) (fun hc=>?_)
    ·rcases ph h with⟨h1,h2⟩|⟨h1,h2⟩
     ·exact ihx g Q h2
     ·rw[hc] at h1;cases h1
    ·rcases ph h with⟨h1,h2⟩|⟨h1,h2⟩
     ·rw[hc] at h1;cases h1
     ·exact ihy g Q h2
   ·exact h.elim
 | block id c ih=>
   intro g Q h
   have:=ih g _ h
   refine NU (fun X ν ac w hp hs=>wp_mono (this X ν ac w hp hs) fun e a' w' hl=>?_)
   cases e with
   | normal=>exact hl
   | exit i=>
     obtain⟨g',ν',h1,h2⟩:=hl
     refine⟨g',ν',?_,h2⟩
     simp only[yk] at h1
     simp only[Gi]
     split at h1
     ·rename_i he
      rw[if_pos (Nat.eq_of_beq_eq_true he)]
      exact h1
     ·rename_i he
      rw[if_neg (fun e=>by subst e;simp at he)]
      exact h1
   | ret=>exact hl
   | goto l=>exact hl
   | panic c=>exact hl
   | outgrown=>exact hl
 | region id ops dr=>
   intro g Q h
   simp only[CR] at h
   cases dr with
   | false=>exact mw (F3 ops.toList none g h)
   | true=>exact NP hm (F3 ops.toList (some []) g h)
 | loop c _=>intro g Q h;exact h
 | _=>intro g Q h;simp[CR] at h
end Go.Eng
