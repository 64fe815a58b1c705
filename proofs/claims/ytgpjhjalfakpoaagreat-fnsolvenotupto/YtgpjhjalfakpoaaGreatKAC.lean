/-
  The symbolic layer, sixteenth text: a state seen with less, its owned places under other numbers, a grown slice seen as data.
-/
import Derived.Test.YtgpjhjalfakpoaaGreatKAB
import Derived.Laws.BytesArg
import Derived.Laws.Slices
set_option linter.unusedVariables false
set_option linter.unusedSimpArgs false
open Array renaming length_toList→cL
open Bool renaming and_eq_true→ae,false_or→iA
open Int renaming toNat_natCast→aF
open List renaming getElem?_eq_getElem→ab,drop_of_length_le→ag,length_append→an,take_of_length_le→ao,length_cons→aq,mem_cons→aw,mem_append→aE,map_cons→aQ,getElem?_append_right→aV,getElem?_append_left→aX,eq_nil_of_length_eq_zero→ba,append_assoc→bf,length_map→bj,nil_append→bx,append_nil→bz,getD→bI,cons_append→bM,mem_map→bO,flatten_cons→bQ,take_succ_cons→cm,take_append_of_le_length→cC,getElem?_take→cG,map_nil→cP,getElem?_drop→cW,length_set→dm,mem_of_getElem?→dx,getElem?_map→dH,map_toArray→dT,length_drop→dU,size_toArray→fx,getElem?_set→fB,take_append_drop→gQ,nodup_append→gX,map_congr_left→ik,set_cons_zero→iQ,set_cons_succ→iR,mem_flatMap→jZ,drop_drop→lV
open Nat renaming le_refl→au,mul_le_mul_right→aW,eq_of_beq_eq_true→aZ,add_mul→bp,zero_add→bR,lt_or_ge→cF,zero_le→cK,le_trans→dX,beq→eA,le_mul_of_pos_right→jg,zero_mul→lh
open Option renaming isSome_iff_exists→b6,map_none→dL
namespace Go.Eng
open Go.RowKit
theorem mO{w:World}{ok ok':Nat→Prop}{e:TypeId}{sz:Nat}{v:Value}{xs:List (List D)}{us:List (List Value)}(ho:w.ownsRow 0 e sz v xs.length us.flatten)(hr:bg w ok sz xs us)(hB:xs.length≤LB)
 (kG:∀b,oc v=some b→ok' b) (hf:∀b,ok b→b<w.heap.size→ok' b∧w.heap[b]?=w.heap[b]?):dA w ok' (.bX xs) v:=by
 rcases ho.2 with⟨h1,h2⟩|⟨b,cap,cur,h1,_,h2,h3,h4,h5,h6⟩
 ·obtain rfl:=ba h2
  rw[h1];exact .nil
 ·subst h1
  have hr':=hr.frame hf (au _)
  refine .bX xs us b 0 cap sz (kG b rfl) (nx h2) h3 h4 hB hr'.len hr'.hx hr'.hu (fun j u hu=>?_) hr'.hr
  have hj:j<us.flatten.length:=by
   rcases cF j us.flatten.length with h' | h'
   ·exact h'
   ·rw[List.getElem?_eq_none h'] at hu;cases hu
  rw[←h6] at hu
  have hu2:cur.toList[j]?=some u:=by
   rw[cG] at hu
   split at hu
   ·exact hu
   ·cases hu
  have hcur:cur[j]?=some u:=by simpa using hu2
  simp[World.cell?,h2,hcur]
mutual
def T.zh:T→Option D
 | .leaf d=>some d
 | .ref _=>none
 | .own _ xs=>match bW xs with|some ys=>some (.bX ys)|none=>none
def dQ:List T→Option (List D)
 | []=>some []
 | t::ts=>match t.zh,dQ ts with|some d,some ds=>some (d::ds)|_,_=>none
def bW:List (List T)→Option (List (List D))
 | []=>some []
 | x::xs=>match dQ x,bW xs with|some y,some ys=>some (y::ys)|_,_=>none
end
def DV:Option En→D→Prop
 | some (.acc _ xs),y=>y= .bX xs
 | some (.cU _ xs),y=>∃ys,bW xs=some ys∧y= .bX ys
 | _,_=>False
section
variable{P:Program}{w:World}{ok ok':Nat→Prop}{ν ν':Nat→Nm}{st st':Nat→Option En}
mutual
theorem fE.data(hf:∀b,ok b→b<w.heap.size→ok' b∧w.heap[b]?=w.heap[b]?):∀(t:T)(v:Value)(F:List Nat)(d:D),t.zh=some d→fE P w ok ν st t v F→(∀b∈F,ok' b)→dA w ok' d v
 | .leaf x,v,F,d,hd,h,_=>by
   simp only[T.zh,Option.some.injEq] at hd
   simp only[fE] at h
   rw[←hd]
   exact h.1.frame hf (au _)
 | .ref j,v,F,d,hd,_,_=>by simp[T.zh] at hd
 | .own e xs,v,F,d,hd,h,hF=>by
   simp only[T.zh] at hd
   split at hd
   ·rename_i ys hys
    obtain rfl:=Option.some.inj hd
    simp only[fE] at h
    obtain⟨us,F1,h1,h2,h3,h4,rfl⟩:=h
    obtain⟨k1,k2,k3⟩:=aR.data hf xs us F1 ys hys h3 (fun b hb=>hF b (aE.2 (.inr hb)))
    refine mO (ok:=ok') (by rw[←k2];exact h1) ⟨k1,fun i x hx=>?_,h2,fun i j x u dd vv a1 a2 a3 a4=>(k3 i x u a1 a2).2 j dd vv a3 a4⟩ (by rw[←k2];exact h4) (fun b hb=>hF b (aE.2 (.inl (tr.2 hb)))) (fun b hb _=>⟨hb,rfl⟩)
    have hi:i<us.length:=by
     rw[k1]
     exact(List.getElem?_eq_some_iff.1 hx).1
    rw[(k3 i x us[i] hx (ab hi)).1]
    exact h2 i _ (ab hi)
   ·cases hd
theorem aA.data(hf:∀b,ok b→b<w.heap.size→ok' b∧w.heap[b]?=w.heap[b]?):∀(ts:List T)(vs:List Value)(F:List Nat)(ds:List D),dQ ts=some ds→aA P w ok ν st ts vs F→(∀b∈F,ok' b)→ds.length=vs.length∧∀(j:Nat)(d:D)(v:Value),ds[j]?=some d→vs[j]?=some v→dA w ok' d v
 | [],[],F,ds,hd,_,_=>by
   simp only[dQ,Option.some.injEq] at hd
   rw[←hd]
   simp
 | [],_::_,F,ds,_,h,_=>by simp[aA] at h
 | _::_,[],F,ds,_,h,_=>by simp[aA] at h
 | t::ts,v::vs,F,ds,hd,h,hF=>by
   simp only[dQ] at hd
   split at hd
   ·rename_i d' ds' e1 e2
    obtain rfl:=Option.some.inj hd
    simp only[aA] at h
    obtain⟨F1,F2,h1,h2,rfl⟩:=h
    have k1:=fE.data hf t v F1 d' e1 h1 fun b hb=>hF b (aE.2 (.inl hb))
    obtain⟨k2,k3⟩:=aA.data hf ts vs F2 ds' e2 h2 fun b hb=>hF b (aE.2 (.inr hb))
    refine⟨by simp[k2],fun j d u a1 a2=>?_⟩
    cases j with
    | zero=>
      obtain rfl:d'=d:=by simpa using a1
      obtain rfl:v=u:=by simpa using a2
      exact k1
    | succ j=>exact k3 j d u (by simpa using a1) (by simpa using a2)
   ·cases hd
theorem aR.data(hf:∀b,ok b→b<w.heap.size→ok' b∧w.heap[b]?=w.heap[b]?):∀(xs:List (List T))(us:List (List Value))(F:List Nat)(ys:List (List D)),bW xs=some ys→aR P w ok ν st xs us F→(∀b∈F,ok' b)→us.length=ys.length∧xs.length=ys.length∧∀(i:Nat)(x:List D)(u:List Value),ys[i]?=some x→us[i]?=some u→x.length=u.length∧∀(j:Nat)(d:D)(v:Value),x[j]?=some d→u[j]?=some v→dA w ok' d v
 | [],[],F,ys,hd,_,_=>by
   simp only[bW,Option.some.injEq] at hd
   rw[←hd]
   simp
 | [],_::_,F,ds,_,h,_=>by simp[aR] at h
 | _::_,[],F,ds,_,h,_=>by simp[aR] at h
 | x::xs,u::us,F,ys,hd,h,hF=>by
   simp only[bW] at hd
   split at hd
   ·rename_i y' ys' e1 e2
    obtain rfl:=Option.some.inj hd
    simp only[aR] at h
    obtain⟨F1,F2,h1,h2,rfl⟩:=h
    have k1:=aA.data hf x u F1 y' e1 h1 fun b hb=>hF b (aE.2 (.inl hb))
    obtain⟨k2,k3,k4⟩:=aR.data hf xs us F2 ys' e2 h2 fun b hb=>hF b (aE.2 (.inr hb))
    refine⟨by simp[k2],by simp[k3],fun i z q a1 a2=>?_⟩
    cases i with
    | zero=>
      obtain rfl:y'=z:=by simpa using a1
      obtain rfl:u=q:=by simpa using a2
      exact k1
    | succ i=>exact k4 i z q (by simpa using a1) (by simpa using a2)
   ·cases hd
end
mutual
theorem fE.still:∀(t:T)(v:Value)(F:List Nat),t.zh.isSome=true→fE P w ok ν st t v F→fE P w ok ν' st' t v F
 | .leaf x,v,F,_,h=>by simpa only[fE] using h
 | .ref j,v,F,hd,_=>by simp[T.zh] at hd
 | .own e xs,v,F,hd,h=>by
   simp only[T.zh] at hd
   simp only[fE] at h⊢
   obtain⟨us,F1,h1,h2,h3,h4⟩:=h
   refine⟨us,F1,h1,h2,aR.still xs us F1 ?_ h3,h4⟩
   split at hd
   ·rename_i e;rw[e];rfl
   ·cases hd
theorem aA.still:∀(ts:List T)(vs:List Value)(F:List Nat),(dQ ts).isSome=true→aA P w ok ν st ts vs F→aA P w ok ν' st' ts vs F
 | [],[],F,_,h=>by simpa only[aA] using h
 | [],_::_,F,_,h=>by simp[aA] at h
 | _::_,[],F,_,h=>by simp[aA] at h
 | t::ts,v::vs,F,hd,h=>by
   simp only[dQ] at hd
   simp only[aA] at h⊢
   obtain⟨F1,F2,h1,h2,h3⟩:=h
   split at hd
   ·rename_i e1 e2
    exact⟨F1,F2,fE.still t v F1 (by rw[e1];rfl) h1,aA.still ts vs F2 (by rw[e2];rfl) h2,h3⟩
   ·cases hd
theorem aR.still:∀(xs:List (List T))(us:List (List Value))(F:List Nat),(bW xs).isSome=true→aR P w ok ν st xs us F→aR P w ok ν' st' xs us F
 | [],[],F,_,h=>by simpa only[aR] using h
 | [],_::_,F,_,h=>by simp[aR] at h
 | _::_,[],F,_,h=>by simp[aR] at h
 | x::xs,u::us,F,hd,h=>by
   simp only[bW] at hd
   simp only[aR] at h⊢
   obtain⟨F1,F2,h1,h2,h3⟩:=h
   split at hd
   ·rename_i e1 e2
    exact⟨F1,F2,aA.still x u F1 (by rw[e1];rfl) h1,aR.still xs us F2 (by rw[e2];rfl) h2,h3⟩
   ·cases hd
end
def lift(xs:List (List D)):List (List T):=xs.map fun x=>x.map T.leaf
theorem pW:∀(x:List D),dQ (x.map T.leaf)=some x
 | []=>rfl
 | d::x=>by simp[dQ,T.zh,pW x]
theorem la:∀(xs:List (List D)),bW (lift xs)=some xs
 | []=>rfl
 | x::xs=>by
   have:=la xs
   simp only[lift] at this
   simp[lift,bW,pW,this]
theorem aA.r9:∀{ds:List D}{vs:List Value},vs.length=ds.length→(∀(j:Nat)(d:D)(v:Value),ds[j]?=some d→vs[j]?=some v→dA w ok d v)→aA P w ok ν st (ds.map T.leaf) vs []
 | [],[],_,_=>by simp[aA]
 | d::ds,v::vs,hl,h=>by
   simp only[aQ,aA,fE]
   exact⟨[],[],⟨h 0 d v rfl rfl,rfl⟩,aA.r9 (by simpa using hl) fun j d v a1 a2=>h (j+1) d v (by simpa using a1) (by simpa using a2),rfl⟩
 | [],_::_,hl,_=>by simp at hl
 | _::_,[],hl,_=>by simp at hl
theorem aR.r9{sz:Nat}:∀{xs:List (List D)}{us:List (List Value)},bg w ok sz xs us→aR P w ok ν st (lift xs) us []
 | [],[],_=>by simp[lift,aR]
 | x::xs,u::us,h=>by
   simp only[lift,aQ,aR]
   refine⟨[],[],aA.r9 ?_ fun j d v a1 a2=>h.hr 0 j x u d v rfl rfl a1 a2,aR.r9 (sz:=sz) (xs:=xs) ⟨by simpa using h.len,fun i x hx=>h.hx (i+1) x (by simpa using hx),fun i u hu=>h.hu (i+1) u (by simpa using hu),fun i j x u d v a1 a2 a3 a4=>h.hr (i+1) j x u d v (by simpa using a1) (by simpa using a2) a3 a4⟩,rfl⟩
   rw[h.hu 0 u rfl,h.hx 0 x rfl]
 | [],_::_,h=>by have:=h.len;simp at this
 | _::_,[],h=>by have:=h.len;simp at this
theorem lO(xs:List (List D)):(lift xs).length=xs.length:=by simp[lift]
end
def dF:List (Option Nat)→Nat→Option (Option Nat)
 | [],_=>none
 | a::_,0=>some a
 | _::as,n+1=>dF as n
def uS(k:Nat):List (Option Nat)→Bool
 | []=>false
 | some j::r=>k == j||uS k r
 | none::r=>uS k r
def NJ:List (Option Nat)→Bool
 | []=>true
 | some j::r=>!uS j r&&NJ r
 | none::r=>NJ r
mutual
def wk(g:G)(m:List (Option Nat)):PV→PV→Prop
 | p,.any=>True
 | .aY,.aY=>True
 | .undef,.undef=>True
 | .aY,.d y=>y= .bX []
 | .aY,.acc k'=>dF m k'=some none
 | .d x,.d y=>x=y
 | .acc k,.d y=>DV (g.at k) y∧uS k m=false
 | .acc k,.acc k'=>dF m k'=some (some k)
 | .ptr k off,.ptr k' off'=>dF m k'=some (some k)∧off=off'
 | .dk k i off sz,.dk k' i' off' sz'=>dF m k'=some (some k)∧i=i'∧off=off'∧sz=sz'
 | .da xs i off,.da ys j off'=>xs=ys∧i=j∧off=off'
 | .agg cs,.agg ds=>qS g m cs ds
 | .gL cs,.gL ds=>qS g m cs ds
 | .fn f cs,.fn f' ds=>f=f'∧qS g m cs ds
 | _,_=>False
def qS(g:G)(m:List (Option Nat)):List PV→List PV→Prop
 | [],[]=>True
 | p::ps,q::qs=>wk g m p q∧qS g m ps qs
 | _,_=>False
end
def sq(g:G)(m:List (Option Nat)):En→En→Prop
 | _,.dead=>True
 | .box cs,.box ds=>qS g m cs ds
 | .acc e xs,.acc e' ys=>e=e'∧xs=ys
 | .acc e xs,.cU e' ys=>e=e'∧lift xs=ys
 | .cU e xs,.cU e' ys=>e=e'∧xs=ys∧(bW xs).isSome=true
 | .map x6,.map kvs'=>x6=kvs'
 | _,_=>False
def gJ(g:G)(m:List (Option Nat)):List (Option Nat)→List (Option En)→Prop
 | [],[]=>True
 | some k::ks,some e'::es=>(∃e,g.at k=some e∧sq g m e e')∧gJ g m ks es
 | none::ks,some (.acc _ xs)::es=>xs=[]∧gJ g m ks es
 | none::ks,some (.cU _ xs)::es=>xs=[]∧gJ g m ks es
 | _,_=>False
def keeps:Nat→Nat→List (Option Nat)→Bool
 | 0,_,_=>true
 | n+1,i,some j::r=>i == j&&keeps n (i+1) r
 | _,_,_=>false
def DY(k:Nat):List (Option Nat)→List (Option En)→Bool
 | some j::r,some e::es=>(e.live&&k == j)||DY k r es
 | _::r,_::es=>DY k r es
 | _,_=>false
def tD:List (Option Nat)→List (Option En)→Bool
 | some j::r,some e::es=>(!e.live|| !DY j r es)&&tD r es
 | _::r,_::es=>tD r es
 | _,_=>true
structure Wk(n0:Nat)(m:List (Option Nat))(g g':G):Prop where
 s:qS g m g.sl g'.sl
 p:gJ g m m g'.st
 OC:tD m g'.st=true
 keep:keeps n0 0 m=true
theorem ze:∀{m:List (Option Nat)}{i k:Nat},dF m i=some (some k)→uS k m=true
 | [],_,_,h=>by simp[dF] at h
 | a::as,0,k,h=>by
   simp only[dF,Option.some.injEq] at h
   subst h
   simp[uS]
 | a::as,n+1,k,h=>by
   simp only[dF] at h
   have:=ze h
   cases a<;>simp[uS,this]
theorem zV:∀{m:List (Option Nat)}{es:List (Option En)}{i k:Nat}{e:En},dF m i=some (some k)→bP es i=some e→e.live=true→DY k m es=true
 | [],_,_,_,_,h,_,_=>by simp[dF] at h
 | _::_,[],i,_,_,_,h,_=>by cases i<;>simp[bP] at h
 | a::as,o::os,0,k,e,h,h2,h3=>by
   simp only[dF,Option.some.injEq] at h
   simp only[bP] at h2
   subst h h2
   simp[DY,h3]
 | a::as,o::os,i+1,k,e,h,h2,h3=>by
   simp only[dF] at h
   simp only[bP] at h2
   have:=zV h h2 h3
   cases a<;>cases o<;>simp[DY,this]
theorem zB:∀{m:List (Option Nat)}{es:List (Option En)},tD m es=true→∀{i j k:Nat}{e e':En},dF m i=some (some k)→dF m j=some (some k)→bP es i=some e→bP es j=some e'→e.live=true→e'.live=true→i=j
 | [],_,_,_,_,_,_,_,h,_,_,_,_,_=>by simp[dF] at h
 | _::_,[],_,i,_,_,_,_,_,_,h,_,_,_=>by cases i<;>simp[bP] at h
 | a::as,o::os,hn,0,0,_,_,_,_,_,_,_,_,_=>rfl
 | a::as,o::os,hn,0,j+1,k,e,e',h1,h2,g1,g2,l1,l2=>by
   simp only[dF,Option.some.injEq] at h1 h2
   simp only[bP] at g1 g2
   subst h1 g1
   have:=zV h2 g2 l2
   simp[tD,this,l1] at hn
 | a::as,o::os,hn,i+1,0,k,e,e',h1,h2,g1,g2,l1,l2=>by
   simp only[dF,Option.some.injEq] at h1 h2
   simp only[bP] at g1 g2
   subst h2 g2
   have:=zV h1 g1 l1
   simp[tD,this,l2] at hn
 | a::as,o::os,hn,i+1,j+1,k,e,e',h1,h2,g1,g2,l1,l2=>by
   simp only[dF] at h1 h2
   simp only[bP] at g1 g2
   have hn':tD as os=true:=by
    cases a<;>cases o<;>simp only[tD,ae] at hn<;>first|exact hn|exact hn.2
   rw[zB hn' h1 h2 g1 g2 l1 l2]
theorem wM:∀{n i:Nat}{m:List (Option Nat)},keeps n i m=true→∀j,j<n→dF m j=some (some (i+j))
 | 0,_,_,_,j,h=>by omega
 | n+1,i,[],h,_,_=>by simp[keeps] at h
 | n+1,i,none::r,h,_,_=>by simp[keeps] at h
 | n+1,i,some a::r,h,j,hj=>by
   simp only[keeps,ae,beq_iff_eq] at h
   obtain⟨rfl,h2⟩:=h
   cases j with
   | zero=>rfl
   | succ j=>
     simp only[dF]
     rw[wM h2 j (by omega)]
     congr 2;omega
theorem vt{g:G}{m:List (Option Nat)}:∀{ks:List (Option Nat)}{es:List (Option En)},gJ g m ks es→∀(i:Nat)(e':En),bP es i=some e' →
 (∃k e,dF ks i=some (some k)∧g.at k=some e∧sq g m e e')∨(dF ks i=some none∧∃t,e'= .acc t []∨e'= .cU t [])
 | [],[],_,i,e',h=>by cases i<;>simp[bP] at h
 | some k::ks,some e::es,hw,0,e',h=>by
   simp only[gJ] at hw
   obtain⟨⟨e0,h1,h2⟩,_⟩:=hw
   obtain rfl:e=e':=by simpa[bP] using h
   exact .inl ⟨k,e0,rfl,h1,h2⟩
 | some k::ks,some e::es,hw,i+1,e',h=>by
   simp only[gJ] at hw
   simp only[dF]
   exact vt hw.2 i e' (by simpa[bP] using h)
 | none::ks,some (.acc t xs)::es,hw,0,e',h=>by
   simp only[gJ] at hw
   obtain rfl:En.acc t xs=e':=by simpa[bP] using h
   exact .inr ⟨rfl,t,.inl (by rw[hw.1])⟩
 | none::ks,some (.acc t xs)::es,hw,i+1,e',h=>by
   simp only[gJ] at hw
   simp only[dF]
   exact vt hw.2 i e' (by simpa[bP] using h)
 | none::ks,some (.cU t xs)::es,hw,0,e',h=>by
   simp only[gJ] at hw
   obtain rfl:En.cU t xs=e':=by simpa[bP] using h
   exact .inr ⟨rfl,t,.inr (by rw[hw.1])⟩
 | none::ks,some (.cU t xs)::es,hw,i+1,e',h=>by
   simp only[gJ] at hw
   simp only[dF]
   exact vt hw.2 i e' (by simpa[bP] using h)
 | none::ks,some (.box _)::es,hw,_,_,_=>by simp[gJ] at hw
 | none::ks,some .dead::es,hw,_,_,_=>by simp[gJ] at hw
 | none::ks,some (.map _)::es,hw,_,_,_=>by simp[gJ] at hw
 | some k::ks,none::es,hw,_,_,_=>by simp[gJ] at hw
 | none::ks,none::es,hw,_,_,_=>by simp[gJ] at hw
 | some k::ks,[],hw,_,_,_=>by simp[gJ] at hw
 | none::ks,[],hw,_,_,_=>by simp[gJ] at hw
 | [],_::_,hw,_,_,_=>by simp[gJ] at hw
theorem pt{g:G}{m:List (Option Nat)}:∀{ks:List (Option Nat)}{es:List (Option En)},gJ g m ks es→∀(i:Nat)(x:Option Nat),dF ks i=some x→(bP es i).isSome=true
 | [],[],_,i,x,h=>by simp[dF] at h
 | some k::ks,some e::es,hw,0,x,h=>rfl
 | some k::ks,some e::es,hw,i+1,x,h=>by
   simp only[gJ] at hw
   simp only[bP]
   exact pt hw.2 i x (by simpa[dF] using h)
 | none::ks,some (.acc t xs)::es,hw,0,x,h=>rfl
 | none::ks,some (.acc t xs)::es,hw,i+1,x,h=>by
   simp only[gJ] at hw
   simp only[bP]
   exact pt hw.2 i x (by simpa[dF] using h)
 | none::ks,some (.cU t xs)::es,hw,0,x,h=>rfl
 | none::ks,some (.cU t xs)::es,hw,i+1,x,h=>by
   simp only[gJ] at hw
   simp only[bP]
   exact pt hw.2 i x (by simpa[dF] using h)
 | none::ks,some (.box _)::es,hw,_,_,_=>by simp[gJ] at hw
 | none::ks,some .dead::es,hw,_,_,_=>by simp[gJ] at hw
 | none::ks,some (.map _)::es,hw,_,_,_=>by simp[gJ] at hw
 | some k::ks,none::es,hw,_,_,_=>by simp[gJ] at hw
 | none::ks,none::es,hw,_,_,_=>by simp[gJ] at hw
 | some k::ks,[],hw,_,_,_=>by simp[gJ] at hw
 | none::ks,[],hw,_,_,_=>by simp[gJ] at hw
 | [],_::_,hw,_,_,_=>by simp[gJ] at hw
def EO(ν:Nat→Nm)(m:List (Option Nat))(i:Nat):Nm:=
 match dF m i with
 | some (some k)=>ν k
 | _=>⟨.slice none 0 0,[]⟩
theorem fW{ν:Nat→Nm}{m:List (Option Nat)}{i k:Nat}(h:dF m i=some (some k)):EO ν m i=ν k:=by simp[EO,h]
theorem iw{ν:Nat→Nm}{m:List (Option Nat)}{i:Nat}(h:dF m i=some none):EO ν m i=⟨.slice none 0 0,[]⟩:=by simp[EO,h]
section
variable{w:World}{ok ok':Nat→Prop}{ν:Nat→Nm}{g:G}{m:List (Option Nat)}{st':Nat→Option En}
mutual
theorem aj.wk(hf:∀b,ok b→b<w.heap.size→ok' b∧w.heap[b]?=w.heap[b]?)(dg:∀i x,dF m i=some x→(st' i).isSome=true)
 (hacc:∀k y,DV (g.at k) y→uS k m=false→dA w ok' y (ν k).v) :
 ∀(p q:PV)(v:Value),wk g m p q→aj w ok ν g.at p v→aj w ok' (EO ν m) st' q v
 | p,.any,_,_,_=>by simp[aj]
 | .aY,.aY,v,_,h=>by simpa[aj] using h
 | .undef,.undef,v,_,h=>by simpa[aj] using h
 | .aY,.d y,v,hw,h=>by
   simp only[Eng.wk] at hw
   simp only[aj] at h⊢
   rw[hw,h];exact .nil
 | .aY,.acc k',v,hw,h=>by
   simp only[Eng.wk] at hw
   simp only[aj] at h⊢
   rw[iw hw]
   exact⟨dg _ _ hw,h⟩
 | .d x,.d y,v,hw,h=>by
   simp only[Eng.wk] at hw
   simp only[aj] at h⊢
   rw[←hw]
   exact h.frame hf (au _)
 | .acc k,.d y,v,hw,h=>by
   simp only[Eng.wk] at hw
   simp only[aj] at h⊢
   rw[h.2]
   exact hacc k y hw.1 hw.2
 | .acc k,.acc k',v,hw,h=>by
   simp only[Eng.wk] at hw
   simp only[aj] at h⊢
   rw[fW hw]
   exact⟨dg _ _ hw,h.2⟩
 | .ptr k off,.ptr k' off',v,hw,h=>by
   simp only[Eng.wk] at hw
   obtain⟨hw,rfl⟩:=hw
   simp only[aj] at h⊢
   rw[fW hw]
   exact⟨dg _ _ hw,h.2⟩
 | .dk k i off sz,.dk k' i' off' sz',v,hw,h=>by
   simp only[Eng.wk] at hw
   obtain⟨hw,rfl,rfl,rfl⟩:=hw
   simp only[aj] at h⊢
   rw[fW hw]
   exact⟨dg _ _ hw,h.2⟩
 | .da xs i off,.da ys j off',v,hw,h=>by
   simp only[Eng.wk] at hw
   obtain⟨rfl,rfl,rfl⟩:=hw
   simp only[aj] at h⊢
   obtain⟨b,o,cap,h1,h2,h3⟩:=h
   exact⟨b,o,cap,h1.frame hf (au _),h2,h3⟩
 | .agg cs,.agg ds,v,hw,h=>by
   simp only[Eng.wk] at hw
   simp only[aj] at h⊢
   obtain⟨vs,rfl,h⟩:=h
   exact⟨vs,rfl,ah.wk hf dg hacc cs ds vs hw h⟩
 | .gL cs,.gL ds,v,hw,h=>by
   simp only[Eng.wk] at hw
   simp only[aj] at h⊢
   obtain⟨vs,rfl,h⟩:=h
   exact⟨vs,rfl,ah.wk hf dg hacc cs ds vs hw h⟩
 | .fn f cs,.fn f' ds,v,hw,h=>by
   simp only[Eng.wk] at hw
   obtain⟨rfl,hw⟩:=hw
   simp only[aj] at h⊢
   obtain⟨vs,rfl,h⟩:=h
   exact⟨vs,rfl,ah.wk hf dg hacc cs ds vs hw h⟩
 | .any,.undef,_,hw,_ | .any,.aY,_,hw,_ | .any,.d _,_,hw,_ | .any,.agg _,_,hw,_ | .any,.gL _,_,hw,_ | .any,.ptr _ _,_,hw,_ | .any,.acc _,_,hw,_ | .any,.dk _ _ _ _,_,hw,_ | .any,.da _ _ _,_,hw,_ | .any,.fn _ _,_,hw,_=>by simp[Eng.wk] at hw
 | .undef,.aY,_,hw,_ | .undef,.d _,_,hw,_ | .undef,.agg _,_,hw,_ | .undef,.gL _,_,hw,_ | .undef,.ptr _ _,_,hw,_ | .undef,.acc _,_,hw,_ | .undef,.dk _ _ _ _,_,hw,_ | .undef,.da _ _ _,_,hw,_ | .undef,.fn _ _,_,hw,_=>by simp[Eng.wk] at hw
 | .aY,.undef,_,hw,_ | .aY,.agg _,_,hw,_ | .aY,.gL _,_,hw,_ | .aY,.ptr _ _,_,hw,_ | .aY,.dk _ _ _ _,_,hw,_ | .aY,.da _ _ _,_,hw,_ | .aY,.fn _ _,_,hw,_=>by simp[Eng.wk] at hw
 | .d _,.undef,_,hw,_ | .d _,.aY,_,hw,_ | .d _,.agg _,_,hw,_ | .d _,.gL _,_,hw,_ | .d _,.ptr _ _,_,hw,_ | .d _,.acc _,_,hw,_ | .d _,.dk _ _ _ _,_,hw,_ | .d _,.da _ _ _,_,hw,_ | .d _,.fn _ _,_,hw,_=>by simp[Eng.wk] at hw
 | .agg _,.undef,_,hw,_ | .agg _,.aY,_,hw,_ | .agg _,.d _,_,hw,_ | .agg _,.gL _,_,hw,_ | .agg _,.ptr _ _,_,hw,_ | .agg _,.acc _,_,hw,_ | .agg _,.dk _ _ _ _,_,hw,_ | .agg _,.da _ _ _,_,hw,_ | .agg _,.fn _ _,_,hw,_=>by simp[Eng.wk] at hw
 | .gL _,.undef,_,hw,_ | .gL _,.aY,_,hw,_ | .gL _,.agg _,_,hw,_ | .gL _,.d _,_,hw,_ | .gL _,.ptr _ _,_,hw,_ | .gL _,.acc _,_,hw,_ | .gL _,.dk _ _ _ _,_,hw,_ | .gL _,.da _ _ _,_,hw,_ | .gL _,.fn _ _,_,hw,_=>by simp[Eng.wk] at hw
 | .ptr _ _,.undef,_,hw,_ | .ptr _ _,.aY,_,hw,_ | .ptr _ _,.agg _,_,hw,_ | .ptr _ _,.d _,_,hw,_ | .ptr _ _,.gL _,_,hw,_ | .ptr _ _,.acc _,_,hw,_ | .ptr _ _,.dk _ _ _ _,_,hw,_ | .ptr _ _,.da _ _ _,_,hw,_ | .ptr _ _,.fn _ _,_,hw,_=>by simp[Eng.wk] at hw
 | .acc _,.undef,_,hw,_ | .acc _,.aY,_,hw,_ | .acc _,.agg _,_,hw,_ | .acc _,.gL _,_,hw,_ | .acc _,.ptr _ _,_,hw,_ | .acc _,.dk _ _ _ _,_,hw,_ | .acc _,.da _ _ _,_,hw,_ | .acc _,.fn _ _,_,hw,_=>by simp[Eng.wk] at hw
 | .dk _ _ _ _,.undef,_,hw,_ | .dk _ _ _ _,.aY,_,hw,_ | .dk _ _ _ _,.agg _,_,hw,_ | .dk _ _ _ _,.d _,_,hw,_ | .dk _ _ _ _,.gL _,_,hw,_ | .dk _ _ _ _,.ptr _ _,_,hw,_ | .dk _ _ _ _,.acc _,_,hw,_ | .dk _ _ _ _,.da _ _ _,_,hw,_ | .dk _ _ _ _,.fn _ _,_,hw,_=>by simp[Eng.wk] at hw
 | .da _ _ _,.undef,_,hw,_ | .da _ _ _,.aY,_,hw,_ | .da _ _ _,.agg _,_,hw,_ | .da _ _ _,.d _,_,hw,_ | .da _ _ _,.gL _,_,hw,_ | .da _ _ _,.ptr _ _,_,hw,_ | .da _ _ _,.acc _,_,hw,_ | .da _ _ _,.dk _ _ _ _,_,hw,_ | .da _ _ _,.fn _ _,_,hw,_=>by simp[Eng.wk] at hw
 | .fn _ _,.undef,_,hw,_ | .fn _ _,.aY,_,hw,_ | .fn _ _,.agg _,_,hw,_ | .fn _ _,.d _,_,hw,_ | .fn _ _,.gL _,_,hw,_ | .fn _ _,.ptr _ _,_,hw,_ | .fn _ _,.acc _,_,hw,_ | .fn _ _,.dk _ _ _ _,_,hw,_ | .fn _ _,.da _ _ _,_,hw,_=>by simp[Eng.wk] at hw
theorem ah.wk(hf:∀b,ok b→b<w.heap.size→ok' b∧w.heap[b]?=w.heap[b]?)(dg:∀i x,dF m i=some x→(st' i).isSome=true)
 (hacc:∀k y,DV (g.at k) y→uS k m=false→dA w ok' y (ν k).v) :
 ∀(ps qs:List PV)(vs:List Value),qS g m ps qs→ah w ok ν g.at ps vs→ah w ok' (EO ν m) st' qs vs
 | [],[],vs,_,h=>by cases vs<;>simp[ah] at h⊢
 | p::ps,q::qs,[],_,h=>by simp[ah] at h
 | p::ps,q::qs,v::vs,hw,h=>by
   simp only[qS] at hw
   simp only[ah] at h⊢
   exact⟨aj.wk hf dg hacc p q v hw.1 h.1,ah.wk hf dg hacc ps qs vs hw.2 h.2⟩
 | [],_::_,_,hw,_=>by simp[qS] at hw
 | _::_,[],_,hw,_=>by simp[qS] at hw
end
end
theorem EL:∀{g:G}{m:List (Option Nat)}{ps qs:List PV},qS g m ps qs→ps.length=qs.length
 | _,_,[],[],_=>rfl
 | _,_,p::ps,q::qs,h=>by simp only[qS] at h;simp[EL h.2]
 | _,_,[],_::_,h=>by simp[qS] at h
 | _,_,_::_,[],h=>by simp[qS] at h
theorem ER{w:World}{ok:Nat→Prop}{ν ν':Nat→Nm}{g:G}{m:List (Option Nat)}{st':Nat→Option En}{ok':Nat→Prop}(hv:∀(p q:PV)(v:Value),wk g m p q→aj w ok ν g.at p v→aj w ok' ν' st' q v) :
 ∀{ps qs:List PV},qS g m ps qs→∀(t:Nat)(v:Value),aj w ok ν g.at (nth ps t) v→aj w ok' ν' st' (nth qs t) v
 | [],[],_,t,v,_=>by simp[nth,aj]
 | p::ps,q::qs,h,0,v,hr=>by simp only[qS] at h;simp only[nth] at hr⊢;exact hv p q v h.1 hr
 | p::ps,q::qs,h,t+1,v,hr=>by simp only[qS] at h;simp only[nth] at hr⊢;exact ER hv h.2 t v hr
 | [],_::_,h,_,_,_=>by simp[qS] at h
 | _::_,[],h,_,_,_=>by simp[qS] at h
theorem Ah{P:Program}{n0:Nat}{m:List (Option Nat)}{g g':G}(h:Wk n0 m g g'):ko P n0 g g':=by
 intro X ν a w hp hs
 refine⟨EO ν m,?_⟩
 have dg:∀i x,dF m i=some x→(g'.at i).isSome=true:=fun i x hx=>pt h.p i x hx
 have fJ:=fun i e' he=>vt h.p i e' he
 have iz:∀e e',sq g m e e'→e'.live=true→e.live=true:=by
  intro e e' hw hl
  cases e' with
  | dead=>cases hl
  | box ds=>cases e<;>first|rfl|(simp[sq] at hw)
  | acc t ys=>cases e<;>first|rfl|(simp[sq] at hw)
  | cU t ys=>cases e<;>first|rfl|(simp[sq] at hw)
  | map x6=>cases e<;>first|rfl|(simp[sq] at hw)
 have howned:∀b,Own (EO ν m) g'.at b→∃i k e,dF m i=some (some k)∧g.at k=some e∧e.live=true∧(ν k).has b:=by
  rintro b ⟨i,e',h1,h2,h3⟩
  rcases fJ i e' h1 with⟨k,e,k1,k2,k3⟩|⟨k1,t,rfl|rfl⟩
  ·rw[fW k1] at h3
   exact⟨i,k,e,k1,k2,iz e e' k3 h2,h3⟩
  all_goals
   rw[iw k1] at h3
   simp[Nm.has,oc] at h3
 have CO:∀b,Own (EO ν m) g'.at b→Own ν g.at b:=fun b hb=>by
  obtain⟨i,k,e,k1,k2,k3,k4⟩:=howned b hb
  exact⟨k,e,k2,k3,k4⟩
 have hf:∀b,bm X ν g.at b→b<w.heap.size→bm X (EO ν m) g'.at b∧w.heap[b]?=w.heap[b]?:=fun b hb _=>⟨⟨fun ho=>hb.1 (CO b ho),hb.2⟩,rfl⟩
 have hfr:∀k e,g.at k=some e→e.live=true→uS k m=false→∀b,(ν k).has b→bm X (EO ν m) g'.at b:=by
  intro k e hk hl hm b hb
  have dG:Own ν g.at b:=⟨k,_,hk,hl,hb⟩
  refine⟨fun ho=>?_,hs.Bi dG⟩
  obtain⟨i,k',e',k1,k2,k3,k4⟩:=howned b ho
  have:=hs.inj k k' _ _ b hk k2 hl k3 hb k4
  subst this
  rw[ze k1] at hm
  cases hm
 have hacc:∀k y,DV (g.at k) y→uS k m=false→dA w (bm X (EO ν m) g'.at) y (ν k).v:=by
  intro k y hk hm
  cases hgk:g.at k with
  | none=>rw[hgk] at hk;exact hk.elim
  | some e=>
    rw[hgk] at hk
    cases e with
    | box cs=>exact hk.elim
    | dead=>exact hk.elim
    | map x6=>exact hk.elim
    | acc e xs=>
      simp only[DV] at hk
      rw[hk]
      obtain⟨us,h1,h2,h3,h4⟩:=hs.en k _ hgk
      exact mO h1 h2 h3 (fun b hb=>hfr k _ hgk rfl hm b (.inl hb)) hf
    | cU e xs=>
      simp only[DV] at hk
      obtain⟨ys,h1,rfl⟩:=hk
      have hen:=hs.en k _ hgk
      exact fE.data hf (.own e xs) _ _ _ (by simp only[T.zh,h1]) hen.1 fun b hb=>hfr k _ hgk rfl hm b (jn.2 hb)
 have iy:=fun p q v=>aj.wk (w:=w) (ok:=bm X ν g.at) (ok':=bm X (EO ν m) g'.at) (ν:=ν) (g:=g) (m:=m) (st':=g'.at) hf dg hacc p q v
 have hreps:=fun ps qs vs=>ah.wk (w:=w) (ok:=bm X ν g.at) (ok':=bm X (EO ν m) g'.at) (ν:=ν) (g:=g) (m:=m) (st':=g'.at) hf dg hacc ps qs vs
 refine⟨by rw[hs.size,EL h.s],fun t=>?_,fun i e' he=>?_,fun i j e e' b h1 h2 h3 h4 h5 h6=>?_,fun b hb=>hs.base b (CO b hb),fun i hi=>?_,fun i hi=>?_,hs.wS,hs.qf,hs.defs⟩
 ·exact ER iy h.s t _ (hs.sl t)
 ·rcases fJ i e' he with⟨k,e,k1,k2,k3⟩|⟨k1,t,rfl|rfl⟩
  ·have hen:=hs.en k e k2
   cases e' with
   | dead=>trivial
   | box ds=>
     cases e with
     | box cs=>
       obtain⟨b,vs,T,q1,q2,q3,q4⟩:=hen
       simp only[sq] at k3
       simp only[fY,fW k1]
       exact⟨b,vs,T,q1,q2,hreps cs ds vs k3 q3,q4⟩
     | acc t xs=>simp[sq] at k3
     | cU t xs=>simp[sq] at k3
     | dead=>simp[sq] at k3
     | map x6=>simp[sq] at k3
   | acc t ys=>
     cases e with
     | acc t' xs=>
       simp only[sq] at k3
       obtain⟨rfl,rfl⟩:=k3
       obtain⟨us,q1,q2,q3⟩:=hen
       simp only[fY,fW k1]
       exact⟨us,q1,q2.frame hf (au _),q3⟩
     | box cs=>simp[sq] at k3
     | dead=>simp[sq] at k3
     | map x6=>simp[sq] at k3
     | cU t xs=>simp[sq] at k3
   | cU t ys=>
     cases e with
     | acc t' xs=>
       simp only[sq] at k3
       obtain⟨rfl,rfl⟩:=k3
       obtain⟨us,q1,q2,q3,q4⟩:=hen
       simp only[fY,fE,fW k1,q4,lO,bz]
       refine⟨⟨us,[],q1,q2.hu,aR.r9 (q2.frame hf (au _)),q3,by simp⟩,?_⟩
       unfold hb
       split<;>simp
     | cU t' xs=>
       simp only[sq] at k3
       obtain⟨rfl,rfl,k4⟩:=k3
       simp only[fY,fW k1]
       refine⟨fE.still (.own t' xs) _ _ ?_ (fE.frame hf (au _) (gI.refl _ _) _ _ _ hen.1 fun _ _=>rfl),hen.2⟩
       simp only[T.zh]
       obtain⟨zs,hz⟩:=b6.1 k4
       rw[hz];rfl
     | box cs=>simp[sq] at k3
     | dead=>simp[sq] at k3
     | map x6=>simp[sq] at k3
   | map kvs'=>
     cases e with
     | map x6=>
       simp only[sq] at k3
       subst k3
       simp only[fY,fW k1] at hen⊢
       exact hen
     | box cs=>simp[sq] at k3
     | acc t xs=>simp[sq] at k3
     | cU t xs=>simp[sq] at k3
     | dead=>simp[sq] at k3
  ·simp only[fY,iw k1]
   exact⟨[],⟨by simp,.inl ⟨rfl,rfl⟩⟩,bg.nil _ _ _,by simp,trivial⟩
  ·simp only[fY,iw k1,fE]
   exact⟨⟨[],[],⟨by simp,.inl ⟨rfl,rfl⟩⟩,by simp,by simp[aR],by simp,rfl⟩,by simp[hb,oc]⟩
 ·rcases fJ i e h1 with⟨k,e1,k1,k2,k3⟩|⟨k1,t,rfl|rfl⟩
  ·rcases fJ j e' h2 with⟨l,e2,l1,l2,l3⟩|⟨l1,t,rfl|rfl⟩
   ·rw[fW k1] at h5
    rw[fW l1] at h6
    have:=hs.inj k l e1 e2 b k2 l2 (iz _ _ k3 h3) (iz _ _ l3 h4) h5 h6
    subst this
    exact zB h.OC k1 l1 h1 h2 h3 h4
   ·rw[iw l1] at h6;simp[Nm.has,oc] at h6
   ·rw[iw l1] at h6;simp[Nm.has,oc] at h6
  ·rw[iw k1] at h5;simp[Nm.has,oc] at h5
  ·rw[iw k1] at h5;simp[Nm.has,oc] at h5
 ·obtain⟨e',he⟩:=b6.1 hi
  rcases fJ i e' he with⟨k,e,k1,k2,k3⟩|⟨k1,t,rfl|rfl⟩
  ·rw[fW k1];exact hs.nu k (by rw[k2];rfl)
  ·rw[iw k1];rfl
  ·rw[iw k1];rfl
 ·have jW:=hp i hi
  have hl:=wM h.keep i jW
  rw[bR] at hl
  exact⟨by rw[fW hl];exact(hs.par i hi).1,dg i _ hl⟩
end Go.Eng
namespace Go.Eng
open Go.RowKit
theorem Sat.IP{P:Program}{X:Cx}{ν:Nat→Nm}{g:G}{a:Act}{w w':World}(h:Sat P X ν g a w)(lf:mK (fun _=>False) w w')(d:Nat)(p:PV)(v:Value)
 (hv:(∀b,w.heap.size≤b→bm X ν g.at b)→(∀b,bm X ν g.at b→b<w.heap.size→bm X ν g.at b∧w'.heap[b]?=w.heap[b]?)→aj w' (bm X ν g.at) ν g.at p v) :
 Sat P X ν ⟨gk g.sl d p,g.st⟩ (a.put (some d) v) w':=by
 have hfree:∀b,w.heap.size≤b→bm X ν g.at b:=fun b hb=>⟨fun ho=>by have:=h.lt ho;omega,fun hz=>by have:=(h.wS b hz).1;have:=h.qf.size;omega⟩
 have hsame:∀b,bm X ν g.at b→b<w.heap.size→bm X ν g.at b∧w'.heap[b]?=w.heap[b]?:=fun b hb jW=>⟨hb,lf.block b jW (fun hf=>hf)⟩
 refine h.Ia (g':=⟨gk g.sl d p,g.st⟩) (fun _=>False) lf (fun _ hb=>hb.elim) (gI.refl _ _) (fun k e he=>.inl ⟨he,rfl,fun _ _ _ hb=>hb⟩) (fun k e b he hl hb=>.inl ⟨k,e,he,hl,hb⟩) ?_ (fun k hk=>.inl hk) ?_ ?_ rfl
 ·intro k k' e e' b h1 h2 h3 h4 h5 h6
  exact h.inj k k' e e' b h1 h2 h3 h4 h5 h6
 ·simp[size_put,ey,h.size]
 ·intro t
  simp only[lM,hJ,h.size]
  by_cases hc:t=d∧d<g.sl.length
  ·simp only[hc,and_self,if_true]
   exact .inr (hv hfree hsame)
  ·simp only[hc,if_false]
   exact .inl ⟨trivial,trivial⟩
theorem zn(off:Nat):∀(l:List Value)(n:Nat)(cells:Array Value)(k:Nat),off+n+l.length≤cells.size →
 ((l.zipIdx n).foldl (fun cs (x:Value×Nat)=>cs.setIfInBounds (off+x.2) x.1) cells)[k]?=if off+n≤k∧k<off+n+l.length then l[k-(off+n)]? else cells[k]?
 | [],n,cells,k,_=>by
   have:¬ (off+n≤k∧k<off+n+0):=by omega
   simp
   intro h1 h2;omega
 | c::l,n,cells,k,hl=>by
   simp only[List.zipIdx_cons,List.foldl_cons]
   simp only[aq] at hl
   rw[zn off l (n+1) _ k (by simp;omega)]
   by_cases h1:off+(n+1)≤k∧k<off+(n+1)+l.length
   ·rw[if_pos h1,if_pos (by simp only[aq];omega)]
    have:k-(off+n)=(k-(off+(n+1)))+1:=by omega
    rw[this];simp
   ·rw[if_neg h1]
    by_cases h2:k=off+n
    ·subst h2
     have jW:off+n<cells.size:=by omega
     rw[if_pos (by simp only[aq];omega)]
     simp[jW]
    ·rw[if_neg (by simp only[aq];omega)]
     simp[Array.getElem?_setIfInBounds,show ¬off+n=k from fun e=>h2 e.symm]
theorem B5(off:Nat)(l:List Value)(cells:Array Value)(hl:off+l.length≤cells.size) :
 (l.zipIdx.foldl (fun cs (x:Value×Nat)=>cs.setIfInBounds (off+x.2) x.1) cells).toList=cells.toList.take off++(l++cells.toList.drop (off+l.length)):=by
 apply List.ext_getElem?
 intro k
 have h:=zn off l 0 cells k (by omega)
 simp only[Nat.add_zero] at h
 rw[Array.getElem?_toList,h]
 by_cases h1:k<off
 ·rw[if_neg (by omega),aX (by simp;omega),cG,if_pos h1]
  simp
 ·rw[aV (by simp;omega)]
  have e:(List.take off cells.toList).length=off:=by simp;omega
  rw[e]
  by_cases h2:k<off+l.length
  ·rw[if_pos (by omega),aX (by omega)]
  ·rw[if_neg (by omega),aV (by omega),cW]
   have:off+l.length+(k-off-l.length)=k:=by omega
   rw[this];simp
def xQ(places:List (Nat×Nat))(cs:List PV):List (Nat×PV)→Option (List PV)
 | []=>some cs
 | (i,p)::rest=>
   match places[i]? with
   | none=>none
   | some (off,sz)=>if p.whole=true∧(cl p).length=sz∧off+sz≤cs.length then xQ places (qp cs off (cl p)) rest else none
theorem CG{w:World}{ok:Nat→Prop}{ν:Nat→Nm}{st:Nat→Option En}(hν:∀k,(st k).isSome=true→(ν k).v.oneCell'=true)(places:List (Nat×Nat))(ev:Operand→PV)(ρ:Operand→Value)(hev:∀x,aj w ok ν st (ev x) (ρ x)) :
 ∀(ps:List (Nat×Operand))(cs:List PV)(cells:Array Value)(r:List PV),ah w ok ν st cs cells.toList→xQ places cs (ps.map fun x=>(x.1,ev x.2))=some r →
 ∃cells',Instr.fill (places.toArray[·]?) cells (ps.map fun x=>(x.1,ρ x.2))=some cells'∧ah w ok ν st r cells'.toList
 | [],cs,cells,r,h,hr=>by
   simp only[cP,xQ,Option.some.injEq] at hr
   subst hr
   exact⟨cells,rfl,h⟩
 | (i,x)::ps,cs,cells,r,h,hr=>by
   simp only[aQ,xQ] at hr
   split at hr
   ·cases hr
   ·rename_i off sz hpl
    split at hr
    ·rename_i hc
     obtain⟨h1,h2,h3⟩:=hc
     have hx:=(hev x).cells h1 hν
     have hxl:=hx.length
     have hcl:=h.length
     have hxs:(ρ x).cells.size=sz:=by rw[←h2,←hxl];simp
     have hcs:cells.size=cs.length:=by rw[←hcl];simp
     have hone:=B5 off (ρ x).cells.toList cells (by rw[hxl,hcs,h2];exact h3)
     have iy:ah w ok ν st (qp cs off (cl (ev x))) ((ρ x).cells.toList.zipIdx.foldl (fun cs (x:Value×Nat)=>cs.setIfInBounds (off+x.2) x.1) cells).toList:=by
      rw[hone,hxl]
      exact(h.take off).append (hx.append (h.drop _))
     obtain⟨cells',k1,k2⟩:=CG hν places ev ρ hev ps _ _ r iy hr
     refine⟨cells',?_,k2⟩
     simp only[aQ,Instr.fill]
     have hpl':(places.toArray[i]?:Option (Nat×Nat))=some (off,sz):=by simpa using hpl
     rw[hpl']
     simp only
     rw[if_neg (by simp only[hxs,hcs,ne_eq,not_true_eq_false,decide_false,iA,decide_eq_true_eq];omega)]
     rw[←k1]
     congr 1
     rw[←Array.foldl_toList,Array.toList_zipIdx]
    ·cases hr
section
variable{E:Env}{g:G}{d:Nat}{ty:TypeId}{pos:String}{cM:Array Edge}{gd:Option (Nat×Bool)}{dn:Option Nat}
theorem HY(t:TypeId)(ps:List (Nat×Operand))(ti:TI)(fs:List (Nat×Nat×Nat))(r:List PV)(ht:E.ti t=some ti)(fI:ti.ty= .struct fs)
 (hr:xQ (fs.map fun x=>(x.2.1,x.2.2)) ti.zero (ps.map fun x=>(x.1,g.ev x.2))=some r) :
 gz E.P ⟨some d,.build t ⟨ps⟩,ty,pos,cM,gd⟩ g ⟨ps.flatMap fun x=>bV x.2,[]⟩ ⟨some (d,.agg r),[]⟩:=by
 intro g2 hg
 have hmap:ps.map (fun x=>(x.1,g2.ev x.2))=ps.map (fun x=>(x.1,g.ev x.2)):=by
  have:∀(ps:List (Nat×Operand)),(∀t∈ps.flatMap (fun x=>bV x.2),t∈ps.flatMap (fun x=>bV x.2))→True:=fun _ _=>trivial
  apply ik
  intro x hx
  rw[hg.ev (x:=x.2) (fun t h=>jZ.2 ⟨x,hx,h⟩)]
 refine x7.val rfl fun X ν a w hs=>?_
 obtain⟨i,z,h1,h2,h4,h5,h6,h7⟩:=(E.ok t ti ht).info
 have hu:=(E.ok t ti ht).ty
 rw[fI] at hu
 obtain⟨fields,hu,hpl,_⟩:=hu
 rw[←hmap] at hr
 obtain⟨cells',k1,k2⟩:=CG hs.nu (fs.map fun x=>(x.2.1,x.2.2)) g2.ev a.eval hs.ev ps ti.zero z.cells r (by rw[←h6];exact mL _ _ _ _ _) hr
 refine⟨.agg cells',?_,by simp only[aj];exact⟨cells'.toList,rfl,k2⟩⟩
 have hb:E.P.built t (ps.map fun x=>(x.1,a.eval x.2))=some cells':=by
  simp only[Program.built,h1,hu,h5,hpl,k1]
 have:=run_build (P:=E.P) w t ⟨ps.map fun x=>(x.1,a.eval x.2)⟩ cells' hb
 simp only[execOp,dT,Sem.run_bind,this,Result.andThen_ok]
 rfl
def rowsOf:List PV→Option (List (List D))
 | []=>some []
 | p::ps=>if p.whole=true then match qc (cl p),rowsOf ps with|some x,some xs=>some (x::xs)|_,_=>none else none
def yU:Nat→List Nat→Bool
 | _,[]=>true
 | i,j::js=>i == j&&yU (i+1) js
def mG(n:Nat):List (List D)→Bool
 | []=>true
 | x::xs=>x.length == n&&mG n xs
theorem te{w:World}{ok:Nat→Prop}{ν:Nat→Nm}{st:Nat→Option En}(hν:∀k,(st k).isSome=true→(ν k).v.oneCell'=true)(sz:Nat)(ev:Operand→PV)(ρ:Operand→Value)(hev:∀x,aj w ok ν st (ev x) (ρ x)) :
 ∀(ps:List (Nat×Operand))(i:Nat)(pre:List Value)(cells:Array Value)(rows:List (List D)),yU i (ps.map (·.1))=true→rowsOf (ps.map fun x=>ev x.2)=some rows→mG sz rows=true→pre.length=i*sz→cells.toList.take (i*sz)=pre→cells.size=(i+ps.length)*sz →
 ∃us:List (List Value),Instr.fill (fun i=>some (i*sz,sz)) cells (ps.map fun x=>(x.1,ρ x.2))=some ⟨pre++us.flatten⟩∧bg w ok sz rows us
 | [],i,pre,cells,rows,_,hr,_,hpl,hpre,hsz=>by
   simp only[cP,rowsOf,Option.some.injEq] at hr
   subst hr
   refine⟨[],?_,bg.nil _ _ _⟩
   simp only[cP,Instr.fill,List.flatten_nil,bz]
   congr 1
   rw[←hpre,ao (by rw[cL,hsz];exact au _)]
 | (j,x)::ps,i,pre,cells,rows,hup,hr,db,hpl,hpre,hsz=>by
   simp only[aQ,yU,ae,beq_iff_eq] at hup
   obtain⟨rfl,hup⟩:=hup
   simp only[aQ,rowsOf] at hr
   split at hr
   ·rename_i hwh
    split at hr
    ·rename_i row rows' kq hrows
     obtain rfl:=Option.some.inj hr
     simp only[mG,ae,beq_iff_eq] at db
     have hx:=(hev x).cells hwh hν
     have hxl:=hx.length
     have hd:=ot hx kq
     obtain⟨Fa,hd2⟩:=qW hd
     have hxs:(ρ x).cells.toList.length=sz:=by rw[Fa];exact db.1
     simp only[aq] at hsz
     have hmul:(i+(ps.length+1))*sz=i*sz+(sz+ps.length*sz):=by rw[bp,bp];omega
     have hone:=B5 (i*sz) (ρ x).cells.toList cells (by rw[hxs,hsz,hmul];omega)
     have hsz2:(((ρ x).cells.toList.zipIdx.foldl (fun cs (x:Value×Nat)=>cs.setIfInBounds (i*sz+x.2) x.1) cells)).size=(i+1+ps.length)*sz:=by
      rw[←cL,hone]
      simp only[an,List.length_take,dU,cL,hsz,hxs]
      rw[hmul,show i+1+ps.length=i+(ps.length+1) by omega,hmul]
      omega
     obtain⟨us,k1,k2⟩:=te hν sz ev ρ hev ps (i+1) (pre++(ρ x).cells.toList) _ rows' hup hrows db.2 (by rw[an,hpl,hxs,bp];omega)
      (by
       rw[hone,hpre,←bf,cC (by rw[an,hpl,hxs,bp];omega)]
       rw[ao (by rw[an,hpl,hxs,bp];omega)]) hsz2
     refine⟨(ρ x).cells.toList::us,?_,k2.cons db.1 hxs hd2⟩
     have hxs':(ρ x).cells.size=sz:=by simpa using hxs
     simp only[aQ,Instr.fill]
     rw[if_neg (by simp only[hxs',hsz,hmul,ne_eq,not_true_eq_false,decide_false,iA,decide_eq_true_eq];omega)]
     rw[bQ,←bf,←k1]
     congr 1
     rw[←Array.foldl_toList,Array.toList_zipIdx]
    ·cases hr
   ·cases hr
theorem EV{t e:Nat}{ti ei:TI}(ht:E.ti t=some ti)(fI:ti.ty= .slice e)(he:E.ti e=some ei){X:Cx}{ν:Nat→Nm}{g2:G}{a:Act}{w:World}(hs:Sat E.P X ν g2 a w)(ps:List (Nat×Operand))(rows:List (List D))
 (hup:yU 0 (ps.map (·.1))=true) (hr:rowsOf (ps.map fun x=>g2.ev x.2)=some rows) (db:mG ei.n rows=true) (hbig:ps.length*ei.n≤16777216) {o:Oper} (ho:o.op= .buildSlice t ps.length ⟨ps⟩) :
 ∃us:List (List Value),(execOp a.eval o).run E.P w= .ok (.value (.slice (some ⟨w.heap.size,0,none⟩) ps.length ps.length)) (w.alloc (.cells ⟨us.flatten⟩ e))∧bg w (bm X ν g2.at) ei.n rows us:=by
 obtain⟨i,z,h1,h2,h4,h5,h6,h7⟩:=(E.ok e ei he).info
 have hu:=(E.ok t ti ht).ty
 rw[fI] at hu
 have hpos:=(E.ok e ei he).pos
 have hrowsl:∀(qs:List PV)(rows:List (List D)),rowsOf qs=some rows→rows.length=qs.length:=by
  intro qs
  induction qs with
  | nil=>intro rows h;simp[rowsOf] at h;simp[←h]
  | cons q qs ih=>
    intro rows h
    simp only[rowsOf] at h
    split at h
    ·split at h
     ·rename_i h1 h2
      obtain rfl:=Option.some.inj h
      simp[ih _ h2]
     ·cases h
    ·cases h
 have hrl:=hrowsl _ _ hr
 simp only[bj] at hrl
 have key:∀init:Array Value,init.size=ps.length*ei.n→∃us:List (List Value),Instr.fill (fun i=>some (i*ei.n,ei.n)) init (ps.map fun x=>(x.1,a.eval x.2))=some ⟨us.flatten⟩∧bg w (bm X ν g2.at) ei.n rows us:=by
  intro init hi
  obtain⟨us,k1,k2⟩:=te hs.nu ei.n g2.ev a.eval hs.ev ps 0 [] init rows hup hr db (by simp) (by simp) (by simpa using hi)
  exact⟨us,by simpa using k1,k2⟩
 by_cases hz:ps.length*ei.n=0
 ·obtain⟨us,k1,k2⟩:=key ((Array.range 0).map fun _=>default) (by rw[Array.size_map,Array.size_range,hz])
  refine⟨us,?_,k2⟩
  simp only[execOp,ho,dT,Instr.buildSlice,Sem.run_bind,run_underlying hu,Result.andThen_ok,(E.ok e ei he).size w,hz]
  simp[k1,newRow]
 ·obtain⟨us,k1,k2⟩:=key ((Array.range (ps.length*ei.n)).map (z.cells[· % z.cells.size]!)) (by simp)
  refine⟨us,?_,k2⟩
  have hn:¬ps.length*ei.n>16777216:=by omega
  simp only[execOp,ho,dT,Instr.buildSlice,Sem.run_bind,run_underlying hu,Result.andThen_ok,(E.ok e ei he).size w]
  simp[hn,hz,zeroValue,typeInfo,h1,h5,k1,newRow]
theorem qo:∀{qs:List PV}{rows:List (List D)},rowsOf qs=some rows→rows.length=qs.length
 | [],rows,h=>by simp[rowsOf] at h;simp[←h]
 | q::qs,rows,h=>by
   simp only[rowsOf] at h
   split at h
   ·split at h
    ·rename_i h1 h2
     obtain rfl:=Option.some.inj h
     simp[qo h2]
    ·cases h
   ·cases h
theorem B7(w:World)(us:List Value)(e:TypeId):ff (w.alloc (.cells ⟨us⟩ e)) w.heap.size 0 us:=by
 intro j u hu
 simp only[World.cell?,r4,bR]
 simpa using hu
theorem IX(t e n:Nat)(ps:List (Nat×Operand))(ti ei:TI)(rows:List (List D))(ht:E.ti t=some ti)(fI:ti.ty= .slice e)(he:E.ti e=some ei)(hn:n=ps.length)(hup:yU 0 (ps.map (·.1))=true)
 (hr:rowsOf (ps.map fun x=>g.ev x.2)=some rows) (db:mG ei.n rows=true) (hbig:ps.length*ei.n≤16777216) :
 gz E.P ⟨some d,.buildSlice t n ⟨ps⟩,ty,pos,cM,gd⟩ g ⟨ps.flatMap fun x=>bV x.2,[]⟩ ⟨some (d,.d (.bX rows)),[]⟩:=by
 subst hn
 intro g2 hg
 have hmap:ps.map (fun x=>g2.ev x.2)=ps.map (fun x=>g.ev x.2):=by
  apply ik
  intro x hx
  rw[hg.ev (x:=x.2) (fun t h=>jZ.2 ⟨x,hx,h⟩)]
 rw[←hmap] at hr
 intro X ν a w next Q hs hnx
 obtain⟨us,jV,fj⟩:=EV ht fI he hs ps rows hup hr db hbig (o:=⟨some d,.buildSlice t ps.length ⟨ps⟩,ty,pos,cM,gd⟩) rfl
 have hpos:=(E.ok e ei he).pos
 have hrl:=qo hr
 simp only[bj] at hrl
 have hle:ps.length≤16777216:=dX (jg _ hpos) hbig
 unfold Oper.wp
 rw[jV,Oper.upon_value]
 refine hnx ν _ _ (hs.IP (w':=w.alloc (.cells ⟨us.flatten⟩ e)) (fU w _) d _ _ fun hfree hsame=>?_)
 simp only[aj]
 have hrr':=fj.frame hsame (fU w _).size
 rw[←hrl]
 exact .bX rows us w.heap.size 0 rows.length ei.n (hfree _ (au _)) (nx (r4 w _)) (au _) (by simp only[maxLen];omega) (by unfold LB;omega) hrr'.len hrr'.hx hrr'.hu (B7 w _ e) hrr'.hr
theorem DE(t e n k:Nat)(ps:List (Nat×Operand))(ti ei:TI)(rows:List (List D))(ht:E.ti t=some ti)(fI:ti.ty= .slice e)(he:E.ti e=some ei)(hn:n=ps.length)(hup:yU 0 (ps.map (·.1))=true)
 (hr:rowsOf (ps.map fun x=>g.ev x.2)=some rows) (db:mG ei.n rows=true) (hbig:ps.length*ei.n≤16777216) (hk:g.at k=none) :
 gz E.P ⟨some d,.buildSlice t n ⟨ps⟩,ty,pos,cM,gd⟩ g ⟨ps.flatMap fun x=>bV x.2,[k]⟩ ⟨some (d,.acc k),[(k,.acc e rows)]⟩:=by
 subst hn
 intro g2 hg
 have hmap:ps.map (fun x=>g2.ev x.2)=ps.map (fun x=>g.ev x.2):=by
  apply ik
  intro x hx
  rw[hg.ev (x:=x.2) (fun t h=>jZ.2 ⟨x,hx,h⟩)]
 have h3:=(hg.p k (by simp)).trans hk
 rw[←hmap] at hr
 intro X ν a w next Q hs hnx
 obtain⟨us,jV,fj⟩:=EV ht fI he hs ps rows hup hr db hbig (o:=⟨some d,.buildSlice t ps.length ⟨ps⟩,ty,pos,cM,gd⟩) rfl
 have hpos:=(E.ok e ei he).pos
 have hrl:=qo hr
 simp only[bj] at hrl
 have hle:ps.length≤16777216:=dX (jg _ hpos) hbig
 unfold Oper.wp
 rw[jV,Oper.upon_value]
 have hfl:=fj.hE
 have kq:=World.ownsRow_lit w (e:=e) (⟨us.flatten⟩:Array Value) rows.length (base:=0) (size:=ei.n) (cK _) (by simp only[maxLen];omega) (by simpa using hfl)
 refine hnx _ _ _ (hs.qm (fU w _) k h3 (.acc e rows) ⟨.slice (some ⟨w.heap.size,0,none⟩) ps.length ps.length,[]⟩ rfl (fun b hb=>?_) d _ _ ?_ ?_)
 ·obtain rfl:w.heap.size=b:=by simpa[Nm.has,oc] using hb
  exact au _
 ·intro ok st ν' hν hw hm
  refine⟨us,?_,?_,by unfold LB;omega,by rw[hν]⟩
  ·rw[hν,(E.ok e ei he).cells,←hrl]
   exact kq
  ·rw[(E.ok e ei he).cells]
   exact fj.frame hw (fU w _).size
 ·intro ok st ν' hν dg hw hm
  simp only[aj]
  exact⟨by rw[dg];rfl,by rw[hν]⟩
end
def OI(g:G):Option Operand→Int→Int→Prop
 | none,dflt,i=>i=dflt
 | some x,_,i=>∃k,g.ev x= .d (.val (.int k i))
def Jo:Option Operand→List Nat
 | none=>[]
 | some x=>bV x
theorem OI.agree{R:Rd}{g g2:G}(h:rA R g g2){o:Option Operand}{a i:Int}(ho:∀t∈Jo o,t∈R.s)(hi:OI g o a i):OI g2 o a i:=by
 cases o with
 | none=>exact hi
 | some x=>
   obtain⟨k,hk⟩:=hi
   exact⟨k,(h.ev (x:=x) ho).trans hk⟩
theorem OI.value{P:Program}{X:Cx}{ν:Nat→Nm}{g:G}{a:Act}{w:World}(h:Sat P X ν g a w){o:Option Operand}{d i:Int}(hi:OI g o d i):(o=none∧i=d)∨∃k,o.map a.eval=some (.int k i):=by
 cases o with
 | none=>exact .inl ⟨rfl,hi⟩
 | some x=>
   obtain⟨k,hk⟩:=hi
   have hv:=h.ev x
   rw[hk] at hv
   exact .inr ⟨k,by simp[fq hv]⟩
theorem po{P:Program}(w:World){t e s:Nat}(hu:P.underlying t=some (.slice e))(hs:∀w,(sizeOf e).run P w= .ok s w)(a:Option Addr)(len cap:Nat)(lo hi:Option Value)(l h:Int)
 (hlo:(lo=none∧l=0)∨∃k,lo=some (.int k l)) (hhi:(hi=none∧h=len)∨∃k,hi=some (.int k h)) (h0:0≤l) (h1:l≤h) (h2:h≤len) (h3:len≤cap) :
 (Instr.sliceAt t (.slice a len cap) lo hi none).run P w= .ok (sliced a l.toNat h.toNat cap s) w:=by
 have hel:P.elem t=e:=by simp[Program.elem,hu]
 have ht:P.underlying t=some (.slice (P.elem t)):=by rw[hel];exact hu
 rw[run_sliceAt_slice w t _ _ _ _ ht]
 have h2':h≤(cap:Int):=by omega
 rcases hlo with⟨rfl,rfl⟩|⟨k,rfl⟩
 ·rcases hhi with⟨rfl,rfl⟩|⟨k',rfl⟩
  ·rw[run_slice_all w t a len cap ht,hel,hs]
   simp[Result.andThen]
  ·rw[run_slice_h w t a len cap ht k' h (by omega) h2',hel,hs]
   simp[Result.andThen]
 ·rcases hhi with⟨rfl,rfl⟩|⟨k',rfl⟩
  ·rw[run_slice_l w t a len cap ht k l h0 h1,hel,hs]
   simp[Result.andThen]
  ·rw[run_slice_lh w t a len cap ht k k' l h h0 h1 h2',hel,hs]
   simp[Result.andThen]
theorem HV{P:Program}(w:World){t:Nat}(hu:P.underlying t=some .string)(s:List UInt8)(lo hi:Option Value)(l h:Int)
 (hlo:(lo=none∧l=0)∨∃k,lo=some (.int k l)) (hhi:(hi=none∧h=s.length)∨∃k,hi=some (.int k h)) (h0:0≤l) (h1:l≤h) (h2:h≤s.length) :
 (Instr.sliceAt t (.string ⟨s.toArray⟩) lo hi none).run P w= .ok (.string ⟨((s.drop l.toNat).take (h.toNat-l.toNat)).toArray⟩) w:=by
 rw[run_sliceAt_string w t _ _ _ _ hu]
 have hsz:(⟨s.toArray⟩:ByteArray).size=s.length:=size_mk s
 rcases hlo with⟨rfl,rfl⟩|⟨k,rfl⟩
 ·rcases hhi with⟨rfl,rfl⟩|⟨k',rfl⟩
  ·rw[run_slice_string_all w t _ hu,ByteArray.extract_mk,hsz]
   simp
  ·rw[run_slice_string_h w t _ hu k' h (by omega) (by omega),ByteArray.extract_mk]
   simp
 ·rcases hhi with⟨rfl,rfl⟩|⟨k',rfl⟩
  ·rw[run_slice_string_l w t _ hu k l h0 (by omega),ByteArray.extract_mk,hsz]
   simp
  ·rw[Go.run_slice_string w t _ k k' l h hu h0 h1 (by omega),ByteArray.extract_mk]
section
variable{E:Env}{g:G}{d:Nat}{ty:TypeId}{pos:String}{cM:Array Edge}{gd:Option (Nat×Bool)}{dn:Option Nat}
theorem oH{sz:Nat}:∀(us:List (List Value))(l n:Nat),(∀(i:Nat)(u:List Value),us[i]?=some u→u.length=sz)→l+n≤us.length→((us.drop l).take n).flatten=(us.flatten.drop (l*sz)).take (n*sz)
 | [],l,n,_,h=>by
   have h1:l=0:=by simp at h;omega
   have h2:n=0:=by simp at h;omega
   subst h1 h2;simp
 | u::us,0,n,hu,h=>by
   cases n with
   | zero=>simp
   | succ n=>
     have h0:u.length=sz:=hu 0 u rfl
     have ih:=oH us 0 n (fun i x hx=>hu (i+1) x (by simpa using hx)) (by simp at h;omega)
     simp only[List.drop_zero,lh] at ih⊢
     rw[cm,bQ,bQ,ih,List.take_append]
     have e1:(n+1)*sz-u.length=n*sz:=by rw[bp,h0];omega
     rw[e1,ao (l:=u) (by rw[h0,bp];omega)]
 | u::us,l+1,n,hu,h=>by
   have h0:u.length=sz:=hu 0 u rfl
   have ih:=oH us l n (fun i x hx=>hu (i+1) x (by simpa using hx)) (by simp at h;omega)
   rw[List.drop_succ_cons,ih,bQ]
   congr 1
   rw[List.drop_append,ag (l:=u) (by rw[h0,bp];omega),bx]
   congr 1
   rw[bp,h0];omega
theorem jx{α:Type}(xs:List α)(l n i:Nat)(x:α)(h:((xs.drop l).take n)[i]?=some x):xs[l+i]?=some x:=by
 rw[cG] at h
 split at h
 ·rwa [cW] at h
 ·cases h
theorem bg.cut{w:World}{ok:Nat→Prop}{sz:Nat}{xs:List (List D)}{us:List (List Value)}(h:bg w ok sz xs us)(l n:Nat):bg w ok sz ((xs.drop l).take n) ((us.drop l).take n):=by
 refine⟨by simp[h.len],fun i x hx=>h.hx (l+i) x (jx _ _ _ _ _ hx),fun i u hu=>h.hu (l+i) u (jx _ _ _ _ _ hu),fun i j x u d v h1 h2 h3 h4=>h.hr (l+i) j x u d v (jx _ _ _ _ _ h1) (jx _ _ _ _ _ h2) h3 h4⟩
theorem CQ(x:Operand)(lo hi:Option Operand)(t e:Nat)(ti ei:TI)(xs r:List (List D))(l h:Int)(ht:E.ti t=some ti)(fI:ti.ty= .slice e)(he:E.ti e=some ei)(hx:g.ev x= .d (.bX xs))(hlo:OI g lo 0 l)(hhi:OI g hi xs.length h)
 (h0:0≤l) (h1:l≤h) (h2:h≤xs.length) (hz:∀y∈xs,y.length=ei.n) (hr:(xs.drop l.toNat).take (h.toNat-l.toNat)=r) :
 gz E.P ⟨some d,.slice t x lo hi none,ty,pos,cM,gd⟩ g ⟨bV x++(Jo lo++Jo hi),[]⟩ ⟨some (d,.d (.bX r)),[]⟩:=by
 subst hr
 intro g2 hg
 have e1:=hg.ev (x:=x) (fun t h=>by simp[h])
 have hlo2:=hlo.agree hg (fun t h=>by simp[h])
 have hhi2:=hhi.agree hg (fun t h=>by simp[h])
 refine x7.val rfl fun X ν a w hs=>?_
 have hv:=hs.ev x
 rw[e1,hx] at hv
 simp only[aj] at hv⊢
 have hu:=(E.ok t ti ht).ty
 rw[fI] at hu
 have hlv:(lo.map a.eval=none∧l=0)∨∃k,lo.map a.eval=some (.int k l):=(hlo2.value hs).imp (fun h=>⟨by rw[h.1];rfl,h.2⟩) id
 have hhv:(hi.map a.eval=none∧h=xs.length)∨∃k,hi.map a.eval=some (.int k h):=(hhi2.value hs).imp (fun h=>⟨by rw[h.1];rfl,h.2⟩) id
 have hsize:=(E.ok e ei he).size
 obtain⟨ln,rfl⟩:∃n:Nat,l=n:=⟨l.toNat,by omega⟩
 obtain⟨hn,rfl⟩:∃n:Nat,h=n:=⟨h.toNat,by omega⟩
 simp only[aF]
 rcases hv.np with⟨rfl,ea,ec,hvv,hemp⟩|⟨us,b,off,cap,sz,hvv,kG,hb,gf,hmax,hB,fj,hc⟩
 ·simp only[List.length_nil] at h2
  have hr:=po (P:=E.P) w hu hsize ea 0 ec _ _ ln hn hlv hhv h0 h1 h2 (cK _)
  obtain rfl:hn=0:=by omega
  obtain rfl:ln=0:=by omega
  refine⟨sliced ea 0 0 ec ei.n,?_,?_⟩
  ·simp only[execOp,hvv,dL,Sem.run_bind,hr,Result.andThen_ok]
   rfl
  ·simp only[List.drop_nil,List.take_nil]
   unfold sliced
   refine dA.Nr ?_
   rcases hemp with⟨rfl,rfl⟩|⟨k1,k2⟩
   ·exact .inl ⟨by simp,rfl⟩
   ·refine .inr ⟨?_,by omega⟩
    split
    ·exact k1
    ·rw[Option.isSome_map]
     exact k1
 ·have hr:=po (P:=E.P) w hu hsize (some ⟨b,off,none⟩) xs.length cap _ _ ln hn hlv hhv h0 h1 h2 gf
  simp only[aF] at hr
  have hsz:xs=[]∨sz=ei.n:=by
   cases xs with
   | nil=>exact .inl rfl
   | cons y ys=>right;rw[←fj.hx 0 y rfl];exact hz y (by simp)
  refine⟨sliced (some ⟨b,off,none⟩) ln hn cap ei.n,?_,?_⟩
  ·simp only[execOp,hvv,dL,Sem.run_bind,hr,Result.andThen_ok]
   rfl
  ·have db:((xs.drop ln).take (hn-ln)).length=hn-ln:=by simp;omega
   have hrc:=fj.cut ln (hn-ln)
   have hcl:=oH us ln (hn-ln) fj.hu (by rw[fj.len];omega)
   unfold sliced
   by_cases hcm:cap=ln
   ·rw[if_pos hcm]
    have:hn-ln=0:=by omega
    rw[this] at db hrc⊢
    simp only[List.take_zero] at db hrc⊢
    exact .bX [] [] b off (cap-ln) sz kG hb (by simp) (by simp only[maxLen] at hmax⊢;omega) (by simp) rfl (by simp) (by simp) (fun j u hu=>by simp at hu) (by simp)
   ·rw[if_neg hcm]
    have hsz':sz=ei.n∨ln=0:=by
     rcases hsz with rfl|h
     ·right;simp at h2;omega
     ·exact .inl h
    have hoff:(⟨b,off,none⟩:Addr).add (ln*ei.n)=⟨b,off+ln*sz,none⟩:=by
     rw[add_lit]
     rcases hsz' with h|h<;>rw[h]
     simp
    simp only[Option.map_some,hoff]
    have hres:=dA.bX (w:=w) (ok:=bm X ν g2.at) ((xs.drop ln).take (hn-ln)) ((us.drop ln).take (hn-ln)) b (off+ln*sz) (cap-ln) sz kG hb (by rw[db];omega) (by simp only[maxLen] at hmax⊢;omega) (by rw[db];omega) hrc.len hrc.hx hrc.hu
     (hc.sub (ln*sz) fun j u hu=>by
      rw[hcl] at hu
      exact jx _ _ _ _ _ hu) hrc.hr
    rw[db] at hres
    exact hres
theorem CR(x:Operand)(lo hi:Option Operand)(t:Nat)(ti:TI)(s r:List UInt8)(l h:Int)(ht:E.ti t=some ti)(fI:ti.ty= .str)(hx:g.ev x= .d (.str s))(hlo:OI g lo 0 l)(hhi:OI g hi s.length h)
 (h0:0≤l) (h1:l≤h) (h2:h≤s.length) (hr:(s.drop l.toNat).take (h.toNat-l.toNat)=r) :
 gz E.P ⟨some d,.slice t x lo hi none,ty,pos,cM,gd⟩ g ⟨bV x++(Jo lo++Jo hi),[]⟩ ⟨some (d,.d (.str r)),[]⟩:=by
 subst hr
 intro g2 hg
 have e1:=hg.ev (x:=x) (fun t h=>by simp[h])
 have hlo2:=hlo.agree hg (fun t h=>by simp[h])
 have hhi2:=hhi.agree hg (fun t h=>by simp[h])
 refine x7.val rfl fun X ν a w hs=>?_
 have hv:=hs.ev x
 rw[e1,hx] at hv
 obtain⟨hv,hB⟩:=nD hv
 have hu:=(E.ok t ti ht).ty
 rw[fI] at hu
 have hlv:(lo.map a.eval=none∧l=0)∨∃k,lo.map a.eval=some (.int k l):=(hlo2.value hs).imp (fun h=>⟨by rw[h.1];rfl,h.2⟩) id
 have hhv:(hi.map a.eval=none∧h=s.length)∨∃k,hi.map a.eval=some (.int k h):=(hhi2.value hs).imp (fun h=>⟨by rw[h.1];rfl,h.2⟩) id
 have hr:=HV (P:=E.P) w hu s _ _ l h hlv hhv h0 h1 h2
 refine⟨_,?_,by simp only[aj];exact .str _ (by simp;omega)⟩
 simp only[execOp,hv,dL,Sem.run_bind,hr,Result.andThen_ok]
 rfl
def o0{α:Type}(cs:List α)(off:Nat)(vs:List α):List α:=cs.take off++(vs++cs.drop (off+vs.length))
theorem Az{α:Type}(cs vs:List α)(off:Nat)(h:off+vs.length≤cs.length):(o0 cs off vs).length=cs.length:=by
 simp[o0];omega
theorem wu{sz:Nat}:∀(us:List (List Value))(i off:Nat)(vs rest:List Value),(∀(i:Nat)(u:List Value),us[i]?=some u→u.length=sz)→i<us.length→off+vs.length≤sz →
 o0 (us.flatten++rest) (i*sz+off) vs=(us.set i (o0 (us.getD i []) off vs)).flatten++rest
 | [],i,_,_,_,_,h,_=>by simp at h
 | u::us,0,off,vs,rest,hu,_,ho=>by
   have h0:u.length=sz:=hu 0 u rfl
   simp only[o0,lh,bR,iQ,bQ,List.getD_cons_zero,bf]
   rw[cC (by omega),List.drop_append_of_le_length (by omega)]
 | u::us,i+1,off,vs,rest,hu,hi,ho=>by
   have h0:u.length=sz:=hu 0 u rfl
   have ih:=wu us i off vs rest (fun i x hx=>hu (i+1) x (by simpa using hx)) (by simpa using hi) ho
   have e1:(i+1)*sz+off=sz+(i*sz+off):=by rw[bp];omega
   simp only[iR,bQ,List.getD_cons_succ,bf]
   rw[←ih,e1]
   simp only[o0]
   have e2:List.take (sz+(i*sz+off)) (u++(us.flatten++rest))=u++List.take (i*sz+off) (us.flatten++rest):=by
    rw[List.take_append,ao (by omega),h0]
    congr 2;omega
   have e3:List.drop (sz+(i*sz+off)+vs.length) (u++(us.flatten++rest))=List.drop (i*sz+off+vs.length) (us.flatten++rest):=by
    rw[List.drop_append,ag (by omega),bx,h0]
    congr 1;omega
   rw[e2,e3,bf]
theorem rr{α:Type}(cs vs:List α)(off j:Nat)(h:off+vs.length≤cs.length):(o0 cs off vs)[j]?=if off≤j∧j<off+vs.length then vs[j-off]? else cs[j]?:=by
 unfold o0
 by_cases h1:j<off
 ·rw[if_neg (by omega),aX (by simp;omega),cG,if_pos h1]
 ·have e:(cs.take off).length=off:=by simp;omega
  rw[aV (by omega),e]
  by_cases h2:j<off+vs.length
  ·rw[if_pos (by omega),aX (by omega)]
  ·rw[if_neg (by omega),aV (by omega),cW]
   congr 1;omega
theorem yl(x y:Operand)(t k i off sz e:Nat)(ti ei:TI)(xs:List (List D))(p:PV)(cs:List D)(ht:E.ti t=some ti)(he:E.ti e=some ei)(hsz:sz=ei.n)(hx:g.ev x= .dk k i off sz)(hk:g.at k=some (.acc e xs))(hy:g.ev y=p)
 (hi:i<xs.length) (hl:off+ti.n≤ei.n) (hp:p.whole=true) (hn:(cl p).length=ti.n) (hcs:qc (cl p)=some cs) :
 gz E.P ⟨dn,.store t x y,ty,pos,cM,gd⟩ g ⟨bV x++bV y++dn.toList,[k]⟩ ⟨dn.map fun d=>(d,.undef),[(k,.acc e (xs.set i (o0 (row xs i) off cs)))]⟩:=by
 intro g2 hg
 have e1:=hg.ev (x:=x) (fun t h=>by simp[h])
 have e2:=hg.ev (x:=y) (fun t h=>by simp[h])
 have h3:=(hg.p k (by simp)).trans hk
 intro X ν a w next Q hs hnx
 have hv:=hs.ev x
 rw[e1,hx] at hv
 have hw:=hs.ev y
 rw[e2,hy] at hw
 simp only[aj] at hv
 obtain⟨_,b,n,c,hb,hv⟩:=hv
 obtain⟨us,ho,fj,hB,hf0⟩:=hs.en k _ h3
 have jX:=hw.cells hp hs.nu
 have db:=jX.length
 obtain⟨Fa,hd2⟩:=qW (ot jX hcs)
 rw[(E.ok e ei he).cells] at fj ho
 subst hsz
 have hlast:=ho.2
 rcases hlast with⟨h1,h2⟩|⟨b',cap,cur,h1,_,h2,h4,h5,h6,h7⟩
 ·omega
 ·rw[h1] at hb
  obtain⟨rfl,rfl,rfl⟩:b'=b∧xs.length=n∧cap=c:=by simpa using hb
  have hul:us.length=xs.length:=fj.len
  have hfl:=fj.hE
  have hmulle:(i+1)*ei.n≤xs.length*ei.n:=aW _ hi
  have hmulle2:xs.length*ei.n≤cap*ei.n:=aW _ h4
  have hadd:(i+1)*ei.n=i*ei.n+ei.n:=by rw[bp];omega
  have hone:∀u∈(a.eval y).cells.toList,u.oneCell'=true:=by
   intro u hu
   obtain⟨j,hj,rfl⟩:=List.getElem_of_mem hu
   have hjc:j<cs.length:=by rw[←Fa];exact hj
   exact(hd2 j cs[j] _ (ab hjc) (ab hj)).one
  have hvl:(a.eval y).cells.toList.length=ti.n:=by rw[db,hn]
  have jV:=nC (E.ok t ti ht) w b' (i*ei.n+off) e cur (a.eval y) h2 hvl (by omega) hone
  have hr:(execOp a.eval ⟨dn,.store t x y,ty,pos,cM,gd⟩).run E.P w= .ok .skip (w.setRow b' (cur.toList.take (i*ei.n+off)++(a.eval y).cells.toList++cur.toList.drop (i*ei.n+off+(a.eval y).cells.toList.length)).toArray):=by
   simp only[execOp,hv,Instr.storeAt,Instr.sureAddr,Sem.run_bind,Sem.run_pure,Result.andThen_ok,jV]
  have hcur:cur.toList=us.flatten++cur.toList.drop (xs.length*ei.n):=by rw[←h7];exact(gQ _ _).symm
  have hnew:cur.toList.take (i*ei.n+off)++(a.eval y).cells.toList++cur.toList.drop (i*ei.n+off+(a.eval y).cells.toList.length)=(us.set i (o0 (us.getD i []) off (a.eval y).cells.toList)).flatten++cur.toList.drop (xs.length*ei.n):=by
   have:=wu us i off (a.eval y).cells.toList (cur.toList.drop (xs.length*ei.n)) fj.hu (by omega) (by omega)
   rw[←hcur] at this
   rw[←this,bf]
   rfl
  have hui:us[i]?=some (us.getD i []):=by
   have:i<us.length:=by omega
   simp[bI,ab this]
  have hxi:xs[i]?=some (row xs i):=by simp[row,bI,ab hi]
  have hxil:=fj.hx i _ hxi
  have huil:=fj.hu i _ hui
  have hrows:bg w (bm X ν g2.at) ei.n (xs.set i (o0 (row xs i) off cs)) (us.set i (o0 (us.getD i []) off (a.eval y).cells.toList)):=by
   refine⟨by simp[hul],fun j z hz=>?_,fun j z hz=>?_,fun j l z u q v k1 k2 k3 k4=>?_⟩
   ·rw[fB] at hz
    by_cases hij:i=j
    ·subst hij
     rw[if_pos rfl,if_pos hi] at hz
     obtain rfl:=Option.some.inj hz
     rw[Az _ _ _ (by rw[hxil,←Fa,hvl];exact hl),hxil]
    ·rw[if_neg hij] at hz
     exact fj.hx j z hz
   ·rw[fB] at hz
    by_cases hij:i=j
    ·subst hij
     rw[if_pos rfl,if_pos (by omega)] at hz
     obtain rfl:=Option.some.inj hz
     rw[Az _ _ _ (by rw[huil,hvl];exact hl),huil]
    ·rw[if_neg hij] at hz
     exact fj.hu j z hz
   ·rw[fB] at k1 k2
    by_cases hij:i=j
    ·subst hij
     rw[if_pos rfl,if_pos hi] at k1
     rw[if_pos rfl,if_pos (by omega)] at k2
     obtain rfl:=Option.some.inj k1
     obtain rfl:=Option.some.inj k2
     rw[rr _ _ _ _ (by rw[hxil,←Fa,hvl];exact hl)] at k3
     rw[rr _ _ _ _ (by rw[huil,hvl];exact hl)] at k4
     rw[Fa] at k4
     by_cases nh:off≤l∧l<off+cs.length
     ·rw[if_pos nh] at k3 k4
      exact hd2 _ _ _ k3 k4
     ·rw[if_neg nh] at k3 k4
      exact fj.hr i l _ _ q v hxi hui k3 k4
    ·rw[if_neg hij] at k1 k2
     exact fj.hr j l z u q v k1 k2 k3 k4
  unfold Oper.wp
  rw[hr,Oper.upon_skip,hnew]
  refine hnx _ _ _ (hs.wU k (.acc e xs) (.acc e (xs.set i (o0 (row xs i) off cs))) h3 rfl (jN w b' _ _ ((gV hf0).2 (by rw[h1];rfl))) dn .undef Go.undef ?_ ?_)
  ·intro hwf hm
   refine⟨us.set i (o0 (us.getD i []) off (a.eval y).cells.toList),?_,?_,by simpa using hB,hf0⟩
   ·rw[(E.ok e ei he).cells,h1]
    have hf2:=hrows.hE
    refine⟨hf2,.inr ⟨b',cap,_,by simp,cK _,setRow_heap w b' _ _ e _ h2,by simpa using h4,h5,?_,?_⟩⟩
    ·simp only[fx,an,hf2,dm,dU,cL,h6]
     omega
    ·rw[cC (by rw[hf2];exact au _),ao (by rw[hf2];exact au _)]
   ·rw[(E.ok e ei he).cells]
    exact hrows.frame hwf (by simp[World.setRow])
  ·intro _
   simp only[aj]
def Gx(ns:List Int):List (List D):=ns.map fun n=>[.val (.int .u8 n)]
def OQ(ns:List Int):List UInt8:=ns.map fun n=>UInt8.ofNat n.toNat
end
mutual
def sc:PV→Bool
 | .undef=>true
 | .aY=>true
 | .d (.val _)=>true
 | .d (.str _)=>true
 | .agg cs=>MW cs
 | .gL cs=>MW cs
 | _=>false
def MW:List PV→Bool
 | []=>true
 | p::ps=>sc p&&MW ps
end
section
variable{w w':World}{ok ok':Nat→Prop}{ν ν':Nat→Nm}{st st':Nat→Option En}
mutual
theorem aj.sc:∀(p:PV)(v:Value),sc p=true→aj w ok ν st p v→aj w' ok' ν' st' p v
 | .undef,v,_,h=>by simpa[aj] using h
 | .aY,v,_,h=>by simpa[aj] using h
 | .d (.val u),v,_,h=>by
   simp only[aj] at h⊢
   cases h with
   | val u h=>exact .val _ h
 | .d (.str u),v,_,h=>by
   simp only[aj] at h⊢
   cases h with
   | str u h=>exact .str _ h
 | .agg cs,v,hs,h=>by
   simp only[Eng.sc] at hs
   simp only[aj] at h⊢
   obtain⟨vs,e,h⟩:=h
   exact⟨vs,e,ah.sc cs vs hs h⟩
 | .gL cs,v,hs,h=>by
   simp only[Eng.sc] at hs
   simp only[aj] at h⊢
   obtain⟨vs,e,h⟩:=h
   exact⟨vs,e,ah.sc cs vs hs h⟩
 | .any,_,hs,_=>by simp[Eng.sc] at hs
 | .d (.bX _),_,hs,_=>by simp[Eng.sc] at hs
 | .ptr _ _,_,hs,_=>by simp[Eng.sc] at hs
 | .acc _,_,hs,_=>by simp[Eng.sc] at hs
 | .dk _ _ _ _,_,hs,_=>by simp[Eng.sc] at hs
 | .da _ _ _,_,hs,_=>by simp[Eng.sc] at hs
 | .fn _ _,_,hs,_=>by simp[Eng.sc] at hs
theorem ah.sc:∀(ps:List PV)(vs:List Value),MW ps=true→ah w ok ν st ps vs→ah w' ok' ν' st' ps vs
 | [],[],_,_=>by simp[ah]
 | p::ps,v::vs,hs,h=>by
   simp only[Eng.MW,ae] at hs
   simp only[ah] at h⊢
   exact⟨aj.sc p v hs.1 h.1,ah.sc ps vs hs.2 h.2⟩
 | [],_::_,_,h=>by simp[ah] at h
 | _::_,[],_,h=>by simp[ah] at h
end
end
mutual
inductive Vw(g:G)(ks:List Nat):PV→PV→Prop where
 | same {p:PV} (h:p.lt 0=true):Vw g ks p p
 | nil:Vw g ks .aY (.d (.bX []))
 | acc {k:Nat} {e:TypeId} {xs:List (List D)} (h:oo k ks=true) (hk:g.at k=some (.acc e xs)):Vw g ks (.acc k) (.d (.bX xs))
 | cU {k:Nat} {e:TypeId} {xs:List (List T)} {ys:List (List D)} (h:oo k ks=true) (hk:g.at k=some (.cU e xs)) (hf:bW xs=some ys):Vw g ks (.acc k) (.d (.bX ys))
 | agg {cs ds:List PV} (h:pz g ks cs ds):Vw g ks (.agg cs) (.agg ds)
 | fn {f:Nat} {cs ds:List PV} (h:pz g ks cs ds):Vw g ks (.fn f cs) (.fn f ds)
 | box {k:Nat} {cs:List PV} {ds:List D} (h:oo k ks=true) (hk:g.at k=some (.box cs)) (hc:pz g ks cs (eZ ds)):Vw g ks (.ptr k 0) (.da [ds] 0 0)
inductive pz(g:G)(ks:List Nat):List PV→List PV→Prop where
 | nil:pz g ks [] []
 | cons {p q:PV} {ps qs:List PV} (h:Vw g ks p q) (h':pz g ks ps qs):pz g ks (p::ps) (q::qs)
end
section
variable{g g2:G}{ks:List Nat}
mutual
theorem Vw.Ev{p q:PV}:Vw g ks p q→q.lt 0=true
 | .same h=>h
 | .nil=>rfl
 | .acc _ _=>rfl
 | .cU _ _ _=>rfl
 | .agg h=>by simp only[PV.lt];exact pz.Ev h
 | .fn h=>by simp only[PV.lt];exact pz.Ev h
 | .box _ _ _=>rfl
theorem pz.Ev{ps qs:List PV}:pz g ks ps qs→nS 0 qs=true
 | .nil=>rfl
 | .cons h h'=>by simp only[nS,ae];exact⟨Vw.Ev h,pz.Ev h'⟩
end
mutual
theorem Vw.agree(ha:∀k∈ks,g2.at k=g.at k){p q:PV}:Vw g ks p q→Vw g2 ks p q
 | .same h=>.same h
 | .nil=>.nil
 | .acc h hk=>.acc h ((ha _ (kn.1 h)).trans hk)
 | .cU h hk hf=>.cU h ((ha _ (kn.1 h)).trans hk) hf
 | .agg h=>.agg (pz.agree ha h)
 | .fn h=>.fn (pz.agree ha h)
 | .box h hk hc=>.box h ((ha _ (kn.1 h)).trans hk) (pz.agree ha hc)
theorem pz.agree(ha:∀k∈ks,g2.at k=g.at k){ps qs:List PV}:pz g ks ps qs→pz g2 ks ps qs
 | .nil=>.nil
 | .cons h h'=>.cons (Vw.agree ha h) (pz.agree ha h')
end
end
section
variable{P:Program}{X:Cx}{ν ν':Nat→Nm}{g:G}{a:Act}{w:World}{ok:Nat→Prop}{st:Nat→Option En}{ks:List Nat}
mutual
theorem aj.Ev(hw:∀b,bm X ν g.at b→b<w.heap.size→ok b∧w.heap[b]?=w.heap[b]?):∀(p:PV)(v:Value),p.lt 0=true→aj w (bm X ν g.at) ν g.at p v→aj w ok ν' st p v
 | .any,_,_,_=>by simp[aj]
 | .undef,_,_,h=>by simpa[aj] using h
 | .aY,_,_,h=>by simpa[aj] using h
 | .d x,v,_,h=>by
   simp only[aj] at h⊢
   exact h.frame hw (au _)
 | .agg cs,v,hl,h=>by
   simp only[PV.lt] at hl
   simp only[aj] at h⊢
   obtain⟨vs,e,h⟩:=h
   exact⟨vs,e,ah.Ev hw cs vs hl h⟩
 | .gL cs,v,hl,h=>by
   simp only[PV.lt] at hl
   simp only[aj] at h⊢
   obtain⟨vs,e,h⟩:=h
   exact⟨vs,e,ah.Ev hw cs vs hl h⟩
 | .da xs i off,v,_,h=>by
   simp only[aj] at h⊢
   obtain⟨b,o,cap,h1,h2,h3⟩:=h
   exact⟨b,o,cap,h1.frame hw (au _),h2,h3⟩
 | .fn f cs,v,hl,h=>by
   simp only[PV.lt] at hl
   simp only[aj] at h⊢
   obtain⟨vs,e,h⟩:=h
   exact⟨vs,e,ah.Ev hw cs vs hl h⟩
 | .ptr _ _,_,hl,_=>by simp[PV.lt] at hl
 | .acc _,_,hl,_=>by simp[PV.lt] at hl
 | .dk _ _ _ _,_,hl,_=>by simp[PV.lt] at hl
theorem ah.Ev(hw:∀b,bm X ν g.at b→b<w.heap.size→ok b∧w.heap[b]?=w.heap[b]?):∀(ps:List PV)(vs:List Value),nS 0 ps=true→ah w (bm X ν g.at) ν g.at ps vs→ah w ok ν' st ps vs
 | [],[],_,_=>by simp[ah]
 | p::ps,v::vs,hl,h=>by
   simp only[nS,ae] at hl
   simp only[ah] at h⊢
   exact⟨aj.Ev hw p v hl.1 h.1,ah.Ev hw ps vs hl.2 h.2⟩
 | [],_::_,_,h=>by simp[ah] at h
 | _::_,[],_,h=>by simp[ah] at h
end
theorem D2{w:World}{ok:Nat→Prop}{ν:Nat→Nm}{st:Nat→Option En}:∀{ds:List D}{vs:List Value},ah w ok ν st (eZ ds) vs→∀(j:Nat)(d:D)(v:Value),ds[j]?=some d→vs[j]?=some v→dA w ok d v
 | [],_,_,j,d,v,h,_=>by simp at h
 | _::_,[],h,_,_,_,_,_=>by simp[eZ,ah] at h
 | e::ds,u::vs,h,0,d,v,h1,h2=>by
   simp only[eZ,aQ,ah,aj] at h
   obtain rfl:e=d:=by simpa using h1
   obtain rfl:u=v:=by simpa using h2
   exact h.1
 | e::ds,u::vs,h,j+1,d,v,h1,h2=>by
   simp only[eZ,aQ,ah] at h
   exact D2 (ds:=ds) h.2 j d v (by simpa using h1) (by simpa using h2)
theorem N3{w:World}{ok:Nat→Prop}{ν:Nat→Nm}{st:Nat→Option En}{b:Nat}{ds:List D}{vs:List Value}(kG:ok b)(hb:b<w.heap.size)(hc:ff w b 0 vs)(h:ah w ok ν st (eZ ds) vs) :
 dA w ok (.bX [ds]) (.slice (some ⟨b,0,none⟩) [ds].length 1):=by
 have hl:vs.length=ds.length:=by simpa[eZ] using h.length
 refine .bX [ds] [vs] b 0 1 ds.length kG hb (by simp) (by unfold maxLen;omega) (by simp[LB]) rfl ?_ ?_ (by simpa using hc) ?_
 ·intro i x hx
  cases i with
  | zero=>obtain rfl:ds=x:=by simpa using hx
          rfl
  | succ i=>simp at hx
 ·intro i x hx
  cases i with
  | zero=>obtain rfl:vs=x:=by simpa using hx
          exact hl
  | succ i=>simp at hx
 ·intro i j x u d v h1 h2 h3 h4
  cases i with
  | zero=>
    obtain rfl:ds=x:=by simpa using h1
    obtain rfl:vs=u:=by simpa using h2
    exact D2 h j d v h3 h4
  | succ i=>simp at h1
mutual
theorem aj.vw(hs:Sat P X ν g a w)(hw:∀b,bm X ν g.at b→b<w.heap.size→ok b∧w.heap[b]?=w.heap[b]?)(dG:∀b,Own ν g.at b→ok b){p q:PV}:∀(v:Value),Vw g ks p q→aj w (bm X ν g.at) ν g.at p v→aj w ok ν' st q v
 | v,.same hl,h=>aj.Ev hw _ v hl h
 | v,.nil,h=>by
   simp only[aj] at h⊢
   rw[h];exact .nil
 | v,.acc _ hk,h=>by
   simp only[aj] at h⊢
   rw[h.2]
   obtain⟨us,h1,h2,h3,_⟩:=hs.en _ _ hk
   exact mO h1 h2 h3 (fun b hb=>dG b ⟨_,_,hk,rfl,.inl hb⟩) hw
 | v,.cU (xs:=xs) (e:=e) _ hk hf,h=>by
   simp only[aj] at h⊢
   rw[h.2]
   have hen:=hs.en _ _ hk
   exact fE.data hw (.own e xs) _ _ _ (by simp only[T.zh,hf]) hen.1 fun b hb=>dG b ⟨_,_,hk,rfl,jn.2 hb⟩
 | v,.agg hc,h=>by
   simp only[aj] at h⊢
   obtain⟨vs,e,h⟩:=h
   exact⟨vs,e,ah.vw hs hw dG vs hc h⟩
 | v,.fn hc,h=>by
   simp only[aj] at h⊢
   obtain⟨vs,e,h⟩:=h
   exact⟨vs,e,ah.vw hs hw dG vs hc h⟩
 | v,.box _ hk hc,h=>by
   simp only[aj] at h⊢
   obtain⟨_,b,h1,h2⟩:=h
   obtain⟨b',vs,T,h3,h4,h5,_⟩:=hs.en _ _ hk
   obtain rfl:b'=b:=by
    rw[h1] at h3
    simpa using h3.symm
   have h6:=ah.vw hs hw dG vs hc h5
   refine⟨b',0,1,N3 (dG b' ⟨_,_,hk,rfl,.inl (by rw[h1];rfl)⟩) (nx h4) (nz h4) h6,by simp,by rw[h2];simp⟩
theorem ah.vw(hs:Sat P X ν g a w)(hw:∀b,bm X ν g.at b→b<w.heap.size→ok b∧w.heap[b]?=w.heap[b]?)(dG:∀b,Own ν g.at b→ok b){ps qs:List PV}:∀(vs:List Value),pz g ks ps qs→ah w (bm X ν g.at) ν g.at ps vs→ah w ok ν' st qs vs
 | [],.nil,_=>by simp[ah]
 | v::vs,.cons h1 h2,h=>by
   simp only[ah] at h⊢
   exact⟨aj.vw hs hw dG v h1 h.1,ah.vw hs hw dG vs h2 h.2⟩
 | _::_,.nil,h=>by simp[ah] at h
 | [],.cons _ _,h=>by simp[ah] at h
end
end
theorem J3{P:Program}{o:Oper}{g:G}{ij:Operand}{xs:List Operand}{tys:Array TypeId}{d:Nat}(ho:o.op= .call ⟨.value ij,⟨xs⟩,tys⟩)(hd:o.dst=some d){f:FuncId}{cap:List PV}(hfn:g.ev ij= .fn f cap)
 (ks:List Nat) (bw:List PV) (R:PV→List (Option En)→Prop) (hC:C P f bw [] R) (jB:pz g ks (xs.map g.ev++cap) bw) (hR:∀r s,R r s→sc r=true)
 (X:Cx) (ν:Nat→Nm) (a:Act) (w:World) (next:Act→World→Prop) (Q:Exit→Act→World→Prop) (hs:Sat P X ν g a w)
 (hn:∀r s ν' a' w',R r s→Sat P X ν' ⟨gk g.sl d r,g.st⟩ a' w'→next a' w'):o.wp P a w next Q:=by
 have hfv:=hs.ev ij
 rw[hfn] at hfv
 simp only[aj] at hfv
 obtain⟨vcap,hfv,gf⟩:=hfv
 have hxs:=rQ hs xs
 let Xc:Cx:=⟨w,Own ν (bP []),ν,bP [],X.Z⟩
 have hno:∀b,¬Own ν (bP []) b:=by
  rintro b ⟨k,e,h,_⟩
  cases k<;>simp[bP] at h
 have hw:∀b,bm X ν g.at b→b<w.heap.size→bm Xc ν (bP []) b∧w.heap[b]?=w.heap[b]?:=fun b hb _=>⟨⟨hno b,hb.2⟩,rfl⟩
 have dG:∀b,Own ν g.at b→bm Xc ν (bP []) b:=fun b hb=>⟨hno b,hs.Bi hb⟩
 have pa:ah w (bm Xc ν (bP [])) ν (bP []) bw (xs.map a.eval++vcap):=ah.vw hs hw dG _ jB (hxs.app gf)
 obtain⟨⟨fn,hfn1,hfn2,hfn3⟩,hC⟩:=hC
 have hr:(execOp a.eval o).run P w= .ok (.enter f ⟨xs.map a.eval++vcap⟩) w:=by
  have n1 : ¬ fn.name = "runtime.NumGoroutine" := by simpa using hfn3
  have n2:¬fn.body=none:=fun e=>by rw[e] at hfn2;cases hfn2
  simp[execOp,ho,resolve,hfv,Deferred.ofValue,invoke,callFunc,program,hfn1,n1,n2,Sem.run]
 have fJ:∀k,(⟨bw,[]⟩:G).at k=none:=fun k=>by cases k<;>rfl
 have hent:Sat P Xc ν ⟨bw,[]⟩ ⟨⟨xs.map a.eval++vcap⟩,[]⟩ w:=by
  refine⟨by simpa using pa.length,fun t=>?_,fun k e h=>?_,fun k k' e e' b h=>?_,fun b hb=>?_,fun k h=>?_,fun k h=>?_,⟨fun b hb=>?_,hs.kt rfl fun b hb=>(hno b hb).elim⟩,mK.refl _ w,rfl⟩
  ·have key:∀(ps:List PV)(us:List Value)(t:Nat),ah w (bm Xc ν (bP [])) ν (bP []) ps us→aj w (bm Xc ν (bP [])) ν (bP []) (nth ps t) (us.getD t Go.undef):=by
    intro ps
    induction ps with
    | nil=>intro us t _;cases t<;>simp[nth,aj]
    | cons p ps ih=>
      intro us t hr
      cases us with
      | nil=>simp[ah] at hr
      | cons u us=>
        simp only[ah] at hr
        cases t with
        | zero=>simpa[nth] using hr.1
        | succ t=>simpa[nth] using ih us t hr.2
   have:=key bw _ t pa
   show aj w (bm Xc ν (bP [])) ν (bP []) (nth bw t) ((⟨xs.map a.eval++vcap⟩:Array Value).getD t Go.undef)
   simpa[Array.getD_eq_getD_getElem?] using this
  ·rw[fJ] at h;cases h
  ·rw[fJ] at h;cases h
  ·exact(hno b hb).elim
  ·rw[fJ] at h;cases h
  ·exact⟨rfl,h⟩
  ·exact⟨Nat.lt_of_lt_of_le (hs.wS b hb).1 hs.qf.size,hno b⟩
 unfold Oper.wp
 rw[hr,Oper.upon_enter]
 refine(hC Xc (xs.map a.eval++vcap) rfl rfl hent).mono ?_
 rintro e w' ⟨v,res,st',ν',rfl,hRr,dP⟩
 show next (a.put o.dst v) w'
 rw[hd]
 refine hn res st' ν _ _ hRr (hs.IP (dP.qf.mono fun b hb _=>hno b hb) d res v fun _ _=>?_)
 have:=dP.sl 0
 exact aj.sc res v (hR _ _ hRr) this
section
variable{E:Env}{g:G}{d:Nat}{ty:TypeId}{pos:String}{cM:Array Edge}{gd:Option (Nat×Bool)}
theorem KK(ij:Operand)(xs:List Operand)(tys:Array TypeId)(f:FuncId)(cap:List PV)(hfn:g.ev ij= .fn f cap)(ks:List Nat)(bw:List PV)(res:PV)(hC:C E.P f bw [] (bB res []))
 (jB:pz g ks (xs.map g.ev++cap) bw) (hsc:sc res=true) :
 gz E.P ⟨some d,.call ⟨.value ij,⟨xs⟩,tys⟩,ty,pos,cM,gd⟩ g ⟨bV ij++xs.flatMap bV,ks⟩ ⟨some (d,res),[]⟩:=by
 intro g2 hg
 have e1:=hg.ev (x:=ij) (fun t h=>by simp[h])
 have e2:=na hg xs (fun t h=>by simp only[aE];exact .inr h)
 intro X ν a w next Q hs hn
 refine J3 rfl rfl (by rw[e1,hfn]) ks bw (bB res []) hC (by rw[e2];exact jB.agree (fun k hk=>hg.p k hk)) (fun r s h=>by rw[h.1];exact hsc) X ν a w next Q hs ?_
 rintro r s ν' a' w' ⟨rfl,rfl⟩ hs'
 exact hn ν' a' w' hs'
end
def Fin(E:Env)(rs:List ResultVar)(n0:Nat)(R:PV→List (Option En)→Prop)(g:G):Prop:=∃g',ko E.P n0 g g'∧Mp E rs n0 R g'
theorem Fin.plain{E:Env}{rs:List ResultVar}{R:PV→List (Option En)→Prop}{g:G}(ps:List PV)(q:PV)(h1:qK E g rs=some ps)(h2:cv (fS ps) q)(hl:q.lt 0=true)(hR:R q []):True:=trivial
end Go.Eng
namespace Go.Eng
open Go.RowKit
inductive qv where
 | go(R:Rd)(δ:Dl)
 | jj(φ:Prop)(R:Rd)(δ:Dl)
 | stop
def qv.Ok(P:Program)(o:Oper)(g:G):qv→Prop
 | .go R δ=>gz P o g R δ
 | .jj φ R δ=>φ→gz P o g R δ
 | .stop=>True
def pw:Nat→Nat→Bool
 | 0,_=>true
 | _+1,0=>false
 | n+1,m+1=>pw n m
theorem fV:∀{n m:Nat},pw n m=true→n≤m
 | 0,_,_=>cK _
 | n+1,0,h=>by simp[pw] at h
 | n+1,m+1,h=>Nat.succ_le_succ (fV (by simpa[pw] using h))
def vW:Nat→Nat→Bool
 | 0,0=>true
 | n+1,m+1=>vW n m
 | _,_=>false
theorem nj:∀{n m:Nat},vW n m=true→n=m
 | 0,0,_=>rfl
 | n+1,m+1,h=>congrArg (·+1) (nj (by simpa[vW] using h))
 | 0,m+1,h=>by simp[vW] at h
 | n+1,0,h=>by simp[vW] at h
def Ao:List D→Nat
 | []=>0
 | _::as=>Ao as+1
theorem A4:∀(l:List D),Ao l=l.length
 | []=>rfl
 | _::as=>by simp[Ao,A4 as]
theorem Ew{n:Nat}{l:List D}(h:pw n (Ao l)=true):n≤l.length:=by
 have:=fV h
 rwa [A4] at this
theorem J1{n:Nat}{l:List D}(h:vW (Ao l) n=true):l.length=n:=by
 have:=nj h
 rwa [A4] at this
def gx:List (Option En)→Nat
 | []=>0
 | _::as=>gx as+1
theorem iE:∀(l:List (Option En)),gx l=l.length
 | []=>rfl
 | _::as=>by simp[gx,iE as]
def oZ:List PV→Nat
 | []=>0
 | _::as=>oZ as+1
theorem jy:∀(l:List PV),oZ l=l.length
 | []=>rfl
 | _::as=>by simp[oZ,jy as]
def G.new(g:G):Nat:=gx g.st
theorem G.gv(g:G):g.at g.new=none:=wL (by unfold G.new;rw[iE];exact au _)
def tk:Nat→List PV→List PV
 | 0,_=>[]
 | _+1,[]=>[]
 | n+1,a::as=>a::tk n as
theorem zw:∀(n:Nat)(l:List PV),tk n l=l.take n
 | 0,l=>by simp[tk]
 | n+1,[]=>by simp[tk]
 | n+1,a::as=>by simp[tk,zw n as]
def dr:Nat→List PV→List PV
 | 0,l=>l
 | _+1,[]=>[]
 | n+1,_::as=>dr n as
theorem zH:∀(n:Nat)(l:List PV),dr n l=l.drop n
 | 0,l=>by simp[dr]
 | n+1,[]=>by simp[dr]
 | n+1,a::as=>by simp[dr,zH n as]
def C9:List PV→List PV→List PV
 | cs,[]=>cs
 | [],vs=>vs
 | _::cs,v::vs=>v::C9 cs vs
def Dz:List PV→Nat→List PV→List PV
 | cs,0,vs=>C9 cs vs
 | [],_+1,vs=>vs
 | c::cs,n+1,vs=>c::Dz cs n vs
theorem Et:∀(cs vs:List PV),vs.length≤cs.length→C9 cs vs=vs++cs.drop vs.length
 | cs,[],_=>by cases cs<;>simp[C9]
 | [],v::vs,h=>by simp at h
 | c::cs,v::vs,h=>by simp[C9,Et cs vs (by simpa using h)]
theorem AE:∀(cs:List PV)(n:Nat)(vs:List PV),n+vs.length≤cs.length→Dz cs n vs=qp cs n vs
 | cs,0,vs,h=>by
   rw[bR] at h
   have e:Dz cs 0 vs=C9 cs vs:=by cases cs<;>rfl
   rw[e,Et cs vs h]
   simp[qp]
 | [],n+1,vs,h=>by simp at h
 | c::cs,n+1,vs,h=>by
   have:=AE cs n vs (by simp at h;omega)
   simp only[Dz,this,qp]
   rw[show n+1+vs.length=n+vs.length+1 by omega]
   simp
def Dq:List (Nat×Nat×Nat)→Nat→Option (Nat×Nat×Nat)
 | [],_=>none
 | a::_,0=>some a
 | _::as,n+1=>Dq as n
theorem zT:∀(l:List (Nat×Nat×Nat))(n:Nat),Dq l n=l[n]?
 | [],n=>by simp[Dq]
 | a::as,0=>rfl
 | a::as,n+1=>by simp[Dq,zT as n]
def F8:List PV→Nat→Option PV
 | [],_=>none
 | a::_,0=>some a
 | _::as,n+1=>F8 as n
theorem E1:∀(l:List PV)(n:Nat),F8 l n=l[n]?
 | [],n=>by simp[F8]
 | a::as,0=>rfl
 | a::as,n+1=>by simp[F8,E1 as n]
def M5:List (Nat×Nat×Nat)→List (Nat×Nat)
 | []=>[]
 | (_,o,s)::r=>(o,s)::M5 r
theorem IG:∀(l:List (Nat×Nat×Nat)),M5 l=l.map fun x=>(x.2.1,x.2.2)
 | []=>rfl
 | (a,o,s)::r=>by simp[M5,IG r]
def ND(g:G):List (Nat×Operand)→List (Nat×PV)
 | []=>[]
 | (i,x)::r=>(i,g.ev x)::ND g r
theorem IZ(g:G):∀(l:List (Nat×Operand)),ND g l=l.map fun x=>(x.1,g.ev x.2)
 | []=>rfl
 | (i,x)::r=>by simp[ND,IZ g r]
def MU(g:G):List (Nat×Operand)→List PV
 | []=>[]
 | (_,x)::r=>g.ev x::MU g r
theorem DK(g:G):∀(l:List (Nat×Operand)),MU g l=l.map fun x=>g.ev x.2
 | []=>rfl
 | (i,x)::r=>by simp[MU,DK g r]
def M4:List (Nat×Operand)→List Nat
 | []=>[]
 | (i,_)::r=>i::M4 r
theorem Dr:∀(l:List (Nat×Operand)),M4 l=l.map (·.1)
 | []=>rfl
 | (i,x)::r=>by simp[M4,Dr r]
def Mz:List (Nat×Operand)→List Nat
 | []=>[]
 | (_,x)::r=>bV x++Mz r
theorem Ax:∀(l:List (Nat×Operand)),Mz l=l.flatMap fun x=>bV x.2
 | []=>rfl
 | (i,x)::r=>by simp[Mz,Ax r]
def Eo:List (Nat×Operand)→Nat
 | []=>0
 | _::r=>Eo r+1
theorem AG:∀(l:List (Nat×Operand)),Eo l=l.length
 | []=>rfl
 | (i,x)::r=>by simp[Eo,AG r]
def Fz:List (Nat×Nat)→Nat→Option (Nat×Nat)
 | [],_=>none
 | a::_,0=>some a
 | _::as,n+1=>Fz as n
theorem Fk:∀(l:List (Nat×Nat))(n:Nat),Fz l n=l[n]?
 | [],n=>by simp[Fz]
 | a::as,0=>rfl
 | a::as,n+1=>by simp[Fz,Fk as n]
def Bl(places:List (Nat×Nat))(cs:List PV):List (Nat×PV)→Option (List PV)
 | []=>some cs
 | (i,p)::rest=>
   match Fz places i with
   | none=>none
   | some (off,sz)=>match p.whole,eA (oZ (cl p)) sz,pw (off+sz) (oZ cs) with
     | true,true,true=>Bl places (Dz cs off (cl p)) rest
     | _,_,_=>none
theorem E6:∀(rest:List (Nat×PV))(places:List (Nat×Nat))(cs r:List PV),Bl places cs rest=some r→xQ places cs rest=some r
 | [],_,_,_,h=>h
 | (i,p)::rest,places,cs,r,h=>by
   simp only[Bl] at h
   simp only[xQ]
   split at h
   ·cases h
   ·rename_i off sz hpl
    rw[Fk] at hpl
    rw[hpl]
    simp only
    split at h
    ·rename_i h1 h2 h3
     have h2:oZ (cl p)=sz:=aZ h2
     rw[jy] at h2
     have h3:=fV h3
     rw[jy] at h3
     rw[if_pos ⟨h1,h2,h3⟩]
     rw[AE _ _ _ (by omega)] at h
     exact E6 rest places _ r h
    ·cases h
def i64(p:PV):Option Int:=match p with | .d (.val (.int .i64 n))=>some n|_=>none
def Ob(d:Nat)(R:Rd):BinOp→Int→Int→qv
 | .add,m,n=>.jj (Gy (m+n)) R ⟨some (d,.d (.val (.int .i64 (m+n)))),[]⟩
 | .sub,m,n=>.jj (Gy (m-n)) R ⟨some (d,.d (.val (.int .i64 (m-n)))),[]⟩
 | .mul,m,n=>.jj (Gy (m*n)) R ⟨some (d,.d (.val (.int .i64 (m*n)))),[]⟩
 | .quo,m,n=>.jj (n≠0∧Gy (m.tdiv n)) R ⟨some (d,.d (.val (.int .i64 (m.tdiv n)))),[]⟩
 | .rem,m,n=>.jj (n≠0) R ⟨some (d,.d (.val (.int .i64 (m.tmod n)))),[]⟩
 | _,_,_=>.stop
def Oh(d:Nat)(R:Rd):BinOp→Int→Int→qv
 | .eql,m,n=>.go R ⟨some (d,.d (.val (.bool (m == n)))),[]⟩
 | .neq,m,n=>.go R ⟨some (d,.d (.val (.bool (m != n)))),[]⟩
 | .lss,m,n=>.go R ⟨some (d,.d (.val (.bool (decide (m<n))))),[]⟩
 | .leq,m,n=>.go R ⟨some (d,.d (.val (.bool (decide (m≤n))))),[]⟩
 | .gtr,m,n=>.go R ⟨some (d,.d (.val (.bool (decide (m>n))))),[]⟩
 | .geq,m,n=>.go R ⟨some (d,.d (.val (.bool (decide (m≥n))))),[]⟩
 | _,_,_=>.stop
def Lq:BinOp→Bool
 | .eql=>true
 | .neq=>true
 | .lss=>true
 | .leq=>true
 | .gtr=>true
 | .geq=>true
 | _=>false
def N2(d:Nat)(R:Rd):BinOp→List UInt8→List UInt8→qv
 | .add,l,m=>.jj (l.length+m.length≤LB) R ⟨some (d,.d (.str (l++m))),[]⟩
 | .eql,l,m=>.go R ⟨some (d,.d (.val (.bool (l == m)))),[]⟩
 | .neq,l,m=>.go R ⟨some (d,.d (.val (.bool (!(l == m))))),[]⟩
 | .lss,l,m=>.go R ⟨some (d,.d (.val (.bool (Op.bytesLess l m)))),[]⟩
 | .leq,l,m=>.go R ⟨some (d,.d (.val (.bool (Op.bytesLess l m||l == m)))),[]⟩
 | .gtr,l,m=>.go R ⟨some (d,.d (.val (.bool (!(Op.bytesLess l m||l == m))))),[]⟩
 | .geq,l,m=>.go R ⟨some (d,.d (.val (.bool (!Op.bytesLess l m)))),[]⟩
 | _,_,_=>.stop
def H2:IntKind→IntKind→Bool
 | .i64,.i64=>true
 | .u8,.u8=>true
 | .u64,.u64=>true
 | .u32,.u32=>true
 | _,_=>false
theorem Bc{a b:IntKind}(h:H2 a b=true):a=b:=by cases a<;>cases b<;>first|rfl|(cases h;done)
def NY(E:Env)(g:G)(d:Nat)(b:BinOp)(t:TypeId)(x y:Operand):qv:=
 match g.ev x,g.ev y with
 | .d (.val (.int k m)),.d (.val (.int k' n))=>
   match H2 k k' with
   | true=>match Lq b with
     | true=>Oh d ⟨bV x++bV y,[]⟩ b m n
     | false=>match H2 k .i64 with
       | true=>Ob d ⟨bV x++bV y,[]⟩ b m n
       | false=>.stop
   | false=>.stop
 | .d (.str l),.d (.str m)=>N2 d ⟨bV x++bV y,[]⟩ b l m
 | .d (.val (.bool m)),.d (.val (.bool n))=>
   match E.ti t with
   | some ti=>match ti.ty,b with
     | .bool,.eql=>.go ⟨bV x++bV y,[]⟩ ⟨some (d,.d (.val (.bool (m == n)))),[]⟩
     | .bool,.neq=>.go ⟨bV x++bV y,[]⟩ ⟨some (d,.d (.val (.bool (!(m == n))))),[]⟩
     | _,_=>.stop
   | none=>.stop
 | _,_=>.stop
section
variable{E:Env}{g:G}{d:Nat}{ty:TypeId}{pos:String}{cM:Array Edge}{gd:Option (Nat×Bool)}{dn:Option Nat}
theorem L0(b:BinOp)(m n:Int)(t u:TypeId)(x y:Operand)(hx:g.ev x= .d (.val (.int .i64 m)))(hy:g.ev y= .d (.val (.int .i64 n))) :
 (Ob d ⟨bV x++bV y,[]⟩ b m n).Ok E.P ⟨some d,.binOp b t x y u,ty,pos,cM,gd⟩ g:=by
 cases b<;>first
  | exact fun h=>Me x y m n t u hx hy h
  | exact fun h=>MF x y m n t u hx hy h
  | exact fun h=>Mu x y m n t u hx hy h
  | exact fun h=>MB x y m n t u hx hy h.1 h.2
  | exact fun h=>LO x y m n t u hx hy h
  | exact trivial
theorem LL(b:BinOp)(k:IntKind)(m n:Int)(t u:TypeId)(x y:Operand)(hx:g.ev x= .d (.val (.int k m)))(hy:g.ev y= .d (.val (.int k n))) :
 (Oh d ⟨bV x++bV y,[]⟩ b m n).Ok E.P ⟨some d,.binOp b t x y u,ty,pos,cM,gd⟩ g:=by
 cases b<;>first
  | exact KH _ x y k m n _ t u hx hy rfl
  | exact trivial
theorem Ma(b:BinOp)(l m:List UInt8)(t u:TypeId)(x y:Operand)(hx:g.ev x= .d (.str l))(hy:g.ev y= .d (.str m)) :
 (N2 d ⟨bV x++bV y,[]⟩ b l m).Ok E.P ⟨some d,.binOp b t x y u,ty,pos,cM,gd⟩ g:=by
 cases b<;>first
  | exact fun h=>L7 x y l m t u hx hy h
  | exact Ka _ x y l m _ t u hx hy rfl
  | exact trivial
theorem LW(b:BinOp)(t u:TypeId)(x y:Operand):(NY E g d b t x y).Ok E.P ⟨some d,.binOp b t x y u,ty,pos,cM,gd⟩ g:=by
 unfold NY
 split
 ·rename_i k m k' n hx hy
  split
  ·rename_i hk
   have hk:=Bc hk
   subst hk
   split
   ·exact LL b _ m n t u x y hx hy
   ·split
    ·rename_i hk
     have hk:=Bc hk
     subst hk
     exact L0 b m n t u x y hx hy
    ·trivial
  ·trivial
 ·rename_i l m hx hy
  exact Ma b l m t u x y hx hy
 ·rename_i m n hx hy
  split
  ·rename_i ti ht
   split
   ·rename_i fI
    exact MN x y m n t u ti ht fI hx hy
   ·rename_i fI
    exact LS x y m n t u ti ht fI hx hy
   ·trivial
  ·trivial
 ·trivial
end
def T.pv:T→PV
 | .leaf d=>.d d
 | .ref j=>.acc j
 | .own _ _=>.any
def MI:List T→List PV
 | []=>[]
 | t::ts=>t.pv::MI ts
def jF(xs:List (List T))(i:Nat):List T:=xs.getD i []
def gy:List T→Bool
 | []=>true
 | .own _ _::_=>false
 | _::ts=>gy ts
def lr:List (List T)→Bool
 | []=>true
 | x::xs=>gy x&&lr xs
def N7:PV→Option T
 | .d x=>some (.leaf x)
 | .aY=>some (.leaf (.bX []))
 | .acc j=>some (.ref j)
 | _=>none
def tm:List PV→Option (List T)
 | []=>some []
 | p::ps=>match N7 p,tm ps with|some x,some xs=>some (x::xs)|_,_=>none
def C8:List T→Nat
 | []=>0
 | _::as=>C8 as+1
theorem vq:∀(l:List T),C8 l=l.length
 | []=>rfl
 | _::as=>by simp[C8,vq as]
theorem IH{xs:List (List T)}{i:Nat}(h:i<xs.length):xs[i]?=some (jF xs i):=by simp[jF,bI,ab h]
section
variable{P:Program}{w:World}{ok:Nat→Prop}{ν:Nat→Nm}{st:Nat→Option En}
theorem fE.pv{t:T}{v:Value}{F:List Nat}(h:fE P w ok ν st t v F):aj w ok ν st t.pv v:=by
 cases t with
 | leaf d=>simp only[fE] at h;simp only[T.pv,aj];exact h.1
 | ref j=>simp only[fE] at h;simp only[T.pv,aj];exact⟨h.1,h.2.1⟩
 | own e xs=>simp only[T.pv,aj]
theorem aA.pv:∀{ts:List T}{vs:List Value}{F:List Nat},aA P w ok ν st ts vs F→ah w ok ν st (MI ts) vs
 | [],[],_,_=>by simp[MI,ah]
 | [],_::_,_,h=>by simp[aA] at h
 | _::_,[],_,h=>by simp[aA] at h
 | t::ts,v::vs,F,h=>by
   simp only[aA] at h
   obtain⟨F1,F2,h1,h2,_⟩:=h
   simp only[MI,ah]
   exact⟨h1.pv,h2.pv⟩
theorem fE.one{t:T}{v:Value}{F:List Nat}(h:fE P w ok ν st t v F)(hν:∀k,(st k).isSome=true→(ν k).v.oneCell'=true):v.oneCell'=true:=by
 cases t with
 | leaf d=>simp only[fE] at h;exact h.1.one
 | ref j=>simp only[fE] at h;rw[h.2.1];exact hν j h.1
 | own e xs=>
   simp only[fE] at h
   obtain⟨us,F1,h1,_⟩:=h
   rcases h1.2 with⟨h2,_⟩|⟨b,c,cur,h2,_⟩<;>rw[h2]<;>rfl
theorem aA.one(hν:∀k,(st k).isSome=true→(ν k).v.oneCell'=true):∀{ts:List T}{vs:List Value}{F:List Nat},aA P w ok ν st ts vs F→∀v∈vs,v.oneCell'=true
 | [],[],_,_,v,hv=>by cases hv
 | [],_::_,_,h,_,_=>by simp[aA] at h
 | _::_,[],_,h,_,_=>by simp[aA] at h
 | t::ts,v::vs,F,h,u,hu=>by
   simp only[aA] at h
   obtain⟨F1,F2,h1,h2,_⟩:=h
   rcases aw.1 hu with rfl|hu
   ·exact h1.one hν
   ·exact aA.one hν h2 u hu
theorem aR.one(hν:∀k,(st k).isSome=true→(ν k).v.oneCell'=true):∀{xs:List (List T)}{us:List (List Value)}{F:List Nat},aR P w ok ν st xs us F→∀u∈us,∀v∈u,v.oneCell'=true
 | [],[],_,_,v,hv=>by cases hv
 | [],_::_,_,h,_,_=>by simp[aR] at h
 | _::_,[],_,h,_,_=>by simp[aR] at h
 | t::ts,v::vs,F,h,u,hu=>by
   simp only[aR] at h
   obtain⟨F1,F2,h1,h2,_⟩:=h
   rcases aw.1 hu with rfl|hu
   ·exact h1.one hν
   ·exact aR.one hν h2 u hu
theorem aA.len:∀{ts:List T}{vs:List Value}{F:List Nat},aA P w ok ν st ts vs F→vs.length=ts.length
 | [],[],_,_=>rfl
 | [],_::_,_,h=>by simp[aA] at h
 | _::_,[],_,h=>by simp[aA] at h
 | t::ts,v::vs,F,h=>by
   simp only[aA] at h
   obtain⟨F1,F2,_,h2,_⟩:=h
   simp[h2.len]
theorem aR.len:∀{ts:List (List T)}{vs:List (List Value)}{F:List Nat},aR P w ok ν st ts vs F→vs.length=ts.length
 | [],[],_,_=>rfl
 | [],_::_,_,h=>by simp[aR] at h
 | _::_,[],_,h=>by simp[aR] at h
 | t::ts,v::vs,F,h=>by
   simp only[aR] at h
   obtain⟨F1,F2,_,h2,_⟩:=h
   simp[h2.len]
theorem aA.append:∀{x y:List T}{u v:List Value}{F G:List Nat},aA P w ok ν st x u F→aA P w ok ν st y v G→aA P w ok ν st (x++y) (u++v) (F++G)
 | [],y,[],v,F,G,h,h'=>by simp only[aA] at h;subst h;simpa using h'
 | [],_,_::_,_,_,_,h,_=>by simp[aA] at h
 | _::_,_,[],_,_,_,h,_=>by simp[aA] at h
 | t::ts,y,a::u,v,F,G,h,h'=>by
   simp only[aA] at h
   obtain⟨F1,F2,h1,h2,rfl⟩:=h
   simp only[bM,aA]
   exact⟨F1,F2++G,h1,h2.append h',by rw[bf]⟩
theorem aR.append:∀{x y:List (List T)}{u v:List (List Value)}{F G:List Nat},aR P w ok ν st x u F→aR P w ok ν st y v G→aR P w ok ν st (x++y) (u++v) (F++G)
 | [],y,[],v,F,G,h,h'=>by simp only[aR] at h;subst h;simpa using h'
 | [],_,_::_,_,_,_,h,_=>by simp[aR] at h
 | _::_,_,[],_,_,_,h,_=>by simp[aR] at h
 | t::ts,y,a::u,v,F,G,h,h'=>by
   simp only[aR] at h
   obtain⟨F1,F2,h1,h2,rfl⟩:=h
   simp only[bM,aR]
   exact⟨F1,F2++G,h1,h2.append h',by rw[bf]⟩
theorem aA.split:∀(n:Nat){x:List T}{u:List Value}{F:List Nat},aA P w ok ν st x u F→∃F1 F2,aA P w ok ν st (x.take n) (u.take n) F1∧aA P w ok ν st (x.drop n) (u.drop n) F2∧F=F1++F2
 | 0,x,u,F,h=>⟨[],F,by simp[aA],by simpa using h,rfl⟩
 | n+1,[],[],F,h=>⟨[],F,by simp[aA],by simpa using h,rfl⟩
 | _+1,[],_::_,_,h=>by simp[aA] at h
 | _+1,_::_,[],_,h=>by simp[aA] at h
 | n+1,t::ts,a::u,F,h=>by
   simp only[aA] at h
   obtain⟨F1,F2,h1,h2,rfl⟩:=h
   obtain⟨G1,G2,k1,k2,rfl⟩:=aA.split n h2
   refine⟨F1++G1,G2,?_,by simpa using k2,by rw[bf]⟩
   simp only[cm,aA]
   exact⟨F1,G1,h1,k1,rfl⟩
theorem vI:∀{x:List T}{u:List Value}{F:List Nat},aA P w ok ν st x u F→gy x=true→F=[]
 | [],[],F,h,_=>by simpa only[aA] using h
 | [],_::_,_,h,_=>by simp[aA] at h
 | _::_,[],_,h,_=>by simp[aA] at h
 | t::ts,a::u,F,h,hn=>by
   simp only[aA] at h
   obtain⟨F1,F2,h1,h2,rfl⟩:=h
   cases t with
   | leaf d=>simp only[fE] at h1;simp only[gy] at hn;rw[h1.2,vI h2 hn];rfl
   | ref j=>simp only[fE] at h1;simp only[gy] at hn;rw[h1.2.2,vI h2 hn];rfl
   | own e xs=>simp[gy] at hn
theorem Cg:∀{x:List (List T)}{u:List (List Value)}{F:List Nat},aR P w ok ν st x u F→lr x=true→F=[]
 | [],[],F,h,_=>by simpa only[aR] using h
 | [],_::_,_,h,_=>by simp[aR] at h
 | _::_,[],_,h,_=>by simp[aR] at h
 | t::ts,a::u,F,h,hn=>by
   simp only[aR] at h
   obtain⟨F1,F2,h1,h2,rfl⟩:=h
   simp only[lr,ae] at hn
   rw[vI h1 hn.1,Cg h2 hn.2]
   rfl
theorem aR.get:∀(i:Nat){xs:List (List T)}{us:List (List Value)}{F:List Nat},aR P w ok ν st xs us F→i<xs.length →
 ∃u G,us[i]?=some u∧aA P w ok ν st (jF xs i) u G∧∀(x':List T)(u':List Value),aA P w ok ν st x' u' G→aR P w ok ν st (xs.set i x') (us.set i u') F
 | _,[],_,_,_,hi=>by simp at hi
 | _,_::_,[],_,h,_=>by simp[aR] at h
 | 0,x::xs,u::us,F,h,_=>by
   simp only[aR] at h
   obtain⟨F1,F2,h1,h2,rfl⟩:=h
   refine⟨u,F1,rfl,h1,fun x' u' h'=>?_⟩
   simp only[iQ,aR]
   exact⟨F1,F2,h',h2,rfl⟩
 | i+1,x::xs,u::us,F,h,hi=>by
   simp only[aR] at h
   obtain⟨F1,F2,h1,h2,rfl⟩:=h
   obtain⟨u1,G,k1,k2,k3⟩:=aR.get i h2 (by simpa using hi)
   refine⟨u1,G,by simpa using k1,by simpa[jF] using k2,fun x' u' h'=>?_⟩
   simp only[iR,aR]
   exact⟨F1,F2,h1,k3 x' u' h',rfl⟩
theorem BE:∀{ps:List PV}{ts:List T},tm ps=some ts→ts.length=ps.length
 | [],ts,h=>by simp[tm] at h;simp[←h]
 | p::ps,ts,h=>by
   simp only[tm] at h
   split at h
   ·rename_i x xs h1 h2
    obtain rfl:=Option.some.inj h
    simp[BE h2]
   ·cases h
theorem AX:∀{ps:List PV}{ts:List T}{vs:List Value},ah w ok ν st ps vs→tm ps=some ts→aA P w ok ν st ts vs []
 | [],ts,[],_,h=>by simp only[tm,Option.some.injEq] at h;subst h;simp only[aA]
 | [],_,_::_,h,_=>by simp[ah] at h
 | _::_,_,[],h,_=>by simp[ah] at h
 | p::ps,ts,v::vs,h,ht=>by
   simp only[tm] at ht
   simp only[ah] at h
   split at ht
   ·rename_i x xs h1 h2
    obtain rfl:=Option.some.inj ht
    simp only[aA]
    refine⟨[],[],?_,AX h.2 h2,rfl⟩
    have hp:=h.1
    cases p<;>simp only[N7] at h1<;>first|(cases h1;done)|skip
    ·obtain rfl:=Option.some.inj h1
     simp only[aj] at hp
     subst hp
     simp only[fE,and_true]
     exact .nil
    ·obtain rfl:=Option.some.inj h1
     simp only[aj] at hp
     simp only[fE,and_true]
     exact hp
    ·obtain rfl:=Option.some.inj h1
     simp only[aj] at hp
     simp only[fE,and_true]
     exact hp
   ·cases ht
theorem AF:∀{xs:List (List D)}{us:List (List Value)}{sz:Nat},bg w ok sz xs us→aR P w ok ν st (lift xs) us []
 | [],us,sz,h=>by
   have:us=[]:=ba h.len
   subst this
   simp only[lift,cP,aR]
 | x::xs,[],sz,h=>by have:=h.len;simp at this
 | x::xs,u::us,sz,h=>by
   have h1:∀(x:List D)(u:List Value),x.length=u.length→(∀(j:Nat)(d:D)(v:Value),x[j]?=some d→u[j]?=some v→dA w ok d v)→aA P w ok ν st (x.map T.leaf) u []:=by
    intro x
    induction x with
    | nil=>intro u hl _;cases u with
      | nil=>simp[aA]
      | cons a b=>simp at hl
    | cons d x ih=>intro u hl hr;cases u with
      | nil=>simp at hl
      | cons v u=>
        simp only[aQ,aA,fE]
        exact⟨[],[],⟨hr 0 d v rfl rfl,rfl⟩,ih u (by simpa using hl) fun j d' v' k1 k2=>hr (j+1) d' v' (by simpa using k1) (by simpa using k2),rfl⟩
   have h2:bg w ok sz xs us:=⟨by simpa using h.len,fun i y hy=>h.hx (i+1) y (by simpa using hy),fun i y hy=>h.hu (i+1) y (by simpa using hy),fun i j y u d v k1 k2 k3 k4=>h.hr (i+1) j y u d v (by simpa using k1) (by simpa using k2) k3 k4⟩
   have:=AF h2
   simp only[lift,aQ,aR] at this⊢
   exact⟨[],[],h1 x u (by rw[h.hx 0 x rfl,h.hu 0 u rfl]) fun j d v k1 k2=>h.hr 0 j x u d v rfl rfl k1 k2,this,rfl⟩
theorem ov{sz:Nat}{us:List (List Value)}(hu:∀(i:Nat)(u:List Value),us[i]?=some u→u.length=sz)(h1:∀u∈us,∀v∈u,v.oneCell'=true):bg w ok sz (us.map fun u=>u.map D.val) us:=by
 refine⟨by simp,fun i x hx=>?_,hu,fun i j x u d v k1 k2 k3 k4=>?_⟩
 ·rw[dH] at hx
  cases hq:us[i]? with
  | none=>rw[hq] at hx;cases hx
  | some u=>rw[hq] at hx;obtain rfl:=Option.some.inj hx;simp[hu i u hq]
 ·rw[dH,k2] at k1
  obtain rfl:=Option.some.inj k1
  rw[dH,k4] at k3
  obtain rfl:=Option.some.inj k3
  exact .val v (h1 u (dx k2) v (dx k4))
end
section
variable{P:Program}{X:Cx}{ν:Nat→Nm}{g:G}{a:Act}{w:World}
theorem nw(h:Sat P X ν g a w){k e:Nat}{xs:List (List T)}(hk:g.at k=some (.cU e xs)):∃us:List (List Value),w.ownsRow 0 e (P.cellsOf e) (ν k).v xs.length us.flatten ∧
 (∀(i:Nat)(u:List Value),us[i]?=some u→u.length=P.cellsOf e)∧aR P w (bm X ν g.at) ν g.at xs us (ν k).f∧xs.length≤LB∧(hb (ν k).v++(ν k).f).Nodup:=by
 obtain⟨h1,h2⟩:=h.en k _ hk
 simp only[fE] at h1
 obtain⟨us,F1,k1,k2,k3,k4,k5⟩:=h1
 have:F1=(ν k).f:=(List.append_cancel_left k5).symm
 exact⟨us,k1,k2,this▸k3,k4,h2⟩
theorem qj{ok:Nat→Prop}{st:Nat→Option En}{k e:Nat}{xs:List (List T)}{us:List (List Value)}(h1:w.ownsRow 0 e (P.cellsOf e) (ν k).v xs.length us.flatten)
 (h2:∀(i:Nat)(u:List Value),us[i]?=some u→u.length=P.cellsOf e) (h3:aR P w ok ν st xs us (ν k).f) (h4:xs.length≤LB) (h5:(hb (ν k).v++(ν k).f).Nodup):fY P w ok ν st k (.cU e xs):=by
 refine⟨?_,h5⟩
 simp only[fE]
 exact⟨us,(ν k).f,h1,h2,h3,h4,rfl⟩
theorem F6(h:Sat P X ν g a w){k e:Nat}{xs:List (List T)}(hk:g.at k=some (.cU e xs)):∃b c,(ν k).v= .slice b xs.length c:=by
 obtain⟨us,ho,_⟩:=nw h hk
 rcases ho.2 with⟨h1,h2⟩|⟨b,cap,cur,h1,_⟩
 ·exact⟨none,0,by rw[h1,h2]⟩
 ·exact⟨_,cap,h1⟩
theorem jT:∀(l:List (Option En))(k:Nat)(x y:Option En),bE (bE l k x) k y=bE l k y
 | [],0,_,_=>rfl
 | [],n+1,x,y=>by simp[bE,jT [] n x y]
 | _::_,0,_,_=>rfl
 | a::as,n+1,x,y=>by simp[bE,jT as n x y]
theorem Sat.lift(h:Sat P X ν g a w){k e:Nat}{xs:List (List D)}(hk:g.at k=some (.acc e xs)):Sat P X ν ⟨g.sl,bE g.st k (some (.cU e (lift xs)))⟩ a w:=by
 have:=h.wU (w':=w) k (.acc e xs) (.cU e (Eng.lift xs)) hk rfl (mK.refl _ w) none .undef Go.undef ?_ (fun h=>by cases h)
 ·exact this
 ·intro hw hm
  obtain⟨us,ho,fj,hB,hf0⟩:=h.en k _ hk
  have hl:(Eng.lift xs).length=xs.length:=by simp[Eng.lift]
  refine qj (us:=us) (by rw[hl];exact ho) (fun i u hu=>fj.hu i u hu) ?_ (by rw[hl];exact hB) ?_
  ·rw[hf0]
   exact AF (fj.frame hw (au _))
  ·rw[hf0,bz]
   unfold hb
   split<;>simp
end
section
variable{E:Env}{g:G}{d:Nat}{ty:TypeId}{pos:String}{cM:Array Edge}{gd:Option (Nat×Bool)}{dn:Option Nat}
theorem BR(x:Operand)(t k i off sz e:Nat)(ti ei:TI)(xs:List (List T))(ht:E.ti t=some ti)(he:E.ti e=some ei)(hsz:sz=ei.n)(hx:g.ev x= .dk k i off sz)(hk:g.at k=some (.cU e xs))
 (hi:i<xs.length) (hl:off+ti.n≤(jF xs i).length) :
 gz E.P ⟨some d,.load t x,ty,pos,cM,gd⟩ g ⟨bV x,[k]⟩ ⟨some (d,EW ti.isAgg (((MI (jF xs i)).drop off).take ti.n)),[]⟩:=by
 intro g2 hg
 have h1:=hg.ev (x:=x) (fun t h=>h)
 have h3:=(hg.p k (by simp)).trans hk
 refine x7.val rfl fun X ν a w hs=>?_
 have hv:=hs.ev x
 rw[h1,hx] at hv
 simp only[aj] at hv
 obtain⟨_,b,n,c,hb,hv⟩:=hv
 obtain⟨us,ho,hul,hr,_⟩:=nw hs h3
 have hcell:=ke ho hb
 rw[(E.ok e ei he).cells] at hul
 obtain⟨u,G,hu,hc,_⟩:=hr.get i hi
 have iy:=hc.pv
 have hlenu:=hc.len
 have hrep':=(iy.drop off).take ti.n
 have db:((u.drop off).take ti.n).length=ti.n:=by simp;omega
 have hca:ff w b (i*ei.n+off) ((u.drop off).take ti.n):=by
  have h0:=hcell.sub (us':=(u.drop off).take ti.n) (i*ei.n+off) (fun j x hx=>by
   rw[cG] at hx
   split at hx
   ·rw[cW] at hx
    have:=qU us i (off+j) u x hul hu hx
    rw[Nat.add_assoc];exact this
   ·cases hx)
  simpa using h0
 subst hsz
 obtain⟨v,jV,hvv⟩:=kp (E.ok t ti ht) w b _ _ db hca
 refine⟨v,?_,pr hrep' hvv⟩
 simp only[execOp,hv,Instr.loadAt,Instr.sureAddr,Sem.run_bind,Sem.run_pure,Result.andThen_ok,jV]
theorem DD(x y:Operand)(s:Nat)(si ei:TI)(e k:Nat)(xs:List (List T))(n:Int)(hs:E.ti s=some si)(jI:si.ty= .slice e)(he:E.ti e=some ei)(hx:g.ev x= .acc k)(hk:g.at k=some (.cU e xs))(hy:g.ev y= .d (.val (.int .i64 n)))
 (h0:0≤n) (jW:n.toNat<xs.length) :
 gz E.P ⟨some d,.indexAddr s x y,ty,pos,cM,gd⟩ g ⟨bV x++bV y,[k]⟩ ⟨some (d,.dk k n.toNat 0 ei.n),[]⟩:=by
 intro g2 hg
 have h1:=hg.ev (x:=x) (fun t h=>by simp[h])
 have h2:=hg.ev (x:=y) (fun t h=>by simp[h])
 have h3:=(hg.p k (by simp)).trans hk
 refine x7.val rfl fun X ν a w hs'=>?_
 have hu:=(E.ok s si hs).ty
 rw[jI] at hu
 have hv:=hs'.ev x
 rw[h1,hx] at hv
 have jH:=hs'.ev y
 rw[h2,hy] at jH
 have jH:=fq jH
 simp only[aj] at hv⊢
 obtain⟨us,ho,_⟩:=nw hs' h3
 rcases ho.2 with⟨_,hn⟩|⟨b,cap,cur,hb,_⟩
 ·omega
 ·have hlt':n<(xs.length:Int):=by omega
  refine⟨.pointer (some ⟨b,n.toNat*ei.n,none⟩),?_,by rw[h3];rfl,b,xs.length,cap,hb,rfl⟩
  simp[execOp,hv.2,hb,jH,Instr.indexAt,asIntOf,run_underlying hu,h0,hlt',(E.ok e ei he).size,add_lit]
theorem DG(x:Operand)(s:Nat)(si:TI)(e' e k:Nat)(xs:List (List T))(hs:E.ti s=some si)(jI:si.ty= .slice e')(hx:g.ev x= .acc k)(hk:g.at k=some (.cU e xs)) :
 gz E.P ⟨some d,.call ⟨.builtin .len,#[x],#[s]⟩,ty,pos,cM,gd⟩ g ⟨bV x,[k]⟩ ⟨some (d,.d (.val (.int .i64 (xs.length:Int)))),[]⟩:=by
 intro g2 hg
 have h1:=hg.ev (x:=x) (fun t h=>h)
 have h3:=(hg.p k (by simp)).trans hk
 refine x7.val rfl fun X ν a w hs'=>?_
 have hu:=(E.ok s si hs).ty
 rw[jI] at hu
 have hv:=hs'.ev x
 rw[h1,hx] at hv
 simp only[aj] at hv
 obtain⟨b,c,hb⟩:=F6 hs' h3
 exact⟨_,oI rfl a w _ (by rw[hv.2,hb];exact run_len_slice hu _ _ _ _ _),iP rfl⟩
theorem rR(x y:Operand)(t k i off sz e:Nat)(ti ei:TI)(xs:List (List T))(p:PV)(cs:List T)(ht:E.ti t=some ti)(he:E.ti e=some ei)(hsz:sz=ei.n)(hx:g.ev x= .dk k i off sz)(hk:g.at k=some (.cU e xs))(hy:g.ev y=p)
 (hi:i<xs.length) (hl:off+ti.n≤ei.n) (hp:p.whole=true) (hn:(cl p).length=ti.n) (hcs:tm (cl p)=some cs) (hno:gy (((jF xs i).drop off).take ti.n)=true) :
 gz E.P ⟨dn,.store t x y,ty,pos,cM,gd⟩ g ⟨bV x++bV y++dn.toList,[k]⟩ ⟨dn.map fun d=>(d,.undef),[(k,.cU e (xs.set i (o0 (jF xs i) off cs)))]⟩:=by
 intro g2 hg
 have e1:=hg.ev (x:=x) (fun t h=>by simp[h])
 have e2:=hg.ev (x:=y) (fun t h=>by simp[h])
 have h3:=(hg.p k (by simp)).trans hk
 intro X ν a w next Q hs hnx
 have hv:=hs.ev x
 rw[e1,hx] at hv
 have hw:=hs.ev y
 rw[e2,hy] at hw
 simp only[aj] at hv
 obtain⟨_,b,n,c,hb,hv⟩:=hv
 obtain⟨us,ho,hul,fj,hB,hnd⟩:=nw hs h3
 have jX:=hw.cells hp hs.nu
 have db:=jX.length
 have htc:=AX (P:=E.P) jX hcs
 rw[(E.ok e ei he).cells] at hul ho
 subst hsz
 rcases ho.2 with⟨h1,h2⟩|⟨b',cap,cur,h1,_,h2,h4,h5,h6,h7⟩
 ·omega
 ·rw[h1] at hb
  obtain⟨rfl,rfl,rfl⟩:b'=b∧xs.length=n∧cap=c:=by simpa using hb
  have hull:us.length=xs.length:=fj.len
  have hfl:=(ov (w:=w) (ok:=fun _=>True) hul (fj.one hs.nu)).hE
  rw[bj] at hfl
  have hmulle:(i+1)*ei.n≤xs.length*ei.n:=aW _ hi
  have hmulle2:xs.length*ei.n≤cap*ei.n:=aW _ h4
  have hadd:(i+1)*ei.n=i*ei.n+ei.n:=by rw[bp];omega
  have hone:∀u∈(a.eval y).cells.toList,u.oneCell'=true:=htc.one hs.nu
  have hvl:(a.eval y).cells.toList.length=ti.n:=by rw[db,hn]
  have jV:=nC (E.ok t ti ht) w b' (i*ei.n+off) e cur (a.eval y) h2 hvl (by omega) hone
  have hr:(execOp a.eval ⟨dn,.store t x y,ty,pos,cM,gd⟩).run E.P w= .ok .skip (w.setRow b' (cur.toList.take (i*ei.n+off)++(a.eval y).cells.toList++cur.toList.drop (i*ei.n+off+(a.eval y).cells.toList.length)).toArray):=by
   simp only[execOp,hv,Instr.storeAt,Instr.sureAddr,Sem.run_bind,Sem.run_pure,Result.andThen_ok,jV]
  have hcur:cur.toList=us.flatten++cur.toList.drop (xs.length*ei.n):=by rw[←h7];exact(gQ _ _).symm
  have hnew:cur.toList.take (i*ei.n+off)++(a.eval y).cells.toList++cur.toList.drop (i*ei.n+off+(a.eval y).cells.toList.length)=(us.set i (o0 (us.getD i []) off (a.eval y).cells.toList)).flatten++cur.toList.drop (xs.length*ei.n):=by
   have:=wu us i off (a.eval y).cells.toList (cur.toList.drop (xs.length*ei.n)) hul (by omega) (by omega)
   rw[←hcur] at this
   rw[←this,bf]
   rfl
  obtain⟨u,G,hu,hc,hset⟩:=fj.get i hi
  have hug:us.getD i []=u:=by simp[bI,hu]
  have huil:=hul i u hu
  have hxil:(jF xs i).length=ei.n:=by rw[←hc.len];exact huil
  have hcsl:cs.length=ti.n:=by rw[BE hcs,hn]
  obtain⟨G1,G2,c1,c2,rfl⟩:=hc.split off
  obtain⟨G3,G4,c3,c4,rfl⟩:=c2.split ti.n
  have hG3:G3=[]:=vI c3 hno
  subst hG3
  have kq:=hset (o0 (jF xs i) off cs) (o0 u off (a.eval y).cells.toList) (by
   unfold o0
   refine c1.append ?_
   refine htc.append ?_
   rw[lV,lV] at c4
   rw[hcsl,hvl]
   exact c4)
  rw[←hug] at kq
  have hul':∀(j:Nat)(z:List Value),(us.set i (o0 (us.getD i []) off (a.eval y).cells.toList))[j]?=some z→z.length=ei.n:=by
   intro j z hz
   rw[fB] at hz
   by_cases hij:i=j
   ·subst hij
    rw[if_pos rfl,if_pos (by omega)] at hz
    obtain rfl:=Option.some.inj hz
    rw[hug,Az _ _ _ (by rw[huil,hvl];exact hl),huil]
   ·rw[if_neg hij] at hz
    exact hul j z hz
  have hf2:=(ov (w:=w) (ok:=fun _=>True) hul' (kq.one hs.nu)).hE
  rw[bj,dm] at hf2
  have hbF:∀b∈(ν k).f,b≠b':=by
   intro b hbf hbe
   rw[h1] at hnd
   exact(gX.1 hnd).2.2 b' (tr.2 rfl) b hbf hbe.symm
  unfold Oper.wp
  rw[hr,Oper.upon_skip,hnew]
  refine hnx _ _ _ (hs.wU k (.cU e xs) (.cU e (xs.set i (o0 (jF xs i) off cs))) h3 rfl (jN w b' _ _ (.inl (by rw[h1];rfl))) dn .undef Go.undef ?_ ?_)
  ·intro hwf hm
   refine qj (us:=us.set i (o0 (us.getD i []) off (a.eval y).cells.toList)) ?_ ?_ ?_ (by simpa using hB) hnd
   ·rw[(E.ok e ei he).cells,h1]
    rw[hull] at hfl hf2
    refine⟨by rw[hf2,dm],.inr ⟨b',cap,_,by simp,cK _,setRow_heap w b' _ _ e _ h2,by simpa using h4,h5,?_,?_⟩⟩
    ·simp only[fx,an,hf2,dU,cL,h6]
     omega
    ·rw[dm,cC (by rw[hf2];exact au _),ao (by rw[hf2];exact au _)]
   ·rw[(E.ok e ei he).cells];exact hul'
   ·refine kq.frame hwf (by simp[World.setRow]) hm _ _ _ fun b hb=>?_
    have n9:=hbF b hb
    exact(jN w b' _ (fun c=>c=b') rfl).block b (fj.lt _ _ _ b hb) n9
  ·intro _
   simp only[aj]
theorem qE:∀(x:List D),gy (x.map T.leaf)=true
 | []=>rfl
 | d::x=>by simp[gy,qE x]
theorem F5:∀{x:List T}(n m:Nat),gy x=true→gy ((x.drop n).take m)=true:=by
 have h1:∀(x:List T)(n:Nat),gy x=true→gy (x.drop n)=true:=by
  intro x
  induction x with
  | nil=>intro n h;simpa using h
  | cons t x ih=>
    intro n h
    cases n with
    | zero=>exact h
    | succ n=>
      cases t with
      | own e xs=>simp[gy] at h
      | leaf d=>exact ih n (by simpa[gy] using h)
      | ref d=>exact ih n (by simpa[gy] using h)
 have h2:∀(x:List T)(n:Nat),gy x=true→gy (x.take n)=true:=by
  intro x
  induction x with
  | nil=>intro n h;simpa using h
  | cons t x ih=>
    intro n h
    cases n with
    | zero=>rfl
    | succ n=>
      cases t with
      | own e xs=>simp[gy] at h
      | leaf d=>simpa[gy] using ih n (by simpa[gy] using h)
      | ref d=>simpa[gy] using ih n (by simpa[gy] using h)
 intro x n m h
 exact h2 _ m (h1 _ n h)
theorem HB(xs:List (List D))(i:Nat):jF (lift xs) i=(row xs i).map T.leaf:=by
 unfold jF lift row
 simp only[List.getD_eq_getElem?_getD,dH]
 cases xs[i]?<;>rfl
theorem ui:∀(xs:List (List D)),lr (lift xs)=true
 | []=>rfl
 | x::xs=>by
   have:=ui xs
   simp only[lift,aQ,lr,ae] at this⊢
   exact⟨qE x,this⟩
theorem Aw(x y:Operand)(t k i off sz e:Nat)(ti ei:TI)(xs:List (List D))(p:PV)(cs:List T)(ht:E.ti t=some ti)(he:E.ti e=some ei)(hsz:sz=ei.n)(hx:g.ev x= .dk k i off sz)(hk:g.at k=some (.acc e xs))(hy:g.ev y=p)
 (hi:i<xs.length) (hl:off+ti.n≤ei.n) (hp:p.whole=true) (hn:(cl p).length=ti.n) (hcs:tm (cl p)=some cs) :
 gz E.P ⟨dn,.store t x y,ty,pos,cM,gd⟩ g ⟨bV x++bV y++dn.toList,[k]⟩ ⟨dn.map fun d=>(d,.undef),[(k,.cU e ((lift xs).set i (o0 (jF (lift xs) i) off cs)))]⟩:=by
 intro g2 hg X ν a w next Q hs hnx
 have e1:=hg.ev (x:=x) (fun t h=>by simp[h])
 have e2:=hg.ev (x:=y) (fun t h=>by simp[h])
 have h3:=(hg.p k (by simp)).trans hk
 have hs2:=hs.lift h3
 have hev:∀z,(⟨g2.sl,bE g2.st k (some (.cU e (lift xs)))⟩:G).ev z=g2.ev z:=fun z=>by cases z<;>rfl
 refine rR (g:=⟨g2.sl,bE g2.st k (some (.cU e (lift xs)))⟩) x y t k i off sz e ti ei (lift xs) p cs ht he hsz (by rw[hev,e1];exact hx) ?_ (by rw[hev,e2];exact hy) (by rw[lO];exact hi) hl hp hn hcs ?_ _ ⟨fun _ _=>rfl,fun _ _=>rfl⟩ X ν a w next Q hs2 ?_
 ·rw[ni,if_pos rfl]
 ·rw[HB]
  exact F5 _ _ (qE _)
 ·intro ν' a' w' h
  refine hnx ν' a' w' ?_
  simpa only[G.app,pb,jT] using h
end
section
variable{E:Env}{g:G}{d:Nat}{ty:TypeId}{pos:String}{cM:Array Edge}{gd:Option (Nat×Bool)}{dn:Option Nat}
def AI(E:Env)(sz:Nat)(g:G)(p:PV)(ys:List (List T)):Prop:=
 (∃ys',oJ E sz g p ys'∧ys=lift ys')∨(∃m e ei,p= .acc m∧g.at m=some (.cU e ys)∧E.ti e=some ei∧ei.n=sz∧lr ys=true)
theorem AI.agree{R:Rd}{g g2:G}(h:rA R g g2){sz:Nat}{p:PV}{ys:List (List T)}(hp:∀k∈pA p,k∈R.p)(ha:AI E sz g p ys):AI E sz g2 p ys:=by
 rcases ha with⟨ys',h1,h2⟩|⟨m,e,ei,rfl,hk,he,hz⟩
 ·exact .inl ⟨ys',h1.agree h hp,h2⟩
 ·exact .inr ⟨m,e,ei,rfl,(h.p m (hp m (by simp[pA]))).trans hk,he,hz⟩
theorem wg{X:Cx}{ν:Nat→Nm}{g:G}{a:Act}{w:World}{sz:Nat}{p:PV}{ys:List (List T)}{v:Value}(h:Sat E.P X ν g a w)(ha:AI E sz g p ys)(hv:aj w (bm X ν g.at) ν g.at p v) :
 ∃vs:List (List Value),aR E.P w (bm X ν g.at) ν g.at ys vs []∧(∀(i:Nat)(u:List Value),vs[i]?=some u→u.length=sz)∧pc w v vs∧ys.length≤LB:=by
 rcases ha with⟨ys',h1,rfl⟩|⟨m,e,ei,rfl,hk,he,hz,hn⟩
 ·obtain⟨vs,h2,h3,h4⟩:=nq (P0:=E.P) h h1 hv
  exact⟨vs,AF h2,h2.hu,h3,by rw[lO];exact h4⟩
 ·simp only[aj] at hv
  obtain⟨us,ho,hul,fj,hB,hnd⟩:=nw h hk
  have hf:=Cg fj hn
  rw[hf] at fj
  refine⟨us,fj,fun i u hu=>by rw[←hz,← (E.ok e ei he).cells];exact hul i u hu,?_,hB⟩
  rw[hv.2]
  have hl:=fj.len
  rcases ho.2 with⟨h1,h2⟩|⟨b,cap,cur,h1,_⟩
  ·left
   refine⟨⟨none,0,h1⟩,ba (by rw[hl];exact h2)⟩
  ·right
   exact⟨b,0,cap,by rw[h1,hl],ke ho h1⟩
theorem xC{v:Value}{F:List Nat}(hF:F.Nodup)(h:∀b,oc v=some b→b∉F):(hb v++F).Nodup:=by
 unfold hb
 cases hv:oc v with
 | none=>simpa using hF
 | some b=>simpa using ⟨h b hv,hF⟩
theorem row_one{w:World}{e sz n:Nat}{v:Value}{us:List Value}(h:w.ownsRow 0 e sz v n us):v.oneCell'=true:=by
 rcases h.2 with⟨h,_⟩|⟨b,c,cur,h,_⟩<;>rw[h]<;>rfl
theorem wG(s x:Operand)(t e k':Nat)(ti ei:TI)(p:PV)(ys:List (List T))(ht:E.ti t=some ti)(fI:ti.ty= .slice e)(he:E.ti e=some ei)(hs:g.ev s= .aY)(hx:g.ev x=p)(ha:AI E ei.n g p ys)(hk':g.at k'=none)
 (hlb:ys.length≤LB) (hby:ys.length*ei.bytes≤140737488355328) :
 gz E.P ⟨some d,.call ⟨.builtin .append,#[s,x],#[t,t]⟩,ty,pos,cM,gd⟩ g ⟨bV s++bV x,k'::pA p⟩ ⟨some (d,.acc k'),[(k',.cU e ys)]⟩:=by
 intro g2 hg
 have e1:=hg.ev (x:=s) (fun t h=>by simp[h])
 have e2:=hg.ev (x:=x) (fun t h=>by simp[h])
 have h3:=(hg.p k' (by simp)).trans hk'
 have ha2:=ha.agree hg (fun k h=>by simp[h])
 intro X ν a w next Q dP hn
 have hv:=dP.ev s
 rw[e1,hs] at hv
 have jH:=dP.ev x
 rw[e2,hx] at jH
 simp only[aj] at hv
 obtain⟨vs,htr,hul,hsl,_⟩:=wg dP ha2 jH
 have hraw:=ov (w:=w) (ok:=fun _=>True) hul (htr.one dP.nu)
 have hl:=htr.len
 obtain⟨v',w',k1,k2,k3,k4⟩:=jo ht fI he w ty (.slice none 0 0) (a.eval x) 0 [] _ vs _ (World.ownsRow_nil w 0 e ei.n) hraw hsl (by simpa[hl] using hlb) (by simpa[hl] using hby)
 have hr:=mo (E:=E) (o:=⟨some d,.call ⟨.builtin .append,#[s,x],#[t,t]⟩,ty,pos,cM,gd⟩) rfl a w w' v' (by rw[hv];exact k1)
 unfold Oper.wp
 rw[hr,Oper.upon_value]
 simp only[bR,bx,bj,hl] at k2
 refine hn _ _ _ (dP.qm (k3.mono fun b hb _=>by simp[oc] at hb) k' h3 (.cU e ys) ⟨v',[]⟩ (row_one k2) (fun b hb=>(k4 b ((gV rfl).1 hb)).resolve_left (by simp[oc])) d _ _ ?_ ?_)
 ·intro ok st ν' hν hw hm
  refine qj (us:=vs) (by rw[hν,(E.ok e ei he).cells];exact k2) (by rw[(E.ok e ei he).cells];exact hul) ?_ hlb (by rw[hν];exact xC List.nodup_nil (by simp))
  rw[hν]
  exact htr.frame hw k3.size hm _ _ _ (by simp)
 ·intro ok st ν' hν dg hw hm
  simp only[aj]
  exact⟨by rw[dg];rfl,by rw[hν]⟩
theorem lx(s x:Operand)(t e k k':Nat)(ti ei:TI)(p:PV)(xs ys:List (List T))(ht:E.ti t=some ti)(fI:ti.ty= .slice e)(he:E.ti e=some ei)(hs:g.ev s= .acc k)(hk:g.at k=some (.cU e xs))(hx:g.ev x=p)(ha:AI E ei.n g p ys)(hk':g.at k'=none)
 (hlb:xs.length+ys.length≤LB) (hby:(xs.length+ys.length)*ei.bytes≤140737488355328) :
 gz E.P ⟨some d,.call ⟨.builtin .append,#[s,x],#[t,t]⟩,ty,pos,cM,gd⟩ g ⟨bV s++bV x,k::k'::pA p⟩ ⟨some (d,.acc k'),[(k,.dead),(k',.cU e (xs++ys))]⟩:=by
 intro g2 hg
 have e1:=hg.ev (x:=s) (fun t h=>by simp[h])
 have e2:=hg.ev (x:=x) (fun t h=>by simp[h])
 have h2:=(hg.p k (by simp)).trans hk
 have h3:=(hg.p k' (by simp)).trans hk'
 have ha2:=ha.agree hg (fun k h=>by simp[h])
 intro X ν a w next Q dP hn
 have hv:=dP.ev s
 rw[e1,hs] at hv
 have jH:=dP.ev x
 rw[e2,hx] at jH
 simp only[aj] at hv
 obtain⟨vs,htr,hul,hsl,_⟩:=wg dP ha2 jH
 have hraw:=ov (w:=w) (ok:=fun _=>True) hul (htr.one dP.nu)
 have hl:=htr.len
 obtain⟨us,dG,huu,hru,hB,hnd⟩:=nw dP h2
 rw[(E.ok e ei he).cells] at dG huu
 obtain⟨v',w',k1,k2,k3,k4⟩:=jo ht fI he w ty (ν k).v (a.eval x) xs.length us.flatten _ vs _ dG hraw hsl (by simpa[hl] using hlb) (by simpa[hl] using hby)
 have hr:=mo (E:=E) (o:=⟨some d,.call ⟨.builtin .append,#[s,x],#[t,t]⟩,ty,pos,cM,gd⟩) rfl a w w' v' (by rw[hv.2];exact k1)
 unfold Oper.wp
 rw[hr,Oper.upon_value]
 simp only[bj,hl] at k2
 have hnd2:=gX.1 hnd
 have hnb:∀b∈(ν k).f,oc (ν k).v≠some b:=fun b hb hc=>hnd2.2.2 b (tr.2 hc) b hb rfl
 have jW:∀b∈(ν k).f,b<w.heap.size:=fun b hb=>hru.lt _ _ _ b hb
 refine hn _ _ _ (dP.move (some k) (fun j hj=>⟨_,by obtain rfl:=Option.some.inj hj;exact h2,rfl⟩) (k3.mono fun b hb _=>⟨k,rfl,.inl hb⟩) k' h3 (.cU e (xs++ys)) ⟨v',(ν k).f⟩ (row_one k2)
  (fun b hb=>hb.elim (fun h=>(k4 b h).imp (fun h=>⟨k,rfl,.inl h⟩) id) fun h=>.inl ⟨k,rfl,.inr h⟩) d _ _ ?_ ?_)
 ·intro ok st ν' hν hw hm
  refine qj (us:=us++vs) ?_ ?_ ?_ (by simpa using hlb) ?_
  ·rw[hν,(E.ok e ei he).cells,an,List.flatten_append];exact k2
  ·rw[(E.ok e ei he).cells]
   intro i u hu
   rcases cF i us.length with hi|hi
   ·rw[aX hi] at hu;exact huu i u hu
   ·rw[aV hi] at hu;exact hul _ u hu
  ·rw[hν]
   have h1:=hru.frame hw k3.size hm _ _ _ fun b hb=>k3.block b (jW b hb) (hnb b hb)
   have h2:=htr.frame hw k3.size hm _ _ _ (by simp)
   have:=h1.append h2
   rwa [bz] at this
  ·rw[hν]
   refine xC hnd2.2.1 fun b hb hm=>?_
   rcases k4 b hb with h|h
   ·exact hnb b hm h
   ·have:=jW b hm;omega
 ·intro ok st ν' hν dg hw hm
  simp only[aj]
  exact⟨by rw[dg];rfl,by rw[hν]⟩
theorem xD(s x:Operand)(t e k k':Nat)(ti ei:TI)(p:PV)(xs:List (List D))(ys:List (List T))(ht:E.ti t=some ti)(fI:ti.ty= .slice e)(he:E.ti e=some ei)(hs:g.ev s= .acc k)(hk:g.at k=some (.acc e xs))(hx:g.ev x=p)(ha:AI E ei.n g p ys)(hk':g.at k'=none)
 (hlb:xs.length+ys.length≤LB) (hby:(xs.length+ys.length)*ei.bytes≤140737488355328) :
 gz E.P ⟨some d,.call ⟨.builtin .append,#[s,x],#[t,t]⟩,ty,pos,cM,gd⟩ g ⟨bV s++bV x,k::k'::pA p⟩ ⟨some (d,.acc k'),[(k,.dead),(k',.cU e (lift xs++ys))]⟩:=by
 intro g2 hg X ν a w next Q hs' hnx
 have e1:=hg.ev (x:=s) (fun t h=>by simp[h])
 have e2:=hg.ev (x:=x) (fun t h=>by simp[h])
 have h3:=(hg.p k (by simp)).trans hk
 have h4:=(hg.p k' (by simp)).trans hk'
 have ha2:=ha.agree hg (fun k h=>by simp[h])
 have hs2:=hs'.lift h3
 have hev:∀z,(⟨g2.sl,bE g2.st k (some (.cU e (lift xs)))⟩:G).ev z=g2.ev z:=fun z=>by cases z<;>rfl
 have hkk:k'≠k:=fun h=>by rw[h,h3] at h4;cases h4
 have ha3:AI E ei.n ⟨g2.sl,bE g2.st k (some (.cU e (lift xs)))⟩ p ys:=by
  rcases ha2 with⟨ys',h1,rfl⟩|⟨m,e',ei',rfl,hm,he',hz,hn⟩
  ·by_cases hp:p= .acc k
   ·subst hp
    rcases h1 with⟨h,_⟩|⟨h,_⟩|⟨m,e',ei',h,hm,he',hz⟩|⟨_,_,h,_⟩
    ·cases h
    ·cases h
    ·obtain rfl:k=m:=by simpa using h
     rw[h3] at hm
     obtain⟨rfl,rfl⟩:e=e'∧xs=ys':=by simpa using hm
     exact .inr ⟨k,e,ei',rfl,by rw[ni,if_pos rfl],he',hz,ui _⟩
    ·cases h
   ·refine .inl ⟨ys',?_,rfl⟩
    rcases h1 with h|h|⟨m,e',ei',h,hm,he',hz⟩|h
    ·exact .inl h
    ·exact .inr (.inl h)
    ·exact .inr (.inr (.inl ⟨m,e',ei',h,by rw[ni,if_neg (fun hc=>hp (by rw[h,hc]))];exact hm,he',hz⟩))
    ·exact .inr (.inr (.inr h))
  ·refine .inr ⟨m,e',ei',rfl,?_,he',hz,hn⟩
   rw[ni,if_neg (fun hc=>by rw[hc,h3] at hm;cases hm)]
   exact hm
 refine lx (g:=⟨g2.sl,bE g2.st k (some (.cU e (lift xs)))⟩) s x t e k k' ti ei p (lift xs) ys ht fI he (by rw[hev,e1];exact hs) (by rw[ni,if_pos rfl]) (by rw[hev,e2];exact hx) ha3 (by rw[ni,if_neg hkk];exact h4)
  (by rw[lO];exact hlb) (by rw[lO];exact hby) _ ⟨fun _ _=>rfl,fun _ _=>rfl⟩ X ν a w next Q hs2 ?_
 intro ν' a' w' h
 refine hnx ν' a' w' ?_
 simpa only[G.app,pb,jT] using h
def yr:List PV→Option (List (List T))
 | []=>some []
 | p::ps=>match p.whole,tm (cl p),yr ps with
   | true,some x,some xs=>some (x::xs)
   | _,_,_=>none
def py(n:Nat):List (List T)→Bool
 | []=>true
 | x::xs=>vW (C8 x) n&&py n xs
theorem Bu:∀{qs:List PV}{rows:List (List T)},yr qs=some rows→rows.length=qs.length
 | [],rows,h=>by simp[yr] at h;simp[←h]
 | q::qs,rows,h=>by
   simp only[yr] at h
   split at h
   ·rename_i h1 h2 h3
    obtain rfl:=Option.some.inj h
    simp[Bu h3]
   ·cases h
def wQ(v:Value):PV:=if(∀u∈v.cells.toList,u.oneCell'=true) then(if v.oneCell'=true then .d (.val v) else .agg (v.cells.toList.map fun u=>.d (.val u))) else .any
theorem Ls{w:World}{ok:Nat→Prop}{ν:Nat→Nm}{st:Nat→Option En}:∀(cs:List Value),(∀u∈cs,u.oneCell'=true)→ah w ok ν st (cs.map fun u=>.d (.val u)) cs
 | [],_=>by simp[ah]
 | u::cs,h=>by
   simp only[aQ,ah,aj]
   exact⟨.val u (h u (by simp)),Ls cs fun u hu=>h u (by simp[hu])⟩
theorem CK:∀(cs:List Value),qc (cs.map fun u=>.d (.val u))=some (cs.map D.val)
 | []=>rfl
 | u::cs=>by simp[qc,Nl,CK cs]
theorem KJ{w:World}{ok:Nat→Prop}{ν:Nat→Nm}{st:Nat→Option En}(v:Value):aj w ok ν st (wQ v) v:=by
 unfold wQ
 by_cases h:∀u∈v.cells.toList,u.oneCell'=true
 ·rw[if_pos h]
  by_cases h1:v.oneCell'=true
  ·rw[if_pos h1]
   simp only[aj]
   exact .val v h1
  ·rw[if_neg h1]
   cases v with
   | agg cs=>simp only[aj];exact⟨_,rfl,Ls _ h⟩
   | _=>exact absurd (h _ (List.mem_singleton.2 rfl)) h1
 ·rw[if_neg h]
  simp only[aj]
theorem JK(v:Value)(h:∀u∈v.cells.toList,u.oneCell'=true):(wQ v).whole=true∧qc (cl (wQ v))=some (v.cells.toList.map D.val):=by
 unfold wQ
 rw[if_pos h]
 by_cases h1:v.oneCell'=true
 ·rw[if_pos h1,rq h1]
  exact⟨rfl,rfl⟩
 ·rw[if_neg h1]
  exact⟨rfl,CK _⟩
theorem BC(ρ:Operand→Value):∀(ps:List (Nat×Operand)),(∀x∈ps,∀u∈(ρ x.2).cells.toList,u.oneCell'=true)→rowsOf (ps.map fun x=>wQ (ρ x.2))=some (ps.map fun x=>(ρ x.2).cells.toList.map D.val)
 | [],_=>rfl
 | x::ps,h=>by
   obtain⟨h1,h2⟩:=JK (ρ x.2) (h x (by simp))
   simp only[aQ,rowsOf]
   rw[if_pos h1,h2,BC ρ ps fun y hy=>h y (by simp[hy])]
theorem xK(ρ:Operand→Value)(n:Nat):∀(ps:List (Nat×Operand)),(∀x∈ps,(ρ x.2).cells.toList.length=n)→mG n (ps.map fun x=>(ρ x.2).cells.toList.map D.val)=true
 | [],_=>rfl
 | x::ps,h=>by
   have:=h x (by simp)
   simp only[aQ,mG,ae,bj,beq_iff_eq]
   exact⟨this,xK ρ n ps fun y hy=>h y (by simp[hy])⟩
theorem Mb{w:World}{ok:Nat→Prop}{sz:Nat}{vs us:List (List Value)}(hv:∀v∈vs,v.length=sz)(h:bg w ok sz (vs.map fun u=>u.map D.val) us):us=vs:=by
 have hl:=h.len
 rw[bj] at hl
 refine List.ext_getElem hl fun i h1 h2=>?_
 have e1:(vs.map fun u=>u.map D.val)[i]?=some (vs[i].map D.val):=by simp[ab h2]
 have e2:=ab h1
 have l1:=h.hu i _ e2
 have l2:=hv _ (List.getElem_mem h2)
 refine List.ext_getElem (by rw[l1,l2]) fun j h3 h4=>?_
 exact(h.hr i j _ _ (.val vs[i][j]) _ e1 e2 (by simp[ab h4]) (ab h3)).vm
theorem H9{t e:Nat}{ti ei:TI}(ht:E.ti t=some ti)(fI:ti.ty= .slice e)(he:E.ti e=some ei)(a:Act)(w:World)(ps:List (Nat×Operand))(hup:yU 0 (ps.map (·.1))=true)
 (h1:∀x∈ps,∀u∈(a.eval x.2).cells.toList,u.oneCell'=true) (h2:∀x∈ps,(a.eval x.2).cells.toList.length=ei.n) (hbig:ps.length*ei.n≤16777216) {o:Oper} (ho:o.op= .buildSlice t ps.length ⟨ps⟩) :
 (execOp a.eval o).run E.P w= .ok (.value (.slice (some ⟨w.heap.size,0,none⟩) ps.length ps.length)) (w.alloc (.cells ⟨(ps.map fun x=>(a.eval x.2).cells.toList).flatten⟩ e)):=by
 obtain⟨i,z,k1,k2,k4,k5,k6,k7⟩:=(E.ok e ei he).info
 have hu:=(E.ok t ti ht).ty
 rw[fI] at hu
 have hpos:=(E.ok e ei he).pos
 have key:∀init:Array Value,init.size=ps.length*ei.n→Instr.fill (fun i=>some (i*ei.n,ei.n)) init (ps.map fun x=>(x.1,a.eval x.2))=some ⟨(ps.map fun x=>(a.eval x.2).cells.toList).flatten⟩:=by
  intro init hi
  obtain⟨us,m1,m2⟩:=te (w:=w) (ok:=fun _=>True) (ν:=fun _=>⟨.bool false,[]⟩) (st:=fun _=>none) (fun _ h=>by cases h) ei.n (fun x=>wQ (a.eval x)) a.eval (fun x=>KJ _) ps 0 [] init _ hup (BC a.eval ps h1) (xK a.eval ei.n ps h2) (by simp) (by simp) (by simpa using hi)
  have e1:(ps.map fun x=>(a.eval x.2).cells.toList.map D.val)=(ps.map fun x=>(a.eval x.2).cells.toList).map fun u=>u.map D.val:=by simp
  rw[e1] at m2
  have:=Mb (by
   intro v hv
   obtain⟨x,hx,rfl⟩:=bO.1 hv
   exact h2 x hx) m2
  subst this
  simpa using m1
 by_cases hz:ps.length*ei.n=0
 ·have m1:=key ((Array.range 0).map fun _=>default) (by rw[Array.size_map,Array.size_range,hz])
  simp only[execOp,ho,dT,Instr.buildSlice,Sem.run_bind,run_underlying hu,Result.andThen_ok,(E.ok e ei he).size w,hz]
  simp[m1,newRow]
 ·have m1:=key ((Array.range (ps.length*ei.n)).map (z.cells[· % z.cells.size]!)) (by simp)
  have hn:¬ps.length*ei.n>16777216:=by omega
  simp only[execOp,ho,dT,Instr.buildSlice,Sem.run_bind,run_underlying hu,Result.andThen_ok,(E.ok e ei he).size w]
  simp[hn,hz,zeroValue,typeInfo,k1,k5,m1,newRow]
theorem EE{w:World}{ok:Nat→Prop}{ν:Nat→Nm}{st:Nat→Option En}(hν:∀k,(st k).isSome=true→(ν k).v.oneCell'=true)(ev:Operand→PV)(ρ:Operand→Value)(hev:∀x,aj w ok ν st (ev x) (ρ x))(n:Nat) :
 ∀(ps:List (Nat×Operand))(rows:List (List T)),yr (ps.map fun x=>ev x.2)=some rows→py n rows=true →
  aR E.P w ok ν st rows (ps.map fun x=>(ρ x.2).cells.toList) []∧(∀x∈ps,∀u∈(ρ x.2).cells.toList,u.oneCell'=true)∧(∀x∈ps,(ρ x.2).cells.toList.length=n)
 | [],rows,h,_=>by
   simp only[cP,yr,Option.some.injEq] at h
   subst h
   exact⟨by simp[aR],by simp,by simp⟩
 | x::ps,rows,h,hl=>by
   simp only[aQ,yr] at h
   split at h
   ·rename_i row rows' h1 h2 h3
    obtain rfl:=Option.some.inj h
    simp only[py,ae] at hl
    have hl1:=nj hl.1
    rw[vq] at hl1
    obtain⟨k1,k2,k3⟩:=EE hν ev ρ hev n ps rows' h3 hl.2
    have hc:=(hev x.2).cells h1 hν
    have ht:=AX (P:=E.P) hc h2
    refine⟨?_,?_,?_⟩
    ·simp only[aQ,aR]
     exact⟨[],[],ht,k1,rfl⟩
    ·intro y hy
     rcases aw.1 hy with rfl|hy
     ·exact ht.one hν
     ·exact k2 y hy
    ·intro y hy
     rcases aw.1 hy with rfl|hy
     ·rw[ht.len];exact hl1
     ·exact k3 y hy
   ·cases h
theorem Ea(t e n k:Nat)(ps:List (Nat×Operand))(ti ei:TI)(rows:List (List T))(ht:E.ti t=some ti)(fI:ti.ty= .slice e)(he:E.ti e=some ei)(hn:n=ps.length)(hup:yU 0 (ps.map (·.1))=true)
 (hr:yr (ps.map fun x=>g.ev x.2)=some rows) (db:py ei.n rows=true) (hbig:ps.length*ei.n≤16777216) (hk:g.at k=none) :
 gz E.P ⟨some d,.buildSlice t n ⟨ps⟩,ty,pos,cM,gd⟩ g ⟨ps.flatMap fun x=>bV x.2,[k]⟩ ⟨some (d,.acc k),[(k,.cU e rows)]⟩:=by
 subst hn
 intro g2 hg
 have hmap:ps.map (fun x=>g2.ev x.2)=ps.map (fun x=>g.ev x.2):=by
  apply ik
  intro x hx
  rw[hg.ev (x:=x.2) (fun t h=>jZ.2 ⟨x,hx,h⟩)]
 have h3:=(hg.p k (by simp)).trans hk
 rw[←hmap] at hr
 intro X ν a w next Q hs hnx
 obtain⟨htr,m1,m2⟩:=EE hs.nu g2.ev a.eval hs.ev ei.n ps rows hr db
 have jV:=H9 ht fI he a w ps hup m1 m2 hbig (o:=⟨some d,.buildSlice t ps.length ⟨ps⟩,ty,pos,cM,gd⟩) rfl
 have hpos:=(E.ok e ei he).pos
 have hrl:=Bu hr
 simp only[bj] at hrl
 have hle:ps.length≤16777216:=dX (jg _ hpos) hbig
 have hul:∀(i:Nat)(u:List Value),(ps.map fun x=>(a.eval x.2).cells.toList)[i]?=some u→u.length=ei.n:=by
  intro i u hu
  obtain⟨x,hx,rfl⟩:=bO.1 (dx hu)
  exact m2 x hx
 have hfl:=(ov (w:=w) (ok:=fun _=>True) hul (htr.one hs.nu)).hE
 simp only[bj] at hfl
 unfold Oper.wp
 rw[jV,Oper.upon_value]
 have kq:=World.ownsRow_lit w (e:=e) (⟨(ps.map fun x=>(a.eval x.2).cells.toList).flatten⟩:Array Value) rows.length (base:=0) (size:=ei.n) (cK _) (by simp only[maxLen];omega) (by rw[hrl];simpa using hfl)
 refine hnx _ _ _ (hs.qm (fU w _) k h3 (.cU e rows) ⟨.slice (some ⟨w.heap.size,0,none⟩) ps.length ps.length,[]⟩ rfl (fun b hb=>?_) d _ _ ?_ ?_)
 ·obtain rfl:w.heap.size=b:=by simpa[Nm.has,oc] using hb
  exact au _
 ·intro ok st ν' hν hw hm
  refine qj (us:=ps.map fun x=>(a.eval x.2).cells.toList) ?_ (by rw[(E.ok e ei he).cells];exact hul) ?_ (by unfold LB;omega) (by rw[hν];exact xC List.nodup_nil (by simp))
  ·rw[hν,(E.ok e ei he).cells,←hrl]
   exact kq
  ·rw[hν]
   exact htr.frame hw (fU w _).size hm _ _ _ (by simp)
 ·intro ok st ν' hν dg hw hm
  simp only[aj]
  exact⟨by rw[dg];rfl,by rw[hν]⟩
end
def Lr:Nat→List T→List T
 | 0,_=>[]
 | _+1,[]=>[]
 | n+1,a::as=>a::Lr n as
theorem CW:∀(n:Nat)(l:List T),Lr n l=l.take n
 | 0,l=>by simp[Lr]
 | n+1,[]=>by simp[Lr]
 | n+1,a::as=>by simp[Lr,CW n as]
def Lu:Nat→List T→List T
 | 0,l=>l
 | _+1,[]=>[]
 | n+1,_::as=>Lu n as
theorem C6:∀(n:Nat)(l:List T),Lu n l=l.drop n
 | 0,l=>by simp[Lu]
 | n+1,[]=>by simp[Lu]
 | n+1,a::as=>by simp[Lu,C6 n as]
def MS:List T→List T→List T
 | [],ys=>ys
 | x::xs,ys=>x::MS xs ys
theorem HC:∀(xs ys:List T),MS xs ys=xs++ys
 | [],ys=>rfl
 | x::xs,ys=>by simp[MS,HC xs ys]
def KM(cs:List T)(off:Nat)(vs:List T):List T:=MS (Lr off cs) (MS vs (Lu (off+C8 vs) cs))
theorem K5(cs:List T)(off:Nat)(vs:List T):KM cs off vs=o0 cs off vs:=by
 simp only[KM,o0,HC,CW,C6,vq]
def AK(g:G)(d:Nat)(c x y:Operand):qv:=
 match g.ev c with
 | .d (.val (.bool true))=>.go ⟨bV c++bV x,[]⟩ ⟨some (d,g.ev x),[]⟩
 | .d (.val (.bool false))=>.go ⟨bV c++bV y,[]⟩ ⟨some (d,g.ev y),[]⟩
 | _=>.stop
def wZ(E:Env)(g:G)(d:Nat)(t:TypeId):qv:=
 match E.ti t with
 | some ti=>.go ⟨[],[g.new]⟩ ⟨some (d,.ptr g.new 0),[(g.new,.box ti.zero)]⟩
 | none=>.stop
def Dw(g:G)(d:Nat)(x:Operand):qv:=
 match(g.ev x).whole with
 | true=>.go ⟨bV x,[g.new]⟩ ⟨some (d,.ptr g.new 0),[(g.new,.box (cl (g.ev x)))]⟩
 | false=>.stop
def vy(E:Env)(g:G)(d:Nat)(t:TypeId)(x:Operand):qv:=
 match E.ti t with
 | none=>.stop
 | some ti=>
   match g.ev x with
   | .ptr k off=>
     match g.at k with
     | some (.box cs)=>match pw (off+ti.n) (oZ cs) with
       | true=>.go ⟨bV x,[k]⟩ ⟨some (d,EW ti.isAgg (tk ti.n (dr off cs))),[]⟩
       | false=>.stop
     | _=>.stop
   | .da xs i off=>.jj (pw (off+ti.n) (Ao (row xs i))=true) ⟨bV x,[]⟩ ⟨some (d,EW ti.isAgg (tk ti.n (dr off (eZ (row xs i))))),[]⟩
   | .dk k i off sz=>
     match g.at k with
     | some (.acc e xs)=>match E.ti e with
       | some ei=>.jj (vW sz ei.n=true∧i<xs.length∧pw (off+ti.n) (Ao (row xs i))=true) ⟨bV x,[k]⟩ ⟨some (d,EW ti.isAgg (tk ti.n (dr off (eZ (row xs i))))),[]⟩
       | none=>.stop
     | some (.cU e xs)=>match E.ti e with
       | some ei=>.jj (vW sz ei.n=true∧i<xs.length∧pw (off+ti.n) (C8 (jF xs i))=true) ⟨bV x,[k]⟩ ⟨some (d,EW ti.isAgg (tk ti.n (dr off (MI (jF xs i))))),[]⟩
       | none=>.stop
     | _=>.stop
   | _=>.stop
def zX(E:Env)(g:G)(d:Nat)(s:TypeId)(x:Operand)(f:Nat):qv:=
 match E.ti s with
 | none=>.stop
 | some si=>match si.ty with
   | .struct fs=>match Dq fs f with
     | some (_,fo,_)=>match g.ev x with
       | .ptr k off=>.go ⟨bV x,[]⟩ ⟨some (d,.ptr k (off+fo)),[]⟩
       | .da xs i off=>.go ⟨bV x,[]⟩ ⟨some (d,.da xs i (off+fo)),[]⟩
       | .dk k i off sz=>.go ⟨bV x,[]⟩ ⟨some (d,.dk k i (off+fo) sz),[]⟩
       | _=>.stop
     | none=>.stop
   | _=>.stop
def rX(E:Env)(g:G)(d:Nat)(s:TypeId)(x:Operand)(f:Nat):qv:=
 match E.ti s with
 | none=>.stop
 | some si=>match si.ty with
   | .struct fs=>match Dq fs f with
     | some (ft,fo,_)=>match E.ti ft with
       | none=>.stop
       | some fi=>match g.ev x with
         | .agg cs=>match pw (fo+fi.n) (oZ cs) with
           | true=>.go ⟨bV x,[]⟩ ⟨some (d,EW fi.isAgg (tk fi.n (dr fo cs))),[]⟩
           | false=>.stop
         | _=>.stop
     | none=>.stop
   | _=>.stop
def vn(E:Env)(g:G)(d:Nat)(s:TypeId)(x y:Operand):qv:=
 match E.ti s with
 | none=>.stop
 | some si=>match g.ev y with
   | .d (.val (.int .i64 n))=>match si.ty with
     | .slice e=>match E.ti e with
       | none=>.stop
       | some ei=>match g.ev x with
         | .d (.bX xs)=>.jj (0≤n∧n.toNat<xs.length∧vW (Ao (row xs n.toNat)) ei.n=true) ⟨bV x++bV y,[]⟩ ⟨some (d,.da xs n.toNat 0),[]⟩
         | .acc k=>match g.at k with
           | some (.acc e' xs)=>match eA e e' with
             | true=>.jj (0≤n∧n.toNat<xs.length) ⟨bV x++bV y,[k]⟩ ⟨some (d,.dk k n.toNat 0 ei.n),[]⟩
             | false=>.stop
           | some (.cU e' xs)=>match eA e e' with
             | true=>.jj (0≤n∧n.toNat<xs.length) ⟨bV x++bV y,[k]⟩ ⟨some (d,.dk k n.toNat 0 ei.n),[]⟩
             | false=>.stop
           | _=>.stop
         | _=>.stop
     | .arr len e=>match E.ti e with
       | none=>.stop
       | some ei=>match g.ev x with
         | .ptr k off=>.jj (0≤n∧n.toNat<len) ⟨bV x++bV y,[]⟩ ⟨some (d,.ptr k (off+n.toNat*ei.n)),[]⟩
         | _=>.stop
     | _=>.stop
   | _=>.stop
def AU(E:Env)(g:G)(d:Nat)(s:TypeId)(x y:Operand):qv:=
 match E.ti s with
 | none=>.stop
 | some si=>match g.ev y with
   | .d (.val (.int .i64 n))=>match si.ty with
     | .str=>match g.ev x with
       | .d (.str l)=>.jj (0≤n∧n.toNat<l.length) ⟨bV x++bV y,[]⟩ ⟨some (d,.d (.val (.int .u8 ((l.getD n.toNat 0).toNat:Int)))),[]⟩
       | _=>.stop
     | _=>.stop
   | _=>.stop
def EA(g:G)(d:Nat)(u:UnOp)(x:Operand):qv:=
 match u,g.ev x with
 | .not,.d (.val (.bool m))=>.go ⟨bV x,[]⟩ ⟨some (d,.d (.val (.bool (!m)))),[]⟩
 | .neg,.d (.val (.int .i64 m))=>.jj (Gy (-m)) ⟨bV x,[]⟩ ⟨some (d,.d (.val (.int .i64 (-m)))),[]⟩
 | _,_=>.stop
def vG(E:Env)(g:G)(d:Nat)(s t:TypeId)(x:Operand):qv:=
 match E.ti s,E.ti t with
 | some si,some ti=>match si.ty,ti.ty,g.ev x with
   | .int k,.int k',.d (.val (.int k2 m))=>match H2 k k2 with
     | true=>.go ⟨bV x,[]⟩ ⟨some (d,.d (.val (.int k' (k'.wrap m)))),[]⟩
     | false=>.stop
   | _,_,_=>.stop
 | _,_=>.stop
def rn(E:Env)(g:G)(d:Nat)(t:TypeId)(ps:List (Nat×Operand)):qv:=
 match E.ti t with
 | none=>.stop
 | some ti=>match ti.ty with
   | .struct fs=>match Bl (M5 fs) ti.zero (ND g ps) with
     | some r=>.go ⟨Mz ps,[]⟩ ⟨some (d,.agg r),[]⟩
     | none=>.stop
   | _=>.stop
def A7(E:Env)(g:G)(d:Nat)(t:TypeId)(n:Nat)(ps:List (Nat×Operand)):qv:=
 match E.ti t with
 | none=>.stop
 | some ti=>match ti.ty with
   | .slice e=>match E.ti e with
     | none=>.stop
     | some ei=>match ps with
       | []=>match n with
         | 0=>.go ⟨[],[g.new]⟩ ⟨some (d,.acc g.new),[(g.new,.acc e [])]⟩
         | _=>.stop
       | p::ps=>match eA n (Eo (p::ps)),yU 0 (M4 (p::ps)),rowsOf (MU g (p::ps)) with
         | true,true,some rows=>match mG ei.n rows,pw (Eo (p::ps)) 64,pw ei.n 64 with
           | true,true,true=>.go ⟨Mz (p::ps),[]⟩ ⟨some (d,.d (.bX rows)),[]⟩
           | _,_,_=>.stop
         | true,true,none=>match yr (MU g (p::ps)) with
           | none=>.stop
           | some rows=>match py ei.n rows,pw (Eo (p::ps)) 64,pw ei.n 64 with
             | true,true,true=>.go ⟨Mz (p::ps),[g.new]⟩ ⟨some (d,.acc g.new),[(g.new,.cU e rows)]⟩
             | _,_,_=>.stop
         | _,_,_=>.stop
   | _=>.stop
def vj(E:Env)(g:G)(d:Nat)(t:TypeId)(l c:Operand):qv:=
 match E.ti t with
 | none=>.stop
 | some ti=>match ti.ty with
   | .slice e=>match E.ti e with
     | none=>.stop
     | some ei=>match qc ei.zero,g.ev l,g.ev c with
       | some z,.d (.val (.int .i64 n)),.d (.val (.int .i64 n'))=>.jj (n'=n∧0≤n∧n.toNat≤LB∧ei.bytes*n.toNat≤281474976710656) ⟨bV l++bV c,[g.new]⟩ ⟨some (d,.acc g.new),[(g.new,.acc e (List.replicate n.toNat z))]⟩
       | _,_,_=>.stop
   | _=>.stop
def LK(g:G)(dflt:Int):Option Operand→Option Int
 | none=>some dflt
 | some x=>match g.ev x with
   | .d (.val (.int _ i))=>some i
   | _=>none
theorem Bf{g:G}{d i:Int}{o:Option Operand}(h:LK g d o=some i):OI g o d i:=by
 cases o with
 | none=>exact(Option.some.inj h).symm
 | some x=>
   simp only[LK] at h
   split at h
   ·rename_i k j hj
    obtain rfl:=Option.some.inj h
    exact⟨k,hj⟩
   ·cases h
def zO(E:Env)(g:G)(d:Nat)(t:TypeId)(x:Operand)(lo hi mx:Option Operand):qv:=
 match mx,E.ti t with
 | none,some ti=>match ti.ty,g.ev x with
   | .slice e,.d (.bX xs)=>match E.ti e,LK g 0 lo,LK g xs.length hi with
     | some ei,some l,some h=>.jj (0≤l∧l≤h∧h≤xs.length∧∀y∈xs,y.length=ei.n) ⟨bV x++(Jo lo++Jo hi),[]⟩ ⟨some (d,.d (.bX ((xs.drop l.toNat).take (h.toNat-l.toNat)))),[]⟩
     | _,_,_=>.stop
   | .str,.d (.str s)=>match LK g 0 lo,LK g s.length hi with
     | some l,some h=>.jj (0≤l∧l≤h∧h≤s.length) ⟨bV x++(Jo lo++Jo hi),[]⟩ ⟨some (d,.d (.str ((s.drop l.toNat).take (h.toNat-l.toNat)))),[]⟩
     | _,_=>.stop
   | _,_=>.stop
 | _,_=>.stop
def zY(g:G)(d:Nat)(x:Operand):qv:=
 match g.ev x with
 | .ptr k off=>.go ⟨bV x,[]⟩ ⟨some (d,.ptr k off),[]⟩
 | .da xs i off=>.go ⟨bV x,[]⟩ ⟨some (d,.da xs i off),[]⟩
 | .dk k i off sz=>.go ⟨bV x,[]⟩ ⟨some (d,.dk k i off sz),[]⟩
 | _=>.stop
def zS(g:G)(d:Nat)(x:Operand)(i:Nat):qv:=
 match g.ev x with
 | .gL ps=>match F8 ps i with
   | some p=>.go ⟨bV x,[]⟩ ⟨some (d,p),[]⟩
   | none=>.stop
 | _=>.stop
def AY(E:Env)(g:G)(d:Nat)(s:TypeId)(x:Operand):qv:=
 match E.ti s with
 | none=>.stop
 | some si=>match si.ty,g.ev x with
   | .slice _,.d (.bX xs)=>.go ⟨bV x,[]⟩ ⟨some (d,.d (.val (.int .i64 (xs.length:Int)))),[]⟩
   | .slice _,.aY=>.go ⟨bV x,[]⟩ ⟨some (d,.d (.val (.int .i64 0))),[]⟩
   | .slice _,.acc k=>match g.at k with
     | some (.acc _ xs)=>.go ⟨bV x,[k]⟩ ⟨some (d,.d (.val (.int .i64 (xs.length:Int)))),[]⟩
     | some (.cU _ xs)=>.go ⟨bV x,[k]⟩ ⟨some (d,.d (.val (.int .i64 (xs.length:Int)))),[]⟩
     | _=>.stop
   | .str,.d (.str l)=>.go ⟨bV x,[]⟩ ⟨some (d,.d (.val (.int .i64 (l.length:Int)))),[]⟩
   | _,_=>.stop
def vg(E:Env)(g:G)(p:PV):Option (List (List D)×Option TypeId):=
 match p with
 | .aY=>some ([],none)
 | .d (.bX ys)=>some (ys,none)
 | .acc k=>match g.at k with
   | some (.acc e ys)=>some (ys,some e)
   | _=>none
 | .d (.val (.slice (some _) 0 _))=>some ([],none)
 | _=>none
def Cy(E:Env)(sz:Nat)(p:PV)(ys:List (List D)):Option TypeId→Prop
 | none=>∀y∈ys,y.length=sz
 | some e=>∃ei,E.ti e=some ei∧ei.n=sz
theorem qq{E:Env}{g:G}{p:PV}{ys:List (List D)}{o:Option TypeId}{sz:Nat}(h:vg E g p=some (ys,o))(ho:Cy E sz p ys o):oJ E sz g p ys:=by
 unfold vg at h
 split at h
 ·obtain⟨rfl,rfl⟩:[]=ys∧none=o:=by simpa using h
  exact .inl ⟨rfl,rfl⟩
 ·obtain⟨rfl,rfl⟩:_=ys∧none=o:=by simpa using h
  exact .inr (.inl ⟨rfl,ho⟩)
 ·split at h
  ·rename_i e ys' hk
   obtain⟨rfl,rfl⟩:_=ys∧some e=o:=by simpa using h
   obtain⟨ei,h1,h2⟩:=ho
   exact .inr (.inr (.inl ⟨_,e,ei,rfl,hk,h1,h2⟩))
  ·cases h
 ·obtain⟨rfl,rfl⟩:[]=ys∧none=o:=by simpa using h
  exact .inr (.inr (.inr ⟨_,_,rfl,rfl⟩))
 ·cases h
def vJ(g:G)(p:PV):Option (List (List T)×TypeId):=
 match p with
 | .acc k=>match g.at k with
   | some (.cU e ys)=>some (ys,e)
   | _=>none
 | _=>none
theorem qi{E:Env}{g:G}{p:PV}{ys:List (List T)}{e:TypeId}{ei:TI}(h:vJ g p=some (ys,e))(he:E.ti e=some ei)(hn:lr ys=true):AI E ei.n g p ys:=by
 unfold vJ at h
 split at h
 ·rename_i k
  split at h
  ·rename_i e' ys' hk
   obtain⟨rfl,rfl⟩:ys'=ys∧e'=e:=by simpa using h
   exact .inr ⟨k,e',ei,rfl,hk,he,rfl,hn⟩
  ·cases h
 ·cases h
def vf(g:G)(d:Nat)(s x:Operand)(e:TypeId)(ei:TI):qv:=
 match vJ g (g.ev x) with
 | none=>.stop
 | some (ys,e2)=>match eA e e2 with
   | false=>.stop
   | true=>match g.ev s with
     | .aY=>.jj (lr ys=true∧ys.length≤LB∧ys.length*ei.bytes≤140737488355328) ⟨bV s++bV x,g.new::pA (g.ev x)⟩ ⟨some (d,.acc g.new),[(g.new,.cU e ys)]⟩
     | .acc k=>match g.at k with
       | some (.acc e' xs)=>match eA e e' with
         | true=>.jj (lr ys=true∧xs.length+ys.length≤LB∧(xs.length+ys.length)*ei.bytes≤140737488355328) ⟨bV s++bV x,k::g.new::pA (g.ev x)⟩ ⟨some (d,.acc g.new),[(k,.dead),(g.new,.cU e (lift xs++ys))]⟩
         | false=>.stop
       | some (.cU e' xs)=>match eA e e' with
         | true=>.jj (lr ys=true∧xs.length+ys.length≤LB∧(xs.length+ys.length)*ei.bytes≤140737488355328) ⟨bV s++bV x,k::g.new::pA (g.ev x)⟩ ⟨some (d,.acc g.new),[(k,.dead),(g.new,.cU e (xs++ys))]⟩
         | false=>.stop
       | _=>.stop
     | _=>.stop
def Ab(E:Env)(g:G)(d:Nat)(s x:Operand)(t t':TypeId):qv:=
 match eA t t',E.ti t with
 | true,some ti=>match ti.ty with
   | .slice e=>match E.ti e,vg E g (g.ev x) with
     | some ei,some (ys,o)=>match g.ev s with
       | .aY=>.jj (Cy E ei.n (g.ev x) ys o∧ys.length≤LB∧ys.length*ei.bytes≤140737488355328) ⟨bV s++bV x,g.new::pA (g.ev x)⟩ ⟨some (d,.acc g.new),[(g.new,.acc e ys)]⟩
       | .acc k=>match g.at k with
         | some (.acc e' xs)=>match eA e e' with
           | true=>.jj (Cy E ei.n (g.ev x) ys o∧xs.length+ys.length≤LB∧(xs.length+ys.length)*ei.bytes≤140737488355328) ⟨bV s++bV x,k::g.new::pA (g.ev x)⟩ ⟨some (d,.acc g.new),[(k,.dead),(g.new,.acc e (xs++ys))]⟩
           | false=>.stop
         | some (.cU e' xs)=>match eA e e' with
           | true=>.jj (Cy E ei.n (g.ev x) ys o∧xs.length+ys.length≤LB∧(xs.length+ys.length)*ei.bytes≤140737488355328) ⟨bV s++bV x,k::g.new::pA (g.ev x)⟩ ⟨some (d,.acc g.new),[(k,.dead),(g.new,.cU e (xs++lift ys))]⟩
           | false=>.stop
         | _=>.stop
       | _=>.stop
     | some ei,none=>vf g d s x e ei
     | _,_=>.stop
   | _=>.stop
 | _,_=>.stop
def oq(E:Env)(g:G)(dn:Option Nat)(t:TypeId)(x y:Operand):qv:=
 match E.ti t with
 | none=>.stop
 | some ti=>match g.ev x with
   | .ptr k off=>match g.at k with
     | some (.box cs)=>match pw (off+ti.n) (oZ cs),(g.ev y).whole,eA (oZ (cl (g.ev y))) ti.n,nN (cl (g.ev y)) with
       | true,true,true,true=>.go ⟨bV x++bV y++dn.toList,[k]⟩ ⟨dn.map fun d=>(d,.undef),[(k,.box (Dz cs off (cl (g.ev y))))]⟩
       | _,_,_,_=>.stop
     | _=>.stop
   | .dk k i off sz=>match g.at k with
     | some (.acc e xs)=>match E.ti e,(g.ev y).whole,eA (oZ (cl (g.ev y))) ti.n,qc (cl (g.ev y)) with
       | some ei,true,true,some cs=>.jj (vW sz ei.n=true∧i<xs.length∧pw (off+ti.n) ei.n=true) ⟨bV x++bV y++dn.toList,[k]⟩ ⟨dn.map fun d=>(d,.undef),[(k,.acc e (xs.set i (o0 (row xs i) off cs)))]⟩
       | some ei,true,true,none=>match tm (cl (g.ev y)) with
         | none=>.stop
         | some cs=>.jj (vW sz ei.n=true∧i<xs.length∧pw (off+ti.n) ei.n=true) ⟨bV x++bV y++dn.toList,[k]⟩ ⟨dn.map fun d=>(d,.undef),[(k,.cU e ((lift xs).set i (o0 (jF (lift xs) i) off cs)))]⟩
       | _,_,_,_=>.stop
     | some (.cU e xs)=>match E.ti e,(g.ev y).whole,eA (oZ (cl (g.ev y))) ti.n,tm (cl (g.ev y)) with
       | some ei,true,true,some cs=>.jj (vW sz ei.n=true∧i<xs.length∧pw (off+ti.n) ei.n=true∧gy (Lr ti.n (Lu off (jF xs i)))=true) ⟨bV x++bV y++dn.toList,[k]⟩ ⟨dn.map fun d=>(d,.undef),[(k,.cU e (xs.set i (KM (jF xs i) off cs)))]⟩
       | _,_,_,_=>.stop
     | _=>.stop
   | _=>.stop
def sx:List Operand→List Nat
 | []=>[]
 | x::xs=>bV x++sx xs
theorem pg:∀(l:List Operand),sx l=l.flatMap bV
 | []=>rfl
 | x::xs=>by simp[sx,pg xs]
def FV(g:G):List Operand→List PV
 | []=>[]
 | x::xs=>g.ev x::FV g xs
theorem sT(g:G):∀(l:List Operand),FV g l=l.map g.ev
 | []=>rfl
 | x::xs=>by simp[FV,sT g xs]
def Fi(g:G)(d:Nat)(fn:Fn)(first cs:List Operand):qv:=
 match fn,first with
 | .func f,[]=>.go ⟨sx cs,[]⟩ ⟨some (d,.fn f (FV g cs)),[]⟩
 | _,_=>.stop
def vk(E:Env)(g:G)(d:Nat)(callee:Callee)(args:List Operand)(tys:List TypeId):qv:=
 match callee with
 | .builtin b=>match b,args,tys with
   | .len,[x],[s]=>AY E g d s x
   | .append,[s,x],[t,t']=>Ab E g d s x t t'
   | _,_,_=>.stop
 | _=>.stop
def Fl(E:Env)(g:G)(d:Nat):Op→qv
 | .move x=>.go ⟨bV x,[]⟩ ⟨some (d,g.ev x),[]⟩
 | .assign x=>.go ⟨bV x,[]⟩ ⟨some (d,g.ev x),[]⟩
 | .pick c x y=>AK g d c x y
 | .alloc t=>wZ E g d t
 | .box _ x=>Dw g d x
 | .load t x=>vy E g d t x
 | .fieldAddr s x f=>zX E g d s x f
 | .field s x f=>rX E g d s x f
 | .indexAddr s x y=>vn E g d s x y
 | .index s x y=>AU E g d s x y
 | .store t x y=>oq E g (some d) t x y
 | .binOp b t x y _=>NY E g d b t x y
 | .unOp u _ x=>EA g d u x
 | .convert s t x=>vG E g d s t x
 | .makeFunc fn first cs=>Fi g d fn first.toList cs.toList
 | .build t ps=>rn E g d t ps.toList
 | .buildSlice t n ps=>A7 E g d t n ps.toList
 | .makeSlice t l c=>vj E g d t l c
 | .slice t x lo hi mx=>zO E g d t x lo hi mx
 | .nilCheck x=>zY g d x
 | .extract x i=>zS g d x i
 | .call c=>vk E g d c.callee c.args.toList c.argTypes.toList
 | _=>.stop
def Mw(E:Env)(g:G)(o:Oper):qv:=
 match o.dst,o.op with
 | some d,op=>Fl E g d op
 | none,.store t x y=>oq E g none t x y
 | none,_=>.stop
section
variable{E:Env}{g:G}{d:Nat}{ty:TypeId}{pos:String}{cM:Array Edge}{gd:Option (Nat×Bool)}{dn:Option Nat}
theorem C7(t:TypeId)(x:Operand):(vy E g d t x).Ok E.P ⟨some d,.load t x,ty,pos,cM,gd⟩ g:=by
 unfold vy
 split
 ·trivial
 ·rename_i ti ht
  split
  ·rename_i k off hx
   split
   ·rename_i cs hk
    split
    ·rename_i hl
     have hl:=fV hl
     rw[jy] at hl
     simp only[zw,zH]
     exact BX x t k off ti cs ht hx hk hl
    ·trivial
   ·trivial
  ·rename_i xs i off hx
   simp only[zw,zH]
   exact fun h=>A5 x t i off ti xs _ ht hx rfl (Ew h)
  ·rename_i k i off sz hx
   split
   ·rename_i e xs hk
    split
    ·rename_i ei he
     simp only[zw,zH]
     exact fun h=>Ac x t k i off sz e ti ei xs _ ht he (nj h.1) hx hk h.2.1 rfl (Ew h.2.2)
    ·trivial
   ·rename_i e xs hk
    split
    ·rename_i ei he
     simp only[zw,zH]
     exact fun h=>BR x t k i off sz e ti ei xs ht he (nj h.1) hx hk h.2.1 (by have:=fV h.2.2;rwa [vq] at this)
    ·trivial
   ·trivial
  ·trivial
theorem FC(s:TypeId)(x:Operand)(f:Nat):(zX E g d s x f).Ok E.P ⟨some d,.fieldAddr s x f,ty,pos,cM,gd⟩ g:=by
 unfold zX
 split
 ·trivial
 ·rename_i si hs
  split
  ·rename_i fs jI
   split
   ·rename_i ft fo fz hf
    rw[zT] at hf
    split
    ·rename_i hx;exact DB x s f _ _ si fs ft fo fz hs jI hf hx
    ·rename_i hx;exact B6 x s f _ _ _ si fs ft fo fz hs jI hf hx
    ·rename_i hx;exact BA x s f _ _ _ _ si fs ft fo fz hs jI hf hx
    ·trivial
   ·trivial
  ·trivial
theorem Bv(s:TypeId)(x:Operand)(f:Nat):(rX E g d s x f).Ok E.P ⟨some d,.field s x f,ty,pos,cM,gd⟩ g:=by
 unfold rX
 split
 ·trivial
 ·rename_i si hs
  split
  ·rename_i fs jI
   split
   ·rename_i ft fo fz hf
    rw[zT] at hf
    split
    ·trivial
    ·rename_i fi hfi
     split
     ·rename_i cs hx
      split
      ·rename_i hl
       have hl:=fV hl
       rw[jy] at hl
       simp only[zw,zH]
       exact Gz x s f si fs ft fo fz fi cs hs jI hf hfi hx hl
      ·trivial
     ·trivial
   ·trivial
  ·trivial
theorem Di(s:TypeId)(x y:Operand):(vn E g d s x y).Ok E.P ⟨some d,.indexAddr s x y,ty,pos,cM,gd⟩ g:=by
 unfold vn
 split
 ·trivial
 ·rename_i si hs
  split
  ·rename_i n hy
   split
   ·rename_i e jI
    split
    ·trivial
    ·rename_i ei he
     split
     ·rename_i xs hx
      exact fun h=>CS x y s si ei e xs n hs jI he hx hy h.1 h.2.1 (J1 h.2.2)
     ·rename_i k hx
      split
      ·rename_i e' xs hk
       split
       ·rename_i hee
        obtain rfl:=aZ hee
        exact fun h=>CU x y s si ei e k xs n hs jI he hx hk hy h.1 h.2
       ·trivial
      ·rename_i e' xs hk
       split
       ·rename_i hee
        obtain rfl:=aZ hee
        exact fun h=>DD x y s si ei e k xs n hs jI he hx hk hy h.1 h.2
       ·trivial
      ·trivial
     ·trivial
   ·rename_i len e jI
    split
    ·trivial
    ·rename_i ei he
     split
     ·rename_i k off hx
      exact fun h=>C4 x y s si ei e len k off n hs jI he hx hy h.1 h.2
     ·trivial
   ·trivial
  ·trivial
theorem Fx(s:TypeId)(x y:Operand):(AU E g d s x y).Ok E.P ⟨some d,.index s x y,ty,pos,cM,gd⟩ g:=by
 unfold AU
 split
 ·trivial
 ·rename_i si hs
  split
  ·rename_i n hy
   split
   ·rename_i jI
    split
    ·rename_i l hx
     exact fun h=>Dc x y s si l n hs jI hx hy h.1 h.2
    ·trivial
   ·trivial
  ·trivial
theorem Hw(u:UnOp)(t:TypeId)(x:Operand):(EA g d u x).Ok E.P ⟨some d,.unOp u t x,ty,pos,cM,gd⟩ g:=by
 unfold EA
 split
 ·rename_i m hx;exact MP x m t hx
 ·rename_i m hx;exact fun h=>L1 x m t hx h
 ·trivial
theorem D8(s t:TypeId)(x:Operand):(vG E g d s t x).Ok E.P ⟨some d,.convert s t x,ty,pos,cM,gd⟩ g:=by
 unfold vG
 split
 ·rename_i si ti hs ht
  split
  ·rename_i k k' k2 m jI fI hx
   split
   ·rename_i hk
    obtain rfl:=Bc hk
    exact Ke x k k' m s t si ti hs jI ht fI hx
   ·trivial
  ·trivial
 ·trivial
theorem BN(t:TypeId)(ps:Array (Nat×Operand)):(rn E g d t ps.toList).Ok E.P ⟨some d,.build t ps,ty,pos,cM,gd⟩ g:=by
 unfold rn
 split
 ·trivial
 ·rename_i ti ht
  split
  ·rename_i fs fI
   split
   ·rename_i r hr
    have hr:=E6 _ _ _ _ hr
    rw[IG,IZ] at hr
    rw[Ax]
    exact HY t ps.toList ti fs r ht fI hr
   ·trivial
  ·trivial
theorem FD(t:TypeId)(n:Nat)(ps:Array (Nat×Operand)):(A7 E g d t n ps.toList).Ok E.P ⟨some d,.buildSlice t n ps,ty,pos,cM,gd⟩ g:=by
 obtain⟨ps⟩:=ps
 simp only
 unfold A7
 split
 ·trivial
 ·rename_i ti ht
  split
  ·rename_i e fI
   split
   ·trivial
   ·rename_i ei he
    split
    ·split
     ·exact DE t e 0 g.new [] ti ei [] ht fI he rfl rfl rfl rfl (by simp) g.gv
     ·trivial
    ·rename_i p ps
     split
     ·rename_i rows h1 h2 h3
      split
      ·rename_i h4 h5 h6
       have h1:=aZ h1
       have h5:=fV h5
       have h6:=fV h6
       rw[AG] at h1 h5
       rw[Dr] at h2
       rw[DK] at h3
       rw[Ax]
       exact IX t e n (p::ps) ti ei rows ht fI he h1 h2 h3 h4 (dX (Nat.mul_le_mul h5 h6) (by omega))
      ·trivial
     ·rename_i h1 h2 _
      split
      ·trivial
      ·rename_i rows h3
       split
       ·rename_i h4 h5 h6
        have h1:=aZ h1
        have h5:=fV h5
        have h6:=fV h6
        rw[AG] at h1 h5
        rw[Dr] at h2
        rw[DK] at h3
        rw[Ax]
        exact Ea t e n g.new (p::ps) ti ei rows ht fI he h1 h2 h3 h4 (dX (Nat.mul_le_mul h5 h6) (by omega)) g.gv
       ·trivial
     ·trivial
  ·trivial
theorem Ek(t:TypeId)(l c:Operand):(vj E g d t l c).Ok E.P ⟨some d,.makeSlice t l c,ty,pos,cM,gd⟩ g:=by
 unfold vj
 split
 ·trivial
 ·rename_i ti ht
  split
  ·rename_i e fI
   split
   ·trivial
   ·rename_i ei he
    split
    ·rename_i z n n' hz hl hc
     rintro⟨rfl,h1,h2,h3⟩
     exact KI l c t e g.new ti ei n' z ht fI he hz hl hc g.gv h1 h2 h3
    ·trivial
  ·trivial
theorem Gt(t:TypeId)(x:Operand)(lo hi mx:Option Operand):(zO E g d t x lo hi mx).Ok E.P ⟨some d,.slice t x lo hi mx,ty,pos,cM,gd⟩ g:=by
 unfold zO
 split
 ·rename_i ti ht
  split
  ·rename_i e xs fI hx
   split
   ·rename_i ei l h he hl hh
    exact fun k=>CQ x lo hi t e ti ei xs _ l h ht fI he hx (Bf hl) (Bf hh) k.1 k.2.1 k.2.2.1 k.2.2.2 rfl
   ·trivial
  ·rename_i s fI hx
   split
   ·rename_i l h hl hh
    exact fun k=>CR x lo hi t ti s _ l h ht fI hx (Bf hl) (Bf hh) k.1 k.2.1 k.2.2 rfl
   ·trivial
  ·trivial
 ·trivial
theorem Gn(x:Operand):(zY g d x).Ok E.P ⟨some d,.nilCheck x,ty,pos,cM,gd⟩ g:=by
 unfold zY
 split
 ·rename_i hx;exact uO x _ _ hx
 ·rename_i hx;exact tx x _ _ _ hx
 ·rename_i hx;exact tg x _ _ _ _ hx
 ·trivial
theorem Gf(x:Operand)(i:Nat):(zS g d x i).Ok E.P ⟨some d,.extract x i,ty,pos,cM,gd⟩ g:=by
 unfold zS
 split
 ·rename_i ps hx
  split
  ·rename_i p hp
   rw[E1] at hp
   exact C1 x i ps p hx hp
  ·trivial
 ·trivial
theorem FA(s:TypeId)(x:Operand):(AY E g d s x).Ok E.P ⟨some d,.call ⟨.builtin .len,#[x],#[s]⟩,ty,pos,cM,gd⟩ g:=by
 unfold AY
 split
 ·trivial
 ·rename_i si hs
  split
  ·rename_i e xs jI hx;exact Dj x s si e xs hs jI hx
  ·rename_i e jI hx;exact DJ x s si e hs jI hx
  ·rename_i e k jI hx
   split
   ·rename_i e' xs hk;exact DF x s si e e' k xs hs jI hx hk
   ·rename_i e' xs hk;exact DG x s si e e' k xs hs jI hx hk
   ·trivial
  ·rename_i l jI hx;exact Dv x s si l hs jI hx
  ·trivial
theorem DN(s x:Operand)(t e:TypeId)(ti ei:TI)(ht:E.ti t=some ti)(fI:ti.ty= .slice e)(he:E.ti e=some ei):(vf g d s x e ei).Ok E.P ⟨some d,.call ⟨.builtin .append,#[s,x],#[t,t]⟩,ty,pos,cM,gd⟩ g:=by
 unfold vf
 split
 ·trivial
 ·rename_i ys e2 hr
  split
  ·trivial
  ·rename_i h2
   obtain rfl:=aZ h2
   split
   ·rename_i hs
    exact fun h=>wG s x t e g.new ti ei _ ys ht fI he hs rfl (qi hr he h.1) g.gv h.2.1 h.2.2
   ·rename_i k hs
    split
    ·rename_i e' xs hk
     split
     ·rename_i hee
      obtain rfl:=aZ hee
      exact fun h=>xD s x t e k g.new ti ei _ xs ys ht fI he hs hk rfl (qi hr he h.1) g.gv h.2.1 h.2.2
     ·trivial
    ·rename_i e' xs hk
     split
     ·rename_i hee
      obtain rfl:=aZ hee
      exact fun h=>lx s x t e k g.new ti ei _ xs ys ht fI he hs hk rfl (qi hr he h.1) g.gv h.2.1 h.2.2
     ·trivial
    ·trivial
   ·trivial
theorem Gr(s x:Operand)(t t':TypeId):(Ab E g d s x t t').Ok E.P ⟨some d,.call ⟨.builtin .append,#[s,x],#[t,t']⟩,ty,pos,cM,gd⟩ g:=by
 unfold Ab
 split
 ·rename_i ti htt ht
  obtain rfl:=aZ htt
  split
  ·rename_i e fI
   split
   ·rename_i ei ys o he hap
    split
    ·rename_i hs
     exact fun h=>yd s x t e g.new ti ei _ ys ht fI he hs rfl (qq hap h.1) g.gv h.2.1 h.2.2
    ·rename_i k hs
     split
     ·rename_i e' xs hk
      split
      ·rename_i hee
       obtain rfl:=aZ hee
       exact fun h=>yy s x t e k g.new ti ei _ xs ys ht fI he hs hk rfl (qq hap h.1) g.gv h.2.1 h.2.2
      ·trivial
     ·rename_i e' xs hk
      split
      ·rename_i hee
       obtain rfl:=aZ hee
       exact fun h=>lx s x t e k g.new ti ei _ xs (lift ys) ht fI he hs hk rfl (.inl ⟨ys,qq hap h.1,rfl⟩) g.gv (by rw[lO];exact h.2.1) (by rw[lO];exact h.2.2)
      ·trivial
     ·trivial
    ·trivial
   ·rename_i ei he _
    exact DN s x t e ti ei ht fI he
   ·trivial
  ·trivial
 ·trivial
theorem uc(t:TypeId)(x y:Operand):(oq E g dn t x y).Ok E.P ⟨dn,.store t x y,ty,pos,cM,gd⟩ g:=by
 unfold oq
 split
 ·trivial
 ·rename_i ti ht
  split
  ·rename_i k off hx
   split
   ·rename_i cs hk
    split
    ·rename_i h1 h2 h3 h4
     have h1:=fV h1
     have h3:=aZ h3
     rw[jy] at h1 h3
     rw[AE _ _ _ (by omega)]
     exact Ai x y t k off ti cs _ ht hx hk rfl h1 h2 h3 h4
    ·trivial
   ·trivial
  ·rename_i k i off sz hx
   split
   ·rename_i e xs hk
    split
    ·rename_i ei cs he h2 h3 h4
     have h3:=aZ h3
     rw[jy] at h3
     exact fun h=>yl x y t k i off sz e ti ei xs _ cs ht he (nj h.1) hx hk rfl h.2.1 (fV h.2.2) h2 h3 h4
    ·rename_i ei he h2 h3 _
     have h3:=aZ h3
     rw[jy] at h3
     split
     ·trivial
     ·rename_i cs h4
      exact fun h=>Aw x y t k i off sz e ti ei xs _ cs ht he (nj h.1) hx hk rfl h.2.1 (fV h.2.2) h2 h3 h4
    ·trivial
   ·rename_i e xs hk
    split
    ·rename_i ei cs he h2 h3 h4
     have h3:=aZ h3
     rw[jy] at h3
     simp only[CW,C6,K5]
     exact fun h=>rR x y t k i off sz e ti ei xs _ cs ht he (nj h.1) hx hk rfl h.2.1 (fV h.2.2.1) h2 h3 h4 h.2.2.2
    ·trivial
   ·trivial
  ·trivial
theorem GD(fn:Fn)(first cs:Array Operand):(Fi g d fn first.toList cs.toList).Ok E.P ⟨some d,.makeFunc fn first cs,ty,pos,cM,gd⟩ g:=by
 obtain⟨first⟩:=first
 obtain⟨cs⟩:=cs
 unfold Fi
 split
 ·rename_i f h
  simp only at h
  subst h
  rw[pg,sT]
  exact BP _ _
 ·trivial
theorem CV(c:Call):(vk E g d c.callee c.args.toList c.argTypes.toList).Ok E.P ⟨some d,.call c,ty,pos,cM,gd⟩ g:=by
 obtain⟨callee,⟨args⟩,⟨tys⟩⟩:=c
 unfold vk
 split
 ·split
  ·rename_i h1 h2
   simp only at h1 h2
   subst h1 h2
   rename_i h
   simp only at h
   subst h
   exact FA _ _
  ·rename_i h1 h2
   simp only at h1 h2
   subst h1 h2
   rename_i h
   simp only at h
   subst h
   exact Gr _ _ _ _
  ·trivial
 ·trivial
theorem Hh(op:Op):(Fl E g d op).Ok E.P ⟨some d,op,ty,pos,cM,gd⟩ g:=by
 unfold Fl
 split
 ·exact AW _
 ·exact FT _
 ·unfold AK
  split
  ·rename_i hc;exact Es _ _ _ true hc
  ·rename_i hc;exact Es _ _ _ false hc
  ·trivial
 ·unfold wZ
  split
  ·rename_i ti ht;exact HZ _ g.new ti ht g.gv
  ·trivial
 ·unfold Dw
  split
  ·rename_i hw;exact ME _ _ g.new g.gv hw
  ·trivial
 ·exact C7 _ _
 ·exact FC _ _ _
 ·exact Bv _ _ _
 ·exact Di _ _ _
 ·exact Fx _ _ _
 ·exact uc _ _ _
 ·exact LW _ _ _ _ _
 ·exact Hw _ _ _
 ·exact D8 _ _ _
 ·exact GD _ _ _
 ·exact BN _ _
 ·exact FD _ _ _
 ·exact Ek _ _ _
 ·exact Gt _ _ _ _ _
 ·exact Gn _
 ·exact Gf _ _
 ·exact CV _
 ·trivial
theorem LQ(o:Oper):(Mw E g o).Ok E.P o g:=by
 obtain⟨dst,op,ty,pos,cM,gd⟩:=o
 unfold Mw
 split
 ·rename_i d h
  obtain rfl:dst=some d:=h
  exact Hh op
 ·rename_i t x y h1 h2
  obtain rfl:dst=none:=h1
  obtain rfl:op= .store t x y:=h2
  exact uc _ _ _
 ·trivial
end
inductive ll where
 | on
 | off
def L4:Bool→(ll→Prop)→(ll→Prop)→Prop
 | true,a,_=>a .on
 | false,_,b=>b .on
theorem Nf(a b:ll→Prop):L4 true a b=a .on:=rfl
theorem Nd(a b:ll→Prop):L4 false a b=b .on:=rfl
theorem Fq{c:Bool}{a b:ll→Prop}(ht:c=true→a .on)(hf:c=false→b .on):L4 c a b:=by
 cases c
 ·exact hf rfl
 ·exact ht rfl
theorem pk{c:Bool}{a b:ll→Prop}(h:L4 c a b):(c=true∧a .on)∨(c=false∧b .on):=by
 cases c
 ·exact .inr ⟨rfl,h⟩
 ·exact .inl ⟨rfl,h⟩
def snoc:List Ky→Ky→List Ky
 | [],k=>[k]
 | a::as,k=>a::snoc as k
theorem E9:∀(l:List Ky)(k:Ky),snoc l k=l++[k]
 | [],_=>rfl
 | a::as,k=>by simp[snoc,E9 as k]
def ja:Option (List Ky)→Ky→Option (List Ky)
 | none,_=>none
 | some l,k=>some (snoc l k)
def WM(P:Program)(ops:Array Oper):Option (List Ky)→List Oper→G→(G→Prop)→Prop
 | none,os,g,K=>WO P ops os g K
 | some pre,os,g,K=>WD P ops os pre g K
theorem vD{P:Program}{ops:Array Oper}{m:Option (List Ky)}{o:Oper}{os:List Oper}{g:G}{K:G→Prop}{R:Rd}{δ:Dl}(h:ya P ops o g R δ)(hr:WM P ops (ja m (jM R δ)) os (g.app δ) K):WM P ops m (o::os) g K:=by
 cases m with
 | none=>exact vu h hr
 | some pre=>
   simp only[ja,E9] at hr
   exact Js h hr
def oh:Option Nat→Rd→Rd
 | none,R=>R
 | some t,R=>⟨t::R.s,R.p⟩
def qT(P:Program)(g g':G):Prop:=∀(X:Cx)(ν:Nat→Nm)(a:Act)(w:World),Sat P X ν g a w→∃ν',Sat P X ν' g' a w
theorem qT.trans{P:Program}{g g1 g2:G}(h:qT P g g1)(h':qT P g1 g2):qT P g g2:=fun X ν a w hs=>
 let ⟨ν1,h1⟩:=h X ν a w hs
 h' X ν1 a w h1
theorem Kh{P:Program}{ops:Array Oper}{os:List Oper}{g g':G}{K:G→Prop}(hw:qT P g g')(h:WO P ops os g' K):WO P ops os g K:=fun i hi X ν a w Q hs hn=>
 let ⟨ν',hs'⟩:=hw X ν a w hs
 h i hi X ν' a w Q hs' hn
def ob(E:Env)(m:Option (List Ky))(gs:Option Nat)(o:Oper)(g:G)(rest:ll→Option (List Ky)→G→Prop):Prop:=
 (∃R δ,gz E.P o g R δ∧rest .on (ja m (jM (oh gs R) δ)) (g.app δ)) ∨
 (m=none∧gs=none∧∃g',qT E.P g g'∧∃R δ,gz E.P o g' R δ∧rest .on none (g'.app δ))
theorem l8{E:Env}{m:Option (List Ky)}{gs:Option Nat}{o:Oper}{g:G}{rest:ll→Option (List Ky)→G→Prop}{R:Rd}{δ:Dl}(h:gz E.P o g R δ)(hr:rest .on (ja m (jM (oh gs R) δ)) (g.app δ)):ob E m gs o g rest:=.inl ⟨R,δ,h,hr⟩
def y9(E:Env)(m:Option (List Ky))(gs:Option Nat)(o:Oper)(g:G)(rest:ll→Option (List Ky)→G→Prop):qv→Prop
 | .go R δ=>rest .on (ja m (jM (oh gs R) δ)) (g.app δ)
 | .jj φ R δ=>φ∧rest .on (ja m (jM (oh gs R) δ)) (g.app δ)
 | .stop=>ob E m gs o g rest
theorem Co{E:Env}{m:Option (List Ky)}{gs:Option Nat}{o:Oper}{g:G}{rest:ll→Option (List Ky)→G→Prop}(h:y9 E m gs o g rest (Mw E g o)):ob E m gs o g rest:=by
 have hk:=LQ (E:=E) (g:=g) o
 generalize Mw E g o=s at h hk
 cases s with
 | go R δ=>exact .inl ⟨R,δ,hk,h⟩
 | jj φ R δ=>exact .inl ⟨R,δ,hk h.1,h.2⟩
 | stop=>exact h
def Mx(E:Env)(m:Option (List Ky))(t:Nat)(o:Oper)(g:G)(rest:ll→Option (List Ky)→G→Prop):ll→Prop
 | .on=>y9 E m (some t) o g rest (Mw E g o)
 | .off=>False
def Jf(m:Option (List Ky))(t:Nat)(g:G)(rest:ll→Option (List Ky)→G→Prop):Option Nat→ll→Prop
 | some d,.on=>rest .on (ja m ⟨[t],[],[d],[]⟩) (g.app ⟨some (d,.undef),[]⟩)
 | _,_=>False
def lQ:PV→Bool→(ll→Prop)→(ll→Prop)→Prop
 | .d (.val (.bool c)),true,yes,no=>L4 c yes no
 | .d (.val (.bool c)),false,yes,no=>L4 c no yes
 | .undef,_,_,no=>no .on
 | _,_,_,_=>False
def MQ:List Oper→Nat→Option Nat
 | [],_=>none
 | o::_,0=>o.dst
 | _::os,n+1=>MQ os n
theorem HU:∀(l:List Oper)(n:Nat),MQ l n=(l[n]?).bind (·.dst)
 | [],n=>by simp[MQ]
 | o::_,0=>rfl
 | _::os,n+1=>by simp[MQ,HU os n]
def MA(all:List Oper)(g:G)(K:ll→G→Prop):Option (List Ky)→Prop
 | none=>K .on g
 | some pre=>indep all pre=true∧K .on g
def KQ(E:Env)(all:List Oper)(m:Option (List Ky))(o:Oper)(g:G)(rest:ll→Option (List Ky)→G→Prop):Option (Nat×Bool)→Prop
 | none=>y9 E m none o g rest (Mw E g o)
 | some (j,b)=>match MQ all j with
   | none=>False
   | some t=>lQ (nth g.sl t) b (Mx E m t o g rest) (Jf m t g rest o.dst)
def run(E:Env)(all:List Oper)(K:ll→G→Prop):List Oper→ll→Option (List Ky)→G→Prop
 | [],.on,m,g=>MA all g K m
 | o::os,.on,m,g=>KQ E all m o g (run E all K os) o.guard
 | [],.off,_,_=>False
 | _::_,.off,_,_=>False
theorem DC{E:Env}{ops:Array Oper}{K:ll→G→Prop}:∀(os:List Oper)(m:Option (List Ky))(g:G),run E ops.toList K os .on m g→WM E.P ops m os g (K .on)
 | [],none,g,h=>GR h
 | [],some pre,g,h=>Mf h.1 h.2
 | o::os,m,g,h=>by
   have ih:=DC (E:=E) (ops:=ops) (K:=K) os
   simp only[run] at h
   cases hg:o.guard with
   | none=>
     rw[hg] at h
     rcases Co h with⟨R,δ,h1,h2⟩|⟨rfl,_,g',hw,R,δ,h1,h2⟩
     ·exact vD (ya.plain hg h1) (ih _ _ h2)
     ·exact Kh hw (vu (ya.plain hg h1) (ih _ _ h2))
   | some jb=>
     obtain⟨j,b⟩:=jb
     rw[hg] at h
     simp only[KQ] at h
     split at h
     ·exact h.elim
     ·rename_i t ht
      have hj:ua ops j=some t:=by
       rw[HU] at ht
       unfold ua
       rw[←ht]
       simp
      have hyes:∀c,nth g.sl t= .d (.val (.bool c))→c=b→Mx E m t o g (run E ops.toList K os) .on→WM E.P ops m (o::os) g (K .on):=by
       intro c hc Oj hd
       subst Oj
       rcases Co hd with⟨R,δ,h1,h2⟩|⟨_,h0,_⟩
       rotate_left
       ·cases h0
       exact vD (ya.run hg hj hc h1) (ih _ _ h2)
      have hno:∀c,nth g.sl t= .d (.val (.bool c))→c≠b→Jf m t g (run E ops.toList K os) o.dst .on→WM E.P ops m (o::os) g (K .on):=by
       intro c hc Oj hd
       cases hdst:o.dst with
       | none=>rw[hdst] at hd;exact hd.elim
       | some d=>
         rw[hdst] at hd
         exact vD (ya.skip hg hj hc Oj hdst) (ih _ _ hd)
      cases hv:nth g.sl t<;>rw[hv] at h<;>first
       | (simp only[lQ] at h;done)
       | skip
      ·simp only[lQ] at h
       cases hdst:o.dst with
       | none=>rw[hdst] at h;exact h.elim
       | some d=>
         rw[hdst] at h
         exact vD (ya.NO hg hj hv hdst) (ih _ _ h)
      ·rename_i x
       cases x with
       | str s=>simp only[lQ] at h
       | bX s=>simp only[lQ] at h
       | val v=>
         cases v<;>first
          | (simp only[lQ] at h;done)
          | skip
         rename_i c
         cases b with
         | true=>
           simp only[lQ] at h
           rcases pk h with⟨h1,h2⟩|⟨h1,h2⟩
           ·exact hyes c hv h1 h2
           ·exact hno c hv (by rw[h1];simp) h2
         | false=>
           simp only[lQ] at h
           rcases pk h with⟨h1,h2⟩|⟨h1,h2⟩
           ·exact hno c hv (by rw[h1];simp) h2
           ·exact hyes c hv h1 h2
def Fj(K:ll→G→Prop)(Q:ll→Ex→G→Prop):ll→Ex→G→Prop
 | .on,.normal,g=>K .on g
 | .on,.exit id,g=>Q .on (.exit id) g
 | .on,.ret,g=>Q .on .ret g
 | .off,_,_=>False
def wJ(id:Nat)(Q:ll→Ex→G→Prop):ll→Ex→G→Prop
 | .on,.normal,g=>Q .on .normal g
 | .on,.exit i,g=>match eA i id with|true=>Q .on .normal g|false=>Q .on (.exit i) g
 | .on,.ret,g=>Q .on .ret g
 | .off,_,_=>False
def HX(Q:ll→Ex→G→Prop):ll→G→Prop
 | .on,g=>Q .on .normal g
 | .off,_=>False
def Hr:PV→(ll→Prop)→(ll→Prop)→Prop
 | .d (.val (.bool b)),x,y=>L4 b x y
 | _,_,_=>False
def Mh(E:Env)(ops:List Oper)(Q:ll→Ex→G→Prop)(g:G):Bool→Prop
 | false=>run E ops (HX Q) ops .on none g
 | true=>run E ops (HX Q) ops .on (some []) g
def Bj(E:Env)(n0:Nat):Code→ll→G→(ll→Ex→G→Prop)→Prop
 | .skip,.on,g,Q=>Q .on .normal g
 | .exit id,.on,g,Q=>Q .on (.exit id) g
 | .ret,.on,g,Q=>Q .on .ret g
 | .seq a b,.on,g,Q=>Bj E n0 a .on g (Fj (fun tok g'=>Bj E n0 b tok g' Q) Q)
 | .cond c x y,.on,g,Q=>Hr (g.ev c) (fun tok=>Bj E n0 x tok g Q) (fun tok=>Bj E n0 y tok g Q)
 | .block id c,.on,g,Q=>Bj E n0 c .on g (wJ id Q)
 | .region _ ops dr,.on,g,Q=>Mh E ops.toList Q g dr
 | .loop c,.on,g,Q=>W E.P n0 (.loop c) g (Q .on)
 | _,_,_,_=>False
theorem Df{E:Env}(hm:E.P.follows .mixedOrders=true){n0:Nat}:∀(c:Code)(g:G)(Q:ll→Ex→G→Prop),Bj E n0 c .on g Q→W E.P n0 c g (Q .on):=by
 intro c
 induction c with
 | skip=>intro g Q h;exact MJ h
 | exit id=>intro g Q h;exact LN h
 | ret=>intro g Q h;exact NA h
 | seq a b iha ihb=>
   intro g Q h
   have:=iha g _ h
   refine ic (fun X ν ac w hp hs=>wp_mono (this X ν ac w hp hs) fun e a' w' hl=>?_)
   cases e with
   | normal=>obtain⟨g',ν',h1,h2⟩:=hl;exact⟨g',ν',ihb g' Q h1,h2⟩
   | exit id=>exact hl
   | ret=>exact hl
   | goto l=>exact hl
   | panic c=>exact hl
   | outgrown=>exact hl
 | cond c x y ihx ihy=>
   intro g Q h
   simp only[Bj] at h
   unfold Hr at h
   split at h
   ·rename_i b hb
    refine Mi hb (fun hc=>?_) (fun hc=>?_)
    ·rcases pk h with⟨h1,h2⟩|⟨h1,h2⟩
     ·exact ihx g Q h2
     ·rw[hc] at h1;cases h1
    ·rcases pk h with⟨h1,h2⟩|⟨h1,h2⟩
     ·rw[hc] at h1;cases h1
     ·exact ihy g Q h2
   ·exact h.elim
 | block id c ih=>
   intro g Q h
   have:=ih g _ h
   refine JY (fun X ν ac w hp hs=>wp_mono (this X ν ac w hp hs) fun e a' w' hl=>?_)
   cases e with
   | normal=>exact hl
   | exit i=>
     obtain⟨g',ν',h1,h2⟩:=hl
     refine⟨g',ν',?_,h2⟩
     simp only[wJ] at h1
     simp only[Er]
     split at h1
     ·rename_i he
      rw[if_pos (aZ he)]
      exact h1
     ·rename_i he
      rw[if_neg (fun e=>by subst e;simp at he)]
      exact h1
   | ret=>exact hl
   | goto l=>exact hl
   | panic c=>exact hl
   | outgrown=>exact hl
 | region id ops dr=>
   intro g Q h
   simp only[Bj] at h
   cases dr with
   | false=>exact Bm (DC ops.toList none g h)
   | true=>exact Jq hm (DC ops.toList (some []) g h)
 | loop c _=>intro g Q h;exact h
 | _=>intro g Q h;simp[Bj] at h
end Go.Eng
