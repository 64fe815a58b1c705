/-
  The symbolic layer, sixteenth text: a state seen with less, its owned places under other numbers, a grown slice seen as data.
-/
import Derived.Test.YtabembjmeobhoaaGreatKDB
import Derived.Laws.BytesArg
import Derived.Laws.Slices
set_option linter.unusedVariables false
set_option linter.unusedSimpArgs false
open Array renaming length_toList→fm
open Bool renaming and_eq_true→al,false_or→nH
open Int renaming toNat_natCast→bn
open List renaming getElem?_eq_getElem→ah,drop_of_length_le→ai,take_of_length_le→ao,mem_cons→ay,mem_append→aP,map_cons→aQ,length_append→aU,length_cons→a6,getElem?_append_left→bf,append_assoc→bj,append_nil→bl,getElem?_append_right→bt,cons_append→bB,nil_append→bC,mem_map→bG,eq_nil_of_length_eq_zero→bP,take_append_of_le_length→bV,getD→cr,getElem?_take→cZ,mem_of_getElem?→c9,nodup_append→dm,getElem?_drop→dz,length_map→dA,map_nil→dD,take_succ_cons→dQ,flatten_cons→dZ,size_toArray→eh,length_drop→eO,drop→fx,mem_flatMap→gC,take_append_drop→ig,map_toArray→ir,set_cons_zero→iu,getElem?_map→jc,length_set→jh,getElem?_set→km,map_congr_left→kM,drop_drop→mV,take→nf,set_cons_succ→nY
open Nat renaming le_refl→aJ,zero_le→bc,eq_of_beq_eq_true→bJ,mul_le_mul_right→bS,lt_or_ge→b6,add_mul→cW,zero_add→df,le_trans→eH,beq→jd,le_mul_of_pos_right→oi,mul_le_mul→oZ
open Option renaming isSome_iff_exists→cK,map_none→dB
namespace Go.Eng
open Go.RowKit
theorem xj{w:World}{ok ok':Nat→Prop}{e:TypeId}{sz:Nat}{v:Value}{xs:List (List D)}{us:List (List Value)}(ho:w.ownsRow 0 e sz v xs.length us.flatten)(hr:cu w ok sz xs us)(hB:xs.length≤LB)
 (eW:∀b,wH v=some b→ok' b) (hf:∀b,ok b→b<w.heap.size→ok' b∧w.heap[b]?=w.heap[b]?):ia w ok' (.dt xs) v:=by
 rcases ho.2 with⟨h1,h2⟩|⟨b,cap,cur,h1,_,h2,h3,h4,h5,h6⟩
 ·obtain rfl:=bP h2
  rw[h1];exact .nil
 ·subst h1
  have hr':=hr.frame hf (aJ _)
  refine .dt xs us b 0 cap sz (eW b rfl) (pW h2) h3 h4 hB hr'.len hr'.hx hr'.hu (fun j u hu=>?_) hr'.hr
  have hj:j<us.flatten.length:=by
   rcases b6 j us.flatten.length with h' | h'
   ·exact h'
   ·rw[List.getElem?_eq_none h'] at hu;cases hu
  rw[←h6] at hu
  have hu2:cur.toList[j]?=some u:=by
   rw[cZ] at hu
   split at hu
   ·exact hu
   ·cases hu
  have hcur:cur[j]?=some u:=by simpa using hu2
  simp[World.cell?,h2,hcur]
mutual
def T.G0:T→Option D
 | .leaf d=>some d
 | .ref _=>none
 | .own _ xs=>match cX xs with|some ys=>some (.dt ys)|none=>none
def gi:List T→Option (List D)
 | []=>some []
 | t::ts=>match t.G0,gi ts with|some d,some ds=>some (d::ds)|_,_=>none
def cX:List (List T)→Option (List (List D))
 | []=>some []
 | x::xs=>match gi x,cX xs with|some y,some ys=>some (y::ys)|_,_=>none
end
def PR:Option En→D→Prop
 | some (.acc _ xs),y=>y= .dt xs
 | some (.fk _ xs),y=>∃ys,cX xs=some ys∧y= .dt ys
 | _,_=>False
section
variable{P:Program}{w:World}{ok ok':Nat→Prop}{ν ν':Nat→Nm}{st st':Nat→Option En}
mutual
theorem kD.data(hf:∀b,ok b→b<w.heap.size→ok' b∧w.heap[b]?=w.heap[b]?):∀(t:T)(v:Value)(F:List Nat)(d:D),t.G0=some d→kD P w ok ν st t v F→(∀b∈F,ok' b)→ia w ok' d v
 | .leaf x,v,F,d,hd,h,_=>by
   simp only[T.G0,Option.some.injEq] at hd
   simp only[kD] at h
   rw[←hd]
   exact h.1.frame hf (aJ _)
 | .ref j,v,F,d,hd,_,_=>by simp[T.G0] at hd
 | .own e xs,v,F,d,hd,h,hF=>by
   simp only[T.G0] at hd
   split at hd
   ·rename_i ys hys
    obtain rfl:=Option.some.inj hd
    simp only[kD] at h
    obtain⟨us,F1,h1,h2,h3,h4,rfl⟩:=h
    obtain⟨k1,k2,k3⟩:=bu.data hf xs us F1 ys hys h3 (fun b hb=>hF b (aP.2 (.inr hb)))
    refine xj (ok:=ok') (by rw[←k2];exact h1) ⟨k1,fun i x hx=>?_,h2,fun i j x u dd vv a1 a2 a3 a4=>(k3 i x u a1 a2).2 j dd vv a3 a4⟩ (by rw[←k2];exact h4) (fun b hb=>hF b (aP.2 (.inl (CT.2 hb)))) (fun b hb _=>⟨hb,rfl⟩)
    have hi:i<us.length:=by
     rw[k1]
     exact(List.getElem?_eq_some_iff.1 hx).1
    rw[(k3 i x us[i] hx (ah hi)).1]
    exact h2 i _ (ah hi)
   ·cases hd
theorem a8.data(hf:∀b,ok b→b<w.heap.size→ok' b∧w.heap[b]?=w.heap[b]?):∀(ts:List T)(vs:List Value)(F:List Nat)(ds:List D),gi ts=some ds→a8 P w ok ν st ts vs F→(∀b∈F,ok' b)→ds.length=vs.length∧∀(j:Nat)(d:D)(v:Value),ds[j]?=some d→vs[j]?=some v→ia w ok' d v
 | [],[],F,ds,hd,_,_=>by
   simp only[gi,Option.some.injEq] at hd
   rw[←hd]
   simp
 | [],_::_,F,ds,_,h,_=>by simp[a8] at h
 | _::_,[],F,ds,_,h,_=>by simp[a8] at h
 | t::ts,v::vs,F,ds,hd,h,hF=>by
   simp only[gi] at hd
   split at hd
   ·rename_i d' ds' e1 e2
    obtain rfl:=Option.some.inj hd
    simp only[a8] at h
    obtain⟨F1,F2,h1,h2,rfl⟩:=h
    have k1:=kD.data hf t v F1 d' e1 h1 fun b hb=>hF b (aP.2 (.inl hb))
    obtain⟨k2,k3⟩:=a8.data hf ts vs F2 ds' e2 h2 fun b hb=>hF b (aP.2 (.inr hb))
    refine⟨by simp[k2],fun j d u a1 a2=>?_⟩
    cases j with
    | zero=>
      obtain rfl:d'=d:=by simpa using a1
      obtain rfl:v=u:=by simpa using a2
      exact k1
    | succ j=>exact k3 j d u (by simpa using a1) (by simpa using a2)
   ·cases hd
theorem bu.data(hf:∀b,ok b→b<w.heap.size→ok' b∧w.heap[b]?=w.heap[b]?):∀(xs:List (List T))(us:List (List Value))(F:List Nat)(ys:List (List D)),cX xs=some ys→bu P w ok ν st xs us F→(∀b∈F,ok' b)→us.length=ys.length∧xs.length=ys.length∧∀(i:Nat)(x:List D)(u:List Value),ys[i]?=some x→us[i]?=some u→x.length=u.length∧∀(j:Nat)(d:D)(v:Value),x[j]?=some d→u[j]?=some v→ia w ok' d v
 | [],[],F,ys,hd,_,_=>by
   simp only[cX,Option.some.injEq] at hd
   rw[←hd]
   simp
 | [],_::_,F,ds,_,h,_=>by simp[bu] at h
 | _::_,[],F,ds,_,h,_=>by simp[bu] at h
 | x::xs,u::us,F,ys,hd,h,hF=>by
   simp only[cX] at hd
   split at hd
   ·rename_i y' ys' e1 e2
    obtain rfl:=Option.some.inj hd
    simp only[bu] at h
    obtain⟨F1,F2,h1,h2,rfl⟩:=h
    have k1:=a8.data hf x u F1 y' e1 h1 fun b hb=>hF b (aP.2 (.inl hb))
    obtain⟨k2,k3,k4⟩:=bu.data hf xs us F2 ys' e2 h2 fun b hb=>hF b (aP.2 (.inr hb))
    refine⟨by simp[k2],by simp[k3],fun i z q a1 a2=>?_⟩
    cases i with
    | zero=>
      obtain rfl:y'=z:=by simpa using a1
      obtain rfl:u=q:=by simpa using a2
      exact k1
    | succ i=>exact k4 i z q (by simpa using a1) (by simpa using a2)
   ·cases hd
end
mutual
theorem kD.still:∀(t:T)(v:Value)(F:List Nat),t.G0.isSome=true→kD P w ok ν st t v F→kD P w ok ν' st' t v F
 | .leaf x,v,F,_,h=>by simpa only[kD] using h
 | .ref j,v,F,hd,_=>by simp[T.G0] at hd
 | .own e xs,v,F,hd,h=>by
   simp only[T.G0] at hd
   simp only[kD] at h⊢
   obtain⟨us,F1,h1,h2,h3,h4⟩:=h
   refine⟨us,F1,h1,h2,bu.still xs us F1 ?_ h3,h4⟩
   split at hd
   ·rename_i e;rw[e];rfl
   ·cases hd
theorem a8.still:∀(ts:List T)(vs:List Value)(F:List Nat),(gi ts).isSome=true→a8 P w ok ν st ts vs F→a8 P w ok ν' st' ts vs F
 | [],[],F,_,h=>by simpa only[a8] using h
 | [],_::_,F,_,h=>by simp[a8] at h
 | _::_,[],F,_,h=>by simp[a8] at h
 | t::ts,v::vs,F,hd,h=>by
   simp only[gi] at hd
   simp only[a8] at h⊢
   obtain⟨F1,F2,h1,h2,h3⟩:=h
   split at hd
   ·rename_i e1 e2
    exact⟨F1,F2,kD.still t v F1 (by rw[e1];rfl) h1,a8.still ts vs F2 (by rw[e2];rfl) h2,h3⟩
   ·cases hd
theorem bu.still:∀(xs:List (List T))(us:List (List Value))(F:List Nat),(cX xs).isSome=true→bu P w ok ν st xs us F→bu P w ok ν' st' xs us F
 | [],[],F,_,h=>by simpa only[bu] using h
 | [],_::_,F,_,h=>by simp[bu] at h
 | _::_,[],F,_,h=>by simp[bu] at h
 | x::xs,u::us,F,hd,h=>by
   simp only[cX] at hd
   simp only[bu] at h⊢
   obtain⟨F1,F2,h1,h2,h3⟩:=h
   split at hd
   ·rename_i e1 e2
    exact⟨F1,F2,a8.still x u F1 (by rw[e1];rfl) h1,bu.still xs us F2 (by rw[e2];rfl) h2,h3⟩
   ·cases hd
end
def lift(xs:List (List D)):List (List T):=xs.map fun x=>x.map T.leaf
theorem zw:∀(x:List D),gi (x.map T.leaf)=some x
 | []=>rfl
 | d::x=>by simp[gi,T.G0,zw x]
theorem nc:∀(xs:List (List D)),cX (lift xs)=some xs
 | []=>rfl
 | x::xs=>by
   have:=nc xs
   simp only[lift] at this
   simp[lift,cX,zw,this]
theorem a8.Bg:∀{ds:List D}{vs:List Value},vs.length=ds.length→(∀(j:Nat)(d:D)(v:Value),ds[j]?=some d→vs[j]?=some v→ia w ok d v)→a8 P w ok ν st (ds.map T.leaf) vs []
 | [],[],_,_=>by simp[a8]
 | d::ds,v::vs,hl,h=>by
   simp only[aQ,a8,kD]
   exact⟨[],[],⟨h 0 d v rfl rfl,rfl⟩,a8.Bg (by simpa using hl) fun j d v a1 a2=>h (j+1) d v (by simpa using a1) (by simpa using a2),rfl⟩
 | [],_::_,hl,_=>by simp at hl
 | _::_,[],hl,_=>by simp at hl
theorem bu.Bg{sz:Nat}:∀{xs:List (List D)}{us:List (List Value)},cu w ok sz xs us→bu P w ok ν st (lift xs) us []
 | [],[],_=>by simp[lift,bu]
 | x::xs,u::us,h=>by
   simp only[lift,aQ,bu]
   refine⟨[],[],a8.Bg ?_ fun j d v a1 a2=>h.hr 0 j x u d v rfl rfl a1 a2,bu.Bg (sz:=sz) (xs:=xs) ⟨by simpa using h.len,fun i x hx=>h.hx (i+1) x (by simpa using hx),fun i u hu=>h.hu (i+1) u (by simpa using hu),fun i j x u d v a1 a2 a3 a4=>h.hr (i+1) j x u d v (by simpa using a1) (by simpa using a2) a3 a4⟩,rfl⟩
   rw[h.hu 0 u rfl,h.hx 0 x rfl]
 | [],_::_,h=>by have:=h.len;simp at this
 | _::_,[],h=>by have:=h.len;simp at this
theorem sx(xs:List (List D)):(lift xs).length=xs.length:=by simp[lift]
end
def gU:List (Option Nat)→Nat→Option (Option Nat)
 | [],_=>none
 | a::_,0=>some a
 | _::as,n+1=>gU as n
def EI(k:Nat):List (Option Nat)→Bool
 | []=>false
 | some j::r=>k == j||EI k r
 | none::r=>EI k r
def abi:List (Option Nat)→Bool
 | []=>true
 | some j::r=>!EI j r&&abi r
 | none::r=>abi r
mutual
def wk(g:G)(m:List (Option Nat)):PV→PV→Prop
 | p,.any=>True
 | .b8,.b8=>True
 | .undef,.undef=>True
 | .b8,.d y=>y= .dt []
 | .b8,.acc k'=>gU m k'=some none
 | .d x,.d y=>x=y
 | .acc k,.d y=>PR (g.at k) y∧EI k m=false
 | .acc k,.acc k'=>gU m k'=some (some k)
 | .ptr k off,.ptr k' off'=>gU m k'=some (some k)∧off=off'
 | .gI k i off sz,.gI k' i' off' sz'=>gU m k'=some (some k)∧i=i'∧off=off'∧sz=sz'
 | .gq xs i off,.gq ys j off'=>xs=ys∧i=j∧off=off'
 | .agg cs,.agg ds=>AI g m cs ds
 | .gV cs,.gV ds=>AI g m cs ds
 | .fn f cs,.fn f' ds=>f=f'∧AI g m cs ds
 | _,_=>False
def AI(g:G)(m:List (Option Nat)):List PV→List PV→Prop
 | [],[]=>True
 | p::ps,q::qs=>wk g m p q∧AI g m ps qs
 | _,_=>False
end
def Ck(g:G)(m:List (Option Nat)):En→En→Prop
 | _,.dead=>True
 | .box cs,.box ds=>AI g m cs ds
 | .acc e xs,.acc e' ys=>e=e'∧xs=ys
 | .acc e xs,.fk e' ys=>e=e'∧lift xs=ys
 | .fk e xs,.fk e' ys=>e=e'∧xs=ys∧(cX xs).isSome=true
 | .map sP,.map kvs'=>sP=kvs'
 | _,_=>False
def mf(g:G)(m:List (Option Nat)):List (Option Nat)→List (Option En)→Prop
 | [],[]=>True
 | some k::ks,some e'::es=>(∃e,g.at k=some e∧Ck g m e e')∧mf g m ks es
 | none::ks,some (.acc _ xs)::es=>xs=[]∧mf g m ks es
 | none::ks,some (.fk _ xs)::es=>xs=[]∧mf g m ks es
 | _,_=>False
def keeps:Nat→Nat→List (Option Nat)→Bool
 | 0,_,_=>true
 | n+1,i,some j::r=>i == j&&keeps n (i+1) r
 | _,_,_=>false
def Qa(k:Nat):List (Option Nat)→List (Option En)→Bool
 | some j::r,some e::es=>(e.live&&k == j)||Qa k r es
 | _::r,_::es=>Qa k r es
 | _,_=>false
def CO:List (Option Nat)→List (Option En)→Bool
 | some j::r,some e::es=>(!e.live|| !Qa j r es)&&CO r es
 | _::r,_::es=>CO r es
 | _,_=>true
structure Wk(n0:Nat)(m:List (Option Nat))(g g':G):Prop where
 s:AI g m g.sl g'.sl
 p:mf g m m g'.st
 W5:CO m g'.st=true
 keep:keeps n0 0 m=true
theorem Jk:∀{m:List (Option Nat)}{i k:Nat},gU m i=some (some k)→EI k m=true
 | [],_,_,h=>by simp[gU] at h
 | a::as,0,k,h=>by
   simp only[gU,Option.some.injEq] at h
   subst h
   simp[EI]
 | a::as,n+1,k,h=>by
   simp only[gU] at h
   have:=Jk h
   cases a<;>simp[EI,this]
theorem Kq:∀{m:List (Option Nat)}{es:List (Option En)}{i k:Nat}{e:En},gU m i=some (some k)→c6 es i=some e→e.live=true→Qa k m es=true
 | [],_,_,_,_,h,_,_=>by simp[gU] at h
 | _::_,[],i,_,_,_,h,_=>by cases i<;>simp[c6] at h
 | a::as,o::os,0,k,e,h,h2,h3=>by
   simp only[gU,Option.some.injEq] at h
   simp only[c6] at h2
   subst h h2
   simp[Qa,h3]
 | a::as,o::os,i+1,k,e,h,h2,h3=>by
   simp only[gU] at h
   simp only[c6] at h2
   have:=Kq h h2 h3
   cases a<;>cases o<;>simp[Qa,this]
theorem Jp:∀{m:List (Option Nat)}{es:List (Option En)},CO m es=true→∀{i j k:Nat}{e e':En},gU m i=some (some k)→gU m j=some (some k)→c6 es i=some e→c6 es j=some e'→e.live=true→e'.live=true→i=j
 | [],_,_,_,_,_,_,_,h,_,_,_,_,_=>by simp[gU] at h
 | _::_,[],_,i,_,_,_,_,_,_,h,_,_,_=>by cases i<;>simp[c6] at h
 | a::as,o::os,hn,0,0,_,_,_,_,_,_,_,_,_=>rfl
 | a::as,o::os,hn,0,j+1,k,e,e',h1,h2,g1,g2,l1,l2=>by
   simp only[gU,Option.some.injEq] at h1 h2
   simp only[c6] at g1 g2
   subst h1 g1
   have:=Kq h2 g2 l2
   simp[CO,this,l1] at hn
 | a::as,o::os,hn,i+1,0,k,e,e',h1,h2,g1,g2,l1,l2=>by
   simp only[gU,Option.some.injEq] at h1 h2
   simp only[c6] at g1 g2
   subst h2 g2
   have:=Kq h1 g1 l1
   simp[CO,this,l2] at hn
 | a::as,o::os,hn,i+1,j+1,k,e,e',h1,h2,g1,g2,l1,l2=>by
   simp only[gU] at h1 h2
   simp only[c6] at g1 g2
   have hn':CO as os=true:=by
    cases a<;>cases o<;>simp only[CO,al] at hn<;>first|exact hn|exact hn.2
   rw[Jp hn' h1 h2 g1 g2 l1 l2]
theorem Gw:∀{n i:Nat}{m:List (Option Nat)},keeps n i m=true→∀j,j<n→gU m j=some (some (i+j))
 | 0,_,_,_,j,h=>by omega
 | n+1,i,[],h,_,_=>by simp[keeps] at h
 | n+1,i,none::r,h,_,_=>by simp[keeps] at h
 | n+1,i,some a::r,h,j,hj=>by
   simp only[keeps,al,beq_iff_eq] at h
   obtain⟨rfl,h2⟩:=h
   cases j with
   | zero=>rfl
   | succ j=>
     simp only[gU]
     rw[Gw h2 j (by omega)]
     congr 2;omega
theorem Fc{g:G}{m:List (Option Nat)}:∀{ks:List (Option Nat)}{es:List (Option En)},mf g m ks es→∀(i:Nat)(e':En),c6 es i=some e' →
 (∃k e,gU ks i=some (some k)∧g.at k=some e∧Ck g m e e')∨(gU ks i=some none∧∃t,e'= .acc t []∨e'= .fk t [])
 | [],[],_,i,e',h=>by cases i<;>simp[c6] at h
 | some k::ks,some e::es,hw,0,e',h=>by
   simp only[mf] at hw
   obtain⟨⟨e0,h1,h2⟩,_⟩:=hw
   obtain rfl:e=e':=by simpa[c6] using h
   exact .inl ⟨k,e0,rfl,h1,h2⟩
 | some k::ks,some e::es,hw,i+1,e',h=>by
   simp only[mf] at hw
   simp only[gU]
   exact Fc hw.2 i e' (by simpa[c6] using h)
 | none::ks,some (.acc t xs)::es,hw,0,e',h=>by
   simp only[mf] at hw
   obtain rfl:En.acc t xs=e':=by simpa[c6] using h
   exact .inr ⟨rfl,t,.inl (by rw[hw.1])⟩
 | none::ks,some (.acc t xs)::es,hw,i+1,e',h=>by
   simp only[mf] at hw
   simp only[gU]
   exact Fc hw.2 i e' (by simpa[c6] using h)
 | none::ks,some (.fk t xs)::es,hw,0,e',h=>by
   simp only[mf] at hw
   obtain rfl:En.fk t xs=e':=by simpa[c6] using h
   exact .inr ⟨rfl,t,.inr (by rw[hw.1])⟩
 | none::ks,some (.fk t xs)::es,hw,i+1,e',h=>by
   simp only[mf] at hw
   simp only[gU]
   exact Fc hw.2 i e' (by simpa[c6] using h)
 | none::ks,some (.box _)::es,hw,_,_,_=>by simp[mf] at hw
 | none::ks,some .dead::es,hw,_,_,_=>by simp[mf] at hw
 | none::ks,some (.map _)::es,hw,_,_,_=>by simp[mf] at hw
 | some k::ks,none::es,hw,_,_,_=>by simp[mf] at hw
 | none::ks,none::es,hw,_,_,_=>by simp[mf] at hw
 | some k::ks,[],hw,_,_,_=>by simp[mf] at hw
 | none::ks,[],hw,_,_,_=>by simp[mf] at hw
 | [],_::_,hw,_,_,_=>by simp[mf] at hw
theorem yt{g:G}{m:List (Option Nat)}:∀{ks:List (Option Nat)}{es:List (Option En)},mf g m ks es→∀(i:Nat)(x:Option Nat),gU ks i=some x→(c6 es i).isSome=true
 | [],[],_,i,x,h=>by simp[gU] at h
 | some k::ks,some e::es,hw,0,x,h=>rfl
 | some k::ks,some e::es,hw,i+1,x,h=>by
   simp only[mf] at hw
   simp only[c6]
   exact yt hw.2 i x (by simpa[gU] using h)
 | none::ks,some (.acc t xs)::es,hw,0,x,h=>rfl
 | none::ks,some (.acc t xs)::es,hw,i+1,x,h=>by
   simp only[mf] at hw
   simp only[c6]
   exact yt hw.2 i x (by simpa[gU] using h)
 | none::ks,some (.fk t xs)::es,hw,0,x,h=>rfl
 | none::ks,some (.fk t xs)::es,hw,i+1,x,h=>by
   simp only[mf] at hw
   simp only[c6]
   exact yt hw.2 i x (by simpa[gU] using h)
 | none::ks,some (.box _)::es,hw,_,_,_=>by simp[mf] at hw
 | none::ks,some .dead::es,hw,_,_,_=>by simp[mf] at hw
 | none::ks,some (.map _)::es,hw,_,_,_=>by simp[mf] at hw
 | some k::ks,none::es,hw,_,_,_=>by simp[mf] at hw
 | none::ks,none::es,hw,_,_,_=>by simp[mf] at hw
 | some k::ks,[],hw,_,_,_=>by simp[mf] at hw
 | none::ks,[],hw,_,_,_=>by simp[mf] at hw
 | [],_::_,hw,_,_,_=>by simp[mf] at hw
def RO(ν:Nat→Nm)(m:List (Option Nat))(i:Nat):Nm:=
 match gU m i with
 | some (some k)=>ν k
 | _=>⟨.slice none 0 0,[]⟩
theorem kU{ν:Nat→Nm}{m:List (Option Nat)}{i k:Nat}(h:gU m i=some (some k)):RO ν m i=ν k:=by simp[RO,h]
theorem nF{ν:Nat→Nm}{m:List (Option Nat)}{i:Nat}(h:gU m i=some none):RO ν m i=⟨.slice none 0 0,[]⟩:=by simp[RO,h]
section
variable{w:World}{ok ok':Nat→Prop}{ν:Nat→Nm}{g:G}{m:List (Option Nat)}{st':Nat→Option En}
mutual
theorem aE.wk(hf:∀b,ok b→b<w.heap.size→ok' b∧w.heap[b]?=w.heap[b]?)(jw:∀i x,gU m i=some x→(st' i).isSome=true)
 (hacc:∀k y,PR (g.at k) y→EI k m=false→ia w ok' y (ν k).v) :
 ∀(p q:PV)(v:Value),wk g m p q→aE w ok ν g.at p v→aE w ok' (RO ν m) st' q v
 | p,.any,_,_,_=>by simp[aE]
 | .b8,.b8,v,_,h=>by simpa[aE] using h
 | .undef,.undef,v,_,h=>by simpa[aE] using h
 | .b8,.d y,v,hw,h=>by
   simp only[Eng.wk] at hw
   simp only[aE] at h⊢
   rw[hw,h];exact .nil
 | .b8,.acc k',v,hw,h=>by
   simp only[Eng.wk] at hw
   simp only[aE] at h⊢
   rw[nF hw]
   exact⟨jw _ _ hw,h⟩
 | .d x,.d y,v,hw,h=>by
   simp only[Eng.wk] at hw
   simp only[aE] at h⊢
   rw[←hw]
   exact h.frame hf (aJ _)
 | .acc k,.d y,v,hw,h=>by
   simp only[Eng.wk] at hw
   simp only[aE] at h⊢
   rw[h.2]
   exact hacc k y hw.1 hw.2
 | .acc k,.acc k',v,hw,h=>by
   simp only[Eng.wk] at hw
   simp only[aE] at h⊢
   rw[kU hw]
   exact⟨jw _ _ hw,h.2⟩
 | .ptr k off,.ptr k' off',v,hw,h=>by
   simp only[Eng.wk] at hw
   obtain⟨hw,rfl⟩:=hw
   simp only[aE] at h⊢
   rw[kU hw]
   exact⟨jw _ _ hw,h.2⟩
 | .gI k i off sz,.gI k' i' off' sz',v,hw,h=>by
   simp only[Eng.wk] at hw
   obtain⟨hw,rfl,rfl,rfl⟩:=hw
   simp only[aE] at h⊢
   rw[kU hw]
   exact⟨jw _ _ hw,h.2⟩
 | .gq xs i off,.gq ys j off',v,hw,h=>by
   simp only[Eng.wk] at hw
   obtain⟨rfl,rfl,rfl⟩:=hw
   simp only[aE] at h⊢
   obtain⟨b,o,cap,h1,h2,h3⟩:=h
   exact⟨b,o,cap,h1.frame hf (aJ _),h2,h3⟩
 | .agg cs,.agg ds,v,hw,h=>by
   simp only[Eng.wk] at hw
   simp only[aE] at h⊢
   obtain⟨vs,rfl,h⟩:=h
   exact⟨vs,rfl,az.wk hf jw hacc cs ds vs hw h⟩
 | .gV cs,.gV ds,v,hw,h=>by
   simp only[Eng.wk] at hw
   simp only[aE] at h⊢
   obtain⟨vs,rfl,h⟩:=h
   exact⟨vs,rfl,az.wk hf jw hacc cs ds vs hw h⟩
 | .fn f cs,.fn f' ds,v,hw,h=>by
   simp only[Eng.wk] at hw
   obtain⟨rfl,hw⟩:=hw
   simp only[aE] at h⊢
   obtain⟨vs,rfl,h⟩:=h
   exact⟨vs,rfl,az.wk hf jw hacc cs ds vs hw h⟩
 | .any,.undef,_,hw,_ | .any,.b8,_,hw,_ | .any,.d _,_,hw,_ | .any,.agg _,_,hw,_ | .any,.gV _,_,hw,_ | .any,.ptr _ _,_,hw,_ | .any,.acc _,_,hw,_ | .any,.gI _ _ _ _,_,hw,_ | .any,.gq _ _ _,_,hw,_ | .any,.fn _ _,_,hw,_=>by simp[Eng.wk] at hw
 | .undef,.b8,_,hw,_ | .undef,.d _,_,hw,_ | .undef,.agg _,_,hw,_ | .undef,.gV _,_,hw,_ | .undef,.ptr _ _,_,hw,_ | .undef,.acc _,_,hw,_ | .undef,.gI _ _ _ _,_,hw,_ | .undef,.gq _ _ _,_,hw,_ | .undef,.fn _ _,_,hw,_=>by simp[Eng.wk] at hw
 | .b8,.undef,_,hw,_ | .b8,.agg _,_,hw,_ | .b8,.gV _,_,hw,_ | .b8,.ptr _ _,_,hw,_ | .b8,.gI _ _ _ _,_,hw,_ | .b8,.gq _ _ _,_,hw,_ | .b8,.fn _ _,_,hw,_=>by simp[Eng.wk] at hw
 | .d _,.undef,_,hw,_ | .d _,.b8,_,hw,_ | .d _,.agg _,_,hw,_ | .d _,.gV _,_,hw,_ | .d _,.ptr _ _,_,hw,_ | .d _,.acc _,_,hw,_ | .d _,.gI _ _ _ _,_,hw,_ | .d _,.gq _ _ _,_,hw,_ | .d _,.fn _ _,_,hw,_=>by simp[Eng.wk] at hw
 | .agg _,.undef,_,hw,_ | .agg _,.b8,_,hw,_ | .agg _,.d _,_,hw,_ | .agg _,.gV _,_,hw,_ | .agg _,.ptr _ _,_,hw,_ | .agg _,.acc _,_,hw,_ | .agg _,.gI _ _ _ _,_,hw,_ | .agg _,.gq _ _ _,_,hw,_ | .agg _,.fn _ _,_,hw,_=>by simp[Eng.wk] at hw
 | .gV _,.undef,_,hw,_ | .gV _,.b8,_,hw,_ | .gV _,.agg _,_,hw,_ | .gV _,.d _,_,hw,_ | .gV _,.ptr _ _,_,hw,_ | .gV _,.acc _,_,hw,_ | .gV _,.gI _ _ _ _,_,hw,_ | .gV _,.gq _ _ _,_,hw,_ | .gV _,.fn _ _,_,hw,_=>by simp[Eng.wk] at hw
 | .ptr _ _,.undef,_,hw,_ | .ptr _ _,.b8,_,hw,_ | .ptr _ _,.agg _,_,hw,_ | .ptr _ _,.d _,_,hw,_ | .ptr _ _,.gV _,_,hw,_ | .ptr _ _,.acc _,_,hw,_ | .ptr _ _,.gI _ _ _ _,_,hw,_ | .ptr _ _,.gq _ _ _,_,hw,_ | .ptr _ _,.fn _ _,_,hw,_=>by simp[Eng.wk] at hw
 | .acc _,.undef,_,hw,_ | .acc _,.b8,_,hw,_ | .acc _,.agg _,_,hw,_ | .acc _,.gV _,_,hw,_ | .acc _,.ptr _ _,_,hw,_ | .acc _,.gI _ _ _ _,_,hw,_ | .acc _,.gq _ _ _,_,hw,_ | .acc _,.fn _ _,_,hw,_=>by simp[Eng.wk] at hw
 | .gI _ _ _ _,.undef,_,hw,_ | .gI _ _ _ _,.b8,_,hw,_ | .gI _ _ _ _,.agg _,_,hw,_ | .gI _ _ _ _,.d _,_,hw,_ | .gI _ _ _ _,.gV _,_,hw,_ | .gI _ _ _ _,.ptr _ _,_,hw,_ | .gI _ _ _ _,.acc _,_,hw,_ | .gI _ _ _ _,.gq _ _ _,_,hw,_ | .gI _ _ _ _,.fn _ _,_,hw,_=>by simp[Eng.wk] at hw
 | .gq _ _ _,.undef,_,hw,_ | .gq _ _ _,.b8,_,hw,_ | .gq _ _ _,.agg _,_,hw,_ | .gq _ _ _,.d _,_,hw,_ | .gq _ _ _,.gV _,_,hw,_ | .gq _ _ _,.ptr _ _,_,hw,_ | .gq _ _ _,.acc _,_,hw,_ | .gq _ _ _,.gI _ _ _ _,_,hw,_ | .gq _ _ _,.fn _ _,_,hw,_=>by simp[Eng.wk] at hw
 | .fn _ _,.undef,_,hw,_ | .fn _ _,.b8,_,hw,_ | .fn _ _,.agg _,_,hw,_ | .fn _ _,.d _,_,hw,_ | .fn _ _,.gV _,_,hw,_ | .fn _ _,.ptr _ _,_,hw,_ | .fn _ _,.acc _,_,hw,_ | .fn _ _,.gI _ _ _ _,_,hw,_ | .fn _ _,.gq _ _ _,_,hw,_=>by simp[Eng.wk] at hw
theorem az.wk(hf:∀b,ok b→b<w.heap.size→ok' b∧w.heap[b]?=w.heap[b]?)(jw:∀i x,gU m i=some x→(st' i).isSome=true)
 (hacc:∀k y,PR (g.at k) y→EI k m=false→ia w ok' y (ν k).v) :
 ∀(ps qs:List PV)(vs:List Value),AI g m ps qs→az w ok ν g.at ps vs→az w ok' (RO ν m) st' qs vs
 | [],[],vs,_,h=>by cases vs<;>simp[az] at h⊢
 | p::ps,q::qs,[],_,h=>by simp[az] at h
 | p::ps,q::qs,v::vs,hw,h=>by
   simp only[AI] at hw
   simp only[az] at h⊢
   exact⟨aE.wk hf jw hacc p q v hw.1 h.1,az.wk hf jw hacc ps qs vs hw.2 h.2⟩
 | [],_::_,_,hw,_=>by simp[AI] at hw
 | _::_,[],_,hw,_=>by simp[AI] at hw
end
end
theorem RY:∀{g:G}{m:List (Option Nat)}{ps qs:List PV},AI g m ps qs→ps.length=qs.length
 | _,_,[],[],_=>rfl
 | _,_,p::ps,q::qs,h=>by simp only[AI] at h;simp[RY h.2]
 | _,_,[],_::_,h=>by simp[AI] at h
 | _,_,_::_,[],h=>by simp[AI] at h
theorem Rl{w:World}{ok:Nat→Prop}{ν ν':Nat→Nm}{g:G}{m:List (Option Nat)}{st':Nat→Option En}{ok':Nat→Prop}(hv:∀(p q:PV)(v:Value),wk g m p q→aE w ok ν g.at p v→aE w ok' ν' st' q v) :
 ∀{ps qs:List PV},AI g m ps qs→∀(t:Nat)(v:Value),aE w ok ν g.at (nth ps t) v→aE w ok' ν' st' (nth qs t) v
 | [],[],_,t,v,_=>by simp[nth,aE]
 | p::ps,q::qs,h,0,v,hr=>by simp only[AI] at h;simp only[nth] at hr⊢;exact hv p q v h.1 hr
 | p::ps,q::qs,h,t+1,v,hr=>by simp only[AI] at h;simp only[nth] at hr⊢;exact Rl hv h.2 t v hr
 | [],_::_,h,_,_,_=>by simp[AI] at h
 | _::_,[],h,_,_,_=>by simp[AI] at h
theorem KQ{P:Program}{n0:Nat}{m:List (Option Nat)}{g g':G}(h:Wk n0 m g g'):qz P n0 g g':=by
 intro X ν a w hp hs
 refine⟨RO ν m,?_⟩
 have jw:∀i x,gU m i=some x→(g'.at i).isSome=true:=fun i x hx=>yt h.p i x hx
 have ll:=fun i e' he=>Fc h.p i e' he
 have sN:∀e e',Ck g m e e'→e'.live=true→e.live=true:=by
  intro e e' hw hl
  cases e' with
  | dead=>cases hl
  | box ds=>cases e<;>first|rfl|(simp[Ck] at hw)
  | acc t ys=>cases e<;>first|rfl|(simp[Ck] at hw)
  | fk t ys=>cases e<;>first|rfl|(simp[Ck] at hw)
  | map sP=>cases e<;>first|rfl|(simp[Ck] at hw)
 have howned:∀b,Own (RO ν m) g'.at b→∃i k e,gU m i=some (some k)∧g.at k=some e∧e.live=true∧(ν k).has b:=by
  rintro b ⟨i,e',h1,h2,h3⟩
  rcases ll i e' h1 with⟨k,e,k1,k2,k3⟩|⟨k1,t,rfl|rfl⟩
  ·rw[kU k1] at h3
   exact⟨i,k,e,k1,k2,sN e e' k3 h2,h3⟩
  all_goals
   rw[nF k1] at h3
   simp[Nm.has,wH] at h3
 have nq:∀b,Own (RO ν m) g'.at b→Own ν g.at b:=fun b hb=>by
  obtain⟨i,k,e,k1,k2,k3,k4⟩:=howned b hb
  exact⟨k,e,k2,k3,k4⟩
 have hf:∀b,cF X ν g.at b→b<w.heap.size→cF X (RO ν m) g'.at b∧w.heap[b]?=w.heap[b]?:=fun b hb _=>⟨⟨fun ho=>hb.1 (nq b ho),hb.2⟩,rfl⟩
 have hfr:∀k e,g.at k=some e→e.live=true→EI k m=false→∀b,(ν k).has b→cF X (RO ν m) g'.at b:=by
  intro k e hk hl hm b hb
  have im:Own ν g.at b:=⟨k,_,hk,hl,hb⟩
  refine⟨fun ho=>?_,hs.KH im⟩
  obtain⟨i,k',e',k1,k2,k3,k4⟩:=howned b ho
  have:=hs.inj k k' _ _ b hk k2 hl k3 hb k4
  subst this
  rw[Jk k1] at hm
  cases hm
 have hacc:∀k y,PR (g.at k) y→EI k m=false→ia w (cF X (RO ν m) g'.at) y (ν k).v:=by
  intro k y hk hm
  cases hgk:g.at k with
  | none=>rw[hgk] at hk;exact hk.elim
  | some e=>
    rw[hgk] at hk
    cases e with
    | box cs=>exact hk.elim
    | dead=>exact hk.elim
    | map sP=>exact hk.elim
    | acc e xs=>
      simp only[PR] at hk
      rw[hk]
      obtain⟨us,h1,h2,h3,h4⟩:=hs.en k _ hgk
      exact xj h1 h2 h3 (fun b hb=>hfr k _ hgk rfl hm b (.inl hb)) hf
    | fk e xs=>
      simp only[PR] at hk
      obtain⟨ys,h1,rfl⟩:=hk
      have hen:=hs.en k _ hgk
      exact kD.data hf (.own e xs) _ _ _ (by simp only[T.G0,h1]) hen.1 fun b hb=>hfr k _ hgk rfl hm b (oP.2 hb)
 have oq:=fun p q v=>aE.wk (w:=w) (ok:=cF X ν g.at) (ok':=cF X (RO ν m) g'.at) (ν:=ν) (g:=g) (m:=m) (st':=g'.at) hf jw hacc p q v
 have hreps:=fun ps qs vs=>az.wk (w:=w) (ok:=cF X ν g.at) (ok':=cF X (RO ν m) g'.at) (ν:=ν) (g:=g) (m:=m) (st':=g'.at) hf jw hacc ps qs vs
 refine⟨by rw[hs.size,RY h.s],fun t=>?_,fun i e' he=>?_,fun i j e e' b h1 h2 h3 h4 h5 h6=>?_,fun b hb=>hs.base b (nq b hb),fun i hi=>?_,fun i hi=>?_,hs.E9,hs.An,hs.defs⟩
 ·exact Rl oq h.s t _ (hs.sl t)
 ·rcases ll i e' he with⟨k,e,k1,k2,k3⟩|⟨k1,t,rfl|rfl⟩
  ·have hen:=hs.en k e k2
   cases e' with
   | dead=>trivial
   | box ds=>
     cases e with
     | box cs=>
       obtain⟨b,vs,T,q1,q2,q3,q4⟩:=hen
       simp only[Ck] at k3
       simp only[kP,kU k1]
       exact⟨b,vs,T,q1,q2,hreps cs ds vs k3 q3,q4⟩
     | acc t xs=>simp[Ck] at k3
     | fk t xs=>simp[Ck] at k3
     | dead=>simp[Ck] at k3
     | map sP=>simp[Ck] at k3
   | acc t ys=>
     cases e with
     | acc t' xs=>
       simp only[Ck] at k3
       obtain⟨rfl,rfl⟩:=k3
       obtain⟨us,q1,q2,q3⟩:=hen
       simp only[kP,kU k1]
       exact⟨us,q1,q2.frame hf (aJ _),q3⟩
     | box cs=>simp[Ck] at k3
     | dead=>simp[Ck] at k3
     | map sP=>simp[Ck] at k3
     | fk t xs=>simp[Ck] at k3
   | fk t ys=>
     cases e with
     | acc t' xs=>
       simp only[Ck] at k3
       obtain⟨rfl,rfl⟩:=k3
       obtain⟨us,q1,q2,q3,q4⟩:=hen
       simp only[kP,kD,kU k1,q4,sx,bl]
       refine⟨⟨us,[],q1,q2.hu,bu.Bg (q2.frame hf (aJ _)),q3,by simp⟩,?_⟩
       unfold hb
       split<;>simp
     | fk t' xs=>
       simp only[Ck] at k3
       obtain⟨rfl,rfl,k4⟩:=k3
       simp only[kP,kU k1]
       refine⟨kD.still (.own t' xs) _ _ ?_ (kD.frame hf (aJ _) (lA.refl _ _) _ _ _ hen.1 fun _ _=>rfl),hen.2⟩
       simp only[T.G0]
       obtain⟨zs,hz⟩:=cK.1 k4
       rw[hz];rfl
     | box cs=>simp[Ck] at k3
     | dead=>simp[Ck] at k3
     | map sP=>simp[Ck] at k3
   | map kvs'=>
     cases e with
     | map sP=>
       simp only[Ck] at k3
       subst k3
       simp only[kP,kU k1] at hen⊢
       exact hen
     | box cs=>simp[Ck] at k3
     | acc t xs=>simp[Ck] at k3
     | fk t xs=>simp[Ck] at k3
     | dead=>simp[Ck] at k3
  ·simp only[kP,nF k1]
   exact⟨[],⟨by simp,.inl ⟨rfl,rfl⟩⟩,cu.nil _ _ _,by simp,trivial⟩
  ·simp only[kP,nF k1,kD]
   exact⟨⟨[],[],⟨by simp,.inl ⟨rfl,rfl⟩⟩,by simp,by simp[bu],by simp,rfl⟩,by simp[hb,wH]⟩
 ·rcases ll i e h1 with⟨k,e1,k1,k2,k3⟩|⟨k1,t,rfl|rfl⟩
  ·rcases ll j e' h2 with⟨l,e2,l1,l2,l3⟩|⟨l1,t,rfl|rfl⟩
   ·rw[kU k1] at h5
    rw[kU l1] at h6
    have:=hs.inj k l e1 e2 b k2 l2 (sN _ _ k3 h3) (sN _ _ l3 h4) h5 h6
    subst this
    exact Jp h.W5 k1 l1 h1 h2 h3 h4
   ·rw[nF l1] at h6;simp[Nm.has,wH] at h6
   ·rw[nF l1] at h6;simp[Nm.has,wH] at h6
  ·rw[nF k1] at h5;simp[Nm.has,wH] at h5
  ·rw[nF k1] at h5;simp[Nm.has,wH] at h5
 ·obtain⟨e',he⟩:=cK.1 hi
  rcases ll i e' he with⟨k,e,k1,k2,k3⟩|⟨k1,t,rfl|rfl⟩
  ·rw[kU k1];exact hs.nu k (by rw[k2];rfl)
  ·rw[nF k1];rfl
  ·rw[nF k1];rfl
 ·have lL:=hp i hi
  have hl:=Gw h.keep i lL
  rw[df] at hl
  exact⟨by rw[kU hl];exact(hs.par i hi).1,jw i _ hl⟩
end Go.Eng
namespace Go.Eng
open Go.RowKit
theorem Sat.UJ{P:Program}{X:Cx}{ν:Nat→Nm}{g:G}{a:Act}{w w':World}(h:Sat P X ν g a w)(rv:rR (fun _=>False) w w')(d:Nat)(p:PV)(v:Value)
 (hv:(∀b,w.heap.size≤b→cF X ν g.at b)→(∀b,cF X ν g.at b→b<w.heap.size→cF X ν g.at b∧w'.heap[b]?=w.heap[b]?)→aE w' (cF X ν g.at) ν g.at p v) :
 Sat P X ν ⟨lV g.sl d p,g.st⟩ (a.put (some d) v) w':=by
 have hfree:∀b,w.heap.size≤b→cF X ν g.at b:=fun b hb=>⟨fun ho=>by have:=h.lt ho;omega,fun hz=>by have:=(h.E9 b hz).1;have:=h.An.size;omega⟩
 have hsame:∀b,cF X ν g.at b→b<w.heap.size→cF X ν g.at b∧w'.heap[b]?=w.heap[b]?:=fun b hb lL=>⟨hb,rv.block b lL (fun hf=>hf)⟩
 refine h.W4 (g':=⟨lV g.sl d p,g.st⟩) (fun _=>False) rv (fun _ hb=>hb.elim) (lA.refl _ _) (fun k e he=>.inl ⟨he,rfl,fun _ _ _ hb=>hb⟩) (fun k e b he hl hb=>.inl ⟨k,e,he,hl,hb⟩) ?_ (fun k hk=>.inl hk) ?_ ?_ rfl
 ·intro k k' e e' b h1 h2 h3 h4 h5 h6
  exact h.inj k k' e e' b h1 h2 h3 h4 h5 h6
 ·simp[size_put,jr,h.size]
 ·intro t
  simp only[rT,nC,h.size]
  by_cases hc:t=d∧d<g.sl.length
  ·simp only[hc,and_self,if_true]
   exact .inr (hv hfree hsame)
  ·simp only[hc,if_false]
   exact .inl ⟨trivial,trivial⟩
theorem JP(off:Nat):∀(l:List Value)(n:Nat)(cells:Array Value)(k:Nat),off+n+l.length≤cells.size →
 ((l.zipIdx n).foldl (fun cs (x:Value×Nat)=>cs.setIfInBounds (off+x.2) x.1) cells)[k]?=if off+n≤k∧k<off+n+l.length then l[k-(off+n)]? else cells[k]?
 | [],n,cells,k,_=>by
   have:¬ (off+n≤k∧k<off+n+0):=by omega
   simp
   intro h1 h2;omega
 | c::l,n,cells,k,hl=>by
   simp only[List.zipIdx_cons,List.foldl_cons]
   simp only[a6] at hl
   rw[JP off l (n+1) _ k (by simp;omega)]
   by_cases h1:off+(n+1)≤k∧k<off+(n+1)+l.length
   ·rw[if_pos h1,if_pos (by simp only[a6];omega)]
    have:k-(off+n)=(k-(off+(n+1)))+1:=by omega
    rw[this];simp
   ·rw[if_neg h1]
    by_cases h2:k=off+n
    ·subst h2
     have lL:off+n<cells.size:=by omega
     rw[if_pos (by simp only[a6];omega)]
     simp[lL]
    ·rw[if_neg (by simp only[a6];omega)]
     simp[Array.getElem?_setIfInBounds,show ¬off+n=k from fun e=>h2 e.symm]
theorem NL(off:Nat)(l:List Value)(cells:Array Value)(hl:off+l.length≤cells.size) :
 (l.zipIdx.foldl (fun cs (x:Value×Nat)=>cs.setIfInBounds (off+x.2) x.1) cells).toList=cells.toList.take off++(l++cells.toList.drop (off+l.length)):=by
 apply List.ext_getElem?
 intro k
 have h:=JP off l 0 cells k (by omega)
 simp only[Nat.add_zero] at h
 rw[Array.getElem?_toList,h]
 by_cases h1:k<off
 ·rw[if_neg (by omega),bf (by simp;omega),cZ,if_pos h1]
  simp
 ·rw[bt (by simp;omega)]
  have e:(nf off cells.toList).length=off:=by simp;omega
  rw[e]
  by_cases h2:k<off+l.length
  ·rw[if_pos (by omega),bf (by omega)]
  ·rw[if_neg (by omega),bt (by omega),dz]
   have:off+l.length+(k-off-l.length)=k:=by omega
   rw[this];simp
def FE(places:List (Nat×Nat))(cs:List PV):List (Nat×PV)→Option (List PV)
 | []=>some cs
 | (i,p)::rest=>
   match places[i]? with
   | none=>none
   | some (off,sz)=>if p.whole=true∧(eG p).length=sz∧off+sz≤cs.length then FE places (zU cs off (eG p)) rest else none
theorem MM{w:World}{ok:Nat→Prop}{ν:Nat→Nm}{st:Nat→Option En}(hν:∀k,(st k).isSome=true→(ν k).v.oneCell'=true)(places:List (Nat×Nat))(ev:Operand→PV)(ρ:Operand→Value)(hev:∀x,aE w ok ν st (ev x) (ρ x)) :
 ∀(ps:List (Nat×Operand))(cs:List PV)(cells:Array Value)(r:List PV),az w ok ν st cs cells.toList→FE places cs (ps.map fun x=>(x.1,ev x.2))=some r →
 ∃cells',Instr.fill (places.toArray[·]?) cells (ps.map fun x=>(x.1,ρ x.2))=some cells'∧az w ok ν st r cells'.toList
 | [],cs,cells,r,h,hr=>by
   simp only[dD,FE,Option.some.injEq] at hr
   subst hr
   exact⟨cells,rfl,h⟩
 | (i,x)::ps,cs,cells,r,h,hr=>by
   simp only[aQ,FE] at hr
   split at hr
   ·cases hr
   ·rename_i off sz hpl
    split at hr
    ·rename_i hc
     obtain⟨h1,h2,h3⟩:=hc
     have hx:=(hev x).cells h1 hν
     have hxl:=hx.length
     have hcl:=h.length
     have hxs:(ρ x).cells.size=sz:=by rw[←h2,←hxl];simp
     have hcs:cells.size=cs.length:=by rw[←hcl];simp
     have hone:=NL off (ρ x).cells.toList cells (by rw[hxl,hcs,h2];exact h3)
     have oq:az w ok ν st (zU cs off (eG (ev x))) ((ρ x).cells.toList.zipIdx.foldl (fun cs (x:Value×Nat)=>cs.setIfInBounds (off+x.2) x.1) cells).toList:=by
      rw[hone,hxl]
      exact(h.take off).append (hx.append (h.drop _))
     obtain⟨cells',k1,k2⟩:=MM hν places ev ρ hev ps _ _ r oq hr
     refine⟨cells',?_,k2⟩
     simp only[aQ,Instr.fill]
     have hpl':(places.toArray[i]?:Option (Nat×Nat))=some (off,sz):=by simpa using hpl
     rw[hpl']
     simp only
     rw[if_neg (by simp only[hxs,hcs,ne_eq,not_true_eq_false,decide_false,nH,decide_eq_true_eq];omega)]
     rw[←k1]
     congr 1
     rw[←Array.foldl_toList,Array.toList_zipIdx]
    ·cases hr
section
variable{E:Env}{g:G}{d:Nat}{ty:TypeId}{pos:String}{eM:Array Edge}{gd:Option (Nat×Bool)}{dn:Option Nat}
theorem U9(t:TypeId)(ps:List (Nat×Operand))(ti:TI)(fs:List (Nat×Nat×Nat))(r:List PV)(ht:E.ti t=some ti)(kE:ti.ty= .struct fs)
 (hr:FE (fs.map fun x=>(x.2.1,x.2.2)) ti.zero (ps.map fun x=>(x.1,g.ev x.2))=some r) :
 kH E.P ⟨some d,.build t ⟨ps⟩,ty,pos,eM,gd⟩ g ⟨ps.flatMap fun x=>dh x.2,[]⟩ ⟨some (d,.agg r),[]⟩:=by
 intro g2 hg
 have hmap:ps.map (fun x=>(x.1,g2.ev x.2))=ps.map (fun x=>(x.1,g.ev x.2)):=by
  have:∀(ps:List (Nat×Operand)),(∀t∈ps.flatMap (fun x=>dh x.2),t∈ps.flatMap (fun x=>dh x.2))→True:=fun _ _=>trivial
  apply kM
  intro x hx
  rw[hg.ev (x:=x.2) (fun t h=>gC.2 ⟨x,hx,h⟩)]
 refine Dn.val rfl fun X ν a w hs=>?_
 obtain⟨i,z,h1,h2,h4,h5,h6,h7⟩:=(E.ok t ti ht).info
 have hu:=(E.ok t ti ht).ty
 rw[kE] at hu
 obtain⟨fields,hu,hpl,_⟩:=hu
 rw[←hmap] at hr
 obtain⟨cells',k1,k2⟩:=MM hs.nu (fs.map fun x=>(x.2.1,x.2.2)) g2.ev a.eval hs.ev ps ti.zero z.cells r (by rw[←h6];exact uP _ _ _ _ _) hr
 refine⟨.agg cells',?_,by simp only[aE];exact⟨cells'.toList,rfl,k2⟩⟩
 have hb:E.P.built t (ps.map fun x=>(x.1,a.eval x.2))=some cells':=by
  simp only[Program.built,h1,hu,h5,hpl,k1]
 have:=run_build (P:=E.P) w t ⟨ps.map fun x=>(x.1,a.eval x.2)⟩ cells' hb
 simp only[execOp,ir,Sem.run_bind,this,Result.andThen_ok]
 rfl
def rowsOf:List PV→Option (List (List D))
 | []=>some []
 | p::ps=>if p.whole=true then match Af (eG p),rowsOf ps with|some x,some xs=>some (x::xs)|_,_=>none else none
def IM:Nat→List Nat→Bool
 | _,[]=>true
 | i,j::js=>i == j&&IM (i+1) js
def tZ(n:Nat):List (List D)→Bool
 | []=>true
 | x::xs=>x.length == n&&tZ n xs
theorem CX{w:World}{ok:Nat→Prop}{ν:Nat→Nm}{st:Nat→Option En}(hν:∀k,(st k).isSome=true→(ν k).v.oneCell'=true)(sz:Nat)(ev:Operand→PV)(ρ:Operand→Value)(hev:∀x,aE w ok ν st (ev x) (ρ x)) :
 ∀(ps:List (Nat×Operand))(i:Nat)(pre:List Value)(cells:Array Value)(rows:List (List D)),IM i (ps.map (·.1))=true→rowsOf (ps.map fun x=>ev x.2)=some rows→tZ sz rows=true→pre.length=i*sz→cells.toList.take (i*sz)=pre→cells.size=(i+ps.length)*sz →
 ∃us:List (List Value),Instr.fill (fun i=>some (i*sz,sz)) cells (ps.map fun x=>(x.1,ρ x.2))=some ⟨pre++us.flatten⟩∧cu w ok sz rows us
 | [],i,pre,cells,rows,_,hr,_,hpl,hpre,hsz=>by
   simp only[dD,rowsOf,Option.some.injEq] at hr
   subst hr
   refine⟨[],?_,cu.nil _ _ _⟩
   simp only[dD,Instr.fill,List.flatten_nil,bl]
   congr 1
   rw[←hpre,ao (by rw[fm,hsz];exact aJ _)]
 | (j,x)::ps,i,pre,cells,rows,hup,hr,dy,hpl,hpre,hsz=>by
   simp only[aQ,IM,al,beq_iff_eq] at hup
   obtain⟨rfl,hup⟩:=hup
   simp only[aQ,rowsOf] at hr
   split at hr
   ·rename_i hwh
    split at hr
    ·rename_i row rows' qK hrows
     obtain rfl:=Option.some.inj hr
     simp only[tZ,al,beq_iff_eq] at dy
     have hx:=(hev x).cells hwh hν
     have hxl:=hx.length
     have hd:=w7 hx qK
     obtain⟨JX,hd2⟩:=Bu hd
     have hxs:(ρ x).cells.toList.length=sz:=by rw[JX];exact dy.1
     simp only[a6] at hsz
     have hmul:(i+(ps.length+1))*sz=i*sz+(sz+ps.length*sz):=by rw[cW,cW];omega
     have hone:=NL (i*sz) (ρ x).cells.toList cells (by rw[hxs,hsz,hmul];omega)
     have hsz2:(((ρ x).cells.toList.zipIdx.foldl (fun cs (x:Value×Nat)=>cs.setIfInBounds (i*sz+x.2) x.1) cells)).size=(i+1+ps.length)*sz:=by
      rw[←fm,hone]
      simp only[aU,List.length_take,eO,fm,hsz,hxs]
      rw[hmul,show i+1+ps.length=i+(ps.length+1) by omega,hmul]
      omega
     obtain⟨us,k1,k2⟩:=CX hν sz ev ρ hev ps (i+1) (pre++(ρ x).cells.toList) _ rows' hup hrows dy.2 (by rw[aU,hpl,hxs,cW];omega)
      (by
       rw[hone,hpre,←bj,bV (by rw[aU,hpl,hxs,cW];omega)]
       rw[ao (by rw[aU,hpl,hxs,cW];omega)]) hsz2
     refine⟨(ρ x).cells.toList::us,?_,k2.cons dy.1 hxs hd2⟩
     have hxs':(ρ x).cells.size=sz:=by simpa using hxs
     simp only[aQ,Instr.fill]
     rw[if_neg (by simp only[hxs',hsz,hmul,ne_eq,not_true_eq_false,decide_false,nH,decide_eq_true_eq];omega)]
     rw[dZ,←bj,←k1]
     congr 1
     rw[←Array.foldl_toList,Array.toList_zipIdx]
    ·cases hr
   ·cases hr
theorem RI{t e:Nat}{ti ei:TI}(ht:E.ti t=some ti)(kE:ti.ty= .slice e)(he:E.ti e=some ei){X:Cx}{ν:Nat→Nm}{g2:G}{a:Act}{w:World}(hs:Sat E.P X ν g2 a w)(ps:List (Nat×Operand))(rows:List (List D))
 (hup:IM 0 (ps.map (·.1))=true) (hr:rowsOf (ps.map fun x=>g2.ev x.2)=some rows) (dy:tZ ei.n rows=true) (hbig:ps.length*ei.n≤16777216) {o:Oper} (ho:o.op= .buildSlice t ps.length ⟨ps⟩) :
 ∃us:List (List Value),(execOp a.eval o).run E.P w= .ok (.value (.slice (some ⟨w.heap.size,0,none⟩) ps.length ps.length)) (w.alloc (.cells ⟨us.flatten⟩ e))∧cu w (cF X ν g2.at) ei.n rows us:=by
 obtain⟨i,z,h1,h2,h4,h5,h6,h7⟩:=(E.ok e ei he).info
 have hu:=(E.ok t ti ht).ty
 rw[kE] at hu
 have hpos:=(E.ok e ei he).pos
 have hrowsl:∀(qs:List PV)(rows:List (List D)),rowsOf qs=some rows→rows.length=qs.length:=by
  intro qs
  induction qs with
  | nil=>intro rows h;simp[rowsOf] at h;simp[←h]
  | cons q qs ih=>
    intro rows h
    simp only[rowsOf] at h
    split at h
    ·split at h
     ·rename_i h1 h2
      obtain rfl:=Option.some.inj h
      simp[ih _ h2]
     ·cases h
    ·cases h
 have hrl:=hrowsl _ _ hr
 simp only[dA] at hrl
 have key:∀init:Array Value,init.size=ps.length*ei.n→∃us:List (List Value),Instr.fill (fun i=>some (i*ei.n,ei.n)) init (ps.map fun x=>(x.1,a.eval x.2))=some ⟨us.flatten⟩∧cu w (cF X ν g2.at) ei.n rows us:=by
  intro init hi
  obtain⟨us,k1,k2⟩:=CX hs.nu ei.n g2.ev a.eval hs.ev ps 0 [] init rows hup hr dy (by simp) (by simp) (by simpa using hi)
  exact⟨us,by simpa using k1,k2⟩
 by_cases hz:ps.length*ei.n=0
 ·obtain⟨us,k1,k2⟩:=key ((Array.range 0).map fun _=>default) (by rw[Array.size_map,Array.size_range,hz])
  refine⟨us,?_,k2⟩
  simp only[execOp,ho,ir,Instr.buildSlice,Sem.run_bind,run_underlying hu,Result.andThen_ok,(E.ok e ei he).size w,hz]
  simp[k1,newRow]
 ·obtain⟨us,k1,k2⟩:=key ((Array.range (ps.length*ei.n)).map (z.cells[· % z.cells.size]!)) (by simp)
  refine⟨us,?_,k2⟩
  have hn:¬ps.length*ei.n>16777216:=by omega
  simp only[execOp,ho,ir,Instr.buildSlice,Sem.run_bind,run_underlying hu,Result.andThen_ok,(E.ok e ei he).size w]
  simp[hn,hz,zeroValue,typeInfo,h1,h5,k1,newRow]
theorem zO:∀{qs:List PV}{rows:List (List D)},rowsOf qs=some rows→rows.length=qs.length
 | [],rows,h=>by simp[rowsOf] at h;simp[←h]
 | q::qs,rows,h=>by
   simp only[rowsOf] at h
   split at h
   ·split at h
    ·rename_i h1 h2
     obtain rfl:=Option.some.inj h
     simp[zO h2]
    ·cases h
   ·cases h
theorem Oa(w:World)(us:List Value)(e:TypeId):jR (w.alloc (.cells ⟨us⟩ e)) w.heap.size 0 us:=by
 intro j u hu
 simp only[World.cell?,se,df]
 simpa using hu
theorem TT(t e n:Nat)(ps:List (Nat×Operand))(ti ei:TI)(rows:List (List D))(ht:E.ti t=some ti)(kE:ti.ty= .slice e)(he:E.ti e=some ei)(hn:n=ps.length)(hup:IM 0 (ps.map (·.1))=true)
 (hr:rowsOf (ps.map fun x=>g.ev x.2)=some rows) (dy:tZ ei.n rows=true) (hbig:ps.length*ei.n≤16777216) :
 kH E.P ⟨some d,.buildSlice t n ⟨ps⟩,ty,pos,eM,gd⟩ g ⟨ps.flatMap fun x=>dh x.2,[]⟩ ⟨some (d,.d (.dt rows)),[]⟩:=by
 subst hn
 intro g2 hg
 have hmap:ps.map (fun x=>g2.ev x.2)=ps.map (fun x=>g.ev x.2):=by
  apply kM
  intro x hx
  rw[hg.ev (x:=x.2) (fun t h=>gC.2 ⟨x,hx,h⟩)]
 rw[←hmap] at hr
 intro X ν a w next Q hs hnx
 obtain⟨us,lh,je⟩:=RI ht kE he hs ps rows hup hr dy hbig (o:=⟨some d,.buildSlice t ps.length ⟨ps⟩,ty,pos,eM,gd⟩) rfl
 have hpos:=(E.ok e ei he).pos
 have hrl:=zO hr
 simp only[dA] at hrl
 have hle:ps.length≤16777216:=eH (oi _ hpos) hbig
 unfold Oper.wp
 rw[lh,Oper.upon_value]
 refine hnx ν _ _ (hs.UJ (w':=w.alloc (.cells ⟨us.flatten⟩ e)) (jz w _) d _ _ fun hfree hsame=>?_)
 simp only[aE]
 have hrr':=je.frame hsame (jz w _).size
 rw[←hrl]
 exact .dt rows us w.heap.size 0 rows.length ei.n (hfree _ (aJ _)) (pW (se w _)) (aJ _) (by simp only[maxLen];omega) (by unfold LB;omega) hrr'.len hrr'.hx hrr'.hu (Oa w _ e) hrr'.hr
theorem pf(t e n k:Nat)(ps:List (Nat×Operand))(ti ei:TI)(rows:List (List D))(ht:E.ti t=some ti)(kE:ti.ty= .slice e)(he:E.ti e=some ei)(hn:n=ps.length)(hup:IM 0 (ps.map (·.1))=true)
 (hr:rowsOf (ps.map fun x=>g.ev x.2)=some rows) (dy:tZ ei.n rows=true) (hbig:ps.length*ei.n≤16777216) (hk:g.at k=none) :
 kH E.P ⟨some d,.buildSlice t n ⟨ps⟩,ty,pos,eM,gd⟩ g ⟨ps.flatMap fun x=>dh x.2,[k]⟩ ⟨some (d,.acc k),[(k,.acc e rows)]⟩:=by
 subst hn
 intro g2 hg
 have hmap:ps.map (fun x=>g2.ev x.2)=ps.map (fun x=>g.ev x.2):=by
  apply kM
  intro x hx
  rw[hg.ev (x:=x.2) (fun t h=>gC.2 ⟨x,hx,h⟩)]
 have h3:=(hg.p k (by simp)).trans hk
 rw[←hmap] at hr
 intro X ν a w next Q hs hnx
 obtain⟨us,lh,je⟩:=RI ht kE he hs ps rows hup hr dy hbig (o:=⟨some d,.buildSlice t ps.length ⟨ps⟩,ty,pos,eM,gd⟩) rfl
 have hpos:=(E.ok e ei he).pos
 have hrl:=zO hr
 simp only[dA] at hrl
 have hle:ps.length≤16777216:=eH (oi _ hpos) hbig
 unfold Oper.wp
 rw[lh,Oper.upon_value]
 have hfl:=je.k9
 have qK:=World.ownsRow_lit w (e:=e) (⟨us.flatten⟩:Array Value) rows.length (base:=0) (size:=ei.n) (bc _) (by simp only[maxLen];omega) (by simpa using hfl)
 refine hnx _ _ _ (hs.xQ (jz w _) k h3 (.acc e rows) ⟨.slice (some ⟨w.heap.size,0,none⟩) ps.length ps.length,[]⟩ rfl (fun b hb=>?_) d _ _ ?_ ?_)
 ·obtain rfl:w.heap.size=b:=by simpa[Nm.has,wH] using hb
  exact aJ _
 ·intro ok st ν' hν hw hm
  refine⟨us,?_,?_,by unfold LB;omega,by rw[hν]⟩
  ·rw[hν,(E.ok e ei he).cells,←hrl]
   exact qK
  ·rw[(E.ok e ei he).cells]
   exact je.frame hw (jz w _).size
 ·intro ok st ν' hν jw hw hm
  simp only[aE]
  exact⟨by rw[jw];rfl,by rw[hν]⟩
end
def OI(g:G):Option Operand→Int→Int→Prop
 | none,dflt,i=>i=dflt
 | some x,_,i=>∃k,g.ev x= .d (.val (.int k i))
def W0:Option Operand→List Nat
 | none=>[]
 | some x=>dh x
theorem OI.agree{R:Rd}{g g2:G}(h:Bj R g g2){o:Option Operand}{a i:Int}(ho:∀t∈W0 o,t∈R.s)(hi:OI g o a i):OI g2 o a i:=by
 cases o with
 | none=>exact hi
 | some x=>
   obtain⟨k,hk⟩:=hi
   exact⟨k,(h.ev (x:=x) ho).trans hk⟩
theorem OI.value{P:Program}{X:Cx}{ν:Nat→Nm}{g:G}{a:Act}{w:World}(h:Sat P X ν g a w){o:Option Operand}{d i:Int}(hi:OI g o d i):(o=none∧i=d)∨∃k,o.map a.eval=some (.int k i):=by
 cases o with
 | none=>exact .inl ⟨rfl,hi⟩
 | some x=>
   obtain⟨k,hk⟩:=hi
   have hv:=h.ev x
   rw[hk] at hv
   exact .inr ⟨k,by simp[fU hv]⟩
theorem tx{P:Program}(w:World){t e s:Nat}(hu:P.underlying t=some (.slice e))(hs:∀w,(sizeOf e).run P w= .ok s w)(a:Option Addr)(len cap:Nat)(lo hi:Option Value)(l h:Int)
 (hlo:(lo=none∧l=0)∨∃k,lo=some (.int k l)) (hhi:(hi=none∧h=len)∨∃k,hi=some (.int k h)) (h0:0≤l) (h1:l≤h) (h2:h≤len) (h3:len≤cap) :
 (Instr.sliceAt t (.slice a len cap) lo hi none).run P w= .ok (sliced a l.toNat h.toNat cap s) w:=by
 have hel:P.elem t=e:=by simp[Program.elem,hu]
 have ht:P.underlying t=some (.slice (P.elem t)):=by rw[hel];exact hu
 rw[run_sliceAt_slice w t _ _ _ _ ht]
 have h2':h≤(cap:Int):=by omega
 rcases hlo with⟨rfl,rfl⟩|⟨k,rfl⟩
 ·rcases hhi with⟨rfl,rfl⟩|⟨k',rfl⟩
  ·rw[run_slice_all w t a len cap ht,hel,hs]
   simp[Result.andThen]
  ·rw[run_slice_h w t a len cap ht k' h (by omega) h2',hel,hs]
   simp[Result.andThen]
 ·rcases hhi with⟨rfl,rfl⟩|⟨k',rfl⟩
  ·rw[run_slice_l w t a len cap ht k l h0 h1,hel,hs]
   simp[Result.andThen]
  ·rw[run_slice_lh w t a len cap ht k k' l h h0 h1 h2',hel,hs]
   simp[Result.andThen]
theorem VT{P:Program}(w:World){t:Nat}(hu:P.underlying t=some .string)(s:List UInt8)(lo hi:Option Value)(l h:Int)
 (hlo:(lo=none∧l=0)∨∃k,lo=some (.int k l)) (hhi:(hi=none∧h=s.length)∨∃k,hi=some (.int k h)) (h0:0≤l) (h1:l≤h) (h2:h≤s.length) :
 (Instr.sliceAt t (.string ⟨s.toArray⟩) lo hi none).run P w= .ok (.string ⟨((s.drop l.toNat).take (h.toNat-l.toNat)).toArray⟩) w:=by
 rw[run_sliceAt_string w t _ _ _ _ hu]
 have hsz:(⟨s.toArray⟩:ByteArray).size=s.length:=size_mk s
 rcases hlo with⟨rfl,rfl⟩|⟨k,rfl⟩
 ·rcases hhi with⟨rfl,rfl⟩|⟨k',rfl⟩
  ·rw[run_slice_string_all w t _ hu,ByteArray.extract_mk,hsz]
   simp
  ·rw[run_slice_string_h w t _ hu k' h (by omega) (by omega),ByteArray.extract_mk]
   simp
 ·rcases hhi with⟨rfl,rfl⟩|⟨k',rfl⟩
  ·rw[run_slice_string_l w t _ hu k l h0 (by omega),ByteArray.extract_mk,hsz]
   simp
  ·rw[Go.run_slice_string w t _ k k' l h hu h0 h1 (by omega),ByteArray.extract_mk]
section
variable{E:Env}{g:G}{d:Nat}{ty:TypeId}{pos:String}{eM:Array Edge}{gd:Option (Nat×Bool)}{dn:Option Nat}
theorem sg{sz:Nat}:∀(us:List (List Value))(l n:Nat),(∀(i:Nat)(u:List Value),us[i]?=some u→u.length=sz)→l+n≤us.length→((us.drop l).take n).flatten=(us.flatten.drop (l*sz)).take (n*sz)
 | [],l,n,_,h=>by
   have h1:l=0:=by simp at h;omega
   have h2:n=0:=by simp at h;omega
   subst h1 h2;simp
 | u::us,0,n,hu,h=>by
   cases n with
   | zero=>simp
   | succ n=>
     have h0:u.length=sz:=hu 0 u rfl
     have ih:=sg us 0 n (fun i x hx=>hu (i+1) x (by simpa using hx)) (by simp at h;omega)
     simp only[List.drop_zero,Nat.zero_mul] at ih⊢
     rw[dQ,dZ,dZ,ih,List.take_append]
     have e1:(n+1)*sz-u.length=n*sz:=by rw[cW,h0];omega
     rw[e1,ao (l:=u) (by rw[h0,cW];omega)]
 | u::us,l+1,n,hu,h=>by
   have h0:u.length=sz:=hu 0 u rfl
   have ih:=sg us l n (fun i x hx=>hu (i+1) x (by simpa using hx)) (by simp at h;omega)
   rw[List.drop_succ_cons,ih,dZ]
   congr 1
   rw[List.drop_append,ai (l:=u) (by rw[h0,cW];omega),bC]
   congr 1
   rw[cW,h0];omega
theorem oy{α:Type}(xs:List α)(l n i:Nat)(x:α)(h:((xs.drop l).take n)[i]?=some x):xs[l+i]?=some x:=by
 rw[cZ] at h
 split at h
 ·rwa [dz] at h
 ·cases h
theorem cu.cut{w:World}{ok:Nat→Prop}{sz:Nat}{xs:List (List D)}{us:List (List Value)}(h:cu w ok sz xs us)(l n:Nat):cu w ok sz ((xs.drop l).take n) ((us.drop l).take n):=by
 refine⟨by simp[h.len],fun i x hx=>h.hx (l+i) x (oy _ _ _ _ _ hx),fun i u hu=>h.hu (l+i) u (oy _ _ _ _ _ hu),fun i j x u d v h1 h2 h3 h4=>h.hr (l+i) j x u d v (oy _ _ _ _ _ h1) (oy _ _ _ _ _ h2) h3 h4⟩
theorem Qs(x:Operand)(lo hi:Option Operand)(t e:Nat)(ti ei:TI)(xs r:List (List D))(l h:Int)(ht:E.ti t=some ti)(kE:ti.ty= .slice e)(he:E.ti e=some ei)(hx:g.ev x= .d (.dt xs))(hlo:OI g lo 0 l)(hhi:OI g hi xs.length h)
 (h0:0≤l) (h1:l≤h) (h2:h≤xs.length) (hz:∀y∈xs,y.length=ei.n) (hr:(xs.drop l.toNat).take (h.toNat-l.toNat)=r) :
 kH E.P ⟨some d,.slice t x lo hi none,ty,pos,eM,gd⟩ g ⟨dh x++(W0 lo++W0 hi),[]⟩ ⟨some (d,.d (.dt r)),[]⟩:=by
 subst hr
 intro g2 hg
 have e1:=hg.ev (x:=x) (fun t h=>by simp[h])
 have hlo2:=hlo.agree hg (fun t h=>by simp[h])
 have hhi2:=hhi.agree hg (fun t h=>by simp[h])
 refine Dn.val rfl fun X ν a w hs=>?_
 have hv:=hs.ev x
 rw[e1,hx] at hv
 simp only[aE] at hv⊢
 have hu:=(E.ok t ti ht).ty
 rw[kE] at hu
 have hlv:(lo.map a.eval=none∧l=0)∨∃k,lo.map a.eval=some (.int k l):=(hlo2.value hs).imp (fun h=>⟨by rw[h.1];rfl,h.2⟩) id
 have hhv:(hi.map a.eval=none∧h=xs.length)∨∃k,hi.map a.eval=some (.int k h):=(hhi2.value hs).imp (fun h=>⟨by rw[h.1];rfl,h.2⟩) id
 have hsize:=(E.ok e ei he).size
 obtain⟨ln,rfl⟩:∃n:Nat,l=n:=⟨l.toNat,by omega⟩
 obtain⟨hn,rfl⟩:∃n:Nat,h=n:=⟨h.toNat,by omega⟩
 simp only[bn]
 rcases hv.vK with⟨rfl,ea,ec,hvv,hemp⟩|⟨us,b,off,cap,sz,hvv,eW,hb,jS,hmax,hB,je,hc⟩
 ·simp only[List.length_nil] at h2
  have hr:=tx (P:=E.P) w hu hsize ea 0 ec _ _ ln hn hlv hhv h0 h1 h2 (bc _)
  obtain rfl:hn=0:=by omega
  obtain rfl:ln=0:=by omega
  refine⟨sliced ea 0 0 ec ei.n,?_,?_⟩
  ·simp only[execOp,hvv,dB,Sem.run_bind,hr,Result.andThen_ok]
   rfl
  ·simp only[List.drop_nil,List.take_nil]
   unfold sliced
   refine ia.abm ?_
   rcases hemp with⟨rfl,rfl⟩|⟨k1,k2⟩
   ·exact .inl ⟨by simp,rfl⟩
   ·refine .inr ⟨?_,by omega⟩
    split
    ·exact k1
    ·rw[Option.isSome_map]
     exact k1
 ·have hr:=tx (P:=E.P) w hu hsize (some ⟨b,off,none⟩) xs.length cap _ _ ln hn hlv hhv h0 h1 h2 jS
  simp only[bn] at hr
  have hsz:xs=[]∨sz=ei.n:=by
   cases xs with
   | nil=>exact .inl rfl
   | cons y ys=>right;rw[←je.hx 0 y rfl];exact hz y (by simp)
  refine⟨sliced (some ⟨b,off,none⟩) ln hn cap ei.n,?_,?_⟩
  ·simp only[execOp,hvv,dB,Sem.run_bind,hr,Result.andThen_ok]
   rfl
  ·have dy:((xs.drop ln).take (hn-ln)).length=hn-ln:=by simp;omega
   have hrc:=je.cut ln (hn-ln)
   have hcl:=sg us ln (hn-ln) je.hu (by rw[je.len];omega)
   unfold sliced
   by_cases hcm:cap=ln
   ·rw[if_pos hcm]
    have:hn-ln=0:=by omega
    rw[this] at dy hrc⊢
    simp only[List.take_zero] at dy hrc⊢
    exact .dt [] [] b off (cap-ln) sz eW hb (by simp) (by simp only[maxLen] at hmax⊢;omega) (by simp) rfl (by simp) (by simp) (fun j u hu=>by simp at hu) (by simp)
   ·rw[if_neg hcm]
    have hsz':sz=ei.n∨ln=0:=by
     rcases hsz with rfl|h
     ·right;simp at h2;omega
     ·exact .inl h
    have hoff:(⟨b,off,none⟩:Addr).add (ln*ei.n)=⟨b,off+ln*sz,none⟩:=by
     rw[add_lit]
     rcases hsz' with h|h<;>rw[h]
     simp
    simp only[Option.map_some,hoff]
    have hres:=ia.dt (w:=w) (ok:=cF X ν g2.at) ((xs.drop ln).take (hn-ln)) ((us.drop ln).take (hn-ln)) b (off+ln*sz) (cap-ln) sz eW hb (by rw[dy];omega) (by simp only[maxLen] at hmax⊢;omega) (by rw[dy];omega) hrc.len hrc.hx hrc.hu
     (hc.sub (ln*sz) fun j u hu=>by
      rw[hcl] at hu
      exact oy _ _ _ _ _ hu) hrc.hr
    rw[dy] at hres
    exact hres
theorem PY(x:Operand)(lo hi:Option Operand)(t:Nat)(ti:TI)(s r:List UInt8)(l h:Int)(ht:E.ti t=some ti)(kE:ti.ty= .str)(hx:g.ev x= .d (.str s))(hlo:OI g lo 0 l)(hhi:OI g hi s.length h)
 (h0:0≤l) (h1:l≤h) (h2:h≤s.length) (hr:(s.drop l.toNat).take (h.toNat-l.toNat)=r) :
 kH E.P ⟨some d,.slice t x lo hi none,ty,pos,eM,gd⟩ g ⟨dh x++(W0 lo++W0 hi),[]⟩ ⟨some (d,.d (.str r)),[]⟩:=by
 subst hr
 intro g2 hg
 have e1:=hg.ev (x:=x) (fun t h=>by simp[h])
 have hlo2:=hlo.agree hg (fun t h=>by simp[h])
 have hhi2:=hhi.agree hg (fun t h=>by simp[h])
 refine Dn.val rfl fun X ν a w hs=>?_
 have hv:=hs.ev x
 rw[e1,hx] at hv
 obtain⟨hv,hB⟩:=we hv
 have hu:=(E.ok t ti ht).ty
 rw[kE] at hu
 have hlv:(lo.map a.eval=none∧l=0)∨∃k,lo.map a.eval=some (.int k l):=(hlo2.value hs).imp (fun h=>⟨by rw[h.1];rfl,h.2⟩) id
 have hhv:(hi.map a.eval=none∧h=s.length)∨∃k,hi.map a.eval=some (.int k h):=(hhi2.value hs).imp (fun h=>⟨by rw[h.1];rfl,h.2⟩) id
 have hr:=VT (P:=E.P) w hu s _ _ l h hlv hhv h0 h1 h2
 refine⟨_,?_,by simp only[aE];exact .str _ (by simp;omega)⟩
 simp only[execOp,hv,dB,Sem.run_bind,hr,Result.andThen_ok]
 rfl
def sS{α:Type}(cs:List α)(off:Nat)(vs:List α):List α:=cs.take off++(vs++cs.drop (off+vs.length))
theorem LL{α:Type}(cs vs:List α)(off:Nat)(h:off+vs.length≤cs.length):(sS cs off vs).length=cs.length:=by
 simp[sS];omega
theorem Hv{sz:Nat}:∀(us:List (List Value))(i off:Nat)(vs rest:List Value),(∀(i:Nat)(u:List Value),us[i]?=some u→u.length=sz)→i<us.length→off+vs.length≤sz →
 sS (us.flatten++rest) (i*sz+off) vs=(us.set i (sS (us.getD i []) off vs)).flatten++rest
 | [],i,_,_,_,_,h,_=>by simp at h
 | u::us,0,off,vs,rest,hu,_,ho=>by
   have h0:u.length=sz:=hu 0 u rfl
   simp only[sS,Nat.zero_mul,df,iu,dZ,List.getD_cons_zero,bj]
   rw[bV (by omega),List.drop_append_of_le_length (by omega)]
 | u::us,i+1,off,vs,rest,hu,hi,ho=>by
   have h0:u.length=sz:=hu 0 u rfl
   have ih:=Hv us i off vs rest (fun i x hx=>hu (i+1) x (by simpa using hx)) (by simpa using hi) ho
   have e1:(i+1)*sz+off=sz+(i*sz+off):=by rw[cW];omega
   simp only[nY,dZ,List.getD_cons_succ,bj]
   rw[←ih,e1]
   simp only[sS]
   have e2:nf (sz+(i*sz+off)) (u++(us.flatten++rest))=u++nf (i*sz+off) (us.flatten++rest):=by
    rw[List.take_append,ao (by omega),h0]
    congr 2;omega
   have e3:fx (sz+(i*sz+off)+vs.length) (u++(us.flatten++rest))=fx (i*sz+off+vs.length) (us.flatten++rest):=by
    rw[List.drop_append,ai (by omega),bC,h0]
    congr 1;omega
   rw[e2,e3,bj]
theorem Ba{α:Type}(cs vs:List α)(off j:Nat)(h:off+vs.length≤cs.length):(sS cs off vs)[j]?=if off≤j∧j<off+vs.length then vs[j-off]? else cs[j]?:=by
 unfold sS
 by_cases h1:j<off
 ·rw[if_neg (by omega),bf (by simp;omega),cZ,if_pos h1]
 ·have e:(cs.take off).length=off:=by simp;omega
  rw[bt (by omega),e]
  by_cases h2:j<off+vs.length
  ·rw[if_pos (by omega),bf (by omega)]
  ·rw[if_neg (by omega),bt (by omega),dz]
   congr 1;omega
theorem I3(x y:Operand)(t k i off sz e:Nat)(ti ei:TI)(xs:List (List D))(p:PV)(cs:List D)(ht:E.ti t=some ti)(he:E.ti e=some ei)(hsz:sz=ei.n)(hx:g.ev x= .gI k i off sz)(hk:g.at k=some (.acc e xs))(hy:g.ev y=p)
 (hi:i<xs.length) (hl:off+ti.n≤ei.n) (hp:p.whole=true) (hn:(eG p).length=ti.n) (hcs:Af (eG p)=some cs) :
 kH E.P ⟨dn,.store t x y,ty,pos,eM,gd⟩ g ⟨dh x++dh y++dn.toList,[k]⟩ ⟨dn.map fun d=>(d,.undef),[(k,.acc e (xs.set i (sS (row xs i) off cs)))]⟩:=by
 intro g2 hg
 have e1:=hg.ev (x:=x) (fun t h=>by simp[h])
 have e2:=hg.ev (x:=y) (fun t h=>by simp[h])
 have h3:=(hg.p k (by simp)).trans hk
 intro X ν a w next Q hs hnx
 have hv:=hs.ev x
 rw[e1,hx] at hv
 have hw:=hs.ev y
 rw[e2,hy] at hw
 simp only[aE] at hv
 obtain⟨_,b,n,c,hb,hv⟩:=hv
 obtain⟨us,ho,je,hB,hf0⟩:=hs.en k _ h3
 have pV:=hw.cells hp hs.nu
 have dy:=pV.length
 obtain⟨JX,hd2⟩:=Bu (w7 pV hcs)
 rw[(E.ok e ei he).cells] at je ho
 subst hsz
 have hlast:=ho.2
 rcases hlast with⟨h1,h2⟩|⟨b',cap,cur,h1,_,h2,h4,h5,h6,h7⟩
 ·omega
 ·rw[h1] at hb
  obtain⟨rfl,rfl,rfl⟩:b'=b∧xs.length=n∧cap=c:=by simpa using hb
  have hul:us.length=xs.length:=je.len
  have hfl:=je.k9
  have hmulle:(i+1)*ei.n≤xs.length*ei.n:=bS _ hi
  have hmulle2:xs.length*ei.n≤cap*ei.n:=bS _ h4
  have hadd:(i+1)*ei.n=i*ei.n+ei.n:=by rw[cW];omega
  have hone:∀u∈(a.eval y).cells.toList,u.oneCell'=true:=by
   intro u hu
   obtain⟨j,hj,rfl⟩:=List.getElem_of_mem hu
   have hjc:j<cs.length:=by rw[←JX];exact hj
   exact(hd2 j cs[j] _ (ah hjc) (ah hj)).one
  have hvl:(a.eval y).cells.toList.length=ti.n:=by rw[dy,hn]
  have lh:=u7 (E.ok t ti ht) w b' (i*ei.n+off) e cur (a.eval y) h2 hvl (by omega) hone
  have hr:(execOp a.eval ⟨dn,.store t x y,ty,pos,eM,gd⟩).run E.P w= .ok .skip (w.setRow b' (cur.toList.take (i*ei.n+off)++(a.eval y).cells.toList++cur.toList.drop (i*ei.n+off+(a.eval y).cells.toList.length)).toArray):=by
   simp only[execOp,hv,Instr.storeAt,Instr.sureAddr,Sem.run_bind,Sem.run_pure,Result.andThen_ok,lh]
  have hcur:cur.toList=us.flatten++cur.toList.drop (xs.length*ei.n):=by rw[←h7];exact(ig _ _).symm
  have hnew:cur.toList.take (i*ei.n+off)++(a.eval y).cells.toList++cur.toList.drop (i*ei.n+off+(a.eval y).cells.toList.length)=(us.set i (sS (us.getD i []) off (a.eval y).cells.toList)).flatten++cur.toList.drop (xs.length*ei.n):=by
   have:=Hv us i off (a.eval y).cells.toList (cur.toList.drop (xs.length*ei.n)) je.hu (by omega) (by omega)
   rw[←hcur] at this
   rw[←this,bj]
   rfl
  have hui:us[i]?=some (us.getD i []):=by
   have:i<us.length:=by omega
   simp[cr,ah this]
  have hxi:xs[i]?=some (row xs i):=by simp[row,cr,ah hi]
  have hxil:=je.hx i _ hxi
  have huil:=je.hu i _ hui
  have hrows:cu w (cF X ν g2.at) ei.n (xs.set i (sS (row xs i) off cs)) (us.set i (sS (us.getD i []) off (a.eval y).cells.toList)):=by
   refine⟨by simp[hul],fun j z hz=>?_,fun j z hz=>?_,fun j l z u q v k1 k2 k3 k4=>?_⟩
   ·rw[km] at hz
    by_cases hij:i=j
    ·subst hij
     rw[if_pos rfl,if_pos hi] at hz
     obtain rfl:=Option.some.inj hz
     rw[LL _ _ _ (by rw[hxil,←JX,hvl];exact hl),hxil]
    ·rw[if_neg hij] at hz
     exact je.hx j z hz
   ·rw[km] at hz
    by_cases hij:i=j
    ·subst hij
     rw[if_pos rfl,if_pos (by omega)] at hz
     obtain rfl:=Option.some.inj hz
     rw[LL _ _ _ (by rw[huil,hvl];exact hl),huil]
    ·rw[if_neg hij] at hz
     exact je.hu j z hz
   ·rw[km] at k1 k2
    by_cases hij:i=j
    ·subst hij
     rw[if_pos rfl,if_pos hi] at k1
     rw[if_pos rfl,if_pos (by omega)] at k2
     obtain rfl:=Option.some.inj k1
     obtain rfl:=Option.some.inj k2
     rw[Ba _ _ _ _ (by rw[hxil,←JX,hvl];exact hl)] at k3
     rw[Ba _ _ _ _ (by rw[huil,hvl];exact hl)] at k4
     rw[JX] at k4
     by_cases kG:off≤l∧l<off+cs.length
     ·rw[if_pos kG] at k3 k4
      exact hd2 _ _ _ k3 k4
     ·rw[if_neg kG] at k3 k4
      exact je.hr i l _ _ q v hxi hui k3 k4
    ·rw[if_neg hij] at k1 k2
     exact je.hr j l z u q v k1 k2 k3 k4
  unfold Oper.wp
  rw[hr,Oper.upon_skip,hnew]
  refine hnx _ _ _ (hs.C3 k (.acc e xs) (.acc e (xs.set i (sS (row xs i) off cs))) h3 rfl (kq w b' _ _ ((j8 hf0).2 (by rw[h1];rfl))) dn .undef Go.undef ?_ ?_)
  ·intro hwf hm
   refine⟨us.set i (sS (us.getD i []) off (a.eval y).cells.toList),?_,?_,by simpa using hB,hf0⟩
   ·rw[(E.ok e ei he).cells,h1]
    have hf2:=hrows.k9
    refine⟨hf2,.inr ⟨b',cap,_,by simp,bc _,setRow_heap w b' _ _ e _ h2,by simpa using h4,h5,?_,?_⟩⟩
    ·simp only[eh,aU,hf2,jh,eO,fm,h6]
     omega
    ·rw[bV (by rw[hf2];exact aJ _),ao (by rw[hf2];exact aJ _)]
   ·rw[(E.ok e ei he).cells]
    exact hrows.frame hwf (by simp[World.setRow])
  ·intro _
   simp only[aE]
def Sl(ns:List Int):List (List D):=ns.map fun n=>[.val (.int .u8 n)]
def byS(ns:List Int):List UInt8:=ns.map fun n=>UInt8.ofNat n.toNat
end
mutual
def sc:PV→Bool
 | .undef=>true
 | .b8=>true
 | .d (.val _)=>true
 | .d (.str _)=>true
 | .agg cs=>scs cs
 | .gV cs=>scs cs
 | _=>false
def scs:List PV→Bool
 | []=>true
 | p::ps=>sc p&&scs ps
end
section
variable{w w':World}{ok ok':Nat→Prop}{ν ν':Nat→Nm}{st st':Nat→Option En}
mutual
theorem aE.sc:∀(p:PV)(v:Value),sc p=true→aE w ok ν st p v→aE w' ok' ν' st' p v
 | .undef,v,_,h=>by simpa[aE] using h
 | .b8,v,_,h=>by simpa[aE] using h
 | .d (.val u),v,_,h=>by
   simp only[aE] at h⊢
   cases h with
   | val u h=>exact .val _ h
 | .d (.str u),v,_,h=>by
   simp only[aE] at h⊢
   cases h with
   | str u h=>exact .str _ h
 | .agg cs,v,hs,h=>by
   simp only[Eng.sc] at hs
   simp only[aE] at h⊢
   obtain⟨vs,e,h⟩:=h
   exact⟨vs,e,az.sc cs vs hs h⟩
 | .gV cs,v,hs,h=>by
   simp only[Eng.sc] at hs
   simp only[aE] at h⊢
   obtain⟨vs,e,h⟩:=h
   exact⟨vs,e,az.sc cs vs hs h⟩
 | .any,_,hs,_=>by simp[Eng.sc] at hs
 | .d (.dt _),_,hs,_=>by simp[Eng.sc] at hs
 | .ptr _ _,_,hs,_=>by simp[Eng.sc] at hs
 | .acc _,_,hs,_=>by simp[Eng.sc] at hs
 | .gI _ _ _ _,_,hs,_=>by simp[Eng.sc] at hs
 | .gq _ _ _,_,hs,_=>by simp[Eng.sc] at hs
 | .fn _ _,_,hs,_=>by simp[Eng.sc] at hs
theorem az.sc:∀(ps:List PV)(vs:List Value),scs ps=true→az w ok ν st ps vs→az w' ok' ν' st' ps vs
 | [],[],_,_=>by simp[az]
 | p::ps,v::vs,hs,h=>by
   simp only[Eng.scs,al] at hs
   simp only[az] at h⊢
   exact⟨aE.sc p v hs.1 h.1,az.sc ps vs hs.2 h.2⟩
 | [],_::_,_,h=>by simp[az] at h
 | _::_,[],_,h=>by simp[az] at h
end
end
mutual
inductive Vw(g:G)(ks:List Nat):PV→PV→Prop where
 | same {p:PV} (h:p.lt 0=true):Vw g ks p p
 | nil:Vw g ks .b8 (.d (.dt []))
 | acc {k:Nat} {e:TypeId} {xs:List (List D)} (h:xf k ks=true) (hk:g.at k=some (.acc e xs)):Vw g ks (.acc k) (.d (.dt xs))
 | fk {k:Nat} {e:TypeId} {xs:List (List T)} {ys:List (List D)} (h:xf k ks=true) (hk:g.at k=some (.fk e xs)) (hf:cX xs=some ys):Vw g ks (.acc k) (.d (.dt ys))
 | agg {cs ds:List PV} (h:iH g ks cs ds):Vw g ks (.agg cs) (.agg ds)
 | fn {f:Nat} {cs ds:List PV} (h:iH g ks cs ds):Vw g ks (.fn f cs) (.fn f ds)
 | box {k:Nat} {cs:List PV} {ds:List D} (h:xf k ks=true) (hk:g.at k=some (.box cs)) (hc:iH g ks cs (cE ds)):Vw g ks (.ptr k 0) (.gq [ds] 0 0)
inductive iH(g:G)(ks:List Nat):List PV→List PV→Prop where
 | nil:iH g ks [] []
 | cons {p q:PV} {ps qs:List PV} (h:Vw g ks p q) (h':iH g ks ps qs):iH g ks (p::ps) (q::qs)
end
section
variable{g g2:G}{ks:List Nat}
mutual
theorem Vw.QK{p q:PV}:Vw g ks p q→q.lt 0=true
 | .same h=>h
 | .nil=>rfl
 | .acc _ _=>rfl
 | .fk _ _ _=>rfl
 | .agg h=>by simp only[PV.lt];exact iH.QK h
 | .fn h=>by simp only[PV.lt];exact iH.QK h
 | .box _ _ _=>rfl
theorem iH.QK{ps qs:List PV}:iH g ks ps qs→tK 0 qs=true
 | .nil=>rfl
 | .cons h h'=>by simp only[tK,al];exact⟨Vw.QK h,iH.QK h'⟩
end
mutual
theorem Vw.agree(ha:∀k∈ks,g2.at k=g.at k){p q:PV}:Vw g ks p q→Vw g2 ks p q
 | .same h=>.same h
 | .nil=>.nil
 | .acc h hk=>.acc h ((ha _ (qm.1 h)).trans hk)
 | .fk h hk hf=>.fk h ((ha _ (qm.1 h)).trans hk) hf
 | .agg h=>.agg (iH.agree ha h)
 | .fn h=>.fn (iH.agree ha h)
 | .box h hk hc=>.box h ((ha _ (qm.1 h)).trans hk) (iH.agree ha hc)
theorem iH.agree(ha:∀k∈ks,g2.at k=g.at k){ps qs:List PV}:iH g ks ps qs→iH g2 ks ps qs
 | .nil=>.nil
 | .cons h h'=>.cons (Vw.agree ha h) (iH.agree ha h')
end
end
section
variable{P:Program}{X:Cx}{ν ν':Nat→Nm}{g:G}{a:Act}{w:World}{ok:Nat→Prop}{st:Nat→Option En}{ks:List Nat}
mutual
theorem aE.QK(hw:∀b,cF X ν g.at b→b<w.heap.size→ok b∧w.heap[b]?=w.heap[b]?):∀(p:PV)(v:Value),p.lt 0=true→aE w (cF X ν g.at) ν g.at p v→aE w ok ν' st p v
 | .any,_,_,_=>by simp[aE]
 | .undef,_,_,h=>by simpa[aE] using h
 | .b8,_,_,h=>by simpa[aE] using h
 | .d x,v,_,h=>by
   simp only[aE] at h⊢
   exact h.frame hw (aJ _)
 | .agg cs,v,hl,h=>by
   simp only[PV.lt] at hl
   simp only[aE] at h⊢
   obtain⟨vs,e,h⟩:=h
   exact⟨vs,e,az.QK hw cs vs hl h⟩
 | .gV cs,v,hl,h=>by
   simp only[PV.lt] at hl
   simp only[aE] at h⊢
   obtain⟨vs,e,h⟩:=h
   exact⟨vs,e,az.QK hw cs vs hl h⟩
 | .gq xs i off,v,_,h=>by
   simp only[aE] at h⊢
   obtain⟨b,o,cap,h1,h2,h3⟩:=h
   exact⟨b,o,cap,h1.frame hw (aJ _),h2,h3⟩
 | .fn f cs,v,hl,h=>by
   simp only[PV.lt] at hl
   simp only[aE] at h⊢
   obtain⟨vs,e,h⟩:=h
   exact⟨vs,e,az.QK hw cs vs hl h⟩
 | .ptr _ _,_,hl,_=>by simp[PV.lt] at hl
 | .acc _,_,hl,_=>by simp[PV.lt] at hl
 | .gI _ _ _ _,_,hl,_=>by simp[PV.lt] at hl
theorem az.QK(hw:∀b,cF X ν g.at b→b<w.heap.size→ok b∧w.heap[b]?=w.heap[b]?):∀(ps:List PV)(vs:List Value),tK 0 ps=true→az w (cF X ν g.at) ν g.at ps vs→az w ok ν' st ps vs
 | [],[],_,_=>by simp[az]
 | p::ps,v::vs,hl,h=>by
   simp only[tK,al] at hl
   simp only[az] at h⊢
   exact⟨aE.QK hw p v hl.1 h.1,az.QK hw ps vs hl.2 h.2⟩
 | [],_::_,_,h=>by simp[az] at h
 | _::_,[],_,h=>by simp[az] at h
end
theorem OT{w:World}{ok:Nat→Prop}{ν:Nat→Nm}{st:Nat→Option En}:∀{ds:List D}{vs:List Value},az w ok ν st (cE ds) vs→∀(j:Nat)(d:D)(v:Value),ds[j]?=some d→vs[j]?=some v→ia w ok d v
 | [],_,_,j,d,v,h,_=>by simp at h
 | _::_,[],h,_,_,_,_,_=>by simp[cE,az] at h
 | e::ds,u::vs,h,0,d,v,h1,h2=>by
   simp only[cE,aQ,az,aE] at h
   obtain rfl:e=d:=by simpa using h1
   obtain rfl:u=v:=by simpa using h2
   exact h.1
 | e::ds,u::vs,h,j+1,d,v,h1,h2=>by
   simp only[cE,aQ,az] at h
   exact OT (ds:=ds) h.2 j d v (by simpa using h1) (by simpa using h2)
theorem Ks{w:World}{ok:Nat→Prop}{ν:Nat→Nm}{st:Nat→Option En}{b:Nat}{ds:List D}{vs:List Value}(eW:ok b)(hb:b<w.heap.size)(hc:jR w b 0 vs)(h:az w ok ν st (cE ds) vs) :
 ia w ok (.dt [ds]) (.slice (some ⟨b,0,none⟩) [ds].length 1):=by
 have hl:vs.length=ds.length:=by simpa[cE] using h.length
 refine .dt [ds] [vs] b 0 1 ds.length eW hb (by simp) (by unfold maxLen;omega) (by simp[LB]) rfl ?_ ?_ (by simpa using hc) ?_
 ·intro i x hx
  cases i with
  | zero=>obtain rfl:ds=x:=by simpa using hx
          rfl
  | succ i=>simp at hx
 ·intro i x hx
  cases i with
  | zero=>obtain rfl:vs=x:=by simpa using hx
          exact hl
  | succ i=>simp at hx
 ·intro i j x u d v h1 h2 h3 h4
  cases i with
  | zero=>
    obtain rfl:ds=x:=by simpa using h1
    obtain rfl:vs=u:=by simpa using h2
    exact OT h j d v h3 h4
  | succ i=>simp at h1
mutual
theorem aE.vw(hs:Sat P X ν g a w)(hw:∀b,cF X ν g.at b→b<w.heap.size→ok b∧w.heap[b]?=w.heap[b]?)(im:∀b,Own ν g.at b→ok b){p q:PV}:∀(v:Value),Vw g ks p q→aE w (cF X ν g.at) ν g.at p v→aE w ok ν' st q v
 | v,.same hl,h=>aE.QK hw _ v hl h
 | v,.nil,h=>by
   simp only[aE] at h⊢
   rw[h];exact .nil
 | v,.acc _ hk,h=>by
   simp only[aE] at h⊢
   rw[h.2]
   obtain⟨us,h1,h2,h3,_⟩:=hs.en _ _ hk
   exact xj h1 h2 h3 (fun b hb=>im b ⟨_,_,hk,rfl,.inl hb⟩) hw
 | v,.fk (xs:=xs) (e:=e) _ hk hf,h=>by
   simp only[aE] at h⊢
   rw[h.2]
   have hen:=hs.en _ _ hk
   exact kD.data hw (.own e xs) _ _ _ (by simp only[T.G0,hf]) hen.1 fun b hb=>im b ⟨_,_,hk,rfl,oP.2 hb⟩
 | v,.agg hc,h=>by
   simp only[aE] at h⊢
   obtain⟨vs,e,h⟩:=h
   exact⟨vs,e,az.vw hs hw im vs hc h⟩
 | v,.fn hc,h=>by
   simp only[aE] at h⊢
   obtain⟨vs,e,h⟩:=h
   exact⟨vs,e,az.vw hs hw im vs hc h⟩
 | v,.box _ hk hc,h=>by
   simp only[aE] at h⊢
   obtain⟨_,b,h1,h2⟩:=h
   obtain⟨b',vs,T,h3,h4,h5,_⟩:=hs.en _ _ hk
   obtain rfl:b'=b:=by
    rw[h1] at h3
    simpa using h3.symm
   have h6:=az.vw hs hw im vs hc h5
   refine⟨b',0,1,Ks (im b' ⟨_,_,hk,rfl,.inl (by rw[h1];rfl)⟩) (pW h4) (uY h4) h6,by simp,by rw[h2];simp⟩
theorem az.vw(hs:Sat P X ν g a w)(hw:∀b,cF X ν g.at b→b<w.heap.size→ok b∧w.heap[b]?=w.heap[b]?)(im:∀b,Own ν g.at b→ok b){ps qs:List PV}:∀(vs:List Value),iH g ks ps qs→az w (cF X ν g.at) ν g.at ps vs→az w ok ν' st qs vs
 | [],.nil,_=>by simp[az]
 | v::vs,.cons h1 h2,h=>by
   simp only[az] at h⊢
   exact⟨aE.vw hs hw im v h1 h.1,az.vw hs hw im vs h2 h.2⟩
 | _::_,.nil,h=>by simp[az] at h
 | [],.cons _ _,h=>by simp[az] at h
end
end
theorem W7{P:Program}{o:Oper}{g:G}{nr:Operand}{xs:List Operand}{tys:Array TypeId}{d:Nat}(ho:o.op= .call ⟨.value nr,⟨xs⟩,tys⟩)(hd:o.dst=some d){f:FuncId}{cap:List PV}(hfn:g.ev nr= .fn f cap)
 (ks:List Nat) (cR:List PV) (R:PV→List (Option En)→Prop) (hC:C P f cR [] R) (oY:iH g ks (xs.map g.ev++cap) cR) (hR:∀r s,R r s→sc r=true)
 (X:Cx) (ν:Nat→Nm) (a:Act) (w:World) (next:Act→World→Prop) (Q:Exit→Act→World→Prop) (hs:Sat P X ν g a w)
 (hn:∀r s ν' a' w',R r s→Sat P X ν' ⟨lV g.sl d r,g.st⟩ a' w'→next a' w'):o.wp P a w next Q:=by
 have hfv:=hs.ev nr
 rw[hfn] at hfv
 simp only[aE] at hfv
 obtain⟨vcap,hfv,jS⟩:=hfv
 have hxs:=BJ hs xs
 let Xc:Cx:=⟨w,Own ν (c6 []),ν,c6 [],X.Z⟩
 have hno:∀b,¬Own ν (c6 []) b:=by
  rintro b ⟨k,e,h,_⟩
  cases k<;>simp[c6] at h
 have hw:∀b,cF X ν g.at b→b<w.heap.size→cF Xc ν (c6 []) b∧w.heap[b]?=w.heap[b]?:=fun b hb _=>⟨⟨hno b,hb.2⟩,rfl⟩
 have im:∀b,Own ν g.at b→cF Xc ν (c6 []) b:=fun b hb=>⟨hno b,hs.KH hb⟩
 have mR:az w (cF Xc ν (c6 [])) ν (c6 []) cR (xs.map a.eval++vcap):=az.vw hs hw im _ oY (hxs.app jS)
 obtain⟨⟨fn,hfn1,hfn2,hfn3⟩,hC⟩:=hC
 have hr:(execOp a.eval o).run P w= .ok (.enter f ⟨xs.map a.eval++vcap⟩) w:=by
  have n1 : ¬ fn.name = "runtime.NumGoroutine" := by simpa using hfn3
  have n2:¬fn.body=none:=fun e=>by rw[e] at hfn2;cases hfn2
  simp[execOp,ho,resolve,hfv,Deferred.ofValue,invoke,callFunc,program,hfn1,n1,n2,Sem.run]
 have ll:∀k,(⟨cR,[]⟩:G).at k=none:=fun k=>by cases k<;>rfl
 have hent:Sat P Xc ν ⟨cR,[]⟩ ⟨⟨xs.map a.eval++vcap⟩,[]⟩ w:=by
  refine⟨by simpa using mR.length,fun t=>?_,fun k e h=>?_,fun k k' e e' b h=>?_,fun b hb=>?_,fun k h=>?_,fun k h=>?_,⟨fun b hb=>?_,hs.kt rfl fun b hb=>(hno b hb).elim⟩,rR.refl _ w,rfl⟩
  ·have key:∀(ps:List PV)(us:List Value)(t:Nat),az w (cF Xc ν (c6 [])) ν (c6 []) ps us→aE w (cF Xc ν (c6 [])) ν (c6 []) (nth ps t) (us.getD t Go.undef):=by
    intro ps
    induction ps with
    | nil=>intro us t _;cases t<;>simp[nth,aE]
    | cons p ps ih=>
      intro us t hr
      cases us with
      | nil=>simp[az] at hr
      | cons u us=>
        simp only[az] at hr
        cases t with
        | zero=>simpa[nth] using hr.1
        | succ t=>simpa[nth] using ih us t hr.2
   have:=key cR _ t mR
   show aE w (cF Xc ν (c6 [])) ν (c6 []) (nth cR t) ((⟨xs.map a.eval++vcap⟩:Array Value).getD t Go.undef)
   simpa[Array.getD_eq_getD_getElem?] using this
  ·rw[ll] at h;cases h
  ·rw[ll] at h;cases h
  ·exact(hno b hb).elim
  ·rw[ll] at h;cases h
  ·exact⟨rfl,h⟩
  ·exact⟨Nat.lt_of_lt_of_le (hs.E9 b hb).1 hs.An.size,hno b⟩
 unfold Oper.wp
 rw[hr,Oper.upon_enter]
 refine(hC Xc (xs.map a.eval++vcap) rfl rfl hent).mono ?_
 rintro e w' ⟨v,res,st',ν',rfl,hRr,gG⟩
 show next (a.put o.dst v) w'
 rw[hd]
 refine hn res st' ν _ _ hRr (hs.UJ (gG.An.mono fun b hb _=>hno b hb) d res v fun _ _=>?_)
 have:=gG.sl 0
 exact aE.sc res v (hR _ _ hRr) this
section
variable{E:Env}{g:G}{d:Nat}{ty:TypeId}{pos:String}{eM:Array Edge}{gd:Option (Nat×Bool)}
theorem Ym(nr:Operand)(xs:List Operand)(tys:Array TypeId)(f:FuncId)(cap:List PV)(hfn:g.ev nr= .fn f cap)(ks:List Nat)(cR:List PV)(res:PV)(hC:C E.P f cR [] (bz res []))
 (oY:iH g ks (xs.map g.ev++cap) cR) (hsc:sc res=true) :
 kH E.P ⟨some d,.call ⟨.value nr,⟨xs⟩,tys⟩,ty,pos,eM,gd⟩ g ⟨dh nr++xs.flatMap dh,ks⟩ ⟨some (d,res),[]⟩:=by
 intro g2 hg
 have e1:=hg.ev (x:=nr) (fun t h=>by simp[h])
 have e2:=uU hg xs (fun t h=>by simp only[aP];exact .inr h)
 intro X ν a w next Q hs hn
 refine W7 rfl rfl (by rw[e1,hfn]) ks cR (bz res []) hC (by rw[e2];exact oY.agree (fun k hk=>hg.p k hk)) (fun r s h=>by rw[h.1];exact hsc) X ν a w next Q hs ?_
 rintro r s ν' a' w' ⟨rfl,rfl⟩ hs'
 exact hn ν' a' w' hs'
end
def Fin(E:Env)(rs:List ResultVar)(n0:Nat)(R:PV→List (Option En)→Prop)(g:G):Prop:=∃g',qz E.P n0 g g'∧Zt E rs n0 R g'
theorem Fin.plain{E:Env}{rs:List ResultVar}{R:PV→List (Option En)→Prop}{g:G}(ps:List PV)(q:PV)(h1:Ao E g rs=some ps)(h2:cv (kX ps) q)(hl:q.lt 0=true)(hR:R q []):True:=trivial
end Go.Eng
namespace Go.Eng
open Go.RowKit
inductive Ax where
 | go(R:Rd)(δ:Dl)
 | oj(φ:Prop)(R:Rd)(δ:Dl)
 | stop
def Ax.Ok(P:Program)(o:Oper)(g:G):Ax→Prop
 | .go R δ=>kH P o g R δ
 | .oj φ R δ=>φ→kH P o g R δ
 | .stop=>True
def yk:Nat→Nat→Bool
 | 0,_=>true
 | _+1,0=>false
 | n+1,m+1=>yk n m
theorem ld:∀{n m:Nat},yk n m=true→n≤m
 | 0,_,_=>bc _
 | n+1,0,h=>by simp[yk] at h
 | n+1,m+1,h=>Nat.succ_le_succ (ld (by simpa[yk] using h))
def H5:Nat→Nat→Bool
 | 0,0=>true
 | n+1,m+1=>H5 n m
 | _,_=>false
theorem wL:∀{n m:Nat},H5 n m=true→n=m
 | 0,0,_=>rfl
 | n+1,m+1,h=>congrArg (·+1) (wL (by simpa[H5] using h))
 | 0,m+1,h=>by simp[H5] at h
 | n+1,0,h=>by simp[H5] at h
def LG:List D→Nat
 | []=>0
 | _::as=>LG as+1
theorem Li:∀(l:List D),LG l=l.length
 | []=>rfl
 | _::as=>by simp[LG,Li as]
theorem RH{n:Nat}{l:List D}(h:yk n (LG l)=true):n≤l.length:=by
 have:=ld h
 rwa [Li] at this
theorem X3{n:Nat}{l:List D}(h:H5 (LG l) n=true):l.length=n:=by
 have:=wL h
 rwa [Li] at this
def lS:List (Option En)→Nat
 | []=>0
 | _::as=>lS as+1
theorem nJ:∀(l:List (Option En)),lS l=l.length
 | []=>rfl
 | _::as=>by simp[lS,nJ as]
def xY:List PV→Nat
 | []=>0
 | _::as=>xY as+1
theorem oM:∀(l:List PV),xY l=l.length
 | []=>rfl
 | _::as=>by simp[xY,oM as]
def G.new(g:G):Nat:=lS g.st
theorem G.lU(g:G):g.at g.new=none:=FX (by unfold G.new;rw[nJ];exact aJ _)
def tk:Nat→List PV→List PV
 | 0,_=>[]
 | _+1,[]=>[]
 | n+1,a::as=>a::tk n as
theorem Jl:∀(n:Nat)(l:List PV),tk n l=l.take n
 | 0,l=>by simp[tk]
 | n+1,[]=>by simp[tk]
 | n+1,a::as=>by simp[tk,Jl n as]
def dr:Nat→List PV→List PV
 | 0,l=>l
 | _+1,[]=>[]
 | n+1,_::as=>dr n as
theorem Kf:∀(n:Nat)(l:List PV),dr n l=l.drop n
 | 0,l=>by simp[dr]
 | n+1,[]=>by simp[dr]
 | n+1,a::as=>by simp[dr,Kf n as]
def Pk:List PV→List PV→List PV
 | cs,[]=>cs
 | [],vs=>vs
 | _::cs,v::vs=>v::Pk cs vs
def Pt:List PV→Nat→List PV→List PV
 | cs,0,vs=>Pk cs vs
 | [],_+1,vs=>vs
 | c::cs,n+1,vs=>c::Pt cs n vs
theorem RR:∀(cs vs:List PV),vs.length≤cs.length→Pk cs vs=vs++cs.drop vs.length
 | cs,[],_=>by cases cs<;>simp[Pk]
 | [],v::vs,h=>by simp at h
 | c::cs,v::vs,h=>by simp[Pk,RR cs vs (by simpa using h)]
theorem Mg:∀(cs:List PV)(n:Nat)(vs:List PV),n+vs.length≤cs.length→Pt cs n vs=zU cs n vs
 | cs,0,vs,h=>by
   rw[df] at h
   have e:Pt cs 0 vs=Pk cs vs:=by cases cs<;>rfl
   rw[e,RR cs vs h]
   simp[zU]
 | [],n+1,vs,h=>by simp at h
 | c::cs,n+1,vs,h=>by
   have:=Mg cs n vs (by simp at h;omega)
   simp only[Pt,this,zU]
   rw[show n+1+vs.length=n+vs.length+1 by omega]
   simp
def PJ:List (Nat×Nat×Nat)→Nat→Option (Nat×Nat×Nat)
 | [],_=>none
 | a::_,0=>some a
 | _::as,n+1=>PJ as n
theorem LN:∀(l:List (Nat×Nat×Nat))(n:Nat),PJ l n=l[n]?
 | [],n=>by simp[PJ]
 | a::as,0=>rfl
 | a::as,n+1=>by simp[PJ,LN as n]
def TA:List PV→Nat→Option PV
 | [],_=>none
 | a::_,0=>some a
 | _::as,n+1=>TA as n
theorem R9:∀(l:List PV)(n:Nat),TA l n=l[n]?
 | [],n=>by simp[TA]
 | a::as,0=>rfl
 | a::as,n+1=>by simp[TA,R9 as n]
def pls:List (Nat×Nat×Nat)→List (Nat×Nat)
 | []=>[]
 | (_,o,s)::r=>(o,s)::pls r
theorem Wo:∀(l:List (Nat×Nat×Nat)),pls l=l.map fun x=>(x.2.1,x.2.2)
 | []=>rfl
 | (a,o,s)::r=>by simp[pls,Wo r]
def evp(g:G):List (Nat×Operand)→List (Nat×PV)
 | []=>[]
 | (i,x)::r=>(i,g.ev x)::evp g r
theorem UY(g:G):∀(l:List (Nat×Operand)),evp g l=l.map fun x=>(x.1,g.ev x.2)
 | []=>rfl
 | (i,x)::r=>by simp[evp,UY g r]
def ev2(g:G):List (Nat×Operand)→List PV
 | []=>[]
 | (_,x)::r=>g.ev x::ev2 g r
theorem Q1(g:G):∀(l:List (Nat×Operand)),ev2 g l=l.map fun x=>g.ev x.2
 | []=>rfl
 | (i,x)::r=>by simp[ev2,Q1 g r]
def ix2:List (Nat×Operand)→List Nat
 | []=>[]
 | (i,_)::r=>i::ix2 r
theorem P4:∀(l:List (Nat×Operand)),ix2 l=l.map (·.1)
 | []=>rfl
 | (i,x)::r=>by simp[ix2,P4 r]
def sl2:List (Nat×Operand)→List Nat
 | []=>[]
 | (_,x)::r=>dh x++sl2 r
theorem Lb:∀(l:List (Nat×Operand)),sl2 l=l.flatMap fun x=>dh x.2
 | []=>rfl
 | (i,x)::r=>by simp[sl2,Lb r]
def Qy:List (Nat×Operand)→Nat
 | []=>0
 | _::r=>Qy r+1
theorem Kz:∀(l:List (Nat×Operand)),Qy l=l.length
 | []=>rfl
 | (i,x)::r=>by simp[Qy,Kz r]
def Tn:List (Nat×Nat)→Nat→Option (Nat×Nat)
 | [],_=>none
 | a::_,0=>some a
 | _::as,n+1=>Tn as n
theorem RQ:∀(l:List (Nat×Nat))(n:Nat),Tn l n=l[n]?
 | [],n=>by simp[Tn]
 | a::as,0=>rfl
 | a::as,n+1=>by simp[Tn,RQ as n]
def Od(places:List (Nat×Nat))(cs:List PV):List (Nat×PV)→Option (List PV)
 | []=>some cs
 | (i,p)::rest=>
   match Tn places i with
   | none=>none
   | some (off,sz)=>match p.whole,jd (xY (eG p)) sz,yk (off+sz) (xY cs) with
     | true,true,true=>Od places (Pt cs off (eG p)) rest
     | _,_,_=>none
theorem Rm:∀(rest:List (Nat×PV))(places:List (Nat×Nat))(cs r:List PV),Od places cs rest=some r→FE places cs rest=some r
 | [],_,_,_,h=>h
 | (i,p)::rest,places,cs,r,h=>by
   simp only[Od] at h
   simp only[FE]
   split at h
   ·cases h
   ·rename_i off sz hpl
    rw[RQ] at hpl
    rw[hpl]
    simp only
    split at h
    ·rename_i h1 h2 h3
     have h2:xY (eG p)=sz:=bJ h2
     rw[oM] at h2
     have h3:=ld h3
     rw[oM] at h3
     rw[if_pos ⟨h1,h2,h3⟩]
     rw[Mg _ _ _ (by omega)] at h
     exact Rm rest places _ r h
    ·cases h
def i64(p:PV):Option Int:=match p with | .d (.val (.int .i64 n))=>some n|_=>none
def iop(d:Nat)(R:Rd):BinOp→Int→Int→Ax
 | .add,m,n=>.oj (SZ (m+n)) R ⟨some (d,.d (.val (.int .i64 (m+n)))),[]⟩
 | .sub,m,n=>.oj (SZ (m-n)) R ⟨some (d,.d (.val (.int .i64 (m-n)))),[]⟩
 | .mul,m,n=>.oj (SZ (m*n)) R ⟨some (d,.d (.val (.int .i64 (m*n)))),[]⟩
 | .quo,m,n=>.oj (n≠0∧SZ (m.tdiv n)) R ⟨some (d,.d (.val (.int .i64 (m.tdiv n)))),[]⟩
 | .rem,m,n=>.oj (n≠0) R ⟨some (d,.d (.val (.int .i64 (m.tmod n)))),[]⟩
 | _,_,_=>.stop
def cop(d:Nat)(R:Rd):BinOp→Int→Int→Ax
 | .eql,m,n=>.go R ⟨some (d,.d (.val (.bool (m == n)))),[]⟩
 | .neq,m,n=>.go R ⟨some (d,.d (.val (.bool (m != n)))),[]⟩
 | .lss,m,n=>.go R ⟨some (d,.d (.val (.bool (decide (m<n))))),[]⟩
 | .leq,m,n=>.go R ⟨some (d,.d (.val (.bool (decide (m≤n))))),[]⟩
 | .gtr,m,n=>.go R ⟨some (d,.d (.val (.bool (decide (m>n))))),[]⟩
 | .geq,m,n=>.go R ⟨some (d,.d (.val (.bool (decide (m≥n))))),[]⟩
 | _,_,_=>.stop
def Y1:BinOp→Bool
 | .eql=>true
 | .neq=>true
 | .lss=>true
 | .leq=>true
 | .gtr=>true
 | .geq=>true
 | _=>false
def sop(d:Nat)(R:Rd):BinOp→List UInt8→List UInt8→Ax
 | .add,l,m=>.oj (l.length+m.length≤LB) R ⟨some (d,.d (.str (l++m))),[]⟩
 | .eql,l,m=>.go R ⟨some (d,.d (.val (.bool (l == m)))),[]⟩
 | .neq,l,m=>.go R ⟨some (d,.d (.val (.bool (!(l == m))))),[]⟩
 | .lss,l,m=>.go R ⟨some (d,.d (.val (.bool (Op.bytesLess l m)))),[]⟩
 | .leq,l,m=>.go R ⟨some (d,.d (.val (.bool (Op.bytesLess l m||l == m)))),[]⟩
 | .gtr,l,m=>.go R ⟨some (d,.d (.val (.bool (!(Op.bytesLess l m||l == m))))),[]⟩
 | .geq,l,m=>.go R ⟨some (d,.d (.val (.bool (!Op.bytesLess l m)))),[]⟩
 | _,_,_=>.stop
def V3:IntKind→IntKind→Bool
 | .i64,.i64=>true
 | .u8,.u8=>true
 | .u64,.u64=>true
 | .u32,.u32=>true
 | _,_=>false
theorem Ml{a b:IntKind}(h:V3 a b=true):a=b:=by cases a<;>cases b<;>first|rfl|(cases h;done)
def bop(E:Env)(g:G)(d:Nat)(b:BinOp)(t:TypeId)(x y:Operand):Ax:=
 match g.ev x,g.ev y with
 | .d (.val (.int k m)),.d (.val (.int k' n))=>
   match V3 k k' with
   | true=>match Y1 b with
     | true=>cop d ⟨dh x++dh y,[]⟩ b m n
     | false=>match V3 k .i64 with
       | true=>iop d ⟨dh x++dh y,[]⟩ b m n
       | false=>.stop
   | false=>.stop
 | .d (.str l),.d (.str m)=>sop d ⟨dh x++dh y,[]⟩ b l m
 | .d (.val (.bool m)),.d (.val (.bool n))=>
   match E.ti t with
   | some ti=>match ti.ty,b with
     | .bool,.eql=>.go ⟨dh x++dh y,[]⟩ ⟨some (d,.d (.val (.bool (m == n)))),[]⟩
     | .bool,.neq=>.go ⟨dh x++dh y,[]⟩ ⟨some (d,.d (.val (.bool (!(m == n))))),[]⟩
     | _,_=>.stop
   | none=>.stop
 | _,_=>.stop
section
variable{E:Env}{g:G}{d:Nat}{ty:TypeId}{pos:String}{eM:Array Edge}{gd:Option (Nat×Bool)}{dn:Option Nat}
theorem Zu(b:BinOp)(m n:Int)(t u:TypeId)(x y:Operand)(hx:g.ev x= .d (.val (.int .i64 m)))(hy:g.ev y= .d (.val (.int .i64 n))) :
 (iop d ⟨dh x++dh y,[]⟩ b m n).Ok E.P ⟨some d,.binOp b t x y u,ty,pos,eM,gd⟩ g:=by
 cases b<;>first
  | exact fun h=>ZE x y m n t u hx hy h
  | exact fun h=>ZZ x y m n t u hx hy h
  | exact fun h=>Z8 x y m n t u hx hy h
  | exact fun h=>Zg x y m n t u hx hy h.1 h.2
  | exact fun h=>ZC x y m n t u hx hy h
  | exact trivial
theorem Z6(b:BinOp)(k:IntKind)(m n:Int)(t u:TypeId)(x y:Operand)(hx:g.ev x= .d (.val (.int k m)))(hy:g.ev y= .d (.val (.int k n))) :
 (cop d ⟨dh x++dh y,[]⟩ b m n).Ok E.P ⟨some d,.binOp b t x y u,ty,pos,eM,gd⟩ g:=by
 cases b<;>first
  | exact XY _ x y k m n _ t u hx hy rfl
  | exact trivial
theorem ZG(b:BinOp)(l m:List UInt8)(t u:TypeId)(x y:Operand)(hx:g.ev x= .d (.str l))(hy:g.ev y= .d (.str m)) :
 (sop d ⟨dh x++dh y,[]⟩ b l m).Ok E.P ⟨some d,.binOp b t x y u,ty,pos,eM,gd⟩ g:=by
 cases b<;>first
  | exact fun h=>aaz x y l m t u hx hy h
  | exact XM _ x y l m _ t u hx hy rfl
  | exact trivial
theorem Zx(b:BinOp)(t u:TypeId)(x y:Operand):(bop E g d b t x y).Ok E.P ⟨some d,.binOp b t x y u,ty,pos,eM,gd⟩ g:=by
 unfold bop
 split
 ·rename_i k m k' n hx hy
  split
  ·rename_i hk
   have hk:=Ml hk
   subst hk
   split
   ·exact Z6 b _ m n t u x y hx hy
   ·split
    ·rename_i hk
     have hk:=Ml hk
     subst hk
     exact Zu b m n t u x y hx hy
    ·trivial
  ·trivial
 ·rename_i l m hx hy
  exact ZG b l m t u x y hx hy
 ·rename_i m n hx hy
  split
  ·rename_i ti ht
   split
   ·rename_i kE
    exact aap x y m n t u ti ht kE hx hy
   ·rename_i kE
    exact aaj x y m n t u ti ht kE hx hy
   ·trivial
  ·trivial
 ·trivial
end
def T.pv:T→PV
 | .leaf d=>.d d
 | .ref j=>.acc j
 | .own _ _=>.any
def ZR:List T→List PV
 | []=>[]
 | t::ts=>t.pv::ZR ts
def oQ(xs:List (List T))(i:Nat):List T:=xs.getD i []
def lO:List T→Bool
 | []=>true
 | .own _ _::_=>false
 | _::ts=>lO ts
def rJ:List (List T)→Bool
 | []=>true
 | x::xs=>lO x&&rJ xs
def toT:PV→Option T
 | .d x=>some (.leaf x)
 | .b8=>some (.leaf (.dt []))
 | .acc j=>some (.ref j)
 | _=>none
def CS:List PV→Option (List T)
 | []=>some []
 | p::ps=>match toT p,CS ps with|some x,some xs=>some (x::xs)|_,_=>none
def Qk:List T→Nat
 | []=>0
 | _::as=>Qk as+1
theorem Fm:∀(l:List T),Qk l=l.length
 | []=>rfl
 | _::as=>by simp[Qk,Fm as]
theorem UM{xs:List (List T)}{i:Nat}(h:i<xs.length):xs[i]?=some (oQ xs i):=by simp[oQ,cr,ah h]
section
variable{P:Program}{w:World}{ok:Nat→Prop}{ν:Nat→Nm}{st:Nat→Option En}
theorem kD.pv{t:T}{v:Value}{F:List Nat}(h:kD P w ok ν st t v F):aE w ok ν st t.pv v:=by
 cases t with
 | leaf d=>simp only[kD] at h;simp only[T.pv,aE];exact h.1
 | ref j=>simp only[kD] at h;simp only[T.pv,aE];exact⟨h.1,h.2.1⟩
 | own e xs=>simp only[T.pv,aE]
theorem a8.pv:∀{ts:List T}{vs:List Value}{F:List Nat},a8 P w ok ν st ts vs F→az w ok ν st (ZR ts) vs
 | [],[],_,_=>by simp[ZR,az]
 | [],_::_,_,h=>by simp[a8] at h
 | _::_,[],_,h=>by simp[a8] at h
 | t::ts,v::vs,F,h=>by
   simp only[a8] at h
   obtain⟨F1,F2,h1,h2,_⟩:=h
   simp only[ZR,az]
   exact⟨h1.pv,h2.pv⟩
theorem kD.one{t:T}{v:Value}{F:List Nat}(h:kD P w ok ν st t v F)(hν:∀k,(st k).isSome=true→(ν k).v.oneCell'=true):v.oneCell'=true:=by
 cases t with
 | leaf d=>simp only[kD] at h;exact h.1.one
 | ref j=>simp only[kD] at h;rw[h.2.1];exact hν j h.1
 | own e xs=>
   simp only[kD] at h
   obtain⟨us,F1,h1,_⟩:=h
   rcases h1.2 with⟨h2,_⟩|⟨b,c,cur,h2,_⟩<;>rw[h2]<;>rfl
theorem a8.one(hν:∀k,(st k).isSome=true→(ν k).v.oneCell'=true):∀{ts:List T}{vs:List Value}{F:List Nat},a8 P w ok ν st ts vs F→∀v∈vs,v.oneCell'=true
 | [],[],_,_,v,hv=>by cases hv
 | [],_::_,_,h,_,_=>by simp[a8] at h
 | _::_,[],_,h,_,_=>by simp[a8] at h
 | t::ts,v::vs,F,h,u,hu=>by
   simp only[a8] at h
   obtain⟨F1,F2,h1,h2,_⟩:=h
   rcases ay.1 hu with rfl|hu
   ·exact h1.one hν
   ·exact a8.one hν h2 u hu
theorem bu.one(hν:∀k,(st k).isSome=true→(ν k).v.oneCell'=true):∀{xs:List (List T)}{us:List (List Value)}{F:List Nat},bu P w ok ν st xs us F→∀u∈us,∀v∈u,v.oneCell'=true
 | [],[],_,_,v,hv=>by cases hv
 | [],_::_,_,h,_,_=>by simp[bu] at h
 | _::_,[],_,h,_,_=>by simp[bu] at h
 | t::ts,v::vs,F,h,u,hu=>by
   simp only[bu] at h
   obtain⟨F1,F2,h1,h2,_⟩:=h
   rcases ay.1 hu with rfl|hu
   ·exact h1.one hν
   ·exact bu.one hν h2 u hu
theorem a8.len:∀{ts:List T}{vs:List Value}{F:List Nat},a8 P w ok ν st ts vs F→vs.length=ts.length
 | [],[],_,_=>rfl
 | [],_::_,_,h=>by simp[a8] at h
 | _::_,[],_,h=>by simp[a8] at h
 | t::ts,v::vs,F,h=>by
   simp only[a8] at h
   obtain⟨F1,F2,_,h2,_⟩:=h
   simp[h2.len]
theorem bu.len:∀{ts:List (List T)}{vs:List (List Value)}{F:List Nat},bu P w ok ν st ts vs F→vs.length=ts.length
 | [],[],_,_=>rfl
 | [],_::_,_,h=>by simp[bu] at h
 | _::_,[],_,h=>by simp[bu] at h
 | t::ts,v::vs,F,h=>by
   simp only[bu] at h
   obtain⟨F1,F2,_,h2,_⟩:=h
   simp[h2.len]
theorem a8.append:∀{x y:List T}{u v:List Value}{F G:List Nat},a8 P w ok ν st x u F→a8 P w ok ν st y v G→a8 P w ok ν st (x++y) (u++v) (F++G)
 | [],y,[],v,F,G,h,h'=>by simp only[a8] at h;subst h;simpa using h'
 | [],_,_::_,_,_,_,h,_=>by simp[a8] at h
 | _::_,_,[],_,_,_,h,_=>by simp[a8] at h
 | t::ts,y,a::u,v,F,G,h,h'=>by
   simp only[a8] at h
   obtain⟨F1,F2,h1,h2,rfl⟩:=h
   simp only[bB,a8]
   exact⟨F1,F2++G,h1,h2.append h',by rw[bj]⟩
theorem bu.append:∀{x y:List (List T)}{u v:List (List Value)}{F G:List Nat},bu P w ok ν st x u F→bu P w ok ν st y v G→bu P w ok ν st (x++y) (u++v) (F++G)
 | [],y,[],v,F,G,h,h'=>by simp only[bu] at h;subst h;simpa using h'
 | [],_,_::_,_,_,_,h,_=>by simp[bu] at h
 | _::_,_,[],_,_,_,h,_=>by simp[bu] at h
 | t::ts,y,a::u,v,F,G,h,h'=>by
   simp only[bu] at h
   obtain⟨F1,F2,h1,h2,rfl⟩:=h
   simp only[bB,bu]
   exact⟨F1,F2++G,h1,h2.append h',by rw[bj]⟩
theorem a8.split:∀(n:Nat){x:List T}{u:List Value}{F:List Nat},a8 P w ok ν st x u F→∃F1 F2,a8 P w ok ν st (x.take n) (u.take n) F1∧a8 P w ok ν st (x.drop n) (u.drop n) F2∧F=F1++F2
 | 0,x,u,F,h=>⟨[],F,by simp[a8],by simpa using h,rfl⟩
 | n+1,[],[],F,h=>⟨[],F,by simp[a8],by simpa using h,rfl⟩
 | _+1,[],_::_,_,h=>by simp[a8] at h
 | _+1,_::_,[],_,h=>by simp[a8] at h
 | n+1,t::ts,a::u,F,h=>by
   simp only[a8] at h
   obtain⟨F1,F2,h1,h2,rfl⟩:=h
   obtain⟨G1,G2,k1,k2,rfl⟩:=a8.split n h2
   refine⟨F1++G1,G2,?_,by simpa using k2,by rw[bj]⟩
   simp only[dQ,a8]
   exact⟨F1,G1,h1,k1,rfl⟩
theorem ES:∀{x:List T}{u:List Value}{F:List Nat},a8 P w ok ν st x u F→lO x=true→F=[]
 | [],[],F,h,_=>by simpa only[a8] using h
 | [],_::_,_,h,_=>by simp[a8] at h
 | _::_,[],_,h,_=>by simp[a8] at h
 | t::ts,a::u,F,h,hn=>by
   simp only[a8] at h
   obtain⟨F1,F2,h1,h2,rfl⟩:=h
   cases t with
   | leaf d=>simp only[kD] at h1;simp only[lO] at hn;rw[h1.2,ES h2 hn];rfl
   | ref j=>simp only[kD] at h1;simp only[lO] at hn;rw[h1.2.2,ES h2 hn];rfl
   | own e xs=>simp[lO] at hn
theorem OK:∀{x:List (List T)}{u:List (List Value)}{F:List Nat},bu P w ok ν st x u F→rJ x=true→F=[]
 | [],[],F,h,_=>by simpa only[bu] using h
 | [],_::_,_,h,_=>by simp[bu] at h
 | _::_,[],_,h,_=>by simp[bu] at h
 | t::ts,a::u,F,h,hn=>by
   simp only[bu] at h
   obtain⟨F1,F2,h1,h2,rfl⟩:=h
   simp only[rJ,al] at hn
   rw[ES h1 hn.1,OK h2 hn.2]
   rfl
theorem bu.get:∀(i:Nat){xs:List (List T)}{us:List (List Value)}{F:List Nat},bu P w ok ν st xs us F→i<xs.length →
 ∃u G,us[i]?=some u∧a8 P w ok ν st (oQ xs i) u G∧∀(x':List T)(u':List Value),a8 P w ok ν st x' u' G→bu P w ok ν st (xs.set i x') (us.set i u') F
 | _,[],_,_,_,hi=>by simp at hi
 | _,_::_,[],_,h,_=>by simp[bu] at h
 | 0,x::xs,u::us,F,h,_=>by
   simp only[bu] at h
   obtain⟨F1,F2,h1,h2,rfl⟩:=h
   refine⟨u,F1,rfl,h1,fun x' u' h'=>?_⟩
   simp only[iu,bu]
   exact⟨F1,F2,h',h2,rfl⟩
 | i+1,x::xs,u::us,F,h,hi=>by
   simp only[bu] at h
   obtain⟨F1,F2,h1,h2,rfl⟩:=h
   obtain⟨u1,G,k1,k2,k3⟩:=bu.get i h2 (by simpa using hi)
   refine⟨u1,G,by simpa using k1,by simpa[oQ] using k2,fun x' u' h'=>?_⟩
   simp only[nY,bu]
   exact⟨F1,F2,h1,k3 x' u' h',rfl⟩
theorem OA:∀{ps:List PV}{ts:List T},CS ps=some ts→ts.length=ps.length
 | [],ts,h=>by simp[CS] at h;simp[←h]
 | p::ps,ts,h=>by
   simp only[CS] at h
   split at h
   ·rename_i x xs h1 h2
    obtain rfl:=Option.some.inj h
    simp[OA h2]
   ·cases h
theorem LM:∀{ps:List PV}{ts:List T}{vs:List Value},az w ok ν st ps vs→CS ps=some ts→a8 P w ok ν st ts vs []
 | [],ts,[],_,h=>by simp only[CS,Option.some.injEq] at h;subst h;simp only[a8]
 | [],_,_::_,h,_=>by simp[az] at h
 | _::_,_,[],h,_=>by simp[az] at h
 | p::ps,ts,v::vs,h,ht=>by
   simp only[CS] at ht
   simp only[az] at h
   split at ht
   ·rename_i x xs h1 h2
    obtain rfl:=Option.some.inj ht
    simp only[a8]
    refine⟨[],[],?_,LM h.2 h2,rfl⟩
    have hp:=h.1
    cases p<;>simp only[toT] at h1<;>first|(cases h1;done)|skip
    ·obtain rfl:=Option.some.inj h1
     simp only[aE] at hp
     subst hp
     simp only[kD,and_true]
     exact .nil
    ·obtain rfl:=Option.some.inj h1
     simp only[aE] at hp
     simp only[kD,and_true]
     exact hp
    ·obtain rfl:=Option.some.inj h1
     simp only[aE] at hp
     simp only[kD,and_true]
     exact hp
   ·cases ht
theorem KT:∀{xs:List (List D)}{us:List (List Value)}{sz:Nat},cu w ok sz xs us→bu P w ok ν st (lift xs) us []
 | [],us,sz,h=>by
   have:us=[]:=bP h.len
   subst this
   simp only[lift,dD,bu]
 | x::xs,[],sz,h=>by have:=h.len;simp at this
 | x::xs,u::us,sz,h=>by
   have h1:∀(x:List D)(u:List Value),x.length=u.length→(∀(j:Nat)(d:D)(v:Value),x[j]?=some d→u[j]?=some v→ia w ok d v)→a8 P w ok ν st (x.map T.leaf) u []:=by
    intro x
    induction x with
    | nil=>intro u hl _;cases u with
      | nil=>simp[a8]
      | cons a b=>simp at hl
    | cons d x ih=>intro u hl hr;cases u with
      | nil=>simp at hl
      | cons v u=>
        simp only[aQ,a8,kD]
        exact⟨[],[],⟨hr 0 d v rfl rfl,rfl⟩,ih u (by simpa using hl) fun j d' v' k1 k2=>hr (j+1) d' v' (by simpa using k1) (by simpa using k2),rfl⟩
   have h2:cu w ok sz xs us:=⟨by simpa using h.len,fun i y hy=>h.hx (i+1) y (by simpa using hy),fun i y hy=>h.hu (i+1) y (by simpa using hy),fun i j y u d v k1 k2 k3 k4=>h.hr (i+1) j y u d v (by simpa using k1) (by simpa using k2) k3 k4⟩
   have:=KT h2
   simp only[lift,aQ,bu] at this⊢
   exact⟨[],[],h1 x u (by rw[h.hx 0 x rfl,h.hu 0 u rfl]) fun j d v k1 k2=>h.hr 0 j x u d v rfl rfl k1 k2,this,rfl⟩
theorem xU{sz:Nat}{us:List (List Value)}(hu:∀(i:Nat)(u:List Value),us[i]?=some u→u.length=sz)(h1:∀u∈us,∀v∈u,v.oneCell'=true):cu w ok sz (us.map fun u=>u.map D.val) us:=by
 refine⟨by simp,fun i x hx=>?_,hu,fun i j x u d v k1 k2 k3 k4=>?_⟩
 ·rw[jc] at hx
  cases hq:us[i]? with
  | none=>rw[hq] at hx;cases hx
  | some u=>rw[hq] at hx;obtain rfl:=Option.some.inj hx;simp[hu i u hq]
 ·rw[jc,k2] at k1
  obtain rfl:=Option.some.inj k1
  rw[jc,k4] at k3
  obtain rfl:=Option.some.inj k3
  exact .val v (h1 u (c9 k2) v (c9 k4))
end
section
variable{P:Program}{X:Cx}{ν:Nat→Nm}{g:G}{a:Act}{w:World}
theorem vg(h:Sat P X ν g a w){k e:Nat}{xs:List (List T)}(hk:g.at k=some (.fk e xs)):∃us:List (List Value),w.ownsRow 0 e (P.cellsOf e) (ν k).v xs.length us.flatten ∧
 (∀(i:Nat)(u:List Value),us[i]?=some u→u.length=P.cellsOf e)∧bu P w (cF X ν g.at) ν g.at xs us (ν k).f∧xs.length≤LB∧(hb (ν k).v++(ν k).f).Nodup:=by
 obtain⟨h1,h2⟩:=h.en k _ hk
 simp only[kD] at h1
 obtain⟨us,F1,k1,k2,k3,k4,k5⟩:=h1
 have:F1=(ν k).f:=(List.append_cancel_left k5).symm
 exact⟨us,k1,k2,this▸k3,k4,h2⟩
theorem zN{ok:Nat→Prop}{st:Nat→Option En}{k e:Nat}{xs:List (List T)}{us:List (List Value)}(h1:w.ownsRow 0 e (P.cellsOf e) (ν k).v xs.length us.flatten)
 (h2:∀(i:Nat)(u:List Value),us[i]?=some u→u.length=P.cellsOf e) (h3:bu P w ok ν st xs us (ν k).f) (h4:xs.length≤LB) (h5:(hb (ν k).v++(ν k).f).Nodup):kP P w ok ν st k (.fk e xs):=by
 refine⟨?_,h5⟩
 simp only[kD]
 exact⟨us,(ν k).f,h1,h2,h3,h4,rfl⟩
theorem Sd(h:Sat P X ν g a w){k e:Nat}{xs:List (List T)}(hk:g.at k=some (.fk e xs)):∃b c,(ν k).v= .slice b xs.length c:=by
 obtain⟨us,ho,_⟩:=vg h hk
 rcases ho.2 with⟨h1,h2⟩|⟨b,cap,cur,h1,_⟩
 ·exact⟨none,0,by rw[h1,h2]⟩
 ·exact⟨_,cap,h1⟩
theorem pj:∀(l:List (Option En))(k:Nat)(x y:Option En),da (da l k x) k y=da l k y
 | [],0,_,_=>rfl
 | [],n+1,x,y=>by simp[da,pj [] n x y]
 | _::_,0,_,_=>rfl
 | a::as,n+1,x,y=>by simp[da,pj as n x y]
theorem Sat.lift(h:Sat P X ν g a w){k e:Nat}{xs:List (List D)}(hk:g.at k=some (.acc e xs)):Sat P X ν ⟨g.sl,da g.st k (some (.fk e (lift xs)))⟩ a w:=by
 have:=h.C3 (w':=w) k (.acc e xs) (.fk e (Eng.lift xs)) hk rfl (rR.refl _ w) none .undef Go.undef ?_ (fun h=>by cases h)
 ·exact this
 ·intro hw hm
  obtain⟨us,ho,je,hB,hf0⟩:=h.en k _ hk
  have hl:(Eng.lift xs).length=xs.length:=by simp[Eng.lift]
  refine zN (us:=us) (by rw[hl];exact ho) (fun i u hu=>je.hu i u hu) ?_ (by rw[hl];exact hB) ?_
  ·rw[hf0]
   exact KT (je.frame hw (aJ _))
  ·rw[hf0,bl]
   unfold hb
   split<;>simp
end
section
variable{E:Env}{g:G}{d:Nat}{ty:TypeId}{pos:String}{eM:Array Edge}{gd:Option (Nat×Bool)}{dn:Option Nat}
theorem NP(x:Operand)(t k i off sz e:Nat)(ti ei:TI)(xs:List (List T))(ht:E.ti t=some ti)(he:E.ti e=some ei)(hsz:sz=ei.n)(hx:g.ev x= .gI k i off sz)(hk:g.at k=some (.fk e xs))
 (hi:i<xs.length) (hl:off+ti.n≤(oQ xs i).length) :
 kH E.P ⟨some d,.load t x,ty,pos,eM,gd⟩ g ⟨dh x,[k]⟩ ⟨some (d,Rp ti.isAgg (((ZR (oQ xs i)).drop off).take ti.n)),[]⟩:=by
 intro g2 hg
 have h1:=hg.ev (x:=x) (fun t h=>h)
 have h3:=(hg.p k (by simp)).trans hk
 refine Dn.val rfl fun X ν a w hs=>?_
 have hv:=hs.ev x
 rw[h1,hx] at hv
 simp only[aE] at hv
 obtain⟨_,b,n,c,hb,hv⟩:=hv
 obtain⟨us,ho,hul,hr,_⟩:=vg hs h3
 have hcell:=qa ho hb
 rw[(E.ok e ei he).cells] at hul
 obtain⟨u,G,hu,hc,_⟩:=hr.get i hi
 have oq:=hc.pv
 have hlenu:=hc.len
 have hrep':=(oq.drop off).take ti.n
 have dy:((u.drop off).take ti.n).length=ti.n:=by simp;omega
 have hca:jR w b (i*ei.n+off) ((u.drop off).take ti.n):=by
  have h0:=hcell.sub (us':=(u.drop off).take ti.n) (i*ei.n+off) (fun j x hx=>by
   rw[cZ] at hx
   split at hx
   ·rw[dz] at hx
    have:=AV us i (off+j) u x hul hu hx
    rw[Nat.add_assoc];exact this
   ·cases hx)
  simpa using h0
 subst hsz
 obtain⟨v,lh,hvv⟩:=qo (E.ok t ti ht) w b _ _ dy hca
 refine⟨v,?_,ym hrep' hvv⟩
 simp only[execOp,hv,Instr.loadAt,Instr.sureAddr,Sem.run_bind,Sem.run_pure,Result.andThen_ok,lh]
theorem Qg(x y:Operand)(s:Nat)(si ei:TI)(e k:Nat)(xs:List (List T))(n:Int)(hs:E.ti s=some si)(o9:si.ty= .slice e)(he:E.ti e=some ei)(hx:g.ev x= .acc k)(hk:g.at k=some (.fk e xs))(hy:g.ev y= .d (.val (.int .i64 n)))
 (h0:0≤n) (lL:n.toNat<xs.length) :
 kH E.P ⟨some d,.indexAddr s x y,ty,pos,eM,gd⟩ g ⟨dh x++dh y,[k]⟩ ⟨some (d,.gI k n.toNat 0 ei.n),[]⟩:=by
 intro g2 hg
 have h1:=hg.ev (x:=x) (fun t h=>by simp[h])
 have h2:=hg.ev (x:=y) (fun t h=>by simp[h])
 have h3:=(hg.p k (by simp)).trans hk
 refine Dn.val rfl fun X ν a w hs'=>?_
 have hu:=(E.ok s si hs).ty
 rw[o9] at hu
 have hv:=hs'.ev x
 rw[h1,hx] at hv
 have nh:=hs'.ev y
 rw[h2,hy] at nh
 have nh:=fU nh
 simp only[aE] at hv⊢
 obtain⟨us,ho,_⟩:=vg hs' h3
 rcases ho.2 with⟨_,hn⟩|⟨b,cap,cur,hb,_⟩
 ·omega
 ·have hlt':n<(xs.length:Int):=by omega
  refine⟨.pointer (some ⟨b,n.toNat*ei.n,none⟩),?_,by rw[h3];rfl,b,xs.length,cap,hb,rfl⟩
  simp[execOp,hv.2,hb,nh,Instr.indexAt,asIntOf,run_underlying hu,h0,hlt',(E.ok e ei he).size,add_lit]
theorem QU(x:Operand)(s:Nat)(si:TI)(e' e k:Nat)(xs:List (List T))(hs:E.ti s=some si)(o9:si.ty= .slice e')(hx:g.ev x= .acc k)(hk:g.at k=some (.fk e xs)) :
 kH E.P ⟨some d,.call ⟨.builtin .len,#[x],#[s]⟩,ty,pos,eM,gd⟩ g ⟨dh x,[k]⟩ ⟨some (d,.d (.val (.int .i64 (xs.length:Int)))),[]⟩:=by
 intro g2 hg
 have h1:=hg.ev (x:=x) (fun t h=>h)
 have h3:=(hg.p k (by simp)).trans hk
 refine Dn.val rfl fun X ν a w hs'=>?_
 have hu:=(E.ok s si hs).ty
 rw[o9] at hu
 have hv:=hs'.ev x
 rw[h1,hx] at hv
 simp only[aE] at hv
 obtain⟨b,c,hb⟩:=Sd hs' h3
 exact⟨_,xp rfl a w _ (by rw[hv.2,hb];exact run_len_slice hu _ _ _ _ _),nS rfl⟩
theorem AP(x y:Operand)(t k i off sz e:Nat)(ti ei:TI)(xs:List (List T))(p:PV)(cs:List T)(ht:E.ti t=some ti)(he:E.ti e=some ei)(hsz:sz=ei.n)(hx:g.ev x= .gI k i off sz)(hk:g.at k=some (.fk e xs))(hy:g.ev y=p)
 (hi:i<xs.length) (hl:off+ti.n≤ei.n) (hp:p.whole=true) (hn:(eG p).length=ti.n) (hcs:CS (eG p)=some cs) (hno:lO (((oQ xs i).drop off).take ti.n)=true) :
 kH E.P ⟨dn,.store t x y,ty,pos,eM,gd⟩ g ⟨dh x++dh y++dn.toList,[k]⟩ ⟨dn.map fun d=>(d,.undef),[(k,.fk e (xs.set i (sS (oQ xs i) off cs)))]⟩:=by
 intro g2 hg
 have e1:=hg.ev (x:=x) (fun t h=>by simp[h])
 have e2:=hg.ev (x:=y) (fun t h=>by simp[h])
 have h3:=(hg.p k (by simp)).trans hk
 intro X ν a w next Q hs hnx
 have hv:=hs.ev x
 rw[e1,hx] at hv
 have hw:=hs.ev y
 rw[e2,hy] at hw
 simp only[aE] at hv
 obtain⟨_,b,n,c,hb,hv⟩:=hv
 obtain⟨us,ho,hul,je,hB,hnd⟩:=vg hs h3
 have pV:=hw.cells hp hs.nu
 have dy:=pV.length
 have htc:=LM (P:=E.P) pV hcs
 rw[(E.ok e ei he).cells] at hul ho
 subst hsz
 rcases ho.2 with⟨h1,h2⟩|⟨b',cap,cur,h1,_,h2,h4,h5,h6,h7⟩
 ·omega
 ·rw[h1] at hb
  obtain⟨rfl,rfl,rfl⟩:b'=b∧xs.length=n∧cap=c:=by simpa using hb
  have hull:us.length=xs.length:=je.len
  have hfl:=(xU (w:=w) (ok:=fun _=>True) hul (je.one hs.nu)).k9
  rw[dA] at hfl
  have hmulle:(i+1)*ei.n≤xs.length*ei.n:=bS _ hi
  have hmulle2:xs.length*ei.n≤cap*ei.n:=bS _ h4
  have hadd:(i+1)*ei.n=i*ei.n+ei.n:=by rw[cW];omega
  have hone:∀u∈(a.eval y).cells.toList,u.oneCell'=true:=htc.one hs.nu
  have hvl:(a.eval y).cells.toList.length=ti.n:=by rw[dy,hn]
  have lh:=u7 (E.ok t ti ht) w b' (i*ei.n+off) e cur (a.eval y) h2 hvl (by omega) hone
  have hr:(execOp a.eval ⟨dn,.store t x y,ty,pos,eM,gd⟩).run E.P w= .ok .skip (w.setRow b' (cur.toList.take (i*ei.n+off)++(a.eval y).cells.toList++cur.toList.drop (i*ei.n+off+(a.eval y).cells.toList.length)).toArray):=by
   simp only[execOp,hv,Instr.storeAt,Instr.sureAddr,Sem.run_bind,Sem.run_pure,Result.andThen_ok,lh]
  have hcur:cur.toList=us.flatten++cur.toList.drop (xs.length*ei.n):=by rw[←h7];exact(ig _ _).symm
  have hnew:cur.toList.take (i*ei.n+off)++(a.eval y).cells.toList++cur.toList.drop (i*ei.n+off+(a.eval y).cells.toList.length)=(us.set i (sS (us.getD i []) off (a.eval y).cells.toList)).flatten++cur.toList.drop (xs.length*ei.n):=by
   have:=Hv us i off (a.eval y).cells.toList (cur.toList.drop (xs.length*ei.n)) hul (by omega) (by omega)
   rw[←hcur] at this
   rw[←this,bj]
   rfl
  obtain⟨u,G,hu,hc,hset⟩:=je.get i hi
  have hug:us.getD i []=u:=by simp[cr,hu]
  have huil:=hul i u hu
  have hxil:(oQ xs i).length=ei.n:=by rw[←hc.len];exact huil
  have hcsl:cs.length=ti.n:=by rw[OA hcs,hn]
  obtain⟨G1,G2,c1,c2,rfl⟩:=hc.split off
  obtain⟨G3,G4,c3,c4,rfl⟩:=c2.split ti.n
  have hG3:G3=[]:=ES c3 hno
  subst hG3
  have qK:=hset (sS (oQ xs i) off cs) (sS u off (a.eval y).cells.toList) (by
   unfold sS
   refine c1.append ?_
   refine htc.append ?_
   rw[mV,mV] at c4
   rw[hcsl,hvl]
   exact c4)
  rw[←hug] at qK
  have hul':∀(j:Nat)(z:List Value),(us.set i (sS (us.getD i []) off (a.eval y).cells.toList))[j]?=some z→z.length=ei.n:=by
   intro j z hz
   rw[km] at hz
   by_cases hij:i=j
   ·subst hij
    rw[if_pos rfl,if_pos (by omega)] at hz
    obtain rfl:=Option.some.inj hz
    rw[hug,LL _ _ _ (by rw[huil,hvl];exact hl),huil]
   ·rw[if_neg hij] at hz
    exact hul j z hz
  have hf2:=(xU (w:=w) (ok:=fun _=>True) hul' (qK.one hs.nu)).k9
  rw[dA,jh] at hf2
  have hbF:∀b∈(ν k).f,b≠b':=by
   intro b hbf hbe
   rw[h1] at hnd
   exact(dm.1 hnd).2.2 b' (CT.2 rfl) b hbf hbe.symm
  unfold Oper.wp
  rw[hr,Oper.upon_skip,hnew]
  refine hnx _ _ _ (hs.C3 k (.fk e xs) (.fk e (xs.set i (sS (oQ xs i) off cs))) h3 rfl (kq w b' _ _ (.inl (by rw[h1];rfl))) dn .undef Go.undef ?_ ?_)
  ·intro hwf hm
   refine zN (us:=us.set i (sS (us.getD i []) off (a.eval y).cells.toList)) ?_ ?_ ?_ (by simpa using hB) hnd
   ·rw[(E.ok e ei he).cells,h1]
    rw[hull] at hfl hf2
    refine⟨by rw[hf2,jh],.inr ⟨b',cap,_,by simp,bc _,setRow_heap w b' _ _ e _ h2,by simpa using h4,h5,?_,?_⟩⟩
    ·simp only[eh,aU,hf2,eO,fm,h6]
     omega
    ·rw[jh,bV (by rw[hf2];exact aJ _),ao (by rw[hf2];exact aJ _)]
   ·rw[(E.ok e ei he).cells];exact hul'
   ·refine qK.frame hwf (by simp[World.setRow]) hm _ _ _ fun b hb=>?_
    have jJ:=hbF b hb
    exact(kq w b' _ (fun c=>c=b') rfl).block b (je.lt _ _ _ b hb) jJ
  ·intro _
   simp only[aE]
theorem zK:∀(x:List D),lO (x.map T.leaf)=true
 | []=>rfl
 | d::x=>by simp[lO,zK x]
theorem So:∀{x:List T}(n m:Nat),lO x=true→lO ((x.drop n).take m)=true:=by
 have h1:∀(x:List T)(n:Nat),lO x=true→lO (x.drop n)=true:=by
  intro x
  induction x with
  | nil=>intro n h;simpa using h
  | cons t x ih=>
    intro n h
    cases n with
    | zero=>exact h
    | succ n=>
      cases t with
      | own e xs=>simp[lO] at h
      | leaf d=>exact ih n (by simpa[lO] using h)
      | ref d=>exact ih n (by simpa[lO] using h)
 have h2:∀(x:List T)(n:Nat),lO x=true→lO (x.take n)=true:=by
  intro x
  induction x with
  | nil=>intro n h;simpa using h
  | cons t x ih=>
    intro n h
    cases n with
    | zero=>rfl
    | succ n=>
      cases t with
      | own e xs=>simp[lO] at h
      | leaf d=>simpa[lO] using ih n (by simpa[lO] using h)
      | ref d=>simpa[lO] using ih n (by simpa[lO] using h)
 intro x n m h
 exact h2 _ m (h1 _ n h)
theorem UH(xs:List (List D))(i:Nat):oQ (lift xs) i=(row xs i).map T.leaf:=by
 unfold oQ lift row
 simp only[List.getD_eq_getElem?_getD,jc]
 cases xs[i]?<;>rfl
theorem Df:∀(xs:List (List D)),rJ (lift xs)=true
 | []=>rfl
 | x::xs=>by
   have:=Df xs
   simp only[lift,aQ,rJ,al] at this⊢
   exact⟨zK x,this⟩
theorem LI(x y:Operand)(t k i off sz e:Nat)(ti ei:TI)(xs:List (List D))(p:PV)(cs:List T)(ht:E.ti t=some ti)(he:E.ti e=some ei)(hsz:sz=ei.n)(hx:g.ev x= .gI k i off sz)(hk:g.at k=some (.acc e xs))(hy:g.ev y=p)
 (hi:i<xs.length) (hl:off+ti.n≤ei.n) (hp:p.whole=true) (hn:(eG p).length=ti.n) (hcs:CS (eG p)=some cs) :
 kH E.P ⟨dn,.store t x y,ty,pos,eM,gd⟩ g ⟨dh x++dh y++dn.toList,[k]⟩ ⟨dn.map fun d=>(d,.undef),[(k,.fk e ((lift xs).set i (sS (oQ (lift xs) i) off cs)))]⟩:=by
 intro g2 hg X ν a w next Q hs hnx
 have e1:=hg.ev (x:=x) (fun t h=>by simp[h])
 have e2:=hg.ev (x:=y) (fun t h=>by simp[h])
 have h3:=(hg.p k (by simp)).trans hk
 have hs2:=hs.lift h3
 have hev:∀z,(⟨g2.sl,da g2.st k (some (.fk e (lift xs)))⟩:G).ev z=g2.ev z:=fun z=>by cases z<;>rfl
 refine AP (g:=⟨g2.sl,da g2.st k (some (.fk e (lift xs)))⟩) x y t k i off sz e ti ei (lift xs) p cs ht he hsz (by rw[hev,e1];exact hx) ?_ (by rw[hev,e2];exact hy) (by rw[sx];exact hi) hl hp hn hcs ?_ _ ⟨fun _ _=>rfl,fun _ _=>rfl⟩ X ν a w next Q hs2 ?_
 ·rw[vu,if_pos rfl]
 ·rw[UH]
  exact So _ _ (zK _)
 ·intro ν' a' w' h
  refine hnx ν' a' w' ?_
  simpa only[G.app,yf,pj] using h
end
section
variable{E:Env}{g:G}{d:Nat}{ty:TypeId}{pos:String}{eM:Array Edge}{gd:Option (Nat×Bool)}{dn:Option Nat}
def LW(E:Env)(sz:Nat)(g:G)(p:PV)(ys:List (List T)):Prop:=
 (∃ys',wO E sz g p ys'∧ys=lift ys')∨(∃m e ei,p= .acc m∧g.at m=some (.fk e ys)∧E.ti e=some ei∧ei.n=sz∧rJ ys=true)
theorem LW.agree{R:Rd}{g g2:G}(h:Bj R g g2){sz:Nat}{p:PV}{ys:List (List T)}(hp:∀k∈yT p,k∈R.p)(ha:LW E sz g p ys):LW E sz g2 p ys:=by
 rcases ha with⟨ys',h1,h2⟩|⟨m,e,ei,rfl,hk,he,hz⟩
 ·exact .inl ⟨ys',h1.agree h hp,h2⟩
 ·exact .inr ⟨m,e,ei,rfl,(h.p m (hp m (by simp[yT]))).trans hk,he,hz⟩
theorem GG{X:Cx}{ν:Nat→Nm}{g:G}{a:Act}{w:World}{sz:Nat}{p:PV}{ys:List (List T)}{v:Value}(h:Sat E.P X ν g a w)(ha:LW E sz g p ys)(hv:aE w (cF X ν g.at) ν g.at p v) :
 ∃vs:List (List Value),bu E.P w (cF X ν g.at) ν g.at ys vs []∧(∀(i:Nat)(u:List Value),vs[i]?=some u→u.length=sz)∧yv w v vs∧ys.length≤LB:=by
 rcases ha with⟨ys',h1,rfl⟩|⟨m,e,ei,rfl,hk,he,hz,hn⟩
 ·obtain⟨vs,h2,h3,h4⟩:=vE (P0:=E.P) h h1 hv
  exact⟨vs,KT h2,h2.hu,h3,by rw[sx];exact h4⟩
 ·simp only[aE] at hv
  obtain⟨us,ho,hul,je,hB,hnd⟩:=vg h hk
  have hf:=OK je hn
  rw[hf] at je
  refine⟨us,je,fun i u hu=>by rw[←hz,← (E.ok e ei he).cells];exact hul i u hu,?_,hB⟩
  rw[hv.2]
  have hl:=je.len
  rcases ho.2 with⟨h1,h2⟩|⟨b,cap,cur,h1,_⟩
  ·left
   refine⟨⟨none,0,h1⟩,bP (by rw[hl];exact h2)⟩
  ·right
   exact⟨b,0,cap,by rw[h1,hl],qa ho h1⟩
theorem Hw{v:Value}{F:List Nat}(hF:F.Nodup)(h:∀b,wH v=some b→b∉F):(hb v++F).Nodup:=by
 unfold hb
 cases hv:wH v with
 | none=>simpa using hF
 | some b=>simpa using ⟨h b hv,hF⟩
theorem row_one{w:World}{e sz n:Nat}{v:Value}{us:List Value}(h:w.ownsRow 0 e sz v n us):v.oneCell'=true:=by
 rcases h.2 with⟨h,_⟩|⟨b,c,cur,h,_⟩<;>rw[h]<;>rfl
theorem FT(s x:Operand)(t e k':Nat)(ti ei:TI)(p:PV)(ys:List (List T))(ht:E.ti t=some ti)(kE:ti.ty= .slice e)(he:E.ti e=some ei)(hs:g.ev s= .b8)(hx:g.ev x=p)(ha:LW E ei.n g p ys)(hk':g.at k'=none)
 (hlb:ys.length≤LB) (hby:ys.length*ei.bytes≤140737488355328) :
 kH E.P ⟨some d,.call ⟨.builtin .append,#[s,x],#[t,t]⟩,ty,pos,eM,gd⟩ g ⟨dh s++dh x,k'::yT p⟩ ⟨some (d,.acc k'),[(k',.fk e ys)]⟩:=by
 intro g2 hg
 have e1:=hg.ev (x:=s) (fun t h=>by simp[h])
 have e2:=hg.ev (x:=x) (fun t h=>by simp[h])
 have h3:=(hg.p k' (by simp)).trans hk'
 have ha2:=ha.agree hg (fun k h=>by simp[h])
 intro X ν a w next Q gG hn
 have hv:=gG.ev s
 rw[e1,hs] at hv
 have nh:=gG.ev x
 rw[e2,hx] at nh
 simp only[aE] at hv
 obtain⟨vs,htr,hul,hsl,_⟩:=GG gG ha2 nh
 have hraw:=xU (w:=w) (ok:=fun _=>True) hul (htr.one gG.nu)
 have hl:=htr.len
 obtain⟨v',w',k1,k2,k3,k4⟩:=oO ht kE he w ty (.slice none 0 0) (a.eval x) 0 [] _ vs _ (World.ownsRow_nil w 0 e ei.n) hraw hsl (by simpa[hl] using hlb) (by simpa[hl] using hby)
 have hr:=tF (E:=E) (o:=⟨some d,.call ⟨.builtin .append,#[s,x],#[t,t]⟩,ty,pos,eM,gd⟩) rfl a w w' v' (by rw[hv];exact k1)
 unfold Oper.wp
 rw[hr,Oper.upon_value]
 simp only[df,bC,dA,hl] at k2
 refine hn _ _ _ (gG.xQ (k3.mono fun b hb _=>by simp[wH] at hb) k' h3 (.fk e ys) ⟨v',[]⟩ (row_one k2) (fun b hb=>(k4 b ((j8 rfl).1 hb)).resolve_left (by simp[wH])) d _ _ ?_ ?_)
 ·intro ok st ν' hν hw hm
  refine zN (us:=vs) (by rw[hν,(E.ok e ei he).cells];exact k2) (by rw[(E.ok e ei he).cells];exact hul) ?_ hlb (by rw[hν];exact Hw List.nodup_nil (by simp))
  rw[hν]
  exact htr.frame hw k3.size hm _ _ _ (by simp)
 ·intro ok st ν' hν jw hw hm
  simp only[aE]
  exact⟨by rw[jw];rfl,by rw[hν]⟩
theorem sG(s x:Operand)(t e k k':Nat)(ti ei:TI)(p:PV)(xs ys:List (List T))(ht:E.ti t=some ti)(kE:ti.ty= .slice e)(he:E.ti e=some ei)(hs:g.ev s= .acc k)(hk:g.at k=some (.fk e xs))(hx:g.ev x=p)(ha:LW E ei.n g p ys)(hk':g.at k'=none)
 (hlb:xs.length+ys.length≤LB) (hby:(xs.length+ys.length)*ei.bytes≤140737488355328) :
 kH E.P ⟨some d,.call ⟨.builtin .append,#[s,x],#[t,t]⟩,ty,pos,eM,gd⟩ g ⟨dh s++dh x,k::k'::yT p⟩ ⟨some (d,.acc k'),[(k,.dead),(k',.fk e (xs++ys))]⟩:=by
 intro g2 hg
 have e1:=hg.ev (x:=s) (fun t h=>by simp[h])
 have e2:=hg.ev (x:=x) (fun t h=>by simp[h])
 have h2:=(hg.p k (by simp)).trans hk
 have h3:=(hg.p k' (by simp)).trans hk'
 have ha2:=ha.agree hg (fun k h=>by simp[h])
 intro X ν a w next Q gG hn
 have hv:=gG.ev s
 rw[e1,hs] at hv
 have nh:=gG.ev x
 rw[e2,hx] at nh
 simp only[aE] at hv
 obtain⟨vs,htr,hul,hsl,_⟩:=GG gG ha2 nh
 have hraw:=xU (w:=w) (ok:=fun _=>True) hul (htr.one gG.nu)
 have hl:=htr.len
 obtain⟨us,im,huu,hru,hB,hnd⟩:=vg gG h2
 rw[(E.ok e ei he).cells] at im huu
 obtain⟨v',w',k1,k2,k3,k4⟩:=oO ht kE he w ty (ν k).v (a.eval x) xs.length us.flatten _ vs _ im hraw hsl (by simpa[hl] using hlb) (by simpa[hl] using hby)
 have hr:=tF (E:=E) (o:=⟨some d,.call ⟨.builtin .append,#[s,x],#[t,t]⟩,ty,pos,eM,gd⟩) rfl a w w' v' (by rw[hv.2];exact k1)
 unfold Oper.wp
 rw[hr,Oper.upon_value]
 simp only[dA,hl] at k2
 have hnd2:=dm.1 hnd
 have hnb:∀b∈(ν k).f,wH (ν k).v≠some b:=fun b hb hc=>hnd2.2.2 b (CT.2 hc) b hb rfl
 have lL:∀b∈(ν k).f,b<w.heap.size:=fun b hb=>hru.lt _ _ _ b hb
 refine hn _ _ _ (gG.move (some k) (fun j hj=>⟨_,by obtain rfl:=Option.some.inj hj;exact h2,rfl⟩) (k3.mono fun b hb _=>⟨k,rfl,.inl hb⟩) k' h3 (.fk e (xs++ys)) ⟨v',(ν k).f⟩ (row_one k2)
  (fun b hb=>hb.elim (fun h=>(k4 b h).imp (fun h=>⟨k,rfl,.inl h⟩) id) fun h=>.inl ⟨k,rfl,.inr h⟩) d _ _ ?_ ?_)
 ·intro ok st ν' hν hw hm
  refine zN (us:=us++vs) ?_ ?_ ?_ (by simpa using hlb) ?_
  ·rw[hν,(E.ok e ei he).cells,aU,List.flatten_append];exact k2
  ·rw[(E.ok e ei he).cells]
   intro i u hu
   rcases b6 i us.length with hi|hi
   ·rw[bf hi] at hu;exact huu i u hu
   ·rw[bt hi] at hu;exact hul _ u hu
  ·rw[hν]
   have h1:=hru.frame hw k3.size hm _ _ _ fun b hb=>k3.block b (lL b hb) (hnb b hb)
   have h2:=htr.frame hw k3.size hm _ _ _ (by simp)
   have:=h1.append h2
   rwa [bl] at this
  ·rw[hν]
   refine Hw hnd2.2.1 fun b hb hm=>?_
   rcases k4 b hb with h|h
   ·exact hnb b hm h
   ·have:=lL b hm;omega
 ·intro ok st ν' hν jw hw hm
  simp only[aE]
  exact⟨by rw[jw];rfl,by rw[hν]⟩
theorem Gx(s x:Operand)(t e k k':Nat)(ti ei:TI)(p:PV)(xs:List (List D))(ys:List (List T))(ht:E.ti t=some ti)(kE:ti.ty= .slice e)(he:E.ti e=some ei)(hs:g.ev s= .acc k)(hk:g.at k=some (.acc e xs))(hx:g.ev x=p)(ha:LW E ei.n g p ys)(hk':g.at k'=none)
 (hlb:xs.length+ys.length≤LB) (hby:(xs.length+ys.length)*ei.bytes≤140737488355328) :
 kH E.P ⟨some d,.call ⟨.builtin .append,#[s,x],#[t,t]⟩,ty,pos,eM,gd⟩ g ⟨dh s++dh x,k::k'::yT p⟩ ⟨some (d,.acc k'),[(k,.dead),(k',.fk e (lift xs++ys))]⟩:=by
 intro g2 hg X ν a w next Q hs' hnx
 have e1:=hg.ev (x:=s) (fun t h=>by simp[h])
 have e2:=hg.ev (x:=x) (fun t h=>by simp[h])
 have h3:=(hg.p k (by simp)).trans hk
 have h4:=(hg.p k' (by simp)).trans hk'
 have ha2:=ha.agree hg (fun k h=>by simp[h])
 have hs2:=hs'.lift h3
 have hev:∀z,(⟨g2.sl,da g2.st k (some (.fk e (lift xs)))⟩:G).ev z=g2.ev z:=fun z=>by cases z<;>rfl
 have hkk:k'≠k:=fun h=>by rw[h,h3] at h4;cases h4
 have ha3:LW E ei.n ⟨g2.sl,da g2.st k (some (.fk e (lift xs)))⟩ p ys:=by
  rcases ha2 with⟨ys',h1,rfl⟩|⟨m,e',ei',rfl,hm,he',hz,hn⟩
  ·by_cases hp:p= .acc k
   ·subst hp
    rcases h1 with⟨h,_⟩|⟨h,_⟩|⟨m,e',ei',h,hm,he',hz⟩|⟨_,_,h,_⟩
    ·cases h
    ·cases h
    ·obtain rfl:k=m:=by simpa using h
     rw[h3] at hm
     obtain⟨rfl,rfl⟩:e=e'∧xs=ys':=by simpa using hm
     exact .inr ⟨k,e,ei',rfl,by rw[vu,if_pos rfl],he',hz,Df _⟩
    ·cases h
   ·refine .inl ⟨ys',?_,rfl⟩
    rcases h1 with h|h|⟨m,e',ei',h,hm,he',hz⟩|h
    ·exact .inl h
    ·exact .inr (.inl h)
    ·exact .inr (.inr (.inl ⟨m,e',ei',h,by rw[vu,if_neg (fun hc=>hp (by rw[h,hc]))];exact hm,he',hz⟩))
    ·exact .inr (.inr (.inr h))
  ·refine .inr ⟨m,e',ei',rfl,?_,he',hz,hn⟩
   rw[vu,if_neg (fun hc=>by rw[hc,h3] at hm;cases hm)]
   exact hm
 refine sG (g:=⟨g2.sl,da g2.st k (some (.fk e (lift xs)))⟩) s x t e k k' ti ei p (lift xs) ys ht kE he (by rw[hev,e1];exact hs) (by rw[vu,if_pos rfl]) (by rw[hev,e2];exact hx) ha3 (by rw[vu,if_neg hkk];exact h4)
  (by rw[sx];exact hlb) (by rw[sx];exact hby) _ ⟨fun _ _=>rfl,fun _ _=>rfl⟩ X ν a w next Q hs2 ?_
 intro ν' a' w' h
 refine hnx ν' a' w' ?_
 simpa only[G.app,yf,pj] using h
def Ij:List PV→Option (List (List T))
 | []=>some []
 | p::ps=>match p.whole,CS (eG p),Ij ps with
   | true,some x,some xs=>some (x::xs)
   | _,_,_=>none
def yi(n:Nat):List (List T)→Bool
 | []=>true
 | x::xs=>H5 (Qk x) n&&yi n xs
theorem NQ:∀{qs:List PV}{rows:List (List T)},Ij qs=some rows→rows.length=qs.length
 | [],rows,h=>by simp[Ij] at h;simp[←h]
 | q::qs,rows,h=>by
   simp only[Ij] at h
   split at h
   ·rename_i h1 h2 h3
    obtain rfl:=Option.some.inj h
    simp[NQ h3]
   ·cases h
def Gu(v:Value):PV:=if(∀u∈v.cells.toList,u.oneCell'=true) then(if v.oneCell'=true then .d (.val v) else .agg (v.cells.toList.map fun u=>.d (.val u))) else .any
theorem Y4{w:World}{ok:Nat→Prop}{ν:Nat→Nm}{st:Nat→Option En}:∀(cs:List Value),(∀u∈cs,u.oneCell'=true)→az w ok ν st (cs.map fun u=>.d (.val u)) cs
 | [],_=>by simp[az]
 | u::cs,h=>by
   simp only[aQ,az,aE]
   exact⟨.val u (h u (by simp)),Y4 cs fun u hu=>h u (by simp[hu])⟩
theorem M7:∀(cs:List Value),Af (cs.map fun u=>.d (.val u))=some (cs.map D.val)
 | []=>rfl
 | u::cs=>by simp[Af,toD,M7 cs]
theorem XA{w:World}{ok:Nat→Prop}{ν:Nat→Nm}{st:Nat→Option En}(v:Value):aE w ok ν st (Gu v) v:=by
 unfold Gu
 by_cases h:∀u∈v.cells.toList,u.oneCell'=true
 ·rw[if_pos h]
  by_cases h1:v.oneCell'=true
  ·rw[if_pos h1]
   simp only[aE]
   exact .val v h1
  ·rw[if_neg h1]
   cases v with
   | agg cs=>simp only[aE];exact⟨_,rfl,Y4 _ h⟩
   | _=>exact absurd (h _ (List.mem_singleton.2 rfl)) h1
 ·rw[if_neg h]
  simp only[aE]
theorem Xs(v:Value)(h:∀u∈v.cells.toList,u.oneCell'=true):(Gu v).whole=true∧Af (eG (Gu v))=some (v.cells.toList.map D.val):=by
 unfold Gu
 rw[if_pos h]
 by_cases h1:v.oneCell'=true
 ·rw[if_pos h1,B3 h1]
  exact⟨rfl,rfl⟩
 ·rw[if_neg h1]
  exact⟨rfl,M7 _⟩
theorem Ow(ρ:Operand→Value):∀(ps:List (Nat×Operand)),(∀x∈ps,∀u∈(ρ x.2).cells.toList,u.oneCell'=true)→rowsOf (ps.map fun x=>Gu (ρ x.2))=some (ps.map fun x=>(ρ x.2).cells.toList.map D.val)
 | [],_=>rfl
 | x::ps,h=>by
   obtain⟨h1,h2⟩:=Xs (ρ x.2) (h x (by simp))
   simp only[aQ,rowsOf]
   rw[if_pos h1,h2,Ow ρ ps fun y hy=>h y (by simp[hy])]
theorem FR(ρ:Operand→Value)(n:Nat):∀(ps:List (Nat×Operand)),(∀x∈ps,(ρ x.2).cells.toList.length=n)→tZ n (ps.map fun x=>(ρ x.2).cells.toList.map D.val)=true
 | [],_=>rfl
 | x::ps,h=>by
   have:=h x (by simp)
   simp only[aQ,tZ,al,dA,beq_iff_eq]
   exact⟨this,FR ρ n ps fun y hy=>h y (by simp[hy])⟩
theorem aax{w:World}{ok:Nat→Prop}{sz:Nat}{vs us:List (List Value)}(hv:∀v∈vs,v.length=sz)(h:cu w ok sz (vs.map fun u=>u.map D.val) us):us=vs:=by
 have hl:=h.len
 rw[dA] at hl
 refine List.ext_getElem hl fun i h1 h2=>?_
 have e1:(vs.map fun u=>u.map D.val)[i]?=some (vs[i].map D.val):=by simp[ah h2]
 have e2:=ah h1
 have l1:=h.hu i _ e2
 have l2:=hv _ (List.getElem_mem h2)
 refine List.ext_getElem (by rw[l1,l2]) fun j h3 h4=>?_
 exact(h.hr i j _ _ (.val vs[i][j]) _ e1 e2 (by simp[ah h4]) (ah h3)).E8
theorem T4{t e:Nat}{ti ei:TI}(ht:E.ti t=some ti)(kE:ti.ty= .slice e)(he:E.ti e=some ei)(a:Act)(w:World)(ps:List (Nat×Operand))(hup:IM 0 (ps.map (·.1))=true)
 (h1:∀x∈ps,∀u∈(a.eval x.2).cells.toList,u.oneCell'=true) (h2:∀x∈ps,(a.eval x.2).cells.toList.length=ei.n) (hbig:ps.length*ei.n≤16777216) {o:Oper} (ho:o.op= .buildSlice t ps.length ⟨ps⟩) :
 (execOp a.eval o).run E.P w= .ok (.value (.slice (some ⟨w.heap.size,0,none⟩) ps.length ps.length)) (w.alloc (.cells ⟨(ps.map fun x=>(a.eval x.2).cells.toList).flatten⟩ e)):=by
 obtain⟨i,z,k1,k2,k4,k5,k6,k7⟩:=(E.ok e ei he).info
 have hu:=(E.ok t ti ht).ty
 rw[kE] at hu
 have hpos:=(E.ok e ei he).pos
 have key:∀init:Array Value,init.size=ps.length*ei.n→Instr.fill (fun i=>some (i*ei.n,ei.n)) init (ps.map fun x=>(x.1,a.eval x.2))=some ⟨(ps.map fun x=>(a.eval x.2).cells.toList).flatten⟩:=by
  intro init hi
  obtain⟨us,m1,m2⟩:=CX (w:=w) (ok:=fun _=>True) (ν:=fun _=>⟨.bool false,[]⟩) (st:=fun _=>none) (fun _ h=>by cases h) ei.n (fun x=>Gu (a.eval x)) a.eval (fun x=>XA _) ps 0 [] init _ hup (Ow a.eval ps h1) (FR a.eval ei.n ps h2) (by simp) (by simp) (by simpa using hi)
  have e1:(ps.map fun x=>(a.eval x.2).cells.toList.map D.val)=(ps.map fun x=>(a.eval x.2).cells.toList).map fun u=>u.map D.val:=by simp
  rw[e1] at m2
  have:=aax (by
   intro v hv
   obtain⟨x,hx,rfl⟩:=bG.1 hv
   exact h2 x hx) m2
  subst this
  simpa using m1
 by_cases hz:ps.length*ei.n=0
 ·have m1:=key ((Array.range 0).map fun _=>default) (by rw[Array.size_map,Array.size_range,hz])
  simp only[execOp,ho,ir,Instr.buildSlice,Sem.run_bind,run_underlying hu,Result.andThen_ok,(E.ok e ei he).size w,hz]
  simp[m1,newRow]
 ·have m1:=key ((Array.range (ps.length*ei.n)).map (z.cells[· % z.cells.size]!)) (by simp)
  have hn:¬ps.length*ei.n>16777216:=by omega
  simp only[execOp,ho,ir,Instr.buildSlice,Sem.run_bind,run_underlying hu,Result.andThen_ok,(E.ok e ei he).size w]
  simp[hn,hz,zeroValue,typeInfo,k1,k5,m1,newRow]
theorem Rg{w:World}{ok:Nat→Prop}{ν:Nat→Nm}{st:Nat→Option En}(hν:∀k,(st k).isSome=true→(ν k).v.oneCell'=true)(ev:Operand→PV)(ρ:Operand→Value)(hev:∀x,aE w ok ν st (ev x) (ρ x))(n:Nat) :
 ∀(ps:List (Nat×Operand))(rows:List (List T)),Ij (ps.map fun x=>ev x.2)=some rows→yi n rows=true →
  bu E.P w ok ν st rows (ps.map fun x=>(ρ x.2).cells.toList) []∧(∀x∈ps,∀u∈(ρ x.2).cells.toList,u.oneCell'=true)∧(∀x∈ps,(ρ x.2).cells.toList.length=n)
 | [],rows,h,_=>by
   simp only[dD,Ij,Option.some.injEq] at h
   subst h
   exact⟨by simp[bu],by simp,by simp⟩
 | x::ps,rows,h,hl=>by
   simp only[aQ,Ij] at h
   split at h
   ·rename_i row rows' h1 h2 h3
    obtain rfl:=Option.some.inj h
    simp only[yi,al] at hl
    have hl1:=wL hl.1
    rw[Fm] at hl1
    obtain⟨k1,k2,k3⟩:=Rg hν ev ρ hev n ps rows' h3 hl.2
    have hc:=(hev x.2).cells h1 hν
    have ht:=LM (P:=E.P) hc h2
    refine⟨?_,?_,?_⟩
    ·simp only[aQ,bu]
     exact⟨[],[],ht,k1,rfl⟩
    ·intro y hy
     rcases ay.1 hy with rfl|hy
     ·exact ht.one hν
     ·exact k2 y hy
    ·intro y hy
     rcases ay.1 hy with rfl|hy
     ·rw[ht.len];exact hl1
     ·exact k3 y hy
   ·cases h
theorem Qf(t e n k:Nat)(ps:List (Nat×Operand))(ti ei:TI)(rows:List (List T))(ht:E.ti t=some ti)(kE:ti.ty= .slice e)(he:E.ti e=some ei)(hn:n=ps.length)(hup:IM 0 (ps.map (·.1))=true)
 (hr:Ij (ps.map fun x=>g.ev x.2)=some rows) (dy:yi ei.n rows=true) (hbig:ps.length*ei.n≤16777216) (hk:g.at k=none) :
 kH E.P ⟨some d,.buildSlice t n ⟨ps⟩,ty,pos,eM,gd⟩ g ⟨ps.flatMap fun x=>dh x.2,[k]⟩ ⟨some (d,.acc k),[(k,.fk e rows)]⟩:=by
 subst hn
 intro g2 hg
 have hmap:ps.map (fun x=>g2.ev x.2)=ps.map (fun x=>g.ev x.2):=by
  apply kM
  intro x hx
  rw[hg.ev (x:=x.2) (fun t h=>gC.2 ⟨x,hx,h⟩)]
 have h3:=(hg.p k (by simp)).trans hk
 rw[←hmap] at hr
 intro X ν a w next Q hs hnx
 obtain⟨htr,m1,m2⟩:=Rg hs.nu g2.ev a.eval hs.ev ei.n ps rows hr dy
 have lh:=T4 ht kE he a w ps hup m1 m2 hbig (o:=⟨some d,.buildSlice t ps.length ⟨ps⟩,ty,pos,eM,gd⟩) rfl
 have hpos:=(E.ok e ei he).pos
 have hrl:=NQ hr
 simp only[dA] at hrl
 have hle:ps.length≤16777216:=eH (oi _ hpos) hbig
 have hul:∀(i:Nat)(u:List Value),(ps.map fun x=>(a.eval x.2).cells.toList)[i]?=some u→u.length=ei.n:=by
  intro i u hu
  obtain⟨x,hx,rfl⟩:=bG.1 (c9 hu)
  exact m2 x hx
 have hfl:=(xU (w:=w) (ok:=fun _=>True) hul (htr.one hs.nu)).k9
 simp only[dA] at hfl
 unfold Oper.wp
 rw[lh,Oper.upon_value]
 have qK:=World.ownsRow_lit w (e:=e) (⟨(ps.map fun x=>(a.eval x.2).cells.toList).flatten⟩:Array Value) rows.length (base:=0) (size:=ei.n) (bc _) (by simp only[maxLen];omega) (by rw[hrl];simpa using hfl)
 refine hnx _ _ _ (hs.xQ (jz w _) k h3 (.fk e rows) ⟨.slice (some ⟨w.heap.size,0,none⟩) ps.length ps.length,[]⟩ rfl (fun b hb=>?_) d _ _ ?_ ?_)
 ·obtain rfl:w.heap.size=b:=by simpa[Nm.has,wH] using hb
  exact aJ _
 ·intro ok st ν' hν hw hm
  refine zN (us:=ps.map fun x=>(a.eval x.2).cells.toList) ?_ (by rw[(E.ok e ei he).cells];exact hul) ?_ (by unfold LB;omega) (by rw[hν];exact Hw List.nodup_nil (by simp))
  ·rw[hν,(E.ok e ei he).cells,←hrl]
   exact qK
  ·rw[hν]
   exact htr.frame hw (jz w _).size hm _ _ _ (by simp)
 ·intro ok st ν' hν jw hw hm
  simp only[aE]
  exact⟨by rw[jw];rfl,by rw[hν]⟩
end
def Y3:Nat→List T→List T
 | 0,_=>[]
 | _+1,[]=>[]
 | n+1,a::as=>a::Y3 n as
theorem OX:∀(n:Nat)(l:List T),Y3 n l=l.take n
 | 0,l=>by simp[Y3]
 | n+1,[]=>by simp[Y3]
 | n+1,a::as=>by simp[Y3,OX n as]
def Y6:Nat→List T→List T
 | 0,l=>l
 | _+1,[]=>[]
 | n+1,_::as=>Y6 n as
theorem Ql:∀(n:Nat)(l:List T),Y6 n l=l.drop n
 | 0,l=>by simp[Y6]
 | n+1,[]=>by simp[Y6]
 | n+1,a::as=>by simp[Y6,Ql n as]
def apT:List T→List T→List T
 | [],ys=>ys
 | x::xs,ys=>x::apT xs ys
theorem VB:∀(xs ys:List T),apT xs ys=xs++ys
 | [],ys=>rfl
 | x::xs,ys=>by simp[apT,VB xs ys]
def YN(cs:List T)(off:Nat)(vs:List T):List T:=apT (Y3 off cs) (apT vs (Y6 (off+Qk vs) cs))
theorem X7(cs:List T)(off:Nat)(vs:List T):YN cs off vs=sS cs off vs:=by
 simp only[YN,sS,VB,OX,Ql,Fm]
def K2(g:G)(d:Nat)(c x y:Operand):Ax:=
 match g.ev c with
 | .d (.val (.bool true))=>.go ⟨dh c++dh x,[]⟩ ⟨some (d,g.ev x),[]⟩
 | .d (.val (.bool false))=>.go ⟨dh c++dh y,[]⟩ ⟨some (d,g.ev y),[]⟩
 | _=>.stop
def Gp(E:Env)(g:G)(d:Nat)(t:TypeId):Ax:=
 match E.ti t with
 | some ti=>.go ⟨[],[g.new]⟩ ⟨some (d,.ptr g.new 0),[(g.new,.box ti.zero)]⟩
 | none=>.stop
def P6(g:G)(d:Nat)(x:Operand):Ax:=
 match(g.ev x).whole with
 | true=>.go ⟨dh x,[g.new]⟩ ⟨some (d,.ptr g.new 0),[(g.new,.box (eG (g.ev x)))]⟩
 | false=>.stop
def EW(E:Env)(g:G)(d:Nat)(t:TypeId)(x:Operand):Ax:=
 match E.ti t with
 | none=>.stop
 | some ti=>
   match g.ev x with
   | .ptr k off=>
     match g.at k with
     | some (.box cs)=>match yk (off+ti.n) (xY cs) with
       | true=>.go ⟨dh x,[k]⟩ ⟨some (d,Rp ti.isAgg (tk ti.n (dr off cs))),[]⟩
       | false=>.stop
     | _=>.stop
   | .gq xs i off=>.oj (yk (off+ti.n) (LG (row xs i))=true) ⟨dh x,[]⟩ ⟨some (d,Rp ti.isAgg (tk ti.n (dr off (cE (row xs i))))),[]⟩
   | .gI k i off sz=>
     match g.at k with
     | some (.acc e xs)=>match E.ti e with
       | some ei=>.oj (H5 sz ei.n=true∧i<xs.length∧yk (off+ti.n) (LG (row xs i))=true) ⟨dh x,[k]⟩ ⟨some (d,Rp ti.isAgg (tk ti.n (dr off (cE (row xs i))))),[]⟩
       | none=>.stop
     | some (.fk e xs)=>match E.ti e with
       | some ei=>.oj (H5 sz ei.n=true∧i<xs.length∧yk (off+ti.n) (Qk (oQ xs i))=true) ⟨dh x,[k]⟩ ⟨some (d,Rp ti.isAgg (tk ti.n (dr off (ZR (oQ xs i))))),[]⟩
       | none=>.stop
     | _=>.stop
   | _=>.stop
def Ms(E:Env)(g:G)(d:Nat)(s:TypeId)(x:Operand)(f:Nat):Ax:=
 match E.ti s with
 | none=>.stop
 | some si=>match si.ty with
   | .struct fs=>match PJ fs f with
     | some (_,fo,_)=>match g.ev x with
       | .ptr k off=>.go ⟨dh x,[]⟩ ⟨some (d,.ptr k (off+fo)),[]⟩
       | .gq xs i off=>.go ⟨dh x,[]⟩ ⟨some (d,.gq xs i (off+fo)),[]⟩
       | .gI k i off sz=>.go ⟨dh x,[]⟩ ⟨some (d,.gI k i (off+fo) sz),[]⟩
       | _=>.stop
     | none=>.stop
   | _=>.stop
def BM(E:Env)(g:G)(d:Nat)(s:TypeId)(x:Operand)(f:Nat):Ax:=
 match E.ti s with
 | none=>.stop
 | some si=>match si.ty with
   | .struct fs=>match PJ fs f with
     | some (ft,fo,_)=>match E.ti ft with
       | none=>.stop
       | some fi=>match g.ev x with
         | .agg cs=>match yk (fo+fi.n) (xY cs) with
           | true=>.go ⟨dh x,[]⟩ ⟨some (d,Rp fi.isAgg (tk fi.n (dr fo cs))),[]⟩
           | false=>.stop
         | _=>.stop
     | none=>.stop
   | _=>.stop
def E6(E:Env)(g:G)(d:Nat)(s:TypeId)(x y:Operand):Ax:=
 match E.ti s with
 | none=>.stop
 | some si=>match g.ev y with
   | .d (.val (.int .i64 n))=>match si.ty with
     | .slice e=>match E.ti e with
       | none=>.stop
       | some ei=>match g.ev x with
         | .d (.dt xs)=>.oj (0≤n∧n.toNat<xs.length∧H5 (LG (row xs n.toNat)) ei.n=true) ⟨dh x++dh y,[]⟩ ⟨some (d,.gq xs n.toNat 0),[]⟩
         | .acc k=>match g.at k with
           | some (.acc e' xs)=>match jd e e' with
             | true=>.oj (0≤n∧n.toNat<xs.length) ⟨dh x++dh y,[k]⟩ ⟨some (d,.gI k n.toNat 0 ei.n),[]⟩
             | false=>.stop
           | some (.fk e' xs)=>match jd e e' with
             | true=>.oj (0≤n∧n.toNat<xs.length) ⟨dh x++dh y,[k]⟩ ⟨some (d,.gI k n.toNat 0 ei.n),[]⟩
             | false=>.stop
           | _=>.stop
         | _=>.stop
     | .arr len e=>match E.ti e with
       | none=>.stop
       | some ei=>match g.ev x with
         | .ptr k off=>.oj (0≤n∧n.toNat<len) ⟨dh x++dh y,[]⟩ ⟨some (d,.ptr k (off+n.toNat*ei.n)),[]⟩
         | _=>.stop
     | _=>.stop
   | _=>.stop
def Mp(E:Env)(g:G)(d:Nat)(s:TypeId)(x y:Operand):Ax:=
 match E.ti s with
 | none=>.stop
 | some si=>match g.ev y with
   | .d (.val (.int .i64 n))=>match si.ty with
     | .str=>match g.ev x with
       | .d (.str l)=>.oj (0≤n∧n.toNat<l.length) ⟨dh x++dh y,[]⟩ ⟨some (d,.d (.val (.int .u8 ((l.getD n.toNat 0).toNat:Int)))),[]⟩
       | _=>.stop
     | _=>.stop
   | _=>.stop
def RZ(g:G)(d:Nat)(u:UnOp)(x:Operand):Ax:=
 match u,g.ev x with
 | .not,.d (.val (.bool m))=>.go ⟨dh x,[]⟩ ⟨some (d,.d (.val (.bool (!m)))),[]⟩
 | .neg,.d (.val (.int .i64 m))=>.oj (SZ (-m)) ⟨dh x,[]⟩ ⟨some (d,.d (.val (.int .i64 (-m)))),[]⟩
 | _,_=>.stop
def E3(E:Env)(g:G)(d:Nat)(s t:TypeId)(x:Operand):Ax:=
 match E.ti s,E.ti t with
 | some si,some ti=>match si.ty,ti.ty,g.ev x with
   | .int k,.int k',.d (.val (.int k2 m))=>match V3 k k2 with
     | true=>.go ⟨dh x,[]⟩ ⟨some (d,.d (.val (.int k' (k'.wrap m)))),[]⟩
     | false=>.stop
   | _,_,_=>.stop
 | _,_=>.stop
def B0(E:Env)(g:G)(d:Nat)(t:TypeId)(ps:List (Nat×Operand)):Ax:=
 match E.ti t with
 | none=>.stop
 | some ti=>match ti.ty with
   | .struct fs=>match Od (pls fs) ti.zero (evp g ps) with
     | some r=>.go ⟨sl2 ps,[]⟩ ⟨some (d,.agg r),[]⟩
     | none=>.stop
   | _=>.stop
def KB(E:Env)(g:G)(d:Nat)(t:TypeId)(n:Nat)(ps:List (Nat×Operand)):Ax:=
 match E.ti t with
 | none=>.stop
 | some ti=>match ti.ty with
   | .slice e=>match E.ti e with
     | none=>.stop
     | some ei=>match ps with
       | []=>match n with
         | 0=>.go ⟨[],[g.new]⟩ ⟨some (d,.acc g.new),[(g.new,.acc e [])]⟩
         | _=>.stop
       | p::ps=>match jd n (Qy (p::ps)),IM 0 (ix2 (p::ps)),rowsOf (ev2 g (p::ps)) with
         | true,true,some rows=>match tZ ei.n rows,yk (Qy (p::ps)) 64,yk ei.n 64 with
           | true,true,true=>.go ⟨sl2 (p::ps),[]⟩ ⟨some (d,.d (.dt rows)),[]⟩
           | _,_,_=>.stop
         | true,true,none=>match Ij (ev2 g (p::ps)) with
           | none=>.stop
           | some rows=>match yi ei.n rows,yk (Qy (p::ps)) 64,yk ei.n 64 with
             | true,true,true=>.go ⟨sl2 (p::ps),[g.new]⟩ ⟨some (d,.acc g.new),[(g.new,.fk e rows)]⟩
             | _,_,_=>.stop
         | _,_,_=>.stop
   | _=>.stop
def Fb(E:Env)(g:G)(d:Nat)(t:TypeId)(l c:Operand):Ax:=
 match E.ti t with
 | none=>.stop
 | some ti=>match ti.ty with
   | .slice e=>match E.ti e with
     | none=>.stop
     | some ei=>match Af ei.zero,g.ev l,g.ev c with
       | some z,.d (.val (.int .i64 n)),.d (.val (.int .i64 n'))=>.oj (n'=n∧0≤n∧n.toNat≤LB∧ei.bytes*n.toNat≤281474976710656) ⟨dh l++dh c,[g.new]⟩ ⟨some (d,.acc g.new),[(g.new,.acc e (List.replicate n.toNat z))]⟩
       | _,_,_=>.stop
   | _=>.stop
def Zv(g:G)(dflt:Int):Option Operand→Option Int
 | none=>some dflt
 | some x=>match g.ev x with
   | .d (.val (.int _ i))=>some i
   | _=>none
theorem KD{g:G}{d i:Int}{o:Option Operand}(h:Zv g d o=some i):OI g o d i:=by
 cases o with
 | none=>exact(Option.some.inj h).symm
 | some x=>
   simp only[Zv] at h
   split at h
   ·rename_i k j hj
    obtain rfl:=Option.some.inj h
    exact⟨k,hj⟩
   ·cases h
def Lh(E:Env)(g:G)(d:Nat)(t:TypeId)(x:Operand)(lo hi mx:Option Operand):Ax:=
 match mx,E.ti t with
 | none,some ti=>match ti.ty,g.ev x with
   | .slice e,.d (.dt xs)=>match E.ti e,Zv g 0 lo,Zv g xs.length hi with
     | some ei,some l,some h=>.oj (0≤l∧l≤h∧h≤xs.length∧∀y∈xs,y.length=ei.n) ⟨dh x++(W0 lo++W0 hi),[]⟩ ⟨some (d,.d (.dt ((xs.drop l.toNat).take (h.toNat-l.toNat)))),[]⟩
     | _,_,_=>.stop
   | .str,.d (.str s)=>match Zv g 0 lo,Zv g s.length hi with
     | some l,some h=>.oj (0≤l∧l≤h∧h≤s.length) ⟨dh x++(W0 lo++W0 hi),[]⟩ ⟨some (d,.d (.str ((s.drop l.toNat).take (h.toNat-l.toNat)))),[]⟩
     | _,_=>.stop
   | _,_=>.stop
 | _,_=>.stop
def KM(g:G)(d:Nat)(x:Operand):Ax:=
 match g.ev x with
 | .ptr k off=>.go ⟨dh x,[]⟩ ⟨some (d,.ptr k off),[]⟩
 | .gq xs i off=>.go ⟨dh x,[]⟩ ⟨some (d,.gq xs i off),[]⟩
 | .gI k i off sz=>.go ⟨dh x,[]⟩ ⟨some (d,.gI k i off sz),[]⟩
 | _=>.stop
def Lx(g:G)(d:Nat)(x:Operand)(i:Nat):Ax:=
 match g.ev x with
 | .gV ps=>match TA ps i with
   | some p=>.go ⟨dh x,[]⟩ ⟨some (d,p),[]⟩
   | none=>.stop
 | _=>.stop
def K7(E:Env)(g:G)(d:Nat)(s:TypeId)(x:Operand):Ax:=
 match E.ti s with
 | none=>.stop
 | some si=>match si.ty,g.ev x with
   | .slice _,.d (.dt xs)=>.go ⟨dh x,[]⟩ ⟨some (d,.d (.val (.int .i64 (xs.length:Int)))),[]⟩
   | .slice _,.b8=>.go ⟨dh x,[]⟩ ⟨some (d,.d (.val (.int .i64 0))),[]⟩
   | .slice _,.acc k=>match g.at k with
     | some (.acc _ xs)=>.go ⟨dh x,[k]⟩ ⟨some (d,.d (.val (.int .i64 (xs.length:Int)))),[]⟩
     | some (.fk _ xs)=>.go ⟨dh x,[k]⟩ ⟨some (d,.d (.val (.int .i64 (xs.length:Int)))),[]⟩
     | _=>.stop
   | .str,.d (.str l)=>.go ⟨dh x,[]⟩ ⟨some (d,.d (.val (.int .i64 (l.length:Int)))),[]⟩
   | _,_=>.stop
def Fa(E:Env)(g:G)(p:PV):Option (List (List D)×Option TypeId):=
 match p with
 | .b8=>some ([],none)
 | .d (.dt ys)=>some (ys,none)
 | .acc k=>match g.at k with
   | some (.acc e ys)=>some (ys,some e)
   | _=>none
 | .d (.val (.slice (some _) 0 _))=>some ([],none)
 | _=>none
def Oy(E:Env)(sz:Nat)(p:PV)(ys:List (List D)):Option TypeId→Prop
 | none=>∀y∈ys,y.length=sz
 | some e=>∃ei,E.ti e=some ei∧ei.n=sz
theorem Ak{E:Env}{g:G}{p:PV}{ys:List (List D)}{o:Option TypeId}{sz:Nat}(h:Fa E g p=some (ys,o))(ho:Oy E sz p ys o):wO E sz g p ys:=by
 unfold Fa at h
 split at h
 ·obtain⟨rfl,rfl⟩:[]=ys∧none=o:=by simpa using h
  exact .inl ⟨rfl,rfl⟩
 ·obtain⟨rfl,rfl⟩:_=ys∧none=o:=by simpa using h
  exact .inr (.inl ⟨rfl,ho⟩)
 ·split at h
  ·rename_i e ys' hk
   obtain⟨rfl,rfl⟩:_=ys∧some e=o:=by simpa using h
   obtain⟨ei,h1,h2⟩:=ho
   exact .inr (.inr (.inl ⟨_,e,ei,rfl,hk,h1,h2⟩))
  ·cases h
 ·obtain⟨rfl,rfl⟩:[]=ys∧none=o:=by simpa using h
  exact .inr (.inr (.inr ⟨_,_,rfl,rfl⟩))
 ·cases h
def EZ(g:G)(p:PV):Option (List (List T)×TypeId):=
 match p with
 | .acc k=>match g.at k with
   | some (.fk e ys)=>some (ys,e)
   | _=>none
 | _=>none
theorem zL{E:Env}{g:G}{p:PV}{ys:List (List T)}{e:TypeId}{ei:TI}(h:EZ g p=some (ys,e))(he:E.ti e=some ei)(hn:rJ ys=true):LW E ei.n g p ys:=by
 unfold EZ at h
 split at h
 ·rename_i k
  split at h
  ·rename_i e' ys' hk
   obtain⟨rfl,rfl⟩:ys'=ys∧e'=e:=by simpa using h
   exact .inr ⟨k,e',ei,rfl,hk,he,rfl,hn⟩
  ·cases h
 ·cases h
def ET(g:G)(d:Nat)(s x:Operand)(e:TypeId)(ei:TI):Ax:=
 match EZ g (g.ev x) with
 | none=>.stop
 | some (ys,e2)=>match jd e e2 with
   | false=>.stop
   | true=>match g.ev s with
     | .b8=>.oj (rJ ys=true∧ys.length≤LB∧ys.length*ei.bytes≤140737488355328) ⟨dh s++dh x,g.new::yT (g.ev x)⟩ ⟨some (d,.acc g.new),[(g.new,.fk e ys)]⟩
     | .acc k=>match g.at k with
       | some (.acc e' xs)=>match jd e e' with
         | true=>.oj (rJ ys=true∧xs.length+ys.length≤LB∧(xs.length+ys.length)*ei.bytes≤140737488355328) ⟨dh s++dh x,k::g.new::yT (g.ev x)⟩ ⟨some (d,.acc g.new),[(k,.dead),(g.new,.fk e (lift xs++ys))]⟩
         | false=>.stop
       | some (.fk e' xs)=>match jd e e' with
         | true=>.oj (rJ ys=true∧xs.length+ys.length≤LB∧(xs.length+ys.length)*ei.bytes≤140737488355328) ⟨dh s++dh x,k::g.new::yT (g.ev x)⟩ ⟨some (d,.acc g.new),[(k,.dead),(g.new,.fk e (xs++ys))]⟩
         | false=>.stop
       | _=>.stop
     | _=>.stop
def KN(E:Env)(g:G)(d:Nat)(s x:Operand)(t t':TypeId):Ax:=
 match jd t t',E.ti t with
 | true,some ti=>match ti.ty with
   | .slice e=>match E.ti e,Fa E g (g.ev x) with
     | some ei,some (ys,o)=>match g.ev s with
       | .b8=>.oj (Oy E ei.n (g.ev x) ys o∧ys.length≤LB∧ys.length*ei.bytes≤140737488355328) ⟨dh s++dh x,g.new::yT (g.ev x)⟩ ⟨some (d,.acc g.new),[(g.new,.acc e ys)]⟩
       | .acc k=>match g.at k with
         | some (.acc e' xs)=>match jd e e' with
           | true=>.oj (Oy E ei.n (g.ev x) ys o∧xs.length+ys.length≤LB∧(xs.length+ys.length)*ei.bytes≤140737488355328) ⟨dh s++dh x,k::g.new::yT (g.ev x)⟩ ⟨some (d,.acc g.new),[(k,.dead),(g.new,.acc e (xs++ys))]⟩
           | false=>.stop
         | some (.fk e' xs)=>match jd e e' with
           | true=>.oj (Oy E ei.n (g.ev x) ys o∧xs.length+ys.length≤LB∧(xs.length+ys.length)*ei.bytes≤140737488355328) ⟨dh s++dh x,k::g.new::yT (g.ev x)⟩ ⟨some (d,.acc g.new),[(k,.dead),(g.new,.fk e (xs++lift ys))]⟩
           | false=>.stop
         | _=>.stop
       | _=>.stop
     | some ei,none=>ET g d s x e ei
     | _,_=>.stop
   | _=>.stop
 | _,_=>.stop
def xr(E:Env)(g:G)(dn:Option Nat)(t:TypeId)(x y:Operand):Ax:=
 match E.ti t with
 | none=>.stop
 | some ti=>match g.ev x with
   | .ptr k off=>match g.at k with
     | some (.box cs)=>match yk (off+ti.n) (xY cs),(g.ev y).whole,jd (xY (eG (g.ev y))) ti.n,vV (eG (g.ev y)) with
       | true,true,true,true=>.go ⟨dh x++dh y++dn.toList,[k]⟩ ⟨dn.map fun d=>(d,.undef),[(k,.box (Pt cs off (eG (g.ev y))))]⟩
       | _,_,_,_=>.stop
     | _=>.stop
   | .gI k i off sz=>match g.at k with
     | some (.acc e xs)=>match E.ti e,(g.ev y).whole,jd (xY (eG (g.ev y))) ti.n,Af (eG (g.ev y)) with
       | some ei,true,true,some cs=>.oj (H5 sz ei.n=true∧i<xs.length∧yk (off+ti.n) ei.n=true) ⟨dh x++dh y++dn.toList,[k]⟩ ⟨dn.map fun d=>(d,.undef),[(k,.acc e (xs.set i (sS (row xs i) off cs)))]⟩
       | some ei,true,true,none=>match CS (eG (g.ev y)) with
         | none=>.stop
         | some cs=>.oj (H5 sz ei.n=true∧i<xs.length∧yk (off+ti.n) ei.n=true) ⟨dh x++dh y++dn.toList,[k]⟩ ⟨dn.map fun d=>(d,.undef),[(k,.fk e ((lift xs).set i (sS (oQ (lift xs) i) off cs)))]⟩
       | _,_,_,_=>.stop
     | some (.fk e xs)=>match E.ti e,(g.ev y).whole,jd (xY (eG (g.ev y))) ti.n,CS (eG (g.ev y)) with
       | some ei,true,true,some cs=>.oj (H5 sz ei.n=true∧i<xs.length∧yk (off+ti.n) ei.n=true∧lO (Y3 ti.n (Y6 off (oQ xs i)))=true) ⟨dh x++dh y++dn.toList,[k]⟩ ⟨dn.map fun d=>(d,.undef),[(k,.fk e (xs.set i (YN (oQ xs i) off cs)))]⟩
       | _,_,_,_=>.stop
     | _=>.stop
   | _=>.stop
def Cw:List Operand→List Nat
 | []=>[]
 | x::xs=>dh x++Cw xs
theorem yu:∀(l:List Operand),Cw l=l.flatMap dh
 | []=>rfl
 | x::xs=>by simp[Cw,yu xs]
def Te(g:G):List Operand→List PV
 | []=>[]
 | x::xs=>g.ev x::Te g xs
theorem CI(g:G):∀(l:List Operand),Te g l=l.map g.ev
 | []=>rfl
 | x::xs=>by simp[Te,CI g xs]
def R2(g:G)(d:Nat)(fn:Fn)(first cs:List Operand):Ax:=
 match fn,first with
 | .func f,[]=>.go ⟨Cw cs,[]⟩ ⟨some (d,.fn f (Te g cs)),[]⟩
 | _,_=>.stop
def Fg(E:Env)(g:G)(d:Nat)(callee:Callee)(args:List Operand)(tys:List TypeId):Ax:=
 match callee with
 | .builtin b=>match b,args,tys with
   | .len,[x],[s]=>K7 E g d s x
   | .append,[s,x],[t,t']=>KN E g d s x t t'
   | _,_,_=>.stop
 | _=>.stop
def Rf(E:Env)(g:G)(d:Nat):Op→Ax
 | .move x=>.go ⟨dh x,[]⟩ ⟨some (d,g.ev x),[]⟩
 | .assign x=>.go ⟨dh x,[]⟩ ⟨some (d,g.ev x),[]⟩
 | .pick c x y=>K2 g d c x y
 | .alloc t=>Gp E g d t
 | .box _ x=>P6 g d x
 | .load t x=>EW E g d t x
 | .fieldAddr s x f=>Ms E g d s x f
 | .field s x f=>BM E g d s x f
 | .indexAddr s x y=>E6 E g d s x y
 | .index s x y=>Mp E g d s x y
 | .store t x y=>xr E g (some d) t x y
 | .binOp b t x y _=>bop E g d b t x y
 | .unOp u _ x=>RZ g d u x
 | .convert s t x=>E3 E g d s t x
 | .makeFunc fn first cs=>R2 g d fn first.toList cs.toList
 | .build t ps=>B0 E g d t ps.toList
 | .buildSlice t n ps=>KB E g d t n ps.toList
 | .makeSlice t l c=>Fb E g d t l c
 | .slice t x lo hi mx=>Lh E g d t x lo hi mx
 | .nilCheck x=>KM g d x
 | .extract x i=>Lx g d x i
 | .call c=>Fg E g d c.callee c.args.toList c.argTypes.toList
 | _=>.stop
def stp(E:Env)(g:G)(o:Oper):Ax:=
 match o.dst,o.op with
 | some d,op=>Rf E g d op
 | none,.store t x y=>xr E g none t x y
 | none,_=>.stop
section
variable{E:Env}{g:G}{d:Nat}{ty:TypeId}{pos:String}{eM:Array Edge}{gd:Option (Nat×Bool)}{dn:Option Nat}
theorem Pl(t:TypeId)(x:Operand):(EW E g d t x).Ok E.P ⟨some d,.load t x,ty,pos,eM,gd⟩ g:=by
 unfold EW
 split
 ·trivial
 ·rename_i ti ht
  split
  ·rename_i k off hx
   split
   ·rename_i cs hk
    split
    ·rename_i hl
     have hl:=ld hl
     rw[oM] at hl
     simp only[Jl,Kf]
     exact NY x t k off ti cs ht hx hk hl
    ·trivial
   ·trivial
  ·rename_i xs i off hx
   simp only[Jl,Kf]
   exact fun h=>Me x t i off ti xs _ ht hx rfl (RH h)
  ·rename_i k i off sz hx
   split
   ·rename_i e xs hk
    split
    ·rename_i ei he
     simp only[Jl,Kf]
     exact fun h=>Lq x t k i off sz e ti ei xs _ ht he (wL h.1) hx hk h.2.1 rfl (RH h.2.2)
    ·trivial
   ·rename_i e xs hk
    split
    ·rename_i ei he
     simp only[Jl,Kf]
     exact fun h=>NP x t k i off sz e ti ei xs ht he (wL h.1) hx hk h.2.1 (by have:=ld h.2.2;rwa [Fm] at this)
    ·trivial
   ·trivial
  ·trivial
theorem SY(s:TypeId)(x:Operand)(f:Nat):(Ms E g d s x f).Ok E.P ⟨some d,.fieldAddr s x f,ty,pos,eM,gd⟩ g:=by
 unfold Ms
 split
 ·trivial
 ·rename_i si hs
  split
  ·rename_i fs o9
   split
   ·rename_i ft fo fz hf
    rw[LN] at hf
    split
    ·rename_i hx;exact PB x s f _ _ si fs ft fo fz hs o9 hf hx
    ·rename_i hx;exact N5 x s f _ _ _ si fs ft fo fz hs o9 hf hx
    ·rename_i hx;exact ND x s f _ _ _ _ si fs ft fo fz hs o9 hf hx
    ·trivial
   ·trivial
  ·trivial
theorem OJ(s:TypeId)(x:Operand)(f:Nat):(BM E g d s x f).Ok E.P ⟨some d,.field s x f,ty,pos,eM,gd⟩ g:=by
 unfold BM
 split
 ·trivial
 ·rename_i si hs
  split
  ·rename_i fs o9
   split
   ·rename_i ft fo fz hf
    rw[LN] at hf
    split
    ·trivial
    ·rename_i fi hfi
     split
     ·rename_i cs hx
      split
      ·rename_i hl
       have hl:=ld hl
       rw[oM] at hl
       simp only[Jl,Kf]
       exact Wh x s f si fs ft fo fz fi cs hs o9 hf hfi hx hl
      ·trivial
     ·trivial
   ·trivial
  ·trivial
theorem PW(s:TypeId)(x y:Operand):(E6 E g d s x y).Ok E.P ⟨some d,.indexAddr s x y,ty,pos,eM,gd⟩ g:=by
 unfold E6
 split
 ·trivial
 ·rename_i si hs
  split
  ·rename_i n hy
   split
   ·rename_i e o9
    split
    ·trivial
    ·rename_i ei he
     split
     ·rename_i xs hx
      exact fun h=>P3 x y s si ei e xs n hs o9 he hx hy h.1 h.2.1 (X3 h.2.2)
     ·rename_i k hx
      split
      ·rename_i e' xs hk
       split
       ·rename_i hee
        obtain rfl:=bJ hee
        exact fun h=>Pf x y s si ei e k xs n hs o9 he hx hk hy h.1 h.2
       ·trivial
      ·rename_i e' xs hk
       split
       ·rename_i hee
        obtain rfl:=bJ hee
        exact fun h=>Qg x y s si ei e k xs n hs o9 he hx hk hy h.1 h.2
       ·trivial
      ·trivial
     ·trivial
   ·rename_i len e o9
    split
    ·trivial
    ·rename_i ei he
     split
     ·rename_i k off hx
      exact fun h=>QZ x y s si ei e len k off n hs o9 he hx hy h.1 h.2
     ·trivial
   ·trivial
  ·trivial
theorem Sk(s:TypeId)(x y:Operand):(Mp E g d s x y).Ok E.P ⟨some d,.index s x y,ty,pos,eM,gd⟩ g:=by
 unfold Mp
 split
 ·trivial
 ·rename_i si hs
  split
  ·rename_i n hy
   split
   ·rename_i o9
    split
    ·rename_i l hx
     exact fun h=>OU x y s si l n hs o9 hx hy h.1 h.2
    ·trivial
   ·trivial
  ·trivial
theorem Wz(u:UnOp)(t:TypeId)(x:Operand):(RZ g d u x).Ok E.P ⟨some d,.unOp u t x,ty,pos,eM,gd⟩ g:=by
 unfold RZ
 split
 ·rename_i m hx;exact Zq x m t hx
 ·rename_i m hx;exact fun h=>ZK x m t hx h
 ·trivial
theorem Qh(s t:TypeId)(x:Operand):(E3 E g d s t x).Ok E.P ⟨some d,.convert s t x,ty,pos,eM,gd⟩ g:=by
 unfold E3
 split
 ·rename_i si ti hs ht
  split
  ·rename_i k k' k2 m o9 kE hx
   split
   ·rename_i hk
    obtain rfl:=Ml hk
    exact Ys x k k' m s t si ti hs o9 ht kE hx
   ·trivial
  ·trivial
 ·trivial
theorem MB(t:TypeId)(ps:Array (Nat×Operand)):(B0 E g d t ps.toList).Ok E.P ⟨some d,.build t ps,ty,pos,eM,gd⟩ g:=by
 unfold B0
 split
 ·trivial
 ·rename_i ti ht
  split
  ·rename_i fs kE
   split
   ·rename_i r hr
    have hr:=Rm _ _ _ _ hr
    rw[Wo,UY] at hr
    rw[Lb]
    exact U9 t ps.toList ti fs r ht kE hr
   ·trivial
  ·trivial
theorem SV(t:TypeId)(n:Nat)(ps:Array (Nat×Operand)):(KB E g d t n ps.toList).Ok E.P ⟨some d,.buildSlice t n ps,ty,pos,eM,gd⟩ g:=by
 obtain⟨ps⟩:=ps
 simp only
 unfold KB
 split
 ·trivial
 ·rename_i ti ht
  split
  ·rename_i e kE
   split
   ·trivial
   ·rename_i ei he
    split
    ·split
     ·exact pf t e 0 g.new [] ti ei [] ht kE he rfl rfl rfl rfl (by simp) g.lU
     ·trivial
    ·rename_i p ps
     split
     ·rename_i rows h1 h2 h3
      split
      ·rename_i h4 h5 h6
       have h1:=bJ h1
       have h5:=ld h5
       have h6:=ld h6
       rw[Kz] at h1 h5
       rw[P4] at h2
       rw[Q1] at h3
       rw[Lb]
       exact TT t e n (p::ps) ti ei rows ht kE he h1 h2 h3 h4 (eH (oZ h5 h6) (by omega))
      ·trivial
     ·rename_i h1 h2 _
      split
      ·trivial
      ·rename_i rows h3
       split
       ·rename_i h4 h5 h6
        have h1:=bJ h1
        have h5:=ld h5
        have h6:=ld h6
        rw[Kz] at h1 h5
        rw[P4] at h2
        rw[Q1] at h3
        rw[Lb]
        exact Qf t e n g.new (p::ps) ti ei rows ht kE he h1 h2 h3 h4 (eH (oZ h5 h6) (by omega)) g.lU
       ·trivial
     ·trivial
  ·trivial
theorem Qr(t:TypeId)(l c:Operand):(Fb E g d t l c).Ok E.P ⟨some d,.makeSlice t l c,ty,pos,eM,gd⟩ g:=by
 unfold Fb
 split
 ·trivial
 ·rename_i ti ht
  split
  ·rename_i e kE
   split
   ·trivial
   ·rename_i ei he
    split
    ·rename_i z n n' hz hl hc
     rintro⟨rfl,h1,h2,h3⟩
     exact Yd l c t e g.new ti ei n' z ht kE he hz hl hc g.lU h1 h2 h3
    ·trivial
  ·trivial
theorem S5(t:TypeId)(x:Operand)(lo hi mx:Option Operand):(Lh E g d t x lo hi mx).Ok E.P ⟨some d,.slice t x lo hi mx,ty,pos,eM,gd⟩ g:=by
 unfold Lh
 split
 ·rename_i ti ht
  split
  ·rename_i e xs kE hx
   split
   ·rename_i ei l h he hl hh
    exact fun k=>Qs x lo hi t e ti ei xs _ l h ht kE he hx (KD hl) (KD hh) k.1 k.2.1 k.2.2.1 k.2.2.2 rfl
   ·trivial
  ·rename_i s kE hx
   split
   ·rename_i l h hl hh
    exact fun k=>PY x lo hi t ti s _ l h ht kE hx (KD hl) (KD hh) k.1 k.2.1 k.2.2 rfl
   ·trivial
  ·trivial
 ·trivial
theorem Ts(x:Operand):(KM g d x).Ok E.P ⟨some d,.nilCheck x,ty,pos,eM,gd⟩ g:=by
 unfold KM
 split
 ·rename_i hx;exact Ep x _ _ hx
 ·rename_i hx;exact CZ x _ _ _ hx
 ·rename_i hx;exact De x _ _ _ _ hx
 ·trivial
theorem TH(x:Operand)(i:Nat):(Lx g d x i).Ok E.P ⟨some d,.extract x i,ty,pos,eM,gd⟩ g:=by
 unfold Lx
 split
 ·rename_i ps hx
  split
  ·rename_i p hp
   rw[R9] at hp
   exact Qx x i ps p hx hp
  ·trivial
 ·trivial
theorem SH(s:TypeId)(x:Operand):(K7 E g d s x).Ok E.P ⟨some d,.call ⟨.builtin .len,#[x],#[s]⟩,ty,pos,eM,gd⟩ g:=by
 unfold K7
 split
 ·trivial
 ·rename_i si hs
  split
  ·rename_i e xs o9 hx;exact Qe x s si e xs hs o9 hx
  ·rename_i e o9 hx;exact P9 x s si e hs o9 hx
  ·rename_i e k o9 hx
   split
   ·rename_i e' xs hk;exact PC x s si e e' k xs hs o9 hx hk
   ·rename_i e' xs hk;exact QU x s si e e' k xs hs o9 hx hk
   ·trivial
  ·rename_i l o9 hx;exact Pu x s si l hs o9 hx
  ·trivial
theorem OM(s x:Operand)(t e:TypeId)(ti ei:TI)(ht:E.ti t=some ti)(kE:ti.ty= .slice e)(he:E.ti e=some ei):(ET g d s x e ei).Ok E.P ⟨some d,.call ⟨.builtin .append,#[s,x],#[t,t]⟩,ty,pos,eM,gd⟩ g:=by
 unfold ET
 split
 ·trivial
 ·rename_i ys e2 hr
  split
  ·trivial
  ·rename_i h2
   obtain rfl:=bJ h2
   split
   ·rename_i hs
    exact fun h=>FT s x t e g.new ti ei _ ys ht kE he hs rfl (zL hr he h.1) g.lU h.2.1 h.2.2
   ·rename_i k hs
    split
    ·rename_i e' xs hk
     split
     ·rename_i hee
      obtain rfl:=bJ hee
      exact fun h=>Gx s x t e k g.new ti ei _ xs ys ht kE he hs hk rfl (zL hr he h.1) g.lU h.2.1 h.2.2
     ·trivial
    ·rename_i e' xs hk
     split
     ·rename_i hee
      obtain rfl:=bJ hee
      exact fun h=>sG s x t e k g.new ti ei _ xs ys ht kE he hs hk rfl (zL hr he h.1) g.lU h.2.1 h.2.2
     ·trivial
    ·trivial
   ·trivial
theorem S1(s x:Operand)(t t':TypeId):(KN E g d s x t t').Ok E.P ⟨some d,.call ⟨.builtin .append,#[s,x],#[t,t']⟩,ty,pos,eM,gd⟩ g:=by
 unfold KN
 split
 ·rename_i ti htt ht
  obtain rfl:=bJ htt
  split
  ·rename_i e kE
   split
   ·rename_i ei ys o he hap
    split
    ·rename_i hs
     exact fun h=>HV s x t e g.new ti ei _ ys ht kE he hs rfl (Ak hap h.1) g.lU h.2.1 h.2.2
    ·rename_i k hs
     split
     ·rename_i e' xs hk
      split
      ·rename_i hee
       obtain rfl:=bJ hee
       exact fun h=>Ia s x t e k g.new ti ei _ xs ys ht kE he hs hk rfl (Ak hap h.1) g.lU h.2.1 h.2.2
      ·trivial
     ·rename_i e' xs hk
      split
      ·rename_i hee
       obtain rfl:=bJ hee
       exact fun h=>sG s x t e k g.new ti ei _ xs (lift ys) ht kE he hs hk rfl (.inl ⟨ys,Ak hap h.1,rfl⟩) g.lU (by rw[sx];exact h.2.1) (by rw[sx];exact h.2.2)
      ·trivial
     ·trivial
    ·trivial
   ·rename_i ei he _
    exact OM s x t e ti ei ht kE he
   ·trivial
  ·trivial
 ·trivial
theorem D0(t:TypeId)(x y:Operand):(xr E g dn t x y).Ok E.P ⟨dn,.store t x y,ty,pos,eM,gd⟩ g:=by
 unfold xr
 split
 ·trivial
 ·rename_i ti ht
  split
  ·rename_i k off hx
   split
   ·rename_i cs hk
    split
    ·rename_i h1 h2 h3 h4
     have h1:=ld h1
     have h3:=bJ h3
     rw[oM] at h1 h3
     rw[Mg _ _ _ (by omega)]
     exact La x y t k off ti cs _ ht hx hk rfl h1 h2 h3 h4
    ·trivial
   ·trivial
  ·rename_i k i off sz hx
   split
   ·rename_i e xs hk
    split
    ·rename_i ei cs he h2 h3 h4
     have h3:=bJ h3
     rw[oM] at h3
     exact fun h=>I3 x y t k i off sz e ti ei xs _ cs ht he (wL h.1) hx hk rfl h.2.1 (ld h.2.2) h2 h3 h4
    ·rename_i ei he h2 h3 _
     have h3:=bJ h3
     rw[oM] at h3
     split
     ·trivial
     ·rename_i cs h4
      exact fun h=>LI x y t k i off sz e ti ei xs _ cs ht he (wL h.1) hx hk rfl h.2.1 (ld h.2.2) h2 h3 h4
    ·trivial
   ·rename_i e xs hk
    split
    ·rename_i ei cs he h2 h3 h4
     have h3:=bJ h3
     rw[oM] at h3
     simp only[OX,Ql,X7]
     exact fun h=>AP x y t k i off sz e ti ei xs _ cs ht he (wL h.1) hx hk rfl h.2.1 (ld h.2.2.1) h2 h3 h4 h.2.2.2
    ·trivial
   ·trivial
  ·trivial
theorem We(fn:Fn)(first cs:Array Operand):(R2 g d fn first.toList cs.toList).Ok E.P ⟨some d,.makeFunc fn first cs,ty,pos,eM,gd⟩ g:=by
 obtain⟨first⟩:=first
 obtain⟨cs⟩:=cs
 unfold R2
 split
 ·rename_i f h
  simp only at h
  subst h
  rw[yu,CI]
  exact Oo _ _
 ·trivial
theorem Pb(c:Call):(Fg E g d c.callee c.args.toList c.argTypes.toList).Ok E.P ⟨some d,.call c,ty,pos,eM,gd⟩ g:=by
 obtain⟨callee,⟨args⟩,⟨tys⟩⟩:=c
 unfold Fg
 split
 ·split
  ·rename_i h1 h2
   simp only at h1 h2
   subst h1 h2
   rename_i h
   simp only at h
   subst h
   exact SH _ _
  ·rename_i h1 h2
   simp only at h1 h2
   subst h1 h2
   rename_i h
   simp only at h
   subst h
   exact S1 _ _ _ _
  ·trivial
 ·trivial
theorem WB(op:Op):(Rf E g d op).Ok E.P ⟨some d,op,ty,pos,eM,gd⟩ g:=by
 unfold Rf
 split
 ·exact LK _
 ·exact Tc _
 ·unfold K2
  split
  ·rename_i hc;exact RB _ _ _ true hc
  ·rename_i hc;exact RB _ _ _ false hc
  ·trivial
 ·unfold Gp
  split
  ·rename_i ti ht;exact T2 _ g.new ti ht g.lU
  ·trivial
 ·unfold P6
  split
  ·rename_i hw;exact aal _ _ g.new g.lU hw
  ·trivial
 ·exact Pl _ _
 ·exact SY _ _ _
 ·exact OJ _ _ _
 ·exact PW _ _ _
 ·exact Sk _ _ _
 ·exact D0 _ _ _
 ·exact Zx _ _ _ _ _
 ·exact Wz _ _ _
 ·exact Qh _ _ _
 ·exact We _ _ _
 ·exact MB _ _
 ·exact SV _ _ _
 ·exact Qr _ _ _
 ·exact S5 _ _ _ _ _
 ·exact Ts _
 ·exact TH _ _
 ·exact Pb _
 ·trivial
theorem ZV(o:Oper):(stp E g o).Ok E.P o g:=by
 obtain⟨dst,op,ty,pos,eM,gd⟩:=o
 unfold stp
 split
 ·rename_i d h
  obtain rfl:dst=some d:=h
  exact WB op
 ·rename_i t x y h1 h2
  obtain rfl:dst=none:=h1
  obtain rfl:op= .store t x y:=h2
  exact D0 _ _ _
 ·trivial
end
inductive qQ where
 | on
 | off
def Z5:Bool→(qQ→Prop)→(qQ→Prop)→Prop
 | true,a,_=>a .on
 | false,_,b=>b .on
theorem aaN(a b:qQ→Prop):Z5 true a b=a .on:=rfl
theorem abd(a b:qQ→Prop):Z5 false a b=b .on:=rfl
theorem To{c:Bool}{a b:qQ→Prop}(ht:c=true→a .on)(hf:c=false→b .on):Z5 c a b:=by
 cases c
 ·exact hf rfl
 ·exact ht rfl
theorem yz{c:Bool}{a b:qQ→Prop}(h:Z5 c a b):(c=true∧a .on)∨(c=false∧b .on):=by
 cases c
 ·exact .inr ⟨rfl,h⟩
 ·exact .inl ⟨rfl,h⟩
def snoc:List Ky→Ky→List Ky
 | [],k=>[k]
 | a::as,k=>a::snoc as k
theorem Q7:∀(l:List Ky)(k:Ky),snoc l k=l++[k]
 | [],_=>rfl
 | a::as,k=>by simp[snoc,Q7 as k]
def mw:Option (List Ky)→Ky→Option (List Ky)
 | none,_=>none
 | some l,k=>some (snoc l k)
def WM(P:Program)(ops:Array Oper):Option (List Ky)→List Oper→G→(G→Prop)→Prop
 | none,os,g,K=>WO P ops os g K
 | some pre,os,g,K=>WD P ops os pre g K
theorem Fj{P:Program}{ops:Array Oper}{m:Option (List Ky)}{o:Oper}{os:List Oper}{g:G}{K:G→Prop}{R:Rd}{δ:Dl}(h:FP P ops o g R δ)(hr:WM P ops (mw m (oo R δ)) os (g.app δ) K):WM P ops m (o::os) g K:=by
 cases m with
 | none=>exact yh h hr
 | some pre=>
   simp only[mw,Q7] at hr
   exact YP h hr
def uV:Option Nat→Rd→Rd
 | none,R=>R
 | some t,R=>⟨t::R.s,R.p⟩
def AH(P:Program)(g g':G):Prop:=∀(X:Cx)(ν:Nat→Nm)(a:Act)(w:World),Sat P X ν g a w→∃ν',Sat P X ν' g' a w
theorem AH.trans{P:Program}{g g1 g2:G}(h:AH P g g1)(h':AH P g1 g2):AH P g g2:=fun X ν a w hs=>
 let ⟨ν1,h1⟩:=h X ν a w hs
 h' X ν1 a w h1
theorem R7{P:Program}{ops:Array Oper}{os:List Oper}{g g':G}{K:G→Prop}(hw:AH P g g')(h:WO P ops os g' K):WO P ops os g K:=fun i hi X ν a w Q hs hn=>
 let ⟨ν',hs'⟩:=hw X ν a w hs
 h i hi X ν' a w Q hs' hn
def sR(E:Env)(m:Option (List Ky))(gs:Option Nat)(o:Oper)(g:G)(rest:qQ→Option (List Ky)→G→Prop):Prop:=
 (∃R δ,kH E.P o g R δ∧rest .on (mw m (oo (uV gs R) δ)) (g.app δ)) ∨
 (m=none∧gs=none∧∃g',AH E.P g g'∧∃R δ,kH E.P o g' R δ∧rest .on none (g'.app δ))
theorem fg{E:Env}{m:Option (List Ky)}{gs:Option Nat}{o:Oper}{g:G}{rest:qQ→Option (List Ky)→G→Prop}{R:Rd}{δ:Dl}(h:kH E.P o g R δ)(hr:rest .on (mw m (oo (uV gs R) δ)) (g.app δ)):sR E m gs o g rest:=.inl ⟨R,δ,h,hr⟩
def I5(E:Env)(m:Option (List Ky))(gs:Option Nat)(o:Oper)(g:G)(rest:qQ→Option (List Ky)→G→Prop):Ax→Prop
 | .go R δ=>rest .on (mw m (oo (uV gs R) δ)) (g.app δ)
 | .oj φ R δ=>φ∧rest .on (mw m (oo (uV gs R) δ)) (g.app δ)
 | .stop=>sR E m gs o g rest
theorem fu{E:Env}{m:Option (List Ky)}{gs:Option Nat}{o:Oper}{g:G}{rest:qQ→Option (List Ky)→G→Prop}(h:I5 E m gs o g rest (stp E g o)):sR E m gs o g rest:=by
 have hk:=ZV (E:=E) (g:=g) o
 generalize stp E g o=s at h hk
 cases s with
 | go R δ=>exact .inl ⟨R,δ,hk,h⟩
 | oj φ R δ=>exact .inl ⟨R,δ,hk h.1,h.2⟩
 | stop=>exact h
def ZY(E:Env)(m:Option (List Ky))(t:Nat)(o:Oper)(g:G)(rest:qQ→Option (List Ky)→G→Prop):qQ→Prop
 | .on=>I5 E m (some t) o g rest (stp E g o)
 | .off=>False
def Ui(m:Option (List Ky))(t:Nat)(g:G)(rest:qQ→Option (List Ky)→G→Prop):Option Nat→qQ→Prop
 | some d,.on=>rest .on (mw m ⟨[t],[],[d],[]⟩) (g.app ⟨some (d,.undef),[]⟩)
 | _,_=>False
def rS:PV→Bool→(qQ→Prop)→(qQ→Prop)→Prop
 | .d (.val (.bool c)),true,yes,no=>Z5 c yes no
 | .d (.val (.bool c)),false,yes,no=>Z5 c no yes
 | .undef,_,_,no=>no .on
 | _,_,_,_=>False
def gsl:List Oper→Nat→Option Nat
 | [],_=>none
 | o::_,0=>o.dst
 | _::os,n+1=>gsl os n
theorem TX:∀(l:List Oper)(n:Nat),gsl l n=(l[n]?).bind (·.dst)
 | [],n=>by simp[gsl]
 | o::_,0=>rfl
 | _::os,n+1=>by simp[gsl,TX os n]
def ZP(all:List Oper)(g:G)(K:qQ→G→Prop):Option (List Ky)→Prop
 | none=>K .on g
 | some pre=>indep all pre=true∧K .on g
def Yv(E:Env)(all:List Oper)(m:Option (List Ky))(o:Oper)(g:G)(rest:qQ→Option (List Ky)→G→Prop):Option (Nat×Bool)→Prop
 | none=>I5 E m none o g rest (stp E g o)
 | some (j,b)=>match gsl all j with
   | none=>False
   | some t=>rS (nth g.sl t) b (ZY E m t o g rest) (Ui m t g rest o.dst)
def run(E:Env)(all:List Oper)(K:qQ→G→Prop):List Oper→qQ→Option (List Ky)→G→Prop
 | [],.on,m,g=>ZP all g K m
 | o::os,.on,m,g=>Yv E all m o g (run E all K os) o.guard
 | [],.off,_,_=>False
 | _::_,.off,_,_=>False
theorem QA{E:Env}{ops:Array Oper}{K:qQ→G→Prop}:∀(os:List Oper)(m:Option (List Ky))(g:G),run E ops.toList K os .on m g→WM E.P ops m os g (K .on)
 | [],none,g,h=>wc h
 | [],some pre,g,h=>aaw h.1 h.2
 | o::os,m,g,h=>by
   have ih:=QA (E:=E) (ops:=ops) (K:=K) os
   simp only[run] at h
   cases hg:o.guard with
   | none=>
     rw[hg] at h
     rcases fu h with⟨R,δ,h1,h2⟩|⟨rfl,_,g',hw,R,δ,h1,h2⟩
     ·exact Fj (FP.plain hg h1) (ih _ _ h2)
     ·exact R7 hw (yh (FP.plain hg h1) (ih _ _ h2))
   | some jb=>
     obtain⟨j,b⟩:=jb
     rw[hg] at h
     simp only[Yv] at h
     split at h
     ·exact h.elim
     ·rename_i t ht
      have hj:DD ops j=some t:=by
       rw[TX] at ht
       unfold DD
       rw[←ht]
       simp
      have hyes:∀c,nth g.sl t= .d (.val (.bool c))→c=b→ZY E m t o g (run E ops.toList K os) .on→WM E.P ops m (o::os) g (K .on):=by
       intro c hc OL hd
       subst OL
       rcases fu hd with⟨R,δ,h1,h2⟩|⟨_,h0,_⟩
       rotate_left
       ·cases h0
       exact Fj (FP.run hg hj hc h1) (ih _ _ h2)
      have hno:∀c,nth g.sl t= .d (.val (.bool c))→c≠b→Ui m t g (run E ops.toList K os) o.dst .on→WM E.P ops m (o::os) g (K .on):=by
       intro c hc OL hd
       cases hdst:o.dst with
       | none=>rw[hdst] at hd;exact hd.elim
       | some d=>
         rw[hdst] at hd
         exact Fj (FP.skip hg hj hc OL hdst) (ih _ _ hd)
      cases hv:nth g.sl t<;>rw[hv] at h<;>first
       | (simp only[rS] at h;done)
       | skip
      ·simp only[rS] at h
       cases hdst:o.dst with
       | none=>rw[hdst] at h;exact h.elim
       | some d=>
         rw[hdst] at h
         exact Fj (FP.abl hg hj hv hdst) (ih _ _ h)
      ·rename_i x
       cases x with
       | str s=>simp only[rS] at h
       | dt s=>simp only[rS] at h
       | val v=>
         cases v<;>first
          | (simp only[rS] at h;done)
          | skip
         rename_i c
         cases b with
         | true=>
           simp only[rS] at h
           rcases yz h with⟨h1,h2⟩|⟨h1,h2⟩
           ·exact hyes c hv h1 h2
           ·exact hno c hv (by rw[h1];simp) h2
         | false=>
           simp only[rS] at h
           rcases yz h with⟨h1,h2⟩|⟨h1,h2⟩
           ·exact hno c hv (by rw[h1];simp) h2
           ·exact hyes c hv h1 h2
def RP(K:qQ→G→Prop)(Q:qQ→Ex→G→Prop):qQ→Ex→G→Prop
 | .on,.normal,g=>K .on g
 | .on,.exit id,g=>Q .on (.exit id) g
 | .on,.ret,g=>Q .on .ret g
 | .off,_,_=>False
def HJ(id:Nat)(Q:qQ→Ex→G→Prop):qQ→Ex→G→Prop
 | .on,.normal,g=>Q .on .normal g
 | .on,.exit i,g=>match jd i id with|true=>Q .on .normal g|false=>Q .on (.exit i) g
 | .on,.ret,g=>Q .on .ret g
 | .off,_,_=>False
def Wc(Q:qQ→Ex→G→Prop):qQ→G→Prop
 | .on,g=>Q .on .normal g
 | .off,_=>False
def V6:PV→(qQ→Prop)→(qQ→Prop)→Prop
 | .d (.val (.bool b)),x,y=>Z5 b x y
 | _,_,_=>False
def aae(E:Env)(ops:List Oper)(Q:qQ→Ex→G→Prop)(g:G):Bool→Prop
 | false=>run E ops (Wc Q) ops .on none g
 | true=>run E ops (Wc Q) ops .on (some []) g
def Mt(E:Env)(n0:Nat):Code→qQ→G→(qQ→Ex→G→Prop)→Prop
 | .skip,.on,g,Q=>Q .on .normal g
 | .exit id,.on,g,Q=>Q .on (.exit id) g
 | .ret,.on,g,Q=>Q .on .ret g
 | .seq a b,.on,g,Q=>Mt E n0 a .on g (RP (fun tok g'=>Mt E n0 b tok g' Q) Q)
 | .cond c x y,.on,g,Q=>V6 (g.ev c) (fun tok=>Mt E n0 x tok g Q) (fun tok=>Mt E n0 y tok g Q)
 | .block id c,.on,g,Q=>Mt E n0 c .on g (HJ id Q)
 | .region _ ops dr,.on,g,Q=>aae E ops.toList Q g dr
 | .loop c,.on,g,Q=>W E.P n0 (.loop c) g (Q .on)
 | _,_,_,_=>False
theorem Qq{E:Env}(hm:E.P.follows .mixedOrders=true){n0:Nat}:∀(c:Code)(g:G)(Q:qQ→Ex→G→Prop),Mt E n0 c .on g Q→W E.P n0 c g (Q .on):=by
 intro c
 induction c with
 | skip=>intro g Q h;exact aak h
 | exit id=>intro g Q h;exact Zr h
 | ret=>intro g Q h;exact R6 h
 | seq a b iha ihb=>
   intro g Q h
   have:=iha g _ h
   refine fl (fun X ν ac w hp hs=>wp_mono (this X ν ac w hp hs) fun e a' w' hl=>?_)
   cases e with
   | normal=>obtain⟨g',ν',h1,h2⟩:=hl;exact⟨g',ν',ihb g' Q h1,h2⟩
   | exit id=>exact hl
   | ret=>exact hl
   | goto l=>exact hl
   | panic c=>exact hl
   | outgrown=>exact hl
 | cond c x y ihx ihy=>
   intro g Q h
   simp only[Mt] at h
   unfold V6 at h
   split at h
   ·rename_i b hb
    refine KP hb (fun hc=>?_) (fun hc=>?_)
    ·rcases yz h with⟨h1,h2⟩|⟨h1,h2⟩
     ·exact ihx g Q h2
     ·rw[hc] at h1;cases h1
    ·rcases yz h with⟨h1,h2⟩|⟨h1,h2⟩
     ·rw[hc] at h1;cases h1
     ·exact ihy g Q h2
   ·exact h.elim
 | block id c ih=>
   intro g Q h
   have:=ih g _ h
   refine E0 (fun X ν ac w hp hs=>wp_mono (this X ν ac w hp hs) fun e a' w' hl=>?_)
   cases e with
   | normal=>exact hl
   | exit i=>
     obtain⟨g',ν',h1,h2⟩:=hl
     refine⟨g',ν',?_,h2⟩
     simp only[HJ] at h1
     simp only[C6]
     split at h1
     ·rename_i he
      rw[if_pos (bJ he)]
      exact h1
     ·rename_i he
      rw[if_neg (fun e=>by subst e;simp at he)]
      exact h1
   | ret=>exact hl
   | goto l=>exact hl
   | panic c=>exact hl
   | outgrown=>exact hl
 | region id ops dr=>
   intro g Q h
   simp only[Mt] at h
   cases dr with
   | false=>exact oB (QA ops.toList none g h)
   | true=>exact Xk hm (QA ops.toList (some []) g h)
 | loop c _=>intro g Q h;exact h
 | _=>intro g Q h;simp[Mt] at h
end Go.Eng
