/-
  The symbolic layer, sixteenth text: a state seen with less, its owned places under other numbers, a grown slice seen as data.
-/
import Derived.Test.YtabembjmeobhoaaGreatKBB
import Derived.Laws.BytesArg
import Derived.Laws.Slices
set_option linter.unusedVariables false
set_option linter.unusedSimpArgs false
open Array renaming length_toList→fh
open Bool renaming and_eq_true→ai,false_or→lZ
open Int renaming toNat_natCast→bo
open List renaming getElem?_eq_getElem→ah,drop_of_length_le→al,take_of_length_le→ao,mem_cons→ay,map_cons→aQ,mem_append→aR,length_append→aX,length_cons→a8,getElem?_append_left→bj,append_assoc→bm,getElem?_append_right→bu,cons_append→bz,nil_append→bB,mem_map→bD,eq_nil_of_length_eq_zero→bE,append_nil→bF,take_append_of_le_length→bW,getD→cC,mem_of_getElem?→cM,getElem?_take→cV,nodup_append→df,map_nil→dt,getElem?_drop→dv,length_map→dw,take_succ_cons→dH,flatten_cons→dV,size_toArray→dW,length_drop→eH,drop→fm,mem_flatMap→fF,getElem?_map→gW,take_append_drop→ic,map_toArray→iq,set_cons_zero→ir,length_set→jh,map_congr_left→jl,getElem?_set→kn,drop_drop→mP,take→m0,set_cons_succ→nT
open Nat renaming le_refl→aI,zero_le→bh,eq_of_beq_eq_true→bI,mul_le_mul_right→bP,lt_or_ge→bU,add_mul→cQ,zero_add→c9,le_trans→eu,beq→ja,le_mul_of_pos_right→od,mul_le_mul→oQ
open Option renaming isSome_iff_exists→cH,map_none→gl
namespace Go.Eng
open Go.RowKit
theorem wu{w:World}{ok ok':Nat→Prop}{e:TypeId}{sz:Nat}{v:Value}{xs:List (List D)}{us:List (List Value)}(ho:w.ownsRow 0 e sz v xs.length us.flatten)(hr:cg w ok sz xs us)(hB:xs.length≤LB)
 (eP:∀b,vN v=some b→ok' b) (hf:∀b,ok b→b<w.heap.size→ok' b∧w.heap[b]?=w.heap[b]?):hU w ok' (.dP xs) v:=by
 rcases ho.2 with⟨h1,h2⟩|⟨b,cap,cur,h1,_,h2,h3,h4,h5,h6⟩
 ·obtain rfl:=bE h2
  rw[h1];exact .nil
 ·subst h1
  have hr':=hr.frame hf (aI _)
  refine .dP xs us b 0 cap sz (eP b rfl) (pY h2) h3 h4 hB hr'.len hr'.hx hr'.hu (fun j u hu=>?_) hr'.hr
  have hj:j<us.flatten.length:=by
   rcases bU j us.flatten.length with h' | h'
   ·exact h'
   ·rw[List.getElem?_eq_none h'] at hu;cases hu
  rw[←h6] at hu
  have hu2:cur.toList[j]?=some u:=by
   rw[cV] at hu
   split at hu
   ·exact hu
   ·cases hu
  have hcur:cur[j]?=some u:=by simpa using hu2
  simp[World.cell?,h2,hcur]
mutual
def T.FD:T→Option D
 | .leaf d=>some d
 | .ref _=>none
 | .own _ xs=>match cR xs with|some ys=>some (.dP ys)|none=>none
def fT:List T→Option (List D)
 | []=>some []
 | t::ts=>match t.FD,fT ts with|some d,some ds=>some (d::ds)|_,_=>none
def cR:List (List T)→Option (List (List D))
 | []=>some []
 | x::xs=>match fT x,cR xs with|some y,some ys=>some (y::ys)|_,_=>none
end
def PX:Option En→D→Prop
 | some (.acc _ xs),y=>y= .dP xs
 | some (.fg _ xs),y=>∃ys,cR xs=some ys∧y= .dP ys
 | _,_=>False
section
variable{P:Program}{w:World}{ok ok':Nat→Prop}{ν ν':Nat→Nm}{st st':Nat→Option En}
mutual
theorem kC.data(hf:∀b,ok b→b<w.heap.size→ok' b∧w.heap[b]?=w.heap[b]?):∀(t:T)(v:Value)(F:List Nat)(d:D),t.FD=some d→kC P w ok ν st t v F→(∀b∈F,ok' b)→hU w ok' d v
 | .leaf x,v,F,d,hd,h,_=>by
   simp only[T.FD,Option.some.injEq] at hd
   simp only[kC] at h
   rw[←hd]
   exact h.1.frame hf (aI _)
 | .ref j,v,F,d,hd,_,_=>by simp[T.FD] at hd
 | .own e xs,v,F,d,hd,h,hF=>by
   simp only[T.FD] at hd
   split at hd
   ·rename_i ys hys
    obtain rfl:=Option.some.inj hd
    simp only[kC] at h
    obtain⟨us,F1,h1,h2,h3,h4,rfl⟩:=h
    obtain⟨k1,k2,k3⟩:=bw.data hf xs us F1 ys hys h3 (fun b hb=>hF b (aR.2 (.inr hb)))
    refine wu (ok:=ok') (by rw[←k2];exact h1) ⟨k1,fun i x hx=>?_,h2,fun i j x u dd vv a1 a2 a3 a4=>(k3 i x u a1 a2).2 j dd vv a3 a4⟩ (by rw[←k2];exact h4) (fun b hb=>hF b (aR.2 (.inl (BQ.2 hb)))) (fun b hb _=>⟨hb,rfl⟩)
    have hi:i<us.length:=by
     rw[k1]
     exact(List.getElem?_eq_some_iff.1 hx).1
    rw[(k3 i x us[i] hx (ah hi)).1]
    exact h2 i _ (ah hi)
   ·cases hd
theorem bf.data(hf:∀b,ok b→b<w.heap.size→ok' b∧w.heap[b]?=w.heap[b]?):∀(ts:List T)(vs:List Value)(F:List Nat)(ds:List D),fT ts=some ds→bf P w ok ν st ts vs F→(∀b∈F,ok' b)→ds.length=vs.length∧∀(j:Nat)(d:D)(v:Value),ds[j]?=some d→vs[j]?=some v→hU w ok' d v
 | [],[],F,ds,hd,_,_=>by
   simp only[fT,Option.some.injEq] at hd
   rw[←hd]
   simp
 | [],_::_,F,ds,_,h,_=>by simp[bf] at h
 | _::_,[],F,ds,_,h,_=>by simp[bf] at h
 | t::ts,v::vs,F,ds,hd,h,hF=>by
   simp only[fT] at hd
   split at hd
   ·rename_i d' ds' e1 e2
    obtain rfl:=Option.some.inj hd
    simp only[bf] at h
    obtain⟨F1,F2,h1,h2,rfl⟩:=h
    have k1:=kC.data hf t v F1 d' e1 h1 fun b hb=>hF b (aR.2 (.inl hb))
    obtain⟨k2,k3⟩:=bf.data hf ts vs F2 ds' e2 h2 fun b hb=>hF b (aR.2 (.inr hb))
    refine⟨by simp[k2],fun j d u a1 a2=>?_⟩
    cases j with
    | zero=>
      obtain rfl:d'=d:=by simpa using a1
      obtain rfl:v=u:=by simpa using a2
      exact k1
    | succ j=>exact k3 j d u (by simpa using a1) (by simpa using a2)
   ·cases hd
theorem bw.data(hf:∀b,ok b→b<w.heap.size→ok' b∧w.heap[b]?=w.heap[b]?):∀(xs:List (List T))(us:List (List Value))(F:List Nat)(ys:List (List D)),cR xs=some ys→bw P w ok ν st xs us F→(∀b∈F,ok' b)→us.length=ys.length∧xs.length=ys.length∧∀(i:Nat)(x:List D)(u:List Value),ys[i]?=some x→us[i]?=some u→x.length=u.length∧∀(j:Nat)(d:D)(v:Value),x[j]?=some d→u[j]?=some v→hU w ok' d v
 | [],[],F,ys,hd,_,_=>by
   simp only[cR,Option.some.injEq] at hd
   rw[←hd]
   simp
 | [],_::_,F,ds,_,h,_=>by simp[bw] at h
 | _::_,[],F,ds,_,h,_=>by simp[bw] at h
 | x::xs,u::us,F,ys,hd,h,hF=>by
   simp only[cR] at hd
   split at hd
   ·rename_i y' ys' e1 e2
    obtain rfl:=Option.some.inj hd
    simp only[bw] at h
    obtain⟨F1,F2,h1,h2,rfl⟩:=h
    have k1:=bf.data hf x u F1 y' e1 h1 fun b hb=>hF b (aR.2 (.inl hb))
    obtain⟨k2,k3,k4⟩:=bw.data hf xs us F2 ys' e2 h2 fun b hb=>hF b (aR.2 (.inr hb))
    refine⟨by simp[k2],by simp[k3],fun i z q a1 a2=>?_⟩
    cases i with
    | zero=>
      obtain rfl:y'=z:=by simpa using a1
      obtain rfl:u=q:=by simpa using a2
      exact k1
    | succ i=>exact k4 i z q (by simpa using a1) (by simpa using a2)
   ·cases hd
end
mutual
theorem kC.still:∀(t:T)(v:Value)(F:List Nat),t.FD.isSome=true→kC P w ok ν st t v F→kC P w ok ν' st' t v F
 | .leaf x,v,F,_,h=>by simpa only[kC] using h
 | .ref j,v,F,hd,_=>by simp[T.FD] at hd
 | .own e xs,v,F,hd,h=>by
   simp only[T.FD] at hd
   simp only[kC] at h⊢
   obtain⟨us,F1,h1,h2,h3,h4⟩:=h
   refine⟨us,F1,h1,h2,bw.still xs us F1 ?_ h3,h4⟩
   split at hd
   ·rename_i e;rw[e];rfl
   ·cases hd
theorem bf.still:∀(ts:List T)(vs:List Value)(F:List Nat),(fT ts).isSome=true→bf P w ok ν st ts vs F→bf P w ok ν' st' ts vs F
 | [],[],F,_,h=>by simpa only[bf] using h
 | [],_::_,F,_,h=>by simp[bf] at h
 | _::_,[],F,_,h=>by simp[bf] at h
 | t::ts,v::vs,F,hd,h=>by
   simp only[fT] at hd
   simp only[bf] at h⊢
   obtain⟨F1,F2,h1,h2,h3⟩:=h
   split at hd
   ·rename_i e1 e2
    exact⟨F1,F2,kC.still t v F1 (by rw[e1];rfl) h1,bf.still ts vs F2 (by rw[e2];rfl) h2,h3⟩
   ·cases hd
theorem bw.still:∀(xs:List (List T))(us:List (List Value))(F:List Nat),(cR xs).isSome=true→bw P w ok ν st xs us F→bw P w ok ν' st' xs us F
 | [],[],F,_,h=>by simpa only[bw] using h
 | [],_::_,F,_,h=>by simp[bw] at h
 | _::_,[],F,_,h=>by simp[bw] at h
 | x::xs,u::us,F,hd,h=>by
   simp only[cR] at hd
   simp only[bw] at h⊢
   obtain⟨F1,F2,h1,h2,h3⟩:=h
   split at hd
   ·rename_i e1 e2
    exact⟨F1,F2,bf.still x u F1 (by rw[e1];rfl) h1,bw.still xs us F2 (by rw[e2];rfl) h2,h3⟩
   ·cases hd
end
def lift(xs:List (List D)):List (List T):=xs.map fun x=>x.map T.leaf
theorem yy:∀(x:List D),fT (x.map T.leaf)=some x
 | []=>rfl
 | d::x=>by simp[fT,T.FD,yy x]
theorem mT:∀(xs:List (List D)),cR (lift xs)=some xs
 | []=>rfl
 | x::xs=>by
   have:=mT xs
   simp only[lift] at this
   simp[lift,cR,yy,this]
theorem bf.Ak:∀{ds:List D}{vs:List Value},vs.length=ds.length→(∀(j:Nat)(d:D)(v:Value),ds[j]?=some d→vs[j]?=some v→hU w ok d v)→bf P w ok ν st (ds.map T.leaf) vs []
 | [],[],_,_=>by simp[bf]
 | d::ds,v::vs,hl,h=>by
   simp only[aQ,bf,kC]
   exact⟨[],[],⟨h 0 d v rfl rfl,rfl⟩,bf.Ak (by simpa using hl) fun j d v a1 a2=>h (j+1) d v (by simpa using a1) (by simpa using a2),rfl⟩
 | [],_::_,hl,_=>by simp at hl
 | _::_,[],hl,_=>by simp at hl
theorem bw.Ak{sz:Nat}:∀{xs:List (List D)}{us:List (List Value)},cg w ok sz xs us→bw P w ok ν st (lift xs) us []
 | [],[],_=>by simp[lift,bw]
 | x::xs,u::us,h=>by
   simp only[lift,aQ,bw]
   refine⟨[],[],bf.Ak ?_ fun j d v a1 a2=>h.hr 0 j x u d v rfl rfl a1 a2,bw.Ak (sz:=sz) (xs:=xs) ⟨by simpa using h.len,fun i x hx=>h.hx (i+1) x (by simpa using hx),fun i u hu=>h.hu (i+1) u (by simpa using hu),fun i j x u d v a1 a2 a3 a4=>h.hr (i+1) j x u d v (by simpa using a1) (by simpa using a2) a3 a4⟩,rfl⟩
   rw[h.hu 0 u rfl,h.hx 0 x rfl]
 | [],_::_,h=>by have:=h.len;simp at this
 | _::_,[],h=>by have:=h.len;simp at this
theorem rB(xs:List (List D)):(lift xs).length=xs.length:=by simp[lift]
end
def gN:List (Option Nat)→Nat→Option (Option Nat)
 | [],_=>none
 | a::_,0=>some a
 | _::as,n+1=>gN as n
def Dr(k:Nat):List (Option Nat)→Bool
 | []=>false
 | some j::r=>k == j||Dr k r
 | none::r=>Dr k r
def aas:List (Option Nat)→Bool
 | []=>true
 | some j::r=>!Dr j r&&aas r
 | none::r=>aas r
mutual
def wk(g:G)(m:List (Option Nat)):PV→PV→Prop
 | p,.any=>True
 | .bZ,.bZ=>True
 | .undef,.undef=>True
 | .bZ,.d y=>y= .dP []
 | .bZ,.acc k'=>gN m k'=some none
 | .d x,.d y=>x=y
 | .acc k,.d y=>PX (g.at k) y∧Dr k m=false
 | .acc k,.acc k'=>gN m k'=some (some k)
 | .ptr k off,.ptr k' off'=>gN m k'=some (some k)∧off=off'
 | .gE k i off sz,.gE k' i' off' sz'=>gN m k'=some (some k)∧i=i'∧off=off'∧sz=sz'
 | .gm xs i off,.gm ys j off'=>xs=ys∧i=j∧off=off'
 | .agg cs,.agg ds=>zQ g m cs ds
 | .jd cs,.jd ds=>zQ g m cs ds
 | .fn f cs,.fn f' ds=>f=f'∧zQ g m cs ds
 | _,_=>False
def zQ(g:G)(m:List (Option Nat)):List PV→List PV→Prop
 | [],[]=>True
 | p::ps,q::qs=>wk g m p q∧zQ g m ps qs
 | _,_=>False
end
def BB(g:G)(m:List (Option Nat)):En→En→Prop
 | _,.dead=>True
 | .box cs,.box ds=>zQ g m cs ds
 | .acc e xs,.acc e' ys=>e=e'∧xs=ys
 | .acc e xs,.fg e' ys=>e=e'∧lift xs=ys
 | .fg e xs,.fg e' ys=>e=e'∧xs=ys∧(cR xs).isSome=true
 | .map sn,.map kvs'=>sn=kvs'
 | _,_=>False
def l7(g:G)(m:List (Option Nat)):List (Option Nat)→List (Option En)→Prop
 | [],[]=>True
 | some k::ks,some e'::es=>(∃e,g.at k=some e∧BB g m e e')∧l7 g m ks es
 | none::ks,some (.acc _ xs)::es=>xs=[]∧l7 g m ks es
 | none::ks,some (.fg _ xs)::es=>xs=[]∧l7 g m ks es
 | _,_=>False
def keeps:Nat→Nat→List (Option Nat)→Bool
 | 0,_,_=>true
 | n+1,i,some j::r=>i == j&&keeps n (i+1) r
 | _,_,_=>false
def Ph(k:Nat):List (Option Nat)→List (Option En)→Bool
 | some j::r,some e::es=>(e.live&&k == j)||Ph k r es
 | _::r,_::es=>Ph k r es
 | _,_=>false
def B7:List (Option Nat)→List (Option En)→Bool
 | some j::r,some e::es=>(!e.live|| !Ph j r es)&&B7 r es
 | _::r,_::es=>B7 r es
 | _,_=>true
structure Wk(n0:Nat)(m:List (Option Nat))(g g':G):Prop where
 s:zQ g m g.sl g'.sl
 p:l7 g m m g'.st
 Wc:B7 m g'.st=true
 keep:keeps n0 0 m=true
theorem Jx:∀{m:List (Option Nat)}{i k:Nat},gN m i=some (some k)→Dr k m=true
 | [],_,_,h=>by simp[gN] at h
 | a::as,0,k,h=>by
   simp only[gN,Option.some.injEq] at h
   subst h
   simp[Dr]
 | a::as,n+1,k,h=>by
   simp only[gN] at h
   have:=Jx h
   cases a<;>simp[Dr,this]
theorem La:∀{m:List (Option Nat)}{es:List (Option En)}{i k:Nat}{e:En},gN m i=some (some k)→cX es i=some e→e.live=true→Ph k m es=true
 | [],_,_,_,_,h,_,_=>by simp[gN] at h
 | _::_,[],i,_,_,_,h,_=>by cases i<;>simp[cX] at h
 | a::as,o::os,0,k,e,h,h2,h3=>by
   simp only[gN,Option.some.injEq] at h
   simp only[cX] at h2
   subst h h2
   simp[Ph,h3]
 | a::as,o::os,i+1,k,e,h,h2,h3=>by
   simp only[gN] at h
   simp only[cX] at h2
   have:=La h h2 h3
   cases a<;>cases o<;>simp[Ph,this]
theorem JB:∀{m:List (Option Nat)}{es:List (Option En)},B7 m es=true→∀{i j k:Nat}{e e':En},gN m i=some (some k)→gN m j=some (some k)→cX es i=some e→cX es j=some e'→e.live=true→e'.live=true→i=j
 | [],_,_,_,_,_,_,_,h,_,_,_,_,_=>by simp[gN] at h
 | _::_,[],_,i,_,_,_,_,_,_,h,_,_,_=>by cases i<;>simp[cX] at h
 | a::as,o::os,hn,0,0,_,_,_,_,_,_,_,_,_=>rfl
 | a::as,o::os,hn,0,j+1,k,e,e',h1,h2,g1,g2,l1,l2=>by
   simp only[gN,Option.some.injEq] at h1 h2
   simp only[cX] at g1 g2
   subst h1 g1
   have:=La h2 g2 l2
   simp[B7,this,l1] at hn
 | a::as,o::os,hn,i+1,0,k,e,e',h1,h2,g1,g2,l1,l2=>by
   simp only[gN,Option.some.injEq] at h1 h2
   simp only[cX] at g1 g2
   subst h2 g2
   have:=La h1 g1 l1
   simp[B7,this,l2] at hn
 | a::as,o::os,hn,i+1,j+1,k,e,e',h1,h2,g1,g2,l1,l2=>by
   simp only[gN] at h1 h2
   simp only[cX] at g1 g2
   have hn':B7 as os=true:=by
    cases a<;>cases o<;>simp only[B7,ai] at hn<;>first|exact hn|exact hn.2
   rw[JB hn' h1 h2 g1 g2 l1 l2]
theorem Fa:∀{n i:Nat}{m:List (Option Nat)},keeps n i m=true→∀j,j<n→gN m j=some (some (i+j))
 | 0,_,_,_,j,h=>by omega
 | n+1,i,[],h,_,_=>by simp[keeps] at h
 | n+1,i,none::r,h,_,_=>by simp[keeps] at h
 | n+1,i,some a::r,h,j,hj=>by
   simp only[keeps,ai,beq_iff_eq] at h
   obtain⟨rfl,h2⟩:=h
   cases j with
   | zero=>rfl
   | succ j=>
     simp only[gN]
     rw[Fa h2 j (by omega)]
     congr 2;omega
theorem Es{g:G}{m:List (Option Nat)}:∀{ks:List (Option Nat)}{es:List (Option En)},l7 g m ks es→∀(i:Nat)(e':En),cX es i=some e' →
 (∃k e,gN ks i=some (some k)∧g.at k=some e∧BB g m e e')∨(gN ks i=some none∧∃t,e'= .acc t []∨e'= .fg t [])
 | [],[],_,i,e',h=>by cases i<;>simp[cX] at h
 | some k::ks,some e::es,hw,0,e',h=>by
   simp only[l7] at hw
   obtain⟨⟨e0,h1,h2⟩,_⟩:=hw
   obtain rfl:e=e':=by simpa[cX] using h
   exact .inl ⟨k,e0,rfl,h1,h2⟩
 | some k::ks,some e::es,hw,i+1,e',h=>by
   simp only[l7] at hw
   simp only[gN]
   exact Es hw.2 i e' (by simpa[cX] using h)
 | none::ks,some (.acc t xs)::es,hw,0,e',h=>by
   simp only[l7] at hw
   obtain rfl:En.acc t xs=e':=by simpa[cX] using h
   exact .inr ⟨rfl,t,.inl (by rw[hw.1])⟩
 | none::ks,some (.acc t xs)::es,hw,i+1,e',h=>by
   simp only[l7] at hw
   simp only[gN]
   exact Es hw.2 i e' (by simpa[cX] using h)
 | none::ks,some (.fg t xs)::es,hw,0,e',h=>by
   simp only[l7] at hw
   obtain rfl:En.fg t xs=e':=by simpa[cX] using h
   exact .inr ⟨rfl,t,.inr (by rw[hw.1])⟩
 | none::ks,some (.fg t xs)::es,hw,i+1,e',h=>by
   simp only[l7] at hw
   simp only[gN]
   exact Es hw.2 i e' (by simpa[cX] using h)
 | none::ks,some (.box _)::es,hw,_,_,_=>by simp[l7] at hw
 | none::ks,some .dead::es,hw,_,_,_=>by simp[l7] at hw
 | none::ks,some (.map _)::es,hw,_,_,_=>by simp[l7] at hw
 | some k::ks,none::es,hw,_,_,_=>by simp[l7] at hw
 | none::ks,none::es,hw,_,_,_=>by simp[l7] at hw
 | some k::ks,[],hw,_,_,_=>by simp[l7] at hw
 | none::ks,[],hw,_,_,_=>by simp[l7] at hw
 | [],_::_,hw,_,_,_=>by simp[l7] at hw
theorem xz{g:G}{m:List (Option Nat)}:∀{ks:List (Option Nat)}{es:List (Option En)},l7 g m ks es→∀(i:Nat)(x:Option Nat),gN ks i=some x→(cX es i).isSome=true
 | [],[],_,i,x,h=>by simp[gN] at h
 | some k::ks,some e::es,hw,0,x,h=>rfl
 | some k::ks,some e::es,hw,i+1,x,h=>by
   simp only[l7] at hw
   simp only[cX]
   exact xz hw.2 i x (by simpa[gN] using h)
 | none::ks,some (.acc t xs)::es,hw,0,x,h=>rfl
 | none::ks,some (.acc t xs)::es,hw,i+1,x,h=>by
   simp only[l7] at hw
   simp only[cX]
   exact xz hw.2 i x (by simpa[gN] using h)
 | none::ks,some (.fg t xs)::es,hw,0,x,h=>rfl
 | none::ks,some (.fg t xs)::es,hw,i+1,x,h=>by
   simp only[l7] at hw
   simp only[cX]
   exact xz hw.2 i x (by simpa[gN] using h)
 | none::ks,some (.box _)::es,hw,_,_,_=>by simp[l7] at hw
 | none::ks,some .dead::es,hw,_,_,_=>by simp[l7] at hw
 | none::ks,some (.map _)::es,hw,_,_,_=>by simp[l7] at hw
 | some k::ks,none::es,hw,_,_,_=>by simp[l7] at hw
 | none::ks,none::es,hw,_,_,_=>by simp[l7] at hw
 | some k::ks,[],hw,_,_,_=>by simp[l7] at hw
 | none::ks,[],hw,_,_,_=>by simp[l7] at hw
 | [],_::_,hw,_,_,_=>by simp[l7] at hw
def Q2(ν:Nat→Nm)(m:List (Option Nat))(i:Nat):Nm:=
 match gN m i with
 | some (some k)=>ν k
 | _=>⟨.slice none 0 0,[]⟩
theorem kZ{ν:Nat→Nm}{m:List (Option Nat)}{i k:Nat}(h:gN m i=some (some k)):Q2 ν m i=ν k:=by simp[Q2,h]
theorem nq{ν:Nat→Nm}{m:List (Option Nat)}{i:Nat}(h:gN m i=some none):Q2 ν m i=⟨.slice none 0 0,[]⟩:=by simp[Q2,h]
section
variable{w:World}{ok ok':Nat→Prop}{ν:Nat→Nm}{g:G}{m:List (Option Nat)}{st':Nat→Option En}
mutual
theorem aF.wk(hf:∀b,ok b→b<w.heap.size→ok' b∧w.heap[b]?=w.heap[b]?)(ju:∀i x,gN m i=some x→(st' i).isSome=true)
 (hacc:∀k y,PX (g.at k) y→Dr k m=false→hU w ok' y (ν k).v) :
 ∀(p q:PV)(v:Value),wk g m p q→aF w ok ν g.at p v→aF w ok' (Q2 ν m) st' q v
 | p,.any,_,_,_=>by simp[aF]
 | .bZ,.bZ,v,_,h=>by simpa[aF] using h
 | .undef,.undef,v,_,h=>by simpa[aF] using h
 | .bZ,.d y,v,hw,h=>by
   simp only[Eng.wk] at hw
   simp only[aF] at h⊢
   rw[hw,h];exact .nil
 | .bZ,.acc k',v,hw,h=>by
   simp only[Eng.wk] at hw
   simp only[aF] at h⊢
   rw[nq hw]
   exact⟨ju _ _ hw,h⟩
 | .d x,.d y,v,hw,h=>by
   simp only[Eng.wk] at hw
   simp only[aF] at h⊢
   rw[←hw]
   exact h.frame hf (aI _)
 | .acc k,.d y,v,hw,h=>by
   simp only[Eng.wk] at hw
   simp only[aF] at h⊢
   rw[h.2]
   exact hacc k y hw.1 hw.2
 | .acc k,.acc k',v,hw,h=>by
   simp only[Eng.wk] at hw
   simp only[aF] at h⊢
   rw[kZ hw]
   exact⟨ju _ _ hw,h.2⟩
 | .ptr k off,.ptr k' off',v,hw,h=>by
   simp only[Eng.wk] at hw
   obtain⟨hw,rfl⟩:=hw
   simp only[aF] at h⊢
   rw[kZ hw]
   exact⟨ju _ _ hw,h.2⟩
 | .gE k i off sz,.gE k' i' off' sz',v,hw,h=>by
   simp only[Eng.wk] at hw
   obtain⟨hw,rfl,rfl,rfl⟩:=hw
   simp only[aF] at h⊢
   rw[kZ hw]
   exact⟨ju _ _ hw,h.2⟩
 | .gm xs i off,.gm ys j off',v,hw,h=>by
   simp only[Eng.wk] at hw
   obtain⟨rfl,rfl,rfl⟩:=hw
   simp only[aF] at h⊢
   obtain⟨b,o,cap,h1,h2,h3⟩:=h
   exact⟨b,o,cap,h1.frame hf (aI _),h2,h3⟩
 | .agg cs,.agg ds,v,hw,h=>by
   simp only[Eng.wk] at hw
   simp only[aF] at h⊢
   obtain⟨vs,rfl,h⟩:=h
   exact⟨vs,rfl,aB.wk hf ju hacc cs ds vs hw h⟩
 | .jd cs,.jd ds,v,hw,h=>by
   simp only[Eng.wk] at hw
   simp only[aF] at h⊢
   obtain⟨vs,rfl,h⟩:=h
   exact⟨vs,rfl,aB.wk hf ju hacc cs ds vs hw h⟩
 | .fn f cs,.fn f' ds,v,hw,h=>by
   simp only[Eng.wk] at hw
   obtain⟨rfl,hw⟩:=hw
   simp only[aF] at h⊢
   obtain⟨vs,rfl,h⟩:=h
   exact⟨vs,rfl,aB.wk hf ju hacc cs ds vs hw h⟩
 | .any,.undef,_,hw,_ | .any,.bZ,_,hw,_ | .any,.d _,_,hw,_ | .any,.agg _,_,hw,_ | .any,.jd _,_,hw,_ | .any,.ptr _ _,_,hw,_ | .any,.acc _,_,hw,_ | .any,.gE _ _ _ _,_,hw,_ | .any,.gm _ _ _,_,hw,_ | .any,.fn _ _,_,hw,_=>by simp[Eng.wk] at hw
 | .undef,.bZ,_,hw,_ | .undef,.d _,_,hw,_ | .undef,.agg _,_,hw,_ | .undef,.jd _,_,hw,_ | .undef,.ptr _ _,_,hw,_ | .undef,.acc _,_,hw,_ | .undef,.gE _ _ _ _,_,hw,_ | .undef,.gm _ _ _,_,hw,_ | .undef,.fn _ _,_,hw,_=>by simp[Eng.wk] at hw
 | .bZ,.undef,_,hw,_ | .bZ,.agg _,_,hw,_ | .bZ,.jd _,_,hw,_ | .bZ,.ptr _ _,_,hw,_ | .bZ,.gE _ _ _ _,_,hw,_ | .bZ,.gm _ _ _,_,hw,_ | .bZ,.fn _ _,_,hw,_=>by simp[Eng.wk] at hw
 | .d _,.undef,_,hw,_ | .d _,.bZ,_,hw,_ | .d _,.agg _,_,hw,_ | .d _,.jd _,_,hw,_ | .d _,.ptr _ _,_,hw,_ | .d _,.acc _,_,hw,_ | .d _,.gE _ _ _ _,_,hw,_ | .d _,.gm _ _ _,_,hw,_ | .d _,.fn _ _,_,hw,_=>by simp[Eng.wk] at hw
 | .agg _,.undef,_,hw,_ | .agg _,.bZ,_,hw,_ | .agg _,.d _,_,hw,_ | .agg _,.jd _,_,hw,_ | .agg _,.ptr _ _,_,hw,_ | .agg _,.acc _,_,hw,_ | .agg _,.gE _ _ _ _,_,hw,_ | .agg _,.gm _ _ _,_,hw,_ | .agg _,.fn _ _,_,hw,_=>by simp[Eng.wk] at hw
 | .jd _,.undef,_,hw,_ | .jd _,.bZ,_,hw,_ | .jd _,.agg _,_,hw,_ | .jd _,.d _,_,hw,_ | .jd _,.ptr _ _,_,hw,_ | .jd _,.acc _,_,hw,_ | .jd _,.gE _ _ _ _,_,hw,_ | .jd _,.gm _ _ _,_,hw,_ | .jd _,.fn _ _,_,hw,_=>by simp[Eng.wk] at hw
 | .ptr _ _,.undef,_,hw,_ | .ptr _ _,.bZ,_,hw,_ | .ptr _ _,.agg _,_,hw,_ | .ptr _ _,.d _,_,hw,_ | .ptr _ _,.jd _,_,hw,_ | .ptr _ _,.acc _,_,hw,_ | .ptr _ _,.gE _ _ _ _,_,hw,_ | .ptr _ _,.gm _ _ _,_,hw,_ | .ptr _ _,.fn _ _,_,hw,_=>by simp[Eng.wk] at hw
 | .acc _,.undef,_,hw,_ | .acc _,.bZ,_,hw,_ | .acc _,.agg _,_,hw,_ | .acc _,.jd _,_,hw,_ | .acc _,.ptr _ _,_,hw,_ | .acc _,.gE _ _ _ _,_,hw,_ | .acc _,.gm _ _ _,_,hw,_ | .acc _,.fn _ _,_,hw,_=>by simp[Eng.wk] at hw
 | .gE _ _ _ _,.undef,_,hw,_ | .gE _ _ _ _,.bZ,_,hw,_ | .gE _ _ _ _,.agg _,_,hw,_ | .gE _ _ _ _,.d _,_,hw,_ | .gE _ _ _ _,.jd _,_,hw,_ | .gE _ _ _ _,.ptr _ _,_,hw,_ | .gE _ _ _ _,.acc _,_,hw,_ | .gE _ _ _ _,.gm _ _ _,_,hw,_ | .gE _ _ _ _,.fn _ _,_,hw,_=>by simp[Eng.wk] at hw
 | .gm _ _ _,.undef,_,hw,_ | .gm _ _ _,.bZ,_,hw,_ | .gm _ _ _,.agg _,_,hw,_ | .gm _ _ _,.d _,_,hw,_ | .gm _ _ _,.jd _,_,hw,_ | .gm _ _ _,.ptr _ _,_,hw,_ | .gm _ _ _,.acc _,_,hw,_ | .gm _ _ _,.gE _ _ _ _,_,hw,_ | .gm _ _ _,.fn _ _,_,hw,_=>by simp[Eng.wk] at hw
 | .fn _ _,.undef,_,hw,_ | .fn _ _,.bZ,_,hw,_ | .fn _ _,.agg _,_,hw,_ | .fn _ _,.d _,_,hw,_ | .fn _ _,.jd _,_,hw,_ | .fn _ _,.ptr _ _,_,hw,_ | .fn _ _,.acc _,_,hw,_ | .fn _ _,.gE _ _ _ _,_,hw,_ | .fn _ _,.gm _ _ _,_,hw,_=>by simp[Eng.wk] at hw
theorem aB.wk(hf:∀b,ok b→b<w.heap.size→ok' b∧w.heap[b]?=w.heap[b]?)(ju:∀i x,gN m i=some x→(st' i).isSome=true)
 (hacc:∀k y,PX (g.at k) y→Dr k m=false→hU w ok' y (ν k).v) :
 ∀(ps qs:List PV)(vs:List Value),zQ g m ps qs→aB w ok ν g.at ps vs→aB w ok' (Q2 ν m) st' qs vs
 | [],[],vs,_,h=>by cases vs<;>simp[aB] at h⊢
 | p::ps,q::qs,[],_,h=>by simp[aB] at h
 | p::ps,q::qs,v::vs,hw,h=>by
   simp only[zQ] at hw
   simp only[aB] at h⊢
   exact⟨aF.wk hf ju hacc p q v hw.1 h.1,aB.wk hf ju hacc ps qs vs hw.2 h.2⟩
 | [],_::_,_,hw,_=>by simp[zQ] at hw
 | _::_,[],_,hw,_=>by simp[zQ] at hw
end
end
theorem Re:∀{g:G}{m:List (Option Nat)}{ps qs:List PV},zQ g m ps qs→ps.length=qs.length
 | _,_,[],[],_=>rfl
 | _,_,p::ps,q::qs,h=>by simp only[zQ] at h;simp[Re h.2]
 | _,_,[],_::_,h=>by simp[zQ] at h
 | _,_,_::_,[],h=>by simp[zQ] at h
theorem Qv{w:World}{ok:Nat→Prop}{ν ν':Nat→Nm}{g:G}{m:List (Option Nat)}{st':Nat→Option En}{ok':Nat→Prop}(hv:∀(p q:PV)(v:Value),wk g m p q→aF w ok ν g.at p v→aF w ok' ν' st' q v) :
 ∀{ps qs:List PV},zQ g m ps qs→∀(t:Nat)(v:Value),aF w ok ν g.at (nth ps t) v→aF w ok' ν' st' (nth qs t) v
 | [],[],_,t,v,_=>by simp[nth,aF]
 | p::ps,q::qs,h,0,v,hr=>by simp only[zQ] at h;simp only[nth] at hr⊢;exact hv p q v h.1 hr
 | p::ps,q::qs,h,t+1,v,hr=>by simp only[zQ] at h;simp only[nth] at hr⊢;exact Qv hv h.2 t v hr
 | [],_::_,h,_,_,_=>by simp[zQ] at h
 | _::_,[],h,_,_,_=>by simp[zQ] at h
theorem Lk{P:Program}{n0:Nat}{m:List (Option Nat)}{g g':G}(h:Wk n0 m g g'):qj P n0 g g':=by
 intro X ν a w hp hs
 refine⟨Q2 ν m,?_⟩
 have ju:∀i x,gN m i=some x→(g'.at i).isSome=true:=fun i x hx=>xz h.p i x hx
 have k9:=fun i e' he=>Es h.p i e' he
 have sk:∀e e',BB g m e e'→e'.live=true→e.live=true:=by
  intro e e' hw hl
  cases e' with
  | dead=>cases hl
  | box ds=>cases e<;>first|rfl|(simp[BB] at hw)
  | acc t ys=>cases e<;>first|rfl|(simp[BB] at hw)
  | fg t ys=>cases e<;>first|rfl|(simp[BB] at hw)
  | map sn=>cases e<;>first|rfl|(simp[BB] at hw)
 have howned:∀b,Own (Q2 ν m) g'.at b→∃i k e,gN m i=some (some k)∧g.at k=some e∧e.live=true∧(ν k).has b:=by
  rintro b ⟨i,e',h1,h2,h3⟩
  rcases k9 i e' h1 with⟨k,e,k1,k2,k3⟩|⟨k1,t,rfl|rfl⟩
  ·rw[kZ k1] at h3
   exact⟨i,k,e,k1,k2,sk e e' k3 h2,h3⟩
  all_goals
   rw[nq k1] at h3
   simp[Nm.has,vN] at h3
 have mq:∀b,Own (Q2 ν m) g'.at b→Own ν g.at b:=fun b hb=>by
  obtain⟨i,k,e,k1,k2,k3,k4⟩:=howned b hb
  exact⟨k,e,k2,k3,k4⟩
 have hf:∀b,ct X ν g.at b→b<w.heap.size→ct X (Q2 ν m) g'.at b∧w.heap[b]?=w.heap[b]?:=fun b hb _=>⟨⟨fun ho=>hb.1 (mq b ho),hb.2⟩,rfl⟩
 have hfr:∀k e,g.at k=some e→e.live=true→Dr k m=false→∀b,(ν k).has b→ct X (Q2 ν m) g'.at b:=by
  intro k e hk hl hm b hb
  have il:Own ν g.at b:=⟨k,_,hk,hl,hb⟩
  refine⟨fun ho=>?_,hs.KM il⟩
  obtain⟨i,k',e',k1,k2,k3,k4⟩:=howned b ho
  have:=hs.inj k k' _ _ b hk k2 hl k3 hb k4
  subst this
  rw[Jx k1] at hm
  cases hm
 have hacc:∀k y,PX (g.at k) y→Dr k m=false→hU w (ct X (Q2 ν m) g'.at) y (ν k).v:=by
  intro k y hk hm
  cases hgk:g.at k with
  | none=>rw[hgk] at hk;exact hk.elim
  | some e=>
    rw[hgk] at hk
    cases e with
    | box cs=>exact hk.elim
    | dead=>exact hk.elim
    | map sn=>exact hk.elim
    | acc e xs=>
      simp only[PX] at hk
      rw[hk]
      obtain⟨us,h1,h2,h3,h4⟩:=hs.en k _ hgk
      exact wu h1 h2 h3 (fun b hb=>hfr k _ hgk rfl hm b (.inl hb)) hf
    | fg e xs=>
      simp only[PX] at hk
      obtain⟨ys,h1,rfl⟩:=hk
      have hen:=hs.en k _ hgk
      exact kC.data hf (.own e xs) _ _ _ (by simp only[T.FD,h1]) hen.1 fun b hb=>hfr k _ hgk rfl hm b (oA.2 hb)
 have oh:=fun p q v=>aF.wk (w:=w) (ok:=ct X ν g.at) (ok':=ct X (Q2 ν m) g'.at) (ν:=ν) (g:=g) (m:=m) (st':=g'.at) hf ju hacc p q v
 have hreps:=fun ps qs vs=>aB.wk (w:=w) (ok:=ct X ν g.at) (ok':=ct X (Q2 ν m) g'.at) (ν:=ν) (g:=g) (m:=m) (st':=g'.at) hf ju hacc ps qs vs
 refine⟨by rw[hs.size,Re h.s],fun t=>?_,fun i e' he=>?_,fun i j e e' b h1 h2 h3 h4 h5 h6=>?_,fun b hb=>hs.base b (mq b hb),fun i hi=>?_,fun i hi=>?_,hs.D5,hs.zk,hs.defs⟩
 ·exact Qv oh h.s t _ (hs.sl t)
 ·rcases k9 i e' he with⟨k,e,k1,k2,k3⟩|⟨k1,t,rfl|rfl⟩
  ·have hen:=hs.en k e k2
   cases e' with
   | dead=>trivial
   | box ds=>
     cases e with
     | box cs=>
       obtain⟨b,vs,T,q1,q2,q3,q4⟩:=hen
       simp only[BB] at k3
       simp only[kX,kZ k1]
       exact⟨b,vs,T,q1,q2,hreps cs ds vs k3 q3,q4⟩
     | acc t xs=>simp[BB] at k3
     | fg t xs=>simp[BB] at k3
     | dead=>simp[BB] at k3
     | map sn=>simp[BB] at k3
   | acc t ys=>
     cases e with
     | acc t' xs=>
       simp only[BB] at k3
       obtain⟨rfl,rfl⟩:=k3
       obtain⟨us,q1,q2,q3⟩:=hen
       simp only[kX,kZ k1]
       exact⟨us,q1,q2.frame hf (aI _),q3⟩
     | box cs=>simp[BB] at k3
     | dead=>simp[BB] at k3
     | map sn=>simp[BB] at k3
     | fg t xs=>simp[BB] at k3
   | fg t ys=>
     cases e with
     | acc t' xs=>
       simp only[BB] at k3
       obtain⟨rfl,rfl⟩:=k3
       obtain⟨us,q1,q2,q3,q4⟩:=hen
       simp only[kX,kC,kZ k1,q4,rB,bF]
       refine⟨⟨us,[],q1,q2.hu,bw.Ak (q2.frame hf (aI _)),q3,by simp⟩,?_⟩
       unfold hb
       split<;>simp
     | fg t' xs=>
       simp only[BB] at k3
       obtain⟨rfl,rfl,k4⟩:=k3
       simp only[kX,kZ k1]
       refine⟨kC.still (.own t' xs) _ _ ?_ (kC.frame hf (aI _) (lx.refl _ _) _ _ _ hen.1 fun _ _=>rfl),hen.2⟩
       simp only[T.FD]
       obtain⟨zs,hz⟩:=cH.1 k4
       rw[hz];rfl
     | box cs=>simp[BB] at k3
     | dead=>simp[BB] at k3
     | map sn=>simp[BB] at k3
   | map kvs'=>
     cases e with
     | map sn=>
       simp only[BB] at k3
       subst k3
       simp only[kX,kZ k1] at hen⊢
       exact hen
     | box cs=>simp[BB] at k3
     | acc t xs=>simp[BB] at k3
     | fg t xs=>simp[BB] at k3
     | dead=>simp[BB] at k3
  ·simp only[kX,nq k1]
   exact⟨[],⟨by simp,.inl ⟨rfl,rfl⟩⟩,cg.nil _ _ _,by simp,trivial⟩
  ·simp only[kX,nq k1,kC]
   exact⟨⟨[],[],⟨by simp,.inl ⟨rfl,rfl⟩⟩,by simp,by simp[bw],by simp,rfl⟩,by simp[hb,vN]⟩
 ·rcases k9 i e h1 with⟨k,e1,k1,k2,k3⟩|⟨k1,t,rfl|rfl⟩
  ·rcases k9 j e' h2 with⟨l,e2,l1,l2,l3⟩|⟨l1,t,rfl|rfl⟩
   ·rw[kZ k1] at h5
    rw[kZ l1] at h6
    have:=hs.inj k l e1 e2 b k2 l2 (sk _ _ k3 h3) (sk _ _ l3 h4) h5 h6
    subst this
    exact JB h.Wc k1 l1 h1 h2 h3 h4
   ·rw[nq l1] at h6;simp[Nm.has,vN] at h6
   ·rw[nq l1] at h6;simp[Nm.has,vN] at h6
  ·rw[nq k1] at h5;simp[Nm.has,vN] at h5
  ·rw[nq k1] at h5;simp[Nm.has,vN] at h5
 ·obtain⟨e',he⟩:=cH.1 hi
  rcases k9 i e' he with⟨k,e,k1,k2,k3⟩|⟨k1,t,rfl|rfl⟩
  ·rw[kZ k1];exact hs.nu k (by rw[k2];rfl)
  ·rw[nq k1];rfl
  ·rw[nq k1];rfl
 ·have mr:=hp i hi
  have hl:=Fa h.keep i mr
  rw[c9] at hl
  exact⟨by rw[kZ hl];exact(hs.par i hi).1,ju i _ hl⟩
end Go.Eng
namespace Go.Eng
open Go.RowKit
theorem Sat.S9{P:Program}{X:Cx}{ν:Nat→Nm}{g:G}{a:Act}{w w':World}(h:Sat P X ν g a w)(rn:rZ (fun _=>False) w w')(d:Nat)(p:PV)(v:Value)
 (hv:(∀b,w.heap.size≤b→ct X ν g.at b)→(∀b,ct X ν g.at b→b<w.heap.size→ct X ν g.at b∧w'.heap[b]?=w.heap[b]?)→aF w' (ct X ν g.at) ν g.at p v) :
 Sat P X ν ⟨lK g.sl d p,g.st⟩ (a.put (some d) v) w':=by
 have hfree:∀b,w.heap.size≤b→ct X ν g.at b:=fun b hb=>⟨fun ho=>by have:=h.lt ho;omega,fun hz=>by have:=(h.D5 b hz).1;have:=h.zk.size;omega⟩
 have hsame:∀b,ct X ν g.at b→b<w.heap.size→ct X ν g.at b∧w'.heap[b]?=w.heap[b]?:=fun b hb mr=>⟨hb,rn.block b mr (fun hf=>hf)⟩
 refine h.Wd (g':=⟨lK g.sl d p,g.st⟩) (fun _=>False) rn (fun _ hb=>hb.elim) (lx.refl _ _) (fun k e he=>.inl ⟨he,rfl,fun _ _ _ hb=>hb⟩) (fun k e b he hl hb=>.inl ⟨k,e,he,hl,hb⟩) ?_ (fun k hk=>.inl hk) ?_ ?_ rfl
 ·intro k k' e e' b h1 h2 h3 h4 h5 h6
  exact h.inj k k' e e' b h1 h2 h3 h4 h5 h6
 ·simp[size_put,jt,h.size]
 ·intro t
  simp only[r9,nr,h.size]
  by_cases hc:t=d∧d<g.sl.length
  ·simp only[hc,and_self,if_true]
   exact .inr (hv hfree hsame)
  ·simp only[hc,if_false]
   exact .inl ⟨trivial,trivial⟩
theorem IH(off:Nat):∀(l:List Value)(n:Nat)(cells:Array Value)(k:Nat),off+n+l.length≤cells.size →
 ((l.zipIdx n).foldl (fun cs (x:Value×Nat)=>cs.setIfInBounds (off+x.2) x.1) cells)[k]?=if off+n≤k∧k<off+n+l.length then l[k-(off+n)]? else cells[k]?
 | [],n,cells,k,_=>by
   have:¬ (off+n≤k∧k<off+n+0):=by omega
   simp
   intro h1 h2;omega
 | c::l,n,cells,k,hl=>by
   simp only[List.zipIdx_cons,List.foldl_cons]
   simp only[a8] at hl
   rw[IH off l (n+1) _ k (by simp;omega)]
   by_cases h1:off+(n+1)≤k∧k<off+(n+1)+l.length
   ·rw[if_pos h1,if_pos (by simp only[a8];omega)]
    have:k-(off+n)=(k-(off+(n+1)))+1:=by omega
    rw[this];simp
   ·rw[if_neg h1]
    by_cases h2:k=off+n
    ·subst h2
     have mr:off+n<cells.size:=by omega
     rw[if_pos (by simp only[a8];omega)]
     simp[mr]
    ·rw[if_neg (by simp only[a8];omega)]
     simp[Array.getElem?_setIfInBounds,show ¬off+n=k from fun e=>h2 e.symm]
theorem LL(off:Nat)(l:List Value)(cells:Array Value)(hl:off+l.length≤cells.size) :
 (l.zipIdx.foldl (fun cs (x:Value×Nat)=>cs.setIfInBounds (off+x.2) x.1) cells).toList=cells.toList.take off++(l++cells.toList.drop (off+l.length)):=by
 apply List.ext_getElem?
 intro k
 have h:=IH off l 0 cells k (by omega)
 simp only[Nat.add_zero] at h
 rw[Array.getElem?_toList,h]
 by_cases h1:k<off
 ·rw[if_neg (by omega),bj (by simp;omega),cV,if_pos h1]
  simp
 ·rw[bu (by simp;omega)]
  have e:(m0 off cells.toList).length=off:=by simp;omega
  rw[e]
  by_cases h2:k<off+l.length
  ·rw[if_pos (by omega),bj (by omega)]
  ·rw[if_neg (by omega),bu (by omega),dv]
   have:off+l.length+(k-off-l.length)=k:=by omega
   rw[this];simp
def Gv(places:List (Nat×Nat))(cs:List PV):List (Nat×PV)→Option (List PV)
 | []=>some cs
 | (i,p)::rest=>
   match places[i]? with
   | none=>none
   | some (off,sz)=>if p.whole=true∧(eh p).length=sz∧off+sz≤cs.length then Gv places (zr cs off (eh p)) rest else none
theorem Nr{w:World}{ok:Nat→Prop}{ν:Nat→Nm}{st:Nat→Option En}(hν:∀k,(st k).isSome=true→(ν k).v.oneCell'=true)(places:List (Nat×Nat))(ev:Operand→PV)(ρ:Operand→Value)(hev:∀x,aF w ok ν st (ev x) (ρ x)) :
 ∀(ps:List (Nat×Operand))(cs:List PV)(cells:Array Value)(r:List PV),aB w ok ν st cs cells.toList→Gv places cs (ps.map fun x=>(x.1,ev x.2))=some r →
 ∃cells',Instr.fill (places.toArray[·]?) cells (ps.map fun x=>(x.1,ρ x.2))=some cells'∧aB w ok ν st r cells'.toList
 | [],cs,cells,r,h,hr=>by
   simp only[dt,Gv,Option.some.injEq] at hr
   subst hr
   exact⟨cells,rfl,h⟩
 | (i,x)::ps,cs,cells,r,h,hr=>by
   simp only[aQ,Gv] at hr
   split at hr
   ·cases hr
   ·rename_i off sz hpl
    split at hr
    ·rename_i hc
     obtain⟨h1,h2,h3⟩:=hc
     have hx:=(hev x).cells h1 hν
     have hxl:=hx.length
     have hcl:=h.length
     have hxs:(ρ x).cells.size=sz:=by rw[←h2,←hxl];simp
     have hcs:cells.size=cs.length:=by rw[←hcl];simp
     have hone:=LL off (ρ x).cells.toList cells (by rw[hxl,hcs,h2];exact h3)
     have oh:aB w ok ν st (zr cs off (eh (ev x))) ((ρ x).cells.toList.zipIdx.foldl (fun cs (x:Value×Nat)=>cs.setIfInBounds (off+x.2) x.1) cells).toList:=by
      rw[hone,hxl]
      exact(h.take off).append (hx.append (h.drop _))
     obtain⟨cells',k1,k2⟩:=Nr hν places ev ρ hev ps _ _ r oh hr
     refine⟨cells',?_,k2⟩
     simp only[aQ,Instr.fill]
     have hpl':(places.toArray[i]?:Option (Nat×Nat))=some (off,sz):=by simpa using hpl
     rw[hpl']
     simp only
     rw[if_neg (by simp only[hxs,hcs,ne_eq,not_true_eq_false,decide_false,lZ,decide_eq_true_eq];omega)]
     rw[←k1]
     congr 1
     rw[←Array.foldl_toList,Array.toList_zipIdx]
    ·cases hr
section
variable{E:Env}{g:G}{d:Nat}{ty:TypeId}{pos:String}{eG:Array Edge}{gd:Option (Nat×Bool)}{dn:Option Nat}
theorem TM(t:TypeId)(ps:List (Nat×Operand))(ti:TI)(fs:List (Nat×Nat×Nat))(r:List PV)(ht:E.ti t=some ti)(kD:ti.ty= .struct fs)
 (hr:Gv (fs.map fun x=>(x.2.1,x.2.2)) ti.zero (ps.map fun x=>(x.1,g.ev x.2))=some r) :
 kG E.P ⟨some d,.build t ⟨ps⟩,ty,pos,eG,gd⟩ g ⟨ps.flatMap fun x=>da x.2,[]⟩ ⟨some (d,.agg r),[]⟩:=by
 intro g2 hg
 have hmap:ps.map (fun x=>(x.1,g2.ev x.2))=ps.map (fun x=>(x.1,g.ev x.2)):=by
  have:∀(ps:List (Nat×Operand)),(∀t∈ps.flatMap (fun x=>da x.2),t∈ps.flatMap (fun x=>da x.2))→True:=fun _ _=>trivial
  apply jl
  intro x hx
  rw[hg.ev (x:=x.2) (fun t h=>fF.2 ⟨x,hx,h⟩)]
 refine CS.val rfl fun X ν a w hs=>?_
 obtain⟨i,z,h1,h2,h4,h5,h6,h7⟩:=(E.ok t ti ht).info
 have hu:=(E.ok t ti ht).ty
 rw[kD] at hu
 obtain⟨fields,hu,hpl,_⟩:=hu
 rw[←hmap] at hr
 obtain⟨cells',k1,k2⟩:=Nr hs.nu (fs.map fun x=>(x.2.1,x.2.2)) g2.ev a.eval hs.ev ps ti.zero z.cells r (by rw[←h6];exact uv _ _ _ _ _) hr
 refine⟨.agg cells',?_,by simp only[aF];exact⟨cells'.toList,rfl,k2⟩⟩
 have hb:E.P.built t (ps.map fun x=>(x.1,a.eval x.2))=some cells':=by
  simp only[Program.built,h1,hu,h5,hpl,k1]
 have:=run_build (P:=E.P) w t ⟨ps.map fun x=>(x.1,a.eval x.2)⟩ cells' hb
 simp only[execOp,iq,Sem.run_bind,this,Result.andThen_ok]
 rfl
def rowsOf:List PV→Option (List (List D))
 | []=>some []
 | p::ps=>if p.whole=true then match zd (eh p),rowsOf ps with|some x,some xs=>some (x::xs)|_,_=>none else none
def HM:Nat→List Nat→Bool
 | _,[]=>true
 | i,j::js=>i == j&&HM (i+1) js
def tJ(n:Nat):List (List D)→Bool
 | []=>true
 | x::xs=>x.length == n&&tJ n xs
theorem B4{w:World}{ok:Nat→Prop}{ν:Nat→Nm}{st:Nat→Option En}(hν:∀k,(st k).isSome=true→(ν k).v.oneCell'=true)(sz:Nat)(ev:Operand→PV)(ρ:Operand→Value)(hev:∀x,aF w ok ν st (ev x) (ρ x)) :
 ∀(ps:List (Nat×Operand))(i:Nat)(pre:List Value)(cells:Array Value)(rows:List (List D)),HM i (ps.map (·.1))=true→rowsOf (ps.map fun x=>ev x.2)=some rows→tJ sz rows=true→pre.length=i*sz→cells.toList.take (i*sz)=pre→cells.size=(i+ps.length)*sz →
 ∃us:List (List Value),Instr.fill (fun i=>some (i*sz,sz)) cells (ps.map fun x=>(x.1,ρ x.2))=some ⟨pre++us.flatten⟩∧cg w ok sz rows us
 | [],i,pre,cells,rows,_,hr,_,hpl,hpre,hsz=>by
   simp only[dt,rowsOf,Option.some.injEq] at hr
   subst hr
   refine⟨[],?_,cg.nil _ _ _⟩
   simp only[dt,Instr.fill,List.flatten_nil,bF]
   congr 1
   rw[←hpre,ao (by rw[fh,hsz];exact aI _)]
 | (j,x)::ps,i,pre,cells,rows,hup,hr,dy,hpl,hpre,hsz=>by
   simp only[aQ,HM,ai,beq_iff_eq] at hup
   obtain⟨rfl,hup⟩:=hup
   simp only[aQ,rowsOf] at hr
   split at hr
   ·rename_i hwh
    split at hr
    ·rename_i row rows' qD hrows
     obtain rfl:=Option.some.inj hr
     simp only[tJ,ai,beq_iff_eq] at dy
     have hx:=(hev x).cells hwh hν
     have hxl:=hx.length
     have hd:=wD hx qD
     obtain⟨Vn,hd2⟩:=AE hd
     have hxs:(ρ x).cells.toList.length=sz:=by rw[Vn];exact dy.1
     simp only[a8] at hsz
     have hmul:(i+(ps.length+1))*sz=i*sz+(sz+ps.length*sz):=by rw[cQ,cQ];omega
     have hone:=LL (i*sz) (ρ x).cells.toList cells (by rw[hxs,hsz,hmul];omega)
     have hsz2:(((ρ x).cells.toList.zipIdx.foldl (fun cs (x:Value×Nat)=>cs.setIfInBounds (i*sz+x.2) x.1) cells)).size=(i+1+ps.length)*sz:=by
      rw[←fh,hone]
      simp only[aX,List.length_take,eH,fh,hsz,hxs]
      rw[hmul,show i+1+ps.length=i+(ps.length+1) by omega,hmul]
      omega
     obtain⟨us,k1,k2⟩:=B4 hν sz ev ρ hev ps (i+1) (pre++(ρ x).cells.toList) _ rows' hup hrows dy.2 (by rw[aX,hpl,hxs,cQ];omega)
      (by
       rw[hone,hpre,←bm,bW (by rw[aX,hpl,hxs,cQ];omega)]
       rw[ao (by rw[aX,hpl,hxs,cQ];omega)]) hsz2
     refine⟨(ρ x).cells.toList::us,?_,k2.cons dy.1 hxs hd2⟩
     have hxs':(ρ x).cells.size=sz:=by simpa using hxs
     simp only[aQ,Instr.fill]
     rw[if_neg (by simp only[hxs',hsz,hmul,ne_eq,not_true_eq_false,decide_false,lZ,decide_eq_true_eq];omega)]
     rw[dV,←bm,←k1]
     congr 1
     rw[←Array.foldl_toList,Array.toList_zipIdx]
    ·cases hr
   ·cases hr
theorem Rc{t e:Nat}{ti ei:TI}(ht:E.ti t=some ti)(kD:ti.ty= .slice e)(he:E.ti e=some ei){X:Cx}{ν:Nat→Nm}{g2:G}{a:Act}{w:World}(hs:Sat E.P X ν g2 a w)(ps:List (Nat×Operand))(rows:List (List D))
 (hup:HM 0 (ps.map (·.1))=true) (hr:rowsOf (ps.map fun x=>g2.ev x.2)=some rows) (dy:tJ ei.n rows=true) (hbig:ps.length*ei.n≤16777216) {o:Oper} (ho:o.op= .buildSlice t ps.length ⟨ps⟩) :
 ∃us:List (List Value),(execOp a.eval o).run E.P w= .ok (.value (.slice (some ⟨w.heap.size,0,none⟩) ps.length ps.length)) (w.alloc (.cells ⟨us.flatten⟩ e))∧cg w (ct X ν g2.at) ei.n rows us:=by
 obtain⟨i,z,h1,h2,h4,h5,h6,h7⟩:=(E.ok e ei he).info
 have hu:=(E.ok t ti ht).ty
 rw[kD] at hu
 have hpos:=(E.ok e ei he).pos
 have hrowsl:∀(qs:List PV)(rows:List (List D)),rowsOf qs=some rows→rows.length=qs.length:=by
  intro qs
  induction qs with
  | nil=>intro rows h;simp[rowsOf] at h;simp[←h]
  | cons q qs ih=>
    intro rows h
    simp only[rowsOf] at h
    split at h
    ·split at h
     ·rename_i h1 h2
      obtain rfl:=Option.some.inj h
      simp[ih _ h2]
     ·cases h
    ·cases h
 have hrl:=hrowsl _ _ hr
 simp only[dw] at hrl
 have key:∀init:Array Value,init.size=ps.length*ei.n→∃us:List (List Value),Instr.fill (fun i=>some (i*ei.n,ei.n)) init (ps.map fun x=>(x.1,a.eval x.2))=some ⟨us.flatten⟩∧cg w (ct X ν g2.at) ei.n rows us:=by
  intro init hi
  obtain⟨us,k1,k2⟩:=B4 hs.nu ei.n g2.ev a.eval hs.ev ps 0 [] init rows hup hr dy (by simp) (by simp) (by simpa using hi)
  exact⟨us,by simpa using k1,k2⟩
 by_cases hz:ps.length*ei.n=0
 ·obtain⟨us,k1,k2⟩:=key ((Array.range 0).map fun _=>default) (by rw[Array.size_map,Array.size_range,hz])
  refine⟨us,?_,k2⟩
  simp only[execOp,ho,iq,Instr.buildSlice,Sem.run_bind,run_underlying hu,Result.andThen_ok,(E.ok e ei he).size w,hz]
  simp[k1,newRow]
 ·obtain⟨us,k1,k2⟩:=key ((Array.range (ps.length*ei.n)).map (z.cells[· % z.cells.size]!)) (by simp)
  refine⟨us,?_,k2⟩
  have hn:¬ps.length*ei.n>16777216:=by omega
  simp only[execOp,ho,iq,Instr.buildSlice,Sem.run_bind,run_underlying hu,Result.andThen_ok,(E.ok e ei he).size w]
  simp[hn,hz,zeroValue,typeInfo,h1,h5,k1,newRow]
theorem zF:∀{qs:List PV}{rows:List (List D)},rowsOf qs=some rows→rows.length=qs.length
 | [],rows,h=>by simp[rowsOf] at h;simp[←h]
 | q::qs,rows,h=>by
   simp only[rowsOf] at h
   split at h
   ·split at h
    ·rename_i h1 h2
     obtain rfl:=Option.some.inj h
     simp[zF h2]
    ·cases h
   ·cases h
theorem LR(w:World)(us:List Value)(e:TypeId):jN (w.alloc (.cells ⟨us⟩ e)) w.heap.size 0 us:=by
 intro j u hu
 simp only[World.cell?,r6,c9]
 simpa using hu
theorem UE(t e n:Nat)(ps:List (Nat×Operand))(ti ei:TI)(rows:List (List D))(ht:E.ti t=some ti)(kD:ti.ty= .slice e)(he:E.ti e=some ei)(hn:n=ps.length)(hup:HM 0 (ps.map (·.1))=true)
 (hr:rowsOf (ps.map fun x=>g.ev x.2)=some rows) (dy:tJ ei.n rows=true) (hbig:ps.length*ei.n≤16777216) :
 kG E.P ⟨some d,.buildSlice t n ⟨ps⟩,ty,pos,eG,gd⟩ g ⟨ps.flatMap fun x=>da x.2,[]⟩ ⟨some (d,.d (.dP rows)),[]⟩:=by
 subst hn
 intro g2 hg
 have hmap:ps.map (fun x=>g2.ev x.2)=ps.map (fun x=>g.ev x.2):=by
  apply jl
  intro x hx
  rw[hg.ev (x:=x.2) (fun t h=>fF.2 ⟨x,hx,h⟩)]
 rw[←hmap] at hr
 intro X ν a w next Q hs hnx
 obtain⟨us,lD,jf⟩:=Rc ht kD he hs ps rows hup hr dy hbig (o:=⟨some d,.buildSlice t ps.length ⟨ps⟩,ty,pos,eG,gd⟩) rfl
 have hpos:=(E.ok e ei he).pos
 have hrl:=zF hr
 simp only[dw] at hrl
 have hle:ps.length≤16777216:=eu (od _ hpos) hbig
 unfold Oper.wp
 rw[lD,Oper.upon_value]
 refine hnx ν _ _ (hs.S9 (w':=w.alloc (.cells ⟨us.flatten⟩ e)) (jy w _) d _ _ fun hfree hsame=>?_)
 simp only[aF]
 have hrr':=jf.frame hsame (jy w _).size
 rw[←hrl]
 exact .dP rows us w.heap.size 0 rows.length ei.n (hfree _ (aI _)) (pY (r6 w _)) (aI _) (by simp only[maxLen];omega) (by unfold LB;omega) hrr'.len hrr'.hx hrr'.hu (LR w _ e) hrr'.hr
theorem pg(t e n k:Nat)(ps:List (Nat×Operand))(ti ei:TI)(rows:List (List D))(ht:E.ti t=some ti)(kD:ti.ty= .slice e)(he:E.ti e=some ei)(hn:n=ps.length)(hup:HM 0 (ps.map (·.1))=true)
 (hr:rowsOf (ps.map fun x=>g.ev x.2)=some rows) (dy:tJ ei.n rows=true) (hbig:ps.length*ei.n≤16777216) (hk:g.at k=none) :
 kG E.P ⟨some d,.buildSlice t n ⟨ps⟩,ty,pos,eG,gd⟩ g ⟨ps.flatMap fun x=>da x.2,[k]⟩ ⟨some (d,.acc k),[(k,.acc e rows)]⟩:=by
 subst hn
 intro g2 hg
 have hmap:ps.map (fun x=>g2.ev x.2)=ps.map (fun x=>g.ev x.2):=by
  apply jl
  intro x hx
  rw[hg.ev (x:=x.2) (fun t h=>fF.2 ⟨x,hx,h⟩)]
 have h3:=(hg.p k (by simp)).trans hk
 rw[←hmap] at hr
 intro X ν a w next Q hs hnx
 obtain⟨us,lD,jf⟩:=Rc ht kD he hs ps rows hup hr dy hbig (o:=⟨some d,.buildSlice t ps.length ⟨ps⟩,ty,pos,eG,gd⟩) rfl
 have hpos:=(E.ok e ei he).pos
 have hrl:=zF hr
 simp only[dw] at hrl
 have hle:ps.length≤16777216:=eu (od _ hpos) hbig
 unfold Oper.wp
 rw[lD,Oper.upon_value]
 have hfl:=jf.kT
 have qD:=World.ownsRow_lit w (e:=e) (⟨us.flatten⟩:Array Value) rows.length (base:=0) (size:=ei.n) (bh _) (by simp only[maxLen];omega) (by simpa using hfl)
 refine hnx _ _ _ (hs.wy (jy w _) k h3 (.acc e rows) ⟨.slice (some ⟨w.heap.size,0,none⟩) ps.length ps.length,[]⟩ rfl (fun b hb=>?_) d _ _ ?_ ?_)
 ·obtain rfl:w.heap.size=b:=by simpa[Nm.has,vN] using hb
  exact aI _
 ·intro ok st ν' hν hw hm
  refine⟨us,?_,?_,by unfold LB;omega,by rw[hν]⟩
  ·rw[hν,(E.ok e ei he).cells,←hrl]
   exact qD
  ·rw[(E.ok e ei he).cells]
   exact jf.frame hw (jy w _).size
 ·intro ok st ν' hν ju hw hm
  simp only[aF]
  exact⟨by rw[ju];rfl,by rw[hν]⟩
end
def OI(g:G):Option Operand→Int→Int→Prop
 | none,dflt,i=>i=dflt
 | some x,_,i=>∃k,g.ev x= .d (.val (.int k i))
def We:Option Operand→List Nat
 | none=>[]
 | some x=>da x
theorem OI.agree{R:Rd}{g g2:G}(h:A3 R g g2){o:Option Operand}{a i:Int}(ho:∀t∈We o,t∈R.s)(hi:OI g o a i):OI g2 o a i:=by
 cases o with
 | none=>exact hi
 | some x=>
   obtain⟨k,hk⟩:=hi
   exact⟨k,(h.ev (x:=x) ho).trans hk⟩
theorem OI.value{P:Program}{X:Cx}{ν:Nat→Nm}{g:G}{a:Act}{w:World}(h:Sat P X ν g a w){o:Option Operand}{d i:Int}(hi:OI g o d i):(o=none∧i=d)∨∃k,o.map a.eval=some (.int k i):=by
 cases o with
 | none=>exact .inl ⟨rfl,hi⟩
 | some x=>
   obtain⟨k,hk⟩:=hi
   have hv:=h.ev x
   rw[hk] at hv
   exact .inr ⟨k,by simp[fL hv]⟩
theorem tl{P:Program}(w:World){t e s:Nat}(hu:P.underlying t=some (.slice e))(hs:∀w,(sizeOf e).run P w= .ok s w)(a:Option Addr)(len cap:Nat)(lo hi:Option Value)(l h:Int)
 (hlo:(lo=none∧l=0)∨∃k,lo=some (.int k l)) (hhi:(hi=none∧h=len)∨∃k,hi=some (.int k h)) (h0:0≤l) (h1:l≤h) (h2:h≤len) (h3:len≤cap) :
 (Instr.sliceAt t (.slice a len cap) lo hi none).run P w= .ok (sliced a l.toNat h.toNat cap s) w:=by
 have hel:P.elem t=e:=by simp[Program.elem,hu]
 have ht:P.underlying t=some (.slice (P.elem t)):=by rw[hel];exact hu
 rw[run_sliceAt_slice w t _ _ _ _ ht]
 have h2':h≤(cap:Int):=by omega
 rcases hlo with⟨rfl,rfl⟩|⟨k,rfl⟩
 ·rcases hhi with⟨rfl,rfl⟩|⟨k',rfl⟩
  ·rw[run_slice_all w t a len cap ht,hel,hs]
   simp[Result.andThen]
  ·rw[run_slice_h w t a len cap ht k' h (by omega) h2',hel,hs]
   simp[Result.andThen]
 ·rcases hhi with⟨rfl,rfl⟩|⟨k',rfl⟩
  ·rw[run_slice_l w t a len cap ht k l h0 h1,hel,hs]
   simp[Result.andThen]
  ·rw[run_slice_lh w t a len cap ht k k' l h h0 h1 h2',hel,hs]
   simp[Result.andThen]
theorem UB{P:Program}(w:World){t:Nat}(hu:P.underlying t=some .string)(s:List UInt8)(lo hi:Option Value)(l h:Int)
 (hlo:(lo=none∧l=0)∨∃k,lo=some (.int k l)) (hhi:(hi=none∧h=s.length)∨∃k,hi=some (.int k h)) (h0:0≤l) (h1:l≤h) (h2:h≤s.length) :
 (Instr.sliceAt t (.string ⟨s.toArray⟩) lo hi none).run P w= .ok (.string ⟨((s.drop l.toNat).take (h.toNat-l.toNat)).toArray⟩) w:=by
 rw[run_sliceAt_string w t _ _ _ _ hu]
 have hsz:(⟨s.toArray⟩:ByteArray).size=s.length:=size_mk s
 rcases hlo with⟨rfl,rfl⟩|⟨k,rfl⟩
 ·rcases hhi with⟨rfl,rfl⟩|⟨k',rfl⟩
  ·rw[run_slice_string_all w t _ hu,ByteArray.extract_mk,hsz]
   simp
  ·rw[run_slice_string_h w t _ hu k' h (by omega) (by omega),ByteArray.extract_mk]
   simp
 ·rcases hhi with⟨rfl,rfl⟩|⟨k',rfl⟩
  ·rw[run_slice_string_l w t _ hu k l h0 (by omega),ByteArray.extract_mk,hsz]
   simp
  ·rw[Go.run_slice_string w t _ k k' l h hu h0 h1 (by omega),ByteArray.extract_mk]
section
variable{E:Env}{g:G}{d:Nat}{ty:TypeId}{pos:String}{eG:Array Edge}{gd:Option (Nat×Bool)}{dn:Option Nat}
theorem rH{sz:Nat}:∀(us:List (List Value))(l n:Nat),(∀(i:Nat)(u:List Value),us[i]?=some u→u.length=sz)→l+n≤us.length→((us.drop l).take n).flatten=(us.flatten.drop (l*sz)).take (n*sz)
 | [],l,n,_,h=>by
   have h1:l=0:=by simp at h;omega
   have h2:n=0:=by simp at h;omega
   subst h1 h2;simp
 | u::us,0,n,hu,h=>by
   cases n with
   | zero=>simp
   | succ n=>
     have h0:u.length=sz:=hu 0 u rfl
     have ih:=rH us 0 n (fun i x hx=>hu (i+1) x (by simpa using hx)) (by simp at h;omega)
     simp only[List.drop_zero,Nat.zero_mul] at ih⊢
     rw[dH,dV,dV,ih,List.take_append]
     have e1:(n+1)*sz-u.length=n*sz:=by rw[cQ,h0];omega
     rw[e1,ao (l:=u) (by rw[h0,cQ];omega)]
 | u::us,l+1,n,hu,h=>by
   have h0:u.length=sz:=hu 0 u rfl
   have ih:=rH us l n (fun i x hx=>hu (i+1) x (by simpa using hx)) (by simp at h;omega)
   rw[List.drop_succ_cons,ih,dV]
   congr 1
   rw[List.drop_append,al (l:=u) (by rw[h0,cQ];omega),bB]
   congr 1
   rw[cQ,h0];omega
theorem oq{α:Type}(xs:List α)(l n i:Nat)(x:α)(h:((xs.drop l).take n)[i]?=some x):xs[l+i]?=some x:=by
 rw[cV] at h
 split at h
 ·rwa [dv] at h
 ·cases h
theorem cg.cut{w:World}{ok:Nat→Prop}{sz:Nat}{xs:List (List D)}{us:List (List Value)}(h:cg w ok sz xs us)(l n:Nat):cg w ok sz ((xs.drop l).take n) ((us.drop l).take n):=by
 refine⟨by simp[h.len],fun i x hx=>h.hx (l+i) x (oq _ _ _ _ _ hx),fun i u hu=>h.hu (l+i) u (oq _ _ _ _ _ hu),fun i j x u d v h1 h2 h3 h4=>h.hr (l+i) j x u d v (oq _ _ _ _ _ h1) (oq _ _ _ _ _ h2) h3 h4⟩
theorem N1(x:Operand)(lo hi:Option Operand)(t e:Nat)(ti ei:TI)(xs r:List (List D))(l h:Int)(ht:E.ti t=some ti)(kD:ti.ty= .slice e)(he:E.ti e=some ei)(hx:g.ev x= .d (.dP xs))(hlo:OI g lo 0 l)(hhi:OI g hi xs.length h)
 (h0:0≤l) (h1:l≤h) (h2:h≤xs.length) (hz:∀y∈xs,y.length=ei.n) (hr:(xs.drop l.toNat).take (h.toNat-l.toNat)=r) :
 kG E.P ⟨some d,.slice t x lo hi none,ty,pos,eG,gd⟩ g ⟨da x++(We lo++We hi),[]⟩ ⟨some (d,.d (.dP r)),[]⟩:=by
 subst hr
 intro g2 hg
 have e1:=hg.ev (x:=x) (fun t h=>by simp[h])
 have hlo2:=hlo.agree hg (fun t h=>by simp[h])
 have hhi2:=hhi.agree hg (fun t h=>by simp[h])
 refine CS.val rfl fun X ν a w hs=>?_
 have hv:=hs.ev x
 rw[e1,hx] at hv
 simp only[aF] at hv⊢
 have hu:=(E.ok t ti ht).ty
 rw[kD] at hu
 have hlv:(lo.map a.eval=none∧l=0)∨∃k,lo.map a.eval=some (.int k l):=(hlo2.value hs).imp (fun h=>⟨by rw[h.1];rfl,h.2⟩) id
 have hhv:(hi.map a.eval=none∧h=xs.length)∨∃k,hi.map a.eval=some (.int k h):=(hhi2.value hs).imp (fun h=>⟨by rw[h.1];rfl,h.2⟩) id
 have hsize:=(E.ok e ei he).size
 obtain⟨ln,rfl⟩:∃n:Nat,l=n:=⟨l.toNat,by omega⟩
 obtain⟨hn,rfl⟩:∃n:Nat,h=n:=⟨h.toNat,by omega⟩
 simp only[bo]
 rcases hv.uZ with⟨rfl,ea,ec,hvv,hemp⟩|⟨us,b,off,cap,sz,hvv,eP,hb,jO,hmax,hB,jf,hc⟩
 ·simp only[List.length_nil] at h2
  have hr:=tl (P:=E.P) w hu hsize ea 0 ec _ _ ln hn hlv hhv h0 h1 h2 (bh _)
  obtain rfl:hn=0:=by omega
  obtain rfl:ln=0:=by omega
  refine⟨sliced ea 0 0 ec ei.n,?_,?_⟩
  ·simp only[execOp,hvv,gl,Sem.run_bind,hr,Result.andThen_ok]
   rfl
  ·simp only[List.drop_nil,List.take_nil]
   unfold sliced
   refine hU.ZX ?_
   rcases hemp with⟨rfl,rfl⟩|⟨k1,k2⟩
   ·exact .inl ⟨by simp,rfl⟩
   ·refine .inr ⟨?_,by omega⟩
    split
    ·exact k1
    ·rw[Option.isSome_map]
     exact k1
 ·have hr:=tl (P:=E.P) w hu hsize (some ⟨b,off,none⟩) xs.length cap _ _ ln hn hlv hhv h0 h1 h2 jO
  simp only[bo] at hr
  have hsz:xs=[]∨sz=ei.n:=by
   cases xs with
   | nil=>exact .inl rfl
   | cons y ys=>right;rw[←jf.hx 0 y rfl];exact hz y (by simp)
  refine⟨sliced (some ⟨b,off,none⟩) ln hn cap ei.n,?_,?_⟩
  ·simp only[execOp,hvv,gl,Sem.run_bind,hr,Result.andThen_ok]
   rfl
  ·have dy:((xs.drop ln).take (hn-ln)).length=hn-ln:=by simp;omega
   have hrc:=jf.cut ln (hn-ln)
   have hcl:=rH us ln (hn-ln) jf.hu (by rw[jf.len];omega)
   unfold sliced
   by_cases hcm:cap=ln
   ·rw[if_pos hcm]
    have:hn-ln=0:=by omega
    rw[this] at dy hrc⊢
    simp only[List.take_zero] at dy hrc⊢
    exact .dP [] [] b off (cap-ln) sz eP hb (by simp) (by simp only[maxLen] at hmax⊢;omega) (by simp) rfl (by simp) (by simp) (fun j u hu=>by simp at hu) (by simp)
   ·rw[if_neg hcm]
    have hsz':sz=ei.n∨ln=0:=by
     rcases hsz with rfl|h
     ·right;simp at h2;omega
     ·exact .inl h
    have hoff:(⟨b,off,none⟩:Addr).add (ln*ei.n)=⟨b,off+ln*sz,none⟩:=by
     rw[add_lit]
     rcases hsz' with h|h<;>rw[h]
     simp
    simp only[Option.map_some,hoff]
    have hres:=hU.dP (w:=w) (ok:=ct X ν g2.at) ((xs.drop ln).take (hn-ln)) ((us.drop ln).take (hn-ln)) b (off+ln*sz) (cap-ln) sz eP hb (by rw[dy];omega) (by simp only[maxLen] at hmax⊢;omega) (by rw[dy];omega) hrc.len hrc.hx hrc.hu
     (hc.sub (ln*sz) fun j u hu=>by
      rw[hcl] at hu
      exact oq _ _ _ _ _ hu) hrc.hr
    rw[dy] at hres
    exact hres
theorem Oe(x:Operand)(lo hi:Option Operand)(t:Nat)(ti:TI)(s r:List UInt8)(l h:Int)(ht:E.ti t=some ti)(kD:ti.ty= .str)(hx:g.ev x= .d (.str s))(hlo:OI g lo 0 l)(hhi:OI g hi s.length h)
 (h0:0≤l) (h1:l≤h) (h2:h≤s.length) (hr:(s.drop l.toNat).take (h.toNat-l.toNat)=r) :
 kG E.P ⟨some d,.slice t x lo hi none,ty,pos,eG,gd⟩ g ⟨da x++(We lo++We hi),[]⟩ ⟨some (d,.d (.str r)),[]⟩:=by
 subst hr
 intro g2 hg
 have e1:=hg.ev (x:=x) (fun t h=>by simp[h])
 have hlo2:=hlo.agree hg (fun t h=>by simp[h])
 have hhi2:=hhi.agree hg (fun t h=>by simp[h])
 refine CS.val rfl fun X ν a w hs=>?_
 have hv:=hs.ev x
 rw[e1,hx] at hv
 obtain⟨hv,hB⟩:=uX hv
 have hu:=(E.ok t ti ht).ty
 rw[kD] at hu
 have hlv:(lo.map a.eval=none∧l=0)∨∃k,lo.map a.eval=some (.int k l):=(hlo2.value hs).imp (fun h=>⟨by rw[h.1];rfl,h.2⟩) id
 have hhv:(hi.map a.eval=none∧h=s.length)∨∃k,hi.map a.eval=some (.int k h):=(hhi2.value hs).imp (fun h=>⟨by rw[h.1];rfl,h.2⟩) id
 have hr:=UB (P:=E.P) w hu s _ _ l h hlv hhv h0 h1 h2
 refine⟨_,?_,by simp only[aF];exact .str _ (by simp;omega)⟩
 simp only[execOp,hv,gl,Sem.run_bind,hr,Result.andThen_ok]
 rfl
def sr{α:Type}(cs:List α)(off:Nat)(vs:List α):List α:=cs.take off++(vs++cs.drop (off+vs.length))
theorem J5{α:Type}(cs vs:List α)(off:Nat)(h:off+vs.length≤cs.length):(sr cs off vs).length=cs.length:=by
 simp[sr];omega
theorem GA{sz:Nat}:∀(us:List (List Value))(i off:Nat)(vs rest:List Value),(∀(i:Nat)(u:List Value),us[i]?=some u→u.length=sz)→i<us.length→off+vs.length≤sz →
 sr (us.flatten++rest) (i*sz+off) vs=(us.set i (sr (us.getD i []) off vs)).flatten++rest
 | [],i,_,_,_,_,h,_=>by simp at h
 | u::us,0,off,vs,rest,hu,_,ho=>by
   have h0:u.length=sz:=hu 0 u rfl
   simp only[sr,Nat.zero_mul,c9,ir,dV,List.getD_cons_zero,bm]
   rw[bW (by omega),List.drop_append_of_le_length (by omega)]
 | u::us,i+1,off,vs,rest,hu,hi,ho=>by
   have h0:u.length=sz:=hu 0 u rfl
   have ih:=GA us i off vs rest (fun i x hx=>hu (i+1) x (by simpa using hx)) (by simpa using hi) ho
   have e1:(i+1)*sz+off=sz+(i*sz+off):=by rw[cQ];omega
   simp only[nT,dV,List.getD_cons_succ,bm]
   rw[←ih,e1]
   simp only[sr]
   have e2:m0 (sz+(i*sz+off)) (u++(us.flatten++rest))=u++m0 (i*sz+off) (us.flatten++rest):=by
    rw[List.take_append,ao (by omega),h0]
    congr 2;omega
   have e3:fm (sz+(i*sz+off)+vs.length) (u++(us.flatten++rest))=fm (i*sz+off+vs.length) (us.flatten++rest):=by
    rw[List.drop_append,al (by omega),bB,h0]
    congr 1;omega
   rw[e2,e3,bm]
theorem zV{α:Type}(cs vs:List α)(off j:Nat)(h:off+vs.length≤cs.length):(sr cs off vs)[j]?=if off≤j∧j<off+vs.length then vs[j-off]? else cs[j]?:=by
 unfold sr
 by_cases h1:j<off
 ·rw[if_neg (by omega),bj (by simp;omega),cV,if_pos h1]
 ·have e:(cs.take off).length=off:=by simp;omega
  rw[bu (by omega),e]
  by_cases h2:j<off+vs.length
  ·rw[if_pos (by omega),bj (by omega)]
  ·rw[if_neg (by omega),bu (by omega),dv]
   congr 1;omega
theorem Hy(x y:Operand)(t k i off sz e:Nat)(ti ei:TI)(xs:List (List D))(p:PV)(cs:List D)(ht:E.ti t=some ti)(he:E.ti e=some ei)(hsz:sz=ei.n)(hx:g.ev x= .gE k i off sz)(hk:g.at k=some (.acc e xs))(hy:g.ev y=p)
 (hi:i<xs.length) (hl:off+ti.n≤ei.n) (hp:p.whole=true) (hn:(eh p).length=ti.n) (hcs:zd (eh p)=some cs) :
 kG E.P ⟨dn,.store t x y,ty,pos,eG,gd⟩ g ⟨da x++da y++dn.toList,[k]⟩ ⟨dn.map fun d=>(d,.undef),[(k,.acc e (xs.set i (sr (row xs i) off cs)))]⟩:=by
 intro g2 hg
 have e1:=hg.ev (x:=x) (fun t h=>by simp[h])
 have e2:=hg.ev (x:=y) (fun t h=>by simp[h])
 have h3:=(hg.p k (by simp)).trans hk
 intro X ν a w next Q hs hnx
 have hv:=hs.ev x
 rw[e1,hx] at hv
 have hw:=hs.ev y
 rw[e2,hy] at hw
 simp only[aF] at hv
 obtain⟨_,b,n,c,hb,hv⟩:=hv
 obtain⟨us,ho,jf,hB,hf0⟩:=hs.en k _ h3
 have pM:=hw.cells hp hs.nu
 have dy:=pM.length
 obtain⟨Vn,hd2⟩:=AE (wD pM hcs)
 rw[(E.ok e ei he).cells] at jf ho
 subst hsz
 have hlast:=ho.2
 rcases hlast with⟨h1,h2⟩|⟨b',cap,cur,h1,_,h2,h4,h5,h6,h7⟩
 ·omega
 ·rw[h1] at hb
  obtain⟨rfl,rfl,rfl⟩:b'=b∧xs.length=n∧cap=c:=by simpa using hb
  have hul:us.length=xs.length:=jf.len
  have hfl:=jf.kT
  have hmulle:(i+1)*ei.n≤xs.length*ei.n:=bP _ hi
  have hmulle2:xs.length*ei.n≤cap*ei.n:=bP _ h4
  have hadd:(i+1)*ei.n=i*ei.n+ei.n:=by rw[cQ];omega
  have hone:∀u∈(a.eval y).cells.toList,u.oneCell'=true:=by
   intro u hu
   obtain⟨j,hj,rfl⟩:=List.getElem_of_mem hu
   have hjc:j<cs.length:=by rw[←Vn];exact hj
   exact(hd2 j cs[j] _ (ah hjc) (ah hj)).one
  have hvl:(a.eval y).cells.toList.length=ti.n:=by rw[dy,hn]
  have lD:=uC (E.ok t ti ht) w b' (i*ei.n+off) e cur (a.eval y) h2 hvl (by omega) hone
  have hr:(execOp a.eval ⟨dn,.store t x y,ty,pos,eG,gd⟩).run E.P w= .ok .skip (w.setRow b' (cur.toList.take (i*ei.n+off)++(a.eval y).cells.toList++cur.toList.drop (i*ei.n+off+(a.eval y).cells.toList.length)).toArray):=by
   simp only[execOp,hv,Instr.storeAt,Instr.sureAddr,Sem.run_bind,Sem.run_pure,Result.andThen_ok,lD]
  have hcur:cur.toList=us.flatten++cur.toList.drop (xs.length*ei.n):=by rw[←h7];exact(ic _ _).symm
  have hnew:cur.toList.take (i*ei.n+off)++(a.eval y).cells.toList++cur.toList.drop (i*ei.n+off+(a.eval y).cells.toList.length)=(us.set i (sr (us.getD i []) off (a.eval y).cells.toList)).flatten++cur.toList.drop (xs.length*ei.n):=by
   have:=GA us i off (a.eval y).cells.toList (cur.toList.drop (xs.length*ei.n)) jf.hu (by omega) (by omega)
   rw[←hcur] at this
   rw[←this,bm]
   rfl
  have hui:us[i]?=some (us.getD i []):=by
   have:i<us.length:=by omega
   simp[cC,ah this]
  have hxi:xs[i]?=some (row xs i):=by simp[row,cC,ah hi]
  have hxil:=jf.hx i _ hxi
  have huil:=jf.hu i _ hui
  have hrows:cg w (ct X ν g2.at) ei.n (xs.set i (sr (row xs i) off cs)) (us.set i (sr (us.getD i []) off (a.eval y).cells.toList)):=by
   refine⟨by simp[hul],fun j z hz=>?_,fun j z hz=>?_,fun j l z u q v k1 k2 k3 k4=>?_⟩
   ·rw[kn] at hz
    by_cases hij:i=j
    ·subst hij
     rw[if_pos rfl,if_pos hi] at hz
     obtain rfl:=Option.some.inj hz
     rw[J5 _ _ _ (by rw[hxil,←Vn,hvl];exact hl),hxil]
    ·rw[if_neg hij] at hz
     exact jf.hx j z hz
   ·rw[kn] at hz
    by_cases hij:i=j
    ·subst hij
     rw[if_pos rfl,if_pos (by omega)] at hz
     obtain rfl:=Option.some.inj hz
     rw[J5 _ _ _ (by rw[huil,hvl];exact hl),huil]
    ·rw[if_neg hij] at hz
     exact jf.hu j z hz
   ·rw[kn] at k1 k2
    by_cases hij:i=j
    ·subst hij
     rw[if_pos rfl,if_pos hi] at k1
     rw[if_pos rfl,if_pos (by omega)] at k2
     obtain rfl:=Option.some.inj k1
     obtain rfl:=Option.some.inj k2
     rw[zV _ _ _ _ (by rw[hxil,←Vn,hvl];exact hl)] at k3
     rw[zV _ _ _ _ (by rw[huil,hvl];exact hl)] at k4
     rw[Vn] at k4
     by_cases ki:off≤l∧l<off+cs.length
     ·rw[if_pos ki] at k3 k4
      exact hd2 _ _ _ k3 k4
     ·rw[if_neg ki] at k3 k4
      exact jf.hr i l _ _ q v hxi hui k3 k4
    ·rw[if_neg hij] at k1 k2
     exact jf.hr j l z u q v k1 k2 k3 k4
  unfold Oper.wp
  rw[hr,Oper.upon_skip,hnew]
  refine hnx _ _ _ (hs.Cj k (.acc e xs) (.acc e (xs.set i (sr (row xs i) off cs))) h3 rfl (kq w b' _ _ ((kg hf0).2 (by rw[h1];rfl))) dn .undef Go.undef ?_ ?_)
  ·intro hwf hm
   refine⟨us.set i (sr (us.getD i []) off (a.eval y).cells.toList),?_,?_,by simpa using hB,hf0⟩
   ·rw[(E.ok e ei he).cells,h1]
    have hf2:=hrows.kT
    refine⟨hf2,.inr ⟨b',cap,_,by simp,bh _,setRow_heap w b' _ _ e _ h2,by simpa using h4,h5,?_,?_⟩⟩
    ·simp only[dW,aX,hf2,jh,eH,fh,h6]
     omega
    ·rw[bW (by rw[hf2];exact aI _),ao (by rw[hf2];exact aI _)]
   ·rw[(E.ok e ei he).cells]
    exact hrows.frame hwf (by simp[World.setRow])
  ·intro _
   simp only[aF]
def RS(ns:List Int):List (List D):=ns.map fun n=>[.val (.int .u8 n)]
def byS(ns:List Int):List UInt8:=ns.map fun n=>UInt8.ofNat n.toNat
end
mutual
def sc:PV→Bool
 | .undef=>true
 | .bZ=>true
 | .d (.val _)=>true
 | .d (.str _)=>true
 | .agg cs=>ZR cs
 | .jd cs=>ZR cs
 | _=>false
def ZR:List PV→Bool
 | []=>true
 | p::ps=>sc p&&ZR ps
end
section
variable{w w':World}{ok ok':Nat→Prop}{ν ν':Nat→Nm}{st st':Nat→Option En}
mutual
theorem aF.sc:∀(p:PV)(v:Value),sc p=true→aF w ok ν st p v→aF w' ok' ν' st' p v
 | .undef,v,_,h=>by simpa[aF] using h
 | .bZ,v,_,h=>by simpa[aF] using h
 | .d (.val u),v,_,h=>by
   simp only[aF] at h⊢
   cases h with
   | val u h=>exact .val _ h
 | .d (.str u),v,_,h=>by
   simp only[aF] at h⊢
   cases h with
   | str u h=>exact .str _ h
 | .agg cs,v,hs,h=>by
   simp only[Eng.sc] at hs
   simp only[aF] at h⊢
   obtain⟨vs,e,h⟩:=h
   exact⟨vs,e,aB.sc cs vs hs h⟩
 | .jd cs,v,hs,h=>by
   simp only[Eng.sc] at hs
   simp only[aF] at h⊢
   obtain⟨vs,e,h⟩:=h
   exact⟨vs,e,aB.sc cs vs hs h⟩
 | .any,_,hs,_=>by simp[Eng.sc] at hs
 | .d (.dP _),_,hs,_=>by simp[Eng.sc] at hs
 | .ptr _ _,_,hs,_=>by simp[Eng.sc] at hs
 | .acc _,_,hs,_=>by simp[Eng.sc] at hs
 | .gE _ _ _ _,_,hs,_=>by simp[Eng.sc] at hs
 | .gm _ _ _,_,hs,_=>by simp[Eng.sc] at hs
 | .fn _ _,_,hs,_=>by simp[Eng.sc] at hs
theorem aB.sc:∀(ps:List PV)(vs:List Value),ZR ps=true→aB w ok ν st ps vs→aB w' ok' ν' st' ps vs
 | [],[],_,_=>by simp[aB]
 | p::ps,v::vs,hs,h=>by
   simp only[Eng.ZR,ai] at hs
   simp only[aB] at h⊢
   exact⟨aF.sc p v hs.1 h.1,aB.sc ps vs hs.2 h.2⟩
 | [],_::_,_,h=>by simp[aB] at h
 | _::_,[],_,h=>by simp[aB] at h
end
end
mutual
inductive Vw(g:G)(ks:List Nat):PV→PV→Prop where
 | same {p:PV} (h:p.lt 0=true):Vw g ks p p
 | nil:Vw g ks .bZ (.d (.dP []))
 | acc {k:Nat} {e:TypeId} {xs:List (List D)} (h:w6 k ks=true) (hk:g.at k=some (.acc e xs)):Vw g ks (.acc k) (.d (.dP xs))
 | fg {k:Nat} {e:TypeId} {xs:List (List T)} {ys:List (List D)} (h:w6 k ks=true) (hk:g.at k=some (.fg e xs)) (hf:cR xs=some ys):Vw g ks (.acc k) (.d (.dP ys))
 | agg {cs ds:List PV} (h:ik g ks cs ds):Vw g ks (.agg cs) (.agg ds)
 | fn {f:Nat} {cs ds:List PV} (h:ik g ks cs ds):Vw g ks (.fn f cs) (.fn f ds)
 | box {k:Nat} {cs:List PV} {ds:List D} (h:w6 k ks=true) (hk:g.at k=some (.box cs)) (hc:ik g ks cs (cF ds)):Vw g ks (.ptr k 0) (.gm [ds] 0 0)
inductive ik(g:G)(ks:List Nat):List PV→List PV→Prop where
 | nil:ik g ks [] []
 | cons {p q:PV} {ps qs:List PV} (h:Vw g ks p q) (h':ik g ks ps qs):ik g ks (p::ps) (q::qs)
end
section
variable{g g2:G}{ks:List Nat}
mutual
theorem Vw.NZ{p q:PV}:Vw g ks p q→q.lt 0=true
 | .same h=>h
 | .nil=>rfl
 | .acc _ _=>rfl
 | .fg _ _ _=>rfl
 | .agg h=>by simp only[PV.lt];exact ik.NZ h
 | .fn h=>by simp only[PV.lt];exact ik.NZ h
 | .box _ _ _=>rfl
theorem ik.NZ{ps qs:List PV}:ik g ks ps qs→tI 0 qs=true
 | .nil=>rfl
 | .cons h h'=>by simp only[tI,ai];exact⟨Vw.NZ h,ik.NZ h'⟩
end
mutual
theorem Vw.agree(ha:∀k∈ks,g2.at k=g.at k){p q:PV}:Vw g ks p q→Vw g2 ks p q
 | .same h=>.same h
 | .nil=>.nil
 | .acc h hk=>.acc h ((ha _ (qm.1 h)).trans hk)
 | .fg h hk hf=>.fg h ((ha _ (qm.1 h)).trans hk) hf
 | .agg h=>.agg (ik.agree ha h)
 | .fn h=>.fn (ik.agree ha h)
 | .box h hk hc=>.box h ((ha _ (qm.1 h)).trans hk) (ik.agree ha hc)
theorem ik.agree(ha:∀k∈ks,g2.at k=g.at k){ps qs:List PV}:ik g ks ps qs→ik g2 ks ps qs
 | .nil=>.nil
 | .cons h h'=>.cons (Vw.agree ha h) (ik.agree ha h')
end
end
section
variable{P:Program}{X:Cx}{ν ν':Nat→Nm}{g:G}{a:Act}{w:World}{ok:Nat→Prop}{st:Nat→Option En}{ks:List Nat}
mutual
theorem aF.NZ(hw:∀b,ct X ν g.at b→b<w.heap.size→ok b∧w.heap[b]?=w.heap[b]?):∀(p:PV)(v:Value),p.lt 0=true→aF w (ct X ν g.at) ν g.at p v→aF w ok ν' st p v
 | .any,_,_,_=>by simp[aF]
 | .undef,_,_,h=>by simpa[aF] using h
 | .bZ,_,_,h=>by simpa[aF] using h
 | .d x,v,_,h=>by
   simp only[aF] at h⊢
   exact h.frame hw (aI _)
 | .agg cs,v,hl,h=>by
   simp only[PV.lt] at hl
   simp only[aF] at h⊢
   obtain⟨vs,e,h⟩:=h
   exact⟨vs,e,aB.NZ hw cs vs hl h⟩
 | .jd cs,v,hl,h=>by
   simp only[PV.lt] at hl
   simp only[aF] at h⊢
   obtain⟨vs,e,h⟩:=h
   exact⟨vs,e,aB.NZ hw cs vs hl h⟩
 | .gm xs i off,v,_,h=>by
   simp only[aF] at h⊢
   obtain⟨b,o,cap,h1,h2,h3⟩:=h
   exact⟨b,o,cap,h1.frame hw (aI _),h2,h3⟩
 | .fn f cs,v,hl,h=>by
   simp only[PV.lt] at hl
   simp only[aF] at h⊢
   obtain⟨vs,e,h⟩:=h
   exact⟨vs,e,aB.NZ hw cs vs hl h⟩
 | .ptr _ _,_,hl,_=>by simp[PV.lt] at hl
 | .acc _,_,hl,_=>by simp[PV.lt] at hl
 | .gE _ _ _ _,_,hl,_=>by simp[PV.lt] at hl
theorem aB.NZ(hw:∀b,ct X ν g.at b→b<w.heap.size→ok b∧w.heap[b]?=w.heap[b]?):∀(ps:List PV)(vs:List Value),tI 0 ps=true→aB w (ct X ν g.at) ν g.at ps vs→aB w ok ν' st ps vs
 | [],[],_,_=>by simp[aB]
 | p::ps,v::vs,hl,h=>by
   simp only[tI,ai] at hl
   simp only[aB] at h⊢
   exact⟨aF.NZ hw p v hl.1 h.1,aB.NZ hw ps vs hl.2 h.2⟩
 | [],_::_,_,h=>by simp[aB] at h
 | _::_,[],_,h=>by simp[aB] at h
end
theorem OB{w:World}{ok:Nat→Prop}{ν:Nat→Nm}{st:Nat→Option En}:∀{ds:List D}{vs:List Value},aB w ok ν st (cF ds) vs→∀(j:Nat)(d:D)(v:Value),ds[j]?=some d→vs[j]?=some v→hU w ok d v
 | [],_,_,j,d,v,h,_=>by simp at h
 | _::_,[],h,_,_,_,_,_=>by simp[cF,aB] at h
 | e::ds,u::vs,h,0,d,v,h1,h2=>by
   simp only[cF,aQ,aB,aF] at h
   obtain rfl:e=d:=by simpa using h1
   obtain rfl:u=v:=by simpa using h2
   exact h.1
 | e::ds,u::vs,h,j+1,d,v,h1,h2=>by
   simp only[cF,aQ,aB] at h
   exact OB (ds:=ds) h.2 j d v (by simpa using h1) (by simpa using h2)
theorem Kc{w:World}{ok:Nat→Prop}{ν:Nat→Nm}{st:Nat→Option En}{b:Nat}{ds:List D}{vs:List Value}(eP:ok b)(hb:b<w.heap.size)(hc:jN w b 0 vs)(h:aB w ok ν st (cF ds) vs) :
 hU w ok (.dP [ds]) (.slice (some ⟨b,0,none⟩) [ds].length 1):=by
 have hl:vs.length=ds.length:=by simpa[cF] using h.length
 refine .dP [ds] [vs] b 0 1 ds.length eP hb (by simp) (by unfold maxLen;omega) (by simp[LB]) rfl ?_ ?_ (by simpa using hc) ?_
 ·intro i x hx
  cases i with
  | zero=>obtain rfl:ds=x:=by simpa using hx
          rfl
  | succ i=>simp at hx
 ·intro i x hx
  cases i with
  | zero=>obtain rfl:vs=x:=by simpa using hx
          exact hl
  | succ i=>simp at hx
 ·intro i j x u d v h1 h2 h3 h4
  cases i with
  | zero=>
    obtain rfl:ds=x:=by simpa using h1
    obtain rfl:vs=u:=by simpa using h2
    exact OB h j d v h3 h4
  | succ i=>simp at h1
mutual
theorem aF.vw(hs:Sat P X ν g a w)(hw:∀b,ct X ν g.at b→b<w.heap.size→ok b∧w.heap[b]?=w.heap[b]?)(il:∀b,Own ν g.at b→ok b){p q:PV}:∀(v:Value),Vw g ks p q→aF w (ct X ν g.at) ν g.at p v→aF w ok ν' st q v
 | v,.same hl,h=>aF.NZ hw _ v hl h
 | v,.nil,h=>by
   simp only[aF] at h⊢
   rw[h];exact .nil
 | v,.acc _ hk,h=>by
   simp only[aF] at h⊢
   rw[h.2]
   obtain⟨us,h1,h2,h3,_⟩:=hs.en _ _ hk
   exact wu h1 h2 h3 (fun b hb=>il b ⟨_,_,hk,rfl,.inl hb⟩) hw
 | v,.fg (xs:=xs) (e:=e) _ hk hf,h=>by
   simp only[aF] at h⊢
   rw[h.2]
   have hen:=hs.en _ _ hk
   exact kC.data hw (.own e xs) _ _ _ (by simp only[T.FD,hf]) hen.1 fun b hb=>il b ⟨_,_,hk,rfl,oA.2 hb⟩
 | v,.agg hc,h=>by
   simp only[aF] at h⊢
   obtain⟨vs,e,h⟩:=h
   exact⟨vs,e,aB.vw hs hw il vs hc h⟩
 | v,.fn hc,h=>by
   simp only[aF] at h⊢
   obtain⟨vs,e,h⟩:=h
   exact⟨vs,e,aB.vw hs hw il vs hc h⟩
 | v,.box _ hk hc,h=>by
   simp only[aF] at h⊢
   obtain⟨_,b,h1,h2⟩:=h
   obtain⟨b',vs,T,h3,h4,h5,_⟩:=hs.en _ _ hk
   obtain rfl:b'=b:=by
    rw[h1] at h3
    simpa using h3.symm
   have h6:=aB.vw hs hw il vs hc h5
   refine⟨b',0,1,Kc (il b' ⟨_,_,hk,rfl,.inl (by rw[h1];rfl)⟩) (pY h4) (uE h4) h6,by simp,by rw[h2];simp⟩
theorem aB.vw(hs:Sat P X ν g a w)(hw:∀b,ct X ν g.at b→b<w.heap.size→ok b∧w.heap[b]?=w.heap[b]?)(il:∀b,Own ν g.at b→ok b){ps qs:List PV}:∀(vs:List Value),ik g ks ps qs→aB w (ct X ν g.at) ν g.at ps vs→aB w ok ν' st qs vs
 | [],.nil,_=>by simp[aB]
 | v::vs,.cons h1 h2,h=>by
   simp only[aB] at h⊢
   exact⟨aF.vw hs hw il v h1 h.1,aB.vw hs hw il vs h2 h.2⟩
 | _::_,.nil,h=>by simp[aB] at h
 | [],.cons _ _,h=>by simp[aB] at h
end
end
theorem Wh{P:Program}{o:Oper}{g:G}{nc:Operand}{xs:List Operand}{tys:Array TypeId}{d:Nat}(ho:o.op= .call ⟨.value nc,⟨xs⟩,tys⟩)(hd:o.dst=some d){f:FuncId}{cap:List PV}(hfn:g.ev nc= .fn f cap)
 (ks:List Nat) (cO:List PV) (R:PV→List (Option En)→Prop) (hC:C P f cO [] R) (oP:ik g ks (xs.map g.ev++cap) cO) (hR:∀r s,R r s→sc r=true)
 (X:Cx) (ν:Nat→Nm) (a:Act) (w:World) (next:Act→World→Prop) (Q:Exit→Act→World→Prop) (hs:Sat P X ν g a w)
 (hn:∀r s ν' a' w',R r s→Sat P X ν' ⟨lK g.sl d r,g.st⟩ a' w'→next a' w'):o.wp P a w next Q:=by
 have hfv:=hs.ev nc
 rw[hfn] at hfv
 simp only[aF] at hfv
 obtain⟨vcap,hfv,jO⟩:=hfv
 have hxs:=AQ hs xs
 let Xc:Cx:=⟨w,Own ν (cX []),ν,cX [],X.Z⟩
 have hno:∀b,¬Own ν (cX []) b:=by
  rintro b ⟨k,e,h,_⟩
  cases k<;>simp[cX] at h
 have hw:∀b,ct X ν g.at b→b<w.heap.size→ct Xc ν (cX []) b∧w.heap[b]?=w.heap[b]?:=fun b hb _=>⟨⟨hno b,hb.2⟩,rfl⟩
 have il:∀b,Own ν g.at b→ct Xc ν (cX []) b:=fun b hb=>⟨hno b,hs.KM hb⟩
 have lP:aB w (ct Xc ν (cX [])) ν (cX []) cO (xs.map a.eval++vcap):=aB.vw hs hw il _ oP (hxs.app jO)
 obtain⟨⟨fn,hfn1,hfn2,hfn3⟩,hC⟩:=hC
 have hr:(execOp a.eval o).run P w= .ok (.enter f ⟨xs.map a.eval++vcap⟩) w:=by
  have n1 : ¬ fn.name = "runtime.NumGoroutine" := by simpa using hfn3
  have n2:¬fn.body=none:=fun e=>by rw[e] at hfn2;cases hfn2
  simp[execOp,ho,resolve,hfv,Deferred.ofValue,invoke,callFunc,program,hfn1,n1,n2,Sem.run]
 have k9:∀k,(⟨cO,[]⟩:G).at k=none:=fun k=>by cases k<;>rfl
 have hent:Sat P Xc ν ⟨cO,[]⟩ ⟨⟨xs.map a.eval++vcap⟩,[]⟩ w:=by
  refine⟨by simpa using lP.length,fun t=>?_,fun k e h=>?_,fun k k' e e' b h=>?_,fun b hb=>?_,fun k h=>?_,fun k h=>?_,⟨fun b hb=>?_,hs.kt rfl fun b hb=>(hno b hb).elim⟩,rZ.refl _ w,rfl⟩
  ·have key:∀(ps:List PV)(us:List Value)(t:Nat),aB w (ct Xc ν (cX [])) ν (cX []) ps us→aF w (ct Xc ν (cX [])) ν (cX []) (nth ps t) (us.getD t Go.undef):=by
    intro ps
    induction ps with
    | nil=>intro us t _;cases t<;>simp[nth,aF]
    | cons p ps ih=>
      intro us t hr
      cases us with
      | nil=>simp[aB] at hr
      | cons u us=>
        simp only[aB] at hr
        cases t with
        | zero=>simpa[nth] using hr.1
        | succ t=>simpa[nth] using ih us t hr.2
   have:=key cO _ t lP
   show aF w (ct Xc ν (cX [])) ν (cX []) (nth cO t) ((⟨xs.map a.eval++vcap⟩:Array Value).getD t Go.undef)
   simpa[Array.getD_eq_getD_getElem?] using this
  ·rw[k9] at h;cases h
  ·rw[k9] at h;cases h
  ·exact(hno b hb).elim
  ·rw[k9] at h;cases h
  ·exact⟨rfl,h⟩
  ·exact⟨Nat.lt_of_lt_of_le (hs.D5 b hb).1 hs.zk.size,hno b⟩
 unfold Oper.wp
 rw[hr,Oper.upon_enter]
 refine(hC Xc (xs.map a.eval++vcap) rfl rfl hent).mono ?_
 rintro e w' ⟨v,res,st',ν',rfl,hRr,gD⟩
 show next (a.put o.dst v) w'
 rw[hd]
 refine hn res st' ν _ _ hRr (hs.S9 (gD.zk.mono fun b hb _=>hno b hb) d res v fun _ _=>?_)
 have:=gD.sl 0
 exact aF.sc res v (hR _ _ hRr) this
section
variable{E:Env}{g:G}{d:Nat}{ty:TypeId}{pos:String}{eG:Array Edge}{gd:Option (Nat×Bool)}
theorem Wl(nc:Operand)(xs:List Operand)(tys:Array TypeId)(f:FuncId)(cap:List PV)(hfn:g.ev nc= .fn f cap)(ks:List Nat)(cO:List PV)(res:PV)(hC:C E.P f cO [] (bM res []))
 (oP:ik g ks (xs.map g.ev++cap) cO) (hsc:sc res=true) :
 kG E.P ⟨some d,.call ⟨.value nc,⟨xs⟩,tys⟩,ty,pos,eG,gd⟩ g ⟨da nc++xs.flatMap da,ks⟩ ⟨some (d,res),[]⟩:=by
 intro g2 hg
 have e1:=hg.ev (x:=nc) (fun t h=>by simp[h])
 have e2:=ux hg xs (fun t h=>by simp only[aR];exact .inr h)
 intro X ν a w next Q hs hn
 refine Wh rfl rfl (by rw[e1,hfn]) ks cO (bM res []) hC (by rw[e2];exact oP.agree (fun k hk=>hg.p k hk)) (fun r s h=>by rw[h.1];exact hsc) X ν a w next Q hs ?_
 rintro r s ν' a' w' ⟨rfl,rfl⟩ hs'
 exact hn ν' a' w' hs'
end
def Fin(E:Env)(rs:List ResultVar)(n0:Nat)(R:PV→List (Option En)→Prop)(g:G):Prop:=∃g',qj E.P n0 g g'∧Y4 E rs n0 R g'
theorem Fin.plain{E:Env}{rs:List ResultVar}{R:PV→List (Option En)→Prop}{g:G}(ps:List PV)(q:PV)(h1:yZ E g rs=some ps)(h2:cv (kP ps) q)(hl:q.lt 0=true)(hR:R q []):True:=trivial
end Go.Eng
namespace Go.Eng
open Go.RowKit
inductive zN where
 | go(R:Rd)(δ:Dl)
 | og(φ:Prop)(R:Rd)(δ:Dl)
 | stop
def zN.Ok(P:Program)(o:Oper)(g:G):zN→Prop
 | .go R δ=>kG P o g R δ
 | .og φ R δ=>φ→kG P o g R δ
 | .stop=>True
def xC:Nat→Nat→Bool
 | 0,_=>true
 | _+1,0=>false
 | n+1,m+1=>xC n m
theorem kU:∀{n m:Nat},xC n m=true→n≤m
 | 0,_,_=>bh _
 | n+1,0,h=>by simp[xC] at h
 | n+1,m+1,h=>Nat.succ_le_succ (kU (by simpa[xC] using h))
def HR:Nat→Nat→Bool
 | 0,0=>true
 | n+1,m+1=>HR n m
 | _,_=>false
theorem xr:∀{n m:Nat},HR n m=true→n=m
 | 0,0,_=>rfl
 | n+1,m+1,h=>congrArg (·+1) (xr (by simpa[HR] using h))
 | 0,m+1,h=>by simp[HR] at h
 | n+1,0,h=>by simp[HR] at h
def JK:List D→Nat
 | []=>0
 | _::as=>JK as+1
theorem KI:∀(l:List D),JK l=l.length
 | []=>rfl
 | _::as=>by simp[JK,KI as]
theorem QJ{n:Nat}{l:List D}(h:xC n (JK l)=true):n≤l.length:=by
 have:=kU h
 rwa [KI] at this
theorem W4{n:Nat}{l:List D}(h:HR (JK l) n=true):l.length=n:=by
 have:=xr h
 rwa [KI] at this
def lL:List (Option En)→Nat
 | []=>0
 | _::as=>lL as+1
theorem nD:∀(l:List (Option En)),lL l=l.length
 | []=>rfl
 | _::as=>by simp[lL,nD as]
def vT:List PV→Nat
 | []=>0
 | _::as=>vT as+1
theorem ou:∀(l:List PV),vT l=l.length
 | []=>rfl
 | _::as=>by simp[vT,ou as]
def G.new(g:G):Nat:=lL g.st
theorem G.lG(g:G):g.at g.new=none:=FF (by unfold G.new;rw[nD];exact aI _)
def tk:Nat→List PV→List PV
 | 0,_=>[]
 | _+1,[]=>[]
 | n+1,a::as=>a::tk n as
theorem IV:∀(n:Nat)(l:List PV),tk n l=l.take n
 | 0,l=>by simp[tk]
 | n+1,[]=>by simp[tk]
 | n+1,a::as=>by simp[tk,IV n as]
def dr:Nat→List PV→List PV
 | 0,l=>l
 | _+1,[]=>[]
 | n+1,_::as=>dr n as
theorem IQ:∀(n:Nat)(l:List PV),dr n l=l.drop n
 | 0,l=>by simp[dr]
 | n+1,[]=>by simp[dr]
 | n+1,a::as=>by simp[dr,IQ n as]
def OS:List PV→List PV→List PV
 | cs,[]=>cs
 | [],vs=>vs
 | _::cs,v::vs=>v::OS cs vs
def OQ:List PV→Nat→List PV→List PV
 | cs,0,vs=>OS cs vs
 | [],_+1,vs=>vs
 | c::cs,n+1,vs=>c::OQ cs n vs
theorem Rm:∀(cs vs:List PV),vs.length≤cs.length→OS cs vs=vs++cs.drop vs.length
 | cs,[],_=>by cases cs<;>simp[OS]
 | [],v::vs,h=>by simp at h
 | c::cs,v::vs,h=>by simp[OS,Rm cs vs (by simpa using h)]
theorem Lt:∀(cs:List PV)(n:Nat)(vs:List PV),n+vs.length≤cs.length→OQ cs n vs=zr cs n vs
 | cs,0,vs,h=>by
   rw[c9] at h
   have e:OQ cs 0 vs=OS cs vs:=by cases cs<;>rfl
   rw[e,Rm cs vs h]
   simp[zr]
 | [],n+1,vs,h=>by simp at h
 | c::cs,n+1,vs,h=>by
   have:=Lt cs n vs (by simp at h;omega)
   simp only[OQ,this,zr]
   rw[show n+1+vs.length=n+vs.length+1 by omega]
   simp
def P7:List (Nat×Nat×Nat)→Nat→Option (Nat×Nat×Nat)
 | [],_=>none
 | a::_,0=>some a
 | _::as,n+1=>P7 as n
theorem Ls:∀(l:List (Nat×Nat×Nat))(n:Nat),P7 l n=l[n]?
 | [],n=>by simp[P7]
 | a::as,0=>rfl
 | a::as,n+1=>by simp[P7,Ls as n]
def Sy:List PV→Nat→Option PV
 | [],_=>none
 | a::_,0=>some a
 | _::as,n+1=>Sy as n
theorem Qz:∀(l:List PV)(n:Nat),Sy l n=l[n]?
 | [],n=>by simp[Sy]
 | a::as,0=>rfl
 | a::as,n+1=>by simp[Sy,Qz as n]
def pls:List (Nat×Nat×Nat)→List (Nat×Nat)
 | []=>[]
 | (_,o,s)::r=>(o,s)::pls r
theorem S5:∀(l:List (Nat×Nat×Nat)),pls l=l.map fun x=>(x.2.1,x.2.2)
 | []=>rfl
 | (a,o,s)::r=>by simp[pls,S5 r]
def evp(g:G):List (Nat×Operand)→List (Nat×PV)
 | []=>[]
 | (i,x)::r=>(i,g.ev x)::evp g r
theorem TN(g:G):∀(l:List (Nat×Operand)),evp g l=l.map fun x=>(x.1,g.ev x.2)
 | []=>rfl
 | (i,x)::r=>by simp[evp,TN g r]
def ZP(g:G):List (Nat×Operand)→List PV
 | []=>[]
 | (_,x)::r=>g.ev x::ZP g r
theorem Ot(g:G):∀(l:List (Nat×Operand)),ZP g l=l.map fun x=>g.ev x.2
 | []=>rfl
 | (i,x)::r=>by simp[ZP,Ot g r]
def ZU:List (Nat×Operand)→List Nat
 | []=>[]
 | (i,_)::r=>i::ZU r
theorem OT:∀(l:List (Nat×Operand)),ZU l=l.map (·.1)
 | []=>rfl
 | (i,x)::r=>by simp[ZU,OT r]
def Ys:List (Nat×Operand)→List Nat
 | []=>[]
 | (_,x)::r=>da x++Ys r
theorem KG:∀(l:List (Nat×Operand)),Ys l=l.flatMap fun x=>da x.2
 | []=>rfl
 | (i,x)::r=>by simp[Ys,KG r]
def Oz:List (Nat×Operand)→Nat
 | []=>0
 | _::r=>Oz r+1
theorem Lx:∀(l:List (Nat×Operand)),Oz l=l.length
 | []=>rfl
 | (i,x)::r=>by simp[Oz,Lx r]
def RT:List (Nat×Nat)→Nat→Option (Nat×Nat)
 | [],_=>none
 | a::_,0=>some a
 | _::as,n+1=>RT as n
theorem Q1:∀(l:List (Nat×Nat))(n:Nat),RT l n=l[n]?
 | [],n=>by simp[RT]
 | a::as,0=>rfl
 | a::as,n+1=>by simp[RT,Q1 as n]
def LQ(places:List (Nat×Nat))(cs:List PV):List (Nat×PV)→Option (List PV)
 | []=>some cs
 | (i,p)::rest=>
   match RT places i with
   | none=>none
   | some (off,sz)=>match p.whole,ja (vT (eh p)) sz,xC (off+sz) (vT cs) with
     | true,true,true=>LQ places (OQ cs off (eh p)) rest
     | _,_,_=>none
theorem Ra:∀(rest:List (Nat×PV))(places:List (Nat×Nat))(cs r:List PV),LQ places cs rest=some r→Gv places cs rest=some r
 | [],_,_,_,h=>h
 | (i,p)::rest,places,cs,r,h=>by
   simp only[LQ] at h
   simp only[Gv]
   split at h
   ·cases h
   ·rename_i off sz hpl
    rw[Q1] at hpl
    rw[hpl]
    simp only
    split at h
    ·rename_i h1 h2 h3
     have h2:vT (eh p)=sz:=bI h2
     rw[ou] at h2
     have h3:=kU h3
     rw[ou] at h3
     rw[if_pos ⟨h1,h2,h3⟩]
     rw[Lt _ _ _ (by omega)] at h
     exact Ra rest places _ r h
    ·cases h
def i64(p:PV):Option Int:=match p with | .d (.val (.int .i64 n))=>some n|_=>none
def iop(d:Nat)(R:Rd):BinOp→Int→Int→zN
 | .add,m,n=>.og (RN (m+n)) R ⟨some (d,.d (.val (.int .i64 (m+n)))),[]⟩
 | .sub,m,n=>.og (RN (m-n)) R ⟨some (d,.d (.val (.int .i64 (m-n)))),[]⟩
 | .mul,m,n=>.og (RN (m*n)) R ⟨some (d,.d (.val (.int .i64 (m*n)))),[]⟩
 | .quo,m,n=>.og (n≠0∧RN (m.tdiv n)) R ⟨some (d,.d (.val (.int .i64 (m.tdiv n)))),[]⟩
 | .rem,m,n=>.og (n≠0) R ⟨some (d,.d (.val (.int .i64 (m.tmod n)))),[]⟩
 | _,_,_=>.stop
def cop(d:Nat)(R:Rd):BinOp→Int→Int→zN
 | .eql,m,n=>.go R ⟨some (d,.d (.val (.bool (m == n)))),[]⟩
 | .neq,m,n=>.go R ⟨some (d,.d (.val (.bool (m != n)))),[]⟩
 | .lss,m,n=>.go R ⟨some (d,.d (.val (.bool (decide (m<n))))),[]⟩
 | .leq,m,n=>.go R ⟨some (d,.d (.val (.bool (decide (m≤n))))),[]⟩
 | .gtr,m,n=>.go R ⟨some (d,.d (.val (.bool (decide (m>n))))),[]⟩
 | .geq,m,n=>.go R ⟨some (d,.d (.val (.bool (decide (m≥n))))),[]⟩
 | _,_,_=>.stop
def Ye:BinOp→Bool
 | .eql=>true
 | .neq=>true
 | .lss=>true
 | .leq=>true
 | .gtr=>true
 | .geq=>true
 | _=>false
def sop(d:Nat)(R:Rd):BinOp→List UInt8→List UInt8→zN
 | .add,l,m=>.og (l.length+m.length≤LB) R ⟨some (d,.d (.str (l++m))),[]⟩
 | .eql,l,m=>.go R ⟨some (d,.d (.val (.bool (l == m)))),[]⟩
 | .neq,l,m=>.go R ⟨some (d,.d (.val (.bool (!(l == m))))),[]⟩
 | .lss,l,m=>.go R ⟨some (d,.d (.val (.bool (Op.bytesLess l m)))),[]⟩
 | .leq,l,m=>.go R ⟨some (d,.d (.val (.bool (Op.bytesLess l m||l == m)))),[]⟩
 | .gtr,l,m=>.go R ⟨some (d,.d (.val (.bool (!(Op.bytesLess l m||l == m))))),[]⟩
 | .geq,l,m=>.go R ⟨some (d,.d (.val (.bool (!Op.bytesLess l m)))),[]⟩
 | _,_,_=>.stop
def VD:IntKind→IntKind→Bool
 | .i64,.i64=>true
 | .u8,.u8=>true
 | .u64,.u64=>true
 | .u32,.u32=>true
 | _,_=>false
theorem J2{a b:IntKind}(h:VD a b=true):a=b:=by cases a<;>cases b<;>first|rfl|(cases h;done)
def bop(E:Env)(g:G)(d:Nat)(b:BinOp)(t:TypeId)(x y:Operand):zN:=
 match g.ev x,g.ev y with
 | .d (.val (.int k m)),.d (.val (.int k' n))=>
   match VD k k' with
   | true=>match Ye b with
     | true=>cop d ⟨da x++da y,[]⟩ b m n
     | false=>match VD k .i64 with
       | true=>iop d ⟨da x++da y,[]⟩ b m n
       | false=>.stop
   | false=>.stop
 | .d (.str l),.d (.str m)=>sop d ⟨da x++da y,[]⟩ b l m
 | .d (.val (.bool m)),.d (.val (.bool n))=>
   match E.ti t with
   | some ti=>match ti.ty,b with
     | .bool,.eql=>.go ⟨da x++da y,[]⟩ ⟨some (d,.d (.val (.bool (m == n)))),[]⟩
     | .bool,.neq=>.go ⟨da x++da y,[]⟩ ⟨some (d,.d (.val (.bool (!(m == n))))),[]⟩
     | _,_=>.stop
   | none=>.stop
 | _,_=>.stop
section
variable{E:Env}{g:G}{d:Nat}{ty:TypeId}{pos:String}{eG:Array Edge}{gd:Option (Nat×Bool)}{dn:Option Nat}
theorem ZA(b:BinOp)(m n:Int)(t u:TypeId)(x y:Operand)(hx:g.ev x= .d (.val (.int .i64 m)))(hy:g.ev y= .d (.val (.int .i64 n))) :
 (iop d ⟨da x++da y,[]⟩ b m n).Ok E.P ⟨some d,.binOp b t x y u,ty,pos,eG,gd⟩ g:=by
 cases b<;>first
  | exact fun h=>Zi x y m n t u hx hy h
  | exact fun h=>Zy x y m n t u hx hy h
  | exact fun h=>Zk x y m n t u hx hy h
  | exact fun h=>ZC x y m n t u hx hy h.1 h.2
  | exact fun h=>Y5 x y m n t u hx hy h
  | exact trivial
theorem ZK(b:BinOp)(k:IntKind)(m n:Int)(t u:TypeId)(x y:Operand)(hx:g.ev x= .d (.val (.int k m)))(hy:g.ev y= .d (.val (.int k n))) :
 (cop d ⟨da x++da y,[]⟩ b m n).Ok E.P ⟨some d,.binOp b t x y u,ty,pos,eG,gd⟩ g:=by
 cases b<;>first
  | exact Wr _ x y k m n _ t u hx hy rfl
  | exact trivial
theorem Zp(b:BinOp)(l m:List UInt8)(t u:TypeId)(x y:Operand)(hx:g.ev x= .d (.str l))(hy:g.ev y= .d (.str m)) :
 (sop d ⟨da x++da y,[]⟩ b l m).Ok E.P ⟨some d,.binOp b t x y u,ty,pos,eG,gd⟩ g:=by
 cases b<;>first
  | exact fun h=>ZB x y l m t u hx hy h
  | exact Wp _ x y l m _ t u hx hy rfl
  | exact trivial
theorem YQ(b:BinOp)(t u:TypeId)(x y:Operand):(bop E g d b t x y).Ok E.P ⟨some d,.binOp b t x y u,ty,pos,eG,gd⟩ g:=by
 unfold bop
 split
 ·rename_i k m k' n hx hy
  split
  ·rename_i hk
   have hk:=J2 hk
   subst hk
   split
   ·exact ZK b _ m n t u x y hx hy
   ·split
    ·rename_i hk
     have hk:=J2 hk
     subst hk
     exact ZA b m n t u x y hx hy
    ·trivial
  ·trivial
 ·rename_i l m hx hy
  exact Zp b l m t u x y hx hy
 ·rename_i m n hx hy
  split
  ·rename_i ti ht
   split
   ·rename_i kD
    exact ZE x y m n t u ti ht kD hx hy
   ·rename_i kD
    exact YN x y m n t u ti ht kD hx hy
   ·trivial
  ·trivial
 ·trivial
end
def T.pv:T→PV
 | .leaf d=>.d d
 | .ref j=>.acc j
 | .own _ _=>.any
def YA:List T→List PV
 | []=>[]
 | t::ts=>t.pv::YA ts
def ow(xs:List (List T))(i:Nat):List T:=xs.getD i []
def lF:List T→Bool
 | []=>true
 | .own _ _::_=>false
 | _::ts=>lF ts
def sj:List (List T)→Bool
 | []=>true
 | x::xs=>lF x&&sj xs
def toT:PV→Option T
 | .d x=>some (.leaf x)
 | .bZ=>some (.leaf (.dP []))
 | .acc j=>some (.ref j)
 | _=>none
def BR:List PV→Option (List T)
 | []=>some []
 | p::ps=>match toT p,BR ps with|some x,some xs=>some (x::xs)|_,_=>none
def Qf:List T→Nat
 | []=>0
 | _::as=>Qf as+1
theorem Ew:∀(l:List T),Qf l=l.length
 | []=>rfl
 | _::as=>by simp[Qf,Ew as]
theorem UD{xs:List (List T)}{i:Nat}(h:i<xs.length):xs[i]?=some (ow xs i):=by simp[ow,cC,ah h]
section
variable{P:Program}{w:World}{ok:Nat→Prop}{ν:Nat→Nm}{st:Nat→Option En}
theorem kC.pv{t:T}{v:Value}{F:List Nat}(h:kC P w ok ν st t v F):aF w ok ν st t.pv v:=by
 cases t with
 | leaf d=>simp only[kC] at h;simp only[T.pv,aF];exact h.1
 | ref j=>simp only[kC] at h;simp only[T.pv,aF];exact⟨h.1,h.2.1⟩
 | own e xs=>simp only[T.pv,aF]
theorem bf.pv:∀{ts:List T}{vs:List Value}{F:List Nat},bf P w ok ν st ts vs F→aB w ok ν st (YA ts) vs
 | [],[],_,_=>by simp[YA,aB]
 | [],_::_,_,h=>by simp[bf] at h
 | _::_,[],_,h=>by simp[bf] at h
 | t::ts,v::vs,F,h=>by
   simp only[bf] at h
   obtain⟨F1,F2,h1,h2,_⟩:=h
   simp only[YA,aB]
   exact⟨h1.pv,h2.pv⟩
theorem kC.one{t:T}{v:Value}{F:List Nat}(h:kC P w ok ν st t v F)(hν:∀k,(st k).isSome=true→(ν k).v.oneCell'=true):v.oneCell'=true:=by
 cases t with
 | leaf d=>simp only[kC] at h;exact h.1.one
 | ref j=>simp only[kC] at h;rw[h.2.1];exact hν j h.1
 | own e xs=>
   simp only[kC] at h
   obtain⟨us,F1,h1,_⟩:=h
   rcases h1.2 with⟨h2,_⟩|⟨b,c,cur,h2,_⟩<;>rw[h2]<;>rfl
theorem bf.one(hν:∀k,(st k).isSome=true→(ν k).v.oneCell'=true):∀{ts:List T}{vs:List Value}{F:List Nat},bf P w ok ν st ts vs F→∀v∈vs,v.oneCell'=true
 | [],[],_,_,v,hv=>by cases hv
 | [],_::_,_,h,_,_=>by simp[bf] at h
 | _::_,[],_,h,_,_=>by simp[bf] at h
 | t::ts,v::vs,F,h,u,hu=>by
   simp only[bf] at h
   obtain⟨F1,F2,h1,h2,_⟩:=h
   rcases ay.1 hu with rfl|hu
   ·exact h1.one hν
   ·exact bf.one hν h2 u hu
theorem bw.one(hν:∀k,(st k).isSome=true→(ν k).v.oneCell'=true):∀{xs:List (List T)}{us:List (List Value)}{F:List Nat},bw P w ok ν st xs us F→∀u∈us,∀v∈u,v.oneCell'=true
 | [],[],_,_,v,hv=>by cases hv
 | [],_::_,_,h,_,_=>by simp[bw] at h
 | _::_,[],_,h,_,_=>by simp[bw] at h
 | t::ts,v::vs,F,h,u,hu=>by
   simp only[bw] at h
   obtain⟨F1,F2,h1,h2,_⟩:=h
   rcases ay.1 hu with rfl|hu
   ·exact h1.one hν
   ·exact bw.one hν h2 u hu
theorem bf.len:∀{ts:List T}{vs:List Value}{F:List Nat},bf P w ok ν st ts vs F→vs.length=ts.length
 | [],[],_,_=>rfl
 | [],_::_,_,h=>by simp[bf] at h
 | _::_,[],_,h=>by simp[bf] at h
 | t::ts,v::vs,F,h=>by
   simp only[bf] at h
   obtain⟨F1,F2,_,h2,_⟩:=h
   simp[h2.len]
theorem bw.len:∀{ts:List (List T)}{vs:List (List Value)}{F:List Nat},bw P w ok ν st ts vs F→vs.length=ts.length
 | [],[],_,_=>rfl
 | [],_::_,_,h=>by simp[bw] at h
 | _::_,[],_,h=>by simp[bw] at h
 | t::ts,v::vs,F,h=>by
   simp only[bw] at h
   obtain⟨F1,F2,_,h2,_⟩:=h
   simp[h2.len]
theorem bf.append:∀{x y:List T}{u v:List Value}{F G:List Nat},bf P w ok ν st x u F→bf P w ok ν st y v G→bf P w ok ν st (x++y) (u++v) (F++G)
 | [],y,[],v,F,G,h,h'=>by simp only[bf] at h;subst h;simpa using h'
 | [],_,_::_,_,_,_,h,_=>by simp[bf] at h
 | _::_,_,[],_,_,_,h,_=>by simp[bf] at h
 | t::ts,y,a::u,v,F,G,h,h'=>by
   simp only[bf] at h
   obtain⟨F1,F2,h1,h2,rfl⟩:=h
   simp only[bz,bf]
   exact⟨F1,F2++G,h1,h2.append h',by rw[bm]⟩
theorem bw.append:∀{x y:List (List T)}{u v:List (List Value)}{F G:List Nat},bw P w ok ν st x u F→bw P w ok ν st y v G→bw P w ok ν st (x++y) (u++v) (F++G)
 | [],y,[],v,F,G,h,h'=>by simp only[bw] at h;subst h;simpa using h'
 | [],_,_::_,_,_,_,h,_=>by simp[bw] at h
 | _::_,_,[],_,_,_,h,_=>by simp[bw] at h
 | t::ts,y,a::u,v,F,G,h,h'=>by
   simp only[bw] at h
   obtain⟨F1,F2,h1,h2,rfl⟩:=h
   simp only[bz,bw]
   exact⟨F1,F2++G,h1,h2.append h',by rw[bm]⟩
theorem bf.split:∀(n:Nat){x:List T}{u:List Value}{F:List Nat},bf P w ok ν st x u F→∃F1 F2,bf P w ok ν st (x.take n) (u.take n) F1∧bf P w ok ν st (x.drop n) (u.drop n) F2∧F=F1++F2
 | 0,x,u,F,h=>⟨[],F,by simp[bf],by simpa using h,rfl⟩
 | n+1,[],[],F,h=>⟨[],F,by simp[bf],by simpa using h,rfl⟩
 | _+1,[],_::_,_,h=>by simp[bf] at h
 | _+1,_::_,[],_,h=>by simp[bf] at h
 | n+1,t::ts,a::u,F,h=>by
   simp only[bf] at h
   obtain⟨F1,F2,h1,h2,rfl⟩:=h
   obtain⟨G1,G2,k1,k2,rfl⟩:=bf.split n h2
   refine⟨F1++G1,G2,?_,by simpa using k2,by rw[bm]⟩
   simp only[dH,bf]
   exact⟨F1,G1,h1,k1,rfl⟩
theorem D8:∀{x:List T}{u:List Value}{F:List Nat},bf P w ok ν st x u F→lF x=true→F=[]
 | [],[],F,h,_=>by simpa only[bf] using h
 | [],_::_,_,h,_=>by simp[bf] at h
 | _::_,[],_,h,_=>by simp[bf] at h
 | t::ts,a::u,F,h,hn=>by
   simp only[bf] at h
   obtain⟨F1,F2,h1,h2,rfl⟩:=h
   cases t with
   | leaf d=>simp only[kC] at h1;simp only[lF] at hn;rw[h1.2,D8 h2 hn];rfl
   | ref j=>simp only[kC] at h1;simp only[lF] at hn;rw[h1.2.2,D8 h2 hn];rfl
   | own e xs=>simp[lF] at hn
theorem LG:∀{x:List (List T)}{u:List (List Value)}{F:List Nat},bw P w ok ν st x u F→sj x=true→F=[]
 | [],[],F,h,_=>by simpa only[bw] using h
 | [],_::_,_,h,_=>by simp[bw] at h
 | _::_,[],_,h,_=>by simp[bw] at h
 | t::ts,a::u,F,h,hn=>by
   simp only[bw] at h
   obtain⟨F1,F2,h1,h2,rfl⟩:=h
   simp only[sj,ai] at hn
   rw[D8 h1 hn.1,LG h2 hn.2]
   rfl
theorem bw.get:∀(i:Nat){xs:List (List T)}{us:List (List Value)}{F:List Nat},bw P w ok ν st xs us F→i<xs.length →
 ∃u G,us[i]?=some u∧bf P w ok ν st (ow xs i) u G∧∀(x':List T)(u':List Value),bf P w ok ν st x' u' G→bw P w ok ν st (xs.set i x') (us.set i u') F
 | _,[],_,_,_,hi=>by simp at hi
 | _,_::_,[],_,h,_=>by simp[bw] at h
 | 0,x::xs,u::us,F,h,_=>by
   simp only[bw] at h
   obtain⟨F1,F2,h1,h2,rfl⟩:=h
   refine⟨u,F1,rfl,h1,fun x' u' h'=>?_⟩
   simp only[ir,bw]
   exact⟨F1,F2,h',h2,rfl⟩
 | i+1,x::xs,u::us,F,h,hi=>by
   simp only[bw] at h
   obtain⟨F1,F2,h1,h2,rfl⟩:=h
   obtain⟨u1,G,k1,k2,k3⟩:=bw.get i h2 (by simpa using hi)
   refine⟨u1,G,by simpa using k1,by simpa[ow] using k2,fun x' u' h'=>?_⟩
   simp only[nT,bw]
   exact⟨F1,F2,h1,k3 x' u' h',rfl⟩
theorem NL:∀{ps:List PV}{ts:List T},BR ps=some ts→ts.length=ps.length
 | [],ts,h=>by simp[BR] at h;simp[←h]
 | p::ps,ts,h=>by
   simp only[BR] at h
   split at h
   ·rename_i x xs h1 h2
    obtain rfl:=Option.some.inj h
    simp[NL h2]
   ·cases h
theorem KP:∀{ps:List PV}{ts:List T}{vs:List Value},aB w ok ν st ps vs→BR ps=some ts→bf P w ok ν st ts vs []
 | [],ts,[],_,h=>by simp only[BR,Option.some.injEq] at h;subst h;simp only[bf]
 | [],_,_::_,h,_=>by simp[aB] at h
 | _::_,_,[],h,_=>by simp[aB] at h
 | p::ps,ts,v::vs,h,ht=>by
   simp only[BR] at ht
   simp only[aB] at h
   split at ht
   ·rename_i x xs h1 h2
    obtain rfl:=Option.some.inj ht
    simp only[bf]
    refine⟨[],[],?_,KP h.2 h2,rfl⟩
    have hp:=h.1
    cases p<;>simp only[toT] at h1<;>first|(cases h1;done)|skip
    ·obtain rfl:=Option.some.inj h1
     simp only[aF] at hp
     subst hp
     simp only[kC,and_true]
     exact .nil
    ·obtain rfl:=Option.some.inj h1
     simp only[aF] at hp
     simp only[kC,and_true]
     exact hp
    ·obtain rfl:=Option.some.inj h1
     simp only[aF] at hp
     simp only[kC,and_true]
     exact hp
   ·cases ht
theorem Kq:∀{xs:List (List D)}{us:List (List Value)}{sz:Nat},cg w ok sz xs us→bw P w ok ν st (lift xs) us []
 | [],us,sz,h=>by
   have:us=[]:=bE h.len
   subst this
   simp only[lift,dt,bw]
 | x::xs,[],sz,h=>by have:=h.len;simp at this
 | x::xs,u::us,sz,h=>by
   have h1:∀(x:List D)(u:List Value),x.length=u.length→(∀(j:Nat)(d:D)(v:Value),x[j]?=some d→u[j]?=some v→hU w ok d v)→bf P w ok ν st (x.map T.leaf) u []:=by
    intro x
    induction x with
    | nil=>intro u hl _;cases u with
      | nil=>simp[bf]
      | cons a b=>simp at hl
    | cons d x ih=>intro u hl hr;cases u with
      | nil=>simp at hl
      | cons v u=>
        simp only[aQ,bf,kC]
        exact⟨[],[],⟨hr 0 d v rfl rfl,rfl⟩,ih u (by simpa using hl) fun j d' v' k1 k2=>hr (j+1) d' v' (by simpa using k1) (by simpa using k2),rfl⟩
   have h2:cg w ok sz xs us:=⟨by simpa using h.len,fun i y hy=>h.hx (i+1) y (by simpa using hy),fun i y hy=>h.hu (i+1) y (by simpa using hy),fun i j y u d v k1 k2 k3 k4=>h.hr (i+1) j y u d v (by simpa using k1) (by simpa using k2) k3 k4⟩
   have:=Kq h2
   simp only[lift,aQ,bw] at this⊢
   exact⟨[],[],h1 x u (by rw[h.hx 0 x rfl,h.hu 0 u rfl]) fun j d v k1 k2=>h.hr 0 j x u d v rfl rfl k1 k2,this,rfl⟩
theorem wQ{sz:Nat}{us:List (List Value)}(hu:∀(i:Nat)(u:List Value),us[i]?=some u→u.length=sz)(h1:∀u∈us,∀v∈u,v.oneCell'=true):cg w ok sz (us.map fun u=>u.map D.val) us:=by
 refine⟨by simp,fun i x hx=>?_,hu,fun i j x u d v k1 k2 k3 k4=>?_⟩
 ·rw[gW] at hx
  cases hq:us[i]? with
  | none=>rw[hq] at hx;cases hx
  | some u=>rw[hq] at hx;obtain rfl:=Option.some.inj hx;simp[hu i u hq]
 ·rw[gW,k2] at k1
  obtain rfl:=Option.some.inj k1
  rw[gW,k4] at k3
  obtain rfl:=Option.some.inj k3
  exact .val v (h1 u (cM k2) v (cM k4))
end
section
variable{P:Program}{X:Cx}{ν:Nat→Nm}{g:G}{a:Act}{w:World}
theorem uV(h:Sat P X ν g a w){k e:Nat}{xs:List (List T)}(hk:g.at k=some (.fg e xs)):∃us:List (List Value),w.ownsRow 0 e (P.cellsOf e) (ν k).v xs.length us.flatten ∧
 (∀(i:Nat)(u:List Value),us[i]?=some u→u.length=P.cellsOf e)∧bw P w (ct X ν g.at) ν g.at xs us (ν k).f∧xs.length≤LB∧(hb (ν k).v++(ν k).f).Nodup:=by
 obtain⟨h1,h2⟩:=h.en k _ hk
 simp only[kC] at h1
 obtain⟨us,F1,k1,k2,k3,k4,k5⟩:=h1
 have:F1=(ν k).f:=(List.append_cancel_left k5).symm
 exact⟨us,k1,k2,this▸k3,k4,h2⟩
theorem zi{ok:Nat→Prop}{st:Nat→Option En}{k e:Nat}{xs:List (List T)}{us:List (List Value)}(h1:w.ownsRow 0 e (P.cellsOf e) (ν k).v xs.length us.flatten)
 (h2:∀(i:Nat)(u:List Value),us[i]?=some u→u.length=P.cellsOf e) (h3:bw P w ok ν st xs us (ν k).f) (h4:xs.length≤LB) (h5:(hb (ν k).v++(ν k).f).Nodup):kX P w ok ν st k (.fg e xs):=by
 refine⟨?_,h5⟩
 simp only[kC]
 exact⟨us,(ν k).f,h1,h2,h3,h4,rfl⟩
theorem RF(h:Sat P X ν g a w){k e:Nat}{xs:List (List T)}(hk:g.at k=some (.fg e xs)):∃b c,(ν k).v= .slice b xs.length c:=by
 obtain⟨us,ho,_⟩:=uV h hk
 rcases ho.2 with⟨h1,h2⟩|⟨b,cap,cur,h1,_⟩
 ·exact⟨none,0,by rw[h1,h2]⟩
 ·exact⟨_,cap,h1⟩
theorem pd:∀(l:List (Option En))(k:Nat)(x y:Option En),cZ (cZ l k x) k y=cZ l k y
 | [],0,_,_=>rfl
 | [],n+1,x,y=>by simp[cZ,pd [] n x y]
 | _::_,0,_,_=>rfl
 | a::as,n+1,x,y=>by simp[cZ,pd as n x y]
theorem Sat.lift(h:Sat P X ν g a w){k e:Nat}{xs:List (List D)}(hk:g.at k=some (.acc e xs)):Sat P X ν ⟨g.sl,cZ g.st k (some (.fg e (lift xs)))⟩ a w:=by
 have:=h.Cj (w':=w) k (.acc e xs) (.fg e (Eng.lift xs)) hk rfl (rZ.refl _ w) none .undef Go.undef ?_ (fun h=>by cases h)
 ·exact this
 ·intro hw hm
  obtain⟨us,ho,jf,hB,hf0⟩:=h.en k _ hk
  have hl:(Eng.lift xs).length=xs.length:=by simp[Eng.lift]
  refine zi (us:=us) (by rw[hl];exact ho) (fun i u hu=>jf.hu i u hu) ?_ (by rw[hl];exact hB) ?_
  ·rw[hf0]
   exact Kq (jf.frame hw (aI _))
  ·rw[hf0,bF]
   unfold hb
   split<;>simp
end
section
variable{E:Env}{g:G}{d:Nat}{ty:TypeId}{pos:String}{eG:Array Edge}{gd:Option (Nat×Bool)}{dn:Option Nat}
theorem LJ(x:Operand)(t k i off sz e:Nat)(ti ei:TI)(xs:List (List T))(ht:E.ti t=some ti)(he:E.ti e=some ei)(hsz:sz=ei.n)(hx:g.ev x= .gE k i off sz)(hk:g.at k=some (.fg e xs))
 (hi:i<xs.length) (hl:off+ti.n≤(ow xs i).length) :
 kG E.P ⟨some d,.load t x,ty,pos,eG,gd⟩ g ⟨da x,[k]⟩ ⟨some (d,QW ti.isAgg (((YA (ow xs i)).drop off).take ti.n)),[]⟩:=by
 intro g2 hg
 have h1:=hg.ev (x:=x) (fun t h=>h)
 have h3:=(hg.p k (by simp)).trans hk
 refine CS.val rfl fun X ν a w hs=>?_
 have hv:=hs.ev x
 rw[h1,hx] at hv
 simp only[aF] at hv
 obtain⟨_,b,n,c,hb,hv⟩:=hv
 obtain⟨us,ho,hul,hr,_⟩:=uV hs h3
 have hcell:=pR ho hb
 rw[(E.ok e ei he).cells] at hul
 obtain⟨u,G,hu,hc,_⟩:=hr.get i hi
 have oh:=hc.pv
 have hlenu:=hc.len
 have hrep':=(oh.drop off).take ti.n
 have dy:((u.drop off).take ti.n).length=ti.n:=by simp;omega
 have hca:jN w b (i*ei.n+off) ((u.drop off).take ti.n):=by
  have h0:=hcell.sub (us':=(u.drop off).take ti.n) (i*ei.n+off) (fun j x hx=>by
   rw[cV] at hx
   split at hx
   ·rw[dv] at hx
    have:=A0 us i (off+j) u x hul hu hx
    rw[Nat.add_assoc];exact this
   ·cases hx)
  simpa using h0
 subst hsz
 obtain⟨v,lD,hvv⟩:=qq (E.ok t ti ht) w b _ _ dy hca
 refine⟨v,?_,xT hrep' hvv⟩
 simp only[execOp,hv,Instr.loadAt,Instr.sureAddr,Sem.run_bind,Sem.run_pure,Result.andThen_ok,lD]
theorem PK(x y:Operand)(s:Nat)(si ei:TI)(e k:Nat)(xs:List (List T))(n:Int)(hs:E.ti s=some si)(o5:si.ty= .slice e)(he:E.ti e=some ei)(hx:g.ev x= .acc k)(hk:g.at k=some (.fg e xs))(hy:g.ev y= .d (.val (.int .i64 n)))
 (h0:0≤n) (mr:n.toNat<xs.length) :
 kG E.P ⟨some d,.indexAddr s x y,ty,pos,eG,gd⟩ g ⟨da x++da y,[k]⟩ ⟨some (d,.gE k n.toNat 0 ei.n),[]⟩:=by
 intro g2 hg
 have h1:=hg.ev (x:=x) (fun t h=>by simp[h])
 have h2:=hg.ev (x:=y) (fun t h=>by simp[h])
 have h3:=(hg.p k (by simp)).trans hk
 refine CS.val rfl fun X ν a w hs'=>?_
 have hu:=(E.ok s si hs).ty
 rw[o5] at hu
 have hv:=hs'.ev x
 rw[h1,hx] at hv
 have m7:=hs'.ev y
 rw[h2,hy] at m7
 have m7:=fL m7
 simp only[aF] at hv⊢
 obtain⟨us,ho,_⟩:=uV hs' h3
 rcases ho.2 with⟨_,hn⟩|⟨b,cap,cur,hb,_⟩
 ·omega
 ·have hlt':n<(xs.length:Int):=by omega
  refine⟨.pointer (some ⟨b,n.toNat*ei.n,none⟩),?_,by rw[h3];rfl,b,xs.length,cap,hb,rfl⟩
  simp[execOp,hv.2,hb,m7,Instr.indexAt,asIntOf,run_underlying hu,h0,hlt',(E.ok e ei he).size,add_lit]
theorem PO(x:Operand)(s:Nat)(si:TI)(e' e k:Nat)(xs:List (List T))(hs:E.ti s=some si)(o5:si.ty= .slice e')(hx:g.ev x= .acc k)(hk:g.at k=some (.fg e xs)) :
 kG E.P ⟨some d,.call ⟨.builtin .len,#[x],#[s]⟩,ty,pos,eG,gd⟩ g ⟨da x,[k]⟩ ⟨some (d,.d (.val (.int .i64 (xs.length:Int)))),[]⟩:=by
 intro g2 hg
 have h1:=hg.ev (x:=x) (fun t h=>h)
 have h3:=(hg.p k (by simp)).trans hk
 refine CS.val rfl fun X ν a w hs'=>?_
 have hu:=(E.ok s si hs).ty
 rw[o5] at hu
 have hv:=hs'.ev x
 rw[h1,hx] at hv
 simp only[aF] at hv
 obtain⟨b,c,hb⟩:=RF hs' h3
 exact⟨_,wX rfl a w _ (by rw[hv.2,hb];exact run_len_slice hu _ _ _ _ _),nN rfl⟩
theorem Az(x y:Operand)(t k i off sz e:Nat)(ti ei:TI)(xs:List (List T))(p:PV)(cs:List T)(ht:E.ti t=some ti)(he:E.ti e=some ei)(hsz:sz=ei.n)(hx:g.ev x= .gE k i off sz)(hk:g.at k=some (.fg e xs))(hy:g.ev y=p)
 (hi:i<xs.length) (hl:off+ti.n≤ei.n) (hp:p.whole=true) (hn:(eh p).length=ti.n) (hcs:BR (eh p)=some cs) (hno:lF (((ow xs i).drop off).take ti.n)=true) :
 kG E.P ⟨dn,.store t x y,ty,pos,eG,gd⟩ g ⟨da x++da y++dn.toList,[k]⟩ ⟨dn.map fun d=>(d,.undef),[(k,.fg e (xs.set i (sr (ow xs i) off cs)))]⟩:=by
 intro g2 hg
 have e1:=hg.ev (x:=x) (fun t h=>by simp[h])
 have e2:=hg.ev (x:=y) (fun t h=>by simp[h])
 have h3:=(hg.p k (by simp)).trans hk
 intro X ν a w next Q hs hnx
 have hv:=hs.ev x
 rw[e1,hx] at hv
 have hw:=hs.ev y
 rw[e2,hy] at hw
 simp only[aF] at hv
 obtain⟨_,b,n,c,hb,hv⟩:=hv
 obtain⟨us,ho,hul,jf,hB,hnd⟩:=uV hs h3
 have pM:=hw.cells hp hs.nu
 have dy:=pM.length
 have htc:=KP (P:=E.P) pM hcs
 rw[(E.ok e ei he).cells] at hul ho
 subst hsz
 rcases ho.2 with⟨h1,h2⟩|⟨b',cap,cur,h1,_,h2,h4,h5,h6,h7⟩
 ·omega
 ·rw[h1] at hb
  obtain⟨rfl,rfl,rfl⟩:b'=b∧xs.length=n∧cap=c:=by simpa using hb
  have hull:us.length=xs.length:=jf.len
  have hfl:=(wQ (w:=w) (ok:=fun _=>True) hul (jf.one hs.nu)).kT
  rw[dw] at hfl
  have hmulle:(i+1)*ei.n≤xs.length*ei.n:=bP _ hi
  have hmulle2:xs.length*ei.n≤cap*ei.n:=bP _ h4
  have hadd:(i+1)*ei.n=i*ei.n+ei.n:=by rw[cQ];omega
  have hone:∀u∈(a.eval y).cells.toList,u.oneCell'=true:=htc.one hs.nu
  have hvl:(a.eval y).cells.toList.length=ti.n:=by rw[dy,hn]
  have lD:=uC (E.ok t ti ht) w b' (i*ei.n+off) e cur (a.eval y) h2 hvl (by omega) hone
  have hr:(execOp a.eval ⟨dn,.store t x y,ty,pos,eG,gd⟩).run E.P w= .ok .skip (w.setRow b' (cur.toList.take (i*ei.n+off)++(a.eval y).cells.toList++cur.toList.drop (i*ei.n+off+(a.eval y).cells.toList.length)).toArray):=by
   simp only[execOp,hv,Instr.storeAt,Instr.sureAddr,Sem.run_bind,Sem.run_pure,Result.andThen_ok,lD]
  have hcur:cur.toList=us.flatten++cur.toList.drop (xs.length*ei.n):=by rw[←h7];exact(ic _ _).symm
  have hnew:cur.toList.take (i*ei.n+off)++(a.eval y).cells.toList++cur.toList.drop (i*ei.n+off+(a.eval y).cells.toList.length)=(us.set i (sr (us.getD i []) off (a.eval y).cells.toList)).flatten++cur.toList.drop (xs.length*ei.n):=by
   have:=GA us i off (a.eval y).cells.toList (cur.toList.drop (xs.length*ei.n)) hul (by omega) (by omega)
   rw[←hcur] at this
   rw[←this,bm]
   rfl
  obtain⟨u,G,hu,hc,hset⟩:=jf.get i hi
  have hug:us.getD i []=u:=by simp[cC,hu]
  have huil:=hul i u hu
  have hxil:(ow xs i).length=ei.n:=by rw[←hc.len];exact huil
  have hcsl:cs.length=ti.n:=by rw[NL hcs,hn]
  obtain⟨G1,G2,c1,c2,rfl⟩:=hc.split off
  obtain⟨G3,G4,c3,c4,rfl⟩:=c2.split ti.n
  have hG3:G3=[]:=D8 c3 hno
  subst hG3
  have qD:=hset (sr (ow xs i) off cs) (sr u off (a.eval y).cells.toList) (by
   unfold sr
   refine c1.append ?_
   refine htc.append ?_
   rw[mP,mP] at c4
   rw[hcsl,hvl]
   exact c4)
  rw[←hug] at qD
  have hul':∀(j:Nat)(z:List Value),(us.set i (sr (us.getD i []) off (a.eval y).cells.toList))[j]?=some z→z.length=ei.n:=by
   intro j z hz
   rw[kn] at hz
   by_cases hij:i=j
   ·subst hij
    rw[if_pos rfl,if_pos (by omega)] at hz
    obtain rfl:=Option.some.inj hz
    rw[hug,J5 _ _ _ (by rw[huil,hvl];exact hl),huil]
   ·rw[if_neg hij] at hz
    exact hul j z hz
  have hf2:=(wQ (w:=w) (ok:=fun _=>True) hul' (qD.one hs.nu)).kT
  rw[dw,jh] at hf2
  have hbF:∀b∈(ν k).f,b≠b':=by
   intro b hbf hbe
   rw[h1] at hnd
   exact(df.1 hnd).2.2 b' (BQ.2 rfl) b hbf hbe.symm
  unfold Oper.wp
  rw[hr,Oper.upon_skip,hnew]
  refine hnx _ _ _ (hs.Cj k (.fg e xs) (.fg e (xs.set i (sr (ow xs i) off cs))) h3 rfl (kq w b' _ _ (.inl (by rw[h1];rfl))) dn .undef Go.undef ?_ ?_)
  ·intro hwf hm
   refine zi (us:=us.set i (sr (us.getD i []) off (a.eval y).cells.toList)) ?_ ?_ ?_ (by simpa using hB) hnd
   ·rw[(E.ok e ei he).cells,h1]
    rw[hull] at hfl hf2
    refine⟨by rw[hf2,jh],.inr ⟨b',cap,_,by simp,bh _,setRow_heap w b' _ _ e _ h2,by simpa using h4,h5,?_,?_⟩⟩
    ·simp only[dW,aX,hf2,eH,fh,h6]
     omega
    ·rw[jh,bW (by rw[hf2];exact aI _),ao (by rw[hf2];exact aI _)]
   ·rw[(E.ok e ei he).cells];exact hul'
   ·refine qD.frame hwf (by simp[World.setRow]) hm _ _ _ fun b hb=>?_
    have jv:=hbF b hb
    exact(kq w b' _ (fun c=>c=b') rfl).block b (jf.lt _ _ _ b hb) jv
  ·intro _
   simp only[aF]
theorem y7:∀(x:List D),lF (x.map T.leaf)=true
 | []=>rfl
 | d::x=>by simp[lF,y7 x]
theorem SS:∀{x:List T}(n m:Nat),lF x=true→lF ((x.drop n).take m)=true:=by
 have h1:∀(x:List T)(n:Nat),lF x=true→lF (x.drop n)=true:=by
  intro x
  induction x with
  | nil=>intro n h;simpa using h
  | cons t x ih=>
    intro n h
    cases n with
    | zero=>exact h
    | succ n=>
      cases t with
      | own e xs=>simp[lF] at h
      | leaf d=>exact ih n (by simpa[lF] using h)
      | ref d=>exact ih n (by simpa[lF] using h)
 have h2:∀(x:List T)(n:Nat),lF x=true→lF (x.take n)=true:=by
  intro x
  induction x with
  | nil=>intro n h;simpa using h
  | cons t x ih=>
    intro n h
    cases n with
    | zero=>rfl
    | succ n=>
      cases t with
      | own e xs=>simp[lF] at h
      | leaf d=>simpa[lF] using ih n (by simpa[lF] using h)
      | ref d=>simpa[lF] using ih n (by simpa[lF] using h)
 intro x n m h
 exact h2 _ m (h1 _ n h)
theorem Vc(xs:List (List D))(i:Nat):ow (lift xs) i=(row xs i).map T.leaf:=by
 unfold ow lift row
 simp only[List.getD_eq_getElem?_getD,gW]
 cases xs[i]?<;>rfl
theorem Cw:∀(xs:List (List D)),sj (lift xs)=true
 | []=>rfl
 | x::xs=>by
   have:=Cw xs
   simp only[lift,aQ,sj,ai] at this⊢
   exact⟨y7 x,this⟩
theorem Kd(x y:Operand)(t k i off sz e:Nat)(ti ei:TI)(xs:List (List D))(p:PV)(cs:List T)(ht:E.ti t=some ti)(he:E.ti e=some ei)(hsz:sz=ei.n)(hx:g.ev x= .gE k i off sz)(hk:g.at k=some (.acc e xs))(hy:g.ev y=p)
 (hi:i<xs.length) (hl:off+ti.n≤ei.n) (hp:p.whole=true) (hn:(eh p).length=ti.n) (hcs:BR (eh p)=some cs) :
 kG E.P ⟨dn,.store t x y,ty,pos,eG,gd⟩ g ⟨da x++da y++dn.toList,[k]⟩ ⟨dn.map fun d=>(d,.undef),[(k,.fg e ((lift xs).set i (sr (ow (lift xs) i) off cs)))]⟩:=by
 intro g2 hg X ν a w next Q hs hnx
 have e1:=hg.ev (x:=x) (fun t h=>by simp[h])
 have e2:=hg.ev (x:=y) (fun t h=>by simp[h])
 have h3:=(hg.p k (by simp)).trans hk
 have hs2:=hs.lift h3
 have hev:∀z,(⟨g2.sl,cZ g2.st k (some (.fg e (lift xs)))⟩:G).ev z=g2.ev z:=fun z=>by cases z<;>rfl
 refine Az (g:=⟨g2.sl,cZ g2.st k (some (.fg e (lift xs)))⟩) x y t k i off sz e ti ei (lift xs) p cs ht he hsz (by rw[hev,e1];exact hx) ?_ (by rw[hev,e2];exact hy) (by rw[rB];exact hi) hl hp hn hcs ?_ _ ⟨fun _ _=>rfl,fun _ _=>rfl⟩ X ν a w next Q hs2 ?_
 ·rw[uU,if_pos rfl]
 ·rw[Vc]
  exact SS _ _ (y7 _)
 ·intro ν' a' w' h
  refine hnx ν' a' w' ?_
  simpa only[G.app,xD,pd] using h
end
section
variable{E:Env}{g:G}{d:Nat}{ty:TypeId}{pos:String}{eG:Array Edge}{gd:Option (Nat×Bool)}{dn:Option Nat}
def JF(E:Env)(sz:Nat)(g:G)(p:PV)(ys:List (List T)):Prop:=
 (∃ys',wB E sz g p ys'∧ys=lift ys')∨(∃m e ei,p= .acc m∧g.at m=some (.fg e ys)∧E.ti e=some ei∧ei.n=sz∧sj ys=true)
theorem JF.agree{R:Rd}{g g2:G}(h:A3 R g g2){sz:Nat}{p:PV}{ys:List (List T)}(hp:∀k∈x9 p,k∈R.p)(ha:JF E sz g p ys):JF E sz g2 p ys:=by
 rcases ha with⟨ys',h1,h2⟩|⟨m,e,ei,rfl,hk,he,hz⟩
 ·exact .inl ⟨ys',h1.agree h hp,h2⟩
 ·exact .inr ⟨m,e,ei,rfl,(h.p m (hp m (by simp[x9]))).trans hk,he,hz⟩
theorem Fc{X:Cx}{ν:Nat→Nm}{g:G}{a:Act}{w:World}{sz:Nat}{p:PV}{ys:List (List T)}{v:Value}(h:Sat E.P X ν g a w)(ha:JF E sz g p ys)(hv:aF w (ct X ν g.at) ν g.at p v) :
 ∃vs:List (List Value),bw E.P w (ct X ν g.at) ν g.at ys vs []∧(∀(i:Nat)(u:List Value),vs[i]?=some u→u.length=sz)∧xJ w v vs∧ys.length≤LB:=by
 rcases ha with⟨ys',h1,rfl⟩|⟨m,e,ei,rfl,hk,he,hz,hn⟩
 ·obtain⟨vs,h2,h3,h4⟩:=vD (P0:=E.P) h h1 hv
  exact⟨vs,Kq h2,h2.hu,h3,by rw[rB];exact h4⟩
 ·simp only[aF] at hv
  obtain⟨us,ho,hul,jf,hB,hnd⟩:=uV h hk
  have hf:=LG jf hn
  rw[hf] at jf
  refine⟨us,jf,fun i u hu=>by rw[←hz,← (E.ok e ei he).cells];exact hul i u hu,?_,hB⟩
  rw[hv.2]
  have hl:=jf.len
  rcases ho.2 with⟨h1,h2⟩|⟨b,cap,cur,h1,_⟩
  ·left
   refine⟨⟨none,0,h1⟩,bE (by rw[hl];exact h2)⟩
  ·right
   exact⟨b,0,cap,by rw[h1,hl],pR ho h1⟩
theorem GZ{v:Value}{F:List Nat}(hF:F.Nodup)(h:∀b,vN v=some b→b∉F):(hb v++F).Nodup:=by
 unfold hb
 cases hv:vN v with
 | none=>simpa using hF
 | some b=>simpa using ⟨h b hv,hF⟩
theorem row_one{w:World}{e sz n:Nat}{v:Value}{us:List Value}(h:w.ownsRow 0 e sz v n us):v.oneCell'=true:=by
 rcases h.2 with⟨h,_⟩|⟨b,c,cur,h,_⟩<;>rw[h]<;>rfl
theorem EB(s x:Operand)(t e k':Nat)(ti ei:TI)(p:PV)(ys:List (List T))(ht:E.ti t=some ti)(kD:ti.ty= .slice e)(he:E.ti e=some ei)(hs:g.ev s= .bZ)(hx:g.ev x=p)(ha:JF E ei.n g p ys)(hk':g.at k'=none)
 (hlb:ys.length≤LB) (hby:ys.length*ei.bytes≤140737488355328) :
 kG E.P ⟨some d,.call ⟨.builtin .append,#[s,x],#[t,t]⟩,ty,pos,eG,gd⟩ g ⟨da s++da x,k'::x9 p⟩ ⟨some (d,.acc k'),[(k',.fg e ys)]⟩:=by
 intro g2 hg
 have e1:=hg.ev (x:=s) (fun t h=>by simp[h])
 have e2:=hg.ev (x:=x) (fun t h=>by simp[h])
 have h3:=(hg.p k' (by simp)).trans hk'
 have ha2:=ha.agree hg (fun k h=>by simp[h])
 intro X ν a w next Q gD hn
 have hv:=gD.ev s
 rw[e1,hs] at hv
 have m7:=gD.ev x
 rw[e2,hx] at m7
 simp only[aF] at hv
 obtain⟨vs,htr,hul,hsl,_⟩:=Fc gD ha2 m7
 have hraw:=wQ (w:=w) (ok:=fun _=>True) hul (htr.one gD.nu)
 have hl:=htr.len
 obtain⟨v',w',k1,k2,k3,k4⟩:=oj ht kD he w ty (.slice none 0 0) (a.eval x) 0 [] _ vs _ (World.ownsRow_nil w 0 e ei.n) hraw hsl (by simpa[hl] using hlb) (by simpa[hl] using hby)
 have hr:=sK (E:=E) (o:=⟨some d,.call ⟨.builtin .append,#[s,x],#[t,t]⟩,ty,pos,eG,gd⟩) rfl a w w' v' (by rw[hv];exact k1)
 unfold Oper.wp
 rw[hr,Oper.upon_value]
 simp only[c9,bB,dw,hl] at k2
 refine hn _ _ _ (gD.wy (k3.mono fun b hb _=>by simp[vN] at hb) k' h3 (.fg e ys) ⟨v',[]⟩ (row_one k2) (fun b hb=>(k4 b ((kg rfl).1 hb)).resolve_left (by simp[vN])) d _ _ ?_ ?_)
 ·intro ok st ν' hν hw hm
  refine zi (us:=vs) (by rw[hν,(E.ok e ei he).cells];exact k2) (by rw[(E.ok e ei he).cells];exact hul) ?_ hlb (by rw[hν];exact GZ List.nodup_nil (by simp))
  rw[hν]
  exact htr.frame hw k3.size hm _ _ _ (by simp)
 ·intro ok st ν' hν ju hw hm
  simp only[aF]
  exact⟨by rw[ju];rfl,by rw[hν]⟩
theorem rI(s x:Operand)(t e k k':Nat)(ti ei:TI)(p:PV)(xs ys:List (List T))(ht:E.ti t=some ti)(kD:ti.ty= .slice e)(he:E.ti e=some ei)(hs:g.ev s= .acc k)(hk:g.at k=some (.fg e xs))(hx:g.ev x=p)(ha:JF E ei.n g p ys)(hk':g.at k'=none)
 (hlb:xs.length+ys.length≤LB) (hby:(xs.length+ys.length)*ei.bytes≤140737488355328) :
 kG E.P ⟨some d,.call ⟨.builtin .append,#[s,x],#[t,t]⟩,ty,pos,eG,gd⟩ g ⟨da s++da x,k::k'::x9 p⟩ ⟨some (d,.acc k'),[(k,.dead),(k',.fg e (xs++ys))]⟩:=by
 intro g2 hg
 have e1:=hg.ev (x:=s) (fun t h=>by simp[h])
 have e2:=hg.ev (x:=x) (fun t h=>by simp[h])
 have h2:=(hg.p k (by simp)).trans hk
 have h3:=(hg.p k' (by simp)).trans hk'
 have ha2:=ha.agree hg (fun k h=>by simp[h])
 intro X ν a w next Q gD hn
 have hv:=gD.ev s
 rw[e1,hs] at hv
 have m7:=gD.ev x
 rw[e2,hx] at m7
 simp only[aF] at hv
 obtain⟨vs,htr,hul,hsl,_⟩:=Fc gD ha2 m7
 have hraw:=wQ (w:=w) (ok:=fun _=>True) hul (htr.one gD.nu)
 have hl:=htr.len
 obtain⟨us,il,huu,hru,hB,hnd⟩:=uV gD h2
 rw[(E.ok e ei he).cells] at il huu
 obtain⟨v',w',k1,k2,k3,k4⟩:=oj ht kD he w ty (ν k).v (a.eval x) xs.length us.flatten _ vs _ il hraw hsl (by simpa[hl] using hlb) (by simpa[hl] using hby)
 have hr:=sK (E:=E) (o:=⟨some d,.call ⟨.builtin .append,#[s,x],#[t,t]⟩,ty,pos,eG,gd⟩) rfl a w w' v' (by rw[hv.2];exact k1)
 unfold Oper.wp
 rw[hr,Oper.upon_value]
 simp only[dw,hl] at k2
 have hnd2:=df.1 hnd
 have hnb:∀b∈(ν k).f,vN (ν k).v≠some b:=fun b hb hc=>hnd2.2.2 b (BQ.2 hc) b hb rfl
 have mr:∀b∈(ν k).f,b<w.heap.size:=fun b hb=>hru.lt _ _ _ b hb
 refine hn _ _ _ (gD.move (some k) (fun j hj=>⟨_,by obtain rfl:=Option.some.inj hj;exact h2,rfl⟩) (k3.mono fun b hb _=>⟨k,rfl,.inl hb⟩) k' h3 (.fg e (xs++ys)) ⟨v',(ν k).f⟩ (row_one k2)
  (fun b hb=>hb.elim (fun h=>(k4 b h).imp (fun h=>⟨k,rfl,.inl h⟩) id) fun h=>.inl ⟨k,rfl,.inr h⟩) d _ _ ?_ ?_)
 ·intro ok st ν' hν hw hm
  refine zi (us:=us++vs) ?_ ?_ ?_ (by simpa using hlb) ?_
  ·rw[hν,(E.ok e ei he).cells,aX,List.flatten_append];exact k2
  ·rw[(E.ok e ei he).cells]
   intro i u hu
   rcases bU i us.length with hi|hi
   ·rw[bj hi] at hu;exact huu i u hu
   ·rw[bu hi] at hu;exact hul _ u hu
  ·rw[hν]
   have h1:=hru.frame hw k3.size hm _ _ _ fun b hb=>k3.block b (mr b hb) (hnb b hb)
   have h2:=htr.frame hw k3.size hm _ _ _ (by simp)
   have:=h1.append h2
   rwa [bF] at this
  ·rw[hν]
   refine GZ hnd2.2.1 fun b hb hm=>?_
   rcases k4 b hb with h|h
   ·exact hnb b hm h
   ·have:=mr b hm;omega
 ·intro ok st ν' hν ju hw hm
  simp only[aF]
  exact⟨by rw[ju];rfl,by rw[hν]⟩
theorem Gr(s x:Operand)(t e k k':Nat)(ti ei:TI)(p:PV)(xs:List (List D))(ys:List (List T))(ht:E.ti t=some ti)(kD:ti.ty= .slice e)(he:E.ti e=some ei)(hs:g.ev s= .acc k)(hk:g.at k=some (.acc e xs))(hx:g.ev x=p)(ha:JF E ei.n g p ys)(hk':g.at k'=none)
 (hlb:xs.length+ys.length≤LB) (hby:(xs.length+ys.length)*ei.bytes≤140737488355328) :
 kG E.P ⟨some d,.call ⟨.builtin .append,#[s,x],#[t,t]⟩,ty,pos,eG,gd⟩ g ⟨da s++da x,k::k'::x9 p⟩ ⟨some (d,.acc k'),[(k,.dead),(k',.fg e (lift xs++ys))]⟩:=by
 intro g2 hg X ν a w next Q hs' hnx
 have e1:=hg.ev (x:=s) (fun t h=>by simp[h])
 have e2:=hg.ev (x:=x) (fun t h=>by simp[h])
 have h3:=(hg.p k (by simp)).trans hk
 have h4:=(hg.p k' (by simp)).trans hk'
 have ha2:=ha.agree hg (fun k h=>by simp[h])
 have hs2:=hs'.lift h3
 have hev:∀z,(⟨g2.sl,cZ g2.st k (some (.fg e (lift xs)))⟩:G).ev z=g2.ev z:=fun z=>by cases z<;>rfl
 have hkk:k'≠k:=fun h=>by rw[h,h3] at h4;cases h4
 have ha3:JF E ei.n ⟨g2.sl,cZ g2.st k (some (.fg e (lift xs)))⟩ p ys:=by
  rcases ha2 with⟨ys',h1,rfl⟩|⟨m,e',ei',rfl,hm,he',hz,hn⟩
  ·by_cases hp:p= .acc k
   ·subst hp
    rcases h1 with⟨h,_⟩|⟨h,_⟩|⟨m,e',ei',h,hm,he',hz⟩|⟨_,_,h,_⟩
    ·cases h
    ·cases h
    ·obtain rfl:k=m:=by simpa using h
     rw[h3] at hm
     obtain⟨rfl,rfl⟩:e=e'∧xs=ys':=by simpa using hm
     exact .inr ⟨k,e,ei',rfl,by rw[uU,if_pos rfl],he',hz,Cw _⟩
    ·cases h
   ·refine .inl ⟨ys',?_,rfl⟩
    rcases h1 with h|h|⟨m,e',ei',h,hm,he',hz⟩|h
    ·exact .inl h
    ·exact .inr (.inl h)
    ·exact .inr (.inr (.inl ⟨m,e',ei',h,by rw[uU,if_neg (fun hc=>hp (by rw[h,hc]))];exact hm,he',hz⟩))
    ·exact .inr (.inr (.inr h))
  ·refine .inr ⟨m,e',ei',rfl,?_,he',hz,hn⟩
   rw[uU,if_neg (fun hc=>by rw[hc,h3] at hm;cases hm)]
   exact hm
 refine rI (g:=⟨g2.sl,cZ g2.st k (some (.fg e (lift xs)))⟩) s x t e k k' ti ei p (lift xs) ys ht kD he (by rw[hev,e1];exact hs) (by rw[uU,if_pos rfl]) (by rw[hev,e2];exact hx) ha3 (by rw[uU,if_neg hkk];exact h4)
  (by rw[rB];exact hlb) (by rw[rB];exact hby) _ ⟨fun _ _=>rfl,fun _ _=>rfl⟩ X ν a w next Q hs2 ?_
 intro ν' a' w' h
 refine hnx ν' a' w' ?_
 simpa only[G.app,xD,pd] using h
def HF:List PV→Option (List (List T))
 | []=>some []
 | p::ps=>match p.whole,BR (eh p),HF ps with
   | true,some x,some xs=>some (x::xs)
   | _,_,_=>none
def xv(n:Nat):List (List T)→Bool
 | []=>true
 | x::xs=>HR (Qf x) n&&xv n xs
theorem MM:∀{qs:List PV}{rows:List (List T)},HF qs=some rows→rows.length=qs.length
 | [],rows,h=>by simp[HF] at h;simp[←h]
 | q::qs,rows,h=>by
   simp only[HF] at h
   split at h
   ·rename_i h1 h2 h3
    obtain rfl:=Option.some.inj h
    simp[MM h3]
   ·cases h
def Fp(v:Value):PV:=if(∀u∈v.cells.toList,u.oneCell'=true) then(if v.oneCell'=true then .d (.val v) else .agg (v.cells.toList.map fun u=>.d (.val u))) else .any
theorem Yd{w:World}{ok:Nat→Prop}{ν:Nat→Nm}{st:Nat→Option En}:∀(cs:List Value),(∀u∈cs,u.oneCell'=true)→aB w ok ν st (cs.map fun u=>.d (.val u)) cs
 | [],_=>by simp[aB]
 | u::cs,h=>by
   simp only[aQ,aB,aF]
   exact⟨.val u (h u (by simp)),Yd cs fun u hu=>h u (by simp[hu])⟩
theorem Nx:∀(cs:List Value),zd (cs.map fun u=>.d (.val u))=some (cs.map D.val)
 | []=>rfl
 | u::cs=>by simp[zd,toD,Nx cs]
theorem Wu{w:World}{ok:Nat→Prop}{ν:Nat→Nm}{st:Nat→Option En}(v:Value):aF w ok ν st (Fp v) v:=by
 unfold Fp
 by_cases h:∀u∈v.cells.toList,u.oneCell'=true
 ·rw[if_pos h]
  by_cases h1:v.oneCell'=true
  ·rw[if_pos h1]
   simp only[aF]
   exact .val v h1
  ·rw[if_neg h1]
   cases v with
   | agg cs=>simp only[aF];exact⟨_,rfl,Yd _ h⟩
   | _=>exact absurd (h _ (List.mem_singleton.2 rfl)) h1
 ·rw[if_neg h]
  simp only[aF]
theorem Xz(v:Value)(h:∀u∈v.cells.toList,u.oneCell'=true):(Fp v).whole=true∧zd (eh (Fp v))=some (v.cells.toList.map D.val):=by
 unfold Fp
 rw[if_pos h]
 by_cases h1:v.oneCell'=true
 ·rw[if_pos h1,Bo h1]
  exact⟨rfl,rfl⟩
 ·rw[if_neg h1]
  exact⟨rfl,Nx _⟩
theorem Nh(ρ:Operand→Value):∀(ps:List (Nat×Operand)),(∀x∈ps,∀u∈(ρ x.2).cells.toList,u.oneCell'=true)→rowsOf (ps.map fun x=>Fp (ρ x.2))=some (ps.map fun x=>(ρ x.2).cells.toList.map D.val)
 | [],_=>rfl
 | x::ps,h=>by
   obtain⟨h1,h2⟩:=Xz (ρ x.2) (h x (by simp))
   simp only[aQ,rowsOf]
   rw[if_pos h1,h2,Nh ρ ps fun y hy=>h y (by simp[hy])]
theorem E2(ρ:Operand→Value)(n:Nat):∀(ps:List (Nat×Operand)),(∀x∈ps,(ρ x.2).cells.toList.length=n)→tJ n (ps.map fun x=>(ρ x.2).cells.toList.map D.val)=true
 | [],_=>rfl
 | x::ps,h=>by
   have:=h x (by simp)
   simp only[aQ,tJ,ai,dw,beq_iff_eq]
   exact⟨this,E2 ρ n ps fun y hy=>h y (by simp[hy])⟩
theorem YR{w:World}{ok:Nat→Prop}{sz:Nat}{vs us:List (List Value)}(hv:∀v∈vs,v.length=sz)(h:cg w ok sz (vs.map fun u=>u.map D.val) us):us=vs:=by
 have hl:=h.len
 rw[dw] at hl
 refine List.ext_getElem hl fun i h1 h2=>?_
 have e1:(vs.map fun u=>u.map D.val)[i]?=some (vs[i].map D.val):=by simp[ah h2]
 have e2:=ah h1
 have l1:=h.hu i _ e2
 have l2:=hv _ (List.getElem_mem h2)
 refine List.ext_getElem (by rw[l1,l2]) fun j h3 h4=>?_
 exact(h.hr i j _ _ (.val vs[i][j]) _ e1 e2 (by simp[ah h4]) (ah h3)).Ey
theorem Vt{t e:Nat}{ti ei:TI}(ht:E.ti t=some ti)(kD:ti.ty= .slice e)(he:E.ti e=some ei)(a:Act)(w:World)(ps:List (Nat×Operand))(hup:HM 0 (ps.map (·.1))=true)
 (h1:∀x∈ps,∀u∈(a.eval x.2).cells.toList,u.oneCell'=true) (h2:∀x∈ps,(a.eval x.2).cells.toList.length=ei.n) (hbig:ps.length*ei.n≤16777216) {o:Oper} (ho:o.op= .buildSlice t ps.length ⟨ps⟩) :
 (execOp a.eval o).run E.P w= .ok (.value (.slice (some ⟨w.heap.size,0,none⟩) ps.length ps.length)) (w.alloc (.cells ⟨(ps.map fun x=>(a.eval x.2).cells.toList).flatten⟩ e)):=by
 obtain⟨i,z,k1,k2,k4,k5,k6,k7⟩:=(E.ok e ei he).info
 have hu:=(E.ok t ti ht).ty
 rw[kD] at hu
 have hpos:=(E.ok e ei he).pos
 have key:∀init:Array Value,init.size=ps.length*ei.n→Instr.fill (fun i=>some (i*ei.n,ei.n)) init (ps.map fun x=>(x.1,a.eval x.2))=some ⟨(ps.map fun x=>(a.eval x.2).cells.toList).flatten⟩:=by
  intro init hi
  obtain⟨us,m1,m2⟩:=B4 (w:=w) (ok:=fun _=>True) (ν:=fun _=>⟨.bool false,[]⟩) (st:=fun _=>none) (fun _ h=>by cases h) ei.n (fun x=>Fp (a.eval x)) a.eval (fun x=>Wu _) ps 0 [] init _ hup (Nh a.eval ps h1) (E2 a.eval ei.n ps h2) (by simp) (by simp) (by simpa using hi)
  have e1:(ps.map fun x=>(a.eval x.2).cells.toList.map D.val)=(ps.map fun x=>(a.eval x.2).cells.toList).map fun u=>u.map D.val:=by simp
  rw[e1] at m2
  have:=YR (by
   intro v hv
   obtain⟨x,hx,rfl⟩:=bD.1 hv
   exact h2 x hx) m2
  subst this
  simpa using m1
 by_cases hz:ps.length*ei.n=0
 ·have m1:=key ((Array.range 0).map fun _=>default) (by rw[Array.size_map,Array.size_range,hz])
  simp only[execOp,ho,iq,Instr.buildSlice,Sem.run_bind,run_underlying hu,Result.andThen_ok,(E.ok e ei he).size w,hz]
  simp[m1,newRow]
 ·have m1:=key ((Array.range (ps.length*ei.n)).map (z.cells[· % z.cells.size]!)) (by simp)
  have hn:¬ps.length*ei.n>16777216:=by omega
  simp only[execOp,ho,iq,Instr.buildSlice,Sem.run_bind,run_underlying hu,Result.andThen_ok,(E.ok e ei he).size w]
  simp[hn,hz,zeroValue,typeInfo,k1,k5,m1,newRow]
theorem Qy{w:World}{ok:Nat→Prop}{ν:Nat→Nm}{st:Nat→Option En}(hν:∀k,(st k).isSome=true→(ν k).v.oneCell'=true)(ev:Operand→PV)(ρ:Operand→Value)(hev:∀x,aF w ok ν st (ev x) (ρ x))(n:Nat) :
 ∀(ps:List (Nat×Operand))(rows:List (List T)),HF (ps.map fun x=>ev x.2)=some rows→xv n rows=true →
  bw E.P w ok ν st rows (ps.map fun x=>(ρ x.2).cells.toList) []∧(∀x∈ps,∀u∈(ρ x.2).cells.toList,u.oneCell'=true)∧(∀x∈ps,(ρ x.2).cells.toList.length=n)
 | [],rows,h,_=>by
   simp only[dt,HF,Option.some.injEq] at h
   subst h
   exact⟨by simp[bw],by simp,by simp⟩
 | x::ps,rows,h,hl=>by
   simp only[aQ,HF] at h
   split at h
   ·rename_i row rows' h1 h2 h3
    obtain rfl:=Option.some.inj h
    simp only[xv,ai] at hl
    have hl1:=xr hl.1
    rw[Ew] at hl1
    obtain⟨k1,k2,k3⟩:=Qy hν ev ρ hev n ps rows' h3 hl.2
    have hc:=(hev x.2).cells h1 hν
    have ht:=KP (P:=E.P) hc h2
    refine⟨?_,?_,?_⟩
    ·simp only[aQ,bw]
     exact⟨[],[],ht,k1,rfl⟩
    ·intro y hy
     rcases ay.1 hy with rfl|hy
     ·exact ht.one hν
     ·exact k2 y hy
    ·intro y hy
     rcases ay.1 hy with rfl|hy
     ·rw[ht.len];exact hl1
     ·exact k3 y hy
   ·cases h
theorem Pc(t e n k:Nat)(ps:List (Nat×Operand))(ti ei:TI)(rows:List (List T))(ht:E.ti t=some ti)(kD:ti.ty= .slice e)(he:E.ti e=some ei)(hn:n=ps.length)(hup:HM 0 (ps.map (·.1))=true)
 (hr:HF (ps.map fun x=>g.ev x.2)=some rows) (dy:xv ei.n rows=true) (hbig:ps.length*ei.n≤16777216) (hk:g.at k=none) :
 kG E.P ⟨some d,.buildSlice t n ⟨ps⟩,ty,pos,eG,gd⟩ g ⟨ps.flatMap fun x=>da x.2,[k]⟩ ⟨some (d,.acc k),[(k,.fg e rows)]⟩:=by
 subst hn
 intro g2 hg
 have hmap:ps.map (fun x=>g2.ev x.2)=ps.map (fun x=>g.ev x.2):=by
  apply jl
  intro x hx
  rw[hg.ev (x:=x.2) (fun t h=>fF.2 ⟨x,hx,h⟩)]
 have h3:=(hg.p k (by simp)).trans hk
 rw[←hmap] at hr
 intro X ν a w next Q hs hnx
 obtain⟨htr,m1,m2⟩:=Qy hs.nu g2.ev a.eval hs.ev ei.n ps rows hr dy
 have lD:=Vt ht kD he a w ps hup m1 m2 hbig (o:=⟨some d,.buildSlice t ps.length ⟨ps⟩,ty,pos,eG,gd⟩) rfl
 have hpos:=(E.ok e ei he).pos
 have hrl:=MM hr
 simp only[dw] at hrl
 have hle:ps.length≤16777216:=eu (od _ hpos) hbig
 have hul:∀(i:Nat)(u:List Value),(ps.map fun x=>(a.eval x.2).cells.toList)[i]?=some u→u.length=ei.n:=by
  intro i u hu
  obtain⟨x,hx,rfl⟩:=bD.1 (cM hu)
  exact m2 x hx
 have hfl:=(wQ (w:=w) (ok:=fun _=>True) hul (htr.one hs.nu)).kT
 simp only[dw] at hfl
 unfold Oper.wp
 rw[lD,Oper.upon_value]
 have qD:=World.ownsRow_lit w (e:=e) (⟨(ps.map fun x=>(a.eval x.2).cells.toList).flatten⟩:Array Value) rows.length (base:=0) (size:=ei.n) (bh _) (by simp only[maxLen];omega) (by rw[hrl];simpa using hfl)
 refine hnx _ _ _ (hs.wy (jy w _) k h3 (.fg e rows) ⟨.slice (some ⟨w.heap.size,0,none⟩) ps.length ps.length,[]⟩ rfl (fun b hb=>?_) d _ _ ?_ ?_)
 ·obtain rfl:w.heap.size=b:=by simpa[Nm.has,vN] using hb
  exact aI _
 ·intro ok st ν' hν hw hm
  refine zi (us:=ps.map fun x=>(a.eval x.2).cells.toList) ?_ (by rw[(E.ok e ei he).cells];exact hul) ?_ (by unfold LB;omega) (by rw[hν];exact GZ List.nodup_nil (by simp))
  ·rw[hν,(E.ok e ei he).cells,←hrl]
   exact qD
  ·rw[hν]
   exact htr.frame hw (jy w _).size hm _ _ _ (by simp)
 ·intro ok st ν' hν ju hw hm
  simp only[aF]
  exact⟨by rw[ju];rfl,by rw[hν]⟩
end
def Yf:Nat→List T→List T
 | 0,_=>[]
 | _+1,[]=>[]
 | n+1,a::as=>a::Yf n as
theorem PL:∀(n:Nat)(l:List T),Yf n l=l.take n
 | 0,l=>by simp[Yf]
 | n+1,[]=>by simp[Yf]
 | n+1,a::as=>by simp[Yf,PL n as]
def X8:Nat→List T→List T
 | 0,l=>l
 | _+1,[]=>[]
 | n+1,_::as=>X8 n as
theorem O4:∀(n:Nat)(l:List T),X8 n l=l.drop n
 | 0,l=>by simp[X8]
 | n+1,[]=>by simp[X8]
 | n+1,a::as=>by simp[X8,O4 n as]
def ZQ:List T→List T→List T
 | [],ys=>ys
 | x::xs,ys=>x::ZQ xs ys
theorem To:∀(xs ys:List T),ZQ xs ys=xs++ys
 | [],ys=>rfl
 | x::xs,ys=>by simp[ZQ,To xs ys]
def XP(cs:List T)(off:Nat)(vs:List T):List T:=ZQ (Yf off cs) (ZQ vs (X8 (off+Qf vs) cs))
theorem WJ(cs:List T)(off:Nat)(vs:List T):XP cs off vs=sr cs off vs:=by
 simp only[XP,sr,To,PL,O4,Ew]
def KX(g:G)(d:Nat)(c x y:Operand):zN:=
 match g.ev c with
 | .d (.val (.bool true))=>.go ⟨da c++da x,[]⟩ ⟨some (d,g.ev x),[]⟩
 | .d (.val (.bool false))=>.go ⟨da c++da y,[]⟩ ⟨some (d,g.ev y),[]⟩
 | _=>.stop
def Fq(E:Env)(g:G)(d:Nat)(t:TypeId):zN:=
 match E.ti t with
 | some ti=>.go ⟨[],[g.new]⟩ ⟨some (d,.ptr g.new 0),[(g.new,.box ti.zero)]⟩
 | none=>.stop
def Qb(g:G)(d:Nat)(x:Operand):zN:=
 match(g.ev x).whole with
 | true=>.go ⟨da x,[g.new]⟩ ⟨some (d,.ptr g.new 0),[(g.new,.box (eh (g.ev x)))]⟩
 | false=>.stop
def Eh(E:Env)(g:G)(d:Nat)(t:TypeId)(x:Operand):zN:=
 match E.ti t with
 | none=>.stop
 | some ti=>
   match g.ev x with
   | .ptr k off=>
     match g.at k with
     | some (.box cs)=>match xC (off+ti.n) (vT cs) with
       | true=>.go ⟨da x,[k]⟩ ⟨some (d,QW ti.isAgg (tk ti.n (dr off cs))),[]⟩
       | false=>.stop
     | _=>.stop
   | .gm xs i off=>.og (xC (off+ti.n) (JK (row xs i))=true) ⟨da x,[]⟩ ⟨some (d,QW ti.isAgg (tk ti.n (dr off (cF (row xs i))))),[]⟩
   | .gE k i off sz=>
     match g.at k with
     | some (.acc e xs)=>match E.ti e with
       | some ei=>.og (HR sz ei.n=true∧i<xs.length∧xC (off+ti.n) (JK (row xs i))=true) ⟨da x,[k]⟩ ⟨some (d,QW ti.isAgg (tk ti.n (dr off (cF (row xs i))))),[]⟩
       | none=>.stop
     | some (.fg e xs)=>match E.ti e with
       | some ei=>.og (HR sz ei.n=true∧i<xs.length∧xC (off+ti.n) (Qf (ow xs i))=true) ⟨da x,[k]⟩ ⟨some (d,QW ti.isAgg (tk ti.n (dr off (YA (ow xs i))))),[]⟩
       | none=>.stop
     | _=>.stop
   | _=>.stop
def Kz(E:Env)(g:G)(d:Nat)(s:TypeId)(x:Operand)(f:Nat):zN:=
 match E.ti s with
 | none=>.stop
 | some si=>match si.ty with
   | .struct fs=>match P7 fs f with
     | some (_,fo,_)=>match g.ev x with
       | .ptr k off=>.go ⟨da x,[]⟩ ⟨some (d,.ptr k (off+fo)),[]⟩
       | .gm xs i off=>.go ⟨da x,[]⟩ ⟨some (d,.gm xs i (off+fo)),[]⟩
       | .gE k i off sz=>.go ⟨da x,[]⟩ ⟨some (d,.gE k i (off+fo) sz),[]⟩
       | _=>.stop
     | none=>.stop
   | _=>.stop
def As(E:Env)(g:G)(d:Nat)(s:TypeId)(x:Operand)(f:Nat):zN:=
 match E.ti s with
 | none=>.stop
 | some si=>match si.ty with
   | .struct fs=>match P7 fs f with
     | some (ft,fo,_)=>match E.ti ft with
       | none=>.stop
       | some fi=>match g.ev x with
         | .agg cs=>match xC (fo+fi.n) (vT cs) with
           | true=>.go ⟨da x,[]⟩ ⟨some (d,QW fi.isAgg (tk fi.n (dr fo cs))),[]⟩
           | false=>.stop
         | _=>.stop
     | none=>.stop
   | _=>.stop
def D2(E:Env)(g:G)(d:Nat)(s:TypeId)(x y:Operand):zN:=
 match E.ti s with
 | none=>.stop
 | some si=>match g.ev y with
   | .d (.val (.int .i64 n))=>match si.ty with
     | .slice e=>match E.ti e with
       | none=>.stop
       | some ei=>match g.ev x with
         | .d (.dP xs)=>.og (0≤n∧n.toNat<xs.length∧HR (JK (row xs n.toNat)) ei.n=true) ⟨da x++da y,[]⟩ ⟨some (d,.gm xs n.toNat 0),[]⟩
         | .acc k=>match g.at k with
           | some (.acc e' xs)=>match ja e e' with
             | true=>.og (0≤n∧n.toNat<xs.length) ⟨da x++da y,[k]⟩ ⟨some (d,.gE k n.toNat 0 ei.n),[]⟩
             | false=>.stop
           | some (.fg e' xs)=>match ja e e' with
             | true=>.og (0≤n∧n.toNat<xs.length) ⟨da x++da y,[k]⟩ ⟨some (d,.gE k n.toNat 0 ei.n),[]⟩
             | false=>.stop
           | _=>.stop
         | _=>.stop
     | .arr len e=>match E.ti e with
       | none=>.stop
       | some ei=>match g.ev x with
         | .ptr k off=>.og (0≤n∧n.toNat<len) ⟨da x++da y,[]⟩ ⟨some (d,.ptr k (off+n.toNat*ei.n)),[]⟩
         | _=>.stop
     | _=>.stop
   | _=>.stop
def KJ(E:Env)(g:G)(d:Nat)(s:TypeId)(x y:Operand):zN:=
 match E.ti s with
 | none=>.stop
 | some si=>match g.ev y with
   | .d (.val (.int .i64 n))=>match si.ty with
     | .str=>match g.ev x with
       | .d (.str l)=>.og (0≤n∧n.toNat<l.length) ⟨da x++da y,[]⟩ ⟨some (d,.d (.val (.int .u8 ((l.getD n.toNat 0).toNat:Int)))),[]⟩
       | _=>.stop
     | _=>.stop
   | _=>.stop
def Ri(g:G)(d:Nat)(u:UnOp)(x:Operand):zN:=
 match u,g.ev x with
 | .not,.d (.val (.bool m))=>.go ⟨da x,[]⟩ ⟨some (d,.d (.val (.bool (!m)))),[]⟩
 | .neg,.d (.val (.int .i64 m))=>.og (RN (-m)) ⟨da x,[]⟩ ⟨some (d,.d (.val (.int .i64 (-m)))),[]⟩
 | _,_=>.stop
def D1(E:Env)(g:G)(d:Nat)(s t:TypeId)(x:Operand):zN:=
 match E.ti s,E.ti t with
 | some si,some ti=>match si.ty,ti.ty,g.ev x with
   | .int k,.int k',.d (.val (.int k2 m))=>match VD k k2 with
     | true=>.go ⟨da x,[]⟩ ⟨some (d,.d (.val (.int k' (k'.wrap m)))),[]⟩
     | false=>.stop
   | _,_,_=>.stop
 | _,_=>.stop
def Al(E:Env)(g:G)(d:Nat)(t:TypeId)(ps:List (Nat×Operand)):zN:=
 match E.ti t with
 | none=>.stop
 | some ti=>match ti.ty with
   | .struct fs=>match LQ (pls fs) ti.zero (evp g ps) with
     | some r=>.go ⟨Ys ps,[]⟩ ⟨some (d,.agg r),[]⟩
     | none=>.stop
   | _=>.stop
def KU(E:Env)(g:G)(d:Nat)(t:TypeId)(n:Nat)(ps:List (Nat×Operand)):zN:=
 match E.ti t with
 | none=>.stop
 | some ti=>match ti.ty with
   | .slice e=>match E.ti e with
     | none=>.stop
     | some ei=>match ps with
       | []=>match n with
         | 0=>.go ⟨[],[g.new]⟩ ⟨some (d,.acc g.new),[(g.new,.acc e [])]⟩
         | _=>.stop
       | p::ps=>match ja n (Oz (p::ps)),HM 0 (ZU (p::ps)),rowsOf (ZP g (p::ps)) with
         | true,true,some rows=>match tJ ei.n rows,xC (Oz (p::ps)) 64,xC ei.n 64 with
           | true,true,true=>.go ⟨Ys (p::ps),[]⟩ ⟨some (d,.d (.dP rows)),[]⟩
           | _,_,_=>.stop
         | true,true,none=>match HF (ZP g (p::ps)) with
           | none=>.stop
           | some rows=>match xv ei.n rows,xC (Oz (p::ps)) 64,xC ei.n 64 with
             | true,true,true=>.go ⟨Ys (p::ps),[g.new]⟩ ⟨some (d,.acc g.new),[(g.new,.fg e rows)]⟩
             | _,_,_=>.stop
         | _,_,_=>.stop
   | _=>.stop
def Ea(E:Env)(g:G)(d:Nat)(t:TypeId)(l c:Operand):zN:=
 match E.ti t with
 | none=>.stop
 | some ti=>match ti.ty with
   | .slice e=>match E.ti e with
     | none=>.stop
     | some ei=>match zd ei.zero,g.ev l,g.ev c with
       | some z,.d (.val (.int .i64 n)),.d (.val (.int .i64 n'))=>.og (n'=n∧0≤n∧n.toNat≤LB∧ei.bytes*n.toNat≤281474976710656) ⟨da l++da c,[g.new]⟩ ⟨some (d,.acc g.new),[(g.new,.acc e (List.replicate n.toNat z))]⟩
       | _,_,_=>.stop
   | _=>.stop
def YD(g:G)(dflt:Int):Option Operand→Option Int
 | none=>some dflt
 | some x=>match g.ev x with
   | .d (.val (.int _ i))=>some i
   | _=>none
theorem Le{g:G}{d i:Int}{o:Option Operand}(h:YD g d o=some i):OI g o d i:=by
 cases o with
 | none=>exact(Option.some.inj h).symm
 | some x=>
   simp only[YD] at h
   split at h
   ·rename_i k j hj
    obtain rfl:=Option.some.inj h
    exact⟨k,hj⟩
   ·cases h
def JM(E:Env)(g:G)(d:Nat)(t:TypeId)(x:Operand)(lo hi mx:Option Operand):zN:=
 match mx,E.ti t with
 | none,some ti=>match ti.ty,g.ev x with
   | .slice e,.d (.dP xs)=>match E.ti e,YD g 0 lo,YD g xs.length hi with
     | some ei,some l,some h=>.og (0≤l∧l≤h∧h≤xs.length∧∀y∈xs,y.length=ei.n) ⟨da x++(We lo++We hi),[]⟩ ⟨some (d,.d (.dP ((xs.drop l.toNat).take (h.toNat-l.toNat)))),[]⟩
     | _,_,_=>.stop
   | .str,.d (.str s)=>match YD g 0 lo,YD g s.length hi with
     | some l,some h=>.og (0≤l∧l≤h∧h≤s.length) ⟨da x++(We lo++We hi),[]⟩ ⟨some (d,.d (.str ((s.drop l.toNat).take (h.toNat-l.toNat)))),[]⟩
     | _,_=>.stop
   | _,_=>.stop
 | _,_=>.stop
def JV(g:G)(d:Nat)(x:Operand):zN:=
 match g.ev x with
 | .ptr k off=>.go ⟨da x,[]⟩ ⟨some (d,.ptr k off),[]⟩
 | .gm xs i off=>.go ⟨da x,[]⟩ ⟨some (d,.gm xs i off),[]⟩
 | .gE k i off sz=>.go ⟨da x,[]⟩ ⟨some (d,.gE k i off sz),[]⟩
 | _=>.stop
def KK(g:G)(d:Nat)(x:Operand)(i:Nat):zN:=
 match g.ev x with
 | .jd ps=>match Sy ps i with
   | some p=>.go ⟨da x,[]⟩ ⟨some (d,p),[]⟩
   | none=>.stop
 | _=>.stop
def JH(E:Env)(g:G)(d:Nat)(s:TypeId)(x:Operand):zN:=
 match E.ti s with
 | none=>.stop
 | some si=>match si.ty,g.ev x with
   | .slice _,.d (.dP xs)=>.go ⟨da x,[]⟩ ⟨some (d,.d (.val (.int .i64 (xs.length:Int)))),[]⟩
   | .slice _,.bZ=>.go ⟨da x,[]⟩ ⟨some (d,.d (.val (.int .i64 0))),[]⟩
   | .slice _,.acc k=>match g.at k with
     | some (.acc _ xs)=>.go ⟨da x,[k]⟩ ⟨some (d,.d (.val (.int .i64 (xs.length:Int)))),[]⟩
     | some (.fg _ xs)=>.go ⟨da x,[k]⟩ ⟨some (d,.d (.val (.int .i64 (xs.length:Int)))),[]⟩
     | _=>.stop
   | .str,.d (.str l)=>.go ⟨da x,[]⟩ ⟨some (d,.d (.val (.int .i64 (l.length:Int)))),[]⟩
   | _,_=>.stop
def Ei(E:Env)(g:G)(p:PV):Option (List (List D)×Option TypeId):=
 match p with
 | .bZ=>some ([],none)
 | .d (.dP ys)=>some (ys,none)
 | .acc k=>match g.at k with
   | some (.acc e ys)=>some (ys,some e)
   | _=>none
 | .d (.val (.slice (some _) 0 _))=>some ([],none)
 | _=>none
def LU(E:Env)(sz:Nat)(p:PV)(ys:List (List D)):Option TypeId→Prop
 | none=>∀y∈ys,y.length=sz
 | some e=>∃ei,E.ti e=some ei∧ei.n=sz
theorem yT{E:Env}{g:G}{p:PV}{ys:List (List D)}{o:Option TypeId}{sz:Nat}(h:Ei E g p=some (ys,o))(ho:LU E sz p ys o):wB E sz g p ys:=by
 unfold Ei at h
 split at h
 ·obtain⟨rfl,rfl⟩:[]=ys∧none=o:=by simpa using h
  exact .inl ⟨rfl,rfl⟩
 ·obtain⟨rfl,rfl⟩:_=ys∧none=o:=by simpa using h
  exact .inr (.inl ⟨rfl,ho⟩)
 ·split at h
  ·rename_i e ys' hk
   obtain⟨rfl,rfl⟩:_=ys∧some e=o:=by simpa using h
   obtain⟨ei,h1,h2⟩:=ho
   exact .inr (.inr (.inl ⟨_,e,ei,rfl,hk,h1,h2⟩))
  ·cases h
 ·obtain⟨rfl,rfl⟩:[]=ys∧none=o:=by simpa using h
  exact .inr (.inr (.inr ⟨_,_,rfl,rfl⟩))
 ·cases h
def Ee(g:G)(p:PV):Option (List (List T)×TypeId):=
 match p with
 | .acc k=>match g.at k with
   | some (.fg e ys)=>some (ys,e)
   | _=>none
 | _=>none
theorem zI{E:Env}{g:G}{p:PV}{ys:List (List T)}{e:TypeId}{ei:TI}(h:Ee g p=some (ys,e))(he:E.ti e=some ei)(hn:sj ys=true):JF E ei.n g p ys:=by
 unfold Ee at h
 split at h
 ·rename_i k
  split at h
  ·rename_i e' ys' hk
   obtain⟨rfl,rfl⟩:ys'=ys∧e'=e:=by simpa using h
   exact .inr ⟨k,e',ei,rfl,hk,he,rfl,hn⟩
  ·cases h
 ·cases h
def Ez(g:G)(d:Nat)(s x:Operand)(e:TypeId)(ei:TI):zN:=
 match Ee g (g.ev x) with
 | none=>.stop
 | some (ys,e2)=>match ja e e2 with
   | false=>.stop
   | true=>match g.ev s with
     | .bZ=>.og (sj ys=true∧ys.length≤LB∧ys.length*ei.bytes≤140737488355328) ⟨da s++da x,g.new::x9 (g.ev x)⟩ ⟨some (d,.acc g.new),[(g.new,.fg e ys)]⟩
     | .acc k=>match g.at k with
       | some (.acc e' xs)=>match ja e e' with
         | true=>.og (sj ys=true∧xs.length+ys.length≤LB∧(xs.length+ys.length)*ei.bytes≤140737488355328) ⟨da s++da x,k::g.new::x9 (g.ev x)⟩ ⟨some (d,.acc g.new),[(k,.dead),(g.new,.fg e (lift xs++ys))]⟩
         | false=>.stop
       | some (.fg e' xs)=>match ja e e' with
         | true=>.og (sj ys=true∧xs.length+ys.length≤LB∧(xs.length+ys.length)*ei.bytes≤140737488355328) ⟨da s++da x,k::g.new::x9 (g.ev x)⟩ ⟨some (d,.acc g.new),[(k,.dead),(g.new,.fg e (xs++ys))]⟩
         | false=>.stop
       | _=>.stop
     | _=>.stop
def Ln(E:Env)(g:G)(d:Nat)(s x:Operand)(t t':TypeId):zN:=
 match ja t t',E.ti t with
 | true,some ti=>match ti.ty with
   | .slice e=>match E.ti e,Ei E g (g.ev x) with
     | some ei,some (ys,o)=>match g.ev s with
       | .bZ=>.og (LU E ei.n (g.ev x) ys o∧ys.length≤LB∧ys.length*ei.bytes≤140737488355328) ⟨da s++da x,g.new::x9 (g.ev x)⟩ ⟨some (d,.acc g.new),[(g.new,.acc e ys)]⟩
       | .acc k=>match g.at k with
         | some (.acc e' xs)=>match ja e e' with
           | true=>.og (LU E ei.n (g.ev x) ys o∧xs.length+ys.length≤LB∧(xs.length+ys.length)*ei.bytes≤140737488355328) ⟨da s++da x,k::g.new::x9 (g.ev x)⟩ ⟨some (d,.acc g.new),[(k,.dead),(g.new,.acc e (xs++ys))]⟩
           | false=>.stop
         | some (.fg e' xs)=>match ja e e' with
           | true=>.og (LU E ei.n (g.ev x) ys o∧xs.length+ys.length≤LB∧(xs.length+ys.length)*ei.bytes≤140737488355328) ⟨da s++da x,k::g.new::x9 (g.ev x)⟩ ⟨some (d,.acc g.new),[(k,.dead),(g.new,.fg e (xs++lift ys))]⟩
           | false=>.stop
         | _=>.stop
       | _=>.stop
     | some ei,none=>Ez g d s x e ei
     | _,_=>.stop
   | _=>.stop
 | _,_=>.stop
def w7(E:Env)(g:G)(dn:Option Nat)(t:TypeId)(x y:Operand):zN:=
 match E.ti t with
 | none=>.stop
 | some ti=>match g.ev x with
   | .ptr k off=>match g.at k with
     | some (.box cs)=>match xC (off+ti.n) (vT cs),(g.ev y).whole,ja (vT (eh (g.ev y))) ti.n,vg (eh (g.ev y)) with
       | true,true,true,true=>.go ⟨da x++da y++dn.toList,[k]⟩ ⟨dn.map fun d=>(d,.undef),[(k,.box (OQ cs off (eh (g.ev y))))]⟩
       | _,_,_,_=>.stop
     | _=>.stop
   | .gE k i off sz=>match g.at k with
     | some (.acc e xs)=>match E.ti e,(g.ev y).whole,ja (vT (eh (g.ev y))) ti.n,zd (eh (g.ev y)) with
       | some ei,true,true,some cs=>.og (HR sz ei.n=true∧i<xs.length∧xC (off+ti.n) ei.n=true) ⟨da x++da y++dn.toList,[k]⟩ ⟨dn.map fun d=>(d,.undef),[(k,.acc e (xs.set i (sr (row xs i) off cs)))]⟩
       | some ei,true,true,none=>match BR (eh (g.ev y)) with
         | none=>.stop
         | some cs=>.og (HR sz ei.n=true∧i<xs.length∧xC (off+ti.n) ei.n=true) ⟨da x++da y++dn.toList,[k]⟩ ⟨dn.map fun d=>(d,.undef),[(k,.fg e ((lift xs).set i (sr (ow (lift xs) i) off cs)))]⟩
       | _,_,_,_=>.stop
     | some (.fg e xs)=>match E.ti e,(g.ev y).whole,ja (vT (eh (g.ev y))) ti.n,BR (eh (g.ev y)) with
       | some ei,true,true,some cs=>.og (HR sz ei.n=true∧i<xs.length∧xC (off+ti.n) ei.n=true∧lF (Yf ti.n (X8 off (ow xs i)))=true) ⟨da x++da y++dn.toList,[k]⟩ ⟨dn.map fun d=>(d,.undef),[(k,.fg e (xs.set i (XP (ow xs i) off cs)))]⟩
       | _,_,_,_=>.stop
     | _=>.stop
   | _=>.stop
def Cp:List Operand→List Nat
 | []=>[]
 | x::xs=>da x++Cp xs
theorem xX:∀(l:List Operand),Cp l=l.flatMap da
 | []=>rfl
 | x::xs=>by simp[Cp,xX xs]
def SU(g:G):List Operand→List PV
 | []=>[]
 | x::xs=>g.ev x::SU g xs
theorem Ca(g:G):∀(l:List Operand),SU g l=l.map g.ev
 | []=>rfl
 | x::xs=>by simp[SU,Ca g xs]
def Qw(g:G)(d:Nat)(fn:Fn)(first cs:List Operand):zN:=
 match fn,first with
 | .func f,[]=>.go ⟨Cp cs,[]⟩ ⟨some (d,.fn f (SU g cs)),[]⟩
 | _,_=>.stop
def D4(E:Env)(g:G)(d:Nat)(callee:Callee)(args:List Operand)(tys:List TypeId):zN:=
 match callee with
 | .builtin b=>match b,args,tys with
   | .len,[x],[s]=>JH E g d s x
   | .append,[s,x],[t,t']=>Ln E g d s x t t'
   | _,_,_=>.stop
 | _=>.stop
def QV(E:Env)(g:G)(d:Nat):Op→zN
 | .move x=>.go ⟨da x,[]⟩ ⟨some (d,g.ev x),[]⟩
 | .assign x=>.go ⟨da x,[]⟩ ⟨some (d,g.ev x),[]⟩
 | .pick c x y=>KX g d c x y
 | .alloc t=>Fq E g d t
 | .box _ x=>Qb g d x
 | .load t x=>Eh E g d t x
 | .fieldAddr s x f=>Kz E g d s x f
 | .field s x f=>As E g d s x f
 | .indexAddr s x y=>D2 E g d s x y
 | .index s x y=>KJ E g d s x y
 | .store t x y=>w7 E g (some d) t x y
 | .binOp b t x y _=>bop E g d b t x y
 | .unOp u _ x=>Ri g d u x
 | .convert s t x=>D1 E g d s t x
 | .makeFunc fn first cs=>Qw g d fn first.toList cs.toList
 | .build t ps=>Al E g d t ps.toList
 | .buildSlice t n ps=>KU E g d t n ps.toList
 | .makeSlice t l c=>Ea E g d t l c
 | .slice t x lo hi mx=>JM E g d t x lo hi mx
 | .nilCheck x=>JV g d x
 | .extract x i=>KK g d x i
 | .call c=>D4 E g d c.callee c.args.toList c.argTypes.toList
 | _=>.stop
def Zj(E:Env)(g:G)(o:Oper):zN:=
 match o.dst,o.op with
 | some d,op=>QV E g d op
 | none,.store t x y=>w7 E g none t x y
 | none,_=>.stop
section
variable{E:Env}{g:G}{d:Nat}{ty:TypeId}{pos:String}{eG:Array Edge}{gd:Option (Nat×Bool)}{dn:Option Nat}
theorem PI(t:TypeId)(x:Operand):(Eh E g d t x).Ok E.P ⟨some d,.load t x,ty,pos,eG,gd⟩ g:=by
 unfold Eh
 split
 ·trivial
 ·rename_i ti ht
  split
  ·rename_i k off hx
   split
   ·rename_i cs hk
    split
    ·rename_i hl
     have hl:=kU hl
     rw[ou] at hl
     simp only[IV,IQ]
     exact Ng x t k off ti cs ht hx hk hl
    ·trivial
   ·trivial
  ·rename_i xs i off hx
   simp only[IV,IQ]
   exact fun h=>Kv x t i off ti xs _ ht hx rfl (QJ h)
  ·rename_i k i off sz hx
   split
   ·rename_i e xs hk
    split
    ·rename_i ei he
     simp only[IV,IQ]
     exact fun h=>Lq x t k i off sz e ti ei xs _ ht he (xr h.1) hx hk h.2.1 rfl (QJ h.2.2)
    ·trivial
   ·rename_i e xs hk
    split
    ·rename_i ei he
     simp only[IV,IQ]
     exact fun h=>LJ x t k i off sz e ti ei xs ht he (xr h.1) hx hk h.2.1 (by have:=kU h.2.2;rwa [Ew] at this)
    ·trivial
   ·trivial
  ·trivial
theorem RR(s:TypeId)(x:Operand)(f:Nat):(Kz E g d s x f).Ok E.P ⟨some d,.fieldAddr s x f,ty,pos,eG,gd⟩ g:=by
 unfold Kz
 split
 ·trivial
 ·rename_i si hs
  split
  ·rename_i fs o5
   split
   ·rename_i ft fo fz hf
    rw[Ls] at hf
    split
    ·rename_i hx;exact Oa x s f _ _ si fs ft fo fz hs o5 hf hx
    ·rename_i hx;exact NJ x s f _ _ _ si fs ft fo fz hs o5 hf hx
    ·rename_i hx;exact MA x s f _ _ _ _ si fs ft fo fz hs o5 hf hx
    ·trivial
   ·trivial
  ·trivial
theorem M6(s:TypeId)(x:Operand)(f:Nat):(As E g d s x f).Ok E.P ⟨some d,.field s x f,ty,pos,eG,gd⟩ g:=by
 unfold As
 split
 ·trivial
 ·rename_i si hs
  split
  ·rename_i fs o5
   split
   ·rename_i ft fo fz hf
    rw[Ls] at hf
    split
    ·trivial
    ·rename_i fi hfi
     split
     ·rename_i cs hx
      split
      ·rename_i hl
       have hl:=kU hl
       rw[ou] at hl
       simp only[IV,IQ]
       exact V1 x s f si fs ft fo fz fi cs hs o5 hf hfi hx hl
      ·trivial
     ·trivial
   ·trivial
  ·trivial
theorem Pp(s:TypeId)(x y:Operand):(D2 E g d s x y).Ok E.P ⟨some d,.indexAddr s x y,ty,pos,eG,gd⟩ g:=by
 unfold D2
 split
 ·trivial
 ·rename_i si hs
  split
  ·rename_i n hy
   split
   ·rename_i e o5
    split
    ·trivial
    ·rename_i ei he
     split
     ·rename_i xs hx
      exact fun h=>N3 x y s si ei e xs n hs o5 he hx hy h.1 h.2.1 (W4 h.2.2)
     ·rename_i k hx
      split
      ·rename_i e' xs hk
       split
       ·rename_i hee
        obtain rfl:=bI hee
        exact fun h=>OK x y s si ei e k xs n hs o5 he hx hk hy h.1 h.2
       ·trivial
      ·rename_i e' xs hk
       split
       ·rename_i hee
        obtain rfl:=bI hee
        exact fun h=>PK x y s si ei e k xs n hs o5 he hx hk hy h.1 h.2
       ·trivial
      ·trivial
     ·trivial
   ·rename_i len e o5
    split
    ·trivial
    ·rename_i ei he
     split
     ·rename_i k off hx
      exact fun h=>Pb x y s si ei e len k off n hs o5 he hx hy h.1 h.2
     ·trivial
   ·trivial
  ·trivial
theorem Sw(s:TypeId)(x y:Operand):(KJ E g d s x y).Ok E.P ⟨some d,.index s x y,ty,pos,eG,gd⟩ g:=by
 unfold KJ
 split
 ·trivial
 ·rename_i si hs
  split
  ·rename_i n hy
   split
   ·rename_i o5
    split
    ·rename_i l hx
     exact fun h=>OX x y s si l n hs o5 hx hy h.1 h.2
    ·trivial
   ·trivial
  ·trivial
theorem TB(u:UnOp)(t:TypeId)(x:Operand):(Ri g d u x).Ok E.P ⟨some d,.unOp u t x,ty,pos,eG,gd⟩ g:=by
 unfold Ri
 split
 ·rename_i m hx;exact YH x m t hx
 ·rename_i m hx;exact fun h=>YT x m t hx h
 ·trivial
theorem OL(s t:TypeId)(x:Operand):(D1 E g d s t x).Ok E.P ⟨some d,.convert s t x,ty,pos,eG,gd⟩ g:=by
 unfold D1
 split
 ·rename_i si ti hs ht
  split
  ·rename_i k k' k2 m o5 kD hx
   split
   ·rename_i hk
    obtain rfl:=J2 hk
    exact WK x k k' m s t si ti hs o5 ht kD hx
   ·trivial
  ·trivial
 ·trivial
theorem LZ(t:TypeId)(ps:Array (Nat×Operand)):(Al E g d t ps.toList).Ok E.P ⟨some d,.build t ps,ty,pos,eG,gd⟩ g:=by
 unfold Al
 split
 ·trivial
 ·rename_i ti ht
  split
  ·rename_i fs kD
   split
   ·rename_i r hr
    have hr:=Ra _ _ _ _ hr
    rw[S5,TN] at hr
    rw[KG]
    exact TM t ps.toList ti fs r ht kD hr
   ·trivial
  ·trivial
theorem SK(t:TypeId)(n:Nat)(ps:Array (Nat×Operand)):(KU E g d t n ps.toList).Ok E.P ⟨some d,.buildSlice t n ps,ty,pos,eG,gd⟩ g:=by
 obtain⟨ps⟩:=ps
 simp only
 unfold KU
 split
 ·trivial
 ·rename_i ti ht
  split
  ·rename_i e kD
   split
   ·trivial
   ·rename_i ei he
    split
    ·split
     ·exact pg t e 0 g.new [] ti ei [] ht kD he rfl rfl rfl rfl (by simp) g.lG
     ·trivial
    ·rename_i p ps
     split
     ·rename_i rows h1 h2 h3
      split
      ·rename_i h4 h5 h6
       have h1:=bI h1
       have h5:=kU h5
       have h6:=kU h6
       rw[Lx] at h1 h5
       rw[OT] at h2
       rw[Ot] at h3
       rw[KG]
       exact UE t e n (p::ps) ti ei rows ht kD he h1 h2 h3 h4 (eu (oQ h5 h6) (by omega))
      ·trivial
     ·rename_i h1 h2 _
      split
      ·trivial
      ·rename_i rows h3
       split
       ·rename_i h4 h5 h6
        have h1:=bI h1
        have h5:=kU h5
        have h6:=kU h6
        rw[Lx] at h1 h5
        rw[OT] at h2
        rw[Ot] at h3
        rw[KG]
        exact Pc t e n g.new (p::ps) ti ei rows ht kD he h1 h2 h3 h4 (eu (oQ h5 h6) (by omega)) g.lG
       ·trivial
     ·trivial
  ·trivial
theorem Qc(t:TypeId)(l c:Operand):(Ea E g d t l c).Ok E.P ⟨some d,.makeSlice t l c,ty,pos,eG,gd⟩ g:=by
 unfold Ea
 split
 ·trivial
 ·rename_i ti ht
  split
  ·rename_i e kD
   split
   ·trivial
   ·rename_i ei he
    split
    ·rename_i z n n' hz hl hc
     rintro⟨rfl,h1,h2,h3⟩
     exact XC l c t e g.new ti ei n' z ht kD he hz hl hc g.lG h1 h2 h3
    ·trivial
  ·trivial
theorem RC(t:TypeId)(x:Operand)(lo hi mx:Option Operand):(JM E g d t x lo hi mx).Ok E.P ⟨some d,.slice t x lo hi mx,ty,pos,eG,gd⟩ g:=by
 unfold JM
 split
 ·rename_i ti ht
  split
  ·rename_i e xs kD hx
   split
   ·rename_i ei l h he hl hh
    exact fun k=>N1 x lo hi t e ti ei xs _ l h ht kD he hx (Le hl) (Le hh) k.1 k.2.1 k.2.2.1 k.2.2.2 rfl
   ·trivial
  ·rename_i s kD hx
   split
   ·rename_i l h hl hh
    exact fun k=>Oe x lo hi t ti s _ l h ht kD hx (Le hl) (Le hh) k.1 k.2.1 k.2.2 rfl
   ·trivial
  ·trivial
 ·trivial
theorem RZ(x:Operand):(JV g d x).Ok E.P ⟨some d,.nilCheck x,ty,pos,eG,gd⟩ g:=by
 unfold JV
 split
 ·rename_i hx;exact Ds x _ _ hx
 ·rename_i hx;exact BN x _ _ _ hx
 ·rename_i hx;exact BK x _ _ _ _ hx
 ·trivial
theorem S0(x:Operand)(i:Nat):(KK g d x i).Ok E.P ⟨some d,.extract x i,ty,pos,eG,gd⟩ g:=by
 unfold KK
 split
 ·rename_i ps hx
  split
  ·rename_i p hp
   rw[Qz] at hp
   exact Qa x i ps p hx hp
  ·trivial
 ·trivial
theorem R1(s:TypeId)(x:Operand):(JH E g d s x).Ok E.P ⟨some d,.call ⟨.builtin .len,#[x],#[s]⟩,ty,pos,eG,gd⟩ g:=by
 unfold JH
 split
 ·trivial
 ·rename_i si hs
  split
  ·rename_i e xs o5 hx;exact Ob x s si e xs hs o5 hx
  ·rename_i e o5 hx;exact Oh x s si e hs o5 hx
  ·rename_i e k o5 hx
   split
   ·rename_i e' xs hk;exact N8 x s si e e' k xs hs o5 hx hk
   ·rename_i e' xs hk;exact PO x s si e e' k xs hs o5 hx hk
   ·trivial
  ·rename_i l o5 hx;exact OY x s si l hs o5 hx
  ·trivial
theorem Qj(s x:Operand)(t e:TypeId)(ti ei:TI)(ht:E.ti t=some ti)(kD:ti.ty= .slice e)(he:E.ti e=some ei):(Ez g d s x e ei).Ok E.P ⟨some d,.call ⟨.builtin .append,#[s,x],#[t,t]⟩,ty,pos,eG,gd⟩ g:=by
 unfold Ez
 split
 ·trivial
 ·rename_i ys e2 hr
  split
  ·trivial
  ·rename_i h2
   obtain rfl:=bI h2
   split
   ·rename_i hs
    exact fun h=>EB s x t e g.new ti ei _ ys ht kD he hs rfl (zI hr he h.1) g.lG h.2.1 h.2.2
   ·rename_i k hs
    split
    ·rename_i e' xs hk
     split
     ·rename_i hee
      obtain rfl:=bI hee
      exact fun h=>Gr s x t e k g.new ti ei _ xs ys ht kD he hs hk rfl (zI hr he h.1) g.lG h.2.1 h.2.2
     ·trivial
    ·rename_i e' xs hk
     split
     ·rename_i hee
      obtain rfl:=bI hee
      exact fun h=>rI s x t e k g.new ti ei _ xs ys ht kD he hs hk rfl (zI hr he h.1) g.lG h.2.1 h.2.2
     ·trivial
    ·trivial
   ·trivial
theorem R2(s x:Operand)(t t':TypeId):(Ln E g d s x t t').Ok E.P ⟨some d,.call ⟨.builtin .append,#[s,x],#[t,t']⟩,ty,pos,eG,gd⟩ g:=by
 unfold Ln
 split
 ·rename_i ti htt ht
  obtain rfl:=bI htt
  split
  ·rename_i e kD
   split
   ·rename_i ei ys o he hap
    split
    ·rename_i hs
     exact fun h=>HL s x t e g.new ti ei _ ys ht kD he hs rfl (yT hap h.1) g.lG h.2.1 h.2.2
    ·rename_i k hs
     split
     ·rename_i e' xs hk
      split
      ·rename_i hee
       obtain rfl:=bI hee
       exact fun h=>H3 s x t e k g.new ti ei _ xs ys ht kD he hs hk rfl (yT hap h.1) g.lG h.2.1 h.2.2
      ·trivial
     ·rename_i e' xs hk
      split
      ·rename_i hee
       obtain rfl:=bI hee
       exact fun h=>rI s x t e k g.new ti ei _ xs (lift ys) ht kD he hs hk rfl (.inl ⟨ys,yT hap h.1,rfl⟩) g.lG (by rw[rB];exact h.2.1) (by rw[rB];exact h.2.2)
      ·trivial
     ·trivial
    ·trivial
   ·rename_i ei he _
    exact Qj s x t e ti ei ht kD he
   ·trivial
  ·trivial
 ·trivial
theorem CN(t:TypeId)(x y:Operand):(w7 E g dn t x y).Ok E.P ⟨dn,.store t x y,ty,pos,eG,gd⟩ g:=by
 unfold w7
 split
 ·trivial
 ·rename_i ti ht
  split
  ·rename_i k off hx
   split
   ·rename_i cs hk
    split
    ·rename_i h1 h2 h3 h4
     have h1:=kU h1
     have h3:=bI h3
     rw[ou] at h1 h3
     rw[Lt _ _ _ (by omega)]
     exact Kj x y t k off ti cs _ ht hx hk rfl h1 h2 h3 h4
    ·trivial
   ·trivial
  ·rename_i k i off sz hx
   split
   ·rename_i e xs hk
    split
    ·rename_i ei cs he h2 h3 h4
     have h3:=bI h3
     rw[ou] at h3
     exact fun h=>Hy x y t k i off sz e ti ei xs _ cs ht he (xr h.1) hx hk rfl h.2.1 (kU h.2.2) h2 h3 h4
    ·rename_i ei he h2 h3 _
     have h3:=bI h3
     rw[ou] at h3
     split
     ·trivial
     ·rename_i cs h4
      exact fun h=>Kd x y t k i off sz e ti ei xs _ cs ht he (xr h.1) hx hk rfl h.2.1 (kU h.2.2) h2 h3 h4
    ·trivial
   ·rename_i e xs hk
    split
    ·rename_i ei cs he h2 h3 h4
     have h3:=bI h3
     rw[ou] at h3
     simp only[PL,O4,WJ]
     exact fun h=>Az x y t k i off sz e ti ei xs _ cs ht he (xr h.1) hx hk rfl h.2.1 (kU h.2.2.1) h2 h3 h4 h.2.2.2
    ·trivial
   ·trivial
  ·trivial
theorem Vs(fn:Fn)(first cs:Array Operand):(Qw g d fn first.toList cs.toList).Ok E.P ⟨some d,.makeFunc fn first cs,ty,pos,eG,gd⟩ g:=by
 obtain⟨first⟩:=first
 obtain⟨cs⟩:=cs
 unfold Qw
 split
 ·rename_i f h
  simp only at h
  subst h
  rw[xX,Ca]
  exact Ns _ _
 ·trivial
theorem Pl(c:Call):(D4 E g d c.callee c.args.toList c.argTypes.toList).Ok E.P ⟨some d,.call c,ty,pos,eG,gd⟩ g:=by
 obtain⟨callee,⟨args⟩,⟨tys⟩⟩:=c
 unfold D4
 split
 ·split
  ·rename_i h1 h2
   simp only at h1 h2
   subst h1 h2
   rename_i h
   simp only at h
   subst h
   exact R1 _ _
  ·rename_i h1 h2
   simp only at h1 h2
   subst h1 h2
   rename_i h
   simp only at h
   subst h
   exact R2 _ _ _ _
  ·trivial
 ·trivial
theorem UP(op:Op):(QV E g d op).Ok E.P ⟨some d,op,ty,pos,eG,gd⟩ g:=by
 unfold QV
 split
 ·exact Kf _
 ·exact Sp _
 ·unfold KX
  split
  ·rename_i hc;exact Q5 _ _ _ true hc
  ·rename_i hc;exact Q5 _ _ _ false hc
  ·trivial
 ·unfold Fq
  split
  ·rename_i ti ht;exact VM _ g.new ti ht g.lG
  ·trivial
 ·unfold Qb
  split
  ·rename_i hw;exact YG _ _ g.new g.lG hw
  ·trivial
 ·exact PI _ _
 ·exact RR _ _ _
 ·exact M6 _ _ _
 ·exact Pp _ _ _
 ·exact Sw _ _ _
 ·exact CN _ _ _
 ·exact YQ _ _ _ _ _
 ·exact TB _ _ _
 ·exact OL _ _ _
 ·exact Vs _ _ _
 ·exact LZ _ _
 ·exact SK _ _ _
 ·exact Qc _ _ _
 ·exact RC _ _ _ _ _
 ·exact RZ _
 ·exact S0 _ _
 ·exact Pl _
 ·trivial
theorem Zz(o:Oper):(Zj E g o).Ok E.P o g:=by
 obtain⟨dst,op,ty,pos,eG,gd⟩:=o
 unfold Zj
 split
 ·rename_i d h
  obtain rfl:dst=some d:=h
  exact UP op
 ·rename_i t x y h1 h2
  obtain rfl:dst=none:=h1
  obtain rfl:op= .store t x y:=h2
  exact CN _ _ _
 ·trivial
end
inductive qO where
 | on
 | off
def Zg:Bool→(qO→Prop)→(qO→Prop)→Prop
 | true,a,_=>a .on
 | false,_,b=>b .on
theorem ZY(a b:qO→Prop):Zg true a b=a .on:=rfl
theorem aaj(a b:qO→Prop):Zg false a b=b .on:=rfl
theorem SW{c:Bool}{a b:qO→Prop}(ht:c=true→a .on)(hf:c=false→b .on):Zg c a b:=by
 cases c
 ·exact hf rfl
 ·exact ht rfl
theorem xM{c:Bool}{a b:qO→Prop}(h:Zg c a b):(c=true∧a .on)∨(c=false∧b .on):=by
 cases c
 ·exact .inr ⟨rfl,h⟩
 ·exact .inl ⟨rfl,h⟩
def snoc:List Ky→Ky→List Ky
 | [],k=>[k]
 | a::as,k=>a::snoc as k
theorem Rb:∀(l:List Ky)(k:Ky),snoc l k=l++[k]
 | [],_=>rfl
 | a::as,k=>by simp[snoc,Rb as k]
def mz:Option (List Ky)→Ky→Option (List Ky)
 | none,_=>none
 | some l,k=>some (snoc l k)
def WM(P:Program)(ops:Array Oper):Option (List Ky)→List Oper→G→(G→Prop)→Prop
 | none,os,g,K=>WO P ops os g K
 | some pre,os,g,K=>WD P ops os pre g K
theorem Eg{P:Program}{ops:Array Oper}{m:Option (List Ky)}{o:Oper}{os:List Oper}{g:G}{K:G→Prop}{R:Rd}{δ:Dl}(h:Fs P ops o g R δ)(hr:WM P ops (mz m (oe R δ)) os (g.app δ) K):WM P ops m (o::os) g K:=by
 cases m with
 | none=>exact xG h hr
 | some pre=>
   simp only[mz,Rb] at hr
   exact XZ h hr
def tR:Option Nat→Rd→Rd
 | none,R=>R
 | some t,R=>⟨t::R.s,R.p⟩
def zR(P:Program)(g g':G):Prop:=∀(X:Cx)(ν:Nat→Nm)(a:Act)(w:World),Sat P X ν g a w→∃ν',Sat P X ν' g' a w
theorem zR.trans{P:Program}{g g1 g2:G}(h:zR P g g1)(h':zR P g1 g2):zR P g g2:=fun X ν a w hs=>
 let ⟨ν1,h1⟩:=h X ν a w hs
 h' X ν1 a w h1
theorem Qr{P:Program}{ops:Array Oper}{os:List Oper}{g g':G}{K:G→Prop}(hw:zR P g g')(h:WO P ops os g' K):WO P ops os g K:=fun i hi X ν a w Q hs hn=>
 let ⟨ν',hs'⟩:=hw X ν a w hs
 h i hi X ν' a w Q hs' hn
def sq(E:Env)(m:Option (List Ky))(gs:Option Nat)(o:Oper)(g:G)(rest:qO→Option (List Ky)→G→Prop):Prop:=
 (∃R δ,kG E.P o g R δ∧rest .on (mz m (oe (tR gs R) δ)) (g.app δ)) ∨
 (m=none∧gs=none∧∃g',zR E.P g g'∧∃R δ,kG E.P o g' R δ∧rest .on none (g'.app δ))
theorem fe{E:Env}{m:Option (List Ky)}{gs:Option Nat}{o:Oper}{g:G}{rest:qO→Option (List Ky)→G→Prop}{R:Rd}{δ:Dl}(h:kG E.P o g R δ)(hr:rest .on (mz m (oe (tR gs R) δ)) (g.app δ)):sq E m gs o g rest:=.inl ⟨R,δ,h,hr⟩
def ID(E:Env)(m:Option (List Ky))(gs:Option Nat)(o:Oper)(g:G)(rest:qO→Option (List Ky)→G→Prop):zN→Prop
 | .go R δ=>rest .on (mz m (oe (tR gs R) δ)) (g.app δ)
 | .og φ R δ=>φ∧rest .on (mz m (oe (tR gs R) δ)) (g.app δ)
 | .stop=>sq E m gs o g rest
theorem fj{E:Env}{m:Option (List Ky)}{gs:Option Nat}{o:Oper}{g:G}{rest:qO→Option (List Ky)→G→Prop}(h:ID E m gs o g rest (Zj E g o)):sq E m gs o g rest:=by
 have hk:=Zz (E:=E) (g:=g) o
 generalize Zj E g o=s at h hk
 cases s with
 | go R δ=>exact .inl ⟨R,δ,hk,h⟩
 | og φ R δ=>exact .inl ⟨R,δ,hk h.1,h.2⟩
 | stop=>exact h
def Zw(E:Env)(m:Option (List Ky))(t:Nat)(o:Oper)(g:G)(rest:qO→Option (List Ky)→G→Prop):qO→Prop
 | .on=>ID E m (some t) o g rest (Zj E g o)
 | .off=>False
def Ti(m:Option (List Ky))(t:Nat)(g:G)(rest:qO→Option (List Ky)→G→Prop):Option Nat→qO→Prop
 | some d,.on=>rest .on (mz m ⟨[t],[],[d],[]⟩) (g.app ⟨some (d,.undef),[]⟩)
 | _,_=>False
def r4:PV→Bool→(qO→Prop)→(qO→Prop)→Prop
 | .d (.val (.bool c)),true,yes,no=>Zg c yes no
 | .d (.val (.bool c)),false,yes,no=>Zg c no yes
 | .undef,_,_,no=>no .on
 | _,_,_,_=>False
def ZM:List Oper→Nat→Option Nat
 | [],_=>none
 | o::_,0=>o.dst
 | _::os,n+1=>ZM os n
theorem Us:∀(l:List Oper)(n:Nat),ZM l n=(l[n]?).bind (·.dst)
 | [],n=>by simp[ZM]
 | o::_,0=>rfl
 | _::os,n+1=>by simp[ZM,Us os n]
def YK(all:List Oper)(g:G)(K:qO→G→Prop):Option (List Ky)→Prop
 | none=>K .on g
 | some pre=>indep all pre=true∧K .on g
def Xi(E:Env)(all:List Oper)(m:Option (List Ky))(o:Oper)(g:G)(rest:qO→Option (List Ky)→G→Prop):Option (Nat×Bool)→Prop
 | none=>ID E m none o g rest (Zj E g o)
 | some (j,b)=>match ZM all j with
   | none=>False
   | some t=>r4 (nth g.sl t) b (Zw E m t o g rest) (Ti m t g rest o.dst)
def run(E:Env)(all:List Oper)(K:qO→G→Prop):List Oper→qO→Option (List Ky)→G→Prop
 | [],.on,m,g=>YK all g K m
 | o::os,.on,m,g=>Xi E all m o g (run E all K os) o.guard
 | [],.off,_,_=>False
 | _::_,.off,_,_=>False
theorem Pt{E:Env}{ops:Array Oper}{K:qO→G→Prop}:∀(os:List Oper)(m:Option (List Ky))(g:G),run E ops.toList K os .on m g→WM E.P ops m os g (K .on)
 | [],none,g,h=>uB h
 | [],some pre,g,h=>Yt h.1 h.2
 | o::os,m,g,h=>by
   have ih:=Pt (E:=E) (ops:=ops) (K:=K) os
   simp only[run] at h
   cases hg:o.guard with
   | none=>
     rw[hg] at h
     rcases fj h with⟨R,δ,h1,h2⟩|⟨rfl,_,g',hw,R,δ,h1,h2⟩
     ·exact Eg (Fs.plain hg h1) (ih _ _ h2)
     ·exact Qr hw (xG (Fs.plain hg h1) (ih _ _ h2))
   | some jb=>
     obtain⟨j,b⟩:=jb
     rw[hg] at h
     simp only[Xi] at h
     split at h
     ·exact h.elim
     ·rename_i t ht
      have hj:CO ops j=some t:=by
       rw[Us] at ht
       unfold CO
       rw[←ht]
       simp
      have hyes:∀c,nth g.sl t= .d (.val (.bool c))→c=b→Zw E m t o g (run E ops.toList K os) .on→WM E.P ops m (o::os) g (K .on):=by
       intro c hc NU hd
       subst NU
       rcases fj hd with⟨R,δ,h1,h2⟩|⟨_,h0,_⟩
       rotate_left
       ·cases h0
       exact Eg (Fs.run hg hj hc h1) (ih _ _ h2)
      have hno:∀c,nth g.sl t= .d (.val (.bool c))→c≠b→Ti m t g (run E ops.toList K os) o.dst .on→WM E.P ops m (o::os) g (K .on):=by
       intro c hc NU hd
       cases hdst:o.dst with
       | none=>rw[hdst] at hd;exact hd.elim
       | some d=>
         rw[hdst] at hd
         exact Eg (Fs.skip hg hj hc NU hdst) (ih _ _ hd)
      cases hv:nth g.sl t<;>rw[hv] at h<;>first
       | (simp only[r4] at h;done)
       | skip
      ·simp only[r4] at h
       cases hdst:o.dst with
       | none=>rw[hdst] at h;exact h.elim
       | some d=>
         rw[hdst] at h
         exact Eg (Fs.aam hg hj hv hdst) (ih _ _ h)
      ·rename_i x
       cases x with
       | str s=>simp only[r4] at h
       | dP s=>simp only[r4] at h
       | val v=>
         cases v<;>first
          | (simp only[r4] at h;done)
          | skip
         rename_i c
         cases b with
         | true=>
           simp only[r4] at h
           rcases xM h with⟨h1,h2⟩|⟨h1,h2⟩
           ·exact hyes c hv h1 h2
           ·exact hno c hv (by rw[h1];simp) h2
         | false=>
           simp only[r4] at h
           rcases xM h with⟨h1,h2⟩|⟨h1,h2⟩
           ·exact hno c hv (by rw[h1];simp) h2
           ·exact hyes c hv h1 h2
def QD(K:qO→G→Prop)(Q:qO→Ex→G→Prop):qO→Ex→G→Prop
 | .on,.normal,g=>K .on g
 | .on,.exit id,g=>Q .on (.exit id) g
 | .on,.ret,g=>Q .on .ret g
 | .off,_,_=>False
def F5(id:Nat)(Q:qO→Ex→G→Prop):qO→Ex→G→Prop
 | .on,.normal,g=>Q .on .normal g
 | .on,.exit i,g=>match ja i id with|true=>Q .on .normal g|false=>Q .on (.exit i) g
 | .on,.ret,g=>Q .on .ret g
 | .off,_,_=>False
def Uj(Q:qO→Ex→G→Prop):qO→G→Prop
 | .on,g=>Q .on .normal g
 | .off,_=>False
def U6:PV→(qO→Prop)→(qO→Prop)→Prop
 | .d (.val (.bool b)),x,y=>Zg b x y
 | _,_,_=>False
def Zd(E:Env)(ops:List Oper)(Q:qO→Ex→G→Prop)(g:G):Bool→Prop
 | false=>run E ops (Uj Q) ops .on none g
 | true=>run E ops (Uj Q) ops .on (some []) g
def Ly(E:Env)(n0:Nat):Code→qO→G→(qO→Ex→G→Prop)→Prop
 | .skip,.on,g,Q=>Q .on .normal g
 | .exit id,.on,g,Q=>Q .on (.exit id) g
 | .ret,.on,g,Q=>Q .on .ret g
 | .seq a b,.on,g,Q=>Ly E n0 a .on g (QD (fun tok g'=>Ly E n0 b tok g' Q) Q)
 | .cond c x y,.on,g,Q=>U6 (g.ev c) (fun tok=>Ly E n0 x tok g Q) (fun tok=>Ly E n0 y tok g Q)
 | .block id c,.on,g,Q=>Ly E n0 c .on g (F5 id Q)
 | .region _ ops dr,.on,g,Q=>Zd E ops.toList Q g dr
 | .loop c,.on,g,Q=>W E.P n0 (.loop c) g (Q .on)
 | _,_,_,_=>False
theorem Pn{E:Env}(hm:E.P.follows .mixedOrders=true){n0:Nat}:∀(c:Code)(g:G)(Q:qO→Ex→G→Prop),Ly E n0 c .on g Q→W E.P n0 c g (Q .on):=by
 intro c
 induction c with
 | skip=>intro g Q h;exact YS h
 | exit id=>intro g Q h;exact YX h
 | ret=>intro g Q h;exact QZ h
 | seq a b iha ihb=>
   intro g Q h
   have:=iha g _ h
   refine ff (fun X ν ac w hp hs=>wp_mono (this X ν ac w hp hs) fun e a' w' hl=>?_)
   cases e with
   | normal=>obtain⟨g',ν',h1,h2⟩:=hl;exact⟨g',ν',ihb g' Q h1,h2⟩
   | exit id=>exact hl
   | ret=>exact hl
   | goto l=>exact hl
   | panic c=>exact hl
   | outgrown=>exact hl
 | cond c x y ihx ihy=>
   intro g Q h
   simp only[Ly] at h
   unfold U6 at h
   split at h
   ·rename_i b hb
    refine KH hb (fun hc=>?_) (fun hc=>?_)
    ·rcases xM h with⟨h1,h2⟩|⟨h1,h2⟩
     ·exact ihx g Q h2
     ·rw[hc] at h1;cases h1
    ·rcases xM h with⟨h1,h2⟩|⟨h1,h2⟩
     ·rw[hc] at h1;cases h1
     ·exact ihy g Q h2
   ·exact h.elim
 | block id c ih=>
   intro g Q h
   have:=ih g _ h
   refine El (fun X ν ac w hp hs=>wp_mono (this X ν ac w hp hs) fun e a' w' hl=>?_)
   cases e with
   | normal=>exact hl
   | exit i=>
     obtain⟨g',ν',h1,h2⟩:=hl
     refine⟨g',ν',?_,h2⟩
     simp only[F5] at h1
     simp only[Cr]
     split at h1
     ·rename_i he
      rw[if_pos (bI he)]
      exact h1
     ·rename_i he
      rw[if_neg (fun e=>by subst e;simp at he)]
      exact h1
   | ret=>exact hl
   | goto l=>exact hl
   | panic c=>exact hl
   | outgrown=>exact hl
 | region id ops dr=>
   intro g Q h
   simp only[Ly] at h
   cases dr with
   | false=>exact oz (Pt ops.toList none g h)
   | true=>exact Xu hm (Pt ops.toList (some []) g h)
 | loop c _=>intro g Q h;exact h
 | _=>intro g Q h;simp[Ly] at h
end Go.Eng
