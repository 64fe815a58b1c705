/-
  The symbolic layer, sixteenth text: a state seen with less, its owned places under other numbers, a grown slice seen as data.
-/
import Derived.Test.YtgpjhjalfakpoaaGreatKBB
import Derived.Laws.BytesArg
import Derived.Laws.Slices
set_option linter.unusedVariables false
set_option linter.unusedSimpArgs false
open Array renaming length_toList→cO
open Bool renaming and_eq_true→ae,false_or→iQ
open Int renaming toNat_natCast→aA
open List renaming getElem?_eq_getElem→ab,drop_of_length_le→ag,take_of_length_le→an,length_append→ao,length_cons→aq,mem_cons→aw,mem_append→aG,map_cons→aR,getElem?_append_right→aX,getElem?_append_left→aZ,eq_nil_of_length_eq_zero→ba,append_assoc→bf,length_map→bl,nil_append→bB,append_nil→bC,getD→bK,cons_append→bO,mem_map→bQ,flatten_cons→bU,take_succ_cons→cw,take_append_of_le_length→cG,getElem?_take→cJ,map_nil→cK,getElem?_drop→c9,length_set→dw,mem_of_getElem?→dE,getElem?_map→dQ,map_toArray→eu,length_drop→ey,size_toArray→fL,getElem?_set→fO,take_append_drop→hP,nodup_append→ia,map_congr_left→iC,set_cons_zero→jd,set_cons_succ→je,mem_flatMap→ki,drop_drop→mi
open Nat renaming le_refl→ar,mul_le_mul_right→aY,eq_of_beq_eq_true→a6,add_mul→br,zero_add→bV,lt_or_ge→cI,zero_le→cN,le_trans→eC,beq→eU,le_mul_of_pos_right→ju,zero_mul→lG
open Option renaming isSome_iff_exists→b8,map_none→dU
namespace Go.Eng
open Go.RowKit
theorem nB{w:World}{ok ok':Nat→Prop}{e:TypeId}{sz:Nat}{v:Value}{xs:List (List D)}{us:List (List Value)}(ho:w.ownsRow 0 e sz v xs.length us.flatten)(hr:bg w ok sz xs us)(hB:xs.length≤LB)
 (kC:∀b,oE v=some b→ok' b) (hf:∀b,ok b→b<w.heap.size→ok' b∧w.heap[b]?=w.heap[b]?):dC w ok' (.b7 xs) v:=by
 rcases ho.2 with⟨h1,h2⟩|⟨b,cap,cur,h1,_,h2,h3,h4,h5,h6⟩
 ·obtain rfl:=ba h2
  rw[h1];exact .nil
 ·subst h1
  have hr':=hr.frame hf (ar _)
  refine .b7 xs us b 0 cap sz (kC b rfl) (n7 h2) h3 h4 hB hr'.len hr'.hx hr'.hu (fun j u hu=>?_) hr'.hr
  have hj:j<us.flatten.length:=by
   rcases cI j us.flatten.length with h' | h'
   ·exact h'
   ·rw[List.getElem?_eq_none h'] at hu;cases hu
  rw[←h6] at hu
  have hu2:cur.toList[j]?=some u:=by
   rw[cJ] at hu
   split at hu
   ·exact hu
   ·cases hu
  have hcur:cur[j]?=some u:=by simpa using hu2
  simp[World.cell?,h2,hcur]
mutual
def T.zr:T→Option D
 | .leaf d=>some d
 | .ref _=>none
 | .own _ xs=>match b6 xs with|some ys=>some (.b7 ys)|none=>none
def eb:List T→Option (List D)
 | []=>some []
 | t::ts=>match t.zr,eb ts with|some d,some ds=>some (d::ds)|_,_=>none
def b6:List (List T)→Option (List (List D))
 | []=>some []
 | x::xs=>match eb x,b6 xs with|some y,some ys=>some (y::ys)|_,_=>none
end
def Dj:Option En→D→Prop
 | some (.acc _ xs),y=>y= .b7 xs
 | some (.cY _ xs),y=>∃ys,b6 xs=some ys∧y= .b7 ys
 | _,_=>False
section
variable{P:Program}{w:World}{ok ok':Nat→Prop}{ν ν':Nat→Nm}{st st':Nat→Option En}
mutual
theorem fP.data(hf:∀b,ok b→b<w.heap.size→ok' b∧w.heap[b]?=w.heap[b]?):∀(t:T)(v:Value)(F:List Nat)(d:D),t.zr=some d→fP P w ok ν st t v F→(∀b∈F,ok' b)→dC w ok' d v
 | .leaf x,v,F,d,hd,h,_=>by
   simp only[T.zr,Option.some.injEq] at hd
   simp only[fP] at h
   rw[←hd]
   exact h.1.frame hf (ar _)
 | .ref j,v,F,d,hd,_,_=>by simp[T.zr] at hd
 | .own e xs,v,F,d,hd,h,hF=>by
   simp only[T.zr] at hd
   split at hd
   ·rename_i ys hys
    obtain rfl:=Option.some.inj hd
    simp only[fP] at h
    obtain⟨us,F1,h1,h2,h3,h4,rfl⟩:=h
    obtain⟨k1,k2,k3⟩:=aU.data hf xs us F1 ys hys h3 (fun b hb=>hF b (aG.2 (.inr hb)))
    refine nB (ok:=ok') (by rw[←k2];exact h1) ⟨k1,fun i x hx=>?_,h2,fun i j x u dd vv a1 a2 a3 a4=>(k3 i x u a1 a2).2 j dd vv a3 a4⟩ (by rw[←k2];exact h4) (fun b hb=>hF b (aG.2 (.inl (s8.2 hb)))) (fun b hb _=>⟨hb,rfl⟩)
    have hi:i<us.length:=by
     rw[k1]
     exact(List.getElem?_eq_some_iff.1 hx).1
    rw[(k3 i x us[i] hx (ab hi)).1]
    exact h2 i _ (ab hi)
   ·cases hd
theorem aE.data(hf:∀b,ok b→b<w.heap.size→ok' b∧w.heap[b]?=w.heap[b]?):∀(ts:List T)(vs:List Value)(F:List Nat)(ds:List D),eb ts=some ds→aE P w ok ν st ts vs F→(∀b∈F,ok' b)→ds.length=vs.length∧∀(j:Nat)(d:D)(v:Value),ds[j]?=some d→vs[j]?=some v→dC w ok' d v
 | [],[],F,ds,hd,_,_=>by
   simp only[eb,Option.some.injEq] at hd
   rw[←hd]
   simp
 | [],_::_,F,ds,_,h,_=>by simp[aE] at h
 | _::_,[],F,ds,_,h,_=>by simp[aE] at h
 | t::ts,v::vs,F,ds,hd,h,hF=>by
   simp only[eb] at hd
   split at hd
   ·rename_i d' ds' e1 e2
    obtain rfl:=Option.some.inj hd
    simp only[aE] at h
    obtain⟨F1,F2,h1,h2,rfl⟩:=h
    have k1:=fP.data hf t v F1 d' e1 h1 fun b hb=>hF b (aG.2 (.inl hb))
    obtain⟨k2,k3⟩:=aE.data hf ts vs F2 ds' e2 h2 fun b hb=>hF b (aG.2 (.inr hb))
    refine⟨by simp[k2],fun j d u a1 a2=>?_⟩
    cases j with
    | zero=>
      obtain rfl:d'=d:=by simpa using a1
      obtain rfl:v=u:=by simpa using a2
      exact k1
    | succ j=>exact k3 j d u (by simpa using a1) (by simpa using a2)
   ·cases hd
theorem aU.data(hf:∀b,ok b→b<w.heap.size→ok' b∧w.heap[b]?=w.heap[b]?):∀(xs:List (List T))(us:List (List Value))(F:List Nat)(ys:List (List D)),b6 xs=some ys→aU P w ok ν st xs us F→(∀b∈F,ok' b)→us.length=ys.length∧xs.length=ys.length∧∀(i:Nat)(x:List D)(u:List Value),ys[i]?=some x→us[i]?=some u→x.length=u.length∧∀(j:Nat)(d:D)(v:Value),x[j]?=some d→u[j]?=some v→dC w ok' d v
 | [],[],F,ys,hd,_,_=>by
   simp only[b6,Option.some.injEq] at hd
   rw[←hd]
   simp
 | [],_::_,F,ds,_,h,_=>by simp[aU] at h
 | _::_,[],F,ds,_,h,_=>by simp[aU] at h
 | x::xs,u::us,F,ys,hd,h,hF=>by
   simp only[b6] at hd
   split at hd
   ·rename_i y' ys' e1 e2
    obtain rfl:=Option.some.inj hd
    simp only[aU] at h
    obtain⟨F1,F2,h1,h2,rfl⟩:=h
    have k1:=aE.data hf x u F1 y' e1 h1 fun b hb=>hF b (aG.2 (.inl hb))
    obtain⟨k2,k3,k4⟩:=aU.data hf xs us F2 ys' e2 h2 fun b hb=>hF b (aG.2 (.inr hb))
    refine⟨by simp[k2],by simp[k3],fun i z q a1 a2=>?_⟩
    cases i with
    | zero=>
      obtain rfl:y'=z:=by simpa using a1
      obtain rfl:u=q:=by simpa using a2
      exact k1
    | succ i=>exact k4 i z q (by simpa using a1) (by simpa using a2)
   ·cases hd
end
mutual
theorem fP.still:∀(t:T)(v:Value)(F:List Nat),t.zr.isSome=true→fP P w ok ν st t v F→fP P w ok ν' st' t v F
 | .leaf x,v,F,_,h=>by simpa only[fP] using h
 | .ref j,v,F,hd,_=>by simp[T.zr] at hd
 | .own e xs,v,F,hd,h=>by
   simp only[T.zr] at hd
   simp only[fP] at h⊢
   obtain⟨us,F1,h1,h2,h3,h4⟩:=h
   refine⟨us,F1,h1,h2,aU.still xs us F1 ?_ h3,h4⟩
   split at hd
   ·rename_i e;rw[e];rfl
   ·cases hd
theorem aE.still:∀(ts:List T)(vs:List Value)(F:List Nat),(eb ts).isSome=true→aE P w ok ν st ts vs F→aE P w ok ν' st' ts vs F
 | [],[],F,_,h=>by simpa only[aE] using h
 | [],_::_,F,_,h=>by simp[aE] at h
 | _::_,[],F,_,h=>by simp[aE] at h
 | t::ts,v::vs,F,hd,h=>by
   simp only[eb] at hd
   simp only[aE] at h⊢
   obtain⟨F1,F2,h1,h2,h3⟩:=h
   split at hd
   ·rename_i e1 e2
    exact⟨F1,F2,fP.still t v F1 (by rw[e1];rfl) h1,aE.still ts vs F2 (by rw[e2];rfl) h2,h3⟩
   ·cases hd
theorem aU.still:∀(xs:List (List T))(us:List (List Value))(F:List Nat),(b6 xs).isSome=true→aU P w ok ν st xs us F→aU P w ok ν' st' xs us F
 | [],[],F,_,h=>by simpa only[aU] using h
 | [],_::_,F,_,h=>by simp[aU] at h
 | _::_,[],F,_,h=>by simp[aU] at h
 | x::xs,u::us,F,hd,h=>by
   simp only[b6] at hd
   simp only[aU] at h⊢
   obtain⟨F1,F2,h1,h2,h3⟩:=h
   split at hd
   ·rename_i e1 e2
    exact⟨F1,F2,aE.still x u F1 (by rw[e1];rfl) h1,aU.still xs us F2 (by rw[e2];rfl) h2,h3⟩
   ·cases hd
end
def lift(xs:List (List D)):List (List T):=xs.map fun x=>x.map T.leaf
theorem qt:∀(x:List D),eb (x.map T.leaf)=some x
 | []=>rfl
 | d::x=>by simp[eb,T.zr,qt x]
theorem lD:∀(xs:List (List D)),b6 (lift xs)=some xs
 | []=>rfl
 | x::xs=>by
   have:=lD xs
   simp only[lift] at this
   simp[lift,b6,qt,this]
theorem aE.rM:∀{ds:List D}{vs:List Value},vs.length=ds.length→(∀(j:Nat)(d:D)(v:Value),ds[j]?=some d→vs[j]?=some v→dC w ok d v)→aE P w ok ν st (ds.map T.leaf) vs []
 | [],[],_,_=>by simp[aE]
 | d::ds,v::vs,hl,h=>by
   simp only[aR,aE,fP]
   exact⟨[],[],⟨h 0 d v rfl rfl,rfl⟩,aE.rM (by simpa using hl) fun j d v a1 a2=>h (j+1) d v (by simpa using a1) (by simpa using a2),rfl⟩
 | [],_::_,hl,_=>by simp at hl
 | _::_,[],hl,_=>by simp at hl
theorem aU.rM{sz:Nat}:∀{xs:List (List D)}{us:List (List Value)},bg w ok sz xs us→aU P w ok ν st (lift xs) us []
 | [],[],_=>by simp[lift,aU]
 | x::xs,u::us,h=>by
   simp only[lift,aR,aU]
   refine⟨[],[],aE.rM ?_ fun j d v a1 a2=>h.hr 0 j x u d v rfl rfl a1 a2,aU.rM (sz:=sz) (xs:=xs) ⟨by simpa using h.len,fun i x hx=>h.hx (i+1) x (by simpa using hx),fun i u hu=>h.hu (i+1) u (by simpa using hu),fun i j x u d v a1 a2 a3 a4=>h.hr (i+1) j x u d v (by simpa using a1) (by simpa using a2) a3 a4⟩,rfl⟩
   rw[h.hu 0 u rfl,h.hx 0 x rfl]
 | [],_::_,h=>by have:=h.len;simp at this
 | _::_,[],h=>by have:=h.len;simp at this
theorem l6(xs:List (List D)):(lift xs).length=xs.length:=by simp[lift]
end
def dN:List (Option Nat)→Nat→Option (Option Nat)
 | [],_=>none
 | a::_,0=>some a
 | _::as,n+1=>dN as n
def vl(k:Nat):List (Option Nat)→Bool
 | []=>false
 | some j::r=>k == j||vl k r
 | none::r=>vl k r
def NQ:List (Option Nat)→Bool
 | []=>true
 | some j::r=>!vl j r&&NQ r
 | none::r=>NQ r
mutual
def wk(g:G)(m:List (Option Nat)):PV→PV→Prop
 | p,.any=>True
 | .aV,.aV=>True
 | .undef,.undef=>True
 | .aV,.d y=>y= .b7 []
 | .aV,.acc k'=>dN m k'=some none
 | .d x,.d y=>x=y
 | .acc k,.d y=>Dj (g.at k) y∧vl k m=false
 | .acc k,.acc k'=>dN m k'=some (some k)
 | .ptr k off,.ptr k' off'=>dN m k'=some (some k)∧off=off'
 | .dv k i off sz,.dv k' i' off' sz'=>dN m k'=some (some k)∧i=i'∧off=off'∧sz=sz'
 | .di xs i off,.di ys j off'=>xs=ys∧i=j∧off=off'
 | .agg cs,.agg ds=>rB g m cs ds
 | .gN cs,.gN ds=>rB g m cs ds
 | .fn f cs,.fn f' ds=>f=f'∧rB g m cs ds
 | _,_=>False
def rB(g:G)(m:List (Option Nat)):List PV→List PV→Prop
 | [],[]=>True
 | p::ps,q::qs=>wk g m p q∧rB g m ps qs
 | _,_=>False
end
def s6(g:G)(m:List (Option Nat)):En→En→Prop
 | _,.dead=>True
 | .box cs,.box ds=>rB g m cs ds
 | .acc e xs,.acc e' ys=>e=e'∧xs=ys
 | .acc e xs,.cY e' ys=>e=e'∧lift xs=ys
 | .cY e xs,.cY e' ys=>e=e'∧xs=ys∧(b6 xs).isSome=true
 | .map yO,.map kvs'=>yO=kvs'
 | _,_=>False
def hE(g:G)(m:List (Option Nat)):List (Option Nat)→List (Option En)→Prop
 | [],[]=>True
 | some k::ks,some e'::es=>(∃e,g.at k=some e∧s6 g m e e')∧hE g m ks es
 | none::ks,some (.acc _ xs)::es=>xs=[]∧hE g m ks es
 | none::ks,some (.cY _ xs)::es=>xs=[]∧hE g m ks es
 | _,_=>False
def keeps:Nat→Nat→List (Option Nat)→Bool
 | 0,_,_=>true
 | n+1,i,some j::r=>i == j&&keeps n (i+1) r
 | _,_,_=>false
def EM(k:Nat):List (Option Nat)→List (Option En)→Bool
 | some j::r,some e::es=>(e.live&&k == j)||EM k r es
 | _::r,_::es=>EM k r es
 | _,_=>false
def uh:List (Option Nat)→List (Option En)→Bool
 | some j::r,some e::es=>(!e.live|| !EM j r es)&&uh r es
 | _::r,_::es=>uh r es
 | _,_=>true
structure Wk(n0:Nat)(m:List (Option Nat))(g g':G):Prop where
 s:rB g m g.sl g'.sl
 p:hE g m m g'.st
 Pt:uh m g'.st=true
 keep:keeps n0 0 m=true
theorem zP:∀{m:List (Option Nat)}{i k:Nat},dN m i=some (some k)→vl k m=true
 | [],_,_,h=>by simp[dN] at h
 | a::as,0,k,h=>by
   simp only[dN,Option.some.injEq] at h
   subst h
   simp[vl]
 | a::as,n+1,k,h=>by
   simp only[dN] at h
   have:=zP h
   cases a<;>simp[vl,this]
theorem Bs:∀{m:List (Option Nat)}{es:List (Option En)}{i k:Nat}{e:En},dN m i=some (some k)→bR es i=some e→e.live=true→EM k m es=true
 | [],_,_,_,_,h,_,_=>by simp[dN] at h
 | _::_,[],i,_,_,_,h,_=>by cases i<;>simp[bR] at h
 | a::as,o::os,0,k,e,h,h2,h3=>by
   simp only[dN,Option.some.injEq] at h
   simp only[bR] at h2
   subst h h2
   simp[EM,h3]
 | a::as,o::os,i+1,k,e,h,h2,h3=>by
   simp only[dN] at h
   simp only[bR] at h2
   have:=Bs h h2 h3
   cases a<;>cases o<;>simp[EM,this]
theorem zY:∀{m:List (Option Nat)}{es:List (Option En)},uh m es=true→∀{i j k:Nat}{e e':En},dN m i=some (some k)→dN m j=some (some k)→bR es i=some e→bR es j=some e'→e.live=true→e'.live=true→i=j
 | [],_,_,_,_,_,_,_,h,_,_,_,_,_=>by simp[dN] at h
 | _::_,[],_,i,_,_,_,_,_,_,h,_,_,_=>by cases i<;>simp[bR] at h
 | a::as,o::os,hn,0,0,_,_,_,_,_,_,_,_,_=>rfl
 | a::as,o::os,hn,0,j+1,k,e,e',h1,h2,g1,g2,l1,l2=>by
   simp only[dN,Option.some.injEq] at h1 h2
   simp only[bR] at g1 g2
   subst h1 g1
   have:=Bs h2 g2 l2
   simp[uh,this,l1] at hn
 | a::as,o::os,hn,i+1,0,k,e,e',h1,h2,g1,g2,l1,l2=>by
   simp only[dN,Option.some.injEq] at h1 h2
   simp only[bR] at g1 g2
   subst h2 g2
   have:=Bs h1 g1 l1
   simp[uh,this,l2] at hn
 | a::as,o::os,hn,i+1,j+1,k,e,e',h1,h2,g1,g2,l1,l2=>by
   simp only[dN] at h1 h2
   simp only[bR] at g1 g2
   have hn':uh as os=true:=by
    cases a<;>cases o<;>simp only[uh,ae] at hn<;>first|exact hn|exact hn.2
   rw[zY hn' h1 h2 g1 g2 l1 l2]
theorem yo:∀{n i:Nat}{m:List (Option Nat)},keeps n i m=true→∀j,j<n→dN m j=some (some (i+j))
 | 0,_,_,_,j,h=>by omega
 | n+1,i,[],h,_,_=>by simp[keeps] at h
 | n+1,i,none::r,h,_,_=>by simp[keeps] at h
 | n+1,i,some a::r,h,j,hj=>by
   simp only[keeps,ae,beq_iff_eq] at h
   obtain⟨rfl,h2⟩:=h
   cases j with
   | zero=>rfl
   | succ j=>
     simp only[dN]
     rw[yo h2 j (by omega)]
     congr 2;omega
theorem wm{g:G}{m:List (Option Nat)}:∀{ks:List (Option Nat)}{es:List (Option En)},hE g m ks es→∀(i:Nat)(e':En),bR es i=some e' →
 (∃k e,dN ks i=some (some k)∧g.at k=some e∧s6 g m e e')∨(dN ks i=some none∧∃t,e'= .acc t []∨e'= .cY t [])
 | [],[],_,i,e',h=>by cases i<;>simp[bR] at h
 | some k::ks,some e::es,hw,0,e',h=>by
   simp only[hE] at hw
   obtain⟨⟨e0,h1,h2⟩,_⟩:=hw
   obtain rfl:e=e':=by simpa[bR] using h
   exact .inl ⟨k,e0,rfl,h1,h2⟩
 | some k::ks,some e::es,hw,i+1,e',h=>by
   simp only[hE] at hw
   simp only[dN]
   exact wm hw.2 i e' (by simpa[bR] using h)
 | none::ks,some (.acc t xs)::es,hw,0,e',h=>by
   simp only[hE] at hw
   obtain rfl:En.acc t xs=e':=by simpa[bR] using h
   exact .inr ⟨rfl,t,.inl (by rw[hw.1])⟩
 | none::ks,some (.acc t xs)::es,hw,i+1,e',h=>by
   simp only[hE] at hw
   simp only[dN]
   exact wm hw.2 i e' (by simpa[bR] using h)
 | none::ks,some (.cY t xs)::es,hw,0,e',h=>by
   simp only[hE] at hw
   obtain rfl:En.cY t xs=e':=by simpa[bR] using h
   exact .inr ⟨rfl,t,.inr (by rw[hw.1])⟩
 | none::ks,some (.cY t xs)::es,hw,i+1,e',h=>by
   simp only[hE] at hw
   simp only[dN]
   exact wm hw.2 i e' (by simpa[bR] using h)
 | none::ks,some (.box _)::es,hw,_,_,_=>by simp[hE] at hw
 | none::ks,some .dead::es,hw,_,_,_=>by simp[hE] at hw
 | none::ks,some (.map _)::es,hw,_,_,_=>by simp[hE] at hw
 | some k::ks,none::es,hw,_,_,_=>by simp[hE] at hw
 | none::ks,none::es,hw,_,_,_=>by simp[hE] at hw
 | some k::ks,[],hw,_,_,_=>by simp[hE] at hw
 | none::ks,[],hw,_,_,_=>by simp[hE] at hw
 | [],_::_,hw,_,_,_=>by simp[hE] at hw
theorem pK{g:G}{m:List (Option Nat)}:∀{ks:List (Option Nat)}{es:List (Option En)},hE g m ks es→∀(i:Nat)(x:Option Nat),dN ks i=some x→(bR es i).isSome=true
 | [],[],_,i,x,h=>by simp[dN] at h
 | some k::ks,some e::es,hw,0,x,h=>rfl
 | some k::ks,some e::es,hw,i+1,x,h=>by
   simp only[hE] at hw
   simp only[bR]
   exact pK hw.2 i x (by simpa[dN] using h)
 | none::ks,some (.acc t xs)::es,hw,0,x,h=>rfl
 | none::ks,some (.acc t xs)::es,hw,i+1,x,h=>by
   simp only[hE] at hw
   simp only[bR]
   exact pK hw.2 i x (by simpa[dN] using h)
 | none::ks,some (.cY t xs)::es,hw,0,x,h=>rfl
 | none::ks,some (.cY t xs)::es,hw,i+1,x,h=>by
   simp only[hE] at hw
   simp only[bR]
   exact pK hw.2 i x (by simpa[dN] using h)
 | none::ks,some (.box _)::es,hw,_,_,_=>by simp[hE] at hw
 | none::ks,some .dead::es,hw,_,_,_=>by simp[hE] at hw
 | none::ks,some (.map _)::es,hw,_,_,_=>by simp[hE] at hw
 | some k::ks,none::es,hw,_,_,_=>by simp[hE] at hw
 | none::ks,none::es,hw,_,_,_=>by simp[hE] at hw
 | some k::ks,[],hw,_,_,_=>by simp[hE] at hw
 | none::ks,[],hw,_,_,_=>by simp[hE] at hw
 | [],_::_,hw,_,_,_=>by simp[hE] at hw
def FK(ν:Nat→Nm)(m:List (Option Nat))(i:Nat):Nm:=
 match dN m i with
 | some (some k)=>ν k
 | _=>⟨.slice none 0 0,[]⟩
theorem gl{ν:Nat→Nm}{m:List (Option Nat)}{i k:Nat}(h:dN m i=some (some k)):FK ν m i=ν k:=by simp[FK,h]
theorem iM{ν:Nat→Nm}{m:List (Option Nat)}{i:Nat}(h:dN m i=some none):FK ν m i=⟨.slice none 0 0,[]⟩:=by simp[FK,h]
section
variable{w:World}{ok ok':Nat→Prop}{ν:Nat→Nm}{g:G}{m:List (Option Nat)}{st':Nat→Option En}
mutual
theorem aj.wk(hf:∀b,ok b→b<w.heap.size→ok' b∧w.heap[b]?=w.heap[b]?)(dh:∀i x,dN m i=some x→(st' i).isSome=true)
 (hacc:∀k y,Dj (g.at k) y→vl k m=false→dC w ok' y (ν k).v) :
 ∀(p q:PV)(v:Value),wk g m p q→aj w ok ν g.at p v→aj w ok' (FK ν m) st' q v
 | p,.any,_,_,_=>by simp[aj]
 | .aV,.aV,v,_,h=>by simpa[aj] using h
 | .undef,.undef,v,_,h=>by simpa[aj] using h
 | .aV,.d y,v,hw,h=>by
   simp only[Eng.wk] at hw
   simp only[aj] at h⊢
   rw[hw,h];exact .nil
 | .aV,.acc k',v,hw,h=>by
   simp only[Eng.wk] at hw
   simp only[aj] at h⊢
   rw[iM hw]
   exact⟨dh _ _ hw,h⟩
 | .d x,.d y,v,hw,h=>by
   simp only[Eng.wk] at hw
   simp only[aj] at h⊢
   rw[←hw]
   exact h.frame hf (ar _)
 | .acc k,.d y,v,hw,h=>by
   simp only[Eng.wk] at hw
   simp only[aj] at h⊢
   rw[h.2]
   exact hacc k y hw.1 hw.2
 | .acc k,.acc k',v,hw,h=>by
   simp only[Eng.wk] at hw
   simp only[aj] at h⊢
   rw[gl hw]
   exact⟨dh _ _ hw,h.2⟩
 | .ptr k off,.ptr k' off',v,hw,h=>by
   simp only[Eng.wk] at hw
   obtain⟨hw,rfl⟩:=hw
   simp only[aj] at h⊢
   rw[gl hw]
   exact⟨dh _ _ hw,h.2⟩
 | .dv k i off sz,.dv k' i' off' sz',v,hw,h=>by
   simp only[Eng.wk] at hw
   obtain⟨hw,rfl,rfl,rfl⟩:=hw
   simp only[aj] at h⊢
   rw[gl hw]
   exact⟨dh _ _ hw,h.2⟩
 | .di xs i off,.di ys j off',v,hw,h=>by
   simp only[Eng.wk] at hw
   obtain⟨rfl,rfl,rfl⟩:=hw
   simp only[aj] at h⊢
   obtain⟨b,o,cap,h1,h2,h3⟩:=h
   exact⟨b,o,cap,h1.frame hf (ar _),h2,h3⟩
 | .agg cs,.agg ds,v,hw,h=>by
   simp only[Eng.wk] at hw
   simp only[aj] at h⊢
   obtain⟨vs,rfl,h⟩:=h
   exact⟨vs,rfl,ai.wk hf dh hacc cs ds vs hw h⟩
 | .gN cs,.gN ds,v,hw,h=>by
   simp only[Eng.wk] at hw
   simp only[aj] at h⊢
   obtain⟨vs,rfl,h⟩:=h
   exact⟨vs,rfl,ai.wk hf dh hacc cs ds vs hw h⟩
 | .fn f cs,.fn f' ds,v,hw,h=>by
   simp only[Eng.wk] at hw
   obtain⟨rfl,hw⟩:=hw
   simp only[aj] at h⊢
   obtain⟨vs,rfl,h⟩:=h
   exact⟨vs,rfl,ai.wk hf dh hacc cs ds vs hw h⟩
 | .any,.undef,_,hw,_ | .any,.aV,_,hw,_ | .any,.d _,_,hw,_ | .any,.agg _,_,hw,_ | .any,.gN _,_,hw,_ | .any,.ptr _ _,_,hw,_ | .any,.acc _,_,hw,_ | .any,.dv _ _ _ _,_,hw,_ | .any,.di _ _ _,_,hw,_ | .any,.fn _ _,_,hw,_=>by simp[Eng.wk] at hw
 | .undef,.aV,_,hw,_ | .undef,.d _,_,hw,_ | .undef,.agg _,_,hw,_ | .undef,.gN _,_,hw,_ | .undef,.ptr _ _,_,hw,_ | .undef,.acc _,_,hw,_ | .undef,.dv _ _ _ _,_,hw,_ | .undef,.di _ _ _,_,hw,_ | .undef,.fn _ _,_,hw,_=>by simp[Eng.wk] at hw
 | .aV,.undef,_,hw,_ | .aV,.agg _,_,hw,_ | .aV,.gN _,_,hw,_ | .aV,.ptr _ _,_,hw,_ | .aV,.dv _ _ _ _,_,hw,_ | .aV,.di _ _ _,_,hw,_ | .aV,.fn _ _,_,hw,_=>by simp[Eng.wk] at hw
 | .d _,.undef,_,hw,_ | .d _,.aV,_,hw,_ | .d _,.agg _,_,hw,_ | .d _,.gN _,_,hw,_ | .d _,.ptr _ _,_,hw,_ | .d _,.acc _,_,hw,_ | .d _,.dv _ _ _ _,_,hw,_ | .d _,.di _ _ _,_,hw,_ | .d _,.fn _ _,_,hw,_=>by simp[Eng.wk] at hw
 | .agg _,.undef,_,hw,_ | .agg _,.aV,_,hw,_ | .agg _,.d _,_,hw,_ | .agg _,.gN _,_,hw,_ | .agg _,.ptr _ _,_,hw,_ | .agg _,.acc _,_,hw,_ | .agg _,.dv _ _ _ _,_,hw,_ | .agg _,.di _ _ _,_,hw,_ | .agg _,.fn _ _,_,hw,_=>by simp[Eng.wk] at hw
 | .gN _,.undef,_,hw,_ | .gN _,.aV,_,hw,_ | .gN _,.agg _,_,hw,_ | .gN _,.d _,_,hw,_ | .gN _,.ptr _ _,_,hw,_ | .gN _,.acc _,_,hw,_ | .gN _,.dv _ _ _ _,_,hw,_ | .gN _,.di _ _ _,_,hw,_ | .gN _,.fn _ _,_,hw,_=>by simp[Eng.wk] at hw
 | .ptr _ _,.undef,_,hw,_ | .ptr _ _,.aV,_,hw,_ | .ptr _ _,.agg _,_,hw,_ | .ptr _ _,.d _,_,hw,_ | .ptr _ _,.gN _,_,hw,_ | .ptr _ _,.acc _,_,hw,_ | .ptr _ _,.dv _ _ _ _,_,hw,_ | .ptr _ _,.di _ _ _,_,hw,_ | .ptr _ _,.fn _ _,_,hw,_=>by simp[Eng.wk] at hw
 | .acc _,.undef,_,hw,_ | .acc _,.aV,_,hw,_ | .acc _,.agg _,_,hw,_ | .acc _,.gN _,_,hw,_ | .acc _,.ptr _ _,_,hw,_ | .acc _,.dv _ _ _ _,_,hw,_ | .acc _,.di _ _ _,_,hw,_ | .acc _,.fn _ _,_,hw,_=>by simp[Eng.wk] at hw
 | .dv _ _ _ _,.undef,_,hw,_ | .dv _ _ _ _,.aV,_,hw,_ | .dv _ _ _ _,.agg _,_,hw,_ | .dv _ _ _ _,.d _,_,hw,_ | .dv _ _ _ _,.gN _,_,hw,_ | .dv _ _ _ _,.ptr _ _,_,hw,_ | .dv _ _ _ _,.acc _,_,hw,_ | .dv _ _ _ _,.di _ _ _,_,hw,_ | .dv _ _ _ _,.fn _ _,_,hw,_=>by simp[Eng.wk] at hw
 | .di _ _ _,.undef,_,hw,_ | .di _ _ _,.aV,_,hw,_ | .di _ _ _,.agg _,_,hw,_ | .di _ _ _,.d _,_,hw,_ | .di _ _ _,.gN _,_,hw,_ | .di _ _ _,.ptr _ _,_,hw,_ | .di _ _ _,.acc _,_,hw,_ | .di _ _ _,.dv _ _ _ _,_,hw,_ | .di _ _ _,.fn _ _,_,hw,_=>by simp[Eng.wk] at hw
 | .fn _ _,.undef,_,hw,_ | .fn _ _,.aV,_,hw,_ | .fn _ _,.agg _,_,hw,_ | .fn _ _,.d _,_,hw,_ | .fn _ _,.gN _,_,hw,_ | .fn _ _,.ptr _ _,_,hw,_ | .fn _ _,.acc _,_,hw,_ | .fn _ _,.dv _ _ _ _,_,hw,_ | .fn _ _,.di _ _ _,_,hw,_=>by simp[Eng.wk] at hw
theorem ai.wk(hf:∀b,ok b→b<w.heap.size→ok' b∧w.heap[b]?=w.heap[b]?)(dh:∀i x,dN m i=some x→(st' i).isSome=true)
 (hacc:∀k y,Dj (g.at k) y→vl k m=false→dC w ok' y (ν k).v) :
 ∀(ps qs:List PV)(vs:List Value),rB g m ps qs→ai w ok ν g.at ps vs→ai w ok' (FK ν m) st' qs vs
 | [],[],vs,_,h=>by cases vs<;>simp[ai] at h⊢
 | p::ps,q::qs,[],_,h=>by simp[ai] at h
 | p::ps,q::qs,v::vs,hw,h=>by
   simp only[rB] at hw
   simp only[ai] at h⊢
   exact⟨aj.wk hf dh hacc p q v hw.1 h.1,ai.wk hf dh hacc ps qs vs hw.2 h.2⟩
 | [],_::_,_,hw,_=>by simp[rB] at hw
 | _::_,[],_,hw,_=>by simp[rB] at hw
end
end
theorem FU:∀{g:G}{m:List (Option Nat)}{ps qs:List PV},rB g m ps qs→ps.length=qs.length
 | _,_,[],[],_=>rfl
 | _,_,p::ps,q::qs,h=>by simp only[rB] at h;simp[FU h.2]
 | _,_,[],_::_,h=>by simp[rB] at h
 | _,_,_::_,[],h=>by simp[rB] at h
theorem FL{w:World}{ok:Nat→Prop}{ν ν':Nat→Nm}{g:G}{m:List (Option Nat)}{st':Nat→Option En}{ok':Nat→Prop}(hv:∀(p q:PV)(v:Value),wk g m p q→aj w ok ν g.at p v→aj w ok' ν' st' q v) :
 ∀{ps qs:List PV},rB g m ps qs→∀(t:Nat)(v:Value),aj w ok ν g.at (nth ps t) v→aj w ok' ν' st' (nth qs t) v
 | [],[],_,t,v,_=>by simp[nth,aj]
 | p::ps,q::qs,h,0,v,hr=>by simp only[rB] at h;simp only[nth] at hr⊢;exact hv p q v h.1 hr
 | p::ps,q::qs,h,t+1,v,hr=>by simp only[rB] at h;simp only[nth] at hr⊢;exact FL hv h.2 t v hr
 | [],_::_,h,_,_,_=>by simp[rB] at h
 | _::_,[],h,_,_,_=>by simp[rB] at h
theorem AH{P:Program}{n0:Nat}{m:List (Option Nat)}{g g':G}(h:Wk n0 m g g'):kG P n0 g g':=by
 intro X ν a w hp hs
 refine⟨FK ν m,?_⟩
 have dh:∀i x,dN m i=some x→(g'.at i).isSome=true:=fun i x hx=>pK h.p i x hx
 have fX:=fun i e' he=>wm h.p i e' he
 have iP:∀e e',s6 g m e e'→e'.live=true→e.live=true:=by
  intro e e' hw hl
  cases e' with
  | dead=>cases hl
  | box ds=>cases e<;>first|rfl|(simp[s6] at hw)
  | acc t ys=>cases e<;>first|rfl|(simp[s6] at hw)
  | cY t ys=>cases e<;>first|rfl|(simp[s6] at hw)
  | map yO=>cases e<;>first|rfl|(simp[s6] at hw)
 have howned:∀b,Own (FK ν m) g'.at b→∃i k e,dN m i=some (some k)∧g.at k=some e∧e.live=true∧(ν k).has b:=by
  rintro b ⟨i,e',h1,h2,h3⟩
  rcases fX i e' h1 with⟨k,e,k1,k2,k3⟩|⟨k1,t,rfl|rfl⟩
  ·rw[gl k1] at h3
   exact⟨i,k,e,k1,k2,iP e e' k3 h2,h3⟩
  all_goals
   rw[iM k1] at h3
   simp[Nm.has,oE] at h3
 have Dg:∀b,Own (FK ν m) g'.at b→Own ν g.at b:=fun b hb=>by
  obtain⟨i,k,e,k1,k2,k3,k4⟩:=howned b hb
  exact⟨k,e,k2,k3,k4⟩
 have hf:∀b,bm X ν g.at b→b<w.heap.size→bm X (FK ν m) g'.at b∧w.heap[b]?=w.heap[b]?:=fun b hb _=>⟨⟨fun ho=>hb.1 (Dg b ho),hb.2⟩,rfl⟩
 have hfr:∀k e,g.at k=some e→e.live=true→vl k m=false→∀b,(ν k).has b→bm X (FK ν m) g'.at b:=by
  intro k e hk hl hm b hb
  have dP:Own ν g.at b:=⟨k,_,hk,hl,hb⟩
  refine⟨fun ho=>?_,hs.BK dP⟩
  obtain⟨i,k',e',k1,k2,k3,k4⟩:=howned b ho
  have:=hs.inj k k' _ _ b hk k2 hl k3 hb k4
  subst this
  rw[zP k1] at hm
  cases hm
 have hacc:∀k y,Dj (g.at k) y→vl k m=false→dC w (bm X (FK ν m) g'.at) y (ν k).v:=by
  intro k y hk hm
  cases hgk:g.at k with
  | none=>rw[hgk] at hk;exact hk.elim
  | some e=>
    rw[hgk] at hk
    cases e with
    | box cs=>exact hk.elim
    | dead=>exact hk.elim
    | map yO=>exact hk.elim
    | acc e xs=>
      simp only[Dj] at hk
      rw[hk]
      obtain⟨us,h1,h2,h3,h4⟩:=hs.en k _ hgk
      exact nB h1 h2 h3 (fun b hb=>hfr k _ hgk rfl hm b (.inl hb)) hf
    | cY e xs=>
      simp only[Dj] at hk
      obtain⟨ys,h1,rfl⟩:=hk
      have hen:=hs.en k _ hgk
      exact fP.data hf (.own e xs) _ _ _ (by simp only[T.zr,h1]) hen.1 fun b hb=>hfr k _ hgk rfl hm b (jL.2 hb)
 have iO:=fun p q v=>aj.wk (w:=w) (ok:=bm X ν g.at) (ok':=bm X (FK ν m) g'.at) (ν:=ν) (g:=g) (m:=m) (st':=g'.at) hf dh hacc p q v
 have hreps:=fun ps qs vs=>ai.wk (w:=w) (ok:=bm X ν g.at) (ok':=bm X (FK ν m) g'.at) (ν:=ν) (g:=g) (m:=m) (st':=g'.at) hf dh hacc ps qs vs
 refine⟨by rw[hs.size,FU h.s],fun t=>?_,fun i e' he=>?_,fun i j e e' b h1 h2 h3 h4 h5 h6=>?_,fun b hb=>hs.base b (Dg b hb),fun i hi=>?_,fun i hi=>?_,hs.wx,hs.qp,hs.defs⟩
 ·exact FL iO h.s t _ (hs.sl t)
 ·rcases fX i e' he with⟨k,e,k1,k2,k3⟩|⟨k1,t,rfl|rfl⟩
  ·have hen:=hs.en k e k2
   cases e' with
   | dead=>trivial
   | box ds=>
     cases e with
     | box cs=>
       obtain⟨b,vs,T,q1,q2,q3,q4⟩:=hen
       simp only[s6] at k3
       simp only[gk,gl k1]
       exact⟨b,vs,T,q1,q2,hreps cs ds vs k3 q3,q4⟩
     | acc t xs=>simp[s6] at k3
     | cY t xs=>simp[s6] at k3
     | dead=>simp[s6] at k3
     | map yO=>simp[s6] at k3
   | acc t ys=>
     cases e with
     | acc t' xs=>
       simp only[s6] at k3
       obtain⟨rfl,rfl⟩:=k3
       obtain⟨us,q1,q2,q3⟩:=hen
       simp only[gk,gl k1]
       exact⟨us,q1,q2.frame hf (ar _),q3⟩
     | box cs=>simp[s6] at k3
     | dead=>simp[s6] at k3
     | map yO=>simp[s6] at k3
     | cY t xs=>simp[s6] at k3
   | cY t ys=>
     cases e with
     | acc t' xs=>
       simp only[s6] at k3
       obtain⟨rfl,rfl⟩:=k3
       obtain⟨us,q1,q2,q3,q4⟩:=hen
       simp only[gk,fP,gl k1,q4,l6,bC]
       refine⟨⟨us,[],q1,q2.hu,aU.rM (q2.frame hf (ar _)),q3,by simp⟩,?_⟩
       unfold hb
       split<;>simp
     | cY t' xs=>
       simp only[s6] at k3
       obtain⟨rfl,rfl,k4⟩:=k3
       simp only[gk,gl k1]
       refine⟨fP.still (.own t' xs) _ _ ?_ (fP.frame hf (ar _) (gY.refl _ _) _ _ _ hen.1 fun _ _=>rfl),hen.2⟩
       simp only[T.zr]
       obtain⟨zs,hz⟩:=b8.1 k4
       rw[hz];rfl
     | box cs=>simp[s6] at k3
     | dead=>simp[s6] at k3
     | map yO=>simp[s6] at k3
   | map kvs'=>
     cases e with
     | map yO=>
       simp only[s6] at k3
       subst k3
       simp only[gk,gl k1] at hen⊢
       exact hen
     | box cs=>simp[s6] at k3
     | acc t xs=>simp[s6] at k3
     | cY t xs=>simp[s6] at k3
     | dead=>simp[s6] at k3
  ·simp only[gk,iM k1]
   exact⟨[],⟨by simp,.inl ⟨rfl,rfl⟩⟩,bg.nil _ _ _,by simp,trivial⟩
  ·simp only[gk,iM k1,fP]
   exact⟨⟨[],[],⟨by simp,.inl ⟨rfl,rfl⟩⟩,by simp,by simp[aU],by simp,rfl⟩,by simp[hb,oE]⟩
 ·rcases fX i e h1 with⟨k,e1,k1,k2,k3⟩|⟨k1,t,rfl|rfl⟩
  ·rcases fX j e' h2 with⟨l,e2,l1,l2,l3⟩|⟨l1,t,rfl|rfl⟩
   ·rw[gl k1] at h5
    rw[gl l1] at h6
    have:=hs.inj k l e1 e2 b k2 l2 (iP _ _ k3 h3) (iP _ _ l3 h4) h5 h6
    subst this
    exact zY h.Pt k1 l1 h1 h2 h3 h4
   ·rw[iM l1] at h6;simp[Nm.has,oE] at h6
   ·rw[iM l1] at h6;simp[Nm.has,oE] at h6
  ·rw[iM k1] at h5;simp[Nm.has,oE] at h5
  ·rw[iM k1] at h5;simp[Nm.has,oE] at h5
 ·obtain⟨e',he⟩:=b8.1 hi
  rcases fX i e' he with⟨k,e,k1,k2,k3⟩|⟨k1,t,rfl|rfl⟩
  ·rw[gl k1];exact hs.nu k (by rw[k2];rfl)
  ·rw[iM k1];rfl
  ·rw[iM k1];rfl
 ·have kf:=hp i hi
  have hl:=yo h.keep i kf
  rw[bV] at hl
  exact⟨by rw[gl hl];exact(hs.par i hi).1,dh i _ hl⟩
end Go.Eng
namespace Go.Eng
open Go.RowKit
theorem Sat.IP{P:Program}{X:Cx}{ν:Nat→Nm}{g:G}{a:Act}{w w':World}(h:Sat P X ν g a w)(lF:nv (fun _=>False) w w')(d:Nat)(p:PV)(v:Value)
 (hv:(∀b,w.heap.size≤b→bm X ν g.at b)→(∀b,bm X ν g.at b→b<w.heap.size→bm X ν g.at b∧w'.heap[b]?=w.heap[b]?)→aj w' (bm X ν g.at) ν g.at p v) :
 Sat P X ν ⟨gy g.sl d p,g.st⟩ (a.put (some d) v) w':=by
 have hfree:∀b,w.heap.size≤b→bm X ν g.at b:=fun b hb=>⟨fun ho=>by have:=h.lt ho;omega,fun hz=>by have:=(h.wx b hz).1;have:=h.qp.size;omega⟩
 have hsame:∀b,bm X ν g.at b→b<w.heap.size→bm X ν g.at b∧w'.heap[b]?=w.heap[b]?:=fun b hb kf=>⟨hb,lF.block b kf (fun hf=>hf)⟩
 refine h.JL (g':=⟨gy g.sl d p,g.st⟩) (fun _=>False) lF (fun _ hb=>hb.elim) (gY.refl _ _) (fun k e he=>.inl ⟨he,rfl,fun _ _ _ hb=>hb⟩) (fun k e b he hl hb=>.inl ⟨k,e,he,hl,hb⟩) ?_ (fun k hk=>.inl hk) ?_ ?_ rfl
 ·intro k k' e e' b h1 h2 h3 h4 h5 h6
  exact h.inj k k' e e' b h1 h2 h3 h4 h5 h6
 ·simp[size_put,eM,h.size]
 ·intro t
  simp only[lY,il,h.size]
  by_cases hc:t=d∧d<g.sl.length
  ·simp only[hc,and_self,if_true]
   exact .inr (hv hfree hsame)
  ·simp only[hc,if_false]
   exact .inl ⟨trivial,trivial⟩
theorem zS(off:Nat):∀(l:List Value)(n:Nat)(cells:Array Value)(k:Nat),off+n+l.length≤cells.size →
 ((l.zipIdx n).foldl (fun cs (x:Value×Nat)=>cs.setIfInBounds (off+x.2) x.1) cells)[k]?=if off+n≤k∧k<off+n+l.length then l[k-(off+n)]? else cells[k]?
 | [],n,cells,k,_=>by
   have:¬ (off+n≤k∧k<off+n+0):=by omega
   simp
   intro h1 h2;omega
 | c::l,n,cells,k,hl=>by
   simp only[List.zipIdx_cons,List.foldl_cons]
   simp only[aq] at hl
   rw[zS off l (n+1) _ k (by simp;omega)]
   by_cases h1:off+(n+1)≤k∧k<off+(n+1)+l.length
   ·rw[if_pos h1,if_pos (by simp only[aq];omega)]
    have:k-(off+n)=(k-(off+(n+1)))+1:=by omega
    rw[this];simp
   ·rw[if_neg h1]
    by_cases h2:k=off+n
    ·subst h2
     have kf:off+n<cells.size:=by omega
     rw[if_pos (by simp only[aq];omega)]
     simp[kf]
    ·rw[if_neg (by simp only[aq];omega)]
     simp[Array.getElem?_setIfInBounds,show ¬off+n=k from fun e=>h2 e.symm]
theorem Df(off:Nat)(l:List Value)(cells:Array Value)(hl:off+l.length≤cells.size) :
 (l.zipIdx.foldl (fun cs (x:Value×Nat)=>cs.setIfInBounds (off+x.2) x.1) cells).toList=cells.toList.take off++(l++cells.toList.drop (off+l.length)):=by
 apply List.ext_getElem?
 intro k
 have h:=zS off l 0 cells k (by omega)
 simp only[Nat.add_zero] at h
 rw[Array.getElem?_toList,h]
 by_cases h1:k<off
 ·rw[if_neg (by omega),aZ (by simp;omega),cJ,if_pos h1]
  simp
 ·rw[aX (by simp;omega)]
  have e:(List.take off cells.toList).length=off:=by simp;omega
  rw[e]
  by_cases h2:k<off+l.length
  ·rw[if_pos (by omega),aZ (by omega)]
  ·rw[if_neg (by omega),aX (by omega),c9]
   have:off+l.length+(k-off-l.length)=k:=by omega
   rw[this];simp
def w6(places:List (Nat×Nat))(cs:List PV):List (Nat×PV)→Option (List PV)
 | []=>some cs
 | (i,p)::rest=>
   match places[i]? with
   | none=>none
   | some (off,sz)=>if p.whole=true∧(ct p).length=sz∧off+sz≤cs.length then w6 places (qZ cs off (ct p)) rest else none
theorem CC{w:World}{ok:Nat→Prop}{ν:Nat→Nm}{st:Nat→Option En}(hν:∀k,(st k).isSome=true→(ν k).v.oneCell'=true)(places:List (Nat×Nat))(ev:Operand→PV)(ρ:Operand→Value)(hev:∀x,aj w ok ν st (ev x) (ρ x)) :
 ∀(ps:List (Nat×Operand))(cs:List PV)(cells:Array Value)(r:List PV),ai w ok ν st cs cells.toList→w6 places cs (ps.map fun x=>(x.1,ev x.2))=some r →
 ∃cells',Instr.fill (places.toArray[·]?) cells (ps.map fun x=>(x.1,ρ x.2))=some cells'∧ai w ok ν st r cells'.toList
 | [],cs,cells,r,h,hr=>by
   simp only[cK,w6,Option.some.injEq] at hr
   subst hr
   exact⟨cells,rfl,h⟩
 | (i,x)::ps,cs,cells,r,h,hr=>by
   simp only[aR,w6] at hr
   split at hr
   ·cases hr
   ·rename_i off sz hpl
    split at hr
    ·rename_i hc
     obtain⟨h1,h2,h3⟩:=hc
     have hx:=(hev x).cells h1 hν
     have hxl:=hx.length
     have hcl:=h.length
     have hxs:(ρ x).cells.size=sz:=by rw[←h2,←hxl];simp
     have hcs:cells.size=cs.length:=by rw[←hcl];simp
     have hone:=Df off (ρ x).cells.toList cells (by rw[hxl,hcs,h2];exact h3)
     have iO:ai w ok ν st (qZ cs off (ct (ev x))) ((ρ x).cells.toList.zipIdx.foldl (fun cs (x:Value×Nat)=>cs.setIfInBounds (off+x.2) x.1) cells).toList:=by
      rw[hone,hxl]
      exact(h.take off).append (hx.append (h.drop _))
     obtain⟨cells',k1,k2⟩:=CC hν places ev ρ hev ps _ _ r iO hr
     refine⟨cells',?_,k2⟩
     simp only[aR,Instr.fill]
     have hpl':(places.toArray[i]?:Option (Nat×Nat))=some (off,sz):=by simpa using hpl
     rw[hpl']
     simp only
     rw[if_neg (by simp only[hxs,hcs,ne_eq,not_true_eq_false,decide_false,iQ,decide_eq_true_eq];omega)]
     rw[←k1]
     congr 1
     rw[←Array.foldl_toList,Array.toList_zipIdx]
    ·cases hr
section
variable{E:Env}{g:G}{d:Nat}{ty:TypeId}{pos:String}{cP:Array Edge}{gd:Option (Nat×Bool)}{dn:Option Nat}
theorem HV(t:TypeId)(ps:List (Nat×Operand))(ti:TI)(fs:List (Nat×Nat×Nat))(r:List PV)(ht:E.ti t=some ti)(fW:ti.ty= .struct fs)
 (hr:w6 (fs.map fun x=>(x.2.1,x.2.2)) ti.zero (ps.map fun x=>(x.1,g.ev x.2))=some r) :
 gL E.P ⟨some d,.build t ⟨ps⟩,ty,pos,cP,gd⟩ g ⟨ps.flatMap fun x=>bZ x.2,[]⟩ ⟨some (d,.agg r),[]⟩:=by
 intro g2 hg
 have hmap:ps.map (fun x=>(x.1,g2.ev x.2))=ps.map (fun x=>(x.1,g.ev x.2)):=by
  have:∀(ps:List (Nat×Operand)),(∀t∈ps.flatMap (fun x=>bZ x.2),t∈ps.flatMap (fun x=>bZ x.2))→True:=fun _ _=>trivial
  apply iC
  intro x hx
  rw[hg.ev (x:=x.2) (fun t h=>ki.2 ⟨x,hx,h⟩)]
 refine yP.val rfl fun X ν a w hs=>?_
 obtain⟨i,z,h1,h2,h4,h5,h6,h7⟩:=(E.ok t ti ht).info
 have hu:=(E.ok t ti ht).ty
 rw[fW] at hu
 obtain⟨fields,hu,hpl,_⟩:=hu
 rw[←hmap] at hr
 obtain⟨cells',k1,k2⟩:=CC hs.nu (fs.map fun x=>(x.2.1,x.2.2)) g2.ev a.eval hs.ev ps ti.zero z.cells r (by rw[←h6];exact nC _ _ _ _ _) hr
 refine⟨.agg cells',?_,by simp only[aj];exact⟨cells'.toList,rfl,k2⟩⟩
 have hb:E.P.built t (ps.map fun x=>(x.1,a.eval x.2))=some cells':=by
  simp only[Program.built,h1,hu,h5,hpl,k1]
 have:=run_build (P:=E.P) w t ⟨ps.map fun x=>(x.1,a.eval x.2)⟩ cells' hb
 simp only[execOp,eu,Sem.run_bind,this,Result.andThen_ok]
 rfl
def rowsOf:List PV→Option (List (List D))
 | []=>some []
 | p::ps=>if p.whole=true then match qE (ct p),rowsOf ps with|some x,some xs=>some (x::xs)|_,_=>none else none
def y3:Nat→List Nat→Bool
 | _,[]=>true
 | i,j::js=>i == j&&y3 (i+1) js
def nb(n:Nat):List (List D)→Bool
 | []=>true
 | x::xs=>x.length == n&&nb n xs
theorem tr{w:World}{ok:Nat→Prop}{ν:Nat→Nm}{st:Nat→Option En}(hν:∀k,(st k).isSome=true→(ν k).v.oneCell'=true)(sz:Nat)(ev:Operand→PV)(ρ:Operand→Value)(hev:∀x,aj w ok ν st (ev x) (ρ x)) :
 ∀(ps:List (Nat×Operand))(i:Nat)(pre:List Value)(cells:Array Value)(rows:List (List D)),y3 i (ps.map (·.1))=true→rowsOf (ps.map fun x=>ev x.2)=some rows→nb sz rows=true→pre.length=i*sz→cells.toList.take (i*sz)=pre→cells.size=(i+ps.length)*sz →
 ∃us:List (List Value),Instr.fill (fun i=>some (i*sz,sz)) cells (ps.map fun x=>(x.1,ρ x.2))=some ⟨pre++us.flatten⟩∧bg w ok sz rows us
 | [],i,pre,cells,rows,_,hr,_,hpl,hpre,hsz=>by
   simp only[cK,rowsOf,Option.some.injEq] at hr
   subst hr
   refine⟨[],?_,bg.nil _ _ _⟩
   simp only[cK,Instr.fill,List.flatten_nil,bC]
   congr 1
   rw[←hpre,an (by rw[cO,hsz];exact ar _)]
 | (j,x)::ps,i,pre,cells,rows,hup,hr,cZ,hpl,hpre,hsz=>by
   simp only[aR,y3,ae,beq_iff_eq] at hup
   obtain⟨rfl,hup⟩:=hup
   simp only[aR,rowsOf] at hr
   split at hr
   ·rename_i hwh
    split at hr
    ·rename_i row rows' kM hrows
     obtain rfl:=Option.some.inj hr
     simp only[nb,ae,beq_iff_eq] at cZ
     have hx:=(hev x).cells hwh hν
     have hxl:=hx.length
     have hd:=oJ hx kM
     obtain⟨FQ,hd2⟩:=sH hd
     have hxs:(ρ x).cells.toList.length=sz:=by rw[FQ];exact cZ.1
     simp only[aq] at hsz
     have hmul:(i+(ps.length+1))*sz=i*sz+(sz+ps.length*sz):=by rw[br,br];omega
     have hone:=Df (i*sz) (ρ x).cells.toList cells (by rw[hxs,hsz,hmul];omega)
     have hsz2:(((ρ x).cells.toList.zipIdx.foldl (fun cs (x:Value×Nat)=>cs.setIfInBounds (i*sz+x.2) x.1) cells)).size=(i+1+ps.length)*sz:=by
      rw[←cO,hone]
      simp only[ao,List.length_take,ey,cO,hsz,hxs]
      rw[hmul,show i+1+ps.length=i+(ps.length+1) by omega,hmul]
      omega
     obtain⟨us,k1,k2⟩:=tr hν sz ev ρ hev ps (i+1) (pre++(ρ x).cells.toList) _ rows' hup hrows cZ.2 (by rw[ao,hpl,hxs,br];omega)
      (by
       rw[hone,hpre,←bf,cG (by rw[ao,hpl,hxs,br];omega)]
       rw[an (by rw[ao,hpl,hxs,br];omega)]) hsz2
     refine⟨(ρ x).cells.toList::us,?_,k2.cons cZ.1 hxs hd2⟩
     have hxs':(ρ x).cells.size=sz:=by simpa using hxs
     simp only[aR,Instr.fill]
     rw[if_neg (by simp only[hxs',hsz,hmul,ne_eq,not_true_eq_false,decide_false,iQ,decide_eq_true_eq];omega)]
     rw[bU,←bf,←k1]
     congr 1
     rw[←Array.foldl_toList,Array.toList_zipIdx]
    ·cases hr
   ·cases hr
theorem FV{t e:Nat}{ti ei:TI}(ht:E.ti t=some ti)(fW:ti.ty= .slice e)(he:E.ti e=some ei){X:Cx}{ν:Nat→Nm}{g2:G}{a:Act}{w:World}(hs:Sat E.P X ν g2 a w)(ps:List (Nat×Operand))(rows:List (List D))
 (hup:y3 0 (ps.map (·.1))=true) (hr:rowsOf (ps.map fun x=>g2.ev x.2)=some rows) (cZ:nb ei.n rows=true) (hbig:ps.length*ei.n≤16777216) {o:Oper} (ho:o.op= .buildSlice t ps.length ⟨ps⟩) :
 ∃us:List (List Value),(execOp a.eval o).run E.P w= .ok (.value (.slice (some ⟨w.heap.size,0,none⟩) ps.length ps.length)) (w.alloc (.cells ⟨us.flatten⟩ e))∧bg w (bm X ν g2.at) ei.n rows us:=by
 obtain⟨i,z,h1,h2,h4,h5,h6,h7⟩:=(E.ok e ei he).info
 have hu:=(E.ok t ti ht).ty
 rw[fW] at hu
 have hpos:=(E.ok e ei he).pos
 have hrowsl:∀(qs:List PV)(rows:List (List D)),rowsOf qs=some rows→rows.length=qs.length:=by
  intro qs
  induction qs with
  | nil=>intro rows h;simp[rowsOf] at h;simp[←h]
  | cons q qs ih=>
    intro rows h
    simp only[rowsOf] at h
    split at h
    ·split at h
     ·rename_i h1 h2
      obtain rfl:=Option.some.inj h
      simp[ih _ h2]
     ·cases h
    ·cases h
 have hrl:=hrowsl _ _ hr
 simp only[bl] at hrl
 have key:∀init:Array Value,init.size=ps.length*ei.n→∃us:List (List Value),Instr.fill (fun i=>some (i*ei.n,ei.n)) init (ps.map fun x=>(x.1,a.eval x.2))=some ⟨us.flatten⟩∧bg w (bm X ν g2.at) ei.n rows us:=by
  intro init hi
  obtain⟨us,k1,k2⟩:=tr hs.nu ei.n g2.ev a.eval hs.ev ps 0 [] init rows hup hr cZ (by simp) (by simp) (by simpa using hi)
  exact⟨us,by simpa using k1,k2⟩
 by_cases hz:ps.length*ei.n=0
 ·obtain⟨us,k1,k2⟩:=key ((Array.range 0).map fun _=>default) (by rw[Array.size_map,Array.size_range,hz])
  refine⟨us,?_,k2⟩
  simp only[execOp,ho,eu,Instr.buildSlice,Sem.run_bind,run_underlying hu,Result.andThen_ok,(E.ok e ei he).size w,hz]
  simp[k1,newRow]
 ·obtain⟨us,k1,k2⟩:=key ((Array.range (ps.length*ei.n)).map (z.cells[· % z.cells.size]!)) (by simp)
  refine⟨us,?_,k2⟩
  have hn:¬ps.length*ei.n>16777216:=by omega
  simp only[execOp,ho,eu,Instr.buildSlice,Sem.run_bind,run_underlying hu,Result.andThen_ok,(E.ok e ei he).size w]
  simp[hn,hz,zeroValue,typeInfo,h1,h5,k1,newRow]
theorem rr:∀{qs:List PV}{rows:List (List D)},rowsOf qs=some rows→rows.length=qs.length
 | [],rows,h=>by simp[rowsOf] at h;simp[←h]
 | q::qs,rows,h=>by
   simp only[rowsOf] at h
   split at h
   ·split at h
    ·rename_i h1 h2
     obtain rfl:=Option.some.inj h
     simp[rr h2]
    ·cases h
   ·cases h
theorem C1(w:World)(us:List Value)(e:TypeId):fy (w.alloc (.cells ⟨us⟩ e)) w.heap.size 0 us:=by
 intro j u hu
 simp only[World.cell?,ss,bV]
 simpa using hu
theorem Iy(t e n:Nat)(ps:List (Nat×Operand))(ti ei:TI)(rows:List (List D))(ht:E.ti t=some ti)(fW:ti.ty= .slice e)(he:E.ti e=some ei)(hn:n=ps.length)(hup:y3 0 (ps.map (·.1))=true)
 (hr:rowsOf (ps.map fun x=>g.ev x.2)=some rows) (cZ:nb ei.n rows=true) (hbig:ps.length*ei.n≤16777216) :
 gL E.P ⟨some d,.buildSlice t n ⟨ps⟩,ty,pos,cP,gd⟩ g ⟨ps.flatMap fun x=>bZ x.2,[]⟩ ⟨some (d,.d (.b7 rows)),[]⟩:=by
 subst hn
 intro g2 hg
 have hmap:ps.map (fun x=>g2.ev x.2)=ps.map (fun x=>g.ev x.2):=by
  apply iC
  intro x hx
  rw[hg.ev (x:=x.2) (fun t h=>ki.2 ⟨x,hx,h⟩)]
 rw[←hmap] at hr
 intro X ν a w next Q hs hnx
 obtain⟨us,ke,fC⟩:=FV ht fW he hs ps rows hup hr cZ hbig (o:=⟨some d,.buildSlice t ps.length ⟨ps⟩,ty,pos,cP,gd⟩) rfl
 have hpos:=(E.ok e ei he).pos
 have hrl:=rr hr
 simp only[bl] at hrl
 have hle:ps.length≤16777216:=eC (ju _ hpos) hbig
 unfold Oper.wp
 rw[ke,Oper.upon_value]
 refine hnx ν _ _ (hs.IP (w':=w.alloc (.cells ⟨us.flatten⟩ e)) (gp w _) d _ _ fun hfree hsame=>?_)
 simp only[aj]
 have hrr':=fC.frame hsame (gp w _).size
 rw[←hrl]
 exact .b7 rows us w.heap.size 0 rows.length ei.n (hfree _ (ar _)) (n7 (ss w _)) (ar _) (by simp only[maxLen];omega) (by unfold LB;omega) hrr'.len hrr'.hx hrr'.hu (C1 w _ e) hrr'.hr
theorem DQ(t e n k:Nat)(ps:List (Nat×Operand))(ti ei:TI)(rows:List (List D))(ht:E.ti t=some ti)(fW:ti.ty= .slice e)(he:E.ti e=some ei)(hn:n=ps.length)(hup:y3 0 (ps.map (·.1))=true)
 (hr:rowsOf (ps.map fun x=>g.ev x.2)=some rows) (cZ:nb ei.n rows=true) (hbig:ps.length*ei.n≤16777216) (hk:g.at k=none) :
 gL E.P ⟨some d,.buildSlice t n ⟨ps⟩,ty,pos,cP,gd⟩ g ⟨ps.flatMap fun x=>bZ x.2,[k]⟩ ⟨some (d,.acc k),[(k,.acc e rows)]⟩:=by
 subst hn
 intro g2 hg
 have hmap:ps.map (fun x=>g2.ev x.2)=ps.map (fun x=>g.ev x.2):=by
  apply iC
  intro x hx
  rw[hg.ev (x:=x.2) (fun t h=>ki.2 ⟨x,hx,h⟩)]
 have h3:=(hg.p k (by simp)).trans hk
 rw[←hmap] at hr
 intro X ν a w next Q hs hnx
 obtain⟨us,ke,fC⟩:=FV ht fW he hs ps rows hup hr cZ hbig (o:=⟨some d,.buildSlice t ps.length ⟨ps⟩,ty,pos,cP,gd⟩) rfl
 have hpos:=(E.ok e ei he).pos
 have hrl:=rr hr
 simp only[bl] at hrl
 have hle:ps.length≤16777216:=eC (ju _ hpos) hbig
 unfold Oper.wp
 rw[ke,Oper.upon_value]
 have hfl:=fC.ij
 have kM:=World.ownsRow_lit w (e:=e) (⟨us.flatten⟩:Array Value) rows.length (base:=0) (size:=ei.n) (cN _) (by simp only[maxLen];omega) (by simpa using hfl)
 refine hnx _ _ _ (hs.qW (gp w _) k h3 (.acc e rows) ⟨.slice (some ⟨w.heap.size,0,none⟩) ps.length ps.length,[]⟩ rfl (fun b hb=>?_) d _ _ ?_ ?_)
 ·obtain rfl:w.heap.size=b:=by simpa[Nm.has,oE] using hb
  exact ar _
 ·intro ok st ν' hν hw hm
  refine⟨us,?_,?_,by unfold LB;omega,by rw[hν]⟩
  ·rw[hν,(E.ok e ei he).cells,←hrl]
   exact kM
  ·rw[(E.ok e ei he).cells]
   exact fC.frame hw (gp w _).size
 ·intro ok st ν' hν dh hw hm
  simp only[aj]
  exact⟨by rw[dh];rfl,by rw[hν]⟩
end
def OI(g:G):Option Operand→Int→Int→Prop
 | none,dflt,i=>i=dflt
 | some x,_,i=>∃k,g.ev x= .d (.val (.int k i))
def J7:Option Operand→List Nat
 | none=>[]
 | some x=>bZ x
theorem OI.agree{R:Rd}{g g2:G}(h:rN R g g2){o:Option Operand}{a i:Int}(ho:∀t∈J7 o,t∈R.s)(hi:OI g o a i):OI g2 o a i:=by
 cases o with
 | none=>exact hi
 | some x=>
   obtain⟨k,hk⟩:=hi
   exact⟨k,(h.ev (x:=x) ho).trans hk⟩
theorem OI.value{P:Program}{X:Cx}{ν:Nat→Nm}{g:G}{a:Act}{w:World}(h:Sat P X ν g a w){o:Option Operand}{d i:Int}(hi:OI g o d i):(o=none∧i=d)∨∃k,o.map a.eval=some (.int k i):=by
 cases o with
 | none=>exact .inl ⟨rfl,hi⟩
 | some x=>
   obtain⟨k,hk⟩:=hi
   have hv:=h.ev x
   rw[hk] at hv
   exact .inr ⟨k,by simp[fK hv]⟩
theorem pW{P:Program}(w:World){t e s:Nat}(hu:P.underlying t=some (.slice e))(hs:∀w,(sizeOf e).run P w= .ok s w)(a:Option Addr)(len cap:Nat)(lo hi:Option Value)(l h:Int)
 (hlo:(lo=none∧l=0)∨∃k,lo=some (.int k l)) (hhi:(hi=none∧h=len)∨∃k,hi=some (.int k h)) (h0:0≤l) (h1:l≤h) (h2:h≤len) (h3:len≤cap) :
 (Instr.sliceAt t (.slice a len cap) lo hi none).run P w= .ok (sliced a l.toNat h.toNat cap s) w:=by
 have hel:P.elem t=e:=by simp[Program.elem,hu]
 have ht:P.underlying t=some (.slice (P.elem t)):=by rw[hel];exact hu
 rw[run_sliceAt_slice w t _ _ _ _ ht]
 have h2':h≤(cap:Int):=by omega
 rcases hlo with⟨rfl,rfl⟩|⟨k,rfl⟩
 ·rcases hhi with⟨rfl,rfl⟩|⟨k',rfl⟩
  ·rw[run_slice_all w t a len cap ht,hel,hs]
   simp[Result.andThen]
  ·rw[run_slice_h w t a len cap ht k' h (by omega) h2',hel,hs]
   simp[Result.andThen]
 ·rcases hhi with⟨rfl,rfl⟩|⟨k',rfl⟩
  ·rw[run_slice_l w t a len cap ht k l h0 h1,hel,hs]
   simp[Result.andThen]
  ·rw[run_slice_lh w t a len cap ht k k' l h h0 h1 h2',hel,hs]
   simp[Result.andThen]
theorem IB{P:Program}(w:World){t:Nat}(hu:P.underlying t=some .string)(s:List UInt8)(lo hi:Option Value)(l h:Int)
 (hlo:(lo=none∧l=0)∨∃k,lo=some (.int k l)) (hhi:(hi=none∧h=s.length)∨∃k,hi=some (.int k h)) (h0:0≤l) (h1:l≤h) (h2:h≤s.length) :
 (Instr.sliceAt t (.string ⟨s.toArray⟩) lo hi none).run P w= .ok (.string ⟨((s.drop l.toNat).take (h.toNat-l.toNat)).toArray⟩) w:=by
 rw[run_sliceAt_string w t _ _ _ _ hu]
 have hsz:(⟨s.toArray⟩:ByteArray).size=s.length:=size_mk s
 rcases hlo with⟨rfl,rfl⟩|⟨k,rfl⟩
 ·rcases hhi with⟨rfl,rfl⟩|⟨k',rfl⟩
  ·rw[run_slice_string_all w t _ hu,ByteArray.extract_mk,hsz]
   simp
  ·rw[run_slice_string_h w t _ hu k' h (by omega) (by omega),ByteArray.extract_mk]
   simp
 ·rcases hhi with⟨rfl,rfl⟩|⟨k',rfl⟩
  ·rw[run_slice_string_l w t _ hu k l h0 (by omega),ByteArray.extract_mk,hsz]
   simp
  ·rw[Go.run_slice_string w t _ k k' l h hu h0 h1 (by omega),ByteArray.extract_mk]
section
variable{E:Env}{g:G}{d:Nat}{ty:TypeId}{pos:String}{cP:Array Edge}{gd:Option (Nat×Bool)}{dn:Option Nat}
theorem pa{sz:Nat}:∀(us:List (List Value))(l n:Nat),(∀(i:Nat)(u:List Value),us[i]?=some u→u.length=sz)→l+n≤us.length→((us.drop l).take n).flatten=(us.flatten.drop (l*sz)).take (n*sz)
 | [],l,n,_,h=>by
   have h1:l=0:=by simp at h;omega
   have h2:n=0:=by simp at h;omega
   subst h1 h2;simp
 | u::us,0,n,hu,h=>by
   cases n with
   | zero=>simp
   | succ n=>
     have h0:u.length=sz:=hu 0 u rfl
     have ih:=pa us 0 n (fun i x hx=>hu (i+1) x (by simpa using hx)) (by simp at h;omega)
     simp only[List.drop_zero,lG] at ih⊢
     rw[cw,bU,bU,ih,List.take_append]
     have e1:(n+1)*sz-u.length=n*sz:=by rw[br,h0];omega
     rw[e1,an (l:=u) (by rw[h0,br];omega)]
 | u::us,l+1,n,hu,h=>by
   have h0:u.length=sz:=hu 0 u rfl
   have ih:=pa us l n (fun i x hx=>hu (i+1) x (by simpa using hx)) (by simp at h;omega)
   rw[List.drop_succ_cons,ih,bU]
   congr 1
   rw[List.drop_append,ag (l:=u) (by rw[h0,br];omega),bB]
   congr 1
   rw[br,h0];omega
theorem jG{α:Type}(xs:List α)(l n i:Nat)(x:α)(h:((xs.drop l).take n)[i]?=some x):xs[l+i]?=some x:=by
 rw[cJ] at h
 split at h
 ·rwa [c9] at h
 ·cases h
theorem bg.cut{w:World}{ok:Nat→Prop}{sz:Nat}{xs:List (List D)}{us:List (List Value)}(h:bg w ok sz xs us)(l n:Nat):bg w ok sz ((xs.drop l).take n) ((us.drop l).take n):=by
 refine⟨by simp[h.len],fun i x hx=>h.hx (l+i) x (jG _ _ _ _ _ hx),fun i u hu=>h.hu (l+i) u (jG _ _ _ _ _ hu),fun i j x u d v h1 h2 h3 h4=>h.hr (l+i) j x u d v (jG _ _ _ _ _ h1) (jG _ _ _ _ _ h2) h3 h4⟩
theorem EU(x:Operand)(lo hi:Option Operand)(t e:Nat)(ti ei:TI)(xs r:List (List D))(l h:Int)(ht:E.ti t=some ti)(fW:ti.ty= .slice e)(he:E.ti e=some ei)(hx:g.ev x= .d (.b7 xs))(hlo:OI g lo 0 l)(hhi:OI g hi xs.length h)
 (h0:0≤l) (h1:l≤h) (h2:h≤xs.length) (hz:∀y∈xs,y.length=ei.n) (hr:(xs.drop l.toNat).take (h.toNat-l.toNat)=r) :
 gL E.P ⟨some d,.slice t x lo hi none,ty,pos,cP,gd⟩ g ⟨bZ x++(J7 lo++J7 hi),[]⟩ ⟨some (d,.d (.b7 r)),[]⟩:=by
 subst hr
 intro g2 hg
 have e1:=hg.ev (x:=x) (fun t h=>by simp[h])
 have hlo2:=hlo.agree hg (fun t h=>by simp[h])
 have hhi2:=hhi.agree hg (fun t h=>by simp[h])
 refine yP.val rfl fun X ν a w hs=>?_
 have hv:=hs.ev x
 rw[e1,hx] at hv
 simp only[aj] at hv⊢
 have hu:=(E.ok t ti ht).ty
 rw[fW] at hu
 have hlv:(lo.map a.eval=none∧l=0)∨∃k,lo.map a.eval=some (.int k l):=(hlo2.value hs).imp (fun h=>⟨by rw[h.1];rfl,h.2⟩) id
 have hhv:(hi.map a.eval=none∧h=xs.length)∨∃k,hi.map a.eval=some (.int k h):=(hhi2.value hs).imp (fun h=>⟨by rw[h.1];rfl,h.2⟩) id
 have hsize:=(E.ok e ei he).size
 obtain⟨ln,rfl⟩:∃n:Nat,l=n:=⟨l.toNat,by omega⟩
 obtain⟨hn,rfl⟩:∃n:Nat,h=n:=⟨h.toNat,by omega⟩
 simp only[aA]
 rcases hv.nW with⟨rfl,ea,ec,hvv,hemp⟩|⟨us,b,off,cap,sz,hvv,kC,hb,fV,hmax,hB,fC,hc⟩
 ·simp only[List.length_nil] at h2
  have hr:=pW (P:=E.P) w hu hsize ea 0 ec _ _ ln hn hlv hhv h0 h1 h2 (cN _)
  obtain rfl:hn=0:=by omega
  obtain rfl:ln=0:=by omega
  refine⟨sliced ea 0 0 ec ei.n,?_,?_⟩
  ·simp only[execOp,hvv,dU,Sem.run_bind,hr,Result.andThen_ok]
   rfl
  ·simp only[List.drop_nil,List.take_nil]
   unfold sliced
   refine dC.OC ?_
   rcases hemp with⟨rfl,rfl⟩|⟨k1,k2⟩
   ·exact .inl ⟨by simp,rfl⟩
   ·refine .inr ⟨?_,by omega⟩
    split
    ·exact k1
    ·rw[Option.isSome_map]
     exact k1
 ·have hr:=pW (P:=E.P) w hu hsize (some ⟨b,off,none⟩) xs.length cap _ _ ln hn hlv hhv h0 h1 h2 fV
  simp only[aA] at hr
  have hsz:xs=[]∨sz=ei.n:=by
   cases xs with
   | nil=>exact .inl rfl
   | cons y ys=>right;rw[←fC.hx 0 y rfl];exact hz y (by simp)
  refine⟨sliced (some ⟨b,off,none⟩) ln hn cap ei.n,?_,?_⟩
  ·simp only[execOp,hvv,dU,Sem.run_bind,hr,Result.andThen_ok]
   rfl
  ·have cZ:((xs.drop ln).take (hn-ln)).length=hn-ln:=by simp;omega
   have hrc:=fC.cut ln (hn-ln)
   have hcl:=pa us ln (hn-ln) fC.hu (by rw[fC.len];omega)
   unfold sliced
   by_cases hcm:cap=ln
   ·rw[if_pos hcm]
    have:hn-ln=0:=by omega
    rw[this] at cZ hrc⊢
    simp only[List.take_zero] at cZ hrc⊢
    exact .b7 [] [] b off (cap-ln) sz kC hb (by simp) (by simp only[maxLen] at hmax⊢;omega) (by simp) rfl (by simp) (by simp) (fun j u hu=>by simp at hu) (by simp)
   ·rw[if_neg hcm]
    have hsz':sz=ei.n∨ln=0:=by
     rcases hsz with rfl|h
     ·right;simp at h2;omega
     ·exact .inl h
    have hoff:(⟨b,off,none⟩:Addr).add (ln*ei.n)=⟨b,off+ln*sz,none⟩:=by
     rw[add_lit]
     rcases hsz' with h|h<;>rw[h]
     simp
    simp only[Option.map_some,hoff]
    have hres:=dC.b7 (w:=w) (ok:=bm X ν g2.at) ((xs.drop ln).take (hn-ln)) ((us.drop ln).take (hn-ln)) b (off+ln*sz) (cap-ln) sz kC hb (by rw[cZ];omega) (by simp only[maxLen] at hmax⊢;omega) (by rw[cZ];omega) hrc.len hrc.hx hrc.hu
     (hc.sub (ln*sz) fun j u hu=>by
      rw[hcl] at hu
      exact jG _ _ _ _ _ hu) hrc.hr
    rw[cZ] at hres
    exact hres
theorem DY(x:Operand)(lo hi:Option Operand)(t:Nat)(ti:TI)(s r:List UInt8)(l h:Int)(ht:E.ti t=some ti)(fW:ti.ty= .str)(hx:g.ev x= .d (.str s))(hlo:OI g lo 0 l)(hhi:OI g hi s.length h)
 (h0:0≤l) (h1:l≤h) (h2:h≤s.length) (hr:(s.drop l.toNat).take (h.toNat-l.toNat)=r) :
 gL E.P ⟨some d,.slice t x lo hi none,ty,pos,cP,gd⟩ g ⟨bZ x++(J7 lo++J7 hi),[]⟩ ⟨some (d,.d (.str r)),[]⟩:=by
 subst hr
 intro g2 hg
 have e1:=hg.ev (x:=x) (fun t h=>by simp[h])
 have hlo2:=hlo.agree hg (fun t h=>by simp[h])
 have hhi2:=hhi.agree hg (fun t h=>by simp[h])
 refine yP.val rfl fun X ν a w hs=>?_
 have hv:=hs.ev x
 rw[e1,hx] at hv
 obtain⟨hv,hB⟩:=n9 hv
 have hu:=(E.ok t ti ht).ty
 rw[fW] at hu
 have hlv:(lo.map a.eval=none∧l=0)∨∃k,lo.map a.eval=some (.int k l):=(hlo2.value hs).imp (fun h=>⟨by rw[h.1];rfl,h.2⟩) id
 have hhv:(hi.map a.eval=none∧h=s.length)∨∃k,hi.map a.eval=some (.int k h):=(hhi2.value hs).imp (fun h=>⟨by rw[h.1];rfl,h.2⟩) id
 have hr:=IB (P:=E.P) w hu s _ _ l h hlv hhv h0 h1 h2
 refine⟨_,?_,by simp only[aj];exact .str _ (by simp;omega)⟩
 simp only[execOp,hv,dU,Sem.run_bind,hr,Result.andThen_ok]
 rfl
def pB{α:Type}(cs:List α)(off:Nat)(vs:List α):List α:=cs.take off++(vs++cs.drop (off+vs.length))
theorem AG{α:Type}(cs vs:List α)(off:Nat)(h:off+vs.length≤cs.length):(pB cs off vs).length=cs.length:=by
 simp[pB];omega
theorem yf{sz:Nat}:∀(us:List (List Value))(i off:Nat)(vs rest:List Value),(∀(i:Nat)(u:List Value),us[i]?=some u→u.length=sz)→i<us.length→off+vs.length≤sz →
 pB (us.flatten++rest) (i*sz+off) vs=(us.set i (pB (us.getD i []) off vs)).flatten++rest
 | [],i,_,_,_,_,h,_=>by simp at h
 | u::us,0,off,vs,rest,hu,_,ho=>by
   have h0:u.length=sz:=hu 0 u rfl
   simp only[pB,lG,bV,jd,bU,List.getD_cons_zero,bf]
   rw[cG (by omega),List.drop_append_of_le_length (by omega)]
 | u::us,i+1,off,vs,rest,hu,hi,ho=>by
   have h0:u.length=sz:=hu 0 u rfl
   have ih:=yf us i off vs rest (fun i x hx=>hu (i+1) x (by simpa using hx)) (by simpa using hi) ho
   have e1:(i+1)*sz+off=sz+(i*sz+off):=by rw[br];omega
   simp only[je,bU,List.getD_cons_succ,bf]
   rw[←ih,e1]
   simp only[pB]
   have e2:List.take (sz+(i*sz+off)) (u++(us.flatten++rest))=u++List.take (i*sz+off) (us.flatten++rest):=by
    rw[List.take_append,an (by omega),h0]
    congr 2;omega
   have e3:List.drop (sz+(i*sz+off)+vs.length) (u++(us.flatten++rest))=List.drop (i*sz+off+vs.length) (us.flatten++rest):=by
    rw[List.drop_append,ag (by omega),bB,h0]
    congr 1;omega
   rw[e2,e3,bf]
theorem sy{α:Type}(cs vs:List α)(off j:Nat)(h:off+vs.length≤cs.length):(pB cs off vs)[j]?=if off≤j∧j<off+vs.length then vs[j-off]? else cs[j]?:=by
 unfold pB
 by_cases h1:j<off
 ·rw[if_neg (by omega),aZ (by simp;omega),cJ,if_pos h1]
 ·have e:(cs.take off).length=off:=by simp;omega
  rw[aX (by omega),e]
  by_cases h2:j<off+vs.length
  ·rw[if_pos (by omega),aZ (by omega)]
  ·rw[if_neg (by omega),aX (by omega),c9]
   congr 1;omega
theorem zb(x y:Operand)(t k i off sz e:Nat)(ti ei:TI)(xs:List (List D))(p:PV)(cs:List D)(ht:E.ti t=some ti)(he:E.ti e=some ei)(hsz:sz=ei.n)(hx:g.ev x= .dv k i off sz)(hk:g.at k=some (.acc e xs))(hy:g.ev y=p)
 (hi:i<xs.length) (hl:off+ti.n≤ei.n) (hp:p.whole=true) (hn:(ct p).length=ti.n) (hcs:qE (ct p)=some cs) :
 gL E.P ⟨dn,.store t x y,ty,pos,cP,gd⟩ g ⟨bZ x++bZ y++dn.toList,[k]⟩ ⟨dn.map fun d=>(d,.undef),[(k,.acc e (xs.set i (pB (row xs i) off cs)))]⟩:=by
 intro g2 hg
 have e1:=hg.ev (x:=x) (fun t h=>by simp[h])
 have e2:=hg.ev (x:=y) (fun t h=>by simp[h])
 have h3:=(hg.p k (by simp)).trans hk
 intro X ν a w next Q hs hnx
 have hv:=hs.ev x
 rw[e1,hx] at hv
 have hw:=hs.ev y
 rw[e2,hy] at hw
 simp only[aj] at hv
 obtain⟨_,b,n,c,hb,hv⟩:=hv
 obtain⟨us,ho,fC,hB,hf0⟩:=hs.en k _ h3
 have kg:=hw.cells hp hs.nu
 have cZ:=kg.length
 obtain⟨FQ,hd2⟩:=sH (oJ kg hcs)
 rw[(E.ok e ei he).cells] at fC ho
 subst hsz
 have hlast:=ho.2
 rcases hlast with⟨h1,h2⟩|⟨b',cap,cur,h1,_,h2,h4,h5,h6,h7⟩
 ·omega
 ·rw[h1] at hb
  obtain⟨rfl,rfl,rfl⟩:b'=b∧xs.length=n∧cap=c:=by simpa using hb
  have hul:us.length=xs.length:=fC.len
  have hfl:=fC.ij
  have hmulle:(i+1)*ei.n≤xs.length*ei.n:=aY _ hi
  have hmulle2:xs.length*ei.n≤cap*ei.n:=aY _ h4
  have hadd:(i+1)*ei.n=i*ei.n+ei.n:=by rw[br];omega
  have hone:∀u∈(a.eval y).cells.toList,u.oneCell'=true:=by
   intro u hu
   obtain⟨j,hj,rfl⟩:=List.getElem_of_mem hu
   have hjc:j<cs.length:=by rw[←FQ];exact hj
   exact(hd2 j cs[j] _ (ab hjc) (ab hj)).one
  have hvl:(a.eval y).cells.toList.length=ti.n:=by rw[cZ,hn]
  have ke:=nX (E.ok t ti ht) w b' (i*ei.n+off) e cur (a.eval y) h2 hvl (by omega) hone
  have hr:(execOp a.eval ⟨dn,.store t x y,ty,pos,cP,gd⟩).run E.P w= .ok .skip (w.setRow b' (cur.toList.take (i*ei.n+off)++(a.eval y).cells.toList++cur.toList.drop (i*ei.n+off+(a.eval y).cells.toList.length)).toArray):=by
   simp only[execOp,hv,Instr.storeAt,Instr.sureAddr,Sem.run_bind,Sem.run_pure,Result.andThen_ok,ke]
  have hcur:cur.toList=us.flatten++cur.toList.drop (xs.length*ei.n):=by rw[←h7];exact(hP _ _).symm
  have hnew:cur.toList.take (i*ei.n+off)++(a.eval y).cells.toList++cur.toList.drop (i*ei.n+off+(a.eval y).cells.toList.length)=(us.set i (pB (us.getD i []) off (a.eval y).cells.toList)).flatten++cur.toList.drop (xs.length*ei.n):=by
   have:=yf us i off (a.eval y).cells.toList (cur.toList.drop (xs.length*ei.n)) fC.hu (by omega) (by omega)
   rw[←hcur] at this
   rw[←this,bf]
   rfl
  have hui:us[i]?=some (us.getD i []):=by
   have:i<us.length:=by omega
   simp[bK,ab this]
  have hxi:xs[i]?=some (row xs i):=by simp[row,bK,ab hi]
  have hxil:=fC.hx i _ hxi
  have huil:=fC.hu i _ hui
  have hrows:bg w (bm X ν g2.at) ei.n (xs.set i (pB (row xs i) off cs)) (us.set i (pB (us.getD i []) off (a.eval y).cells.toList)):=by
   refine⟨by simp[hul],fun j z hz=>?_,fun j z hz=>?_,fun j l z u q v k1 k2 k3 k4=>?_⟩
   ·rw[fO] at hz
    by_cases hij:i=j
    ·subst hij
     rw[if_pos rfl,if_pos hi] at hz
     obtain rfl:=Option.some.inj hz
     rw[AG _ _ _ (by rw[hxil,←FQ,hvl];exact hl),hxil]
    ·rw[if_neg hij] at hz
     exact fC.hx j z hz
   ·rw[fO] at hz
    by_cases hij:i=j
    ·subst hij
     rw[if_pos rfl,if_pos (by omega)] at hz
     obtain rfl:=Option.some.inj hz
     rw[AG _ _ _ (by rw[huil,hvl];exact hl),huil]
    ·rw[if_neg hij] at hz
     exact fC.hu j z hz
   ·rw[fO] at k1 k2
    by_cases hij:i=j
    ·subst hij
     rw[if_pos rfl,if_pos hi] at k1
     rw[if_pos rfl,if_pos (by omega)] at k2
     obtain rfl:=Option.some.inj k1
     obtain rfl:=Option.some.inj k2
     rw[sy _ _ _ _ (by rw[hxil,←FQ,hvl];exact hl)] at k3
     rw[sy _ _ _ _ (by rw[huil,hvl];exact hl)] at k4
     rw[FQ] at k4
     by_cases nH:off≤l∧l<off+cs.length
     ·rw[if_pos nH] at k3 k4
      exact hd2 _ _ _ k3 k4
     ·rw[if_neg nH] at k3 k4
      exact fC.hr i l _ _ q v hxi hui k3 k4
    ·rw[if_neg hij] at k1 k2
     exact fC.hr j l z u q v k1 k2 k3 k4
  unfold Oper.wp
  rw[hr,Oper.upon_skip,hnew]
  refine hnx _ _ _ (hs.xd k (.acc e xs) (.acc e (xs.set i (pB (row xs i) off cs))) h3 rfl (j7 w b' _ _ ((hX hf0).2 (by rw[h1];rfl))) dn .undef Go.undef ?_ ?_)
  ·intro hwf hm
   refine⟨us.set i (pB (us.getD i []) off (a.eval y).cells.toList),?_,?_,by simpa using hB,hf0⟩
   ·rw[(E.ok e ei he).cells,h1]
    have hf2:=hrows.ij
    refine⟨hf2,.inr ⟨b',cap,_,by simp,cN _,setRow_heap w b' _ _ e _ h2,by simpa using h4,h5,?_,?_⟩⟩
    ·simp only[fL,ao,hf2,dw,ey,cO,h6]
     omega
    ·rw[cG (by rw[hf2];exact ar _),an (by rw[hf2];exact ar _)]
   ·rw[(E.ok e ei he).cells]
    exact hrows.frame hwf (by simp[World.setRow])
  ·intro _
   simp only[aj]
def Gw(ns:List Int):List (List D):=ns.map fun n=>[.val (.int .u8 n)]
def PG(ns:List Int):List UInt8:=ns.map fun n=>UInt8.ofNat n.toNat
end
mutual
def sc:PV→Bool
 | .undef=>true
 | .aV=>true
 | .d (.val _)=>true
 | .d (.str _)=>true
 | .agg cs=>NL cs
 | .gN cs=>NL cs
 | _=>false
def NL:List PV→Bool
 | []=>true
 | p::ps=>sc p&&NL ps
end
section
variable{w w':World}{ok ok':Nat→Prop}{ν ν':Nat→Nm}{st st':Nat→Option En}
mutual
theorem aj.sc:∀(p:PV)(v:Value),sc p=true→aj w ok ν st p v→aj w' ok' ν' st' p v
 | .undef,v,_,h=>by simpa[aj] using h
 | .aV,v,_,h=>by simpa[aj] using h
 | .d (.val u),v,_,h=>by
   simp only[aj] at h⊢
   cases h with
   | val u h=>exact .val _ h
 | .d (.str u),v,_,h=>by
   simp only[aj] at h⊢
   cases h with
   | str u h=>exact .str _ h
 | .agg cs,v,hs,h=>by
   simp only[Eng.sc] at hs
   simp only[aj] at h⊢
   obtain⟨vs,e,h⟩:=h
   exact⟨vs,e,ai.sc cs vs hs h⟩
 | .gN cs,v,hs,h=>by
   simp only[Eng.sc] at hs
   simp only[aj] at h⊢
   obtain⟨vs,e,h⟩:=h
   exact⟨vs,e,ai.sc cs vs hs h⟩
 | .any,_,hs,_=>by simp[Eng.sc] at hs
 | .d (.b7 _),_,hs,_=>by simp[Eng.sc] at hs
 | .ptr _ _,_,hs,_=>by simp[Eng.sc] at hs
 | .acc _,_,hs,_=>by simp[Eng.sc] at hs
 | .dv _ _ _ _,_,hs,_=>by simp[Eng.sc] at hs
 | .di _ _ _,_,hs,_=>by simp[Eng.sc] at hs
 | .fn _ _,_,hs,_=>by simp[Eng.sc] at hs
theorem ai.sc:∀(ps:List PV)(vs:List Value),NL ps=true→ai w ok ν st ps vs→ai w' ok' ν' st' ps vs
 | [],[],_,_=>by simp[ai]
 | p::ps,v::vs,hs,h=>by
   simp only[Eng.NL,ae] at hs
   simp only[ai] at h⊢
   exact⟨aj.sc p v hs.1 h.1,ai.sc ps vs hs.2 h.2⟩
 | [],_::_,_,h=>by simp[ai] at h
 | _::_,[],_,h=>by simp[ai] at h
end
end
mutual
inductive Vw(g:G)(ks:List Nat):PV→PV→Prop where
 | same {p:PV} (h:p.lt 0=true):Vw g ks p p
 | nil:Vw g ks .aV (.d (.b7 []))
 | acc {k:Nat} {e:TypeId} {xs:List (List D)} (h:oP k ks=true) (hk:g.at k=some (.acc e xs)):Vw g ks (.acc k) (.d (.b7 xs))
 | cY {k:Nat} {e:TypeId} {xs:List (List T)} {ys:List (List D)} (h:oP k ks=true) (hk:g.at k=some (.cY e xs)) (hf:b6 xs=some ys):Vw g ks (.acc k) (.d (.b7 ys))
 | agg {cs ds:List PV} (h:pY g ks cs ds):Vw g ks (.agg cs) (.agg ds)
 | fn {f:Nat} {cs ds:List PV} (h:pY g ks cs ds):Vw g ks (.fn f cs) (.fn f ds)
 | box {k:Nat} {cs:List PV} {ds:List D} (h:oP k ks=true) (hk:g.at k=some (.box cs)) (hc:pY g ks cs (ff ds)):Vw g ks (.ptr k 0) (.di [ds] 0 0)
inductive pY(g:G)(ks:List Nat):List PV→List PV→Prop where
 | nil:pY g ks [] []
 | cons {p q:PV} {ps qs:List PV} (h:Vw g ks p q) (h':pY g ks ps qs):pY g ks (p::ps) (q::qs)
end
section
variable{g g2:G}{ks:List Nat}
mutual
theorem Vw.FP{p q:PV}:Vw g ks p q→q.lt 0=true
 | .same h=>h
 | .nil=>rfl
 | .acc _ _=>rfl
 | .cY _ _ _=>rfl
 | .agg h=>by simp only[PV.lt];exact pY.FP h
 | .fn h=>by simp only[PV.lt];exact pY.FP h
 | .box _ _ _=>rfl
theorem pY.FP{ps qs:List PV}:pY g ks ps qs→oo 0 qs=true
 | .nil=>rfl
 | .cons h h'=>by simp only[oo,ae];exact⟨Vw.FP h,pY.FP h'⟩
end
mutual
theorem Vw.agree(ha:∀k∈ks,g2.at k=g.at k){p q:PV}:Vw g ks p q→Vw g2 ks p q
 | .same h=>.same h
 | .nil=>.nil
 | .acc h hk=>.acc h ((ha _ (kI.1 h)).trans hk)
 | .cY h hk hf=>.cY h ((ha _ (kI.1 h)).trans hk) hf
 | .agg h=>.agg (pY.agree ha h)
 | .fn h=>.fn (pY.agree ha h)
 | .box h hk hc=>.box h ((ha _ (kI.1 h)).trans hk) (pY.agree ha hc)
theorem pY.agree(ha:∀k∈ks,g2.at k=g.at k){ps qs:List PV}:pY g ks ps qs→pY g2 ks ps qs
 | .nil=>.nil
 | .cons h h'=>.cons (Vw.agree ha h) (pY.agree ha h')
end
end
section
variable{P:Program}{X:Cx}{ν ν':Nat→Nm}{g:G}{a:Act}{w:World}{ok:Nat→Prop}{st:Nat→Option En}{ks:List Nat}
mutual
theorem aj.FP(hw:∀b,bm X ν g.at b→b<w.heap.size→ok b∧w.heap[b]?=w.heap[b]?):∀(p:PV)(v:Value),p.lt 0=true→aj w (bm X ν g.at) ν g.at p v→aj w ok ν' st p v
 | .any,_,_,_=>by simp[aj]
 | .undef,_,_,h=>by simpa[aj] using h
 | .aV,_,_,h=>by simpa[aj] using h
 | .d x,v,_,h=>by
   simp only[aj] at h⊢
   exact h.frame hw (ar _)
 | .agg cs,v,hl,h=>by
   simp only[PV.lt] at hl
   simp only[aj] at h⊢
   obtain⟨vs,e,h⟩:=h
   exact⟨vs,e,ai.FP hw cs vs hl h⟩
 | .gN cs,v,hl,h=>by
   simp only[PV.lt] at hl
   simp only[aj] at h⊢
   obtain⟨vs,e,h⟩:=h
   exact⟨vs,e,ai.FP hw cs vs hl h⟩
 | .di xs i off,v,_,h=>by
   simp only[aj] at h⊢
   obtain⟨b,o,cap,h1,h2,h3⟩:=h
   exact⟨b,o,cap,h1.frame hw (ar _),h2,h3⟩
 | .fn f cs,v,hl,h=>by
   simp only[PV.lt] at hl
   simp only[aj] at h⊢
   obtain⟨vs,e,h⟩:=h
   exact⟨vs,e,ai.FP hw cs vs hl h⟩
 | .ptr _ _,_,hl,_=>by simp[PV.lt] at hl
 | .acc _,_,hl,_=>by simp[PV.lt] at hl
 | .dv _ _ _ _,_,hl,_=>by simp[PV.lt] at hl
theorem ai.FP(hw:∀b,bm X ν g.at b→b<w.heap.size→ok b∧w.heap[b]?=w.heap[b]?):∀(ps:List PV)(vs:List Value),oo 0 ps=true→ai w (bm X ν g.at) ν g.at ps vs→ai w ok ν' st ps vs
 | [],[],_,_=>by simp[ai]
 | p::ps,v::vs,hl,h=>by
   simp only[oo,ae] at hl
   simp only[ai] at h⊢
   exact⟨aj.FP hw p v hl.1 h.1,ai.FP hw ps vs hl.2 h.2⟩
 | [],_::_,_,h=>by simp[ai] at h
 | _::_,[],_,h=>by simp[ai] at h
end
theorem DM{w:World}{ok:Nat→Prop}{ν:Nat→Nm}{st:Nat→Option En}:∀{ds:List D}{vs:List Value},ai w ok ν st (ff ds) vs→∀(j:Nat)(d:D)(v:Value),ds[j]?=some d→vs[j]?=some v→dC w ok d v
 | [],_,_,j,d,v,h,_=>by simp at h
 | _::_,[],h,_,_,_,_,_=>by simp[ff,ai] at h
 | e::ds,u::vs,h,0,d,v,h1,h2=>by
   simp only[ff,aR,ai,aj] at h
   obtain rfl:e=d:=by simpa using h1
   obtain rfl:u=v:=by simpa using h2
   exact h.1
 | e::ds,u::vs,h,j+1,d,v,h1,h2=>by
   simp only[ff,aR,ai] at h
   exact DM (ds:=ds) h.2 j d v (by simpa using h1) (by simpa using h2)
theorem O9{w:World}{ok:Nat→Prop}{ν:Nat→Nm}{st:Nat→Option En}{b:Nat}{ds:List D}{vs:List Value}(kC:ok b)(hb:b<w.heap.size)(hc:fy w b 0 vs)(h:ai w ok ν st (ff ds) vs) :
 dC w ok (.b7 [ds]) (.slice (some ⟨b,0,none⟩) [ds].length 1):=by
 have hl:vs.length=ds.length:=by simpa[ff] using h.length
 refine .b7 [ds] [vs] b 0 1 ds.length kC hb (by simp) (by unfold maxLen;omega) (by simp[LB]) rfl ?_ ?_ (by simpa using hc) ?_
 ·intro i x hx
  cases i with
  | zero=>obtain rfl:ds=x:=by simpa using hx
          rfl
  | succ i=>simp at hx
 ·intro i x hx
  cases i with
  | zero=>obtain rfl:vs=x:=by simpa using hx
          exact hl
  | succ i=>simp at hx
 ·intro i j x u d v h1 h2 h3 h4
  cases i with
  | zero=>
    obtain rfl:ds=x:=by simpa using h1
    obtain rfl:vs=u:=by simpa using h2
    exact DM h j d v h3 h4
  | succ i=>simp at h1
mutual
theorem aj.vw(hs:Sat P X ν g a w)(hw:∀b,bm X ν g.at b→b<w.heap.size→ok b∧w.heap[b]?=w.heap[b]?)(dP:∀b,Own ν g.at b→ok b){p q:PV}:∀(v:Value),Vw g ks p q→aj w (bm X ν g.at) ν g.at p v→aj w ok ν' st q v
 | v,.same hl,h=>aj.FP hw _ v hl h
 | v,.nil,h=>by
   simp only[aj] at h⊢
   rw[h];exact .nil
 | v,.acc _ hk,h=>by
   simp only[aj] at h⊢
   rw[h.2]
   obtain⟨us,h1,h2,h3,_⟩:=hs.en _ _ hk
   exact nB h1 h2 h3 (fun b hb=>dP b ⟨_,_,hk,rfl,.inl hb⟩) hw
 | v,.cY (xs:=xs) (e:=e) _ hk hf,h=>by
   simp only[aj] at h⊢
   rw[h.2]
   have hen:=hs.en _ _ hk
   exact fP.data hw (.own e xs) _ _ _ (by simp only[T.zr,hf]) hen.1 fun b hb=>dP b ⟨_,_,hk,rfl,jL.2 hb⟩
 | v,.agg hc,h=>by
   simp only[aj] at h⊢
   obtain⟨vs,e,h⟩:=h
   exact⟨vs,e,ai.vw hs hw dP vs hc h⟩
 | v,.fn hc,h=>by
   simp only[aj] at h⊢
   obtain⟨vs,e,h⟩:=h
   exact⟨vs,e,ai.vw hs hw dP vs hc h⟩
 | v,.box _ hk hc,h=>by
   simp only[aj] at h⊢
   obtain⟨_,b,h1,h2⟩:=h
   obtain⟨b',vs,T,h3,h4,h5,_⟩:=hs.en _ _ hk
   obtain rfl:b'=b:=by
    rw[h1] at h3
    simpa using h3.symm
   have h6:=ai.vw hs hw dP vs hc h5
   refine⟨b',0,1,O9 (dP b' ⟨_,_,hk,rfl,.inl (by rw[h1];rfl)⟩) (n7 h4) (nT h4) h6,by simp,by rw[h2];simp⟩
theorem ai.vw(hs:Sat P X ν g a w)(hw:∀b,bm X ν g.at b→b<w.heap.size→ok b∧w.heap[b]?=w.heap[b]?)(dP:∀b,Own ν g.at b→ok b){ps qs:List PV}:∀(vs:List Value),pY g ks ps qs→ai w (bm X ν g.at) ν g.at ps vs→ai w ok ν' st qs vs
 | [],.nil,_=>by simp[ai]
 | v::vs,.cons h1 h2,h=>by
   simp only[ai] at h⊢
   exact⟨aj.vw hs hw dP v h1 h.1,ai.vw hs hw dP vs h2 h.2⟩
 | _::_,.nil,h=>by simp[ai] at h
 | [],.cons _ _,h=>by simp[ai] at h
end
end
theorem Lx{P:Program}{o:Oper}{g:G}{iB:Operand}{xs:List Operand}{tys:Array TypeId}{d:Nat}(ho:o.op= .call ⟨.value iB,⟨xs⟩,tys⟩)(hd:o.dst=some d){f:FuncId}{cap:List PV}(hfn:g.ev iB= .fn f cap)
 (ks:List Nat) (bA:List PV) (R:PV→List (Option En)→Prop) (hC:C P f bA [] R) (jN:pY g ks (xs.map g.ev++cap) bA) (hR:∀r s,R r s→sc r=true)
 (X:Cx) (ν:Nat→Nm) (a:Act) (w:World) (next:Act→World→Prop) (Q:Exit→Act→World→Prop) (hs:Sat P X ν g a w)
 (hn:∀r s ν' a' w',R r s→Sat P X ν' ⟨gy g.sl d r,g.st⟩ a' w'→next a' w'):o.wp P a w next Q:=by
 have hfv:=hs.ev iB
 rw[hfn] at hfv
 simp only[aj] at hfv
 obtain⟨vcap,hfv,fV⟩:=hfv
 have hxs:=rU hs xs
 let Xc:Cx:=⟨w,Own ν (bR []),ν,bR [],X.Z⟩
 have hno:∀b,¬Own ν (bR []) b:=by
  rintro b ⟨k,e,h,_⟩
  cases k<;>simp[bR] at h
 have hw:∀b,bm X ν g.at b→b<w.heap.size→bm Xc ν (bR []) b∧w.heap[b]?=w.heap[b]?:=fun b hb _=>⟨⟨hno b,hb.2⟩,rfl⟩
 have dP:∀b,Own ν g.at b→bm Xc ν (bR []) b:=fun b hb=>⟨hno b,hs.BK hb⟩
 have mr:ai w (bm Xc ν (bR [])) ν (bR []) bA (xs.map a.eval++vcap):=ai.vw hs hw dP _ jN (hxs.app fV)
 obtain⟨⟨fn,hfn1,hfn2,hfn3⟩,hC⟩:=hC
 have hr:(execOp a.eval o).run P w= .ok (.enter f ⟨xs.map a.eval++vcap⟩) w:=by
  have n1 : ¬ fn.name = "runtime.NumGoroutine" := by simpa using hfn3
  have n2:¬fn.body=none:=fun e=>by rw[e] at hfn2;cases hfn2
  simp[execOp,ho,resolve,hfv,Deferred.ofValue,invoke,callFunc,program,hfn1,n1,n2,Sem.run]
 have fX:∀k,(⟨bA,[]⟩:G).at k=none:=fun k=>by cases k<;>rfl
 have hent:Sat P Xc ν ⟨bA,[]⟩ ⟨⟨xs.map a.eval++vcap⟩,[]⟩ w:=by
  refine⟨by simpa using mr.length,fun t=>?_,fun k e h=>?_,fun k k' e e' b h=>?_,fun b hb=>?_,fun k h=>?_,fun k h=>?_,⟨fun b hb=>?_,hs.kt rfl fun b hb=>(hno b hb).elim⟩,nv.refl _ w,rfl⟩
  ·have key:∀(ps:List PV)(us:List Value)(t:Nat),ai w (bm Xc ν (bR [])) ν (bR []) ps us→aj w (bm Xc ν (bR [])) ν (bR []) (nth ps t) (us.getD t Go.undef):=by
    intro ps
    induction ps with
    | nil=>intro us t _;cases t<;>simp[nth,aj]
    | cons p ps ih=>
      intro us t hr
      cases us with
      | nil=>simp[ai] at hr
      | cons u us=>
        simp only[ai] at hr
        cases t with
        | zero=>simpa[nth] using hr.1
        | succ t=>simpa[nth] using ih us t hr.2
   have:=key bA _ t mr
   show aj w (bm Xc ν (bR [])) ν (bR []) (nth bA t) ((⟨xs.map a.eval++vcap⟩:Array Value).getD t Go.undef)
   simpa[Array.getD_eq_getD_getElem?] using this
  ·rw[fX] at h;cases h
  ·rw[fX] at h;cases h
  ·exact(hno b hb).elim
  ·rw[fX] at h;cases h
  ·exact⟨rfl,h⟩
  ·exact⟨Nat.lt_of_lt_of_le (hs.wx b hb).1 hs.qp.size,hno b⟩
 unfold Oper.wp
 rw[hr,Oper.upon_enter]
 refine(hC Xc (xs.map a.eval++vcap) rfl rfl hent).mono ?_
 rintro e w' ⟨v,res,st',ν',rfl,hRr,dX⟩
 show next (a.put o.dst v) w'
 rw[hd]
 refine hn res st' ν _ _ hRr (hs.IP (dX.qp.mono fun b hb _=>hno b hb) d res v fun _ _=>?_)
 have:=dX.sl 0
 exact aj.sc res v (hR _ _ hRr) this
section
variable{E:Env}{g:G}{d:Nat}{ty:TypeId}{pos:String}{cP:Array Edge}{gd:Option (Nat×Bool)}
theorem Lq(iB:Operand)(xs:List Operand)(tys:Array TypeId)(f:FuncId)(cap:List PV)(hfn:g.ev iB= .fn f cap)(ks:List Nat)(bA:List PV)(res:PV)(hC:C E.P f bA [] (bw res []))
 (jN:pY g ks (xs.map g.ev++cap) bA) (hsc:sc res=true) :
 gL E.P ⟨some d,.call ⟨.value iB,⟨xs⟩,tys⟩,ty,pos,cP,gd⟩ g ⟨bZ iB++xs.flatMap bZ,ks⟩ ⟨some (d,res),[]⟩:=by
 intro g2 hg
 have e1:=hg.ev (x:=iB) (fun t h=>by simp[h])
 have e2:=np hg xs (fun t h=>by simp only[aG];exact .inr h)
 intro X ν a w next Q hs hn
 refine Lx rfl rfl (by rw[e1,hfn]) ks bA (bw res []) hC (by rw[e2];exact jN.agree (fun k hk=>hg.p k hk)) (fun r s h=>by rw[h.1];exact hsc) X ν a w next Q hs ?_
 rintro r s ν' a' w' ⟨rfl,rfl⟩ hs'
 exact hn ν' a' w' hs'
end
def Fin(E:Env)(rs:List ResultVar)(n0:Nat)(R:PV→List (Option En)→Prop)(g:G):Prop:=∃g',kG E.P n0 g g'∧MH E rs n0 R g'
theorem Fin.plain{E:Env}{rs:List ResultVar}{R:PV→List (Option En)→Prop}{g:G}(ps:List PV)(q:PV)(h1:qJ E g rs=some ps)(h2:cv (gf ps) q)(hl:q.lt 0=true)(hR:R q []):True:=trivial
end Go.Eng
namespace Go.Eng
open Go.RowKit
inductive qS where
 | go(R:Rd)(δ:Dl)
 | jx(φ:Prop)(R:Rd)(δ:Dl)
 | stop
def qS.Ok(P:Program)(o:Oper)(g:G):qS→Prop
 | .go R δ=>gL P o g R δ
 | .jx φ R δ=>φ→gL P o g R δ
 | .stop=>True
def pM:Nat→Nat→Bool
 | 0,_=>true
 | _+1,0=>false
 | n+1,m+1=>pM n m
theorem gg:∀{n m:Nat},pM n m=true→n≤m
 | 0,_,_=>cN _
 | n+1,0,h=>by simp[pM] at h
 | n+1,m+1,h=>Nat.succ_le_succ (gg (by simpa[pM] using h))
def xp:Nat→Nat→Bool
 | 0,0=>true
 | n+1,m+1=>xp n m
 | _,_=>false
theorem nK:∀{n m:Nat},xp n m=true→n=m
 | 0,0,_=>rfl
 | n+1,m+1,h=>congrArg (·+1) (nK (by simpa[xp] using h))
 | 0,m+1,h=>by simp[xp] at h
 | n+1,0,h=>by simp[xp] at h
def BD:List D→Nat
 | []=>0
 | _::as=>BD as+1
theorem Bb:∀(l:List D),BD l=l.length
 | []=>rfl
 | _::as=>by simp[BD,Bb as]
theorem FH{n:Nat}{l:List D}(h:pM n (BD l)=true):n≤l.length:=by
 have:=gg h
 rwa [Bb] at this
theorem KZ{n:Nat}{l:List D}(h:xp (BD l) n=true):l.length=n:=by
 have:=nK h
 rwa [Bb] at this
def gI:List (Option En)→Nat
 | []=>0
 | _::as=>gI as+1
theorem iR:∀(l:List (Option En)),gI l=l.length
 | []=>rfl
 | _::as=>by simp[gI,iR as]
def pb:List PV→Nat
 | []=>0
 | _::as=>pb as+1
theorem jz:∀(l:List PV),pb l=l.length
 | []=>rfl
 | _::as=>by simp[pb,jz as]
def G.new(g:G):Nat:=gI g.st
theorem G.gM(g:G):g.at g.new=none:=wR (by unfold G.new;rw[iR];exact ar _)
def tk:Nat→List PV→List PV
 | 0,_=>[]
 | _+1,[]=>[]
 | n+1,a::as=>a::tk n as
theorem zV:∀(n:Nat)(l:List PV),tk n l=l.take n
 | 0,l=>by simp[tk]
 | n+1,[]=>by simp[tk]
 | n+1,a::as=>by simp[tk,zV n as]
def dr:Nat→List PV→List PV
 | 0,l=>l
 | _+1,[]=>[]
 | n+1,_::as=>dr n as
theorem zT:∀(n:Nat)(l:List PV),dr n l=l.drop n
 | 0,l=>by simp[dr]
 | n+1,[]=>by simp[dr]
 | n+1,a::as=>by simp[dr,zT n as]
def Ev:List PV→List PV→List PV
 | cs,[]=>cs
 | [],vs=>vs
 | _::cs,v::vs=>v::Ev cs vs
def EW:List PV→Nat→List PV→List PV
 | cs,0,vs=>Ev cs vs
 | [],_+1,vs=>vs
 | c::cs,n+1,vs=>c::EW cs n vs
theorem FA:∀(cs vs:List PV),vs.length≤cs.length→Ev cs vs=vs++cs.drop vs.length
 | cs,[],_=>by cases cs<;>simp[Ev]
 | [],v::vs,h=>by simp at h
 | c::cs,v::vs,h=>by simp[Ev,FA cs vs (by simpa using h)]
theorem Bu:∀(cs:List PV)(n:Nat)(vs:List PV),n+vs.length≤cs.length→EW cs n vs=qZ cs n vs
 | cs,0,vs,h=>by
   rw[bV] at h
   have e:EW cs 0 vs=Ev cs vs:=by cases cs<;>rfl
   rw[e,FA cs vs h]
   simp[qZ]
 | [],n+1,vs,h=>by simp at h
 | c::cs,n+1,vs,h=>by
   have:=Bu cs n vs (by simp at h;omega)
   simp only[EW,this,qZ]
   rw[show n+1+vs.length=n+vs.length+1 by omega]
   simp
def Ez:List (Nat×Nat×Nat)→Nat→Option (Nat×Nat×Nat)
 | [],_=>none
 | a::_,0=>some a
 | _::as,n+1=>Ez as n
theorem A4:∀(l:List (Nat×Nat×Nat))(n:Nat),Ez l n=l[n]?
 | [],n=>by simp[Ez]
 | a::as,0=>rfl
 | a::as,n+1=>by simp[Ez,A4 as n]
def GQ:List PV→Nat→Option PV
 | [],_=>none
 | a::_,0=>some a
 | _::as,n+1=>GQ as n
theorem Fx:∀(l:List PV)(n:Nat),GQ l n=l[n]?
 | [],n=>by simp[GQ]
 | a::as,0=>rfl
 | a::as,n+1=>by simp[GQ,Fx as n]
def N9:List (Nat×Nat×Nat)→List (Nat×Nat)
 | []=>[]
 | (_,o,s)::r=>(o,s)::N9 r
theorem I6:∀(l:List (Nat×Nat×Nat)),N9 l=l.map fun x=>(x.2.1,x.2.2)
 | []=>rfl
 | (a,o,s)::r=>by simp[N9,I6 r]
def OE(g:G):List (Nat×Operand)→List (Nat×PV)
 | []=>[]
 | (i,x)::r=>(i,g.ev x)::OE g r
theorem H8(g:G):∀(l:List (Nat×Operand)),OE g l=l.map fun x=>(x.1,g.ev x.2)
 | []=>rfl
 | (i,x)::r=>by simp[OE,H8 g r]
def NM(g:G):List (Nat×Operand)→List PV
 | []=>[]
 | (_,x)::r=>g.ev x::NM g r
theorem Ew(g:G):∀(l:List (Nat×Operand)),NM g l=l.map fun x=>g.ev x.2
 | []=>rfl
 | (i,x)::r=>by simp[NM,Ew g r]
def Ox:List (Nat×Operand)→List Nat
 | []=>[]
 | (i,_)::r=>i::Ox r
theorem Er:∀(l:List (Nat×Operand)),Ox l=l.map (·.1)
 | []=>rfl
 | (i,x)::r=>by simp[Ox,Er r]
def Ng:List (Nat×Operand)→List Nat
 | []=>[]
 | (_,x)::r=>bZ x++Ng r
theorem BI:∀(l:List (Nat×Operand)),Ng l=l.flatMap fun x=>bZ x.2
 | []=>rfl
 | (i,x)::r=>by simp[Ng,BI r]
def Eh:List (Nat×Operand)→Nat
 | []=>0
 | _::r=>Eh r+1
theorem Au:∀(l:List (Nat×Operand)),Eh l=l.length
 | []=>rfl
 | (i,x)::r=>by simp[Eh,Au r]
def GU:List (Nat×Nat)→Nat→Option (Nat×Nat)
 | [],_=>none
 | a::_,0=>some a
 | _::as,n+1=>GU as n
theorem E8:∀(l:List (Nat×Nat))(n:Nat),GU l n=l[n]?
 | [],n=>by simp[GU]
 | a::as,0=>rfl
 | a::as,n+1=>by simp[GU,E8 as n]
def BV(places:List (Nat×Nat))(cs:List PV):List (Nat×PV)→Option (List PV)
 | []=>some cs
 | (i,p)::rest=>
   match GU places i with
   | none=>none
   | some (off,sz)=>match p.whole,eU (pb (ct p)) sz,pM (off+sz) (pb cs) with
     | true,true,true=>BV places (EW cs off (ct p)) rest
     | _,_,_=>none
theorem Fp:∀(rest:List (Nat×PV))(places:List (Nat×Nat))(cs r:List PV),BV places cs rest=some r→w6 places cs rest=some r
 | [],_,_,_,h=>h
 | (i,p)::rest,places,cs,r,h=>by
   simp only[BV] at h
   simp only[w6]
   split at h
   ·cases h
   ·rename_i off sz hpl
    rw[E8] at hpl
    rw[hpl]
    simp only
    split at h
    ·rename_i h1 h2 h3
     have h2:pb (ct p)=sz:=a6 h2
     rw[jz] at h2
     have h3:=gg h3
     rw[jz] at h3
     rw[if_pos ⟨h1,h2,h3⟩]
     rw[Bu _ _ _ (by omega)] at h
     exact Fp rest places _ r h
    ·cases h
def i64(p:PV):Option Int:=match p with | .d (.val (.int .i64 n))=>some n|_=>none
def OV(d:Nat)(R:Rd):BinOp→Int→Int→qS
 | .add,m,n=>.jx (Hg (m+n)) R ⟨some (d,.d (.val (.int .i64 (m+n)))),[]⟩
 | .sub,m,n=>.jx (Hg (m-n)) R ⟨some (d,.d (.val (.int .i64 (m-n)))),[]⟩
 | .mul,m,n=>.jx (Hg (m*n)) R ⟨some (d,.d (.val (.int .i64 (m*n)))),[]⟩
 | .quo,m,n=>.jx (n≠0∧Hg (m.tdiv n)) R ⟨some (d,.d (.val (.int .i64 (m.tdiv n)))),[]⟩
 | .rem,m,n=>.jx (n≠0) R ⟨some (d,.d (.val (.int .i64 (m.tmod n)))),[]⟩
 | _,_,_=>.stop
def Pe(d:Nat)(R:Rd):BinOp→Int→Int→qS
 | .eql,m,n=>.go R ⟨some (d,.d (.val (.bool (m == n)))),[]⟩
 | .neq,m,n=>.go R ⟨some (d,.d (.val (.bool (m != n)))),[]⟩
 | .lss,m,n=>.go R ⟨some (d,.d (.val (.bool (decide (m<n))))),[]⟩
 | .leq,m,n=>.go R ⟨some (d,.d (.val (.bool (decide (m≤n))))),[]⟩
 | .gtr,m,n=>.go R ⟨some (d,.d (.val (.bool (decide (m>n))))),[]⟩
 | .geq,m,n=>.go R ⟨some (d,.d (.val (.bool (decide (m≥n))))),[]⟩
 | _,_,_=>.stop
def Mi:BinOp→Bool
 | .eql=>true
 | .neq=>true
 | .lss=>true
 | .leq=>true
 | .gtr=>true
 | .geq=>true
 | _=>false
def OY(d:Nat)(R:Rd):BinOp→List UInt8→List UInt8→qS
 | .add,l,m=>.jx (l.length+m.length≤LB) R ⟨some (d,.d (.str (l++m))),[]⟩
 | .eql,l,m=>.go R ⟨some (d,.d (.val (.bool (l == m)))),[]⟩
 | .neq,l,m=>.go R ⟨some (d,.d (.val (.bool (!(l == m))))),[]⟩
 | .lss,l,m=>.go R ⟨some (d,.d (.val (.bool (Op.bytesLess l m)))),[]⟩
 | .leq,l,m=>.go R ⟨some (d,.d (.val (.bool (Op.bytesLess l m||l == m)))),[]⟩
 | .gtr,l,m=>.go R ⟨some (d,.d (.val (.bool (!(Op.bytesLess l m||l == m))))),[]⟩
 | .geq,l,m=>.go R ⟨some (d,.d (.val (.bool (!Op.bytesLess l m)))),[]⟩
 | _,_,_=>.stop
def JC:IntKind→IntKind→Bool
 | .i64,.i64=>true
 | .u8,.u8=>true
 | .u64,.u64=>true
 | .u32,.u32=>true
 | _,_=>false
theorem BB{a b:IntKind}(h:JC a b=true):a=b:=by cases a<;>cases b<;>first|rfl|(cases h;done)
def OT(E:Env)(g:G)(d:Nat)(b:BinOp)(t:TypeId)(x y:Operand):qS:=
 match g.ev x,g.ev y with
 | .d (.val (.int k m)),.d (.val (.int k' n))=>
   match JC k k' with
   | true=>match Mi b with
     | true=>Pe d ⟨bZ x++bZ y,[]⟩ b m n
     | false=>match JC k .i64 with
       | true=>OV d ⟨bZ x++bZ y,[]⟩ b m n
       | false=>.stop
   | false=>.stop
 | .d (.str l),.d (.str m)=>OY d ⟨bZ x++bZ y,[]⟩ b l m
 | .d (.val (.bool m)),.d (.val (.bool n))=>
   match E.ti t with
   | some ti=>match ti.ty,b with
     | .bool,.eql=>.go ⟨bZ x++bZ y,[]⟩ ⟨some (d,.d (.val (.bool (m == n)))),[]⟩
     | .bool,.neq=>.go ⟨bZ x++bZ y,[]⟩ ⟨some (d,.d (.val (.bool (!(m == n))))),[]⟩
     | _,_=>.stop
   | none=>.stop
 | _,_=>.stop
section
variable{E:Env}{g:G}{d:Nat}{ty:TypeId}{pos:String}{cP:Array Edge}{gd:Option (Nat×Bool)}{dn:Option Nat}
theorem M5(b:BinOp)(m n:Int)(t u:TypeId)(x y:Operand)(hx:g.ev x= .d (.val (.int .i64 m)))(hy:g.ev y= .d (.val (.int .i64 n))) :
 (OV d ⟨bZ x++bZ y,[]⟩ b m n).Ok E.P ⟨some d,.binOp b t x y u,ty,pos,cP,gd⟩ g:=by
 cases b<;>first
  | exact fun h=>MS x y m n t u hx hy h
  | exact fun h=>ND x y m n t u hx hy h
  | exact fun h=>MV x y m n t u hx hy h
  | exact fun h=>ML x y m n t u hx hy h.1 h.2
  | exact fun h=>MQ x y m n t u hx hy h
  | exact trivial
theorem M1(b:BinOp)(k:IntKind)(m n:Int)(t u:TypeId)(x y:Operand)(hx:g.ev x= .d (.val (.int k m)))(hy:g.ev y= .d (.val (.int k n))) :
 (Pe d ⟨bZ x++bZ y,[]⟩ b m n).Ok E.P ⟨some d,.binOp b t x y u,ty,pos,cP,gd⟩ g:=by
 cases b<;>first
  | exact Lv _ x y k m n _ t u hx hy rfl
  | exact trivial
theorem NB(b:BinOp)(l m:List UInt8)(t u:TypeId)(x y:Operand)(hx:g.ev x= .d (.str l))(hy:g.ev y= .d (.str m)) :
 (OY d ⟨bZ x++bZ y,[]⟩ b l m).Ok E.P ⟨some d,.binOp b t x y u,ty,pos,cP,gd⟩ g:=by
 cases b<;>first
  | exact fun h=>MM x y l m t u hx hy h
  | exact Ln _ x y l m _ t u hx hy rfl
  | exact trivial
theorem NG(b:BinOp)(t u:TypeId)(x y:Operand):(OT E g d b t x y).Ok E.P ⟨some d,.binOp b t x y u,ty,pos,cP,gd⟩ g:=by
 unfold OT
 split
 ·rename_i k m k' n hx hy
  split
  ·rename_i hk
   have hk:=BB hk
   subst hk
   split
   ·exact M1 b _ m n t u x y hx hy
   ·split
    ·rename_i hk
     have hk:=BB hk
     subst hk
     exact M5 b m n t u x y hx hy
    ·trivial
  ·trivial
 ·rename_i l m hx hy
  exact NB b l m t u x y hx hy
 ·rename_i m n hx hy
  split
  ·rename_i ti ht
   split
   ·rename_i fW
    exact Nt x y m n t u ti ht fW hx hy
   ·rename_i fW
    exact Mm x y m n t u ti ht fW hx hy
   ·trivial
  ·trivial
 ·trivial
end
def T.pv:T→PV
 | .leaf d=>.d d
 | .ref j=>.acc j
 | .own _ _=>.any
def Nj:List T→List PV
 | []=>[]
 | t::ts=>t.pv::Nj ts
def jR(xs:List (List T))(i:Nat):List T:=xs.getD i []
def gK:List T→Bool
 | []=>true
 | .own _ _::_=>false
 | _::ts=>gK ts
def lQ:List (List T)→Bool
 | []=>true
 | x::xs=>gK x&&lQ xs
def OZ:PV→Option T
 | .d x=>some (.leaf x)
 | .aV=>some (.leaf (.b7 []))
 | .acc j=>some (.ref j)
 | _=>none
def tZ:List PV→Option (List T)
 | []=>some []
 | p::ps=>match OZ p,tZ ps with|some x,some xs=>some (x::xs)|_,_=>none
def Dy:List T→Nat
 | []=>0
 | _::as=>Dy as+1
theorem vU:∀(l:List T),Dy l=l.length
 | []=>rfl
 | _::as=>by simp[Dy,vU as]
theorem I4{xs:List (List T)}{i:Nat}(h:i<xs.length):xs[i]?=some (jR xs i):=by simp[jR,bK,ab h]
section
variable{P:Program}{w:World}{ok:Nat→Prop}{ν:Nat→Nm}{st:Nat→Option En}
theorem fP.pv{t:T}{v:Value}{F:List Nat}(h:fP P w ok ν st t v F):aj w ok ν st t.pv v:=by
 cases t with
 | leaf d=>simp only[fP] at h;simp only[T.pv,aj];exact h.1
 | ref j=>simp only[fP] at h;simp only[T.pv,aj];exact⟨h.1,h.2.1⟩
 | own e xs=>simp only[T.pv,aj]
theorem aE.pv:∀{ts:List T}{vs:List Value}{F:List Nat},aE P w ok ν st ts vs F→ai w ok ν st (Nj ts) vs
 | [],[],_,_=>by simp[Nj,ai]
 | [],_::_,_,h=>by simp[aE] at h
 | _::_,[],_,h=>by simp[aE] at h
 | t::ts,v::vs,F,h=>by
   simp only[aE] at h
   obtain⟨F1,F2,h1,h2,_⟩:=h
   simp only[Nj,ai]
   exact⟨h1.pv,h2.pv⟩
theorem fP.one{t:T}{v:Value}{F:List Nat}(h:fP P w ok ν st t v F)(hν:∀k,(st k).isSome=true→(ν k).v.oneCell'=true):v.oneCell'=true:=by
 cases t with
 | leaf d=>simp only[fP] at h;exact h.1.one
 | ref j=>simp only[fP] at h;rw[h.2.1];exact hν j h.1
 | own e xs=>
   simp only[fP] at h
   obtain⟨us,F1,h1,_⟩:=h
   rcases h1.2 with⟨h2,_⟩|⟨b,c,cur,h2,_⟩<;>rw[h2]<;>rfl
theorem aE.one(hν:∀k,(st k).isSome=true→(ν k).v.oneCell'=true):∀{ts:List T}{vs:List Value}{F:List Nat},aE P w ok ν st ts vs F→∀v∈vs,v.oneCell'=true
 | [],[],_,_,v,hv=>by cases hv
 | [],_::_,_,h,_,_=>by simp[aE] at h
 | _::_,[],_,h,_,_=>by simp[aE] at h
 | t::ts,v::vs,F,h,u,hu=>by
   simp only[aE] at h
   obtain⟨F1,F2,h1,h2,_⟩:=h
   rcases aw.1 hu with rfl|hu
   ·exact h1.one hν
   ·exact aE.one hν h2 u hu
theorem aU.one(hν:∀k,(st k).isSome=true→(ν k).v.oneCell'=true):∀{xs:List (List T)}{us:List (List Value)}{F:List Nat},aU P w ok ν st xs us F→∀u∈us,∀v∈u,v.oneCell'=true
 | [],[],_,_,v,hv=>by cases hv
 | [],_::_,_,h,_,_=>by simp[aU] at h
 | _::_,[],_,h,_,_=>by simp[aU] at h
 | t::ts,v::vs,F,h,u,hu=>by
   simp only[aU] at h
   obtain⟨F1,F2,h1,h2,_⟩:=h
   rcases aw.1 hu with rfl|hu
   ·exact h1.one hν
   ·exact aU.one hν h2 u hu
theorem aE.len:∀{ts:List T}{vs:List Value}{F:List Nat},aE P w ok ν st ts vs F→vs.length=ts.length
 | [],[],_,_=>rfl
 | [],_::_,_,h=>by simp[aE] at h
 | _::_,[],_,h=>by simp[aE] at h
 | t::ts,v::vs,F,h=>by
   simp only[aE] at h
   obtain⟨F1,F2,_,h2,_⟩:=h
   simp[h2.len]
theorem aU.len:∀{ts:List (List T)}{vs:List (List Value)}{F:List Nat},aU P w ok ν st ts vs F→vs.length=ts.length
 | [],[],_,_=>rfl
 | [],_::_,_,h=>by simp[aU] at h
 | _::_,[],_,h=>by simp[aU] at h
 | t::ts,v::vs,F,h=>by
   simp only[aU] at h
   obtain⟨F1,F2,_,h2,_⟩:=h
   simp[h2.len]
theorem aE.append:∀{x y:List T}{u v:List Value}{F G:List Nat},aE P w ok ν st x u F→aE P w ok ν st y v G→aE P w ok ν st (x++y) (u++v) (F++G)
 | [],y,[],v,F,G,h,h'=>by simp only[aE] at h;subst h;simpa using h'
 | [],_,_::_,_,_,_,h,_=>by simp[aE] at h
 | _::_,_,[],_,_,_,h,_=>by simp[aE] at h
 | t::ts,y,a::u,v,F,G,h,h'=>by
   simp only[aE] at h
   obtain⟨F1,F2,h1,h2,rfl⟩:=h
   simp only[bO,aE]
   exact⟨F1,F2++G,h1,h2.append h',by rw[bf]⟩
theorem aU.append:∀{x y:List (List T)}{u v:List (List Value)}{F G:List Nat},aU P w ok ν st x u F→aU P w ok ν st y v G→aU P w ok ν st (x++y) (u++v) (F++G)
 | [],y,[],v,F,G,h,h'=>by simp only[aU] at h;subst h;simpa using h'
 | [],_,_::_,_,_,_,h,_=>by simp[aU] at h
 | _::_,_,[],_,_,_,h,_=>by simp[aU] at h
 | t::ts,y,a::u,v,F,G,h,h'=>by
   simp only[aU] at h
   obtain⟨F1,F2,h1,h2,rfl⟩:=h
   simp only[bO,aU]
   exact⟨F1,F2++G,h1,h2.append h',by rw[bf]⟩
theorem aE.split:∀(n:Nat){x:List T}{u:List Value}{F:List Nat},aE P w ok ν st x u F→∃F1 F2,aE P w ok ν st (x.take n) (u.take n) F1∧aE P w ok ν st (x.drop n) (u.drop n) F2∧F=F1++F2
 | 0,x,u,F,h=>⟨[],F,by simp[aE],by simpa using h,rfl⟩
 | n+1,[],[],F,h=>⟨[],F,by simp[aE],by simpa using h,rfl⟩
 | _+1,[],_::_,_,h=>by simp[aE] at h
 | _+1,_::_,[],_,h=>by simp[aE] at h
 | n+1,t::ts,a::u,F,h=>by
   simp only[aE] at h
   obtain⟨F1,F2,h1,h2,rfl⟩:=h
   obtain⟨G1,G2,k1,k2,rfl⟩:=aE.split n h2
   refine⟨F1++G1,G2,?_,by simpa using k2,by rw[bf]⟩
   simp only[cw,aE]
   exact⟨F1,G1,h1,k1,rfl⟩
theorem vZ:∀{x:List T}{u:List Value}{F:List Nat},aE P w ok ν st x u F→gK x=true→F=[]
 | [],[],F,h,_=>by simpa only[aE] using h
 | [],_::_,_,h,_=>by simp[aE] at h
 | _::_,[],_,h,_=>by simp[aE] at h
 | t::ts,a::u,F,h,hn=>by
   simp only[aE] at h
   obtain⟨F1,F2,h1,h2,rfl⟩:=h
   cases t with
   | leaf d=>simp only[fP] at h1;simp only[gK] at hn;rw[h1.2,vZ h2 hn];rfl
   | ref j=>simp only[fP] at h1;simp only[gK] at hn;rw[h1.2.2,vZ h2 hn];rfl
   | own e xs=>simp[gK] at hn
theorem CV:∀{x:List (List T)}{u:List (List Value)}{F:List Nat},aU P w ok ν st x u F→lQ x=true→F=[]
 | [],[],F,h,_=>by simpa only[aU] using h
 | [],_::_,_,h,_=>by simp[aU] at h
 | _::_,[],_,h,_=>by simp[aU] at h
 | t::ts,a::u,F,h,hn=>by
   simp only[aU] at h
   obtain⟨F1,F2,h1,h2,rfl⟩:=h
   simp only[lQ,ae] at hn
   rw[vZ h1 hn.1,CV h2 hn.2]
   rfl
theorem aU.get:∀(i:Nat){xs:List (List T)}{us:List (List Value)}{F:List Nat},aU P w ok ν st xs us F→i<xs.length →
 ∃u G,us[i]?=some u∧aE P w ok ν st (jR xs i) u G∧∀(x':List T)(u':List Value),aE P w ok ν st x' u' G→aU P w ok ν st (xs.set i x') (us.set i u') F
 | _,[],_,_,_,hi=>by simp at hi
 | _,_::_,[],_,h,_=>by simp[aU] at h
 | 0,x::xs,u::us,F,h,_=>by
   simp only[aU] at h
   obtain⟨F1,F2,h1,h2,rfl⟩:=h
   refine⟨u,F1,rfl,h1,fun x' u' h'=>?_⟩
   simp only[jd,aU]
   exact⟨F1,F2,h',h2,rfl⟩
 | i+1,x::xs,u::us,F,h,hi=>by
   simp only[aU] at h
   obtain⟨F1,F2,h1,h2,rfl⟩:=h
   obtain⟨u1,G,k1,k2,k3⟩:=aU.get i h2 (by simpa using hi)
   refine⟨u1,G,by simpa using k1,by simpa[jR] using k2,fun x' u' h'=>?_⟩
   simp only[je,aU]
   exact⟨F1,F2,h1,k3 x' u' h',rfl⟩
theorem Cw:∀{ps:List PV}{ts:List T},tZ ps=some ts→ts.length=ps.length
 | [],ts,h=>by simp[tZ] at h;simp[←h]
 | p::ps,ts,h=>by
   simp only[tZ] at h
   split at h
   ·rename_i x xs h1 h2
    obtain rfl:=Option.some.inj h
    simp[Cw h2]
   ·cases h
theorem Bp:∀{ps:List PV}{ts:List T}{vs:List Value},ai w ok ν st ps vs→tZ ps=some ts→aE P w ok ν st ts vs []
 | [],ts,[],_,h=>by simp only[tZ,Option.some.injEq] at h;subst h;simp only[aE]
 | [],_,_::_,h,_=>by simp[ai] at h
 | _::_,_,[],h,_=>by simp[ai] at h
 | p::ps,ts,v::vs,h,ht=>by
   simp only[tZ] at ht
   simp only[ai] at h
   split at ht
   ·rename_i x xs h1 h2
    obtain rfl:=Option.some.inj ht
    simp only[aE]
    refine⟨[],[],?_,Bp h.2 h2,rfl⟩
    have hp:=h.1
    cases p<;>simp only[OZ] at h1<;>first|(cases h1;done)|skip
    ·obtain rfl:=Option.some.inj h1
     simp only[aj] at hp
     subst hp
     simp only[fP,and_true]
     exact .nil
    ·obtain rfl:=Option.some.inj h1
     simp only[aj] at hp
     simp only[fP,and_true]
     exact hp
    ·obtain rfl:=Option.some.inj h1
     simp only[aj] at hp
     simp only[fP,and_true]
     exact hp
   ·cases ht
theorem AB:∀{xs:List (List D)}{us:List (List Value)}{sz:Nat},bg w ok sz xs us→aU P w ok ν st (lift xs) us []
 | [],us,sz,h=>by
   have:us=[]:=ba h.len
   subst this
   simp only[lift,cK,aU]
 | x::xs,[],sz,h=>by have:=h.len;simp at this
 | x::xs,u::us,sz,h=>by
   have h1:∀(x:List D)(u:List Value),x.length=u.length→(∀(j:Nat)(d:D)(v:Value),x[j]?=some d→u[j]?=some v→dC w ok d v)→aE P w ok ν st (x.map T.leaf) u []:=by
    intro x
    induction x with
    | nil=>intro u hl _;cases u with
      | nil=>simp[aE]
      | cons a b=>simp at hl
    | cons d x ih=>intro u hl hr;cases u with
      | nil=>simp at hl
      | cons v u=>
        simp only[aR,aE,fP]
        exact⟨[],[],⟨hr 0 d v rfl rfl,rfl⟩,ih u (by simpa using hl) fun j d' v' k1 k2=>hr (j+1) d' v' (by simpa using k1) (by simpa using k2),rfl⟩
   have h2:bg w ok sz xs us:=⟨by simpa using h.len,fun i y hy=>h.hx (i+1) y (by simpa using hy),fun i y hy=>h.hu (i+1) y (by simpa using hy),fun i j y u d v k1 k2 k3 k4=>h.hr (i+1) j y u d v (by simpa using k1) (by simpa using k2) k3 k4⟩
   have:=AB h2
   simp only[lift,aR,aU] at this⊢
   exact⟨[],[],h1 x u (by rw[h.hx 0 x rfl,h.hu 0 u rfl]) fun j d v k1 k2=>h.hr 0 j x u d v rfl rfl k1 k2,this,rfl⟩
theorem pE{sz:Nat}{us:List (List Value)}(hu:∀(i:Nat)(u:List Value),us[i]?=some u→u.length=sz)(h1:∀u∈us,∀v∈u,v.oneCell'=true):bg w ok sz (us.map fun u=>u.map D.val) us:=by
 refine⟨by simp,fun i x hx=>?_,hu,fun i j x u d v k1 k2 k3 k4=>?_⟩
 ·rw[dQ] at hx
  cases hq:us[i]? with
  | none=>rw[hq] at hx;cases hx
  | some u=>rw[hq] at hx;obtain rfl:=Option.some.inj hx;simp[hu i u hq]
 ·rw[dQ,k2] at k1
  obtain rfl:=Option.some.inj k1
  rw[dQ,k4] at k3
  obtain rfl:=Option.some.inj k3
  exact .val v (h1 u (dE k2) v (dE k4))
end
section
variable{P:Program}{X:Cx}{ν:Nat→Nm}{g:G}{a:Act}{w:World}
theorem oc(h:Sat P X ν g a w){k e:Nat}{xs:List (List T)}(hk:g.at k=some (.cY e xs)):∃us:List (List Value),w.ownsRow 0 e (P.cellsOf e) (ν k).v xs.length us.flatten ∧
 (∀(i:Nat)(u:List Value),us[i]?=some u→u.length=P.cellsOf e)∧aU P w (bm X ν g.at) ν g.at xs us (ν k).f∧xs.length≤LB∧(hb (ν k).v++(ν k).f).Nodup:=by
 obtain⟨h1,h2⟩:=h.en k _ hk
 simp only[fP] at h1
 obtain⟨us,F1,k1,k2,k3,k4,k5⟩:=h1
 have:F1=(ν k).f:=(List.append_cancel_left k5).symm
 exact⟨us,k1,k2,this▸k3,k4,h2⟩
theorem qI{ok:Nat→Prop}{st:Nat→Option En}{k e:Nat}{xs:List (List T)}{us:List (List Value)}(h1:w.ownsRow 0 e (P.cellsOf e) (ν k).v xs.length us.flatten)
 (h2:∀(i:Nat)(u:List Value),us[i]?=some u→u.length=P.cellsOf e) (h3:aU P w ok ν st xs us (ν k).f) (h4:xs.length≤LB) (h5:(hb (ν k).v++(ν k).f).Nodup):gk P w ok ν st k (.cY e xs):=by
 refine⟨?_,h5⟩
 simp only[fP]
 exact⟨us,(ν k).f,h1,h2,h3,h4,rfl⟩
theorem GP(h:Sat P X ν g a w){k e:Nat}{xs:List (List T)}(hk:g.at k=some (.cY e xs)):∃b c,(ν k).v= .slice b xs.length c:=by
 obtain⟨us,ho,_⟩:=oc h hk
 rcases ho.2 with⟨h1,h2⟩|⟨b,cap,cur,h1,_⟩
 ·exact⟨none,0,by rw[h1,h2]⟩
 ·exact⟨_,cap,h1⟩
theorem jW:∀(l:List (Option En))(k:Nat)(x y:Option En),bG (bG l k x) k y=bG l k y
 | [],0,_,_=>rfl
 | [],n+1,x,y=>by simp[bG,jW [] n x y]
 | _::_,0,_,_=>rfl
 | a::as,n+1,x,y=>by simp[bG,jW as n x y]
theorem Sat.lift(h:Sat P X ν g a w){k e:Nat}{xs:List (List D)}(hk:g.at k=some (.acc e xs)):Sat P X ν ⟨g.sl,bG g.st k (some (.cY e (lift xs)))⟩ a w:=by
 have:=h.xd (w':=w) k (.acc e xs) (.cY e (Eng.lift xs)) hk rfl (nv.refl _ w) none .undef Go.undef ?_ (fun h=>by cases h)
 ·exact this
 ·intro hw hm
  obtain⟨us,ho,fC,hB,hf0⟩:=h.en k _ hk
  have hl:(Eng.lift xs).length=xs.length:=by simp[Eng.lift]
  refine qI (us:=us) (by rw[hl];exact ho) (fun i u hu=>fC.hu i u hu) ?_ (by rw[hl];exact hB) ?_
  ·rw[hf0]
   exact AB (fC.frame hw (ar _))
  ·rw[hf0,bC]
   unfold hb
   split<;>simp
end
section
variable{E:Env}{g:G}{d:Nat}{ty:TypeId}{pos:String}{cP:Array Edge}{gd:Option (Nat×Bool)}{dn:Option Nat}
theorem BZ(x:Operand)(t k i off sz e:Nat)(ti ei:TI)(xs:List (List T))(ht:E.ti t=some ti)(he:E.ti e=some ei)(hsz:sz=ei.n)(hx:g.ev x= .dv k i off sz)(hk:g.at k=some (.cY e xs))
 (hi:i<xs.length) (hl:off+ti.n≤(jR xs i).length) :
 gL E.P ⟨some d,.load t x,ty,pos,cP,gd⟩ g ⟨bZ x,[k]⟩ ⟨some (d,Fq ti.isAgg (((Nj (jR xs i)).drop off).take ti.n)),[]⟩:=by
 intro g2 hg
 have h1:=hg.ev (x:=x) (fun t h=>h)
 have h3:=(hg.p k (by simp)).trans hk
 refine yP.val rfl fun X ν a w hs=>?_
 have hv:=hs.ev x
 rw[h1,hx] at hv
 simp only[aj] at hv
 obtain⟨_,b,n,c,hb,hv⟩:=hv
 obtain⟨us,ho,hul,hr,_⟩:=oc hs h3
 have hcell:=ky ho hb
 rw[(E.ok e ei he).cells] at hul
 obtain⟨u,G,hu,hc,_⟩:=hr.get i hi
 have iO:=hc.pv
 have hlenu:=hc.len
 have hrep':=(iO.drop off).take ti.n
 have cZ:((u.drop off).take ti.n).length=ti.n:=by simp;omega
 have hca:fy w b (i*ei.n+off) ((u.drop off).take ti.n):=by
  have h0:=hcell.sub (us':=(u.drop off).take ti.n) (i*ei.n+off) (fun j x hx=>by
   rw[cJ] at hx
   split at hx
   ·rw[c9] at hx
    have:=rF us i (off+j) u x hul hu hx
    rw[Nat.add_assoc];exact this
   ·cases hx)
  simpa using h0
 subst hsz
 obtain⟨v,ke,hvv⟩:=kJ (E.ok t ti ht) w b _ _ cZ hca
 refine⟨v,?_,pH hrep' hvv⟩
 simp only[execOp,hv,Instr.loadAt,Instr.sureAddr,Sem.run_bind,Sem.run_pure,Result.andThen_ok,ke]
theorem Dr(x y:Operand)(s:Nat)(si ei:TI)(e k:Nat)(xs:List (List T))(n:Int)(hs:E.ti s=some si)(jU:si.ty= .slice e)(he:E.ti e=some ei)(hx:g.ev x= .acc k)(hk:g.at k=some (.cY e xs))(hy:g.ev y= .d (.val (.int .i64 n)))
 (h0:0≤n) (kf:n.toNat<xs.length) :
 gL E.P ⟨some d,.indexAddr s x y,ty,pos,cP,gd⟩ g ⟨bZ x++bZ y,[k]⟩ ⟨some (d,.dv k n.toNat 0 ei.n),[]⟩:=by
 intro g2 hg
 have h1:=hg.ev (x:=x) (fun t h=>by simp[h])
 have h2:=hg.ev (x:=y) (fun t h=>by simp[h])
 have h3:=(hg.p k (by simp)).trans hk
 refine yP.val rfl fun X ν a w hs'=>?_
 have hu:=(E.ok s si hs).ty
 rw[jU] at hu
 have hv:=hs'.ev x
 rw[h1,hx] at hv
 have jT:=hs'.ev y
 rw[h2,hy] at jT
 have jT:=fK jT
 simp only[aj] at hv⊢
 obtain⟨us,ho,_⟩:=oc hs' h3
 rcases ho.2 with⟨_,hn⟩|⟨b,cap,cur,hb,_⟩
 ·omega
 ·have hlt':n<(xs.length:Int):=by omega
  refine⟨.pointer (some ⟨b,n.toNat*ei.n,none⟩),?_,by rw[h3];rfl,b,xs.length,cap,hb,rfl⟩
  simp[execOp,hv.2,hb,jT,Instr.indexAt,asIntOf,run_underlying hu,h0,hlt',(E.ok e ei he).size,add_lit]
theorem D9(x:Operand)(s:Nat)(si:TI)(e' e k:Nat)(xs:List (List T))(hs:E.ti s=some si)(jU:si.ty= .slice e')(hx:g.ev x= .acc k)(hk:g.at k=some (.cY e xs)) :
 gL E.P ⟨some d,.call ⟨.builtin .len,#[x],#[s]⟩,ty,pos,cP,gd⟩ g ⟨bZ x,[k]⟩ ⟨some (d,.d (.val (.int .i64 (xs.length:Int)))),[]⟩:=by
 intro g2 hg
 have h1:=hg.ev (x:=x) (fun t h=>h)
 have h3:=(hg.p k (by simp)).trans hk
 refine yP.val rfl fun X ν a w hs'=>?_
 have hu:=(E.ok s si hs).ty
 rw[jU] at hu
 have hv:=hs'.ev x
 rw[h1,hx] at hv
 simp only[aj] at hv
 obtain⟨b,c,hb⟩:=GP hs' h3
 exact⟨_,oH rfl a w _ (by rw[hv.2,hb];exact run_len_slice hu _ _ _ _ _),ig rfl⟩
theorem rH(x y:Operand)(t k i off sz e:Nat)(ti ei:TI)(xs:List (List T))(p:PV)(cs:List T)(ht:E.ti t=some ti)(he:E.ti e=some ei)(hsz:sz=ei.n)(hx:g.ev x= .dv k i off sz)(hk:g.at k=some (.cY e xs))(hy:g.ev y=p)
 (hi:i<xs.length) (hl:off+ti.n≤ei.n) (hp:p.whole=true) (hn:(ct p).length=ti.n) (hcs:tZ (ct p)=some cs) (hno:gK (((jR xs i).drop off).take ti.n)=true) :
 gL E.P ⟨dn,.store t x y,ty,pos,cP,gd⟩ g ⟨bZ x++bZ y++dn.toList,[k]⟩ ⟨dn.map fun d=>(d,.undef),[(k,.cY e (xs.set i (pB (jR xs i) off cs)))]⟩:=by
 intro g2 hg
 have e1:=hg.ev (x:=x) (fun t h=>by simp[h])
 have e2:=hg.ev (x:=y) (fun t h=>by simp[h])
 have h3:=(hg.p k (by simp)).trans hk
 intro X ν a w next Q hs hnx
 have hv:=hs.ev x
 rw[e1,hx] at hv
 have hw:=hs.ev y
 rw[e2,hy] at hw
 simp only[aj] at hv
 obtain⟨_,b,n,c,hb,hv⟩:=hv
 obtain⟨us,ho,hul,fC,hB,hnd⟩:=oc hs h3
 have kg:=hw.cells hp hs.nu
 have cZ:=kg.length
 have htc:=Bp (P:=E.P) kg hcs
 rw[(E.ok e ei he).cells] at hul ho
 subst hsz
 rcases ho.2 with⟨h1,h2⟩|⟨b',cap,cur,h1,_,h2,h4,h5,h6,h7⟩
 ·omega
 ·rw[h1] at hb
  obtain⟨rfl,rfl,rfl⟩:b'=b∧xs.length=n∧cap=c:=by simpa using hb
  have hull:us.length=xs.length:=fC.len
  have hfl:=(pE (w:=w) (ok:=fun _=>True) hul (fC.one hs.nu)).ij
  rw[bl] at hfl
  have hmulle:(i+1)*ei.n≤xs.length*ei.n:=aY _ hi
  have hmulle2:xs.length*ei.n≤cap*ei.n:=aY _ h4
  have hadd:(i+1)*ei.n=i*ei.n+ei.n:=by rw[br];omega
  have hone:∀u∈(a.eval y).cells.toList,u.oneCell'=true:=htc.one hs.nu
  have hvl:(a.eval y).cells.toList.length=ti.n:=by rw[cZ,hn]
  have ke:=nX (E.ok t ti ht) w b' (i*ei.n+off) e cur (a.eval y) h2 hvl (by omega) hone
  have hr:(execOp a.eval ⟨dn,.store t x y,ty,pos,cP,gd⟩).run E.P w= .ok .skip (w.setRow b' (cur.toList.take (i*ei.n+off)++(a.eval y).cells.toList++cur.toList.drop (i*ei.n+off+(a.eval y).cells.toList.length)).toArray):=by
   simp only[execOp,hv,Instr.storeAt,Instr.sureAddr,Sem.run_bind,Sem.run_pure,Result.andThen_ok,ke]
  have hcur:cur.toList=us.flatten++cur.toList.drop (xs.length*ei.n):=by rw[←h7];exact(hP _ _).symm
  have hnew:cur.toList.take (i*ei.n+off)++(a.eval y).cells.toList++cur.toList.drop (i*ei.n+off+(a.eval y).cells.toList.length)=(us.set i (pB (us.getD i []) off (a.eval y).cells.toList)).flatten++cur.toList.drop (xs.length*ei.n):=by
   have:=yf us i off (a.eval y).cells.toList (cur.toList.drop (xs.length*ei.n)) hul (by omega) (by omega)
   rw[←hcur] at this
   rw[←this,bf]
   rfl
  obtain⟨u,G,hu,hc,hset⟩:=fC.get i hi
  have hug:us.getD i []=u:=by simp[bK,hu]
  have huil:=hul i u hu
  have hxil:(jR xs i).length=ei.n:=by rw[←hc.len];exact huil
  have hcsl:cs.length=ti.n:=by rw[Cw hcs,hn]
  obtain⟨G1,G2,c1,c2,rfl⟩:=hc.split off
  obtain⟨G3,G4,c3,c4,rfl⟩:=c2.split ti.n
  have hG3:G3=[]:=vZ c3 hno
  subst hG3
  have kM:=hset (pB (jR xs i) off cs) (pB u off (a.eval y).cells.toList) (by
   unfold pB
   refine c1.append ?_
   refine htc.append ?_
   rw[mi,mi] at c4
   rw[hcsl,hvl]
   exact c4)
  rw[←hug] at kM
  have hul':∀(j:Nat)(z:List Value),(us.set i (pB (us.getD i []) off (a.eval y).cells.toList))[j]?=some z→z.length=ei.n:=by
   intro j z hz
   rw[fO] at hz
   by_cases hij:i=j
   ·subst hij
    rw[if_pos rfl,if_pos (by omega)] at hz
    obtain rfl:=Option.some.inj hz
    rw[hug,AG _ _ _ (by rw[huil,hvl];exact hl),huil]
   ·rw[if_neg hij] at hz
    exact hul j z hz
  have hf2:=(pE (w:=w) (ok:=fun _=>True) hul' (kM.one hs.nu)).ij
  rw[bl,dw] at hf2
  have hbF:∀b∈(ν k).f,b≠b':=by
   intro b hbf hbe
   rw[h1] at hnd
   exact(ia.1 hnd).2.2 b' (s8.2 rfl) b hbf hbe.symm
  unfold Oper.wp
  rw[hr,Oper.upon_skip,hnew]
  refine hnx _ _ _ (hs.xd k (.cY e xs) (.cY e (xs.set i (pB (jR xs i) off cs))) h3 rfl (j7 w b' _ _ (.inl (by rw[h1];rfl))) dn .undef Go.undef ?_ ?_)
  ·intro hwf hm
   refine qI (us:=us.set i (pB (us.getD i []) off (a.eval y).cells.toList)) ?_ ?_ ?_ (by simpa using hB) hnd
   ·rw[(E.ok e ei he).cells,h1]
    rw[hull] at hfl hf2
    refine⟨by rw[hf2,dw],.inr ⟨b',cap,_,by simp,cN _,setRow_heap w b' _ _ e _ h2,by simpa using h4,h5,?_,?_⟩⟩
    ·simp only[fL,ao,hf2,ey,cO,h6]
     omega
    ·rw[dw,cG (by rw[hf2];exact ar _),an (by rw[hf2];exact ar _)]
   ·rw[(E.ok e ei he).cells];exact hul'
   ·refine kM.frame hwf (by simp[World.setRow]) hm _ _ _ fun b hb=>?_
    have mq:=hbF b hb
    exact(j7 w b' _ (fun c=>c=b') rfl).block b (fC.lt _ _ _ b hb) mq
  ·intro _
   simp only[aj]
theorem rh:∀(x:List D),gK (x.map T.leaf)=true
 | []=>rfl
 | d::x=>by simp[gK,rh x]
theorem Gs:∀{x:List T}(n m:Nat),gK x=true→gK ((x.drop n).take m)=true:=by
 have h1:∀(x:List T)(n:Nat),gK x=true→gK (x.drop n)=true:=by
  intro x
  induction x with
  | nil=>intro n h;simpa using h
  | cons t x ih=>
    intro n h
    cases n with
    | zero=>exact h
    | succ n=>
      cases t with
      | own e xs=>simp[gK] at h
      | leaf d=>exact ih n (by simpa[gK] using h)
      | ref d=>exact ih n (by simpa[gK] using h)
 have h2:∀(x:List T)(n:Nat),gK x=true→gK (x.take n)=true:=by
  intro x
  induction x with
  | nil=>intro n h;simpa using h
  | cons t x ih=>
    intro n h
    cases n with
    | zero=>rfl
    | succ n=>
      cases t with
      | own e xs=>simp[gK] at h
      | leaf d=>simpa[gK] using ih n (by simpa[gK] using h)
      | ref d=>simpa[gK] using ih n (by simpa[gK] using h)
 intro x n m h
 exact h2 _ m (h1 _ n h)
theorem IA(xs:List (List D))(i:Nat):jR (lift xs) i=(row xs i).map T.leaf:=by
 unfold jR lift row
 simp only[List.getD_eq_getElem?_getD,dQ]
 cases xs[i]?<;>rfl
theorem vf:∀(xs:List (List D)),lQ (lift xs)=true
 | []=>rfl
 | x::xs=>by
   have:=vf xs
   simp only[lift,aR,lQ,ae] at this⊢
   exact⟨rh x,this⟩
theorem A9(x y:Operand)(t k i off sz e:Nat)(ti ei:TI)(xs:List (List D))(p:PV)(cs:List T)(ht:E.ti t=some ti)(he:E.ti e=some ei)(hsz:sz=ei.n)(hx:g.ev x= .dv k i off sz)(hk:g.at k=some (.acc e xs))(hy:g.ev y=p)
 (hi:i<xs.length) (hl:off+ti.n≤ei.n) (hp:p.whole=true) (hn:(ct p).length=ti.n) (hcs:tZ (ct p)=some cs) :
 gL E.P ⟨dn,.store t x y,ty,pos,cP,gd⟩ g ⟨bZ x++bZ y++dn.toList,[k]⟩ ⟨dn.map fun d=>(d,.undef),[(k,.cY e ((lift xs).set i (pB (jR (lift xs) i) off cs)))]⟩:=by
 intro g2 hg X ν a w next Q hs hnx
 have e1:=hg.ev (x:=x) (fun t h=>by simp[h])
 have e2:=hg.ev (x:=y) (fun t h=>by simp[h])
 have h3:=(hg.p k (by simp)).trans hk
 have hs2:=hs.lift h3
 have hev:∀z,(⟨g2.sl,bG g2.st k (some (.cY e (lift xs)))⟩:G).ev z=g2.ev z:=fun z=>by cases z<;>rfl
 refine rH (g:=⟨g2.sl,bG g2.st k (some (.cY e (lift xs)))⟩) x y t k i off sz e ti ei (lift xs) p cs ht he hsz (by rw[hev,e1];exact hx) ?_ (by rw[hev,e2];exact hy) (by rw[l6];exact hi) hl hp hn hcs ?_ _ ⟨fun _ _=>rfl,fun _ _=>rfl⟩ X ν a w next Q hs2 ?_
 ·rw[nV,if_pos rfl]
 ·rw[IA]
  exact Gs _ _ (rh _)
 ·intro ν' a' w' h
  refine hnx ν' a' w' ?_
  simpa only[G.app,pU,jW] using h
end
section
variable{E:Env}{g:G}{d:Nat}{ty:TypeId}{pos:String}{cP:Array Edge}{gd:Option (Nat×Bool)}{dn:Option Nat}
def AA(E:Env)(sz:Nat)(g:G)(p:PV)(ys:List (List T)):Prop:=
 (∃ys',pd E sz g p ys'∧ys=lift ys')∨(∃m e ei,p= .acc m∧g.at m=some (.cY e ys)∧E.ti e=some ei∧ei.n=sz∧lQ ys=true)
theorem AA.agree{R:Rd}{g g2:G}(h:rN R g g2){sz:Nat}{p:PV}{ys:List (List T)}(hp:∀k∈pX p,k∈R.p)(ha:AA E sz g p ys):AA E sz g2 p ys:=by
 rcases ha with⟨ys',h1,h2⟩|⟨m,e,ei,rfl,hk,he,hz⟩
 ·exact .inl ⟨ys',h1.agree h hp,h2⟩
 ·exact .inr ⟨m,e,ei,rfl,(h.p m (hp m (by simp[pX]))).trans hk,he,hz⟩
theorem yj{X:Cx}{ν:Nat→Nm}{g:G}{a:Act}{w:World}{sz:Nat}{p:PV}{ys:List (List T)}{v:Value}(h:Sat E.P X ν g a w)(ha:AA E sz g p ys)(hv:aj w (bm X ν g.at) ν g.at p v) :
 ∃vs:List (List Value),aU E.P w (bm X ν g.at) ν g.at ys vs []∧(∀(i:Nat)(u:List Value),vs[i]?=some u→u.length=sz)∧pG w v vs∧ys.length≤LB:=by
 rcases ha with⟨ys',h1,rfl⟩|⟨m,e,ei,rfl,hk,he,hz,hn⟩
 ·obtain⟨vs,h2,h3,h4⟩:=nN (P0:=E.P) h h1 hv
  exact⟨vs,AB h2,h2.hu,h3,by rw[l6];exact h4⟩
 ·simp only[aj] at hv
  obtain⟨us,ho,hul,fC,hB,hnd⟩:=oc h hk
  have hf:=CV fC hn
  rw[hf] at fC
  refine⟨us,fC,fun i u hu=>by rw[←hz,← (E.ok e ei he).cells];exact hul i u hu,?_,hB⟩
  rw[hv.2]
  have hl:=fC.len
  rcases ho.2 with⟨h1,h2⟩|⟨b,cap,cur,h1,_⟩
  ·left
   refine⟨⟨none,0,h1⟩,ba (by rw[hl];exact h2)⟩
  ·right
   exact⟨b,0,cap,by rw[h1,hl],ky ho h1⟩
theorem yr{v:Value}{F:List Nat}(hF:F.Nodup)(h:∀b,oE v=some b→b∉F):(hb v++F).Nodup:=by
 unfold hb
 cases hv:oE v with
 | none=>simpa using hF
 | some b=>simpa using ⟨h b hv,hF⟩
theorem row_one{w:World}{e sz n:Nat}{v:Value}{us:List Value}(h:w.ownsRow 0 e sz v n us):v.oneCell'=true:=by
 rcases h.2 with⟨h,_⟩|⟨b,c,cur,h,_⟩<;>rw[h]<;>rfl
theorem xi(s x:Operand)(t e k':Nat)(ti ei:TI)(p:PV)(ys:List (List T))(ht:E.ti t=some ti)(fW:ti.ty= .slice e)(he:E.ti e=some ei)(hs:g.ev s= .aV)(hx:g.ev x=p)(ha:AA E ei.n g p ys)(hk':g.at k'=none)
 (hlb:ys.length≤LB) (hby:ys.length*ei.bytes≤140737488355328) :
 gL E.P ⟨some d,.call ⟨.builtin .append,#[s,x],#[t,t]⟩,ty,pos,cP,gd⟩ g ⟨bZ s++bZ x,k'::pX p⟩ ⟨some (d,.acc k'),[(k',.cY e ys)]⟩:=by
 intro g2 hg
 have e1:=hg.ev (x:=s) (fun t h=>by simp[h])
 have e2:=hg.ev (x:=x) (fun t h=>by simp[h])
 have h3:=(hg.p k' (by simp)).trans hk'
 have ha2:=ha.agree hg (fun k h=>by simp[h])
 intro X ν a w next Q dX hn
 have hv:=dX.ev s
 rw[e1,hs] at hv
 have jT:=dX.ev x
 rw[e2,hx] at jT
 simp only[aj] at hv
 obtain⟨vs,htr,hul,hsl,_⟩:=yj dX ha2 jT
 have hraw:=pE (w:=w) (ok:=fun _=>True) hul (htr.one dX.nu)
 have hl:=htr.len
 obtain⟨v',w',k1,k2,k3,k4⟩:=jA ht fW he w ty (.slice none 0 0) (a.eval x) 0 [] _ vs _ (World.ownsRow_nil w 0 e ei.n) hraw hsl (by simpa[hl] using hlb) (by simpa[hl] using hby)
 have hr:=mN (E:=E) (o:=⟨some d,.call ⟨.builtin .append,#[s,x],#[t,t]⟩,ty,pos,cP,gd⟩) rfl a w w' v' (by rw[hv];exact k1)
 unfold Oper.wp
 rw[hr,Oper.upon_value]
 simp only[bV,bB,bl,hl] at k2
 refine hn _ _ _ (dX.qW (k3.mono fun b hb _=>by simp[oE] at hb) k' h3 (.cY e ys) ⟨v',[]⟩ (row_one k2) (fun b hb=>(k4 b ((hX rfl).1 hb)).resolve_left (by simp[oE])) d _ _ ?_ ?_)
 ·intro ok st ν' hν hw hm
  refine qI (us:=vs) (by rw[hν,(E.ok e ei he).cells];exact k2) (by rw[(E.ok e ei he).cells];exact hul) ?_ hlb (by rw[hν];exact yr List.nodup_nil (by simp))
  rw[hν]
  exact htr.frame hw k3.size hm _ _ _ (by simp)
 ·intro ok st ν' hν dh hw hm
  simp only[aj]
  exact⟨by rw[dh];rfl,by rw[hν]⟩
theorem lU(s x:Operand)(t e k k':Nat)(ti ei:TI)(p:PV)(xs ys:List (List T))(ht:E.ti t=some ti)(fW:ti.ty= .slice e)(he:E.ti e=some ei)(hs:g.ev s= .acc k)(hk:g.at k=some (.cY e xs))(hx:g.ev x=p)(ha:AA E ei.n g p ys)(hk':g.at k'=none)
 (hlb:xs.length+ys.length≤LB) (hby:(xs.length+ys.length)*ei.bytes≤140737488355328) :
 gL E.P ⟨some d,.call ⟨.builtin .append,#[s,x],#[t,t]⟩,ty,pos,cP,gd⟩ g ⟨bZ s++bZ x,k::k'::pX p⟩ ⟨some (d,.acc k'),[(k,.dead),(k',.cY e (xs++ys))]⟩:=by
 intro g2 hg
 have e1:=hg.ev (x:=s) (fun t h=>by simp[h])
 have e2:=hg.ev (x:=x) (fun t h=>by simp[h])
 have h2:=(hg.p k (by simp)).trans hk
 have h3:=(hg.p k' (by simp)).trans hk'
 have ha2:=ha.agree hg (fun k h=>by simp[h])
 intro X ν a w next Q dX hn
 have hv:=dX.ev s
 rw[e1,hs] at hv
 have jT:=dX.ev x
 rw[e2,hx] at jT
 simp only[aj] at hv
 obtain⟨vs,htr,hul,hsl,_⟩:=yj dX ha2 jT
 have hraw:=pE (w:=w) (ok:=fun _=>True) hul (htr.one dX.nu)
 have hl:=htr.len
 obtain⟨us,dP,huu,hru,hB,hnd⟩:=oc dX h2
 rw[(E.ok e ei he).cells] at dP huu
 obtain⟨v',w',k1,k2,k3,k4⟩:=jA ht fW he w ty (ν k).v (a.eval x) xs.length us.flatten _ vs _ dP hraw hsl (by simpa[hl] using hlb) (by simpa[hl] using hby)
 have hr:=mN (E:=E) (o:=⟨some d,.call ⟨.builtin .append,#[s,x],#[t,t]⟩,ty,pos,cP,gd⟩) rfl a w w' v' (by rw[hv.2];exact k1)
 unfold Oper.wp
 rw[hr,Oper.upon_value]
 simp only[bl,hl] at k2
 have hnd2:=ia.1 hnd
 have hnb:∀b∈(ν k).f,oE (ν k).v≠some b:=fun b hb hc=>hnd2.2.2 b (s8.2 hc) b hb rfl
 have kf:∀b∈(ν k).f,b<w.heap.size:=fun b hb=>hru.lt _ _ _ b hb
 refine hn _ _ _ (dX.move (some k) (fun j hj=>⟨_,by obtain rfl:=Option.some.inj hj;exact h2,rfl⟩) (k3.mono fun b hb _=>⟨k,rfl,.inl hb⟩) k' h3 (.cY e (xs++ys)) ⟨v',(ν k).f⟩ (row_one k2)
  (fun b hb=>hb.elim (fun h=>(k4 b h).imp (fun h=>⟨k,rfl,.inl h⟩) id) fun h=>.inl ⟨k,rfl,.inr h⟩) d _ _ ?_ ?_)
 ·intro ok st ν' hν hw hm
  refine qI (us:=us++vs) ?_ ?_ ?_ (by simpa using hlb) ?_
  ·rw[hν,(E.ok e ei he).cells,ao,List.flatten_append];exact k2
  ·rw[(E.ok e ei he).cells]
   intro i u hu
   rcases cI i us.length with hi|hi
   ·rw[aZ hi] at hu;exact huu i u hu
   ·rw[aX hi] at hu;exact hul _ u hu
  ·rw[hν]
   have h1:=hru.frame hw k3.size hm _ _ _ fun b hb=>k3.block b (kf b hb) (hnb b hb)
   have h2:=htr.frame hw k3.size hm _ _ _ (by simp)
   have:=h1.append h2
   rwa [bC] at this
  ·rw[hν]
   refine yr hnd2.2.1 fun b hb hm=>?_
   rcases k4 b hb with h|h
   ·exact hnb b hm h
   ·have:=kf b hm;omega
 ·intro ok st ν' hν dh hw hm
  simp only[aj]
  exact⟨by rw[dh];rfl,by rw[hν]⟩
theorem wM(s x:Operand)(t e k k':Nat)(ti ei:TI)(p:PV)(xs:List (List D))(ys:List (List T))(ht:E.ti t=some ti)(fW:ti.ty= .slice e)(he:E.ti e=some ei)(hs:g.ev s= .acc k)(hk:g.at k=some (.acc e xs))(hx:g.ev x=p)(ha:AA E ei.n g p ys)(hk':g.at k'=none)
 (hlb:xs.length+ys.length≤LB) (hby:(xs.length+ys.length)*ei.bytes≤140737488355328) :
 gL E.P ⟨some d,.call ⟨.builtin .append,#[s,x],#[t,t]⟩,ty,pos,cP,gd⟩ g ⟨bZ s++bZ x,k::k'::pX p⟩ ⟨some (d,.acc k'),[(k,.dead),(k',.cY e (lift xs++ys))]⟩:=by
 intro g2 hg X ν a w next Q hs' hnx
 have e1:=hg.ev (x:=s) (fun t h=>by simp[h])
 have e2:=hg.ev (x:=x) (fun t h=>by simp[h])
 have h3:=(hg.p k (by simp)).trans hk
 have h4:=(hg.p k' (by simp)).trans hk'
 have ha2:=ha.agree hg (fun k h=>by simp[h])
 have hs2:=hs'.lift h3
 have hev:∀z,(⟨g2.sl,bG g2.st k (some (.cY e (lift xs)))⟩:G).ev z=g2.ev z:=fun z=>by cases z<;>rfl
 have hkk:k'≠k:=fun h=>by rw[h,h3] at h4;cases h4
 have ha3:AA E ei.n ⟨g2.sl,bG g2.st k (some (.cY e (lift xs)))⟩ p ys:=by
  rcases ha2 with⟨ys',h1,rfl⟩|⟨m,e',ei',rfl,hm,he',hz,hn⟩
  ·by_cases hp:p= .acc k
   ·subst hp
    rcases h1 with⟨h,_⟩|⟨h,_⟩|⟨m,e',ei',h,hm,he',hz⟩|⟨_,_,h,_⟩
    ·cases h
    ·cases h
    ·obtain rfl:k=m:=by simpa using h
     rw[h3] at hm
     obtain⟨rfl,rfl⟩:e=e'∧xs=ys':=by simpa using hm
     exact .inr ⟨k,e,ei',rfl,by rw[nV,if_pos rfl],he',hz,vf _⟩
    ·cases h
   ·refine .inl ⟨ys',?_,rfl⟩
    rcases h1 with h|h|⟨m,e',ei',h,hm,he',hz⟩|h
    ·exact .inl h
    ·exact .inr (.inl h)
    ·exact .inr (.inr (.inl ⟨m,e',ei',h,by rw[nV,if_neg (fun hc=>hp (by rw[h,hc]))];exact hm,he',hz⟩))
    ·exact .inr (.inr (.inr h))
  ·refine .inr ⟨m,e',ei',rfl,?_,he',hz,hn⟩
   rw[nV,if_neg (fun hc=>by rw[hc,h3] at hm;cases hm)]
   exact hm
 refine lU (g:=⟨g2.sl,bG g2.st k (some (.cY e (lift xs)))⟩) s x t e k k' ti ei p (lift xs) ys ht fW he (by rw[hev,e1];exact hs) (by rw[nV,if_pos rfl]) (by rw[hev,e2];exact hx) ha3 (by rw[nV,if_neg hkk];exact h4)
  (by rw[l6];exact hlb) (by rw[l6];exact hby) _ ⟨fun _ _=>rfl,fun _ _=>rfl⟩ X ν a w next Q hs2 ?_
 intro ν' a' w' h
 refine hnx ν' a' w' ?_
 simpa only[G.app,pU,jW] using h
def zm:List PV→Option (List (List T))
 | []=>some []
 | p::ps=>match p.whole,tZ (ct p),zm ps with
   | true,some x,some xs=>some (x::xs)
   | _,_,_=>none
def pO(n:Nat):List (List T)→Bool
 | []=>true
 | x::xs=>xp (Dy x) n&&pO n xs
theorem Cr:∀{qs:List PV}{rows:List (List T)},zm qs=some rows→rows.length=qs.length
 | [],rows,h=>by simp[zm] at h;simp[←h]
 | q::qs,rows,h=>by
   simp only[zm] at h
   split at h
   ·rename_i h1 h2 h3
    obtain rfl:=Option.some.inj h
    simp[Cr h3]
   ·cases h
def yu(v:Value):PV:=if(∀u∈v.cells.toList,u.oneCell'=true) then(if v.oneCell'=true then .d (.val v) else .agg (v.cells.toList.map fun u=>.d (.val u))) else .any
theorem LV{w:World}{ok:Nat→Prop}{ν:Nat→Nm}{st:Nat→Option En}:∀(cs:List Value),(∀u∈cs,u.oneCell'=true)→ai w ok ν st (cs.map fun u=>.d (.val u)) cs
 | [],_=>by simp[ai]
 | u::cs,h=>by
   simp only[aR,ai,aj]
   exact⟨.val u (h u (by simp)),LV cs fun u hu=>h u (by simp[hu])⟩
theorem CZ:∀(cs:List Value),qE (cs.map fun u=>.d (.val u))=some (cs.map D.val)
 | []=>rfl
 | u::cs=>by simp[qE,Oy,CZ cs]
theorem Lh{w:World}{ok:Nat→Prop}{ν:Nat→Nm}{st:Nat→Option En}(v:Value):aj w ok ν st (yu v) v:=by
 unfold yu
 by_cases h:∀u∈v.cells.toList,u.oneCell'=true
 ·rw[if_pos h]
  by_cases h1:v.oneCell'=true
  ·rw[if_pos h1]
   simp only[aj]
   exact .val v h1
  ·rw[if_neg h1]
   cases v with
   | agg cs=>simp only[aj];exact⟨_,rfl,LV _ h⟩
   | _=>exact absurd (h _ (List.mem_singleton.2 rfl)) h1
 ·rw[if_neg h]
  simp only[aj]
theorem KQ(v:Value)(h:∀u∈v.cells.toList,u.oneCell'=true):(yu v).whole=true∧qE (ct (yu v))=some (v.cells.toList.map D.val):=by
 unfold yu
 rw[if_pos h]
 by_cases h1:v.oneCell'=true
 ·rw[if_pos h1,r5 h1]
  exact⟨rfl,rfl⟩
 ·rw[if_neg h1]
  exact⟨rfl,CZ _⟩
theorem CK(ρ:Operand→Value):∀(ps:List (Nat×Operand)),(∀x∈ps,∀u∈(ρ x.2).cells.toList,u.oneCell'=true)→rowsOf (ps.map fun x=>yu (ρ x.2))=some (ps.map fun x=>(ρ x.2).cells.toList.map D.val)
 | [],_=>rfl
 | x::ps,h=>by
   obtain⟨h1,h2⟩:=KQ (ρ x.2) (h x (by simp))
   simp only[aR,rowsOf]
   rw[if_pos h1,h2,CK ρ ps fun y hy=>h y (by simp[hy])]
theorem xF(ρ:Operand→Value)(n:Nat):∀(ps:List (Nat×Operand)),(∀x∈ps,(ρ x.2).cells.toList.length=n)→nb n (ps.map fun x=>(ρ x.2).cells.toList.map D.val)=true
 | [],_=>rfl
 | x::ps,h=>by
   have:=h x (by simp)
   simp only[aR,nb,ae,bl,beq_iff_eq]
   exact⟨this,xF ρ n ps fun y hy=>h y (by simp[hy])⟩
theorem Nd{w:World}{ok:Nat→Prop}{sz:Nat}{vs us:List (List Value)}(hv:∀v∈vs,v.length=sz)(h:bg w ok sz (vs.map fun u=>u.map D.val) us):us=vs:=by
 have hl:=h.len
 rw[bl] at hl
 refine List.ext_getElem hl fun i h1 h2=>?_
 have e1:(vs.map fun u=>u.map D.val)[i]?=some (vs[i].map D.val):=by simp[ab h2]
 have e2:=ab h1
 have l1:=h.hu i _ e2
 have l2:=hv _ (List.getElem_mem h2)
 refine List.ext_getElem (by rw[l1,l2]) fun j h3 h4=>?_
 exact(h.hr i j _ _ (.val vs[i][j]) _ e1 e2 (by simp[ab h4]) (ab h3)).vP
theorem HR{t e:Nat}{ti ei:TI}(ht:E.ti t=some ti)(fW:ti.ty= .slice e)(he:E.ti e=some ei)(a:Act)(w:World)(ps:List (Nat×Operand))(hup:y3 0 (ps.map (·.1))=true)
 (h1:∀x∈ps,∀u∈(a.eval x.2).cells.toList,u.oneCell'=true) (h2:∀x∈ps,(a.eval x.2).cells.toList.length=ei.n) (hbig:ps.length*ei.n≤16777216) {o:Oper} (ho:o.op= .buildSlice t ps.length ⟨ps⟩) :
 (execOp a.eval o).run E.P w= .ok (.value (.slice (some ⟨w.heap.size,0,none⟩) ps.length ps.length)) (w.alloc (.cells ⟨(ps.map fun x=>(a.eval x.2).cells.toList).flatten⟩ e)):=by
 obtain⟨i,z,k1,k2,k4,k5,k6,k7⟩:=(E.ok e ei he).info
 have hu:=(E.ok t ti ht).ty
 rw[fW] at hu
 have hpos:=(E.ok e ei he).pos
 have key:∀init:Array Value,init.size=ps.length*ei.n→Instr.fill (fun i=>some (i*ei.n,ei.n)) init (ps.map fun x=>(x.1,a.eval x.2))=some ⟨(ps.map fun x=>(a.eval x.2).cells.toList).flatten⟩:=by
  intro init hi
  obtain⟨us,m1,m2⟩:=tr (w:=w) (ok:=fun _=>True) (ν:=fun _=>⟨.bool false,[]⟩) (st:=fun _=>none) (fun _ h=>by cases h) ei.n (fun x=>yu (a.eval x)) a.eval (fun x=>Lh _) ps 0 [] init _ hup (CK a.eval ps h1) (xF a.eval ei.n ps h2) (by simp) (by simp) (by simpa using hi)
  have e1:(ps.map fun x=>(a.eval x.2).cells.toList.map D.val)=(ps.map fun x=>(a.eval x.2).cells.toList).map fun u=>u.map D.val:=by simp
  rw[e1] at m2
  have:=Nd (by
   intro v hv
   obtain⟨x,hx,rfl⟩:=bQ.1 hv
   exact h2 x hx) m2
  subst this
  simpa using m1
 by_cases hz:ps.length*ei.n=0
 ·have m1:=key ((Array.range 0).map fun _=>default) (by rw[Array.size_map,Array.size_range,hz])
  simp only[execOp,ho,eu,Instr.buildSlice,Sem.run_bind,run_underlying hu,Result.andThen_ok,(E.ok e ei he).size w,hz]
  simp[m1,newRow]
 ·have m1:=key ((Array.range (ps.length*ei.n)).map (z.cells[· % z.cells.size]!)) (by simp)
  have hn:¬ps.length*ei.n>16777216:=by omega
  simp only[execOp,ho,eu,Instr.buildSlice,Sem.run_bind,run_underlying hu,Result.andThen_ok,(E.ok e ei he).size w]
  simp[hn,hz,zeroValue,typeInfo,k1,k5,m1,newRow]
theorem Fh{w:World}{ok:Nat→Prop}{ν:Nat→Nm}{st:Nat→Option En}(hν:∀k,(st k).isSome=true→(ν k).v.oneCell'=true)(ev:Operand→PV)(ρ:Operand→Value)(hev:∀x,aj w ok ν st (ev x) (ρ x))(n:Nat) :
 ∀(ps:List (Nat×Operand))(rows:List (List T)),zm (ps.map fun x=>ev x.2)=some rows→pO n rows=true →
  aU E.P w ok ν st rows (ps.map fun x=>(ρ x.2).cells.toList) []∧(∀x∈ps,∀u∈(ρ x.2).cells.toList,u.oneCell'=true)∧(∀x∈ps,(ρ x.2).cells.toList.length=n)
 | [],rows,h,_=>by
   simp only[cK,zm,Option.some.injEq] at h
   subst h
   exact⟨by simp[aU],by simp,by simp⟩
 | x::ps,rows,h,hl=>by
   simp only[aR,zm] at h
   split at h
   ·rename_i row rows' h1 h2 h3
    obtain rfl:=Option.some.inj h
    simp only[pO,ae] at hl
    have hl1:=nK hl.1
    rw[vU] at hl1
    obtain⟨k1,k2,k3⟩:=Fh hν ev ρ hev n ps rows' h3 hl.2
    have hc:=(hev x.2).cells h1 hν
    have ht:=Bp (P:=E.P) hc h2
    refine⟨?_,?_,?_⟩
    ·simp only[aR,aU]
     exact⟨[],[],ht,k1,rfl⟩
    ·intro y hy
     rcases aw.1 hy with rfl|hy
     ·exact ht.one hν
     ·exact k2 y hy
    ·intro y hy
     rcases aw.1 hy with rfl|hy
     ·rw[ht.len];exact hl1
     ·exact k3 y hy
   ·cases h
theorem D6(t e n k:Nat)(ps:List (Nat×Operand))(ti ei:TI)(rows:List (List T))(ht:E.ti t=some ti)(fW:ti.ty= .slice e)(he:E.ti e=some ei)(hn:n=ps.length)(hup:y3 0 (ps.map (·.1))=true)
 (hr:zm (ps.map fun x=>g.ev x.2)=some rows) (cZ:pO ei.n rows=true) (hbig:ps.length*ei.n≤16777216) (hk:g.at k=none) :
 gL E.P ⟨some d,.buildSlice t n ⟨ps⟩,ty,pos,cP,gd⟩ g ⟨ps.flatMap fun x=>bZ x.2,[k]⟩ ⟨some (d,.acc k),[(k,.cY e rows)]⟩:=by
 subst hn
 intro g2 hg
 have hmap:ps.map (fun x=>g2.ev x.2)=ps.map (fun x=>g.ev x.2):=by
  apply iC
  intro x hx
  rw[hg.ev (x:=x.2) (fun t h=>ki.2 ⟨x,hx,h⟩)]
 have h3:=(hg.p k (by simp)).trans hk
 rw[←hmap] at hr
 intro X ν a w next Q hs hnx
 obtain⟨htr,m1,m2⟩:=Fh hs.nu g2.ev a.eval hs.ev ei.n ps rows hr cZ
 have ke:=HR ht fW he a w ps hup m1 m2 hbig (o:=⟨some d,.buildSlice t ps.length ⟨ps⟩,ty,pos,cP,gd⟩) rfl
 have hpos:=(E.ok e ei he).pos
 have hrl:=Cr hr
 simp only[bl] at hrl
 have hle:ps.length≤16777216:=eC (ju _ hpos) hbig
 have hul:∀(i:Nat)(u:List Value),(ps.map fun x=>(a.eval x.2).cells.toList)[i]?=some u→u.length=ei.n:=by
  intro i u hu
  obtain⟨x,hx,rfl⟩:=bQ.1 (dE hu)
  exact m2 x hx
 have hfl:=(pE (w:=w) (ok:=fun _=>True) hul (htr.one hs.nu)).ij
 simp only[bl] at hfl
 unfold Oper.wp
 rw[ke,Oper.upon_value]
 have kM:=World.ownsRow_lit w (e:=e) (⟨(ps.map fun x=>(a.eval x.2).cells.toList).flatten⟩:Array Value) rows.length (base:=0) (size:=ei.n) (cN _) (by simp only[maxLen];omega) (by rw[hrl];simpa using hfl)
 refine hnx _ _ _ (hs.qW (gp w _) k h3 (.cY e rows) ⟨.slice (some ⟨w.heap.size,0,none⟩) ps.length ps.length,[]⟩ rfl (fun b hb=>?_) d _ _ ?_ ?_)
 ·obtain rfl:w.heap.size=b:=by simpa[Nm.has,oE] using hb
  exact ar _
 ·intro ok st ν' hν hw hm
  refine qI (us:=ps.map fun x=>(a.eval x.2).cells.toList) ?_ (by rw[(E.ok e ei he).cells];exact hul) ?_ (by unfold LB;omega) (by rw[hν];exact yr List.nodup_nil (by simp))
  ·rw[hν,(E.ok e ei he).cells,←hrl]
   exact kM
  ·rw[hν]
   exact htr.frame hw (gp w _).size hm _ _ _ (by simp)
 ·intro ok st ν' hν dh hw hm
  simp only[aj]
  exact⟨by rw[dh];rfl,by rw[hν]⟩
end
def LX:Nat→List T→List T
 | 0,_=>[]
 | _+1,[]=>[]
 | n+1,a::as=>a::LX n as
theorem EO:∀(n:Nat)(l:List T),LX n l=l.take n
 | 0,l=>by simp[LX]
 | n+1,[]=>by simp[LX]
 | n+1,a::as=>by simp[LX,EO n as]
def L5:Nat→List T→List T
 | 0,l=>l
 | _+1,[]=>[]
 | n+1,_::as=>L5 n as
theorem Ep:∀(n:Nat)(l:List T),L5 n l=l.drop n
 | 0,l=>by simp[L5]
 | n+1,[]=>by simp[L5]
 | n+1,a::as=>by simp[L5,Ep n as]
def NN:List T→List T→List T
 | [],ys=>ys
 | x::xs,ys=>x::NN xs ys
theorem HS:∀(xs ys:List T),NN xs ys=xs++ys
 | [],ys=>rfl
 | x::xs,ys=>by simp[NN,HS xs ys]
def K5(cs:List T)(off:Nat)(vs:List T):List T:=NN (LX off cs) (NN vs (L5 (off+Dy vs) cs))
theorem LL(cs:List T)(off:Nat)(vs:List T):K5 cs off vs=pB cs off vs:=by
 simp only[K5,pB,HS,EO,Ep,vU]
def BJ(g:G)(d:Nat)(c x y:Operand):qS:=
 match g.ev c with
 | .d (.val (.bool true))=>.go ⟨bZ c++bZ x,[]⟩ ⟨some (d,g.ev x),[]⟩
 | .d (.val (.bool false))=>.go ⟨bZ c++bZ y,[]⟩ ⟨some (d,g.ev y),[]⟩
 | _=>.stop
def ym(E:Env)(g:G)(d:Nat)(t:TypeId):qS:=
 match E.ti t with
 | some ti=>.go ⟨[],[g.new]⟩ ⟨some (d,.ptr g.new 0),[(g.new,.box ti.zero)]⟩
 | none=>.stop
def D7(g:G)(d:Nat)(x:Operand):qS:=
 match(g.ev x).whole with
 | true=>.go ⟨bZ x,[g.new]⟩ ⟨some (d,.ptr g.new 0),[(g.new,.box (ct (g.ev x)))]⟩
 | false=>.stop
def wq(E:Env)(g:G)(d:Nat)(t:TypeId)(x:Operand):qS:=
 match E.ti t with
 | none=>.stop
 | some ti=>
   match g.ev x with
   | .ptr k off=>
     match g.at k with
     | some (.box cs)=>match pM (off+ti.n) (pb cs) with
       | true=>.go ⟨bZ x,[k]⟩ ⟨some (d,Fq ti.isAgg (tk ti.n (dr off cs))),[]⟩
       | false=>.stop
     | _=>.stop
   | .di xs i off=>.jx (pM (off+ti.n) (BD (row xs i))=true) ⟨bZ x,[]⟩ ⟨some (d,Fq ti.isAgg (tk ti.n (dr off (ff (row xs i))))),[]⟩
   | .dv k i off sz=>
     match g.at k with
     | some (.acc e xs)=>match E.ti e with
       | some ei=>.jx (xp sz ei.n=true∧i<xs.length∧pM (off+ti.n) (BD (row xs i))=true) ⟨bZ x,[k]⟩ ⟨some (d,Fq ti.isAgg (tk ti.n (dr off (ff (row xs i))))),[]⟩
       | none=>.stop
     | some (.cY e xs)=>match E.ti e with
       | some ei=>.jx (xp sz ei.n=true∧i<xs.length∧pM (off+ti.n) (Dy (jR xs i))=true) ⟨bZ x,[k]⟩ ⟨some (d,Fq ti.isAgg (tk ti.n (dr off (Nj (jR xs i))))),[]⟩
       | none=>.stop
     | _=>.stop
   | _=>.stop
def Bt(E:Env)(g:G)(d:Nat)(s:TypeId)(x:Operand)(f:Nat):qS:=
 match E.ti s with
 | none=>.stop
 | some si=>match si.ty with
   | .struct fs=>match Ez fs f with
     | some (_,fo,_)=>match g.ev x with
       | .ptr k off=>.go ⟨bZ x,[]⟩ ⟨some (d,.ptr k (off+fo)),[]⟩
       | .di xs i off=>.go ⟨bZ x,[]⟩ ⟨some (d,.di xs i (off+fo)),[]⟩
       | .dv k i off sz=>.go ⟨bZ x,[]⟩ ⟨some (d,.dv k i (off+fo) sz),[]⟩
       | _=>.stop
     | none=>.stop
   | _=>.stop
def rE(E:Env)(g:G)(d:Nat)(s:TypeId)(x:Operand)(f:Nat):qS:=
 match E.ti s with
 | none=>.stop
 | some si=>match si.ty with
   | .struct fs=>match Ez fs f with
     | some (ft,fo,_)=>match E.ti ft with
       | none=>.stop
       | some fi=>match g.ev x with
         | .agg cs=>match pM (fo+fi.n) (pb cs) with
           | true=>.go ⟨bZ x,[]⟩ ⟨some (d,Fq fi.isAgg (tk fi.n (dr fo cs))),[]⟩
           | false=>.stop
         | _=>.stop
     | none=>.stop
   | _=>.stop
def vS(E:Env)(g:G)(d:Nat)(s:TypeId)(x y:Operand):qS:=
 match E.ti s with
 | none=>.stop
 | some si=>match g.ev y with
   | .d (.val (.int .i64 n))=>match si.ty with
     | .slice e=>match E.ti e with
       | none=>.stop
       | some ei=>match g.ev x with
         | .d (.b7 xs)=>.jx (0≤n∧n.toNat<xs.length∧xp (BD (row xs n.toNat)) ei.n=true) ⟨bZ x++bZ y,[]⟩ ⟨some (d,.di xs n.toNat 0),[]⟩
         | .acc k=>match g.at k with
           | some (.acc e' xs)=>match eU e e' with
             | true=>.jx (0≤n∧n.toNat<xs.length) ⟨bZ x++bZ y,[k]⟩ ⟨some (d,.dv k n.toNat 0 ei.n),[]⟩
             | false=>.stop
           | some (.cY e' xs)=>match eU e e' with
             | true=>.jx (0≤n∧n.toNat<xs.length) ⟨bZ x++bZ y,[k]⟩ ⟨some (d,.dv k n.toNat 0 ei.n),[]⟩
             | false=>.stop
           | _=>.stop
         | _=>.stop
     | .arr len e=>match E.ti e with
       | none=>.stop
       | some ei=>match g.ev x with
         | .ptr k off=>.jx (0≤n∧n.toNat<len) ⟨bZ x++bZ y,[]⟩ ⟨some (d,.ptr k (off+n.toNat*ei.n)),[]⟩
         | _=>.stop
     | _=>.stop
   | _=>.stop
def Av(E:Env)(g:G)(d:Nat)(s:TypeId)(x y:Operand):qS:=
 match E.ti s with
 | none=>.stop
 | some si=>match g.ev y with
   | .d (.val (.int .i64 n))=>match si.ty with
     | .str=>match g.ev x with
       | .d (.str l)=>.jx (0≤n∧n.toNat<l.length) ⟨bZ x++bZ y,[]⟩ ⟨some (d,.d (.val (.int .u8 ((l.getD n.toNat 0).toNat:Int)))),[]⟩
       | _=>.stop
     | _=>.stop
   | _=>.stop
def FY(g:G)(d:Nat)(u:UnOp)(x:Operand):qS:=
 match u,g.ev x with
 | .not,.d (.val (.bool m))=>.go ⟨bZ x,[]⟩ ⟨some (d,.d (.val (.bool (!m)))),[]⟩
 | .neg,.d (.val (.int .i64 m))=>.jx (Hg (-m)) ⟨bZ x,[]⟩ ⟨some (d,.d (.val (.int .i64 (-m)))),[]⟩
 | _,_=>.stop
def wc(E:Env)(g:G)(d:Nat)(s t:TypeId)(x:Operand):qS:=
 match E.ti s,E.ti t with
 | some si,some ti=>match si.ty,ti.ty,g.ev x with
   | .int k,.int k',.d (.val (.int k2 m))=>match JC k k2 with
     | true=>.go ⟨bZ x,[]⟩ ⟨some (d,.d (.val (.int k' (k'.wrap m)))),[]⟩
     | false=>.stop
   | _,_,_=>.stop
 | _,_=>.stop
def sU(E:Env)(g:G)(d:Nat)(t:TypeId)(ps:List (Nat×Operand)):qS:=
 match E.ti t with
 | none=>.stop
 | some ti=>match ti.ty with
   | .struct fs=>match BV (N9 fs) ti.zero (OE g ps) with
     | some r=>.go ⟨Ng ps,[]⟩ ⟨some (d,.agg r),[]⟩
     | none=>.stop
   | _=>.stop
def Bk(E:Env)(g:G)(d:Nat)(t:TypeId)(n:Nat)(ps:List (Nat×Operand)):qS:=
 match E.ti t with
 | none=>.stop
 | some ti=>match ti.ty with
   | .slice e=>match E.ti e with
     | none=>.stop
     | some ei=>match ps with
       | []=>match n with
         | 0=>.go ⟨[],[g.new]⟩ ⟨some (d,.acc g.new),[(g.new,.acc e [])]⟩
         | _=>.stop
       | p::ps=>match eU n (Eh (p::ps)),y3 0 (Ox (p::ps)),rowsOf (NM g (p::ps)) with
         | true,true,some rows=>match nb ei.n rows,pM (Eh (p::ps)) 64,pM ei.n 64 with
           | true,true,true=>.go ⟨Ng (p::ps),[]⟩ ⟨some (d,.d (.b7 rows)),[]⟩
           | _,_,_=>.stop
         | true,true,none=>match zm (NM g (p::ps)) with
           | none=>.stop
           | some rows=>match pO ei.n rows,pM (Eh (p::ps)) 64,pM ei.n 64 with
             | true,true,true=>.go ⟨Ng (p::ps),[g.new]⟩ ⟨some (d,.acc g.new),[(g.new,.cY e rows)]⟩
             | _,_,_=>.stop
         | _,_,_=>.stop
   | _=>.stop
def wg(E:Env)(g:G)(d:Nat)(t:TypeId)(l c:Operand):qS:=
 match E.ti t with
 | none=>.stop
 | some ti=>match ti.ty with
   | .slice e=>match E.ti e with
     | none=>.stop
     | some ei=>match qE ei.zero,g.ev l,g.ev c with
       | some z,.d (.val (.int .i64 n)),.d (.val (.int .i64 n'))=>.jx (n'=n∧0≤n∧n.toNat≤LB∧ei.bytes*n.toNat≤281474976710656) ⟨bZ l++bZ c,[g.new]⟩ ⟨some (d,.acc g.new),[(g.new,.acc e (List.replicate n.toNat z))]⟩
       | _,_,_=>.stop
   | _=>.stop
def MZ(g:G)(dflt:Int):Option Operand→Option Int
 | none=>some dflt
 | some x=>match g.ev x with
   | .d (.val (.int _ i))=>some i
   | _=>none
theorem Bv{g:G}{d i:Int}{o:Option Operand}(h:MZ g d o=some i):OI g o d i:=by
 cases o with
 | none=>exact(Option.some.inj h).symm
 | some x=>
   simp only[MZ] at h
   split at h
   ·rename_i k j hj
    obtain rfl:=Option.some.inj h
    exact⟨k,hj⟩
   ·cases h
def Bd(E:Env)(g:G)(d:Nat)(t:TypeId)(x:Operand)(lo hi mx:Option Operand):qS:=
 match mx,E.ti t with
 | none,some ti=>match ti.ty,g.ev x with
   | .slice e,.d (.b7 xs)=>match E.ti e,MZ g 0 lo,MZ g xs.length hi with
     | some ei,some l,some h=>.jx (0≤l∧l≤h∧h≤xs.length∧∀y∈xs,y.length=ei.n) ⟨bZ x++(J7 lo++J7 hi),[]⟩ ⟨some (d,.d (.b7 ((xs.drop l.toNat).take (h.toNat-l.toNat)))),[]⟩
     | _,_,_=>.stop
   | .str,.d (.str s)=>match MZ g 0 lo,MZ g s.length hi with
     | some l,some h=>.jx (0≤l∧l≤h∧h≤s.length) ⟨bZ x++(J7 lo++J7 hi),[]⟩ ⟨some (d,.d (.str ((s.drop l.toNat).take (h.toNat-l.toNat)))),[]⟩
     | _,_=>.stop
   | _,_=>.stop
 | _,_=>.stop
def A3(g:G)(d:Nat)(x:Operand):qS:=
 match g.ev x with
 | .ptr k off=>.go ⟨bZ x,[]⟩ ⟨some (d,.ptr k off),[]⟩
 | .di xs i off=>.go ⟨bZ x,[]⟩ ⟨some (d,.di xs i off),[]⟩
 | .dv k i off sz=>.go ⟨bZ x,[]⟩ ⟨some (d,.dv k i off sz),[]⟩
 | _=>.stop
def Ap(g:G)(d:Nat)(x:Operand)(i:Nat):qS:=
 match g.ev x with
 | .gN ps=>match GQ ps i with
   | some p=>.go ⟨bZ x,[]⟩ ⟨some (d,p),[]⟩
   | none=>.stop
 | _=>.stop
def AL(E:Env)(g:G)(d:Nat)(s:TypeId)(x:Operand):qS:=
 match E.ti s with
 | none=>.stop
 | some si=>match si.ty,g.ev x with
   | .slice _,.d (.b7 xs)=>.go ⟨bZ x,[]⟩ ⟨some (d,.d (.val (.int .i64 (xs.length:Int)))),[]⟩
   | .slice _,.aV=>.go ⟨bZ x,[]⟩ ⟨some (d,.d (.val (.int .i64 0))),[]⟩
   | .slice _,.acc k=>match g.at k with
     | some (.acc _ xs)=>.go ⟨bZ x,[k]⟩ ⟨some (d,.d (.val (.int .i64 (xs.length:Int)))),[]⟩
     | some (.cY _ xs)=>.go ⟨bZ x,[k]⟩ ⟨some (d,.d (.val (.int .i64 (xs.length:Int)))),[]⟩
     | _=>.stop
   | .str,.d (.str l)=>.go ⟨bZ x,[]⟩ ⟨some (d,.d (.val (.int .i64 (l.length:Int)))),[]⟩
   | _,_=>.stop
def vQ(E:Env)(g:G)(p:PV):Option (List (List D)×Option TypeId):=
 match p with
 | .aV=>some ([],none)
 | .d (.b7 ys)=>some (ys,none)
 | .acc k=>match g.at k with
   | some (.acc e ys)=>some (ys,some e)
   | _=>none
 | .d (.val (.slice (some _) 0 _))=>some ([],none)
 | _=>none
def B6(E:Env)(sz:Nat)(p:PV)(ys:List (List D)):Option TypeId→Prop
 | none=>∀y∈ys,y.length=sz
 | some e=>∃ei,E.ti e=some ei∧ei.n=sz
theorem rb{E:Env}{g:G}{p:PV}{ys:List (List D)}{o:Option TypeId}{sz:Nat}(h:vQ E g p=some (ys,o))(ho:B6 E sz p ys o):pd E sz g p ys:=by
 unfold vQ at h
 split at h
 ·obtain⟨rfl,rfl⟩:[]=ys∧none=o:=by simpa using h
  exact .inl ⟨rfl,rfl⟩
 ·obtain⟨rfl,rfl⟩:_=ys∧none=o:=by simpa using h
  exact .inr (.inl ⟨rfl,ho⟩)
 ·split at h
  ·rename_i e ys' hk
   obtain⟨rfl,rfl⟩:_=ys∧some e=o:=by simpa using h
   obtain⟨ei,h1,h2⟩:=ho
   exact .inr (.inr (.inl ⟨_,e,ei,rfl,hk,h1,h2⟩))
  ·cases h
 ·obtain⟨rfl,rfl⟩:[]=ys∧none=o:=by simpa using h
  exact .inr (.inr (.inr ⟨_,_,rfl,rfl⟩))
 ·cases h
def vT(g:G)(p:PV):Option (List (List T)×TypeId):=
 match p with
 | .acc k=>match g.at k with
   | some (.cY e ys)=>some (ys,e)
   | _=>none
 | _=>none
theorem ru{E:Env}{g:G}{p:PV}{ys:List (List T)}{e:TypeId}{ei:TI}(h:vT g p=some (ys,e))(he:E.ti e=some ei)(hn:lQ ys=true):AA E ei.n g p ys:=by
 unfold vT at h
 split at h
 ·rename_i k
  split at h
  ·rename_i e' ys' hk
   obtain⟨rfl,rfl⟩:ys'=ys∧e'=e:=by simpa using h
   exact .inr ⟨k,e',ei,rfl,hk,he,rfl,hn⟩
  ·cases h
 ·cases h
def wz(g:G)(d:Nat)(s x:Operand)(e:TypeId)(ei:TI):qS:=
 match vT g (g.ev x) with
 | none=>.stop
 | some (ys,e2)=>match eU e e2 with
   | false=>.stop
   | true=>match g.ev s with
     | .aV=>.jx (lQ ys=true∧ys.length≤LB∧ys.length*ei.bytes≤140737488355328) ⟨bZ s++bZ x,g.new::pX (g.ev x)⟩ ⟨some (d,.acc g.new),[(g.new,.cY e ys)]⟩
     | .acc k=>match g.at k with
       | some (.acc e' xs)=>match eU e e' with
         | true=>.jx (lQ ys=true∧xs.length+ys.length≤LB∧(xs.length+ys.length)*ei.bytes≤140737488355328) ⟨bZ s++bZ x,k::g.new::pX (g.ev x)⟩ ⟨some (d,.acc g.new),[(k,.dead),(g.new,.cY e (lift xs++ys))]⟩
         | false=>.stop
       | some (.cY e' xs)=>match eU e e' with
         | true=>.jx (lQ ys=true∧xs.length+ys.length≤LB∧(xs.length+ys.length)*ei.bytes≤140737488355328) ⟨bZ s++bZ x,k::g.new::pX (g.ev x)⟩ ⟨some (d,.acc g.new),[(k,.dead),(g.new,.cY e (xs++ys))]⟩
         | false=>.stop
       | _=>.stop
     | _=>.stop
def Bi(E:Env)(g:G)(d:Nat)(s x:Operand)(t t':TypeId):qS:=
 match eU t t',E.ti t with
 | true,some ti=>match ti.ty with
   | .slice e=>match E.ti e,vQ E g (g.ev x) with
     | some ei,some (ys,o)=>match g.ev s with
       | .aV=>.jx (B6 E ei.n (g.ev x) ys o∧ys.length≤LB∧ys.length*ei.bytes≤140737488355328) ⟨bZ s++bZ x,g.new::pX (g.ev x)⟩ ⟨some (d,.acc g.new),[(g.new,.acc e ys)]⟩
       | .acc k=>match g.at k with
         | some (.acc e' xs)=>match eU e e' with
           | true=>.jx (B6 E ei.n (g.ev x) ys o∧xs.length+ys.length≤LB∧(xs.length+ys.length)*ei.bytes≤140737488355328) ⟨bZ s++bZ x,k::g.new::pX (g.ev x)⟩ ⟨some (d,.acc g.new),[(k,.dead),(g.new,.acc e (xs++ys))]⟩
           | false=>.stop
         | some (.cY e' xs)=>match eU e e' with
           | true=>.jx (B6 E ei.n (g.ev x) ys o∧xs.length+ys.length≤LB∧(xs.length+ys.length)*ei.bytes≤140737488355328) ⟨bZ s++bZ x,k::g.new::pX (g.ev x)⟩ ⟨some (d,.acc g.new),[(k,.dead),(g.new,.cY e (xs++lift ys))]⟩
           | false=>.stop
         | _=>.stop
       | _=>.stop
     | some ei,none=>wz g d s x e ei
     | _,_=>.stop
   | _=>.stop
 | _,_=>.stop
def pA(E:Env)(g:G)(dn:Option Nat)(t:TypeId)(x y:Operand):qS:=
 match E.ti t with
 | none=>.stop
 | some ti=>match g.ev x with
   | .ptr k off=>match g.at k with
     | some (.box cs)=>match pM (off+ti.n) (pb cs),(g.ev y).whole,eU (pb (ct (g.ev y))) ti.n,ob (ct (g.ev y)) with
       | true,true,true,true=>.go ⟨bZ x++bZ y++dn.toList,[k]⟩ ⟨dn.map fun d=>(d,.undef),[(k,.box (EW cs off (ct (g.ev y))))]⟩
       | _,_,_,_=>.stop
     | _=>.stop
   | .dv k i off sz=>match g.at k with
     | some (.acc e xs)=>match E.ti e,(g.ev y).whole,eU (pb (ct (g.ev y))) ti.n,qE (ct (g.ev y)) with
       | some ei,true,true,some cs=>.jx (xp sz ei.n=true∧i<xs.length∧pM (off+ti.n) ei.n=true) ⟨bZ x++bZ y++dn.toList,[k]⟩ ⟨dn.map fun d=>(d,.undef),[(k,.acc e (xs.set i (pB (row xs i) off cs)))]⟩
       | some ei,true,true,none=>match tZ (ct (g.ev y)) with
         | none=>.stop
         | some cs=>.jx (xp sz ei.n=true∧i<xs.length∧pM (off+ti.n) ei.n=true) ⟨bZ x++bZ y++dn.toList,[k]⟩ ⟨dn.map fun d=>(d,.undef),[(k,.cY e ((lift xs).set i (pB (jR (lift xs) i) off cs)))]⟩
       | _,_,_,_=>.stop
     | some (.cY e xs)=>match E.ti e,(g.ev y).whole,eU (pb (ct (g.ev y))) ti.n,tZ (ct (g.ev y)) with
       | some ei,true,true,some cs=>.jx (xp sz ei.n=true∧i<xs.length∧pM (off+ti.n) ei.n=true∧gK (LX ti.n (L5 off (jR xs i)))=true) ⟨bZ x++bZ y++dn.toList,[k]⟩ ⟨dn.map fun d=>(d,.undef),[(k,.cY e (xs.set i (K5 (jR xs i) off cs)))]⟩
       | _,_,_,_=>.stop
     | _=>.stop
   | _=>.stop
def tg:List Operand→List Nat
 | []=>[]
 | x::xs=>bZ x++tg xs
theorem pF:∀(l:List Operand),tg l=l.flatMap bZ
 | []=>rfl
 | x::xs=>by simp[tg,pF xs]
def Gl(g:G):List Operand→List PV
 | []=>[]
 | x::xs=>g.ev x::Gl g xs
theorem tz(g:G):∀(l:List Operand),Gl g l=l.map g.ev
 | []=>rfl
 | x::xs=>by simp[Gl,tz g xs]
def Fa(g:G)(d:Nat)(fn:Fn)(first cs:List Operand):qS:=
 match fn,first with
 | .func f,[]=>.go ⟨tg cs,[]⟩ ⟨some (d,.fn f (Gl g cs)),[]⟩
 | _,_=>.stop
def vN(E:Env)(g:G)(d:Nat)(callee:Callee)(args:List Operand)(tys:List TypeId):qS:=
 match callee with
 | .builtin b=>match b,args,tys with
   | .len,[x],[s]=>AL E g d s x
   | .append,[s,x],[t,t']=>Bi E g d s x t t'
   | _,_,_=>.stop
 | _=>.stop
def E3(E:Env)(g:G)(d:Nat):Op→qS
 | .move x=>.go ⟨bZ x,[]⟩ ⟨some (d,g.ev x),[]⟩
 | .assign x=>.go ⟨bZ x,[]⟩ ⟨some (d,g.ev x),[]⟩
 | .pick c x y=>BJ g d c x y
 | .alloc t=>ym E g d t
 | .box _ x=>D7 g d x
 | .load t x=>wq E g d t x
 | .fieldAddr s x f=>Bt E g d s x f
 | .field s x f=>rE E g d s x f
 | .indexAddr s x y=>vS E g d s x y
 | .index s x y=>Av E g d s x y
 | .store t x y=>pA E g (some d) t x y
 | .binOp b t x y _=>OT E g d b t x y
 | .unOp u _ x=>FY g d u x
 | .convert s t x=>wc E g d s t x
 | .makeFunc fn first cs=>Fa g d fn first.toList cs.toList
 | .build t ps=>sU E g d t ps.toList
 | .buildSlice t n ps=>Bk E g d t n ps.toList
 | .makeSlice t l c=>wg E g d t l c
 | .slice t x lo hi mx=>Bd E g d t x lo hi mx
 | .nilCheck x=>A3 g d x
 | .extract x i=>Ap g d x i
 | .call c=>vN E g d c.callee c.args.toList c.argTypes.toList
 | _=>.stop
def Mx(E:Env)(g:G)(o:Oper):qS:=
 match o.dst,o.op with
 | some d,op=>E3 E g d op
 | none,.store t x y=>pA E g none t x y
 | none,_=>.stop
section
variable{E:Env}{g:G}{d:Nat}{ty:TypeId}{pos:String}{cP:Array Edge}{gd:Option (Nat×Bool)}{dn:Option Nat}
theorem Es(t:TypeId)(x:Operand):(wq E g d t x).Ok E.P ⟨some d,.load t x,ty,pos,cP,gd⟩ g:=by
 unfold wq
 split
 ·trivial
 ·rename_i ti ht
  split
  ·rename_i k off hx
   split
   ·rename_i cs hk
    split
    ·rename_i hl
     have hl:=gg hl
     rw[jz] at hl
     simp only[zV,zT]
     exact Cc x t k off ti cs ht hx hk hl
    ·trivial
   ·trivial
  ·rename_i xs i off hx
   simp only[zV,zT]
   exact fun h=>Bc x t i off ti xs _ ht hx rfl (FH h)
  ·rename_i k i off sz hx
   split
   ·rename_i e xs hk
    split
    ·rename_i ei he
     simp only[zV,zT]
     exact fun h=>Aw x t k i off sz e ti ei xs _ ht he (nK h.1) hx hk h.2.1 rfl (FH h.2.2)
    ·trivial
   ·rename_i e xs hk
    split
    ·rename_i ei he
     simp only[zV,zT]
     exact fun h=>BZ x t k i off sz e ti ei xs ht he (nK h.1) hx hk h.2.1 (by have:=gg h.2.2;rwa [vU] at this)
    ·trivial
   ·trivial
  ·trivial
theorem Gb(s:TypeId)(x:Operand)(f:Nat):(Bt E g d s x f).Ok E.P ⟨some d,.fieldAddr s x f,ty,pos,cP,gd⟩ g:=by
 unfold Bt
 split
 ·trivial
 ·rename_i si hs
  split
  ·rename_i fs jU
   split
   ·rename_i ft fo fz hf
    rw[A4] at hf
    split
    ·rename_i hx;exact E1 x s f _ _ si fs ft fo fz hs jU hf hx
    ·rename_i hx;exact Cl x s f _ _ _ si fs ft fo fz hs jU hf hx
    ·rename_i hx;exact BU x s f _ _ _ _ si fs ft fo fz hs jU hf hx
    ·trivial
   ·trivial
  ·trivial
theorem C9(s:TypeId)(x:Operand)(f:Nat):(rE E g d s x f).Ok E.P ⟨some d,.field s x f,ty,pos,cP,gd⟩ g:=by
 unfold rE
 split
 ·trivial
 ·rename_i si hs
  split
  ·rename_i fs jU
   split
   ·rename_i ft fo fz hf
    rw[A4] at hf
    split
    ·trivial
    ·rename_i fi hfi
     split
     ·rename_i cs hx
      split
      ·rename_i hl
       have hl:=gg hl
       rw[jz] at hl
       simp only[zV,zT]
       exact Hq x s f si fs ft fo fz fi cs hs jU hf hfi hx hl
      ·trivial
     ·trivial
   ·trivial
  ·trivial
theorem Em(s:TypeId)(x y:Operand):(vS E g d s x y).Ok E.P ⟨some d,.indexAddr s x y,ty,pos,cP,gd⟩ g:=by
 unfold vS
 split
 ·trivial
 ·rename_i si hs
  split
  ·rename_i n hy
   split
   ·rename_i e jU
    split
    ·trivial
    ·rename_i ei he
     split
     ·rename_i xs hx
      exact fun h=>EE x y s si ei e xs n hs jU he hx hy h.1 h.2.1 (KZ h.2.2)
     ·rename_i k hx
      split
      ·rename_i e' xs hk
       split
       ·rename_i hee
        obtain rfl:=a6 hee
        exact fun h=>DC x y s si ei e k xs n hs jU he hx hk hy h.1 h.2
       ·trivial
      ·rename_i e' xs hk
       split
       ·rename_i hee
        obtain rfl:=a6 hee
        exact fun h=>Dr x y s si ei e k xs n hs jU he hx hk hy h.1 h.2
       ·trivial
      ·trivial
     ·trivial
   ·rename_i len e jU
    split
    ·trivial
    ·rename_i ei he
     split
     ·rename_i k off hx
      exact fun h=>DH x y s si ei e len k off n hs jU he hx hy h.1 h.2
     ·trivial
   ·trivial
  ·trivial
theorem GY(s:TypeId)(x y:Operand):(Av E g d s x y).Ok E.P ⟨some d,.index s x y,ty,pos,cP,gd⟩ g:=by
 unfold Av
 split
 ·trivial
 ·rename_i si hs
  split
  ·rename_i n hy
   split
   ·rename_i jU
    split
    ·rename_i l hx
     exact fun h=>ER x y s si l n hs jU hx hy h.1 h.2
    ·trivial
   ·trivial
  ·trivial
theorem Jo(u:UnOp)(t:TypeId)(x:Operand):(FY g d u x).Ok E.P ⟨some d,.unOp u t x,ty,pos,cP,gd⟩ g:=by
 unfold FY
 split
 ·rename_i m hx;exact Nh x m t hx
 ·rename_i m hx;exact fun h=>Np x m t hx h
 ·trivial
theorem DT(s t:TypeId)(x:Operand):(wc E g d s t x).Ok E.P ⟨some d,.convert s t x,ty,pos,cP,gd⟩ g:=by
 unfold wc
 split
 ·rename_i si ti hs ht
  split
  ·rename_i k k' k2 m jU fW hx
   split
   ·rename_i hk
    obtain rfl:=BB hk
    exact KB x k k' m s t si ti hs jU ht fW hx
   ·trivial
  ·trivial
 ·trivial
theorem B0(t:TypeId)(ps:Array (Nat×Operand)):(sU E g d t ps.toList).Ok E.P ⟨some d,.build t ps,ty,pos,cP,gd⟩ g:=by
 unfold sU
 split
 ·trivial
 ·rename_i ti ht
  split
  ·rename_i fs fW
   split
   ·rename_i r hr
    have hr:=Fp _ _ _ _ hr
    rw[I6,H8] at hr
    rw[BI]
    exact HV t ps.toList ti fs r ht fW hr
   ·trivial
  ·trivial
theorem F7(t:TypeId)(n:Nat)(ps:Array (Nat×Operand)):(Bk E g d t n ps.toList).Ok E.P ⟨some d,.buildSlice t n ps,ty,pos,cP,gd⟩ g:=by
 obtain⟨ps⟩:=ps
 simp only
 unfold Bk
 split
 ·trivial
 ·rename_i ti ht
  split
  ·rename_i e fW
   split
   ·trivial
   ·rename_i ei he
    split
    ·split
     ·exact DQ t e 0 g.new [] ti ei [] ht fW he rfl rfl rfl rfl (by simp) g.gM
     ·trivial
    ·rename_i p ps
     split
     ·rename_i rows h1 h2 h3
      split
      ·rename_i h4 h5 h6
       have h1:=a6 h1
       have h5:=gg h5
       have h6:=gg h6
       rw[Au] at h1 h5
       rw[Er] at h2
       rw[Ew] at h3
       rw[BI]
       exact Iy t e n (p::ps) ti ei rows ht fW he h1 h2 h3 h4 (eC (Nat.mul_le_mul h5 h6) (by omega))
      ·trivial
     ·rename_i h1 h2 _
      split
      ·trivial
      ·rename_i rows h3
       split
       ·rename_i h4 h5 h6
        have h1:=a6 h1
        have h5:=gg h5
        have h6:=gg h6
        rw[Au] at h1 h5
        rw[Er] at h2
        rw[Ew] at h3
        rw[BI]
        exact D6 t e n g.new (p::ps) ti ei rows ht fW he h1 h2 h3 h4 (eC (Nat.mul_le_mul h5 h6) (by omega)) g.gM
       ·trivial
     ·trivial
  ·trivial
theorem E0(t:TypeId)(l c:Operand):(wg E g d t l c).Ok E.P ⟨some d,.makeSlice t l c,ty,pos,cP,gd⟩ g:=by
 unfold wg
 split
 ·trivial
 ·rename_i ti ht
  split
  ·rename_i e fW
   split
   ·trivial
   ·rename_i ei he
    split
    ·rename_i z n n' hz hl hc
     rintro⟨rfl,h1,h2,h3⟩
     exact LD l c t e g.new ti ei n' z ht fW he hz hl hc g.gM h1 h2 h3
    ·trivial
  ·trivial
theorem GN(t:TypeId)(x:Operand)(lo hi mx:Option Operand):(Bd E g d t x lo hi mx).Ok E.P ⟨some d,.slice t x lo hi mx,ty,pos,cP,gd⟩ g:=by
 unfold Bd
 split
 ·rename_i ti ht
  split
  ·rename_i e xs fW hx
   split
   ·rename_i ei l h he hl hh
    exact fun k=>EU x lo hi t e ti ei xs _ l h ht fW he hx (Bv hl) (Bv hh) k.1 k.2.1 k.2.2.1 k.2.2.2 rfl
   ·trivial
  ·rename_i s fW hx
   split
   ·rename_i l h hl hh
    exact fun k=>DY x lo hi t ti s _ l h ht fW hx (Bv hl) (Bv hh) k.1 k.2.1 k.2.2 rfl
   ·trivial
  ·trivial
 ·trivial
theorem Ga(x:Operand):(A3 g d x).Ok E.P ⟨some d,.nilCheck x,ty,pos,cP,gd⟩ g:=by
 unfold A3
 split
 ·rename_i hx;exact vD x _ _ hx
 ·rename_i hx;exact s9 x _ _ _ hx
 ·rename_i hx;exact tx x _ _ _ _ hx
 ·trivial
theorem GA(x:Operand)(i:Nat):(Ap g d x i).Ok E.P ⟨some d,.extract x i,ty,pos,cP,gd⟩ g:=by
 unfold Ap
 split
 ·rename_i ps hx
  split
  ·rename_i p hp
   rw[Fx] at hp
   exact D8 x i ps p hx hp
  ·trivial
 ·trivial
theorem GR(s:TypeId)(x:Operand):(AL E g d s x).Ok E.P ⟨some d,.call ⟨.builtin .len,#[x],#[s]⟩,ty,pos,cP,gd⟩ g:=by
 unfold AL
 split
 ·trivial
 ·rename_i si hs
  split
  ·rename_i e xs jU hx;exact Ed x s si e xs hs jU hx
  ·rename_i e jU hx;exact Eg x s si e hs jU hx
  ·rename_i e k jU hx
   split
   ·rename_i e' xs hk;exact D1 x s si e e' k xs hs jU hx hk
   ·rename_i e' xs hk;exact D9 x s si e e' k xs hs jU hx hk
   ·trivial
  ·rename_i l jU hx;exact DJ x s si l hs jU hx
  ·trivial
theorem Dz(s x:Operand)(t e:TypeId)(ti ei:TI)(ht:E.ti t=some ti)(fW:ti.ty= .slice e)(he:E.ti e=some ei):(wz g d s x e ei).Ok E.P ⟨some d,.call ⟨.builtin .append,#[s,x],#[t,t]⟩,ty,pos,cP,gd⟩ g:=by
 unfold wz
 split
 ·trivial
 ·rename_i ys e2 hr
  split
  ·trivial
  ·rename_i h2
   obtain rfl:=a6 h2
   split
   ·rename_i hs
    exact fun h=>xi s x t e g.new ti ei _ ys ht fW he hs rfl (ru hr he h.1) g.gM h.2.1 h.2.2
   ·rename_i k hs
    split
    ·rename_i e' xs hk
     split
     ·rename_i hee
      obtain rfl:=a6 hee
      exact fun h=>wM s x t e k g.new ti ei _ xs ys ht fW he hs hk rfl (ru hr he h.1) g.gM h.2.1 h.2.2
     ·trivial
    ·rename_i e' xs hk
     split
     ·rename_i hee
      obtain rfl:=a6 hee
      exact fun h=>lU s x t e k g.new ti ei _ xs ys ht fW he hs hk rfl (ru hr he h.1) g.gM h.2.1 h.2.2
     ·trivial
    ·trivial
   ·trivial
theorem G0(s x:Operand)(t t':TypeId):(Bi E g d s x t t').Ok E.P ⟨some d,.call ⟨.builtin .append,#[s,x],#[t,t']⟩,ty,pos,cP,gd⟩ g:=by
 unfold Bi
 split
 ·rename_i ti htt ht
  obtain rfl:=a6 htt
  split
  ·rename_i e fW
   split
   ·rename_i ei ys o he hap
    split
    ·rename_i hs
     exact fun h=>yW s x t e g.new ti ei _ ys ht fW he hs rfl (rb hap h.1) g.gM h.2.1 h.2.2
    ·rename_i k hs
     split
     ·rename_i e' xs hk
      split
      ·rename_i hee
       obtain rfl:=a6 hee
       exact fun h=>zi s x t e k g.new ti ei _ xs ys ht fW he hs hk rfl (rb hap h.1) g.gM h.2.1 h.2.2
      ·trivial
     ·rename_i e' xs hk
      split
      ·rename_i hee
       obtain rfl:=a6 hee
       exact fun h=>lU s x t e k g.new ti ei _ xs (lift ys) ht fW he hs hk rfl (.inl ⟨ys,rb hap h.1,rfl⟩) g.gM (by rw[l6];exact h.2.1) (by rw[l6];exact h.2.2)
      ·trivial
     ·trivial
    ·trivial
   ·rename_i ei he _
    exact Dz s x t e ti ei ht fW he
   ·trivial
  ·trivial
 ·trivial
theorem uj(t:TypeId)(x y:Operand):(pA E g dn t x y).Ok E.P ⟨dn,.store t x y,ty,pos,cP,gd⟩ g:=by
 unfold pA
 split
 ·trivial
 ·rename_i ti ht
  split
  ·rename_i k off hx
   split
   ·rename_i cs hk
    split
    ·rename_i h1 h2 h3 h4
     have h1:=gg h1
     have h3:=a6 h3
     rw[jz] at h1 h3
     rw[Bu _ _ _ (by omega)]
     exact Bh x y t k off ti cs _ ht hx hk rfl h1 h2 h3 h4
    ·trivial
   ·trivial
  ·rename_i k i off sz hx
   split
   ·rename_i e xs hk
    split
    ·rename_i ei cs he h2 h3 h4
     have h3:=a6 h3
     rw[jz] at h3
     exact fun h=>zb x y t k i off sz e ti ei xs _ cs ht he (nK h.1) hx hk rfl h.2.1 (gg h.2.2) h2 h3 h4
    ·rename_i ei he h2 h3 _
     have h3:=a6 h3
     rw[jz] at h3
     split
     ·trivial
     ·rename_i cs h4
      exact fun h=>A9 x y t k i off sz e ti ei xs _ cs ht he (nK h.1) hx hk rfl h.2.1 (gg h.2.2) h2 h3 h4
    ·trivial
   ·rename_i e xs hk
    split
    ·rename_i ei cs he h2 h3 h4
     have h3:=a6 h3
     rw[jz] at h3
     simp only[EO,Ep,LL]
     exact fun h=>rH x y t k i off sz e ti ei xs _ cs ht he (nK h.1) hx hk rfl h.2.1 (gg h.2.2.1) h2 h3 h4 h.2.2.2
    ·trivial
   ·trivial
  ·trivial
theorem IU(fn:Fn)(first cs:Array Operand):(Fa g d fn first.toList cs.toList).Ok E.P ⟨some d,.makeFunc fn first cs,ty,pos,cP,gd⟩ g:=by
 obtain⟨first⟩:=first
 obtain⟨cs⟩:=cs
 unfold Fa
 split
 ·rename_i f h
  simp only at h
  subst h
  rw[pF,tz]
  exact C7 _ _
 ·trivial
theorem EI(c:Call):(vN E g d c.callee c.args.toList c.argTypes.toList).Ok E.P ⟨some d,.call c,ty,pos,cP,gd⟩ g:=by
 obtain⟨callee,⟨args⟩,⟨tys⟩⟩:=c
 unfold vN
 split
 ·split
  ·rename_i h1 h2
   simp only at h1 h2
   subst h1 h2
   rename_i h
   simp only at h
   subst h
   exact GR _ _
  ·rename_i h1 h2
   simp only at h1 h2
   subst h1 h2
   rename_i h
   simp only at h
   subst h
   exact G0 _ _ _ _
  ·trivial
 ·trivial
theorem Ip(op:Op):(E3 E g d op).Ok E.P ⟨some d,op,ty,pos,cP,gd⟩ g:=by
 unfold E3
 split
 ·exact Bn _
 ·exact GD _
 ·unfold BJ
  split
  ·rename_i hc;exact FW _ _ _ true hc
  ·rename_i hc;exact FW _ _ _ false hc
  ·trivial
 ·unfold ym
  split
  ·rename_i ti ht;exact Jq _ g.new ti ht g.gM
  ·trivial
 ·unfold D7
  split
  ·rename_i hw;exact MB _ _ g.new g.gM hw
  ·trivial
 ·exact Es _ _
 ·exact Gb _ _ _
 ·exact C9 _ _ _
 ·exact Em _ _ _
 ·exact GY _ _ _
 ·exact uj _ _ _
 ·exact NG _ _ _ _ _
 ·exact Jo _ _ _
 ·exact DT _ _ _
 ·exact IU _ _ _
 ·exact B0 _ _
 ·exact F7 _ _ _
 ·exact E0 _ _ _
 ·exact GN _ _ _ _ _
 ·exact Ga _
 ·exact GA _ _
 ·exact EI _
 ·trivial
theorem Mt(o:Oper):(Mx E g o).Ok E.P o g:=by
 obtain⟨dst,op,ty,pos,cP,gd⟩:=o
 unfold Mx
 split
 ·rename_i d h
  obtain rfl:dst=some d:=h
  exact Ip op
 ·rename_i t x y h1 h2
  obtain rfl:dst=none:=h1
  obtain rfl:op= .store t x y:=h2
  exact uj _ _ _
 ·trivial
end
inductive lK where
 | on
 | off
def Nr:Bool→(lK→Prop)→(lK→Prop)→Prop
 | true,a,_=>a .on
 | false,_,b=>b .on
theorem NW(a b:lK→Prop):Nr true a b=a .on:=rfl
theorem Oh(a b:lK→Prop):Nr false a b=b .on:=rfl
theorem Ge{c:Bool}{a b:lK→Prop}(ht:c=true→a .on)(hf:c=false→b .on):Nr c a b:=by
 cases c
 ·exact hf rfl
 ·exact ht rfl
theorem pI{c:Bool}{a b:lK→Prop}(h:Nr c a b):(c=true∧a .on)∨(c=false∧b .on):=by
 cases c
 ·exact .inr ⟨rfl,h⟩
 ·exact .inl ⟨rfl,h⟩
def snoc:List Ky→Ky→List Ky
 | [],k=>[k]
 | a::as,k=>a::snoc as k
theorem FB:∀(l:List Ky)(k:Ky),snoc l k=l++[k]
 | [],_=>rfl
 | a::as,k=>by simp[snoc,FB as k]
def ji:Option (List Ky)→Ky→Option (List Ky)
 | none,_=>none
 | some l,k=>some (snoc l k)
def WM(P:Program)(ops:Array Oper):Option (List Ky)→List Oper→G→(G→Prop)→Prop
 | none,os,g,K=>WO P ops os g K
 | some pre,os,g,K=>WD P ops os pre g K
theorem wb{P:Program}{ops:Array Oper}{m:Option (List Ky)}{o:Oper}{os:List Oper}{g:G}{K:G→Prop}{R:Rd}{δ:Dl}(h:yQ P ops o g R δ)(hr:WM P ops (ji m (j9 R δ)) os (g.app δ) K):WM P ops m (o::os) g K:=by
 cases m with
 | none=>exact wh h hr
 | some pre=>
   simp only[ji,FB] at hr
   exact Lo h hr
def o3:Option Nat→Rd→Rd
 | none,R=>R
 | some t,R=>⟨t::R.s,R.p⟩
def rA(P:Program)(g g':G):Prop:=∀(X:Cx)(ν:Nat→Nm)(a:Act)(w:World),Sat P X ν g a w→∃ν',Sat P X ν' g' a w
theorem rA.trans{P:Program}{g g1 g2:G}(h:rA P g g1)(h':rA P g1 g2):rA P g g2:=fun X ν a w hs=>
 let ⟨ν1,h1⟩:=h X ν a w hs
 h' X ν1 a w h1
theorem Kz{P:Program}{ops:Array Oper}{os:List Oper}{g g':G}{K:G→Prop}(hw:rA P g g')(h:WO P ops os g' K):WO P ops os g K:=fun i hi X ν a w Q hs hn=>
 let ⟨ν',hs'⟩:=hw X ν a w hs
 h i hi X ν' a w Q hs' hn
def oB(E:Env)(m:Option (List Ky))(gs:Option Nat)(o:Oper)(g:G)(rest:lK→Option (List Ky)→G→Prop):Prop:=
 (∃R δ,gL E.P o g R δ∧rest .on (ji m (j9 (o3 gs R) δ)) (g.app δ)) ∨
 (m=none∧gs=none∧∃g',rA E.P g g'∧∃R δ,gL E.P o g' R δ∧rest .on none (g'.app δ))
theorem mC{E:Env}{m:Option (List Ky)}{gs:Option Nat}{o:Oper}{g:G}{rest:lK→Option (List Ky)→G→Prop}{R:Rd}{δ:Dl}(h:gL E.P o g R δ)(hr:rest .on (ji m (j9 (o3 gs R) δ)) (g.app δ)):oB E m gs o g rest:=.inl ⟨R,δ,h,hr⟩
def zR(E:Env)(m:Option (List Ky))(gs:Option Nat)(o:Oper)(g:G)(rest:lK→Option (List Ky)→G→Prop):qS→Prop
 | .go R δ=>rest .on (ji m (j9 (o3 gs R) δ)) (g.app δ)
 | .jx φ R δ=>φ∧rest .on (ji m (j9 (o3 gs R) δ)) (g.app δ)
 | .stop=>oB E m gs o g rest
theorem CX{E:Env}{m:Option (List Ky)}{gs:Option Nat}{o:Oper}{g:G}{rest:lK→Option (List Ky)→G→Prop}(h:zR E m gs o g rest (Mx E g o)):oB E m gs o g rest:=by
 have hk:=Mt (E:=E) (g:=g) o
 generalize Mx E g o=s at h hk
 cases s with
 | go R δ=>exact .inl ⟨R,δ,hk,h⟩
 | jx φ R δ=>exact .inl ⟨R,δ,hk h.1,h.2⟩
 | stop=>exact h
def MA(E:Env)(m:Option (List Ky))(t:Nat)(o:Oper)(g:G)(rest:lK→Option (List Ky)→G→Prop):lK→Prop
 | .on=>zR E m (some t) o g rest (Mx E g o)
 | .off=>False
def IC(m:Option (List Ky))(t:Nat)(g:G)(rest:lK→Option (List Ky)→G→Prop):Option Nat→lK→Prop
 | some d,.on=>rest .on (ji m ⟨[t],[],[d],[]⟩) (g.app ⟨some (d,.undef),[]⟩)
 | _,_=>False
def lO:PV→Bool→(lK→Prop)→(lK→Prop)→Prop
 | .d (.val (.bool c)),true,yes,no=>Nr c yes no
 | .d (.val (.bool c)),false,yes,no=>Nr c no yes
 | .undef,_,_,no=>no .on
 | _,_,_,_=>False
def NK:List Oper→Nat→Option Nat
 | [],_=>none
 | o::_,0=>o.dst
 | _::os,n+1=>NK os n
theorem Hp:∀(l:List Oper)(n:Nat),NK l n=(l[n]?).bind (·.dst)
 | [],n=>by simp[NK]
 | o::_,0=>rfl
 | _::os,n+1=>by simp[NK,Hp os n]
def MP(all:List Oper)(g:G)(K:lK→G→Prop):Option (List Ky)→Prop
 | none=>K .on g
 | some pre=>indep all pre=true∧K .on g
def KU(E:Env)(all:List Oper)(m:Option (List Ky))(o:Oper)(g:G)(rest:lK→Option (List Ky)→G→Prop):Option (Nat×Bool)→Prop
 | none=>zR E m none o g rest (Mx E g o)
 | some (j,b)=>match NK all j with
   | none=>False
   | some t=>lO (nth g.sl t) b (MA E m t o g rest) (IC m t g rest o.dst)
def run(E:Env)(all:List Oper)(K:lK→G→Prop):List Oper→lK→Option (List Ky)→G→Prop
 | [],.on,m,g=>MP all g K m
 | o::os,.on,m,g=>KU E all m o g (run E all K os) o.guard
 | [],.off,_,_=>False
 | _::_,.off,_,_=>False
theorem EL{E:Env}{ops:Array Oper}{K:lK→G→Prop}:∀(os:List Oper)(m:Option (List Ky))(g:G),run E ops.toList K os .on m g→WM E.P ops m os g (K .on)
 | [],none,g,h=>Jn h
 | [],some pre,g,h=>MW h.1 h.2
 | o::os,m,g,h=>by
   have ih:=EL (E:=E) (ops:=ops) (K:=K) os
   simp only[run] at h
   cases hg:o.guard with
   | none=>
     rw[hg] at h
     rcases CX h with⟨R,δ,h1,h2⟩|⟨rfl,_,g',hw,R,δ,h1,h2⟩
     ·exact wb (yQ.plain hg h1) (ih _ _ h2)
     ·exact Kz hw (wh (yQ.plain hg h1) (ih _ _ h2))
   | some jb=>
     obtain⟨j,b⟩:=jb
     rw[hg] at h
     simp only[KU] at h
     split at h
     ·exact h.elim
     ·rename_i t ht
      have hj:vc ops j=some t:=by
       rw[Hp] at ht
       unfold vc
       rw[←ht]
       simp
      have hyes:∀c,nth g.sl t= .d (.val (.bool c))→c=b→MA E m t o g (run E ops.toList K os) .on→WM E.P ops m (o::os) g (K .on):=by
       intro c hc Pf hd
       subst Pf
       rcases CX hd with⟨R,δ,h1,h2⟩|⟨_,h0,_⟩
       rotate_left
       ·cases h0
       exact wb (yQ.run hg hj hc h1) (ih _ _ h2)
      have hno:∀c,nth g.sl t= .d (.val (.bool c))→c≠b→IC m t g (run E ops.toList K os) o.dst .on→WM E.P ops m (o::os) g (K .on):=by
       intro c hc Pf hd
       cases hdst:o.dst with
       | none=>rw[hdst] at hd;exact hd.elim
       | some d=>
         rw[hdst] at hd
         exact wb (yQ.skip hg hj hc Pf hdst) (ih _ _ hd)
      cases hv:nth g.sl t<;>rw[hv] at h<;>first
       | (simp only[lO] at h;done)
       | skip
      ·simp only[lO] at h
       cases hdst:o.dst with
       | none=>rw[hdst] at h;exact h.elim
       | some d=>
         rw[hdst] at h
         exact wb (yQ.Og hg hj hv hdst) (ih _ _ h)
      ·rename_i x
       cases x with
       | str s=>simp only[lO] at h
       | b7 s=>simp only[lO] at h
       | val v=>
         cases v<;>first
          | (simp only[lO] at h;done)
          | skip
         rename_i c
         cases b with
         | true=>
           simp only[lO] at h
           rcases pI h with⟨h1,h2⟩|⟨h1,h2⟩
           ·exact hyes c hv h1 h2
           ·exact hno c hv (by rw[h1];simp) h2
         | false=>
           simp only[lO] at h
           rcases pI h with⟨h1,h2⟩|⟨h1,h2⟩
           ·exact hno c hv (by rw[h1];simp) h2
           ·exact hyes c hv h1 h2
def Fs(K:lK→G→Prop)(Q:lK→Ex→G→Prop):lK→Ex→G→Prop
 | .on,.normal,g=>K .on g
 | .on,.exit id,g=>Q .on (.exit id) g
 | .on,.ret,g=>Q .on .ret g
 | .off,_,_=>False
def xk(id:Nat)(Q:lK→Ex→G→Prop):lK→Ex→G→Prop
 | .on,.normal,g=>Q .on .normal g
 | .on,.exit i,g=>match eU i id with|true=>Q .on .normal g|false=>Q .on (.exit i) g
 | .on,.ret,g=>Q .on .ret g
 | .off,_,_=>False
def Hi(Q:lK→Ex→G→Prop):lK→G→Prop
 | .on,g=>Q .on .normal g
 | .off,_=>False
def I9:PV→(lK→Prop)→(lK→Prop)→Prop
 | .d (.val (.bool b)),x,y=>Nr b x y
 | _,_,_=>False
def M0(E:Env)(ops:List Oper)(Q:lK→Ex→G→Prop)(g:G):Bool→Prop
 | false=>run E ops (Hi Q) ops .on none g
 | true=>run E ops (Hi Q) ops .on (some []) g
def BM(E:Env)(n0:Nat):Code→lK→G→(lK→Ex→G→Prop)→Prop
 | .skip,.on,g,Q=>Q .on .normal g
 | .exit id,.on,g,Q=>Q .on (.exit id) g
 | .ret,.on,g,Q=>Q .on .ret g
 | .seq a b,.on,g,Q=>BM E n0 a .on g (Fs (fun tok g'=>BM E n0 b tok g' Q) Q)
 | .cond c x y,.on,g,Q=>I9 (g.ev c) (fun tok=>BM E n0 x tok g Q) (fun tok=>BM E n0 y tok g Q)
 | .block id c,.on,g,Q=>BM E n0 c .on g (xk id Q)
 | .region _ ops dr,.on,g,Q=>M0 E ops.toList Q g dr
 | .loop c,.on,g,Q=>W E.P n0 (.loop c) g (Q .on)
 | _,_,_,_=>False
theorem EG{E:Env}(hm:E.P.follows .mixedOrders=true){n0:Nat}:∀(c:Code)(g:G)(Q:lK→Ex→G→Prop),BM E n0 c .on g Q→W E.P n0 c g (Q .on):=by
 intro c
 induction c with
 | skip=>intro g Q h;exact Mv h
 | exit id=>intro g Q h;exact Mu h
 | ret=>intro g Q h;exact N6 h
 | seq a b iha ihb=>
   intro g Q h
   have:=iha g _ h
   refine iz (fun X ν ac w hp hs=>wp_mono (this X ν ac w hp hs) fun e a' w' hl=>?_)
   cases e with
   | normal=>obtain⟨g',ν',h1,h2⟩:=hl;exact⟨g',ν',ihb g' Q h1,h2⟩
   | exit id=>exact hl
   | ret=>exact hl
   | goto l=>exact hl
   | panic c=>exact hl
   | outgrown=>exact hl
 | cond c x y ihx ihy=>
   intro g Q h
   simp only[BM] at h
   unfold I9 at h
   split at h
   ·rename_i b hb
    refine MD hb (fun hc=>?_) (fun hc=>?_)
    ·rcases pI h with⟨h1,h2⟩|⟨h1,h2⟩
     ·exact ihx g Q h2
     ·rw[hc] at h1;cases h1
    ·rcases pI h with⟨h1,h2⟩|⟨h1,h2⟩
     ·rw[hc] at h1;cases h1
     ·exact ihy g Q h2
   ·exact h.elim
 | block id c ih=>
   intro g Q h
   have:=ih g _ h
   refine Kv (fun X ν ac w hp hs=>wp_mono (this X ν ac w hp hs) fun e a' w' hl=>?_)
   cases e with
   | normal=>exact hl
   | exit i=>
     obtain⟨g',ν',h1,h2⟩:=hl
     refine⟨g',ν',?_,h2⟩
     simp only[xk] at h1
     simp only[DK]
     split at h1
     ·rename_i he
      rw[if_pos (a6 he)]
      exact h1
     ·rename_i he
      rw[if_neg (fun e=>by subst e;simp at he)]
      exact h1
   | ret=>exact hl
   | goto l=>exact hl
   | panic c=>exact hl
   | outgrown=>exact hl
 | region id ops dr=>
   intro g Q h
   simp only[BM] at h
   cases dr with
   | false=>exact CL (EL ops.toList none g h)
   | true=>exact KI hm (EL ops.toList (some []) g h)
 | loop c _=>intro g Q h;exact h
 | _=>intro g Q h;simp[BM] at h
end Go.Eng
