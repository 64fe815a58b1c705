/-
  The symbolic layer, sixteenth text: a state seen with less, its owned places under other numbers, a grown slice seen as data.
-/
import Derived.Test.YtabembjmeobhoaaGreatKCB
import Derived.Laws.BytesArg
import Derived.Laws.Slices
set_option linter.unusedVariables false
set_option linter.unusedSimpArgs false
open Array renaming length_toList→fx
open Bool renaming and_eq_true→ai,false_or→mg
open Int renaming toNat_natCast→bn
open List renaming getElem?_eq_getElem→af,drop_of_length_le→al,take_of_length_le→ao,mem_cons→ax,mem_append→aP,map_cons→aQ,length_append→aR,length_cons→aW,getElem?_append_left→bf,append_assoc→bj,append_nil→bm,getElem?_append_right→bw,cons_append→bA,nil_append→bC,mem_map→bF,eq_nil_of_length_eq_zero→bG,take_append_of_le_length→bX,getD→ct,mem_of_getElem?→cW,getElem?_take→c9,nodup_append→dt,map_nil→dB,getElem?_drop→dD,length_map→dF,take_succ_cons→dY,flatten_cons→eH,size_toArray→eJ,length_drop→eV,drop→fC,mem_flatMap→fR,getElem?_map→hU,take_append_drop→iu,map_toArray→iB,set_cons_zero→iC,length_set→jn,map_congr_left→jt,getElem?_set→kC,drop_drop→m0,take→nj,set_cons_succ→n7
open Nat renaming le_refl→aJ,zero_le→bc,eq_of_beq_eq_true→bK,mul_le_mul_right→bQ,lt_or_ge→bV,add_mul→cY,zero_add→di,le_trans→eO,beq→jk,le_mul_of_pos_right→oq,mul_le_mul→o3
open Option renaming isSome_iff_exists→cM,map_none→dG
namespace Go.Eng
open Go.RowKit
theorem wS{w:World}{ok ok':Nat→Prop}{e:TypeId}{sz:Nat}{v:Value}{xs:List (List D)}{us:List (List Value)}(ho:w.ownsRow 0 e sz v xs.length us.flatten)(hr:cC w ok sz xs us)(hB:xs.length≤LB)
 (e7:∀b,wL v=some b→ok' b) (hf:∀b,ok b→b<w.heap.size→ok' b∧w.heap[b]?=w.heap[b]?):ij w ok' (.dC xs) v:=by
 rcases ho.2 with⟨h1,h2⟩|⟨b,cap,cur,h1,_,h2,h3,h4,h5,h6⟩
 ·obtain rfl:=bG h2
  rw[h1];exact .nil
 ·subst h1
  have hr':=hr.frame hf (aJ _)
  refine .dC xs us b 0 cap sz (e7 b rfl) (qh h2) h3 h4 hB hr'.len hr'.hx hr'.hu (fun j u hu=>?_) hr'.hr
  have hj:j<us.flatten.length:=by
   rcases bV j us.flatten.length with h' | h'
   ·exact h'
   ·rw[List.getElem?_eq_none h'] at hu;cases hu
  rw[←h6] at hu
  have hu2:cur.toList[j]?=some u:=by
   rw[c9] at hu
   split at hu
   ·exact hu
   ·cases hu
  have hcur:cur[j]?=some u:=by simpa using hu2
  simp[World.cell?,h2,hcur]
mutual
def T.Gl:T→Option D
 | .leaf d=>some d
 | .ref _=>none
 | .own _ xs=>match cZ xs with|some ys=>some (.dC ys)|none=>none
def gm:List T→Option (List D)
 | []=>some []
 | t::ts=>match t.Gl,gm ts with|some d,some ds=>some (d::ds)|_,_=>none
def cZ:List (List T)→Option (List (List D))
 | []=>some []
 | x::xs=>match gm x,cZ xs with|some y,some ys=>some (y::ys)|_,_=>none
end
def Pu:Option En→D→Prop
 | some (.acc _ xs),y=>y= .dC xs
 | some (.fw _ xs),y=>∃ys,cZ xs=some ys∧y= .dC ys
 | _,_=>False
section
variable{P:Program}{w:World}{ok ok':Nat→Prop}{ν ν':Nat→Nm}{st st':Nat→Option En}
mutual
theorem kG.data(hf:∀b,ok b→b<w.heap.size→ok' b∧w.heap[b]?=w.heap[b]?):∀(t:T)(v:Value)(F:List Nat)(d:D),t.Gl=some d→kG P w ok ν st t v F→(∀b∈F,ok' b)→ij w ok' d v
 | .leaf x,v,F,d,hd,h,_=>by
   simp only[T.Gl,Option.some.injEq] at hd
   simp only[kG] at h
   rw[←hd]
   exact h.1.frame hf (aJ _)
 | .ref j,v,F,d,hd,_,_=>by simp[T.Gl] at hd
 | .own e xs,v,F,d,hd,h,hF=>by
   simp only[T.Gl] at hd
   split at hd
   ·rename_i ys hys
    obtain rfl:=Option.some.inj hd
    simp only[kG] at h
    obtain⟨us,F1,h1,h2,h3,h4,rfl⟩:=h
    obtain⟨k1,k2,k3⟩:=bx.data hf xs us F1 ys hys h3 (fun b hb=>hF b (aP.2 (.inr hb)))
    refine wS (ok:=ok') (by rw[←k2];exact h1) ⟨k1,fun i x hx=>?_,h2,fun i j x u dd vv a1 a2 a3 a4=>(k3 i x u a1 a2).2 j dd vv a3 a4⟩ (by rw[←k2];exact h4) (fun b hb=>hF b (aP.2 (.inl (CL.2 hb)))) (fun b hb _=>⟨hb,rfl⟩)
    have hi:i<us.length:=by
     rw[k1]
     exact(List.getElem?_eq_some_iff.1 hx).1
    rw[(k3 i x us[i] hx (af hi)).1]
    exact h2 i _ (af hi)
   ·cases hd
theorem a8.data(hf:∀b,ok b→b<w.heap.size→ok' b∧w.heap[b]?=w.heap[b]?):∀(ts:List T)(vs:List Value)(F:List Nat)(ds:List D),gm ts=some ds→a8 P w ok ν st ts vs F→(∀b∈F,ok' b)→ds.length=vs.length∧∀(j:Nat)(d:D)(v:Value),ds[j]?=some d→vs[j]?=some v→ij w ok' d v
 | [],[],F,ds,hd,_,_=>by
   simp only[gm,Option.some.injEq] at hd
   rw[←hd]
   simp
 | [],_::_,F,ds,_,h,_=>by simp[a8] at h
 | _::_,[],F,ds,_,h,_=>by simp[a8] at h
 | t::ts,v::vs,F,ds,hd,h,hF=>by
   simp only[gm] at hd
   split at hd
   ·rename_i d' ds' e1 e2
    obtain rfl:=Option.some.inj hd
    simp only[a8] at h
    obtain⟨F1,F2,h1,h2,rfl⟩:=h
    have k1:=kG.data hf t v F1 d' e1 h1 fun b hb=>hF b (aP.2 (.inl hb))
    obtain⟨k2,k3⟩:=a8.data hf ts vs F2 ds' e2 h2 fun b hb=>hF b (aP.2 (.inr hb))
    refine⟨by simp[k2],fun j d u a1 a2=>?_⟩
    cases j with
    | zero=>
      obtain rfl:d'=d:=by simpa using a1
      obtain rfl:v=u:=by simpa using a2
      exact k1
    | succ j=>exact k3 j d u (by simpa using a1) (by simpa using a2)
   ·cases hd
theorem bx.data(hf:∀b,ok b→b<w.heap.size→ok' b∧w.heap[b]?=w.heap[b]?):∀(xs:List (List T))(us:List (List Value))(F:List Nat)(ys:List (List D)),cZ xs=some ys→bx P w ok ν st xs us F→(∀b∈F,ok' b)→us.length=ys.length∧xs.length=ys.length∧∀(i:Nat)(x:List D)(u:List Value),ys[i]?=some x→us[i]?=some u→x.length=u.length∧∀(j:Nat)(d:D)(v:Value),x[j]?=some d→u[j]?=some v→ij w ok' d v
 | [],[],F,ys,hd,_,_=>by
   simp only[cZ,Option.some.injEq] at hd
   rw[←hd]
   simp
 | [],_::_,F,ds,_,h,_=>by simp[bx] at h
 | _::_,[],F,ds,_,h,_=>by simp[bx] at h
 | x::xs,u::us,F,ys,hd,h,hF=>by
   simp only[cZ] at hd
   split at hd
   ·rename_i y' ys' e1 e2
    obtain rfl:=Option.some.inj hd
    simp only[bx] at h
    obtain⟨F1,F2,h1,h2,rfl⟩:=h
    have k1:=a8.data hf x u F1 y' e1 h1 fun b hb=>hF b (aP.2 (.inl hb))
    obtain⟨k2,k3,k4⟩:=bx.data hf xs us F2 ys' e2 h2 fun b hb=>hF b (aP.2 (.inr hb))
    refine⟨by simp[k2],by simp[k3],fun i z q a1 a2=>?_⟩
    cases i with
    | zero=>
      obtain rfl:y'=z:=by simpa using a1
      obtain rfl:u=q:=by simpa using a2
      exact k1
    | succ i=>exact k4 i z q (by simpa using a1) (by simpa using a2)
   ·cases hd
end
mutual
theorem kG.still:∀(t:T)(v:Value)(F:List Nat),t.Gl.isSome=true→kG P w ok ν st t v F→kG P w ok ν' st' t v F
 | .leaf x,v,F,_,h=>by simpa only[kG] using h
 | .ref j,v,F,hd,_=>by simp[T.Gl] at hd
 | .own e xs,v,F,hd,h=>by
   simp only[T.Gl] at hd
   simp only[kG] at h⊢
   obtain⟨us,F1,h1,h2,h3,h4⟩:=h
   refine⟨us,F1,h1,h2,bx.still xs us F1 ?_ h3,h4⟩
   split at hd
   ·rename_i e;rw[e];rfl
   ·cases hd
theorem a8.still:∀(ts:List T)(vs:List Value)(F:List Nat),(gm ts).isSome=true→a8 P w ok ν st ts vs F→a8 P w ok ν' st' ts vs F
 | [],[],F,_,h=>by simpa only[a8] using h
 | [],_::_,F,_,h=>by simp[a8] at h
 | _::_,[],F,_,h=>by simp[a8] at h
 | t::ts,v::vs,F,hd,h=>by
   simp only[gm] at hd
   simp only[a8] at h⊢
   obtain⟨F1,F2,h1,h2,h3⟩:=h
   split at hd
   ·rename_i e1 e2
    exact⟨F1,F2,kG.still t v F1 (by rw[e1];rfl) h1,a8.still ts vs F2 (by rw[e2];rfl) h2,h3⟩
   ·cases hd
theorem bx.still:∀(xs:List (List T))(us:List (List Value))(F:List Nat),(cZ xs).isSome=true→bx P w ok ν st xs us F→bx P w ok ν' st' xs us F
 | [],[],F,_,h=>by simpa only[bx] using h
 | [],_::_,F,_,h=>by simp[bx] at h
 | _::_,[],F,_,h=>by simp[bx] at h
 | x::xs,u::us,F,hd,h=>by
   simp only[cZ] at hd
   simp only[bx] at h⊢
   obtain⟨F1,F2,h1,h2,h3⟩:=h
   split at hd
   ·rename_i e1 e2
    exact⟨F1,F2,a8.still x u F1 (by rw[e1];rfl) h1,bx.still xs us F2 (by rw[e2];rfl) h2,h3⟩
   ·cases hd
end
def lift(xs:List (List D)):List (List T):=xs.map fun x=>x.map T.leaf
theorem zd:∀(x:List D),gm (x.map T.leaf)=some x
 | []=>rfl
 | d::x=>by simp[gm,T.Gl,zd x]
theorem nh:∀(xs:List (List D)),cZ (lift xs)=some xs
 | []=>rfl
 | x::xs=>by
   have:=nh xs
   simp only[lift] at this
   simp[lift,cZ,zd,this]
theorem a8.Cq:∀{ds:List D}{vs:List Value},vs.length=ds.length→(∀(j:Nat)(d:D)(v:Value),ds[j]?=some d→vs[j]?=some v→ij w ok d v)→a8 P w ok ν st (ds.map T.leaf) vs []
 | [],[],_,_=>by simp[a8]
 | d::ds,v::vs,hl,h=>by
   simp only[aQ,a8,kG]
   exact⟨[],[],⟨h 0 d v rfl rfl,rfl⟩,a8.Cq (by simpa using hl) fun j d v a1 a2=>h (j+1) d v (by simpa using a1) (by simpa using a2),rfl⟩
 | [],_::_,hl,_=>by simp at hl
 | _::_,[],hl,_=>by simp at hl
theorem bx.Cq{sz:Nat}:∀{xs:List (List D)}{us:List (List Value)},cC w ok sz xs us→bx P w ok ν st (lift xs) us []
 | [],[],_=>by simp[lift,bx]
 | x::xs,u::us,h=>by
   simp only[lift,aQ,bx]
   refine⟨[],[],a8.Cq ?_ fun j d v a1 a2=>h.hr 0 j x u d v rfl rfl a1 a2,bx.Cq (sz:=sz) (xs:=xs) ⟨by simpa using h.len,fun i x hx=>h.hx (i+1) x (by simpa using hx),fun i u hu=>h.hu (i+1) u (by simpa using hu),fun i j x u d v a1 a2 a3 a4=>h.hr (i+1) j x u d v (by simpa using a1) (by simpa using a2) a3 a4⟩,rfl⟩
   rw[h.hu 0 u rfl,h.hx 0 x rfl]
 | [],_::_,h=>by have:=h.len;simp at this
 | _::_,[],h=>by have:=h.len;simp at this
theorem rQ(xs:List (List D)):(lift xs).length=xs.length:=by simp[lift]
end
def gX:List (Option Nat)→Nat→Option (Option Nat)
 | [],_=>none
 | a::_,0=>some a
 | _::as,n+1=>gX as n
def EA(k:Nat):List (Option Nat)→Bool
 | []=>false
 | some j::r=>k == j||EA k r
 | none::r=>EA k r
def abp:List (Option Nat)→Bool
 | []=>true
 | some j::r=>!EA j r&&abp r
 | none::r=>abp r
mutual
def wk(g:G)(m:List (Option Nat)):PV→PV→Prop
 | p,.any=>True
 | .b6,.b6=>True
 | .undef,.undef=>True
 | .b6,.d y=>y= .dC []
 | .b6,.acc k'=>gX m k'=some none
 | .d x,.d y=>x=y
 | .acc k,.d y=>Pu (g.at k) y∧EA k m=false
 | .acc k,.acc k'=>gX m k'=some (some k)
 | .ptr k off,.ptr k' off'=>gX m k'=some (some k)∧off=off'
 | .gM k i off sz,.gM k' i' off' sz'=>gX m k'=some (some k)∧i=i'∧off=off'∧sz=sz'
 | .gy xs i off,.gy ys j off'=>xs=ys∧i=j∧off=off'
 | .agg cs,.agg ds=>AQ g m cs ds
 | .gV cs,.gV ds=>AQ g m cs ds
 | .fn f cs,.fn f' ds=>f=f'∧AQ g m cs ds
 | _,_=>False
def AQ(g:G)(m:List (Option Nat)):List PV→List PV→Prop
 | [],[]=>True
 | p::ps,q::qs=>wk g m p q∧AQ g m ps qs
 | _,_=>False
end
def Cw(g:G)(m:List (Option Nat)):En→En→Prop
 | _,.dead=>True
 | .box cs,.box ds=>AQ g m cs ds
 | .acc e xs,.acc e' ys=>e=e'∧xs=ys
 | .acc e xs,.fw e' ys=>e=e'∧lift xs=ys
 | .fw e xs,.fw e' ys=>e=e'∧xs=ys∧(cZ xs).isSome=true
 | .map sR,.map kvs'=>sR=kvs'
 | _,_=>False
def ml(g:G)(m:List (Option Nat)):List (Option Nat)→List (Option En)→Prop
 | [],[]=>True
 | some k::ks,some e'::es=>(∃e,g.at k=some e∧Cw g m e e')∧ml g m ks es
 | none::ks,some (.acc _ xs)::es=>xs=[]∧ml g m ks es
 | none::ks,some (.fw _ xs)::es=>xs=[]∧ml g m ks es
 | _,_=>False
def keeps:Nat→Nat→List (Option Nat)→Bool
 | 0,_,_=>true
 | n+1,i,some j::r=>i == j&&keeps n (i+1) r
 | _,_,_=>false
def PS(k:Nat):List (Option Nat)→List (Option En)→Bool
 | some j::r,some e::es=>(e.live&&k == j)||PS k r es
 | _::r,_::es=>PS k r es
 | _,_=>false
def Dq:List (Option Nat)→List (Option En)→Bool
 | some j::r,some e::es=>(!e.live|| !PS j r es)&&Dq r es
 | _::r,_::es=>Dq r es
 | _,_=>true
structure Wk(n0:Nat)(m:List (Option Nat))(g g':G):Prop where
 s:AQ g m g.sl g'.sl
 p:ml g m m g'.st
 XE:Dq m g'.st=true
 keep:keeps n0 0 m=true
theorem Kl:∀{m:List (Option Nat)}{i k:Nat},gX m i=some (some k)→EA k m=true
 | [],_,_,h=>by simp[gX] at h
 | a::as,0,k,h=>by
   simp only[gX,Option.some.injEq] at h
   subst h
   simp[EA]
 | a::as,n+1,k,h=>by
   simp only[gX] at h
   have:=Kl h
   cases a<;>simp[EA,this]
theorem L8:∀{m:List (Option Nat)}{es:List (Option En)}{i k:Nat}{e:En},gX m i=some (some k)→da es i=some e→e.live=true→PS k m es=true
 | [],_,_,_,_,h,_,_=>by simp[gX] at h
 | _::_,[],i,_,_,_,h,_=>by cases i<;>simp[da] at h
 | a::as,o::os,0,k,e,h,h2,h3=>by
   simp only[gX,Option.some.injEq] at h
   simp only[da] at h2
   subst h h2
   simp[PS,h3]
 | a::as,o::os,i+1,k,e,h,h2,h3=>by
   simp only[gX] at h
   simp only[da] at h2
   have:=L8 h h2 h3
   cases a<;>cases o<;>simp[PS,this]
theorem JB:∀{m:List (Option Nat)}{es:List (Option En)},Dq m es=true→∀{i j k:Nat}{e e':En},gX m i=some (some k)→gX m j=some (some k)→da es i=some e→da es j=some e'→e.live=true→e'.live=true→i=j
 | [],_,_,_,_,_,_,_,h,_,_,_,_,_=>by simp[gX] at h
 | _::_,[],_,i,_,_,_,_,_,_,h,_,_,_=>by cases i<;>simp[da] at h
 | a::as,o::os,hn,0,0,_,_,_,_,_,_,_,_,_=>rfl
 | a::as,o::os,hn,0,j+1,k,e,e',h1,h2,g1,g2,l1,l2=>by
   simp only[gX,Option.some.injEq] at h1 h2
   simp only[da] at g1 g2
   subst h1 g1
   have:=L8 h2 g2 l2
   simp[Dq,this,l1] at hn
 | a::as,o::os,hn,i+1,0,k,e,e',h1,h2,g1,g2,l1,l2=>by
   simp only[gX,Option.some.injEq] at h1 h2
   simp only[da] at g1 g2
   subst h2 g2
   have:=L8 h1 g1 l1
   simp[Dq,this,l2] at hn
 | a::as,o::os,hn,i+1,j+1,k,e,e',h1,h2,g1,g2,l1,l2=>by
   simp only[gX] at h1 h2
   simp only[da] at g1 g2
   have hn':Dq as os=true:=by
    cases a<;>cases o<;>simp only[Dq,ai] at hn<;>first|exact hn|exact hn.2
   rw[JB hn' h1 h2 g1 g2 l1 l2]
theorem Hg:∀{n i:Nat}{m:List (Option Nat)},keeps n i m=true→∀j,j<n→gX m j=some (some (i+j))
 | 0,_,_,_,j,h=>by omega
 | n+1,i,[],h,_,_=>by simp[keeps] at h
 | n+1,i,none::r,h,_,_=>by simp[keeps] at h
 | n+1,i,some a::r,h,j,hj=>by
   simp only[keeps,ai,beq_iff_eq] at h
   obtain⟨rfl,h2⟩:=h
   cases j with
   | zero=>rfl
   | succ j=>
     simp only[gX]
     rw[Hg h2 j (by omega)]
     congr 2;omega
theorem Fe{g:G}{m:List (Option Nat)}:∀{ks:List (Option Nat)}{es:List (Option En)},ml g m ks es→∀(i:Nat)(e':En),da es i=some e' →
 (∃k e,gX ks i=some (some k)∧g.at k=some e∧Cw g m e e')∨(gX ks i=some none∧∃t,e'= .acc t []∨e'= .fw t [])
 | [],[],_,i,e',h=>by cases i<;>simp[da] at h
 | some k::ks,some e::es,hw,0,e',h=>by
   simp only[ml] at hw
   obtain⟨⟨e0,h1,h2⟩,_⟩:=hw
   obtain rfl:e=e':=by simpa[da] using h
   exact .inl ⟨k,e0,rfl,h1,h2⟩
 | some k::ks,some e::es,hw,i+1,e',h=>by
   simp only[ml] at hw
   simp only[gX]
   exact Fe hw.2 i e' (by simpa[da] using h)
 | none::ks,some (.acc t xs)::es,hw,0,e',h=>by
   simp only[ml] at hw
   obtain rfl:En.acc t xs=e':=by simpa[da] using h
   exact .inr ⟨rfl,t,.inl (by rw[hw.1])⟩
 | none::ks,some (.acc t xs)::es,hw,i+1,e',h=>by
   simp only[ml] at hw
   simp only[gX]
   exact Fe hw.2 i e' (by simpa[da] using h)
 | none::ks,some (.fw t xs)::es,hw,0,e',h=>by
   simp only[ml] at hw
   obtain rfl:En.fw t xs=e':=by simpa[da] using h
   exact .inr ⟨rfl,t,.inr (by rw[hw.1])⟩
 | none::ks,some (.fw t xs)::es,hw,i+1,e',h=>by
   simp only[ml] at hw
   simp only[gX]
   exact Fe hw.2 i e' (by simpa[da] using h)
 | none::ks,some (.box _)::es,hw,_,_,_=>by simp[ml] at hw
 | none::ks,some .dead::es,hw,_,_,_=>by simp[ml] at hw
 | none::ks,some (.map _)::es,hw,_,_,_=>by simp[ml] at hw
 | some k::ks,none::es,hw,_,_,_=>by simp[ml] at hw
 | none::ks,none::es,hw,_,_,_=>by simp[ml] at hw
 | some k::ks,[],hw,_,_,_=>by simp[ml] at hw
 | none::ks,[],hw,_,_,_=>by simp[ml] at hw
 | [],_::_,hw,_,_,_=>by simp[ml] at hw
theorem yN{g:G}{m:List (Option Nat)}:∀{ks:List (Option Nat)}{es:List (Option En)},ml g m ks es→∀(i:Nat)(x:Option Nat),gX ks i=some x→(da es i).isSome=true
 | [],[],_,i,x,h=>by simp[gX] at h
 | some k::ks,some e::es,hw,0,x,h=>rfl
 | some k::ks,some e::es,hw,i+1,x,h=>by
   simp only[ml] at hw
   simp only[da]
   exact yN hw.2 i x (by simpa[gX] using h)
 | none::ks,some (.acc t xs)::es,hw,0,x,h=>rfl
 | none::ks,some (.acc t xs)::es,hw,i+1,x,h=>by
   simp only[ml] at hw
   simp only[da]
   exact yN hw.2 i x (by simpa[gX] using h)
 | none::ks,some (.fw t xs)::es,hw,0,x,h=>rfl
 | none::ks,some (.fw t xs)::es,hw,i+1,x,h=>by
   simp only[ml] at hw
   simp only[da]
   exact yN hw.2 i x (by simpa[gX] using h)
 | none::ks,some (.box _)::es,hw,_,_,_=>by simp[ml] at hw
 | none::ks,some .dead::es,hw,_,_,_=>by simp[ml] at hw
 | none::ks,some (.map _)::es,hw,_,_,_=>by simp[ml] at hw
 | some k::ks,none::es,hw,_,_,_=>by simp[ml] at hw
 | none::ks,none::es,hw,_,_,_=>by simp[ml] at hw
 | some k::ks,[],hw,_,_,_=>by simp[ml] at hw
 | none::ks,[],hw,_,_,_=>by simp[ml] at hw
 | [],_::_,hw,_,_,_=>by simp[ml] at hw
def SB(ν:Nat→Nm)(m:List (Option Nat))(i:Nat):Nm:=
 match gX m i with
 | some (some k)=>ν k
 | _=>⟨.slice none 0 0,[]⟩
theorem kR{ν:Nat→Nm}{m:List (Option Nat)}{i k:Nat}(h:gX m i=some (some k)):SB ν m i=ν k:=by simp[SB,h]
theorem nG{ν:Nat→Nm}{m:List (Option Nat)}{i:Nat}(h:gX m i=some none):SB ν m i=⟨.slice none 0 0,[]⟩:=by simp[SB,h]
section
variable{w:World}{ok ok':Nat→Prop}{ν:Nat→Nm}{g:G}{m:List (Option Nat)}{st':Nat→Option En}
mutual
theorem aF.wk(hf:∀b,ok b→b<w.heap.size→ok' b∧w.heap[b]?=w.heap[b]?)(jC:∀i x,gX m i=some x→(st' i).isSome=true)
 (hacc:∀k y,Pu (g.at k) y→EA k m=false→ij w ok' y (ν k).v) :
 ∀(p q:PV)(v:Value),wk g m p q→aF w ok ν g.at p v→aF w ok' (SB ν m) st' q v
 | p,.any,_,_,_=>by simp[aF]
 | .b6,.b6,v,_,h=>by simpa[aF] using h
 | .undef,.undef,v,_,h=>by simpa[aF] using h
 | .b6,.d y,v,hw,h=>by
   simp only[Eng.wk] at hw
   simp only[aF] at h⊢
   rw[hw,h];exact .nil
 | .b6,.acc k',v,hw,h=>by
   simp only[Eng.wk] at hw
   simp only[aF] at h⊢
   rw[nG hw]
   exact⟨jC _ _ hw,h⟩
 | .d x,.d y,v,hw,h=>by
   simp only[Eng.wk] at hw
   simp only[aF] at h⊢
   rw[←hw]
   exact h.frame hf (aJ _)
 | .acc k,.d y,v,hw,h=>by
   simp only[Eng.wk] at hw
   simp only[aF] at h⊢
   rw[h.2]
   exact hacc k y hw.1 hw.2
 | .acc k,.acc k',v,hw,h=>by
   simp only[Eng.wk] at hw
   simp only[aF] at h⊢
   rw[kR hw]
   exact⟨jC _ _ hw,h.2⟩
 | .ptr k off,.ptr k' off',v,hw,h=>by
   simp only[Eng.wk] at hw
   obtain⟨hw,rfl⟩:=hw
   simp only[aF] at h⊢
   rw[kR hw]
   exact⟨jC _ _ hw,h.2⟩
 | .gM k i off sz,.gM k' i' off' sz',v,hw,h=>by
   simp only[Eng.wk] at hw
   obtain⟨hw,rfl,rfl,rfl⟩:=hw
   simp only[aF] at h⊢
   rw[kR hw]
   exact⟨jC _ _ hw,h.2⟩
 | .gy xs i off,.gy ys j off',v,hw,h=>by
   simp only[Eng.wk] at hw
   obtain⟨rfl,rfl,rfl⟩:=hw
   simp only[aF] at h⊢
   obtain⟨b,o,cap,h1,h2,h3⟩:=h
   exact⟨b,o,cap,h1.frame hf (aJ _),h2,h3⟩
 | .agg cs,.agg ds,v,hw,h=>by
   simp only[Eng.wk] at hw
   simp only[aF] at h⊢
   obtain⟨vs,rfl,h⟩:=h
   exact⟨vs,rfl,aA.wk hf jC hacc cs ds vs hw h⟩
 | .gV cs,.gV ds,v,hw,h=>by
   simp only[Eng.wk] at hw
   simp only[aF] at h⊢
   obtain⟨vs,rfl,h⟩:=h
   exact⟨vs,rfl,aA.wk hf jC hacc cs ds vs hw h⟩
 | .fn f cs,.fn f' ds,v,hw,h=>by
   simp only[Eng.wk] at hw
   obtain⟨rfl,hw⟩:=hw
   simp only[aF] at h⊢
   obtain⟨vs,rfl,h⟩:=h
   exact⟨vs,rfl,aA.wk hf jC hacc cs ds vs hw h⟩
 | .any,.undef,_,hw,_ | .any,.b6,_,hw,_ | .any,.d _,_,hw,_ | .any,.agg _,_,hw,_ | .any,.gV _,_,hw,_ | .any,.ptr _ _,_,hw,_ | .any,.acc _,_,hw,_ | .any,.gM _ _ _ _,_,hw,_ | .any,.gy _ _ _,_,hw,_ | .any,.fn _ _,_,hw,_=>by simp[Eng.wk] at hw
 | .undef,.b6,_,hw,_ | .undef,.d _,_,hw,_ | .undef,.agg _,_,hw,_ | .undef,.gV _,_,hw,_ | .undef,.ptr _ _,_,hw,_ | .undef,.acc _,_,hw,_ | .undef,.gM _ _ _ _,_,hw,_ | .undef,.gy _ _ _,_,hw,_ | .undef,.fn _ _,_,hw,_=>by simp[Eng.wk] at hw
 | .b6,.undef,_,hw,_ | .b6,.agg _,_,hw,_ | .b6,.gV _,_,hw,_ | .b6,.ptr _ _,_,hw,_ | .b6,.gM _ _ _ _,_,hw,_ | .b6,.gy _ _ _,_,hw,_ | .b6,.fn _ _,_,hw,_=>by simp[Eng.wk] at hw
 | .d _,.undef,_,hw,_ | .d _,.b6,_,hw,_ | .d _,.agg _,_,hw,_ | .d _,.gV _,_,hw,_ | .d _,.ptr _ _,_,hw,_ | .d _,.acc _,_,hw,_ | .d _,.gM _ _ _ _,_,hw,_ | .d _,.gy _ _ _,_,hw,_ | .d _,.fn _ _,_,hw,_=>by simp[Eng.wk] at hw
 | .agg _,.undef,_,hw,_ | .agg _,.b6,_,hw,_ | .agg _,.d _,_,hw,_ | .agg _,.gV _,_,hw,_ | .agg _,.ptr _ _,_,hw,_ | .agg _,.acc _,_,hw,_ | .agg _,.gM _ _ _ _,_,hw,_ | .agg _,.gy _ _ _,_,hw,_ | .agg _,.fn _ _,_,hw,_=>by simp[Eng.wk] at hw
 | .gV _,.undef,_,hw,_ | .gV _,.b6,_,hw,_ | .gV _,.agg _,_,hw,_ | .gV _,.d _,_,hw,_ | .gV _,.ptr _ _,_,hw,_ | .gV _,.acc _,_,hw,_ | .gV _,.gM _ _ _ _,_,hw,_ | .gV _,.gy _ _ _,_,hw,_ | .gV _,.fn _ _,_,hw,_=>by simp[Eng.wk] at hw
 | .ptr _ _,.undef,_,hw,_ | .ptr _ _,.b6,_,hw,_ | .ptr _ _,.agg _,_,hw,_ | .ptr _ _,.d _,_,hw,_ | .ptr _ _,.gV _,_,hw,_ | .ptr _ _,.acc _,_,hw,_ | .ptr _ _,.gM _ _ _ _,_,hw,_ | .ptr _ _,.gy _ _ _,_,hw,_ | .ptr _ _,.fn _ _,_,hw,_=>by simp[Eng.wk] at hw
 | .acc _,.undef,_,hw,_ | .acc _,.b6,_,hw,_ | .acc _,.agg _,_,hw,_ | .acc _,.gV _,_,hw,_ | .acc _,.ptr _ _,_,hw,_ | .acc _,.gM _ _ _ _,_,hw,_ | .acc _,.gy _ _ _,_,hw,_ | .acc _,.fn _ _,_,hw,_=>by simp[Eng.wk] at hw
 | .gM _ _ _ _,.undef,_,hw,_ | .gM _ _ _ _,.b6,_,hw,_ | .gM _ _ _ _,.agg _,_,hw,_ | .gM _ _ _ _,.d _,_,hw,_ | .gM _ _ _ _,.gV _,_,hw,_ | .gM _ _ _ _,.ptr _ _,_,hw,_ | .gM _ _ _ _,.acc _,_,hw,_ | .gM _ _ _ _,.gy _ _ _,_,hw,_ | .gM _ _ _ _,.fn _ _,_,hw,_=>by simp[Eng.wk] at hw
 | .gy _ _ _,.undef,_,hw,_ | .gy _ _ _,.b6,_,hw,_ | .gy _ _ _,.agg _,_,hw,_ | .gy _ _ _,.d _,_,hw,_ | .gy _ _ _,.gV _,_,hw,_ | .gy _ _ _,.ptr _ _,_,hw,_ | .gy _ _ _,.acc _,_,hw,_ | .gy _ _ _,.gM _ _ _ _,_,hw,_ | .gy _ _ _,.fn _ _,_,hw,_=>by simp[Eng.wk] at hw
 | .fn _ _,.undef,_,hw,_ | .fn _ _,.b6,_,hw,_ | .fn _ _,.agg _,_,hw,_ | .fn _ _,.d _,_,hw,_ | .fn _ _,.gV _,_,hw,_ | .fn _ _,.ptr _ _,_,hw,_ | .fn _ _,.acc _,_,hw,_ | .fn _ _,.gM _ _ _ _,_,hw,_ | .fn _ _,.gy _ _ _,_,hw,_=>by simp[Eng.wk] at hw
theorem aA.wk(hf:∀b,ok b→b<w.heap.size→ok' b∧w.heap[b]?=w.heap[b]?)(jC:∀i x,gX m i=some x→(st' i).isSome=true)
 (hacc:∀k y,Pu (g.at k) y→EA k m=false→ij w ok' y (ν k).v) :
 ∀(ps qs:List PV)(vs:List Value),AQ g m ps qs→aA w ok ν g.at ps vs→aA w ok' (SB ν m) st' qs vs
 | [],[],vs,_,h=>by cases vs<;>simp[aA] at h⊢
 | p::ps,q::qs,[],_,h=>by simp[aA] at h
 | p::ps,q::qs,v::vs,hw,h=>by
   simp only[AQ] at hw
   simp only[aA] at h⊢
   exact⟨aF.wk hf jC hacc p q v hw.1 h.1,aA.wk hf jC hacc ps qs vs hw.2 h.2⟩
 | [],_::_,_,hw,_=>by simp[AQ] at hw
 | _::_,[],_,hw,_=>by simp[AQ] at hw
end
end
theorem Sj:∀{g:G}{m:List (Option Nat)}{ps qs:List PV},AQ g m ps qs→ps.length=qs.length
 | _,_,[],[],_=>rfl
 | _,_,p::ps,q::qs,h=>by simp only[AQ] at h;simp[Sj h.2]
 | _,_,[],_::_,h=>by simp[AQ] at h
 | _,_,_::_,[],h=>by simp[AQ] at h
theorem Sd{w:World}{ok:Nat→Prop}{ν ν':Nat→Nm}{g:G}{m:List (Option Nat)}{st':Nat→Option En}{ok':Nat→Prop}(hv:∀(p q:PV)(v:Value),wk g m p q→aF w ok ν g.at p v→aF w ok' ν' st' q v) :
 ∀{ps qs:List PV},AQ g m ps qs→∀(t:Nat)(v:Value),aF w ok ν g.at (nth ps t) v→aF w ok' ν' st' (nth qs t) v
 | [],[],_,t,v,_=>by simp[nth,aF]
 | p::ps,q::qs,h,0,v,hr=>by simp only[AQ] at h;simp only[nth] at hr⊢;exact hv p q v h.1 hr
 | p::ps,q::qs,h,t+1,v,hr=>by simp only[AQ] at h;simp only[nth] at hr⊢;exact Sd hv h.2 t v hr
 | [],_::_,h,_,_,_=>by simp[AQ] at h
 | _::_,[],h,_,_,_=>by simp[AQ] at h
theorem Ma{P:Program}{n0:Nat}{m:List (Option Nat)}{g g':G}(h:Wk n0 m g g'):pr P n0 g g':=by
 intro X ν a w hp hs
 refine⟨SB ν m,?_⟩
 have jC:∀i x,gX m i=some x→(g'.at i).isSome=true:=fun i x hx=>yN h.p i x hx
 have lq:=fun i e' he=>Fe h.p i e' he
 have sN:∀e e',Cw g m e e'→e'.live=true→e.live=true:=by
  intro e e' hw hl
  cases e' with
  | dead=>cases hl
  | box ds=>cases e<;>first|rfl|(simp[Cw] at hw)
  | acc t ys=>cases e<;>first|rfl|(simp[Cw] at hw)
  | fw t ys=>cases e<;>first|rfl|(simp[Cw] at hw)
  | map sR=>cases e<;>first|rfl|(simp[Cw] at hw)
 have howned:∀b,Own (SB ν m) g'.at b→∃i k e,gX m i=some (some k)∧g.at k=some e∧e.live=true∧(ν k).has b:=by
  rintro b ⟨i,e',h1,h2,h3⟩
  rcases lq i e' h1 with⟨k,e,k1,k2,k3⟩|⟨k1,t,rfl|rfl⟩
  ·rw[kR k1] at h3
   exact⟨i,k,e,k1,k2,sN e e' k3 h2,h3⟩
  all_goals
   rw[nG k1] at h3
   simp[Nm.has,wL] at h3
 have mG:∀b,Own (SB ν m) g'.at b→Own ν g.at b:=fun b hb=>by
  obtain⟨i,k,e,k1,k2,k3,k4⟩:=howned b hb
  exact⟨k,e,k2,k3,k4⟩
 have hf:∀b,cG X ν g.at b→b<w.heap.size→cG X (SB ν m) g'.at b∧w.heap[b]?=w.heap[b]?:=fun b hb _=>⟨⟨fun ho=>hb.1 (mG b ho),hb.2⟩,rfl⟩
 have hfr:∀k e,g.at k=some e→e.live=true→EA k m=false→∀b,(ν k).has b→cG X (SB ν m) g'.at b:=by
  intro k e hk hl hm b hb
  have iz:Own ν g.at b:=⟨k,_,hk,hl,hb⟩
  refine⟨fun ho=>?_,hs.K4 iz⟩
  obtain⟨i,k',e',k1,k2,k3,k4⟩:=howned b ho
  have:=hs.inj k k' _ _ b hk k2 hl k3 hb k4
  subst this
  rw[Kl k1] at hm
  cases hm
 have hacc:∀k y,Pu (g.at k) y→EA k m=false→ij w (cG X (SB ν m) g'.at) y (ν k).v:=by
  intro k y hk hm
  cases hgk:g.at k with
  | none=>rw[hgk] at hk;exact hk.elim
  | some e=>
    rw[hgk] at hk
    cases e with
    | box cs=>exact hk.elim
    | dead=>exact hk.elim
    | map sR=>exact hk.elim
    | acc e xs=>
      simp only[Pu] at hk
      rw[hk]
      obtain⟨us,h1,h2,h3,h4⟩:=hs.en k _ hgk
      exact wS h1 h2 h3 (fun b hb=>hfr k _ hgk rfl hm b (.inl hb)) hf
    | fw e xs=>
      simp only[Pu] at hk
      obtain⟨ys,h1,rfl⟩:=hk
      have hen:=hs.en k _ hgk
      exact kG.data hf (.own e xs) _ _ _ (by simp only[T.Gl,h1]) hen.1 fun b hb=>hfr k _ hgk rfl hm b (oO.2 hb)
 have ov:=fun p q v=>aF.wk (w:=w) (ok:=cG X ν g.at) (ok':=cG X (SB ν m) g'.at) (ν:=ν) (g:=g) (m:=m) (st':=g'.at) hf jC hacc p q v
 have hreps:=fun ps qs vs=>aA.wk (w:=w) (ok:=cG X ν g.at) (ok':=cG X (SB ν m) g'.at) (ν:=ν) (g:=g) (m:=m) (st':=g'.at) hf jC hacc ps qs vs
 refine⟨by rw[hs.size,Sj h.s],fun t=>?_,fun i e' he=>?_,fun i j e e' b h1 h2 h3 h4 h5 h6=>?_,fun b hb=>hs.base b (mG b hb),fun i hi=>?_,fun i hi=>?_,hs.Fk,hs.Ai,hs.defs⟩
 ·exact Sd ov h.s t _ (hs.sl t)
 ·rcases lq i e' he with⟨k,e,k1,k2,k3⟩|⟨k1,t,rfl|rfl⟩
  ·have hen:=hs.en k e k2
   cases e' with
   | dead=>trivial
   | box ds=>
     cases e with
     | box cs=>
       obtain⟨b,vs,T,q1,q2,q3,q4⟩:=hen
       simp only[Cw] at k3
       simp only[ld,kR k1]
       exact⟨b,vs,T,q1,q2,hreps cs ds vs k3 q3,q4⟩
     | acc t xs=>simp[Cw] at k3
     | fw t xs=>simp[Cw] at k3
     | dead=>simp[Cw] at k3
     | map sR=>simp[Cw] at k3
   | acc t ys=>
     cases e with
     | acc t' xs=>
       simp only[Cw] at k3
       obtain⟨rfl,rfl⟩:=k3
       obtain⟨us,q1,q2,q3⟩:=hen
       simp only[ld,kR k1]
       exact⟨us,q1,q2.frame hf (aJ _),q3⟩
     | box cs=>simp[Cw] at k3
     | dead=>simp[Cw] at k3
     | map sR=>simp[Cw] at k3
     | fw t xs=>simp[Cw] at k3
   | fw t ys=>
     cases e with
     | acc t' xs=>
       simp only[Cw] at k3
       obtain⟨rfl,rfl⟩:=k3
       obtain⟨us,q1,q2,q3,q4⟩:=hen
       simp only[ld,kG,kR k1,q4,rQ,bm]
       refine⟨⟨us,[],q1,q2.hu,bx.Cq (q2.frame hf (aJ _)),q3,by simp⟩,?_⟩
       unfold hb
       split<;>simp
     | fw t' xs=>
       simp only[Cw] at k3
       obtain⟨rfl,rfl,k4⟩:=k3
       simp only[ld,kR k1]
       refine⟨kG.still (.own t' xs) _ _ ?_ (kG.frame hf (aJ _) (lL.refl _ _) _ _ _ hen.1 fun _ _=>rfl),hen.2⟩
       simp only[T.Gl]
       obtain⟨zs,hz⟩:=cM.1 k4
       rw[hz];rfl
     | box cs=>simp[Cw] at k3
     | dead=>simp[Cw] at k3
     | map sR=>simp[Cw] at k3
   | map kvs'=>
     cases e with
     | map sR=>
       simp only[Cw] at k3
       subst k3
       simp only[ld,kR k1] at hen⊢
       exact hen
     | box cs=>simp[Cw] at k3
     | acc t xs=>simp[Cw] at k3
     | fw t xs=>simp[Cw] at k3
     | dead=>simp[Cw] at k3
  ·simp only[ld,nG k1]
   exact⟨[],⟨by simp,.inl ⟨rfl,rfl⟩⟩,cC.nil _ _ _,by simp,trivial⟩
  ·simp only[ld,nG k1,kG]
   exact⟨⟨[],[],⟨by simp,.inl ⟨rfl,rfl⟩⟩,by simp,by simp[bx],by simp,rfl⟩,by simp[hb,wL]⟩
 ·rcases lq i e h1 with⟨k,e1,k1,k2,k3⟩|⟨k1,t,rfl|rfl⟩
  ·rcases lq j e' h2 with⟨l,e2,l1,l2,l3⟩|⟨l1,t,rfl|rfl⟩
   ·rw[kR k1] at h5
    rw[kR l1] at h6
    have:=hs.inj k l e1 e2 b k2 l2 (sN _ _ k3 h3) (sN _ _ l3 h4) h5 h6
    subst this
    exact JB h.XE k1 l1 h1 h2 h3 h4
   ·rw[nG l1] at h6;simp[Nm.has,wL] at h6
   ·rw[nG l1] at h6;simp[Nm.has,wL] at h6
  ·rw[nG k1] at h5;simp[Nm.has,wL] at h5
  ·rw[nG k1] at h5;simp[Nm.has,wL] at h5
 ·obtain⟨e',he⟩:=cM.1 hi
  rcases lq i e' he with⟨k,e,k1,k2,k3⟩|⟨k1,t,rfl|rfl⟩
  ·rw[kR k1];exact hs.nu k (by rw[k2];rfl)
  ·rw[nG k1];rfl
  ·rw[nG k1];rfl
 ·have lQ:=hp i hi
  have hl:=Hg h.keep i lQ
  rw[di] at hl
  exact⟨by rw[kR hl];exact(hs.par i hi).1,jC i _ hl⟩
end Go.Eng
namespace Go.Eng
open Go.RowKit
theorem Sat.XA{P:Program}{X:Cx}{ν:Nat→Nm}{g:G}{a:Act}{w w':World}(h:Sat P X ν g a w)(rA:sH (fun _=>False) w w')(d:Nat)(p:PV)(v:Value)
 (hv:(∀b,w.heap.size≤b→cG X ν g.at b)→(∀b,cG X ν g.at b→b<w.heap.size→cG X ν g.at b∧w'.heap[b]?=w.heap[b]?)→aF w' (cG X ν g.at) ν g.at p v) :
 Sat P X ν ⟨lY g.sl d p,g.st⟩ (a.put (some d) v) w':=by
 have hfree:∀b,w.heap.size≤b→cG X ν g.at b:=fun b hb=>⟨fun ho=>by have:=h.lt ho;omega,fun hz=>by have:=(h.Fk b hz).1;have:=h.Ai.size;omega⟩
 have hsame:∀b,cG X ν g.at b→b<w.heap.size→cG X ν g.at b∧w'.heap[b]?=w.heap[b]?:=fun b hb lQ=>⟨hb,rA.block b lQ (fun hf=>hf)⟩
 refine h.XC (g':=⟨lY g.sl d p,g.st⟩) (fun _=>False) rA (fun _ hb=>hb.elim) (lL.refl _ _) (fun k e he=>.inl ⟨he,rfl,fun _ _ _ hb=>hb⟩) (fun k e b he hl hb=>.inl ⟨k,e,he,hl,hb⟩) ?_ (fun k hk=>.inl hk) ?_ ?_ rfl
 ·intro k k' e e' b h1 h2 h3 h4 h5 h6
  exact h.inj k k' e e' b h1 h2 h3 h4 h5 h6
 ·simp[size_put,jz,h.size]
 ·intro t
  simp only[sn,nF,h.size]
  by_cases hc:t=d∧d<g.sl.length
  ·simp only[hc,and_self,if_true]
   exact .inr (hv hfree hsame)
  ·simp only[hc,if_false]
   exact .inl ⟨trivial,trivial⟩
theorem JO(off:Nat):∀(l:List Value)(n:Nat)(cells:Array Value)(k:Nat),off+n+l.length≤cells.size →
 ((l.zipIdx n).foldl (fun cs (x:Value×Nat)=>cs.setIfInBounds (off+x.2) x.1) cells)[k]?=if off+n≤k∧k<off+n+l.length then l[k-(off+n)]? else cells[k]?
 | [],n,cells,k,_=>by
   have:¬ (off+n≤k∧k<off+n+0):=by omega
   simp
   intro h1 h2;omega
 | c::l,n,cells,k,hl=>by
   simp only[List.zipIdx_cons,List.foldl_cons]
   simp only[aW] at hl
   rw[JO off l (n+1) _ k (by simp;omega)]
   by_cases h1:off+(n+1)≤k∧k<off+(n+1)+l.length
   ·rw[if_pos h1,if_pos (by simp only[aW];omega)]
    have:k-(off+n)=(k-(off+(n+1)))+1:=by omega
    rw[this];simp
   ·rw[if_neg h1]
    by_cases h2:k=off+n
    ·subst h2
     have lQ:off+n<cells.size:=by omega
     rw[if_pos (by simp only[aW];omega)]
     simp[lQ]
    ·rw[if_neg (by simp only[aW];omega)]
     simp[Array.getElem?_setIfInBounds,show ¬off+n=k from fun e=>h2 e.symm]
theorem NQ(off:Nat)(l:List Value)(cells:Array Value)(hl:off+l.length≤cells.size) :
 (l.zipIdx.foldl (fun cs (x:Value×Nat)=>cs.setIfInBounds (off+x.2) x.1) cells).toList=cells.toList.take off++(l++cells.toList.drop (off+l.length)):=by
 apply List.ext_getElem?
 intro k
 have h:=JO off l 0 cells k (by omega)
 simp only[Nat.add_zero] at h
 rw[Array.getElem?_toList,h]
 by_cases h1:k<off
 ·rw[if_neg (by omega),bf (by simp;omega),c9,if_pos h1]
  simp
 ·rw[bw (by simp;omega)]
  have e:(nj off cells.toList).length=off:=by simp;omega
  rw[e]
  by_cases h2:k<off+l.length
  ·rw[if_pos (by omega),bf (by omega)]
  ·rw[if_neg (by omega),bw (by omega),dD]
   have:off+l.length+(k-off-l.length)=k:=by omega
   rw[this];simp
def GH(places:List (Nat×Nat))(cs:List PV):List (Nat×PV)→Option (List PV)
 | []=>some cs
 | (i,p)::rest=>
   match places[i]? with
   | none=>none
   | some (off,sz)=>if p.whole=true∧(eM p).length=sz∧off+sz≤cs.length then GH places (z7 cs off (eM p)) rest else none
theorem Ny{w:World}{ok:Nat→Prop}{ν:Nat→Nm}{st:Nat→Option En}(hν:∀k,(st k).isSome=true→(ν k).v.oneCell'=true)(places:List (Nat×Nat))(ev:Operand→PV)(ρ:Operand→Value)(hev:∀x,aF w ok ν st (ev x) (ρ x)) :
 ∀(ps:List (Nat×Operand))(cs:List PV)(cells:Array Value)(r:List PV),aA w ok ν st cs cells.toList→GH places cs (ps.map fun x=>(x.1,ev x.2))=some r →
 ∃cells',Instr.fill (places.toArray[·]?) cells (ps.map fun x=>(x.1,ρ x.2))=some cells'∧aA w ok ν st r cells'.toList
 | [],cs,cells,r,h,hr=>by
   simp only[dB,GH,Option.some.injEq] at hr
   subst hr
   exact⟨cells,rfl,h⟩
 | (i,x)::ps,cs,cells,r,h,hr=>by
   simp only[aQ,GH] at hr
   split at hr
   ·cases hr
   ·rename_i off sz hpl
    split at hr
    ·rename_i hc
     obtain⟨h1,h2,h3⟩:=hc
     have hx:=(hev x).cells h1 hν
     have hxl:=hx.length
     have hcl:=h.length
     have hxs:(ρ x).cells.size=sz:=by rw[←h2,←hxl];simp
     have hcs:cells.size=cs.length:=by rw[←hcl];simp
     have hone:=NQ off (ρ x).cells.toList cells (by rw[hxl,hcs,h2];exact h3)
     have ov:aA w ok ν st (z7 cs off (eM (ev x))) ((ρ x).cells.toList.zipIdx.foldl (fun cs (x:Value×Nat)=>cs.setIfInBounds (off+x.2) x.1) cells).toList:=by
      rw[hone,hxl]
      exact(h.take off).append (hx.append (h.drop _))
     obtain⟨cells',k1,k2⟩:=Ny hν places ev ρ hev ps _ _ r ov hr
     refine⟨cells',?_,k2⟩
     simp only[aQ,Instr.fill]
     have hpl':(places.toArray[i]?:Option (Nat×Nat))=some (off,sz):=by simpa using hpl
     rw[hpl']
     simp only
     rw[if_neg (by simp only[hxs,hcs,ne_eq,not_true_eq_false,decide_false,mg,decide_eq_true_eq];omega)]
     rw[←k1]
     congr 1
     rw[←Array.foldl_toList,Array.toList_zipIdx]
    ·cases hr
section
variable{E:Env}{g:G}{d:Nat}{ty:TypeId}{pos:String}{eU:Array Edge}{gd:Option (Nat×Bool)}{dn:Option Nat}
theorem VK(t:TypeId)(ps:List (Nat×Operand))(ti:TI)(fs:List (Nat×Nat×Nat))(r:List PV)(ht:E.ti t=some ti)(kJ:ti.ty= .struct fs)
 (hr:GH (fs.map fun x=>(x.2.1,x.2.2)) ti.zero (ps.map fun x=>(x.1,g.ev x.2))=some r) :
 kM E.P ⟨some d,.build t ⟨ps⟩,ty,pos,eU,gd⟩ g ⟨ps.flatMap fun x=>dj x.2,[]⟩ ⟨some (d,.agg r),[]⟩:=by
 intro g2 hg
 have hmap:ps.map (fun x=>(x.1,g2.ev x.2))=ps.map (fun x=>(x.1,g.ev x.2)):=by
  have:∀(ps:List (Nat×Operand)),(∀t∈ps.flatMap (fun x=>dj x.2),t∈ps.flatMap (fun x=>dj x.2))→True:=fun _ _=>trivial
  apply jt
  intro x hx
  rw[hg.ev (x:=x.2) (fun t h=>fR.2 ⟨x,hx,h⟩)]
 refine D7.val rfl fun X ν a w hs=>?_
 obtain⟨i,z,h1,h2,h4,h5,h6,h7⟩:=(E.ok t ti ht).info
 have hu:=(E.ok t ti ht).ty
 rw[kJ] at hu
 obtain⟨fields,hu,hpl,_⟩:=hu
 rw[←hmap] at hr
 obtain⟨cells',k1,k2⟩:=Ny hs.nu (fs.map fun x=>(x.2.1,x.2.2)) g2.ev a.eval hs.ev ps ti.zero z.cells r (by rw[←h6];exact uN _ _ _ _ _) hr
 refine⟨.agg cells',?_,by simp only[aF];exact⟨cells'.toList,rfl,k2⟩⟩
 have hb:E.P.built t (ps.map fun x=>(x.1,a.eval x.2))=some cells':=by
  simp only[Program.built,h1,hu,h5,hpl,k1]
 have:=run_build (P:=E.P) w t ⟨ps.map fun x=>(x.1,a.eval x.2)⟩ cells' hb
 simp only[execOp,iB,Sem.run_bind,this,Result.andThen_ok]
 rfl
def rowsOf:List PV→Option (List (List D))
 | []=>some []
 | p::ps=>if p.whole=true then match AJ (eM p),rowsOf ps with|some x,some xs=>some (x::xs)|_,_=>none else none
def Ii:Nat→List Nat→Bool
 | _,[]=>true
 | i,j::js=>i == j&&Ii (i+1) js
def uc(n:Nat):List (List D)→Bool
 | []=>true
 | x::xs=>x.length == n&&uc n xs
theorem C4{w:World}{ok:Nat→Prop}{ν:Nat→Nm}{st:Nat→Option En}(hν:∀k,(st k).isSome=true→(ν k).v.oneCell'=true)(sz:Nat)(ev:Operand→PV)(ρ:Operand→Value)(hev:∀x,aF w ok ν st (ev x) (ρ x)) :
 ∀(ps:List (Nat×Operand))(i:Nat)(pre:List Value)(cells:Array Value)(rows:List (List D)),Ii i (ps.map (·.1))=true→rowsOf (ps.map fun x=>ev x.2)=some rows→uc sz rows=true→pre.length=i*sz→cells.toList.take (i*sz)=pre→cells.size=(i+ps.length)*sz →
 ∃us:List (List Value),Instr.fill (fun i=>some (i*sz,sz)) cells (ps.map fun x=>(x.1,ρ x.2))=some ⟨pre++us.flatten⟩∧cC w ok sz rows us
 | [],i,pre,cells,rows,_,hr,_,hpl,hpre,hsz=>by
   simp only[dB,rowsOf,Option.some.injEq] at hr
   subst hr
   refine⟨[],?_,cC.nil _ _ _⟩
   simp only[dB,Instr.fill,List.flatten_nil,bm]
   congr 1
   rw[←hpre,ao (by rw[fx,hsz];exact aJ _)]
 | (j,x)::ps,i,pre,cells,rows,hup,hr,dz,hpl,hpre,hsz=>by
   simp only[aQ,Ii,ai,beq_iff_eq] at hup
   obtain⟨rfl,hup⟩:=hup
   simp only[aQ,rowsOf] at hr
   split at hr
   ·rename_i hwh
    split at hr
    ·rename_i row rows' qO hrows
     obtain rfl:=Option.some.inj hr
     simp only[uc,ai,beq_iff_eq] at dz
     have hx:=(hev x).cells hwh hν
     have hxl:=hx.length
     have hd:=xT hx qO
     obtain⟨Jj,hd2⟩:=A5 hd
     have hxs:(ρ x).cells.toList.length=sz:=by rw[Jj];exact dz.1
     simp only[aW] at hsz
     have hmul:(i+(ps.length+1))*sz=i*sz+(sz+ps.length*sz):=by rw[cY,cY];omega
     have hone:=NQ (i*sz) (ρ x).cells.toList cells (by rw[hxs,hsz,hmul];omega)
     have hsz2:(((ρ x).cells.toList.zipIdx.foldl (fun cs (x:Value×Nat)=>cs.setIfInBounds (i*sz+x.2) x.1) cells)).size=(i+1+ps.length)*sz:=by
      rw[←fx,hone]
      simp only[aR,List.length_take,eV,fx,hsz,hxs]
      rw[hmul,show i+1+ps.length=i+(ps.length+1) by omega,hmul]
      omega
     obtain⟨us,k1,k2⟩:=C4 hν sz ev ρ hev ps (i+1) (pre++(ρ x).cells.toList) _ rows' hup hrows dz.2 (by rw[aR,hpl,hxs,cY];omega)
      (by
       rw[hone,hpre,←bj,bX (by rw[aR,hpl,hxs,cY];omega)]
       rw[ao (by rw[aR,hpl,hxs,cY];omega)]) hsz2
     refine⟨(ρ x).cells.toList::us,?_,k2.cons dz.1 hxs hd2⟩
     have hxs':(ρ x).cells.size=sz:=by simpa using hxs
     simp only[aQ,Instr.fill]
     rw[if_neg (by simp only[hxs',hsz,hmul,ne_eq,not_true_eq_false,decide_false,mg,decide_eq_true_eq];omega)]
     rw[eH,←bj,←k1]
     congr 1
     rw[←Array.foldl_toList,Array.toList_zipIdx]
    ·cases hr
   ·cases hr
theorem RP{t e:Nat}{ti ei:TI}(ht:E.ti t=some ti)(kJ:ti.ty= .slice e)(he:E.ti e=some ei){X:Cx}{ν:Nat→Nm}{g2:G}{a:Act}{w:World}(hs:Sat E.P X ν g2 a w)(ps:List (Nat×Operand))(rows:List (List D))
 (hup:Ii 0 (ps.map (·.1))=true) (hr:rowsOf (ps.map fun x=>g2.ev x.2)=some rows) (dz:uc ei.n rows=true) (hbig:ps.length*ei.n≤16777216) {o:Oper} (ho:o.op= .buildSlice t ps.length ⟨ps⟩) :
 ∃us:List (List Value),(execOp a.eval o).run E.P w= .ok (.value (.slice (some ⟨w.heap.size,0,none⟩) ps.length ps.length)) (w.alloc (.cells ⟨us.flatten⟩ e))∧cC w (cG X ν g2.at) ei.n rows us:=by
 obtain⟨i,z,h1,h2,h4,h5,h6,h7⟩:=(E.ok e ei he).info
 have hu:=(E.ok t ti ht).ty
 rw[kJ] at hu
 have hpos:=(E.ok e ei he).pos
 have hrowsl:∀(qs:List PV)(rows:List (List D)),rowsOf qs=some rows→rows.length=qs.length:=by
  intro qs
  induction qs with
  | nil=>intro rows h;simp[rowsOf] at h;simp[←h]
  | cons q qs ih=>
    intro rows h
    simp only[rowsOf] at h
    split at h
    ·split at h
     ·rename_i h1 h2
      obtain rfl:=Option.some.inj h
      simp[ih _ h2]
     ·cases h
    ·cases h
 have hrl:=hrowsl _ _ hr
 simp only[dF] at hrl
 have key:∀init:Array Value,init.size=ps.length*ei.n→∃us:List (List Value),Instr.fill (fun i=>some (i*ei.n,ei.n)) init (ps.map fun x=>(x.1,a.eval x.2))=some ⟨us.flatten⟩∧cC w (cG X ν g2.at) ei.n rows us:=by
  intro init hi
  obtain⟨us,k1,k2⟩:=C4 hs.nu ei.n g2.ev a.eval hs.ev ps 0 [] init rows hup hr dz (by simp) (by simp) (by simpa using hi)
  exact⟨us,by simpa using k1,k2⟩
 by_cases hz:ps.length*ei.n=0
 ·obtain⟨us,k1,k2⟩:=key ((Array.range 0).map fun _=>default) (by rw[Array.size_map,Array.size_range,hz])
  refine⟨us,?_,k2⟩
  simp only[execOp,ho,iB,Instr.buildSlice,Sem.run_bind,run_underlying hu,Result.andThen_ok,(E.ok e ei he).size w,hz]
  simp[k1,newRow]
 ·obtain⟨us,k1,k2⟩:=key ((Array.range (ps.length*ei.n)).map (z.cells[· % z.cells.size]!)) (by simp)
  refine⟨us,?_,k2⟩
  have hn:¬ps.length*ei.n>16777216:=by omega
  simp only[execOp,ho,iB,Instr.buildSlice,Sem.run_bind,run_underlying hu,Result.andThen_ok,(E.ok e ei he).size w]
  simp[hn,hz,zeroValue,typeInfo,h1,h5,k1,newRow]
theorem Ae:∀{qs:List PV}{rows:List (List D)},rowsOf qs=some rows→rows.length=qs.length
 | [],rows,h=>by simp[rowsOf] at h;simp[←h]
 | q::qs,rows,h=>by
   simp only[rowsOf] at h
   split at h
   ·split at h
    ·rename_i h1 h2
     obtain rfl:=Option.some.inj h
     simp[Ae h2]
    ·cases h
   ·cases h
theorem N0(w:World)(us:List Value)(e:TypeId):jW (w.alloc (.cells ⟨us⟩ e)) w.heap.size 0 us:=by
 intro j u hu
 simp only[World.cell?,rZ,di]
 simpa using hu
theorem Wr(t e n:Nat)(ps:List (Nat×Operand))(ti ei:TI)(rows:List (List D))(ht:E.ti t=some ti)(kJ:ti.ty= .slice e)(he:E.ti e=some ei)(hn:n=ps.length)(hup:Ii 0 (ps.map (·.1))=true)
 (hr:rowsOf (ps.map fun x=>g.ev x.2)=some rows) (dz:uc ei.n rows=true) (hbig:ps.length*ei.n≤16777216) :
 kM E.P ⟨some d,.buildSlice t n ⟨ps⟩,ty,pos,eU,gd⟩ g ⟨ps.flatMap fun x=>dj x.2,[]⟩ ⟨some (d,.d (.dC rows)),[]⟩:=by
 subst hn
 intro g2 hg
 have hmap:ps.map (fun x=>g2.ev x.2)=ps.map (fun x=>g.ev x.2):=by
  apply jt
  intro x hx
  rw[hg.ev (x:=x.2) (fun t h=>fR.2 ⟨x,hx,h⟩)]
 rw[←hmap] at hr
 intro X ν a w next Q hs hnx
 obtain⟨us,lO,jl⟩:=RP ht kJ he hs ps rows hup hr dz hbig (o:=⟨some d,.buildSlice t ps.length ⟨ps⟩,ty,pos,eU,gd⟩) rfl
 have hpos:=(E.ok e ei he).pos
 have hrl:=Ae hr
 simp only[dF] at hrl
 have hle:ps.length≤16777216:=eO (oq _ hpos) hbig
 unfold Oper.wp
 rw[lO,Oper.upon_value]
 refine hnx ν _ _ (hs.XA (w':=w.alloc (.cells ⟨us.flatten⟩ e)) (jF w _) d _ _ fun hfree hsame=>?_)
 simp only[aF]
 have hrr':=jl.frame hsame (jF w _).size
 rw[←hrl]
 exact .dC rows us w.heap.size 0 rows.length ei.n (hfree _ (aJ _)) (qh (rZ w _)) (aJ _) (by simp only[maxLen];omega) (by unfold LB;omega) hrr'.len hrr'.hx hrr'.hu (N0 w _ e) hrr'.hr
theorem pI(t e n k:Nat)(ps:List (Nat×Operand))(ti ei:TI)(rows:List (List D))(ht:E.ti t=some ti)(kJ:ti.ty= .slice e)(he:E.ti e=some ei)(hn:n=ps.length)(hup:Ii 0 (ps.map (·.1))=true)
 (hr:rowsOf (ps.map fun x=>g.ev x.2)=some rows) (dz:uc ei.n rows=true) (hbig:ps.length*ei.n≤16777216) (hk:g.at k=none) :
 kM E.P ⟨some d,.buildSlice t n ⟨ps⟩,ty,pos,eU,gd⟩ g ⟨ps.flatMap fun x=>dj x.2,[k]⟩ ⟨some (d,.acc k),[(k,.acc e rows)]⟩:=by
 subst hn
 intro g2 hg
 have hmap:ps.map (fun x=>g2.ev x.2)=ps.map (fun x=>g.ev x.2):=by
  apply jt
  intro x hx
  rw[hg.ev (x:=x.2) (fun t h=>fR.2 ⟨x,hx,h⟩)]
 have h3:=(hg.p k (by simp)).trans hk
 rw[←hmap] at hr
 intro X ν a w next Q hs hnx
 obtain⟨us,lO,jl⟩:=RP ht kJ he hs ps rows hup hr dz hbig (o:=⟨some d,.buildSlice t ps.length ⟨ps⟩,ty,pos,eU,gd⟩) rfl
 have hpos:=(E.ok e ei he).pos
 have hrl:=Ae hr
 simp only[dF] at hrl
 have hle:ps.length≤16777216:=eO (oq _ hpos) hbig
 unfold Oper.wp
 rw[lO,Oper.upon_value]
 have hfl:=jl.kZ
 have qO:=World.ownsRow_lit w (e:=e) (⟨us.flatten⟩:Array Value) rows.length (base:=0) (size:=ei.n) (bc _) (by simp only[maxLen];omega) (by simpa using hfl)
 refine hnx _ _ _ (hs.xg (jF w _) k h3 (.acc e rows) ⟨.slice (some ⟨w.heap.size,0,none⟩) ps.length ps.length,[]⟩ rfl (fun b hb=>?_) d _ _ ?_ ?_)
 ·obtain rfl:w.heap.size=b:=by simpa[Nm.has,wL] using hb
  exact aJ _
 ·intro ok st ν' hν hw hm
  refine⟨us,?_,?_,by unfold LB;omega,by rw[hν]⟩
  ·rw[hν,(E.ok e ei he).cells,←hrl]
   exact qO
  ·rw[(E.ok e ei he).cells]
   exact jl.frame hw (jF w _).size
 ·intro ok st ν' hν jC hw hm
  simp only[aF]
  exact⟨by rw[jC];rfl,by rw[hν]⟩
end
def OI(g:G):Option Operand→Int→Int→Prop
 | none,dflt,i=>i=dflt
 | some x,_,i=>∃k,g.ev x= .d (.val (.int k i))
def XD:Option Operand→List Nat
 | none=>[]
 | some x=>dj x
theorem OI.agree{R:Rd}{g g2:G}(h:Cs R g g2){o:Option Operand}{a i:Int}(ho:∀t∈XD o,t∈R.s)(hi:OI g o a i):OI g2 o a i:=by
 cases o with
 | none=>exact hi
 | some x=>
   obtain⟨k,hk⟩:=hi
   exact⟨k,(h.ev (x:=x) ho).trans hk⟩
theorem OI.value{P:Program}{X:Cx}{ν:Nat→Nm}{g:G}{a:Act}{w:World}(h:Sat P X ν g a w){o:Option Operand}{d i:Int}(hi:OI g o d i):(o=none∧i=d)∨∃k,o.map a.eval=some (.int k i):=by
 cases o with
 | none=>exact .inl ⟨rfl,hi⟩
 | some x=>
   obtain⟨k,hk⟩:=hi
   have hv:=h.ev x
   rw[hk] at hv
   exact .inr ⟨k,by simp[fV hv]⟩
theorem tJ{P:Program}(w:World){t e s:Nat}(hu:P.underlying t=some (.slice e))(hs:∀w,(sizeOf e).run P w= .ok s w)(a:Option Addr)(len cap:Nat)(lo hi:Option Value)(l h:Int)
 (hlo:(lo=none∧l=0)∨∃k,lo=some (.int k l)) (hhi:(hi=none∧h=len)∨∃k,hi=some (.int k h)) (h0:0≤l) (h1:l≤h) (h2:h≤len) (h3:len≤cap) :
 (Instr.sliceAt t (.slice a len cap) lo hi none).run P w= .ok (sliced a l.toNat h.toNat cap s) w:=by
 have hel:P.elem t=e:=by simp[Program.elem,hu]
 have ht:P.underlying t=some (.slice (P.elem t)):=by rw[hel];exact hu
 rw[run_sliceAt_slice w t _ _ _ _ ht]
 have h2':h≤(cap:Int):=by omega
 rcases hlo with⟨rfl,rfl⟩|⟨k,rfl⟩
 ·rcases hhi with⟨rfl,rfl⟩|⟨k',rfl⟩
  ·rw[run_slice_all w t a len cap ht,hel,hs]
   simp[Result.andThen]
  ·rw[run_slice_h w t a len cap ht k' h (by omega) h2',hel,hs]
   simp[Result.andThen]
 ·rcases hhi with⟨rfl,rfl⟩|⟨k',rfl⟩
  ·rw[run_slice_l w t a len cap ht k l h0 h1,hel,hs]
   simp[Result.andThen]
  ·rw[run_slice_lh w t a len cap ht k k' l h h0 h1 h2',hel,hs]
   simp[Result.andThen]
theorem Wh{P:Program}(w:World){t:Nat}(hu:P.underlying t=some .string)(s:List UInt8)(lo hi:Option Value)(l h:Int)
 (hlo:(lo=none∧l=0)∨∃k,lo=some (.int k l)) (hhi:(hi=none∧h=s.length)∨∃k,hi=some (.int k h)) (h0:0≤l) (h1:l≤h) (h2:h≤s.length) :
 (Instr.sliceAt t (.string ⟨s.toArray⟩) lo hi none).run P w= .ok (.string ⟨((s.drop l.toNat).take (h.toNat-l.toNat)).toArray⟩) w:=by
 rw[run_sliceAt_string w t _ _ _ _ hu]
 have hsz:(⟨s.toArray⟩:ByteArray).size=s.length:=size_mk s
 rcases hlo with⟨rfl,rfl⟩|⟨k,rfl⟩
 ·rcases hhi with⟨rfl,rfl⟩|⟨k',rfl⟩
  ·rw[run_slice_string_all w t _ hu,ByteArray.extract_mk,hsz]
   simp
  ·rw[run_slice_string_h w t _ hu k' h (by omega) (by omega),ByteArray.extract_mk]
   simp
 ·rcases hhi with⟨rfl,rfl⟩|⟨k',rfl⟩
  ·rw[run_slice_string_l w t _ hu k l h0 (by omega),ByteArray.extract_mk,hsz]
   simp
  ·rw[Go.run_slice_string w t _ k k' l h hu h0 h1 (by omega),ByteArray.extract_mk]
section
variable{E:Env}{g:G}{d:Nat}{ty:TypeId}{pos:String}{eU:Array Edge}{gd:Option (Nat×Bool)}{dn:Option Nat}
theorem sa{sz:Nat}:∀(us:List (List Value))(l n:Nat),(∀(i:Nat)(u:List Value),us[i]?=some u→u.length=sz)→l+n≤us.length→((us.drop l).take n).flatten=(us.flatten.drop (l*sz)).take (n*sz)
 | [],l,n,_,h=>by
   have h1:l=0:=by simp at h;omega
   have h2:n=0:=by simp at h;omega
   subst h1 h2;simp
 | u::us,0,n,hu,h=>by
   cases n with
   | zero=>simp
   | succ n=>
     have h0:u.length=sz:=hu 0 u rfl
     have ih:=sa us 0 n (fun i x hx=>hu (i+1) x (by simpa using hx)) (by simp at h;omega)
     simp only[List.drop_zero,Nat.zero_mul] at ih⊢
     rw[dY,eH,eH,ih,List.take_append]
     have e1:(n+1)*sz-u.length=n*sz:=by rw[cY,h0];omega
     rw[e1,ao (l:=u) (by rw[h0,cY];omega)]
 | u::us,l+1,n,hu,h=>by
   have h0:u.length=sz:=hu 0 u rfl
   have ih:=sa us l n (fun i x hx=>hu (i+1) x (by simpa using hx)) (by simp at h;omega)
   rw[List.drop_succ_cons,ih,eH]
   congr 1
   rw[List.drop_append,al (l:=u) (by rw[h0,cY];omega),bC]
   congr 1
   rw[cY,h0];omega
theorem oH{α:Type}(xs:List α)(l n i:Nat)(x:α)(h:((xs.drop l).take n)[i]?=some x):xs[l+i]?=some x:=by
 rw[c9] at h
 split at h
 ·rwa [dD] at h
 ·cases h
theorem cC.cut{w:World}{ok:Nat→Prop}{sz:Nat}{xs:List (List D)}{us:List (List Value)}(h:cC w ok sz xs us)(l n:Nat):cC w ok sz ((xs.drop l).take n) ((us.drop l).take n):=by
 refine⟨by simp[h.len],fun i x hx=>h.hx (l+i) x (oH _ _ _ _ _ hx),fun i u hu=>h.hu (l+i) u (oH _ _ _ _ _ hu),fun i j x u d v h1 h2 h3 h4=>h.hr (l+i) j x u d v (oH _ _ _ _ _ h1) (oH _ _ _ _ _ h2) h3 h4⟩
theorem Qs(x:Operand)(lo hi:Option Operand)(t e:Nat)(ti ei:TI)(xs r:List (List D))(l h:Int)(ht:E.ti t=some ti)(kJ:ti.ty= .slice e)(he:E.ti e=some ei)(hx:g.ev x= .d (.dC xs))(hlo:OI g lo 0 l)(hhi:OI g hi xs.length h)
 (h0:0≤l) (h1:l≤h) (h2:h≤xs.length) (hz:∀y∈xs,y.length=ei.n) (hr:(xs.drop l.toNat).take (h.toNat-l.toNat)=r) :
 kM E.P ⟨some d,.slice t x lo hi none,ty,pos,eU,gd⟩ g ⟨dj x++(XD lo++XD hi),[]⟩ ⟨some (d,.d (.dC r)),[]⟩:=by
 subst hr
 intro g2 hg
 have e1:=hg.ev (x:=x) (fun t h=>by simp[h])
 have hlo2:=hlo.agree hg (fun t h=>by simp[h])
 have hhi2:=hhi.agree hg (fun t h=>by simp[h])
 refine D7.val rfl fun X ν a w hs=>?_
 have hv:=hs.ev x
 rw[e1,hx] at hv
 simp only[aF] at hv⊢
 have hu:=(E.ok t ti ht).ty
 rw[kJ] at hu
 have hlv:(lo.map a.eval=none∧l=0)∨∃k,lo.map a.eval=some (.int k l):=(hlo2.value hs).imp (fun h=>⟨by rw[h.1];rfl,h.2⟩) id
 have hhv:(hi.map a.eval=none∧h=xs.length)∨∃k,hi.map a.eval=some (.int k h):=(hhi2.value hs).imp (fun h=>⟨by rw[h.1];rfl,h.2⟩) id
 have hsize:=(E.ok e ei he).size
 obtain⟨ln,rfl⟩:∃n:Nat,l=n:=⟨l.toNat,by omega⟩
 obtain⟨hn,rfl⟩:∃n:Nat,h=n:=⟨h.toNat,by omega⟩
 simp only[bn]
 rcases hv.vg with⟨rfl,ea,ec,hvv,hemp⟩|⟨us,b,off,cap,sz,hvv,e7,hb,jX,hmax,hB,jl,hc⟩
 ·simp only[List.length_nil] at h2
  have hr:=tJ (P:=E.P) w hu hsize ea 0 ec _ _ ln hn hlv hhv h0 h1 h2 (bc _)
  obtain rfl:hn=0:=by omega
  obtain rfl:ln=0:=by omega
  refine⟨sliced ea 0 0 ec ei.n,?_,?_⟩
  ·simp only[execOp,hvv,dG,Sem.run_bind,hr,Result.andThen_ok]
   rfl
  ·simp only[List.drop_nil,List.take_nil]
   unfold sliced
   refine ij.abf ?_
   rcases hemp with⟨rfl,rfl⟩|⟨k1,k2⟩
   ·exact .inl ⟨by simp,rfl⟩
   ·refine .inr ⟨?_,by omega⟩
    split
    ·exact k1
    ·rw[Option.isSome_map]
     exact k1
 ·have hr:=tJ (P:=E.P) w hu hsize (some ⟨b,off,none⟩) xs.length cap _ _ ln hn hlv hhv h0 h1 h2 jX
  simp only[bn] at hr
  have hsz:xs=[]∨sz=ei.n:=by
   cases xs with
   | nil=>exact .inl rfl
   | cons y ys=>right;rw[←jl.hx 0 y rfl];exact hz y (by simp)
  refine⟨sliced (some ⟨b,off,none⟩) ln hn cap ei.n,?_,?_⟩
  ·simp only[execOp,hvv,dG,Sem.run_bind,hr,Result.andThen_ok]
   rfl
  ·have dz:((xs.drop ln).take (hn-ln)).length=hn-ln:=by simp;omega
   have hrc:=jl.cut ln (hn-ln)
   have hcl:=sa us ln (hn-ln) jl.hu (by rw[jl.len];omega)
   unfold sliced
   by_cases hcm:cap=ln
   ·rw[if_pos hcm]
    have:hn-ln=0:=by omega
    rw[this] at dz hrc⊢
    simp only[List.take_zero] at dz hrc⊢
    exact .dC [] [] b off (cap-ln) sz e7 hb (by simp) (by simp only[maxLen] at hmax⊢;omega) (by simp) rfl (by simp) (by simp) (fun j u hu=>by simp at hu) (by simp)
   ·rw[if_neg hcm]
    have hsz':sz=ei.n∨ln=0:=by
     rcases hsz with rfl|h
     ·right;simp at h2;omega
     ·exact .inl h
    have hoff:(⟨b,off,none⟩:Addr).add (ln*ei.n)=⟨b,off+ln*sz,none⟩:=by
     rw[add_lit]
     rcases hsz' with h|h<;>rw[h]
     simp
    simp only[Option.map_some,hoff]
    have hres:=ij.dC (w:=w) (ok:=cG X ν g2.at) ((xs.drop ln).take (hn-ln)) ((us.drop ln).take (hn-ln)) b (off+ln*sz) (cap-ln) sz e7 hb (by rw[dz];omega) (by simp only[maxLen] at hmax⊢;omega) (by rw[dz];omega) hrc.len hrc.hx hrc.hu
     (hc.sub (ln*sz) fun j u hu=>by
      rw[hcl] at hu
      exact oH _ _ _ _ _ hu) hrc.hr
    rw[dz] at hres
    exact hres
theorem QX(x:Operand)(lo hi:Option Operand)(t:Nat)(ti:TI)(s r:List UInt8)(l h:Int)(ht:E.ti t=some ti)(kJ:ti.ty= .str)(hx:g.ev x= .d (.str s))(hlo:OI g lo 0 l)(hhi:OI g hi s.length h)
 (h0:0≤l) (h1:l≤h) (h2:h≤s.length) (hr:(s.drop l.toNat).take (h.toNat-l.toNat)=r) :
 kM E.P ⟨some d,.slice t x lo hi none,ty,pos,eU,gd⟩ g ⟨dj x++(XD lo++XD hi),[]⟩ ⟨some (d,.d (.str r)),[]⟩:=by
 subst hr
 intro g2 hg
 have e1:=hg.ev (x:=x) (fun t h=>by simp[h])
 have hlo2:=hlo.agree hg (fun t h=>by simp[h])
 have hhi2:=hhi.agree hg (fun t h=>by simp[h])
 refine D7.val rfl fun X ν a w hs=>?_
 have hv:=hs.ev x
 rw[e1,hx] at hv
 obtain⟨hv,hB⟩:=vD hv
 have hu:=(E.ok t ti ht).ty
 rw[kJ] at hu
 have hlv:(lo.map a.eval=none∧l=0)∨∃k,lo.map a.eval=some (.int k l):=(hlo2.value hs).imp (fun h=>⟨by rw[h.1];rfl,h.2⟩) id
 have hhv:(hi.map a.eval=none∧h=s.length)∨∃k,hi.map a.eval=some (.int k h):=(hhi2.value hs).imp (fun h=>⟨by rw[h.1];rfl,h.2⟩) id
 have hr:=Wh (P:=E.P) w hu s _ _ l h hlv hhv h0 h1 h2
 refine⟨_,?_,by simp only[aF];exact .str _ (by simp;omega)⟩
 simp only[execOp,hv,dG,Sem.run_bind,hr,Result.andThen_ok]
 rfl
def sS{α:Type}(cs:List α)(off:Nat)(vs:List α):List α:=cs.take off++(vs++cs.drop (off+vs.length))
theorem L4{α:Type}(cs vs:List α)(off:Nat)(h:off+vs.length≤cs.length):(sS cs off vs).length=cs.length:=by
 simp[sS];omega
theorem FV{sz:Nat}:∀(us:List (List Value))(i off:Nat)(vs rest:List Value),(∀(i:Nat)(u:List Value),us[i]?=some u→u.length=sz)→i<us.length→off+vs.length≤sz →
 sS (us.flatten++rest) (i*sz+off) vs=(us.set i (sS (us.getD i []) off vs)).flatten++rest
 | [],i,_,_,_,_,h,_=>by simp at h
 | u::us,0,off,vs,rest,hu,_,ho=>by
   have h0:u.length=sz:=hu 0 u rfl
   simp only[sS,Nat.zero_mul,di,iC,eH,List.getD_cons_zero,bj]
   rw[bX (by omega),List.drop_append_of_le_length (by omega)]
 | u::us,i+1,off,vs,rest,hu,hi,ho=>by
   have h0:u.length=sz:=hu 0 u rfl
   have ih:=FV us i off vs rest (fun i x hx=>hu (i+1) x (by simpa using hx)) (by simpa using hi) ho
   have e1:(i+1)*sz+off=sz+(i*sz+off):=by rw[cY];omega
   simp only[n7,eH,List.getD_cons_succ,bj]
   rw[←ih,e1]
   simp only[sS]
   have e2:nj (sz+(i*sz+off)) (u++(us.flatten++rest))=u++nj (i*sz+off) (us.flatten++rest):=by
    rw[List.take_append,ao (by omega),h0]
    congr 2;omega
   have e3:fC (sz+(i*sz+off)+vs.length) (u++(us.flatten++rest))=fC (i*sz+off+vs.length) (us.flatten++rest):=by
    rw[List.drop_append,al (by omega),bC,h0]
    congr 1;omega
   rw[e2,e3,bj]
theorem BO{α:Type}(cs vs:List α)(off j:Nat)(h:off+vs.length≤cs.length):(sS cs off vs)[j]?=if off≤j∧j<off+vs.length then vs[j-off]? else cs[j]?:=by
 unfold sS
 by_cases h1:j<off
 ·rw[if_neg (by omega),bf (by simp;omega),c9,if_pos h1]
 ·have e:(cs.take off).length=off:=by simp;omega
  rw[bw (by omega),e]
  by_cases h2:j<off+vs.length
  ·rw[if_pos (by omega),bf (by omega)]
  ·rw[if_neg (by omega),bw (by omega),dD]
   congr 1;omega
theorem I0(x y:Operand)(t k i off sz e:Nat)(ti ei:TI)(xs:List (List D))(p:PV)(cs:List D)(ht:E.ti t=some ti)(he:E.ti e=some ei)(hsz:sz=ei.n)(hx:g.ev x= .gM k i off sz)(hk:g.at k=some (.acc e xs))(hy:g.ev y=p)
 (hi:i<xs.length) (hl:off+ti.n≤ei.n) (hp:p.whole=true) (hn:(eM p).length=ti.n) (hcs:AJ (eM p)=some cs) :
 kM E.P ⟨dn,.store t x y,ty,pos,eU,gd⟩ g ⟨dj x++dj y++dn.toList,[k]⟩ ⟨dn.map fun d=>(d,.undef),[(k,.acc e (xs.set i (sS (row xs i) off cs)))]⟩:=by
 intro g2 hg
 have e1:=hg.ev (x:=x) (fun t h=>by simp[h])
 have e2:=hg.ev (x:=y) (fun t h=>by simp[h])
 have h3:=(hg.p k (by simp)).trans hk
 intro X ν a w next Q hs hnx
 have hv:=hs.ev x
 rw[e1,hx] at hv
 have hw:=hs.ev y
 rw[e2,hy] at hw
 simp only[aF] at hv
 obtain⟨_,b,n,c,hb,hv⟩:=hv
 obtain⟨us,ho,jl,hB,hf0⟩:=hs.en k _ h3
 have pX:=hw.cells hp hs.nu
 have dz:=pX.length
 obtain⟨Jj,hd2⟩:=A5 (xT pX hcs)
 rw[(E.ok e ei he).cells] at jl ho
 subst hsz
 have hlast:=ho.2
 rcases hlast with⟨h1,h2⟩|⟨b',cap,cur,h1,_,h2,h4,h5,h6,h7⟩
 ·omega
 ·rw[h1] at hb
  obtain⟨rfl,rfl,rfl⟩:b'=b∧xs.length=n∧cap=c:=by simpa using hb
  have hul:us.length=xs.length:=jl.len
  have hfl:=jl.kZ
  have hmulle:(i+1)*ei.n≤xs.length*ei.n:=bQ _ hi
  have hmulle2:xs.length*ei.n≤cap*ei.n:=bQ _ h4
  have hadd:(i+1)*ei.n=i*ei.n+ei.n:=by rw[cY];omega
  have hone:∀u∈(a.eval y).cells.toList,u.oneCell'=true:=by
   intro u hu
   obtain⟨j,hj,rfl⟩:=List.getElem_of_mem hu
   have hjc:j<cs.length:=by rw[←Jj];exact hj
   exact(hd2 j cs[j] _ (af hjc) (af hj)).one
  have hvl:(a.eval y).cells.toList.length=ti.n:=by rw[dz,hn]
  have lO:=u9 (E.ok t ti ht) w b' (i*ei.n+off) e cur (a.eval y) h2 hvl (by omega) hone
  have hr:(execOp a.eval ⟨dn,.store t x y,ty,pos,eU,gd⟩).run E.P w= .ok .skip (w.setRow b' (cur.toList.take (i*ei.n+off)++(a.eval y).cells.toList++cur.toList.drop (i*ei.n+off+(a.eval y).cells.toList.length)).toArray):=by
   simp only[execOp,hv,Instr.storeAt,Instr.sureAddr,Sem.run_bind,Sem.run_pure,Result.andThen_ok,lO]
  have hcur:cur.toList=us.flatten++cur.toList.drop (xs.length*ei.n):=by rw[←h7];exact(iu _ _).symm
  have hnew:cur.toList.take (i*ei.n+off)++(a.eval y).cells.toList++cur.toList.drop (i*ei.n+off+(a.eval y).cells.toList.length)=(us.set i (sS (us.getD i []) off (a.eval y).cells.toList)).flatten++cur.toList.drop (xs.length*ei.n):=by
   have:=FV us i off (a.eval y).cells.toList (cur.toList.drop (xs.length*ei.n)) jl.hu (by omega) (by omega)
   rw[←hcur] at this
   rw[←this,bj]
   rfl
  have hui:us[i]?=some (us.getD i []):=by
   have:i<us.length:=by omega
   simp[ct,af this]
  have hxi:xs[i]?=some (row xs i):=by simp[row,ct,af hi]
  have hxil:=jl.hx i _ hxi
  have huil:=jl.hu i _ hui
  have hrows:cC w (cG X ν g2.at) ei.n (xs.set i (sS (row xs i) off cs)) (us.set i (sS (us.getD i []) off (a.eval y).cells.toList)):=by
   refine⟨by simp[hul],fun j z hz=>?_,fun j z hz=>?_,fun j l z u q v k1 k2 k3 k4=>?_⟩
   ·rw[kC] at hz
    by_cases hij:i=j
    ·subst hij
     rw[if_pos rfl,if_pos hi] at hz
     obtain rfl:=Option.some.inj hz
     rw[L4 _ _ _ (by rw[hxil,←Jj,hvl];exact hl),hxil]
    ·rw[if_neg hij] at hz
     exact jl.hx j z hz
   ·rw[kC] at hz
    by_cases hij:i=j
    ·subst hij
     rw[if_pos rfl,if_pos (by omega)] at hz
     obtain rfl:=Option.some.inj hz
     rw[L4 _ _ _ (by rw[huil,hvl];exact hl),huil]
    ·rw[if_neg hij] at hz
     exact jl.hu j z hz
   ·rw[kC] at k1 k2
    by_cases hij:i=j
    ·subst hij
     rw[if_pos rfl,if_pos hi] at k1
     rw[if_pos rfl,if_pos (by omega)] at k2
     obtain rfl:=Option.some.inj k1
     obtain rfl:=Option.some.inj k2
     rw[BO _ _ _ _ (by rw[hxil,←Jj,hvl];exact hl)] at k3
     rw[BO _ _ _ _ (by rw[huil,hvl];exact hl)] at k4
     rw[Jj] at k4
     by_cases kF:off≤l∧l<off+cs.length
     ·rw[if_pos kF] at k3 k4
      exact hd2 _ _ _ k3 k4
     ·rw[if_neg kF] at k3 k4
      exact jl.hr i l _ _ q v hxi hui k3 k4
    ·rw[if_neg hij] at k1 k2
     exact jl.hr j l z u q v k1 k2 k3 k4
  unfold Oper.wp
  rw[hr,Oper.upon_skip,hnew]
  refine hnx _ _ _ (hs.C0 k (.acc e xs) (.acc e (xs.set i (sS (row xs i) off cs))) h3 rfl (kI w b' _ _ ((kv hf0).2 (by rw[h1];rfl))) dn .undef Go.undef ?_ ?_)
  ·intro hwf hm
   refine⟨us.set i (sS (us.getD i []) off (a.eval y).cells.toList),?_,?_,by simpa using hB,hf0⟩
   ·rw[(E.ok e ei he).cells,h1]
    have hf2:=hrows.kZ
    refine⟨hf2,.inr ⟨b',cap,_,by simp,bc _,setRow_heap w b' _ _ e _ h2,by simpa using h4,h5,?_,?_⟩⟩
    ·simp only[eJ,aR,hf2,jn,eV,fx,h6]
     omega
    ·rw[bX (by rw[hf2];exact aJ _),ao (by rw[hf2];exact aJ _)]
   ·rw[(E.ok e ei he).cells]
    exact hrows.frame hwf (by simp[World.setRow])
  ·intro _
   simp only[aF]
def Ta(ns:List Int):List (List D):=ns.map fun n=>[.val (.int .u8 n)]
def byS(ns:List Int):List UInt8:=ns.map fun n=>UInt8.ofNat n.toNat
end
mutual
def sc:PV→Bool
 | .undef=>true
 | .b6=>true
 | .d (.val _)=>true
 | .d (.str _)=>true
 | .agg cs=>scs cs
 | .gV cs=>scs cs
 | _=>false
def scs:List PV→Bool
 | []=>true
 | p::ps=>sc p&&scs ps
end
section
variable{w w':World}{ok ok':Nat→Prop}{ν ν':Nat→Nm}{st st':Nat→Option En}
mutual
theorem aF.sc:∀(p:PV)(v:Value),sc p=true→aF w ok ν st p v→aF w' ok' ν' st' p v
 | .undef,v,_,h=>by simpa[aF] using h
 | .b6,v,_,h=>by simpa[aF] using h
 | .d (.val u),v,_,h=>by
   simp only[aF] at h⊢
   cases h with
   | val u h=>exact .val _ h
 | .d (.str u),v,_,h=>by
   simp only[aF] at h⊢
   cases h with
   | str u h=>exact .str _ h
 | .agg cs,v,hs,h=>by
   simp only[Eng.sc] at hs
   simp only[aF] at h⊢
   obtain⟨vs,e,h⟩:=h
   exact⟨vs,e,aA.sc cs vs hs h⟩
 | .gV cs,v,hs,h=>by
   simp only[Eng.sc] at hs
   simp only[aF] at h⊢
   obtain⟨vs,e,h⟩:=h
   exact⟨vs,e,aA.sc cs vs hs h⟩
 | .any,_,hs,_=>by simp[Eng.sc] at hs
 | .d (.dC _),_,hs,_=>by simp[Eng.sc] at hs
 | .ptr _ _,_,hs,_=>by simp[Eng.sc] at hs
 | .acc _,_,hs,_=>by simp[Eng.sc] at hs
 | .gM _ _ _ _,_,hs,_=>by simp[Eng.sc] at hs
 | .gy _ _ _,_,hs,_=>by simp[Eng.sc] at hs
 | .fn _ _,_,hs,_=>by simp[Eng.sc] at hs
theorem aA.sc:∀(ps:List PV)(vs:List Value),scs ps=true→aA w ok ν st ps vs→aA w' ok' ν' st' ps vs
 | [],[],_,_=>by simp[aA]
 | p::ps,v::vs,hs,h=>by
   simp only[Eng.scs,ai] at hs
   simp only[aA] at h⊢
   exact⟨aF.sc p v hs.1 h.1,aA.sc ps vs hs.2 h.2⟩
 | [],_::_,_,h=>by simp[aA] at h
 | _::_,[],_,h=>by simp[aA] at h
end
end
mutual
inductive Vw(g:G)(ks:List Nat):PV→PV→Prop where
 | same {p:PV} (h:p.lt 0=true):Vw g ks p p
 | nil:Vw g ks .b6 (.d (.dC []))
 | acc {k:Nat} {e:TypeId} {xs:List (List D)} (h:x8 k ks=true) (hk:g.at k=some (.acc e xs)):Vw g ks (.acc k) (.d (.dC xs))
 | fw {k:Nat} {e:TypeId} {xs:List (List T)} {ys:List (List D)} (h:x8 k ks=true) (hk:g.at k=some (.fw e xs)) (hf:cZ xs=some ys):Vw g ks (.acc k) (.d (.dC ys))
 | agg {cs ds:List PV} (h:iR g ks cs ds):Vw g ks (.agg cs) (.agg ds)
 | fn {f:Nat} {cs ds:List PV} (h:iR g ks cs ds):Vw g ks (.fn f cs) (.fn f ds)
 | box {k:Nat} {cs:List PV} {ds:List D} (h:x8 k ks=true) (hk:g.at k=some (.box cs)) (hc:iR g ks cs (cF ds)):Vw g ks (.ptr k 0) (.gy [ds] 0 0)
inductive iR(g:G)(ks:List Nat):List PV→List PV→Prop where
 | nil:iR g ks [] []
 | cons {p q:PV} {ps qs:List PV} (h:Vw g ks p q) (h':iR g ks ps qs):iR g ks (p::ps) (q::qs)
end
section
variable{g g2:G}{ks:List Nat}
mutual
theorem Vw.Qg{p q:PV}:Vw g ks p q→q.lt 0=true
 | .same h=>h
 | .nil=>rfl
 | .acc _ _=>rfl
 | .fw _ _ _=>rfl
 | .agg h=>by simp only[PV.lt];exact iR.Qg h
 | .fn h=>by simp only[PV.lt];exact iR.Qg h
 | .box _ _ _=>rfl
theorem iR.Qg{ps qs:List PV}:iR g ks ps qs→tM 0 qs=true
 | .nil=>rfl
 | .cons h h'=>by simp only[tM,ai];exact⟨Vw.Qg h,iR.Qg h'⟩
end
mutual
theorem Vw.agree(ha:∀k∈ks,g2.at k=g.at k){p q:PV}:Vw g ks p q→Vw g2 ks p q
 | .same h=>.same h
 | .nil=>.nil
 | .acc h hk=>.acc h ((ha _ (qt.1 h)).trans hk)
 | .fw h hk hf=>.fw h ((ha _ (qt.1 h)).trans hk) hf
 | .agg h=>.agg (iR.agree ha h)
 | .fn h=>.fn (iR.agree ha h)
 | .box h hk hc=>.box h ((ha _ (qt.1 h)).trans hk) (iR.agree ha hc)
theorem iR.agree(ha:∀k∈ks,g2.at k=g.at k){ps qs:List PV}:iR g ks ps qs→iR g2 ks ps qs
 | .nil=>.nil
 | .cons h h'=>.cons (Vw.agree ha h) (iR.agree ha h')
end
end
section
variable{P:Program}{X:Cx}{ν ν':Nat→Nm}{g:G}{a:Act}{w:World}{ok:Nat→Prop}{st:Nat→Option En}{ks:List Nat}
mutual
theorem aF.Qg(hw:∀b,cG X ν g.at b→b<w.heap.size→ok b∧w.heap[b]?=w.heap[b]?):∀(p:PV)(v:Value),p.lt 0=true→aF w (cG X ν g.at) ν g.at p v→aF w ok ν' st p v
 | .any,_,_,_=>by simp[aF]
 | .undef,_,_,h=>by simpa[aF] using h
 | .b6,_,_,h=>by simpa[aF] using h
 | .d x,v,_,h=>by
   simp only[aF] at h⊢
   exact h.frame hw (aJ _)
 | .agg cs,v,hl,h=>by
   simp only[PV.lt] at hl
   simp only[aF] at h⊢
   obtain⟨vs,e,h⟩:=h
   exact⟨vs,e,aA.Qg hw cs vs hl h⟩
 | .gV cs,v,hl,h=>by
   simp only[PV.lt] at hl
   simp only[aF] at h⊢
   obtain⟨vs,e,h⟩:=h
   exact⟨vs,e,aA.Qg hw cs vs hl h⟩
 | .gy xs i off,v,_,h=>by
   simp only[aF] at h⊢
   obtain⟨b,o,cap,h1,h2,h3⟩:=h
   exact⟨b,o,cap,h1.frame hw (aJ _),h2,h3⟩
 | .fn f cs,v,hl,h=>by
   simp only[PV.lt] at hl
   simp only[aF] at h⊢
   obtain⟨vs,e,h⟩:=h
   exact⟨vs,e,aA.Qg hw cs vs hl h⟩
 | .ptr _ _,_,hl,_=>by simp[PV.lt] at hl
 | .acc _,_,hl,_=>by simp[PV.lt] at hl
 | .gM _ _ _ _,_,hl,_=>by simp[PV.lt] at hl
theorem aA.Qg(hw:∀b,cG X ν g.at b→b<w.heap.size→ok b∧w.heap[b]?=w.heap[b]?):∀(ps:List PV)(vs:List Value),tM 0 ps=true→aA w (cG X ν g.at) ν g.at ps vs→aA w ok ν' st ps vs
 | [],[],_,_=>by simp[aA]
 | p::ps,v::vs,hl,h=>by
   simp only[tM,ai] at hl
   simp only[aA] at h⊢
   exact⟨aF.Qg hw p v hl.1 h.1,aA.Qg hw ps vs hl.2 h.2⟩
 | [],_::_,_,h=>by simp[aA] at h
 | _::_,[],_,h=>by simp[aA] at h
end
theorem Q7{w:World}{ok:Nat→Prop}{ν:Nat→Nm}{st:Nat→Option En}:∀{ds:List D}{vs:List Value},aA w ok ν st (cF ds) vs→∀(j:Nat)(d:D)(v:Value),ds[j]?=some d→vs[j]?=some v→ij w ok d v
 | [],_,_,j,d,v,h,_=>by simp at h
 | _::_,[],h,_,_,_,_,_=>by simp[cF,aA] at h
 | e::ds,u::vs,h,0,d,v,h1,h2=>by
   simp only[cF,aQ,aA,aF] at h
   obtain rfl:e=d:=by simpa using h1
   obtain rfl:u=v:=by simpa using h2
   exact h.1
 | e::ds,u::vs,h,j+1,d,v,h1,h2=>by
   simp only[cF,aQ,aA] at h
   exact Q7 (ds:=ds) h.2 j d v (by simpa using h1) (by simpa using h2)
theorem MJ{w:World}{ok:Nat→Prop}{ν:Nat→Nm}{st:Nat→Option En}{b:Nat}{ds:List D}{vs:List Value}(e7:ok b)(hb:b<w.heap.size)(hc:jW w b 0 vs)(h:aA w ok ν st (cF ds) vs) :
 ij w ok (.dC [ds]) (.slice (some ⟨b,0,none⟩) [ds].length 1):=by
 have hl:vs.length=ds.length:=by simpa[cF] using h.length
 refine .dC [ds] [vs] b 0 1 ds.length e7 hb (by simp) (by unfold maxLen;omega) (by simp[LB]) rfl ?_ ?_ (by simpa using hc) ?_
 ·intro i x hx
  cases i with
  | zero=>obtain rfl:ds=x:=by simpa using hx
          rfl
  | succ i=>simp at hx
 ·intro i x hx
  cases i with
  | zero=>obtain rfl:vs=x:=by simpa using hx
          exact hl
  | succ i=>simp at hx
 ·intro i j x u d v h1 h2 h3 h4
  cases i with
  | zero=>
    obtain rfl:ds=x:=by simpa using h1
    obtain rfl:vs=u:=by simpa using h2
    exact Q7 h j d v h3 h4
  | succ i=>simp at h1
mutual
theorem aF.vw(hs:Sat P X ν g a w)(hw:∀b,cG X ν g.at b→b<w.heap.size→ok b∧w.heap[b]?=w.heap[b]?)(iz:∀b,Own ν g.at b→ok b){p q:PV}:∀(v:Value),Vw g ks p q→aF w (cG X ν g.at) ν g.at p v→aF w ok ν' st q v
 | v,.same hl,h=>aF.Qg hw _ v hl h
 | v,.nil,h=>by
   simp only[aF] at h⊢
   rw[h];exact .nil
 | v,.acc _ hk,h=>by
   simp only[aF] at h⊢
   rw[h.2]
   obtain⟨us,h1,h2,h3,_⟩:=hs.en _ _ hk
   exact wS h1 h2 h3 (fun b hb=>iz b ⟨_,_,hk,rfl,.inl hb⟩) hw
 | v,.fw (xs:=xs) (e:=e) _ hk hf,h=>by
   simp only[aF] at h⊢
   rw[h.2]
   have hen:=hs.en _ _ hk
   exact kG.data hw (.own e xs) _ _ _ (by simp only[T.Gl,hf]) hen.1 fun b hb=>iz b ⟨_,_,hk,rfl,oO.2 hb⟩
 | v,.agg hc,h=>by
   simp only[aF] at h⊢
   obtain⟨vs,e,h⟩:=h
   exact⟨vs,e,aA.vw hs hw iz vs hc h⟩
 | v,.fn hc,h=>by
   simp only[aF] at h⊢
   obtain⟨vs,e,h⟩:=h
   exact⟨vs,e,aA.vw hs hw iz vs hc h⟩
 | v,.box _ hk hc,h=>by
   simp only[aF] at h⊢
   obtain⟨_,b,h1,h2⟩:=h
   obtain⟨b',vs,T,h3,h4,h5,_⟩:=hs.en _ _ hk
   obtain rfl:b'=b:=by
    rw[h1] at h3
    simpa using h3.symm
   have h6:=aA.vw hs hw iz vs hc h5
   refine⟨b',0,1,MJ (iz b' ⟨_,_,hk,rfl,.inl (by rw[h1];rfl)⟩) (qh h4) (wv h4) h6,by simp,by rw[h2];simp⟩
theorem aA.vw(hs:Sat P X ν g a w)(hw:∀b,cG X ν g.at b→b<w.heap.size→ok b∧w.heap[b]?=w.heap[b]?)(iz:∀b,Own ν g.at b→ok b){ps qs:List PV}:∀(vs:List Value),iR g ks ps qs→aA w (cG X ν g.at) ν g.at ps vs→aA w ok ν' st qs vs
 | [],.nil,_=>by simp[aA]
 | v::vs,.cons h1 h2,h=>by
   simp only[aA] at h⊢
   exact⟨aF.vw hs hw iz v h1 h.1,aA.vw hs hw iz vs h2 h.2⟩
 | _::_,.nil,h=>by simp[aA] at h
 | [],.cons _ _,h=>by simp[aA] at h
end
end
theorem YY{P:Program}{o:Oper}{g:G}{nx:Operand}{xs:List Operand}{tys:Array TypeId}{d:Nat}(ho:o.op= .call ⟨.value nx,⟨xs⟩,tys⟩)(hd:o.dst=some d){f:FuncId}{cap:List PV}(hfn:g.ev nx= .fn f cap)
 (ks:List Nat) (cX:List PV) (R:PV→List (Option En)→Prop) (hC:C P f cX [] R) (o0:iR g ks (xs.map g.ev++cap) cX) (hR:∀r s,R r s→sc r=true)
 (X:Cx) (ν:Nat→Nm) (a:Act) (w:World) (next:Act→World→Prop) (Q:Exit→Act→World→Prop) (hs:Sat P X ν g a w)
 (hn:∀r s ν' a' w',R r s→Sat P X ν' ⟨lY g.sl d r,g.st⟩ a' w'→next a' w'):o.wp P a w next Q:=by
 have hfv:=hs.ev nx
 rw[hfn] at hfv
 simp only[aF] at hfv
 obtain⟨vcap,hfv,jX⟩:=hfv
 have hxs:=Bb hs xs
 let Xc:Cx:=⟨w,Own ν (da []),ν,da [],X.Z⟩
 have hno:∀b,¬Own ν (da []) b:=by
  rintro b ⟨k,e,h,_⟩
  cases k<;>simp[da] at h
 have hw:∀b,cG X ν g.at b→b<w.heap.size→cG Xc ν (da []) b∧w.heap[b]?=w.heap[b]?:=fun b hb _=>⟨⟨hno b,hb.2⟩,rfl⟩
 have iz:∀b,Own ν g.at b→cG Xc ν (da []) b:=fun b hb=>⟨hno b,hs.K4 hb⟩
 have l7:aA w (cG Xc ν (da [])) ν (da []) cX (xs.map a.eval++vcap):=aA.vw hs hw iz _ o0 (hxs.app jX)
 obtain⟨⟨fn,hfn1,hfn2,hfn3⟩,hC⟩:=hC
 have hr:(execOp a.eval o).run P w= .ok (.enter f ⟨xs.map a.eval++vcap⟩) w:=by
  have n1 : ¬ fn.name = "runtime.NumGoroutine" := by simpa using hfn3
  have n2:¬fn.body=none:=fun e=>by rw[e] at hfn2;cases hfn2
  simp[execOp,ho,resolve,hfv,Deferred.ofValue,invoke,callFunc,program,hfn1,n1,n2,Sem.run]
 have lq:∀k,(⟨cX,[]⟩:G).at k=none:=fun k=>by cases k<;>rfl
 have hent:Sat P Xc ν ⟨cX,[]⟩ ⟨⟨xs.map a.eval++vcap⟩,[]⟩ w:=by
  refine⟨by simpa using l7.length,fun t=>?_,fun k e h=>?_,fun k k' e e' b h=>?_,fun b hb=>?_,fun k h=>?_,fun k h=>?_,⟨fun b hb=>?_,hs.kt rfl fun b hb=>(hno b hb).elim⟩,sH.refl _ w,rfl⟩
  ·have key:∀(ps:List PV)(us:List Value)(t:Nat),aA w (cG Xc ν (da [])) ν (da []) ps us→aF w (cG Xc ν (da [])) ν (da []) (nth ps t) (us.getD t Go.undef):=by
    intro ps
    induction ps with
    | nil=>intro us t _;cases t<;>simp[nth,aF]
    | cons p ps ih=>
      intro us t hr
      cases us with
      | nil=>simp[aA] at hr
      | cons u us=>
        simp only[aA] at hr
        cases t with
        | zero=>simpa[nth] using hr.1
        | succ t=>simpa[nth] using ih us t hr.2
   have:=key cX _ t l7
   show aF w (cG Xc ν (da [])) ν (da []) (nth cX t) ((⟨xs.map a.eval++vcap⟩:Array Value).getD t Go.undef)
   simpa[Array.getD_eq_getD_getElem?] using this
  ·rw[lq] at h;cases h
  ·rw[lq] at h;cases h
  ·exact(hno b hb).elim
  ·rw[lq] at h;cases h
  ·exact⟨rfl,h⟩
  ·exact⟨Nat.lt_of_lt_of_le (hs.Fk b hb).1 hs.Ai.size,hno b⟩
 unfold Oper.wp
 rw[hr,Oper.upon_enter]
 refine(hC Xc (xs.map a.eval++vcap) rfl rfl hent).mono ?_
 rintro e w' ⟨v,res,st',ν',rfl,hRr,gL⟩
 show next (a.put o.dst v) w'
 rw[hd]
 refine hn res st' ν _ _ hRr (hs.XA (gL.Ai.mono fun b hb _=>hno b hb) d res v fun _ _=>?_)
 have:=gL.sl 0
 exact aF.sc res v (hR _ _ hRr) this
section
variable{E:Env}{g:G}{d:Nat}{ty:TypeId}{pos:String}{eU:Array Edge}{gd:Option (Nat×Bool)}
theorem YZ(nx:Operand)(xs:List Operand)(tys:Array TypeId)(f:FuncId)(cap:List PV)(hfn:g.ev nx= .fn f cap)(ks:List Nat)(cX:List PV)(res:PV)(hC:C E.P f cX [] (bD res []))
 (o0:iR g ks (xs.map g.ev++cap) cX) (hsc:sc res=true) :
 kM E.P ⟨some d,.call ⟨.value nx,⟨xs⟩,tys⟩,ty,pos,eU,gd⟩ g ⟨dj nx++xs.flatMap dj,ks⟩ ⟨some (d,res),[]⟩:=by
 intro g2 hg
 have e1:=hg.ev (x:=nx) (fun t h=>by simp[h])
 have e2:=uU hg xs (fun t h=>by simp only[aP];exact .inr h)
 intro X ν a w next Q hs hn
 refine YY rfl rfl (by rw[e1,hfn]) ks cX (bD res []) hC (by rw[e2];exact o0.agree (fun k hk=>hg.p k hk)) (fun r s h=>by rw[h.1];exact hsc) X ν a w next Q hs ?_
 rintro r s ν' a' w' ⟨rfl,rfl⟩ hs'
 exact hn ν' a' w' hs'
end
def Fin(E:Env)(rs:List ResultVar)(n0:Nat)(R:PV→List (Option En)→Prop)(g:G):Prop:=∃g',pr E.P n0 g g'∧aap E rs n0 R g'
theorem Fin.plain{E:Env}{rs:List ResultVar}{R:PV→List (Option En)→Prop}{g:G}(ps:List PV)(q:PV)(h1:As E g rs=some ps)(h2:cv (kV ps) q)(hl:q.lt 0=true)(hR:R q []):True:=trivial
end Go.Eng
namespace Go.Eng
open Go.RowKit
inductive AM where
 | go(R:Rd)(δ:Dl)
 | ou(φ:Prop)(R:Rd)(δ:Dl)
 | stop
def AM.Ok(P:Program)(o:Oper)(g:G):AM→Prop
 | .go R δ=>kM P o g R δ
 | .ou φ R δ=>φ→kM P o g R δ
 | .stop=>True
def yl:Nat→Nat→Bool
 | 0,_=>true
 | _+1,0=>false
 | n+1,m+1=>yl n m
theorem kX:∀{n m:Nat},yl n m=true→n≤m
 | 0,_,_=>bc _
 | n+1,0,h=>by simp[yl] at h
 | n+1,m+1,h=>Nat.succ_le_succ (kX (by simpa[yl] using h))
def Im:Nat→Nat→Bool
 | 0,0=>true
 | n+1,m+1=>Im n m
 | _,_=>false
theorem xJ:∀{n m:Nat},Im n m=true→n=m
 | 0,0,_=>rfl
 | n+1,m+1,h=>congrArg (·+1) (xJ (by simpa[Im] using h))
 | 0,m+1,h=>by simp[Im] at h
 | n+1,0,h=>by simp[Im] at h
def KJ:List D→Nat
 | []=>0
 | _::as=>KJ as+1
theorem LR:∀(l:List D),KJ l=l.length
 | []=>rfl
 | _::as=>by simp[KJ,LR as]
theorem Sf{n:Nat}{l:List D}(h:yl n (KJ l)=true):n≤l.length:=by
 have:=kX h
 rwa [LR] at this
theorem XN{n:Nat}{l:List D}(h:Im (KJ l) n=true):l.length=n:=by
 have:=xJ h
 rwa [LR] at this
def l6:List (Option En)→Nat
 | []=>0
 | _::as=>l6 as+1
theorem nP:∀(l:List (Option En)),l6 l=l.length
 | []=>rfl
 | _::as=>by simp[l6,nP as]
def wY:List PV→Nat
 | []=>0
 | _::as=>wY as+1
theorem ow:∀(l:List PV),wY l=l.length
 | []=>rfl
 | _::as=>by simp[wY,ow as]
def G.new(g:G):Nat:=l6 g.st
theorem G.lX(g:G):g.at g.new=none:=F6 (by unfold G.new;rw[nP];exact aJ _)
def tk:Nat→List PV→List PV
 | 0,_=>[]
 | _+1,[]=>[]
 | n+1,a::as=>a::tk n as
theorem JY:∀(n:Nat)(l:List PV),tk n l=l.take n
 | 0,l=>by simp[tk]
 | n+1,[]=>by simp[tk]
 | n+1,a::as=>by simp[tk,JY n as]
def dr:Nat→List PV→List PV
 | 0,l=>l
 | _+1,[]=>[]
 | n+1,_::as=>dr n as
theorem Kf:∀(n:Nat)(l:List PV),dr n l=l.drop n
 | 0,l=>by simp[dr]
 | n+1,[]=>by simp[dr]
 | n+1,a::as=>by simp[dr,Kf n as]
def Qy:List PV→List PV→List PV
 | cs,[]=>cs
 | [],vs=>vs
 | _::cs,v::vs=>v::Qy cs vs
def QD:List PV→Nat→List PV→List PV
 | cs,0,vs=>Qy cs vs
 | [],_+1,vs=>vs
 | c::cs,n+1,vs=>c::QD cs n vs
theorem R5:∀(cs vs:List PV),vs.length≤cs.length→Qy cs vs=vs++cs.drop vs.length
 | cs,[],_=>by cases cs<;>simp[Qy]
 | [],v::vs,h=>by simp at h
 | c::cs,v::vs,h=>by simp[Qy,R5 cs vs (by simpa using h)]
theorem LS:∀(cs:List PV)(n:Nat)(vs:List PV),n+vs.length≤cs.length→QD cs n vs=z7 cs n vs
 | cs,0,vs,h=>by
   rw[di] at h
   have e:QD cs 0 vs=Qy cs vs:=by cases cs<;>rfl
   rw[e,R5 cs vs h]
   simp[z7]
 | [],n+1,vs,h=>by simp at h
 | c::cs,n+1,vs,h=>by
   have:=LS cs n vs (by simp at h;omega)
   simp only[QD,this,z7]
   rw[show n+1+vs.length=n+vs.length+1 by omega]
   simp
def Qe:List (Nat×Nat×Nat)→Nat→Option (Nat×Nat×Nat)
 | [],_=>none
 | a::_,0=>some a
 | _::as,n+1=>Qe as n
theorem KH:∀(l:List (Nat×Nat×Nat))(n:Nat),Qe l n=l[n]?
 | [],n=>by simp[Qe]
 | a::as,0=>rfl
 | a::as,n+1=>by simp[Qe,KH as n]
def T5:List PV→Nat→Option PV
 | [],_=>none
 | a::_,0=>some a
 | _::as,n+1=>T5 as n
theorem RL:∀(l:List PV)(n:Nat),T5 l n=l[n]?
 | [],n=>by simp[T5]
 | a::as,0=>rfl
 | a::as,n+1=>by simp[T5,RL as n]
def pls:List (Nat×Nat×Nat)→List (Nat×Nat)
 | []=>[]
 | (_,o,s)::r=>(o,s)::pls r
theorem VY:∀(l:List (Nat×Nat×Nat)),pls l=l.map fun x=>(x.2.1,x.2.2)
 | []=>rfl
 | (a,o,s)::r=>by simp[pls,VY r]
def evp(g:G):List (Nat×Operand)→List (Nat×PV)
 | []=>[]
 | (i,x)::r=>(i,g.ev x)::evp g r
theorem Vx(g:G):∀(l:List (Nat×Operand)),evp g l=l.map fun x=>(x.1,g.ev x.2)
 | []=>rfl
 | (i,x)::r=>by simp[evp,Vx g r]
def ev2(g:G):List (Nat×Operand)→List PV
 | []=>[]
 | (_,x)::r=>g.ev x::ev2 g r
theorem Ri(g:G):∀(l:List (Nat×Operand)),ev2 g l=l.map fun x=>g.ev x.2
 | []=>rfl
 | (i,x)::r=>by simp[ev2,Ri g r]
def ix2:List (Nat×Operand)→List Nat
 | []=>[]
 | (i,_)::r=>i::ix2 r
theorem Rq:∀(l:List (Nat×Operand)),ix2 l=l.map (·.1)
 | []=>rfl
 | (i,x)::r=>by simp[ix2,Rq r]
def sl2:List (Nat×Operand)→List Nat
 | []=>[]
 | (_,x)::r=>dj x++sl2 r
theorem Lo:∀(l:List (Nat×Operand)),sl2 l=l.flatMap fun x=>dj x.2
 | []=>rfl
 | (i,x)::r=>by simp[sl2,Lo r]
def PY:List (Nat×Operand)→Nat
 | []=>0
 | _::r=>PY r+1
theorem K3:∀(l:List (Nat×Operand)),PY l=l.length
 | []=>rfl
 | (i,x)::r=>by simp[PY,K3 r]
def Tp:List (Nat×Nat)→Nat→Option (Nat×Nat)
 | [],_=>none
 | a::_,0=>some a
 | _::as,n+1=>Tp as n
theorem Sc:∀(l:List (Nat×Nat))(n:Nat),Tp l n=l[n]?
 | [],n=>by simp[Tp]
 | a::as,0=>rfl
 | a::as,n+1=>by simp[Tp,Sc as n]
def Nx(places:List (Nat×Nat))(cs:List PV):List (Nat×PV)→Option (List PV)
 | []=>some cs
 | (i,p)::rest=>
   match Tp places i with
   | none=>none
   | some (off,sz)=>match p.whole,jk (wY (eM p)) sz,yl (off+sz) (wY cs) with
     | true,true,true=>Nx places (QD cs off (eM p)) rest
     | _,_,_=>none
theorem SE:∀(rest:List (Nat×PV))(places:List (Nat×Nat))(cs r:List PV),Nx places cs rest=some r→GH places cs rest=some r
 | [],_,_,_,h=>h
 | (i,p)::rest,places,cs,r,h=>by
   simp only[Nx] at h
   simp only[GH]
   split at h
   ·cases h
   ·rename_i off sz hpl
    rw[Sc] at hpl
    rw[hpl]
    simp only
    split at h
    ·rename_i h1 h2 h3
     have h2:wY (eM p)=sz:=bK h2
     rw[ow] at h2
     have h3:=kX h3
     rw[ow] at h3
     rw[if_pos ⟨h1,h2,h3⟩]
     rw[LS _ _ _ (by omega)] at h
     exact SE rest places _ r h
    ·cases h
def i64(p:PV):Option Int:=match p with | .d (.val (.int .i64 n))=>some n|_=>none
def iop(d:Nat)(R:Rd):BinOp→Int→Int→AM
 | .add,m,n=>.ou (Td (m+n)) R ⟨some (d,.d (.val (.int .i64 (m+n)))),[]⟩
 | .sub,m,n=>.ou (Td (m-n)) R ⟨some (d,.d (.val (.int .i64 (m-n)))),[]⟩
 | .mul,m,n=>.ou (Td (m*n)) R ⟨some (d,.d (.val (.int .i64 (m*n)))),[]⟩
 | .quo,m,n=>.ou (n≠0∧Td (m.tdiv n)) R ⟨some (d,.d (.val (.int .i64 (m.tdiv n)))),[]⟩
 | .rem,m,n=>.ou (n≠0) R ⟨some (d,.d (.val (.int .i64 (m.tmod n)))),[]⟩
 | _,_,_=>.stop
def cop(d:Nat)(R:Rd):BinOp→Int→Int→AM
 | .eql,m,n=>.go R ⟨some (d,.d (.val (.bool (m == n)))),[]⟩
 | .neq,m,n=>.go R ⟨some (d,.d (.val (.bool (m != n)))),[]⟩
 | .lss,m,n=>.go R ⟨some (d,.d (.val (.bool (decide (m<n))))),[]⟩
 | .leq,m,n=>.go R ⟨some (d,.d (.val (.bool (decide (m≤n))))),[]⟩
 | .gtr,m,n=>.go R ⟨some (d,.d (.val (.bool (decide (m>n))))),[]⟩
 | .geq,m,n=>.go R ⟨some (d,.d (.val (.bool (decide (m≥n))))),[]⟩
 | _,_,_=>.stop
def ZC:BinOp→Bool
 | .eql=>true
 | .neq=>true
 | .lss=>true
 | .leq=>true
 | .gtr=>true
 | .geq=>true
 | _=>false
def sop(d:Nat)(R:Rd):BinOp→List UInt8→List UInt8→AM
 | .add,l,m=>.ou (l.length+m.length≤LB) R ⟨some (d,.d (.str (l++m))),[]⟩
 | .eql,l,m=>.go R ⟨some (d,.d (.val (.bool (l == m)))),[]⟩
 | .neq,l,m=>.go R ⟨some (d,.d (.val (.bool (!(l == m))))),[]⟩
 | .lss,l,m=>.go R ⟨some (d,.d (.val (.bool (Op.bytesLess l m)))),[]⟩
 | .leq,l,m=>.go R ⟨some (d,.d (.val (.bool (Op.bytesLess l m||l == m)))),[]⟩
 | .gtr,l,m=>.go R ⟨some (d,.d (.val (.bool (!(Op.bytesLess l m||l == m))))),[]⟩
 | .geq,l,m=>.go R ⟨some (d,.d (.val (.bool (!Op.bytesLess l m)))),[]⟩
 | _,_,_=>.stop
def Wz:IntKind→IntKind→Bool
 | .i64,.i64=>true
 | .u8,.u8=>true
 | .u64,.u64=>true
 | .u32,.u32=>true
 | _,_=>false
theorem LH{a b:IntKind}(h:Wz a b=true):a=b:=by cases a<;>cases b<;>first|rfl|(cases h;done)
def bop(E:Env)(g:G)(d:Nat)(b:BinOp)(t:TypeId)(x y:Operand):AM:=
 match g.ev x,g.ev y with
 | .d (.val (.int k m)),.d (.val (.int k' n))=>
   match Wz k k' with
   | true=>match ZC b with
     | true=>cop d ⟨dj x++dj y,[]⟩ b m n
     | false=>match Wz k .i64 with
       | true=>iop d ⟨dj x++dj y,[]⟩ b m n
       | false=>.stop
   | false=>.stop
 | .d (.str l),.d (.str m)=>sop d ⟨dj x++dj y,[]⟩ b l m
 | .d (.val (.bool m)),.d (.val (.bool n))=>
   match E.ti t with
   | some ti=>match ti.ty,b with
     | .bool,.eql=>.go ⟨dj x++dj y,[]⟩ ⟨some (d,.d (.val (.bool (m == n)))),[]⟩
     | .bool,.neq=>.go ⟨dj x++dj y,[]⟩ ⟨some (d,.d (.val (.bool (!(m == n))))),[]⟩
     | _,_=>.stop
   | none=>.stop
 | _,_=>.stop
section
variable{E:Env}{g:G}{d:Nat}{ty:TypeId}{pos:String}{eU:Array Edge}{gd:Option (Nat×Bool)}{dn:Option Nat}
theorem aaU(b:BinOp)(m n:Int)(t u:TypeId)(x y:Operand)(hx:g.ev x= .d (.val (.int .i64 m)))(hy:g.ev y= .d (.val (.int .i64 n))) :
 (iop d ⟨dj x++dj y,[]⟩ b m n).Ok E.P ⟨some d,.binOp b t x y u,ty,pos,eU,gd⟩ g:=by
 cases b<;>first
  | exact fun h=>aaX x y m n t u hx hy h
  | exact fun h=>aa3 x y m n t u hx hy h
  | exact fun h=>aab x y m n t u hx hy h
  | exact fun h=>ZR x y m n t u hx hy h.1 h.2
  | exact fun h=>aac x y m n t u hx hy h
  | exact trivial
theorem aaZ(b:BinOp)(k:IntKind)(m n:Int)(t u:TypeId)(x y:Operand)(hx:g.ev x= .d (.val (.int k m)))(hy:g.ev y= .d (.val (.int k n))) :
 (cop d ⟨dj x++dj y,[]⟩ b m n).Ok E.P ⟨some d,.binOp b t x y u,ty,pos,eU,gd⟩ g:=by
 cases b<;>first
  | exact YB _ x y k m n _ t u hx hy rfl
  | exact trivial
theorem ZL(b:BinOp)(l m:List UInt8)(t u:TypeId)(x y:Operand)(hx:g.ev x= .d (.str l))(hy:g.ev y= .d (.str m)) :
 (sop d ⟨dj x++dj y,[]⟩ b l m).Ok E.P ⟨some d,.binOp b t x y u,ty,pos,eU,gd⟩ g:=by
 cases b<;>first
  | exact fun h=>Z8 x y l m t u hx hy h
  | exact Ya _ x y l m _ t u hx hy rfl
  | exact trivial
theorem ZT(b:BinOp)(t u:TypeId)(x y:Operand):(bop E g d b t x y).Ok E.P ⟨some d,.binOp b t x y u,ty,pos,eU,gd⟩ g:=by
 unfold bop
 split
 ·rename_i k m k' n hx hy
  split
  ·rename_i hk
   have hk:=LH hk
   subst hk
   split
   ·exact aaZ b _ m n t u x y hx hy
   ·split
    ·rename_i hk
     have hk:=LH hk
     subst hk
     exact aaU b m n t u x y hx hy
    ·trivial
  ·trivial
 ·rename_i l m hx hy
  exact ZL b l m t u x y hx hy
 ·rename_i m n hx hy
  split
  ·rename_i ti ht
   split
   ·rename_i kJ
    exact aaI x y m n t u ti ht kJ hx hy
   ·rename_i kJ
    exact aam x y m n t u ti ht kJ hx hy
   ·trivial
  ·trivial
 ·trivial
end
def T.pv:T→PV
 | .leaf d=>.d d
 | .ref j=>.acc j
 | .own _ _=>.any
def pvT:List T→List PV
 | []=>[]
 | t::ts=>t.pv::pvT ts
def oN(xs:List (List T))(i:Nat):List T:=xs.getD i []
def lZ:List T→Bool
 | []=>true
 | .own _ _::_=>false
 | _::ts=>lZ ts
def rM:List (List T)→Bool
 | []=>true
 | x::xs=>lZ x&&rM xs
def toT:PV→Option T
 | .d x=>some (.leaf x)
 | .b6=>some (.leaf (.dC []))
 | .acc j=>some (.ref j)
 | _=>none
def CM:List PV→Option (List T)
 | []=>some []
 | p::ps=>match toT p,CM ps with|some x,some xs=>some (x::xs)|_,_=>none
def Q2:List T→Nat
 | []=>0
 | _::as=>Q2 as+1
theorem Fh:∀(l:List T),Q2 l=l.length
 | []=>rfl
 | _::as=>by simp[Q2,Fh as]
theorem UM{xs:List (List T)}{i:Nat}(h:i<xs.length):xs[i]?=some (oN xs i):=by simp[oN,ct,af h]
section
variable{P:Program}{w:World}{ok:Nat→Prop}{ν:Nat→Nm}{st:Nat→Option En}
theorem kG.pv{t:T}{v:Value}{F:List Nat}(h:kG P w ok ν st t v F):aF w ok ν st t.pv v:=by
 cases t with
 | leaf d=>simp only[kG] at h;simp only[T.pv,aF];exact h.1
 | ref j=>simp only[kG] at h;simp only[T.pv,aF];exact⟨h.1,h.2.1⟩
 | own e xs=>simp only[T.pv,aF]
theorem a8.pv:∀{ts:List T}{vs:List Value}{F:List Nat},a8 P w ok ν st ts vs F→aA w ok ν st (pvT ts) vs
 | [],[],_,_=>by simp[pvT,aA]
 | [],_::_,_,h=>by simp[a8] at h
 | _::_,[],_,h=>by simp[a8] at h
 | t::ts,v::vs,F,h=>by
   simp only[a8] at h
   obtain⟨F1,F2,h1,h2,_⟩:=h
   simp only[pvT,aA]
   exact⟨h1.pv,h2.pv⟩
theorem kG.one{t:T}{v:Value}{F:List Nat}(h:kG P w ok ν st t v F)(hν:∀k,(st k).isSome=true→(ν k).v.oneCell'=true):v.oneCell'=true:=by
 cases t with
 | leaf d=>simp only[kG] at h;exact h.1.one
 | ref j=>simp only[kG] at h;rw[h.2.1];exact hν j h.1
 | own e xs=>
   simp only[kG] at h
   obtain⟨us,F1,h1,_⟩:=h
   rcases h1.2 with⟨h2,_⟩|⟨b,c,cur,h2,_⟩<;>rw[h2]<;>rfl
theorem a8.one(hν:∀k,(st k).isSome=true→(ν k).v.oneCell'=true):∀{ts:List T}{vs:List Value}{F:List Nat},a8 P w ok ν st ts vs F→∀v∈vs,v.oneCell'=true
 | [],[],_,_,v,hv=>by cases hv
 | [],_::_,_,h,_,_=>by simp[a8] at h
 | _::_,[],_,h,_,_=>by simp[a8] at h
 | t::ts,v::vs,F,h,u,hu=>by
   simp only[a8] at h
   obtain⟨F1,F2,h1,h2,_⟩:=h
   rcases ax.1 hu with rfl|hu
   ·exact h1.one hν
   ·exact a8.one hν h2 u hu
theorem bx.one(hν:∀k,(st k).isSome=true→(ν k).v.oneCell'=true):∀{xs:List (List T)}{us:List (List Value)}{F:List Nat},bx P w ok ν st xs us F→∀u∈us,∀v∈u,v.oneCell'=true
 | [],[],_,_,v,hv=>by cases hv
 | [],_::_,_,h,_,_=>by simp[bx] at h
 | _::_,[],_,h,_,_=>by simp[bx] at h
 | t::ts,v::vs,F,h,u,hu=>by
   simp only[bx] at h
   obtain⟨F1,F2,h1,h2,_⟩:=h
   rcases ax.1 hu with rfl|hu
   ·exact h1.one hν
   ·exact bx.one hν h2 u hu
theorem a8.len:∀{ts:List T}{vs:List Value}{F:List Nat},a8 P w ok ν st ts vs F→vs.length=ts.length
 | [],[],_,_=>rfl
 | [],_::_,_,h=>by simp[a8] at h
 | _::_,[],_,h=>by simp[a8] at h
 | t::ts,v::vs,F,h=>by
   simp only[a8] at h
   obtain⟨F1,F2,_,h2,_⟩:=h
   simp[h2.len]
theorem bx.len:∀{ts:List (List T)}{vs:List (List Value)}{F:List Nat},bx P w ok ν st ts vs F→vs.length=ts.length
 | [],[],_,_=>rfl
 | [],_::_,_,h=>by simp[bx] at h
 | _::_,[],_,h=>by simp[bx] at h
 | t::ts,v::vs,F,h=>by
   simp only[bx] at h
   obtain⟨F1,F2,_,h2,_⟩:=h
   simp[h2.len]
theorem a8.append:∀{x y:List T}{u v:List Value}{F G:List Nat},a8 P w ok ν st x u F→a8 P w ok ν st y v G→a8 P w ok ν st (x++y) (u++v) (F++G)
 | [],y,[],v,F,G,h,h'=>by simp only[a8] at h;subst h;simpa using h'
 | [],_,_::_,_,_,_,h,_=>by simp[a8] at h
 | _::_,_,[],_,_,_,h,_=>by simp[a8] at h
 | t::ts,y,a::u,v,F,G,h,h'=>by
   simp only[a8] at h
   obtain⟨F1,F2,h1,h2,rfl⟩:=h
   simp only[bA,a8]
   exact⟨F1,F2++G,h1,h2.append h',by rw[bj]⟩
theorem bx.append:∀{x y:List (List T)}{u v:List (List Value)}{F G:List Nat},bx P w ok ν st x u F→bx P w ok ν st y v G→bx P w ok ν st (x++y) (u++v) (F++G)
 | [],y,[],v,F,G,h,h'=>by simp only[bx] at h;subst h;simpa using h'
 | [],_,_::_,_,_,_,h,_=>by simp[bx] at h
 | _::_,_,[],_,_,_,h,_=>by simp[bx] at h
 | t::ts,y,a::u,v,F,G,h,h'=>by
   simp only[bx] at h
   obtain⟨F1,F2,h1,h2,rfl⟩:=h
   simp only[bA,bx]
   exact⟨F1,F2++G,h1,h2.append h',by rw[bj]⟩
theorem a8.split:∀(n:Nat){x:List T}{u:List Value}{F:List Nat},a8 P w ok ν st x u F→∃F1 F2,a8 P w ok ν st (x.take n) (u.take n) F1∧a8 P w ok ν st (x.drop n) (u.drop n) F2∧F=F1++F2
 | 0,x,u,F,h=>⟨[],F,by simp[a8],by simpa using h,rfl⟩
 | n+1,[],[],F,h=>⟨[],F,by simp[a8],by simpa using h,rfl⟩
 | _+1,[],_::_,_,h=>by simp[a8] at h
 | _+1,_::_,[],_,h=>by simp[a8] at h
 | n+1,t::ts,a::u,F,h=>by
   simp only[a8] at h
   obtain⟨F1,F2,h1,h2,rfl⟩:=h
   obtain⟨G1,G2,k1,k2,rfl⟩:=a8.split n h2
   refine⟨F1++G1,G2,?_,by simpa using k2,by rw[bj]⟩
   simp only[dY,a8]
   exact⟨F1,G1,h1,k1,rfl⟩
theorem FE:∀{x:List T}{u:List Value}{F:List Nat},a8 P w ok ν st x u F→lZ x=true→F=[]
 | [],[],F,h,_=>by simpa only[a8] using h
 | [],_::_,_,h,_=>by simp[a8] at h
 | _::_,[],_,h,_=>by simp[a8] at h
 | t::ts,a::u,F,h,hn=>by
   simp only[a8] at h
   obtain⟨F1,F2,h1,h2,rfl⟩:=h
   cases t with
   | leaf d=>simp only[kG] at h1;simp only[lZ] at hn;rw[h1.2,FE h2 hn];rfl
   | ref j=>simp only[kG] at h1;simp only[lZ] at hn;rw[h1.2.2,FE h2 hn];rfl
   | own e xs=>simp[lZ] at hn
theorem O1:∀{x:List (List T)}{u:List (List Value)}{F:List Nat},bx P w ok ν st x u F→rM x=true→F=[]
 | [],[],F,h,_=>by simpa only[bx] using h
 | [],_::_,_,h,_=>by simp[bx] at h
 | _::_,[],_,h,_=>by simp[bx] at h
 | t::ts,a::u,F,h,hn=>by
   simp only[bx] at h
   obtain⟨F1,F2,h1,h2,rfl⟩:=h
   simp only[rM,ai] at hn
   rw[FE h1 hn.1,O1 h2 hn.2]
   rfl
theorem bx.get:∀(i:Nat){xs:List (List T)}{us:List (List Value)}{F:List Nat},bx P w ok ν st xs us F→i<xs.length →
 ∃u G,us[i]?=some u∧a8 P w ok ν st (oN xs i) u G∧∀(x':List T)(u':List Value),a8 P w ok ν st x' u' G→bx P w ok ν st (xs.set i x') (us.set i u') F
 | _,[],_,_,_,hi=>by simp at hi
 | _,_::_,[],_,h,_=>by simp[bx] at h
 | 0,x::xs,u::us,F,h,_=>by
   simp only[bx] at h
   obtain⟨F1,F2,h1,h2,rfl⟩:=h
   refine⟨u,F1,rfl,h1,fun x' u' h'=>?_⟩
   simp only[iC,bx]
   exact⟨F1,F2,h',h2,rfl⟩
 | i+1,x::xs,u::us,F,h,hi=>by
   simp only[bx] at h
   obtain⟨F1,F2,h1,h2,rfl⟩:=h
   obtain⟨u1,G,k1,k2,k3⟩:=bx.get i h2 (by simpa using hi)
   refine⟨u1,G,by simpa using k1,by simpa[oN] using k2,fun x' u' h'=>?_⟩
   simp only[n7,bx]
   exact⟨F1,F2,h1,k3 x' u' h',rfl⟩
theorem OH:∀{ps:List PV}{ts:List T},CM ps=some ts→ts.length=ps.length
 | [],ts,h=>by simp[CM] at h;simp[←h]
 | p::ps,ts,h=>by
   simp only[CM] at h
   split at h
   ·rename_i x xs h1 h2
    obtain rfl:=Option.some.inj h
    simp[OH h2]
   ·cases h
theorem Mn:∀{ps:List PV}{ts:List T}{vs:List Value},aA w ok ν st ps vs→CM ps=some ts→a8 P w ok ν st ts vs []
 | [],ts,[],_,h=>by simp only[CM,Option.some.injEq] at h;subst h;simp only[a8]
 | [],_,_::_,h,_=>by simp[aA] at h
 | _::_,_,[],h,_=>by simp[aA] at h
 | p::ps,ts,v::vs,h,ht=>by
   simp only[CM] at ht
   simp only[aA] at h
   split at ht
   ·rename_i x xs h1 h2
    obtain rfl:=Option.some.inj ht
    simp only[a8]
    refine⟨[],[],?_,Mn h.2 h2,rfl⟩
    have hp:=h.1
    cases p<;>simp only[toT] at h1<;>first|(cases h1;done)|skip
    ·obtain rfl:=Option.some.inj h1
     simp only[aF] at hp
     subst hp
     simp only[kG,and_true]
     exact .nil
    ·obtain rfl:=Option.some.inj h1
     simp only[aF] at hp
     simp only[kG,and_true]
     exact hp
    ·obtain rfl:=Option.some.inj h1
     simp only[aF] at hp
     simp only[kG,and_true]
     exact hp
   ·cases ht
theorem KQ:∀{xs:List (List D)}{us:List (List Value)}{sz:Nat},cC w ok sz xs us→bx P w ok ν st (lift xs) us []
 | [],us,sz,h=>by
   have:us=[]:=bG h.len
   subst this
   simp only[lift,dB,bx]
 | x::xs,[],sz,h=>by have:=h.len;simp at this
 | x::xs,u::us,sz,h=>by
   have h1:∀(x:List D)(u:List Value),x.length=u.length→(∀(j:Nat)(d:D)(v:Value),x[j]?=some d→u[j]?=some v→ij w ok d v)→a8 P w ok ν st (x.map T.leaf) u []:=by
    intro x
    induction x with
    | nil=>intro u hl _;cases u with
      | nil=>simp[a8]
      | cons a b=>simp at hl
    | cons d x ih=>intro u hl hr;cases u with
      | nil=>simp at hl
      | cons v u=>
        simp only[aQ,a8,kG]
        exact⟨[],[],⟨hr 0 d v rfl rfl,rfl⟩,ih u (by simpa using hl) fun j d' v' k1 k2=>hr (j+1) d' v' (by simpa using k1) (by simpa using k2),rfl⟩
   have h2:cC w ok sz xs us:=⟨by simpa using h.len,fun i y hy=>h.hx (i+1) y (by simpa using hy),fun i y hy=>h.hu (i+1) y (by simpa using hy),fun i j y u d v k1 k2 k3 k4=>h.hr (i+1) j y u d v (by simpa using k1) (by simpa using k2) k3 k4⟩
   have:=KQ h2
   simp only[lift,aQ,bx] at this⊢
   exact⟨[],[],h1 x u (by rw[h.hx 0 x rfl,h.hu 0 u rfl]) fun j d v k1 k2=>h.hr 0 j x u d v rfl rfl k1 k2,this,rfl⟩
theorem xS{sz:Nat}{us:List (List Value)}(hu:∀(i:Nat)(u:List Value),us[i]?=some u→u.length=sz)(h1:∀u∈us,∀v∈u,v.oneCell'=true):cC w ok sz (us.map fun u=>u.map D.val) us:=by
 refine⟨by simp,fun i x hx=>?_,hu,fun i j x u d v k1 k2 k3 k4=>?_⟩
 ·rw[hU] at hx
  cases hq:us[i]? with
  | none=>rw[hq] at hx;cases hx
  | some u=>rw[hq] at hx;obtain rfl:=Option.some.inj hx;simp[hu i u hq]
 ·rw[hU,k2] at k1
  obtain rfl:=Option.some.inj k1
  rw[hU,k4] at k3
  obtain rfl:=Option.some.inj k3
  exact .val v (h1 u (cW k2) v (cW k4))
end
section
variable{P:Program}{X:Cx}{ν:Nat→Nm}{g:G}{a:Act}{w:World}
theorem vn(h:Sat P X ν g a w){k e:Nat}{xs:List (List T)}(hk:g.at k=some (.fw e xs)):∃us:List (List Value),w.ownsRow 0 e (P.cellsOf e) (ν k).v xs.length us.flatten ∧
 (∀(i:Nat)(u:List Value),us[i]?=some u→u.length=P.cellsOf e)∧bx P w (cG X ν g.at) ν g.at xs us (ν k).f∧xs.length≤LB∧(hb (ν k).v++(ν k).f).Nodup:=by
 obtain⟨h1,h2⟩:=h.en k _ hk
 simp only[kG] at h1
 obtain⟨us,F1,k1,k2,k3,k4,k5⟩:=h1
 have:F1=(ν k).f:=(List.append_cancel_left k5).symm
 exact⟨us,k1,k2,this▸k3,k4,h2⟩
theorem Ac{ok:Nat→Prop}{st:Nat→Option En}{k e:Nat}{xs:List (List T)}{us:List (List Value)}(h1:w.ownsRow 0 e (P.cellsOf e) (ν k).v xs.length us.flatten)
 (h2:∀(i:Nat)(u:List Value),us[i]?=some u→u.length=P.cellsOf e) (h3:bx P w ok ν st xs us (ν k).f) (h4:xs.length≤LB) (h5:(hb (ν k).v++(ν k).f).Nodup):ld P w ok ν st k (.fw e xs):=by
 refine⟨?_,h5⟩
 simp only[kG]
 exact⟨us,(ν k).f,h1,h2,h3,h4,rfl⟩
theorem SY(h:Sat P X ν g a w){k e:Nat}{xs:List (List T)}(hk:g.at k=some (.fw e xs)):∃b c,(ν k).v= .slice b xs.length c:=by
 obtain⟨us,ho,_⟩:=vn h hk
 rcases ho.2 with⟨h1,h2⟩|⟨b,cap,cur,h1,_⟩
 ·exact⟨none,0,by rw[h1,h2]⟩
 ·exact⟨_,cap,h1⟩
theorem pL:∀(l:List (Option En))(k:Nat)(x y:Option En),db (db l k x) k y=db l k y
 | [],0,_,_=>rfl
 | [],n+1,x,y=>by simp[db,pL [] n x y]
 | _::_,0,_,_=>rfl
 | a::as,n+1,x,y=>by simp[db,pL as n x y]
theorem Sat.lift(h:Sat P X ν g a w){k e:Nat}{xs:List (List D)}(hk:g.at k=some (.acc e xs)):Sat P X ν ⟨g.sl,db g.st k (some (.fw e (lift xs)))⟩ a w:=by
 have:=h.C0 (w':=w) k (.acc e xs) (.fw e (Eng.lift xs)) hk rfl (sH.refl _ w) none .undef Go.undef ?_ (fun h=>by cases h)
 ·exact this
 ·intro hw hm
  obtain⟨us,ho,jl,hB,hf0⟩:=h.en k _ hk
  have hl:(Eng.lift xs).length=xs.length:=by simp[Eng.lift]
  refine Ac (us:=us) (by rw[hl];exact ho) (fun i u hu=>jl.hu i u hu) ?_ (by rw[hl];exact hB) ?_
  ·rw[hf0]
   exact KQ (jl.frame hw (aJ _))
  ·rw[hf0,bm]
   unfold hb
   split<;>simp
end
section
variable{E:Env}{g:G}{d:Nat}{ty:TypeId}{pos:String}{eU:Array Edge}{gd:Option (Nat×Bool)}{dn:Option Nat}
theorem O9(x:Operand)(t k i off sz e:Nat)(ti ei:TI)(xs:List (List T))(ht:E.ti t=some ti)(he:E.ti e=some ei)(hsz:sz=ei.n)(hx:g.ev x= .gM k i off sz)(hk:g.at k=some (.fw e xs))
 (hi:i<xs.length) (hl:off+ti.n≤(oN xs i).length) :
 kM E.P ⟨some d,.load t x,ty,pos,eU,gd⟩ g ⟨dj x,[k]⟩ ⟨some (d,Su ti.isAgg (((pvT (oN xs i)).drop off).take ti.n)),[]⟩:=by
 intro g2 hg
 have h1:=hg.ev (x:=x) (fun t h=>h)
 have h3:=(hg.p k (by simp)).trans hk
 refine D7.val rfl fun X ν a w hs=>?_
 have hv:=hs.ev x
 rw[h1,hx] at hv
 simp only[aF] at hv
 obtain⟨_,b,n,c,hb,hv⟩:=hv
 obtain⟨us,ho,hul,hr,_⟩:=vn hs h3
 have hcell:=qb ho hb
 rw[(E.ok e ei he).cells] at hul
 obtain⟨u,G,hu,hc,_⟩:=hr.get i hi
 have ov:=hc.pv
 have hlenu:=hc.len
 have hrep':=(ov.drop off).take ti.n
 have dz:((u.drop off).take ti.n).length=ti.n:=by simp;omega
 have hca:jW w b (i*ei.n+off) ((u.drop off).take ti.n):=by
  have h0:=hcell.sub (us':=(u.drop off).take ti.n) (i*ei.n+off) (fun j x hx=>by
   rw[c9] at hx
   split at hx
   ·rw[dD] at hx
    have:=BL us i (off+j) u x hul hu hx
    rw[Nat.add_assoc];exact this
   ·cases hx)
  simpa using h0
 subst hsz
 obtain⟨v,lO,hvv⟩:=qw (E.ok t ti ht) w b _ _ dz hca
 refine⟨v,?_,yT hrep' hvv⟩
 simp only[execOp,hv,Instr.loadAt,Instr.sureAddr,Sem.run_bind,Sem.run_pure,Result.andThen_ok,lO]
theorem Qz(x y:Operand)(s:Nat)(si ei:TI)(e k:Nat)(xs:List (List T))(n:Int)(hs:E.ti s=some si)(pf:si.ty= .slice e)(he:E.ti e=some ei)(hx:g.ev x= .acc k)(hk:g.at k=some (.fw e xs))(hy:g.ev y= .d (.val (.int .i64 n)))
 (h0:0≤n) (lQ:n.toNat<xs.length) :
 kM E.P ⟨some d,.indexAddr s x y,ty,pos,eU,gd⟩ g ⟨dj x++dj y,[k]⟩ ⟨some (d,.gM k n.toNat 0 ei.n),[]⟩:=by
 intro g2 hg
 have h1:=hg.ev (x:=x) (fun t h=>by simp[h])
 have h2:=hg.ev (x:=y) (fun t h=>by simp[h])
 have h3:=(hg.p k (by simp)).trans hk
 refine D7.val rfl fun X ν a w hs'=>?_
 have hu:=(E.ok s si hs).ty
 rw[pf] at hu
 have hv:=hs'.ev x
 rw[h1,hx] at hv
 have np:=hs'.ev y
 rw[h2,hy] at np
 have np:=fV np
 simp only[aF] at hv⊢
 obtain⟨us,ho,_⟩:=vn hs' h3
 rcases ho.2 with⟨_,hn⟩|⟨b,cap,cur,hb,_⟩
 ·omega
 ·have hlt':n<(xs.length:Int):=by omega
  refine⟨.pointer (some ⟨b,n.toNat*ei.n,none⟩),?_,by rw[h3];rfl,b,xs.length,cap,hb,rfl⟩
  simp[execOp,hv.2,hb,np,Instr.indexAt,asIntOf,run_underlying hu,h0,hlt',(E.ok e ei he).size,add_lit]
theorem Qv(x:Operand)(s:Nat)(si:TI)(e' e k:Nat)(xs:List (List T))(hs:E.ti s=some si)(pf:si.ty= .slice e')(hx:g.ev x= .acc k)(hk:g.at k=some (.fw e xs)) :
 kM E.P ⟨some d,.call ⟨.builtin .len,#[x],#[s]⟩,ty,pos,eU,gd⟩ g ⟨dj x,[k]⟩ ⟨some (d,.d (.val (.int .i64 (xs.length:Int)))),[]⟩:=by
 intro g2 hg
 have h1:=hg.ev (x:=x) (fun t h=>h)
 have h3:=(hg.p k (by simp)).trans hk
 refine D7.val rfl fun X ν a w hs'=>?_
 have hu:=(E.ok s si hs).ty
 rw[pf] at hu
 have hv:=hs'.ev x
 rw[h1,hx] at hv
 simp only[aF] at hv
 obtain⟨b,c,hb⟩:=SY hs' h3
 exact⟨_,xp rfl a w _ (by rw[hv.2,hb];exact run_len_slice hu _ _ _ _ _),nY rfl⟩
theorem BR(x y:Operand)(t k i off sz e:Nat)(ti ei:TI)(xs:List (List T))(p:PV)(cs:List T)(ht:E.ti t=some ti)(he:E.ti e=some ei)(hsz:sz=ei.n)(hx:g.ev x= .gM k i off sz)(hk:g.at k=some (.fw e xs))(hy:g.ev y=p)
 (hi:i<xs.length) (hl:off+ti.n≤ei.n) (hp:p.whole=true) (hn:(eM p).length=ti.n) (hcs:CM (eM p)=some cs) (hno:lZ (((oN xs i).drop off).take ti.n)=true) :
 kM E.P ⟨dn,.store t x y,ty,pos,eU,gd⟩ g ⟨dj x++dj y++dn.toList,[k]⟩ ⟨dn.map fun d=>(d,.undef),[(k,.fw e (xs.set i (sS (oN xs i) off cs)))]⟩:=by
 intro g2 hg
 have e1:=hg.ev (x:=x) (fun t h=>by simp[h])
 have e2:=hg.ev (x:=y) (fun t h=>by simp[h])
 have h3:=(hg.p k (by simp)).trans hk
 intro X ν a w next Q hs hnx
 have hv:=hs.ev x
 rw[e1,hx] at hv
 have hw:=hs.ev y
 rw[e2,hy] at hw
 simp only[aF] at hv
 obtain⟨_,b,n,c,hb,hv⟩:=hv
 obtain⟨us,ho,hul,jl,hB,hnd⟩:=vn hs h3
 have pX:=hw.cells hp hs.nu
 have dz:=pX.length
 have htc:=Mn (P:=E.P) pX hcs
 rw[(E.ok e ei he).cells] at hul ho
 subst hsz
 rcases ho.2 with⟨h1,h2⟩|⟨b',cap,cur,h1,_,h2,h4,h5,h6,h7⟩
 ·omega
 ·rw[h1] at hb
  obtain⟨rfl,rfl,rfl⟩:b'=b∧xs.length=n∧cap=c:=by simpa using hb
  have hull:us.length=xs.length:=jl.len
  have hfl:=(xS (w:=w) (ok:=fun _=>True) hul (jl.one hs.nu)).kZ
  rw[dF] at hfl
  have hmulle:(i+1)*ei.n≤xs.length*ei.n:=bQ _ hi
  have hmulle2:xs.length*ei.n≤cap*ei.n:=bQ _ h4
  have hadd:(i+1)*ei.n=i*ei.n+ei.n:=by rw[cY];omega
  have hone:∀u∈(a.eval y).cells.toList,u.oneCell'=true:=htc.one hs.nu
  have hvl:(a.eval y).cells.toList.length=ti.n:=by rw[dz,hn]
  have lO:=u9 (E.ok t ti ht) w b' (i*ei.n+off) e cur (a.eval y) h2 hvl (by omega) hone
  have hr:(execOp a.eval ⟨dn,.store t x y,ty,pos,eU,gd⟩).run E.P w= .ok .skip (w.setRow b' (cur.toList.take (i*ei.n+off)++(a.eval y).cells.toList++cur.toList.drop (i*ei.n+off+(a.eval y).cells.toList.length)).toArray):=by
   simp only[execOp,hv,Instr.storeAt,Instr.sureAddr,Sem.run_bind,Sem.run_pure,Result.andThen_ok,lO]
  have hcur:cur.toList=us.flatten++cur.toList.drop (xs.length*ei.n):=by rw[←h7];exact(iu _ _).symm
  have hnew:cur.toList.take (i*ei.n+off)++(a.eval y).cells.toList++cur.toList.drop (i*ei.n+off+(a.eval y).cells.toList.length)=(us.set i (sS (us.getD i []) off (a.eval y).cells.toList)).flatten++cur.toList.drop (xs.length*ei.n):=by
   have:=FV us i off (a.eval y).cells.toList (cur.toList.drop (xs.length*ei.n)) hul (by omega) (by omega)
   rw[←hcur] at this
   rw[←this,bj]
   rfl
  obtain⟨u,G,hu,hc,hset⟩:=jl.get i hi
  have hug:us.getD i []=u:=by simp[ct,hu]
  have huil:=hul i u hu
  have hxil:(oN xs i).length=ei.n:=by rw[←hc.len];exact huil
  have hcsl:cs.length=ti.n:=by rw[OH hcs,hn]
  obtain⟨G1,G2,c1,c2,rfl⟩:=hc.split off
  obtain⟨G3,G4,c3,c4,rfl⟩:=c2.split ti.n
  have hG3:G3=[]:=FE c3 hno
  subst hG3
  have qO:=hset (sS (oN xs i) off cs) (sS u off (a.eval y).cells.toList) (by
   unfold sS
   refine c1.append ?_
   refine htc.append ?_
   rw[m0,m0] at c4
   rw[hcsl,hvl]
   exact c4)
  rw[←hug] at qO
  have hul':∀(j:Nat)(z:List Value),(us.set i (sS (us.getD i []) off (a.eval y).cells.toList))[j]?=some z→z.length=ei.n:=by
   intro j z hz
   rw[kC] at hz
   by_cases hij:i=j
   ·subst hij
    rw[if_pos rfl,if_pos (by omega)] at hz
    obtain rfl:=Option.some.inj hz
    rw[hug,L4 _ _ _ (by rw[huil,hvl];exact hl),huil]
   ·rw[if_neg hij] at hz
    exact hul j z hz
  have hf2:=(xS (w:=w) (ok:=fun _=>True) hul' (qO.one hs.nu)).kZ
  rw[dF,jn] at hf2
  have hbF:∀b∈(ν k).f,b≠b':=by
   intro b hbf hbe
   rw[h1] at hnd
   exact(dt.1 hnd).2.2 b' (CL.2 rfl) b hbf hbe.symm
  unfold Oper.wp
  rw[hr,Oper.upon_skip,hnew]
  refine hnx _ _ _ (hs.C0 k (.fw e xs) (.fw e (xs.set i (sS (oN xs i) off cs))) h3 rfl (kI w b' _ _ (.inl (by rw[h1];rfl))) dn .undef Go.undef ?_ ?_)
  ·intro hwf hm
   refine Ac (us:=us.set i (sS (us.getD i []) off (a.eval y).cells.toList)) ?_ ?_ ?_ (by simpa using hB) hnd
   ·rw[(E.ok e ei he).cells,h1]
    rw[hull] at hfl hf2
    refine⟨by rw[hf2,jn],.inr ⟨b',cap,_,by simp,bc _,setRow_heap w b' _ _ e _ h2,by simpa using h4,h5,?_,?_⟩⟩
    ·simp only[eJ,aR,hf2,eV,fx,h6]
     omega
    ·rw[jn,bX (by rw[hf2];exact aJ _),ao (by rw[hf2];exact aJ _)]
   ·rw[(E.ok e ei he).cells];exact hul'
   ·refine qO.frame hwf (by simp[World.setRow]) hm _ _ _ fun b hb=>?_
    have jD:=hbF b hb
    exact(kI w b' _ (fun c=>c=b') rfl).block b (jl.lt _ _ _ b hb) jD
  ·intro _
   simp only[aF]
theorem zU:∀(x:List D),lZ (x.map T.leaf)=true
 | []=>rfl
 | d::x=>by simp[lZ,zU x]
theorem Ty:∀{x:List T}(n m:Nat),lZ x=true→lZ ((x.drop n).take m)=true:=by
 have h1:∀(x:List T)(n:Nat),lZ x=true→lZ (x.drop n)=true:=by
  intro x
  induction x with
  | nil=>intro n h;simpa using h
  | cons t x ih=>
    intro n h
    cases n with
    | zero=>exact h
    | succ n=>
      cases t with
      | own e xs=>simp[lZ] at h
      | leaf d=>exact ih n (by simpa[lZ] using h)
      | ref d=>exact ih n (by simpa[lZ] using h)
 have h2:∀(x:List T)(n:Nat),lZ x=true→lZ (x.take n)=true:=by
  intro x
  induction x with
  | nil=>intro n h;simpa using h
  | cons t x ih=>
    intro n h
    cases n with
    | zero=>rfl
    | succ n=>
      cases t with
      | own e xs=>simp[lZ] at h
      | leaf d=>simpa[lZ] using ih n (by simpa[lZ] using h)
      | ref d=>simpa[lZ] using ih n (by simpa[lZ] using h)
 intro x n m h
 exact h2 _ m (h1 _ n h)
theorem Ux(xs:List (List D))(i:Nat):oN (lift xs) i=(row xs i).map T.leaf:=by
 unfold oN lift row
 simp only[List.getD_eq_getElem?_getD,hU]
 cases xs[i]?<;>rfl
theorem Eb:∀(xs:List (List D)),rM (lift xs)=true
 | []=>rfl
 | x::xs=>by
   have:=Eb xs
   simp only[lift,aQ,rM,ai] at this⊢
   exact⟨zU x,this⟩
theorem MA(x y:Operand)(t k i off sz e:Nat)(ti ei:TI)(xs:List (List D))(p:PV)(cs:List T)(ht:E.ti t=some ti)(he:E.ti e=some ei)(hsz:sz=ei.n)(hx:g.ev x= .gM k i off sz)(hk:g.at k=some (.acc e xs))(hy:g.ev y=p)
 (hi:i<xs.length) (hl:off+ti.n≤ei.n) (hp:p.whole=true) (hn:(eM p).length=ti.n) (hcs:CM (eM p)=some cs) :
 kM E.P ⟨dn,.store t x y,ty,pos,eU,gd⟩ g ⟨dj x++dj y++dn.toList,[k]⟩ ⟨dn.map fun d=>(d,.undef),[(k,.fw e ((lift xs).set i (sS (oN (lift xs) i) off cs)))]⟩:=by
 intro g2 hg X ν a w next Q hs hnx
 have e1:=hg.ev (x:=x) (fun t h=>by simp[h])
 have e2:=hg.ev (x:=y) (fun t h=>by simp[h])
 have h3:=(hg.p k (by simp)).trans hk
 have hs2:=hs.lift h3
 have hev:∀z,(⟨g2.sl,db g2.st k (some (.fw e (lift xs)))⟩:G).ev z=g2.ev z:=fun z=>by cases z<;>rfl
 refine BR (g:=⟨g2.sl,db g2.st k (some (.fw e (lift xs)))⟩) x y t k i off sz e ti ei (lift xs) p cs ht he hsz (by rw[hev,e1];exact hx) ?_ (by rw[hev,e2];exact hy) (by rw[rQ];exact hi) hl hp hn hcs ?_ _ ⟨fun _ _=>rfl,fun _ _=>rfl⟩ X ν a w next Q hs2 ?_
 ·rw[vx,if_pos rfl]
 ·rw[Ux]
  exact Ty _ _ (zU _)
 ·intro ν' a' w' h
  refine hnx ν' a' w' ?_
  simpa only[G.app,yy,pL] using h
end
section
variable{E:Env}{g:G}{d:Nat}{ty:TypeId}{pos:String}{eU:Array Edge}{gd:Option (Nat×Bool)}{dn:Option Nat}
def Ld(E:Env)(sz:Nat)(g:G)(p:PV)(ys:List (List T)):Prop:=
 (∃ys',yj E sz g p ys'∧ys=lift ys')∨(∃m e ei,p= .acc m∧g.at m=some (.fw e ys)∧E.ti e=some ei∧ei.n=sz∧rM ys=true)
theorem Ld.agree{R:Rd}{g g2:G}(h:Cs R g g2){sz:Nat}{p:PV}{ys:List (List T)}(hp:∀k∈yZ p,k∈R.p)(ha:Ld E sz g p ys):Ld E sz g2 p ys:=by
 rcases ha with⟨ys',h1,h2⟩|⟨m,e,ei,rfl,hk,he,hz⟩
 ·exact .inl ⟨ys',h1.agree h hp,h2⟩
 ·exact .inr ⟨m,e,ei,rfl,(h.p m (hp m (by simp[yZ]))).trans hk,he,hz⟩
theorem F8{X:Cx}{ν:Nat→Nm}{g:G}{a:Act}{w:World}{sz:Nat}{p:PV}{ys:List (List T)}{v:Value}(h:Sat E.P X ν g a w)(ha:Ld E sz g p ys)(hv:aF w (cG X ν g.at) ν g.at p v) :
 ∃vs:List (List Value),bx E.P w (cG X ν g.at) ν g.at ys vs []∧(∀(i:Nat)(u:List Value),vs[i]?=some u→u.length=sz)∧yw w v vs∧ys.length≤LB:=by
 rcases ha with⟨ys',h1,rfl⟩|⟨m,e,ei,rfl,hk,he,hz,hn⟩
 ·obtain⟨vs,h2,h3,h4⟩:=vN (P0:=E.P) h h1 hv
  exact⟨vs,KQ h2,h2.hu,h3,by rw[rQ];exact h4⟩
 ·simp only[aF] at hv
  obtain⟨us,ho,hul,jl,hB,hnd⟩:=vn h hk
  have hf:=O1 jl hn
  rw[hf] at jl
  refine⟨us,jl,fun i u hu=>by rw[←hz,← (E.ok e ei he).cells];exact hul i u hu,?_,hB⟩
  rw[hv.2]
  have hl:=jl.len
  rcases ho.2 with⟨h1,h2⟩|⟨b,cap,cur,h1,_⟩
  ·left
   refine⟨⟨none,0,h1⟩,bG (by rw[hl];exact h2)⟩
  ·right
   exact⟨b,0,cap,by rw[h1,hl],qb ho h1⟩
theorem F0{v:Value}{F:List Nat}(hF:F.Nodup)(h:∀b,wL v=some b→b∉F):(hb v++F).Nodup:=by
 unfold hb
 cases hv:wL v with
 | none=>simpa using hF
 | some b=>simpa using ⟨h b hv,hF⟩
theorem row_one{w:World}{e sz n:Nat}{v:Value}{us:List Value}(h:w.ownsRow 0 e sz v n us):v.oneCell'=true:=by
 rcases h.2 with⟨h,_⟩|⟨b,c,cur,h,_⟩<;>rw[h]<;>rfl
theorem FZ(s x:Operand)(t e k':Nat)(ti ei:TI)(p:PV)(ys:List (List T))(ht:E.ti t=some ti)(kJ:ti.ty= .slice e)(he:E.ti e=some ei)(hs:g.ev s= .b6)(hx:g.ev x=p)(ha:Ld E ei.n g p ys)(hk':g.at k'=none)
 (hlb:ys.length≤LB) (hby:ys.length*ei.bytes≤140737488355328) :
 kM E.P ⟨some d,.call ⟨.builtin .append,#[s,x],#[t,t]⟩,ty,pos,eU,gd⟩ g ⟨dj s++dj x,k'::yZ p⟩ ⟨some (d,.acc k'),[(k',.fw e ys)]⟩:=by
 intro g2 hg
 have e1:=hg.ev (x:=s) (fun t h=>by simp[h])
 have e2:=hg.ev (x:=x) (fun t h=>by simp[h])
 have h3:=(hg.p k' (by simp)).trans hk'
 have ha2:=ha.agree hg (fun k h=>by simp[h])
 intro X ν a w next Q gL hn
 have hv:=gL.ev s
 rw[e1,hs] at hv
 have np:=gL.ev x
 rw[e2,hx] at np
 simp only[aF] at hv
 obtain⟨vs,htr,hul,hsl,_⟩:=F8 gL ha2 np
 have hraw:=xS (w:=w) (ok:=fun _=>True) hul (htr.one gL.nu)
 have hl:=htr.len
 obtain⟨v',w',k1,k2,k3,k4⟩:=oM ht kJ he w ty (.slice none 0 0) (a.eval x) 0 [] _ vs _ (World.ownsRow_nil w 0 e ei.n) hraw hsl (by simpa[hl] using hlb) (by simpa[hl] using hby)
 have hr:=tq (E:=E) (o:=⟨some d,.call ⟨.builtin .append,#[s,x],#[t,t]⟩,ty,pos,eU,gd⟩) rfl a w w' v' (by rw[hv];exact k1)
 unfold Oper.wp
 rw[hr,Oper.upon_value]
 simp only[di,bC,dF,hl] at k2
 refine hn _ _ _ (gL.xg (k3.mono fun b hb _=>by simp[wL] at hb) k' h3 (.fw e ys) ⟨v',[]⟩ (row_one k2) (fun b hb=>(k4 b ((kv rfl).1 hb)).resolve_left (by simp[wL])) d _ _ ?_ ?_)
 ·intro ok st ν' hν hw hm
  refine Ac (us:=vs) (by rw[hν,(E.ok e ei he).cells];exact k2) (by rw[(E.ok e ei he).cells];exact hul) ?_ hlb (by rw[hν];exact F0 List.nodup_nil (by simp))
  rw[hν]
  exact htr.frame hw k3.size hm _ _ _ (by simp)
 ·intro ok st ν' hν jC hw hm
  simp only[aF]
  exact⟨by rw[jC];rfl,by rw[hν]⟩
theorem sE(s x:Operand)(t e k k':Nat)(ti ei:TI)(p:PV)(xs ys:List (List T))(ht:E.ti t=some ti)(kJ:ti.ty= .slice e)(he:E.ti e=some ei)(hs:g.ev s= .acc k)(hk:g.at k=some (.fw e xs))(hx:g.ev x=p)(ha:Ld E ei.n g p ys)(hk':g.at k'=none)
 (hlb:xs.length+ys.length≤LB) (hby:(xs.length+ys.length)*ei.bytes≤140737488355328) :
 kM E.P ⟨some d,.call ⟨.builtin .append,#[s,x],#[t,t]⟩,ty,pos,eU,gd⟩ g ⟨dj s++dj x,k::k'::yZ p⟩ ⟨some (d,.acc k'),[(k,.dead),(k',.fw e (xs++ys))]⟩:=by
 intro g2 hg
 have e1:=hg.ev (x:=s) (fun t h=>by simp[h])
 have e2:=hg.ev (x:=x) (fun t h=>by simp[h])
 have h2:=(hg.p k (by simp)).trans hk
 have h3:=(hg.p k' (by simp)).trans hk'
 have ha2:=ha.agree hg (fun k h=>by simp[h])
 intro X ν a w next Q gL hn
 have hv:=gL.ev s
 rw[e1,hs] at hv
 have np:=gL.ev x
 rw[e2,hx] at np
 simp only[aF] at hv
 obtain⟨vs,htr,hul,hsl,_⟩:=F8 gL ha2 np
 have hraw:=xS (w:=w) (ok:=fun _=>True) hul (htr.one gL.nu)
 have hl:=htr.len
 obtain⟨us,iz,huu,hru,hB,hnd⟩:=vn gL h2
 rw[(E.ok e ei he).cells] at iz huu
 obtain⟨v',w',k1,k2,k3,k4⟩:=oM ht kJ he w ty (ν k).v (a.eval x) xs.length us.flatten _ vs _ iz hraw hsl (by simpa[hl] using hlb) (by simpa[hl] using hby)
 have hr:=tq (E:=E) (o:=⟨some d,.call ⟨.builtin .append,#[s,x],#[t,t]⟩,ty,pos,eU,gd⟩) rfl a w w' v' (by rw[hv.2];exact k1)
 unfold Oper.wp
 rw[hr,Oper.upon_value]
 simp only[dF,hl] at k2
 have hnd2:=dt.1 hnd
 have hnb:∀b∈(ν k).f,wL (ν k).v≠some b:=fun b hb hc=>hnd2.2.2 b (CL.2 hc) b hb rfl
 have lQ:∀b∈(ν k).f,b<w.heap.size:=fun b hb=>hru.lt _ _ _ b hb
 refine hn _ _ _ (gL.move (some k) (fun j hj=>⟨_,by obtain rfl:=Option.some.inj hj;exact h2,rfl⟩) (k3.mono fun b hb _=>⟨k,rfl,.inl hb⟩) k' h3 (.fw e (xs++ys)) ⟨v',(ν k).f⟩ (row_one k2)
  (fun b hb=>hb.elim (fun h=>(k4 b h).imp (fun h=>⟨k,rfl,.inl h⟩) id) fun h=>.inl ⟨k,rfl,.inr h⟩) d _ _ ?_ ?_)
 ·intro ok st ν' hν hw hm
  refine Ac (us:=us++vs) ?_ ?_ ?_ (by simpa using hlb) ?_
  ·rw[hν,(E.ok e ei he).cells,aR,List.flatten_append];exact k2
  ·rw[(E.ok e ei he).cells]
   intro i u hu
   rcases bV i us.length with hi|hi
   ·rw[bf hi] at hu;exact huu i u hu
   ·rw[bw hi] at hu;exact hul _ u hu
  ·rw[hν]
   have h1:=hru.frame hw k3.size hm _ _ _ fun b hb=>k3.block b (lQ b hb) (hnb b hb)
   have h2:=htr.frame hw k3.size hm _ _ _ (by simp)
   have:=h1.append h2
   rwa [bm] at this
  ·rw[hν]
   refine F0 hnd2.2.1 fun b hb hm=>?_
   rcases k4 b hb with h|h
   ·exact hnb b hm h
   ·have:=lQ b hm;omega
 ·intro ok st ν' hν jC hw hm
  simp only[aF]
  exact⟨by rw[jC];rfl,by rw[hν]⟩
theorem Gm(s x:Operand)(t e k k':Nat)(ti ei:TI)(p:PV)(xs:List (List D))(ys:List (List T))(ht:E.ti t=some ti)(kJ:ti.ty= .slice e)(he:E.ti e=some ei)(hs:g.ev s= .acc k)(hk:g.at k=some (.acc e xs))(hx:g.ev x=p)(ha:Ld E ei.n g p ys)(hk':g.at k'=none)
 (hlb:xs.length+ys.length≤LB) (hby:(xs.length+ys.length)*ei.bytes≤140737488355328) :
 kM E.P ⟨some d,.call ⟨.builtin .append,#[s,x],#[t,t]⟩,ty,pos,eU,gd⟩ g ⟨dj s++dj x,k::k'::yZ p⟩ ⟨some (d,.acc k'),[(k,.dead),(k',.fw e (lift xs++ys))]⟩:=by
 intro g2 hg X ν a w next Q hs' hnx
 have e1:=hg.ev (x:=s) (fun t h=>by simp[h])
 have e2:=hg.ev (x:=x) (fun t h=>by simp[h])
 have h3:=(hg.p k (by simp)).trans hk
 have h4:=(hg.p k' (by simp)).trans hk'
 have ha2:=ha.agree hg (fun k h=>by simp[h])
 have hs2:=hs'.lift h3
 have hev:∀z,(⟨g2.sl,db g2.st k (some (.fw e (lift xs)))⟩:G).ev z=g2.ev z:=fun z=>by cases z<;>rfl
 have hkk:k'≠k:=fun h=>by rw[h,h3] at h4;cases h4
 have ha3:Ld E ei.n ⟨g2.sl,db g2.st k (some (.fw e (lift xs)))⟩ p ys:=by
  rcases ha2 with⟨ys',h1,rfl⟩|⟨m,e',ei',rfl,hm,he',hz,hn⟩
  ·by_cases hp:p= .acc k
   ·subst hp
    rcases h1 with⟨h,_⟩|⟨h,_⟩|⟨m,e',ei',h,hm,he',hz⟩|⟨_,_,h,_⟩
    ·cases h
    ·cases h
    ·obtain rfl:k=m:=by simpa using h
     rw[h3] at hm
     obtain⟨rfl,rfl⟩:e=e'∧xs=ys':=by simpa using hm
     exact .inr ⟨k,e,ei',rfl,by rw[vx,if_pos rfl],he',hz,Eb _⟩
    ·cases h
   ·refine .inl ⟨ys',?_,rfl⟩
    rcases h1 with h|h|⟨m,e',ei',h,hm,he',hz⟩|h
    ·exact .inl h
    ·exact .inr (.inl h)
    ·exact .inr (.inr (.inl ⟨m,e',ei',h,by rw[vx,if_neg (fun hc=>hp (by rw[h,hc]))];exact hm,he',hz⟩))
    ·exact .inr (.inr (.inr h))
  ·refine .inr ⟨m,e',ei',rfl,?_,he',hz,hn⟩
   rw[vx,if_neg (fun hc=>by rw[hc,h3] at hm;cases hm)]
   exact hm
 refine sE (g:=⟨g2.sl,db g2.st k (some (.fw e (lift xs)))⟩) s x t e k k' ti ei p (lift xs) ys ht kJ he (by rw[hev,e1];exact hs) (by rw[vx,if_pos rfl]) (by rw[hev,e2];exact hx) ha3 (by rw[vx,if_neg hkk];exact h4)
  (by rw[rQ];exact hlb) (by rw[rQ];exact hby) _ ⟨fun _ _=>rfl,fun _ _=>rfl⟩ X ν a w next Q hs2 ?_
 intro ν' a' w' h
 refine hnx ν' a' w' ?_
 simpa only[G.app,yy,pL] using h
def Iz:List PV→Option (List (List T))
 | []=>some []
 | p::ps=>match p.whole,CM (eM p),Iz ps with
   | true,some x,some xs=>some (x::xs)
   | _,_,_=>none
def yn(n:Nat):List (List T)→Bool
 | []=>true
 | x::xs=>Im (Q2 x) n&&yn n xs
theorem Ox:∀{qs:List PV}{rows:List (List T)},Iz qs=some rows→rows.length=qs.length
 | [],rows,h=>by simp[Iz] at h;simp[←h]
 | q::qs,rows,h=>by
   simp only[Iz] at h
   split at h
   ·rename_i h1 h2 h3
    obtain rfl:=Option.some.inj h
    simp[Ox h3]
   ·cases h
def FQ(v:Value):PV:=if(∀u∈v.cells.toList,u.oneCell'=true) then(if v.oneCell'=true then .d (.val v) else .agg (v.cells.toList.map fun u=>.d (.val u))) else .any
theorem ZE{w:World}{ok:Nat→Prop}{ν:Nat→Nm}{st:Nat→Option En}:∀(cs:List Value),(∀u∈cs,u.oneCell'=true)→aA w ok ν st (cs.map fun u=>.d (.val u)) cs
 | [],_=>by simp[aA]
 | u::cs,h=>by
   simp only[aQ,aA,aF]
   exact⟨.val u (h u (by simp)),ZE cs fun u hu=>h u (by simp[hu])⟩
theorem OX:∀(cs:List Value),AJ (cs.map fun u=>.d (.val u))=some (cs.map D.val)
 | []=>rfl
 | u::cs=>by simp[AJ,toD,OX cs]
theorem YG{w:World}{ok:Nat→Prop}{ν:Nat→Nm}{st:Nat→Option En}(v:Value):aF w ok ν st (FQ v) v:=by
 unfold FQ
 by_cases h:∀u∈v.cells.toList,u.oneCell'=true
 ·rw[if_pos h]
  by_cases h1:v.oneCell'=true
  ·rw[if_pos h1]
   simp only[aF]
   exact .val v h1
  ·rw[if_neg h1]
   cases v with
   | agg cs=>simp only[aF];exact⟨_,rfl,ZE _ h⟩
   | _=>exact absurd (h _ (List.mem_singleton.2 rfl)) h1
 ·rw[if_neg h]
  simp only[aF]
theorem Ys(v:Value)(h:∀u∈v.cells.toList,u.oneCell'=true):(FQ v).whole=true∧AJ (eM (FQ v))=some (v.cells.toList.map D.val):=by
 unfold FQ
 rw[if_pos h]
 by_cases h1:v.oneCell'=true
 ·rw[if_pos h1,BX h1]
  exact⟨rfl,rfl⟩
 ·rw[if_neg h1]
  exact⟨rfl,OX _⟩
theorem OB(ρ:Operand→Value):∀(ps:List (Nat×Operand)),(∀x∈ps,∀u∈(ρ x.2).cells.toList,u.oneCell'=true)→rowsOf (ps.map fun x=>FQ (ρ x.2))=some (ps.map fun x=>(ρ x.2).cells.toList.map D.val)
 | [],_=>rfl
 | x::ps,h=>by
   obtain⟨h1,h2⟩:=Ys (ρ x.2) (h x (by simp))
   simp only[aQ,rowsOf]
   rw[if_pos h1,h2,OB ρ ps fun y hy=>h y (by simp[hy])]
theorem G9(ρ:Operand→Value)(n:Nat):∀(ps:List (Nat×Operand)),(∀x∈ps,(ρ x.2).cells.toList.length=n)→uc n (ps.map fun x=>(ρ x.2).cells.toList.map D.val)=true
 | [],_=>rfl
 | x::ps,h=>by
   have:=h x (by simp)
   simp only[aQ,uc,ai,dF,beq_iff_eq]
   exact⟨this,G9 ρ n ps fun y hy=>h y (by simp[hy])⟩
theorem aaJ{w:World}{ok:Nat→Prop}{sz:Nat}{vs us:List (List Value)}(hv:∀v∈vs,v.length=sz)(h:cC w ok sz (vs.map fun u=>u.map D.val) us):us=vs:=by
 have hl:=h.len
 rw[dF] at hl
 refine List.ext_getElem hl fun i h1 h2=>?_
 have e1:(vs.map fun u=>u.map D.val)[i]?=some (vs[i].map D.val):=by simp[af h2]
 have e2:=af h1
 have l1:=h.hu i _ e2
 have l2:=hv _ (List.getElem_mem h2)
 refine List.ext_getElem (by rw[l1,l2]) fun j h3 h4=>?_
 exact(h.hr i j _ _ (.val vs[i][j]) _ e1 e2 (by simp[af h4]) (af h3)).Fo
theorem WR{t e:Nat}{ti ei:TI}(ht:E.ti t=some ti)(kJ:ti.ty= .slice e)(he:E.ti e=some ei)(a:Act)(w:World)(ps:List (Nat×Operand))(hup:Ii 0 (ps.map (·.1))=true)
 (h1:∀x∈ps,∀u∈(a.eval x.2).cells.toList,u.oneCell'=true) (h2:∀x∈ps,(a.eval x.2).cells.toList.length=ei.n) (hbig:ps.length*ei.n≤16777216) {o:Oper} (ho:o.op= .buildSlice t ps.length ⟨ps⟩) :
 (execOp a.eval o).run E.P w= .ok (.value (.slice (some ⟨w.heap.size,0,none⟩) ps.length ps.length)) (w.alloc (.cells ⟨(ps.map fun x=>(a.eval x.2).cells.toList).flatten⟩ e)):=by
 obtain⟨i,z,k1,k2,k4,k5,k6,k7⟩:=(E.ok e ei he).info
 have hu:=(E.ok t ti ht).ty
 rw[kJ] at hu
 have hpos:=(E.ok e ei he).pos
 have key:∀init:Array Value,init.size=ps.length*ei.n→Instr.fill (fun i=>some (i*ei.n,ei.n)) init (ps.map fun x=>(x.1,a.eval x.2))=some ⟨(ps.map fun x=>(a.eval x.2).cells.toList).flatten⟩:=by
  intro init hi
  obtain⟨us,m1,m2⟩:=C4 (w:=w) (ok:=fun _=>True) (ν:=fun _=>⟨.bool false,[]⟩) (st:=fun _=>none) (fun _ h=>by cases h) ei.n (fun x=>FQ (a.eval x)) a.eval (fun x=>YG _) ps 0 [] init _ hup (OB a.eval ps h1) (G9 a.eval ei.n ps h2) (by simp) (by simp) (by simpa using hi)
  have e1:(ps.map fun x=>(a.eval x.2).cells.toList.map D.val)=(ps.map fun x=>(a.eval x.2).cells.toList).map fun u=>u.map D.val:=by simp
  rw[e1] at m2
  have:=aaJ (by
   intro v hv
   obtain⟨x,hx,rfl⟩:=bF.1 hv
   exact h2 x hx) m2
  subst this
  simpa using m1
 by_cases hz:ps.length*ei.n=0
 ·have m1:=key ((Array.range 0).map fun _=>default) (by rw[Array.size_map,Array.size_range,hz])
  simp only[execOp,ho,iB,Instr.buildSlice,Sem.run_bind,run_underlying hu,Result.andThen_ok,(E.ok e ei he).size w,hz]
  simp[m1,newRow]
 ·have m1:=key ((Array.range (ps.length*ei.n)).map (z.cells[· % z.cells.size]!)) (by simp)
  have hn:¬ps.length*ei.n>16777216:=by omega
  simp only[execOp,ho,iB,Instr.buildSlice,Sem.run_bind,run_underlying hu,Result.andThen_ok,(E.ok e ei he).size w]
  simp[hn,hz,zeroValue,typeInfo,k1,k5,m1,newRow]
theorem Sh{w:World}{ok:Nat→Prop}{ν:Nat→Nm}{st:Nat→Option En}(hν:∀k,(st k).isSome=true→(ν k).v.oneCell'=true)(ev:Operand→PV)(ρ:Operand→Value)(hev:∀x,aF w ok ν st (ev x) (ρ x))(n:Nat) :
 ∀(ps:List (Nat×Operand))(rows:List (List T)),Iz (ps.map fun x=>ev x.2)=some rows→yn n rows=true →
  bx E.P w ok ν st rows (ps.map fun x=>(ρ x.2).cells.toList) []∧(∀x∈ps,∀u∈(ρ x.2).cells.toList,u.oneCell'=true)∧(∀x∈ps,(ρ x.2).cells.toList.length=n)
 | [],rows,h,_=>by
   simp only[dB,Iz,Option.some.injEq] at h
   subst h
   exact⟨by simp[bx],by simp,by simp⟩
 | x::ps,rows,h,hl=>by
   simp only[aQ,Iz] at h
   split at h
   ·rename_i row rows' h1 h2 h3
    obtain rfl:=Option.some.inj h
    simp only[yn,ai] at hl
    have hl1:=xJ hl.1
    rw[Fh] at hl1
    obtain⟨k1,k2,k3⟩:=Sh hν ev ρ hev n ps rows' h3 hl.2
    have hc:=(hev x.2).cells h1 hν
    have ht:=Mn (P:=E.P) hc h2
    refine⟨?_,?_,?_⟩
    ·simp only[aQ,bx]
     exact⟨[],[],ht,k1,rfl⟩
    ·intro y hy
     rcases ax.1 hy with rfl|hy
     ·exact ht.one hν
     ·exact k2 y hy
    ·intro y hy
     rcases ax.1 hy with rfl|hy
     ·rw[ht.len];exact hl1
     ·exact k3 y hy
   ·cases h
theorem Ql(t e n k:Nat)(ps:List (Nat×Operand))(ti ei:TI)(rows:List (List T))(ht:E.ti t=some ti)(kJ:ti.ty= .slice e)(he:E.ti e=some ei)(hn:n=ps.length)(hup:Ii 0 (ps.map (·.1))=true)
 (hr:Iz (ps.map fun x=>g.ev x.2)=some rows) (dz:yn ei.n rows=true) (hbig:ps.length*ei.n≤16777216) (hk:g.at k=none) :
 kM E.P ⟨some d,.buildSlice t n ⟨ps⟩,ty,pos,eU,gd⟩ g ⟨ps.flatMap fun x=>dj x.2,[k]⟩ ⟨some (d,.acc k),[(k,.fw e rows)]⟩:=by
 subst hn
 intro g2 hg
 have hmap:ps.map (fun x=>g2.ev x.2)=ps.map (fun x=>g.ev x.2):=by
  apply jt
  intro x hx
  rw[hg.ev (x:=x.2) (fun t h=>fR.2 ⟨x,hx,h⟩)]
 have h3:=(hg.p k (by simp)).trans hk
 rw[←hmap] at hr
 intro X ν a w next Q hs hnx
 obtain⟨htr,m1,m2⟩:=Sh hs.nu g2.ev a.eval hs.ev ei.n ps rows hr dz
 have lO:=WR ht kJ he a w ps hup m1 m2 hbig (o:=⟨some d,.buildSlice t ps.length ⟨ps⟩,ty,pos,eU,gd⟩) rfl
 have hpos:=(E.ok e ei he).pos
 have hrl:=Ox hr
 simp only[dF] at hrl
 have hle:ps.length≤16777216:=eO (oq _ hpos) hbig
 have hul:∀(i:Nat)(u:List Value),(ps.map fun x=>(a.eval x.2).cells.toList)[i]?=some u→u.length=ei.n:=by
  intro i u hu
  obtain⟨x,hx,rfl⟩:=bF.1 (cW hu)
  exact m2 x hx
 have hfl:=(xS (w:=w) (ok:=fun _=>True) hul (htr.one hs.nu)).kZ
 simp only[dF] at hfl
 unfold Oper.wp
 rw[lO,Oper.upon_value]
 have qO:=World.ownsRow_lit w (e:=e) (⟨(ps.map fun x=>(a.eval x.2).cells.toList).flatten⟩:Array Value) rows.length (base:=0) (size:=ei.n) (bc _) (by simp only[maxLen];omega) (by rw[hrl];simpa using hfl)
 refine hnx _ _ _ (hs.xg (jF w _) k h3 (.fw e rows) ⟨.slice (some ⟨w.heap.size,0,none⟩) ps.length ps.length,[]⟩ rfl (fun b hb=>?_) d _ _ ?_ ?_)
 ·obtain rfl:w.heap.size=b:=by simpa[Nm.has,wL] using hb
  exact aJ _
 ·intro ok st ν' hν hw hm
  refine Ac (us:=ps.map fun x=>(a.eval x.2).cells.toList) ?_ (by rw[(E.ok e ei he).cells];exact hul) ?_ (by unfold LB;omega) (by rw[hν];exact F0 List.nodup_nil (by simp))
  ·rw[hν,(E.ok e ei he).cells,←hrl]
   exact qO
  ·rw[hν]
   exact htr.frame hw (jF w _).size hm _ _ _ (by simp)
 ·intro ok st ν' hν jC hw hm
  simp only[aF]
  exact⟨by rw[jC];rfl,by rw[hν]⟩
end
def Zm:Nat→List T→List T
 | 0,_=>[]
 | _+1,[]=>[]
 | n+1,a::as=>a::Zm n as
theorem Pf:∀(n:Nat)(l:List T),Zm n l=l.take n
 | 0,l=>by simp[Zm]
 | n+1,[]=>by simp[Zm]
 | n+1,a::as=>by simp[Zm,Pf n as]
def Zz:Nat→List T→List T
 | 0,l=>l
 | _+1,[]=>[]
 | n+1,_::as=>Zz n as
theorem PW:∀(n:Nat)(l:List T),Zz n l=l.drop n
 | 0,l=>by simp[Zz]
 | n+1,[]=>by simp[Zz]
 | n+1,a::as=>by simp[Zz,PW n as]
def apT:List T→List T→List T
 | [],ys=>ys
 | x::xs,ys=>x::apT xs ys
theorem VE:∀(xs ys:List T),apT xs ys=xs++ys
 | [],ys=>rfl
 | x::xs,ys=>by simp[apT,VE xs ys]
def XU(cs:List T)(off:Nat)(vs:List T):List T:=apT (Zm off cs) (apT vs (Zz (off+Q2 vs) cs))
theorem Yk(cs:List T)(off:Nat)(vs:List T):XU cs off vs=sS cs off vs:=by
 simp only[XU,sS,VE,Pf,PW,Fh]
def Lc(g:G)(d:Nat)(c x y:Operand):AM:=
 match g.ev c with
 | .d (.val (.bool true))=>.go ⟨dj c++dj x,[]⟩ ⟨some (d,g.ev x),[]⟩
 | .d (.val (.bool false))=>.go ⟨dj c++dj y,[]⟩ ⟨some (d,g.ev y),[]⟩
 | _=>.stop
def FJ(E:Env)(g:G)(d:Nat)(t:TypeId):AM:=
 match E.ti t with
 | some ti=>.go ⟨[],[g.new]⟩ ⟨some (d,.ptr g.new 0),[(g.new,.box ti.zero)]⟩
 | none=>.stop
def Pg(g:G)(d:Nat)(x:Operand):AM:=
 match(g.ev x).whole with
 | true=>.go ⟨dj x,[g.new]⟩ ⟨some (d,.ptr g.new 0),[(g.new,.box (eM (g.ev x)))]⟩
 | false=>.stop
def Fu(E:Env)(g:G)(d:Nat)(t:TypeId)(x:Operand):AM:=
 match E.ti t with
 | none=>.stop
 | some ti=>
   match g.ev x with
   | .ptr k off=>
     match g.at k with
     | some (.box cs)=>match yl (off+ti.n) (wY cs) with
       | true=>.go ⟨dj x,[k]⟩ ⟨some (d,Su ti.isAgg (tk ti.n (dr off cs))),[]⟩
       | false=>.stop
     | _=>.stop
   | .gy xs i off=>.ou (yl (off+ti.n) (KJ (row xs i))=true) ⟨dj x,[]⟩ ⟨some (d,Su ti.isAgg (tk ti.n (dr off (cF (row xs i))))),[]⟩
   | .gM k i off sz=>
     match g.at k with
     | some (.acc e xs)=>match E.ti e with
       | some ei=>.ou (Im sz ei.n=true∧i<xs.length∧yl (off+ti.n) (KJ (row xs i))=true) ⟨dj x,[k]⟩ ⟨some (d,Su ti.isAgg (tk ti.n (dr off (cF (row xs i))))),[]⟩
       | none=>.stop
     | some (.fw e xs)=>match E.ti e with
       | some ei=>.ou (Im sz ei.n=true∧i<xs.length∧yl (off+ti.n) (Q2 (oN xs i))=true) ⟨dj x,[k]⟩ ⟨some (d,Su ti.isAgg (tk ti.n (dr off (pvT (oN xs i))))),[]⟩
       | none=>.stop
     | _=>.stop
   | _=>.stop
def K0(E:Env)(g:G)(d:Nat)(s:TypeId)(x:Operand)(f:Nat):AM:=
 match E.ti s with
 | none=>.stop
 | some si=>match si.ty with
   | .struct fs=>match Qe fs f with
     | some (_,fo,_)=>match g.ev x with
       | .ptr k off=>.go ⟨dj x,[]⟩ ⟨some (d,.ptr k (off+fo)),[]⟩
       | .gy xs i off=>.go ⟨dj x,[]⟩ ⟨some (d,.gy xs i (off+fo)),[]⟩
       | .gM k i off sz=>.go ⟨dj x,[]⟩ ⟨some (d,.gM k i (off+fo) sz),[]⟩
       | _=>.stop
     | none=>.stop
   | _=>.stop
def BM(E:Env)(g:G)(d:Nat)(s:TypeId)(x:Operand)(f:Nat):AM:=
 match E.ti s with
 | none=>.stop
 | some si=>match si.ty with
   | .struct fs=>match Qe fs f with
     | some (ft,fo,_)=>match E.ti ft with
       | none=>.stop
       | some fi=>match g.ev x with
         | .agg cs=>match yl (fo+fi.n) (wY cs) with
           | true=>.go ⟨dj x,[]⟩ ⟨some (d,Su fi.isAgg (tk fi.n (dr fo cs))),[]⟩
           | false=>.stop
         | _=>.stop
     | none=>.stop
   | _=>.stop
def Fv(E:Env)(g:G)(d:Nat)(s:TypeId)(x y:Operand):AM:=
 match E.ti s with
 | none=>.stop
 | some si=>match g.ev y with
   | .d (.val (.int .i64 n))=>match si.ty with
     | .slice e=>match E.ti e with
       | none=>.stop
       | some ei=>match g.ev x with
         | .d (.dC xs)=>.ou (0≤n∧n.toNat<xs.length∧Im (KJ (row xs n.toNat)) ei.n=true) ⟨dj x++dj y,[]⟩ ⟨some (d,.gy xs n.toNat 0),[]⟩
         | .acc k=>match g.at k with
           | some (.acc e' xs)=>match jk e e' with
             | true=>.ou (0≤n∧n.toNat<xs.length) ⟨dj x++dj y,[k]⟩ ⟨some (d,.gM k n.toNat 0 ei.n),[]⟩
             | false=>.stop
           | some (.fw e' xs)=>match jk e e' with
             | true=>.ou (0≤n∧n.toNat<xs.length) ⟨dj x++dj y,[k]⟩ ⟨some (d,.gM k n.toNat 0 ei.n),[]⟩
             | false=>.stop
           | _=>.stop
         | _=>.stop
     | .arr len e=>match E.ti e with
       | none=>.stop
       | some ei=>match g.ev x with
         | .ptr k off=>.ou (0≤n∧n.toNat<len) ⟨dj x++dj y,[]⟩ ⟨some (d,.ptr k (off+n.toNat*ei.n)),[]⟩
         | _=>.stop
     | _=>.stop
   | _=>.stop
def Lh(E:Env)(g:G)(d:Nat)(s:TypeId)(x y:Operand):AM:=
 match E.ti s with
 | none=>.stop
 | some si=>match g.ev y with
   | .d (.val (.int .i64 n))=>match si.ty with
     | .str=>match g.ev x with
       | .d (.str l)=>.ou (0≤n∧n.toNat<l.length) ⟨dj x++dj y,[]⟩ ⟨some (d,.d (.val (.int .u8 ((l.getD n.toNat 0).toNat:Int)))),[]⟩
       | _=>.stop
     | _=>.stop
   | _=>.stop
def RQ(g:G)(d:Nat)(u:UnOp)(x:Operand):AM:=
 match u,g.ev x with
 | .not,.d (.val (.bool m))=>.go ⟨dj x,[]⟩ ⟨some (d,.d (.val (.bool (!m)))),[]⟩
 | .neg,.d (.val (.int .i64 m))=>.ou (Td (-m)) ⟨dj x,[]⟩ ⟨some (d,.d (.val (.int .i64 (-m)))),[]⟩
 | _,_=>.stop
def Fl(E:Env)(g:G)(d:Nat)(s t:TypeId)(x:Operand):AM:=
 match E.ti s,E.ti t with
 | some si,some ti=>match si.ty,ti.ty,g.ev x with
   | .int k,.int k',.d (.val (.int k2 m))=>match Wz k k2 with
     | true=>.go ⟨dj x,[]⟩ ⟨some (d,.d (.val (.int k' (k'.wrap m)))),[]⟩
     | false=>.stop
   | _,_,_=>.stop
 | _,_=>.stop
def A6(E:Env)(g:G)(d:Nat)(t:TypeId)(ps:List (Nat×Operand)):AM:=
 match E.ti t with
 | none=>.stop
 | some ti=>match ti.ty with
   | .struct fs=>match Nx (pls fs) ti.zero (evp g ps) with
     | some r=>.go ⟨sl2 ps,[]⟩ ⟨some (d,.agg r),[]⟩
     | none=>.stop
   | _=>.stop
def LU(E:Env)(g:G)(d:Nat)(t:TypeId)(n:Nat)(ps:List (Nat×Operand)):AM:=
 match E.ti t with
 | none=>.stop
 | some ti=>match ti.ty with
   | .slice e=>match E.ti e with
     | none=>.stop
     | some ei=>match ps with
       | []=>match n with
         | 0=>.go ⟨[],[g.new]⟩ ⟨some (d,.acc g.new),[(g.new,.acc e [])]⟩
         | _=>.stop
       | p::ps=>match jk n (PY (p::ps)),Ii 0 (ix2 (p::ps)),rowsOf (ev2 g (p::ps)) with
         | true,true,some rows=>match uc ei.n rows,yl (PY (p::ps)) 64,yl ei.n 64 with
           | true,true,true=>.go ⟨sl2 (p::ps),[]⟩ ⟨some (d,.d (.dC rows)),[]⟩
           | _,_,_=>.stop
         | true,true,none=>match Iz (ev2 g (p::ps)) with
           | none=>.stop
           | some rows=>match yn ei.n rows,yl (PY (p::ps)) 64,yl ei.n 64 with
             | true,true,true=>.go ⟨sl2 (p::ps),[g.new]⟩ ⟨some (d,.acc g.new),[(g.new,.fw e rows)]⟩
             | _,_,_=>.stop
         | _,_,_=>.stop
   | _=>.stop
def Fy(E:Env)(g:G)(d:Nat)(t:TypeId)(l c:Operand):AM:=
 match E.ti t with
 | none=>.stop
 | some ti=>match ti.ty with
   | .slice e=>match E.ti e with
     | none=>.stop
     | some ei=>match AJ ei.zero,g.ev l,g.ev c with
       | some z,.d (.val (.int .i64 n)),.d (.val (.int .i64 n'))=>.ou (n'=n∧0≤n∧n.toNat≤LB∧ei.bytes*n.toNat≤281474976710656) ⟨dj l++dj c,[g.new]⟩ ⟨some (d,.acc g.new),[(g.new,.acc e (List.replicate n.toNat z))]⟩
       | _,_,_=>.stop
   | _=>.stop
def obI(g:G)(dflt:Int):Option Operand→Option Int
 | none=>some dflt
 | some x=>match g.ev x with
   | .d (.val (.int _ i))=>some i
   | _=>none
theorem KW{g:G}{d i:Int}{o:Option Operand}(h:obI g d o=some i):OI g o d i:=by
 cases o with
 | none=>exact(Option.some.inj h).symm
 | some x=>
   simp only[obI] at h
   split at h
   ·rename_i k j hj
    obtain rfl:=Option.some.inj h
    exact⟨k,hj⟩
   ·cases h
def KZ(E:Env)(g:G)(d:Nat)(t:TypeId)(x:Operand)(lo hi mx:Option Operand):AM:=
 match mx,E.ti t with
 | none,some ti=>match ti.ty,g.ev x with
   | .slice e,.d (.dC xs)=>match E.ti e,obI g 0 lo,obI g xs.length hi with
     | some ei,some l,some h=>.ou (0≤l∧l≤h∧h≤xs.length∧∀y∈xs,y.length=ei.n) ⟨dj x++(XD lo++XD hi),[]⟩ ⟨some (d,.d (.dC ((xs.drop l.toNat).take (h.toNat-l.toNat)))),[]⟩
     | _,_,_=>.stop
   | .str,.d (.str s)=>match obI g 0 lo,obI g s.length hi with
     | some l,some h=>.ou (0≤l∧l≤h∧h≤s.length) ⟨dj x++(XD lo++XD hi),[]⟩ ⟨some (d,.d (.str ((s.drop l.toNat).take (h.toNat-l.toNat)))),[]⟩
     | _,_=>.stop
   | _,_=>.stop
 | _,_=>.stop
def Mb(g:G)(d:Nat)(x:Operand):AM:=
 match g.ev x with
 | .ptr k off=>.go ⟨dj x,[]⟩ ⟨some (d,.ptr k off),[]⟩
 | .gy xs i off=>.go ⟨dj x,[]⟩ ⟨some (d,.gy xs i off),[]⟩
 | .gM k i off sz=>.go ⟨dj x,[]⟩ ⟨some (d,.gM k i off sz),[]⟩
 | _=>.stop
def L2(g:G)(d:Nat)(x:Operand)(i:Nat):AM:=
 match g.ev x with
 | .gV ps=>match T5 ps i with
   | some p=>.go ⟨dj x,[]⟩ ⟨some (d,p),[]⟩
   | none=>.stop
 | _=>.stop
def LG(E:Env)(g:G)(d:Nat)(s:TypeId)(x:Operand):AM:=
 match E.ti s with
 | none=>.stop
 | some si=>match si.ty,g.ev x with
   | .slice _,.d (.dC xs)=>.go ⟨dj x,[]⟩ ⟨some (d,.d (.val (.int .i64 (xs.length:Int)))),[]⟩
   | .slice _,.b6=>.go ⟨dj x,[]⟩ ⟨some (d,.d (.val (.int .i64 0))),[]⟩
   | .slice _,.acc k=>match g.at k with
     | some (.acc _ xs)=>.go ⟨dj x,[k]⟩ ⟨some (d,.d (.val (.int .i64 (xs.length:Int)))),[]⟩
     | some (.fw _ xs)=>.go ⟨dj x,[k]⟩ ⟨some (d,.d (.val (.int .i64 (xs.length:Int)))),[]⟩
     | _=>.stop
   | .str,.d (.str l)=>.go ⟨dj x,[]⟩ ⟨some (d,.d (.val (.int .i64 (l.length:Int)))),[]⟩
   | _,_=>.stop
def Fb(E:Env)(g:G)(p:PV):Option (List (List D)×Option TypeId):=
 match p with
 | .b6=>some ([],none)
 | .d (.dC ys)=>some (ys,none)
 | .acc k=>match g.at k with
   | some (.acc e ys)=>some (ys,some e)
   | _=>none
 | .d (.val (.slice (some _) 0 _))=>some ([],none)
 | _=>none
def NC(E:Env)(sz:Nat)(p:PV)(ys:List (List D)):Option TypeId→Prop
 | none=>∀y∈ys,y.length=sz
 | some e=>∃ei,E.ti e=some ei∧ei.n=sz
theorem zT{E:Env}{g:G}{p:PV}{ys:List (List D)}{o:Option TypeId}{sz:Nat}(h:Fb E g p=some (ys,o))(ho:NC E sz p ys o):yj E sz g p ys:=by
 unfold Fb at h
 split at h
 ·obtain⟨rfl,rfl⟩:[]=ys∧none=o:=by simpa using h
  exact .inl ⟨rfl,rfl⟩
 ·obtain⟨rfl,rfl⟩:_=ys∧none=o:=by simpa using h
  exact .inr (.inl ⟨rfl,ho⟩)
 ·split at h
  ·rename_i e ys' hk
   obtain⟨rfl,rfl⟩:_=ys∧some e=o:=by simpa using h
   obtain⟨ei,h1,h2⟩:=ho
   exact .inr (.inr (.inl ⟨_,e,ei,rfl,hk,h1,h2⟩))
  ·cases h
 ·obtain⟨rfl,rfl⟩:[]=ys∧none=o:=by simpa using h
  exact .inr (.inr (.inr ⟨_,_,rfl,rfl⟩))
 ·cases h
def E9(g:G)(p:PV):Option (List (List T)×TypeId):=
 match p with
 | .acc k=>match g.at k with
   | some (.fw e ys)=>some (ys,e)
   | _=>none
 | _=>none
theorem zX{E:Env}{g:G}{p:PV}{ys:List (List T)}{e:TypeId}{ei:TI}(h:E9 g p=some (ys,e))(he:E.ti e=some ei)(hn:rM ys=true):Ld E ei.n g p ys:=by
 unfold E9 at h
 split at h
 ·rename_i k
  split at h
  ·rename_i e' ys' hk
   obtain⟨rfl,rfl⟩:ys'=ys∧e'=e:=by simpa using h
   exact .inr ⟨k,e',ei,rfl,hk,he,rfl,hn⟩
  ·cases h
 ·cases h
def Fz(g:G)(d:Nat)(s x:Operand)(e:TypeId)(ei:TI):AM:=
 match E9 g (g.ev x) with
 | none=>.stop
 | some (ys,e2)=>match jk e e2 with
   | false=>.stop
   | true=>match g.ev s with
     | .b6=>.ou (rM ys=true∧ys.length≤LB∧ys.length*ei.bytes≤140737488355328) ⟨dj s++dj x,g.new::yZ (g.ev x)⟩ ⟨some (d,.acc g.new),[(g.new,.fw e ys)]⟩
     | .acc k=>match g.at k with
       | some (.acc e' xs)=>match jk e e' with
         | true=>.ou (rM ys=true∧xs.length+ys.length≤LB∧(xs.length+ys.length)*ei.bytes≤140737488355328) ⟨dj s++dj x,k::g.new::yZ (g.ev x)⟩ ⟨some (d,.acc g.new),[(k,.dead),(g.new,.fw e (lift xs++ys))]⟩
         | false=>.stop
       | some (.fw e' xs)=>match jk e e' with
         | true=>.ou (rM ys=true∧xs.length+ys.length≤LB∧(xs.length+ys.length)*ei.bytes≤140737488355328) ⟨dj s++dj x,k::g.new::yZ (g.ev x)⟩ ⟨some (d,.acc g.new),[(k,.dead),(g.new,.fw e (xs++ys))]⟩
         | false=>.stop
       | _=>.stop
     | _=>.stop
def MI(E:Env)(g:G)(d:Nat)(s x:Operand)(t t':TypeId):AM:=
 match jk t t',E.ti t with
 | true,some ti=>match ti.ty with
   | .slice e=>match E.ti e,Fb E g (g.ev x) with
     | some ei,some (ys,o)=>match g.ev s with
       | .b6=>.ou (NC E ei.n (g.ev x) ys o∧ys.length≤LB∧ys.length*ei.bytes≤140737488355328) ⟨dj s++dj x,g.new::yZ (g.ev x)⟩ ⟨some (d,.acc g.new),[(g.new,.acc e ys)]⟩
       | .acc k=>match g.at k with
         | some (.acc e' xs)=>match jk e e' with
           | true=>.ou (NC E ei.n (g.ev x) ys o∧xs.length+ys.length≤LB∧(xs.length+ys.length)*ei.bytes≤140737488355328) ⟨dj s++dj x,k::g.new::yZ (g.ev x)⟩ ⟨some (d,.acc g.new),[(k,.dead),(g.new,.acc e (xs++ys))]⟩
           | false=>.stop
         | some (.fw e' xs)=>match jk e e' with
           | true=>.ou (NC E ei.n (g.ev x) ys o∧xs.length+ys.length≤LB∧(xs.length+ys.length)*ei.bytes≤140737488355328) ⟨dj s++dj x,k::g.new::yZ (g.ev x)⟩ ⟨some (d,.acc g.new),[(k,.dead),(g.new,.fw e (xs++lift ys))]⟩
           | false=>.stop
         | _=>.stop
       | _=>.stop
     | some ei,none=>Fz g d s x e ei
     | _,_=>.stop
   | _=>.stop
 | _,_=>.stop
def xG(E:Env)(g:G)(dn:Option Nat)(t:TypeId)(x y:Operand):AM:=
 match E.ti t with
 | none=>.stop
 | some ti=>match g.ev x with
   | .ptr k off=>match g.at k with
     | some (.box cs)=>match yl (off+ti.n) (wY cs),(g.ev y).whole,jk (wY (eM (g.ev y))) ti.n,vi (eM (g.ev y)) with
       | true,true,true,true=>.go ⟨dj x++dj y++dn.toList,[k]⟩ ⟨dn.map fun d=>(d,.undef),[(k,.box (QD cs off (eM (g.ev y))))]⟩
       | _,_,_,_=>.stop
     | _=>.stop
   | .gM k i off sz=>match g.at k with
     | some (.acc e xs)=>match E.ti e,(g.ev y).whole,jk (wY (eM (g.ev y))) ti.n,AJ (eM (g.ev y)) with
       | some ei,true,true,some cs=>.ou (Im sz ei.n=true∧i<xs.length∧yl (off+ti.n) ei.n=true) ⟨dj x++dj y++dn.toList,[k]⟩ ⟨dn.map fun d=>(d,.undef),[(k,.acc e (xs.set i (sS (row xs i) off cs)))]⟩
       | some ei,true,true,none=>match CM (eM (g.ev y)) with
         | none=>.stop
         | some cs=>.ou (Im sz ei.n=true∧i<xs.length∧yl (off+ti.n) ei.n=true) ⟨dj x++dj y++dn.toList,[k]⟩ ⟨dn.map fun d=>(d,.undef),[(k,.fw e ((lift xs).set i (sS (oN (lift xs) i) off cs)))]⟩
       | _,_,_,_=>.stop
     | some (.fw e xs)=>match E.ti e,(g.ev y).whole,jk (wY (eM (g.ev y))) ti.n,CM (eM (g.ev y)) with
       | some ei,true,true,some cs=>.ou (Im sz ei.n=true∧i<xs.length∧yl (off+ti.n) ei.n=true∧lZ (Zm ti.n (Zz off (oN xs i)))=true) ⟨dj x++dj y++dn.toList,[k]⟩ ⟨dn.map fun d=>(d,.undef),[(k,.fw e (xs.set i (XU (oN xs i) off cs)))]⟩
       | _,_,_,_=>.stop
     | _=>.stop
   | _=>.stop
def CS:List Operand→List Nat
 | []=>[]
 | x::xs=>dj x++CS xs
theorem yt:∀(l:List Operand),CS l=l.flatMap dj
 | []=>rfl
 | x::xs=>by simp[CS,yt xs]
def TC(g:G):List Operand→List PV
 | []=>[]
 | x::xs=>g.ev x::TC g xs
theorem CP(g:G):∀(l:List Operand),TC g l=l.map g.ev
 | []=>rfl
 | x::xs=>by simp[TC,CP g xs]
def RZ(g:G)(d:Nat)(fn:Fn)(first cs:List Operand):AM:=
 match fn,first with
 | .func f,[]=>.go ⟨CS cs,[]⟩ ⟨some (d,.fn f (TC g cs)),[]⟩
 | _,_=>.stop
def FC(E:Env)(g:G)(d:Nat)(callee:Callee)(args:List Operand)(tys:List TypeId):AM:=
 match callee with
 | .builtin b=>match b,args,tys with
   | .len,[x],[s]=>LG E g d s x
   | .append,[s,x],[t,t']=>MI E g d s x t t'
   | _,_,_=>.stop
 | _=>.stop
def R2(E:Env)(g:G)(d:Nat):Op→AM
 | .move x=>.go ⟨dj x,[]⟩ ⟨some (d,g.ev x),[]⟩
 | .assign x=>.go ⟨dj x,[]⟩ ⟨some (d,g.ev x),[]⟩
 | .pick c x y=>Lc g d c x y
 | .alloc t=>FJ E g d t
 | .box _ x=>Pg g d x
 | .load t x=>Fu E g d t x
 | .fieldAddr s x f=>K0 E g d s x f
 | .field s x f=>BM E g d s x f
 | .indexAddr s x y=>Fv E g d s x y
 | .index s x y=>Lh E g d s x y
 | .store t x y=>xG E g (some d) t x y
 | .binOp b t x y _=>bop E g d b t x y
 | .unOp u _ x=>RQ g d u x
 | .convert s t x=>Fl E g d s t x
 | .makeFunc fn first cs=>RZ g d fn first.toList cs.toList
 | .build t ps=>A6 E g d t ps.toList
 | .buildSlice t n ps=>LU E g d t n ps.toList
 | .makeSlice t l c=>Fy E g d t l c
 | .slice t x lo hi mx=>KZ E g d t x lo hi mx
 | .nilCheck x=>Mb g d x
 | .extract x i=>L2 g d x i
 | .call c=>FC E g d c.callee c.args.toList c.argTypes.toList
 | _=>.stop
def ZI(E:Env)(g:G)(o:Oper):AM:=
 match o.dst,o.op with
 | some d,op=>R2 E g d op
 | none,.store t x y=>xG E g none t x y
 | none,_=>.stop
section
variable{E:Env}{g:G}{d:Nat}{ty:TypeId}{pos:String}{eU:Array Edge}{gd:Option (Nat×Bool)}{dn:Option Nat}
theorem Rp(t:TypeId)(x:Operand):(Fu E g d t x).Ok E.P ⟨some d,.load t x,ty,pos,eU,gd⟩ g:=by
 unfold Fu
 split
 ·trivial
 ·rename_i ti ht
  split
  ·rename_i k off hx
   split
   ·rename_i cs hk
    split
    ·rename_i hl
     have hl:=kX hl
     rw[ow] at hl
     simp only[JY,Kf]
     exact Og x t k off ti cs ht hx hk hl
    ·trivial
   ·trivial
  ·rename_i xs i off hx
   simp only[JY,Kf]
   exact fun h=>Lp x t i off ti xs _ ht hx rfl (Sf h)
  ·rename_i k i off sz hx
   split
   ·rename_i e xs hk
    split
    ·rename_i ei he
     simp only[JY,Kf]
     exact fun h=>K6 x t k i off sz e ti ei xs _ ht he (xJ h.1) hx hk h.2.1 rfl (Sf h.2.2)
    ·trivial
   ·rename_i e xs hk
    split
    ·rename_i ei he
     simp only[JY,Kf]
     exact fun h=>O9 x t k i off sz e ti ei xs ht he (xJ h.1) hx hk h.2.1 (by have:=kX h.2.2;rwa [Fh] at this)
    ·trivial
   ·trivial
  ·trivial
theorem SL(s:TypeId)(x:Operand)(f:Nat):(K0 E g d s x f).Ok E.P ⟨some d,.fieldAddr s x f,ty,pos,eU,gd⟩ g:=by
 unfold K0
 split
 ·trivial
 ·rename_i si hs
  split
  ·rename_i fs pf
   split
   ·rename_i ft fo fz hf
    rw[KH] at hf
    split
    ·rename_i hx;exact Ra x s f _ _ si fs ft fo fz hs pf hf hx
    ·rename_i hx;exact Nu x s f _ _ _ si fs ft fo fz hs pf hf hx
    ·rename_i hx;exact M5 x s f _ _ _ _ si fs ft fo fz hs pf hf hx
    ·trivial
   ·trivial
  ·trivial
theorem O8(s:TypeId)(x:Operand)(f:Nat):(BM E g d s x f).Ok E.P ⟨some d,.field s x f,ty,pos,eU,gd⟩ g:=by
 unfold BM
 split
 ·trivial
 ·rename_i si hs
  split
  ·rename_i fs pf
   split
   ·rename_i ft fo fz hf
    rw[KH] at hf
    split
    ·trivial
    ·rename_i fi hfi
     split
     ·rename_i cs hx
      split
      ·rename_i hl
       have hl:=kX hl
       rw[ow] at hl
       simp only[JY,Kf]
       exact Vl x s f si fs ft fo fz fi cs hs pf hf hfi hx hl
      ·trivial
     ·trivial
   ·trivial
  ·trivial
theorem Pd(s:TypeId)(x y:Operand):(Fv E g d s x y).Ok E.P ⟨some d,.indexAddr s x y,ty,pos,eU,gd⟩ g:=by
 unfold Fv
 split
 ·trivial
 ·rename_i si hs
  split
  ·rename_i n hy
   split
   ·rename_i e pf
    split
    ·trivial
    ·rename_i ei he
     split
     ·rename_i xs hx
      exact fun h=>Pk x y s si ei e xs n hs pf he hx hy h.1 h.2.1 (XN h.2.2)
     ·rename_i k hx
      split
      ·rename_i e' xs hk
       split
       ·rename_i hee
        obtain rfl:=bK hee
        exact fun h=>Rf x y s si ei e k xs n hs pf he hx hk hy h.1 h.2
       ·trivial
      ·rename_i e' xs hk
       split
       ·rename_i hee
        obtain rfl:=bK hee
        exact fun h=>Qz x y s si ei e k xs n hs pf he hx hk hy h.1 h.2
       ·trivial
      ·trivial
     ·trivial
   ·rename_i len e pf
    split
    ·trivial
    ·rename_i ei he
     split
     ·rename_i k off hx
      exact fun h=>Qj x y s si ei e len k off n hs pf he hx hy h.1 h.2
     ·trivial
   ·trivial
  ·trivial
theorem T4(s:TypeId)(x y:Operand):(Lh E g d s x y).Ok E.P ⟨some d,.index s x y,ty,pos,eU,gd⟩ g:=by
 unfold Lh
 split
 ·trivial
 ·rename_i si hs
  split
  ·rename_i n hy
   split
   ·rename_i pf
    split
    ·rename_i l hx
     exact fun h=>QT x y s si l n hs pf hx hy h.1 h.2
    ·trivial
   ·trivial
  ·trivial
theorem WA(u:UnOp)(t:TypeId)(x:Operand):(RQ g d u x).Ok E.P ⟨some d,.unOp u t x,ty,pos,eU,gd⟩ g:=by
 unfold RQ
 split
 ·rename_i m hx;exact Z9 x m t hx
 ·rename_i m hx;exact fun h=>ZY x m t hx h
 ·trivial
theorem Ru(s t:TypeId)(x:Operand):(Fl E g d s t x).Ok E.P ⟨some d,.convert s t x,ty,pos,eU,gd⟩ g:=by
 unfold Fl
 split
 ·rename_i si ti hs ht
  split
  ·rename_i k k' k2 m pf kJ hx
   split
   ·rename_i hk
    obtain rfl:=LH hk
    exact YX x k k' m s t si ti hs pf ht kJ hx
   ·trivial
  ·trivial
 ·trivial
theorem NY(t:TypeId)(ps:Array (Nat×Operand)):(A6 E g d t ps.toList).Ok E.P ⟨some d,.build t ps,ty,pos,eU,gd⟩ g:=by
 unfold A6
 split
 ·trivial
 ·rename_i ti ht
  split
  ·rename_i fs kJ
   split
   ·rename_i r hr
    have hr:=SE _ _ _ _ hr
    rw[VY,Vx] at hr
    rw[Lo]
    exact VK t ps.toList ti fs r ht kJ hr
   ·trivial
  ·trivial
theorem Tu(t:TypeId)(n:Nat)(ps:Array (Nat×Operand)):(LU E g d t n ps.toList).Ok E.P ⟨some d,.buildSlice t n ps,ty,pos,eU,gd⟩ g:=by
 obtain⟨ps⟩:=ps
 simp only
 unfold LU
 split
 ·trivial
 ·rename_i ti ht
  split
  ·rename_i e kJ
   split
   ·trivial
   ·rename_i ei he
    split
    ·split
     ·exact pI t e 0 g.new [] ti ei [] ht kJ he rfl rfl rfl rfl (by simp) g.lX
     ·trivial
    ·rename_i p ps
     split
     ·rename_i rows h1 h2 h3
      split
      ·rename_i h4 h5 h6
       have h1:=bK h1
       have h5:=kX h5
       have h6:=kX h6
       rw[K3] at h1 h5
       rw[Rq] at h2
       rw[Ri] at h3
       rw[Lo]
       exact Wr t e n (p::ps) ti ei rows ht kJ he h1 h2 h3 h4 (eO (o3 h5 h6) (by omega))
      ·trivial
     ·rename_i h1 h2 _
      split
      ·trivial
      ·rename_i rows h3
       split
       ·rename_i h4 h5 h6
        have h1:=bK h1
        have h5:=kX h5
        have h6:=kX h6
        rw[K3] at h1 h5
        rw[Rq] at h2
        rw[Ri] at h3
        rw[Lo]
        exact Ql t e n g.new (p::ps) ti ei rows ht kJ he h1 h2 h3 h4 (eO (o3 h5 h6) (by omega)) g.lX
       ·trivial
     ·trivial
  ·trivial
theorem Qp(t:TypeId)(l c:Operand):(Fy E g d t l c).Ok E.P ⟨some d,.makeSlice t l c,ty,pos,eU,gd⟩ g:=by
 unfold Fy
 split
 ·trivial
 ·rename_i ti ht
  split
  ·rename_i e kJ
   split
   ·trivial
   ·rename_i ei he
    split
    ·rename_i z n n' hz hl hc
     rintro⟨rfl,h1,h2,h3⟩
     exact YR l c t e g.new ti ei n' z ht kJ he hz hl hc g.lX h1 h2 h3
    ·trivial
  ·trivial
theorem Tq(t:TypeId)(x:Operand)(lo hi mx:Option Operand):(KZ E g d t x lo hi mx).Ok E.P ⟨some d,.slice t x lo hi mx,ty,pos,eU,gd⟩ g:=by
 unfold KZ
 split
 ·rename_i ti ht
  split
  ·rename_i e xs kJ hx
   split
   ·rename_i ei l h he hl hh
    exact fun k=>Qs x lo hi t e ti ei xs _ l h ht kJ he hx (KW hl) (KW hh) k.1 k.2.1 k.2.2.1 k.2.2.2 rfl
   ·trivial
  ·rename_i s kJ hx
   split
   ·rename_i l h hl hh
    exact fun k=>QX x lo hi t ti s _ l h ht kJ hx (KW hl) (KW hh) k.1 k.2.1 k.2.2 rfl
   ·trivial
  ·trivial
 ·trivial
theorem SK(x:Operand):(Mb g d x).Ok E.P ⟨some d,.nilCheck x,ty,pos,eU,gd⟩ g:=by
 unfold Mb
 split
 ·rename_i hx;exact EP x _ _ hx
 ·rename_i hx;exact C5 x _ _ _ hx
 ·rename_i hx;exact CI x _ _ _ _ hx
 ·trivial
theorem Tc(x:Operand)(i:Nat):(L2 g d x i).Ok E.P ⟨some d,.extract x i,ty,pos,eU,gd⟩ g:=by
 unfold L2
 split
 ·rename_i ps hx
  split
  ·rename_i p hp
   rw[RL] at hp
   exact Rl x i ps p hx hp
  ·trivial
 ·trivial
theorem S4(s:TypeId)(x:Operand):(LG E g d s x).Ok E.P ⟨some d,.call ⟨.builtin .len,#[x],#[s]⟩,ty,pos,eU,gd⟩ g:=by
 unfold LG
 split
 ·trivial
 ·rename_i si hs
  split
  ·rename_i e xs pf hx;exact Pn x s si e xs hs pf hx
  ·rename_i e pf hx;exact Ro x s si e hs pf hx
  ·rename_i e k pf hx
   split
   ·rename_i e' xs hk;exact Rx x s si e e' k xs hs pf hx hk
   ·rename_i e' xs hk;exact Qv x s si e e' k xs hs pf hx hk
   ·trivial
  ·rename_i l pf hx;exact P6 x s si l hs pf hx
  ·trivial
theorem Pm(s x:Operand)(t e:TypeId)(ti ei:TI)(ht:E.ti t=some ti)(kJ:ti.ty= .slice e)(he:E.ti e=some ei):(Fz g d s x e ei).Ok E.P ⟨some d,.call ⟨.builtin .append,#[s,x],#[t,t]⟩,ty,pos,eU,gd⟩ g:=by
 unfold Fz
 split
 ·trivial
 ·rename_i ys e2 hr
  split
  ·trivial
  ·rename_i h2
   obtain rfl:=bK h2
   split
   ·rename_i hs
    exact fun h=>FZ s x t e g.new ti ei _ ys ht kJ he hs rfl (zX hr he h.1) g.lX h.2.1 h.2.2
   ·rename_i k hs
    split
    ·rename_i e' xs hk
     split
     ·rename_i hee
      obtain rfl:=bK hee
      exact fun h=>Gm s x t e k g.new ti ei _ xs ys ht kJ he hs hk rfl (zX hr he h.1) g.lX h.2.1 h.2.2
     ·trivial
    ·rename_i e' xs hk
     split
     ·rename_i hee
      obtain rfl:=bK hee
      exact fun h=>sE s x t e k g.new ti ei _ xs ys ht kJ he hs hk rfl (zX hr he h.1) g.lX h.2.1 h.2.2
     ·trivial
    ·trivial
   ·trivial
theorem T6(s x:Operand)(t t':TypeId):(MI E g d s x t t').Ok E.P ⟨some d,.call ⟨.builtin .append,#[s,x],#[t,t']⟩,ty,pos,eU,gd⟩ g:=by
 unfold MI
 split
 ·rename_i ti htt ht
  obtain rfl:=bK htt
  split
  ·rename_i e kJ
   split
   ·rename_i ei ys o he hap
    split
    ·rename_i hs
     exact fun h=>IQ s x t e g.new ti ei _ ys ht kJ he hs rfl (zT hap h.1) g.lX h.2.1 h.2.2
    ·rename_i k hs
     split
     ·rename_i e' xs hk
      split
      ·rename_i hee
       obtain rfl:=bK hee
       exact fun h=>IX s x t e k g.new ti ei _ xs ys ht kJ he hs hk rfl (zT hap h.1) g.lX h.2.1 h.2.2
      ·trivial
     ·rename_i e' xs hk
      split
      ·rename_i hee
       obtain rfl:=bK hee
       exact fun h=>sE s x t e k g.new ti ei _ xs (lift ys) ht kJ he hs hk rfl (.inl ⟨ys,zT hap h.1,rfl⟩) g.lX (by rw[rQ];exact h.2.1) (by rw[rQ];exact h.2.2)
      ·trivial
     ·trivial
    ·trivial
   ·rename_i ei he _
    exact Pm s x t e ti ei ht kJ he
   ·trivial
  ·trivial
 ·trivial
theorem Ee(t:TypeId)(x y:Operand):(xG E g dn t x y).Ok E.P ⟨dn,.store t x y,ty,pos,eU,gd⟩ g:=by
 unfold xG
 split
 ·trivial
 ·rename_i ti ht
  split
  ·rename_i k off hx
   split
   ·rename_i cs hk
    split
    ·rename_i h1 h2 h3 h4
     have h1:=kX h1
     have h3:=bK h3
     rw[ow] at h1 h3
     rw[LS _ _ _ (by omega)]
     exact Ls x y t k off ti cs _ ht hx hk rfl h1 h2 h3 h4
    ·trivial
   ·trivial
  ·rename_i k i off sz hx
   split
   ·rename_i e xs hk
    split
    ·rename_i ei cs he h2 h3 h4
     have h3:=bK h3
     rw[ow] at h3
     exact fun h=>I0 x y t k i off sz e ti ei xs _ cs ht he (xJ h.1) hx hk rfl h.2.1 (kX h.2.2) h2 h3 h4
    ·rename_i ei he h2 h3 _
     have h3:=bK h3
     rw[ow] at h3
     split
     ·trivial
     ·rename_i cs h4
      exact fun h=>MA x y t k i off sz e ti ei xs _ cs ht he (xJ h.1) hx hk rfl h.2.1 (kX h.2.2) h2 h3 h4
    ·trivial
   ·rename_i e xs hk
    split
    ·rename_i ei cs he h2 h3 h4
     have h3:=bK h3
     rw[ow] at h3
     simp only[Pf,PW,Yk]
     exact fun h=>BR x y t k i off sz e ti ei xs _ cs ht he (xJ h.1) hx hk rfl h.2.1 (kX h.2.2.1) h2 h3 h4 h.2.2.2
    ·trivial
   ·trivial
  ·trivial
theorem Vo(fn:Fn)(first cs:Array Operand):(RZ g d fn first.toList cs.toList).Ok E.P ⟨some d,.makeFunc fn first cs,ty,pos,eU,gd⟩ g:=by
 obtain⟨first⟩:=first
 obtain⟨cs⟩:=cs
 unfold RZ
 split
 ·rename_i f h
  simp only at h
  subst h
  rw[yt,CP]
  exact M6 _ _
 ·trivial
theorem PA(c:Call):(FC E g d c.callee c.args.toList c.argTypes.toList).Ok E.P ⟨some d,.call c,ty,pos,eU,gd⟩ g:=by
 obtain⟨callee,⟨args⟩,⟨tys⟩⟩:=c
 unfold FC
 split
 ·split
  ·rename_i h1 h2
   simp only at h1 h2
   subst h1 h2
   rename_i h
   simp only at h
   subst h
   exact S4 _ _
  ·rename_i h1 h2
   simp only at h1 h2
   subst h1 h2
   rename_i h
   simp only at h
   subst h
   exact T6 _ _ _ _
  ·trivial
 ·trivial
theorem U9(op:Op):(R2 E g d op).Ok E.P ⟨some d,op,ty,pos,eU,gd⟩ g:=by
 unfold R2
 split
 ·exact MD _
 ·exact Th _
 ·unfold Lc
  split
  ·rename_i hc;exact R7 _ _ _ true hc
  ·rename_i hc;exact R7 _ _ _ false hc
  ·trivial
 ·unfold FJ
  split
  ·rename_i ti ht;exact WU _ g.new ti ht g.lX
  ·trivial
 ·unfold Pg
  split
  ·rename_i hw;exact aaO _ _ g.new g.lX hw
  ·trivial
 ·exact Rp _ _
 ·exact SL _ _ _
 ·exact O8 _ _ _
 ·exact Pd _ _ _
 ·exact T4 _ _ _
 ·exact Ee _ _ _
 ·exact ZT _ _ _ _ _
 ·exact WA _ _ _
 ·exact Ru _ _ _
 ·exact Vo _ _ _
 ·exact NY _ _
 ·exact Tu _ _ _
 ·exact Qp _ _ _
 ·exact Tq _ _ _ _ _
 ·exact SK _
 ·exact Tc _ _
 ·exact PA _
 ·trivial
theorem aaL(o:Oper):(ZI E g o).Ok E.P o g:=by
 obtain⟨dst,op,ty,pos,eU,gd⟩:=o
 unfold ZI
 split
 ·rename_i d h
  obtain rfl:dst=some d:=h
  exact U9 op
 ·rename_i t x y h1 h2
  obtain rfl:dst=none:=h1
  obtain rfl:op= .store t x y:=h2
  exact Ee _ _ _
 ·trivial
end
inductive qT where
 | on
 | off
def ifB:Bool→(qT→Prop)→(qT→Prop)→Prop
 | true,a,_=>a .on
 | false,_,b=>b .on
theorem abt(a b:qT→Prop):ifB true a b=a .on:=rfl
theorem abI(a b:qT→Prop):ifB false a b=b .on:=rfl
theorem TH{c:Bool}{a b:qT→Prop}(ht:c=true→a .on)(hf:c=false→b .on):ifB c a b:=by
 cases c
 ·exact hf rfl
 ·exact ht rfl
theorem yU{c:Bool}{a b:qT→Prop}(h:ifB c a b):(c=true∧a .on)∨(c=false∧b .on):=by
 cases c
 ·exact .inr ⟨rfl,h⟩
 ·exact .inl ⟨rfl,h⟩
def snoc:List Ky→Ky→List Ky
 | [],k=>[k]
 | a::as,k=>a::snoc as k
theorem R0:∀(l:List Ky)(k:Ky),snoc l k=l++[k]
 | [],_=>rfl
 | a::as,k=>by simp[snoc,R0 as k]
def mK:Option (List Ky)→Ky→Option (List Ky)
 | none,_=>none
 | some l,k=>some (snoc l k)
def WM(P:Program)(ops:Array Oper):Option (List Ky)→List Oper→G→(G→Prop)→Prop
 | none,os,g,K=>WO P ops os g K
 | some pre,os,g,K=>WD P ops os pre g K
theorem Fx{P:Program}{ops:Array Oper}{m:Option (List Ky)}{o:Oper}{os:List Oper}{g:G}{K:G→Prop}{R:Rd}{δ:Dl}(h:H4 P ops o g R δ)(hr:WM P ops (mK m (ot R δ)) os (g.app δ) K):WM P ops m (o::os) g K:=by
 cases m with
 | none=>exact yM h hr
 | some pre=>
   simp only[mK,R0] at hr
   exact XJ h hr
def uO:Option Nat→Rd→Rd
 | none,R=>R
 | some t,R=>⟨t::R.s,R.p⟩
def AR(P:Program)(g g':G):Prop:=∀(X:Cx)(ν:Nat→Nm)(a:Act)(w:World),Sat P X ν g a w→∃ν',Sat P X ν' g' a w
theorem AR.trans{P:Program}{g g1 g2:G}(h:AR P g g1)(h':AR P g1 g2):AR P g g2:=fun X ν a w hs=>
 let ⟨ν1,h1⟩:=h X ν a w hs
 h' X ν1 a w h1
theorem RT{P:Program}{ops:Array Oper}{os:List Oper}{g g':G}{K:G→Prop}(hw:AR P g g')(h:WO P ops os g' K):WO P ops os g K:=fun i hi X ν a w Q hs hn=>
 let ⟨ν',hs'⟩:=hw X ν a w hs
 h i hi X ν' a w Q hs' hn
def sU(E:Env)(m:Option (List Ky))(gs:Option Nat)(o:Oper)(g:G)(rest:qT→Option (List Ky)→G→Prop):Prop:=
 (∃R δ,kM E.P o g R δ∧rest .on (mK m (ot (uO gs R) δ)) (g.app δ)) ∨
 (m=none∧gs=none∧∃g',AR E.P g g'∧∃R δ,kM E.P o g' R δ∧rest .on none (g'.app δ))
theorem fu{E:Env}{m:Option (List Ky)}{gs:Option Nat}{o:Oper}{g:G}{rest:qT→Option (List Ky)→G→Prop}{R:Rd}{δ:Dl}(h:kM E.P o g R δ)(hr:rest .on (mK m (ot (uO gs R) δ)) (g.app δ)):sU E m gs o g rest:=.inl ⟨R,δ,h,hr⟩
def JS(E:Env)(m:Option (List Ky))(gs:Option Nat)(o:Oper)(g:G)(rest:qT→Option (List Ky)→G→Prop):AM→Prop
 | .go R δ=>rest .on (mK m (ot (uO gs R) δ)) (g.app δ)
 | .ou φ R δ=>φ∧rest .on (mK m (ot (uO gs R) δ)) (g.app δ)
 | .stop=>sU E m gs o g rest
theorem fA{E:Env}{m:Option (List Ky)}{gs:Option Nat}{o:Oper}{g:G}{rest:qT→Option (List Ky)→G→Prop}(h:JS E m gs o g rest (ZI E g o)):sU E m gs o g rest:=by
 have hk:=aaL (E:=E) (g:=g) o
 generalize ZI E g o=s at h hk
 cases s with
 | go R δ=>exact .inl ⟨R,δ,hk,h⟩
 | ou φ R δ=>exact .inl ⟨R,δ,hk h.1,h.2⟩
 | stop=>exact h
def ZO(E:Env)(m:Option (List Ky))(t:Nat)(o:Oper)(g:G)(rest:qT→Option (List Ky)→G→Prop):qT→Prop
 | .on=>JS E m (some t) o g rest (ZI E g o)
 | .off=>False
def Wx(m:Option (List Ky))(t:Nat)(g:G)(rest:qT→Option (List Ky)→G→Prop):Option Nat→qT→Prop
 | some d,.on=>rest .on (mK m ⟨[t],[],[d],[]⟩) (g.app ⟨some (d,.undef),[]⟩)
 | _,_=>False
def rX:PV→Bool→(qT→Prop)→(qT→Prop)→Prop
 | .d (.val (.bool c)),true,yes,no=>ifB c yes no
 | .d (.val (.bool c)),false,yes,no=>ifB c no yes
 | .undef,_,_,no=>no .on
 | _,_,_,_=>False
def gsl:List Oper→Nat→Option Nat
 | [],_=>none
 | o::_,0=>o.dst
 | _::os,n+1=>gsl os n
theorem Uk:∀(l:List Oper)(n:Nat),gsl l n=(l[n]?).bind (·.dst)
 | [],n=>by simp[gsl]
 | o::_,0=>rfl
 | _::os,n+1=>by simp[gsl,Uk os n]
def aaK(all:List Oper)(g:G)(K:qT→G→Prop):Option (List Ky)→Prop
 | none=>K .on g
 | some pre=>indep all pre=true∧K .on g
def XF(E:Env)(all:List Oper)(m:Option (List Ky))(o:Oper)(g:G)(rest:qT→Option (List Ky)→G→Prop):Option (Nat×Bool)→Prop
 | none=>JS E m none o g rest (ZI E g o)
 | some (j,b)=>match gsl all j with
   | none=>False
   | some t=>rX (nth g.sl t) b (ZO E m t o g rest) (Wx m t g rest o.dst)
def run(E:Env)(all:List Oper)(K:qT→G→Prop):List Oper→qT→Option (List Ky)→G→Prop
 | [],.on,m,g=>aaK all g K m
 | o::os,.on,m,g=>XF E all m o g (run E all K os) o.guard
 | [],.off,_,_=>False
 | _::_,.off,_,_=>False
theorem Qu{E:Env}{ops:Array Oper}{K:qT→G→Prop}:∀(os:List Oper)(m:Option (List Ky))(g:G),run E ops.toList K os .on m g→WM E.P ops m os g (K .on)
 | [],none,g,h=>vk h
 | [],some pre,g,h=>ZG h.1 h.2
 | o::os,m,g,h=>by
   have ih:=Qu (E:=E) (ops:=ops) (K:=K) os
   simp only[run] at h
   cases hg:o.guard with
   | none=>
     rw[hg] at h
     rcases fA h with⟨R,δ,h1,h2⟩|⟨rfl,_,g',hw,R,δ,h1,h2⟩
     ·exact Fx (H4.plain hg h1) (ih _ _ h2)
     ·exact RT hw (yM (H4.plain hg h1) (ih _ _ h2))
   | some jb=>
     obtain⟨j,b⟩:=jb
     rw[hg] at h
     simp only[XF] at h
     split at h
     ·exact h.elim
     ·rename_i t ht
      have hj:DF ops j=some t:=by
       rw[Uk] at ht
       unfold DF
       rw[←ht]
       simp
      have hyes:∀c,nth g.sl t= .d (.val (.bool c))→c=b→ZO E m t o g (run E ops.toList K os) .on→WM E.P ops m (o::os) g (K .on):=by
       intro c hc Pb hd
       subst Pb
       rcases fA hd with⟨R,δ,h1,h2⟩|⟨_,h0,_⟩
       rotate_left
       ·cases h0
       exact Fx (H4.run hg hj hc h1) (ih _ _ h2)
      have hno:∀c,nth g.sl t= .d (.val (.bool c))→c≠b→Wx m t g (run E ops.toList K os) o.dst .on→WM E.P ops m (o::os) g (K .on):=by
       intro c hc Pb hd
       cases hdst:o.dst with
       | none=>rw[hdst] at hd;exact hd.elim
       | some d=>
         rw[hdst] at hd
         exact Fx (H4.skip hg hj hc Pb hdst) (ih _ _ hd)
      cases hv:nth g.sl t<;>rw[hv] at h<;>first
       | (simp only[rX] at h;done)
       | skip
      ·simp only[rX] at h
       cases hdst:o.dst with
       | none=>rw[hdst] at h;exact h.elim
       | some d=>
         rw[hdst] at h
         exact Fx (H4.abk hg hj hv hdst) (ih _ _ h)
      ·rename_i x
       cases x with
       | str s=>simp only[rX] at h
       | dC s=>simp only[rX] at h
       | val v=>
         cases v<;>first
          | (simp only[rX] at h;done)
          | skip
         rename_i c
         cases b with
         | true=>
           simp only[rX] at h
           rcases yU h with⟨h1,h2⟩|⟨h1,h2⟩
           ·exact hyes c hv h1 h2
           ·exact hno c hv (by rw[h1];simp) h2
         | false=>
           simp only[rX] at h
           rcases yU h with⟨h1,h2⟩|⟨h1,h2⟩
           ·exact hno c hv (by rw[h1];simp) h2
           ·exact hyes c hv h1 h2
def RI(K:qT→G→Prop)(Q:qT→Ex→G→Prop):qT→Ex→G→Prop
 | .on,.normal,g=>K .on g
 | .on,.exit id,g=>Q .on (.exit id) g
 | .on,.ret,g=>Q .on .ret g
 | .off,_,_=>False
def FP(id:Nat)(Q:qT→Ex→G→Prop):qT→Ex→G→Prop
 | .on,.normal,g=>Q .on .normal g
 | .on,.exit i,g=>match jk i id with|true=>Q .on .normal g|false=>Q .on (.exit i) g
 | .on,.ret,g=>Q .on .ret g
 | .off,_,_=>False
def UE(Q:qT→Ex→G→Prop):qT→G→Prop
 | .on,g=>Q .on .normal g
 | .off,_=>False
def UK:PV→(qT→Prop)→(qT→Prop)→Prop
 | .d (.val (.bool b)),x,y=>ifB b x y
 | _,_,_=>False
def ZH(E:Env)(ops:List Oper)(Q:qT→Ex→G→Prop)(g:G):Bool→Prop
 | false=>run E ops (UE Q) ops .on none g
 | true=>run E ops (UE Q) ops .on (some []) g
def ML(E:Env)(n0:Nat):Code→qT→G→(qT→Ex→G→Prop)→Prop
 | .skip,.on,g,Q=>Q .on .normal g
 | .exit id,.on,g,Q=>Q .on (.exit id) g
 | .ret,.on,g,Q=>Q .on .ret g
 | .seq a b,.on,g,Q=>ML E n0 a .on g (RI (fun tok g'=>ML E n0 b tok g' Q) Q)
 | .cond c x y,.on,g,Q=>UK (g.ev c) (fun tok=>ML E n0 x tok g Q) (fun tok=>ML E n0 y tok g Q)
 | .block id c,.on,g,Q=>ML E n0 c .on g (FP id Q)
 | .region _ ops dr,.on,g,Q=>ZH E ops.toList Q g dr
 | .loop c,.on,g,Q=>W E.P n0 (.loop c) g (Q .on)
 | _,_,_,_=>False
theorem QE{E:Env}(hm:E.P.follows .mixedOrders=true){n0:Nat}:∀(c:Code)(g:G)(Q:qT→Ex→G→Prop),ML E n0 c .on g Q→W E.P n0 c g (Q .on):=by
 intro c
 induction c with
 | skip=>intro g Q h;exact aaD h
 | exit id=>intro g Q h;exact aar h
 | ret=>intro g Q h;exact Ss h
 | seq a b iha ihb=>
   intro g Q h
   have:=iha g _ h
   refine eG (fun X ν ac w hp hs=>wp_mono (this X ν ac w hp hs) fun e a' w' hl=>?_)
   cases e with
   | normal=>obtain⟨g',ν',h1,h2⟩:=hl;exact⟨g',ν',ihb g' Q h1,h2⟩
   | exit id=>exact hl
   | ret=>exact hl
   | goto l=>exact hl
   | panic c=>exact hl
   | outgrown=>exact hl
 | cond c x y ihx ihy=>
   intro g Q h
   simp only[ML] at h
   unfold UK at h
   split at h
   ·rename_i b hb
    refine LW hb (fun hc=>?_) (fun hc=>?_)
    ·rcases yU h with⟨h1,h2⟩|⟨h1,h2⟩
     ·exact ihx g Q h2
     ·rw[hc] at h1;cases h1
    ·rcases yU h with⟨h1,h2⟩|⟨h1,h2⟩
     ·rw[hc] at h1;cases h1
     ·exact ihy g Q h2
   ·exact h.elim
 | block id c ih=>
   intro g Q h
   have:=ih g _ h
   refine Fg (fun X ν ac w hp hs=>wp_mono (this X ν ac w hp hs) fun e a' w' hl=>?_)
   cases e with
   | normal=>exact hl
   | exit i=>
     obtain⟨g',ν',h1,h2⟩:=hl
     refine⟨g',ν',?_,h2⟩
     simp only[FP] at h1
     simp only[Dg]
     split at h1
     ·rename_i he
      rw[if_pos (bK he)]
      exact h1
     ·rename_i he
      rw[if_neg (fun e=>by subst e;simp at he)]
      exact h1
   | ret=>exact hl
   | goto l=>exact hl
   | panic c=>exact hl
   | outgrown=>exact hl
 | region id ops dr=>
   intro g Q h
   simp only[ML] at h
   cases dr with
   | false=>exact oU (Qu ops.toList none g h)
   | true=>exact Yu hm (Qu ops.toList (some []) g h)
 | loop c _=>intro g Q h;exact h
 | _=>intro g Q h;simp[ML] at h
end Go.Eng
