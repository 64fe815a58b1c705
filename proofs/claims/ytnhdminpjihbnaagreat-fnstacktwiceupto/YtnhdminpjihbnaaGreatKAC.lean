/-
  The symbolic layer, sixteenth text: a state seen with less, its owned places under other numbers, a grown slice seen as data.
-/
import Derived.Test.YtnhdminpjihbnaaGreatKAB
import Derived.Laws.BytesArg
import Derived.Laws.Slices
set_option linter.unusedVariables false
set_option linter.unusedSimpArgs false
open Array renaming length_toList→fx
open Bool renaming and_eq_true→ab,false_or→mV
open Int renaming toNat_natCast→aS
open List renaming getElem?_eq_getElem→ae,take_of_length_le→ak,drop_of_length_le→al,mem_cons→ax,length_append→ay,length_cons→aG,map_cons→aJ,mem_append→aM,append_assoc→bm,mem_map→bq,getElem?_append_left→br,cons_append→bu,getElem?_append_right→bG,nil_append→bQ,eq_nil_of_length_eq_zero→bU,append_nil→bV,getD→b9,length_map→cd,take_append_of_le_length→cH,map_nil→cL,flatten_cons→dt,mem_of_getElem?→du,take_succ_cons→dE,getElem?_take→dR,length_set→eH,length_drop→eX,getElem?_drop→eY,take_append_drop→fq,size_toArray→fD,getElem?_map→gg,nodup_append→gh,set_cons_zero→gv,mem_flatMap→gF,map_toArray→kg,set_cons_succ→kh,map_congr_left→lp,drop_drop→l7,getElem?_set→mG,drop→pC
open Nat renaming le_refl→aH,mul_le_mul_right→bD,zero_le→bT,lt_or_ge→b7,eq_of_beq_eq_true→cg,add_mul→da,zero_add→dQ,le_trans→gr,beq→kV
open Option renaming isSome_iff_exists→dz,map_none→hX
namespace Go.Eng
open Go.RowKit
theorem yl{w:World}{ok ok':Nat→Prop}{e:TypeId}{sz:Nat}{v:Value}{xs:List (List D)}{us:List (List Value)}(ho:w.ownsRow 0 e sz v xs.length us.flatten)(hr:cW w ok sz xs us)(hB:xs.length≤LB)
 (dL:∀b,zR v=some b→ok' b) (hf:∀b,ok b→b<w.heap.size→ok' b∧w.heap[b]?=w.heap[b]?):jn w ok' (.eP xs) v:=by
 rcases ho.2 with⟨h1,h2⟩|⟨b,cap,cur,h1,_,h2,h3,h4,h5,h6⟩
 ·obtain rfl:=bU h2
  rw[h1];exact .nil
 ·subst h1
  have hr':=hr.frame hf (aH _)
  refine .eP xs us b 0 cap sz (dL b rfl) (sY h2) h3 h4 hB hr'.len hr'.hx hr'.hu (fun j u hu=>?_) hr'.hr
  have hj:j<us.flatten.length:=by rcases b7 j us.flatten.length with h' | h';exact h';rw[List.getElem?_eq_none h'] at hu;cases hu
  rw[←h6] at hu
  have hu2:cur.toList[j]?=some u:=by rw[dR] at hu;split at hu;exact hu;cases hu
  have hcur:cur[j]?=some u:=by simpa using hu2
  simp[World.cell?,h2,hcur]
mutual
def T.Ah:T→Option D
 | .eK d=>some d
 | .ref _=>none
 | .own _ xs=>match bA xs with|some ys=>some (.eP ys)|none=>none
def dJ:List T→Option (List D)
 | []=>some []
 | t::ts=>match t.Ah,dJ ts with|some d,some ds=>some (d::ds)|_,_=>none
def bA:List (List T)→Option (List (List D))
 | []=>some []
 | x::xs=>match dJ x,bA xs with|some y,some ys=>some (y::ys)|_,_=>none
end
def W0:Option En→D→Prop
 | some (.aW _ xs),y=>y= .eP xs
 | some (.e9 _ xs),y=>∃ys,bA xs=some ys∧y= .eP ys
 | _,_=>False
section
variable{P:Program}{w:World}{ok ok':Nat→Prop}{ν ν':Nat→Nm}{st st':Nat→Option En}
mutual
theorem mS.data(hf:∀b,ok b→b<w.heap.size→ok' b∧w.heap[b]?=w.heap[b]?):∀(t:T)(v:Value)(F:List Nat)(d:D),t.Ah=some d→mS P w ok ν st t v F→(∀b∈F,ok' b)→jn w ok' d v
 | .eK x,v,F,d,hd,h,_=>by simp only[T.Ah,Option.some.injEq] at hd;simp only[mS] at h;rw[←hd];exact h.1.frame hf (aH _)
 | .ref j,v,F,d,hd,_,_=>by simp[T.Ah] at hd
 | .own e xs,v,F,d,hd,h,hF=>by simp only[T.Ah] at hd;split at hd;rename_i ys hys;obtain rfl:=Option.some.inj hd;simp only[mS] at h;obtain⟨us,F1,h1,h2,h3,h4,rfl⟩:=h;obtain⟨k1,k2,k3⟩:=bN.data hf xs us F1 ys hys h3 (fun b hb=>hF b (aM.2 (.inr hb)));refine yl (ok:=ok') (by rw[←k2];exact h1) ⟨k1,fun i x hx=>?_,h2,fun i j x u dd vv a1 a2 a3 a4=>(k3 i x u a1 a2).2 j dd vv a3 a4⟩ (by rw[←k2];exact h4) (fun b hb=>hF b (aM.2 (.inl (Hy.2 hb)))) (fun b hb _=>⟨hb,rfl⟩);have hi:i<us.length:=(by rw[k1];exact(List.getElem?_eq_some_iff.1 hx).1);rw[(k3 i x us[i] hx (ae hi)).1];exact h2 i _ (ae hi);cases hd
theorem bo.data(hf:∀b,ok b→b<w.heap.size→ok' b∧w.heap[b]?=w.heap[b]?):∀(ts:List T)(vs:List Value)(F:List Nat)(ds:List D),dJ ts=some ds→bo P w ok ν st ts vs F→(∀b∈F,ok' b)→ds.length=vs.length∧∀(j:Nat)(d:D)(v:Value),ds[j]?=some d→vs[j]?=some v→jn w ok' d v
 | [],[],F,ds,hd,_,_=>by simp only[dJ,Option.some.injEq] at hd;rw[←hd];simp
 | [],_::_,F,ds,_,h,_=>by simp[bo] at h
 | _::_,[],F,ds,_,h,_=>by simp[bo] at h
 | t::ts,v::vs,F,ds,hd,h,hF=>by
  simp only[dJ] at hd;split at hd
  ·rename_i d' ds' e1 e2;obtain rfl:=Option.some.inj hd;simp only[bo] at h;obtain⟨F1,F2,h1,h2,rfl⟩:=h;have k1:=mS.data hf t v F1 d' e1 h1 fun b hb=>hF b (aM.2 (.inl hb));obtain⟨k2,k3⟩:=bo.data hf ts vs F2 ds' e2 h2 fun b hb=>hF b (aM.2 (.inr hb));refine⟨by simp[k2],fun j d u a1 a2=>?_⟩;cases j with
   | zero=>
    obtain rfl:d'=d:=by simpa using a1
    obtain rfl:v=u:=by simpa using a2
    exact k1
   | succ j=>exact k3 j d u (by simpa using a1) (by simpa using a2)
  cases hd
theorem bN.data(hf:∀b,ok b→b<w.heap.size→ok' b∧w.heap[b]?=w.heap[b]?):∀(xs:List (List T))(us:List (List Value))(F:List Nat)(ys:List (List D)),bA xs=some ys→bN P w ok ν st xs us F→(∀b∈F,ok' b)→us.length=ys.length∧xs.length=ys.length∧∀(i:Nat)(x:List D)(u:List Value),ys[i]?=some x→us[i]?=some u→x.length=u.length∧∀(j:Nat)(d:D)(v:Value),x[j]?=some d→u[j]?=some v→jn w ok' d v
 | [],[],F,ys,hd,_,_=>by simp only[bA,Option.some.injEq] at hd;rw[←hd];simp
 | [],_::_,F,ds,_,h,_=>by simp[bN] at h
 | _::_,[],F,ds,_,h,_=>by simp[bN] at h
 | x::xs,u::us,F,ys,hd,h,hF=>by
  simp only[bA] at hd;split at hd
  ·rename_i y' ys' e1 e2;obtain rfl:=Option.some.inj hd;simp only[bN] at h;obtain⟨F1,F2,h1,h2,rfl⟩:=h;have k1:=bo.data hf x u F1 y' e1 h1 fun b hb=>hF b (aM.2 (.inl hb));obtain⟨k2,k3,k4⟩:=bN.data hf xs us F2 ys' e2 h2 fun b hb=>hF b (aM.2 (.inr hb));refine⟨by simp[k2],by simp[k3],fun i z q a1 a2=>?_⟩;cases i with
   | zero=>
    obtain rfl:y'=z:=by simpa using a1
    obtain rfl:u=q:=by simpa using a2
    exact k1
   | succ i=>exact k4 i z q (by simpa using a1) (by simpa using a2)
  cases hd
end
mutual
theorem mS.still:∀(t:T)(v:Value)(F:List Nat),t.Ah.isSome=true→mS P w ok ν st t v F→mS P w ok ν' st' t v F
 | .eK x,v,F,_,h=>by simpa only[mS] using h
 | .ref j,v,F,hd,_=>by simp[T.Ah] at hd
 | .own e xs,v,F,hd,h=>by simp only[T.Ah] at hd;simp only[mS] at h⊢;obtain⟨us,F1,h1,h2,h3,h4⟩:=h;refine⟨us,F1,h1,h2,bN.still xs us F1 ?_ h3,h4⟩;split at hd;rename_i e;rw[e];rfl;cases hd
theorem bo.still:∀(ts:List T)(vs:List Value)(F:List Nat),(dJ ts).isSome=true→bo P w ok ν st ts vs F→bo P w ok ν' st' ts vs F
 | [],[],F,_,h=>by simpa only[bo] using h
 | [],_::_,F,_,h=>by simp[bo] at h
 | _::_,[],F,_,h=>by simp[bo] at h
 | t::ts,v::vs,F,hd,h=>by simp only[dJ] at hd;simp only[bo] at h⊢;obtain⟨F1,F2,h1,h2,h3⟩:=h;split at hd;rename_i e1 e2;exact⟨F1,F2,mS.still t v F1 (by rw[e1];rfl) h1,bo.still ts vs F2 (by rw[e2];rfl) h2,h3⟩;cases hd
theorem bN.still:∀(xs:List (List T))(us:List (List Value))(F:List Nat),(bA xs).isSome=true→bN P w ok ν st xs us F→bN P w ok ν' st' xs us F
 | [],[],F,_,h=>by simpa only[bN] using h
 | [],_::_,F,_,h=>by simp[bN] at h
 | _::_,[],F,_,h=>by simp[bN] at h
 | x::xs,u::us,F,hd,h=>by simp only[bA] at hd;simp only[bN] at h⊢;obtain⟨F1,F2,h1,h2,h3⟩:=h;split at hd;rename_i e1 e2;exact⟨F1,F2,bo.still x u F1 (by rw[e1];rfl) h1,bN.still xs us F2 (by rw[e2];rfl) h2,h3⟩;cases hd
end
def lift(xs:List (List D)):List (List T):=xs.map fun x=>x.map T.eK
theorem xG:∀(x:List D),dJ (x.map T.eK)=some x
 | []=>rfl
 | d::x=>by simp[dJ,T.Ah,xG x]
theorem jy:∀(xs:List (List D)),bA (lift xs)=some xs
 | []=>rfl
 | x::xs=>by have:=jy xs;simp only[lift] at this;simp[lift,bA,xG,this]
theorem bo.FB:∀{ds:List D}{vs:List Value},vs.length=ds.length→(∀(j:Nat)(d:D)(v:Value),ds[j]?=some d→vs[j]?=some v→jn w ok d v)→bo P w ok ν st (ds.map T.eK) vs []
 | [],[],_,_=>by simp[bo]
 | d::ds,v::vs,hl,h=>by simp only[aJ,bo,mS];exact⟨[],[],⟨h 0 d v rfl rfl,rfl⟩,bo.FB (by simpa using hl) fun j d v a1 a2=>h (j+1) d v (by simpa using a1) (by simpa using a2),rfl⟩
 | [],_::_,hl,_=>by simp at hl
 | _::_,[],hl,_=>by simp at hl
theorem bN.FB{sz:Nat}:∀{xs:List (List D)}{us:List (List Value)},cW w ok sz xs us→bN P w ok ν st (lift xs) us []
 | [],[],_=>by simp[lift,bN]
 | x::xs,u::us,h=>by simp only[lift,aJ,bN];refine⟨[],[],bo.FB ?_ fun j d v a1 a2=>h.hr 0 j x u d v rfl rfl a1 a2,bN.FB (sz:=sz) (xs:=xs) ⟨by simpa using h.len,fun i x hx=>h.hx (i+1) x (by simpa using hx),fun i u hu=>h.hu (i+1) u (by simpa using hu),fun i j x u d v a1 a2 a3 a4=>h.hr (i+1) j x u d v (by simpa using a1) (by simpa using a2) a3 a4⟩,rfl⟩;rw[h.hu 0 u rfl,h.hx 0 x rfl]
 | [],_::_,h=>by have:=h.len;simp at this
 | _::_,[],h=>by have:=h.len;simp at this
theorem pO(xs:List (List D)):(lift xs).length=xs.length:=by simp[lift]
end
def jE:List (Option Nat)→Nat→Option (Option Nat)
 | [],_=>none
 | a::_,0=>some a
 | _::as,n+1=>jE as n
def JB(k:Nat):List (Option Nat)→Bool
 | []=>false
 | some j::r=>k == j||JB k r
 | none::r=>JB k r
def ajm:List (Option Nat)→Bool
 | []=>true
 | some j::r=>!JB j r&&ajm r
 | none::r=>ajm r
mutual
def wk(g:G)(m:List (Option Nat)):PV→PV→Prop
 | p,.any=>True
 | .bE,.bE=>True
 | .undef,.undef=>True
 | .bE,.d y=>y= .eP []
 | .bE,.aW k'=>jE m k'=some none
 | .d x,.d y=>x=y
 | .aW k,.d y=>W0 (g.at k) y∧JB k m=false
 | .aW k,.aW k'=>jE m k'=some (some k)
 | .bK k off,.bK k' off'=>jE m k'=some (some k)∧off=off'
 | .iT k i off sz,.iT k' i' off' sz'=>jE m k'=some (some k)∧i=i'∧off=off'∧sz=sz'
 | .gQ xs i off,.gQ ys j off'=>xs=ys∧i=j∧off=off'
 | .agg cs,.agg ds=>Dm g m cs ds
 | .ko cs,.ko ds=>Dm g m cs ds
 | .fn f cs,.fn f' ds=>f=f'∧Dm g m cs ds
 | _,_=>False
def Dm(g:G)(m:List (Option Nat)):List PV→List PV→Prop
 | [],[]=>True
 | p::ps,q::qs=>wk g m p q∧Dm g m ps qs
 | _,_=>False
end
def Gw(g:G)(m:List (Option Nat)):En→En→Prop
 | _,.dead=>True
 | .box cs,.box ds=>Dm g m cs ds
 | .aW e xs,.aW e' ys=>e=e'∧xs=ys
 | .aW e xs,.e9 e' ys=>e=e'∧lift xs=ys
 | .e9 e xs,.e9 e' ys=>e=e'∧xs=ys∧(bA xs).isSome=true
 | .map wC,.map kvs'=>wC=kvs'
 | _,_=>False
def np(g:G)(m:List (Option Nat)):List (Option Nat)→List (Option En)→Prop
 | [],[]=>True
 | some k::ks,some e'::es=>(∃e,g.at k=some e∧Gw g m e e')∧np g m ks es
 | none::ks,some (.aW _ xs)::es=>xs=[]∧np g m ks es
 | none::ks,some (.e9 _ xs)::es=>xs=[]∧np g m ks es
 | _,_=>False
def keeps:Nat→Nat→List (Option Nat)→Bool
 | 0,_,_=>true
 | n+1,i,some j::r=>i == j&&keeps n (i+1) r
 | _,_,_=>false
def VJ(k:Nat):List (Option Nat)→List (Option En)→Bool
 | some j::r,some e::es=>(e.live&&k == j)||VJ k r es
 | _::r,_::es=>VJ k r es
 | _,_=>false
def AI:List (Option Nat)→List (Option En)→Bool
 | some j::r,some e::es=>(!e.live|| !VJ j r es)&&AI r es
 | _::r,_::es=>AI r es
 | _,_=>true
structure Wk(n0:Nat)(m:List (Option Nat))(g g':G):Prop where
 s:Dm g m g.sl g'.sl
 p:np g m m g'.st
 nod:AI m g'.st=true
 keep:keeps n0 0 m=true
theorem PC:∀{m:List (Option Nat)}{i k:Nat},jE m i=some (some k)→JB k m=true
 | [],_,_,h=>by simp[jE] at h
 | a::as,0,k,h=>by simp only[jE,Option.some.injEq] at h;subst h;simp[JB]
 | a::as,n+1,k,h=>by simp only[jE] at h;have:=PC h;cases a<;>simp[JB,this]
theorem Qt:∀{m:List (Option Nat)}{es:List (Option En)}{i k:Nat}{e:En},jE m i=some (some k)→eJ es i=some e→e.live=true→VJ k m es=true
 | [],_,_,_,_,h,_,_=>by simp[jE] at h
 | _::_,[],i,_,_,_,h,_=>by cases i<;>simp[eJ] at h
 | a::as,o::os,0,k,e,h,h2,h3=>by simp only[jE,Option.some.injEq] at h;simp only[eJ] at h2;subst h h2;simp[VJ,h3]
 | a::as,o::os,i+1,k,e,h,h2,h3=>by simp only[jE] at h;simp only[eJ] at h2;have:=Qt h h2 h3;cases a<;>cases o<;>simp[VJ,this]
theorem P1:∀{m:List (Option Nat)}{es:List (Option En)},AI m es=true→∀{i j k:Nat}{e e':En},jE m i=some (some k)→jE m j=some (some k)→eJ es i=some e→eJ es j=some e'→e.live=true→e'.live=true→i=j
 | [],_,_,_,_,_,_,_,h,_,_,_,_,_=>by simp[jE] at h
 | _::_,[],_,i,_,_,_,_,_,_,h,_,_,_=>by cases i<;>simp[eJ] at h
 | a::as,o::os,hn,0,0,_,_,_,_,_,_,_,_,_=>rfl
 | a::as,o::os,hn,0,j+1,k,e,e',h1,h2,g1,g2,l1,l2=>by simp only[jE,Option.some.injEq] at h1 h2;simp only[eJ] at g1 g2;subst h1 g1;have:=Qt h2 g2 l2;simp[AI,this,l1] at hn
 | a::as,o::os,hn,i+1,0,k,e,e',h1,h2,g1,g2,l1,l2=>by simp only[jE,Option.some.injEq] at h1 h2;simp only[eJ] at g1 g2;subst h2 g2;have:=Qt h1 g1 l1;simp[AI,this,l2] at hn
 | a::as,o::os,hn,i+1,j+1,k,e,e',h1,h2,g1,g2,l1,l2=>by
  simp only[jE] at h1 h2;simp only[eJ] at g1 g2;have hn':AI as os=true:=by cases a<;>cases o<;>simp only[AI,ab] at hn<;>first|exact hn|exact hn.2
  rw[P1 hn' h1 h2 g1 g2 l1 l2]
theorem Nq:∀{n i:Nat}{m:List (Option Nat)},keeps n i m=true→∀j,j<n→jE m j=some (some (i+j))
 | 0,_,_,_,j,h=>by omega
 | n+1,i,[],h,_,_=>by simp[keeps] at h
 | n+1,i,none::r,h,_,_=>by simp[keeps] at h
 | n+1,i,some a::r,h,j,hj=>by
  simp only[keeps,ab,beq_iff_eq] at h;obtain⟨rfl,h2⟩:=h;cases j with
  | zero=>rfl
  | succ j=>simp only[jE];rw[Nq h2 j oM];congr 2;omega
theorem Kl{g:G}{m:List (Option Nat)}:∀{ks:List (Option Nat)}{es:List (Option En)},np g m ks es→∀(i:Nat)(e':En),eJ es i=some e' →
 (∃k e,jE ks i=some (some k)∧g.at k=some e∧Gw g m e e')∨(jE ks i=some none∧∃t,e'= .aW t []∨e'= .e9 t [])
 | [],[],_,i,e',h=>by cases i<;>simp[eJ] at h
 | some k::ks,some e::es,hw,0,e',h=>by
  simp only[np] at hw;obtain⟨⟨e0,h1,h2⟩,_⟩:=hw;obtain rfl:e=e':=by simpa[eJ] using h
  exact .inl ⟨k,e0,rfl,h1,h2⟩
 | some k::ks,some e::es,hw,i+1,e',h=>by simp only[np] at hw;simp only[jE];exact Kl hw.2 i e' (by simpa[eJ] using h)
 | none::ks,some (.aW t xs)::es,hw,0,e',h=>by
  simp only[np] at hw;obtain rfl:En.aW t xs=e':=by simpa[eJ] using h
  exact .inr ⟨rfl,t,.inl (by rw[hw.1])⟩
 | none::ks,some (.aW t xs)::es,hw,i+1,e',h=>by simp only[np] at hw;simp only[jE];exact Kl hw.2 i e' (by simpa[eJ] using h)
 | none::ks,some (.e9 t xs)::es,hw,0,e',h=>by
  simp only[np] at hw;obtain rfl:En.e9 t xs=e':=by simpa[eJ] using h
  exact .inr ⟨rfl,t,.inr (by rw[hw.1])⟩
 | none::ks,some (.e9 t xs)::es,hw,i+1,e',h=>by simp only[np] at hw;simp only[jE];exact Kl hw.2 i e' (by simpa[eJ] using h)
 | none::ks,some (.box _)::es,hw,_,_,_=>by simp[np] at hw
 | none::ks,some .dead::es,hw,_,_,_=>by simp[np] at hw
 | none::ks,some (.map _)::es,hw,_,_,_=>by simp[np] at hw
 | some k::ks,none::es,hw,_,_,_=>by simp[np] at hw
 | none::ks,none::es,hw,_,_,_=>by simp[np] at hw
 | some k::ks,[],hw,_,_,_=>by simp[np] at hw
 | none::ks,[],hw,_,_,_=>by simp[np] at hw
 | [],_::_,hw,_,_,_=>by simp[np] at hw
theorem B0{g:G}{m:List (Option Nat)}:∀{ks:List (Option Nat)}{es:List (Option En)},np g m ks es→∀(i:Nat)(x:Option Nat),jE ks i=some x→(eJ es i).isSome=true
 | [],[],_,i,x,h=>by simp[jE] at h
 | some k::ks,some e::es,hw,0,x,h=>rfl
 | some k::ks,some e::es,hw,i+1,x,h=>by simp only[np] at hw;simp only[eJ];exact B0 hw.2 i x (by simpa[jE] using h)
 | none::ks,some (.aW t xs)::es,hw,0,x,h=>rfl
 | none::ks,some (.aW t xs)::es,hw,i+1,x,h=>by simp only[np] at hw;simp only[eJ];exact B0 hw.2 i x (by simpa[jE] using h)
 | none::ks,some (.e9 t xs)::es,hw,0,x,h=>rfl
 | none::ks,some (.e9 t xs)::es,hw,i+1,x,h=>by simp only[np] at hw;simp only[eJ];exact B0 hw.2 i x (by simpa[jE] using h)
 | none::ks,some (.box _)::es,hw,_,_,_=>by simp[np] at hw
 | none::ks,some .dead::es,hw,_,_,_=>by simp[np] at hw
 | none::ks,some (.map _)::es,hw,_,_,_=>by simp[np] at hw
 | some k::ks,none::es,hw,_,_,_=>by simp[np] at hw
 | none::ks,none::es,hw,_,_,_=>by simp[np] at hw
 | some k::ks,[],hw,_,_,_=>by simp[np] at hw
 | none::ks,[],hw,_,_,_=>by simp[np] at hw
 | [],_::_,hw,_,_,_=>by simp[np] at hw
def YC(ν:Nat→Nm)(m:List (Option Nat))(i:Nat):Nm:=
 match jE m i with
 | some (some k)=>ν k
 | _=>⟨.slice none 0 0,[]⟩
theorem nF{ν:Nat→Nm}{m:List (Option Nat)}{i k:Nat}(h:jE m i=some (some k)):YC ν m i=ν k:=by simp[YC,h]
theorem pW{ν:Nat→Nm}{m:List (Option Nat)}{i:Nat}(h:jE m i=some none):YC ν m i=⟨.slice none 0 0,[]⟩:=by simp[YC,h]
section
variable{w:World}{ok ok':Nat→Prop}{ν:Nat→Nm}{g:G}{m:List (Option Nat)}{st':Nat→Option En}
mutual
theorem aF.wk(hf:∀b,ok b→b<w.heap.size→ok' b∧w.heap[b]?=w.heap[b]?)(gY:∀i x,jE m i=some x→(st' i).isSome=true)
 (hacc:∀k y,W0 (g.at k) y→JB k m=false→jn w ok' y (ν k).v) :
 ∀(p q:PV)(v:Value),wk g m p q→aF w ok ν g.at p v→aF w ok' (YC ν m) st' q v
 | p,.any,_,_,_=>by simp[aF]
 | .bE,.bE,v,_,h=>by simpa[aF] using h
 | .undef,.undef,v,_,h=>by simpa[aF] using h
 | .bE,.d y,v,hw,h=>by simp only[Eng.wk] at hw;simp only[aF] at h⊢;rw[hw,h];exact .nil
 | .bE,.aW k',v,hw,h=>by simp only[Eng.wk] at hw;simp only[aF] at h⊢;rw[pW hw];exact⟨gY _ _ hw,h⟩
 | .d x,.d y,v,hw,h=>by simp only[Eng.wk] at hw;simp only[aF] at h⊢;rw[←hw];exact h.frame hf (aH _)
 | .aW k,.d y,v,hw,h=>by simp only[Eng.wk] at hw;simp only[aF] at h⊢;rw[h.2];exact hacc k y hw.1 hw.2
 | .aW k,.aW k',v,hw,h=>by simp only[Eng.wk] at hw;simp only[aF] at h⊢;rw[nF hw];exact⟨gY _ _ hw,h.2⟩
 | .bK k off,.bK k' off',v,hw,h=>by simp only[Eng.wk] at hw;obtain⟨hw,rfl⟩:=hw;simp only[aF] at h⊢;rw[nF hw];exact⟨gY _ _ hw,h.2⟩
 | .iT k i off sz,.iT k' i' off' sz',v,hw,h=>by simp only[Eng.wk] at hw;obtain⟨hw,rfl,rfl,rfl⟩:=hw;simp only[aF] at h⊢;rw[nF hw];exact⟨gY _ _ hw,h.2⟩
 | .gQ xs i off,.gQ ys j off',v,hw,h=>by simp only[Eng.wk] at hw;obtain⟨rfl,rfl,rfl⟩:=hw;simp only[aF] at h⊢;obtain⟨b,o,cap,h1,h2,h3⟩:=h;exact⟨b,o,cap,h1.frame hf (aH _),h2,h3⟩
 | .agg cs,.agg ds,v,hw,h=>by simp only[Eng.wk] at hw;simp only[aF] at h⊢;obtain⟨vs,rfl,h⟩:=h;exact⟨vs,rfl,aB.wk hf gY hacc cs ds vs hw h⟩
 | .ko cs,.ko ds,v,hw,h=>by simp only[Eng.wk] at hw;simp only[aF] at h⊢;obtain⟨vs,rfl,h⟩:=h;exact⟨vs,rfl,aB.wk hf gY hacc cs ds vs hw h⟩
 | .fn f cs,.fn f' ds,v,hw,h=>by simp only[Eng.wk] at hw;obtain⟨rfl,hw⟩:=hw;simp only[aF] at h⊢;obtain⟨vs,rfl,h⟩:=h;exact⟨vs,rfl,aB.wk hf gY hacc cs ds vs hw h⟩
 | .any,.undef,_,hw,_ | .any,.bE,_,hw,_ | .any,.d _,_,hw,_ | .any,.agg _,_,hw,_ | .any,.ko _,_,hw,_ | .any,.bK _ _,_,hw,_ | .any,.aW _,_,hw,_ | .any,.iT _ _ _ _,_,hw,_ | .any,.gQ _ _ _,_,hw,_ | .any,.fn _ _,_,hw,_=>by simp[Eng.wk] at hw
 | .undef,.bE,_,hw,_ | .undef,.d _,_,hw,_ | .undef,.agg _,_,hw,_ | .undef,.ko _,_,hw,_ | .undef,.bK _ _,_,hw,_ | .undef,.aW _,_,hw,_ | .undef,.iT _ _ _ _,_,hw,_ | .undef,.gQ _ _ _,_,hw,_ | .undef,.fn _ _,_,hw,_=>by simp[Eng.wk] at hw
 | .bE,.undef,_,hw,_ | .bE,.agg _,_,hw,_ | .bE,.ko _,_,hw,_ | .bE,.bK _ _,_,hw,_ | .bE,.iT _ _ _ _,_,hw,_ | .bE,.gQ _ _ _,_,hw,_ | .bE,.fn _ _,_,hw,_=>by simp[Eng.wk] at hw
 | .d _,.undef,_,hw,_ | .d _,.bE,_,hw,_ | .d _,.agg _,_,hw,_ | .d _,.ko _,_,hw,_ | .d _,.bK _ _,_,hw,_ | .d _,.aW _,_,hw,_ | .d _,.iT _ _ _ _,_,hw,_ | .d _,.gQ _ _ _,_,hw,_ | .d _,.fn _ _,_,hw,_=>by simp[Eng.wk] at hw
 | .agg _,.undef,_,hw,_ | .agg _,.bE,_,hw,_ | .agg _,.d _,_,hw,_ | .agg _,.ko _,_,hw,_ | .agg _,.bK _ _,_,hw,_ | .agg _,.aW _,_,hw,_ | .agg _,.iT _ _ _ _,_,hw,_ | .agg _,.gQ _ _ _,_,hw,_ | .agg _,.fn _ _,_,hw,_=>by simp[Eng.wk] at hw
 | .ko _,.undef,_,hw,_ | .ko _,.bE,_,hw,_ | .ko _,.agg _,_,hw,_ | .ko _,.d _,_,hw,_ | .ko _,.bK _ _,_,hw,_ | .ko _,.aW _,_,hw,_ | .ko _,.iT _ _ _ _,_,hw,_ | .ko _,.gQ _ _ _,_,hw,_ | .ko _,.fn _ _,_,hw,_=>by simp[Eng.wk] at hw
 | .bK _ _,.undef,_,hw,_ | .bK _ _,.bE,_,hw,_ | .bK _ _,.agg _,_,hw,_ | .bK _ _,.d _,_,hw,_ | .bK _ _,.ko _,_,hw,_ | .bK _ _,.aW _,_,hw,_ | .bK _ _,.iT _ _ _ _,_,hw,_ | .bK _ _,.gQ _ _ _,_,hw,_ | .bK _ _,.fn _ _,_,hw,_=>by simp[Eng.wk] at hw
 | .aW _,.undef,_,hw,_ | .aW _,.bE,_,hw,_ | .aW _,.agg _,_,hw,_ | .aW _,.ko _,_,hw,_ | .aW _,.bK _ _,_,hw,_ | .aW _,.iT _ _ _ _,_,hw,_ | .aW _,.gQ _ _ _,_,hw,_ | .aW _,.fn _ _,_,hw,_=>by simp[Eng.wk] at hw
 | .iT _ _ _ _,.undef,_,hw,_ | .iT _ _ _ _,.bE,_,hw,_ | .iT _ _ _ _,.agg _,_,hw,_ | .iT _ _ _ _,.d _,_,hw,_ | .iT _ _ _ _,.ko _,_,hw,_ | .iT _ _ _ _,.bK _ _,_,hw,_ | .iT _ _ _ _,.aW _,_,hw,_ | .iT _ _ _ _,.gQ _ _ _,_,hw,_ | .iT _ _ _ _,.fn _ _,_,hw,_=>by simp[Eng.wk] at hw
 | .gQ _ _ _,.undef,_,hw,_ | .gQ _ _ _,.bE,_,hw,_ | .gQ _ _ _,.agg _,_,hw,_ | .gQ _ _ _,.d _,_,hw,_ | .gQ _ _ _,.ko _,_,hw,_ | .gQ _ _ _,.bK _ _,_,hw,_ | .gQ _ _ _,.aW _,_,hw,_ | .gQ _ _ _,.iT _ _ _ _,_,hw,_ | .gQ _ _ _,.fn _ _,_,hw,_=>by simp[Eng.wk] at hw
 | .fn _ _,.undef,_,hw,_ | .fn _ _,.bE,_,hw,_ | .fn _ _,.agg _,_,hw,_ | .fn _ _,.d _,_,hw,_ | .fn _ _,.ko _,_,hw,_ | .fn _ _,.bK _ _,_,hw,_ | .fn _ _,.aW _,_,hw,_ | .fn _ _,.iT _ _ _ _,_,hw,_ | .fn _ _,.gQ _ _ _,_,hw,_=>by simp[Eng.wk] at hw
theorem aB.wk(hf:∀b,ok b→b<w.heap.size→ok' b∧w.heap[b]?=w.heap[b]?)(gY:∀i x,jE m i=some x→(st' i).isSome=true)
 (hacc:∀k y,W0 (g.at k) y→JB k m=false→jn w ok' y (ν k).v) :
 ∀(ps qs:List PV)(vs:List Value),Dm g m ps qs→aB w ok ν g.at ps vs→aB w ok' (YC ν m) st' qs vs
 | [],[],vs,_,h=>by cases vs<;>simp[aB] at h⊢
 | p::ps,q::qs,[],_,h=>by simp[aB] at h
 | p::ps,q::qs,v::vs,hw,h=>by simp only[Dm] at hw;simp only[aB] at h⊢;exact⟨aF.wk hf gY hacc p q v hw.1 h.1,aB.wk hf gY hacc ps qs vs hw.2 h.2⟩
 | [],_::_,_,hw,_=>by simp[Dm] at hw
 | _::_,[],_,hw,_=>by simp[Dm] at hw
end
end
theorem YG:∀{g:G}{m:List (Option Nat)}{ps qs:List PV},Dm g m ps qs→ps.length=qs.length
 | _,_,[],[],_=>rfl
 | _,_,p::ps,q::qs,h=>by simp only[Dm] at h;simp[YG h.2]
 | _,_,[],_::_,h=>by simp[Dm] at h
 | _,_,_::_,[],h=>by simp[Dm] at h
theorem Yp{w:World}{ok:Nat→Prop}{ν ν':Nat→Nm}{g:G}{m:List (Option Nat)}{st':Nat→Option En}{ok':Nat→Prop}(hv:∀(p q:PV)(v:Value),wk g m p q→aF w ok ν g.at p v→aF w ok' ν' st' q v) :
 ∀{ps qs:List PV},Dm g m ps qs→∀(t:Nat)(v:Value),aF w ok ν g.at (nth ps t) v→aF w ok' ν' st' (nth qs t) v
 | [],[],_,t,v,_=>by simp[nth,aF]
 | p::ps,q::qs,h,0,v,hr=>by simp only[Dm] at h;simp only[nth] at hr⊢;exact hv p q v h.1 hr
 | p::ps,q::qs,h,t+1,v,hr=>by simp only[Dm] at h;simp only[nth] at hr⊢;exact Yp hv h.2 t v hr
 | [],_::_,h,_,_,_=>by simp[Dm] at h
 | _::_,[],h,_,_,_=>by simp[Dm] at h
theorem Q7{P:Program}{n0:Nat}{m:List (Option Nat)}{g g':G}(h:Wk n0 m g g'):pG P n0 g g':=by
 intro X ν a w hp hs;refine⟨YC ν m,?_⟩;have gY:∀i x,jE m i=some x→(g'.at i).isSome=true:=fun i x hx=>B0 h.p i x hx;have mf:=fun i e' he=>Kl h.p i e' he;have qg:∀e e',Gw g m e e'→e'.live=true→e.live=true:=by
  intro e e' hw hl;cases e' with
  | dead=>cases hl
  | box ds=>cases e<;>first|rfl|(simp[Gw] at hw)
  | aW t ys=>cases e<;>first|rfl|(simp[Gw] at hw)
  | e9 t ys=>cases e<;>first|rfl|(simp[Gw] at hw)
  | map wC=>cases e<;>first|rfl|(simp[Gw] at hw)
 have howned:∀b,Own (YC ν m) g'.at b→∃i k e,jE m i=some (some k)∧g.at k=some e∧e.live=true∧(ν k).has b:=by
  rintro b ⟨i,e',h1,h2,h3⟩;rcases mf i e' h1 with⟨k,e,k1,k2,k3⟩|⟨k1,t,rfl|rfl⟩;rw[nF k1] at h3;exact⟨i,k,e,k1,k2,qg e e' k3 h2,h3⟩;all_goals
   rw[pW k1] at h3
   simp[Nm.has,zR] at h3
 have vi:∀b,Own (YC ν m) g'.at b→Own ν g.at b:=fun b hb=>by obtain⟨i,k,e,k1,k2,k3,k4⟩:=howned b hb;exact⟨k,e,k2,k3,k4⟩
 have hf:∀b,dg X ν g.at b→b<w.heap.size→dg X (YC ν m) g'.at b∧w.heap[b]?=w.heap[b]?:=fun b hb _=>⟨⟨fun ho=>hb.1 (vi b ho),hb.2⟩,rfl⟩;have hfr:∀k e,g.at k=some e→e.live=true→JB k m=false→∀b,(ν k).has b→dg X (YC ν m) g'.at b:=by intro k e hk hl hm b hb;have jG:Own ν g.at b:=⟨k,_,hk,hl,hb⟩;refine⟨fun ho=>?_,hs.Sj jG⟩;obtain⟨i,k',e',k1,k2,k3,k4⟩:=howned b ho;have:=hs.inj k k' _ _ b hk k2 hl k3 hb k4;subst this;rw[PC k1] at hm;cases hm
 have hacc:∀k y,W0 (g.at k) y→JB k m=false→jn w (dg X (YC ν m) g'.at) y (ν k).v:=by
  intro k y hk hm;cases hgk:g.at k with
  | none=>rw[hgk] at hk;exact hk.elim
  | some e=>
   rw[hgk] at hk;cases e with
   | box cs=>exact hk.elim
   | dead=>exact hk.elim
   | map wC=>exact hk.elim
   | aW e xs=>simp only[W0] at hk;rw[hk];obtain⟨us,h1,h2,h3,h4⟩:=hs.en k _ hgk;exact yl h1 h2 h3 (fun b hb=>hfr k _ hgk rfl hm b (.inl hb)) hf
   | e9 e xs=>simp only[W0] at hk;obtain⟨ys,h1,rfl⟩:=hk;have hen:=hs.en k _ hgk;exact mS.data hf (.own e xs) _ _ _ (by simp only[T.Ah,h1]) hen.1 fun b hb=>hfr k _ hgk rfl hm b (rf.2 hb)
 have qe:=fun p q v=>aF.wk (w:=w) (ok:=dg X ν g.at) (ok':=dg X (YC ν m) g'.at) (ν:=ν) (g:=g) (m:=m) (st':=g'.at) hf gY hacc p q v;have hreps:=fun ps qs vs=>aB.wk (w:=w) (ok:=dg X ν g.at) (ok':=dg X (YC ν m) g'.at) (ν:=ν) (g:=g) (m:=m) (st':=g'.at) hf gY hacc ps qs vs;refine⟨by rw[hs.size,YG h.s],fun t=>?_,fun i e' he=>?_,fun i j e e' b h1 h2 h3 h4 h5 h6=>?_,fun b hb=>hs.base b (vi b hb),fun i hi=>?_,fun i hi=>?_,hs.J1,hs.C4,hs.defs⟩;exact Yp qe h.s t _ (hs.sl t)
 ·rcases mf i e' he with⟨k,e,k1,k2,k3⟩|⟨k1,t,rfl|rfl⟩
  ·have hen:=hs.en k e k2;cases e' with
   | dead=>trivial
   | box ds=>
    cases e with
    | box cs=>obtain⟨b,vs,T,q1,q2,q3,q4⟩:=hen;simp only[Gw] at k3;simp only[nx,nF k1];exact⟨b,vs,T,q1,q2,hreps cs ds vs k3 q3,q4⟩
    | aW t xs=>simp[Gw] at k3
    | e9 t xs=>simp[Gw] at k3
    | dead=>simp[Gw] at k3
    | map wC=>simp[Gw] at k3
   | aW t ys=>
    cases e with
    | aW t' xs=>simp only[Gw] at k3;obtain⟨rfl,rfl⟩:=k3;obtain⟨us,q1,q2,q3⟩:=hen;simp only[nx,nF k1];exact⟨us,q1,q2.frame hf (aH _),q3⟩
    | box cs=>simp[Gw] at k3
    | dead=>simp[Gw] at k3
    | map wC=>simp[Gw] at k3
    | e9 t xs=>simp[Gw] at k3
   | e9 t ys=>
    cases e with
    | aW t' xs=>simp only[Gw] at k3;obtain⟨rfl,rfl⟩:=k3;obtain⟨us,q1,q2,q3,q4⟩:=hen;simp only[nx,mS,nF k1,q4,pO,bV];refine⟨⟨us,[],q1,q2.hu,bN.FB (q2.frame hf (aH _)),q3,by simp⟩,?_⟩;unfold hb;split<;>simp
    | e9 t' xs=>simp only[Gw] at k3;obtain⟨rfl,rfl,k4⟩:=k3;simp only[nx,nF k1];refine⟨mS.still (.own t' xs) _ _ ?_ (mS.frame hf (aH _) (mZ.refl _ _) _ _ _ hen.1 fun _ _=>rfl),hen.2⟩;simp only[T.Ah];obtain⟨zs,hz⟩:=dz.1 k4;rw[hz];rfl
    | box cs=>simp[Gw] at k3
    | dead=>simp[Gw] at k3
    | map wC=>simp[Gw] at k3
   | map kvs'=>
    cases e with
    | map wC=>simp only[Gw] at k3;subst k3;simp only[nx,nF k1] at hen⊢;exact hen
    | box cs=>simp[Gw] at k3
    | aW t xs=>simp[Gw] at k3
    | e9 t xs=>simp[Gw] at k3
    | dead=>simp[Gw] at k3
  simp only[nx,pW k1];exact⟨[],⟨by simp,.inl ⟨rfl,rfl⟩⟩,cW.nil _ _ _,by simp,trivial⟩;simp only[nx,pW k1,mS];exact⟨⟨[],[],⟨by simp,.inl ⟨rfl,rfl⟩⟩,by simp,by simp[bN],by simp,rfl⟩,by simp[hb,zR]⟩
 rcases mf i e h1 with⟨k,e1,k1,k2,k3⟩|⟨k1,t,rfl|rfl⟩;rcases mf j e' h2 with⟨l,e2,l1,l2,l3⟩|⟨l1,t,rfl|rfl⟩;rw[nF k1] at h5;rw[nF l1] at h6;have:=hs.inj k l e1 e2 b k2 l2 (qg _ _ k3 h3) (qg _ _ l3 h4) h5 h6;subst this;exact P1 h.nod k1 l1 h1 h2 h3 h4;rw[pW l1] at h6;simp[Nm.has,zR] at h6;rw[pW l1] at h6;simp[Nm.has,zR] at h6;rw[pW k1] at h5;simp[Nm.has,zR] at h5;rw[pW k1] at h5;simp[Nm.has,zR] at h5;obtain⟨e',he⟩:=dz.1 hi;rcases mf i e' he with⟨k,e,k1,k2,k3⟩|⟨k1,t,rfl|rfl⟩;rw[nF k1];exact hs.nu k (by rw[k2];rfl);rw[pW k1];rfl;rw[pW k1];rfl;have pz:=hp i hi;have hl:=Nq h.keep i pz;rw[dQ] at hl;exact⟨by rw[nF hl];exact(hs.par i hi).1,gY i _ hl⟩
end Go.Eng
namespace Go.Eng
open Go.RowKit
theorem Sat.aex{P:Program}{X:Cx}{ν:Nat→Nm}{g:G}{a:Act}{w w':World}(h:Sat P X ν g a w)(tK:uO (fun _=>False) w w')(d:Nat)(p:PV)(v:Value)
 (hv:(∀b,w.heap.size≤b→dg X ν g.at b)→(∀b,dg X ν g.at b→b<w.heap.size→dg X ν g.at b∧w'.heap[b]?=w.heap[b]?)→aF w' (dg X ν g.at) ν g.at p v) :
 Sat P X ν ⟨kM g.sl d p,g.st⟩ (a.put (some d) v) w':=by
 have hfree:∀b,w.heap.size≤b→dg X ν g.at b:=fun b hb=>⟨fun ho=>by have:=h.lt ho;omega,fun hz=>by have:=(h.J1 b hz).1;have:=h.C4.size;omega⟩
 have hsame:∀b,dg X ν g.at b→b<w.heap.size→dg X ν g.at b∧w'.heap[b]?=w.heap[b]?:=fun b hb pz=>⟨hb,tK.block b pz (fun hf=>hf)⟩
 refine h.upd (g':=⟨kM g.sl d p,g.st⟩) (fun _=>False) tK (fun _ hb=>hb.elim) (mZ.refl _ _) (fun k e he=>.inl ⟨he,rfl,fun _ _ _ hb=>hb⟩) (fun k e b he hl hb=>.inl ⟨k,e,he,hl,hb⟩) ?_ (fun k hk=>.inl hk) ?_ ?_ rfl
 ·intro k k' e e' b h1 h2 h3 h4 h5 h6
  exact h.inj k k' e e' b h1 h2 h3 h4 h5 h6
 ·simp[size_put,kJ,h.size]
 ·intro t
  simp only[we,oj,h.size]
  by_cases hc:t=d∧d<g.sl.length
  ·simp only[hc,and_self,if_true]
   exact .inr (hv hfree hsame)
  ·simp only[hc,if_false]
   exact .inl ⟨trivial,trivial⟩
theorem Pg(off:Nat):∀(l:List Value)(n:Nat)(cells:Array Value)(k:Nat),off+n+l.length≤cells.size →
 ((l.zipIdx n).foldl (fun cs (x:Value×Nat)=>cs.setIfInBounds (off+x.2) x.1) cells)[k]?=if off+n≤k∧k<off+n+l.length then l[k-(off+n)]? else cells[k]?
 | [],n,cells,k,_=>by have:¬ (off+n≤k∧k<off+n+0):=oM;simp;intro h1 h2;omega
 | c::l,n,cells,k,hl=>by simp only[List.zipIdx_cons,List.foldl_cons];simp only[aG] at hl;rw[Pg off l (n+1) _ k (by simp;omega)];by_cases h1:off+(n+1)≤k∧k<off+(n+1)+l.length;rw[if_pos h1,if_pos (by simp only[aG];omega)];have:k-(off+n)=(k-(off+(n+1)))+1:=oM;rw[this];simp;rw[if_neg h1];by_cases h2:k=off+n;subst h2;have pz:off+n<cells.size:=oM;rw[if_pos (by simp only[aG];omega)];simp[pz];rw[if_neg (by simp only[aG];omega)];simp[Array.getElem?_setIfInBounds,show ¬off+n=k from fun e=>h2 e.symm]
theorem UB(off:Nat)(l:List Value)(cells:Array Value)(hl:off+l.length≤cells.size) :
 (l.zipIdx.foldl (fun cs (x:Value×Nat)=>cs.setIfInBounds (off+x.2) x.1) cells).toList=cells.toList.take off++(l++cells.toList.drop (off+l.length)):=by
 apply List.ext_getElem?
 intro k
 have h:=Pg off l 0 cells k oM
 simp only[Nat.add_zero] at h
 rw[Array.getElem?_toList,h]
 by_cases h1:k<off
 ·rw[if_neg oM,br (by simp;omega),dR,if_pos h1]
  simp
 ·rw[bG (by simp;omega)]
  have e:(List.take off cells.toList).length=off:=by simp;omega
  rw[e]
  by_cases h2:k<off+l.length
  ·rw[if_pos oM,br oM]
  ·rw[if_neg oM,bG oM,eY]
   have:off+l.length+(k-off-l.length)=k:=oM
   rw[this];simp
def Lb(places:List (Nat×Nat))(cs:List PV):List (Nat×PV)→Option (List PV)
 | []=>some cs
 | (i,p)::rest=>
   match places[i]? with
   | none=>none
   | some (off,sz)=>if p.whole=true∧(fK p).length=sz∧off+sz≤cs.length then Lb places (BL cs off (fK p)) rest else none
theorem Uw{w:World}{ok:Nat→Prop}{ν:Nat→Nm}{st:Nat→Option En}(hν:∀k,(st k).isSome=true→(ν k).v.oneCell'=true)(places:List (Nat×Nat))(ev:Operand→PV)(ρ:Operand→Value)(hev:∀x,aF w ok ν st (ev x) (ρ x)) :
 ∀(ps:List (Nat×Operand))(cs:List PV)(cells:Array Value)(r:List PV),aB w ok ν st cs cells.toList→Lb places cs (ps.map fun x=>(x.1,ev x.2))=some r →
 ∃cells',Instr.fill (places.toArray[·]?) cells (ps.map fun x=>(x.1,ρ x.2))=some cells'∧aB w ok ν st r cells'.toList
 | [],cs,cells,r,h,hr=>by simp only[cL,Lb,Option.some.injEq] at hr;subst hr;exact⟨cells,rfl,h⟩
 | (i,x)::ps,cs,cells,r,h,hr=>by simp only[aJ,Lb] at hr;split at hr;cases hr;rename_i off sz hpl;split at hr;rename_i hc;obtain⟨h1,h2,h3⟩:=hc;have hx:=(hev x).cells h1 hν;have hxl:=hx.length;have hcl:=h.length;have hxs:(ρ x).cells.size=sz:=(by rw[←h2,←hxl];simp);have hcs:cells.size=cs.length:=(by rw[←hcl];simp);have hone:=UB off (ρ x).cells.toList cells (by rw[hxl,hcs,h2];exact h3);have qe:aB w ok ν st (BL cs off (fK (ev x))) ((ρ x).cells.toList.zipIdx.foldl (fun cs (x:Value×Nat)=>cs.setIfInBounds (off+x.2) x.1) cells).toList:=(by rw[hone,hxl];exact(h.take off).append (hx.append (h.drop _)));obtain⟨cells',k1,k2⟩:=Uw hν places ev ρ hev ps _ _ r qe hr;refine⟨cells',?_,k2⟩;simp only[aJ,Instr.fill];have hpl':(places.toArray[i]?:Option (Nat×Nat))=some (off,sz):=(by simpa using hpl);rw[hpl'];simp only;rw[if_neg (by simp only[hxs,hcs,ne_eq,not_true_eq_false,decide_false,mV,decide_eq_true_eq];omega)];rw[←k1];congr 1;rw[←Array.foldl_toList,Array.toList_zipIdx];cases hr
section
variable{E:Env}{g:G}{d:Nat}{ty:TypeId}{pos:String}{fI:Array Edge}{gd:Option (Nat×Bool)}{dn:Option Nat}
theorem aem(t:TypeId)(ps:List (Nat×Operand))(ti:TI)(fs:List (Nat×Nat×Nat))(r:List PV)(ht:E.ti t=some ti)(mU:ti.ty= .struct fs)
 (hr:Lb (fs.map fun x=>(x.2.1,x.2.2)) ti.zero (ps.map fun x=>(x.1,g.ev x.2))=some r) :
 mQ E.P ⟨some d,.build t ⟨ps⟩,ty,pos,fI,gd⟩ g ⟨ps.flatMap fun x=>eu x.2,[]⟩ ⟨some (d,.agg r),[]⟩:=by
 intro g2 hg
 have hmap:ps.map (fun x=>(x.1,g2.ev x.2))=ps.map (fun x=>(x.1,g.ev x.2)):=by have:∀(ps:List (Nat×Operand)),(∀t∈ps.flatMap (fun x=>eu x.2),t∈ps.flatMap (fun x=>eu x.2))→True:=fun _ _=>trivial;apply lp;intro x hx;rw[hg.ev (x:=x.2) (fun t h=>gF.2 ⟨x,hx,h⟩)]
 refine JC.val rfl fun X ν a w hs=>?_
 obtain⟨i,z,h1,h2,h4,h5,h6,h7⟩:=(E.ok t ti ht).info
 have hu:=(E.ok t ti ht).ty
 rw[mU] at hu
 obtain⟨fields,hu,hpl,_⟩:=hu
 rw[←hmap] at hr
 obtain⟨cells',k1,k2⟩:=Uw hs.nu (fs.map fun x=>(x.2.1,x.2.2)) g2.ev a.eval hs.ev ps ti.zero z.cells r (by rw[←h6];exact xS _ _ _ _ _) hr
 refine⟨.agg cells',?_,by simp only[aF];exact⟨cells'.toList,rfl,k2⟩⟩
 have hb:E.P.built t (ps.map fun x=>(x.1,a.eval x.2))=some cells':=by simp only[Program.built,h1,hu,h5,hpl,k1]
 have:=run_build (P:=E.P) w t ⟨ps.map fun x=>(x.1,a.eval x.2)⟩ cells' hb
 simp only[execOp,kg,Sem.run_bind,this,Result.andThen_ok]
 rfl
def rowsOf:List PV→Option (List (List D))
 | []=>some []
 | p::ps=>if p.whole=true then match DW (fK p),rowsOf ps with|some x,some xs=>some (x::xs)|_,_=>none else none
def NR:Nat→List Nat→Bool
 | _,[]=>true
 | i,j::js=>i == j&&NR (i+1) js
def xC(n:Nat):List (List D)→Bool
 | []=>true
 | x::xs=>x.length == n&&xC n xs
theorem GV{w:World}{ok:Nat→Prop}{ν:Nat→Nm}{st:Nat→Option En}(hν:∀k,(st k).isSome=true→(ν k).v.oneCell'=true)(sz:Nat)(ev:Operand→PV)(ρ:Operand→Value)(hev:∀x,aF w ok ν st (ev x) (ρ x)) :
 ∀(ps:List (Nat×Operand))(i:Nat)(pre:List Value)(cells:Array Value)(aK:List (List D)),NR i (ps.map (·.1))=true→rowsOf (ps.map fun x=>ev x.2)=some aK→xC sz aK=true→pre.length=i*sz→cells.toList.take (i*sz)=pre→cells.size=(i+ps.length)*sz →
 ∃us:List (List Value),Instr.fill (fun i=>some (i*sz,sz)) cells (ps.map fun x=>(x.1,ρ x.2))=some ⟨pre++us.flatten⟩∧cW w ok sz aK us
 | [],i,pre,cells,aK,_,hr,_,hpl,hpre,hsz=>by simp only[cL,rowsOf,Option.some.injEq] at hr;subst hr;refine⟨[],?_,cW.nil _ _ _⟩;simp only[cL,Instr.fill,List.flatten_nil,bV];congr 1;rw[←hpre,ak (by rw[fx,hsz];exact aH _)]
 | (j,x)::ps,i,pre,cells,aK,hup,hr,fj,hpl,hpre,hsz=>by
  simp only[aJ,NR,ab,beq_iff_eq] at hup;obtain⟨rfl,hup⟩:=hup;simp only[aJ,rowsOf] at hr;split at hr;rename_i hwh;split at hr;rename_i row rows' qf hrows;obtain rfl:=Option.some.inj hr;simp only[xC,ab,beq_iff_eq] at fj;have hx:=(hev x).cells hwh hν;have hxl:=hx.length;have hd:=BO hx qf;obtain⟨UJ,hd2⟩:=Gh hd;have hxs:(ρ x).cells.toList.length=sz:=(by rw[UJ];exact fj.1);simp only[aG] at hsz;have hmul:(i+(ps.length+1))*sz=i*sz+(sz+ps.length*sz):=(by rw[da,da];omega);have hone:=UB (i*sz) (ρ x).cells.toList cells (by rw[hxs,hsz,hmul];omega);have hsz2:(((ρ x).cells.toList.zipIdx.foldl (fun cs (x:Value×Nat)=>cs.setIfInBounds (i*sz+x.2) x.1) cells)).size=(i+1+ps.length)*sz:=(by rw[←fx,hone];simp only[ay,List.length_take,eX,fx,hsz,hxs];rw[hmul,show i+1+ps.length=i+(ps.length+1) by omega,hmul];omega);obtain⟨us,k1,k2⟩:=GV hν sz ev ρ hev ps (i+1) (pre++(ρ x).cells.toList) _ rows' hup hrows fj.2 (by rw[ay,hpl,hxs,da];omega)
   (by rw[hone,hpre,←bm,cH (by rw[ay,hpl,hxs,da];omega)];rw[ak (by rw[ay,hpl,hxs,da];omega)]) hsz2
  refine⟨(ρ x).cells.toList::us,?_,k2.cons fj.1 hxs hd2⟩;have hxs':(ρ x).cells.size=sz:=(by simpa using hxs);simp only[aJ,Instr.fill];rw[if_neg (by simp only[hxs',hsz,hmul,ne_eq,not_true_eq_false,decide_false,mV,decide_eq_true_eq];omega)];rw[dt,←bm,←k1];congr 1;rw[←Array.foldl_toList,Array.toList_zipIdx];cases hr;cases hr
theorem YZ{t e:Nat}{ti ei:TI}(ht:E.ti t=some ti)(mU:ti.ty= .slice e)(he:E.ti e=some ei){X:Cx}{ν:Nat→Nm}{g2:G}{a:Act}{w:World}(hs:Sat E.P X ν g2 a w)(ps:List (Nat×Operand))(aK:List (List D))
 (hup:NR 0 (ps.map (·.1))=true) (hr:rowsOf (ps.map fun x=>g2.ev x.2)=some aK) (fj:xC ei.n aK=true) (hbig:ps.length*ei.n≤16777216) {o:Oper} (ho:o.op= .buildSlice t ps.length ⟨ps⟩) :
 ∃us:List (List Value),(execOp a.eval o).run E.P w= .ok (.value (.slice (some ⟨w.heap.size,0,none⟩) ps.length ps.length)) (w.alloc (.cells ⟨us.flatten⟩ e))∧cW w (dg X ν g2.at) ei.n aK us:=by
 obtain⟨i,z,h1,h2,h4,h5,h6,h7⟩:=(E.ok e ei he).info
 have hu:=(E.ok t ti ht).ty
 rw[mU] at hu
 have hpos:=(E.ok e ei he).pos
 have hrowsl:∀(qs:List PV)(aK:List (List D)),rowsOf qs=some aK→aK.length=qs.length:=by
  intro qs;induction qs with
  | nil=>intro aK h;simp[rowsOf] at h;simp[←h]
  | cons q qs ih=>intro aK h;simp only[rowsOf] at h;split at h;split at h;rename_i h1 h2;obtain rfl:=Option.some.inj h;simp[ih _ h2];cases h;cases h
 have hrl:=hrowsl _ _ hr
 simp only[cd] at hrl
 have key:∀init:Array Value,init.size=ps.length*ei.n→∃us:List (List Value),Instr.fill (fun i=>some (i*ei.n,ei.n)) init (ps.map fun x=>(x.1,a.eval x.2))=some ⟨us.flatten⟩∧cW w (dg X ν g2.at) ei.n aK us:=by intro init hi;obtain⟨us,k1,k2⟩:=GV hs.nu ei.n g2.ev a.eval hs.ev ps 0 [] init aK hup hr fj (by simp) (by simp) (by simpa using hi);exact⟨us,by simpa using k1,k2⟩
 by_cases hz:ps.length*ei.n=0
 ·obtain⟨us,k1,k2⟩:=key ((Array.range 0).map fun _=>default) (by rw[Array.size_map,Array.size_range,hz])
  refine⟨us,?_,k2⟩
  simp only[execOp,ho,kg,Instr.buildSlice,Sem.run_bind,run_underlying hu,Result.andThen_ok,(E.ok e ei he).size w,hz]
  simp[k1,newRow]
 ·obtain⟨us,k1,k2⟩:=key ((Array.range (ps.length*ei.n)).map (z.cells[· % z.cells.size]!)) (by simp)
  refine⟨us,?_,k2⟩
  have hn:¬ps.length*ei.n>16777216:=oM
  simp only[execOp,ho,kg,Instr.buildSlice,Sem.run_bind,run_underlying hu,Result.andThen_ok,(E.ok e ei he).size w]
  simp[hn,hz,zeroValue,typeInfo,h1,h5,k1,newRow]
theorem D9:∀{qs:List PV}{aK:List (List D)},rowsOf qs=some aK→aK.length=qs.length
 | [],aK,h=>by simp[rowsOf] at h;simp[←h]
 | q::qs,aK,h=>by simp only[rowsOf] at h;split at h;split at h;rename_i h1 h2;obtain rfl:=Option.some.inj h;simp[D9 h2];cases h;cases h
theorem TT(w:World)(us:List Value)(e:TypeId):mb (w.alloc (.cells ⟨us⟩ e)) w.heap.size 0 us:=by intro j u hu;simp only[World.cell?,vW,dQ];simpa using hu
theorem abg(t e n:Nat)(ps:List (Nat×Operand))(ti ei:TI)(aK:List (List D))(ht:E.ti t=some ti)(mU:ti.ty= .slice e)(he:E.ti e=some ei)(hn:n=ps.length)(hup:NR 0 (ps.map (·.1))=true)
 (hr:rowsOf (ps.map fun x=>g.ev x.2)=some aK) (fj:xC ei.n aK=true) (hbig:ps.length*ei.n≤16777216) :
 mQ E.P ⟨some d,.buildSlice t n ⟨ps⟩,ty,pos,fI,gd⟩ g ⟨ps.flatMap fun x=>eu x.2,[]⟩ ⟨some (d,.d (.eP aK)),[]⟩:=by
 subst hn
 intro g2 hg
 have hmap:ps.map (fun x=>g2.ev x.2)=ps.map (fun x=>g.ev x.2):=by apply lp;intro x hx;rw[hg.ev (x:=x.2) (fun t h=>gF.2 ⟨x,hx,h⟩)]
 rw[←hmap] at hr
 intro X ν a w next Q hs hnx
 obtain⟨us,pI,k9⟩:=YZ ht mU he hs ps aK hup hr fj hbig (o:=⟨some d,.buildSlice t ps.length ⟨ps⟩,ty,pos,fI,gd⟩) rfl
 have hpos:=(E.ok e ei he).pos
 have hrl:=D9 hr
 simp only[cd] at hrl
 have hle:ps.length≤16777216:=gr (Nat.le_mul_of_pos_right _ hpos) hbig
 unfold Oper.wp
 rw[pI,Oper.upon_value]
 refine hnx ν _ _ (hs.aex (w':=w.alloc (.cells ⟨us.flatten⟩ e)) (lG w _) d _ _ fun hfree hsame=>?_)
 simp only[aF]
 have hrr':=k9.frame hsame (lG w _).size
 rw[←hrl]
 exact .eP aK us w.heap.size 0 aK.length ei.n (hfree _ (aH _)) (sY (vW w _)) (aH _) (by simp only[maxLen];omega) (by unfold LB;omega) hrr'.len hrr'.hx hrr'.hu (TT w _ e) hrr'.hr
theorem DD(t e n k:Nat)(ps:List (Nat×Operand))(ti ei:TI)(aK:List (List D))(ht:E.ti t=some ti)(mU:ti.ty= .slice e)(he:E.ti e=some ei)(hn:n=ps.length)(hup:NR 0 (ps.map (·.1))=true)
 (hr:rowsOf (ps.map fun x=>g.ev x.2)=some aK) (fj:xC ei.n aK=true) (hbig:ps.length*ei.n≤16777216) (hk:g.at k=none) :
 mQ E.P ⟨some d,.buildSlice t n ⟨ps⟩,ty,pos,fI,gd⟩ g ⟨ps.flatMap fun x=>eu x.2,[k]⟩ ⟨some (d,.aW k),[(k,.aW e aK)]⟩:=by
 subst hn
 intro g2 hg
 have hmap:ps.map (fun x=>g2.ev x.2)=ps.map (fun x=>g.ev x.2):=by apply lp;intro x hx;rw[hg.ev (x:=x.2) (fun t h=>gF.2 ⟨x,hx,h⟩)]
 have h3:=(hg.p k (by simp)).trans hk
 rw[←hmap] at hr
 intro X ν a w next Q hs hnx
 obtain⟨us,pI,k9⟩:=YZ ht mU he hs ps aK hup hr fj hbig (o:=⟨some d,.buildSlice t ps.length ⟨ps⟩,ty,pos,fI,gd⟩) rfl
 have hpos:=(E.ok e ei he).pos
 have hrl:=D9 hr
 simp only[cd] at hrl
 have hle:ps.length≤16777216:=gr (Nat.le_mul_of_pos_right _ hpos) hbig
 unfold Oper.wp
 rw[pI,Oper.upon_value]
 have hfl:=k9.gM
 have qf:=World.ownsRow_lit w (e:=e) (⟨us.flatten⟩:Array Value) aK.length (base:=0) (size:=ei.n) (bT _) (by simp only[maxLen];omega) (by simpa using hfl)
 refine hnx _ _ _ (hs.Ax (lG w _) k h3 (.aW e aK) ⟨.slice (some ⟨w.heap.size,0,none⟩) ps.length ps.length,[]⟩ rfl (fun b hb=>?_) d _ _ ?_ ?_)
 ·obtain rfl:w.heap.size=b:=by simpa[Nm.has,zR] using hb
  exact aH _
 ·intro ok st ν' hν hw hm
  refine⟨us,?_,?_,by unfold LB;omega,by rw[hν]⟩
  ·rw[hν,(E.ok e ei he).cells,←hrl]
   exact qf
  ·rw[(E.ok e ei he).cells]
   exact k9.frame hw (lG w _).size
 ·intro ok st ν' hν gY hw hm
  simp only[aF]
  exact⟨by rw[gY];rfl,by rw[hν]⟩
end
def OI(g:G):Option Operand→Int→Int→Prop
 | none,dflt,i=>i=dflt
 | some x,_,i=>∃k,g.ev x= .d (.val (.int k i))
def osl:Option Operand→List Nat
 | none=>[]
 | some x=>eu x
theorem OI.agree{R:Rd}{g g2:G}(h:FV R g g2){o:Option Operand}{a i:Int}(ho:∀t∈osl o,t∈R.s)(hi:OI g o a i):OI g2 o a i:=by
 cases o with
 | none=>exact hi
 | some x=>obtain⟨k,hk⟩:=hi;exact⟨k,(h.ev (x:=x) ho).trans hk⟩
theorem OI.value{P:Program}{X:Cx}{ν:Nat→Nm}{g:G}{a:Act}{w:World}(h:Sat P X ν g a w){o:Option Operand}{d i:Int}(hi:OI g o d i):(o=none∧i=d)∨∃k,o.map a.eval=some (.int k i):=by
 cases o with
 | none=>exact .inl ⟨rfl,hi⟩
 | some x=>obtain⟨k,hk⟩:=hi;have hv:=h.ev x;rw[hk] at hv;exact .inr ⟨k,by simp[iB hv]⟩
theorem wL{P:Program}(w:World){t e s:Nat}(hu:P.underlying t=some (.slice e))(hs:∀w,(sizeOf e).run P w= .ok s w)(a:Option Addr)(len cap:Nat)(lo hi:Option Value)(l h:Int)
 (hlo:(lo=none∧l=0)∨∃k,lo=some (.int k l)) (hhi:(hi=none∧h=len)∨∃k,hi=some (.int k h)) (h0:0≤l) (h1:l≤h) (h2:h≤len) (h3:len≤cap) :
 (Instr.sliceAt t (.slice a len cap) lo hi none).run P w= .ok (sliced a l.toNat h.toNat cap s) w:=by
 have hel:P.elem t=e:=by simp[Program.elem,hu]
 have ht:P.underlying t=some (.slice (P.elem t)):=by rw[hel];exact hu
 rw[run_sliceAt_slice w t _ _ _ _ ht]
 have h2':h≤(cap:Int):=oM
 rcases hlo with⟨rfl,rfl⟩|⟨k,rfl⟩
 ·rcases hhi with⟨rfl,rfl⟩|⟨k',rfl⟩
  ·rw[run_slice_all w t a len cap ht,hel,hs]
   simp[Result.andThen]
  ·rw[run_slice_h w t a len cap ht k' h oM h2',hel,hs]
   simp[Result.andThen]
 ·rcases hhi with⟨rfl,rfl⟩|⟨k',rfl⟩
  ·rw[run_slice_l w t a len cap ht k l h0 h1,hel,hs]
   simp[Result.andThen]
  ·rw[run_slice_lh w t a len cap ht k k' l h h0 h1 h2',hel,hs]
   simp[Result.andThen]
theorem acL{P:Program}(w:World){t:Nat}(hu:P.underlying t=some .string)(s:List UInt8)(lo hi:Option Value)(l h:Int)
 (hlo:(lo=none∧l=0)∨∃k,lo=some (.int k l)) (hhi:(hi=none∧h=s.length)∨∃k,hi=some (.int k h)) (h0:0≤l) (h1:l≤h) (h2:h≤s.length) :
 (Instr.sliceAt t (.string ⟨s.toArray⟩) lo hi none).run P w= .ok (.string ⟨((s.drop l.toNat).take (h.toNat-l.toNat)).toArray⟩) w:=by
 rw[run_sliceAt_string w t _ _ _ _ hu]
 have hsz:(⟨s.toArray⟩:ByteArray).size=s.length:=size_mk s
 rcases hlo with⟨rfl,rfl⟩|⟨k,rfl⟩
 ·rcases hhi with⟨rfl,rfl⟩|⟨k',rfl⟩
  ·rw[run_slice_string_all w t _ hu,ByteArray.extract_mk,hsz]
   simp
  ·rw[run_slice_string_h w t _ hu k' h oM oM,ByteArray.extract_mk]
   simp
 ·rcases hhi with⟨rfl,rfl⟩|⟨k',rfl⟩
  ·rw[run_slice_string_l w t _ hu k l h0 oM,ByteArray.extract_mk,hsz]
   simp
  ·rw[Go.run_slice_string w t _ k k' l h hu h0 h1 oM,ByteArray.extract_mk]
section
variable{E:Env}{g:G}{d:Nat}{ty:TypeId}{pos:String}{fI:Array Edge}{gd:Option (Nat×Bool)}{dn:Option Nat}
theorem vG{sz:Nat}:∀(us:List (List Value))(l n:Nat),(∀(i:Nat)(u:List Value),us[i]?=some u→u.length=sz)→l+n≤us.length→((us.drop l).take n).flatten=(us.flatten.drop (l*sz)).take (n*sz)
 | [],l,n,_,h=>by have h1:l=0:=(by simp at h;omega);have h2:n=0:=(by simp at h;omega);subst h1 h2;simp
 | u::us,0,n,hu,h=>by
  cases n with
  | zero=>simp
  | succ n=>have h0:u.length=sz:=hu 0 u rfl;have ih:=vG us 0 n (fun i x hx=>hu (i+1) x (by simpa using hx)) (by simp at h;omega);simp only[List.drop_zero,Nat.zero_mul] at ih⊢;rw[dE,dt,dt,ih,List.take_append];have e1:(n+1)*sz-u.length=n*sz:=(by rw[da,h0];omega);rw[e1,ak (l:=u) (by rw[h0,da];omega)]
 | u::us,l+1,n,hu,h=>by have h0:u.length=sz:=hu 0 u rfl;have ih:=vG us l n (fun i x hx=>hu (i+1) x (by simpa using hx)) (by simp at h;omega);rw[List.drop_succ_cons,ih,dt];congr 1;rw[List.drop_append,al (l:=u) (by rw[h0,da];omega),bQ];congr 1;rw[da,h0];omega
theorem qW{α:Type}(xs:List α)(l n i:Nat)(x:α)(h:((xs.drop l).take n)[i]?=some x):xs[l+i]?=some x:=by
 rw[dR] at h;split at h
 rwa [eY] at h;cases h
theorem cW.cut{w:World}{ok:Nat→Prop}{sz:Nat}{xs:List (List D)}{us:List (List Value)}(h:cW w ok sz xs us)(l n:Nat):cW w ok sz ((xs.drop l).take n) ((us.drop l).take n):=by refine⟨by simp[h.len],fun i x hx=>h.hx (l+i) x (qW _ _ _ _ _ hx),fun i u hu=>h.hu (l+i) u (qW _ _ _ _ _ hu),fun i j x u d v h1 h2 h3 h4=>h.hr (l+i) j x u d v (qW _ _ _ _ _ h1) (qW _ _ _ _ _ h2) h3 h4⟩
theorem Xu(x:Operand)(lo hi:Option Operand)(t e:Nat)(ti ei:TI)(xs r:List (List D))(l h:Int)(ht:E.ti t=some ti)(mU:ti.ty= .slice e)(he:E.ti e=some ei)(hx:g.ev x= .d (.eP xs))(hlo:OI g lo 0 l)(hhi:OI g hi xs.length h)
 (h0:0≤l) (h1:l≤h) (h2:h≤xs.length) (hz:∀y∈xs,y.length=ei.n) (hr:(xs.drop l.toNat).take (h.toNat-l.toNat)=r) :
 mQ E.P ⟨some d,.slice t x lo hi none,ty,pos,fI,gd⟩ g ⟨eu x++(osl lo++osl hi),[]⟩ ⟨some (d,.d (.eP r)),[]⟩:=by
 subst hr
 intro g2 hg
 have e1:=hg.ev (x:=x) (fun t h=>by simp[h])
 have hlo2:=hlo.agree hg (fun t h=>by simp[h])
 have hhi2:=hhi.agree hg (fun t h=>by simp[h])
 refine JC.val rfl fun X ν a w hs=>?_
 have hv:=hs.ev x
 rw[e1,hx] at hv
 simp only[aF] at hv⊢
 have hu:=(E.ok t ti ht).ty
 rw[mU] at hu
 have hlv:(lo.map a.eval=none∧l=0)∨∃k,lo.map a.eval=some (.int k l):=(hlo2.value hs).imp (fun h=>⟨by rw[h.1];rfl,h.2⟩) id
 have hhv:(hi.map a.eval=none∧h=xs.length)∨∃k,hi.map a.eval=some (.int k h):=(hhi2.value hs).imp (fun h=>⟨by rw[h.1];rfl,h.2⟩) id
 have hsize:=(E.ok e ei he).size
 obtain⟨ln,rfl⟩:∃n:Nat,l=n:=⟨l.toNat,oM⟩
 obtain⟨hn,rfl⟩:∃n:Nat,h=n:=⟨h.toNat,oM⟩
 simp only[aS]
 rcases hv.zk with⟨rfl,ea,ec,hvv,hemp⟩|⟨us,b,off,cap,sz,hvv,dL,hb,jX,hmax,hB,k9,hc⟩
 ·simp only[List.length_nil] at h2
  have hr:=wL (P:=E.P) w hu hsize ea 0 ec _ _ ln hn hlv hhv h0 h1 h2 (bT _)
  obtain rfl:hn=0:=oM
  obtain rfl:ln=0:=oM
  refine⟨sliced ea 0 0 ec ei.n,?_,?_⟩
  ·simp only[execOp,hvv,hX,Sem.run_bind,hr,Result.andThen_ok]
   rfl
  ·simp only[List.drop_nil,List.take_nil]
   unfold sliced
   refine jn.aiR ?_
   rcases hemp with⟨rfl,rfl⟩|⟨k1,k2⟩
   ·exact .inl ⟨by simp,rfl⟩
   ·refine .inr ⟨?_,oM⟩
    split
    ·exact k1
    ·rw[Option.isSome_map]
     exact k1
 ·have hr:=wL (P:=E.P) w hu hsize (some ⟨b,off,none⟩) xs.length cap _ _ ln hn hlv hhv h0 h1 h2 jX
  simp only[aS] at hr
  have hsz:xs=[]∨sz=ei.n:=by
   cases xs with
   | nil=>exact .inl rfl
   | cons y ys=>right;rw[←k9.hx 0 y rfl];exact hz y (by simp)
  refine⟨sliced (some ⟨b,off,none⟩) ln hn cap ei.n,?_,?_⟩
  ·simp only[execOp,hvv,hX,Sem.run_bind,hr,Result.andThen_ok]
   rfl
  ·have fj:((xs.drop ln).take (hn-ln)).length=hn-ln:=by simp;omega
   have hrc:=k9.cut ln (hn-ln)
   have hcl:=vG us ln (hn-ln) k9.hu (by rw[k9.len];omega)
   unfold sliced
   by_cases hcm:cap=ln
   ·rw[if_pos hcm]
    have:hn-ln=0:=oM
    rw[this] at fj hrc⊢
    simp only[List.take_zero] at fj hrc⊢
    exact .eP [] [] b off (cap-ln) sz dL hb (by simp) (by simp only[maxLen] at hmax⊢;omega) (by simp) rfl (by simp) (by simp) (fun j u hu=>by simp at hu) (by simp)
   ·rw[if_neg hcm]
    have hsz':sz=ei.n∨ln=0:=by rcases hsz with rfl|h;right;simp at h2;omega;exact .inl h
    have hoff:(⟨b,off,none⟩:Addr).add (ln*ei.n)=⟨b,off+ln*sz,none⟩:=by rw[add_lit];rcases hsz' with h|h<;>rw[h];simp
    simp only[Option.map_some,hoff]
    have hres:=jn.eP (w:=w) (ok:=dg X ν g2.at) ((xs.drop ln).take (hn-ln)) ((us.drop ln).take (hn-ln)) b (off+ln*sz) (cap-ln) sz dL hb (by rw[fj];omega) (by simp only[maxLen] at hmax⊢;omega) (by rw[fj];omega) hrc.len hrc.hx hrc.hu
     (hc.sub (ln*sz) fun j u hu=>by rw[hcl] at hu;exact qW _ _ _ _ _ hu) hrc.hr
    rw[fj] at hres
    exact hres
theorem Vg(x:Operand)(lo hi:Option Operand)(t:Nat)(ti:TI)(s r:List UInt8)(l h:Int)(ht:E.ti t=some ti)(mU:ti.ty= .str)(hx:g.ev x= .d (.str s))(hlo:OI g lo 0 l)(hhi:OI g hi s.length h)
 (h0:0≤l) (h1:l≤h) (h2:h≤s.length) (hr:(s.drop l.toNat).take (h.toNat-l.toNat)=r) :
 mQ E.P ⟨some d,.slice t x lo hi none,ty,pos,fI,gd⟩ g ⟨eu x++(osl lo++osl hi),[]⟩ ⟨some (d,.d (.str r)),[]⟩:=by
 subst hr
 intro g2 hg
 have e1:=hg.ev (x:=x) (fun t h=>by simp[h])
 have hlo2:=hlo.agree hg (fun t h=>by simp[h])
 have hhi2:=hhi.agree hg (fun t h=>by simp[h])
 refine JC.val rfl fun X ν a w hs=>?_
 have hv:=hs.ev x
 rw[e1,hx] at hv
 obtain⟨hv,hB⟩:=zB hv
 have hu:=(E.ok t ti ht).ty
 rw[mU] at hu
 have hlv:(lo.map a.eval=none∧l=0)∨∃k,lo.map a.eval=some (.int k l):=(hlo2.value hs).imp (fun h=>⟨by rw[h.1];rfl,h.2⟩) id
 have hhv:(hi.map a.eval=none∧h=s.length)∨∃k,hi.map a.eval=some (.int k h):=(hhi2.value hs).imp (fun h=>⟨by rw[h.1];rfl,h.2⟩) id
 have hr:=acL (P:=E.P) w hu s _ _ l h hlv hhv h0 h1 h2
 refine⟨_,?_,by simp only[aF];exact .str _ (by simp;omega)⟩
 simp only[execOp,hv,hX,Sem.run_bind,hr,Result.andThen_ok]
 rfl
def vz{α:Type}(cs:List α)(off:Nat)(vs:List α):List α:=cs.take off++(vs++cs.drop (off+vs.length))
theorem RQ{α:Type}(cs vs:List α)(off:Nat)(h:off+vs.length≤cs.length):(vz cs off vs).length=cs.length:=by simp[vz];omega
theorem MK{sz:Nat}:∀(us:List (List Value))(i off:Nat)(vs rest:List Value),(∀(i:Nat)(u:List Value),us[i]?=some u→u.length=sz)→i<us.length→off+vs.length≤sz →
 vz (us.flatten++rest) (i*sz+off) vs=(us.set i (vz (us.getD i []) off vs)).flatten++rest
 | [],i,_,_,_,_,h,_=>by simp at h
 | u::us,0,off,vs,rest,hu,_,ho=>by have h0:u.length=sz:=hu 0 u rfl;simp only[vz,Nat.zero_mul,dQ,gv,dt,List.getD_cons_zero,bm];rw[cH oM,List.drop_append_of_le_length oM]
 | u::us,i+1,off,vs,rest,hu,hi,ho=>by have h0:u.length=sz:=hu 0 u rfl;have ih:=MK us i off vs rest (fun i x hx=>hu (i+1) x (by simpa using hx)) (by simpa using hi) ho;have e1:(i+1)*sz+off=sz+(i*sz+off):=(by rw[da];omega);simp only[kh,dt,List.getD_cons_succ,bm];rw[←ih,e1];simp only[vz];have e2:List.take (sz+(i*sz+off)) (u++(us.flatten++rest))=u++List.take (i*sz+off) (us.flatten++rest):=(by rw[List.take_append,ak oM,h0];congr 2;omega);have e3:pC (sz+(i*sz+off)+vs.length) (u++(us.flatten++rest))=pC (i*sz+off+vs.length) (us.flatten++rest):=(by rw[List.drop_append,al oM,bQ,h0];congr 1;omega);rw[e2,e3,bm]
theorem FZ{α:Type}(cs vs:List α)(off j:Nat)(h:off+vs.length≤cs.length):(vz cs off vs)[j]?=if off≤j∧j<off+vs.length then vs[j-off]? else cs[j]?:=by
 unfold vz;by_cases h1:j<off;rw[if_neg oM,br (by simp;omega),dR,if_pos h1];have e:(cs.take off).length=off:=by simp;omega
 rw[bG oM,e];by_cases h2:j<off+vs.length;rw[if_pos oM,br oM];rw[if_neg oM,bG oM,eY];congr 1;omega
theorem Oa(x y:Operand)(t k i off sz e:Nat)(ti ei:TI)(xs:List (List D))(p:PV)(cs:List D)(ht:E.ti t=some ti)(he:E.ti e=some ei)(hsz:sz=ei.n)(hx:g.ev x= .iT k i off sz)(hk:g.at k=some (.aW e xs))(hy:g.ev y=p)
 (hi:i<xs.length) (hl:off+ti.n≤ei.n) (hp:p.whole=true) (hn:(fK p).length=ti.n) (hcs:DW (fK p)=some cs) :
 mQ E.P ⟨dn,.store t x y,ty,pos,fI,gd⟩ g ⟨eu x++eu y++dn.toList,[k]⟩ ⟨dn.map fun d=>(d,.undef),[(k,.aW e (xs.set i (vz (row xs i) off cs)))]⟩:=by
 intro g2 hg
 have e1:=hg.ev (x:=x) (fun t h=>by simp[h])
 have e2:=hg.ev (x:=y) (fun t h=>by simp[h])
 have h3:=(hg.p k (by simp)).trans hk
 intro X ν a w next Q hs hnx
 have hv:=hs.ev x
 rw[e1,hx] at hv
 have hw:=hs.ev y
 rw[e2,hy] at hw
 simp only[aF] at hv
 obtain⟨_,b,n,c,hb,hv⟩:=hv
 obtain⟨us,ho,k9,hB,hf0⟩:=hs.en k _ h3
 have sx:=hw.cells hp hs.nu
 have fj:=sx.length
 obtain⟨UJ,hd2⟩:=Gh (BO sx hcs)
 rw[(E.ok e ei he).cells] at k9 ho
 subst hsz
 have hlast:=ho.2
 rcases hlast with⟨h1,h2⟩|⟨b',cap,cur,h1,_,h2,h4,h5,h6,h7⟩
 ·omega
 ·rw[h1] at hb
  obtain⟨rfl,rfl,rfl⟩:b'=b∧xs.length=n∧cap=c:=by simpa using hb
  have hul:us.length=xs.length:=k9.len
  have hfl:=k9.gM
  have hmulle:(i+1)*ei.n≤xs.length*ei.n:=bD _ hi
  have hmulle2:xs.length*ei.n≤cap*ei.n:=bD _ h4
  have hadd:(i+1)*ei.n=i*ei.n+ei.n:=by rw[da];omega
  have hone:∀u∈(a.eval y).cells.toList,u.oneCell'=true:=by intro u hu;obtain⟨j,hj,rfl⟩:=List.getElem_of_mem hu;have hjc:j<cs.length:=(by rw[←UJ];exact hj);exact(hd2 j cs[j] _ (ae hjc) (ae hj)).one
  have hvl:(a.eval y).cells.toList.length=ti.n:=by rw[fj,hn]
  have pI:=yw (E.ok t ti ht) w b' (i*ei.n+off) e cur (a.eval y) h2 hvl oM hone
  have hr:(execOp a.eval ⟨dn,.store t x y,ty,pos,fI,gd⟩).run E.P w= .ok .skip (w.setRow b' (cur.toList.take (i*ei.n+off)++(a.eval y).cells.toList++cur.toList.drop (i*ei.n+off+(a.eval y).cells.toList.length)).toArray):=by simp only[execOp,hv,Instr.storeAt,Instr.sureAddr,Sem.run_bind,Sem.run_pure,Result.andThen_ok,pI]
  have hcur:cur.toList=us.flatten++cur.toList.drop (xs.length*ei.n):=by rw[←h7];exact(fq _ _).symm
  have hnew:cur.toList.take (i*ei.n+off)++(a.eval y).cells.toList++cur.toList.drop (i*ei.n+off+(a.eval y).cells.toList.length)=(us.set i (vz (us.getD i []) off (a.eval y).cells.toList)).flatten++cur.toList.drop (xs.length*ei.n):=by have:=MK us i off (a.eval y).cells.toList (cur.toList.drop (xs.length*ei.n)) k9.hu oM oM;rw[←hcur] at this;rw[←this,bm];rfl
  have hui:us[i]?=some (us.getD i []):=by have:i<us.length:=oM;simp[b9,ae this]
  have hxi:xs[i]?=some (row xs i):=by simp[row,b9,ae hi]
  have hxil:=k9.hx i _ hxi
  have huil:=k9.hu i _ hui
  have hrows:cW w (dg X ν g2.at) ei.n (xs.set i (vz (row xs i) off cs)) (us.set i (vz (us.getD i []) off (a.eval y).cells.toList)):=by refine⟨by simp[hul],fun j z hz=>?_,fun j z hz=>?_,fun j l z u q v k1 k2 k3 k4=>?_⟩;rw[mG] at hz;by_cases hij:i=j;subst hij;rw[if_pos rfl,if_pos hi] at hz;obtain rfl:=Option.some.inj hz;rw[RQ _ _ _ (by rw[hxil,←UJ,hvl];exact hl),hxil];rw[if_neg hij] at hz;exact k9.hx j z hz;rw[mG] at hz;by_cases hij:i=j;subst hij;rw[if_pos rfl,if_pos oM] at hz;obtain rfl:=Option.some.inj hz;rw[RQ _ _ _ (by rw[huil,hvl];exact hl),huil];rw[if_neg hij] at hz;exact k9.hu j z hz;rw[mG] at k1 k2;by_cases hij:i=j;subst hij;rw[if_pos rfl,if_pos hi] at k1;rw[if_pos rfl,if_pos oM] at k2;obtain rfl:=Option.some.inj k1;obtain rfl:=Option.some.inj k2;rw[FZ _ _ _ _ (by rw[hxil,←UJ,hvl];exact hl)] at k3;rw[FZ _ _ _ _ (by rw[huil,hvl];exact hl)] at k4;rw[UJ] at k4;by_cases jY:off≤l∧l<off+cs.length;rw[if_pos jY] at k3 k4;exact hd2 _ _ _ k3 k4;rw[if_neg jY] at k3 k4;exact k9.hr i l _ _ q v hxi hui k3 k4;rw[if_neg hij] at k1 k2;exact k9.hr j l z u q v k1 k2 k3 k4
  unfold Oper.wp
  rw[hr,Oper.upon_skip,hnew]
  refine hnx _ _ _ (hs.G8 k (.aW e xs) (.aW e (xs.set i (vz (row xs i) off cs))) h3 rfl (mP w b' _ _ ((lx hf0).2 (by rw[h1];rfl))) dn .undef Go.undef ?_ ?_)
  ·intro hwf hm
   refine⟨us.set i (vz (us.getD i []) off (a.eval y).cells.toList),?_,?_,by simpa using hB,hf0⟩
   ·rw[(E.ok e ei he).cells,h1]
    have hf2:=hrows.gM
    refine⟨hf2,.inr ⟨b',cap,_,by simp,bT _,setRow_heap w b' _ _ e _ h2,by simpa using h4,h5,?_,?_⟩⟩
    ·simp only[fD,ay,hf2,eH,eX,fx,h6]
     omega
    ·rw[cH (by rw[hf2];exact aH _),ak (by rw[hf2];exact aH _)]
   ·rw[(E.ok e ei he).cells]
    exact hrows.frame hwf (by simp[World.setRow])
  ·intro _
   simp only[aF]
def byD(ns:List Int):List (List D):=ns.map fun n=>[.val (.int .u8 n)]
def byS(ns:List Int):List UInt8:=ns.map fun n=>UInt8.ofNat n.toNat
end
mutual
def sc:PV→Bool
 | .undef=>true
 | .bE=>true
 | .d (.val _)=>true
 | .d (.str _)=>true
 | .agg cs=>scs cs
 | .ko cs=>scs cs
 | _=>false
def scs:List PV→Bool
 | []=>true
 | p::ps=>sc p&&scs ps
end
section
variable{w w':World}{ok ok':Nat→Prop}{ν ν':Nat→Nm}{st st':Nat→Option En}
mutual
theorem aF.sc:∀(p:PV)(v:Value),sc p=true→aF w ok ν st p v→aF w' ok' ν' st' p v
 | .undef,v,_,h=>by simpa[aF] using h
 | .bE,v,_,h=>by simpa[aF] using h
 | .d (.val u),v,_,h=>by
  simp only[aF] at h⊢;cases h with
  | val u h=>exact .val _ h
 | .d (.str u),v,_,h=>by
  simp only[aF] at h⊢;cases h with
  | str u h=>exact .str _ h
 | .agg cs,v,hs,h=>by simp only[Eng.sc] at hs;simp only[aF] at h⊢;obtain⟨vs,e,h⟩:=h;exact⟨vs,e,aB.sc cs vs hs h⟩
 | .ko cs,v,hs,h=>by simp only[Eng.sc] at hs;simp only[aF] at h⊢;obtain⟨vs,e,h⟩:=h;exact⟨vs,e,aB.sc cs vs hs h⟩
 | .any,_,hs,_=>by simp[Eng.sc] at hs
 | .d (.eP _),_,hs,_=>by simp[Eng.sc] at hs
 | .bK _ _,_,hs,_=>by simp[Eng.sc] at hs
 | .aW _,_,hs,_=>by simp[Eng.sc] at hs
 | .iT _ _ _ _,_,hs,_=>by simp[Eng.sc] at hs
 | .gQ _ _ _,_,hs,_=>by simp[Eng.sc] at hs
 | .fn _ _,_,hs,_=>by simp[Eng.sc] at hs
theorem aB.sc:∀(ps:List PV)(vs:List Value),scs ps=true→aB w ok ν st ps vs→aB w' ok' ν' st' ps vs
 | [],[],_,_=>by simp[aB]
 | p::ps,v::vs,hs,h=>by simp only[Eng.scs,ab] at hs;simp only[aB] at h⊢;exact⟨aF.sc p v hs.1 h.1,aB.sc ps vs hs.2 h.2⟩
 | [],_::_,_,h=>by simp[aB] at h
 | _::_,[],_,h=>by simp[aB] at h
end
end
mutual
inductive Vw(g:G)(ks:List Nat):PV→PV→Prop where
 | same {p:PV} (h:p.lt 0=true):Vw g ks p p
 | nil:Vw g ks .bE (.d (.eP []))
 | aW {k:Nat} {e:TypeId} {xs:List (List D)} (h:BH k ks=true) (hk:g.at k=some (.aW e xs)):Vw g ks (.aW k) (.d (.eP xs))
 | e9 {k:Nat} {e:TypeId} {xs:List (List T)} {ys:List (List D)} (h:BH k ks=true) (hk:g.at k=some (.e9 e xs)) (hf:bA xs=some ys):Vw g ks (.aW k) (.d (.eP ys))
 | agg {cs ds:List PV} (h:qn g ks cs ds):Vw g ks (.agg cs) (.agg ds)
 | fn {f:Nat} {cs ds:List PV} (h:qn g ks cs ds):Vw g ks (.fn f cs) (.fn f ds)
 | box {k:Nat} {cs:List PV} {ds:List D} (h:BH k ks=true) (hk:g.at k=some (.box cs)) (hc:qn g ks cs (fy ds)):Vw g ks (.bK k 0) (.gQ [ds] 0 0)
inductive qn(g:G)(ks:List Nat):List PV→List PV→Prop where
 | nil:qn g ks [] []
 | cons {p q:PV} {ps qs:List PV} (h:Vw g ks p q) (h':qn g ks ps qs):qn g ks (p::ps) (q::qs)
end
section
variable{g g2:G}{ks:List Nat}
mutual
theorem Vw.Y0{p q:PV}:Vw g ks p q→q.lt 0=true
 | .same h=>h
 | .nil=>rfl
 | .aW _ _=>rfl
 | .e9 _ _ _=>rfl
 | .agg h=>by simp only[PV.lt];exact qn.Y0 h
 | .fn h=>by simp only[PV.lt];exact qn.Y0 h
 | .box _ _ _=>rfl
theorem qn.Y0{ps qs:List PV}:qn g ks ps qs→wB 0 qs=true
 | .nil=>rfl
 | .cons h h'=>by simp only[wB,ab];exact⟨Vw.Y0 h,qn.Y0 h'⟩
end
mutual
theorem Vw.agree(ha:∀k∈ks,g2.at k=g.at k){p q:PV}:Vw g ks p q→Vw g2 ks p q
 | .same h=>.same h
 | .nil=>.nil
 | .aW h hk=>.aW h ((ha _ (te.1 h)).trans hk)
 | .e9 h hk hf=>.e9 h ((ha _ (te.1 h)).trans hk) hf
 | .agg h=>.agg (qn.agree ha h)
 | .fn h=>.fn (qn.agree ha h)
 | .box h hk hc=>.box h ((ha _ (te.1 h)).trans hk) (qn.agree ha hc)
theorem qn.agree(ha:∀k∈ks,g2.at k=g.at k){ps qs:List PV}:qn g ks ps qs→qn g2 ks ps qs
 | .nil=>.nil
 | .cons h h'=>.cons (Vw.agree ha h) (qn.agree ha h')
end
end
section
variable{P:Program}{X:Cx}{ν ν':Nat→Nm}{g:G}{a:Act}{w:World}{ok:Nat→Prop}{st:Nat→Option En}{ks:List Nat}
mutual
theorem aF.Y0(hw:∀b,dg X ν g.at b→b<w.heap.size→ok b∧w.heap[b]?=w.heap[b]?):∀(p:PV)(v:Value),p.lt 0=true→aF w (dg X ν g.at) ν g.at p v→aF w ok ν' st p v
 | .any,_,_,_=>by simp[aF]
 | .undef,_,_,h=>by simpa[aF] using h
 | .bE,_,_,h=>by simpa[aF] using h
 | .d x,v,_,h=>by simp only[aF] at h⊢;exact h.frame hw (aH _)
 | .agg cs,v,hl,h=>by simp only[PV.lt] at hl;simp only[aF] at h⊢;obtain⟨vs,e,h⟩:=h;exact⟨vs,e,aB.Y0 hw cs vs hl h⟩
 | .ko cs,v,hl,h=>by simp only[PV.lt] at hl;simp only[aF] at h⊢;obtain⟨vs,e,h⟩:=h;exact⟨vs,e,aB.Y0 hw cs vs hl h⟩
 | .gQ xs i off,v,_,h=>by simp only[aF] at h⊢;obtain⟨b,o,cap,h1,h2,h3⟩:=h;exact⟨b,o,cap,h1.frame hw (aH _),h2,h3⟩
 | .fn f cs,v,hl,h=>by simp only[PV.lt] at hl;simp only[aF] at h⊢;obtain⟨vs,e,h⟩:=h;exact⟨vs,e,aB.Y0 hw cs vs hl h⟩
 | .bK _ _,_,hl,_=>by simp[PV.lt] at hl
 | .aW _,_,hl,_=>by simp[PV.lt] at hl
 | .iT _ _ _ _,_,hl,_=>by simp[PV.lt] at hl
theorem aB.Y0(hw:∀b,dg X ν g.at b→b<w.heap.size→ok b∧w.heap[b]?=w.heap[b]?):∀(ps:List PV)(vs:List Value),wB 0 ps=true→aB w (dg X ν g.at) ν g.at ps vs→aB w ok ν' st ps vs
 | [],[],_,_=>by simp[aB]
 | p::ps,v::vs,hl,h=>by simp only[wB,ab] at hl;simp only[aB] at h⊢;exact⟨aF.Y0 hw p v hl.1 h.1,aB.Y0 hw ps vs hl.2 h.2⟩
 | [],_::_,_,h=>by simp[aB] at h
 | _::_,[],_,h=>by simp[aB] at h
end
theorem XE{w:World}{ok:Nat→Prop}{ν:Nat→Nm}{st:Nat→Option En}:∀{ds:List D}{vs:List Value},aB w ok ν st (fy ds) vs→∀(j:Nat)(d:D)(v:Value),ds[j]?=some d→vs[j]?=some v→jn w ok d v
 | [],_,_,j,d,v,h,_=>by simp at h
 | _::_,[],h,_,_,_,_,_=>by simp[fy,aB] at h
 | e::ds,u::vs,h,0,d,v,h1,h2=>by
  simp only[fy,aJ,aB,aF] at h;obtain rfl:e=d:=by simpa using h1
  obtain rfl:u=v:=by simpa using h2
  exact h.1
 | e::ds,u::vs,h,j+1,d,v,h1,h2=>by simp only[fy,aJ,aB] at h;exact XE (ds:=ds) h.2 j d v (by simpa using h1) (by simpa using h2)
theorem P3{w:World}{ok:Nat→Prop}{ν:Nat→Nm}{st:Nat→Option En}{b:Nat}{ds:List D}{vs:List Value}(dL:ok b)(hb:b<w.heap.size)(hc:mb w b 0 vs)(h:aB w ok ν st (fy ds) vs) :
 jn w ok (.eP [ds]) (.slice (some ⟨b,0,none⟩) [ds].length 1):=by
 have hl:vs.length=ds.length:=by simpa[fy] using h.length
 refine .eP [ds] [vs] b 0 1 ds.length dL hb (by simp) (by unfold maxLen;omega) (by simp[LB]) rfl ?_ ?_ (by simpa using hc) ?_
 ·intro i x hx
  cases i with
  | zero=>obtain rfl:ds=x:=by simpa using hx
          rfl
  | succ i=>simp at hx
 ·intro i x hx
  cases i with
  | zero=>obtain rfl:vs=x:=by simpa using hx
          exact hl
  | succ i=>simp at hx
 ·intro i j x u d v h1 h2 h3 h4
  cases i with
  | zero=>
   obtain rfl:ds=x:=by simpa using h1
   obtain rfl:vs=u:=by simpa using h2
   exact XE h j d v h3 h4
  | succ i=>simp at h1
mutual
theorem aF.vw(hs:Sat P X ν g a w)(hw:∀b,dg X ν g.at b→b<w.heap.size→ok b∧w.heap[b]?=w.heap[b]?)(jG:∀b,Own ν g.at b→ok b){p q:PV}:∀(v:Value),Vw g ks p q→aF w (dg X ν g.at) ν g.at p v→aF w ok ν' st q v
 | v,.same hl,h=>aF.Y0 hw _ v hl h
 | v,.nil,h=>by simp only[aF] at h⊢;rw[h];exact .nil
 | v,.aW _ hk,h=>by simp only[aF] at h⊢;rw[h.2];obtain⟨us,h1,h2,h3,_⟩:=hs.en _ _ hk;exact yl h1 h2 h3 (fun b hb=>jG b ⟨_,_,hk,rfl,.inl hb⟩) hw
 | v,.e9 (xs:=xs) (e:=e) _ hk hf,h=>by simp only[aF] at h⊢;rw[h.2];have hen:=hs.en _ _ hk;exact mS.data hw (.own e xs) _ _ _ (by simp only[T.Ah,hf]) hen.1 fun b hb=>jG b ⟨_,_,hk,rfl,rf.2 hb⟩
 | v,.agg hc,h=>by simp only[aF] at h⊢;obtain⟨vs,e,h⟩:=h;exact⟨vs,e,aB.vw hs hw jG vs hc h⟩
 | v,.fn hc,h=>by simp only[aF] at h⊢;obtain⟨vs,e,h⟩:=h;exact⟨vs,e,aB.vw hs hw jG vs hc h⟩
 | v,.box _ hk hc,h=>by simp only[aF] at h⊢;obtain⟨_,b,h1,h2⟩:=h;obtain⟨b',vs,T,h3,h4,h5,_⟩:=hs.en _ _ hk;obtain rfl:b'=b:=(by rw[h1] at h3;simpa using h3.symm);have h6:=aB.vw hs hw jG vs hc h5;refine⟨b',0,1,P3 (jG b' ⟨_,_,hk,rfl,.inl (by rw[h1];rfl)⟩) (sY h4) (zp h4) h6,by simp,by rw[h2];simp⟩
theorem aB.vw(hs:Sat P X ν g a w)(hw:∀b,dg X ν g.at b→b<w.heap.size→ok b∧w.heap[b]?=w.heap[b]?)(jG:∀b,Own ν g.at b→ok b){ps qs:List PV}:∀(vs:List Value),qn g ks ps qs→aB w (dg X ν g.at) ν g.at ps vs→aB w ok ν' st qs vs
 | [],.nil,_=>by simp[aB]
 | v::vs,.cons h1 h2,h=>by simp only[aB] at h⊢;exact⟨aF.vw hs hw jG v h1 h.1,aB.vw hs hw jG vs h2 h.2⟩
 | _::_,.nil,h=>by simp[aB] at h
 | [],.cons _ _,h=>by simp[aB] at h
end
end
theorem aeW{P:Program}{o:Oper}{g:G}{nZ:Operand}{xs:List Operand}{tys:Array TypeId}{d:Nat}(ho:o.op= .call ⟨.value nZ,⟨xs⟩,tys⟩)(hd:o.dst=some d){f:FuncId}{cap:List PV}(hfn:g.ev nZ= .fn f cap)
 (ks:List Nat) (de:List PV) (R:PV→List (Option En)→Prop) (hC:C P f de [] R) (rO:qn g ks (xs.map g.ev++cap) de) (hR:∀r s,R r s→sc r=true)
 (X:Cx) (ν:Nat→Nm) (a:Act) (w:World) (next:Act→World→Prop) (Q:Exit→Act→World→Prop) (hs:Sat P X ν g a w)
 (hn:∀r s ν' a' w',R r s→Sat P X ν' ⟨kM g.sl d r,g.st⟩ a' w'→next a' w'):o.wp P a w next Q:=by
 have hfv:=hs.ev nZ
 rw[hfn] at hfv
 simp only[aF] at hfv
 obtain⟨vcap,hfv,jX⟩:=hfv
 have hxs:=FD hs xs
 let Xc:Cx:=⟨w,Own ν (eJ []),ν,eJ [],X.Z⟩
 have hno:∀b,¬Own ν (eJ []) b:=by rintro b ⟨k,e,h,_⟩;cases k<;>simp[eJ] at h
 have hw:∀b,dg X ν g.at b→b<w.heap.size→dg Xc ν (eJ []) b∧w.heap[b]?=w.heap[b]?:=fun b hb _=>⟨⟨hno b,hb.2⟩,rfl⟩
 have jG:∀b,Own ν g.at b→dg Xc ν (eJ []) b:=fun b hb=>⟨hno b,hs.Sj hb⟩
 have l6:aB w (dg Xc ν (eJ [])) ν (eJ []) de (xs.map a.eval++vcap):=aB.vw hs hw jG _ rO (hxs.app jX)
 obtain⟨⟨fn,hfn1,hfn2,hfn3⟩,hC⟩:=hC
 have hr:(execOp a.eval o).run P w= .ok (.enter f ⟨xs.map a.eval++vcap⟩) w:=by
  have n1 : ¬ fn.name = "runtime.NumGoroutine" := by simpa using hfn3
  have n2:¬fn.body=none:=fun e=>by rw[e] at hfn2;cases hfn2
  simp[execOp,ho,resolve,hfv,Deferred.ofValue,invoke,callFunc,program,hfn1,n1,n2,Sem.run]
 have mf:∀k,(⟨de,[]⟩:G).at k=none:=fun k=>by cases k<;>rfl
 have hent:Sat P Xc ν ⟨de,[]⟩ ⟨⟨xs.map a.eval++vcap⟩,[]⟩ w:=by
  refine⟨by simpa using l6.length,fun t=>?_,fun k e h=>?_,fun k k' e e' b h=>?_,fun b hb=>?_,fun k h=>?_,fun k h=>?_,⟨fun b hb=>?_,hs.kt rfl fun b hb=>(hno b hb).elim⟩,uO.refl _ w,rfl⟩;have key:∀(ps:List PV)(us:List Value)(t:Nat),aB w (dg Xc ν (eJ [])) ν (eJ []) ps us→aF w (dg Xc ν (eJ [])) ν (eJ []) (nth ps t) (us.getD t Go.undef):=by
   intro ps;induction ps with
   | nil=>intro us t _;cases t<;>simp[nth,aF]
   | cons p ps ih=>
    intro us t hr;cases us with
    | nil=>simp[aB] at hr
    | cons u us=>
     simp only[aB] at hr;cases t with
     | zero=>simpa[nth] using hr.1
     | succ t=>simpa[nth] using ih us t hr.2
  have:=key de _ t l6;show aF w (dg Xc ν (eJ [])) ν (eJ []) (nth de t) ((⟨xs.map a.eval++vcap⟩:Array Value).getD t Go.undef);simpa[Array.getD_eq_getD_getElem?] using this;rw[mf] at h;cases h;rw[mf] at h;cases h;exact(hno b hb).elim;rw[mf] at h;cases h;exact⟨rfl,h⟩;exact⟨Nat.lt_of_lt_of_le (hs.J1 b hb).1 hs.C4.size,hno b⟩
 unfold Oper.wp
 rw[hr,Oper.upon_enter]
 refine(hC Xc (xs.map a.eval++vcap) rfl rfl hent).mono ?_
 rintro e w' ⟨v,res,st',ν',rfl,hRr,jS⟩
 show next (a.put o.dst v) w'
 rw[hd]
 refine hn res st' ν _ _ hRr (hs.aex (jS.C4.mono fun b hb _=>hno b hb) d res v fun _ _=>?_)
 have:=jS.sl 0
 exact aF.sc res v (hR _ _ hRr) this
section
variable{E:Env}{g:G}{d:Nat}{ty:TypeId}{pos:String}{fI:Array Edge}{gd:Option (Nat×Bool)}
theorem af9(nZ:Operand)(xs:List Operand)(tys:Array TypeId)(f:FuncId)(cap:List PV)(hfn:g.ev nZ= .fn f cap)(ks:List Nat)(de:List PV)(res:PV)(hC:C E.P f de [] (gR res []))
 (rO:qn g ks (xs.map g.ev++cap) de) (hsc:sc res=true) :
 mQ E.P ⟨some d,.call ⟨.value nZ,⟨xs⟩,tys⟩,ty,pos,fI,gd⟩ g ⟨eu nZ++xs.flatMap eu,ks⟩ ⟨some (d,res),[]⟩:=by
 intro g2 hg
 have e1:=hg.ev (x:=nZ) (fun t h=>by simp[h])
 have e2:=ym hg xs (fun t h=>by simp only[aM];exact .inr h)
 intro X ν a w next Q hs hn
 refine aeW rfl rfl (by rw[e1,hfn]) ks de (gR res []) hC (by rw[e2];exact rO.agree (fun k hk=>hg.p k hk)) (fun r s h=>by rw[h.1];exact hsc) X ν a w next Q hs ?_
 rintro r s ν' a' w' ⟨rfl,rfl⟩ hs'
 exact hn ν' a' w' hs'
end
def Fin(E:Env)(rs:List ResultVar)(n0:Nat)(R:PV→List (Option En)→Prop)(g:G):Prop:=∃g',pG E.P n0 g g'∧ahp E rs n0 R g'
theorem Fin.plain{E:Env}{rs:List ResultVar}{R:PV→List (Option En)→Prop}{g:G}(ps:List PV)(q:PV)(h1:zE E g rs=some ps)(h2:cv (jm ps) q)(hl:q.lt 0=true)(hR:R q []):True:=trivial
end Go.Eng
namespace Go.Eng
open Go.RowKit
inductive DZ where
 | go(R:Rd)(δ:Dl)
 | qS(φ:Prop)(R:Rd)(δ:Dl)
 | stop
def DZ.Ok(P:Program)(o:Oper)(g:G):DZ→Prop
 | .go R δ=>mQ P o g R δ
 | .qS φ R δ=>φ→mQ P o g R δ
 | .stop=>True
def Ae:Nat→Nat→Bool
 | 0,_=>true
 | _+1,0=>false
 | n+1,m+1=>Ae n m
theorem nv:∀{n m:Nat},Ae n m=true→n≤m
 | 0,_,_=>bT _
 | n+1,0,h=>by simp[Ae] at h
 | n+1,m+1,h=>Nat.succ_le_succ (nv (by simpa[Ae] using h))
def K6:Nat→Nat→Bool
 | 0,0=>true
 | n+1,m+1=>K6 n m
 | _,_=>false
theorem zo:∀{n m:Nat},K6 n m=true→n=m
 | 0,0,_=>rfl
 | n+1,m+1,h=>congrArg (·+1) (zo (by simpa[K6] using h))
 | 0,m+1,h=>by simp[K6] at h
 | n+1,0,h=>by simp[K6] at h
def R5:List D→Nat
 | []=>0
 | _::as=>R5 as+1
theorem Qe:∀(l:List D),R5 l=l.length
 | []=>rfl
 | _::as=>by simp[R5,Qe as]
theorem Yv{n:Nat}{l:List D}(h:Ae n (R5 l)=true):n≤l.length:=by
 have:=nv h
 rwa [Qe] at this
theorem agI{n:Nat}{l:List D}(h:K6 (R5 l) n=true):l.length=n:=by
 have:=zo h
 rwa [Qe] at this
def mj:List (Option En)→Nat
 | []=>0
 | _::as=>mj as+1
theorem qk:∀(l:List (Option En)),mj l=l.length
 | []=>rfl
 | _::as=>by simp[mj,qk as]
def Ao:List PV→Nat
 | []=>0
 | _::as=>Ao as+1
theorem rB:∀(l:List PV),Ao l=l.length
 | []=>rfl
 | _::as=>by simp[Ao,rB as]
def G.new(g:G):Nat:=mj g.st
theorem G.ng(g:G):g.at g.new=none:=LY (by unfold G.new;rw[qk];exact aH _)
def tk:Nat→List PV→List PV
 | 0,_=>[]
 | _+1,[]=>[]
 | n+1,a::as=>a::tk n as
theorem Pz:∀(n:Nat)(l:List PV),tk n l=l.take n
 | 0,l=>by simp[tk]
 | n+1,[]=>by simp[tk]
 | n+1,a::as=>by simp[tk,Pz n as]
def dr:Nat→List PV→List PV
 | 0,l=>l
 | _+1,[]=>[]
 | n+1,_::as=>dr n as
theorem Oz:∀(n:Nat)(l:List PV),dr n l=l.drop n
 | 0,l=>by simp[dr]
 | n+1,[]=>by simp[dr]
 | n+1,a::as=>by simp[dr,Oz n as]
def WZ:List PV→List PV→List PV
 | cs,[]=>cs
 | [],vs=>vs
 | _::cs,v::vs=>v::WZ cs vs
def Xl:List PV→Nat→List PV→List PV
 | cs,0,vs=>WZ cs vs
 | [],_+1,vs=>vs
 | c::cs,n+1,vs=>c::Xl cs n vs
theorem Yy:∀(cs vs:List PV),vs.length≤cs.length→WZ cs vs=vs++cs.drop vs.length
 | cs,[],_=>by cases cs<;>simp[WZ]
 | [],v::vs,h=>by simp at h
 | c::cs,v::vs,h=>by simp[WZ,Yy cs vs (by simpa using h)]
theorem RU:∀(cs:List PV)(n:Nat)(vs:List PV),n+vs.length≤cs.length→Xl cs n vs=BL cs n vs
 | cs,0,vs,h=>by rw[dQ] at h;have e:Xl cs 0 vs=WZ cs vs:=(by cases cs<;>rfl);rw[e,Yy cs vs h];simp[BL]
 | [],n+1,vs,h=>by simp at h
 | c::cs,n+1,vs,h=>by have:=RU cs n vs (by simp at h;omega);simp only[Xl,this,BL];rw[show n+1+vs.length=n+vs.length+1 by omega];simp
def XD:List (Nat×Nat×Nat)→Nat→Option (Nat×Nat×Nat)
 | [],_=>none
 | a::_,0=>some a
 | _::as,n+1=>XD as n
theorem QU:∀(l:List (Nat×Nat×Nat))(n:Nat),XD l n=l[n]?
 | [],n=>by simp[XD]
 | a::as,0=>rfl
 | a::as,n+1=>by simp[XD,QU as n]
def aaa:List PV→Nat→Option PV
 | [],_=>none
 | a::_,0=>some a
 | _::as,n+1=>aaa as n
theorem Y6:∀(l:List PV)(n:Nat),aaa l n=l[n]?
 | [],n=>by simp[aaa]
 | a::as,0=>rfl
 | a::as,n+1=>by simp[aaa,Y6 as n]
def pls:List (Nat×Nat×Nat)→List (Nat×Nat)
 | []=>[]
 | (_,o,s)::r=>(o,s)::pls r
theorem adp:∀(l:List (Nat×Nat×Nat)),pls l=l.map fun x=>(x.2.1,x.2.2)
 | []=>rfl
 | (a,o,s)::r=>by simp[pls,adp r]
def evp(g:G):List (Nat×Operand)→List (Nat×PV)
 | []=>[]
 | (i,x)::r=>(i,g.ev x)::evp g r
theorem adS(g:G):∀(l:List (Nat×Operand)),evp g l=l.map fun x=>(x.1,g.ev x.2)
 | []=>rfl
 | (i,x)::r=>by simp[evp,adS g r]
def ev2(g:G):List (Nat×Operand)→List PV
 | []=>[]
 | (_,x)::r=>g.ev x::ev2 g r
theorem Vt(g:G):∀(l:List (Nat×Operand)),ev2 g l=l.map fun x=>g.ev x.2
 | []=>rfl
 | (i,x)::r=>by simp[ev2,Vt g r]
def ix2:List (Nat×Operand)→List Nat
 | []=>[]
 | (i,_)::r=>i::ix2 r
theorem Vn:∀(l:List (Nat×Operand)),ix2 l=l.map (·.1)
 | []=>rfl
 | (i,x)::r=>by simp[ix2,Vn r]
def sl2:List (Nat×Operand)→List Nat
 | []=>[]
 | (_,x)::r=>eu x++sl2 r
theorem Qw:∀(l:List (Nat×Operand)),sl2 l=l.flatMap fun x=>eu x.2
 | []=>rfl
 | (i,x)::r=>by simp[sl2,Qw r]
def Vr:List (Nat×Operand)→Nat
 | []=>0
 | _::r=>Vr r+1
theorem Q0:∀(l:List (Nat×Operand)),Vr l=l.length
 | []=>rfl
 | (i,x)::r=>by simp[Vr,Q0 r]
def ZI:List (Nat×Nat)→Nat→Option (Nat×Nat)
 | [],_=>none
 | a::_,0=>some a
 | _::as,n+1=>ZI as n
theorem YU:∀(l:List (Nat×Nat))(n:Nat),ZI l n=l[n]?
 | [],n=>by simp[ZI]
 | a::as,0=>rfl
 | a::as,n+1=>by simp[ZI,YU as n]
def TC(places:List (Nat×Nat))(cs:List PV):List (Nat×PV)→Option (List PV)
 | []=>some cs
 | (i,p)::rest=>
   match ZI places i with
   | none=>none
   | some (off,sz)=>match p.whole,kV (Ao (fK p)) sz,Ae (off+sz) (Ao cs) with
     | true,true,true=>TC places (Xl cs off (fK p)) rest
     | _,_,_=>none
theorem YI:∀(rest:List (Nat×PV))(places:List (Nat×Nat))(cs r:List PV),TC places cs rest=some r→Lb places cs rest=some r
 | [],_,_,_,h=>h
 | (i,p)::rest,places,cs,r,h=>by simp only[TC] at h;simp only[Lb];split at h;cases h;rename_i off sz hpl;rw[YU] at hpl;rw[hpl];simp only;split at h;rename_i h1 h2 h3;have h2:Ao (fK p)=sz:=cg h2;rw[rB] at h2;have h3:=nv h3;rw[rB] at h3;rw[if_pos ⟨h1,h2,h3⟩];rw[RU _ _ _ oM] at h;exact YI rest places _ r h;cases h
def i64(p:PV):Option Int:=match p with | .d (.val (.int .i64 n))=>some n|_=>none
def iop(d:Nat)(R:Rd):BinOp→Int→Int→DZ
 | .add,m,n=>.qS (I64 (m+n)) R ⟨some (d,.d (.val (.int .i64 (m+n)))),[]⟩
 | .sub,m,n=>.qS (I64 (m-n)) R ⟨some (d,.d (.val (.int .i64 (m-n)))),[]⟩
 | .mul,m,n=>.qS (I64 (m*n)) R ⟨some (d,.d (.val (.int .i64 (m*n)))),[]⟩
 | .quo,m,n=>.qS (n≠0∧I64 (m.tdiv n)) R ⟨some (d,.d (.val (.int .i64 (m.tdiv n)))),[]⟩
 | .rem,m,n=>.qS (n≠0) R ⟨some (d,.d (.val (.int .i64 (m.tmod n)))),[]⟩
 | _,_,_=>.stop
def cop(d:Nat)(R:Rd):BinOp→Int→Int→DZ
 | .eql,m,n=>.go R ⟨some (d,.d (.val (.bool (m == n)))),[]⟩
 | .neq,m,n=>.go R ⟨some (d,.d (.val (.bool (m != n)))),[]⟩
 | .lss,m,n=>.go R ⟨some (d,.d (.val (.bool (decide (m<n))))),[]⟩
 | .leq,m,n=>.go R ⟨some (d,.d (.val (.bool (decide (m≤n))))),[]⟩
 | .gtr,m,n=>.go R ⟨some (d,.d (.val (.bool (decide (m>n))))),[]⟩
 | .geq,m,n=>.go R ⟨some (d,.d (.val (.bool (decide (m≥n))))),[]⟩
 | _,_,_=>.stop
def agX:BinOp→Bool
 | .eql=>true
 | .neq=>true
 | .lss=>true
 | .leq=>true
 | .gtr=>true
 | .geq=>true
 | _=>false
def sop(d:Nat)(R:Rd):BinOp→List UInt8→List UInt8→DZ
 | .add,l,m=>.qS (l.length+m.length≤LB) R ⟨some (d,.d (.str (l++m))),[]⟩
 | .eql,l,m=>.go R ⟨some (d,.d (.val (.bool (l == m)))),[]⟩
 | .neq,l,m=>.go R ⟨some (d,.d (.val (.bool (!(l == m))))),[]⟩
 | .lss,l,m=>.go R ⟨some (d,.d (.val (.bool (Op.bytesLess l m)))),[]⟩
 | .leq,l,m=>.go R ⟨some (d,.d (.val (.bool (Op.bytesLess l m||l == m)))),[]⟩
 | .gtr,l,m=>.go R ⟨some (d,.d (.val (.bool (!(Op.bytesLess l m||l == m))))),[]⟩
 | .geq,l,m=>.go R ⟨some (d,.d (.val (.bool (!Op.bytesLess l m)))),[]⟩
 | _,_,_=>.stop
def abe:IntKind→IntKind→Bool
 | .i64,.i64=>true
 | .u8,.u8=>true
 | .u64,.u64=>true
 | .u32,.u32=>true
 | _,_=>false
theorem Rf{a b:IntKind}(h:abe a b=true):a=b:=by cases a<;>cases b<;>first|rfl|(cases h;done)
def bop(E:Env)(g:G)(d:Nat)(b:BinOp)(t:TypeId)(x y:Operand):DZ:=
 match g.ev x,g.ev y with
 | .d (.val (.int k m)),.d (.val (.int k' n))=>
   match abe k k' with
   | true=>match agX b with
     | true=>cop d ⟨eu x++eu y,[]⟩ b m n
     | false=>match abe k .i64 with
       | true=>iop d ⟨eu x++eu y,[]⟩ b m n
       | false=>.stop
   | false=>.stop
 | .d (.str l),.d (.str m)=>sop d ⟨eu x++eu y,[]⟩ b l m
 | .d (.val (.bool m)),.d (.val (.bool n))=>
   match E.ti t with
   | some ti=>match ti.ty,b with
     | .bool,.eql=>.go ⟨eu x++eu y,[]⟩ ⟨some (d,.d (.val (.bool (m == n)))),[]⟩
     | .bool,.neq=>.go ⟨eu x++eu y,[]⟩ ⟨some (d,.d (.val (.bool (!(m == n))))),[]⟩
     | _,_=>.stop
   | none=>.stop
 | _,_=>.stop
section
variable{E:Env}{g:G}{d:Nat}{ty:TypeId}{pos:String}{fI:Array Edge}{gd:Option (Nat×Bool)}{dn:Option Nat}
theorem ahf(b:BinOp)(m n:Int)(t u:TypeId)(x y:Operand)(hx:g.ev x= .d (.val (.int .i64 m)))(hy:g.ev y= .d (.val (.int .i64 n))) :
 (iop d ⟨eu x++eu y,[]⟩ b m n).Ok E.P ⟨some d,.binOp b t x y u,ty,pos,fI,gd⟩ g:=by
 cases b<;>first
  | exact fun h=>aim x y m n t u hx hy h
  | exact fun h=>ahA x y m n t u hx hy h
  | exact fun h=>ahq x y m n t u hx hy h
  | exact fun h=>ahm x y m n t u hx hy h.1 h.2
  | exact fun h=>ahY x y m n t u hx hy h
  | exact trivial
theorem aho(b:BinOp)(k:IntKind)(m n:Int)(t u:TypeId)(x y:Operand)(hx:g.ev x= .d (.val (.int k m)))(hy:g.ev y= .d (.val (.int k n))) :
 (cop d ⟨eu x++eu y,[]⟩ b m n).Ok E.P ⟨some d,.binOp b t x y u,ty,pos,fI,gd⟩ g:=by
 cases b<;>first
  | exact afB _ x y k m n _ t u hx hy rfl
  | exact trivial
theorem aik(b:BinOp)(l m:List UInt8)(t u:TypeId)(x y:Operand)(hx:g.ev x= .d (.str l))(hy:g.ev y= .d (.str m)) :
 (sop d ⟨eu x++eu y,[]⟩ b l m).Ok E.P ⟨some d,.binOp b t x y u,ty,pos,fI,gd⟩ g:=by
 cases b<;>first
  | exact fun h=>ain x y l m t u hx hy h
  | exact afu _ x y l m _ t u hx hy rfl
  | exact trivial
theorem aiz(b:BinOp)(t u:TypeId)(x y:Operand):(bop E g d b t x y).Ok E.P ⟨some d,.binOp b t x y u,ty,pos,fI,gd⟩ g:=by unfold bop;split;rename_i k m k' n hx hy;split;rename_i hk;have hk:=Rf hk;subst hk;split;exact aho b _ m n t u x y hx hy;split;rename_i hk;have hk:=Rf hk;subst hk;exact ahf b m n t u x y hx hy;trivial;trivial;rename_i l m hx hy;exact aik b l m t u x y hx hy;rename_i m n hx hy;split;rename_i ti ht;split;rename_i mU;exact ahF x y m n t u ti ht mU hx hy;rename_i mU;exact air x y m n t u ti ht mU hx hy;trivial;trivial;trivial
end
def T.pv:T→PV
 | .eK d=>.d d
 | .ref j=>.aW j
 | .own _ _=>.any
def pvT:List T→List PV
 | []=>[]
 | t::ts=>t.pv::pvT ts
def oJ(xs:List (List T))(i:Nat):List T:=xs.getD i []
def og:List T→Bool
 | []=>true
 | .own _ _::_=>false
 | _::ts=>og ts
def vZ:List (List T)→Bool
 | []=>true
 | x::xs=>og x&&vZ xs
def toT:PV→Option T
 | .d x=>some (.eK x)
 | .bE=>some (.eK (.eP []))
 | .aW j=>some (.ref j)
 | _=>none
def HA:List PV→Option (List T)
 | []=>some []
 | p::ps=>match toT p,HA ps with|some x,some xs=>some (x::xs)|_,_=>none
def Ve:List T→Nat
 | []=>0
 | _::as=>Ve as+1
theorem Kg:∀(l:List T),Ve l=l.length
 | []=>rfl
 | _::as=>by simp[Ve,Kg as]
theorem acM{xs:List (List T)}{i:Nat}(h:i<xs.length):xs[i]?=some (oJ xs i):=by simp[oJ,b9,ae h]
section
variable{P:Program}{w:World}{ok:Nat→Prop}{ν:Nat→Nm}{st:Nat→Option En}
theorem mS.pv{t:T}{v:Value}{F:List Nat}(h:mS P w ok ν st t v F):aF w ok ν st t.pv v:=by
 cases t with
 | eK d=>simp only[mS] at h;simp only[T.pv,aF];exact h.1
 | ref j=>simp only[mS] at h;simp only[T.pv,aF];exact⟨h.1,h.2.1⟩
 | own e xs=>simp only[T.pv,aF]
theorem bo.pv:∀{ts:List T}{vs:List Value}{F:List Nat},bo P w ok ν st ts vs F→aB w ok ν st (pvT ts) vs
 | [],[],_,_=>by simp[pvT,aB]
 | [],_::_,_,h=>by simp[bo] at h
 | _::_,[],_,h=>by simp[bo] at h
 | t::ts,v::vs,F,h=>by simp only[bo] at h;obtain⟨F1,F2,h1,h2,_⟩:=h;simp only[pvT,aB];exact⟨h1.pv,h2.pv⟩
theorem mS.one{t:T}{v:Value}{F:List Nat}(h:mS P w ok ν st t v F)(hν:∀k,(st k).isSome=true→(ν k).v.oneCell'=true):v.oneCell'=true:=by
 cases t with
 | eK d=>simp only[mS] at h;exact h.1.one
 | ref j=>simp only[mS] at h;rw[h.2.1];exact hν j h.1
 | own e xs=>simp only[mS] at h;obtain⟨us,F1,h1,_⟩:=h;rcases h1.2 with⟨h2,_⟩|⟨b,c,cur,h2,_⟩<;>rw[h2]<;>rfl
theorem bo.one(hν:∀k,(st k).isSome=true→(ν k).v.oneCell'=true):∀{ts:List T}{vs:List Value}{F:List Nat},bo P w ok ν st ts vs F→∀v∈vs,v.oneCell'=true
 | [],[],_,_,v,hv=>by cases hv
 | [],_::_,_,h,_,_=>by simp[bo] at h
 | _::_,[],_,h,_,_=>by simp[bo] at h
 | t::ts,v::vs,F,h,u,hu=>by simp only[bo] at h;obtain⟨F1,F2,h1,h2,_⟩:=h;rcases ax.1 hu with rfl|hu;exact h1.one hν;exact bo.one hν h2 u hu
theorem bN.one(hν:∀k,(st k).isSome=true→(ν k).v.oneCell'=true):∀{xs:List (List T)}{us:List (List Value)}{F:List Nat},bN P w ok ν st xs us F→∀u∈us,∀v∈u,v.oneCell'=true
 | [],[],_,_,v,hv=>by cases hv
 | [],_::_,_,h,_,_=>by simp[bN] at h
 | _::_,[],_,h,_,_=>by simp[bN] at h
 | t::ts,v::vs,F,h,u,hu=>by simp only[bN] at h;obtain⟨F1,F2,h1,h2,_⟩:=h;rcases ax.1 hu with rfl|hu;exact h1.one hν;exact bN.one hν h2 u hu
theorem bo.len:∀{ts:List T}{vs:List Value}{F:List Nat},bo P w ok ν st ts vs F→vs.length=ts.length
 | [],[],_,_=>rfl
 | [],_::_,_,h=>by simp[bo] at h
 | _::_,[],_,h=>by simp[bo] at h
 | t::ts,v::vs,F,h=>by simp only[bo] at h;obtain⟨F1,F2,_,h2,_⟩:=h;simp[h2.len]
theorem bN.len:∀{ts:List (List T)}{vs:List (List Value)}{F:List Nat},bN P w ok ν st ts vs F→vs.length=ts.length
 | [],[],_,_=>rfl
 | [],_::_,_,h=>by simp[bN] at h
 | _::_,[],_,h=>by simp[bN] at h
 | t::ts,v::vs,F,h=>by simp only[bN] at h;obtain⟨F1,F2,_,h2,_⟩:=h;simp[h2.len]
theorem bo.append:∀{x y:List T}{u v:List Value}{F G:List Nat},bo P w ok ν st x u F→bo P w ok ν st y v G→bo P w ok ν st (x++y) (u++v) (F++G)
 | [],y,[],v,F,G,h,h'=>by simp only[bo] at h;subst h;simpa using h'
 | [],_,_::_,_,_,_,h,_=>by simp[bo] at h
 | _::_,_,[],_,_,_,h,_=>by simp[bo] at h
 | t::ts,y,a::u,v,F,G,h,h'=>by simp only[bo] at h;obtain⟨F1,F2,h1,h2,rfl⟩:=h;simp only[bu,bo];exact⟨F1,F2++G,h1,h2.append h',by rw[bm]⟩
theorem bN.append:∀{x y:List (List T)}{u v:List (List Value)}{F G:List Nat},bN P w ok ν st x u F→bN P w ok ν st y v G→bN P w ok ν st (x++y) (u++v) (F++G)
 | [],y,[],v,F,G,h,h'=>by simp only[bN] at h;subst h;simpa using h'
 | [],_,_::_,_,_,_,h,_=>by simp[bN] at h
 | _::_,_,[],_,_,_,h,_=>by simp[bN] at h
 | t::ts,y,a::u,v,F,G,h,h'=>by simp only[bN] at h;obtain⟨F1,F2,h1,h2,rfl⟩:=h;simp only[bu,bN];exact⟨F1,F2++G,h1,h2.append h',by rw[bm]⟩
theorem bo.split:∀(n:Nat){x:List T}{u:List Value}{F:List Nat},bo P w ok ν st x u F→∃F1 F2,bo P w ok ν st (x.take n) (u.take n) F1∧bo P w ok ν st (x.drop n) (u.drop n) F2∧F=F1++F2
 | 0,x,u,F,h=>⟨[],F,by simp[bo],by simpa using h,rfl⟩
 | n+1,[],[],F,h=>⟨[],F,by simp[bo],by simpa using h,rfl⟩
 | _+1,[],_::_,_,h=>by simp[bo] at h
 | _+1,_::_,[],_,h=>by simp[bo] at h
 | n+1,t::ts,a::u,F,h=>by simp only[bo] at h;obtain⟨F1,F2,h1,h2,rfl⟩:=h;obtain⟨G1,G2,k1,k2,rfl⟩:=bo.split n h2;refine⟨F1++G1,G2,?_,by simpa using k2,by rw[bm]⟩;simp only[dE,bo];exact⟨F1,G1,h1,k1,rfl⟩
theorem Kp:∀{x:List T}{u:List Value}{F:List Nat},bo P w ok ν st x u F→og x=true→F=[]
 | [],[],F,h,_=>by simpa only[bo] using h
 | [],_::_,_,h,_=>by simp[bo] at h
 | _::_,[],_,h,_=>by simp[bo] at h
 | t::ts,a::u,F,h,hn=>by
  simp only[bo] at h;obtain⟨F1,F2,h1,h2,rfl⟩:=h;cases t with
  | eK d=>simp only[mS] at h1;simp only[og] at hn;rw[h1.2,Kp h2 hn];rfl
  | ref j=>simp only[mS] at h1;simp only[og] at hn;rw[h1.2.2,Kp h2 hn];rfl
  | own e xs=>simp[og] at hn
theorem SQ:∀{x:List (List T)}{u:List (List Value)}{F:List Nat},bN P w ok ν st x u F→vZ x=true→F=[]
 | [],[],F,h,_=>by simpa only[bN] using h
 | [],_::_,_,h,_=>by simp[bN] at h
 | _::_,[],_,h,_=>by simp[bN] at h
 | t::ts,a::u,F,h,hn=>by simp only[bN] at h;obtain⟨F1,F2,h1,h2,rfl⟩:=h;simp only[vZ,ab] at hn;rw[Kp h1 hn.1,SQ h2 hn.2];rfl
theorem bN.get:∀(i:Nat){xs:List (List T)}{us:List (List Value)}{F:List Nat},bN P w ok ν st xs us F→i<xs.length →
 ∃u G,us[i]?=some u∧bo P w ok ν st (oJ xs i) u G∧∀(x':List T)(u':List Value),bo P w ok ν st x' u' G→bN P w ok ν st (xs.set i x') (us.set i u') F
 | _,[],_,_,_,hi=>by simp at hi
 | _,_::_,[],_,h,_=>by simp[bN] at h
 | 0,x::xs,u::us,F,h,_=>by simp only[bN] at h;obtain⟨F1,F2,h1,h2,rfl⟩:=h;refine⟨u,F1,rfl,h1,fun x' u' h'=>?_⟩;simp only[gv,bN];exact⟨F1,F2,h',h2,rfl⟩
 | i+1,x::xs,u::us,F,h,hi=>by simp only[bN] at h;obtain⟨F1,F2,h1,h2,rfl⟩:=h;obtain⟨u1,G,k1,k2,k3⟩:=bN.get i h2 (by simpa using hi);refine⟨u1,G,by simpa using k1,by simpa[oJ] using k2,fun x' u' h'=>?_⟩;simp only[kh,bN];exact⟨F1,F2,h1,k3 x' u' h',rfl⟩
theorem S3:∀{ps:List PV}{ts:List T},HA ps=some ts→ts.length=ps.length
 | [],ts,h=>by simp[HA] at h;simp[←h]
 | p::ps,ts,h=>by simp only[HA] at h;split at h;rename_i x xs h1 h2;obtain rfl:=Option.some.inj h;simp[S3 h2];cases h
theorem P9:∀{ps:List PV}{ts:List T}{vs:List Value},aB w ok ν st ps vs→HA ps=some ts→bo P w ok ν st ts vs []
 | [],ts,[],_,h=>by simp only[HA,Option.some.injEq] at h;subst h;simp only[bo]
 | [],_,_::_,h,_=>by simp[aB] at h
 | _::_,_,[],h,_=>by simp[aB] at h
 | p::ps,ts,v::vs,h,ht=>by
  simp only[HA] at ht;simp only[aB] at h;split at ht
  ·rename_i x xs h1 h2;obtain rfl:=Option.some.inj ht;simp only[bo];refine⟨[],[],?_,P9 h.2 h2,rfl⟩;have hp:=h.1;cases p<;>simp only[toT] at h1<;>first|(cases h1;done)|skip
   obtain rfl:=Option.some.inj h1;simp only[aF] at hp;subst hp;simp only[mS,and_true];exact .nil;obtain rfl:=Option.some.inj h1;simp only[aF] at hp;simp only[mS,and_true];exact hp;obtain rfl:=Option.some.inj h1;simp only[aF] at hp;simp only[mS,and_true];exact hp
  cases ht
theorem Qi:∀{xs:List (List D)}{us:List (List Value)}{sz:Nat},cW w ok sz xs us→bN P w ok ν st (lift xs) us []
 | [],us,sz,h=>by have:us=[]:=bU h.len;subst this;simp only[lift,cL,bN]
 | x::xs,[],sz,h=>by have:=h.len;simp at this
 | x::xs,u::us,sz,h=>by
  have h1:∀(x:List D)(u:List Value),x.length=u.length→(∀(j:Nat)(d:D)(v:Value),x[j]?=some d→u[j]?=some v→jn w ok d v)→bo P w ok ν st (x.map T.eK) u []:=by
   intro x;induction x with
   | nil=>intro u hl _;cases u with
     | nil=>simp[bo]
     | cons a b=>simp at hl
   | cons d x ih=>intro u hl hr;cases u with
     | nil=>simp at hl
     | cons v u=>simp only[aJ,bo,mS];exact⟨[],[],⟨hr 0 d v rfl rfl,rfl⟩,ih u (by simpa using hl) fun j d' v' k1 k2=>hr (j+1) d' v' (by simpa using k1) (by simpa using k2),rfl⟩
  have h2:cW w ok sz xs us:=⟨by simpa using h.len,fun i y hy=>h.hx (i+1) y (by simpa using hy),fun i y hy=>h.hu (i+1) y (by simpa using hy),fun i j y u d v k1 k2 k3 k4=>h.hr (i+1) j y u d v (by simpa using k1) (by simpa using k2) k3 k4⟩;have:=Qi h2;simp only[lift,aJ,bN] at this⊢;exact⟨[],[],h1 x u (by rw[h.hx 0 x rfl,h.hu 0 u rfl]) fun j d v k1 k2=>h.hr 0 j x u d v rfl rfl k1 k2,this,rfl⟩
theorem AA{sz:Nat}{us:List (List Value)}(hu:∀(i:Nat)(u:List Value),us[i]?=some u→u.length=sz)(h1:∀u∈us,∀v∈u,v.oneCell'=true):cW w ok sz (us.map fun u=>u.map D.val) us:=by
 refine⟨by simp,fun i x hx=>?_,hu,fun i j x u d v k1 k2 k3 k4=>?_⟩
 ·rw[gg] at hx;cases hq:us[i]? with
  | none=>rw[hq] at hx;cases hx
  | some u=>rw[hq] at hx;obtain rfl:=Option.some.inj hx;simp[hu i u hq]
 rw[gg,k2] at k1;obtain rfl:=Option.some.inj k1;rw[gg,k4] at k3;obtain rfl:=Option.some.inj k3;exact .val v (h1 u (du k2) v (du k4))
end
section
variable{P:Program}{X:Cx}{ν:Nat→Nm}{g:G}{a:Act}{w:World}
theorem zr(h:Sat P X ν g a w){k e:Nat}{xs:List (List T)}(hk:g.at k=some (.e9 e xs)):∃us:List (List Value),w.ownsRow 0 e (P.cellsOf e) (ν k).v xs.length us.flatten ∧
 (∀(i:Nat)(u:List Value),us[i]?=some u→u.length=P.cellsOf e)∧bN P w (dg X ν g.at) ν g.at xs us (ν k).f∧xs.length≤LB∧(hb (ν k).v++(ν k).f).Nodup:=by
 obtain⟨h1,h2⟩:=h.en k _ hk
 simp only[mS] at h1
 obtain⟨us,F1,k1,k2,k3,k4,k5⟩:=h1
 have:F1=(ν k).f:=(List.append_cancel_left k5).symm
 exact⟨us,k1,k2,this▸k3,k4,h2⟩
theorem D0{ok:Nat→Prop}{st:Nat→Option En}{k e:Nat}{xs:List (List T)}{us:List (List Value)}(h1:w.ownsRow 0 e (P.cellsOf e) (ν k).v xs.length us.flatten)
 (h2:∀(i:Nat)(u:List Value),us[i]?=some u→u.length=P.cellsOf e) (h3:bN P w ok ν st xs us (ν k).f) (h4:xs.length≤LB) (h5:(hb (ν k).v++(ν k).f).Nodup):nx P w ok ν st k (.e9 e xs):=by
 refine⟨?_,h5⟩
 simp only[mS]
 exact⟨us,(ν k).f,h1,h2,h3,h4,rfl⟩
theorem ZU(h:Sat P X ν g a w){k e:Nat}{xs:List (List T)}(hk:g.at k=some (.e9 e xs)):∃b c,(ν k).v= .slice b xs.length c:=by obtain⟨us,ho,_⟩:=zr h hk;rcases ho.2 with⟨h1,h2⟩|⟨b,cap,cur,h1,_⟩;exact⟨none,0,by rw[h1,h2]⟩;exact⟨_,cap,h1⟩
theorem nD:∀(l:List (Option En))(k:Nat)(x y:Option En),dv (dv l k x) k y=dv l k y
 | [],0,_,_=>rfl
 | [],n+1,x,y=>by simp[dv,nD [] n x y]
 | _::_,0,_,_=>rfl
 | a::as,n+1,x,y=>by simp[dv,nD as n x y]
theorem Sat.lift(h:Sat P X ν g a w){k e:Nat}{xs:List (List D)}(hk:g.at k=some (.aW e xs)):Sat P X ν ⟨g.sl,dv g.st k (some (.e9 e (lift xs)))⟩ a w:=by
 have:=h.G8 (w':=w) k (.aW e xs) (.e9 e (Eng.lift xs)) hk rfl (uO.refl _ w) none .undef Go.undef ?_ (fun h=>by cases h);exact this;intro hw hm;obtain⟨us,ho,k9,hB,hf0⟩:=h.en k _ hk;have hl:(Eng.lift xs).length=xs.length:=by simp[Eng.lift]
 refine D0 (us:=us) (by rw[hl];exact ho) (fun i u hu=>k9.hu i u hu) ?_ (by rw[hl];exact hB) ?_;rw[hf0];exact Qi (k9.frame hw (aH _));rw[hf0,bV];unfold hb;split<;>simp
end
section
variable{E:Env}{g:G}{d:Nat}{ty:TypeId}{pos:String}{fI:Array Edge}{gd:Option (Nat×Bool)}{dn:Option Nat}
theorem T3(x:Operand)(t k i off sz e:Nat)(ti ei:TI)(xs:List (List T))(ht:E.ti t=some ti)(he:E.ti e=some ei)(hsz:sz=ei.n)(hx:g.ev x= .iT k i off sz)(hk:g.at k=some (.e9 e xs))
 (hi:i<xs.length) (hl:off+ti.n≤(oJ xs i).length) :
 mQ E.P ⟨some d,.load t x,ty,pos,fI,gd⟩ g ⟨eu x,[k]⟩ ⟨some (d,YE ti.isAgg (((pvT (oJ xs i)).drop off).take ti.n)),[]⟩:=by
 intro g2 hg
 have h1:=hg.ev (x:=x) (fun t h=>h)
 have h3:=(hg.p k (by simp)).trans hk
 refine JC.val rfl fun X ν a w hs=>?_
 have hv:=hs.ev x
 rw[h1,hx] at hv
 simp only[aF] at hv
 obtain⟨_,b,n,c,hb,hv⟩:=hv
 obtain⟨us,ho,hul,hr,_⟩:=zr hs h3
 have hcell:=sE ho hb
 rw[(E.ok e ei he).cells] at hul
 obtain⟨u,G,hu,hc,_⟩:=hr.get i hi
 have qe:=hc.pv
 have hlenu:=hc.len
 have hrep':=(qe.drop off).take ti.n
 have fj:((u.drop off).take ti.n).length=ti.n:=by simp;omega
 have hca:mb w b (i*ei.n+off) ((u.drop off).take ti.n):=by
  have h0:=hcell.sub (us':=(u.drop off).take ti.n) (i*ei.n+off) (fun j x hx=>by
   rw[dR] at hx
   split at hx
   ·rw[eY] at hx
    have:=EG us i (off+j) u x hul hu hx
    rw[Nat.add_assoc];exact this
   ·cases hx)
  simpa using h0
 subst hsz
 obtain⟨v,pI,hvv⟩:=tC (E.ok t ti ht) w b _ _ fj hca
 refine⟨v,?_,Ci hrep' hvv⟩
 simp only[execOp,hv,Instr.loadAt,Instr.sureAddr,Sem.run_bind,Sem.run_pure,Result.andThen_ok,pI]
theorem XA(x y:Operand)(s:Nat)(si ei:TI)(e k:Nat)(xs:List (List T))(n:Int)(hs:E.ti s=some si)(rX:si.ty= .slice e)(he:E.ti e=some ei)(hx:g.ev x= .aW k)(hk:g.at k=some (.e9 e xs))(hy:g.ev y= .d (.val (.int .i64 n)))
 (h0:0≤n) (pz:n.toNat<xs.length) :
 mQ E.P ⟨some d,.indexAddr s x y,ty,pos,fI,gd⟩ g ⟨eu x++eu y,[k]⟩ ⟨some (d,.iT k n.toNat 0 ei.n),[]⟩:=by
 intro g2 hg
 have h1:=hg.ev (x:=x) (fun t h=>by simp[h])
 have h2:=hg.ev (x:=y) (fun t h=>by simp[h])
 have h3:=(hg.p k (by simp)).trans hk
 refine JC.val rfl fun X ν a w hs'=>?_
 have hu:=(E.ok s si hs).ty
 rw[rX] at hu
 have hv:=hs'.ev x
 rw[h1,hx] at hv
 have pJ:=hs'.ev y
 rw[h2,hy] at pJ
 have pJ:=iB pJ
 simp only[aF] at hv⊢
 obtain⟨us,ho,_⟩:=zr hs' h3
 rcases ho.2 with⟨_,hn⟩|⟨b,cap,cur,hb,_⟩
 ·omega
 ·have hlt':n<(xs.length:Int):=oM
  refine⟨.pointer (some ⟨b,n.toNat*ei.n,none⟩),?_,by rw[h3];rfl,b,xs.length,cap,hb,rfl⟩
  simp[execOp,hv.2,hb,pJ,Instr.indexAt,asIntOf,run_underlying hu,h0,hlt',(E.ok e ei he).size,add_lit]
theorem XJ(x:Operand)(s:Nat)(si:TI)(e' e k:Nat)(xs:List (List T))(hs:E.ti s=some si)(rX:si.ty= .slice e')(hx:g.ev x= .aW k)(hk:g.at k=some (.e9 e xs)) :
 mQ E.P ⟨some d,.call ⟨.builtin .len,#[x],#[s]⟩,ty,pos,fI,gd⟩ g ⟨eu x,[k]⟩ ⟨some (d,.d (.val (.int .i64 (xs.length:Int)))),[]⟩:=by
 intro g2 hg
 have h1:=hg.ev (x:=x) (fun t h=>h)
 have h3:=(hg.p k (by simp)).trans hk
 refine JC.val rfl fun X ν a w hs'=>?_
 have hu:=(E.ok s si hs).ty
 rw[rX] at hu
 have hv:=hs'.ev x
 rw[h1,hx] at hv
 simp only[aF] at hv
 obtain⟨b,c,hb⟩:=ZU hs' h3
 exact⟨_,Bx rfl a w _ (by rw[hv.2,hb];exact run_len_slice hu _ _ _ _ _),oX rfl⟩
theorem FY(x y:Operand)(t k i off sz e:Nat)(ti ei:TI)(xs:List (List T))(p:PV)(cs:List T)(ht:E.ti t=some ti)(he:E.ti e=some ei)(hsz:sz=ei.n)(hx:g.ev x= .iT k i off sz)(hk:g.at k=some (.e9 e xs))(hy:g.ev y=p)
 (hi:i<xs.length) (hl:off+ti.n≤ei.n) (hp:p.whole=true) (hn:(fK p).length=ti.n) (hcs:HA (fK p)=some cs) (hno:og (((oJ xs i).drop off).take ti.n)=true) :
 mQ E.P ⟨dn,.store t x y,ty,pos,fI,gd⟩ g ⟨eu x++eu y++dn.toList,[k]⟩ ⟨dn.map fun d=>(d,.undef),[(k,.e9 e (xs.set i (vz (oJ xs i) off cs)))]⟩:=by
 intro g2 hg
 have e1:=hg.ev (x:=x) (fun t h=>by simp[h])
 have e2:=hg.ev (x:=y) (fun t h=>by simp[h])
 have h3:=(hg.p k (by simp)).trans hk
 intro X ν a w next Q hs hnx
 have hv:=hs.ev x
 rw[e1,hx] at hv
 have hw:=hs.ev y
 rw[e2,hy] at hw
 simp only[aF] at hv
 obtain⟨_,b,n,c,hb,hv⟩:=hv
 obtain⟨us,ho,hul,k9,hB,hnd⟩:=zr hs h3
 have sx:=hw.cells hp hs.nu
 have fj:=sx.length
 have htc:=P9 (P:=E.P) sx hcs
 rw[(E.ok e ei he).cells] at hul ho
 subst hsz
 rcases ho.2 with⟨h1,h2⟩|⟨b',cap,cur,h1,_,h2,h4,h5,h6,h7⟩
 ·omega
 ·rw[h1] at hb
  obtain⟨rfl,rfl,rfl⟩:b'=b∧xs.length=n∧cap=c:=by simpa using hb
  have hull:us.length=xs.length:=k9.len
  have hfl:=(AA (w:=w) (ok:=fun _=>True) hul (k9.one hs.nu)).gM
  rw[cd] at hfl
  have hmulle:(i+1)*ei.n≤xs.length*ei.n:=bD _ hi
  have hmulle2:xs.length*ei.n≤cap*ei.n:=bD _ h4
  have hadd:(i+1)*ei.n=i*ei.n+ei.n:=by rw[da];omega
  have hone:∀u∈(a.eval y).cells.toList,u.oneCell'=true:=htc.one hs.nu
  have hvl:(a.eval y).cells.toList.length=ti.n:=by rw[fj,hn]
  have pI:=yw (E.ok t ti ht) w b' (i*ei.n+off) e cur (a.eval y) h2 hvl oM hone
  have hr:(execOp a.eval ⟨dn,.store t x y,ty,pos,fI,gd⟩).run E.P w= .ok .skip (w.setRow b' (cur.toList.take (i*ei.n+off)++(a.eval y).cells.toList++cur.toList.drop (i*ei.n+off+(a.eval y).cells.toList.length)).toArray):=by simp only[execOp,hv,Instr.storeAt,Instr.sureAddr,Sem.run_bind,Sem.run_pure,Result.andThen_ok,pI]
  have hcur:cur.toList=us.flatten++cur.toList.drop (xs.length*ei.n):=by rw[←h7];exact(fq _ _).symm
  have hnew:cur.toList.take (i*ei.n+off)++(a.eval y).cells.toList++cur.toList.drop (i*ei.n+off+(a.eval y).cells.toList.length)=(us.set i (vz (us.getD i []) off (a.eval y).cells.toList)).flatten++cur.toList.drop (xs.length*ei.n):=by have:=MK us i off (a.eval y).cells.toList (cur.toList.drop (xs.length*ei.n)) hul oM oM;rw[←hcur] at this;rw[←this,bm];rfl
  obtain⟨u,G,hu,hc,hset⟩:=k9.get i hi
  have hug:us.getD i []=u:=by simp[b9,hu]
  have huil:=hul i u hu
  have hxil:(oJ xs i).length=ei.n:=by rw[←hc.len];exact huil
  have hcsl:cs.length=ti.n:=by rw[S3 hcs,hn]
  obtain⟨G1,G2,c1,c2,rfl⟩:=hc.split off
  obtain⟨G3,G4,c3,c4,rfl⟩:=c2.split ti.n
  have hG3:G3=[]:=Kp c3 hno
  subst hG3
  have qf:=hset (vz (oJ xs i) off cs) (vz u off (a.eval y).cells.toList) (by unfold vz;refine c1.append ?_;refine htc.append ?_;rw[l7,l7] at c4;rw[hcsl,hvl];exact c4)
  rw[←hug] at qf
  have hul':∀(j:Nat)(z:List Value),(us.set i (vz (us.getD i []) off (a.eval y).cells.toList))[j]?=some z→z.length=ei.n:=by intro j z hz;rw[mG] at hz;by_cases hij:i=j;subst hij;rw[if_pos rfl,if_pos oM] at hz;obtain rfl:=Option.some.inj hz;rw[hug,RQ _ _ _ (by rw[huil,hvl];exact hl),huil];rw[if_neg hij] at hz;exact hul j z hz
  have hf2:=(AA (w:=w) (ok:=fun _=>True) hul' (qf.one hs.nu)).gM
  rw[cd,eH] at hf2
  have hbF:∀b∈(ν k).f,b≠b':=by intro b hbf hbe;rw[h1] at hnd;exact(gh.1 hnd).2.2 b' (Hy.2 rfl) b hbf hbe.symm
  unfold Oper.wp
  rw[hr,Oper.upon_skip,hnew]
  refine hnx _ _ _ (hs.G8 k (.e9 e xs) (.e9 e (xs.set i (vz (oJ xs i) off cs))) h3 rfl (mP w b' _ _ (.inl (by rw[h1];rfl))) dn .undef Go.undef ?_ ?_)
  ·intro hwf hm
   refine D0 (us:=us.set i (vz (us.getD i []) off (a.eval y).cells.toList)) ?_ ?_ ?_ (by simpa using hB) hnd
   ·rw[(E.ok e ei he).cells,h1]
    rw[hull] at hfl hf2
    refine⟨by rw[hf2,eH],.inr ⟨b',cap,_,by simp,bT _,setRow_heap w b' _ _ e _ h2,by simpa using h4,h5,?_,?_⟩⟩
    ·simp only[fD,ay,hf2,eX,fx,h6]
     omega
    ·rw[eH,cH (by rw[hf2];exact aH _),ak (by rw[hf2];exact aH _)]
   ·rw[(E.ok e ei he).cells];exact hul'
   ·refine qf.frame hwf (by simp[World.setRow]) hm _ _ _ fun b hb=>?_
    have nI:=hbF b hb
    exact(mP w b' _ (fun c=>c=b') rfl).block b (k9.lt _ _ _ b hb) nI
  ·intro _
   simp only[aF]
theorem D7:∀(x:List D),og (x.map T.eK)=true
 | []=>rfl
 | d::x=>by simp[og,D7 x]
theorem aan:∀{x:List T}(n m:Nat),og x=true→og ((x.drop n).take m)=true:=by
 have h1:∀(x:List T)(n:Nat),og x=true→og (x.drop n)=true:=by
  intro x;induction x with
  | nil=>intro n h;simpa using h
  | cons t x ih=>
   intro n h;cases n with
   | zero=>exact h
   | succ n=>
    cases t with
    | own e xs=>simp[og] at h
    | eK d=>exact ih n (by simpa[og] using h)
    | ref d=>exact ih n (by simpa[og] using h)
 have h2:∀(x:List T)(n:Nat),og x=true→og (x.take n)=true:=by
  intro x;induction x with
  | nil=>intro n h;simpa using h
  | cons t x ih=>
   intro n h;cases n with
   | zero=>rfl
   | succ n=>
    cases t with
    | own e xs=>simp[og] at h
    | eK d=>simpa[og] using ih n (by simpa[og] using h)
    | ref d=>simpa[og] using ih n (by simpa[og] using h)
 intro x n m h;exact h2 _ m (h1 _ n h)
theorem ac6(xs:List (List D))(i:Nat):oJ (lift xs) i=(row xs i).map T.eK:=by unfold oJ lift row;simp only[List.getD_eq_getElem?_getD,gg];cases xs[i]?<;>rfl
theorem Iv:∀(xs:List (List D)),vZ (lift xs)=true
 | []=>rfl
 | x::xs=>by have:=Iv xs;simp only[lift,aJ,vZ,ab] at this⊢;exact⟨D7 x,this⟩
theorem Se(x y:Operand)(t k i off sz e:Nat)(ti ei:TI)(xs:List (List D))(p:PV)(cs:List T)(ht:E.ti t=some ti)(he:E.ti e=some ei)(hsz:sz=ei.n)(hx:g.ev x= .iT k i off sz)(hk:g.at k=some (.aW e xs))(hy:g.ev y=p)
 (hi:i<xs.length) (hl:off+ti.n≤ei.n) (hp:p.whole=true) (hn:(fK p).length=ti.n) (hcs:HA (fK p)=some cs) :
 mQ E.P ⟨dn,.store t x y,ty,pos,fI,gd⟩ g ⟨eu x++eu y++dn.toList,[k]⟩ ⟨dn.map fun d=>(d,.undef),[(k,.e9 e ((lift xs).set i (vz (oJ (lift xs) i) off cs)))]⟩:=by
 intro g2 hg X ν a w next Q hs hnx
 have e1:=hg.ev (x:=x) (fun t h=>by simp[h])
 have e2:=hg.ev (x:=y) (fun t h=>by simp[h])
 have h3:=(hg.p k (by simp)).trans hk
 have hs2:=hs.lift h3
 have hev:∀z,(⟨g2.sl,dv g2.st k (some (.e9 e (lift xs)))⟩:G).ev z=g2.ev z:=fun z=>by cases z<;>rfl
 refine FY (g:=⟨g2.sl,dv g2.st k (some (.e9 e (lift xs)))⟩) x y t k i off sz e ti ei (lift xs) p cs ht he hsz (by rw[hev,e1];exact hx) ?_ (by rw[hev,e2];exact hy) (by rw[pO];exact hi) hl hp hn hcs ?_ _ ⟨fun _ _=>rfl,fun _ _=>rfl⟩ X ν a w next Q hs2 ?_
 ·rw[zG,if_pos rfl]
 ·rw[ac6]
  exact aan _ _ (D7 _)
 ·intro ν' a' w' h
  refine hnx ν' a' w' ?_
  simpa only[G.app,B9,nD] using h
end
section
variable{E:Env}{g:G}{d:Nat}{ty:TypeId}{pos:String}{fI:Array Edge}{gd:Option (Nat×Bool)}{dn:Option Nat}
def RJ(E:Env)(sz:Nat)(g:G)(p:PV)(ys:List (List T)):Prop:=
 (∃ys',BI E sz g p ys'∧ys=lift ys')∨(∃m e ei,p= .aW m∧g.at m=some (.e9 e ys)∧E.ti e=some ei∧ei.n=sz∧vZ ys=true)
theorem RJ.agree{R:Rd}{g g2:G}(h:FV R g g2){sz:Nat}{p:PV}{ys:List (List T)}(hp:∀k∈CL p,k∈R.p)(ha:RJ E sz g p ys):RJ E sz g2 p ys:=by rcases ha with⟨ys',h1,h2⟩|⟨m,e,ei,rfl,hk,he,hz⟩;exact .inl ⟨ys',h1.agree h hp,h2⟩;exact .inr ⟨m,e,ei,rfl,(h.p m (hp m (by simp[CL]))).trans hk,he,hz⟩
theorem Lt{X:Cx}{ν:Nat→Nm}{g:G}{a:Act}{w:World}{sz:Nat}{p:PV}{ys:List (List T)}{v:Value}(h:Sat E.P X ν g a w)(ha:RJ E sz g p ys)(hv:aF w (dg X ν g.at) ν g.at p v) :
 ∃vs:List (List Value),bN E.P w (dg X ν g.at) ν g.at ys vs []∧(∀(i:Nat)(u:List Value),vs[i]?=some u→u.length=sz)∧B8 w v vs∧ys.length≤LB:=by
 rcases ha with⟨ys',h1,rfl⟩|⟨m,e,ei,rfl,hk,he,hz,hn⟩
 ·obtain⟨vs,h2,h3,h4⟩:=zn (P0:=E.P) h h1 hv
  exact⟨vs,Qi h2,h2.hu,h3,by rw[pO];exact h4⟩
 ·simp only[aF] at hv
  obtain⟨us,ho,hul,k9,hB,hnd⟩:=zr h hk
  have hf:=SQ k9 hn
  rw[hf] at k9
  refine⟨us,k9,fun i u hu=>by rw[←hz,← (E.ok e ei he).cells];exact hul i u hu,?_,hB⟩
  rw[hv.2]
  have hl:=k9.len
  rcases ho.2 with⟨h1,h2⟩|⟨b,cap,cur,h1,_⟩
  ·left
   refine⟨⟨none,0,h1⟩,bU (by rw[hl];exact h2)⟩
  ·right
   exact⟨b,0,cap,by rw[h1,hl],sE ho h1⟩
theorem KS{v:Value}{F:List Nat}(hF:F.Nodup)(h:∀b,zR v=some b→b∉F):(hb v++F).Nodup:=by
 unfold hb;cases hv:zR v with
 | none=>simpa using hF
 | some b=>simpa using ⟨h b hv,hF⟩
theorem row_one{w:World}{e sz n:Nat}{v:Value}{us:List Value}(h:w.ownsRow 0 e sz v n us):v.oneCell'=true:=by rcases h.2 with⟨h,_⟩|⟨b,c,cur,h,_⟩<;>rw[h]<;>rfl
theorem KT(s x:Operand)(t e k':Nat)(ti ei:TI)(p:PV)(ys:List (List T))(ht:E.ti t=some ti)(mU:ti.ty= .slice e)(he:E.ti e=some ei)(hs:g.ev s= .bE)(hx:g.ev x=p)(ha:RJ E ei.n g p ys)(hk':g.at k'=none)
 (hlb:ys.length≤LB) (hby:ys.length*ei.bytes≤140737488355328) :
 mQ E.P ⟨some d,.call ⟨.builtin .append,#[s,x],#[t,t]⟩,ty,pos,fI,gd⟩ g ⟨eu s++eu x,k'::CL p⟩ ⟨some (d,.aW k'),[(k',.e9 e ys)]⟩:=by
 intro g2 hg
 have e1:=hg.ev (x:=s) (fun t h=>by simp[h])
 have e2:=hg.ev (x:=x) (fun t h=>by simp[h])
 have h3:=(hg.p k' (by simp)).trans hk'
 have ha2:=ha.agree hg (fun k h=>by simp[h])
 intro X ν a w next Q jS hn
 have hv:=jS.ev s
 rw[e1,hs] at hv
 have pJ:=jS.ev x
 rw[e2,hx] at pJ
 simp only[aF] at hv
 obtain⟨vs,htr,hul,hsl,_⟩:=Lt jS ha2 pJ
 have hraw:=AA (w:=w) (ok:=fun _=>True) hul (htr.one jS.nu)
 have hl:=htr.len
 obtain⟨v',w',k1,k2,k3,k4⟩:=ru ht mU he w ty (.slice none 0 0) (a.eval x) 0 [] _ vs _ (World.ownsRow_nil w 0 e ei.n) hraw hsl (by simpa[hl] using hlb) (by simpa[hl] using hby)
 have hr:=xj (E:=E) (o:=⟨some d,.call ⟨.builtin .append,#[s,x],#[t,t]⟩,ty,pos,fI,gd⟩) rfl a w w' v' (by rw[hv];exact k1)
 unfold Oper.wp
 rw[hr,Oper.upon_value]
 simp only[dQ,bQ,cd,hl] at k2
 refine hn _ _ _ (jS.Ax (k3.mono fun b hb _=>by simp[zR] at hb) k' h3 (.e9 e ys) ⟨v',[]⟩ (row_one k2) (fun b hb=>(k4 b ((lx rfl).1 hb)).resolve_left (by simp[zR])) d _ _ ?_ ?_)
 ·intro ok st ν' hν hw hm
  refine D0 (us:=vs) (by rw[hν,(E.ok e ei he).cells];exact k2) (by rw[(E.ok e ei he).cells];exact hul) ?_ hlb (by rw[hν];exact KS List.nodup_nil (by simp))
  rw[hν]
  exact htr.frame hw k3.size hm _ _ _ (by simp)
 ·intro ok st ν' hν gY hw hm
  simp only[aF]
  exact⟨by rw[gY];rfl,by rw[hν]⟩
theorem vP(s x:Operand)(t e k k':Nat)(ti ei:TI)(p:PV)(xs ys:List (List T))(ht:E.ti t=some ti)(mU:ti.ty= .slice e)(he:E.ti e=some ei)(hs:g.ev s= .aW k)(hk:g.at k=some (.e9 e xs))(hx:g.ev x=p)(ha:RJ E ei.n g p ys)(hk':g.at k'=none)
 (hlb:xs.length+ys.length≤LB) (hby:(xs.length+ys.length)*ei.bytes≤140737488355328) :
 mQ E.P ⟨some d,.call ⟨.builtin .append,#[s,x],#[t,t]⟩,ty,pos,fI,gd⟩ g ⟨eu s++eu x,k::k'::CL p⟩ ⟨some (d,.aW k'),[(k,.dead),(k',.e9 e (xs++ys))]⟩:=by
 intro g2 hg
 have e1:=hg.ev (x:=s) (fun t h=>by simp[h])
 have e2:=hg.ev (x:=x) (fun t h=>by simp[h])
 have h2:=(hg.p k (by simp)).trans hk
 have h3:=(hg.p k' (by simp)).trans hk'
 have ha2:=ha.agree hg (fun k h=>by simp[h])
 intro X ν a w next Q jS hn
 have hv:=jS.ev s
 rw[e1,hs] at hv
 have pJ:=jS.ev x
 rw[e2,hx] at pJ
 simp only[aF] at hv
 obtain⟨vs,htr,hul,hsl,_⟩:=Lt jS ha2 pJ
 have hraw:=AA (w:=w) (ok:=fun _=>True) hul (htr.one jS.nu)
 have hl:=htr.len
 obtain⟨us,jG,huu,hru,hB,hnd⟩:=zr jS h2
 rw[(E.ok e ei he).cells] at jG huu
 obtain⟨v',w',k1,k2,k3,k4⟩:=ru ht mU he w ty (ν k).v (a.eval x) xs.length us.flatten _ vs _ jG hraw hsl (by simpa[hl] using hlb) (by simpa[hl] using hby)
 have hr:=xj (E:=E) (o:=⟨some d,.call ⟨.builtin .append,#[s,x],#[t,t]⟩,ty,pos,fI,gd⟩) rfl a w w' v' (by rw[hv.2];exact k1)
 unfold Oper.wp
 rw[hr,Oper.upon_value]
 simp only[cd,hl] at k2
 have hnd2:=gh.1 hnd
 have hnb:∀b∈(ν k).f,zR (ν k).v≠some b:=fun b hb hc=>hnd2.2.2 b (Hy.2 hc) b hb rfl
 have pz:∀b∈(ν k).f,b<w.heap.size:=fun b hb=>hru.lt _ _ _ b hb
 refine hn _ _ _ (jS.move (some k) (fun j hj=>⟨_,by obtain rfl:=Option.some.inj hj;exact h2,rfl⟩) (k3.mono fun b hb _=>⟨k,rfl,.inl hb⟩) k' h3 (.e9 e (xs++ys)) ⟨v',(ν k).f⟩ (row_one k2)
  (fun b hb=>hb.elim (fun h=>(k4 b h).imp (fun h=>⟨k,rfl,.inl h⟩) id) fun h=>.inl ⟨k,rfl,.inr h⟩) d _ _ ?_ ?_)
 ·intro ok st ν' hν hw hm
  refine D0 (us:=us++vs) ?_ ?_ ?_ (by simpa using hlb) ?_
  ·rw[hν,(E.ok e ei he).cells,ay,List.flatten_append];exact k2
  ·rw[(E.ok e ei he).cells]
   intro i u hu
   rcases b7 i us.length with hi|hi
   ·rw[br hi] at hu;exact huu i u hu
   ·rw[bG hi] at hu;exact hul _ u hu
  ·rw[hν]
   have h1:=hru.frame hw k3.size hm _ _ _ fun b hb=>k3.block b (pz b hb) (hnb b hb)
   have h2:=htr.frame hw k3.size hm _ _ _ (by simp)
   have:=h1.append h2
   rwa [bV] at this
  ·rw[hν]
   refine KS hnd2.2.1 fun b hb hm=>?_
   rcases k4 b hb with h|h
   ·exact hnb b hm h
   ·have:=pz b hm;omega
 ·intro ok st ν' hν gY hw hm
  simp only[aF]
  exact⟨by rw[gY];rfl,by rw[hν]⟩
theorem Mp(s x:Operand)(t e k k':Nat)(ti ei:TI)(p:PV)(xs:List (List D))(ys:List (List T))(ht:E.ti t=some ti)(mU:ti.ty= .slice e)(he:E.ti e=some ei)(hs:g.ev s= .aW k)(hk:g.at k=some (.aW e xs))(hx:g.ev x=p)(ha:RJ E ei.n g p ys)(hk':g.at k'=none)
 (hlb:xs.length+ys.length≤LB) (hby:(xs.length+ys.length)*ei.bytes≤140737488355328) :
 mQ E.P ⟨some d,.call ⟨.builtin .append,#[s,x],#[t,t]⟩,ty,pos,fI,gd⟩ g ⟨eu s++eu x,k::k'::CL p⟩ ⟨some (d,.aW k'),[(k,.dead),(k',.e9 e (lift xs++ys))]⟩:=by
 intro g2 hg X ν a w next Q hs' hnx
 have e1:=hg.ev (x:=s) (fun t h=>by simp[h])
 have e2:=hg.ev (x:=x) (fun t h=>by simp[h])
 have h3:=(hg.p k (by simp)).trans hk
 have h4:=(hg.p k' (by simp)).trans hk'
 have ha2:=ha.agree hg (fun k h=>by simp[h])
 have hs2:=hs'.lift h3
 have hev:∀z,(⟨g2.sl,dv g2.st k (some (.e9 e (lift xs)))⟩:G).ev z=g2.ev z:=fun z=>by cases z<;>rfl
 have hkk:k'≠k:=fun h=>by rw[h,h3] at h4;cases h4
 have ha3:RJ E ei.n ⟨g2.sl,dv g2.st k (some (.e9 e (lift xs)))⟩ p ys:=by rcases ha2 with⟨ys',h1,rfl⟩|⟨m,e',ei',rfl,hm,he',hz,hn⟩;by_cases hp:p= .aW k;subst hp;rcases h1 with⟨h,_⟩|⟨h,_⟩|⟨m,e',ei',h,hm,he',hz⟩|⟨_,_,h,_⟩;cases h;cases h;obtain rfl:k=m:=(by simpa using h);rw[h3] at hm;obtain⟨rfl,rfl⟩:e=e'∧xs=ys':=(by simpa using hm);exact .inr ⟨k,e,ei',rfl,by rw[zG,if_pos rfl],he',hz,Iv _⟩;cases h;refine .inl ⟨ys',?_,rfl⟩;rcases h1 with h|h|⟨m,e',ei',h,hm,he',hz⟩|h;exact .inl h;exact .inr (.inl h);exact .inr (.inr (.inl ⟨m,e',ei',h,by rw[zG,if_neg (fun hc=>hp (by rw[h,hc]))];exact hm,he',hz⟩));exact .inr (.inr (.inr h));refine .inr ⟨m,e',ei',rfl,?_,he',hz,hn⟩;rw[zG,if_neg (fun hc=>by rw[hc,h3] at hm;cases hm)];exact hm
 refine vP (g:=⟨g2.sl,dv g2.st k (some (.e9 e (lift xs)))⟩) s x t e k k' ti ei p (lift xs) ys ht mU he (by rw[hev,e1];exact hs) (by rw[zG,if_pos rfl]) (by rw[hev,e2];exact hx) ha3 (by rw[zG,if_neg hkk];exact h4)
  (by rw[pO];exact hlb) (by rw[pO];exact hby) _ ⟨fun _ _=>rfl,fun _ _=>rfl⟩ X ν a w next Q hs2 ?_
 intro ν' a' w' h
 refine hnx ν' a' w' ?_
 simpa only[G.app,B9,nD] using h
def N1:List PV→Option (List (List T))
 | []=>some []
 | p::ps=>match p.whole,HA (fK p),N1 ps with
   | true,some x,some xs=>some (x::xs)
   | _,_,_=>none
def Cq(n:Nat):List (List T)→Bool
 | []=>true
 | x::xs=>K6 (Ve x) n&&Cq n xs
theorem S5:∀{qs:List PV}{aK:List (List T)},N1 qs=some aK→aK.length=qs.length
 | [],aK,h=>by simp[N1] at h;simp[←h]
 | q::qs,aK,h=>by simp only[N1] at h;split at h;rename_i h1 h2 h3;obtain rfl:=Option.some.inj h;simp[S5 h3];cases h
def Nr(v:Value):PV:=if(∀u∈v.cells.toList,u.oneCell'=true) then(if v.oneCell'=true then .d (.val v) else .agg (v.cells.toList.map fun u=>.d (.val u))) else .any
theorem agP{w:World}{ok:Nat→Prop}{ν:Nat→Nm}{st:Nat→Option En}:∀(cs:List Value),(∀u∈cs,u.oneCell'=true)→aB w ok ν st (cs.map fun u=>.d (.val u)) cs
 | [],_=>by simp[aB]
 | u::cs,h=>by simp only[aJ,aB,aF];exact⟨.val u (h u (by simp)),agP cs fun u hu=>h u (by simp[hu])⟩
theorem T4:∀(cs:List Value),DW (cs.map fun u=>.d (.val u))=some (cs.map D.val)
 | []=>rfl
 | u::cs=>by simp[DW,toD,T4 cs]
theorem aeV{w:World}{ok:Nat→Prop}{ν:Nat→Nm}{st:Nat→Option En}(v:Value):aF w ok ν st (Nr v) v:=by
 unfold Nr;by_cases h:∀u∈v.cells.toList,u.oneCell'=true
 ·rw[if_pos h];by_cases h1:v.oneCell'=true;rw[if_pos h1];simp only[aF];exact .val v h1;rw[if_neg h1];cases v with
  | agg cs=>simp only[aF];exact⟨_,rfl,agP _ h⟩
  | _=>exact absurd (h _ (List.mem_singleton.2 rfl)) h1
 rw[if_neg h];simp only[aF]
theorem agm(v:Value)(h:∀u∈v.cells.toList,u.oneCell'=true):(Nr v).whole=true∧DW (fK (Nr v))=some (v.cells.toList.map D.val):=by unfold Nr;rw[if_pos h];by_cases h1:v.oneCell'=true;rw[if_pos h1,Fw h1];exact⟨rfl,rfl⟩;rw[if_neg h1];exact⟨rfl,T4 _⟩
theorem Ss(ρ:Operand→Value):∀(ps:List (Nat×Operand)),(∀x∈ps,∀u∈(ρ x.2).cells.toList,u.oneCell'=true)→rowsOf (ps.map fun x=>Nr (ρ x.2))=some (ps.map fun x=>(ρ x.2).cells.toList.map D.val)
 | [],_=>rfl
 | x::ps,h=>by obtain⟨h1,h2⟩:=agm (ρ x.2) (h x (by simp));simp only[aJ,rowsOf];rw[if_pos h1,h2,Ss ρ ps fun y hy=>h y (by simp[hy])]
theorem KM(ρ:Operand→Value)(n:Nat):∀(ps:List (Nat×Operand)),(∀x∈ps,(ρ x.2).cells.toList.length=n)→xC n (ps.map fun x=>(ρ x.2).cells.toList.map D.val)=true
 | [],_=>rfl
 | x::ps,h=>by have:=h x (by simp);simp only[aJ,xC,ab,cd,beq_iff_eq];exact⟨this,KM ρ n ps fun y hy=>h y (by simp[hy])⟩
theorem aia{w:World}{ok:Nat→Prop}{sz:Nat}{vs us:List (List Value)}(hv:∀v∈vs,v.length=sz)(h:cW w ok sz (vs.map fun u=>u.map D.val) us):us=vs:=by
 have hl:=h.len;rw[cd] at hl;refine List.ext_getElem hl fun i h1 h2=>?_;have e1:(vs.map fun u=>u.map D.val)[i]?=some (vs[i].map D.val):=by simp[ae h2]
 have e2:=ae h1;have l1:=h.hu i _ e2;have l2:=hv _ (List.getElem_mem h2);refine List.ext_getElem (by rw[l1,l2]) fun j h3 h4=>?_;exact(h.hr i j _ _ (.val vs[i][j]) _ e1 e2 (by simp[ae h4]) (ae h3)).Kq
theorem ac3{t e:Nat}{ti ei:TI}(ht:E.ti t=some ti)(mU:ti.ty= .slice e)(he:E.ti e=some ei)(a:Act)(w:World)(ps:List (Nat×Operand))(hup:NR 0 (ps.map (·.1))=true)
 (h1:∀x∈ps,∀u∈(a.eval x.2).cells.toList,u.oneCell'=true) (h2:∀x∈ps,(a.eval x.2).cells.toList.length=ei.n) (hbig:ps.length*ei.n≤16777216) {o:Oper} (ho:o.op= .buildSlice t ps.length ⟨ps⟩) :
 (execOp a.eval o).run E.P w= .ok (.value (.slice (some ⟨w.heap.size,0,none⟩) ps.length ps.length)) (w.alloc (.cells ⟨(ps.map fun x=>(a.eval x.2).cells.toList).flatten⟩ e)):=by
 obtain⟨i,z,k1,k2,k4,k5,k6,k7⟩:=(E.ok e ei he).info
 have hu:=(E.ok t ti ht).ty
 rw[mU] at hu
 have hpos:=(E.ok e ei he).pos
 have key:∀init:Array Value,init.size=ps.length*ei.n→Instr.fill (fun i=>some (i*ei.n,ei.n)) init (ps.map fun x=>(x.1,a.eval x.2))=some ⟨(ps.map fun x=>(a.eval x.2).cells.toList).flatten⟩:=by
  intro init hi;obtain⟨us,m1,m2⟩:=GV (w:=w) (ok:=fun _=>True) (ν:=fun _=>⟨.bool false,[]⟩) (st:=fun _=>none) (fun _ h=>by cases h) ei.n (fun x=>Nr (a.eval x)) a.eval (fun x=>aeV _) ps 0 [] init _ hup (Ss a.eval ps h1) (KM a.eval ei.n ps h2) (by simp) (by simp) (by simpa using hi);have e1:(ps.map fun x=>(a.eval x.2).cells.toList.map D.val)=(ps.map fun x=>(a.eval x.2).cells.toList).map fun u=>u.map D.val:=(by simp);rw[e1] at m2;have:=aia (by
   intro v hv
   obtain⟨x,hx,rfl⟩:=bq.1 hv
   exact h2 x hx) m2
  subst this;simpa using m1
 by_cases hz:ps.length*ei.n=0
 ·have m1:=key ((Array.range 0).map fun _=>default) (by rw[Array.size_map,Array.size_range,hz])
  simp only[execOp,ho,kg,Instr.buildSlice,Sem.run_bind,run_underlying hu,Result.andThen_ok,(E.ok e ei he).size w,hz]
  simp[m1,newRow]
 ·have m1:=key ((Array.range (ps.length*ei.n)).map (z.cells[· % z.cells.size]!)) (by simp)
  have hn:¬ps.length*ei.n>16777216:=oM
  simp only[execOp,ho,kg,Instr.buildSlice,Sem.run_bind,run_underlying hu,Result.andThen_ok,(E.ok e ei he).size w]
  simp[hn,hz,zeroValue,typeInfo,k1,k5,m1,newRow]
theorem Yz{w:World}{ok:Nat→Prop}{ν:Nat→Nm}{st:Nat→Option En}(hν:∀k,(st k).isSome=true→(ν k).v.oneCell'=true)(ev:Operand→PV)(ρ:Operand→Value)(hev:∀x,aF w ok ν st (ev x) (ρ x))(n:Nat) :
 ∀(ps:List (Nat×Operand))(aK:List (List T)),N1 (ps.map fun x=>ev x.2)=some aK→Cq n aK=true →
  bN E.P w ok ν st aK (ps.map fun x=>(ρ x.2).cells.toList) []∧(∀x∈ps,∀u∈(ρ x.2).cells.toList,u.oneCell'=true)∧(∀x∈ps,(ρ x.2).cells.toList.length=n)
 | [],aK,h,_=>by simp only[cL,N1,Option.some.injEq] at h;subst h;exact⟨by simp[bN],by simp,by simp⟩
 | x::ps,aK,h,hl=>by simp only[aJ,N1] at h;split at h;rename_i row rows' h1 h2 h3;obtain rfl:=Option.some.inj h;simp only[Cq,ab] at hl;have hl1:=zo hl.1;rw[Kg] at hl1;obtain⟨k1,k2,k3⟩:=Yz hν ev ρ hev n ps rows' h3 hl.2;have hc:=(hev x.2).cells h1 hν;have ht:=P9 (P:=E.P) hc h2;refine⟨?_,?_,?_⟩;simp only[aJ,bN];exact⟨[],[],ht,k1,rfl⟩;intro y hy;rcases ax.1 hy with rfl|hy;exact ht.one hν;exact k2 y hy;intro y hy;rcases ax.1 hy with rfl|hy;rw[ht.len];exact hl1;exact k3 y hy;cases h
theorem V1(t e n k:Nat)(ps:List (Nat×Operand))(ti ei:TI)(aK:List (List T))(ht:E.ti t=some ti)(mU:ti.ty= .slice e)(he:E.ti e=some ei)(hn:n=ps.length)(hup:NR 0 (ps.map (·.1))=true)
 (hr:N1 (ps.map fun x=>g.ev x.2)=some aK) (fj:Cq ei.n aK=true) (hbig:ps.length*ei.n≤16777216) (hk:g.at k=none) :
 mQ E.P ⟨some d,.buildSlice t n ⟨ps⟩,ty,pos,fI,gd⟩ g ⟨ps.flatMap fun x=>eu x.2,[k]⟩ ⟨some (d,.aW k),[(k,.e9 e aK)]⟩:=by
 subst hn
 intro g2 hg
 have hmap:ps.map (fun x=>g2.ev x.2)=ps.map (fun x=>g.ev x.2):=by apply lp;intro x hx;rw[hg.ev (x:=x.2) (fun t h=>gF.2 ⟨x,hx,h⟩)]
 have h3:=(hg.p k (by simp)).trans hk
 rw[←hmap] at hr
 intro X ν a w next Q hs hnx
 obtain⟨htr,m1,m2⟩:=Yz hs.nu g2.ev a.eval hs.ev ei.n ps aK hr fj
 have pI:=ac3 ht mU he a w ps hup m1 m2 hbig (o:=⟨some d,.buildSlice t ps.length ⟨ps⟩,ty,pos,fI,gd⟩) rfl
 have hpos:=(E.ok e ei he).pos
 have hrl:=S5 hr
 simp only[cd] at hrl
 have hle:ps.length≤16777216:=gr (Nat.le_mul_of_pos_right _ hpos) hbig
 have hul:∀(i:Nat)(u:List Value),(ps.map fun x=>(a.eval x.2).cells.toList)[i]?=some u→u.length=ei.n:=by intro i u hu;obtain⟨x,hx,rfl⟩:=bq.1 (du hu);exact m2 x hx
 have hfl:=(AA (w:=w) (ok:=fun _=>True) hul (htr.one hs.nu)).gM
 simp only[cd] at hfl
 unfold Oper.wp
 rw[pI,Oper.upon_value]
 have qf:=World.ownsRow_lit w (e:=e) (⟨(ps.map fun x=>(a.eval x.2).cells.toList).flatten⟩:Array Value) aK.length (base:=0) (size:=ei.n) (bT _) (by simp only[maxLen];omega) (by rw[hrl];simpa using hfl)
 refine hnx _ _ _ (hs.Ax (lG w _) k h3 (.e9 e aK) ⟨.slice (some ⟨w.heap.size,0,none⟩) ps.length ps.length,[]⟩ rfl (fun b hb=>?_) d _ _ ?_ ?_)
 ·obtain rfl:w.heap.size=b:=by simpa[Nm.has,zR] using hb
  exact aH _
 ·intro ok st ν' hν hw hm
  refine D0 (us:=ps.map fun x=>(a.eval x.2).cells.toList) ?_ (by rw[(E.ok e ei he).cells];exact hul) ?_ (by unfold LB;omega) (by rw[hν];exact KS List.nodup_nil (by simp))
  ·rw[hν,(E.ok e ei he).cells,←hrl]
   exact qf
  ·rw[hν]
   exact htr.frame hw (lG w _).size hm _ _ _ (by simp)
 ·intro ok st ν' hν gY hw hm
  simp only[aF]
  exact⟨by rw[gY];rfl,by rw[hν]⟩
end
def tkT:Nat→List T→List T
 | 0,_=>[]
 | _+1,[]=>[]
 | n+1,a::as=>a::tkT n as
theorem Xh:∀(n:Nat)(l:List T),tkT n l=l.take n
 | 0,l=>by simp[tkT]
 | n+1,[]=>by simp[tkT]
 | n+1,a::as=>by simp[tkT,Xh n as]
def drT:Nat→List T→List T
 | 0,l=>l
 | _+1,[]=>[]
 | n+1,_::as=>drT n as
theorem Xt:∀(n:Nat)(l:List T),drT n l=l.drop n
 | 0,l=>by simp[drT]
 | n+1,[]=>by simp[drT]
 | n+1,a::as=>by simp[drT,Xt n as]
def apT:List T→List T→List T
 | [],ys=>ys
 | x::xs,ys=>x::apT xs ys
theorem ac2:∀(xs ys:List T),apT xs ys=xs++ys
 | [],ys=>rfl
 | x::xs,ys=>by simp[apT,ac2 xs ys]
def afW(cs:List T)(off:Nat)(vs:List T):List T:=apT (tkT off cs) (apT vs (drT (off+Ve vs) cs))
theorem agx(cs:List T)(off:Nat)(vs:List T):afW cs off vs=vz cs off vs:=by simp only[afW,vz,ac2,Xh,Xt,Kg]
def P5(g:G)(d:Nat)(c x y:Operand):DZ:=
 match g.ev c with
 | .d (.val (.bool true))=>.go ⟨eu c++eu x,[]⟩ ⟨some (d,g.ev x),[]⟩
 | .d (.val (.bool false))=>.go ⟨eu c++eu y,[]⟩ ⟨some (d,g.ev y),[]⟩
 | _=>.stop
def M1(E:Env)(g:G)(d:Nat)(t:TypeId):DZ:=
 match E.ti t with
 | some ti=>.go ⟨[],[g.new]⟩ ⟨some (d,.bK g.new 0),[(g.new,.box ti.zero)]⟩
 | none=>.stop
def Wa(g:G)(d:Nat)(x:Operand):DZ:=
 match(g.ev x).whole with
 | true=>.go ⟨eu x,[g.new]⟩ ⟨some (d,.bK g.new 0),[(g.new,.box (fK (g.ev x)))]⟩
 | false=>.stop
def J7(E:Env)(g:G)(d:Nat)(t:TypeId)(x:Operand):DZ:=
 match E.ti t with
 | none=>.stop
 | some ti=>
   match g.ev x with
   | .bK k off=>
     match g.at k with
     | some (.box cs)=>match Ae (off+ti.n) (Ao cs) with
       | true=>.go ⟨eu x,[k]⟩ ⟨some (d,YE ti.isAgg (tk ti.n (dr off cs))),[]⟩
       | false=>.stop
     | _=>.stop
   | .gQ xs i off=>.qS (Ae (off+ti.n) (R5 (row xs i))=true) ⟨eu x,[]⟩ ⟨some (d,YE ti.isAgg (tk ti.n (dr off (fy (row xs i))))),[]⟩
   | .iT k i off sz=>
     match g.at k with
     | some (.aW e xs)=>match E.ti e with
       | some ei=>.qS (K6 sz ei.n=true∧i<xs.length∧Ae (off+ti.n) (R5 (row xs i))=true) ⟨eu x,[k]⟩ ⟨some (d,YE ti.isAgg (tk ti.n (dr off (fy (row xs i))))),[]⟩
       | none=>.stop
     | some (.e9 e xs)=>match E.ti e with
       | some ei=>.qS (K6 sz ei.n=true∧i<xs.length∧Ae (off+ti.n) (Ve (oJ xs i))=true) ⟨eu x,[k]⟩ ⟨some (d,YE ti.isAgg (tk ti.n (dr off (pvT (oJ xs i))))),[]⟩
       | none=>.stop
     | _=>.stop
   | _=>.stop
def QZ(E:Env)(g:G)(d:Nat)(s:TypeId)(x:Operand)(f:Nat):DZ:=
 match E.ti s with
 | none=>.stop
 | some si=>match si.ty with
   | .struct fs=>match XD fs f with
     | some (_,fo,_)=>match g.ev x with
       | .bK k off=>.go ⟨eu x,[]⟩ ⟨some (d,.bK k (off+fo)),[]⟩
       | .gQ xs i off=>.go ⟨eu x,[]⟩ ⟨some (d,.gQ xs i (off+fo)),[]⟩
       | .iT k i off sz=>.go ⟨eu x,[]⟩ ⟨some (d,.iT k i (off+fo) sz),[]⟩
       | _=>.stop
     | none=>.stop
   | _=>.stop
def EB(E:Env)(g:G)(d:Nat)(s:TypeId)(x:Operand)(f:Nat):DZ:=
 match E.ti s with
 | none=>.stop
 | some si=>match si.ty with
   | .struct fs=>match XD fs f with
     | some (ft,fo,_)=>match E.ti ft with
       | none=>.stop
       | some fi=>match g.ev x with
         | .agg cs=>match Ae (fo+fi.n) (Ao cs) with
           | true=>.go ⟨eu x,[]⟩ ⟨some (d,YE fi.isAgg (tk fi.n (dr fo cs))),[]⟩
           | false=>.stop
         | _=>.stop
     | none=>.stop
   | _=>.stop
def Kh(E:Env)(g:G)(d:Nat)(s:TypeId)(x y:Operand):DZ:=
 match E.ti s with
 | none=>.stop
 | some si=>match g.ev y with
   | .d (.val (.int .i64 n))=>match si.ty with
     | .slice e=>match E.ti e with
       | none=>.stop
       | some ei=>match g.ev x with
         | .d (.eP xs)=>.qS (0≤n∧n.toNat<xs.length∧K6 (R5 (row xs n.toNat)) ei.n=true) ⟨eu x++eu y,[]⟩ ⟨some (d,.gQ xs n.toNat 0),[]⟩
         | .aW k=>match g.at k with
           | some (.aW e' xs)=>match kV e e' with
             | true=>.qS (0≤n∧n.toNat<xs.length) ⟨eu x++eu y,[k]⟩ ⟨some (d,.iT k n.toNat 0 ei.n),[]⟩
             | false=>.stop
           | some (.e9 e' xs)=>match kV e e' with
             | true=>.qS (0≤n∧n.toNat<xs.length) ⟨eu x++eu y,[k]⟩ ⟨some (d,.iT k n.toNat 0 ei.n),[]⟩
             | false=>.stop
           | _=>.stop
         | _=>.stop
     | .arr len e=>match E.ti e with
       | none=>.stop
       | some ei=>match g.ev x with
         | .bK k off=>.qS (0≤n∧n.toNat<len) ⟨eu x++eu y,[]⟩ ⟨some (d,.bK k (off+n.toNat*ei.n)),[]⟩
         | _=>.stop
     | _=>.stop
   | _=>.stop
def QI(E:Env)(g:G)(d:Nat)(s:TypeId)(x y:Operand):DZ:=
 match E.ti s with
 | none=>.stop
 | some si=>match g.ev y with
   | .d (.val (.int .i64 n))=>match si.ty with
     | .str=>match g.ev x with
       | .d (.str l)=>.qS (0≤n∧n.toNat<l.length) ⟨eu x++eu y,[]⟩ ⟨some (d,.d (.val (.int .u8 ((l.getD n.toNat 0).toNat:Int)))),[]⟩
       | _=>.stop
     | _=>.stop
   | _=>.stop
def X6(g:G)(d:Nat)(u:UnOp)(x:Operand):DZ:=
 match u,g.ev x with
 | .not,.d (.val (.bool m))=>.go ⟨eu x,[]⟩ ⟨some (d,.d (.val (.bool (!m)))),[]⟩
 | .neg,.d (.val (.int .i64 m))=>.qS (I64 (-m)) ⟨eu x,[]⟩ ⟨some (d,.d (.val (.int .i64 (-m)))),[]⟩
 | _,_=>.stop
def J9(E:Env)(g:G)(d:Nat)(s t:TypeId)(x:Operand):DZ:=
 match E.ti s,E.ti t with
 | some si,some ti=>match si.ty,ti.ty,g.ev x with
   | .int k,.int k',.d (.val (.int k2 m))=>match abe k k2 with
     | true=>.go ⟨eu x,[]⟩ ⟨some (d,.d (.val (.int k' (k'.wrap m)))),[]⟩
     | false=>.stop
   | _,_,_=>.stop
 | _,_=>.stop
def EY(E:Env)(g:G)(d:Nat)(t:TypeId)(ps:List (Nat×Operand)):DZ:=
 match E.ti t with
 | none=>.stop
 | some ti=>match ti.ty with
   | .struct fs=>match TC (pls fs) ti.zero (evp g ps) with
     | some r=>.go ⟨sl2 ps,[]⟩ ⟨some (d,.agg r),[]⟩
     | none=>.stop
   | _=>.stop
def QX(E:Env)(g:G)(d:Nat)(t:TypeId)(n:Nat)(ps:List (Nat×Operand)):DZ:=
 match E.ti t with
 | none=>.stop
 | some ti=>match ti.ty with
   | .slice e=>match E.ti e with
     | none=>.stop
     | some ei=>match ps with
       | []=>match n with
         | 0=>.go ⟨[],[g.new]⟩ ⟨some (d,.aW g.new),[(g.new,.aW e [])]⟩
         | _=>.stop
       | p::ps=>match kV n (Vr (p::ps)),NR 0 (ix2 (p::ps)),rowsOf (ev2 g (p::ps)) with
         | true,true,some aK=>match xC ei.n aK,Ae (Vr (p::ps)) 64,Ae ei.n 64 with
           | true,true,true=>.go ⟨sl2 (p::ps),[]⟩ ⟨some (d,.d (.eP aK)),[]⟩
           | _,_,_=>.stop
         | true,true,none=>match N1 (ev2 g (p::ps)) with
           | none=>.stop
           | some aK=>match Cq ei.n aK,Ae (Vr (p::ps)) 64,Ae ei.n 64 with
             | true,true,true=>.go ⟨sl2 (p::ps),[g.new]⟩ ⟨some (d,.aW g.new),[(g.new,.e9 e aK)]⟩
             | _,_,_=>.stop
         | _,_,_=>.stop
   | _=>.stop
def Kf(E:Env)(g:G)(d:Nat)(t:TypeId)(l c:Operand):DZ:=
 match E.ti t with
 | none=>.stop
 | some ti=>match ti.ty with
   | .slice e=>match E.ti e with
     | none=>.stop
     | some ei=>match DW ei.zero,g.ev l,g.ev c with
       | some z,.d (.val (.int .i64 n)),.d (.val (.int .i64 n'))=>.qS (n'=n∧0≤n∧n.toNat≤LB∧ei.bytes*n.toNat≤281474976710656) ⟨eu l++eu c,[g.new]⟩ ⟨some (d,.aW g.new),[(g.new,.aW e (List.replicate n.toNat z))]⟩
       | _,_,_=>.stop
   | _=>.stop
def obI(g:G)(dflt:Int):Option Operand→Option Int
 | none=>some dflt
 | some x=>match g.ev x with
   | .d (.val (.int _ i))=>some i
   | _=>none
theorem Ru{g:G}{d i:Int}{o:Option Operand}(h:obI g d o=some i):OI g o d i:=by
 cases o with
 | none=>exact(Option.some.inj h).symm
 | some x=>simp only[obI] at h;split at h;rename_i k j hj;obtain rfl:=Option.some.inj h;exact⟨k,hj⟩;cases h
def Q9(E:Env)(g:G)(d:Nat)(t:TypeId)(x:Operand)(lo hi mx:Option Operand):DZ:=
 match mx,E.ti t with
 | none,some ti=>match ti.ty,g.ev x with
   | .slice e,.d (.eP xs)=>match E.ti e,obI g 0 lo,obI g xs.length hi with
     | some ei,some l,some h=>.qS (0≤l∧l≤h∧h≤xs.length∧∀y∈xs,y.length=ei.n) ⟨eu x++(osl lo++osl hi),[]⟩ ⟨some (d,.d (.eP ((xs.drop l.toNat).take (h.toNat-l.toNat)))),[]⟩
     | _,_,_=>.stop
   | .str,.d (.str s)=>match obI g 0 lo,obI g s.length hi with
     | some l,some h=>.qS (0≤l∧l≤h∧h≤s.length) ⟨eu x++(osl lo++osl hi),[]⟩ ⟨some (d,.d (.str ((s.drop l.toNat).take (h.toNat-l.toNat)))),[]⟩
     | _,_=>.stop
   | _,_=>.stop
 | _,_=>.stop
def Sa(g:G)(d:Nat)(x:Operand):DZ:=
 match g.ev x with
 | .bK k off=>.go ⟨eu x,[]⟩ ⟨some (d,.bK k off),[]⟩
 | .gQ xs i off=>.go ⟨eu x,[]⟩ ⟨some (d,.gQ xs i off),[]⟩
 | .iT k i off sz=>.go ⟨eu x,[]⟩ ⟨some (d,.iT k i off sz),[]⟩
 | _=>.stop
def Qh(g:G)(d:Nat)(x:Operand)(i:Nat):DZ:=
 match g.ev x with
 | .ko ps=>match aaa ps i with
   | some p=>.go ⟨eu x,[]⟩ ⟨some (d,p),[]⟩
   | none=>.stop
 | _=>.stop
def Qc(E:Env)(g:G)(d:Nat)(s:TypeId)(x:Operand):DZ:=
 match E.ti s with
 | none=>.stop
 | some si=>match si.ty,g.ev x with
   | .slice _,.d (.eP xs)=>.go ⟨eu x,[]⟩ ⟨some (d,.d (.val (.int .i64 (xs.length:Int)))),[]⟩
   | .slice _,.bE=>.go ⟨eu x,[]⟩ ⟨some (d,.d (.val (.int .i64 0))),[]⟩
   | .slice _,.aW k=>match g.at k with
     | some (.aW _ xs)=>.go ⟨eu x,[k]⟩ ⟨some (d,.d (.val (.int .i64 (xs.length:Int)))),[]⟩
     | some (.e9 _ xs)=>.go ⟨eu x,[k]⟩ ⟨some (d,.d (.val (.int .i64 (xs.length:Int)))),[]⟩
     | _=>.stop
   | .str,.d (.str l)=>.go ⟨eu x,[]⟩ ⟨some (d,.d (.val (.int .i64 (l.length:Int)))),[]⟩
   | _,_=>.stop
def Ke(E:Env)(g:G)(p:PV):Option (List (List D)×Option TypeId):=
 match p with
 | .bE=>some ([],none)
 | .d (.eP ys)=>some (ys,none)
 | .aW k=>match g.at k with
   | some (.aW e ys)=>some (ys,some e)
   | _=>none
 | .d (.val (.slice (some _) 0 _))=>some ([],none)
 | _=>none
def TV(E:Env)(sz:Nat)(p:PV)(ys:List (List D)):Option TypeId→Prop
 | none=>∀y∈ys,y.length=sz
 | some e=>∃ei,E.ti e=some ei∧ei.n=sz
theorem Eo{E:Env}{g:G}{p:PV}{ys:List (List D)}{o:Option TypeId}{sz:Nat}(h:Ke E g p=some (ys,o))(ho:TV E sz p ys o):BI E sz g p ys:=by
 unfold Ke at h;split at h;obtain⟨rfl,rfl⟩:[]=ys∧none=o:=by simpa using h
 exact .inl ⟨rfl,rfl⟩;obtain⟨rfl,rfl⟩:_=ys∧none=o:=by simpa using h
 exact .inr (.inl ⟨rfl,ho⟩);split at h;rename_i e ys' hk;obtain⟨rfl,rfl⟩:_=ys∧some e=o:=by simpa using h
 obtain⟨ei,h1,h2⟩:=ho;exact .inr (.inr (.inl ⟨_,e,ei,rfl,hk,h1,h2⟩));cases h;obtain⟨rfl,rfl⟩:[]=ys∧none=o:=by simpa using h
 exact .inr (.inr (.inr ⟨_,_,rfl,rfl⟩));cases h
def J3(g:G)(p:PV):Option (List (List T)×TypeId):=
 match p with
 | .aW k=>match g.at k with
   | some (.e9 e ys)=>some (ys,e)
   | _=>none
 | _=>none
theorem D3{E:Env}{g:G}{p:PV}{ys:List (List T)}{e:TypeId}{ei:TI}(h:J3 g p=some (ys,e))(he:E.ti e=some ei)(hn:vZ ys=true):RJ E ei.n g p ys:=by
 unfold J3 at h;split at h;rename_i k;split at h;rename_i e' ys' hk;obtain⟨rfl,rfl⟩:ys'=ys∧e'=e:=by simpa using h
 exact .inr ⟨k,e',ei,rfl,hk,he,rfl,hn⟩;cases h;cases h
def Kr(g:G)(d:Nat)(s x:Operand)(e:TypeId)(ei:TI):DZ:=
 match J3 g (g.ev x) with
 | none=>.stop
 | some (ys,e2)=>match kV e e2 with
   | false=>.stop
   | true=>match g.ev s with
     | .bE=>.qS (vZ ys=true∧ys.length≤LB∧ys.length*ei.bytes≤140737488355328) ⟨eu s++eu x,g.new::CL (g.ev x)⟩ ⟨some (d,.aW g.new),[(g.new,.e9 e ys)]⟩
     | .aW k=>match g.at k with
       | some (.aW e' xs)=>match kV e e' with
         | true=>.qS (vZ ys=true∧xs.length+ys.length≤LB∧(xs.length+ys.length)*ei.bytes≤140737488355328) ⟨eu s++eu x,k::g.new::CL (g.ev x)⟩ ⟨some (d,.aW g.new),[(k,.dead),(g.new,.e9 e (lift xs++ys))]⟩
         | false=>.stop
       | some (.e9 e' xs)=>match kV e e' with
         | true=>.qS (vZ ys=true∧xs.length+ys.length≤LB∧(xs.length+ys.length)*ei.bytes≤140737488355328) ⟨eu s++eu x,k::g.new::CL (g.ev x)⟩ ⟨some (d,.aW g.new),[(k,.dead),(g.new,.e9 e (xs++ys))]⟩
         | false=>.stop
       | _=>.stop
     | _=>.stop
def QO(E:Env)(g:G)(d:Nat)(s x:Operand)(t t':TypeId):DZ:=
 match kV t t',E.ti t with
 | true,some ti=>match ti.ty with
   | .slice e=>match E.ti e,Ke E g (g.ev x) with
     | some ei,some (ys,o)=>match g.ev s with
       | .bE=>.qS (TV E ei.n (g.ev x) ys o∧ys.length≤LB∧ys.length*ei.bytes≤140737488355328) ⟨eu s++eu x,g.new::CL (g.ev x)⟩ ⟨some (d,.aW g.new),[(g.new,.aW e ys)]⟩
       | .aW k=>match g.at k with
         | some (.aW e' xs)=>match kV e e' with
           | true=>.qS (TV E ei.n (g.ev x) ys o∧xs.length+ys.length≤LB∧(xs.length+ys.length)*ei.bytes≤140737488355328) ⟨eu s++eu x,k::g.new::CL (g.ev x)⟩ ⟨some (d,.aW g.new),[(k,.dead),(g.new,.aW e (xs++ys))]⟩
           | false=>.stop
         | some (.e9 e' xs)=>match kV e e' with
           | true=>.qS (TV E ei.n (g.ev x) ys o∧xs.length+ys.length≤LB∧(xs.length+ys.length)*ei.bytes≤140737488355328) ⟨eu s++eu x,k::g.new::CL (g.ev x)⟩ ⟨some (d,.aW g.new),[(k,.dead),(g.new,.e9 e (xs++lift ys))]⟩
           | false=>.stop
         | _=>.stop
       | _=>.stop
     | some ei,none=>Kr g d s x e ei
     | _,_=>.stop
   | _=>.stop
 | _,_=>.stop
def AN(E:Env)(g:G)(dn:Option Nat)(t:TypeId)(x y:Operand):DZ:=
 match E.ti t with
 | none=>.stop
 | some ti=>match g.ev x with
   | .bK k off=>match g.at k with
     | some (.box cs)=>match Ae (off+ti.n) (Ao cs),(g.ev y).whole,kV (Ao (fK (g.ev y))) ti.n,zl (fK (g.ev y)) with
       | true,true,true,true=>.go ⟨eu x++eu y++dn.toList,[k]⟩ ⟨dn.map fun d=>(d,.undef),[(k,.box (Xl cs off (fK (g.ev y))))]⟩
       | _,_,_,_=>.stop
     | _=>.stop
   | .iT k i off sz=>match g.at k with
     | some (.aW e xs)=>match E.ti e,(g.ev y).whole,kV (Ao (fK (g.ev y))) ti.n,DW (fK (g.ev y)) with
       | some ei,true,true,some cs=>.qS (K6 sz ei.n=true∧i<xs.length∧Ae (off+ti.n) ei.n=true) ⟨eu x++eu y++dn.toList,[k]⟩ ⟨dn.map fun d=>(d,.undef),[(k,.aW e (xs.set i (vz (row xs i) off cs)))]⟩
       | some ei,true,true,none=>match HA (fK (g.ev y)) with
         | none=>.stop
         | some cs=>.qS (K6 sz ei.n=true∧i<xs.length∧Ae (off+ti.n) ei.n=true) ⟨eu x++eu y++dn.toList,[k]⟩ ⟨dn.map fun d=>(d,.undef),[(k,.e9 e ((lift xs).set i (vz (oJ (lift xs) i) off cs)))]⟩
       | _,_,_,_=>.stop
     | some (.e9 e xs)=>match E.ti e,(g.ev y).whole,kV (Ao (fK (g.ev y))) ti.n,HA (fK (g.ev y)) with
       | some ei,true,true,some cs=>.qS (K6 sz ei.n=true∧i<xs.length∧Ae (off+ti.n) ei.n=true∧og (tkT ti.n (drT off (oJ xs i)))=true) ⟨eu x++eu y++dn.toList,[k]⟩ ⟨dn.map fun d=>(d,.undef),[(k,.e9 e (xs.set i (afW (oJ xs i) off cs)))]⟩
       | _,_,_,_=>.stop
     | _=>.stop
   | _=>.stop
def CQ:List Operand→List Nat
 | []=>[]
 | x::xs=>eu x++CQ xs
theorem Cp:∀(l:List Operand),CQ l=l.flatMap eu
 | []=>rfl
 | x::xs=>by simp[CQ,Cp xs]
def U1(g:G):List Operand→List PV
 | []=>[]
 | x::xs=>g.ev x::U1 g xs
theorem HV(g:G):∀(l:List Operand),U1 g l=l.map g.ev
 | []=>rfl
 | x::xs=>by simp[U1,HV g xs]
def Yj(g:G)(d:Nat)(fn:Fn)(first cs:List Operand):DZ:=
 match fn,first with
 | .func f,[]=>.go ⟨CQ cs,[]⟩ ⟨some (d,.fn f (U1 g cs)),[]⟩
 | _,_=>.stop
def Kv(E:Env)(g:G)(d:Nat)(callee:Callee)(args:List Operand)(tys:List TypeId):DZ:=
 match callee with
 | .builtin b=>match b,args,tys with
   | .len,[x],[s]=>Qc E g d s x
   | .append,[s,x],[t,t']=>QO E g d s x t t'
   | _,_,_=>.stop
 | _=>.stop
def Ye(E:Env)(g:G)(d:Nat):Op→DZ
 | .move x=>.go ⟨eu x,[]⟩ ⟨some (d,g.ev x),[]⟩
 | .assign x=>.go ⟨eu x,[]⟩ ⟨some (d,g.ev x),[]⟩
 | .pick c x y=>P5 g d c x y
 | .alloc t=>M1 E g d t
 | .box _ x=>Wa g d x
 | .load t x=>J7 E g d t x
 | .fieldAddr s x f=>QZ E g d s x f
 | .field s x f=>EB E g d s x f
 | .indexAddr s x y=>Kh E g d s x y
 | .index s x y=>QI E g d s x y
 | .store t x y=>AN E g (some d) t x y
 | .binOp b t x y _=>bop E g d b t x y
 | .unOp u _ x=>X6 g d u x
 | .convert s t x=>J9 E g d s t x
 | .makeFunc fn first cs=>Yj g d fn first.toList cs.toList
 | .build t ps=>EY E g d t ps.toList
 | .buildSlice t n ps=>QX E g d t n ps.toList
 | .makeSlice t l c=>Kf E g d t l c
 | .slice t x lo hi mx=>Q9 E g d t x lo hi mx
 | .nilCheck x=>Sa g d x
 | .extract x i=>Qh g d x i
 | .call c=>Kv E g d c.callee c.args.toList c.argTypes.toList
 | _=>.stop
def stp(E:Env)(g:G)(o:Oper):DZ:=
 match o.dst,o.op with
 | some d,op=>Ye E g d op
 | none,.store t x y=>AN E g none t x y
 | none,_=>.stop
section
variable{E:Env}{g:G}{d:Nat}{ty:TypeId}{pos:String}{fI:Array Edge}{gd:Option (Nat×Bool)}{dn:Option Nat}
theorem Vx(t:TypeId)(x:Operand):(J7 E g d t x).Ok E.P ⟨some d,.load t x,ty,pos,fI,gd⟩ g:=by unfold J7;split;trivial;rename_i ti ht;split;rename_i k off hx;split;rename_i cs hk;split;rename_i hl;have hl:=nv hl;rw[rB] at hl;simp only[Pz,Oz];exact IK x t k off ti cs ht hx hk hl;trivial;trivial;rename_i xs i off hx;simp only[Pz,Oz];exact fun h=>R2 x t i off ti xs _ ht hx rfl (Yv h);rename_i k i off sz hx;split;rename_i e xs hk;split;rename_i ei he;simp only[Pz,Oz];exact fun h=>Qf x t k i off sz e ti ei xs _ ht he (zo h.1) hx hk h.2.1 rfl (Yv h.2.2);trivial;rename_i e xs hk;split;rename_i ei he;simp only[Pz,Oz];exact fun h=>T3 x t k i off sz e ti ei xs ht he (zo h.1) hx hk h.2.1 (by have:=nv h.2.2;rwa [Kg] at this);trivial;trivial;trivial
theorem ZJ(s:TypeId)(x:Operand)(f:Nat):(QZ E g d s x f).Ok E.P ⟨some d,.fieldAddr s x f,ty,pos,fI,gd⟩ g:=by unfold QZ;split;trivial;rename_i si hs;split;rename_i fs rX;split;rename_i ft fo fz hf;rw[QU] at hf;split;rename_i hx;exact Ww x s f _ _ si fs ft fo fz hs rX hf hx;rename_i hx;exact Uo x s f _ _ _ si fs ft fo fz hs rX hf hx;rename_i hx;exact UA x s f _ _ _ _ si fs ft fo fz hs rX hf hx;trivial;trivial;trivial
theorem SM(s:TypeId)(x:Operand)(f:Nat):(EB E g d s x f).Ok E.P ⟨some d,.field s x f,ty,pos,fI,gd⟩ g:=by unfold EB;split;trivial;rename_i si hs;split;rename_i fs rX;split;rename_i ft fo fz hf;rw[QU] at hf;split;trivial;rename_i fi hfi;split;rename_i cs hx;split;rename_i hl;have hl:=nv hl;rw[rB] at hl;simp only[Pz,Oz];exact acu x s f si fs ft fo fz fi cs hs rX hf hfi hx hl;trivial;trivial;trivial;trivial
theorem Wj(s:TypeId)(x y:Operand):(Kh E g d s x y).Ok E.P ⟨some d,.indexAddr s x y,ty,pos,fI,gd⟩ g:=by unfold Kh;split;trivial;rename_i si hs;split;rename_i n hy;split;rename_i e rX;split;trivial;rename_i ei he;split;rename_i xs hx;exact fun h=>Vj x y s si ei e xs n hs rX he hx hy h.1 h.2.1 (agI h.2.2);rename_i k hx;split;rename_i e' xs hk;split;rename_i hee;obtain rfl:=cg hee;exact fun h=>V6 x y s si ei e k xs n hs rX he hx hk hy h.1 h.2;trivial;rename_i e' xs hk;split;rename_i hee;obtain rfl:=cg hee;exact fun h=>XA x y s si ei e k xs n hs rX he hx hk hy h.1 h.2;trivial;trivial;trivial;rename_i len e rX;split;trivial;rename_i ei he;split;rename_i k off hx;exact fun h=>Xs x y s si ei e len k off n hs rX he hx hy h.1 h.2;trivial;trivial;trivial
theorem aam(s:TypeId)(x y:Operand):(QI E g d s x y).Ok E.P ⟨some d,.index s x y,ty,pos,fI,gd⟩ g:=by unfold QI;split;trivial;rename_i si hs;split;rename_i n hy;split;rename_i rX;split;rename_i l hx;exact fun h=>Wt x y s si l n hs rX hx hy h.1 h.2;trivial;trivial;trivial
theorem abP(u:UnOp)(t:TypeId)(x:Operand):(X6 g d u x).Ok E.P ⟨some d,.unOp u t x,ty,pos,fI,gd⟩ g:=by unfold X6;split;rename_i m hx;exact ait x m t hx;rename_i m hx;exact fun h=>aiB x m t hx h;trivial
theorem Wq(s t:TypeId)(x:Operand):(J9 E g d s t x).Ok E.P ⟨some d,.convert s t x,ty,pos,fI,gd⟩ g:=by unfold J9;split;rename_i si ti hs ht;split;rename_i k k' k2 m rX mU hx;split;rename_i hk;obtain rfl:=Rf hk;exact afa x k k' m s t si ti hs rX ht mU hx;trivial;trivial;trivial
theorem SE(t:TypeId)(ps:Array (Nat×Operand)):(EY E g d t ps.toList).Ok E.P ⟨some d,.build t ps,ty,pos,fI,gd⟩ g:=by unfold EY;split;trivial;rename_i ti ht;split;rename_i fs mU;split;rename_i r hr;have hr:=YI _ _ _ _ hr;rw[adp,adS] at hr;rw[Qw];exact aem t ps.toList ti fs r ht mU hr;trivial;trivial
theorem Zd(t:TypeId)(n:Nat)(ps:Array (Nat×Operand)):(QX E g d t n ps.toList).Ok E.P ⟨some d,.buildSlice t n ps,ty,pos,fI,gd⟩ g:=by obtain⟨ps⟩:=ps;simp only;unfold QX;split;trivial;rename_i ti ht;split;rename_i e mU;split;trivial;rename_i ei he;split;split;exact DD t e 0 g.new [] ti ei [] ht mU he rfl rfl rfl rfl (by simp) g.ng;trivial;rename_i p ps;split;rename_i aK h1 h2 h3;split;rename_i h4 h5 h6;have h1:=cg h1;have h5:=nv h5;have h6:=nv h6;rw[Q0] at h1 h5;rw[Vn] at h2;rw[Vt] at h3;rw[Qw];exact abg t e n (p::ps) ti ei aK ht mU he h1 h2 h3 h4 (gr (Nat.mul_le_mul h5 h6) oM);trivial;rename_i h1 h2 _;split;trivial;rename_i aK h3;split;rename_i h4 h5 h6;have h1:=cg h1;have h5:=nv h5;have h6:=nv h6;rw[Q0] at h1 h5;rw[Vn] at h2;rw[Vt] at h3;rw[Qw];exact V1 t e n g.new (p::ps) ti ei aK ht mU he h1 h2 h3 h4 (gr (Nat.mul_le_mul h5 h6) oM) g.ng;trivial;trivial;trivial
theorem U6(t:TypeId)(l c:Operand):(Kf E g d t l c).Ok E.P ⟨some d,.makeSlice t l c,ty,pos,fI,gd⟩ g:=by unfold Kf;split;trivial;rename_i ti ht;split;rename_i e mU;split;trivial;rename_i ei he;split;rename_i z n n' hz hl hc;rintro⟨rfl,h1,h2,h3⟩;exact afs l c t e g.new ti ei n' z ht mU he hz hl hc g.ng h1 h2 h3;trivial;trivial
theorem aaB(t:TypeId)(x:Operand)(lo hi mx:Option Operand):(Q9 E g d t x lo hi mx).Ok E.P ⟨some d,.slice t x lo hi mx,ty,pos,fI,gd⟩ g:=by unfold Q9;split;rename_i ti ht;split;rename_i e xs mU hx;split;rename_i ei l h he hl hh;exact fun k=>Xu x lo hi t e ti ei xs _ l h ht mU he hx (Ru hl) (Ru hh) k.1 k.2.1 k.2.2.1 k.2.2.2 rfl;trivial;rename_i s mU hx;split;rename_i l h hl hh;exact fun k=>Vg x lo hi t ti s _ l h ht mU hx (Ru hl) (Ru hh) k.1 k.2.1 k.2.2 rfl;trivial;trivial;trivial
theorem aaF(x:Operand):(Sa g d x).Ok E.P ⟨some d,.nilCheck x,ty,pos,fI,gd⟩ g:=by unfold Sa;split;rename_i hx;exact Jg x _ _ hx;rename_i hx;exact Hz x _ _ _ hx;rename_i hx;exact HX x _ _ _ _ hx;trivial
theorem aaS(x:Operand)(i:Nat):(Qh g d x i).Ok E.P ⟨some d,.extract x i,ty,pos,fI,gd⟩ g:=by unfold Qh;split;rename_i ps hx;split;rename_i p hp;rw[Y6] at hp;exact XG x i ps p hx hp;trivial;trivial
theorem aaK(s:TypeId)(x:Operand):(Qc E g d s x).Ok E.P ⟨some d,.call ⟨.builtin .len,#[x],#[s]⟩,ty,pos,fI,gd⟩ g:=by unfold Qc;split;trivial;rename_i si hs;split;rename_i e xs rX hx;exact W6 x s si e xs hs rX hx;rename_i e rX hx;exact Vl x s si e hs rX hx;rename_i e k rX hx;split;rename_i e' xs hk;exact XO x s si e e' k xs hs rX hx hk;rename_i e' xs hk;exact XJ x s si e e' k xs hs rX hx hk;trivial;rename_i l rX hx;exact VF x s si l hs rX hx;trivial
theorem Wi(s x:Operand)(t e:TypeId)(ti ei:TI)(ht:E.ti t=some ti)(mU:ti.ty= .slice e)(he:E.ti e=some ei):(Kr g d s x e ei).Ok E.P ⟨some d,.call ⟨.builtin .append,#[s,x],#[t,t]⟩,ty,pos,fI,gd⟩ g:=by unfold Kr;split;trivial;rename_i ys e2 hr;split;trivial;rename_i h2;obtain rfl:=cg h2;split;rename_i hs;exact fun h=>KT s x t e g.new ti ei _ ys ht mU he hs rfl (D3 hr he h.1) g.ng h.2.1 h.2.2;rename_i k hs;split;rename_i e' xs hk;split;rename_i hee;obtain rfl:=cg hee;exact fun h=>Mp s x t e k g.new ti ei _ xs ys ht mU he hs hk rfl (D3 hr he h.1) g.ng h.2.1 h.2.2;trivial;rename_i e' xs hk;split;rename_i hee;obtain rfl:=cg hee;exact fun h=>vP s x t e k g.new ti ei _ xs ys ht mU he hs hk rfl (D3 hr he h.1) g.ng h.2.1 h.2.2;trivial;trivial;trivial
theorem ZG(s x:Operand)(t t':TypeId):(QO E g d s x t t').Ok E.P ⟨some d,.call ⟨.builtin .append,#[s,x],#[t,t']⟩,ty,pos,fI,gd⟩ g:=by unfold QO;split;rename_i ti htt ht;obtain rfl:=cg htt;split;rename_i e mU;split;rename_i ei ys o he hap;split;rename_i hs;exact fun h=>NU s x t e g.new ti ei _ ys ht mU he hs rfl (Eo hap h.1) g.ng h.2.1 h.2.2;rename_i k hs;split;rename_i e' xs hk;split;rename_i hee;obtain rfl:=cg hee;exact fun h=>Oy s x t e k g.new ti ei _ xs ys ht mU he hs hk rfl (Eo hap h.1) g.ng h.2.1 h.2.2;trivial;rename_i e' xs hk;split;rename_i hee;obtain rfl:=cg hee;exact fun h=>vP s x t e k g.new ti ei _ xs (lift ys) ht mU he hs hk rfl (.inl ⟨ys,Eo hap h.1,rfl⟩) g.ng (by rw[pO];exact h.2.1) (by rw[pO];exact h.2.2);trivial;trivial;trivial;rename_i ei he _;exact Wi s x t e ti ei ht mU he;trivial;trivial;trivial
theorem IW(t:TypeId)(x y:Operand):(AN E g dn t x y).Ok E.P ⟨dn,.store t x y,ty,pos,fI,gd⟩ g:=by unfold AN;split;trivial;rename_i ti ht;split;rename_i k off hx;split;rename_i cs hk;split;rename_i h1 h2 h3 h4;have h1:=nv h1;have h3:=cg h3;rw[rB] at h1 h3;rw[RU _ _ _ oM];exact EC x y t k off ti cs _ ht hx hk rfl h1 h2 h3 h4;trivial;trivial;rename_i k i off sz hx;split;rename_i e xs hk;split;rename_i ei cs he h2 h3 h4;have h3:=cg h3;rw[rB] at h3;exact fun h=>Oa x y t k i off sz e ti ei xs _ cs ht he (zo h.1) hx hk rfl h.2.1 (nv h.2.2) h2 h3 h4;rename_i ei he h2 h3 _;have h3:=cg h3;rw[rB] at h3;split;trivial;rename_i cs h4;exact fun h=>Se x y t k i off sz e ti ei xs _ cs ht he (zo h.1) hx hk rfl h.2.1 (nv h.2.2) h2 h3 h4;trivial;rename_i e xs hk;split;rename_i ei cs he h2 h3 h4;have h3:=cg h3;rw[rB] at h3;simp only[Xh,Xt,agx];exact fun h=>FY x y t k i off sz e ti ei xs _ cs ht he (zo h.1) hx hk rfl h.2.1 (nv h.2.2.1) h2 h3 h4 h.2.2.2;trivial;trivial;trivial
theorem aeo(fn:Fn)(first cs:Array Operand):(Yj g d fn first.toList cs.toList).Ok E.P ⟨some d,.makeFunc fn first cs,ty,pos,fI,gd⟩ g:=by
 obtain⟨first⟩:=first
 obtain⟨cs⟩:=cs;unfold Yj;split;rename_i f h;simp only at h;subst h;rw[Cp,HV];exact Tv _ _;trivial
theorem V7(c:Call):(Kv E g d c.callee c.args.toList c.argTypes.toList).Ok E.P ⟨some d,.call c,ty,pos,fI,gd⟩ g:=by obtain⟨callee,⟨args⟩,⟨tys⟩⟩:=c;unfold Kv;split;split;rename_i h1 h2;simp only at h1 h2;subst h1 h2;rename_i h;simp only at h;subst h;exact aaK _ _;rename_i h1 h2;simp only at h1 h2;subst h1 h2;rename_i h;simp only at h;subst h;exact ZG _ _ _ _;trivial;trivial
theorem adR(op:Op):(Ye E g d op).Ok E.P ⟨some d,op,ty,pos,fI,gd⟩ g:=by unfold Ye;split;exact Ga _;exact aae _;unfold P5;split;rename_i hc;exact XZ _ _ _ true hc;rename_i hc;exact XZ _ _ _ false hc;trivial;unfold M1;split;rename_i ti ht;exact S9 _ g.new ti ht g.ng;trivial;unfold Wa;split;rename_i hw;exact ahe _ _ g.new g.ng hw;trivial;exact Vx _ _;exact ZJ _ _ _;exact SM _ _ _;exact Wj _ _ _;exact aam _ _ _;exact IW _ _ _;exact aiz _ _ _ _ _;exact abP _ _ _;exact Wq _ _ _;exact aeo _ _ _;exact SE _ _;exact Zd _ _ _;exact U6 _ _ _;exact aaB _ _ _ _ _;exact aaF _;exact aaS _ _;exact V7 _;trivial
theorem ah5(o:Oper):(stp E g o).Ok E.P o g:=by obtain⟨dst,op,ty,pos,fI,gd⟩:=o;unfold stp;split;rename_i d h;obtain rfl:dst=some d:=h;exact adR op;rename_i t x y h1 h2;obtain rfl:dst=none:=h1;obtain rfl:op= .store t x y:=h2;exact IW _ _ _;trivial
end
inductive sH where
 | on
 | off
def ifB:Bool→(sH→Prop)→(sH→Prop)→Prop
 | true,a,_=>a .on
 | false,_,b=>b .on
theorem ai8(a b:sH→Prop):ifB true a b=a .on:=rfl
theorem ai6(a b:sH→Prop):ifB false a b=b .on:=rfl
theorem Z8{c:Bool}{a b:sH→Prop}(ht:c=true→a .on)(hf:c=false→b .on):ifB c a b:=by cases c;exact hf rfl;exact ht rfl
theorem Cr{c:Bool}{a b:sH→Prop}(h:ifB c a b):(c=true∧a .on)∨(c=false∧b .on):=by cases c;exact .inr ⟨rfl,h⟩;exact .inl ⟨rfl,h⟩
def snoc:List Ky→Ky→List Ky
 | [],k=>[k]
 | a::as,k=>a::snoc as k
theorem Ya:∀(l:List Ky)(k:Ky),snoc l k=l++[k]
 | [],_=>rfl
 | a::as,k=>by simp[snoc,Ya as k]
def n9:Option (List Ky)→Ky→Option (List Ky)
 | none,_=>none
 | some l,k=>some (snoc l k)
def WM(P:Program)(ops:Array Oper):Option (List Ky)→List Oper→G→(G→Prop)→Prop
 | none,os,g,K=>WO P ops os g K
 | some pre,os,g,K=>WD P ops os pre g K
theorem Kj{P:Program}{ops:Array Oper}{m:Option (List Ky)}{o:Oper}{os:List Oper}{g:G}{K:G→Prop}{R:Rd}{δ:Dl}(h:D2 P ops o g R δ)(hr:WM P ops (n9 m (pZ R δ)) os (g.app δ) K):WM P ops m (o::os) g K:=by
 cases m with
 | none=>exact w5 h hr
 | some pre=>simp only[n9,Ya] at hr;exact agK h hr
def wD:Option Nat→Rd→Rd
 | none,R=>R
 | some t,R=>⟨t::R.s,R.p⟩
def wQ(P:Program)(g g':G):Prop:=∀(X:Cx)(ν:Nat→Nm)(a:Act)(w:World),Sat P X ν g a w→∃ν',Sat P X ν' g' a w
theorem wQ.trans{P:Program}{g g1 g2:G}(h:wQ P g g1)(h':wQ P g1 g2):wQ P g g2:=fun X ν a w hs=>
 let ⟨ν1,h1⟩:=h X ν a w hs
 h' X ν1 a w h1
theorem YS{P:Program}{ops:Array Oper}{os:List Oper}{g g':G}{K:G→Prop}(hw:wQ P g g')(h:WO P ops os g' K):WO P ops os g K:=fun i hi X ν a w Q hs hn=>
 let ⟨ν',hs'⟩:=hw X ν a w hs
 h i hi X ν' a w Q hs' hn
def tm(E:Env)(m:Option (List Ky))(gs:Option Nat)(o:Oper)(g:G)(rest:sH→Option (List Ky)→G→Prop):Prop:=
 (∃R δ,mQ E.P o g R δ∧rest .on (n9 m (pZ (wD gs R) δ)) (g.app δ)) ∨
 (m=none∧gs=none∧∃g',wQ E.P g g'∧∃R δ,mQ E.P o g' R δ∧rest .on none (g'.app δ))
theorem hY{E:Env}{m:Option (List Ky)}{gs:Option Nat}{o:Oper}{g:G}{rest:sH→Option (List Ky)→G→Prop}{R:Rd}{δ:Dl}(h:mQ E.P o g R δ)(hr:rest .on (n9 m (pZ (wD gs R) δ)) (g.app δ)):tm E m gs o g rest:=.inl ⟨R,δ,h,hr⟩
def Pf(E:Env)(m:Option (List Ky))(gs:Option Nat)(o:Oper)(g:G)(rest:sH→Option (List Ky)→G→Prop):DZ→Prop
 | .go R δ=>rest .on (n9 m (pZ (wD gs R) δ)) (g.app δ)
 | .qS φ R δ=>φ∧rest .on (n9 m (pZ (wD gs R) δ)) (g.app δ)
 | .stop=>tm E m gs o g rest
theorem rv{E:Env}{m:Option (List Ky)}{gs:Option Nat}{o:Oper}{g:G}{rest:sH→Option (List Ky)→G→Prop}(h:Pf E m gs o g rest (stp E g o)):tm E m gs o g rest:=by
 have hk:=ah5 (E:=E) (g:=g) o;generalize stp E g o=s at h hk;cases s with
 | go R δ=>exact .inl ⟨R,δ,hk,h⟩
 | qS φ R δ=>exact .inl ⟨R,δ,hk h.1,h.2⟩
 | stop=>exact h
def aid(E:Env)(m:Option (List Ky))(t:Nat)(o:Oper)(g:G)(rest:sH→Option (List Ky)→G→Prop):sH→Prop
 | .on=>Pf E m (some t) o g rest (stp E g o)
 | .off=>False
def acq(m:Option (List Ky))(t:Nat)(g:G)(rest:sH→Option (List Ky)→G→Prop):Option Nat→sH→Prop
 | some d,.on=>rest .on (n9 m ⟨[t],[],[d],[]⟩) (g.app ⟨some (d,.undef),[]⟩)
 | _,_=>False
def vR:PV→Bool→(sH→Prop)→(sH→Prop)→Prop
 | .d (.val (.bool c)),true,yes,no=>ifB c yes no
 | .d (.val (.bool c)),false,yes,no=>ifB c no yes
 | .undef,_,_,no=>no .on
 | _,_,_,_=>False
def gsl:List Oper→Nat→Option Nat
 | [],_=>none
 | o::_,0=>o.dst
 | _::os,n+1=>gsl os n
theorem aeE:∀(l:List Oper)(n:Nat),gsl l n=(l[n]?).bind (·.dst)
 | [],n=>by simp[gsl]
 | o::_,0=>rfl
 | _::os,n+1=>by simp[gsl,aeE os n]
def ahV(all:List Oper)(g:G)(K:sH→G→Prop):Option (List Ky)→Prop
 | none=>K .on g
 | some pre=>indep all pre=true∧K .on g
def afI(E:Env)(all:List Oper)(m:Option (List Ky))(o:Oper)(g:G)(rest:sH→Option (List Ky)→G→Prop):Option (Nat×Bool)→Prop
 | none=>Pf E m none o g rest (stp E g o)
 | some (j,b)=>match gsl all j with
   | none=>False
   | some t=>vR (nth g.sl t) b (aid E m t o g rest) (acq m t g rest o.dst)
def run(E:Env)(all:List Oper)(K:sH→G→Prop):List Oper→sH→Option (List Ky)→G→Prop
 | [],.on,m,g=>ahV all g K m
 | o::os,.on,m,g=>afI E all m o g (run E all K os) o.guard
 | [],.off,_,_=>False
 | _::_,.off,_,_=>False
theorem Wv{E:Env}{ops:Array Oper}{K:sH→G→Prop}:∀(os:List Oper)(m:Option (List Ky))(g:G),run E ops.toList K os .on m g→WM E.P ops m os g (K .on)
 | [],none,g,h=>D6 h
 | [],some pre,g,h=>ahS h.1 h.2
 | o::os,m,g,h=>by
  have ih:=Wv (E:=E) (ops:=ops) (K:=K) os;simp only[run] at h;cases hg:o.guard with
  | none=>rw[hg] at h;rcases rv h with⟨R,δ,h1,h2⟩|⟨rfl,_,g',hw,R,δ,h1,h2⟩;exact Kj (D2.plain hg h1) (ih _ _ h2);exact YS hw (w5 (D2.plain hg h1) (ih _ _ h2))
  | some jb=>
   obtain⟨j,b⟩:=jb;rw[hg] at h;simp only[afI] at h;split at h;exact h.elim;rename_i t ht;have hj:It ops j=some t:=(by rw[aeE] at ht;unfold It;rw[←ht];simp);have hyes:∀c,nth g.sl t= .d (.val (.bool c))→c=b→aid E m t o g (run E ops.toList K os) .on→WM E.P ops m (o::os) g (K .on):=(by intro c hc hcb hd;subst hcb;rcases rv hd with⟨R,δ,h1,h2⟩|⟨_,h0,_⟩;rotate_left;cases h0;exact Kj (D2.run hg hj hc h1) (ih _ _ h2));have hno:∀c,nth g.sl t= .d (.val (.bool c))→c≠b→acq m t g (run E ops.toList K os) o.dst .on→WM E.P ops m (o::os) g (K .on):=by
    intro c hc hcb hd;cases hdst:o.dst with
    | none=>rw[hdst] at hd;exact hd.elim
    | some d=>rw[hdst] at hd;exact Kj (D2.skip hg hj hc hcb hdst) (ih _ _ hd)
   cases hv:nth g.sl t<;>rw[hv] at h<;>first
    | (simp only[vR] at h;done)
    | skip
   ·simp only[vR] at h;cases hdst:o.dst with
    | none=>rw[hdst] at h;exact h.elim
    | some d=>rw[hdst] at h;exact Kj (D2.ajr hg hj hv hdst) (ih _ _ h)
   rename_i x;cases x with
   | str s=>simp only[vR] at h
   | eP s=>simp only[vR] at h
   | val v=>
    cases v<;>first
     | (simp only[vR] at h;done)
     | skip
    rename_i c;cases b with
    | true=>simp only[vR] at h;rcases Cr h with⟨h1,h2⟩|⟨h1,h2⟩;exact hyes c hv h1 h2;exact hno c hv (by rw[h1];simp) h2
    | false=>simp only[vR] at h;rcases Cr h with⟨h1,h2⟩|⟨h1,h2⟩;exact hno c hv (by rw[h1];simp) h2;exact hyes c hv h1 h2
def XY(K:sH→G→Prop)(Q:sH→Ex→G→Prop):sH→Ex→G→Prop
 | .on,.normal,g=>K .on g
 | .on,.exit id,g=>Q .on (.exit id) g
 | .on,.ret,g=>Q .on .ret g
 | .off,_,_=>False
def Mg(id:Nat)(Q:sH→Ex→G→Prop):sH→Ex→G→Prop
 | .on,.normal,g=>Q .on .normal g
 | .on,.exit i,g=>match kV i id with|true=>Q .on .normal g|false=>Q .on (.exit i) g
 | .on,.ret,g=>Q .on .ret g
 | .off,_,_=>False
def ab7(Q:sH→Ex→G→Prop):sH→G→Prop
 | .on,g=>Q .on .normal g
 | .off,_=>False
def acj:PV→(sH→Prop)→(sH→Prop)→Prop
 | .d (.val (.bool b)),x,y=>ifB b x y
 | _,_,_=>False
def aiE(E:Env)(ops:List Oper)(Q:sH→Ex→G→Prop)(g:G):Bool→Prop
 | false=>run E ops (ab7 Q) ops .on none g
 | true=>run E ops (ab7 Q) ops .on (some []) g
def Nv(E:Env)(n0:Nat):Code→sH→G→(sH→Ex→G→Prop)→Prop
 | .skip,.on,g,Q=>Q .on .normal g
 | .exit id,.on,g,Q=>Q .on (.exit id) g
 | .ret,.on,g,Q=>Q .on .ret g
 | .seq a b,.on,g,Q=>Nv E n0 a .on g (XY (fun tok g'=>Nv E n0 b tok g' Q) Q)
 | .cond c x y,.on,g,Q=>acj (g.ev c) (fun tok=>Nv E n0 x tok g Q) (fun tok=>Nv E n0 y tok g Q)
 | .block id c,.on,g,Q=>Nv E n0 c .on g (Mg id Q)
 | .region _ ops dr,.on,g,Q=>aiE E ops.toList Q g dr
 | .loop c,.on,g,Q=>W E.P n0 (.loop c) g (Q .on)
 | _,_,_,_=>False
theorem V3{E:Env}(hm:E.P.follows .mixedOrders=true){n0:Nat}:∀(c:Code)(g:G)(Q:sH→Ex→G→Prop),Nv E n0 c .on g Q→W E.P n0 c g (Q .on):=by
 intro c;induction c with
 | skip=>intro g Q h;exact ahG h
 | exit id=>intro g Q h;exact ahQ h
 | ret=>intro g Q h;exact ajh h
 | seq a b iha ihb=>
  intro g Q h;have:=iha g _ h;refine dD (fun X ν ac w hp hs=>wp_mono (this X ν ac w hp hs) fun e a' w' hl=>?_);cases e with
  | normal=>obtain⟨g',ν',h1,h2⟩:=hl;exact⟨g',ν',ihb g' Q h1,h2⟩
  | exit id=>exact hl
  | ret=>exact hl
  | goto l=>exact hl
  | panic c=>exact hl
  | outgrown=>exact hl
 | cond c x y ihx ihy=>intro g Q h;simp only[Nv] at h;unfold acj at h;split at h;rename_i b hb;refine HB hb (fun hc=>?_) (fun hc=>?_);rcases Cr h with⟨h1,h2⟩|⟨h1,h2⟩;exact ihx g Q h2;rw[hc] at h1;cases h1;rcases Cr h with⟨h1,h2⟩|⟨h1,h2⟩;rw[hc] at h1;cases h1;exact ihy g Q h2;exact h.elim
 | block id c ih=>
  intro g Q h;have:=ih g _ h;refine J5 (fun X ν ac w hp hs=>wp_mono (this X ν ac w hp hs) fun e a' w' hl=>?_);cases e with
  | normal=>exact hl
  | exit i=>obtain⟨g',ν',h1,h2⟩:=hl;refine⟨g',ν',?_,h2⟩;simp only[Mg] at h1;simp only[Hf];split at h1;rename_i he;rw[if_pos (cg he)];exact h1;rename_i he;rw[if_neg (fun e=>by subst e;simp at he)];exact h1
  | ret=>exact hl
  | goto l=>exact hl
  | panic c=>exact hl
  | outgrown=>exact hl
 | region id ops dr=>
  intro g Q h;simp only[Nv] at h;cases dr with
  | false=>exact wh (Wv ops.toList none g h)
  | true=>exact afK hm (Wv ops.toList (some []) g h)
 | loop c _=>intro g Q h;exact h
 | _=>intro g Q h;simp[Nv] at h
end Go.Eng
