/-
  The symbolic layer, sixteenth text: a state seen with less, its owned places under other numbers, a grown slice seen as data.
-/
import Derived.Test.YtphcpjhkeipggaaGreatKBB
import Derived.Laws.BytesArg
import Derived.Laws.Slices
set_option linter.unusedVariables false
set_option linter.unusedSimpArgs false
open Array renaming length_toList→gE
open Bool renaming and_eq_true→ah,false_or→mJ
open Int renaming toNat_natCast→bc
open List renaming getElem?_eq_getElem→af,drop_of_length_le→ak,take_of_length_le→aq,mem_cons→az,mem_append→aO,length_append→aP,map_cons→aV,length_cons→aY,append_assoc→bC,append_nil→bE,getElem?_append_left→bF,cons_append→bI,mem_map→bN,getElem?_append_right→bO,eq_nil_of_length_eq_zero→bR,nil_append→bS,getD→ct,take_append_of_le_length→cI,length_map→cW,take_succ_cons→dv,mem_of_getElem?→dH,getElem?_take→dR,map_nil→dS,nodup_append→dU,length_drop→eG,getElem?_drop→eV,flatten_cons→fw,size_toArray→fx,drop→fB,mem_flatMap→hX,getElem?_map→jx,take_append_drop→jM,map_toArray→jW,set_cons_zero→jX,drop_drop→kH,length_set→kU,map_congr_left→k9,getElem?_set→mq,take→oj
open Nat renaming le_refl→aK,zero_le→bo,mul_le_mul_right→bu,eq_of_beq_eq_true→b7,lt_or_ge→cz,add_mul→dx,zero_add→eu,le_trans→fv,beq→kP,le_mul_of_pos_right→ni
open Option renaming isSome_iff_exists→dA,map_none→eW
namespace Go.Eng
open Go.RowKit
theorem A5{w:World}{ok ok':Nat→Prop}{e:TypeId}{sz:Nat}{v:Value}{xs:List (List D)}{us:List (List Value)}(ho:w.ownsRow 0 e sz v xs.length us.flatten)(hr:de w ok sz xs us)(hB:xs.length≤LB)
 (fy:∀b,zV v=some b→ok' b) (hf:∀b,ok b→b<w.heap.size→ok' b∧w.heap[b]?=w.heap[b]?):jD w ok' (.eC xs) v:=by
 rcases ho.2 with⟨h1,h2⟩|⟨b,cap,cur,h1,_,h2,h3,h4,h5,h6⟩
 ·obtain rfl:=bR h2
  rw[h1];exact .nil
 ·subst h1
  have hr':=hr.frame hf (aK _)
  refine .eC xs us b 0 cap sz (fy b rfl) (sN h2) h3 h4 hB hr'.len hr'.hx hr'.hu (fun j u hu=>?_) hr'.hr
  have hj:j<us.flatten.length:=by rcases cz j us.flatten.length with h' | h';exact h';rw[List.getElem?_eq_none h'] at hu;cases hu
  rw[←h6] at hu
  have hu2:cur.toList[j]?=some u:=by rw[dR] at hu;split at hu;exact hu;cases hu
  have hcur:cur[j]?=some u:=by simpa using hu2
  simp[World.cell?,h2,hcur]
mutual
def T.Kj:T→Option D
 | .fM d=>some d
 | .ref _=>none
 | .own _ xs=>match dP xs with|some ys=>some (.eC ys)|none=>none
def iz:List T→Option (List D)
 | []=>some []
 | t::ts=>match t.Kj,iz ts with|some d,some ds=>some (d::ds)|_,_=>none
def dP:List (List T)→Option (List (List D))
 | []=>some []
 | x::xs=>match iz x,dP xs with|some y,some ys=>some (y::ys)|_,_=>none
end
def Ul:Option En→D→Prop
 | some (.aX _ xs),y=>y= .eC xs
 | some (.gD _ xs),y=>∃ys,dP xs=some ys∧y= .eC ys
 | _,_=>False
section
variable{P:Program}{w:World}{ok ok':Nat→Prop}{ν ν':Nat→Nm}{st st':Nat→Option En}
mutual
theorem mD.data(hf:∀b,ok b→b<w.heap.size→ok' b∧w.heap[b]?=w.heap[b]?):∀(t:T)(v:Value)(F:List Nat)(d:D),t.Kj=some d→mD P w ok ν st t v F→(∀b∈F,ok' b)→jD w ok' d v
 | .fM x,v,F,d,hd,h,_=>by simp only[T.Kj,Option.some.injEq] at hd;simp only[mD] at h;rw[←hd];exact h.1.frame hf (aK _)
 | .ref j,v,F,d,hd,_,_=>by simp[T.Kj] at hd
 | .own e xs,v,F,d,hd,h,hF=>by simp only[T.Kj] at hd;split at hd;rename_i ys hys;obtain rfl:=Option.some.inj hd;simp only[mD] at h;obtain⟨us,F1,h1,h2,h3,h4,rfl⟩:=h;obtain⟨k1,k2,k3⟩:=bP.data hf xs us F1 ys hys h3 (fun b hb=>hF b (aO.2 (.inr hb)));refine A5 (ok:=ok') (by rw[←k2];exact h1) ⟨k1,fun i x hx=>?_,h2,fun i j x u dd vv a1 a2 a3 a4=>(k3 i x u a1 a2).2 j dd vv a3 a4⟩ (by rw[←k2];exact h4) (fun b hb=>hF b (aO.2 (.inl (Gu.2 hb)))) (fun b hb _=>⟨hb,rfl⟩);have hi:i<us.length:=(by rw[k1];exact(List.getElem?_eq_some_iff.1 hx).1);rw[(k3 i x us[i] hx (af hi)).1];exact h2 i _ (af hi);cases hd
theorem bq.data(hf:∀b,ok b→b<w.heap.size→ok' b∧w.heap[b]?=w.heap[b]?):∀(ts:List T)(vs:List Value)(F:List Nat)(ds:List D),iz ts=some ds→bq P w ok ν st ts vs F→(∀b∈F,ok' b)→ds.length=vs.length∧∀(j:Nat)(d:D)(v:Value),ds[j]?=some d→vs[j]?=some v→jD w ok' d v
 | [],[],F,ds,hd,_,_=>by simp only[iz,Option.some.injEq] at hd;rw[←hd];simp
 | [],_::_,F,ds,_,h,_=>by simp[bq] at h
 | _::_,[],F,ds,_,h,_=>by simp[bq] at h
 | t::ts,v::vs,F,ds,hd,h,hF=>by
  simp only[iz] at hd;split at hd
  ·rename_i d' ds' e1 e2;obtain rfl:=Option.some.inj hd;simp only[bq] at h;obtain⟨F1,F2,h1,h2,rfl⟩:=h;have k1:=mD.data hf t v F1 d' e1 h1 fun b hb=>hF b (aO.2 (.inl hb));obtain⟨k2,k3⟩:=bq.data hf ts vs F2 ds' e2 h2 fun b hb=>hF b (aO.2 (.inr hb));refine⟨by simp[k2],fun j d u a1 a2=>?_⟩;cases j with
   | zero=>
    obtain rfl:d'=d:=by simpa using a1
    obtain rfl:v=u:=by simpa using a2
    exact k1
   | succ j=>exact k3 j d u (by simpa using a1) (by simpa using a2)
  cases hd
theorem bP.data(hf:∀b,ok b→b<w.heap.size→ok' b∧w.heap[b]?=w.heap[b]?):∀(xs:List (List T))(us:List (List Value))(F:List Nat)(ys:List (List D)),dP xs=some ys→bP P w ok ν st xs us F→(∀b∈F,ok' b)→us.length=ys.length∧xs.length=ys.length∧∀(i:Nat)(x:List D)(u:List Value),ys[i]?=some x→us[i]?=some u→x.length=u.length∧∀(j:Nat)(d:D)(v:Value),x[j]?=some d→u[j]?=some v→jD w ok' d v
 | [],[],F,ys,hd,_,_=>by simp only[dP,Option.some.injEq] at hd;rw[←hd];simp
 | [],_::_,F,ds,_,h,_=>by simp[bP] at h
 | _::_,[],F,ds,_,h,_=>by simp[bP] at h
 | x::xs,u::us,F,ys,hd,h,hF=>by
  simp only[dP] at hd;split at hd
  ·rename_i y' ys' e1 e2;obtain rfl:=Option.some.inj hd;simp only[bP] at h;obtain⟨F1,F2,h1,h2,rfl⟩:=h;have k1:=bq.data hf x u F1 y' e1 h1 fun b hb=>hF b (aO.2 (.inl hb));obtain⟨k2,k3,k4⟩:=bP.data hf xs us F2 ys' e2 h2 fun b hb=>hF b (aO.2 (.inr hb));refine⟨by simp[k2],by simp[k3],fun i z q a1 a2=>?_⟩;cases i with
   | zero=>
    obtain rfl:y'=z:=by simpa using a1
    obtain rfl:u=q:=by simpa using a2
    exact k1
   | succ i=>exact k4 i z q (by simpa using a1) (by simpa using a2)
  cases hd
end
mutual
theorem mD.still:∀(t:T)(v:Value)(F:List Nat),t.Kj.isSome=true→mD P w ok ν st t v F→mD P w ok ν' st' t v F
 | .fM x,v,F,_,h=>by simpa only[mD] using h
 | .ref j,v,F,hd,_=>by simp[T.Kj] at hd
 | .own e xs,v,F,hd,h=>by simp only[T.Kj] at hd;simp only[mD] at h⊢;obtain⟨us,F1,h1,h2,h3,h4⟩:=h;refine⟨us,F1,h1,h2,bP.still xs us F1 ?_ h3,h4⟩;split at hd;rename_i e;rw[e];rfl;cases hd
theorem bq.still:∀(ts:List T)(vs:List Value)(F:List Nat),(iz ts).isSome=true→bq P w ok ν st ts vs F→bq P w ok ν' st' ts vs F
 | [],[],F,_,h=>by simpa only[bq] using h
 | [],_::_,F,_,h=>by simp[bq] at h
 | _::_,[],F,_,h=>by simp[bq] at h
 | t::ts,v::vs,F,hd,h=>by simp only[iz] at hd;simp only[bq] at h⊢;obtain⟨F1,F2,h1,h2,h3⟩:=h;split at hd;rename_i e1 e2;exact⟨F1,F2,mD.still t v F1 (by rw[e1];rfl) h1,bq.still ts vs F2 (by rw[e2];rfl) h2,h3⟩;cases hd
theorem bP.still:∀(xs:List (List T))(us:List (List Value))(F:List Nat),(dP xs).isSome=true→bP P w ok ν st xs us F→bP P w ok ν' st' xs us F
 | [],[],F,_,h=>by simpa only[bP] using h
 | [],_::_,F,_,h=>by simp[bP] at h
 | _::_,[],F,_,h=>by simp[bP] at h
 | x::xs,u::us,F,hd,h=>by simp only[dP] at hd;simp only[bP] at h⊢;obtain⟨F1,F2,h1,h2,h3⟩:=h;split at hd;rename_i e1 e2;exact⟨F1,F2,bq.still x u F1 (by rw[e1];rfl) h1,bP.still xs us F2 (by rw[e2];rfl) h2,h3⟩;cases hd
end
def lift(xs:List (List D)):List (List T):=xs.map fun x=>x.map T.fM
theorem C6:∀(x:List D),iz (x.map T.fM)=some x
 | []=>rfl
 | d::x=>by simp[iz,T.Kj,C6 x]
theorem o9:∀(xs:List (List D)),dP (lift xs)=some xs
 | []=>rfl
 | x::xs=>by have:=o9 xs;simp only[lift] at this;simp[lift,dP,C6,this]
theorem bq.FL:∀{ds:List D}{vs:List Value},vs.length=ds.length→(∀(j:Nat)(d:D)(v:Value),ds[j]?=some d→vs[j]?=some v→jD w ok d v)→bq P w ok ν st (ds.map T.fM) vs []
 | [],[],_,_=>by simp[bq]
 | d::ds,v::vs,hl,h=>by simp only[aV,bq,mD];exact⟨[],[],⟨h 0 d v rfl rfl,rfl⟩,bq.FL (by simpa using hl) fun j d v a1 a2=>h (j+1) d v (by simpa using a1) (by simpa using a2),rfl⟩
 | [],_::_,hl,_=>by simp at hl
 | _::_,[],hl,_=>by simp at hl
theorem bP.FL{sz:Nat}:∀{xs:List (List D)}{us:List (List Value)},de w ok sz xs us→bP P w ok ν st (lift xs) us []
 | [],[],_=>by simp[lift,bP]
 | x::xs,u::us,h=>by simp only[lift,aV,bP];refine⟨[],[],bq.FL ?_ fun j d v a1 a2=>h.hr 0 j x u d v rfl rfl a1 a2,bP.FL (sz:=sz) (xs:=xs) ⟨by simpa using h.len,fun i x hx=>h.hx (i+1) x (by simpa using hx),fun i u hu=>h.hu (i+1) u (by simpa using hu),fun i j x u d v a1 a2 a3 a4=>h.hr (i+1) j x u d v (by simpa using a1) (by simpa using a2) a3 a4⟩,rfl⟩;rw[h.hu 0 u rfl,h.hx 0 x rfl]
 | [],_::_,h=>by have:=h.len;simp at this
 | _::_,[],h=>by have:=h.len;simp at this
theorem vq(xs:List (List D)):(lift xs).length=xs.length:=by simp[lift]
end
def jj:List (Option Nat)→Nat→Option (Option Nat)
 | [],_=>none
 | a::_,0=>some a
 | _::as,n+1=>jj as n
def IC(k:Nat):List (Option Nat)→Bool
 | []=>false
 | some j::r=>k == j||IC k r
 | none::r=>IC k r
def agT:List (Option Nat)→Bool
 | []=>true
 | some j::r=>!IC j r&&agT r
 | none::r=>agT r
mutual
def wk(g:G)(m:List (Option Nat)):PV→PV→Prop
 | p,.any=>True
 | .bW,.bW=>True
 | .undef,.undef=>True
 | .bW,.d y=>y= .eC []
 | .bW,.aX k'=>jj m k'=some none
 | .d x,.d y=>x=y
 | .aX k,.d y=>Ul (g.at k) y∧IC k m=false
 | .aX k,.aX k'=>jj m k'=some (some k)
 | .bA k off,.bA k' off'=>jj m k'=some (some k)∧off=off'
 | .jg k i off sz,.jg k' i' off' sz'=>jj m k'=some (some k)∧i=i'∧off=off'∧sz=sz'
 | .ib xs i off,.ib ys j off'=>xs=ys∧i=j∧off=off'
 | .agg cs,.agg ds=>CR g m cs ds
 | .iZ cs,.iZ ds=>CR g m cs ds
 | .fn f cs,.fn f' ds=>f=f'∧CR g m cs ds
 | _,_=>False
def CR(g:G)(m:List (Option Nat)):List PV→List PV→Prop
 | [],[]=>True
 | p::ps,q::qs=>wk g m p q∧CR g m ps qs
 | _,_=>False
end
def FU(g:G)(m:List (Option Nat)):En→En→Prop
 | _,.dead=>True
 | .box cs,.box ds=>CR g m cs ds
 | .aX e xs,.aX e' ys=>e=e'∧xs=ys
 | .aX e xs,.gD e' ys=>e=e'∧lift xs=ys
 | .gD e xs,.gD e' ys=>e=e'∧xs=ys∧(dP xs).isSome=true
 | .map wu,.map kvs'=>wu=kvs'
 | _,_=>False
def nd(g:G)(m:List (Option Nat)):List (Option Nat)→List (Option En)→Prop
 | [],[]=>True
 | some k::ks,some e'::es=>(∃e,g.at k=some e∧FU g m e e')∧nd g m ks es
 | none::ks,some (.aX _ xs)::es=>xs=[]∧nd g m ks es
 | none::ks,some (.gD _ xs)::es=>xs=[]∧nd g m ks es
 | _,_=>False
def keeps:Nat→Nat→List (Option Nat)→Bool
 | 0,_,_=>true
 | n+1,i,some j::r=>i == j&&keeps n (i+1) r
 | _,_,_=>false
def Ub(k:Nat):List (Option Nat)→List (Option En)→Bool
 | some j::r,some e::es=>(e.live&&k == j)||Ub k r es
 | _::r,_::es=>Ub k r es
 | _,_=>false
def AA:List (Option Nat)→List (Option En)→Bool
 | some j::r,some e::es=>(!e.live|| !Ub j r es)&&AA r es
 | _::r,_::es=>AA r es
 | _,_=>true
structure Wk(n0:Nat)(m:List (Option Nat))(g g':G):Prop where
 s:CR g m g.sl g'.sl
 p:nd g m m g'.st
 nod:AA m g'.st=true
 keep:keeps n0 0 m=true
theorem OA:∀{m:List (Option Nat)}{i k:Nat},jj m i=some (some k)→IC k m=true
 | [],_,_,h=>by simp[jj] at h
 | a::as,0,k,h=>by simp only[jj,Option.some.injEq] at h;subst h;simp[IC]
 | a::as,n+1,k,h=>by simp only[jj] at h;have:=OA h;cases a<;>simp[IC,this]
theorem P2:∀{m:List (Option Nat)}{es:List (Option En)}{i k:Nat}{e:En},jj m i=some (some k)→dV es i=some e→e.live=true→Ub k m es=true
 | [],_,_,_,_,h,_,_=>by simp[jj] at h
 | _::_,[],i,_,_,_,h,_=>by cases i<;>simp[dV] at h
 | a::as,o::os,0,k,e,h,h2,h3=>by simp only[jj,Option.some.injEq] at h;simp only[dV] at h2;subst h h2;simp[Ub,h3]
 | a::as,o::os,i+1,k,e,h,h2,h3=>by simp only[jj] at h;simp only[dV] at h2;have:=P2 h h2 h3;cases a<;>cases o<;>simp[Ub,this]
theorem O2:∀{m:List (Option Nat)}{es:List (Option En)},AA m es=true→∀{i j k:Nat}{e e':En},jj m i=some (some k)→jj m j=some (some k)→dV es i=some e→dV es j=some e'→e.live=true→e'.live=true→i=j
 | [],_,_,_,_,_,_,_,h,_,_,_,_,_=>by simp[jj] at h
 | _::_,[],_,i,_,_,_,_,_,_,h,_,_,_=>by cases i<;>simp[dV] at h
 | a::as,o::os,hn,0,0,_,_,_,_,_,_,_,_,_=>rfl
 | a::as,o::os,hn,0,j+1,k,e,e',h1,h2,g1,g2,l1,l2=>by simp only[jj,Option.some.injEq] at h1 h2;simp only[dV] at g1 g2;subst h1 g1;have:=P2 h2 g2 l2;simp[AA,this,l1] at hn
 | a::as,o::os,hn,i+1,0,k,e,e',h1,h2,g1,g2,l1,l2=>by simp only[jj,Option.some.injEq] at h1 h2;simp only[dV] at g1 g2;subst h2 g2;have:=P2 h1 g1 l1;simp[AA,this,l2] at hn
 | a::as,o::os,hn,i+1,j+1,k,e,e',h1,h2,g1,g2,l1,l2=>by
  simp only[jj] at h1 h2;simp only[dV] at g1 g2;have hn':AA as os=true:=by cases a<;>cases o<;>simp only[AA,ah] at hn<;>first|exact hn|exact hn.2
  rw[O2 hn' h1 h2 g1 g2 l1 l2]
theorem KW:∀{n i:Nat}{m:List (Option Nat)},keeps n i m=true→∀j,j<n→jj m j=some (some (i+j))
 | 0,_,_,_,j,h=>by omega
 | n+1,i,[],h,_,_=>by simp[keeps] at h
 | n+1,i,none::r,h,_,_=>by simp[keeps] at h
 | n+1,i,some a::r,h,j,hj=>by
  simp only[keeps,ah,beq_iff_eq] at h;obtain⟨rfl,h2⟩:=h;cases j with
  | zero=>rfl
  | succ j=>simp only[jj];rw[KW h2 j oM];congr 2;omega
theorem JG{g:G}{m:List (Option Nat)}:∀{ks:List (Option Nat)}{es:List (Option En)},nd g m ks es→∀(i:Nat)(e':En),dV es i=some e' →
 (∃k e,jj ks i=some (some k)∧g.at k=some e∧FU g m e e')∨(jj ks i=some none∧∃t,e'= .aX t []∨e'= .gD t [])
 | [],[],_,i,e',h=>by cases i<;>simp[dV] at h
 | some k::ks,some e::es,hw,0,e',h=>by
  simp only[nd] at hw;obtain⟨⟨e0,h1,h2⟩,_⟩:=hw;obtain rfl:e=e':=by simpa[dV] using h
  exact .inl ⟨k,e0,rfl,h1,h2⟩
 | some k::ks,some e::es,hw,i+1,e',h=>by simp only[nd] at hw;simp only[jj];exact JG hw.2 i e' (by simpa[dV] using h)
 | none::ks,some (.aX t xs)::es,hw,0,e',h=>by
  simp only[nd] at hw;obtain rfl:En.aX t xs=e':=by simpa[dV] using h
  exact .inr ⟨rfl,t,.inl (by rw[hw.1])⟩
 | none::ks,some (.aX t xs)::es,hw,i+1,e',h=>by simp only[nd] at hw;simp only[jj];exact JG hw.2 i e' (by simpa[dV] using h)
 | none::ks,some (.gD t xs)::es,hw,0,e',h=>by
  simp only[nd] at hw;obtain rfl:En.gD t xs=e':=by simpa[dV] using h
  exact .inr ⟨rfl,t,.inr (by rw[hw.1])⟩
 | none::ks,some (.gD t xs)::es,hw,i+1,e',h=>by simp only[nd] at hw;simp only[jj];exact JG hw.2 i e' (by simpa[dV] using h)
 | none::ks,some (.box _)::es,hw,_,_,_=>by simp[nd] at hw
 | none::ks,some .dead::es,hw,_,_,_=>by simp[nd] at hw
 | none::ks,some (.map _)::es,hw,_,_,_=>by simp[nd] at hw
 | some k::ks,none::es,hw,_,_,_=>by simp[nd] at hw
 | none::ks,none::es,hw,_,_,_=>by simp[nd] at hw
 | some k::ks,[],hw,_,_,_=>by simp[nd] at hw
 | none::ks,[],hw,_,_,_=>by simp[nd] at hw
 | [],_::_,hw,_,_,_=>by simp[nd] at hw
theorem B6{g:G}{m:List (Option Nat)}:∀{ks:List (Option Nat)}{es:List (Option En)},nd g m ks es→∀(i:Nat)(x:Option Nat),jj ks i=some x→(dV es i).isSome=true
 | [],[],_,i,x,h=>by simp[jj] at h
 | some k::ks,some e::es,hw,0,x,h=>rfl
 | some k::ks,some e::es,hw,i+1,x,h=>by simp only[nd] at hw;simp only[dV];exact B6 hw.2 i x (by simpa[jj] using h)
 | none::ks,some (.aX t xs)::es,hw,0,x,h=>rfl
 | none::ks,some (.aX t xs)::es,hw,i+1,x,h=>by simp only[nd] at hw;simp only[dV];exact B6 hw.2 i x (by simpa[jj] using h)
 | none::ks,some (.gD t xs)::es,hw,0,x,h=>rfl
 | none::ks,some (.gD t xs)::es,hw,i+1,x,h=>by simp only[nd] at hw;simp only[dV];exact B6 hw.2 i x (by simpa[jj] using h)
 | none::ks,some (.box _)::es,hw,_,_,_=>by simp[nd] at hw
 | none::ks,some .dead::es,hw,_,_,_=>by simp[nd] at hw
 | none::ks,some (.map _)::es,hw,_,_,_=>by simp[nd] at hw
 | some k::ks,none::es,hw,_,_,_=>by simp[nd] at hw
 | none::ks,none::es,hw,_,_,_=>by simp[nd] at hw
 | some k::ks,[],hw,_,_,_=>by simp[nd] at hw
 | none::ks,[],hw,_,_,_=>by simp[nd] at hw
 | [],_::_,hw,_,_,_=>by simp[nd] at hw
def XJ(ν:Nat→Nm)(m:List (Option Nat))(i:Nat):Nm:=
 match jj m i with
 | some (some k)=>ν k
 | _=>⟨.slice none 0 0,[]⟩
theorem mT{ν:Nat→Nm}{m:List (Option Nat)}{i k:Nat}(h:jj m i=some (some k)):XJ ν m i=ν k:=by simp[XJ,h]
theorem pQ{ν:Nat→Nm}{m:List (Option Nat)}{i:Nat}(h:jj m i=some none):XJ ν m i=⟨.slice none 0 0,[]⟩:=by simp[XJ,h]
section
variable{w:World}{ok ok':Nat→Prop}{ν:Nat→Nm}{g:G}{m:List (Option Nat)}{st':Nat→Option En}
mutual
theorem aJ.wk(hf:∀b,ok b→b<w.heap.size→ok' b∧w.heap[b]?=w.heap[b]?)(ld:∀i x,jj m i=some x→(st' i).isSome=true)
 (hacc:∀k y,Ul (g.at k) y→IC k m=false→jD w ok' y (ν k).v) :
 ∀(p q:PV)(v:Value),wk g m p q→aJ w ok ν g.at p v→aJ w ok' (XJ ν m) st' q v
 | p,.any,_,_,_=>by simp[aJ]
 | .bW,.bW,v,_,h=>by simpa[aJ] using h
 | .undef,.undef,v,_,h=>by simpa[aJ] using h
 | .bW,.d y,v,hw,h=>by simp only[Eng.wk] at hw;simp only[aJ] at h⊢;rw[hw,h];exact .nil
 | .bW,.aX k',v,hw,h=>by simp only[Eng.wk] at hw;simp only[aJ] at h⊢;rw[pQ hw];exact⟨ld _ _ hw,h⟩
 | .d x,.d y,v,hw,h=>by simp only[Eng.wk] at hw;simp only[aJ] at h⊢;rw[←hw];exact h.frame hf (aK _)
 | .aX k,.d y,v,hw,h=>by simp only[Eng.wk] at hw;simp only[aJ] at h⊢;rw[h.2];exact hacc k y hw.1 hw.2
 | .aX k,.aX k',v,hw,h=>by simp only[Eng.wk] at hw;simp only[aJ] at h⊢;rw[mT hw];exact⟨ld _ _ hw,h.2⟩
 | .bA k off,.bA k' off',v,hw,h=>by simp only[Eng.wk] at hw;obtain⟨hw,rfl⟩:=hw;simp only[aJ] at h⊢;rw[mT hw];exact⟨ld _ _ hw,h.2⟩
 | .jg k i off sz,.jg k' i' off' sz',v,hw,h=>by simp only[Eng.wk] at hw;obtain⟨hw,rfl,rfl,rfl⟩:=hw;simp only[aJ] at h⊢;rw[mT hw];exact⟨ld _ _ hw,h.2⟩
 | .ib xs i off,.ib ys j off',v,hw,h=>by simp only[Eng.wk] at hw;obtain⟨rfl,rfl,rfl⟩:=hw;simp only[aJ] at h⊢;obtain⟨b,o,cap,h1,h2,h3⟩:=h;exact⟨b,o,cap,h1.frame hf (aK _),h2,h3⟩
 | .agg cs,.agg ds,v,hw,h=>by simp only[Eng.wk] at hw;simp only[aJ] at h⊢;obtain⟨vs,rfl,h⟩:=h;exact⟨vs,rfl,aH.wk hf ld hacc cs ds vs hw h⟩
 | .iZ cs,.iZ ds,v,hw,h=>by simp only[Eng.wk] at hw;simp only[aJ] at h⊢;obtain⟨vs,rfl,h⟩:=h;exact⟨vs,rfl,aH.wk hf ld hacc cs ds vs hw h⟩
 | .fn f cs,.fn f' ds,v,hw,h=>by simp only[Eng.wk] at hw;obtain⟨rfl,hw⟩:=hw;simp only[aJ] at h⊢;obtain⟨vs,rfl,h⟩:=h;exact⟨vs,rfl,aH.wk hf ld hacc cs ds vs hw h⟩
 | .any,.undef,_,hw,_ | .any,.bW,_,hw,_ | .any,.d _,_,hw,_ | .any,.agg _,_,hw,_ | .any,.iZ _,_,hw,_ | .any,.bA _ _,_,hw,_ | .any,.aX _,_,hw,_ | .any,.jg _ _ _ _,_,hw,_ | .any,.ib _ _ _,_,hw,_ | .any,.fn _ _,_,hw,_=>by simp[Eng.wk] at hw
 | .undef,.bW,_,hw,_ | .undef,.d _,_,hw,_ | .undef,.agg _,_,hw,_ | .undef,.iZ _,_,hw,_ | .undef,.bA _ _,_,hw,_ | .undef,.aX _,_,hw,_ | .undef,.jg _ _ _ _,_,hw,_ | .undef,.ib _ _ _,_,hw,_ | .undef,.fn _ _,_,hw,_=>by simp[Eng.wk] at hw
 | .bW,.undef,_,hw,_ | .bW,.agg _,_,hw,_ | .bW,.iZ _,_,hw,_ | .bW,.bA _ _,_,hw,_ | .bW,.jg _ _ _ _,_,hw,_ | .bW,.ib _ _ _,_,hw,_ | .bW,.fn _ _,_,hw,_=>by simp[Eng.wk] at hw
 | .d _,.undef,_,hw,_ | .d _,.bW,_,hw,_ | .d _,.agg _,_,hw,_ | .d _,.iZ _,_,hw,_ | .d _,.bA _ _,_,hw,_ | .d _,.aX _,_,hw,_ | .d _,.jg _ _ _ _,_,hw,_ | .d _,.ib _ _ _,_,hw,_ | .d _,.fn _ _,_,hw,_=>by simp[Eng.wk] at hw
 | .agg _,.undef,_,hw,_ | .agg _,.bW,_,hw,_ | .agg _,.d _,_,hw,_ | .agg _,.iZ _,_,hw,_ | .agg _,.bA _ _,_,hw,_ | .agg _,.aX _,_,hw,_ | .agg _,.jg _ _ _ _,_,hw,_ | .agg _,.ib _ _ _,_,hw,_ | .agg _,.fn _ _,_,hw,_=>by simp[Eng.wk] at hw
 | .iZ _,.undef,_,hw,_ | .iZ _,.bW,_,hw,_ | .iZ _,.agg _,_,hw,_ | .iZ _,.d _,_,hw,_ | .iZ _,.bA _ _,_,hw,_ | .iZ _,.aX _,_,hw,_ | .iZ _,.jg _ _ _ _,_,hw,_ | .iZ _,.ib _ _ _,_,hw,_ | .iZ _,.fn _ _,_,hw,_=>by simp[Eng.wk] at hw
 | .bA _ _,.undef,_,hw,_ | .bA _ _,.bW,_,hw,_ | .bA _ _,.agg _,_,hw,_ | .bA _ _,.d _,_,hw,_ | .bA _ _,.iZ _,_,hw,_ | .bA _ _,.aX _,_,hw,_ | .bA _ _,.jg _ _ _ _,_,hw,_ | .bA _ _,.ib _ _ _,_,hw,_ | .bA _ _,.fn _ _,_,hw,_=>by simp[Eng.wk] at hw
 | .aX _,.undef,_,hw,_ | .aX _,.bW,_,hw,_ | .aX _,.agg _,_,hw,_ | .aX _,.iZ _,_,hw,_ | .aX _,.bA _ _,_,hw,_ | .aX _,.jg _ _ _ _,_,hw,_ | .aX _,.ib _ _ _,_,hw,_ | .aX _,.fn _ _,_,hw,_=>by simp[Eng.wk] at hw
 | .jg _ _ _ _,.undef,_,hw,_ | .jg _ _ _ _,.bW,_,hw,_ | .jg _ _ _ _,.agg _,_,hw,_ | .jg _ _ _ _,.d _,_,hw,_ | .jg _ _ _ _,.iZ _,_,hw,_ | .jg _ _ _ _,.bA _ _,_,hw,_ | .jg _ _ _ _,.aX _,_,hw,_ | .jg _ _ _ _,.ib _ _ _,_,hw,_ | .jg _ _ _ _,.fn _ _,_,hw,_=>by simp[Eng.wk] at hw
 | .ib _ _ _,.undef,_,hw,_ | .ib _ _ _,.bW,_,hw,_ | .ib _ _ _,.agg _,_,hw,_ | .ib _ _ _,.d _,_,hw,_ | .ib _ _ _,.iZ _,_,hw,_ | .ib _ _ _,.bA _ _,_,hw,_ | .ib _ _ _,.aX _,_,hw,_ | .ib _ _ _,.jg _ _ _ _,_,hw,_ | .ib _ _ _,.fn _ _,_,hw,_=>by simp[Eng.wk] at hw
 | .fn _ _,.undef,_,hw,_ | .fn _ _,.bW,_,hw,_ | .fn _ _,.agg _,_,hw,_ | .fn _ _,.d _,_,hw,_ | .fn _ _,.iZ _,_,hw,_ | .fn _ _,.bA _ _,_,hw,_ | .fn _ _,.aX _,_,hw,_ | .fn _ _,.jg _ _ _ _,_,hw,_ | .fn _ _,.ib _ _ _,_,hw,_=>by simp[Eng.wk] at hw
theorem aH.wk(hf:∀b,ok b→b<w.heap.size→ok' b∧w.heap[b]?=w.heap[b]?)(ld:∀i x,jj m i=some x→(st' i).isSome=true)
 (hacc:∀k y,Ul (g.at k) y→IC k m=false→jD w ok' y (ν k).v) :
 ∀(ps qs:List PV)(vs:List Value),CR g m ps qs→aH w ok ν g.at ps vs→aH w ok' (XJ ν m) st' qs vs
 | [],[],vs,_,h=>by cases vs<;>simp[aH] at h⊢
 | p::ps,q::qs,[],_,h=>by simp[aH] at h
 | p::ps,q::qs,v::vs,hw,h=>by simp only[CR] at hw;simp only[aH] at h⊢;exact⟨aJ.wk hf ld hacc p q v hw.1 h.1,aH.wk hf ld hacc ps qs vs hw.2 h.2⟩
 | [],_::_,_,hw,_=>by simp[CR] at hw
 | _::_,[],_,hw,_=>by simp[CR] at hw
end
end
theorem WX:∀{g:G}{m:List (Option Nat)}{ps qs:List PV},CR g m ps qs→ps.length=qs.length
 | _,_,[],[],_=>rfl
 | _,_,p::ps,q::qs,h=>by simp only[CR] at h;simp[WX h.2]
 | _,_,[],_::_,h=>by simp[CR] at h
 | _,_,_::_,[],h=>by simp[CR] at h
theorem XF{w:World}{ok:Nat→Prop}{ν ν':Nat→Nm}{g:G}{m:List (Option Nat)}{st':Nat→Option En}{ok':Nat→Prop}(hv:∀(p q:PV)(v:Value),wk g m p q→aJ w ok ν g.at p v→aJ w ok' ν' st' q v) :
 ∀{ps qs:List PV},CR g m ps qs→∀(t:Nat)(v:Value),aJ w ok ν g.at (nth ps t) v→aJ w ok' ν' st' (nth qs t) v
 | [],[],_,t,v,_=>by simp[nth,aJ]
 | p::ps,q::qs,h,0,v,hr=>by simp only[CR] at h;simp only[nth] at hr⊢;exact hv p q v h.1 hr
 | p::ps,q::qs,h,t+1,v,hr=>by simp only[CR] at h;simp only[nth] at hr⊢;exact XF hv h.2 t v hr
 | [],_::_,h,_,_,_=>by simp[CR] at h
 | _::_,[],h,_,_,_=>by simp[CR] at h
theorem Qv{P:Program}{n0:Nat}{m:List (Option Nat)}{g g':G}(h:Wk n0 m g g'):pS P n0 g g':=by
 intro X ν a w hp hs;refine⟨XJ ν m,?_⟩;have ld:∀i x,jj m i=some x→(g'.at i).isSome=true:=fun i x hx=>B6 h.p i x hx;have np:=fun i e' he=>JG h.p i e' he;have wi:∀e e',FU g m e e'→e'.live=true→e.live=true:=by
  intro e e' hw hl;cases e' with
  | dead=>cases hl
  | box ds=>cases e<;>first|rfl|(simp[FU] at hw)
  | aX t ys=>cases e<;>first|rfl|(simp[FU] at hw)
  | gD t ys=>cases e<;>first|rfl|(simp[FU] at hw)
  | map wu=>cases e<;>first|rfl|(simp[FU] at hw)
 have howned:∀b,Own (XJ ν m) g'.at b→∃i k e,jj m i=some (some k)∧g.at k=some e∧e.live=true∧(ν k).has b:=by
  rintro b ⟨i,e',h1,h2,h3⟩;rcases np i e' h1 with⟨k,e,k1,k2,k3⟩|⟨k1,t,rfl|rfl⟩;rw[mT k1] at h3;exact⟨i,k,e,k1,k2,wi e e' k3 h2,h3⟩;all_goals
   rw[pQ k1] at h3
   simp[Nm.has,zV] at h3
 have o4:∀b,Own (XJ ν m) g'.at b→Own ν g.at b:=fun b hb=>by obtain⟨i,k,e,k1,k2,k3,k4⟩:=howned b hb;exact⟨k,e,k2,k3,k4⟩
 have hf:∀b,dk X ν g.at b→b<w.heap.size→dk X (XJ ν m) g'.at b∧w.heap[b]?=w.heap[b]?:=fun b hb _=>⟨⟨fun ho=>hb.1 (o4 b ho),hb.2⟩,rfl⟩;have hfr:∀k e,g.at k=some e→e.live=true→IC k m=false→∀b,(ν k).has b→dk X (XJ ν m) g'.at b:=by intro k e hk hl hm b hb;have jU:Own ν g.at b:=⟨k,_,hk,hl,hb⟩;refine⟨fun ho=>?_,hs.PG jU⟩;obtain⟨i,k',e',k1,k2,k3,k4⟩:=howned b ho;have:=hs.inj k k' _ _ b hk k2 hl k3 hb k4;subst this;rw[OA k1] at hm;cases hm
 have hacc:∀k y,Ul (g.at k) y→IC k m=false→jD w (dk X (XJ ν m) g'.at) y (ν k).v:=by
  intro k y hk hm;cases hgk:g.at k with
  | none=>rw[hgk] at hk;exact hk.elim
  | some e=>
   rw[hgk] at hk;cases e with
   | box cs=>exact hk.elim
   | dead=>exact hk.elim
   | map wu=>exact hk.elim
   | aX e xs=>simp only[Ul] at hk;rw[hk];obtain⟨us,h1,h2,h3,h4⟩:=hs.en k _ hgk;exact A5 h1 h2 h3 (fun b hb=>hfr k _ hgk rfl hm b (.inl hb)) hf
   | gD e xs=>simp only[Ul] at hk;obtain⟨ys,h1,rfl⟩:=hk;have hen:=hs.en k _ hgk;exact mD.data hf (.own e xs) _ _ _ (by simp only[T.Kj,h1]) hen.1 fun b hb=>hfr k _ hgk rfl hm b (qJ.2 hb)
 have qI:=fun p q v=>aJ.wk (w:=w) (ok:=dk X ν g.at) (ok':=dk X (XJ ν m) g'.at) (ν:=ν) (g:=g) (m:=m) (st':=g'.at) hf ld hacc p q v;have hreps:=fun ps qs vs=>aH.wk (w:=w) (ok:=dk X ν g.at) (ok':=dk X (XJ ν m) g'.at) (ν:=ν) (g:=g) (m:=m) (st':=g'.at) hf ld hacc ps qs vs;refine⟨by rw[hs.size,WX h.s],fun t=>?_,fun i e' he=>?_,fun i j e e' b h1 h2 h3 h4 h5 h6=>?_,fun b hb=>hs.base b (o4 b hb),fun i hi=>?_,fun i hi=>?_,hs.Jy,hs.Da,hs.defs⟩;exact XF qI h.s t _ (hs.sl t)
 ·rcases np i e' he with⟨k,e,k1,k2,k3⟩|⟨k1,t,rfl|rfl⟩
  ·have hen:=hs.en k e k2;cases e' with
   | dead=>trivial
   | box ds=>
    cases e with
    | box cs=>obtain⟨b,vs,T,q1,q2,q3,q4⟩:=hen;simp only[FU] at k3;simp only[mS,mT k1];exact⟨b,vs,T,q1,q2,hreps cs ds vs k3 q3,q4⟩
    | aX t xs=>simp[FU] at k3
    | gD t xs=>simp[FU] at k3
    | dead=>simp[FU] at k3
    | map wu=>simp[FU] at k3
   | aX t ys=>
    cases e with
    | aX t' xs=>simp only[FU] at k3;obtain⟨rfl,rfl⟩:=k3;obtain⟨us,q1,q2,q3⟩:=hen;simp only[mS,mT k1];exact⟨us,q1,q2.frame hf (aK _),q3⟩
    | box cs=>simp[FU] at k3
    | dead=>simp[FU] at k3
    | map wu=>simp[FU] at k3
    | gD t xs=>simp[FU] at k3
   | gD t ys=>
    cases e with
    | aX t' xs=>simp only[FU] at k3;obtain⟨rfl,rfl⟩:=k3;obtain⟨us,q1,q2,q3,q4⟩:=hen;simp only[mS,mD,mT k1,q4,vq,bE];refine⟨⟨us,[],q1,q2.hu,bP.FL (q2.frame hf (aK _)),q3,by simp⟩,?_⟩;unfold hb;split<;>simp
    | gD t' xs=>simp only[FU] at k3;obtain⟨rfl,rfl,k4⟩:=k3;simp only[mS,mT k1];refine⟨mD.still (.own t' xs) _ _ ?_ (mD.frame hf (aK _) (nH.refl _ _) _ _ _ hen.1 fun _ _=>rfl),hen.2⟩;simp only[T.Kj];obtain⟨zs,hz⟩:=dA.1 k4;rw[hz];rfl
    | box cs=>simp[FU] at k3
    | dead=>simp[FU] at k3
    | map wu=>simp[FU] at k3
   | map kvs'=>
    cases e with
    | map wu=>simp only[FU] at k3;subst k3;simp only[mS,mT k1] at hen⊢;exact hen
    | box cs=>simp[FU] at k3
    | aX t xs=>simp[FU] at k3
    | gD t xs=>simp[FU] at k3
    | dead=>simp[FU] at k3
  simp only[mS,pQ k1];exact⟨[],⟨by simp,.inl ⟨rfl,rfl⟩⟩,de.nil _ _ _,by simp,trivial⟩;simp only[mS,pQ k1,mD];exact⟨⟨[],[],⟨by simp,.inl ⟨rfl,rfl⟩⟩,by simp,by simp[bP],by simp,rfl⟩,by simp[hb,zV]⟩
 rcases np i e h1 with⟨k,e1,k1,k2,k3⟩|⟨k1,t,rfl|rfl⟩;rcases np j e' h2 with⟨l,e2,l1,l2,l3⟩|⟨l1,t,rfl|rfl⟩;rw[mT k1] at h5;rw[mT l1] at h6;have:=hs.inj k l e1 e2 b k2 l2 (wi _ _ k3 h3) (wi _ _ l3 h4) h5 h6;subst this;exact O2 h.nod k1 l1 h1 h2 h3 h4;rw[pQ l1] at h6;simp[Nm.has,zV] at h6;rw[pQ l1] at h6;simp[Nm.has,zV] at h6;rw[pQ k1] at h5;simp[Nm.has,zV] at h5;rw[pQ k1] at h5;simp[Nm.has,zV] at h5;obtain⟨e',he⟩:=dA.1 hi;rcases np i e' he with⟨k,e,k1,k2,k3⟩|⟨k1,t,rfl|rfl⟩;rw[mT k1];exact hs.nu k (by rw[k2];rfl);rw[pQ k1];rfl;rw[pQ k1];rfl;have nS:=hp i hi;have hl:=KW h.keep i nS;rw[eu] at hl;exact⟨by rw[mT hl];exact(hs.par i hi).1,ld i _ hl⟩
end Go.Eng
namespace Go.Eng
open Go.RowKit
theorem Sat.abY{P:Program}{X:Cx}{ν:Nat→Nm}{g:G}{a:Act}{w w':World}(h:Sat P X ν g a w)(uX:vg (fun _=>False) w w')(d:Nat)(p:PV)(v:Value)
 (hv:(∀b,w.heap.size≤b→dk X ν g.at b)→(∀b,dk X ν g.at b→b<w.heap.size→dk X ν g.at b∧w'.heap[b]?=w.heap[b]?)→aJ w' (dk X ν g.at) ν g.at p v) :
 Sat P X ν ⟨n8 g.sl d p,g.st⟩ (a.put (some d) v) w':=by
 have hfree:∀b,w.heap.size≤b→dk X ν g.at b:=fun b hb=>⟨fun ho=>by have:=h.lt ho;omega,fun hz=>by have:=(h.Jy b hz).1;have:=h.Da.size;omega⟩
 have hsame:∀b,dk X ν g.at b→b<w.heap.size→dk X ν g.at b∧w'.heap[b]?=w.heap[b]?:=fun b hb nS=>⟨hb,uX.block b nS (fun hf=>hf)⟩
 refine h.upd (g':=⟨n8 g.sl d p,g.st⟩) (fun _=>False) uX (fun _ hb=>hb.elim) (nH.refl _ _) (fun k e he=>.inl ⟨he,rfl,fun _ _ _ hb=>hb⟩) (fun k e b he hl hb=>.inl ⟨k,e,he,hl,hb⟩) ?_ (fun k hk=>.inl hk) ?_ ?_ rfl
 ·intro k k' e e' b h1 h2 h3 h4 h5 h6
  exact h.inj k k' e e' b h1 h2 h3 h4 h5 h6
 ·simp[size_put,lq,h.size]
 ·intro t
  simp only[v7,pM,h.size]
  by_cases hc:t=d∧d<g.sl.length
  ·simp only[hc,and_self,if_true]
   exact .inr (hv hfree hsame)
  ·simp only[hc,if_false]
   exact .inl ⟨trivial,trivial⟩
theorem NL(off:Nat):∀(l:List Value)(n:Nat)(cells:Array Value)(k:Nat),off+n+l.length≤cells.size →
 ((l.zipIdx n).foldl (fun cs (x:Value×Nat)=>cs.setIfInBounds (off+x.2) x.1) cells)[k]?=if off+n≤k∧k<off+n+l.length then l[k-(off+n)]? else cells[k]?
 | [],n,cells,k,_=>by have:¬ (off+n≤k∧k<off+n+0):=oM;simp;intro h1 h2;omega
 | c::l,n,cells,k,hl=>by simp only[List.zipIdx_cons,List.foldl_cons];simp only[aY] at hl;rw[NL off l (n+1) _ k (by simp;omega)];by_cases h1:off+(n+1)≤k∧k<off+(n+1)+l.length;rw[if_pos h1,if_pos (by simp only[aY];omega)];have:k-(off+n)=(k-(off+(n+1)))+1:=oM;rw[this];simp;rw[if_neg h1];by_cases h2:k=off+n;subst h2;have nS:off+n<cells.size:=oM;rw[if_pos (by simp only[aY];omega)];simp[nS];rw[if_neg (by simp only[aY];omega)];simp[Array.getElem?_setIfInBounds,show ¬off+n=k from fun e=>h2 e.symm]
theorem SM(off:Nat)(l:List Value)(cells:Array Value)(hl:off+l.length≤cells.size) :
 (l.zipIdx.foldl (fun cs (x:Value×Nat)=>cs.setIfInBounds (off+x.2) x.1) cells).toList=cells.toList.take off++(l++cells.toList.drop (off+l.length)):=by
 apply List.ext_getElem?
 intro k
 have h:=NL off l 0 cells k oM
 simp only[Nat.add_zero] at h
 rw[Array.getElem?_toList,h]
 by_cases h1:k<off
 ·rw[if_neg oM,bF (by simp;omega),dR,if_pos h1]
  simp
 ·rw[bO (by simp;omega)]
  have e:(oj off cells.toList).length=off:=by simp;omega
  rw[e]
  by_cases h2:k<off+l.length
  ·rw[if_pos oM,bF oM]
  ·rw[if_neg oM,bO oM,eV]
   have:off+l.length+(k-off-l.length)=k:=oM
   rw[this];simp
def K4(places:List (Nat×Nat))(cs:List PV):List (Nat×PV)→Option (List PV)
 | []=>some cs
 | (i,p)::rest=>
   match places[i]? with
   | none=>none
   | some (off,sz)=>if p.whole=true∧(fJ p).length=sz∧off+sz≤cs.length then K4 places (DR cs off (fJ p)) rest else none
theorem R8{w:World}{ok:Nat→Prop}{ν:Nat→Nm}{st:Nat→Option En}(hν:∀k,(st k).isSome=true→(ν k).v.oneCell'=true)(places:List (Nat×Nat))(ev:Operand→PV)(ρ:Operand→Value)(hev:∀x,aJ w ok ν st (ev x) (ρ x)) :
 ∀(ps:List (Nat×Operand))(cs:List PV)(cells:Array Value)(r:List PV),aH w ok ν st cs cells.toList→K4 places cs (ps.map fun x=>(x.1,ev x.2))=some r →
 ∃cells',Instr.fill (places.toArray[·]?) cells (ps.map fun x=>(x.1,ρ x.2))=some cells'∧aH w ok ν st r cells'.toList
 | [],cs,cells,r,h,hr=>by simp only[dS,K4,Option.some.injEq] at hr;subst hr;exact⟨cells,rfl,h⟩
 | (i,x)::ps,cs,cells,r,h,hr=>by simp only[aV,K4] at hr;split at hr;cases hr;rename_i off sz hpl;split at hr;rename_i hc;obtain⟨h1,h2,h3⟩:=hc;have hx:=(hev x).cells h1 hν;have hxl:=hx.length;have hcl:=h.length;have hxs:(ρ x).cells.size=sz:=(by rw[←h2,←hxl];simp);have hcs:cells.size=cs.length:=(by rw[←hcl];simp);have hone:=SM off (ρ x).cells.toList cells (by rw[hxl,hcs,h2];exact h3);have qI:aH w ok ν st (DR cs off (fJ (ev x))) ((ρ x).cells.toList.zipIdx.foldl (fun cs (x:Value×Nat)=>cs.setIfInBounds (off+x.2) x.1) cells).toList:=(by rw[hone,hxl];exact(h.take off).append (hx.append (h.drop _)));obtain⟨cells',k1,k2⟩:=R8 hν places ev ρ hev ps _ _ r qI hr;refine⟨cells',?_,k2⟩;simp only[aV,Instr.fill];have hpl':(places.toArray[i]?:Option (Nat×Nat))=some (off,sz):=(by simpa using hpl);rw[hpl'];simp only;rw[if_neg (by simp only[hxs,hcs,ne_eq,not_true_eq_false,decide_false,mJ,decide_eq_true_eq];omega)];rw[←k1];congr 1;rw[←Array.foldl_toList,Array.toList_zipIdx];cases hr
section
variable{E:Env}{g:G}{d:Nat}{ty:TypeId}{pos:String}{fK:Array Edge}{gd:Option (Nat×Bool)}{dn:Option Nat}
theorem aaA(t:TypeId)(ps:List (Nat×Operand))(ti:TI)(fs:List (Nat×Nat×Nat))(r:List PV)(ht:E.ti t=some ti)(mI:ti.ty= .struct fs)
 (hr:K4 (fs.map fun x=>(x.2.1,x.2.2)) ti.zero (ps.map fun x=>(x.1,g.ev x.2))=some r) :
 mM E.P ⟨some d,.build t ⟨ps⟩,ty,pos,fK,gd⟩ g ⟨ps.flatMap fun x=>ez x.2,[]⟩ ⟨some (d,.agg r),[]⟩:=by
 intro g2 hg
 have hmap:ps.map (fun x=>(x.1,g2.ev x.2))=ps.map (fun x=>(x.1,g.ev x.2)):=by have:∀(ps:List (Nat×Operand)),(∀t∈ps.flatMap (fun x=>ez x.2),t∈ps.flatMap (fun x=>ez x.2))→True:=fun _ _=>trivial;apply k9;intro x hx;rw[hg.ev (x:=x.2) (fun t h=>hX.2 ⟨x,hx,h⟩)]
 refine HC.val rfl fun X ν a w hs=>?_
 obtain⟨i,z,h1,h2,h4,h5,h6,h7⟩:=(E.ok t ti ht).info
 have hu:=(E.ok t ti ht).ty
 rw[mI] at hu
 obtain⟨fields,hu,hpl,_⟩:=hu
 rw[←hmap] at hr
 obtain⟨cells',k1,k2⟩:=R8 hs.nu (fs.map fun x=>(x.2.1,x.2.2)) g2.ev a.eval hs.ev ps ti.zero z.cells r (by rw[←h6];exact xX _ _ _ _ _) hr
 refine⟨.agg cells',?_,by simp only[aJ];exact⟨cells'.toList,rfl,k2⟩⟩
 have hb:E.P.built t (ps.map fun x=>(x.1,a.eval x.2))=some cells':=by simp only[Program.built,h1,hu,h5,hpl,k1]
 have:=run_build (P:=E.P) w t ⟨ps.map fun x=>(x.1,a.eval x.2)⟩ cells' hb
 simp only[execOp,jW,Sem.run_bind,this,Result.andThen_ok]
 rfl
def rowsOf:List PV→Option (List (List D))
 | []=>some []
 | p::ps=>if p.whole=true then match Dp (fJ p),rowsOf ps with|some x,some xs=>some (x::xs)|_,_=>none else none
def MI:Nat→List Nat→Bool
 | _,[]=>true
 | i,j::js=>i == j&&MI (i+1) js
def xq(n:Nat):List (List D)→Bool
 | []=>true
 | x::xs=>x.length == n&&xq n xs
theorem F3{w:World}{ok:Nat→Prop}{ν:Nat→Nm}{st:Nat→Option En}(hν:∀k,(st k).isSome=true→(ν k).v.oneCell'=true)(sz:Nat)(ev:Operand→PV)(ρ:Operand→Value)(hev:∀x,aJ w ok ν st (ev x) (ρ x)) :
 ∀(ps:List (Nat×Operand))(i:Nat)(pre:List Value)(cells:Array Value)(aw:List (List D)),MI i (ps.map (·.1))=true→rowsOf (ps.map fun x=>ev x.2)=some aw→xq sz aw=true→pre.length=i*sz→cells.toList.take (i*sz)=pre→cells.size=(i+ps.length)*sz →
 ∃us:List (List Value),Instr.fill (fun i=>some (i*sz,sz)) cells (ps.map fun x=>(x.1,ρ x.2))=some ⟨pre++us.flatten⟩∧de w ok sz aw us
 | [],i,pre,cells,aw,_,hr,_,hpl,hpre,hsz=>by simp only[dS,rowsOf,Option.some.injEq] at hr;subst hr;refine⟨[],?_,de.nil _ _ _⟩;simp only[dS,Instr.fill,List.flatten_nil,bE];congr 1;rw[←hpre,aq (by rw[gE,hsz];exact aK _)]
 | (j,x)::ps,i,pre,cells,aw,hup,hr,eO,hpl,hpre,hsz=>by
  simp only[aV,MI,ah,beq_iff_eq] at hup;obtain⟨rfl,hup⟩:=hup;simp only[aV,rowsOf] at hr;split at hr;rename_i hwh;split at hr;rename_i row rows' rA hrows;obtain rfl:=Option.some.inj hr;simp only[xq,ah,beq_iff_eq] at eO;have hx:=(hev x).cells hwh hν;have hxl:=hx.length;have hd:=AM hx rA;obtain⟨Kp,hd2⟩:=Fo hd;have hxs:(ρ x).cells.toList.length=sz:=(by rw[Kp];exact eO.1);simp only[aY] at hsz;have hmul:(i+(ps.length+1))*sz=i*sz+(sz+ps.length*sz):=(by rw[dx,dx];omega);have hone:=SM (i*sz) (ρ x).cells.toList cells (by rw[hxs,hsz,hmul];omega);have hsz2:(((ρ x).cells.toList.zipIdx.foldl (fun cs (x:Value×Nat)=>cs.setIfInBounds (i*sz+x.2) x.1) cells)).size=(i+1+ps.length)*sz:=(by rw[←gE,hone];simp only[aP,List.length_take,eG,gE,hsz,hxs];rw[hmul,show i+1+ps.length=i+(ps.length+1) by omega,hmul];omega);obtain⟨us,k1,k2⟩:=F3 hν sz ev ρ hev ps (i+1) (pre++(ρ x).cells.toList) _ rows' hup hrows eO.2 (by rw[aP,hpl,hxs,dx];omega)
   (by rw[hone,hpre,←bC,cI (by rw[aP,hpl,hxs,dx];omega)];rw[aq (by rw[aP,hpl,hxs,dx];omega)]) hsz2
  refine⟨(ρ x).cells.toList::us,?_,k2.cons eO.1 hxs hd2⟩;have hxs':(ρ x).cells.size=sz:=(by simpa using hxs);simp only[aV,Instr.fill];rw[if_neg (by simp only[hxs',hsz,hmul,ne_eq,not_true_eq_false,decide_false,mJ,decide_eq_true_eq];omega)];rw[fw,←bC,←k1];congr 1;rw[←Array.foldl_toList,Array.toList_zipIdx];cases hr;cases hr
theorem WH{t e:Nat}{ti ei:TI}(ht:E.ti t=some ti)(mI:ti.ty= .slice e)(he:E.ti e=some ei){X:Cx}{ν:Nat→Nm}{g2:G}{a:Act}{w:World}(hs:Sat E.P X ν g2 a w)(ps:List (Nat×Operand))(aw:List (List D))
 (hup:MI 0 (ps.map (·.1))=true) (hr:rowsOf (ps.map fun x=>g2.ev x.2)=some aw) (eO:xq ei.n aw=true) (hbig:ps.length*ei.n≤16777216) {o:Oper} (ho:o.op= .buildSlice t ps.length ⟨ps⟩) :
 ∃us:List (List Value),(execOp a.eval o).run E.P w= .ok (.value (.slice (some ⟨w.heap.size,0,none⟩) ps.length ps.length)) (w.alloc (.cells ⟨us.flatten⟩ e))∧de w (dk X ν g2.at) ei.n aw us:=by
 obtain⟨i,z,h1,h2,h4,h5,h6,h7⟩:=(E.ok e ei he).info
 have hu:=(E.ok t ti ht).ty
 rw[mI] at hu
 have hpos:=(E.ok e ei he).pos
 have hrowsl:∀(qs:List PV)(aw:List (List D)),rowsOf qs=some aw→aw.length=qs.length:=by
  intro qs;induction qs with
  | nil=>intro aw h;simp[rowsOf] at h;simp[←h]
  | cons q qs ih=>intro aw h;simp only[rowsOf] at h;split at h;split at h;rename_i h1 h2;obtain rfl:=Option.some.inj h;simp[ih _ h2];cases h;cases h
 have hrl:=hrowsl _ _ hr
 simp only[cW] at hrl
 have key:∀init:Array Value,init.size=ps.length*ei.n→∃us:List (List Value),Instr.fill (fun i=>some (i*ei.n,ei.n)) init (ps.map fun x=>(x.1,a.eval x.2))=some ⟨us.flatten⟩∧de w (dk X ν g2.at) ei.n aw us:=by intro init hi;obtain⟨us,k1,k2⟩:=F3 hs.nu ei.n g2.ev a.eval hs.ev ps 0 [] init aw hup hr eO (by simp) (by simp) (by simpa using hi);exact⟨us,by simpa using k1,k2⟩
 by_cases hz:ps.length*ei.n=0
 ·obtain⟨us,k1,k2⟩:=key ((Array.range 0).map fun _=>default) (by rw[Array.size_map,Array.size_range,hz])
  refine⟨us,?_,k2⟩
  simp only[execOp,ho,jW,Instr.buildSlice,Sem.run_bind,run_underlying hu,Result.andThen_ok,(E.ok e ei he).size w,hz]
  simp[k1,newRow]
 ·obtain⟨us,k1,k2⟩:=key ((Array.range (ps.length*ei.n)).map (z.cells[· % z.cells.size]!)) (by simp)
  refine⟨us,?_,k2⟩
  have hn:¬ps.length*ei.n>16777216:=oM
  simp only[execOp,ho,jW,Instr.buildSlice,Sem.run_bind,run_underlying hu,Result.andThen_ok,(E.ok e ei he).size w]
  simp[hn,hz,zeroValue,typeInfo,h1,h5,k1,newRow]
theorem DN:∀{qs:List PV}{aw:List (List D)},rowsOf qs=some aw→aw.length=qs.length
 | [],aw,h=>by simp[rowsOf] at h;simp[←h]
 | q::qs,aw,h=>by simp only[rowsOf] at h;split at h;split at h;rename_i h1 h2;obtain rfl:=Option.some.inj h;simp[DN h2];cases h;cases h
theorem S6(w:World)(us:List Value)(e:TypeId):lU (w.alloc (.cells ⟨us⟩ e)) w.heap.size 0 us:=by intro j u hu;simp only[World.cell?,vh,eu];simpa using hu
theorem aaH(t e n:Nat)(ps:List (Nat×Operand))(ti ei:TI)(aw:List (List D))(ht:E.ti t=some ti)(mI:ti.ty= .slice e)(he:E.ti e=some ei)(hn:n=ps.length)(hup:MI 0 (ps.map (·.1))=true)
 (hr:rowsOf (ps.map fun x=>g.ev x.2)=some aw) (eO:xq ei.n aw=true) (hbig:ps.length*ei.n≤16777216) :
 mM E.P ⟨some d,.buildSlice t n ⟨ps⟩,ty,pos,fK,gd⟩ g ⟨ps.flatMap fun x=>ez x.2,[]⟩ ⟨some (d,.d (.eC aw)),[]⟩:=by
 subst hn
 intro g2 hg
 have hmap:ps.map (fun x=>g2.ev x.2)=ps.map (fun x=>g.ev x.2):=by apply k9;intro x hx;rw[hg.ev (x:=x.2) (fun t h=>hX.2 ⟨x,hx,h⟩)]
 rw[←hmap] at hr
 intro X ν a w next Q hs hnx
 obtain⟨us,ou,kS⟩:=WH ht mI he hs ps aw hup hr eO hbig (o:=⟨some d,.buildSlice t ps.length ⟨ps⟩,ty,pos,fK,gd⟩) rfl
 have hpos:=(E.ok e ei he).pos
 have hrl:=DN hr
 simp only[cW] at hrl
 have hle:ps.length≤16777216:=fv (ni _ hpos) hbig
 unfold Oper.wp
 rw[ou,Oper.upon_value]
 refine hnx ν _ _ (hs.abY (w':=w.alloc (.cells ⟨us.flatten⟩ e)) (lE w _) d _ _ fun hfree hsame=>?_)
 simp only[aJ]
 have hrr':=kS.frame hsame (lE w _).size
 rw[←hrl]
 exact .eC aw us w.heap.size 0 aw.length ei.n (hfree _ (aK _)) (sN (vh w _)) (aK _) (by simp only[maxLen];omega) (by unfold LB;omega) hrr'.len hrr'.hx hrr'.hu (S6 w _ e) hrr'.hr
theorem rQ(t e n k:Nat)(ps:List (Nat×Operand))(ti ei:TI)(aw:List (List D))(ht:E.ti t=some ti)(mI:ti.ty= .slice e)(he:E.ti e=some ei)(hn:n=ps.length)(hup:MI 0 (ps.map (·.1))=true)
 (hr:rowsOf (ps.map fun x=>g.ev x.2)=some aw) (eO:xq ei.n aw=true) (hbig:ps.length*ei.n≤16777216) (hk:g.at k=none) :
 mM E.P ⟨some d,.buildSlice t n ⟨ps⟩,ty,pos,fK,gd⟩ g ⟨ps.flatMap fun x=>ez x.2,[k]⟩ ⟨some (d,.aX k),[(k,.aX e aw)]⟩:=by
 subst hn
 intro g2 hg
 have hmap:ps.map (fun x=>g2.ev x.2)=ps.map (fun x=>g.ev x.2):=by apply k9;intro x hx;rw[hg.ev (x:=x.2) (fun t h=>hX.2 ⟨x,hx,h⟩)]
 have h3:=(hg.p k (by simp)).trans hk
 rw[←hmap] at hr
 intro X ν a w next Q hs hnx
 obtain⟨us,ou,kS⟩:=WH ht mI he hs ps aw hup hr eO hbig (o:=⟨some d,.buildSlice t ps.length ⟨ps⟩,ty,pos,fK,gd⟩) rfl
 have hpos:=(E.ok e ei he).pos
 have hrl:=DN hr
 simp only[cW] at hrl
 have hle:ps.length≤16777216:=fv (ni _ hpos) hbig
 unfold Oper.wp
 rw[ou,Oper.upon_value]
 have hfl:=kS.mZ
 have rA:=World.ownsRow_lit w (e:=e) (⟨us.flatten⟩:Array Value) aw.length (base:=0) (size:=ei.n) (bo _) (by simp only[maxLen];omega) (by simpa using hfl)
 refine hnx _ _ _ (hs.Bj (lE w _) k h3 (.aX e aw) ⟨.slice (some ⟨w.heap.size,0,none⟩) ps.length ps.length,[]⟩ rfl (fun b hb=>?_) d _ _ ?_ ?_)
 ·obtain rfl:w.heap.size=b:=by simpa[Nm.has,zV] using hb
  exact aK _
 ·intro ok st ν' hν hw hm
  refine⟨us,?_,?_,by unfold LB;omega,by rw[hν]⟩
  ·rw[hν,(E.ok e ei he).cells,←hrl]
   exact rA
  ·rw[(E.ok e ei he).cells]
   exact kS.frame hw (lE w _).size
 ·intro ok st ν' hν ld hw hm
  simp only[aJ]
  exact⟨by rw[ld];rfl,by rw[hν]⟩
end
def OI(g:G):Option Operand→Int→Int→Prop
 | none,dflt,i=>i=dflt
 | some x,_,i=>∃k,g.ev x= .d (.val (.int k i))
def osl:Option Operand→List Nat
 | none=>[]
 | some x=>ez x
theorem OI.agree{R:Rd}{g g2:G}(h:FF R g g2){o:Option Operand}{a i:Int}(ho:∀t∈osl o,t∈R.s)(hi:OI g o a i):OI g2 o a i:=by
 cases o with
 | none=>exact hi
 | some x=>obtain⟨k,hk⟩:=hi;exact⟨k,(h.ev (x:=x) ho).trans hk⟩
theorem OI.value{P:Program}{X:Cx}{ν:Nat→Nm}{g:G}{a:Act}{w:World}(h:Sat P X ν g a w){o:Option Operand}{d i:Int}(hi:OI g o d i):(o=none∧i=d)∨∃k,o.map a.eval=some (.int k i):=by
 cases o with
 | none=>exact .inl ⟨rfl,hi⟩
 | some x=>obtain⟨k,hk⟩:=hi;have hv:=h.ev x;rw[hk] at hv;exact .inr ⟨k,by simp[ig hv]⟩
theorem wC{P:Program}(w:World){t e s:Nat}(hu:P.underlying t=some (.slice e))(hs:∀w,(sizeOf e).run P w= .ok s w)(a:Option Addr)(len cap:Nat)(lo hi:Option Value)(l h:Int)
 (hlo:(lo=none∧l=0)∨∃k,lo=some (.int k l)) (hhi:(hi=none∧h=len)∨∃k,hi=some (.int k h)) (h0:0≤l) (h1:l≤h) (h2:h≤len) (h3:len≤cap) :
 (Instr.sliceAt t (.slice a len cap) lo hi none).run P w= .ok (sliced a l.toNat h.toNat cap s) w:=by
 have hel:P.elem t=e:=by simp[Program.elem,hu]
 have ht:P.underlying t=some (.slice (P.elem t)):=by rw[hel];exact hu
 rw[run_sliceAt_slice w t _ _ _ _ ht]
 have h2':h≤(cap:Int):=oM
 rcases hlo with⟨rfl,rfl⟩|⟨k,rfl⟩
 ·rcases hhi with⟨rfl,rfl⟩|⟨k',rfl⟩
  ·rw[run_slice_all w t a len cap ht,hel,hs]
   simp[Result.andThen]
  ·rw[run_slice_h w t a len cap ht k' h oM h2',hel,hs]
   simp[Result.andThen]
 ·rcases hhi with⟨rfl,rfl⟩|⟨k',rfl⟩
  ·rw[run_slice_l w t a len cap ht k l h0 h1,hel,hs]
   simp[Result.andThen]
  ·rw[run_slice_lh w t a len cap ht k k' l h h0 h1 h2',hel,hs]
   simp[Result.andThen]
theorem abN{P:Program}(w:World){t:Nat}(hu:P.underlying t=some .string)(s:List UInt8)(lo hi:Option Value)(l h:Int)
 (hlo:(lo=none∧l=0)∨∃k,lo=some (.int k l)) (hhi:(hi=none∧h=s.length)∨∃k,hi=some (.int k h)) (h0:0≤l) (h1:l≤h) (h2:h≤s.length) :
 (Instr.sliceAt t (.string ⟨s.toArray⟩) lo hi none).run P w= .ok (.string ⟨((s.drop l.toNat).take (h.toNat-l.toNat)).toArray⟩) w:=by
 rw[run_sliceAt_string w t _ _ _ _ hu]
 have hsz:(⟨s.toArray⟩:ByteArray).size=s.length:=size_mk s
 rcases hlo with⟨rfl,rfl⟩|⟨k,rfl⟩
 ·rcases hhi with⟨rfl,rfl⟩|⟨k',rfl⟩
  ·rw[run_slice_string_all w t _ hu,ByteArray.extract_mk,hsz]
   simp
  ·rw[run_slice_string_h w t _ hu k' h oM oM,ByteArray.extract_mk]
   simp
 ·rcases hhi with⟨rfl,rfl⟩|⟨k',rfl⟩
  ·rw[run_slice_string_l w t _ hu k l h0 oM,ByteArray.extract_mk,hsz]
   simp
  ·rw[Go.run_slice_string w t _ k k' l h hu h0 h1 oM,ByteArray.extract_mk]
section
variable{E:Env}{g:G}{d:Nat}{ty:TypeId}{pos:String}{fK:Array Edge}{gd:Option (Nat×Bool)}{dn:Option Nat}
theorem vR{sz:Nat}:∀(us:List (List Value))(l n:Nat),(∀(i:Nat)(u:List Value),us[i]?=some u→u.length=sz)→l+n≤us.length→((us.drop l).take n).flatten=(us.flatten.drop (l*sz)).take (n*sz)
 | [],l,n,_,h=>by have h1:l=0:=(by simp at h;omega);have h2:n=0:=(by simp at h;omega);subst h1 h2;simp
 | u::us,0,n,hu,h=>by
  cases n with
  | zero=>simp
  | succ n=>have h0:u.length=sz:=hu 0 u rfl;have ih:=vR us 0 n (fun i x hx=>hu (i+1) x (by simpa using hx)) (by simp at h;omega);simp only[List.drop_zero,Nat.zero_mul] at ih⊢;rw[dv,fw,fw,ih,List.take_append];have e1:(n+1)*sz-u.length=n*sz:=(by rw[dx,h0];omega);rw[e1,aq (l:=u) (by rw[h0,dx];omega)]
 | u::us,l+1,n,hu,h=>by have h0:u.length=sz:=hu 0 u rfl;have ih:=vR us l n (fun i x hx=>hu (i+1) x (by simpa using hx)) (by simp at h;omega);rw[List.drop_succ_cons,ih,fw];congr 1;rw[List.drop_append,ak (l:=u) (by rw[h0,dx];omega),bS];congr 1;rw[dx,h0];omega
theorem rh{α:Type}(xs:List α)(l n i:Nat)(x:α)(h:((xs.drop l).take n)[i]?=some x):xs[l+i]?=some x:=by
 rw[dR] at h;split at h
 rwa [eV] at h;cases h
theorem de.cut{w:World}{ok:Nat→Prop}{sz:Nat}{xs:List (List D)}{us:List (List Value)}(h:de w ok sz xs us)(l n:Nat):de w ok sz ((xs.drop l).take n) ((us.drop l).take n):=by refine⟨by simp[h.len],fun i x hx=>h.hx (l+i) x (rh _ _ _ _ _ hx),fun i u hu=>h.hu (l+i) u (rh _ _ _ _ _ hu),fun i j x u d v h1 h2 h3 h4=>h.hr (l+i) j x u d v (rh _ _ _ _ _ h1) (rh _ _ _ _ _ h2) h3 h4⟩
theorem UA(x:Operand)(lo hi:Option Operand)(t e:Nat)(ti ei:TI)(xs r:List (List D))(l h:Int)(ht:E.ti t=some ti)(mI:ti.ty= .slice e)(he:E.ti e=some ei)(hx:g.ev x= .d (.eC xs))(hlo:OI g lo 0 l)(hhi:OI g hi xs.length h)
 (h0:0≤l) (h1:l≤h) (h2:h≤xs.length) (hz:∀y∈xs,y.length=ei.n) (hr:(xs.drop l.toNat).take (h.toNat-l.toNat)=r) :
 mM E.P ⟨some d,.slice t x lo hi none,ty,pos,fK,gd⟩ g ⟨ez x++(osl lo++osl hi),[]⟩ ⟨some (d,.d (.eC r)),[]⟩:=by
 subst hr
 intro g2 hg
 have e1:=hg.ev (x:=x) (fun t h=>by simp[h])
 have hlo2:=hlo.agree hg (fun t h=>by simp[h])
 have hhi2:=hhi.agree hg (fun t h=>by simp[h])
 refine HC.val rfl fun X ν a w hs=>?_
 have hv:=hs.ev x
 rw[e1,hx] at hv
 simp only[aJ] at hv⊢
 have hu:=(E.ok t ti ht).ty
 rw[mI] at hu
 have hlv:(lo.map a.eval=none∧l=0)∨∃k,lo.map a.eval=some (.int k l):=(hlo2.value hs).imp (fun h=>⟨by rw[h.1];rfl,h.2⟩) id
 have hhv:(hi.map a.eval=none∧h=xs.length)∨∃k,hi.map a.eval=some (.int k h):=(hhi2.value hs).imp (fun h=>⟨by rw[h.1];rfl,h.2⟩) id
 have hsize:=(E.ok e ei he).size
 obtain⟨ln,rfl⟩:∃n:Nat,l=n:=⟨l.toNat,oM⟩
 obtain⟨hn,rfl⟩:∃n:Nat,h=n:=⟨h.toNat,oM⟩
 simp only[bc]
 rcases hv.zz with⟨rfl,ea,ec,hvv,hemp⟩|⟨us,b,off,cap,sz,hvv,fy,hb,lF,hmax,hB,kS,hc⟩
 ·simp only[List.length_nil] at h2
  have hr:=wC (P:=E.P) w hu hsize ea 0 ec _ _ ln hn hlv hhv h0 h1 h2 (bo _)
  obtain rfl:hn=0:=oM
  obtain rfl:ln=0:=oM
  refine⟨sliced ea 0 0 ec ei.n,?_,?_⟩
  ·simp only[execOp,hvv,eW,Sem.run_bind,hr,Result.andThen_ok]
   rfl
  ·simp only[List.drop_nil,List.take_nil]
   unfold sliced
   refine jD.agD ?_
   rcases hemp with⟨rfl,rfl⟩|⟨k1,k2⟩
   ·exact .inl ⟨by simp,rfl⟩
   ·refine .inr ⟨?_,oM⟩
    split
    ·exact k1
    ·rw[Option.isSome_map]
     exact k1
 ·have hr:=wC (P:=E.P) w hu hsize (some ⟨b,off,none⟩) xs.length cap _ _ ln hn hlv hhv h0 h1 h2 lF
  simp only[bc] at hr
  have hsz:xs=[]∨sz=ei.n:=by
   cases xs with
   | nil=>exact .inl rfl
   | cons y ys=>right;rw[←kS.hx 0 y rfl];exact hz y (by simp)
  refine⟨sliced (some ⟨b,off,none⟩) ln hn cap ei.n,?_,?_⟩
  ·simp only[execOp,hvv,eW,Sem.run_bind,hr,Result.andThen_ok]
   rfl
  ·have eO:((xs.drop ln).take (hn-ln)).length=hn-ln:=by simp;omega
   have hrc:=kS.cut ln (hn-ln)
   have hcl:=vR us ln (hn-ln) kS.hu (by rw[kS.len];omega)
   unfold sliced
   by_cases hcm:cap=ln
   ·rw[if_pos hcm]
    have:hn-ln=0:=oM
    rw[this] at eO hrc⊢
    simp only[List.take_zero] at eO hrc⊢
    exact .eC [] [] b off (cap-ln) sz fy hb (by simp) (by simp only[maxLen] at hmax⊢;omega) (by simp) rfl (by simp) (by simp) (fun j u hu=>by simp at hu) (by simp)
   ·rw[if_neg hcm]
    have hsz':sz=ei.n∨ln=0:=by rcases hsz with rfl|h;right;simp at h2;omega;exact .inl h
    have hoff:(⟨b,off,none⟩:Addr).add (ln*ei.n)=⟨b,off+ln*sz,none⟩:=by rw[add_lit];rcases hsz' with h|h<;>rw[h];simp
    simp only[Option.map_some,hoff]
    have hres:=jD.eC (w:=w) (ok:=dk X ν g2.at) ((xs.drop ln).take (hn-ln)) ((us.drop ln).take (hn-ln)) b (off+ln*sz) (cap-ln) sz fy hb (by rw[eO];omega) (by simp only[maxLen] at hmax⊢;omega) (by rw[eO];omega) hrc.len hrc.hx hrc.hu
     (hc.sub (ln*sz) fun j u hu=>by rw[hcl] at hu;exact rh _ _ _ _ _ hu) hrc.hr
    rw[eO] at hres
    exact hres
theorem Vd(x:Operand)(lo hi:Option Operand)(t:Nat)(ti:TI)(s r:List UInt8)(l h:Int)(ht:E.ti t=some ti)(mI:ti.ty= .str)(hx:g.ev x= .d (.str s))(hlo:OI g lo 0 l)(hhi:OI g hi s.length h)
 (h0:0≤l) (h1:l≤h) (h2:h≤s.length) (hr:(s.drop l.toNat).take (h.toNat-l.toNat)=r) :
 mM E.P ⟨some d,.slice t x lo hi none,ty,pos,fK,gd⟩ g ⟨ez x++(osl lo++osl hi),[]⟩ ⟨some (d,.d (.str r)),[]⟩:=by
 subst hr
 intro g2 hg
 have e1:=hg.ev (x:=x) (fun t h=>by simp[h])
 have hlo2:=hlo.agree hg (fun t h=>by simp[h])
 have hhi2:=hhi.agree hg (fun t h=>by simp[h])
 refine HC.val rfl fun X ν a w hs=>?_
 have hv:=hs.ev x
 rw[e1,hx] at hv
 obtain⟨hv,hB⟩:=yL hv
 have hu:=(E.ok t ti ht).ty
 rw[mI] at hu
 have hlv:(lo.map a.eval=none∧l=0)∨∃k,lo.map a.eval=some (.int k l):=(hlo2.value hs).imp (fun h=>⟨by rw[h.1];rfl,h.2⟩) id
 have hhv:(hi.map a.eval=none∧h=s.length)∨∃k,hi.map a.eval=some (.int k h):=(hhi2.value hs).imp (fun h=>⟨by rw[h.1];rfl,h.2⟩) id
 have hr:=abN (P:=E.P) w hu s _ _ l h hlv hhv h0 h1 h2
 refine⟨_,?_,by simp only[aJ];exact .str _ (by simp;omega)⟩
 simp only[execOp,hv,eW,Sem.run_bind,hr,Result.andThen_ok]
 rfl
def wm{α:Type}(cs:List α)(off:Nat)(vs:List α):List α:=cs.take off++(vs++cs.drop (off+vs.length))
theorem P7{α:Type}(cs vs:List α)(off:Nat)(h:off+vs.length≤cs.length):(wm cs off vs).length=cs.length:=by simp[wm];omega
theorem Ko{sz:Nat}:∀(us:List (List Value))(i off:Nat)(vs rest:List Value),(∀(i:Nat)(u:List Value),us[i]?=some u→u.length=sz)→i<us.length→off+vs.length≤sz →
 wm (us.flatten++rest) (i*sz+off) vs=(us.set i (wm (us.getD i []) off vs)).flatten++rest
 | [],i,_,_,_,_,h,_=>by simp at h
 | u::us,0,off,vs,rest,hu,_,ho=>by have h0:u.length=sz:=hu 0 u rfl;simp only[wm,Nat.zero_mul,eu,jX,fw,List.getD_cons_zero,bC];rw[cI oM,List.drop_append_of_le_length oM]
 | u::us,i+1,off,vs,rest,hu,hi,ho=>by have h0:u.length=sz:=hu 0 u rfl;have ih:=Ko us i off vs rest (fun i x hx=>hu (i+1) x (by simpa using hx)) (by simpa using hi) ho;have e1:(i+1)*sz+off=sz+(i*sz+off):=(by rw[dx];omega);simp only[List.set_cons_succ,fw,List.getD_cons_succ,bC];rw[←ih,e1];simp only[wm];have e2:oj (sz+(i*sz+off)) (u++(us.flatten++rest))=u++oj (i*sz+off) (us.flatten++rest):=(by rw[List.take_append,aq oM,h0];congr 2;omega);have e3:fB (sz+(i*sz+off)+vs.length) (u++(us.flatten++rest))=fB (i*sz+off+vs.length) (us.flatten++rest):=(by rw[List.drop_append,ak oM,bS,h0];congr 1;omega);rw[e2,e3,bC]
theorem EV{α:Type}(cs vs:List α)(off j:Nat)(h:off+vs.length≤cs.length):(wm cs off vs)[j]?=if off≤j∧j<off+vs.length then vs[j-off]? else cs[j]?:=by
 unfold wm;by_cases h1:j<off;rw[if_neg oM,bF (by simp;omega),dR,if_pos h1];have e:(cs.take off).length=off:=by simp;omega
 rw[bO oM,e];by_cases h2:j<off+vs.length;rw[if_pos oM,bF oM];rw[if_neg oM,bO oM,eV];congr 1;omega
theorem MJ(x y:Operand)(t k i off sz e:Nat)(ti ei:TI)(xs:List (List D))(p:PV)(cs:List D)(ht:E.ti t=some ti)(he:E.ti e=some ei)(hsz:sz=ei.n)(hx:g.ev x= .jg k i off sz)(hk:g.at k=some (.aX e xs))(hy:g.ev y=p)
 (hi:i<xs.length) (hl:off+ti.n≤ei.n) (hp:p.whole=true) (hn:(fJ p).length=ti.n) (hcs:Dp (fJ p)=some cs) :
 mM E.P ⟨dn,.store t x y,ty,pos,fK,gd⟩ g ⟨ez x++ez y++dn.toList,[k]⟩ ⟨dn.map fun d=>(d,.undef),[(k,.aX e (xs.set i (wm (row xs i) off cs)))]⟩:=by
 intro g2 hg
 have e1:=hg.ev (x:=x) (fun t h=>by simp[h])
 have e2:=hg.ev (x:=y) (fun t h=>by simp[h])
 have h3:=(hg.p k (by simp)).trans hk
 intro X ν a w next Q hs hnx
 have hv:=hs.ev x
 rw[e1,hx] at hv
 have hw:=hs.ev y
 rw[e2,hy] at hw
 simp only[aJ] at hv
 obtain⟨_,b,n,c,hb,hv⟩:=hv
 obtain⟨us,ho,kS,hB,hf0⟩:=hs.en k _ h3
 have sk:=hw.cells hp hs.nu
 have eO:=sk.length
 obtain⟨Kp,hd2⟩:=Fo (AM sk hcs)
 rw[(E.ok e ei he).cells] at kS ho
 subst hsz
 have hlast:=ho.2
 rcases hlast with⟨h1,h2⟩|⟨b',cap,cur,h1,_,h2,h4,h5,h6,h7⟩
 ·omega
 ·rw[h1] at hb
  obtain⟨rfl,rfl,rfl⟩:b'=b∧xs.length=n∧cap=c:=by simpa using hb
  have hul:us.length=xs.length:=kS.len
  have hfl:=kS.mZ
  have hmulle:(i+1)*ei.n≤xs.length*ei.n:=bu _ hi
  have hmulle2:xs.length*ei.n≤cap*ei.n:=bu _ h4
  have hadd:(i+1)*ei.n=i*ei.n+ei.n:=by rw[dx];omega
  have hone:∀u∈(a.eval y).cells.toList,u.oneCell'=true:=by intro u hu;obtain⟨j,hj,rfl⟩:=List.getElem_of_mem hu;have hjc:j<cs.length:=(by rw[←Kp];exact hj);exact(hd2 j cs[j] _ (af hjc) (af hj)).one
  have hvl:(a.eval y).cells.toList.length=ti.n:=by rw[eO,hn]
  have ou:=zq (E.ok t ti ht) w b' (i*ei.n+off) e cur (a.eval y) h2 hvl oM hone
  have hr:(execOp a.eval ⟨dn,.store t x y,ty,pos,fK,gd⟩).run E.P w= .ok .skip (w.setRow b' (cur.toList.take (i*ei.n+off)++(a.eval y).cells.toList++cur.toList.drop (i*ei.n+off+(a.eval y).cells.toList.length)).toArray):=by simp only[execOp,hv,Instr.storeAt,Instr.sureAddr,Sem.run_bind,Sem.run_pure,Result.andThen_ok,ou]
  have hcur:cur.toList=us.flatten++cur.toList.drop (xs.length*ei.n):=by rw[←h7];exact(jM _ _).symm
  have hnew:cur.toList.take (i*ei.n+off)++(a.eval y).cells.toList++cur.toList.drop (i*ei.n+off+(a.eval y).cells.toList.length)=(us.set i (wm (us.getD i []) off (a.eval y).cells.toList)).flatten++cur.toList.drop (xs.length*ei.n):=by have:=Ko us i off (a.eval y).cells.toList (cur.toList.drop (xs.length*ei.n)) kS.hu oM oM;rw[←hcur] at this;rw[←this,bC];rfl
  have hui:us[i]?=some (us.getD i []):=by have:i<us.length:=oM;simp[ct,af this]
  have hxi:xs[i]?=some (row xs i):=by simp[row,ct,af hi]
  have hxil:=kS.hx i _ hxi
  have huil:=kS.hu i _ hui
  have hrows:de w (dk X ν g2.at) ei.n (xs.set i (wm (row xs i) off cs)) (us.set i (wm (us.getD i []) off (a.eval y).cells.toList)):=by refine⟨by simp[hul],fun j z hz=>?_,fun j z hz=>?_,fun j l z u q v k1 k2 k3 k4=>?_⟩;rw[mq] at hz;by_cases hij:i=j;subst hij;rw[if_pos rfl,if_pos hi] at hz;obtain rfl:=Option.some.inj hz;rw[P7 _ _ _ (by rw[hxil,←Kp,hvl];exact hl),hxil];rw[if_neg hij] at hz;exact kS.hx j z hz;rw[mq] at hz;by_cases hij:i=j;subst hij;rw[if_pos rfl,if_pos oM] at hz;obtain rfl:=Option.some.inj hz;rw[P7 _ _ _ (by rw[huil,hvl];exact hl),huil];rw[if_neg hij] at hz;exact kS.hu j z hz;rw[mq] at k1 k2;by_cases hij:i=j;subst hij;rw[if_pos rfl,if_pos hi] at k1;rw[if_pos rfl,if_pos oM] at k2;obtain rfl:=Option.some.inj k1;obtain rfl:=Option.some.inj k2;rw[EV _ _ _ _ (by rw[hxil,←Kp,hvl];exact hl)] at k3;rw[EV _ _ _ _ (by rw[huil,hvl];exact hl)] at k4;rw[Kp] at k4;by_cases kI:off≤l∧l<off+cs.length;rw[if_pos kI] at k3 k4;exact hd2 _ _ _ k3 k4;rw[if_neg kI] at k3 k4;exact kS.hr i l _ _ q v hxi hui k3 k4;rw[if_neg hij] at k1 k2;exact kS.hr j l z u q v k1 k2 k3 k4
  unfold Oper.wp
  rw[hr,Oper.upon_skip,hnew]
  refine hnx _ _ _ (hs.Gh k (.aX e xs) (.aX e (xs.set i (wm (row xs i) off cs))) h3 rfl (mE w b' _ _ ((mi hf0).2 (by rw[h1];rfl))) dn .undef Go.undef ?_ ?_)
  ·intro hwf hm
   refine⟨us.set i (wm (us.getD i []) off (a.eval y).cells.toList),?_,?_,by simpa using hB,hf0⟩
   ·rw[(E.ok e ei he).cells,h1]
    have hf2:=hrows.mZ
    refine⟨hf2,.inr ⟨b',cap,_,by simp,bo _,setRow_heap w b' _ _ e _ h2,by simpa using h4,h5,?_,?_⟩⟩
    ·simp only[fx,aP,hf2,kU,eG,gE,h6]
     omega
    ·rw[cI (by rw[hf2];exact aK _),aq (by rw[hf2];exact aK _)]
   ·rw[(E.ok e ei he).cells]
    exact hrows.frame hwf (by simp[World.setRow])
  ·intro _
   simp only[aJ]
def Zn(ns:List Int):List (List D):=ns.map fun n=>[.val (.int .u8 n)]
def byS(ns:List Int):List UInt8:=ns.map fun n=>UInt8.ofNat n.toNat
end
mutual
def sc:PV→Bool
 | .undef=>true
 | .bW=>true
 | .d (.val _)=>true
 | .d (.str _)=>true
 | .agg cs=>scs cs
 | .iZ cs=>scs cs
 | _=>false
def scs:List PV→Bool
 | []=>true
 | p::ps=>sc p&&scs ps
end
section
variable{w w':World}{ok ok':Nat→Prop}{ν ν':Nat→Nm}{st st':Nat→Option En}
mutual
theorem aJ.sc:∀(p:PV)(v:Value),sc p=true→aJ w ok ν st p v→aJ w' ok' ν' st' p v
 | .undef,v,_,h=>by simpa[aJ] using h
 | .bW,v,_,h=>by simpa[aJ] using h
 | .d (.val u),v,_,h=>by
  simp only[aJ] at h⊢;cases h with
  | val u h=>exact .val _ h
 | .d (.str u),v,_,h=>by
  simp only[aJ] at h⊢;cases h with
  | str u h=>exact .str _ h
 | .agg cs,v,hs,h=>by simp only[Eng.sc] at hs;simp only[aJ] at h⊢;obtain⟨vs,e,h⟩:=h;exact⟨vs,e,aH.sc cs vs hs h⟩
 | .iZ cs,v,hs,h=>by simp only[Eng.sc] at hs;simp only[aJ] at h⊢;obtain⟨vs,e,h⟩:=h;exact⟨vs,e,aH.sc cs vs hs h⟩
 | .any,_,hs,_=>by simp[Eng.sc] at hs
 | .d (.eC _),_,hs,_=>by simp[Eng.sc] at hs
 | .bA _ _,_,hs,_=>by simp[Eng.sc] at hs
 | .aX _,_,hs,_=>by simp[Eng.sc] at hs
 | .jg _ _ _ _,_,hs,_=>by simp[Eng.sc] at hs
 | .ib _ _ _,_,hs,_=>by simp[Eng.sc] at hs
 | .fn _ _,_,hs,_=>by simp[Eng.sc] at hs
theorem aH.sc:∀(ps:List PV)(vs:List Value),scs ps=true→aH w ok ν st ps vs→aH w' ok' ν' st' ps vs
 | [],[],_,_=>by simp[aH]
 | p::ps,v::vs,hs,h=>by simp only[Eng.scs,ah] at hs;simp only[aH] at h⊢;exact⟨aJ.sc p v hs.1 h.1,aH.sc ps vs hs.2 h.2⟩
 | [],_::_,_,h=>by simp[aH] at h
 | _::_,[],_,h=>by simp[aH] at h
end
end
mutual
inductive Vw(g:G)(ks:List Nat):PV→PV→Prop where
 | same {p:PV} (h:p.lt 0=true):Vw g ks p p
 | nil:Vw g ks .bW (.d (.eC []))
 | aX {k:Nat} {e:TypeId} {xs:List (List D)} (h:Bn k ks=true) (hk:g.at k=some (.aX e xs)):Vw g ks (.aX k) (.d (.eC xs))
 | gD {k:Nat} {e:TypeId} {xs:List (List T)} {ys:List (List D)} (h:Bn k ks=true) (hk:g.at k=some (.gD e xs)) (hf:dP xs=some ys):Vw g ks (.aX k) (.d (.eC ys))
 | agg {cs ds:List PV} (h:wq g ks cs ds):Vw g ks (.agg cs) (.agg ds)
 | fn {f:Nat} {cs ds:List PV} (h:wq g ks cs ds):Vw g ks (.fn f cs) (.fn f ds)
 | box {k:Nat} {cs:List PV} {ds:List D} (h:Bn k ks=true) (hk:g.at k=some (.box cs)) (hc:wq g ks cs (dm ds)):Vw g ks (.bA k 0) (.ib [ds] 0 0)
inductive wq(g:G)(ks:List Nat):List PV→List PV→Prop where
 | nil:wq g ks [] []
 | cons {p q:PV} {ps qs:List PV} (h:Vw g ks p q) (h':wq g ks ps qs):wq g ks (p::ps) (q::qs)
end
section
variable{g g2:G}{ks:List Nat}
mutual
theorem Vw.VX{p q:PV}:Vw g ks p q→q.lt 0=true
 | .same h=>h
 | .nil=>rfl
 | .aX _ _=>rfl
 | .gD _ _ _=>rfl
 | .agg h=>by simp only[PV.lt];exact wq.VX h
 | .fn h=>by simp only[PV.lt];exact wq.VX h
 | .box _ _ _=>rfl
theorem wq.VX{ps qs:List PV}:wq g ks ps qs→wj 0 qs=true
 | .nil=>rfl
 | .cons h h'=>by simp only[wj,ah];exact⟨Vw.VX h,wq.VX h'⟩
end
mutual
theorem Vw.agree(ha:∀k∈ks,g2.at k=g.at k){p q:PV}:Vw g ks p q→Vw g2 ks p q
 | .same h=>.same h
 | .nil=>.nil
 | .aX h hk=>.aX h ((ha _ (td.1 h)).trans hk)
 | .gD h hk hf=>.gD h ((ha _ (td.1 h)).trans hk) hf
 | .agg h=>.agg (wq.agree ha h)
 | .fn h=>.fn (wq.agree ha h)
 | .box h hk hc=>.box h ((ha _ (td.1 h)).trans hk) (wq.agree ha hc)
theorem wq.agree(ha:∀k∈ks,g2.at k=g.at k){ps qs:List PV}:wq g ks ps qs→wq g2 ks ps qs
 | .nil=>.nil
 | .cons h h'=>.cons (Vw.agree ha h) (wq.agree ha h')
end
end
section
variable{P:Program}{X:Cx}{ν ν':Nat→Nm}{g:G}{a:Act}{w:World}{ok:Nat→Prop}{st:Nat→Option En}{ks:List Nat}
mutual
theorem aJ.VX(hw:∀b,dk X ν g.at b→b<w.heap.size→ok b∧w.heap[b]?=w.heap[b]?):∀(p:PV)(v:Value),p.lt 0=true→aJ w (dk X ν g.at) ν g.at p v→aJ w ok ν' st p v
 | .any,_,_,_=>by simp[aJ]
 | .undef,_,_,h=>by simpa[aJ] using h
 | .bW,_,_,h=>by simpa[aJ] using h
 | .d x,v,_,h=>by simp only[aJ] at h⊢;exact h.frame hw (aK _)
 | .agg cs,v,hl,h=>by simp only[PV.lt] at hl;simp only[aJ] at h⊢;obtain⟨vs,e,h⟩:=h;exact⟨vs,e,aH.VX hw cs vs hl h⟩
 | .iZ cs,v,hl,h=>by simp only[PV.lt] at hl;simp only[aJ] at h⊢;obtain⟨vs,e,h⟩:=h;exact⟨vs,e,aH.VX hw cs vs hl h⟩
 | .ib xs i off,v,_,h=>by simp only[aJ] at h⊢;obtain⟨b,o,cap,h1,h2,h3⟩:=h;exact⟨b,o,cap,h1.frame hw (aK _),h2,h3⟩
 | .fn f cs,v,hl,h=>by simp only[PV.lt] at hl;simp only[aJ] at h⊢;obtain⟨vs,e,h⟩:=h;exact⟨vs,e,aH.VX hw cs vs hl h⟩
 | .bA _ _,_,hl,_=>by simp[PV.lt] at hl
 | .aX _,_,hl,_=>by simp[PV.lt] at hl
 | .jg _ _ _ _,_,hl,_=>by simp[PV.lt] at hl
theorem aH.VX(hw:∀b,dk X ν g.at b→b<w.heap.size→ok b∧w.heap[b]?=w.heap[b]?):∀(ps:List PV)(vs:List Value),wj 0 ps=true→aH w (dk X ν g.at) ν g.at ps vs→aH w ok ν' st ps vs
 | [],[],_,_=>by simp[aH]
 | p::ps,v::vs,hl,h=>by simp only[wj,ah] at hl;simp only[aH] at h⊢;exact⟨aJ.VX hw p v hl.1 h.1,aH.VX hw ps vs hl.2 h.2⟩
 | [],_::_,_,h=>by simp[aH] at h
 | _::_,[],_,h=>by simp[aH] at h
end
theorem UP{w:World}{ok:Nat→Prop}{ν:Nat→Nm}{st:Nat→Option En}:∀{ds:List D}{vs:List Value},aH w ok ν st (dm ds) vs→∀(j:Nat)(d:D)(v:Value),ds[j]?=some d→vs[j]?=some v→jD w ok d v
 | [],_,_,j,d,v,h,_=>by simp at h
 | _::_,[],h,_,_,_,_,_=>by simp[dm,aH] at h
 | e::ds,u::vs,h,0,d,v,h1,h2=>by
  simp only[dm,aV,aH,aJ] at h;obtain rfl:e=d:=by simpa using h1
  obtain rfl:u=v:=by simpa using h2
  exact h.1
 | e::ds,u::vs,h,j+1,d,v,h1,h2=>by simp only[dm,aV,aH] at h;exact UP (ds:=ds) h.2 j d v (by simpa using h1) (by simpa using h2)
theorem Rf{w:World}{ok:Nat→Prop}{ν:Nat→Nm}{st:Nat→Option En}{b:Nat}{ds:List D}{vs:List Value}(fy:ok b)(hb:b<w.heap.size)(hc:lU w b 0 vs)(h:aH w ok ν st (dm ds) vs) :
 jD w ok (.eC [ds]) (.slice (some ⟨b,0,none⟩) [ds].length 1):=by
 have hl:vs.length=ds.length:=by simpa[dm] using h.length
 refine .eC [ds] [vs] b 0 1 ds.length fy hb (by simp) (by unfold maxLen;omega) (by simp[LB]) rfl ?_ ?_ (by simpa using hc) ?_
 ·intro i x hx
  cases i with
  | zero=>obtain rfl:ds=x:=by simpa using hx
          rfl
  | succ i=>simp at hx
 ·intro i x hx
  cases i with
  | zero=>obtain rfl:vs=x:=by simpa using hx
          exact hl
  | succ i=>simp at hx
 ·intro i j x u d v h1 h2 h3 h4
  cases i with
  | zero=>
   obtain rfl:ds=x:=by simpa using h1
   obtain rfl:vs=u:=by simpa using h2
   exact UP h j d v h3 h4
  | succ i=>simp at h1
mutual
theorem aJ.vw(hs:Sat P X ν g a w)(hw:∀b,dk X ν g.at b→b<w.heap.size→ok b∧w.heap[b]?=w.heap[b]?)(jU:∀b,Own ν g.at b→ok b){p q:PV}:∀(v:Value),Vw g ks p q→aJ w (dk X ν g.at) ν g.at p v→aJ w ok ν' st q v
 | v,.same hl,h=>aJ.VX hw _ v hl h
 | v,.nil,h=>by simp only[aJ] at h⊢;rw[h];exact .nil
 | v,.aX _ hk,h=>by simp only[aJ] at h⊢;rw[h.2];obtain⟨us,h1,h2,h3,_⟩:=hs.en _ _ hk;exact A5 h1 h2 h3 (fun b hb=>jU b ⟨_,_,hk,rfl,.inl hb⟩) hw
 | v,.gD (xs:=xs) (e:=e) _ hk hf,h=>by simp only[aJ] at h⊢;rw[h.2];have hen:=hs.en _ _ hk;exact mD.data hw (.own e xs) _ _ _ (by simp only[T.Kj,hf]) hen.1 fun b hb=>jU b ⟨_,_,hk,rfl,qJ.2 hb⟩
 | v,.agg hc,h=>by simp only[aJ] at h⊢;obtain⟨vs,e,h⟩:=h;exact⟨vs,e,aH.vw hs hw jU vs hc h⟩
 | v,.fn hc,h=>by simp only[aJ] at h⊢;obtain⟨vs,e,h⟩:=h;exact⟨vs,e,aH.vw hs hw jU vs hc h⟩
 | v,.box _ hk hc,h=>by simp only[aJ] at h⊢;obtain⟨_,b,h1,h2⟩:=h;obtain⟨b',vs,T,h3,h4,h5,_⟩:=hs.en _ _ hk;obtain rfl:b'=b:=(by rw[h1] at h3;simpa using h3.symm);have h6:=aH.vw hs hw jU vs hc h5;refine⟨b',0,1,Rf (jU b' ⟨_,_,hk,rfl,.inl (by rw[h1];rfl)⟩) (sN h4) (yW h4) h6,by simp,by rw[h2];simp⟩
theorem aH.vw(hs:Sat P X ν g a w)(hw:∀b,dk X ν g.at b→b<w.heap.size→ok b∧w.heap[b]?=w.heap[b]?)(jU:∀b,Own ν g.at b→ok b){ps qs:List PV}:∀(vs:List Value),wq g ks ps qs→aH w (dk X ν g.at) ν g.at ps vs→aH w ok ν' st qs vs
 | [],.nil,_=>by simp[aH]
 | v::vs,.cons h1 h2,h=>by simp only[aH] at h⊢;exact⟨aJ.vw hs hw jU v h1 h.1,aH.vw hs hw jU vs h2 h.2⟩
 | _::_,.nil,h=>by simp[aH] at h
 | [],.cons _ _,h=>by simp[aH] at h
end
end
theorem ac0{P:Program}{o:Oper}{g:G}{oE:Operand}{xs:List Operand}{tys:Array TypeId}{d:Nat}(ho:o.op= .call ⟨.value oE,⟨xs⟩,tys⟩)(hd:o.dst=some d){f:FuncId}{cap:List PV}(hfn:g.ev oE= .fn f cap)
 (ks:List Nat) (dh:List PV) (R:PV→List (Option En)→Prop) (hC:C P f dh [] R) (ru:wq g ks (xs.map g.ev++cap) dh) (hR:∀r s,R r s→sc r=true)
 (X:Cx) (ν:Nat→Nm) (a:Act) (w:World) (next:Act→World→Prop) (Q:Exit→Act→World→Prop) (hs:Sat P X ν g a w)
 (hn:∀r s ν' a' w',R r s→Sat P X ν' ⟨n8 g.sl d r,g.st⟩ a' w'→next a' w'):o.wp P a w next Q:=by
 have hfv:=hs.ev oE
 rw[hfn] at hfv
 simp only[aJ] at hfv
 obtain⟨vcap,hfv,lF⟩:=hfv
 have hxs:=Fk hs xs
 let Xc:Cx:=⟨w,Own ν (dV []),ν,dV [],X.Z⟩
 have hno:∀b,¬Own ν (dV []) b:=by rintro b ⟨k,e,h,_⟩;cases k<;>simp[dV] at h
 have hw:∀b,dk X ν g.at b→b<w.heap.size→dk Xc ν (dV []) b∧w.heap[b]?=w.heap[b]?:=fun b hb _=>⟨⟨hno b,hb.2⟩,rfl⟩
 have jU:∀b,Own ν g.at b→dk Xc ν (dV []) b:=fun b hb=>⟨hno b,hs.PG hb⟩
 have nq:aH w (dk Xc ν (dV [])) ν (dV []) dh (xs.map a.eval++vcap):=aH.vw hs hw jU _ ru (hxs.app lF)
 obtain⟨⟨fn,hfn1,hfn2,hfn3⟩,hC⟩:=hC
 have hr:(execOp a.eval o).run P w= .ok (.enter f ⟨xs.map a.eval++vcap⟩) w:=by
  have n1 : ¬ fn.name = "runtime.NumGoroutine" := by simpa using hfn3
  have n2:¬fn.body=none:=fun e=>by rw[e] at hfn2;cases hfn2
  simp[execOp,ho,resolve,hfv,Deferred.ofValue,invoke,callFunc,program,hfn1,n1,n2,Sem.run]
 have np:∀k,(⟨dh,[]⟩:G).at k=none:=fun k=>by cases k<;>rfl
 have hent:Sat P Xc ν ⟨dh,[]⟩ ⟨⟨xs.map a.eval++vcap⟩,[]⟩ w:=by
  refine⟨by simpa using nq.length,fun t=>?_,fun k e h=>?_,fun k k' e e' b h=>?_,fun b hb=>?_,fun k h=>?_,fun k h=>?_,⟨fun b hb=>?_,hs.kt rfl fun b hb=>(hno b hb).elim⟩,vg.refl _ w,rfl⟩;have key:∀(ps:List PV)(us:List Value)(t:Nat),aH w (dk Xc ν (dV [])) ν (dV []) ps us→aJ w (dk Xc ν (dV [])) ν (dV []) (nth ps t) (us.getD t Go.undef):=by
   intro ps;induction ps with
   | nil=>intro us t _;cases t<;>simp[nth,aJ]
   | cons p ps ih=>
    intro us t hr;cases us with
    | nil=>simp[aH] at hr
    | cons u us=>
     simp only[aH] at hr;cases t with
     | zero=>simpa[nth] using hr.1
     | succ t=>simpa[nth] using ih us t hr.2
  have:=key dh _ t nq;show aJ w (dk Xc ν (dV [])) ν (dV []) (nth dh t) ((⟨xs.map a.eval++vcap⟩:Array Value).getD t Go.undef);simpa[Array.getD_eq_getD_getElem?] using this;rw[np] at h;cases h;rw[np] at h;cases h;exact(hno b hb).elim;rw[np] at h;cases h;exact⟨rfl,h⟩;exact⟨Nat.lt_of_lt_of_le (hs.Jy b hb).1 hs.Da.size,hno b⟩
 unfold Oper.wp
 rw[hr,Oper.upon_enter]
 refine(hC Xc (xs.map a.eval++vcap) rfl rfl hent).mono ?_
 rintro e w' ⟨v,res,st',ν',rfl,hRr,je⟩
 show next (a.put o.dst v) w'
 rw[hd]
 refine hn res st' ν _ _ hRr (hs.abY (je.Da.mono fun b hb _=>hno b hb) d res v fun _ _=>?_)
 have:=je.sl 0
 exact aJ.sc res v (hR _ _ hRr) this
section
variable{E:Env}{g:G}{d:Nat}{ty:TypeId}{pos:String}{fK:Array Edge}{gd:Option (Nat×Bool)}
theorem ac5(oE:Operand)(xs:List Operand)(tys:Array TypeId)(f:FuncId)(cap:List PV)(hfn:g.ev oE= .fn f cap)(ks:List Nat)(dh:List PV)(res:PV)(hC:C E.P f dh [] (jF res []))
 (ru:wq g ks (xs.map g.ev++cap) dh) (hsc:sc res=true) :
 mM E.P ⟨some d,.call ⟨.value oE,⟨xs⟩,tys⟩,ty,pos,fK,gd⟩ g ⟨ez oE++xs.flatMap ez,ks⟩ ⟨some (d,res),[]⟩:=by
 intro g2 hg
 have e1:=hg.ev (x:=oE) (fun t h=>by simp[h])
 have e2:=x8 hg xs (fun t h=>by simp only[aO];exact .inr h)
 intro X ν a w next Q hs hn
 refine ac0 rfl rfl (by rw[e1,hfn]) ks dh (jF res []) hC (by rw[e2];exact ru.agree (fun k hk=>hg.p k hk)) (fun r s h=>by rw[h.1];exact hsc) X ν a w next Q hs ?_
 rintro r s ν' a' w' ⟨rfl,rfl⟩ hs'
 exact hn ν' a' w' hs'
end
def Fin(E:Env)(rs:List ResultVar)(n0:Nat)(R:PV→List (Option En)→Prop)(g:G):Prop:=∃g',pS E.P n0 g g'∧afn E rs n0 R g'
theorem Fin.plain{E:Env}{rs:List ResultVar}{R:PV→List (Option En)→Prop}{g:G}(ps:List PV)(q:PV)(h1:yv E g rs=some ps)(h2:cv (jd ps) q)(hl:q.lt 0=true)(hR:R q []):True:=trivial
end Go.Eng
namespace Go.Eng
open Go.RowKit
inductive De where
 | go(R:Rd)(δ:Dl)
 | qH(φ:Prop)(R:Rd)(δ:Dl)
 | stop
def De.Ok(P:Program)(o:Oper)(g:G):De→Prop
 | .go R δ=>mM P o g R δ
 | .qH φ R δ=>φ→mM P o g R δ
 | .stop=>True
def zY:Nat→Nat→Bool
 | 0,_=>true
 | _+1,0=>false
 | n+1,m+1=>zY n m
theorem mX:∀{n m:Nat},zY n m=true→n≤m
 | 0,_,_=>bo _
 | n+1,0,h=>by simp[zY] at h
 | n+1,m+1,h=>Nat.succ_le_succ (mX (by simpa[zY] using h))
def M1:Nat→Nat→Bool
 | 0,0=>true
 | n+1,m+1=>M1 n m
 | _,_=>false
theorem AR:∀{n m:Nat},M1 n m=true→n=m
 | 0,0,_=>rfl
 | n+1,m+1,h=>congrArg (·+1) (AR (by simpa[M1] using h))
 | 0,m+1,h=>by simp[M1] at h
 | n+1,0,h=>by simp[M1] at h
def Ph:List D→Nat
 | []=>0
 | _::as=>Ph as+1
theorem Qi:∀(l:List D),Ph l=l.length
 | []=>rfl
 | _::as=>by simp[Ph,Qi as]
theorem XB{n:Nat}{l:List D}(h:zY n (Ph l)=true):n≤l.length:=by
 have:=mX h
 rwa [Qi] at this
theorem adl{n:Nat}{l:List D}(h:M1 (Ph l) n=true):l.length=n:=by
 have:=AR h
 rwa [Qi] at this
def lX:List (Option En)→Nat
 | []=>0
 | _::as=>lX as+1
theorem pZ:∀(l:List (Option En)),lX l=l.length
 | []=>rfl
 | _::as=>by simp[lX,pZ as]
def Al:List PV→Nat
 | []=>0
 | _::as=>Al as+1
theorem qK:∀(l:List PV),Al l=l.length
 | []=>rfl
 | _::as=>by simp[Al,qK as]
def G.new(g:G):Nat:=lX g.st
theorem G.nW(g:G):g.at g.new=none:=Ll (by unfold G.new;rw[pZ];exact aK _)
def tk:Nat→List PV→List PV
 | 0,_=>[]
 | _+1,[]=>[]
 | n+1,a::as=>a::tk n as
theorem NN:∀(n:Nat)(l:List PV),tk n l=l.take n
 | 0,l=>by simp[tk]
 | n+1,[]=>by simp[tk]
 | n+1,a::as=>by simp[tk,NN n as]
def dr:Nat→List PV→List PV
 | 0,l=>l
 | _+1,[]=>[]
 | n+1,_::as=>dr n as
theorem O8:∀(n:Nat)(l:List PV),dr n l=l.drop n
 | 0,l=>by simp[dr]
 | n+1,[]=>by simp[dr]
 | n+1,a::as=>by simp[dr,O8 n as]
def Us:List PV→List PV→List PV
 | cs,[]=>cs
 | [],vs=>vs
 | _::cs,v::vs=>v::Us cs vs
def UD:List PV→Nat→List PV→List PV
 | cs,0,vs=>Us cs vs
 | [],_+1,vs=>vs
 | c::cs,n+1,vs=>c::UD cs n vs
theorem WA:∀(cs vs:List PV),vs.length≤cs.length→Us cs vs=vs++cs.drop vs.length
 | cs,[],_=>by cases cs<;>simp[Us]
 | [],v::vs,h=>by simp at h
 | c::cs,v::vs,h=>by simp[Us,WA cs vs (by simpa using h)]
theorem Pg:∀(cs:List PV)(n:Nat)(vs:List PV),n+vs.length≤cs.length→UD cs n vs=DR cs n vs
 | cs,0,vs,h=>by rw[eu] at h;have e:UD cs 0 vs=Us cs vs:=(by cases cs<;>rfl);rw[e,WA cs vs h];simp[DR]
 | [],n+1,vs,h=>by simp at h
 | c::cs,n+1,vs,h=>by have:=Pg cs n vs (by simp at h;omega);simp only[UD,this,DR];rw[show n+1+vs.length=n+vs.length+1 by omega];simp
def Uw:List (Nat×Nat×Nat)→Nat→Option (Nat×Nat×Nat)
 | [],_=>none
 | a::_,0=>some a
 | _::as,n+1=>Uw as n
theorem Rt:∀(l:List (Nat×Nat×Nat))(n:Nat),Uw l n=l[n]?
 | [],n=>by simp[Uw]
 | a::as,0=>rfl
 | a::as,n+1=>by simp[Uw,Rt as n]
def Zh:List PV→Nat→Option PV
 | [],_=>none
 | a::_,0=>some a
 | _::as,n+1=>Zh as n
theorem Xz:∀(l:List PV)(n:Nat),Zh l n=l[n]?
 | [],n=>by simp[Zh]
 | a::as,0=>rfl
 | a::as,n+1=>by simp[Zh,Xz as n]
def pls:List (Nat×Nat×Nat)→List (Nat×Nat)
 | []=>[]
 | (_,o,s)::r=>(o,s)::pls r
theorem aa8:∀(l:List (Nat×Nat×Nat)),pls l=l.map fun x=>(x.2.1,x.2.2)
 | []=>rfl
 | (a,o,s)::r=>by simp[pls,aa8 r]
def evp(g:G):List (Nat×Operand)→List (Nat×PV)
 | []=>[]
 | (i,x)::r=>(i,g.ev x)::evp g r
theorem aat(g:G):∀(l:List (Nat×Operand)),evp g l=l.map fun x=>(x.1,g.ev x.2)
 | []=>rfl
 | (i,x)::r=>by simp[evp,aat g r]
def ev2(g:G):List (Nat×Operand)→List PV
 | []=>[]
 | (_,x)::r=>g.ev x::ev2 g r
theorem UK(g:G):∀(l:List (Nat×Operand)),ev2 g l=l.map fun x=>g.ev x.2
 | []=>rfl
 | (i,x)::r=>by simp[ev2,UK g r]
def ix2:List (Nat×Operand)→List Nat
 | []=>[]
 | (i,_)::r=>i::ix2 r
theorem Ui:∀(l:List (Nat×Operand)),ix2 l=l.map (·.1)
 | []=>rfl
 | (i,x)::r=>by simp[ix2,Ui r]
def sl2:List (Nat×Operand)→List Nat
 | []=>[]
 | (_,x)::r=>ez x++sl2 r
theorem Ra:∀(l:List (Nat×Operand)),sl2 l=l.flatMap fun x=>ez x.2
 | []=>rfl
 | (i,x)::r=>by simp[sl2,Ra r]
def Vt:List (Nat×Operand)→Nat
 | []=>0
 | _::r=>Vt r+1
theorem P4:∀(l:List (Nat×Operand)),Vt l=l.length
 | []=>rfl
 | (i,x)::r=>by simp[Vt,P4 r]
def YF:List (Nat×Nat)→Nat→Option (Nat×Nat)
 | [],_=>none
 | a::_,0=>some a
 | _::as,n+1=>YF as n
theorem W0:∀(l:List (Nat×Nat))(n:Nat),YF l n=l[n]?
 | [],n=>by simp[YF]
 | a::as,0=>rfl
 | a::as,n+1=>by simp[YF,W0 as n]
def Sq(places:List (Nat×Nat))(cs:List PV):List (Nat×PV)→Option (List PV)
 | []=>some cs
 | (i,p)::rest=>
   match YF places i with
   | none=>none
   | some (off,sz)=>match p.whole,kP (Al (fJ p)) sz,zY (off+sz) (Al cs) with
     | true,true,true=>Sq places (UD cs off (fJ p)) rest
     | _,_,_=>none
theorem Wy:∀(rest:List (Nat×PV))(places:List (Nat×Nat))(cs r:List PV),Sq places cs rest=some r→K4 places cs rest=some r
 | [],_,_,_,h=>h
 | (i,p)::rest,places,cs,r,h=>by simp only[Sq] at h;simp only[K4];split at h;cases h;rename_i off sz hpl;rw[W0] at hpl;rw[hpl];simp only;split at h;rename_i h1 h2 h3;have h2:Al (fJ p)=sz:=b7 h2;rw[qK] at h2;have h3:=mX h3;rw[qK] at h3;rw[if_pos ⟨h1,h2,h3⟩];rw[Pg _ _ _ oM] at h;exact Wy rest places _ r h;cases h
def i64(p:PV):Option Int:=match p with | .d (.val (.int .i64 n))=>some n|_=>none
def iop(d:Nat)(R:Rd):BinOp→Int→Int→De
 | .add,m,n=>.qH (YK (m+n)) R ⟨some (d,.d (.val (.int .i64 (m+n)))),[]⟩
 | .sub,m,n=>.qH (YK (m-n)) R ⟨some (d,.d (.val (.int .i64 (m-n)))),[]⟩
 | .mul,m,n=>.qH (YK (m*n)) R ⟨some (d,.d (.val (.int .i64 (m*n)))),[]⟩
 | .quo,m,n=>.qH (n≠0∧YK (m.tdiv n)) R ⟨some (d,.d (.val (.int .i64 (m.tdiv n)))),[]⟩
 | .rem,m,n=>.qH (n≠0) R ⟨some (d,.d (.val (.int .i64 (m.tmod n)))),[]⟩
 | _,_,_=>.stop
def cop(d:Nat)(R:Rd):BinOp→Int→Int→De
 | .eql,m,n=>.go R ⟨some (d,.d (.val (.bool (m == n)))),[]⟩
 | .neq,m,n=>.go R ⟨some (d,.d (.val (.bool (m != n)))),[]⟩
 | .lss,m,n=>.go R ⟨some (d,.d (.val (.bool (decide (m<n))))),[]⟩
 | .leq,m,n=>.go R ⟨some (d,.d (.val (.bool (decide (m≤n))))),[]⟩
 | .gtr,m,n=>.go R ⟨some (d,.d (.val (.bool (decide (m>n))))),[]⟩
 | .geq,m,n=>.go R ⟨some (d,.d (.val (.bool (decide (m≥n))))),[]⟩
 | _,_,_=>.stop
def aeE:BinOp→Bool
 | .eql=>true
 | .neq=>true
 | .lss=>true
 | .leq=>true
 | .gtr=>true
 | .geq=>true
 | _=>false
def sop(d:Nat)(R:Rd):BinOp→List UInt8→List UInt8→De
 | .add,l,m=>.qH (l.length+m.length≤LB) R ⟨some (d,.d (.str (l++m))),[]⟩
 | .eql,l,m=>.go R ⟨some (d,.d (.val (.bool (l == m)))),[]⟩
 | .neq,l,m=>.go R ⟨some (d,.d (.val (.bool (!(l == m))))),[]⟩
 | .lss,l,m=>.go R ⟨some (d,.d (.val (.bool (Op.bytesLess l m)))),[]⟩
 | .leq,l,m=>.go R ⟨some (d,.d (.val (.bool (Op.bytesLess l m||l == m)))),[]⟩
 | .gtr,l,m=>.go R ⟨some (d,.d (.val (.bool (!(Op.bytesLess l m||l == m))))),[]⟩
 | .geq,l,m=>.go R ⟨some (d,.d (.val (.bool (!Op.bytesLess l m)))),[]⟩
 | _,_,_=>.stop
def Z5:IntKind→IntKind→Bool
 | .i64,.i64=>true
 | .u8,.u8=>true
 | .u64,.u64=>true
 | .u32,.u32=>true
 | _,_=>false
theorem P8{a b:IntKind}(h:Z5 a b=true):a=b:=by cases a<;>cases b<;>first|rfl|(cases h;done)
def bop(E:Env)(g:G)(d:Nat)(b:BinOp)(t:TypeId)(x y:Operand):De:=
 match g.ev x,g.ev y with
 | .d (.val (.int k m)),.d (.val (.int k' n))=>
   match Z5 k k' with
   | true=>match aeE b with
     | true=>cop d ⟨ez x++ez y,[]⟩ b m n
     | false=>match Z5 k .i64 with
       | true=>iop d ⟨ez x++ez y,[]⟩ b m n
       | false=>.stop
   | false=>.stop
 | .d (.str l),.d (.str m)=>sop d ⟨ez x++ez y,[]⟩ b l m
 | .d (.val (.bool m)),.d (.val (.bool n))=>
   match E.ti t with
   | some ti=>match ti.ty,b with
     | .bool,.eql=>.go ⟨ez x++ez y,[]⟩ ⟨some (d,.d (.val (.bool (m == n)))),[]⟩
     | .bool,.neq=>.go ⟨ez x++ez y,[]⟩ ⟨some (d,.d (.val (.bool (!(m == n))))),[]⟩
     | _,_=>.stop
   | none=>.stop
 | _,_=>.stop
section
variable{E:Env}{g:G}{d:Nat}{ty:TypeId}{pos:String}{fK:Array Edge}{gd:Option (Nat×Bool)}{dn:Option Nat}
theorem agd(b:BinOp)(m n:Int)(t u:TypeId)(x y:Operand)(hx:g.ev x= .d (.val (.int .i64 m)))(hy:g.ev y= .d (.val (.int .i64 n))) :
 (iop d ⟨ez x++ez y,[]⟩ b m n).Ok E.P ⟨some d,.binOp b t x y u,ty,pos,fK,gd⟩ g:=by
 cases b<;>first
  | exact fun h=>af6 x y m n t u hx hy h
  | exact fun h=>afk x y m n t u hx hy h
  | exact fun h=>agj x y m n t u hx hy h
  | exact fun h=>afv x y m n t u hx hy h.1 h.2
  | exact fun h=>af5 x y m n t u hx hy h
  | exact trivial
theorem afJ(b:BinOp)(k:IntKind)(m n:Int)(t u:TypeId)(x y:Operand)(hx:g.ev x= .d (.val (.int k m)))(hy:g.ev y= .d (.val (.int k n))) :
 (cop d ⟨ez x++ez y,[]⟩ b m n).Ok E.P ⟨some d,.binOp b t x y u,ty,pos,fK,gd⟩ g:=by
 cases b<;>first
  | exact adS _ x y k m n _ t u hx hy rfl
  | exact trivial
theorem afU(b:BinOp)(l m:List UInt8)(t u:TypeId)(x y:Operand)(hx:g.ev x= .d (.str l))(hy:g.ev y= .d (.str m)) :
 (sop d ⟨ez x++ez y,[]⟩ b l m).Ok E.P ⟨some d,.binOp b t x y u,ty,pos,fK,gd⟩ g:=by
 cases b<;>first
  | exact fun h=>afC x y l m t u hx hy h
  | exact aee _ x y l m _ t u hx hy rfl
  | exact trivial
theorem af4(b:BinOp)(t u:TypeId)(x y:Operand):(bop E g d b t x y).Ok E.P ⟨some d,.binOp b t x y u,ty,pos,fK,gd⟩ g:=by unfold bop;split;rename_i k m k' n hx hy;split;rename_i hk;have hk:=P8 hk;subst hk;split;exact afJ b _ m n t u x y hx hy;split;rename_i hk;have hk:=P8 hk;subst hk;exact agd b m n t u x y hx hy;trivial;trivial;rename_i l m hx hy;exact afU b l m t u x y hx hy;rename_i m n hx hy;split;rename_i ti ht;split;rename_i mI;exact afl x y m n t u ti ht mI hx hy;rename_i mI;exact af8 x y m n t u ti ht mI hx hy;trivial;trivial;trivial
end
def T.pv:T→PV
 | .fM d=>.d d
 | .ref j=>.aX j
 | .own _ _=>.any
def pvT:List T→List PV
 | []=>[]
 | t::ts=>t.pv::pvT ts
def rb(xs:List (List T))(i:Nat):List T:=xs.getD i []
def nU:List T→Bool
 | []=>true
 | .own _ _::_=>false
 | _::ts=>nU ts
def vl:List (List T)→Bool
 | []=>true
 | x::xs=>nU x&&vl xs
def toT:PV→Option T
 | .d x=>some (.fM x)
 | .bW=>some (.fM (.eC []))
 | .aX j=>some (.ref j)
 | _=>none
def GP:List PV→Option (List T)
 | []=>some []
 | p::ps=>match toT p,GP ps with|some x,some xs=>some (x::xs)|_,_=>none
def UF:List T→Nat
 | []=>0
 | _::as=>UF as+1
theorem JO:∀(l:List T),UF l=l.length
 | []=>rfl
 | _::as=>by simp[UF,JO as]
theorem abp{xs:List (List T)}{i:Nat}(h:i<xs.length):xs[i]?=some (rb xs i):=by simp[rb,ct,af h]
section
variable{P:Program}{w:World}{ok:Nat→Prop}{ν:Nat→Nm}{st:Nat→Option En}
theorem mD.pv{t:T}{v:Value}{F:List Nat}(h:mD P w ok ν st t v F):aJ w ok ν st t.pv v:=by
 cases t with
 | fM d=>simp only[mD] at h;simp only[T.pv,aJ];exact h.1
 | ref j=>simp only[mD] at h;simp only[T.pv,aJ];exact⟨h.1,h.2.1⟩
 | own e xs=>simp only[T.pv,aJ]
theorem bq.pv:∀{ts:List T}{vs:List Value}{F:List Nat},bq P w ok ν st ts vs F→aH w ok ν st (pvT ts) vs
 | [],[],_,_=>by simp[pvT,aH]
 | [],_::_,_,h=>by simp[bq] at h
 | _::_,[],_,h=>by simp[bq] at h
 | t::ts,v::vs,F,h=>by simp only[bq] at h;obtain⟨F1,F2,h1,h2,_⟩:=h;simp only[pvT,aH];exact⟨h1.pv,h2.pv⟩
theorem mD.one{t:T}{v:Value}{F:List Nat}(h:mD P w ok ν st t v F)(hν:∀k,(st k).isSome=true→(ν k).v.oneCell'=true):v.oneCell'=true:=by
 cases t with
 | fM d=>simp only[mD] at h;exact h.1.one
 | ref j=>simp only[mD] at h;rw[h.2.1];exact hν j h.1
 | own e xs=>simp only[mD] at h;obtain⟨us,F1,h1,_⟩:=h;rcases h1.2 with⟨h2,_⟩|⟨b,c,cur,h2,_⟩<;>rw[h2]<;>rfl
theorem bq.one(hν:∀k,(st k).isSome=true→(ν k).v.oneCell'=true):∀{ts:List T}{vs:List Value}{F:List Nat},bq P w ok ν st ts vs F→∀v∈vs,v.oneCell'=true
 | [],[],_,_,v,hv=>by cases hv
 | [],_::_,_,h,_,_=>by simp[bq] at h
 | _::_,[],_,h,_,_=>by simp[bq] at h
 | t::ts,v::vs,F,h,u,hu=>by simp only[bq] at h;obtain⟨F1,F2,h1,h2,_⟩:=h;rcases az.1 hu with rfl|hu;exact h1.one hν;exact bq.one hν h2 u hu
theorem bP.one(hν:∀k,(st k).isSome=true→(ν k).v.oneCell'=true):∀{xs:List (List T)}{us:List (List Value)}{F:List Nat},bP P w ok ν st xs us F→∀u∈us,∀v∈u,v.oneCell'=true
 | [],[],_,_,v,hv=>by cases hv
 | [],_::_,_,h,_,_=>by simp[bP] at h
 | _::_,[],_,h,_,_=>by simp[bP] at h
 | t::ts,v::vs,F,h,u,hu=>by simp only[bP] at h;obtain⟨F1,F2,h1,h2,_⟩:=h;rcases az.1 hu with rfl|hu;exact h1.one hν;exact bP.one hν h2 u hu
theorem bq.len:∀{ts:List T}{vs:List Value}{F:List Nat},bq P w ok ν st ts vs F→vs.length=ts.length
 | [],[],_,_=>rfl
 | [],_::_,_,h=>by simp[bq] at h
 | _::_,[],_,h=>by simp[bq] at h
 | t::ts,v::vs,F,h=>by simp only[bq] at h;obtain⟨F1,F2,_,h2,_⟩:=h;simp[h2.len]
theorem bP.len:∀{ts:List (List T)}{vs:List (List Value)}{F:List Nat},bP P w ok ν st ts vs F→vs.length=ts.length
 | [],[],_,_=>rfl
 | [],_::_,_,h=>by simp[bP] at h
 | _::_,[],_,h=>by simp[bP] at h
 | t::ts,v::vs,F,h=>by simp only[bP] at h;obtain⟨F1,F2,_,h2,_⟩:=h;simp[h2.len]
theorem bq.append:∀{x y:List T}{u v:List Value}{F G:List Nat},bq P w ok ν st x u F→bq P w ok ν st y v G→bq P w ok ν st (x++y) (u++v) (F++G)
 | [],y,[],v,F,G,h,h'=>by simp only[bq] at h;subst h;simpa using h'
 | [],_,_::_,_,_,_,h,_=>by simp[bq] at h
 | _::_,_,[],_,_,_,h,_=>by simp[bq] at h
 | t::ts,y,a::u,v,F,G,h,h'=>by simp only[bq] at h;obtain⟨F1,F2,h1,h2,rfl⟩:=h;simp only[bI,bq];exact⟨F1,F2++G,h1,h2.append h',by rw[bC]⟩
theorem bP.append:∀{x y:List (List T)}{u v:List (List Value)}{F G:List Nat},bP P w ok ν st x u F→bP P w ok ν st y v G→bP P w ok ν st (x++y) (u++v) (F++G)
 | [],y,[],v,F,G,h,h'=>by simp only[bP] at h;subst h;simpa using h'
 | [],_,_::_,_,_,_,h,_=>by simp[bP] at h
 | _::_,_,[],_,_,_,h,_=>by simp[bP] at h
 | t::ts,y,a::u,v,F,G,h,h'=>by simp only[bP] at h;obtain⟨F1,F2,h1,h2,rfl⟩:=h;simp only[bI,bP];exact⟨F1,F2++G,h1,h2.append h',by rw[bC]⟩
theorem bq.split:∀(n:Nat){x:List T}{u:List Value}{F:List Nat},bq P w ok ν st x u F→∃F1 F2,bq P w ok ν st (x.take n) (u.take n) F1∧bq P w ok ν st (x.drop n) (u.drop n) F2∧F=F1++F2
 | 0,x,u,F,h=>⟨[],F,by simp[bq],by simpa using h,rfl⟩
 | n+1,[],[],F,h=>⟨[],F,by simp[bq],by simpa using h,rfl⟩
 | _+1,[],_::_,_,h=>by simp[bq] at h
 | _+1,_::_,[],_,h=>by simp[bq] at h
 | n+1,t::ts,a::u,F,h=>by simp only[bq] at h;obtain⟨F1,F2,h1,h2,rfl⟩:=h;obtain⟨G1,G2,k1,k2,rfl⟩:=bq.split n h2;refine⟨F1++G1,G2,?_,by simpa using k2,by rw[bC]⟩;simp only[dv,bq];exact⟨F1,G1,h1,k1,rfl⟩
theorem Js:∀{x:List T}{u:List Value}{F:List Nat},bq P w ok ν st x u F→nU x=true→F=[]
 | [],[],F,h,_=>by simpa only[bq] using h
 | [],_::_,_,h,_=>by simp[bq] at h
 | _::_,[],_,h,_=>by simp[bq] at h
 | t::ts,a::u,F,h,hn=>by
  simp only[bq] at h;obtain⟨F1,F2,h1,h2,rfl⟩:=h;cases t with
  | fM d=>simp only[mD] at h1;simp only[nU] at hn;rw[h1.2,Js h2 hn];rfl
  | ref j=>simp only[mD] at h1;simp only[nU] at hn;rw[h1.2.2,Js h2 hn];rfl
  | own e xs=>simp[nU] at hn
theorem R3:∀{x:List (List T)}{u:List (List Value)}{F:List Nat},bP P w ok ν st x u F→vl x=true→F=[]
 | [],[],F,h,_=>by simpa only[bP] using h
 | [],_::_,_,h,_=>by simp[bP] at h
 | _::_,[],_,h,_=>by simp[bP] at h
 | t::ts,a::u,F,h,hn=>by simp only[bP] at h;obtain⟨F1,F2,h1,h2,rfl⟩:=h;simp only[vl,ah] at hn;rw[Js h1 hn.1,R3 h2 hn.2];rfl
theorem bP.get:∀(i:Nat){xs:List (List T)}{us:List (List Value)}{F:List Nat},bP P w ok ν st xs us F→i<xs.length →
 ∃u G,us[i]?=some u∧bq P w ok ν st (rb xs i) u G∧∀(x':List T)(u':List Value),bq P w ok ν st x' u' G→bP P w ok ν st (xs.set i x') (us.set i u') F
 | _,[],_,_,_,hi=>by simp at hi
 | _,_::_,[],_,h,_=>by simp[bP] at h
 | 0,x::xs,u::us,F,h,_=>by simp only[bP] at h;obtain⟨F1,F2,h1,h2,rfl⟩:=h;refine⟨u,F1,rfl,h1,fun x' u' h'=>?_⟩;simp only[jX,bP];exact⟨F1,F2,h',h2,rfl⟩
 | i+1,x::xs,u::us,F,h,hi=>by simp only[bP] at h;obtain⟨F1,F2,h1,h2,rfl⟩:=h;obtain⟨u1,G,k1,k2,k3⟩:=bP.get i h2 (by simpa using hi);refine⟨u1,G,by simpa using k1,by simpa[rb] using k2,fun x' u' h'=>?_⟩;simp only[List.set_cons_succ,bP];exact⟨F1,F2,h1,k3 x' u' h',rfl⟩
theorem Se:∀{ps:List PV}{ts:List T},GP ps=some ts→ts.length=ps.length
 | [],ts,h=>by simp[GP] at h;simp[←h]
 | p::ps,ts,h=>by simp only[GP] at h;split at h;rename_i x xs h1 h2;obtain rfl:=Option.some.inj h;simp[Se h2];cases h
theorem Qj:∀{ps:List PV}{ts:List T}{vs:List Value},aH w ok ν st ps vs→GP ps=some ts→bq P w ok ν st ts vs []
 | [],ts,[],_,h=>by simp only[GP,Option.some.injEq] at h;subst h;simp only[bq]
 | [],_,_::_,h,_=>by simp[aH] at h
 | _::_,_,[],h,_=>by simp[aH] at h
 | p::ps,ts,v::vs,h,ht=>by
  simp only[GP] at ht;simp only[aH] at h;split at ht
  ·rename_i x xs h1 h2;obtain rfl:=Option.some.inj ht;simp only[bq];refine⟨[],[],?_,Qj h.2 h2,rfl⟩;have hp:=h.1;cases p<;>simp only[toT] at h1<;>first|(cases h1;done)|skip
   obtain rfl:=Option.some.inj h1;simp only[aJ] at hp;subst hp;simp only[mD,and_true];exact .nil;obtain rfl:=Option.some.inj h1;simp only[aJ] at hp;simp only[mD,and_true];exact hp;obtain rfl:=Option.some.inj h1;simp only[aJ] at hp;simp only[mD,and_true];exact hp
  cases ht
theorem Rh:∀{xs:List (List D)}{us:List (List Value)}{sz:Nat},de w ok sz xs us→bP P w ok ν st (lift xs) us []
 | [],us,sz,h=>by have:us=[]:=bR h.len;subst this;simp only[lift,dS,bP]
 | x::xs,[],sz,h=>by have:=h.len;simp at this
 | x::xs,u::us,sz,h=>by
  have h1:∀(x:List D)(u:List Value),x.length=u.length→(∀(j:Nat)(d:D)(v:Value),x[j]?=some d→u[j]?=some v→jD w ok d v)→bq P w ok ν st (x.map T.fM) u []:=by
   intro x;induction x with
   | nil=>intro u hl _;cases u with
     | nil=>simp[bq]
     | cons a b=>simp at hl
   | cons d x ih=>intro u hl hr;cases u with
     | nil=>simp at hl
     | cons v u=>simp only[aV,bq,mD];exact⟨[],[],⟨hr 0 d v rfl rfl,rfl⟩,ih u (by simpa using hl) fun j d' v' k1 k2=>hr (j+1) d' v' (by simpa using k1) (by simpa using k2),rfl⟩
  have h2:de w ok sz xs us:=⟨by simpa using h.len,fun i y hy=>h.hx (i+1) y (by simpa using hy),fun i y hy=>h.hu (i+1) y (by simpa using hy),fun i j y u d v k1 k2 k3 k4=>h.hr (i+1) j y u d v (by simpa using k1) (by simpa using k2) k3 k4⟩;have:=Rh h2;simp only[lift,aV,bP] at this⊢;exact⟨[],[],h1 x u (by rw[h.hx 0 x rfl,h.hu 0 u rfl]) fun j d v k1 k2=>h.hr 0 j x u d v rfl rfl k1 k2,this,rfl⟩
theorem Bf{sz:Nat}{us:List (List Value)}(hu:∀(i:Nat)(u:List Value),us[i]?=some u→u.length=sz)(h1:∀u∈us,∀v∈u,v.oneCell'=true):de w ok sz (us.map fun u=>u.map D.val) us:=by
 refine⟨by simp,fun i x hx=>?_,hu,fun i j x u d v k1 k2 k3 k4=>?_⟩
 ·rw[jx] at hx;cases hq:us[i]? with
  | none=>rw[hq] at hx;cases hx
  | some u=>rw[hq] at hx;obtain rfl:=Option.some.inj hx;simp[hu i u hq]
 rw[jx,k2] at k1;obtain rfl:=Option.some.inj k1;rw[jx,k4] at k3;obtain rfl:=Option.some.inj k3;exact .val v (h1 u (dH k2) v (dH k4))
end
section
variable{P:Program}{X:Cx}{ν:Nat→Nm}{g:G}{a:Act}{w:World}
theorem y9(h:Sat P X ν g a w){k e:Nat}{xs:List (List T)}(hk:g.at k=some (.gD e xs)):∃us:List (List Value),w.ownsRow 0 e (P.cellsOf e) (ν k).v xs.length us.flatten ∧
 (∀(i:Nat)(u:List Value),us[i]?=some u→u.length=P.cellsOf e)∧bP P w (dk X ν g.at) ν g.at xs us (ν k).f∧xs.length≤LB∧(hb (ν k).v++(ν k).f).Nodup:=by
 obtain⟨h1,h2⟩:=h.en k _ hk
 simp only[mD] at h1
 obtain⟨us,F1,k1,k2,k3,k4,k5⟩:=h1
 have:F1=(ν k).f:=(List.append_cancel_left k5).symm
 exact⟨us,k1,k2,this▸k3,k4,h2⟩
theorem Dh{ok:Nat→Prop}{st:Nat→Option En}{k e:Nat}{xs:List (List T)}{us:List (List Value)}(h1:w.ownsRow 0 e (P.cellsOf e) (ν k).v xs.length us.flatten)
 (h2:∀(i:Nat)(u:List Value),us[i]?=some u→u.length=P.cellsOf e) (h3:bP P w ok ν st xs us (ν k).f) (h4:xs.length≤LB) (h5:(hb (ν k).v++(ν k).f).Nodup):mS P w ok ν st k (.gD e xs):=by
 refine⟨?_,h5⟩
 simp only[mD]
 exact⟨us,(ν k).f,h1,h2,h3,h4,rfl⟩
theorem Yy(h:Sat P X ν g a w){k e:Nat}{xs:List (List T)}(hk:g.at k=some (.gD e xs)):∃b c,(ν k).v= .slice b xs.length c:=by obtain⟨us,ho,_⟩:=y9 h hk;rcases ho.2 with⟨h1,h2⟩|⟨b,cap,cur,h1,_⟩;exact⟨none,0,by rw[h1,h2]⟩;exact⟨_,cap,h1⟩
theorem rT:∀(l:List (Option En))(k:Nat)(x y:Option En),dW (dW l k x) k y=dW l k y
 | [],0,_,_=>rfl
 | [],n+1,x,y=>by simp[dW,rT [] n x y]
 | _::_,0,_,_=>rfl
 | a::as,n+1,x,y=>by simp[dW,rT as n x y]
theorem Sat.lift(h:Sat P X ν g a w){k e:Nat}{xs:List (List D)}(hk:g.at k=some (.aX e xs)):Sat P X ν ⟨g.sl,dW g.st k (some (.gD e (lift xs)))⟩ a w:=by
 have:=h.Gh (w':=w) k (.aX e xs) (.gD e (Eng.lift xs)) hk rfl (vg.refl _ w) none .undef Go.undef ?_ (fun h=>by cases h);exact this;intro hw hm;obtain⟨us,ho,kS,hB,hf0⟩:=h.en k _ hk;have hl:(Eng.lift xs).length=xs.length:=by simp[Eng.lift]
 refine Dh (us:=us) (by rw[hl];exact ho) (fun i u hu=>kS.hu i u hu) ?_ (by rw[hl];exact hB) ?_;rw[hf0];exact Rh (kS.frame hw (aK _));rw[hf0,bE];unfold hb;split<;>simp
end
section
variable{E:Env}{g:G}{d:Nat}{ty:TypeId}{pos:String}{fK:Array Edge}{gd:Option (Nat×Bool)}{dn:Option Nat}
theorem Sl(x:Operand)(t k i off sz e:Nat)(ti ei:TI)(xs:List (List T))(ht:E.ti t=some ti)(he:E.ti e=some ei)(hsz:sz=ei.n)(hx:g.ev x= .jg k i off sz)(hk:g.at k=some (.gD e xs))
 (hi:i<xs.length) (hl:off+ti.n≤(rb xs i).length) :
 mM E.P ⟨some d,.load t x,ty,pos,fK,gd⟩ g ⟨ez x,[k]⟩ ⟨some (d,W5 ti.isAgg (((pvT (rb xs i)).drop off).take ti.n)),[]⟩:=by
 intro g2 hg
 have h1:=hg.ev (x:=x) (fun t h=>h)
 have h3:=(hg.p k (by simp)).trans hk
 refine HC.val rfl fun X ν a w hs=>?_
 have hv:=hs.ev x
 rw[h1,hx] at hv
 simp only[aJ] at hv
 obtain⟨_,b,n,c,hb,hv⟩:=hv
 obtain⟨us,ho,hul,hr,_⟩:=y9 hs h3
 have hcell:=sr ho hb
 rw[(E.ok e ei he).cells] at hul
 obtain⟨u,G,hu,hc,_⟩:=hr.get i hi
 have qI:=hc.pv
 have hlenu:=hc.len
 have hrep':=(qI.drop off).take ti.n
 have eO:((u.drop off).take ti.n).length=ti.n:=by simp;omega
 have hca:lU w b (i*ei.n+off) ((u.drop off).take ti.n):=by
  have h0:=hcell.sub (us':=(u.drop off).take ti.n) (i*ei.n+off) (fun j x hx=>by
   rw[dR] at hx
   split at hx
   ·rw[eV] at hx
    have:=FT us i (off+j) u x hul hu hx
    rw[Nat.add_assoc];exact this
   ·cases hx)
  simpa using h0
 subst hsz
 obtain⟨v,ou,hvv⟩:=tm (E.ok t ti ht) w b _ _ eO hca
 refine⟨v,?_,BL hrep' hvv⟩
 simp only[execOp,hv,Instr.loadAt,Instr.sureAddr,Sem.run_bind,Sem.run_pure,Result.andThen_ok,ou]
theorem V5(x y:Operand)(s:Nat)(si ei:TI)(e k:Nat)(xs:List (List T))(n:Int)(hs:E.ti s=some si)(rG:si.ty= .slice e)(he:E.ti e=some ei)(hx:g.ev x= .aX k)(hk:g.at k=some (.gD e xs))(hy:g.ev y= .d (.val (.int .i64 n)))
 (h0:0≤n) (nS:n.toNat<xs.length) :
 mM E.P ⟨some d,.indexAddr s x y,ty,pos,fK,gd⟩ g ⟨ez x++ez y,[k]⟩ ⟨some (d,.jg k n.toNat 0 ei.n),[]⟩:=by
 intro g2 hg
 have h1:=hg.ev (x:=x) (fun t h=>by simp[h])
 have h2:=hg.ev (x:=y) (fun t h=>by simp[h])
 have h3:=(hg.p k (by simp)).trans hk
 refine HC.val rfl fun X ν a w hs'=>?_
 have hu:=(E.ok s si hs).ty
 rw[rG] at hu
 have hv:=hs'.ev x
 rw[h1,hx] at hv
 have oI:=hs'.ev y
 rw[h2,hy] at oI
 have oI:=ig oI
 simp only[aJ] at hv⊢
 obtain⟨us,ho,_⟩:=y9 hs' h3
 rcases ho.2 with⟨_,hn⟩|⟨b,cap,cur,hb,_⟩
 ·omega
 ·have hlt':n<(xs.length:Int):=oM
  refine⟨.pointer (some ⟨b,n.toNat*ei.n,none⟩),?_,by rw[h3];rfl,b,xs.length,cap,hb,rfl⟩
  simp[execOp,hv.2,hb,oI,Instr.indexAt,asIntOf,run_underlying hu,h0,hlt',(E.ok e ei he).size,add_lit]
theorem Um(x:Operand)(s:Nat)(si:TI)(e' e k:Nat)(xs:List (List T))(hs:E.ti s=some si)(rG:si.ty= .slice e')(hx:g.ev x= .aX k)(hk:g.at k=some (.gD e xs)) :
 mM E.P ⟨some d,.call ⟨.builtin .len,#[x],#[s]⟩,ty,pos,fK,gd⟩ g ⟨ez x,[k]⟩ ⟨some (d,.d (.val (.int .i64 (xs.length:Int)))),[]⟩:=by
 intro g2 hg
 have h1:=hg.ev (x:=x) (fun t h=>h)
 have h3:=(hg.p k (by simp)).trans hk
 refine HC.val rfl fun X ν a w hs'=>?_
 have hu:=(E.ok s si hs).ty
 rw[rG] at hu
 have hv:=hs'.ev x
 rw[h1,hx] at hv
 simp only[aJ] at hv
 obtain⟨b,c,hb⟩:=Yy hs' h3
 exact⟨_,An rfl a w _ (by rw[hv.2,hb];exact run_len_slice hu _ _ _ _ _),qd rfl⟩
theorem Fc(x y:Operand)(t k i off sz e:Nat)(ti ei:TI)(xs:List (List T))(p:PV)(cs:List T)(ht:E.ti t=some ti)(he:E.ti e=some ei)(hsz:sz=ei.n)(hx:g.ev x= .jg k i off sz)(hk:g.at k=some (.gD e xs))(hy:g.ev y=p)
 (hi:i<xs.length) (hl:off+ti.n≤ei.n) (hp:p.whole=true) (hn:(fJ p).length=ti.n) (hcs:GP (fJ p)=some cs) (hno:nU (((rb xs i).drop off).take ti.n)=true) :
 mM E.P ⟨dn,.store t x y,ty,pos,fK,gd⟩ g ⟨ez x++ez y++dn.toList,[k]⟩ ⟨dn.map fun d=>(d,.undef),[(k,.gD e (xs.set i (wm (rb xs i) off cs)))]⟩:=by
 intro g2 hg
 have e1:=hg.ev (x:=x) (fun t h=>by simp[h])
 have e2:=hg.ev (x:=y) (fun t h=>by simp[h])
 have h3:=(hg.p k (by simp)).trans hk
 intro X ν a w next Q hs hnx
 have hv:=hs.ev x
 rw[e1,hx] at hv
 have hw:=hs.ev y
 rw[e2,hy] at hw
 simp only[aJ] at hv
 obtain⟨_,b,n,c,hb,hv⟩:=hv
 obtain⟨us,ho,hul,kS,hB,hnd⟩:=y9 hs h3
 have sk:=hw.cells hp hs.nu
 have eO:=sk.length
 have htc:=Qj (P:=E.P) sk hcs
 rw[(E.ok e ei he).cells] at hul ho
 subst hsz
 rcases ho.2 with⟨h1,h2⟩|⟨b',cap,cur,h1,_,h2,h4,h5,h6,h7⟩
 ·omega
 ·rw[h1] at hb
  obtain⟨rfl,rfl,rfl⟩:b'=b∧xs.length=n∧cap=c:=by simpa using hb
  have hull:us.length=xs.length:=kS.len
  have hfl:=(Bf (w:=w) (ok:=fun _=>True) hul (kS.one hs.nu)).mZ
  rw[cW] at hfl
  have hmulle:(i+1)*ei.n≤xs.length*ei.n:=bu _ hi
  have hmulle2:xs.length*ei.n≤cap*ei.n:=bu _ h4
  have hadd:(i+1)*ei.n=i*ei.n+ei.n:=by rw[dx];omega
  have hone:∀u∈(a.eval y).cells.toList,u.oneCell'=true:=htc.one hs.nu
  have hvl:(a.eval y).cells.toList.length=ti.n:=by rw[eO,hn]
  have ou:=zq (E.ok t ti ht) w b' (i*ei.n+off) e cur (a.eval y) h2 hvl oM hone
  have hr:(execOp a.eval ⟨dn,.store t x y,ty,pos,fK,gd⟩).run E.P w= .ok .skip (w.setRow b' (cur.toList.take (i*ei.n+off)++(a.eval y).cells.toList++cur.toList.drop (i*ei.n+off+(a.eval y).cells.toList.length)).toArray):=by simp only[execOp,hv,Instr.storeAt,Instr.sureAddr,Sem.run_bind,Sem.run_pure,Result.andThen_ok,ou]
  have hcur:cur.toList=us.flatten++cur.toList.drop (xs.length*ei.n):=by rw[←h7];exact(jM _ _).symm
  have hnew:cur.toList.take (i*ei.n+off)++(a.eval y).cells.toList++cur.toList.drop (i*ei.n+off+(a.eval y).cells.toList.length)=(us.set i (wm (us.getD i []) off (a.eval y).cells.toList)).flatten++cur.toList.drop (xs.length*ei.n):=by have:=Ko us i off (a.eval y).cells.toList (cur.toList.drop (xs.length*ei.n)) hul oM oM;rw[←hcur] at this;rw[←this,bC];rfl
  obtain⟨u,G,hu,hc,hset⟩:=kS.get i hi
  have hug:us.getD i []=u:=by simp[ct,hu]
  have huil:=hul i u hu
  have hxil:(rb xs i).length=ei.n:=by rw[←hc.len];exact huil
  have hcsl:cs.length=ti.n:=by rw[Se hcs,hn]
  obtain⟨G1,G2,c1,c2,rfl⟩:=hc.split off
  obtain⟨G3,G4,c3,c4,rfl⟩:=c2.split ti.n
  have hG3:G3=[]:=Js c3 hno
  subst hG3
  have rA:=hset (wm (rb xs i) off cs) (wm u off (a.eval y).cells.toList) (by unfold wm;refine c1.append ?_;refine htc.append ?_;rw[kH,kH] at c4;rw[hcsl,hvl];exact c4)
  rw[←hug] at rA
  have hul':∀(j:Nat)(z:List Value),(us.set i (wm (us.getD i []) off (a.eval y).cells.toList))[j]?=some z→z.length=ei.n:=by intro j z hz;rw[mq] at hz;by_cases hij:i=j;subst hij;rw[if_pos rfl,if_pos oM] at hz;obtain rfl:=Option.some.inj hz;rw[hug,P7 _ _ _ (by rw[huil,hvl];exact hl),huil];rw[if_neg hij] at hz;exact hul j z hz
  have hf2:=(Bf (w:=w) (ok:=fun _=>True) hul' (rA.one hs.nu)).mZ
  rw[cW,kU] at hf2
  have hbF:∀b∈(ν k).f,b≠b':=by intro b hbf hbe;rw[h1] at hnd;exact(dU.1 hnd).2.2 b' (Gu.2 rfl) b hbf hbe.symm
  unfold Oper.wp
  rw[hr,Oper.upon_skip,hnew]
  refine hnx _ _ _ (hs.Gh k (.gD e xs) (.gD e (xs.set i (wm (rb xs i) off cs))) h3 rfl (mE w b' _ _ (.inl (by rw[h1];rfl))) dn .undef Go.undef ?_ ?_)
  ·intro hwf hm
   refine Dh (us:=us.set i (wm (us.getD i []) off (a.eval y).cells.toList)) ?_ ?_ ?_ (by simpa using hB) hnd
   ·rw[(E.ok e ei he).cells,h1]
    rw[hull] at hfl hf2
    refine⟨by rw[hf2,kU],.inr ⟨b',cap,_,by simp,bo _,setRow_heap w b' _ _ e _ h2,by simpa using h4,h5,?_,?_⟩⟩
    ·simp only[fx,aP,hf2,eG,gE,h6]
     omega
    ·rw[kU,cI (by rw[hf2];exact aK _),aq (by rw[hf2];exact aK _)]
   ·rw[(E.ok e ei he).cells];exact hul'
   ·refine rA.frame hwf (by simp[World.setRow]) hm _ _ _ fun b hb=>?_
    have lj:=hbF b hb
    exact(mE w b' _ (fun c=>c=b') rfl).block b (kS.lt _ _ _ b hb) lj
  ·intro _
   simp only[aJ]
theorem Df:∀(x:List D),nU (x.map T.fM)=true
 | []=>rfl
 | d::x=>by simp[nU,Df x]
theorem Yt:∀{x:List T}(n m:Nat),nU x=true→nU ((x.drop n).take m)=true:=by
 have h1:∀(x:List T)(n:Nat),nU x=true→nU (x.drop n)=true:=by
  intro x;induction x with
  | nil=>intro n h;simpa using h
  | cons t x ih=>
   intro n h;cases n with
   | zero=>exact h
   | succ n=>
    cases t with
    | own e xs=>simp[nU] at h
    | fM d=>exact ih n (by simpa[nU] using h)
    | ref d=>exact ih n (by simpa[nU] using h)
 have h2:∀(x:List T)(n:Nat),nU x=true→nU (x.take n)=true:=by
  intro x;induction x with
  | nil=>intro n h;simpa using h
  | cons t x ih=>
   intro n h;cases n with
   | zero=>rfl
   | succ n=>
    cases t with
    | own e xs=>simp[nU] at h
    | fM d=>simpa[nU] using ih n (by simpa[nU] using h)
    | ref d=>simpa[nU] using ih n (by simpa[nU] using h)
 intro x n m h;exact h2 _ m (h1 _ n h)
theorem abH(xs:List (List D))(i:Nat):rb (lift xs) i=(row xs i).map T.fM:=by unfold rb lift row;simp only[List.getD_eq_getElem?_getD,jx];cases xs[i]?<;>rfl
theorem Il:∀(xs:List (List D)),vl (lift xs)=true
 | []=>rfl
 | x::xs=>by have:=Il xs;simp only[lift,aV,vl,ah] at this⊢;exact⟨Df x,this⟩
theorem Rk(x y:Operand)(t k i off sz e:Nat)(ti ei:TI)(xs:List (List D))(p:PV)(cs:List T)(ht:E.ti t=some ti)(he:E.ti e=some ei)(hsz:sz=ei.n)(hx:g.ev x= .jg k i off sz)(hk:g.at k=some (.aX e xs))(hy:g.ev y=p)
 (hi:i<xs.length) (hl:off+ti.n≤ei.n) (hp:p.whole=true) (hn:(fJ p).length=ti.n) (hcs:GP (fJ p)=some cs) :
 mM E.P ⟨dn,.store t x y,ty,pos,fK,gd⟩ g ⟨ez x++ez y++dn.toList,[k]⟩ ⟨dn.map fun d=>(d,.undef),[(k,.gD e ((lift xs).set i (wm (rb (lift xs) i) off cs)))]⟩:=by
 intro g2 hg X ν a w next Q hs hnx
 have e1:=hg.ev (x:=x) (fun t h=>by simp[h])
 have e2:=hg.ev (x:=y) (fun t h=>by simp[h])
 have h3:=(hg.p k (by simp)).trans hk
 have hs2:=hs.lift h3
 have hev:∀z,(⟨g2.sl,dW g2.st k (some (.gD e (lift xs)))⟩:G).ev z=g2.ev z:=fun z=>by cases z<;>rfl
 refine Fc (g:=⟨g2.sl,dW g2.st k (some (.gD e (lift xs)))⟩) x y t k i off sz e ti ei (lift xs) p cs ht he hsz (by rw[hev,e1];exact hx) ?_ (by rw[hev,e2];exact hy) (by rw[vq];exact hi) hl hp hn hcs ?_ _ ⟨fun _ _=>rfl,fun _ _=>rfl⟩ X ν a w next Q hs2 ?_
 ·rw[ym,if_pos rfl]
 ·rw[abH]
  exact Yt _ _ (Df _)
 ·intro ν' a' w' h
  refine hnx ν' a' w' ?_
  simpa only[G.app,B4,rT] using h
end
section
variable{E:Env}{g:G}{d:Nat}{ty:TypeId}{pos:String}{fK:Array Edge}{gd:Option (Nat×Bool)}{dn:Option Nat}
def Px(E:Env)(sz:Nat)(g:G)(p:PV)(ys:List (List T)):Prop:=
 (∃ys',Ay E sz g p ys'∧ys=lift ys')∨(∃m e ei,p= .aX m∧g.at m=some (.gD e ys)∧E.ti e=some ei∧ei.n=sz∧vl ys=true)
theorem Px.agree{R:Rd}{g g2:G}(h:FF R g g2){sz:Nat}{p:PV}{ys:List (List T)}(hp:∀k∈Cj p,k∈R.p)(ha:Px E sz g p ys):Px E sz g2 p ys:=by rcases ha with⟨ys',h1,h2⟩|⟨m,e,ei,rfl,hk,he,hz⟩;exact .inl ⟨ys',h1.agree h hp,h2⟩;exact .inr ⟨m,e,ei,rfl,(h.p m (hp m (by simp[Cj]))).trans hk,he,hz⟩
theorem KO{X:Cx}{ν:Nat→Nm}{g:G}{a:Act}{w:World}{sz:Nat}{p:PV}{ys:List (List T)}{v:Value}(h:Sat E.P X ν g a w)(ha:Px E sz g p ys)(hv:aJ w (dk X ν g.at) ν g.at p v) :
 ∃vs:List (List Value),bP E.P w (dk X ν g.at) ν g.at ys vs []∧(∀(i:Nat)(u:List Value),vs[i]?=some u→u.length=sz)∧BS w v vs∧ys.length≤LB:=by
 rcases ha with⟨ys',h1,rfl⟩|⟨m,e,ei,rfl,hk,he,hz,hn⟩
 ·obtain⟨vs,h2,h3,h4⟩:=zp (P0:=E.P) h h1 hv
  exact⟨vs,Rh h2,h2.hu,h3,by rw[vq];exact h4⟩
 ·simp only[aJ] at hv
  obtain⟨us,ho,hul,kS,hB,hnd⟩:=y9 h hk
  have hf:=R3 kS hn
  rw[hf] at kS
  refine⟨us,kS,fun i u hu=>by rw[←hz,← (E.ok e ei he).cells];exact hul i u hu,?_,hB⟩
  rw[hv.2]
  have hl:=kS.len
  rcases ho.2 with⟨h1,h2⟩|⟨b,cap,cur,h1,_⟩
  ·left
   refine⟨⟨none,0,h1⟩,bR (by rw[hl];exact h2)⟩
  ·right
   exact⟨b,0,cap,by rw[h1,hl],sr ho h1⟩
theorem K0{v:Value}{F:List Nat}(hF:F.Nodup)(h:∀b,zV v=some b→b∉F):(hb v++F).Nodup:=by
 unfold hb;cases hv:zV v with
 | none=>simpa using hF
 | some b=>simpa using ⟨h b hv,hF⟩
theorem row_one{w:World}{e sz n:Nat}{v:Value}{us:List Value}(h:w.ownsRow 0 e sz v n us):v.oneCell'=true:=by rcases h.2 with⟨h,_⟩|⟨b,c,cur,h,_⟩<;>rw[h]<;>rfl
theorem LS(s x:Operand)(t e k':Nat)(ti ei:TI)(p:PV)(ys:List (List T))(ht:E.ti t=some ti)(mI:ti.ty= .slice e)(he:E.ti e=some ei)(hs:g.ev s= .bW)(hx:g.ev x=p)(ha:Px E ei.n g p ys)(hk':g.at k'=none)
 (hlb:ys.length≤LB) (hby:ys.length*ei.bytes≤140737488355328) :
 mM E.P ⟨some d,.call ⟨.builtin .append,#[s,x],#[t,t]⟩,ty,pos,fK,gd⟩ g ⟨ez s++ez x,k'::Cj p⟩ ⟨some (d,.aX k'),[(k',.gD e ys)]⟩:=by
 intro g2 hg
 have e1:=hg.ev (x:=s) (fun t h=>by simp[h])
 have e2:=hg.ev (x:=x) (fun t h=>by simp[h])
 have h3:=(hg.p k' (by simp)).trans hk'
 have ha2:=ha.agree hg (fun k h=>by simp[h])
 intro X ν a w next Q je hn
 have hv:=je.ev s
 rw[e1,hs] at hv
 have oI:=je.ev x
 rw[e2,hx] at oI
 simp only[aJ] at hv
 obtain⟨vs,htr,hul,hsl,_⟩:=KO je ha2 oI
 have hraw:=Bf (w:=w) (ok:=fun _=>True) hul (htr.one je.nu)
 have hl:=htr.len
 obtain⟨v',w',k1,k2,k3,k4⟩:=rk ht mI he w ty (.slice none 0 0) (a.eval x) 0 [] _ vs _ (World.ownsRow_nil w 0 e ei.n) hraw hsl (by simpa[hl] using hlb) (by simpa[hl] using hby)
 have hr:=wP (E:=E) (o:=⟨some d,.call ⟨.builtin .append,#[s,x],#[t,t]⟩,ty,pos,fK,gd⟩) rfl a w w' v' (by rw[hv];exact k1)
 unfold Oper.wp
 rw[hr,Oper.upon_value]
 simp only[eu,bS,cW,hl] at k2
 refine hn _ _ _ (je.Bj (k3.mono fun b hb _=>by simp[zV] at hb) k' h3 (.gD e ys) ⟨v',[]⟩ (row_one k2) (fun b hb=>(k4 b ((mi rfl).1 hb)).resolve_left (by simp[zV])) d _ _ ?_ ?_)
 ·intro ok st ν' hν hw hm
  refine Dh (us:=vs) (by rw[hν,(E.ok e ei he).cells];exact k2) (by rw[(E.ok e ei he).cells];exact hul) ?_ hlb (by rw[hν];exact K0 List.nodup_nil (by simp))
  rw[hν]
  exact htr.frame hw k3.size hm _ _ _ (by simp)
 ·intro ok st ν' hν ld hw hm
  simp only[aJ]
  exact⟨by rw[ld];rfl,by rw[hν]⟩
theorem vz(s x:Operand)(t e k k':Nat)(ti ei:TI)(p:PV)(xs ys:List (List T))(ht:E.ti t=some ti)(mI:ti.ty= .slice e)(he:E.ti e=some ei)(hs:g.ev s= .aX k)(hk:g.at k=some (.gD e xs))(hx:g.ev x=p)(ha:Px E ei.n g p ys)(hk':g.at k'=none)
 (hlb:xs.length+ys.length≤LB) (hby:(xs.length+ys.length)*ei.bytes≤140737488355328) :
 mM E.P ⟨some d,.call ⟨.builtin .append,#[s,x],#[t,t]⟩,ty,pos,fK,gd⟩ g ⟨ez s++ez x,k::k'::Cj p⟩ ⟨some (d,.aX k'),[(k,.dead),(k',.gD e (xs++ys))]⟩:=by
 intro g2 hg
 have e1:=hg.ev (x:=s) (fun t h=>by simp[h])
 have e2:=hg.ev (x:=x) (fun t h=>by simp[h])
 have h2:=(hg.p k (by simp)).trans hk
 have h3:=(hg.p k' (by simp)).trans hk'
 have ha2:=ha.agree hg (fun k h=>by simp[h])
 intro X ν a w next Q je hn
 have hv:=je.ev s
 rw[e1,hs] at hv
 have oI:=je.ev x
 rw[e2,hx] at oI
 simp only[aJ] at hv
 obtain⟨vs,htr,hul,hsl,_⟩:=KO je ha2 oI
 have hraw:=Bf (w:=w) (ok:=fun _=>True) hul (htr.one je.nu)
 have hl:=htr.len
 obtain⟨us,jU,huu,hru,hB,hnd⟩:=y9 je h2
 rw[(E.ok e ei he).cells] at jU huu
 obtain⟨v',w',k1,k2,k3,k4⟩:=rk ht mI he w ty (ν k).v (a.eval x) xs.length us.flatten _ vs _ jU hraw hsl (by simpa[hl] using hlb) (by simpa[hl] using hby)
 have hr:=wP (E:=E) (o:=⟨some d,.call ⟨.builtin .append,#[s,x],#[t,t]⟩,ty,pos,fK,gd⟩) rfl a w w' v' (by rw[hv.2];exact k1)
 unfold Oper.wp
 rw[hr,Oper.upon_value]
 simp only[cW,hl] at k2
 have hnd2:=dU.1 hnd
 have hnb:∀b∈(ν k).f,zV (ν k).v≠some b:=fun b hb hc=>hnd2.2.2 b (Gu.2 hc) b hb rfl
 have nS:∀b∈(ν k).f,b<w.heap.size:=fun b hb=>hru.lt _ _ _ b hb
 refine hn _ _ _ (je.move (some k) (fun j hj=>⟨_,by obtain rfl:=Option.some.inj hj;exact h2,rfl⟩) (k3.mono fun b hb _=>⟨k,rfl,.inl hb⟩) k' h3 (.gD e (xs++ys)) ⟨v',(ν k).f⟩ (row_one k2)
  (fun b hb=>hb.elim (fun h=>(k4 b h).imp (fun h=>⟨k,rfl,.inl h⟩) id) fun h=>.inl ⟨k,rfl,.inr h⟩) d _ _ ?_ ?_)
 ·intro ok st ν' hν hw hm
  refine Dh (us:=us++vs) ?_ ?_ ?_ (by simpa using hlb) ?_
  ·rw[hν,(E.ok e ei he).cells,aP,List.flatten_append];exact k2
  ·rw[(E.ok e ei he).cells]
   intro i u hu
   rcases cz i us.length with hi|hi
   ·rw[bF hi] at hu;exact huu i u hu
   ·rw[bO hi] at hu;exact hul _ u hu
  ·rw[hν]
   have h1:=hru.frame hw k3.size hm _ _ _ fun b hb=>k3.block b (nS b hb) (hnb b hb)
   have h2:=htr.frame hw k3.size hm _ _ _ (by simp)
   have:=h1.append h2
   rwa [bE] at this
  ·rw[hν]
   refine K0 hnd2.2.1 fun b hb hm=>?_
   rcases k4 b hb with h|h
   ·exact hnb b hm h
   ·have:=nS b hm;omega
 ·intro ok st ν' hν ld hw hm
  simp only[aJ]
  exact⟨by rw[ld];rfl,by rw[hν]⟩
theorem LA(s x:Operand)(t e k k':Nat)(ti ei:TI)(p:PV)(xs:List (List D))(ys:List (List T))(ht:E.ti t=some ti)(mI:ti.ty= .slice e)(he:E.ti e=some ei)(hs:g.ev s= .aX k)(hk:g.at k=some (.aX e xs))(hx:g.ev x=p)(ha:Px E ei.n g p ys)(hk':g.at k'=none)
 (hlb:xs.length+ys.length≤LB) (hby:(xs.length+ys.length)*ei.bytes≤140737488355328) :
 mM E.P ⟨some d,.call ⟨.builtin .append,#[s,x],#[t,t]⟩,ty,pos,fK,gd⟩ g ⟨ez s++ez x,k::k'::Cj p⟩ ⟨some (d,.aX k'),[(k,.dead),(k',.gD e (lift xs++ys))]⟩:=by
 intro g2 hg X ν a w next Q hs' hnx
 have e1:=hg.ev (x:=s) (fun t h=>by simp[h])
 have e2:=hg.ev (x:=x) (fun t h=>by simp[h])
 have h3:=(hg.p k (by simp)).trans hk
 have h4:=(hg.p k' (by simp)).trans hk'
 have ha2:=ha.agree hg (fun k h=>by simp[h])
 have hs2:=hs'.lift h3
 have hev:∀z,(⟨g2.sl,dW g2.st k (some (.gD e (lift xs)))⟩:G).ev z=g2.ev z:=fun z=>by cases z<;>rfl
 have hkk:k'≠k:=fun h=>by rw[h,h3] at h4;cases h4
 have ha3:Px E ei.n ⟨g2.sl,dW g2.st k (some (.gD e (lift xs)))⟩ p ys:=by rcases ha2 with⟨ys',h1,rfl⟩|⟨m,e',ei',rfl,hm,he',hz,hn⟩;by_cases hp:p= .aX k;subst hp;rcases h1 with⟨h,_⟩|⟨h,_⟩|⟨m,e',ei',h,hm,he',hz⟩|⟨_,_,h,_⟩;cases h;cases h;obtain rfl:k=m:=(by simpa using h);rw[h3] at hm;obtain⟨rfl,rfl⟩:e=e'∧xs=ys':=(by simpa using hm);exact .inr ⟨k,e,ei',rfl,by rw[ym,if_pos rfl],he',hz,Il _⟩;cases h;refine .inl ⟨ys',?_,rfl⟩;rcases h1 with h|h|⟨m,e',ei',h,hm,he',hz⟩|h;exact .inl h;exact .inr (.inl h);exact .inr (.inr (.inl ⟨m,e',ei',h,by rw[ym,if_neg (fun hc=>hp (by rw[h,hc]))];exact hm,he',hz⟩));exact .inr (.inr (.inr h));refine .inr ⟨m,e',ei',rfl,?_,he',hz,hn⟩;rw[ym,if_neg (fun hc=>by rw[hc,h3] at hm;cases hm)];exact hm
 refine vz (g:=⟨g2.sl,dW g2.st k (some (.gD e (lift xs)))⟩) s x t e k k' ti ei p (lift xs) ys ht mI he (by rw[hev,e1];exact hs) (by rw[ym,if_pos rfl]) (by rw[hev,e2];exact hx) ha3 (by rw[ym,if_neg hkk];exact h4)
  (by rw[vq];exact hlb) (by rw[vq];exact hby) _ ⟨fun _ _=>rfl,fun _ _=>rfl⟩ X ν a w next Q hs2 ?_
 intro ν' a' w' h
 refine hnx ν' a' w' ?_
 simpa only[G.app,B4,rT] using h
def Nw:List PV→Option (List (List T))
 | []=>some []
 | p::ps=>match p.whole,GP (fJ p),Nw ps with
   | true,some x,some xs=>some (x::xs)
   | _,_,_=>none
def BE(n:Nat):List (List T)→Bool
 | []=>true
 | x::xs=>M1 (UF x) n&&BE n xs
theorem Sn:∀{qs:List PV}{aw:List (List T)},Nw qs=some aw→aw.length=qs.length
 | [],aw,h=>by simp[Nw] at h;simp[←h]
 | q::qs,aw,h=>by simp only[Nw] at h;split at h;rename_i h1 h2 h3;obtain rfl:=Option.some.inj h;simp[Sn h3];cases h
def LY(v:Value):PV:=if(∀u∈v.cells.toList,u.oneCell'=true) then(if v.oneCell'=true then .d (.val v) else .agg (v.cells.toList.map fun u=>.d (.val u))) else .any
theorem aeK{w:World}{ok:Nat→Prop}{ν:Nat→Nm}{st:Nat→Option En}:∀(cs:List Value),(∀u∈cs,u.oneCell'=true)→aH w ok ν st (cs.map fun u=>.d (.val u)) cs
 | [],_=>by simp[aH]
 | u::cs,h=>by simp only[aV,aH,aJ];exact⟨.val u (h u (by simp)),aeK cs fun u hu=>h u (by simp[hu])⟩
theorem R7:∀(cs:List Value),Dp (cs.map fun u=>.d (.val u))=some (cs.map D.val)
 | []=>rfl
 | u::cs=>by simp[Dp,toD,R7 cs]
theorem aet{w:World}{ok:Nat→Prop}{ν:Nat→Nm}{st:Nat→Option En}(v:Value):aJ w ok ν st (LY v) v:=by
 unfold LY;by_cases h:∀u∈v.cells.toList,u.oneCell'=true
 ·rw[if_pos h];by_cases h1:v.oneCell'=true;rw[if_pos h1];simp only[aJ];exact .val v h1;rw[if_neg h1];cases v with
  | agg cs=>simp only[aJ];exact⟨_,rfl,aeK _ h⟩
  | _=>exact absurd (h _ (List.mem_singleton.2 rfl)) h1
 rw[if_neg h];simp only[aJ]
theorem adA(v:Value)(h:∀u∈v.cells.toList,u.oneCell'=true):(LY v).whole=true∧Dp (fJ (LY v))=some (v.cells.toList.map D.val):=by unfold LY;rw[if_pos h];by_cases h1:v.oneCell'=true;rw[if_pos h1,Fj h1];exact⟨rfl,rfl⟩;rw[if_neg h1];exact⟨rfl,R7 _⟩
theorem SY(ρ:Operand→Value):∀(ps:List (Nat×Operand)),(∀x∈ps,∀u∈(ρ x.2).cells.toList,u.oneCell'=true)→rowsOf (ps.map fun x=>LY (ρ x.2))=some (ps.map fun x=>(ρ x.2).cells.toList.map D.val)
 | [],_=>rfl
 | x::ps,h=>by obtain⟨h1,h2⟩:=adA (ρ x.2) (h x (by simp));simp only[aV,rowsOf];rw[if_pos h1,h2,SY ρ ps fun y hy=>h y (by simp[hy])]
theorem Kr(ρ:Operand→Value)(n:Nat):∀(ps:List (Nat×Operand)),(∀x∈ps,(ρ x.2).cells.toList.length=n)→xq n (ps.map fun x=>(ρ x.2).cells.toList.map D.val)=true
 | [],_=>rfl
 | x::ps,h=>by have:=h x (by simp);simp only[aV,xq,ah,cW,beq_iff_eq];exact⟨this,Kr ρ n ps fun y hy=>h y (by simp[hy])⟩
theorem afz{w:World}{ok:Nat→Prop}{sz:Nat}{vs us:List (List Value)}(hv:∀v∈vs,v.length=sz)(h:de w ok sz (vs.map fun u=>u.map D.val) us):us=vs:=by
 have hl:=h.len;rw[cW] at hl;refine List.ext_getElem hl fun i h1 h2=>?_;have e1:(vs.map fun u=>u.map D.val)[i]?=some (vs[i].map D.val):=by simp[af h2]
 have e2:=af h1;have l1:=h.hu i _ e2;have l2:=hv _ (List.getElem_mem h2);refine List.ext_getElem (by rw[l1,l2]) fun j h3 h4=>?_;exact(h.hr i j _ _ (.val vs[i][j]) _ e1 e2 (by simp[af h4]) (af h3)).Ju
theorem ZG{t e:Nat}{ti ei:TI}(ht:E.ti t=some ti)(mI:ti.ty= .slice e)(he:E.ti e=some ei)(a:Act)(w:World)(ps:List (Nat×Operand))(hup:MI 0 (ps.map (·.1))=true)
 (h1:∀x∈ps,∀u∈(a.eval x.2).cells.toList,u.oneCell'=true) (h2:∀x∈ps,(a.eval x.2).cells.toList.length=ei.n) (hbig:ps.length*ei.n≤16777216) {o:Oper} (ho:o.op= .buildSlice t ps.length ⟨ps⟩) :
 (execOp a.eval o).run E.P w= .ok (.value (.slice (some ⟨w.heap.size,0,none⟩) ps.length ps.length)) (w.alloc (.cells ⟨(ps.map fun x=>(a.eval x.2).cells.toList).flatten⟩ e)):=by
 obtain⟨i,z,k1,k2,k4,k5,k6,k7⟩:=(E.ok e ei he).info
 have hu:=(E.ok t ti ht).ty
 rw[mI] at hu
 have hpos:=(E.ok e ei he).pos
 have key:∀init:Array Value,init.size=ps.length*ei.n→Instr.fill (fun i=>some (i*ei.n,ei.n)) init (ps.map fun x=>(x.1,a.eval x.2))=some ⟨(ps.map fun x=>(a.eval x.2).cells.toList).flatten⟩:=by
  intro init hi;obtain⟨us,m1,m2⟩:=F3 (w:=w) (ok:=fun _=>True) (ν:=fun _=>⟨.bool false,[]⟩) (st:=fun _=>none) (fun _ h=>by cases h) ei.n (fun x=>LY (a.eval x)) a.eval (fun x=>aet _) ps 0 [] init _ hup (SY a.eval ps h1) (Kr a.eval ei.n ps h2) (by simp) (by simp) (by simpa using hi);have e1:(ps.map fun x=>(a.eval x.2).cells.toList.map D.val)=(ps.map fun x=>(a.eval x.2).cells.toList).map fun u=>u.map D.val:=(by simp);rw[e1] at m2;have:=afz (by
   intro v hv
   obtain⟨x,hx,rfl⟩:=bN.1 hv
   exact h2 x hx) m2
  subst this;simpa using m1
 by_cases hz:ps.length*ei.n=0
 ·have m1:=key ((Array.range 0).map fun _=>default) (by rw[Array.size_map,Array.size_range,hz])
  simp only[execOp,ho,jW,Instr.buildSlice,Sem.run_bind,run_underlying hu,Result.andThen_ok,(E.ok e ei he).size w,hz]
  simp[m1,newRow]
 ·have m1:=key ((Array.range (ps.length*ei.n)).map (z.cells[· % z.cells.size]!)) (by simp)
  have hn:¬ps.length*ei.n>16777216:=oM
  simp only[execOp,ho,jW,Instr.buildSlice,Sem.run_bind,run_underlying hu,Result.andThen_ok,(E.ok e ei he).size w]
  simp[hn,hz,zeroValue,typeInfo,k1,k5,m1,newRow]
theorem WE{w:World}{ok:Nat→Prop}{ν:Nat→Nm}{st:Nat→Option En}(hν:∀k,(st k).isSome=true→(ν k).v.oneCell'=true)(ev:Operand→PV)(ρ:Operand→Value)(hev:∀x,aJ w ok ν st (ev x) (ρ x))(n:Nat) :
 ∀(ps:List (Nat×Operand))(aw:List (List T)),Nw (ps.map fun x=>ev x.2)=some aw→BE n aw=true →
  bP E.P w ok ν st aw (ps.map fun x=>(ρ x.2).cells.toList) []∧(∀x∈ps,∀u∈(ρ x.2).cells.toList,u.oneCell'=true)∧(∀x∈ps,(ρ x.2).cells.toList.length=n)
 | [],aw,h,_=>by simp only[dS,Nw,Option.some.injEq] at h;subst h;exact⟨by simp[bP],by simp,by simp⟩
 | x::ps,aw,h,hl=>by simp only[aV,Nw] at h;split at h;rename_i row rows' h1 h2 h3;obtain rfl:=Option.some.inj h;simp only[BE,ah] at hl;have hl1:=AR hl.1;rw[JO] at hl1;obtain⟨k1,k2,k3⟩:=WE hν ev ρ hev n ps rows' h3 hl.2;have hc:=(hev x.2).cells h1 hν;have ht:=Qj (P:=E.P) hc h2;refine⟨?_,?_,?_⟩;simp only[aV,bP];exact⟨[],[],ht,k1,rfl⟩;intro y hy;rcases az.1 hy with rfl|hy;exact ht.one hν;exact k2 y hy;intro y hy;rcases az.1 hy with rfl|hy;rw[ht.len];exact hl1;exact k3 y hy;cases h
theorem T1(t e n k:Nat)(ps:List (Nat×Operand))(ti ei:TI)(aw:List (List T))(ht:E.ti t=some ti)(mI:ti.ty= .slice e)(he:E.ti e=some ei)(hn:n=ps.length)(hup:MI 0 (ps.map (·.1))=true)
 (hr:Nw (ps.map fun x=>g.ev x.2)=some aw) (eO:BE ei.n aw=true) (hbig:ps.length*ei.n≤16777216) (hk:g.at k=none) :
 mM E.P ⟨some d,.buildSlice t n ⟨ps⟩,ty,pos,fK,gd⟩ g ⟨ps.flatMap fun x=>ez x.2,[k]⟩ ⟨some (d,.aX k),[(k,.gD e aw)]⟩:=by
 subst hn
 intro g2 hg
 have hmap:ps.map (fun x=>g2.ev x.2)=ps.map (fun x=>g.ev x.2):=by apply k9;intro x hx;rw[hg.ev (x:=x.2) (fun t h=>hX.2 ⟨x,hx,h⟩)]
 have h3:=(hg.p k (by simp)).trans hk
 rw[←hmap] at hr
 intro X ν a w next Q hs hnx
 obtain⟨htr,m1,m2⟩:=WE hs.nu g2.ev a.eval hs.ev ei.n ps aw hr eO
 have ou:=ZG ht mI he a w ps hup m1 m2 hbig (o:=⟨some d,.buildSlice t ps.length ⟨ps⟩,ty,pos,fK,gd⟩) rfl
 have hpos:=(E.ok e ei he).pos
 have hrl:=Sn hr
 simp only[cW] at hrl
 have hle:ps.length≤16777216:=fv (ni _ hpos) hbig
 have hul:∀(i:Nat)(u:List Value),(ps.map fun x=>(a.eval x.2).cells.toList)[i]?=some u→u.length=ei.n:=by intro i u hu;obtain⟨x,hx,rfl⟩:=bN.1 (dH hu);exact m2 x hx
 have hfl:=(Bf (w:=w) (ok:=fun _=>True) hul (htr.one hs.nu)).mZ
 simp only[cW] at hfl
 unfold Oper.wp
 rw[ou,Oper.upon_value]
 have rA:=World.ownsRow_lit w (e:=e) (⟨(ps.map fun x=>(a.eval x.2).cells.toList).flatten⟩:Array Value) aw.length (base:=0) (size:=ei.n) (bo _) (by simp only[maxLen];omega) (by rw[hrl];simpa using hfl)
 refine hnx _ _ _ (hs.Bj (lE w _) k h3 (.gD e aw) ⟨.slice (some ⟨w.heap.size,0,none⟩) ps.length ps.length,[]⟩ rfl (fun b hb=>?_) d _ _ ?_ ?_)
 ·obtain rfl:w.heap.size=b:=by simpa[Nm.has,zV] using hb
  exact aK _
 ·intro ok st ν' hν hw hm
  refine Dh (us:=ps.map fun x=>(a.eval x.2).cells.toList) ?_ (by rw[(E.ok e ei he).cells];exact hul) ?_ (by unfold LB;omega) (by rw[hν];exact K0 List.nodup_nil (by simp))
  ·rw[hν,(E.ok e ei he).cells,←hrl]
   exact rA
  ·rw[hν]
   exact htr.frame hw (lE w _).size hm _ _ _ (by simp)
 ·intro ok st ν' hν ld hw hm
  simp only[aJ]
  exact⟨by rw[ld];rfl,by rw[hν]⟩
end
def tkT:Nat→List T→List T
 | 0,_=>[]
 | _+1,[]=>[]
 | n+1,a::as=>a::tkT n as
theorem T9:∀(n:Nat)(l:List T),tkT n l=l.take n
 | 0,l=>by simp[tkT]
 | n+1,[]=>by simp[tkT]
 | n+1,a::as=>by simp[tkT,T9 n as]
def drT:Nat→List T→List T
 | 0,l=>l
 | _+1,[]=>[]
 | n+1,_::as=>drT n as
theorem VM:∀(n:Nat)(l:List T),drT n l=l.drop n
 | 0,l=>by simp[drT]
 | n+1,[]=>by simp[drT]
 | n+1,a::as=>by simp[drT,VM n as]
def apT:List T→List T→List T
 | [],ys=>ys
 | x::xs,ys=>x::apT xs ys
theorem ZL:∀(xs ys:List T),apT xs ys=xs++ys
 | [],ys=>rfl
 | x::xs,ys=>by simp[apT,ZL xs ys]
def adw(cs:List T)(off:Nat)(vs:List T):List T:=apT (tkT off cs) (apT vs (drT (off+UF vs) cs))
theorem adK(cs:List T)(off:Nat)(vs:List T):adw cs off vs=wm cs off vs:=by simp only[adw,wm,ZL,T9,VM,JO]
def Pl(g:G)(d:Nat)(c x y:Operand):De:=
 match g.ev c with
 | .d (.val (.bool true))=>.go ⟨ez c++ez x,[]⟩ ⟨some (d,g.ev x),[]⟩
 | .d (.val (.bool false))=>.go ⟨ez c++ez y,[]⟩ ⟨some (d,g.ev y),[]⟩
 | _=>.stop
def Mn(E:Env)(g:G)(d:Nat)(t:TypeId):De:=
 match E.ti t with
 | some ti=>.go ⟨[],[g.new]⟩ ⟨some (d,.bA g.new 0),[(g.new,.box ti.zero)]⟩
 | none=>.stop
def Vx(g:G)(d:Nat)(x:Operand):De:=
 match(g.ev x).whole with
 | true=>.go ⟨ez x,[g.new]⟩ ⟨some (d,.bA g.new 0),[(g.new,.box (fJ (g.ev x)))]⟩
 | false=>.stop
def Jn(E:Env)(g:G)(d:Nat)(t:TypeId)(x:Operand):De:=
 match E.ti t with
 | none=>.stop
 | some ti=>
   match g.ev x with
   | .bA k off=>
     match g.at k with
     | some (.box cs)=>match zY (off+ti.n) (Al cs) with
       | true=>.go ⟨ez x,[k]⟩ ⟨some (d,W5 ti.isAgg (tk ti.n (dr off cs))),[]⟩
       | false=>.stop
     | _=>.stop
   | .ib xs i off=>.qH (zY (off+ti.n) (Ph (row xs i))=true) ⟨ez x,[]⟩ ⟨some (d,W5 ti.isAgg (tk ti.n (dr off (dm (row xs i))))),[]⟩
   | .jg k i off sz=>
     match g.at k with
     | some (.aX e xs)=>match E.ti e with
       | some ei=>.qH (M1 sz ei.n=true∧i<xs.length∧zY (off+ti.n) (Ph (row xs i))=true) ⟨ez x,[k]⟩ ⟨some (d,W5 ti.isAgg (tk ti.n (dr off (dm (row xs i))))),[]⟩
       | none=>.stop
     | some (.gD e xs)=>match E.ti e with
       | some ei=>.qH (M1 sz ei.n=true∧i<xs.length∧zY (off+ti.n) (UF (rb xs i))=true) ⟨ez x,[k]⟩ ⟨some (d,W5 ti.isAgg (tk ti.n (dr off (pvT (rb xs i))))),[]⟩
       | none=>.stop
     | _=>.stop
   | _=>.stop
def Pv(E:Env)(g:G)(d:Nat)(s:TypeId)(x:Operand)(f:Nat):De:=
 match E.ti s with
 | none=>.stop
 | some si=>match si.ty with
   | .struct fs=>match Uw fs f with
     | some (_,fo,_)=>match g.ev x with
       | .bA k off=>.go ⟨ez x,[]⟩ ⟨some (d,.bA k (off+fo)),[]⟩
       | .ib xs i off=>.go ⟨ez x,[]⟩ ⟨some (d,.ib xs i (off+fo)),[]⟩
       | .jg k i off sz=>.go ⟨ez x,[]⟩ ⟨some (d,.jg k i (off+fo) sz),[]⟩
       | _=>.stop
     | none=>.stop
   | _=>.stop
def EA(E:Env)(g:G)(d:Nat)(s:TypeId)(x:Operand)(f:Nat):De:=
 match E.ti s with
 | none=>.stop
 | some si=>match si.ty with
   | .struct fs=>match Uw fs f with
     | some (ft,fo,_)=>match E.ti ft with
       | none=>.stop
       | some fi=>match g.ev x with
         | .agg cs=>match zY (fo+fi.n) (Al cs) with
           | true=>.go ⟨ez x,[]⟩ ⟨some (d,W5 fi.isAgg (tk fi.n (dr fo cs))),[]⟩
           | false=>.stop
         | _=>.stop
     | none=>.stop
   | _=>.stop
def JE(E:Env)(g:G)(d:Nat)(s:TypeId)(x y:Operand):De:=
 match E.ti s with
 | none=>.stop
 | some si=>match g.ev y with
   | .d (.val (.int .i64 n))=>match si.ty with
     | .slice e=>match E.ti e with
       | none=>.stop
       | some ei=>match g.ev x with
         | .d (.eC xs)=>.qH (0≤n∧n.toNat<xs.length∧M1 (Ph (row xs n.toNat)) ei.n=true) ⟨ez x++ez y,[]⟩ ⟨some (d,.ib xs n.toNat 0),[]⟩
         | .aX k=>match g.at k with
           | some (.aX e' xs)=>match kP e e' with
             | true=>.qH (0≤n∧n.toNat<xs.length) ⟨ez x++ez y,[k]⟩ ⟨some (d,.jg k n.toNat 0 ei.n),[]⟩
             | false=>.stop
           | some (.gD e' xs)=>match kP e e' with
             | true=>.qH (0≤n∧n.toNat<xs.length) ⟨ez x++ez y,[k]⟩ ⟨some (d,.jg k n.toNat 0 ei.n),[]⟩
             | false=>.stop
           | _=>.stop
         | _=>.stop
     | .arr len e=>match E.ti e with
       | none=>.stop
       | some ei=>match g.ev x with
         | .bA k off=>.qH (0≤n∧n.toNat<len) ⟨ez x++ez y,[]⟩ ⟨some (d,.bA k (off+n.toNat*ei.n)),[]⟩
         | _=>.stop
     | _=>.stop
   | _=>.stop
def PQ(E:Env)(g:G)(d:Nat)(s:TypeId)(x y:Operand):De:=
 match E.ti s with
 | none=>.stop
 | some si=>match g.ev y with
   | .d (.val (.int .i64 n))=>match si.ty with
     | .str=>match g.ev x with
       | .d (.str l)=>.qH (0≤n∧n.toNat<l.length) ⟨ez x++ez y,[]⟩ ⟨some (d,.d (.val (.int .u8 ((l.getD n.toNat 0).toNat:Int)))),[]⟩
       | _=>.stop
     | _=>.stop
   | _=>.stop
def WQ(g:G)(d:Nat)(u:UnOp)(x:Operand):De:=
 match u,g.ev x with
 | .not,.d (.val (.bool m))=>.go ⟨ez x,[]⟩ ⟨some (d,.d (.val (.bool (!m)))),[]⟩
 | .neg,.d (.val (.int .i64 m))=>.qH (YK (-m)) ⟨ez x,[]⟩ ⟨some (d,.d (.val (.int .i64 (-m)))),[]⟩
 | _,_=>.stop
def Jw(E:Env)(g:G)(d:Nat)(s t:TypeId)(x:Operand):De:=
 match E.ti s,E.ti t with
 | some si,some ti=>match si.ty,ti.ty,g.ev x with
   | .int k,.int k',.d (.val (.int k2 m))=>match Z5 k k2 with
     | true=>.go ⟨ez x,[]⟩ ⟨some (d,.d (.val (.int k' (k'.wrap m)))),[]⟩
     | false=>.stop
   | _,_,_=>.stop
 | _,_=>.stop
def Fv(E:Env)(g:G)(d:Nat)(t:TypeId)(ps:List (Nat×Operand)):De:=
 match E.ti t with
 | none=>.stop
 | some ti=>match ti.ty with
   | .struct fs=>match Sq (pls fs) ti.zero (evp g ps) with
     | some r=>.go ⟨sl2 ps,[]⟩ ⟨some (d,.agg r),[]⟩
     | none=>.stop
   | _=>.stop
def Pj(E:Env)(g:G)(d:Nat)(t:TypeId)(n:Nat)(ps:List (Nat×Operand)):De:=
 match E.ti t with
 | none=>.stop
 | some ti=>match ti.ty with
   | .slice e=>match E.ti e with
     | none=>.stop
     | some ei=>match ps with
       | []=>match n with
         | 0=>.go ⟨[],[g.new]⟩ ⟨some (d,.aX g.new),[(g.new,.aX e [])]⟩
         | _=>.stop
       | p::ps=>match kP n (Vt (p::ps)),MI 0 (ix2 (p::ps)),rowsOf (ev2 g (p::ps)) with
         | true,true,some aw=>match xq ei.n aw,zY (Vt (p::ps)) 64,zY ei.n 64 with
           | true,true,true=>.go ⟨sl2 (p::ps),[]⟩ ⟨some (d,.d (.eC aw)),[]⟩
           | _,_,_=>.stop
         | true,true,none=>match Nw (ev2 g (p::ps)) with
           | none=>.stop
           | some aw=>match BE ei.n aw,zY (Vt (p::ps)) 64,zY ei.n 64 with
             | true,true,true=>.go ⟨sl2 (p::ps),[g.new]⟩ ⟨some (d,.aX g.new),[(g.new,.gD e aw)]⟩
             | _,_,_=>.stop
         | _,_,_=>.stop
   | _=>.stop
def Jq(E:Env)(g:G)(d:Nat)(t:TypeId)(l c:Operand):De:=
 match E.ti t with
 | none=>.stop
 | some ti=>match ti.ty with
   | .slice e=>match E.ti e with
     | none=>.stop
     | some ei=>match Dp ei.zero,g.ev l,g.ev c with
       | some z,.d (.val (.int .i64 n)),.d (.val (.int .i64 n'))=>.qH (n'=n∧0≤n∧n.toNat≤LB∧ei.bytes*n.toNat≤281474976710656) ⟨ez l++ez c,[g.new]⟩ ⟨some (d,.aX g.new),[(g.new,.aX e (List.replicate n.toNat z))]⟩
       | _,_,_=>.stop
   | _=>.stop
def obI(g:G)(dflt:Int):Option Operand→Option Int
 | none=>some dflt
 | some x=>match g.ev x with
   | .d (.val (.int _ i))=>some i
   | _=>none
theorem QK{g:G}{d i:Int}{o:Option Operand}(h:obI g d o=some i):OI g o d i:=by
 cases o with
 | none=>exact(Option.some.inj h).symm
 | some x=>simp only[obI] at h;split at h;rename_i k j hj;obtain rfl:=Option.some.inj h;exact⟨k,hj⟩;cases h
def PC(E:Env)(g:G)(d:Nat)(t:TypeId)(x:Operand)(lo hi mx:Option Operand):De:=
 match mx,E.ti t with
 | none,some ti=>match ti.ty,g.ev x with
   | .slice e,.d (.eC xs)=>match E.ti e,obI g 0 lo,obI g xs.length hi with
     | some ei,some l,some h=>.qH (0≤l∧l≤h∧h≤xs.length∧∀y∈xs,y.length=ei.n) ⟨ez x++(osl lo++osl hi),[]⟩ ⟨some (d,.d (.eC ((xs.drop l.toNat).take (h.toNat-l.toNat)))),[]⟩
     | _,_,_=>.stop
   | .str,.d (.str s)=>match obI g 0 lo,obI g s.length hi with
     | some l,some h=>.qH (0≤l∧l≤h∧h≤s.length) ⟨ez x++(osl lo++osl hi),[]⟩ ⟨some (d,.d (.str ((s.drop l.toNat).take (h.toNat-l.toNat)))),[]⟩
     | _,_=>.stop
   | _,_=>.stop
 | _,_=>.stop
def PK(g:G)(d:Nat)(x:Operand):De:=
 match g.ev x with
 | .bA k off=>.go ⟨ez x,[]⟩ ⟨some (d,.bA k off),[]⟩
 | .ib xs i off=>.go ⟨ez x,[]⟩ ⟨some (d,.ib xs i off),[]⟩
 | .jg k i off sz=>.go ⟨ez x,[]⟩ ⟨some (d,.jg k i off sz),[]⟩
 | _=>.stop
def QU(g:G)(d:Nat)(x:Operand)(i:Nat):De:=
 match g.ev x with
 | .iZ ps=>match Zh ps i with
   | some p=>.go ⟨ez x,[]⟩ ⟨some (d,p),[]⟩
   | none=>.stop
 | _=>.stop
def Ps(E:Env)(g:G)(d:Nat)(s:TypeId)(x:Operand):De:=
 match E.ti s with
 | none=>.stop
 | some si=>match si.ty,g.ev x with
   | .slice _,.d (.eC xs)=>.go ⟨ez x,[]⟩ ⟨some (d,.d (.val (.int .i64 (xs.length:Int)))),[]⟩
   | .slice _,.bW=>.go ⟨ez x,[]⟩ ⟨some (d,.d (.val (.int .i64 0))),[]⟩
   | .slice _,.aX k=>match g.at k with
     | some (.aX _ xs)=>.go ⟨ez x,[k]⟩ ⟨some (d,.d (.val (.int .i64 (xs.length:Int)))),[]⟩
     | some (.gD _ xs)=>.go ⟨ez x,[k]⟩ ⟨some (d,.d (.val (.int .i64 (xs.length:Int)))),[]⟩
     | _=>.stop
   | .str,.d (.str l)=>.go ⟨ez x,[]⟩ ⟨some (d,.d (.val (.int .i64 (l.length:Int)))),[]⟩
   | _,_=>.stop
def Jp(E:Env)(g:G)(p:PV):Option (List (List D)×Option TypeId):=
 match p with
 | .bW=>some ([],none)
 | .d (.eC ys)=>some (ys,none)
 | .aX k=>match g.at k with
   | some (.aX e ys)=>some (ys,some e)
   | _=>none
 | .d (.val (.slice (some _) 0 _))=>some ([],none)
 | _=>none
def RK(E:Env)(sz:Nat)(p:PV)(ys:List (List D)):Option TypeId→Prop
 | none=>∀y∈ys,y.length=sz
 | some e=>∃ei,E.ti e=some ei∧ei.n=sz
theorem DB{E:Env}{g:G}{p:PV}{ys:List (List D)}{o:Option TypeId}{sz:Nat}(h:Jp E g p=some (ys,o))(ho:RK E sz p ys o):Ay E sz g p ys:=by
 unfold Jp at h;split at h;obtain⟨rfl,rfl⟩:[]=ys∧none=o:=by simpa using h
 exact .inl ⟨rfl,rfl⟩;obtain⟨rfl,rfl⟩:_=ys∧none=o:=by simpa using h
 exact .inr (.inl ⟨rfl,ho⟩);split at h;rename_i e ys' hk;obtain⟨rfl,rfl⟩:_=ys∧some e=o:=by simpa using h
 obtain⟨ei,h1,h2⟩:=ho;exact .inr (.inr (.inl ⟨_,e,ei,rfl,hk,h1,h2⟩));cases h;obtain⟨rfl,rfl⟩:[]=ys∧none=o:=by simpa using h
 exact .inr (.inr (.inr ⟨_,_,rfl,rfl⟩));cases h
def JD(g:G)(p:PV):Option (List (List T)×TypeId):=
 match p with
 | .aX k=>match g.at k with
   | some (.gD e ys)=>some (ys,e)
   | _=>none
 | _=>none
theorem DQ{E:Env}{g:G}{p:PV}{ys:List (List T)}{e:TypeId}{ei:TI}(h:JD g p=some (ys,e))(he:E.ti e=some ei)(hn:vl ys=true):Px E ei.n g p ys:=by
 unfold JD at h;split at h;rename_i k;split at h;rename_i e' ys' hk;obtain⟨rfl,rfl⟩:ys'=ys∧e'=e:=by simpa using h
 exact .inr ⟨k,e',ei,rfl,hk,he,rfl,hn⟩;cases h;cases h
def Jk(g:G)(d:Nat)(s x:Operand)(e:TypeId)(ei:TI):De:=
 match JD g (g.ev x) with
 | none=>.stop
 | some (ys,e2)=>match kP e e2 with
   | false=>.stop
   | true=>match g.ev s with
     | .bW=>.qH (vl ys=true∧ys.length≤LB∧ys.length*ei.bytes≤140737488355328) ⟨ez s++ez x,g.new::Cj (g.ev x)⟩ ⟨some (d,.aX g.new),[(g.new,.gD e ys)]⟩
     | .aX k=>match g.at k with
       | some (.aX e' xs)=>match kP e e' with
         | true=>.qH (vl ys=true∧xs.length+ys.length≤LB∧(xs.length+ys.length)*ei.bytes≤140737488355328) ⟨ez s++ez x,k::g.new::Cj (g.ev x)⟩ ⟨some (d,.aX g.new),[(k,.dead),(g.new,.gD e (lift xs++ys))]⟩
         | false=>.stop
       | some (.gD e' xs)=>match kP e e' with
         | true=>.qH (vl ys=true∧xs.length+ys.length≤LB∧(xs.length+ys.length)*ei.bytes≤140737488355328) ⟨ez s++ez x,k::g.new::Cj (g.ev x)⟩ ⟨some (d,.aX g.new),[(k,.dead),(g.new,.gD e (xs++ys))]⟩
         | false=>.stop
       | _=>.stop
     | _=>.stop
def QZ(E:Env)(g:G)(d:Nat)(s x:Operand)(t t':TypeId):De:=
 match kP t t',E.ti t with
 | true,some ti=>match ti.ty with
   | .slice e=>match E.ti e,Jp E g (g.ev x) with
     | some ei,some (ys,o)=>match g.ev s with
       | .bW=>.qH (RK E ei.n (g.ev x) ys o∧ys.length≤LB∧ys.length*ei.bytes≤140737488355328) ⟨ez s++ez x,g.new::Cj (g.ev x)⟩ ⟨some (d,.aX g.new),[(g.new,.aX e ys)]⟩
       | .aX k=>match g.at k with
         | some (.aX e' xs)=>match kP e e' with
           | true=>.qH (RK E ei.n (g.ev x) ys o∧xs.length+ys.length≤LB∧(xs.length+ys.length)*ei.bytes≤140737488355328) ⟨ez s++ez x,k::g.new::Cj (g.ev x)⟩ ⟨some (d,.aX g.new),[(k,.dead),(g.new,.aX e (xs++ys))]⟩
           | false=>.stop
         | some (.gD e' xs)=>match kP e e' with
           | true=>.qH (RK E ei.n (g.ev x) ys o∧xs.length+ys.length≤LB∧(xs.length+ys.length)*ei.bytes≤140737488355328) ⟨ez s++ez x,k::g.new::Cj (g.ev x)⟩ ⟨some (d,.aX g.new),[(k,.dead),(g.new,.gD e (xs++lift ys))]⟩
           | false=>.stop
         | _=>.stop
       | _=>.stop
     | some ei,none=>Jk g d s x e ei
     | _,_=>.stop
   | _=>.stop
 | _,_=>.stop
def AD(E:Env)(g:G)(dn:Option Nat)(t:TypeId)(x y:Operand):De:=
 match E.ti t with
 | none=>.stop
 | some ti=>match g.ev x with
   | .bA k off=>match g.at k with
     | some (.box cs)=>match zY (off+ti.n) (Al cs),(g.ev y).whole,kP (Al (fJ (g.ev y))) ti.n,yu (fJ (g.ev y)) with
       | true,true,true,true=>.go ⟨ez x++ez y++dn.toList,[k]⟩ ⟨dn.map fun d=>(d,.undef),[(k,.box (UD cs off (fJ (g.ev y))))]⟩
       | _,_,_,_=>.stop
     | _=>.stop
   | .jg k i off sz=>match g.at k with
     | some (.aX e xs)=>match E.ti e,(g.ev y).whole,kP (Al (fJ (g.ev y))) ti.n,Dp (fJ (g.ev y)) with
       | some ei,true,true,some cs=>.qH (M1 sz ei.n=true∧i<xs.length∧zY (off+ti.n) ei.n=true) ⟨ez x++ez y++dn.toList,[k]⟩ ⟨dn.map fun d=>(d,.undef),[(k,.aX e (xs.set i (wm (row xs i) off cs)))]⟩
       | some ei,true,true,none=>match GP (fJ (g.ev y)) with
         | none=>.stop
         | some cs=>.qH (M1 sz ei.n=true∧i<xs.length∧zY (off+ti.n) ei.n=true) ⟨ez x++ez y++dn.toList,[k]⟩ ⟨dn.map fun d=>(d,.undef),[(k,.gD e ((lift xs).set i (wm (rb (lift xs) i) off cs)))]⟩
       | _,_,_,_=>.stop
     | some (.gD e xs)=>match E.ti e,(g.ev y).whole,kP (Al (fJ (g.ev y))) ti.n,GP (fJ (g.ev y)) with
       | some ei,true,true,some cs=>.qH (M1 sz ei.n=true∧i<xs.length∧zY (off+ti.n) ei.n=true∧nU (tkT ti.n (drT off (rb xs i)))=true) ⟨ez x++ez y++dn.toList,[k]⟩ ⟨dn.map fun d=>(d,.undef),[(k,.gD e (xs.set i (adw (rb xs i) off cs)))]⟩
       | _,_,_,_=>.stop
     | _=>.stop
   | _=>.stop
def Ci:List Operand→List Nat
 | []=>[]
 | x::xs=>ez x++Ci xs
theorem BT:∀(l:List Operand),Ci l=l.flatMap ez
 | []=>rfl
 | x::xs=>by simp[Ci,BT xs]
def TU(g:G):List Operand→List PV
 | []=>[]
 | x::xs=>g.ev x::TU g xs
theorem Hl(g:G):∀(l:List Operand),TU g l=l.map g.ev
 | []=>rfl
 | x::xs=>by simp[TU,Hl g xs]
def WT(g:G)(d:Nat)(fn:Fn)(first cs:List Operand):De:=
 match fn,first with
 | .func f,[]=>.go ⟨Ci cs,[]⟩ ⟨some (d,.fn f (TU g cs)),[]⟩
 | _,_=>.stop
def JA(E:Env)(g:G)(d:Nat)(callee:Callee)(args:List Operand)(tys:List TypeId):De:=
 match callee with
 | .builtin b=>match b,args,tys with
   | .len,[x],[s]=>Ps E g d s x
   | .append,[s,x],[t,t']=>QZ E g d s x t t'
   | _,_,_=>.stop
 | _=>.stop
def Xi(E:Env)(g:G)(d:Nat):Op→De
 | .move x=>.go ⟨ez x,[]⟩ ⟨some (d,g.ev x),[]⟩
 | .assign x=>.go ⟨ez x,[]⟩ ⟨some (d,g.ev x),[]⟩
 | .pick c x y=>Pl g d c x y
 | .alloc t=>Mn E g d t
 | .box _ x=>Vx g d x
 | .load t x=>Jn E g d t x
 | .fieldAddr s x f=>Pv E g d s x f
 | .field s x f=>EA E g d s x f
 | .indexAddr s x y=>JE E g d s x y
 | .index s x y=>PQ E g d s x y
 | .store t x y=>AD E g (some d) t x y
 | .binOp b t x y _=>bop E g d b t x y
 | .unOp u _ x=>WQ g d u x
 | .convert s t x=>Jw E g d s t x
 | .makeFunc fn first cs=>WT g d fn first.toList cs.toList
 | .build t ps=>Fv E g d t ps.toList
 | .buildSlice t n ps=>Pj E g d t n ps.toList
 | .makeSlice t l c=>Jq E g d t l c
 | .slice t x lo hi mx=>PC E g d t x lo hi mx
 | .nilCheck x=>PK g d x
 | .extract x i=>QU g d x i
 | .call c=>JA E g d c.callee c.args.toList c.argTypes.toList
 | _=>.stop
def stp(E:Env)(g:G)(o:Oper):De:=
 match o.dst,o.op with
 | some d,op=>Xi E g d op
 | none,.store t x y=>AD E g none t x y
 | none,_=>.stop
section
variable{E:Env}{g:G}{d:Nat}{ty:TypeId}{pos:String}{fK:Array Edge}{gd:Option (Nat×Bool)}{dn:Option Nat}
theorem UL(t:TypeId)(x:Operand):(Jn E g d t x).Ok E.P ⟨some d,.load t x,ty,pos,fK,gd⟩ g:=by unfold Jn;split;trivial;rename_i ti ht;split;rename_i k off hx;split;rename_i cs hk;split;rename_i hl;have hl:=mX hl;rw[qK] at hl;simp only[NN,O8];exact SS x t k off ti cs ht hx hk hl;trivial;trivial;rename_i xs i off hx;simp only[NN,O8];exact fun h=>Pq x t i off ti xs _ ht hx rfl (XB h);rename_i k i off sz hx;split;rename_i e xs hk;split;rename_i ei he;simp only[NN,O8];exact fun h=>QE x t k i off sz e ti ei xs _ ht he (AR h.1) hx hk h.2.1 rfl (XB h.2.2);trivial;rename_i e xs hk;split;rename_i ei he;simp only[NN,O8];exact fun h=>Sl x t k i off sz e ti ei xs ht he (AR h.1) hx hk h.2.1 (by have:=mX h.2.2;rwa [JO] at this);trivial;trivial;trivial
theorem YR(s:TypeId)(x:Operand)(f:Nat):(Pv E g d s x f).Ok E.P ⟨some d,.fieldAddr s x f,ty,pos,fK,gd⟩ g:=by unfold Pv;split;trivial;rename_i si hs;split;rename_i fs rG;split;rename_i ft fo fz hf;rw[Rt] at hf;split;rename_i hx;exact Ua x s f _ _ si fs ft fo fz hs rG hf hx;rename_i hx;exact TO x s f _ _ _ si fs ft fo fz hs rG hf hx;rename_i hx;exact Tu x s f _ _ _ _ si fs ft fo fz hs rG hf hx;trivial;trivial;trivial
theorem Tm(s:TypeId)(x:Operand)(f:Nat):(EA E g d s x f).Ok E.P ⟨some d,.field s x f,ty,pos,fK,gd⟩ g:=by unfold EA;split;trivial;rename_i si hs;split;rename_i fs rG;split;rename_i ft fo fz hf;rw[Rt] at hf;split;trivial;rename_i fi hfi;split;rename_i cs hx;split;rename_i hl;have hl:=mX hl;rw[qK] at hl;simp only[NN,O8];exact aaS x s f si fs ft fo fz fi cs hs rG hf hfi hx hl;trivial;trivial;trivial;trivial
theorem V8(s:TypeId)(x y:Operand):(JE E g d s x y).Ok E.P ⟨some d,.indexAddr s x y,ty,pos,fK,gd⟩ g:=by unfold JE;split;trivial;rename_i si hs;split;rename_i n hy;split;rename_i e rG;split;trivial;rename_i ei he;split;rename_i xs hx;exact fun h=>VO x y s si ei e xs n hs rG he hx hy h.1 h.2.1 (adl h.2.2);rename_i k hx;split;rename_i e' xs hk;split;rename_i hee;obtain rfl:=b7 hee;exact fun h=>U2 x y s si ei e k xs n hs rG he hx hk hy h.1 h.2;trivial;rename_i e' xs hk;split;rename_i hee;obtain rfl:=b7 hee;exact fun h=>V5 x y s si ei e k xs n hs rG he hx hk hy h.1 h.2;trivial;trivial;trivial;rename_i len e rG;split;trivial;rename_i ei he;split;rename_i k off hx;exact fun h=>UY x y s si ei e len k off n hs rG he hx hy h.1 h.2;trivial;trivial;trivial
theorem Zf(s:TypeId)(x y:Operand):(PQ E g d s x y).Ok E.P ⟨some d,.index s x y,ty,pos,fK,gd⟩ g:=by unfold PQ;split;trivial;rename_i si hs;split;rename_i n hy;split;rename_i rG;split;rename_i l hx;exact fun h=>UI x y s si l n hs rG hx hy h.1 h.2;trivial;trivial;trivial
theorem Z9(u:UnOp)(t:TypeId)(x:Operand):(WQ g d u x).Ok E.P ⟨some d,.unOp u t x,ty,pos,fK,gd⟩ g:=by unfold WQ;split;rename_i m hx;exact agb x m t hx;rename_i m hx;exact fun h=>afw x m t hx h;trivial
theorem UU(s t:TypeId)(x:Operand):(Jw E g d s t x).Ok E.P ⟨some d,.convert s t x,ty,pos,fK,gd⟩ g:=by unfold Jw;split;rename_i si ti hs ht;split;rename_i k k' k2 m rG mI hx;split;rename_i hk;obtain rfl:=P8 hk;exact adE x k k' m s t si ti hs rG ht mI hx;trivial;trivial;trivial
theorem RO(t:TypeId)(ps:Array (Nat×Operand)):(Fv E g d t ps.toList).Ok E.P ⟨some d,.build t ps,ty,pos,fK,gd⟩ g:=by unfold Fv;split;trivial;rename_i ti ht;split;rename_i fs mI;split;rename_i r hr;have hr:=Wy _ _ _ _ hr;rw[aa8,aat] at hr;rw[Ra];exact aaA t ps.toList ti fs r ht mI hr;trivial;trivial
theorem Yx(t:TypeId)(n:Nat)(ps:Array (Nat×Operand)):(Pj E g d t n ps.toList).Ok E.P ⟨some d,.buildSlice t n ps,ty,pos,fK,gd⟩ g:=by obtain⟨ps⟩:=ps;simp only;unfold Pj;split;trivial;rename_i ti ht;split;rename_i e mI;split;trivial;rename_i ei he;split;split;exact rQ t e 0 g.new [] ti ei [] ht mI he rfl rfl rfl rfl (by simp) g.nW;trivial;rename_i p ps;split;rename_i aw h1 h2 h3;split;rename_i h4 h5 h6;have h1:=b7 h1;have h5:=mX h5;have h6:=mX h6;rw[P4] at h1 h5;rw[Ui] at h2;rw[UK] at h3;rw[Ra];exact aaH t e n (p::ps) ti ei aw ht mI he h1 h2 h3 h4 (fv (Nat.mul_le_mul h5 h6) oM);trivial;rename_i h1 h2 _;split;trivial;rename_i aw h3;split;rename_i h4 h5 h6;have h1:=b7 h1;have h5:=mX h5;have h6:=mX h6;rw[P4] at h1 h5;rw[Ui] at h2;rw[UK] at h3;rw[Ra];exact T1 t e n g.new (p::ps) ti ei aw ht mI he h1 h2 h3 h4 (fv (Nat.mul_le_mul h5 h6) oM) g.nW;trivial;trivial;trivial
theorem Wd(t:TypeId)(l c:Operand):(Jq E g d t l c).Ok E.P ⟨some d,.makeSlice t l c,ty,pos,fK,gd⟩ g:=by unfold Jq;split;trivial;rename_i ti ht;split;rename_i e mI;split;trivial;rename_i ei he;split;rename_i z n n' hz hl hc;rintro⟨rfl,h1,h2,h3⟩;exact aei l c t e g.new ti ei n' z ht mI he hz hl hc g.nW h1 h2 h3;trivial;trivial
theorem YO(t:TypeId)(x:Operand)(lo hi mx:Option Operand):(PC E g d t x lo hi mx).Ok E.P ⟨some d,.slice t x lo hi mx,ty,pos,fK,gd⟩ g:=by unfold PC;split;rename_i ti ht;split;rename_i e xs mI hx;split;rename_i ei l h he hl hh;exact fun k=>UA x lo hi t e ti ei xs _ l h ht mI he hx (QK hl) (QK hh) k.1 k.2.1 k.2.2.1 k.2.2.2 rfl;trivial;rename_i s mI hx;split;rename_i l h hl hh;exact fun k=>Vd x lo hi t ti s _ l h ht mI hx (QK hl) (QK hh) k.1 k.2.1 k.2.2 rfl;trivial;trivial;trivial
theorem Y1(x:Operand):(PK g d x).Ok E.P ⟨some d,.nilCheck x,ty,pos,fK,gd⟩ g:=by unfold PK;split;rename_i hx;exact I7 x _ _ hx;rename_i hx;exact Hj x _ _ _ hx;rename_i hx;exact F6 x _ _ _ _ hx;trivial
theorem Y6(x:Operand)(i:Nat):(QU g d x i).Ok E.P ⟨some d,.extract x i,ty,pos,fK,gd⟩ g:=by unfold QU;split;rename_i ps hx;split;rename_i p hp;rw[Xz] at hp;exact TZ x i ps p hx hp;trivial;trivial
theorem YJ(s:TypeId)(x:Operand):(Ps E g d s x).Ok E.P ⟨some d,.call ⟨.builtin .len,#[x],#[s]⟩,ty,pos,fK,gd⟩ g:=by unfold Ps;split;trivial;rename_i si hs;split;rename_i e xs rG hx;exact V0 x s si e xs hs rG hx;rename_i e rG hx;exact VE x s si e hs rG hx;rename_i e k rG hx;split;rename_i e' xs hk;exact Uv x s si e e' k xs hs rG hx hk;rename_i e' xs hk;exact Um x s si e e' k xs hs rG hx hk;trivial;rename_i l rG hx;exact Vq x s si l hs rG hx;trivial
theorem Ve(s x:Operand)(t e:TypeId)(ti ei:TI)(ht:E.ti t=some ti)(mI:ti.ty= .slice e)(he:E.ti e=some ei):(Jk g d s x e ei).Ok E.P ⟨some d,.call ⟨.builtin .append,#[s,x],#[t,t]⟩,ty,pos,fK,gd⟩ g:=by unfold Jk;split;trivial;rename_i ys e2 hr;split;trivial;rename_i h2;obtain rfl:=b7 h2;split;rename_i hs;exact fun h=>LS s x t e g.new ti ei _ ys ht mI he hs rfl (DQ hr he h.1) g.nW h.2.1 h.2.2;rename_i k hs;split;rename_i e' xs hk;split;rename_i hee;obtain rfl:=b7 hee;exact fun h=>LA s x t e k g.new ti ei _ xs ys ht mI he hs hk rfl (DQ hr he h.1) g.nW h.2.1 h.2.2;trivial;rename_i e' xs hk;split;rename_i hee;obtain rfl:=b7 hee;exact fun h=>vz s x t e k g.new ti ei _ xs ys ht mI he hs hk rfl (DQ hr he h.1) g.nW h.2.1 h.2.2;trivial;trivial;trivial
theorem XY(s x:Operand)(t t':TypeId):(QZ E g d s x t t').Ok E.P ⟨some d,.call ⟨.builtin .append,#[s,x],#[t,t']⟩,ty,pos,fK,gd⟩ g:=by unfold QZ;split;rename_i ti htt ht;obtain rfl:=b7 htt;split;rename_i e mI;split;rename_i ei ys o he hap;split;rename_i hs;exact fun h=>MK s x t e g.new ti ei _ ys ht mI he hs rfl (DB hap h.1) g.nW h.2.1 h.2.2;rename_i k hs;split;rename_i e' xs hk;split;rename_i hee;obtain rfl:=b7 hee;exact fun h=>Nt s x t e k g.new ti ei _ xs ys ht mI he hs hk rfl (DB hap h.1) g.nW h.2.1 h.2.2;trivial;rename_i e' xs hk;split;rename_i hee;obtain rfl:=b7 hee;exact fun h=>vz s x t e k g.new ti ei _ xs (lift ys) ht mI he hs hk rfl (.inl ⟨ys,DB hap h.1,rfl⟩) g.nW (by rw[vq];exact h.2.1) (by rw[vq];exact h.2.2);trivial;trivial;trivial;rename_i ei he _;exact Ve s x t e ti ei ht mI he;trivial;trivial;trivial
theorem Ie(t:TypeId)(x y:Operand):(AD E g dn t x y).Ok E.P ⟨dn,.store t x y,ty,pos,fK,gd⟩ g:=by unfold AD;split;trivial;rename_i ti ht;split;rename_i k off hx;split;rename_i cs hk;split;rename_i h1 h2 h3 h4;have h1:=mX h1;have h3:=b7 h3;rw[qK] at h1 h3;rw[Pg _ _ _ oM];exact PL x y t k off ti cs _ ht hx hk rfl h1 h2 h3 h4;trivial;trivial;rename_i k i off sz hx;split;rename_i e xs hk;split;rename_i ei cs he h2 h3 h4;have h3:=b7 h3;rw[qK] at h3;exact fun h=>MJ x y t k i off sz e ti ei xs _ cs ht he (AR h.1) hx hk rfl h.2.1 (mX h.2.2) h2 h3 h4;rename_i ei he h2 h3 _;have h3:=b7 h3;rw[qK] at h3;split;trivial;rename_i cs h4;exact fun h=>Rk x y t k i off sz e ti ei xs _ cs ht he (AR h.1) hx hk rfl h.2.1 (mX h.2.2) h2 h3 h4;trivial;rename_i e xs hk;split;rename_i ei cs he h2 h3 h4;have h3:=b7 h3;rw[qK] at h3;simp only[T9,VM,adK];exact fun h=>Fc x y t k i off sz e ti ei xs _ cs ht he (AR h.1) hx hk rfl h.2.1 (mX h.2.2.1) h2 h3 h4 h.2.2.2;trivial;trivial;trivial
theorem aaV(fn:Fn)(first cs:Array Operand):(WT g d fn first.toList cs.toList).Ok E.P ⟨some d,.makeFunc fn first cs,ty,pos,fK,gd⟩ g:=by
 obtain⟨first⟩:=first
 obtain⟨cs⟩:=cs;unfold WT;split;rename_i f h;simp only at h;subst h;rw[BT,Hl];exact Sc _ _;trivial
theorem VC(c:Call):(JA E g d c.callee c.args.toList c.argTypes.toList).Ok E.P ⟨some d,.call c,ty,pos,fK,gd⟩ g:=by obtain⟨callee,⟨args⟩,⟨tys⟩⟩:=c;unfold JA;split;split;rename_i h1 h2;simp only at h1 h2;subst h1 h2;rename_i h;simp only at h;subst h;exact YJ _ _;rename_i h1 h2;simp only at h1 h2;subst h1 h2;rename_i h;simp only at h;subst h;exact XY _ _ _ _;trivial;trivial
theorem abx(op:Op):(Xi E g d op).Ok E.P ⟨some d,op,ty,pos,fK,gd⟩ g:=by unfold Xi;split;exact ET _;exact YW _;unfold Pl;split;rename_i hc;exact XI _ _ _ true hc;rename_i hc;exact XI _ _ _ false hc;trivial;unfold Mn;split;rename_i ti ht;exact Zt _ g.new ti ht g.nW;trivial;unfold Vx;split;rename_i hw;exact af0 _ _ g.new g.nW hw;trivial;exact UL _ _;exact YR _ _ _;exact Tm _ _ _;exact V8 _ _ _;exact Zf _ _ _;exact Ie _ _ _;exact af4 _ _ _ _ _;exact Z9 _ _ _;exact UU _ _ _;exact aaV _ _ _;exact RO _ _;exact Yx _ _ _;exact Wd _ _ _;exact YO _ _ _ _ _;exact Y1 _;exact Y6 _ _;exact VC _;trivial
theorem afu(o:Oper):(stp E g o).Ok E.P o g:=by obtain⟨dst,op,ty,pos,fK,gd⟩:=o;unfold stp;split;rename_i d h;obtain rfl:dst=some d:=h;exact abx op;rename_i t x y h1 h2;obtain rfl:dst=none:=h1;obtain rfl:op= .store t x y:=h2;exact Ie _ _ _;trivial
end
inductive uW where
 | on
 | off
def ifB:Bool→(uW→Prop)→(uW→Prop)→Prop
 | true,a,_=>a .on
 | false,_,b=>b .on
theorem ahf(a b:uW→Prop):ifB true a b=a .on:=rfl
theorem agy(a b:uW→Prop):ifB false a b=b .on:=rfl
theorem YE{c:Bool}{a b:uW→Prop}(ht:c=true→a .on)(hf:c=false→b .on):ifB c a b:=by cases c;exact hf rfl;exact ht rfl
theorem Cb{c:Bool}{a b:uW→Prop}(h:ifB c a b):(c=true∧a .on)∨(c=false∧b .on):=by cases c;exact .inr ⟨rfl,h⟩;exact .inl ⟨rfl,h⟩
def snoc:List Ky→Ky→List Ky
 | [],k=>[k]
 | a::as,k=>a::snoc as k
theorem WU:∀(l:List Ky)(k:Ky),snoc l k=l++[k]
 | [],_=>rfl
 | a::as,k=>by simp[snoc,WU as k]
def nx:Option (List Ky)→Ky→Option (List Ky)
 | none,_=>none
 | some l,k=>some (snoc l k)
def WM(P:Program)(ops:Array Oper):Option (List Ky)→List Oper→G→(G→Prop)→Prop
 | none,os,g,K=>WO P ops os g K
 | some pre,os,g,K=>WD P ops os pre g K
theorem Jj{P:Program}{ops:Array Oper}{m:Option (List Ky)}{o:Oper}{os:List Oper}{g:G}{K:G→Prop}{R:Rd}{δ:Dl}(h:IJ P ops o g R δ)(hr:WM P ops (nx m (pE R δ)) os (g.app δ) K):WM P ops m (o::os) g K:=by
 cases m with
 | none=>exact wR h hr
 | some pre=>simp only[nx,WU] at hr;exact aem h hr
def wg:Option Nat→Rd→Rd
 | none,R=>R
 | some t,R=>⟨t::R.s,R.p⟩
def DZ(P:Program)(g g':G):Prop:=∀(X:Cx)(ν:Nat→Nm)(a:Act)(w:World),Sat P X ν g a w→∃ν',Sat P X ν' g' a w
theorem DZ.trans{P:Program}{g g1 g2:G}(h:DZ P g g1)(h':DZ P g1 g2):DZ P g g2:=fun X ν a w hs=>
 let ⟨ν1,h1⟩:=h X ν a w hs
 h' X ν1 a w h1
theorem WB{P:Program}{ops:Array Oper}{os:List Oper}{g g':G}{K:G→Prop}(hw:DZ P g g')(h:WO P ops os g' K):WO P ops os g K:=fun i hi X ν a w Q hs hn=>
 let ⟨ν',hs'⟩:=hw X ν a w hs
 h i hi X ν' a w Q hs' hn
def tR(E:Env)(m:Option (List Ky))(gs:Option Nat)(o:Oper)(g:G)(rest:uW→Option (List Ky)→G→Prop):Prop:=
 (∃R δ,mM E.P o g R δ∧rest .on (nx m (pE (wg gs R) δ)) (g.app δ)) ∨
 (m=none∧gs=none∧∃g',DZ E.P g g'∧∃R δ,mM E.P o g' R δ∧rest .on none (g'.app δ))
theorem gm{E:Env}{m:Option (List Ky)}{gs:Option Nat}{o:Oper}{g:G}{rest:uW→Option (List Ky)→G→Prop}{R:Rd}{δ:Dl}(h:mM E.P o g R δ)(hr:rest .on (nx m (pE (wg gs R) δ)) (g.app δ)):tR E m gs o g rest:=.inl ⟨R,δ,h,hr⟩
def Oy(E:Env)(m:Option (List Ky))(gs:Option Nat)(o:Oper)(g:G)(rest:uW→Option (List Ky)→G→Prop):De→Prop
 | .go R δ=>rest .on (nx m (pE (wg gs R) δ)) (g.app δ)
 | .qH φ R δ=>φ∧rest .on (nx m (pE (wg gs R) δ)) (g.app δ)
 | .stop=>tR E m gs o g rest
theorem gJ{E:Env}{m:Option (List Ky)}{gs:Option Nat}{o:Oper}{g:G}{rest:uW→Option (List Ky)→G→Prop}(h:Oy E m gs o g rest (stp E g o)):tR E m gs o g rest:=by
 have hk:=afu (E:=E) (g:=g) o;generalize stp E g o=s at h hk;cases s with
 | go R δ=>exact .inl ⟨R,δ,hk,h⟩
 | qH φ R δ=>exact .inl ⟨R,δ,hk h.1,h.2⟩
 | stop=>exact h
def ae4(E:Env)(m:Option (List Ky))(t:Nat)(o:Oper)(g:G)(rest:uW→Option (List Ky)→G→Prop):uW→Prop
 | .on=>Oy E m (some t) o g rest (stp E g o)
 | .off=>False
def abh(m:Option (List Ky))(t:Nat)(g:G)(rest:uW→Option (List Ky)→G→Prop):Option Nat→uW→Prop
 | some d,.on=>rest .on (nx m ⟨[t],[],[d],[]⟩) (g.app ⟨some (d,.undef),[]⟩)
 | _,_=>False
def vm:PV→Bool→(uW→Prop)→(uW→Prop)→Prop
 | .d (.val (.bool c)),true,yes,no=>ifB c yes no
 | .d (.val (.bool c)),false,yes,no=>ifB c no yes
 | .undef,_,_,no=>no .on
 | _,_,_,_=>False
def gsl:List Oper→Nat→Option Nat
 | [],_=>none
 | o::_,0=>o.dst
 | _::os,n+1=>gsl os n
theorem ZH:∀(l:List Oper)(n:Nat),gsl l n=(l[n]?).bind (·.dst)
 | [],n=>by simp[gsl]
 | o::_,0=>rfl
 | _::os,n+1=>by simp[gsl,ZH os n]
def afS(all:List Oper)(g:G)(K:uW→G→Prop):Option (List Ky)→Prop
 | none=>K .on g
 | some pre=>indep all pre=true∧K .on g
def ac1(E:Env)(all:List Oper)(m:Option (List Ky))(o:Oper)(g:G)(rest:uW→Option (List Ky)→G→Prop):Option (Nat×Bool)→Prop
 | none=>Oy E m none o g rest (stp E g o)
 | some (j,b)=>match gsl all j with
   | none=>False
   | some t=>vm (nth g.sl t) b (ae4 E m t o g rest) (abh m t g rest o.dst)
def run(E:Env)(all:List Oper)(K:uW→G→Prop):List Oper→uW→Option (List Ky)→G→Prop
 | [],.on,m,g=>afS all g K m
 | o::os,.on,m,g=>ac1 E all m o g (run E all K os) o.guard
 | [],.off,_,_=>False
 | _::_,.off,_,_=>False
theorem VZ{E:Env}{ops:Array Oper}{K:uW→G→Prop}:∀(os:List Oper)(m:Option (List Ky))(g:G),run E ops.toList K os .on m g→WM E.P ops m os g (K .on)
 | [],none,g,h=>xp h
 | [],some pre,g,h=>afj h.1 h.2
 | o::os,m,g,h=>by
  have ih:=VZ (E:=E) (ops:=ops) (K:=K) os;simp only[run] at h;cases hg:o.guard with
  | none=>rw[hg] at h;rcases gJ h with⟨R,δ,h1,h2⟩|⟨rfl,_,g',hw,R,δ,h1,h2⟩;exact Jj (IJ.plain hg h1) (ih _ _ h2);exact WB hw (wR (IJ.plain hg h1) (ih _ _ h2))
  | some jb=>
   obtain⟨j,b⟩:=jb;rw[hg] at h;simp only[ac1] at h;split at h;exact h.elim;rename_i t ht;have hj:H8 ops j=some t:=(by rw[ZH] at ht;unfold H8;rw[←ht];simp);have hyes:∀c,nth g.sl t= .d (.val (.bool c))→c=b→ae4 E m t o g (run E ops.toList K os) .on→WM E.P ops m (o::os) g (K .on):=(by intro c hc TV hd;subst TV;rcases gJ hd with⟨R,δ,h1,h2⟩|⟨_,h0,_⟩;rotate_left;cases h0;exact Jj (IJ.run hg hj hc h1) (ih _ _ h2));have hno:∀c,nth g.sl t= .d (.val (.bool c))→c≠b→abh m t g (run E ops.toList K os) o.dst .on→WM E.P ops m (o::os) g (K .on):=by
    intro c hc TV hd;cases hdst:o.dst with
    | none=>rw[hdst] at hd;exact hd.elim
    | some d=>rw[hdst] at hd;exact Jj (IJ.skip hg hj hc TV hdst) (ih _ _ hd)
   cases hv:nth g.sl t<;>rw[hv] at h<;>first
    | (simp only[vm] at h;done)
    | skip
   ·simp only[vm] at h;cases hdst:o.dst with
    | none=>rw[hdst] at h;exact h.elim
    | some d=>rw[hdst] at h;exact Jj (IJ.ahj hg hj hv hdst) (ih _ _ h)
   rename_i x;cases x with
   | str s=>simp only[vm] at h
   | eC s=>simp only[vm] at h
   | val v=>
    cases v<;>first
     | (simp only[vm] at h;done)
     | skip
    rename_i c;cases b with
    | true=>simp only[vm] at h;rcases Cb h with⟨h1,h2⟩|⟨h1,h2⟩;exact hyes c hv h1 h2;exact hno c hv (by rw[h1];simp) h2
    | false=>simp only[vm] at h;rcases Cb h with⟨h1,h2⟩|⟨h1,h2⟩;exact hno c hv (by rw[h1];simp) h2;exact hyes c hv h1 h2
def Xv(K:uW→G→Prop)(Q:uW→Ex→G→Prop):uW→Ex→G→Prop
 | .on,.normal,g=>K .on g
 | .on,.exit id,g=>Q .on (.exit id) g
 | .on,.ret,g=>Q .on .ret g
 | .off,_,_=>False
def LQ(id:Nat)(Q:uW→Ex→G→Prop):uW→Ex→G→Prop
 | .on,.normal,g=>Q .on .normal g
 | .on,.exit i,g=>match kP i id with|true=>Q .on .normal g|false=>Q .on (.exit i) g
 | .on,.ret,g=>Q .on .ret g
 | .off,_,_=>False
def aak(Q:uW→Ex→G→Prop):uW→G→Prop
 | .on,g=>Q .on .normal g
 | .off,_=>False
def aaD:PV→(uW→Prop)→(uW→Prop)→Prop
 | .d (.val (.bool b)),x,y=>ifB b x y
 | _,_,_=>False
def afZ(E:Env)(ops:List Oper)(Q:uW→Ex→G→Prop)(g:G):Bool→Prop
 | false=>run E ops (aak Q) ops .on none g
 | true=>run E ops (aak Q) ops .on (some []) g
def My(E:Env)(n0:Nat):Code→uW→G→(uW→Ex→G→Prop)→Prop
 | .skip,.on,g,Q=>Q .on .normal g
 | .exit id,.on,g,Q=>Q .on (.exit id) g
 | .ret,.on,g,Q=>Q .on .ret g
 | .seq a b,.on,g,Q=>My E n0 a .on g (Xv (fun tok g'=>My E n0 b tok g' Q) Q)
 | .cond c x y,.on,g,Q=>aaD (g.ev c) (fun tok=>My E n0 x tok g Q) (fun tok=>My E n0 y tok g Q)
 | .block id c,.on,g,Q=>My E n0 c .on g (LQ id Q)
 | .region _ ops dr,.on,g,Q=>afZ E ops.toList Q g dr
 | .loop c,.on,g,Q=>W E.P n0 (.loop c) g (Q .on)
 | _,_,_,_=>False
theorem Vl{E:Env}(hm:E.P.follows .mixedOrders=true){n0:Nat}:∀(c:Code)(g:G)(Q:uW→Ex→G→Prop),My E n0 c .on g Q→W E.P n0 c g (Q .on):=by
 intro c;induction c with
 | skip=>intro g Q h;exact ae8 h
 | exit id=>intro g Q h;exact agh h
 | ret=>intro g Q h;exact Xu h
 | seq a b iha ihb=>
  intro g Q h;have:=iha g _ h;refine fE (fun X ν ac w hp hs=>wp_mono (this X ν ac w hp hs) fun e a' w' hl=>?_);cases e with
  | normal=>obtain⟨g',ν',h1,h2⟩:=hl;exact⟨g',ν',ihb g' Q h1,h2⟩
  | exit id=>exact hl
  | ret=>exact hl
  | goto l=>exact hl
  | panic c=>exact hl
  | outgrown=>exact hl
 | cond c x y ihx ihy=>intro g Q h;simp only[My] at h;unfold aaD at h;split at h;rename_i b hb;refine QI hb (fun hc=>?_) (fun hc=>?_);rcases Cb h with⟨h1,h2⟩|⟨h1,h2⟩;exact ihx g Q h2;rw[hc] at h1;cases h1;rcases Cb h with⟨h1,h2⟩|⟨h1,h2⟩;rw[hc] at h1;cases h1;exact ihy g Q h2;exact h.elim
 | block id c ih=>
  intro g Q h;have:=ih g _ h;refine Jl (fun X ν ac w hp hs=>wp_mono (this X ν ac w hp hs) fun e a' w' hl=>?_);cases e with
  | normal=>exact hl
  | exit i=>obtain⟨g',ν',h1,h2⟩:=hl;refine⟨g',ν',?_,h2⟩;simp only[LQ] at h1;simp only[GY];split at h1;rename_i he;rw[if_pos (b7 he)];exact h1;rename_i he;rw[if_neg (fun e=>by subst e;simp at he)];exact h1
  | ret=>exact hl
  | goto l=>exact hl
  | panic c=>exact hl
  | outgrown=>exact hl
 | region id ops dr=>
  intro g Q h;simp only[My] at h;cases dr with
  | false=>exact pR (VZ ops.toList none g h)
  | true=>exact adG hm (VZ ops.toList (some []) g h)
 | loop c _=>intro g Q h;exact h
 | _=>intro g Q h;simp[My] at h
end Go.Eng
