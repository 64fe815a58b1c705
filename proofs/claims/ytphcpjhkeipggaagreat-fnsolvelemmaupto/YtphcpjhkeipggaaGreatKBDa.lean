/-
  The symbolic layer, thirty-fourth text: exclusive or; what a call leaves, told otherwise.
-/
import Derived.Test.YtphcpjhkeipggaaGreatKBD
import Derived.Laws.IdiomCopy
import Derived.Deep.Draws
import Derived.Laws.Entries
import Derived.MapKept
import Derived.Laws.CopyRow
set_option linter.unusedVariables false
set_option linter.unusedSimpArgs false
open Array renaming getElem?_setIfInBounds→kT
open Bool renaming and_eq_true→ah
open Int renaming le_refl→nC
open List renaming mem_append→aO,map_cons→aV,append_assoc→bC,append_nil→bE,nil_append→bS,getD→ct,nodup_append→dU,set_cons_zero→jX,getElem?_set→mq,ext_getElem?→oG
open Nat renaming le_refl→aK
open Option renaming map_some→cZ,map_none→eW
namespace Go.Eng
open Go.RowKit
def RX(a b:Int):Int:=((a.toNat ^^^ b.toNat:Nat):Int)
theorem adn(a b:Int):0≤RX a b:=Int.natCast_nonneg _
theorem QW{a b:Int}(h1:0≤a)(h2:a≤9223372036854775807)(h3:0≤b)(h4:b≤9223372036854775807):bits .xor .i64 a b=RX a b:=by
 obtain⟨A,rfl⟩:=Int.eq_ofNat_of_zero_le h1;obtain⟨B,rfl⟩:=Int.eq_ofNat_of_zero_le h3;have hx:A ^^^ B<2 ^ 63:=Nat.xor_lt_two_pow oM oM;have k1:(BitVec.ofInt 64 (A:Int)).toNat=A:=by rw[BitVec.ofInt_natCast,BitVec.toNat_ofNat];exact Nat.mod_eq_of_lt oM
 have k2:(BitVec.ofInt 64 (B:Int)).toNat=B:=by rw[BitVec.ofInt_natCast,BitVec.toNat_ofNat];exact Nat.mod_eq_of_lt oM
 show IntKind.i64.wrap ((BitVec.ofInt 64 (A:Int) ^^^ BitVec.ofInt 64 (B:Int)).toNat:Int)=_;rw[BitVec.toNat_xor,k1,k2,wrap_i64 ⟨oM,oM⟩];simp[RX]
section
variable{E:Env}{g:G}{d:Nat}{ty:TypeId}{pos:String}{fK:Array Edge}{gd:Option (Nat×Bool)}
theorem afM(x y:Operand)(m n:Int)(t u:TypeId)(hx:g.ev x= .d (.val (.int .i64 m)))(hy:g.ev y= .d (.val (.int .i64 n)))(h1:0≤m)(h2:m≤9223372036854775807)(h3:0≤n)(h4:n≤9223372036854775807) :
 mM E.P ⟨some d,.binOp .xor t x y u,ty,pos,fK,gd⟩ g ⟨ez x++ez y,[]⟩ ⟨some (d,.d (.val (.int .i64 (RX m n)))),[]⟩:=
 sy rfl hx hy rfl fun a w k1 k2=>by simp[execOp,k1,k2,eqGuard,binOp,intBits_xor,QW h1 h2 h3 h4]
theorem agI{m:Option (List Ky)}{gs:Option Nat}{rest:uW→Option (List Ky)→G→Prop}{x y:Operand}{t u:TypeId}(a b:Int)(hx:g.ev x= .d (.val (.int .i64 a)))(hy:g.ev y= .d (.val (.int .i64 b)))(h1:0≤a)(h2:a≤9223372036854775807)(h3:0≤b)(h4:b≤9223372036854775807)
 (hr:rest .on (nx m (pE (wg gs ⟨ez x++ez y,[]⟩) ⟨some (d,.d (.val (.int .i64 (RX a b)))),[]⟩)) (g.app ⟨some (d,.d (.val (.int .i64 (RX a b)))),[]⟩)):tR E m gs ⟨some d,.binOp .xor t x y u,ty,pos,fK,gd⟩ g rest:=
 gm (afM x y a b t u hx hy h1 h2 h3 h4) hr
end
theorem C.RD{P:Program}{f:FuncId}{args:List PV}{fG:List (Option En)}{res res':PV}{st st':List (Option En)}(m:List (Option Nat))(h:C P f args fG (jF res st))(h1:CR ⟨[res],st⟩ m [res] [res']∧nd ⟨[res],st⟩ m m st')(h3:AA m st'=true)(h4:keeps fG.length 0 m=true):C P f args fG (jF res' st'):=
 have hw:Wk fG.length m ⟨[res],st⟩ ⟨[res'],st'⟩:=⟨h1.1,h1.2,h3,h4⟩
 ⟨h.1,fun X vs k1 k2 k3=>(h.2 X vs k1 k2 k3).mono fun e w ⟨v,r,s,ν',e1,⟨e2,e3⟩,e4⟩=>by
  subst e2 e3;have hp:Par X fG.length:=fun k hk=>by rw[k1] at hk;exact qn hk
  obtain⟨ν'',hs⟩:=Qv hw X ν' _ _ hp e4;exact⟨v,_,_,ν'',e1,⟨rfl,rfl⟩,hs⟩⟩
section
variable{P:Program}{w:World}{ok ok':Nat→Prop}{ν ν':Nat→Nm}{st st':Nat→Option En}
theorem bq.zip:∀(c:Nat){x:List T}{u:List Value}{F:List Nat}{t:T},bq P w ok ν st x u F→x[c]?=some t →
 ∃v A Ft B,u[c]?=some v∧F=A++(Ft++B)∧mD P w ok ν st t v Ft ∧
  ∀(ok':Nat→Prop)(ν':Nat→Nm)(st':Nat→Option En),(∀b,ok b→b<w.heap.size→ok' b∧w.heap[b]?=w.heap[b]?)→nH st st' ν ν'→∀(t':T)(Ft':List Nat),mD P w ok' ν' st' t' v Ft'→bq P w ok' ν' st' (x.set c t') u (A++(Ft'++B))
 | _,[],_,_,_,_,h=>by simp at h
 | _,_::_,[],_,_,h,_=>by simp[bq] at h
 | 0,a::x,v::u,F,t,h,ht=>by
  simp only[bq] at h;obtain⟨F1,F2,h1,h2,rfl⟩:=h;obtain rfl:a=t:=by simpa using ht
  refine⟨v,[],F1,F2,rfl,rfl,h1,fun ok' ν' st' hw hm t' Ft' h'=>?_⟩;simp only[jX,bq,bS];exact⟨Ft',F2,h',bq.frame hw (aK _) hm _ _ _ h2 fun _ _=>rfl,rfl⟩
 | c+1,a::x,v::u,F,t,h,ht=>by simp only[bq] at h;obtain⟨F1,F2,h1,h2,rfl⟩:=h;obtain⟨v',A,Ft,B,k1,rfl,k2,k3⟩:=bq.zip c h2 (by simpa using ht);refine⟨v',F1++A,Ft,B,by simpa using k1,by simp,k2,fun ok' ν' st' hw hm t' Ft' h'=>?_⟩;simp only[List.set_cons_succ,bq];exact⟨F1,_,mD.frame hw (aK _) hm _ _ _ h1 fun _ _=>rfl,k3 ok' ν' st' hw hm t' Ft' h',by simp⟩
theorem bP.zip:∀(i c:Nat){xs:List (List T)}{us:List (List Value)}{F:List Nat}{t:T},bP P w ok ν st xs us F→i<xs.length→(rb xs i)[c]?=some t →
 ∃v A Ft B,F=A++(Ft++B)∧mD P w ok ν st t v Ft ∧
  ∀(ok':Nat→Prop)(ν':Nat→Nm)(st':Nat→Option En),(∀b,ok b→b<w.heap.size→ok' b∧w.heap[b]?=w.heap[b]?)→nH st st' ν ν'→∀(t':T)(Ft':List Nat),mD P w ok' ν' st' t' v Ft'→bP P w ok' ν' st' (xs.set i ((rb xs i).set c t')) us (A++(Ft'++B))
 | _,_,[],_,_,_,_,h,_=>by simp at h
 | _,_,_::_,[],_,_,h,_,_=>by simp[bP] at h
 | 0,c,a::x,v::u,F,t,h,_,ht=>by simp only[bP] at h;obtain⟨F1,F2,h1,h2,rfl⟩:=h;have ht:a[c]?=some t:=ht;obtain⟨v',A,Ft,B,k1,rfl,k2,k3⟩:=bq.zip c h1 ht;refine⟨v',A,Ft,B++F2,by simp,k2,fun ok' ν' st' hw hm t' Ft' h'=>?_⟩;show bP P w ok' ν' st' (a.set c t'::x) (v::u) _;simp only[bP];exact⟨_,F2,k3 ok' ν' st' hw hm t' Ft' h',bP.frame hw (aK _) hm _ _ _ h2 fun _ _=>rfl,by simp⟩
 | i+1,c,a::x,v::u,F,t,h,hi,ht=>by simp only[bP] at h;obtain⟨F1,F2,h1,h2,rfl⟩:=h;have ht:(rb x i)[c]?=some t:=(by simpa[rb] using ht);obtain⟨v',A,Ft,B,rfl,k2,k3⟩:=bP.zip i c h2 (by simpa using hi) ht;refine⟨v',F1++A,Ft,B,by simp,k2,fun ok' ν' st' hw hm t' Ft' h'=>?_⟩;have e:rb (a::x) (i+1)=rb x i:=(by simp[rb]);rw[e];simp only[List.set_cons_succ,bP];exact⟨F1,_,bq.frame hw (aK _) hm _ _ _ h1 fun _ _=>rfl,k3 ok' ν' st' hw hm t' Ft' h',by simp⟩
end
theorem YT{hb A Ft B:List Nat}(h:(hb++(A++(Ft++B))).Nodup):(hb++(A++B)).Nodup∧Ft.Nodup∧∀b∈hb++(A++B),b∉Ft:=by
 have hp:(hb++(A++(Ft++B))).Perm (Ft++(hb++(A++B))):=by rw[List.perm_iff_count];intro a;simp only[List.count_append];omega
 have h':=hp.nodup_iff.1 h;obtain⟨h1,h2,h3⟩:=dU.1 h';exact⟨h2,h1,fun b hb1 hb2=>h3 b hb2 b hb1 rfl⟩
theorem Ur{hb A Ft B:List Nat}(h1:(hb++(A++B)).Nodup)(h2:Ft.Nodup)(h3:∀b∈hb++(A++B),b∉Ft):(hb++(A++(Ft++B))).Nodup:=by
 have hp:(hb++(A++(Ft++B))).Perm (Ft++(hb++(A++B))):=by rw[List.perm_iff_count];intro a;simp only[List.count_append];omega
 exact hp.nodup_iff.2 (dU.2 ⟨h2,h1,fun a ha b hb hab=>h3 b hb (hab▸ha)⟩)
section
variable{P:Program}{g:G}
theorem afR(k i c:Nat){e e':TypeId}{xs ys:List (List T)}(hk:g.at k=some (.gD e xs))(hi:i<xs.length)(hc:(rb xs i)[c]?=some (.own e' ys)) :
 DZ P g ⟨g.sl,dW (dW g.st k (some (.gD e (xs.set i ((rb xs i).set c (.ref g.new)))))) g.new (some (.gD e' ys))⟩:=by
 intro X ν a w hs
 obtain⟨us,ho,hul,kS,hB,hnd⟩:=y9 hs hk
 obtain⟨v,A,Ft,B,hF,hv,hz⟩:=kS.zip i c hi hc
 have hv0:=hv
 simp only[mD] at hv
 obtain⟨us',F1,q1,q2,q3,q4,rfl⟩:=hv
 rw[hF] at hnd
 obtain⟨n1,n2,n3⟩:=YT hnd
 have hnew:=g.nW
 have hkn:k≠g.new:=fun h=>by rw[←h,hk] at hnew;cases hnew
 generalize hg':(⟨g.sl,dW (dW g.st k (some (.gD e (xs.set i ((rb xs i).set c (.ref g.new)))))) g.new (some (.gD e' ys))⟩:G)=g'
 have np:∀j,g'.at j=if j=g.new then some (.gD e' ys) else if j=k then some (.gD e (xs.set i ((rb xs i).set c (.ref g.new)))) else g.at j:=by intro j;rw[←hg'];show dV (dW (dW g.st k _) g.new _) j=_;rw[iT,iT];rfl
 refine⟨fun j=>if j=g.new then⟨v,F1⟩ else if j=k then⟨(ν k).v,A++B⟩ else ν j,?_⟩
 generalize hν':(fun j=>if j=g.new then(⟨v,F1⟩:Nm) else if j=k then⟨(ν k).v,A++B⟩ else ν j)=ν'
 have hνn:ν' g.new=⟨v,F1⟩:=by rw[←hν'];simp
 have hνk:ν' k=⟨(ν k).v,A++B⟩:=by rw[←hν'];simp[hkn]
 have hνo:∀j,j≠g.new→j≠k→ν' j=ν j:=fun j h1 h2=>by rw[←hν'];simp[h1,h2]
 have hm:nH g.at g'.at ν ν':=by
  intro j hj;have h1:j≠g.new:=fun h=>by rw[h,hnew] at hj;cases hj
  refine⟨?_,?_⟩;by_cases h2:j=k;rw[h2,hνk];rw[hνo j h1 h2];rw[np,if_neg h1];split;rfl;exact hj
 have hasn:∀b,(ν' g.new).has b↔b∈hb v++F1:=fun b=>by rw[hνn];exact qJ
 have hask:∀b,(ν' k).has b↔b∈hb (ν k).v++(A++B):=fun b=>by rw[hνk];exact qJ
 have hasK:∀b,(ν k).has b↔b∈hb (ν k).v++(A++((hb v++F1)++B)):=fun b=>by rw[qJ,hF]
 have sub1:∀b,(ν' g.new).has b→(ν k).has b:=fun b h=>(hasK b).2 (by have:=(hasn b).1 h;simp only[aO] at this⊢;rcases this with h|h;exact .inr (.inr (.inl (.inl h)));exact .inr (.inr (.inl (.inr h))))
 have sub2:∀b,(ν' k).has b→(ν k).has b:=fun b h=>(hasK b).2 (by have:=(hask b).1 h;simp only[aO] at this⊢;rcases this with h|h|h;exact .inl h;exact .inr (.inl h);exact .inr (.inr (.inr h)))
 have back:∀j e1,g'.at j=some e1→e1.live=true→∀b,(ν' j).has b→∃j0 e0,g.at j0=some e0∧e0.live=true∧(ν j0).has b∧(j≠g.new→j0=j)∧(j=g.new→j0=k):=by intro j e1 h1 h2 b hb1;by_cases hj:j=g.new;subst hj;exact⟨k,_,hk,rfl,sub1 b hb1,fun h=>absurd rfl h,fun _=>rfl⟩;by_cases nR:j=k;subst nR;exact⟨j,_,hk,rfl,sub2 b hb1,fun _=>rfl,fun h=>absurd h hj⟩;rw[np,if_neg hj,if_neg nR] at h1;rw[hνo j hj nR] at hb1;exact⟨j,e1,h1,h2,hb1,fun _=>rfl,fun h=>absurd h hj⟩
 have jU:∀b,Own ν' g'.at b→Own ν g.at b:=by rintro b ⟨j,e1,h1,h2,h3⟩;obtain⟨j0,e0,k1,k2,k3,_⟩:=back j e1 h1 h2 b h3;exact⟨j0,e0,k1,k2,k3⟩
 have hw:∀b,dk X ν g.at b→b<w.heap.size→dk X ν' g'.at b∧w.heap[b]?=w.heap[b]?:=fun b hb _=>⟨⟨fun ho=>hb.1 (jU b ho),hb.2⟩,rfl⟩
 refine hs.upd (g':=g') (ν':=ν') (fun _=>False) (vg.refl _ w) (fun _ hb=>hb.elim) hm ?_ ?_ ?_ ?_ ?_ ?_ rfl
 ·intro j e1 hj
  rw[np] at hj
  by_cases hjn:j=g.new
  ·rw[if_pos hjn] at hj
   obtain rfl:=Option.some.inj hj
   subst hjn
   refine .inr ⟨?_,?_⟩
   ·rw[hνn]
    exact mD.frame hw (aK _) hm _ _ _ hv0 fun _ _=>rfl
   ·rw[hνn];exact n2
  ·rw[if_neg hjn] at hj
   by_cases nR:j=k
   ·rw[if_pos nR] at hj
    obtain rfl:=Option.some.inj hj
    subst nR
    refine .inr (Dh (us:=us) ?_ hul ?_ (by simpa using hB) ?_)
    ·rw[hνk];simpa using ho
    ·rw[hνk]
     have:=hz _ ν' g'.at hw hm (.ref g.new) [] (by simp only[mD,and_true];exact⟨by rw[np,if_pos rfl];rfl,by rw[hνn]⟩)
     simpa using this
    ·rw[hνk];exact n1
   ·rw[if_neg nR] at hj
    exact .inl ⟨hj,hνo j hjn nR,fun _ _ _ hb=>hb⟩
 ·intro j e1 b h1 h2 h3
  exact .inl (jU b ⟨j,e1,h1,h2,h3⟩)
 ·intro j j' e1 e2 b h1 h2 h3 h4 h5 h6
  obtain⟨j0,e0,k1,k2,k3,k4,k5⟩:=back j e1 h1 h3 b h5
  obtain⟨j1,e3,l1,l2,l3,l4,l5⟩:=back j' e2 h2 h4 b h6
  have hjj:=hs.inj j0 j1 e0 e3 b k1 l1 k2 l2 k3 l3
  by_cases hj:j=g.new
  ·by_cases hj':j'=g.new
   ·rw[hj,hj']
   ·have e1:=k5 hj
    have e2:=l4 hj'
    have e3:j'=k:=by rw[←e2,←hjj,e1]
    subst hj e3
    exact(n3 b ((hask b).1 h6) ((hasn b).1 h5)).elim
  ·by_cases hj':j'=g.new
   ·have e1:=k4 hj
    have e2:=l5 hj'
    have e3:j=k:=by rw[←e1,hjj,e2]
    subst hj' e3
    exact(n3 b ((hask b).1 h5) ((hasn b).1 h6)).elim
   ·rw[←k4 hj,←l4 hj',hjj]
 ·intro j hj
  rw[np] at hj
  by_cases hjn:j=g.new
  ·right
   rw[hjn,hνn]
   exact row_one q1
  ·rw[if_neg hjn] at hj
   by_cases nR:j=k
   ·exact .inl (by rw[nR,hk];rfl)
   ·rw[if_neg nR] at hj
    exact .inl hj
 ·rw[←hg'];exact hs.size
 ·intro t
  exact .inl ⟨by rw[←hg'],rfl⟩
theorem agQ(k i c j:Nat){e e':TypeId}{xs ys:List (List T)}(hk:g.at k=some (.gD e xs))(hi:i<xs.length)(hc:(rb xs i)[c]?=some (.ref j))(hj:g.at j=some (.gD e' ys))(nR:j≠k) :
 DZ P g ⟨g.sl,dW (dW g.st k (some (.gD e (xs.set i ((rb xs i).set c (.own e' ys)))))) j (some .dead)⟩:=by
 intro X ν a w hs
 obtain⟨us,ho,hul,kS,hB,hnd⟩:=y9 hs hk
 obtain⟨v,A,Ft,B,hF,hv,hz⟩:=kS.zip i c hi hc
 simp only[mD] at hv
 obtain⟨hv1,rfl,rfl⟩:=hv
 obtain⟨hen,hndj⟩:=hs.en j _ hj
 simp only[bS] at hF
 rw[hF] at hnd
 generalize hg':(⟨g.sl,dW (dW g.st k (some (.gD e (xs.set i ((rb xs i).set c (.own e' ys)))))) j (some .dead)⟩:G)=g'
 have np:∀l,g'.at l=if l=j then some .dead else if l=k then some (.gD e (xs.set i ((rb xs i).set c (.own e' ys)))) else g.at l:=by intro l;rw[←hg'];show dV (dW (dW g.st k _) j _) l=_;rw[iT,iT];rfl
 refine⟨fun l=>if l=k then⟨(ν k).v,A++((hb (ν j).v++(ν j).f)++B)⟩ else ν l,?_⟩
 generalize hν':(fun l=>if l=k then(⟨(ν k).v,A++((hb (ν j).v++(ν j).f)++B)⟩:Nm) else ν l)=ν'
 have hνk:ν' k=⟨(ν k).v,A++((hb (ν j).v++(ν j).f)++B)⟩:=by rw[←hν'];simp
 have hνo:∀l,l≠k→ν' l=ν l:=fun l h1=>by rw[←hν'];simp[h1]
 have hm:nH g.at g'.at ν ν':=by intro l hl;refine⟨?_,?_⟩;by_cases h2:l=k;rw[h2,hνk];rw[hνo l h2];rw[np];split;rfl;split;rfl;exact hl
 have hask:∀b,(ν' k).has b→(ν k).has b∨(ν j).has b:=fun b h=>by rw[hνk,qJ] at h;rw[qJ,qJ,hF];simp only[aO] at h⊢;rcases h with h|h|(h|h)|h;exact .inl (.inl h);exact .inl (.inr (.inl h));exact .inr (.inl h);exact .inr (.inr h);exact .inl (.inr (.inr h))
 have back:∀l e1,g'.at l=some e1→e1.live=true→∀b,(ν' l).has b→(l=k∧((ν k).has b∨(ν j).has b))∨(l≠k∧l≠j∧g.at l=some e1∧(ν l).has b):=by intro l e1 h1 h2 b hb1;rw[np] at h1;by_cases hlj:l=j;rw[if_pos hlj] at h1;obtain rfl:=Option.some.inj h1;cases h2;rw[if_neg hlj] at h1;by_cases hlk:l=k;subst hlk;exact .inl ⟨rfl,hask b hb1⟩;rw[if_neg hlk] at h1;rw[hνo l hlk] at hb1;exact .inr ⟨hlk,hlj,h1,hb1⟩
 have jU:∀b,Own ν' g'.at b→Own ν g.at b:=by rintro b ⟨l,e1,h1,h2,h3⟩;rcases back l e1 h1 h2 b h3 with⟨_,h|h⟩|⟨_,_,h4,h5⟩;exact⟨k,_,hk,rfl,h⟩;exact⟨j,_,hj,rfl,h⟩;exact⟨l,e1,h4,h2,h5⟩
 have hw:∀b,dk X ν g.at b→b<w.heap.size→dk X ν' g'.at b∧w.heap[b]?=w.heap[b]?:=fun b hb _=>⟨⟨fun ho=>hb.1 (jU b ho),hb.2⟩,rfl⟩
 refine hs.upd (g':=g') (ν':=ν') (fun _=>False) (vg.refl _ w) (fun _ hb=>hb.elim) hm ?_ ?_ ?_ ?_ ?_ ?_ rfl
 ·intro l e1 hl
  rw[np] at hl
  by_cases hlj:l=j
  ·rw[if_pos hlj] at hl
   obtain rfl:=Option.some.inj hl
   exact .inr trivial
  ·rw[if_neg hlj] at hl
   by_cases hlk:l=k
   ·rw[if_pos hlk] at hl
    obtain rfl:=Option.some.inj hl
    subst hlk
    refine .inr (Dh (us:=us) ?_ hul ?_ (by simpa using hB) ?_)
    ·rw[hνk];simpa using ho
    ·rw[hνk]
     exact hz _ ν' g'.at hw hm (.own e' ys) _ (mD.frame hw (aK _) hm _ _ _ hen fun _ _=>rfl)
    ·rw[hνk]
     refine Ur hnd hndj fun b h1 h2=>?_
     refine nR (hs.inj j l _ _ b hj hk rfl rfl (qJ.2 h2) (qJ.2 ?_))
     rw[hF];exact h1
   ·rw[if_neg hlk] at hl
    exact .inl ⟨hl,hνo l hlk,fun _ _ _ hb=>hb⟩
 ·intro l e1 b h1 h2 h3
  exact .inl (jU b ⟨l,e1,h1,h2,h3⟩)
 ·intro l l' e1 e2 b h1 h2 h3 h4 h5 h6
  rcases back l e1 h1 h3 b h5 with⟨rfl,p1⟩|⟨p1,p2,p3,p4⟩
  ·rcases back l' e2 h2 h4 b h6 with⟨rfl,q1⟩|⟨q1,q2,q3,q4⟩
   ·rfl
   ·rcases p1 with p1|p1
    ·exact hs.inj l l' _ e2 b hk q3 rfl h4 p1 q4
    ·exact(q2 (hs.inj l' j e2 _ b q3 hj h4 rfl q4 p1)).elim
  ·rcases back l' e2 h2 h4 b h6 with⟨rfl,q1⟩|⟨q1,q2,q3,q4⟩
   ·rcases q1 with q1|q1
    ·exact hs.inj l l' e1 _ b p3 hk h3 rfl p4 q1
    ·exact(p2 (hs.inj l j e1 _ b p3 hj h3 rfl p4 q1)).elim
   ·exact hs.inj l l' e1 e2 b p3 q3 h3 h4 p4 q4
 ·intro l hl
  rw[np] at hl
  by_cases hlj:l=j
  ·exact .inl (by rw[hlj,hj];rfl)
  ·rw[if_neg hlj] at hl
   by_cases hlk:l=k
   ·exact .inl (by rw[hlk,hk];rfl)
   ·rw[if_neg hlk] at hl
    exact .inl hl
 ·rw[←hg'];exact hs.size
 ·intro t
  exact .inl ⟨by rw[←hg'],rfl⟩
theorem DZ.refl(g:G):DZ P g g:=fun _ ν _ _ h=>⟨ν,h⟩
theorem DZ.RD{n0:Nat}{g g':G}(h:DZ P g g'):pS P n0 g g':=fun X ν a w _ hs=>h X ν a w hs
theorem ahl(j:Nat){e:TypeId}{xs:List (List D)}(hj:g.at j=some (.aX e xs)):DZ P g ⟨g.sl,dW g.st j (some (.gD e (lift xs)))⟩:=fun _ ν _ _ h=>⟨ν,h.lift hj⟩
theorem G7:∀{l:List (Option En)}{k:Nat}{e:En},dV l k=some e→dW l k (some e)=l
 | [],k,e,h=>by cases k<;>simp[dV] at h
 | _::_,0,_,h=>by simp only[dV] at h;simp[dW,h]
 | a::l,k+1,e,h=>by simp only[dV] at h;simp[dW,G7 h]
theorem wS:∀{l:List (Option En)}{k:Nat}(x:Option En),k<l.length→(dW l k x).length=l.length
 | [],k,_,h=>by simp at h
 | _::_,0,_,_=>rfl
 | a::l,k+1,x,h=>by simp[dW,wS x (by simpa using h)]
theorem S1:∀(l:List (Option En))(x:Option En),dW l l.length x=l++[x]
 | [],_=>rfl
 | a::l,x=>by simp[dW,S1 l x]
theorem K9:∀{l m:List (Option En)}{k:Nat}(x:Option En),k<l.length→dW (l++m) k x=dW l k x++m
 | [],_,k,_,h=>by simp at h
 | _::_,_,0,_,_=>rfl
 | a::l,m,k+1,x,h=>by simp[dW,K9 x (by simpa using h)]
theorem BZ:∀(l:List (Option En))(j k:Nat)(x y:Option En),j≠k→dW (dW l j x) k y=dW (dW l k y) j x
 | [],0,0,_,_,h=>absurd rfl h
 | [],0,k+1,_,_,_=>rfl
 | [],j+1,0,_,_,_=>rfl
 | [],j+1,k+1,x,y,h=>by simp[dW,BZ [] j k x y oM]
 | _::_,0,0,_,_,h=>absurd rfl h
 | _::_,0,k+1,_,_,_=>rfl
 | _::_,j+1,0,_,_,_=>rfl
 | a::l,j+1,k+1,x,y,h=>by simp[dW,BZ l j k x y oM]
def sq:Nat→List T→List T
 | _,[]=>[]
 | n,.own _ _::ts=>.ref n::sq (n+1) ts
 | n,.fM d::ts=>.fM d::sq n ts
 | n,.ref j::ts=>.ref j::sq n ts
def Nu:List T→List (Option En)
 | []=>[]
 | .own e xs::ts=>some (.gD e xs)::Nu ts
 | .fM _::ts=>Nu ts
 | .ref _::ts=>Nu ts
def apE:List (Option En)→List (Option En)→List (Option En)
 | [],m=>m
 | a::l,m=>a::apE l m
theorem QX:∀(l m:List (Option En)),apE l m=l++m
 | [],_=>rfl
 | a::l,m=>by simp[apE,QX l m]
theorem DG{α:Type}(pre:List α)(a b:α)(r:List α):(pre++a::r).set pre.length b=pre++b::r:=by rw[List.set_append_right _ _ (aK _),Nat.sub_self,jX]
theorem zn{k i:Nat}{e:TypeId}:∀(rest pre:List T)(g:G)(xs:List (List T)),g.at k=some (.gD e xs)→i<xs.length→rb xs i=pre++rest →
 DZ P g ⟨g.sl,apE (dW g.st k (some (.gD e (xs.set i (pre++sq g.new rest))))) (Nu rest)⟩
 | [],pre,g,xs,hk,hi,hr=>by have e1:xs.set i pre=xs:=(by rw[bE] at hr;rw[←hr];refine oG fun j=>?_;rw[mq];by_cases hj:i=j;subst hj;rw[if_pos rfl,if_pos hi,abp hi];rw[if_neg hj]);simp only[sq,Nu,bE,QX,e1];rw[G7 hk];exact DZ.refl g
 | .fM d::ts,pre,g,xs,hk,hi,hr=>by have:=zn ts (pre++[.fM d]) g xs hk hi (by simpa using hr);simpa[sq,Nu] using this
 | .ref d::ts,pre,g,xs,hk,hi,hr=>by have:=zn ts (pre++[.ref d]) g xs hk hi (by simpa using hr);simpa[sq,Nu] using this
 | .own e' ys::ts,pre,g,xs,hk,hi,hr=>by have hkl:k<g.st.length:=qn (by rw[show dV g.st k=_ from hk];rfl);have hn:g.new=g.st.length:=pZ g.st;have h1:=afR (P:=P) k i pre.length hk hi (e':=e') (ys:=ys) (by rw[hr];simp);have e1:(rb xs i).set pre.length (.ref g.new)=pre++ .ref g.new::ts:=(by rw[hr];exact DG _ _ _ _);rw[e1] at h1;have e2:dW (dW g.st k (some (.gD e (xs.set i (pre++ .ref g.new::ts))))) g.new (some (.gD e' ys))=dW g.st k (some (.gD e (xs.set i (pre++ .ref g.new::ts))))++[some (.gD e' ys)]:=(by generalize some (En.gD e (xs.set i (pre++ .ref g.new::ts)))=z;rw[hn,←wS z hkl,S1]);rw[e2] at h1;refine h1.trans ?_;have hk1:(⟨g.sl,dW g.st k (some (.gD e (xs.set i (pre++ .ref g.new::ts))))++[some (.gD e' ys)]⟩:G).at k=some (.gD e (xs.set i (pre++ .ref g.new::ts))):=(by show dV _ k=_;rw[←K9 _ hkl,iT,if_pos rfl]);have hr1:rb (xs.set i (pre++ .ref g.new::ts)) i=pre++ .ref g.new::ts:=(by simp[rb,ct,hi]);have:=zn ts (pre++[.ref g.new]) ⟨g.sl,dW g.st k (some (.gD e (xs.set i (pre++ .ref g.new::ts))))++[some (.gD e' ys)]⟩ _ hk1 (by simpa using hi) (by rw[hr1];simp);have hn2:(⟨g.sl,dW g.st k (some (.gD e (xs.set i (pre++ .ref g.new::ts))))++[some (.gD e' ys)]⟩:G).new=g.new+1:=(by rw[G.new,pZ,hn];simp[wS _ hkl]);rw[hn2] at this;simp only[QX,List.set_set] at this;rw[K9 _ (by rw[wS _ hkl];exact hkl),rT] at this;simpa[sq,Nu,QX] using this
theorem abS(k i:Nat){e:TypeId}{xs:List (List T)}(row:List T)(hk:g.at k=some (.gD e xs))(hi:i<xs.length)(hr:rb xs i=row) :
 DZ P g ⟨g.sl,apE (dW g.st k (some (.gD e (xs.set i (sq g.new row))))) (Nu row)⟩:=by
 have:=zn (P:=P) (k:=k) (i:=i) row [] g xs hk hi (by simpa using hr)
 simpa using this
def gN(k:Nat):List (Option En)→List T→List T
 | _,[]=>[]
 | st,.ref j::ts=>match M1 j k,dV st j with
   | false,some (.gD e ys)=>.own e ys::gN k (dW st j (some .dead)) ts
   | false,some (.aX e ys)=>.own e (lift ys)::gN k (dW st j (some .dead)) ts
   | _,_=>.ref j::gN k st ts
 | st,.fM d::ts=>.fM d::gN k st ts
 | st,.own e ys::ts=>.own e ys::gN k st ts
def rv(k:Nat):List (Option En)→List T→List (Option En)
 | st,[]=>st
 | st,.ref j::ts=>match M1 j k,dV st j with
   | false,some (.gD _ _)=>rv k (dW st j (some .dead)) ts
   | false,some (.aX _ _)=>rv k (dW st j (some .dead)) ts
   | _,_=>rv k st ts
 | st,.fM _::ts=>rv k st ts
 | st,.own _ _::ts=>rv k st ts
theorem ZJ{j k:Nat}(h:M1 j k=false):j≠k:=fun e=>by subst e;rw[KP] at h;cases h
theorem YZ{k:Nat}(x:Option En):∀(ts:List T)(st:List (Option En)),gN k (dW st k x) ts=gN k st ts∧rv k (dW st k x) ts=dW (rv k st ts) k x
 | [],st=>⟨rfl,rfl⟩
 | .fM d::ts,st=>by obtain⟨h1,h2⟩:=YZ (k:=k) x ts st;exact⟨by simp[gN,h1],by simp[rv,h2]⟩
 | .own e ys::ts,st=>by obtain⟨h1,h2⟩:=YZ (k:=k) x ts st;exact⟨by simp[gN,h1],by simp[rv,h2]⟩
 | .ref j::ts,st=>by
  simp only[gN,rv];cases hj:M1 j k with
  | true=>obtain⟨h1,h2⟩:=YZ (k:=k) x ts st;exact⟨by simp[h1],by simp[h2]⟩
  | false=>
   have lj:=ZJ hj;rw[iT,if_neg lj];obtain⟨h1,h2⟩:=YZ (k:=k) x ts st;obtain⟨h3,h4⟩:=YZ (k:=k) x ts (dW st j (some .dead));rw[BZ st j k _ _ lj] at h3 h4;cases dV st j with
   | none=>exact⟨by simp[h1],by simp[h2]⟩
   | some en=>cases en with
     | box cs=>exact⟨by simp[h1],by simp[h2]⟩
     | dead=>exact⟨by simp[h1],by simp[h2]⟩
     | map wu=>exact⟨by simp[h1],by simp[h2]⟩
     | aX e ys=>exact⟨by simp[h3],by simp[h4]⟩
     | gD e ys=>exact⟨by simp[h3],by simp[h4]⟩
theorem yc{k i:Nat}{e:TypeId}:∀(rest pre:List T)(g:G)(xs:List (List T)),g.at k=some (.gD e xs)→i<xs.length→rb xs i=pre++rest →
 DZ P g ⟨g.sl,dW (rv k g.st rest) k (some (.gD e (xs.set i (pre++gN k g.st rest))))⟩
 | [],pre,g,xs,hk,hi,hr=>by have e1:xs.set i pre=xs:=(by rw[bE] at hr;rw[←hr];refine oG fun j=>?_;rw[mq];by_cases hj:i=j;subst hj;rw[if_pos rfl,if_pos hi,abp hi];rw[if_neg hj]);simp only[gN,rv,bE,e1];rw[G7 hk];exact DZ.refl g
 | .fM d::ts,pre,g,xs,hk,hi,hr=>by have:=yc ts (pre++[.fM d]) g xs hk hi (by simpa using hr);simpa[gN,rv] using this
 | .own e' ys::ts,pre,g,xs,hk,hi,hr=>by have:=yc ts (pre++[.own e' ys]) g xs hk hi (by simpa using hr);simpa[gN,rv] using this
 | .ref j::ts,pre,g,xs,hk,hi,hr=>by
  have stay:(gN k g.st (.ref j::ts)= .ref j::gN k g.st ts)→(rv k g.st (.ref j::ts)=rv k g.st ts)→DZ P g ⟨g.sl,dW (rv k g.st (.ref j::ts)) k (some (.gD e (xs.set i (pre++gN k g.st (.ref j::ts)))))⟩:=(by intro h1 h2;have:=yc ts (pre++[.ref j]) g xs hk hi (by simpa using hr);rw[h1,h2];simpa using this);have go:∀(e':TypeId)(ys:List (List T))(g0:G),DZ P g g0→g0.sl=g.sl→g0.at k=some (.gD e xs)→g0.at j=some (.gD e' ys)→j≠k→dW g0.st j (some .dead)=dW g.st j (some .dead) →
   DZ P g ⟨g.sl,dW (rv k (dW g.st j (some .dead)) ts) k (some (.gD e (xs.set i (pre++ .own e' ys::gN k (dW g.st j (some .dead)) ts))))⟩:=by
   intro e' ys g0 hw hsl hk0 hj0 lj ld
   refine hw.trans ?_
   have h1:=agQ (P:=P) k i pre.length j hk0 hi (by rw[hr];simp) hj0 lj
   have e1:(rb xs i).set pre.length (.own e' ys)=pre++ .own e' ys::ts:=by rw[hr];exact DG _ _ _ _
   rw[e1,←BZ _ _ _ _ _ lj,ld,hsl] at h1
   refine h1.trans ?_
   have hk1:(⟨g.sl,dW (dW g.st j (some .dead)) k (some (.gD e (xs.set i (pre++ .own e' ys::ts))))⟩:G).at k=some (.gD e (xs.set i (pre++ .own e' ys::ts))):=by show dV _ k=_;rw[iT,if_pos rfl]
   have hr1:rb (xs.set i (pre++ .own e' ys::ts)) i=pre++ .own e' ys::ts:=by simp[rb,ct,hi]
   have:=yc ts (pre++[.own e' ys]) _ _ hk1 (by simpa using hi) (by rw[hr1];simp)
   obtain⟨q1,q2⟩:=YZ (k:=k) (some (.gD e (xs.set i (pre++ .own e' ys::ts)))) ts (dW g.st j (some .dead))
   simp only[q1,q2,List.set_set,rT] at this
   simpa using this
  cases nR:M1 j k with
  | true=>exact stay (by simp[gN,nR]) (by simp[rv,nR])
  | false=>
   have lj:=ZJ nR;cases hen:dV g.st j with
   | none=>exact stay (by simp[gN,nR,hen]) (by simp[rv,nR,hen])
   | some en=>cases en with
     | box cs=>exact stay (by simp[gN,nR,hen]) (by simp[rv,nR,hen])
     | dead=>exact stay (by simp[gN,nR,hen]) (by simp[rv,nR,hen])
     | map wu=>exact stay (by simp[gN,nR,hen]) (by simp[rv,nR,hen])
     | gD e' ys=>have:=go e' ys g (DZ.refl g) rfl hk hen lj rfl;simpa[gN,rv,nR,hen] using this
     | aX e' ys=>have hk0:(⟨g.sl,dW g.st j (some (.gD e' (lift ys)))⟩:G).at k=some (.gD e xs):=(by show dV _ k=_;rw[iT,if_neg (Ne.symm lj)];exact hk);have hj0:(⟨g.sl,dW g.st j (some (.gD e' (lift ys)))⟩:G).at j=some (.gD e' (lift ys)):=(by show dV _ j=_;rw[iT,if_pos rfl]);have:=go e' (lift ys) ⟨g.sl,dW g.st j (some (.gD e' (lift ys)))⟩ (ahl j hen) rfl hk0 hj0 lj (rT _ _ _ _);simpa[gN,rv,nR,hen] using this
theorem yq(k i:Nat){e:TypeId}{xs:List (List T)}(row:List T)(hk:g.at k=some (.gD e xs))(hi:i<xs.length)(hr:rb xs i=row) :
 DZ P g ⟨g.sl,dW (rv k g.st row) k (some (.gD e (xs.set i (gN k g.st row))))⟩:=by
 have:=yc (P:=P) (k:=k) (i:=i) row [] g xs hk hi (by simpa using hr)
 simpa using this
end
def apN:List Nat→List Nat→List Nat
 | [],m=>m
 | a::l,m=>a::apN l m
theorem acb:∀(l m:List Nat),apN l m=l++m
 | [],_=>rfl
 | a::l,m=>by simp[apN,acb l m]
def sdD:D→Bool
 | .val _=>true
 | .str _=>true
 | .eC _=>false
def abr:List D→Bool
 | []=>true
 | d::ds=>sdD d&&abr ds
def KC:List (List D)→Bool
 | []=>true
 | x::xs=>abr x&&KC xs
mutual
def T.sd:T→Bool
 | .fM d=>sdD d
 | .ref _=>true
 | .own _ xs=>SI xs
def sdT:List T→Bool
 | []=>true
 | t::ts=>t.sd&&sdT ts
def SI:List (List T)→Bool
 | []=>true
 | x::xs=>sdT x&&SI xs
end
mutual
def PV.sd:PV→Bool
 | .any=>true
 | .undef=>true
 | .bW=>true
 | .d x=>sdD x
 | .agg cs=>sds cs
 | .iZ cs=>sds cs
 | .bA _ _=>true
 | .aX _=>true
 | .jg _ _ _ _=>true
 | .ib _ _ _=>false
 | .fn _ cs=>sds cs
def sds:List PV→Bool
 | []=>true
 | p::ps=>p.sd&&sds ps
end
def En.sd:En→Bool
 | .box cs=>sds cs
 | .aX _ xs=>KC xs
 | .gD _ xs=>SI xs
 | .map _=>true
 | .dead=>true
def MZ:List (Option En)→Bool
 | []=>true
 | none::es=>MZ es
 | some e::es=>e.sd&&MZ es
section
variable{P:Program}{w:World}{ok ok':Nat→Prop}{ν:Nat→Nm}{st:Nat→Option En}
theorem jD.sd{d:D}{v:Value}(h:sdD d=true)(hr:jD w ok d v):jD w ok' d v:=by
 cases hr with
 | val v h'=>exact .val v h'
 | str l h'=>exact .str l h'
 | nil=>cases h
 | emp a c h'=>cases h
 | eC=>cases h
mutual
theorem mD.sd:∀(t:T)(v:Value)(F:List Nat),t.sd=true→mD P w ok ν st t v F→mD P w ok' ν st t v F
 | .fM d,v,F,hs,h=>by simp only[mD] at h⊢;simp only[T.sd] at hs;exact⟨h.1.sd hs,h.2⟩
 | .ref j,v,F,hs,h=>by simpa only[mD] using h
 | .own e xs,v,F,hs,h=>by simp only[T.sd] at hs;simp only[mD] at h⊢;obtain⟨us,F1,h1,h2,h3,h4,h5⟩:=h;exact⟨us,F1,h1,h2,bP.sd xs us F1 hs h3,h4,h5⟩
theorem bq.sd:∀(ts:List T)(vs:List Value)(F:List Nat),sdT ts=true→bq P w ok ν st ts vs F→bq P w ok' ν st ts vs F
 | [],[],F,_,h=>by simpa only[bq] using h
 | [],_::_,F,_,h=>by simp[bq] at h
 | _::_,[],F,_,h=>by simp[bq] at h
 | t::ts,v::vs,F,hs,h=>by simp only[sdT,ah] at hs;simp only[bq] at h⊢;obtain⟨F1,F2,h1,h2,h3⟩:=h;exact⟨F1,F2,mD.sd t v F1 hs.1 h1,bq.sd ts vs F2 hs.2 h2,h3⟩
theorem bP.sd:∀(xs:List (List T))(us:List (List Value))(F:List Nat),SI xs=true→bP P w ok ν st xs us F→bP P w ok' ν st xs us F
 | [],[],F,_,h=>by simpa only[bP] using h
 | [],_::_,F,_,h=>by simp[bP] at h
 | _::_,[],F,_,h=>by simp[bP] at h
 | x::xs,u::us,F,hs,h=>by simp only[SI,ah] at hs;simp only[bP] at h⊢;obtain⟨F1,F2,h1,h2,h3⟩:=h;exact⟨F1,F2,bq.sd x u F1 hs.1 h1,bP.sd xs us F2 hs.2 h2,h3⟩
end
mutual
theorem aJ.sd:∀(p:PV)(v:Value),p.sd=true→aJ w ok ν st p v→aJ w ok' ν st p v
 | .any,_,_,_=>by simp only[aJ]
 | .undef,_,_,h=>by simpa only[aJ] using h
 | .bW,_,_,h=>by simpa only[aJ] using h
 | .d x,v,hs,h=>by simp only[aJ] at h⊢;exact h.sd hs
 | .agg cs,v,hs,h=>by simp only[aJ] at h⊢;obtain⟨vs,e,h⟩:=h;exact⟨vs,e,aH.sd cs vs (by simpa only[PV.sd] using hs) h⟩
 | .iZ cs,v,hs,h=>by simp only[aJ] at h⊢;obtain⟨vs,e,h⟩:=h;exact⟨vs,e,aH.sd cs vs (by simpa only[PV.sd] using hs) h⟩
 | .bA _ _,_,_,h=>by simpa only[aJ] using h
 | .aX _,_,_,h=>by simpa only[aJ] using h
 | .jg _ _ _ _,_,_,h=>by simpa only[aJ] using h
 | .ib _ _ _,_,hs,_=>by simp[PV.sd] at hs
 | .fn f cs,v,hs,h=>by simp only[aJ] at h⊢;obtain⟨vs,e,h⟩:=h;exact⟨vs,e,aH.sd cs vs (by simpa only[PV.sd] using hs) h⟩
theorem aH.sd:∀(ps:List PV)(vs:List Value),sds ps=true→aH w ok ν st ps vs→aH w ok' ν st ps vs
 | [],[],_,_=>by simp[aH]
 | [],_::_,_,h=>by simp[aH] at h
 | _::_,[],_,h=>by simp[aH] at h
 | p::ps,v::vs,hs,h=>by simp only[sds,ah] at hs;simp only[aH] at h⊢;exact⟨aJ.sd p v hs.1 h.1,aH.sd ps vs hs.2 h.2⟩
end
theorem adT:∀{xs:List (List D)},KC xs=true→∀(i j:Nat)(x:List D)(d:D),xs[i]?=some x→x[j]?=some d→sdD d=true:=by
 have h1:∀{x:List D},abr x=true→∀(j:Nat)(d:D),x[j]?=some d→sdD d=true:=by
  intro x;induction x with
  | nil=>intro _ j d h;simp at h
  | cons e x ih=>
   intro h j d hd;simp only[abr,ah] at h;cases j with
   | zero=>obtain rfl:e=d:=by simpa using hd
           exact h.1
   | succ j=>exact ih h.2 j d (by simpa using hd)
 intro xs;induction xs with
 | nil=>intro _ i j x d h;simp at h
 | cons y xs ih=>
  intro h i j x d hx hd;simp only[KC,ah] at h;cases i with
  | zero=>obtain rfl:y=x:=by simpa using hx
          exact h1 h.1 j d hd
  | succ i=>exact ih h.2 i j x d (by simpa using hx) hd
theorem mS.sd{k:Nat}{e:En}(hs:e.sd=true)(h:mS P w ok ν st k e):mS P w ok' ν st k e:=by
 cases e with
 | dead=>trivial
 | box cs=>obtain⟨b,vs,T,h1,h2,h3,h4⟩:=h;exact⟨b,vs,T,h1,h2,aH.sd cs vs (by simpa only[En.sd] using hs) h3,h4⟩
 | aX e xs=>obtain⟨us,h1,h2,h3,h4⟩:=h;exact⟨us,h1,⟨h2.len,h2.hx,h2.hu,fun i j x u d v k1 k2 k3 k4=>(h2.hr i j x u d v k1 k2 k3 k4).sd (adT (by simpa only[En.sd] using hs) i j x d k1 k3)⟩,h3,h4⟩
 | gD e xs=>exact⟨mD.sd (.own e xs) _ _ (by simpa only[T.sd,En.sd] using hs) h.1,h.2⟩
 | map wu=>exact h
theorem PJ:∀{es:List (Option En)},MZ es=true→∀(i:Nat)(e:En),dV es i=some e→e.sd=true
 | [],_,i,e,h=>by cases i<;>simp[dV] at h
 | none::es,hs,0,e,h=>by simp[dV] at h
 | none::es,hs,i+1,e,h=>PJ (es:=es) (by simpa only[MZ] using hs) i e (by simpa[dV] using h)
 | some a::es,hs,0,e,h=>by
  simp only[MZ,ah] at hs;obtain rfl:a=e:=by simpa[dV] using h
  exact hs.1
 | some a::es,hs,i+1,e,h=>by simp only[MZ,ah] at hs;exact PJ hs.2 i e (by simpa[dV] using h)
end
theorem aaa{P:Program}{o:Oper}{g:G}{oE:Operand}{xs:List Operand}{tys:Array TypeId}{d:Nat}(ho:o.op= .call ⟨.value oE,⟨xs⟩,tys⟩)(hd:o.dst=some d){f:FuncId}{cap:List PV}(hfn:g.ev oE= .fn f cap)
 (ks m:List Nat) (dh:List PV) (res:PV) (st':List (Option En)) (hC:C P f dh [] (jF res st')) (ru:wq g ks (xs.map g.ev++cap) dh) (hsd:res.sd=true) (hse:MZ st'=true) (hm:m.Nodup) (hnew:jP g 0 m) (hml:st'.length≤m.length)
 (X:Cx) (ν:Nat→Nm) (a:Act) (w:World) (next:Act→World→Prop) (Q:Exit→Act→World→Prop) (hs:Sat P X ν g a w)
 (hn:∀ν' a' w',Sat P X ν' ⟨n8 g.sl d (res.nZ m),B4 g.st (mF m m st')⟩ a' w'→next a' w'):o.wp P a w next Q:=by
 have hfv:=hs.ev oE
 rw[hfn] at hfv
 simp only[aJ] at hfv
 obtain⟨vcap,hfv,lF⟩:=hfv
 have hxs:=Fk hs xs
 let Xc:Cx:=⟨w,Own (fun i=>ν (look m i)) (dV []),fun i=>ν (look m i),dV [],X.Z⟩
 have hno:∀(ν:Nat→Nm) b,¬Own ν (dV []) b:=by rintro ν b ⟨k,e,h,_⟩;cases k<;>simp[dV] at h
 have hw:∀b,dk X ν g.at b→b<w.heap.size→dk Xc (fun i=>ν (look m i)) (dV []) b∧w.heap[b]?=w.heap[b]?:=fun b hb _=>⟨⟨hno _ b,hb.2⟩,rfl⟩
 have jU:∀b,Own ν g.at b→dk Xc (fun i=>ν (look m i)) (dV []) b:=fun b hb=>⟨hno _ b,hs.PG hb⟩
 have nq:aH w (dk Xc (fun i=>ν (look m i)) (dV [])) (fun i=>ν (look m i)) (dV []) dh (xs.map a.eval++vcap):=aH.vw hs hw jU _ ru (hxs.app lF)
 obtain⟨⟨fn,hfn1,hfn2,hfn3⟩,hC⟩:=hC
 have hr:(execOp a.eval o).run P w= .ok (.enter f ⟨xs.map a.eval++vcap⟩) w:=by
  have n1 : ¬ fn.name = "runtime.NumGoroutine" := by simpa using hfn3
  have n2:¬fn.body=none:=fun e=>by rw[e] at hfn2;cases hfn2
  simp[execOp,ho,resolve,hfv,Deferred.ofValue,invoke,callFunc,program,hfn1,n1,n2,Sem.run]
 have np:∀k,(⟨dh,[]⟩:G).at k=none:=fun k=>by cases k<;>rfl
 have hent:Sat P Xc (fun i=>ν (look m i)) ⟨dh,[]⟩ ⟨⟨xs.map a.eval++vcap⟩,[]⟩ w:=by
  refine⟨by simpa using nq.length,fun t=>?_,fun k e h=>?_,fun k k' e e' b h=>?_,fun b hb=>?_,fun k h=>?_,fun k h=>?_,⟨fun b hb=>?_,hs.kt rfl fun b hb=>(hno _ b hb).elim⟩,vg.refl _ w,rfl⟩;have key:∀(ps:List PV)(us:List Value)(t:Nat),aH w (dk Xc (fun i=>ν (look m i)) (dV [])) (fun i=>ν (look m i)) (dV []) ps us→aJ w (dk Xc (fun i=>ν (look m i)) (dV [])) (fun i=>ν (look m i)) (dV []) (nth ps t) (us.getD t Go.undef):=by
   intro ps;induction ps with
   | nil=>intro us t _;cases t<;>simp[nth,aJ]
   | cons p ps ih=>
    intro us t hr;cases us with
    | nil=>simp[aH] at hr
    | cons u us=>
     simp only[aH] at hr;cases t with
     | zero=>simpa[nth] using hr.1
     | succ t=>simpa[nth] using ih us t hr.2
  have:=key dh _ t nq;show aJ w (dk Xc (fun i=>ν (look m i)) (dV [])) (fun i=>ν (look m i)) (dV []) (nth dh t) ((⟨xs.map a.eval++vcap⟩:Array Value).getD t Go.undef);simpa[Array.getD_eq_getD_getElem?] using this;rw[np] at h;cases h;rw[np] at h;cases h;exact(hno _ b hb).elim;rw[np] at h;cases h;exact⟨rfl,h⟩;exact⟨Nat.lt_of_lt_of_le (hs.Jy b hb).1 hs.Da.size,hno _ b⟩
 unfold Oper.wp
 rw[hr,Oper.upon_enter]
 refine(hC Xc (xs.map a.eval++vcap) rfl rfl hent).mono ?_
 rintro e w' ⟨v,res',st2,ν',rfl,⟨rfl,rfl⟩,je⟩
 let Xd:Cx:=⟨w,Own (fun i=>ν (look m i)) (dV []),fun i=>ν (look m i),dV [],fun b=>X.Z b∨(Own ν g.at b∧¬Own (fun i=>ν (look m i)) (dV []) b)⟩
 have hsat2:UZ P Xd ν' res' st2 v w':=by
  refine⟨je.size,fun t=>?_,fun k e h=>mS.sd (PJ hse k e h) (je.en k e h),je.inj,je.base,je.nu,je.par,⟨fun b hb=>?_,je.Jy.k⟩,je.Da,je.defs⟩;have hx:(nth [res'] t).sd=true:=by
   cases t with
   | zero=>exact hsd
   | succ t=>cases t<;>rfl
  exact aJ.sd _ _ hx (je.sl t);rcases hb with hb|hb;exact je.Jy b hb;exact⟨hs.lt hb.1,hno _ b⟩
 obtain⟨ν'',hs'⟩:=hs.leave m [] st2 hm hml (Nat.zero_le _) (fun i hi=>by simp at hi) (fun i hi hi'=>hnew.at i hi oM) Xd rfl (fun _ _=>rfl) rfl rfl rfl hsat2 d
 show next (a.put o.dst v) w'
 rw[hd]
 exact hn ν'' _ _ hs'
section
variable{E:Env}{g:G}{d:Nat}{ty:TypeId}{pos:String}{fK:Array Edge}{gd:Option (Nat×Bool)}
theorem acp(oE:Operand)(xs:List Operand)(tys:Array TypeId)(f:FuncId)(cap:List PV)(hfn:g.ev oE= .fn f cap)(ks M:List Nat)(dh:List PV)(res:PV)(st':List (Option En))(hC:C E.P f dh [] (jF res st'))
 (ru:wq g ks (xs.map g.ev++cap) dh) (hsd:res.sd=true) (hse:MZ st'=true) (hm:M.Nodup) (hnew:jP g 0 M) (hml:st'.length≤M.length) :
 mM E.P ⟨some d,.call ⟨.value oE,⟨xs⟩,tys⟩,ty,pos,fK,gd⟩ g ⟨ez oE++xs.flatMap ez,ks++M⟩ ⟨some (d,res.nZ M),mF M M st'⟩:=by
 intro g2 hg
 have e1:=hg.ev (x:=oE) (fun t h=>by simp[h])
 have e2:=x8 hg xs (fun t h=>by simp only[aO];exact .inr h)
 have hfr:∀(ks':List Nat)(n:Nat),(∀k∈ks',k∈M)→jP g n ks'→jP g2 n ks':=by
  intro ks';induction ks' with
  | nil=>intro n _ _;cases n<;>trivial
  | cons k ks' ih=>
   intro n hk h;cases n with
   | zero=>simp only[jP] at h⊢;exact⟨by rw[hg.p k (by simp[hk k (by simp)])];exact h.1,ih 0 (fun k h=>hk k (by simp[h])) h.2⟩
   | succ n=>simp only[jP] at h⊢;exact ih n (fun k h=>hk k (by simp[h])) h
 intro X ν a w next Q hs hn
 exact aaa rfl rfl (by rw[e1,hfn]) ks M dh res st' hC (by rw[e2];exact ru.agree (fun k hk=>hg.p k (by simp[hk]))) hsd hse hm (hfr M 0 (fun _ h=>h) hnew) hml X ν a w next Q hs hn
theorem Pm{m:Option (List Ky)}{gs:Option Nat}{rest:uW→Option (List Ky)→G→Prop}{oE:Operand}{xs:List Operand}{tys:Array TypeId}{f:FuncId}(cap:List PV)(ks M:List Nat){dh:List PV}{res:PV}{st':List (Option En)}
 (hC:C E.P f dh [] (jF res st')) (h1:g.ev oE= .fn f cap) (h2:wq g ks (TU g xs++cap) dh) (h3:res.sd=true∧MZ st'=true∧Qw M=true∧zY (lX st') (Gk M)=true∧jP g 0 M)
 (hr:rest .on (nx m (pE (wg gs ⟨ez oE++Ci xs,apN ks M⟩) ⟨some (d,res.nZ M),mF M M st'⟩)) (g.app ⟨some (d,res.nZ M),mF M M st'⟩)):tR E m gs ⟨some d,.call ⟨.value oE,⟨xs⟩,tys⟩,ty,pos,fK,gd⟩ g rest:=by
 rw[BT,acb] at hr
 rw[Hl] at h2
 obtain⟨k1,k2,k3,k4,k5⟩:=h3
 have k4:=mX k4
 rw[pZ,JM] at k4
 exact gm (acp oE xs tys f cap h1 ks M dh res st' hC h2 k1 k2 (PU k3) k5 k4) hr
end
section
variable{E:Env}{n0:Nat}{g:G}{c:Code}{Q:Ex→G→Prop}
theorem Yh{A:Type}(I:A→Prop)(T:A→G)(μ:A→Nat)(a0:A)(hi:I a0)(h0:pS E.P n0 g (T a0))
 (round:∀a,I a→W E.P n0 c (T a) (qU E.P n0 I T μ a Q)):W E.P n0 (.loop c) g Q:=by
 refine aai (α:={a // I a}) (fun x=>T x.1) (fun x=>μ x.1) ⟨a0,hi⟩ h0 ?_
 rintro⟨a,ha⟩
 have h:=round a ha
 have e:(qU E.P n0 I T μ a Q)=(N7 E.P n0 (fun x:{a // I a}=>T x.1) (fun x=>μ x.1) ⟨a,ha⟩ Q):=by
  funext e g';cases e with
  | normal=>simp only[qU,N7];apply propext;exact⟨fun⟨a',h1,h2,h3⟩=>⟨⟨a',h1⟩,h2,h3⟩,fun⟨⟨a',h1⟩,h2,h3⟩=>⟨a',h1,h2,h3⟩⟩
  | exit id=>rfl
  | ret=>rfl
 rw[←e]
 exact h
theorem E7{P:Program}{g':G}(k i:Nat){e:TypeId}{xs:List (List T)}(row:List T)(hk:g.at k=some (.gD e xs))(hi:i<xs.length)(hr:rb xs i=row)
 (h:pS P n0 ⟨g.sl,dW (rv k g.st row) k (some (.gD e (xs.set i (gN k g.st row))))⟩ g'):pS P n0 g g':=pS.trans (DZ.RD (yq k i row hk hi hr)) h
end
theorem ac9{xs:List (List T)}{i:Nat}{r:List T}(h:i<xs.length):rb (xs.set i r) i=r:=by simp[rb,ct,h]
theorem XA(xs:List (List T))(r:List T):rb (xs++[r]) xs.length=r:=by simp[rb,ct]
theorem A0{xs:List (List T)}{r:List T}{n:Nat}(h:xs.length=n):rb (xs++[r]) n=r:=by subst h;exact XA xs r
theorem AJ{xs:List (List T)}{r r':List T}{n:Nat}(h:xs.length=n):(xs++[r]).set n r'=xs++[r']:=by subst h;exact DG xs r r' []
attribute [go_sem] sdD abr KC T.sd sdT SI PV.sd sds En.sd MZ apN sq Nu apE gN rv List.set_set XA List.length_set
section
variable{P:Program}{w:World}{ok:Nat→Prop}{ν:Nat→Nm}{st:Nat→Option En}
theorem bP.split:∀(n:Nat){x:List (List T)}{u:List (List Value)}{F:List Nat},bP P w ok ν st x u F→∃F1 F2,bP P w ok ν st (x.take n) (u.take n) F1∧F=F1++F2
 | 0,x,u,F,h=>⟨[],F,by simp[bP],rfl⟩
 | n+1,[],[],F,h=>⟨[],F,by simp[bP],rfl⟩
 | _+1,[],_::_,_,h=>by simp[bP] at h
 | _+1,_::_,[],_,h=>by simp[bP] at h
 | n+1,t::ts,a::u,F,h=>by simp only[bP] at h;obtain⟨F1,F2,h1,h2,rfl⟩:=h;obtain⟨G1,G2,k1,rfl⟩:=bP.split n h2;refine⟨F1++G1,G2,?_,by rw[bC]⟩;simp only[List.take_succ_cons,bP];exact⟨F1,G1,h1,k1,rfl⟩
end
section
variable{E:Env}{g:G}{d:Nat}{ty:TypeId}{pos:String}{fK:Array Edge}{gd:Option (Nat×Bool)}
end
def adX(P:Program)(ops:Array Oper)(Q:Ex→G→Prop):Nat→Array Bool→G→Prop
 | 0,listed,g=>Region.ready .any ops listed=[]∧Q .normal g
 | f+1,listed,g=>(Region.ready .any ops listed=[]→Q .normal g)∧∀i∈Region.ready .any ops listed,∃o R δ,ops[i]?=some o∧IJ P ops o g R δ∧adX P ops Q f (listed.setIfInBounds i true) (g.app δ)
theorem adX.ok{P:Program}{ops:Array Oper}{Q:Ex→G→Prop}{X:Cx}:∀(f:Nat)(listed:Array Bool)(g:G)(ν:Nat→Nm)(a:Act)(w:World),adX P ops Q f listed g→Sat P X ν g a w→wpAny P .any ops (TP P X Q) f listed a w
 | 0,_,g,ν,_,_,h,hs=>⟨h.1,g,ν,h.2,hs⟩
 | f+1,listed,g,ν,a,w,h,hs=>by refine⟨fun hr=>⟨g,ν,h.1 hr,hs⟩,fun i hi=>?_⟩;obtain⟨o,R,δ,ho,ld,hx⟩:=h.2 i hi;have:=ld g ⟨fun _ _=>rfl,fun _ _=>rfl⟩ X ν a w (wpAny P .any ops (TP P X Q) f (listed.setIfInBounds i true)) (TP P X Q) hs fun ν' a' w' hs'=>adX.ok f _ _ ν' a' w' hx hs';unfold wpOp;simp only[ho];by_cases hw:Region.wanted o (yielded ops a.tmps)=true;simp only[hw,if_true] at this⊢;exact .inl this;simp only[hw,if_false] at this⊢;exact this
section
variable{E:Env}{n0:Nat}{g:G}{Q:Ex→G→Prop}
end
section
variable{P:Program}{g:G}
theorem W7(k:Nat){e:TypeId}{xs:List (List T)}{ys:List (List D)}(hk:g.at k=some (.gD e xs))(hf:dP xs=some ys) :
 DZ P g ⟨g.sl,dW g.st k (some (.aX e ys))⟩:=by
 intro X ν a w hs
 obtain⟨us,ho,hul,kS,hB,hnd⟩:=y9 hs hk
 generalize hg':(⟨g.sl,dW g.st k (some (.aX e ys))⟩:G)=g'
 have np:∀j,g'.at j=if j=k then some (.aX e ys) else g.at j:=by intro j;rw[←hg'];exact iT g.st k _ j
 refine⟨fun j=>if j=k then⟨(ν k).v,[]⟩ else ν j,?_⟩
 generalize hν':(fun j=>if j=k then(⟨(ν k).v,[]⟩:Nm) else ν j)=ν'
 have hνk:ν' k=⟨(ν k).v,[]⟩:=by rw[←hν'];simp
 have hνo:∀j,j≠k→ν' j=ν j:=fun j h1=>by rw[←hν'];simp[h1]
 have hm:nH g.at g'.at ν ν':=by intro j hj;refine⟨?_,?_⟩;by_cases h2:j=k;rw[h2,hνk];rw[hνo j h2];rw[np];split;rfl;exact hj
 have hask:∀b,(ν' k).has b↔b∈hb (ν k).v:=fun b=>by rw[hνk,qJ];simp
 have hasK:∀b,(ν k).has b↔b∈hb (ν k).v++(ν k).f:=fun b=>qJ
 have back:∀j e1,g'.at j=some e1→e1.live=true→∀b,(ν' j).has b→∃e0,g.at j=some e0∧e0.live=true∧(ν j).has b:=by intro j e1 h1 h2 b hb1;by_cases nR:j=k;subst nR;exact⟨_,hk,rfl,(hasK b).2 (List.mem_append_left _ ((hask b).1 hb1))⟩;rw[np,if_neg nR] at h1;rw[hνo j nR] at hb1;exact⟨e1,h1,h2,hb1⟩
 have jU:∀b,Own ν' g'.at b→Own ν g.at b:=by rintro b ⟨j,e1,h1,h2,h3⟩;obtain⟨e0,k1,k2,k3⟩:=back j e1 h1 h2 b h3;exact⟨j,e0,k1,k2,k3⟩
 have hw:∀b,dk X ν g.at b→b<w.heap.size→dk X ν' g'.at b∧w.heap[b]?=w.heap[b]?:=fun b hb _=>⟨⟨fun ho=>hb.1 (jU b ho),hb.2⟩,rfl⟩
 have hF:∀b∈(ν k).f,dk X ν' g'.at b:=by intro b hbf;have hKb:(ν k).has b:=(hasK b).2 (List.mem_append_right _ hbf);refine⟨?_,hs.PG ⟨k,_,hk,rfl,hKb⟩⟩;rintro⟨j,e1,h1,h2,h3⟩;obtain⟨e0,k1,k2,k3⟩:=back j e1 h1 h2 b h3;have nR:=hs.inj j k e0 _ b k1 hk k2 rfl k3 hKb;subst nR;have h4:=(hask b).1 h3;exact(dU.1 hnd).2.2 b h4 b hbf rfl
 obtain⟨l1,l2,l3⟩:=bP.data hw xs us (ν k).f ys hf kS hF
 have qI:de w (dk X ν' g'.at) (P.cellsOf e) ys us:=by refine⟨l1,fun i x hx=>?_,fun i u hu=>hul i u hu,fun i j x u d v h1 h2 h3 h4=>(l3 i x u h1 h2).2 j d v h3 h4⟩;have hi:i<us.length:=(by have:=(List.getElem?_eq_some_iff.1 hx).1;omega);have hu:=List.getElem?_eq_getElem hi;rw[(l3 i x _ hx hu).1];exact hul i _ hu
 refine hs.upd (g':=g') (ν':=ν') (fun _=>False) (vg.refl _ w) (fun _ hb=>hb.elim) hm ?_ ?_ ?_ ?_ ?_ ?_ rfl
 ·intro j e1 hj
  rw[np] at hj
  by_cases nR:j=k
  ·rw[if_pos nR] at hj
   obtain rfl:=Option.some.inj hj
   subst nR
   refine .inr ⟨us,?_,qI,oM,by rw[hνk]⟩
   rw[hνk,←l2]
   exact ho
  ·rw[if_neg nR] at hj
   exact .inl ⟨hj,hνo j nR,fun _ _ _ hb=>hb⟩
 ·intro j e1 b h1 h2 h3
  exact .inl (jU b ⟨j,e1,h1,h2,h3⟩)
 ·intro j j' e1 e2 b h1 h2 h3 h4 h5 h6
  obtain⟨e0,k1,k2,k3⟩:=back j e1 h1 h3 b h5
  obtain⟨e3,l1,l2,l3⟩:=back j' e2 h2 h4 b h6
  exact hs.inj j j' e0 e3 b k1 l1 k2 l2 k3 l3
 ·intro j hj
  rw[np] at hj
  by_cases nR:j=k
  ·exact .inl (by rw[nR,hk];rfl)
  ·rw[if_neg nR] at hj
   exact .inl hj
 ·rw[←hg'];exact hs.size
 ·intro t
  exact .inl ⟨by rw[←hg'],rfl⟩
end
theorem agU{E:Env}{g g':G}{o:Oper}{rest:uW→Option (List Ky)→G→Prop}(hw:DZ E.P g g')(h:tR E none none o g' rest):tR E none none o g rest:=by rcases h with⟨R,δ,h1,h2⟩|⟨_,_,g2,h1,h2⟩;exact .inr ⟨rfl,rfl,g',hw,R,δ,h1,h2⟩;exact .inr ⟨rfl,rfl,g2,hw.trans h1,h2⟩
theorem KZ{E:Env}{rs:List ResultVar}{n0:Nat}{R:PV→List (Option En)→Prop}{g g':G}(hw:DZ E.P g g')(h:acG E rs n0 R g'):acG E rs n0 R g:=
 let ⟨g2,h1,h2⟩:=h
 ⟨g2,pS.trans hw.RD h1,h2⟩
theorem Zz{xs:List (List T)}{r1 r2:List T}{n:Nat}(h:xs.length=n):rb (xs++[r1,r2]) n=r1:=by subst h;simp[rb,ct]
theorem aaZ{xs:List (List T)}{r1 r2:List T}{n:Nat}(h:xs.length=n):rb (xs++[r1,r2]) (n+1)=r2:=by subst h;simp[rb,ct]
theorem acH{xs:List (List T)}{r1 r2 r:List T}{n:Nat}(h:xs.length=n):(xs++[r1,r2]).set n r=xs++[r,r2]:=by subst h;simp
theorem Zv{xs:List (List T)}{r1 r2 r:List T}{n:Nat}(h:xs.length=n):(xs++[r1,r2]).set (n+1) r=xs++[r1,r]:=by subst h;simp
attribute [go_sem] e6 eX zu aef
theorem kJ{E:Env}{ops:Array Oper}{o:Oper}{os:List Oper}{g:G}{K:G→Prop}(hg:o.guard=none)(h:tR E none none o g (fun _ _ g'=>WO E.P ops os g' K)):WO E.P ops (o::os) g K:=by rcases h with⟨R,δ,h1,h2⟩|⟨_,_,g',hw,R,δ,h1,h2⟩;exact wR (IJ.plain hg h1) h2;exact WB hw (wR (IJ.plain hg h1) h2)
def mz:List (Int×Value)→Int→Option Value
 | [],_=>none
 | p::l,n=>if n=p.1 then some p.2 else mz l n
theorem wE(n:Int):∀(es:List MapEntry)(wu:List (Int×Value))(i:Nat),BU es=BD wu →
 (mz wu n=none→Instr.findNow (.int .i64) (.int .i64 n) es i=some none)∧(∀v,mz wu n=some v→∃j,Instr.findNow (.int .i64) (.int .i64 n) es i=some (some (j,v)))
 | [],[],i,_=>⟨fun _=>rfl,fun v h=>by cases h⟩
 | [],_::_,i,h=>by simp[BU,BD] at h
 | _::_,[],i,h=>by simp[BU,BD] at h
 | e::es,p::wu,i,h=>by simp only[BU,BD,aV,List.cons.injEq,Prod.mk.injEq] at h;obtain⟨⟨h1,h2⟩,h3⟩:=h;obtain⟨i1,i2⟩:=wE n es wu (i+1) h3;simp only[mz,Instr.findNow,h1,Instr.sameNow,if_true];by_cases hn:n=p.1;simp only[hn,if_true,beq_self_eq_true,h2];exact⟨fun h=>by simp at h,fun v hv=>⟨i,by simpa using hv⟩⟩;have:(n == p.1)=false:=(by simpa using hn);simp only[hn,if_false,this];exact⟨i1,i2⟩
section
variable{E:Env}{g:G}{d:Nat}{ty:TypeId}{pos:String}{fK:Array Edge}{gd:Option (Nat×Bool)}{dn:Option Nat}
theorem aeB{w:World}{ok:Nat→Prop}{ν:Nat→Nm}{st:Nat→Option En}{v:Value}(h:okV v=true):aJ w ok ν st (pvV v) v:=by
 have key:∀vs:List Value,(vs.all fun v=>v.oneCell')=true→aH w ok ν st (vs.map fun v=>.d (.val v)) vs:=by
  intro vs;induction vs with
  | nil=>intro _;simp[aH]
  | cons v vs ih=>intro h;simp only[List.all_cons,ah] at h;simp only[aV,aH,aJ];exact⟨.val v h.1,ih h.2⟩
 cases v with
 | agg cs=>simp only[okV] at h;simp only[pvV,aJ];exact⟨cs.toList,rfl,key _ h⟩
 | _=>simp only[okV] at h;simp only[pvV,aJ];exact .val _ h
theorem adk{w:World}{ok:Nat→Prop}{ν:Nat→Nm}{st:Nat→Option En}{u v:Value}(h:aJ w ok ν st (pvV u) v):v=u:=by
 have key:∀us vs:List Value,aH w ok ν st (us.map fun v=>.d (.val v)) vs→vs=us:=by
  intro us;induction us with
  | nil=>intro vs h;cases vs with
    | nil=>rfl
    | cons v vs=>simp[aH] at h
  | cons u us ih=>intro vs h;cases vs with
    | nil=>simp[aH] at h
    | cons v vs=>simp only[aV,aH] at h;rw[ig h.1,ih vs h.2]
 cases u with
 | agg cs=>simp only[pvV,aJ] at h;obtain⟨vs,rfl,h⟩:=h;rw[key _ _ h]
 | _=>exact ig h
theorem Sx(t k:Nat)(hk:g.at k=none):mM E.P ⟨some d,.makeMap t none,ty,pos,fK,gd⟩ g ⟨[],[k]⟩ ⟨some (d,.aX k),[(k,.map [])]⟩:=by
 intro g2 hg;have h3:=(hg.p k (by simp)).trans hk;intro X ν a w next Q hs hn
 have hr:(execOp a.eval ⟨some d,.makeMap t none,ty,pos,fK,gd⟩).run E.P w= .ok (.value (.map (some w.heap.size))) (w.alloc (.map #[] 0)):=rfl;unfold Oper.wp;rw[hr,Oper.upon_value];refine hn _ _ _ (hs.Bj (lE w _) k h3 (.map []) ⟨.map (some w.heap.size),[]⟩ rfl ?_ d _ _ ?_ ?_);intro b hb;obtain rfl:w.heap.size=b:=by simpa[Nm.has,zV] using hb
 exact aK _;intro ok st ν' hν hw hm;exact⟨w.heap.size,#[],0,by rw[hν],by rw[vh],rfl,fun p hp=>by simp at hp,by rw[hν]⟩;intro ok st ν' hν ld hw hm;simp only[aJ];exact⟨by rw[ld];rfl,by rw[hν]⟩
theorem rL{P:Program}{kt:TypeId}(hk:P.underlying kt=some (.int .i64))(b:Bool)(n:Int)(w:World):(Instr.checkKey b 10000 kt (.int .i64 n)).run P w= .ok () w:=
 MapKept.run_checkKey (k:=.int .i64 n) hk (by trivial) b 9999
theorem wV(x y:Operand)(t kt et k:Nat)(wu:List (Int×Value))(n:Int)(v:Value)(ht:E.P.underlying t=some (.map kt et))(hkt:E.P.underlying kt=some (.int .i64))(hx:g.ev x= .aX k)(hk:g.at k=some (.map wu))(hy:g.ev y= .d (.val (.int .i64 n)))(hv:mz wu n=some v) :
 mM E.P ⟨some d,.lookup t x y false,ty,pos,fK,gd⟩ g ⟨ez x++ez y,[k]⟩ ⟨some (d,pvV v),[]⟩:=by
 intro g2 hg
 have h1:=hg.ev (x:=x) (fun t h=>by simp[h])
 have h2:=hg.ev (x:=y) (fun t h=>by simp[h])
 have h3:=(hg.p k (by simp)).trans hk
 refine HC.val rfl fun X ν a w hs=>?_
 have hvx:=hs.ev x
 rw[h1,hx] at hvx
 have hvy:=hs.ev y
 rw[h2,hy] at hvy
 have hvy:=ig hvy
 simp only[aJ] at hvx
 obtain⟨r,es,clock,q1,q2,q3,q4,q5⟩:=hs.en k _ h3
 obtain⟨j,hj⟩:=(wE n es.toList wu 0 q3).2 v hv
 have hmem:∃p∈wu,p.2=v:=by
  clear q3 q4 hj h3 hk;induction wu with
  | nil=>cases hv
  | cons p l ih=>simp only[mz] at hv;split at hv;exact⟨p,by simp,by simpa using hv⟩;obtain⟨q,h1,h2⟩:=ih hv;exact⟨q,List.mem_cons_of_mem _ h1,h2⟩
 obtain⟨p,hp1,hp2⟩:=hmem
 refine⟨v,?_,aeB (by rw[←hp2];exact q4 p hp1)⟩
 simp only[execOp,hvx.2,q1,hvy,Instr.lookup,Sem.run_bind,run_underlying ht,Result.andThen_ok,MapKept.run_getObj_map q2,Sem.run_pure,rL hkt,MapKept.run_findKey hkt hj]
 rfl
theorem Fm(x y:Operand)(t kt et k:Nat)(ei:TI)(wu:List (Int×Value))(n:Int)(ht:E.P.underlying t=some (.map kt et))(hkt:E.P.underlying kt=some (.int .i64))(he:E.ti et=some ei)(hzo:zeroOf E.P et= .bool false)(hx:g.ev x= .aX k)(hk:g.at k=some (.map wu))(hy:g.ev y= .d (.val (.int .i64 n)))(hv:mz wu n=none) :
 mM E.P ⟨some d,.lookup t x y false,ty,pos,fK,gd⟩ g ⟨ez x++ez y,[k]⟩ ⟨some (d,.d (.val (.bool false))),[]⟩:=by
 intro g2 hg
 have h1:=hg.ev (x:=x) (fun t h=>by simp[h])
 have h2:=hg.ev (x:=y) (fun t h=>by simp[h])
 have h3:=(hg.p k (by simp)).trans hk
 refine HC.val rfl fun X ν a w hs=>?_
 have hvx:=hs.ev x
 rw[h1,hx] at hvx
 have hvy:=hs.ev y
 rw[h2,hy] at hvy
 have hvy:=ig hvy
 simp only[aJ] at hvx
 obtain⟨r,es,clock,q1,q2,q3,q4,q5⟩:=hs.en k _ h3
 have hj:=(wE n es.toList wu 0 q3).1 hv
 obtain⟨i,z,z1,z2,z3,z4,z5,z6⟩:=(E.ok et ei he).info
 have hzv:z= .bool false:=by rw[←hzo];simp[zeroOf,z1,z4]
 refine⟨.bool false,?_,qd rfl⟩
 simp only[execOp,hvx.2,q1,hvy,Instr.lookup,Sem.run_bind,run_underlying ht,Result.andThen_ok,MapKept.run_getObj_map q2,Sem.run_pure,rL hkt,MapKept.run_findKey hkt hj,zeroValue,typeInfo]
 simp[z1,z4,hzv]
theorem Td{P:Program}{t kt et:TypeId}(ht:P.underlying t=some (.map kt et))(hkt:P.underlying kt=some (.int .i64)){w:World}{r:Nat}{es:Array MapEntry}{clock:Nat}(hr:w.heap[r]?=some (.map es clock)){n:Int}(hf:Instr.findNow (.int .i64) (.int .i64 n) es.toList 0=some none)(v:Value) :
 (Instr.mapUpdate t (.map (some r)) (.int .i64 n) v).run P w= .ok () { w with heap:=w.heap.setIfInBounds r (.map (es.push ⟨.int .i64 n,v,clock⟩) (clock+1)) }:=by
 simp only[Instr.mapUpdate,Sem.run_bind,run_underlying ht,Result.andThen_ok,MapKept.run_getObj_map hr,rL hkt,MapKept.run_findKey hkt hf]
 exact MapKept.run_setObj_map _ hr
theorem u9(o:Op)(x y z:Operand)(t kt et k:Nat)(wu:List (Int×Value))(n:Int)(v:Value)(ho:o= .mapUpdate t x y z∨o= .insert t x y z)(ht:E.P.underlying t=some (.map kt et))(hkt:E.P.underlying kt=some (.int .i64))(hx:g.ev x= .aX k)(hk:g.at k=some (.map wu))(hy:g.ev y= .d (.val (.int .i64 n)))(hz:g.ev z=pvV v)(fy:okV v=true)(hv:mz wu n=none) :
 mM E.P ⟨none,o,ty,pos,fK,gd⟩ g ⟨ez x++ez y++ez z,[k]⟩ ⟨none,[(k,.map (wu++[(n,v)]))]⟩:=by
 intro g2 hg
 have e1:=hg.ev (x:=x) (fun t h=>by simp[h])
 have e2:=hg.ev (x:=y) (fun t h=>by simp[h])
 have e3:=hg.ev (x:=z) (fun t h=>by simp[h])
 have h3:=(hg.p k (by simp)).trans hk
 intro X ν a w next Q hs hnx
 have hvx:=hs.ev x
 rw[e1,hx] at hvx
 have hvy:=hs.ev y
 rw[e2,hy] at hvy
 have hvy:=ig hvy
 have hvz:=hs.ev z
 rw[e3,hz] at hvz
 have hvz:=adk hvz
 simp only[aJ] at hvx
 obtain⟨r,es,clock,q1,q2,q3,q4,q5⟩:=hs.en k _ h3
 have hj:=(wE n es.toList wu 0 q3).1 hv
 have ou:=Td ht hkt q2 hj v
 have hr:(execOp a.eval ⟨none,o,ty,pos,fK,gd⟩).run E.P w= .ok .skip { w with heap:=w.heap.setIfInBounds r (.map (es.push ⟨.int .i64 n,v,clock⟩) (clock+1)) }:=by rcases ho with rfl|rfl<;>simp only[execOp,hvx.2,q1,hvy,hvz,Sem.run_bind,ou,Result.andThen_ok]<;>rfl
 unfold Oper.wp
 rw[hr,Oper.upon_skip]
 have hrs:r<w.heap.size:=sN q2
 have uX:vg (fun b=>(ν k).has b) w { w with heap:=w.heap.setIfInBounds r (.map (es.push ⟨.int .i64 n,v,clock⟩) (clock+1)) }:=
  ⟨rfl,rfl,rfl,by simp,fun b _ hb=>by have lj:r≠b:=fun e=>hb (e▸(mi q5).2 (by rw[q1];rfl));simp[kT,lj]⟩
 refine hnx _ _ _ (hs.Gh k (.map wu) (.map (wu++[(n,v)])) h3 rfl uX none .undef Go.undef ?_ (fun h=>by cases h))
 intro hwf hm
 refine⟨r,_,_,q1,by simp[kT,hrs];exact⟨rfl,rfl⟩,?_,fun p hp=>?_,q5⟩
 ·simp only[BU,BD,Array.toList_push,List.map_append,aV,List.map_nil] at q3⊢
  rw[q3]
 ·rcases aO.1 hp with h|h
  ·exact q4 p h
  ·simp only[List.mem_cons,List.not_mem_nil,or_false] at h
   rw[h];exact fy
end
attribute [go_sem] pvV
theorem sP{P:Program}(w:World)(dT sT ty elem:TypeId)(s g o dLen dCap:Nat)(a:Addr)(sLen sCap:Nat)(cur:Array Value)(t:TypeId)(cs:List Value)
 (hu:P.underlying dT=some (.slice elem)) (hs:(P.info? elem).map (·.size)=some s)
 (hg:w.heap[g]?=some (.cells cur t (0,0))) (hn:cs.length=Nat.min sLen dLen*s)
 (hsrc:∀j v,cs[j]?=some v→w.cell? (a.add j)=some v) (hfit:o+cs.length≤cur.size) (h1:∀v∈cs,v.oneCell'=true) :
 (Builtin.copy_ #[dT,sT] ty #[.slice (some ⟨g,o,none⟩) dLen dCap,.slice (some a) sLen sCap]).run P w =
  .ok (goInt (Nat.min sLen dLen)) (w.setRow g (cur.toList.take o++cs++cur.toList.drop (o+cs.length)).toArray):=by
 have hl:=run_loadCells_list (P:=P) w a cs hsrc
 have ld:=run_storeCells_at P g o t cs 0 cur w hg (by simpa using hfit) h1
 cases hq:P.info? elem with
 | none=>simp[hq] at hs
 | some i=>have hi:i.size=s:=(by simpa[hq] using hs);rw[hn] at hl;simp[Builtin.copy_,run_underlying hu,Builtin.lenOf,Builtin.firstCells,sizeOf,typeInfo,hq,hi,hl,ld]
section
variable{E:Env}{g:G}
theorem S9(x lo:Operand)(t e k:Nat){d:Nat}{ty:TypeId}{pos:String}{fK:Array Edge}{gd:Option (Nat×Bool)}(ti ei:TI)(xs:List (List D))(m:Int)(ht:E.ti t=some ti)(mI:ti.ty= .slice e)(he:E.ti e=some ei)
 (hx:g.ev x= .aX k) (hk:g.at k=some (.aX e xs)) (hlo:g.ev lo= .d (.val (.int .i64 m))) (h0:0≤m) (hm:m≤xs.length) :
 mM E.P ⟨some d,.slice t x (some lo) none none,ty,pos,fK,gd⟩ g ⟨ez x++ez lo,[k]⟩ ⟨some (d,.any),[]⟩:=by
 intro g2 hg
 have e1:=hg.ev (x:=x) (fun t h=>by simp[h])
 have e2:=hg.ev (x:=lo) (fun t h=>by simp[h])
 have h3:=(hg.p k (by simp)).trans hk
 intro X ν a w next Q hs hn
 have hu:=(E.ok t ti ht).ty
 rw[mI] at hu
 have hv:=hs.ev x
 rw[e1,hx] at hv
 have oI:=hs.ev lo
 rw[e2,hlo] at oI
 have oI:=ig oI
 simp only[aJ] at hv
 have hsize:=(E.ok e ei he).size
 obtain⟨us,ho,kS,hB,hf0⟩:=hs.en k _ h3
 have ou:∃v,(execOp a.eval ⟨some d,.slice t x (some lo) none none,ty,pos,fK,gd⟩).run E.P w= .ok (.value v) w:=by rcases ho.2 with⟨h1,h2⟩|⟨b,cap,cur,h1,_,_,h4,_⟩;have hr:=wC (P:=E.P) w hu hsize none 0 0 (some (.int .i64 m)) none m ((0:Nat):Int) (.inr ⟨_,rfl⟩) (.inl ⟨rfl,rfl⟩) h0 oM (nC _) (aK _);refine⟨sliced none m.toNat 0 0 ei.n,?_⟩;simp only[execOp,hv.2,h1,oI,eW,cZ,Sem.run_bind,hr,Result.andThen_ok];rfl;have hr:=wC (P:=E.P) w hu hsize (some ⟨b,0,none⟩) xs.length cap (some (.int .i64 m)) none m (xs.length:Int) (.inr ⟨_,rfl⟩) (.inl ⟨rfl,rfl⟩) h0 oM (nC _) h4;simp only[Int.toNat_natCast] at hr;refine⟨sliced (some ⟨b,0,none⟩) m.toNat xs.length cap ei.n,?_⟩;simp only[execOp,hv.2,h1,oI,eW,cZ,Sem.run_bind,hr,Result.andThen_ok];rfl
 obtain⟨v,hr⟩:=ou
 unfold Oper.wp
 rw[hr,Oper.upon_value]
 exact hn _ _ _ (hs.put d (p:=.any) (v:=v) trivial)
end
end Go.Eng
namespace Go.Eng
theorem U5{α:Type}(A B R v:List α)(hs:v.length≤R.length) :
 (((A++B++R).take (A.length+v.length)++B++(A++B++R).drop (A.length+v.length+B.length)).take A.length++v
   ++ ((A++B++R).take (A.length+v.length)++B++(A++B++R).drop (A.length+v.length+B.length)).drop (A.length+v.length))
 = A++v++B++R.drop v.length:=by
 have hl:((A++B++R).take (A.length+v.length)).length=A.length+v.length:=by simp;omega
 have h1:(((A++B++R).take (A.length+v.length))++B++(A++B++R).drop (A.length+v.length+B.length)).take A.length=A:=by rw[bC,List.take_append_of_le_length oM,List.take_take,Nat.min_eq_left oM,bC,List.take_left]
 have h2:(((A++B++R).take (A.length+v.length))++B++(A++B++R).drop (A.length+v.length+B.length)).drop (A.length+v.length)=B++R.drop v.length:=by rw[bC,List.drop_left' hl,show A.length+v.length+B.length=(A++B).length+v.length from by simp;omega,List.drop_append];simp
 rw[h1,h2]
 simp
end Go.Eng
