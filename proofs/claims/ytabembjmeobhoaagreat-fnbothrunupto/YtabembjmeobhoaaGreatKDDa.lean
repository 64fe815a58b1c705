/-
  The symbolic layer, thirty-fourth text: exclusive or; what a call leaves, told otherwise.
-/
import Derived.Test.YtabembjmeobhoaaGreatKDD
import Derived.Laws.IdiomCopy
import Derived.Deep.Draws
import Derived.Laws.Entries
import Derived.MapKept
import Derived.Laws.CopyRow
set_option linter.unusedVariables false
set_option linter.unusedSimpArgs false
open Array renaming getElem?_setIfInBounds→jf
open Bool renaming and_eq_true→al
open Int renaming le_refl→lx
open List renaming mem_append→aP,map_cons→aQ,append_assoc→bj,append_nil→bl,nil_append→bC,getD→cr,nodup_append→dm,set_cons_zero→iu,getElem?_set→km,ext_getElem?→mo,set_cons_succ→nY
open Nat renaming le_refl→aJ
open Option renaming map_some→c8,map_none→dB
namespace Go.Eng
open Go.RowKit
def NO(a b:Int):Int:=((a.toNat ^^^ b.toNat:Nat):Int)
theorem Xe(a b:Int):0≤NO a b:=Int.natCast_nonneg _
theorem L5{a b:Int}(h1:0≤a)(h2:a≤9223372036854775807)(h3:0≤b)(h4:b≤9223372036854775807):bits .xor .i64 a b=NO a b:=by
 obtain⟨A,rfl⟩:=Int.eq_ofNat_of_zero_le h1
 obtain⟨B,rfl⟩:=Int.eq_ofNat_of_zero_le h3
 have hx:A ^^^ B<2 ^ 63:=Nat.xor_lt_two_pow (by omega) (by omega)
 have k1:(BitVec.ofInt 64 (A:Int)).toNat=A:=by
  rw[BitVec.ofInt_natCast,BitVec.toNat_ofNat];exact Nat.mod_eq_of_lt (by omega)
 have k2:(BitVec.ofInt 64 (B:Int)).toNat=B:=by
  rw[BitVec.ofInt_natCast,BitVec.toNat_ofNat];exact Nat.mod_eq_of_lt (by omega)
 show IntKind.i64.wrap ((BitVec.ofInt 64 (A:Int) ^^^ BitVec.ofInt 64 (B:Int)).toNat:Int)=_
 rw[BitVec.toNat_xor,k1,k2,wrap_i64 ⟨by omega,by omega⟩]
 simp[NO]
section
variable{E:Env}{g:G}{d:Nat}{ty:TypeId}{pos:String}{eM:Array Edge}{gd:Option (Nat×Bool)}
theorem aag(x y:Operand)(m n:Int)(t u:TypeId)(hx:g.ev x= .d (.val (.int .i64 m)))(hy:g.ev y= .d (.val (.int .i64 n)))(h1:0≤m)(h2:m≤9223372036854775807)(h3:0≤n)(h4:n≤9223372036854775807) :
 kH E.P ⟨some d,.binOp .xor t x y u,ty,pos,eM,gd⟩ g ⟨dh x++dh y,[]⟩ ⟨some (d,.d (.val (.int .i64 (NO m n)))),[]⟩:=
 p9 rfl hx hy rfl fun a w k1 k2=>by
  simp[execOp,k1,k2,eqGuard,binOp,intBits_xor,L5 h1 h2 h3 h4]
theorem abr{m:Option (List Ky)}{gs:Option Nat}{rest:qQ→Option (List Ky)→G→Prop}{x y:Operand}{t u:TypeId}(a b:Int)(hx:g.ev x= .d (.val (.int .i64 a)))(hy:g.ev y= .d (.val (.int .i64 b)))(h1:0≤a)(h2:a≤9223372036854775807)(h3:0≤b)(h4:b≤9223372036854775807)
 (hr:rest .on (mw m (oo (uV gs ⟨dh x++dh y,[]⟩) ⟨some (d,.d (.val (.int .i64 (NO a b)))),[]⟩)) (g.app ⟨some (d,.d (.val (.int .i64 (NO a b)))),[]⟩)):sR E m gs ⟨some d,.binOp .xor t x y u,ty,pos,eM,gd⟩ g rest:=
 fg (aag x y a b t u hx hy h1 h2 h3 h4) hr
end
theorem C.NC{P:Program}{f:FuncId}{args:List PV}{eX:List (Option En)}{res res':PV}{st st':List (Option En)}(m:List (Option Nat))(h:C P f args eX (bz res st))(h1:AI ⟨[res],st⟩ m [res] [res']∧mf ⟨[res],st⟩ m m st')(h3:CO m st'=true)(h4:keeps eX.length 0 m=true):C P f args eX (bz res' st'):=
 have hw:Wk eX.length m ⟨[res],st⟩ ⟨[res'],st'⟩:=⟨h1.1,h1.2,h3,h4⟩
 ⟨h.1,fun X vs k1 k2 k3=>(h.2 X vs k1 k2 k3).mono fun e w ⟨v,r,s,ν',e1,⟨e2,e3⟩,e4⟩=>by
  subst e2 e3
  have hp:Par X eX.length:=fun k hk=>by rw[k1] at hk;exact nX hk
  obtain⟨ν'',hs⟩:=KQ hw X ν' _ _ hp e4
  exact⟨v,_,_,ν'',e1,⟨rfl,rfl⟩,hs⟩⟩
section
variable{P:Program}{w:World}{ok ok':Nat→Prop}{ν ν':Nat→Nm}{st st':Nat→Option En}
theorem a8.zip:∀(c:Nat){x:List T}{u:List Value}{F:List Nat}{t:T},a8 P w ok ν st x u F→x[c]?=some t →
 ∃v A Ft B,u[c]?=some v∧F=A++(Ft++B)∧kD P w ok ν st t v Ft ∧
  ∀(ok':Nat→Prop)(ν':Nat→Nm)(st':Nat→Option En),(∀b,ok b→b<w.heap.size→ok' b∧w.heap[b]?=w.heap[b]?)→lA st st' ν ν'→∀(t':T)(Ft':List Nat),kD P w ok' ν' st' t' v Ft'→a8 P w ok' ν' st' (x.set c t') u (A++(Ft'++B))
 | _,[],_,_,_,_,h=>by simp at h
 | _,_::_,[],_,_,h,_=>by simp[a8] at h
 | 0,a::x,v::u,F,t,h,ht=>by
   simp only[a8] at h
   obtain⟨F1,F2,h1,h2,rfl⟩:=h
   obtain rfl:a=t:=by simpa using ht
   refine⟨v,[],F1,F2,rfl,rfl,h1,fun ok' ν' st' hw hm t' Ft' h'=>?_⟩
   simp only[iu,a8,bC]
   exact⟨Ft',F2,h',a8.frame hw (aJ _) hm _ _ _ h2 fun _ _=>rfl,rfl⟩
 | c+1,a::x,v::u,F,t,h,ht=>by
   simp only[a8] at h
   obtain⟨F1,F2,h1,h2,rfl⟩:=h
   obtain⟨v',A,Ft,B,k1,rfl,k2,k3⟩:=a8.zip c h2 (by simpa using ht)
   refine⟨v',F1++A,Ft,B,by simpa using k1,by simp,k2,fun ok' ν' st' hw hm t' Ft' h'=>?_⟩
   simp only[nY,a8]
   exact⟨F1,_,kD.frame hw (aJ _) hm _ _ _ h1 fun _ _=>rfl,k3 ok' ν' st' hw hm t' Ft' h',by simp⟩
theorem bu.zip:∀(i c:Nat){xs:List (List T)}{us:List (List Value)}{F:List Nat}{t:T},bu P w ok ν st xs us F→i<xs.length→(oQ xs i)[c]?=some t →
 ∃v A Ft B,F=A++(Ft++B)∧kD P w ok ν st t v Ft ∧
  ∀(ok':Nat→Prop)(ν':Nat→Nm)(st':Nat→Option En),(∀b,ok b→b<w.heap.size→ok' b∧w.heap[b]?=w.heap[b]?)→lA st st' ν ν'→∀(t':T)(Ft':List Nat),kD P w ok' ν' st' t' v Ft'→bu P w ok' ν' st' (xs.set i ((oQ xs i).set c t')) us (A++(Ft'++B))
 | _,_,[],_,_,_,_,h,_=>by simp at h
 | _,_,_::_,[],_,_,h,_,_=>by simp[bu] at h
 | 0,c,a::x,v::u,F,t,h,_,ht=>by
   simp only[bu] at h
   obtain⟨F1,F2,h1,h2,rfl⟩:=h
   have ht:a[c]?=some t:=ht
   obtain⟨v',A,Ft,B,k1,rfl,k2,k3⟩:=a8.zip c h1 ht
   refine⟨v',A,Ft,B++F2,by simp,k2,fun ok' ν' st' hw hm t' Ft' h'=>?_⟩
   show bu P w ok' ν' st' (a.set c t'::x) (v::u) _
   simp only[bu]
   exact⟨_,F2,k3 ok' ν' st' hw hm t' Ft' h',bu.frame hw (aJ _) hm _ _ _ h2 fun _ _=>rfl,by simp⟩
 | i+1,c,a::x,v::u,F,t,h,hi,ht=>by
   simp only[bu] at h
   obtain⟨F1,F2,h1,h2,rfl⟩:=h
   have ht:(oQ x i)[c]?=some t:=by simpa[oQ] using ht
   obtain⟨v',A,Ft,B,rfl,k2,k3⟩:=bu.zip i c h2 (by simpa using hi) ht
   refine⟨v',F1++A,Ft,B,by simp,k2,fun ok' ν' st' hw hm t' Ft' h'=>?_⟩
   have e:oQ (a::x) (i+1)=oQ x i:=by simp[oQ]
   rw[e]
   simp only[nY,bu]
   exact⟨F1,_,a8.frame hw (aJ _) hm _ _ _ h1 fun _ _=>rfl,k3 ok' ν' st' hw hm t' Ft' h',by simp⟩
end
theorem Tk{hb A Ft B:List Nat}(h:(hb++(A++(Ft++B))).Nodup):(hb++(A++B)).Nodup∧Ft.Nodup∧∀b∈hb++(A++B),b∉Ft:=by
 have hp:(hb++(A++(Ft++B))).Perm (Ft++(hb++(A++B))):=by
  rw[List.perm_iff_count]
  intro a
  simp only[List.count_append]
  omega
 have h':=hp.nodup_iff.1 h
 obtain⟨h1,h2,h3⟩:=dm.1 h'
 exact⟨h2,h1,fun b hb1 hb2=>h3 b hb2 b hb1 rfl⟩
theorem P8{hb A Ft B:List Nat}(h1:(hb++(A++B)).Nodup)(h2:Ft.Nodup)(h3:∀b∈hb++(A++B),b∉Ft):(hb++(A++(Ft++B))).Nodup:=by
 have hp:(hb++(A++(Ft++B))).Perm (Ft++(hb++(A++B))):=by
  rw[List.perm_iff_count]
  intro a
  simp only[List.count_append]
  omega
 exact hp.nodup_iff.2 (dm.2 ⟨h2,h1,fun a ha b hb hab=>h3 b hb (hab▸ha)⟩)
section
variable{P:Program}{g:G}
theorem Zh(k i c:Nat){e e':TypeId}{xs ys:List (List T)}(hk:g.at k=some (.fk e xs))(hi:i<xs.length)(hc:(oQ xs i)[c]?=some (.own e' ys)) :
 AH P g ⟨g.sl,da (da g.st k (some (.fk e (xs.set i ((oQ xs i).set c (.ref g.new)))))) g.new (some (.fk e' ys))⟩:=by
 intro X ν a w hs
 obtain⟨us,ho,hul,je,hB,hnd⟩:=vg hs hk
 obtain⟨v,A,Ft,B,hF,hv,hz⟩:=je.zip i c hi hc
 have hv0:=hv
 simp only[kD] at hv
 obtain⟨us',F1,q1,q2,q3,q4,rfl⟩:=hv
 rw[hF] at hnd
 obtain⟨n1,n2,n3⟩:=Tk hnd
 have hnew:=g.lU
 have hkn:k≠g.new:=fun h=>by rw[←h,hk] at hnew;cases hnew
 generalize hg':(⟨g.sl,da (da g.st k (some (.fk e (xs.set i ((oQ xs i).set c (.ref g.new)))))) g.new (some (.fk e' ys))⟩:G)=g'
 have ll:∀j,g'.at j=if j=g.new then some (.fk e' ys) else if j=k then some (.fk e (xs.set i ((oQ xs i).set c (.ref g.new)))) else g.at j:=by
  intro j
  rw[←hg']
  show c6 (da (da g.st k _) g.new _) j=_
  rw[gx,gx]
  rfl
 refine⟨fun j=>if j=g.new then⟨v,F1⟩ else if j=k then⟨(ν k).v,A++B⟩ else ν j,?_⟩
 generalize hν':(fun j=>if j=g.new then(⟨v,F1⟩:Nm) else if j=k then⟨(ν k).v,A++B⟩ else ν j)=ν'
 have hνn:ν' g.new=⟨v,F1⟩:=by rw[←hν'];simp
 have hνk:ν' k=⟨(ν k).v,A++B⟩:=by rw[←hν'];simp[hkn]
 have hνo:∀j,j≠g.new→j≠k→ν' j=ν j:=fun j h1 h2=>by rw[←hν'];simp[h1,h2]
 have hm:lA g.at g'.at ν ν':=by
  intro j hj
  have h1:j≠g.new:=fun h=>by rw[h,hnew] at hj;cases hj
  refine⟨?_,?_⟩
  ·by_cases h2:j=k
   ·rw[h2,hνk]
   ·rw[hνo j h1 h2]
  ·rw[ll,if_neg h1]
   split
   ·rfl
   ·exact hj
 have hasn:∀b,(ν' g.new).has b↔b∈hb v++F1:=fun b=>by rw[hνn];exact oP
 have hask:∀b,(ν' k).has b↔b∈hb (ν k).v++(A++B):=fun b=>by rw[hνk];exact oP
 have hasK:∀b,(ν k).has b↔b∈hb (ν k).v++(A++((hb v++F1)++B)):=fun b=>by rw[oP,hF]
 have sub1:∀b,(ν' g.new).has b→(ν k).has b:=fun b h=>(hasK b).2 (by
  have:=(hasn b).1 h
  simp only[aP] at this⊢
  rcases this with h|h
  ·exact .inr (.inr (.inl (.inl h)))
  ·exact .inr (.inr (.inl (.inr h))))
 have sub2:∀b,(ν' k).has b→(ν k).has b:=fun b h=>(hasK b).2 (by
  have:=(hask b).1 h
  simp only[aP] at this⊢
  rcases this with h|h|h
  ·exact .inl h
  ·exact .inr (.inl h)
  ·exact .inr (.inr (.inr h)))
 have back:∀j e1,g'.at j=some e1→e1.live=true→∀b,(ν' j).has b→∃j0 e0,g.at j0=some e0∧e0.live=true∧(ν j0).has b∧(j≠g.new→j0=j)∧(j=g.new→j0=k):=by
  intro j e1 h1 h2 b hb1
  by_cases hj:j=g.new
  ·subst hj
   exact⟨k,_,hk,rfl,sub1 b hb1,fun h=>absurd rfl h,fun _=>rfl⟩
  ·by_cases lJ:j=k
   ·subst lJ
    exact⟨j,_,hk,rfl,sub2 b hb1,fun _=>rfl,fun h=>absurd h hj⟩
   ·rw[ll,if_neg hj,if_neg lJ] at h1
    rw[hνo j hj lJ] at hb1
    exact⟨j,e1,h1,h2,hb1,fun _=>rfl,fun h=>absurd h hj⟩
 have im:∀b,Own ν' g'.at b→Own ν g.at b:=by
  rintro b ⟨j,e1,h1,h2,h3⟩
  obtain⟨j0,e0,k1,k2,k3,_⟩:=back j e1 h1 h2 b h3
  exact⟨j0,e0,k1,k2,k3⟩
 have hw:∀b,cF X ν g.at b→b<w.heap.size→cF X ν' g'.at b∧w.heap[b]?=w.heap[b]?:=fun b hb _=>⟨⟨fun ho=>hb.1 (im b ho),hb.2⟩,rfl⟩
 refine hs.W4 (g':=g') (ν':=ν') (fun _=>False) (rR.refl _ w) (fun _ hb=>hb.elim) hm ?_ ?_ ?_ ?_ ?_ ?_ rfl
 ·intro j e1 hj
  rw[ll] at hj
  by_cases hjn:j=g.new
  ·rw[if_pos hjn] at hj
   obtain rfl:=Option.some.inj hj
   subst hjn
   refine .inr ⟨?_,?_⟩
   ·rw[hνn]
    exact kD.frame hw (aJ _) hm _ _ _ hv0 fun _ _=>rfl
   ·rw[hνn];exact n2
  ·rw[if_neg hjn] at hj
   by_cases lJ:j=k
   ·rw[if_pos lJ] at hj
    obtain rfl:=Option.some.inj hj
    subst lJ
    refine .inr (zN (us:=us) ?_ hul ?_ (by simpa using hB) ?_)
    ·rw[hνk];simpa using ho
    ·rw[hνk]
     have:=hz _ ν' g'.at hw hm (.ref g.new) [] (by
      simp only[kD,and_true]
      exact⟨by rw[ll,if_pos rfl];rfl,by rw[hνn]⟩)
     simpa using this
    ·rw[hνk];exact n1
   ·rw[if_neg lJ] at hj
    exact .inl ⟨hj,hνo j hjn lJ,fun _ _ _ hb=>hb⟩
 ·intro j e1 b h1 h2 h3
  exact .inl (im b ⟨j,e1,h1,h2,h3⟩)
 ·intro j j' e1 e2 b h1 h2 h3 h4 h5 h6
  obtain⟨j0,e0,k1,k2,k3,k4,k5⟩:=back j e1 h1 h3 b h5
  obtain⟨j1,e3,l1,l2,l3,l4,l5⟩:=back j' e2 h2 h4 b h6
  have hjj:=hs.inj j0 j1 e0 e3 b k1 l1 k2 l2 k3 l3
  by_cases hj:j=g.new
  ·by_cases hj':j'=g.new
   ·rw[hj,hj']
   ·have e1:=k5 hj
    have e2:=l4 hj'
    have e3:j'=k:=by rw[←e2,←hjj,e1]
    subst hj e3
    exact(n3 b ((hask b).1 h6) ((hasn b).1 h5)).elim
  ·by_cases hj':j'=g.new
   ·have e1:=k4 hj
    have e2:=l5 hj'
    have e3:j=k:=by rw[←e1,hjj,e2]
    subst hj' e3
    exact(n3 b ((hask b).1 h5) ((hasn b).1 h6)).elim
   ·rw[←k4 hj,←l4 hj',hjj]
 ·intro j hj
  rw[ll] at hj
  by_cases hjn:j=g.new
  ·right
   rw[hjn,hνn]
   exact row_one q1
  ·rw[if_neg hjn] at hj
   by_cases lJ:j=k
   ·exact .inl (by rw[lJ,hk];rfl)
   ·rw[if_neg lJ] at hj
    exact .inl hj
 ·rw[←hg'];exact hs.size
 ·intro t
  exact .inl ⟨by rw[←hg'],rfl⟩
theorem abq(k i c j:Nat){e e':TypeId}{xs ys:List (List T)}(hk:g.at k=some (.fk e xs))(hi:i<xs.length)(hc:(oQ xs i)[c]?=some (.ref j))(hj:g.at j=some (.fk e' ys))(lJ:j≠k) :
 AH P g ⟨g.sl,da (da g.st k (some (.fk e (xs.set i ((oQ xs i).set c (.own e' ys)))))) j (some .dead)⟩:=by
 intro X ν a w hs
 obtain⟨us,ho,hul,je,hB,hnd⟩:=vg hs hk
 obtain⟨v,A,Ft,B,hF,hv,hz⟩:=je.zip i c hi hc
 simp only[kD] at hv
 obtain⟨hv1,rfl,rfl⟩:=hv
 obtain⟨hen,hndj⟩:=hs.en j _ hj
 simp only[bC] at hF
 rw[hF] at hnd
 generalize hg':(⟨g.sl,da (da g.st k (some (.fk e (xs.set i ((oQ xs i).set c (.own e' ys)))))) j (some .dead)⟩:G)=g'
 have ll:∀l,g'.at l=if l=j then some .dead else if l=k then some (.fk e (xs.set i ((oQ xs i).set c (.own e' ys)))) else g.at l:=by
  intro l
  rw[←hg']
  show c6 (da (da g.st k _) j _) l=_
  rw[gx,gx]
  rfl
 refine⟨fun l=>if l=k then⟨(ν k).v,A++((hb (ν j).v++(ν j).f)++B)⟩ else ν l,?_⟩
 generalize hν':(fun l=>if l=k then(⟨(ν k).v,A++((hb (ν j).v++(ν j).f)++B)⟩:Nm) else ν l)=ν'
 have hνk:ν' k=⟨(ν k).v,A++((hb (ν j).v++(ν j).f)++B)⟩:=by rw[←hν'];simp
 have hνo:∀l,l≠k→ν' l=ν l:=fun l h1=>by rw[←hν'];simp[h1]
 have hm:lA g.at g'.at ν ν':=by
  intro l hl
  refine⟨?_,?_⟩
  ·by_cases h2:l=k
   ·rw[h2,hνk]
   ·rw[hνo l h2]
  ·rw[ll]
   split
   ·rfl
   ·split
    ·rfl
    ·exact hl
 have hask:∀b,(ν' k).has b→(ν k).has b∨(ν j).has b:=fun b h=>by
  rw[hνk,oP] at h
  rw[oP,oP,hF]
  simp only[aP] at h⊢
  rcases h with h|h|(h|h)|h
  ·exact .inl (.inl h)
  ·exact .inl (.inr (.inl h))
  ·exact .inr (.inl h)
  ·exact .inr (.inr h)
  ·exact .inl (.inr (.inr h))
 have back:∀l e1,g'.at l=some e1→e1.live=true→∀b,(ν' l).has b→(l=k∧((ν k).has b∨(ν j).has b))∨(l≠k∧l≠j∧g.at l=some e1∧(ν l).has b):=by
  intro l e1 h1 h2 b hb1
  rw[ll] at h1
  by_cases hlj:l=j
  ·rw[if_pos hlj] at h1
   obtain rfl:=Option.some.inj h1
   cases h2
  ·rw[if_neg hlj] at h1
   by_cases hlk:l=k
   ·subst hlk
    exact .inl ⟨rfl,hask b hb1⟩
   ·rw[if_neg hlk] at h1
    rw[hνo l hlk] at hb1
    exact .inr ⟨hlk,hlj,h1,hb1⟩
 have im:∀b,Own ν' g'.at b→Own ν g.at b:=by
  rintro b ⟨l,e1,h1,h2,h3⟩
  rcases back l e1 h1 h2 b h3 with⟨_,h|h⟩|⟨_,_,h4,h5⟩
  ·exact⟨k,_,hk,rfl,h⟩
  ·exact⟨j,_,hj,rfl,h⟩
  ·exact⟨l,e1,h4,h2,h5⟩
 have hw:∀b,cF X ν g.at b→b<w.heap.size→cF X ν' g'.at b∧w.heap[b]?=w.heap[b]?:=fun b hb _=>⟨⟨fun ho=>hb.1 (im b ho),hb.2⟩,rfl⟩
 refine hs.W4 (g':=g') (ν':=ν') (fun _=>False) (rR.refl _ w) (fun _ hb=>hb.elim) hm ?_ ?_ ?_ ?_ ?_ ?_ rfl
 ·intro l e1 hl
  rw[ll] at hl
  by_cases hlj:l=j
  ·rw[if_pos hlj] at hl
   obtain rfl:=Option.some.inj hl
   exact .inr trivial
  ·rw[if_neg hlj] at hl
   by_cases hlk:l=k
   ·rw[if_pos hlk] at hl
    obtain rfl:=Option.some.inj hl
    subst hlk
    refine .inr (zN (us:=us) ?_ hul ?_ (by simpa using hB) ?_)
    ·rw[hνk];simpa using ho
    ·rw[hνk]
     exact hz _ ν' g'.at hw hm (.own e' ys) _ (kD.frame hw (aJ _) hm _ _ _ hen fun _ _=>rfl)
    ·rw[hνk]
     refine P8 hnd hndj fun b h1 h2=>?_
     refine lJ (hs.inj j l _ _ b hj hk rfl rfl (oP.2 h2) (oP.2 ?_))
     rw[hF];exact h1
   ·rw[if_neg hlk] at hl
    exact .inl ⟨hl,hνo l hlk,fun _ _ _ hb=>hb⟩
 ·intro l e1 b h1 h2 h3
  exact .inl (im b ⟨l,e1,h1,h2,h3⟩)
 ·intro l l' e1 e2 b h1 h2 h3 h4 h5 h6
  rcases back l e1 h1 h3 b h5 with⟨rfl,p1⟩|⟨p1,p2,p3,p4⟩
  ·rcases back l' e2 h2 h4 b h6 with⟨rfl,q1⟩|⟨q1,q2,q3,q4⟩
   ·rfl
   ·rcases p1 with p1|p1
    ·exact hs.inj l l' _ e2 b hk q3 rfl h4 p1 q4
    ·exact(q2 (hs.inj l' j e2 _ b q3 hj h4 rfl q4 p1)).elim
  ·rcases back l' e2 h2 h4 b h6 with⟨rfl,q1⟩|⟨q1,q2,q3,q4⟩
   ·rcases q1 with q1|q1
    ·exact hs.inj l l' e1 _ b p3 hk h3 rfl p4 q1
    ·exact(p2 (hs.inj l j e1 _ b p3 hj h3 rfl p4 q1)).elim
   ·exact hs.inj l l' e1 e2 b p3 q3 h3 h4 p4 q4
 ·intro l hl
  rw[ll] at hl
  by_cases hlj:l=j
  ·exact .inl (by rw[hlj,hj];rfl)
  ·rw[if_neg hlj] at hl
   by_cases hlk:l=k
   ·exact .inl (by rw[hlk,hk];rfl)
   ·rw[if_neg hlk] at hl
    exact .inl hl
 ·rw[←hg'];exact hs.size
 ·intro t
  exact .inl ⟨by rw[←hg'],rfl⟩
theorem AH.refl(g:G):AH P g g:=fun _ ν _ _ h=>⟨ν,h⟩
theorem AH.NC{n0:Nat}{g g':G}(h:AH P g g'):qz P n0 g g':=fun X ν a w _ hs=>h X ν a w hs
theorem abo(j:Nat){e:TypeId}{xs:List (List D)}(hj:g.at j=some (.acc e xs)):AH P g ⟨g.sl,da g.st j (some (.fk e (lift xs)))⟩:=fun _ ν _ _ h=>⟨ν,h.lift hj⟩
theorem Cu:∀{l:List (Option En)}{k:Nat}{e:En},c6 l k=some e→da l k (some e)=l
 | [],k,e,h=>by cases k<;>simp[c6] at h
 | _::_,0,_,h=>by simp only[c6] at h;simp[da,h]
 | a::l,k+1,e,h=>by simp only[c6] at h;simp[da,Cu h]
theorem te:∀{l:List (Option En)}{k:Nat}(x:Option En),k<l.length→(da l k x).length=l.length
 | [],k,_,h=>by simp at h
 | _::_,0,_,_=>rfl
 | a::l,k+1,x,h=>by simp[da,te x (by simpa using h)]
theorem Oc:∀(l:List (Option En))(x:Option En),da l l.length x=l++[x]
 | [],_=>rfl
 | a::l,x=>by simp[da,Oc l x]
theorem Hj:∀{l m:List (Option En)}{k:Nat}(x:Option En),k<l.length→da (l++m) k x=da l k x++m
 | [],_,k,_,h=>by simp at h
 | _::_,_,0,_,_=>rfl
 | a::l,m,k+1,x,h=>by simp[da,Hj x (by simpa using h)]
theorem yq:∀(l:List (Option En))(j k:Nat)(x y:Option En),j≠k→da (da l j x) k y=da (da l k y) j x
 | [],0,0,_,_,h=>absurd rfl h
 | [],0,k+1,_,_,_=>rfl
 | [],j+1,0,_,_,_=>rfl
 | [],j+1,k+1,x,y,h=>by simp[da,yq [] j k x y (by omega)]
 | _::_,0,0,_,_,h=>absurd rfl h
 | _::_,0,k+1,_,_,_=>rfl
 | _::_,j+1,0,_,_,_=>rfl
 | a::l,j+1,k+1,x,y,h=>by simp[da,yq l j k x y (by omega)]
def qd:Nat→List T→List T
 | _,[]=>[]
 | n,.own _ _::ts=>.ref n::qd (n+1) ts
 | n,.leaf d::ts=>.leaf d::qd n ts
 | n,.ref j::ts=>.ref j::qd n ts
def I4:List T→List (Option En)
 | []=>[]
 | .own e xs::ts=>some (.fk e xs)::I4 ts
 | .leaf _::ts=>I4 ts
 | .ref _::ts=>I4 ts
def apE:List (Option En)→List (Option En)→List (Option En)
 | [],m=>m
 | a::l,m=>a::apE l m
theorem Lr:∀(l m:List (Option En)),apE l m=l++m
 | [],_=>rfl
 | a::l,m=>by simp[apE,Lr l m]
theorem Aq{α:Type}(pre:List α)(a b:α)(r:List α):(pre++a::r).set pre.length b=pre++b::r:=by
 rw[List.set_append_right _ _ (aJ _),Nat.sub_self,iu]
theorem vY{k i:Nat}{e:TypeId}:∀(rest pre:List T)(g:G)(xs:List (List T)),g.at k=some (.fk e xs)→i<xs.length→oQ xs i=pre++rest →
 AH P g ⟨g.sl,apE (da g.st k (some (.fk e (xs.set i (pre++qd g.new rest))))) (I4 rest)⟩
 | [],pre,g,xs,hk,hi,hr=>by
   have e1:xs.set i pre=xs:=by
    rw[bl] at hr
    rw[←hr]
    refine mo fun j=>?_
    rw[km]
    by_cases hj:i=j
    ·subst hj;rw[if_pos rfl,if_pos hi,UM hi]
    ·rw[if_neg hj]
   simp only[qd,I4,bl,Lr,e1]
   rw[Cu hk]
   exact AH.refl g
 | .leaf d::ts,pre,g,xs,hk,hi,hr=>by
   have:=vY ts (pre++[.leaf d]) g xs hk hi (by simpa using hr)
   simpa[qd,I4] using this
 | .ref d::ts,pre,g,xs,hk,hi,hr=>by
   have:=vY ts (pre++[.ref d]) g xs hk hi (by simpa using hr)
   simpa[qd,I4] using this
 | .own e' ys::ts,pre,g,xs,hk,hi,hr=>by
   have hkl:k<g.st.length:=nX (by rw[show c6 g.st k=_ from hk];rfl)
   have hn:g.new=g.st.length:=nJ g.st
   have h1:=Zh (P:=P) k i pre.length hk hi (e':=e') (ys:=ys) (by rw[hr];simp)
   have e1:(oQ xs i).set pre.length (.ref g.new)=pre++ .ref g.new::ts:=by rw[hr];exact Aq _ _ _ _
   rw[e1] at h1
   have e2:da (da g.st k (some (.fk e (xs.set i (pre++ .ref g.new::ts))))) g.new (some (.fk e' ys))=da g.st k (some (.fk e (xs.set i (pre++ .ref g.new::ts))))++[some (.fk e' ys)]:=by
    generalize some (En.fk e (xs.set i (pre++ .ref g.new::ts)))=z
    rw[hn,←te z hkl,Oc]
   rw[e2] at h1
   refine h1.trans ?_
   have hk1:(⟨g.sl,da g.st k (some (.fk e (xs.set i (pre++ .ref g.new::ts))))++[some (.fk e' ys)]⟩:G).at k=some (.fk e (xs.set i (pre++ .ref g.new::ts))):=by
    show c6 _ k=_
    rw[←Hj _ hkl,gx,if_pos rfl]
   have hr1:oQ (xs.set i (pre++ .ref g.new::ts)) i=pre++ .ref g.new::ts:=by
    simp[oQ,cr,hi]
   have:=vY ts (pre++[.ref g.new]) ⟨g.sl,da g.st k (some (.fk e (xs.set i (pre++ .ref g.new::ts))))++[some (.fk e' ys)]⟩ _ hk1 (by simpa using hi) (by rw[hr1];simp)
   have hn2:(⟨g.sl,da g.st k (some (.fk e (xs.set i (pre++ .ref g.new::ts))))++[some (.fk e' ys)]⟩:G).new=g.new+1:=by
    rw[G.new,nJ,hn]
    simp[te _ hkl]
   rw[hn2] at this
   simp only[Lr,List.set_set] at this
   rw[Hj _ (by rw[te _ hkl];exact hkl),pj] at this
   simpa[qd,I4,Lr] using this
theorem WV(k i:Nat){e:TypeId}{xs:List (List T)}(row:List T)(hk:g.at k=some (.fk e xs))(hi:i<xs.length)(hr:oQ xs i=row) :
 AH P g ⟨g.sl,apE (da g.st k (some (.fk e (xs.set i (qd g.new row))))) (I4 row)⟩:=by
 have:=vY (P:=P) (k:=k) (i:=i) row [] g xs hk hi (by simpa using hr)
 simpa using this
def fA(k:Nat):List (Option En)→List T→List T
 | _,[]=>[]
 | st,.ref j::ts=>match H5 j k,c6 st j with
   | false,some (.fk e ys)=>.own e ys::fA k (da st j (some .dead)) ts
   | false,some (.acc e ys)=>.own e (lift ys)::fA k (da st j (some .dead)) ts
   | _,_=>.ref j::fA k st ts
 | st,.leaf d::ts=>.leaf d::fA k st ts
 | st,.own e ys::ts=>.own e ys::fA k st ts
def o6(k:Nat):List (Option En)→List T→List (Option En)
 | st,[]=>st
 | st,.ref j::ts=>match H5 j k,c6 st j with
   | false,some (.fk _ _)=>o6 k (da st j (some .dead)) ts
   | false,some (.acc _ _)=>o6 k (da st j (some .dead)) ts
   | _,_=>o6 k st ts
 | st,.leaf _::ts=>o6 k st ts
 | st,.own _ _::ts=>o6 k st ts
theorem VO{j k:Nat}(h:H5 j k=false):j≠k:=fun e=>by subst e;rw[FG] at h;cases h
theorem TJ{k:Nat}(x:Option En):∀(ts:List T)(st:List (Option En)),fA k (da st k x) ts=fA k st ts∧o6 k (da st k x) ts=da (o6 k st ts) k x
 | [],st=>⟨rfl,rfl⟩
 | .leaf d::ts,st=>by
   obtain⟨h1,h2⟩:=TJ (k:=k) x ts st
   exact⟨by simp[fA,h1],by simp[o6,h2]⟩
 | .own e ys::ts,st=>by
   obtain⟨h1,h2⟩:=TJ (k:=k) x ts st
   exact⟨by simp[fA,h1],by simp[o6,h2]⟩
 | .ref j::ts,st=>by
   simp only[fA,o6]
   cases hj:H5 j k with
   | true=>
     obtain⟨h1,h2⟩:=TJ (k:=k) x ts st
     exact⟨by simp[h1],by simp[h2]⟩
   | false=>
     have jJ:=VO hj
     rw[gx,if_neg jJ]
     obtain⟨h1,h2⟩:=TJ (k:=k) x ts st
     obtain⟨h3,h4⟩:=TJ (k:=k) x ts (da st j (some .dead))
     rw[yq st j k _ _ jJ] at h3 h4
     cases c6 st j with
     | none=>exact⟨by simp[h1],by simp[h2]⟩
     | some en=>cases en with
       | box cs=>exact⟨by simp[h1],by simp[h2]⟩
       | dead=>exact⟨by simp[h1],by simp[h2]⟩
       | map sP=>exact⟨by simp[h1],by simp[h2]⟩
       | acc e ys=>exact⟨by simp[h3],by simp[h4]⟩
       | fk e ys=>exact⟨by simp[h3],by simp[h4]⟩
theorem uh{k i:Nat}{e:TypeId}:∀(rest pre:List T)(g:G)(xs:List (List T)),g.at k=some (.fk e xs)→i<xs.length→oQ xs i=pre++rest →
 AH P g ⟨g.sl,da (o6 k g.st rest) k (some (.fk e (xs.set i (pre++fA k g.st rest))))⟩
 | [],pre,g,xs,hk,hi,hr=>by
   have e1:xs.set i pre=xs:=by
    rw[bl] at hr
    rw[←hr]
    refine mo fun j=>?_
    rw[km]
    by_cases hj:i=j
    ·subst hj;rw[if_pos rfl,if_pos hi,UM hi]
    ·rw[if_neg hj]
   simp only[fA,o6,bl,e1]
   rw[Cu hk]
   exact AH.refl g
 | .leaf d::ts,pre,g,xs,hk,hi,hr=>by
   have:=uh ts (pre++[.leaf d]) g xs hk hi (by simpa using hr)
   simpa[fA,o6] using this
 | .own e' ys::ts,pre,g,xs,hk,hi,hr=>by
   have:=uh ts (pre++[.own e' ys]) g xs hk hi (by simpa using hr)
   simpa[fA,o6] using this
 | .ref j::ts,pre,g,xs,hk,hi,hr=>by
   have stay:(fA k g.st (.ref j::ts)= .ref j::fA k g.st ts)→(o6 k g.st (.ref j::ts)=o6 k g.st ts)→AH P g ⟨g.sl,da (o6 k g.st (.ref j::ts)) k (some (.fk e (xs.set i (pre++fA k g.st (.ref j::ts)))))⟩:=by
    intro h1 h2
    have:=uh ts (pre++[.ref j]) g xs hk hi (by simpa using hr)
    rw[h1,h2]
    simpa using this
   have go:∀(e':TypeId)(ys:List (List T))(g0:G),AH P g g0→g0.sl=g.sl→g0.at k=some (.fk e xs)→g0.at j=some (.fk e' ys)→j≠k→da g0.st j (some .dead)=da g.st j (some .dead) →
    AH P g ⟨g.sl,da (o6 k (da g.st j (some .dead)) ts) k (some (.fk e (xs.set i (pre++ .own e' ys::fA k (da g.st j (some .dead)) ts))))⟩:=by
    intro e' ys g0 hw hsl hk0 hj0 jJ jw
    refine hw.trans ?_
    have h1:=abq (P:=P) k i pre.length j hk0 hi (by rw[hr];simp) hj0 jJ
    have e1:(oQ xs i).set pre.length (.own e' ys)=pre++ .own e' ys::ts:=by rw[hr];exact Aq _ _ _ _
    rw[e1,←yq _ _ _ _ _ jJ,jw,hsl] at h1
    refine h1.trans ?_
    have hk1:(⟨g.sl,da (da g.st j (some .dead)) k (some (.fk e (xs.set i (pre++ .own e' ys::ts))))⟩:G).at k=some (.fk e (xs.set i (pre++ .own e' ys::ts))):=by
     show c6 _ k=_
     rw[gx,if_pos rfl]
    have hr1:oQ (xs.set i (pre++ .own e' ys::ts)) i=pre++ .own e' ys::ts:=by simp[oQ,cr,hi]
    have:=uh ts (pre++[.own e' ys]) _ _ hk1 (by simpa using hi) (by rw[hr1];simp)
    obtain⟨q1,q2⟩:=TJ (k:=k) (some (.fk e (xs.set i (pre++ .own e' ys::ts)))) ts (da g.st j (some .dead))
    simp only[q1,q2,List.set_set,pj] at this
    simpa using this
   cases lJ:H5 j k with
   | true=>exact stay (by simp[fA,lJ]) (by simp[o6,lJ])
   | false=>
     have jJ:=VO lJ
     cases hen:c6 g.st j with
     | none=>exact stay (by simp[fA,lJ,hen]) (by simp[o6,lJ,hen])
     | some en=>cases en with
       | box cs=>exact stay (by simp[fA,lJ,hen]) (by simp[o6,lJ,hen])
       | dead=>exact stay (by simp[fA,lJ,hen]) (by simp[o6,lJ,hen])
       | map sP=>exact stay (by simp[fA,lJ,hen]) (by simp[o6,lJ,hen])
       | fk e' ys=>
         have:=go e' ys g (AH.refl g) rfl hk hen jJ rfl
         simpa[fA,o6,lJ,hen] using this
       | acc e' ys=>
         have hk0:(⟨g.sl,da g.st j (some (.fk e' (lift ys)))⟩:G).at k=some (.fk e xs):=by
          show c6 _ k=_
          rw[gx,if_neg (Ne.symm jJ)]
          exact hk
         have hj0:(⟨g.sl,da g.st j (some (.fk e' (lift ys)))⟩:G).at j=some (.fk e' (lift ys)):=by
          show c6 _ j=_
          rw[gx,if_pos rfl]
         have:=go e' (lift ys) ⟨g.sl,da g.st j (some (.fk e' (lift ys)))⟩ (abo j hen) rfl hk0 hj0 jJ (pj _ _ _ _)
         simpa[fA,o6,lJ,hen] using this
theorem vR(k i:Nat){e:TypeId}{xs:List (List T)}(row:List T)(hk:g.at k=some (.fk e xs))(hi:i<xs.length)(hr:oQ xs i=row) :
 AH P g ⟨g.sl,da (o6 k g.st row) k (some (.fk e (xs.set i (fA k g.st row))))⟩:=by
 have:=uh (P:=P) (k:=k) (i:=i) row [] g xs hk hi (by simpa using hr)
 simpa using this
end
def apN:List Nat→List Nat→List Nat
 | [],m=>m
 | a::l,m=>a::apN l m
theorem U7:∀(l m:List Nat),apN l m=l++m
 | [],_=>rfl
 | a::l,m=>by simp[apN,U7 l m]
def Y9:D→Bool
 | .val _=>true
 | .str _=>true
 | .dt _=>false
def Wd:List D→Bool
 | []=>true
 | d::ds=>Y9 d&&Wd ds
def He:List (List D)→Bool
 | []=>true
 | x::xs=>Wd x&&He xs
mutual
def T.sd:T→Bool
 | .leaf d=>Y9 d
 | .ref _=>true
 | .own _ xs=>MS xs
def Zn:List T→Bool
 | []=>true
 | t::ts=>t.sd&&Zn ts
def MS:List (List T)→Bool
 | []=>true
 | x::xs=>Zn x&&MS xs
end
mutual
def PV.sd:PV→Bool
 | .any=>true
 | .undef=>true
 | .b8=>true
 | .d x=>Y9 x
 | .agg cs=>YY cs
 | .gV cs=>YY cs
 | .ptr _ _=>true
 | .acc _=>true
 | .gI _ _ _ _=>true
 | .gq _ _ _=>false
 | .fn _ cs=>YY cs
def YY:List PV→Bool
 | []=>true
 | p::ps=>p.sd&&YY ps
end
def En.sd:En→Bool
 | .box cs=>YY cs
 | .acc _ xs=>He xs
 | .fk _ xs=>MS xs
 | .map _=>true
 | .dead=>true
def IV:List (Option En)→Bool
 | []=>true
 | none::es=>IV es
 | some e::es=>e.sd&&IV es
section
variable{P:Program}{w:World}{ok ok':Nat→Prop}{ν:Nat→Nm}{st:Nat→Option En}
theorem ia.sd{d:D}{v:Value}(h:Y9 d=true)(hr:ia w ok d v):ia w ok' d v:=by
 cases hr with
 | val v h'=>exact .val v h'
 | str l h'=>exact .str l h'
 | nil=>cases h
 | emp a c h'=>cases h
 | dt=>cases h
mutual
theorem kD.sd:∀(t:T)(v:Value)(F:List Nat),t.sd=true→kD P w ok ν st t v F→kD P w ok' ν st t v F
 | .leaf d,v,F,hs,h=>by simp only[kD] at h⊢;simp only[T.sd] at hs;exact⟨h.1.sd hs,h.2⟩
 | .ref j,v,F,hs,h=>by simpa only[kD] using h
 | .own e xs,v,F,hs,h=>by
   simp only[T.sd] at hs
   simp only[kD] at h⊢
   obtain⟨us,F1,h1,h2,h3,h4,h5⟩:=h
   exact⟨us,F1,h1,h2,bu.sd xs us F1 hs h3,h4,h5⟩
theorem a8.sd:∀(ts:List T)(vs:List Value)(F:List Nat),Zn ts=true→a8 P w ok ν st ts vs F→a8 P w ok' ν st ts vs F
 | [],[],F,_,h=>by simpa only[a8] using h
 | [],_::_,F,_,h=>by simp[a8] at h
 | _::_,[],F,_,h=>by simp[a8] at h
 | t::ts,v::vs,F,hs,h=>by
   simp only[Zn,al] at hs
   simp only[a8] at h⊢
   obtain⟨F1,F2,h1,h2,h3⟩:=h
   exact⟨F1,F2,kD.sd t v F1 hs.1 h1,a8.sd ts vs F2 hs.2 h2,h3⟩
theorem bu.sd:∀(xs:List (List T))(us:List (List Value))(F:List Nat),MS xs=true→bu P w ok ν st xs us F→bu P w ok' ν st xs us F
 | [],[],F,_,h=>by simpa only[bu] using h
 | [],_::_,F,_,h=>by simp[bu] at h
 | _::_,[],F,_,h=>by simp[bu] at h
 | x::xs,u::us,F,hs,h=>by
   simp only[MS,al] at hs
   simp only[bu] at h⊢
   obtain⟨F1,F2,h1,h2,h3⟩:=h
   exact⟨F1,F2,a8.sd x u F1 hs.1 h1,bu.sd xs us F2 hs.2 h2,h3⟩
end
mutual
theorem aE.sd:∀(p:PV)(v:Value),p.sd=true→aE w ok ν st p v→aE w ok' ν st p v
 | .any,_,_,_=>by simp only[aE]
 | .undef,_,_,h=>by simpa only[aE] using h
 | .b8,_,_,h=>by simpa only[aE] using h
 | .d x,v,hs,h=>by simp only[aE] at h⊢;exact h.sd hs
 | .agg cs,v,hs,h=>by
   simp only[aE] at h⊢
   obtain⟨vs,e,h⟩:=h
   exact⟨vs,e,az.sd cs vs (by simpa only[PV.sd] using hs) h⟩
 | .gV cs,v,hs,h=>by
   simp only[aE] at h⊢
   obtain⟨vs,e,h⟩:=h
   exact⟨vs,e,az.sd cs vs (by simpa only[PV.sd] using hs) h⟩
 | .ptr _ _,_,_,h=>by simpa only[aE] using h
 | .acc _,_,_,h=>by simpa only[aE] using h
 | .gI _ _ _ _,_,_,h=>by simpa only[aE] using h
 | .gq _ _ _,_,hs,_=>by simp[PV.sd] at hs
 | .fn f cs,v,hs,h=>by
   simp only[aE] at h⊢
   obtain⟨vs,e,h⟩:=h
   exact⟨vs,e,az.sd cs vs (by simpa only[PV.sd] using hs) h⟩
theorem az.sd:∀(ps:List PV)(vs:List Value),YY ps=true→az w ok ν st ps vs→az w ok' ν st ps vs
 | [],[],_,_=>by simp[az]
 | [],_::_,_,h=>by simp[az] at h
 | _::_,[],_,h=>by simp[az] at h
 | p::ps,v::vs,hs,h=>by
   simp only[YY,al] at hs
   simp only[az] at h⊢
   exact⟨aE.sd p v hs.1 h.1,az.sd ps vs hs.2 h.2⟩
end
theorem Yc:∀{xs:List (List D)},He xs=true→∀(i j:Nat)(x:List D)(d:D),xs[i]?=some x→x[j]?=some d→Y9 d=true:=by
 have h1:∀{x:List D},Wd x=true→∀(j:Nat)(d:D),x[j]?=some d→Y9 d=true:=by
  intro x
  induction x with
  | nil=>intro _ j d h;simp at h
  | cons e x ih=>
    intro h j d hd
    simp only[Wd,al] at h
    cases j with
    | zero=>obtain rfl:e=d:=by simpa using hd
            exact h.1
    | succ j=>exact ih h.2 j d (by simpa using hd)
 intro xs
 induction xs with
 | nil=>intro _ i j x d h;simp at h
 | cons y xs ih=>
   intro h i j x d hx hd
   simp only[He,al] at h
   cases i with
   | zero=>obtain rfl:y=x:=by simpa using hx
           exact h1 h.1 j d hd
   | succ i=>exact ih h.2 i j x d (by simpa using hx) hd
theorem kP.sd{k:Nat}{e:En}(hs:e.sd=true)(h:kP P w ok ν st k e):kP P w ok' ν st k e:=by
 cases e with
 | dead=>trivial
 | box cs=>
   obtain⟨b,vs,T,h1,h2,h3,h4⟩:=h
   exact⟨b,vs,T,h1,h2,az.sd cs vs (by simpa only[En.sd] using hs) h3,h4⟩
 | acc e xs=>
   obtain⟨us,h1,h2,h3,h4⟩:=h
   exact⟨us,h1,⟨h2.len,h2.hx,h2.hu,fun i j x u d v k1 k2 k3 k4=>(h2.hr i j x u d v k1 k2 k3 k4).sd (Yc (by simpa only[En.sd] using hs) i j x d k1 k3)⟩,h3,h4⟩
 | fk e xs=>exact⟨kD.sd (.own e xs) _ _ (by simpa only[T.sd,En.sd] using hs) h.1,h.2⟩
 | map sP=>exact h
theorem LD:∀{es:List (Option En)},IV es=true→∀(i:Nat)(e:En),c6 es i=some e→e.sd=true
 | [],_,i,e,h=>by cases i<;>simp[c6] at h
 | none::es,hs,0,e,h=>by simp[c6] at h
 | none::es,hs,i+1,e,h=>LD (es:=es) (by simpa only[IV] using hs) i e (by simpa[c6] using h)
 | some a::es,hs,0,e,h=>by
   simp only[IV,al] at hs
   obtain rfl:a=e:=by simpa[c6] using h
   exact hs.1
 | some a::es,hs,i+1,e,h=>by
   simp only[IV,al] at hs
   exact LD hs.2 i e (by simpa[c6] using h)
end
theorem WA{P:Program}{o:Oper}{g:G}{nr:Operand}{xs:List Operand}{tys:Array TypeId}{d:Nat}(ho:o.op= .call ⟨.value nr,⟨xs⟩,tys⟩)(hd:o.dst=some d){f:FuncId}{cap:List PV}(hfn:g.ev nr= .fn f cap)
 (ks m:List Nat) (cR:List PV) (res:PV) (st':List (Option En)) (hC:C P f cR [] (bz res st')) (oY:iH g ks (xs.map g.ev++cap) cR) (hsd:res.sd=true) (hse:IV st'=true) (hm:m.Nodup) (hnew:iR g 0 m) (hml:st'.length≤m.length)
 (X:Cx) (ν:Nat→Nm) (a:Act) (w:World) (next:Act→World→Prop) (Q:Exit→Act→World→Prop) (hs:Sat P X ν g a w)
 (hn:∀ν' a' w',Sat P X ν' ⟨lV g.sl d (res.mc m),yf g.st (kO m m st')⟩ a' w'→next a' w'):o.wp P a w next Q:=by
 have hfv:=hs.ev nr
 rw[hfn] at hfv
 simp only[aE] at hfv
 obtain⟨vcap,hfv,jS⟩:=hfv
 have hxs:=BJ hs xs
 let Xc:Cx:=⟨w,Own (fun i=>ν (look m i)) (c6 []),fun i=>ν (look m i),c6 [],X.Z⟩
 have hno:∀(ν:Nat→Nm) b,¬Own ν (c6 []) b:=by
  rintro ν b ⟨k,e,h,_⟩
  cases k<;>simp[c6] at h
 have hw:∀b,cF X ν g.at b→b<w.heap.size→cF Xc (fun i=>ν (look m i)) (c6 []) b∧w.heap[b]?=w.heap[b]?:=fun b hb _=>⟨⟨hno _ b,hb.2⟩,rfl⟩
 have im:∀b,Own ν g.at b→cF Xc (fun i=>ν (look m i)) (c6 []) b:=fun b hb=>⟨hno _ b,hs.KH hb⟩
 have mR:az w (cF Xc (fun i=>ν (look m i)) (c6 [])) (fun i=>ν (look m i)) (c6 []) cR (xs.map a.eval++vcap):=az.vw hs hw im _ oY (hxs.app jS)
 obtain⟨⟨fn,hfn1,hfn2,hfn3⟩,hC⟩:=hC
 have hr:(execOp a.eval o).run P w= .ok (.enter f ⟨xs.map a.eval++vcap⟩) w:=by
  have n1 : ¬ fn.name = "runtime.NumGoroutine" := by simpa using hfn3
  have n2:¬fn.body=none:=fun e=>by rw[e] at hfn2;cases hfn2
  simp[execOp,ho,resolve,hfv,Deferred.ofValue,invoke,callFunc,program,hfn1,n1,n2,Sem.run]
 have ll:∀k,(⟨cR,[]⟩:G).at k=none:=fun k=>by cases k<;>rfl
 have hent:Sat P Xc (fun i=>ν (look m i)) ⟨cR,[]⟩ ⟨⟨xs.map a.eval++vcap⟩,[]⟩ w:=by
  refine⟨by simpa using mR.length,fun t=>?_,fun k e h=>?_,fun k k' e e' b h=>?_,fun b hb=>?_,fun k h=>?_,fun k h=>?_,⟨fun b hb=>?_,hs.kt rfl fun b hb=>(hno _ b hb).elim⟩,rR.refl _ w,rfl⟩
  ·have key:∀(ps:List PV)(us:List Value)(t:Nat),az w (cF Xc (fun i=>ν (look m i)) (c6 [])) (fun i=>ν (look m i)) (c6 []) ps us→aE w (cF Xc (fun i=>ν (look m i)) (c6 [])) (fun i=>ν (look m i)) (c6 []) (nth ps t) (us.getD t Go.undef):=by
    intro ps
    induction ps with
    | nil=>intro us t _;cases t<;>simp[nth,aE]
    | cons p ps ih=>
      intro us t hr
      cases us with
      | nil=>simp[az] at hr
      | cons u us=>
        simp only[az] at hr
        cases t with
        | zero=>simpa[nth] using hr.1
        | succ t=>simpa[nth] using ih us t hr.2
   have:=key cR _ t mR
   show aE w (cF Xc (fun i=>ν (look m i)) (c6 [])) (fun i=>ν (look m i)) (c6 []) (nth cR t) ((⟨xs.map a.eval++vcap⟩:Array Value).getD t Go.undef)
   simpa[Array.getD_eq_getD_getElem?] using this
  ·rw[ll] at h;cases h
  ·rw[ll] at h;cases h
  ·exact(hno _ b hb).elim
  ·rw[ll] at h;cases h
  ·exact⟨rfl,h⟩
  ·exact⟨Nat.lt_of_lt_of_le (hs.E9 b hb).1 hs.An.size,hno _ b⟩
 unfold Oper.wp
 rw[hr,Oper.upon_enter]
 refine(hC Xc (xs.map a.eval++vcap) rfl rfl hent).mono ?_
 rintro e w' ⟨v,res',st2,ν',rfl,⟨rfl,rfl⟩,gG⟩
 let Xd:Cx:=⟨w,Own (fun i=>ν (look m i)) (c6 []),fun i=>ν (look m i),c6 [],fun b=>X.Z b∨(Own ν g.at b∧¬Own (fun i=>ν (look m i)) (c6 []) b)⟩
 have hsat2:QJ P Xd ν' res' st2 v w':=by
  refine⟨gG.size,fun t=>?_,fun k e h=>kP.sd (LD hse k e h) (gG.en k e h),gG.inj,gG.base,gG.nu,gG.par,⟨fun b hb=>?_,gG.E9.k⟩,gG.An,gG.defs⟩
  ·have hx:(nth [res'] t).sd=true:=by
    cases t with
    | zero=>exact hsd
    | succ t=>cases t<;>rfl
   exact aE.sd _ _ hx (gG.sl t)
  ·rcases hb with hb|hb
   ·exact gG.E9 b hb
   ·exact⟨hs.lt hb.1,hno _ b⟩
 obtain⟨ν'',hs'⟩:=hs.leave m [] st2 hm hml (Nat.zero_le _) (fun i hi=>by simp at hi) (fun i hi hi'=>hnew.at i hi (by omega)) Xd rfl (fun _ _=>rfl) rfl rfl rfl hsat2 d
 show next (a.put o.dst v) w'
 rw[hd]
 exact hn ν'' _ _ hs'
section
variable{E:Env}{g:G}{d:Nat}{ty:TypeId}{pos:String}{eM:Array Edge}{gd:Option (Nat×Bool)}
theorem T6(nr:Operand)(xs:List Operand)(tys:Array TypeId)(f:FuncId)(cap:List PV)(hfn:g.ev nr= .fn f cap)(ks M:List Nat)(cR:List PV)(res:PV)(st':List (Option En))(hC:C E.P f cR [] (bz res st'))
 (oY:iH g ks (xs.map g.ev++cap) cR) (hsd:res.sd=true) (hse:IV st'=true) (hm:M.Nodup) (hnew:iR g 0 M) (hml:st'.length≤M.length) :
 kH E.P ⟨some d,.call ⟨.value nr,⟨xs⟩,tys⟩,ty,pos,eM,gd⟩ g ⟨dh nr++xs.flatMap dh,ks++M⟩ ⟨some (d,res.mc M),kO M M st'⟩:=by
 intro g2 hg
 have e1:=hg.ev (x:=nr) (fun t h=>by simp[h])
 have e2:=uU hg xs (fun t h=>by simp only[aP];exact .inr h)
 have hfr:∀(ks':List Nat)(n:Nat),(∀k∈ks',k∈M)→iR g n ks'→iR g2 n ks':=by
  intro ks'
  induction ks' with
  | nil=>intro n _ _;cases n<;>trivial
  | cons k ks' ih=>
    intro n hk h
    cases n with
    | zero=>
      simp only[iR] at h⊢
      exact⟨by rw[hg.p k (by simp[hk k (by simp)])];exact h.1,ih 0 (fun k h=>hk k (by simp[h])) h.2⟩
    | succ n=>
      simp only[iR] at h⊢
      exact ih n (fun k h=>hk k (by simp[h])) h
 intro X ν a w next Q hs hn
 exact WA rfl rfl (by rw[e1,hfn]) ks M cR res st' hC (by rw[e2];exact oY.agree (fun k hk=>hg.p k (by simp[hk]))) hsd hse hm (hfr M 0 (fun _ h=>h) hnew) hml X ν a w next Q hs hn
theorem KE{m:Option (List Ky)}{gs:Option Nat}{rest:qQ→Option (List Ky)→G→Prop}{nr:Operand}{xs:List Operand}{tys:Array TypeId}{f:FuncId}(cap:List PV)(ks M:List Nat){cR:List PV}{res:PV}{st':List (Option En)}
 (hC:C E.P f cR [] (bz res st')) (h1:g.ev nr= .fn f cap) (h2:iH g ks (Te g xs++cap) cR) (h3:res.sd=true∧IV st'=true∧MT M=true∧yk (lS st') (Ha M)=true∧iR g 0 M)
 (hr:rest .on (mw m (oo (uV gs ⟨dh nr++Cw xs,apN ks M⟩) ⟨some (d,res.mc M),kO M M st'⟩)) (g.app ⟨some (d,res.mc M),kO M M st'⟩)):sR E m gs ⟨some d,.call ⟨.value nr,⟨xs⟩,tys⟩,ty,pos,eM,gd⟩ g rest:=by
 rw[yu,U7] at hr
 rw[CI] at h2
 obtain⟨k1,k2,k3,k4,k5⟩:=h3
 have k4:=ld k4
 rw[nJ,Ff] at k4
 exact fg (T6 nr xs tys f cap h1 ks M cR res st' hC h2 k1 k2 (K4 k3) k5 k4) hr
end
section
variable{E:Env}{n0:Nat}{g:G}{c:Code}{Q:Ex→G→Prop}
theorem Sz{A:Type}(I:A→Prop)(T:A→G)(μ:A→Nat)(a0:A)(hi:I a0)(h0:qz E.P n0 g (T a0))
 (round:∀a,I a→W E.P n0 c (T a) (qU E.P n0 I T μ a Q)):W E.P n0 (.loop c) g Q:=by
 refine Vu (α:={a // I a}) (fun x=>T x.1) (fun x=>μ x.1) ⟨a0,hi⟩ h0 ?_
 rintro⟨a,ha⟩
 have h:=round a ha
 have e:(qU E.P n0 I T μ a Q)=(J0 E.P n0 (fun x:{a // I a}=>T x.1) (fun x=>μ x.1) ⟨a,ha⟩ Q):=by
  funext e g'
  cases e with
  | normal=>
    simp only[qU,J0]
    apply propext
    exact⟨fun⟨a',h1,h2,h3⟩=>⟨⟨a',h1⟩,h2,h3⟩,fun⟨⟨a',h1⟩,h2,h3⟩=>⟨a',h1,h2,h3⟩⟩
  | exit id=>rfl
  | ret=>rfl
 rw[←e]
 exact h
theorem Bd{P:Program}{g':G}(k i:Nat){e:TypeId}{xs:List (List T)}(row:List T)(hk:g.at k=some (.fk e xs))(hi:i<xs.length)(hr:oQ xs i=row)
 (h:qz P n0 ⟨g.sl,da (o6 k g.st row) k (some (.fk e (xs.set i (fA k g.st row))))⟩ g'):qz P n0 g g':=qz.trans (AH.NC (vR k i row hk hi hr)) h
end
theorem YD{xs:List (List T)}{i:Nat}{r:List T}(h:i<xs.length):oQ (xs.set i r) i=r:=by simp[oQ,cr,h]
theorem RG(xs:List (List T))(r:List T):oQ (xs++[r]) xs.length=r:=by simp[oQ,cr]
theorem wQ{xs:List (List T)}{r:List T}{n:Nat}(h:xs.length=n):oQ (xs++[r]) n=r:=by subst h;exact RG xs r
theorem xg{xs:List (List T)}{r r':List T}{n:Nat}(h:xs.length=n):(xs++[r]).set n r'=xs++[r']:=by subst h;exact Aq xs r r' []
attribute [go_sem] Y9 Wd He T.sd Zn MS PV.sd YY En.sd IV apN qd I4 apE fA o6 List.set_set RG List.length_set
section
variable{P:Program}{w:World}{ok:Nat→Prop}{ν:Nat→Nm}{st:Nat→Option En}
theorem bu.split:∀(n:Nat){x:List (List T)}{u:List (List Value)}{F:List Nat},bu P w ok ν st x u F→∃F1 F2,bu P w ok ν st (x.take n) (u.take n) F1∧F=F1++F2
 | 0,x,u,F,h=>⟨[],F,by simp[bu],rfl⟩
 | n+1,[],[],F,h=>⟨[],F,by simp[bu],rfl⟩
 | _+1,[],_::_,_,h=>by simp[bu] at h
 | _+1,_::_,[],_,h=>by simp[bu] at h
 | n+1,t::ts,a::u,F,h=>by
   simp only[bu] at h
   obtain⟨F1,F2,h1,h2,rfl⟩:=h
   obtain⟨G1,G2,k1,rfl⟩:=bu.split n h2
   refine⟨F1++G1,G2,?_,by rw[bj]⟩
   simp only[List.take_succ_cons,bu]
   exact⟨F1,G1,h1,k1,rfl⟩
end
section
variable{E:Env}{g:G}{d:Nat}{ty:TypeId}{pos:String}{eM:Array Edge}{gd:Option (Nat×Bool)}
end
def XX(P:Program)(ops:Array Oper)(Q:Ex→G→Prop):Nat→Array Bool→G→Prop
 | 0,listed,g=>Region.ready .any ops listed=[]∧Q .normal g
 | f+1,listed,g=>(Region.ready .any ops listed=[]→Q .normal g)∧∀i∈Region.ready .any ops listed,∃o R δ,ops[i]?=some o∧FP P ops o g R δ∧XX P ops Q f (listed.setIfInBounds i true) (g.app δ)
theorem XX.ok{P:Program}{ops:Array Oper}{Q:Ex→G→Prop}{X:Cx}:∀(f:Nat)(listed:Array Bool)(g:G)(ν:Nat→Nm)(a:Act)(w:World),XX P ops Q f listed g→Sat P X ν g a w→wpAny P .any ops (MN P X Q) f listed a w
 | 0,_,g,ν,_,_,h,hs=>⟨h.1,g,ν,h.2,hs⟩
 | f+1,listed,g,ν,a,w,h,hs=>by
   refine⟨fun hr=>⟨g,ν,h.1 hr,hs⟩,fun i hi=>?_⟩
   obtain⟨o,R,δ,ho,jw,hx⟩:=h.2 i hi
   have:=jw g ⟨fun _ _=>rfl,fun _ _=>rfl⟩ X ν a w (wpAny P .any ops (MN P X Q) f (listed.setIfInBounds i true)) (MN P X Q) hs fun ν' a' w' hs'=>XX.ok f _ _ ν' a' w' hx hs'
   unfold wpOp
   simp only[ho]
   by_cases hw:Region.wanted o (yielded ops a.tmps)=true
   ·simp only[hw,if_true] at this⊢;exact .inl this
   ·simp only[hw,if_false] at this⊢;exact this
section
variable{E:Env}{n0:Nat}{g:G}{Q:Ex→G→Prop}
end
section
variable{P:Program}{g:G}
theorem Rv(k:Nat){e:TypeId}{xs:List (List T)}{ys:List (List D)}(hk:g.at k=some (.fk e xs))(hf:cX xs=some ys) :
 AH P g ⟨g.sl,da g.st k (some (.acc e ys))⟩:=by
 intro X ν a w hs
 obtain⟨us,ho,hul,je,hB,hnd⟩:=vg hs hk
 generalize hg':(⟨g.sl,da g.st k (some (.acc e ys))⟩:G)=g'
 have ll:∀j,g'.at j=if j=k then some (.acc e ys) else g.at j:=by
  intro j
  rw[←hg']
  exact gx g.st k _ j
 refine⟨fun j=>if j=k then⟨(ν k).v,[]⟩ else ν j,?_⟩
 generalize hν':(fun j=>if j=k then(⟨(ν k).v,[]⟩:Nm) else ν j)=ν'
 have hνk:ν' k=⟨(ν k).v,[]⟩:=by rw[←hν'];simp
 have hνo:∀j,j≠k→ν' j=ν j:=fun j h1=>by rw[←hν'];simp[h1]
 have hm:lA g.at g'.at ν ν':=by
  intro j hj
  refine⟨?_,?_⟩
  ·by_cases h2:j=k
   ·rw[h2,hνk]
   ·rw[hνo j h2]
  ·rw[ll]
   split
   ·rfl
   ·exact hj
 have hask:∀b,(ν' k).has b↔b∈hb (ν k).v:=fun b=>by rw[hνk,oP];simp
 have hasK:∀b,(ν k).has b↔b∈hb (ν k).v++(ν k).f:=fun b=>oP
 have back:∀j e1,g'.at j=some e1→e1.live=true→∀b,(ν' j).has b→∃e0,g.at j=some e0∧e0.live=true∧(ν j).has b:=by
  intro j e1 h1 h2 b hb1
  by_cases lJ:j=k
  ·subst lJ
   exact⟨_,hk,rfl,(hasK b).2 (List.mem_append_left _ ((hask b).1 hb1))⟩
  ·rw[ll,if_neg lJ] at h1
   rw[hνo j lJ] at hb1
   exact⟨e1,h1,h2,hb1⟩
 have im:∀b,Own ν' g'.at b→Own ν g.at b:=by
  rintro b ⟨j,e1,h1,h2,h3⟩
  obtain⟨e0,k1,k2,k3⟩:=back j e1 h1 h2 b h3
  exact⟨j,e0,k1,k2,k3⟩
 have hw:∀b,cF X ν g.at b→b<w.heap.size→cF X ν' g'.at b∧w.heap[b]?=w.heap[b]?:=fun b hb _=>⟨⟨fun ho=>hb.1 (im b ho),hb.2⟩,rfl⟩
 have hF:∀b∈(ν k).f,cF X ν' g'.at b:=by
  intro b hbf
  have hKb:(ν k).has b:=(hasK b).2 (List.mem_append_right _ hbf)
  refine⟨?_,hs.KH ⟨k,_,hk,rfl,hKb⟩⟩
  rintro⟨j,e1,h1,h2,h3⟩
  obtain⟨e0,k1,k2,k3⟩:=back j e1 h1 h2 b h3
  have lJ:=hs.inj j k e0 _ b k1 hk k2 rfl k3 hKb
  subst lJ
  have h4:=(hask b).1 h3
  exact(dm.1 hnd).2.2 b h4 b hbf rfl
 obtain⟨l1,l2,l3⟩:=bu.data hw xs us (ν k).f ys hf je hF
 have oq:cu w (cF X ν' g'.at) (P.cellsOf e) ys us:=by
  refine⟨l1,fun i x hx=>?_,fun i u hu=>hul i u hu,fun i j x u d v h1 h2 h3 h4=>(l3 i x u h1 h2).2 j d v h3 h4⟩
  have hi:i<us.length:=by
   have:=(List.getElem?_eq_some_iff.1 hx).1
   omega
  have hu:=List.getElem?_eq_getElem hi
  rw[(l3 i x _ hx hu).1]
  exact hul i _ hu
 refine hs.W4 (g':=g') (ν':=ν') (fun _=>False) (rR.refl _ w) (fun _ hb=>hb.elim) hm ?_ ?_ ?_ ?_ ?_ ?_ rfl
 ·intro j e1 hj
  rw[ll] at hj
  by_cases lJ:j=k
  ·rw[if_pos lJ] at hj
   obtain rfl:=Option.some.inj hj
   subst lJ
   refine .inr ⟨us,?_,oq,by omega,by rw[hνk]⟩
   rw[hνk,←l2]
   exact ho
  ·rw[if_neg lJ] at hj
   exact .inl ⟨hj,hνo j lJ,fun _ _ _ hb=>hb⟩
 ·intro j e1 b h1 h2 h3
  exact .inl (im b ⟨j,e1,h1,h2,h3⟩)
 ·intro j j' e1 e2 b h1 h2 h3 h4 h5 h6
  obtain⟨e0,k1,k2,k3⟩:=back j e1 h1 h3 b h5
  obtain⟨e3,l1,l2,l3⟩:=back j' e2 h2 h4 b h6
  exact hs.inj j j' e0 e3 b k1 l1 k2 l2 k3 l3
 ·intro j hj
  rw[ll] at hj
  by_cases lJ:j=k
  ·exact .inl (by rw[lJ,hk];rfl)
  ·rw[if_neg lJ] at hj
   exact .inl hj
 ·rw[←hg'];exact hs.size
 ·intro t
  exact .inl ⟨by rw[←hg'],rfl⟩
end
theorem aaP{E:Env}{g g':G}{o:Oper}{rest:qQ→Option (List Ky)→G→Prop}(hw:AH E.P g g')(h:sR E none none o g' rest):sR E none none o g rest:=by
 rcases h with⟨R,δ,h1,h2⟩|⟨_,_,g2,h1,h2⟩
 ·exact .inr ⟨rfl,rfl,g',hw,R,δ,h1,h2⟩
 ·exact .inr ⟨rfl,rfl,g2,hw.trans h1,h2⟩
theorem FL{E:Env}{rs:List ResultVar}{n0:Nat}{R:PV→List (Option En)→Prop}{g g':G}(hw:AH E.P g g')(h:TP E rs n0 R g'):TP E rs n0 R g:=
 let ⟨g2,h1,h2⟩:=h
 ⟨g2,qz.trans hw.NC h1,h2⟩
theorem Vq{xs:List (List T)}{r1 r2:List T}{n:Nat}(h:xs.length=n):oQ (xs++[r1,r2]) n=r1:=by subst h;simp[oQ,cr]
theorem Wf{xs:List (List T)}{r1 r2:List T}{n:Nat}(h:xs.length=n):oQ (xs++[r1,r2]) (n+1)=r2:=by subst h;simp[oQ,cr]
theorem Wr{xs:List (List T)}{r1 r2 r:List T}{n:Nat}(h:xs.length=n):(xs++[r1,r2]).set n r=xs++[r,r2]:=by subst h;simp
theorem V0{xs:List (List T)}{r1 r2 r:List T}{n:Nat}(h:xs.length=n):(xs++[r1,r2]).set (n+1) r=xs++[r1,r]:=by subst h;simp
attribute [go_sem] dW dS yo YA
theorem iY{E:Env}{ops:Array Oper}{o:Oper}{os:List Oper}{g:G}{K:G→Prop}(hg:o.guard=none)(h:sR E none none o g (fun _ _ g'=>WO E.P ops os g' K)):WO E.P ops (o::os) g K:=by
 rcases h with⟨R,δ,h1,h2⟩|⟨_,_,g',hw,R,δ,h1,h2⟩
 ·exact yh (FP.plain hg h1) h2
 ·exact R7 hw (yh (FP.plain hg h1) h2)
def kz:List (Int×Value)→Int→Option Value
 | [],_=>none
 | p::l,n=>if n=p.1 then some p.2 else kz l n
theorem tg(n:Int):∀(es:List MapEntry)(sP:List (Int×Value))(i:Nat),yx es=yN sP →
 (kz sP n=none→Instr.findNow (.int .i64) (.int .i64 n) es i=some none)∧(∀v,kz sP n=some v→∃j,Instr.findNow (.int .i64) (.int .i64 n) es i=some (some (j,v)))
 | [],[],i,_=>⟨fun _=>rfl,fun v h=>by cases h⟩
 | [],_::_,i,h=>by simp[yx,yN] at h
 | _::_,[],i,h=>by simp[yx,yN] at h
 | e::es,p::sP,i,h=>by
   simp only[yx,yN,aQ,List.cons.injEq,Prod.mk.injEq] at h
   obtain⟨⟨h1,h2⟩,h3⟩:=h
   obtain⟨i1,i2⟩:=tg n es sP (i+1) h3
   simp only[kz,Instr.findNow,h1,Instr.sameNow,if_true]
   by_cases hn:n=p.1
   ·simp only[hn,if_true,beq_self_eq_true,h2]
    exact⟨fun h=>by simp at h,fun v hv=>⟨i,by simpa using hv⟩⟩
   ·have:(n == p.1)=false:=by simpa using hn
    simp only[hn,if_false,this]
    exact⟨i1,i2⟩
section
variable{E:Env}{g:G}{d:Nat}{ty:TypeId}{pos:String}{eM:Array Edge}{gd:Option (Nat×Bool)}{dn:Option Nat}
theorem Yx{w:World}{ok:Nat→Prop}{ν:Nat→Nm}{st:Nat→Option En}{v:Value}(h:okV v=true):aE w ok ν st (YV v) v:=by
 have key:∀vs:List Value,(vs.all fun v=>v.oneCell')=true→az w ok ν st (vs.map fun v=>.d (.val v)) vs:=by
  intro vs
  induction vs with
  | nil=>intro _;simp[az]
  | cons v vs ih=>
    intro h
    simp only[List.all_cons,al] at h
    simp only[aQ,az,aE]
    exact⟨.val v h.1,ih h.2⟩
 cases v with
 | agg cs=>simp only[okV] at h;simp only[YV,aE];exact⟨cs.toList,rfl,key _ h⟩
 | _=>simp only[okV] at h;simp only[YV,aE];exact .val _ h
theorem Xf{w:World}{ok:Nat→Prop}{ν:Nat→Nm}{st:Nat→Option En}{u v:Value}(h:aE w ok ν st (YV u) v):v=u:=by
 have key:∀us vs:List Value,az w ok ν st (us.map fun v=>.d (.val v)) vs→vs=us:=by
  intro us
  induction us with
  | nil=>intro vs h;cases vs with
    | nil=>rfl
    | cons v vs=>simp[az] at h
  | cons u us ih=>intro vs h;cases vs with
    | nil=>simp[az] at h
    | cons v vs=>
      simp only[aQ,az] at h
      rw[fU h.1,ih vs h.2]
 cases u with
 | agg cs=>
   simp only[YV,aE] at h
   obtain⟨vs,rfl,h⟩:=h
   rw[key _ _ h]
 | _=>exact fU h
theorem Nx(t k:Nat)(hk:g.at k=none):kH E.P ⟨some d,.makeMap t none,ty,pos,eM,gd⟩ g ⟨[],[k]⟩ ⟨some (d,.acc k),[(k,.map [])]⟩:=by
 intro g2 hg
 have h3:=(hg.p k (by simp)).trans hk
 intro X ν a w next Q hs hn
 have hr:(execOp a.eval ⟨some d,.makeMap t none,ty,pos,eM,gd⟩).run E.P w= .ok (.value (.map (some w.heap.size))) (w.alloc (.map #[] 0)):=rfl
 unfold Oper.wp
 rw[hr,Oper.upon_value]
 refine hn _ _ _ (hs.xQ (jz w _) k h3 (.map []) ⟨.map (some w.heap.size),[]⟩ rfl ?_ d _ _ ?_ ?_)
 ·intro b hb
  obtain rfl:w.heap.size=b:=by simpa[Nm.has,wH] using hb
  exact aJ _
 ·intro ok st ν' hν hw hm
  exact⟨w.heap.size,#[],0,by rw[hν],by rw[se],rfl,fun p hp=>by simp at hp,by rw[hν]⟩
 ·intro ok st ν' hν jw hw hm
  simp only[aE]
  exact⟨by rw[jw];rfl,by rw[hν]⟩
theorem pC{P:Program}{kt:TypeId}(hk:P.underlying kt=some (.int .i64))(b:Bool)(n:Int)(w:World):(Instr.checkKey b 10000 kt (.int .i64 n)).run P w= .ok () w:=
 MapKept.run_checkKey (k:=.int .i64 n) hk (by trivial) b 9999
theorem tl(x y:Operand)(t kt et k:Nat)(sP:List (Int×Value))(n:Int)(v:Value)(ht:E.P.underlying t=some (.map kt et))(hkt:E.P.underlying kt=some (.int .i64))(hx:g.ev x= .acc k)(hk:g.at k=some (.map sP))(hy:g.ev y= .d (.val (.int .i64 n)))(hv:kz sP n=some v) :
 kH E.P ⟨some d,.lookup t x y false,ty,pos,eM,gd⟩ g ⟨dh x++dh y,[k]⟩ ⟨some (d,YV v),[]⟩:=by
 intro g2 hg
 have h1:=hg.ev (x:=x) (fun t h=>by simp[h])
 have h2:=hg.ev (x:=y) (fun t h=>by simp[h])
 have h3:=(hg.p k (by simp)).trans hk
 refine Dn.val rfl fun X ν a w hs=>?_
 have hvx:=hs.ev x
 rw[h1,hx] at hvx
 have hvy:=hs.ev y
 rw[h2,hy] at hvy
 have hvy:=fU hvy
 simp only[aE] at hvx
 obtain⟨r,es,clock,q1,q2,q3,q4,q5⟩:=hs.en k _ h3
 obtain⟨j,hj⟩:=(tg n es.toList sP 0 q3).2 v hv
 have hmem:∃p∈sP,p.2=v:=by
  clear q3 q4 hj h3 hk
  induction sP with
  | nil=>cases hv
  | cons p l ih=>
    simp only[kz] at hv
    split at hv
    ·exact⟨p,by simp,by simpa using hv⟩
    ·obtain⟨q,h1,h2⟩:=ih hv
     exact⟨q,List.mem_cons_of_mem _ h1,h2⟩
 obtain⟨p,hp1,hp2⟩:=hmem
 refine⟨v,?_,Yx (by rw[←hp2];exact q4 p hp1)⟩
 simp only[execOp,hvx.2,q1,hvy,Instr.lookup,Sem.run_bind,run_underlying ht,Result.andThen_ok,MapKept.run_getObj_map q2,Sem.run_pure,pC hkt,MapKept.run_findKey hkt hj]
 rfl
theorem AS(x y:Operand)(t kt et k:Nat)(ei:TI)(sP:List (Int×Value))(n:Int)(ht:E.P.underlying t=some (.map kt et))(hkt:E.P.underlying kt=some (.int .i64))(he:E.ti et=some ei)(hzo:zeroOf E.P et= .bool false)(hx:g.ev x= .acc k)(hk:g.at k=some (.map sP))(hy:g.ev y= .d (.val (.int .i64 n)))(hv:kz sP n=none) :
 kH E.P ⟨some d,.lookup t x y false,ty,pos,eM,gd⟩ g ⟨dh x++dh y,[k]⟩ ⟨some (d,.d (.val (.bool false))),[]⟩:=by
 intro g2 hg
 have h1:=hg.ev (x:=x) (fun t h=>by simp[h])
 have h2:=hg.ev (x:=y) (fun t h=>by simp[h])
 have h3:=(hg.p k (by simp)).trans hk
 refine Dn.val rfl fun X ν a w hs=>?_
 have hvx:=hs.ev x
 rw[h1,hx] at hvx
 have hvy:=hs.ev y
 rw[h2,hy] at hvy
 have hvy:=fU hvy
 simp only[aE] at hvx
 obtain⟨r,es,clock,q1,q2,q3,q4,q5⟩:=hs.en k _ h3
 have hj:=(tg n es.toList sP 0 q3).1 hv
 obtain⟨i,z,z1,z2,z3,z4,z5,z6⟩:=(E.ok et ei he).info
 have hzv:z= .bool false:=by
  rw[←hzo]
  simp[zeroOf,z1,z4]
 refine⟨.bool false,?_,nS rfl⟩
 simp only[execOp,hvx.2,q1,hvy,Instr.lookup,Sem.run_bind,run_underlying ht,Result.andThen_ok,MapKept.run_getObj_map q2,Sem.run_pure,pC hkt,MapKept.run_findKey hkt hj,zeroValue,typeInfo]
 simp[z1,z4,hzv]
theorem MF{P:Program}{t kt et:TypeId}(ht:P.underlying t=some (.map kt et))(hkt:P.underlying kt=some (.int .i64)){w:World}{r:Nat}{es:Array MapEntry}{clock:Nat}(hr:w.heap[r]?=some (.map es clock)){n:Int}(hf:Instr.findNow (.int .i64) (.int .i64 n) es.toList 0=some none)(v:Value) :
 (Instr.mapUpdate t (.map (some r)) (.int .i64 n) v).run P w= .ok () { w with heap:=w.heap.setIfInBounds r (.map (es.push ⟨.int .i64 n,v,clock⟩) (clock+1)) }:=by
 simp only[Instr.mapUpdate,Sem.run_bind,run_underlying ht,Result.andThen_ok,MapKept.run_getObj_map hr,pC hkt,MapKept.run_findKey hkt hf]
 exact MapKept.run_setObj_map _ hr
theorem rV(o:Op)(x y z:Operand)(t kt et k:Nat)(sP:List (Int×Value))(n:Int)(v:Value)(ho:o= .mapUpdate t x y z∨o= .insert t x y z)(ht:E.P.underlying t=some (.map kt et))(hkt:E.P.underlying kt=some (.int .i64))(hx:g.ev x= .acc k)(hk:g.at k=some (.map sP))(hy:g.ev y= .d (.val (.int .i64 n)))(hz:g.ev z=YV v)(eW:okV v=true)(hv:kz sP n=none) :
 kH E.P ⟨none,o,ty,pos,eM,gd⟩ g ⟨dh x++dh y++dh z,[k]⟩ ⟨none,[(k,.map (sP++[(n,v)]))]⟩:=by
 intro g2 hg
 have e1:=hg.ev (x:=x) (fun t h=>by simp[h])
 have e2:=hg.ev (x:=y) (fun t h=>by simp[h])
 have e3:=hg.ev (x:=z) (fun t h=>by simp[h])
 have h3:=(hg.p k (by simp)).trans hk
 intro X ν a w next Q hs hnx
 have hvx:=hs.ev x
 rw[e1,hx] at hvx
 have hvy:=hs.ev y
 rw[e2,hy] at hvy
 have hvy:=fU hvy
 have hvz:=hs.ev z
 rw[e3,hz] at hvz
 have hvz:=Xf hvz
 simp only[aE] at hvx
 obtain⟨r,es,clock,q1,q2,q3,q4,q5⟩:=hs.en k _ h3
 have hj:=(tg n es.toList sP 0 q3).1 hv
 have lh:=MF ht hkt q2 hj v
 have hr:(execOp a.eval ⟨none,o,ty,pos,eM,gd⟩).run E.P w= .ok .skip { w with heap:=w.heap.setIfInBounds r (.map (es.push ⟨.int .i64 n,v,clock⟩) (clock+1)) }:=by
  rcases ho with rfl|rfl<;>simp only[execOp,hvx.2,q1,hvy,hvz,Sem.run_bind,lh,Result.andThen_ok]<;>rfl
 unfold Oper.wp
 rw[hr,Oper.upon_skip]
 have hrs:r<w.heap.size:=pW q2
 have rv:rR (fun b=>(ν k).has b) w { w with heap:=w.heap.setIfInBounds r (.map (es.push ⟨.int .i64 n,v,clock⟩) (clock+1)) }:=
  ⟨rfl,rfl,rfl,by simp,fun b _ hb=>by
   have jJ:r≠b:=fun e=>hb (e▸(j8 q5).2 (by rw[q1];rfl))
   simp[jf,jJ]⟩
 refine hnx _ _ _ (hs.C3 k (.map sP) (.map (sP++[(n,v)])) h3 rfl rv none .undef Go.undef ?_ (fun h=>by cases h))
 intro hwf hm
 refine⟨r,_,_,q1,by simp[jf,hrs];exact⟨rfl,rfl⟩,?_,fun p hp=>?_,q5⟩
 ·simp only[yx,yN,Array.toList_push,List.map_append,aQ,List.map_nil] at q3⊢
  rw[q3]
 ·rcases aP.1 hp with h|h
  ·exact q4 p h
  ·simp only[List.mem_cons,List.not_mem_nil,or_false] at h
   rw[h];exact eW
end
attribute [go_sem] YV
theorem qf{P:Program}(w:World)(dT sT ty elem:TypeId)(s g o dLen dCap:Nat)(a:Addr)(sLen sCap:Nat)(cur:Array Value)(t:TypeId)(cs:List Value)
 (hu:P.underlying dT=some (.slice elem)) (hs:(P.info? elem).map (·.size)=some s)
 (hg:w.heap[g]?=some (.cells cur t (0,0))) (hn:cs.length=Nat.min sLen dLen*s)
 (hsrc:∀j v,cs[j]?=some v→w.cell? (a.add j)=some v) (hfit:o+cs.length≤cur.size) (h1:∀v∈cs,v.oneCell'=true) :
 (Builtin.copy_ #[dT,sT] ty #[.slice (some ⟨g,o,none⟩) dLen dCap,.slice (some a) sLen sCap]).run P w =
  .ok (goInt (Nat.min sLen dLen)) (w.setRow g (cur.toList.take o++cs++cur.toList.drop (o+cs.length)).toArray):=by
 have hl:=run_loadCells_list (P:=P) w a cs hsrc
 have jw:=run_storeCells_at P g o t cs 0 cur w hg (by simpa using hfit) h1
 cases hq:P.info? elem with
 | none=>simp[hq] at hs
 | some i=>
   have hi:i.size=s:=by simpa[hq] using hs
   rw[hn] at hl
   simp[Builtin.copy_,run_underlying hu,Builtin.lenOf,Builtin.firstCells,sizeOf,typeInfo,hq,hi,hl,jw]
section
variable{E:Env}{g:G}
theorem M3(x lo:Operand)(t e k:Nat){d:Nat}{ty:TypeId}{pos:String}{eM:Array Edge}{gd:Option (Nat×Bool)}(ti ei:TI)(xs:List (List D))(m:Int)(ht:E.ti t=some ti)(kE:ti.ty= .slice e)(he:E.ti e=some ei)
 (hx:g.ev x= .acc k) (hk:g.at k=some (.acc e xs)) (hlo:g.ev lo= .d (.val (.int .i64 m))) (h0:0≤m) (hm:m≤xs.length) :
 kH E.P ⟨some d,.slice t x (some lo) none none,ty,pos,eM,gd⟩ g ⟨dh x++dh lo,[k]⟩ ⟨some (d,.any),[]⟩:=by
 intro g2 hg
 have e1:=hg.ev (x:=x) (fun t h=>by simp[h])
 have e2:=hg.ev (x:=lo) (fun t h=>by simp[h])
 have h3:=(hg.p k (by simp)).trans hk
 intro X ν a w next Q hs hn
 have hu:=(E.ok t ti ht).ty
 rw[kE] at hu
 have hv:=hs.ev x
 rw[e1,hx] at hv
 have nh:=hs.ev lo
 rw[e2,hlo] at nh
 have nh:=fU nh
 simp only[aE] at hv
 have hsize:=(E.ok e ei he).size
 obtain⟨us,ho,je,hB,hf0⟩:=hs.en k _ h3
 have lh:∃v,(execOp a.eval ⟨some d,.slice t x (some lo) none none,ty,pos,eM,gd⟩).run E.P w= .ok (.value v) w:=by
  rcases ho.2 with⟨h1,h2⟩|⟨b,cap,cur,h1,_,_,h4,_⟩
  ·have hr:=tx (P:=E.P) w hu hsize none 0 0 (some (.int .i64 m)) none m ((0:Nat):Int) (.inr ⟨_,rfl⟩) (.inl ⟨rfl,rfl⟩) h0 (by omega) (lx _) (aJ _)
   refine⟨sliced none m.toNat 0 0 ei.n,?_⟩
   simp only[execOp,hv.2,h1,nh,dB,c8,Sem.run_bind,hr,Result.andThen_ok]
   rfl
  ·have hr:=tx (P:=E.P) w hu hsize (some ⟨b,0,none⟩) xs.length cap (some (.int .i64 m)) none m (xs.length:Int) (.inr ⟨_,rfl⟩) (.inl ⟨rfl,rfl⟩) h0 (by omega) (lx _) h4
   simp only[Int.toNat_natCast] at hr
   refine⟨sliced (some ⟨b,0,none⟩) m.toNat xs.length cap ei.n,?_⟩
   simp only[execOp,hv.2,h1,nh,dB,c8,Sem.run_bind,hr,Result.andThen_ok]
   rfl
 obtain⟨v,hr⟩:=lh
 unfold Oper.wp
 rw[hr,Oper.upon_value]
 exact hn _ _ _ (hs.put d (p:=.any) (v:=v) trivial)
end
end Go.Eng
namespace Go.Eng
theorem Qm{α:Type}(A B R v:List α)(hs:v.length≤R.length) :
 (((A++B++R).take (A.length+v.length)++B++(A++B++R).drop (A.length+v.length+B.length)).take A.length++v
   ++ ((A++B++R).take (A.length+v.length)++B++(A++B++R).drop (A.length+v.length+B.length)).drop (A.length+v.length))
 = A++v++B++R.drop v.length:=by
 have hl:((A++B++R).take (A.length+v.length)).length=A.length+v.length:=by simp;omega
 have h1:(((A++B++R).take (A.length+v.length))++B++(A++B++R).drop (A.length+v.length+B.length)).take A.length=A:=by
  rw[bj,List.take_append_of_le_length (by omega),List.take_take,Nat.min_eq_left (by omega),bj,List.take_left]
 have h2:(((A++B++R).take (A.length+v.length))++B++(A++B++R).drop (A.length+v.length+B.length)).drop (A.length+v.length)=B++R.drop v.length:=by
  rw[bj,List.drop_left' hl,show A.length+v.length+B.length=(A++B).length+v.length from by simp;omega,List.drop_append]
  simp
 rw[h1,h2]
 simp
end Go.Eng
