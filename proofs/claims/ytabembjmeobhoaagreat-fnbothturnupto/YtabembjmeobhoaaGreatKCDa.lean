/-
  The symbolic layer, thirty-fourth text: exclusive or; what a call leaves, told otherwise.
-/
import Derived.Test.YtabembjmeobhoaaGreatKCD
import Derived.Laws.IdiomCopy
import Derived.Deep.Draws
import Derived.Laws.Entries
import Derived.MapKept
import Derived.Laws.CopyRow
set_option linter.unusedVariables false
set_option linter.unusedSimpArgs false
open Array renaming getElem?_setIfInBounds→jm
open Bool renaming and_eq_true→ai
open Int renaming le_refl→lB
open List renaming mem_append→aP,map_cons→aQ,append_assoc→bj,append_nil→bm,nil_append→bC,getD→ct,nodup_append→dt,set_cons_zero→iC,getElem?_set→kC,ext_getElem?→mz,set_cons_succ→n7
open Nat renaming le_refl→aJ
open Option renaming map_some→cz,map_none→dG
namespace Go.Eng
open Go.RowKit
def Ov(a b:Int):Int:=((a.toNat ^^^ b.toNat:Nat):Int)
theorem YM(a b:Int):0≤Ov a b:=Int.natCast_nonneg _
theorem K9{a b:Int}(h1:0≤a)(h2:a≤9223372036854775807)(h3:0≤b)(h4:b≤9223372036854775807):bits .xor .i64 a b=Ov a b:=by
 obtain⟨A,rfl⟩:=Int.eq_ofNat_of_zero_le h1
 obtain⟨B,rfl⟩:=Int.eq_ofNat_of_zero_le h3
 have hx:A ^^^ B<2 ^ 63:=Nat.xor_lt_two_pow (by omega) (by omega)
 have k1:(BitVec.ofInt 64 (A:Int)).toNat=A:=by
  rw[BitVec.ofInt_natCast,BitVec.toNat_ofNat];exact Nat.mod_eq_of_lt (by omega)
 have k2:(BitVec.ofInt 64 (B:Int)).toNat=B:=by
  rw[BitVec.ofInt_natCast,BitVec.toNat_ofNat];exact Nat.mod_eq_of_lt (by omega)
 show IntKind.i64.wrap ((BitVec.ofInt 64 (A:Int) ^^^ BitVec.ofInt 64 (B:Int)).toNat:Int)=_
 rw[BitVec.toNat_xor,k1,k2,wrap_i64 ⟨by omega,by omega⟩]
 simp[Ov]
section
variable{E:Env}{g:G}{d:Nat}{ty:TypeId}{pos:String}{eU:Array Edge}{gd:Option (Nat×Bool)}
theorem aa2(x y:Operand)(m n:Int)(t u:TypeId)(hx:g.ev x= .d (.val (.int .i64 m)))(hy:g.ev y= .d (.val (.int .i64 n)))(h1:0≤m)(h2:m≤9223372036854775807)(h3:0≤n)(h4:n≤9223372036854775807) :
 kM E.P ⟨some d,.binOp .xor t x y u,ty,pos,eU,gd⟩ g ⟨dj x++dj y,[]⟩ ⟨some (d,.d (.val (.int .i64 (Ov m n)))),[]⟩:=
 qg rfl hx hy rfl fun a w k1 k2=>by
  simp[execOp,k1,k2,eqGuard,binOp,intBits_xor,K9 h1 h2 h3 h4]
theorem abG{m:Option (List Ky)}{gs:Option Nat}{rest:qT→Option (List Ky)→G→Prop}{x y:Operand}{t u:TypeId}(a b:Int)(hx:g.ev x= .d (.val (.int .i64 a)))(hy:g.ev y= .d (.val (.int .i64 b)))(h1:0≤a)(h2:a≤9223372036854775807)(h3:0≤b)(h4:b≤9223372036854775807)
 (hr:rest .on (mK m (ot (uO gs ⟨dj x++dj y,[]⟩) ⟨some (d,.d (.val (.int .i64 (Ov a b)))),[]⟩)) (g.app ⟨some (d,.d (.val (.int .i64 (Ov a b)))),[]⟩)):sU E m gs ⟨some d,.binOp .xor t x y u,ty,pos,eU,gd⟩ g rest:=
 fu (aa2 x y a b t u hx hy h1 h2 h3 h4) hr
end
theorem C.N6{P:Program}{f:FuncId}{args:List PV}{e9:List (Option En)}{res res':PV}{st st':List (Option En)}(m:List (Option Nat))(h:C P f args e9 (bD res st))(h1:AQ ⟨[res],st⟩ m [res] [res']∧ml ⟨[res],st⟩ m m st')(h3:Dq m st'=true)(h4:keeps e9.length 0 m=true):C P f args e9 (bD res' st'):=
 have hw:Wk e9.length m ⟨[res],st⟩ ⟨[res'],st'⟩:=⟨h1.1,h1.2,h3,h4⟩
 ⟨h.1,fun X vs k1 k2 k3=>(h.2 X vs k1 k2 k3).mono fun e w ⟨v,r,s,ν',e1,⟨e2,e3⟩,e4⟩=>by
  subst e2 e3
  have hp:Par X e9.length:=fun k hk=>by rw[k1] at hk;exact nV hk
  obtain⟨ν'',hs⟩:=Ma hw X ν' _ _ hp e4
  exact⟨v,_,_,ν'',e1,⟨rfl,rfl⟩,hs⟩⟩
section
variable{P:Program}{w:World}{ok ok':Nat→Prop}{ν ν':Nat→Nm}{st st':Nat→Option En}
theorem a8.zip:∀(c:Nat){x:List T}{u:List Value}{F:List Nat}{t:T},a8 P w ok ν st x u F→x[c]?=some t →
 ∃v A Ft B,u[c]?=some v∧F=A++(Ft++B)∧kG P w ok ν st t v Ft ∧
  ∀(ok':Nat→Prop)(ν':Nat→Nm)(st':Nat→Option En),(∀b,ok b→b<w.heap.size→ok' b∧w.heap[b]?=w.heap[b]?)→lL st st' ν ν'→∀(t':T)(Ft':List Nat),kG P w ok' ν' st' t' v Ft'→a8 P w ok' ν' st' (x.set c t') u (A++(Ft'++B))
 | _,[],_,_,_,_,h=>by simp at h
 | _,_::_,[],_,_,h,_=>by simp[a8] at h
 | 0,a::x,v::u,F,t,h,ht=>by
   simp only[a8] at h
   obtain⟨F1,F2,h1,h2,rfl⟩:=h
   obtain rfl:a=t:=by simpa using ht
   refine⟨v,[],F1,F2,rfl,rfl,h1,fun ok' ν' st' hw hm t' Ft' h'=>?_⟩
   simp only[iC,a8,bC]
   exact⟨Ft',F2,h',a8.frame hw (aJ _) hm _ _ _ h2 fun _ _=>rfl,rfl⟩
 | c+1,a::x,v::u,F,t,h,ht=>by
   simp only[a8] at h
   obtain⟨F1,F2,h1,h2,rfl⟩:=h
   obtain⟨v',A,Ft,B,k1,rfl,k2,k3⟩:=a8.zip c h2 (by simpa using ht)
   refine⟨v',F1++A,Ft,B,by simpa using k1,by simp,k2,fun ok' ν' st' hw hm t' Ft' h'=>?_⟩
   simp only[n7,a8]
   exact⟨F1,_,kG.frame hw (aJ _) hm _ _ _ h1 fun _ _=>rfl,k3 ok' ν' st' hw hm t' Ft' h',by simp⟩
theorem bx.zip:∀(i c:Nat){xs:List (List T)}{us:List (List Value)}{F:List Nat}{t:T},bx P w ok ν st xs us F→i<xs.length→(oN xs i)[c]?=some t →
 ∃v A Ft B,F=A++(Ft++B)∧kG P w ok ν st t v Ft ∧
  ∀(ok':Nat→Prop)(ν':Nat→Nm)(st':Nat→Option En),(∀b,ok b→b<w.heap.size→ok' b∧w.heap[b]?=w.heap[b]?)→lL st st' ν ν'→∀(t':T)(Ft':List Nat),kG P w ok' ν' st' t' v Ft'→bx P w ok' ν' st' (xs.set i ((oN xs i).set c t')) us (A++(Ft'++B))
 | _,_,[],_,_,_,_,h,_=>by simp at h
 | _,_,_::_,[],_,_,h,_,_=>by simp[bx] at h
 | 0,c,a::x,v::u,F,t,h,_,ht=>by
   simp only[bx] at h
   obtain⟨F1,F2,h1,h2,rfl⟩:=h
   have ht:a[c]?=some t:=ht
   obtain⟨v',A,Ft,B,k1,rfl,k2,k3⟩:=a8.zip c h1 ht
   refine⟨v',A,Ft,B++F2,by simp,k2,fun ok' ν' st' hw hm t' Ft' h'=>?_⟩
   show bx P w ok' ν' st' (a.set c t'::x) (v::u) _
   simp only[bx]
   exact⟨_,F2,k3 ok' ν' st' hw hm t' Ft' h',bx.frame hw (aJ _) hm _ _ _ h2 fun _ _=>rfl,by simp⟩
 | i+1,c,a::x,v::u,F,t,h,hi,ht=>by
   simp only[bx] at h
   obtain⟨F1,F2,h1,h2,rfl⟩:=h
   have ht:(oN x i)[c]?=some t:=by simpa[oN] using ht
   obtain⟨v',A,Ft,B,rfl,k2,k3⟩:=bx.zip i c h2 (by simpa using hi) ht
   refine⟨v',F1++A,Ft,B,by simp,k2,fun ok' ν' st' hw hm t' Ft' h'=>?_⟩
   have e:oN (a::x) (i+1)=oN x i:=by simp[oN]
   rw[e]
   simp only[n7,bx]
   exact⟨F1,_,a8.frame hw (aJ _) hm _ _ _ h1 fun _ _=>rfl,k3 ok' ν' st' hw hm t' Ft' h',by simp⟩
end
theorem Ug{hb A Ft B:List Nat}(h:(hb++(A++(Ft++B))).Nodup):(hb++(A++B)).Nodup∧Ft.Nodup∧∀b∈hb++(A++B),b∉Ft:=by
 have hp:(hb++(A++(Ft++B))).Perm (Ft++(hb++(A++B))):=by
  rw[List.perm_iff_count]
  intro a
  simp only[List.count_append]
  omega
 have h':=hp.nodup_iff.1 h
 obtain⟨h1,h2,h3⟩:=dt.1 h'
 exact⟨h2,h1,fun b hb1 hb2=>h3 b hb2 b hb1 rfl⟩
theorem Pc{hb A Ft B:List Nat}(h1:(hb++(A++B)).Nodup)(h2:Ft.Nodup)(h3:∀b∈hb++(A++B),b∉Ft):(hb++(A++(Ft++B))).Nodup:=by
 have hp:(hb++(A++(Ft++B))).Perm (Ft++(hb++(A++B))):=by
  rw[List.perm_iff_count]
  intro a
  simp only[List.count_append]
  omega
 exact hp.nodup_iff.2 (dt.2 ⟨h2,h1,fun a ha b hb hab=>h3 b hb (hab▸ha)⟩)
section
variable{P:Program}{g:G}
theorem ZW(k i c:Nat){e e':TypeId}{xs ys:List (List T)}(hk:g.at k=some (.fw e xs))(hi:i<xs.length)(hc:(oN xs i)[c]?=some (.own e' ys)) :
 AR P g ⟨g.sl,db (db g.st k (some (.fw e (xs.set i ((oN xs i).set c (.ref g.new)))))) g.new (some (.fw e' ys))⟩:=by
 intro X ν a w hs
 obtain⟨us,ho,hul,jl,hB,hnd⟩:=vn hs hk
 obtain⟨v,A,Ft,B,hF,hv,hz⟩:=jl.zip i c hi hc
 have hv0:=hv
 simp only[kG] at hv
 obtain⟨us',F1,q1,q2,q3,q4,rfl⟩:=hv
 rw[hF] at hnd
 obtain⟨n1,n2,n3⟩:=Ug hnd
 have hnew:=g.lX
 have hkn:k≠g.new:=fun h=>by rw[←h,hk] at hnew;cases hnew
 generalize hg':(⟨g.sl,db (db g.st k (some (.fw e (xs.set i ((oN xs i).set c (.ref g.new)))))) g.new (some (.fw e' ys))⟩:G)=g'
 have lq:∀j,g'.at j=if j=g.new then some (.fw e' ys) else if j=k then some (.fw e (xs.set i ((oN xs i).set c (.ref g.new)))) else g.at j:=by
  intro j
  rw[←hg']
  show da (db (db g.st k _) g.new _) j=_
  rw[gF,gF]
  rfl
 refine⟨fun j=>if j=g.new then⟨v,F1⟩ else if j=k then⟨(ν k).v,A++B⟩ else ν j,?_⟩
 generalize hν':(fun j=>if j=g.new then(⟨v,F1⟩:Nm) else if j=k then⟨(ν k).v,A++B⟩ else ν j)=ν'
 have hνn:ν' g.new=⟨v,F1⟩:=by rw[←hν'];simp
 have hνk:ν' k=⟨(ν k).v,A++B⟩:=by rw[←hν'];simp[hkn]
 have hνo:∀j,j≠g.new→j≠k→ν' j=ν j:=fun j h1 h2=>by rw[←hν'];simp[h1,h2]
 have hm:lL g.at g'.at ν ν':=by
  intro j hj
  have h1:j≠g.new:=fun h=>by rw[h,hnew] at hj;cases hj
  refine⟨?_,?_⟩
  ·by_cases h2:j=k
   ·rw[h2,hνk]
   ·rw[hνo j h1 h2]
  ·rw[lq,if_neg h1]
   split
   ·rfl
   ·exact hj
 have hasn:∀b,(ν' g.new).has b↔b∈hb v++F1:=fun b=>by rw[hνn];exact oO
 have hask:∀b,(ν' k).has b↔b∈hb (ν k).v++(A++B):=fun b=>by rw[hνk];exact oO
 have hasK:∀b,(ν k).has b↔b∈hb (ν k).v++(A++((hb v++F1)++B)):=fun b=>by rw[oO,hF]
 have sub1:∀b,(ν' g.new).has b→(ν k).has b:=fun b h=>(hasK b).2 (by
  have:=(hasn b).1 h
  simp only[aP] at this⊢
  rcases this with h|h
  ·exact .inr (.inr (.inl (.inl h)))
  ·exact .inr (.inr (.inl (.inr h))))
 have sub2:∀b,(ν' k).has b→(ν k).has b:=fun b h=>(hasK b).2 (by
  have:=(hask b).1 h
  simp only[aP] at this⊢
  rcases this with h|h|h
  ·exact .inl h
  ·exact .inr (.inl h)
  ·exact .inr (.inr (.inr h)))
 have back:∀j e1,g'.at j=some e1→e1.live=true→∀b,(ν' j).has b→∃j0 e0,g.at j0=some e0∧e0.live=true∧(ν j0).has b∧(j≠g.new→j0=j)∧(j=g.new→j0=k):=by
  intro j e1 h1 h2 b hb1
  by_cases hj:j=g.new
  ·subst hj
   exact⟨k,_,hk,rfl,sub1 b hb1,fun h=>absurd rfl h,fun _=>rfl⟩
  ·by_cases lN:j=k
   ·subst lN
    exact⟨j,_,hk,rfl,sub2 b hb1,fun _=>rfl,fun h=>absurd h hj⟩
   ·rw[lq,if_neg hj,if_neg lN] at h1
    rw[hνo j hj lN] at hb1
    exact⟨j,e1,h1,h2,hb1,fun _=>rfl,fun h=>absurd h hj⟩
 have iz:∀b,Own ν' g'.at b→Own ν g.at b:=by
  rintro b ⟨j,e1,h1,h2,h3⟩
  obtain⟨j0,e0,k1,k2,k3,_⟩:=back j e1 h1 h2 b h3
  exact⟨j0,e0,k1,k2,k3⟩
 have hw:∀b,cG X ν g.at b→b<w.heap.size→cG X ν' g'.at b∧w.heap[b]?=w.heap[b]?:=fun b hb _=>⟨⟨fun ho=>hb.1 (iz b ho),hb.2⟩,rfl⟩
 refine hs.XC (g':=g') (ν':=ν') (fun _=>False) (sH.refl _ w) (fun _ hb=>hb.elim) hm ?_ ?_ ?_ ?_ ?_ ?_ rfl
 ·intro j e1 hj
  rw[lq] at hj
  by_cases hjn:j=g.new
  ·rw[if_pos hjn] at hj
   obtain rfl:=Option.some.inj hj
   subst hjn
   refine .inr ⟨?_,?_⟩
   ·rw[hνn]
    exact kG.frame hw (aJ _) hm _ _ _ hv0 fun _ _=>rfl
   ·rw[hνn];exact n2
  ·rw[if_neg hjn] at hj
   by_cases lN:j=k
   ·rw[if_pos lN] at hj
    obtain rfl:=Option.some.inj hj
    subst lN
    refine .inr (Ac (us:=us) ?_ hul ?_ (by simpa using hB) ?_)
    ·rw[hνk];simpa using ho
    ·rw[hνk]
     have:=hz _ ν' g'.at hw hm (.ref g.new) [] (by
      simp only[kG,and_true]
      exact⟨by rw[lq,if_pos rfl];rfl,by rw[hνn]⟩)
     simpa using this
    ·rw[hνk];exact n1
   ·rw[if_neg lN] at hj
    exact .inl ⟨hj,hνo j hjn lN,fun _ _ _ hb=>hb⟩
 ·intro j e1 b h1 h2 h3
  exact .inl (iz b ⟨j,e1,h1,h2,h3⟩)
 ·intro j j' e1 e2 b h1 h2 h3 h4 h5 h6
  obtain⟨j0,e0,k1,k2,k3,k4,k5⟩:=back j e1 h1 h3 b h5
  obtain⟨j1,e3,l1,l2,l3,l4,l5⟩:=back j' e2 h2 h4 b h6
  have hjj:=hs.inj j0 j1 e0 e3 b k1 l1 k2 l2 k3 l3
  by_cases hj:j=g.new
  ·by_cases hj':j'=g.new
   ·rw[hj,hj']
   ·have e1:=k5 hj
    have e2:=l4 hj'
    have e3:j'=k:=by rw[←e2,←hjj,e1]
    subst hj e3
    exact(n3 b ((hask b).1 h6) ((hasn b).1 h5)).elim
  ·by_cases hj':j'=g.new
   ·have e1:=k4 hj
    have e2:=l5 hj'
    have e3:j=k:=by rw[←e1,hjj,e2]
    subst hj' e3
    exact(n3 b ((hask b).1 h5) ((hasn b).1 h6)).elim
   ·rw[←k4 hj,←l4 hj',hjj]
 ·intro j hj
  rw[lq] at hj
  by_cases hjn:j=g.new
  ·right
   rw[hjn,hνn]
   exact row_one q1
  ·rw[if_neg hjn] at hj
   by_cases lN:j=k
   ·exact .inl (by rw[lN,hk];rfl)
   ·rw[if_neg lN] at hj
    exact .inl hj
 ·rw[←hg'];exact hs.size
 ·intro t
  exact .inl ⟨by rw[←hg'],rfl⟩
theorem abV(k i c j:Nat){e e':TypeId}{xs ys:List (List T)}(hk:g.at k=some (.fw e xs))(hi:i<xs.length)(hc:(oN xs i)[c]?=some (.ref j))(hj:g.at j=some (.fw e' ys))(lN:j≠k) :
 AR P g ⟨g.sl,db (db g.st k (some (.fw e (xs.set i ((oN xs i).set c (.own e' ys)))))) j (some .dead)⟩:=by
 intro X ν a w hs
 obtain⟨us,ho,hul,jl,hB,hnd⟩:=vn hs hk
 obtain⟨v,A,Ft,B,hF,hv,hz⟩:=jl.zip i c hi hc
 simp only[kG] at hv
 obtain⟨hv1,rfl,rfl⟩:=hv
 obtain⟨hen,hndj⟩:=hs.en j _ hj
 simp only[bC] at hF
 rw[hF] at hnd
 generalize hg':(⟨g.sl,db (db g.st k (some (.fw e (xs.set i ((oN xs i).set c (.own e' ys)))))) j (some .dead)⟩:G)=g'
 have lq:∀l,g'.at l=if l=j then some .dead else if l=k then some (.fw e (xs.set i ((oN xs i).set c (.own e' ys)))) else g.at l:=by
  intro l
  rw[←hg']
  show da (db (db g.st k _) j _) l=_
  rw[gF,gF]
  rfl
 refine⟨fun l=>if l=k then⟨(ν k).v,A++((hb (ν j).v++(ν j).f)++B)⟩ else ν l,?_⟩
 generalize hν':(fun l=>if l=k then(⟨(ν k).v,A++((hb (ν j).v++(ν j).f)++B)⟩:Nm) else ν l)=ν'
 have hνk:ν' k=⟨(ν k).v,A++((hb (ν j).v++(ν j).f)++B)⟩:=by rw[←hν'];simp
 have hνo:∀l,l≠k→ν' l=ν l:=fun l h1=>by rw[←hν'];simp[h1]
 have hm:lL g.at g'.at ν ν':=by
  intro l hl
  refine⟨?_,?_⟩
  ·by_cases h2:l=k
   ·rw[h2,hνk]
   ·rw[hνo l h2]
  ·rw[lq]
   split
   ·rfl
   ·split
    ·rfl
    ·exact hl
 have hask:∀b,(ν' k).has b→(ν k).has b∨(ν j).has b:=fun b h=>by
  rw[hνk,oO] at h
  rw[oO,oO,hF]
  simp only[aP] at h⊢
  rcases h with h|h|(h|h)|h
  ·exact .inl (.inl h)
  ·exact .inl (.inr (.inl h))
  ·exact .inr (.inl h)
  ·exact .inr (.inr h)
  ·exact .inl (.inr (.inr h))
 have back:∀l e1,g'.at l=some e1→e1.live=true→∀b,(ν' l).has b→(l=k∧((ν k).has b∨(ν j).has b))∨(l≠k∧l≠j∧g.at l=some e1∧(ν l).has b):=by
  intro l e1 h1 h2 b hb1
  rw[lq] at h1
  by_cases hlj:l=j
  ·rw[if_pos hlj] at h1
   obtain rfl:=Option.some.inj h1
   cases h2
  ·rw[if_neg hlj] at h1
   by_cases hlk:l=k
   ·subst hlk
    exact .inl ⟨rfl,hask b hb1⟩
   ·rw[if_neg hlk] at h1
    rw[hνo l hlk] at hb1
    exact .inr ⟨hlk,hlj,h1,hb1⟩
 have iz:∀b,Own ν' g'.at b→Own ν g.at b:=by
  rintro b ⟨l,e1,h1,h2,h3⟩
  rcases back l e1 h1 h2 b h3 with⟨_,h|h⟩|⟨_,_,h4,h5⟩
  ·exact⟨k,_,hk,rfl,h⟩
  ·exact⟨j,_,hj,rfl,h⟩
  ·exact⟨l,e1,h4,h2,h5⟩
 have hw:∀b,cG X ν g.at b→b<w.heap.size→cG X ν' g'.at b∧w.heap[b]?=w.heap[b]?:=fun b hb _=>⟨⟨fun ho=>hb.1 (iz b ho),hb.2⟩,rfl⟩
 refine hs.XC (g':=g') (ν':=ν') (fun _=>False) (sH.refl _ w) (fun _ hb=>hb.elim) hm ?_ ?_ ?_ ?_ ?_ ?_ rfl
 ·intro l e1 hl
  rw[lq] at hl
  by_cases hlj:l=j
  ·rw[if_pos hlj] at hl
   obtain rfl:=Option.some.inj hl
   exact .inr trivial
  ·rw[if_neg hlj] at hl
   by_cases hlk:l=k
   ·rw[if_pos hlk] at hl
    obtain rfl:=Option.some.inj hl
    subst hlk
    refine .inr (Ac (us:=us) ?_ hul ?_ (by simpa using hB) ?_)
    ·rw[hνk];simpa using ho
    ·rw[hνk]
     exact hz _ ν' g'.at hw hm (.own e' ys) _ (kG.frame hw (aJ _) hm _ _ _ hen fun _ _=>rfl)
    ·rw[hνk]
     refine Pc hnd hndj fun b h1 h2=>?_
     refine lN (hs.inj j l _ _ b hj hk rfl rfl (oO.2 h2) (oO.2 ?_))
     rw[hF];exact h1
   ·rw[if_neg hlk] at hl
    exact .inl ⟨hl,hνo l hlk,fun _ _ _ hb=>hb⟩
 ·intro l e1 b h1 h2 h3
  exact .inl (iz b ⟨l,e1,h1,h2,h3⟩)
 ·intro l l' e1 e2 b h1 h2 h3 h4 h5 h6
  rcases back l e1 h1 h3 b h5 with⟨rfl,p1⟩|⟨p1,p2,p3,p4⟩
  ·rcases back l' e2 h2 h4 b h6 with⟨rfl,q1⟩|⟨q1,q2,q3,q4⟩
   ·rfl
   ·rcases p1 with p1|p1
    ·exact hs.inj l l' _ e2 b hk q3 rfl h4 p1 q4
    ·exact(q2 (hs.inj l' j e2 _ b q3 hj h4 rfl q4 p1)).elim
  ·rcases back l' e2 h2 h4 b h6 with⟨rfl,q1⟩|⟨q1,q2,q3,q4⟩
   ·rcases q1 with q1|q1
    ·exact hs.inj l l' e1 _ b p3 hk h3 rfl p4 q1
    ·exact(p2 (hs.inj l j e1 _ b p3 hj h3 rfl p4 q1)).elim
   ·exact hs.inj l l' e1 e2 b p3 q3 h3 h4 p4 q4
 ·intro l hl
  rw[lq] at hl
  by_cases hlj:l=j
  ·exact .inl (by rw[hlj,hj];rfl)
  ·rw[if_neg hlj] at hl
   by_cases hlk:l=k
   ·exact .inl (by rw[hlk,hk];rfl)
   ·rw[if_neg hlk] at hl
    exact .inl hl
 ·rw[←hg'];exact hs.size
 ·intro t
  exact .inl ⟨by rw[←hg'],rfl⟩
theorem AR.refl(g:G):AR P g g:=fun _ ν _ _ h=>⟨ν,h⟩
theorem AR.N6{n0:Nat}{g g':G}(h:AR P g g'):pr P n0 g g':=fun X ν a w _ hs=>h X ν a w hs
theorem abd(j:Nat){e:TypeId}{xs:List (List D)}(hj:g.at j=some (.acc e xs)):AR P g ⟨g.sl,db g.st j (some (.fw e (lift xs)))⟩:=fun _ ν _ _ h=>⟨ν,h.lift hj⟩
theorem CH:∀{l:List (Option En)}{k:Nat}{e:En},da l k=some e→db l k (some e)=l
 | [],k,e,h=>by cases k<;>simp[da] at h
 | _::_,0,_,h=>by simp only[da] at h;simp[db,h]
 | a::l,k+1,e,h=>by simp only[da] at h;simp[db,CH h]
theorem tw:∀{l:List (Option En)}{k:Nat}(x:Option En),k<l.length→(db l k x).length=l.length
 | [],k,_,h=>by simp at h
 | _::_,0,_,_=>rfl
 | a::l,k+1,x,h=>by simp[db,tw x (by simpa using h)]
theorem OD:∀(l:List (Option En))(x:Option En),db l l.length x=l++[x]
 | [],_=>rfl
 | a::l,x=>by simp[db,OD l x]
theorem FH:∀{l m:List (Option En)}{k:Nat}(x:Option En),k<l.length→db (l++m) k x=db l k x++m
 | [],_,k,_,h=>by simp at h
 | _::_,_,0,_,_=>rfl
 | a::l,m,k+1,x,h=>by simp[db,FH x (by simpa using h)]
theorem yr:∀(l:List (Option En))(j k:Nat)(x y:Option En),j≠k→db (db l j x) k y=db (db l k y) j x
 | [],0,0,_,_,h=>absurd rfl h
 | [],0,k+1,_,_,_=>rfl
 | [],j+1,0,_,_,_=>rfl
 | [],j+1,k+1,x,y,h=>by simp[db,yr [] j k x y (by omega)]
 | _::_,0,0,_,_,h=>absurd rfl h
 | _::_,0,k+1,_,_,_=>rfl
 | _::_,j+1,0,_,_,_=>rfl
 | a::l,j+1,k+1,x,y,h=>by simp[db,yr l j k x y (by omega)]
def qd:Nat→List T→List T
 | _,[]=>[]
 | n,.own _ _::ts=>.ref n::qd (n+1) ts
 | n,.leaf d::ts=>.leaf d::qd n ts
 | n,.ref j::ts=>.ref j::qd n ts
def IW:List T→List (Option En)
 | []=>[]
 | .own e xs::ts=>some (.fw e xs)::IW ts
 | .leaf _::ts=>IW ts
 | .ref _::ts=>IW ts
def apE:List (Option En)→List (Option En)→List (Option En)
 | [],m=>m
 | a::l,m=>a::apE l m
theorem KK:∀(l m:List (Option En)),apE l m=l++m
 | [],_=>rfl
 | a::l,m=>by simp[apE,KK l m]
theorem Au{α:Type}(pre:List α)(a b:α)(r:List α):(pre++a::r).set pre.length b=pre++b::r:=by
 rw[List.set_append_right _ _ (aJ _),Nat.sub_self,iC]
theorem wo{k i:Nat}{e:TypeId}:∀(rest pre:List T)(g:G)(xs:List (List T)),g.at k=some (.fw e xs)→i<xs.length→oN xs i=pre++rest →
 AR P g ⟨g.sl,apE (db g.st k (some (.fw e (xs.set i (pre++qd g.new rest))))) (IW rest)⟩
 | [],pre,g,xs,hk,hi,hr=>by
   have e1:xs.set i pre=xs:=by
    rw[bm] at hr
    rw[←hr]
    refine mz fun j=>?_
    rw[kC]
    by_cases hj:i=j
    ·subst hj;rw[if_pos rfl,if_pos hi,UM hi]
    ·rw[if_neg hj]
   simp only[qd,IW,bm,KK,e1]
   rw[CH hk]
   exact AR.refl g
 | .leaf d::ts,pre,g,xs,hk,hi,hr=>by
   have:=wo ts (pre++[.leaf d]) g xs hk hi (by simpa using hr)
   simpa[qd,IW] using this
 | .ref d::ts,pre,g,xs,hk,hi,hr=>by
   have:=wo ts (pre++[.ref d]) g xs hk hi (by simpa using hr)
   simpa[qd,IW] using this
 | .own e' ys::ts,pre,g,xs,hk,hi,hr=>by
   have hkl:k<g.st.length:=nV (by rw[show da g.st k=_ from hk];rfl)
   have hn:g.new=g.st.length:=nP g.st
   have h1:=ZW (P:=P) k i pre.length hk hi (e':=e') (ys:=ys) (by rw[hr];simp)
   have e1:(oN xs i).set pre.length (.ref g.new)=pre++ .ref g.new::ts:=by rw[hr];exact Au _ _ _ _
   rw[e1] at h1
   have e2:db (db g.st k (some (.fw e (xs.set i (pre++ .ref g.new::ts))))) g.new (some (.fw e' ys))=db g.st k (some (.fw e (xs.set i (pre++ .ref g.new::ts))))++[some (.fw e' ys)]:=by
    generalize some (En.fw e (xs.set i (pre++ .ref g.new::ts)))=z
    rw[hn,←tw z hkl,OD]
   rw[e2] at h1
   refine h1.trans ?_
   have hk1:(⟨g.sl,db g.st k (some (.fw e (xs.set i (pre++ .ref g.new::ts))))++[some (.fw e' ys)]⟩:G).at k=some (.fw e (xs.set i (pre++ .ref g.new::ts))):=by
    show da _ k=_
    rw[←FH _ hkl,gF,if_pos rfl]
   have hr1:oN (xs.set i (pre++ .ref g.new::ts)) i=pre++ .ref g.new::ts:=by
    simp[oN,ct,hi]
   have:=wo ts (pre++[.ref g.new]) ⟨g.sl,db g.st k (some (.fw e (xs.set i (pre++ .ref g.new::ts))))++[some (.fw e' ys)]⟩ _ hk1 (by simpa using hi) (by rw[hr1];simp)
   have hn2:(⟨g.sl,db g.st k (some (.fw e (xs.set i (pre++ .ref g.new::ts))))++[some (.fw e' ys)]⟩:G).new=g.new+1:=by
    rw[G.new,nP,hn]
    simp[tw _ hkl]
   rw[hn2] at this
   simp only[KK,List.set_set] at this
   rw[FH _ (by rw[tw _ hkl];exact hkl),pL] at this
   simpa[qd,IW,KK] using this
theorem Wy(k i:Nat){e:TypeId}{xs:List (List T)}(row:List T)(hk:g.at k=some (.fw e xs))(hi:i<xs.length)(hr:oN xs i=row) :
 AR P g ⟨g.sl,apE (db g.st k (some (.fw e (xs.set i (qd g.new row))))) (IW row)⟩:=by
 have:=wo (P:=P) (k:=k) (i:=i) row [] g xs hk hi (by simpa using hr)
 simpa using this
def fG(k:Nat):List (Option En)→List T→List T
 | _,[]=>[]
 | st,.ref j::ts=>match Im j k,da st j with
   | false,some (.fw e ys)=>.own e ys::fG k (db st j (some .dead)) ts
   | false,some (.acc e ys)=>.own e (lift ys)::fG k (db st j (some .dead)) ts
   | _,_=>.ref j::fG k st ts
 | st,.leaf d::ts=>.leaf d::fG k st ts
 | st,.own e ys::ts=>.own e ys::fG k st ts
def o7(k:Nat):List (Option En)→List T→List (Option En)
 | st,[]=>st
 | st,.ref j::ts=>match Im j k,da st j with
   | false,some (.fw _ _)=>o7 k (db st j (some .dead)) ts
   | false,some (.acc _ _)=>o7 k (db st j (some .dead)) ts
   | _,_=>o7 k st ts
 | st,.leaf _::ts=>o7 k st ts
 | st,.own _ _::ts=>o7 k st ts
theorem W4{j k:Nat}(h:Im j k=false):j≠k:=fun e=>by subst e;rw[HR] at h;cases h
theorem Tm{k:Nat}(x:Option En):∀(ts:List T)(st:List (Option En)),fG k (db st k x) ts=fG k st ts∧o7 k (db st k x) ts=db (o7 k st ts) k x
 | [],st=>⟨rfl,rfl⟩
 | .leaf d::ts,st=>by
   obtain⟨h1,h2⟩:=Tm (k:=k) x ts st
   exact⟨by simp[fG,h1],by simp[o7,h2]⟩
 | .own e ys::ts,st=>by
   obtain⟨h1,h2⟩:=Tm (k:=k) x ts st
   exact⟨by simp[fG,h1],by simp[o7,h2]⟩
 | .ref j::ts,st=>by
   simp only[fG,o7]
   cases hj:Im j k with
   | true=>
     obtain⟨h1,h2⟩:=Tm (k:=k) x ts st
     exact⟨by simp[h1],by simp[h2]⟩
   | false=>
     have jD:=W4 hj
     rw[gF,if_neg jD]
     obtain⟨h1,h2⟩:=Tm (k:=k) x ts st
     obtain⟨h3,h4⟩:=Tm (k:=k) x ts (db st j (some .dead))
     rw[yr st j k _ _ jD] at h3 h4
     cases da st j with
     | none=>exact⟨by simp[h1],by simp[h2]⟩
     | some en=>cases en with
       | box cs=>exact⟨by simp[h1],by simp[h2]⟩
       | dead=>exact⟨by simp[h1],by simp[h2]⟩
       | map sR=>exact⟨by simp[h1],by simp[h2]⟩
       | acc e ys=>exact⟨by simp[h3],by simp[h4]⟩
       | fw e ys=>exact⟨by simp[h3],by simp[h4]⟩
theorem uv{k i:Nat}{e:TypeId}:∀(rest pre:List T)(g:G)(xs:List (List T)),g.at k=some (.fw e xs)→i<xs.length→oN xs i=pre++rest →
 AR P g ⟨g.sl,db (o7 k g.st rest) k (some (.fw e (xs.set i (pre++fG k g.st rest))))⟩
 | [],pre,g,xs,hk,hi,hr=>by
   have e1:xs.set i pre=xs:=by
    rw[bm] at hr
    rw[←hr]
    refine mz fun j=>?_
    rw[kC]
    by_cases hj:i=j
    ·subst hj;rw[if_pos rfl,if_pos hi,UM hi]
    ·rw[if_neg hj]
   simp only[fG,o7,bm,e1]
   rw[CH hk]
   exact AR.refl g
 | .leaf d::ts,pre,g,xs,hk,hi,hr=>by
   have:=uv ts (pre++[.leaf d]) g xs hk hi (by simpa using hr)
   simpa[fG,o7] using this
 | .own e' ys::ts,pre,g,xs,hk,hi,hr=>by
   have:=uv ts (pre++[.own e' ys]) g xs hk hi (by simpa using hr)
   simpa[fG,o7] using this
 | .ref j::ts,pre,g,xs,hk,hi,hr=>by
   have stay:(fG k g.st (.ref j::ts)= .ref j::fG k g.st ts)→(o7 k g.st (.ref j::ts)=o7 k g.st ts)→AR P g ⟨g.sl,db (o7 k g.st (.ref j::ts)) k (some (.fw e (xs.set i (pre++fG k g.st (.ref j::ts)))))⟩:=by
    intro h1 h2
    have:=uv ts (pre++[.ref j]) g xs hk hi (by simpa using hr)
    rw[h1,h2]
    simpa using this
   have go:∀(e':TypeId)(ys:List (List T))(g0:G),AR P g g0→g0.sl=g.sl→g0.at k=some (.fw e xs)→g0.at j=some (.fw e' ys)→j≠k→db g0.st j (some .dead)=db g.st j (some .dead) →
    AR P g ⟨g.sl,db (o7 k (db g.st j (some .dead)) ts) k (some (.fw e (xs.set i (pre++ .own e' ys::fG k (db g.st j (some .dead)) ts))))⟩:=by
    intro e' ys g0 hw hsl hk0 hj0 jD jC
    refine hw.trans ?_
    have h1:=abV (P:=P) k i pre.length j hk0 hi (by rw[hr];simp) hj0 jD
    have e1:(oN xs i).set pre.length (.own e' ys)=pre++ .own e' ys::ts:=by rw[hr];exact Au _ _ _ _
    rw[e1,←yr _ _ _ _ _ jD,jC,hsl] at h1
    refine h1.trans ?_
    have hk1:(⟨g.sl,db (db g.st j (some .dead)) k (some (.fw e (xs.set i (pre++ .own e' ys::ts))))⟩:G).at k=some (.fw e (xs.set i (pre++ .own e' ys::ts))):=by
     show da _ k=_
     rw[gF,if_pos rfl]
    have hr1:oN (xs.set i (pre++ .own e' ys::ts)) i=pre++ .own e' ys::ts:=by simp[oN,ct,hi]
    have:=uv ts (pre++[.own e' ys]) _ _ hk1 (by simpa using hi) (by rw[hr1];simp)
    obtain⟨q1,q2⟩:=Tm (k:=k) (some (.fw e (xs.set i (pre++ .own e' ys::ts)))) ts (db g.st j (some .dead))
    simp only[q1,q2,List.set_set,pL] at this
    simpa using this
   cases lN:Im j k with
   | true=>exact stay (by simp[fG,lN]) (by simp[o7,lN])
   | false=>
     have jD:=W4 lN
     cases hen:da g.st j with
     | none=>exact stay (by simp[fG,lN,hen]) (by simp[o7,lN,hen])
     | some en=>cases en with
       | box cs=>exact stay (by simp[fG,lN,hen]) (by simp[o7,lN,hen])
       | dead=>exact stay (by simp[fG,lN,hen]) (by simp[o7,lN,hen])
       | map sR=>exact stay (by simp[fG,lN,hen]) (by simp[o7,lN,hen])
       | fw e' ys=>
         have:=go e' ys g (AR.refl g) rfl hk hen jD rfl
         simpa[fG,o7,lN,hen] using this
       | acc e' ys=>
         have hk0:(⟨g.sl,db g.st j (some (.fw e' (lift ys)))⟩:G).at k=some (.fw e xs):=by
          show da _ k=_
          rw[gF,if_neg (Ne.symm jD)]
          exact hk
         have hj0:(⟨g.sl,db g.st j (some (.fw e' (lift ys)))⟩:G).at j=some (.fw e' (lift ys)):=by
          show da _ j=_
          rw[gF,if_pos rfl]
         have:=go e' (lift ys) ⟨g.sl,db g.st j (some (.fw e' (lift ys)))⟩ (abd j hen) rfl hk0 hj0 jD (pL _ _ _ _)
         simpa[fG,o7,lN,hen] using this
theorem wj(k i:Nat){e:TypeId}{xs:List (List T)}(row:List T)(hk:g.at k=some (.fw e xs))(hi:i<xs.length)(hr:oN xs i=row) :
 AR P g ⟨g.sl,db (o7 k g.st row) k (some (.fw e (xs.set i (fG k g.st row))))⟩:=by
 have:=uv (P:=P) (k:=k) (i:=i) row [] g xs hk hi (by simpa using hr)
 simpa using this
end
def apN:List Nat→List Nat→List Nat
 | [],m=>m
 | a::l,m=>a::apN l m
theorem Wo:∀(l m:List Nat),apN l m=l++m
 | [],_=>rfl
 | a::l,m=>by simp[apN,Wo l m]
def Zr:D→Bool
 | .val _=>true
 | .str _=>true
 | .dC _=>false
def Vn:List D→Bool
 | []=>true
 | d::ds=>Zr d&&Vn ds
def FX:List (List D)→Bool
 | []=>true
 | x::xs=>Vn x&&FX xs
mutual
def T.sd:T→Bool
 | .leaf d=>Zr d
 | .ref _=>true
 | .own _ xs=>Oy xs
def ZP:List T→Bool
 | []=>true
 | t::ts=>t.sd&&ZP ts
def Oy:List (List T)→Bool
 | []=>true
 | x::xs=>ZP x&&Oy xs
end
mutual
def PV.sd:PV→Bool
 | .any=>true
 | .undef=>true
 | .b6=>true
 | .d x=>Zr x
 | .agg cs=>Zs cs
 | .gV cs=>Zs cs
 | .ptr _ _=>true
 | .acc _=>true
 | .gM _ _ _ _=>true
 | .gy _ _ _=>false
 | .fn _ cs=>Zs cs
def Zs:List PV→Bool
 | []=>true
 | p::ps=>p.sd&&Zs ps
end
def En.sd:En→Bool
 | .box cs=>Zs cs
 | .acc _ xs=>FX xs
 | .fw _ xs=>Oy xs
 | .map _=>true
 | .dead=>true
def Il:List (Option En)→Bool
 | []=>true
 | none::es=>Il es
 | some e::es=>e.sd&&Il es
section
variable{P:Program}{w:World}{ok ok':Nat→Prop}{ν:Nat→Nm}{st:Nat→Option En}
theorem ij.sd{d:D}{v:Value}(h:Zr d=true)(hr:ij w ok d v):ij w ok' d v:=by
 cases hr with
 | val v h'=>exact .val v h'
 | str l h'=>exact .str l h'
 | nil=>cases h
 | emp a c h'=>cases h
 | dC=>cases h
mutual
theorem kG.sd:∀(t:T)(v:Value)(F:List Nat),t.sd=true→kG P w ok ν st t v F→kG P w ok' ν st t v F
 | .leaf d,v,F,hs,h=>by simp only[kG] at h⊢;simp only[T.sd] at hs;exact⟨h.1.sd hs,h.2⟩
 | .ref j,v,F,hs,h=>by simpa only[kG] using h
 | .own e xs,v,F,hs,h=>by
   simp only[T.sd] at hs
   simp only[kG] at h⊢
   obtain⟨us,F1,h1,h2,h3,h4,h5⟩:=h
   exact⟨us,F1,h1,h2,bx.sd xs us F1 hs h3,h4,h5⟩
theorem a8.sd:∀(ts:List T)(vs:List Value)(F:List Nat),ZP ts=true→a8 P w ok ν st ts vs F→a8 P w ok' ν st ts vs F
 | [],[],F,_,h=>by simpa only[a8] using h
 | [],_::_,F,_,h=>by simp[a8] at h
 | _::_,[],F,_,h=>by simp[a8] at h
 | t::ts,v::vs,F,hs,h=>by
   simp only[ZP,ai] at hs
   simp only[a8] at h⊢
   obtain⟨F1,F2,h1,h2,h3⟩:=h
   exact⟨F1,F2,kG.sd t v F1 hs.1 h1,a8.sd ts vs F2 hs.2 h2,h3⟩
theorem bx.sd:∀(xs:List (List T))(us:List (List Value))(F:List Nat),Oy xs=true→bx P w ok ν st xs us F→bx P w ok' ν st xs us F
 | [],[],F,_,h=>by simpa only[bx] using h
 | [],_::_,F,_,h=>by simp[bx] at h
 | _::_,[],F,_,h=>by simp[bx] at h
 | x::xs,u::us,F,hs,h=>by
   simp only[Oy,ai] at hs
   simp only[bx] at h⊢
   obtain⟨F1,F2,h1,h2,h3⟩:=h
   exact⟨F1,F2,a8.sd x u F1 hs.1 h1,bx.sd xs us F2 hs.2 h2,h3⟩
end
mutual
theorem aF.sd:∀(p:PV)(v:Value),p.sd=true→aF w ok ν st p v→aF w ok' ν st p v
 | .any,_,_,_=>by simp only[aF]
 | .undef,_,_,h=>by simpa only[aF] using h
 | .b6,_,_,h=>by simpa only[aF] using h
 | .d x,v,hs,h=>by simp only[aF] at h⊢;exact h.sd hs
 | .agg cs,v,hs,h=>by
   simp only[aF] at h⊢
   obtain⟨vs,e,h⟩:=h
   exact⟨vs,e,aA.sd cs vs (by simpa only[PV.sd] using hs) h⟩
 | .gV cs,v,hs,h=>by
   simp only[aF] at h⊢
   obtain⟨vs,e,h⟩:=h
   exact⟨vs,e,aA.sd cs vs (by simpa only[PV.sd] using hs) h⟩
 | .ptr _ _,_,_,h=>by simpa only[aF] using h
 | .acc _,_,_,h=>by simpa only[aF] using h
 | .gM _ _ _ _,_,_,h=>by simpa only[aF] using h
 | .gy _ _ _,_,hs,_=>by simp[PV.sd] at hs
 | .fn f cs,v,hs,h=>by
   simp only[aF] at h⊢
   obtain⟨vs,e,h⟩:=h
   exact⟨vs,e,aA.sd cs vs (by simpa only[PV.sd] using hs) h⟩
theorem aA.sd:∀(ps:List PV)(vs:List Value),Zs ps=true→aA w ok ν st ps vs→aA w ok' ν st ps vs
 | [],[],_,_=>by simp[aA]
 | [],_::_,_,h=>by simp[aA] at h
 | _::_,[],_,h=>by simp[aA] at h
 | p::ps,v::vs,hs,h=>by
   simp only[Zs,ai] at hs
   simp only[aA] at h⊢
   exact⟨aF.sd p v hs.1 h.1,aA.sd ps vs hs.2 h.2⟩
end
theorem X2:∀{xs:List (List D)},FX xs=true→∀(i j:Nat)(x:List D)(d:D),xs[i]?=some x→x[j]?=some d→Zr d=true:=by
 have h1:∀{x:List D},Vn x=true→∀(j:Nat)(d:D),x[j]?=some d→Zr d=true:=by
  intro x
  induction x with
  | nil=>intro _ j d h;simp at h
  | cons e x ih=>
    intro h j d hd
    simp only[Vn,ai] at h
    cases j with
    | zero=>obtain rfl:e=d:=by simpa using hd
            exact h.1
    | succ j=>exact ih h.2 j d (by simpa using hd)
 intro xs
 induction xs with
 | nil=>intro _ i j x d h;simp at h
 | cons y xs ih=>
   intro h i j x d hx hd
   simp only[FX,ai] at h
   cases i with
   | zero=>obtain rfl:y=x:=by simpa using hx
           exact h1 h.1 j d hd
   | succ i=>exact ih h.2 i j x d (by simpa using hx) hd
theorem ld.sd{k:Nat}{e:En}(hs:e.sd=true)(h:ld P w ok ν st k e):ld P w ok' ν st k e:=by
 cases e with
 | dead=>trivial
 | box cs=>
   obtain⟨b,vs,T,h1,h2,h3,h4⟩:=h
   exact⟨b,vs,T,h1,h2,aA.sd cs vs (by simpa only[En.sd] using hs) h3,h4⟩
 | acc e xs=>
   obtain⟨us,h1,h2,h3,h4⟩:=h
   exact⟨us,h1,⟨h2.len,h2.hx,h2.hu,fun i j x u d v k1 k2 k3 k4=>(h2.hr i j x u d v k1 k2 k3 k4).sd (X2 (by simpa only[En.sd] using hs) i j x d k1 k3)⟩,h3,h4⟩
 | fw e xs=>exact⟨kG.sd (.own e xs) _ _ (by simpa only[T.sd,En.sd] using hs) h.1,h.2⟩
 | map sR=>exact h
theorem L7:∀{es:List (Option En)},Il es=true→∀(i:Nat)(e:En),da es i=some e→e.sd=true
 | [],_,i,e,h=>by cases i<;>simp[da] at h
 | none::es,hs,0,e,h=>by simp[da] at h
 | none::es,hs,i+1,e,h=>L7 (es:=es) (by simpa only[Il] using hs) i e (by simpa[da] using h)
 | some a::es,hs,0,e,h=>by
   simp only[Il,ai] at hs
   obtain rfl:a=e:=by simpa[da] using h
   exact hs.1
 | some a::es,hs,i+1,e,h=>by
   simp only[Il,ai] at hs
   exact L7 hs.2 i e (by simpa[da] using h)
end
theorem VX{P:Program}{o:Oper}{g:G}{nx:Operand}{xs:List Operand}{tys:Array TypeId}{d:Nat}(ho:o.op= .call ⟨.value nx,⟨xs⟩,tys⟩)(hd:o.dst=some d){f:FuncId}{cap:List PV}(hfn:g.ev nx= .fn f cap)
 (ks m:List Nat) (cX:List PV) (res:PV) (st':List (Option En)) (hC:C P f cX [] (bD res st')) (o0:iR g ks (xs.map g.ev++cap) cX) (hsd:res.sd=true) (hse:Il st'=true) (hm:m.Nodup) (hnew:iV g 0 m) (hml:st'.length≤m.length)
 (X:Cx) (ν:Nat→Nm) (a:Act) (w:World) (next:Act→World→Prop) (Q:Exit→Act→World→Prop) (hs:Sat P X ν g a w)
 (hn:∀ν' a' w',Sat P X ν' ⟨lY g.sl d (res.mo m),yy g.st (kT m m st')⟩ a' w'→next a' w'):o.wp P a w next Q:=by
 have hfv:=hs.ev nx
 rw[hfn] at hfv
 simp only[aF] at hfv
 obtain⟨vcap,hfv,jX⟩:=hfv
 have hxs:=Bb hs xs
 let Xc:Cx:=⟨w,Own (fun i=>ν (look m i)) (da []),fun i=>ν (look m i),da [],X.Z⟩
 have hno:∀(ν:Nat→Nm) b,¬Own ν (da []) b:=by
  rintro ν b ⟨k,e,h,_⟩
  cases k<;>simp[da] at h
 have hw:∀b,cG X ν g.at b→b<w.heap.size→cG Xc (fun i=>ν (look m i)) (da []) b∧w.heap[b]?=w.heap[b]?:=fun b hb _=>⟨⟨hno _ b,hb.2⟩,rfl⟩
 have iz:∀b,Own ν g.at b→cG Xc (fun i=>ν (look m i)) (da []) b:=fun b hb=>⟨hno _ b,hs.K4 hb⟩
 have l7:aA w (cG Xc (fun i=>ν (look m i)) (da [])) (fun i=>ν (look m i)) (da []) cX (xs.map a.eval++vcap):=aA.vw hs hw iz _ o0 (hxs.app jX)
 obtain⟨⟨fn,hfn1,hfn2,hfn3⟩,hC⟩:=hC
 have hr:(execOp a.eval o).run P w= .ok (.enter f ⟨xs.map a.eval++vcap⟩) w:=by
  have n1 : ¬ fn.name = "runtime.NumGoroutine" := by simpa using hfn3
  have n2:¬fn.body=none:=fun e=>by rw[e] at hfn2;cases hfn2
  simp[execOp,ho,resolve,hfv,Deferred.ofValue,invoke,callFunc,program,hfn1,n1,n2,Sem.run]
 have lq:∀k,(⟨cX,[]⟩:G).at k=none:=fun k=>by cases k<;>rfl
 have hent:Sat P Xc (fun i=>ν (look m i)) ⟨cX,[]⟩ ⟨⟨xs.map a.eval++vcap⟩,[]⟩ w:=by
  refine⟨by simpa using l7.length,fun t=>?_,fun k e h=>?_,fun k k' e e' b h=>?_,fun b hb=>?_,fun k h=>?_,fun k h=>?_,⟨fun b hb=>?_,hs.kt rfl fun b hb=>(hno _ b hb).elim⟩,sH.refl _ w,rfl⟩
  ·have key:∀(ps:List PV)(us:List Value)(t:Nat),aA w (cG Xc (fun i=>ν (look m i)) (da [])) (fun i=>ν (look m i)) (da []) ps us→aF w (cG Xc (fun i=>ν (look m i)) (da [])) (fun i=>ν (look m i)) (da []) (nth ps t) (us.getD t Go.undef):=by
    intro ps
    induction ps with
    | nil=>intro us t _;cases t<;>simp[nth,aF]
    | cons p ps ih=>
      intro us t hr
      cases us with
      | nil=>simp[aA] at hr
      | cons u us=>
        simp only[aA] at hr
        cases t with
        | zero=>simpa[nth] using hr.1
        | succ t=>simpa[nth] using ih us t hr.2
   have:=key cX _ t l7
   show aF w (cG Xc (fun i=>ν (look m i)) (da [])) (fun i=>ν (look m i)) (da []) (nth cX t) ((⟨xs.map a.eval++vcap⟩:Array Value).getD t Go.undef)
   simpa[Array.getD_eq_getD_getElem?] using this
  ·rw[lq] at h;cases h
  ·rw[lq] at h;cases h
  ·exact(hno _ b hb).elim
  ·rw[lq] at h;cases h
  ·exact⟨rfl,h⟩
  ·exact⟨Nat.lt_of_lt_of_le (hs.Fk b hb).1 hs.Ai.size,hno _ b⟩
 unfold Oper.wp
 rw[hr,Oper.upon_enter]
 refine(hC Xc (xs.map a.eval++vcap) rfl rfl hent).mono ?_
 rintro e w' ⟨v,res',st2,ν',rfl,⟨rfl,rfl⟩,gL⟩
 let Xd:Cx:=⟨w,Own (fun i=>ν (look m i)) (da []),fun i=>ν (look m i),da [],fun b=>X.Z b∨(Own ν g.at b∧¬Own (fun i=>ν (look m i)) (da []) b)⟩
 have hsat2:Rr P Xd ν' res' st2 v w':=by
  refine⟨gL.size,fun t=>?_,fun k e h=>ld.sd (L7 hse k e h) (gL.en k e h),gL.inj,gL.base,gL.nu,gL.par,⟨fun b hb=>?_,gL.Fk.k⟩,gL.Ai,gL.defs⟩
  ·have hx:(nth [res'] t).sd=true:=by
    cases t with
    | zero=>exact hsd
    | succ t=>cases t<;>rfl
   exact aF.sd _ _ hx (gL.sl t)
  ·rcases hb with hb|hb
   ·exact gL.Fk b hb
   ·exact⟨hs.lt hb.1,hno _ b⟩
 obtain⟨ν'',hs'⟩:=hs.leave m [] st2 hm hml (Nat.zero_le _) (fun i hi=>by simp at hi) (fun i hi hi'=>hnew.at i hi (by omega)) Xd rfl (fun _ _=>rfl) rfl rfl rfl hsat2 d
 show next (a.put o.dst v) w'
 rw[hd]
 exact hn ν'' _ _ hs'
section
variable{E:Env}{g:G}{d:Nat}{ty:TypeId}{pos:String}{eU:Array Edge}{gd:Option (Nat×Bool)}
theorem Xz(nx:Operand)(xs:List Operand)(tys:Array TypeId)(f:FuncId)(cap:List PV)(hfn:g.ev nx= .fn f cap)(ks M:List Nat)(cX:List PV)(res:PV)(st':List (Option En))(hC:C E.P f cX [] (bD res st'))
 (o0:iR g ks (xs.map g.ev++cap) cX) (hsd:res.sd=true) (hse:Il st'=true) (hm:M.Nodup) (hnew:iV g 0 M) (hml:st'.length≤M.length) :
 kM E.P ⟨some d,.call ⟨.value nx,⟨xs⟩,tys⟩,ty,pos,eU,gd⟩ g ⟨dj nx++xs.flatMap dj,ks++M⟩ ⟨some (d,res.mo M),kT M M st'⟩:=by
 intro g2 hg
 have e1:=hg.ev (x:=nx) (fun t h=>by simp[h])
 have e2:=uU hg xs (fun t h=>by simp only[aP];exact .inr h)
 have hfr:∀(ks':List Nat)(n:Nat),(∀k∈ks',k∈M)→iV g n ks'→iV g2 n ks':=by
  intro ks'
  induction ks' with
  | nil=>intro n _ _;cases n<;>trivial
  | cons k ks' ih=>
    intro n hk h
    cases n with
    | zero=>
      simp only[iV] at h⊢
      exact⟨by rw[hg.p k (by simp[hk k (by simp)])];exact h.1,ih 0 (fun k h=>hk k (by simp[h])) h.2⟩
    | succ n=>
      simp only[iV] at h⊢
      exact ih n (fun k h=>hk k (by simp[h])) h
 intro X ν a w next Q hs hn
 exact VX rfl rfl (by rw[e1,hfn]) ks M cX res st' hC (by rw[e2];exact o0.agree (fun k hk=>hg.p k (by simp[hk]))) hsd hse hm (hfr M 0 (fun _ h=>h) hnew) hml X ν a w next Q hs hn
theorem KL{m:Option (List Ky)}{gs:Option Nat}{rest:qT→Option (List Ky)→G→Prop}{nx:Operand}{xs:List Operand}{tys:Array TypeId}{f:FuncId}(cap:List PV)(ks M:List Nat){cX:List PV}{res:PV}{st':List (Option En)}
 (hC:C E.P f cX [] (bD res st')) (h1:g.ev nx= .fn f cap) (h2:iR g ks (TC g xs++cap) cX) (h3:res.sd=true∧Il st'=true∧NW M=true∧yl (l6 st') (Hc M)=true∧iV g 0 M)
 (hr:rest .on (mK m (ot (uO gs ⟨dj nx++CS xs,apN ks M⟩) ⟨some (d,res.mo M),kT M M st'⟩)) (g.app ⟨some (d,res.mo M),kT M M st'⟩)):sU E m gs ⟨some d,.call ⟨.value nx,⟨xs⟩,tys⟩,ty,pos,eU,gd⟩ g rest:=by
 rw[yt,Wo] at hr
 rw[CP] at h2
 obtain⟨k1,k2,k3,k4,k5⟩:=h3
 have k4:=kX k4
 rw[nP,E5] at k4
 exact fu (Xz nx xs tys f cap h1 ks M cX res st' hC h2 k1 k2 (KR k3) k5 k4) hr
end
section
variable{E:Env}{n0:Nat}{g:G}{c:Code}{Q:Ex→G→Prop}
theorem TJ{A:Type}(I:A→Prop)(T:A→G)(μ:A→Nat)(a0:A)(hi:I a0)(h0:pr E.P n0 g (T a0))
 (round:∀a,I a→W E.P n0 c (T a) (qS E.P n0 I T μ a Q)):W E.P n0 (.loop c) g Q:=by
 refine Ut (α:={a // I a}) (fun x=>T x.1) (fun x=>μ x.1) ⟨a0,hi⟩ h0 ?_
 rintro⟨a,ha⟩
 have h:=round a ha
 have e:(qS E.P n0 I T μ a Q)=(JP E.P n0 (fun x:{a // I a}=>T x.1) (fun x=>μ x.1) ⟨a,ha⟩ Q):=by
  funext e g'
  cases e with
  | normal=>
    simp only[qS,JP]
    apply propext
    exact⟨fun⟨a',h1,h2,h3⟩=>⟨⟨a',h1⟩,h2,h3⟩,fun⟨⟨a',h1⟩,h2,h3⟩=>⟨a',h1,h2,h3⟩⟩
  | exit id=>rfl
  | ret=>rfl
 rw[←e]
 exact h
theorem Bx{P:Program}{g':G}(k i:Nat){e:TypeId}{xs:List (List T)}(row:List T)(hk:g.at k=some (.fw e xs))(hi:i<xs.length)(hr:oN xs i=row)
 (h:pr P n0 ⟨g.sl,db (o7 k g.st row) k (some (.fw e (xs.set i (fG k g.st row))))⟩ g'):pr P n0 g g':=pr.trans (AR.N6 (wj k i row hk hi hr)) h
end
theorem YJ{xs:List (List T)}{i:Nat}{r:List T}(h:i<xs.length):oN (xs.set i r) i=r:=by simp[oN,ct,h]
theorem R3(xs:List (List T))(r:List T):oN (xs++[r]) xs.length=r:=by simp[oN,ct]
theorem wQ{xs:List (List T)}{r:List T}{n:Nat}(h:xs.length=n):oN (xs++[r]) n=r:=by subst h;exact R3 xs r
theorem xY{xs:List (List T)}{r r':List T}{n:Nat}(h:xs.length=n):(xs++[r]).set n r'=xs++[r']:=by subst h;exact Au xs r r' []
attribute [go_sem] Zr Vn FX T.sd ZP Oy PV.sd Zs En.sd Il apN qd IW apE fG o7 List.set_set R3 List.length_set
section
variable{P:Program}{w:World}{ok:Nat→Prop}{ν:Nat→Nm}{st:Nat→Option En}
theorem bx.split:∀(n:Nat){x:List (List T)}{u:List (List Value)}{F:List Nat},bx P w ok ν st x u F→∃F1 F2,bx P w ok ν st (x.take n) (u.take n) F1∧F=F1++F2
 | 0,x,u,F,h=>⟨[],F,by simp[bx],rfl⟩
 | n+1,[],[],F,h=>⟨[],F,by simp[bx],rfl⟩
 | _+1,[],_::_,_,h=>by simp[bx] at h
 | _+1,_::_,[],_,h=>by simp[bx] at h
 | n+1,t::ts,a::u,F,h=>by
   simp only[bx] at h
   obtain⟨F1,F2,h1,h2,rfl⟩:=h
   obtain⟨G1,G2,k1,rfl⟩:=bx.split n h2
   refine⟨F1++G1,G2,?_,by rw[bj]⟩
   simp only[List.take_succ_cons,bx]
   exact⟨F1,G1,h1,k1,rfl⟩
end
section
variable{E:Env}{g:G}{d:Nat}{ty:TypeId}{pos:String}{eU:Array Edge}{gd:Option (Nat×Bool)}
end
def Y4(P:Program)(ops:Array Oper)(Q:Ex→G→Prop):Nat→Array Bool→G→Prop
 | 0,listed,g=>Region.ready .any ops listed=[]∧Q .normal g
 | f+1,listed,g=>(Region.ready .any ops listed=[]→Q .normal g)∧∀i∈Region.ready .any ops listed,∃o R δ,ops[i]?=some o∧H4 P ops o g R δ∧Y4 P ops Q f (listed.setIfInBounds i true) (g.app δ)
theorem Y4.ok{P:Program}{ops:Array Oper}{Q:Ex→G→Prop}{X:Cx}:∀(f:Nat)(listed:Array Bool)(g:G)(ν:Nat→Nm)(a:Act)(w:World),Y4 P ops Q f listed g→Sat P X ν g a w→wpAny P .any ops (OK P X Q) f listed a w
 | 0,_,g,ν,_,_,h,hs=>⟨h.1,g,ν,h.2,hs⟩
 | f+1,listed,g,ν,a,w,h,hs=>by
   refine⟨fun hr=>⟨g,ν,h.1 hr,hs⟩,fun i hi=>?_⟩
   obtain⟨o,R,δ,ho,jC,hx⟩:=h.2 i hi
   have:=jC g ⟨fun _ _=>rfl,fun _ _=>rfl⟩ X ν a w (wpAny P .any ops (OK P X Q) f (listed.setIfInBounds i true)) (OK P X Q) hs fun ν' a' w' hs'=>Y4.ok f _ _ ν' a' w' hx hs'
   unfold wpOp
   simp only[ho]
   by_cases hw:Region.wanted o (yielded ops a.tmps)=true
   ·simp only[hw,if_true] at this⊢;exact .inl this
   ·simp only[hw,if_false] at this⊢;exact this
section
variable{E:Env}{n0:Nat}{g:G}{Q:Ex→G→Prop}
end
section
variable{P:Program}{g:G}
theorem RS(k:Nat){e:TypeId}{xs:List (List T)}{ys:List (List D)}(hk:g.at k=some (.fw e xs))(hf:cZ xs=some ys) :
 AR P g ⟨g.sl,db g.st k (some (.acc e ys))⟩:=by
 intro X ν a w hs
 obtain⟨us,ho,hul,jl,hB,hnd⟩:=vn hs hk
 generalize hg':(⟨g.sl,db g.st k (some (.acc e ys))⟩:G)=g'
 have lq:∀j,g'.at j=if j=k then some (.acc e ys) else g.at j:=by
  intro j
  rw[←hg']
  exact gF g.st k _ j
 refine⟨fun j=>if j=k then⟨(ν k).v,[]⟩ else ν j,?_⟩
 generalize hν':(fun j=>if j=k then(⟨(ν k).v,[]⟩:Nm) else ν j)=ν'
 have hνk:ν' k=⟨(ν k).v,[]⟩:=by rw[←hν'];simp
 have hνo:∀j,j≠k→ν' j=ν j:=fun j h1=>by rw[←hν'];simp[h1]
 have hm:lL g.at g'.at ν ν':=by
  intro j hj
  refine⟨?_,?_⟩
  ·by_cases h2:j=k
   ·rw[h2,hνk]
   ·rw[hνo j h2]
  ·rw[lq]
   split
   ·rfl
   ·exact hj
 have hask:∀b,(ν' k).has b↔b∈hb (ν k).v:=fun b=>by rw[hνk,oO];simp
 have hasK:∀b,(ν k).has b↔b∈hb (ν k).v++(ν k).f:=fun b=>oO
 have back:∀j e1,g'.at j=some e1→e1.live=true→∀b,(ν' j).has b→∃e0,g.at j=some e0∧e0.live=true∧(ν j).has b:=by
  intro j e1 h1 h2 b hb1
  by_cases lN:j=k
  ·subst lN
   exact⟨_,hk,rfl,(hasK b).2 (List.mem_append_left _ ((hask b).1 hb1))⟩
  ·rw[lq,if_neg lN] at h1
   rw[hνo j lN] at hb1
   exact⟨e1,h1,h2,hb1⟩
 have iz:∀b,Own ν' g'.at b→Own ν g.at b:=by
  rintro b ⟨j,e1,h1,h2,h3⟩
  obtain⟨e0,k1,k2,k3⟩:=back j e1 h1 h2 b h3
  exact⟨j,e0,k1,k2,k3⟩
 have hw:∀b,cG X ν g.at b→b<w.heap.size→cG X ν' g'.at b∧w.heap[b]?=w.heap[b]?:=fun b hb _=>⟨⟨fun ho=>hb.1 (iz b ho),hb.2⟩,rfl⟩
 have hF:∀b∈(ν k).f,cG X ν' g'.at b:=by
  intro b hbf
  have hKb:(ν k).has b:=(hasK b).2 (List.mem_append_right _ hbf)
  refine⟨?_,hs.K4 ⟨k,_,hk,rfl,hKb⟩⟩
  rintro⟨j,e1,h1,h2,h3⟩
  obtain⟨e0,k1,k2,k3⟩:=back j e1 h1 h2 b h3
  have lN:=hs.inj j k e0 _ b k1 hk k2 rfl k3 hKb
  subst lN
  have h4:=(hask b).1 h3
  exact(dt.1 hnd).2.2 b h4 b hbf rfl
 obtain⟨l1,l2,l3⟩:=bx.data hw xs us (ν k).f ys hf jl hF
 have ov:cC w (cG X ν' g'.at) (P.cellsOf e) ys us:=by
  refine⟨l1,fun i x hx=>?_,fun i u hu=>hul i u hu,fun i j x u d v h1 h2 h3 h4=>(l3 i x u h1 h2).2 j d v h3 h4⟩
  have hi:i<us.length:=by
   have:=(List.getElem?_eq_some_iff.1 hx).1
   omega
  have hu:=List.getElem?_eq_getElem hi
  rw[(l3 i x _ hx hu).1]
  exact hul i _ hu
 refine hs.XC (g':=g') (ν':=ν') (fun _=>False) (sH.refl _ w) (fun _ hb=>hb.elim) hm ?_ ?_ ?_ ?_ ?_ ?_ rfl
 ·intro j e1 hj
  rw[lq] at hj
  by_cases lN:j=k
  ·rw[if_pos lN] at hj
   obtain rfl:=Option.some.inj hj
   subst lN
   refine .inr ⟨us,?_,ov,by omega,by rw[hνk]⟩
   rw[hνk,←l2]
   exact ho
  ·rw[if_neg lN] at hj
   exact .inl ⟨hj,hνo j lN,fun _ _ _ hb=>hb⟩
 ·intro j e1 b h1 h2 h3
  exact .inl (iz b ⟨j,e1,h1,h2,h3⟩)
 ·intro j j' e1 e2 b h1 h2 h3 h4 h5 h6
  obtain⟨e0,k1,k2,k3⟩:=back j e1 h1 h3 b h5
  obtain⟨e3,l1,l2,l3⟩:=back j' e2 h2 h4 b h6
  exact hs.inj j j' e0 e3 b k1 l1 k2 l2 k3 l3
 ·intro j hj
  rw[lq] at hj
  by_cases lN:j=k
  ·exact .inl (by rw[lN,hk];rfl)
  ·rw[if_neg lN] at hj
   exact .inl hj
 ·rw[←hg'];exact hs.size
 ·intro t
  exact .inl ⟨by rw[←hg'],rfl⟩
end
theorem abT{E:Env}{g g':G}{o:Oper}{rest:qT→Option (List Ky)→G→Prop}(hw:AR E.P g g')(h:sU E none none o g' rest):sU E none none o g rest:=by
 rcases h with⟨R,δ,h1,h2⟩|⟨_,_,g2,h1,h2⟩
 ·exact .inr ⟨rfl,rfl,g',hw,R,δ,h1,h2⟩
 ·exact .inr ⟨rfl,rfl,g2,hw.trans h1,h2⟩
theorem HS{E:Env}{rs:List ResultVar}{n0:Nat}{R:PV→List (Option En)→Prop}{g g':G}(hw:AR E.P g g')(h:VG E rs n0 R g'):VG E rs n0 R g:=
 let ⟨g2,h1,h2⟩:=h
 ⟨g2,pr.trans hw.N6 h1,h2⟩
theorem Xm{xs:List (List T)}{r1 r2:List T}{n:Nat}(h:xs.length=n):oN (xs++[r1,r2]) n=r1:=by subst h;simp[oN,ct]
theorem UN{xs:List (List T)}{r1 r2:List T}{n:Nat}(h:xs.length=n):oN (xs++[r1,r2]) (n+1)=r2:=by subst h;simp[oN,ct]
theorem Vz{xs:List (List T)}{r1 r2 r:List T}{n:Nat}(h:xs.length=n):(xs++[r1,r2]).set n r=xs++[r,r2]:=by subst h;simp
theorem Vg{xs:List (List T)}{r1 r2 r:List T}{n:Nat}(h:xs.length=n):(xs++[r1,r2]).set (n+1) r=xs++[r1,r]:=by subst h;simp
attribute [go_sem] de dq vW Za
theorem ji{E:Env}{ops:Array Oper}{o:Oper}{os:List Oper}{g:G}{K:G→Prop}(hg:o.guard=none)(h:sU E none none o g (fun _ _ g'=>WO E.P ops os g' K)):WO E.P ops (o::os) g K:=by
 rcases h with⟨R,δ,h1,h2⟩|⟨_,_,g',hw,R,δ,h1,h2⟩
 ·exact yM (H4.plain hg h1) h2
 ·exact RT hw (yM (H4.plain hg h1) h2)
def kH:List (Int×Value)→Int→Option Value
 | [],_=>none
 | p::l,n=>if n=p.1 then some p.2 else kH l n
theorem td(n:Int):∀(es:List MapEntry)(sR:List (Int×Value))(i:Nat),yk es=yK sR →
 (kH sR n=none→Instr.findNow (.int .i64) (.int .i64 n) es i=some none)∧(∀v,kH sR n=some v→∃j,Instr.findNow (.int .i64) (.int .i64 n) es i=some (some (j,v)))
 | [],[],i,_=>⟨fun _=>rfl,fun v h=>by cases h⟩
 | [],_::_,i,h=>by simp[yk,yK] at h
 | _::_,[],i,h=>by simp[yk,yK] at h
 | e::es,p::sR,i,h=>by
   simp only[yk,yK,aQ,List.cons.injEq,Prod.mk.injEq] at h
   obtain⟨⟨h1,h2⟩,h3⟩:=h
   obtain⟨i1,i2⟩:=td n es sR (i+1) h3
   simp only[kH,Instr.findNow,h1,Instr.sameNow,if_true]
   by_cases hn:n=p.1
   ·simp only[hn,if_true,beq_self_eq_true,h2]
    exact⟨fun h=>by simp at h,fun v hv=>⟨i,by simpa using hv⟩⟩
   ·have:(n == p.1)=false:=by simpa using hn
    simp only[hn,if_false,this]
    exact⟨i1,i2⟩
section
variable{E:Env}{g:G}{d:Nat}{ty:TypeId}{pos:String}{eU:Array Edge}{gd:Option (Nat×Bool)}{dn:Option Nat}
theorem Y9{w:World}{ok:Nat→Prop}{ν:Nat→Nm}{st:Nat→Option En}{v:Value}(h:okV v=true):aF w ok ν st (Zu v) v:=by
 have key:∀vs:List Value,(vs.all fun v=>v.oneCell')=true→aA w ok ν st (vs.map fun v=>.d (.val v)) vs:=by
  intro vs
  induction vs with
  | nil=>intro _;simp[aA]
  | cons v vs ih=>
    intro h
    simp only[List.all_cons,ai] at h
    simp only[aQ,aA,aF]
    exact⟨.val v h.1,ih h.2⟩
 cases v with
 | agg cs=>simp only[okV] at h;simp only[Zu,aF];exact⟨cs.toList,rfl,key _ h⟩
 | _=>simp only[okV] at h;simp only[Zu,aF];exact .val _ h
theorem Ye{w:World}{ok:Nat→Prop}{ν:Nat→Nm}{st:Nat→Option En}{u v:Value}(h:aF w ok ν st (Zu u) v):v=u:=by
 have key:∀us vs:List Value,aA w ok ν st (us.map fun v=>.d (.val v)) vs→vs=us:=by
  intro us
  induction us with
  | nil=>intro vs h;cases vs with
    | nil=>rfl
    | cons v vs=>simp[aA] at h
  | cons u us ih=>intro vs h;cases vs with
    | nil=>simp[aA] at h
    | cons v vs=>
      simp only[aQ,aA] at h
      rw[fV h.1,ih vs h.2]
 cases u with
 | agg cs=>
   simp only[Zu,aF] at h
   obtain⟨vs,rfl,h⟩:=h
   rw[key _ _ h]
 | _=>exact fV h
theorem M1(t k:Nat)(hk:g.at k=none):kM E.P ⟨some d,.makeMap t none,ty,pos,eU,gd⟩ g ⟨[],[k]⟩ ⟨some (d,.acc k),[(k,.map [])]⟩:=by
 intro g2 hg
 have h3:=(hg.p k (by simp)).trans hk
 intro X ν a w next Q hs hn
 have hr:(execOp a.eval ⟨some d,.makeMap t none,ty,pos,eU,gd⟩).run E.P w= .ok (.value (.map (some w.heap.size))) (w.alloc (.map #[] 0)):=rfl
 unfold Oper.wp
 rw[hr,Oper.upon_value]
 refine hn _ _ _ (hs.xg (jF w _) k h3 (.map []) ⟨.map (some w.heap.size),[]⟩ rfl ?_ d _ _ ?_ ?_)
 ·intro b hb
  obtain rfl:w.heap.size=b:=by simpa[Nm.has,wL] using hb
  exact aJ _
 ·intro ok st ν' hν hw hm
  exact⟨w.heap.size,#[],0,by rw[hν],by rw[rZ],rfl,fun p hp=>by simp at hp,by rw[hν]⟩
 ·intro ok st ν' hν jC hw hm
  simp only[aF]
  exact⟨by rw[jC];rfl,by rw[hν]⟩
theorem pP{P:Program}{kt:TypeId}(hk:P.underlying kt=some (.int .i64))(b:Bool)(n:Int)(w:World):(Instr.checkKey b 10000 kt (.int .i64 n)).run P w= .ok () w:=
 MapKept.run_checkKey (k:=.int .i64 n) hk (by trivial) b 9999
theorem tE(x y:Operand)(t kt et k:Nat)(sR:List (Int×Value))(n:Int)(v:Value)(ht:E.P.underlying t=some (.map kt et))(hkt:E.P.underlying kt=some (.int .i64))(hx:g.ev x= .acc k)(hk:g.at k=some (.map sR))(hy:g.ev y= .d (.val (.int .i64 n)))(hv:kH sR n=some v) :
 kM E.P ⟨some d,.lookup t x y false,ty,pos,eU,gd⟩ g ⟨dj x++dj y,[k]⟩ ⟨some (d,Zu v),[]⟩:=by
 intro g2 hg
 have h1:=hg.ev (x:=x) (fun t h=>by simp[h])
 have h2:=hg.ev (x:=y) (fun t h=>by simp[h])
 have h3:=(hg.p k (by simp)).trans hk
 refine D7.val rfl fun X ν a w hs=>?_
 have hvx:=hs.ev x
 rw[h1,hx] at hvx
 have hvy:=hs.ev y
 rw[h2,hy] at hvy
 have hvy:=fV hvy
 simp only[aF] at hvx
 obtain⟨r,es,clock,q1,q2,q3,q4,q5⟩:=hs.en k _ h3
 obtain⟨j,hj⟩:=(td n es.toList sR 0 q3).2 v hv
 have hmem:∃p∈sR,p.2=v:=by
  clear q3 q4 hj h3 hk
  induction sR with
  | nil=>cases hv
  | cons p l ih=>
    simp only[kH] at hv
    split at hv
    ·exact⟨p,by simp,by simpa using hv⟩
    ·obtain⟨q,h1,h2⟩:=ih hv
     exact⟨q,List.mem_cons_of_mem _ h1,h2⟩
 obtain⟨p,hp1,hp2⟩:=hmem
 refine⟨v,?_,Y9 (by rw[←hp2];exact q4 p hp1)⟩
 simp only[execOp,hvx.2,q1,hvy,Instr.lookup,Sem.run_bind,run_underlying ht,Result.andThen_ok,MapKept.run_getObj_map q2,Sem.run_pure,pP hkt,MapKept.run_findKey hkt hj]
 rfl
theorem BN(x y:Operand)(t kt et k:Nat)(ei:TI)(sR:List (Int×Value))(n:Int)(ht:E.P.underlying t=some (.map kt et))(hkt:E.P.underlying kt=some (.int .i64))(he:E.ti et=some ei)(hzo:zeroOf E.P et= .bool false)(hx:g.ev x= .acc k)(hk:g.at k=some (.map sR))(hy:g.ev y= .d (.val (.int .i64 n)))(hv:kH sR n=none) :
 kM E.P ⟨some d,.lookup t x y false,ty,pos,eU,gd⟩ g ⟨dj x++dj y,[k]⟩ ⟨some (d,.d (.val (.bool false))),[]⟩:=by
 intro g2 hg
 have h1:=hg.ev (x:=x) (fun t h=>by simp[h])
 have h2:=hg.ev (x:=y) (fun t h=>by simp[h])
 have h3:=(hg.p k (by simp)).trans hk
 refine D7.val rfl fun X ν a w hs=>?_
 have hvx:=hs.ev x
 rw[h1,hx] at hvx
 have hvy:=hs.ev y
 rw[h2,hy] at hvy
 have hvy:=fV hvy
 simp only[aF] at hvx
 obtain⟨r,es,clock,q1,q2,q3,q4,q5⟩:=hs.en k _ h3
 have hj:=(td n es.toList sR 0 q3).1 hv
 obtain⟨i,z,z1,z2,z3,z4,z5,z6⟩:=(E.ok et ei he).info
 have hzv:z= .bool false:=by
  rw[←hzo]
  simp[zeroOf,z1,z4]
 refine⟨.bool false,?_,nY rfl⟩
 simp only[execOp,hvx.2,q1,hvy,Instr.lookup,Sem.run_bind,run_underlying ht,Result.andThen_ok,MapKept.run_getObj_map q2,Sem.run_pure,pP hkt,MapKept.run_findKey hkt hj,zeroValue,typeInfo]
 simp[z1,z4,hzv]
theorem OC{P:Program}{t kt et:TypeId}(ht:P.underlying t=some (.map kt et))(hkt:P.underlying kt=some (.int .i64)){w:World}{r:Nat}{es:Array MapEntry}{clock:Nat}(hr:w.heap[r]?=some (.map es clock)){n:Int}(hf:Instr.findNow (.int .i64) (.int .i64 n) es.toList 0=some none)(v:Value) :
 (Instr.mapUpdate t (.map (some r)) (.int .i64 n) v).run P w= .ok () { w with heap:=w.heap.setIfInBounds r (.map (es.push ⟨.int .i64 n,v,clock⟩) (clock+1)) }:=by
 simp only[Instr.mapUpdate,Sem.run_bind,run_underlying ht,Result.andThen_ok,MapKept.run_getObj_map hr,pP hkt,MapKept.run_findKey hkt hf]
 exact MapKept.run_setObj_map _ hr
theorem sk(o:Op)(x y z:Operand)(t kt et k:Nat)(sR:List (Int×Value))(n:Int)(v:Value)(ho:o= .mapUpdate t x y z∨o= .insert t x y z)(ht:E.P.underlying t=some (.map kt et))(hkt:E.P.underlying kt=some (.int .i64))(hx:g.ev x= .acc k)(hk:g.at k=some (.map sR))(hy:g.ev y= .d (.val (.int .i64 n)))(hz:g.ev z=Zu v)(e7:okV v=true)(hv:kH sR n=none) :
 kM E.P ⟨none,o,ty,pos,eU,gd⟩ g ⟨dj x++dj y++dj z,[k]⟩ ⟨none,[(k,.map (sR++[(n,v)]))]⟩:=by
 intro g2 hg
 have e1:=hg.ev (x:=x) (fun t h=>by simp[h])
 have e2:=hg.ev (x:=y) (fun t h=>by simp[h])
 have e3:=hg.ev (x:=z) (fun t h=>by simp[h])
 have h3:=(hg.p k (by simp)).trans hk
 intro X ν a w next Q hs hnx
 have hvx:=hs.ev x
 rw[e1,hx] at hvx
 have hvy:=hs.ev y
 rw[e2,hy] at hvy
 have hvy:=fV hvy
 have hvz:=hs.ev z
 rw[e3,hz] at hvz
 have hvz:=Ye hvz
 simp only[aF] at hvx
 obtain⟨r,es,clock,q1,q2,q3,q4,q5⟩:=hs.en k _ h3
 have hj:=(td n es.toList sR 0 q3).1 hv
 have lO:=OC ht hkt q2 hj v
 have hr:(execOp a.eval ⟨none,o,ty,pos,eU,gd⟩).run E.P w= .ok .skip { w with heap:=w.heap.setIfInBounds r (.map (es.push ⟨.int .i64 n,v,clock⟩) (clock+1)) }:=by
  rcases ho with rfl|rfl<;>simp only[execOp,hvx.2,q1,hvy,hvz,Sem.run_bind,lO,Result.andThen_ok]<;>rfl
 unfold Oper.wp
 rw[hr,Oper.upon_skip]
 have hrs:r<w.heap.size:=qh q2
 have rA:sH (fun b=>(ν k).has b) w { w with heap:=w.heap.setIfInBounds r (.map (es.push ⟨.int .i64 n,v,clock⟩) (clock+1)) }:=
  ⟨rfl,rfl,rfl,by simp,fun b _ hb=>by
   have jD:r≠b:=fun e=>hb (e▸(kv q5).2 (by rw[q1];rfl))
   simp[jm,jD]⟩
 refine hnx _ _ _ (hs.C0 k (.map sR) (.map (sR++[(n,v)])) h3 rfl rA none .undef Go.undef ?_ (fun h=>by cases h))
 intro hwf hm
 refine⟨r,_,_,q1,by simp[jm,hrs];exact⟨rfl,rfl⟩,?_,fun p hp=>?_,q5⟩
 ·simp only[yk,yK,Array.toList_push,List.map_append,aQ,List.map_nil] at q3⊢
  rw[q3]
 ·rcases aP.1 hp with h|h
  ·exact q4 p h
  ·simp only[List.mem_cons,List.not_mem_nil,or_false] at h
   rw[h];exact e7
end
attribute [go_sem] Zu
theorem qi{P:Program}(w:World)(dT sT ty elem:TypeId)(s g o dLen dCap:Nat)(a:Addr)(sLen sCap:Nat)(cur:Array Value)(t:TypeId)(cs:List Value)
 (hu:P.underlying dT=some (.slice elem)) (hs:(P.info? elem).map (·.size)=some s)
 (hg:w.heap[g]?=some (.cells cur t (0,0))) (hn:cs.length=Nat.min sLen dLen*s)
 (hsrc:∀j v,cs[j]?=some v→w.cell? (a.add j)=some v) (hfit:o+cs.length≤cur.size) (h1:∀v∈cs,v.oneCell'=true) :
 (Builtin.copy_ #[dT,sT] ty #[.slice (some ⟨g,o,none⟩) dLen dCap,.slice (some a) sLen sCap]).run P w =
  .ok (goInt (Nat.min sLen dLen)) (w.setRow g (cur.toList.take o++cs++cur.toList.drop (o+cs.length)).toArray):=by
 have hl:=run_loadCells_list (P:=P) w a cs hsrc
 have jC:=run_storeCells_at P g o t cs 0 cur w hg (by simpa using hfit) h1
 cases hq:P.info? elem with
 | none=>simp[hq] at hs
 | some i=>
   have hi:i.size=s:=by simpa[hq] using hs
   rw[hn] at hl
   simp[Builtin.copy_,run_underlying hu,Builtin.lenOf,Builtin.firstCells,sizeOf,typeInfo,hq,hi,hl,jC]
section
variable{E:Env}{g:G}
theorem Oe(x lo:Operand)(t e k:Nat){d:Nat}{ty:TypeId}{pos:String}{eU:Array Edge}{gd:Option (Nat×Bool)}(ti ei:TI)(xs:List (List D))(m:Int)(ht:E.ti t=some ti)(kJ:ti.ty= .slice e)(he:E.ti e=some ei)
 (hx:g.ev x= .acc k) (hk:g.at k=some (.acc e xs)) (hlo:g.ev lo= .d (.val (.int .i64 m))) (h0:0≤m) (hm:m≤xs.length) :
 kM E.P ⟨some d,.slice t x (some lo) none none,ty,pos,eU,gd⟩ g ⟨dj x++dj lo,[k]⟩ ⟨some (d,.any),[]⟩:=by
 intro g2 hg
 have e1:=hg.ev (x:=x) (fun t h=>by simp[h])
 have e2:=hg.ev (x:=lo) (fun t h=>by simp[h])
 have h3:=(hg.p k (by simp)).trans hk
 intro X ν a w next Q hs hn
 have hu:=(E.ok t ti ht).ty
 rw[kJ] at hu
 have hv:=hs.ev x
 rw[e1,hx] at hv
 have np:=hs.ev lo
 rw[e2,hlo] at np
 have np:=fV np
 simp only[aF] at hv
 have hsize:=(E.ok e ei he).size
 obtain⟨us,ho,jl,hB,hf0⟩:=hs.en k _ h3
 have lO:∃v,(execOp a.eval ⟨some d,.slice t x (some lo) none none,ty,pos,eU,gd⟩).run E.P w= .ok (.value v) w:=by
  rcases ho.2 with⟨h1,h2⟩|⟨b,cap,cur,h1,_,_,h4,_⟩
  ·have hr:=tJ (P:=E.P) w hu hsize none 0 0 (some (.int .i64 m)) none m ((0:Nat):Int) (.inr ⟨_,rfl⟩) (.inl ⟨rfl,rfl⟩) h0 (by omega) (lB _) (aJ _)
   refine⟨sliced none m.toNat 0 0 ei.n,?_⟩
   simp only[execOp,hv.2,h1,np,dG,cz,Sem.run_bind,hr,Result.andThen_ok]
   rfl
  ·have hr:=tJ (P:=E.P) w hu hsize (some ⟨b,0,none⟩) xs.length cap (some (.int .i64 m)) none m (xs.length:Int) (.inr ⟨_,rfl⟩) (.inl ⟨rfl,rfl⟩) h0 (by omega) (lB _) h4
   simp only[Int.toNat_natCast] at hr
   refine⟨sliced (some ⟨b,0,none⟩) m.toNat xs.length cap ei.n,?_⟩
   simp only[execOp,hv.2,h1,np,dG,cz,Sem.run_bind,hr,Result.andThen_ok]
   rfl
 obtain⟨v,hr⟩:=lO
 unfold Oper.wp
 rw[hr,Oper.upon_value]
 exact hn _ _ _ (hs.put d (p:=.any) (v:=v) trivial)
end
end Go.Eng
namespace Go.Eng
theorem P7{α:Type}(A B R v:List α)(hs:v.length≤R.length) :
 (((A++B++R).take (A.length+v.length)++B++(A++B++R).drop (A.length+v.length+B.length)).take A.length++v
   ++ ((A++B++R).take (A.length+v.length)++B++(A++B++R).drop (A.length+v.length+B.length)).drop (A.length+v.length))
 = A++v++B++R.drop v.length:=by
 have hl:((A++B++R).take (A.length+v.length)).length=A.length+v.length:=by simp;omega
 have h1:(((A++B++R).take (A.length+v.length))++B++(A++B++R).drop (A.length+v.length+B.length)).take A.length=A:=by
  rw[bj,List.take_append_of_le_length (by omega),List.take_take,Nat.min_eq_left (by omega),bj,List.take_left]
 have h2:(((A++B++R).take (A.length+v.length))++B++(A++B++R).drop (A.length+v.length+B.length)).drop (A.length+v.length)=B++R.drop v.length:=by
  rw[bj,List.drop_left' hl,show A.length+v.length+B.length=(A++B).length+v.length from by simp;omega,List.drop_append]
  simp
 rw[h1,h2]
 simp
end Go.Eng
