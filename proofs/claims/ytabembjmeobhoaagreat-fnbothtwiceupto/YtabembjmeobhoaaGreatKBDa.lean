/-
  The symbolic layer, thirty-fourth text: exclusive or; what a call leaves, told otherwise.
-/
import Derived.Test.YtabembjmeobhoaaGreatKBD
import Derived.Laws.IdiomCopy
import Derived.Deep.Draws
import Derived.Laws.Entries
import Derived.MapKept
import Derived.Laws.CopyRow
set_option linter.unusedVariables false
set_option linter.unusedSimpArgs false
open Array renaming getElem?_setIfInBounds→jg
open Bool renaming and_eq_true→ai
open Int renaming le_refl→ll
open List renaming map_cons→aQ,mem_append→aR,append_assoc→bm,nil_append→bB,append_nil→bF,getD→cC,nodup_append→df,set_cons_zero→ir,getElem?_set→kn,ext_getElem?→mi,set_cons_succ→nT
open Nat renaming le_refl→aI
open Option renaming map_some→du,map_none→gl
namespace Go.Eng
open Go.RowKit
def LH(a b:Int):Int:=((a.toNat ^^^ b.toNat:Nat):Int)
theorem WG(a b:Int):0≤LH a b:=Int.natCast_nonneg _
theorem K2{a b:Int}(h1:0≤a)(h2:a≤9223372036854775807)(h3:0≤b)(h4:b≤9223372036854775807):bits .xor .i64 a b=LH a b:=by
 obtain⟨A,rfl⟩:=Int.eq_ofNat_of_zero_le h1
 obtain⟨B,rfl⟩:=Int.eq_ofNat_of_zero_le h3
 have hx:A ^^^ B<2 ^ 63:=Nat.xor_lt_two_pow (by omega) (by omega)
 have k1:(BitVec.ofInt 64 (A:Int)).toNat=A:=by
  rw[BitVec.ofInt_natCast,BitVec.toNat_ofNat];exact Nat.mod_eq_of_lt (by omega)
 have k2:(BitVec.ofInt 64 (B:Int)).toNat=B:=by
  rw[BitVec.ofInt_natCast,BitVec.toNat_ofNat];exact Nat.mod_eq_of_lt (by omega)
 show IntKind.i64.wrap ((BitVec.ofInt 64 (A:Int) ^^^ BitVec.ofInt 64 (B:Int)).toNat:Int)=_
 rw[BitVec.toNat_xor,k1,k2,wrap_i64 ⟨by omega,by omega⟩]
 simp[LH]
section
variable{E:Env}{g:G}{d:Nat}{ty:TypeId}{pos:String}{eG:Array Edge}{gd:Option (Nat×Bool)}
theorem YL(x y:Operand)(m n:Int)(t u:TypeId)(hx:g.ev x= .d (.val (.int .i64 m)))(hy:g.ev y= .d (.val (.int .i64 n)))(h1:0≤m)(h2:m≤9223372036854775807)(h3:0≤n)(h4:n≤9223372036854775807) :
 kG E.P ⟨some d,.binOp .xor t x y u,ty,pos,eG,gd⟩ g ⟨da x++da y,[]⟩ ⟨some (d,.d (.val (.int .i64 (LH m n)))),[]⟩:=
 qc rfl hx hy rfl fun a w k1 k2=>by
  simp[execOp,k1,k2,eqGuard,binOp,intBits_xor,K2 h1 h2 h3 h4]
theorem aac{m:Option (List Ky)}{gs:Option Nat}{rest:qO→Option (List Ky)→G→Prop}{x y:Operand}{t u:TypeId}(a b:Int)(hx:g.ev x= .d (.val (.int .i64 a)))(hy:g.ev y= .d (.val (.int .i64 b)))(h1:0≤a)(h2:a≤9223372036854775807)(h3:0≤b)(h4:b≤9223372036854775807)
 (hr:rest .on (mz m (oe (tR gs ⟨da x++da y,[]⟩) ⟨some (d,.d (.val (.int .i64 (LH a b)))),[]⟩)) (g.app ⟨some (d,.d (.val (.int .i64 (LH a b)))),[]⟩)):sq E m gs ⟨some d,.binOp .xor t x y u,ty,pos,eG,gd⟩ g rest:=
 fe (YL x y a b t u hx hy h1 h2 h3 h4) hr
end
theorem C.ND{P:Program}{f:FuncId}{args:List PV}{eQ:List (Option En)}{res res':PV}{st st':List (Option En)}(m:List (Option Nat))(h:C P f args eQ (bM res st))(h1:zQ ⟨[res],st⟩ m [res] [res']∧l7 ⟨[res],st⟩ m m st')(h3:B7 m st'=true)(h4:keeps eQ.length 0 m=true):C P f args eQ (bM res' st'):=
 have hw:Wk eQ.length m ⟨[res],st⟩ ⟨[res'],st'⟩:=⟨h1.1,h1.2,h3,h4⟩
 ⟨h.1,fun X vs k1 k2 k3=>(h.2 X vs k1 k2 k3).mono fun e w ⟨v,r,s,ν',e1,⟨e2,e3⟩,e4⟩=>by
  subst e2 e3
  have hp:Zu X eQ.length:=fun k hk=>by rw[k1] at hk;exact nO hk
  obtain⟨ν'',hs⟩:=Lk hw X ν' _ _ hp e4
  exact⟨v,_,_,ν'',e1,⟨rfl,rfl⟩,hs⟩⟩
section
variable{P:Program}{w:World}{ok ok':Nat→Prop}{ν ν':Nat→Nm}{st st':Nat→Option En}
theorem bf.zip:∀(c:Nat){x:List T}{u:List Value}{F:List Nat}{t:T},bf P w ok ν st x u F→x[c]?=some t →
 ∃v A Ft B,u[c]?=some v∧F=A++(Ft++B)∧kC P w ok ν st t v Ft ∧
  ∀(ok':Nat→Prop)(ν':Nat→Nm)(st':Nat→Option En),(∀b,ok b→b<w.heap.size→ok' b∧w.heap[b]?=w.heap[b]?)→lx st st' ν ν'→∀(t':T)(Ft':List Nat),kC P w ok' ν' st' t' v Ft'→bf P w ok' ν' st' (x.set c t') u (A++(Ft'++B))
 | _,[],_,_,_,_,h=>by simp at h
 | _,_::_,[],_,_,h,_=>by simp[bf] at h
 | 0,a::x,v::u,F,t,h,ht=>by
   simp only[bf] at h
   obtain⟨F1,F2,h1,h2,rfl⟩:=h
   obtain rfl:a=t:=by simpa using ht
   refine⟨v,[],F1,F2,rfl,rfl,h1,fun ok' ν' st' hw hm t' Ft' h'=>?_⟩
   simp only[ir,bf,bB]
   exact⟨Ft',F2,h',bf.frame hw (aI _) hm _ _ _ h2 fun _ _=>rfl,rfl⟩
 | c+1,a::x,v::u,F,t,h,ht=>by
   simp only[bf] at h
   obtain⟨F1,F2,h1,h2,rfl⟩:=h
   obtain⟨v',A,Ft,B,k1,rfl,k2,k3⟩:=bf.zip c h2 (by simpa using ht)
   refine⟨v',F1++A,Ft,B,by simpa using k1,by simp,k2,fun ok' ν' st' hw hm t' Ft' h'=>?_⟩
   simp only[nT,bf]
   exact⟨F1,_,kC.frame hw (aI _) hm _ _ _ h1 fun _ _=>rfl,k3 ok' ν' st' hw hm t' Ft' h',by simp⟩
theorem bw.zip:∀(i c:Nat){xs:List (List T)}{us:List (List Value)}{F:List Nat}{t:T},bw P w ok ν st xs us F→i<xs.length→(ow xs i)[c]?=some t →
 ∃v A Ft B,F=A++(Ft++B)∧kC P w ok ν st t v Ft ∧
  ∀(ok':Nat→Prop)(ν':Nat→Nm)(st':Nat→Option En),(∀b,ok b→b<w.heap.size→ok' b∧w.heap[b]?=w.heap[b]?)→lx st st' ν ν'→∀(t':T)(Ft':List Nat),kC P w ok' ν' st' t' v Ft'→bw P w ok' ν' st' (xs.set i ((ow xs i).set c t')) us (A++(Ft'++B))
 | _,_,[],_,_,_,_,h,_=>by simp at h
 | _,_,_::_,[],_,_,h,_,_=>by simp[bw] at h
 | 0,c,a::x,v::u,F,t,h,_,ht=>by
   simp only[bw] at h
   obtain⟨F1,F2,h1,h2,rfl⟩:=h
   have ht:a[c]?=some t:=ht
   obtain⟨v',A,Ft,B,k1,rfl,k2,k3⟩:=bf.zip c h1 ht
   refine⟨v',A,Ft,B++F2,by simp,k2,fun ok' ν' st' hw hm t' Ft' h'=>?_⟩
   show bw P w ok' ν' st' (a.set c t'::x) (v::u) _
   simp only[bw]
   exact⟨_,F2,k3 ok' ν' st' hw hm t' Ft' h',bw.frame hw (aI _) hm _ _ _ h2 fun _ _=>rfl,by simp⟩
 | i+1,c,a::x,v::u,F,t,h,hi,ht=>by
   simp only[bw] at h
   obtain⟨F1,F2,h1,h2,rfl⟩:=h
   have ht:(ow x i)[c]?=some t:=by simpa[ow] using ht
   obtain⟨v',A,Ft,B,rfl,k2,k3⟩:=bw.zip i c h2 (by simpa using hi) ht
   refine⟨v',F1++A,Ft,B,by simp,k2,fun ok' ν' st' hw hm t' Ft' h'=>?_⟩
   have e:ow (a::x) (i+1)=ow x i:=by simp[ow]
   rw[e]
   simp only[nT,bw]
   exact⟨F1,_,bf.frame hw (aI _) hm _ _ _ h1 fun _ _=>rfl,k3 ok' ν' st' hw hm t' Ft' h',by simp⟩
end
theorem Sj{hb A Ft B:List Nat}(h:(hb++(A++(Ft++B))).Nodup):(hb++(A++B)).Nodup∧Ft.Nodup∧∀b∈hb++(A++B),b∉Ft:=by
 have hp:(hb++(A++(Ft++B))).Perm (Ft++(hb++(A++B))):=by
  rw[List.perm_iff_count]
  intro a
  simp only[List.count_append]
  omega
 have h':=hp.nodup_iff.1 h
 obtain⟨h1,h2,h3⟩:=df.1 h'
 exact⟨h2,h1,fun b hb1 hb2=>h3 b hb2 b hb1 rfl⟩
theorem P9{hb A Ft B:List Nat}(h1:(hb++(A++B)).Nodup)(h2:Ft.Nodup)(h3:∀b∈hb++(A++B),b∉Ft):(hb++(A++(Ft++B))).Nodup:=by
 have hp:(hb++(A++(Ft++B))).Perm (Ft++(hb++(A++B))):=by
  rw[List.perm_iff_count]
  intro a
  simp only[List.count_append]
  omega
 exact hp.nodup_iff.2 (df.2 ⟨h2,h1,fun a ha b hb hab=>h3 b hb (hab▸ha)⟩)
section
variable{P:Program}{g:G}
theorem ZL(k i c:Nat){e e':TypeId}{xs ys:List (List T)}(hk:g.at k=some (.fg e xs))(hi:i<xs.length)(hc:(ow xs i)[c]?=some (.own e' ys)) :
 zR P g ⟨g.sl,cZ (cZ g.st k (some (.fg e (xs.set i ((ow xs i).set c (.ref g.new)))))) g.new (some (.fg e' ys))⟩:=by
 intro X ν a w hs
 obtain⟨us,ho,hul,jf,hB,hnd⟩:=uV hs hk
 obtain⟨v,A,Ft,B,hF,hv,hz⟩:=jf.zip i c hi hc
 have hv0:=hv
 simp only[kC] at hv
 obtain⟨us',F1,q1,q2,q3,q4,rfl⟩:=hv
 rw[hF] at hnd
 obtain⟨n1,n2,n3⟩:=Sj hnd
 have hnew:=g.lG
 have hkn:k≠g.new:=fun h=>by rw[←h,hk] at hnew;cases hnew
 generalize hg':(⟨g.sl,cZ (cZ g.st k (some (.fg e (xs.set i ((ow xs i).set c (.ref g.new)))))) g.new (some (.fg e' ys))⟩:G)=g'
 have k9:∀j,g'.at j=if j=g.new then some (.fg e' ys) else if j=k then some (.fg e (xs.set i ((ow xs i).set c (.ref g.new)))) else g.at j:=by
  intro j
  rw[←hg']
  show cX (cZ (cZ g.st k _) g.new _) j=_
  rw[gr,gr]
  rfl
 refine⟨fun j=>if j=g.new then⟨v,F1⟩ else if j=k then⟨(ν k).v,A++B⟩ else ν j,?_⟩
 generalize hν':(fun j=>if j=g.new then(⟨v,F1⟩:Nm) else if j=k then⟨(ν k).v,A++B⟩ else ν j)=ν'
 have hνn:ν' g.new=⟨v,F1⟩:=by rw[←hν'];simp
 have hνk:ν' k=⟨(ν k).v,A++B⟩:=by rw[←hν'];simp[hkn]
 have hνo:∀j,j≠g.new→j≠k→ν' j=ν j:=fun j h1 h2=>by rw[←hν'];simp[h1,h2]
 have hm:lx g.at g'.at ν ν':=by
  intro j hj
  have h1:j≠g.new:=fun h=>by rw[h,hnew] at hj;cases hj
  refine⟨?_,?_⟩
  ·by_cases h2:j=k
   ·rw[h2,hνk]
   ·rw[hνo j h1 h2]
  ·rw[k9,if_neg h1]
   split
   ·rfl
   ·exact hj
 have hasn:∀b,(ν' g.new).has b↔b∈hb v++F1:=fun b=>by rw[hνn];exact oA
 have hask:∀b,(ν' k).has b↔b∈hb (ν k).v++(A++B):=fun b=>by rw[hνk];exact oA
 have hasK:∀b,(ν k).has b↔b∈hb (ν k).v++(A++((hb v++F1)++B)):=fun b=>by rw[oA,hF]
 have sub1:∀b,(ν' g.new).has b→(ν k).has b:=fun b h=>(hasK b).2 (by
  have:=(hasn b).1 h
  simp only[aR] at this⊢
  rcases this with h|h
  ·exact .inr (.inr (.inl (.inl h)))
  ·exact .inr (.inr (.inl (.inr h))))
 have sub2:∀b,(ν' k).has b→(ν k).has b:=fun b h=>(hasK b).2 (by
  have:=(hask b).1 h
  simp only[aR] at this⊢
  rcases this with h|h|h
  ·exact .inl h
  ·exact .inr (.inl h)
  ·exact .inr (.inr (.inr h)))
 have back:∀j e1,g'.at j=some e1→e1.live=true→∀b,(ν' j).has b→∃j0 e0,g.at j0=some e0∧e0.live=true∧(ν j0).has b∧(j≠g.new→j0=j)∧(j=g.new→j0=k):=by
  intro j e1 h1 h2 b hb1
  by_cases hj:j=g.new
  ·subst hj
   exact⟨k,_,hk,rfl,sub1 b hb1,fun h=>absurd rfl h,fun _=>rfl⟩
  ·by_cases lC:j=k
   ·subst lC
    exact⟨j,_,hk,rfl,sub2 b hb1,fun _=>rfl,fun h=>absurd h hj⟩
   ·rw[k9,if_neg hj,if_neg lC] at h1
    rw[hνo j hj lC] at hb1
    exact⟨j,e1,h1,h2,hb1,fun _=>rfl,fun h=>absurd h hj⟩
 have il:∀b,Own ν' g'.at b→Own ν g.at b:=by
  rintro b ⟨j,e1,h1,h2,h3⟩
  obtain⟨j0,e0,k1,k2,k3,_⟩:=back j e1 h1 h2 b h3
  exact⟨j0,e0,k1,k2,k3⟩
 have hw:∀b,ct X ν g.at b→b<w.heap.size→ct X ν' g'.at b∧w.heap[b]?=w.heap[b]?:=fun b hb _=>⟨⟨fun ho=>hb.1 (il b ho),hb.2⟩,rfl⟩
 refine hs.Wd (g':=g') (ν':=ν') (fun _=>False) (rZ.refl _ w) (fun _ hb=>hb.elim) hm ?_ ?_ ?_ ?_ ?_ ?_ rfl
 ·intro j e1 hj
  rw[k9] at hj
  by_cases hjn:j=g.new
  ·rw[if_pos hjn] at hj
   obtain rfl:=Option.some.inj hj
   subst hjn
   refine .inr ⟨?_,?_⟩
   ·rw[hνn]
    exact kC.frame hw (aI _) hm _ _ _ hv0 fun _ _=>rfl
   ·rw[hνn];exact n2
  ·rw[if_neg hjn] at hj
   by_cases lC:j=k
   ·rw[if_pos lC] at hj
    obtain rfl:=Option.some.inj hj
    subst lC
    refine .inr (zi (us:=us) ?_ hul ?_ (by simpa using hB) ?_)
    ·rw[hνk];simpa using ho
    ·rw[hνk]
     have:=hz _ ν' g'.at hw hm (.ref g.new) [] (by
      simp only[kC,and_true]
      exact⟨by rw[k9,if_pos rfl];rfl,by rw[hνn]⟩)
     simpa using this
    ·rw[hνk];exact n1
   ·rw[if_neg lC] at hj
    exact .inl ⟨hj,hνo j hjn lC,fun _ _ _ hb=>hb⟩
 ·intro j e1 b h1 h2 h3
  exact .inl (il b ⟨j,e1,h1,h2,h3⟩)
 ·intro j j' e1 e2 b h1 h2 h3 h4 h5 h6
  obtain⟨j0,e0,k1,k2,k3,k4,k5⟩:=back j e1 h1 h3 b h5
  obtain⟨j1,e3,l1,l2,l3,l4,l5⟩:=back j' e2 h2 h4 b h6
  have hjj:=hs.inj j0 j1 e0 e3 b k1 l1 k2 l2 k3 l3
  by_cases hj:j=g.new
  ·by_cases hj':j'=g.new
   ·rw[hj,hj']
   ·have e1:=k5 hj
    have e2:=l4 hj'
    have e3:j'=k:=by rw[←e2,←hjj,e1]
    subst hj e3
    exact(n3 b ((hask b).1 h6) ((hasn b).1 h5)).elim
  ·by_cases hj':j'=g.new
   ·have e1:=k4 hj
    have e2:=l5 hj'
    have e3:j=k:=by rw[←e1,hjj,e2]
    subst hj' e3
    exact(n3 b ((hask b).1 h5) ((hasn b).1 h6)).elim
   ·rw[←k4 hj,←l4 hj',hjj]
 ·intro j hj
  rw[k9] at hj
  by_cases hjn:j=g.new
  ·right
   rw[hjn,hνn]
   exact row_one q1
  ·rw[if_neg hjn] at hj
   by_cases lC:j=k
   ·exact .inl (by rw[lC,hk];rfl)
   ·rw[if_neg lC] at hj
    exact .inl hj
 ·rw[←hg'];exact hs.size
 ·intro t
  exact .inl ⟨by rw[←hg'],rfl⟩
theorem aak(k i c j:Nat){e e':TypeId}{xs ys:List (List T)}(hk:g.at k=some (.fg e xs))(hi:i<xs.length)(hc:(ow xs i)[c]?=some (.ref j))(hj:g.at j=some (.fg e' ys))(lC:j≠k) :
 zR P g ⟨g.sl,cZ (cZ g.st k (some (.fg e (xs.set i ((ow xs i).set c (.own e' ys)))))) j (some .dead)⟩:=by
 intro X ν a w hs
 obtain⟨us,ho,hul,jf,hB,hnd⟩:=uV hs hk
 obtain⟨v,A,Ft,B,hF,hv,hz⟩:=jf.zip i c hi hc
 simp only[kC] at hv
 obtain⟨hv1,rfl,rfl⟩:=hv
 obtain⟨hen,hndj⟩:=hs.en j _ hj
 simp only[bB] at hF
 rw[hF] at hnd
 generalize hg':(⟨g.sl,cZ (cZ g.st k (some (.fg e (xs.set i ((ow xs i).set c (.own e' ys)))))) j (some .dead)⟩:G)=g'
 have k9:∀l,g'.at l=if l=j then some .dead else if l=k then some (.fg e (xs.set i ((ow xs i).set c (.own e' ys)))) else g.at l:=by
  intro l
  rw[←hg']
  show cX (cZ (cZ g.st k _) j _) l=_
  rw[gr,gr]
  rfl
 refine⟨fun l=>if l=k then⟨(ν k).v,A++((hb (ν j).v++(ν j).f)++B)⟩ else ν l,?_⟩
 generalize hν':(fun l=>if l=k then(⟨(ν k).v,A++((hb (ν j).v++(ν j).f)++B)⟩:Nm) else ν l)=ν'
 have hνk:ν' k=⟨(ν k).v,A++((hb (ν j).v++(ν j).f)++B)⟩:=by rw[←hν'];simp
 have hνo:∀l,l≠k→ν' l=ν l:=fun l h1=>by rw[←hν'];simp[h1]
 have hm:lx g.at g'.at ν ν':=by
  intro l hl
  refine⟨?_,?_⟩
  ·by_cases h2:l=k
   ·rw[h2,hνk]
   ·rw[hνo l h2]
  ·rw[k9]
   split
   ·rfl
   ·split
    ·rfl
    ·exact hl
 have hask:∀b,(ν' k).has b→(ν k).has b∨(ν j).has b:=fun b h=>by
  rw[hνk,oA] at h
  rw[oA,oA,hF]
  simp only[aR] at h⊢
  rcases h with h|h|(h|h)|h
  ·exact .inl (.inl h)
  ·exact .inl (.inr (.inl h))
  ·exact .inr (.inl h)
  ·exact .inr (.inr h)
  ·exact .inl (.inr (.inr h))
 have back:∀l e1,g'.at l=some e1→e1.live=true→∀b,(ν' l).has b→(l=k∧((ν k).has b∨(ν j).has b))∨(l≠k∧l≠j∧g.at l=some e1∧(ν l).has b):=by
  intro l e1 h1 h2 b hb1
  rw[k9] at h1
  by_cases hlj:l=j
  ·rw[if_pos hlj] at h1
   obtain rfl:=Option.some.inj h1
   cases h2
  ·rw[if_neg hlj] at h1
   by_cases hlk:l=k
   ·subst hlk
    exact .inl ⟨rfl,hask b hb1⟩
   ·rw[if_neg hlk] at h1
    rw[hνo l hlk] at hb1
    exact .inr ⟨hlk,hlj,h1,hb1⟩
 have il:∀b,Own ν' g'.at b→Own ν g.at b:=by
  rintro b ⟨l,e1,h1,h2,h3⟩
  rcases back l e1 h1 h2 b h3 with⟨_,h|h⟩|⟨_,_,h4,h5⟩
  ·exact⟨k,_,hk,rfl,h⟩
  ·exact⟨j,_,hj,rfl,h⟩
  ·exact⟨l,e1,h4,h2,h5⟩
 have hw:∀b,ct X ν g.at b→b<w.heap.size→ct X ν' g'.at b∧w.heap[b]?=w.heap[b]?:=fun b hb _=>⟨⟨fun ho=>hb.1 (il b ho),hb.2⟩,rfl⟩
 refine hs.Wd (g':=g') (ν':=ν') (fun _=>False) (rZ.refl _ w) (fun _ hb=>hb.elim) hm ?_ ?_ ?_ ?_ ?_ ?_ rfl
 ·intro l e1 hl
  rw[k9] at hl
  by_cases hlj:l=j
  ·rw[if_pos hlj] at hl
   obtain rfl:=Option.some.inj hl
   exact .inr trivial
  ·rw[if_neg hlj] at hl
   by_cases hlk:l=k
   ·rw[if_pos hlk] at hl
    obtain rfl:=Option.some.inj hl
    subst hlk
    refine .inr (zi (us:=us) ?_ hul ?_ (by simpa using hB) ?_)
    ·rw[hνk];simpa using ho
    ·rw[hνk]
     exact hz _ ν' g'.at hw hm (.own e' ys) _ (kC.frame hw (aI _) hm _ _ _ hen fun _ _=>rfl)
    ·rw[hνk]
     refine P9 hnd hndj fun b h1 h2=>?_
     refine lC (hs.inj j l _ _ b hj hk rfl rfl (oA.2 h2) (oA.2 ?_))
     rw[hF];exact h1
   ·rw[if_neg hlk] at hl
    exact .inl ⟨hl,hνo l hlk,fun _ _ _ hb=>hb⟩
 ·intro l e1 b h1 h2 h3
  exact .inl (il b ⟨l,e1,h1,h2,h3⟩)
 ·intro l l' e1 e2 b h1 h2 h3 h4 h5 h6
  rcases back l e1 h1 h3 b h5 with⟨rfl,p1⟩|⟨p1,p2,p3,p4⟩
  ·rcases back l' e2 h2 h4 b h6 with⟨rfl,q1⟩|⟨q1,q2,q3,q4⟩
   ·rfl
   ·rcases p1 with p1|p1
    ·exact hs.inj l l' _ e2 b hk q3 rfl h4 p1 q4
    ·exact(q2 (hs.inj l' j e2 _ b q3 hj h4 rfl q4 p1)).elim
  ·rcases back l' e2 h2 h4 b h6 with⟨rfl,q1⟩|⟨q1,q2,q3,q4⟩
   ·rcases q1 with q1|q1
    ·exact hs.inj l l' e1 _ b p3 hk h3 rfl p4 q1
    ·exact(p2 (hs.inj l j e1 _ b p3 hj h3 rfl p4 q1)).elim
   ·exact hs.inj l l' e1 e2 b p3 q3 h3 h4 p4 q4
 ·intro l hl
  rw[k9] at hl
  by_cases hlj:l=j
  ·exact .inl (by rw[hlj,hj];rfl)
  ·rw[if_neg hlj] at hl
   by_cases hlk:l=k
   ·exact .inl (by rw[hlk,hk];rfl)
   ·rw[if_neg hlk] at hl
    exact .inl hl
 ·rw[←hg'];exact hs.size
 ·intro t
  exact .inl ⟨by rw[←hg'],rfl⟩
theorem zR.refl(g:G):zR P g g:=fun _ ν _ _ h=>⟨ν,h⟩
theorem zR.ND{n0:Nat}{g g':G}(h:zR P g g'):qj P n0 g g':=fun X ν a w _ hs=>h X ν a w hs
theorem aaG(j:Nat){e:TypeId}{xs:List (List D)}(hj:g.at j=some (.acc e xs)):zR P g ⟨g.sl,cZ g.st j (some (.fg e (lift xs)))⟩:=fun _ ν _ _ h=>⟨ν,h.lift hj⟩
theorem B5:∀{l:List (Option En)}{k:Nat}{e:En},cX l k=some e→cZ l k (some e)=l
 | [],k,e,h=>by cases k<;>simp[cX] at h
 | _::_,0,_,h=>by simp only[cX] at h;simp[cZ,h]
 | a::l,k+1,e,h=>by simp only[cX] at h;simp[cZ,B5 h]
theorem sN:∀{l:List (Option En)}{k:Nat}(x:Option En),k<l.length→(cZ l k x).length=l.length
 | [],k,_,h=>by simp at h
 | _::_,0,_,_=>rfl
 | a::l,k+1,x,h=>by simp[cZ,sN x (by simpa using h)]
theorem NH:∀(l:List (Option En))(x:Option En),cZ l l.length x=l++[x]
 | [],_=>rfl
 | a::l,x=>by simp[cZ,NH l x]
theorem G8:∀{l m:List (Option En)}{k:Nat}(x:Option En),k<l.length→cZ (l++m) k x=cZ l k x++m
 | [],_,k,_,h=>by simp at h
 | _::_,_,0,_,_=>rfl
 | a::l,m,k+1,x,h=>by simp[cZ,G8 x (by simpa using h)]
theorem xy:∀(l:List (Option En))(j k:Nat)(x y:Option En),j≠k→cZ (cZ l j x) k y=cZ (cZ l k y) j x
 | [],0,0,_,_,h=>absurd rfl h
 | [],0,k+1,_,_,_=>rfl
 | [],j+1,0,_,_,_=>rfl
 | [],j+1,k+1,x,y,h=>by simp[cZ,xy [] j k x y (by omega)]
 | _::_,0,0,_,_,h=>absurd rfl h
 | _::_,0,k+1,_,_,_=>rfl
 | _::_,j+1,0,_,_,_=>rfl
 | a::l,j+1,k+1,x,y,h=>by simp[cZ,xy l j k x y (by omega)]
def pQ:Nat→List T→List T
 | _,[]=>[]
 | n,.own _ _::ts=>.ref n::pQ (n+1) ts
 | n,.leaf d::ts=>.leaf d::pQ n ts
 | n,.ref j::ts=>.ref j::pQ n ts
def H4:List T→List (Option En)
 | []=>[]
 | .own e xs::ts=>some (.fg e xs)::H4 ts
 | .leaf _::ts=>H4 ts
 | .ref _::ts=>H4 ts
def ZT:List (Option En)→List (Option En)→List (Option En)
 | [],m=>m
 | a::l,m=>a::ZT l m
theorem K3:∀(l m:List (Option En)),ZT l m=l++m
 | [],_=>rfl
 | a::l,m=>by simp[ZT,K3 l m]
theorem y9{α:Type}(pre:List α)(a b:α)(r:List α):(pre++a::r).set pre.length b=pre++b::r:=by
 rw[List.set_append_right _ _ (aI _),Nat.sub_self,ir]
theorem vr{k i:Nat}{e:TypeId}:∀(rest pre:List T)(g:G)(xs:List (List T)),g.at k=some (.fg e xs)→i<xs.length→ow xs i=pre++rest →
 zR P g ⟨g.sl,ZT (cZ g.st k (some (.fg e (xs.set i (pre++pQ g.new rest))))) (H4 rest)⟩
 | [],pre,g,xs,hk,hi,hr=>by
   have e1:xs.set i pre=xs:=by
    rw[bF] at hr
    rw[←hr]
    refine mi fun j=>?_
    rw[kn]
    by_cases hj:i=j
    ·subst hj;rw[if_pos rfl,if_pos hi,UD hi]
    ·rw[if_neg hj]
   simp only[pQ,H4,bF,K3,e1]
   rw[B5 hk]
   exact zR.refl g
 | .leaf d::ts,pre,g,xs,hk,hi,hr=>by
   have:=vr ts (pre++[.leaf d]) g xs hk hi (by simpa using hr)
   simpa[pQ,H4] using this
 | .ref d::ts,pre,g,xs,hk,hi,hr=>by
   have:=vr ts (pre++[.ref d]) g xs hk hi (by simpa using hr)
   simpa[pQ,H4] using this
 | .own e' ys::ts,pre,g,xs,hk,hi,hr=>by
   have hkl:k<g.st.length:=nO (by rw[show cX g.st k=_ from hk];rfl)
   have hn:g.new=g.st.length:=nD g.st
   have h1:=ZL (P:=P) k i pre.length hk hi (e':=e') (ys:=ys) (by rw[hr];simp)
   have e1:(ow xs i).set pre.length (.ref g.new)=pre++ .ref g.new::ts:=by rw[hr];exact y9 _ _ _ _
   rw[e1] at h1
   have e2:cZ (cZ g.st k (some (.fg e (xs.set i (pre++ .ref g.new::ts))))) g.new (some (.fg e' ys))=cZ g.st k (some (.fg e (xs.set i (pre++ .ref g.new::ts))))++[some (.fg e' ys)]:=by
    generalize some (En.fg e (xs.set i (pre++ .ref g.new::ts)))=z
    rw[hn,←sN z hkl,NH]
   rw[e2] at h1
   refine h1.trans ?_
   have hk1:(⟨g.sl,cZ g.st k (some (.fg e (xs.set i (pre++ .ref g.new::ts))))++[some (.fg e' ys)]⟩:G).at k=some (.fg e (xs.set i (pre++ .ref g.new::ts))):=by
    show cX _ k=_
    rw[←G8 _ hkl,gr,if_pos rfl]
   have hr1:ow (xs.set i (pre++ .ref g.new::ts)) i=pre++ .ref g.new::ts:=by
    simp[ow,cC,hi]
   have:=vr ts (pre++[.ref g.new]) ⟨g.sl,cZ g.st k (some (.fg e (xs.set i (pre++ .ref g.new::ts))))++[some (.fg e' ys)]⟩ _ hk1 (by simpa using hi) (by rw[hr1];simp)
   have hn2:(⟨g.sl,cZ g.st k (some (.fg e (xs.set i (pre++ .ref g.new::ts))))++[some (.fg e' ys)]⟩:G).new=g.new+1:=by
    rw[G.new,nD,hn]
    simp[sN _ hkl]
   rw[hn2] at this
   simp only[K3,List.set_set] at this
   rw[G8 _ (by rw[sN _ hkl];exact hkl),pd] at this
   simpa[pQ,H4,K3] using this
theorem TD(k i:Nat){e:TypeId}{xs:List (List T)}(row:List T)(hk:g.at k=some (.fg e xs))(hi:i<xs.length)(hr:ow xs i=row) :
 zR P g ⟨g.sl,ZT (cZ g.st k (some (.fg e (xs.set i (pQ g.new row))))) (H4 row)⟩:=by
 have:=vr (P:=P) (k:=k) (i:=i) row [] g xs hk hi (by simpa using hr)
 simpa using this
def fu(k:Nat):List (Option En)→List T→List T
 | _,[]=>[]
 | st,.ref j::ts=>match HR j k,cX st j with
   | false,some (.fg e ys)=>.own e ys::fu k (cZ st j (some .dead)) ts
   | false,some (.acc e ys)=>.own e (lift ys)::fu k (cZ st j (some .dead)) ts
   | _,_=>.ref j::fu k st ts
 | st,.leaf d::ts=>.leaf d::fu k st ts
 | st,.own e ys::ts=>.own e ys::fu k st ts
def oY(k:Nat):List (Option En)→List T→List (Option En)
 | st,[]=>st
 | st,.ref j::ts=>match HR j k,cX st j with
   | false,some (.fg _ _)=>oY k (cZ st j (some .dead)) ts
   | false,some (.acc _ _)=>oY k (cZ st j (some .dead)) ts
   | _,_=>oY k st ts
 | st,.leaf _::ts=>oY k st ts
 | st,.own _ _::ts=>oY k st ts
theorem Tv{j k:Nat}(h:HR j k=false):j≠k:=fun e=>by subst e;rw[Gj] at h;cases h
theorem SG{k:Nat}(x:Option En):∀(ts:List T)(st:List (Option En)),fu k (cZ st k x) ts=fu k st ts∧oY k (cZ st k x) ts=cZ (oY k st ts) k x
 | [],st=>⟨rfl,rfl⟩
 | .leaf d::ts,st=>by
   obtain⟨h1,h2⟩:=SG (k:=k) x ts st
   exact⟨by simp[fu,h1],by simp[oY,h2]⟩
 | .own e ys::ts,st=>by
   obtain⟨h1,h2⟩:=SG (k:=k) x ts st
   exact⟨by simp[fu,h1],by simp[oY,h2]⟩
 | .ref j::ts,st=>by
   simp only[fu,oY]
   cases hj:HR j k with
   | true=>
     obtain⟨h1,h2⟩:=SG (k:=k) x ts st
     exact⟨by simp[h1],by simp[h2]⟩
   | false=>
     have jv:=Tv hj
     rw[gr,if_neg jv]
     obtain⟨h1,h2⟩:=SG (k:=k) x ts st
     obtain⟨h3,h4⟩:=SG (k:=k) x ts (cZ st j (some .dead))
     rw[xy st j k _ _ jv] at h3 h4
     cases cX st j with
     | none=>exact⟨by simp[h1],by simp[h2]⟩
     | some en=>cases en with
       | box cs=>exact⟨by simp[h1],by simp[h2]⟩
       | dead=>exact⟨by simp[h1],by simp[h2]⟩
       | map sn=>exact⟨by simp[h1],by simp[h2]⟩
       | acc e ys=>exact⟨by simp[h3],by simp[h4]⟩
       | fg e ys=>exact⟨by simp[h3],by simp[h4]⟩
theorem tY{k i:Nat}{e:TypeId}:∀(rest pre:List T)(g:G)(xs:List (List T)),g.at k=some (.fg e xs)→i<xs.length→ow xs i=pre++rest →
 zR P g ⟨g.sl,cZ (oY k g.st rest) k (some (.fg e (xs.set i (pre++fu k g.st rest))))⟩
 | [],pre,g,xs,hk,hi,hr=>by
   have e1:xs.set i pre=xs:=by
    rw[bF] at hr
    rw[←hr]
    refine mi fun j=>?_
    rw[kn]
    by_cases hj:i=j
    ·subst hj;rw[if_pos rfl,if_pos hi,UD hi]
    ·rw[if_neg hj]
   simp only[fu,oY,bF,e1]
   rw[B5 hk]
   exact zR.refl g
 | .leaf d::ts,pre,g,xs,hk,hi,hr=>by
   have:=tY ts (pre++[.leaf d]) g xs hk hi (by simpa using hr)
   simpa[fu,oY] using this
 | .own e' ys::ts,pre,g,xs,hk,hi,hr=>by
   have:=tY ts (pre++[.own e' ys]) g xs hk hi (by simpa using hr)
   simpa[fu,oY] using this
 | .ref j::ts,pre,g,xs,hk,hi,hr=>by
   have stay:(fu k g.st (.ref j::ts)= .ref j::fu k g.st ts)→(oY k g.st (.ref j::ts)=oY k g.st ts)→zR P g ⟨g.sl,cZ (oY k g.st (.ref j::ts)) k (some (.fg e (xs.set i (pre++fu k g.st (.ref j::ts)))))⟩:=by
    intro h1 h2
    have:=tY ts (pre++[.ref j]) g xs hk hi (by simpa using hr)
    rw[h1,h2]
    simpa using this
   have go:∀(e':TypeId)(ys:List (List T))(g0:G),zR P g g0→g0.sl=g.sl→g0.at k=some (.fg e xs)→g0.at j=some (.fg e' ys)→j≠k→cZ g0.st j (some .dead)=cZ g.st j (some .dead) →
    zR P g ⟨g.sl,cZ (oY k (cZ g.st j (some .dead)) ts) k (some (.fg e (xs.set i (pre++ .own e' ys::fu k (cZ g.st j (some .dead)) ts))))⟩:=by
    intro e' ys g0 hw hsl hk0 hj0 jv ju
    refine hw.trans ?_
    have h1:=aak (P:=P) k i pre.length j hk0 hi (by rw[hr];simp) hj0 jv
    have e1:(ow xs i).set pre.length (.own e' ys)=pre++ .own e' ys::ts:=by rw[hr];exact y9 _ _ _ _
    rw[e1,←xy _ _ _ _ _ jv,ju,hsl] at h1
    refine h1.trans ?_
    have hk1:(⟨g.sl,cZ (cZ g.st j (some .dead)) k (some (.fg e (xs.set i (pre++ .own e' ys::ts))))⟩:G).at k=some (.fg e (xs.set i (pre++ .own e' ys::ts))):=by
     show cX _ k=_
     rw[gr,if_pos rfl]
    have hr1:ow (xs.set i (pre++ .own e' ys::ts)) i=pre++ .own e' ys::ts:=by simp[ow,cC,hi]
    have:=tY ts (pre++[.own e' ys]) _ _ hk1 (by simpa using hi) (by rw[hr1];simp)
    obtain⟨q1,q2⟩:=SG (k:=k) (some (.fg e (xs.set i (pre++ .own e' ys::ts)))) ts (cZ g.st j (some .dead))
    simp only[q1,q2,List.set_set,pd] at this
    simpa using this
   cases lC:HR j k with
   | true=>exact stay (by simp[fu,lC]) (by simp[oY,lC])
   | false=>
     have jv:=Tv lC
     cases hen:cX g.st j with
     | none=>exact stay (by simp[fu,lC,hen]) (by simp[oY,lC,hen])
     | some en=>cases en with
       | box cs=>exact stay (by simp[fu,lC,hen]) (by simp[oY,lC,hen])
       | dead=>exact stay (by simp[fu,lC,hen]) (by simp[oY,lC,hen])
       | map sn=>exact stay (by simp[fu,lC,hen]) (by simp[oY,lC,hen])
       | fg e' ys=>
         have:=go e' ys g (zR.refl g) rfl hk hen jv rfl
         simpa[fu,oY,lC,hen] using this
       | acc e' ys=>
         have hk0:(⟨g.sl,cZ g.st j (some (.fg e' (lift ys)))⟩:G).at k=some (.fg e xs):=by
          show cX _ k=_
          rw[gr,if_neg (Ne.symm jv)]
          exact hk
         have hj0:(⟨g.sl,cZ g.st j (some (.fg e' (lift ys)))⟩:G).at j=some (.fg e' (lift ys)):=by
          show cX _ j=_
          rw[gr,if_pos rfl]
         have:=go e' (lift ys) ⟨g.sl,cZ g.st j (some (.fg e' (lift ys)))⟩ (aaG j hen) rfl hk0 hj0 jv (pd _ _ _ _)
         simpa[fu,oY,lC,hen] using this
theorem u5(k i:Nat){e:TypeId}{xs:List (List T)}(row:List T)(hk:g.at k=some (.fg e xs))(hi:i<xs.length)(hr:ow xs i=row) :
 zR P g ⟨g.sl,cZ (oY k g.st row) k (some (.fg e (xs.set i (fu k g.st row))))⟩:=by
 have:=tY (P:=P) (k:=k) (i:=i) row [] g xs hk hi (by simpa using hr)
 simpa using this
end
def apN:List Nat→List Nat→List Nat
 | [],m=>m
 | a::l,m=>a::apN l m
theorem UY:∀(l m:List Nat),apN l m=l++m
 | [],_=>rfl
 | a::l,m=>by simp[apN,UY l m]
def Yk:D→Bool
 | .val _=>true
 | .str _=>true
 | .dP _=>false
def Ub:List D→Bool
 | []=>true
 | d::ds=>Yk d&&Ub ds
def G5:List (List D)→Bool
 | []=>true
 | x::xs=>Ub x&&G5 xs
mutual
def T.sd:T→Bool
 | .leaf d=>Yk d
 | .ref _=>true
 | .own _ xs=>L5 xs
def Yu:List T→Bool
 | []=>true
 | t::ts=>t.sd&&Yu ts
def L5:List (List T)→Bool
 | []=>true
 | x::xs=>Yu x&&L5 xs
end
mutual
def PV.sd:PV→Bool
 | .any=>true
 | .undef=>true
 | .bZ=>true
 | .d x=>Yk x
 | .agg cs=>Yc cs
 | .jd cs=>Yc cs
 | .ptr _ _=>true
 | .acc _=>true
 | .gE _ _ _ _=>true
 | .gm _ _ _=>false
 | .fn _ cs=>Yc cs
def Yc:List PV→Bool
 | []=>true
 | p::ps=>p.sd&&Yc ps
end
def En.sd:En→Bool
 | .box cs=>Yc cs
 | .acc _ xs=>G5 xs
 | .fg _ xs=>L5 xs
 | .map _=>true
 | .dead=>true
def HH:List (Option En)→Bool
 | []=>true
 | none::es=>HH es
 | some e::es=>e.sd&&HH es
section
variable{P:Program}{w:World}{ok ok':Nat→Prop}{ν:Nat→Nm}{st:Nat→Option En}
theorem hU.sd{d:D}{v:Value}(h:Yk d=true)(hr:hU w ok d v):hU w ok' d v:=by
 cases hr with
 | val v h'=>exact .val v h'
 | str l h'=>exact .str l h'
 | nil=>cases h
 | emp a c h'=>cases h
 | dP=>cases h
mutual
theorem kC.sd:∀(t:T)(v:Value)(F:List Nat),t.sd=true→kC P w ok ν st t v F→kC P w ok' ν st t v F
 | .leaf d,v,F,hs,h=>by simp only[kC] at h⊢;simp only[T.sd] at hs;exact⟨h.1.sd hs,h.2⟩
 | .ref j,v,F,hs,h=>by simpa only[kC] using h
 | .own e xs,v,F,hs,h=>by
   simp only[T.sd] at hs
   simp only[kC] at h⊢
   obtain⟨us,F1,h1,h2,h3,h4,h5⟩:=h
   exact⟨us,F1,h1,h2,bw.sd xs us F1 hs h3,h4,h5⟩
theorem bf.sd:∀(ts:List T)(vs:List Value)(F:List Nat),Yu ts=true→bf P w ok ν st ts vs F→bf P w ok' ν st ts vs F
 | [],[],F,_,h=>by simpa only[bf] using h
 | [],_::_,F,_,h=>by simp[bf] at h
 | _::_,[],F,_,h=>by simp[bf] at h
 | t::ts,v::vs,F,hs,h=>by
   simp only[Yu,ai] at hs
   simp only[bf] at h⊢
   obtain⟨F1,F2,h1,h2,h3⟩:=h
   exact⟨F1,F2,kC.sd t v F1 hs.1 h1,bf.sd ts vs F2 hs.2 h2,h3⟩
theorem bw.sd:∀(xs:List (List T))(us:List (List Value))(F:List Nat),L5 xs=true→bw P w ok ν st xs us F→bw P w ok' ν st xs us F
 | [],[],F,_,h=>by simpa only[bw] using h
 | [],_::_,F,_,h=>by simp[bw] at h
 | _::_,[],F,_,h=>by simp[bw] at h
 | x::xs,u::us,F,hs,h=>by
   simp only[L5,ai] at hs
   simp only[bw] at h⊢
   obtain⟨F1,F2,h1,h2,h3⟩:=h
   exact⟨F1,F2,bf.sd x u F1 hs.1 h1,bw.sd xs us F2 hs.2 h2,h3⟩
end
mutual
theorem aF.sd:∀(p:PV)(v:Value),p.sd=true→aF w ok ν st p v→aF w ok' ν st p v
 | .any,_,_,_=>by simp only[aF]
 | .undef,_,_,h=>by simpa only[aF] using h
 | .bZ,_,_,h=>by simpa only[aF] using h
 | .d x,v,hs,h=>by simp only[aF] at h⊢;exact h.sd hs
 | .agg cs,v,hs,h=>by
   simp only[aF] at h⊢
   obtain⟨vs,e,h⟩:=h
   exact⟨vs,e,aB.sd cs vs (by simpa only[PV.sd] using hs) h⟩
 | .jd cs,v,hs,h=>by
   simp only[aF] at h⊢
   obtain⟨vs,e,h⟩:=h
   exact⟨vs,e,aB.sd cs vs (by simpa only[PV.sd] using hs) h⟩
 | .ptr _ _,_,_,h=>by simpa only[aF] using h
 | .acc _,_,_,h=>by simpa only[aF] using h
 | .gE _ _ _ _,_,_,h=>by simpa only[aF] using h
 | .gm _ _ _,_,hs,_=>by simp[PV.sd] at hs
 | .fn f cs,v,hs,h=>by
   simp only[aF] at h⊢
   obtain⟨vs,e,h⟩:=h
   exact⟨vs,e,aB.sd cs vs (by simpa only[PV.sd] using hs) h⟩
theorem aB.sd:∀(ps:List PV)(vs:List Value),Yc ps=true→aB w ok ν st ps vs→aB w ok' ν st ps vs
 | [],[],_,_=>by simp[aB]
 | [],_::_,_,h=>by simp[aB] at h
 | _::_,[],_,h=>by simp[aB] at h
 | p::ps,v::vs,hs,h=>by
   simp only[Yc,ai] at hs
   simp only[aB] at h⊢
   exact⟨aF.sd p v hs.1 h.1,aB.sd ps vs hs.2 h.2⟩
end
theorem X2:∀{xs:List (List D)},G5 xs=true→∀(i j:Nat)(x:List D)(d:D),xs[i]?=some x→x[j]?=some d→Yk d=true:=by
 have h1:∀{x:List D},Ub x=true→∀(j:Nat)(d:D),x[j]?=some d→Yk d=true:=by
  intro x
  induction x with
  | nil=>intro _ j d h;simp at h
  | cons e x ih=>
    intro h j d hd
    simp only[Ub,ai] at h
    cases j with
    | zero=>obtain rfl:e=d:=by simpa using hd
            exact h.1
    | succ j=>exact ih h.2 j d (by simpa using hd)
 intro xs
 induction xs with
 | nil=>intro _ i j x d h;simp at h
 | cons y xs ih=>
   intro h i j x d hx hd
   simp only[G5,ai] at h
   cases i with
   | zero=>obtain rfl:y=x:=by simpa using hx
           exact h1 h.1 j d hd
   | succ i=>exact ih h.2 i j x d (by simpa using hx) hd
theorem kX.sd{k:Nat}{e:En}(hs:e.sd=true)(h:kX P w ok ν st k e):kX P w ok' ν st k e:=by
 cases e with
 | dead=>trivial
 | box cs=>
   obtain⟨b,vs,T,h1,h2,h3,h4⟩:=h
   exact⟨b,vs,T,h1,h2,aB.sd cs vs (by simpa only[En.sd] using hs) h3,h4⟩
 | acc e xs=>
   obtain⟨us,h1,h2,h3,h4⟩:=h
   exact⟨us,h1,⟨h2.len,h2.hx,h2.hu,fun i j x u d v k1 k2 k3 k4=>(h2.hr i j x u d v k1 k2 k3 k4).sd (X2 (by simpa only[En.sd] using hs) i j x d k1 k3)⟩,h3,h4⟩
 | fg e xs=>exact⟨kC.sd (.own e xs) _ _ (by simpa only[T.sd,En.sd] using hs) h.1,h.2⟩
 | map sn=>exact h
theorem Lr:∀{es:List (Option En)},HH es=true→∀(i:Nat)(e:En),cX es i=some e→e.sd=true
 | [],_,i,e,h=>by cases i<;>simp[cX] at h
 | none::es,hs,0,e,h=>by simp[cX] at h
 | none::es,hs,i+1,e,h=>Lr (es:=es) (by simpa only[HH] using hs) i e (by simpa[cX] using h)
 | some a::es,hs,0,e,h=>by
   simp only[HH,ai] at hs
   obtain rfl:a=e:=by simpa[cX] using h
   exact hs.1
 | some a::es,hs,i+1,e,h=>by
   simp only[HH,ai] at hs
   exact Lr hs.2 i e (by simpa[cX] using h)
end
theorem T2{P:Program}{o:Oper}{g:G}{nc:Operand}{xs:List Operand}{tys:Array TypeId}{d:Nat}(ho:o.op= .call ⟨.value nc,⟨xs⟩,tys⟩)(hd:o.dst=some d){f:FuncId}{cap:List PV}(hfn:g.ev nc= .fn f cap)
 (ks m:List Nat) (cO:List PV) (res:PV) (st':List (Option En)) (hC:C P f cO [] (bM res st')) (oP:ik g ks (xs.map g.ev++cap) cO) (hsd:res.sd=true) (hse:HH st'=true) (hm:m.Nodup) (hnew:iO g 0 m) (hml:st'.length≤m.length)
 (X:Cx) (ν:Nat→Nm) (a:Act) (w:World) (next:Act→World→Prop) (Q:Exit→Act→World→Prop) (hs:Sat P X ν g a w)
 (hn:∀ν' a' w',Sat P X ν' ⟨lK g.sl d (res.mc m),xD g.st (kY m m st')⟩ a' w'→next a' w'):o.wp P a w next Q:=by
 have hfv:=hs.ev nc
 rw[hfn] at hfv
 simp only[aF] at hfv
 obtain⟨vcap,hfv,jO⟩:=hfv
 have hxs:=AQ hs xs
 let Xc:Cx:=⟨w,Own (fun i=>ν (look m i)) (cX []),fun i=>ν (look m i),cX [],X.Z⟩
 have hno:∀(ν:Nat→Nm) b,¬Own ν (cX []) b:=by
  rintro ν b ⟨k,e,h,_⟩
  cases k<;>simp[cX] at h
 have hw:∀b,ct X ν g.at b→b<w.heap.size→ct Xc (fun i=>ν (look m i)) (cX []) b∧w.heap[b]?=w.heap[b]?:=fun b hb _=>⟨⟨hno _ b,hb.2⟩,rfl⟩
 have il:∀b,Own ν g.at b→ct Xc (fun i=>ν (look m i)) (cX []) b:=fun b hb=>⟨hno _ b,hs.KM hb⟩
 have lP:aB w (ct Xc (fun i=>ν (look m i)) (cX [])) (fun i=>ν (look m i)) (cX []) cO (xs.map a.eval++vcap):=aB.vw hs hw il _ oP (hxs.app jO)
 obtain⟨⟨fn,hfn1,hfn2,hfn3⟩,hC⟩:=hC
 have hr:(execOp a.eval o).run P w= .ok (.enter f ⟨xs.map a.eval++vcap⟩) w:=by
  have n1 : ¬ fn.name = "runtime.NumGoroutine" := by simpa using hfn3
  have n2:¬fn.body=none:=fun e=>by rw[e] at hfn2;cases hfn2
  simp[execOp,ho,resolve,hfv,Deferred.ofValue,invoke,callFunc,program,hfn1,n1,n2,Sem.run]
 have k9:∀k,(⟨cO,[]⟩:G).at k=none:=fun k=>by cases k<;>rfl
 have hent:Sat P Xc (fun i=>ν (look m i)) ⟨cO,[]⟩ ⟨⟨xs.map a.eval++vcap⟩,[]⟩ w:=by
  refine⟨by simpa using lP.length,fun t=>?_,fun k e h=>?_,fun k k' e e' b h=>?_,fun b hb=>?_,fun k h=>?_,fun k h=>?_,⟨fun b hb=>?_,hs.kt rfl fun b hb=>(hno _ b hb).elim⟩,rZ.refl _ w,rfl⟩
  ·have key:∀(ps:List PV)(us:List Value)(t:Nat),aB w (ct Xc (fun i=>ν (look m i)) (cX [])) (fun i=>ν (look m i)) (cX []) ps us→aF w (ct Xc (fun i=>ν (look m i)) (cX [])) (fun i=>ν (look m i)) (cX []) (nth ps t) (us.getD t Go.undef):=by
    intro ps
    induction ps with
    | nil=>intro us t _;cases t<;>simp[nth,aF]
    | cons p ps ih=>
      intro us t hr
      cases us with
      | nil=>simp[aB] at hr
      | cons u us=>
        simp only[aB] at hr
        cases t with
        | zero=>simpa[nth] using hr.1
        | succ t=>simpa[nth] using ih us t hr.2
   have:=key cO _ t lP
   show aF w (ct Xc (fun i=>ν (look m i)) (cX [])) (fun i=>ν (look m i)) (cX []) (nth cO t) ((⟨xs.map a.eval++vcap⟩:Array Value).getD t Go.undef)
   simpa[Array.getD_eq_getD_getElem?] using this
  ·rw[k9] at h;cases h
  ·rw[k9] at h;cases h
  ·exact(hno _ b hb).elim
  ·rw[k9] at h;cases h
  ·exact⟨rfl,h⟩
  ·exact⟨Nat.lt_of_lt_of_le (hs.D5 b hb).1 hs.zk.size,hno _ b⟩
 unfold Oper.wp
 rw[hr,Oper.upon_enter]
 refine(hC Xc (xs.map a.eval++vcap) rfl rfl hent).mono ?_
 rintro e w' ⟨v,res',st2,ν',rfl,⟨rfl,rfl⟩,gD⟩
 let Xd:Cx:=⟨w,Own (fun i=>ν (look m i)) (cX []),fun i=>ν (look m i),cX [],fun b=>X.Z b∨(Own ν g.at b∧¬Own (fun i=>ν (look m i)) (cX []) b)⟩
 have hsat2:OE P Xd ν' res' st2 v w':=by
  refine⟨gD.size,fun t=>?_,fun k e h=>kX.sd (Lr hse k e h) (gD.en k e h),gD.inj,gD.base,gD.nu,gD.par,⟨fun b hb=>?_,gD.D5.k⟩,gD.zk,gD.defs⟩
  ·have hx:(nth [res'] t).sd=true:=by
    cases t with
    | zero=>exact hsd
    | succ t=>cases t<;>rfl
   exact aF.sd _ _ hx (gD.sl t)
  ·rcases hb with hb|hb
   ·exact gD.D5 b hb
   ·exact⟨hs.lt hb.1,hno _ b⟩
 obtain⟨ν'',hs'⟩:=hs.leave m [] st2 hm hml (Nat.zero_le _) (fun i hi=>by simp at hi) (fun i hi hi'=>hnew.at i hi (by omega)) Xd rfl (fun _ _=>rfl) rfl rfl rfl hsat2 d
 show next (a.put o.dst v) w'
 rw[hd]
 exact hn ν'' _ _ hs'
section
variable{E:Env}{g:G}{d:Nat}{ty:TypeId}{pos:String}{eG:Array Edge}{gd:Option (Nat×Bool)}
theorem Va(nc:Operand)(xs:List Operand)(tys:Array TypeId)(f:FuncId)(cap:List PV)(hfn:g.ev nc= .fn f cap)(ks M:List Nat)(cO:List PV)(res:PV)(st':List (Option En))(hC:C E.P f cO [] (bM res st'))
 (oP:ik g ks (xs.map g.ev++cap) cO) (hsd:res.sd=true) (hse:HH st'=true) (hm:M.Nodup) (hnew:iO g 0 M) (hml:st'.length≤M.length) :
 kG E.P ⟨some d,.call ⟨.value nc,⟨xs⟩,tys⟩,ty,pos,eG,gd⟩ g ⟨da nc++xs.flatMap da,ks++M⟩ ⟨some (d,res.mc M),kY M M st'⟩:=by
 intro g2 hg
 have e1:=hg.ev (x:=nc) (fun t h=>by simp[h])
 have e2:=ux hg xs (fun t h=>by simp only[aR];exact .inr h)
 have hfr:∀(ks':List Nat)(n:Nat),(∀k∈ks',k∈M)→iO g n ks'→iO g2 n ks':=by
  intro ks'
  induction ks' with
  | nil=>intro n _ _;cases n<;>trivial
  | cons k ks' ih=>
    intro n hk h
    cases n with
    | zero=>
      simp only[iO] at h⊢
      exact⟨by rw[hg.p k (by simp[hk k (by simp)])];exact h.1,ih 0 (fun k h=>hk k (by simp[h])) h.2⟩
    | succ n=>
      simp only[iO] at h⊢
      exact ih n (fun k h=>hk k (by simp[h])) h
 intro X ν a w next Q hs hn
 exact T2 rfl rfl (by rw[e1,hfn]) ks M cO res st' hC (by rw[e2];exact oP.agree (fun k hk=>hg.p k (by simp[hk]))) hsd hse hm (hfr M 0 (fun _ h=>h) hnew) hml X ν a w next Q hs hn
theorem KR{m:Option (List Ky)}{gs:Option Nat}{rest:qO→Option (List Ky)→G→Prop}{nc:Operand}{xs:List Operand}{tys:Array TypeId}{f:FuncId}(cap:List PV)(ks M:List Nat){cO:List PV}{res:PV}{st':List (Option En)}
 (hC:C E.P f cO [] (bM res st')) (h1:g.ev nc= .fn f cap) (h2:ik g ks (SU g xs++cap) cO) (h3:res.sd=true∧HH st'=true∧LP M=true∧xC (lL st') (EP M)=true∧iO g 0 M)
 (hr:rest .on (mz m (oe (tR gs ⟨da nc++Cp xs,apN ks M⟩) ⟨some (d,res.mc M),kY M M st'⟩)) (g.app ⟨some (d,res.mc M),kY M M st'⟩)):sq E m gs ⟨some d,.call ⟨.value nc,⟨xs⟩,tys⟩,ty,pos,eG,gd⟩ g rest:=by
 rw[xX,UY] at hr
 rw[Ca] at h2
 obtain⟨k1,k2,k3,k4,k5⟩:=h3
 have k4:=kU k4
 rw[nD,D9] at k4
 exact fe (Va nc xs tys f cap h1 ks M cO res st' hC h2 k1 k2 (J1 k3) k5 k4) hr
end
section
variable{E:Env}{n0:Nat}{g:G}{c:Code}{Q:Ex→G→Prop}
theorem RD{A:Type}(I:A→Prop)(T:A→G)(μ:A→Nat)(a0:A)(hi:I a0)(h0:qj E.P n0 g (T a0))
 (round:∀a,I a→W E.P n0 c (T a) (qF E.P n0 I T μ a Q)):W E.P n0 (.loop c) g Q:=by
 refine UU (α:={a // I a}) (fun x=>T x.1) (fun x=>μ x.1) ⟨a0,hi⟩ h0 ?_
 rintro⟨a,ha⟩
 have h:=round a ha
 have e:(qF E.P n0 I T μ a Q)=(Jh E.P n0 (fun x:{a // I a}=>T x.1) (fun x=>μ x.1) ⟨a,ha⟩ Q):=by
  funext e g'
  cases e with
  | normal=>
    simp only[qF,Jh]
    apply propext
    exact⟨fun⟨a',h1,h2,h3⟩=>⟨⟨a',h1⟩,h2,h3⟩,fun⟨⟨a',h1⟩,h2,h3⟩=>⟨a',h1,h2,h3⟩⟩
  | exit id=>rfl
  | ret=>rfl
 rw[←e]
 exact h
theorem Be{P:Program}{g':G}(k i:Nat){e:TypeId}{xs:List (List T)}(row:List T)(hk:g.at k=some (.fg e xs))(hi:i<xs.length)(hr:ow xs i=row)
 (h:qj P n0 ⟨g.sl,cZ (oY k g.st row) k (some (.fg e (xs.set i (fu k g.st row))))⟩ g'):qj P n0 g g':=qj.trans (zR.ND (u5 k i row hk hi hr)) h
end
theorem XV{xs:List (List T)}{i:Nat}{r:List T}(h:i<xs.length):ow (xs.set i r) i=r:=by simp[ow,cC,h]
theorem Rp(xs:List (List T))(r:List T):ow (xs++[r]) xs.length=r:=by simp[ow,cC]
theorem wC{xs:List (List T)}{r:List T}{n:Nat}(h:xs.length=n):ow (xs++[r]) n=r:=by subst h;exact Rp xs r
theorem wo{xs:List (List T)}{r r':List T}{n:Nat}(h:xs.length=n):(xs++[r]).set n r'=xs++[r']:=by subst h;exact y9 xs r r' []
attribute [go_sem] Yk Ub G5 T.sd Yu L5 PV.sd Yc En.sd HH apN pQ H4 ZT fu oY List.set_set Rp List.length_set
section
variable{P:Program}{w:World}{ok:Nat→Prop}{ν:Nat→Nm}{st:Nat→Option En}
theorem bw.split:∀(n:Nat){x:List (List T)}{u:List (List Value)}{F:List Nat},bw P w ok ν st x u F→∃F1 F2,bw P w ok ν st (x.take n) (u.take n) F1∧F=F1++F2
 | 0,x,u,F,h=>⟨[],F,by simp[bw],rfl⟩
 | n+1,[],[],F,h=>⟨[],F,by simp[bw],rfl⟩
 | _+1,[],_::_,_,h=>by simp[bw] at h
 | _+1,_::_,[],_,h=>by simp[bw] at h
 | n+1,t::ts,a::u,F,h=>by
   simp only[bw] at h
   obtain⟨F1,F2,h1,h2,rfl⟩:=h
   obtain⟨G1,G2,k1,rfl⟩:=bw.split n h2
   refine⟨F1++G1,G2,?_,by rw[bm]⟩
   simp only[List.take_succ_cons,bw]
   exact⟨F1,G1,h1,k1,rfl⟩
end
section
variable{E:Env}{g:G}{d:Nat}{ty:TypeId}{pos:String}{eG:Array Edge}{gd:Option (Nat×Bool)}
end
def Xf(P:Program)(ops:Array Oper)(Q:Ex→G→Prop):Nat→Array Bool→G→Prop
 | 0,listed,g=>Region.ready .any ops listed=[]∧Q .normal g
 | f+1,listed,g=>(Region.ready .any ops listed=[]→Q .normal g)∧∀i∈Region.ready .any ops listed,∃o R δ,ops[i]?=some o∧Fs P ops o g R δ∧Xf P ops Q f (listed.setIfInBounds i true) (g.app δ)
theorem Xf.ok{P:Program}{ops:Array Oper}{Q:Ex→G→Prop}{X:Cx}:∀(f:Nat)(listed:Array Bool)(g:G)(ν:Nat→Nm)(a:Act)(w:World),Xf P ops Q f listed g→Sat P X ν g a w→wpAny P .any ops (LF P X Q) f listed a w
 | 0,_,g,ν,_,_,h,hs=>⟨h.1,g,ν,h.2,hs⟩
 | f+1,listed,g,ν,a,w,h,hs=>by
   refine⟨fun hr=>⟨g,ν,h.1 hr,hs⟩,fun i hi=>?_⟩
   obtain⟨o,R,δ,ho,ju,hx⟩:=h.2 i hi
   have:=ju g ⟨fun _ _=>rfl,fun _ _=>rfl⟩ X ν a w (wpAny P .any ops (LF P X Q) f (listed.setIfInBounds i true)) (LF P X Q) hs fun ν' a' w' hs'=>Xf.ok f _ _ ν' a' w' hx hs'
   unfold wpOp
   simp only[ho]
   by_cases hw:Region.wanted o (yielded ops a.tmps)=true
   ·simp only[hw,if_true] at this⊢;exact .inl this
   ·simp only[hw,if_false] at this⊢;exact this
section
variable{E:Env}{n0:Nat}{g:G}{Q:Ex→G→Prop}
end
section
variable{P:Program}{g:G}
theorem Rj(k:Nat){e:TypeId}{xs:List (List T)}{ys:List (List D)}(hk:g.at k=some (.fg e xs))(hf:cR xs=some ys) :
 zR P g ⟨g.sl,cZ g.st k (some (.acc e ys))⟩:=by
 intro X ν a w hs
 obtain⟨us,ho,hul,jf,hB,hnd⟩:=uV hs hk
 generalize hg':(⟨g.sl,cZ g.st k (some (.acc e ys))⟩:G)=g'
 have k9:∀j,g'.at j=if j=k then some (.acc e ys) else g.at j:=by
  intro j
  rw[←hg']
  exact gr g.st k _ j
 refine⟨fun j=>if j=k then⟨(ν k).v,[]⟩ else ν j,?_⟩
 generalize hν':(fun j=>if j=k then(⟨(ν k).v,[]⟩:Nm) else ν j)=ν'
 have hνk:ν' k=⟨(ν k).v,[]⟩:=by rw[←hν'];simp
 have hνo:∀j,j≠k→ν' j=ν j:=fun j h1=>by rw[←hν'];simp[h1]
 have hm:lx g.at g'.at ν ν':=by
  intro j hj
  refine⟨?_,?_⟩
  ·by_cases h2:j=k
   ·rw[h2,hνk]
   ·rw[hνo j h2]
  ·rw[k9]
   split
   ·rfl
   ·exact hj
 have hask:∀b,(ν' k).has b↔b∈hb (ν k).v:=fun b=>by rw[hνk,oA];simp
 have hasK:∀b,(ν k).has b↔b∈hb (ν k).v++(ν k).f:=fun b=>oA
 have back:∀j e1,g'.at j=some e1→e1.live=true→∀b,(ν' j).has b→∃e0,g.at j=some e0∧e0.live=true∧(ν j).has b:=by
  intro j e1 h1 h2 b hb1
  by_cases lC:j=k
  ·subst lC
   exact⟨_,hk,rfl,(hasK b).2 (List.mem_append_left _ ((hask b).1 hb1))⟩
  ·rw[k9,if_neg lC] at h1
   rw[hνo j lC] at hb1
   exact⟨e1,h1,h2,hb1⟩
 have il:∀b,Own ν' g'.at b→Own ν g.at b:=by
  rintro b ⟨j,e1,h1,h2,h3⟩
  obtain⟨e0,k1,k2,k3⟩:=back j e1 h1 h2 b h3
  exact⟨j,e0,k1,k2,k3⟩
 have hw:∀b,ct X ν g.at b→b<w.heap.size→ct X ν' g'.at b∧w.heap[b]?=w.heap[b]?:=fun b hb _=>⟨⟨fun ho=>hb.1 (il b ho),hb.2⟩,rfl⟩
 have hF:∀b∈(ν k).f,ct X ν' g'.at b:=by
  intro b hbf
  have hKb:(ν k).has b:=(hasK b).2 (List.mem_append_right _ hbf)
  refine⟨?_,hs.KM ⟨k,_,hk,rfl,hKb⟩⟩
  rintro⟨j,e1,h1,h2,h3⟩
  obtain⟨e0,k1,k2,k3⟩:=back j e1 h1 h2 b h3
  have lC:=hs.inj j k e0 _ b k1 hk k2 rfl k3 hKb
  subst lC
  have h4:=(hask b).1 h3
  exact(df.1 hnd).2.2 b h4 b hbf rfl
 obtain⟨l1,l2,l3⟩:=bw.data hw xs us (ν k).f ys hf jf hF
 have oh:cg w (ct X ν' g'.at) (P.cellsOf e) ys us:=by
  refine⟨l1,fun i x hx=>?_,fun i u hu=>hul i u hu,fun i j x u d v h1 h2 h3 h4=>(l3 i x u h1 h2).2 j d v h3 h4⟩
  have hi:i<us.length:=by
   have:=(List.getElem?_eq_some_iff.1 hx).1
   omega
  have hu:=List.getElem?_eq_getElem hi
  rw[(l3 i x _ hx hu).1]
  exact hul i _ hu
 refine hs.Wd (g':=g') (ν':=ν') (fun _=>False) (rZ.refl _ w) (fun _ hb=>hb.elim) hm ?_ ?_ ?_ ?_ ?_ ?_ rfl
 ·intro j e1 hj
  rw[k9] at hj
  by_cases lC:j=k
  ·rw[if_pos lC] at hj
   obtain rfl:=Option.some.inj hj
   subst lC
   refine .inr ⟨us,?_,oh,by omega,by rw[hνk]⟩
   rw[hνk,←l2]
   exact ho
  ·rw[if_neg lC] at hj
   exact .inl ⟨hj,hνo j lC,fun _ _ _ hb=>hb⟩
 ·intro j e1 b h1 h2 h3
  exact .inl (il b ⟨j,e1,h1,h2,h3⟩)
 ·intro j j' e1 e2 b h1 h2 h3 h4 h5 h6
  obtain⟨e0,k1,k2,k3⟩:=back j e1 h1 h3 b h5
  obtain⟨e3,l1,l2,l3⟩:=back j' e2 h2 h4 b h6
  exact hs.inj j j' e0 e3 b k1 l1 k2 l2 k3 l3
 ·intro j hj
  rw[k9] at hj
  by_cases lC:j=k
  ·exact .inl (by rw[lC,hk];rfl)
  ·rw[if_neg lC] at hj
   exact .inl hj
 ·rw[←hg'];exact hs.size
 ·intro t
  exact .inl ⟨by rw[←hg'],rfl⟩
end
theorem aav{E:Env}{g g':G}{o:Oper}{rest:qO→Option (List Ky)→G→Prop}(hw:zR E.P g g')(h:sq E none none o g' rest):sq E none none o g rest:=by
 rcases h with⟨R,δ,h1,h2⟩|⟨_,_,g2,h1,h2⟩
 ·exact .inr ⟨rfl,rfl,g',hw,R,δ,h1,h2⟩
 ·exact .inr ⟨rfl,rfl,g2,hw.trans h1,h2⟩
theorem G9{E:Env}{rs:List ResultVar}{n0:Nat}{R:PV→List (Option En)→Prop}{g g':G}(hw:zR E.P g g')(h:Tt E rs n0 R g'):Tt E rs n0 R g:=
 let ⟨g2,h1,h2⟩:=h
 ⟨g2,qj.trans hw.ND h1,h2⟩
theorem Td{xs:List (List T)}{r1 r2:List T}{n:Nat}(h:xs.length=n):ow (xs++[r1,r2]) n=r1:=by subst h;simp[ow,cC]
theorem Un{xs:List (List T)}{r1 r2:List T}{n:Nat}(h:xs.length=n):ow (xs++[r1,r2]) (n+1)=r2:=by subst h;simp[ow,cC]
theorem V7{xs:List (List T)}{r1 r2 r:List T}{n:Nat}(h:xs.length=n):(xs++[r1,r2]).set n r=xs++[r,r2]:=by subst h;simp
theorem V4{xs:List (List T)}{r1 r2 r:List T}{n:Nat}(h:xs.length=n):(xs++[r1,r2]).set (n+1) r=xs++[r1,r]:=by subst h;simp
attribute [go_sem] dR dK xV W5
theorem iX{E:Env}{ops:Array Oper}{o:Oper}{os:List Oper}{g:G}{K:G→Prop}(hg:o.guard=none)(h:sq E none none o g (fun _ _ g'=>WO E.P ops os g' K)):WO E.P ops (o::os) g K:=by
 rcases h with⟨R,δ,h1,h2⟩|⟨_,_,g',hw,R,δ,h1,h2⟩
 ·exact xG (Fs.plain hg h1) h2
 ·exact Qr hw (xG (Fs.plain hg h1) h2)
def kv:List (Int×Value)→Int→Option Value
 | [],_=>none
 | p::l,n=>if n=p.1 then some p.2 else kv l n
theorem sx(n:Int):∀(es:List MapEntry)(sn:List (Int×Value))(i:Nat),xR es=xE sn →
 (kv sn n=none→Instr.findNow (.int .i64) (.int .i64 n) es i=some none)∧(∀v,kv sn n=some v→∃j,Instr.findNow (.int .i64) (.int .i64 n) es i=some (some (j,v)))
 | [],[],i,_=>⟨fun _=>rfl,fun v h=>by cases h⟩
 | [],_::_,i,h=>by simp[xR,xE] at h
 | _::_,[],i,h=>by simp[xR,xE] at h
 | e::es,p::sn,i,h=>by
   simp only[xR,xE,aQ,List.cons.injEq,Prod.mk.injEq] at h
   obtain⟨⟨h1,h2⟩,h3⟩:=h
   obtain⟨i1,i2⟩:=sx n es sn (i+1) h3
   simp only[kv,Instr.findNow,h1,Instr.sameNow,if_true]
   by_cases hn:n=p.1
   ·simp only[hn,if_true,beq_self_eq_true,h2]
    exact⟨fun h=>by simp at h,fun v hv=>⟨i,by simpa using hv⟩⟩
   ·have:(n == p.1)=false:=by simpa using hn
    simp only[hn,if_false,this]
    exact⟨i1,i2⟩
section
variable{E:Env}{g:G}{d:Nat}{ty:TypeId}{pos:String}{eG:Array Edge}{gd:Option (Nat×Bool)}{dn:Option Nat}
theorem Wn{w:World}{ok:Nat→Prop}{ν:Nat→Nm}{st:Nat→Option En}{v:Value}(h:okV v=true):aF w ok ν st (Yn v) v:=by
 have key:∀vs:List Value,(vs.all fun v=>v.oneCell')=true→aB w ok ν st (vs.map fun v=>.d (.val v)) vs:=by
  intro vs
  induction vs with
  | nil=>intro _;simp[aB]
  | cons v vs ih=>
    intro h
    simp only[List.all_cons,ai] at h
    simp only[aQ,aB,aF]
    exact⟨.val v h.1,ih h.2⟩
 cases v with
 | agg cs=>simp only[okV] at h;simp only[Yn,aF];exact⟨cs.toList,rfl,key _ h⟩
 | _=>simp only[okV] at h;simp only[Yn,aF];exact .val _ h
theorem WX{w:World}{ok:Nat→Prop}{ν:Nat→Nm}{st:Nat→Option En}{u v:Value}(h:aF w ok ν st (Yn u) v):v=u:=by
 have key:∀us vs:List Value,aB w ok ν st (us.map fun v=>.d (.val v)) vs→vs=us:=by
  intro us
  induction us with
  | nil=>intro vs h;cases vs with
    | nil=>rfl
    | cons v vs=>simp[aB] at h
  | cons u us ih=>intro vs h;cases vs with
    | nil=>simp[aB] at h
    | cons v vs=>
      simp only[aQ,aB] at h
      rw[fL h.1,ih vs h.2]
 cases u with
 | agg cs=>
   simp only[Yn,aF] at h
   obtain⟨vs,rfl,h⟩:=h
   rw[key _ _ h]
 | _=>exact fL h
theorem MZ(t k:Nat)(hk:g.at k=none):kG E.P ⟨some d,.makeMap t none,ty,pos,eG,gd⟩ g ⟨[],[k]⟩ ⟨some (d,.acc k),[(k,.map [])]⟩:=by
 intro g2 hg
 have h3:=(hg.p k (by simp)).trans hk
 intro X ν a w next Q hs hn
 have hr:(execOp a.eval ⟨some d,.makeMap t none,ty,pos,eG,gd⟩).run E.P w= .ok (.value (.map (some w.heap.size))) (w.alloc (.map #[] 0)):=rfl
 unfold Oper.wp
 rw[hr,Oper.upon_value]
 refine hn _ _ _ (hs.wy (jy w _) k h3 (.map []) ⟨.map (some w.heap.size),[]⟩ rfl ?_ d _ _ ?_ ?_)
 ·intro b hb
  obtain rfl:w.heap.size=b:=by simpa[Nm.has,vN] using hb
  exact aI _
 ·intro ok st ν' hν hw hm
  exact⟨w.heap.size,#[],0,by rw[hν],by rw[r6],rfl,fun p hp=>by simp at hp,by rw[hν]⟩
 ·intro ok st ν' hν ju hw hm
  simp only[aF]
  exact⟨by rw[ju];rfl,by rw[hν]⟩
theorem o9{P:Program}{kt:TypeId}(hk:P.underlying kt=some (.int .i64))(b:Bool)(n:Int)(w:World):(Instr.checkKey b 10000 kt (.int .i64 n)).run P w= .ok () w:=
 MapKept.run_checkKey (k:=.int .i64 n) hk (by trivial) b 9999
theorem sF(x y:Operand)(t kt et k:Nat)(sn:List (Int×Value))(n:Int)(v:Value)(ht:E.P.underlying t=some (.map kt et))(hkt:E.P.underlying kt=some (.int .i64))(hx:g.ev x= .acc k)(hk:g.at k=some (.map sn))(hy:g.ev y= .d (.val (.int .i64 n)))(hv:kv sn n=some v) :
 kG E.P ⟨some d,.lookup t x y false,ty,pos,eG,gd⟩ g ⟨da x++da y,[k]⟩ ⟨some (d,Yn v),[]⟩:=by
 intro g2 hg
 have h1:=hg.ev (x:=x) (fun t h=>by simp[h])
 have h2:=hg.ev (x:=y) (fun t h=>by simp[h])
 have h3:=(hg.p k (by simp)).trans hk
 refine CS.val rfl fun X ν a w hs=>?_
 have hvx:=hs.ev x
 rw[h1,hx] at hvx
 have hvy:=hs.ev y
 rw[h2,hy] at hvy
 have hvy:=fL hvy
 simp only[aF] at hvx
 obtain⟨r,es,clock,q1,q2,q3,q4,q5⟩:=hs.en k _ h3
 obtain⟨j,hj⟩:=(sx n es.toList sn 0 q3).2 v hv
 have hmem:∃p∈sn,p.2=v:=by
  clear q3 q4 hj h3 hk
  induction sn with
  | nil=>cases hv
  | cons p l ih=>
    simp only[kv] at hv
    split at hv
    ·exact⟨p,by simp,by simpa using hv⟩
    ·obtain⟨q,h1,h2⟩:=ih hv
     exact⟨q,List.mem_cons_of_mem _ h1,h2⟩
 obtain⟨p,hp1,hp2⟩:=hmem
 refine⟨v,?_,Wn (by rw[←hp2];exact q4 p hp1)⟩
 simp only[execOp,hvx.2,q1,hvy,Instr.lookup,Sem.run_bind,run_underlying ht,Result.andThen_ok,MapKept.run_getObj_map q2,Sem.run_pure,o9 hkt,MapKept.run_findKey hkt hj]
 rfl
theorem Bi(x y:Operand)(t kt et k:Nat)(ei:TI)(sn:List (Int×Value))(n:Int)(ht:E.P.underlying t=some (.map kt et))(hkt:E.P.underlying kt=some (.int .i64))(he:E.ti et=some ei)(hzo:zeroOf E.P et= .bool false)(hx:g.ev x= .acc k)(hk:g.at k=some (.map sn))(hy:g.ev y= .d (.val (.int .i64 n)))(hv:kv sn n=none) :
 kG E.P ⟨some d,.lookup t x y false,ty,pos,eG,gd⟩ g ⟨da x++da y,[k]⟩ ⟨some (d,.d (.val (.bool false))),[]⟩:=by
 intro g2 hg
 have h1:=hg.ev (x:=x) (fun t h=>by simp[h])
 have h2:=hg.ev (x:=y) (fun t h=>by simp[h])
 have h3:=(hg.p k (by simp)).trans hk
 refine CS.val rfl fun X ν a w hs=>?_
 have hvx:=hs.ev x
 rw[h1,hx] at hvx
 have hvy:=hs.ev y
 rw[h2,hy] at hvy
 have hvy:=fL hvy
 simp only[aF] at hvx
 obtain⟨r,es,clock,q1,q2,q3,q4,q5⟩:=hs.en k _ h3
 have hj:=(sx n es.toList sn 0 q3).1 hv
 obtain⟨i,z,z1,z2,z3,z4,z5,z6⟩:=(E.ok et ei he).info
 have hzv:z= .bool false:=by
  rw[←hzo]
  simp[zeroOf,z1,z4]
 refine⟨.bool false,?_,nN rfl⟩
 simp only[execOp,hvx.2,q1,hvy,Instr.lookup,Sem.run_bind,run_underlying ht,Result.andThen_ok,MapKept.run_getObj_map q2,Sem.run_pure,o9 hkt,MapKept.run_findKey hkt hj,zeroValue,typeInfo]
 simp[z1,z4,hzv]
theorem LC{P:Program}{t kt et:TypeId}(ht:P.underlying t=some (.map kt et))(hkt:P.underlying kt=some (.int .i64)){w:World}{r:Nat}{es:Array MapEntry}{clock:Nat}(hr:w.heap[r]?=some (.map es clock)){n:Int}(hf:Instr.findNow (.int .i64) (.int .i64 n) es.toList 0=some none)(v:Value) :
 (Instr.mapUpdate t (.map (some r)) (.int .i64 n) v).run P w= .ok () { w with heap:=w.heap.setIfInBounds r (.map (es.push ⟨.int .i64 n,v,clock⟩) (clock+1)) }:=by
 simp only[Instr.mapUpdate,Sem.run_bind,run_underlying ht,Result.andThen_ok,MapKept.run_getObj_map hr,o9 hkt,MapKept.run_findKey hkt hf]
 exact MapKept.run_setObj_map _ hr
theorem rz(o:Op)(x y z:Operand)(t kt et k:Nat)(sn:List (Int×Value))(n:Int)(v:Value)(ho:o= .mapUpdate t x y z∨o= .insert t x y z)(ht:E.P.underlying t=some (.map kt et))(hkt:E.P.underlying kt=some (.int .i64))(hx:g.ev x= .acc k)(hk:g.at k=some (.map sn))(hy:g.ev y= .d (.val (.int .i64 n)))(hz:g.ev z=Yn v)(eP:okV v=true)(hv:kv sn n=none) :
 kG E.P ⟨none,o,ty,pos,eG,gd⟩ g ⟨da x++da y++da z,[k]⟩ ⟨none,[(k,.map (sn++[(n,v)]))]⟩:=by
 intro g2 hg
 have e1:=hg.ev (x:=x) (fun t h=>by simp[h])
 have e2:=hg.ev (x:=y) (fun t h=>by simp[h])
 have e3:=hg.ev (x:=z) (fun t h=>by simp[h])
 have h3:=(hg.p k (by simp)).trans hk
 intro X ν a w next Q hs hnx
 have hvx:=hs.ev x
 rw[e1,hx] at hvx
 have hvy:=hs.ev y
 rw[e2,hy] at hvy
 have hvy:=fL hvy
 have hvz:=hs.ev z
 rw[e3,hz] at hvz
 have hvz:=WX hvz
 simp only[aF] at hvx
 obtain⟨r,es,clock,q1,q2,q3,q4,q5⟩:=hs.en k _ h3
 have hj:=(sx n es.toList sn 0 q3).1 hv
 have lD:=LC ht hkt q2 hj v
 have hr:(execOp a.eval ⟨none,o,ty,pos,eG,gd⟩).run E.P w= .ok .skip { w with heap:=w.heap.setIfInBounds r (.map (es.push ⟨.int .i64 n,v,clock⟩) (clock+1)) }:=by
  rcases ho with rfl|rfl<;>simp only[execOp,hvx.2,q1,hvy,hvz,Sem.run_bind,lD,Result.andThen_ok]<;>rfl
 unfold Oper.wp
 rw[hr,Oper.upon_skip]
 have hrs:r<w.heap.size:=pY q2
 have rn:rZ (fun b=>(ν k).has b) w { w with heap:=w.heap.setIfInBounds r (.map (es.push ⟨.int .i64 n,v,clock⟩) (clock+1)) }:=
  ⟨rfl,rfl,rfl,by simp,fun b _ hb=>by
   have jv:r≠b:=fun e=>hb (e▸(kg q5).2 (by rw[q1];rfl))
   simp[jg,jv]⟩
 refine hnx _ _ _ (hs.Cj k (.map sn) (.map (sn++[(n,v)])) h3 rfl rn none .undef Go.undef ?_ (fun h=>by cases h))
 intro hwf hm
 refine⟨r,_,_,q1,by simp[jg,hrs];exact⟨rfl,rfl⟩,?_,fun p hp=>?_,q5⟩
 ·simp only[xR,xE,Array.toList_push,List.map_append,aQ,List.map_nil] at q3⊢
  rw[q3]
 ·rcases aR.1 hp with h|h
  ·exact q4 p h
  ·simp only[List.mem_cons,List.not_mem_nil,or_false] at h
   rw[h];exact eP
end
attribute [go_sem] Yn
theorem pU{P:Program}(w:World)(dT sT ty elem:TypeId)(s g o dLen dCap:Nat)(a:Addr)(sLen sCap:Nat)(cur:Array Value)(t:TypeId)(cs:List Value)
 (hu:P.underlying dT=some (.slice elem)) (hs:(P.info? elem).map (·.size)=some s)
 (hg:w.heap[g]?=some (.cells cur t (0,0))) (hn:cs.length=Nat.min sLen dLen*s)
 (hsrc:∀j v,cs[j]?=some v→w.cell? (a.add j)=some v) (hfit:o+cs.length≤cur.size) (h1:∀v∈cs,v.oneCell'=true) :
 (Builtin.copy_ #[dT,sT] ty #[.slice (some ⟨g,o,none⟩) dLen dCap,.slice (some a) sLen sCap]).run P w =
  .ok (goInt (Nat.min sLen dLen)) (w.setRow g (cur.toList.take o++cs++cur.toList.drop (o+cs.length)).toArray):=by
 have hl:=run_loadCells_list (P:=P) w a cs hsrc
 have ju:=run_storeCells_at P g o t cs 0 cur w hg (by simpa using hfit) h1
 cases hq:P.info? elem with
 | none=>simp[hq] at hs
 | some i=>
   have hi:i.size=s:=by simpa[hq] using hs
   rw[hn] at hl
   simp[Builtin.copy_,run_underlying hu,Builtin.lenOf,Builtin.firstCells,sizeOf,typeInfo,hq,hi,hl,ju]
section
variable{E:Env}{g:G}
theorem Mo(x lo:Operand)(t e k:Nat){d:Nat}{ty:TypeId}{pos:String}{eG:Array Edge}{gd:Option (Nat×Bool)}(ti ei:TI)(xs:List (List D))(m:Int)(ht:E.ti t=some ti)(kD:ti.ty= .slice e)(he:E.ti e=some ei)
 (hx:g.ev x= .acc k) (hk:g.at k=some (.acc e xs)) (hlo:g.ev lo= .d (.val (.int .i64 m))) (h0:0≤m) (hm:m≤xs.length) :
 kG E.P ⟨some d,.slice t x (some lo) none none,ty,pos,eG,gd⟩ g ⟨da x++da lo,[k]⟩ ⟨some (d,.any),[]⟩:=by
 intro g2 hg
 have e1:=hg.ev (x:=x) (fun t h=>by simp[h])
 have e2:=hg.ev (x:=lo) (fun t h=>by simp[h])
 have h3:=(hg.p k (by simp)).trans hk
 intro X ν a w next Q hs hn
 have hu:=(E.ok t ti ht).ty
 rw[kD] at hu
 have hv:=hs.ev x
 rw[e1,hx] at hv
 have m7:=hs.ev lo
 rw[e2,hlo] at m7
 have m7:=fL m7
 simp only[aF] at hv
 have hsize:=(E.ok e ei he).size
 obtain⟨us,ho,jf,hB,hf0⟩:=hs.en k _ h3
 have lD:∃v,(execOp a.eval ⟨some d,.slice t x (some lo) none none,ty,pos,eG,gd⟩).run E.P w= .ok (.value v) w:=by
  rcases ho.2 with⟨h1,h2⟩|⟨b,cap,cur,h1,_,_,h4,_⟩
  ·have hr:=tl (P:=E.P) w hu hsize none 0 0 (some (.int .i64 m)) none m ((0:Nat):Int) (.inr ⟨_,rfl⟩) (.inl ⟨rfl,rfl⟩) h0 (by omega) (ll _) (aI _)
   refine⟨sliced none m.toNat 0 0 ei.n,?_⟩
   simp only[execOp,hv.2,h1,m7,gl,du,Sem.run_bind,hr,Result.andThen_ok]
   rfl
  ·have hr:=tl (P:=E.P) w hu hsize (some ⟨b,0,none⟩) xs.length cap (some (.int .i64 m)) none m (xs.length:Int) (.inr ⟨_,rfl⟩) (.inl ⟨rfl,rfl⟩) h0 (by omega) (ll _) h4
   simp only[Int.toNat_natCast] at hr
   refine⟨sliced (some ⟨b,0,none⟩) m.toNat xs.length cap ei.n,?_⟩
   simp only[execOp,hv.2,h1,m7,gl,du,Sem.run_bind,hr,Result.andThen_ok]
   rfl
 obtain⟨v,hr⟩:=lD
 unfold Oper.wp
 rw[hr,Oper.upon_value]
 exact hn _ _ _ (hs.put d (p:=.any) (v:=v) trivial)
end
end Go.Eng
namespace Go.Eng
theorem PF{α:Type}(A B R v:List α)(hs:v.length≤R.length) :
 (((A++B++R).take (A.length+v.length)++B++(A++B++R).drop (A.length+v.length+B.length)).take A.length++v
   ++ ((A++B++R).take (A.length+v.length)++B++(A++B++R).drop (A.length+v.length+B.length)).drop (A.length+v.length))
 = A++v++B++R.drop v.length:=by
 have hl:((A++B++R).take (A.length+v.length)).length=A.length+v.length:=by simp;omega
 have h1:(((A++B++R).take (A.length+v.length))++B++(A++B++R).drop (A.length+v.length+B.length)).take A.length=A:=by
  rw[bm,List.take_append_of_le_length (by omega),List.take_take,Nat.min_eq_left (by omega),bm,List.take_left]
 have h2:(((A++B++R).take (A.length+v.length))++B++(A++B++R).drop (A.length+v.length+B.length)).drop (A.length+v.length)=B++R.drop v.length:=by
  rw[bm,List.drop_left' hl,show A.length+v.length+B.length=(A++B).length+v.length from by simp;omega,List.drop_append]
  simp
 rw[h1,h2]
 simp
end Go.Eng
