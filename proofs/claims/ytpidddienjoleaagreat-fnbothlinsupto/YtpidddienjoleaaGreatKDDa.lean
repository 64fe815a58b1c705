/-
  The symbolic layer, thirty-fourth text: exclusive or; what a call leaves, told otherwise.
-/
import Derived.Test.YtpidddienjoleaaGreatKDD
import Derived.Laws.IdiomCopy
import Derived.Deep.Draws
import Derived.Laws.Entries
import Derived.Test.YtpidddienjoleaaGreatKDB
import Derived.MapKept
import Derived.Laws.CopyRow
set_option linter.unusedVariables false
set_option linter.unusedSimpArgs false
namespace Go.Eng
open Go.RowKit
def DR(a b:Int):Int:=((a.toNat ^^^ b.toNat:Nat):Int)
theorem Ox(a b:Int):0≤DR a b:=Int.natCast_nonneg _
theorem CL{a b:Int}(h1:0≤a)(h2:a≤9223372036854775807)(h3:0≤b)(h4:b≤9223372036854775807):bits .xor .i64 a b=DR a b:=by
 obtain⟨A,rfl⟩:=Int.eq_ofNat_of_zero_le h1
 obtain⟨B,rfl⟩:=Int.eq_ofNat_of_zero_le h3
 have hx:A ^^^ B<2 ^ 63:=Nat.xor_lt_two_pow (by omega) (by omega)
 have k1:(BitVec.ofInt 64 (A:Int)).toNat=A:=by
  rw[BitVec.ofInt_natCast,BitVec.toNat_ofNat];exact Nat.mod_eq_of_lt (by omega)
 have k2:(BitVec.ofInt 64 (B:Int)).toNat=B:=by
  rw[BitVec.ofInt_natCast,BitVec.toNat_ofNat];exact Nat.mod_eq_of_lt (by omega)
 show IntKind.i64.wrap ((BitVec.ofInt 64 (A:Int) ^^^ BitVec.ofInt 64 (B:Int)).toNat:Int)=_
 rw[BitVec.toNat_xor,k1,k2,wrap_i64 ⟨by omega,by omega⟩]
 simp[DR]
section
variable{E:Env}{g:G}{d:Nat}{ty:TypeId}{pos:String}{aft:Array Edge}{gd:Option (Nat×Bool)}
theorem QL(x y:Operand)(m n:Int)(t u:TypeId)(hx:g.ev x= .d (.val (.int .i64 m)))(hy:g.ev y= .d (.val (.int .i64 n)))(h1:0≤m)(h2:m≤9223372036854775807)(h3:0≤n)(h4:n≤9223372036854775807) :
 dX E.P ⟨some d,.binOp .xor t x y u,ty,pos,aft,gd⟩ g ⟨ba x++ba y,[]⟩ ⟨some (d,.d (.val (.int .i64 (DR m n)))),[]⟩:=
 ji rfl hx hy rfl fun a w k1 k2=>by
  simp[execOp,k1,k2,eqGuard,binOp,intBits_xor,CL h1 h2 h3 h4]
theorem Sg{m:Option (List Ky)}{gs:Option Nat}{rest:jZ→Option (List Ky)→G→Prop}{x y:Operand}{t u:TypeId}(a b:Int)(hx:g.ev x= .d (.val (.int .i64 a)))(hy:g.ev y= .d (.val (.int .i64 b)))(h1:0≤a)(h2:a≤9223372036854775807)(h3:0≤b)(h4:b≤9223372036854775807)
 (hr:rest .on (gl m (hY (n6 gs ⟨ba x++ba y,[]⟩) ⟨some (d,.d (.val (.int .i64 (DR a b)))),[]⟩)) (g.app ⟨some (d,.d (.val (.int .i64 (DR a b)))),[]⟩)):mj E m gs ⟨some d,.binOp .xor t x y u,ty,pos,aft,gd⟩ g rest:=
 bU (QL x y a b t u hx hy h1 h2 h3 h4) hr
end
theorem C.FL{P:Program}{f:FuncId}{args:List PV}{cst:List (Option En)}{res res':PV}{st st':List (Option En)}(m:List (Option Nat))(h:C P f args cst (aO res st))(h1:sg ⟨[res],st⟩ m [res] [res']∧fD ⟨[res],st⟩ m m st')(h3:vo m st'=true)(h4:keeps cst.length 0 m=true):C P f args cst (aO res' st'):=
 have hw:Wk cst.length m ⟨[res],st⟩ ⟨[res'],st'⟩:=⟨h1.1,h1.2,h3,h4⟩
 ⟨h.1,fun X vs k1 k2 k3=>(h.2 X vs k1 k2 k3).mono fun e w ⟨v,r,s,ν',e1,⟨e2,e3⟩,e4⟩=>by
  subst e2 e3
  have hp:P4 X cst.length:=fun k hk=>by rw[k1] at hk;exact gK hk
  obtain⟨ν'',hs⟩:=Ch hw X ν' _ _ hp e4
  exact⟨v,_,_,ν'',e1,⟨rfl,rfl⟩,hs⟩⟩
end Go.Eng
namespace Go.Eng
open Go.RowKit
section
variable{P:Program}{w:World}{ok ok':Nat→Prop}{ν ν':Nat→Nm}{st st':Nat→Option En}
theorem ar.zip:∀(c:Nat){x:List T}{u:List Value}{F:List Nat}{t:T},ar P w ok ν st x u F→x[c]?=some t →
 ∃v A Ft B,u[c]?=some v∧F=A++(Ft++B)∧dU P w ok ν st t v Ft ∧
  ∀(ok':Nat→Prop)(ν':Nat→Nm)(st':Nat→Option En),(∀b,ok b→b<w.heap.size→ok' b∧w.heap[b]?=w.heap[b]?)→e9 st st' ν ν'→∀(t':T)(Ft':List Nat),dU P w ok' ν' st' t' v Ft'→ar P w ok' ν' st' (x.set c t') u (A++(Ft'++B))
 | _,[],_,_,_,_,h=>by simp at h
 | _,_::_,[],_,_,h,_=>by simp[ar] at h
 | 0,a::x,v::u,F,t,h,ht=>by
   simp only[ar] at h
   obtain⟨F1,F2,h1,h2,rfl⟩:=h
   obtain rfl:a=t:=by simpa using ht
   refine⟨v,[],F1,F2,rfl,rfl,h1,fun ok' ν' st' hw hm t' Ft' h'=>?_⟩
   simp only[List.set_cons_zero,ar,List.nil_append]
   exact⟨Ft',F2,h',ar.frame hw (Nat.le_refl _) hm _ _ _ h2 fun _ _=>rfl,rfl⟩
 | c+1,a::x,v::u,F,t,h,ht=>by
   simp only[ar] at h
   obtain⟨F1,F2,h1,h2,rfl⟩:=h
   obtain⟨v',A,Ft,B,k1,rfl,k2,k3⟩:=ar.zip c h2 (by simpa using ht)
   refine⟨v',F1++A,Ft,B,by simpa using k1,by simp,k2,fun ok' ν' st' hw hm t' Ft' h'=>?_⟩
   simp only[List.set_cons_succ,ar]
   exact⟨F1,_,dU.frame hw (Nat.le_refl _) hm _ _ _ h1 fun _ _=>rfl,k3 ok' ν' st' hw hm t' Ft' h',by simp⟩
theorem aA.zip:∀(i c:Nat){xs:List (List T)}{us:List (List Value)}{F:List Nat}{t:T},aA P w ok ν st xs us F→i<xs.length→(ij xs i)[c]?=some t →
 ∃v A Ft B,F=A++(Ft++B)∧dU P w ok ν st t v Ft ∧
  ∀(ok':Nat→Prop)(ν':Nat→Nm)(st':Nat→Option En),(∀b,ok b→b<w.heap.size→ok' b∧w.heap[b]?=w.heap[b]?)→e9 st st' ν ν'→∀(t':T)(Ft':List Nat),dU P w ok' ν' st' t' v Ft'→aA P w ok' ν' st' (xs.set i ((ij xs i).set c t')) us (A++(Ft'++B))
 | _,_,[],_,_,_,_,h,_=>by simp at h
 | _,_,_::_,[],_,_,h,_,_=>by simp[aA] at h
 | 0,c,a::x,v::u,F,t,h,_,ht=>by
   simp only[aA] at h
   obtain⟨F1,F2,h1,h2,rfl⟩:=h
   have ht:a[c]?=some t:=ht
   obtain⟨v',A,Ft,B,k1,rfl,k2,k3⟩:=ar.zip c h1 ht
   refine⟨v',A,Ft,B++F2,by simp,k2,fun ok' ν' st' hw hm t' Ft' h'=>?_⟩
   show aA P w ok' ν' st' (a.set c t'::x) (v::u) _
   simp only[aA]
   exact⟨_,F2,k3 ok' ν' st' hw hm t' Ft' h',aA.frame hw (Nat.le_refl _) hm _ _ _ h2 fun _ _=>rfl,by simp⟩
 | i+1,c,a::x,v::u,F,t,h,hi,ht=>by
   simp only[aA] at h
   obtain⟨F1,F2,h1,h2,rfl⟩:=h
   have ht:(ij x i)[c]?=some t:=by simpa[ij] using ht
   obtain⟨v',A,Ft,B,rfl,k2,k3⟩:=aA.zip i c h2 (by simpa using hi) ht
   refine⟨v',F1++A,Ft,B,by simp,k2,fun ok' ν' st' hw hm t' Ft' h'=>?_⟩
   have e:ij (a::x) (i+1)=ij x i:=by simp[ij]
   rw[e]
   simp only[List.set_cons_succ,aA]
   exact⟨F1,_,ar.frame hw (Nat.le_refl _) hm _ _ _ h1 fun _ _=>rfl,k3 ok' ν' st' hw hm t' Ft' h',by simp⟩
end
theorem Ka{hb A Ft B:List Nat}(h:(hb++(A++(Ft++B))).Nodup):(hb++(A++B)).Nodup∧Ft.Nodup∧∀b∈hb++(A++B),b∉Ft:=by
 have hp:(hb++(A++(Ft++B))).Perm (Ft++(hb++(A++B))):=by
  rw[List.perm_iff_count]
  intro a
  simp only[List.count_append]
  omega
 have h':=hp.nodup_iff.1 h
 obtain⟨h1,h2,h3⟩:=List.nodup_append.1 h'
 exact⟨h2,h1,fun b hb1 hb2=>h3 b hb2 b hb1 rfl⟩
theorem He{hb A Ft B:List Nat}(h1:(hb++(A++B)).Nodup)(h2:Ft.Nodup)(h3:∀b∈hb++(A++B),b∉Ft):(hb++(A++(Ft++B))).Nodup:=by
 have hp:(hb++(A++(Ft++B))).Perm (Ft++(hb++(A++B))):=by
  rw[List.perm_iff_count]
  intro a
  simp only[List.count_append]
  omega
 exact hp.nodup_iff.2 (List.nodup_append.2 ⟨h2,h1,fun a ha b hb hab=>h3 b hb (hab▸ha)⟩)
section
variable{P:Program}{g:G}
theorem Rb(k i c:Nat){e e':TypeId}{xs ys:List (List T)}(hk:g.at k=some (.bM e xs))(hi:i<xs.length)(hc:(ij xs i)[c]?=some (.own e' ys)) :
 sj P g ⟨g.sl,aX (aX g.st k (some (.bM e (xs.set i ((ij xs i).set c (.ref g.new)))))) g.new (some (.bM e' ys))⟩:=by
 intro X ν a w hs
 obtain⟨us,ho,hul,hrr,hB,hnd⟩:=nj hs hk
 obtain⟨v,A,Ft,B,hF,hv,hz⟩:=hrr.zip i c hi hc
 have hv0:=hv
 simp only[dU] at hv
 obtain⟨us',F1,q1,q2,q3,q4,rfl⟩:=hv
 rw[hF] at hnd
 obtain⟨n1,n2,n3⟩:=Ka hnd
 have hnew:=g.fk
 have hkn:k≠g.new:=fun h=>by rw[←h,hk] at hnew;cases hnew
 generalize hg':(⟨g.sl,aX (aX g.st k (some (.bM e (xs.set i ((ij xs i).set c (.ref g.new)))))) g.new (some (.bM e' ys))⟩:G)=g'
 have hat:∀j,g'.at j=if j=g.new then some (.bM e' ys) else if j=k then some (.bM e (xs.set i ((ij xs i).set c (.ref g.new)))) else g.at j:=by
  intro j
  rw[←hg']
  show aV (aX (aX g.st k _) g.new _) j=_
  rw[ck,ck]
  rfl
 refine⟨fun j=>if j=g.new then⟨v,F1⟩ else if j=k then⟨(ν k).v,A++B⟩ else ν j,?_⟩
 generalize hν':(fun j=>if j=g.new then(⟨v,F1⟩:Nm) else if j=k then⟨(ν k).v,A++B⟩ else ν j)=ν'
 have hνn:ν' g.new=⟨v,F1⟩:=by rw[←hν'];simp
 have hνk:ν' k=⟨(ν k).v,A++B⟩:=by rw[←hν'];simp[hkn]
 have hνo:∀j,j≠g.new→j≠k→ν' j=ν j:=fun j h1 h2=>by rw[←hν'];simp[h1,h2]
 have hm:e9 g.at g'.at ν ν':=by
  intro j hj
  have h1:j≠g.new:=fun h=>by rw[h,hnew] at hj;cases hj
  refine⟨?_,?_⟩
  ·by_cases h2:j=k
   ·rw[h2,hνk]
   ·rw[hνo j h1 h2]
  ·rw[hat,if_neg h1]
   split
   ·rfl
   ·exact hj
 have hasn:∀b,(ν' g.new).has b↔b∈hb v++F1:=fun b=>by rw[hνn];exact im
 have hask:∀b,(ν' k).has b↔b∈hb (ν k).v++(A++B):=fun b=>by rw[hνk];exact im
 have hasK:∀b,(ν k).has b↔b∈hb (ν k).v++(A++((hb v++F1)++B)):=fun b=>by rw[im,hF]
 have sub1:∀b,(ν' g.new).has b→(ν k).has b:=fun b h=>(hasK b).2 (by
  have:=(hasn b).1 h
  simp only[List.mem_append] at this⊢
  rcases this with h|h
  ·exact .inr (.inr (.inl (.inl h)))
  ·exact .inr (.inr (.inl (.inr h))))
 have sub2:∀b,(ν' k).has b→(ν k).has b:=fun b h=>(hasK b).2 (by
  have:=(hask b).1 h
  simp only[List.mem_append] at this⊢
  rcases this with h|h|h
  ·exact .inl h
  ·exact .inr (.inl h)
  ·exact .inr (.inr (.inr h)))
 have back:∀j e1,g'.at j=some e1→e1.live=true→∀b,(ν' j).has b→∃j0 e0,g.at j0=some e0∧e0.live=true∧(ν j0).has b∧(j≠g.new→j0=j)∧(j=g.new→j0=k):=by
  intro j e1 h1 h2 b hb1
  by_cases hj:j=g.new
  ·subst hj
   exact⟨k,_,hk,rfl,sub1 b hb1,fun h=>absurd rfl h,fun _=>rfl⟩
  ·by_cases hjk:j=k
   ·subst hjk
    exact⟨j,_,hk,rfl,sub2 b hb1,fun _=>rfl,fun h=>absurd h hj⟩
   ·rw[hat,if_neg hj,if_neg hjk] at h1
    rw[hνo j hj hjk] at hb1
    exact⟨j,e1,h1,h2,hb1,fun _=>rfl,fun h=>absurd h hj⟩
 have hown:∀b,Own ν' g'.at b→Own ν g.at b:=by
  rintro b ⟨j,e1,h1,h2,h3⟩
  obtain⟨j0,e0,k1,k2,k3,_⟩:=back j e1 h1 h2 b h3
  exact⟨j0,e0,k1,k2,k3⟩
 have hw:∀b,aN X ν g.at b→b<w.heap.size→aN X ν' g'.at b∧w.heap[b]?=w.heap[b]?:=fun b hb _=>⟨⟨fun ho=>hb.1 (hown b ho),hb.2⟩,rfl⟩
 refine hs.NS (g':=g') (ν':=ν') (fun _=>False) (kG.refl _ w) (fun _ hb=>hb.elim) hm ?_ ?_ ?_ ?_ ?_ ?_ rfl
 ·intro j e1 hj
  rw[hat] at hj
  by_cases hjn:j=g.new
  ·rw[if_pos hjn] at hj
   obtain rfl:=Option.some.inj hj
   subst hjn
   refine .inr ⟨?_,?_⟩
   ·rw[hνn]
    exact dU.frame hw (Nat.le_refl _) hm _ _ _ hv0 fun _ _=>rfl
   ·rw[hνn];exact n2
  ·rw[if_neg hjn] at hj
   by_cases hjk:j=k
   ·rw[if_pos hjk] at hj
    obtain rfl:=Option.some.inj hj
    subst hjk
    refine .inr (r7 (us:=us) ?_ hul ?_ (by simpa using hB) ?_)
    ·rw[hνk];simpa using ho
    ·rw[hνk]
     have:=hz _ ν' g'.at hw hm (.ref g.new) [] (by
      simp only[dU,and_true]
      exact⟨by rw[hat,if_pos rfl];rfl,by rw[hνn]⟩)
     simpa using this
    ·rw[hνk];exact n1
   ·rw[if_neg hjk] at hj
    exact .inl ⟨hj,hνo j hjn hjk,fun _ _ _ hb=>hb⟩
 ·intro j e1 b h1 h2 h3
  exact .inl (hown b ⟨j,e1,h1,h2,h3⟩)
 ·intro j j' e1 e2 b h1 h2 h3 h4 h5 h6
  obtain⟨j0,e0,k1,k2,k3,k4,k5⟩:=back j e1 h1 h3 b h5
  obtain⟨j1,e3,l1,l2,l3,l4,l5⟩:=back j' e2 h2 h4 b h6
  have hjj:=hs.inj j0 j1 e0 e3 b k1 l1 k2 l2 k3 l3
  by_cases hj:j=g.new
  ·by_cases hj':j'=g.new
   ·rw[hj,hj']
   ·have e1:=k5 hj
    have e2:=l4 hj'
    have e3:j'=k:=by rw[←e2,←hjj,e1]
    subst hj e3
    exact(n3 b ((hask b).1 h6) ((hasn b).1 h5)).elim
  ·by_cases hj':j'=g.new
   ·have e1:=k4 hj
    have e2:=l5 hj'
    have e3:j=k:=by rw[←e1,hjj,e2]
    subst hj' e3
    exact(n3 b ((hask b).1 h5) ((hasn b).1 h6)).elim
   ·rw[←k4 hj,←l4 hj',hjj]
 ·intro j hj
  rw[hat] at hj
  by_cases hjn:j=g.new
  ·right
   rw[hjn,hνn]
   exact row_one q1
  ·rw[if_neg hjn] at hj
   by_cases hjk:j=k
   ·exact .inl (by rw[hjk,hk];rfl)
   ·rw[if_neg hjk] at hj
    exact .inl hj
 ·rw[←hg'];exact hs.size
 ·intro t
  exact .inl ⟨by rw[←hg'],rfl⟩
theorem Sr(k i c j:Nat){e e':TypeId}{xs ys:List (List T)}(hk:g.at k=some (.bM e xs))(hi:i<xs.length)(hc:(ij xs i)[c]?=some (.ref j))(hj:g.at j=some (.bM e' ys))(hjk:j≠k) :
 sj P g ⟨g.sl,aX (aX g.st k (some (.bM e (xs.set i ((ij xs i).set c (.own e' ys)))))) j (some .dead)⟩:=by
 intro X ν a w hs
 obtain⟨us,ho,hul,hrr,hB,hnd⟩:=nj hs hk
 obtain⟨v,A,Ft,B,hF,hv,hz⟩:=hrr.zip i c hi hc
 simp only[dU] at hv
 obtain⟨hv1,rfl,rfl⟩:=hv
 obtain⟨hen,hndj⟩:=hs.en j _ hj
 simp only[List.nil_append] at hF
 rw[hF] at hnd
 generalize hg':(⟨g.sl,aX (aX g.st k (some (.bM e (xs.set i ((ij xs i).set c (.own e' ys)))))) j (some .dead)⟩:G)=g'
 have hat:∀l,g'.at l=if l=j then some .dead else if l=k then some (.bM e (xs.set i ((ij xs i).set c (.own e' ys)))) else g.at l:=by
  intro l
  rw[←hg']
  show aV (aX (aX g.st k _) j _) l=_
  rw[ck,ck]
  rfl
 refine⟨fun l=>if l=k then⟨(ν k).v,A++((hb (ν j).v++(ν j).f)++B)⟩ else ν l,?_⟩
 generalize hν':(fun l=>if l=k then(⟨(ν k).v,A++((hb (ν j).v++(ν j).f)++B)⟩:Nm) else ν l)=ν'
 have hνk:ν' k=⟨(ν k).v,A++((hb (ν j).v++(ν j).f)++B)⟩:=by rw[←hν'];simp
 have hνo:∀l,l≠k→ν' l=ν l:=fun l h1=>by rw[←hν'];simp[h1]
 have hm:e9 g.at g'.at ν ν':=by
  intro l hl
  refine⟨?_,?_⟩
  ·by_cases h2:l=k
   ·rw[h2,hνk]
   ·rw[hνo l h2]
  ·rw[hat]
   split
   ·rfl
   ·split
    ·rfl
    ·exact hl
 have hask:∀b,(ν' k).has b→(ν k).has b∨(ν j).has b:=fun b h=>by
  rw[hνk,im] at h
  rw[im,im,hF]
  simp only[List.mem_append] at h⊢
  rcases h with h|h|(h|h)|h
  ·exact .inl (.inl h)
  ·exact .inl (.inr (.inl h))
  ·exact .inr (.inl h)
  ·exact .inr (.inr h)
  ·exact .inl (.inr (.inr h))
 have back:∀l e1,g'.at l=some e1→e1.live=true→∀b,(ν' l).has b→(l=k∧((ν k).has b∨(ν j).has b))∨(l≠k∧l≠j∧g.at l=some e1∧(ν l).has b):=by
  intro l e1 h1 h2 b hb1
  rw[hat] at h1
  by_cases hlj:l=j
  ·rw[if_pos hlj] at h1
   obtain rfl:=Option.some.inj h1
   cases h2
  ·rw[if_neg hlj] at h1
   by_cases hlk:l=k
   ·subst hlk
    exact .inl ⟨rfl,hask b hb1⟩
   ·rw[if_neg hlk] at h1
    rw[hνo l hlk] at hb1
    exact .inr ⟨hlk,hlj,h1,hb1⟩
 have hown:∀b,Own ν' g'.at b→Own ν g.at b:=by
  rintro b ⟨l,e1,h1,h2,h3⟩
  rcases back l e1 h1 h2 b h3 with⟨_,h|h⟩|⟨_,_,h4,h5⟩
  ·exact⟨k,_,hk,rfl,h⟩
  ·exact⟨j,_,hj,rfl,h⟩
  ·exact⟨l,e1,h4,h2,h5⟩
 have hw:∀b,aN X ν g.at b→b<w.heap.size→aN X ν' g'.at b∧w.heap[b]?=w.heap[b]?:=fun b hb _=>⟨⟨fun ho=>hb.1 (hown b ho),hb.2⟩,rfl⟩
 refine hs.NS (g':=g') (ν':=ν') (fun _=>False) (kG.refl _ w) (fun _ hb=>hb.elim) hm ?_ ?_ ?_ ?_ ?_ ?_ rfl
 ·intro l e1 hl
  rw[hat] at hl
  by_cases hlj:l=j
  ·rw[if_pos hlj] at hl
   obtain rfl:=Option.some.inj hl
   exact .inr trivial
  ·rw[if_neg hlj] at hl
   by_cases hlk:l=k
   ·rw[if_pos hlk] at hl
    obtain rfl:=Option.some.inj hl
    subst hlk
    refine .inr (r7 (us:=us) ?_ hul ?_ (by simpa using hB) ?_)
    ·rw[hνk];simpa using ho
    ·rw[hνk]
     exact hz _ ν' g'.at hw hm (.own e' ys) _ (dU.frame hw (Nat.le_refl _) hm _ _ _ hen fun _ _=>rfl)
    ·rw[hνk]
     refine He hnd hndj fun b h1 h2=>?_
     refine hjk (hs.inj j l _ _ b hj hk rfl rfl (im.2 h2) (im.2 ?_))
     rw[hF];exact h1
   ·rw[if_neg hlk] at hl
    exact .inl ⟨hl,hνo l hlk,fun _ _ _ hb=>hb⟩
 ·intro l e1 b h1 h2 h3
  exact .inl (hown b ⟨l,e1,h1,h2,h3⟩)
 ·intro l l' e1 e2 b h1 h2 h3 h4 h5 h6
  rcases back l e1 h1 h3 b h5 with⟨rfl,p1⟩|⟨p1,p2,p3,p4⟩
  ·rcases back l' e2 h2 h4 b h6 with⟨rfl,q1⟩|⟨q1,q2,q3,q4⟩
   ·rfl
   ·rcases p1 with p1|p1
    ·exact hs.inj l l' _ e2 b hk q3 rfl h4 p1 q4
    ·exact(q2 (hs.inj l' j e2 _ b q3 hj h4 rfl q4 p1)).elim
  ·rcases back l' e2 h2 h4 b h6 with⟨rfl,q1⟩|⟨q1,q2,q3,q4⟩
   ·rcases q1 with q1|q1
    ·exact hs.inj l l' e1 _ b p3 hk h3 rfl p4 q1
    ·exact(p2 (hs.inj l j e1 _ b p3 hj h3 rfl p4 q1)).elim
   ·exact hs.inj l l' e1 e2 b p3 q3 h3 h4 p4 q4
 ·intro l hl
  rw[hat] at hl
  by_cases hlj:l=j
  ·exact .inl (by rw[hlj,hj];rfl)
  ·rw[if_neg hlj] at hl
   by_cases hlk:l=k
   ·exact .inl (by rw[hlk,hk];rfl)
   ·rw[if_neg hlk] at hl
    exact .inl hl
 ·rw[←hg'];exact hs.size
 ·intro t
  exact .inl ⟨by rw[←hg'],rfl⟩
theorem sj.refl(g:G):sj P g g:=fun _ ν _ _ h=>⟨ν,h⟩
theorem sj.FL{n0:Nat}{g g':G}(h:sj P g g'):jS P n0 g g':=fun X ν a w _ hs=>h X ν a w hs
theorem RK(j:Nat){e:TypeId}{xs:List (List D)}(hj:g.at j=some (.acc e xs)):sj P g ⟨g.sl,aX g.st j (some (.bM e (lift xs)))⟩:=fun _ ν _ _ h=>⟨ν,h.lift hj⟩
theorem vm:∀{l:List (Option En)}{k:Nat}{e:En},aV l k=some e→aX l k (some e)=l
 | [],k,e,h=>by cases k<;>simp[aV] at h
 | _::_,0,_,h=>by simp only[aV] at h;simp[aX,h]
 | a::l,k+1,e,h=>by simp only[aV] at h;simp[aX,vm h]
theorem l7:∀{l:List (Option En)}{k:Nat}(x:Option En),k<l.length→(aX l k x).length=l.length
 | [],k,_,h=>by simp at h
 | _::_,0,_,_=>rfl
 | a::l,k+1,x,h=>by simp[aX,l7 x (by simpa using h)]
theorem DK:∀(l:List (Option En))(x:Option En),aX l l.length x=l++[x]
 | [],_=>rfl
 | a::l,x=>by simp[aX,DK l x]
theorem zD:∀{l m:List (Option En)}{k:Nat}(x:Option En),k<l.length→aX (l++m) k x=aX l k x++m
 | [],_,k,_,h=>by simp at h
 | _::_,_,0,_,_=>rfl
 | a::l,m,k+1,x,h=>by simp[aX,zD x (by simpa using h)]
theorem pY:∀(l:List (Option En))(j k:Nat)(x y:Option En),j≠k→aX (aX l j x) k y=aX (aX l k y) j x
 | [],0,0,_,_,h=>absurd rfl h
 | [],0,k+1,_,_,_=>rfl
 | [],j+1,0,_,_,_=>rfl
 | [],j+1,k+1,x,y,h=>by simp[aX,pY [] j k x y (by omega)]
 | _::_,0,0,_,_,h=>absurd rfl h
 | _::_,0,k+1,_,_,_=>rfl
 | _::_,j+1,0,_,_,_=>rfl
 | a::l,j+1,k+1,x,y,h=>by simp[aX,pY l j k x y (by omega)]
def jn:Nat→List T→List T
 | _,[]=>[]
 | n,.own _ _::ts=>.ref n::jn (n+1) ts
 | n,.leaf d::ts=>.leaf d::jn n ts
 | n,.ref j::ts=>.ref j::jn n ts
def Aa:List T→List (Option En)
 | []=>[]
 | .own e xs::ts=>some (.bM e xs)::Aa ts
 | .leaf _::ts=>Aa ts
 | .ref _::ts=>Aa ts
def Ry:List (Option En)→List (Option En)→List (Option En)
 | [],m=>m
 | a::l,m=>a::Ry l m
theorem DC:∀(l m:List (Option En)),Ry l m=l++m
 | [],_=>rfl
 | a::l,m=>by simp[Ry,DC l m]
theorem rL{α:Type}(pre:List α)(a b:α)(r:List α):(pre++a::r).set pre.length b=pre++b::r:=by
 rw[List.set_append_right _ _ (Nat.le_refl _),Nat.sub_self,List.set_cons_zero]
theorem nc{k i:Nat}{e:TypeId}:∀(rest pre:List T)(g:G)(xs:List (List T)),g.at k=some (.bM e xs)→i<xs.length→ij xs i=pre++rest →
 sj P g ⟨g.sl,Ry (aX g.st k (some (.bM e (xs.set i (pre++jn g.new rest))))) (Aa rest)⟩
 | [],pre,g,xs,hk,hi,hr=>by
   have e1:xs.set i pre=xs:=by
    rw[List.append_nil] at hr
    rw[←hr]
    refine List.ext_getElem? fun j=>?_
    rw[List.getElem?_set]
    by_cases hj:i=j
    ·subst hj;rw[if_pos rfl,if_pos hi,K9 hi]
    ·rw[if_neg hj]
   simp only[jn,Aa,List.append_nil,DC,e1]
   rw[vm hk]
   exact sj.refl g
 | .leaf d::ts,pre,g,xs,hk,hi,hr=>by
   have:=nc ts (pre++[.leaf d]) g xs hk hi (by simpa using hr)
   simpa[jn,Aa] using this
 | .ref d::ts,pre,g,xs,hk,hi,hr=>by
   have:=nc ts (pre++[.ref d]) g xs hk hi (by simpa using hr)
   simpa[jn,Aa] using this
 | .own e' ys::ts,pre,g,xs,hk,hi,hr=>by
   have hkl:k<g.st.length:=gK (by rw[show aV g.st k=_ from hk];rfl)
   have hn:g.new=g.st.length:=gF g.st
   have h1:=Rb (P:=P) k i pre.length hk hi (e':=e') (ys:=ys) (by rw[hr];simp)
   have e1:(ij xs i).set pre.length (.ref g.new)=pre++ .ref g.new::ts:=by rw[hr];exact rL _ _ _ _
   rw[e1] at h1
   have e2:aX (aX g.st k (some (.bM e (xs.set i (pre++ .ref g.new::ts))))) g.new (some (.bM e' ys))=aX g.st k (some (.bM e (xs.set i (pre++ .ref g.new::ts))))++[some (.bM e' ys)]:=by
    generalize some (En.bM e (xs.set i (pre++ .ref g.new::ts)))=z
    rw[hn,←l7 z hkl,DK]
   rw[e2] at h1
   refine h1.trans ?_
   have hk1:(⟨g.sl,aX g.st k (some (.bM e (xs.set i (pre++ .ref g.new::ts))))++[some (.bM e' ys)]⟩:G).at k=some (.bM e (xs.set i (pre++ .ref g.new::ts))):=by
    show aV _ k=_
    rw[←zD _ hkl,ck,if_pos rfl]
   have hr1:ij (xs.set i (pre++ .ref g.new::ts)) i=pre++ .ref g.new::ts:=by
    simp[ij,List.getD,hi]
   have:=nc ts (pre++[.ref g.new]) ⟨g.sl,aX g.st k (some (.bM e (xs.set i (pre++ .ref g.new::ts))))++[some (.bM e' ys)]⟩ _ hk1 (by simpa using hi) (by rw[hr1];simp)
   have hn2:(⟨g.sl,aX g.st k (some (.bM e (xs.set i (pre++ .ref g.new::ts))))++[some (.bM e' ys)]⟩:G).new=g.new+1:=by
    rw[G.new,gF,hn]
    simp[l7 _ hkl]
   rw[hn2] at this
   simp only[DC,List.set_set] at this
   rw[zD _ (by rw[l7 _ hkl];exact hkl),iP] at this
   simpa[jn,Aa,DC] using this
theorem Mn(k i:Nat){e:TypeId}{xs:List (List T)}(row:List T)(hk:g.at k=some (.bM e xs))(hi:i<xs.length)(hr:ij xs i=row) :
 sj P g ⟨g.sl,Ry (aX g.st k (some (.bM e (xs.set i (jn g.new row))))) (Aa row)⟩:=by
 have:=nc (P:=P) (k:=k) (i:=i) row [] g xs hk hi (by simpa using hr)
 simpa using this
def bN(k:Nat):List (Option En)→List T→List T
 | _,[]=>[]
 | st,.ref j::ts=>match Al j k,aV st j with
   | false,some (.bM e ys)=>.own e ys::bN k (aX st j (some .dead)) ts
   | false,some (.acc e ys)=>.own e (lift ys)::bN k (aX st j (some .dead)) ts
   | _,_=>.ref j::bN k st ts
 | st,.leaf d::ts=>.leaf d::bN k st ts
 | st,.own e ys::ts=>.own e ys::bN k st ts
def iJ(k:Nat):List (Option En)→List T→List (Option En)
 | st,[]=>st
 | st,.ref j::ts=>match Al j k,aV st j with
   | false,some (.bM _ _)=>iJ k (aX st j (some .dead)) ts
   | false,some (.acc _ _)=>iJ k (aX st j (some .dead)) ts
   | _,_=>iJ k st ts
 | st,.leaf _::ts=>iJ k st ts
 | st,.own _ _::ts=>iJ k st ts
theorem Nr{j k:Nat}(h:Al j k=false):j≠k:=fun e=>by subst e;rw[zB] at h;cases h
theorem JS{k:Nat}(x:Option En):∀(ts:List T)(st:List (Option En)),bN k (aX st k x) ts=bN k st ts∧iJ k (aX st k x) ts=aX (iJ k st ts) k x
 | [],st=>⟨rfl,rfl⟩
 | .leaf d::ts,st=>by
   obtain⟨h1,h2⟩:=JS (k:=k) x ts st
   exact⟨by simp[bN,h1],by simp[iJ,h2]⟩
 | .own e ys::ts,st=>by
   obtain⟨h1,h2⟩:=JS (k:=k) x ts st
   exact⟨by simp[bN,h1],by simp[iJ,h2]⟩
 | .ref j::ts,st=>by
   simp only[bN,iJ]
   cases hj:Al j k with
   | true=>
     obtain⟨h1,h2⟩:=JS (k:=k) x ts st
     exact⟨by simp[h1],by simp[h2]⟩
   | false=>
     have hne:=Nr hj
     rw[ck,if_neg hne]
     obtain⟨h1,h2⟩:=JS (k:=k) x ts st
     obtain⟨h3,h4⟩:=JS (k:=k) x ts (aX st j (some .dead))
     rw[pY st j k _ _ hne] at h3 h4
     cases aV st j with
     | none=>exact⟨by simp[h1],by simp[h2]⟩
     | some en=>cases en with
       | box cs=>exact⟨by simp[h1],by simp[h2]⟩
       | dead=>exact⟨by simp[h1],by simp[h2]⟩
       | map kvs=>exact⟨by simp[h1],by simp[h2]⟩
       | acc e ys=>exact⟨by simp[h3],by simp[h4]⟩
       | bM e ys=>exact⟨by simp[h3],by simp[h4]⟩
theorem mT{k i:Nat}{e:TypeId}:∀(rest pre:List T)(g:G)(xs:List (List T)),g.at k=some (.bM e xs)→i<xs.length→ij xs i=pre++rest →
 sj P g ⟨g.sl,aX (iJ k g.st rest) k (some (.bM e (xs.set i (pre++bN k g.st rest))))⟩
 | [],pre,g,xs,hk,hi,hr=>by
   have e1:xs.set i pre=xs:=by
    rw[List.append_nil] at hr
    rw[←hr]
    refine List.ext_getElem? fun j=>?_
    rw[List.getElem?_set]
    by_cases hj:i=j
    ·subst hj;rw[if_pos rfl,if_pos hi,K9 hi]
    ·rw[if_neg hj]
   simp only[bN,iJ,List.append_nil,e1]
   rw[vm hk]
   exact sj.refl g
 | .leaf d::ts,pre,g,xs,hk,hi,hr=>by
   have:=mT ts (pre++[.leaf d]) g xs hk hi (by simpa using hr)
   simpa[bN,iJ] using this
 | .own e' ys::ts,pre,g,xs,hk,hi,hr=>by
   have:=mT ts (pre++[.own e' ys]) g xs hk hi (by simpa using hr)
   simpa[bN,iJ] using this
 | .ref j::ts,pre,g,xs,hk,hi,hr=>by
   have stay:(bN k g.st (.ref j::ts)= .ref j::bN k g.st ts)→(iJ k g.st (.ref j::ts)=iJ k g.st ts)→sj P g ⟨g.sl,aX (iJ k g.st (.ref j::ts)) k (some (.bM e (xs.set i (pre++bN k g.st (.ref j::ts)))))⟩:=by
    intro h1 h2
    have:=mT ts (pre++[.ref j]) g xs hk hi (by simpa using hr)
    rw[h1,h2]
    simpa using this
   have go:∀(e':TypeId)(ys:List (List T))(g0:G),sj P g g0→g0.sl=g.sl→g0.at k=some (.bM e xs)→g0.at j=some (.bM e' ys)→j≠k→aX g0.st j (some .dead)=aX g.st j (some .dead) →
    sj P g ⟨g.sl,aX (iJ k (aX g.st j (some .dead)) ts) k (some (.bM e (xs.set i (pre++ .own e' ys::bN k (aX g.st j (some .dead)) ts))))⟩:=by
    intro e' ys g0 hw hsl hk0 hj0 hne hst
    refine hw.trans ?_
    have h1:=Sr (P:=P) k i pre.length j hk0 hi (by rw[hr];simp) hj0 hne
    have e1:(ij xs i).set pre.length (.own e' ys)=pre++ .own e' ys::ts:=by rw[hr];exact rL _ _ _ _
    rw[e1,←pY _ _ _ _ _ hne,hst,hsl] at h1
    refine h1.trans ?_
    have hk1:(⟨g.sl,aX (aX g.st j (some .dead)) k (some (.bM e (xs.set i (pre++ .own e' ys::ts))))⟩:G).at k=some (.bM e (xs.set i (pre++ .own e' ys::ts))):=by
     show aV _ k=_
     rw[ck,if_pos rfl]
    have hr1:ij (xs.set i (pre++ .own e' ys::ts)) i=pre++ .own e' ys::ts:=by simp[ij,List.getD,hi]
    have:=mT ts (pre++[.own e' ys]) _ _ hk1 (by simpa using hi) (by rw[hr1];simp)
    obtain⟨q1,q2⟩:=JS (k:=k) (some (.bM e (xs.set i (pre++ .own e' ys::ts)))) ts (aX g.st j (some .dead))
    simp only[q1,q2,List.set_set,iP] at this
    simpa using this
   cases hjk:Al j k with
   | true=>exact stay (by simp[bN,hjk]) (by simp[iJ,hjk])
   | false=>
     have hne:=Nr hjk
     cases hen:aV g.st j with
     | none=>exact stay (by simp[bN,hjk,hen]) (by simp[iJ,hjk,hen])
     | some en=>cases en with
       | box cs=>exact stay (by simp[bN,hjk,hen]) (by simp[iJ,hjk,hen])
       | dead=>exact stay (by simp[bN,hjk,hen]) (by simp[iJ,hjk,hen])
       | map kvs=>exact stay (by simp[bN,hjk,hen]) (by simp[iJ,hjk,hen])
       | bM e' ys=>
         have:=go e' ys g (sj.refl g) rfl hk hen hne rfl
         simpa[bN,iJ,hjk,hen] using this
       | acc e' ys=>
         have hk0:(⟨g.sl,aX g.st j (some (.bM e' (lift ys)))⟩:G).at k=some (.bM e xs):=by
          show aV _ k=_
          rw[ck,if_neg (Ne.symm hne)]
          exact hk
         have hj0:(⟨g.sl,aX g.st j (some (.bM e' (lift ys)))⟩:G).at j=some (.bM e' (lift ys)):=by
          show aV _ j=_
          rw[ck,if_pos rfl]
         have:=go e' (lift ys) ⟨g.sl,aX g.st j (some (.bM e' (lift ys)))⟩ (RK j hen) rfl hk0 hj0 hne (iP _ _ _ _)
         simpa[bN,iJ,hjk,hen] using this
theorem nX(k i:Nat){e:TypeId}{xs:List (List T)}(row:List T)(hk:g.at k=some (.bM e xs))(hi:i<xs.length)(hr:ij xs i=row) :
 sj P g ⟨g.sl,aX (iJ k g.st row) k (some (.bM e (xs.set i (bN k g.st row))))⟩:=by
 have:=mT (P:=P) (k:=k) (i:=i) row [] g xs hk hi (by simpa using hr)
 simpa using this
end
end Go.Eng
namespace Go.Eng
open Go.RowKit
def R1:List Nat→List Nat→List Nat
 | [],m=>m
 | a::l,m=>a::R1 l m
theorem LG:∀(l m:List Nat),R1 l m=l++m
 | [],_=>rfl
 | a::l,m=>by simp[R1,LG l m]
def PW:D→Bool
 | .val _=>true
 | .str _=>true
 | .bx _=>false
def MS:List D→Bool
 | []=>true
 | d::ds=>PW d&&MS ds
def zr:List (List D)→Bool
 | []=>true
 | x::xs=>MS x&&zr xs
mutual
def T.sd:T→Bool
 | .leaf d=>PW d
 | .ref _=>true
 | .own _ xs=>DP xs
def QG:List T→Bool
 | []=>true
 | t::ts=>t.sd&&QG ts
def DP:List (List T)→Bool
 | []=>true
 | x::xs=>QG x&&DP xs
end
mutual
def PV.sd:PV→Bool
 | .any=>true
 | .undef=>true
 | .aK=>true
 | .d x=>PW x
 | .agg cs=>PI cs
 | .eZ cs=>PI cs
 | .ptr _ _=>true
 | .acc _=>true
 | .cC _ _ _ _=>true
 | .cf _ _ _=>false
 | .fn _ cs=>PI cs
def PI:List PV→Bool
 | []=>true
 | p::ps=>p.sd&&PI ps
end
def En.sd:En→Bool
 | .box cs=>PI cs
 | .acc _ xs=>zr xs
 | .bM _ xs=>DP xs
 | .map _=>true
 | .dead=>true
def zU:List (Option En)→Bool
 | []=>true
 | none::es=>zU es
 | some e::es=>e.sd&&zU es
section
variable{P:Program}{w:World}{ok ok':Nat→Prop}{ν:Nat→Nm}{st:Nat→Option En}
theorem cM.sd{d:D}{v:Value}(h:PW d=true)(hr:cM w ok d v):cM w ok' d v:=by
 cases hr with
 | val v h'=>exact .val v h'
 | str l h'=>exact .str l h'
 | nil=>cases h
 | emp a c h'=>cases h
 | bx=>cases h
mutual
theorem dU.sd:∀(t:T)(v:Value)(F:List Nat),t.sd=true→dU P w ok ν st t v F→dU P w ok' ν st t v F
 | .leaf d,v,F,hs,h=>by simp only[dU] at h⊢;simp only[T.sd] at hs;exact⟨h.1.sd hs,h.2⟩
 | .ref j,v,F,hs,h=>by simpa only[dU] using h
 | .own e xs,v,F,hs,h=>by
   simp only[T.sd] at hs
   simp only[dU] at h⊢
   obtain⟨us,F1,h1,h2,h3,h4,h5⟩:=h
   exact⟨us,F1,h1,h2,aA.sd xs us F1 hs h3,h4,h5⟩
theorem ar.sd:∀(ts:List T)(vs:List Value)(F:List Nat),QG ts=true→ar P w ok ν st ts vs F→ar P w ok' ν st ts vs F
 | [],[],F,_,h=>by simpa only[ar] using h
 | [],_::_,F,_,h=>by simp[ar] at h
 | _::_,[],F,_,h=>by simp[ar] at h
 | t::ts,v::vs,F,hs,h=>by
   simp only[QG,Bool.and_eq_true] at hs
   simp only[ar] at h⊢
   obtain⟨F1,F2,h1,h2,h3⟩:=h
   exact⟨F1,F2,dU.sd t v F1 hs.1 h1,ar.sd ts vs F2 hs.2 h2,h3⟩
theorem aA.sd:∀(xs:List (List T))(us:List (List Value))(F:List Nat),DP xs=true→aA P w ok ν st xs us F→aA P w ok' ν st xs us F
 | [],[],F,_,h=>by simpa only[aA] using h
 | [],_::_,F,_,h=>by simp[aA] at h
 | _::_,[],F,_,h=>by simp[aA] at h
 | x::xs,u::us,F,hs,h=>by
   simp only[DP,Bool.and_eq_true] at hs
   simp only[aA] at h⊢
   obtain⟨F1,F2,h1,h2,h3⟩:=h
   exact⟨F1,F2,ar.sd x u F1 hs.1 h1,aA.sd xs us F2 hs.2 h2,h3⟩
end
mutual
theorem af.sd:∀(p:PV)(v:Value),p.sd=true→af w ok ν st p v→af w ok' ν st p v
 | .any,_,_,_=>by simp only[af]
 | .undef,_,_,h=>by simpa only[af] using h
 | .aK,_,_,h=>by simpa only[af] using h
 | .d x,v,hs,h=>by simp only[af] at h⊢;exact h.sd hs
 | .agg cs,v,hs,h=>by
   simp only[af] at h⊢
   obtain⟨vs,e,h⟩:=h
   exact⟨vs,e,ae.sd cs vs (by simpa only[PV.sd] using hs) h⟩
 | .eZ cs,v,hs,h=>by
   simp only[af] at h⊢
   obtain⟨vs,e,h⟩:=h
   exact⟨vs,e,ae.sd cs vs (by simpa only[PV.sd] using hs) h⟩
 | .ptr _ _,_,_,h=>by simpa only[af] using h
 | .acc _,_,_,h=>by simpa only[af] using h
 | .cC _ _ _ _,_,_,h=>by simpa only[af] using h
 | .cf _ _ _,_,hs,_=>by simp[PV.sd] at hs
 | .fn f cs,v,hs,h=>by
   simp only[af] at h⊢
   obtain⟨vs,e,h⟩:=h
   exact⟨vs,e,ae.sd cs vs (by simpa only[PV.sd] using hs) h⟩
theorem ae.sd:∀(ps:List PV)(vs:List Value),PI ps=true→ae w ok ν st ps vs→ae w ok' ν st ps vs
 | [],[],_,_=>by simp[ae]
 | [],_::_,_,h=>by simp[ae] at h
 | _::_,[],_,h=>by simp[ae] at h
 | p::ps,v::vs,hs,h=>by
   simp only[PI,Bool.and_eq_true] at hs
   simp only[ae] at h⊢
   exact⟨af.sd p v hs.1 h.1,ae.sd ps vs hs.2 h.2⟩
end
theorem N9:∀{xs:List (List D)},zr xs=true→∀(i j:Nat)(x:List D)(d:D),xs[i]?=some x→x[j]?=some d→PW d=true:=by
 have h1:∀{x:List D},MS x=true→∀(j:Nat)(d:D),x[j]?=some d→PW d=true:=by
  intro x
  induction x with
  | nil=>intro _ j d h;simp at h
  | cons e x ih=>
    intro h j d hd
    simp only[MS,Bool.and_eq_true] at h
    cases j with
    | zero=>obtain rfl:e=d:=by simpa using hd
            exact h.1
    | succ j=>exact ih h.2 j d (by simpa using hd)
 intro xs
 induction xs with
 | nil=>intro _ i j x d h;simp at h
 | cons y xs ih=>
   intro h i j x d hx hd
   simp only[zr,Bool.and_eq_true] at h
   cases i with
   | zero=>obtain rfl:y=x:=by simpa using hx
           exact h1 h.1 j d hd
   | succ i=>exact ih h.2 i j x d (by simpa using hx) hd
theorem eP.sd{k:Nat}{e:En}(hs:e.sd=true)(h:eP P w ok ν st k e):eP P w ok' ν st k e:=by
 cases e with
 | dead=>trivial
 | box cs=>
   obtain⟨b,vs,T,h1,h2,h3,h4⟩:=h
   exact⟨b,vs,T,h1,h2,ae.sd cs vs (by simpa only[En.sd] using hs) h3,h4⟩
 | acc e xs=>
   obtain⟨us,h1,h2,h3,h4⟩:=h
   exact⟨us,h1,⟨h2.len,h2.hx,h2.hu,fun i j x u d v k1 k2 k3 k4=>(h2.hr i j x u d v k1 k2 k3 k4).sd (N9 (by simpa only[En.sd] using hs) i j x d k1 k3)⟩,h3,h4⟩
 | bM e xs=>exact⟨dU.sd (.own e xs) _ _ (by simpa only[T.sd,En.sd] using hs) h.1,h.2⟩
 | map kvs=>exact h
theorem Cc:∀{es:List (Option En)},zU es=true→∀(i:Nat)(e:En),aV es i=some e→e.sd=true
 | [],_,i,e,h=>by cases i<;>simp[aV] at h
 | none::es,hs,0,e,h=>by simp[aV] at h
 | none::es,hs,i+1,e,h=>Cc (es:=es) (by simpa only[zU] using hs) i e (by simpa[aV] using h)
 | some a::es,hs,0,e,h=>by
   simp only[zU,Bool.and_eq_true] at hs
   obtain rfl:a=e:=by simpa[aV] using h
   exact hs.1
 | some a::es,hs,i+1,e,h=>by
   simp only[zU,Bool.and_eq_true] at hs
   exact Cc hs.2 i e (by simpa[aV] using h)
end
theorem Lr{P:Program}{o:Oper}{g:G}{fop:Operand}{xs:List Operand}{tys:Array TypeId}{d:Nat}(ho:o.op= .call ⟨.value fop,⟨xs⟩,tys⟩)(hd:o.dst=some d){f:FuncId}{cap:List PV}(hfn:g.ev fop= .fn f cap)
 (ks m:List Nat) (cargs:List PV) (res:PV) (st':List (Option En)) (hC:C P f cargs [] (aO res st')) (hargs:lR g ks (xs.map g.ev++cap) cargs) (hsd:res.sd=true) (hse:zU st'=true) (hm:m.Nodup) (hnew:cZ g 0 m) (hml:st'.length≤m.length)
 (X:Cx) (ν:Nat→Nm) (a:Act) (w:World) (next:Act→World→Prop) (Q:Exit→Act→World→Prop) (hs:Sat P X ν g a w)
 (hn:∀ν' a' w',Sat P X ν' ⟨fm g.sl d (res.fB m),pV g.st (eG m m st')⟩ a' w'→next a' w'):o.wp P a w next Q:=by
 have hfv:=hs.ev fop
 rw[hfn] at hfv
 simp only[af] at hfv
 obtain⟨vcap,hfv,hcap⟩:=hfv
 have hxs:=so hs xs
 let Xc:Cx:=⟨w,Own (fun i=>ν (look m i)) (aV []),fun i=>ν (look m i),aV [],X.Z⟩
 have hno:∀(ν:Nat→Nm) b,¬Own ν (aV []) b:=by
  rintro ν b ⟨k,e,h,_⟩
  cases k<;>simp[aV] at h
 have hw:∀b,aN X ν g.at b→b<w.heap.size→aN Xc (fun i=>ν (look m i)) (aV []) b∧w.heap[b]?=w.heap[b]?:=fun b hb _=>⟨⟨hno _ b,hb.2⟩,rfl⟩
 have hown:∀b,Own ν g.at b→aN Xc (fun i=>ν (look m i)) (aV []) b:=fun b hb=>⟨hno _ b,hs.C5 hb⟩
 have hall:ae w (aN Xc (fun i=>ν (look m i)) (aV [])) (fun i=>ν (look m i)) (aV []) cargs (xs.map a.eval++vcap):=ae.vw hs hw hown _ hargs (hxs.app hcap)
 obtain⟨⟨fn,hfn1,hfn2,hfn3⟩,hC⟩:=hC
 have hr:(execOp a.eval o).run P w= .ok (.enter f ⟨xs.map a.eval++vcap⟩) w:=by
  have n1 : ¬ fn.name = "runtime.NumGoroutine" := by simpa using hfn3
  have n2:¬fn.body=none:=fun e=>by rw[e] at hfn2;cases hfn2
  simp[execOp,ho,resolve,hfv,Deferred.ofValue,invoke,callFunc,program,hfn1,n1,n2,Sem.run]
 have hat:∀k,(⟨cargs,[]⟩:G).at k=none:=fun k=>by cases k<;>rfl
 have hent:Sat P Xc (fun i=>ν (look m i)) ⟨cargs,[]⟩ ⟨⟨xs.map a.eval++vcap⟩,[]⟩ w:=by
  refine⟨by simpa using hall.length,fun t=>?_,fun k e h=>?_,fun k k' e e' b h=>?_,fun b hb=>?_,fun k h=>?_,fun k h=>?_,⟨fun b hb=>?_,hs.kt rfl fun b hb=>(hno _ b hb).elim⟩,kG.refl _ w,rfl⟩
  ·have key:∀(ps:List PV)(us:List Value)(t:Nat),ae w (aN Xc (fun i=>ν (look m i)) (aV [])) (fun i=>ν (look m i)) (aV []) ps us→af w (aN Xc (fun i=>ν (look m i)) (aV [])) (fun i=>ν (look m i)) (aV []) (nth ps t) (us.getD t Go.undef):=by
    intro ps
    induction ps with
    | nil=>intro us t _;cases t<;>simp[nth,af]
    | cons p ps ih=>
      intro us t hr
      cases us with
      | nil=>simp[ae] at hr
      | cons u us=>
        simp only[ae] at hr
        cases t with
        | zero=>simpa[nth] using hr.1
        | succ t=>simpa[nth] using ih us t hr.2
   have:=key cargs _ t hall
   show af w (aN Xc (fun i=>ν (look m i)) (aV [])) (fun i=>ν (look m i)) (aV []) (nth cargs t) ((⟨xs.map a.eval++vcap⟩:Array Value).getD t Go.undef)
   simpa[Array.getD_eq_getD_getElem?] using this
  ·rw[hat] at h;cases h
  ·rw[hat] at h;cases h
  ·exact(hno _ b hb).elim
  ·rw[hat] at h;cases h
  ·exact⟨rfl,h⟩
  ·exact⟨Nat.lt_of_lt_of_le (hs.xy b hb).1 hs.r3.size,hno _ b⟩
 unfold Oper.wp
 rw[hr,Oper.upon_enter]
 refine(hC Xc (xs.map a.eval++vcap) rfl rfl hent).mono ?_
 rintro e w' ⟨v,res',st2,ν',rfl,⟨rfl,rfl⟩,hsat⟩
 let Xd:Cx:=⟨w,Own (fun i=>ν (look m i)) (aV []),fun i=>ν (look m i),aV [],fun b=>X.Z b∨(Own ν g.at b∧¬Own (fun i=>ν (look m i)) (aV []) b)⟩
 have hsat2:FV P Xd ν' res' st2 v w':=by
  refine⟨hsat.size,fun t=>?_,fun k e h=>eP.sd (Cc hse k e h) (hsat.en k e h),hsat.inj,hsat.base,hsat.nu,hsat.par,⟨fun b hb=>?_,hsat.xy.k⟩,hsat.r3,hsat.defs⟩
  ·have hx:(nth [res'] t).sd=true:=by
    cases t with
    | zero=>exact hsd
    | succ t=>cases t<;>rfl
   exact af.sd _ _ hx (hsat.sl t)
  ·rcases hb with hb|hb
   ·exact hsat.xy b hb
   ·exact⟨hs.lt hb.1,hno _ b⟩
 obtain⟨ν'',hs'⟩:=hs.leave m [] st2 hm hml (Nat.zero_le _) (fun i hi=>by simp at hi) (fun i hi hi'=>hnew.at i hi (by omega)) Xd rfl (fun _ _=>rfl) rfl rfl rfl hsat2 d
 show next (a.put o.dst v) w'
 rw[hd]
 exact hn ν'' _ _ hs'
section
variable{E:Env}{g:G}{d:Nat}{ty:TypeId}{pos:String}{aft:Array Edge}{gd:Option (Nat×Bool)}
theorem Ly(fop:Operand)(xs:List Operand)(tys:Array TypeId)(f:FuncId)(cap:List PV)(hfn:g.ev fop= .fn f cap)(ks M:List Nat)(cargs:List PV)(res:PV)(st':List (Option En))(hC:C E.P f cargs [] (aO res st'))
 (hargs:lR g ks (xs.map g.ev++cap) cargs) (hsd:res.sd=true) (hse:zU st'=true) (hm:M.Nodup) (hnew:cZ g 0 M) (hml:st'.length≤M.length) :
 dX E.P ⟨some d,.call ⟨.value fop,⟨xs⟩,tys⟩,ty,pos,aft,gd⟩ g ⟨ba fop++xs.flatMap ba,ks++M⟩ ⟨some (d,res.fB M),eG M M st'⟩:=by
 intro g2 hg
 have e1:=hg.ev (x:=fop) (fun t h=>by simp[h])
 have e2:=mX hg xs (fun t h=>by simp only[List.mem_append];exact .inr h)
 have hfr:∀(ks':List Nat)(n:Nat),(∀k∈ks',k∈M)→cZ g n ks'→cZ g2 n ks':=by
  intro ks'
  induction ks' with
  | nil=>intro n _ _;cases n<;>trivial
  | cons k ks' ih=>
    intro n hk h
    cases n with
    | zero=>
      simp only[cZ] at h⊢
      exact⟨by rw[hg.p k (by simp[hk k (by simp)])];exact h.1,ih 0 (fun k h=>hk k (by simp[h])) h.2⟩
    | succ n=>
      simp only[cZ] at h⊢
      exact ih n (fun k h=>hk k (by simp[h])) h
 intro X ν a w next Q hs hn
 exact Lr rfl rfl (by rw[e1,hfn]) ks M cargs res st' hC (by rw[e2];exact hargs.agree (fun k hk=>hg.p k (by simp[hk]))) hsd hse hm (hfr M 0 (fun _ h=>h) hnew) hml X ν a w next Q hs hn
theorem B0{m:Option (List Ky)}{gs:Option Nat}{rest:jZ→Option (List Ky)→G→Prop}{fop:Operand}{xs:List Operand}{tys:Array TypeId}{f:FuncId}(cap:List PV)(ks M:List Nat){cargs:List PV}{res:PV}{st':List (Option En)}
 (hC:C E.P f cargs [] (aO res st')) (h1:g.ev fop= .fn f cap) (h2:lR g ks (JZ g xs++cap) cargs) (h3:res.sd=true∧zU st'=true∧FQ M=true∧qc (ff st') (yr M)=true∧cZ g 0 M)
 (hr:rest .on (gl m (hY (n6 gs ⟨ba fop++uQ xs,R1 ks M⟩) ⟨some (d,res.fB M),eG M M st'⟩)) (g.app ⟨some (d,res.fB M),eG M M st'⟩)):mj E m gs ⟨some d,.call ⟨.value fop,⟨xs⟩,tys⟩,ty,pos,aft,gd⟩ g rest:=by
 rw[p8,LG] at hr
 rw[uJ] at h2
 obtain⟨k1,k2,k3,k4,k5⟩:=h3
 have k4:=eK k4
 rw[gF,xJ] at k4
 exact bU (Ly fop xs tys f cap h1 ks M cargs res st' hC h2 k1 k2 (DI k3) k5 k4) hr
end
section
variable{E:Env}{n0:Nat}{g:G}{c:Code}{Q:Ex→G→Prop}
theorem xZ{P:Program}{g':G}(k i:Nat){e:TypeId}{xs:List (List T)}(row:List T)(hk:g.at k=some (.bM e xs))(hi:i<xs.length)(hr:ij xs i=row)
 (h:jS P n0 ⟨g.sl,aX (iJ k g.st row) k (some (.bM e (xs.set i (bN k g.st row))))⟩ g'):jS P n0 g g':=jS.trans (sj.FL (nX k i row hk hi hr)) h
end
theorem Px{xs:List (List T)}{i:Nat}{r:List T}(h:i<xs.length):ij (xs.set i r) i=r:=by simp[ij,List.getD,h]
theorem Jm(xs:List (List T))(r:List T):ij (xs++[r]) xs.length=r:=by simp[ij,List.getD]
theorem ug{xs:List (List T)}{r:List T}{n:Nat}(h:xs.length=n):ij (xs++[r]) n=r:=by subst h;exact Jm xs r
theorem tX{xs:List (List T)}{r r':List T}{n:Nat}(h:xs.length=n):(xs++[r]).set n r'=xs++[r']:=by subst h;exact rL xs r r' []
attribute [go_sem] PW MS zr T.sd QG DP PV.sd PI En.sd zU R1 jn Aa Ry bN iJ List.set_set Jm List.length_set
end Go.Eng
namespace Go.Eng
open Go.RowKit
section
variable{P:Program}{w:World}{ok:Nat→Prop}{ν:Nat→Nm}{st:Nat→Option En}
theorem aA.split:∀(n:Nat){x:List (List T)}{u:List (List Value)}{F:List Nat},aA P w ok ν st x u F→∃F1 F2,aA P w ok ν st (x.take n) (u.take n) F1∧F=F1++F2
 | 0,x,u,F,h=>⟨[],F,by simp[aA],rfl⟩
 | n+1,[],[],F,h=>⟨[],F,by simp[aA],rfl⟩
 | _+1,[],_::_,_,h=>by simp[aA] at h
 | _+1,_::_,[],_,h=>by simp[aA] at h
 | n+1,t::ts,a::u,F,h=>by
   simp only[aA] at h
   obtain⟨F1,F2,h1,h2,rfl⟩:=h
   obtain⟨G1,G2,k1,rfl⟩:=aA.split n h2
   refine⟨F1++G1,G2,?_,by rw[List.append_assoc]⟩
   simp only[List.take_succ_cons,aA]
   exact⟨F1,G1,h1,k1,rfl⟩
end
section
variable{E:Env}{g:G}{d:Nat}{ty:TypeId}{pos:String}{aft:Array Edge}{gd:Option (Nat×Bool)}
end
end Go.Eng
namespace Go.Eng
open Go.RowKit
def Py(P:Program)(ops:Array Oper)(Q:Ex→G→Prop):Nat→Array Bool→G→Prop
 | 0,listed,g=>Region.ready .any ops listed=[]∧Q .normal g
 | f+1,listed,g=>(Region.ready .any ops listed=[]→Q .normal g)∧∀i∈Region.ready .any ops listed,∃o R δ,ops[i]?=some o∧xU P ops o g R δ∧Py P ops Q f (listed.setIfInBounds i true) (g.app δ)
theorem Py.ok{P:Program}{ops:Array Oper}{Q:Ex→G→Prop}{X:Cx}:∀(f:Nat)(listed:Array Bool)(g:G)(ν:Nat→Nm)(a:Act)(w:World),Py P ops Q f listed g→Sat P X ν g a w→wpAny P .any ops (Fz P X Q) f listed a w
 | 0,_,g,ν,_,_,h,hs=>⟨h.1,g,ν,h.2,hs⟩
 | f+1,listed,g,ν,a,w,h,hs=>by
   refine⟨fun hr=>⟨g,ν,h.1 hr,hs⟩,fun i hi=>?_⟩
   obtain⟨o,R,δ,ho,hst,hx⟩:=h.2 i hi
   have:=hst g ⟨fun _ _=>rfl,fun _ _=>rfl⟩ X ν a w (wpAny P .any ops (Fz P X Q) f (listed.setIfInBounds i true)) (Fz P X Q) hs fun ν' a' w' hs'=>Py.ok f _ _ ν' a' w' hx hs'
   unfold wpOp
   simp only[ho]
   by_cases hw:Region.wanted o (yielded ops a.tmps)=true
   ·simp only[hw,if_true] at this⊢;exact .inl this
   ·simp only[hw,if_false] at this⊢;exact this
section
variable{E:Env}{n0:Nat}{g:G}{Q:Ex→G→Prop}
end
end Go.Eng
namespace Go.Eng
open Go.RowKit
section
variable{P:Program}{g:G}
theorem Ir(k:Nat){e:TypeId}{xs:List (List T)}{ys:List (List D)}(hk:g.at k=some (.bM e xs))(hf:aW xs=some ys) :
 sj P g ⟨g.sl,aX g.st k (some (.acc e ys))⟩:=by
 intro X ν a w hs
 obtain⟨us,ho,hul,hrr,hB,hnd⟩:=nj hs hk
 generalize hg':(⟨g.sl,aX g.st k (some (.acc e ys))⟩:G)=g'
 have hat:∀j,g'.at j=if j=k then some (.acc e ys) else g.at j:=by
  intro j
  rw[←hg']
  exact ck g.st k _ j
 refine⟨fun j=>if j=k then⟨(ν k).v,[]⟩ else ν j,?_⟩
 generalize hν':(fun j=>if j=k then(⟨(ν k).v,[]⟩:Nm) else ν j)=ν'
 have hνk:ν' k=⟨(ν k).v,[]⟩:=by rw[←hν'];simp
 have hνo:∀j,j≠k→ν' j=ν j:=fun j h1=>by rw[←hν'];simp[h1]
 have hm:e9 g.at g'.at ν ν':=by
  intro j hj
  refine⟨?_,?_⟩
  ·by_cases h2:j=k
   ·rw[h2,hνk]
   ·rw[hνo j h2]
  ·rw[hat]
   split
   ·rfl
   ·exact hj
 have hask:∀b,(ν' k).has b↔b∈hb (ν k).v:=fun b=>by rw[hνk,im];simp
 have hasK:∀b,(ν k).has b↔b∈hb (ν k).v++(ν k).f:=fun b=>im
 have back:∀j e1,g'.at j=some e1→e1.live=true→∀b,(ν' j).has b→∃e0,g.at j=some e0∧e0.live=true∧(ν j).has b:=by
  intro j e1 h1 h2 b hb1
  by_cases hjk:j=k
  ·subst hjk
   exact⟨_,hk,rfl,(hasK b).2 (List.mem_append_left _ ((hask b).1 hb1))⟩
  ·rw[hat,if_neg hjk] at h1
   rw[hνo j hjk] at hb1
   exact⟨e1,h1,h2,hb1⟩
 have hown:∀b,Own ν' g'.at b→Own ν g.at b:=by
  rintro b ⟨j,e1,h1,h2,h3⟩
  obtain⟨e0,k1,k2,k3⟩:=back j e1 h1 h2 b h3
  exact⟨j,e0,k1,k2,k3⟩
 have hw:∀b,aN X ν g.at b→b<w.heap.size→aN X ν' g'.at b∧w.heap[b]?=w.heap[b]?:=fun b hb _=>⟨⟨fun ho=>hb.1 (hown b ho),hb.2⟩,rfl⟩
 have hF:∀b∈(ν k).f,aN X ν' g'.at b:=by
  intro b hbf
  have hKb:(ν k).has b:=(hasK b).2 (List.mem_append_right _ hbf)
  refine⟨?_,hs.C5 ⟨k,_,hk,rfl,hKb⟩⟩
  rintro⟨j,e1,h1,h2,h3⟩
  obtain⟨e0,k1,k2,k3⟩:=back j e1 h1 h2 b h3
  have hjk:=hs.inj j k e0 _ b k1 hk k2 rfl k3 hKb
  subst hjk
  have h4:=(hask b).1 h3
  exact(List.nodup_append.1 hnd).2.2 b h4 b hbf rfl
 obtain⟨l1,l2,l3⟩:=aA.data hw xs us (ν k).f ys hf hrr hF
 have hrep:aL w (aN X ν' g'.at) (P.cellsOf e) ys us:=by
  refine⟨l1,fun i x hx=>?_,fun i u hu=>hul i u hu,fun i j x u d v h1 h2 h3 h4=>(l3 i x u h1 h2).2 j d v h3 h4⟩
  have hi:i<us.length:=by
   have:=(List.getElem?_eq_some_iff.1 hx).1
   omega
  have hu:=List.getElem?_eq_getElem hi
  rw[(l3 i x _ hx hu).1]
  exact hul i _ hu
 refine hs.NS (g':=g') (ν':=ν') (fun _=>False) (kG.refl _ w) (fun _ hb=>hb.elim) hm ?_ ?_ ?_ ?_ ?_ ?_ rfl
 ·intro j e1 hj
  rw[hat] at hj
  by_cases hjk:j=k
  ·rw[if_pos hjk] at hj
   obtain rfl:=Option.some.inj hj
   subst hjk
   refine .inr ⟨us,?_,hrep,by omega,by rw[hνk]⟩
   rw[hνk,←l2]
   exact ho
  ·rw[if_neg hjk] at hj
   exact .inl ⟨hj,hνo j hjk,fun _ _ _ hb=>hb⟩
 ·intro j e1 b h1 h2 h3
  exact .inl (hown b ⟨j,e1,h1,h2,h3⟩)
 ·intro j j' e1 e2 b h1 h2 h3 h4 h5 h6
  obtain⟨e0,k1,k2,k3⟩:=back j e1 h1 h3 b h5
  obtain⟨e3,l1,l2,l3⟩:=back j' e2 h2 h4 b h6
  exact hs.inj j j' e0 e3 b k1 l1 k2 l2 k3 l3
 ·intro j hj
  rw[hat] at hj
  by_cases hjk:j=k
  ·exact .inl (by rw[hjk,hk];rfl)
  ·rw[if_neg hjk] at hj
   exact .inl hj
 ·rw[←hg'];exact hs.size
 ·intro t
  exact .inl ⟨by rw[←hg'],rfl⟩
end
theorem RS{E:Env}{g g':G}{o:Oper}{rest:jZ→Option (List Ky)→G→Prop}(hw:sj E.P g g')(h:mj E none none o g' rest):mj E none none o g rest:=by
 rcases h with⟨R,δ,h1,h2⟩|⟨_,_,g2,h1,h2⟩
 ·exact .inr ⟨rfl,rfl,g',hw,R,δ,h1,h2⟩
 ·exact .inr ⟨rfl,rfl,g2,hw.trans h1,h2⟩
theorem yi{E:Env}{rs:List ResultVar}{n0:Nat}{R:PV→List (Option En)→Prop}{g g':G}(hw:sj E.P g g')(h:MF E rs n0 R g'):MF E rs n0 R g:=
 let ⟨g2,h1,h2⟩:=h
 ⟨g2,jS.trans hw.FL h1,h2⟩
theorem Lm{xs:List (List T)}{r1 r2:List T}{n:Nat}(h:xs.length=n):ij (xs++[r1,r2]) n=r1:=by subst h;simp[ij,List.getD]
theorem Lb{xs:List (List T)}{r1 r2:List T}{n:Nat}(h:xs.length=n):ij (xs++[r1,r2]) (n+1)=r2:=by subst h;simp[ij,List.getD]
theorem MC{xs:List (List T)}{r1 r2 r:List T}{n:Nat}(h:xs.length=n):(xs++[r1,r2]).set n r=xs++[r,r2]:=by subst h;simp
theorem Lc{xs:List (List T)}{r1 r2 r:List T}{n:Nat}(h:xs.length=n):(xs++[r1,r2]).set (n+1) r=xs++[r1,r]:=by subst h;simp
attribute [go_sem] ik gE CK N4
end Go.Eng
namespace Go.Eng
open Go.RowKit
theorem jX{E:Env}{ops:Array Oper}{o:Oper}{os:List Oper}{g:G}{K:G→Prop}(hg:o.guard=none)(h:mj E none none o g (fun _ _ g'=>WO E.P ops os g' K)):WO E.P ops (o::os) g K:=by
 rcases h with⟨R,δ,h1,h2⟩|⟨_,_,g',hw,R,δ,h1,h2⟩
 ·exact pW (xU.plain hg h1) h2
 ·exact Jf hw (pW (xU.plain hg h1) h2)
end Go.Eng
namespace Go.Eng
open Go.RowKit
def dV:List (Int×Value)→Int→Option Value
 | [],_=>none
 | p::l,n=>if n=p.1 then some p.2 else dV l n
theorem lN(n:Int):∀(es:List MapEntry)(kvs:List (Int×Value))(i:Nat),qm es=qo kvs →
 (dV kvs n=none→Instr.findNow (.int .i64) (.int .i64 n) es i=some none)∧(∀v,dV kvs n=some v→∃j,Instr.findNow (.int .i64) (.int .i64 n) es i=some (some (j,v)))
 | [],[],i,_=>⟨fun _=>rfl,fun v h=>by cases h⟩
 | [],_::_,i,h=>by simp[qm,qo] at h
 | _::_,[],i,h=>by simp[qm,qo] at h
 | e::es,p::kvs,i,h=>by
   simp only[qm,qo,List.map_cons,List.cons.injEq,Prod.mk.injEq] at h
   obtain⟨⟨h1,h2⟩,h3⟩:=h
   obtain⟨i1,i2⟩:=lN n es kvs (i+1) h3
   simp only[dV,Instr.findNow,h1,Instr.sameNow,if_true]
   by_cases hn:n=p.1
   ·simp only[hn,if_true,beq_self_eq_true,h2]
    exact⟨fun h=>by simp at h,fun v hv=>⟨i,by simpa using hv⟩⟩
   ·have:(n == p.1)=false:=by simpa using hn
    simp only[hn,if_false,this]
    exact⟨i1,i2⟩
section
variable{E:Env}{g:G}{d:Nat}{ty:TypeId}{pos:String}{aft:Array Edge}{gd:Option (Nat×Bool)}{dn:Option Nat}
theorem Ou{w:World}{ok:Nat→Prop}{ν:Nat→Nm}{st:Nat→Option En}{v:Value}(h:Ss v=true):af w ok ν st (PY v) v:=by
 have key:∀vs:List Value,(vs.all fun v=>v.oneCell')=true→ae w ok ν st (vs.map fun v=>.d (.val v)) vs:=by
  intro vs
  induction vs with
  | nil=>intro _;simp[ae]
  | cons v vs ih=>
    intro h
    simp only[List.all_cons,Bool.and_eq_true] at h
    simp only[List.map_cons,ae,af]
    exact⟨.val v h.1,ih h.2⟩
 cases v with
 | agg cs=>simp only[Ss] at h;simp only[PY,af];exact⟨cs.toList,rfl,key _ h⟩
 | _=>simp only[Ss] at h;simp only[PY,af];exact .val _ h
theorem Pn{w:World}{ok:Nat→Prop}{ν:Nat→Nm}{st:Nat→Option En}{u v:Value}(h:af w ok ν st (PY u) v):v=u:=by
 have key:∀us vs:List Value,ae w ok ν st (us.map fun v=>.d (.val v)) vs→vs=us:=by
  intro us
  induction us with
  | nil=>intro vs h;cases vs with
    | nil=>rfl
    | cons v vs=>simp[ae] at h
  | cons u us ih=>intro vs h;cases vs with
    | nil=>simp[ae] at h
    | cons v vs=>
      simp only[List.map_cons,ae] at h
      rw[bW h.1,ih vs h.2]
 cases u with
 | agg cs=>
   simp only[PY,af] at h
   obtain⟨vs,rfl,h⟩:=h
   rw[key _ _ h]
 | _=>exact bW h
theorem EA(t k:Nat)(hk:g.at k=none):dX E.P ⟨some d,.makeMap t none,ty,pos,aft,gd⟩ g ⟨[],[k]⟩ ⟨some (d,.acc k),[(k,.map [])]⟩:=by
 intro g2 hg
 have h3:=(hg.p k (by simp)).trans hk
 intro X ν a w next Q hs hn
 have hr:(execOp a.eval ⟨some d,.makeMap t none,ty,pos,aft,gd⟩).run E.P w= .ok (.value (.map (some w.heap.size))) (w.alloc (.map #[] 0)):=rfl
 unfold Oper.wp
 rw[hr,Oper.upon_value]
 refine hn _ _ _ (hs.oX (dx w _) k h3 (.map []) ⟨.map (some w.heap.size),[]⟩ rfl ?_ d _ _ ?_ ?_)
 ·intro b hb
  obtain rfl:w.heap.size=b:=by simpa[Nm.has,oq] using hb
  exact Nat.le_refl _
 ·intro ok st ν' hν hw hm
  exact⟨w.heap.size,#[],0,by rw[hν],by rw[kE],rfl,fun p hp=>by simp at hp,by rw[hν]⟩
 ·intro ok st ν' hν hst hw hm
  simp only[af]
  exact⟨by rw[hst];rfl,by rw[hν]⟩
theorem iM{P:Program}{kt:TypeId}(hk:P.underlying kt=some (.int .i64))(b:Bool)(n:Int)(w:World):(Instr.checkKey b 10000 kt (.int .i64 n)).run P w= .ok () w:=
 MapKept.run_checkKey (k:=.int .i64 n) hk (by trivial) b 9999
theorem lO(x y:Operand)(t kt et k:Nat)(kvs:List (Int×Value))(n:Int)(v:Value)(ht:E.P.underlying t=some (.map kt et))(hkt:E.P.underlying kt=some (.int .i64))(hx:g.ev x= .acc k)(hk:g.at k=some (.map kvs))(hy:g.ev y= .d (.val (.int .i64 n)))(hv:dV kvs n=some v) :
 dX E.P ⟨some d,.lookup t x y false,ty,pos,aft,gd⟩ g ⟨ba x++ba y,[k]⟩ ⟨some (d,PY v),[]⟩:=by
 intro g2 hg
 have h1:=hg.ev (x:=x) (fun t h=>by simp[h])
 have h2:=hg.ev (x:=y) (fun t h=>by simp[h])
 have h3:=(hg.p k (by simp)).trans hk
 refine wO.val rfl fun X ν a w hs=>?_
 have hvx:=hs.ev x
 rw[h1,hx] at hvx
 have hvy:=hs.ev y
 rw[h2,hy] at hvy
 have hvy:=bW hvy
 simp only[af] at hvx
 obtain⟨r,es,clock,q1,q2,q3,q4,q5⟩:=hs.en k _ h3
 obtain⟨j,hj⟩:=(lN n es.toList kvs 0 q3).2 v hv
 have hmem:∃p∈kvs,p.2=v:=by
  clear q3 q4 hj h3 hk
  induction kvs with
  | nil=>cases hv
  | cons p l ih=>
    simp only[dV] at hv
    split at hv
    ·exact⟨p,by simp,by simpa using hv⟩
    ·obtain⟨q,h1,h2⟩:=ih hv
     exact⟨q,List.mem_cons_of_mem _ h1,h2⟩
 obtain⟨p,hp1,hp2⟩:=hmem
 refine⟨v,?_,Ou (by rw[←hp2];exact q4 p hp1)⟩
 simp only[execOp,hvx.2,q1,hvy,Instr.lookup,Sem.run_bind,run_underlying ht,Result.andThen_ok,MapKept.run_getObj_map q2,Sem.run_pure,iM hkt,MapKept.run_findKey hkt hj]
 rfl
theorem tV(x y:Operand)(t kt et k:Nat)(ei:TI)(kvs:List (Int×Value))(n:Int)(ht:E.P.underlying t=some (.map kt et))(hkt:E.P.underlying kt=some (.int .i64))(he:E.ti et=some ei)(hzo:zeroOf E.P et= .bool false)(hx:g.ev x= .acc k)(hk:g.at k=some (.map kvs))(hy:g.ev y= .d (.val (.int .i64 n)))(hv:dV kvs n=none) :
 dX E.P ⟨some d,.lookup t x y false,ty,pos,aft,gd⟩ g ⟨ba x++ba y,[k]⟩ ⟨some (d,.d (.val (.bool false))),[]⟩:=by
 intro g2 hg
 have h1:=hg.ev (x:=x) (fun t h=>by simp[h])
 have h2:=hg.ev (x:=y) (fun t h=>by simp[h])
 have h3:=(hg.p k (by simp)).trans hk
 refine wO.val rfl fun X ν a w hs=>?_
 have hvx:=hs.ev x
 rw[h1,hx] at hvx
 have hvy:=hs.ev y
 rw[h2,hy] at hvy
 have hvy:=bW hvy
 simp only[af] at hvx
 obtain⟨r,es,clock,q1,q2,q3,q4,q5⟩:=hs.en k _ h3
 have hj:=(lN n es.toList kvs 0 q3).1 hv
 obtain⟨i,z,z1,z2,z3,z4,z5,z6⟩:=(E.ok et ei he).info
 have hzv:z= .bool false:=by
  rw[←hzo]
  simp[zeroOf,z1,z4]
 refine⟨.bool false,?_,iz rfl⟩
 simp only[execOp,hvx.2,q1,hvy,Instr.lookup,Sem.run_bind,run_underlying ht,Result.andThen_ok,MapKept.run_getObj_map q2,Sem.run_pure,iM hkt,MapKept.run_findKey hkt hj,zeroValue,typeInfo]
 simp[z1,z4,hzv]
theorem EL{P:Program}{t kt et:TypeId}(ht:P.underlying t=some (.map kt et))(hkt:P.underlying kt=some (.int .i64)){w:World}{r:Nat}{es:Array MapEntry}{clock:Nat}(hr:w.heap[r]?=some (.map es clock)){n:Int}(hf:Instr.findNow (.int .i64) (.int .i64 n) es.toList 0=some none)(v:Value) :
 (Instr.mapUpdate t (.map (some r)) (.int .i64 n) v).run P w= .ok () { w with heap:=w.heap.setIfInBounds r (.map (es.push ⟨.int .i64 n,v,clock⟩) (clock+1)) }:=by
 simp only[Instr.mapUpdate,Sem.run_bind,run_underlying ht,Result.andThen_ok,MapKept.run_getObj_map hr,iM hkt,MapKept.run_findKey hkt hf]
 exact MapKept.run_setObj_map _ hr
theorem lq(o:Op)(x y z:Operand)(t kt et k:Nat)(kvs:List (Int×Value))(n:Int)(v:Value)(ho:o= .mapUpdate t x y z∨o= .insert t x y z)(ht:E.P.underlying t=some (.map kt et))(hkt:E.P.underlying kt=some (.int .i64))(hx:g.ev x= .acc k)(hk:g.at k=some (.map kvs))(hy:g.ev y= .d (.val (.int .i64 n)))(hz:g.ev z=PY v)(hok:Ss v=true)(hv:dV kvs n=none) :
 dX E.P ⟨none,o,ty,pos,aft,gd⟩ g ⟨ba x++ba y++ba z,[k]⟩ ⟨none,[(k,.map (kvs++[(n,v)]))]⟩:=by
 intro g2 hg
 have e1:=hg.ev (x:=x) (fun t h=>by simp[h])
 have e2:=hg.ev (x:=y) (fun t h=>by simp[h])
 have e3:=hg.ev (x:=z) (fun t h=>by simp[h])
 have h3:=(hg.p k (by simp)).trans hk
 intro X ν a w next Q hs hnx
 have hvx:=hs.ev x
 rw[e1,hx] at hvx
 have hvy:=hs.ev y
 rw[e2,hy] at hvy
 have hvy:=bW hvy
 have hvz:=hs.ev z
 rw[e3,hz] at hvz
 have hvz:=Pn hvz
 simp only[af] at hvx
 obtain⟨r,es,clock,q1,q2,q3,q4,q5⟩:=hs.en k _ h3
 have hj:=(lN n es.toList kvs 0 q3).1 hv
 have hrun:=EL ht hkt q2 hj v
 have hr:(execOp a.eval ⟨none,o,ty,pos,aft,gd⟩).run E.P w= .ok .skip { w with heap:=w.heap.setIfInBounds r (.map (es.push ⟨.int .i64 n,v,clock⟩) (clock+1)) }:=by
  rcases ho with rfl|rfl<;>simp only[execOp,hvx.2,q1,hvy,hvz,Sem.run_bind,hrun,Result.andThen_ok]<;>rfl
 unfold Oper.wp
 rw[hr,Oper.upon_skip]
 have hrs:r<w.heap.size:=je q2
 have hchg:kG (fun b=>(ν k).has b) w { w with heap:=w.heap.setIfInBounds r (.map (es.push ⟨.int .i64 n,v,clock⟩) (clock+1)) }:=
  ⟨rfl,rfl,rfl,by simp,fun b _ hb=>by
   have hne:r≠b:=fun e=>hb (e▸(dS q5).2 (by rw[q1];rfl))
   simp[Array.getElem?_setIfInBounds,hne]⟩
 refine hnx _ _ _ (hs.uj k (.map kvs) (.map (kvs++[(n,v)])) h3 rfl hchg none .undef Go.undef ?_ (fun h=>by cases h))
 intro hwf hm
 refine⟨r,_,_,q1,by simp[Array.getElem?_setIfInBounds,hrs];exact⟨rfl,rfl⟩,?_,fun p hp=>?_,q5⟩
 ·simp only[qm,qo,Array.toList_push,List.map_append,List.map_cons,List.map_nil] at q3⊢
  rw[q3]
 ·rcases List.mem_append.1 hp with h|h
  ·exact q4 p h
  ·simp only[List.mem_cons,List.not_mem_nil,or_false] at h
   rw[h];exact hok
end
attribute [go_sem] PY
end Go.Eng
namespace Go.Eng
open Go.RowKit
theorem jl{P:Program}(w:World)(dT sT ty elem:TypeId)(s g o dLen dCap:Nat)(a:Addr)(sLen sCap:Nat)(cur:Array Value)(t:TypeId)(cs:List Value)
 (hu:P.underlying dT=some (.slice elem)) (hs:(P.info? elem).map (·.size)=some s)
 (hg:w.heap[g]?=some (.cells cur t (0,0))) (hn:cs.length=Nat.min sLen dLen*s)
 (hsrc:∀j v,cs[j]?=some v→w.cell? (a.add j)=some v) (hfit:o+cs.length≤cur.size) (h1:∀v∈cs,v.oneCell'=true) :
 (Builtin.copy_ #[dT,sT] ty #[.slice (some ⟨g,o,none⟩) dLen dCap,.slice (some a) sLen sCap]).run P w =
  .ok (goInt (Nat.min sLen dLen)) (w.setRow g (cur.toList.take o++cs++cur.toList.drop (o+cs.length)).toArray):=by
 have hl:=run_loadCells_list (P:=P) w a cs hsrc
 have hst:=run_storeCells_at P g o t cs 0 cur w hg (by simpa using hfit) h1
 cases hq:P.info? elem with
 | none=>simp[hq] at hs
 | some i=>
   have hi:i.size=s:=by simpa[hq] using hs
   rw[hn] at hl
   simp[Builtin.copy_,run_underlying hu,Builtin.lenOf,Builtin.firstCells,sizeOf,typeInfo,hq,hi,hl,hst]
section
variable{E:Env}{g:G}
theorem Fs(x lo:Operand)(t e k:Nat){d:Nat}{ty:TypeId}{pos:String}{aft:Array Edge}{gd:Option (Nat×Bool)}(ti ei:TI)(xs:List (List D))(m:Int)(ht:E.ti t=some ti)(hty:ti.ty= .slice e)(he:E.ti e=some ei)
 (hx:g.ev x= .acc k) (hk:g.at k=some (.acc e xs)) (hlo:g.ev lo= .d (.val (.int .i64 m))) (h0:0≤m) (hm:m≤xs.length) :
 dX E.P ⟨some d,.slice t x (some lo) none none,ty,pos,aft,gd⟩ g ⟨ba x++ba lo,[k]⟩ ⟨some (d,.any),[]⟩:=by
 intro g2 hg
 have e1:=hg.ev (x:=x) (fun t h=>by simp[h])
 have e2:=hg.ev (x:=lo) (fun t h=>by simp[h])
 have h3:=(hg.p k (by simp)).trans hk
 intro X ν a w next Q hs hn
 have hu:=(E.ok t ti ht).ty
 rw[hty] at hu
 have hv:=hs.ev x
 rw[e1,hx] at hv
 have hv2:=hs.ev lo
 rw[e2,hlo] at hv2
 have hv2:=bW hv2
 simp only[af] at hv
 have hsize:=(E.ok e ei he).size
 obtain⟨us,ho,hrr,hB,hf0⟩:=hs.en k _ h3
 have hrun:∃v,(execOp a.eval ⟨some d,.slice t x (some lo) none none,ty,pos,aft,gd⟩).run E.P w= .ok (.value v) w:=by
  rcases ho.2 with⟨h1,h2⟩|⟨b,cap,cur,h1,_,_,h4,_⟩
  ·have hr:=lD (P:=E.P) w hu hsize none 0 0 (some (.int .i64 m)) none m ((0:Nat):Int) (.inr ⟨_,rfl⟩) (.inl ⟨rfl,rfl⟩) h0 (by omega) (Int.le_refl _) (Nat.le_refl _)
   refine⟨sliced none m.toNat 0 0 ei.n,?_⟩
   simp only[execOp,hv.2,h1,hv2,Option.map_none,Option.map_some,Sem.run_bind,hr,Result.andThen_ok]
   rfl
  ·have hr:=lD (P:=E.P) w hu hsize (some ⟨b,0,none⟩) xs.length cap (some (.int .i64 m)) none m (xs.length:Int) (.inr ⟨_,rfl⟩) (.inl ⟨rfl,rfl⟩) h0 (by omega) (Int.le_refl _) h4
   simp only[Int.toNat_natCast] at hr
   refine⟨sliced (some ⟨b,0,none⟩) m.toNat xs.length cap ei.n,?_⟩
   simp only[execOp,hv.2,h1,hv2,Option.map_none,Option.map_some,Sem.run_bind,hr,Result.andThen_ok]
   rfl
 obtain⟨v,hr⟩:=hrun
 unfold Oper.wp
 rw[hr,Oper.upon_value]
 exact hn _ _ _ (hs.put d (p:=.any) (v:=v) trivial)
end
end Go.Eng
namespace Go.Eng
theorem Gu{α:Type}(A B R v:List α)(hs:v.length≤R.length) :
 (((A++B++R).take (A.length+v.length)++B++(A++B++R).drop (A.length+v.length+B.length)).take A.length++v
   ++ ((A++B++R).take (A.length+v.length)++B++(A++B++R).drop (A.length+v.length+B.length)).drop (A.length+v.length))
 = A++v++B++R.drop v.length:=by
 have hl:((A++B++R).take (A.length+v.length)).length=A.length+v.length:=by simp;omega
 have h1:(((A++B++R).take (A.length+v.length))++B++(A++B++R).drop (A.length+v.length+B.length)).take A.length=A:=by
  rw[List.append_assoc,List.take_append_of_le_length (by omega),List.take_take,Nat.min_eq_left (by omega),List.append_assoc,List.take_left]
 have h2:(((A++B++R).take (A.length+v.length))++B++(A++B++R).drop (A.length+v.length+B.length)).drop (A.length+v.length)=B++R.drop v.length:=by
  rw[List.append_assoc,List.drop_left' hl,show A.length+v.length+B.length=(A++B).length+v.length from by simp;omega,List.drop_append]
  simp
 rw[h1,h2]
 simp
end Go.Eng
