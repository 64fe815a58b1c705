/-
  The symbolic layer, thirty-fourth text: exclusive or; what a call leaves, told otherwise.
-/
import Derived.Test.YtgpjhjalfakpoaaGreatKAD
import Derived.Laws.Entries
set_option linter.unusedVariables false
set_option linter.unusedSimpArgs false
open Bool renaming and_eq_true→ae
open List renaming mem_append→aE,nil_append→bx,append_nil→bz,getD→bI,getElem?_set→fB,nodup_append→gX,set_cons_zero→iQ,set_cons_succ→iR,ext_getElem?→jD
open Nat renaming le_refl→au
namespace Go.Eng
open Go.RowKit
def Bw(a b:Int):Int:=((a.toNat ^^^ b.toNat:Nat):Int)
theorem JL(a b:Int):0≤Bw a b:=Int.natCast_nonneg _
theorem z7{a b:Int}(h1:0≤a)(h2:a≤9223372036854775807)(h3:0≤b)(h4:b≤9223372036854775807):bits .xor .i64 a b=Bw a b:=by
 obtain⟨A,rfl⟩:=Int.eq_ofNat_of_zero_le h1
 obtain⟨B,rfl⟩:=Int.eq_ofNat_of_zero_le h3
 have hx:A ^^^ B<2 ^ 63:=Nat.xor_lt_two_pow (by omega) (by omega)
 have k1:(BitVec.ofInt 64 (A:Int)).toNat=A:=by
  rw[BitVec.ofInt_natCast,BitVec.toNat_ofNat];exact Nat.mod_eq_of_lt (by omega)
 have k2:(BitVec.ofInt 64 (B:Int)).toNat=B:=by
  rw[BitVec.ofInt_natCast,BitVec.toNat_ofNat];exact Nat.mod_eq_of_lt (by omega)
 show IntKind.i64.wrap ((BitVec.ofInt 64 (A:Int) ^^^ BitVec.ofInt 64 (B:Int)).toNat:Int)=_
 rw[BitVec.toNat_xor,k1,k2,wrap_i64 ⟨by omega,by omega⟩]
 simp[Bw]
section
variable{E:Env}{g:G}{d:Nat}{ty:TypeId}{pos:String}{cM:Array Edge}{gd:Option (Nat×Bool)}
theorem Mj(x y:Operand)(m n:Int)(t u:TypeId)(hx:g.ev x= .d (.val (.int .i64 m)))(hy:g.ev y= .d (.val (.int .i64 n)))(h1:0≤m)(h2:m≤9223372036854775807)(h3:0≤n)(h4:n≤9223372036854775807) :
 gz E.P ⟨some d,.binOp .xor t x y u,ty,pos,cM,gd⟩ g ⟨bV x++bV y,[]⟩ ⟨some (d,.d (.val (.int .i64 (Bw m n)))),[]⟩:=
 j7 rfl hx hy rfl fun a w k1 k2=>by
  simp[execOp,k1,k2,eqGuard,binOp,intBits_xor,z7 h1 h2 h3 h4]
theorem NB{m:Option (List Ky)}{gs:Option Nat}{rest:ll→Option (List Ky)→G→Prop}{x y:Operand}{t u:TypeId}(a b:Int)(hx:g.ev x= .d (.val (.int .i64 a)))(hy:g.ev y= .d (.val (.int .i64 b)))(h1:0≤a)(h2:a≤9223372036854775807)(h3:0≤b)(h4:b≤9223372036854775807)
 (hr:rest .on (ja m (jM (oh gs ⟨bV x++bV y,[]⟩) ⟨some (d,.d (.val (.int .i64 (Bw a b)))),[]⟩)) (g.app ⟨some (d,.d (.val (.int .i64 (Bw a b)))),[]⟩)):ob E m gs ⟨some d,.binOp .xor t x y u,ty,pos,cM,gd⟩ g rest:=
 l8 (Mj x y a b t u hx hy h1 h2 h3 h4) hr
end
theorem C.Dx{P:Program}{f:FuncId}{args:List PV}{cy:List (Option En)}{res res':PV}{st st':List (Option En)}(m:List (Option Nat))(h:C P f args cy (bB res st))(h1:qS ⟨[res],st⟩ m [res] [res']∧gJ ⟨[res],st⟩ m m st')(h3:tD m st'=true)(h4:keeps cy.length 0 m=true):C P f args cy (bB res' st'):=
 have hw:Wk cy.length m ⟨[res],st⟩ ⟨[res'],st'⟩:=⟨h1.1,h1.2,h3,h4⟩
 ⟨h.1,fun X vs k1 k2 k3=>(h.2 X vs k1 k2 k3).mono fun e w ⟨v,r,s,ν',e1,⟨e2,e3⟩,e4⟩=>by
  subst e2 e3
  have hp:MC X cy.length:=fun k hk=>by rw[k1] at hk;exact jr hk
  obtain⟨ν'',hs⟩:=Ah hw X ν' _ _ hp e4
  exact⟨v,_,_,ν'',e1,⟨rfl,rfl⟩,hs⟩⟩
mutual
def PV.pE(k:Nat)(x:D):PV→PV
 | .acc j=>match vW j k with|true=>.d x|false=>.acc j
 | .agg cs=>.agg (w7 k x cs)
 | .gL cs=>.gL (w7 k x cs)
 | .any=>.any
 | .undef=>.undef
 | .aY=>.aY
 | .d y=>.d y
 | .ptr j o=>.ptr j o
 | .dk j i o sz=>.dk j i o sz
 | .da xs i o=>.da xs i o
 | .fn f cap=>.fn f cap
def w7(k:Nat)(x:D):List PV→List PV
 | []=>[]
 | p::ps=>p.pE k x::w7 k x ps
end
section
variable{w:World}{ok ok':Nat→Prop}{ν:Nat→Nm}{st st':Nat→Option En}{k:Nat}{x:D}
mutual
theorem aj.pE(hw:∀b,ok b→b<w.heap.size→ok' b∧w.heap[b]?=w.heap[b]?)(hm:gI st st' ν ν)(hx:dA w ok' x (ν k).v) :
 ∀(p:PV)(v:Value),aj w ok ν st p v→aj w ok' ν st' (p.pE k x) v
 | .acc j,v,h=>by
   have hf:=aj.frame hw (au _) hm (.acc j) v h
   simp only[aj] at h
   unfold PV.pE
   cases hj:vW j k with
   | false=>exact hf
   | true=>
     obtain rfl:=nj hj
     simp only[aj]
     rw[h.2]
     exact hx
 | .agg cs,v,h=>by
   simp only[aj,PV.pE] at h⊢
   obtain⟨vs,rfl,h⟩:=h
   exact⟨vs,rfl,ah.pE hw hm hx cs vs h⟩
 | .gL cs,v,h=>by
   simp only[aj,PV.pE] at h⊢
   obtain⟨vs,rfl,h⟩:=h
   exact⟨vs,rfl,ah.pE hw hm hx cs vs h⟩
 | .any,v,h=>aj.frame hw (au _) hm .any v h
 | .undef,v,h=>aj.frame hw (au _) hm .undef v h
 | .aY,v,h=>aj.frame hw (au _) hm .aY v h
 | .d y,v,h=>aj.frame hw (au _) hm (.d y) v h
 | .ptr j o,v,h=>aj.frame hw (au _) hm (.ptr j o) v h
 | .dk j i o sz,v,h=>aj.frame hw (au _) hm (.dk j i o sz) v h
 | .da xs i o,v,h=>aj.frame hw (au _) hm (.da xs i o) v h
 | .fn f cap,v,h=>aj.frame hw (au _) hm (.fn f cap) v h
theorem ah.pE(hw:∀b,ok b→b<w.heap.size→ok' b∧w.heap[b]?=w.heap[b]?)(hm:gI st st' ν ν)(hx:dA w ok' x (ν k).v) :
 ∀(ps:List PV)(vs:List Value),ah w ok ν st ps vs→ah w ok' ν st' (w7 k x ps) vs
 | [],[],_=>by simp[ah,w7]
 | [],_::_,h=>by simp[ah] at h
 | _::_,[],h=>by simp[ah] at h
 | p::ps,v::vs,h=>by
   simp only[ah,w7] at h⊢
   exact⟨aj.pE hw hm hx p v h.1,ah.pE hw hm hx ps vs h.2⟩
end
end
theorem zi{P:Program}(t k:Nat){g:G}{e:TypeId}{xs:List (List D)}(hk:g.at k=some (.acc e xs)):qT P g ⟨gk g.sl t ((nth g.sl t).pE k (.bX xs)),bE g.st k (some .dead)⟩:=by
 intro X ν a w hs
 refine⟨ν,?_⟩
 obtain⟨us,ho,fj,hB,_⟩:=hs.en k _ hk
 generalize hg':(⟨gk g.sl t ((nth g.sl t).pE k (.bX xs)),bE g.st k (some .dead)⟩:G)=g'
 have fJ:∀j,g'.at j=if j=k then some .dead else g.at j:=fun j=>by rw[←hg'];exact di g.st k (some .dead) j
 have iz:∀j e1,g'.at j=some e1→e1.live=true→j≠k∧g.at j=some e1:=by
  intro j e1 h1 h2
  rw[fJ] at h1
  by_cases hj:j=k
  ·rw[if_pos hj] at h1
   cases h1;cases h2
  ·rw[if_neg hj] at h1
   exact⟨hj,h1⟩
 have dG:∀b,Own ν g'.at b→Own ν g.at b:=by
  rintro b ⟨j,e1,h1,h2,h3⟩
  exact⟨j,e1,(iz j e1 h1 h2).2,h2,h3⟩
 have hw:∀b,bm X ν g.at b→b<w.heap.size→bm X ν g'.at b∧w.heap[b]?=w.heap[b]?:=fun b hb _=>⟨⟨fun ho=>hb.1 (dG b ho),hb.2⟩,rfl⟩
 have iy:dA w (bm X ν g'.at) (.bX xs) (ν k).v:=by
  refine mO ho fj hB (fun b hb=>⟨?_,hs.Bi ⟨k,_,hk,rfl,.inl hb⟩⟩) hw
  rintro⟨j,e1,m1,m2,m3⟩
  obtain⟨m4,m5⟩:=iz j e1 m1 m2
  exact m4 (hs.inj j k e1 _ b m5 hk m2 rfl m3 (.inl hb))
 have hmono:gI g.at g'.at ν ν:=by
  intro j hj
  refine⟨rfl,?_⟩
  rw[fJ]
  split
  ·rfl
  ·exact hj
 refine hs.Ia (g':=g') (fun _=>False) (mK.refl _ w) (fun _ hb=>hb.elim) hmono ?_ ?_ ?_ ?_ ?_ ?_ rfl
 ·intro j e1 hj
  rw[fJ] at hj
  by_cases fK:j=k
  ·rw[if_pos fK] at hj
   cases hj
   exact .inr trivial
  ·rw[if_neg fK] at hj
   exact .inl ⟨hj,rfl,fun _ _ _ hb=>hb⟩
 ·intro j e1 b m1 m2 m3
  exact .inl ⟨j,e1,(iz j e1 m1 m2).2,m2,m3⟩
 ·intro j j' e1 e2 b m1 m2 m3 m4 m5 m6
  exact hs.inj j j' e1 e2 b (iz j e1 m1 m3).2 (iz j' e2 m2 m4).2 m3 m4 m5 m6
 ·intro j hj
  rw[fJ] at hj
  by_cases fK:j=k
  ·exact .inl (by rw[fK,hk];rfl)
  ·rw[if_neg fK] at hj
   exact .inl hj
 ·rw[←hg'];simp[ey,hs.size]
 ·intro j
  have hsl:nth g'.sl j=if j=t∧t<g.sl.length then(nth g.sl t).pE k (.bX xs) else nth g.sl j:=by rw[←hg'];exact hJ _ _ _ _
  rw[hsl]
  by_cases hc:j=t∧t<g.sl.length
  ·rw[if_pos hc,hc.1]
   exact .inr (aj.pE hw hmono iy _ _ (hs.sl t))
  ·rw[if_neg hc]
   exact .inl ⟨rfl,rfl⟩
attribute [go_sem] PV.pE w7
end Go.Eng
namespace Go.Eng
open Go.RowKit
section
variable{P:Program}{w:World}{ok ok':Nat→Prop}{ν ν':Nat→Nm}{st st':Nat→Option En}
theorem aA.zip:∀(c:Nat){x:List T}{u:List Value}{F:List Nat}{t:T},aA P w ok ν st x u F→x[c]?=some t →
 ∃v A Ft B,u[c]?=some v∧F=A++(Ft++B)∧fE P w ok ν st t v Ft ∧
  ∀(ok':Nat→Prop)(ν':Nat→Nm)(st':Nat→Option En),(∀b,ok b→b<w.heap.size→ok' b∧w.heap[b]?=w.heap[b]?)→gI st st' ν ν'→∀(t':T)(Ft':List Nat),fE P w ok' ν' st' t' v Ft'→aA P w ok' ν' st' (x.set c t') u (A++(Ft'++B))
 | _,[],_,_,_,_,h=>by simp at h
 | _,_::_,[],_,_,h,_=>by simp[aA] at h
 | 0,a::x,v::u,F,t,h,ht=>by
   simp only[aA] at h
   obtain⟨F1,F2,h1,h2,rfl⟩:=h
   obtain rfl:a=t:=by simpa using ht
   refine⟨v,[],F1,F2,rfl,rfl,h1,fun ok' ν' st' hw hm t' Ft' h'=>?_⟩
   simp only[iQ,aA,bx]
   exact⟨Ft',F2,h',aA.frame hw (au _) hm _ _ _ h2 fun _ _=>rfl,rfl⟩
 | c+1,a::x,v::u,F,t,h,ht=>by
   simp only[aA] at h
   obtain⟨F1,F2,h1,h2,rfl⟩:=h
   obtain⟨v',A,Ft,B,k1,rfl,k2,k3⟩:=aA.zip c h2 (by simpa using ht)
   refine⟨v',F1++A,Ft,B,by simpa using k1,by simp,k2,fun ok' ν' st' hw hm t' Ft' h'=>?_⟩
   simp only[iR,aA]
   exact⟨F1,_,fE.frame hw (au _) hm _ _ _ h1 fun _ _=>rfl,k3 ok' ν' st' hw hm t' Ft' h',by simp⟩
theorem aR.zip:∀(i c:Nat){xs:List (List T)}{us:List (List Value)}{F:List Nat}{t:T},aR P w ok ν st xs us F→i<xs.length→(jF xs i)[c]?=some t →
 ∃v A Ft B,F=A++(Ft++B)∧fE P w ok ν st t v Ft ∧
  ∀(ok':Nat→Prop)(ν':Nat→Nm)(st':Nat→Option En),(∀b,ok b→b<w.heap.size→ok' b∧w.heap[b]?=w.heap[b]?)→gI st st' ν ν'→∀(t':T)(Ft':List Nat),fE P w ok' ν' st' t' v Ft'→aR P w ok' ν' st' (xs.set i ((jF xs i).set c t')) us (A++(Ft'++B))
 | _,_,[],_,_,_,_,h,_=>by simp at h
 | _,_,_::_,[],_,_,h,_,_=>by simp[aR] at h
 | 0,c,a::x,v::u,F,t,h,_,ht=>by
   simp only[aR] at h
   obtain⟨F1,F2,h1,h2,rfl⟩:=h
   have ht:a[c]?=some t:=ht
   obtain⟨v',A,Ft,B,k1,rfl,k2,k3⟩:=aA.zip c h1 ht
   refine⟨v',A,Ft,B++F2,by simp,k2,fun ok' ν' st' hw hm t' Ft' h'=>?_⟩
   show aR P w ok' ν' st' (a.set c t'::x) (v::u) _
   simp only[aR]
   exact⟨_,F2,k3 ok' ν' st' hw hm t' Ft' h',aR.frame hw (au _) hm _ _ _ h2 fun _ _=>rfl,by simp⟩
 | i+1,c,a::x,v::u,F,t,h,hi,ht=>by
   simp only[aR] at h
   obtain⟨F1,F2,h1,h2,rfl⟩:=h
   have ht:(jF x i)[c]?=some t:=by simpa[jF] using ht
   obtain⟨v',A,Ft,B,rfl,k2,k3⟩:=aR.zip i c h2 (by simpa using hi) ht
   refine⟨v',F1++A,Ft,B,by simp,k2,fun ok' ν' st' hw hm t' Ft' h'=>?_⟩
   have e:jF (a::x) (i+1)=jF x i:=by simp[jF]
   rw[e]
   simp only[iR,aR]
   exact⟨F1,_,aA.frame hw (au _) hm _ _ _ h1 fun _ _=>rfl,k3 ok' ν' st' hw hm t' Ft' h',by simp⟩
end
theorem Gi{hb A Ft B:List Nat}(h:(hb++(A++(Ft++B))).Nodup):(hb++(A++B)).Nodup∧Ft.Nodup∧∀b∈hb++(A++B),b∉Ft:=by
 have hp:(hb++(A++(Ft++B))).Perm (Ft++(hb++(A++B))):=by
  rw[List.perm_iff_count]
  intro a
  simp only[List.count_append]
  omega
 have h':=hp.nodup_iff.1 h
 obtain⟨h1,h2,h3⟩:=gX.1 h'
 exact⟨h2,h1,fun b hb1 hb2=>h3 b hb2 b hb1 rfl⟩
theorem DX{hb A Ft B:List Nat}(h1:(hb++(A++B)).Nodup)(h2:Ft.Nodup)(h3:∀b∈hb++(A++B),b∉Ft):(hb++(A++(Ft++B))).Nodup:=by
 have hp:(hb++(A++(Ft++B))).Perm (Ft++(hb++(A++B))):=by
  rw[List.perm_iff_count]
  intro a
  simp only[List.count_append]
  omega
 exact hp.nodup_iff.2 (gX.2 ⟨h2,h1,fun a ha b hb hab=>h3 b hb (hab▸ha)⟩)
section
variable{P:Program}{g:G}
theorem LM(k i c:Nat){e e':TypeId}{xs ys:List (List T)}(hk:g.at k=some (.cU e xs))(hi:i<xs.length)(hc:(jF xs i)[c]?=some (.own e' ys)) :
 qT P g ⟨g.sl,bE (bE g.st k (some (.cU e (xs.set i ((jF xs i).set c (.ref g.new)))))) g.new (some (.cU e' ys))⟩:=by
 intro X ν a w hs
 obtain⟨us,ho,hul,fj,hB,hnd⟩:=nw hs hk
 obtain⟨v,A,Ft,B,hF,hv,hz⟩:=fj.zip i c hi hc
 have hv0:=hv
 simp only[fE] at hv
 obtain⟨us',F1,q1,q2,q3,q4,rfl⟩:=hv
 rw[hF] at hnd
 obtain⟨n1,n2,n3⟩:=Gi hnd
 have hnew:=g.gv
 have hkn:k≠g.new:=fun h=>by rw[←h,hk] at hnew;cases hnew
 generalize hg':(⟨g.sl,bE (bE g.st k (some (.cU e (xs.set i ((jF xs i).set c (.ref g.new)))))) g.new (some (.cU e' ys))⟩:G)=g'
 have fJ:∀j,g'.at j=if j=g.new then some (.cU e' ys) else if j=k then some (.cU e (xs.set i ((jF xs i).set c (.ref g.new)))) else g.at j:=by
  intro j
  rw[←hg']
  show bP (bE (bE g.st k _) g.new _) j=_
  rw[di,di]
  rfl
 refine⟨fun j=>if j=g.new then⟨v,F1⟩ else if j=k then⟨(ν k).v,A++B⟩ else ν j,?_⟩
 generalize hν':(fun j=>if j=g.new then(⟨v,F1⟩:Nm) else if j=k then⟨(ν k).v,A++B⟩ else ν j)=ν'
 have hνn:ν' g.new=⟨v,F1⟩:=by rw[←hν'];simp
 have hνk:ν' k=⟨(ν k).v,A++B⟩:=by rw[←hν'];simp[hkn]
 have hνo:∀j,j≠g.new→j≠k→ν' j=ν j:=fun j h1 h2=>by rw[←hν'];simp[h1,h2]
 have hm:gI g.at g'.at ν ν':=by
  intro j hj
  have h1:j≠g.new:=fun h=>by rw[h,hnew] at hj;cases hj
  refine⟨?_,?_⟩
  ·by_cases h2:j=k
   ·rw[h2,hνk]
   ·rw[hνo j h1 h2]
  ·rw[fJ,if_neg h1]
   split
   ·rfl
   ·exact hj
 have hasn:∀b,(ν' g.new).has b↔b∈hb v++F1:=fun b=>by rw[hνn];exact jn
 have hask:∀b,(ν' k).has b↔b∈hb (ν k).v++(A++B):=fun b=>by rw[hνk];exact jn
 have hasK:∀b,(ν k).has b↔b∈hb (ν k).v++(A++((hb v++F1)++B)):=fun b=>by rw[jn,hF]
 have sub1:∀b,(ν' g.new).has b→(ν k).has b:=fun b h=>(hasK b).2 (by
  have:=(hasn b).1 h
  simp only[aE] at this⊢
  rcases this with h|h
  ·exact .inr (.inr (.inl (.inl h)))
  ·exact .inr (.inr (.inl (.inr h))))
 have sub2:∀b,(ν' k).has b→(ν k).has b:=fun b h=>(hasK b).2 (by
  have:=(hask b).1 h
  simp only[aE] at this⊢
  rcases this with h|h|h
  ·exact .inl h
  ·exact .inr (.inl h)
  ·exact .inr (.inr (.inr h)))
 have back:∀j e1,g'.at j=some e1→e1.live=true→∀b,(ν' j).has b→∃j0 e0,g.at j0=some e0∧e0.live=true∧(ν j0).has b∧(j≠g.new→j0=j)∧(j=g.new→j0=k):=by
  intro j e1 h1 h2 b hb1
  by_cases hj:j=g.new
  ·subst hj
   exact⟨k,_,hk,rfl,sub1 b hb1,fun h=>absurd rfl h,fun _=>rfl⟩
  ·by_cases fK:j=k
   ·subst fK
    exact⟨j,_,hk,rfl,sub2 b hb1,fun _=>rfl,fun h=>absurd h hj⟩
   ·rw[fJ,if_neg hj,if_neg fK] at h1
    rw[hνo j hj fK] at hb1
    exact⟨j,e1,h1,h2,hb1,fun _=>rfl,fun h=>absurd h hj⟩
 have dG:∀b,Own ν' g'.at b→Own ν g.at b:=by
  rintro b ⟨j,e1,h1,h2,h3⟩
  obtain⟨j0,e0,k1,k2,k3,_⟩:=back j e1 h1 h2 b h3
  exact⟨j0,e0,k1,k2,k3⟩
 have hw:∀b,bm X ν g.at b→b<w.heap.size→bm X ν' g'.at b∧w.heap[b]?=w.heap[b]?:=fun b hb _=>⟨⟨fun ho=>hb.1 (dG b ho),hb.2⟩,rfl⟩
 refine hs.Ia (g':=g') (ν':=ν') (fun _=>False) (mK.refl _ w) (fun _ hb=>hb.elim) hm ?_ ?_ ?_ ?_ ?_ ?_ rfl
 ·intro j e1 hj
  rw[fJ] at hj
  by_cases hjn:j=g.new
  ·rw[if_pos hjn] at hj
   obtain rfl:=Option.some.inj hj
   subst hjn
   refine .inr ⟨?_,?_⟩
   ·rw[hνn]
    exact fE.frame hw (au _) hm _ _ _ hv0 fun _ _=>rfl
   ·rw[hνn];exact n2
  ·rw[if_neg hjn] at hj
   by_cases fK:j=k
   ·rw[if_pos fK] at hj
    obtain rfl:=Option.some.inj hj
    subst fK
    refine .inr (qj (us:=us) ?_ hul ?_ (by simpa using hB) ?_)
    ·rw[hνk];simpa using ho
    ·rw[hνk]
     have:=hz _ ν' g'.at hw hm (.ref g.new) [] (by
      simp only[fE,and_true]
      exact⟨by rw[fJ,if_pos rfl];rfl,by rw[hνn]⟩)
     simpa using this
    ·rw[hνk];exact n1
   ·rw[if_neg fK] at hj
    exact .inl ⟨hj,hνo j hjn fK,fun _ _ _ hb=>hb⟩
 ·intro j e1 b h1 h2 h3
  exact .inl (dG b ⟨j,e1,h1,h2,h3⟩)
 ·intro j j' e1 e2 b h1 h2 h3 h4 h5 h6
  obtain⟨j0,e0,k1,k2,k3,k4,k5⟩:=back j e1 h1 h3 b h5
  obtain⟨j1,e3,l1,l2,l3,l4,l5⟩:=back j' e2 h2 h4 b h6
  have hjj:=hs.inj j0 j1 e0 e3 b k1 l1 k2 l2 k3 l3
  by_cases hj:j=g.new
  ·by_cases hj':j'=g.new
   ·rw[hj,hj']
   ·have e1:=k5 hj
    have e2:=l4 hj'
    have e3:j'=k:=by rw[←e2,←hjj,e1]
    subst hj e3
    exact(n3 b ((hask b).1 h6) ((hasn b).1 h5)).elim
  ·by_cases hj':j'=g.new
   ·have e1:=k4 hj
    have e2:=l5 hj'
    have e3:j=k:=by rw[←e1,hjj,e2]
    subst hj' e3
    exact(n3 b ((hask b).1 h5) ((hasn b).1 h6)).elim
   ·rw[←k4 hj,←l4 hj',hjj]
 ·intro j hj
  rw[fJ] at hj
  by_cases hjn:j=g.new
  ·right
   rw[hjn,hνn]
   exact row_one q1
  ·rw[if_neg hjn] at hj
   by_cases fK:j=k
   ·exact .inl (by rw[fK,hk];rfl)
   ·rw[if_neg fK] at hj
    exact .inl hj
 ·rw[←hg'];exact hs.size
 ·intro t
  exact .inl ⟨by rw[←hg'],rfl⟩
theorem NM(k i c j:Nat){e e':TypeId}{xs ys:List (List T)}(hk:g.at k=some (.cU e xs))(hi:i<xs.length)(hc:(jF xs i)[c]?=some (.ref j))(hj:g.at j=some (.cU e' ys))(fK:j≠k) :
 qT P g ⟨g.sl,bE (bE g.st k (some (.cU e (xs.set i ((jF xs i).set c (.own e' ys)))))) j (some .dead)⟩:=by
 intro X ν a w hs
 obtain⟨us,ho,hul,fj,hB,hnd⟩:=nw hs hk
 obtain⟨v,A,Ft,B,hF,hv,hz⟩:=fj.zip i c hi hc
 simp only[fE] at hv
 obtain⟨hv1,rfl,rfl⟩:=hv
 obtain⟨hen,hndj⟩:=hs.en j _ hj
 simp only[bx] at hF
 rw[hF] at hnd
 generalize hg':(⟨g.sl,bE (bE g.st k (some (.cU e (xs.set i ((jF xs i).set c (.own e' ys)))))) j (some .dead)⟩:G)=g'
 have fJ:∀l,g'.at l=if l=j then some .dead else if l=k then some (.cU e (xs.set i ((jF xs i).set c (.own e' ys)))) else g.at l:=by
  intro l
  rw[←hg']
  show bP (bE (bE g.st k _) j _) l=_
  rw[di,di]
  rfl
 refine⟨fun l=>if l=k then⟨(ν k).v,A++((hb (ν j).v++(ν j).f)++B)⟩ else ν l,?_⟩
 generalize hν':(fun l=>if l=k then(⟨(ν k).v,A++((hb (ν j).v++(ν j).f)++B)⟩:Nm) else ν l)=ν'
 have hνk:ν' k=⟨(ν k).v,A++((hb (ν j).v++(ν j).f)++B)⟩:=by rw[←hν'];simp
 have hνo:∀l,l≠k→ν' l=ν l:=fun l h1=>by rw[←hν'];simp[h1]
 have hm:gI g.at g'.at ν ν':=by
  intro l hl
  refine⟨?_,?_⟩
  ·by_cases h2:l=k
   ·rw[h2,hνk]
   ·rw[hνo l h2]
  ·rw[fJ]
   split
   ·rfl
   ·split
    ·rfl
    ·exact hl
 have hask:∀b,(ν' k).has b→(ν k).has b∨(ν j).has b:=fun b h=>by
  rw[hνk,jn] at h
  rw[jn,jn,hF]
  simp only[aE] at h⊢
  rcases h with h|h|(h|h)|h
  ·exact .inl (.inl h)
  ·exact .inl (.inr (.inl h))
  ·exact .inr (.inl h)
  ·exact .inr (.inr h)
  ·exact .inl (.inr (.inr h))
 have back:∀l e1,g'.at l=some e1→e1.live=true→∀b,(ν' l).has b→(l=k∧((ν k).has b∨(ν j).has b))∨(l≠k∧l≠j∧g.at l=some e1∧(ν l).has b):=by
  intro l e1 h1 h2 b hb1
  rw[fJ] at h1
  by_cases hlj:l=j
  ·rw[if_pos hlj] at h1
   obtain rfl:=Option.some.inj h1
   cases h2
  ·rw[if_neg hlj] at h1
   by_cases hlk:l=k
   ·subst hlk
    exact .inl ⟨rfl,hask b hb1⟩
   ·rw[if_neg hlk] at h1
    rw[hνo l hlk] at hb1
    exact .inr ⟨hlk,hlj,h1,hb1⟩
 have dG:∀b,Own ν' g'.at b→Own ν g.at b:=by
  rintro b ⟨l,e1,h1,h2,h3⟩
  rcases back l e1 h1 h2 b h3 with⟨_,h|h⟩|⟨_,_,h4,h5⟩
  ·exact⟨k,_,hk,rfl,h⟩
  ·exact⟨j,_,hj,rfl,h⟩
  ·exact⟨l,e1,h4,h2,h5⟩
 have hw:∀b,bm X ν g.at b→b<w.heap.size→bm X ν' g'.at b∧w.heap[b]?=w.heap[b]?:=fun b hb _=>⟨⟨fun ho=>hb.1 (dG b ho),hb.2⟩,rfl⟩
 refine hs.Ia (g':=g') (ν':=ν') (fun _=>False) (mK.refl _ w) (fun _ hb=>hb.elim) hm ?_ ?_ ?_ ?_ ?_ ?_ rfl
 ·intro l e1 hl
  rw[fJ] at hl
  by_cases hlj:l=j
  ·rw[if_pos hlj] at hl
   obtain rfl:=Option.some.inj hl
   exact .inr trivial
  ·rw[if_neg hlj] at hl
   by_cases hlk:l=k
   ·rw[if_pos hlk] at hl
    obtain rfl:=Option.some.inj hl
    subst hlk
    refine .inr (qj (us:=us) ?_ hul ?_ (by simpa using hB) ?_)
    ·rw[hνk];simpa using ho
    ·rw[hνk]
     exact hz _ ν' g'.at hw hm (.own e' ys) _ (fE.frame hw (au _) hm _ _ _ hen fun _ _=>rfl)
    ·rw[hνk]
     refine DX hnd hndj fun b h1 h2=>?_
     refine fK (hs.inj j l _ _ b hj hk rfl rfl (jn.2 h2) (jn.2 ?_))
     rw[hF];exact h1
   ·rw[if_neg hlk] at hl
    exact .inl ⟨hl,hνo l hlk,fun _ _ _ hb=>hb⟩
 ·intro l e1 b h1 h2 h3
  exact .inl (dG b ⟨l,e1,h1,h2,h3⟩)
 ·intro l l' e1 e2 b h1 h2 h3 h4 h5 h6
  rcases back l e1 h1 h3 b h5 with⟨rfl,p1⟩|⟨p1,p2,p3,p4⟩
  ·rcases back l' e2 h2 h4 b h6 with⟨rfl,q1⟩|⟨q1,q2,q3,q4⟩
   ·rfl
   ·rcases p1 with p1|p1
    ·exact hs.inj l l' _ e2 b hk q3 rfl h4 p1 q4
    ·exact(q2 (hs.inj l' j e2 _ b q3 hj h4 rfl q4 p1)).elim
  ·rcases back l' e2 h2 h4 b h6 with⟨rfl,q1⟩|⟨q1,q2,q3,q4⟩
   ·rcases q1 with q1|q1
    ·exact hs.inj l l' e1 _ b p3 hk h3 rfl p4 q1
    ·exact(p2 (hs.inj l j e1 _ b p3 hj h3 rfl p4 q1)).elim
   ·exact hs.inj l l' e1 e2 b p3 q3 h3 h4 p4 q4
 ·intro l hl
  rw[fJ] at hl
  by_cases hlj:l=j
  ·exact .inl (by rw[hlj,hj];rfl)
  ·rw[if_neg hlj] at hl
   by_cases hlk:l=k
   ·exact .inl (by rw[hlk,hk];rfl)
   ·rw[if_neg hlk] at hl
    exact .inl hl
 ·rw[←hg'];exact hs.size
 ·intro t
  exact .inl ⟨by rw[←hg'],rfl⟩
theorem qT.refl(g:G):qT P g g:=fun _ ν _ _ h=>⟨ν,h⟩
theorem qT.Dx{n0:Nat}{g g':G}(h:qT P g g'):ko P n0 g g':=fun X ν a w _ hs=>h X ν a w hs
theorem NC(j:Nat){e:TypeId}{xs:List (List D)}(hj:g.at j=some (.acc e xs)):qT P g ⟨g.sl,bE g.st j (some (.cU e (lift xs)))⟩:=fun _ ν _ _ h=>⟨ν,h.lift hj⟩
theorem ta:∀{l:List (Option En)}{k:Nat}{e:En},bP l k=some e→bE l k (some e)=l
 | [],k,e,h=>by cases k<;>simp[bP] at h
 | _::_,0,_,h=>by simp only[bP] at h;simp[bE,h]
 | a::l,k+1,e,h=>by simp only[bP] at h;simp[bE,ta h]
theorem mc:∀{l:List (Option En)}{k:Nat}(x:Option En),k<l.length→(bE l k x).length=l.length
 | [],k,_,h=>by simp at h
 | _::_,0,_,_=>rfl
 | a::l,k+1,x,h=>by simp[bE,mc x (by simpa using h)]
theorem Cc:∀(l:List (Option En))(x:Option En),bE l l.length x=l++[x]
 | [],_=>rfl
 | a::l,x=>by simp[bE,Cc l x]
theorem xy:∀{l m:List (Option En)}{k:Nat}(x:Option En),k<l.length→bE (l++m) k x=bE l k x++m
 | [],_,k,_,h=>by simp at h
 | _::_,_,0,_,_=>rfl
 | a::l,m,k+1,x,h=>by simp[bE,xy x (by simpa using h)]
theorem pe:∀(l:List (Option En))(j k:Nat)(x y:Option En),j≠k→bE (bE l j x) k y=bE (bE l k y) j x
 | [],0,0,_,_,h=>absurd rfl h
 | [],0,k+1,_,_,_=>rfl
 | [],j+1,0,_,_,_=>rfl
 | [],j+1,k+1,x,y,h=>by simp[bE,pe [] j k x y (by omega)]
 | _::_,0,0,_,_,h=>absurd rfl h
 | _::_,0,k+1,_,_,_=>rfl
 | _::_,j+1,0,_,_,_=>rfl
 | a::l,j+1,k+1,x,y,h=>by simp[bE,pe l j k x y (by omega)]
def kd:Nat→List T→List T
 | _,[]=>[]
 | n,.own _ _::ts=>.ref n::kd (n+1) ts
 | n,.leaf d::ts=>.leaf d::kd n ts
 | n,.ref j::ts=>.ref j::kd n ts
def yp:List T→List (Option En)
 | []=>[]
 | .own e xs::ts=>some (.cU e xs)::yp ts
 | .leaf _::ts=>yp ts
 | .ref _::ts=>yp ts
def MV:List (Option En)→List (Option En)→List (Option En)
 | [],m=>m
 | a::l,m=>a::MV l m
theorem A8:∀(l m:List (Option En)),MV l m=l++m
 | [],_=>rfl
 | a::l,m=>by simp[MV,A8 l m]
theorem qH{α:Type}(pre:List α)(a b:α)(r:List α):(pre++a::r).set pre.length b=pre++b::r:=by
 rw[List.set_append_right _ _ (au _),Nat.sub_self,iQ]
theorem nr{k i:Nat}{e:TypeId}:∀(rest pre:List T)(g:G)(xs:List (List T)),g.at k=some (.cU e xs)→i<xs.length→jF xs i=pre++rest →
 qT P g ⟨g.sl,MV (bE g.st k (some (.cU e (xs.set i (pre++kd g.new rest))))) (yp rest)⟩
 | [],pre,g,xs,hk,hi,hr=>by
   have e1:xs.set i pre=xs:=by
    rw[bz] at hr
    rw[←hr]
    refine jD fun j=>?_
    rw[fB]
    by_cases hj:i=j
    ·subst hj;rw[if_pos rfl,if_pos hi,IH hi]
    ·rw[if_neg hj]
   simp only[kd,yp,bz,A8,e1]
   rw[ta hk]
   exact qT.refl g
 | .leaf d::ts,pre,g,xs,hk,hi,hr=>by
   have:=nr ts (pre++[.leaf d]) g xs hk hi (by simpa using hr)
   simpa[kd,yp] using this
 | .ref d::ts,pre,g,xs,hk,hi,hr=>by
   have:=nr ts (pre++[.ref d]) g xs hk hi (by simpa using hr)
   simpa[kd,yp] using this
 | .own e' ys::ts,pre,g,xs,hk,hi,hr=>by
   have hkl:k<g.st.length:=jr (by rw[show bP g.st k=_ from hk];rfl)
   have hn:g.new=g.st.length:=iE g.st
   have h1:=LM (P:=P) k i pre.length hk hi (e':=e') (ys:=ys) (by rw[hr];simp)
   have e1:(jF xs i).set pre.length (.ref g.new)=pre++ .ref g.new::ts:=by rw[hr];exact qH _ _ _ _
   rw[e1] at h1
   have e2:bE (bE g.st k (some (.cU e (xs.set i (pre++ .ref g.new::ts))))) g.new (some (.cU e' ys))=bE g.st k (some (.cU e (xs.set i (pre++ .ref g.new::ts))))++[some (.cU e' ys)]:=by
    generalize some (En.cU e (xs.set i (pre++ .ref g.new::ts)))=z
    rw[hn,←mc z hkl,Cc]
   rw[e2] at h1
   refine h1.trans ?_
   have hk1:(⟨g.sl,bE g.st k (some (.cU e (xs.set i (pre++ .ref g.new::ts))))++[some (.cU e' ys)]⟩:G).at k=some (.cU e (xs.set i (pre++ .ref g.new::ts))):=by
    show bP _ k=_
    rw[←xy _ hkl,di,if_pos rfl]
   have hr1:jF (xs.set i (pre++ .ref g.new::ts)) i=pre++ .ref g.new::ts:=by
    simp[jF,bI,hi]
   have:=nr ts (pre++[.ref g.new]) ⟨g.sl,bE g.st k (some (.cU e (xs.set i (pre++ .ref g.new::ts))))++[some (.cU e' ys)]⟩ _ hk1 (by simpa using hi) (by rw[hr1];simp)
   have hn2:(⟨g.sl,bE g.st k (some (.cU e (xs.set i (pre++ .ref g.new::ts))))++[some (.cU e' ys)]⟩:G).new=g.new+1:=by
    rw[G.new,iE,hn]
    simp[mc _ hkl]
   rw[hn2] at this
   simp only[A8,List.set_set] at this
   rw[xy _ (by rw[mc _ hkl];exact hkl),jT] at this
   simpa[kd,yp,A8] using this
theorem HH(k i:Nat){e:TypeId}{xs:List (List T)}(row:List T)(hk:g.at k=some (.cU e xs))(hi:i<xs.length)(hr:jF xs i=row) :
 qT P g ⟨g.sl,MV (bE g.st k (some (.cU e (xs.set i (kd g.new row))))) (yp row)⟩:=by
 have:=nr (P:=P) (k:=k) (i:=i) row [] g xs hk hi (by simpa using hr)
 simpa using this
def cV(k:Nat):List (Option En)→List T→List T
 | _,[]=>[]
 | st,.ref j::ts=>match vW j k,bP st j with
   | false,some (.cU e ys)=>.own e ys::cV k (bE st j (some .dead)) ts
   | false,some (.acc e ys)=>.own e (lift ys)::cV k (bE st j (some .dead)) ts
   | _,_=>.ref j::cV k st ts
 | st,.leaf d::ts=>.leaf d::cV k st ts
 | st,.own e ys::ts=>.own e ys::cV k st ts
def jG(k:Nat):List (Option En)→List T→List (Option En)
 | st,[]=>st
 | st,.ref j::ts=>match vW j k,bP st j with
   | false,some (.cU _ _)=>jG k (bE st j (some .dead)) ts
   | false,some (.acc _ _)=>jG k (bE st j (some .dead)) ts
   | _,_=>jG k st ts
 | st,.leaf _::ts=>jG k st ts
 | st,.own _ _::ts=>jG k st ts
theorem HR{j k:Nat}(h:vW j k=false):j≠k:=fun e=>by subst e;rw[vM] at h;cases h
theorem FE{k:Nat}(x:Option En):∀(ts:List T)(st:List (Option En)),cV k (bE st k x) ts=cV k st ts∧jG k (bE st k x) ts=bE (jG k st ts) k x
 | [],st=>⟨rfl,rfl⟩
 | .leaf d::ts,st=>by
   obtain⟨h1,h2⟩:=FE (k:=k) x ts st
   exact⟨by simp[cV,h1],by simp[jG,h2]⟩
 | .own e ys::ts,st=>by
   obtain⟨h1,h2⟩:=FE (k:=k) x ts st
   exact⟨by simp[cV,h1],by simp[jG,h2]⟩
 | .ref j::ts,st=>by
   simp only[cV,jG]
   cases hj:vW j k with
   | true=>
     obtain⟨h1,h2⟩:=FE (k:=k) x ts st
     exact⟨by simp[h1],by simp[h2]⟩
   | false=>
     have n9:=HR hj
     rw[di,if_neg n9]
     obtain⟨h1,h2⟩:=FE (k:=k) x ts st
     obtain⟨h3,h4⟩:=FE (k:=k) x ts (bE st j (some .dead))
     rw[pe st j k _ _ n9] at h3 h4
     cases bP st j with
     | none=>exact⟨by simp[h1],by simp[h2]⟩
     | some en=>cases en with
       | box cs=>exact⟨by simp[h1],by simp[h2]⟩
       | dead=>exact⟨by simp[h1],by simp[h2]⟩
       | map x6=>exact⟨by simp[h1],by simp[h2]⟩
       | acc e ys=>exact⟨by simp[h3],by simp[h4]⟩
       | cU e ys=>exact⟨by simp[h3],by simp[h4]⟩
theorem mM{k i:Nat}{e:TypeId}:∀(rest pre:List T)(g:G)(xs:List (List T)),g.at k=some (.cU e xs)→i<xs.length→jF xs i=pre++rest →
 qT P g ⟨g.sl,bE (jG k g.st rest) k (some (.cU e (xs.set i (pre++cV k g.st rest))))⟩
 | [],pre,g,xs,hk,hi,hr=>by
   have e1:xs.set i pre=xs:=by
    rw[bz] at hr
    rw[←hr]
    refine jD fun j=>?_
    rw[fB]
    by_cases hj:i=j
    ·subst hj;rw[if_pos rfl,if_pos hi,IH hi]
    ·rw[if_neg hj]
   simp only[cV,jG,bz,e1]
   rw[ta hk]
   exact qT.refl g
 | .leaf d::ts,pre,g,xs,hk,hi,hr=>by
   have:=mM ts (pre++[.leaf d]) g xs hk hi (by simpa using hr)
   simpa[cV,jG] using this
 | .own e' ys::ts,pre,g,xs,hk,hi,hr=>by
   have:=mM ts (pre++[.own e' ys]) g xs hk hi (by simpa using hr)
   simpa[cV,jG] using this
 | .ref j::ts,pre,g,xs,hk,hi,hr=>by
   have stay:(cV k g.st (.ref j::ts)= .ref j::cV k g.st ts)→(jG k g.st (.ref j::ts)=jG k g.st ts)→qT P g ⟨g.sl,bE (jG k g.st (.ref j::ts)) k (some (.cU e (xs.set i (pre++cV k g.st (.ref j::ts)))))⟩:=by
    intro h1 h2
    have:=mM ts (pre++[.ref j]) g xs hk hi (by simpa using hr)
    rw[h1,h2]
    simpa using this
   have go:∀(e':TypeId)(ys:List (List T))(g0:G),qT P g g0→g0.sl=g.sl→g0.at k=some (.cU e xs)→g0.at j=some (.cU e' ys)→j≠k→bE g0.st j (some .dead)=bE g.st j (some .dead) →
    qT P g ⟨g.sl,bE (jG k (bE g.st j (some .dead)) ts) k (some (.cU e (xs.set i (pre++ .own e' ys::cV k (bE g.st j (some .dead)) ts))))⟩:=by
    intro e' ys g0 hw hsl hk0 hj0 n9 dg
    refine hw.trans ?_
    have h1:=NM (P:=P) k i pre.length j hk0 hi (by rw[hr];simp) hj0 n9
    have e1:(jF xs i).set pre.length (.own e' ys)=pre++ .own e' ys::ts:=by rw[hr];exact qH _ _ _ _
    rw[e1,←pe _ _ _ _ _ n9,dg,hsl] at h1
    refine h1.trans ?_
    have hk1:(⟨g.sl,bE (bE g.st j (some .dead)) k (some (.cU e (xs.set i (pre++ .own e' ys::ts))))⟩:G).at k=some (.cU e (xs.set i (pre++ .own e' ys::ts))):=by
     show bP _ k=_
     rw[di,if_pos rfl]
    have hr1:jF (xs.set i (pre++ .own e' ys::ts)) i=pre++ .own e' ys::ts:=by simp[jF,bI,hi]
    have:=mM ts (pre++[.own e' ys]) _ _ hk1 (by simpa using hi) (by rw[hr1];simp)
    obtain⟨q1,q2⟩:=FE (k:=k) (some (.cU e (xs.set i (pre++ .own e' ys::ts)))) ts (bE g.st j (some .dead))
    simp only[q1,q2,List.set_set,jT] at this
    simpa using this
   cases fK:vW j k with
   | true=>exact stay (by simp[cV,fK]) (by simp[jG,fK])
   | false=>
     have n9:=HR fK
     cases hen:bP g.st j with
     | none=>exact stay (by simp[cV,fK,hen]) (by simp[jG,fK,hen])
     | some en=>cases en with
       | box cs=>exact stay (by simp[cV,fK,hen]) (by simp[jG,fK,hen])
       | dead=>exact stay (by simp[cV,fK,hen]) (by simp[jG,fK,hen])
       | map x6=>exact stay (by simp[cV,fK,hen]) (by simp[jG,fK,hen])
       | cU e' ys=>
         have:=go e' ys g (qT.refl g) rfl hk hen n9 rfl
         simpa[cV,jG,fK,hen] using this
       | acc e' ys=>
         have hk0:(⟨g.sl,bE g.st j (some (.cU e' (lift ys)))⟩:G).at k=some (.cU e xs):=by
          show bP _ k=_
          rw[di,if_neg (Ne.symm n9)]
          exact hk
         have hj0:(⟨g.sl,bE g.st j (some (.cU e' (lift ys)))⟩:G).at j=some (.cU e' (lift ys)):=by
          show bP _ j=_
          rw[di,if_pos rfl]
         have:=go e' (lift ys) ⟨g.sl,bE g.st j (some (.cU e' (lift ys)))⟩ (NC j hen) rfl hk0 hj0 n9 (jT _ _ _ _)
         simpa[cV,jG,fK,hen] using this
theorem rz(k i:Nat){e:TypeId}{xs:List (List T)}(row:List T)(hk:g.at k=some (.cU e xs))(hi:i<xs.length)(hr:jF xs i=row) :
 qT P g ⟨g.sl,bE (jG k g.st row) k (some (.cU e (xs.set i (cV k g.st row))))⟩:=by
 have:=mM (P:=P) (k:=k) (i:=i) row [] g xs hk hi (by simpa using hr)
 simpa using this
end
def M8:List Nat→List Nat→List Nat
 | [],m=>m
 | a::l,m=>a::M8 l m
theorem IE:∀(l m:List Nat),M8 l m=l++m
 | [],_=>rfl
 | a::l,m=>by simp[M8,IE l m]
def Le:D→Bool
 | .val _=>true
 | .str _=>true
 | .bX _=>false
def Jb:List D→Bool
 | []=>true
 | d::ds=>Le d&&Jb ds
def wI:List (List D)→Bool
 | []=>true
 | x::xs=>Jb x&&wI xs
mutual
def T.sd:T→Bool
 | .leaf d=>Le d
 | .ref _=>true
 | .own _ xs=>B8 xs
def LY:List T→Bool
 | []=>true
 | t::ts=>t.sd&&LY ts
def B8:List (List T)→Bool
 | []=>true
 | x::xs=>LY x&&B8 xs
end
mutual
def PV.sd:PV→Bool
 | .any=>true
 | .undef=>true
 | .aY=>true
 | .d x=>Le x
 | .agg cs=>Ln cs
 | .gL cs=>Ln cs
 | .ptr _ _=>true
 | .acc _=>true
 | .dk _ _ _ _=>true
 | .da _ _ _=>false
 | .fn _ cs=>Ln cs
def Ln:List PV→Bool
 | []=>true
 | p::ps=>p.sd&&Ln ps
end
def En.sd:En→Bool
 | .box cs=>Ln cs
 | .acc _ xs=>wI xs
 | .cU _ xs=>B8 xs
 | .map _=>true
 | .dead=>true
def yk:List (Option En)→Bool
 | []=>true
 | none::es=>yk es
 | some e::es=>e.sd&&yk es
section
variable{P:Program}{w:World}{ok ok':Nat→Prop}{ν:Nat→Nm}{st:Nat→Option En}
theorem dA.sd{d:D}{v:Value}(h:Le d=true)(hr:dA w ok d v):dA w ok' d v:=by
 cases hr with
 | val v h'=>exact .val v h'
 | str l h'=>exact .str l h'
 | nil=>cases h
 | emp a c h'=>cases h
 | bX=>cases h
mutual
theorem fE.sd:∀(t:T)(v:Value)(F:List Nat),t.sd=true→fE P w ok ν st t v F→fE P w ok' ν st t v F
 | .leaf d,v,F,hs,h=>by simp only[fE] at h⊢;simp only[T.sd] at hs;exact⟨h.1.sd hs,h.2⟩
 | .ref j,v,F,hs,h=>by simpa only[fE] using h
 | .own e xs,v,F,hs,h=>by
   simp only[T.sd] at hs
   simp only[fE] at h⊢
   obtain⟨us,F1,h1,h2,h3,h4,h5⟩:=h
   exact⟨us,F1,h1,h2,aR.sd xs us F1 hs h3,h4,h5⟩
theorem aA.sd:∀(ts:List T)(vs:List Value)(F:List Nat),LY ts=true→aA P w ok ν st ts vs F→aA P w ok' ν st ts vs F
 | [],[],F,_,h=>by simpa only[aA] using h
 | [],_::_,F,_,h=>by simp[aA] at h
 | _::_,[],F,_,h=>by simp[aA] at h
 | t::ts,v::vs,F,hs,h=>by
   simp only[LY,ae] at hs
   simp only[aA] at h⊢
   obtain⟨F1,F2,h1,h2,h3⟩:=h
   exact⟨F1,F2,fE.sd t v F1 hs.1 h1,aA.sd ts vs F2 hs.2 h2,h3⟩
theorem aR.sd:∀(xs:List (List T))(us:List (List Value))(F:List Nat),B8 xs=true→aR P w ok ν st xs us F→aR P w ok' ν st xs us F
 | [],[],F,_,h=>by simpa only[aR] using h
 | [],_::_,F,_,h=>by simp[aR] at h
 | _::_,[],F,_,h=>by simp[aR] at h
 | x::xs,u::us,F,hs,h=>by
   simp only[B8,ae] at hs
   simp only[aR] at h⊢
   obtain⟨F1,F2,h1,h2,h3⟩:=h
   exact⟨F1,F2,aA.sd x u F1 hs.1 h1,aR.sd xs us F2 hs.2 h2,h3⟩
end
mutual
theorem aj.sd:∀(p:PV)(v:Value),p.sd=true→aj w ok ν st p v→aj w ok' ν st p v
 | .any,_,_,_=>by simp only[aj]
 | .undef,_,_,h=>by simpa only[aj] using h
 | .aY,_,_,h=>by simpa only[aj] using h
 | .d x,v,hs,h=>by simp only[aj] at h⊢;exact h.sd hs
 | .agg cs,v,hs,h=>by
   simp only[aj] at h⊢
   obtain⟨vs,e,h⟩:=h
   exact⟨vs,e,ah.sd cs vs (by simpa only[PV.sd] using hs) h⟩
 | .gL cs,v,hs,h=>by
   simp only[aj] at h⊢
   obtain⟨vs,e,h⟩:=h
   exact⟨vs,e,ah.sd cs vs (by simpa only[PV.sd] using hs) h⟩
 | .ptr _ _,_,_,h=>by simpa only[aj] using h
 | .acc _,_,_,h=>by simpa only[aj] using h
 | .dk _ _ _ _,_,_,h=>by simpa only[aj] using h
 | .da _ _ _,_,hs,_=>by simp[PV.sd] at hs
 | .fn f cs,v,hs,h=>by
   simp only[aj] at h⊢
   obtain⟨vs,e,h⟩:=h
   exact⟨vs,e,ah.sd cs vs (by simpa only[PV.sd] using hs) h⟩
theorem ah.sd:∀(ps:List PV)(vs:List Value),Ln ps=true→ah w ok ν st ps vs→ah w ok' ν st ps vs
 | [],[],_,_=>by simp[ah]
 | [],_::_,_,h=>by simp[ah] at h
 | _::_,[],_,h=>by simp[ah] at h
 | p::ps,v::vs,hs,h=>by
   simp only[Ln,ae] at hs
   simp only[ah] at h⊢
   exact⟨aj.sd p v hs.1 h.1,ah.sd ps vs hs.2 h.2⟩
end
theorem KE:∀{xs:List (List D)},wI xs=true→∀(i j:Nat)(x:List D)(d:D),xs[i]?=some x→x[j]?=some d→Le d=true:=by
 have h1:∀{x:List D},Jb x=true→∀(j:Nat)(d:D),x[j]?=some d→Le d=true:=by
  intro x
  induction x with
  | nil=>intro _ j d h;simp at h
  | cons e x ih=>
    intro h j d hd
    simp only[Jb,ae] at h
    cases j with
    | zero=>obtain rfl:e=d:=by simpa using hd
            exact h.1
    | succ j=>exact ih h.2 j d (by simpa using hd)
 intro xs
 induction xs with
 | nil=>intro _ i j x d h;simp at h
 | cons y xs ih=>
   intro h i j x d hx hd
   simp only[wI,ae] at h
   cases i with
   | zero=>obtain rfl:y=x:=by simpa using hx
           exact h1 h.1 j d hd
   | succ i=>exact ih h.2 i j x d (by simpa using hx) hd
theorem fY.sd{k:Nat}{e:En}(hs:e.sd=true)(h:fY P w ok ν st k e):fY P w ok' ν st k e:=by
 cases e with
 | dead=>trivial
 | box cs=>
   obtain⟨b,vs,T,h1,h2,h3,h4⟩:=h
   exact⟨b,vs,T,h1,h2,ah.sd cs vs (by simpa only[En.sd] using hs) h3,h4⟩
 | acc e xs=>
   obtain⟨us,h1,h2,h3,h4⟩:=h
   exact⟨us,h1,⟨h2.len,h2.hx,h2.hu,fun i j x u d v k1 k2 k3 k4=>(h2.hr i j x u d v k1 k2 k3 k4).sd (KE (by simpa only[En.sd] using hs) i j x d k1 k3)⟩,h3,h4⟩
 | cU e xs=>exact⟨fE.sd (.own e xs) _ _ (by simpa only[T.sd,En.sd] using hs) h.1,h.2⟩
 | map x6=>exact h
theorem Af:∀{es:List (Option En)},yk es=true→∀(i:Nat)(e:En),bP es i=some e→e.sd=true
 | [],_,i,e,h=>by cases i<;>simp[bP] at h
 | none::es,hs,0,e,h=>by simp[bP] at h
 | none::es,hs,i+1,e,h=>Af (es:=es) (by simpa only[yk] using hs) i e (by simpa[bP] using h)
 | some a::es,hs,0,e,h=>by
   simp only[yk,ae] at hs
   obtain rfl:a=e:=by simpa[bP] using h
   exact hs.1
 | some a::es,hs,i+1,e,h=>by
   simp only[yk,ae] at hs
   exact Af hs.2 i e (by simpa[bP] using h)
end
theorem IC{P:Program}{o:Oper}{g:G}{ij:Operand}{xs:List Operand}{tys:Array TypeId}{d:Nat}(ho:o.op= .call ⟨.value ij,⟨xs⟩,tys⟩)(hd:o.dst=some d){f:FuncId}{cap:List PV}(hfn:g.ev ij= .fn f cap)
 (ks m:List Nat) (bw:List PV) (res:PV) (st':List (Option En)) (hC:C P f bw [] (bB res st')) (jB:pz g ks (xs.map g.ev++cap) bw) (hsd:res.sd=true) (hse:yk st'=true) (hm:m.Nodup) (hnew:eh g 0 m) (hml:st'.length≤m.length)
 (X:Cx) (ν:Nat→Nm) (a:Act) (w:World) (next:Act→World→Prop) (Q:Exit→Act→World→Prop) (hs:Sat P X ν g a w)
 (hn:∀ν' a' w',Sat P X ν' ⟨gk g.sl d (res.gN m),pb g.st (fP m m st')⟩ a' w'→next a' w'):o.wp P a w next Q:=by
 have hfv:=hs.ev ij
 rw[hfn] at hfv
 simp only[aj] at hfv
 obtain⟨vcap,hfv,gf⟩:=hfv
 have hxs:=rQ hs xs
 let Xc:Cx:=⟨w,Own (fun i=>ν (look m i)) (bP []),fun i=>ν (look m i),bP [],X.Z⟩
 have hno:∀(ν:Nat→Nm) b,¬Own ν (bP []) b:=by
  rintro ν b ⟨k,e,h,_⟩
  cases k<;>simp[bP] at h
 have hw:∀b,bm X ν g.at b→b<w.heap.size→bm Xc (fun i=>ν (look m i)) (bP []) b∧w.heap[b]?=w.heap[b]?:=fun b hb _=>⟨⟨hno _ b,hb.2⟩,rfl⟩
 have dG:∀b,Own ν g.at b→bm Xc (fun i=>ν (look m i)) (bP []) b:=fun b hb=>⟨hno _ b,hs.Bi hb⟩
 have pa:ah w (bm Xc (fun i=>ν (look m i)) (bP [])) (fun i=>ν (look m i)) (bP []) bw (xs.map a.eval++vcap):=ah.vw hs hw dG _ jB (hxs.app gf)
 obtain⟨⟨fn,hfn1,hfn2,hfn3⟩,hC⟩:=hC
 have hr:(execOp a.eval o).run P w= .ok (.enter f ⟨xs.map a.eval++vcap⟩) w:=by
  have n1 : ¬ fn.name = "runtime.NumGoroutine" := by simpa using hfn3
  have n2:¬fn.body=none:=fun e=>by rw[e] at hfn2;cases hfn2
  simp[execOp,ho,resolve,hfv,Deferred.ofValue,invoke,callFunc,program,hfn1,n1,n2,Sem.run]
 have fJ:∀k,(⟨bw,[]⟩:G).at k=none:=fun k=>by cases k<;>rfl
 have hent:Sat P Xc (fun i=>ν (look m i)) ⟨bw,[]⟩ ⟨⟨xs.map a.eval++vcap⟩,[]⟩ w:=by
  refine⟨by simpa using pa.length,fun t=>?_,fun k e h=>?_,fun k k' e e' b h=>?_,fun b hb=>?_,fun k h=>?_,fun k h=>?_,⟨fun b hb=>?_,hs.kt rfl fun b hb=>(hno _ b hb).elim⟩,mK.refl _ w,rfl⟩
  ·have key:∀(ps:List PV)(us:List Value)(t:Nat),ah w (bm Xc (fun i=>ν (look m i)) (bP [])) (fun i=>ν (look m i)) (bP []) ps us→aj w (bm Xc (fun i=>ν (look m i)) (bP [])) (fun i=>ν (look m i)) (bP []) (nth ps t) (us.getD t Go.undef):=by
    intro ps
    induction ps with
    | nil=>intro us t _;cases t<;>simp[nth,aj]
    | cons p ps ih=>
      intro us t hr
      cases us with
      | nil=>simp[ah] at hr
      | cons u us=>
        simp only[ah] at hr
        cases t with
        | zero=>simpa[nth] using hr.1
        | succ t=>simpa[nth] using ih us t hr.2
   have:=key bw _ t pa
   show aj w (bm Xc (fun i=>ν (look m i)) (bP [])) (fun i=>ν (look m i)) (bP []) (nth bw t) ((⟨xs.map a.eval++vcap⟩:Array Value).getD t Go.undef)
   simpa[Array.getD_eq_getD_getElem?] using this
  ·rw[fJ] at h;cases h
  ·rw[fJ] at h;cases h
  ·exact(hno _ b hb).elim
  ·rw[fJ] at h;cases h
  ·exact⟨rfl,h⟩
  ·exact⟨Nat.lt_of_lt_of_le (hs.wS b hb).1 hs.qf.size,hno _ b⟩
 unfold Oper.wp
 rw[hr,Oper.upon_enter]
 refine(hC Xc (xs.map a.eval++vcap) rfl rfl hent).mono ?_
 rintro e w' ⟨v,res',st2,ν',rfl,⟨rfl,rfl⟩,dP⟩
 let Xd:Cx:=⟨w,Own (fun i=>ν (look m i)) (bP []),fun i=>ν (look m i),bP [],fun b=>X.Z b∨(Own ν g.at b∧¬Own (fun i=>ν (look m i)) (bP []) b)⟩
 have hsat2:Gh P Xd ν' res' st2 v w':=by
  refine⟨dP.size,fun t=>?_,fun k e h=>fY.sd (Af hse k e h) (dP.en k e h),dP.inj,dP.base,dP.nu,dP.par,⟨fun b hb=>?_,dP.wS.k⟩,dP.qf,dP.defs⟩
  ·have hx:(nth [res'] t).sd=true:=by
    cases t with
    | zero=>exact hsd
    | succ t=>cases t<;>rfl
   exact aj.sd _ _ hx (dP.sl t)
  ·rcases hb with hb|hb
   ·exact dP.wS b hb
   ·exact⟨hs.lt hb.1,hno _ b⟩
 obtain⟨ν'',hs'⟩:=hs.leave m [] st2 hm hml (Nat.zero_le _) (fun i hi=>by simp at hi) (fun i hi hi'=>hnew.at i hi (by omega)) Xd rfl (fun _ _=>rfl) rfl rfl rfl hsat2 d
 show next (a.put o.dst v) w'
 rw[hd]
 exact hn ν'' _ _ hs'
section
variable{E:Env}{g:G}{d:Nat}{ty:TypeId}{pos:String}{cM:Array Edge}{gd:Option (Nat×Bool)}
theorem Iw(ij:Operand)(xs:List Operand)(tys:Array TypeId)(f:FuncId)(cap:List PV)(hfn:g.ev ij= .fn f cap)(ks M:List Nat)(bw:List PV)(res:PV)(st':List (Option En))(hC:C E.P f bw [] (bB res st'))
 (jB:pz g ks (xs.map g.ev++cap) bw) (hsd:res.sd=true) (hse:yk st'=true) (hm:M.Nodup) (hnew:eh g 0 M) (hml:st'.length≤M.length) :
 gz E.P ⟨some d,.call ⟨.value ij,⟨xs⟩,tys⟩,ty,pos,cM,gd⟩ g ⟨bV ij++xs.flatMap bV,ks++M⟩ ⟨some (d,res.gN M),fP M M st'⟩:=by
 intro g2 hg
 have e1:=hg.ev (x:=ij) (fun t h=>by simp[h])
 have e2:=na hg xs (fun t h=>by simp only[aE];exact .inr h)
 have hfr:∀(ks':List Nat)(n:Nat),(∀k∈ks',k∈M)→eh g n ks'→eh g2 n ks':=by
  intro ks'
  induction ks' with
  | nil=>intro n _ _;cases n<;>trivial
  | cons k ks' ih=>
    intro n hk h
    cases n with
    | zero=>
      simp only[eh] at h⊢
      exact⟨by rw[hg.p k (by simp[hk k (by simp)])];exact h.1,ih 0 (fun k h=>hk k (by simp[h])) h.2⟩
    | succ n=>
      simp only[eh] at h⊢
      exact ih n (fun k h=>hk k (by simp[h])) h
 intro X ν a w next Q hs hn
 exact IC rfl rfl (by rw[e1,hfn]) ks M bw res st' hC (by rw[e2];exact jB.agree (fun k hk=>hg.p k (by simp[hk]))) hsd hse hm (hfr M 0 (fun _ h=>h) hnew) hml X ν a w next Q hs hn
theorem Ap{m:Option (List Ky)}{gs:Option Nat}{rest:ll→Option (List Ky)→G→Prop}{ij:Operand}{xs:List Operand}{tys:Array TypeId}{f:FuncId}(cap:List PV)(ks M:List Nat){bw:List PV}{res:PV}{st':List (Option En)}
 (hC:C E.P f bw [] (bB res st')) (h1:g.ev ij= .fn f cap) (h2:pz g ks (FV g xs++cap) bw) (h3:res.sd=true∧yk st'=true∧BQ M=true∧pw (gx st') (xA M)=true∧eh g 0 M)
 (hr:rest .on (ja m (jM (oh gs ⟨bV ij++sx xs,M8 ks M⟩) ⟨some (d,res.gN M),fP M M st'⟩)) (g.app ⟨some (d,res.gN M),fP M M st'⟩)):ob E m gs ⟨some d,.call ⟨.value ij,⟨xs⟩,tys⟩,ty,pos,cM,gd⟩ g rest:=by
 rw[pg,IE] at hr
 rw[sT] at h2
 obtain⟨k1,k2,k3,k4,k5⟩:=h3
 have k4:=fV k4
 rw[iE,vL] at k4
 exact l8 (Iw ij xs tys f cap h1 ks M bw res st' hC h2 k1 k2 (A9 k3) k5 k4) hr
end
section
variable{E:Env}{n0:Nat}{g:G}{c:Code}{Q:Ex→G→Prop}
theorem CM{P:Program}{g':G}(k i:Nat){e:TypeId}{xs:List (List T)}(row:List T)(hk:g.at k=some (.cU e xs))(hi:i<xs.length)(hr:jF xs i=row)
 (h:ko P n0 ⟨g.sl,bE (jG k g.st row) k (some (.cU e (xs.set i (cV k g.st row))))⟩ g'):ko P n0 g g':=ko.trans (qT.Dx (rz k i row hk hi hr)) h
end
theorem Kv{xs:List (List T)}{i:Nat}{r:List T}(h:i<xs.length):jF (xs.set i r) i=r:=by simp[jF,bI,h]
theorem EH(xs:List (List T))(r:List T):jF (xs++[r]) xs.length=r:=by simp[jF,bI]
theorem wa{xs:List (List T)}{r:List T}{n:Nat}(h:xs.length=n):jF (xs++[r]) n=r:=by subst h;exact EH xs r
theorem xk{xs:List (List T)}{r r':List T}{n:Nat}(h:xs.length=n):(xs++[r]).set n r'=xs++[r']:=by subst h;exact qH xs r r' []
attribute [go_sem] Le Jb wI T.sd LY B8 PV.sd Ln En.sd yk M8 kd yp MV cV jG List.set_set EH List.length_set
section
variable{P:Program}{w:World}{ok:Nat→Prop}{ν:Nat→Nm}{st:Nat→Option En}
theorem aR.split:∀(n:Nat){x:List (List T)}{u:List (List Value)}{F:List Nat},aR P w ok ν st x u F→∃F1 F2,aR P w ok ν st (x.take n) (u.take n) F1∧F=F1++F2
 | 0,x,u,F,h=>⟨[],F,by simp[aR],rfl⟩
 | n+1,[],[],F,h=>⟨[],F,by simp[aR],rfl⟩
 | _+1,[],_::_,_,h=>by simp[aR] at h
 | _+1,_::_,[],_,h=>by simp[aR] at h
 | n+1,t::ts,a::u,F,h=>by
   simp only[aR] at h
   obtain⟨F1,F2,h1,h2,rfl⟩:=h
   obtain⟨G1,G2,k1,rfl⟩:=aR.split n h2
   refine⟨F1++G1,G2,?_,by rw[List.append_assoc]⟩
   simp only[List.take_succ_cons,aR]
   exact⟨F1,G1,h1,k1,rfl⟩
end
section
variable{E:Env}{g:G}{d:Nat}{ty:TypeId}{pos:String}{cM:Array Edge}{gd:Option (Nat×Bool)}
end
def Kn(P:Program)(ops:Array Oper)(Q:Ex→G→Prop):Nat→Array Bool→G→Prop
 | 0,listed,g=>Region.ready .any ops listed=[]∧Q .normal g
 | f+1,listed,g=>(Region.ready .any ops listed=[]→Q .normal g)∧∀i∈Region.ready .any ops listed,∃o R δ,ops[i]?=some o∧ya P ops o g R δ∧Kn P ops Q f (listed.setIfInBounds i true) (g.app δ)
theorem Kn.ok{P:Program}{ops:Array Oper}{Q:Ex→G→Prop}{X:Cx}:∀(f:Nat)(listed:Array Bool)(g:G)(ν:Nat→Nm)(a:Act)(w:World),Kn P ops Q f listed g→Sat P X ν g a w→wpAny P .any ops (Ct P X Q) f listed a w
 | 0,_,g,ν,_,_,h,hs=>⟨h.1,g,ν,h.2,hs⟩
 | f+1,listed,g,ν,a,w,h,hs=>by
   refine⟨fun hr=>⟨g,ν,h.1 hr,hs⟩,fun i hi=>?_⟩
   obtain⟨o,R,δ,ho,dg,hx⟩:=h.2 i hi
   have:=dg g ⟨fun _ _=>rfl,fun _ _=>rfl⟩ X ν a w (wpAny P .any ops (Ct P X Q) f (listed.setIfInBounds i true)) (Ct P X Q) hs fun ν' a' w' hs'=>Kn.ok f _ _ ν' a' w' hx hs'
   unfold wpOp
   simp only[ho]
   by_cases hw:Region.wanted o (yielded ops a.tmps)=true
   ·simp only[hw,if_true] at this⊢;exact .inl this
   ·simp only[hw,if_false] at this⊢;exact this
section
variable{E:Env}{n0:Nat}{g:G}{Q:Ex→G→Prop}
end
section
variable{P:Program}{g:G}
theorem Kf(k:Nat){e:TypeId}{xs:List (List T)}{ys:List (List D)}(hk:g.at k=some (.cU e xs))(hf:bW xs=some ys) :
 qT P g ⟨g.sl,bE g.st k (some (.acc e ys))⟩:=by
 intro X ν a w hs
 obtain⟨us,ho,hul,fj,hB,hnd⟩:=nw hs hk
 generalize hg':(⟨g.sl,bE g.st k (some (.acc e ys))⟩:G)=g'
 have fJ:∀j,g'.at j=if j=k then some (.acc e ys) else g.at j:=by
  intro j
  rw[←hg']
  exact di g.st k _ j
 refine⟨fun j=>if j=k then⟨(ν k).v,[]⟩ else ν j,?_⟩
 generalize hν':(fun j=>if j=k then(⟨(ν k).v,[]⟩:Nm) else ν j)=ν'
 have hνk:ν' k=⟨(ν k).v,[]⟩:=by rw[←hν'];simp
 have hνo:∀j,j≠k→ν' j=ν j:=fun j h1=>by rw[←hν'];simp[h1]
 have hm:gI g.at g'.at ν ν':=by
  intro j hj
  refine⟨?_,?_⟩
  ·by_cases h2:j=k
   ·rw[h2,hνk]
   ·rw[hνo j h2]
  ·rw[fJ]
   split
   ·rfl
   ·exact hj
 have hask:∀b,(ν' k).has b↔b∈hb (ν k).v:=fun b=>by rw[hνk,jn];simp
 have hasK:∀b,(ν k).has b↔b∈hb (ν k).v++(ν k).f:=fun b=>jn
 have back:∀j e1,g'.at j=some e1→e1.live=true→∀b,(ν' j).has b→∃e0,g.at j=some e0∧e0.live=true∧(ν j).has b:=by
  intro j e1 h1 h2 b hb1
  by_cases fK:j=k
  ·subst fK
   exact⟨_,hk,rfl,(hasK b).2 (List.mem_append_left _ ((hask b).1 hb1))⟩
  ·rw[fJ,if_neg fK] at h1
   rw[hνo j fK] at hb1
   exact⟨e1,h1,h2,hb1⟩
 have dG:∀b,Own ν' g'.at b→Own ν g.at b:=by
  rintro b ⟨j,e1,h1,h2,h3⟩
  obtain⟨e0,k1,k2,k3⟩:=back j e1 h1 h2 b h3
  exact⟨j,e0,k1,k2,k3⟩
 have hw:∀b,bm X ν g.at b→b<w.heap.size→bm X ν' g'.at b∧w.heap[b]?=w.heap[b]?:=fun b hb _=>⟨⟨fun ho=>hb.1 (dG b ho),hb.2⟩,rfl⟩
 have hF:∀b∈(ν k).f,bm X ν' g'.at b:=by
  intro b hbf
  have hKb:(ν k).has b:=(hasK b).2 (List.mem_append_right _ hbf)
  refine⟨?_,hs.Bi ⟨k,_,hk,rfl,hKb⟩⟩
  rintro⟨j,e1,h1,h2,h3⟩
  obtain⟨e0,k1,k2,k3⟩:=back j e1 h1 h2 b h3
  have fK:=hs.inj j k e0 _ b k1 hk k2 rfl k3 hKb
  subst fK
  have h4:=(hask b).1 h3
  exact(gX.1 hnd).2.2 b h4 b hbf rfl
 obtain⟨l1,l2,l3⟩:=aR.data hw xs us (ν k).f ys hf fj hF
 have iy:bg w (bm X ν' g'.at) (P.cellsOf e) ys us:=by
  refine⟨l1,fun i x hx=>?_,fun i u hu=>hul i u hu,fun i j x u d v h1 h2 h3 h4=>(l3 i x u h1 h2).2 j d v h3 h4⟩
  have hi:i<us.length:=by
   have:=(List.getElem?_eq_some_iff.1 hx).1
   omega
  have hu:=List.getElem?_eq_getElem hi
  rw[(l3 i x _ hx hu).1]
  exact hul i _ hu
 refine hs.Ia (g':=g') (ν':=ν') (fun _=>False) (mK.refl _ w) (fun _ hb=>hb.elim) hm ?_ ?_ ?_ ?_ ?_ ?_ rfl
 ·intro j e1 hj
  rw[fJ] at hj
  by_cases fK:j=k
  ·rw[if_pos fK] at hj
   obtain rfl:=Option.some.inj hj
   subst fK
   refine .inr ⟨us,?_,iy,by omega,by rw[hνk]⟩
   rw[hνk,←l2]
   exact ho
  ·rw[if_neg fK] at hj
   exact .inl ⟨hj,hνo j fK,fun _ _ _ hb=>hb⟩
 ·intro j e1 b h1 h2 h3
  exact .inl (dG b ⟨j,e1,h1,h2,h3⟩)
 ·intro j j' e1 e2 b h1 h2 h3 h4 h5 h6
  obtain⟨e0,k1,k2,k3⟩:=back j e1 h1 h3 b h5
  obtain⟨e3,l1,l2,l3⟩:=back j' e2 h2 h4 b h6
  exact hs.inj j j' e0 e3 b k1 l1 k2 l2 k3 l3
 ·intro j hj
  rw[fJ] at hj
  by_cases fK:j=k
  ·exact .inl (by rw[fK,hk];rfl)
  ·rw[if_neg fK] at hj
   exact .inl hj
 ·rw[←hg'];exact hs.size
 ·intro t
  exact .inl ⟨by rw[←hg'],rfl⟩
end
theorem Np{E:Env}{g g':G}{o:Oper}{rest:ll→Option (List Ky)→G→Prop}(hw:qT E.P g g')(h:ob E none none o g' rest):ob E none none o g rest:=by
 rcases h with⟨R,δ,h1,h2⟩|⟨_,_,g2,h1,h2⟩
 ·exact .inr ⟨rfl,rfl,g',hw,R,δ,h1,h2⟩
 ·exact .inr ⟨rfl,rfl,g2,hw.trans h1,h2⟩
theorem wK{E:Env}{rs:List ResultVar}{n0:Nat}{R:PV→List (Option En)→Prop}{g g':G}(hw:qT E.P g g')(h:HK E rs n0 R g'):HK E rs n0 R g:=
 let ⟨g2,h1,h2⟩:=h
 ⟨g2,ko.trans hw.Dx h1,h2⟩
theorem I7{xs:List (List T)}{r1 r2:List T}{n:Nat}(h:xs.length=n):jF (xs++[r1,r2]) n=r1:=by subst h;simp[jF,bI]
theorem Jl{xs:List (List T)}{r1 r2:List T}{n:Nat}(h:xs.length=n):jF (xs++[r1,r2]) (n+1)=r2:=by subst h;simp[jF,bI]
theorem G5{xs:List (List T)}{r1 r2 r:List T}{n:Nat}(h:xs.length=n):(xs++[r1,r2]).set n r=xs++[r,r2]:=by subst h;simp
theorem Ii{xs:List (List T)}{r1 r2 r:List T}{n:Nat}(h:xs.length=n):(xs++[r1,r2]).set (n+1) r=xs++[r1,r]:=by subst h;simp
attribute [go_sem] e9 eO vz Kc
end Go.Eng
