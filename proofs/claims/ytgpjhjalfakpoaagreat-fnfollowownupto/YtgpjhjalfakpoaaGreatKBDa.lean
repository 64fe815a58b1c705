/-
  The symbolic layer, thirty-fourth text: exclusive or; what a call leaves, told otherwise.
-/
import Derived.Test.YtgpjhjalfakpoaaGreatKBD
import Derived.Laws.Entries
set_option linter.unusedVariables false
set_option linter.unusedSimpArgs false
open Bool renaming and_eq_true→ae
open List renaming mem_append→aG,nil_append→bB,append_nil→bC,getD→bK,getElem?_set→fO,nodup_append→ia,set_cons_zero→jd,set_cons_succ→je,ext_getElem?→jP
open Nat renaming le_refl→ar
namespace Go.Eng
open Go.RowKit
def CI(a b:Int):Int:=((a.toNat ^^^ b.toNat:Nat):Int)
theorem K7(a b:Int):0≤CI a b:=Int.natCast_nonneg _
theorem BL{a b:Int}(h1:0≤a)(h2:a≤9223372036854775807)(h3:0≤b)(h4:b≤9223372036854775807):bits .xor .i64 a b=CI a b:=by
 obtain⟨A,rfl⟩:=Int.eq_ofNat_of_zero_le h1
 obtain⟨B,rfl⟩:=Int.eq_ofNat_of_zero_le h3
 have hx:A ^^^ B<2 ^ 63:=Nat.xor_lt_two_pow (by omega) (by omega)
 have k1:(BitVec.ofInt 64 (A:Int)).toNat=A:=by
  rw[BitVec.ofInt_natCast,BitVec.toNat_ofNat];exact Nat.mod_eq_of_lt (by omega)
 have k2:(BitVec.ofInt 64 (B:Int)).toNat=B:=by
  rw[BitVec.ofInt_natCast,BitVec.toNat_ofNat];exact Nat.mod_eq_of_lt (by omega)
 show IntKind.i64.wrap ((BitVec.ofInt 64 (A:Int) ^^^ BitVec.ofInt 64 (B:Int)).toNat:Int)=_
 rw[BitVec.toNat_xor,k1,k2,wrap_i64 ⟨by omega,by omega⟩]
 simp[CI]
section
variable{E:Env}{g:G}{d:Nat}{ty:TypeId}{pos:String}{cP:Array Edge}{gd:Option (Nat×Bool)}
theorem Ny(x y:Operand)(m n:Int)(t u:TypeId)(hx:g.ev x= .d (.val (.int .i64 m)))(hy:g.ev y= .d (.val (.int .i64 n)))(h1:0≤m)(h2:m≤9223372036854775807)(h3:0≤n)(h4:n≤9223372036854775807) :
 gL E.P ⟨some d,.binOp .xor t x y u,ty,pos,cP,gd⟩ g ⟨bZ x++bZ y,[]⟩ ⟨some (d,.d (.val (.int .i64 (CI m n)))),[]⟩:=
 km rfl hx hy rfl fun a w k1 k2=>by
  simp[execOp,k1,k2,eqGuard,binOp,intBits_xor,BL h1 h2 h3 h4]
theorem N4{m:Option (List Ky)}{gs:Option Nat}{rest:lK→Option (List Ky)→G→Prop}{x y:Operand}{t u:TypeId}(a b:Int)(hx:g.ev x= .d (.val (.int .i64 a)))(hy:g.ev y= .d (.val (.int .i64 b)))(h1:0≤a)(h2:a≤9223372036854775807)(h3:0≤b)(h4:b≤9223372036854775807)
 (hr:rest .on (ji m (j9 (o3 gs ⟨bZ x++bZ y,[]⟩) ⟨some (d,.d (.val (.int .i64 (CI a b)))),[]⟩)) (g.app ⟨some (d,.d (.val (.int .i64 (CI a b)))),[]⟩)):oB E m gs ⟨some d,.binOp .xor t x y u,ty,pos,cP,gd⟩ g rest:=
 mC (Ny x y a b t u hx hy h1 h2 h3 h4) hr
end
theorem C.EH{P:Program}{f:FuncId}{args:List PV}{cE:List (Option En)}{res res':PV}{st st':List (Option En)}(m:List (Option Nat))(h:C P f args cE (bw res st))(h1:rB ⟨[res],st⟩ m [res] [res']∧hE ⟨[res],st⟩ m m st')(h3:uh m st'=true)(h4:keeps cE.length 0 m=true):C P f args cE (bw res' st'):=
 have hw:Wk cE.length m ⟨[res],st⟩ ⟨[res'],st'⟩:=⟨h1.1,h1.2,h3,h4⟩
 ⟨h.1,fun X vs k1 k2 k3=>(h.2 X vs k1 k2 k3).mono fun e w ⟨v,r,s,ν',e1,⟨e2,e3⟩,e4⟩=>by
  subst e2 e3
  have hp:Mw X cE.length:=fun k hk=>by rw[k1] at hk;exact jD hk
  obtain⟨ν'',hs⟩:=AH hw X ν' _ _ hp e4
  exact⟨v,_,_,ν'',e1,⟨rfl,rfl⟩,hs⟩⟩
mutual
def PV.p8(k:Nat)(x:D):PV→PV
 | .acc j=>match xp j k with|true=>.d x|false=>.acc j
 | .agg cs=>.agg (xC k x cs)
 | .gN cs=>.gN (xC k x cs)
 | .any=>.any
 | .undef=>.undef
 | .aV=>.aV
 | .d y=>.d y
 | .ptr j o=>.ptr j o
 | .dv j i o sz=>.dv j i o sz
 | .di xs i o=>.di xs i o
 | .fn f cap=>.fn f cap
def xC(k:Nat)(x:D):List PV→List PV
 | []=>[]
 | p::ps=>p.p8 k x::xC k x ps
end
section
variable{w:World}{ok ok':Nat→Prop}{ν:Nat→Nm}{st st':Nat→Option En}{k:Nat}{x:D}
mutual
theorem aj.p8(hw:∀b,ok b→b<w.heap.size→ok' b∧w.heap[b]?=w.heap[b]?)(hm:gY st st' ν ν)(hx:dC w ok' x (ν k).v) :
 ∀(p:PV)(v:Value),aj w ok ν st p v→aj w ok' ν st' (p.p8 k x) v
 | .acc j,v,h=>by
   have hf:=aj.frame hw (ar _) hm (.acc j) v h
   simp only[aj] at h
   unfold PV.p8
   cases hj:xp j k with
   | false=>exact hf
   | true=>
     obtain rfl:=nK hj
     simp only[aj]
     rw[h.2]
     exact hx
 | .agg cs,v,h=>by
   simp only[aj,PV.p8] at h⊢
   obtain⟨vs,rfl,h⟩:=h
   exact⟨vs,rfl,ai.p8 hw hm hx cs vs h⟩
 | .gN cs,v,h=>by
   simp only[aj,PV.p8] at h⊢
   obtain⟨vs,rfl,h⟩:=h
   exact⟨vs,rfl,ai.p8 hw hm hx cs vs h⟩
 | .any,v,h=>aj.frame hw (ar _) hm .any v h
 | .undef,v,h=>aj.frame hw (ar _) hm .undef v h
 | .aV,v,h=>aj.frame hw (ar _) hm .aV v h
 | .d y,v,h=>aj.frame hw (ar _) hm (.d y) v h
 | .ptr j o,v,h=>aj.frame hw (ar _) hm (.ptr j o) v h
 | .dv j i o sz,v,h=>aj.frame hw (ar _) hm (.dv j i o sz) v h
 | .di xs i o,v,h=>aj.frame hw (ar _) hm (.di xs i o) v h
 | .fn f cap,v,h=>aj.frame hw (ar _) hm (.fn f cap) v h
theorem ai.p8(hw:∀b,ok b→b<w.heap.size→ok' b∧w.heap[b]?=w.heap[b]?)(hm:gY st st' ν ν)(hx:dC w ok' x (ν k).v) :
 ∀(ps:List PV)(vs:List Value),ai w ok ν st ps vs→ai w ok' ν st' (xC k x ps) vs
 | [],[],_=>by simp[ai,xC]
 | [],_::_,h=>by simp[ai] at h
 | _::_,[],h=>by simp[ai] at h
 | p::ps,v::vs,h=>by
   simp only[ai,xC] at h⊢
   exact⟨aj.p8 hw hm hx p v h.1,ai.p8 hw hm hx ps vs h.2⟩
end
end
theorem Ab{P:Program}(t k:Nat){g:G}{e:TypeId}{xs:List (List D)}(hk:g.at k=some (.acc e xs)):rA P g ⟨gy g.sl t ((nth g.sl t).p8 k (.b7 xs)),bG g.st k (some .dead)⟩:=by
 intro X ν a w hs
 refine⟨ν,?_⟩
 obtain⟨us,ho,fC,hB,_⟩:=hs.en k _ hk
 generalize hg':(⟨gy g.sl t ((nth g.sl t).p8 k (.b7 xs)),bG g.st k (some .dead)⟩:G)=g'
 have fX:∀j,g'.at j=if j=k then some .dead else g.at j:=fun j=>by rw[←hg'];exact dp g.st k (some .dead) j
 have iP:∀j e1,g'.at j=some e1→e1.live=true→j≠k∧g.at j=some e1:=by
  intro j e1 h1 h2
  rw[fX] at h1
  by_cases hj:j=k
  ·rw[if_pos hj] at h1
   cases h1;cases h2
  ·rw[if_neg hj] at h1
   exact⟨hj,h1⟩
 have dP:∀b,Own ν g'.at b→Own ν g.at b:=by
  rintro b ⟨j,e1,h1,h2,h3⟩
  exact⟨j,e1,(iP j e1 h1 h2).2,h2,h3⟩
 have hw:∀b,bm X ν g.at b→b<w.heap.size→bm X ν g'.at b∧w.heap[b]?=w.heap[b]?:=fun b hb _=>⟨⟨fun ho=>hb.1 (dP b ho),hb.2⟩,rfl⟩
 have iO:dC w (bm X ν g'.at) (.b7 xs) (ν k).v:=by
  refine nB ho fC hB (fun b hb=>⟨?_,hs.BK ⟨k,_,hk,rfl,.inl hb⟩⟩) hw
  rintro⟨j,e1,m1,m2,m3⟩
  obtain⟨m4,m5⟩:=iP j e1 m1 m2
  exact m4 (hs.inj j k e1 _ b m5 hk m2 rfl m3 (.inl hb))
 have hmono:gY g.at g'.at ν ν:=by
  intro j hj
  refine⟨rfl,?_⟩
  rw[fX]
  split
  ·rfl
  ·exact hj
 refine hs.JL (g':=g') (fun _=>False) (nv.refl _ w) (fun _ hb=>hb.elim) hmono ?_ ?_ ?_ ?_ ?_ ?_ rfl
 ·intro j e1 hj
  rw[fX] at hj
  by_cases fY:j=k
  ·rw[if_pos fY] at hj
   cases hj
   exact .inr trivial
  ·rw[if_neg fY] at hj
   exact .inl ⟨hj,rfl,fun _ _ _ hb=>hb⟩
 ·intro j e1 b m1 m2 m3
  exact .inl ⟨j,e1,(iP j e1 m1 m2).2,m2,m3⟩
 ·intro j j' e1 e2 b m1 m2 m3 m4 m5 m6
  exact hs.inj j j' e1 e2 b (iP j e1 m1 m3).2 (iP j' e2 m2 m4).2 m3 m4 m5 m6
 ·intro j hj
  rw[fX] at hj
  by_cases fY:j=k
  ·exact .inl (by rw[fY,hk];rfl)
  ·rw[if_neg fY] at hj
   exact .inl hj
 ·rw[←hg'];simp[eM,hs.size]
 ·intro j
  have hsl:nth g'.sl j=if j=t∧t<g.sl.length then(nth g.sl t).p8 k (.b7 xs) else nth g.sl j:=by rw[←hg'];exact il _ _ _ _
  rw[hsl]
  by_cases hc:j=t∧t<g.sl.length
  ·rw[if_pos hc,hc.1]
   exact .inr (aj.p8 hw hmono iO _ _ (hs.sl t))
  ·rw[if_neg hc]
   exact .inl ⟨rfl,rfl⟩
attribute [go_sem] PV.p8 xC
end Go.Eng
namespace Go.Eng
open Go.RowKit
section
variable{P:Program}{w:World}{ok ok':Nat→Prop}{ν ν':Nat→Nm}{st st':Nat→Option En}
theorem aE.zip:∀(c:Nat){x:List T}{u:List Value}{F:List Nat}{t:T},aE P w ok ν st x u F→x[c]?=some t →
 ∃v A Ft B,u[c]?=some v∧F=A++(Ft++B)∧fP P w ok ν st t v Ft ∧
  ∀(ok':Nat→Prop)(ν':Nat→Nm)(st':Nat→Option En),(∀b,ok b→b<w.heap.size→ok' b∧w.heap[b]?=w.heap[b]?)→gY st st' ν ν'→∀(t':T)(Ft':List Nat),fP P w ok' ν' st' t' v Ft'→aE P w ok' ν' st' (x.set c t') u (A++(Ft'++B))
 | _,[],_,_,_,_,h=>by simp at h
 | _,_::_,[],_,_,h,_=>by simp[aE] at h
 | 0,a::x,v::u,F,t,h,ht=>by
   simp only[aE] at h
   obtain⟨F1,F2,h1,h2,rfl⟩:=h
   obtain rfl:a=t:=by simpa using ht
   refine⟨v,[],F1,F2,rfl,rfl,h1,fun ok' ν' st' hw hm t' Ft' h'=>?_⟩
   simp only[jd,aE,bB]
   exact⟨Ft',F2,h',aE.frame hw (ar _) hm _ _ _ h2 fun _ _=>rfl,rfl⟩
 | c+1,a::x,v::u,F,t,h,ht=>by
   simp only[aE] at h
   obtain⟨F1,F2,h1,h2,rfl⟩:=h
   obtain⟨v',A,Ft,B,k1,rfl,k2,k3⟩:=aE.zip c h2 (by simpa using ht)
   refine⟨v',F1++A,Ft,B,by simpa using k1,by simp,k2,fun ok' ν' st' hw hm t' Ft' h'=>?_⟩
   simp only[je,aE]
   exact⟨F1,_,fP.frame hw (ar _) hm _ _ _ h1 fun _ _=>rfl,k3 ok' ν' st' hw hm t' Ft' h',by simp⟩
theorem aU.zip:∀(i c:Nat){xs:List (List T)}{us:List (List Value)}{F:List Nat}{t:T},aU P w ok ν st xs us F→i<xs.length→(jR xs i)[c]?=some t →
 ∃v A Ft B,F=A++(Ft++B)∧fP P w ok ν st t v Ft ∧
  ∀(ok':Nat→Prop)(ν':Nat→Nm)(st':Nat→Option En),(∀b,ok b→b<w.heap.size→ok' b∧w.heap[b]?=w.heap[b]?)→gY st st' ν ν'→∀(t':T)(Ft':List Nat),fP P w ok' ν' st' t' v Ft'→aU P w ok' ν' st' (xs.set i ((jR xs i).set c t')) us (A++(Ft'++B))
 | _,_,[],_,_,_,_,h,_=>by simp at h
 | _,_,_::_,[],_,_,h,_,_=>by simp[aU] at h
 | 0,c,a::x,v::u,F,t,h,_,ht=>by
   simp only[aU] at h
   obtain⟨F1,F2,h1,h2,rfl⟩:=h
   have ht:a[c]?=some t:=ht
   obtain⟨v',A,Ft,B,k1,rfl,k2,k3⟩:=aE.zip c h1 ht
   refine⟨v',A,Ft,B++F2,by simp,k2,fun ok' ν' st' hw hm t' Ft' h'=>?_⟩
   show aU P w ok' ν' st' (a.set c t'::x) (v::u) _
   simp only[aU]
   exact⟨_,F2,k3 ok' ν' st' hw hm t' Ft' h',aU.frame hw (ar _) hm _ _ _ h2 fun _ _=>rfl,by simp⟩
 | i+1,c,a::x,v::u,F,t,h,hi,ht=>by
   simp only[aU] at h
   obtain⟨F1,F2,h1,h2,rfl⟩:=h
   have ht:(jR x i)[c]?=some t:=by simpa[jR] using ht
   obtain⟨v',A,Ft,B,rfl,k2,k3⟩:=aU.zip i c h2 (by simpa using hi) ht
   refine⟨v',F1++A,Ft,B,by simp,k2,fun ok' ν' st' hw hm t' Ft' h'=>?_⟩
   have e:jR (a::x) (i+1)=jR x i:=by simp[jR]
   rw[e]
   simp only[je,aU]
   exact⟨F1,_,aE.frame hw (ar _) hm _ _ _ h1 fun _ _=>rfl,k3 ok' ν' st' hw hm t' Ft' h',by simp⟩
end
theorem Gy{hb A Ft B:List Nat}(h:(hb++(A++(Ft++B))).Nodup):(hb++(A++B)).Nodup∧Ft.Nodup∧∀b∈hb++(A++B),b∉Ft:=by
 have hp:(hb++(A++(Ft++B))).Perm (Ft++(hb++(A++B))):=by
  rw[List.perm_iff_count]
  intro a
  simp only[List.count_append]
  omega
 have h':=hp.nodup_iff.1 h
 obtain⟨h1,h2,h3⟩:=ia.1 h'
 exact⟨h2,h1,fun b hb1 hb2=>h3 b hb2 b hb1 rfl⟩
theorem Dt{hb A Ft B:List Nat}(h1:(hb++(A++B)).Nodup)(h2:Ft.Nodup)(h3:∀b∈hb++(A++B),b∉Ft):(hb++(A++(Ft++B))).Nodup:=by
 have hp:(hb++(A++(Ft++B))).Perm (Ft++(hb++(A++B))):=by
  rw[List.perm_iff_count]
  intro a
  simp only[List.count_append]
  omega
 exact hp.nodup_iff.2 (ia.2 ⟨h2,h1,fun a ha b hb hab=>h3 b hb (hab▸ha)⟩)
section
variable{P:Program}{g:G}
theorem MU(k i c:Nat){e e':TypeId}{xs ys:List (List T)}(hk:g.at k=some (.cY e xs))(hi:i<xs.length)(hc:(jR xs i)[c]?=some (.own e' ys)) :
 rA P g ⟨g.sl,bG (bG g.st k (some (.cY e (xs.set i ((jR xs i).set c (.ref g.new)))))) g.new (some (.cY e' ys))⟩:=by
 intro X ν a w hs
 obtain⟨us,ho,hul,fC,hB,hnd⟩:=oc hs hk
 obtain⟨v,A,Ft,B,hF,hv,hz⟩:=fC.zip i c hi hc
 have hv0:=hv
 simp only[fP] at hv
 obtain⟨us',F1,q1,q2,q3,q4,rfl⟩:=hv
 rw[hF] at hnd
 obtain⟨n1,n2,n3⟩:=Gy hnd
 have hnew:=g.gM
 have hkn:k≠g.new:=fun h=>by rw[←h,hk] at hnew;cases hnew
 generalize hg':(⟨g.sl,bG (bG g.st k (some (.cY e (xs.set i ((jR xs i).set c (.ref g.new)))))) g.new (some (.cY e' ys))⟩:G)=g'
 have fX:∀j,g'.at j=if j=g.new then some (.cY e' ys) else if j=k then some (.cY e (xs.set i ((jR xs i).set c (.ref g.new)))) else g.at j:=by
  intro j
  rw[←hg']
  show bR (bG (bG g.st k _) g.new _) j=_
  rw[dp,dp]
  rfl
 refine⟨fun j=>if j=g.new then⟨v,F1⟩ else if j=k then⟨(ν k).v,A++B⟩ else ν j,?_⟩
 generalize hν':(fun j=>if j=g.new then(⟨v,F1⟩:Nm) else if j=k then⟨(ν k).v,A++B⟩ else ν j)=ν'
 have hνn:ν' g.new=⟨v,F1⟩:=by rw[←hν'];simp
 have hνk:ν' k=⟨(ν k).v,A++B⟩:=by rw[←hν'];simp[hkn]
 have hνo:∀j,j≠g.new→j≠k→ν' j=ν j:=fun j h1 h2=>by rw[←hν'];simp[h1,h2]
 have hm:gY g.at g'.at ν ν':=by
  intro j hj
  have h1:j≠g.new:=fun h=>by rw[h,hnew] at hj;cases hj
  refine⟨?_,?_⟩
  ·by_cases h2:j=k
   ·rw[h2,hνk]
   ·rw[hνo j h1 h2]
  ·rw[fX,if_neg h1]
   split
   ·rfl
   ·exact hj
 have hasn:∀b,(ν' g.new).has b↔b∈hb v++F1:=fun b=>by rw[hνn];exact jL
 have hask:∀b,(ν' k).has b↔b∈hb (ν k).v++(A++B):=fun b=>by rw[hνk];exact jL
 have hasK:∀b,(ν k).has b↔b∈hb (ν k).v++(A++((hb v++F1)++B)):=fun b=>by rw[jL,hF]
 have sub1:∀b,(ν' g.new).has b→(ν k).has b:=fun b h=>(hasK b).2 (by
  have:=(hasn b).1 h
  simp only[aG] at this⊢
  rcases this with h|h
  ·exact .inr (.inr (.inl (.inl h)))
  ·exact .inr (.inr (.inl (.inr h))))
 have sub2:∀b,(ν' k).has b→(ν k).has b:=fun b h=>(hasK b).2 (by
  have:=(hask b).1 h
  simp only[aG] at this⊢
  rcases this with h|h|h
  ·exact .inl h
  ·exact .inr (.inl h)
  ·exact .inr (.inr (.inr h)))
 have back:∀j e1,g'.at j=some e1→e1.live=true→∀b,(ν' j).has b→∃j0 e0,g.at j0=some e0∧e0.live=true∧(ν j0).has b∧(j≠g.new→j0=j)∧(j=g.new→j0=k):=by
  intro j e1 h1 h2 b hb1
  by_cases hj:j=g.new
  ·subst hj
   exact⟨k,_,hk,rfl,sub1 b hb1,fun h=>absurd rfl h,fun _=>rfl⟩
  ·by_cases fY:j=k
   ·subst fY
    exact⟨j,_,hk,rfl,sub2 b hb1,fun _=>rfl,fun h=>absurd h hj⟩
   ·rw[fX,if_neg hj,if_neg fY] at h1
    rw[hνo j hj fY] at hb1
    exact⟨j,e1,h1,h2,hb1,fun _=>rfl,fun h=>absurd h hj⟩
 have dP:∀b,Own ν' g'.at b→Own ν g.at b:=by
  rintro b ⟨j,e1,h1,h2,h3⟩
  obtain⟨j0,e0,k1,k2,k3,_⟩:=back j e1 h1 h2 b h3
  exact⟨j0,e0,k1,k2,k3⟩
 have hw:∀b,bm X ν g.at b→b<w.heap.size→bm X ν' g'.at b∧w.heap[b]?=w.heap[b]?:=fun b hb _=>⟨⟨fun ho=>hb.1 (dP b ho),hb.2⟩,rfl⟩
 refine hs.JL (g':=g') (ν':=ν') (fun _=>False) (nv.refl _ w) (fun _ hb=>hb.elim) hm ?_ ?_ ?_ ?_ ?_ ?_ rfl
 ·intro j e1 hj
  rw[fX] at hj
  by_cases hjn:j=g.new
  ·rw[if_pos hjn] at hj
   obtain rfl:=Option.some.inj hj
   subst hjn
   refine .inr ⟨?_,?_⟩
   ·rw[hνn]
    exact fP.frame hw (ar _) hm _ _ _ hv0 fun _ _=>rfl
   ·rw[hνn];exact n2
  ·rw[if_neg hjn] at hj
   by_cases fY:j=k
   ·rw[if_pos fY] at hj
    obtain rfl:=Option.some.inj hj
    subst fY
    refine .inr (qI (us:=us) ?_ hul ?_ (by simpa using hB) ?_)
    ·rw[hνk];simpa using ho
    ·rw[hνk]
     have:=hz _ ν' g'.at hw hm (.ref g.new) [] (by
      simp only[fP,and_true]
      exact⟨by rw[fX,if_pos rfl];rfl,by rw[hνn]⟩)
     simpa using this
    ·rw[hνk];exact n1
   ·rw[if_neg fY] at hj
    exact .inl ⟨hj,hνo j hjn fY,fun _ _ _ hb=>hb⟩
 ·intro j e1 b h1 h2 h3
  exact .inl (dP b ⟨j,e1,h1,h2,h3⟩)
 ·intro j j' e1 e2 b h1 h2 h3 h4 h5 h6
  obtain⟨j0,e0,k1,k2,k3,k4,k5⟩:=back j e1 h1 h3 b h5
  obtain⟨j1,e3,l1,l2,l3,l4,l5⟩:=back j' e2 h2 h4 b h6
  have hjj:=hs.inj j0 j1 e0 e3 b k1 l1 k2 l2 k3 l3
  by_cases hj:j=g.new
  ·by_cases hj':j'=g.new
   ·rw[hj,hj']
   ·have e1:=k5 hj
    have e2:=l4 hj'
    have e3:j'=k:=by rw[←e2,←hjj,e1]
    subst hj e3
    exact(n3 b ((hask b).1 h6) ((hasn b).1 h5)).elim
  ·by_cases hj':j'=g.new
   ·have e1:=k4 hj
    have e2:=l5 hj'
    have e3:j=k:=by rw[←e1,hjj,e2]
    subst hj' e3
    exact(n3 b ((hask b).1 h5) ((hasn b).1 h6)).elim
   ·rw[←k4 hj,←l4 hj',hjj]
 ·intro j hj
  rw[fX] at hj
  by_cases hjn:j=g.new
  ·right
   rw[hjn,hνn]
   exact row_one q1
  ·rw[if_neg hjn] at hj
   by_cases fY:j=k
   ·exact .inl (by rw[fY,hk];rfl)
   ·rw[if_neg fY] at hj
    exact .inl hj
 ·rw[←hg'];exact hs.size
 ·intro t
  exact .inl ⟨by rw[←hg'],rfl⟩
theorem NZ(k i c j:Nat){e e':TypeId}{xs ys:List (List T)}(hk:g.at k=some (.cY e xs))(hi:i<xs.length)(hc:(jR xs i)[c]?=some (.ref j))(hj:g.at j=some (.cY e' ys))(fY:j≠k) :
 rA P g ⟨g.sl,bG (bG g.st k (some (.cY e (xs.set i ((jR xs i).set c (.own e' ys)))))) j (some .dead)⟩:=by
 intro X ν a w hs
 obtain⟨us,ho,hul,fC,hB,hnd⟩:=oc hs hk
 obtain⟨v,A,Ft,B,hF,hv,hz⟩:=fC.zip i c hi hc
 simp only[fP] at hv
 obtain⟨hv1,rfl,rfl⟩:=hv
 obtain⟨hen,hndj⟩:=hs.en j _ hj
 simp only[bB] at hF
 rw[hF] at hnd
 generalize hg':(⟨g.sl,bG (bG g.st k (some (.cY e (xs.set i ((jR xs i).set c (.own e' ys)))))) j (some .dead)⟩:G)=g'
 have fX:∀l,g'.at l=if l=j then some .dead else if l=k then some (.cY e (xs.set i ((jR xs i).set c (.own e' ys)))) else g.at l:=by
  intro l
  rw[←hg']
  show bR (bG (bG g.st k _) j _) l=_
  rw[dp,dp]
  rfl
 refine⟨fun l=>if l=k then⟨(ν k).v,A++((hb (ν j).v++(ν j).f)++B)⟩ else ν l,?_⟩
 generalize hν':(fun l=>if l=k then(⟨(ν k).v,A++((hb (ν j).v++(ν j).f)++B)⟩:Nm) else ν l)=ν'
 have hνk:ν' k=⟨(ν k).v,A++((hb (ν j).v++(ν j).f)++B)⟩:=by rw[←hν'];simp
 have hνo:∀l,l≠k→ν' l=ν l:=fun l h1=>by rw[←hν'];simp[h1]
 have hm:gY g.at g'.at ν ν':=by
  intro l hl
  refine⟨?_,?_⟩
  ·by_cases h2:l=k
   ·rw[h2,hνk]
   ·rw[hνo l h2]
  ·rw[fX]
   split
   ·rfl
   ·split
    ·rfl
    ·exact hl
 have hask:∀b,(ν' k).has b→(ν k).has b∨(ν j).has b:=fun b h=>by
  rw[hνk,jL] at h
  rw[jL,jL,hF]
  simp only[aG] at h⊢
  rcases h with h|h|(h|h)|h
  ·exact .inl (.inl h)
  ·exact .inl (.inr (.inl h))
  ·exact .inr (.inl h)
  ·exact .inr (.inr h)
  ·exact .inl (.inr (.inr h))
 have back:∀l e1,g'.at l=some e1→e1.live=true→∀b,(ν' l).has b→(l=k∧((ν k).has b∨(ν j).has b))∨(l≠k∧l≠j∧g.at l=some e1∧(ν l).has b):=by
  intro l e1 h1 h2 b hb1
  rw[fX] at h1
  by_cases hlj:l=j
  ·rw[if_pos hlj] at h1
   obtain rfl:=Option.some.inj h1
   cases h2
  ·rw[if_neg hlj] at h1
   by_cases hlk:l=k
   ·subst hlk
    exact .inl ⟨rfl,hask b hb1⟩
   ·rw[if_neg hlk] at h1
    rw[hνo l hlk] at hb1
    exact .inr ⟨hlk,hlj,h1,hb1⟩
 have dP:∀b,Own ν' g'.at b→Own ν g.at b:=by
  rintro b ⟨l,e1,h1,h2,h3⟩
  rcases back l e1 h1 h2 b h3 with⟨_,h|h⟩|⟨_,_,h4,h5⟩
  ·exact⟨k,_,hk,rfl,h⟩
  ·exact⟨j,_,hj,rfl,h⟩
  ·exact⟨l,e1,h4,h2,h5⟩
 have hw:∀b,bm X ν g.at b→b<w.heap.size→bm X ν' g'.at b∧w.heap[b]?=w.heap[b]?:=fun b hb _=>⟨⟨fun ho=>hb.1 (dP b ho),hb.2⟩,rfl⟩
 refine hs.JL (g':=g') (ν':=ν') (fun _=>False) (nv.refl _ w) (fun _ hb=>hb.elim) hm ?_ ?_ ?_ ?_ ?_ ?_ rfl
 ·intro l e1 hl
  rw[fX] at hl
  by_cases hlj:l=j
  ·rw[if_pos hlj] at hl
   obtain rfl:=Option.some.inj hl
   exact .inr trivial
  ·rw[if_neg hlj] at hl
   by_cases hlk:l=k
   ·rw[if_pos hlk] at hl
    obtain rfl:=Option.some.inj hl
    subst hlk
    refine .inr (qI (us:=us) ?_ hul ?_ (by simpa using hB) ?_)
    ·rw[hνk];simpa using ho
    ·rw[hνk]
     exact hz _ ν' g'.at hw hm (.own e' ys) _ (fP.frame hw (ar _) hm _ _ _ hen fun _ _=>rfl)
    ·rw[hνk]
     refine Dt hnd hndj fun b h1 h2=>?_
     refine fY (hs.inj j l _ _ b hj hk rfl rfl (jL.2 h2) (jL.2 ?_))
     rw[hF];exact h1
   ·rw[if_neg hlk] at hl
    exact .inl ⟨hl,hνo l hlk,fun _ _ _ hb=>hb⟩
 ·intro l e1 b h1 h2 h3
  exact .inl (dP b ⟨l,e1,h1,h2,h3⟩)
 ·intro l l' e1 e2 b h1 h2 h3 h4 h5 h6
  rcases back l e1 h1 h3 b h5 with⟨rfl,p1⟩|⟨p1,p2,p3,p4⟩
  ·rcases back l' e2 h2 h4 b h6 with⟨rfl,q1⟩|⟨q1,q2,q3,q4⟩
   ·rfl
   ·rcases p1 with p1|p1
    ·exact hs.inj l l' _ e2 b hk q3 rfl h4 p1 q4
    ·exact(q2 (hs.inj l' j e2 _ b q3 hj h4 rfl q4 p1)).elim
  ·rcases back l' e2 h2 h4 b h6 with⟨rfl,q1⟩|⟨q1,q2,q3,q4⟩
   ·rcases q1 with q1|q1
    ·exact hs.inj l l' e1 _ b p3 hk h3 rfl p4 q1
    ·exact(p2 (hs.inj l j e1 _ b p3 hj h3 rfl p4 q1)).elim
   ·exact hs.inj l l' e1 e2 b p3 q3 h3 h4 p4 q4
 ·intro l hl
  rw[fX] at hl
  by_cases hlj:l=j
  ·exact .inl (by rw[hlj,hj];rfl)
  ·rw[if_neg hlj] at hl
   by_cases hlk:l=k
   ·exact .inl (by rw[hlk,hk];rfl)
   ·rw[if_neg hlk] at hl
    exact .inl hl
 ·rw[←hg'];exact hs.size
 ·intro t
  exact .inl ⟨by rw[←hg'],rfl⟩
theorem rA.refl(g:G):rA P g g:=fun _ ν _ _ h=>⟨ν,h⟩
theorem rA.EH{n0:Nat}{g g':G}(h:rA P g g'):kG P n0 g g':=fun X ν a w _ hs=>h X ν a w hs
theorem NY(j:Nat){e:TypeId}{xs:List (List D)}(hj:g.at j=some (.acc e xs)):rA P g ⟨g.sl,bG g.st j (some (.cY e (lift xs)))⟩:=fun _ ν _ _ h=>⟨ν,h.lift hj⟩
theorem tm:∀{l:List (Option En)}{k:Nat}{e:En},bR l k=some e→bG l k (some e)=l
 | [],k,e,h=>by cases k<;>simp[bR] at h
 | _::_,0,_,h=>by simp only[bR] at h;simp[bG,h]
 | a::l,k+1,e,h=>by simp only[bR] at h;simp[bG,tm h]
theorem mO:∀{l:List (Option En)}{k:Nat}(x:Option En),k<l.length→(bG l k x).length=l.length
 | [],k,_,h=>by simp at h
 | _::_,0,_,_=>rfl
 | a::l,k+1,x,h=>by simp[bG,mO x (by simpa using h)]
theorem Cp:∀(l:List (Option En))(x:Option En),bG l l.length x=l++[x]
 | [],_=>rfl
 | a::l,x=>by simp[bG,Cp l x]
theorem x7:∀{l m:List (Option En)}{k:Nat}(x:Option En),k<l.length→bG (l++m) k x=bG l k x++m
 | [],_,k,_,h=>by simp at h
 | _::_,_,0,_,_=>rfl
 | a::l,m,k+1,x,h=>by simp[bG,x7 x (by simpa using h)]
theorem pT:∀(l:List (Option En))(j k:Nat)(x y:Option En),j≠k→bG (bG l j x) k y=bG (bG l k y) j x
 | [],0,0,_,_,h=>absurd rfl h
 | [],0,k+1,_,_,_=>rfl
 | [],j+1,0,_,_,_=>rfl
 | [],j+1,k+1,x,y,h=>by simp[bG,pT [] j k x y (by omega)]
 | _::_,0,0,_,_,h=>absurd rfl h
 | _::_,0,k+1,_,_,_=>rfl
 | _::_,j+1,0,_,_,_=>rfl
 | a::l,j+1,k+1,x,y,h=>by simp[bG,pT l j k x y (by omega)]
def ko:Nat→List T→List T
 | _,[]=>[]
 | n,.own _ _::ts=>.ref n::ko (n+1) ts
 | n,.leaf d::ts=>.leaf d::ko n ts
 | n,.ref j::ts=>.ref j::ko n ts
def zl:List T→List (Option En)
 | []=>[]
 | .own e xs::ts=>some (.cY e xs)::zl ts
 | .leaf _::ts=>zl ts
 | .ref _::ts=>zl ts
def NJ:List (Option En)→List (Option En)→List (Option En)
 | [],m=>m
 | a::l,m=>a::NJ l m
theorem AS:∀(l m:List (Option En)),NJ l m=l++m
 | [],_=>rfl
 | a::l,m=>by simp[NJ,AS l m]
theorem qN{α:Type}(pre:List α)(a b:α)(r:List α):(pre++a::r).set pre.length b=pre++b::r:=by
 rw[List.set_append_right _ _ (ar _),Nat.sub_self,jd]
theorem nY{k i:Nat}{e:TypeId}:∀(rest pre:List T)(g:G)(xs:List (List T)),g.at k=some (.cY e xs)→i<xs.length→jR xs i=pre++rest →
 rA P g ⟨g.sl,NJ (bG g.st k (some (.cY e (xs.set i (pre++ko g.new rest))))) (zl rest)⟩
 | [],pre,g,xs,hk,hi,hr=>by
   have e1:xs.set i pre=xs:=by
    rw[bC] at hr
    rw[←hr]
    refine jP fun j=>?_
    rw[fO]
    by_cases hj:i=j
    ·subst hj;rw[if_pos rfl,if_pos hi,I4 hi]
    ·rw[if_neg hj]
   simp only[ko,zl,bC,AS,e1]
   rw[tm hk]
   exact rA.refl g
 | .leaf d::ts,pre,g,xs,hk,hi,hr=>by
   have:=nY ts (pre++[.leaf d]) g xs hk hi (by simpa using hr)
   simpa[ko,zl] using this
 | .ref d::ts,pre,g,xs,hk,hi,hr=>by
   have:=nY ts (pre++[.ref d]) g xs hk hi (by simpa using hr)
   simpa[ko,zl] using this
 | .own e' ys::ts,pre,g,xs,hk,hi,hr=>by
   have hkl:k<g.st.length:=jD (by rw[show bR g.st k=_ from hk];rfl)
   have hn:g.new=g.st.length:=iR g.st
   have h1:=MU (P:=P) k i pre.length hk hi (e':=e') (ys:=ys) (by rw[hr];simp)
   have e1:(jR xs i).set pre.length (.ref g.new)=pre++ .ref g.new::ts:=by rw[hr];exact qN _ _ _ _
   rw[e1] at h1
   have e2:bG (bG g.st k (some (.cY e (xs.set i (pre++ .ref g.new::ts))))) g.new (some (.cY e' ys))=bG g.st k (some (.cY e (xs.set i (pre++ .ref g.new::ts))))++[some (.cY e' ys)]:=by
    generalize some (En.cY e (xs.set i (pre++ .ref g.new::ts)))=z
    rw[hn,←mO z hkl,Cp]
   rw[e2] at h1
   refine h1.trans ?_
   have hk1:(⟨g.sl,bG g.st k (some (.cY e (xs.set i (pre++ .ref g.new::ts))))++[some (.cY e' ys)]⟩:G).at k=some (.cY e (xs.set i (pre++ .ref g.new::ts))):=by
    show bR _ k=_
    rw[←x7 _ hkl,dp,if_pos rfl]
   have hr1:jR (xs.set i (pre++ .ref g.new::ts)) i=pre++ .ref g.new::ts:=by
    simp[jR,bK,hi]
   have:=nY ts (pre++[.ref g.new]) ⟨g.sl,bG g.st k (some (.cY e (xs.set i (pre++ .ref g.new::ts))))++[some (.cY e' ys)]⟩ _ hk1 (by simpa using hi) (by rw[hr1];simp)
   have hn2:(⟨g.sl,bG g.st k (some (.cY e (xs.set i (pre++ .ref g.new::ts))))++[some (.cY e' ys)]⟩:G).new=g.new+1:=by
    rw[G.new,iR,hn]
    simp[mO _ hkl]
   rw[hn2] at this
   simp only[AS,List.set_set] at this
   rw[x7 _ (by rw[mO _ hkl];exact hkl),jW] at this
   simpa[ko,zl,AS] using this
theorem J4(k i:Nat){e:TypeId}{xs:List (List T)}(row:List T)(hk:g.at k=some (.cY e xs))(hi:i<xs.length)(hr:jR xs i=row) :
 rA P g ⟨g.sl,NJ (bG g.st k (some (.cY e (xs.set i (ko g.new row))))) (zl row)⟩:=by
 have:=nY (P:=P) (k:=k) (i:=i) row [] g xs hk hi (by simpa using hr)
 simpa using this
def c8(k:Nat):List (Option En)→List T→List T
 | _,[]=>[]
 | st,.ref j::ts=>match xp j k,bR st j with
   | false,some (.cY e ys)=>.own e ys::c8 k (bG st j (some .dead)) ts
   | false,some (.acc e ys)=>.own e (lift ys)::c8 k (bG st j (some .dead)) ts
   | _,_=>.ref j::c8 k st ts
 | st,.leaf d::ts=>.leaf d::c8 k st ts
 | st,.own e ys::ts=>.own e ys::c8 k st ts
def jS(k:Nat):List (Option En)→List T→List (Option En)
 | st,[]=>st
 | st,.ref j::ts=>match xp j k,bR st j with
   | false,some (.cY _ _)=>jS k (bG st j (some .dead)) ts
   | false,some (.acc _ _)=>jS k (bG st j (some .dead)) ts
   | _,_=>jS k st ts
 | st,.leaf _::ts=>jS k st ts
 | st,.own _ _::ts=>jS k st ts
theorem JP{j k:Nat}(h:xp j k=false):j≠k:=fun e=>by subst e;rw[xj] at h;cases h
theorem GZ{k:Nat}(x:Option En):∀(ts:List T)(st:List (Option En)),c8 k (bG st k x) ts=c8 k st ts∧jS k (bG st k x) ts=bG (jS k st ts) k x
 | [],st=>⟨rfl,rfl⟩
 | .leaf d::ts,st=>by
   obtain⟨h1,h2⟩:=GZ (k:=k) x ts st
   exact⟨by simp[c8,h1],by simp[jS,h2]⟩
 | .own e ys::ts,st=>by
   obtain⟨h1,h2⟩:=GZ (k:=k) x ts st
   exact⟨by simp[c8,h1],by simp[jS,h2]⟩
 | .ref j::ts,st=>by
   simp only[c8,jS]
   cases hj:xp j k with
   | true=>
     obtain⟨h1,h2⟩:=GZ (k:=k) x ts st
     exact⟨by simp[h1],by simp[h2]⟩
   | false=>
     have mq:=JP hj
     rw[dp,if_neg mq]
     obtain⟨h1,h2⟩:=GZ (k:=k) x ts st
     obtain⟨h3,h4⟩:=GZ (k:=k) x ts (bG st j (some .dead))
     rw[pT st j k _ _ mq] at h3 h4
     cases bR st j with
     | none=>exact⟨by simp[h1],by simp[h2]⟩
     | some en=>cases en with
       | box cs=>exact⟨by simp[h1],by simp[h2]⟩
       | dead=>exact⟨by simp[h1],by simp[h2]⟩
       | map yO=>exact⟨by simp[h1],by simp[h2]⟩
       | acc e ys=>exact⟨by simp[h3],by simp[h4]⟩
       | cY e ys=>exact⟨by simp[h3],by simp[h4]⟩
theorem nj{k i:Nat}{e:TypeId}:∀(rest pre:List T)(g:G)(xs:List (List T)),g.at k=some (.cY e xs)→i<xs.length→jR xs i=pre++rest →
 rA P g ⟨g.sl,bG (jS k g.st rest) k (some (.cY e (xs.set i (pre++c8 k g.st rest))))⟩
 | [],pre,g,xs,hk,hi,hr=>by
   have e1:xs.set i pre=xs:=by
    rw[bC] at hr
    rw[←hr]
    refine jP fun j=>?_
    rw[fO]
    by_cases hj:i=j
    ·subst hj;rw[if_pos rfl,if_pos hi,I4 hi]
    ·rw[if_neg hj]
   simp only[c8,jS,bC,e1]
   rw[tm hk]
   exact rA.refl g
 | .leaf d::ts,pre,g,xs,hk,hi,hr=>by
   have:=nj ts (pre++[.leaf d]) g xs hk hi (by simpa using hr)
   simpa[c8,jS] using this
 | .own e' ys::ts,pre,g,xs,hk,hi,hr=>by
   have:=nj ts (pre++[.own e' ys]) g xs hk hi (by simpa using hr)
   simpa[c8,jS] using this
 | .ref j::ts,pre,g,xs,hk,hi,hr=>by
   have stay:(c8 k g.st (.ref j::ts)= .ref j::c8 k g.st ts)→(jS k g.st (.ref j::ts)=jS k g.st ts)→rA P g ⟨g.sl,bG (jS k g.st (.ref j::ts)) k (some (.cY e (xs.set i (pre++c8 k g.st (.ref j::ts)))))⟩:=by
    intro h1 h2
    have:=nj ts (pre++[.ref j]) g xs hk hi (by simpa using hr)
    rw[h1,h2]
    simpa using this
   have go:∀(e':TypeId)(ys:List (List T))(g0:G),rA P g g0→g0.sl=g.sl→g0.at k=some (.cY e xs)→g0.at j=some (.cY e' ys)→j≠k→bG g0.st j (some .dead)=bG g.st j (some .dead) →
    rA P g ⟨g.sl,bG (jS k (bG g.st j (some .dead)) ts) k (some (.cY e (xs.set i (pre++ .own e' ys::c8 k (bG g.st j (some .dead)) ts))))⟩:=by
    intro e' ys g0 hw hsl hk0 hj0 mq dh
    refine hw.trans ?_
    have h1:=NZ (P:=P) k i pre.length j hk0 hi (by rw[hr];simp) hj0 mq
    have e1:(jR xs i).set pre.length (.own e' ys)=pre++ .own e' ys::ts:=by rw[hr];exact qN _ _ _ _
    rw[e1,←pT _ _ _ _ _ mq,dh,hsl] at h1
    refine h1.trans ?_
    have hk1:(⟨g.sl,bG (bG g.st j (some .dead)) k (some (.cY e (xs.set i (pre++ .own e' ys::ts))))⟩:G).at k=some (.cY e (xs.set i (pre++ .own e' ys::ts))):=by
     show bR _ k=_
     rw[dp,if_pos rfl]
    have hr1:jR (xs.set i (pre++ .own e' ys::ts)) i=pre++ .own e' ys::ts:=by simp[jR,bK,hi]
    have:=nj ts (pre++[.own e' ys]) _ _ hk1 (by simpa using hi) (by rw[hr1];simp)
    obtain⟨q1,q2⟩:=GZ (k:=k) (some (.cY e (xs.set i (pre++ .own e' ys::ts)))) ts (bG g.st j (some .dead))
    simp only[q1,q2,List.set_set,jW] at this
    simpa using this
   cases fY:xp j k with
   | true=>exact stay (by simp[c8,fY]) (by simp[jS,fY])
   | false=>
     have mq:=JP fY
     cases hen:bR g.st j with
     | none=>exact stay (by simp[c8,fY,hen]) (by simp[jS,fY,hen])
     | some en=>cases en with
       | box cs=>exact stay (by simp[c8,fY,hen]) (by simp[jS,fY,hen])
       | dead=>exact stay (by simp[c8,fY,hen]) (by simp[jS,fY,hen])
       | map yO=>exact stay (by simp[c8,fY,hen]) (by simp[jS,fY,hen])
       | cY e' ys=>
         have:=go e' ys g (rA.refl g) rfl hk hen mq rfl
         simpa[c8,jS,fY,hen] using this
       | acc e' ys=>
         have hk0:(⟨g.sl,bG g.st j (some (.cY e' (lift ys)))⟩:G).at k=some (.cY e xs):=by
          show bR _ k=_
          rw[dp,if_neg (Ne.symm mq)]
          exact hk
         have hj0:(⟨g.sl,bG g.st j (some (.cY e' (lift ys)))⟩:G).at j=some (.cY e' (lift ys)):=by
          show bR _ j=_
          rw[dp,if_pos rfl]
         have:=go e' (lift ys) ⟨g.sl,bG g.st j (some (.cY e' (lift ys)))⟩ (NY j hen) rfl hk0 hj0 mq (jW _ _ _ _)
         simpa[c8,jS,fY,hen] using this
theorem rT(k i:Nat){e:TypeId}{xs:List (List T)}(row:List T)(hk:g.at k=some (.cY e xs))(hi:i<xs.length)(hr:jR xs i=row) :
 rA P g ⟨g.sl,bG (jS k g.st row) k (some (.cY e (xs.set i (c8 k g.st row))))⟩:=by
 have:=nj (P:=P) (k:=k) (i:=i) row [] g xs hk hi (by simpa using hr)
 simpa using this
end
def NT:List Nat→List Nat→List Nat
 | [],m=>m
 | a::l,m=>a::NT l m
theorem JY:∀(l m:List Nat),NT l m=l++m
 | [],_=>rfl
 | a::l,m=>by simp[NT,JY l m]
def Mg:D→Bool
 | .val _=>true
 | .str _=>true
 | .b7 _=>false
def Hh:List D→Bool
 | []=>true
 | d::ds=>Mg d&&Hh ds
def wN:List (List D)→Bool
 | []=>true
 | x::xs=>Hh x&&wN xs
mutual
def T.sd:T→Bool
 | .leaf d=>Mg d
 | .ref _=>true
 | .own _ xs=>BP xs
def Na:List T→Bool
 | []=>true
 | t::ts=>t.sd&&Na ts
def BP:List (List T)→Bool
 | []=>true
 | x::xs=>Na x&&BP xs
end
mutual
def PV.sd:PV→Bool
 | .any=>true
 | .undef=>true
 | .aV=>true
 | .d x=>Mg x
 | .agg cs=>L0 cs
 | .gN cs=>L0 cs
 | .ptr _ _=>true
 | .acc _=>true
 | .dv _ _ _ _=>true
 | .di _ _ _=>false
 | .fn _ cs=>L0 cs
def L0:List PV→Bool
 | []=>true
 | p::ps=>p.sd&&L0 ps
end
def En.sd:En→Bool
 | .box cs=>L0 cs
 | .acc _ xs=>wN xs
 | .cY _ xs=>BP xs
 | .map _=>true
 | .dead=>true
def zc:List (Option En)→Bool
 | []=>true
 | none::es=>zc es
 | some e::es=>e.sd&&zc es
section
variable{P:Program}{w:World}{ok ok':Nat→Prop}{ν:Nat→Nm}{st:Nat→Option En}
theorem dC.sd{d:D}{v:Value}(h:Mg d=true)(hr:dC w ok d v):dC w ok' d v:=by
 cases hr with
 | val v h'=>exact .val v h'
 | str l h'=>exact .str l h'
 | nil=>cases h
 | emp a c h'=>cases h
 | b7=>cases h
mutual
theorem fP.sd:∀(t:T)(v:Value)(F:List Nat),t.sd=true→fP P w ok ν st t v F→fP P w ok' ν st t v F
 | .leaf d,v,F,hs,h=>by simp only[fP] at h⊢;simp only[T.sd] at hs;exact⟨h.1.sd hs,h.2⟩
 | .ref j,v,F,hs,h=>by simpa only[fP] using h
 | .own e xs,v,F,hs,h=>by
   simp only[T.sd] at hs
   simp only[fP] at h⊢
   obtain⟨us,F1,h1,h2,h3,h4,h5⟩:=h
   exact⟨us,F1,h1,h2,aU.sd xs us F1 hs h3,h4,h5⟩
theorem aE.sd:∀(ts:List T)(vs:List Value)(F:List Nat),Na ts=true→aE P w ok ν st ts vs F→aE P w ok' ν st ts vs F
 | [],[],F,_,h=>by simpa only[aE] using h
 | [],_::_,F,_,h=>by simp[aE] at h
 | _::_,[],F,_,h=>by simp[aE] at h
 | t::ts,v::vs,F,hs,h=>by
   simp only[Na,ae] at hs
   simp only[aE] at h⊢
   obtain⟨F1,F2,h1,h2,h3⟩:=h
   exact⟨F1,F2,fP.sd t v F1 hs.1 h1,aE.sd ts vs F2 hs.2 h2,h3⟩
theorem aU.sd:∀(xs:List (List T))(us:List (List Value))(F:List Nat),BP xs=true→aU P w ok ν st xs us F→aU P w ok' ν st xs us F
 | [],[],F,_,h=>by simpa only[aU] using h
 | [],_::_,F,_,h=>by simp[aU] at h
 | _::_,[],F,_,h=>by simp[aU] at h
 | x::xs,u::us,F,hs,h=>by
   simp only[BP,ae] at hs
   simp only[aU] at h⊢
   obtain⟨F1,F2,h1,h2,h3⟩:=h
   exact⟨F1,F2,aE.sd x u F1 hs.1 h1,aU.sd xs us F2 hs.2 h2,h3⟩
end
mutual
theorem aj.sd:∀(p:PV)(v:Value),p.sd=true→aj w ok ν st p v→aj w ok' ν st p v
 | .any,_,_,_=>by simp only[aj]
 | .undef,_,_,h=>by simpa only[aj] using h
 | .aV,_,_,h=>by simpa only[aj] using h
 | .d x,v,hs,h=>by simp only[aj] at h⊢;exact h.sd hs
 | .agg cs,v,hs,h=>by
   simp only[aj] at h⊢
   obtain⟨vs,e,h⟩:=h
   exact⟨vs,e,ai.sd cs vs (by simpa only[PV.sd] using hs) h⟩
 | .gN cs,v,hs,h=>by
   simp only[aj] at h⊢
   obtain⟨vs,e,h⟩:=h
   exact⟨vs,e,ai.sd cs vs (by simpa only[PV.sd] using hs) h⟩
 | .ptr _ _,_,_,h=>by simpa only[aj] using h
 | .acc _,_,_,h=>by simpa only[aj] using h
 | .dv _ _ _ _,_,_,h=>by simpa only[aj] using h
 | .di _ _ _,_,hs,_=>by simp[PV.sd] at hs
 | .fn f cs,v,hs,h=>by
   simp only[aj] at h⊢
   obtain⟨vs,e,h⟩:=h
   exact⟨vs,e,ai.sd cs vs (by simpa only[PV.sd] using hs) h⟩
theorem ai.sd:∀(ps:List PV)(vs:List Value),L0 ps=true→ai w ok ν st ps vs→ai w ok' ν st ps vs
 | [],[],_,_=>by simp[ai]
 | [],_::_,_,h=>by simp[ai] at h
 | _::_,[],_,h=>by simp[ai] at h
 | p::ps,v::vs,hs,h=>by
   simp only[L0,ae] at hs
   simp only[ai] at h⊢
   exact⟨aj.sd p v hs.1 h.1,ai.sd ps vs hs.2 h.2⟩
end
theorem KJ:∀{xs:List (List D)},wN xs=true→∀(i j:Nat)(x:List D)(d:D),xs[i]?=some x→x[j]?=some d→Mg d=true:=by
 have h1:∀{x:List D},Hh x=true→∀(j:Nat)(d:D),x[j]?=some d→Mg d=true:=by
  intro x
  induction x with
  | nil=>intro _ j d h;simp at h
  | cons e x ih=>
    intro h j d hd
    simp only[Hh,ae] at h
    cases j with
    | zero=>obtain rfl:e=d:=by simpa using hd
            exact h.1
    | succ j=>exact ih h.2 j d (by simpa using hd)
 intro xs
 induction xs with
 | nil=>intro _ i j x d h;simp at h
 | cons y xs ih=>
   intro h i j x d hx hd
   simp only[wN,ae] at h
   cases i with
   | zero=>obtain rfl:y=x:=by simpa using hx
           exact h1 h.1 j d hd
   | succ i=>exact ih h.2 i j x d (by simpa using hx) hd
theorem gk.sd{k:Nat}{e:En}(hs:e.sd=true)(h:gk P w ok ν st k e):gk P w ok' ν st k e:=by
 cases e with
 | dead=>trivial
 | box cs=>
   obtain⟨b,vs,T,h1,h2,h3,h4⟩:=h
   exact⟨b,vs,T,h1,h2,ai.sd cs vs (by simpa only[En.sd] using hs) h3,h4⟩
 | acc e xs=>
   obtain⟨us,h1,h2,h3,h4⟩:=h
   exact⟨us,h1,⟨h2.len,h2.hx,h2.hu,fun i j x u d v k1 k2 k3 k4=>(h2.hr i j x u d v k1 k2 k3 k4).sd (KJ (by simpa only[En.sd] using hs) i j x d k1 k3)⟩,h3,h4⟩
 | cY e xs=>exact⟨fP.sd (.own e xs) _ _ (by simpa only[T.sd,En.sd] using hs) h.1,h.2⟩
 | map yO=>exact h
theorem A5:∀{es:List (Option En)},zc es=true→∀(i:Nat)(e:En),bR es i=some e→e.sd=true
 | [],_,i,e,h=>by cases i<;>simp[bR] at h
 | none::es,hs,0,e,h=>by simp[bR] at h
 | none::es,hs,i+1,e,h=>A5 (es:=es) (by simpa only[zc] using hs) i e (by simpa[bR] using h)
 | some a::es,hs,0,e,h=>by
   simp only[zc,ae] at hs
   obtain rfl:a=e:=by simpa[bR] using h
   exact hs.1
 | some a::es,hs,i+1,e,h=>by
   simp only[zc,ae] at hs
   exact A5 hs.2 i e (by simpa[bR] using h)
end
theorem Jw{P:Program}{o:Oper}{g:G}{iB:Operand}{xs:List Operand}{tys:Array TypeId}{d:Nat}(ho:o.op= .call ⟨.value iB,⟨xs⟩,tys⟩)(hd:o.dst=some d){f:FuncId}{cap:List PV}(hfn:g.ev iB= .fn f cap)
 (ks m:List Nat) (bA:List PV) (res:PV) (st':List (Option En)) (hC:C P f bA [] (bw res st')) (jN:pY g ks (xs.map g.ev++cap) bA) (hsd:res.sd=true) (hse:zc st'=true) (hm:m.Nodup) (hnew:eL g 0 m) (hml:st'.length≤m.length)
 (X:Cx) (ν:Nat→Nm) (a:Act) (w:World) (next:Act→World→Prop) (Q:Exit→Act→World→Prop) (hs:Sat P X ν g a w)
 (hn:∀ν' a' w',Sat P X ν' ⟨gy g.sl d (res.gZ m),pU g.st (gi m m st')⟩ a' w'→next a' w'):o.wp P a w next Q:=by
 have hfv:=hs.ev iB
 rw[hfn] at hfv
 simp only[aj] at hfv
 obtain⟨vcap,hfv,fV⟩:=hfv
 have hxs:=rU hs xs
 let Xc:Cx:=⟨w,Own (fun i=>ν (look m i)) (bR []),fun i=>ν (look m i),bR [],X.Z⟩
 have hno:∀(ν:Nat→Nm) b,¬Own ν (bR []) b:=by
  rintro ν b ⟨k,e,h,_⟩
  cases k<;>simp[bR] at h
 have hw:∀b,bm X ν g.at b→b<w.heap.size→bm Xc (fun i=>ν (look m i)) (bR []) b∧w.heap[b]?=w.heap[b]?:=fun b hb _=>⟨⟨hno _ b,hb.2⟩,rfl⟩
 have dP:∀b,Own ν g.at b→bm Xc (fun i=>ν (look m i)) (bR []) b:=fun b hb=>⟨hno _ b,hs.BK hb⟩
 have mr:ai w (bm Xc (fun i=>ν (look m i)) (bR [])) (fun i=>ν (look m i)) (bR []) bA (xs.map a.eval++vcap):=ai.vw hs hw dP _ jN (hxs.app fV)
 obtain⟨⟨fn,hfn1,hfn2,hfn3⟩,hC⟩:=hC
 have hr:(execOp a.eval o).run P w= .ok (.enter f ⟨xs.map a.eval++vcap⟩) w:=by
  have n1 : ¬ fn.name = "runtime.NumGoroutine" := by simpa using hfn3
  have n2:¬fn.body=none:=fun e=>by rw[e] at hfn2;cases hfn2
  simp[execOp,ho,resolve,hfv,Deferred.ofValue,invoke,callFunc,program,hfn1,n1,n2,Sem.run]
 have fX:∀k,(⟨bA,[]⟩:G).at k=none:=fun k=>by cases k<;>rfl
 have hent:Sat P Xc (fun i=>ν (look m i)) ⟨bA,[]⟩ ⟨⟨xs.map a.eval++vcap⟩,[]⟩ w:=by
  refine⟨by simpa using mr.length,fun t=>?_,fun k e h=>?_,fun k k' e e' b h=>?_,fun b hb=>?_,fun k h=>?_,fun k h=>?_,⟨fun b hb=>?_,hs.kt rfl fun b hb=>(hno _ b hb).elim⟩,nv.refl _ w,rfl⟩
  ·have key:∀(ps:List PV)(us:List Value)(t:Nat),ai w (bm Xc (fun i=>ν (look m i)) (bR [])) (fun i=>ν (look m i)) (bR []) ps us→aj w (bm Xc (fun i=>ν (look m i)) (bR [])) (fun i=>ν (look m i)) (bR []) (nth ps t) (us.getD t Go.undef):=by
    intro ps
    induction ps with
    | nil=>intro us t _;cases t<;>simp[nth,aj]
    | cons p ps ih=>
      intro us t hr
      cases us with
      | nil=>simp[ai] at hr
      | cons u us=>
        simp only[ai] at hr
        cases t with
        | zero=>simpa[nth] using hr.1
        | succ t=>simpa[nth] using ih us t hr.2
   have:=key bA _ t mr
   show aj w (bm Xc (fun i=>ν (look m i)) (bR [])) (fun i=>ν (look m i)) (bR []) (nth bA t) ((⟨xs.map a.eval++vcap⟩:Array Value).getD t Go.undef)
   simpa[Array.getD_eq_getD_getElem?] using this
  ·rw[fX] at h;cases h
  ·rw[fX] at h;cases h
  ·exact(hno _ b hb).elim
  ·rw[fX] at h;cases h
  ·exact⟨rfl,h⟩
  ·exact⟨Nat.lt_of_lt_of_le (hs.wx b hb).1 hs.qp.size,hno _ b⟩
 unfold Oper.wp
 rw[hr,Oper.upon_enter]
 refine(hC Xc (xs.map a.eval++vcap) rfl rfl hent).mono ?_
 rintro e w' ⟨v,res',st2,ν',rfl,⟨rfl,rfl⟩,dX⟩
 let Xd:Cx:=⟨w,Own (fun i=>ν (look m i)) (bR []),fun i=>ν (look m i),bR [],fun b=>X.Z b∨(Own ν g.at b∧¬Own (fun i=>ν (look m i)) (bR []) b)⟩
 have hsat2:Gk P Xd ν' res' st2 v w':=by
  refine⟨dX.size,fun t=>?_,fun k e h=>gk.sd (A5 hse k e h) (dX.en k e h),dX.inj,dX.base,dX.nu,dX.par,⟨fun b hb=>?_,dX.wx.k⟩,dX.qp,dX.defs⟩
  ·have hx:(nth [res'] t).sd=true:=by
    cases t with
    | zero=>exact hsd
    | succ t=>cases t<;>rfl
   exact aj.sd _ _ hx (dX.sl t)
  ·rcases hb with hb|hb
   ·exact dX.wx b hb
   ·exact⟨hs.lt hb.1,hno _ b⟩
 obtain⟨ν'',hs'⟩:=hs.leave m [] st2 hm hml (Nat.zero_le _) (fun i hi=>by simp at hi) (fun i hi hi'=>hnew.at i hi (by omega)) Xd rfl (fun _ _=>rfl) rfl rfl rfl hsat2 d
 show next (a.put o.dst v) w'
 rw[hd]
 exact hn ν'' _ _ hs'
section
variable{E:Env}{g:G}{d:Nat}{ty:TypeId}{pos:String}{cP:Array Edge}{gd:Option (Nat×Bool)}
theorem J5(iB:Operand)(xs:List Operand)(tys:Array TypeId)(f:FuncId)(cap:List PV)(hfn:g.ev iB= .fn f cap)(ks M:List Nat)(bA:List PV)(res:PV)(st':List (Option En))(hC:C E.P f bA [] (bw res st'))
 (jN:pY g ks (xs.map g.ev++cap) bA) (hsd:res.sd=true) (hse:zc st'=true) (hm:M.Nodup) (hnew:eL g 0 M) (hml:st'.length≤M.length) :
 gL E.P ⟨some d,.call ⟨.value iB,⟨xs⟩,tys⟩,ty,pos,cP,gd⟩ g ⟨bZ iB++xs.flatMap bZ,ks++M⟩ ⟨some (d,res.gZ M),gi M M st'⟩:=by
 intro g2 hg
 have e1:=hg.ev (x:=iB) (fun t h=>by simp[h])
 have e2:=np hg xs (fun t h=>by simp only[aG];exact .inr h)
 have hfr:∀(ks':List Nat)(n:Nat),(∀k∈ks',k∈M)→eL g n ks'→eL g2 n ks':=by
  intro ks'
  induction ks' with
  | nil=>intro n _ _;cases n<;>trivial
  | cons k ks' ih=>
    intro n hk h
    cases n with
    | zero=>
      simp only[eL] at h⊢
      exact⟨by rw[hg.p k (by simp[hk k (by simp)])];exact h.1,ih 0 (fun k h=>hk k (by simp[h])) h.2⟩
    | succ n=>
      simp only[eL] at h⊢
      exact ih n (fun k h=>hk k (by simp[h])) h
 intro X ν a w next Q hs hn
 exact Jw rfl rfl (by rw[e1,hfn]) ks M bA res st' hC (by rw[e2];exact jN.agree (fun k hk=>hg.p k (by simp[hk]))) hsd hse hm (hfr M 0 (fun _ h=>h) hnew) hml X ν a w next Q hs hn
theorem Bg{m:Option (List Ky)}{gs:Option Nat}{rest:lK→Option (List Ky)→G→Prop}{iB:Operand}{xs:List Operand}{tys:Array TypeId}{f:FuncId}(cap:List PV)(ks M:List Nat){bA:List PV}{res:PV}{st':List (Option En)}
 (hC:C E.P f bA [] (bw res st')) (h1:g.ev iB= .fn f cap) (h2:pY g ks (Gl g xs++cap) bA) (h3:res.sd=true∧zc st'=true∧Da M=true∧pM (gI st') (xB M)=true∧eL g 0 M)
 (hr:rest .on (ji m (j9 (o3 gs ⟨bZ iB++tg xs,NT ks M⟩) ⟨some (d,res.gZ M),gi M M st'⟩)) (g.app ⟨some (d,res.gZ M),gi M M st'⟩)):oB E m gs ⟨some d,.call ⟨.value iB,⟨xs⟩,tys⟩,ty,pos,cP,gd⟩ g rest:=by
 rw[pF,JY] at hr
 rw[tz] at h2
 obtain⟨k1,k2,k3,k4,k5⟩:=h3
 have k4:=gg k4
 rw[iR,vM] at k4
 exact mC (J5 iB xs tys f cap h1 ks M bA res st' hC h2 k1 k2 (Ax k3) k5 k4) hr
end
section
variable{E:Env}{n0:Nat}{g:G}{c:Code}{Q:Ex→G→Prop}
theorem CF{P:Program}{g':G}(k i:Nat){e:TypeId}{xs:List (List T)}(row:List T)(hk:g.at k=some (.cY e xs))(hi:i<xs.length)(hr:jR xs i=row)
 (h:kG P n0 ⟨g.sl,bG (jS k g.st row) k (some (.cY e (xs.set i (c8 k g.st row))))⟩ g'):kG P n0 g g':=kG.trans (rA.EH (rT k i row hk hi hr)) h
end
theorem Lw{xs:List (List T)}{i:Nat}{r:List T}(h:i<xs.length):jR (xs.set i r) i=r:=by simp[jR,bK,h]
theorem Fl(xs:List (List T))(r:List T):jR (xs++[r]) xs.length=r:=by simp[jR,bK]
theorem w8{xs:List (List T)}{r:List T}{n:Nat}(h:xs.length=n):jR (xs++[r]) n=r:=by subst h;exact Fl xs r
theorem yK{xs:List (List T)}{r r':List T}{n:Nat}(h:xs.length=n):(xs++[r]).set n r'=xs++[r']:=by subst h;exact qN xs r r' []
attribute [go_sem] Mg Hh wN T.sd Na BP PV.sd L0 En.sd zc NT ko zl NJ c8 jS List.set_set Fl List.length_set
section
variable{P:Program}{w:World}{ok:Nat→Prop}{ν:Nat→Nm}{st:Nat→Option En}
theorem aU.split:∀(n:Nat){x:List (List T)}{u:List (List Value)}{F:List Nat},aU P w ok ν st x u F→∃F1 F2,aU P w ok ν st (x.take n) (u.take n) F1∧F=F1++F2
 | 0,x,u,F,h=>⟨[],F,by simp[aU],rfl⟩
 | n+1,[],[],F,h=>⟨[],F,by simp[aU],rfl⟩
 | _+1,[],_::_,_,h=>by simp[aU] at h
 | _+1,_::_,[],_,h=>by simp[aU] at h
 | n+1,t::ts,a::u,F,h=>by
   simp only[aU] at h
   obtain⟨F1,F2,h1,h2,rfl⟩:=h
   obtain⟨G1,G2,k1,rfl⟩:=aU.split n h2
   refine⟨F1++G1,G2,?_,by rw[List.append_assoc]⟩
   simp only[List.take_succ_cons,aU]
   exact⟨F1,G1,h1,k1,rfl⟩
end
section
variable{E:Env}{g:G}{d:Nat}{ty:TypeId}{pos:String}{cP:Array Edge}{gd:Option (Nat×Bool)}
end
def KT(P:Program)(ops:Array Oper)(Q:Ex→G→Prop):Nat→Array Bool→G→Prop
 | 0,listed,g=>Region.ready .any ops listed=[]∧Q .normal g
 | f+1,listed,g=>(Region.ready .any ops listed=[]→Q .normal g)∧∀i∈Region.ready .any ops listed,∃o R δ,ops[i]?=some o∧yQ P ops o g R δ∧KT P ops Q f (listed.setIfInBounds i true) (g.app δ)
theorem KT.ok{P:Program}{ops:Array Oper}{Q:Ex→G→Prop}{X:Cx}:∀(f:Nat)(listed:Array Bool)(g:G)(ν:Nat→Nm)(a:Act)(w:World),KT P ops Q f listed g→Sat P X ν g a w→wpAny P .any ops (CY P X Q) f listed a w
 | 0,_,g,ν,_,_,h,hs=>⟨h.1,g,ν,h.2,hs⟩
 | f+1,listed,g,ν,a,w,h,hs=>by
   refine⟨fun hr=>⟨g,ν,h.1 hr,hs⟩,fun i hi=>?_⟩
   obtain⟨o,R,δ,ho,dh,hx⟩:=h.2 i hi
   have:=dh g ⟨fun _ _=>rfl,fun _ _=>rfl⟩ X ν a w (wpAny P .any ops (CY P X Q) f (listed.setIfInBounds i true)) (CY P X Q) hs fun ν' a' w' hs'=>KT.ok f _ _ ν' a' w' hx hs'
   unfold wpOp
   simp only[ho]
   by_cases hw:Region.wanted o (yielded ops a.tmps)=true
   ·simp only[hw,if_true] at this⊢;exact .inl this
   ·simp only[hw,if_false] at this⊢;exact this
section
variable{E:Env}{n0:Nat}{g:G}{Q:Ex→G→Prop}
end
section
variable{P:Program}{g:G}
theorem Kq(k:Nat){e:TypeId}{xs:List (List T)}{ys:List (List D)}(hk:g.at k=some (.cY e xs))(hf:b6 xs=some ys) :
 rA P g ⟨g.sl,bG g.st k (some (.acc e ys))⟩:=by
 intro X ν a w hs
 obtain⟨us,ho,hul,fC,hB,hnd⟩:=oc hs hk
 generalize hg':(⟨g.sl,bG g.st k (some (.acc e ys))⟩:G)=g'
 have fX:∀j,g'.at j=if j=k then some (.acc e ys) else g.at j:=by
  intro j
  rw[←hg']
  exact dp g.st k _ j
 refine⟨fun j=>if j=k then⟨(ν k).v,[]⟩ else ν j,?_⟩
 generalize hν':(fun j=>if j=k then(⟨(ν k).v,[]⟩:Nm) else ν j)=ν'
 have hνk:ν' k=⟨(ν k).v,[]⟩:=by rw[←hν'];simp
 have hνo:∀j,j≠k→ν' j=ν j:=fun j h1=>by rw[←hν'];simp[h1]
 have hm:gY g.at g'.at ν ν':=by
  intro j hj
  refine⟨?_,?_⟩
  ·by_cases h2:j=k
   ·rw[h2,hνk]
   ·rw[hνo j h2]
  ·rw[fX]
   split
   ·rfl
   ·exact hj
 have hask:∀b,(ν' k).has b↔b∈hb (ν k).v:=fun b=>by rw[hνk,jL];simp
 have hasK:∀b,(ν k).has b↔b∈hb (ν k).v++(ν k).f:=fun b=>jL
 have back:∀j e1,g'.at j=some e1→e1.live=true→∀b,(ν' j).has b→∃e0,g.at j=some e0∧e0.live=true∧(ν j).has b:=by
  intro j e1 h1 h2 b hb1
  by_cases fY:j=k
  ·subst fY
   exact⟨_,hk,rfl,(hasK b).2 (List.mem_append_left _ ((hask b).1 hb1))⟩
  ·rw[fX,if_neg fY] at h1
   rw[hνo j fY] at hb1
   exact⟨e1,h1,h2,hb1⟩
 have dP:∀b,Own ν' g'.at b→Own ν g.at b:=by
  rintro b ⟨j,e1,h1,h2,h3⟩
  obtain⟨e0,k1,k2,k3⟩:=back j e1 h1 h2 b h3
  exact⟨j,e0,k1,k2,k3⟩
 have hw:∀b,bm X ν g.at b→b<w.heap.size→bm X ν' g'.at b∧w.heap[b]?=w.heap[b]?:=fun b hb _=>⟨⟨fun ho=>hb.1 (dP b ho),hb.2⟩,rfl⟩
 have hF:∀b∈(ν k).f,bm X ν' g'.at b:=by
  intro b hbf
  have hKb:(ν k).has b:=(hasK b).2 (List.mem_append_right _ hbf)
  refine⟨?_,hs.BK ⟨k,_,hk,rfl,hKb⟩⟩
  rintro⟨j,e1,h1,h2,h3⟩
  obtain⟨e0,k1,k2,k3⟩:=back j e1 h1 h2 b h3
  have fY:=hs.inj j k e0 _ b k1 hk k2 rfl k3 hKb
  subst fY
  have h4:=(hask b).1 h3
  exact(ia.1 hnd).2.2 b h4 b hbf rfl
 obtain⟨l1,l2,l3⟩:=aU.data hw xs us (ν k).f ys hf fC hF
 have iO:bg w (bm X ν' g'.at) (P.cellsOf e) ys us:=by
  refine⟨l1,fun i x hx=>?_,fun i u hu=>hul i u hu,fun i j x u d v h1 h2 h3 h4=>(l3 i x u h1 h2).2 j d v h3 h4⟩
  have hi:i<us.length:=by
   have:=(List.getElem?_eq_some_iff.1 hx).1
   omega
  have hu:=List.getElem?_eq_getElem hi
  rw[(l3 i x _ hx hu).1]
  exact hul i _ hu
 refine hs.JL (g':=g') (ν':=ν') (fun _=>False) (nv.refl _ w) (fun _ hb=>hb.elim) hm ?_ ?_ ?_ ?_ ?_ ?_ rfl
 ·intro j e1 hj
  rw[fX] at hj
  by_cases fY:j=k
  ·rw[if_pos fY] at hj
   obtain rfl:=Option.some.inj hj
   subst fY
   refine .inr ⟨us,?_,iO,by omega,by rw[hνk]⟩
   rw[hνk,←l2]
   exact ho
  ·rw[if_neg fY] at hj
   exact .inl ⟨hj,hνo j fY,fun _ _ _ hb=>hb⟩
 ·intro j e1 b h1 h2 h3
  exact .inl (dP b ⟨j,e1,h1,h2,h3⟩)
 ·intro j j' e1 e2 b h1 h2 h3 h4 h5 h6
  obtain⟨e0,k1,k2,k3⟩:=back j e1 h1 h3 b h5
  obtain⟨e3,l1,l2,l3⟩:=back j' e2 h2 h4 b h6
  exact hs.inj j j' e0 e3 b k1 l1 k2 l2 k3 l3
 ·intro j hj
  rw[fX] at hj
  by_cases fY:j=k
  ·exact .inl (by rw[fY,hk];rfl)
  ·rw[if_neg fY] at hj
   exact .inl hj
 ·rw[←hg'];exact hs.size
 ·intro t
  exact .inl ⟨by rw[←hg'],rfl⟩
end
theorem OH{E:Env}{g g':G}{o:Oper}{rest:lK→Option (List Ky)→G→Prop}(hw:rA E.P g g')(h:oB E none none o g' rest):oB E none none o g rest:=by
 rcases h with⟨R,δ,h1,h2⟩|⟨_,_,g2,h1,h2⟩
 ·exact .inr ⟨rfl,rfl,g',hw,R,δ,h1,h2⟩
 ·exact .inr ⟨rfl,rfl,g2,hw.trans h1,h2⟩
theorem w9{E:Env}{rs:List ResultVar}{n0:Nat}{R:PV→List (Option En)→Prop}{g g':G}(hw:rA E.P g g')(h:HM E rs n0 R g'):HM E rs n0 R g:=
 let ⟨g2,h1,h2⟩:=h
 ⟨g2,kG.trans hw.EH h1,h2⟩
theorem JK{xs:List (List T)}{r1 r2:List T}{n:Nat}(h:xs.length=n):jR (xs++[r1,r2]) n=r1:=by subst h;simp[jR,bK]
theorem IZ{xs:List (List T)}{r1 r2:List T}{n:Nat}(h:xs.length=n):jR (xs++[r1,r2]) (n+1)=r2:=by subst h;simp[jR,bK]
theorem Ho{xs:List (List T)}{r1 r2 r:List T}{n:Nat}(h:xs.length=n):(xs++[r1,r2]).set n r=xs++[r,r2]:=by subst h;simp
theorem JZ{xs:List (List T)}{r1 r2 r:List T}{n:Nat}(h:xs.length=n):(xs++[r1,r2]).set (n+1) r=xs++[r1,r]:=by subst h;simp
attribute [go_sem] fp fb vW KY
end Go.Eng
