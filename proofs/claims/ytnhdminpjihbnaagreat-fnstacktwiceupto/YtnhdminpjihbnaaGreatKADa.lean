/-
  The symbolic layer, thirty-fourth text: exclusive or; what a call leaves, told otherwise.
-/
import Derived.Test.YtnhdminpjihbnaaGreatKAD
import Derived.Laws.Entries
import Derived.MapKept
import Derived.Laws.CopyRow
set_option linter.unusedVariables false
set_option linter.unusedSimpArgs false
open Array renaming getElem?_setIfInBounds→k8
open Bool renaming and_eq_true→ab
open Int renaming le_refl→lF
open List renaming map_cons→aJ,mem_append→aM,append_assoc→bm,nil_append→bQ,append_nil→bV,getD→b9,nodup_append→gh,set_cons_zero→gv,set_cons_succ→kh,getElem?_set→mG,ext_getElem?→oG
open Nat renaming le_refl→aH
open Option renaming map_some→dV,map_none→hX
namespace Go.Eng
open Go.RowKit
def UZ(a b:Int):Int:=((a.toNat ^^^ b.toNat:Nat):Int)
theorem aeR(a b:Int):0≤UZ a b:=Int.natCast_nonneg _
theorem Rp{a b:Int}(h1:0≤a)(h2:a≤9223372036854775807)(h3:0≤b)(h4:b≤9223372036854775807):bits .xor .i64 a b=UZ a b:=by
 obtain⟨A,rfl⟩:=Int.eq_ofNat_of_zero_le h1;obtain⟨B,rfl⟩:=Int.eq_ofNat_of_zero_le h3;have hx:A ^^^ B<2 ^ 63:=Nat.xor_lt_two_pow oM oM;have k1:(BitVec.ofInt 64 (A:Int)).toNat=A:=by rw[BitVec.ofInt_natCast,BitVec.toNat_ofNat];exact Nat.mod_eq_of_lt oM
 have k2:(BitVec.ofInt 64 (B:Int)).toNat=B:=by rw[BitVec.ofInt_natCast,BitVec.toNat_ofNat];exact Nat.mod_eq_of_lt oM
 show IntKind.i64.wrap ((BitVec.ofInt 64 (A:Int) ^^^ BitVec.ofInt 64 (B:Int)).toNat:Int)=_;rw[BitVec.toNat_xor,k1,k2,wrap_i64 ⟨oM,oM⟩];simp[UZ]
section
variable{E:Env}{g:G}{d:Nat}{ty:TypeId}{pos:String}{fI:Array Edge}{gd:Option (Nat×Bool)}
theorem ahc(x y:Operand)(m n:Int)(t u:TypeId)(hx:g.ev x= .d (.val (.int .i64 m)))(hy:g.ev y= .d (.val (.int .i64 n)))(h1:0≤m)(h2:m≤9223372036854775807)(h3:0≤n)(h4:n≤9223372036854775807) :
 mQ E.P ⟨some d,.binOp .xor t x y u,ty,pos,fI,gd⟩ g ⟨eu x++eu y,[]⟩ ⟨some (d,.d (.val (.int .i64 (UZ m n)))),[]⟩:=
 s6 rfl hx hy rfl fun a w k1 k2=>by simp[execOp,k1,k2,eqGuard,binOp,intBits_xor,Rp h1 h2 h3 h4]
theorem aiT{m:Option (List Ky)}{gs:Option Nat}{rest:sH→Option (List Ky)→G→Prop}{x y:Operand}{t u:TypeId}(a b:Int)(hx:g.ev x= .d (.val (.int .i64 a)))(hy:g.ev y= .d (.val (.int .i64 b)))(h1:0≤a)(h2:a≤9223372036854775807)(h3:0≤b)(h4:b≤9223372036854775807)
 (hr:rest .on (n9 m (pZ (wD gs ⟨eu x++eu y,[]⟩) ⟨some (d,.d (.val (.int .i64 (UZ a b)))),[]⟩)) (g.app ⟨some (d,.d (.val (.int .i64 (UZ a b)))),[]⟩)):tm E m gs ⟨some d,.binOp .xor t x y u,ty,pos,fI,gd⟩ g rest:=
 hY (ahc x y a b t u hx hy h1 h2 h3 h4) hr
end
theorem C.wF{P:Program}{f:FuncId}{args:List PV}{fR:List (Option En)}{res res':PV}{st st':List (Option En)}(m:List (Option Nat))(h:C P f args fR (gR res st))(h1:Dm ⟨[res],st⟩ m [res] [res']∧np ⟨[res],st⟩ m m st')(h3:AI m st'=true)(h4:keeps fR.length 0 m=true):C P f args fR (gR res' st'):=
 have hw:Wk fR.length m ⟨[res],st⟩ ⟨[res'],st'⟩:=⟨h1.1,h1.2,h3,h4⟩
 ⟨h.1,fun X vs k1 k2 k3=>(h.2 X vs k1 k2 k3).mono fun e w ⟨v,r,s,ν',e1,⟨e2,e3⟩,e4⟩=>by
  subst e2 e3;have hp:Par X fR.length:=fun k hk=>by rw[k1] at hk;exact qy hk
  obtain⟨ν'',hs⟩:=Q7 hw X ν' _ _ hp e4;exact⟨v,_,_,ν'',e1,⟨rfl,rfl⟩,hs⟩⟩
mutual
def PV.CH(k:Nat)(x:D):PV→PV
 | .aW j=>match K6 j k with|true=>.d x|false=>.aW j
 | .agg cs=>.agg (LN k x cs)
 | .ko cs=>.ko (LN k x cs)
 | .any=>.any
 | .undef=>.undef
 | .bE=>.bE
 | .d y=>.d y
 | .bK j o=>.bK j o
 | .iT j i o sz=>.iT j i o sz
 | .gQ xs i o=>.gQ xs i o
 | .fn f cap=>.fn f cap
def LN(k:Nat)(x:D):List PV→List PV
 | []=>[]
 | p::ps=>p.CH k x::LN k x ps
end
section
variable{w:World}{ok ok':Nat→Prop}{ν:Nat→Nm}{st st':Nat→Option En}{k:Nat}{x:D}
mutual
theorem aF.CH(hw:∀b,ok b→b<w.heap.size→ok' b∧w.heap[b]?=w.heap[b]?)(hm:mZ st st' ν ν)(hx:jn w ok' x (ν k).v) :
 ∀(p:PV)(v:Value),aF w ok ν st p v→aF w ok' ν st' (p.CH k x) v
 | .aW j,v,h=>by
  have hf:=aF.frame hw (aH _) hm (.aW j) v h;simp only[aF] at h;unfold PV.CH;cases hj:K6 j k with
  | false=>exact hf
  | true=>obtain rfl:=zo hj;simp only[aF];rw[h.2];exact hx
 | .agg cs,v,h=>by simp only[aF,PV.CH] at h⊢;obtain⟨vs,rfl,h⟩:=h;exact⟨vs,rfl,aB.CH hw hm hx cs vs h⟩
 | .ko cs,v,h=>by simp only[aF,PV.CH] at h⊢;obtain⟨vs,rfl,h⟩:=h;exact⟨vs,rfl,aB.CH hw hm hx cs vs h⟩
 | .any,v,h=>aF.frame hw (aH _) hm .any v h
 | .undef,v,h=>aF.frame hw (aH _) hm .undef v h
 | .bE,v,h=>aF.frame hw (aH _) hm .bE v h
 | .d y,v,h=>aF.frame hw (aH _) hm (.d y) v h
 | .bK j o,v,h=>aF.frame hw (aH _) hm (.bK j o) v h
 | .iT j i o sz,v,h=>aF.frame hw (aH _) hm (.iT j i o sz) v h
 | .gQ xs i o,v,h=>aF.frame hw (aH _) hm (.gQ xs i o) v h
 | .fn f cap,v,h=>aF.frame hw (aH _) hm (.fn f cap) v h
theorem aB.CH(hw:∀b,ok b→b<w.heap.size→ok' b∧w.heap[b]?=w.heap[b]?)(hm:mZ st st' ν ν)(hx:jn w ok' x (ν k).v) :
 ∀(ps:List PV)(vs:List Value),aB w ok ν st ps vs→aB w ok' ν st' (LN k x ps) vs
 | [],[],_=>by simp[aB,LN]
 | [],_::_,h=>by simp[aB] at h
 | _::_,[],h=>by simp[aB] at h
 | p::ps,v::vs,h=>by simp only[aB,LN] at h⊢;exact⟨aF.CH hw hm hx p v h.1,aB.CH hw hm hx ps vs h.2⟩
end
end
theorem GW{P:Program}(t k:Nat){g:G}{e:TypeId}{xs:List (List D)}(hk:g.at k=some (.aW e xs)):wQ P g ⟨kM g.sl t ((nth g.sl t).CH k (.eP xs)),dv g.st k (some .dead)⟩:=by
 intro X ν a w hs;refine⟨ν,?_⟩;obtain⟨us,ho,k9,hB,_⟩:=hs.en k _ hk;generalize hg':(⟨kM g.sl t ((nth g.sl t).CH k (.eP xs)),dv g.st k (some .dead)⟩:G)=g';have mf:∀j,g'.at j=if j=k then some .dead else g.at j:=fun j=>by rw[←hg'];exact il g.st k (some .dead) j
 have qg:∀j e1,g'.at j=some e1→e1.live=true→j≠k∧g.at j=some e1:=by intro j e1 h1 h2;rw[mf] at h1;by_cases hj:j=k;rw[if_pos hj] at h1;cases h1;cases h2;rw[if_neg hj] at h1;exact⟨hj,h1⟩
 have jG:∀b,Own ν g'.at b→Own ν g.at b:=by rintro b ⟨j,e1,h1,h2,h3⟩;exact⟨j,e1,(qg j e1 h1 h2).2,h2,h3⟩
 have hw:∀b,dg X ν g.at b→b<w.heap.size→dg X ν g'.at b∧w.heap[b]?=w.heap[b]?:=fun b hb _=>⟨⟨fun ho=>hb.1 (jG b ho),hb.2⟩,rfl⟩;have qe:jn w (dg X ν g'.at) (.eP xs) (ν k).v:=by refine yl ho k9 hB (fun b hb=>⟨?_,hs.Sj ⟨k,_,hk,rfl,.inl hb⟩⟩) hw;rintro⟨j,e1,m1,m2,m3⟩;obtain⟨m4,m5⟩:=qg j e1 m1 m2;exact m4 (hs.inj j k e1 _ b m5 hk m2 rfl m3 (.inl hb))
 have hmono:mZ g.at g'.at ν ν:=by intro j hj;refine⟨rfl,?_⟩;rw[mf];split;rfl;exact hj
 refine hs.upd (g':=g') (fun _=>False) (uO.refl _ w) (fun _ hb=>hb.elim) hmono ?_ ?_ ?_ ?_ ?_ ?_ rfl;intro j e1 hj;rw[mf] at hj;by_cases na:j=k;rw[if_pos na] at hj;cases hj;exact .inr trivial;rw[if_neg na] at hj;exact .inl ⟨hj,rfl,fun _ _ _ hb=>hb⟩;intro j e1 b m1 m2 m3;exact .inl ⟨j,e1,(qg j e1 m1 m2).2,m2,m3⟩;intro j j' e1 e2 b m1 m2 m3 m4 m5 m6;exact hs.inj j j' e1 e2 b (qg j e1 m1 m3).2 (qg j' e2 m2 m4).2 m3 m4 m5 m6;intro j hj;rw[mf] at hj;by_cases na:j=k;exact .inl (by rw[na,hk];rfl);rw[if_neg na] at hj;exact .inl hj;rw[←hg'];simp[kJ,hs.size];intro j;have hsl:nth g'.sl j=if j=t∧t<g.sl.length then(nth g.sl t).CH k (.eP xs) else nth g.sl j:=by rw[←hg'];exact oj _ _ _ _
 rw[hsl];by_cases hc:j=t∧t<g.sl.length;rw[if_pos hc,hc.1];exact .inr (aF.CH hw hmono qe _ _ (hs.sl t));rw[if_neg hc];exact .inl ⟨rfl,rfl⟩
attribute [go_sem] PV.CH LN
end Go.Eng
namespace Go.Eng
open Go.RowKit
section
variable{P:Program}{w:World}{ok ok':Nat→Prop}{ν ν':Nat→Nm}{st st':Nat→Option En}
theorem bo.zip:∀(c:Nat){x:List T}{u:List Value}{F:List Nat}{t:T},bo P w ok ν st x u F→x[c]?=some t →
 ∃v A Ft B,u[c]?=some v∧F=A++(Ft++B)∧mS P w ok ν st t v Ft ∧
  ∀(ok':Nat→Prop)(ν':Nat→Nm)(st':Nat→Option En),(∀b,ok b→b<w.heap.size→ok' b∧w.heap[b]?=w.heap[b]?)→mZ st st' ν ν'→∀(t':T)(Ft':List Nat),mS P w ok' ν' st' t' v Ft'→bo P w ok' ν' st' (x.set c t') u (A++(Ft'++B))
 | _,[],_,_,_,_,h=>by simp at h
 | _,_::_,[],_,_,h,_=>by simp[bo] at h
 | 0,a::x,v::u,F,t,h,ht=>by
  simp only[bo] at h;obtain⟨F1,F2,h1,h2,rfl⟩:=h;obtain rfl:a=t:=by simpa using ht
  refine⟨v,[],F1,F2,rfl,rfl,h1,fun ok' ν' st' hw hm t' Ft' h'=>?_⟩;simp only[gv,bo,bQ];exact⟨Ft',F2,h',bo.frame hw (aH _) hm _ _ _ h2 fun _ _=>rfl,rfl⟩
 | c+1,a::x,v::u,F,t,h,ht=>by simp only[bo] at h;obtain⟨F1,F2,h1,h2,rfl⟩:=h;obtain⟨v',A,Ft,B,k1,rfl,k2,k3⟩:=bo.zip c h2 (by simpa using ht);refine⟨v',F1++A,Ft,B,by simpa using k1,by simp,k2,fun ok' ν' st' hw hm t' Ft' h'=>?_⟩;simp only[kh,bo];exact⟨F1,_,mS.frame hw (aH _) hm _ _ _ h1 fun _ _=>rfl,k3 ok' ν' st' hw hm t' Ft' h',by simp⟩
theorem bN.zip:∀(i c:Nat){xs:List (List T)}{us:List (List Value)}{F:List Nat}{t:T},bN P w ok ν st xs us F→i<xs.length→(oJ xs i)[c]?=some t →
 ∃v A Ft B,F=A++(Ft++B)∧mS P w ok ν st t v Ft ∧
  ∀(ok':Nat→Prop)(ν':Nat→Nm)(st':Nat→Option En),(∀b,ok b→b<w.heap.size→ok' b∧w.heap[b]?=w.heap[b]?)→mZ st st' ν ν'→∀(t':T)(Ft':List Nat),mS P w ok' ν' st' t' v Ft'→bN P w ok' ν' st' (xs.set i ((oJ xs i).set c t')) us (A++(Ft'++B))
 | _,_,[],_,_,_,_,h,_=>by simp at h
 | _,_,_::_,[],_,_,h,_,_=>by simp[bN] at h
 | 0,c,a::x,v::u,F,t,h,_,ht=>by simp only[bN] at h;obtain⟨F1,F2,h1,h2,rfl⟩:=h;have ht:a[c]?=some t:=ht;obtain⟨v',A,Ft,B,k1,rfl,k2,k3⟩:=bo.zip c h1 ht;refine⟨v',A,Ft,B++F2,by simp,k2,fun ok' ν' st' hw hm t' Ft' h'=>?_⟩;show bN P w ok' ν' st' (a.set c t'::x) (v::u) _;simp only[bN];exact⟨_,F2,k3 ok' ν' st' hw hm t' Ft' h',bN.frame hw (aH _) hm _ _ _ h2 fun _ _=>rfl,by simp⟩
 | i+1,c,a::x,v::u,F,t,h,hi,ht=>by simp only[bN] at h;obtain⟨F1,F2,h1,h2,rfl⟩:=h;have ht:(oJ x i)[c]?=some t:=(by simpa[oJ] using ht);obtain⟨v',A,Ft,B,rfl,k2,k3⟩:=bN.zip i c h2 (by simpa using hi) ht;refine⟨v',F1++A,Ft,B,by simp,k2,fun ok' ν' st' hw hm t' Ft' h'=>?_⟩;have e:oJ (a::x) (i+1)=oJ x i:=(by simp[oJ]);rw[e];simp only[kh,bN];exact⟨F1,_,bo.frame hw (aH _) hm _ _ _ h1 fun _ _=>rfl,k3 ok' ν' st' hw hm t' Ft' h',by simp⟩
end
theorem aaH{hb A Ft B:List Nat}(h:(hb++(A++(Ft++B))).Nodup):(hb++(A++B)).Nodup∧Ft.Nodup∧∀b∈hb++(A++B),b∉Ft:=by
 have hp:(hb++(A++(Ft++B))).Perm (Ft++(hb++(A++B))):=by rw[List.perm_iff_count];intro a;simp only[List.count_append];omega
 have h':=hp.nodup_iff.1 h;obtain⟨h1,h2,h3⟩:=gh.1 h';exact⟨h2,h1,fun b hb1 hb2=>h3 b hb2 b hb1 rfl⟩
theorem XT{hb A Ft B:List Nat}(h1:(hb++(A++B)).Nodup)(h2:Ft.Nodup)(h3:∀b∈hb++(A++B),b∉Ft):(hb++(A++(Ft++B))).Nodup:=by
 have hp:(hb++(A++(Ft++B))).Perm (Ft++(hb++(A++B))):=by rw[List.perm_iff_count];intro a;simp only[List.count_append];omega
 exact hp.nodup_iff.2 (gh.2 ⟨h2,h1,fun a ha b hb hab=>h3 b hb (hab▸ha)⟩)
section
variable{P:Program}{g:G}
theorem aiC(k i c:Nat){e e':TypeId}{xs ys:List (List T)}(hk:g.at k=some (.e9 e xs))(hi:i<xs.length)(hc:(oJ xs i)[c]?=some (.own e' ys)) :
 wQ P g ⟨g.sl,dv (dv g.st k (some (.e9 e (xs.set i ((oJ xs i).set c (.ref g.new)))))) g.new (some (.e9 e' ys))⟩:=by
 intro X ν a w hs
 obtain⟨us,ho,hul,k9,hB,hnd⟩:=zr hs hk
 obtain⟨v,A,Ft,B,hF,hv,hz⟩:=k9.zip i c hi hc
 have hv0:=hv
 simp only[mS] at hv
 obtain⟨us',F1,q1,q2,q3,q4,rfl⟩:=hv
 rw[hF] at hnd
 obtain⟨n1,n2,n3⟩:=aaH hnd
 have hnew:=g.ng
 have hkn:k≠g.new:=fun h=>by rw[←h,hk] at hnew;cases hnew
 generalize hg':(⟨g.sl,dv (dv g.st k (some (.e9 e (xs.set i ((oJ xs i).set c (.ref g.new)))))) g.new (some (.e9 e' ys))⟩:G)=g'
 have mf:∀j,g'.at j=if j=g.new then some (.e9 e' ys) else if j=k then some (.e9 e (xs.set i ((oJ xs i).set c (.ref g.new)))) else g.at j:=by intro j;rw[←hg'];show eJ (dv (dv g.st k _) g.new _) j=_;rw[il,il];rfl
 refine⟨fun j=>if j=g.new then⟨v,F1⟩ else if j=k then⟨(ν k).v,A++B⟩ else ν j,?_⟩
 generalize hν':(fun j=>if j=g.new then(⟨v,F1⟩:Nm) else if j=k then⟨(ν k).v,A++B⟩ else ν j)=ν'
 have hνn:ν' g.new=⟨v,F1⟩:=by rw[←hν'];simp
 have hνk:ν' k=⟨(ν k).v,A++B⟩:=by rw[←hν'];simp[hkn]
 have hνo:∀j,j≠g.new→j≠k→ν' j=ν j:=fun j h1 h2=>by rw[←hν'];simp[h1,h2]
 have hm:mZ g.at g'.at ν ν':=by
  intro j hj;have h1:j≠g.new:=fun h=>by rw[h,hnew] at hj;cases hj
  refine⟨?_,?_⟩;by_cases h2:j=k;rw[h2,hνk];rw[hνo j h1 h2];rw[mf,if_neg h1];split;rfl;exact hj
 have hasn:∀b,(ν' g.new).has b↔b∈hb v++F1:=fun b=>by rw[hνn];exact rf
 have hask:∀b,(ν' k).has b↔b∈hb (ν k).v++(A++B):=fun b=>by rw[hνk];exact rf
 have hasK:∀b,(ν k).has b↔b∈hb (ν k).v++(A++((hb v++F1)++B)):=fun b=>by rw[rf,hF]
 have sub1:∀b,(ν' g.new).has b→(ν k).has b:=fun b h=>(hasK b).2 (by have:=(hasn b).1 h;simp only[aM] at this⊢;rcases this with h|h;exact .inr (.inr (.inl (.inl h)));exact .inr (.inr (.inl (.inr h))))
 have sub2:∀b,(ν' k).has b→(ν k).has b:=fun b h=>(hasK b).2 (by have:=(hask b).1 h;simp only[aM] at this⊢;rcases this with h|h|h;exact .inl h;exact .inr (.inl h);exact .inr (.inr (.inr h)))
 have back:∀j e1,g'.at j=some e1→e1.live=true→∀b,(ν' j).has b→∃j0 e0,g.at j0=some e0∧e0.live=true∧(ν j0).has b∧(j≠g.new→j0=j)∧(j=g.new→j0=k):=by intro j e1 h1 h2 b hb1;by_cases hj:j=g.new;subst hj;exact⟨k,_,hk,rfl,sub1 b hb1,fun h=>absurd rfl h,fun _=>rfl⟩;by_cases na:j=k;subst na;exact⟨j,_,hk,rfl,sub2 b hb1,fun _=>rfl,fun h=>absurd h hj⟩;rw[mf,if_neg hj,if_neg na] at h1;rw[hνo j hj na] at hb1;exact⟨j,e1,h1,h2,hb1,fun _=>rfl,fun h=>absurd h hj⟩
 have jG:∀b,Own ν' g'.at b→Own ν g.at b:=by rintro b ⟨j,e1,h1,h2,h3⟩;obtain⟨j0,e0,k1,k2,k3,_⟩:=back j e1 h1 h2 b h3;exact⟨j0,e0,k1,k2,k3⟩
 have hw:∀b,dg X ν g.at b→b<w.heap.size→dg X ν' g'.at b∧w.heap[b]?=w.heap[b]?:=fun b hb _=>⟨⟨fun ho=>hb.1 (jG b ho),hb.2⟩,rfl⟩
 refine hs.upd (g':=g') (ν':=ν') (fun _=>False) (uO.refl _ w) (fun _ hb=>hb.elim) hm ?_ ?_ ?_ ?_ ?_ ?_ rfl
 ·intro j e1 hj
  rw[mf] at hj
  by_cases hjn:j=g.new
  ·rw[if_pos hjn] at hj
   obtain rfl:=Option.some.inj hj
   subst hjn
   refine .inr ⟨?_,?_⟩
   ·rw[hνn]
    exact mS.frame hw (aH _) hm _ _ _ hv0 fun _ _=>rfl
   ·rw[hνn];exact n2
  ·rw[if_neg hjn] at hj
   by_cases na:j=k
   ·rw[if_pos na] at hj
    obtain rfl:=Option.some.inj hj
    subst na
    refine .inr (D0 (us:=us) ?_ hul ?_ (by simpa using hB) ?_)
    ·rw[hνk];simpa using ho
    ·rw[hνk]
     have:=hz _ ν' g'.at hw hm (.ref g.new) [] (by simp only[mS,and_true];exact⟨by rw[mf,if_pos rfl];rfl,by rw[hνn]⟩)
     simpa using this
    ·rw[hνk];exact n1
   ·rw[if_neg na] at hj
    exact .inl ⟨hj,hνo j hjn na,fun _ _ _ hb=>hb⟩
 ·intro j e1 b h1 h2 h3
  exact .inl (jG b ⟨j,e1,h1,h2,h3⟩)
 ·intro j j' e1 e2 b h1 h2 h3 h4 h5 h6
  obtain⟨j0,e0,k1,k2,k3,k4,k5⟩:=back j e1 h1 h3 b h5
  obtain⟨j1,e3,l1,l2,l3,l4,l5⟩:=back j' e2 h2 h4 b h6
  have hjj:=hs.inj j0 j1 e0 e3 b k1 l1 k2 l2 k3 l3
  by_cases hj:j=g.new
  ·by_cases hj':j'=g.new
   ·rw[hj,hj']
   ·have e1:=k5 hj
    have e2:=l4 hj'
    have e3:j'=k:=by rw[←e2,←hjj,e1]
    subst hj e3
    exact(n3 b ((hask b).1 h6) ((hasn b).1 h5)).elim
  ·by_cases hj':j'=g.new
   ·have e1:=k4 hj
    have e2:=l5 hj'
    have e3:j=k:=by rw[←e1,hjj,e2]
    subst hj' e3
    exact(n3 b ((hask b).1 h5) ((hasn b).1 h6)).elim
   ·rw[←k4 hj,←l4 hj',hjj]
 ·intro j hj
  rw[mf] at hj
  by_cases hjn:j=g.new
  ·right
   rw[hjn,hνn]
   exact row_one q1
  ·rw[if_neg hjn] at hj
   by_cases na:j=k
   ·exact .inl (by rw[na,hk];rfl)
   ·rw[if_neg na] at hj
    exact .inl hj
 ·rw[←hg'];exact hs.size
 ·intro t
  exact .inl ⟨by rw[←hg'],rfl⟩
theorem ajF(k i c j:Nat){e e':TypeId}{xs ys:List (List T)}(hk:g.at k=some (.e9 e xs))(hi:i<xs.length)(hc:(oJ xs i)[c]?=some (.ref j))(hj:g.at j=some (.e9 e' ys))(na:j≠k) :
 wQ P g ⟨g.sl,dv (dv g.st k (some (.e9 e (xs.set i ((oJ xs i).set c (.own e' ys)))))) j (some .dead)⟩:=by
 intro X ν a w hs
 obtain⟨us,ho,hul,k9,hB,hnd⟩:=zr hs hk
 obtain⟨v,A,Ft,B,hF,hv,hz⟩:=k9.zip i c hi hc
 simp only[mS] at hv
 obtain⟨hv1,rfl,rfl⟩:=hv
 obtain⟨hen,hndj⟩:=hs.en j _ hj
 simp only[bQ] at hF
 rw[hF] at hnd
 generalize hg':(⟨g.sl,dv (dv g.st k (some (.e9 e (xs.set i ((oJ xs i).set c (.own e' ys)))))) j (some .dead)⟩:G)=g'
 have mf:∀l,g'.at l=if l=j then some .dead else if l=k then some (.e9 e (xs.set i ((oJ xs i).set c (.own e' ys)))) else g.at l:=by intro l;rw[←hg'];show eJ (dv (dv g.st k _) j _) l=_;rw[il,il];rfl
 refine⟨fun l=>if l=k then⟨(ν k).v,A++((hb (ν j).v++(ν j).f)++B)⟩ else ν l,?_⟩
 generalize hν':(fun l=>if l=k then(⟨(ν k).v,A++((hb (ν j).v++(ν j).f)++B)⟩:Nm) else ν l)=ν'
 have hνk:ν' k=⟨(ν k).v,A++((hb (ν j).v++(ν j).f)++B)⟩:=by rw[←hν'];simp
 have hνo:∀l,l≠k→ν' l=ν l:=fun l h1=>by rw[←hν'];simp[h1]
 have hm:mZ g.at g'.at ν ν':=by intro l hl;refine⟨?_,?_⟩;by_cases h2:l=k;rw[h2,hνk];rw[hνo l h2];rw[mf];split;rfl;split;rfl;exact hl
 have hask:∀b,(ν' k).has b→(ν k).has b∨(ν j).has b:=fun b h=>by rw[hνk,rf] at h;rw[rf,rf,hF];simp only[aM] at h⊢;rcases h with h|h|(h|h)|h;exact .inl (.inl h);exact .inl (.inr (.inl h));exact .inr (.inl h);exact .inr (.inr h);exact .inl (.inr (.inr h))
 have back:∀l e1,g'.at l=some e1→e1.live=true→∀b,(ν' l).has b→(l=k∧((ν k).has b∨(ν j).has b))∨(l≠k∧l≠j∧g.at l=some e1∧(ν l).has b):=by intro l e1 h1 h2 b hb1;rw[mf] at h1;by_cases hlj:l=j;rw[if_pos hlj] at h1;obtain rfl:=Option.some.inj h1;cases h2;rw[if_neg hlj] at h1;by_cases hlk:l=k;subst hlk;exact .inl ⟨rfl,hask b hb1⟩;rw[if_neg hlk] at h1;rw[hνo l hlk] at hb1;exact .inr ⟨hlk,hlj,h1,hb1⟩
 have jG:∀b,Own ν' g'.at b→Own ν g.at b:=by rintro b ⟨l,e1,h1,h2,h3⟩;rcases back l e1 h1 h2 b h3 with⟨_,h|h⟩|⟨_,_,h4,h5⟩;exact⟨k,_,hk,rfl,h⟩;exact⟨j,_,hj,rfl,h⟩;exact⟨l,e1,h4,h2,h5⟩
 have hw:∀b,dg X ν g.at b→b<w.heap.size→dg X ν' g'.at b∧w.heap[b]?=w.heap[b]?:=fun b hb _=>⟨⟨fun ho=>hb.1 (jG b ho),hb.2⟩,rfl⟩
 refine hs.upd (g':=g') (ν':=ν') (fun _=>False) (uO.refl _ w) (fun _ hb=>hb.elim) hm ?_ ?_ ?_ ?_ ?_ ?_ rfl
 ·intro l e1 hl
  rw[mf] at hl
  by_cases hlj:l=j
  ·rw[if_pos hlj] at hl
   obtain rfl:=Option.some.inj hl
   exact .inr trivial
  ·rw[if_neg hlj] at hl
   by_cases hlk:l=k
   ·rw[if_pos hlk] at hl
    obtain rfl:=Option.some.inj hl
    subst hlk
    refine .inr (D0 (us:=us) ?_ hul ?_ (by simpa using hB) ?_)
    ·rw[hνk];simpa using ho
    ·rw[hνk]
     exact hz _ ν' g'.at hw hm (.own e' ys) _ (mS.frame hw (aH _) hm _ _ _ hen fun _ _=>rfl)
    ·rw[hνk]
     refine XT hnd hndj fun b h1 h2=>?_
     refine na (hs.inj j l _ _ b hj hk rfl rfl (rf.2 h2) (rf.2 ?_))
     rw[hF];exact h1
   ·rw[if_neg hlk] at hl
    exact .inl ⟨hl,hνo l hlk,fun _ _ _ hb=>hb⟩
 ·intro l e1 b h1 h2 h3
  exact .inl (jG b ⟨l,e1,h1,h2,h3⟩)
 ·intro l l' e1 e2 b h1 h2 h3 h4 h5 h6
  rcases back l e1 h1 h3 b h5 with⟨rfl,p1⟩|⟨p1,p2,p3,p4⟩
  ·rcases back l' e2 h2 h4 b h6 with⟨rfl,q1⟩|⟨q1,q2,q3,q4⟩
   ·rfl
   ·rcases p1 with p1|p1
    ·exact hs.inj l l' _ e2 b hk q3 rfl h4 p1 q4
    ·exact(q2 (hs.inj l' j e2 _ b q3 hj h4 rfl q4 p1)).elim
  ·rcases back l' e2 h2 h4 b h6 with⟨rfl,q1⟩|⟨q1,q2,q3,q4⟩
   ·rcases q1 with q1|q1
    ·exact hs.inj l l' e1 _ b p3 hk h3 rfl p4 q1
    ·exact(p2 (hs.inj l j e1 _ b p3 hj h3 rfl p4 q1)).elim
   ·exact hs.inj l l' e1 e2 b p3 q3 h3 h4 p4 q4
 ·intro l hl
  rw[mf] at hl
  by_cases hlj:l=j
  ·exact .inl (by rw[hlj,hj];rfl)
  ·rw[if_neg hlj] at hl
   by_cases hlk:l=k
   ·exact .inl (by rw[hlk,hk];rfl)
   ·rw[if_neg hlk] at hl
    exact .inl hl
 ·rw[←hg'];exact hs.size
 ·intro t
  exact .inl ⟨by rw[←hg'],rfl⟩
theorem wQ.refl(g:G):wQ P g g:=fun _ ν _ _ h=>⟨ν,h⟩
theorem wQ.wF{n0:Nat}{g g':G}(h:wQ P g g'):pG P n0 g g':=fun X ν a w _ hs=>h X ν a w hs
theorem ajG(j:Nat){e:TypeId}{xs:List (List D)}(hj:g.at j=some (.aW e xs)):wQ P g ⟨g.sl,dv g.st j (some (.e9 e (lift xs)))⟩:=fun _ ν _ _ h=>⟨ν,h.lift hj⟩
theorem GO:∀{l:List (Option En)}{k:Nat}{e:En},eJ l k=some e→dv l k (some e)=l
 | [],k,e,h=>by cases k<;>simp[eJ] at h
 | _::_,0,_,h=>by simp only[eJ] at h;simp[dv,h]
 | a::l,k+1,e,h=>by simp only[eJ] at h;simp[dv,GO h]
theorem xm:∀{l:List (Option En)}{k:Nat}(x:Option En),k<l.length→(dv l k x).length=l.length
 | [],k,_,h=>by simp at h
 | _::_,0,_,_=>rfl
 | a::l,k+1,x,h=>by simp[dv,xm x (by simpa using h)]
theorem TS:∀(l:List (Option En))(x:Option En),dv l l.length x=l++[x]
 | [],_=>rfl
 | a::l,x=>by simp[dv,TS l x]
theorem Mz:∀{l m:List (Option En)}{k:Nat}(x:Option En),k<l.length→dv (l++m) k x=dv l k x++m
 | [],_,k,_,h=>by simp at h
 | _::_,_,0,_,_=>rfl
 | a::l,m,k+1,x,h=>by simp[dv,Mz x (by simpa using h)]
theorem BW:∀(l:List (Option En))(j k:Nat)(x y:Option En),j≠k→dv (dv l j x) k y=dv (dv l k y) j x
 | [],0,0,_,_,h=>absurd rfl h
 | [],0,k+1,_,_,_=>rfl
 | [],j+1,0,_,_,_=>rfl
 | [],j+1,k+1,x,y,h=>by simp[dv,BW [] j k x y oM]
 | _::_,0,0,_,_,h=>absurd rfl h
 | _::_,0,k+1,_,_,_=>rfl
 | _::_,j+1,0,_,_,_=>rfl
 | a::l,j+1,k+1,x,y,h=>by simp[dv,BW l j k x y oM]
def tc:Nat→List T→List T
 | _,[]=>[]
 | n,.own _ _::ts=>.ref n::tc (n+1) ts
 | n,.eK d::ts=>.eK d::tc n ts
 | n,.ref j::ts=>.ref j::tc n ts
def NL:List T→List (Option En)
 | []=>[]
 | .own e xs::ts=>some (.e9 e xs)::NL ts
 | .eK _::ts=>NL ts
 | .ref _::ts=>NL ts
def apE:List (Option En)→List (Option En)→List (Option En)
 | [],m=>m
 | a::l,m=>a::apE l m
theorem Q3:∀(l m:List (Option En)),apE l m=l++m
 | [],_=>rfl
 | a::l,m=>by simp[apE,Q3 l m]
theorem D8{α:Type}(pre:List α)(a b:α)(r:List α):(pre++a::r).set pre.length b=pre++b::r:=by rw[List.set_append_right _ _ (aH _),Nat.sub_self,gv]
theorem y0{k i:Nat}{e:TypeId}:∀(rest pre:List T)(g:G)(xs:List (List T)),g.at k=some (.e9 e xs)→i<xs.length→oJ xs i=pre++rest →
 wQ P g ⟨g.sl,apE (dv g.st k (some (.e9 e (xs.set i (pre++tc g.new rest))))) (NL rest)⟩
 | [],pre,g,xs,hk,hi,hr=>by have e1:xs.set i pre=xs:=(by rw[bV] at hr;rw[←hr];refine oG fun j=>?_;rw[mG];by_cases hj:i=j;subst hj;rw[if_pos rfl,if_pos hi,acM hi];rw[if_neg hj]);simp only[tc,NL,bV,Q3,e1];rw[GO hk];exact wQ.refl g
 | .eK d::ts,pre,g,xs,hk,hi,hr=>by have:=y0 ts (pre++[.eK d]) g xs hk hi (by simpa using hr);simpa[tc,NL] using this
 | .ref d::ts,pre,g,xs,hk,hi,hr=>by have:=y0 ts (pre++[.ref d]) g xs hk hi (by simpa using hr);simpa[tc,NL] using this
 | .own e' ys::ts,pre,g,xs,hk,hi,hr=>by have hkl:k<g.st.length:=qy (by rw[show eJ g.st k=_ from hk];rfl);have hn:g.new=g.st.length:=qk g.st;have h1:=aiC (P:=P) k i pre.length hk hi (e':=e') (ys:=ys) (by rw[hr];simp);have e1:(oJ xs i).set pre.length (.ref g.new)=pre++ .ref g.new::ts:=(by rw[hr];exact D8 _ _ _ _);rw[e1] at h1;have e2:dv (dv g.st k (some (.e9 e (xs.set i (pre++ .ref g.new::ts))))) g.new (some (.e9 e' ys))=dv g.st k (some (.e9 e (xs.set i (pre++ .ref g.new::ts))))++[some (.e9 e' ys)]:=(by generalize some (En.e9 e (xs.set i (pre++ .ref g.new::ts)))=z;rw[hn,←xm z hkl,TS]);rw[e2] at h1;refine h1.trans ?_;have hk1:(⟨g.sl,dv g.st k (some (.e9 e (xs.set i (pre++ .ref g.new::ts))))++[some (.e9 e' ys)]⟩:G).at k=some (.e9 e (xs.set i (pre++ .ref g.new::ts))):=(by show eJ _ k=_;rw[←Mz _ hkl,il,if_pos rfl]);have hr1:oJ (xs.set i (pre++ .ref g.new::ts)) i=pre++ .ref g.new::ts:=(by simp[oJ,b9,hi]);have:=y0 ts (pre++[.ref g.new]) ⟨g.sl,dv g.st k (some (.e9 e (xs.set i (pre++ .ref g.new::ts))))++[some (.e9 e' ys)]⟩ _ hk1 (by simpa using hi) (by rw[hr1];simp);have hn2:(⟨g.sl,dv g.st k (some (.e9 e (xs.set i (pre++ .ref g.new::ts))))++[some (.e9 e' ys)]⟩:G).new=g.new+1:=(by rw[G.new,qk,hn];simp[xm _ hkl]);rw[hn2] at this;simp only[Q3,List.set_set] at this;rw[Mz _ (by rw[xm _ hkl];exact hkl),nD] at this;simpa[tc,NL,Q3] using this
theorem Gm(k i:Nat){e:TypeId}{xs:List (List T)}(row:List T)(hk:g.at k=some (.e9 e xs))(hi:i<xs.length)(hr:oJ xs i=row) :
 wQ P g ⟨g.sl,apE (dv g.st k (some (.e9 e (xs.set i (tc g.new row))))) (NL row)⟩:=by
 have:=y0 (P:=P) (k:=k) (i:=i) row [] g xs hk hi (by simpa using hr)
 simpa using this
def gX(k:Nat):List (Option En)→List T→List T
 | _,[]=>[]
 | st,.ref j::ts=>match K6 j k,eJ st j with
   | false,some (.e9 e ys)=>.own e ys::gX k (dv st j (some .dead)) ts
   | false,some (.aW e ys)=>.own e (lift ys)::gX k (dv st j (some .dead)) ts
   | _,_=>.ref j::gX k st ts
 | st,.eK d::ts=>.eK d::gX k st ts
 | st,.own e ys::ts=>.own e ys::gX k st ts
def rQ(k:Nat):List (Option En)→List T→List (Option En)
 | st,[]=>st
 | st,.ref j::ts=>match K6 j k,eJ st j with
   | false,some (.e9 _ _)=>rQ k (dv st j (some .dead)) ts
   | false,some (.aW _ _)=>rQ k (dv st j (some .dead)) ts
   | _,_=>rQ k st ts
 | st,.eK _::ts=>rQ k st ts
 | st,.own _ _::ts=>rQ k st ts
theorem acZ{j k:Nat}(h:K6 j k=false):j≠k:=fun e=>by subst e;rw[KP] at h;cases h
theorem aaf{k:Nat}(x:Option En):∀(ts:List T)(st:List (Option En)),gX k (dv st k x) ts=gX k st ts∧rQ k (dv st k x) ts=dv (rQ k st ts) k x
 | [],st=>⟨rfl,rfl⟩
 | .eK d::ts,st=>by obtain⟨h1,h2⟩:=aaf (k:=k) x ts st;exact⟨by simp[gX,h1],by simp[rQ,h2]⟩
 | .own e ys::ts,st=>by obtain⟨h1,h2⟩:=aaf (k:=k) x ts st;exact⟨by simp[gX,h1],by simp[rQ,h2]⟩
 | .ref j::ts,st=>by
  simp only[gX,rQ];cases hj:K6 j k with
  | true=>obtain⟨h1,h2⟩:=aaf (k:=k) x ts st;exact⟨by simp[h1],by simp[h2]⟩
  | false=>
   have nI:=acZ hj;rw[il,if_neg nI];obtain⟨h1,h2⟩:=aaf (k:=k) x ts st;obtain⟨h3,h4⟩:=aaf (k:=k) x ts (dv st j (some .dead));rw[BW st j k _ _ nI] at h3 h4;cases eJ st j with
   | none=>exact⟨by simp[h1],by simp[h2]⟩
   | some en=>cases en with
     | box cs=>exact⟨by simp[h1],by simp[h2]⟩
     | dead=>exact⟨by simp[h1],by simp[h2]⟩
     | map wC=>exact⟨by simp[h1],by simp[h2]⟩
     | aW e ys=>exact⟨by simp[h3],by simp[h4]⟩
     | e9 e ys=>exact⟨by simp[h3],by simp[h4]⟩
theorem yj{k i:Nat}{e:TypeId}:∀(rest pre:List T)(g:G)(xs:List (List T)),g.at k=some (.e9 e xs)→i<xs.length→oJ xs i=pre++rest →
 wQ P g ⟨g.sl,dv (rQ k g.st rest) k (some (.e9 e (xs.set i (pre++gX k g.st rest))))⟩
 | [],pre,g,xs,hk,hi,hr=>by have e1:xs.set i pre=xs:=(by rw[bV] at hr;rw[←hr];refine oG fun j=>?_;rw[mG];by_cases hj:i=j;subst hj;rw[if_pos rfl,if_pos hi,acM hi];rw[if_neg hj]);simp only[gX,rQ,bV,e1];rw[GO hk];exact wQ.refl g
 | .eK d::ts,pre,g,xs,hk,hi,hr=>by have:=yj ts (pre++[.eK d]) g xs hk hi (by simpa using hr);simpa[gX,rQ] using this
 | .own e' ys::ts,pre,g,xs,hk,hi,hr=>by have:=yj ts (pre++[.own e' ys]) g xs hk hi (by simpa using hr);simpa[gX,rQ] using this
 | .ref j::ts,pre,g,xs,hk,hi,hr=>by
  have stay:(gX k g.st (.ref j::ts)= .ref j::gX k g.st ts)→(rQ k g.st (.ref j::ts)=rQ k g.st ts)→wQ P g ⟨g.sl,dv (rQ k g.st (.ref j::ts)) k (some (.e9 e (xs.set i (pre++gX k g.st (.ref j::ts)))))⟩:=(by intro h1 h2;have:=yj ts (pre++[.ref j]) g xs hk hi (by simpa using hr);rw[h1,h2];simpa using this);have go:∀(e':TypeId)(ys:List (List T))(g0:G),wQ P g g0→g0.sl=g.sl→g0.at k=some (.e9 e xs)→g0.at j=some (.e9 e' ys)→j≠k→dv g0.st j (some .dead)=dv g.st j (some .dead) →
   wQ P g ⟨g.sl,dv (rQ k (dv g.st j (some .dead)) ts) k (some (.e9 e (xs.set i (pre++ .own e' ys::gX k (dv g.st j (some .dead)) ts))))⟩:=by
   intro e' ys g0 hw hsl hk0 hj0 nI gY
   refine hw.trans ?_
   have h1:=ajF (P:=P) k i pre.length j hk0 hi (by rw[hr];simp) hj0 nI
   have e1:(oJ xs i).set pre.length (.own e' ys)=pre++ .own e' ys::ts:=by rw[hr];exact D8 _ _ _ _
   rw[e1,←BW _ _ _ _ _ nI,gY,hsl] at h1
   refine h1.trans ?_
   have hk1:(⟨g.sl,dv (dv g.st j (some .dead)) k (some (.e9 e (xs.set i (pre++ .own e' ys::ts))))⟩:G).at k=some (.e9 e (xs.set i (pre++ .own e' ys::ts))):=by show eJ _ k=_;rw[il,if_pos rfl]
   have hr1:oJ (xs.set i (pre++ .own e' ys::ts)) i=pre++ .own e' ys::ts:=by simp[oJ,b9,hi]
   have:=yj ts (pre++[.own e' ys]) _ _ hk1 (by simpa using hi) (by rw[hr1];simp)
   obtain⟨q1,q2⟩:=aaf (k:=k) (some (.e9 e (xs.set i (pre++ .own e' ys::ts)))) ts (dv g.st j (some .dead))
   simp only[q1,q2,List.set_set,nD] at this
   simpa using this
  cases na:K6 j k with
  | true=>exact stay (by simp[gX,na]) (by simp[rQ,na])
  | false=>
   have nI:=acZ na;cases hen:eJ g.st j with
   | none=>exact stay (by simp[gX,na,hen]) (by simp[rQ,na,hen])
   | some en=>cases en with
     | box cs=>exact stay (by simp[gX,na,hen]) (by simp[rQ,na,hen])
     | dead=>exact stay (by simp[gX,na,hen]) (by simp[rQ,na,hen])
     | map wC=>exact stay (by simp[gX,na,hen]) (by simp[rQ,na,hen])
     | e9 e' ys=>have:=go e' ys g (wQ.refl g) rfl hk hen nI rfl;simpa[gX,rQ,na,hen] using this
     | aW e' ys=>have hk0:(⟨g.sl,dv g.st j (some (.e9 e' (lift ys)))⟩:G).at k=some (.e9 e xs):=(by show eJ _ k=_;rw[il,if_neg (Ne.symm nI)];exact hk);have hj0:(⟨g.sl,dv g.st j (some (.e9 e' (lift ys)))⟩:G).at j=some (.e9 e' (lift ys)):=(by show eJ _ j=_;rw[il,if_pos rfl]);have:=go e' (lift ys) ⟨g.sl,dv g.st j (some (.e9 e' (lift ys)))⟩ (ajG j hen) rfl hk0 hj0 nI (nD _ _ _ _);simpa[gX,rQ,na,hen] using this
theorem nc(k i:Nat){e:TypeId}{xs:List (List T)}(row:List T)(hk:g.at k=some (.e9 e xs))(hi:i<xs.length)(hr:oJ xs i=row) :
 wQ P g ⟨g.sl,dv (rQ k g.st row) k (some (.e9 e (xs.set i (gX k g.st row))))⟩:=by
 have:=yj (P:=P) (k:=k) (i:=i) row [] g xs hk hi (by simpa using hr)
 simpa using this
end
def apN:List Nat→List Nat→List Nat
 | [],m=>m
 | a::l,m=>a::apN l m
theorem adY:∀(l m:List Nat),apN l m=l++m
 | [],_=>rfl
 | a::l,m=>by simp[apN,adY l m]
def sdD:D→Bool
 | .val _=>true
 | .str _=>true
 | .eP _=>false
def aev:List D→Bool
 | []=>true
 | d::ds=>sdD d&&aev ds
def Lq:List (List D)→Bool
 | []=>true
 | x::xs=>aev x&&Lq xs
mutual
def T.sd:T→Bool
 | .eK d=>sdD d
 | .ref _=>true
 | .own _ xs=>Ad xs
def sdT:List T→Bool
 | []=>true
 | t::ts=>t.sd&&sdT ts
def Ad:List (List T)→Bool
 | []=>true
 | x::xs=>sdT x&&Ad xs
end
mutual
def PV.sd:PV→Bool
 | .any=>true
 | .undef=>true
 | .bE=>true
 | .d x=>sdD x
 | .agg cs=>sds cs
 | .ko cs=>sds cs
 | .bK _ _=>true
 | .aW _=>true
 | .iT _ _ _ _=>true
 | .gQ _ _ _=>false
 | .fn _ cs=>sds cs
def sds:List PV→Bool
 | []=>true
 | p::ps=>p.sd&&sds ps
end
def En.sd:En→Bool
 | .box cs=>sds cs
 | .aW _ xs=>Lq xs
 | .e9 _ xs=>Ad xs
 | .map _=>true
 | .dead=>true
def Nz:List (Option En)→Bool
 | []=>true
 | none::es=>Nz es
 | some e::es=>e.sd&&Nz es
section
variable{P:Program}{w:World}{ok ok':Nat→Prop}{ν:Nat→Nm}{st:Nat→Option En}
theorem jn.sd{d:D}{v:Value}(h:sdD d=true)(hr:jn w ok d v):jn w ok' d v:=by
 cases hr with
 | val v h'=>exact .val v h'
 | str l h'=>exact .str l h'
 | nil=>cases h
 | emp a c h'=>cases h
 | eP=>cases h
mutual
theorem mS.sd:∀(t:T)(v:Value)(F:List Nat),t.sd=true→mS P w ok ν st t v F→mS P w ok' ν st t v F
 | .eK d,v,F,hs,h=>by simp only[mS] at h⊢;simp only[T.sd] at hs;exact⟨h.1.sd hs,h.2⟩
 | .ref j,v,F,hs,h=>by simpa only[mS] using h
 | .own e xs,v,F,hs,h=>by simp only[T.sd] at hs;simp only[mS] at h⊢;obtain⟨us,F1,h1,h2,h3,h4,h5⟩:=h;exact⟨us,F1,h1,h2,bN.sd xs us F1 hs h3,h4,h5⟩
theorem bo.sd:∀(ts:List T)(vs:List Value)(F:List Nat),sdT ts=true→bo P w ok ν st ts vs F→bo P w ok' ν st ts vs F
 | [],[],F,_,h=>by simpa only[bo] using h
 | [],_::_,F,_,h=>by simp[bo] at h
 | _::_,[],F,_,h=>by simp[bo] at h
 | t::ts,v::vs,F,hs,h=>by simp only[sdT,ab] at hs;simp only[bo] at h⊢;obtain⟨F1,F2,h1,h2,h3⟩:=h;exact⟨F1,F2,mS.sd t v F1 hs.1 h1,bo.sd ts vs F2 hs.2 h2,h3⟩
theorem bN.sd:∀(xs:List (List T))(us:List (List Value))(F:List Nat),Ad xs=true→bN P w ok ν st xs us F→bN P w ok' ν st xs us F
 | [],[],F,_,h=>by simpa only[bN] using h
 | [],_::_,F,_,h=>by simp[bN] at h
 | _::_,[],F,_,h=>by simp[bN] at h
 | x::xs,u::us,F,hs,h=>by simp only[Ad,ab] at hs;simp only[bN] at h⊢;obtain⟨F1,F2,h1,h2,h3⟩:=h;exact⟨F1,F2,bo.sd x u F1 hs.1 h1,bN.sd xs us F2 hs.2 h2,h3⟩
end
mutual
theorem aF.sd:∀(p:PV)(v:Value),p.sd=true→aF w ok ν st p v→aF w ok' ν st p v
 | .any,_,_,_=>by simp only[aF]
 | .undef,_,_,h=>by simpa only[aF] using h
 | .bE,_,_,h=>by simpa only[aF] using h
 | .d x,v,hs,h=>by simp only[aF] at h⊢;exact h.sd hs
 | .agg cs,v,hs,h=>by simp only[aF] at h⊢;obtain⟨vs,e,h⟩:=h;exact⟨vs,e,aB.sd cs vs (by simpa only[PV.sd] using hs) h⟩
 | .ko cs,v,hs,h=>by simp only[aF] at h⊢;obtain⟨vs,e,h⟩:=h;exact⟨vs,e,aB.sd cs vs (by simpa only[PV.sd] using hs) h⟩
 | .bK _ _,_,_,h=>by simpa only[aF] using h
 | .aW _,_,_,h=>by simpa only[aF] using h
 | .iT _ _ _ _,_,_,h=>by simpa only[aF] using h
 | .gQ _ _ _,_,hs,_=>by simp[PV.sd] at hs
 | .fn f cs,v,hs,h=>by simp only[aF] at h⊢;obtain⟨vs,e,h⟩:=h;exact⟨vs,e,aB.sd cs vs (by simpa only[PV.sd] using hs) h⟩
theorem aB.sd:∀(ps:List PV)(vs:List Value),sds ps=true→aB w ok ν st ps vs→aB w ok' ν st ps vs
 | [],[],_,_=>by simp[aB]
 | [],_::_,_,h=>by simp[aB] at h
 | _::_,[],_,h=>by simp[aB] at h
 | p::ps,v::vs,hs,h=>by simp only[sds,ab] at hs;simp only[aB] at h⊢;exact⟨aF.sd p v hs.1 h.1,aB.sd ps vs hs.2 h.2⟩
end
theorem agb:∀{xs:List (List D)},Lq xs=true→∀(i j:Nat)(x:List D)(d:D),xs[i]?=some x→x[j]?=some d→sdD d=true:=by
 have h1:∀{x:List D},aev x=true→∀(j:Nat)(d:D),x[j]?=some d→sdD d=true:=by
  intro x;induction x with
  | nil=>intro _ j d h;simp at h
  | cons e x ih=>
   intro h j d hd;simp only[aev,ab] at h;cases j with
   | zero=>obtain rfl:e=d:=by simpa using hd
           exact h.1
   | succ j=>exact ih h.2 j d (by simpa using hd)
 intro xs;induction xs with
 | nil=>intro _ i j x d h;simp at h
 | cons y xs ih=>
  intro h i j x d hx hd;simp only[Lq,ab] at h;cases i with
  | zero=>obtain rfl:y=x:=by simpa using hx
          exact h1 h.1 j d hd
  | succ i=>exact ih h.2 i j x d (by simpa using hx) hd
theorem nx.sd{k:Nat}{e:En}(hs:e.sd=true)(h:nx P w ok ν st k e):nx P w ok' ν st k e:=by
 cases e with
 | dead=>trivial
 | box cs=>obtain⟨b,vs,T,h1,h2,h3,h4⟩:=h;exact⟨b,vs,T,h1,h2,aB.sd cs vs (by simpa only[En.sd] using hs) h3,h4⟩
 | aW e xs=>obtain⟨us,h1,h2,h3,h4⟩:=h;exact⟨us,h1,⟨h2.len,h2.hx,h2.hu,fun i j x u d v k1 k2 k3 k4=>(h2.hr i j x u d v k1 k2 k3 k4).sd (agb (by simpa only[En.sd] using hs) i j x d k1 k3)⟩,h3,h4⟩
 | e9 e xs=>exact⟨mS.sd (.own e xs) _ _ (by simpa only[T.sd,En.sd] using hs) h.1,h.2⟩
 | map wC=>exact h
theorem Rh:∀{es:List (Option En)},Nz es=true→∀(i:Nat)(e:En),eJ es i=some e→e.sd=true
 | [],_,i,e,h=>by cases i<;>simp[eJ] at h
 | none::es,hs,0,e,h=>by simp[eJ] at h
 | none::es,hs,i+1,e,h=>Rh (es:=es) (by simpa only[Nz] using hs) i e (by simpa[eJ] using h)
 | some a::es,hs,0,e,h=>by
  simp only[Nz,ab] at hs;obtain rfl:a=e:=by simpa[eJ] using h
  exact hs.1
 | some a::es,hs,i+1,e,h=>by simp only[Nz,ab] at hs;exact Rh hs.2 i e (by simpa[eJ] using h)
end
theorem abL{P:Program}{o:Oper}{g:G}{nZ:Operand}{xs:List Operand}{tys:Array TypeId}{d:Nat}(ho:o.op= .call ⟨.value nZ,⟨xs⟩,tys⟩)(hd:o.dst=some d){f:FuncId}{cap:List PV}(hfn:g.ev nZ= .fn f cap)
 (ks m:List Nat) (de:List PV) (res:PV) (st':List (Option En)) (hC:C P f de [] (gR res st')) (rO:qn g ks (xs.map g.ev++cap) de) (hsd:res.sd=true) (hse:Nz st'=true) (hm:m.Nodup) (hnew:kd g 0 m) (hml:st'.length≤m.length)
 (X:Cx) (ν:Nat→Nm) (a:Act) (w:World) (next:Act→World→Prop) (Q:Exit→Act→World→Prop) (hs:Sat P X ν g a w)
 (hn:∀ν' a' w',Sat P X ν' ⟨kM g.sl d (res.oh m),B9 g.st (mL m m st')⟩ a' w'→next a' w'):o.wp P a w next Q:=by
 have hfv:=hs.ev nZ
 rw[hfn] at hfv
 simp only[aF] at hfv
 obtain⟨vcap,hfv,jX⟩:=hfv
 have hxs:=FD hs xs
 let Xc:Cx:=⟨w,Own (fun i=>ν (look m i)) (eJ []),fun i=>ν (look m i),eJ [],X.Z⟩
 have hno:∀(ν:Nat→Nm) b,¬Own ν (eJ []) b:=by rintro ν b ⟨k,e,h,_⟩;cases k<;>simp[eJ] at h
 have hw:∀b,dg X ν g.at b→b<w.heap.size→dg Xc (fun i=>ν (look m i)) (eJ []) b∧w.heap[b]?=w.heap[b]?:=fun b hb _=>⟨⟨hno _ b,hb.2⟩,rfl⟩
 have jG:∀b,Own ν g.at b→dg Xc (fun i=>ν (look m i)) (eJ []) b:=fun b hb=>⟨hno _ b,hs.Sj hb⟩
 have l6:aB w (dg Xc (fun i=>ν (look m i)) (eJ [])) (fun i=>ν (look m i)) (eJ []) de (xs.map a.eval++vcap):=aB.vw hs hw jG _ rO (hxs.app jX)
 obtain⟨⟨fn,hfn1,hfn2,hfn3⟩,hC⟩:=hC
 have hr:(execOp a.eval o).run P w= .ok (.enter f ⟨xs.map a.eval++vcap⟩) w:=by
  have n1 : ¬ fn.name = "runtime.NumGoroutine" := by simpa using hfn3
  have n2:¬fn.body=none:=fun e=>by rw[e] at hfn2;cases hfn2
  simp[execOp,ho,resolve,hfv,Deferred.ofValue,invoke,callFunc,program,hfn1,n1,n2,Sem.run]
 have mf:∀k,(⟨de,[]⟩:G).at k=none:=fun k=>by cases k<;>rfl
 have hent:Sat P Xc (fun i=>ν (look m i)) ⟨de,[]⟩ ⟨⟨xs.map a.eval++vcap⟩,[]⟩ w:=by
  refine⟨by simpa using l6.length,fun t=>?_,fun k e h=>?_,fun k k' e e' b h=>?_,fun b hb=>?_,fun k h=>?_,fun k h=>?_,⟨fun b hb=>?_,hs.kt rfl fun b hb=>(hno _ b hb).elim⟩,uO.refl _ w,rfl⟩;have key:∀(ps:List PV)(us:List Value)(t:Nat),aB w (dg Xc (fun i=>ν (look m i)) (eJ [])) (fun i=>ν (look m i)) (eJ []) ps us→aF w (dg Xc (fun i=>ν (look m i)) (eJ [])) (fun i=>ν (look m i)) (eJ []) (nth ps t) (us.getD t Go.undef):=by
   intro ps;induction ps with
   | nil=>intro us t _;cases t<;>simp[nth,aF]
   | cons p ps ih=>
    intro us t hr;cases us with
    | nil=>simp[aB] at hr
    | cons u us=>
     simp only[aB] at hr;cases t with
     | zero=>simpa[nth] using hr.1
     | succ t=>simpa[nth] using ih us t hr.2
  have:=key de _ t l6;show aF w (dg Xc (fun i=>ν (look m i)) (eJ [])) (fun i=>ν (look m i)) (eJ []) (nth de t) ((⟨xs.map a.eval++vcap⟩:Array Value).getD t Go.undef);simpa[Array.getD_eq_getD_getElem?] using this;rw[mf] at h;cases h;rw[mf] at h;cases h;exact(hno _ b hb).elim;rw[mf] at h;cases h;exact⟨rfl,h⟩;exact⟨Nat.lt_of_lt_of_le (hs.J1 b hb).1 hs.C4.size,hno _ b⟩
 unfold Oper.wp
 rw[hr,Oper.upon_enter]
 refine(hC Xc (xs.map a.eval++vcap) rfl rfl hent).mono ?_
 rintro e w' ⟨v,res',st2,ν',rfl,⟨rfl,rfl⟩,jS⟩
 let Xd:Cx:=⟨w,Own (fun i=>ν (look m i)) (eJ []),fun i=>ν (look m i),eJ [],fun b=>X.Z b∨(Own ν g.at b∧¬Own (fun i=>ν (look m i)) (eJ []) b)⟩
 have hsat2:Xj P Xd ν' res' st2 v w':=by
  refine⟨jS.size,fun t=>?_,fun k e h=>nx.sd (Rh hse k e h) (jS.en k e h),jS.inj,jS.base,jS.nu,jS.par,⟨fun b hb=>?_,jS.J1.k⟩,jS.C4,jS.defs⟩;have hx:(nth [res'] t).sd=true:=by
   cases t with
   | zero=>exact hsd
   | succ t=>cases t<;>rfl
  exact aF.sd _ _ hx (jS.sl t);rcases hb with hb|hb;exact jS.J1 b hb;exact⟨hs.lt hb.1,hno _ b⟩
 obtain⟨ν'',hs'⟩:=hs.leave m [] st2 hm hml (Nat.zero_le _) (fun i hi=>by simp at hi) (fun i hi hi'=>hnew.at i hi oM) Xd rfl (fun _ _=>rfl) rfl rfl rfl hsat2 d
 show next (a.put o.dst v) w'
 rw[hd]
 exact hn ν'' _ _ hs'
section
variable{E:Env}{g:G}{d:Nat}{ty:TypeId}{pos:String}{fI:Array Edge}{gd:Option (Nat×Bool)}
theorem ad9(nZ:Operand)(xs:List Operand)(tys:Array TypeId)(f:FuncId)(cap:List PV)(hfn:g.ev nZ= .fn f cap)(ks M:List Nat)(de:List PV)(res:PV)(st':List (Option En))(hC:C E.P f de [] (gR res st'))
 (rO:qn g ks (xs.map g.ev++cap) de) (hsd:res.sd=true) (hse:Nz st'=true) (hm:M.Nodup) (hnew:kd g 0 M) (hml:st'.length≤M.length) :
 mQ E.P ⟨some d,.call ⟨.value nZ,⟨xs⟩,tys⟩,ty,pos,fI,gd⟩ g ⟨eu nZ++xs.flatMap eu,ks++M⟩ ⟨some (d,res.oh M),mL M M st'⟩:=by
 intro g2 hg
 have e1:=hg.ev (x:=nZ) (fun t h=>by simp[h])
 have e2:=ym hg xs (fun t h=>by simp only[aM];exact .inr h)
 have hfr:∀(ks':List Nat)(n:Nat),(∀k∈ks',k∈M)→kd g n ks'→kd g2 n ks':=by
  intro ks';induction ks' with
  | nil=>intro n _ _;cases n<;>trivial
  | cons k ks' ih=>
   intro n hk h;cases n with
   | zero=>simp only[kd] at h⊢;exact⟨by rw[hg.p k (by simp[hk k (by simp)])];exact h.1,ih 0 (fun k h=>hk k (by simp[h])) h.2⟩
   | succ n=>simp only[kd] at h⊢;exact ih n (fun k h=>hk k (by simp[h])) h
 intro X ν a w next Q hs hn
 exact abL rfl rfl (by rw[e1,hfn]) ks M de res st' hC (by rw[e2];exact rO.agree (fun k hk=>hg.p k (by simp[hk]))) hsd hse hm (hfr M 0 (fun _ h=>h) hnew) hml X ν a w next Q hs hn
theorem Co{m:Option (List Ky)}{gs:Option Nat}{rest:sH→Option (List Ky)→G→Prop}{nZ:Operand}{xs:List Operand}{tys:Array TypeId}{f:FuncId}(cap:List PV)(ks M:List Nat){de:List PV}{res:PV}{st':List (Option En)}
 (hC:C E.P f de [] (gR res st')) (h1:g.ev nZ= .fn f cap) (h2:qn g ks (U1 g xs++cap) de) (h3:res.sd=true∧Nz st'=true∧RT M=true∧Ae (mj st') (Hg M)=true∧kd g 0 M)
 (hr:rest .on (n9 m (pZ (wD gs ⟨eu nZ++CQ xs,apN ks M⟩) ⟨some (d,res.oh M),mL M M st'⟩)) (g.app ⟨some (d,res.oh M),mL M M st'⟩)):tm E m gs ⟨some d,.call ⟨.value nZ,⟨xs⟩,tys⟩,ty,pos,fI,gd⟩ g rest:=by
 rw[Cp,adY] at hr
 rw[HV] at h2
 obtain⟨k1,k2,k3,k4,k5⟩:=h3
 have k4:=nv k4
 rw[qk,JW] at k4
 exact hY (ad9 nZ xs tys f cap h1 ks M de res st' hC h2 k1 k2 (QL k3) k5 k4) hr
end
section
variable{E:Env}{n0:Nat}{g:G}{c:Code}{Q:Ex→G→Prop}
theorem aaL{A:Type}(I:A→Prop)(T:A→G)(μ:A→Nat)(a0:A)(hi:I a0)(h0:pG E.P n0 g (T a0))
 (round:∀a,I a→W E.P n0 c (T a) (tW E.P n0 I T μ a Q)):W E.P n0 (.loop c) g Q:=by
 refine aa7 (α:={a // I a}) (fun x=>T x.1) (fun x=>μ x.1) ⟨a0,hi⟩ h0 ?_
 rintro⟨a,ha⟩
 have h:=round a ha
 have e:(tW E.P n0 I T μ a Q)=(Pn E.P n0 (fun x:{a // I a}=>T x.1) (fun x=>μ x.1) ⟨a,ha⟩ Q):=by
  funext e g';cases e with
  | normal=>simp only[tW,Pn];apply propext;exact⟨fun⟨a',h1,h2,h3⟩=>⟨⟨a',h1⟩,h2,h3⟩,fun⟨⟨a',h1⟩,h2,h3⟩=>⟨a',h1,h2,h3⟩⟩
  | exit id=>rfl
  | ret=>rfl
 rw[←e]
 exact h
theorem pQ{P:Program}{g':G}(k i:Nat){e:TypeId}{xs:List (List T)}(row:List T)(hk:g.at k=some (.e9 e xs))(hi:i<xs.length)(hr:oJ xs i=row)
 (h:pG P n0 ⟨g.sl,dv (rQ k g.st row) k (some (.e9 e (xs.set i (gX k g.st row))))⟩ g'):pG P n0 g g':=pG.trans (wQ.wF (nc k i row hk hi hr)) h
end
theorem Kc{xs:List (List T)}{i:Nat}{r:List T}(h:i<xs.length):oJ (xs.set i r) i=r:=by simp[oJ,b9,h]
theorem YP(xs:List (List T))(r:List T):oJ (xs++[r]) xs.length=r:=by simp[oJ,b9]
theorem ll{xs:List (List T)}{r:List T}{n:Nat}(h:xs.length=n):oJ (xs++[r]) n=r:=by subst h;exact YP xs r
theorem je{xs:List (List T)}{r r':List T}{n:Nat}(h:xs.length=n):(xs++[r]).set n r'=xs++[r']:=by subst h;exact D8 xs r r' []
attribute [go_sem] sdD aev Lq T.sd sdT Ad PV.sd sds En.sd Nz apN tc NL apE gX rQ List.set_set YP List.length_set
section
variable{P:Program}{w:World}{ok:Nat→Prop}{ν:Nat→Nm}{st:Nat→Option En}
theorem bN.split:∀(n:Nat){x:List (List T)}{u:List (List Value)}{F:List Nat},bN P w ok ν st x u F→∃F1 F2,bN P w ok ν st (x.take n) (u.take n) F1∧F=F1++F2
 | 0,x,u,F,h=>⟨[],F,by simp[bN],rfl⟩
 | n+1,[],[],F,h=>⟨[],F,by simp[bN],rfl⟩
 | _+1,[],_::_,_,h=>by simp[bN] at h
 | _+1,_::_,[],_,h=>by simp[bN] at h
 | n+1,t::ts,a::u,F,h=>by simp only[bN] at h;obtain⟨F1,F2,h1,h2,rfl⟩:=h;obtain⟨G1,G2,k1,rfl⟩:=bN.split n h2;refine⟨F1++G1,G2,?_,by rw[bm]⟩;simp only[List.take_succ_cons,bN];exact⟨F1,G1,h1,k1,rfl⟩
end
section
variable{E:Env}{g:G}{d:Nat}{ty:TypeId}{pos:String}{fI:Array Edge}{gd:Option (Nat×Bool)}
end
def HH(P:Program)(ops:Array Oper)(Q:Ex→G→Prop):Nat→Array Bool→G→Prop
 | 0,listed,g=>Region.ready .any ops listed=[]∧Q .normal g
 | f+1,listed,g=>(Region.ready .any ops listed=[]→Q .normal g)∧∀i∈Region.ready .any ops listed,∃o R δ,ops[i]?=some o∧D2 P ops o g R δ∧HH P ops Q f (listed.setIfInBounds i true) (g.app δ)
theorem HH.ok{P:Program}{ops:Array Oper}{Q:Ex→G→Prop}{X:Cx}:∀(f:Nat)(listed:Array Bool)(g:G)(ν:Nat→Nm)(a:Act)(w:World),HH P ops Q f listed g→Sat P X ν g a w→wpAny P .any ops (TZ P X Q) f listed a w
 | 0,_,g,ν,_,_,h,hs=>⟨h.1,g,ν,h.2,hs⟩
 | f+1,listed,g,ν,a,w,h,hs=>by refine⟨fun hr=>⟨g,ν,h.1 hr,hs⟩,fun i hi=>?_⟩;obtain⟨o,R,δ,ho,gY,hx⟩:=h.2 i hi;have:=gY g ⟨fun _ _=>rfl,fun _ _=>rfl⟩ X ν a w (wpAny P .any ops (TZ P X Q) f (listed.setIfInBounds i true)) (TZ P X Q) hs fun ν' a' w' hs'=>HH.ok f _ _ ν' a' w' hx hs';unfold wpOp;simp only[ho];by_cases hw:Region.wanted o (yielded ops a.tmps)=true;simp only[hw,if_true] at this⊢;exact .inl this;simp only[hw,if_false] at this⊢;exact this
theorem ahl{P:Program}{n0:Nat}{g:G}{Q:Ex→G→Prop}(hm:P.follows .mixedOrders=true){id:Nat}{ops:Array Oper}(h:HH P ops Q ops.size (Array.replicate ops.size false) g):W P n0 (.region id ops true) g Q:=by intro X ν a w hp hs;exact wp_region_any hm (HH.ok ops.size _ g ν a _ h (hs.drawn _))
section
variable{E:Env}{n0:Nat}{g:G}{Q:Ex→G→Prop}
theorem Wl(hm:E.P.follows .mixedOrders=true){id:Nat}{d e t ty0 ty1 ty2 ty3:Nat}{p0 p1 p2 p3:String}{a0 a1 a2 a3:Array Edge}{ti:TI}(ht:E.ti t=some ti)(hz:ti.zero=[.d (.val (.bool false))])(hn:ti.n=1)(hagg:ti.isAgg=false)
 (r0:Region.ready .any #[⟨some d,.alloc t,ty0,p0,a0,none⟩,⟨none,.store t (.tmp d) (.const (.bool true)),ty1,p1,a1,none⟩,⟨none,.store t (.tmp d) (.const (.bool false)),ty2,p2,a2,none⟩,⟨some e,.load t (.tmp d),ty3,p3,a3,none⟩] #[false,false,false,false]=[0])
 (r1:Region.ready .any #[⟨some d,.alloc t,ty0,p0,a0,none⟩,⟨none,.store t (.tmp d) (.const (.bool true)),ty1,p1,a1,none⟩,⟨none,.store t (.tmp d) (.const (.bool false)),ty2,p2,a2,none⟩,⟨some e,.load t (.tmp d),ty3,p3,a3,none⟩] #[true,false,false,false]=[1,2])
 (r2:Region.ready .any #[⟨some d,.alloc t,ty0,p0,a0,none⟩,⟨none,.store t (.tmp d) (.const (.bool true)),ty1,p1,a1,none⟩,⟨none,.store t (.tmp d) (.const (.bool false)),ty2,p2,a2,none⟩,⟨some e,.load t (.tmp d),ty3,p3,a3,none⟩] #[true,true,false,false]=[2])
 (r3:Region.ready .any #[⟨some d,.alloc t,ty0,p0,a0,none⟩,⟨none,.store t (.tmp d) (.const (.bool true)),ty1,p1,a1,none⟩,⟨none,.store t (.tmp d) (.const (.bool false)),ty2,p2,a2,none⟩,⟨some e,.load t (.tmp d),ty3,p3,a3,none⟩] #[true,false,true,false]=[1])
 (r4:Region.ready .any #[⟨some d,.alloc t,ty0,p0,a0,none⟩,⟨none,.store t (.tmp d) (.const (.bool true)),ty1,p1,a1,none⟩,⟨none,.store t (.tmp d) (.const (.bool false)),ty2,p2,a2,none⟩,⟨some e,.load t (.tmp d),ty3,p3,a3,none⟩] #[true,true,true,false]=[3])
 (r5:Region.ready .any #[⟨some d,.alloc t,ty0,p0,a0,none⟩,⟨none,.store t (.tmp d) (.const (.bool true)),ty1,p1,a1,none⟩,⟨none,.store t (.tmp d) (.const (.bool false)),ty2,p2,a2,none⟩,⟨some e,.load t (.tmp d),ty3,p3,a3,none⟩] #[true,true,true,true]=[])
 (hd:d<g.sl.length)
 (h:∀b:Bool,Q .normal ⟨kM (kM g.sl d (.bK g.new 0)) e (.d (.val (.bool b))),dv g.st g.new (some (.box [.d (.val (.bool b))]))⟩) :
 W E.P n0 (.region id #[⟨some d,.alloc t,ty0,p0,a0,none⟩,⟨none,.store t (.tmp d) (.const (.bool true)),ty1,p1,a1,none⟩,⟨none,.store t (.tmp d) (.const (.bool false)),ty2,p2,a2,none⟩,⟨some e,.load t (.tmp d),ty3,p3,a3,none⟩] true) g Q:=by
 have ev0:∀(sl:List PV)(st:List (Option En)),nth sl d= .bK g.new 0→(⟨sl,st⟩:G).ev (.tmp d)= .bK g.new 0:=fun sl st h=>h
 have hnth:nth (kM g.sl d (.bK g.new 0)) d= .bK g.new 0:=by rw[oj,if_pos ⟨rfl,hd⟩]
 have mf:∀(sl:List PV)(e:En),(⟨sl,dv g.st g.new (some e)⟩:G).at g.new=some e:=fun sl e=>by show eJ (dv g.st g.new (some e)) g.new=_;rw[il,if_pos rfl]
 have hsplc:∀b c:Bool,BL [PV.d (.val (.bool b))] 0 (fK (.d (.val (.bool c))))=[.d (.val (.bool c))]:=fun b c=>rfl
 have s0:mQ E.P ⟨some d,.alloc t,ty0,p0,a0,none⟩ g ⟨[],[g.new]⟩ ⟨some (d,.bK g.new 0),[(g.new,.box [.d (.val (.bool false))])]⟩:=by rw[←hz];exact S9 t g.new ti ht g.ng
 have sst:∀(b c:Bool)(ty:Nat)(pos:String)(fI:Array Edge),mQ E.P ⟨none,.store t (.tmp d) (.const (.bool c)),ty,pos,fI,none⟩ ⟨kM g.sl d (.bK g.new 0),dv g.st g.new (some (.box [.d (.val (.bool b))]))⟩ ⟨eu (.tmp d)++eu (.const (.bool c))++(none:Option Nat).toList,[g.new]⟩ ⟨(none:Option Nat).map fun d=>(d,.undef),[(g.new,.box [.d (.val (.bool c))])]⟩:=by intro b c ty pos fI;rw[←hsplc b c];exact EC (dn:=none) (.tmp d) (.const (.bool c)) t g.new 0 ti [.d (.val (.bool b))] (.d (.val (.bool c))) ht hnth (mf _ _) rfl (by rw[hn];simp) rfl (by rw[hn];rfl) rfl
 have sld:∀(b:Bool),mQ E.P ⟨some e,.load t (.tmp d),ty3,p3,a3,none⟩ ⟨kM g.sl d (.bK g.new 0),dv g.st g.new (some (.box [.d (.val (.bool b))]))⟩ ⟨eu (.tmp d),[g.new]⟩ ⟨some (e,.d (.val (.bool b))),[]⟩:=by intro b;have:=IK (E:=E) (g:=⟨kM g.sl d (.bK g.new 0),dv g.st g.new (some (.box [.d (.val (.bool b))]))⟩) (d:=e) (ty:=ty3) (pos:=p3) (fI:=a3) (gd:=none) (.tmp d) t g.new 0 ti [.d (.val (.bool b))] ht hnth (mf _ _) (by rw[hn];simp);rw[hagg,hn] at this;exact this
 have fin:∀b:Bool,HH E.P #[⟨some d,.alloc t,ty0,p0,a0,none⟩,⟨none,.store t (.tmp d) (.const (.bool true)),ty1,p1,a1,none⟩,⟨none,.store t (.tmp d) (.const (.bool false)),ty2,p2,a2,none⟩,⟨some e,.load t (.tmp d),ty3,p3,a3,none⟩] Q 1 #[true,true,true,false] ⟨kM g.sl d (.bK g.new 0),dv g.st g.new (some (.box [.d (.val (.bool b))]))⟩:=by
  intro b;refine⟨fun hr=>(by rw[r4] at hr;cases hr),fun i hi=>?_⟩;rw[r4] at hi;obtain rfl:i=3:=by simpa using hi
  exact⟨_,_,_,rfl,D2.plain rfl (sld b),r5,h b⟩
 refine ahl hm ?_
 show HH _ _ _ 4 #[false,false,false,false] g
 refine⟨fun hr=>(by rw[r0] at hr;cases hr),fun i hi=>?_⟩
 rw[r0] at hi
 obtain rfl:i=0:=by simpa using hi
 refine⟨_,_,_,rfl,D2.plain rfl s0,?_⟩
 show HH _ _ _ 3 #[true,false,false,false] ⟨kM g.sl d (.bK g.new 0),dv g.st g.new (some (.box [.d (.val (.bool false))]))⟩
 refine⟨fun hr=>(by rw[r1] at hr;cases hr),fun i hi=>?_⟩
 rw[r1] at hi
 have hi:i=1∨i=2:=by simpa using hi
 rcases hi with rfl|rfl
 ·refine⟨_,_,_,rfl,D2.plain rfl (sst false true _ _ _),?_⟩
  show HH _ _ _ 2 #[true,true,false,false] ⟨kM g.sl d (.bK g.new 0),dv (dv g.st g.new (some (.box [.d (.val (.bool false))]))) g.new (some (.box [.d (.val (.bool true))]))⟩
  rw[nD]
  refine⟨fun hr=>(by rw[r2] at hr;cases hr),fun i hi=>?_⟩
  rw[r2] at hi
  obtain rfl:i=2:=by simpa using hi
  refine⟨_,_,_,rfl,D2.plain rfl (sst true false _ _ _),?_⟩
  show HH _ _ _ 1 #[true,true,true,false] ⟨kM g.sl d (.bK g.new 0),dv (dv g.st g.new (some (.box [.d (.val (.bool true))]))) g.new (some (.box [.d (.val (.bool false))]))⟩
  rw[nD]
  exact fin false
 ·refine⟨_,_,_,rfl,D2.plain rfl (sst false false _ _ _),?_⟩
  show HH _ _ _ 2 #[true,false,true,false] ⟨kM g.sl d (.bK g.new 0),dv (dv g.st g.new (some (.box [.d (.val (.bool false))]))) g.new (some (.box [.d (.val (.bool false))]))⟩
  rw[nD]
  refine⟨fun hr=>(by rw[r3] at hr;cases hr),fun i hi=>?_⟩
  rw[r3] at hi
  obtain rfl:i=1:=by simpa using hi
  refine⟨_,_,_,rfl,D2.plain rfl (sst false true _ _ _),?_⟩
  show HH _ _ _ 1 #[true,true,true,false] ⟨kM g.sl d (.bK g.new 0),dv (dv g.st g.new (some (.box [.d (.val (.bool false))]))) g.new (some (.box [.d (.val (.bool true))]))⟩
  rw[nD]
  exact fin true
end
section
variable{P:Program}{g:G}
theorem R8(k:Nat){e:TypeId}{xs:List (List T)}{ys:List (List D)}(hk:g.at k=some (.e9 e xs))(hf:bA xs=some ys) :
 wQ P g ⟨g.sl,dv g.st k (some (.aW e ys))⟩:=by
 intro X ν a w hs
 obtain⟨us,ho,hul,k9,hB,hnd⟩:=zr hs hk
 generalize hg':(⟨g.sl,dv g.st k (some (.aW e ys))⟩:G)=g'
 have mf:∀j,g'.at j=if j=k then some (.aW e ys) else g.at j:=by intro j;rw[←hg'];exact il g.st k _ j
 refine⟨fun j=>if j=k then⟨(ν k).v,[]⟩ else ν j,?_⟩
 generalize hν':(fun j=>if j=k then(⟨(ν k).v,[]⟩:Nm) else ν j)=ν'
 have hνk:ν' k=⟨(ν k).v,[]⟩:=by rw[←hν'];simp
 have hνo:∀j,j≠k→ν' j=ν j:=fun j h1=>by rw[←hν'];simp[h1]
 have hm:mZ g.at g'.at ν ν':=by intro j hj;refine⟨?_,?_⟩;by_cases h2:j=k;rw[h2,hνk];rw[hνo j h2];rw[mf];split;rfl;exact hj
 have hask:∀b,(ν' k).has b↔b∈hb (ν k).v:=fun b=>by rw[hνk,rf];simp
 have hasK:∀b,(ν k).has b↔b∈hb (ν k).v++(ν k).f:=fun b=>rf
 have back:∀j e1,g'.at j=some e1→e1.live=true→∀b,(ν' j).has b→∃e0,g.at j=some e0∧e0.live=true∧(ν j).has b:=by intro j e1 h1 h2 b hb1;by_cases na:j=k;subst na;exact⟨_,hk,rfl,(hasK b).2 (List.mem_append_left _ ((hask b).1 hb1))⟩;rw[mf,if_neg na] at h1;rw[hνo j na] at hb1;exact⟨e1,h1,h2,hb1⟩
 have jG:∀b,Own ν' g'.at b→Own ν g.at b:=by rintro b ⟨j,e1,h1,h2,h3⟩;obtain⟨e0,k1,k2,k3⟩:=back j e1 h1 h2 b h3;exact⟨j,e0,k1,k2,k3⟩
 have hw:∀b,dg X ν g.at b→b<w.heap.size→dg X ν' g'.at b∧w.heap[b]?=w.heap[b]?:=fun b hb _=>⟨⟨fun ho=>hb.1 (jG b ho),hb.2⟩,rfl⟩
 have hF:∀b∈(ν k).f,dg X ν' g'.at b:=by intro b hbf;have hKb:(ν k).has b:=(hasK b).2 (List.mem_append_right _ hbf);refine⟨?_,hs.Sj ⟨k,_,hk,rfl,hKb⟩⟩;rintro⟨j,e1,h1,h2,h3⟩;obtain⟨e0,k1,k2,k3⟩:=back j e1 h1 h2 b h3;have na:=hs.inj j k e0 _ b k1 hk k2 rfl k3 hKb;subst na;have h4:=(hask b).1 h3;exact(gh.1 hnd).2.2 b h4 b hbf rfl
 obtain⟨l1,l2,l3⟩:=bN.data hw xs us (ν k).f ys hf k9 hF
 have qe:cW w (dg X ν' g'.at) (P.cellsOf e) ys us:=by refine⟨l1,fun i x hx=>?_,fun i u hu=>hul i u hu,fun i j x u d v h1 h2 h3 h4=>(l3 i x u h1 h2).2 j d v h3 h4⟩;have hi:i<us.length:=(by have:=(List.getElem?_eq_some_iff.1 hx).1;omega);have hu:=List.getElem?_eq_getElem hi;rw[(l3 i x _ hx hu).1];exact hul i _ hu
 refine hs.upd (g':=g') (ν':=ν') (fun _=>False) (uO.refl _ w) (fun _ hb=>hb.elim) hm ?_ ?_ ?_ ?_ ?_ ?_ rfl
 ·intro j e1 hj
  rw[mf] at hj
  by_cases na:j=k
  ·rw[if_pos na] at hj
   obtain rfl:=Option.some.inj hj
   subst na
   refine .inr ⟨us,?_,qe,oM,by rw[hνk]⟩
   rw[hνk,←l2]
   exact ho
  ·rw[if_neg na] at hj
   exact .inl ⟨hj,hνo j na,fun _ _ _ hb=>hb⟩
 ·intro j e1 b h1 h2 h3
  exact .inl (jG b ⟨j,e1,h1,h2,h3⟩)
 ·intro j j' e1 e2 b h1 h2 h3 h4 h5 h6
  obtain⟨e0,k1,k2,k3⟩:=back j e1 h1 h3 b h5
  obtain⟨e3,l1,l2,l3⟩:=back j' e2 h2 h4 b h6
  exact hs.inj j j' e0 e3 b k1 l1 k2 l2 k3 l3
 ·intro j hj
  rw[mf] at hj
  by_cases na:j=k
  ·exact .inl (by rw[na,hk];rfl)
  ·rw[if_neg na] at hj
   exact .inl hj
 ·rw[←hg'];exact hs.size
 ·intro t
  exact .inl ⟨by rw[←hg'],rfl⟩
end
theorem ai9{E:Env}{g g':G}{o:Oper}{rest:sH→Option (List Ky)→G→Prop}(hw:wQ E.P g g')(h:tm E none none o g' rest):tm E none none o g rest:=by rcases h with⟨R,δ,h1,h2⟩|⟨_,_,g2,h1,h2⟩;exact .inr ⟨rfl,rfl,g',hw,R,δ,h1,h2⟩;exact .inr ⟨rfl,rfl,g2,hw.trans h1,h2⟩
theorem MH{E:Env}{rs:List ResultVar}{n0:Nat}{R:PV→List (Option En)→Prop}{g g':G}(hw:wQ E.P g g')(h:abW E rs n0 R g'):abW E rs n0 R g:=
 let ⟨g2,h1,h2⟩:=h
 ⟨g2,pG.trans hw.wF h1,h2⟩
theorem aes{xs:List (List T)}{r1 r2:List T}{n:Nat}(h:xs.length=n):oJ (xs++[r1,r2]) n=r1:=by subst h;simp[oJ,b9]
theorem adV{xs:List (List T)}{r1 r2:List T}{n:Nat}(h:xs.length=n):oJ (xs++[r1,r2]) (n+1)=r2:=by subst h;simp[oJ,b9]
theorem ad0{xs:List (List T)}{r1 r2 r:List T}{n:Nat}(h:xs.length=n):(xs++[r1,r2]).set n r=xs++[r,r2]:=by subst h;simp
theorem abM{xs:List (List T)}{r1 r2 r:List T}{n:Nat}(h:xs.length=n):(xs++[r1,r2]).set (n+1) r=xs++[r1,r]:=by subst h;simp
attribute [go_sem] bO ck ma agd
theorem uu{E:Env}{ops:Array Oper}{o:Oper}{os:List Oper}{g:G}{K:G→Prop}(hg:o.guard=none)(h:tm E none none o g (fun _ _ g'=>WO E.P ops os g' K)):WO E.P ops (o::os) g K:=by rcases h with⟨R,δ,h1,h2⟩|⟨_,_,g',hw,R,δ,h1,h2⟩;exact w5 (D2.plain hg h1) h2;exact YS hw (w5 (D2.plain hg h1) h2)
def mR:List (Int×Value)→Int→Option Value
 | [],_=>none
 | p::l,n=>if n=p.1 then some p.2 else mR l n
theorem wR(n:Int):∀(es:List MapEntry)(wC:List (Int×Value))(i:Nat),Cu es=B4 wC →
 (mR wC n=none→Instr.findNow (.int .i64) (.int .i64 n) es i=some none)∧(∀v,mR wC n=some v→∃j,Instr.findNow (.int .i64) (.int .i64 n) es i=some (some (j,v)))
 | [],[],i,_=>⟨fun _=>rfl,fun v h=>by cases h⟩
 | [],_::_,i,h=>by simp[Cu,B4] at h
 | _::_,[],i,h=>by simp[Cu,B4] at h
 | e::es,p::wC,i,h=>by simp only[Cu,B4,aJ,List.cons.injEq,Prod.mk.injEq] at h;obtain⟨⟨h1,h2⟩,h3⟩:=h;obtain⟨i1,i2⟩:=wR n es wC (i+1) h3;simp only[mR,Instr.findNow,h1,Instr.sameNow,if_true];by_cases hn:n=p.1;simp only[hn,if_true,beq_self_eq_true,h2];exact⟨fun h=>by simp at h,fun v hv=>⟨i,by simpa using hv⟩⟩;have:(n == p.1)=false:=(by simpa using hn);simp only[hn,if_false,this];exact⟨i1,i2⟩
section
variable{E:Env}{g:G}{d:Nat}{ty:TypeId}{pos:String}{fI:Array Edge}{gd:Option (Nat×Bool)}{dn:Option Nat}
theorem agr{w:World}{ok:Nat→Prop}{ν:Nat→Nm}{st:Nat→Option En}{v:Value}(h:okV v=true):aF w ok ν st (pvV v) v:=by
 have key:∀vs:List Value,(vs.all fun v=>v.oneCell')=true→aB w ok ν st (vs.map fun v=>.d (.val v)) vs:=by
  intro vs;induction vs with
  | nil=>intro _;simp[aB]
  | cons v vs ih=>intro h;simp only[List.all_cons,ab] at h;simp only[aJ,aB,aF];exact⟨.val v h.1,ih h.2⟩
 cases v with
 | agg cs=>simp only[okV] at h;simp only[pvV,aF];exact⟨cs.toList,rfl,key _ h⟩
 | _=>simp only[okV] at h;simp only[pvV,aF];exact .val _ h
theorem afR{w:World}{ok:Nat→Prop}{ν:Nat→Nm}{st:Nat→Option En}{u v:Value}(h:aF w ok ν st (pvV u) v):v=u:=by
 have key:∀us vs:List Value,aB w ok ν st (us.map fun v=>.d (.val v)) vs→vs=us:=by
  intro us;induction us with
  | nil=>intro vs h;cases vs with
    | nil=>rfl
    | cons v vs=>simp[aB] at h
  | cons u us ih=>intro vs h;cases vs with
    | nil=>simp[aB] at h
    | cons v vs=>simp only[aJ,aB] at h;rw[iB h.1,ih vs h.2]
 cases u with
 | agg cs=>simp only[pvV,aF] at h;obtain⟨vs,rfl,h⟩:=h;rw[key _ _ h]
 | _=>exact iB h
theorem TH(t k:Nat)(hk:g.at k=none):mQ E.P ⟨some d,.makeMap t none,ty,pos,fI,gd⟩ g ⟨[],[k]⟩ ⟨some (d,.aW k),[(k,.map [])]⟩:=by
 intro g2 hg;have h3:=(hg.p k (by simp)).trans hk;intro X ν a w next Q hs hn
 have hr:(execOp a.eval ⟨some d,.makeMap t none,ty,pos,fI,gd⟩).run E.P w= .ok (.value (.map (some w.heap.size))) (w.alloc (.map #[] 0)):=rfl;unfold Oper.wp;rw[hr,Oper.upon_value];refine hn _ _ _ (hs.Ax (lG w _) k h3 (.map []) ⟨.map (some w.heap.size),[]⟩ rfl ?_ d _ _ ?_ ?_);intro b hb;obtain rfl:w.heap.size=b:=by simpa[Nm.has,zR] using hb
 exact aH _;intro ok st ν' hν hw hm;exact⟨w.heap.size,#[],0,by rw[hν],by rw[vW],rfl,fun p hp=>by simp at hp,by rw[hν]⟩;intro ok st ν' hν gY hw hm;simp only[aF];exact⟨by rw[gY];rfl,by rw[hν]⟩
theorem sm{P:Program}{kt:TypeId}(hk:P.underlying kt=some (.int .i64))(b:Bool)(n:Int)(w:World):(Instr.checkKey b 10000 kt (.int .i64 n)).run P w= .ok () w:=
 MapKept.run_checkKey (k:=.int .i64 n) hk (by trivial) b 9999
theorem wK(x y:Operand)(t kt et k:Nat)(wC:List (Int×Value))(n:Int)(v:Value)(ht:E.P.underlying t=some (.map kt et))(hkt:E.P.underlying kt=some (.int .i64))(hx:g.ev x= .aW k)(hk:g.at k=some (.map wC))(hy:g.ev y= .d (.val (.int .i64 n)))(hv:mR wC n=some v) :
 mQ E.P ⟨some d,.lookup t x y false,ty,pos,fI,gd⟩ g ⟨eu x++eu y,[k]⟩ ⟨some (d,pvV v),[]⟩:=by
 intro g2 hg
 have h1:=hg.ev (x:=x) (fun t h=>by simp[h])
 have h2:=hg.ev (x:=y) (fun t h=>by simp[h])
 have h3:=(hg.p k (by simp)).trans hk
 refine JC.val rfl fun X ν a w hs=>?_
 have hvx:=hs.ev x
 rw[h1,hx] at hvx
 have hvy:=hs.ev y
 rw[h2,hy] at hvy
 have hvy:=iB hvy
 simp only[aF] at hvx
 obtain⟨r,es,clock,q1,q2,q3,q4,q5⟩:=hs.en k _ h3
 obtain⟨j,hj⟩:=(wR n es.toList wC 0 q3).2 v hv
 have hmem:∃p∈wC,p.2=v:=by
  clear q3 q4 hj h3 hk;induction wC with
  | nil=>cases hv
  | cons p l ih=>simp only[mR] at hv;split at hv;exact⟨p,by simp,by simpa using hv⟩;obtain⟨q,h1,h2⟩:=ih hv;exact⟨q,List.mem_cons_of_mem _ h1,h2⟩
 obtain⟨p,hp1,hp2⟩:=hmem
 refine⟨v,?_,agr (by rw[←hp2];exact q4 p hp1)⟩
 simp only[execOp,hvx.2,q1,hvy,Instr.lookup,Sem.run_bind,run_underlying ht,Result.andThen_ok,MapKept.run_getObj_map q2,Sem.run_pure,sm hkt,MapKept.run_findKey hkt hj]
 rfl
theorem FX(x y:Operand)(t kt et k:Nat)(ei:TI)(wC:List (Int×Value))(n:Int)(ht:E.P.underlying t=some (.map kt et))(hkt:E.P.underlying kt=some (.int .i64))(he:E.ti et=some ei)(hzo:zeroOf E.P et= .bool false)(hx:g.ev x= .aW k)(hk:g.at k=some (.map wC))(hy:g.ev y= .d (.val (.int .i64 n)))(hv:mR wC n=none) :
 mQ E.P ⟨some d,.lookup t x y false,ty,pos,fI,gd⟩ g ⟨eu x++eu y,[k]⟩ ⟨some (d,.d (.val (.bool false))),[]⟩:=by
 intro g2 hg
 have h1:=hg.ev (x:=x) (fun t h=>by simp[h])
 have h2:=hg.ev (x:=y) (fun t h=>by simp[h])
 have h3:=(hg.p k (by simp)).trans hk
 refine JC.val rfl fun X ν a w hs=>?_
 have hvx:=hs.ev x
 rw[h1,hx] at hvx
 have hvy:=hs.ev y
 rw[h2,hy] at hvy
 have hvy:=iB hvy
 simp only[aF] at hvx
 obtain⟨r,es,clock,q1,q2,q3,q4,q5⟩:=hs.en k _ h3
 have hj:=(wR n es.toList wC 0 q3).1 hv
 obtain⟨i,z,z1,z2,z3,z4,z5,z6⟩:=(E.ok et ei he).info
 have hzv:z= .bool false:=by rw[←hzo];simp[zeroOf,z1,z4]
 refine⟨.bool false,?_,oX rfl⟩
 simp only[execOp,hvx.2,q1,hvy,Instr.lookup,Sem.run_bind,run_underlying ht,Result.andThen_ok,MapKept.run_getObj_map q2,Sem.run_pure,sm hkt,MapKept.run_findKey hkt hj,zeroValue,typeInfo]
 simp[z1,z4,hzv]
theorem Ts{P:Program}{t kt et:TypeId}(ht:P.underlying t=some (.map kt et))(hkt:P.underlying kt=some (.int .i64)){w:World}{r:Nat}{es:Array MapEntry}{clock:Nat}(hr:w.heap[r]?=some (.map es clock)){n:Int}(hf:Instr.findNow (.int .i64) (.int .i64 n) es.toList 0=some none)(v:Value) :
 (Instr.mapUpdate t (.map (some r)) (.int .i64 n) v).run P w= .ok () { w with heap:=w.heap.setIfInBounds r (.map (es.push ⟨.int .i64 n,v,clock⟩) (clock+1)) }:=by
 simp only[Instr.mapUpdate,Sem.run_bind,run_underlying ht,Result.andThen_ok,MapKept.run_getObj_map hr,sm hkt,MapKept.run_findKey hkt hf]
 exact MapKept.run_setObj_map _ hr
theorem vO(o:Op)(x y z:Operand)(t kt et k:Nat)(wC:List (Int×Value))(n:Int)(v:Value)(ho:o= .mapUpdate t x y z∨o= .insert t x y z)(ht:E.P.underlying t=some (.map kt et))(hkt:E.P.underlying kt=some (.int .i64))(hx:g.ev x= .aW k)(hk:g.at k=some (.map wC))(hy:g.ev y= .d (.val (.int .i64 n)))(hz:g.ev z=pvV v)(dL:okV v=true)(hv:mR wC n=none) :
 mQ E.P ⟨none,o,ty,pos,fI,gd⟩ g ⟨eu x++eu y++eu z,[k]⟩ ⟨none,[(k,.map (wC++[(n,v)]))]⟩:=by
 intro g2 hg
 have e1:=hg.ev (x:=x) (fun t h=>by simp[h])
 have e2:=hg.ev (x:=y) (fun t h=>by simp[h])
 have e3:=hg.ev (x:=z) (fun t h=>by simp[h])
 have h3:=(hg.p k (by simp)).trans hk
 intro X ν a w next Q hs hnx
 have hvx:=hs.ev x
 rw[e1,hx] at hvx
 have hvy:=hs.ev y
 rw[e2,hy] at hvy
 have hvy:=iB hvy
 have hvz:=hs.ev z
 rw[e3,hz] at hvz
 have hvz:=afR hvz
 simp only[aF] at hvx
 obtain⟨r,es,clock,q1,q2,q3,q4,q5⟩:=hs.en k _ h3
 have hj:=(wR n es.toList wC 0 q3).1 hv
 have pI:=Ts ht hkt q2 hj v
 have hr:(execOp a.eval ⟨none,o,ty,pos,fI,gd⟩).run E.P w= .ok .skip { w with heap:=w.heap.setIfInBounds r (.map (es.push ⟨.int .i64 n,v,clock⟩) (clock+1)) }:=by rcases ho with rfl|rfl<;>simp only[execOp,hvx.2,q1,hvy,hvz,Sem.run_bind,pI,Result.andThen_ok]<;>rfl
 unfold Oper.wp
 rw[hr,Oper.upon_skip]
 have hrs:r<w.heap.size:=sY q2
 have tK:uO (fun b=>(ν k).has b) w { w with heap:=w.heap.setIfInBounds r (.map (es.push ⟨.int .i64 n,v,clock⟩) (clock+1)) }:=
  ⟨rfl,rfl,rfl,by simp,fun b _ hb=>by have nI:r≠b:=fun e=>hb (e▸(lx q5).2 (by rw[q1];rfl));simp[k8,nI]⟩
 refine hnx _ _ _ (hs.G8 k (.map wC) (.map (wC++[(n,v)])) h3 rfl tK none .undef Go.undef ?_ (fun h=>by cases h))
 intro hwf hm
 refine⟨r,_,_,q1,by simp[k8,hrs];exact⟨rfl,rfl⟩,?_,fun p hp=>?_,q5⟩
 ·simp only[Cu,B4,Array.toList_push,List.map_append,aJ,List.map_nil] at q3⊢
  rw[q3]
 ·rcases aM.1 hp with h|h
  ·exact q4 p h
  ·simp only[List.mem_cons,List.not_mem_nil,or_false] at h
   rw[h];exact dL
end
attribute [go_sem] pvV
theorem sG{P:Program}(w:World)(dT sT ty elem:TypeId)(s g o dLen dCap:Nat)(a:Addr)(sLen sCap:Nat)(cur:Array Value)(t:TypeId)(cs:List Value)
 (hu:P.underlying dT=some (.slice elem)) (hs:(P.info? elem).map (·.size)=some s)
 (hg:w.heap[g]?=some (.cells cur t (0,0))) (hn:cs.length=Nat.min sLen dLen*s)
 (hsrc:∀j v,cs[j]?=some v→w.cell? (a.add j)=some v) (hfit:o+cs.length≤cur.size) (h1:∀v∈cs,v.oneCell'=true) :
 (Builtin.copy_ #[dT,sT] ty #[.slice (some ⟨g,o,none⟩) dLen dCap,.slice (some a) sLen sCap]).run P w =
  .ok (goInt (Nat.min sLen dLen)) (w.setRow g (cur.toList.take o++cs++cur.toList.drop (o+cs.length)).toArray):=by
 have hl:=run_loadCells_list (P:=P) w a cs hsrc
 have gY:=run_storeCells_at P g o t cs 0 cur w hg (by simpa using hfit) h1
 cases hq:P.info? elem with
 | none=>simp[hq] at hs
 | some i=>have hi:i.size=s:=(by simpa[hq] using hs);rw[hn] at hl;simp[Builtin.copy_,run_underlying hu,Builtin.lenOf,Builtin.firstCells,sizeOf,typeInfo,hq,hi,hl,gY]
section
variable{E:Env}{g:G}
theorem SU(x lo:Operand)(t e k:Nat){d:Nat}{ty:TypeId}{pos:String}{fI:Array Edge}{gd:Option (Nat×Bool)}(ti ei:TI)(xs:List (List D))(m:Int)(ht:E.ti t=some ti)(mU:ti.ty= .slice e)(he:E.ti e=some ei)
 (hx:g.ev x= .aW k) (hk:g.at k=some (.aW e xs)) (hlo:g.ev lo= .d (.val (.int .i64 m))) (h0:0≤m) (hm:m≤xs.length) :
 mQ E.P ⟨some d,.slice t x (some lo) none none,ty,pos,fI,gd⟩ g ⟨eu x++eu lo,[k]⟩ ⟨some (d,.any),[]⟩:=by
 intro g2 hg
 have e1:=hg.ev (x:=x) (fun t h=>by simp[h])
 have e2:=hg.ev (x:=lo) (fun t h=>by simp[h])
 have h3:=(hg.p k (by simp)).trans hk
 intro X ν a w next Q hs hn
 have hu:=(E.ok t ti ht).ty
 rw[mU] at hu
 have hv:=hs.ev x
 rw[e1,hx] at hv
 have pJ:=hs.ev lo
 rw[e2,hlo] at pJ
 have pJ:=iB pJ
 simp only[aF] at hv
 have hsize:=(E.ok e ei he).size
 obtain⟨us,ho,k9,hB,hf0⟩:=hs.en k _ h3
 have pI:∃v,(execOp a.eval ⟨some d,.slice t x (some lo) none none,ty,pos,fI,gd⟩).run E.P w= .ok (.value v) w:=by rcases ho.2 with⟨h1,h2⟩|⟨b,cap,cur,h1,_,_,h4,_⟩;have hr:=wL (P:=E.P) w hu hsize none 0 0 (some (.int .i64 m)) none m ((0:Nat):Int) (.inr ⟨_,rfl⟩) (.inl ⟨rfl,rfl⟩) h0 oM (lF _) (aH _);refine⟨sliced none m.toNat 0 0 ei.n,?_⟩;simp only[execOp,hv.2,h1,pJ,hX,dV,Sem.run_bind,hr,Result.andThen_ok];rfl;have hr:=wL (P:=E.P) w hu hsize (some ⟨b,0,none⟩) xs.length cap (some (.int .i64 m)) none m (xs.length:Int) (.inr ⟨_,rfl⟩) (.inl ⟨rfl,rfl⟩) h0 oM (lF _) h4;simp only[Int.toNat_natCast] at hr;refine⟨sliced (some ⟨b,0,none⟩) m.toNat xs.length cap ei.n,?_⟩;simp only[execOp,hv.2,h1,pJ,hX,dV,Sem.run_bind,hr,Result.andThen_ok];rfl
 obtain⟨v,hr⟩:=pI
 unfold Oper.wp
 rw[hr,Oper.upon_value]
 exact hn _ _ _ (hs.put d (p:=.any) (v:=v) trivial)
end
end Go.Eng
namespace Go.Eng
theorem XB{α:Type}(A B R v:List α)(hs:v.length≤R.length) :
 (((A++B++R).take (A.length+v.length)++B++(A++B++R).drop (A.length+v.length+B.length)).take A.length++v
   ++ ((A++B++R).take (A.length+v.length)++B++(A++B++R).drop (A.length+v.length+B.length)).drop (A.length+v.length))
 = A++v++B++R.drop v.length:=by
 have hl:((A++B++R).take (A.length+v.length)).length=A.length+v.length:=by simp;omega
 have h1:(((A++B++R).take (A.length+v.length))++B++(A++B++R).drop (A.length+v.length+B.length)).take A.length=A:=by rw[bm,List.take_append_of_le_length oM,List.take_take,Nat.min_eq_left oM,bm,List.take_left]
 have h2:(((A++B++R).take (A.length+v.length))++B++(A++B++R).drop (A.length+v.length+B.length)).drop (A.length+v.length)=B++R.drop v.length:=by rw[bm,List.drop_left' hl,show A.length+v.length+B.length=(A++B).length+v.length from by simp;omega,List.drop_append];simp
 rw[h1,h2]
 simp
end Go.Eng
