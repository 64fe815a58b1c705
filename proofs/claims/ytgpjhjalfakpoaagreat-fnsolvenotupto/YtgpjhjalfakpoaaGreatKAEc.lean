/-
  Clause form, what it means, in plain Lean. No program is walked here.
-/
import Derived.Test.YtgpjhjalfakpoaaGreatKAEa
set_option linter.unusedVariables false
set_option linter.unusedSimpArgs false
open Bool renaming and_eq_true→ae,false_eq_true→ak,true_and→ay,and_true→eb,or_false→kg
open Int renaming le_refl→fy
open List renaming getElem_mem→ai,length_append→an,length_cons→aq,mem_cons→aw,contains_iff_mem→bo,all_eq_true→bS,mem_singleton→bU,not_mem_nil→ct,all_cons→dj,any_eq_true→gj,any_cons→ki
namespace Go.Mod
open Go.Eng
def fH(v:Int→Bool)(l:Int):Bool:=if 0<l then v l else !v (-l)
def gn(v:Int→Bool)(c:List Int):Bool:=c.any (fH v)
def kX(v:Int→Bool)(c:dh):Bool:=c.list.all (gn v)
theorem eU{v:Int→Bool}{l:Int}(h:l≠0):fH v (-l)= !fH v l:=by
 unfold fH
 rcases Int.lt_or_gt_of_ne h with h1|h1
 ·rw[if_pos (by omega),if_neg (by omega)];simp
 ·rw[if_neg (by omega),if_pos h1];simp
theorem mS{v:Int→Bool}{l:Int}(h:0<l):fH v l=v l:=by rw[fH,if_pos h]
theorem Bp{v:Int→Bool}{a b:List Int}(h:∀x,x∈a↔x∈b):gn v a=gn v b:=by
 have key:gn v a=true↔gn v b=true:=by
  simp only[gn,gj]
  exact⟨fun⟨x,h1,h2⟩=>⟨x,(h x).1 h1,h2⟩,fun⟨x,h1,h2⟩=>⟨x,(h x).2 h1,h2⟩⟩
 cases h1:gn v a<;>cases h2:gn v b<;>simp_all
theorem AQ{v:Int→Bool}{a:List Int}{l:Int}(h0:l≠0)(h1:l∈a)(h2:-l∈a):gn v a=true:=by
 simp only[gn,gj]
 cases h:fH v l
 ·exact⟨-l,h2,by rw[eU h0,h];rfl⟩
 ·exact⟨l,h1,h⟩
theorem oP(v:Int→Bool)(c:dh){l:List Int}(h:∀x∈l,dz x 60=true):kX v (cj c l)=(kX v c&&gn v l):=by
 have e:=lE l
 unfold cj
 cases hf:tM l with
 | true=>
   rw[hf] at e
   simp only[if_true] at e
   rw[e]
   simp only[kX,List.all_append,dj,List.all_nil,eb]
   rw[Bp fun x=>(mq (de l) x).trans (lj l x)]
 | false=>
   rw[hf] at e
   simp only[ak,if_false] at e
   rw[e]
   simp only[tM] at hf
   obtain⟨x,hx,hb⟩:=List.all_eq_false.1 hf
   have hm:=h x hx
   rw[hm,ay] at hb
   have hc:-x∈l:=by
    have:l.contains (-x)=true:=by
     cases hq:l.contains (-x)
     ·rw[hq] at hb;exact(hb rfl).elim
     ·rfl
    exact bo.1 this
   rw[AQ (iM.1 hm).1 hx hc,eb]
def Od(k:Int)(x y:Bool):Bool:=if k=3 then x&&y else if k=4 then x||y else if k=5 then !x||y else x == y
def CP(l:Int):Prop:=l≠0 ∧ -60≤l∧l≤60
theorem fR{l:Int}(h:CP l):dz l 60=true:=iM.2 h
theorem kf{l:Int}(h:CP l):CP (-l):=⟨by have:=h.1;omega,by have:=h.2;omega,by have:=h.2;omega⟩
theorem II(v:Int→Bool)(c:dh){m a b:Int}(hm:CP m)(ha:CP a)(hb:CP b):kX v (Eg c m a b)=(kX v c&&(fH v m == (fH v a||fH v b))):=by
 have n1:=fR hm;have n2:=fR ha;have n3:=fR hb
 have n4:=fR (kf hm);have n5:=fR (kf ha);have n6:=fR (kf hb)
 unfold Eg
 rw[oP v _ (by simp[n4,n2,n3]),oP v _ (by simp[n1,n6]),oP v _ (by simp[n1,n5])]
 simp only[gn,ki,List.any_nil,kg,eU hm.1,eU ha.1,eU hb.1]
 cases kX v c<;>cases fH v m<;>cases fH v a<;>cases fH v b<;>rfl
theorem LC(v:Int→Bool)(c:dh){m a b:Int}(hm:CP m)(ha:CP a)(hb:CP b):kX v (xt c m a b)=(kX v c&&(fH v m == (fH v a == fH v b))):=by
 have n1:=fR hm;have n2:=fR ha;have n3:=fR hb
 have n4:=fR (kf hm);have n5:=fR (kf ha);have n6:=fR (kf hb)
 unfold xt
 rw[oP v _ (by simp[n1,n5,n6]),oP v _ (by simp[n1,n2,n3]),oP v _ (by simp[n4,n2,n6]),oP v _ (by simp[n4,n5,n3])]
 simp only[gn,ki,List.any_nil,kg,eU hm.1,eU ha.1,eU hb.1]
 cases kX v c<;>cases fH v m<;>cases fH v a<;>cases fH v b<;>rfl
theorem Kw(v:Int→Bool)(k:Int)(c:dh){m a b:Int}(hm:CP m)(ha:CP a)(hb:CP b):kX v (ir k c m a b)=(kX v c&&(fH v m == Od k (fH v a) (fH v b))):=by
 unfold ir Od
 split
 ·rw[II v c (kf hm) (kf ha) (kf hb)]
  simp only[eU hm.1,eU ha.1,eU hb.1]
  cases kX v c<;>cases fH v m<;>cases fH v a<;>cases fH v b<;>rfl
 ·split
  ·exact II v c hm ha hb
  ·split
   ·rw[II v c hm (kf ha) hb]
    simp only[eU ha.1]
   ·exact LC v c hm ha hb
def Bk(v:Int→Bool)(w:Atom→Bool):Int→List Form→Bool
 | _,[]=>true
 | m,f::fs=>(v (m+1) == holds w f)&&Bk v w (m+1) fs
theorem sg(v:Int→Bool)(w:Atom→Bool):∀(a b:List Form)(m:Int),Bk v w m (a++b)=(Bk v w m a&&Bk v w (m+a.length) b)
 | [],b,m=>by simp[Bk]
 | f::a,b,m=>by
   simp only[List.cons_append,Bk,sg v w a b,aq,Bool.and_assoc]
   rw[show m+1+(a.length:Int)=m+((a.length+1:Nat):Int) by omega]
theorem AV(w:Atom→Bool)(t:Form):holds w t=xX t.kind t.lit (sr w t.kids) w:=by cases t;rfl
theorem FU{w:Atom→Bool}{t:Form}(h:t.kind=1):holds w t=(w t.lit.atom != t.lit.no):=by rw[AV,xX,if_pos h]
theorem mn(w:Atom→Bool):∀(ks:List Form)(i:Nat)(h:i<ks.length),(sr w ks).getD i false=holds w ks[i]
 | [],i,h=>by simp at h
 | t::ts,0,_=>rfl
 | t::ts,i+1,h=>by
   simp only[sr,List.getD_cons_succ,List.getElem_cons_succ]
   exact mn w ts i (by simpa using h)
theorem y7{w:Atom→Bool}{t:Form}(h:t.kind=2)(hl:t.kids.length=1):holds w t= !holds w t.kids[0]:=by
 rw[AV,xX,if_neg (by omega),if_pos h,mn w _ 0 (by omega)]
theorem tG{w:Atom→Bool}{t:Form}(h1:t.kind≠1)(h2:t.kind≠2)(hl:t.kids.length=2):holds w t=Od t.kind (holds w t.kids[0]) (holds w t.kids[1]):=by
 rw[AV,xX,if_neg h1,if_neg h2,mn w _ 0 (by omega),mn w _ 1 (by omega)]
 rfl
theorem E3(v:Int→Bool):∀(t:Form)(d:Nat)(atoms:List Atom)(c:dh),aJ t d=true→inside atoms t→(atoms.length:Int)≤c.many→c.many+bJ t d≤60 →
 (a6 atoms t c).1.many=c.many+(cq t).length∧kX v (a6 atoms t c).1=(kX v c&&Bk v (fun a=>v (bA atoms a+1)) c.many (cq t)) ∧
 (Bk v (fun a=>v (bA atoms a+1)) c.many (cq t)=true→fH v (a6 atoms t c).2=holds (fun a=>v (bA atoms a+1)) t):=by
 refine Form.ind fun k l ks ih d atoms c hsh nh hc hb=>?_
 generalize ht:Form.mk k l ks=t at *
 have hkids:t.kids=ks:=by rw[←ht];rfl
 rw[←hkids] at ih
 cases d with
 | zero=>rw[←ht] at hsh;simp[aJ] at hsh
 | succ d=>
 have hk:=cp hsh
 have hmany:bJ t (d+1)=1+bl t.kids d:=by rw[←ht];rfl
 rcases j6 hk.1 with⟨k1,hl0⟩|⟨k2,hl1⟩|⟨k3,hl2⟩
 ·rw[pj k1,vP k1,FU k1]
  have hmem:=qn nh k1
  have b1:=hG.2 hmem
  refine⟨by simp,by simp[Bk],fun _=>?_⟩
  cases hno:t.lit.no
  ·simp only[ak,if_false,Bool.bne_false]
   exact mS (by omega)
  ·simp only[if_true,Bool.bne_true]
   rw[eU (by omega),mS (by omega)]
 ·have h0:0<t.kids.length:=by omega
  have hk0:=ai h0
  have hs0:=bt hk.2.2 _ hk0
  have hi0:=du nh (by omega) _ hk0
  have e1:bl t.kids d=bJ t.kids[0] d:=by
   obtain⟨u,hu⟩:=List.length_eq_one_iff.1 hl1
   simp[hu,bl]
  obtain⟨i1,i2,i3⟩:=ih t.kids[0] hk0 d atoms c hs0 hi0 hc (by omega)
  have q0:=dR t.kids[0] d atoms c hs0 hi0 hc (by omega)
  rw[pq k2 hl1,xo k2 hl1,y7 k2 hl1]
  exact⟨i1,i2,fun h=>by rw[eU q0.1,i3 h]⟩
 ·have n1:t.kind≠1:=by omega
  have n2:t.kind≠2:=by omega
  have h0:0<t.kids.length:=by omega
  have h1:1<t.kids.length:=by omega
  have hk0:=ai h0
  have hs0:=bt hk.2.2 _ hk0
  have hi0:=du nh n1 _ hk0
  have hk1:=ai h1
  have hs1:=bt hk.2.2 _ hk1
  have hi1:=du nh n1 _ hk1
  have e1:bl t.kids d=bJ t.kids[0] d+bJ t.kids[1] d:=by
   have key:∀ks:List Form,(hl:ks.length=2)→bl ks d=bJ ks[0] d+bJ ks[1] d:=by
    intro ks hl
    match ks,hl with
    | [u,u'],_=>simp[bl]
   exact key _ hl2
  have g0:=c9 t.kids[0] d atoms c hs0
  have q0:=dR t.kids[0] d atoms c hs0 hi0 hc (by omega)
  obtain⟨i1,i2,i3⟩:=ih t.kids[0] hk0 d atoms c hs0 hi0 hc (by omega)
  have g1:=c9 t.kids[1] d atoms (a6 atoms t.kids[0] c).1 hs1
  have q1:=dR t.kids[1] d atoms (a6 atoms t.kids[0] c).1 hs1 hi1 (by omega) (by omega)
  obtain⟨j1,j2,j3⟩:=ih t.kids[1] hk1 d atoms (a6 atoms t.kids[0] c).1 hs1 hi1 (by omega) (by omega)
  rw[pn n1 n2 hl2,wT n1 n2 hl2,tG n1 n2 hl2]
  generalize a6 atoms t.kids[0] c=r1 at *
  generalize a6 atoms t.kids[1] r1.1=r2 at *
  have a0:CP (r2.1.many+1):=⟨by omega,by omega,by omega⟩
  have a1:CP r1.2:=⟨q0.1,by omega,by omega⟩
  have a2:CP r2.2:=⟨q1.1,by omega,by omega⟩
  have e2:kX v (⟨r2.1.many+1,r2.1.list⟩:dh)=kX v r2.1:=rfl
  refine⟨?_,?_,?_⟩
  ·simp only[lC,an,List.length_singleton]
   omega
  ·rw[Kw v _ _ a0 a1 a2,e2,j2,i2,sg,sg,i1,mS (by omega)]
   simp only[Bk,eb]
   rw[show c.many+((cq t.kids[0]++cq t.kids[1]).length:Int)+1=r2.1.many+1 by rw[an];omega]
   rw[i1] at j3
   cases z1:Bk v (fun a=>v (bA atoms a+1)) c.many (cq t.kids[0])
   ·simp
   ·cases z2:Bk v (fun a=>v (bA atoms a+1)) (c.many+(cq t.kids[0]).length) (cq t.kids[1])
    ·simp
    ·rw[i3 z1,j3 z2,←tG n1 n2 hl2]
     simp
  ·intro h
   rw[sg,ae,Bk] at h
   have h2:=h.2
   simp only[Bk,eb,beq_iff_eq] at h2
   rw[show c.many+((cq t.kids[0]++cq t.kids[1]).length:Int)+1=r2.1.many+1 by rw[an];omega] at h2
   rw[mS (by omega),h2,tG n1 n2 hl2]
theorem EY(v:Int→Bool)(atoms:List Atom):∀(fs:List Form)(c:dh),(∀f∈fs,eC f=true∧inside atoms f)→(atoms.length:Int)≤c.many→c.many+10*fs.length≤60 →
 (fO atoms fs c).many=c.many+(fs.flatMap cq).length∧kX v (fO atoms fs c)=(kX v c&&(Bk v (fun a=>v (bA atoms a+1)) c.many (fs.flatMap cq)&&fs.all (holds fun a=>v (bA atoms a+1))))
 | [],c,_,_,_=>by simp[fO,Bk]
 | f::fs,c,hf,hc,hb=>by
   obtain⟨f1,f2⟩:=hf f (by simp)
   have hs:=eL f1
   simp only[aq] at hb
   obtain⟨i1,i2,i3⟩:=E3 v f 5 atoms c hs.1 f2 hc (by omega)
   have g:=c9 f 5 atoms c hs.1
   have q:=dR f 5 atoms c hs.1 f2 hc (by omega)
   have a1:CP (a6 atoms f c).2:=⟨q.1,by omega,by omega⟩
   have ih:=EY v atoms fs (cj (a6 atoms f c).1 [(a6 atoms f c).2]) (fun x hx=>hf x (by simp[hx])) (by rw[eS];omega) (by rw[eS];omega)
   simp only[eS] at ih
   obtain⟨j1,j2⟩:=ih
   rw[oP v _ (by simp[fR a1]),i2] at j2
   simp only[fO,List.flatMap_cons,an,dj,sg]
   refine⟨by rw[j1,i1];omega,?_⟩
   rw[j2,i1]
   simp only[gn,ki,List.any_nil,kg]
   cases z:Bk v (fun a=>v (bA atoms a+1)) c.many (cq f)
   ·simp
   ·rw[i3 z]
    cases kX v c<;>cases holds (fun a=>v (bA atoms a+1)) f<;>simp
def Good(m:Int)(x:List Int):Prop:=Gm x∧∀l∈x,l≠0 ∧ -m≤l∧l≤m
theorem um{m:Int}:∀{x:List Int}{p:Option Int},Gm x→(∀l∈x,l≠0 ∧ -m≤l∧l≤m)→(∀q,p=some q→∀l∈x,q.natAbs<l.natAbs)→fZ m p x=true
 | [],_,_,_,_=>rfl
 | l::ls,p,hi,hm,hp=>by
   obtain⟨h1,h2⟩:=List.pairwise_cons.1 hi
   have h3:=um (p:=some l) h2 (fun y hy=>hm y (by simp[hy])) (fun q hq y hy=>by cases hq;exact h1 y hy)
   simp only[fZ,h3,iM.2 (hm l (by simp)),ay,eb]
   cases p with
   | none=>rfl
   | some q=>simpa using hp q rfl l (by simp)
theorem Be{l o:List Int}(h:dD l=some o):Gm o:=by
 have e:=lE l
 rw[h] at e
 cases hf:tM l with
 | false=>rw[hf] at e;cases e
 | true=>
   rw[hf] at e
   simp only[if_true,Option.some.injEq] at e
   rw[e]
   simp only[tM,bS,ae] at hf
   refine om (pd l) fun x hx y hy hxy=>?_
   have hx:=(lj l x).1 hx
   have hy:=(lj l y).1 hy
   have h1:=hf x hx
   rcases Int.natAbs_eq_natAbs_iff.1 hxy with h2|h2
   ·exact h2
   ·exfalso
    have h3:l.contains (-x)=true:=bo.2 (by rw[h2];simpa using hy)
    rw[h3] at h1
    exact absurd h1.2 (by simp)
theorem hX{m:Int}{c:dh}{l:List Int}(hc:∀x∈c.list,Good m x)(hl:∀x∈l,x≠0 ∧ -m≤x∧x≤m):∀x∈(cj c l).list,Good m x:=by
 unfold cj
 split
 ·exact hc
 ·rename_i o ho
  intro x hx
  simp only[List.mem_append,bU] at hx
  rcases hx with hx|rfl
  ·exact hc x hx
  ·exact⟨Be ho,fun y hy=>hl y ((zU ho).2 y hy)⟩
theorem KZ{m n:Int}(h:m≤n){x:List Int}(hx:Good m x):Good n x:=⟨hx.1,fun l hl=>by have:=hx.2 l hl;exact⟨this.1,by omega,by omega⟩⟩
theorem Em{m k v a b:Int}{c:dh}(hc:∀x∈c.list,Good m x)(hv:v≠0 ∧ -m≤v∧v≤m)(ha:a≠0 ∧ -m≤a∧a≤m)(hb:b≠0 ∧ -m≤b∧b≤m):∀x∈(ir k c v a b).list,Good m x:=by
 have o:∀(v a b:Int),v≠0 ∧ -m≤v∧v≤m→a≠0 ∧ -m≤a∧a≤m→b≠0 ∧ -m≤b∧b≤m→∀x∈(Eg c v a b).list,Good m x:=fun v a b h1 h2 h3=>by
  unfold Eg
  refine hX (hX (hX hc ?_) ?_) ?_<;>(intro x hx;simp only[aw,ct,or_false] at hx;omega)
 have i:∀x∈(xt c v a b).list,Good m x:=by
  unfold xt
  refine hX (hX (hX (hX hc ?_) ?_) ?_) ?_<;>(intro x hx;simp only[aw,ct,or_false] at hx;omega)
 unfold ir
 split
 ·exact o _ _ _ (by omega) (by omega) (by omega)
 ·split
  ·exact o _ _ _ hv ha hb
  ·split
   ·exact o _ _ _ hv (by omega) hb
   ·exact i
theorem ny:∀(t:Form)(d:Nat)(atoms:List Atom)(c:dh),aJ t d=true→inside atoms t→(atoms.length:Int)≤c.many→(∀x∈c.list,Good c.many x)→∀x∈(a6 atoms t c).1.list,Good (a6 atoms t c).1.many x:=by
 refine Form.ind fun k l ks ih d atoms c hsh nh hc hg=>?_
 generalize ht:Form.mk k l ks=t at *
 have hkids:t.kids=ks:=by rw[←ht];rfl
 rw[←hkids] at ih
 cases d with
 | zero=>rw[←ht] at hsh;simp[aJ] at hsh
 | succ d=>
 have hk:=cp hsh
 rcases j6 hk.1 with⟨k1,hl0⟩|⟨k2,hl1⟩|⟨k3,hl2⟩
 ·rw[pj k1];exact hg
 ·have h0:0<t.kids.length:=by omega
  have hk0:=ai h0
  rw[pq k2 hl1]
  exact ih t.kids[0] hk0 d atoms c (bt hk.2.2 _ hk0) (du nh (by omega) _ hk0) hc hg
 ·have n1:t.kind≠1:=by omega
  have n2:t.kind≠2:=by omega
  have h0:0<t.kids.length:=by omega
  have h1:1<t.kids.length:=by omega
  have hk0:=ai h0
  have hs0:=bt hk.2.2 _ hk0
  have hi0:=du nh n1 _ hk0
  have hk1:=ai h1
  have hs1:=bt hk.2.2 _ hk1
  have hi1:=du nh n1 _ hk1
  have g0:=c9 t.kids[0] d atoms c hs0
  have q0:=dR t.kids[0] d atoms c hs0 hi0 hc (by omega)
  have r0:=ih t.kids[0] hk0 d atoms c hs0 hi0 hc hg
  have g1:=c9 t.kids[1] d atoms (a6 atoms t.kids[0] c).1 hs1
  have q1:=dR t.kids[1] d atoms (a6 atoms t.kids[0] c).1 hs1 hi1 (by omega) (by omega)
  have r1:=ih t.kids[1] hk1 d atoms (a6 atoms t.kids[0] c).1 hs1 hi1 (by omega) r0
  rw[pn n1 n2 hl2]
  simp only[lC]
  refine Em (fun x hx=>KZ ?_ (r1 x hx)) ?_ ?_ ?_<;>omega
theorem qk(atoms:List Atom):∀(fs:List Form)(c:dh),(∀f∈fs,eC f=true∧inside atoms f)→(atoms.length:Int)≤c.many→(∀x∈c.list,Good c.many x) →
 (∀x∈(fO atoms fs c).list,Good (fO atoms fs c).many x)∧(fO atoms fs c).list.length≤c.list.length+41*fs.length∧(fO atoms fs c).many≤c.many+10*fs.length∧c.many≤(fO atoms fs c).many
 | [],c,_,_,hg=>⟨hg,by simp[fO],by simp[fO],by simp[fO]⟩
 | f::fs,c,hf,hc,hg=>by
   obtain⟨f1,f2⟩:=hf f (by simp)
   have hs:=eL f1
   have g:=c9 f 5 atoms c hs.1
   have q:=dR f 5 atoms c hs.1 f2 hc (by omega)
   have r:=ny f 5 atoms c hs.1 f2 hc hg
   have a:=cO (a6 atoms f c).1 [(a6 atoms f c).2]
   have ih:=qk atoms fs (cj (a6 atoms f c).1 [(a6 atoms f c).2]) (fun x hx=>hf x (by simp[hx])) (by rw[eS];omega) (by
    rw[eS]
    exact hX r fun x hx=>by simp only[bU] at hx;omega)
   rw[eS] at ih
   simp only[fO,aq]
   exact⟨ih.1,by omega,by omega,by omega⟩
theorem GZ(list:List Form):mg (gW list)=true:=by
 cases h:bZ list with
 | none=>rw[xV h];rfl
 | some atoms=>
   obtain⟨p1,p2,p3,p4⟩:=dw h
   have:=qk atoms list ⟨atoms.length,[]⟩ (fun f hf=>⟨p2 f hf,by rw[p4];exact jv hf⟩) (fy _) (by simp)
   rw[jU h]
   simp only[List.length_nil] at this
   simp only[mg,ae,decide_eq_true_eq,bS]
   refine⟨cz.2 ⟨by omega,by omega⟩,by omega,fun x hx=>?_⟩
   have hx:=this.1 x hx
   simp only[gA,ae]
   exact⟨cz.2 ⟨by omega,by omega⟩,um hx.1 hx.2 (by simp)⟩
def J5(l:Int)(vals:List Bool):Bool:=decide (l≠0)&&(within l (-vals.length) vals.length&&(vals.getD (l.natAbs-1) false == decide (0<l)))
def HW(c:List Int)(vals:List Bool):Bool:=c.any fun l=>J5 l vals
def Om(c:dh)(vals:List Bool):Bool:=mg c&&(decide ((vals.length:Int)=c.many)&&c.list.all fun x=>HW x vals)
def NT(list:List Form)(vals:List Bool):List Bool:=match bZ list with
 | none=>[]
 | some atoms=>if vals.length=atoms.length then vals++(list.flatMap cq).map (holds fun a=>vals.getD (bA atoms a).toNat false) else []
def OB(vals:List Bool)(i:Int):Bool:=vals.getD (i.toNat-1) false
theorem KY{list:List Form}{atoms:List Atom}(h:bZ list=some atoms)(v:Int→Bool):(gW list).many=atoms.length+(list.flatMap cq).length∧kX v (gW list)=(Bk v (fun a=>v (bA atoms a+1)) atoms.length (list.flatMap cq)&&list.all (holds fun a=>v (bA atoms a+1))):=by
 obtain⟨p1,p2,p3,p4⟩:=dw h
 have:=EY v atoms list ⟨atoms.length,[]⟩ (fun f hf=>⟨p2 f hf,by rw[p4];exact jv hf⟩) (fy _) (by simp only;omega)
 rw[jU h]
 simpa[kX] using this
theorem Gu(l:List Atom)(a:Atom):-1≤bA l a∧((bA l a).toNat<l.length∨l=[]):=by
 have h1:=BF (p:=fun b=>decide (a=b)) (xs:=l) (i:=0)
 have h2:=oB (p:=fun b=>decide (a=b)) (xs:=l) (i:=0) (by omega)
 have e:bA l a=cI (fun b=>decide (a=b)) l 0:=rfl
 rw[←e] at h1 h2
 have h3:-1≤bA l a:=by split at h2<;>omega
 refine⟨h3,?_⟩
 cases l with
 | nil=>exact .inr rfl
 | cons x xs=>left;simp only[aq] at h1⊢;omega
end Go.Mod
