/-
  Clause form, what it means, in plain Lean. No program is walked here.
-/
import Derived.Test.YtgpjhjalfakpoaaGreatKBEa
set_option linter.unusedVariables false
set_option linter.unusedSimpArgs false
open Bool renaming and_eq_true→ae,false_eq_true→al,true_and→az,and_true→eF,or_false→kD
open Int renaming le_refl→fM
open List renaming getElem_mem→ah,length_append→ao,length_cons→aq,mem_cons→aw,contains_iff_mem→bq,all_eq_true→bz,mem_singleton→bX,not_mem_nil→b9,all_cons→du,any_eq_true→gw,any_cons→kF
namespace Go.Mod
open Go.Eng
def fU(v:Int→Bool)(l:Int):Bool:=if 0<l then v l else !v (-l)
def gD(v:Int→Bool)(c:List Int):Bool:=c.any (fU v)
def lE(v:Int→Bool)(c:dq):Bool:=c.list.all (gD v)
theorem fk{v:Int→Bool}{l:Int}(h:l≠0):fU v (-l)= !fU v l:=by
 unfold fU
 rcases Int.lt_or_gt_of_ne h with h1|h1
 ·rw[if_pos (by omega),if_neg (by omega)];simp
 ·rw[if_neg (by omega),if_pos h1];simp
theorem ny{v:Int→Bool}{l:Int}(h:0<l):fU v l=v l:=by rw[fU,if_pos h]
theorem C2{v:Int→Bool}{a b:List Int}(h:∀x,x∈a↔x∈b):gD v a=gD v b:=by
 have key:gD v a=true↔gD v b=true:=by
  simp only[gD,gw]
  exact⟨fun⟨x,h1,h2⟩=>⟨x,(h x).1 h1,h2⟩,fun⟨x,h1,h2⟩=>⟨x,(h x).2 h1,h2⟩⟩
 cases h1:gD v a<;>cases h2:gD v b<;>simp_all
theorem AU{v:Int→Bool}{a:List Int}{l:Int}(h0:l≠0)(h1:l∈a)(h2:-l∈a):gD v a=true:=by
 simp only[gD,gw]
 cases h:fU v l
 ·exact⟨-l,h2,by rw[fk h0,h];rfl⟩
 ·exact⟨l,h1,h⟩
theorem oL(v:Int→Bool)(c:dq){l:List Int}(h:∀x∈l,dF x 60=true):lE v (ck c l)=(lE v c&&gD v l):=by
 have e:=l8 l
 unfold ck
 cases hf:uu l with
 | true=>
   rw[hf] at e
   simp only[if_true] at e
   rw[e]
   simp only[lE,List.all_append,du,List.all_nil,eF]
   rw[C2 fun x=>(mP (dk l) x).trans (lL l x)]
 | false=>
   rw[hf] at e
   simp only[al,if_false] at e
   rw[e]
   simp only[uu] at hf
   obtain⟨x,hx,hb⟩:=List.all_eq_false.1 hf
   have hm:=h x hx
   rw[hm,az] at hb
   have hc:-x∈l:=by
    have:l.contains (-x)=true:=by
     cases hq:l.contains (-x)
     ·rw[hq] at hb;exact(hb rfl).elim
     ·rfl
    exact bq.1 this
   rw[AU (jc.1 hm).1 hx hc,eF]
def Pa(k:Int)(x y:Bool):Bool:=if k=3 then x&&y else if k=4 then x||y else if k=5 then !x||y else x == y
def Dh(l:Int):Prop:=l≠0 ∧ -60≤l∧l≤60
theorem gj{l:Int}(h:Dh l):dF l 60=true:=jc.2 h
theorem kr{l:Int}(h:Dh l):Dh (-l):=⟨by have:=h.1;omega,by have:=h.2;omega,by have:=h.2;omega⟩
theorem Jx(v:Int→Bool)(c:dq){m a b:Int}(hm:Dh m)(ha:Dh a)(hb:Dh b):lE v (Dq c m a b)=(lE v c&&(fU v m == (fU v a||fU v b))):=by
 have n1:=gj hm;have n2:=gj ha;have n3:=gj hb
 have n4:=gj (kr hm);have n5:=gj (kr ha);have n6:=gj (kr hb)
 unfold Dq
 rw[oL v _ (by simp[n4,n2,n3]),oL v _ (by simp[n1,n6]),oL v _ (by simp[n1,n5])]
 simp only[gD,kF,List.any_nil,kD,fk hm.1,fk ha.1,fk hb.1]
 cases lE v c<;>cases fU v m<;>cases fU v a<;>cases fU v b<;>rfl
theorem MN(v:Int→Bool)(c:dq){m a b:Int}(hm:Dh m)(ha:Dh a)(hb:Dh b):lE v (yg c m a b)=(lE v c&&(fU v m == (fU v a == fU v b))):=by
 have n1:=gj hm;have n2:=gj ha;have n3:=gj hb
 have n4:=gj (kr hm);have n5:=gj (kr ha);have n6:=gj (kr hb)
 unfold yg
 rw[oL v _ (by simp[n1,n5,n6]),oL v _ (by simp[n1,n2,n3]),oL v _ (by simp[n4,n2,n6]),oL v _ (by simp[n4,n5,n3])]
 simp only[gD,kF,List.any_nil,kD,fk hm.1,fk ha.1,fk hb.1]
 cases lE v c<;>cases fU v m<;>cases fU v a<;>cases fU v b<;>rfl
theorem Kn(v:Int→Bool)(k:Int)(c:dq){m a b:Int}(hm:Dh m)(ha:Dh a)(hb:Dh b):lE v (iH k c m a b)=(lE v c&&(fU v m == Pa k (fU v a) (fU v b))):=by
 unfold iH Pa
 split
 ·rw[Jx v c (kr hm) (kr ha) (kr hb)]
  simp only[fk hm.1,fk ha.1,fk hb.1]
  cases lE v c<;>cases fU v m<;>cases fU v a<;>cases fU v b<;>rfl
 ·split
  ·exact Jx v c hm ha hb
  ·split
   ·rw[Jx v c hm (kr ha) hb]
    simp only[fk ha.1]
   ·exact MN v c hm ha hb
def BN(v:Int→Bool)(w:Atom→Bool):Int→List Form→Bool
 | _,[]=>true
 | m,f::fs=>(v (m+1) == holds w f)&&BN v w (m+1) fs
theorem r4(v:Int→Bool)(w:Atom→Bool):∀(a b:List Form)(m:Int),BN v w m (a++b)=(BN v w m a&&BN v w (m+a.length) b)
 | [],b,m=>by simp[BN]
 | f::a,b,m=>by
   simp only[List.cons_append,BN,r4 v w a b,aq,Bool.and_assoc]
   rw[show m+1+(a.length:Int)=m+((a.length+1:Nat):Int) by omega]
theorem AR(w:Atom→Bool)(t:Form):holds w t=xV t.kind t.lit (ya w t.kids) w:=by cases t;rfl
theorem G5{w:Atom→Bool}{t:Form}(h:t.kind=1):holds w t=(w t.lit.atom != t.lit.no):=by rw[AR,xV,if_pos h]
theorem mL(w:Atom→Bool):∀(ks:List Form)(i:Nat)(h:i<ks.length),(ya w ks).getD i false=holds w ks[i]
 | [],i,h=>by simp at h
 | t::ts,0,_=>rfl
 | t::ts,i+1,h=>by
   simp only[ya,List.getD_cons_succ,List.getElem_cons_succ]
   exact mL w ts i (by simpa using h)
theorem Aj{w:Atom→Bool}{t:Form}(h:t.kind=2)(hl:t.kids.length=1):holds w t= !holds w t.kids[0]:=by
 rw[AR,xV,if_neg (by omega),if_pos h,mL w _ 0 (by omega)]
theorem tL{w:Atom→Bool}{t:Form}(h1:t.kind≠1)(h2:t.kind≠2)(hl:t.kids.length=2):holds w t=Pa t.kind (holds w t.kids[0]) (holds w t.kids[1]):=by
 rw[AR,xV,if_neg h1,if_neg h2,mL w _ 0 (by omega),mL w _ 1 (by omega)]
 rfl
theorem Fm(v:Int→Bool):∀(t:Form)(d:Nat)(atoms:List Atom)(c:dq),aL t d=true→inside atoms t→(atoms.length:Int)≤c.many→c.many+bL t d≤60 →
 (a7 atoms t c).1.many=c.many+(cy t).length∧lE v (a7 atoms t c).1=(lE v c&&BN v (fun a=>v (bD atoms a+1)) c.many (cy t)) ∧
 (BN v (fun a=>v (bD atoms a+1)) c.many (cy t)=true→fU v (a7 atoms t c).2=holds (fun a=>v (bD atoms a+1)) t):=by
 refine Form.ind fun k l ks ih d atoms c hsh nH hc hb=>?_
 generalize ht:Form.mk k l ks=t at *
 have hkids:t.kids=ks:=by rw[←ht];rfl
 rw[←hkids] at ih
 cases d with
 | zero=>rw[←ht] at hsh;simp[aL] at hsh
 | succ d=>
 have hk:=cz hsh
 have hmany:bL t (d+1)=1+bn t.kids d:=by rw[←ht];rfl
 rcases kl hk.1 with⟨k1,hl0⟩|⟨k2,hl1⟩|⟨k3,hl2⟩
 ·rw[pQ k1,xw k1,G5 k1]
  have hmem:=rn nH k1
  have b1:=ib.2 hmem
  refine⟨by simp,by simp[BN],fun _=>?_⟩
  cases hno:t.lit.no
  ·simp only[al,if_false,Bool.bne_false]
   exact ny (by omega)
  ·simp only[if_true,Bool.bne_true]
   rw[fk (by omega),ny (by omega)]
 ·have h0:0<t.kids.length:=by omega
  have hk0:=ah h0
  have hs0:=bx hk.2.2 _ hk0
  have hi0:=dA nH (by omega) _ hk0
  have e1:bn t.kids d=bL t.kids[0] d:=by
   obtain⟨u,hu⟩:=List.length_eq_one_iff.1 hl1
   simp[hu,bn]
  obtain⟨i1,i2,i3⟩:=ih t.kids[0] hk0 d atoms c hs0 hi0 hc (by omega)
  have q0:=eg t.kids[0] d atoms c hs0 hi0 hc (by omega)
  rw[pR k2 hl1,yL k2 hl1,Aj k2 hl1]
  exact⟨i1,i2,fun h=>by rw[fk q0.1,i3 h]⟩
 ·have n1:t.kind≠1:=by omega
  have n2:t.kind≠2:=by omega
  have h0:0<t.kids.length:=by omega
  have h1:1<t.kids.length:=by omega
  have hk0:=ah h0
  have hs0:=bx hk.2.2 _ hk0
  have hi0:=dA nH n1 _ hk0
  have hk1:=ah h1
  have hs1:=bx hk.2.2 _ hk1
  have hi1:=dA nH n1 _ hk1
  have e1:bn t.kids d=bL t.kids[0] d+bL t.kids[1] d:=by
   have key:∀ks:List Form,(hl:ks.length=2)→bn ks d=bL ks[0] d+bL ks[1] d:=by
    intro ks hl
    match ks,hl with
    | [u,u'],_=>simp[bn]
   exact key _ hl2
  have g0:=dj t.kids[0] d atoms c hs0
  have q0:=eg t.kids[0] d atoms c hs0 hi0 hc (by omega)
  obtain⟨i1,i2,i3⟩:=ih t.kids[0] hk0 d atoms c hs0 hi0 hc (by omega)
  have g1:=dj t.kids[1] d atoms (a7 atoms t.kids[0] c).1 hs1
  have q1:=eg t.kids[1] d atoms (a7 atoms t.kids[0] c).1 hs1 hi1 (by omega) (by omega)
  obtain⟨j1,j2,j3⟩:=ih t.kids[1] hk1 d atoms (a7 atoms t.kids[0] c).1 hs1 hi1 (by omega) (by omega)
  rw[pJ n1 n2 hl2,wI n1 n2 hl2,tL n1 n2 hl2]
  generalize a7 atoms t.kids[0] c=r1 at *
  generalize a7 atoms t.kids[1] r1.1=r2 at *
  have a0:Dh (r2.1.many+1):=⟨by omega,by omega,by omega⟩
  have a1:Dh r1.2:=⟨q0.1,by omega,by omega⟩
  have a2:Dh r2.2:=⟨q1.1,by omega,by omega⟩
  have e2:lE v (⟨r2.1.many+1,r2.1.list⟩:dq)=lE v r2.1:=rfl
  refine⟨?_,?_,?_⟩
  ·simp only[lS,ao,List.length_singleton]
   omega
  ·rw[Kn v _ _ a0 a1 a2,e2,j2,i2,r4,r4,i1,ny (by omega)]
   simp only[BN,eF]
   rw[show c.many+((cy t.kids[0]++cy t.kids[1]).length:Int)+1=r2.1.many+1 by rw[ao];omega]
   rw[i1] at j3
   cases z1:BN v (fun a=>v (bD atoms a+1)) c.many (cy t.kids[0])
   ·simp
   ·cases z2:BN v (fun a=>v (bD atoms a+1)) (c.many+(cy t.kids[0]).length) (cy t.kids[1])
    ·simp
    ·rw[i3 z1,j3 z2,←tL n1 n2 hl2]
     simp
  ·intro h
   rw[r4,ae,BN] at h
   have h2:=h.2
   simp only[BN,eF,beq_iff_eq] at h2
   rw[show c.many+((cy t.kids[0]++cy t.kids[1]).length:Int)+1=r2.1.many+1 by rw[ao];omega] at h2
   rw[ny (by omega),h2,tL n1 n2 hl2]
theorem FR(v:Int→Bool)(atoms:List Atom):∀(fs:List Form)(c:dq),(∀f∈fs,dI f=true∧inside atoms f)→(atoms.length:Int)≤c.many→c.many+10*fs.length≤60 →
 (gm atoms fs c).many=c.many+(fs.flatMap cy).length∧lE v (gm atoms fs c)=(lE v c&&(BN v (fun a=>v (bD atoms a+1)) c.many (fs.flatMap cy)&&fs.all (holds fun a=>v (bD atoms a+1))))
 | [],c,_,_,_=>by simp[gm,BN]
 | f::fs,c,hf,hc,hb=>by
   obtain⟨f1,f2⟩:=hf f (by simp)
   have hs:=fJ f1
   simp only[aq] at hb
   obtain⟨i1,i2,i3⟩:=Fm v f 5 atoms c hs.1 f2 hc (by omega)
   have g:=dj f 5 atoms c hs.1
   have q:=eg f 5 atoms c hs.1 f2 hc (by omega)
   have a1:Dh (a7 atoms f c).2:=⟨q.1,by omega,by omega⟩
   have ih:=FR v atoms fs (ck (a7 atoms f c).1 [(a7 atoms f c).2]) (fun x hx=>hf x (by simp[hx])) (by rw[fj];omega) (by rw[fj];omega)
   simp only[fj] at ih
   obtain⟨j1,j2⟩:=ih
   rw[oL v _ (by simp[gj a1]),i2] at j2
   simp only[gm,List.flatMap_cons,ao,du,r4]
   refine⟨by rw[j1,i1];omega,?_⟩
   rw[j2,i1]
   simp only[gD,kF,List.any_nil,kD]
   cases z:BN v (fun a=>v (bD atoms a+1)) c.many (cy f)
   ·simp
   ·rw[i3 z]
    cases lE v c<;>cases holds (fun a=>v (bD atoms a+1)) f<;>simp
def Good(m:Int)(x:List Int):Prop:=F6 x∧∀l∈x,l≠0 ∧ -m≤l∧l≤m
theorem uT{m:Int}:∀{x:List Int}{p:Option Int},F6 x→(∀l∈x,l≠0 ∧ -m≤l∧l≤m)→(∀q,p=some q→∀l∈x,q.natAbs<l.natAbs)→gq m p x=true
 | [],_,_,_,_=>rfl
 | l::ls,p,hi,hm,hp=>by
   obtain⟨h1,h2⟩:=List.pairwise_cons.1 hi
   have h3:=uT (p:=some l) h2 (fun y hy=>hm y (by simp[hy])) (fun q hq y hy=>by cases hq;exact h1 y hy)
   simp only[gq,h3,jc.2 (hm l (by simp)),az,eF]
   cases p with
   | none=>rfl
   | some q=>simpa using hp q rfl l (by simp)
theorem Bm{l o:List Int}(h:dJ l=some o):F6 o:=by
 have e:=l8 l
 rw[h] at e
 cases hf:uu l with
 | false=>rw[hf] at e;cases e
 | true=>
   rw[hf] at e
   simp only[if_true,Option.some.injEq] at e
   rw[e]
   simp only[uu,bz,ae] at hf
   refine pg (pN l) fun x hx y hy hxy=>?_
   have hx:=(lL l x).1 hx
   have hy:=(lL l y).1 hy
   have h1:=hf x hx
   rcases Int.natAbs_eq_natAbs_iff.1 hxy with h2|h2
   ·exact h2
   ·exfalso
    have h3:l.contains (-x)=true:=bq.2 (by rw[h2];simpa using hy)
    rw[h3] at h1
    exact absurd h1.2 (by simp)
theorem ir{m:Int}{c:dq}{l:List Int}(hc:∀x∈c.list,Good m x)(hl:∀x∈l,x≠0 ∧ -m≤x∧x≤m):∀x∈(ck c l).list,Good m x:=by
 unfold ck
 split
 ·exact hc
 ·rename_i o ho
  intro x hx
  simp only[List.mem_append,bX] at hx
  rcases hx with hx|rfl
  ·exact hc x hx
  ·exact⟨Bm ho,fun y hy=>hl y ((AF ho).2 y hy)⟩
theorem Ly{m n:Int}(h:m≤n){x:List Int}(hx:Good m x):Good n x:=⟨hx.1,fun l hl=>by have:=hx.2 l hl;exact⟨this.1,by omega,by omega⟩⟩
theorem EK{m k v a b:Int}{c:dq}(hc:∀x∈c.list,Good m x)(hv:v≠0 ∧ -m≤v∧v≤m)(ha:a≠0 ∧ -m≤a∧a≤m)(hb:b≠0 ∧ -m≤b∧b≤m):∀x∈(iH k c v a b).list,Good m x:=by
 have o:∀(v a b:Int),v≠0 ∧ -m≤v∧v≤m→a≠0 ∧ -m≤a∧a≤m→b≠0 ∧ -m≤b∧b≤m→∀x∈(Dq c v a b).list,Good m x:=fun v a b h1 h2 h3=>by
  unfold Dq
  refine ir (ir (ir hc ?_) ?_) ?_<;>(intro x hx;simp only[aw,b9,or_false] at hx;omega)
 have i:∀x∈(yg c v a b).list,Good m x:=by
  unfold yg
  refine ir (ir (ir (ir hc ?_) ?_) ?_) ?_<;>(intro x hx;simp only[aw,b9,or_false] at hx;omega)
 unfold iH
 split
 ·exact o _ _ _ (by omega) (by omega) (by omega)
 ·split
  ·exact o _ _ _ hv ha hb
  ·split
   ·exact o _ _ _ hv (by omega) hb
   ·exact i
theorem nL:∀(t:Form)(d:Nat)(atoms:List Atom)(c:dq),aL t d=true→inside atoms t→(atoms.length:Int)≤c.many→(∀x∈c.list,Good c.many x)→∀x∈(a7 atoms t c).1.list,Good (a7 atoms t c).1.many x:=by
 refine Form.ind fun k l ks ih d atoms c hsh nH hc hg=>?_
 generalize ht:Form.mk k l ks=t at *
 have hkids:t.kids=ks:=by rw[←ht];rfl
 rw[←hkids] at ih
 cases d with
 | zero=>rw[←ht] at hsh;simp[aL] at hsh
 | succ d=>
 have hk:=cz hsh
 rcases kl hk.1 with⟨k1,hl0⟩|⟨k2,hl1⟩|⟨k3,hl2⟩
 ·rw[pQ k1];exact hg
 ·have h0:0<t.kids.length:=by omega
  have hk0:=ah h0
  rw[pR k2 hl1]
  exact ih t.kids[0] hk0 d atoms c (bx hk.2.2 _ hk0) (dA nH (by omega) _ hk0) hc hg
 ·have n1:t.kind≠1:=by omega
  have n2:t.kind≠2:=by omega
  have h0:0<t.kids.length:=by omega
  have h1:1<t.kids.length:=by omega
  have hk0:=ah h0
  have hs0:=bx hk.2.2 _ hk0
  have hi0:=dA nH n1 _ hk0
  have hk1:=ah h1
  have hs1:=bx hk.2.2 _ hk1
  have hi1:=dA nH n1 _ hk1
  have g0:=dj t.kids[0] d atoms c hs0
  have q0:=eg t.kids[0] d atoms c hs0 hi0 hc (by omega)
  have r0:=ih t.kids[0] hk0 d atoms c hs0 hi0 hc hg
  have g1:=dj t.kids[1] d atoms (a7 atoms t.kids[0] c).1 hs1
  have q1:=eg t.kids[1] d atoms (a7 atoms t.kids[0] c).1 hs1 hi1 (by omega) (by omega)
  have r1:=ih t.kids[1] hk1 d atoms (a7 atoms t.kids[0] c).1 hs1 hi1 (by omega) r0
  rw[pJ n1 n2 hl2]
  simp only[lS]
  refine EK (fun x hx=>Ly ?_ (r1 x hx)) ?_ ?_ ?_<;>omega
theorem qY(atoms:List Atom):∀(fs:List Form)(c:dq),(∀f∈fs,dI f=true∧inside atoms f)→(atoms.length:Int)≤c.many→(∀x∈c.list,Good c.many x) →
 (∀x∈(gm atoms fs c).list,Good (gm atoms fs c).many x)∧(gm atoms fs c).list.length≤c.list.length+41*fs.length∧(gm atoms fs c).many≤c.many+10*fs.length∧c.many≤(gm atoms fs c).many
 | [],c,_,_,hg=>⟨hg,by simp[gm],by simp[gm],by simp[gm]⟩
 | f::fs,c,hf,hc,hg=>by
   obtain⟨f1,f2⟩:=hf f (by simp)
   have hs:=fJ f1
   have g:=dj f 5 atoms c hs.1
   have q:=eg f 5 atoms c hs.1 f2 hc (by omega)
   have r:=nL f 5 atoms c hs.1 f2 hc hg
   have a:=cR (a7 atoms f c).1 [(a7 atoms f c).2]
   have ih:=qY atoms fs (ck (a7 atoms f c).1 [(a7 atoms f c).2]) (fun x hx=>hf x (by simp[hx])) (by rw[fj];omega) (by
    rw[fj]
    exact ir r fun x hx=>by simp only[bX] at hx;omega)
   rw[fj] at ih
   simp only[gm,aq]
   exact⟨ih.1,by omega,by omega,by omega⟩
theorem HA(list:List Form):mK (hU list)=true:=by
 cases h:bS list with
 | none=>rw[wX h];rfl
 | some atoms=>
   obtain⟨p1,p2,p3,p4⟩:=dB h
   have:=qY atoms list ⟨atoms.length,[]⟩ (fun f hf=>⟨p2 f hf,by rw[p4];exact jH hf⟩) (fM _) (by simp)
   rw[kb h]
   simp only[List.length_nil] at this
   simp only[mK,ae,decide_eq_true_eq,bz]
   refine⟨cF.2 ⟨by omega,by omega⟩,by omega,fun x hx=>?_⟩
   have hx:=this.1 x hx
   simp only[gJ,ae]
   exact⟨cF.2 ⟨by omega,by omega⟩,uT hx.1 hx.2 (by simp)⟩
def Lf(l:Int)(vals:List Bool):Bool:=decide (l≠0)&&(within l (-vals.length) vals.length&&(vals.getD (l.natAbs-1) false == decide (0<l)))
def Hz(c:List Int)(vals:List Bool):Bool:=c.any fun l=>Lf l vals
def Pl(c:dq)(vals:List Bool):Bool:=mK c&&(decide ((vals.length:Int)=c.many)&&c.list.all fun x=>Hz x vals)
def OU(list:List Form)(vals:List Bool):List Bool:=match bS list with
 | none=>[]
 | some atoms=>if vals.length=atoms.length then vals++(list.flatMap cy).map (holds fun a=>vals.getD (bD atoms a).toNat false) else []
def Py(vals:List Bool)(i:Int):Bool:=vals.getD (i.toNat-1) false
theorem KF{list:List Form}{atoms:List Atom}(h:bS list=some atoms)(v:Int→Bool):(hU list).many=atoms.length+(list.flatMap cy).length∧lE v (hU list)=(BN v (fun a=>v (bD atoms a+1)) atoms.length (list.flatMap cy)&&list.all (holds fun a=>v (bD atoms a+1))):=by
 obtain⟨p1,p2,p3,p4⟩:=dB h
 have:=FR v atoms list ⟨atoms.length,[]⟩ (fun f hf=>⟨p2 f hf,by rw[p4];exact jH hf⟩) (fM _) (by simp only;omega)
 rw[kb h]
 simpa[lE] using this
theorem GB(l:List Atom)(a:Atom):-1≤bD l a∧((bD l a).toNat<l.length∨l=[]):=by
 have h1:=CN (p:=fun b=>decide (a=b)) (xs:=l) (i:=0)
 have h2:=o8 (p:=fun b=>decide (a=b)) (xs:=l) (i:=0) (by omega)
 have e:bD l a=cL (fun b=>decide (a=b)) l 0:=rfl
 rw[←e] at h1 h2
 have h3:-1≤bD l a:=by split at h2<;>omega
 refine⟨h3,?_⟩
 cases l with
 | nil=>exact .inr rfl
 | cons x xs=>left;simp only[aq] at h1⊢;omega
end Go.Mod
