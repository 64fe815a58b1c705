/-
  Clause form, what it means, in plain Lean. No program is walked here.
-/
import Derived.Test.YtnhdminpjihbnaaGreatKAEa
set_option linter.unusedVariables false
set_option linter.unusedSimpArgs false
open Bool renaming and_eq_true→ab,false_eq_true→aw,and_true→iP
open Classical renaming em→aa
open List renaming getElem_mem→ah,mem_cons→ax,length_append→ay,length_cons→aG,not_mem_nil→bB,contains_iff_mem→cJ,all_cons→cY,any_eq_true→gG
namespace Go.Mod
open Go.Eng
def iy(v:Int→Bool)(l:Int):Bool:=if 0<l then v l else !v (-l)
def lu(v:Int→Bool)(c:List Int):Bool:=c.any (iy v)
def pb(v:Int→Bool)(c:gI):Bool:=c.au.all (lu v)
theorem jM{v:Int→Bool}{l:Int}(h:l≠0):iy v (-l)= !iy v l:=by unfold iy;rcases Int.lt_or_gt_of_ne h with h1|h1;rw[if_pos oM,if_neg oM];simp;rw[if_neg oM,if_pos h1];simp
theorem yo{v:Int→Bool}{l:Int}(h:0<l):iy v l=v l:=by rw[iy,if_pos h]
theorem Su{v:Int→Bool}{a b:List Int}(h:∀x,x∈a↔x∈b):lu v a=lu v b:=by
 have key:lu v a=true↔lu v b=true:=by simp only[lu,gG];exact⟨fun⟨x,h1,h2⟩=>⟨x,(h x).1 h1,h2⟩,fun⟨x,h1,h2⟩=>⟨x,(h x).2 h1,h2⟩⟩
 cases h1:lu v a<;>cases h2:lu v b<;>simp_all
theorem RM{v:Int→Bool}{a:List Int}{l:Int}(h0:l≠0)(h1:l∈a)(h2:-l∈a):lu v a=true:=by simp only[lu,gG];cases h:iy v l;exact⟨-l,h2,by rw[jM h0,h];rfl⟩;exact⟨l,h1,h⟩
theorem yK(v:Int→Bool)(c:gI){l:List Int}(h:∀x∈l,iq x 60=true):pb v (fF c l)=(pb v c&&lu v l):=by
 have e:=rL l;unfold fF;cases hf:EH l with
 | true=>rw[hf] at e;simp only[if_true] at e;rw[e];simp only[pb,List.all_append,cY,List.all_nil,iP];rw[Su fun x=>(xe (ik l) x).trans (vk l x)]
 | false=>rw[hf] at e;simp only[aw,if_false] at e;rw[e];simp only[EH] at hf;obtain⟨x,hx,hb⟩:=List.all_eq_false.1 hf;have hm:=h x hx;rw[hm,Bool.true_and] at hb;have hc:-x∈l:=(by have:l.contains (-x)=true:=(by cases hq:l.contains (-x);rw[hq] at hb;exact(hb rfl).elim;rfl);exact cJ.1 this);rw[RM (mN.1 hm).1 hx hc,iP]
def op2(k:Int)(x y:Bool):Bool:=if k=3 then x&&y else if k=4 then x||y else if k=5 then !x||y else x == y
def U2(l:Int):Prop:=l≠0 ∧ -60≤l∧l≤60
theorem nh{l:Int}(h:U2 l):iq l 60=true:=mN.2 h
theorem sX{l:Int}(h:U2 l):U2 (-l):=⟨by have:=h.1;omega,by have:=h.2;omega,by have:=h.2;omega⟩
theorem abJ(v:Int→Bool)(c:gI){m a b:Int}(hm:U2 m)(ha:U2 a)(hb:U2 b):pb v (XI c m a b)=(pb v c&&(iy v m == (iy v a||iy v b))):=by have n1:=nh hm;have n2:=nh ha;have n3:=nh hb;have n4:=nh (sX hm);have n5:=nh (sX ha);have n6:=nh (sX hb);unfold XI;rw[yK v _ (by simp[n4,n2,n3]),yK v _ (by simp[n1,n6]),yK v _ (by simp[n1,n5])];simp only[lu,List.any_cons,List.any_nil,Bool.or_false,jM hm.1,jM ha.1,jM hb.1];cases pb v c<;>cases iy v m<;>cases iy v a<;>cases iy v b<;>rfl
theorem ahi(v:Int→Bool)(c:gI){m a b:Int}(hm:U2 m)(ha:U2 a)(hb:U2 b):pb v (M6 c m a b)=(pb v c&&(iy v m == (iy v a == iy v b))):=by have n1:=nh hm;have n2:=nh ha;have n3:=nh hb;have n4:=nh (sX hm);have n5:=nh (sX ha);have n6:=nh (sX hb);unfold M6;rw[yK v _ (by simp[n1,n5,n6]),yK v _ (by simp[n1,n2,n3]),yK v _ (by simp[n4,n2,n6]),yK v _ (by simp[n4,n5,n3])];simp only[lu,List.any_cons,List.any_nil,Bool.or_false,jM hm.1,jM ha.1,jM hb.1];cases pb v c<;>cases iy v m<;>cases iy v a<;>cases iy v b<;>rfl
theorem afj(v:Int→Bool)(k:Int)(c:gI){m a b:Int}(hm:U2 m)(ha:U2 a)(hb:U2 b):pb v (pM k c m a b)=(pb v c&&(iy v m == op2 k (iy v a) (iy v b))):=by unfold pM op2;split;rw[abJ v c (sX hm) (sX ha) (sX hb)];simp only[jM hm.1,jM ha.1,jM hb.1];cases pb v c<;>cases iy v m<;>cases iy v a<;>cases iy v b<;>rfl;split;exact abJ v c hm ha hb;split;rw[abJ v c hm (sX ha) hb];simp only[jM ha.1];exact ahi v c hm ha hb
def PG(v:Int→Bool)(w:bz→Bool):Int→List aU→Bool
 | _,[]=>true
 | m,f::fs=>(v (m+1) == holds w f)&&PG v w (m+1) fs
theorem Fm(v:Int→Bool)(w:bz→Bool):∀(a b:List aU)(m:Int),PG v w m (a++b)=(PG v w m a&&PG v w (m+a.length) b)
 | [],b,m=>by simp[PG]
 | f::a,b,m=>by simp only[List.cons_append,PG,Fm v w a b,aG,Bool.and_assoc];rw[show m+1+(a.length:Int)=m+((a.length+1:Nat):Int) by omega]
theorem FA(w:bz→Bool)(t:aU):holds w t=yx t.kind t.lit (sg w t.ar) w:=by cases t;rfl
theorem ZS{w:bz→Bool}{t:aU}(h:t.kind=1):holds w t=(w t.lit.aY != t.lit.no):=by rw[FA,yx,if_pos h]
theorem w8(w:bz→Bool):∀(ks:List aU)(i:Nat)(h:i<ks.length),(sg w ks).getD i false=holds w ks[i]
 | [],i,h=>by simp at h
 | t::ts,0,_=>rfl
 | t::ts,i+1,h=>by simp only[sg,List.getD_cons_succ,List.getElem_cons_succ];exact w8 w ts i (by simpa using h)
theorem aaq{w:bz→Bool}{t:aU}(h:t.kind=2)(hl:t.ar.length=1):holds w t= !holds w t.ar[0]:=by rw[FA,yx,if_neg oM,if_pos h,w8 w _ 0 oM]
theorem HU{w:bz→Bool}{t:aU}(h1:t.kind≠1)(h2:t.kind≠2)(hl:t.ar.length=2):holds w t=op2 t.kind (holds w t.ar[0]) (holds w t.ar[1]):=by rw[FA,yx,if_neg h1,if_neg h2,w8 w _ 0 oM,w8 w _ 1 oM];rfl
theorem X0(v:Int→Bool):∀(t:aU)(d:Nat)(atoms:List bz)(c:gI),bH t d=true→inside atoms t→(atoms.length:Int)≤c.aP→c.aP+dY t d≤60 →
 (cF atoms t c).1.aP=c.aP+(fb t).length∧pb v (cF atoms t c).1=(pb v c&&PG v (fun a=>v (dk atoms a+1)) c.aP (fb t)) ∧
 (PG v (fun a=>v (dk atoms a+1)) c.aP (fb t)=true→iy v (cF atoms t c).2=holds (fun a=>v (dk atoms a+1)) t):=by
 refine aU.ind fun k l ks ih d atoms c hsh jY hc hb=>?_
 generalize ht:aU.mk k l ks=t at *
 have hkids:t.ar=ks:=by rw[←ht];rfl
 rw[←hkids] at ih
 cases d with
 | zero=>rw[←ht] at hsh;simp[bH] at hsh
 | succ d=>
 have hk:=fY hsh
 have hmany:dY t (d+1)=1+dp t.ar d:=by rw[←ht];rfl
 rcases sR hk.1 with⟨k1,hl0⟩|⟨k2,hl1⟩|⟨k3,hl2⟩
 ·rw[Cj k1,Kx k1,ZS k1]
  have hmem:=zD jY k1
  have b1:=oN.2 hmem
  refine⟨by simp,by simp[PG],fun _=>?_⟩
  cases hno:t.lit.no
  ·simp only[aw,if_false,Bool.bne_false]
   exact yo oM
  ·simp only[if_true,Bool.bne_true]
   rw[jM oM,yo oM]
 ·have h0:0<t.ar.length:=oM
  have hk0:=ah h0
  have hs0:=dF hk.2.2 _ hk0
  have hi0:=gH jY oM _ hk0
  have e1:dp t.ar d=dY t.ar[0] d:=by obtain⟨u,hu⟩:=List.length_eq_one_iff.1 hl1;simp[hu,dp]
  obtain⟨i1,i2,i3⟩:=ih t.ar[0] hk0 d atoms c hs0 hi0 hc oM
  have q0:=kZ t.ar[0] d atoms c hs0 hi0 hc oM
  rw[Cb k2 hl1,Nt k2 hl1,aaq k2 hl1]
  exact⟨i1,i2,fun h=>by rw[jM q0.1,i3 h]⟩
 ·have n1:t.kind≠1:=oM
  have n2:t.kind≠2:=oM
  have h0:0<t.ar.length:=oM
  have h1:1<t.ar.length:=oM
  have hk0:=ah h0
  have hs0:=dF hk.2.2 _ hk0
  have hi0:=gH jY n1 _ hk0
  have hk1:=ah h1
  have hs1:=dF hk.2.2 _ hk1
  have hi1:=gH jY n1 _ hk1
  have e1:dp t.ar d=dY t.ar[0] d+dY t.ar[1] d:=by
   have key:∀ks:List aU,(hl:ks.length=2)→dp ks d=dY ks[0] d+dY ks[1] d:=by
    intro ks hl
    match ks,hl with
    | [u,u'],_=>simp[dp]
   exact key _ hl2
  have g0:=ja t.ar[0] d atoms c hs0
  have q0:=kZ t.ar[0] d atoms c hs0 hi0 hc oM
  obtain⟨i1,i2,i3⟩:=ih t.ar[0] hk0 d atoms c hs0 hi0 hc oM
  have g1:=ja t.ar[1] d atoms (cF atoms t.ar[0] c).1 hs1
  have q1:=kZ t.ar[1] d atoms (cF atoms t.ar[0] c).1 hs1 hi1 oM oM
  obtain⟨j1,j2,j3⟩:=ih t.ar[1] hk1 d atoms (cF atoms t.ar[0] c).1 hs1 hi1 oM oM
  rw[Ca n1 n2 hl2,Lo n1 n2 hl2,HU n1 n2 hl2]
  generalize cF atoms t.ar[0] c=r1 at *
  generalize cF atoms t.ar[1] r1.1=r2 at *
  have a0:U2 (r2.1.aP+1):=⟨oM,oM,oM⟩
  have a1:U2 r1.2:=⟨q0.1,oM,oM⟩
  have a2:U2 r2.2:=⟨q1.1,oM,oM⟩
  have e2:pb v (⟨r2.1.aP+1,r2.1.au⟩:gI)=pb v r2.1:=rfl
  refine⟨?_,?_,?_⟩
  ·simp only[vL,ay,List.length_singleton]
   omega
  ·rw[afj v _ _ a0 a1 a2,e2,j2,i2,Fm,Fm,i1,yo oM]
   simp only[PG,iP]
   rw[show c.aP+((fb t.ar[0]++fb t.ar[1]).length:Int)+1=r2.1.aP+1 by rw[ay];omega]
   rw[i1] at j3
   cases z1:PG v (fun a=>v (dk atoms a+1)) c.aP (fb t.ar[0])
   ·simp
   ·cases z2:PG v (fun a=>v (dk atoms a+1)) (c.aP+(fb t.ar[0]).length) (fb t.ar[1])
    ·simp
    ·rw[i3 z1,j3 z2,←HU n1 n2 hl2]
     simp
  ·intro h
   rw[Fm,ab,PG] at h
   have h2:=h.2
   simp only[PG,iP,beq_iff_eq] at h2
   rw[show c.aP+((fb t.ar[0]++fb t.ar[1]).length:Int)+1=r2.1.aP+1 by rw[ay];omega] at h2
   rw[yo oM,h2,HU n1 n2 hl2]
theorem YV(v:Int→Bool)(atoms:List bz):∀(fs:List aU)(c:gI),(∀f∈fs,jq f=true∧inside atoms f)→(atoms.length:Int)≤c.aP→c.aP+10*fs.length≤60 →
 (rU atoms fs c).aP=c.aP+(fs.flatMap fb).length∧pb v (rU atoms fs c)=(pb v c&&(PG v (fun a=>v (dk atoms a+1)) c.aP (fs.flatMap fb)&&fs.all (holds fun a=>v (dk atoms a+1))))
 | [],c,_,_,_=>by simp[rU,PG]
 | f::fs,c,hf,hc,hb=>by obtain⟨f1,f2⟩:=hf f (by simp);have hs:=nT f1;simp only[aG] at hb;obtain⟨i1,i2,i3⟩:=X0 v f 5 atoms c hs.1 f2 hc oM;have g:=ja f 5 atoms c hs.1;have q:=kZ f 5 atoms c hs.1 f2 hc oM;have a1:U2 (cF atoms f c).2:=⟨q.1,oM,oM⟩;have ih:=YV v atoms fs (fF (cF atoms f c).1 [(cF atoms f c).2]) (fun x hx=>hf x (by simp[hx])) (by rw[mr];omega) (by rw[mr];omega);simp only[mr] at ih;obtain⟨j1,j2⟩:=ih;rw[yK v _ (by simp[nh a1]),i2] at j2;simp only[rU,List.flatMap_cons,ay,cY,Fm];refine⟨by rw[j1,i1];omega,?_⟩;rw[j2,i1];simp only[lu,List.any_cons,List.any_nil,Bool.or_false];cases z:PG v (fun a=>v (dk atoms a+1)) c.aP (fb f);simp;rw[i3 z];cases pb v c<;>cases holds (fun a=>v (dk atoms a+1)) f<;>simp
def Good(m:Int)(x:List Int):Prop:=YB x∧∀l∈x,l≠0 ∧ -m≤l∧l≤m
theorem QE{l o:List Int}(h:hQ l=some o):YB o:=by
 have e:=rL l;rw[h] at e;cases hf:EH l with
 | false=>rw[hf] at e;cases e
 | true=>rw[hf] at e;simp only[if_true,Option.some.injEq] at e;rw[e];simp only[EH,List.all_eq_true,ab] at hf;refine AY (CA l) fun x hx y hy hxy=>?_;have hx:=(vk l x).1 hx;have hy:=(vk l y).1 hy;have h1:=hf x hx;rcases Int.natAbs_eq_natAbs_iff.1 hxy with h2|h2;exact h2;exfalso;have h3:l.contains (-x)=true:=cJ.2 (by rw[h2];simpa using hy);rw[h3] at h1;exact absurd h1.2 (by simp)
theorem qJ{m:Int}{c:gI}{l:List Int}(hc:∀x∈c.au,Good m x)(hl:∀x∈l,x≠0 ∧ -m≤x∧x≤m):∀x∈(fF c l).au,Good m x:=by unfold fF;split;exact hc;rename_i o ho;intro x hx;simp only[List.mem_append,List.mem_singleton] at hx;rcases hx with hx|rfl;exact hc x hx;exact⟨QE ho,fun y hy=>hl y ((Qa ho).2 y hy)⟩
theorem ae1{m n:Int}(h:m≤n){x:List Int}(hx:Good m x):Good n x:=⟨hx.1,fun l hl=>by have:=hx.2 l hl;exact⟨this.1,oM,oM⟩⟩
theorem VS{m k v a b:Int}{c:gI}(hc:∀x∈c.au,Good m x)(hv:v≠0 ∧ -m≤v∧v≤m)(ha:a≠0 ∧ -m≤a∧a≤m)(hb:b≠0 ∧ -m≤b∧b≤m):∀x∈(pM k c v a b).au,Good m x:=by
 have o:∀(v a b:Int),v≠0 ∧ -m≤v∧v≤m→a≠0 ∧ -m≤a∧a≤m→b≠0 ∧ -m≤b∧b≤m→∀x∈(XI c v a b).au,Good m x:=fun v a b h1 h2 h3=>by unfold XI;refine qJ (qJ (qJ hc ?_) ?_) ?_<;>(intro x hx;simp only[ax,bB,or_false] at hx;omega)
 have i:∀x∈(M6 c v a b).au,Good m x:=by unfold M6;refine qJ (qJ (qJ (qJ hc ?_) ?_) ?_) ?_<;>(intro x hx;simp only[ax,bB,or_false] at hx;omega)
 unfold pM;split;exact o _ _ _ oM oM oM;split;exact o _ _ _ hv ha hb;split;exact o _ _ _ hv oM hb;exact i
theorem Ep:∀(t:aU)(d:Nat)(atoms:List bz)(c:gI),bH t d=true→inside atoms t→(atoms.length:Int)≤c.aP→(∀x∈c.au,Good c.aP x)→∀x∈(cF atoms t c).1.au,Good (cF atoms t c).1.aP x:=by
 refine aU.ind fun k l ks ih d atoms c hsh jY hc hg=>?_;generalize ht:aU.mk k l ks=t at *;have hkids:t.ar=ks:=by rw[←ht];rfl
 rw[←hkids] at ih;cases d with
 | zero=>rw[←ht] at hsh;simp[bH] at hsh
 | succ d=>
 have hk:=fY hsh;rcases sR hk.1 with⟨k1,hl0⟩|⟨k2,hl1⟩|⟨k3,hl2⟩;rw[Cj k1];exact hg;have h0:0<t.ar.length:=oM;have hk0:=ah h0;rw[Cb k2 hl1];exact ih t.ar[0] hk0 d atoms c (dF hk.2.2 _ hk0) (gH jY oM _ hk0) hc hg;have n1:t.kind≠1:=oM;have n2:t.kind≠2:=oM;have h0:0<t.ar.length:=oM;have h1:1<t.ar.length:=oM;have hk0:=ah h0;have hs0:=dF hk.2.2 _ hk0;have hi0:=gH jY n1 _ hk0;have hk1:=ah h1;have hs1:=dF hk.2.2 _ hk1;have hi1:=gH jY n1 _ hk1;have g0:=ja t.ar[0] d atoms c hs0;have q0:=kZ t.ar[0] d atoms c hs0 hi0 hc oM;have r0:=ih t.ar[0] hk0 d atoms c hs0 hi0 hc hg;have g1:=ja t.ar[1] d atoms (cF atoms t.ar[0] c).1 hs1;have q1:=kZ t.ar[1] d atoms (cF atoms t.ar[0] c).1 hs1 hi1 oM oM;have r1:=ih t.ar[1] hk1 d atoms (cF atoms t.ar[0] c).1 hs1 hi1 oM r0;rw[Ca n1 n2 hl2];simp only[vL];refine VS (fun x hx=>ae1 ?_ (r1 x hx)) ?_ ?_ ?_<;>omega
def afL(l:Int)(aV:List Bool):Bool:=decide (l≠0)&&(c8 l (-aV.length) aV.length&&(aV.getD (l.natAbs-1) false == decide (0<l)))
def aa9(c:List Int)(aV:List Bool):Bool:=c.any fun l=>afL l aV
def akp(c:gI)(aV:List Bool):Bool:=qP c&&(decide ((aV.length:Int)=c.aP)&&c.au.all fun x=>aa9 x aV)
def ajT(au:List aU)(aV:List Bool):List Bool:=match cR au with
 | none=>[]
 | some atoms=>if aV.length=atoms.length then aV++(au.flatMap fb).map (holds fun a=>aV.getD (dk atoms a).toNat false) else []
def RO(aV:List Bool)(i:Int):Bool:=aV.getD (i.toNat-1) false
theorem aa1{v:Int→Bool}{w:bz→Bool}:∀{fs:List aU}{m:Int},(∀(j:Nat)(h:j<fs.length),v (m+1+j)=holds w fs[j])→PG v w m fs=true
 | [],_,_=>rfl
 | f::fs,m,hk=>by simp only[PG,ab,beq_iff_eq];have h0:=hk 0 (by simp);refine⟨by simpa only[Int.natCast_zero,Int.add_zero,List.getElem_cons_zero] using h0,aa1 fun j h=>?_⟩;have:=hk (j+1) (by simpa using h);rw[show m+1+((j+1:Nat):Int)=m+1+1+j by omega] at this;simpa using this
theorem QY{au:List aU}{atoms:List bz}(h:cR au=some atoms)(v:Int→Bool):(gU au).aP=atoms.length+(au.flatMap fb).length∧pb v (gU au)=(PG v (fun a=>v (dk atoms a+1)) atoms.length (au.flatMap fb)&&au.all (holds fun a=>v (dk atoms a+1))):=by obtain⟨p1,p2,p3,p4⟩:=fZ h;have:=YV v atoms au ⟨atoms.length,[]⟩ (fun f hf=>⟨p2 f hf,by rw[p4];exact pf hf⟩) (Int.le_refl _) (by simp only;omega);rw[zM h];simpa[pb] using this
theorem ZR(l:List bz)(a:bz):-1≤dk l a∧((dk l a).toNat<l.length∨l=[]):=by
 have h1:=M0 (p:=fun b=>decide (a=b)) (xs:=l) (i:=0);have h2:=w6 (p:=fun b=>decide (a=b)) (xs:=l) (i:=0) oM;have e:dk l a=eM (fun b=>decide (a=b)) l 0:=rfl;rw[←e] at h1 h2;have h3:-1≤dk l a:=by split at h2<;>omega
 refine⟨h3,?_⟩;cases l with
 | nil=>exact .inr rfl
 | cons x xs=>left;simp only[aG] at h1⊢;omega
set_option maxRecDepth 100000
theorem Pm{a:bz}:∀{l:List bz}{i:Nat},a∈l→∃j:Nat,eM (fun b=>decide (a=b)) l i=((i+j:Nat):Int)∧l[j]?=some a
 | [],_,h=>by simp at h
 | x::xs,i,h=>by
  simp only[eM];rcases aa (a=x) with hx|hx;rw[if_pos (by simpa using hx)];exact⟨0,by simp,by simp[hx]⟩;rw[if_neg (by simpa using hx)];have hm:a∈xs:=by rcases ax.1 h with h|h;exact(hx h).elim;exact h
  obtain⟨j,h1,h2⟩:=Pm (l:=xs) (i:=i+1) hm;refine⟨j+1,?_,by simpa using h2⟩;have e:((i:Int)+1)=((i+1:Nat):Int):=oM;rw[e,h1];omega
theorem BK{l:List bz}{a:bz}(h:a∈l):∃j:Nat,dk l a=j∧∃hj:j<l.length,l[j]=a:=by obtain⟨j,h1,h2⟩:=Pm (i:=0) h;refine⟨j,by simpa[dk,idxOf] using h1,?_⟩;have hj:=(List.getElem?_eq_some_iff.1 h2);exact hj
theorem Pl{p q:bz→Bool}:∀(ts:List aU),(∀t∈ts,holds p t=holds q t)→sg p ts=sg q ts
 | [],_=>rfl
 | t::ts,h=>by rw[sg,sg,h t (by simp),Pl ts fun x hx=>h x (by simp[hx])]
theorem LX{own:List bz}{p q:bz→Bool}(hpq:∀a∈own,p a=q a):∀(t:aU),inside own t→holds p t=holds q t:=
 aU.ind fun k l ks ih jY=>by rw[FA,FA q];rcases aa (k=1) with h1|h1;have:=hpq _ (zD jY h1);simp only[yx,aU.kind,aU.lit,h1,if_true] at this⊢;rw[this];have e:sg p ks=sg q ks:=Pl _ fun t ht=>ih t ht (gH jY h1 t ht);show yx k l (sg p ks) p=yx k l (sg q ks) q;rw[e];simp only[yx,h1,if_false]
theorem Xw{t:aU}(w:bz→Bool)(h:jq t=true):R4 t ((ct [] t).map w)=some (holds w t):=by simp only[R4,h,List.length_map,decide_true,Bool.and_self,if_true,Option.some.injEq];refine LX (own:=ct [] t) (fun a ha=>?_) t (fun u hu=>hu);obtain⟨j,h1,hj,h2⟩:=BK ha;rw[h1,Int.toNat_natCast,List.getD_eq_getElem?_getD,List.getElem?_eq_getElem (by simpa using hj)];simp[h2]
end Go.Mod
