/-
  The reference: the walk of closures. A step towards the laws.
-/
import Derived.Test.YtphcpjhkeipggaaGreatKBEk
import Derived.Test.YtphcpjhkeipggaaGreatKByb
set_option linter.unusedVariables false
set_option linter.unusedSimpArgs false
open Int renaming reduceEq→Z1,reduceLT→Z2,reduceLE→Z3,reduceToNat→Z4
open And renaming intro→an
open Bool renaming true_and→aA,false_and→aI
open Classical renaming em→aa
open List renaming drop_eq_getElem_cons→ae,getElem?_eq_getElem→af,getElem_mem→aj,drop_of_length_le→ak,mem_cons→az,getD_eq_getElem?_getD→aB,mem_append→aO,not_mem_nil→bf,range→bK,nodup_append→dU,range'→fk
open Nat renaming le_refl→aK,zero_le→bo
open Option renaming getD_some→cg,isSome_some→dw,getD_none→iW,isSome_none→lR
namespace Go.Proofs.YtphcpjhkeipggaaGreat
open Go.Eng Go.Mod
set_option maxRecDepth 100000
set_option maxHeartbeats 3200000
theorem MO(a b:Nat):CN 339 [iv a,iv b] (iv ((max a b:Nat):Int)):=by refine gS 10 [.tmp 4] hm Tryz.func339 fun hl he cf=>?_;rcases aa (b<a) with h|h;have e:max a b=a:=oM;exact gG h e;have e:max a b=b:=oM;exact gG h e
theorem xv(c:List Nat)(a b:Nat)(ha:a<c.length)(hb:b<c.length)(hl:c.length≤1000)(hc:∀x∈c,x≤1000):C E.P 293 [.aX 0,iv a,iv b] [some (.aX 3 (db c))] (jF (.aX 0) [some (.aX 3 (db (iw c a b)))]):=by
 have ea:c[a]=cl c a:=(jt ha).symm;have eb:c[b]=cl c b:=(jt hb).symm;have la:=hc _ (DU ha);have lb:=hc _ (DU hb);have e1:(cl c a:Int)+(cl c b:Int)-((max (cl c a) (cl c b):Nat):Int)=((min (cl c a) (cl c b):Nat):Int):=oM;obtain⟨f,hf⟩:∃f,max (cl c a) (cl c b)=f:=⟨_,rfl⟩;obtain⟨t,ht⟩:∃t,min (cl c a) (cl c b)=t:=⟨_,rfl⟩;have hend:∀i,c.length≤i→iJ c f t i=iw c a b:=fun i hi=>by rw[←hf,←ht];exact LU hi
 rw[hf,ht] at e1;refine gS 47 [.tmp 6] hm Tryz.func293 fun hl he cf=>?_;simp -implicitDefEqProofs only[go_sem,ha,hb,ea,eb];refine aC [] (MO (cl c a) (cl c b)) ?_;refine iK ?_;rw[hf];simp -implicitDefEqProofs only[go_sem,ha,hb,ea,eb];refine sQ ?_;rw[e1];refine cS hm (fun(i:Nat)=> i≤c.length) (fun(i:Nat)=> ⟨dN 47 .any [(0,.aX 0),(7,iv f),(8,iv t),(9,iv i)],[some (.aX 3 (db (iJ c f t i)))]⟩) (fun(i:Nat)=> c.length-i) (0) ?_ (aZ fe ?_ ?_ rfl rfl) ?_;rotate_left;exact sC
 ·refine sA ?_;all_goals((simp[iJ]))
 rotate_left;omega;rintro i hi;have hjl:=vx c f t i;rcases aa (i<c.length) with h1|h1
 ·have h1':i<(iJ c f t i).length:=oM;have eg:=vk (f:=f) (t:=t) h1 h1';rcases aa (c[i]=f) with h2|h2
  ·have k2:(c[i]=f)=True:=eq_true oM;have hp:=xG (l:=iJ c f t i) (i:=i) (n:=t) h1';have hn:=tv (f:=f) (t:=t) h1;rw[if_pos h2] at hn;rw[se h1',eg] at hp;simp -implicitDefEqProofs only[go_sem,hjl,h1,eg,k2];refine sQ ?_;refine⟨i+1,?_,sL,aZ fe ?_ ?_ rfl rfl⟩;rotate_left;exact sC
   ·refine sA ?_;all_goals((rw[hp,hn]))
   exact h1
  have k2:¬c[i]=f:=oM;have hn:=wA (f:=f) (t:=t) h1 h2;simp -implicitDefEqProofs only[go_sem,hjl,h1,eg,k2];refine sQ ?_;refine⟨i+1,?_,sL,aZ fe ?_ ?_ rfl rfl⟩;rotate_left;exact sC
  ·refine sA ?_;all_goals((rw[hn]))
  exact h1
 rw[hend i oM] at hjl⊢;simp -implicitDefEqProofs only[go_sem,hjl,h1];refine bX fe ?_ rfl rfl;exact sC
theorem KR(al:List ax)(c:List Nat)(a b:Nat)(hk:jv al)(ha:a<al.length)(hb:b<al.length)(hc:c.length=al.length)(qF:al.length≤1000)(hk9:∀t∈al,t.ar.length≤1000):CN 340 [lv (aU al),lv (db c),iv a,iv b] (bv (alike al c a b)):=by
 have e1:al.getD a aQ=al[a]:=by rw[aB,af ha];rfl
 have e2:al.getD b aQ=al[b]:=by rw[aB,af hb];rfl
 have ka:=hk _ (aj ha);have la:=hk9 _ (aj ha);have kb:=hk _ (aj hb);have e:alike al c a b=(decide (0<al[a].ar.length)&&(decide (al[a].name=al[b].name)&&nQ al c al[a].ar al[b].ar)):=by rw[alike,e1,e2]
 refine gS 68 [.tmp 8] hm Tryz.func340 fun hl he cf=>?_;refine iI ha hb ?_;obtain⟨x,hx⟩:∃x,al[a]=x:=⟨_,rfl⟩;obtain⟨y,hy⟩:∃y,al[b]=y:=⟨_,rfl⟩;rw[hx] at e ka la;rw[hy] at e kb;rcases aa (x.name=y.name) with h1|h1;rcases aa (x.ar.length=y.ar.length) with h2|h2;have k1:=eq_true h1;rcases aa ((y.ar.length:Int)=0) with h3|h3;have k3:=eq_true h3;have h3':¬0<x.ar.length:=oM;exact mH hx hy (an k1 (an h2 (an k3 (an e h3'))));have h3':0<x.ar.length:=oM;rw[decide_eq_true h3',decide_eq_true h1,aA,aA] at e;refine ot hx hy (an k1 (an h2 h3)) ?_;refine kC hm y.ar.length (fun(i:Nat)=>alike al c a b=nQ al c (x.ar.drop i) (y.ar.drop i)) (fun i=>⟨dN 68 .any [(0,lv (aU al)),(1,lv (db c)),(9,.bA 0 0),(10,.bA 1 0),(11,iv i)],[some (.box (dm (cT x))),some (.box (dm (cT y)))]⟩) ?_ (cM kR) ?_;exact⟨bo _,e⟩;rintro i ⟨hi,hg⟩;rcases aa (i<y.ar.length) with h4|h4;have h5:i<x.ar.length:=oM;have mx:=ka _ (aj h5);have my:=kb _ (aj h4);have px:=bT mx;have py:=bT my;have cx:=cX mx;have cy:=cX my;have px':aM al x.ar[i]<c.length:=oM;have py':aM al y.ar[i]<c.length:=oM;have ex:c[aM al x.ar[i]]=cl c (aM al x.ar[i]):=(jt px').symm;have ey:c[aM al y.ar[i]]=cl c (aM al y.ar[i]):=(jt py').symm;rw[Ik h5 h4] at hg;have es:NX al c x.ar[i] y.ar[i]=decide (cl c (aM al x.ar[i])=cl c (aM al y.ar[i])):=rfl;rw[es] at hg;refine iI h2 h4 ?_;refine aC [] (dG al x.ar[i]) ?_;refine ot cx px' (an ex h4) ?_;refine aC [] (dG al y.ar[i]) ?_;refine ot cy py' ey ?_;refine iK ?_;rcases aa (cl c (aM al x.ar[i])=cl c (aM al y.ar[i])) with h6|h6;have k6:(cl c (aM al x.ar[i])=cl c (aM al y.ar[i]))=True:=eq_true oM;rw[decide_eq_true h6,aA] at hg;refine du k6 ?_;exact⟨i+1,⟨oM,hg⟩,sL,cM kR⟩;have k6:¬cl c (aM al x.ar[i])=cl c (aM al y.ar[i]):=oM;rw[decide_eq_false h6,aI] at hg;exact gG k6 hg;rw[ak oM,ak oM,Ka] at hg;exact mH h2 h4 hg;have k1:=eq_true h1;have k2:¬x.ar.length=y.ar.length:=oM;have e3:alike al c a b=false:=by rw[e,Dn h2];simp
 exact mH hx hy (an k1 (an k2 e3));have k1:=eq_false h1;exact mH hx hy (an k1 (an e h1))
theorem CQ(al:List ax)(c:List Nat)(hk:jv al)(hc:c.length=al.length)(qF:al.length≤1000)(hk9:∀t∈al,t.ar.length≤1000):CN 294 [lv (aU al),lv (db c)] (.iZ [iv (((gQ al c).getD (0,0)).1:Nat),iv (((gQ al c).getD (0,0)).2:Nat),bv (gQ al c).isSome]):=by refine gS 38 [.tmp 4,.tmp 5,.tmp 6] hm Tryz.func294 fun hl he cf=>?_;refine kC hm al.length (fun(l:Nat)=>gQ al c=(lC l al.length).find? (fun p=>o8 al c p.1 p.2)) (fun l=>⟨dN 38 .any [(0,lv (aU al)),(1,lv (db c)),(7,iv l)],[]⟩) ?_ (cM []) ?_;exact⟨bo _,rfl⟩;rintro l ⟨hi,hg⟩;rcases aa (l<al.length) with h1|h1;rw[AF h1] at hg;refine bH h1 ?_;refine kC hm l (fun(e:Nat)=>gQ al c=(te e l al.length).find? (fun p=>o8 al c p.1 p.2)) (fun e=>⟨dN 38 .any [(0,lv (aU al)),(1,lv (db c)),(7,iv l),(8,iv e)],[]⟩) ?_ (cM []) ?_;exact⟨bo _,hg⟩;rintro e ⟨he,hg⟩;rcases aa (e<l) with h2|h2;have h2':=h2;have pe:e<c.length:=oM;have pl:l<c.length:=oM;have ee:c[e]=cl c e:=(jt pe).symm;have el:c[l]=cl c l:=(jt pl).symm;rw[CY h2,List.find?_cons] at hg;have em:o8 al c e l=(decide (cl c e≠cl c l)&&alike al c e l):=rfl;simp only[em] at hg;rcases aa (cl c l=cl c e) with h3|h3;have k3:(cl c l=cl c e)=True:=eq_true oM;rw[decide_eq_false (by omega:¬cl c e≠cl c l),aI] at hg;refine gL h2' pe (an pl (an ee (an el k3))) ?_;exact⟨e+1,⟨oM,hg⟩,sL,cM []⟩;have k3:¬cl c l=cl c e:=oM;rw[decide_eq_true (by omega:cl c e≠cl c l),aA] at hg;refine ot h2' pe (an pl (an ee (an el k3))) ?_;refine sa [] (KR al c e l hk oM h1 hc qF hk9) ?_;cases h4:alike al c e l;rw[h4] at hg;refine bt ?_;exact⟨e+1,⟨oM,hg⟩,sL,cM []⟩;rw[h4] at hg;simp only at hg;exact dD hg;have h2':=h2;rw[Fw oM] at hg;refine du h2' ?_;exact⟨l+1,⟨oM,hg⟩,sL,cM []⟩;rw[C4 oM,List.find?_nil] at hg;exact gG h1 hg
set_option maxHeartbeats 3200000
theorem SE(a:lH):fA [a]=[jn a]:=by rw[me,nw]
theorem SJ(a b:lH):fA [a,b]=[jn a,jn b]:=by rw[me,me,nw]
theorem aal(w s:lH):fA [w,.mk 3 0 aQ [s]]=[jn w,[.val (.int .i64 3),.val (.int .i64 0),.str [],.eC [],.eC [jn s]]]:=by have e:jn (.mk 3 0 aQ [s])=[.val (.int .i64 3),.val (.int .i64 0),.str [],.eC [],.eC (fA [s])]:=rfl;rw[SJ,e,SE]
theorem FQ(al:List ax)(bB:List hY)(hk:jv al)(kI:∀e∈bB,e.A∈al∧e.B∈al)(qF:al.length≤1000)(hk9:∀t∈al,t.ar.length≤1000)(he9:bB.length≤1000) :
 CN 217 [lv (aU al),lv (dF bB)] (.iZ [lv (bD (closed al bB).2),lv (db (closed al bB).1)]):=by
 refine gS 94 [.tmp 4,.tmp 5] hm Tryz.func217 fun hl he cf=>?_
 refine jr hm al.length (fun i=>⟨dN 94 .any [(0,lv (aU al)),(1,lv (dF bB)),(6,.aX 0),(7,.aX 1),(8,iv i)],[some (.aX 3 (db (bK i))),some (.aX 321 (bD []))]⟩) (cM kR) ?_
 ·rintro i hi
  have hrl:(bK i).length=i:=List.length_range
  rcases aa (i<al.length) with h1|h1
  ·refine du h1 ?_
   exact⟨i+1,h1,sL,aZ [some 2,some 1] sC (by refine sA ?_;(rw[←oh];rfl)) rfl rfl⟩
  ·obtain rfl:i=al.length:=oM
   refine bH h1 ?_
   clear hi h1
   refine aaR hm bB.length (fun(n:Nat) (c:List Nat) (ao:List Step)=>c.length=al.length∧(∀x∈c,x≤1000)∧ao.length≤n∧given al bB=kM al n (bB.drop n) c ao) (fun n c ao=>⟨dN 94 .any [(0,lv (aU al)),(1,lv (dF bB)),(6,.aX 0),(7,.aX 1),(9,iv n)],[some (.aX 3 (db c)),some (.aX 321 (bD ao))]⟩) (bK al.length) ([]) ?_ (cM kR) ?_
   ·exact⟨bo _,hrl,fun x hx=>by have:=List.mem_range.1 hx;omega,aK _,rfl⟩
   ·rintro n c ao ⟨hn,hc,hm9,hs,hg⟩
    rcases aa (n<bB.length) with h1|h1
    ·obtain⟨mA,mB⟩:=kI _ (aj h1)
     have pA:=bT mA
     have pB:=bT mB
     have cA:=cX mA
     have cB:=cX mB
     have pA':aM al bB[n].A<c.length:=oM
     have pB':aM al bB[n].B<c.length:=oM
     have eA:c[aM al bB[n].A]=cl c (aM al bB[n].A):=(jt pA').symm
     have eB:c[aM al bB[n].B]=cl c (aM al bB[n].B):=(jt pB').symm
     have hj1:=hU c (aM al bB[n].A) (aM al bB[n].B)
     have hj2:=Ba (a:=aM al bB[n].A) (b:=aM al bB[n].B) hm9
     have cj:=xv c (aM al bB[n].A) (aM al bB[n].B) pA' pB' oM hm9
     rw[ae h1,kM] at hg
     refine bH h1 ?_
     refine aC [] (dG al bB[n].A) ?_
     refine bH h1 ?_
     refine sa [] (dG al bB[n].B) ?_
     rw[cA,cB]
     generalize aM al bB[n].A=a at *
     generalize aM al bB[n].B=b at *
     rcases aa (cl c a=cl c b) with h2|h2
     ·have k2:(cl c a=cl c b)=True:=eq_true oM
      rw[if_pos h2] at hg
      refine gL pA' pB' (an eA (an eB k2)) ?_
      exact⟨n+1,c,ao,⟨oM,hc,hm9,oM,hg⟩,sL,cM kR⟩
     ·have k2:¬cl c a=cl c b:=oM
      rw[if_neg h2] at hg
      refine gL pA' pB' (an eA (an eB k2)) ?_
      refine Mw [] [0] cj ?_
      exact⟨n+1,iw c a b,ao++[⟨a,b,n⟩],⟨oM,oM,hj2,by simp;omega,hg⟩,sL,aZ [some 0,some 2] sC (by refine sA ?_;(rw[←ze,xr,uP];rfl)) rfl rfl⟩
    ·rw[ak oM,kM] at hg
     have hcl:closed al bB=l7 al c.sum c ao:=by rw[closed,hg]
     have hsum:=rU hm9
     have hsum2:c.length*1000≤1000*1000:=Nat.mul_le_mul_right _ oM
     refine bH h1 ?_
     refine AQ [] [0] (CQ al c hk hc qF hk9) ?_
     refine n6 hm (fun(f:Nat) (c:List Nat) (ao:List Step)=> c.length=al.length∧(∀x∈c,x≤1000)∧c.sum≤f∧ao.length+f≤2000000∧closed al bB=l7 al f c ao) (fun f c ao=> ⟨dN 94 .any [(0,lv (aU al)),(6,.aX 0),(7,.aX 1),(12,iv (((gQ al c).getD (0,0)).1:Nat)),(13,iv (((gQ al c).getD (0,0)).2:Nat)),(14,bv (gQ al c).isSome)],[some (.aX 3 (db c)),some (.aX 321 (bD ao))]⟩) (fun f c ao=> f) (c.sum) (c) (ao) ?_ (cM kR) ?_
     ·exact⟨hc,hm9,aK _,oM,hcl⟩
     ·clear hcl hsum hsum2 hg h1 hn hc hm9 hs
      rintro f c ao ⟨hc,hm9,hf,hs,hg⟩
      cases hp:gQ al c with
      | none=>rw[y5 hp] at hg;exact dD hg
      | some p=>obtain⟨f',rfl,hg2,hf2⟩:=y7 (ao:=ao) hf hc hp;obtain⟨p1,p2,p3,p4⟩:=sS hp;rw[hg2] at hg;have hj1:=hU c p.1 p.2;have hj2:=Ba (a:=p.1) (b:=p.2) hm9;have cj:=xv c p.1 p.2 oM oM oM hm9;have cn:=CQ al (iw c p.1 p.2) hk oM qF hk9;obtain⟨a,b⟩:=p;simp only at hg hg2 hf2 p1 p2 hj1 hj2 cj cn;refine bt ?_;refine oC [] [0] cj ?_;refine AQ [] [0] cn ?_;exact⟨f',iw c a b,ao++[⟨a,b,-1⟩],⟨oM,hj2,hf2,by simp;omega,hg⟩,sL,aZ [some 0,some 2] sC (by refine sA ?_;(rw[←ze,xr,uP];rfl)) rfl rfl⟩
theorem mf(l:List Nat)(n:Nat):CN 341 [lv (db l),iv n] (bv (decide (n∈l))):=by
 refine gS 18 [.tmp 4] hm Tryz.func341 fun hl he cf=>?_;refine kC hm l.length (fun(i:Nat)=>decide (n∈l)=decide (n∈l.drop i)) (fun i=>⟨dN 18 .any [(0,lv (db l)),(1,iv n),(5,iv i)],[]⟩) ?_ (cM []) ?_;simp;rintro i ⟨hi,hg⟩;rcases aa (i<l.length) with h1|h1;rw[ae h1] at hg;rcases aa (l[i]=n) with h2|h2;have k2:(l[i]=n)=True:=eq_true oM;have hg:decide (n∈l)=true:=by rw[hg];simp[h2]
 exact mH h1 k2 hg;have k2:¬l[i]=n:=oM;have hg:decide (n∈l)=decide (n∈l.drop (i+1)):=by rw[hg];refine decide_eq_decide.2 ⟨fun h=>?_,fun h=>List.mem_cons_of_mem _ h⟩;rcases az.1 h with h|h;exact absurd h.symm h2;exact h
 refine oH h1 k2 ?_;exact⟨i+1,⟨oM,hg⟩,sL,cM []⟩;rw[ak oM] at hg;have hg:decide (n∈l)=false:=by rw[hg];simp
 exact gG h1 hg
theorem Qr(ao:List Step)(N n to:Nat)(hv:∀s∈ao,0≤s.A∧s.A.toNat<N∧0≤s.B∧s.B.toNat<N)(hn:n≤ao.length)(hN:N≤1000)(hs9:ao.length≤2000000):∀(f:Nat),f≤2000→∀(v:Nat)(fl:List Nat),fl.Nodup→(∀x∈fl,x<N)→N+1≤f+fl.length →
 CN 295 [lv (bD ao),iv n,iv v,iv to,lv (db fl)] (.iZ [lv (bm (((xy ao n to f v fl).getD []).map xT)),bv (xy ao n to f v fl).isSome]):=by
 intro f
 induction f with
 | zero=>intro _ v fl h1 h2 h3;have:=mg h1 h2;omega
 | succ f ih=>
 intro hf9 v fl h1 h2 h3
 have eO:=mg h1 h2
 have hway:¬v=to→xy ao n to (f+1) v fl=yp (xy ao n to f) ao v fl (fk 0 (n-0)):=fun h=>by rw[xy,if_neg h,List.range_eq_range'];rfl
 have cf:=qq
 refine Ic (nt:=80) (rs:=[.tmp 10,.tmp 11]) Tryz.func295 rfl rfl rfl rfl rfl (fun hl he=>?_)
 simp -implicitDefEqProofs only[go_sem] at hl⊢
 refine jm hm ?_
 rcases aa (v=to) with h0|h0
 ·have k0:(v=to)=True:=eq_true oM
  have hw0:xy ao n to (f+1) v fl=some []:=by rw[xy,if_pos h0]
  simp -implicitDefEqProofs only[go_sem,k0,e6]
  refine fI ?_
  exact dD hw0
 ·have k0:¬v=to:=oM
  refine bH k0 ?_
  refine Yh (fun(i:Nat)=> i≤n∧xy ao n to (f+1) v fl=yp (xy ao n to f) ao v fl (fk i (n-i))) (fun i=> ⟨dN 80 .any [(0,lv (bD ao)),(1,iv n),(2,iv v),(3,iv to),(4,lv (db fl)),(12,iv i)],[]⟩) (fun i=> n-i) (0) ?_ (cM []) ?_
  ·exact⟨bo _,hway h0⟩
  ·rintro i ⟨hi,hg⟩
   rcases aa (i<n) with kI|kI
   ·have hi2:i<ao.length:=oM
    obtain⟨a0,a1,b0,b1⟩:=hv _ (aj hi2)
    have eqA:vA ao i=ao[i].A.toNat:=by rw[vA,vp hi2]
    have eqB:vB ao i=ao[i].B.toNat:=by rw[vB,vp hi2]
    have eA:ao[i].A=(vA ao i:Int):=oM
    have eB:ao[i].B=(vB ao i:Int):=oM
    rw[YB kI] at hg
    rcases aa (vB ao i=v) with hB|hB
    ·have kB:(vB ao i=v)=True:=eq_true oM
     have en:sg ao v i=some ⟨i,true⟩:=by rw[sg,if_pos hB]
     have ee:jQ ao ⟨i,true⟩=vA ao i:=rfl
     rw[en] at hg
     simp only[ee] at hg
     have hw1:vA ao i<N:=oM
     rcases aa (vA ao i=v) with hA|hA
     ·have kA:(vA ao i=v)=True:=eq_true oM
      generalize hw:vA ao i=w at hg hw1 eA kA
      rw[hw] at eqA
      have hnn:¬ (w:Int)<0:=oM
      have hsa:(∀y∈db fl,y.length=1)∧fl.length≤LB∧fl.length*8≤140737488355328:=⟨He _,oM,oM⟩
      rcases aa (w∈fl) with h5|h5
      ·have k5:=decide_eq_true h5
       rw[if_pos h5] at hg
       refine jm hm ?_
       refine gL kI kA (an hi2 (an eA (an eB kB))) ?_
       refine aC [] (mf fl w) ?_
       refine bH hnn ?_
       simp -implicitDefEqProofs only[go_sem,k5,e6]
       refine sQ ?_
       exact⟨i+1,⟨oM,hg⟩,sL,cM []⟩
      ·have k5:=decide_eq_false h5
       rw[if_neg h5] at hg
       have hnd:(fl++[w]).Nodup:=dU.2 ⟨h1,by simp,fun x hx y hy e1=>by simp only[az,bf,or_false] at hy;rw[e1,hy] at hx;exact h5 hx⟩
       have nS:∀x∈fl++[w],x<N:=fun x hx=>by rcases aO.1 hx with hx|hx;exact h2 x hx;simp only[az,bf,or_false] at hx;omega
       have hc:=ih oM w (fl++[w]) hnd nS (by simp;omega)
       rw[←oh,show db [w]=[[.val (.int .i64 (w:Int))]] from rfl] at hc
       cases hr:xy ao n to f w (fl++[w]) with
       | none=>rw[hr] at hg hc;simp only at hg;refine jm hm ?_;refine gL kI kA (an hi2 (an eA (an eB kB))) ?_;refine aC [] (mf fl w) ?_;refine bH hnn ?_;refine du k5 ?_;refine oC [] [2] (xn (e:=3) (args:=[lv (bD ao),iv n,iv w,iv to,.aX 0]) sV rfl hc) ?_;simp -implicitDefEqProofs only[go_sem,lR,iW,e6];refine sQ ?_;exact⟨i+1,⟨oM,hg⟩,sL,cM []⟩
       | some r=>rw[hr] at hg hc;simp only[dw,cg] at hg hc;have hrl:=EY hr;have kS:(∀y∈bm (r.map xT),y.length=1)∧1+r.length≤LB∧(1+r.length)*8≤140737488355328:=⟨jN _,oM,oM⟩;refine fE (jm hm ?_);simp -implicitDefEqProofs only[go_sem,kI,e6,eX];refine fE (Jl ?_);refine fE (jm hm ?_);simp -implicitDefEqProofs only[go_sem,e6,eX];refine fE (jm hm ?_);simp -implicitDefEqProofs only[go_sem,e6,eX];refine fE (jm hm ?_);simp -implicitDefEqProofs only[go_sem,hi2,eA,eB,kA,e6,eX];refine fE (jm hm ?_);simp -implicitDefEqProofs only[go_sem,hi2,eA,eB,kB,e6,eX];refine sQ ?_;refine fE (jm hm ?_);refine bH hnn ?_;refine aC [] (mf fl w) ?_;simp -implicitDefEqProofs only[go_sem,k5,e6,eX];refine fE (jm hm ?_);refine bt ?_;refine oC [] [2] (xn (e:=3) (args:=[lv (bD ao),iv n,iv w,iv to,.aX 0]) sV rfl hc) ?_;refine fE (jm hm ?_);simp -implicitDefEqProofs only[go_sem,e6,eX];refine QI (b:=true) rfl (fun _=>?_) (fun h=>by cases h);refine fE (pR ?_);refine kJ rfl (gJ ?_);refine sA ?_;refine kJ rfl (gm (rQ 27 3 1 3 _ _ _ [[.val (.int .i64 (-1-(i:Int)))]] rfl rfl rfl rfl rfl (by simp -implicitDefEqProofs only[go_sem]) rfl (by decide) rfl) ?_);refine sA ?_;refine kJ rfl (gJ ?_);refine sA ?_;refine kJ rfl (gJ ?_);refine bt ?_;refine kJ rfl (gJ ?_);refine sA ?_;refine kJ rfl (gJ ?_);refine sA ?_;refine xp ?_;simp -implicitDefEqProofs only[go_sem,eX];refine Xu ?_;simp only[GY,zu,qU];refine sA ?_;refine fI ?_;exact dD hg
     ·have kA:¬vA ao i=v:=oM
      generalize hw:vA ao i=w at hg hw1 eA kA
      rw[hw] at eqA
      have hnn:¬ (w:Int)<0:=oM
      have hsa:(∀y∈db fl,y.length=1)∧fl.length≤LB∧fl.length*8≤140737488355328:=⟨He _,oM,oM⟩
      rcases aa (w∈fl) with h5|h5
      ·have k5:=decide_eq_true h5
       rw[if_pos h5] at hg
       refine jm hm ?_
       refine gL kI kA (an hi2 (an eA (an eB kB))) ?_
       refine aC [] (mf fl w) ?_
       refine bH hnn ?_
       simp -implicitDefEqProofs only[go_sem,k5,e6]
       refine sQ ?_
       exact⟨i+1,⟨oM,hg⟩,sL,cM []⟩
      ·have k5:=decide_eq_false h5
       rw[if_neg h5] at hg
       have hnd:(fl++[w]).Nodup:=dU.2 ⟨h1,by simp,fun x hx y hy e1=>by simp only[az,bf,or_false] at hy;rw[e1,hy] at hx;exact h5 hx⟩
       have nS:∀x∈fl++[w],x<N:=fun x hx=>by rcases aO.1 hx with hx|hx;exact h2 x hx;simp only[az,bf,or_false] at hx;omega
       have hc:=ih oM w (fl++[w]) hnd nS (by simp;omega)
       rw[←oh,show db [w]=[[.val (.int .i64 (w:Int))]] from rfl] at hc
       cases hr:xy ao n to f w (fl++[w]) with
       | none=>rw[hr] at hg hc;simp only at hg;refine jm hm ?_;refine gL kI kA (an hi2 (an eA (an eB kB))) ?_;refine aC [] (mf fl w) ?_;refine bH hnn ?_;refine du k5 ?_;refine oC [] [2] (xn (e:=3) (args:=[lv (bD ao),iv n,iv w,iv to,.aX 0]) sV rfl hc) ?_;simp -implicitDefEqProofs only[go_sem,lR,iW,e6];refine sQ ?_;exact⟨i+1,⟨oM,hg⟩,sL,cM []⟩
       | some r=>rw[hr] at hg hc;simp only[dw,cg] at hg hc;have hrl:=EY hr;have kS:(∀y∈bm (r.map xT),y.length=1)∧1+r.length≤LB∧(1+r.length)*8≤140737488355328:=⟨jN _,oM,oM⟩;refine fE (jm hm ?_);simp -implicitDefEqProofs only[go_sem,kI,e6,eX];refine fE (Jl ?_);refine fE (jm hm ?_);simp -implicitDefEqProofs only[go_sem,e6,eX];refine fE (jm hm ?_);simp -implicitDefEqProofs only[go_sem,e6,eX];refine fE (jm hm ?_);simp -implicitDefEqProofs only[go_sem,hi2,eA,eB,kA,e6,eX];refine fE (jm hm ?_);simp -implicitDefEqProofs only[go_sem,hi2,eA,eB,kB,e6,eX];refine sQ ?_;refine fE (jm hm ?_);refine bH hnn ?_;refine aC [] (mf fl w) ?_;simp -implicitDefEqProofs only[go_sem,k5,e6,eX];refine fE (jm hm ?_);refine bt ?_;refine oC [] [2] (xn (e:=3) (args:=[lv (bD ao),iv n,iv w,iv to,.aX 0]) sV rfl hc) ?_;refine fE (jm hm ?_);simp -implicitDefEqProofs only[go_sem,e6,eX];refine QI (b:=true) rfl (fun _=>?_) (fun h=>by cases h);refine fE (pR ?_);refine kJ rfl (gJ ?_);refine sA ?_;refine kJ rfl (gm (rQ 27 3 1 3 _ _ _ [[.val (.int .i64 (-1-(i:Int)))]] rfl rfl rfl rfl rfl (by simp -implicitDefEqProofs only[go_sem]) rfl (by decide) rfl) ?_);refine sA ?_;refine kJ rfl (gJ ?_);refine sA ?_;refine kJ rfl (gJ ?_);refine bt ?_;refine kJ rfl (gJ ?_);refine sA ?_;refine kJ rfl (gJ ?_);refine sA ?_;refine xp ?_;simp -implicitDefEqProofs only[go_sem,eX];refine Xu ?_;simp only[GY,zu,qU];refine sA ?_;refine fI ?_;exact dD hg
    ·have kB:¬vB ao i=v:=oM
     rcases aa (vA ao i=v) with hA|hA
     ·have kA:(vA ao i=v)=True:=eq_true oM
      have en:sg ao v i=some ⟨i,false⟩:=by rw[sg,if_neg hB,if_pos hA]
      have ee:jQ ao ⟨i,false⟩=vB ao i:=rfl
      rw[en] at hg
      simp only[ee] at hg
      have hw1:vB ao i<N:=oM
      generalize hw:vB ao i=w at hg hw1 eB kB
      rw[hw] at eqB
      have hnn:¬ (w:Int)<0:=oM
      have hsa:(∀y∈db fl,y.length=1)∧fl.length≤LB∧fl.length*8≤140737488355328:=⟨He _,oM,oM⟩
      rcases aa (w∈fl) with h5|h5
      ·have k5:=decide_eq_true h5
       rw[if_pos h5] at hg
       refine jm hm ?_
       refine ot kI kA (an hi2 (an eA (an eB kB))) ?_
       refine aC [] (mf fl w) ?_
       refine bH hnn ?_
       simp -implicitDefEqProofs only[go_sem,k5,e6]
       refine sQ ?_
       exact⟨i+1,⟨oM,hg⟩,sL,cM []⟩
      ·have k5:=decide_eq_false h5
       rw[if_neg h5] at hg
       have hnd:(fl++[w]).Nodup:=dU.2 ⟨h1,by simp,fun x hx y hy e1=>by simp only[az,bf,or_false] at hy;rw[e1,hy] at hx;exact h5 hx⟩
       have nS:∀x∈fl++[w],x<N:=fun x hx=>by rcases aO.1 hx with hx|hx;exact h2 x hx;simp only[az,bf,or_false] at hx;omega
       have hc:=ih oM w (fl++[w]) hnd nS (by simp;omega)
       rw[←oh,show db [w]=[[.val (.int .i64 (w:Int))]] from rfl] at hc
       cases hr:xy ao n to f w (fl++[w]) with
       | none=>rw[hr] at hg hc;simp only at hg;refine jm hm ?_;refine ot kI kA (an hi2 (an eA (an eB kB))) ?_;refine aC [] (mf fl w) ?_;refine bH hnn ?_;refine du k5 ?_;refine oC [] [2] (xn (e:=3) (args:=[lv (bD ao),iv n,iv w,iv to,.aX 0]) sV rfl hc) ?_;simp -implicitDefEqProofs only[go_sem,lR,iW,e6];refine sQ ?_;exact⟨i+1,⟨oM,hg⟩,sL,cM []⟩
       | some r=>rw[hr] at hg hc;simp only[dw,cg] at hg hc;have hrl:=EY hr;have kS:(∀y∈bm (r.map xT),y.length=1)∧1+r.length≤LB∧(1+r.length)*8≤140737488355328:=⟨jN _,oM,oM⟩;refine fE (jm hm ?_);simp -implicitDefEqProofs only[go_sem,kI,e6,eX];refine fE (Jl ?_);refine fE (jm hm ?_);simp -implicitDefEqProofs only[go_sem,e6,eX];refine fE (jm hm ?_);simp -implicitDefEqProofs only[go_sem,e6,eX];refine fE (jm hm ?_);simp -implicitDefEqProofs only[go_sem,hi2,eA,eB,kA,e6,eX];refine fE (jm hm ?_);simp -implicitDefEqProofs only[go_sem,hi2,eA,eB,kB,e6,eX];refine fE (jm hm ?_);refine bH hnn ?_;refine aC [] (mf fl w) ?_;simp -implicitDefEqProofs only[go_sem,k5,e6,eX];refine fE (jm hm ?_);refine bt ?_;refine oC [] [2] (xn (e:=3) (args:=[lv (bD ao),iv n,iv w,iv to,.aX 0]) sV rfl hc) ?_;refine fE (jm hm ?_);simp -implicitDefEqProofs only[go_sem,e6,eX];refine QI (b:=true) rfl (fun _=>?_) (fun h=>by cases h);refine fE (pR ?_);refine kJ rfl (gJ ?_);refine sA ?_;refine kJ rfl (gm (rQ 27 3 1 3 _ _ _ [[.val (.int .i64 ((i:Int)))]] rfl rfl rfl rfl rfl (by simp -implicitDefEqProofs only[go_sem]) rfl (by decide) rfl) ?_);refine sA ?_;refine kJ rfl (gJ ?_);refine sA ?_;refine kJ rfl (gJ ?_);refine bt ?_;refine kJ rfl (gJ ?_);refine sA ?_;refine kJ rfl (gJ ?_);refine sA ?_;refine xp ?_;simp -implicitDefEqProofs only[go_sem,eX];refine Xu ?_;simp only[GY,zu,qU];refine sA ?_;refine fI ?_;exact dD hg
     ·have kA:¬vA ao i=v:=oM
      have en:sg ao v i=none:=by rw[sg,if_neg hB,if_neg hA]
      rw[en] at hg
      simp only at hg
      refine jm hm ?_
      simp -implicitDefEqProofs only[go_sem,Z2,kI,hi2,eA,eB,kA,kB,e6]
      refine sQ ?_
      exact⟨i+1,⟨oM,hg⟩,sL,cM []⟩
   ·rw[rX oM,yp] at hg
    refine jm hm ?_
    simp -implicitDefEqProofs only[go_sem,kI,e6]
    refine fI ?_
    exact dD hg
section
variable(al:List ax)(bB:List hY)(ao:List Step)
theorem Qa(fy:nJ al bB ao)(hk:jv al)(qF:al.length≤1000)(hk9:∀t∈al,t.ar.length≤1000)(f:Nat)
 (ih:∀n a b,n<f→n≤ao.length→a<al.length→b<al.length→cl (a6 al.length ao n) a=cl (a6 al.length ao n) b→CN 219 [lv (aU al),lv (bD ao),iv n,iv a,iv b] (av (jn (nk al ao f n a b))))
 (i:Nat) (hi:i<ao.length) (hf:i<f):CN 296 [lv (aU al),lv (bD ao),iv i] (av (jn (zk al ao (nk al ao f) i))):=by
 have hs:=vp hi
 have hso:=qR fy hi
 have a0:=hso.a0
 have b0:=hso.b0
 have a1:=KF fy hi
 have b1:=Lf fy hi
 have eA:ao[i].A=(vA ao i:Int):=by rw[vA,hs];rw[hs] at a0;omega
 have eB:ao[i].B=(vB ao i:Int):=by rw[vB,hs];rw[hs] at b0;omega
 have how:=hso.how
 have hE:zk al ao (nk al ao f) i=if ao[i].given<0 then .mk 5 0 (.mk (al.getD (vA ao i) aQ).name []) (((al.getD (vA ao i) aQ).ar.zip (al.getD (vB ao i) aQ).ar).map fun p=>nk al ao f i (aM al p.1) (aM al p.2)) else .mk 2 ao[i].given aQ []:=by rw[zk,hs]
 rw[hs] at how
 refine gS 74 [.cell 6 35] hm Tryz.func296 fun hl he cf=>?_
 rcases aa (0≤ao[i].given) with h0|h0
 ·rw[if_neg oM] at hE
  exact mH hi h0 hE
 ·rw[if_pos oM] at hE
  have hal:alike al (a6 al.length ao i) (vA ao i) (vB ao i)=true:=by rcases how with h|⟨n,h,_⟩;rw[vA,vB,hs];exact h.2;omega
  obtain⟨q1,q2,q3,q4⟩:=SK hal
  have gA:al.getD (vA ao i) aQ=al[vA ao i]:=by rw[aB,af a1];rfl
  have gB:al.getD (vB ao i) aQ=al[vB ao i]:=by rw[aB,af b1];rfl
  have mA:=aj a1
  have mB:=aj b1
  obtain⟨x,hx⟩:∃x,al[vA ao i]=x:=⟨_,rfl⟩
  obtain⟨y,hy⟩:∃y,al[vB ao i]=y:=⟨_,rfl⟩
  rw[hx] at gA mA
  rw[hy] at gB mB
  rw[gA] at q1 q2 q3 q4 hE
  rw[gB] at q2 q3 q4 hE
  have kx:=hk _ mA
  have ky:=hk _ mB
  have kl:=hk9 _ mA
  refine ot hi h0 (an eA (an eB (an a1 (an b1 (an hx hy))))) ?_
  refine jr hm x.ar.length (fun k=>⟨dN 74 .any [(0,lv (aU al)),(1,lv (bD ao)),(2,iv i),(6,.bA 0 0),(7,.bA 1 0),(8,.bA 2 0),(9,.bA 3 0),(10,iv k)],[some (.box (dm (jn wv))),some (.box (dm (cT x))),some (.box (dm (cT y))),some (.box [iv 5,iv 0,sv x.name,lv [],.aX 4]),some (.aX 35 (fA (((x.ar.zip y.ar).take k).map fun p=>nk al ao f i (aM al p.1) (aM al p.2))))]⟩) (cM [some 0,some 1,some 2,some 3,none]) ?_
  ·rintro k hk1
   rcases aa (k<x.ar.length) with h1|h1
   ·have h2:k<y.ar.length:=oM
    have mx:=kx _ (aj h1)
    have my:=ky _ (aj h2)
    have px:=bT mx
    have py:=bT my
    have cx:=cX mx
    have cy:=cX my
    have hc:=ih i (aM al x.ar[k]) (aM al y.ar[k]) hf oM px py (q4 k h1 h2)
    have hz:=SR (f:=fun p=>nk al ao f i (aM al p.1) (aM al p.2)) h1 h2
    have hzl:(((x.ar.zip y.ar).take k).map fun p=>nk al ao f i (aM al p.1) (aM al p.2)).length≤1000:=by simp;omega
    refine bH h1 ?_
    refine aC [] (dG al x.ar[k]) ?_
    refine iI cx h2 ?_
    refine aC [] (dG al y.ar[k]) ?_
    refine bH cy ?_
    refine sa [] hc ?_
    exact⟨k+1,h1,sL,aZ [some 0,some 1,some 2,some 3,some 5] sC (by refine sA ?_;(rw[hz,←HL,me,nw];rfl)) rfl rfl⟩
   ·have et:(x.ar.zip y.ar).take k=x.ar.zip y.ar:=List.take_of_length_le (by simp;omega)
    exact mH h1 hE et
theorem PO(fy:nJ al bB ao)(hk:jv al)(qF:al.length≤1000)(hk9:∀t∈al,t.ar.length≤1000)(hs9:ao.length≤2000000):∀(f n a b:Nat),n<f→n≤ao.length→a<al.length→b<al.length→cl (a6 al.length ao n) a=cl (a6 al.length ao n) b →
 CN 219 [lv (aU al),lv (bD ao),iv n,iv a,iv b] (av (jn (nk al ao f n a b))):=by
 intro f
 induction f with
 | zero=>intro n a b h;omega
 | succ f ih=>
 intro n a b hnf hn ha hb hab
 have hv:∀s∈ao,0≤s.A∧s.A.toNat<al.length∧0≤s.B∧s.B.toNat<al.length:=fun s hs=>by obtain⟨i,hi,rfl⟩:=List.mem_iff_getElem.1 hs;have:=fy i _ (af hi);exact⟨this.a0,this.a1,this.b0,this.b1⟩
 have hway:=ads fy hn ha hb hab
 obtain⟨w1,w2,w3⟩:=vo fy hn ha hb hab
 have cw:=Qr ao al.length n b hv hn qF hs9 al.length oM a [a] (by simp) (fun x hx=>by simp at hx;omega) (by simp)
 rw[hway] at cw
 have ga:al.getD a aQ=al[a]:=by rw[aB,af ha];rfl
 obtain⟨way,hw⟩:∃w,n7 al.length ao n a b=w:=⟨_,rfl⟩
 have hF:=XG al ao f n a b
 rw[hw] at hF
 have hwl:way.length≤al.length:=by
  rw[hw] at w3 w2 w1;have h1:=mg w3 (fun v hv=>by
   simp only[jl,az,List.mem_map] at hv
   rcases hv with rfl|⟨e,he,rfl⟩
   ·exact ha
   ·exact B7 fy (by have:=w1 e he;omega))
  simp[jl] at h1;omega
 rw[hw] at cw w1
 rw[show db [a]=[[.val (.int .i64 (a:Int))]] from rfl] at cw
 simp only[cg,dw] at cw
 have hll:(way.map xT).length=way.length:=by simp
 refine gS 69 [.cell 10 35] hm Tryz.func219 fun hl he cf=>?_
 refine aC [] cw ?_
 rcases Nat.eq_zero_or_pos way.length with hz|hz
 ·obtain rfl:=List.length_eq_zero_iff.1 hz
  rw[Xk] at hF
  refine bH ha ?_
  refine aC [] (ji al[a]) ?_
  exact gG hF ga
 ·have lj:¬ (way.length:Int)=0:=oM
  have hz':(0:Int)<(way.length:Int):=oM
  refine bH lj ?_
  refine ry hm way.length (fun(i:Nat) (w:lH)=>((i=0∧w=wv)∨(1≤i∧nk al ao (f+1) n a b=qP (mP al ao (nk al ao f)) w (way.drop i)))) (fun i w=>⟨dN 69 .any [(0,lv (aU al)),(1,lv (bD ao)),(10,.bA 0 0),(11,lv (bm (way.map xT))),(13,.bA 1 0),(14,iv i)],[some (.box (dm (jn wv))),some (.box (dm (jn w)))]⟩) (wv) ?_ (cM kR) ?_
  ·exact⟨bo _,.inl ⟨rfl,rfl⟩⟩
  ·rintro i w ⟨hi,hg⟩
   rcases aa (i<way.length) with h1|h1
   ·have h1':i<(way.map xT).length:=oM
    have ld:=w1 _ (aj h1)
    have eg:(way.map xT)[i]=xT way[i]:=by simp
    have hco:=Qa al bB ao fy hk qF hk9 f ih way[i].step oM oM
    have hed:=JR al ao (nk al ao f) way[i]
    have hd0:=ae h1
    cases hb2:way[i].back
    ·have es1:xT way[i]=(way[i].step:Int):=by rw[xT,hb2];rfl
     have hnn:¬ (way[i].step:Int)<0:=oM
     rw[hb2,if_neg (by simp)] at hed
     rcases hg with⟨rfl,rfl⟩|⟨hi1,hg⟩
     ·refine ot hll h1 (an eg (an es1 (an hnn hz'))) ?_
      refine sa [] hco ?_
      refine⟨1,mP al ao (nk al ao f) way[0],?_,sL,cM kR⟩
      refine⟨oM,.inr ⟨aK _,?_⟩⟩
      rw[hF,AB hz]
     ·have k0:¬ (i:Int)=0:=oM
      rw[hd0,qP] at hg
      refine ot hll h1 (an eg (an es1 hnn)) ?_
      refine aC [] hco ?_
      refine du k0 ?_
      exact⟨i+1,.mk 4 0 aQ [w,mP al ao (nk al ao f) way[i]],⟨oM,.inr ⟨oM,hg⟩⟩,sL,aZ kR sC (by refine sA ?_;(rw[hed];exact⟨rfl,rfl,rfl,rfl,(SJ _ _).symm⟩)) rfl rfl⟩
    ·have es1:xT way[i] = -1-(way[i].step:Int):=by rw[xT,hb2];rfl
     have hnn:-1-(way[i].step:Int)<0:=oM
     have hmm:-1-(-1-(way[i].step:Int))=(way[i].step:Int):=oM
     rw[hb2,if_pos rfl] at hed
     rcases hg with⟨rfl,rfl⟩|⟨hi1,hg⟩
     ·refine gL hll h1 (an eg (an es1 (an hnn (an hz' hmm)))) ?_
      refine sa [] hco ?_
      refine⟨1,mP al ao (nk al ao f) way[0],?_,sL,aZ kR (by refine sA ?_;simp[*];done) (by refine sA ?_;(rw[hed];exact⟨rfl,rfl,rfl,rfl,(SE _).symm⟩)) rfl rfl⟩
      refine⟨oM,.inr ⟨aK _,?_⟩⟩
      rw[hF,AB hz]
     ·have k0:¬ (i:Int)=0:=oM
      rw[hd0,qP] at hg
      refine gL hll h1 (an eg (an es1 (an hnn hmm))) ?_
      refine aC [] hco ?_
      refine du k0 ?_
      exact⟨i+1,.mk 4 0 aQ [w,mP al ao (nk al ao f) way[i]],⟨oM,.inr ⟨oM,hg⟩⟩,sL,aZ kR sC (by refine sA ?_;(rw[hed];exact⟨rfl,rfl,rfl,rfl,(aal _ _).symm⟩)) rfl rfl⟩
   ·rcases hg with⟨rfl,_⟩|⟨hi1,hg⟩
    ·omega
    ·rw[ak oM,qP] at hg
     exact mH hll h1 hg
end
end Go.Proofs.YtphcpjhkeipggaaGreat
