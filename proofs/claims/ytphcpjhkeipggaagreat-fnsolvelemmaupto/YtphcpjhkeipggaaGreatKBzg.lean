/-
  The program: the walk of closures. A step towards the laws.
-/
import Derived.Test.YtphcpjhkeipggaaGreatKBH
import Derived.Test.YtphcpjhkeipggaaGreatKBEl
set_option linter.unusedVariables false
set_option linter.unusedSimpArgs false
open Int renaming reduceEq→Z1,reduceLT→Z2,reduceLE→Z3,reduceToNat→Z4
open And renaming intro→an
open Bool renaming true_and→aA,false_and→aI
open Classical renaming em→aa
open List renaming getElem?_eq_getElem→af,getElem_mem→aj,drop_of_length_le→ak,getD_eq_getElem?_getD→aB,getElem?_append_left→bF,range→bK,mem_of_getElem?→dH,drop→fB,mem_append_right→iq
open Nat renaming le_refl→aK,zero_le→bo
namespace Go.Proofs.YtphcpjhkeipggaaGreat
open Go.Eng Go.Mod
set_option maxRecDepth 100000
set_option maxHeartbeats 3200000
def ahd(al:List ax)(c:List Nat)(ao:List Step):List D:=[.eC (aU al),.eC (db c),.eC (bD ao)]
attribute [go_sem] ahd
theorem GQ(al:List ax)(c:List Nat)(ao:List Step)(t:ax):CN 117 [.ib [ahd al c ao] 0 0,av (cT t)] (iv (b8 al t)):=by refine gS 11 [.tmp 4] hm Tryz.func117 fun hl he cf=>?_;refine aC [] (e9 al t) ?_;refine iK ?_;refine fD ?_;exact sC
theorem Mm(al:List ax)(c:List Nat)(ao:List Step)(x y:ax)(hx:x∈al)(hy:y∈al)(hc:c.length=al.length):CP 330 [av (cT x),av (cT y),.bA 0 0] [some (.box [.bA 1 0]),some (.box [lv (aU al),.aX 2,.aX 3]),some (.aX 3 (db c)),some (.aX 321 (bD ao))] (bv (NX al c x y)):=by have px:=bT hx;have py:=bT hy;have cx:=cX hx;have cy:=cX hy;have px':aM al x<c.length:=oM;have py':aM al y<c.length:=oM;have ex:c[aM al x]=cl c (aM al x):=(jt px').symm;have ey:c[aM al y]=cl c (aM al y):=(jt py').symm;refine gS 25 [.tmp 5] hm Tryz.func330 fun hl he cf=>?_;refine AQ [] [1,2,3] (GQ al c ao x) ?_;refine ot cx px' ex ?_;refine AQ [] [1,2,3] (GQ al c ao y) ?_;refine ot cy py' ey ?_;refine iK ?_;refine bX wM ?_ rfl rfl;exact tY
theorem I6(al:List ax)(c:List Nat)(ao:List Step)(hc:c.length=al.length)(xs ys:List ax)(hx:∀x∈xs,x∈al)(hy:∀y∈ys,y∈al)(qF:xs.length≤1000):CP 72 [lv (aU xs),lv (aU ys),.fn 330 [.bA 0 0]] [some (.box [.bA 1 0]),some (.box [lv (aU al),.aX 2,.aX 3]),some (.aX 3 (db c)),some (.aX 321 (bD ao))] (bv (nQ al c xs ys)):=by
 refine gS 32 [.tmp 6] hm Tryz.func72 fun hl he cf=>?_;rcases aa (xs.length=ys.length) with h0|h0
 ·have k0:=eq_true h0;refine bH k0 ?_;refine kC hm xs.length (fun(i:Nat)=>nQ al c xs ys=nQ al c (xs.drop i) (ys.drop i)) (fun i=>⟨dN 32 .any [(1,lv (aU ys)),(2,.fn 330 [.bA 0 0]),(15,lv (aU xs)),(16,iv xs.length),(17,iv i)],[some (.box [.bA 1 0]),some (.box [lv (aU al),.aX 2,.aX 3]),some (.aX 3 (db c)),some (.aX 321 (bD ao))]⟩) ?_ (cM wM) ?_;exact⟨bo _,rfl⟩;rintro i ⟨hi,hg⟩;rcases aa (i<xs.length) with h1|h1
  ·have h2:i<ys.length:=oM;have hco:=Mm al c ao xs[i] ys[i] (hx _ (aj h1)) (hy _ (aj h2)) hc;rw[Ik h1 h2] at hg;refine uJ ?_;refine lx [.bA 0 0] [0,1,2,3] hco ?_ ?_
   ·refine sA ?_;first|rfl|((repeat' apply an)<;>rfl)
   refine sA ?_;cases h3:NX al c xs[i] ys[i];rw[h3,aI] at hg;refine sA ?_;refine bX wM ?_ rfl rfl;exact dD hg;rw[h3,aA] at hg;refine bt ?_;exact⟨i+1,⟨oM,hg⟩,sL,cM wM⟩
  rw[ak oM,ak oM,Ka] at hg;refine bH h1 ?_;refine bX wM ?_ rfl rfl;exact dD hg
 rw[Dn h0];refine bH h0 ?_;refine bX wM ?_ rfl rfl;exact sC
theorem NA(al:List ax)(c:List Nat)(ao:List Step)(a b:Nat)(hk:jv al)(ha:a<al.length)(hb:b<al.length)(hc:c.length=al.length)(hk9:∀t∈al,t.ar.length≤1000):CP 272 [.bA 0 0,iv a,iv b] [some (.box [lv (aU al),.aX 1,.aX 2]),some (.aX 3 (db c)),some (.aX 321 (bD ao))] (bv (alike al c a b)):=by
 have e1:al.getD a aQ=al[a]:=by rw[aB,af ha];rfl
 have e2:al.getD b aQ=al[b]:=by rw[aB,af hb];rfl
 have ka:=hk _ (aj ha);have la:=hk9 _ (aj ha);have kb:=hk _ (aj hb);have e:alike al c a b=(decide (0<al[a].ar.length)&&(decide (al[a].name=al[b].name)&&nQ al c al[a].ar al[b].ar)):=by rw[alike,e1,e2]
 have hco:=I6 al c ao hc al[a].ar al[b].ar ka kb la;refine gS 42 [.tmp 6] hm Tryz.func272 fun hl he cf=>?_;simp -implicitDefEqProofs only[go_sem,ha,hb];refine iK ?_;rcases aa ((0:Int)<(al[a].ar.length:Int)) with h1|h1
 ·rcases aa (al[a].name=al[b].name) with h2|h2
  ·have k2:=eq_true h2;rw[decide_eq_true (by omega:0<al[a].ar.length),decide_eq_true h2,aA,aA] at e;refine iI h1 k2 ?_;refine lx [] [3,0,1,2] hco ?_ ?_
   ·refine sA ?_;first|rfl|((repeat' apply an)<;>rfl)
   refine sA ?_;refine bX rC ?_ rfl rfl;exact dD e
  rw[decide_eq_false h2,aI,Bool.and_false] at e;refine uJ ?_;refine bX rC ?_ rfl rfl;exact dD e
 rw[decide_eq_false (by omega:¬0<al[a].ar.length),aI] at e;refine uA ?_;refine bX rC ?_ rfl rfl;exact dD e
theorem ZP(al:List ax)(c:List Nat)(ao:List Step)(hk:jv al)(hc:c.length=al.length)(qF:al.length≤1000)(hk9:∀t∈al,t.ar.length≤1000):CP 194 [.bA 0 0] [some (.box [lv (aU al),.aX 1,.aX 2]),some (.aX 3 (db c)),some (.aX 321 (bD ao))] (.iZ [iv (((gQ al c).getD (0,0)).1:Nat),iv (((gQ al c).getD (0,0)).2:Nat),bv (gQ al c).isSome]):=by
 refine gS 44 [.tmp 2,.tmp 3,.tmp 4] hm Tryz.func194 fun hl he cf=>?_;refine kC hm al.length (fun(l:Nat)=>gQ al c=(lC l al.length).find? (fun p=>o8 al c p.1 p.2)) (fun l=>⟨dN 44 .any [(0,.bA 0 0),(11,iv al.length),(12,iv l)],[some (.box [lv (aU al),.aX 1,.aX 2]),some (.aX 3 (db c)),some (.aX 321 (bD ao))]⟩) ?_ (cM rC) ?_;exact⟨bo _,rfl⟩;rintro l ⟨hi,hg⟩;rcases aa (l<al.length) with h1|h1
 ·rw[AF h1] at hg;refine bH h1 ?_;refine kC hm l (fun(e:Nat)=>gQ al c=(te e l al.length).find? (fun p=>o8 al c p.1 p.2)) (fun e=>⟨dN 44 .any [(0,.bA 0 0),(5,iv l),(11,iv al.length),(12,iv l),(15,iv l),(16,iv e)],[some (.box [lv (aU al),.aX 1,.aX 2]),some (.aX 3 (db c)),some (.aX 321 (bD ao))]⟩) ?_ (cM rC) ?_;exact⟨bo _,hg⟩;rintro e ⟨he,hg⟩;rcases aa (e<l) with h2|h2
  ·have pe:e<c.length:=oM;have pl:l<c.length:=oM;have ee:c[e]=cl c e:=(jt pe).symm;have el:c[l]=cl c l:=(jt pl).symm;rw[CY h2,List.find?_cons] at hg;have em:o8 al c e l=(decide (cl c e≠cl c l)&&alike al c e l):=rfl;simp only[em] at hg;rcases aa (cl c e=cl c l) with h3|h3;have k3:(cl c e=cl c l)=True:=eq_true h3;rw[decide_eq_false (by omega:¬cl c e≠cl c l),aI] at hg;refine gL h2 pe (an pl (an ee (an el k3))) ?_;exact⟨e+1,⟨oM,hg⟩,sL,cM rC⟩;have hco:=NA al c ao e l hk oM h1 hc hk9;rw[decide_eq_true (by omega:cl c e≠cl c l),aA] at hg;refine ot h2 pe (an pl (an ee (an el h3))) ?_;refine lx [] [0,1,2] hco ?_ ?_
   ·refine sA ?_;first|rfl|((repeat' apply an)<;>rfl)
   refine bt ?_;cases h4:alike al c e l;rw[h4] at hg;refine bt ?_;exact⟨e+1,⟨oM,hg⟩,sL,cM rC⟩;rw[h4] at hg;simp only at hg;refine sA ?_;refine bX rC ?_ rfl rfl;exact dD hg
  rw[Fw oM] at hg;refine du h2 ?_;exact⟨l+1,⟨oM,hg⟩,sL,cM rC⟩
 rw[C4 oM,List.find?_nil] at hg;refine bH h1 ?_;refine bX rC ?_ rfl rfl;exact dD hg
theorem Ou(al:List ax)(c:List Nat)(ao:List Step)(a b:Nat)(n:Int)(ha:a<c.length)(hb:b<c.length)(qF:c.length≤1000)(hs9:ao.length≤2000000):C E.P 193 [.bA 0 0,iv a,iv b,iv n] [some (.box [lv (aU al),.aX 1,.aX 2]),some (.aX 3 (db c)),some (.aX 321 (bD ao))] (jF (.iZ []) [some (.box [lv (aU al),.aX 1,.aX 3]),some (.aX 3 (db (iw c a b))),some .dead,some (.aX 321 (bD (ao++[⟨a,b,n⟩])))]):=by
 have ea:c[a]=cl c a:=(jt ha).symm;have eb:c[b]=cl c b:=(jt hb).symm;obtain⟨f,hf⟩:∃f,max (cl c a) (cl c b)=f:=⟨_,rfl⟩;obtain⟨t,ht⟩:∃t,min (cl c a) (cl c b)=t:=⟨_,rfl⟩;have hend:∀i,c.length≤i→iJ c f t i=iw c a b:=fun i hi=>by rw[←hf,←ht];exact LU hi
 have hss:bD ao++[[.val (.int .i64 (a:Int)),.val (.int .i64 (b:Int)),.val (.int .i64 n)]]=bD (ao++[⟨a,b,n⟩]):=by rw[←ze,xr,uP];rfl
 refine gS 65 [] hm Tryz.func193 fun hl he cf=>?_;refine gL ha hb (an ea eb) ?_;rw[hss];rcases aa (cl c a<cl c b) with h0|h0;have ef:f=cl c b:=oM;have et:t=cl c a:=oM;refine bH h0 ?_;rw[←ef,←et];refine jr hm c.length (fun i=>⟨dN 65 .any [(0,.bA 0 0),(8,iv f),(9,iv t),(47,.aX 1),(48,iv c.length),(49,iv i)],[some (.box [lv (aU al),.aX 1,.aX 3]),some (.aX 3 (db (iJ c f t i))),some .dead,some (.aX 321 (bD (ao++[⟨a,b,n⟩])))]⟩) (cM wM) ?_;rintro i hi;have hjl:=vx c f t i;rcases aa (i<c.length) with h1|h1;have h1':i<(iJ c f t i).length:=oM;have eg:=vk (f:=f) (t:=t) h1 h1';rcases aa (c[i]=f) with h2|h2;have k2:(c[i]=f)=True:=eq_true h2;have hp:=xG (l:=iJ c f t i) (i:=i) (n:=t) h1';have hn:=tv (f:=f) (t:=t) h1;rw[if_pos h2] at hn;rw[se h1',eg] at hp;refine gL hjl h1 (an eg k2) ?_;exact⟨i+1,h1,sL,aZ wM sC (by refine sA ?_;(rw[hp,hn])) rfl rfl⟩;have hn:=wA (f:=f) (t:=t) h1 h2;refine gL hjl h1 (an eg h2) ?_;exact⟨i+1,h1,sL,nB_ wM hn⟩;rw[hend i oM] at hjl⊢;refine bH h1 ?_;refine bX wM ?_ rfl rfl;exact sC;have ef:f=cl c a:=oM;have et:t=cl c b:=oM;refine bH h0 ?_;rw[←ef,←et];refine jr hm c.length (fun i=>⟨dN 65 .any [(0,.bA 0 0),(8,iv f),(9,iv t),(47,.aX 1),(48,iv c.length),(49,iv i)],[some (.box [lv (aU al),.aX 1,.aX 3]),some (.aX 3 (db (iJ c f t i))),some .dead,some (.aX 321 (bD (ao++[⟨a,b,n⟩])))]⟩) (cM wM) ?_;rintro i hi;have hjl:=vx c f t i;rcases aa (i<c.length) with h1|h1;have h1':i<(iJ c f t i).length:=oM;have eg:=vk (f:=f) (t:=t) h1 h1';rcases aa (c[i]=f) with h2|h2;have k2:(c[i]=f)=True:=eq_true h2;have hp:=xG (l:=iJ c f t i) (i:=i) (n:=t) h1';have hn:=tv (f:=f) (t:=t) h1;rw[if_pos h2] at hn;rw[se h1',eg] at hp;refine gL hjl h1 (an eg k2) ?_;exact⟨i+1,h1,sL,aZ wM sC (by refine sA ?_;(rw[hp,hn])) rfl rfl⟩;have hn:=wA (f:=f) (t:=t) h1 h2;refine gL hjl h1 (an eg h2) ?_;exact⟨i+1,h1,sL,nB_ wM hn⟩;rw[hend i oM] at hjl⊢;refine bH h1 ?_;refine bX wM ?_ rfl rfl;exact sC
theorem M5(al:List ax)(bB:List hY)(hk:jv al)(kI:∀e∈bB,e.A∈al∧e.B∈al)(qF:al.length≤1000)(hk9:∀t∈al,t.ar.length≤1000)(he9:bB.length≤1000) :
 C E.P 111 [lv (aU al),lv (dF bB)] [] (jF (.bA 0 0) [some (.box [lv (aU al),lv (db (closed al bB).1),lv (bD (closed al bB).2)])]):=by
 refine gS 82 [.tmp 4] hm Tryz.func111 fun hl he cf=>?_
 refine jr hm al.length (fun i=>⟨dN 82 .any [(1,lv (dF bB)),(5,.bA 0 0),(18,iv al.length),(19,iv i)],[some (.box [lv (aU al),.aX 1,.aX 2]),some (.aX 3 (db (bK i))),some (.aX 321 (bD []))]⟩) (cM [some 0,none,none]) ?_
 ·rintro i hi
  have hrl:(bK i).length=i:=List.length_range
  rcases aa (i<al.length) with h1|h1
  ·refine du h1 ?_
   exact⟨i+1,h1,sL,aZ [some 0,some 3,some 2] sC (by refine sA ?_;(rw[←oh];rfl)) rfl rfl⟩
  ·obtain rfl:i=al.length:=oM
   refine bH h1 ?_
   clear hi h1
   refine aaR hm bB.length (fun(n:Nat) (c:List Nat) (ao:List Step)=>c.length=al.length∧(∀x∈c,x≤1000)∧ao.length≤n∧given al bB=kM al n (bB.drop n) c ao) (fun n c ao=>⟨dN 82 .any [(5,.bA 0 0),(33,lv (dF bB)),(34,iv bB.length),(35,iv n)],[some (.box [lv (aU al),.aX 1,.aX 2]),some (.aX 3 (db c)),some (.aX 321 (bD ao))]⟩) (bK al.length) ([]) ?_ (cM rC) ?_
   ·exact⟨bo _,hrl,fun x hx=>by have:=List.mem_range.1 hx;omega,aK _,rfl⟩
   ·rintro n c ao ⟨hn,hc,hm9,hs,hg⟩
    rcases aa (n<bB.length) with h1|h1
    ·obtain⟨mA,mB⟩:=kI _ (aj h1)
     have pA:=bT mA
     have pB:=bT mB
     have cA:=cX mA
     have cB:=cX mB
     have pA':aM al bB[n].A<c.length:=oM
     have pB':aM al bB[n].B<c.length:=oM
     have eA:c[aM al bB[n].A]=cl c (aM al bB[n].A):=(jt pA').symm
     have eB:c[aM al bB[n].B]=cl c (aM al bB[n].B):=(jt pB').symm
     have hj1:=hU c (aM al bB[n].A) (aM al bB[n].B)
     have hj2:=Ba (a:=aM al bB[n].A) (b:=aM al bB[n].B) hm9
     have cj:=Ou al c ao (aM al bB[n].A) (aM al bB[n].B) n pA' pB' oM oM
     have ca:=GQ al c ao bB[n].A
     have cb:=GQ al c ao bB[n].B
     rw[cA] at ca
     rw[cB] at cb
     rw[List.drop_eq_getElem_cons h1,kM] at hg
     refine uA ?_
     refine qj [] [0,1,2] ca rfl ?_ ?_ ?_
     ·exact sV
     all_goals simp -implicitDefEqProofs only[go_sem]
     refine AQ [] [0,1,2] cb ?_
     refine iK ?_
     generalize aM al bB[n].A=a at *
     generalize aM al bB[n].B=b at *
     rcases aa (cl c a=cl c b) with h2|h2
     ·have k2:(cl c a=cl c b)=True:=eq_true h2
      rw[if_pos h2] at hg
      refine gL pA' pB' (an eA (an eB k2)) ?_
      exact⟨n+1,c,ao,⟨oM,hc,hm9,oM,hg⟩,sL,cM rC⟩
     ·rw[if_neg h2] at hg
      refine gL pA' pB' (an eA (an eB h2)) ?_
      refine lx [] [0,1,2,4] cj ?_ ?_
      ·refine sA ?_
       first|rfl|((repeat' apply an)<;>rfl)
      refine bt ?_
      exact⟨n+1,iw c a b,ao++[⟨a,b,n⟩],⟨oM,oM,hj2,by simp;omega,hg⟩,sL,cM [some 0,some 1,some 4]⟩
    ·rw[ak oM,kM] at hg
     have hcl:closed al bB=l7 al c.sum c ao:=by rw[closed,hg]
     have hsum:=rU hm9
     have hsum2:c.length*1000≤1000*1000:=Nat.mul_le_mul_right _ oM
     refine bH h1 ?_
     refine n6 hm (fun(f:Nat) (c:List Nat) (ao:List Step)=> c.length=al.length∧(∀x∈c,x≤1000)∧c.sum≤f∧ao.length+f≤1999000∧closed al bB=l7 al f c ao) (fun f c ao=> ⟨dN 82 .any [(5,.bA 0 0)],[some (.box [lv (aU al),.aX 1,.aX 2]),some (.aX 3 (db c)),some (.aX 321 (bD ao))]⟩) (fun f c ao=> f) (c.sum) (c) (ao) ?_ (cM rC) ?_
     ·exact⟨hc,hm9,aK _,oM,hcl⟩
     ·clear hcl hsum hsum2 hg h1 hn hc hm9 hs
      rintro f c ao ⟨hc,hm9,hf,hs,hg⟩
      have cn:=ZP al c ao hk hc qF hk9
      refine sA ?_
      refine lx [] [0,1,2] cn ?_ ?_
      ·refine sA ?_
       first|rfl|((repeat' apply an)<;>rfl)
      refine sA ?_
      cases hp:gQ al c with
      | none=>rw[y5 hp] at hg;refine zx ?_;refine bX fe ?_ rfl rfl;exact dD hg
      | some p=>
       obtain⟨f',rfl,hg2,hf2⟩:=y7 (ao:=ao) hf hc hp;obtain⟨p1,p2,p3,p4⟩:=sS hp;rw[hg2] at hg;have hj1:=hU c p.1 p.2;have hj2:=Ba (a:=p.1) (b:=p.2) hm9;have cj:=Ou al c ao p.1 p.2 (-1) oM oM oM oM;obtain⟨a,b⟩:=p;simp only at hg hg2 hf2 p1 p2 hj1 hj2 cj;refine zx ?_;refine lx [] [0,1,2,3] cj ?_ ?_
       ·refine sA ?_;first|rfl|((repeat' apply an)<;>rfl)
       refine sA ?_;exact⟨f',iw c a b,ao++[⟨a,b,-1⟩],⟨oM,hj2,hf2,by simp;omega,hg⟩,sL,cM [some 0,some 1,some 3]⟩
theorem Fz{l:List Mod.Edge}{i:Nat}{x:Mod.Edge}(h:i<l.length):(eK l).set i (wm (row (eK l) i) 0 [.val (.int .i64 (x.step:Int)),.val (.bool x.back)])=eK (l.set i x):=by rw[yR h,←Qd];rfl
theorem Og{ys:List Mod.Edge}{i j:Nat}(hi:i<ys.length)(hj:j<ys.length):((eK ys).set i (wm [.val (.int .i64 (ys[i].step:Int)),.val (.bool ys[i].back)] 0 [.val (.int .i64 (ys[j].step:Int)),.val (.bool ys[j].back)])).set j (wm (row ((eK ys).set i (wm [.val (.int .i64 (ys[i].step:Int)),.val (.bool ys[i].back)] 0 [.val (.int .i64 (ys[j].step:Int)),.val (.bool ys[j].back)])) j) 0 [.val (.int .i64 (ys[i].step:Int)),.val (.bool ys[i].back)])=eK ((ys.set i ys[j]).set j ys[i]):=by
 have h1:(eK ys).set i (wm [.val (.int .i64 (ys[i].step:Int)),.val (.bool ys[i].back)] 0 [.val (.int .i64 (ys[j].step:Int)),.val (.bool ys[j].back)])=eK (ys.set i ys[j]):=by have h:=Fz (x:=ys[j]) hi;rw[yR hi] at h;exact h
 rw[h1];exact Fz (l:=ys.set i ys[j]) (x:=ys[i]) (by simpa using hj)
theorem LO(l:List Mod.Edge)(qF:l.length≤1000):C E.P 337 [.aX 0] [some (.aX 334 (eK l))] (jF (.iZ []) [some (.aX 334 (eK l.reverse))]):=by
 refine gS 28 [] hm Tryz.func337 fun hl he cf=>?_;refine GL ?_;refine ry hm l.length (fun(i:Nat) (ys:List Mod.Edge)=>Q8 l ys i) (fun i ys=>⟨dN 28 .any [(0,.aX 0),(2,iv i),(3,iv ((l.length:Int)-1-(i:Int)))],[some (.aX 334 (eK ys))]⟩) (l) ?_ (cM fe) ?_;exact⟨bo _,Q8.zero l⟩;rintro i ys ⟨hi,hr⟩;have eO:=hr.len;rcases aa ((i:Int)<(l.length:Int)-1-(i:Int)) with h1|h1
 ·obtain⟨j,hj⟩:∃j:Nat,(l.length:Int)-1-(i:Int)=j:=⟨l.length-1-i,oM⟩;have hi':i<ys.length:=oM;have hj':j<ys.length:=oM;have ld:=hr.step (by omega:i<j) oM hi' hj';rw[hj] at h1⊢;try simp -implicitDefEqProofs only[go_sem,h1,hi',hj']
  refine sJ ?_;exact⟨i+1,(ys.set i ys[j]).set j ys[i],⟨oM,ld⟩,sL,aZ fe (by refine sA ?_;(first|done|(exact Og hi' hj')|(simp[*];done)|(simp[];done)|(simp;omega)|skip)) (by refine sA ?_;(first|done|(exact Og hi' hj')|(simp[a7, *];done)|(simp[a7];done)|(simp;omega)|skip)) rfl rfl⟩
 have hd:=hr.done oM;refine du h1 ?_;refine bX fe ?_ rfl rfl;exact dD hd
theorem aff(al:List ax)(bB:List hY)(c:List Nat)(ao:List Step)(fy:nJ al bB ao)(qF:al.length≤1000)(hs9:ao.length≤2000000)(n a b:Nat)(hn:n≤ao.length)(ha:a<al.length)(hb:b<al.length)(hab:cl (a6 al.length ao n) a=cl (a6 al.length ao n) b) :
 CP 285 [.bA 0 0,iv a,iv b,iv n] [some (.box [lv (aU al),lv (db c),lv (bD ao)])] (lv (eK (n7 al.length ao n a b))):=by
 have cf:=qq
 refine Ic (nt:=116) (rs:=[.tmp 8]) Tryz.func285 rfl rfl rfl rfl rfl (fun hl he=>?_)
 simp -implicitDefEqProofs only[go_sem] at hl he⊢
 obtain⟨N,hN⟩:∃N,al.length=N:=⟨_,rfl⟩
 have hvb:∀k (h:k<ao.length),ao[k].A=(vA ao k:Int)∧ao[k].B=(vB ao k:Int):=fun k h=>by have hs:=vp h;have hso:=qR fy h;have a0:=hso.a0;have b0:=hso.b0;rw[hs] at a0 b0;rw[vA,vB,hs];omega
 obtain⟨ss,hss⟩:∃ss,ao.take n=ss:=⟨_,rfl⟩
 have htk:ss.length=n:=by rw[←hss,List.length_take];omega
 have hsl:List.take (n-0) (fB 0 (bD ao))=bD ss:=by rw[←hss];simp[bD]
 have hsg:∀k (h:k<ss.length) (h':k<ao.length),ss[k]=ao[k]:=fun k h h'=>by subst hss;exact List.getElem_take
 refine fE (jm hm ?_)
 try simp -implicitDefEqProofs only[go_sem,e6,eX]
 refine sI ?_
 refine fE (pR ?_)
 refine kJ rfl (gm (Sx 371 1 rfl) ?_)
 refine bt ?_
 refine kJ rfl (gJ ?_)
 refine bt ?_
 refine xp ?_
 simp -implicitDefEqProofs only[go_sem,eX]
 refine fE (pR ?_)
 refine kJ rfl (gJ ?_)
 refine bt ?_
 refine kJ rfl (gm (rQ 27 3 1 2 _ _ _ [[.val (.int .i64 (a:Int))]] rfl rfl rfl rfl rfl (by simp -implicitDefEqProofs only[go_sem]) rfl (by decide) rfl) ?_)
 refine bt ?_
 refine kJ rfl (gJ ?_)
 refine bt ?_
 refine xp ?_
 simp -implicitDefEqProofs only[go_sem,eX]
 refine fE (pR ?_)
 refine kJ rfl (gm (Sx 372 3 rfl) ?_)
 refine bt ?_
 refine kJ rfl (gJ ?_)
 refine bt ?_
 refine kJ rfl (gm (u9 _ _ _ _ 372 3 4 3 [] (a:Int) (.bool true) (.inr rfl) rfl rfl (by simp -implicitDefEqProofs only[go_sem]) (by simp -implicitDefEqProofs only[go_sem]) (by simp -implicitDefEqProofs only[go_sem]) (by simp -implicitDefEqProofs only[go_sem]) rfl rfl) ?_)
 refine bt ?_
 refine kJ rfl (gJ ?_)
 refine bt ?_
 refine kJ rfl (gJ ?_)
 refine bt ?_
 refine xp ?_
 simp -implicitDefEqProofs only[go_sem,eX]
 refine jm hm ?_
 refine bt ?_
 refine jI hm (fun(i:Nat) (df:List (Nat×Mod.Edge))=> i≤df.length∧Met al.length ao n a df∧yP ao n df i) (fun i df=> ⟨dN 116 .any [(0,.bA 0 0),(1,iv a),(2,iv b),(3,iv n),(9,.aX 1),(10,.aX 2),(11,.aX 3),(12,iv i)],[some (.box [lv (aU al),lv (db c),lv (bD ao)]),some (.map (qN df)),some (.aX 3 (db (kq df))),some (.map (DS df))]⟩) (fun i df=> al.length+1-i) (0) ([(a,⟨0,false⟩)]) ?_ (cM wM) ?_
 ·exact⟨bo _,YC ha _,fun j v hj=>by omega⟩
 ·rintro i df ⟨hi,hM,hT⟩
  have hdl:=XC hM
  have hfl:=x6 df
  rcases aa (i<df.length) with h1|h1
  ·have h1':i<(kq df).length:=oM
   obtain⟨v,hv⟩:∃v,(kq df)[i]=v:=⟨_,rfl⟩
   have hv':(kq df)[i]?=some v:=by rw[af h1',hv]
   have f1:n≤ao.length∧∀y∈bD ao,y.length=3:=⟨hn,Pb _⟩
   have hln:min (n-0) (fB 0 (bD ao)).length=n:=by simp[bD];omega
   refine gL hfl h1 (an hsl hln) ?_
   refine ry hm n (fun(k:Nat) (df:List (Nat×Mod.Edge))=>i<df.length∧(kq df)[i]?=some v∧Met al.length ao n a df∧yP ao n df i∧DX ao k df v) (fun k df=>⟨dN 116 .any [(0,.bA 0 0),(1,iv a),(2,iv b),(3,iv n),(9,.aX 1),(10,.aX 2),(11,.aX 3),(12,iv i),(37,lv (bD ss)),(38,iv n),(39,iv k)],[some (.box [lv (aU al),lv (db c),lv (bD ao)]),some (.map (qN df)),some (.aX 3 (db (kq df))),some (.map (DS df))]⟩) (df) ?_ (cM wM) ?_
   ·exact⟨bo _,h1,hv',hM,hT,SP _ _ _⟩
   ·clear hM hT hdl hfl h1 h1' hv hv' hi
    rintro k df ⟨hk,h1,hv',hM,hT,hS⟩
    have hdl:=XC hM
    have hfl:=x6 df
    have h1':i<(kq df).length:=oM
    have hv:(kq df)[i]=v:=by rw[af h1'] at hv';simpa using hv'
    rcases aa (k<n) with h2|h2
    ·have h2':k<ss.length:=oM
     have h3:k<ao.length:=oM
     obtain⟨eA,eB⟩:=hvb k h3
     have eg:ss[k]=ao[k]:=hsg k h2' h3
     have a1:=KF fy h3
     have b1:=Lf fy h3
     rcases aa (vB ao k=v) with hB|hB
     ·have kB:=eq_true hB
      rcases aa (vA ao k=v) with hA|hA
      ·have kA:=eq_true hA
       have hmet:v∈kq df:=by rw[←hv];exact aj h1'
       rw[hA] at eA
       rw[hB] at eB
       refine gL h2 h2' (an eg (an eA (an eB (an hfl (an h1 hv))))) ?_
       refine gm (wV (.tmp 66) (.tmp 67) 372 3 4 3 (DS df) (v:Int) (.bool true) rfl rfl (by simp -implicitDefEqProofs only[go_sem]) (by simp -implicitDefEqProofs only[go_sem]) (by simp -implicitDefEqProofs only[go_sem]) (Dz hmet)) ?_
       refine bt ?_
       exact⟨k+1,df,⟨oM,h1,hv',hM,hT,qC hS (fun _=>by rw[hB];exact hmet) (fun _=>by rw[hA];exact hmet)⟩,sL,cM wM⟩
      ·have es:jc ao ⟨k,true⟩=v:=hB
       have ee:jQ ao ⟨k,true⟩=vA ao k:=rfl
       obtain⟨w,hw⟩:∃w,vA ao k=w:=⟨_,rfl⟩
       rw[hw] at eA a1 ee hA
       rw[hB] at eB
       rcases aa (w∈kq df) with hmet|hmet
       ·refine gL h2 h2' (an eg (an eA (an eB (an hfl (an h1 hv))))) ?_
        refine gm (wV (.tmp 66) (.tmp 67) 372 3 4 3 (DS df) (w:Int) (.bool true) rfl rfl (by simp -implicitDefEqProofs only[go_sem]) (by simp -implicitDefEqProofs only[go_sem]) (by simp -implicitDefEqProofs only[go_sem]) (Dz hmet)) ?_
        refine bt ?_
        exact⟨k+1,df,⟨oM,h1,hv',hM,hT,qC hS (fun h=>absurd (hw▸h) hA) (fun _=>by rw[hw];exact hmet)⟩,sL,cM wM⟩
       ·refine gL h2 h2' (an eg (an eA (an eB (an hfl (an h1 hv))))) ?_
        have hd0:0<df.length:=oM
        refine gm (Fm (.tmp 66) (.tmp 67) 372 3 4 3 _ (DS df) (w:Int) rfl rfl rfl rfl (by simp -implicitDefEqProofs only[go_sem]) (by simp -implicitDefEqProofs only[go_sem]) (by simp -implicitDefEqProofs only[go_sem]) (uz hmet)) ?_
        refine bt ?_
        refine gm (u9 _ _ _ _ 372 3 4 3 (DS df) (w:Int) (.bool true) (.inl rfl) rfl rfl (by simp -implicitDefEqProofs only[go_sem]) (by simp -implicitDefEqProofs only[go_sem]) (by simp -implicitDefEqProofs only[go_sem]) (by simp -implicitDefEqProofs only[go_sem]) rfl (uz hmet)) ?_
        refine bt ?_
        refine gm (u9 _ _ _ _ 371 3 334 1 (qN df) (w:Int) (.agg #[.int .i64 (k:Int),.bool true]) (.inl rfl) rfl rfl (by simp -implicitDefEqProofs only[go_sem]) (by simp -implicitDefEqProofs only[go_sem]) (by simp -implicitDefEqProofs only[go_sem]) (by simp -implicitDefEqProofs only[go_sem]) rfl (wc hmet)) ?_
        refine bt ?_
        refine⟨k+1,df++[(w,⟨k,true⟩)],?_,sL,aZ [some 0,some 1,some 5,some 3] (by refine sA ?_;(first|done|((rw[wJ hd0,FR,lL,←oh];(repeat' apply an)<;>rfl))|(simp[a7, *];done)|(simp[a7];done)|(simp;omega)|skip)) (by refine sA ?_;(first|done|((rw[wJ hd0,FR,lL,←oh];(repeat' apply an)<;>rfl))|(simp[a7, *];done)|(simp[a7];done)|(simp;omega)|skip)) rfl rfl⟩
        have hM2:=Ww (e:=⟨k,true⟩) hM h2 hv' es (by rw[ee];exact hmet) (by rw[ee];exact a1)
        rw[ee] at hM2
        refine⟨oM,by simp;omega,by rw[lL,bF h1'];exact hv',hM2,EH oM hT,qC (HQ hS) (fun h=>absurd (hw▸h) hA) (fun _=>?_)⟩
        rw[hw,lL]
        exact iq _ (by simp[kq])
     ·rcases aa (vA ao k=v) with hA|hA
      ·have es:jc ao ⟨k,false⟩=v:=hA
       have ee:jQ ao ⟨k,false⟩=vB ao k:=rfl
       obtain⟨w,hw⟩:∃w,vB ao k=w:=⟨_,rfl⟩
       rw[hw] at eB b1 ee hB
       rw[hA] at eA
       rcases aa (w∈kq df) with hmet|hmet
       ·refine gL h2 h2' (an eg (an eA (an eB (an hfl (an h1 (an hv hB)))))) ?_
        refine gm (wV (.tmp 66) (.tmp 67) 372 3 4 3 (DS df) (w:Int) (.bool true) rfl rfl (by simp -implicitDefEqProofs only[go_sem]) (by simp -implicitDefEqProofs only[go_sem]) (by simp -implicitDefEqProofs only[go_sem]) (Dz hmet)) ?_
        refine bt ?_
        exact⟨k+1,df,⟨oM,h1,hv',hM,hT,qC hS (fun _=>by rw[hw];exact hmet) (fun h=>absurd (hw▸h) hB)⟩,sL,cM wM⟩
       ·refine gL h2 h2' (an eg (an eA (an eB (an hfl (an h1 (an hv hB)))))) ?_
        have hd0:0<df.length:=oM
        refine gm (Fm (.tmp 66) (.tmp 67) 372 3 4 3 _ (DS df) (w:Int) rfl rfl rfl rfl (by simp -implicitDefEqProofs only[go_sem]) (by simp -implicitDefEqProofs only[go_sem]) (by simp -implicitDefEqProofs only[go_sem]) (uz hmet)) ?_
        refine bt ?_
        refine gm (u9 _ _ _ _ 372 3 4 3 (DS df) (w:Int) (.bool true) (.inl rfl) rfl rfl (by simp -implicitDefEqProofs only[go_sem]) (by simp -implicitDefEqProofs only[go_sem]) (by simp -implicitDefEqProofs only[go_sem]) (by simp -implicitDefEqProofs only[go_sem]) rfl (uz hmet)) ?_
        refine bt ?_
        refine gm (u9 _ _ _ _ 371 3 334 1 (qN df) (w:Int) (.agg #[.int .i64 (k:Int),.bool false]) (.inl rfl) rfl rfl (by simp -implicitDefEqProofs only[go_sem]) (by simp -implicitDefEqProofs only[go_sem]) (by simp -implicitDefEqProofs only[go_sem]) (by simp -implicitDefEqProofs only[go_sem]) rfl (wc hmet)) ?_
        refine bt ?_
        refine⟨k+1,df++[(w,⟨k,false⟩)],?_,sL,aZ [some 0,some 1,some 5,some 3] (by refine sA ?_;(first|done|((rw[wJ hd0,FR,lL,←oh];(repeat' apply an)<;>rfl))|(simp[a7, *];done)|(simp[a7];done)|(simp;omega)|skip)) (by refine sA ?_;(first|done|((rw[wJ hd0,FR,lL,←oh];(repeat' apply an)<;>rfl))|(simp[a7, *];done)|(simp[a7];done)|(simp;omega)|skip)) rfl rfl⟩
        have hM2:=Ww (e:=⟨k,false⟩) hM h2 hv' es (by rw[ee];exact hmet) (by rw[ee];exact b1)
        rw[ee] at hM2
        refine⟨oM,by simp;omega,by rw[lL,bF h1'];exact hv',hM2,EH oM hT,qC (HQ hS) (fun _=>?_) (fun h=>absurd (hw▸h) hB)⟩
        rw[hw,lL]
        exact iq _ (by simp[kq])
      ·refine gL h2 h2' (an eg (an eA (an eB (an hfl (an h1 (an hv (an hB hA))))))) ?_
       exact⟨k+1,df,⟨oM,h1,hv',hM,hT,qC hS (fun h=>absurd h hA) (fun h=>absurd h hB)⟩,sL,cM wM⟩
    ·obtain rfl:k=n:=oM
     refine du h2 ?_
     exact⟨i+1,df,⟨oM,hM,Pf hT hv' (V2 hS)⟩,sL,cM wM⟩
  ·obtain rfl:i=df.length:=oM
   obtain⟨w1,w2,w3⟩:=vo fy hn ha hb hab
   have hbm:b∈kq df:=FO hT w1 w2 (dH hM.head)
   obtain⟨j0,hj0,hjb⟩:=List.mem_iff_getElem.1 hbm
   have hjb':(kq df)[j0]?=some b:=by rw[af hj0,hjb]
   refine oH hfl h1 ?_
   refine n6 hm (fun(j:Nat) (t:Nat) (out:List Mod.Edge)=> ab2 ao n b df j t out) (fun j t out=> ⟨dN 116 .any [(0,.bA 0 0),(1,iv a),(2,iv t),(9,.aX 1),(18,.aX 2)],[some (.box [lv (aU al),lv (db c),lv (bD ao)]),some (.map (qN df)),some (.aX 334 (eK out))]⟩) (fun j t out=> j) (j0) (b) ([]) ?_ (cM [some 0,some 1,none]) ?_
   ·exact Vo hjb'
   ·rintro j t out hB
    have hjl:j<df.length:=by rw[←hfl];exact(List.getElem?_eq_some_iff.1 hB.at_).1
    have htl:t<al.length:=hM.lt t (dH hB.at_)
    have hol:out.length≤1000:=by
     have h5:=mg hB.nod (fun v hv=>by
      simp only[jl,List.mem_cons,List.mem_map] at hv
      rcases hv with rfl|⟨d,hd,rfl⟩
      ·exact htl
      ·exact B7 fy (by have:=hB.in_ d hd;omega))
     simp[jl] at h5;omega
    rcases aa (t=a) with h2|h2
    ·have k2:=eq_true h2
     have hbk:=hB
     rw[h2] at hbk
     have hout:=abU fy hn ha hbk
     refine du k2 ?_
     refine Mw [] [2] (LO out hol) ?_
     try simp -implicitDefEqProofs only[go_sem,Z1,Z2,Z3,Z4,e6,eX,zu]
     refine sI ?_
     refine fI ?_
     refine bX fe ?_ rfl rfl
     refine sA ?_
     rw[hout]
     exact⟨rfl,rfl⟩
    ·have hj:0<j:=by
      rcases Nat.eq_zero_or_pos j with h5|h5
      ·have h6:=hM.head
       have h7:=hB.at_
       rw[h5,h6] at h7
       exact absurd (Option.some.inj h7).symm h2
      ·exact h5
     obtain⟨⟨t',e⟩,hde⟩:∃x,df[j]?=some x:=⟨df[j],af hjl⟩
     have htt:t'=t:=by have h7:=hB.at_;rw[kq,List.getElem?_map,hde] at h7;exact Option.some.inj h7
     rw[htt] at hde
     have hmg:=Nj hM.nod hj hde
     obtain⟨i2,hi2,hB2⟩:=XU hM hB hde hj
     have hes:=(hM.by_ j t e hde hj).1
     have h3:e.step<ao.length:=oM
     obtain⟨eA,eB⟩:=hvb e.step h3
     refine du h2 ?_
     refine gm (wV (.tmp 86) (.tmp 87) 371 3 334 1 (qN df) (t:Int) (.agg #[.int .i64 (e.step:Int),.bool e.back]) rfl rfl (by simp -implicitDefEqProofs only[go_sem]) (by simp -implicitDefEqProofs only[go_sem]) (by simp -implicitDefEqProofs only[go_sem]) hmg) ?_
     cases hb2:e.back
     ·have es:jc ao e=vA ao e.step:=by rw[jc,hb2];rfl
      rw[es] at hB2
      refine P6 h3 eA eB ?_
      exact⟨i2,vA ao e.step,out++[e],hB2,sL,aZ [some 0,some 1,some 4] (by refine sA ?_;(first|done|((rw[←uM,sx,qV,CC,hb2]))|(simp[a7, *];done)|(simp[a7];done)|(simp;omega)|skip)) (by refine sA ?_;(first|done|((rw[←uM,sx,qV,CC,hb2]))|(simp[a7, *];done)|(simp[a7];done)|(simp;omega)|skip)) rfl rfl⟩
     ·have es:jc ao e=vB ao e.step:=by rw[jc,hb2];rfl
      rw[es] at hB2
      refine P6 h3 eA eB ?_
      exact⟨i2,vB ao e.step,out++[e],hB2,sL,aZ [some 0,some 1,some 4] (by refine sA ?_;(first|done|((rw[←uM,sx,qV,CC,hb2]))|(simp[a7, *];done)|(simp[a7];done)|(simp;omega)|skip)) (by refine sA ?_;(first|done|((rw[←uM,sx,qV,CC,hb2]))|(simp[a7, *];done)|(simp[a7];done)|(simp;omega)|skip)) rfl rfl⟩
end Go.Proofs.YtphcpjhkeipggaaGreat
