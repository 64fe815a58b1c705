/-
  The program: the walk of closures. A step towards the laws.
-/
import Derived.Test.YtnhdminpjihbnaaGreatKAH
import Derived.Test.YtnhdminpjihbnaaGreatKAEl
set_option linter.unusedVariables false
set_option linter.unusedSimpArgs false
open Int renaming reduceEq→Z1,reduceLT→Z2,reduceLE→Z3,reduceToNat→Z4
open And renaming intro→aq
open Bool renaming true_and→aN,false_and→aZ
open Classical renaming em→aa
open List renaming getElem?_eq_getElem→ae,getElem_mem→ah,drop_of_length_le→al,getD_eq_getElem?_getD→aE,getElem?_append_left→br,range→cK,mem_of_getElem?→du,mem_append_right→jZ,drop→pC
open Nat renaming le_refl→aH,zero_le→bT
namespace Go.Proofs.YtnhdminpjihbnaaGreat
open Go.Eng Go.Mod
set_option maxRecDepth 100000
set_option maxHeartbeats 3200000
def ai1(aj:List az)(c:List Nat)(ao:List Step):List D:=[.eP (ba aj),.eP (eZ c),.eP (b8 ao)]
attribute [go_sem] ai1
theorem HW(aj:List az)(c:List Nat)(ao:List Step)(t:az):CN 109 [.gQ [ai1 aj c ao] 0 0,av (cT t)] (iv (dN aj t)):=by refine gS 11 [.tmp 4] hm Tryz.func109 fun hl he cV=>?_;refine aC [] (fX aj t) ?_;refine iK ?_;refine fv ?_;exact sC
theorem K8(aj:List az)(c:List Nat)(ao:List Step)(x y:az)(hx:x∈aj)(hy:y∈aj)(hc:c.length=aj.length):CP 236 [av (cT x),av (cT y),.bK 0 0] [some (.box [.bK 1 0]),some (.box [lv (ba aj),.aW 2,.aW 3]),some (.aW 3 (eZ c)),some (.aW 260 (b8 ao))] (bv (SI aj c x y)):=by have px:=df hx;have py:=df hy;have cx:=fP hx;have cy:=fP hy;have px':a8 aj x<c.length:=oM;have py':a8 aj y<c.length:=oM;have ex:c[a8 aj x]=cl c (a8 aj x):=(nN px').symm;have ey:c[a8 aj y]=cl c (a8 aj y):=(nN py').symm;refine gS 25 [.tmp 5] hm Tryz.func236 fun hl he cV=>?_;refine CM [] [1,2,3] (HW aj c ao x) ?_;refine xE cx px' ex ?_;refine CM [] [1,2,3] (HW aj c ao y) ?_;refine xE cy py' ey ?_;refine iK ?_;refine bM Aj ?_ rfl rfl;exact qE
theorem Jx(aj:List az)(c:List Nat)(ao:List Step)(hc:c.length=aj.length)(xs ys:List az)(hx:∀x∈xs,x∈aj)(hy:∀y∈ys,y∈aj)(rP:xs.length≤1000):CP 187 [lv (ba xs),lv (ba ys),.fn 236 [.bK 0 0]] [some (.box [.bK 1 0]),some (.box [lv (ba aj),.aW 2,.aW 3]),some (.aW 3 (eZ c)),some (.aW 260 (b8 ao))] (bv (oV aj c xs ys)):=by
 refine gS 32 [.tmp 6] hm Tryz.func187 fun hl he cV=>?_;rcases aa (xs.length=ys.length) with h0|h0
 ·have k0:=eq_true h0;refine bS k0 ?_;refine lZ hm xs.length (fun(i:Nat)=>oV aj c xs ys=oV aj c (xs.drop i) (ys.drop i)) (fun i=>⟨fk 32 .any [(1,lv (ba ys)),(2,.fn 236 [.bK 0 0]),(15,lv (ba xs)),(16,iv xs.length),(17,iv i)],[some (.box [.bK 1 0]),some (.box [lv (ba aj),.aW 2,.aW 3]),some (.aW 3 (eZ c)),some (.aW 260 (b8 ao))]⟩) ?_ (c9 Aj) ?_;exact⟨bT _,rfl⟩;rintro i ⟨hi,hg⟩;rcases aa (i<xs.length) with h1|h1
  ·have h2:i<ys.length:=oM;have hco:=K8 aj c ao xs[i] ys[i] (hx _ (ah h1)) (hy _ (ah h2)) hc;rw[UR h1 h2] at hg;refine uJ ?_;refine ff [.bK 0 0] [0,1,2,3] hco ?_ ?_
   ·refine sA ?_;first|rfl|((repeat' apply aq)<;>rfl)
   refine sA ?_;cases h3:SI aj c xs[i] ys[i];rw[h3,aZ] at hg;refine sA ?_;refine bM Aj ?_ rfl rfl;exact fA hg;rw[h3,aN] at hg;refine bI ?_;exact⟨i+1,⟨oM,hg⟩,sL,c9 Aj⟩
  rw[al oM,al oM,XH] at hg;refine bS h1 ?_;refine bM Aj ?_ rfl rfl;exact fA hg
 rw[Lc h0];refine bS h0 ?_;refine bM Aj ?_ rfl rfl;exact sC
theorem Od(aj:List az)(c:List Nat)(ao:List Step)(a b:Nat)(hk:mo aj)(ha:a<aj.length)(hb:b<aj.length)(hc:c.length=aj.length)(hk9:∀t∈aj,t.ar.length≤1000):CP 194 [.bK 0 0,iv a,iv b] [some (.box [lv (ba aj),.aW 1,.aW 2]),some (.aW 3 (eZ c)),some (.aW 260 (b8 ao))] (bv (alike aj c a b)):=by
 have e1:aj.getD a aX=aj[a]:=by rw[aE,ae ha];rfl
 have e2:aj.getD b aX=aj[b]:=by rw[aE,ae hb];rfl
 have ka:=hk _ (ah ha);have la:=hk9 _ (ah ha);have kb:=hk _ (ah hb);have e:alike aj c a b=(decide (0<aj[a].ar.length)&&(decide (aj[a].name=aj[b].name)&&oV aj c aj[a].ar aj[b].ar)):=by rw[alike,e1,e2]
 have hco:=Jx aj c ao hc aj[a].ar aj[b].ar ka kb la;refine gS 42 [.tmp 6] hm Tryz.func194 fun hl he cV=>?_;simp -implicitDefEqProofs only[go_sem,ha,hb];refine iK ?_;rcases aa ((0:Int)<(aj[a].ar.length:Int)) with h1|h1
 ·rcases aa (aj[a].name=aj[b].name) with h2|h2
  ·have k2:=eq_true h2;rw[decide_eq_true (by omega:0<aj[a].ar.length),decide_eq_true h2,aN,aN] at e;refine lf h1 k2 ?_;refine ff [] [3,0,1,2] hco ?_ ?_
   ·refine sA ?_;first|rfl|((repeat' apply aq)<;>rfl)
   refine sA ?_;refine bM sa ?_ rfl rfl;exact fA e
  rw[decide_eq_false h2,aZ,Bool.and_false] at e;refine uJ ?_;refine bM sa ?_ rfl rfl;exact fA e
 rw[decide_eq_false (by omega:¬0<aj[a].ar.length),aZ] at e;refine uA ?_;refine bM sa ?_ rfl rfl;exact fA e
theorem ab8(aj:List az)(c:List Nat)(ao:List Step)(hk:mo aj)(hc:c.length=aj.length)(rP:aj.length≤1000)(hk9:∀t∈aj,t.ar.length≤1000):CP 155 [.bK 0 0] [some (.box [lv (ba aj),.aW 1,.aW 2]),some (.aW 3 (eZ c)),some (.aW 260 (b8 ao))] (.ko [iv (((mE aj c).getD (0,0)).1:Nat),iv (((mE aj c).getD (0,0)).2:Nat),bv (mE aj c).isSome]):=by
 refine gS 44 [.tmp 2,.tmp 3,.tmp 4] hm Tryz.func155 fun hl he cV=>?_;refine lZ hm aj.length (fun(l:Nat)=>mE aj c=(mu l aj.length).find? (fun p=>vp aj c p.1 p.2)) (fun l=>⟨fk 44 .any [(0,.bK 0 0),(11,iv aj.length),(12,iv l)],[some (.box [lv (ba aj),.aW 1,.aW 2]),some (.aW 3 (eZ c)),some (.aW 260 (b8 ao))]⟩) ?_ (c9 sa) ?_;exact⟨bT _,rfl⟩;rintro l ⟨hi,hg⟩;rcases aa (l<aj.length) with h1|h1
 ·rw[L8 h1] at hg;refine bS h1 ?_;refine lZ hm l (fun(e:Nat)=>mE aj c=(vE e l aj.length).find? (fun p=>vp aj c p.1 p.2)) (fun e=>⟨fk 44 .any [(0,.bK 0 0),(5,iv l),(11,iv aj.length),(12,iv l),(15,iv l),(16,iv e)],[some (.box [lv (ba aj),.aW 1,.aW 2]),some (.aW 3 (eZ c)),some (.aW 260 (b8 ao))]⟩) ?_ (c9 sa) ?_;exact⟨bT _,hg⟩;rintro e ⟨he,hg⟩;rcases aa (e<l) with h2|h2
  ·have pe:e<c.length:=oM;have pl:l<c.length:=oM;have ee:c[e]=cl c e:=(nN pe).symm;have el:c[l]=cl c l:=(nN pl).symm;rw[NO h2,List.find?_cons] at hg;have em:vp aj c e l=(decide (cl c e≠cl c l)&&alike aj c e l):=rfl;simp only[em] at hg;rcases aa (cl c e=cl c l) with h3|h3;have k3:(cl c e=cl c l)=True:=eq_true h3;rw[decide_eq_false (by omega:¬cl c e≠cl c l),aZ] at hg;refine kY h2 pe (aq pl (aq ee (aq el k3))) ?_;exact⟨e+1,⟨oM,hg⟩,sL,c9 sa⟩;have hco:=Od aj c ao e l hk oM h1 hc hk9;rw[decide_eq_true (by omega:cl c e≠cl c l),aN] at hg;refine xE h2 pe (aq pl (aq ee (aq el h3))) ?_;refine ff [] [0,1,2] hco ?_ ?_
   ·refine sA ?_;first|rfl|((repeat' apply aq)<;>rfl)
   refine bI ?_;cases h4:alike aj c e l;rw[h4] at hg;refine bI ?_;exact⟨e+1,⟨oM,hg⟩,sL,c9 sa⟩;rw[h4] at hg;simp only at hg;refine sA ?_;refine bM sa ?_ rfl rfl;exact fA hg
  rw[RF oM] at hg;refine dB h2 ?_;exact⟨l+1,⟨oM,hg⟩,sL,c9 sa⟩
 rw[Oh oM,List.find?_nil] at hg;refine bS h1 ?_;refine bM sa ?_ rfl rfl;exact fA hg
theorem OK(aj:List az)(c:List Nat)(ao:List Step)(a b:Nat)(n:Int)(ha:a<c.length)(hb:b<c.length)(rP:c.length≤1000)(hs9:ao.length≤2000000):C E.P 154 [.bK 0 0,iv a,iv b,iv n] [some (.box [lv (ba aj),.aW 1,.aW 2]),some (.aW 3 (eZ c)),some (.aW 260 (b8 ao))] (gR (.ko []) [some (.box [lv (ba aj),.aW 1,.aW 3]),some (.aW 3 (eZ (km c a b))),some .dead,some (.aW 260 (b8 (ao++[⟨a,b,n⟩])))]):=by
 have ea:c[a]=cl c a:=(nN ha).symm;have eb:c[b]=cl c b:=(nN hb).symm;obtain⟨f,hf⟩:∃f,max (cl c a) (cl c b)=f:=⟨_,rfl⟩;obtain⟨t,ht⟩:∃t,min (cl c a) (cl c b)=t:=⟨_,rfl⟩;have hend:∀i,c.length≤i→kH c f t i=km c a b:=fun i hi=>by rw[←hf,←ht];exact Ws hi
 have hss:b8 ao++[[.val (.int .i64 (a:Int)),.val (.int .i64 (b:Int)),.val (.int .i64 n)]]=b8 (ao++[⟨a,b,n⟩]):=by rw[←Sd,NS,FH];rfl
 refine gS 65 [] hm Tryz.func154 fun hl he cV=>?_;refine kY ha hb (aq ea eb) ?_;rw[hss];rcases aa (cl c a<cl c b) with h0|h0;have ef:f=cl c b:=oM;have et:t=cl c a:=oM;refine bS h0 ?_;rw[←ef,←et];refine jf hm c.length (fun i=>⟨fk 65 .any [(0,.bK 0 0),(8,iv f),(9,iv t),(47,.aW 1),(48,iv c.length),(49,iv i)],[some (.box [lv (ba aj),.aW 1,.aW 3]),some (.aW 3 (eZ (kH c f t i))),some .dead,some (.aW 260 (b8 (ao++[⟨a,b,n⟩])))]⟩) (c9 Aj) ?_;rintro i hi;have hjl:=yP c f t i;rcases aa (i<c.length) with h1|h1;have h1':i<(kH c f t i).length:=oM;have eg:=zg (f:=f) (t:=t) h1 h1';rcases aa (c[i]=f) with h2|h2;have k2:(c[i]=f)=True:=eq_true h2;have hp:=Cl (l:=kH c f t i) (i:=i) (n:=t) h1';have hn:=xi (f:=f) (t:=t) h1;rw[if_pos h2] at hn;rw[vn h1',eg] at hp;refine kY hjl h1 (aq eg k2) ?_;exact⟨i+1,h1,sL,bW Aj sC (by refine sA ?_;(rw[hp,hn])) rfl rfl⟩;have hn:=BC (f:=f) (t:=t) h1 h2;refine kY hjl h1 (aq eg h2) ?_;exact⟨i+1,h1,sL,nB_ Aj hn⟩;rw[hend i oM] at hjl⊢;refine bS h1 ?_;refine bM Aj ?_ rfl rfl;exact sC;have ef:f=cl c a:=oM;have et:t=cl c b:=oM;refine bS h0 ?_;rw[←ef,←et];refine jf hm c.length (fun i=>⟨fk 65 .any [(0,.bK 0 0),(8,iv f),(9,iv t),(47,.aW 1),(48,iv c.length),(49,iv i)],[some (.box [lv (ba aj),.aW 1,.aW 3]),some (.aW 3 (eZ (kH c f t i))),some .dead,some (.aW 260 (b8 (ao++[⟨a,b,n⟩])))]⟩) (c9 Aj) ?_;rintro i hi;have hjl:=yP c f t i;rcases aa (i<c.length) with h1|h1;have h1':i<(kH c f t i).length:=oM;have eg:=zg (f:=f) (t:=t) h1 h1';rcases aa (c[i]=f) with h2|h2;have k2:(c[i]=f)=True:=eq_true h2;have hp:=Cl (l:=kH c f t i) (i:=i) (n:=t) h1';have hn:=xi (f:=f) (t:=t) h1;rw[if_pos h2] at hn;rw[vn h1',eg] at hp;refine kY hjl h1 (aq eg k2) ?_;exact⟨i+1,h1,sL,bW Aj sC (by refine sA ?_;(rw[hp,hn])) rfl rfl⟩;have hn:=BC (f:=f) (t:=t) h1 h2;refine kY hjl h1 (aq eg h2) ?_;exact⟨i+1,h1,sL,nB_ Aj hn⟩;rw[hend i oM] at hjl⊢;refine bS h1 ?_;refine bM Aj ?_ rfl rfl;exact sC
theorem N6(aj:List az)(dx:List lH)(hk:mo aj)(jY:∀e∈dx,e.A∈aj∧e.B∈aj)(rP:aj.length≤1000)(hk9:∀t∈aj,t.ar.length≤1000)(he9:dx.length≤1000) :
 C E.P 103 [lv (ba aj),lv (lU dx)] [] (gR (.bK 0 0) [some (.box [lv (ba aj),lv (eZ (closed aj dx).1),lv (b8 (closed aj dx).2)])]):=by
 refine gS 82 [.tmp 4] hm Tryz.func103 fun hl he cV=>?_
 refine jf hm aj.length (fun i=>⟨fk 82 .any [(1,lv (lU dx)),(5,.bK 0 0),(18,iv aj.length),(19,iv i)],[some (.box [lv (ba aj),.aW 1,.aW 2]),some (.aW 3 (eZ (cK i))),some (.aW 260 (b8 []))]⟩) (c9 [some 0,none,none]) ?_
 ·rintro i hi
  have hrl:(cK i).length=i:=List.length_range
  rcases aa (i<aj.length) with h1|h1
  ·refine dB h1 ?_
   exact⟨i+1,h1,sL,bW [some 0,some 3,some 2] sC (by refine sA ?_;(rw[←xX];rfl)) rfl rfl⟩
  ·obtain rfl:i=aj.length:=oM
   refine bS h1 ?_
   clear hi h1
   refine aeg hm dx.length (fun(n:Nat) (c:List Nat) (ao:List Step)=>c.length=aj.length∧(∀x∈c,x≤1000)∧ao.length≤n∧given aj dx=mw aj n (dx.drop n) c ao) (fun n c ao=>⟨fk 82 .any [(5,.bK 0 0),(33,lv (lU dx)),(34,iv dx.length),(35,iv n)],[some (.box [lv (ba aj),.aW 1,.aW 2]),some (.aW 3 (eZ c)),some (.aW 260 (b8 ao))]⟩) (cK aj.length) ([]) ?_ (c9 sa) ?_
   ·exact⟨bT _,hrl,fun x hx=>by have:=List.mem_range.1 hx;omega,aH _,rfl⟩
   ·rintro n c ao ⟨hn,hc,hm9,hs,hg⟩
    rcases aa (n<dx.length) with h1|h1
    ·obtain⟨mA,mB⟩:=jY _ (ah h1)
     have pA:=df mA
     have pB:=df mB
     have cA:=fP mA
     have cB:=fP mB
     have pA':a8 aj dx[n].A<c.length:=oM
     have pB':a8 aj dx[n].B<c.length:=oM
     have eA:c[a8 aj dx[n].A]=cl c (a8 aj dx[n].A):=(nN pA').symm
     have eB:c[a8 aj dx[n].B]=cl c (a8 aj dx[n].B):=(nN pB').symm
     have hj1:=j8 c (a8 aj dx[n].A) (a8 aj dx[n].B)
     have hj2:=Uq (a:=a8 aj dx[n].A) (b:=a8 aj dx[n].B) hm9
     have cj:=OK aj c ao (a8 aj dx[n].A) (a8 aj dx[n].B) n pA' pB' oM oM
     have ca:=HW aj c ao dx[n].A
     have cb:=HW aj c ao dx[n].B
     rw[cA] at ca
     rw[cB] at cb
     rw[List.drop_eq_getElem_cons h1,mw] at hg
     refine uA ?_
     refine ox [] [0,1,2] ca rfl ?_ ?_ ?_
     ·exact sV
     all_goals simp -implicitDefEqProofs only[go_sem]
     refine CM [] [0,1,2] cb ?_
     refine iK ?_
     generalize a8 aj dx[n].A=a at *
     generalize a8 aj dx[n].B=b at *
     rcases aa (cl c a=cl c b) with h2|h2
     ·have k2:(cl c a=cl c b)=True:=eq_true h2
      rw[if_pos h2] at hg
      refine kY pA' pB' (aq eA (aq eB k2)) ?_
      exact⟨n+1,c,ao,⟨oM,hc,hm9,oM,hg⟩,sL,c9 sa⟩
     ·rw[if_neg h2] at hg
      refine kY pA' pB' (aq eA (aq eB h2)) ?_
      refine ff [] [0,1,2,4] cj ?_ ?_
      ·refine sA ?_
       first|rfl|((repeat' apply aq)<;>rfl)
      refine bI ?_
      exact⟨n+1,km c a b,ao++[⟨a,b,n⟩],⟨oM,oM,hj2,by simp;omega,hg⟩,sL,c9 [some 0,some 1,some 4]⟩
    ·rw[al oM,mw] at hg
     have hcl:closed aj dx=nU aj c.sum c ao:=by rw[closed,hg]
     have hsum:=yq hm9
     have hsum2:c.length*1000≤1000*1000:=Nat.mul_le_mul_right _ oM
     refine bS h1 ?_
     refine tG hm (fun(f:Nat) (c:List Nat) (ao:List Step)=> c.length=aj.length∧(∀x∈c,x≤1000)∧c.sum≤f∧ao.length+f≤1999000∧closed aj dx=nU aj f c ao) (fun f c ao=> ⟨fk 82 .any [(5,.bK 0 0)],[some (.box [lv (ba aj),.aW 1,.aW 2]),some (.aW 3 (eZ c)),some (.aW 260 (b8 ao))]⟩) (fun f c ao=> f) (c.sum) (c) (ao) ?_ (c9 sa) ?_
     ·exact⟨hc,hm9,aH _,oM,hcl⟩
     ·clear hcl hsum hsum2 hg h1 hn hc hm9 hs
      rintro f c ao ⟨hc,hm9,hf,hs,hg⟩
      have cn:=ab8 aj c ao hk hc rP hk9
      refine sA ?_
      refine ff [] [0,1,2] cn ?_ ?_
      ·refine sA ?_
       first|rfl|((repeat' apply aq)<;>rfl)
      refine sA ?_
      cases hp:mE aj c with
      | none=>rw[Ez hp] at hg;refine CJ ?_;refine bM gE ?_ rfl rfl;exact fA hg
      | some p=>
       obtain⟨f',rfl,hg2,hf2⟩:=E3 (ao:=ao) hf hc hp;obtain⟨p1,p2,p3,p4⟩:=xQ hp;rw[hg2] at hg;have hj1:=j8 c p.1 p.2;have hj2:=Uq (a:=p.1) (b:=p.2) hm9;have cj:=OK aj c ao p.1 p.2 (-1) oM oM oM oM;obtain⟨a,b⟩:=p;simp only at hg hg2 hf2 p1 p2 hj1 hj2 cj;refine CJ ?_;refine ff [] [0,1,2,3] cj ?_ ?_
       ·refine sA ?_;first|rfl|((repeat' apply aq)<;>rfl)
       refine sA ?_;exact⟨f',km c a b,ao++[⟨a,b,-1⟩],⟨oM,hj2,hf2,by simp;omega,hg⟩,sL,c9 [some 0,some 1,some 3]⟩
theorem FT{l:List Mod.Edge}{i:Nat}{x:Mod.Edge}(h:i<l.length):(eG l).set i (vz (row (eG l) i) 0 [.val (.int .i64 (x.step:Int)),.val (.bool x.back)])=eG (l.set i x):=by rw[yU h,←RK];rfl
theorem PF{ys:List Mod.Edge}{i j:Nat}(hi:i<ys.length)(hj:j<ys.length):((eG ys).set i (vz [.val (.int .i64 (ys[i].step:Int)),.val (.bool ys[i].back)] 0 [.val (.int .i64 (ys[j].step:Int)),.val (.bool ys[j].back)])).set j (vz (row ((eG ys).set i (vz [.val (.int .i64 (ys[i].step:Int)),.val (.bool ys[i].back)] 0 [.val (.int .i64 (ys[j].step:Int)),.val (.bool ys[j].back)])) j) 0 [.val (.int .i64 (ys[i].step:Int)),.val (.bool ys[i].back)])=eG ((ys.set i ys[j]).set j ys[i]):=by
 have h1:(eG ys).set i (vz [.val (.int .i64 (ys[i].step:Int)),.val (.bool ys[i].back)] 0 [.val (.int .i64 (ys[j].step:Int)),.val (.bool ys[j].back)])=eG (ys.set i ys[j]):=by have h:=FT (x:=ys[j]) hi;rw[yU hi] at h;exact h
 rw[h1];exact FT (l:=ys.set i ys[j]) (x:=ys[i]) (by simpa using hj)
theorem Nn(l:List Mod.Edge)(rP:l.length≤1000):C E.P 250 [.aW 0] [some (.aW 275 (eG l))] (gR (.ko []) [some (.aW 275 (eG l.reverse))]):=by
 refine gS 28 [] hm Tryz.func250 fun hl he cV=>?_;refine me ?_;refine Ag hm l.length (fun(i:Nat) (ys:List Mod.Edge)=>QM l ys i) (fun i ys=>⟨fk 28 .any [(0,.aW 0),(2,iv i),(3,iv ((l.length:Int)-1-(i:Int)))],[some (.aW 275 (eG ys))]⟩) (l) ?_ (c9 gE) ?_;exact⟨bT _,QM.zero l⟩;rintro i ys ⟨hi,hr⟩;have fj:=hr.len;rcases aa ((i:Int)<(l.length:Int)-1-(i:Int)) with h1|h1
 ·obtain⟨j,hj⟩:∃j:Nat,(l.length:Int)-1-(i:Int)=j:=⟨l.length-1-i,oM⟩;have hi':i<ys.length:=oM;have hj':j<ys.length:=oM;have gY:=hr.step (by omega:i<j) oM hi' hj';rw[hj] at h1⊢;try simp -implicitDefEqProofs only[go_sem,h1,hi',hj']
  refine sJ ?_;exact⟨i+1,(ys.set i ys[j]).set j ys[i],⟨oM,gY⟩,sL,bW gE (by refine sA ?_;(first|done|(exact PF hi' hj')|(simp[*];done)|(simp[];done)|(simp;omega)|skip)) (by refine sA ?_;(first|done|(exact PF hi' hj')|(simp[aR, *];done)|(simp[aR];done)|(simp;omega)|skip)) rfl rfl⟩
 have hd:=hr.done oM;refine dB h1 ?_;refine bM gE ?_ rfl rfl;exact fA hd
theorem ahX(aj:List az)(dx:List lH)(c:List Nat)(ao:List Step)(dL:qu aj dx ao)(rP:aj.length≤1000)(hs9:ao.length≤2000000)(n a b:Nat)(hn:n≤ao.length)(ha:a<aj.length)(hb:b<aj.length)(hab:cl (bl aj.length ao n) a=cl (bl aj.length ao n) b) :
 CP 208 [.bK 0 0,iv a,iv b,iv n] [some (.box [lv (ba aj),lv (eZ c),lv (b8 ao)])] (lv (eG (oK aj.length ao n a b))):=by
 have cV:=oc
 refine rF (nt:=116) (rs:=[.tmp 8]) Tryz.func208 rfl rfl rfl rfl rfl (fun hl he=>?_)
 simp -implicitDefEqProofs only[go_sem] at hl he⊢
 obtain⟨N,hN⟩:∃N,aj.length=N:=⟨_,rfl⟩
 have hvb:∀k (h:k<ao.length),ao[k].A=(vA ao k:Int)∧ao[k].B=(vB ao k:Int):=fun k h=>by have hs:=MO h;have hso:=uQ dL h;have a0:=hso.a0;have b0:=hso.b0;rw[hs] at a0 b0;rw[vA,vB,hs];omega
 obtain⟨ss,hss⟩:∃ss,ao.take n=ss:=⟨_,rfl⟩
 have htk:ss.length=n:=by rw[←hss,List.length_take];omega
 have hsl:List.take (n-0) (pC 0 (b8 ao))=b8 ss:=by rw[←hss];simp[b8]
 have hsg:∀k (h:k<ss.length) (h':k<ao.length),ss[k]=ao[k]:=fun k h h'=>by subst hss;exact List.getElem_take
 refine dD (fh hm ?_)
 try simp -implicitDefEqProofs only[go_sem,bO,ck]
 refine sI ?_
 refine dD (wh ?_)
 refine uu rfl (hY (TH 307 1 rfl) ?_)
 refine bI ?_
 refine uu rfl (rv ?_)
 refine bI ?_
 refine D6 ?_
 simp -implicitDefEqProofs only[go_sem,ck]
 refine dD (wh ?_)
 refine uu rfl (rv ?_)
 refine bI ?_
 refine uu rfl (hY (DD 32 3 1 2 _ _ _ [[.val (.int .i64 (a:Int))]] rfl rfl rfl rfl rfl (by simp -implicitDefEqProofs only[go_sem]) rfl (by decide) rfl) ?_)
 refine bI ?_
 refine uu rfl (rv ?_)
 refine bI ?_
 refine D6 ?_
 simp -implicitDefEqProofs only[go_sem,ck]
 refine dD (wh ?_)
 refine uu rfl (hY (TH 308 3 rfl) ?_)
 refine bI ?_
 refine uu rfl (rv ?_)
 refine bI ?_
 refine uu rfl (hY (vO _ _ _ _ 308 3 4 3 [] (a:Int) (.bool true) (.inr rfl) rfl rfl (by simp -implicitDefEqProofs only[go_sem]) (by simp -implicitDefEqProofs only[go_sem]) (by simp -implicitDefEqProofs only[go_sem]) (by simp -implicitDefEqProofs only[go_sem]) rfl rfl) ?_)
 refine bI ?_
 refine uu rfl (rv ?_)
 refine bI ?_
 refine uu rfl (rv ?_)
 refine bI ?_
 refine D6 ?_
 simp -implicitDefEqProofs only[go_sem,ck]
 refine fh hm ?_
 refine bI ?_
 refine pY hm (fun(i:Nat) (db:List (Nat×Mod.Edge))=> i≤db.length∧Met aj.length ao n a db∧zh ao n db i) (fun i db=> ⟨fk 116 .any [(0,.bK 0 0),(1,iv a),(2,iv b),(3,iv n),(9,.aW 1),(10,.aW 2),(11,.aW 3),(12,iv i)],[some (.box [lv (ba aj),lv (eZ c),lv (b8 ao)]),some (.map (rn db)),some (.aW 3 (eZ (kE db))),some (.map (Ef db))]⟩) (fun i db=> aj.length+1-i) (0) ([(a,⟨0,false⟩)]) ?_ (c9 Aj) ?_
 ·exact⟨bT _,ZX ha _,fun j v hj=>by omega⟩
 ·rintro i db ⟨hi,hM,hT⟩
  have hdl:=YK hM
  have hfl:=xT db
  rcases aa (i<db.length) with h1|h1
  ·have h1':i<(kE db).length:=oM
   obtain⟨v,hv⟩:∃v,(kE db)[i]=v:=⟨_,rfl⟩
   have hv':(kE db)[i]?=some v:=by rw[ae h1',hv]
   have f1:n≤ao.length∧∀y∈b8 ao,y.length=3:=⟨hn,QC _⟩
   have hln:min (n-0) (pC 0 (b8 ao)).length=n:=by simp[b8];omega
   refine kY hfl h1 (aq hsl hln) ?_
   refine Ag hm n (fun(k:Nat) (db:List (Nat×Mod.Edge))=>i<db.length∧(kE db)[i]?=some v∧Met aj.length ao n a db∧zh ao n db i∧DN ao k db v) (fun k db=>⟨fk 116 .any [(0,.bK 0 0),(1,iv a),(2,iv b),(3,iv n),(9,.aW 1),(10,.aW 2),(11,.aW 3),(12,iv i),(37,lv (b8 ss)),(38,iv n),(39,iv k)],[some (.box [lv (ba aj),lv (eZ c),lv (b8 ao)]),some (.map (rn db)),some (.aW 3 (eZ (kE db))),some (.map (Ef db))]⟩) (db) ?_ (c9 Aj) ?_
   ·exact⟨bT _,h1,hv',hM,hT,Sr _ _ _⟩
   ·clear hM hT hdl hfl h1 h1' hv hv' hi
    rintro k db ⟨hk,h1,hv',hM,hT,hS⟩
    have hdl:=YK hM
    have hfl:=xT db
    have h1':i<(kE db).length:=oM
    have hv:(kE db)[i]=v:=by rw[ae h1'] at hv';simpa using hv'
    rcases aa (k<n) with h2|h2
    ·have h2':k<ss.length:=oM
     have h3:k<ao.length:=oM
     obtain⟨eA,eB⟩:=hvb k h3
     have eg:ss[k]=ao[k]:=hsg k h2' h3
     have a1:=O8 dL h3
     have b1:=O5 dL h3
     rcases aa (vB ao k=v) with hB|hB
     ·have kB:=eq_true hB
      rcases aa (vA ao k=v) with hA|hA
      ·have kA:=eq_true hA
       have hmet:v∈kE db:=by rw[←hv];exact ah h1'
       rw[hA] at eA
       rw[hB] at eB
       refine kY h2 h2' (aq eg (aq eA (aq eB (aq hfl (aq h1 hv))))) ?_
       refine hY (wK (.tmp 66) (.tmp 67) 308 3 4 3 (Ef db) (v:Int) (.bool true) rfl rfl (by simp -implicitDefEqProofs only[go_sem]) (by simp -implicitDefEqProofs only[go_sem]) (by simp -implicitDefEqProofs only[go_sem]) (Ek hmet)) ?_
       refine bI ?_
       exact⟨k+1,db,⟨oM,h1,hv',hM,hT,qO hS (fun _=>by rw[hB];exact hmet) (fun _=>by rw[hA];exact hmet)⟩,sL,c9 Aj⟩
      ·have es:j9 ao ⟨k,true⟩=v:=hB
       have ee:nH ao ⟨k,true⟩=vA ao k:=rfl
       obtain⟨w,hw⟩:∃w,vA ao k=w:=⟨_,rfl⟩
       rw[hw] at eA a1 ee hA
       rw[hB] at eB
       rcases aa (w∈kE db) with hmet|hmet
       ·refine kY h2 h2' (aq eg (aq eA (aq eB (aq hfl (aq h1 hv))))) ?_
        refine hY (wK (.tmp 66) (.tmp 67) 308 3 4 3 (Ef db) (w:Int) (.bool true) rfl rfl (by simp -implicitDefEqProofs only[go_sem]) (by simp -implicitDefEqProofs only[go_sem]) (by simp -implicitDefEqProofs only[go_sem]) (Ek hmet)) ?_
        refine bI ?_
        exact⟨k+1,db,⟨oM,h1,hv',hM,hT,qO hS (fun h=>absurd (hw▸h) hA) (fun _=>by rw[hw];exact hmet)⟩,sL,c9 Aj⟩
       ·refine kY h2 h2' (aq eg (aq eA (aq eB (aq hfl (aq h1 hv))))) ?_
        have hd0:0<db.length:=oM
        refine hY (FX (.tmp 66) (.tmp 67) 308 3 4 3 _ (Ef db) (w:Int) rfl rfl rfl rfl (by simp -implicitDefEqProofs only[go_sem]) (by simp -implicitDefEqProofs only[go_sem]) (by simp -implicitDefEqProofs only[go_sem]) (uP hmet)) ?_
        refine bI ?_
        refine hY (vO _ _ _ _ 308 3 4 3 (Ef db) (w:Int) (.bool true) (.inl rfl) rfl rfl (by simp -implicitDefEqProofs only[go_sem]) (by simp -implicitDefEqProofs only[go_sem]) (by simp -implicitDefEqProofs only[go_sem]) (by simp -implicitDefEqProofs only[go_sem]) rfl (uP hmet)) ?_
        refine bI ?_
        refine hY (vO _ _ _ _ 307 3 275 1 (rn db) (w:Int) (.agg #[.int .i64 (k:Int),.bool true]) (.inl rfl) rfl rfl (by simp -implicitDefEqProofs only[go_sem]) (by simp -implicitDefEqProofs only[go_sem]) (by simp -implicitDefEqProofs only[go_sem]) (by simp -implicitDefEqProofs only[go_sem]) rfl (vT hmet)) ?_
        refine bI ?_
        refine⟨k+1,db++[(w,⟨k,true⟩)],?_,sL,bW [some 0,some 1,some 5,some 3] (by refine sA ?_;(first|done|((rw[wP hd0,Fk,lL,←xX];(repeat' apply aq)<;>rfl))|(simp[aR, *];done)|(simp[aR];done)|(simp;omega)|skip)) (by refine sA ?_;(first|done|((rw[wP hd0,Fk,lL,←xX];(repeat' apply aq)<;>rfl))|(simp[aR, *];done)|(simp[aR];done)|(simp;omega)|skip)) rfl rfl⟩
        have hM2:=Y4 (e:=⟨k,true⟩) hM h2 hv' es (by rw[ee];exact hmet) (by rw[ee];exact a1)
        rw[ee] at hM2
        refine⟨oM,by simp;omega,by rw[lL,br h1'];exact hv',hM2,Fv oM hT,qO (I4 hS) (fun h=>absurd (hw▸h) hA) (fun _=>?_)⟩
        rw[hw,lL]
        exact jZ _ (by simp[kE])
     ·rcases aa (vA ao k=v) with hA|hA
      ·have es:j9 ao ⟨k,false⟩=v:=hA
       have ee:nH ao ⟨k,false⟩=vB ao k:=rfl
       obtain⟨w,hw⟩:∃w,vB ao k=w:=⟨_,rfl⟩
       rw[hw] at eB b1 ee hB
       rw[hA] at eA
       rcases aa (w∈kE db) with hmet|hmet
       ·refine kY h2 h2' (aq eg (aq eA (aq eB (aq hfl (aq h1 (aq hv hB)))))) ?_
        refine hY (wK (.tmp 66) (.tmp 67) 308 3 4 3 (Ef db) (w:Int) (.bool true) rfl rfl (by simp -implicitDefEqProofs only[go_sem]) (by simp -implicitDefEqProofs only[go_sem]) (by simp -implicitDefEqProofs only[go_sem]) (Ek hmet)) ?_
        refine bI ?_
        exact⟨k+1,db,⟨oM,h1,hv',hM,hT,qO hS (fun _=>by rw[hw];exact hmet) (fun h=>absurd (hw▸h) hB)⟩,sL,c9 Aj⟩
       ·refine kY h2 h2' (aq eg (aq eA (aq eB (aq hfl (aq h1 (aq hv hB)))))) ?_
        have hd0:0<db.length:=oM
        refine hY (FX (.tmp 66) (.tmp 67) 308 3 4 3 _ (Ef db) (w:Int) rfl rfl rfl rfl (by simp -implicitDefEqProofs only[go_sem]) (by simp -implicitDefEqProofs only[go_sem]) (by simp -implicitDefEqProofs only[go_sem]) (uP hmet)) ?_
        refine bI ?_
        refine hY (vO _ _ _ _ 308 3 4 3 (Ef db) (w:Int) (.bool true) (.inl rfl) rfl rfl (by simp -implicitDefEqProofs only[go_sem]) (by simp -implicitDefEqProofs only[go_sem]) (by simp -implicitDefEqProofs only[go_sem]) (by simp -implicitDefEqProofs only[go_sem]) rfl (uP hmet)) ?_
        refine bI ?_
        refine hY (vO _ _ _ _ 307 3 275 1 (rn db) (w:Int) (.agg #[.int .i64 (k:Int),.bool false]) (.inl rfl) rfl rfl (by simp -implicitDefEqProofs only[go_sem]) (by simp -implicitDefEqProofs only[go_sem]) (by simp -implicitDefEqProofs only[go_sem]) (by simp -implicitDefEqProofs only[go_sem]) rfl (vT hmet)) ?_
        refine bI ?_
        refine⟨k+1,db++[(w,⟨k,false⟩)],?_,sL,bW [some 0,some 1,some 5,some 3] (by refine sA ?_;(first|done|((rw[wP hd0,Fk,lL,←xX];(repeat' apply aq)<;>rfl))|(simp[aR, *];done)|(simp[aR];done)|(simp;omega)|skip)) (by refine sA ?_;(first|done|((rw[wP hd0,Fk,lL,←xX];(repeat' apply aq)<;>rfl))|(simp[aR, *];done)|(simp[aR];done)|(simp;omega)|skip)) rfl rfl⟩
        have hM2:=Y4 (e:=⟨k,false⟩) hM h2 hv' es (by rw[ee];exact hmet) (by rw[ee];exact b1)
        rw[ee] at hM2
        refine⟨oM,by simp;omega,by rw[lL,br h1'];exact hv',hM2,Fv oM hT,qO (I4 hS) (fun _=>?_) (fun h=>absurd (hw▸h) hB)⟩
        rw[hw,lL]
        exact jZ _ (by simp[kE])
      ·refine kY h2 h2' (aq eg (aq eA (aq eB (aq hfl (aq h1 (aq hv (aq hB hA))))))) ?_
       exact⟨k+1,db,⟨oM,h1,hv',hM,hT,qO hS (fun h=>absurd h hA) (fun h=>absurd h hB)⟩,sL,c9 Aj⟩
    ·obtain rfl:k=n:=oM
     refine dB h2 ?_
     exact⟨i+1,db,⟨oM,hM,Sg hT hv' (Vo hS)⟩,sL,c9 Aj⟩
  ·obtain rfl:i=db.length:=oM
   obtain⟨w1,w2,w3⟩:=za dL hn ha hb hab
   have hbm:b∈kE db:=EM hT w1 w2 (du hM.head)
   obtain⟨j0,hj0,hjb⟩:=List.mem_iff_getElem.1 hbm
   have hjb':(kE db)[j0]?=some b:=by rw[ae hj0,hjb]
   refine pV hfl h1 ?_
   refine tG hm (fun(j:Nat) (t:Nat) (out:List Mod.Edge)=> adQ ao n b db j t out) (fun j t out=> ⟨fk 116 .any [(0,.bK 0 0),(1,iv a),(2,iv t),(9,.aW 1),(18,.aW 2)],[some (.box [lv (ba aj),lv (eZ c),lv (b8 ao)]),some (.map (rn db)),some (.aW 275 (eG out))]⟩) (fun j t out=> j) (j0) (b) ([]) ?_ (c9 [some 0,some 1,none]) ?_
   ·exact Va hjb'
   ·rintro j t out hB
    have hjl:j<db.length:=by rw[←hfl];exact(List.getElem?_eq_some_iff.1 hB.at_).1
    have htl:t<aj.length:=hM.lt t (du hB.at_)
    have hol:out.length≤1000:=by
     have h5:=tu hB.nod (fun v hv=>by
      simp only[lh,List.mem_cons,List.mem_map] at hv
      rcases hv with rfl|⟨d,hd,rfl⟩
      ·exact htl
      ·exact JZ dL (by have:=hB.in_ d hd;omega))
     simp[lh] at h5;omega
    rcases aa (t=a) with h2|h2
    ·have k2:=eq_true h2
     have hbk:=hB
     rw[h2] at hbk
     have hout:=adC dL hn ha hbk
     refine dB k2 ?_
     refine xN [] [2] (Nn out hol) ?_
     try simp -implicitDefEqProofs only[go_sem,Z1,Z2,Z3,Z4,bO,ck,ma]
     refine sI ?_
     refine dw ?_
     refine bM gE ?_ rfl rfl
     refine sA ?_
     rw[hout]
     exact⟨rfl,rfl⟩
    ·have hj:0<j:=by
      rcases Nat.eq_zero_or_pos j with h5|h5
      ·have h6:=hM.head
       have h7:=hB.at_
       rw[h5,h6] at h7
       exact absurd (Option.some.inj h7).symm h2
      ·exact h5
     obtain⟨⟨t',e⟩,hde⟩:∃x,db[j]?=some x:=⟨db[j],ae hjl⟩
     have htt:t'=t:=by have h7:=hB.at_;rw[kE,List.getElem?_map,hde] at h7;exact Option.some.inj h7
     rw[htt] at hde
     have hmg:=NF hM.nod hj hde
     obtain⟨i2,hi2,hB2⟩:=ZP hM hB hde hj
     have hes:=(hM.by_ j t e hde hj).1
     have h3:e.step<ao.length:=oM
     obtain⟨eA,eB⟩:=hvb e.step h3
     refine dB h2 ?_
     refine hY (wK (.tmp 86) (.tmp 87) 307 3 275 1 (rn db) (t:Int) (.agg #[.int .i64 (e.step:Int),.bool e.back]) rfl rfl (by simp -implicitDefEqProofs only[go_sem]) (by simp -implicitDefEqProofs only[go_sem]) (by simp -implicitDefEqProofs only[go_sem]) hmg) ?_
     cases hb2:e.back
     ·have es:j9 ao e=vA ao e.step:=by rw[j9,hb2];rfl
      rw[es] at hB2
      refine ago h3 eA eB ?_
      exact⟨i2,vA ao e.step,out++[e],hB2,sL,bW [some 0,some 1,some 4] (by refine sA ?_;(first|done|((rw[←vd,s5,rz,DA,hb2]))|(simp[aR, *];done)|(simp[aR];done)|(simp;omega)|skip)) (by refine sA ?_;(first|done|((rw[←vd,s5,rz,DA,hb2]))|(simp[aR, *];done)|(simp[aR];done)|(simp;omega)|skip)) rfl rfl⟩
     ·have es:j9 ao e=vB ao e.step:=by rw[j9,hb2];rfl
      rw[es] at hB2
      refine ago h3 eA eB ?_
      exact⟨i2,vB ao e.step,out++[e],hB2,sL,bW [some 0,some 1,some 4] (by refine sA ?_;(first|done|((rw[←vd,s5,rz,DA,hb2]))|(simp[aR, *];done)|(simp[aR];done)|(simp;omega)|skip)) (by refine sA ?_;(first|done|((rw[←vd,s5,rz,DA,hb2]))|(simp[aR, *];done)|(simp[aR];done)|(simp;omega)|skip)) rfl rfl⟩
end Go.Proofs.YtnhdminpjihbnaaGreat
