/-
  The program: the walk of closures. A step towards the laws.
-/
import Derived.Test.YtabembjmeobhoaaGreatKBH
import Derived.Test.YtabembjmeobhoaaGreatKBEl
set_option linter.unusedVariables false
set_option linter.unusedSimpArgs false
open And renaming intro→ar
open Bool renaming true_and→aM,false_and→aS
open Classical renaming em→aa
open List renaming getElem?_eq_getElem→ah,getElem_mem→ak,drop_of_length_le→al,getD_eq_getElem?_getD→az,getElem?_append_left→bj,range→bt,mem_of_getElem?→cM,drop→fm,mem_append_right→fR
open Nat renaming le_refl→aI,zero_le→bh
namespace Go.Proofs.YtabembjmeobhoaaGreat
open Go.Eng Go.Mod
open Int renaming reduceEq→Z1,reduceLT→Z2,reduceLE→Z3,reduceToNat→Z4
set_option maxRecDepth 100000
set_option maxHeartbeats 3200000
def ZW(ae:List Term)(c:List Nat)(af:List Step):List D:=[.dP (aP ae),.dP (bO c),.dP (a7 af)]
attribute [go_sem] ZW
theorem Cd(ae:List Term)(c:List Nat)(af:List Step)(t:Term):C E.P 48 [.gm [ZW ae c af] 0 0,av (cT t)] [] (bM (iv (bL ae t)) []):=by
 refine gS (nt:=11) (rs:=[.tmp 4]) hm Tryz.func48 fun hl he cI=>?_
 refine aC [] (eE ae t) ?_
 refine iK ?_
 refine an ?_
 exact sC
theorem Fy(ae:List Term)(c:List Nat)(af:List Step)(x y:Term)(hx:x∈ae)(hy:y∈ae)(hc:c.length=ae.length):C E.P 229 [av (cT x),av (cT y),.ptr 0 0] [some (.box [.ptr 1 0]),some (.box [lv (aP ae),.acc 2,.acc 3]),some (.acc 3 (bO c)),some (.acc 220 (a7 af))] (bM (bv (Jd ae c x y)) [some (.box [.ptr 1 0]),some (.box [lv (aP ae),.acc 2,.acc 3]),some (.acc 3 (bO c)),some (.acc 220 (a7 af))]):=by
 have px:=bx hx
 have py:=bx hy
 have cx:=b7 hx
 have cy:=b7 hy
 have px':aH ae x<c.length:=by omega
 have py':aH ae y<c.length:=by omega
 have ex:c[aH ae x]=cl c (aH ae x):=(gL px').symm
 have ey:c[aH ae y]=cl c (aH ae y):=(gL py').symm
 refine gS (nt:=25) (rs:=[.tmp 5]) hm Tryz.func229 fun hl he cI=>?_
 refine dN [] [1,2,3] (Cd ae c af x) rfl ?_ ?_ ?_
 ·exact sV
 all_goals simp -implicitDefEqProofs only[go_sem,cx,px',ex]
 refine dN [] [1,2,3] (Cd ae c af y) rfl ?_ ?_ ?_
 ·exact sV
 all_goals simp -implicitDefEqProofs only[go_sem,cy,py',ey]
 refine iK ?_
 refine bX [some 0,some 1,some 2,some 3] ?_ rfl rfl
 refine sA ?_
 ((repeat' apply ar)<;>rfl)
theorem Dx(ae:List Term)(c:List Nat)(af:List Step)(hc:c.length=ae.length)(xs ys:List Term)(hx:∀x∈xs,x∈ae)(hy:∀y∈ys,y∈ae)(oW:xs.length≤1000):C E.P 82 [lv (aP xs),lv (aP ys),.fn 229 [.ptr 0 0]] [some (.box [.ptr 1 0]),some (.box [lv (aP ae),.acc 2,.acc 3]),some (.acc 3 (bO c)),some (.acc 220 (a7 af))] (bM (bv (lA ae c xs ys)) [some (.box [.ptr 1 0]),some (.box [lv (aP ae),.acc 2,.acc 3]),some (.acc 3 (bO c)),some (.acc 220 (a7 af))]):=by
 refine gS (nt:=32) (rs:=[.tmp 6]) hm Tryz.func82 fun hl he cI=>?_
 rcases aa (xs.length=ys.length) with h0|h0
 ·have k0:=eq_true h0
  simp -implicitDefEqProofs only[go_sem,k0]
  refine aO hm (fun(i:Nat)=> i≤xs.length∧lA ae c xs ys=lA ae c (xs.drop i) (ys.drop i)) (fun(i:Nat)=> ⟨dB 32 .any [(1,lv (aP ys)),(2,.fn 229 [.ptr 0 0]),(15,lv (aP xs)),(16,iv xs.length),(17,iv i)],[some (.box [.ptr 1 0]),some (.box [lv (aP ae),.acc 2,.acc 3]),some (.acc 3 (bO c)),some (.acc 220 (a7 af))]⟩) (fun(i:Nat)=> xs.length-i) (0) ?_ (aw [some 0,some 1,some 2,some 3] ?_ ?_ rfl rfl) ?_
  rotate_left
  ·exact sC
  ·exact sC
  rotate_left
  ·exact⟨bh _,rfl⟩
  ·rintro i ⟨hi,hg⟩
   rcases aa (i<xs.length) with h1|h1
   ·have h2:i<ys.length:=by omega
    have hco:=Fy ae c af xs[i] ys[i] (hx _ (ak h1)) (hy _ (ak h2)) hc
    rw[Dd h1 h2] at hg
    simp -implicitDefEqProofs only[go_sem,h1,h2]
    refine gp [.ptr 0 0] [0,1,2,3] hco ?_ ?_
    ·refine sA ?_
     first|rfl|((repeat' apply ar)<;>rfl)
    refine sA ?_
    cases h3:Jd ae c xs[i] ys[i]
    ·rw[h3,aS] at hg
     refine sA ?_
     refine bX [some 0,some 1,some 2,some 3] ?_ rfl rfl
     refine sA ?_
     rw[hg]
    ·rw[h3,aM] at hg
     refine sA ?_
     refine sQ ?_
     refine⟨i+1,?_,sL,aw [some 0,some 1,some 2,some 3] ?_ ?_ rfl rfl⟩
     rotate_left
     ·exact sC
     ·exact sC
     exact⟨by omega,hg⟩
   ·rw[al (by omega),al (by omega),EG] at hg
    simp -implicitDefEqProofs only[go_sem,h1]
    refine bX [some 0,some 1,some 2,some 3] ?_ rfl rfl
    refine sA ?_
    rw[hg]
 ·rw[zL h0]
  simp -implicitDefEqProofs only[go_sem,h0]
  refine bX [some 0,some 1,some 2,some 3] ?_ rfl rfl
  exact sC
theorem Hp(ae:List Term)(c:List Nat)(af:List Step)(a b:Nat)(hk:gQ ae)(ha:a<ae.length)(hb:b<ae.length)(hc:c.length=ae.length)(hk9:∀t∈ae,t.kids.length≤1000):C E.P 168 [.ptr 0 0,iv a,iv b] [some (.box [lv (aP ae),.acc 1,.acc 2]),some (.acc 3 (bO c)),some (.acc 220 (a7 af))] (bM (bv (alike ae c a b)) [some (.box [lv (aP ae),.acc 1,.acc 2]),some (.acc 3 (bO c)),some (.acc 220 (a7 af))]):=by
 have e1:ae.getD a aL=ae[a]:=by rw[az,ah ha];rfl
 have e2:ae.getD b aL=ae[b]:=by rw[az,ah hb];rfl
 have ka:=hk _ (ak ha)
 have la:=hk9 _ (ak ha)
 have kb:=hk _ (ak hb)
 have e:alike ae c a b=(decide (0<ae[a].kids.length)&&(decide (ae[a].name=ae[b].name)&&lA ae c ae[a].kids ae[b].kids)):=by rw[alike,e1,e2]
 have hco:=Dx ae c af hc ae[a].kids ae[b].kids ka kb la
 refine gS (nt:=42) (rs:=[.tmp 6]) hm Tryz.func168 fun hl he cI=>?_
 simp -implicitDefEqProofs only[go_sem,ha,hb]
 refine iK ?_
 rcases aa ((0:Int)<(ae[a].kids.length:Int)) with h1|h1
 ·rcases aa (ae[a].name=ae[b].name) with h2|h2
  ·have k2:=eq_true h2
   rw[decide_eq_true (by omega:0<ae[a].kids.length),decide_eq_true h2,aM,aM] at e
   simp -implicitDefEqProofs only[go_sem,h1,k2]
   refine gp [] [3,0,1,2] hco ?_ ?_
   ·refine sA ?_
    first|rfl|((repeat' apply ar)<;>rfl)
   refine sA ?_
   refine bX [some 0,some 1,some 2] ?_ rfl rfl
   refine sA ?_
   rw[e]
  ·rw[decide_eq_false h2,aS,Bool.and_false] at e
   simp -implicitDefEqProofs only[go_sem,h1,h2]
   refine bX [some 0,some 1,some 2] ?_ rfl rfl
   refine sA ?_
   rw[e]
 ·rw[decide_eq_false (by omega:¬0<ae[a].kids.length),aS] at e
  simp -implicitDefEqProofs only[go_sem,h1]
  refine bX [some 0,some 1,some 2] ?_ rfl rfl
  refine sA ?_
  rw[e]
theorem UX(ae:List Term)(c:List Nat)(af:List Step)(hk:gQ ae)(hc:c.length=ae.length)(oW:ae.length≤1000)(hk9:∀t∈ae,t.kids.length≤1000):C E.P 99 [.ptr 0 0] [some (.box [lv (aP ae),.acc 1,.acc 2]),some (.acc 3 (bO c)),some (.acc 220 (a7 af))] (bM (.jd [iv (((fv ae c).getD (0,0)).1:Nat),iv (((fv ae c).getD (0,0)).2:Nat),bv (fv ae c).isSome]) [some (.box [lv (aP ae),.acc 1,.acc 2]),some (.acc 3 (bO c)),some (.acc 220 (a7 af))]):=by
 refine gS (nt:=44) (rs:=[.tmp 2,.tmp 3,.tmp 4]) hm Tryz.func99 fun hl he cI=>?_
 refine aO hm (fun(l:Nat)=> l≤ae.length∧fv ae c=(jx l ae.length).find? (fun p=>mV ae c p.1 p.2)) (fun(l:Nat)=> ⟨dB 44 .any [(0,.ptr 0 0),(11,iv ae.length),(12,iv l)],[some (.box [lv (aP ae),.acc 1,.acc 2]),some (.acc 3 (bO c)),some (.acc 220 (a7 af))]⟩) (fun(l:Nat)=> ae.length-l) (0) ?_ (aw [some 0,some 1,some 2] ?_ ?_ rfl rfl) ?_
 rotate_left
 ·exact sC
 ·exact sC
 rotate_left
 ·exact⟨bh _,rfl⟩
 ·rintro l ⟨hi,hg⟩
  rcases aa (l<ae.length) with h1|h1
  ·rw[v7 h1] at hg
   simp -implicitDefEqProofs only[go_sem,h1]
   refine aO hm (fun(e:Nat)=> e≤l∧fv ae c=(qd e l ae.length).find? (fun p=>mV ae c p.1 p.2)) (fun(e:Nat)=> ⟨dB 44 .any [(0,.ptr 0 0),(5,iv l),(11,iv ae.length),(12,iv l),(15,iv l),(16,iv e)],[some (.box [lv (aP ae),.acc 1,.acc 2]),some (.acc 3 (bO c)),some (.acc 220 (a7 af))]⟩) (fun(e:Nat)=> l-e) (0) ?_ (aw [some 0,some 1,some 2] ?_ ?_ rfl rfl) ?_
   rotate_left
   ·exact sC
   ·exact sC
   rotate_left
   ·exact⟨bh _,hg⟩
   ·rintro e ⟨he,hg⟩
    rcases aa (e<l) with h2|h2
    ·have pe:e<c.length:=by omega
     have pl:l<c.length:=by omega
     have ee:c[e]=cl c e:=(gL pe).symm
     have el:c[l]=cl c l:=(gL pl).symm
     rw[yF h2,List.find?_cons] at hg
     have em:mV ae c e l=(decide (cl c e≠cl c l)&&alike ae c e l):=rfl
     simp only[em] at hg
     rcases aa (cl c e=cl c l) with h3|h3
     ·have k3:(cl c e=cl c l)=True:=eq_true h3
      rw[decide_eq_false (by omega:¬cl c e≠cl c l),aS] at hg
      simp -implicitDefEqProofs only[go_sem,h2,pe,pl,ee,el,k3]
      refine iK ?_
      refine sQ ?_
      refine⟨e+1,?_,sL,aw [some 0,some 1,some 2] ?_ ?_ rfl rfl⟩
      rotate_left
      ·exact sC
      ·exact sC
      exact⟨by omega,hg⟩
     ·have hco:=Hp ae c af e l hk (by omega) h1 hc hk9
      rw[decide_eq_true (by omega:cl c e≠cl c l),aM] at hg
      simp -implicitDefEqProofs only[go_sem,h2,pe,pl,ee,el,h3]
      refine gp [] [0,1,2] hco ?_ ?_
      ·refine sA ?_
       first|rfl|((repeat' apply ar)<;>rfl)
      refine sA ?_
      refine iK ?_
      cases h4:alike ae c e l
      ·rw[h4] at hg
       refine sA ?_
       refine sQ ?_
       refine⟨e+1,?_,sL,aw [some 0,some 1,some 2] ?_ ?_ rfl rfl⟩
       rotate_left
       ·exact sC
       ·exact sC
       exact⟨by omega,hg⟩
      ·rw[h4] at hg
       simp only at hg
       refine sA ?_
       refine bX [some 0,some 1,some 2] ?_ rfl rfl
       refine sA ?_
       rw[hg]
       ((repeat' apply ar)<;>rfl)
    ·rw[AO (by omega)] at hg
     simp -implicitDefEqProofs only[go_sem,h2]
     refine sQ ?_
     refine⟨l+1,?_,sL,aw [some 0,some 1,some 2] ?_ ?_ rfl rfl⟩
     rotate_left
     ·exact sC
     ·exact sC
     exact⟨by omega,hg⟩
  ·rw[yu (by omega),List.find?_nil] at hg
   simp -implicitDefEqProofs only[go_sem,h1]
   refine bX [some 0,some 1,some 2] ?_ rfl rfl
   refine sA ?_
   rw[hg]
   ((repeat' apply ar)<;>rfl)
theorem IK(ae:List Term)(c:List Nat)(af:List Step)(a b:Nat)(n:Int)(ha:a<c.length)(hb:b<c.length)(oW:c.length≤1000)(hs9:af.length≤2000000):C E.P 98 [.ptr 0 0,iv a,iv b,iv n] [some (.box [lv (aP ae),.acc 1,.acc 2]),some (.acc 3 (bO c)),some (.acc 220 (a7 af))] (bM (.jd []) [some (.box [lv (aP ae),.acc 1,.acc 3]),some (.acc 3 (bO (fV c a b))),some .dead,some (.acc 220 (a7 (af++[⟨a,b,n⟩])))]):=by
 have ea:c[a]=cl c a:=(gL ha).symm
 have eb:c[b]=cl c b:=(gL hb).symm
 obtain⟨f,hf⟩:∃f,max (cl c a) (cl c b)=f:=⟨_,rfl⟩
 obtain⟨t,ht⟩:∃t,min (cl c a) (cl c b)=t:=⟨_,rfl⟩
 have hend:∀i,c.length≤i→fB c f t i=fV c a b:=fun i hi=>by rw[←hf,←ht];exact FC hi
 have hss:a7 af++[[.val (.int .i64 (a:Int)),.val (.int .i64 (b:Int)),.val (.int .i64 n)]]=a7 (af++[⟨a,b,n⟩]):=by
  rw[←vm,tG,rm];rfl
 refine gS (nt:=65) (rs:=[]) hm Tryz.func98 fun hl he cI=>?_
 refine sQ ?_
 simp -implicitDefEqProofs only[go_sem,ha,hb,ea,eb]
 refine iK ?_
 rw[hss]
 rcases aa (cl c a<cl c b) with h0|h0
 ·have ef:f=cl c b:=by omega
  have et:t=cl c a:=by omega
  simp -implicitDefEqProofs only[go_sem,h0]
  rw[←ef,←et]
  refine aO hm (fun(i:Nat)=> i≤c.length) (fun(i:Nat)=> ⟨dB 65 .any [(0,.ptr 0 0),(8,iv f),(9,iv t),(47,.acc 1),(48,iv c.length),(49,iv i)],[some (.box [lv (aP ae),.acc 1,.acc 3]),some (.acc 3 (bO (fB c f t i))),some .dead,some (.acc 220 (a7 (af++[⟨a,b,n⟩])))]⟩) (fun(i:Nat)=> c.length-i) (0) ?_ (aw [some 0,some 1,some 2,some 3] ?_ ?_ rfl rfl) ?_
  rotate_left
  ·exact sC
  ·refine sA ?_
   all_goals((simp[fB]))
  rotate_left
  ·omega
  ·rintro i hi
   have hjl:=rR c f t i
   rcases aa (i<c.length) with h1|h1
   ·have h1':i<(fB c f t i).length:=by omega
    have eg:=rV (f:=f) (t:=t) h1 h1'
    rcases aa (c[i]=f) with h2|h2
    ·have k2:(c[i]=f)=True:=eq_true h2
     have hp:=tS (l:=fB c f t i) (i:=i) (n:=t) h1'
     have hn:=qg (f:=f) (t:=t) h1
     rw[if_pos h2] at hn
     rw[pF h1',eg] at hp
     simp -implicitDefEqProofs only[go_sem,hjl,h1,eg,k2]
     refine sQ ?_
     refine⟨i+1,?_,sL,aw [some 0,some 1,some 2,some 3] ?_ ?_ rfl rfl⟩
     rotate_left
     ·exact sC
     ·refine sA ?_
      all_goals((rw[hp,hn]))
     exact h1
    ·have hn:=tn (f:=f) (t:=t) h1 h2
     simp -implicitDefEqProofs only[go_sem,hjl,h1,eg,h2]
     refine sQ ?_
     refine⟨i+1,?_,sL,aw [some 0,some 1,some 2,some 3] ?_ ?_ rfl rfl⟩
     rotate_left
     ·exact sC
     ·refine sA ?_
      all_goals((rw[hn]))
     exact h1
   ·rw[hend i (by omega)] at hjl⊢
    simp -implicitDefEqProofs only[go_sem,h1]
    refine bX [some 0,some 1,some 2,some 3] ?_ rfl rfl
    exact sC
 ·have ef:f=cl c a:=by omega
  have et:t=cl c b:=by omega
  simp -implicitDefEqProofs only[go_sem,h0]
  rw[←ef,←et]
  refine aO hm (fun(i:Nat)=> i≤c.length) (fun(i:Nat)=> ⟨dB 65 .any [(0,.ptr 0 0),(8,iv f),(9,iv t),(47,.acc 1),(48,iv c.length),(49,iv i)],[some (.box [lv (aP ae),.acc 1,.acc 3]),some (.acc 3 (bO (fB c f t i))),some .dead,some (.acc 220 (a7 (af++[⟨a,b,n⟩])))]⟩) (fun(i:Nat)=> c.length-i) (0) ?_ (aw [some 0,some 1,some 2,some 3] ?_ ?_ rfl rfl) ?_
  rotate_left
  ·exact sC
  ·refine sA ?_
   all_goals((simp[fB]))
  rotate_left
  ·omega
  ·rintro i hi
   have hjl:=rR c f t i
   rcases aa (i<c.length) with h1|h1
   ·have h1':i<(fB c f t i).length:=by omega
    have eg:=rV (f:=f) (t:=t) h1 h1'
    rcases aa (c[i]=f) with h2|h2
    ·have k2:(c[i]=f)=True:=eq_true h2
     have hp:=tS (l:=fB c f t i) (i:=i) (n:=t) h1'
     have hn:=qg (f:=f) (t:=t) h1
     rw[if_pos h2] at hn
     rw[pF h1',eg] at hp
     simp -implicitDefEqProofs only[go_sem,hjl,h1,eg,k2]
     refine sQ ?_
     refine⟨i+1,?_,sL,aw [some 0,some 1,some 2,some 3] ?_ ?_ rfl rfl⟩
     rotate_left
     ·exact sC
     ·refine sA ?_
      all_goals((rw[hp,hn]))
     exact h1
    ·have hn:=tn (f:=f) (t:=t) h1 h2
     simp -implicitDefEqProofs only[go_sem,hjl,h1,eg,h2]
     refine sQ ?_
     refine⟨i+1,?_,sL,aw [some 0,some 1,some 2,some 3] ?_ ?_ rfl rfl⟩
     rotate_left
     ·exact sC
     ·refine sA ?_
      all_goals((rw[hn]))
     exact h1
   ·rw[hend i (by omega)] at hjl⊢
    simp -implicitDefEqProofs only[go_sem,h1]
    refine bX [some 0,some 1,some 2,some 3] ?_ rfl rfl
    exact sC
theorem Hc(ae:List Term)(eqs:List iy)(hk:gQ ae)(ki:∀e∈eqs,e.A∈ae∧e.B∈ae)(oW:ae.length≤1000)(hk9:∀t∈ae,t.kids.length≤1000)(he9:eqs.length≤1000) :
 C E.P 42 [lv (aP ae),lv (gP eqs)] [] (bM (.ptr 0 0) [some (.box [lv (aP ae),lv (bO (closed ae eqs).1),lv (a7 (closed ae eqs).2)])]):=by
 refine gS (nt:=82) (rs:=[.tmp 4]) hm Tryz.func42 fun hl he cI=>?_
 refine aO hm (fun(i:Nat)=> i≤ae.length) (fun(i:Nat)=> ⟨dB 82 .any [(1,lv (gP eqs)),(5,.ptr 0 0),(18,iv ae.length),(19,iv i)],[some (.box [lv (aP ae),.acc 1,.acc 2]),some (.acc 3 (bO (bt i))),some (.acc 220 (a7 []))]⟩) (fun(i:Nat)=> ae.length-i) (0) ?_ (aw [some 0,none,none] ?_ ?_ rfl rfl) ?_
 rotate_left
 ·exact sC
 ·refine sA ?_
  all_goals(rfl)
 rotate_left
 ·omega
 ·rintro i hi
  have hrl:(bt i).length=i:=List.length_range
  rcases aa (i<ae.length) with h1|h1
  ·simp -implicitDefEqProofs only[go_sem,h1]
   refine sQ ?_
   refine⟨i+1,?_,sL,aw [some 0,some 3,some 2] ?_ ?_ rfl rfl⟩
   rotate_left
   ·exact sC
   ·refine sA ?_
    all_goals((rw[←lY];rfl))
   exact h1
  ·obtain rfl:i=ae.length:=by omega
   simp -implicitDefEqProofs only[go_sem,h1]
   clear hi h1
   refine kS hm (fun(n:Nat) (c:List Nat) (af:List Step)=> n≤eqs.length∧c.length=ae.length∧(∀x∈c,x≤1000)∧af.length≤n∧given ae eqs=iW ae n (eqs.drop n) c af) (fun(n:Nat) (c:List Nat) (af:List Step)=> ⟨dB 82 .any [(5,.ptr 0 0),(33,lv (gP eqs)),(34,iv eqs.length),(35,iv n)],[some (.box [lv (aP ae),.acc 1,.acc 2]),some (.acc 3 (bO c)),some (.acc 220 (a7 af))]⟩) (fun(n:Nat) (c:List Nat) (af:List Step)=> eqs.length-n) (0) (bt ae.length) ([]) ?_ (aw [some 0,some 1,some 2] ?_ ?_ rfl rfl) ?_
   rotate_left
   ·exact sC
   ·exact sC
   rotate_left
   ·exact⟨bh _,hrl,fun x hx=>by have:=List.mem_range.1 hx;omega,aI _,rfl⟩
   ·rintro n c af ⟨hn,hc,hm9,hs,hg⟩
    rcases aa (n<eqs.length) with h1|h1
    ·obtain⟨mA,mB⟩:=ki _ (ak h1)
     have pA:=bx mA
     have pB:=bx mB
     have cA:=b7 mA
     have cB:=b7 mB
     have pA':aH ae eqs[n].A<c.length:=by omega
     have pB':aH ae eqs[n].B<c.length:=by omega
     have eA:c[aH ae eqs[n].A]=cl c (aH ae eqs[n].A):=(gL pA').symm
     have eB:c[aH ae eqs[n].B]=cl c (aH ae eqs[n].B):=(gL pB').symm
     have hj1:=fD c (aH ae eqs[n].A) (aH ae eqs[n].B)
     have hj2:=w5 (a:=aH ae eqs[n].A) (b:=aH ae eqs[n].B) hm9
     have cj:=IK ae c af (aH ae eqs[n].A) (aH ae eqs[n].B) n pA' pB' (by omega) (by omega)
     have ca:=Cd ae c af eqs[n].A
     have cb:=Cd ae c af eqs[n].B
     rw[cA] at ca
     rw[cB] at cb
     rw[List.drop_eq_getElem_cons h1,iW] at hg
     simp -implicitDefEqProofs only[go_sem,h1]
     refine dN [] [0,1,2] ca rfl ?_ ?_ ?_
     ·exact sV
     all_goals simp -implicitDefEqProofs only[go_sem]
     refine dN [] [0,1,2] cb rfl ?_ ?_ ?_
     ·exact sV
     all_goals simp -implicitDefEqProofs only[go_sem]
     refine iK ?_
     generalize aH ae eqs[n].A=a at *
     generalize aH ae eqs[n].B=b at *
     rcases aa (cl c a=cl c b) with h2|h2
     ·have k2:(cl c a=cl c b)=True:=eq_true h2
      rw[if_pos h2] at hg
      simp -implicitDefEqProofs only[go_sem,pA',pB',eA,eB,k2]
      refine iK ?_
      refine sQ ?_
      refine⟨n+1,c,af,?_,sL,aw [some 0,some 1,some 2] ?_ ?_ rfl rfl⟩
      rotate_left
      ·exact sC
      ·exact sC
      exact⟨by omega,hc,hm9,by omega,hg⟩
     ·rw[if_neg h2] at hg
      simp -implicitDefEqProofs only[go_sem,pA',pB',eA,eB,h2]
      refine iK ?_
      refine gp [] [0,1,2,4] cj ?_ ?_
      ·refine sA ?_
       first|rfl|((repeat' apply ar)<;>rfl)
      refine sA ?_
      refine sQ ?_
      refine⟨n+1,fV c a b,af++[⟨a,b,n⟩],?_,sL,aw [some 0,some 1,some 4] ?_ ?_ rfl rfl⟩
      rotate_left
      ·exact sC
      ·exact sC
      exact⟨by omega,by omega,hj2,by simp;omega,hg⟩
    ·rw[al (by omega),iW] at hg
     have hcl:closed ae eqs=kh ae c.sum c af:=by rw[closed,hg]
     have hsum:=pw hm9
     have hsum2:c.length*1000≤1000*1000:=Nat.mul_le_mul_right _ (by omega)
     simp -implicitDefEqProofs only[go_sem,h1]
     refine kS hm (fun(f:Nat) (c:List Nat) (af:List Step)=> c.length=ae.length∧(∀x∈c,x≤1000)∧c.sum≤f∧af.length+f≤1999000∧closed ae eqs=kh ae f c af) (fun(f:Nat) (c:List Nat) (af:List Step)=> ⟨dB 82 .any [(5,.ptr 0 0)],[some (.box [lv (aP ae),.acc 1,.acc 2]),some (.acc 3 (bO c)),some (.acc 220 (a7 af))]⟩) (fun(f:Nat) (c:List Nat) (af:List Step)=> f) (c.sum) (c) (af) ?_ (aw [some 0,some 1,some 2] ?_ ?_ rfl rfl) ?_
     rotate_left
     ·exact sC
     ·exact sC
     rotate_left
     ·exact⟨hc,hm9,aI _,by omega,hcl⟩
     ·clear hcl hsum hsum2 hg h1 hn hc hm9 hs
      rintro f c af ⟨hc,hm9,hf,hs,hg⟩
      have cn:=UX ae c af hk hc oW hk9
      refine sA ?_
      refine gp [] [0,1,2] cn ?_ ?_
      ·refine sA ?_
       first|rfl|((repeat' apply ar)<;>rfl)
      refine sA ?_
      cases hp:fv ae c with
      | none=>
        rw[uK hp] at hg
        simp -implicitDefEqProofs only[go_sem,Option.isSome_none,Option.getD_none]
        refine bX [some 0] ?_ rfl rfl
        refine sA ?_
        rw[hg]
        ((repeat' apply ar)<;>rfl)
      | some p=>
        obtain⟨f',rfl,hg2,hf2⟩:=vz (af:=af) hf hc hp
        obtain⟨p1,p2,p3,p4⟩:=pP hp
        rw[hg2] at hg
        have hj1:=fD c p.1 p.2
        have hj2:=w5 (a:=p.1) (b:=p.2) hm9
        have cj:=IK ae c af p.1 p.2 (-1) (by omega) (by omega) (by omega) (by omega)
        obtain⟨a,b⟩:=p
        simp only at hg hg2 hf2 p1 p2 hj1 hj2 cj
        simp -implicitDefEqProofs only[go_sem,Option.isSome_some,Option.getD_some]
        refine gp [] [0,1,2,3] cj ?_ ?_
        ·refine sA ?_
         first|rfl|((repeat' apply ar)<;>rfl)
        refine sA ?_
        refine⟨f',fV c a b,af++[⟨a,b,-1⟩],?_,sL,aw [some 0,some 1,some 3] ?_ ?_ rfl rfl⟩
        rotate_left
        ·exact sC
        ·exact sC
        exact⟨by omega,hj2,hf2,by simp;omega,hg⟩
theorem Bq{l:List Mod.Edge}{i:Nat}{x:Mod.Edge}(h:i<l.length):(di l).set i (sr (row (di l) i) 0 [.val (.int .i64 (x.step:Int)),.val (.bool x.back)])=di (l.set i x):=by
 rw[uS h,←K0]
 rfl
theorem Ic{ys:List Mod.Edge}{i j:Nat}(hi:i<ys.length)(hj:j<ys.length):((di ys).set i (sr [.val (.int .i64 (ys[i].step:Int)),.val (.bool ys[i].back)] 0 [.val (.int .i64 (ys[j].step:Int)),.val (.bool ys[j].back)])).set j (sr (row ((di ys).set i (sr [.val (.int .i64 (ys[i].step:Int)),.val (.bool ys[i].back)] 0 [.val (.int .i64 (ys[j].step:Int)),.val (.bool ys[j].back)])) j) 0 [.val (.int .i64 (ys[i].step:Int)),.val (.bool ys[i].back)])=di ((ys.set i ys[j]).set j ys[i]):=by
 have h1:(di ys).set i (sr [.val (.int .i64 (ys[i].step:Int)),.val (.bool ys[i].back)] 0 [.val (.int .i64 (ys[j].step:Int)),.val (.bool ys[j].back)])=di (ys.set i ys[j]):=by
  have h:=Bq (x:=ys[j]) hi
  rw[uS hi] at h
  exact h
 rw[h1]
 exact Bq (l:=ys.set i ys[j]) (x:=ys[i]) (by simpa using hj)
theorem Fm(l:List Mod.Edge)(oW:l.length≤1000):C E.P 237 [.acc 0] [some (.acc 233 (di l))] (bM (.jd []) [some (.acc 233 (di l.reverse))]):=by
 refine gS (nt:=28) (rs:=[]) hm Tryz.func237 fun hl he cI=>?_
 try simp -implicitDefEqProofs only[go_sem,Z1,Z2,Z3,Z4]
 refine sJ ?_
 refine dm hm (fun(i:Nat) (ys:List Mod.Edge)=> i≤l.length∧KF l ys i) (fun(i:Nat) (ys:List Mod.Edge)=> ⟨dB 28 .any [(0,.acc 0),(2,iv i),(3,iv ((l.length:Int)-1-(i:Int)))],[some (.acc 233 (di ys))]⟩) (fun(i:Nat) (ys:List Mod.Edge)=> l.length-i) (0) (l) ?_ (aw [some 0] ?_ ?_ rfl rfl) ?_
 rotate_left
 ·refine sA ?_
  all_goals(first|done|(simp[*];done)|(simp[aq];done)|(simp;omega)|skip)
 ·refine sA ?_
  all_goals(first|done|(simp[aq, *];done)|(simp[aq];done)|(simp;omega)|skip)
 rotate_left
 ·exact⟨bh _,KF.zero l⟩
 ·rintro i ys ⟨hi,hr⟩
  have dy:=hr.len
  rcases aa ((i:Int)<(l.length:Int)-1-(i:Int)) with h1|h1
  ·obtain⟨j,hj⟩:∃j:Nat,(l.length:Int)-1-(i:Int)=j:=⟨l.length-1-i,by omega⟩
   have hi':i<ys.length:=by omega
   have hj':j<ys.length:=by omega
   have ju:=hr.step (by omega:i<j) (by omega) hi' hj'
   rw[hj] at h1⊢
   try simp -implicitDefEqProofs only[go_sem,h1,hi',hj']
   refine sJ ?_
   refine⟨i+1,(ys.set i ys[j]).set j ys[i],?_,sL,aw [some 0] ?_ ?_ rfl rfl⟩
   rotate_left
   ·refine sA ?_
    all_goals(first|done|(exact Ic hi' hj')|(simp[*];done)|(simp[];done)|(simp;omega)|skip)
   ·refine sA ?_
    all_goals(first|done|(exact Ic hi' hj')|(simp[aq, *];done)|(simp[aq];done)|(simp;omega)|skip)
   exact⟨by omega,ju⟩
  ·have hd:=hr.done (by omega)
   try simp -implicitDefEqProofs only[go_sem,h1]
   refine sI ?_
   refine bX [some 0] ?_ rfl rfl
   refine sA ?_
   rw[hd]
theorem Yq(ae:List Term)(eqs:List iy)(c:List Nat)(af:List Step)(eP:lq ae eqs af)(oW:ae.length≤1000)(hs9:af.length≤2000000)(n a b:Nat)(hn:n≤af.length)(ha:a<ae.length)(hb:b<ae.length)(hab:cl (aV ae.length af n) a=cl (aV ae.length af n) b) :
 C E.P 181 [.ptr 0 0,iv a,iv b,iv n] [some (.box [lv (aP ae),lv (bO c),lv (a7 af)])] (bM (lv (di (lO ae.length af n a b))) [some (.box [lv (aP ae),lv (bO c),lv (a7 af)])]):=by
 have cI:=jQ
 refine F0 (nt:=116) (rs:=[.tmp 8]) Tryz.func181 rfl rfl rfl rfl rfl (fun hl he=>?_)
 simp -implicitDefEqProofs only[go_sem] at hl he⊢
 obtain⟨N,hN⟩:∃N,ae.length=N:=⟨_,rfl⟩
 have hvb:∀k (h:k<af.length),af[k].A=(vA af k:Int)∧af[k].B=(vB af k:Int):=fun k h=>by
  have hs:=rY h
  have hso:=ot eP h
  have a0:=hso.a0
  have b0:=hso.b0
  rw[hs] at a0 b0
  rw[vA,vB,hs]
  omega
 obtain⟨ss,hss⟩:∃ss,af.take n=ss:=⟨_,rfl⟩
 have htk:ss.length=n:=by rw[←hss,List.length_take];omega
 have hsl:List.take (n-0) (fm 0 (a7 af))=a7 ss:=by rw[←hss];simp[a7]
 have hsg:∀k (h:k<ss.length) (h':k<af.length),ss[k]=af[k]:=fun k h h'=>by subst hss;exact List.getElem_take
 refine ff (iQ hm ?_)
 try simp -implicitDefEqProofs only[go_sem,dR,dK]
 refine sI ?_
 refine ff (oz ?_)
 refine iX rfl (fe (MZ 273 1 rfl) ?_)
 try simp -implicitDefEqProofs only[go_sem]
 refine sI ?_
 refine iX rfl (fj ?_)
 try simp -implicitDefEqProofs only[go_sem]
 refine sI ?_
 refine uB ?_
 simp -implicitDefEqProofs only[go_sem,dK]
 refine ff (oz ?_)
 refine iX rfl (fj ?_)
 try simp -implicitDefEqProofs only[go_sem]
 refine sI ?_
 refine iX rfl (fe (pg 38 3 1 2 _ _ _ [[.val (.int .i64 (a:Int))]] rfl rfl rfl rfl rfl (by simp -implicitDefEqProofs only[go_sem]) rfl (by decide) rfl) ?_)
 try simp -implicitDefEqProofs only[go_sem]
 refine sI ?_
 refine iX rfl (fj ?_)
 try simp -implicitDefEqProofs only[go_sem]
 refine sI ?_
 refine uB ?_
 simp -implicitDefEqProofs only[go_sem,dK]
 refine ff (oz ?_)
 refine iX rfl (fe (MZ 274 3 rfl) ?_)
 try simp -implicitDefEqProofs only[go_sem]
 refine sI ?_
 refine iX rfl (fj ?_)
 try simp -implicitDefEqProofs only[go_sem]
 refine sI ?_
 refine iX rfl (fe (rz _ _ _ _ 274 3 4 3 [] (a:Int) (.bool true) (.inr rfl) rfl rfl (by simp -implicitDefEqProofs only[go_sem]) (by simp -implicitDefEqProofs only[go_sem]) (by simp -implicitDefEqProofs only[go_sem]) (by simp -implicitDefEqProofs only[go_sem]) rfl rfl) ?_)
 try simp -implicitDefEqProofs only[go_sem]
 refine sI ?_
 refine iX rfl (fj ?_)
 try simp -implicitDefEqProofs only[go_sem]
 refine sI ?_
 refine iX rfl (fj ?_)
 try simp -implicitDefEqProofs only[go_sem]
 refine sI ?_
 refine uB ?_
 simp -implicitDefEqProofs only[go_sem,dK]
 refine iQ hm ?_
 try simp -implicitDefEqProofs only[go_sem]
 refine sI ?_
 refine dm hm (fun(i:Nat) (cf:List (Nat×Mod.Edge))=> i≤cf.length∧YZ ae.length af n a cf∧uM af n cf i) (fun(i:Nat) (cf:List (Nat×Mod.Edge))=> ⟨dB 116 .any [(0,.ptr 0 0),(1,iv a),(2,iv b),(3,iv n),(9,.acc 1),(10,.acc 2),(11,.acc 3),(12,iv i)],[some (.box [lv (aP ae),lv (bO c),lv (a7 af)]),some (.map (oH cf)),some (.acc 3 (bO (iP cf))),some (.map (zh cf))]⟩) (fun(i:Nat) (cf:List (Nat×Mod.Edge))=> ae.length+1-i) (0) ([(a,⟨0,false⟩)]) ?_ (aw [some 0,some 1,some 2,some 3] ?_ ?_ rfl rfl) ?_
 rotate_left
 ·refine sA ?_
  all_goals(first|done|(((repeat' apply ar)<;>rfl))|(simp[aq, *];done)|(simp[aq];done)|(simp;omega)|skip)
 ·refine sA ?_
  all_goals(first|done|(((repeat' apply ar)<;>rfl))|(simp[aq, *];done)|(simp[aq];done)|(simp;omega)|skip)
 rotate_left
 ·exact⟨bh _,Sh ha _,fun j v hj=>by omega⟩
 ·rintro i cf ⟨hi,hM,hT⟩
  have hdl:=QF hM
  have hfl:=um cf
  rcases aa (i<cf.length) with h1|h1
  ·have h1':i<(iP cf).length:=by omega
   obtain⟨v,hv⟩:∃v,(iP cf)[i]=v:=⟨_,rfl⟩
   have hv':(iP cf)[i]?=some v:=by rw[ah h1',hv]
   have f1:n≤af.length∧∀y∈a7 af,y.length=3:=⟨hn,KW _⟩
   have hln:min (n-0) (fm 0 (a7 af)).length=n:=by simp[a7];omega
   try simp -implicitDefEqProofs only[go_sem,hfl,h1]
   refine sJ ?_
   try simp -implicitDefEqProofs only[go_sem,hsl,hln]
   refine sI ?_
   refine dm hm (fun(k:Nat) (cf:List (Nat×Mod.Edge))=> k≤n∧i<cf.length∧(iP cf)[i]?=some v∧YZ ae.length af n a cf∧uM af n cf i∧zM af k cf v) (fun(k:Nat) (cf:List (Nat×Mod.Edge))=> ⟨dB 116 .any [(0,.ptr 0 0),(1,iv a),(2,iv b),(3,iv n),(9,.acc 1),(10,.acc 2),(11,.acc 3),(12,iv i),(37,lv (a7 ss)),(38,iv n),(39,iv k)],[some (.box [lv (aP ae),lv (bO c),lv (a7 af)]),some (.map (oH cf)),some (.acc 3 (bO (iP cf))),some (.map (zh cf))]⟩) (fun(k:Nat) (cf:List (Nat×Mod.Edge))=> n-k) (0) (cf) ?_ (aw [some 0,some 1,some 2,some 3] ?_ ?_ rfl rfl) ?_
   rotate_left
   ·refine sA ?_
    all_goals(first|done|(simp[aq, *];done)|(simp[aq];done)|(simp;omega)|skip)
   ·refine sA ?_
    all_goals(first|done|(simp[aq, *];done)|(simp[aq];done)|(simp;omega)|skip)
   rotate_left
   ·exact⟨bh _,h1,hv',hM,hT,LX _ _ _⟩
   ·clear hM hT hdl hfl h1 h1' hv hv' hi
    rintro k cf ⟨hk,h1,hv',hM,hT,hS⟩
    have hdl:=QF hM
    have hfl:=um cf
    have h1':i<(iP cf).length:=by omega
    have hv:(iP cf)[i]=v:=by
     rw[ah h1'] at hv'
     simpa using hv'
    rcases aa (k<n) with h2|h2
    ·have h2':k<ss.length:=by omega
     have h3:k<af.length:=by omega
     obtain⟨eA,eB⟩:=hvb k h3
     have eg:ss[k]=af[k]:=hsg k h2' h3
     have a1:=Fw eP h3
     have b1:=FH eP h3
     rcases aa (vB af k=v) with hB|hB
     ·have kB:=eq_true hB
      rcases aa (vA af k=v) with hA|hA
      ·have kA:=eq_true hA
       have hmet:v∈iP cf:=by rw[←hv];exact ak h1'
       rw[hA] at eA
       rw[hB] at eB
       try simp -implicitDefEqProofs only[go_sem,h2,h2',eg,eA,eB,hfl,h1,hv]
       refine sJ ?_
       refine fe (sF (.tmp 66) (.tmp 67) 274 3 4 3 (zh cf) (v:Int) (.bool true) rfl rfl (by simp -implicitDefEqProofs only[go_sem]) (by simp -implicitDefEqProofs only[go_sem]) (by simp -implicitDefEqProofs only[go_sem]) (zp hmet)) ?_
       try simp -implicitDefEqProofs only[go_sem]
       refine sJ ?_
       refine⟨k+1,cf,?_,sL,aw [some 0,some 1,some 2,some 3] ?_ ?_ rfl rfl⟩
       rotate_left
       ·refine sA ?_
        all_goals(first|done|(simp[aq, *];done)|(simp[aq];done)|(simp;omega)|skip)
       ·refine sA ?_
        all_goals(first|done|(simp[aq, *];done)|(simp[aq];done)|(simp;omega)|skip)
       exact⟨by omega,h1,hv',hM,hT,n9 hS (fun _=>by rw[hB];exact hmet) (fun _=>by rw[hA];exact hmet)⟩
      ·have es:gC af ⟨k,true⟩=v:=hB
       have ee:ij af ⟨k,true⟩=vA af k:=rfl
       obtain⟨w,hw⟩:∃w,vA af k=w:=⟨_,rfl⟩
       rw[hw] at eA a1 ee hA
       rw[hB] at eB
       rcases aa (w∈iP cf) with hmet|hmet
       ·try simp -implicitDefEqProofs only[go_sem,h2,h2',eg,eA,eB,hfl,h1,hv]
        refine sJ ?_
        refine fe (sF (.tmp 66) (.tmp 67) 274 3 4 3 (zh cf) (w:Int) (.bool true) rfl rfl (by simp -implicitDefEqProofs only[go_sem]) (by simp -implicitDefEqProofs only[go_sem]) (by simp -implicitDefEqProofs only[go_sem]) (zp hmet)) ?_
        try simp -implicitDefEqProofs only[go_sem]
        refine sJ ?_
        refine⟨k+1,cf,?_,sL,aw [some 0,some 1,some 2,some 3] ?_ ?_ rfl rfl⟩
        rotate_left
        ·refine sA ?_
         all_goals(first|done|(simp[aq, *];done)|(simp[aq];done)|(simp;omega)|skip)
        ·refine sA ?_
         all_goals(first|done|(simp[aq, *];done)|(simp[aq];done)|(simp;omega)|skip)
        exact⟨by omega,h1,hv',hM,hT,n9 hS (fun h=>absurd (hw▸h) hA) (fun _=>by rw[hw];exact hmet)⟩
       ·try simp -implicitDefEqProofs only[go_sem,h2,h2',eg,eA,eB,hfl,h1,hv]
        refine sJ ?_
        have hd0:0<cf.length:=by omega
        refine fe (Bi (.tmp 66) (.tmp 67) 274 3 4 3 _ (zh cf) (w:Int) rfl rfl rfl rfl (by simp -implicitDefEqProofs only[go_sem]) (by simp -implicitDefEqProofs only[go_sem]) (by simp -implicitDefEqProofs only[go_sem]) (rh hmet)) ?_
        try simp -implicitDefEqProofs only[go_sem]
        refine sJ ?_
        refine fe (rz _ _ _ _ 274 3 4 3 (zh cf) (w:Int) (.bool true) (.inl rfl) rfl rfl (by simp -implicitDefEqProofs only[go_sem]) (by simp -implicitDefEqProofs only[go_sem]) (by simp -implicitDefEqProofs only[go_sem]) (by simp -implicitDefEqProofs only[go_sem]) rfl (rh hmet)) ?_
        try simp -implicitDefEqProofs only[go_sem]
        refine sJ ?_
        refine fe (rz _ _ _ _ 273 3 233 1 (oH cf) (w:Int) (.agg #[.int .i64 (k:Int),.bool true]) (.inl rfl) rfl rfl (by simp -implicitDefEqProofs only[go_sem]) (by simp -implicitDefEqProofs only[go_sem]) (by simp -implicitDefEqProofs only[go_sem]) (by simp -implicitDefEqProofs only[go_sem]) rfl (rX hmet)) ?_
        try simp -implicitDefEqProofs only[go_sem]
        refine sJ ?_
        refine⟨k+1,cf++[(w,⟨k,true⟩)],?_,sL,aw [some 0,some 1,some 5,some 3] ?_ ?_ rfl rfl⟩
        rotate_left
        ·refine sA ?_
         all_goals(first|done|((rw[sU hd0,Av,jI,←lY];(repeat' apply ar)<;>rfl))|(simp[aq, *];done)|(simp[aq];done)|(simp;omega)|skip)
        ·refine sA ?_
         all_goals(first|done|((rw[sU hd0,Av,jI,←lY];(repeat' apply ar)<;>rfl))|(simp[aq, *];done)|(simp[aq];done)|(simp;omega)|skip)
        have hM2:=QE (e:=⟨k,true⟩) hM h2 hv' es (by rw[ee];exact hmet) (by rw[ee];exact a1)
        rw[ee] at hM2
        refine⟨by omega,by simp;omega,by rw[jI,bj h1'];exact hv',hM2,zX (by omega) hT,n9 (Dh hS) (fun h=>absurd (hw▸h) hA) (fun _=>?_)⟩
        rw[hw,jI]
        exact fR _ (by simp[iP])
     ·rcases aa (vA af k=v) with hA|hA
      ·have es:gC af ⟨k,false⟩=v:=hA
       have ee:ij af ⟨k,false⟩=vB af k:=rfl
       obtain⟨w,hw⟩:∃w,vB af k=w:=⟨_,rfl⟩
       rw[hw] at eB b1 ee hB
       rw[hA] at eA
       rcases aa (w∈iP cf) with hmet|hmet
       ·try simp -implicitDefEqProofs only[go_sem,h2,h2',eg,eA,eB,hfl,h1,hv,hB]
        refine sJ ?_
        refine fe (sF (.tmp 66) (.tmp 67) 274 3 4 3 (zh cf) (w:Int) (.bool true) rfl rfl (by simp -implicitDefEqProofs only[go_sem]) (by simp -implicitDefEqProofs only[go_sem]) (by simp -implicitDefEqProofs only[go_sem]) (zp hmet)) ?_
        try simp -implicitDefEqProofs only[go_sem]
        refine sJ ?_
        refine⟨k+1,cf,?_,sL,aw [some 0,some 1,some 2,some 3] ?_ ?_ rfl rfl⟩
        rotate_left
        ·refine sA ?_
         all_goals(first|done|(simp[aq, *];done)|(simp[aq];done)|(simp;omega)|skip)
        ·refine sA ?_
         all_goals(first|done|(simp[aq, *];done)|(simp[aq];done)|(simp;omega)|skip)
        exact⟨by omega,h1,hv',hM,hT,n9 hS (fun _=>by rw[hw];exact hmet) (fun h=>absurd (hw▸h) hB)⟩
       ·try simp -implicitDefEqProofs only[go_sem,h2,h2',eg,eA,eB,hfl,h1,hv,hB]
        refine sJ ?_
        have hd0:0<cf.length:=by omega
        refine fe (Bi (.tmp 66) (.tmp 67) 274 3 4 3 _ (zh cf) (w:Int) rfl rfl rfl rfl (by simp -implicitDefEqProofs only[go_sem]) (by simp -implicitDefEqProofs only[go_sem]) (by simp -implicitDefEqProofs only[go_sem]) (rh hmet)) ?_
        try simp -implicitDefEqProofs only[go_sem]
        refine sJ ?_
        refine fe (rz _ _ _ _ 274 3 4 3 (zh cf) (w:Int) (.bool true) (.inl rfl) rfl rfl (by simp -implicitDefEqProofs only[go_sem]) (by simp -implicitDefEqProofs only[go_sem]) (by simp -implicitDefEqProofs only[go_sem]) (by simp -implicitDefEqProofs only[go_sem]) rfl (rh hmet)) ?_
        try simp -implicitDefEqProofs only[go_sem]
        refine sJ ?_
        refine fe (rz _ _ _ _ 273 3 233 1 (oH cf) (w:Int) (.agg #[.int .i64 (k:Int),.bool false]) (.inl rfl) rfl rfl (by simp -implicitDefEqProofs only[go_sem]) (by simp -implicitDefEqProofs only[go_sem]) (by simp -implicitDefEqProofs only[go_sem]) (by simp -implicitDefEqProofs only[go_sem]) rfl (rX hmet)) ?_
        try simp -implicitDefEqProofs only[go_sem]
        refine sJ ?_
        refine⟨k+1,cf++[(w,⟨k,false⟩)],?_,sL,aw [some 0,some 1,some 5,some 3] ?_ ?_ rfl rfl⟩
        rotate_left
        ·refine sA ?_
         all_goals(first|done|((rw[sU hd0,Av,jI,←lY];(repeat' apply ar)<;>rfl))|(simp[aq, *];done)|(simp[aq];done)|(simp;omega)|skip)
        ·refine sA ?_
         all_goals(first|done|((rw[sU hd0,Av,jI,←lY];(repeat' apply ar)<;>rfl))|(simp[aq, *];done)|(simp[aq];done)|(simp;omega)|skip)
        have hM2:=QE (e:=⟨k,false⟩) hM h2 hv' es (by rw[ee];exact hmet) (by rw[ee];exact b1)
        rw[ee] at hM2
        refine⟨by omega,by simp;omega,by rw[jI,bj h1'];exact hv',hM2,zX (by omega) hT,n9 (Dh hS) (fun _=>?_) (fun h=>absurd (hw▸h) hB)⟩
        rw[hw,jI]
        exact fR _ (by simp[iP])
      ·try simp -implicitDefEqProofs only[go_sem,h2,h2',eg,eA,eB,hfl,h1,hv,hB,hA]
       refine sJ ?_
       refine⟨k+1,cf,?_,sL,aw [some 0,some 1,some 2,some 3] ?_ ?_ rfl rfl⟩
       rotate_left
       ·refine sA ?_
        all_goals(first|done|(simp[aq, *];done)|(simp[aq];done)|(simp;omega)|skip)
       ·refine sA ?_
        all_goals(first|done|(simp[aq, *];done)|(simp[aq];done)|(simp;omega)|skip)
       exact⟨by omega,h1,hv',hM,hT,n9 hS (fun h=>absurd h hA) (fun h=>absurd h hB)⟩
    ·obtain rfl:k=n:=by omega
     try simp -implicitDefEqProofs only[go_sem,h2]
     refine sJ ?_
     refine⟨i+1,cf,?_,sL,aw [some 0,some 1,some 2,some 3] ?_ ?_ rfl rfl⟩
     rotate_left
     ·refine sA ?_
      all_goals(first|done|(simp[aq, *];done)|(simp[aq];done)|(simp;omega)|skip)
     ·refine sA ?_
      all_goals(first|done|(simp[aq, *];done)|(simp[aq];done)|(simp;omega)|skip)
     exact⟨by omega,hM,JI hT hv' (Px hS)⟩
  ·obtain rfl:i=cf.length:=by omega
   obtain⟨w1,w2,w3⟩:=rE eP hn ha hb hab
   have hbm:b∈iP cf:=AU hT w1 w2 (cM hM.head)
   obtain⟨j0,hj0,hjb⟩:=List.mem_iff_getElem.1 hbm
   have hjb':(iP cf)[j0]?=some b:=by rw[ah hj0,hjb]
   try simp -implicitDefEqProofs only[go_sem,hfl,h1]
   refine sI ?_
   refine kS hm (fun(j:Nat) (t:Nat) (out:List Mod.Edge)=> Vf af n b cf j t out) (fun(j:Nat) (t:Nat) (out:List Mod.Edge)=> ⟨dB 116 .any [(0,.ptr 0 0),(1,iv a),(2,iv t),(9,.acc 1),(18,.acc 2)],[some (.box [lv (aP ae),lv (bO c),lv (a7 af)]),some (.map (oH cf)),some (.acc 233 (di out))]⟩) (fun(j:Nat) (t:Nat) (out:List Mod.Edge)=> j) (j0) (b) ([]) ?_ (aw [some 0,some 1,none] ?_ ?_ rfl rfl) ?_
   rotate_left
   ·refine sA ?_
    all_goals(first|done|(rfl)|(simp[aq, *];done)|(simp[aq];done)|(simp;omega)|skip)
   ·refine sA ?_
    all_goals(first|done|(rfl)|(simp[aq, *];done)|(simp[aq];done)|(simp;omega)|skip)
   rotate_left
   ·exact NW hjb'
   ·rintro j t out hB
    have hjl:j<cf.length:=by
     rw[←hfl]
     exact(List.getElem?_eq_some_iff.1 hB.at_).1
    have htl:t<ae.length:=hM.lt t (cM hB.at_)
    have hol:out.length≤1000:=by
     have h5:=j8 hB.Wc (fun v hv=>by
      simp only[gO,List.mem_cons,List.mem_map] at hv
      rcases hv with rfl|⟨d,hd,rfl⟩
      ·exact htl
      ·exact xO eP (by have:=hB.in_ d hd;omega))
     simp[gO] at h5
     omega
    rcases aa (t=a) with h2|h2
    ·have k2:=eq_true h2
     have hbk:=hB
     rw[h2] at hbk
     have hout:=VG eP hn ha hbk
     try simp -implicitDefEqProofs only[go_sem,k2]
     refine sI ?_
     refine oC [] [2] (Fm out hol) ?_
     refine sI ?_
     try simp -implicitDefEqProofs only[go_sem,Z1,Z2,Z3,Z4,dR,dK,xV]
     refine sI ?_
     refine eJ ?_
     refine bX [some 0] ?_ rfl rfl
     refine sA ?_
     rw[hout]
     exact⟨rfl,rfl⟩
    ·have hj:0<j:=by
      rcases Nat.eq_zero_or_pos j with h5|h5
      ·have h6:=hM.head
       have h7:=hB.at_
       rw[h5,h6] at h7
       exact absurd (Option.some.inj h7).symm h2
      ·exact h5
     obtain⟨⟨t',e⟩,hde⟩:∃x,cf[j]?=some x:=⟨cf[j],ah hjl⟩
     have htt:t'=t:=by
      have h7:=hB.at_
      rw[iP,List.getElem?_map,hde] at h7
      exact Option.some.inj h7
     rw[htt] at hde
     have hmg:=Hf hM.Wc hj hde
     obtain⟨i2,hi2,hB2⟩:=Sl hM hB hde hj
     have hes:=(hM.by_ j t e hde hj).1
     have h3:e.step<af.length:=by omega
     obtain⟨eA,eB⟩:=hvb e.step h3
     try simp -implicitDefEqProofs only[go_sem,h2]
     refine sI ?_
     refine fe (sF (.tmp 86) (.tmp 87) 273 3 233 1 (oH cf) (t:Int) (.agg #[.int .i64 (e.step:Int),.bool e.back]) rfl rfl (by simp -implicitDefEqProofs only[go_sem]) (by simp -implicitDefEqProofs only[go_sem]) (by simp -implicitDefEqProofs only[go_sem]) hmg) ?_
     cases hb2:e.back
     ·have es:gC af e=vA af e.step:=by rw[gC,hb2];rfl
      rw[es] at hB2
      try simp -implicitDefEqProofs only[go_sem,h3,eA,eB]
      refine sJ ?_
      try simp -implicitDefEqProofs only[go_sem,Z1,Z2,Z3,Z4,h3,eA,eB]
      refine sJ ?_
      refine⟨i2,vA af e.step,out++[e],?_,sL,aw [some 0,some 1,some 4] ?_ ?_ rfl rfl⟩
      rotate_left
      ·refine sA ?_
       all_goals(first|done|((rw[←ra,qa,oM,yr,hb2]))|(simp[aq, *];done)|(simp[aq];done)|(simp;omega)|skip)
      ·refine sA ?_
       all_goals(first|done|((rw[←ra,qa,oM,yr,hb2]))|(simp[aq, *];done)|(simp[aq];done)|(simp;omega)|skip)
      exact hB2
     ·have es:gC af e=vB af e.step:=by rw[gC,hb2];rfl
      rw[es] at hB2
      try simp -implicitDefEqProofs only[go_sem,h3,eA,eB]
      refine sJ ?_
      try simp -implicitDefEqProofs only[go_sem,Z1,Z2,Z3,Z4,h3,eA,eB]
      refine sJ ?_
      refine⟨i2,vB af e.step,out++[e],?_,sL,aw [some 0,some 1,some 4] ?_ ?_ rfl rfl⟩
      rotate_left
      ·refine sA ?_
       all_goals(first|done|((rw[←ra,qa,oM,yr,hb2]))|(simp[aq, *];done)|(simp[aq];done)|(simp;omega)|skip)
      ·refine sA ?_
       all_goals(first|done|((rw[←ra,qa,oM,yr,hb2]))|(simp[aq, *];done)|(simp[aq];done)|(simp;omega)|skip)
      exact hB2
end Go.Proofs.YtabembjmeobhoaaGreat
