/-
  The program: the walk of closures. A step towards the laws.
-/
import Derived.Test.YtabembjmeobhoaaGreatKCH
import Derived.Test.YtabembjmeobhoaaGreatKCEl
set_option linter.unusedVariables false
set_option linter.unusedSimpArgs false
open And renaming intro→au
open Bool renaming true_and→aE,false_and→aK
open Classical renaming em→aa
open List renaming getElem?_eq_getElem→af,getElem_mem→ak,drop_of_length_le→al,getD_eq_getElem?_getD→ay,getElem?_append_left→bf,range→bu,mem_of_getElem?→cW,drop→fC,mem_append_right→gg
open Nat renaming le_refl→aJ,zero_le→bc
namespace Go.Proofs.YtabembjmeobhoaaGreat
open Go.Eng Go.Mod
open Int renaming reduceEq→Z1,reduceLT→Z2,reduceLE→Z3,reduceToNat→Z4
set_option maxRecDepth 100000
set_option maxHeartbeats 3200000
def abl(ae:List Term)(c:List Nat)(aj:List Step):List D:=[.dC (aN ae),.dC (bP c),.dC (aZ aj)]
attribute [go_sem] abl
theorem Db(ae:List Term)(c:List Nat)(aj:List Step)(t:Term):C E.P 48 [.gy [abl ae c aj] 0 0,av (cT t)] [] (bD (iv (bL ae t)) []):=by
 refine gS (nt:=11) (rs:=[.tmp 4]) hm Tryz.func48 fun hl he cq=>?_
 refine aC [] (dK ae t) ?_
 refine iK ?_
 refine an ?_
 exact sC
theorem HL(ae:List Term)(c:List Nat)(aj:List Step)(x y:Term)(hx:x∈ae)(hy:y∈ae)(hc:c.length=ae.length):C E.P 229 [av (cT x),av (cT y),.ptr 0 0] [some (.box [.ptr 1 0]),some (.box [lv (aN ae),.acc 2,.acc 3]),some (.acc 3 (bP c)),some (.acc 220 (aZ aj))] (bD (bv (Ke ae c x y)) [some (.box [.ptr 1 0]),some (.box [lv (aN ae),.acc 2,.acc 3]),some (.acc 3 (bP c)),some (.acc 220 (aZ aj))]):=by
 have px:=bz hx
 have py:=bz hy
 have cx:=b9 hx
 have cy:=b9 hy
 have px':aH ae x<c.length:=by omega
 have py':aH ae y<c.length:=by omega
 have ex:c[aH ae x]=cl c (aH ae x):=(gQ px').symm
 have ey:c[aH ae y]=cl c (aH ae y):=(gQ py').symm
 refine gS (nt:=25) (rs:=[.tmp 5]) hm Tryz.func229 fun hl he cq=>?_
 refine dQ [] [1,2,3] (Db ae c aj x) rfl ?_ ?_ ?_
 ·exact sV
 all_goals simp -implicitDefEqProofs only[go_sem,cx,px',ex]
 refine dQ [] [1,2,3] (Db ae c aj y) rfl ?_ ?_ ?_
 ·exact sV
 all_goals simp -implicitDefEqProofs only[go_sem,cy,py',ey]
 refine iK ?_
 refine bZ [some 0,some 1,some 2,some 3] ?_ rfl rfl
 refine sA ?_
 ((repeat' apply au)<;>rfl)
theorem Ew(ae:List Term)(c:List Nat)(aj:List Step)(hc:c.length=ae.length)(xs ys:List Term)(hx:∀x∈xs,x∈ae)(hy:∀y∈ys,y∈ae)(o6:xs.length≤1000):C E.P 82 [lv (aN xs),lv (aN ys),.fn 229 [.ptr 0 0]] [some (.box [.ptr 1 0]),some (.box [lv (aN ae),.acc 2,.acc 3]),some (.acc 3 (bP c)),some (.acc 220 (aZ aj))] (bD (bv (lM ae c xs ys)) [some (.box [.ptr 1 0]),some (.box [lv (aN ae),.acc 2,.acc 3]),some (.acc 3 (bP c)),some (.acc 220 (aZ aj))]):=by
 refine gS (nt:=32) (rs:=[.tmp 6]) hm Tryz.func82 fun hl he cq=>?_
 rcases aa (xs.length=ys.length) with h0|h0
 ·have k0:=eq_true h0
  refine uH ?_
  refine aM hm (fun(i:Nat)=> i≤xs.length∧lM ae c xs ys=lM ae c (xs.drop i) (ys.drop i)) (fun(i:Nat)=> ⟨dH 32 .any [(1,lv (aN ys)),(2,.fn 229 [.ptr 0 0]),(15,lv (aN xs)),(16,iv xs.length),(17,iv i)],[some (.box [.ptr 1 0]),some (.box [lv (aN ae),.acc 2,.acc 3]),some (.acc 3 (bP c)),some (.acc 220 (aZ aj))]⟩) (fun(i:Nat)=> xs.length-i) (0) ?_ (ar [some 0,some 1,some 2,some 3] ?_ ?_ rfl rfl) ?_
  rotate_left
  ·exact sC
  ·exact sC
  rotate_left
  ·exact⟨bc _,rfl⟩
  ·rintro i ⟨hi,hg⟩
   rcases aa (i<xs.length) with h1|h1
   ·have h2:i<ys.length:=by omega
    have hco:=HL ae c aj xs[i] ys[i] (hx _ (ak h1)) (hy _ (ak h2)) hc
    rw[Dz h1 h2] at hg
    refine uJ ?_
    refine gE [.ptr 0 0] [0,1,2,3] hco ?_ ?_
    ·refine sA ?_
     first|rfl|((repeat' apply au)<;>rfl)
    refine sA ?_
    cases h3:Ke ae c xs[i] ys[i]
    ·rw[h3,aK] at hg
     refine sA ?_
     refine bZ [some 0,some 1,some 2,some 3] ?_ rfl rfl
     refine sA ?_
     rw[hg]
    ·rw[h3,aE] at hg
     refine sA ?_
     refine sQ ?_
     refine⟨i+1,?_,sL,ar [some 0,some 1,some 2,some 3] ?_ ?_ rfl rfl⟩
     rotate_left
     ·exact sC
     ·exact sC
     exact⟨by omega,hg⟩
   ·rw[al (by omega),al (by omega),Gx] at hg
    refine uA ?_
    refine bZ [some 0,some 1,some 2,some 3] ?_ rfl rfl
    refine sA ?_
    rw[hg]
 ·rw[Ar h0]
  simp -implicitDefEqProofs only[go_sem,h0]
  refine bZ [some 0,some 1,some 2,some 3] ?_ rfl rfl
  exact sC
theorem Jc(ae:List Term)(c:List Nat)(aj:List Step)(a b:Nat)(hk:gU ae)(ha:a<ae.length)(hb:b<ae.length)(hc:c.length=ae.length)(hk9:∀t∈ae,t.kids.length≤1000):C E.P 168 [.ptr 0 0,iv a,iv b] [some (.box [lv (aN ae),.acc 1,.acc 2]),some (.acc 3 (bP c)),some (.acc 220 (aZ aj))] (bD (bv (alike ae c a b)) [some (.box [lv (aN ae),.acc 1,.acc 2]),some (.acc 3 (bP c)),some (.acc 220 (aZ aj))]):=by
 have e1:ae.getD a aL=ae[a]:=by rw[ay,af ha];rfl
 have e2:ae.getD b aL=ae[b]:=by rw[ay,af hb];rfl
 have ka:=hk _ (ak ha)
 have la:=hk9 _ (ak ha)
 have kb:=hk _ (ak hb)
 have e:alike ae c a b=(decide (0<ae[a].kids.length)&&(decide (ae[a].name=ae[b].name)&&lM ae c ae[a].kids ae[b].kids)):=by rw[alike,e1,e2]
 have hco:=Ew ae c aj hc ae[a].kids ae[b].kids ka kb la
 refine gS (nt:=42) (rs:=[.tmp 6]) hm Tryz.func168 fun hl he cq=>?_
 simp -implicitDefEqProofs only[go_sem,ha,hb]
 refine iK ?_
 rcases aa ((0:Int)<(ae[a].kids.length:Int)) with h1|h1
 ·rcases aa (ae[a].name=ae[b].name) with h2|h2
  ·have k2:=eq_true h2
   rw[decide_eq_true (by omega:0<ae[a].kids.length),decide_eq_true h2,aE,aE] at e
   simp -implicitDefEqProofs only[go_sem,h1,k2]
   refine gE [] [3,0,1,2] hco ?_ ?_
   ·refine sA ?_
    first|rfl|((repeat' apply au)<;>rfl)
   refine sA ?_
   refine bZ [some 0,some 1,some 2] ?_ rfl rfl
   refine sA ?_
   rw[e]
  ·rw[decide_eq_false h2,aK,Bool.and_false] at e
   refine uJ ?_
   refine bZ [some 0,some 1,some 2] ?_ rfl rfl
   refine sA ?_
   rw[e]
 ·rw[decide_eq_false (by omega:¬0<ae[a].kids.length),aK] at e
  refine uA ?_
  refine bZ [some 0,some 1,some 2] ?_ rfl rfl
  refine sA ?_
  rw[e]
theorem Xo(ae:List Term)(c:List Nat)(aj:List Step)(hk:gU ae)(hc:c.length=ae.length)(o6:ae.length≤1000)(hk9:∀t∈ae,t.kids.length≤1000):C E.P 99 [.ptr 0 0] [some (.box [lv (aN ae),.acc 1,.acc 2]),some (.acc 3 (bP c)),some (.acc 220 (aZ aj))] (bD (.gV [iv (((fK ae c).getD (0,0)).1:Nat),iv (((fK ae c).getD (0,0)).2:Nat),bv (fK ae c).isSome]) [some (.box [lv (aN ae),.acc 1,.acc 2]),some (.acc 3 (bP c)),some (.acc 220 (aZ aj))]):=by
 refine gS (nt:=44) (rs:=[.tmp 2,.tmp 3,.tmp 4]) hm Tryz.func99 fun hl he cq=>?_
 refine aM hm (fun(l:Nat)=> l≤ae.length∧fK ae c=(jG l ae.length).find? (fun p=>m8 ae c p.1 p.2)) (fun(l:Nat)=> ⟨dH 44 .any [(0,.ptr 0 0),(11,iv ae.length),(12,iv l)],[some (.box [lv (aN ae),.acc 1,.acc 2]),some (.acc 3 (bP c)),some (.acc 220 (aZ aj))]⟩) (fun(l:Nat)=> ae.length-l) (0) ?_ (ar [some 0,some 1,some 2] ?_ ?_ rfl rfl) ?_
 rotate_left
 ·exact sC
 ·exact sC
 rotate_left
 ·exact⟨bc _,rfl⟩
 ·rintro l ⟨hi,hg⟩
  rcases aa (l<ae.length) with h1|h1
  ·rw[xq h1] at hg
   refine uA ?_
   refine aM hm (fun(e:Nat)=> e≤l∧fK ae c=(qp e l ae.length).find? (fun p=>m8 ae c p.1 p.2)) (fun(e:Nat)=> ⟨dH 44 .any [(0,.ptr 0 0),(5,iv l),(11,iv ae.length),(12,iv l),(15,iv l),(16,iv e)],[some (.box [lv (aN ae),.acc 1,.acc 2]),some (.acc 3 (bP c)),some (.acc 220 (aZ aj))]⟩) (fun(e:Nat)=> l-e) (0) ?_ (ar [some 0,some 1,some 2] ?_ ?_ rfl rfl) ?_
   rotate_left
   ·exact sC
   ·exact sC
   rotate_left
   ·exact⟨bc _,hg⟩
   ·rintro e ⟨he,hg⟩
    rcases aa (e<l) with h2|h2
    ·have pe:e<c.length:=by omega
     have pl:l<c.length:=by omega
     have ee:c[e]=cl c e:=(gQ pe).symm
     have el:c[l]=cl c l:=(gQ pl).symm
     rw[zL h2,List.find?_cons] at hg
     have em:m8 ae c e l=(decide (cl c e≠cl c l)&&alike ae c e l):=rfl
     simp only[em] at hg
     rcases aa (cl c e=cl c l) with h3|h3
     ·have k3:(cl c e=cl c l)=True:=eq_true h3
      rw[decide_eq_false (by omega:¬cl c e≠cl c l),aK] at hg
      simp -implicitDefEqProofs only[go_sem,h2,pe,pl,ee,el,k3]
      refine iK ?_
      refine sQ ?_
      refine⟨e+1,?_,sL,ar [some 0,some 1,some 2] ?_ ?_ rfl rfl⟩
      rotate_left
      ·exact sC
      ·exact sC
      exact⟨by omega,hg⟩
     ·have hco:=Jc ae c aj e l hk (by omega) h1 hc hk9
      rw[decide_eq_true (by omega:cl c e≠cl c l),aE] at hg
      simp -implicitDefEqProofs only[go_sem,h2,pe,pl,ee,el,h3]
      refine gE [] [0,1,2] hco ?_ ?_
      ·refine sA ?_
       first|rfl|((repeat' apply au)<;>rfl)
      refine sA ?_
      refine iK ?_
      cases h4:alike ae c e l
      ·rw[h4] at hg
       refine sA ?_
       refine sQ ?_
       refine⟨e+1,?_,sL,ar [some 0,some 1,some 2] ?_ ?_ rfl rfl⟩
       rotate_left
       ·exact sC
       ·exact sC
       exact⟨by omega,hg⟩
      ·rw[h4] at hg
       simp only at hg
       refine sA ?_
       refine bZ [some 0,some 1,some 2] ?_ rfl rfl
       refine sA ?_
       rw[hg]
       ((repeat' apply au)<;>rfl)
    ·rw[Ck (by omega)] at hg
     refine uB ?_
     refine sQ ?_
     refine⟨l+1,?_,sL,ar [some 0,some 1,some 2] ?_ ?_ rfl rfl⟩
     rotate_left
     ·exact sC
     ·exact sC
     exact⟨by omega,hg⟩
  ·rw[zc (by omega),List.find?_nil] at hg
   refine uA ?_
   refine bZ [some 0,some 1,some 2] ?_ rfl rfl
   refine sA ?_
   rw[hg]
   ((repeat' apply au)<;>rfl)
theorem Kn(ae:List Term)(c:List Nat)(aj:List Step)(a b:Nat)(n:Int)(ha:a<c.length)(hb:b<c.length)(o6:c.length≤1000)(hs9:aj.length≤2000000):C E.P 98 [.ptr 0 0,iv a,iv b,iv n] [some (.box [lv (aN ae),.acc 1,.acc 2]),some (.acc 3 (bP c)),some (.acc 220 (aZ aj))] (bD (.gV []) [some (.box [lv (aN ae),.acc 1,.acc 3]),some (.acc 3 (bP (gj c a b))),some .dead,some (.acc 220 (aZ (aj++[⟨a,b,n⟩])))]):=by
 have ea:c[a]=cl c a:=(gQ ha).symm
 have eb:c[b]=cl c b:=(gQ hb).symm
 obtain⟨f,hf⟩:∃f,max (cl c a) (cl c b)=f:=⟨_,rfl⟩
 obtain⟨t,ht⟩:∃t,min (cl c a) (cl c b)=t:=⟨_,rfl⟩
 have hend:∀i,c.length≤i→fQ c f t i=gj c a b:=fun i hi=>by rw[←hf,←ht];exact FR hi
 have hss:aZ aj++[[.val (.int .i64 (a:Int)),.val (.int .i64 (b:Int)),.val (.int .i64 n)]]=aZ (aj++[⟨a,b,n⟩]):=by
  rw[←vm,tL,ru];rfl
 refine gS (nt:=65) (rs:=[]) hm Tryz.func98 fun hl he cq=>?_
 refine sQ ?_
 simp -implicitDefEqProofs only[go_sem,ha,hb,ea,eb]
 refine iK ?_
 rw[hss]
 rcases aa (cl c a<cl c b) with h0|h0
 ·have ef:f=cl c b:=by omega
  have et:t=cl c a:=by omega
  simp -implicitDefEqProofs only[go_sem,h0]
  rw[←ef,←et]
  refine aM hm (fun(i:Nat)=> i≤c.length) (fun(i:Nat)=> ⟨dH 65 .any [(0,.ptr 0 0),(8,iv f),(9,iv t),(47,.acc 1),(48,iv c.length),(49,iv i)],[some (.box [lv (aN ae),.acc 1,.acc 3]),some (.acc 3 (bP (fQ c f t i))),some .dead,some (.acc 220 (aZ (aj++[⟨a,b,n⟩])))]⟩) (fun(i:Nat)=> c.length-i) (0) ?_ (ar [some 0,some 1,some 2,some 3] ?_ ?_ rfl rfl) ?_
  rotate_left
  ·exact sC
  ·refine sA ?_
   all_goals((simp[fQ]))
  rotate_left
  ·omega
  ·rintro i hi
   have hjl:=rS c f t i
   rcases aa (i<c.length) with h1|h1
   ·have h1':i<(fQ c f t i).length:=by omega
    have eg:=rK (f:=f) (t:=t) h1 h1'
    rcases aa (c[i]=f) with h2|h2
    ·have k2:(c[i]=f)=True:=eq_true h2
     have hp:=uQ (l:=fQ c f t i) (i:=i) (n:=t) h1'
     have hn:=qn (f:=f) (t:=t) h1
     rw[if_pos h2] at hn
     rw[pw h1',eg] at hp
     simp -implicitDefEqProofs only[go_sem,hjl,h1,eg,k2]
     refine sQ ?_
     refine⟨i+1,?_,sL,ar [some 0,some 1,some 2,some 3] ?_ ?_ rfl rfl⟩
     rotate_left
     ·exact sC
     ·refine sA ?_
      all_goals((rw[hp,hn]))
     exact h1
    ·have hn:=s8 (f:=f) (t:=t) h1 h2
     simp -implicitDefEqProofs only[go_sem,hjl,h1,eg,h2]
     refine sQ ?_
     refine⟨i+1,?_,sL,ar [some 0,some 1,some 2,some 3] ?_ ?_ rfl rfl⟩
     rotate_left
     ·exact sC
     ·refine sA ?_
      all_goals((rw[hn]))
     exact h1
   ·rw[hend i (by omega)] at hjl⊢
    refine uA ?_
    refine bZ [some 0,some 1,some 2,some 3] ?_ rfl rfl
    exact sC
 ·have ef:f=cl c a:=by omega
  have et:t=cl c b:=by omega
  simp -implicitDefEqProofs only[go_sem,h0]
  rw[←ef,←et]
  refine aM hm (fun(i:Nat)=> i≤c.length) (fun(i:Nat)=> ⟨dH 65 .any [(0,.ptr 0 0),(8,iv f),(9,iv t),(47,.acc 1),(48,iv c.length),(49,iv i)],[some (.box [lv (aN ae),.acc 1,.acc 3]),some (.acc 3 (bP (fQ c f t i))),some .dead,some (.acc 220 (aZ (aj++[⟨a,b,n⟩])))]⟩) (fun(i:Nat)=> c.length-i) (0) ?_ (ar [some 0,some 1,some 2,some 3] ?_ ?_ rfl rfl) ?_
  rotate_left
  ·exact sC
  ·refine sA ?_
   all_goals((simp[fQ]))
  rotate_left
  ·omega
  ·rintro i hi
   have hjl:=rS c f t i
   rcases aa (i<c.length) with h1|h1
   ·have h1':i<(fQ c f t i).length:=by omega
    have eg:=rK (f:=f) (t:=t) h1 h1'
    rcases aa (c[i]=f) with h2|h2
    ·have k2:(c[i]=f)=True:=eq_true h2
     have hp:=uQ (l:=fQ c f t i) (i:=i) (n:=t) h1'
     have hn:=qn (f:=f) (t:=t) h1
     rw[if_pos h2] at hn
     rw[pw h1',eg] at hp
     simp -implicitDefEqProofs only[go_sem,hjl,h1,eg,k2]
     refine sQ ?_
     refine⟨i+1,?_,sL,ar [some 0,some 1,some 2,some 3] ?_ ?_ rfl rfl⟩
     rotate_left
     ·exact sC
     ·refine sA ?_
      all_goals((rw[hp,hn]))
     exact h1
    ·have hn:=s8 (f:=f) (t:=t) h1 h2
     simp -implicitDefEqProofs only[go_sem,hjl,h1,eg,h2]
     refine sQ ?_
     refine⟨i+1,?_,sL,ar [some 0,some 1,some 2,some 3] ?_ ?_ rfl rfl⟩
     rotate_left
     ·exact sC
     ·refine sA ?_
      all_goals((rw[hn]))
     exact h1
   ·rw[hend i (by omega)] at hjl⊢
    refine uA ?_
    refine bZ [some 0,some 1,some 2,some 3] ?_ rfl rfl
    exact sC
theorem Iy(ae:List Term)(eqs:List fF)(hk:gU ae)(kF:∀e∈eqs,e.A∈ae∧e.B∈ae)(o6:ae.length≤1000)(hk9:∀t∈ae,t.kids.length≤1000)(he9:eqs.length≤1000) :
 C E.P 42 [lv (aN ae),lv (cS eqs)] [] (bD (.ptr 0 0) [some (.box [lv (aN ae),lv (bP (closed ae eqs).1),lv (aZ (closed ae eqs).2)])]):=by
 refine gS (nt:=82) (rs:=[.tmp 4]) hm Tryz.func42 fun hl he cq=>?_
 refine aM hm (fun(i:Nat)=> i≤ae.length) (fun(i:Nat)=> ⟨dH 82 .any [(1,lv (cS eqs)),(5,.ptr 0 0),(18,iv ae.length),(19,iv i)],[some (.box [lv (aN ae),.acc 1,.acc 2]),some (.acc 3 (bP (bu i))),some (.acc 220 (aZ []))]⟩) (fun(i:Nat)=> ae.length-i) (0) ?_ (ar [some 0,none,none] ?_ ?_ rfl rfl) ?_
 rotate_left
 ·exact sC
 ·refine sA ?_
  all_goals(rfl)
 rotate_left
 ·omega
 ·rintro i hi
  have hrl:(bu i).length=i:=List.length_range
  rcases aa (i<ae.length) with h1|h1
  ·refine uA ?_
   refine sQ ?_
   refine⟨i+1,?_,sL,ar [some 0,some 3,some 2] ?_ ?_ rfl rfl⟩
   rotate_left
   ·exact sC
   ·refine sA ?_
    all_goals((rw[←l9];rfl))
   exact h1
  ·obtain rfl:i=ae.length:=by omega
   refine uA ?_
   clear hi h1
   refine kS hm (fun(n:Nat) (c:List Nat) (aj:List Step)=> n≤eqs.length∧c.length=ae.length∧(∀x∈c,x≤1000)∧aj.length≤n∧given ae eqs=jd ae n (eqs.drop n) c aj) (fun(n:Nat) (c:List Nat) (aj:List Step)=> ⟨dH 82 .any [(5,.ptr 0 0),(33,lv (cS eqs)),(34,iv eqs.length),(35,iv n)],[some (.box [lv (aN ae),.acc 1,.acc 2]),some (.acc 3 (bP c)),some (.acc 220 (aZ aj))]⟩) (fun(n:Nat) (c:List Nat) (aj:List Step)=> eqs.length-n) (0) (bu ae.length) ([]) ?_ (ar [some 0,some 1,some 2] ?_ ?_ rfl rfl) ?_
   rotate_left
   ·exact sC
   ·exact sC
   rotate_left
   ·exact⟨bc _,hrl,fun x hx=>by have:=List.mem_range.1 hx;omega,aJ _,rfl⟩
   ·rintro n c aj ⟨hn,hc,hm9,hs,hg⟩
    rcases aa (n<eqs.length) with h1|h1
    ·obtain⟨mA,mB⟩:=kF _ (ak h1)
     have pA:=bz mA
     have pB:=bz mB
     have cA:=b9 mA
     have cB:=b9 mB
     have pA':aH ae eqs[n].A<c.length:=by omega
     have pB':aH ae eqs[n].B<c.length:=by omega
     have eA:c[aH ae eqs[n].A]=cl c (aH ae eqs[n].A):=(gQ pA').symm
     have eB:c[aH ae eqs[n].B]=cl c (aH ae eqs[n].B):=(gQ pB').symm
     have hj1:=fP c (aH ae eqs[n].A) (aH ae eqs[n].B)
     have hj2:=xx (a:=aH ae eqs[n].A) (b:=aH ae eqs[n].B) hm9
     have cj:=Kn ae c aj (aH ae eqs[n].A) (aH ae eqs[n].B) n pA' pB' (by omega) (by omega)
     have ca:=Db ae c aj eqs[n].A
     have cb:=Db ae c aj eqs[n].B
     rw[cA] at ca
     rw[cB] at cb
     rw[List.drop_eq_getElem_cons h1,jd] at hg
     refine uA ?_
     refine dQ [] [0,1,2] ca rfl ?_ ?_ ?_
     ·exact sV
     all_goals simp -implicitDefEqProofs only[go_sem]
     refine dQ [] [0,1,2] cb rfl ?_ ?_ ?_
     ·exact sV
     all_goals simp -implicitDefEqProofs only[go_sem]
     refine iK ?_
     generalize aH ae eqs[n].A=a at *
     generalize aH ae eqs[n].B=b at *
     rcases aa (cl c a=cl c b) with h2|h2
     ·have k2:(cl c a=cl c b)=True:=eq_true h2
      rw[if_pos h2] at hg
      simp -implicitDefEqProofs only[go_sem,pA',pB',eA,eB,k2]
      refine iK ?_
      refine sQ ?_
      refine⟨n+1,c,aj,?_,sL,ar [some 0,some 1,some 2] ?_ ?_ rfl rfl⟩
      rotate_left
      ·exact sC
      ·exact sC
      exact⟨by omega,hc,hm9,by omega,hg⟩
     ·rw[if_neg h2] at hg
      simp -implicitDefEqProofs only[go_sem,pA',pB',eA,eB,h2]
      refine iK ?_
      refine gE [] [0,1,2,4] cj ?_ ?_
      ·refine sA ?_
       first|rfl|((repeat' apply au)<;>rfl)
      refine sA ?_
      refine sQ ?_
      refine⟨n+1,gj c a b,aj++[⟨a,b,n⟩],?_,sL,ar [some 0,some 1,some 4] ?_ ?_ rfl rfl⟩
      rotate_left
      ·exact sC
      ·exact sC
      exact⟨by omega,by omega,hj2,by simp;omega,hg⟩
    ·rw[al (by omega),jd] at hg
     have hcl:closed ae eqs=kf ae c.sum c aj:=by rw[closed,hg]
     have hsum:=pJ hm9
     have hsum2:c.length*1000≤1000*1000:=Nat.mul_le_mul_right _ (by omega)
     refine uA ?_
     refine kS hm (fun(f:Nat) (c:List Nat) (aj:List Step)=> c.length=ae.length∧(∀x∈c,x≤1000)∧c.sum≤f∧aj.length+f≤1999000∧closed ae eqs=kf ae f c aj) (fun(f:Nat) (c:List Nat) (aj:List Step)=> ⟨dH 82 .any [(5,.ptr 0 0)],[some (.box [lv (aN ae),.acc 1,.acc 2]),some (.acc 3 (bP c)),some (.acc 220 (aZ aj))]⟩) (fun(f:Nat) (c:List Nat) (aj:List Step)=> f) (c.sum) (c) (aj) ?_ (ar [some 0,some 1,some 2] ?_ ?_ rfl rfl) ?_
     rotate_left
     ·exact sC
     ·exact sC
     rotate_left
     ·exact⟨hc,hm9,aJ _,by omega,hcl⟩
     ·clear hcl hsum hsum2 hg h1 hn hc hm9 hs
      rintro f c aj ⟨hc,hm9,hf,hs,hg⟩
      have cn:=Xo ae c aj hk hc o6 hk9
      refine sA ?_
      refine gE [] [0,1,2] cn ?_ ?_
      ·refine sA ?_
       first|rfl|((repeat' apply au)<;>rfl)
      refine sA ?_
      cases hp:fK ae c with
      | none=>
        rw[wi hp] at hg
        refine uK ?_
        refine bZ [some 0] ?_ rfl rfl
        refine sA ?_
        rw[hg]
        ((repeat' apply au)<;>rfl)
      | some p=>
        obtain⟨f',rfl,hg2,hf2⟩:=vr (aj:=aj) hf hc hp
        obtain⟨p1,p2,p3,p4⟩:=qf hp
        rw[hg2] at hg
        have hj1:=fP c p.1 p.2
        have hj2:=xx (a:=p.1) (b:=p.2) hm9
        have cj:=Kn ae c aj p.1 p.2 (-1) (by omega) (by omega) (by omega) (by omega)
        obtain⟨a,b⟩:=p
        simp only at hg hg2 hf2 p1 p2 hj1 hj2 cj
        refine uL ?_
        refine gE [] [0,1,2,3] cj ?_ ?_
        ·refine sA ?_
         first|rfl|((repeat' apply au)<;>rfl)
        refine sA ?_
        refine⟨f',gj c a b,aj++[⟨a,b,-1⟩],?_,sL,ar [some 0,some 1,some 3] ?_ ?_ rfl rfl⟩
        rotate_left
        ·exact sC
        ·exact sC
        exact⟨by omega,hj2,hf2,by simp;omega,hg⟩
theorem Cg{l:List Mod.Edge}{i:Nat}{x:Mod.Edge}(h:i<l.length):(dv l).set i (sS (row (dv l) i) 0 [.val (.int .i64 (x.step:Int)),.val (.bool x.back)])=dv (l.set i x):=by
 rw[wm h,←Mv]
 rfl
theorem J4{ys:List Mod.Edge}{i j:Nat}(hi:i<ys.length)(hj:j<ys.length):((dv ys).set i (sS [.val (.int .i64 (ys[i].step:Int)),.val (.bool ys[i].back)] 0 [.val (.int .i64 (ys[j].step:Int)),.val (.bool ys[j].back)])).set j (sS (row ((dv ys).set i (sS [.val (.int .i64 (ys[i].step:Int)),.val (.bool ys[i].back)] 0 [.val (.int .i64 (ys[j].step:Int)),.val (.bool ys[j].back)])) j) 0 [.val (.int .i64 (ys[i].step:Int)),.val (.bool ys[i].back)])=dv ((ys.set i ys[j]).set j ys[i]):=by
 have h1:(dv ys).set i (sS [.val (.int .i64 (ys[i].step:Int)),.val (.bool ys[i].back)] 0 [.val (.int .i64 (ys[j].step:Int)),.val (.bool ys[j].back)])=dv (ys.set i ys[j]):=by
  have h:=Cg (x:=ys[j]) hi
  rw[wm hi] at h
  exact h
 rw[h1]
 exact Cg (l:=ys.set i ys[j]) (x:=ys[i]) (by simpa using hj)
theorem FM(l:List Mod.Edge)(o6:l.length≤1000):C E.P 237 [.acc 0] [some (.acc 233 (dv l))] (bD (.gV []) [some (.acc 233 (dv l.reverse))]):=by
 refine gS (nt:=28) (rs:=[]) hm Tryz.func237 fun hl he cq=>?_
 try simp -implicitDefEqProofs only[go_sem,Z1,Z2,Z3,Z4]
 refine sJ ?_
 refine cQ hm (fun(i:Nat) (ys:List Mod.Edge)=> i≤l.length∧Lq l ys i) (fun(i:Nat) (ys:List Mod.Edge)=> ⟨dH 28 .any [(0,.acc 0),(2,iv i),(3,iv ((l.length:Int)-1-(i:Int)))],[some (.acc 233 (dv ys))]⟩) (fun(i:Nat) (ys:List Mod.Edge)=> l.length-i) (0) (l) ?_ (ar [some 0] ?_ ?_ rfl rfl) ?_
 rotate_left
 ·refine sA ?_
  all_goals(first|done|(simp[*];done)|(simp[aI];done)|(simp;omega)|skip)
 ·refine sA ?_
  all_goals(try exact sM)
 rotate_left
 ·exact⟨bc _,Lq.zero l⟩
 ·rintro i ys ⟨hi,hr⟩
  have dz:=hr.len
  rcases aa ((i:Int)<(l.length:Int)-1-(i:Int)) with h1|h1
  ·obtain⟨j,hj⟩:∃j:Nat,(l.length:Int)-1-(i:Int)=j:=⟨l.length-1-i,by omega⟩
   have hi':i<ys.length:=by omega
   have hj':j<ys.length:=by omega
   have jC:=hr.step (by omega:i<j) (by omega) hi' hj'
   rw[hj] at h1⊢
   try simp -implicitDefEqProofs only[go_sem,h1,hi',hj']
   refine sJ ?_
   refine⟨i+1,(ys.set i ys[j]).set j ys[i],?_,sL,ar [some 0] ?_ ?_ rfl rfl⟩
   rotate_left
   ·refine sA ?_
    all_goals(first|done|(exact J4 hi' hj')|(simp[*];done)|(simp[];done)|(simp;omega)|skip)
   ·refine sA ?_
    all_goals(first|done|(exact J4 hi' hj')|(simp[aI, *];done)|(simp[aI];done)|(simp;omega)|skip)
   exact⟨by omega,jC⟩
  ·have hd:=hr.done (by omega)
   try simp -implicitDefEqProofs only[go_sem,h1]
   refine sI ?_
   refine bZ [some 0] ?_ rfl rfl
   refine sA ?_
   rw[hd]
theorem ZF(ae:List Term)(eqs:List fF)(c:List Nat)(aj:List Step)(e7:lE ae eqs aj)(o6:ae.length≤1000)(hs9:aj.length≤2000000)(n a b:Nat)(hn:n≤aj.length)(ha:a<ae.length)(hb:b<ae.length)(hab:cl (aS ae.length aj n) a=cl (aS ae.length aj n) b) :
 C E.P 181 [.ptr 0 0,iv a,iv b,iv n] [some (.box [lv (aN ae),lv (bP c),lv (aZ aj)])] (bD (lv (dv (lR ae.length aj n a b))) [some (.box [lv (aN ae),lv (bP c),lv (aZ aj)])]):=by
 have cq:=jZ
 refine Eh (nt:=116) (rs:=[.tmp 8]) Tryz.func181 rfl rfl rfl rfl rfl (fun hl he=>?_)
 simp -implicitDefEqProofs only[go_sem] at hl he⊢
 obtain⟨N,hN⟩:∃N,ae.length=N:=⟨_,rfl⟩
 have hvb:∀k (h:k<aj.length),aj[k].A=(vA aj k:Int)∧aj[k].B=(vB aj k:Int):=fun k h=>by
  have hs:=r7 h
  have hso:=oT e7 h
  have a0:=hso.a0
  have b0:=hso.b0
  rw[hs] at a0 b0
  rw[vA,vB,hs]
  omega
 obtain⟨ss,hss⟩:∃ss,aj.take n=ss:=⟨_,rfl⟩
 have htk:ss.length=n:=by rw[←hss,List.length_take];omega
 have hsl:List.take (n-0) (fC 0 (aZ aj))=aZ ss:=by rw[←hss];simp[aZ]
 have hsg:∀k (h:k<ss.length) (h':k<aj.length),ss[k]=aj[k]:=fun k h h'=>by subst hss;exact List.getElem_take
 refine eG (gz hm ?_)
 try simp -implicitDefEqProofs only[go_sem,de,dq]
 refine sI ?_
 refine eG (oU ?_)
 refine ji rfl (fu (M1 273 1 rfl) ?_)
 try simp -implicitDefEqProofs only[go_sem]
 refine sI ?_
 refine ji rfl (fA ?_)
 try simp -implicitDefEqProofs only[go_sem]
 refine sI ?_
 refine vk ?_
 simp -implicitDefEqProofs only[go_sem,dq]
 refine eG (oU ?_)
 refine ji rfl (fA ?_)
 try simp -implicitDefEqProofs only[go_sem]
 refine sI ?_
 refine ji rfl (fu (pI 38 3 1 2 _ _ _ [[.val (.int .i64 (a:Int))]] rfl rfl rfl rfl rfl (by simp -implicitDefEqProofs only[go_sem]) rfl (by decide) rfl) ?_)
 try simp -implicitDefEqProofs only[go_sem]
 refine sI ?_
 refine ji rfl (fA ?_)
 try simp -implicitDefEqProofs only[go_sem]
 refine sI ?_
 refine vk ?_
 simp -implicitDefEqProofs only[go_sem,dq]
 refine eG (oU ?_)
 refine ji rfl (fu (M1 274 3 rfl) ?_)
 try simp -implicitDefEqProofs only[go_sem]
 refine sI ?_
 refine ji rfl (fA ?_)
 try simp -implicitDefEqProofs only[go_sem]
 refine sI ?_
 refine ji rfl (fu (sk _ _ _ _ 274 3 4 3 [] (a:Int) (.bool true) (.inr rfl) rfl rfl (by simp -implicitDefEqProofs only[go_sem]) (by simp -implicitDefEqProofs only[go_sem]) (by simp -implicitDefEqProofs only[go_sem]) (by simp -implicitDefEqProofs only[go_sem]) rfl rfl) ?_)
 try simp -implicitDefEqProofs only[go_sem]
 refine sI ?_
 refine ji rfl (fA ?_)
 try simp -implicitDefEqProofs only[go_sem]
 refine sI ?_
 refine ji rfl (fA ?_)
 try simp -implicitDefEqProofs only[go_sem]
 refine sI ?_
 refine vk ?_
 simp -implicitDefEqProofs only[go_sem,dq]
 refine gz hm ?_
 try simp -implicitDefEqProofs only[go_sem]
 refine sI ?_
 refine cQ hm (fun(i:Nat) (cu:List (Nat×Mod.Edge))=> i≤cu.length∧Met ae.length aj n a cu∧vL aj n cu i) (fun(i:Nat) (cu:List (Nat×Mod.Edge))=> ⟨dH 116 .any [(0,.ptr 0 0),(1,iv a),(2,iv b),(3,iv n),(9,.acc 1),(10,.acc 2),(11,.acc 3),(12,iv i)],[some (.box [lv (aN ae),lv (bP c),lv (aZ aj)]),some (.map (oS cu)),some (.acc 3 (bP (iU cu))),some (.map (AN cu))]⟩) (fun(i:Nat) (cu:List (Nat×Mod.Edge))=> ae.length+1-i) (0) ([(a,⟨0,false⟩)]) ?_ (ar [some 0,some 1,some 2,some 3] ?_ ?_ rfl rfl) ?_
 rotate_left
 ·refine sA ?_
  all_goals(first|done|(((repeat' apply au)<;>rfl))|(simp[aI, *];done)|(simp[aI];done)|(simp;omega)|skip)
 ·refine sA ?_
  all_goals(first|done|(((repeat' apply au)<;>rfl))|(simp[aI, *];done)|(simp[aI];done)|(simp;omega)|skip)
 rotate_left
 ·exact⟨bc _,Tx ha _,fun j v hj=>by omega⟩
 ·rintro i cu ⟨hi,hM,hT⟩
  have hdl:=RG hM
  have hfl:=uy cu
  rcases aa (i<cu.length) with h1|h1
  ·have h1':i<(iU cu).length:=by omega
   obtain⟨v,hv⟩:∃v,(iU cu)[i]=v:=⟨_,rfl⟩
   have hv':(iU cu)[i]?=some v:=by rw[af h1',hv]
   have f1:n≤aj.length∧∀y∈aZ aj,y.length=3:=⟨hn,My _⟩
   have hln:min (n-0) (fC 0 (aZ aj)).length=n:=by simp[aZ];omega
   try simp -implicitDefEqProofs only[go_sem,hfl,h1]
   refine sJ ?_
   try simp -implicitDefEqProofs only[go_sem,hsl,hln]
   refine sI ?_
   refine cQ hm (fun(k:Nat) (cu:List (Nat×Mod.Edge))=> k≤n∧i<cu.length∧(iU cu)[i]?=some v∧Met ae.length aj n a cu∧vL aj n cu i∧Av aj k cu v) (fun(k:Nat) (cu:List (Nat×Mod.Edge))=> ⟨dH 116 .any [(0,.ptr 0 0),(1,iv a),(2,iv b),(3,iv n),(9,.acc 1),(10,.acc 2),(11,.acc 3),(12,iv i),(37,lv (aZ ss)),(38,iv n),(39,iv k)],[some (.box [lv (aN ae),lv (bP c),lv (aZ aj)]),some (.map (oS cu)),some (.acc 3 (bP (iU cu))),some (.map (AN cu))]⟩) (fun(k:Nat) (cu:List (Nat×Mod.Edge))=> n-k) (0) (cu) ?_ (ar [some 0,some 1,some 2,some 3] ?_ ?_ rfl rfl) ?_
   rotate_left
   ·refine sA ?_
    all_goals(try exact sM)
   ·refine sA ?_
    all_goals(try exact sM)
   rotate_left
   ·exact⟨bc _,h1,hv',hM,hT,OA _ _ _⟩
   ·clear hM hT hdl hfl h1 h1' hv hv' hi
    rintro k cu ⟨hk,h1,hv',hM,hT,hS⟩
    have hdl:=RG hM
    have hfl:=uy cu
    have h1':i<(iU cu).length:=by omega
    have hv:(iU cu)[i]=v:=by
     rw[af h1'] at hv'
     simpa using hv'
    rcases aa (k<n) with h2|h2
    ·have h2':k<ss.length:=by omega
     have h3:k<aj.length:=by omega
     obtain⟨eA,eB⟩:=hvb k h3
     have eg:ss[k]=aj[k]:=hsg k h2' h3
     have a1:=Hf e7 h3
     have b1:=FT e7 h3
     rcases aa (vB aj k=v) with hB|hB
     ·have kB:=eq_true hB
      rcases aa (vA aj k=v) with hA|hA
      ·have kA:=eq_true hA
       have hmet:v∈iU cu:=by rw[←hv];exact ak h1'
       rw[hA] at eA
       rw[hB] at eB
       try simp -implicitDefEqProofs only[go_sem,h2,h2',eg,eA,eB,hfl,h1,hv]
       refine sJ ?_
       refine fu (tE (.tmp 66) (.tmp 67) 274 3 4 3 (AN cu) (v:Int) (.bool true) rfl rfl (by simp -implicitDefEqProofs only[go_sem]) (by simp -implicitDefEqProofs only[go_sem]) (by simp -implicitDefEqProofs only[go_sem]) (Ab hmet)) ?_
       try simp -implicitDefEqProofs only[go_sem]
       refine sJ ?_
       refine⟨k+1,cu,?_,sL,ar [some 0,some 1,some 2,some 3] ?_ ?_ rfl rfl⟩
       rotate_left
       ·refine sA ?_
        all_goals(try exact sM)
       ·refine sA ?_
        all_goals(try exact sM)
       exact⟨by omega,h1,hv',hM,hT,og hS (fun _=>by rw[hB];exact hmet) (fun _=>by rw[hA];exact hmet)⟩
      ·have es:gK aj ⟨k,true⟩=v:=hB
       have ee:ix aj ⟨k,true⟩=vA aj k:=rfl
       obtain⟨w,hw⟩:∃w,vA aj k=w:=⟨_,rfl⟩
       rw[hw] at eA a1 ee hA
       rw[hB] at eB
       rcases aa (w∈iU cu) with hmet|hmet
       ·try simp -implicitDefEqProofs only[go_sem,h2,h2',eg,eA,eB,hfl,h1,hv]
        refine sJ ?_
        refine fu (tE (.tmp 66) (.tmp 67) 274 3 4 3 (AN cu) (w:Int) (.bool true) rfl rfl (by simp -implicitDefEqProofs only[go_sem]) (by simp -implicitDefEqProofs only[go_sem]) (by simp -implicitDefEqProofs only[go_sem]) (Ab hmet)) ?_
        try simp -implicitDefEqProofs only[go_sem]
        refine sJ ?_
        refine⟨k+1,cu,?_,sL,ar [some 0,some 1,some 2,some 3] ?_ ?_ rfl rfl⟩
        rotate_left
        ·refine sA ?_
         all_goals(try exact sM)
        ·refine sA ?_
         all_goals(try exact sM)
        exact⟨by omega,h1,hv',hM,hT,og hS (fun h=>absurd (hw▸h) hA) (fun _=>by rw[hw];exact hmet)⟩
       ·try simp -implicitDefEqProofs only[go_sem,h2,h2',eg,eA,eB,hfl,h1,hv]
        refine sJ ?_
        have hd0:0<cu.length:=by omega
        refine fu (BN (.tmp 66) (.tmp 67) 274 3 4 3 _ (AN cu) (w:Int) rfl rfl rfl rfl (by simp -implicitDefEqProofs only[go_sem]) (by simp -implicitDefEqProofs only[go_sem]) (by simp -implicitDefEqProofs only[go_sem]) (ri hmet)) ?_
        try simp -implicitDefEqProofs only[go_sem]
        refine sJ ?_
        refine fu (sk _ _ _ _ 274 3 4 3 (AN cu) (w:Int) (.bool true) (.inl rfl) rfl rfl (by simp -implicitDefEqProofs only[go_sem]) (by simp -implicitDefEqProofs only[go_sem]) (by simp -implicitDefEqProofs only[go_sem]) (by simp -implicitDefEqProofs only[go_sem]) rfl (ri hmet)) ?_
        try simp -implicitDefEqProofs only[go_sem]
        refine sJ ?_
        refine fu (sk _ _ _ _ 273 3 233 1 (oS cu) (w:Int) (.agg #[.int .i64 (k:Int),.bool true]) (.inl rfl) rfl rfl (by simp -implicitDefEqProofs only[go_sem]) (by simp -implicitDefEqProofs only[go_sem]) (by simp -implicitDefEqProofs only[go_sem]) (by simp -implicitDefEqProofs only[go_sem]) rfl (sF hmet)) ?_
        try simp -implicitDefEqProofs only[go_sem]
        refine sJ ?_
        refine⟨k+1,cu++[(w,⟨k,true⟩)],?_,sL,ar [some 0,some 1,some 5,some 3] ?_ ?_ rfl rfl⟩
        rotate_left
        ·refine sA ?_
         all_goals(first|done|((rw[tt hd0,Cu,jM,←l9];(repeat' apply au)<;>rfl))|(simp[aI, *];done)|(simp[aI];done)|(simp;omega)|skip)
        ·refine sA ?_
         all_goals(first|done|((rw[tt hd0,Cu,jM,←l9];(repeat' apply au)<;>rfl))|(simp[aI, *];done)|(simp[aI];done)|(simp;omega)|skip)
        have hM2:=Sm (e:=⟨k,true⟩) hM h2 hv' es (by rw[ee];exact hmet) (by rw[ee];exact a1)
        rw[ee] at hM2
        refine⟨by omega,by simp;omega,by rw[jM,bf h1'];exact hv',hM2,BD (by omega) hT,og (DY hS) (fun h=>absurd (hw▸h) hA) (fun _=>?_)⟩
        rw[hw,jM]
        exact gg _ (by simp[iU])
     ·rcases aa (vA aj k=v) with hA|hA
      ·have es:gK aj ⟨k,false⟩=v:=hA
       have ee:ix aj ⟨k,false⟩=vB aj k:=rfl
       obtain⟨w,hw⟩:∃w,vB aj k=w:=⟨_,rfl⟩
       rw[hw] at eB b1 ee hB
       rw[hA] at eA
       rcases aa (w∈iU cu) with hmet|hmet
       ·try simp -implicitDefEqProofs only[go_sem,h2,h2',eg,eA,eB,hfl,h1,hv,hB]
        refine sJ ?_
        refine fu (tE (.tmp 66) (.tmp 67) 274 3 4 3 (AN cu) (w:Int) (.bool true) rfl rfl (by simp -implicitDefEqProofs only[go_sem]) (by simp -implicitDefEqProofs only[go_sem]) (by simp -implicitDefEqProofs only[go_sem]) (Ab hmet)) ?_
        try simp -implicitDefEqProofs only[go_sem]
        refine sJ ?_
        refine⟨k+1,cu,?_,sL,ar [some 0,some 1,some 2,some 3] ?_ ?_ rfl rfl⟩
        rotate_left
        ·refine sA ?_
         all_goals(try exact sM)
        ·refine sA ?_
         all_goals(try exact sM)
        exact⟨by omega,h1,hv',hM,hT,og hS (fun _=>by rw[hw];exact hmet) (fun h=>absurd (hw▸h) hB)⟩
       ·try simp -implicitDefEqProofs only[go_sem,h2,h2',eg,eA,eB,hfl,h1,hv,hB]
        refine sJ ?_
        have hd0:0<cu.length:=by omega
        refine fu (BN (.tmp 66) (.tmp 67) 274 3 4 3 _ (AN cu) (w:Int) rfl rfl rfl rfl (by simp -implicitDefEqProofs only[go_sem]) (by simp -implicitDefEqProofs only[go_sem]) (by simp -implicitDefEqProofs only[go_sem]) (ri hmet)) ?_
        try simp -implicitDefEqProofs only[go_sem]
        refine sJ ?_
        refine fu (sk _ _ _ _ 274 3 4 3 (AN cu) (w:Int) (.bool true) (.inl rfl) rfl rfl (by simp -implicitDefEqProofs only[go_sem]) (by simp -implicitDefEqProofs only[go_sem]) (by simp -implicitDefEqProofs only[go_sem]) (by simp -implicitDefEqProofs only[go_sem]) rfl (ri hmet)) ?_
        try simp -implicitDefEqProofs only[go_sem]
        refine sJ ?_
        refine fu (sk _ _ _ _ 273 3 233 1 (oS cu) (w:Int) (.agg #[.int .i64 (k:Int),.bool false]) (.inl rfl) rfl rfl (by simp -implicitDefEqProofs only[go_sem]) (by simp -implicitDefEqProofs only[go_sem]) (by simp -implicitDefEqProofs only[go_sem]) (by simp -implicitDefEqProofs only[go_sem]) rfl (sF hmet)) ?_
        try simp -implicitDefEqProofs only[go_sem]
        refine sJ ?_
        refine⟨k+1,cu++[(w,⟨k,false⟩)],?_,sL,ar [some 0,some 1,some 5,some 3] ?_ ?_ rfl rfl⟩
        rotate_left
        ·refine sA ?_
         all_goals(first|done|((rw[tt hd0,Cu,jM,←l9];(repeat' apply au)<;>rfl))|(simp[aI, *];done)|(simp[aI];done)|(simp;omega)|skip)
        ·refine sA ?_
         all_goals(first|done|((rw[tt hd0,Cu,jM,←l9];(repeat' apply au)<;>rfl))|(simp[aI, *];done)|(simp[aI];done)|(simp;omega)|skip)
        have hM2:=Sm (e:=⟨k,false⟩) hM h2 hv' es (by rw[ee];exact hmet) (by rw[ee];exact b1)
        rw[ee] at hM2
        refine⟨by omega,by simp;omega,by rw[jM,bf h1'];exact hv',hM2,BD (by omega) hT,og (DY hS) (fun _=>?_) (fun h=>absurd (hw▸h) hB)⟩
        rw[hw,jM]
        exact gg _ (by simp[iU])
      ·try simp -implicitDefEqProofs only[go_sem,h2,h2',eg,eA,eB,hfl,h1,hv,hB,hA]
       refine sJ ?_
       refine⟨k+1,cu,?_,sL,ar [some 0,some 1,some 2,some 3] ?_ ?_ rfl rfl⟩
       rotate_left
       ·refine sA ?_
        all_goals(try exact sM)
       ·refine sA ?_
        all_goals(try exact sM)
       exact⟨by omega,h1,hv',hM,hT,og hS (fun h=>absurd h hA) (fun h=>absurd h hB)⟩
    ·obtain rfl:k=n:=by omega
     try simp -implicitDefEqProofs only[go_sem,h2]
     refine sJ ?_
     refine⟨i+1,cu,?_,sL,ar [some 0,some 1,some 2,some 3] ?_ ?_ rfl rfl⟩
     rotate_left
     ·refine sA ?_
      all_goals(try exact sM)
     ·refine sA ?_
      all_goals(try exact sM)
     exact⟨by omega,hM,LQ hT hv' (Pl hS)⟩
  ·obtain rfl:i=cu.length:=by omega
   obtain⟨w1,w2,w3⟩:=sw e7 hn ha hb hab
   have hbm:b∈iU cu:=Bk hT w1 w2 (cW hM.head)
   obtain⟨j0,hj0,hjb⟩:=List.mem_iff_getElem.1 hbm
   have hjb':(iU cu)[j0]?=some b:=by rw[af hj0,hjb]
   try simp -implicitDefEqProofs only[go_sem,hfl,h1]
   refine sI ?_
   refine kS hm (fun(j:Nat) (t:Nat) (out:List Mod.Edge)=> WT aj n b cu j t out) (fun(j:Nat) (t:Nat) (out:List Mod.Edge)=> ⟨dH 116 .any [(0,.ptr 0 0),(1,iv a),(2,iv t),(9,.acc 1),(18,.acc 2)],[some (.box [lv (aN ae),lv (bP c),lv (aZ aj)]),some (.map (oS cu)),some (.acc 233 (dv out))]⟩) (fun(j:Nat) (t:Nat) (out:List Mod.Edge)=> j) (j0) (b) ([]) ?_ (ar [some 0,some 1,none] ?_ ?_ rfl rfl) ?_
   rotate_left
   ·refine sA ?_
    all_goals(first|done|(rfl)|(simp[aI, *];done)|(simp[aI];done)|(simp;omega)|skip)
   ·refine sA ?_
    all_goals(first|done|(rfl)|(simp[aI, *];done)|(simp[aI];done)|(simp;omega)|skip)
   rotate_left
   ·exact PG hjb'
   ·rintro j t out hB
    have hjl:j<cu.length:=by
     rw[←hfl]
     exact(List.getElem?_eq_some_iff.1 hB.at_).1
    have htl:t<ae.length:=hM.lt t (cW hB.at_)
    have hol:out.length≤1000:=by
     have h5:=kd hB.XE (fun v hv=>by
      simp only[gP,List.mem_cons,List.mem_map] at hv
      rcases hv with rfl|⟨d,hd,rfl⟩
      ·exact htl
      ·exact yz e7 (by have:=hB.in_ d hd;omega))
     simp[gP] at h5
     omega
    rcases aa (t=a) with h2|h2
    ·have k2:=eq_true h2
     have hbk:=hB
     rw[h2] at hbk
     have hout:=Xb e7 hn ha hbk
     try simp -implicitDefEqProofs only[go_sem,k2]
     refine sI ?_
     refine oC [] [2] (FM out hol) ?_
     refine sI ?_
     try simp -implicitDefEqProofs only[go_sem,Z1,Z2,Z3,Z4,de,dq,vW]
     refine sI ?_
     refine dR ?_
     refine bZ [some 0] ?_ rfl rfl
     refine sA ?_
     rw[hout]
     exact⟨rfl,rfl⟩
    ·have hj:0<j:=by
      rcases Nat.eq_zero_or_pos j with h5|h5
      ·have h6:=hM.head
       have h7:=hB.at_
       rw[h5,h6] at h7
       exact absurd (Option.some.inj h7).symm h2
      ·exact h5
     obtain⟨⟨t',e⟩,hde⟩:∃x,cu[j]?=some x:=⟨cu[j],af hjl⟩
     have htt:t'=t:=by
      have h7:=hB.at_
      rw[iU,List.getElem?_map,hde] at h7
      exact Option.some.inj h7
     rw[htt] at hde
     have hmg:=Jg hM.XE hj hde
     obtain⟨i2,hi2,hB2⟩:=SP hM hB hde hj
     have hes:=(hM.by_ j t e hde hj).1
     have h3:e.step<aj.length:=by omega
     obtain⟨eA,eB⟩:=hvb e.step h3
     try simp -implicitDefEqProofs only[go_sem,h2]
     refine sI ?_
     refine fu (tE (.tmp 86) (.tmp 87) 273 3 233 1 (oS cu) (t:Int) (.agg #[.int .i64 (e.step:Int),.bool e.back]) rfl rfl (by simp -implicitDefEqProofs only[go_sem]) (by simp -implicitDefEqProofs only[go_sem]) (by simp -implicitDefEqProofs only[go_sem]) hmg) ?_
     cases hb2:e.back
     ·have es:gK aj e=vA aj e.step:=by rw[gK,hb2];rfl
      rw[es] at hB2
      try simp -implicitDefEqProofs only[go_sem,h3,eA,eB]
      refine sJ ?_
      try simp -implicitDefEqProofs only[go_sem,Z1,Z2,Z3,Z4,h3,eA,eB]
      refine sJ ?_
      refine⟨i2,vA aj e.step,out++[e],?_,sL,ar [some 0,some 1,some 4] ?_ ?_ rfl rfl⟩
      rotate_left
      ·refine sA ?_
       all_goals(first|done|((rw[←rl,qa,oK,zn,hb2]))|(simp[aI, *];done)|(simp[aI];done)|(simp;omega)|skip)
      ·refine sA ?_
       all_goals(first|done|((rw[←rl,qa,oK,zn,hb2]))|(simp[aI, *];done)|(simp[aI];done)|(simp;omega)|skip)
      exact hB2
     ·have es:gK aj e=vB aj e.step:=by rw[gK,hb2];rfl
      rw[es] at hB2
      try simp -implicitDefEqProofs only[go_sem,h3,eA,eB]
      refine sJ ?_
      try simp -implicitDefEqProofs only[go_sem,Z1,Z2,Z3,Z4,h3,eA,eB]
      refine sJ ?_
      refine⟨i2,vB aj e.step,out++[e],?_,sL,ar [some 0,some 1,some 4] ?_ ?_ rfl rfl⟩
      rotate_left
      ·refine sA ?_
       all_goals(first|done|((rw[←rl,qa,oK,zn,hb2]))|(simp[aI, *];done)|(simp[aI];done)|(simp;omega)|skip)
      ·refine sA ?_
       all_goals(first|done|((rw[←rl,qa,oK,zn,hb2]))|(simp[aI, *];done)|(simp[aI];done)|(simp;omega)|skip)
      exact hB2
end Go.Proofs.YtabembjmeobhoaaGreat
