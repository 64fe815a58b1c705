/-
  The reference: the walk of closures. A step towards the laws.
-/
import Derived.Test.YtabembjmeobhoaaGreatKCP
import Derived.Test.YtabembjmeobhoaaGreatKCEk
import Derived.Test.YtabembjmeobhoaaGreatKCyb
set_option linter.unusedVariables false
set_option linter.unusedSimpArgs false
open And renaming intro→au
open Bool renaming true_and→aE,false_and→aK
open Classical renaming em→aa
open List renaming getElem?_eq_getElem→af,drop_eq_getElem_cons→ah,getElem_mem→ak,drop_of_length_le→al,mem_cons→ax,getD_eq_getElem?_getD→ay,mem_append→aP,not_mem_nil→ba,range→bu,nodup_append→dt,range'→dV
open Nat renaming le_refl→aJ,zero_le→bc
open Option renaming getD_some→aX,isSome_some→aY,isSome_none→bE,getD_none→cf
namespace Go.Proofs.YtabembjmeobhoaaGreat
open Go.Eng Go.Mod
open Int renaming reduceEq→Z1,reduceLT→Z2,reduceLE→Z3,reduceToNat→Z4
set_option maxRecDepth 100000
set_option maxHeartbeats 800000
theorem Je(a b:Nat):C E.P 243 [iv a,iv b] [] (bD (iv ((max a b:Nat):Int)) []):=by
 refine gS (nt:=10) (rs:=[.tmp 4]) hm Tryz.func243 fun hl he cq=>?_
 rcases aa (b<a) with h|h
 ·have e:max a b=a:=by omega
  refine uF ?_
  refine an ?_
  refine sA ?_
  all_goals(simp[e];done)
 ·have e:max a b=b:=by omega
  refine uF ?_
  refine an ?_
  refine sA ?_
  all_goals(simp[e];done)
theorem tW(c:List Nat)(a b:Nat)(ha:a<c.length)(hb:b<c.length)(hl:c.length≤1000)(hc:∀x∈c,x≤1000):C E.P 197 [.acc 0,iv a,iv b] [some (.acc 3 (bP c))] (bD (.acc 0) [some (.acc 3 (bP (gj c a b)))]):=by
 have ea:c[a]=cl c a:=(gQ ha).symm
 have eb:c[b]=cl c b:=(gQ hb).symm
 have la:=hc _ (AL ha)
 have lb:=hc _ (AL hb)
 have e1:(cl c a:Int)+(cl c b:Int)-((max (cl c a) (cl c b):Nat):Int)=((min (cl c a) (cl c b):Nat):Int):=by omega
 obtain⟨f,hf⟩:∃f,max (cl c a) (cl c b)=f:=⟨_,rfl⟩
 obtain⟨t,ht⟩:∃t,min (cl c a) (cl c b)=t:=⟨_,rfl⟩
 have hend:∀i,c.length≤i→fQ c f t i=gj c a b:=fun i hi=>by rw[←hf,←ht];exact FR hi
 rw[hf,ht] at e1
 refine gS (nt:=47) (rs:=[.tmp 6]) hm Tryz.func197 fun hl he cq=>?_
 simp -implicitDefEqProofs only[go_sem,ha,hb,ea,eb]
 refine aC [] (Je (cl c a) (cl c b)) ?_
 refine iK ?_
 rw[hf]
 simp -implicitDefEqProofs only[go_sem,ha,hb,ea,eb]
 refine sQ ?_
 rw[e1]
 refine aM hm (fun(i:Nat)=> i≤c.length) (fun(i:Nat)=> ⟨dH 47 .any [(0,.acc 0),(7,iv f),(8,iv t),(9,iv i)],[some (.acc 3 (bP (fQ c f t i)))]⟩) (fun(i:Nat)=> c.length-i) (0) ?_ (ar [some 0] ?_ ?_ rfl rfl) ?_
 rotate_left
 ·exact sC
 ·refine sA ?_
  all_goals((simp[fQ]))
 rotate_left
 ·omega
 ·rintro i hi
  have hjl:=rS c f t i
  rcases aa (i<c.length) with h1|h1
  ·have h1':i<(fQ c f t i).length:=by omega
   have eg:=rK (f:=f) (t:=t) h1 h1'
   rcases aa (c[i]=f) with h2|h2
   ·have k2:(c[i]=f)=True:=eq_true (by omega)
    have hp:=uQ (l:=fQ c f t i) (i:=i) (n:=t) h1'
    have hn:=qn (f:=f) (t:=t) h1
    rw[if_pos h2] at hn
    rw[pw h1',eg] at hp
    simp -implicitDefEqProofs only[go_sem,hjl,h1,eg,k2]
    refine sQ ?_
    refine⟨i+1,?_,sL,ar [some 0] ?_ ?_ rfl rfl⟩
    rotate_left
    ·exact sC
    ·refine sA ?_
     all_goals((rw[hp,hn]))
    exact h1
   ·have k2:¬c[i]=f:=by omega
    have hn:=s8 (f:=f) (t:=t) h1 h2
    simp -implicitDefEqProofs only[go_sem,hjl,h1,eg,k2]
    refine sQ ?_
    refine⟨i+1,?_,sL,ar [some 0] ?_ ?_ rfl rfl⟩
    rotate_left
    ·exact sC
    ·refine sA ?_
     all_goals((rw[hn]))
    exact h1
  ·rw[hend i (by omega)] at hjl⊢
   simp -implicitDefEqProofs only[go_sem,hjl,h1]
   refine bZ [some 0] ?_ rfl rfl
   exact sC
theorem GD(ae:List Term)(c:List Nat)(a b:Nat)(hk:gU ae)(ha:a<ae.length)(hb:b<ae.length)(hc:c.length=ae.length)(o6:ae.length≤1000)(hk9:∀t∈ae,t.kids.length≤1000):C E.P 244 [lv (aN ae),lv (bP c),iv a,iv b] [] (bD (bv (alike ae c a b)) []):=by
 have e1:ae.getD a aL=ae[a]:=by rw[ay,af ha];rfl
 have e2:ae.getD b aL=ae[b]:=by rw[ay,af hb];rfl
 have ka:=hk _ (ak ha)
 have la:=hk9 _ (ak ha)
 have kb:=hk _ (ak hb)
 have e:alike ae c a b=(decide (0<ae[a].kids.length)&&(decide (ae[a].name=ae[b].name)&&lM ae c ae[a].kids ae[b].kids)):=by rw[alike,e1,e2]
 refine gS (nt:=68) (rs:=[.tmp 8]) hm Tryz.func244 fun hl he cq=>?_
 simp -implicitDefEqProofs only[go_sem,ha,hb]
 obtain⟨x,hx⟩:∃x,ae[a]=x:=⟨_,rfl⟩
 obtain⟨y,hy⟩:∃y,ae[b]=y:=⟨_,rfl⟩
 rw[hx] at e ka la
 rw[hy] at e kb
 rcases aa (x.name=y.name) with h1|h1
 ·rcases aa (x.kids.length=y.kids.length) with h2|h2
  ·have k1:=eq_true h1
   rcases aa ((y.kids.length:Int)=0) with h3|h3
   ·have k3:=eq_true h3
    have h3':¬0<x.kids.length:=by omega
    simp -implicitDefEqProofs only[go_sem,hx,hy,k1,h2,k3]
    refine an ?_
    refine sA ?_
    all_goals(simp[e,h3'];done)
   ·have h3':0<x.kids.length:=by omega
    rw[decide_eq_true h3',decide_eq_true h1,aE,aE] at e
    simp -implicitDefEqProofs only[go_sem,hx,hy,k1,h2,h3]
    refine aM hm (fun(i:Nat)=> i≤y.kids.length∧alike ae c a b=lM ae c (x.kids.drop i) (y.kids.drop i)) (fun(i:Nat)=> ⟨dH 68 .any [(0,lv (aN ae)),(1,lv (bP c)),(9,.ptr 0 0),(10,.ptr 1 0),(11,iv i)],[some (.box (cF (cT x))),some (.box (cF (cT y)))]⟩) (fun(i:Nat)=> y.kids.length-i) (0) ?_ (ar [some 0,some 1] ?_ ?_ rfl rfl) ?_
    rotate_left
    ·exact sC
    ·exact sC
    rotate_left
    ·exact⟨bc _,e⟩
    ·rintro i ⟨hi,hg⟩
     rcases aa (i<y.kids.length) with h4|h4
     ·have h5:i<x.kids.length:=by omega
      have mx:=ka _ (ak h5)
      have my:=kb _ (ak h4)
      have px:=bz mx
      have py:=bz my
      have cx:=b9 mx
      have cy:=b9 my
      have px':aH ae x.kids[i]<c.length:=by omega
      have py':aH ae y.kids[i]<c.length:=by omega
      have ex:c[aH ae x.kids[i]]=cl c (aH ae x.kids[i]):=(gQ px').symm
      have ey:c[aH ae y.kids[i]]=cl c (aH ae y.kids[i]):=(gQ py').symm
      rw[Dz h5 h4] at hg
      have es:Ke ae c x.kids[i] y.kids[i]=decide (cl c (aH ae x.kids[i])=cl c (aH ae y.kids[i])):=rfl
      rw[es] at hg
      simp -implicitDefEqProofs only[go_sem,h2,h4]
      refine bp [] (cV ae x.kids[i]) ?_ ?_<;>simp -implicitDefEqProofs only[go_sem,cx,px',ex,h4]
      refine bp [] (cV ae y.kids[i]) ?_ ?_<;>simp -implicitDefEqProofs only[go_sem,cy,py',ey]
      refine iK ?_
      rcases aa (cl c (aH ae x.kids[i])=cl c (aH ae y.kids[i])) with h6|h6
      ·have k6:(cl c (aH ae x.kids[i])=cl c (aH ae y.kids[i]))=True:=eq_true (by omega)
       rw[decide_eq_true h6,aE] at hg
       simp -implicitDefEqProofs only[go_sem,k6]
       refine sQ ?_
       refine⟨i+1,?_,sL,ar [some 0,some 1] ?_ ?_ rfl rfl⟩
       rotate_left
       ·exact sC
       ·exact sC
       exact⟨by omega,hg⟩
      ·have k6:¬cl c (aH ae x.kids[i])=cl c (aH ae y.kids[i]):=by omega
       rw[decide_eq_false h6,aK] at hg
       simp -implicitDefEqProofs only[go_sem,k6]
       refine an ?_
       refine sA ?_
       all_goals(simp[hg];done)
     ·rw[al (by omega),al (by omega),Gx] at hg
      simp -implicitDefEqProofs only[go_sem,h2,h4]
      refine an ?_
      refine sA ?_
      all_goals(simp[hg];done)
  ·have k1:=eq_true h1
   have k2:¬x.kids.length=y.kids.length:=by omega
   have e3:alike ae c a b=false:=by rw[e,Ar h2];simp
   simp -implicitDefEqProofs only[go_sem,hx,hy,k1,k2]
   refine an ?_
   refine sA ?_
   all_goals(simp[e3];done)
 ·have k1:=eq_false h1
  simp -implicitDefEqProofs only[go_sem,hx,hy,k1]
  refine an ?_
  refine sA ?_
  all_goals(simp[e,h1];done)
theorem zt(ae:List Term)(c:List Nat)(hk:gU ae)(hc:c.length=ae.length)(o6:ae.length≤1000)(hk9:∀t∈ae,t.kids.length≤1000):C E.P 198 [lv (aN ae),lv (bP c)] [] (bD (.gV [iv (((fK ae c).getD (0,0)).1:Nat),iv (((fK ae c).getD (0,0)).2:Nat),bv (fK ae c).isSome]) []):=by
 refine gS (nt:=38) (rs:=[.tmp 4,.tmp 5,.tmp 6]) hm Tryz.func198 fun hl he cq=>?_
 refine aM hm (fun(l:Nat)=> l≤ae.length∧fK ae c=(jG l ae.length).find? (fun p=>m8 ae c p.1 p.2)) (fun(l:Nat)=> ⟨dH 38 .any [(0,lv (aN ae)),(1,lv (bP c)),(7,iv l)],[]⟩) (fun(l:Nat)=> ae.length-l) (0) ?_ (ar [] ?_ ?_ rfl rfl) ?_
 rotate_left
 ·exact sC
 ·exact sC
 rotate_left
 ·exact⟨bc _,rfl⟩
 ·rintro l ⟨hi,hg⟩
  rcases aa (l<ae.length) with h1|h1
  ·rw[xq h1] at hg
   refine uA ?_
   refine aM hm (fun(e:Nat)=> e≤l∧fK ae c=(qp e l ae.length).find? (fun p=>m8 ae c p.1 p.2)) (fun(e:Nat)=> ⟨dH 38 .any [(0,lv (aN ae)),(1,lv (bP c)),(7,iv l),(8,iv e)],[]⟩) (fun(e:Nat)=> l-e) (0) ?_ (ar [] ?_ ?_ rfl rfl) ?_
   rotate_left
   ·exact sC
   ·exact sC
   rotate_left
   ·exact⟨bc _,hg⟩
   ·rintro e ⟨he,hg⟩
    rcases aa (e<l) with h2|h2
    ·have h2':=h2
     have pe:e<c.length:=by omega
     have pl:l<c.length:=by omega
     have ee:c[e]=cl c e:=(gQ pe).symm
     have el:c[l]=cl c l:=(gQ pl).symm
     rw[zL h2,List.find?_cons] at hg
     have em:m8 ae c e l=(decide (cl c e≠cl c l)&&alike ae c e l):=rfl
     simp only[em] at hg
     rcases aa (cl c l=cl c e) with h3|h3
     ·have k3:(cl c l=cl c e)=True:=eq_true (by omega)
      rw[decide_eq_false (by omega:¬cl c e≠cl c l),aK] at hg
      simp -implicitDefEqProofs only[go_sem,h2',pe,pl,ee,el,k3]
      refine iK ?_
      refine sQ ?_
      refine⟨e+1,?_,sL,ar [] ?_ ?_ rfl rfl⟩
      rotate_left
      ·exact sC
      ·exact sC
      exact⟨by omega,hg⟩
     ·have k3:¬cl c l=cl c e:=by omega
      rw[decide_eq_true (by omega:cl c e≠cl c l),aE] at hg
      simp -implicitDefEqProofs only[go_sem,h2',pe,pl,ee,el,k3]
      refine aC [] (GD ae c e l hk (by omega) h1 hc o6 hk9) ?_
      refine iK ?_
      cases h4:alike ae c e l
      ·rw[h4] at hg
       refine sA ?_
       refine sQ ?_
       refine⟨e+1,?_,sL,ar [] ?_ ?_ rfl rfl⟩
       rotate_left
       ·exact sC
       ·exact sC
       exact⟨by omega,hg⟩
      ·rw[h4] at hg
       simp only at hg
       refine sA ?_
       refine an ?_
       refine sA ?_
       rw[hg]
       ((repeat' apply au)<;>rfl)
    ·have h2':=h2
     rw[Ck (by omega)] at hg
     simp -implicitDefEqProofs only[go_sem,h2']
     refine sQ ?_
     refine⟨l+1,?_,sL,ar [] ?_ ?_ rfl rfl⟩
     rotate_left
     ·exact sC
     ·exact sC
     exact⟨by omega,hg⟩
  ·rw[zc (by omega),List.find?_nil] at hg
   refine uA ?_
   refine an ?_
   refine sA ?_
   rw[hg]
   ((repeat' apply au)<;>rfl)
set_option maxHeartbeats 3200000
theorem OY(a:ju):eL [a]=[gR a]:=by rw[j9,lz]
theorem NR(a b:ju):eL [a,b]=[gR a,gR b]:=by rw[j9,j9,lz]
theorem VV(w s:ju):eL [w,.mk 3 0 aL [s]]=[gR w,[.val (.int .i64 3),.val (.int .i64 0),.str [],.dC [],.dC [gR s]]]:=by
 have e:gR (.mk 3 0 aL [s])=[.val (.int .i64 3),.val (.int .i64 0),.str [],.dC [],.dC (eL [s])]:=rfl
 rw[NR,e,OY]
theorem Bs(ae:List Term)(eqs:List fF)(hk:gU ae)(kF:∀e∈eqs,e.A∈ae∧e.B∈ae)(o6:ae.length≤1000)(hk9:∀t∈ae,t.kids.length≤1000)(he9:eqs.length≤1000) :
 C E.P 127 [lv (aN ae),lv (cS eqs)] [] (bD (.gV [lv (aZ (closed ae eqs).2),lv (bP (closed ae eqs).1)]) []):=by
 refine gS (nt:=94) (rs:=[.tmp 4,.tmp 5]) hm Tryz.func127 fun hl he cq=>?_
 refine aM hm (fun(i:Nat)=> i≤ae.length) (fun(i:Nat)=> ⟨dH 94 .any [(0,lv (aN ae)),(1,lv (cS eqs)),(6,.acc 0),(7,.acc 1),(8,iv i)],[some (.acc 3 (bP (bu i))),some (.acc 220 (aZ []))]⟩) (fun(i:Nat)=> ae.length-i) (0) ?_ (ar [some 0,some 1] ?_ ?_ rfl rfl) ?_
 rotate_left
 ·exact sC
 ·refine sA ?_
  all_goals(rfl)
 rotate_left
 ·omega
 ·rintro i hi
  have hrl:(bu i).length=i:=List.length_range
  rcases aa (i<ae.length) with h1|h1
  ·refine uA ?_
   refine sQ ?_
   refine⟨i+1,?_,sL,ar [some 2,some 1] ?_ ?_ rfl rfl⟩
   rotate_left
   ·exact sC
   ·refine sA ?_
    all_goals((rw[←l9];rfl))
   exact h1
  ·obtain rfl:i=ae.length:=by omega
   refine uA ?_
   clear hi h1
   refine kS hm (fun(n:Nat) (c:List Nat) (aj:List Step)=> n≤eqs.length∧c.length=ae.length∧(∀x∈c,x≤1000)∧aj.length≤n∧given ae eqs=jd ae n (eqs.drop n) c aj) (fun(n:Nat) (c:List Nat) (aj:List Step)=> ⟨dH 94 .any [(0,lv (aN ae)),(1,lv (cS eqs)),(6,.acc 0),(7,.acc 1),(9,iv n)],[some (.acc 3 (bP c)),some (.acc 220 (aZ aj))]⟩) (fun(n:Nat) (c:List Nat) (aj:List Step)=> eqs.length-n) (0) (bu ae.length) ([]) ?_ (ar [some 0,some 1] ?_ ?_ rfl rfl) ?_
   rotate_left
   ·exact sC
   ·exact sC
   rotate_left
   ·exact⟨bc _,hrl,fun x hx=>by have:=List.mem_range.1 hx;omega,aJ _,rfl⟩
   ·rintro n c aj ⟨hn,hc,hm9,hs,hg⟩
    rcases aa (n<eqs.length) with h1|h1
    ·obtain⟨mA,mB⟩:=kF _ (ak h1)
     have pA:=bz mA
     have pB:=bz mB
     have cA:=b9 mA
     have cB:=b9 mB
     have pA':aH ae eqs[n].A<c.length:=by omega
     have pB':aH ae eqs[n].B<c.length:=by omega
     have eA:c[aH ae eqs[n].A]=cl c (aH ae eqs[n].A):=(gQ pA').symm
     have eB:c[aH ae eqs[n].B]=cl c (aH ae eqs[n].B):=(gQ pB').symm
     have hj1:=fP c (aH ae eqs[n].A) (aH ae eqs[n].B)
     have hj2:=xx (a:=aH ae eqs[n].A) (b:=aH ae eqs[n].B) hm9
     have cj:=tW c (aH ae eqs[n].A) (aH ae eqs[n].B) pA' pB' (by omega) hm9
     rw[ah h1,jd] at hg
     refine uA ?_
     refine bp [] (cV ae eqs[n].A) ?_ ?_<;>simp -implicitDefEqProofs only[go_sem,h1]
     refine aC [] (cV ae eqs[n].B) ?_
     refine sQ ?_
     rw[cA,cB]
     generalize aH ae eqs[n].A=a at *
     generalize aH ae eqs[n].B=b at *
     rcases aa (cl c a=cl c b) with h2|h2
     ·have k2:(cl c a=cl c b)=True:=eq_true (by omega)
      rw[if_pos h2] at hg
      simp -implicitDefEqProofs only[go_sem,pA',pB',eA,eB,k2]
      refine iK ?_
      refine sQ ?_
      refine⟨n+1,c,aj,?_,sL,ar [some 0,some 1] ?_ ?_ rfl rfl⟩
      rotate_left
      ·exact sC
      ·exact sC
      exact⟨by omega,hc,hm9,by omega,hg⟩
     ·have k2:¬cl c a=cl c b:=by omega
      rw[if_neg h2] at hg
      simp -implicitDefEqProofs only[go_sem,pA',pB',eA,eB,k2]
      refine iK ?_
      refine sQ ?_
      refine oC [] [0] cj ?_
      refine sQ ?_
      refine⟨n+1,gj c a b,aj++[⟨a,b,n⟩],?_,sL,ar [some 0,some 2] ?_ ?_ rfl rfl⟩
      rotate_left
      ·exact sC
      ·refine sA ?_
       all_goals((rw[←vm,tL,ru];rfl))
      exact⟨by omega,by omega,hj2,by simp;omega,hg⟩
    ·rw[al (by omega),jd] at hg
     have hcl:closed ae eqs=kf ae c.sum c aj:=by rw[closed,hg]
     have hsum:=pJ hm9
     have hsum2:c.length*1000≤1000*1000:=Nat.mul_le_mul_right _ (by omega)
     refine uA ?_
     refine dQ [] [0] (zt ae c hk hc o6 hk9) rfl ?_ ?_ ?_
     ·exact sV
     all_goals simp -implicitDefEqProofs only[go_sem]
     refine kS hm (fun(f:Nat) (c:List Nat) (aj:List Step)=> c.length=ae.length∧(∀x∈c,x≤1000)∧c.sum≤f∧aj.length+f≤2000000∧closed ae eqs=kf ae f c aj) (fun(f:Nat) (c:List Nat) (aj:List Step)=> ⟨dH 94 .any [(0,lv (aN ae)),(6,.acc 0),(7,.acc 1),(12,iv (((fK ae c).getD (0,0)).1:Nat)),(13,iv (((fK ae c).getD (0,0)).2:Nat)),(14,bv (fK ae c).isSome)],[some (.acc 3 (bP c)),some (.acc 220 (aZ aj))]⟩) (fun(f:Nat) (c:List Nat) (aj:List Step)=> f) (c.sum) (c) (aj) ?_ (ar [some 0,some 1] ?_ ?_ rfl rfl) ?_
     rotate_left
     ·exact sC
     ·exact sC
     rotate_left
     ·exact⟨hc,hm9,aJ _,by omega,hcl⟩
     ·clear hcl hsum hsum2 hg h1 hn hc hm9 hs
      rintro f c aj ⟨hc,hm9,hf,hs,hg⟩
      cases hp:fK ae c with
      | none=>
        rw[wi hp] at hg
        refine uK ?_
        refine an ?_
        refine sA ?_
        rw[hg]
        ((repeat' apply au)<;>rfl)
      | some p=>
        obtain⟨f',rfl,hg2,hf2⟩:=vr (aj:=aj) hf hc hp
        obtain⟨p1,p2,p3,p4⟩:=qf hp
        rw[hg2] at hg
        have hj1:=fP c p.1 p.2
        have hj2:=xx (a:=p.1) (b:=p.2) hm9
        have cj:=tW c p.1 p.2 (by omega) (by omega) (by omega) hm9
        have cn:=zt ae (gj c p.1 p.2) hk (by omega) o6 hk9
        obtain⟨a,b⟩:=p
        simp only at hg hg2 hf2 p1 p2 hj1 hj2 cj cn
        refine uL ?_
        refine sQ ?_
        refine oC [] [0] cj ?_
        refine dQ [] [0] cn rfl ?_ ?_ ?_
        ·exact sV
        all_goals simp -implicitDefEqProofs only[go_sem]
        refine⟨f',gj c a b,aj++[⟨a,b,-1⟩],?_,sL,ar [some 0,some 2] ?_ ?_ rfl rfl⟩
        rotate_left
        ·exact sC
        ·refine sA ?_
         all_goals((rw[←vm,tL,ru];rfl))
        exact⟨by omega,hj2,hf2,by simp;omega,hg⟩
theorem kj(l:List Nat)(n:Nat):C E.P 245 [lv (bP l),iv n] [] (bD (bv (decide (n∈l))) []):=by
 refine gS (nt:=18) (rs:=[.tmp 4]) hm Tryz.func245 fun hl he cq=>?_
 refine aM hm (fun(i:Nat)=> i≤l.length∧decide (n∈l)=decide (n∈l.drop i)) (fun(i:Nat)=> ⟨dH 18 .any [(0,lv (bP l)),(1,iv n),(5,iv i)],[]⟩) (fun(i:Nat)=> l.length-i) (0) ?_ (ar [] ?_ ?_ rfl rfl) ?_
 rotate_left
 ·exact sC
 ·exact sC
 rotate_left
 ·simp
 ·rintro i ⟨hi,hg⟩
  rcases aa (i<l.length) with h1|h1
  ·rw[ah h1] at hg
   rcases aa (l[i]=n) with h2|h2
   ·have k2:(l[i]=n)=True:=eq_true (by omega)
    have hg:decide (n∈l)=true:=by rw[hg];simp[h2]
    simp -implicitDefEqProofs only[go_sem,h1,k2]
    refine an ?_
    refine sA ?_
    all_goals(simp[hg];done)
   ·have k2:¬l[i]=n:=by omega
    have hg:decide (n∈l)=decide (n∈l.drop (i+1)):=by
     rw[hg]
     refine decide_eq_decide.2 ⟨fun h=>?_,fun h=>List.mem_cons_of_mem _ h⟩
     rcases ax.1 h with h|h
     ·exact absurd h.symm h2
     ·exact h
    simp -implicitDefEqProofs only[go_sem,h1,k2]
    refine sQ ?_
    refine⟨i+1,?_,sL,ar [] ?_ ?_ rfl rfl⟩
    rotate_left
    ·exact sC
    ·exact sC
    exact⟨by omega,hg⟩
  ·rw[al (by omega)] at hg
   have hg:decide (n∈l)=false:=by rw[hg];simp
   refine uA ?_
   refine an ?_
   refine sA ?_
   all_goals(simp[hg];done)
theorem LK(aj:List Step)(N n to:Nat)(hv:∀s∈aj,0≤s.A∧s.A.toNat<N∧0≤s.B∧s.B.toNat<N)(hn:n≤aj.length)(hN:N≤1000)(hs9:aj.length≤2000000):∀(f:Nat),f≤2000→∀(v:Nat)(eh:List Nat),eh.Nodup→(∀x∈eh,x<N)→N+1≤f+eh.length →
 C E.P 199 [lv (aZ aj),iv n,iv v,iv to,lv (bP eh)] [] (bD (.gV [lv (bI (((ud aj n to f v eh).getD []).map uZ)),bv (ud aj n to f v eh).isSome]) []):=by
 intro f
 induction f with
 | zero=>
   intro _ v eh h1 h2 h3
   have:=kd h1 h2
   omega
 | succ f ih=>
 intro hf9 v eh h1 h2 h3
 have dz:=kd h1 h2
 have hway:¬v=to→ud aj n to (f+1) v eh=vt (ud aj n to f) aj v eh (dV 0 (n-0)):=fun h=>by
  rw[ud,if_neg h,List.range_eq_range']
  rfl
 have cq:=jZ
 refine Eh (nt:=80) (rs:=[.tmp 10,.tmp 11]) Tryz.func199 rfl rfl rfl rfl rfl (fun hl he=>?_)
 simp -implicitDefEqProofs only[go_sem] at hl⊢
 refine gz hm ?_
 rcases aa (v=to) with h0|h0
 ·have k0:(v=to)=True:=eq_true (by omega)
  have hw0:ud aj n to (f+1) v eh=some []:=by rw[ud,if_pos h0]
  simp -implicitDefEqProofs only[go_sem,k0,de]
  refine dR ?_
  refine an ?_
  refine sA ?_
  rw[hw0]
  ((repeat' apply au)<;>rfl)
 ·have k0:¬v=to:=by omega
  refine uH ?_
  refine TJ (fun(i:Nat)=> i≤n∧ud aj n to (f+1) v eh=vt (ud aj n to f) aj v eh (dV i (n-i))) (fun(i:Nat)=> ⟨dH 80 .any [(0,lv (aZ aj)),(1,iv n),(2,iv v),(3,iv to),(4,lv (bP eh)),(12,iv i)],[]⟩) (fun(i:Nat)=> n-i) (0) ?_ (ar [] ?_ ?_ rfl rfl) ?_
  rotate_left
  ·exact sC
  ·exact sC
  rotate_left
  ·exact⟨bc _,hway h0⟩
  ·rintro i ⟨hi,hg⟩
   rcases aa (i<n) with kF|kF
   ·have hi2:i<aj.length:=by omega
    obtain⟨a0,a1,b0,b1⟩:=hv _ (ak hi2)
    have eqA:vA aj i=aj[i].A.toNat:=by rw[vA,r7 hi2]
    have eqB:vB aj i=aj[i].B.toNat:=by rw[vB,r7 hi2]
    have eA:aj[i].A=(vA aj i:Int):=by omega
    have eB:aj[i].B=(vB aj i:Int):=by omega
    rw[SI kF] at hg
    rcases aa (vB aj i=v) with hB|hB
    ·have kB:(vB aj i=v)=True:=eq_true (by omega)
     have en:pG aj v i=some ⟨i,true⟩:=by rw[pG,if_pos hB]
     have ee:ix aj ⟨i,true⟩=vA aj i:=rfl
     rw[en] at hg
     simp only[ee] at hg
     have hw1:vA aj i<N:=by omega
     rcases aa (vA aj i=v) with hA|hA
     ·have kA:(vA aj i=v)=True:=eq_true (by omega)
      generalize hw:vA aj i=w at hg hw1 eA kA
      rw[hw] at eqA
      have hnn:¬ (w:Int)<0:=by omega
      have hsa:(∀y∈bP eh,y.length=1)∧eh.length≤LB∧eh.length*8≤140737488355328:=⟨CE _,by omega,by omega⟩
      rcases aa (w∈eh) with h5|h5
      ·have k5:=decide_eq_true h5
       rw[if_pos h5] at hg
       refine gz hm ?_
       simp -implicitDefEqProofs only[go_sem,kF,kA,hi2,eA,eB,kB]
       refine sQ ?_
       refine bp [] (kj eh w) ?_ ?_<;>simp -implicitDefEqProofs only[go_sem,hnn]
       simp -implicitDefEqProofs only[go_sem,k5,de]
       refine sQ ?_
       refine⟨i+1,?_,sL,ar [] ?_ ?_ rfl rfl⟩
       rotate_left
       ·exact sC
       ·exact sC
       exact⟨by omega,hg⟩
      ·have k5:=decide_eq_false h5
       rw[if_neg h5] at hg
       have hnd:(eh++[w]).Nodup:=dt.2 ⟨h1,by simp,fun x hx y hy e1=>by
        simp only[ax,ba,or_false] at hy
        rw[e1,hy] at hx
        exact h5 hx⟩
       have lQ:∀x∈eh++[w],x<N:=fun x hx=>by
        rcases aP.1 hx with hx|hx
        ·exact h2 x hx
        ·simp only[ax,ba,or_false] at hx
         omega
       have hc:=ih (by omega) w (eh++[w]) hnd lQ (by simp;omega)
       rw[←l9,show bP [w]=[[.val (.int .i64 (w:Int))]] from rfl] at hc
       cases hr:ud aj n to f w (eh++[w]) with
       | none=>
         rw[hr] at hg hc
         simp only at hg
         refine gz hm ?_
         simp -implicitDefEqProofs only[go_sem,kF,kA,hi2,eA,eB,kB]
         refine sQ ?_
         refine bp [] (kj eh w) ?_ ?_<;>simp -implicitDefEqProofs only[go_sem,hnn]
         simp -implicitDefEqProofs only[go_sem,k5]
         refine sQ ?_
         refine oC [] [2] (vd (e:=3) (args:=[lv (aZ aj),iv n,iv w,iv to,.acc 0]) (iR.cons (Vw.same rfl) (iR.cons (Vw.same rfl) (iR.cons (Vw.same rfl) (iR.cons (Vw.same rfl) (iR.cons (Vw.acc rfl rfl) iR.nil))))) rfl hc) ?_
         simp -implicitDefEqProofs only[go_sem,bE,cf,de]
         refine sQ ?_
         refine⟨i+1,?_,sL,ar [] ?_ ?_ rfl rfl⟩
         rotate_left
         ·exact sC
         ·exact sC
         exact⟨by omega,hg⟩
       | some r=>
         rw[hr] at hg hc
         simp only[aY,aX] at hg hc
         have hrl:=B3 hr
         have jl:(∀y∈bI (r.map uZ),y.length=1)∧1+r.length≤LB∧(1+r.length)*8≤140737488355328:=⟨pW _,by omega,by omega⟩
         refine eG (gz hm ?_)
         simp -implicitDefEqProofs only[go_sem,kF,de,dq]
         refine eG (Fg ?_)
         refine eG (gz hm ?_)
         simp -implicitDefEqProofs only[go_sem,de,dq]
         refine eG (gz hm ?_)
         simp -implicitDefEqProofs only[go_sem,de,dq]
         refine eG (gz hm ?_)
         simp -implicitDefEqProofs only[go_sem,hi2,eA,eB,kA,de,dq]
         refine eG (gz hm ?_)
         simp -implicitDefEqProofs only[go_sem,hi2,eA,eB,kB,de,dq]
         refine sQ ?_
         refine eG (gz hm ?_)
         simp -implicitDefEqProofs only[go_sem,hnn]
         refine aC [] (kj eh w) ?_
         simp -implicitDefEqProofs only[go_sem,k5,de,dq]
         refine eG (gz hm ?_)
         refine sA ?_
         refine sQ ?_
         refine oC [] [2] (vd (e:=3) (args:=[lv (aZ aj),iv n,iv w,iv to,.acc 0]) (iR.cons (Vw.same rfl) (iR.cons (Vw.same rfl) (iR.cons (Vw.same rfl) (iR.cons (Vw.same rfl) (iR.cons (Vw.acc rfl rfl) iR.nil))))) rfl hc) ?_
         refine eG (gz hm ?_)
         simp -implicitDefEqProofs only[go_sem,de,dq]
         refine LW (b:=true) rfl (fun _=>?_) (fun h=>by cases h)
         refine eG (oU ?_)
         refine ji rfl (fA ?_)
         refine sA ?_
         refine ji rfl (fu (pI 38 3 1 3 _ _ _ [[.val (.int .i64 (-1-(i:Int)))]] rfl rfl rfl rfl rfl (by simp -implicitDefEqProofs only[go_sem]) rfl (by decide) rfl) ?_)
         refine sA ?_
         refine ji rfl (fA ?_)
         refine sA ?_
         refine ji rfl (fA ?_)
         refine sA ?_
         refine sQ ?_
         refine ji rfl (fA ?_)
         refine sA ?_
         refine ji rfl (fA ?_)
         refine sA ?_
         refine vk ?_
         simp -implicitDefEqProofs only[go_sem,dq]
         refine Ss ?_
         simp only[Dg,vW,qS]
         refine sA ?_
         refine dR ?_
         refine an ?_
         refine sA ?_
         rw[hg]
         ((repeat' apply au)<;>rfl)
     ·have kA:¬vA aj i=v:=by omega
      generalize hw:vA aj i=w at hg hw1 eA kA
      rw[hw] at eqA
      have hnn:¬ (w:Int)<0:=by omega
      have hsa:(∀y∈bP eh,y.length=1)∧eh.length≤LB∧eh.length*8≤140737488355328:=⟨CE _,by omega,by omega⟩
      rcases aa (w∈eh) with h5|h5
      ·have k5:=decide_eq_true h5
       rw[if_pos h5] at hg
       refine gz hm ?_
       simp -implicitDefEqProofs only[go_sem,kF,kA,hi2,eA,eB,kB]
       refine sQ ?_
       refine bp [] (kj eh w) ?_ ?_<;>simp -implicitDefEqProofs only[go_sem,hnn]
       simp -implicitDefEqProofs only[go_sem,k5,de]
       refine sQ ?_
       refine⟨i+1,?_,sL,ar [] ?_ ?_ rfl rfl⟩
       rotate_left
       ·exact sC
       ·exact sC
       exact⟨by omega,hg⟩
      ·have k5:=decide_eq_false h5
       rw[if_neg h5] at hg
       have hnd:(eh++[w]).Nodup:=dt.2 ⟨h1,by simp,fun x hx y hy e1=>by
        simp only[ax,ba,or_false] at hy
        rw[e1,hy] at hx
        exact h5 hx⟩
       have lQ:∀x∈eh++[w],x<N:=fun x hx=>by
        rcases aP.1 hx with hx|hx
        ·exact h2 x hx
        ·simp only[ax,ba,or_false] at hx
         omega
       have hc:=ih (by omega) w (eh++[w]) hnd lQ (by simp;omega)
       rw[←l9,show bP [w]=[[.val (.int .i64 (w:Int))]] from rfl] at hc
       cases hr:ud aj n to f w (eh++[w]) with
       | none=>
         rw[hr] at hg hc
         simp only at hg
         refine gz hm ?_
         simp -implicitDefEqProofs only[go_sem,kF,kA,hi2,eA,eB,kB]
         refine sQ ?_
         refine bp [] (kj eh w) ?_ ?_<;>simp -implicitDefEqProofs only[go_sem,hnn]
         simp -implicitDefEqProofs only[go_sem,k5]
         refine sQ ?_
         refine oC [] [2] (vd (e:=3) (args:=[lv (aZ aj),iv n,iv w,iv to,.acc 0]) (iR.cons (Vw.same rfl) (iR.cons (Vw.same rfl) (iR.cons (Vw.same rfl) (iR.cons (Vw.same rfl) (iR.cons (Vw.acc rfl rfl) iR.nil))))) rfl hc) ?_
         simp -implicitDefEqProofs only[go_sem,bE,cf,de]
         refine sQ ?_
         refine⟨i+1,?_,sL,ar [] ?_ ?_ rfl rfl⟩
         rotate_left
         ·exact sC
         ·exact sC
         exact⟨by omega,hg⟩
       | some r=>
         rw[hr] at hg hc
         simp only[aY,aX] at hg hc
         have hrl:=B3 hr
         have jl:(∀y∈bI (r.map uZ),y.length=1)∧1+r.length≤LB∧(1+r.length)*8≤140737488355328:=⟨pW _,by omega,by omega⟩
         refine eG (gz hm ?_)
         simp -implicitDefEqProofs only[go_sem,kF,de,dq]
         refine eG (Fg ?_)
         refine eG (gz hm ?_)
         simp -implicitDefEqProofs only[go_sem,de,dq]
         refine eG (gz hm ?_)
         simp -implicitDefEqProofs only[go_sem,de,dq]
         refine eG (gz hm ?_)
         simp -implicitDefEqProofs only[go_sem,hi2,eA,eB,kA,de,dq]
         refine eG (gz hm ?_)
         simp -implicitDefEqProofs only[go_sem,hi2,eA,eB,kB,de,dq]
         refine sQ ?_
         refine eG (gz hm ?_)
         simp -implicitDefEqProofs only[go_sem,hnn]
         refine aC [] (kj eh w) ?_
         simp -implicitDefEqProofs only[go_sem,k5,de,dq]
         refine eG (gz hm ?_)
         refine sA ?_
         refine sQ ?_
         refine oC [] [2] (vd (e:=3) (args:=[lv (aZ aj),iv n,iv w,iv to,.acc 0]) (iR.cons (Vw.same rfl) (iR.cons (Vw.same rfl) (iR.cons (Vw.same rfl) (iR.cons (Vw.same rfl) (iR.cons (Vw.acc rfl rfl) iR.nil))))) rfl hc) ?_
         refine eG (gz hm ?_)
         simp -implicitDefEqProofs only[go_sem,de,dq]
         refine LW (b:=true) rfl (fun _=>?_) (fun h=>by cases h)
         refine eG (oU ?_)
         refine ji rfl (fA ?_)
         refine sA ?_
         refine ji rfl (fu (pI 38 3 1 3 _ _ _ [[.val (.int .i64 (-1-(i:Int)))]] rfl rfl rfl rfl rfl (by simp -implicitDefEqProofs only[go_sem]) rfl (by decide) rfl) ?_)
         refine sA ?_
         refine ji rfl (fA ?_)
         refine sA ?_
         refine ji rfl (fA ?_)
         refine sA ?_
         refine sQ ?_
         refine ji rfl (fA ?_)
         refine sA ?_
         refine ji rfl (fA ?_)
         refine sA ?_
         refine vk ?_
         simp -implicitDefEqProofs only[go_sem,dq]
         refine Ss ?_
         simp only[Dg,vW,qS]
         refine sA ?_
         refine dR ?_
         refine an ?_
         refine sA ?_
         rw[hg]
         ((repeat' apply au)<;>rfl)
    ·have kB:¬vB aj i=v:=by omega
     rcases aa (vA aj i=v) with hA|hA
     ·have kA:(vA aj i=v)=True:=eq_true (by omega)
      have en:pG aj v i=some ⟨i,false⟩:=by rw[pG,if_neg hB,if_pos hA]
      have ee:ix aj ⟨i,false⟩=vB aj i:=rfl
      rw[en] at hg
      simp only[ee] at hg
      have hw1:vB aj i<N:=by omega
      generalize hw:vB aj i=w at hg hw1 eB kB
      rw[hw] at eqB
      have hnn:¬ (w:Int)<0:=by omega
      have hsa:(∀y∈bP eh,y.length=1)∧eh.length≤LB∧eh.length*8≤140737488355328:=⟨CE _,by omega,by omega⟩
      rcases aa (w∈eh) with h5|h5
      ·have k5:=decide_eq_true h5
       rw[if_pos h5] at hg
       refine gz hm ?_
       simp -implicitDefEqProofs only[go_sem,kF,kA,hi2,eA,eB,kB]
       refine bp [] (kj eh w) ?_ ?_<;>simp -implicitDefEqProofs only[go_sem,hnn]
       simp -implicitDefEqProofs only[go_sem,k5,de]
       refine sQ ?_
       refine⟨i+1,?_,sL,ar [] ?_ ?_ rfl rfl⟩
       rotate_left
       ·exact sC
       ·exact sC
       exact⟨by omega,hg⟩
      ·have k5:=decide_eq_false h5
       rw[if_neg h5] at hg
       have hnd:(eh++[w]).Nodup:=dt.2 ⟨h1,by simp,fun x hx y hy e1=>by
        simp only[ax,ba,or_false] at hy
        rw[e1,hy] at hx
        exact h5 hx⟩
       have lQ:∀x∈eh++[w],x<N:=fun x hx=>by
        rcases aP.1 hx with hx|hx
        ·exact h2 x hx
        ·simp only[ax,ba,or_false] at hx
         omega
       have hc:=ih (by omega) w (eh++[w]) hnd lQ (by simp;omega)
       rw[←l9,show bP [w]=[[.val (.int .i64 (w:Int))]] from rfl] at hc
       cases hr:ud aj n to f w (eh++[w]) with
       | none=>
         rw[hr] at hg hc
         simp only at hg
         refine gz hm ?_
         simp -implicitDefEqProofs only[go_sem,kF,kA,hi2,eA,eB,kB]
         refine bp [] (kj eh w) ?_ ?_<;>simp -implicitDefEqProofs only[go_sem,hnn]
         simp -implicitDefEqProofs only[go_sem,k5]
         refine sQ ?_
         refine oC [] [2] (vd (e:=3) (args:=[lv (aZ aj),iv n,iv w,iv to,.acc 0]) (iR.cons (Vw.same rfl) (iR.cons (Vw.same rfl) (iR.cons (Vw.same rfl) (iR.cons (Vw.same rfl) (iR.cons (Vw.acc rfl rfl) iR.nil))))) rfl hc) ?_
         simp -implicitDefEqProofs only[go_sem,bE,cf,de]
         refine sQ ?_
         refine⟨i+1,?_,sL,ar [] ?_ ?_ rfl rfl⟩
         rotate_left
         ·exact sC
         ·exact sC
         exact⟨by omega,hg⟩
       | some r=>
         rw[hr] at hg hc
         simp only[aY,aX] at hg hc
         have hrl:=B3 hr
         have jl:(∀y∈bI (r.map uZ),y.length=1)∧1+r.length≤LB∧(1+r.length)*8≤140737488355328:=⟨pW _,by omega,by omega⟩
         refine eG (gz hm ?_)
         simp -implicitDefEqProofs only[go_sem,kF,de,dq]
         refine eG (Fg ?_)
         refine eG (gz hm ?_)
         simp -implicitDefEqProofs only[go_sem,de,dq]
         refine eG (gz hm ?_)
         simp -implicitDefEqProofs only[go_sem,de,dq]
         refine eG (gz hm ?_)
         simp -implicitDefEqProofs only[go_sem,hi2,eA,eB,kA,de,dq]
         refine eG (gz hm ?_)
         simp -implicitDefEqProofs only[go_sem,hi2,eA,eB,kB,de,dq]
         refine eG (gz hm ?_)
         simp -implicitDefEqProofs only[go_sem,hnn]
         refine aC [] (kj eh w) ?_
         simp -implicitDefEqProofs only[go_sem,k5,de,dq]
         refine eG (gz hm ?_)
         refine sA ?_
         refine sQ ?_
         refine oC [] [2] (vd (e:=3) (args:=[lv (aZ aj),iv n,iv w,iv to,.acc 0]) (iR.cons (Vw.same rfl) (iR.cons (Vw.same rfl) (iR.cons (Vw.same rfl) (iR.cons (Vw.same rfl) (iR.cons (Vw.acc rfl rfl) iR.nil))))) rfl hc) ?_
         refine eG (gz hm ?_)
         simp -implicitDefEqProofs only[go_sem,de,dq]
         refine LW (b:=true) rfl (fun _=>?_) (fun h=>by cases h)
         refine eG (oU ?_)
         refine ji rfl (fA ?_)
         refine sA ?_
         refine ji rfl (fu (pI 38 3 1 3 _ _ _ [[.val (.int .i64 ((i:Int)))]] rfl rfl rfl rfl rfl (by simp -implicitDefEqProofs only[go_sem]) rfl (by decide) rfl) ?_)
         refine sA ?_
         refine ji rfl (fA ?_)
         refine sA ?_
         refine ji rfl (fA ?_)
         refine sA ?_
         refine sQ ?_
         refine ji rfl (fA ?_)
         refine sA ?_
         refine ji rfl (fA ?_)
         refine sA ?_
         refine vk ?_
         simp -implicitDefEqProofs only[go_sem,dq]
         refine Ss ?_
         simp only[Dg,vW,qS]
         refine sA ?_
         refine dR ?_
         refine an ?_
         refine sA ?_
         rw[hg]
         ((repeat' apply au)<;>rfl)
     ·have kA:¬vA aj i=v:=by omega
      have en:pG aj v i=none:=by rw[pG,if_neg hB,if_neg hA]
      rw[en] at hg
      simp only at hg
      refine gz hm ?_
      simp -implicitDefEqProofs only[go_sem,Z2,kF,hi2,eA,eB,kA,kB,de]
      refine sQ ?_
      refine⟨i+1,?_,sL,ar [] ?_ ?_ rfl rfl⟩
      rotate_left
      ·exact sC
      ·exact sC
      exact⟨by omega,hg⟩
   ·rw[pE (by omega),vt] at hg
    refine gz hm ?_
    simp -implicitDefEqProofs only[go_sem,kF,de]
    refine dR ?_
    refine an ?_
    refine sA ?_
    rw[hg]
    ((repeat' apply au)<;>rfl)
section
variable(ae:List Term)(eqs:List fF)(aj:List Step)
theorem LL(e7:lE ae eqs aj)(hk:gU ae)(o6:ae.length≤1000)(hk9:∀t∈ae,t.kids.length≤1000)(f:Nat)
 (ih:∀n a b,n<f→n≤aj.length→a<ae.length→b<ae.length→cl (aS ae.length aj n) a=cl (aS ae.length aj n) b→C E.P 129 [lv (aN ae),lv (aZ aj),iv n,iv a,iv b] [] (bD (av (gR (lu ae aj f n a b))) []))
 (i:Nat) (hi:i<aj.length) (hf:i<f):C E.P 200 [lv (aN ae),lv (aZ aj),iv i] [] (bD (av (gR (v8 ae aj (lu ae aj f) i))) []):=by
 have hs:=r7 hi
 have hso:=oT e7 hi
 have a0:=hso.a0
 have b0:=hso.b0
 have a1:=Hf e7 hi
 have b1:=FT e7 hi
 have eA:aj[i].A=(vA aj i:Int):=by rw[vA,hs];rw[hs] at a0;omega
 have eB:aj[i].B=(vB aj i:Int):=by rw[vB,hs];rw[hs] at b0;omega
 have XQ:=hso.XQ
 have hE:v8 ae aj (lu ae aj f) i=if aj[i].given<0 then .mk 5 0 (.mk (ae.getD (vA aj i) aL).name []) (((ae.getD (vA aj i) aL).kids.zip (ae.getD (vB aj i) aL).kids).map fun p=>lu ae aj f i (aH ae p.1) (aH ae p.2)) else .mk 2 aj[i].given aL []:=by rw[v8,hs]
 rw[hs] at XQ
 refine gS (nt:=74) (rs:=[.cell 6 37]) hm Tryz.func200 fun hl he cq=>?_
 rcases aa (0≤aj[i].given) with h0|h0
 ·rw[if_neg (by omega)] at hE
  simp -implicitDefEqProofs only[go_sem,hi,h0]
  refine an ?_
  refine sA ?_
  rw[hE]
  ((repeat' apply au)<;>rfl)
 ·rw[if_pos (by omega)] at hE
  have hal:alike ae (aS ae.length aj i) (vA aj i) (vB aj i)=true:=by
   rcases XQ with h|⟨n,h,_⟩
   ·rw[vA,vB,hs];exact h.2
   ·omega
  obtain⟨q1,q2,q3,q4⟩:=Ol hal
  have gA:ae.getD (vA aj i) aL=ae[vA aj i]:=by rw[ay,af a1];rfl
  have gB:ae.getD (vB aj i) aL=ae[vB aj i]:=by rw[ay,af b1];rfl
  have mA:=ak a1
  have mB:=ak b1
  obtain⟨x,hx⟩:∃x,ae[vA aj i]=x:=⟨_,rfl⟩
  obtain⟨y,hy⟩:∃y,ae[vB aj i]=y:=⟨_,rfl⟩
  rw[hx] at gA mA
  rw[hy] at gB mB
  rw[gA] at q1 q2 q3 q4 hE
  rw[gB] at q2 q3 q4 hE
  have kx:=hk _ mA
  have ky:=hk _ mB
  have kl:=hk9 _ mA
  simp -implicitDefEqProofs only[go_sem,hi,h0,eA,eB,a1,b1,hx,hy]
  refine aM hm (fun(k:Nat)=> k≤x.kids.length) (fun(k:Nat)=> ⟨dH 74 .any [(0,lv (aN ae)),(1,lv (aZ aj)),(2,iv i),(6,.ptr 0 0),(7,.ptr 1 0),(8,.ptr 2 0),(9,.ptr 3 0),(10,iv k)],[some (.box (cF (gR sY))),some (.box (cF (cT x))),some (.box (cF (cT y))),some (.box [iv 5,iv 0,sv x.name,lv [],.acc 4]),some (.acc 37 (eL (((x.kids.zip y.kids).take k).map fun p=>lu ae aj f i (aH ae p.1) (aH ae p.2))))]⟩) (fun(k:Nat)=> x.kids.length-k) (0) ?_ (ar [some 0,some 1,some 2,some 3,none] ?_ ?_ rfl rfl) ?_
  rotate_left
  ·exact sC
  ·exact sC
  rotate_left
  ·omega
  ·rintro k hk1
   rcases aa (k<x.kids.length) with h1|h1
   ·have h2:k<y.kids.length:=by omega
    have mx:=kx _ (ak h1)
    have my:=ky _ (ak h2)
    have px:=bz mx
    have py:=bz my
    have cx:=b9 mx
    have cy:=b9 my
    have hc:=ih i (aH ae x.kids[k]) (aH ae y.kids[k]) hf (by omega) px py (q4 k h1 h2)
    have hz:=O6 (f:=fun p=>lu ae aj f i (aH ae p.1) (aH ae p.2)) h1 h2
    have hzl:(((x.kids.zip y.kids).take k).map fun p=>lu ae aj f i (aH ae p.1) (aH ae p.2)).length≤1000:=by simp;omega
    refine uA ?_
    refine bp [] (cV ae x.kids[k]) ?_ ?_<;>simp -implicitDefEqProofs only[go_sem,cx,h2]
    refine bp [] (cV ae y.kids[k]) ?_ ?_<;>simp -implicitDefEqProofs only[go_sem,cy]
    refine aC [] hc ?_
    refine sQ ?_
    refine⟨k+1,?_,sL,ar [some 0,some 1,some 2,some 3,some 5] ?_ ?_ rfl rfl⟩
    rotate_left
    ·exact sC
    ·refine sA ?_
     all_goals((rw[hz,←DC,j9,lz];rfl))
    exact h1
   ·have et:(x.kids.zip y.kids).take k=x.kids.zip y.kids:=List.take_of_length_le (by simp;omega)
    refine uA ?_
    refine an ?_
    refine sA ?_
    rw[hE,et]
    ((repeat' apply au)<;>rfl)
theorem MK(e7:lE ae eqs aj)(hk:gU ae)(o6:ae.length≤1000)(hk9:∀t∈ae,t.kids.length≤1000)(hs9:aj.length≤2000000):∀(f n a b:Nat),n<f→n≤aj.length→a<ae.length→b<ae.length→cl (aS ae.length aj n) a=cl (aS ae.length aj n) b →
 C E.P 129 [lv (aN ae),lv (aZ aj),iv n,iv a,iv b] [] (bD (av (gR (lu ae aj f n a b))) []):=by
 intro f
 induction f with
 | zero=>intro n a b h;omega
 | succ f ih=>
 intro n a b hnf hn ha hb hab
 have hv:∀s∈aj,0≤s.A∧s.A.toNat<ae.length∧0≤s.B∧s.B.toNat<ae.length:=fun s hs=>by
  obtain⟨i,hi,rfl⟩:=List.mem_iff_getElem.1 hs
  have:=e7 i _ (af hi)
  exact⟨this.a0,this.a1,this.b0,this.b1⟩
 have hway:=XL e7 hn ha hb hab
 obtain⟨w1,w2,w3⟩:=sw e7 hn ha hb hab
 have cw:=LK aj ae.length n b hv hn o6 hs9 ae.length (by omega) a [a] (by simp) (fun x hx=>by simp at hx;omega) (by simp)
 rw[hway] at cw
 have ga:ae.getD a aL=ae[a]:=by rw[ay,af ha];rfl
 obtain⟨way,hw⟩:∃w,lR ae.length aj n a b=w:=⟨_,rfl⟩
 have hF:=So ae aj f n a b
 rw[hw] at hF
 have hwl:way.length≤ae.length:=by
  rw[hw] at w3 w2 w1
  have h1:=kd w3 (fun v hv=>by
   simp only[gP,ax,List.mem_map] at hv
   rcases hv with rfl|⟨e,he,rfl⟩
   ·exact ha
   ·exact yz e7 (by have:=w1 e he;omega))
  simp[gP] at h1
  omega
 rw[hw] at cw w1
 rw[show bP [a]=[[.val (.int .i64 (a:Int))]] from rfl] at cw
 simp only[aX,aY] at cw
 have hll:(way.map uZ).length=way.length:=by simp
 refine gS (nt:=69) (rs:=[.cell 10 37]) hm Tryz.func129 fun hl he cq=>?_
 refine aC [] cw ?_
 rcases Nat.eq_zero_or_pos way.length with hz|hz
 ·obtain rfl:=List.length_eq_zero_iff.1 hz
  rw[Sk] at hF
  simp -implicitDefEqProofs only[go_sem,ha]
  refine aC [] (gO ae[a]) ?_
  refine an ?_
  refine sA ?_
  rw[hF,ga]
  ((repeat' apply au)<;>rfl)
 ·have jD:¬ (way.length:Int)=0:=by omega
  have hz':(0:Int)<(way.length:Int):=by omega
  simp -implicitDefEqProofs only[go_sem,jD]
  refine cQ hm (fun(i:Nat) (w:ju)=> i≤way.length∧((i=0∧w=sY)∨(1≤i∧lu ae aj (f+1) n a b=oQ (kP ae aj (lu ae aj f)) w (way.drop i)))) (fun(i:Nat) (w:ju)=> ⟨dH 69 .any [(0,lv (aN ae)),(1,lv (aZ aj)),(10,.ptr 0 0),(11,lv (bI (way.map uZ))),(13,.ptr 1 0),(14,iv i)],[some (.box (cF (gR sY))),some (.box (cF (gR w)))]⟩) (fun(i:Nat) (w:ju)=> way.length-i) (0) (sY) ?_ (ar [some 0,some 1] ?_ ?_ rfl rfl) ?_
  rotate_left
  ·exact sC
  ·exact sC
  rotate_left
  ·exact⟨bc _,.inl ⟨rfl,rfl⟩⟩
  ·rintro i w ⟨hi,hg⟩
   rcases aa (i<way.length) with h1|h1
   ·have h1':i<(way.map uZ).length:=by omega
    have jC:=w1 _ (ak h1)
    have eg:(way.map uZ)[i]=uZ way[i]:=by simp
    have hco:=LL ae eqs aj e7 hk o6 hk9 f ih way[i].step (by omega) (by omega)
    have hed:=Gg ae aj (lu ae aj f) way[i]
    have hd0:=ah h1
    cases hb2:way[i].back
    ·have es1:uZ way[i]=(way[i].step:Int):=by rw[uZ,hb2];rfl
     have hnn:¬ (way[i].step:Int)<0:=by omega
     rw[hb2,if_neg (by simp)] at hed
     rcases hg with⟨rfl,rfl⟩|⟨hi1,hg⟩
     ·simp -implicitDefEqProofs only[go_sem,hll,h1,eg,es1,hnn,hz']
      refine aC [] hco ?_
      refine sQ ?_
      refine⟨1,kP ae aj (lu ae aj f) way[0],?_,sL,ar [some 0,some 1] ?_ ?_ rfl rfl⟩
      rotate_left
      ·refine sA ?_
       all_goals(simp[*];done)
      ·refine sA ?_
       all_goals((rw[hed];(repeat' apply au)<;>rfl))
      refine⟨by omega,.inr ⟨aJ _,?_⟩⟩
      rw[hF,wO hz]
     ·have k0:¬ (i:Int)=0:=by omega
      rw[hd0,oQ] at hg
      simp -implicitDefEqProofs only[go_sem,hll,h1,eg,es1,hnn]
      refine aC [] hco ?_
      refine uH ?_
      refine sQ ?_
      refine⟨i+1,.mk 4 0 aL [w,kP ae aj (lu ae aj f) way[i]],?_,sL,ar [some 0,some 1] ?_ ?_ rfl rfl⟩
      rotate_left
      ·exact sC
      ·refine sA ?_
       all_goals((rw[hed];exact⟨rfl,rfl,rfl,rfl,(NR _ _).symm⟩))
      exact⟨by omega,.inr ⟨by omega,hg⟩⟩
    ·have es1:uZ way[i] = -1-(way[i].step:Int):=by rw[uZ,hb2];rfl
     have hnn:-1-(way[i].step:Int)<0:=by omega
     have hmm:-1-(-1-(way[i].step:Int))=(way[i].step:Int):=by omega
     rw[hb2,if_pos rfl] at hed
     rcases hg with⟨rfl,rfl⟩|⟨hi1,hg⟩
     ·simp -implicitDefEqProofs only[go_sem,hll,h1,eg,es1,hnn,hz']
      refine sQ ?_
      simp -implicitDefEqProofs only[go_sem,hmm]
      refine aC [] hco ?_
      refine sQ ?_
      refine⟨1,kP ae aj (lu ae aj f) way[0],?_,sL,ar [some 0,some 1] ?_ ?_ rfl rfl⟩
      rotate_left
      ·refine sA ?_
       all_goals(simp[*];done)
      ·refine sA ?_
       all_goals((rw[hed];exact⟨rfl,rfl,rfl,rfl,(OY _).symm⟩))
      refine⟨by omega,.inr ⟨aJ _,?_⟩⟩
      rw[hF,wO hz]
     ·have k0:¬ (i:Int)=0:=by omega
      rw[hd0,oQ] at hg
      simp -implicitDefEqProofs only[go_sem,hll,h1,eg,es1,hnn]
      refine sQ ?_
      simp -implicitDefEqProofs only[go_sem,hmm]
      refine aC [] hco ?_
      refine uH ?_
      refine sQ ?_
      refine⟨i+1,.mk 4 0 aL [w,kP ae aj (lu ae aj f) way[i]],?_,sL,ar [some 0,some 1] ?_ ?_ rfl rfl⟩
      rotate_left
      ·exact sC
      ·refine sA ?_
       all_goals((rw[hed];exact⟨rfl,rfl,rfl,rfl,(VV _ _).symm⟩))
      exact⟨by omega,.inr ⟨by omega,hg⟩⟩
   ·rcases hg with⟨rfl,_⟩|⟨hi1,hg⟩
    ·omega
    ·rw[al (by omega),oQ] at hg
     simp -implicitDefEqProofs only[go_sem,hll,h1]
     refine an ?_
     refine sA ?_
     rw[hg]
     ((repeat' apply au)<;>rfl)
end
end Go.Proofs.YtabembjmeobhoaaGreat
