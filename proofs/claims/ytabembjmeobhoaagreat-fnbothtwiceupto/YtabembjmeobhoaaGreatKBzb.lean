/-
  The reference: the walk of closures. A step towards the laws.
-/
import Derived.Test.YtabembjmeobhoaaGreatKBP
import Derived.Test.YtabembjmeobhoaaGreatKBEk
import Derived.Test.YtabembjmeobhoaaGreatKByb
set_option linter.unusedVariables false
set_option linter.unusedSimpArgs false
open And renaming intro→ar
open Bool renaming true_and→aM,false_and→aS
open Classical renaming em→aa
open List renaming getElem?_eq_getElem→ah,drop_eq_getElem_cons→aj,getElem_mem→ak,drop_of_length_le→al,mem_cons→ay,getD_eq_getElem?_getD→az,mem_append→aR,not_mem_nil→bn,range→bt,nodup_append→df,range'→dG
open Nat renaming le_refl→aI,zero_le→bh
open Option renaming isSome_some→aJ,getD_some→aK,isSome_none→aU,getD_none→aZ
namespace Go.Proofs.YtabembjmeobhoaaGreat
open Go.Eng Go.Mod
open Int renaming reduceEq→Z1,reduceLT→Z2,reduceLE→Z3,reduceToNat→Z4
set_option maxRecDepth 100000
set_option maxHeartbeats 800000
theorem H5(a b:Nat):C E.P 243 [iv a,iv b] [] (bM (iv ((max a b:Nat):Int)) []):=by
 refine gS (nt:=10) (rs:=[.tmp 4]) hm Tryz.func243 fun hl he cI=>?_
 rcases aa (b<a) with h|h
 ·have e:max a b=a:=by omega
  simp -implicitDefEqProofs only[go_sem,h]
  refine an ?_
  refine sA ?_
  all_goals(simp[e];done)
 ·have e:max a b=b:=by omega
  simp -implicitDefEqProofs only[go_sem,h]
  refine an ?_
  refine sA ?_
  all_goals(simp[e];done)
theorem tD(c:List Nat)(a b:Nat)(ha:a<c.length)(hb:b<c.length)(hl:c.length≤1000)(hc:∀x∈c,x≤1000):C E.P 197 [.acc 0,iv a,iv b] [some (.acc 3 (bO c))] (bM (.acc 0) [some (.acc 3 (bO (fV c a b)))]):=by
 have ea:c[a]=cl c a:=(gL ha).symm
 have eb:c[b]=cl c b:=(gL hb).symm
 have la:=hc _ (yV ha)
 have lb:=hc _ (yV hb)
 have e1:(cl c a:Int)+(cl c b:Int)-((max (cl c a) (cl c b):Nat):Int)=((min (cl c a) (cl c b):Nat):Int):=by omega
 obtain⟨f,hf⟩:∃f,max (cl c a) (cl c b)=f:=⟨_,rfl⟩
 obtain⟨t,ht⟩:∃t,min (cl c a) (cl c b)=t:=⟨_,rfl⟩
 have hend:∀i,c.length≤i→fB c f t i=fV c a b:=fun i hi=>by rw[←hf,←ht];exact FC hi
 rw[hf,ht] at e1
 refine gS (nt:=47) (rs:=[.tmp 6]) hm Tryz.func197 fun hl he cI=>?_
 simp -implicitDefEqProofs only[go_sem,ha,hb,ea,eb]
 refine aC [] (H5 (cl c a) (cl c b)) ?_
 refine iK ?_
 rw[hf]
 simp -implicitDefEqProofs only[go_sem,ha,hb,ea,eb]
 refine sQ ?_
 rw[e1]
 refine aO hm (fun(i:Nat)=> i≤c.length) (fun(i:Nat)=> ⟨dB 47 .any [(0,.acc 0),(7,iv f),(8,iv t),(9,iv i)],[some (.acc 3 (bO (fB c f t i)))]⟩) (fun(i:Nat)=> c.length-i) (0) ?_ (aw [some 0] ?_ ?_ rfl rfl) ?_
 rotate_left
 ·exact sC
 ·refine sA ?_
  all_goals((simp[fB]))
 rotate_left
 ·omega
 ·rintro i hi
  have hjl:=rR c f t i
  rcases aa (i<c.length) with h1|h1
  ·have h1':i<(fB c f t i).length:=by omega
   have eg:=rV (f:=f) (t:=t) h1 h1'
   rcases aa (c[i]=f) with h2|h2
   ·have k2:(c[i]=f)=True:=eq_true (by omega)
    have hp:=tS (l:=fB c f t i) (i:=i) (n:=t) h1'
    have hn:=qg (f:=f) (t:=t) h1
    rw[if_pos h2] at hn
    rw[pF h1',eg] at hp
    simp -implicitDefEqProofs only[go_sem,hjl,h1,eg,k2]
    refine sQ ?_
    refine⟨i+1,?_,sL,aw [some 0] ?_ ?_ rfl rfl⟩
    rotate_left
    ·exact sC
    ·refine sA ?_
     all_goals((rw[hp,hn]))
    exact h1
   ·have k2:¬c[i]=f:=by omega
    have hn:=tn (f:=f) (t:=t) h1 h2
    simp -implicitDefEqProofs only[go_sem,hjl,h1,eg,k2]
    refine sQ ?_
    refine⟨i+1,?_,sL,aw [some 0] ?_ ?_ rfl rfl⟩
    rotate_left
    ·exact sC
    ·refine sA ?_
     all_goals((rw[hn]))
    exact h1
  ·rw[hend i (by omega)] at hjl⊢
   simp -implicitDefEqProofs only[go_sem,hjl,h1]
   refine bX [some 0] ?_ rfl rfl
   exact sC
theorem FW(ae:List Term)(c:List Nat)(a b:Nat)(hk:gQ ae)(ha:a<ae.length)(hb:b<ae.length)(hc:c.length=ae.length)(oW:ae.length≤1000)(hk9:∀t∈ae,t.kids.length≤1000):C E.P 244 [lv (aP ae),lv (bO c),iv a,iv b] [] (bM (bv (alike ae c a b)) []):=by
 have e1:ae.getD a aL=ae[a]:=by rw[az,ah ha];rfl
 have e2:ae.getD b aL=ae[b]:=by rw[az,ah hb];rfl
 have ka:=hk _ (ak ha)
 have la:=hk9 _ (ak ha)
 have kb:=hk _ (ak hb)
 have e:alike ae c a b=(decide (0<ae[a].kids.length)&&(decide (ae[a].name=ae[b].name)&&lA ae c ae[a].kids ae[b].kids)):=by rw[alike,e1,e2]
 refine gS (nt:=68) (rs:=[.tmp 8]) hm Tryz.func244 fun hl he cI=>?_
 simp -implicitDefEqProofs only[go_sem,ha,hb]
 obtain⟨x,hx⟩:∃x,ae[a]=x:=⟨_,rfl⟩
 obtain⟨y,hy⟩:∃y,ae[b]=y:=⟨_,rfl⟩
 rw[hx] at e ka la
 rw[hy] at e kb
 rcases aa (x.name=y.name) with h1|h1
 ·rcases aa (x.kids.length=y.kids.length) with h2|h2
  ·have k1:=eq_true h1
   rcases aa ((y.kids.length:Int)=0) with h3|h3
   ·have k3:=eq_true h3
    have h3':¬0<x.kids.length:=by omega
    simp -implicitDefEqProofs only[go_sem,hx,hy,k1,h2,k3]
    refine an ?_
    refine sA ?_
    all_goals(simp[e,h3'];done)
   ·have h3':0<x.kids.length:=by omega
    rw[decide_eq_true h3',decide_eq_true h1,aM,aM] at e
    simp -implicitDefEqProofs only[go_sem,hx,hy,k1,h2,h3]
    refine aO hm (fun(i:Nat)=> i≤y.kids.length∧alike ae c a b=lA ae c (x.kids.drop i) (y.kids.drop i)) (fun(i:Nat)=> ⟨dB 68 .any [(0,lv (aP ae)),(1,lv (bO c)),(9,.ptr 0 0),(10,.ptr 1 0),(11,iv i)],[some (.box (cF (cT x))),some (.box (cF (cT y)))]⟩) (fun(i:Nat)=> y.kids.length-i) (0) ?_ (aw [some 0,some 1] ?_ ?_ rfl rfl) ?_
    rotate_left
    ·exact sC
    ·exact sC
    rotate_left
    ·exact⟨bh _,e⟩
    ·rintro i ⟨hi,hg⟩
     rcases aa (i<y.kids.length) with h4|h4
     ·have h5:i<x.kids.length:=by omega
      have mx:=ka _ (ak h5)
      have my:=kb _ (ak h4)
      have px:=bx mx
      have py:=bx my
      have cx:=b7 mx
      have cy:=b7 my
      have px':aH ae x.kids[i]<c.length:=by omega
      have py':aH ae y.kids[i]<c.length:=by omega
      have ex:c[aH ae x.kids[i]]=cl c (aH ae x.kids[i]):=(gL px').symm
      have ey:c[aH ae y.kids[i]]=cl c (aH ae y.kids[i]):=(gL py').symm
      rw[Dd h5 h4] at hg
      have es:Jd ae c x.kids[i] y.kids[i]=decide (cl c (aH ae x.kids[i])=cl c (aH ae y.kids[i])):=rfl
      rw[es] at hg
      simp -implicitDefEqProofs only[go_sem,h2,h4]
      refine bQ [] (cL ae x.kids[i]) ?_ ?_<;>simp -implicitDefEqProofs only[go_sem,cx,px',ex,h4]
      refine bQ [] (cL ae y.kids[i]) ?_ ?_<;>simp -implicitDefEqProofs only[go_sem,cy,py',ey]
      refine iK ?_
      rcases aa (cl c (aH ae x.kids[i])=cl c (aH ae y.kids[i])) with h6|h6
      ·have k6:(cl c (aH ae x.kids[i])=cl c (aH ae y.kids[i]))=True:=eq_true (by omega)
       rw[decide_eq_true h6,aM] at hg
       simp -implicitDefEqProofs only[go_sem,k6]
       refine sQ ?_
       refine⟨i+1,?_,sL,aw [some 0,some 1] ?_ ?_ rfl rfl⟩
       rotate_left
       ·exact sC
       ·exact sC
       exact⟨by omega,hg⟩
      ·have k6:¬cl c (aH ae x.kids[i])=cl c (aH ae y.kids[i]):=by omega
       rw[decide_eq_false h6,aS] at hg
       simp -implicitDefEqProofs only[go_sem,k6]
       refine an ?_
       refine sA ?_
       all_goals(simp[hg];done)
     ·rw[al (by omega),al (by omega),EG] at hg
      simp -implicitDefEqProofs only[go_sem,h2,h4]
      refine an ?_
      refine sA ?_
      all_goals(simp[hg];done)
  ·have k1:=eq_true h1
   have k2:¬x.kids.length=y.kids.length:=by omega
   have e3:alike ae c a b=false:=by rw[e,zL h2];simp
   simp -implicitDefEqProofs only[go_sem,hx,hy,k1,k2]
   refine an ?_
   refine sA ?_
   all_goals(simp[e3];done)
 ·have k1:=eq_false h1
  simp -implicitDefEqProofs only[go_sem,hx,hy,k1]
  refine an ?_
  refine sA ?_
  all_goals(simp[e,h1];done)
theorem yq(ae:List Term)(c:List Nat)(hk:gQ ae)(hc:c.length=ae.length)(oW:ae.length≤1000)(hk9:∀t∈ae,t.kids.length≤1000):C E.P 198 [lv (aP ae),lv (bO c)] [] (bM (.jd [iv (((fv ae c).getD (0,0)).1:Nat),iv (((fv ae c).getD (0,0)).2:Nat),bv (fv ae c).isSome]) []):=by
 refine gS (nt:=38) (rs:=[.tmp 4,.tmp 5,.tmp 6]) hm Tryz.func198 fun hl he cI=>?_
 refine aO hm (fun(l:Nat)=> l≤ae.length∧fv ae c=(jx l ae.length).find? (fun p=>mV ae c p.1 p.2)) (fun(l:Nat)=> ⟨dB 38 .any [(0,lv (aP ae)),(1,lv (bO c)),(7,iv l)],[]⟩) (fun(l:Nat)=> ae.length-l) (0) ?_ (aw [] ?_ ?_ rfl rfl) ?_
 rotate_left
 ·exact sC
 ·exact sC
 rotate_left
 ·exact⟨bh _,rfl⟩
 ·rintro l ⟨hi,hg⟩
  rcases aa (l<ae.length) with h1|h1
  ·rw[v7 h1] at hg
   simp -implicitDefEqProofs only[go_sem,h1]
   refine aO hm (fun(e:Nat)=> e≤l∧fv ae c=(qd e l ae.length).find? (fun p=>mV ae c p.1 p.2)) (fun(e:Nat)=> ⟨dB 38 .any [(0,lv (aP ae)),(1,lv (bO c)),(7,iv l),(8,iv e)],[]⟩) (fun(e:Nat)=> l-e) (0) ?_ (aw [] ?_ ?_ rfl rfl) ?_
   rotate_left
   ·exact sC
   ·exact sC
   rotate_left
   ·exact⟨bh _,hg⟩
   ·rintro e ⟨he,hg⟩
    rcases aa (e<l) with h2|h2
    ·have h2':=h2
     have pe:e<c.length:=by omega
     have pl:l<c.length:=by omega
     have ee:c[e]=cl c e:=(gL pe).symm
     have el:c[l]=cl c l:=(gL pl).symm
     rw[yF h2,List.find?_cons] at hg
     have em:mV ae c e l=(decide (cl c e≠cl c l)&&alike ae c e l):=rfl
     simp only[em] at hg
     rcases aa (cl c l=cl c e) with h3|h3
     ·have k3:(cl c l=cl c e)=True:=eq_true (by omega)
      rw[decide_eq_false (by omega:¬cl c e≠cl c l),aS] at hg
      simp -implicitDefEqProofs only[go_sem,h2',pe,pl,ee,el,k3]
      refine iK ?_
      refine sQ ?_
      refine⟨e+1,?_,sL,aw [] ?_ ?_ rfl rfl⟩
      rotate_left
      ·exact sC
      ·exact sC
      exact⟨by omega,hg⟩
     ·have k3:¬cl c l=cl c e:=by omega
      rw[decide_eq_true (by omega:cl c e≠cl c l),aM] at hg
      simp -implicitDefEqProofs only[go_sem,h2',pe,pl,ee,el,k3]
      refine aC [] (FW ae c e l hk (by omega) h1 hc oW hk9) ?_
      refine iK ?_
      cases h4:alike ae c e l
      ·rw[h4] at hg
       refine sA ?_
       refine sQ ?_
       refine⟨e+1,?_,sL,aw [] ?_ ?_ rfl rfl⟩
       rotate_left
       ·exact sC
       ·exact sC
       exact⟨by omega,hg⟩
      ·rw[h4] at hg
       simp only at hg
       refine sA ?_
       refine an ?_
       refine sA ?_
       rw[hg]
       ((repeat' apply ar)<;>rfl)
    ·have h2':=h2
     rw[AO (by omega)] at hg
     simp -implicitDefEqProofs only[go_sem,h2']
     refine sQ ?_
     refine⟨l+1,?_,sL,aw [] ?_ ?_ rfl rfl⟩
     rotate_left
     ·exact sC
     ·exact sC
     exact⟨by omega,hg⟩
  ·rw[yu (by omega),List.find?_nil] at hg
   simp -implicitDefEqProofs only[go_sem,h1]
   refine an ?_
   refine sA ?_
   rw[hg]
   ((repeat' apply ar)<;>rfl)
set_option maxHeartbeats 3200000
theorem Mi(a:l9):gR [a]=[oX a]:=by rw[j7,lj]
theorem MJ(a b:l9):gR [a,b]=[oX a,oX b]:=by rw[j7,j7,lj]
theorem Uw(w s:l9):gR [w,.mk 3 0 aL [s]]=[oX w,[.val (.int .i64 3),.val (.int .i64 0),.str [],.dP [],.dP [oX s]]]:=by
 have e:oX (.mk 3 0 aL [s])=[.val (.int .i64 3),.val (.int .i64 0),.str [],.dP [],.dP (gR [s])]:=rfl
 rw[MJ,e,Mi]
theorem BA(ae:List Term)(eqs:List iy)(hk:gQ ae)(ki:∀e∈eqs,e.A∈ae∧e.B∈ae)(oW:ae.length≤1000)(hk9:∀t∈ae,t.kids.length≤1000)(he9:eqs.length≤1000) :
 C E.P 127 [lv (aP ae),lv (gP eqs)] [] (bM (.jd [lv (a7 (closed ae eqs).2),lv (bO (closed ae eqs).1)]) []):=by
 refine gS (nt:=94) (rs:=[.tmp 4,.tmp 5]) hm Tryz.func127 fun hl he cI=>?_
 refine aO hm (fun(i:Nat)=> i≤ae.length) (fun(i:Nat)=> ⟨dB 94 .any [(0,lv (aP ae)),(1,lv (gP eqs)),(6,.acc 0),(7,.acc 1),(8,iv i)],[some (.acc 3 (bO (bt i))),some (.acc 220 (a7 []))]⟩) (fun(i:Nat)=> ae.length-i) (0) ?_ (aw [some 0,some 1] ?_ ?_ rfl rfl) ?_
 rotate_left
 ·exact sC
 ·refine sA ?_
  all_goals(rfl)
 rotate_left
 ·omega
 ·rintro i hi
  have hrl:(bt i).length=i:=List.length_range
  rcases aa (i<ae.length) with h1|h1
  ·simp -implicitDefEqProofs only[go_sem,h1]
   refine sQ ?_
   refine⟨i+1,?_,sL,aw [some 2,some 1] ?_ ?_ rfl rfl⟩
   rotate_left
   ·exact sC
   ·refine sA ?_
    all_goals((rw[←lY];rfl))
   exact h1
  ·obtain rfl:i=ae.length:=by omega
   simp -implicitDefEqProofs only[go_sem,h1]
   clear hi h1
   refine kS hm (fun(n:Nat) (c:List Nat) (af:List Step)=> n≤eqs.length∧c.length=ae.length∧(∀x∈c,x≤1000)∧af.length≤n∧given ae eqs=iW ae n (eqs.drop n) c af) (fun(n:Nat) (c:List Nat) (af:List Step)=> ⟨dB 94 .any [(0,lv (aP ae)),(1,lv (gP eqs)),(6,.acc 0),(7,.acc 1),(9,iv n)],[some (.acc 3 (bO c)),some (.acc 220 (a7 af))]⟩) (fun(n:Nat) (c:List Nat) (af:List Step)=> eqs.length-n) (0) (bt ae.length) ([]) ?_ (aw [some 0,some 1] ?_ ?_ rfl rfl) ?_
   rotate_left
   ·exact sC
   ·exact sC
   rotate_left
   ·exact⟨bh _,hrl,fun x hx=>by have:=List.mem_range.1 hx;omega,aI _,rfl⟩
   ·rintro n c af ⟨hn,hc,hm9,hs,hg⟩
    rcases aa (n<eqs.length) with h1|h1
    ·obtain⟨mA,mB⟩:=ki _ (ak h1)
     have pA:=bx mA
     have pB:=bx mB
     have cA:=b7 mA
     have cB:=b7 mB
     have pA':aH ae eqs[n].A<c.length:=by omega
     have pB':aH ae eqs[n].B<c.length:=by omega
     have eA:c[aH ae eqs[n].A]=cl c (aH ae eqs[n].A):=(gL pA').symm
     have eB:c[aH ae eqs[n].B]=cl c (aH ae eqs[n].B):=(gL pB').symm
     have hj1:=fD c (aH ae eqs[n].A) (aH ae eqs[n].B)
     have hj2:=w5 (a:=aH ae eqs[n].A) (b:=aH ae eqs[n].B) hm9
     have cj:=tD c (aH ae eqs[n].A) (aH ae eqs[n].B) pA' pB' (by omega) hm9
     rw[aj h1,iW] at hg
     simp -implicitDefEqProofs only[go_sem,h1]
     refine bQ [] (cL ae eqs[n].A) ?_ ?_<;>simp -implicitDefEqProofs only[go_sem,h1]
     refine aC [] (cL ae eqs[n].B) ?_
     refine sQ ?_
     rw[cA,cB]
     generalize aH ae eqs[n].A=a at *
     generalize aH ae eqs[n].B=b at *
     rcases aa (cl c a=cl c b) with h2|h2
     ·have k2:(cl c a=cl c b)=True:=eq_true (by omega)
      rw[if_pos h2] at hg
      simp -implicitDefEqProofs only[go_sem,pA',pB',eA,eB,k2]
      refine iK ?_
      refine sQ ?_
      refine⟨n+1,c,af,?_,sL,aw [some 0,some 1] ?_ ?_ rfl rfl⟩
      rotate_left
      ·exact sC
      ·exact sC
      exact⟨by omega,hc,hm9,by omega,hg⟩
     ·have k2:¬cl c a=cl c b:=by omega
      rw[if_neg h2] at hg
      simp -implicitDefEqProofs only[go_sem,pA',pB',eA,eB,k2]
      refine iK ?_
      refine sQ ?_
      refine oC [] [0] cj ?_
      refine sQ ?_
      refine⟨n+1,fV c a b,af++[⟨a,b,n⟩],?_,sL,aw [some 0,some 2] ?_ ?_ rfl rfl⟩
      rotate_left
      ·exact sC
      ·refine sA ?_
       all_goals((rw[←vm,tG,rm];rfl))
      exact⟨by omega,by omega,hj2,by simp;omega,hg⟩
    ·rw[al (by omega),iW] at hg
     have hcl:closed ae eqs=kh ae c.sum c af:=by rw[closed,hg]
     have hsum:=pw hm9
     have hsum2:c.length*1000≤1000*1000:=Nat.mul_le_mul_right _ (by omega)
     simp -implicitDefEqProofs only[go_sem,h1]
     refine dN [] [0] (yq ae c hk hc oW hk9) rfl ?_ ?_ ?_
     ·exact sV
     all_goals simp -implicitDefEqProofs only[go_sem]
     refine kS hm (fun(f:Nat) (c:List Nat) (af:List Step)=> c.length=ae.length∧(∀x∈c,x≤1000)∧c.sum≤f∧af.length+f≤2000000∧closed ae eqs=kh ae f c af) (fun(f:Nat) (c:List Nat) (af:List Step)=> ⟨dB 94 .any [(0,lv (aP ae)),(6,.acc 0),(7,.acc 1),(12,iv (((fv ae c).getD (0,0)).1:Nat)),(13,iv (((fv ae c).getD (0,0)).2:Nat)),(14,bv (fv ae c).isSome)],[some (.acc 3 (bO c)),some (.acc 220 (a7 af))]⟩) (fun(f:Nat) (c:List Nat) (af:List Step)=> f) (c.sum) (c) (af) ?_ (aw [some 0,some 1] ?_ ?_ rfl rfl) ?_
     rotate_left
     ·exact sC
     ·exact sC
     rotate_left
     ·exact⟨hc,hm9,aI _,by omega,hcl⟩
     ·clear hcl hsum hsum2 hg h1 hn hc hm9 hs
      rintro f c af ⟨hc,hm9,hf,hs,hg⟩
      cases hp:fv ae c with
      | none=>
        rw[uK hp] at hg
        simp -implicitDefEqProofs only[go_sem,aU,aZ]
        refine an ?_
        refine sA ?_
        rw[hg]
        ((repeat' apply ar)<;>rfl)
      | some p=>
        obtain⟨f',rfl,hg2,hf2⟩:=vz (af:=af) hf hc hp
        obtain⟨p1,p2,p3,p4⟩:=pP hp
        rw[hg2] at hg
        have hj1:=fD c p.1 p.2
        have hj2:=w5 (a:=p.1) (b:=p.2) hm9
        have cj:=tD c p.1 p.2 (by omega) (by omega) (by omega) hm9
        have cn:=yq ae (fV c p.1 p.2) hk (by omega) oW hk9
        obtain⟨a,b⟩:=p
        simp only at hg hg2 hf2 p1 p2 hj1 hj2 cj cn
        simp -implicitDefEqProofs only[go_sem,aJ,aK]
        refine sQ ?_
        refine oC [] [0] cj ?_
        refine dN [] [0] cn rfl ?_ ?_ ?_
        ·exact sV
        all_goals simp -implicitDefEqProofs only[go_sem]
        refine⟨f',fV c a b,af++[⟨a,b,-1⟩],?_,sL,aw [some 0,some 2] ?_ ?_ rfl rfl⟩
        rotate_left
        ·exact sC
        ·refine sA ?_
         all_goals((rw[←vm,tG,rm];rfl))
        exact⟨by omega,hj2,hf2,by simp;omega,hg⟩
theorem jZ(l:List Nat)(n:Nat):C E.P 245 [lv (bO l),iv n] [] (bM (bv (decide (n∈l))) []):=by
 refine gS (nt:=18) (rs:=[.tmp 4]) hm Tryz.func245 fun hl he cI=>?_
 refine aO hm (fun(i:Nat)=> i≤l.length∧decide (n∈l)=decide (n∈l.drop i)) (fun(i:Nat)=> ⟨dB 18 .any [(0,lv (bO l)),(1,iv n),(5,iv i)],[]⟩) (fun(i:Nat)=> l.length-i) (0) ?_ (aw [] ?_ ?_ rfl rfl) ?_
 rotate_left
 ·exact sC
 ·exact sC
 rotate_left
 ·simp
 ·rintro i ⟨hi,hg⟩
  rcases aa (i<l.length) with h1|h1
  ·rw[aj h1] at hg
   rcases aa (l[i]=n) with h2|h2
   ·have k2:(l[i]=n)=True:=eq_true (by omega)
    have hg:decide (n∈l)=true:=by rw[hg];simp[h2]
    simp -implicitDefEqProofs only[go_sem,h1,k2]
    refine an ?_
    refine sA ?_
    all_goals(simp[hg];done)
   ·have k2:¬l[i]=n:=by omega
    have hg:decide (n∈l)=decide (n∈l.drop (i+1)):=by
     rw[hg]
     refine decide_eq_decide.2 ⟨fun h=>?_,fun h=>List.mem_cons_of_mem _ h⟩
     rcases ay.1 h with h|h
     ·exact absurd h.symm h2
     ·exact h
    simp -implicitDefEqProofs only[go_sem,h1,k2]
    refine sQ ?_
    refine⟨i+1,?_,sL,aw [] ?_ ?_ rfl rfl⟩
    rotate_left
    ·exact sC
    ·exact sC
    exact⟨by omega,hg⟩
  ·rw[al (by omega)] at hg
   have hg:decide (n∈l)=false:=by rw[hg];simp
   simp -implicitDefEqProofs only[go_sem,h1]
   refine an ?_
   refine sA ?_
   all_goals(simp[hg];done)
theorem KQ(af:List Step)(N n to:Nat)(hv:∀s∈af,0≤s.A∧s.A.toNat<N∧0≤s.B∧s.B.toNat<N)(hn:n≤af.length)(hN:N≤1000)(hs9:af.length≤2000000):∀(f:Nat),f≤2000→∀(v:Nat)(dJ:List Nat),dJ.Nodup→(∀x∈dJ,x<N)→N+1≤f+dJ.length →
 C E.P 199 [lv (a7 af),iv n,iv v,iv to,lv (bO dJ)] [] (bM (.jd [lv (bG (((tw af n to f v dJ).getD []).map uc)),bv (tw af n to f v dJ).isSome]) []):=by
 intro f
 induction f with
 | zero=>
   intro _ v dJ h1 h2 h3
   have:=j8 h1 h2
   omega
 | succ f ih=>
 intro hf9 v dJ h1 h2 h3
 have dy:=j8 h1 h2
 have hway:¬v=to→tw af n to (f+1) v dJ=uG (tw af n to f) af v dJ (dG 0 (n-0)):=fun h=>by
  rw[tw,if_neg h,List.range_eq_range']
  rfl
 have cI:=jQ
 refine F0 (nt:=80) (rs:=[.tmp 10,.tmp 11]) Tryz.func199 rfl rfl rfl rfl rfl (fun hl he=>?_)
 simp -implicitDefEqProofs only[go_sem] at hl⊢
 refine iQ hm ?_
 rcases aa (v=to) with h0|h0
 ·have k0:(v=to)=True:=eq_true (by omega)
  have hw0:tw af n to (f+1) v dJ=some []:=by rw[tw,if_pos h0]
  simp -implicitDefEqProofs only[go_sem,k0,dR]
  refine eJ ?_
  refine an ?_
  refine sA ?_
  rw[hw0]
  ((repeat' apply ar)<;>rfl)
 ·have k0:¬v=to:=by omega
  simp -implicitDefEqProofs only[go_sem,k0]
  refine RD (fun(i:Nat)=> i≤n∧tw af n to (f+1) v dJ=uG (tw af n to f) af v dJ (dG i (n-i))) (fun(i:Nat)=> ⟨dB 80 .any [(0,lv (a7 af)),(1,iv n),(2,iv v),(3,iv to),(4,lv (bO dJ)),(12,iv i)],[]⟩) (fun(i:Nat)=> n-i) (0) ?_ (aw [] ?_ ?_ rfl rfl) ?_
  rotate_left
  ·exact sC
  ·exact sC
  rotate_left
  ·exact⟨bh _,hway h0⟩
  ·rintro i ⟨hi,hg⟩
   rcases aa (i<n) with ki|ki
   ·have hi2:i<af.length:=by omega
    obtain⟨a0,a1,b0,b1⟩:=hv _ (ak hi2)
    have eqA:vA af i=af[i].A.toNat:=by rw[vA,rY hi2]
    have eqB:vB af i=af[i].B.toNat:=by rw[vB,rY hi2]
    have eA:af[i].A=(vA af i:Int):=by omega
    have eB:af[i].B=(vB af i:Int):=by omega
    rw[Si ki] at hg
    rcases aa (vB af i=v) with hB|hB
    ·have kB:(vB af i=v)=True:=eq_true (by omega)
     have en:pH af v i=some ⟨i,true⟩:=by rw[pH,if_pos hB]
     have ee:ij af ⟨i,true⟩=vA af i:=rfl
     rw[en] at hg
     simp only[ee] at hg
     have hw1:vA af i<N:=by omega
     rcases aa (vA af i=v) with hA|hA
     ·have kA:(vA af i=v)=True:=eq_true (by omega)
      generalize hw:vA af i=w at hg hw1 eA kA
      rw[hw] at eqA
      have hnn:¬ (w:Int)<0:=by omega
      have hsa:(∀y∈bO dJ,y.length=1)∧dJ.length≤LB∧dJ.length*8≤140737488355328:=⟨BC _,by omega,by omega⟩
      rcases aa (w∈dJ) with h5|h5
      ·have k5:=decide_eq_true h5
       rw[if_pos h5] at hg
       refine iQ hm ?_
       simp -implicitDefEqProofs only[go_sem,ki,kA,hi2,eA,eB,kB]
       refine sQ ?_
       refine bQ [] (jZ dJ w) ?_ ?_<;>simp -implicitDefEqProofs only[go_sem,hnn]
       simp -implicitDefEqProofs only[go_sem,k5,dR]
       refine sQ ?_
       refine⟨i+1,?_,sL,aw [] ?_ ?_ rfl rfl⟩
       rotate_left
       ·exact sC
       ·exact sC
       exact⟨by omega,hg⟩
      ·have k5:=decide_eq_false h5
       rw[if_neg h5] at hg
       have hnd:(dJ++[w]).Nodup:=df.2 ⟨h1,by simp,fun x hx y hy e1=>by
        simp only[ay,bn,or_false] at hy
        rw[e1,hy] at hx
        exact h5 hx⟩
       have mr:∀x∈dJ++[w],x<N:=fun x hx=>by
        rcases aR.1 hx with hx|hx
        ·exact h2 x hx
        ·simp only[ay,bn,or_false] at hx
         omega
       have hc:=ih (by omega) w (dJ++[w]) hnd mr (by simp;omega)
       rw[←lY,show bO [w]=[[.val (.int .i64 (w:Int))]] from rfl] at hc
       cases hr:tw af n to f w (dJ++[w]) with
       | none=>
         rw[hr] at hg hc
         simp only at hg
         refine iQ hm ?_
         simp -implicitDefEqProofs only[go_sem,ki,kA,hi2,eA,eB,kB]
         refine sQ ?_
         refine bQ [] (jZ dJ w) ?_ ?_<;>simp -implicitDefEqProofs only[go_sem,hnn]
         simp -implicitDefEqProofs only[go_sem,k5]
         refine sQ ?_
         refine oC [] [2] (tH (e:=3) (args:=[lv (a7 af),iv n,iv w,iv to,.acc 0]) (ik.cons (Vw.same rfl) (ik.cons (Vw.same rfl) (ik.cons (Vw.same rfl) (ik.cons (Vw.same rfl) (ik.cons (Vw.acc rfl rfl) ik.nil))))) rfl hc) ?_
         simp -implicitDefEqProofs only[go_sem,aU,aZ,dR]
         refine sQ ?_
         refine⟨i+1,?_,sL,aw [] ?_ ?_ rfl rfl⟩
         rotate_left
         ·exact sC
         ·exact sC
         exact⟨by omega,hg⟩
       | some r=>
         rw[hr] at hg hc
         simp only[aJ,aK] at hg hc
         have hrl:=AA hr
         have jf:(∀y∈bG (r.map uc),y.length=1)∧1+r.length≤LB∧(1+r.length)*8≤140737488355328:=⟨fP _,by omega,by omega⟩
         refine ff (iQ hm ?_)
         simp -implicitDefEqProofs only[go_sem,ki,dR,dK]
         refine ff (El ?_)
         refine ff (iQ hm ?_)
         simp -implicitDefEqProofs only[go_sem,dR,dK]
         refine ff (iQ hm ?_)
         simp -implicitDefEqProofs only[go_sem,dR,dK]
         refine ff (iQ hm ?_)
         simp -implicitDefEqProofs only[go_sem,hi2,eA,eB,kA,dR,dK]
         refine ff (iQ hm ?_)
         simp -implicitDefEqProofs only[go_sem,hi2,eA,eB,kB,dR,dK]
         refine sQ ?_
         refine ff (iQ hm ?_)
         simp -implicitDefEqProofs only[go_sem,hnn]
         refine aC [] (jZ dJ w) ?_
         simp -implicitDefEqProofs only[go_sem,k5,dR,dK]
         refine ff (iQ hm ?_)
         refine sA ?_
         refine sQ ?_
         refine oC [] [2] (tH (e:=3) (args:=[lv (a7 af),iv n,iv w,iv to,.acc 0]) (ik.cons (Vw.same rfl) (ik.cons (Vw.same rfl) (ik.cons (Vw.same rfl) (ik.cons (Vw.same rfl) (ik.cons (Vw.acc rfl rfl) ik.nil))))) rfl hc) ?_
         refine ff (iQ hm ?_)
         simp -implicitDefEqProofs only[go_sem,dR,dK]
         refine KH (b:=true) rfl (fun _=>?_) (fun h=>by cases h)
         refine ff (oz ?_)
         refine iX rfl (fj ?_)
         refine sA ?_
         refine iX rfl (fe (pg 38 3 1 3 _ _ _ [[.val (.int .i64 (-1-(i:Int)))]] rfl rfl rfl rfl rfl (by simp -implicitDefEqProofs only[go_sem]) rfl (by decide) rfl) ?_)
         refine sA ?_
         refine iX rfl (fj ?_)
         refine sA ?_
         refine iX rfl (fj ?_)
         refine sA ?_
         refine sQ ?_
         refine iX rfl (fj ?_)
         refine sA ?_
         refine iX rfl (fj ?_)
         refine sA ?_
         refine uB ?_
         simp -implicitDefEqProofs only[go_sem,dK]
         refine QZ ?_
         simp only[Cr,xV,qF]
         refine sA ?_
         refine eJ ?_
         refine an ?_
         refine sA ?_
         rw[hg]
         ((repeat' apply ar)<;>rfl)
     ·have kA:¬vA af i=v:=by omega
      generalize hw:vA af i=w at hg hw1 eA kA
      rw[hw] at eqA
      have hnn:¬ (w:Int)<0:=by omega
      have hsa:(∀y∈bO dJ,y.length=1)∧dJ.length≤LB∧dJ.length*8≤140737488355328:=⟨BC _,by omega,by omega⟩
      rcases aa (w∈dJ) with h5|h5
      ·have k5:=decide_eq_true h5
       rw[if_pos h5] at hg
       refine iQ hm ?_
       simp -implicitDefEqProofs only[go_sem,ki,kA,hi2,eA,eB,kB]
       refine sQ ?_
       refine bQ [] (jZ dJ w) ?_ ?_<;>simp -implicitDefEqProofs only[go_sem,hnn]
       simp -implicitDefEqProofs only[go_sem,k5,dR]
       refine sQ ?_
       refine⟨i+1,?_,sL,aw [] ?_ ?_ rfl rfl⟩
       rotate_left
       ·exact sC
       ·exact sC
       exact⟨by omega,hg⟩
      ·have k5:=decide_eq_false h5
       rw[if_neg h5] at hg
       have hnd:(dJ++[w]).Nodup:=df.2 ⟨h1,by simp,fun x hx y hy e1=>by
        simp only[ay,bn,or_false] at hy
        rw[e1,hy] at hx
        exact h5 hx⟩
       have mr:∀x∈dJ++[w],x<N:=fun x hx=>by
        rcases aR.1 hx with hx|hx
        ·exact h2 x hx
        ·simp only[ay,bn,or_false] at hx
         omega
       have hc:=ih (by omega) w (dJ++[w]) hnd mr (by simp;omega)
       rw[←lY,show bO [w]=[[.val (.int .i64 (w:Int))]] from rfl] at hc
       cases hr:tw af n to f w (dJ++[w]) with
       | none=>
         rw[hr] at hg hc
         simp only at hg
         refine iQ hm ?_
         simp -implicitDefEqProofs only[go_sem,ki,kA,hi2,eA,eB,kB]
         refine sQ ?_
         refine bQ [] (jZ dJ w) ?_ ?_<;>simp -implicitDefEqProofs only[go_sem,hnn]
         simp -implicitDefEqProofs only[go_sem,k5]
         refine sQ ?_
         refine oC [] [2] (tH (e:=3) (args:=[lv (a7 af),iv n,iv w,iv to,.acc 0]) (ik.cons (Vw.same rfl) (ik.cons (Vw.same rfl) (ik.cons (Vw.same rfl) (ik.cons (Vw.same rfl) (ik.cons (Vw.acc rfl rfl) ik.nil))))) rfl hc) ?_
         simp -implicitDefEqProofs only[go_sem,aU,aZ,dR]
         refine sQ ?_
         refine⟨i+1,?_,sL,aw [] ?_ ?_ rfl rfl⟩
         rotate_left
         ·exact sC
         ·exact sC
         exact⟨by omega,hg⟩
       | some r=>
         rw[hr] at hg hc
         simp only[aJ,aK] at hg hc
         have hrl:=AA hr
         have jf:(∀y∈bG (r.map uc),y.length=1)∧1+r.length≤LB∧(1+r.length)*8≤140737488355328:=⟨fP _,by omega,by omega⟩
         refine ff (iQ hm ?_)
         simp -implicitDefEqProofs only[go_sem,ki,dR,dK]
         refine ff (El ?_)
         refine ff (iQ hm ?_)
         simp -implicitDefEqProofs only[go_sem,dR,dK]
         refine ff (iQ hm ?_)
         simp -implicitDefEqProofs only[go_sem,dR,dK]
         refine ff (iQ hm ?_)
         simp -implicitDefEqProofs only[go_sem,hi2,eA,eB,kA,dR,dK]
         refine ff (iQ hm ?_)
         simp -implicitDefEqProofs only[go_sem,hi2,eA,eB,kB,dR,dK]
         refine sQ ?_
         refine ff (iQ hm ?_)
         simp -implicitDefEqProofs only[go_sem,hnn]
         refine aC [] (jZ dJ w) ?_
         simp -implicitDefEqProofs only[go_sem,k5,dR,dK]
         refine ff (iQ hm ?_)
         refine sA ?_
         refine sQ ?_
         refine oC [] [2] (tH (e:=3) (args:=[lv (a7 af),iv n,iv w,iv to,.acc 0]) (ik.cons (Vw.same rfl) (ik.cons (Vw.same rfl) (ik.cons (Vw.same rfl) (ik.cons (Vw.same rfl) (ik.cons (Vw.acc rfl rfl) ik.nil))))) rfl hc) ?_
         refine ff (iQ hm ?_)
         simp -implicitDefEqProofs only[go_sem,dR,dK]
         refine KH (b:=true) rfl (fun _=>?_) (fun h=>by cases h)
         refine ff (oz ?_)
         refine iX rfl (fj ?_)
         refine sA ?_
         refine iX rfl (fe (pg 38 3 1 3 _ _ _ [[.val (.int .i64 (-1-(i:Int)))]] rfl rfl rfl rfl rfl (by simp -implicitDefEqProofs only[go_sem]) rfl (by decide) rfl) ?_)
         refine sA ?_
         refine iX rfl (fj ?_)
         refine sA ?_
         refine iX rfl (fj ?_)
         refine sA ?_
         refine sQ ?_
         refine iX rfl (fj ?_)
         refine sA ?_
         refine iX rfl (fj ?_)
         refine sA ?_
         refine uB ?_
         simp -implicitDefEqProofs only[go_sem,dK]
         refine QZ ?_
         simp only[Cr,xV,qF]
         refine sA ?_
         refine eJ ?_
         refine an ?_
         refine sA ?_
         rw[hg]
         ((repeat' apply ar)<;>rfl)
    ·have kB:¬vB af i=v:=by omega
     rcases aa (vA af i=v) with hA|hA
     ·have kA:(vA af i=v)=True:=eq_true (by omega)
      have en:pH af v i=some ⟨i,false⟩:=by rw[pH,if_neg hB,if_pos hA]
      have ee:ij af ⟨i,false⟩=vB af i:=rfl
      rw[en] at hg
      simp only[ee] at hg
      have hw1:vB af i<N:=by omega
      generalize hw:vB af i=w at hg hw1 eB kB
      rw[hw] at eqB
      have hnn:¬ (w:Int)<0:=by omega
      have hsa:(∀y∈bO dJ,y.length=1)∧dJ.length≤LB∧dJ.length*8≤140737488355328:=⟨BC _,by omega,by omega⟩
      rcases aa (w∈dJ) with h5|h5
      ·have k5:=decide_eq_true h5
       rw[if_pos h5] at hg
       refine iQ hm ?_
       simp -implicitDefEqProofs only[go_sem,ki,kA,hi2,eA,eB,kB]
       refine bQ [] (jZ dJ w) ?_ ?_<;>simp -implicitDefEqProofs only[go_sem,hnn]
       simp -implicitDefEqProofs only[go_sem,k5,dR]
       refine sQ ?_
       refine⟨i+1,?_,sL,aw [] ?_ ?_ rfl rfl⟩
       rotate_left
       ·exact sC
       ·exact sC
       exact⟨by omega,hg⟩
      ·have k5:=decide_eq_false h5
       rw[if_neg h5] at hg
       have hnd:(dJ++[w]).Nodup:=df.2 ⟨h1,by simp,fun x hx y hy e1=>by
        simp only[ay,bn,or_false] at hy
        rw[e1,hy] at hx
        exact h5 hx⟩
       have mr:∀x∈dJ++[w],x<N:=fun x hx=>by
        rcases aR.1 hx with hx|hx
        ·exact h2 x hx
        ·simp only[ay,bn,or_false] at hx
         omega
       have hc:=ih (by omega) w (dJ++[w]) hnd mr (by simp;omega)
       rw[←lY,show bO [w]=[[.val (.int .i64 (w:Int))]] from rfl] at hc
       cases hr:tw af n to f w (dJ++[w]) with
       | none=>
         rw[hr] at hg hc
         simp only at hg
         refine iQ hm ?_
         simp -implicitDefEqProofs only[go_sem,ki,kA,hi2,eA,eB,kB]
         refine bQ [] (jZ dJ w) ?_ ?_<;>simp -implicitDefEqProofs only[go_sem,hnn]
         simp -implicitDefEqProofs only[go_sem,k5]
         refine sQ ?_
         refine oC [] [2] (tH (e:=3) (args:=[lv (a7 af),iv n,iv w,iv to,.acc 0]) (ik.cons (Vw.same rfl) (ik.cons (Vw.same rfl) (ik.cons (Vw.same rfl) (ik.cons (Vw.same rfl) (ik.cons (Vw.acc rfl rfl) ik.nil))))) rfl hc) ?_
         simp -implicitDefEqProofs only[go_sem,aU,aZ,dR]
         refine sQ ?_
         refine⟨i+1,?_,sL,aw [] ?_ ?_ rfl rfl⟩
         rotate_left
         ·exact sC
         ·exact sC
         exact⟨by omega,hg⟩
       | some r=>
         rw[hr] at hg hc
         simp only[aJ,aK] at hg hc
         have hrl:=AA hr
         have jf:(∀y∈bG (r.map uc),y.length=1)∧1+r.length≤LB∧(1+r.length)*8≤140737488355328:=⟨fP _,by omega,by omega⟩
         refine ff (iQ hm ?_)
         simp -implicitDefEqProofs only[go_sem,ki,dR,dK]
         refine ff (El ?_)
         refine ff (iQ hm ?_)
         simp -implicitDefEqProofs only[go_sem,dR,dK]
         refine ff (iQ hm ?_)
         simp -implicitDefEqProofs only[go_sem,dR,dK]
         refine ff (iQ hm ?_)
         simp -implicitDefEqProofs only[go_sem,hi2,eA,eB,kA,dR,dK]
         refine ff (iQ hm ?_)
         simp -implicitDefEqProofs only[go_sem,hi2,eA,eB,kB,dR,dK]
         refine ff (iQ hm ?_)
         simp -implicitDefEqProofs only[go_sem,hnn]
         refine aC [] (jZ dJ w) ?_
         simp -implicitDefEqProofs only[go_sem,k5,dR,dK]
         refine ff (iQ hm ?_)
         refine sA ?_
         refine sQ ?_
         refine oC [] [2] (tH (e:=3) (args:=[lv (a7 af),iv n,iv w,iv to,.acc 0]) (ik.cons (Vw.same rfl) (ik.cons (Vw.same rfl) (ik.cons (Vw.same rfl) (ik.cons (Vw.same rfl) (ik.cons (Vw.acc rfl rfl) ik.nil))))) rfl hc) ?_
         refine ff (iQ hm ?_)
         simp -implicitDefEqProofs only[go_sem,dR,dK]
         refine KH (b:=true) rfl (fun _=>?_) (fun h=>by cases h)
         refine ff (oz ?_)
         refine iX rfl (fj ?_)
         refine sA ?_
         refine iX rfl (fe (pg 38 3 1 3 _ _ _ [[.val (.int .i64 ((i:Int)))]] rfl rfl rfl rfl rfl (by simp -implicitDefEqProofs only[go_sem]) rfl (by decide) rfl) ?_)
         refine sA ?_
         refine iX rfl (fj ?_)
         refine sA ?_
         refine iX rfl (fj ?_)
         refine sA ?_
         refine sQ ?_
         refine iX rfl (fj ?_)
         refine sA ?_
         refine iX rfl (fj ?_)
         refine sA ?_
         refine uB ?_
         simp -implicitDefEqProofs only[go_sem,dK]
         refine QZ ?_
         simp only[Cr,xV,qF]
         refine sA ?_
         refine eJ ?_
         refine an ?_
         refine sA ?_
         rw[hg]
         ((repeat' apply ar)<;>rfl)
     ·have kA:¬vA af i=v:=by omega
      have en:pH af v i=none:=by rw[pH,if_neg hB,if_neg hA]
      rw[en] at hg
      simp only at hg
      refine iQ hm ?_
      simp -implicitDefEqProofs only[go_sem,Z2,ki,hi2,eA,eB,kA,kB,dR]
      refine sQ ?_
      refine⟨i+1,?_,sL,aw [] ?_ ?_ rfl rfl⟩
      rotate_left
      ·exact sC
      ·exact sC
      exact⟨by omega,hg⟩
   ·rw[pf (by omega),uG] at hg
    refine iQ hm ?_
    simp -implicitDefEqProofs only[go_sem,ki,dR]
    refine eJ ?_
    refine an ?_
    refine sA ?_
    rw[hg]
    ((repeat' apply ar)<;>rfl)
section
variable(ae:List Term)(eqs:List iy)(af:List Step)
theorem Kg(eP:lq ae eqs af)(hk:gQ ae)(oW:ae.length≤1000)(hk9:∀t∈ae,t.kids.length≤1000)(f:Nat)
 (ih:∀n a b,n<f→n≤af.length→a<ae.length→b<ae.length→cl (aV ae.length af n) a=cl (aV ae.length af n) b→C E.P 129 [lv (aP ae),lv (a7 af),iv n,iv a,iv b] [] (bM (av (oX (lf ae af f n a b))) []))
 (i:Nat) (hi:i<af.length) (hf:i<f):C E.P 200 [lv (aP ae),lv (a7 af),iv i] [] (bM (av (oX (uH ae af (lf ae af f) i))) []):=by
 have hs:=rY hi
 have hso:=ot eP hi
 have a0:=hso.a0
 have b0:=hso.b0
 have a1:=Fw eP hi
 have b1:=FH eP hi
 have eA:af[i].A=(vA af i:Int):=by rw[vA,hs];rw[hs] at a0;omega
 have eB:af[i].B=(vB af i:Int):=by rw[vB,hs];rw[hs] at b0;omega
 have XW:=hso.XW
 have hE:uH ae af (lf ae af f) i=if af[i].given<0 then .mk 5 0 (.mk (ae.getD (vA af i) aL).name []) (((ae.getD (vA af i) aL).kids.zip (ae.getD (vB af i) aL).kids).map fun p=>lf ae af f i (aH ae p.1) (aH ae p.2)) else .mk 2 af[i].given aL []:=by rw[uH,hs]
 rw[hs] at XW
 refine gS (nt:=74) (rs:=[.cell 6 37]) hm Tryz.func200 fun hl he cI=>?_
 rcases aa (0≤af[i].given) with h0|h0
 ·rw[if_neg (by omega)] at hE
  simp -implicitDefEqProofs only[go_sem,hi,h0]
  refine an ?_
  refine sA ?_
  rw[hE]
  ((repeat' apply ar)<;>rfl)
 ·rw[if_pos (by omega)] at hE
  have hal:alike ae (aV ae.length af i) (vA af i) (vB af i)=true:=by
   rcases XW with h|⟨n,h,_⟩
   ·rw[vA,vB,hs];exact h.2
   ·omega
  obtain⟨q1,q2,q3,q4⟩:=LW hal
  have gA:ae.getD (vA af i) aL=ae[vA af i]:=by rw[az,ah a1];rfl
  have gB:ae.getD (vB af i) aL=ae[vB af i]:=by rw[az,ah b1];rfl
  have mA:=ak a1
  have mB:=ak b1
  obtain⟨x,hx⟩:∃x,ae[vA af i]=x:=⟨_,rfl⟩
  obtain⟨y,hy⟩:∃y,ae[vB af i]=y:=⟨_,rfl⟩
  rw[hx] at gA mA
  rw[hy] at gB mB
  rw[gA] at q1 q2 q3 q4 hE
  rw[gB] at q2 q3 q4 hE
  have kx:=hk _ mA
  have ky:=hk _ mB
  have kl:=hk9 _ mA
  simp -implicitDefEqProofs only[go_sem,hi,h0,eA,eB,a1,b1,hx,hy]
  refine aO hm (fun(k:Nat)=> k≤x.kids.length) (fun(k:Nat)=> ⟨dB 74 .any [(0,lv (aP ae)),(1,lv (a7 af)),(2,iv i),(6,.ptr 0 0),(7,.ptr 1 0),(8,.ptr 2 0),(9,.ptr 3 0),(10,iv k)],[some (.box (cF (oX vO))),some (.box (cF (cT x))),some (.box (cF (cT y))),some (.box [iv 5,iv 0,sv x.name,lv [],.acc 4]),some (.acc 37 (gR (((x.kids.zip y.kids).take k).map fun p=>lf ae af f i (aH ae p.1) (aH ae p.2))))]⟩) (fun(k:Nat)=> x.kids.length-k) (0) ?_ (aw [some 0,some 1,some 2,some 3,none] ?_ ?_ rfl rfl) ?_
  rotate_left
  ·exact sC
  ·exact sC
  rotate_left
  ·omega
  ·rintro k hk1
   rcases aa (k<x.kids.length) with h1|h1
   ·have h2:k<y.kids.length:=by omega
    have mx:=kx _ (ak h1)
    have my:=ky _ (ak h2)
    have px:=bx mx
    have py:=bx my
    have cx:=b7 mx
    have cy:=b7 my
    have hc:=ih i (aH ae x.kids[k]) (aH ae y.kids[k]) hf (by omega) px py (q4 k h1 h2)
    have hz:=LK (f:=fun p=>lf ae af f i (aH ae p.1) (aH ae p.2)) h1 h2
    have hzl:(((x.kids.zip y.kids).take k).map fun p=>lf ae af f i (aH ae p.1) (aH ae p.2)).length≤1000:=by simp;omega
    simp -implicitDefEqProofs only[go_sem,h1]
    refine bQ [] (cL ae x.kids[k]) ?_ ?_<;>simp -implicitDefEqProofs only[go_sem,cx,h2]
    refine bQ [] (cL ae y.kids[k]) ?_ ?_<;>simp -implicitDefEqProofs only[go_sem,cy]
    refine aC [] hc ?_
    refine sQ ?_
    refine⟨k+1,?_,sL,aw [some 0,some 1,some 2,some 3,some 5] ?_ ?_ rfl rfl⟩
    rotate_left
    ·exact sC
    ·refine sA ?_
     all_goals((rw[hz,←C7,j7,lj];rfl))
    exact h1
   ·have et:(x.kids.zip y.kids).take k=x.kids.zip y.kids:=List.take_of_length_le (by simp;omega)
    simp -implicitDefEqProofs only[go_sem,h1]
    refine an ?_
    refine sA ?_
    rw[hE,et]
    ((repeat' apply ar)<;>rfl)
theorem KC(eP:lq ae eqs af)(hk:gQ ae)(oW:ae.length≤1000)(hk9:∀t∈ae,t.kids.length≤1000)(hs9:af.length≤2000000):∀(f n a b:Nat),n<f→n≤af.length→a<ae.length→b<ae.length→cl (aV ae.length af n) a=cl (aV ae.length af n) b →
 C E.P 129 [lv (aP ae),lv (a7 af),iv n,iv a,iv b] [] (bM (av (oX (lf ae af f n a b))) []):=by
 intro f
 induction f with
 | zero=>intro n a b h;omega
 | succ f ih=>
 intro n a b hnf hn ha hb hab
 have hv:∀s∈af,0≤s.A∧s.A.toNat<ae.length∧0≤s.B∧s.B.toNat<ae.length:=fun s hs=>by
  obtain⟨i,hi,rfl⟩:=List.mem_iff_getElem.1 hs
  have:=eP i _ (ah hi)
  exact⟨this.a0,this.a1,this.b0,this.b1⟩
 have hway:=XY eP hn ha hb hab
 obtain⟨w1,w2,w3⟩:=rE eP hn ha hb hab
 have cw:=KQ af ae.length n b hv hn oW hs9 ae.length (by omega) a [a] (by simp) (fun x hx=>by simp at hx;omega) (by simp)
 rw[hway] at cw
 have ga:ae.getD a aL=ae[a]:=by rw[az,ah ha];rfl
 obtain⟨way,hw⟩:∃w,lO ae.length af n a b=w:=⟨_,rfl⟩
 have hF:=Ro ae af f n a b
 rw[hw] at hF
 have hwl:way.length≤ae.length:=by
  rw[hw] at w3 w2 w1
  have h1:=j8 w3 (fun v hv=>by
   simp only[gO,ay,List.mem_map] at hv
   rcases hv with rfl|⟨e,he,rfl⟩
   ·exact ha
   ·exact xO eP (by have:=w1 e he;omega))
  simp[gO] at h1
  omega
 rw[hw] at cw w1
 rw[show bO [a]=[[.val (.int .i64 (a:Int))]] from rfl] at cw
 simp only[aK,aJ] at cw
 have hll:(way.map uc).length=way.length:=by simp
 refine gS (nt:=69) (rs:=[.cell 10 37]) hm Tryz.func129 fun hl he cI=>?_
 refine aC [] cw ?_
 rcases Nat.eq_zero_or_pos way.length with hz|hz
 ·obtain rfl:=List.length_eq_zero_iff.1 hz
  rw[Qp] at hF
  simp -implicitDefEqProofs only[go_sem,ha]
  refine aC [] (gF ae[a]) ?_
  refine an ?_
  refine sA ?_
  rw[hF,ga]
  ((repeat' apply ar)<;>rfl)
 ·have jv:¬ (way.length:Int)=0:=by omega
  have hz':(0:Int)<(way.length:Int):=by omega
  simp -implicitDefEqProofs only[go_sem,jv]
  refine dm hm (fun(i:Nat) (w:l9)=> i≤way.length∧((i=0∧w=vO)∨(1≤i∧lf ae af (f+1) n a b=ox (kH ae af (lf ae af f)) w (way.drop i)))) (fun(i:Nat) (w:l9)=> ⟨dB 69 .any [(0,lv (aP ae)),(1,lv (a7 af)),(10,.ptr 0 0),(11,lv (bG (way.map uc))),(13,.ptr 1 0),(14,iv i)],[some (.box (cF (oX vO))),some (.box (cF (oX w)))]⟩) (fun(i:Nat) (w:l9)=> way.length-i) (0) (vO) ?_ (aw [some 0,some 1] ?_ ?_ rfl rfl) ?_
  rotate_left
  ·exact sC
  ·exact sC
  rotate_left
  ·exact⟨bh _,.inl ⟨rfl,rfl⟩⟩
  ·rintro i w ⟨hi,hg⟩
   rcases aa (i<way.length) with h1|h1
   ·have h1':i<(way.map uc).length:=by omega
    have ju:=w1 _ (ak h1)
    have eg:(way.map uc)[i]=uc way[i]:=by simp
    have hco:=Kg ae eqs af eP hk oW hk9 f ih way[i].step (by omega) (by omega)
    have hed:=GN ae af (lf ae af f) way[i]
    have hd0:=aj h1
    cases hb2:way[i].back
    ·have es1:uc way[i]=(way[i].step:Int):=by rw[uc,hb2];rfl
     have hnn:¬ (way[i].step:Int)<0:=by omega
     rw[hb2,if_neg (by simp)] at hed
     rcases hg with⟨rfl,rfl⟩|⟨hi1,hg⟩
     ·simp -implicitDefEqProofs only[go_sem,hll,h1,eg,es1,hnn,hz']
      refine aC [] hco ?_
      refine sQ ?_
      refine⟨1,kH ae af (lf ae af f) way[0],?_,sL,aw [some 0,some 1] ?_ ?_ rfl rfl⟩
      rotate_left
      ·refine sA ?_
       all_goals(simp[*];done)
      ·refine sA ?_
       all_goals((rw[hed];(repeat' apply ar)<;>rfl))
      refine⟨by omega,.inr ⟨aI _,?_⟩⟩
      rw[hF,wP hz]
     ·have k0:¬ (i:Int)=0:=by omega
      rw[hd0,ox] at hg
      simp -implicitDefEqProofs only[go_sem,hll,h1,eg,es1,hnn]
      refine aC [] hco ?_
      simp -implicitDefEqProofs only[go_sem,k0]
      refine sQ ?_
      refine⟨i+1,.mk 4 0 aL [w,kH ae af (lf ae af f) way[i]],?_,sL,aw [some 0,some 1] ?_ ?_ rfl rfl⟩
      rotate_left
      ·exact sC
      ·refine sA ?_
       all_goals((rw[hed];exact⟨rfl,rfl,rfl,rfl,(MJ _ _).symm⟩))
      exact⟨by omega,.inr ⟨by omega,hg⟩⟩
    ·have es1:uc way[i] = -1-(way[i].step:Int):=by rw[uc,hb2];rfl
     have hnn:-1-(way[i].step:Int)<0:=by omega
     have hmm:-1-(-1-(way[i].step:Int))=(way[i].step:Int):=by omega
     rw[hb2,if_pos rfl] at hed
     rcases hg with⟨rfl,rfl⟩|⟨hi1,hg⟩
     ·simp -implicitDefEqProofs only[go_sem,hll,h1,eg,es1,hnn,hz']
      refine sQ ?_
      simp -implicitDefEqProofs only[go_sem,hmm]
      refine aC [] hco ?_
      refine sQ ?_
      refine⟨1,kH ae af (lf ae af f) way[0],?_,sL,aw [some 0,some 1] ?_ ?_ rfl rfl⟩
      rotate_left
      ·refine sA ?_
       all_goals(simp[*];done)
      ·refine sA ?_
       all_goals((rw[hed];exact⟨rfl,rfl,rfl,rfl,(Mi _).symm⟩))
      refine⟨by omega,.inr ⟨aI _,?_⟩⟩
      rw[hF,wP hz]
     ·have k0:¬ (i:Int)=0:=by omega
      rw[hd0,ox] at hg
      simp -implicitDefEqProofs only[go_sem,hll,h1,eg,es1,hnn]
      refine sQ ?_
      simp -implicitDefEqProofs only[go_sem,hmm]
      refine aC [] hco ?_
      simp -implicitDefEqProofs only[go_sem,k0]
      refine sQ ?_
      refine⟨i+1,.mk 4 0 aL [w,kH ae af (lf ae af f) way[i]],?_,sL,aw [some 0,some 1] ?_ ?_ rfl rfl⟩
      rotate_left
      ·exact sC
      ·refine sA ?_
       all_goals((rw[hed];exact⟨rfl,rfl,rfl,rfl,(Uw _ _).symm⟩))
      exact⟨by omega,.inr ⟨by omega,hg⟩⟩
   ·rcases hg with⟨rfl,_⟩|⟨hi1,hg⟩
    ·omega
    ·rw[al (by omega),ox] at hg
     simp -implicitDefEqProofs only[go_sem,hll,h1]
     refine an ?_
     refine sA ?_
     rw[hg]
     ((repeat' apply ar)<;>rfl)
end
end Go.Proofs.YtabembjmeobhoaaGreat
