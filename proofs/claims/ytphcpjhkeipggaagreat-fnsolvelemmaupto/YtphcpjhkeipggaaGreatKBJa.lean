/-
  Plain laws on what an explanation derives. A step towards the exact laws.
-/
import Derived.Test.YtphcpjhkeipggaaGreatKBH
set_option linter.unusedVariables false
set_option linter.unusedSimpArgs false
open Int renaming reduceEq→Z1,reduceLT→Z2,reduceLE→Z3,reduceToNat→Z4
open Bool renaming false_eq_true→au,true_and→aA,false_and→aI
open Classical renaming em→aa
open Int renaming reduceEq→jz
open List renaming getElem_mem→aj,drop_of_length_le→ak,append_nil→bE,map_append→dM
open Option renaming map_some→cZ,map_none→eW
namespace Go.Proofs.YtphcpjhkeipggaaGreat
open Go.Eng Go.Mod
set_option maxRecDepth 100000
theorem u5(f:Int→Int→ax→List hY→hY×Bool)(w:lH)(d:Nat):cp f w (d+1)=match dC f w.ar d with
 | none=>(xL,false)
 | some ar=>f w.kD w.n w.t ar:=by
 cases w;simp only[cp,lH.ar,lH.kD,lH.n,lH.t];rfl
theorem pw{f:Int→Int→ax→List hY→hY×Bool}{ws:List lH}{i:Nat}(h:i<ws.length)(d:Nat):dC f (ws.drop i) d=if(cp f ws[i] d).2 then(dC f (ws.drop (i+1)) d).map (fun es=>(cp f ws[i] d).1::es) else none:=by rw[List.drop_eq_getElem_cons h,dC]
theorem NV{α:Type}(f:α→ax){xs:List α}{i:Nat}(h:i<xs.length):aU ((xs.take i).map f)++[cT (f xs[i])]=aU ((xs.take (i+1)).map f):=by
 have e:xs.take (i+1)=xs.take i++[xs[i]]:=by rw[List.take_add_one,List.getElem?_eq_getElem h];rfl
 rw[e,dM,nb,nb,dM];rfl
set_option maxHeartbeats 3200000
theorem Bi(bB:List hY)(w:lH)(ih:∀k∈w.ar,∀d:Nat,d≤400→CN 239 [av (jn k),lv (dF bB),iv (401-d)] (.iZ [av (FV (cp (bZ bB) k d).1),bv (cp (bZ bB) k d).2]))(d:Nat)(hd:d+1≤400)(r1:w.kD=1) :
 CN 239 [av (jn w),lv (dF bB),iv (401-((d+1:Nat):Int))] (.iZ [av (FV (cp (bZ bB) w (d+1)).1),bv (cp (bZ bB) w (d+1)).2]):=by
 have ht:=u5 (bZ bB) w d
 refine gS 210 [.cell 6 217,.tmp 7] hm Tryz.func239 fun hl he cf=>?_
 have e:¬ (400:Int)<401-((d:Int)+1):=oM
 have e2:(401:Int)-((d:Int)+1)+1=401-(d:Int):=oM
 refine bH e ?_
 refine ry hm w.ar.length (fun(i:Nat) (got:List hY)=>got.length=i∧dC (bZ bB) w.ar d=(dC (bZ bB) (w.ar.drop i) d).map (fun es=>got++es)) (fun i got=>⟨dN 210 .any [(1,lv (dF bB)),(2,iv (401-((d:Int)+1))),(3,.bA 0 0),(6,.bA 1 0),(8,.aX 2),(20,lv (fA w.ar)),(21,iv w.ar.length),(22,iv i)],[some (.box (dm (jn w))),some (.box (dm (FV xL))),some (.aX 217 (dF got))]⟩) ([]) ?_ (cM [some 0,some 1,none]) ?_
 ·simp
 ·rintro i got ⟨hi,hgl,hg⟩
  rcases aa (i<w.ar.length) with h1|h1
  ·rw[pw h1] at hg
   refine bH h1 ?_
   refine⟨oM,?_⟩
   have hc:=ih w.ar[i] (aj h1) d oM
   refine dy [] hc ?_ ?_<;>simp -implicitDefEqProofs only[go_sem,e2]
   cases h2:(cp (bZ bB) w.ar[i] d).2
   ·rw[h2] at hg
    simp only[au,if_false,eW] at hg
    rw[hg] at ht
    simp only at ht
    refine bt ?_
    simp[ht,Hz,H5,o3,oU,il]
   ·rw[h2] at hg
    simp only[if_true] at hg
    refine sA ?_
    refine⟨oM,oM,?_⟩
    refine⟨i+1,got++[(cp (bZ bB) w.ar[i] d).1],?_,sL,aZ [some 0,some 1,some 5] sC (by refine sA ?_;(rw[←nK,lr,lJ];rfl)) rfl rfl⟩
    refine⟨h1,by simp[hgl],?_⟩
    rw[hg]
    cases dC (bZ bB) (w.ar.drop (i+1)) d<;>simp
  ·rw[ak oM,dC] at hg
   simp only[cZ,bE] at hg
   rw[hg] at ht
   simp only at ht
   have gl:(got.length:Int)≤LB:=oM
   rcases aa (w.n=0) with hn|hn
   ·rcases aa ((got.length:Int)=0) with hz|hz
    ·have hz':got.length=0:=oM
     simp -implicitDefEqProofs only[go_sem,Z1,h1,r1,hn,hz,jz]
     refine sa [] (kd w.t) ?_
     skip
     refine bt ?_
     simp[ht,bZ,r1,hn,hz']
    ·have hz':¬got.length=0:=oM
     simp -implicitDefEqProofs only[go_sem,Z1,h1,r1,hn,hz,jz]
     refine iK ?_
     skip
     refine bt ?_
     simp[ht,bZ,r1,hn,hz']
   ·simp -implicitDefEqProofs only[go_sem,Z1,h1,r1,hn,jz]
    refine bt ?_
    simp[ht,bZ,r1,hn]
theorem Ak(bB:List hY)(w:lH)(ih:∀k∈w.ar,∀d:Nat,d≤400→CN 239 [av (jn k),lv (dF bB),iv (401-d)] (.iZ [av (FV (cp (bZ bB) k d).1),bv (cp (bZ bB) k d).2]))(d:Nat)(hd:d+1≤400)(r2:w.kD=2) :
 CN 239 [av (jn w),lv (dF bB),iv (401-((d+1:Nat):Int))] (.iZ [av (FV (cp (bZ bB) w (d+1)).1),bv (cp (bZ bB) w (d+1)).2]):=by
 have ht:=u5 (bZ bB) w d
 refine gS 210 [.cell 6 217,.tmp 7] hm Tryz.func239 fun hl he cf=>?_
 have e:¬ (400:Int)<401-((d:Int)+1):=oM
 have e2:(401:Int)-((d:Int)+1)+1=401-(d:Int):=oM
 refine bH e ?_
 refine ry hm w.ar.length (fun(i:Nat) (got:List hY)=>got.length=i∧dC (bZ bB) w.ar d=(dC (bZ bB) (w.ar.drop i) d).map (fun es=>got++es)) (fun i got=>⟨dN 210 .any [(1,lv (dF bB)),(2,iv (401-((d:Int)+1))),(3,.bA 0 0),(6,.bA 1 0),(8,.aX 2),(20,lv (fA w.ar)),(21,iv w.ar.length),(22,iv i)],[some (.box (dm (jn w))),some (.box (dm (FV xL))),some (.aX 217 (dF got))]⟩) ([]) ?_ (cM [some 0,some 1,none]) ?_
 ·simp
 ·rintro i got ⟨hi,hgl,hg⟩
  rcases aa (i<w.ar.length) with h1|h1
  ·rw[pw h1] at hg
   refine bH h1 ?_
   refine⟨oM,?_⟩
   have hc:=ih w.ar[i] (aj h1) d oM
   refine dy [] hc ?_ ?_<;>simp -implicitDefEqProofs only[go_sem,e2]
   cases h2:(cp (bZ bB) w.ar[i] d).2
   ·rw[h2] at hg
    simp only[au,if_false,eW] at hg
    rw[hg] at ht
    simp only at ht
    refine bt ?_
    simp[ht,Hz,H5,o3,oU,il]
   ·rw[h2] at hg
    simp only[if_true] at hg
    refine sA ?_
    refine⟨oM,oM,?_⟩
    refine⟨i+1,got++[(cp (bZ bB) w.ar[i] d).1],?_,sL,aZ [some 0,some 1,some 5] sC (by refine sA ?_;(rw[←nK,lr,lJ];rfl)) rfl rfl⟩
    refine⟨h1,by simp[hgl],?_⟩
    rw[hg]
    cases dC (bZ bB) (w.ar.drop (i+1)) d<;>simp
  ·rw[ak oM,dC] at hg
   simp only[cZ,bE] at hg
   rw[hg] at ht
   simp only at ht
   have gl:(got.length:Int)≤LB:=oM
   simp -implicitDefEqProofs only[go_sem,Z1,h1,r2,jz]
   refine aC [] (gW w.t) ?_
   cases hq:isNone w.t
   ·refine bt ?_
    simp[ht,bZ,r2,hq]
   ·simp -implicitDefEqProofs only[go_sem,Z1]
    rcases aa ((0:Int)<(got.length:Int)) with hz|hz
    ·have hz':0<got.length:=oM
     refine du hz ?_
     simp[ht,bZ,r2,hq,hz']
    ·have hz':¬0<got.length:=oM
     refine bH hz ?_
     refine⟨oM,?_⟩
     refine aC [] (fQ w.n 0 ((bB.length:Int)-1)) ?_
     cases hw:cK w.n 0 ((bB.length:Int)-1)
     ·refine bt ?_
      simp[ht,bZ,r2,hq,hz',hw]
     ·have hw':=dB.1 hw
      have h0:0≤w.n:=hw'.1
      have nS:w.n.toNat<bB.length:=oM
      have hg2:bB.getD w.n.toNat xL=bB[w.n.toNat]:=pn nS _
      refine iI h0 nS ?_
      have e3:cp (bZ bB) w (d+1)=(bB[w.n.toNat],true):=by rw[ht,←hg2];simp[bZ,r2,hq,hz',hw]
      exact dD e3
theorem y6(bB:List hY)(w:lH)(ih:∀k∈w.ar,∀d:Nat,d≤400→CN 239 [av (jn k),lv (dF bB),iv (401-d)] (.iZ [av (FV (cp (bZ bB) k d).1),bv (cp (bZ bB) k d).2]))(d:Nat)(hd:d+1≤400)(r3:w.kD=3) :
 CN 239 [av (jn w),lv (dF bB),iv (401-((d+1:Nat):Int))] (.iZ [av (FV (cp (bZ bB) w (d+1)).1),bv (cp (bZ bB) w (d+1)).2]):=by
 have ht:=u5 (bZ bB) w d
 refine gS 210 [.cell 6 217,.tmp 7] hm Tryz.func239 fun hl he cf=>?_
 have e:¬ (400:Int)<401-((d:Int)+1):=oM
 have e2:(401:Int)-((d:Int)+1)+1=401-(d:Int):=oM
 refine bH e ?_
 refine ry hm w.ar.length (fun(i:Nat) (got:List hY)=>got.length=i∧dC (bZ bB) w.ar d=(dC (bZ bB) (w.ar.drop i) d).map (fun es=>got++es)) (fun i got=>⟨dN 210 .any [(1,lv (dF bB)),(2,iv (401-((d:Int)+1))),(3,.bA 0 0),(6,.bA 1 0),(8,.aX 2),(20,lv (fA w.ar)),(21,iv w.ar.length),(22,iv i)],[some (.box (dm (jn w))),some (.box (dm (FV xL))),some (.aX 217 (dF got))]⟩) ([]) ?_ (cM [some 0,some 1,none]) ?_
 ·simp
 ·rintro i got ⟨hi,hgl,hg⟩
  rcases aa (i<w.ar.length) with h1|h1
  ·rw[pw h1] at hg
   refine bH h1 ?_
   refine⟨oM,?_⟩
   have hc:=ih w.ar[i] (aj h1) d oM
   refine dy [] hc ?_ ?_<;>simp -implicitDefEqProofs only[go_sem,e2]
   cases h2:(cp (bZ bB) w.ar[i] d).2
   ·rw[h2] at hg
    simp only[au,if_false,eW] at hg
    rw[hg] at ht
    simp only at ht
    refine bt ?_
    simp[ht,Hz,H5,o3,oU,il]
   ·rw[h2] at hg
    simp only[if_true] at hg
    refine sA ?_
    refine⟨oM,oM,?_⟩
    refine⟨i+1,got++[(cp (bZ bB) w.ar[i] d).1],?_,sL,aZ [some 0,some 1,some 5] sC (by refine sA ?_;(rw[←nK,lr,lJ];rfl)) rfl rfl⟩
    refine⟨h1,by simp[hgl],?_⟩
    rw[hg]
    cases dC (bZ bB) (w.ar.drop (i+1)) d<;>simp
  ·rw[ak oM,dC] at hg
   simp only[cZ,bE] at hg
   rw[hg] at ht
   simp only at ht
   have gl:(got.length:Int)≤LB:=oM
   have r1:¬w.kD=1:=oM
   have r2:¬w.kD=2:=oM
   have r5:¬w.kD=5:=oM
   rcases aa (w.n=0) with hn|hn
   ·simp -implicitDefEqProofs only[go_sem,Z1,h1,r3,hn,jz]
    refine aC [] (gW w.t) ?_
    cases hq:isNone w.t
    ·refine bt ?_
     simp[ht,bZ,r3,hq]
    ·simp -implicitDefEqProofs only[go_sem,Z1]
     rcases aa ((got.length:Int)=1) with hz|hz
     ·have hz':got.length=1:=oM
      have h0:0<got.length:=oM
      have hg0:got.getD 0 xL=got[0]:=pn h0 _
      refine oH hz h0 ?_
      have e3:cp (bZ bB) w (d+1)=(⟨got[0].B,got[0].A⟩,true):=by rw[ht,←hg0];simp[bZ,r3,hn,hq,hz']
      exact dD e3
     ·have hz':¬got.length=1:=oM
      refine du hz ?_
      simp[ht,bZ,r3,hn,hq,hz']
   ·simp -implicitDefEqProofs only[go_sem,Z1,h1,r3,hn,jz]
    refine bt ?_
    simp[ht,bZ,r3,hn]
theorem zZ(bB:List hY)(w:lH)(ih:∀k∈w.ar,∀d:Nat,d≤400→CN 239 [av (jn k),lv (dF bB),iv (401-d)] (.iZ [av (FV (cp (bZ bB) k d).1),bv (cp (bZ bB) k d).2]))(d:Nat)(hd:d+1≤400)(r1:¬w.kD=1)(r2:¬w.kD=2)(r3:¬w.kD=3)(r4:¬w.kD=4)(r5:¬w.kD=5) :
 CN 239 [av (jn w),lv (dF bB),iv (401-((d+1:Nat):Int))] (.iZ [av (FV (cp (bZ bB) w (d+1)).1),bv (cp (bZ bB) w (d+1)).2]):=by
 have ht:=u5 (bZ bB) w d
 refine gS 210 [.cell 6 217,.tmp 7] hm Tryz.func239 fun hl he cf=>?_
 have e:¬ (400:Int)<401-((d:Int)+1):=oM
 have e2:(401:Int)-((d:Int)+1)+1=401-(d:Int):=oM
 simp -implicitDefEqProofs only[go_sem,e]
 refine jI hm (fun(i:Nat) (got:List hY)=> i≤w.ar.length∧got.length=i∧dC (bZ bB) w.ar d=(dC (bZ bB) (w.ar.drop i) d).map (fun es=>got++es)) (fun(i:Nat) (got:List hY)=> ⟨dN 210 .any [(1,lv (dF bB)),(2,iv (401-((d:Int)+1))),(3,.bA 0 0),(6,.bA 1 0),(8,.aX 2),(20,lv (fA w.ar)),(21,iv w.ar.length),(22,iv i)],[some (.box (dm (jn w))),some (.box (dm (FV xL))),some (.aX 217 (dF got))]⟩) (fun(i:Nat) (got:List hY)=> w.ar.length-i) (0) ([]) ?_ (aZ [some 0,some 1,none] ?_ ?_ rfl rfl) ?_
 rotate_left
 ·exact sC
 ·exact sC
 rotate_left
 ·simp
 ·rintro i got ⟨hi,hgl,hg⟩
  rcases aa (i<w.ar.length) with h1|h1
  ·rw[pw h1] at hg
   refine uA ?_
   refine⟨oM,?_⟩
   have hc:=ih w.ar[i] (aj h1) d oM
   refine dy [] hc ?_ ?_<;>simp -implicitDefEqProofs only[go_sem,e2]
   cases h2:(cp (bZ bB) w.ar[i] d).2
   ·rw[h2] at hg
    simp only[au,if_false,eW] at hg
    rw[hg] at ht
    simp only at ht
    refine sA ?_
    refine gZ ?_
    all_goals(simp[ht,Hz,H5,o3,oU,il];done)
   ·rw[h2] at hg
    simp only[if_true] at hg
    refine sA ?_
    refine⟨oM,oM,?_⟩
    refine⟨i+1,got++[(cp (bZ bB) w.ar[i] d).1],?_,sL,aZ [some 0,some 1,some 5] ?_ ?_ rfl rfl⟩
    rotate_left
    ·exact sC
    ·refine sA ?_
     all_goals((rw[←nK,lr,lJ];rfl))
    refine⟨h1,by simp[hgl],?_⟩
    rw[hg]
    cases dC (bZ bB) (w.ar.drop (i+1)) d<;>simp
  ·rw[ak oM,dC] at hg
   simp only[cZ,bE] at hg
   rw[hg] at ht
   simp only at ht
   have gl:(got.length:Int)≤LB:=oM
   rcases aa (w.n=0) with hn|hn
   ·simp -implicitDefEqProofs only[go_sem,h1,r1,r5,r2,hn]
    refine aC [] (gW w.t) ?_
    cases hq:isNone w.t
    ·refine sA ?_
     refine gZ ?_
     all_goals(simp[ht,bZ,r1,r2,r5,hq];done)
    ·simp -implicitDefEqProofs only[go_sem,r1,r2,r3,r4,r5]
     refine gZ ?_
     all_goals(simp[ht,bZ,r1,r2,r3,r4,r5,hn,hq];done)
   ·simp -implicitDefEqProofs only[go_sem,h1,r2,hn]
    refine gZ ?_
    all_goals(simp[ht,bZ,r2,hn];done)
theorem zU(bB:List hY)(w:lH)(ih:∀k∈w.ar,∀d:Nat,d≤400→CN 239 [av (jn k),lv (dF bB),iv (401-d)] (.iZ [av (FV (cp (bZ bB) k d).1),bv (cp (bZ bB) k d).2]))(d:Nat)(hd:d+1≤400)(r5:w.kD=5) :
 CN 239 [av (jn w),lv (dF bB),iv (401-((d+1:Nat):Int))] (.iZ [av (FV (cp (bZ bB) w (d+1)).1),bv (cp (bZ bB) w (d+1)).2]):=by
 have ht:=u5 (bZ bB) w d
 refine gS 210 [.cell 6 217,.tmp 7] hm Tryz.func239 fun hl he cf=>?_
 have e:¬ (400:Int)<401-((d:Int)+1):=oM
 have e2:(401:Int)-((d:Int)+1)+1=401-(d:Int):=oM
 simp -implicitDefEqProofs only[go_sem,e]
 refine jI hm (fun(i:Nat) (got:List hY)=> i≤w.ar.length∧got.length=i∧dC (bZ bB) w.ar d=(dC (bZ bB) (w.ar.drop i) d).map (fun es=>got++es)) (fun(i:Nat) (got:List hY)=> ⟨dN 210 .any [(1,lv (dF bB)),(2,iv (401-((d:Int)+1))),(3,.bA 0 0),(6,.bA 1 0),(8,.aX 2),(20,lv (fA w.ar)),(21,iv w.ar.length),(22,iv i)],[some (.box (dm (jn w))),some (.box (dm (FV xL))),some (.aX 217 (dF got))]⟩) (fun(i:Nat) (got:List hY)=> w.ar.length-i) (0) ([]) ?_ (aZ [some 0,some 1,none] ?_ ?_ rfl rfl) ?_
 rotate_left
 ·exact sC
 ·exact sC
 rotate_left
 ·simp
 ·rintro i got ⟨hi,hgl,hg⟩
  rcases aa (i<w.ar.length) with h1|h1
  ·rw[pw h1] at hg
   refine uA ?_
   refine⟨oM,?_⟩
   have hc:=ih w.ar[i] (aj h1) d oM
   refine dy [] hc ?_ ?_<;>simp -implicitDefEqProofs only[go_sem,e2]
   cases h2:(cp (bZ bB) w.ar[i] d).2
   ·rw[h2] at hg
    simp only[au,if_false,eW] at hg
    rw[hg] at ht
    simp only at ht
    refine sA ?_
    refine gZ ?_
    all_goals(simp[ht,Hz,H5,o3,oU,il];done)
   ·rw[h2] at hg
    simp only[if_true] at hg
    refine sA ?_
    refine⟨oM,oM,?_⟩
    refine⟨i+1,got++[(cp (bZ bB) w.ar[i] d).1],?_,sL,aZ [some 0,some 1,some 5] ?_ ?_ rfl rfl⟩
    rotate_left
    ·exact sC
    ·refine sA ?_
     all_goals((rw[←nK,lr,lJ];rfl))
    refine⟨h1,by simp[hgl],?_⟩
    rw[hg]
    cases dC (bZ bB) (w.ar.drop (i+1)) d<;>simp
  ·rw[ak oM,dC] at hg
   simp only[cZ,bE] at hg
   rw[hg] at ht
   simp only at ht
   have gl:(got.length:Int)≤LB:=oM
   rcases aa (w.n=0) with hn|hn
   ·rcases aa ((got.length:Int)=0) with hz|hz
    ·have hz':got.length=0:=oM
     simp -implicitDefEqProofs only[go_sem,Z1,h1,r5,hn,hz,jz]
     refine gZ ?_
     all_goals(simp[ht,bZ,r5,hn,hz'];done)
    ·have hz':¬got.length=0:=oM
     simp -implicitDefEqProofs only[go_sem,Z1,h1,r5,hn,hz,jz]
     refine aC [] (sU w.t.name) ?_
     cases hq:gO w.t.name
     ·refine sA ?_
      refine gZ ?_
      all_goals(simp[ht,bZ,r5,hn,hz',hq];done)
     ·refine sA ?_
      rcases aa ((0:Int)<(w.t.ar.length:Int)) with hk|hk
      ·have hk':0<w.t.ar.length:=oM
       simp -implicitDefEqProofs only[go_sem,hk]
       refine gZ ?_
       all_goals(simp[ht,bZ,r5,hn,hz',hq,hk'];done)
      ·have hk':¬0<w.t.ar.length:=oM
       simp -implicitDefEqProofs only[go_sem,hk]
       refine cS hm (fun(j:Nat)=> j≤got.length) (fun(j:Nat)=> ⟨dN 210 .any [(6,.bA 0 0),(13,.bA 1 0),(175,.aX 2),(176,iv got.length),(177,iv j)],[some (.box (dm (FV xL))),some (.box [.d (.str w.t.name),.aX 3,.d (.str w.t.name),.aX 4]),some (.aX 217 (dF got)),some (.aX 32 (aU ((got.take j).map (·.A)))),some (.aX 32 (aU ((got.take j).map (·.B))))]⟩) (fun(j:Nat)=> got.length-j) (0) ?_ (aZ [some 1,some 3,some 2,none,none] ?_ ?_ rfl rfl) ?_
       rotate_left
       ·exact sC
       ·exact sC
       rotate_left
       ·omega
       ·rintro j hj
        rcases aa (j<got.length) with h3|h3
        ·refine uC ?_
         refine sQ ?_
         refine⟨j+1,?_,sL,aZ [some 0,some 1,some 2,some 6,some 7] ?_ ?_ rfl rfl⟩
         rotate_left
         ·exact sC
         ·refine sA ?_
          all_goals(exact⟨NV _ h3,NV _ h3⟩)
         exact h3
        ·have e3:cp (bZ bB) w (d+1)=(⟨.mk w.t.name (got.map (·.A)),.mk w.t.name (got.map (·.B))⟩,bG (.mk w.t.name (got.map (·.A)))&&bG (.mk w.t.name (got.map (·.B)))):=by rw[ht];simp[bZ,r5,hn,hz',hq,hk']
         have et:got.take j=got:=List.take_of_length_le oM
         simp -implicitDefEqProofs only[go_sem,h3,et]
         refine qj [] [3] (kd (.mk w.t.name (got.map (·.A)))) rfl ?_ ?_ ?_
         ·exact sV
         all_goals simp -implicitDefEqProofs only[go_sem]
         cases hA:bG (.mk w.t.name (got.map (·.A)))
         ·refine sA ?_
          refine iK ?_
          refine gZ ?_
          all_goals(simp[e3,hA];done)
         ·refine sA ?_
          refine qj [] [4] (kd (.mk w.t.name (got.map (·.B)))) rfl ?_ ?_ ?_
          ·exact sV
          all_goals simp -implicitDefEqProofs only[go_sem]
          refine iK ?_
          refine gZ ?_
          all_goals(simp[e3,hA];done)
   ·simp -implicitDefEqProofs only[go_sem,Z1,h1,r5,hn,jz]
    refine gZ ?_
    all_goals(simp[ht,bZ,r5,hn];done)
theorem zX(bB:List hY)(w:lH)(ih:∀k∈w.ar,∀d:Nat,d≤400→CN 239 [av (jn k),lv (dF bB),iv (401-d)] (.iZ [av (FV (cp (bZ bB) k d).1),bv (cp (bZ bB) k d).2]))(d:Nat)(hd:d+1≤400)(r4:w.kD=4) :
 CN 239 [av (jn w),lv (dF bB),iv (401-((d+1:Nat):Int))] (.iZ [av (FV (cp (bZ bB) w (d+1)).1),bv (cp (bZ bB) w (d+1)).2]):=by
 have ht:=u5 (bZ bB) w d
 refine gS 210 [.cell 6 217,.tmp 7] hm Tryz.func239 fun hl he cf=>?_
 have e:¬ (400:Int)<401-((d:Int)+1):=oM
 have e2:(401:Int)-((d:Int)+1)+1=401-(d:Int):=oM
 simp -implicitDefEqProofs only[go_sem,e]
 refine jI hm (fun(i:Nat) (got:List hY)=> i≤w.ar.length∧got.length=i∧dC (bZ bB) w.ar d=(dC (bZ bB) (w.ar.drop i) d).map (fun es=>got++es)) (fun(i:Nat) (got:List hY)=> ⟨dN 210 .any [(1,lv (dF bB)),(2,iv (401-((d:Int)+1))),(3,.bA 0 0),(6,.bA 1 0),(8,.aX 2),(20,lv (fA w.ar)),(21,iv w.ar.length),(22,iv i)],[some (.box (dm (jn w))),some (.box (dm (FV xL))),some (.aX 217 (dF got))]⟩) (fun(i:Nat) (got:List hY)=> w.ar.length-i) (0) ([]) ?_ (aZ [some 0,some 1,none] ?_ ?_ rfl rfl) ?_
 rotate_left
 ·exact sC
 ·exact sC
 rotate_left
 ·simp
 ·rintro i got ⟨hi,hgl,hg⟩
  rcases aa (i<w.ar.length) with h1|h1
  ·rw[pw h1] at hg
   refine uA ?_
   refine⟨oM,?_⟩
   have hc:=ih w.ar[i] (aj h1) d oM
   refine dy [] hc ?_ ?_<;>simp -implicitDefEqProofs only[go_sem,e2]
   cases h2:(cp (bZ bB) w.ar[i] d).2
   ·rw[h2] at hg
    simp only[au,if_false,eW] at hg
    rw[hg] at ht
    simp only at ht
    refine sA ?_
    refine gZ ?_
    all_goals(simp[ht,Hz,H5,o3,oU,il];done)
   ·rw[h2] at hg
    simp only[if_true] at hg
    refine sA ?_
    refine⟨oM,oM,?_⟩
    refine⟨i+1,got++[(cp (bZ bB) w.ar[i] d).1],?_,sL,aZ [some 0,some 1,some 5] ?_ ?_ rfl rfl⟩
    rotate_left
    ·exact sC
    ·refine sA ?_
     all_goals((rw[←nK,lr,lJ];rfl))
    refine⟨h1,by simp[hgl],?_⟩
    rw[hg]
    cases dC (bZ bB) (w.ar.drop (i+1)) d<;>simp
  ·rw[ak oM,dC] at hg
   simp only[cZ,bE] at hg
   rw[hg] at ht
   simp only at ht
   have gl:(got.length:Int)≤LB:=oM
   rcases aa (w.n=0) with hn|hn
   ·simp -implicitDefEqProofs only[go_sem,Z1,h1,r4,hn,jz]
    refine aC [] (gW w.t) ?_
    cases hq:isNone w.t
    ·refine sA ?_
     refine gZ ?_
     all_goals(simp[ht,bZ,r4,hq];done)
    ·simp -implicitDefEqProofs only[go_sem,Z1]
     rcases aa ((got.length:Int)=2) with hz|hz
     ·have hz':got.length=2:=oM
      have h0:0<got.length:=oM
      have h2:1<got.length:=oM
      have hg0:got.getD 0 xL=got[0]:=pn h0 _
      have hg1:got.getD 1 xL=got[1]:=pn h2 _
      have k:=eq_true hz
      simp -implicitDefEqProofs only[go_sem,Z3,Z4,k,h0,h2]
      refine aC [] (gV got[0].B got[1].A) ?_
      refine iK ?_
      rcases aa (got[0].B=got[1].A) with hs|hs
      ·have e3:cp (bZ bB) w (d+1)=(⟨got[0].A,got[1].B⟩,true):=by
        rw[ht,←hg0,←hg1]
        rw[←hg0,←hg1] at hs
        simp only[bZ,r4,hn,hq,hz',hs]
        simp
       simp -implicitDefEqProofs only[go_sem,Z3,Z4,hs,h0,h2]
       refine iK ?_
       refine gZ ?_
       all_goals(simp[e3];done)
      ·have e3:cp (bZ bB) w (d+1)=(xL,false):=by
        rw[ht]
        rw[←hg0,←hg1] at hs
        simp only[bZ,r4,hn,hq,hz',hs]
        simp
       simp -implicitDefEqProofs only[go_sem,hs]
       refine gZ ?_
       all_goals(simp[e3];done)
     ·have hz':¬got.length=2:=oM
      simp -implicitDefEqProofs only[go_sem,hz]
      refine iK ?_
      skip
      refine gZ ?_
      all_goals(simp[ht,bZ,r4,hn,hq,hz'];done)
   ·simp -implicitDefEqProofs only[go_sem,Z1,h1,r4,hn,jz]
    refine gZ ?_
    all_goals(simp[ht,bZ,r4,hn];done)
theorem E8(bB:List hY)(w:lH)(ih:∀k∈w.ar,∀d:Nat,d≤400→CN 239 [av (jn k),lv (dF bB),iv (401-d)] (.iZ [av (FV (cp (bZ bB) k d).1),bv (cp (bZ bB) k d).2]))(d:Nat)(hd:d≤400) :
 CN 239 [av (jn w),lv (dF bB),iv (401-d)] (.iZ [av (FV (cp (bZ bB) w d).1),bv (cp (bZ bB) w d).2]):=by
 cases d with
 | zero=>have ht:cp (bZ bB) w 0=(xL,false):=(by cases w;rfl);refine gS 210 [.cell 6 217,.tmp 7] hm Tryz.func239 fun hl he cf=>?_;have e:(400:Int)<401-0:=oM;simp -implicitDefEqProofs only[go_sem,e];refine gZ ?_;all_goals(simp[ht];done)
 | succ d=>rcases aa (w.kD=1) with r1|r1;exact Bi bB w ih d hd r1;rcases aa (w.kD=2) with r2|r2;exact Ak bB w ih d hd r2;rcases aa (w.kD=3) with r3|r3;exact y6 bB w ih d hd r3;rcases aa (w.kD=4) with r4|r4;exact zX bB w ih d hd r4;rcases aa (w.kD=5) with r5|r5;exact zU bB w ih d hd r5;exact zZ bB w ih d hd r1 r2 r3 r4 r5
theorem GB(bB:List hY):∀(w:lH)(d:Nat),d≤400→CN 239 [av (jn w),lv (dF bB),iv (401-d)] (.iZ [av (FV (cp (bZ bB) w d).1),bv (cp (bZ bB) w d).2]):=
 lH.ind fun r n t ks ih d hd=>E8 bB (.mk r n t ks) ih d hd
theorem zQ(s:eM)(bB:List hY)(w:lH):CN 146 [av (eP s),lv (dF bB),av (jn w)] (.iZ [av (FV ((mc s bB w).getD xL)),bv (mc s bB w).isSome]):=by
 have hw:mc s bB w=if pC s bB&&((cp (bZ bB) w 400).2&&pC s [(cp (bZ bB) w 400).1]) then some (cp (bZ bB) w 400).1 else none:=rfl
 have ht:=GB bB w 400 oM;refine gS 38 [.cell 6 217,.tmp 7] hm Tryz.func146 fun hl he cf=>?_;refine aC [] (EN s bB) ?_;cases h1:pC s bB
 ·rw[h1] at hw;simp only[aI,au,if_false] at hw;refine sA ?_;refine gZ ?_;all_goals(simp[hw];done)
 rw[h1] at hw;simp only[aA] at hw;refine sA ?_;refine dy [] ht ?_ ?_<;>simp -implicitDefEqProofs only[go_sem,Int.reduceSub,Ab];cases h2:(cp (bZ bB) w 400).2
 ·rw[h2] at hw;simp only[aI,au,if_false] at hw;refine sA ?_;refine gZ ?_;all_goals(simp[hw];done)
 rw[h2] at hw;simp only[aA] at hw;refine sA ?_;refine dy [] (EN s [(cp (bZ bB) w 400).1]) ?_ ?_<;>simp -implicitDefEqProofs only[go_sem,lr];cases h3:pC s [(cp (bZ bB) w 400).1]
 ·rw[h3] at hw;simp only[au,if_false] at hw;refine sA ?_;refine gZ ?_;all_goals(simp[hw];done)
 rw[h3] at hw;simp only[if_true] at hw;refine sA ?_;refine aC [] (gq (cp (bZ bB) w 400).1.A) ?_;refine aC [] (gq (cp (bZ bB) w 400).1.B) ?_;refine iK ?_;refine gZ ?_;all_goals(simp[hw];done)
end Go.Proofs.YtphcpjhkeipggaaGreat
