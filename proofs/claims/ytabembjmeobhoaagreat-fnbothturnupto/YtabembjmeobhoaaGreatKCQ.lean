/-
  The reference: the walks of constraints and their certificates. A step towards the exact laws.
-/
import Derived.Test.YtabembjmeobhoaaGreatKCI
set_option linter.unusedVariables false
set_option linter.unusedSimpArgs false
open And renaming intro→au
open Bool renaming true_and→aE,false_and→aK
open Classical renaming em→aa
open List renaming drop_eq_getElem_cons→ah,getElem_mem→ak,drop_of_length_le→al,take_of_length_le→ao,all_cons→b8,all_nil→dS
namespace Go.Proofs.YtabembjmeobhoaaGreat
open Go.Eng Go.Mod
open Int renaming reduceEq→Z1,reduceLT→Z2,reduceLE→Z3,reduceToNat→Z4
set_option maxRecDepth 100000
set_option maxHeartbeats 800000
theorem xn(n:Int):C E.P 246 [iv n] [] (bD (bv (nv n)) []):=by
 have cq:=jZ
 refine lU (nt:=9) (rs:=[.tmp 2]) hm Tryz.func246 rfl rfl rfl rfl rfl (fun hl he=>?_)
 simp -implicitDefEqProofs only[go_sem] at hl⊢
 rcases aa (-1000000≤n) with h|h
 ·refine uF ?_
  refine an ?_
  simp -implicitDefEqProofs only[go_sem]
  all_goals(simp[nv,within,h];done)
 ·refine uF ?_
  refine an ?_
  simp -implicitDefEqProofs only[go_sem]
  all_goals(simp[nv,within,h];done)
theorem gZ(l:ir):C E.P 203 [av (eS l)] [] (bD (bv (dU l)) []):=by
 have cq:=jZ
 refine lU (nt:=27) (rs:=[.tmp 2]) hm Tryz.func203 rfl rfl rfl rfl rfl (fun hl he=>?_)
 simp -implicitDefEqProofs only[go_sem] at hl⊢
 refine aM hm (fun(i:Nat)=> i≤l.aG.length∧l.aG.all nv=(l.aG.drop i).all nv) (fun(i:Nat)=> ⟨dH 27 .any [(1,.ptr 0 0),(3,iv i)],[some (.box (cF (eS l)))]⟩) (fun(i:Nat)=> l.aG.length-i) (0) ?_ (ar [some 0] ?_ ?_ rfl rfl) ?_
 rotate_left
 ·simp -implicitDefEqProofs only[go_sem]
 ·simp -implicitDefEqProofs only[go_sem]
 rotate_left
 ·simp
 ·rintro i ⟨hi,hg⟩
  rcases aa (i<l.aG.length) with h1|h1
  ·rw[ah h1,b8] at hg
   refine uA ?_
   refine bp [] (xn l.aG[i]) ?_ ?_<;>simp -implicitDefEqProofs only[go_sem]
   cases h2:nv l.aG[i]
   ·rw[h2,aK] at hg
    have e:dU l=false:=by simp[dU,hg]
    simp -implicitDefEqProofs only[go_sem]
    refine an ?_
    simp -implicitDefEqProofs only[go_sem]
    all_goals(simp[e];done)
   ·rw[h2,aE] at hg
    simp -implicitDefEqProofs only[go_sem]
    repeat(with_reducible apply au;case left=>omega)
    refine⟨i+1,?_,sL,ar [some 0] ?_ ?_ rfl rfl⟩
    rotate_left
    ·simp -implicitDefEqProofs only[go_sem]
    ·simp -implicitDefEqProofs only[go_sem]
    exact⟨by omega,hg⟩
  ·rw[al (by omega),dS] at hg
   rcases aa ((l.aG.length:Int)=4) with h3|h3
   ·have h3':l.aG.length=4:=by omega
    have k3:=eq_true h3
    simp -implicitDefEqProofs only[go_sem,h1,k3]
    refine bp [] (xn l.bound) ?_ ?_<;>simp -implicitDefEqProofs only[go_sem]
    refine an ?_
    simp -implicitDefEqProofs only[go_sem]
    all_goals(simp[dU,hg,h3'];done)
   ·have h3':¬l.aG.length=4:=by omega
    simp -implicitDefEqProofs only[go_sem,h1,h3]
    refine an ?_
    simp -implicitDefEqProofs only[go_sem]
    all_goals(simp[dU,hg,h3'];done)
theorem IG(l:ir):C E.P 202 [av (eS l)] [] (bD (av (eS (pS l))) []):=by
 have cq:=jZ
 refine lU (nt:=35) (rs:=[.cell 2 162]) hm Tryz.func202 rfl rfl rfl rfl rfl (fun hl he=>?_)
 simp -implicitDefEqProofs only[go_sem] at hl⊢
 refine bp [] (gZ l) ?_ ?_<;>simp -implicitDefEqProofs only[go_sem]
 cases h:dU l
 ·simp -implicitDefEqProofs only[go_sem]
  refine an ?_
  simp -implicitDefEqProofs only[go_sem]
  all_goals(simp[pS,h];done)
 ·obtain⟨h4,hc,hb⟩:=gD.1 h
  have e:pS l=⟨l.aG.map fun c=>-c,-l.bound,!l.strict⟩:=by simp[pS,h]
  simp -implicitDefEqProofs only[go_sem]
  repeat(with_reducible apply au;case left=>omega)
  refine aM hm (fun(i:Nat)=> i≤l.aG.length) (fun(i:Nat)=> ⟨dH 35 .any [(1,.ptr 0 0),(2,.ptr 1 0),(3,.ptr 2 0),(4,iv i)],[some (.box (cF (eS l))),some (.box (cF (eS mO))),some (.box [.acc 3,.d (.val (.int .i64 (-l.bound))),.d (.val (.bool (!l.strict)))]),some (.acc 3 (bI ((l.aG.take i).map fun c=>-c)))]⟩) (fun(i:Nat)=> l.aG.length-i) (0) ?_ (ar [some 0,some 1,some 2,none] ?_ ?_ rfl rfl) ?_
  rotate_left
  ·simp -implicitDefEqProofs only[go_sem]
  ·simp -implicitDefEqProofs only[go_sem]
  rotate_left
  ·omega
  ·rintro i hi
   rcases aa (i<l.aG.length) with h1|h1
   ·have hn:=hc l.aG[i] (ak h1)
    refine uA ?_
    refine sK ?_
    refine⟨i+1,?_,sL,ar [some 0,some 1,some 2,some 4] ?_ ?_ rfl rfl⟩
    rotate_left
    ·simp -implicitDefEqProofs only[go_sem]
    ·simp -implicitDefEqProofs only[go_sem]
     all_goals((rw[List.take_add_one,List.getElem?_eq_getElem h1,List.map_append,←eQ];rfl))
    exact h1
   ·refine uA ?_
    refine an ?_
    simp -implicitDefEqProofs only[go_sem]
    rw[ao (by omega),e]
    simp[]
theorem Gt(l:ir):C E.P 249 [av (eS l)] [] (bD (bv (flat l)) []):=by
 have cq:=jZ
 refine lU (nt:=17) (rs:=[.tmp 2]) hm Tryz.func249 rfl rfl rfl rfl rfl (fun hl he=>?_)
 simp -implicitDefEqProofs only[go_sem] at hl⊢
 refine aM hm (fun(i:Nat)=> i≤l.aG.length∧flat l=(l.aG.drop i).all (fun c=>decide (c=0))) (fun(i:Nat)=> ⟨dH 17 .any [(1,.ptr 0 0),(3,iv i)],[some (.box (cF (eS l)))]⟩) (fun(i:Nat)=> l.aG.length-i) (0) ?_ (ar [some 0] ?_ ?_ rfl rfl) ?_
 rotate_left
 ·simp -implicitDefEqProofs only[go_sem]
 ·simp -implicitDefEqProofs only[go_sem]
 rotate_left
 ·simp[flat]
 ·rintro i ⟨hi,hg⟩
  rcases aa (i<l.aG.length) with h1|h1
  ·rw[ah h1,b8] at hg
   refine uA ?_
   rcases aa (l.aG[i]=0) with h2|h2
   ·have k:=eq_true h2
    simp only[k,decide_true,aE] at hg
    refine uG ?_
    repeat(with_reducible apply au;case left=>omega)
    refine⟨i+1,?_,sL,ar [some 0] ?_ ?_ rfl rfl⟩
    rotate_left
    ·simp -implicitDefEqProofs only[go_sem]
    ·simp -implicitDefEqProofs only[go_sem]
    exact⟨by omega,hg⟩
   ·have k:=eq_false h2
    simp only[k,decide_false,aK] at hg
    refine uG ?_
    refine an ?_
    simp -implicitDefEqProofs only[go_sem]
    all_goals(simp[hg];done)
  ·rw[al (by omega),dS] at hg
   refine uA ?_
   refine an ?_
   simp -implicitDefEqProofs only[go_sem]
   all_goals(simp[hg];done)
theorem zE(l:ir):C E.P 205 [av (eS l)] [] (bD (bv (jN l)) []):=by
 have cq:=jZ
 refine lU (nt:=23) (rs:=[.tmp 2]) hm Tryz.func205 rfl rfl rfl rfl rfl (fun hl he=>?_)
 simp -implicitDefEqProofs only[go_sem] at hl⊢
 refine bp [] (gZ l) ?_ ?_<;>simp -implicitDefEqProofs only[go_sem]
 cases h:dU l
 ·simp -implicitDefEqProofs only[go_sem]
  refine an ?_
  simp -implicitDefEqProofs only[go_sem]
  all_goals(simp[jN,h];done)
 ·simp -implicitDefEqProofs only[go_sem]
  refine bp [] (Gt l) ?_ ?_<;>simp -implicitDefEqProofs only[go_sem]
  cases h0:flat l
  ·simp -implicitDefEqProofs only[go_sem]
   refine an ?_
   simp -implicitDefEqProofs only[go_sem]
   all_goals(simp[jN,h,h0];done)
  ·simp -implicitDefEqProofs only[go_sem]
   rcases aa (l.bound<0) with h1|h1
   ·refine uA ?_
    refine an ?_
    simp -implicitDefEqProofs only[go_sem]
    all_goals(simp[jN,h,h0,h1];done)
   ·rcases aa (l.bound=0) with h2|h2
    ·have k:=eq_true h2
     simp -implicitDefEqProofs only[go_sem,h1,k]
     refine an ?_
     simp -implicitDefEqProofs only[go_sem]
     all_goals(simp[jN,h,h0,h2];done)
    ·refine uJ ?_
     refine an ?_
     simp -implicitDefEqProofs only[go_sem]
     all_goals(simp[jN,h,h0,h1,h2];done)
theorem Br(a:ir)(m:Int)(b:ir)(n:Int)(g1:dU a=true)(g2:dU b=true)(h5:0≤m∧m≤1000000)(h6:0≤n∧n≤1000000):C E.P 248 [av (eS a),iv m,av (eS b),iv n] [] (bD (.gV [av (eS (jv a m b n).1),bv (jv a m b n).2]) []):=by
 obtain⟨hn1,hc1,hb1⟩:=gD.1 g1
 obtain⟨hn2,hc2,hb2⟩:=gD.1 g2
 have p1:=dw h5.1 h5.2 hb1
 have p2:=dw h6.1 h6.2 hb2
 have cq:=jZ
 refine lU (nt:=65) (rs:=[.cell 8 162,.tmp 9]) hm Tryz.func248 rfl rfl rfl rfl rfl (fun hl he=>?_)
 simp -implicitDefEqProofs only[go_sem] at hl⊢
 rcases aa (0<m) with t1|t1
 ·cases t2:a.strict
  ·rcases aa (0<n) with t3|t3
   ·simp -implicitDefEqProofs only[go_sem,t1,t3]
    repeat(with_reducible apply au;case left=>omega)
    refine aM hm (fun(i:Nat)=> i≤a.aG.length) (fun(i:Nat)=> ⟨dH 65 .any [(1,iv m),(3,iv n),(4,.ptr 0 0),(6,.ptr 1 0),(8,.ptr 2 0),(10,.ptr 3 0),(11,iv i)],[some (.box (cF (eS a))),some (.box (cF (eS b))),some (.box (cF (eS mO))),some (.box [.acc 4,.d (.val (.int .i64 (m*a.bound+n*b.bound))),.d (.val (.bool b.strict))]),some (.acc 3 (bI (comb m n (a.aG.take i) (b.aG.take i))))]⟩) (fun(i:Nat)=> a.aG.length-i) (0) ?_ (ar [some 0,some 1,some 2,some 3,none] ?_ ?_ rfl rfl) ?_
    rotate_left
    ·simp -implicitDefEqProofs only[go_sem]
    ·simp -implicitDefEqProofs only[go_sem]
     all_goals(simp[comb, *])
    rotate_left
    ·omega
    ·rintro i hi
     rcases aa (i<a.aG.length) with h1|h1
     ·have h2:i<b.aG.length:=by omega
      have h3:(i:Int)<4:=by omega
      have q1:=dw h5.1 h5.2 (hc1 a.aG[i] (ak h1))
      have q2:=dw h6.1 h6.2 (hc2 b.aG[i] (ak h2))
      have dz:(comb m n (a.aG.take i) (b.aG.take i)).length≤4:=by rw[ke (by simp;omega)];simp;omega
      simp -implicitDefEqProofs only[go_sem,h3,h1,h2]
      refine sK ?_
      refine⟨i+1,?_,sL,ar [some 0,some 1,some 2,some 3,some 5] ?_ ?_ rfl rfl⟩
      rotate_left
      ·simp -implicitDefEqProofs only[go_sem]
      ·simp -implicitDefEqProofs only[go_sem]
       all_goals((rw[fe h1 h2,←eQ];rfl))
      exact h1
     ·have h3:¬ (i:Int)<4:=by omega
      rw[ao (by omega),ao (by omega)]
      have e2:jw a m b n=⟨comb m n a.aG b.aG,m*a.bound+n*b.bound,b.strict⟩:=by simp[jw, *]
      refine uC ?_
      refine dQ [] [4] (gZ ⟨comb m n a.aG b.aG,m*a.bound+n*b.bound,b.strict⟩) rfl ?_ ?_ ?_
      ·(simp -implicitDefEqProofs only[go_sem];repeat'(first|exact iR.nil|apply iR.cons|exact Vw.same (by first|rfl|simp -implicitDefEqProofs only[go_sem,Z1,Z2,Z3,Z4])|exact Vw.acc rfl rfl|exact Vw.fw rfl rfl (by simp -implicitDefEqProofs only[go_sem,Z1,Z2,Z3,Z4])|exact Vw.nil|apply Vw.agg|apply Vw.fn|refine Vw.box rfl rfl ?_))
      all_goals simp -implicitDefEqProofs only[go_sem]
      rw[jv,e2]
      cases h7:dU ⟨comb m n a.aG b.aG,m*a.bound+n*b.bound,b.strict⟩
      ·simp -implicitDefEqProofs only[go_sem]
       refine an ?_
       simp -implicitDefEqProofs only[go_sem]
       all_goals(simp;done)
      ·simp -implicitDefEqProofs only[go_sem]
       refine an ?_
       simp -implicitDefEqProofs only[go_sem]
   ·simp -implicitDefEqProofs only[go_sem,t1,t3]
    repeat(with_reducible apply au;case left=>omega)
    refine aM hm (fun(i:Nat)=> i≤a.aG.length) (fun(i:Nat)=> ⟨dH 65 .any [(1,iv m),(3,iv n),(4,.ptr 0 0),(6,.ptr 1 0),(8,.ptr 2 0),(10,.ptr 3 0),(11,iv i)],[some (.box (cF (eS a))),some (.box (cF (eS b))),some (.box (cF (eS mO))),some (.box [.acc 4,.d (.val (.int .i64 (m*a.bound+n*b.bound))),.d (.val (.bool false))]),some (.acc 3 (bI (comb m n (a.aG.take i) (b.aG.take i))))]⟩) (fun(i:Nat)=> a.aG.length-i) (0) ?_ (ar [some 0,some 1,some 2,some 3,none] ?_ ?_ rfl rfl) ?_
    rotate_left
    ·simp -implicitDefEqProofs only[go_sem]
    ·simp -implicitDefEqProofs only[go_sem]
     all_goals(simp[comb, *])
    rotate_left
    ·omega
    ·rintro i hi
     rcases aa (i<a.aG.length) with h1|h1
     ·have h2:i<b.aG.length:=by omega
      have h3:(i:Int)<4:=by omega
      have q1:=dw h5.1 h5.2 (hc1 a.aG[i] (ak h1))
      have q2:=dw h6.1 h6.2 (hc2 b.aG[i] (ak h2))
      have dz:(comb m n (a.aG.take i) (b.aG.take i)).length≤4:=by rw[ke (by simp;omega)];simp;omega
      simp -implicitDefEqProofs only[go_sem,h3,h1,h2]
      refine sK ?_
      refine⟨i+1,?_,sL,ar [some 0,some 1,some 2,some 3,some 5] ?_ ?_ rfl rfl⟩
      rotate_left
      ·simp -implicitDefEqProofs only[go_sem]
      ·simp -implicitDefEqProofs only[go_sem]
       all_goals((rw[fe h1 h2,←eQ];rfl))
      exact h1
     ·have h3:¬ (i:Int)<4:=by omega
      rw[ao (by omega),ao (by omega)]
      have e2:jw a m b n=⟨comb m n a.aG b.aG,m*a.bound+n*b.bound,false⟩:=by simp[jw, *]
      refine uC ?_
      refine dQ [] [4] (gZ ⟨comb m n a.aG b.aG,m*a.bound+n*b.bound,false⟩) rfl ?_ ?_ ?_
      ·(simp -implicitDefEqProofs only[go_sem];repeat'(first|exact iR.nil|apply iR.cons|exact Vw.same (by first|rfl|simp -implicitDefEqProofs only[go_sem,Z1,Z2,Z3,Z4])|exact Vw.acc rfl rfl|exact Vw.fw rfl rfl (by simp -implicitDefEqProofs only[go_sem,Z1,Z2,Z3,Z4])|exact Vw.nil|apply Vw.agg|apply Vw.fn|refine Vw.box rfl rfl ?_))
      all_goals simp -implicitDefEqProofs only[go_sem]
      rw[jv,e2]
      cases h7:dU ⟨comb m n a.aG b.aG,m*a.bound+n*b.bound,false⟩
      ·simp -implicitDefEqProofs only[go_sem]
       refine an ?_
       simp -implicitDefEqProofs only[go_sem]
       all_goals(simp;done)
      ·simp -implicitDefEqProofs only[go_sem]
       refine an ?_
       simp -implicitDefEqProofs only[go_sem]
  ·simp -implicitDefEqProofs only[go_sem,t1]
   repeat(with_reducible apply au;case left=>omega)
   refine aM hm (fun(i:Nat)=> i≤a.aG.length) (fun(i:Nat)=> ⟨dH 65 .any [(1,iv m),(3,iv n),(4,.ptr 0 0),(6,.ptr 1 0),(8,.ptr 2 0),(10,.ptr 3 0),(11,iv i)],[some (.box (cF (eS a))),some (.box (cF (eS b))),some (.box (cF (eS mO))),some (.box [.acc 4,.d (.val (.int .i64 (m*a.bound+n*b.bound))),.d (.val (.bool true))]),some (.acc 3 (bI (comb m n (a.aG.take i) (b.aG.take i))))]⟩) (fun(i:Nat)=> a.aG.length-i) (0) ?_ (ar [some 0,some 1,some 2,some 3,none] ?_ ?_ rfl rfl) ?_
   rotate_left
   ·simp -implicitDefEqProofs only[go_sem]
   ·simp -implicitDefEqProofs only[go_sem]
    all_goals(simp[comb, *])
   rotate_left
   ·omega
   ·rintro i hi
    rcases aa (i<a.aG.length) with h1|h1
    ·have h2:i<b.aG.length:=by omega
     have h3:(i:Int)<4:=by omega
     have q1:=dw h5.1 h5.2 (hc1 a.aG[i] (ak h1))
     have q2:=dw h6.1 h6.2 (hc2 b.aG[i] (ak h2))
     have dz:(comb m n (a.aG.take i) (b.aG.take i)).length≤4:=by rw[ke (by simp;omega)];simp;omega
     simp -implicitDefEqProofs only[go_sem,h3,h1,h2]
     refine sK ?_
     refine⟨i+1,?_,sL,ar [some 0,some 1,some 2,some 3,some 5] ?_ ?_ rfl rfl⟩
     rotate_left
     ·simp -implicitDefEqProofs only[go_sem]
     ·simp -implicitDefEqProofs only[go_sem]
      all_goals((rw[fe h1 h2,←eQ];rfl))
     exact h1
    ·have h3:¬ (i:Int)<4:=by omega
     rw[ao (by omega),ao (by omega)]
     have e2:jw a m b n=⟨comb m n a.aG b.aG,m*a.bound+n*b.bound,true⟩:=by simp[jw, *]
     refine uC ?_
     refine dQ [] [4] (gZ ⟨comb m n a.aG b.aG,m*a.bound+n*b.bound,true⟩) rfl ?_ ?_ ?_
     ·(simp -implicitDefEqProofs only[go_sem];repeat'(first|exact iR.nil|apply iR.cons|exact Vw.same (by first|rfl|simp -implicitDefEqProofs only[go_sem,Z1,Z2,Z3,Z4])|exact Vw.acc rfl rfl|exact Vw.fw rfl rfl (by simp -implicitDefEqProofs only[go_sem,Z1,Z2,Z3,Z4])|exact Vw.nil|apply Vw.agg|apply Vw.fn|refine Vw.box rfl rfl ?_))
     all_goals simp -implicitDefEqProofs only[go_sem]
     rw[jv,e2]
     cases h7:dU ⟨comb m n a.aG b.aG,m*a.bound+n*b.bound,true⟩
     ·simp -implicitDefEqProofs only[go_sem]
      refine an ?_
      simp -implicitDefEqProofs only[go_sem]
      all_goals(simp;done)
     ·simp -implicitDefEqProofs only[go_sem]
      refine an ?_
      simp -implicitDefEqProofs only[go_sem]
 ·rcases aa (0<n) with t3|t3
  ·simp -implicitDefEqProofs only[go_sem,t1,t3]
   repeat(with_reducible apply au;case left=>omega)
   refine aM hm (fun(i:Nat)=> i≤a.aG.length) (fun(i:Nat)=> ⟨dH 65 .any [(1,iv m),(3,iv n),(4,.ptr 0 0),(6,.ptr 1 0),(8,.ptr 2 0),(10,.ptr 3 0),(11,iv i)],[some (.box (cF (eS a))),some (.box (cF (eS b))),some (.box (cF (eS mO))),some (.box [.acc 4,.d (.val (.int .i64 (m*a.bound+n*b.bound))),.d (.val (.bool b.strict))]),some (.acc 3 (bI (comb m n (a.aG.take i) (b.aG.take i))))]⟩) (fun(i:Nat)=> a.aG.length-i) (0) ?_ (ar [some 0,some 1,some 2,some 3,none] ?_ ?_ rfl rfl) ?_
   rotate_left
   ·simp -implicitDefEqProofs only[go_sem]
   ·simp -implicitDefEqProofs only[go_sem]
    all_goals(simp[comb, *])
   rotate_left
   ·omega
   ·rintro i hi
    rcases aa (i<a.aG.length) with h1|h1
    ·have h2:i<b.aG.length:=by omega
     have h3:(i:Int)<4:=by omega
     have q1:=dw h5.1 h5.2 (hc1 a.aG[i] (ak h1))
     have q2:=dw h6.1 h6.2 (hc2 b.aG[i] (ak h2))
     have dz:(comb m n (a.aG.take i) (b.aG.take i)).length≤4:=by rw[ke (by simp;omega)];simp;omega
     simp -implicitDefEqProofs only[go_sem,h3,h1,h2]
     refine sK ?_
     refine⟨i+1,?_,sL,ar [some 0,some 1,some 2,some 3,some 5] ?_ ?_ rfl rfl⟩
     rotate_left
     ·simp -implicitDefEqProofs only[go_sem]
     ·simp -implicitDefEqProofs only[go_sem]
      all_goals((rw[fe h1 h2,←eQ];rfl))
     exact h1
    ·have h3:¬ (i:Int)<4:=by omega
     rw[ao (by omega),ao (by omega)]
     have e2:jw a m b n=⟨comb m n a.aG b.aG,m*a.bound+n*b.bound,b.strict⟩:=by simp[jw, *]
     refine uC ?_
     refine dQ [] [4] (gZ ⟨comb m n a.aG b.aG,m*a.bound+n*b.bound,b.strict⟩) rfl ?_ ?_ ?_
     ·(simp -implicitDefEqProofs only[go_sem];repeat'(first|exact iR.nil|apply iR.cons|exact Vw.same (by first|rfl|simp -implicitDefEqProofs only[go_sem,Z1,Z2,Z3,Z4])|exact Vw.acc rfl rfl|exact Vw.fw rfl rfl (by simp -implicitDefEqProofs only[go_sem,Z1,Z2,Z3,Z4])|exact Vw.nil|apply Vw.agg|apply Vw.fn|refine Vw.box rfl rfl ?_))
     all_goals simp -implicitDefEqProofs only[go_sem]
     rw[jv,e2]
     cases h7:dU ⟨comb m n a.aG b.aG,m*a.bound+n*b.bound,b.strict⟩
     ·simp -implicitDefEqProofs only[go_sem]
      refine an ?_
      simp -implicitDefEqProofs only[go_sem]
      all_goals(simp;done)
     ·simp -implicitDefEqProofs only[go_sem]
      refine an ?_
      simp -implicitDefEqProofs only[go_sem]
  ·simp -implicitDefEqProofs only[go_sem,t1,t3]
   repeat(with_reducible apply au;case left=>omega)
   refine aM hm (fun(i:Nat)=> i≤a.aG.length) (fun(i:Nat)=> ⟨dH 65 .any [(1,iv m),(3,iv n),(4,.ptr 0 0),(6,.ptr 1 0),(8,.ptr 2 0),(10,.ptr 3 0),(11,iv i)],[some (.box (cF (eS a))),some (.box (cF (eS b))),some (.box (cF (eS mO))),some (.box [.acc 4,.d (.val (.int .i64 (m*a.bound+n*b.bound))),.d (.val (.bool false))]),some (.acc 3 (bI (comb m n (a.aG.take i) (b.aG.take i))))]⟩) (fun(i:Nat)=> a.aG.length-i) (0) ?_ (ar [some 0,some 1,some 2,some 3,none] ?_ ?_ rfl rfl) ?_
   rotate_left
   ·simp -implicitDefEqProofs only[go_sem]
   ·simp -implicitDefEqProofs only[go_sem]
    all_goals(simp[comb, *])
   rotate_left
   ·omega
   ·rintro i hi
    rcases aa (i<a.aG.length) with h1|h1
    ·have h2:i<b.aG.length:=by omega
     have h3:(i:Int)<4:=by omega
     have q1:=dw h5.1 h5.2 (hc1 a.aG[i] (ak h1))
     have q2:=dw h6.1 h6.2 (hc2 b.aG[i] (ak h2))
     have dz:(comb m n (a.aG.take i) (b.aG.take i)).length≤4:=by rw[ke (by simp;omega)];simp;omega
     simp -implicitDefEqProofs only[go_sem,h3,h1,h2]
     refine sK ?_
     refine⟨i+1,?_,sL,ar [some 0,some 1,some 2,some 3,some 5] ?_ ?_ rfl rfl⟩
     rotate_left
     ·simp -implicitDefEqProofs only[go_sem]
     ·simp -implicitDefEqProofs only[go_sem]
      all_goals((rw[fe h1 h2,←eQ];rfl))
     exact h1
    ·have h3:¬ (i:Int)<4:=by omega
     rw[ao (by omega),ao (by omega)]
     have e2:jw a m b n=⟨comb m n a.aG b.aG,m*a.bound+n*b.bound,false⟩:=by simp[jw, *]
     refine uC ?_
     refine dQ [] [4] (gZ ⟨comb m n a.aG b.aG,m*a.bound+n*b.bound,false⟩) rfl ?_ ?_ ?_
     ·(simp -implicitDefEqProofs only[go_sem];repeat'(first|exact iR.nil|apply iR.cons|exact Vw.same (by first|rfl|simp -implicitDefEqProofs only[go_sem,Z1,Z2,Z3,Z4])|exact Vw.acc rfl rfl|exact Vw.fw rfl rfl (by simp -implicitDefEqProofs only[go_sem,Z1,Z2,Z3,Z4])|exact Vw.nil|apply Vw.agg|apply Vw.fn|refine Vw.box rfl rfl ?_))
     all_goals simp -implicitDefEqProofs only[go_sem]
     rw[jv,e2]
     cases h7:dU ⟨comb m n a.aG b.aG,m*a.bound+n*b.bound,false⟩
     ·simp -implicitDefEqProofs only[go_sem]
      refine an ?_
      simp -implicitDefEqProofs only[go_sem]
      all_goals(simp;done)
     ·simp -implicitDefEqProofs only[go_sem]
      refine an ?_
      simp -implicitDefEqProofs only[go_sem]
theorem IV(a:ir)(m:Int)(b:ir)(n:Int):C E.P 250 [av (eS a),iv m,av (eS b),iv n] [] (bD (.gV [av (eS (ez a m b n).1),bv (ez a m b n).2]) []):=by
 have cq:=jZ
 refine lU (nt:=42) (rs:=[.cell 8 162,.tmp 9]) hm Tryz.func250 rfl rfl rfl rfl rfl (fun hl he=>?_)
 simp -implicitDefEqProofs only[go_sem] at hl⊢
 refine bp [] (gZ a) ?_ ?_<;>simp -implicitDefEqProofs only[go_sem]
 cases g1:dU a
 ·simp -implicitDefEqProofs only[go_sem]
  refine an ?_
  simp -implicitDefEqProofs only[go_sem]
  all_goals(simp[ez,g1];done)
 ·simp -implicitDefEqProofs only[go_sem]
  refine bp [] (gZ b) ?_ ?_<;>simp -implicitDefEqProofs only[go_sem]
  cases g2:dU b
  ·simp -implicitDefEqProofs only[go_sem]
   refine an ?_
   simp -implicitDefEqProofs only[go_sem]
   all_goals(simp[ez,g1,g2];done)
  ·simp -implicitDefEqProofs only[go_sem]
   rcases aa (m<0) with t1|t1
   ·have e:within m 0 1000000=false:=by simp[within];omega
    simp -implicitDefEqProofs only[go_sem,t1]
    refine an ?_
    simp -implicitDefEqProofs only[go_sem]
    all_goals(simp[ez,g1,g2,e];done)
   ·rcases aa (n<0) with t2|t2
    ·have e:within n 0 1000000=false:=by simp[within];omega
     simp -implicitDefEqProofs only[go_sem,t1,t2]
     refine an ?_
     simp -implicitDefEqProofs only[go_sem]
     all_goals(simp[ez,g1,g2,e];done)
    ·rcases aa (1000000<m) with t3|t3
     ·have e:within m 0 1000000=false:=by simp[within];omega
      simp -implicitDefEqProofs only[go_sem,t1,t2,t3]
      refine an ?_
      simp -implicitDefEqProofs only[go_sem]
      all_goals(simp[ez,g1,g2,e];done)
     ·rcases aa (1000000<n) with t4|t4
      ·have e:within n 0 1000000=false:=by simp[within];omega
       simp -implicitDefEqProofs only[go_sem,t1,t2,t3,t4]
       refine an ?_
       simp -implicitDefEqProofs only[go_sem]
       all_goals(simp[ez,g1,g2,e];done)
      ·have e1:within m 0 1000000=true:=by simp[within];omega
       have e2:within n 0 1000000=true:=by simp[within];omega
       have e:=pF g1 g2 e1 e2
       simp -implicitDefEqProofs only[go_sem,t1,t2,t3,t4]
       refine bp [] (Br a m b n g1 g2 (by omega) (by omega)) ?_ ?_<;>simp -implicitDefEqProofs only[go_sem]
       refine an ?_
       simp -implicitDefEqProofs only[go_sem]
       all_goals(simp[e];done)
theorem xw(ls:List ir):C E.P 133 [lv (dm ls)] [] (bD (bv (fS ls)) []):=by
 have cq:=jZ
 refine lU (nt:=19) (rs:=[.tmp 2]) hm Tryz.func133 rfl rfl rfl rfl rfl (fun hl he=>?_)
 simp -implicitDefEqProofs only[go_sem] at hl⊢
 refine aM hm (fun(i:Nat)=> i≤ls.length∧ls.all dU=(ls.drop i).all dU) (fun(i:Nat)=> ⟨dH 19 .any [(0,lv (dm ls)),(3,iv i)],[]⟩) (fun(i:Nat)=> ls.length-i) (0) ?_ (ar [] ?_ ?_ rfl rfl) ?_
 rotate_left
 ·simp -implicitDefEqProofs only[go_sem]
 ·simp -implicitDefEqProofs only[go_sem]
 rotate_left
 ·simp
 ·rintro i ⟨hi,hg⟩
  rcases aa (i<ls.length) with h1|h1
  ·rw[ah h1,b8] at hg
   refine uA ?_
   refine bp [] (gZ ls[i]) ?_ ?_<;>simp -implicitDefEqProofs only[go_sem]
   cases h2:dU ls[i]
   ·rw[h2,aK] at hg
    simp -implicitDefEqProofs only[go_sem]
    refine an ?_
    simp -implicitDefEqProofs only[go_sem]
    all_goals(simp[fS,hg];done)
   ·rw[h2,aE] at hg
    simp -implicitDefEqProofs only[go_sem]
    repeat(with_reducible apply au;case left=>omega)
    refine⟨i+1,?_,sL,ar [] ?_ ?_ rfl rfl⟩
    rotate_left
    ·simp -implicitDefEqProofs only[go_sem]
    ·simp -implicitDefEqProofs only[go_sem]
    exact⟨by omega,hg⟩
  ·rw[al (by omega),dS] at hg
   have e:fS ls=decide ((ls.length:Int)≤20):=by simp[fS,hg];omega
   refine uA ?_
   refine an ?_
   simp -implicitDefEqProofs only[go_sem]
   all_goals(simp[e];done)
theorem I7(ls:List ir)(ts:List Int):C E.P 206 [lv (dm ls),lv (bI ts)] [] (bD (.gV [av (eS (jS ls ts).1),bv (jS ls ts).2]) []):=by
 have cq:=jZ
 refine lU (nt:=45) (rs:=[.cell 4 162,.tmp 5]) hm Tryz.func206 rfl rfl rfl rfl rfl (fun hl he=>?_)
 simp -implicitDefEqProofs only[go_sem,Z3,Z4] at hl⊢
 repeat(with_reducible apply au;case left=>omega)
 refine bp [] (xw ls) ?_ ?_<;>simp -implicitDefEqProofs only[go_sem]
 cases g1:fS ls
 ·simp -implicitDefEqProofs only[go_sem]
  refine an ?_
  simp -implicitDefEqProofs only[go_sem]
  all_goals(simp[jS,g1];done)
 ·rcases aa (ts.length=ls.length) with g2|g2
  ·have e:jS ls ts=o8 ls ts ⟨[0,0,0,0],0,false⟩:=by simp[jS,g1,g2]
   have k2:=eq_true g2
   simp -implicitDefEqProofs only[go_sem,k2]
   refine cQ hm (fun(i:Nat) (out:ir)=> i≤ls.length∧jS ls ts=o8 (ls.drop i) (ts.drop i) out) (fun(i:Nat) (out:ir)=> ⟨dH 45 .any [(0,lv (dm ls)),(1,lv (bI ts)),(4,.ptr 0 0),(6,.ptr 1 0),(7,iv i)],[some (.box (cF (eS mO))),some (.box (cF (eS out)))]⟩) (fun(i:Nat) (out:ir)=> ls.length-i) (0) (⟨[0,0,0,0],0,false⟩) ?_ (ar [some 0,some 2] ?_ ?_ rfl rfl) ?_
   rotate_left
   ·simp -implicitDefEqProofs only[go_sem]
   ·simp -implicitDefEqProofs only[go_sem]
    all_goals(simp[bI,List.replicate])
   rotate_left
   ·simp[e]
   ·rintro i out ⟨hi,hg⟩
    rcases aa (i<ls.length) with h1|h1
    ·have h2:i<ts.length:=by omega
     rw[GN h1 h2] at hg
     refine uJ ?_
     refine bp [] (IV out 1 ls[i] ts[i]) ?_ ?_<;>simp -implicitDefEqProofs only[go_sem]
     with_reducible refine GL (by kernel_rfl) ?_
     cases h3:(ez out 1 ls[i] ts[i]).2
     ·rw[h3] at hg
      simp only[Bool.false_eq_true,if_false] at hg
      simp -implicitDefEqProofs only[go_sem]
      refine an ?_
      simp -implicitDefEqProofs only[go_sem]
      all_goals(simp[hg];done)
     ·rw[h3] at hg
      simp only[if_true] at hg
      simp -implicitDefEqProofs only[go_sem]
      repeat(with_reducible apply au;case left=>omega)
      refine⟨i+1,(ez out 1 ls[i] ts[i]).1,?_,sL,ar [some 0,some 1] ?_ ?_ rfl rfl⟩
      rotate_left
      ·simp -implicitDefEqProofs only[go_sem]
      ·simp -implicitDefEqProofs only[go_sem]
      exact⟨by omega,hg⟩
    ·rw[al (by omega),al (by omega),o8] at hg
     refine uA ?_
     refine an ?_
     simp -implicitDefEqProofs only[go_sem]
     all_goals(simp[hg];done)
  ·simp -implicitDefEqProofs only[go_sem,g2]
   refine an ?_
   simp -implicitDefEqProofs only[go_sem]
   all_goals(simp[jS,g1,g2];done)
theorem Ln(ls:List ir)(ts:List Int):C E.P 137 [lv (dm ls),lv (bI ts)] [] (bD (bv (qm ls ts)) []):=by
 have cq:=jZ
 refine lU (nt:=18) (rs:=[.tmp 4]) hm Tryz.func137 rfl rfl rfl rfl rfl (fun hl he=>?_)
 simp -implicitDefEqProofs only[go_sem] at hl⊢
 refine bp [] (I7 ls ts) ?_ ?_<;>simp -implicitDefEqProofs only[go_sem]
 cases h:(jS ls ts).2
 ·simp -implicitDefEqProofs only[go_sem]
  refine an ?_
  simp -implicitDefEqProofs only[go_sem]
  all_goals(simp[qm,h];done)
 ·simp -implicitDefEqProofs only[go_sem]
  refine bp [] (zE (jS ls ts).1) ?_ ?_<;>simp -implicitDefEqProofs only[go_sem]
  refine an ?_
  simp -implicitDefEqProofs only[go_sem]
  all_goals(simp[qm,h];done)
end Go.Proofs.YtabembjmeobhoaaGreat
