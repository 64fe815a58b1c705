/-
  The reference: the walks of constraints and their certificates. A step towards the exact laws.
-/
import Derived.Test.YtabembjmeobhoaaGreatKAI
set_option linter.unusedVariables false
set_option linter.unusedSimpArgs false
open And renaming intro→ar
open Bool renaming true_and→aM,false_and→aS
open Classical renaming em→aa
open List renaming drop_eq_getElem_cons→aj,getElem_mem→ak,drop_of_length_le→al,take_of_length_le→ao,all_cons→b7,all_nil→dW
namespace Go.Proofs.YtabembjmeobhoaaGreat
open Go.Eng Go.Mod
open Int renaming reduceEq→Z1,reduceLT→Z2,reduceLE→Z3,reduceToNat→Z4
set_option maxRecDepth 100000
set_option maxHeartbeats 800000
theorem wV(n:Int):C E.P 246 [iv n] [] (bN (bv (m9 n)) []):=by
 have cI:=jR
 refine lG (nt:=9) (rs:=[.tmp 2]) hm Tryz.func246 rfl rfl rfl rfl rfl (fun hl he=>?_)
 simp -implicitDefEqProofs only[go_sem] at hl⊢
 rcases aa (-1000000≤n) with h|h
 ·simp -implicitDefEqProofs only[go_sem,h]
  refine an ?_
  simp -implicitDefEqProofs only[go_sem]
  all_goals(simp[m9,within,h];done)
 ·simp -implicitDefEqProofs only[go_sem,h]
  refine an ?_
  simp -implicitDefEqProofs only[go_sem]
  all_goals(simp[m9,within,h];done)
theorem gL(l:ia):C E.P 203 [av (eG l)] [] (bN (bv (dE l)) []):=by
 have cI:=jR
 refine lG (nt:=27) (rs:=[.tmp 2]) hm Tryz.func203 rfl rfl rfl rfl rfl (fun hl he=>?_)
 simp -implicitDefEqProofs only[go_sem] at hl⊢
 refine aO hm (fun(i:Nat)=> i≤l.aG.length∧l.aG.all m9=(l.aG.drop i).all m9) (fun(i:Nat)=> ⟨dB 27 .any [(1,.ptr 0 0),(3,iv i)],[some (.box (cF (eG l)))]⟩) (fun(i:Nat)=> l.aG.length-i) (0) ?_ (aw [some 0] ?_ ?_ rfl rfl) ?_
 rotate_left
 ·simp -implicitDefEqProofs only[go_sem]
 ·simp -implicitDefEqProofs only[go_sem]
 rotate_left
 ·simp
 ·rintro i ⟨hi,hg⟩
  rcases aa (i<l.aG.length) with h1|h1
  ·rw[aj h1,b7] at hg
   simp -implicitDefEqProofs only[go_sem,h1]
   refine bQ [] (wV l.aG[i]) ?_ ?_<;>simp -implicitDefEqProofs only[go_sem]
   cases h2:m9 l.aG[i]
   ·rw[h2,aS] at hg
    have e:dE l=false:=by simp[dE,hg]
    simp -implicitDefEqProofs only[go_sem]
    refine an ?_
    simp -implicitDefEqProofs only[go_sem]
    all_goals(simp[e];done)
   ·rw[h2,aM] at hg
    simp -implicitDefEqProofs only[go_sem]
    repeat(with_reducible apply ar;case left=>omega)
    refine⟨i+1,?_,sL,aw [some 0] ?_ ?_ rfl rfl⟩
    rotate_left
    ·simp -implicitDefEqProofs only[go_sem]
    ·simp -implicitDefEqProofs only[go_sem]
    exact⟨by omega,hg⟩
  ·rw[al (by omega),dW] at hg
   rcases aa ((l.aG.length:Int)=4) with h3|h3
   ·have h3':l.aG.length=4:=by omega
    have k3:=eq_true h3
    simp -implicitDefEqProofs only[go_sem,h1,k3]
    refine bQ [] (wV l.bound) ?_ ?_<;>simp -implicitDefEqProofs only[go_sem]
    refine an ?_
    simp -implicitDefEqProofs only[go_sem]
    all_goals(simp[dE,hg,h3'];done)
   ·have h3':¬l.aG.length=4:=by omega
    simp -implicitDefEqProofs only[go_sem,h1,h3]
    refine an ?_
    simp -implicitDefEqProofs only[go_sem]
    all_goals(simp[dE,hg,h3'];done)
theorem HW(l:ia):C E.P 202 [av (eG l)] [] (bN (av (eG (pf l))) []):=by
 have cI:=jR
 refine lG (nt:=35) (rs:=[.cell 2 162]) hm Tryz.func202 rfl rfl rfl rfl rfl (fun hl he=>?_)
 simp -implicitDefEqProofs only[go_sem] at hl⊢
 refine bQ [] (gL l) ?_ ?_<;>simp -implicitDefEqProofs only[go_sem]
 cases h:dE l
 ·simp -implicitDefEqProofs only[go_sem]
  refine an ?_
  simp -implicitDefEqProofs only[go_sem]
  all_goals(simp[pf,h];done)
 ·obtain⟨h4,hc,hb⟩:=gp.1 h
  have e:pf l=⟨l.aG.map fun c=>-c,-l.bound,!l.strict⟩:=by simp[pf,h]
  simp -implicitDefEqProofs only[go_sem]
  repeat(with_reducible apply ar;case left=>omega)
  refine aO hm (fun(i:Nat)=> i≤l.aG.length) (fun(i:Nat)=> ⟨dB 35 .any [(1,.ptr 0 0),(2,.ptr 1 0),(3,.ptr 2 0),(4,iv i)],[some (.box (cF (eG l))),some (.box (cF (eG mC))),some (.box [.acc 3,.d (.val (.int .i64 (-l.bound))),.d (.val (.bool (!l.strict)))]),some (.acc 3 (bG ((l.aG.take i).map fun c=>-c)))]⟩) (fun(i:Nat)=> l.aG.length-i) (0) ?_ (aw [some 0,some 1,some 2,none] ?_ ?_ rfl rfl) ?_
  rotate_left
  ·simp -implicitDefEqProofs only[go_sem]
  ·simp -implicitDefEqProofs only[go_sem]
  rotate_left
  ·omega
  ·rintro i hi
   rcases aa (i<l.aG.length) with h1|h1
   ·have hn:=hc l.aG[i] (ak h1)
    simp -implicitDefEqProofs only[go_sem,h1]
    repeat(first|with_reducible refine aY (by kernel_rfl) ?_|(with_reducible apply ar;case left=>omega))
    refine⟨i+1,?_,sL,aw [some 0,some 1,some 2,some 4] ?_ ?_ rfl rfl⟩
    rotate_left
    ·simp -implicitDefEqProofs only[go_sem]
    ·simp -implicitDefEqProofs only[go_sem]
     all_goals((rw[List.take_add_one,List.getElem?_eq_getElem h1,List.map_append,←eC];rfl))
    exact h1
   ·simp -implicitDefEqProofs only[go_sem,h1]
    refine an ?_
    simp -implicitDefEqProofs only[go_sem]
    rw[ao (by omega),e]
    simp[]
theorem E8(l:ia):C E.P 249 [av (eG l)] [] (bN (bv (flat l)) []):=by
 have cI:=jR
 refine lG (nt:=17) (rs:=[.tmp 2]) hm Tryz.func249 rfl rfl rfl rfl rfl (fun hl he=>?_)
 simp -implicitDefEqProofs only[go_sem] at hl⊢
 refine aO hm (fun(i:Nat)=> i≤l.aG.length∧flat l=(l.aG.drop i).all (fun c=>decide (c=0))) (fun(i:Nat)=> ⟨dB 17 .any [(1,.ptr 0 0),(3,iv i)],[some (.box (cF (eG l)))]⟩) (fun(i:Nat)=> l.aG.length-i) (0) ?_ (aw [some 0] ?_ ?_ rfl rfl) ?_
 rotate_left
 ·simp -implicitDefEqProofs only[go_sem]
 ·simp -implicitDefEqProofs only[go_sem]
 rotate_left
 ·simp[flat]
 ·rintro i ⟨hi,hg⟩
  rcases aa (i<l.aG.length) with h1|h1
  ·rw[aj h1,b7] at hg
   simp -implicitDefEqProofs only[go_sem,h1]
   rcases aa (l.aG[i]=0) with h2|h2
   ·have k:=eq_true h2
    simp only[k,decide_true,aM] at hg
    simp -implicitDefEqProofs only[go_sem,k]
    repeat(with_reducible apply ar;case left=>omega)
    refine⟨i+1,?_,sL,aw [some 0] ?_ ?_ rfl rfl⟩
    rotate_left
    ·simp -implicitDefEqProofs only[go_sem]
    ·simp -implicitDefEqProofs only[go_sem]
    exact⟨by omega,hg⟩
   ·have k:=eq_false h2
    simp only[k,decide_false,aS] at hg
    simp -implicitDefEqProofs only[go_sem,k]
    refine an ?_
    simp -implicitDefEqProofs only[go_sem]
    all_goals(simp[hg];done)
  ·rw[al (by omega),dW] at hg
   simp -implicitDefEqProofs only[go_sem,h1]
   refine an ?_
   simp -implicitDefEqProofs only[go_sem]
   all_goals(simp[hg];done)
theorem yA(l:ia):C E.P 205 [av (eG l)] [] (bN (bv (jG l)) []):=by
 have cI:=jR
 refine lG (nt:=23) (rs:=[.tmp 2]) hm Tryz.func205 rfl rfl rfl rfl rfl (fun hl he=>?_)
 simp -implicitDefEqProofs only[go_sem] at hl⊢
 refine bQ [] (gL l) ?_ ?_<;>simp -implicitDefEqProofs only[go_sem]
 cases h:dE l
 ·simp -implicitDefEqProofs only[go_sem]
  refine an ?_
  simp -implicitDefEqProofs only[go_sem]
  all_goals(simp[jG,h];done)
 ·simp -implicitDefEqProofs only[go_sem]
  refine bQ [] (E8 l) ?_ ?_<;>simp -implicitDefEqProofs only[go_sem]
  cases h0:flat l
  ·simp -implicitDefEqProofs only[go_sem]
   refine an ?_
   simp -implicitDefEqProofs only[go_sem]
   all_goals(simp[jG,h,h0];done)
  ·simp -implicitDefEqProofs only[go_sem]
   rcases aa (l.bound<0) with h1|h1
   ·simp -implicitDefEqProofs only[go_sem,h1]
    refine an ?_
    simp -implicitDefEqProofs only[go_sem]
    all_goals(simp[jG,h,h0,h1];done)
   ·rcases aa (l.bound=0) with h2|h2
    ·have k:=eq_true h2
     simp -implicitDefEqProofs only[go_sem,h1,k]
     refine an ?_
     simp -implicitDefEqProofs only[go_sem]
     all_goals(simp[jG,h,h0,h2];done)
    ·simp -implicitDefEqProofs only[go_sem,h1,h2]
     refine an ?_
     simp -implicitDefEqProofs only[go_sem]
     all_goals(simp[jG,h,h0,h1,h2];done)
theorem A0(a:ia)(m:Int)(b:ia)(n:Int)(g1:dE a=true)(g2:dE b=true)(h5:0≤m∧m≤1000000)(h6:0≤n∧n≤1000000):C E.P 248 [av (eG a),iv m,av (eG b),iv n] [] (bN (.ja [av (eG (jl a m b n).1),bv (jl a m b n).2]) []):=by
 obtain⟨hn1,hc1,hb1⟩:=gp.1 g1
 obtain⟨hn2,hc2,hb2⟩:=gp.1 g2
 have p1:=dj h5.1 h5.2 hb1
 have p2:=dj h6.1 h6.2 hb2
 have cI:=jR
 refine lG (nt:=65) (rs:=[.cell 8 162,.tmp 9]) hm Tryz.func248 rfl rfl rfl rfl rfl (fun hl he=>?_)
 simp -implicitDefEqProofs only[go_sem] at hl⊢
 rcases aa (0<m) with t1|t1
 ·cases t2:a.strict
  ·rcases aa (0<n) with t3|t3
   ·simp -implicitDefEqProofs only[go_sem,t1,t3]
    repeat(with_reducible apply ar;case left=>omega)
    refine aO hm (fun(i:Nat)=> i≤a.aG.length) (fun(i:Nat)=> ⟨dB 65 .any [(1,iv m),(3,iv n),(4,.ptr 0 0),(6,.ptr 1 0),(8,.ptr 2 0),(10,.ptr 3 0),(11,iv i)],[some (.box (cF (eG a))),some (.box (cF (eG b))),some (.box (cF (eG mC))),some (.box [.acc 4,.d (.val (.int .i64 (m*a.bound+n*b.bound))),.d (.val (.bool b.strict))]),some (.acc 3 (bG (comb m n (a.aG.take i) (b.aG.take i))))]⟩) (fun(i:Nat)=> a.aG.length-i) (0) ?_ (aw [some 0,some 1,some 2,some 3,none] ?_ ?_ rfl rfl) ?_
    rotate_left
    ·simp -implicitDefEqProofs only[go_sem]
    ·simp -implicitDefEqProofs only[go_sem]
     all_goals(simp[comb, *])
    rotate_left
    ·omega
    ·rintro i hi
     rcases aa (i<a.aG.length) with h1|h1
     ·have h2:i<b.aG.length:=by omega
      have h3:(i:Int)<4:=by omega
      have q1:=dj h5.1 h5.2 (hc1 a.aG[i] (ak h1))
      have q2:=dj h6.1 h6.2 (hc2 b.aG[i] (ak h2))
      have dy:(comb m n (a.aG.take i) (b.aG.take i)).length≤4:=by rw[kh (by simp;omega)];simp;omega
      simp -implicitDefEqProofs only[go_sem,h3,h1,h2]
      repeat(first|with_reducible refine aY (by kernel_rfl) ?_|(with_reducible apply ar;case left=>omega))
      refine⟨i+1,?_,sL,aw [some 0,some 1,some 2,some 3,some 5] ?_ ?_ rfl rfl⟩
      rotate_left
      ·simp -implicitDefEqProofs only[go_sem]
      ·simp -implicitDefEqProofs only[go_sem]
       all_goals((rw[eV h1 h2,←eC];rfl))
      exact h1
     ·have h3:¬ (i:Int)<4:=by omega
      rw[ao (by omega),ao (by omega)]
      have e2:jn a m b n=⟨comb m n a.aG b.aG,m*a.bound+n*b.bound,b.strict⟩:=by simp[jn, *]
      simp -implicitDefEqProofs only[go_sem,h3]
      refine dL [] [4] (gL ⟨comb m n a.aG b.aG,m*a.bound+n*b.bound,b.strict⟩) rfl ?_ ?_ ?_
      ·(simp -implicitDefEqProofs only[go_sem];repeat'(first|exact iE.nil|apply iE.cons|exact Vw.same (by first|rfl|simp -implicitDefEqProofs only[go_sem,Z1,Z2,Z3,Z4])|exact Vw.acc rfl rfl|exact Vw.ff rfl rfl (by simp -implicitDefEqProofs only[go_sem,Z1,Z2,Z3,Z4])|exact Vw.nil|apply Vw.agg|apply Vw.fn|refine Vw.box rfl rfl ?_))
      all_goals simp -implicitDefEqProofs only[go_sem]
      rw[jl,e2]
      cases h7:dE ⟨comb m n a.aG b.aG,m*a.bound+n*b.bound,b.strict⟩
      ·simp -implicitDefEqProofs only[go_sem]
       refine an ?_
       simp -implicitDefEqProofs only[go_sem]
       all_goals(simp;done)
      ·simp -implicitDefEqProofs only[go_sem]
       refine an ?_
       simp -implicitDefEqProofs only[go_sem]
   ·simp -implicitDefEqProofs only[go_sem,t1,t3]
    repeat(with_reducible apply ar;case left=>omega)
    refine aO hm (fun(i:Nat)=> i≤a.aG.length) (fun(i:Nat)=> ⟨dB 65 .any [(1,iv m),(3,iv n),(4,.ptr 0 0),(6,.ptr 1 0),(8,.ptr 2 0),(10,.ptr 3 0),(11,iv i)],[some (.box (cF (eG a))),some (.box (cF (eG b))),some (.box (cF (eG mC))),some (.box [.acc 4,.d (.val (.int .i64 (m*a.bound+n*b.bound))),.d (.val (.bool false))]),some (.acc 3 (bG (comb m n (a.aG.take i) (b.aG.take i))))]⟩) (fun(i:Nat)=> a.aG.length-i) (0) ?_ (aw [some 0,some 1,some 2,some 3,none] ?_ ?_ rfl rfl) ?_
    rotate_left
    ·simp -implicitDefEqProofs only[go_sem]
    ·simp -implicitDefEqProofs only[go_sem]
     all_goals(simp[comb, *])
    rotate_left
    ·omega
    ·rintro i hi
     rcases aa (i<a.aG.length) with h1|h1
     ·have h2:i<b.aG.length:=by omega
      have h3:(i:Int)<4:=by omega
      have q1:=dj h5.1 h5.2 (hc1 a.aG[i] (ak h1))
      have q2:=dj h6.1 h6.2 (hc2 b.aG[i] (ak h2))
      have dy:(comb m n (a.aG.take i) (b.aG.take i)).length≤4:=by rw[kh (by simp;omega)];simp;omega
      simp -implicitDefEqProofs only[go_sem,h3,h1,h2]
      repeat(first|with_reducible refine aY (by kernel_rfl) ?_|(with_reducible apply ar;case left=>omega))
      refine⟨i+1,?_,sL,aw [some 0,some 1,some 2,some 3,some 5] ?_ ?_ rfl rfl⟩
      rotate_left
      ·simp -implicitDefEqProofs only[go_sem]
      ·simp -implicitDefEqProofs only[go_sem]
       all_goals((rw[eV h1 h2,←eC];rfl))
      exact h1
     ·have h3:¬ (i:Int)<4:=by omega
      rw[ao (by omega),ao (by omega)]
      have e2:jn a m b n=⟨comb m n a.aG b.aG,m*a.bound+n*b.bound,false⟩:=by simp[jn, *]
      simp -implicitDefEqProofs only[go_sem,h3]
      refine dL [] [4] (gL ⟨comb m n a.aG b.aG,m*a.bound+n*b.bound,false⟩) rfl ?_ ?_ ?_
      ·(simp -implicitDefEqProofs only[go_sem];repeat'(first|exact iE.nil|apply iE.cons|exact Vw.same (by first|rfl|simp -implicitDefEqProofs only[go_sem,Z1,Z2,Z3,Z4])|exact Vw.acc rfl rfl|exact Vw.ff rfl rfl (by simp -implicitDefEqProofs only[go_sem,Z1,Z2,Z3,Z4])|exact Vw.nil|apply Vw.agg|apply Vw.fn|refine Vw.box rfl rfl ?_))
      all_goals simp -implicitDefEqProofs only[go_sem]
      rw[jl,e2]
      cases h7:dE ⟨comb m n a.aG b.aG,m*a.bound+n*b.bound,false⟩
      ·simp -implicitDefEqProofs only[go_sem]
       refine an ?_
       simp -implicitDefEqProofs only[go_sem]
       all_goals(simp;done)
      ·simp -implicitDefEqProofs only[go_sem]
       refine an ?_
       simp -implicitDefEqProofs only[go_sem]
  ·simp -implicitDefEqProofs only[go_sem,t1]
   repeat(with_reducible apply ar;case left=>omega)
   refine aO hm (fun(i:Nat)=> i≤a.aG.length) (fun(i:Nat)=> ⟨dB 65 .any [(1,iv m),(3,iv n),(4,.ptr 0 0),(6,.ptr 1 0),(8,.ptr 2 0),(10,.ptr 3 0),(11,iv i)],[some (.box (cF (eG a))),some (.box (cF (eG b))),some (.box (cF (eG mC))),some (.box [.acc 4,.d (.val (.int .i64 (m*a.bound+n*b.bound))),.d (.val (.bool true))]),some (.acc 3 (bG (comb m n (a.aG.take i) (b.aG.take i))))]⟩) (fun(i:Nat)=> a.aG.length-i) (0) ?_ (aw [some 0,some 1,some 2,some 3,none] ?_ ?_ rfl rfl) ?_
   rotate_left
   ·simp -implicitDefEqProofs only[go_sem]
   ·simp -implicitDefEqProofs only[go_sem]
    all_goals(simp[comb, *])
   rotate_left
   ·omega
   ·rintro i hi
    rcases aa (i<a.aG.length) with h1|h1
    ·have h2:i<b.aG.length:=by omega
     have h3:(i:Int)<4:=by omega
     have q1:=dj h5.1 h5.2 (hc1 a.aG[i] (ak h1))
     have q2:=dj h6.1 h6.2 (hc2 b.aG[i] (ak h2))
     have dy:(comb m n (a.aG.take i) (b.aG.take i)).length≤4:=by rw[kh (by simp;omega)];simp;omega
     simp -implicitDefEqProofs only[go_sem,h3,h1,h2]
     repeat(first|with_reducible refine aY (by kernel_rfl) ?_|(with_reducible apply ar;case left=>omega))
     refine⟨i+1,?_,sL,aw [some 0,some 1,some 2,some 3,some 5] ?_ ?_ rfl rfl⟩
     rotate_left
     ·simp -implicitDefEqProofs only[go_sem]
     ·simp -implicitDefEqProofs only[go_sem]
      all_goals((rw[eV h1 h2,←eC];rfl))
     exact h1
    ·have h3:¬ (i:Int)<4:=by omega
     rw[ao (by omega),ao (by omega)]
     have e2:jn a m b n=⟨comb m n a.aG b.aG,m*a.bound+n*b.bound,true⟩:=by simp[jn, *]
     simp -implicitDefEqProofs only[go_sem,h3]
     refine dL [] [4] (gL ⟨comb m n a.aG b.aG,m*a.bound+n*b.bound,true⟩) rfl ?_ ?_ ?_
     ·(simp -implicitDefEqProofs only[go_sem];repeat'(first|exact iE.nil|apply iE.cons|exact Vw.same (by first|rfl|simp -implicitDefEqProofs only[go_sem,Z1,Z2,Z3,Z4])|exact Vw.acc rfl rfl|exact Vw.ff rfl rfl (by simp -implicitDefEqProofs only[go_sem,Z1,Z2,Z3,Z4])|exact Vw.nil|apply Vw.agg|apply Vw.fn|refine Vw.box rfl rfl ?_))
     all_goals simp -implicitDefEqProofs only[go_sem]
     rw[jl,e2]
     cases h7:dE ⟨comb m n a.aG b.aG,m*a.bound+n*b.bound,true⟩
     ·simp -implicitDefEqProofs only[go_sem]
      refine an ?_
      simp -implicitDefEqProofs only[go_sem]
      all_goals(simp;done)
     ·simp -implicitDefEqProofs only[go_sem]
      refine an ?_
      simp -implicitDefEqProofs only[go_sem]
 ·rcases aa (0<n) with t3|t3
  ·simp -implicitDefEqProofs only[go_sem,t1,t3]
   repeat(with_reducible apply ar;case left=>omega)
   refine aO hm (fun(i:Nat)=> i≤a.aG.length) (fun(i:Nat)=> ⟨dB 65 .any [(1,iv m),(3,iv n),(4,.ptr 0 0),(6,.ptr 1 0),(8,.ptr 2 0),(10,.ptr 3 0),(11,iv i)],[some (.box (cF (eG a))),some (.box (cF (eG b))),some (.box (cF (eG mC))),some (.box [.acc 4,.d (.val (.int .i64 (m*a.bound+n*b.bound))),.d (.val (.bool b.strict))]),some (.acc 3 (bG (comb m n (a.aG.take i) (b.aG.take i))))]⟩) (fun(i:Nat)=> a.aG.length-i) (0) ?_ (aw [some 0,some 1,some 2,some 3,none] ?_ ?_ rfl rfl) ?_
   rotate_left
   ·simp -implicitDefEqProofs only[go_sem]
   ·simp -implicitDefEqProofs only[go_sem]
    all_goals(simp[comb, *])
   rotate_left
   ·omega
   ·rintro i hi
    rcases aa (i<a.aG.length) with h1|h1
    ·have h2:i<b.aG.length:=by omega
     have h3:(i:Int)<4:=by omega
     have q1:=dj h5.1 h5.2 (hc1 a.aG[i] (ak h1))
     have q2:=dj h6.1 h6.2 (hc2 b.aG[i] (ak h2))
     have dy:(comb m n (a.aG.take i) (b.aG.take i)).length≤4:=by rw[kh (by simp;omega)];simp;omega
     simp -implicitDefEqProofs only[go_sem,h3,h1,h2]
     repeat(first|with_reducible refine aY (by kernel_rfl) ?_|(with_reducible apply ar;case left=>omega))
     refine⟨i+1,?_,sL,aw [some 0,some 1,some 2,some 3,some 5] ?_ ?_ rfl rfl⟩
     rotate_left
     ·simp -implicitDefEqProofs only[go_sem]
     ·simp -implicitDefEqProofs only[go_sem]
      all_goals((rw[eV h1 h2,←eC];rfl))
     exact h1
    ·have h3:¬ (i:Int)<4:=by omega
     rw[ao (by omega),ao (by omega)]
     have e2:jn a m b n=⟨comb m n a.aG b.aG,m*a.bound+n*b.bound,b.strict⟩:=by simp[jn, *]
     simp -implicitDefEqProofs only[go_sem,h3]
     refine dL [] [4] (gL ⟨comb m n a.aG b.aG,m*a.bound+n*b.bound,b.strict⟩) rfl ?_ ?_ ?_
     ·(simp -implicitDefEqProofs only[go_sem];repeat'(first|exact iE.nil|apply iE.cons|exact Vw.same (by first|rfl|simp -implicitDefEqProofs only[go_sem,Z1,Z2,Z3,Z4])|exact Vw.acc rfl rfl|exact Vw.ff rfl rfl (by simp -implicitDefEqProofs only[go_sem,Z1,Z2,Z3,Z4])|exact Vw.nil|apply Vw.agg|apply Vw.fn|refine Vw.box rfl rfl ?_))
     all_goals simp -implicitDefEqProofs only[go_sem]
     rw[jl,e2]
     cases h7:dE ⟨comb m n a.aG b.aG,m*a.bound+n*b.bound,b.strict⟩
     ·simp -implicitDefEqProofs only[go_sem]
      refine an ?_
      simp -implicitDefEqProofs only[go_sem]
      all_goals(simp;done)
     ·simp -implicitDefEqProofs only[go_sem]
      refine an ?_
      simp -implicitDefEqProofs only[go_sem]
  ·simp -implicitDefEqProofs only[go_sem,t1,t3]
   repeat(with_reducible apply ar;case left=>omega)
   refine aO hm (fun(i:Nat)=> i≤a.aG.length) (fun(i:Nat)=> ⟨dB 65 .any [(1,iv m),(3,iv n),(4,.ptr 0 0),(6,.ptr 1 0),(8,.ptr 2 0),(10,.ptr 3 0),(11,iv i)],[some (.box (cF (eG a))),some (.box (cF (eG b))),some (.box (cF (eG mC))),some (.box [.acc 4,.d (.val (.int .i64 (m*a.bound+n*b.bound))),.d (.val (.bool false))]),some (.acc 3 (bG (comb m n (a.aG.take i) (b.aG.take i))))]⟩) (fun(i:Nat)=> a.aG.length-i) (0) ?_ (aw [some 0,some 1,some 2,some 3,none] ?_ ?_ rfl rfl) ?_
   rotate_left
   ·simp -implicitDefEqProofs only[go_sem]
   ·simp -implicitDefEqProofs only[go_sem]
    all_goals(simp[comb, *])
   rotate_left
   ·omega
   ·rintro i hi
    rcases aa (i<a.aG.length) with h1|h1
    ·have h2:i<b.aG.length:=by omega
     have h3:(i:Int)<4:=by omega
     have q1:=dj h5.1 h5.2 (hc1 a.aG[i] (ak h1))
     have q2:=dj h6.1 h6.2 (hc2 b.aG[i] (ak h2))
     have dy:(comb m n (a.aG.take i) (b.aG.take i)).length≤4:=by rw[kh (by simp;omega)];simp;omega
     simp -implicitDefEqProofs only[go_sem,h3,h1,h2]
     repeat(first|with_reducible refine aY (by kernel_rfl) ?_|(with_reducible apply ar;case left=>omega))
     refine⟨i+1,?_,sL,aw [some 0,some 1,some 2,some 3,some 5] ?_ ?_ rfl rfl⟩
     rotate_left
     ·simp -implicitDefEqProofs only[go_sem]
     ·simp -implicitDefEqProofs only[go_sem]
      all_goals((rw[eV h1 h2,←eC];rfl))
     exact h1
    ·have h3:¬ (i:Int)<4:=by omega
     rw[ao (by omega),ao (by omega)]
     have e2:jn a m b n=⟨comb m n a.aG b.aG,m*a.bound+n*b.bound,false⟩:=by simp[jn, *]
     simp -implicitDefEqProofs only[go_sem,h3]
     refine dL [] [4] (gL ⟨comb m n a.aG b.aG,m*a.bound+n*b.bound,false⟩) rfl ?_ ?_ ?_
     ·(simp -implicitDefEqProofs only[go_sem];repeat'(first|exact iE.nil|apply iE.cons|exact Vw.same (by first|rfl|simp -implicitDefEqProofs only[go_sem,Z1,Z2,Z3,Z4])|exact Vw.acc rfl rfl|exact Vw.ff rfl rfl (by simp -implicitDefEqProofs only[go_sem,Z1,Z2,Z3,Z4])|exact Vw.nil|apply Vw.agg|apply Vw.fn|refine Vw.box rfl rfl ?_))
     all_goals simp -implicitDefEqProofs only[go_sem]
     rw[jl,e2]
     cases h7:dE ⟨comb m n a.aG b.aG,m*a.bound+n*b.bound,false⟩
     ·simp -implicitDefEqProofs only[go_sem]
      refine an ?_
      simp -implicitDefEqProofs only[go_sem]
      all_goals(simp;done)
     ·simp -implicitDefEqProofs only[go_sem]
      refine an ?_
      simp -implicitDefEqProofs only[go_sem]
theorem H7(a:ia)(m:Int)(b:ia)(n:Int):C E.P 250 [av (eG a),iv m,av (eG b),iv n] [] (bN (.ja [av (eG (dN a m b n).1),bv (dN a m b n).2]) []):=by
 have cI:=jR
 refine lG (nt:=42) (rs:=[.cell 8 162,.tmp 9]) hm Tryz.func250 rfl rfl rfl rfl rfl (fun hl he=>?_)
 simp -implicitDefEqProofs only[go_sem] at hl⊢
 refine bQ [] (gL a) ?_ ?_<;>simp -implicitDefEqProofs only[go_sem]
 cases g1:dE a
 ·simp -implicitDefEqProofs only[go_sem]
  refine an ?_
  simp -implicitDefEqProofs only[go_sem]
  all_goals(simp[dN,g1];done)
 ·simp -implicitDefEqProofs only[go_sem]
  refine bQ [] (gL b) ?_ ?_<;>simp -implicitDefEqProofs only[go_sem]
  cases g2:dE b
  ·simp -implicitDefEqProofs only[go_sem]
   refine an ?_
   simp -implicitDefEqProofs only[go_sem]
   all_goals(simp[dN,g1,g2];done)
  ·simp -implicitDefEqProofs only[go_sem]
   rcases aa (m<0) with t1|t1
   ·have e:within m 0 1000000=false:=by simp[within];omega
    simp -implicitDefEqProofs only[go_sem,t1]
    refine an ?_
    simp -implicitDefEqProofs only[go_sem]
    all_goals(simp[dN,g1,g2,e];done)
   ·rcases aa (n<0) with t2|t2
    ·have e:within n 0 1000000=false:=by simp[within];omega
     simp -implicitDefEqProofs only[go_sem,t1,t2]
     refine an ?_
     simp -implicitDefEqProofs only[go_sem]
     all_goals(simp[dN,g1,g2,e];done)
    ·rcases aa (1000000<m) with t3|t3
     ·have e:within m 0 1000000=false:=by simp[within];omega
      simp -implicitDefEqProofs only[go_sem,t1,t2,t3]
      refine an ?_
      simp -implicitDefEqProofs only[go_sem]
      all_goals(simp[dN,g1,g2,e];done)
     ·rcases aa (1000000<n) with t4|t4
      ·have e:within n 0 1000000=false:=by simp[within];omega
       simp -implicitDefEqProofs only[go_sem,t1,t2,t3,t4]
       refine an ?_
       simp -implicitDefEqProofs only[go_sem]
       all_goals(simp[dN,g1,g2,e];done)
      ·have e1:within m 0 1000000=true:=by simp[within];omega
       have e2:within n 0 1000000=true:=by simp[within];omega
       have e:=ph g1 g2 e1 e2
       simp -implicitDefEqProofs only[go_sem,t1,t2,t3,t4]
       refine bQ [] (A0 a m b n g1 g2 (by omega) (by omega)) ?_ ?_<;>simp -implicitDefEqProofs only[go_sem]
       refine an ?_
       simp -implicitDefEqProofs only[go_sem]
       all_goals(simp[e];done)
theorem wh(ls:List ia):C E.P 133 [lv (c9 ls)] [] (bN (bv (fH ls)) []):=by
 have cI:=jR
 refine lG (nt:=19) (rs:=[.tmp 2]) hm Tryz.func133 rfl rfl rfl rfl rfl (fun hl he=>?_)
 simp -implicitDefEqProofs only[go_sem] at hl⊢
 refine aO hm (fun(i:Nat)=> i≤ls.length∧ls.all dE=(ls.drop i).all dE) (fun(i:Nat)=> ⟨dB 19 .any [(0,lv (c9 ls)),(3,iv i)],[]⟩) (fun(i:Nat)=> ls.length-i) (0) ?_ (aw [] ?_ ?_ rfl rfl) ?_
 rotate_left
 ·simp -implicitDefEqProofs only[go_sem]
 ·simp -implicitDefEqProofs only[go_sem]
 rotate_left
 ·simp
 ·rintro i ⟨hi,hg⟩
  rcases aa (i<ls.length) with h1|h1
  ·rw[aj h1,b7] at hg
   simp -implicitDefEqProofs only[go_sem,h1]
   refine bQ [] (gL ls[i]) ?_ ?_<;>simp -implicitDefEqProofs only[go_sem]
   cases h2:dE ls[i]
   ·rw[h2,aS] at hg
    simp -implicitDefEqProofs only[go_sem]
    refine an ?_
    simp -implicitDefEqProofs only[go_sem]
    all_goals(simp[fH,hg];done)
   ·rw[h2,aM] at hg
    simp -implicitDefEqProofs only[go_sem]
    repeat(with_reducible apply ar;case left=>omega)
    refine⟨i+1,?_,sL,aw [] ?_ ?_ rfl rfl⟩
    rotate_left
    ·simp -implicitDefEqProofs only[go_sem]
    ·simp -implicitDefEqProofs only[go_sem]
    exact⟨by omega,hg⟩
  ·rw[al (by omega),dW] at hg
   have e:fH ls=decide ((ls.length:Int)≤20):=by simp[fH,hg];omega
   simp -implicitDefEqProofs only[go_sem,h1]
   refine an ?_
   simp -implicitDefEqProofs only[go_sem]
   all_goals(simp[e];done)
theorem HK(ls:List ia)(ts:List Int):C E.P 206 [lv (c9 ls),lv (bG ts)] [] (bN (.ja [av (eG (jF ls ts).1),bv (jF ls ts).2]) []):=by
 have cI:=jR
 refine lG (nt:=45) (rs:=[.cell 4 162,.tmp 5]) hm Tryz.func206 rfl rfl rfl rfl rfl (fun hl he=>?_)
 simp -implicitDefEqProofs only[go_sem,Z3,Z4] at hl⊢
 repeat(with_reducible apply ar;case left=>omega)
 refine bQ [] (wh ls) ?_ ?_<;>simp -implicitDefEqProofs only[go_sem]
 cases g1:fH ls
 ·simp -implicitDefEqProofs only[go_sem]
  refine an ?_
  simp -implicitDefEqProofs only[go_sem]
  all_goals(simp[jF,g1];done)
 ·rcases aa (ts.length=ls.length) with g2|g2
  ·have e:jF ls ts=oY ls ts ⟨[0,0,0,0],0,false⟩:=by simp[jF,g1,g2]
   have k2:=eq_true g2
   simp -implicitDefEqProofs only[go_sem,k2]
   refine dm hm (fun(i:Nat) (out:ia)=> i≤ls.length∧jF ls ts=oY (ls.drop i) (ts.drop i) out) (fun(i:Nat) (out:ia)=> ⟨dB 45 .any [(0,lv (c9 ls)),(1,lv (bG ts)),(4,.ptr 0 0),(6,.ptr 1 0),(7,iv i)],[some (.box (cF (eG mC))),some (.box (cF (eG out)))]⟩) (fun(i:Nat) (out:ia)=> ls.length-i) (0) (⟨[0,0,0,0],0,false⟩) ?_ (aw [some 0,some 2] ?_ ?_ rfl rfl) ?_
   rotate_left
   ·simp -implicitDefEqProofs only[go_sem]
   ·simp -implicitDefEqProofs only[go_sem]
    all_goals(simp[bG,List.replicate])
   rotate_left
   ·simp[e]
   ·rintro i out ⟨hi,hg⟩
    rcases aa (i<ls.length) with h1|h1
    ·have h2:i<ts.length:=by omega
     rw[FG h1 h2] at hg
     simp -implicitDefEqProofs only[go_sem,h1,h2]
     refine bQ [] (H7 out 1 ls[i] ts[i]) ?_ ?_<;>simp -implicitDefEqProofs only[go_sem]
     with_reducible refine aY (by kernel_rfl) ?_
     cases h3:(dN out 1 ls[i] ts[i]).2
     ·rw[h3] at hg
      simp only[Bool.false_eq_true,if_false] at hg
      simp -implicitDefEqProofs only[go_sem]
      refine an ?_
      simp -implicitDefEqProofs only[go_sem]
      all_goals(simp[hg];done)
     ·rw[h3] at hg
      simp only[if_true] at hg
      simp -implicitDefEqProofs only[go_sem]
      repeat(with_reducible apply ar;case left=>omega)
      refine⟨i+1,(dN out 1 ls[i] ts[i]).1,?_,sL,aw [some 0,some 1] ?_ ?_ rfl rfl⟩
      rotate_left
      ·simp -implicitDefEqProofs only[go_sem]
      ·simp -implicitDefEqProofs only[go_sem]
      exact⟨by omega,hg⟩
    ·rw[al (by omega),al (by omega),oY] at hg
     simp -implicitDefEqProofs only[go_sem,h1]
     refine an ?_
     simp -implicitDefEqProofs only[go_sem]
     all_goals(simp[hg];done)
  ·simp -implicitDefEqProofs only[go_sem,g2]
   refine an ?_
   simp -implicitDefEqProofs only[go_sem]
   all_goals(simp[jF,g1,g2];done)
theorem J3(ls:List ia)(ts:List Int):C E.P 137 [lv (c9 ls),lv (bG ts)] [] (bN (bv (qS ls ts)) []):=by
 have cI:=jR
 refine lG (nt:=18) (rs:=[.tmp 4]) hm Tryz.func137 rfl rfl rfl rfl rfl (fun hl he=>?_)
 simp -implicitDefEqProofs only[go_sem] at hl⊢
 refine bQ [] (HK ls ts) ?_ ?_<;>simp -implicitDefEqProofs only[go_sem]
 cases h:(jF ls ts).2
 ·simp -implicitDefEqProofs only[go_sem]
  refine an ?_
  simp -implicitDefEqProofs only[go_sem]
  all_goals(simp[qS,h];done)
 ·simp -implicitDefEqProofs only[go_sem]
  refine bQ [] (yA (jF ls ts).1) ?_ ?_<;>simp -implicitDefEqProofs only[go_sem]
  refine an ?_
  simp -implicitDefEqProofs only[go_sem]
  all_goals(simp[qS,h];done)
end Go.Proofs.YtabembjmeobhoaaGreat
