/-
  The reference: the walks of constraints and their certificates. A step towards the exact laws.
-/
import Derived.Test.YtabembjmeobhoaaGreatKBI
set_option linter.unusedVariables false
set_option linter.unusedSimpArgs false
open And renaming intro→ar
open Bool renaming true_and→aM,false_and→aS
open Classical renaming em→aa
open List renaming drop_eq_getElem_cons→aj,getElem_mem→ak,drop_of_length_le→al,take_of_length_le→ao,all_cons→b8,all_nil→dX
namespace Go.Proofs.YtabembjmeobhoaaGreat
open Go.Eng Go.Mod
open Int renaming reduceEq→Z1,reduceLT→Z2,reduceLE→Z3,reduceToNat→Z4
set_option maxRecDepth 100000
set_option maxHeartbeats 800000
theorem wI(n:Int):C E.P 246 [iv n] [] (bM (bv (na n)) []):=by
 have cI:=jQ
 refine lJ (nt:=9) (rs:=[.tmp 2]) hm Tryz.func246 rfl rfl rfl rfl rfl (fun hl he=>?_)
 simp -implicitDefEqProofs only[go_sem] at hl⊢
 rcases aa (-1000000≤n) with h|h
 ·simp -implicitDefEqProofs only[go_sem,h]
  refine an ?_
  simp -implicitDefEqProofs only[go_sem]
  all_goals(simp[na,within,h];done)
 ·simp -implicitDefEqProofs only[go_sem,h]
  refine an ?_
  simp -implicitDefEqProofs only[go_sem]
  all_goals(simp[na,within,h];done)
theorem gK(l:ib):C E.P 203 [av (eF l)] [] (bM (bv (dF l)) []):=by
 have cI:=jQ
 refine lJ (nt:=27) (rs:=[.tmp 2]) hm Tryz.func203 rfl rfl rfl rfl rfl (fun hl he=>?_)
 simp -implicitDefEqProofs only[go_sem] at hl⊢
 refine aO hm (fun(i:Nat)=> i≤l.aG.length∧l.aG.all na=(l.aG.drop i).all na) (fun(i:Nat)=> ⟨dB 27 .any [(1,.ptr 0 0),(3,iv i)],[some (.box (cF (eF l)))]⟩) (fun(i:Nat)=> l.aG.length-i) (0) ?_ (aw [some 0] ?_ ?_ rfl rfl) ?_
 rotate_left
 ·simp -implicitDefEqProofs only[go_sem]
 ·simp -implicitDefEqProofs only[go_sem]
 rotate_left
 ·simp
 ·rintro i ⟨hi,hg⟩
  rcases aa (i<l.aG.length) with h1|h1
  ·rw[aj h1,b8] at hg
   simp -implicitDefEqProofs only[go_sem,h1]
   refine bQ [] (wI l.aG[i]) ?_ ?_<;>simp -implicitDefEqProofs only[go_sem]
   cases h2:na l.aG[i]
   ·rw[h2,aS] at hg
    have e:dF l=false:=by simp[dF,hg]
    simp -implicitDefEqProofs only[go_sem]
    refine an ?_
    simp -implicitDefEqProofs only[go_sem]
    all_goals(simp[e];done)
   ·rw[h2,aM] at hg
    simp -implicitDefEqProofs only[go_sem]
    repeat(with_reducible apply ar;case left=>omega)
    refine⟨i+1,?_,sL,aw [some 0] ?_ ?_ rfl rfl⟩
    rotate_left
    ·simp -implicitDefEqProofs only[go_sem]
    ·simp -implicitDefEqProofs only[go_sem]
    exact⟨by omega,hg⟩
  ·rw[al (by omega),dX] at hg
   rcases aa ((l.aG.length:Int)=4) with h3|h3
   ·have h3':l.aG.length=4:=by omega
    have k3:=eq_true h3
    simp -implicitDefEqProofs only[go_sem,h1,k3]
    refine bQ [] (wI l.bound) ?_ ?_<;>simp -implicitDefEqProofs only[go_sem]
    refine an ?_
    simp -implicitDefEqProofs only[go_sem]
    all_goals(simp[dF,hg,h3'];done)
   ·have h3':¬l.aG.length=4:=by omega
    simp -implicitDefEqProofs only[go_sem,h1,h3]
    refine an ?_
    simp -implicitDefEqProofs only[go_sem]
    all_goals(simp[dF,hg,h3'];done)
theorem Ht(l:ib):C E.P 202 [av (eF l)] [] (bM (av (eF (pj l))) []):=by
 have cI:=jQ
 refine lJ (nt:=35) (rs:=[.cell 2 162]) hm Tryz.func202 rfl rfl rfl rfl rfl (fun hl he=>?_)
 simp -implicitDefEqProofs only[go_sem] at hl⊢
 refine bQ [] (gK l) ?_ ?_<;>simp -implicitDefEqProofs only[go_sem]
 cases h:dF l
 ·simp -implicitDefEqProofs only[go_sem]
  refine an ?_
  simp -implicitDefEqProofs only[go_sem]
  all_goals(simp[pj,h];done)
 ·obtain⟨h4,hc,hb⟩:=gq.1 h
  have e:pj l=⟨l.aG.map fun c=>-c,-l.bound,!l.strict⟩:=by simp[pj,h]
  simp -implicitDefEqProofs only[go_sem]
  repeat(with_reducible apply ar;case left=>omega)
  refine aO hm (fun(i:Nat)=> i≤l.aG.length) (fun(i:Nat)=> ⟨dB 35 .any [(1,.ptr 0 0),(2,.ptr 1 0),(3,.ptr 2 0),(4,iv i)],[some (.box (cF (eF l))),some (.box (cF (eF mC))),some (.box [.acc 3,.d (.val (.int .i64 (-l.bound))),.d (.val (.bool (!l.strict)))]),some (.acc 3 (bG ((l.aG.take i).map fun c=>-c)))]⟩) (fun(i:Nat)=> l.aG.length-i) (0) ?_ (aw [some 0,some 1,some 2,none] ?_ ?_ rfl rfl) ?_
  rotate_left
  ·simp -implicitDefEqProofs only[go_sem]
  ·simp -implicitDefEqProofs only[go_sem]
  rotate_left
  ·omega
  ·rintro i hi
   rcases aa (i<l.aG.length) with h1|h1
   ·have hn:=hc l.aG[i] (ak h1)
    simp -implicitDefEqProofs only[go_sem,h1]
    repeat(first|with_reducible refine aY (by kernel_rfl) ?_|(with_reducible apply ar;case left=>omega))
    refine⟨i+1,?_,sL,aw [some 0,some 1,some 2,some 4] ?_ ?_ rfl rfl⟩
    rotate_left
    ·simp -implicitDefEqProofs only[go_sem]
    ·simp -implicitDefEqProofs only[go_sem]
     all_goals((rw[List.take_add_one,List.getElem?_eq_getElem h1,List.map_append,←eC];rfl))
    exact h1
   ·simp -implicitDefEqProofs only[go_sem,h1]
    refine an ?_
    simp -implicitDefEqProofs only[go_sem]
    rw[ao (by omega),e]
    simp[]
theorem EN(l:ib):C E.P 249 [av (eF l)] [] (bM (bv (flat l)) []):=by
 have cI:=jQ
 refine lJ (nt:=17) (rs:=[.tmp 2]) hm Tryz.func249 rfl rfl rfl rfl rfl (fun hl he=>?_)
 simp -implicitDefEqProofs only[go_sem] at hl⊢
 refine aO hm (fun(i:Nat)=> i≤l.aG.length∧flat l=(l.aG.drop i).all (fun c=>decide (c=0))) (fun(i:Nat)=> ⟨dB 17 .any [(1,.ptr 0 0),(3,iv i)],[some (.box (cF (eF l)))]⟩) (fun(i:Nat)=> l.aG.length-i) (0) ?_ (aw [some 0] ?_ ?_ rfl rfl) ?_
 rotate_left
 ·simp -implicitDefEqProofs only[go_sem]
 ·simp -implicitDefEqProofs only[go_sem]
 rotate_left
 ·simp[flat]
 ·rintro i ⟨hi,hg⟩
  rcases aa (i<l.aG.length) with h1|h1
  ·rw[aj h1,b8] at hg
   simp -implicitDefEqProofs only[go_sem,h1]
   rcases aa (l.aG[i]=0) with h2|h2
   ·have k:=eq_true h2
    simp only[k,decide_true,aM] at hg
    simp -implicitDefEqProofs only[go_sem,k]
    repeat(with_reducible apply ar;case left=>omega)
    refine⟨i+1,?_,sL,aw [some 0] ?_ ?_ rfl rfl⟩
    rotate_left
    ·simp -implicitDefEqProofs only[go_sem]
    ·simp -implicitDefEqProofs only[go_sem]
    exact⟨by omega,hg⟩
   ·have k:=eq_false h2
    simp only[k,decide_false,aS] at hg
    simp -implicitDefEqProofs only[go_sem,k]
    refine an ?_
    simp -implicitDefEqProofs only[go_sem]
    all_goals(simp[hg];done)
  ·rw[al (by omega),dX] at hg
   simp -implicitDefEqProofs only[go_sem,h1]
   refine an ?_
   simp -implicitDefEqProofs only[go_sem]
   all_goals(simp[hg];done)
theorem yn(l:ib):C E.P 205 [av (eF l)] [] (bM (bv (jJ l)) []):=by
 have cI:=jQ
 refine lJ (nt:=23) (rs:=[.tmp 2]) hm Tryz.func205 rfl rfl rfl rfl rfl (fun hl he=>?_)
 simp -implicitDefEqProofs only[go_sem] at hl⊢
 refine bQ [] (gK l) ?_ ?_<;>simp -implicitDefEqProofs only[go_sem]
 cases h:dF l
 ·simp -implicitDefEqProofs only[go_sem]
  refine an ?_
  simp -implicitDefEqProofs only[go_sem]
  all_goals(simp[jJ,h];done)
 ·simp -implicitDefEqProofs only[go_sem]
  refine bQ [] (EN l) ?_ ?_<;>simp -implicitDefEqProofs only[go_sem]
  cases h0:flat l
  ·simp -implicitDefEqProofs only[go_sem]
   refine an ?_
   simp -implicitDefEqProofs only[go_sem]
   all_goals(simp[jJ,h,h0];done)
  ·simp -implicitDefEqProofs only[go_sem]
   rcases aa (l.bound<0) with h1|h1
   ·simp -implicitDefEqProofs only[go_sem,h1]
    refine an ?_
    simp -implicitDefEqProofs only[go_sem]
    all_goals(simp[jJ,h,h0,h1];done)
   ·rcases aa (l.bound=0) with h2|h2
    ·have k:=eq_true h2
     simp -implicitDefEqProofs only[go_sem,h1,k]
     refine an ?_
     simp -implicitDefEqProofs only[go_sem]
     all_goals(simp[jJ,h,h0,h2];done)
    ·simp -implicitDefEqProofs only[go_sem,h1,h2]
     refine an ?_
     simp -implicitDefEqProofs only[go_sem]
     all_goals(simp[jJ,h,h0,h1,h2];done)
theorem Af(a:ib)(m:Int)(b:ib)(n:Int)(g1:dF a=true)(g2:dF b=true)(h5:0≤m∧m≤1000000)(h6:0≤n∧n≤1000000):C E.P 248 [av (eF a),iv m,av (eF b),iv n] [] (bM (.jd [av (eF (jm a m b n).1),bv (jm a m b n).2]) []):=by
 obtain⟨hn1,hc1,hb1⟩:=gq.1 g1
 obtain⟨hn2,hc2,hb2⟩:=gq.1 g2
 have p1:=dj h5.1 h5.2 hb1
 have p2:=dj h6.1 h6.2 hb2
 have cI:=jQ
 refine lJ (nt:=65) (rs:=[.cell 8 162,.tmp 9]) hm Tryz.func248 rfl rfl rfl rfl rfl (fun hl he=>?_)
 simp -implicitDefEqProofs only[go_sem] at hl⊢
 rcases aa (0<m) with t1|t1
 ·cases t2:a.strict
  ·rcases aa (0<n) with t3|t3
   ·simp -implicitDefEqProofs only[go_sem,t1,t3]
    repeat(with_reducible apply ar;case left=>omega)
    refine aO hm (fun(i:Nat)=> i≤a.aG.length) (fun(i:Nat)=> ⟨dB 65 .any [(1,iv m),(3,iv n),(4,.ptr 0 0),(6,.ptr 1 0),(8,.ptr 2 0),(10,.ptr 3 0),(11,iv i)],[some (.box (cF (eF a))),some (.box (cF (eF b))),some (.box (cF (eF mC))),some (.box [.acc 4,.d (.val (.int .i64 (m*a.bound+n*b.bound))),.d (.val (.bool b.strict))]),some (.acc 3 (bG (comb m n (a.aG.take i) (b.aG.take i))))]⟩) (fun(i:Nat)=> a.aG.length-i) (0) ?_ (aw [some 0,some 1,some 2,some 3,none] ?_ ?_ rfl rfl) ?_
    rotate_left
    ·simp -implicitDefEqProofs only[go_sem]
    ·simp -implicitDefEqProofs only[go_sem]
     all_goals(simp[comb, *])
    rotate_left
    ·omega
    ·rintro i hi
     rcases aa (i<a.aG.length) with h1|h1
     ·have h2:i<b.aG.length:=by omega
      have h3:(i:Int)<4:=by omega
      have q1:=dj h5.1 h5.2 (hc1 a.aG[i] (ak h1))
      have q2:=dj h6.1 h6.2 (hc2 b.aG[i] (ak h2))
      have dy:(comb m n (a.aG.take i) (b.aG.take i)).length≤4:=by rw[j5 (by simp;omega)];simp;omega
      simp -implicitDefEqProofs only[go_sem,h3,h1,h2]
      repeat(first|with_reducible refine aY (by kernel_rfl) ?_|(with_reducible apply ar;case left=>omega))
      refine⟨i+1,?_,sL,aw [some 0,some 1,some 2,some 3,some 5] ?_ ?_ rfl rfl⟩
      rotate_left
      ·simp -implicitDefEqProofs only[go_sem]
      ·simp -implicitDefEqProofs only[go_sem]
       all_goals((rw[eW h1 h2,←eC];rfl))
      exact h1
     ·have h3:¬ (i:Int)<4:=by omega
      rw[ao (by omega),ao (by omega)]
      have e2:jn a m b n=⟨comb m n a.aG b.aG,m*a.bound+n*b.bound,b.strict⟩:=by simp[jn, *]
      simp -implicitDefEqProofs only[go_sem,h3]
      refine dN [] [4] (gK ⟨comb m n a.aG b.aG,m*a.bound+n*b.bound,b.strict⟩) rfl ?_ ?_ ?_
      ·(simp -implicitDefEqProofs only[go_sem];repeat'(first|exact ik.nil|apply ik.cons|exact Vw.same (by first|rfl|simp -implicitDefEqProofs only[go_sem,Z1,Z2,Z3,Z4])|exact Vw.acc rfl rfl|exact Vw.fg rfl rfl (by simp -implicitDefEqProofs only[go_sem,Z1,Z2,Z3,Z4])|exact Vw.nil|apply Vw.agg|apply Vw.fn|refine Vw.box rfl rfl ?_))
      all_goals simp -implicitDefEqProofs only[go_sem]
      rw[jm,e2]
      cases h7:dF ⟨comb m n a.aG b.aG,m*a.bound+n*b.bound,b.strict⟩
      ·simp -implicitDefEqProofs only[go_sem]
       refine an ?_
       simp -implicitDefEqProofs only[go_sem]
       all_goals(simp;done)
      ·simp -implicitDefEqProofs only[go_sem]
       refine an ?_
       simp -implicitDefEqProofs only[go_sem]
   ·simp -implicitDefEqProofs only[go_sem,t1,t3]
    repeat(with_reducible apply ar;case left=>omega)
    refine aO hm (fun(i:Nat)=> i≤a.aG.length) (fun(i:Nat)=> ⟨dB 65 .any [(1,iv m),(3,iv n),(4,.ptr 0 0),(6,.ptr 1 0),(8,.ptr 2 0),(10,.ptr 3 0),(11,iv i)],[some (.box (cF (eF a))),some (.box (cF (eF b))),some (.box (cF (eF mC))),some (.box [.acc 4,.d (.val (.int .i64 (m*a.bound+n*b.bound))),.d (.val (.bool false))]),some (.acc 3 (bG (comb m n (a.aG.take i) (b.aG.take i))))]⟩) (fun(i:Nat)=> a.aG.length-i) (0) ?_ (aw [some 0,some 1,some 2,some 3,none] ?_ ?_ rfl rfl) ?_
    rotate_left
    ·simp -implicitDefEqProofs only[go_sem]
    ·simp -implicitDefEqProofs only[go_sem]
     all_goals(simp[comb, *])
    rotate_left
    ·omega
    ·rintro i hi
     rcases aa (i<a.aG.length) with h1|h1
     ·have h2:i<b.aG.length:=by omega
      have h3:(i:Int)<4:=by omega
      have q1:=dj h5.1 h5.2 (hc1 a.aG[i] (ak h1))
      have q2:=dj h6.1 h6.2 (hc2 b.aG[i] (ak h2))
      have dy:(comb m n (a.aG.take i) (b.aG.take i)).length≤4:=by rw[j5 (by simp;omega)];simp;omega
      simp -implicitDefEqProofs only[go_sem,h3,h1,h2]
      repeat(first|with_reducible refine aY (by kernel_rfl) ?_|(with_reducible apply ar;case left=>omega))
      refine⟨i+1,?_,sL,aw [some 0,some 1,some 2,some 3,some 5] ?_ ?_ rfl rfl⟩
      rotate_left
      ·simp -implicitDefEqProofs only[go_sem]
      ·simp -implicitDefEqProofs only[go_sem]
       all_goals((rw[eW h1 h2,←eC];rfl))
      exact h1
     ·have h3:¬ (i:Int)<4:=by omega
      rw[ao (by omega),ao (by omega)]
      have e2:jn a m b n=⟨comb m n a.aG b.aG,m*a.bound+n*b.bound,false⟩:=by simp[jn, *]
      simp -implicitDefEqProofs only[go_sem,h3]
      refine dN [] [4] (gK ⟨comb m n a.aG b.aG,m*a.bound+n*b.bound,false⟩) rfl ?_ ?_ ?_
      ·(simp -implicitDefEqProofs only[go_sem];repeat'(first|exact ik.nil|apply ik.cons|exact Vw.same (by first|rfl|simp -implicitDefEqProofs only[go_sem,Z1,Z2,Z3,Z4])|exact Vw.acc rfl rfl|exact Vw.fg rfl rfl (by simp -implicitDefEqProofs only[go_sem,Z1,Z2,Z3,Z4])|exact Vw.nil|apply Vw.agg|apply Vw.fn|refine Vw.box rfl rfl ?_))
      all_goals simp -implicitDefEqProofs only[go_sem]
      rw[jm,e2]
      cases h7:dF ⟨comb m n a.aG b.aG,m*a.bound+n*b.bound,false⟩
      ·simp -implicitDefEqProofs only[go_sem]
       refine an ?_
       simp -implicitDefEqProofs only[go_sem]
       all_goals(simp;done)
      ·simp -implicitDefEqProofs only[go_sem]
       refine an ?_
       simp -implicitDefEqProofs only[go_sem]
  ·simp -implicitDefEqProofs only[go_sem,t1]
   repeat(with_reducible apply ar;case left=>omega)
   refine aO hm (fun(i:Nat)=> i≤a.aG.length) (fun(i:Nat)=> ⟨dB 65 .any [(1,iv m),(3,iv n),(4,.ptr 0 0),(6,.ptr 1 0),(8,.ptr 2 0),(10,.ptr 3 0),(11,iv i)],[some (.box (cF (eF a))),some (.box (cF (eF b))),some (.box (cF (eF mC))),some (.box [.acc 4,.d (.val (.int .i64 (m*a.bound+n*b.bound))),.d (.val (.bool true))]),some (.acc 3 (bG (comb m n (a.aG.take i) (b.aG.take i))))]⟩) (fun(i:Nat)=> a.aG.length-i) (0) ?_ (aw [some 0,some 1,some 2,some 3,none] ?_ ?_ rfl rfl) ?_
   rotate_left
   ·simp -implicitDefEqProofs only[go_sem]
   ·simp -implicitDefEqProofs only[go_sem]
    all_goals(simp[comb, *])
   rotate_left
   ·omega
   ·rintro i hi
    rcases aa (i<a.aG.length) with h1|h1
    ·have h2:i<b.aG.length:=by omega
     have h3:(i:Int)<4:=by omega
     have q1:=dj h5.1 h5.2 (hc1 a.aG[i] (ak h1))
     have q2:=dj h6.1 h6.2 (hc2 b.aG[i] (ak h2))
     have dy:(comb m n (a.aG.take i) (b.aG.take i)).length≤4:=by rw[j5 (by simp;omega)];simp;omega
     simp -implicitDefEqProofs only[go_sem,h3,h1,h2]
     repeat(first|with_reducible refine aY (by kernel_rfl) ?_|(with_reducible apply ar;case left=>omega))
     refine⟨i+1,?_,sL,aw [some 0,some 1,some 2,some 3,some 5] ?_ ?_ rfl rfl⟩
     rotate_left
     ·simp -implicitDefEqProofs only[go_sem]
     ·simp -implicitDefEqProofs only[go_sem]
      all_goals((rw[eW h1 h2,←eC];rfl))
     exact h1
    ·have h3:¬ (i:Int)<4:=by omega
     rw[ao (by omega),ao (by omega)]
     have e2:jn a m b n=⟨comb m n a.aG b.aG,m*a.bound+n*b.bound,true⟩:=by simp[jn, *]
     simp -implicitDefEqProofs only[go_sem,h3]
     refine dN [] [4] (gK ⟨comb m n a.aG b.aG,m*a.bound+n*b.bound,true⟩) rfl ?_ ?_ ?_
     ·(simp -implicitDefEqProofs only[go_sem];repeat'(first|exact ik.nil|apply ik.cons|exact Vw.same (by first|rfl|simp -implicitDefEqProofs only[go_sem,Z1,Z2,Z3,Z4])|exact Vw.acc rfl rfl|exact Vw.fg rfl rfl (by simp -implicitDefEqProofs only[go_sem,Z1,Z2,Z3,Z4])|exact Vw.nil|apply Vw.agg|apply Vw.fn|refine Vw.box rfl rfl ?_))
     all_goals simp -implicitDefEqProofs only[go_sem]
     rw[jm,e2]
     cases h7:dF ⟨comb m n a.aG b.aG,m*a.bound+n*b.bound,true⟩
     ·simp -implicitDefEqProofs only[go_sem]
      refine an ?_
      simp -implicitDefEqProofs only[go_sem]
      all_goals(simp;done)
     ·simp -implicitDefEqProofs only[go_sem]
      refine an ?_
      simp -implicitDefEqProofs only[go_sem]
 ·rcases aa (0<n) with t3|t3
  ·simp -implicitDefEqProofs only[go_sem,t1,t3]
   repeat(with_reducible apply ar;case left=>omega)
   refine aO hm (fun(i:Nat)=> i≤a.aG.length) (fun(i:Nat)=> ⟨dB 65 .any [(1,iv m),(3,iv n),(4,.ptr 0 0),(6,.ptr 1 0),(8,.ptr 2 0),(10,.ptr 3 0),(11,iv i)],[some (.box (cF (eF a))),some (.box (cF (eF b))),some (.box (cF (eF mC))),some (.box [.acc 4,.d (.val (.int .i64 (m*a.bound+n*b.bound))),.d (.val (.bool b.strict))]),some (.acc 3 (bG (comb m n (a.aG.take i) (b.aG.take i))))]⟩) (fun(i:Nat)=> a.aG.length-i) (0) ?_ (aw [some 0,some 1,some 2,some 3,none] ?_ ?_ rfl rfl) ?_
   rotate_left
   ·simp -implicitDefEqProofs only[go_sem]
   ·simp -implicitDefEqProofs only[go_sem]
    all_goals(simp[comb, *])
   rotate_left
   ·omega
   ·rintro i hi
    rcases aa (i<a.aG.length) with h1|h1
    ·have h2:i<b.aG.length:=by omega
     have h3:(i:Int)<4:=by omega
     have q1:=dj h5.1 h5.2 (hc1 a.aG[i] (ak h1))
     have q2:=dj h6.1 h6.2 (hc2 b.aG[i] (ak h2))
     have dy:(comb m n (a.aG.take i) (b.aG.take i)).length≤4:=by rw[j5 (by simp;omega)];simp;omega
     simp -implicitDefEqProofs only[go_sem,h3,h1,h2]
     repeat(first|with_reducible refine aY (by kernel_rfl) ?_|(with_reducible apply ar;case left=>omega))
     refine⟨i+1,?_,sL,aw [some 0,some 1,some 2,some 3,some 5] ?_ ?_ rfl rfl⟩
     rotate_left
     ·simp -implicitDefEqProofs only[go_sem]
     ·simp -implicitDefEqProofs only[go_sem]
      all_goals((rw[eW h1 h2,←eC];rfl))
     exact h1
    ·have h3:¬ (i:Int)<4:=by omega
     rw[ao (by omega),ao (by omega)]
     have e2:jn a m b n=⟨comb m n a.aG b.aG,m*a.bound+n*b.bound,b.strict⟩:=by simp[jn, *]
     simp -implicitDefEqProofs only[go_sem,h3]
     refine dN [] [4] (gK ⟨comb m n a.aG b.aG,m*a.bound+n*b.bound,b.strict⟩) rfl ?_ ?_ ?_
     ·(simp -implicitDefEqProofs only[go_sem];repeat'(first|exact ik.nil|apply ik.cons|exact Vw.same (by first|rfl|simp -implicitDefEqProofs only[go_sem,Z1,Z2,Z3,Z4])|exact Vw.acc rfl rfl|exact Vw.fg rfl rfl (by simp -implicitDefEqProofs only[go_sem,Z1,Z2,Z3,Z4])|exact Vw.nil|apply Vw.agg|apply Vw.fn|refine Vw.box rfl rfl ?_))
     all_goals simp -implicitDefEqProofs only[go_sem]
     rw[jm,e2]
     cases h7:dF ⟨comb m n a.aG b.aG,m*a.bound+n*b.bound,b.strict⟩
     ·simp -implicitDefEqProofs only[go_sem]
      refine an ?_
      simp -implicitDefEqProofs only[go_sem]
      all_goals(simp;done)
     ·simp -implicitDefEqProofs only[go_sem]
      refine an ?_
      simp -implicitDefEqProofs only[go_sem]
  ·simp -implicitDefEqProofs only[go_sem,t1,t3]
   repeat(with_reducible apply ar;case left=>omega)
   refine aO hm (fun(i:Nat)=> i≤a.aG.length) (fun(i:Nat)=> ⟨dB 65 .any [(1,iv m),(3,iv n),(4,.ptr 0 0),(6,.ptr 1 0),(8,.ptr 2 0),(10,.ptr 3 0),(11,iv i)],[some (.box (cF (eF a))),some (.box (cF (eF b))),some (.box (cF (eF mC))),some (.box [.acc 4,.d (.val (.int .i64 (m*a.bound+n*b.bound))),.d (.val (.bool false))]),some (.acc 3 (bG (comb m n (a.aG.take i) (b.aG.take i))))]⟩) (fun(i:Nat)=> a.aG.length-i) (0) ?_ (aw [some 0,some 1,some 2,some 3,none] ?_ ?_ rfl rfl) ?_
   rotate_left
   ·simp -implicitDefEqProofs only[go_sem]
   ·simp -implicitDefEqProofs only[go_sem]
    all_goals(simp[comb, *])
   rotate_left
   ·omega
   ·rintro i hi
    rcases aa (i<a.aG.length) with h1|h1
    ·have h2:i<b.aG.length:=by omega
     have h3:(i:Int)<4:=by omega
     have q1:=dj h5.1 h5.2 (hc1 a.aG[i] (ak h1))
     have q2:=dj h6.1 h6.2 (hc2 b.aG[i] (ak h2))
     have dy:(comb m n (a.aG.take i) (b.aG.take i)).length≤4:=by rw[j5 (by simp;omega)];simp;omega
     simp -implicitDefEqProofs only[go_sem,h3,h1,h2]
     repeat(first|with_reducible refine aY (by kernel_rfl) ?_|(with_reducible apply ar;case left=>omega))
     refine⟨i+1,?_,sL,aw [some 0,some 1,some 2,some 3,some 5] ?_ ?_ rfl rfl⟩
     rotate_left
     ·simp -implicitDefEqProofs only[go_sem]
     ·simp -implicitDefEqProofs only[go_sem]
      all_goals((rw[eW h1 h2,←eC];rfl))
     exact h1
    ·have h3:¬ (i:Int)<4:=by omega
     rw[ao (by omega),ao (by omega)]
     have e2:jn a m b n=⟨comb m n a.aG b.aG,m*a.bound+n*b.bound,false⟩:=by simp[jn, *]
     simp -implicitDefEqProofs only[go_sem,h3]
     refine dN [] [4] (gK ⟨comb m n a.aG b.aG,m*a.bound+n*b.bound,false⟩) rfl ?_ ?_ ?_
     ·(simp -implicitDefEqProofs only[go_sem];repeat'(first|exact ik.nil|apply ik.cons|exact Vw.same (by first|rfl|simp -implicitDefEqProofs only[go_sem,Z1,Z2,Z3,Z4])|exact Vw.acc rfl rfl|exact Vw.fg rfl rfl (by simp -implicitDefEqProofs only[go_sem,Z1,Z2,Z3,Z4])|exact Vw.nil|apply Vw.agg|apply Vw.fn|refine Vw.box rfl rfl ?_))
     all_goals simp -implicitDefEqProofs only[go_sem]
     rw[jm,e2]
     cases h7:dF ⟨comb m n a.aG b.aG,m*a.bound+n*b.bound,false⟩
     ·simp -implicitDefEqProofs only[go_sem]
      refine an ?_
      simp -implicitDefEqProofs only[go_sem]
      all_goals(simp;done)
     ·simp -implicitDefEqProofs only[go_sem]
      refine an ?_
      simp -implicitDefEqProofs only[go_sem]
theorem HK(a:ib)(m:Int)(b:ib)(n:Int):C E.P 250 [av (eF a),iv m,av (eF b),iv n] [] (bM (.jd [av (eF (dL a m b n).1),bv (dL a m b n).2]) []):=by
 have cI:=jQ
 refine lJ (nt:=42) (rs:=[.cell 8 162,.tmp 9]) hm Tryz.func250 rfl rfl rfl rfl rfl (fun hl he=>?_)
 simp -implicitDefEqProofs only[go_sem] at hl⊢
 refine bQ [] (gK a) ?_ ?_<;>simp -implicitDefEqProofs only[go_sem]
 cases g1:dF a
 ·simp -implicitDefEqProofs only[go_sem]
  refine an ?_
  simp -implicitDefEqProofs only[go_sem]
  all_goals(simp[dL,g1];done)
 ·simp -implicitDefEqProofs only[go_sem]
  refine bQ [] (gK b) ?_ ?_<;>simp -implicitDefEqProofs only[go_sem]
  cases g2:dF b
  ·simp -implicitDefEqProofs only[go_sem]
   refine an ?_
   simp -implicitDefEqProofs only[go_sem]
   all_goals(simp[dL,g1,g2];done)
  ·simp -implicitDefEqProofs only[go_sem]
   rcases aa (m<0) with t1|t1
   ·have e:within m 0 1000000=false:=by simp[within];omega
    simp -implicitDefEqProofs only[go_sem,t1]
    refine an ?_
    simp -implicitDefEqProofs only[go_sem]
    all_goals(simp[dL,g1,g2,e];done)
   ·rcases aa (n<0) with t2|t2
    ·have e:within n 0 1000000=false:=by simp[within];omega
     simp -implicitDefEqProofs only[go_sem,t1,t2]
     refine an ?_
     simp -implicitDefEqProofs only[go_sem]
     all_goals(simp[dL,g1,g2,e];done)
    ·rcases aa (1000000<m) with t3|t3
     ·have e:within m 0 1000000=false:=by simp[within];omega
      simp -implicitDefEqProofs only[go_sem,t1,t2,t3]
      refine an ?_
      simp -implicitDefEqProofs only[go_sem]
      all_goals(simp[dL,g1,g2,e];done)
     ·rcases aa (1000000<n) with t4|t4
      ·have e:within n 0 1000000=false:=by simp[within];omega
       simp -implicitDefEqProofs only[go_sem,t1,t2,t3,t4]
       refine an ?_
       simp -implicitDefEqProofs only[go_sem]
       all_goals(simp[dL,g1,g2,e];done)
      ·have e1:within m 0 1000000=true:=by simp[within];omega
       have e2:within n 0 1000000=true:=by simp[within];omega
       have e:=pL g1 g2 e1 e2
       simp -implicitDefEqProofs only[go_sem,t1,t2,t3,t4]
       refine bQ [] (Af a m b n g1 g2 (by omega) (by omega)) ?_ ?_<;>simp -implicitDefEqProofs only[go_sem]
       refine an ?_
       simp -implicitDefEqProofs only[go_sem]
       all_goals(simp[e];done)
theorem wT(ls:List ib):C E.P 133 [lv (db ls)] [] (bM (bv (fG ls)) []):=by
 have cI:=jQ
 refine lJ (nt:=19) (rs:=[.tmp 2]) hm Tryz.func133 rfl rfl rfl rfl rfl (fun hl he=>?_)
 simp -implicitDefEqProofs only[go_sem] at hl⊢
 refine aO hm (fun(i:Nat)=> i≤ls.length∧ls.all dF=(ls.drop i).all dF) (fun(i:Nat)=> ⟨dB 19 .any [(0,lv (db ls)),(3,iv i)],[]⟩) (fun(i:Nat)=> ls.length-i) (0) ?_ (aw [] ?_ ?_ rfl rfl) ?_
 rotate_left
 ·simp -implicitDefEqProofs only[go_sem]
 ·simp -implicitDefEqProofs only[go_sem]
 rotate_left
 ·simp
 ·rintro i ⟨hi,hg⟩
  rcases aa (i<ls.length) with h1|h1
  ·rw[aj h1,b8] at hg
   simp -implicitDefEqProofs only[go_sem,h1]
   refine bQ [] (gK ls[i]) ?_ ?_<;>simp -implicitDefEqProofs only[go_sem]
   cases h2:dF ls[i]
   ·rw[h2,aS] at hg
    simp -implicitDefEqProofs only[go_sem]
    refine an ?_
    simp -implicitDefEqProofs only[go_sem]
    all_goals(simp[fG,hg];done)
   ·rw[h2,aM] at hg
    simp -implicitDefEqProofs only[go_sem]
    repeat(with_reducible apply ar;case left=>omega)
    refine⟨i+1,?_,sL,aw [] ?_ ?_ rfl rfl⟩
    rotate_left
    ·simp -implicitDefEqProofs only[go_sem]
    ·simp -implicitDefEqProofs only[go_sem]
    exact⟨by omega,hg⟩
  ·rw[al (by omega),dX] at hg
   have e:fG ls=decide ((ls.length:Int)≤20):=by simp[fG,hg];omega
   simp -implicitDefEqProofs only[go_sem,h1]
   refine an ?_
   simp -implicitDefEqProofs only[go_sem]
   all_goals(simp[e];done)
theorem H0(ls:List ib)(ts:List Int):C E.P 206 [lv (db ls),lv (bG ts)] [] (bM (.jd [av (eF (jE ls ts).1),bv (jE ls ts).2]) []):=by
 have cI:=jQ
 refine lJ (nt:=45) (rs:=[.cell 4 162,.tmp 5]) hm Tryz.func206 rfl rfl rfl rfl rfl (fun hl he=>?_)
 simp -implicitDefEqProofs only[go_sem,Z3,Z4] at hl⊢
 repeat(with_reducible apply ar;case left=>omega)
 refine bQ [] (wT ls) ?_ ?_<;>simp -implicitDefEqProofs only[go_sem]
 cases g1:fG ls
 ·simp -implicitDefEqProofs only[go_sem]
  refine an ?_
  simp -implicitDefEqProofs only[go_sem]
  all_goals(simp[jE,g1];done)
 ·rcases aa (ts.length=ls.length) with g2|g2
  ·have e:jE ls ts=o4 ls ts ⟨[0,0,0,0],0,false⟩:=by simp[jE,g1,g2]
   have k2:=eq_true g2
   simp -implicitDefEqProofs only[go_sem,k2]
   refine dm hm (fun(i:Nat) (out:ib)=> i≤ls.length∧jE ls ts=o4 (ls.drop i) (ts.drop i) out) (fun(i:Nat) (out:ib)=> ⟨dB 45 .any [(0,lv (db ls)),(1,lv (bG ts)),(4,.ptr 0 0),(6,.ptr 1 0),(7,iv i)],[some (.box (cF (eF mC))),some (.box (cF (eF out)))]⟩) (fun(i:Nat) (out:ib)=> ls.length-i) (0) (⟨[0,0,0,0],0,false⟩) ?_ (aw [some 0,some 2] ?_ ?_ rfl rfl) ?_
   rotate_left
   ·simp -implicitDefEqProofs only[go_sem]
   ·simp -implicitDefEqProofs only[go_sem]
    all_goals(simp[bG,List.replicate])
   rotate_left
   ·simp[e]
   ·rintro i out ⟨hi,hg⟩
    rcases aa (i<ls.length) with h1|h1
    ·have h2:i<ts.length:=by omega
     rw[Gd h1 h2] at hg
     simp -implicitDefEqProofs only[go_sem,h1,h2]
     refine bQ [] (HK out 1 ls[i] ts[i]) ?_ ?_<;>simp -implicitDefEqProofs only[go_sem]
     with_reducible refine aY (by kernel_rfl) ?_
     cases h3:(dL out 1 ls[i] ts[i]).2
     ·rw[h3] at hg
      simp only[Bool.false_eq_true,if_false] at hg
      simp -implicitDefEqProofs only[go_sem]
      refine an ?_
      simp -implicitDefEqProofs only[go_sem]
      all_goals(simp[hg];done)
     ·rw[h3] at hg
      simp only[if_true] at hg
      simp -implicitDefEqProofs only[go_sem]
      repeat(with_reducible apply ar;case left=>omega)
      refine⟨i+1,(dL out 1 ls[i] ts[i]).1,?_,sL,aw [some 0,some 1] ?_ ?_ rfl rfl⟩
      rotate_left
      ·simp -implicitDefEqProofs only[go_sem]
      ·simp -implicitDefEqProofs only[go_sem]
      exact⟨by omega,hg⟩
    ·rw[al (by omega),al (by omega),o4] at hg
     simp -implicitDefEqProofs only[go_sem,h1]
     refine an ?_
     simp -implicitDefEqProofs only[go_sem]
     all_goals(simp[hg];done)
  ·simp -implicitDefEqProofs only[go_sem,g2]
   refine an ?_
   simp -implicitDefEqProofs only[go_sem]
   all_goals(simp[jE,g1,g2];done)
theorem Lg(ls:List ib)(ts:List Int):C E.P 137 [lv (db ls),lv (bG ts)] [] (bM (bv (qU ls ts)) []):=by
 have cI:=jQ
 refine lJ (nt:=18) (rs:=[.tmp 4]) hm Tryz.func137 rfl rfl rfl rfl rfl (fun hl he=>?_)
 simp -implicitDefEqProofs only[go_sem] at hl⊢
 refine bQ [] (H0 ls ts) ?_ ?_<;>simp -implicitDefEqProofs only[go_sem]
 cases h:(jE ls ts).2
 ·simp -implicitDefEqProofs only[go_sem]
  refine an ?_
  simp -implicitDefEqProofs only[go_sem]
  all_goals(simp[qU,h];done)
 ·simp -implicitDefEqProofs only[go_sem]
  refine bQ [] (yn (jE ls ts).1) ?_ ?_<;>simp -implicitDefEqProofs only[go_sem]
  refine an ?_
  simp -implicitDefEqProofs only[go_sem]
  all_goals(simp[qU,h];done)
end Go.Proofs.YtabembjmeobhoaaGreat
