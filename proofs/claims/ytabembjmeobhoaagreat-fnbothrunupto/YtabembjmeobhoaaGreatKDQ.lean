/-
  The reference: the walks of constraints and their certificates. A step towards the exact laws.
-/
import Derived.Test.YtabembjmeobhoaaGreatKDI
set_option linter.unusedVariables false
set_option linter.unusedSimpArgs false
open And renaming intro→au
open Bool renaming true_and→aB,false_and→aK
open Classical renaming em→aa
open List renaming drop_eq_getElem_cons→ae,drop_of_length_le→ai,getElem_mem→ak,take_of_length_le→ao,all_cons→b9,all_nil→dM
namespace Go.Proofs.YtabembjmeobhoaaGreat
open Go.Eng Go.Mod
open Int renaming reduceEq→Z1,reduceLT→Z2,reduceLE→Z3,reduceToNat→Z4
set_option maxRecDepth 100000
set_option maxHeartbeats 800000
theorem xE(n:Int):C E.P 246 [iv n] [] (bz (bv (np n)) []):=by
 have cq:=jT
 refine lQ (nt:=9) (rs:=[.tmp 2]) hm Tryz.func246 rfl rfl rfl rfl rfl (fun hl he=>?_)
 simp -implicitDefEqProofs only[go_sem] at hl⊢
 rcases aa (-1000000≤n) with h|h
 ·refine uF ?_
  refine an ?_
  simp -implicitDefEqProofs only[go_sem]
  all_goals(simp[np,within,h];done)
 ·refine uF ?_
  refine an ?_
  simp -implicitDefEqProofs only[go_sem]
  all_goals(simp[np,within,h];done)
theorem gM(l:iV):C E.P 203 [av (eL l)] [] (bz (bv (eu l)) []):=by
 have cq:=jT
 refine lQ (nt:=27) (rs:=[.tmp 2]) hm Tryz.func203 rfl rfl rfl rfl rfl (fun hl he=>?_)
 simp -implicitDefEqProofs only[go_sem] at hl⊢
 refine aL hm (fun(i:Nat)=> i≤l.aF.length∧l.aF.all np=(l.aF.drop i).all np) (fun(i:Nat)=> ⟨dx 27 .any [(1,.ptr 0 0),(3,iv i)],[some (.box (cE (eL l)))]⟩) (fun(i:Nat)=> l.aF.length-i) (0) ?_ (ar [some 0] ?_ ?_ rfl rfl) ?_
 rotate_left
 ·simp -implicitDefEqProofs only[go_sem]
 ·simp -implicitDefEqProofs only[go_sem]
 rotate_left
 ·simp
 ·rintro i ⟨hi,hg⟩
  rcases aa (i<l.aF.length) with h1|h1
  ·rw[ae h1,b9] at hg
   refine uA ?_
   refine bw [] (xE l.aF[i]) ?_ ?_<;>simp -implicitDefEqProofs only[go_sem]
   cases h2:np l.aF[i]
   ·rw[h2,aK] at hg
    have e:eu l=false:=by simp[eu,hg]
    simp -implicitDefEqProofs only[go_sem]
    refine an ?_
    simp -implicitDefEqProofs only[go_sem]
    all_goals(simp[e];done)
   ·rw[h2,aB] at hg
    simp -implicitDefEqProofs only[go_sem]
    repeat(with_reducible apply au;case left=>omega)
    refine⟨i+1,?_,sL,ar [some 0] ?_ ?_ rfl rfl⟩
    rotate_left
    ·simp -implicitDefEqProofs only[go_sem]
    ·simp -implicitDefEqProofs only[go_sem]
    exact⟨by omega,hg⟩
  ·rw[ai (by omega),dM] at hg
   rcases aa ((l.aF.length:Int)=4) with h3|h3
   ·have h3':l.aF.length=4:=by omega
    have k3:=eq_true h3
    simp -implicitDefEqProofs only[go_sem,h1,k3]
    refine bw [] (xE l.bound) ?_ ?_<;>simp -implicitDefEqProofs only[go_sem]
    refine an ?_
    simp -implicitDefEqProofs only[go_sem]
    all_goals(simp[eu,hg,h3'];done)
   ·have h3':¬l.aF.length=4:=by omega
    simp -implicitDefEqProofs only[go_sem,h1,h3]
    refine an ?_
    simp -implicitDefEqProofs only[go_sem]
    all_goals(simp[eu,hg,h3'];done)
theorem H3(l:iV):C E.P 202 [av (eL l)] [] (bz (av (eL (rO l))) []):=by
 have cq:=jT
 refine lQ (nt:=35) (rs:=[.cell 2 162]) hm Tryz.func202 rfl rfl rfl rfl rfl (fun hl he=>?_)
 simp -implicitDefEqProofs only[go_sem] at hl⊢
 refine bw [] (gM l) ?_ ?_<;>simp -implicitDefEqProofs only[go_sem]
 cases h:eu l
 ·simp -implicitDefEqProofs only[go_sem]
  refine an ?_
  simp -implicitDefEqProofs only[go_sem]
  all_goals(simp[rO,h];done)
 ·obtain⟨h4,hc,hb⟩:=gv.1 h
  have e:rO l=⟨l.aF.map fun c=>-c,-l.bound,!l.strict⟩:=by simp[rO,h]
  simp -implicitDefEqProofs only[go_sem]
  repeat(with_reducible apply au;case left=>omega)
  refine aL hm (fun(i:Nat)=> i≤l.aF.length) (fun(i:Nat)=> ⟨dx 35 .any [(1,.ptr 0 0),(2,.ptr 1 0),(3,.ptr 2 0),(4,iv i)],[some (.box (cE (eL l))),some (.box (cE (eL m8))),some (.box [.acc 3,.d (.val (.int .i64 (-l.bound))),.d (.val (.bool (!l.strict)))]),some (.acc 3 (bF ((l.aF.take i).map fun c=>-c)))]⟩) (fun(i:Nat)=> l.aF.length-i) (0) ?_ (ar [some 0,some 1,some 2,none] ?_ ?_ rfl rfl) ?_
  rotate_left
  ·simp -implicitDefEqProofs only[go_sem]
  ·simp -implicitDefEqProofs only[go_sem]
  rotate_left
  ·omega
  ·rintro i hi
   rcases aa (i<l.aF.length) with h1|h1
   ·have hn:=hc l.aF[i] (ak h1)
    refine uA ?_
    refine sK ?_
    refine⟨i+1,?_,sL,ar [some 0,some 1,some 2,some 4] ?_ ?_ rfl rfl⟩
    rotate_left
    ·simp -implicitDefEqProofs only[go_sem]
    ·simp -implicitDefEqProofs only[go_sem]
     all_goals((rw[List.take_add_one,List.getElem?_eq_getElem h1,List.map_append,←eK];rfl))
    exact h1
   ·refine uA ?_
    refine an ?_
    simp -implicitDefEqProofs only[go_sem]
    rw[ao (by omega),e]
    simp[]
theorem GB(l:iV):C E.P 249 [av (eL l)] [] (bz (bv (flat l)) []):=by
 have cq:=jT
 refine lQ (nt:=17) (rs:=[.tmp 2]) hm Tryz.func249 rfl rfl rfl rfl rfl (fun hl he=>?_)
 simp -implicitDefEqProofs only[go_sem] at hl⊢
 refine aL hm (fun(i:Nat)=> i≤l.aF.length∧flat l=(l.aF.drop i).all (fun c=>decide (c=0))) (fun(i:Nat)=> ⟨dx 17 .any [(1,.ptr 0 0),(3,iv i)],[some (.box (cE (eL l)))]⟩) (fun(i:Nat)=> l.aF.length-i) (0) ?_ (ar [some 0] ?_ ?_ rfl rfl) ?_
 rotate_left
 ·simp -implicitDefEqProofs only[go_sem]
 ·simp -implicitDefEqProofs only[go_sem]
 rotate_left
 ·simp[flat]
 ·rintro i ⟨hi,hg⟩
  rcases aa (i<l.aF.length) with h1|h1
  ·rw[ae h1,b9] at hg
   refine uA ?_
   rcases aa (l.aF[i]=0) with h2|h2
   ·have k:=eq_true h2
    simp only[k,decide_true,aB] at hg
    refine uG ?_
    repeat(with_reducible apply au;case left=>omega)
    refine⟨i+1,?_,sL,ar [some 0] ?_ ?_ rfl rfl⟩
    rotate_left
    ·simp -implicitDefEqProofs only[go_sem]
    ·simp -implicitDefEqProofs only[go_sem]
    exact⟨by omega,hg⟩
   ·have k:=eq_false h2
    simp only[k,decide_false,aK] at hg
    refine uG ?_
    refine an ?_
    simp -implicitDefEqProofs only[go_sem]
    all_goals(simp[hg];done)
  ·rw[ai (by omega),dM] at hg
   refine uA ?_
   refine an ?_
   simp -implicitDefEqProofs only[go_sem]
   all_goals(simp[hg];done)
theorem zn(l:iV):C E.P 205 [av (eL l)] [] (bz (bv (kv l)) []):=by
 have cq:=jT
 refine lQ (nt:=23) (rs:=[.tmp 2]) hm Tryz.func205 rfl rfl rfl rfl rfl (fun hl he=>?_)
 simp -implicitDefEqProofs only[go_sem] at hl⊢
 refine bw [] (gM l) ?_ ?_<;>simp -implicitDefEqProofs only[go_sem]
 cases h:eu l
 ·simp -implicitDefEqProofs only[go_sem]
  refine an ?_
  simp -implicitDefEqProofs only[go_sem]
  all_goals(simp[kv,h];done)
 ·simp -implicitDefEqProofs only[go_sem]
  refine bw [] (GB l) ?_ ?_<;>simp -implicitDefEqProofs only[go_sem]
  cases h0:flat l
  ·simp -implicitDefEqProofs only[go_sem]
   refine an ?_
   simp -implicitDefEqProofs only[go_sem]
   all_goals(simp[kv,h,h0];done)
  ·simp -implicitDefEqProofs only[go_sem]
   rcases aa (l.bound<0) with h1|h1
   ·refine uA ?_
    refine an ?_
    simp -implicitDefEqProofs only[go_sem]
    all_goals(simp[kv,h,h0,h1];done)
   ·rcases aa (l.bound=0) with h2|h2
    ·have k:=eq_true h2
     simp -implicitDefEqProofs only[go_sem,h1,k]
     refine an ?_
     simp -implicitDefEqProofs only[go_sem]
     all_goals(simp[kv,h,h0,h2];done)
    ·refine uJ ?_
     refine an ?_
     simp -implicitDefEqProofs only[go_sem]
     all_goals(simp[kv,h,h0,h1,h2];done)
theorem BE(a:iV)(m:Int)(b:iV)(n:Int)(g1:eu a=true)(g2:eu b=true)(h5:0≤m∧m≤1000000)(h6:0≤n∧n≤1000000):C E.P 248 [av (eL a),iv m,av (eL b),iv n] [] (bz (.gV [av (eL (jO a m b n).1),bv (jO a m b n).2]) []):=by
 obtain⟨hn1,hc1,hb1⟩:=gv.1 g1
 obtain⟨hn2,hc2,hb2⟩:=gv.1 g2
 have p1:=dq h5.1 h5.2 hb1
 have p2:=dq h6.1 h6.2 hb2
 have cq:=jT
 refine lQ (nt:=65) (rs:=[.cell 8 162,.tmp 9]) hm Tryz.func248 rfl rfl rfl rfl rfl (fun hl he=>?_)
 simp -implicitDefEqProofs only[go_sem] at hl⊢
 rcases aa (0<m) with t1|t1
 ·cases t2:a.strict
  ·rcases aa (0<n) with t3|t3
   ·simp -implicitDefEqProofs only[go_sem,t1,t3]
    repeat(with_reducible apply au;case left=>omega)
    refine aL hm (fun(i:Nat)=> i≤a.aF.length) (fun(i:Nat)=> ⟨dx 65 .any [(1,iv m),(3,iv n),(4,.ptr 0 0),(6,.ptr 1 0),(8,.ptr 2 0),(10,.ptr 3 0),(11,iv i)],[some (.box (cE (eL a))),some (.box (cE (eL b))),some (.box (cE (eL m8))),some (.box [.acc 4,.d (.val (.int .i64 (m*a.bound+n*b.bound))),.d (.val (.bool b.strict))]),some (.acc 3 (bF (comb m n (a.aF.take i) (b.aF.take i))))]⟩) (fun(i:Nat)=> a.aF.length-i) (0) ?_ (ar [some 0,some 1,some 2,some 3,none] ?_ ?_ rfl rfl) ?_
    rotate_left
    ·simp -implicitDefEqProofs only[go_sem]
    ·simp -implicitDefEqProofs only[go_sem]
     all_goals(simp[comb, *])
    rotate_left
    ·omega
    ·rintro i hi
     rcases aa (i<a.aF.length) with h1|h1
     ·have h2:i<b.aF.length:=by omega
      have h3:(i:Int)<4:=by omega
      have q1:=dq h5.1 h5.2 (hc1 a.aF[i] (ak h1))
      have q2:=dq h6.1 h6.2 (hc2 b.aF[i] (ak h2))
      have dy:(comb m n (a.aF.take i) (b.aF.take i)).length≤4:=by rw[kf (by simp;omega)];simp;omega
      simp -implicitDefEqProofs only[go_sem,h3,h1,h2]
      refine sK ?_
      refine⟨i+1,?_,sL,ar [some 0,some 1,some 2,some 3,some 5] ?_ ?_ rfl rfl⟩
      rotate_left
      ·simp -implicitDefEqProofs only[go_sem]
      ·simp -implicitDefEqProofs only[go_sem]
       all_goals((rw[e6 h1 h2,←eK];rfl))
      exact h1
     ·have h3:¬ (i:Int)<4:=by omega
      rw[ao (by omega),ao (by omega)]
      have e2:jW a m b n=⟨comb m n a.aF b.aF,m*a.bound+n*b.bound,b.strict⟩:=by simp[jW, *]
      refine uC ?_
      refine dH [] [4] (gM ⟨comb m n a.aF b.aF,m*a.bound+n*b.bound,b.strict⟩) rfl ?_ ?_ ?_
      ·(simp -implicitDefEqProofs only[go_sem];repeat'(first|exact iH.nil|apply iH.cons|exact Vw.same (by first|rfl|simp -implicitDefEqProofs only[go_sem,Z1,Z2,Z3,Z4])|exact Vw.acc rfl rfl|exact Vw.fk rfl rfl (by simp -implicitDefEqProofs only[go_sem,Z1,Z2,Z3,Z4])|exact Vw.nil|apply Vw.agg|apply Vw.fn|refine Vw.box rfl rfl ?_))
      all_goals simp -implicitDefEqProofs only[go_sem]
      rw[jO,e2]
      cases h7:eu ⟨comb m n a.aF b.aF,m*a.bound+n*b.bound,b.strict⟩
      ·simp -implicitDefEqProofs only[go_sem]
       refine an ?_
       simp -implicitDefEqProofs only[go_sem]
       all_goals(simp;done)
      ·simp -implicitDefEqProofs only[go_sem]
       refine an ?_
       simp -implicitDefEqProofs only[go_sem]
   ·simp -implicitDefEqProofs only[go_sem,t1,t3]
    repeat(with_reducible apply au;case left=>omega)
    refine aL hm (fun(i:Nat)=> i≤a.aF.length) (fun(i:Nat)=> ⟨dx 65 .any [(1,iv m),(3,iv n),(4,.ptr 0 0),(6,.ptr 1 0),(8,.ptr 2 0),(10,.ptr 3 0),(11,iv i)],[some (.box (cE (eL a))),some (.box (cE (eL b))),some (.box (cE (eL m8))),some (.box [.acc 4,.d (.val (.int .i64 (m*a.bound+n*b.bound))),.d (.val (.bool false))]),some (.acc 3 (bF (comb m n (a.aF.take i) (b.aF.take i))))]⟩) (fun(i:Nat)=> a.aF.length-i) (0) ?_ (ar [some 0,some 1,some 2,some 3,none] ?_ ?_ rfl rfl) ?_
    rotate_left
    ·simp -implicitDefEqProofs only[go_sem]
    ·simp -implicitDefEqProofs only[go_sem]
     all_goals(simp[comb, *])
    rotate_left
    ·omega
    ·rintro i hi
     rcases aa (i<a.aF.length) with h1|h1
     ·have h2:i<b.aF.length:=by omega
      have h3:(i:Int)<4:=by omega
      have q1:=dq h5.1 h5.2 (hc1 a.aF[i] (ak h1))
      have q2:=dq h6.1 h6.2 (hc2 b.aF[i] (ak h2))
      have dy:(comb m n (a.aF.take i) (b.aF.take i)).length≤4:=by rw[kf (by simp;omega)];simp;omega
      simp -implicitDefEqProofs only[go_sem,h3,h1,h2]
      refine sK ?_
      refine⟨i+1,?_,sL,ar [some 0,some 1,some 2,some 3,some 5] ?_ ?_ rfl rfl⟩
      rotate_left
      ·simp -implicitDefEqProofs only[go_sem]
      ·simp -implicitDefEqProofs only[go_sem]
       all_goals((rw[e6 h1 h2,←eK];rfl))
      exact h1
     ·have h3:¬ (i:Int)<4:=by omega
      rw[ao (by omega),ao (by omega)]
      have e2:jW a m b n=⟨comb m n a.aF b.aF,m*a.bound+n*b.bound,false⟩:=by simp[jW, *]
      refine uC ?_
      refine dH [] [4] (gM ⟨comb m n a.aF b.aF,m*a.bound+n*b.bound,false⟩) rfl ?_ ?_ ?_
      ·(simp -implicitDefEqProofs only[go_sem];repeat'(first|exact iH.nil|apply iH.cons|exact Vw.same (by first|rfl|simp -implicitDefEqProofs only[go_sem,Z1,Z2,Z3,Z4])|exact Vw.acc rfl rfl|exact Vw.fk rfl rfl (by simp -implicitDefEqProofs only[go_sem,Z1,Z2,Z3,Z4])|exact Vw.nil|apply Vw.agg|apply Vw.fn|refine Vw.box rfl rfl ?_))
      all_goals simp -implicitDefEqProofs only[go_sem]
      rw[jO,e2]
      cases h7:eu ⟨comb m n a.aF b.aF,m*a.bound+n*b.bound,false⟩
      ·simp -implicitDefEqProofs only[go_sem]
       refine an ?_
       simp -implicitDefEqProofs only[go_sem]
       all_goals(simp;done)
      ·simp -implicitDefEqProofs only[go_sem]
       refine an ?_
       simp -implicitDefEqProofs only[go_sem]
  ·simp -implicitDefEqProofs only[go_sem,t1]
   repeat(with_reducible apply au;case left=>omega)
   refine aL hm (fun(i:Nat)=> i≤a.aF.length) (fun(i:Nat)=> ⟨dx 65 .any [(1,iv m),(3,iv n),(4,.ptr 0 0),(6,.ptr 1 0),(8,.ptr 2 0),(10,.ptr 3 0),(11,iv i)],[some (.box (cE (eL a))),some (.box (cE (eL b))),some (.box (cE (eL m8))),some (.box [.acc 4,.d (.val (.int .i64 (m*a.bound+n*b.bound))),.d (.val (.bool true))]),some (.acc 3 (bF (comb m n (a.aF.take i) (b.aF.take i))))]⟩) (fun(i:Nat)=> a.aF.length-i) (0) ?_ (ar [some 0,some 1,some 2,some 3,none] ?_ ?_ rfl rfl) ?_
   rotate_left
   ·simp -implicitDefEqProofs only[go_sem]
   ·simp -implicitDefEqProofs only[go_sem]
    all_goals(simp[comb, *])
   rotate_left
   ·omega
   ·rintro i hi
    rcases aa (i<a.aF.length) with h1|h1
    ·have h2:i<b.aF.length:=by omega
     have h3:(i:Int)<4:=by omega
     have q1:=dq h5.1 h5.2 (hc1 a.aF[i] (ak h1))
     have q2:=dq h6.1 h6.2 (hc2 b.aF[i] (ak h2))
     have dy:(comb m n (a.aF.take i) (b.aF.take i)).length≤4:=by rw[kf (by simp;omega)];simp;omega
     simp -implicitDefEqProofs only[go_sem,h3,h1,h2]
     refine sK ?_
     refine⟨i+1,?_,sL,ar [some 0,some 1,some 2,some 3,some 5] ?_ ?_ rfl rfl⟩
     rotate_left
     ·simp -implicitDefEqProofs only[go_sem]
     ·simp -implicitDefEqProofs only[go_sem]
      all_goals((rw[e6 h1 h2,←eK];rfl))
     exact h1
    ·have h3:¬ (i:Int)<4:=by omega
     rw[ao (by omega),ao (by omega)]
     have e2:jW a m b n=⟨comb m n a.aF b.aF,m*a.bound+n*b.bound,true⟩:=by simp[jW, *]
     refine uC ?_
     refine dH [] [4] (gM ⟨comb m n a.aF b.aF,m*a.bound+n*b.bound,true⟩) rfl ?_ ?_ ?_
     ·(simp -implicitDefEqProofs only[go_sem];repeat'(first|exact iH.nil|apply iH.cons|exact Vw.same (by first|rfl|simp -implicitDefEqProofs only[go_sem,Z1,Z2,Z3,Z4])|exact Vw.acc rfl rfl|exact Vw.fk rfl rfl (by simp -implicitDefEqProofs only[go_sem,Z1,Z2,Z3,Z4])|exact Vw.nil|apply Vw.agg|apply Vw.fn|refine Vw.box rfl rfl ?_))
     all_goals simp -implicitDefEqProofs only[go_sem]
     rw[jO,e2]
     cases h7:eu ⟨comb m n a.aF b.aF,m*a.bound+n*b.bound,true⟩
     ·simp -implicitDefEqProofs only[go_sem]
      refine an ?_
      simp -implicitDefEqProofs only[go_sem]
      all_goals(simp;done)
     ·simp -implicitDefEqProofs only[go_sem]
      refine an ?_
      simp -implicitDefEqProofs only[go_sem]
 ·rcases aa (0<n) with t3|t3
  ·simp -implicitDefEqProofs only[go_sem,t1,t3]
   repeat(with_reducible apply au;case left=>omega)
   refine aL hm (fun(i:Nat)=> i≤a.aF.length) (fun(i:Nat)=> ⟨dx 65 .any [(1,iv m),(3,iv n),(4,.ptr 0 0),(6,.ptr 1 0),(8,.ptr 2 0),(10,.ptr 3 0),(11,iv i)],[some (.box (cE (eL a))),some (.box (cE (eL b))),some (.box (cE (eL m8))),some (.box [.acc 4,.d (.val (.int .i64 (m*a.bound+n*b.bound))),.d (.val (.bool b.strict))]),some (.acc 3 (bF (comb m n (a.aF.take i) (b.aF.take i))))]⟩) (fun(i:Nat)=> a.aF.length-i) (0) ?_ (ar [some 0,some 1,some 2,some 3,none] ?_ ?_ rfl rfl) ?_
   rotate_left
   ·simp -implicitDefEqProofs only[go_sem]
   ·simp -implicitDefEqProofs only[go_sem]
    all_goals(simp[comb, *])
   rotate_left
   ·omega
   ·rintro i hi
    rcases aa (i<a.aF.length) with h1|h1
    ·have h2:i<b.aF.length:=by omega
     have h3:(i:Int)<4:=by omega
     have q1:=dq h5.1 h5.2 (hc1 a.aF[i] (ak h1))
     have q2:=dq h6.1 h6.2 (hc2 b.aF[i] (ak h2))
     have dy:(comb m n (a.aF.take i) (b.aF.take i)).length≤4:=by rw[kf (by simp;omega)];simp;omega
     simp -implicitDefEqProofs only[go_sem,h3,h1,h2]
     refine sK ?_
     refine⟨i+1,?_,sL,ar [some 0,some 1,some 2,some 3,some 5] ?_ ?_ rfl rfl⟩
     rotate_left
     ·simp -implicitDefEqProofs only[go_sem]
     ·simp -implicitDefEqProofs only[go_sem]
      all_goals((rw[e6 h1 h2,←eK];rfl))
     exact h1
    ·have h3:¬ (i:Int)<4:=by omega
     rw[ao (by omega),ao (by omega)]
     have e2:jW a m b n=⟨comb m n a.aF b.aF,m*a.bound+n*b.bound,b.strict⟩:=by simp[jW, *]
     refine uC ?_
     refine dH [] [4] (gM ⟨comb m n a.aF b.aF,m*a.bound+n*b.bound,b.strict⟩) rfl ?_ ?_ ?_
     ·(simp -implicitDefEqProofs only[go_sem];repeat'(first|exact iH.nil|apply iH.cons|exact Vw.same (by first|rfl|simp -implicitDefEqProofs only[go_sem,Z1,Z2,Z3,Z4])|exact Vw.acc rfl rfl|exact Vw.fk rfl rfl (by simp -implicitDefEqProofs only[go_sem,Z1,Z2,Z3,Z4])|exact Vw.nil|apply Vw.agg|apply Vw.fn|refine Vw.box rfl rfl ?_))
     all_goals simp -implicitDefEqProofs only[go_sem]
     rw[jO,e2]
     cases h7:eu ⟨comb m n a.aF b.aF,m*a.bound+n*b.bound,b.strict⟩
     ·simp -implicitDefEqProofs only[go_sem]
      refine an ?_
      simp -implicitDefEqProofs only[go_sem]
      all_goals(simp;done)
     ·simp -implicitDefEqProofs only[go_sem]
      refine an ?_
      simp -implicitDefEqProofs only[go_sem]
  ·simp -implicitDefEqProofs only[go_sem,t1,t3]
   repeat(with_reducible apply au;case left=>omega)
   refine aL hm (fun(i:Nat)=> i≤a.aF.length) (fun(i:Nat)=> ⟨dx 65 .any [(1,iv m),(3,iv n),(4,.ptr 0 0),(6,.ptr 1 0),(8,.ptr 2 0),(10,.ptr 3 0),(11,iv i)],[some (.box (cE (eL a))),some (.box (cE (eL b))),some (.box (cE (eL m8))),some (.box [.acc 4,.d (.val (.int .i64 (m*a.bound+n*b.bound))),.d (.val (.bool false))]),some (.acc 3 (bF (comb m n (a.aF.take i) (b.aF.take i))))]⟩) (fun(i:Nat)=> a.aF.length-i) (0) ?_ (ar [some 0,some 1,some 2,some 3,none] ?_ ?_ rfl rfl) ?_
   rotate_left
   ·simp -implicitDefEqProofs only[go_sem]
   ·simp -implicitDefEqProofs only[go_sem]
    all_goals(simp[comb, *])
   rotate_left
   ·omega
   ·rintro i hi
    rcases aa (i<a.aF.length) with h1|h1
    ·have h2:i<b.aF.length:=by omega
     have h3:(i:Int)<4:=by omega
     have q1:=dq h5.1 h5.2 (hc1 a.aF[i] (ak h1))
     have q2:=dq h6.1 h6.2 (hc2 b.aF[i] (ak h2))
     have dy:(comb m n (a.aF.take i) (b.aF.take i)).length≤4:=by rw[kf (by simp;omega)];simp;omega
     simp -implicitDefEqProofs only[go_sem,h3,h1,h2]
     refine sK ?_
     refine⟨i+1,?_,sL,ar [some 0,some 1,some 2,some 3,some 5] ?_ ?_ rfl rfl⟩
     rotate_left
     ·simp -implicitDefEqProofs only[go_sem]
     ·simp -implicitDefEqProofs only[go_sem]
      all_goals((rw[e6 h1 h2,←eK];rfl))
     exact h1
    ·have h3:¬ (i:Int)<4:=by omega
     rw[ao (by omega),ao (by omega)]
     have e2:jW a m b n=⟨comb m n a.aF b.aF,m*a.bound+n*b.bound,false⟩:=by simp[jW, *]
     refine uC ?_
     refine dH [] [4] (gM ⟨comb m n a.aF b.aF,m*a.bound+n*b.bound,false⟩) rfl ?_ ?_ ?_
     ·(simp -implicitDefEqProofs only[go_sem];repeat'(first|exact iH.nil|apply iH.cons|exact Vw.same (by first|rfl|simp -implicitDefEqProofs only[go_sem,Z1,Z2,Z3,Z4])|exact Vw.acc rfl rfl|exact Vw.fk rfl rfl (by simp -implicitDefEqProofs only[go_sem,Z1,Z2,Z3,Z4])|exact Vw.nil|apply Vw.agg|apply Vw.fn|refine Vw.box rfl rfl ?_))
     all_goals simp -implicitDefEqProofs only[go_sem]
     rw[jO,e2]
     cases h7:eu ⟨comb m n a.aF b.aF,m*a.bound+n*b.bound,false⟩
     ·simp -implicitDefEqProofs only[go_sem]
      refine an ?_
      simp -implicitDefEqProofs only[go_sem]
      all_goals(simp;done)
     ·simp -implicitDefEqProofs only[go_sem]
      refine an ?_
      simp -implicitDefEqProofs only[go_sem]
theorem IX(a:iV)(m:Int)(b:iV)(n:Int):C E.P 250 [av (eL a),iv m,av (eL b),iv n] [] (bz (.gV [av (eL (eV a m b n).1),bv (eV a m b n).2]) []):=by
 have cq:=jT
 refine lQ (nt:=42) (rs:=[.cell 8 162,.tmp 9]) hm Tryz.func250 rfl rfl rfl rfl rfl (fun hl he=>?_)
 simp -implicitDefEqProofs only[go_sem] at hl⊢
 refine bw [] (gM a) ?_ ?_<;>simp -implicitDefEqProofs only[go_sem]
 cases g1:eu a
 ·simp -implicitDefEqProofs only[go_sem]
  refine an ?_
  simp -implicitDefEqProofs only[go_sem]
  all_goals(simp[eV,g1];done)
 ·simp -implicitDefEqProofs only[go_sem]
  refine bw [] (gM b) ?_ ?_<;>simp -implicitDefEqProofs only[go_sem]
  cases g2:eu b
  ·simp -implicitDefEqProofs only[go_sem]
   refine an ?_
   simp -implicitDefEqProofs only[go_sem]
   all_goals(simp[eV,g1,g2];done)
  ·simp -implicitDefEqProofs only[go_sem]
   rcases aa (m<0) with t1|t1
   ·have e:within m 0 1000000=false:=by simp[within];omega
    simp -implicitDefEqProofs only[go_sem,t1]
    refine an ?_
    simp -implicitDefEqProofs only[go_sem]
    all_goals(simp[eV,g1,g2,e];done)
   ·rcases aa (n<0) with t2|t2
    ·have e:within n 0 1000000=false:=by simp[within];omega
     simp -implicitDefEqProofs only[go_sem,t1,t2]
     refine an ?_
     simp -implicitDefEqProofs only[go_sem]
     all_goals(simp[eV,g1,g2,e];done)
    ·rcases aa (1000000<m) with t3|t3
     ·have e:within m 0 1000000=false:=by simp[within];omega
      simp -implicitDefEqProofs only[go_sem,t1,t2,t3]
      refine an ?_
      simp -implicitDefEqProofs only[go_sem]
      all_goals(simp[eV,g1,g2,e];done)
     ·rcases aa (1000000<n) with t4|t4
      ·have e:within n 0 1000000=false:=by simp[within];omega
       simp -implicitDefEqProofs only[go_sem,t1,t2,t3,t4]
       refine an ?_
       simp -implicitDefEqProofs only[go_sem]
       all_goals(simp[eV,g1,g2,e];done)
      ·have e1:within m 0 1000000=true:=by simp[within];omega
       have e2:within n 0 1000000=true:=by simp[within];omega
       have e:=pR g1 g2 e1 e2
       simp -implicitDefEqProofs only[go_sem,t1,t2,t3,t4]
       refine bw [] (BE a m b n g1 g2 (by omega) (by omega)) ?_ ?_<;>simp -implicitDefEqProofs only[go_sem]
       refine an ?_
       simp -implicitDefEqProofs only[go_sem]
       all_goals(simp[e];done)
theorem wR(ls:List iV):C E.P 133 [lv (di ls)] [] (bz (bv (fP ls)) []):=by
 have cq:=jT
 refine lQ (nt:=19) (rs:=[.tmp 2]) hm Tryz.func133 rfl rfl rfl rfl rfl (fun hl he=>?_)
 simp -implicitDefEqProofs only[go_sem] at hl⊢
 refine aL hm (fun(i:Nat)=> i≤ls.length∧ls.all eu=(ls.drop i).all eu) (fun(i:Nat)=> ⟨dx 19 .any [(0,lv (di ls)),(3,iv i)],[]⟩) (fun(i:Nat)=> ls.length-i) (0) ?_ (ar [] ?_ ?_ rfl rfl) ?_
 rotate_left
 ·simp -implicitDefEqProofs only[go_sem]
 ·simp -implicitDefEqProofs only[go_sem]
 rotate_left
 ·simp
 ·rintro i ⟨hi,hg⟩
  rcases aa (i<ls.length) with h1|h1
  ·rw[ae h1,b9] at hg
   refine uA ?_
   refine bw [] (gM ls[i]) ?_ ?_<;>simp -implicitDefEqProofs only[go_sem]
   cases h2:eu ls[i]
   ·rw[h2,aK] at hg
    simp -implicitDefEqProofs only[go_sem]
    refine an ?_
    simp -implicitDefEqProofs only[go_sem]
    all_goals(simp[fP,hg];done)
   ·rw[h2,aB] at hg
    simp -implicitDefEqProofs only[go_sem]
    repeat(with_reducible apply au;case left=>omega)
    refine⟨i+1,?_,sL,ar [] ?_ ?_ rfl rfl⟩
    rotate_left
    ·simp -implicitDefEqProofs only[go_sem]
    ·simp -implicitDefEqProofs only[go_sem]
    exact⟨by omega,hg⟩
  ·rw[ai (by omega),dM] at hg
   have e:fP ls=decide ((ls.length:Int)≤20):=by simp[fP,hg];omega
   refine uA ?_
   refine an ?_
   simp -implicitDefEqProofs only[go_sem]
   all_goals(simp[e];done)
theorem HW(ls:List iV)(ts:List Int):C E.P 206 [lv (di ls),lv (bF ts)] [] (bz (.gV [av (eL (jX ls ts).1),bv (jX ls ts).2]) []):=by
 have cq:=jT
 refine lQ (nt:=45) (rs:=[.cell 4 162,.tmp 5]) hm Tryz.func206 rfl rfl rfl rfl rfl (fun hl he=>?_)
 simp -implicitDefEqProofs only[go_sem,Z3,Z4] at hl⊢
 repeat(with_reducible apply au;case left=>omega)
 refine bw [] (wR ls) ?_ ?_<;>simp -implicitDefEqProofs only[go_sem]
 cases g1:fP ls
 ·simp -implicitDefEqProofs only[go_sem]
  refine an ?_
  simp -implicitDefEqProofs only[go_sem]
  all_goals(simp[jX,g1];done)
 ·rcases aa (ts.length=ls.length) with g2|g2
  ·have e:jX ls ts=wN ls ts ⟨[0,0,0,0],0,false⟩:=by simp[jX,g1,g2]
   have k2:=eq_true g2
   simp -implicitDefEqProofs only[go_sem,k2]
   refine cM hm (fun(i:Nat) (out:iV)=> i≤ls.length∧jX ls ts=wN (ls.drop i) (ts.drop i) out) (fun(i:Nat) (out:iV)=> ⟨dx 45 .any [(0,lv (di ls)),(1,lv (bF ts)),(4,.ptr 0 0),(6,.ptr 1 0),(7,iv i)],[some (.box (cE (eL m8))),some (.box (cE (eL out)))]⟩) (fun(i:Nat) (out:iV)=> ls.length-i) (0) (⟨[0,0,0,0],0,false⟩) ?_ (ar [some 0,some 2] ?_ ?_ rfl rfl) ?_
   rotate_left
   ·simp -implicitDefEqProofs only[go_sem]
   ·simp -implicitDefEqProofs only[go_sem]
    all_goals(simp[bF,List.replicate])
   rotate_left
   ·simp[e]
   ·rintro i out ⟨hi,hg⟩
    rcases aa (i<ls.length) with h1|h1
    ·have h2:i<ts.length:=by omega
     rw[F5 h1 h2] at hg
     refine uJ ?_
     refine bw [] (IX out 1 ls[i] ts[i]) ?_ ?_<;>simp -implicitDefEqProofs only[go_sem]
     with_reducible refine Gi (by kernel_rfl) ?_
     cases h3:(eV out 1 ls[i] ts[i]).2
     ·rw[h3] at hg
      simp only[Bool.false_eq_true,if_false] at hg
      simp -implicitDefEqProofs only[go_sem]
      refine an ?_
      simp -implicitDefEqProofs only[go_sem]
      all_goals(simp[hg];done)
     ·rw[h3] at hg
      simp only[if_true] at hg
      simp -implicitDefEqProofs only[go_sem]
      repeat(with_reducible apply au;case left=>omega)
      refine⟨i+1,(eV out 1 ls[i] ts[i]).1,?_,sL,ar [some 0,some 1] ?_ ?_ rfl rfl⟩
      rotate_left
      ·simp -implicitDefEqProofs only[go_sem]
      ·simp -implicitDefEqProofs only[go_sem]
      exact⟨by omega,hg⟩
    ·rw[ai (by omega),ai (by omega),wN] at hg
     refine uA ?_
     refine an ?_
     simp -implicitDefEqProofs only[go_sem]
     all_goals(simp[hg];done)
  ·simp -implicitDefEqProofs only[go_sem,g2]
   refine an ?_
   simp -implicitDefEqProofs only[go_sem]
   all_goals(simp[jX,g1,g2];done)
theorem KJ(ls:List iV)(ts:List Int):C E.P 137 [lv (di ls),lv (bF ts)] [] (bz (bv (sa ls ts)) []):=by
 have cq:=jT
 refine lQ (nt:=18) (rs:=[.tmp 4]) hm Tryz.func137 rfl rfl rfl rfl rfl (fun hl he=>?_)
 simp -implicitDefEqProofs only[go_sem] at hl⊢
 refine bw [] (HW ls ts) ?_ ?_<;>simp -implicitDefEqProofs only[go_sem]
 cases h:(jX ls ts).2
 ·simp -implicitDefEqProofs only[go_sem]
  refine an ?_
  simp -implicitDefEqProofs only[go_sem]
  all_goals(simp[sa,h];done)
 ·simp -implicitDefEqProofs only[go_sem]
  refine bw [] (zn (jX ls ts).1) ?_ ?_<;>simp -implicitDefEqProofs only[go_sem]
  refine an ?_
  simp -implicitDefEqProofs only[go_sem]
  all_goals(simp[sa,h];done)
end Go.Proofs.YtabembjmeobhoaaGreat
