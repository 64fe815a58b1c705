/-
  The program: the walks of elimination and of systems. A step towards the laws.
-/
import Derived.Test.YtpidddienjoleaaGreatKCc
import Derived.Test.YtpidddienjoleaaGreatKCd
import Derived.Test.YtpidddienjoleaaGreatKCN
import Derived.Test.YtpidddienjoleaaGreatKCq
import Derived.Test.YtpidddienjoleaaGreatKCEa
import Derived.Test.YtpidddienjoleaaGreatKCEk
import Derived.Test.YtpidddienjoleaaGreatKCDa
set_option linter.unusedVariables false
set_option linter.unusedSimpArgs false
namespace Go.Proofs.YtpidddienjoleaaGreat
open Go.Eng Go.Mod
open Int renaming reduceEq→Z1,reduceLT→Z2,reduceLE→Z3,reduceToNat→Z4
set_option maxRecDepth 100000
set_option maxHeartbeats 800000
theorem uq(n d:Int)(hn:-1000000000≤n∧n≤1000000000)(hd:-1000000000≤d∧d≤1000000000):C E.P 233 [iv n,iv d] [] (aM (.eL [av (dm (gq n d).1),bv (gq n d).2]) []):=by
 rcases Classical.em (d=0) with h0|h0
 ·have k0:=eq_true h0
  refine gS (nt:=32) (rs:=[.cell 4 57,.tmp 5]) hm Tryz.func233 fun hl he hLB=>?_
  simp -implicitDefEqProofs only[go_sem,k0]
  refine ab ?_
  refine sA ?_
  all_goals(simp[gq,h0];done)
 rcases Classical.em (d<0) with h1|h1
 ·have e:gq n d=if bl ⟨(-n).tdiv (Int.gcd (-n) (-d)),(-d).tdiv (Int.gcd (-n) (-d))⟩ then(⟨(-n).tdiv (Int.gcd (-n) (-d)),(-d).tdiv (Int.gcd (-n) (-d))⟩,true) else(ja,false):=by
   unfold gq
   rw[if_neg h0]
   simp only[if_pos h1]
  have hg:=HA (n:=-n) (d:=-d) (by omega)
  have b1:=m8 (n:=-n) (k:=1000000000) hg (by omega)
  have b2:=m8 (n:=-d) (k:=1000000000) hg (by omega)
  have hne:¬ (Int.gcd (-n) (-d):Int)=0:=by omega
  refine gS (nt:=32) (rs:=[.cell 4 57,.tmp 5]) hm Tryz.func233 fun hl he hLB=>?_
  simp -implicitDefEqProofs only[go_sem,h0,h1]
  repeat(with_reducible apply And.intro;exact sO)
  refine aC [] (m7 (-n) (-d) (by omega) (by omega)) ?_
  repeat(with_reducible apply And.intro;exact sO)
  refine aC [] (cC ⟨(-n).tdiv (Int.gcd (-n) (-d)),(-d).tdiv (Int.gcd (-n) (-d))⟩) ?_
  cases h2:bl ⟨(-n).tdiv (Int.gcd (-n) (-d)),(-d).tdiv (Int.gcd (-n) (-d))⟩
  ·refine sA ?_
   refine ab ?_
   refine sA ?_
   rw[e,if_neg (by rw[h2];simp)]
   exact⟨⟨rfl,rfl⟩,rfl⟩
  ·refine sA ?_
   refine ab ?_
   refine sA ?_
   rw[e,if_pos h2]
   exact⟨⟨rfl,rfl⟩,rfl⟩
 ·exact nf n d (by omega) (by omega)
theorem Bk(n d:Int):C E.P 252 [iv n,iv d] [] (aM (.eL [av (dm (oj n d).1),bv (oj n d).2]) []):=by
 refine gS (nt:=20) (rs:=[.cell 4 57,.tmp 5]) hm Tryz.func252 fun hl he hLB=>?_
 refine aC [] (b6 n (-1000000000) 1000000000) ?_
 cases g1:within n (-1000000000) 1000000000
 ·refine sA ?_
  refine ab ?_
  refine sA ?_
  all_goals(simp[oj,g1];done)
 ·refine sA ?_
  refine aC [] (b6 d (-1000000000) 1000000000) ?_
  cases g2:within d (-1000000000) 1000000000
  ·refine sA ?_
   refine ab ?_
   refine sA ?_
   all_goals(simp[oj,g1,g2];done)
  ·have h1:=br.1 g1
   have h2:=br.1 g2
   refine sA ?_
   refine aC [] (uq n d h1 h2) ?_
   refine ab ?_
   refine sA ?_
   all_goals(simp[oj,g1,g2];done)
theorem zi(a b:Mod.Rat):C E.P 219 [av (dm a),av (dm b)] [] (aM (.eL [av (dm (oM a b).1),bv (oM a b).2]) []):=by
 refine gS (nt:=22) (rs:=[.cell 4 57,.tmp 5]) hm Tryz.func219 fun hl he hLB=>?_
 refine aC [] (iV a b) ?_
 cases g1:(fu a b).2
 ·refine sA ?_
  refine ab ?_
  refine sA ?_
  all_goals(simp[oM,g1];done)
 ·refine sA ?_
  refine aC [] (lF (fu a b).1 ⟨1,2⟩) ?_
  refine ab ?_
  refine sA ?_
  all_goals(simp[oM,g1];done)
theorem nR(n:Mod.Rat):C E.P 132 [av (dm n)] [] (aM (bv (!bl n)) []):=by
 refine gS (nt:=6) (rs:=[.tmp 2]) hm Tryz.func132 fun hl he hLB=>?_
 refine aC [] (cC n) ?_
 refine ab ?_
 exact sC
theorem jE(ay:List Mod.Rat):C E.P 58 [lv (aP ay)] [] (aM (bv (qc ay)) []):=by
 refine gS (nt:=11) (rs:=[.tmp 2]) hm Tryz.func58 fun hl he hLB=>?_
 rcases Classical.em ((ay.length:Int)=4) with h|h
 ·have h':ay.length=4:=by omega
  have k:=eq_true h
  simp -implicitDefEqProofs only[go_sem,k]
  refine aC [] (kg 132 [] rfl (fun n=>!bl n) ay (fun n _=>nR n)) ?_
  refine ab ?_
  refine sA ?_
  all_goals(simp[qc,h',List.all_eq_not_any_not];done)
 ·have h':¬ay.length=4:=by omega
  simp -implicitDefEqProofs only[go_sem,h]
  refine ab ?_
  refine sA ?_
  all_goals(simp[qc,h'];done)
theorem Jb{ay:List Mod.Rat}(h:qc ay=true):ay.length=4:=by
 simp only[qc,Bool.and_eq_true,decide_eq_true_eq] at h
 exact h.1
theorem CO(l:fq)(ay:List Mod.Rat):C E.P 59 [av (dZ l),lv (aP ay)] [] (aM (.eL [bv ((qz l ay).getD false),bv (qz l ay).isSome]) []):=by
 refine gS (nt:=48) (rs:=[.tmp 4,.tmp 5]) hm Tryz.func59 fun hl he hLB=>?_
 refine aC [] (cz l) ?_
 cases g1:c5 l
 ·refine sA ?_
  refine ab ?_
  refine sA ?_
  all_goals(simp[qz,g1];done)
 ·refine sA ?_
  refine aC [] (jE ay) ?_
  cases g2:qc ay
  ·refine sA ?_
   refine ab ?_
   refine sA ?_
   all_goals(simp[qz,g1,g2];done)
  ·obtain⟨hn1,hc1,hb1⟩:=fN.1 g1
   have hv:=Jb g2
   have e:qz l ay=(mR l.aq ay (whole 0)).map fun x=>below x l.bound l.strict:=by simp[qz,g1,g2]
   refine sA ?_
   refine aC [] (bD 0) ?_
   refine bP hm (fun(i:Nat) (sum:Mod.Rat)=> i≤l.aq.length∧mR l.aq ay (whole 0)=mR (l.aq.drop i) (ay.drop i) sum) (fun(i:Nat) (sum:Mod.Rat)=> ⟨bW 48 .any [(1,lv (aP ay)),(2,.ptr 0 0),(6,.ptr 1 0),(21,lv (aO l.aq)),(22,iv l.aq.length),(23,iv i)],[some (.box (bn (dZ l))),some (.box (bn (dm sum)))]⟩) (fun(i:Nat) (sum:Mod.Rat)=> l.aq.length-i) (0) (whole 0) ?_ (ah [some 0,some 1] ?_ ?_ rfl rfl) ?_
   rotate_left
   ·exact sC
   ·exact sC
   rotate_left
   ·simp
   ·rintro i sum ⟨hi,hg⟩
    rcases Classical.em (i<l.aq.length) with h1|h1
    ·have h2:i<ay.length:=by omega
     rw[DK h1 h2] at hg
     simp -implicitDefEqProofs only[go_sem,h1,h2]
     refine aC [] (o5 sum l.aq[i] ay[i]) ?_
     refine iK ?_
     cases h3:(plus sum l.aq[i] ay[i]).2
     ·rw[h3] at hg
      simp only[Bool.false_eq_true,if_false] at hg
      rw[hg] at e
      refine sA ?_
      refine ab ?_
      refine sA ?_
      all_goals(simp[e];done)
     ·rw[h3] at hg
      simp only[if_true] at hg
      refine sA ?_
      repeat(with_reducible apply And.intro;exact sO)
      refine⟨i+1,(plus sum l.aq[i] ay[i]).1,?_,?_,ah [some 0,some 1] ?_ ?_ rfl rfl⟩
      rotate_left
      ·show _ < _
       omega
      ·exact sC
      ·exact sC
      exact⟨by omega,hg⟩
    ·rw[List.drop_of_length_le (by omega),Gd] at hg
     rw[hg] at e
     simp -implicitDefEqProofs only[go_sem,h1]
     refine aC [] (r9 sum l.bound l.strict) ?_
     refine ab ?_
     refine sA ?_
     all_goals(simp[e];done)
theorem zB(ls:List fq)(ay:List Mod.Rat):C E.P 24 [lv (bE ls),lv (aP ay)] [] (aM (bv (lE ls ay)) []):=by
 refine gS (nt:=36) (rs:=[.tmp 4]) hm Tryz.func24 fun hl he hLB=>?_
 refine aC [] (gk ls) ?_
 cases g1:dQ ls
 ·refine sA ?_
  refine ab ?_
  refine sA ?_
  all_goals(simp[lE,g1];done)
 ·refine sA ?_
  refine aC [] (jE ay) ?_
  cases g2:qc ay
  ·refine sA ?_
   refine ab ?_
   refine sA ?_
   all_goals(simp[lE,g1,g2];done)
  ·have e:lE ls ay=ls.all fun l=>decide (qz l ay=some true):=by simp[lE,g1,g2]
   refine sA ?_
   refine al hm (fun(i:Nat)=> i≤ls.length∧lE ls ay=(ls.drop i).all fun l=>decide (qz l ay=some true)) (fun(i:Nat)=> ⟨bW 36 .any [(1,lv (aP ay)),(17,lv (bE ls)),(18,iv ls.length),(19,iv i)],[]⟩) (fun(i:Nat)=> ls.length-i) (0) ?_ (ah [] ?_ ?_ rfl rfl) ?_
   rotate_left
   ·exact sC
   ·exact sC
   rotate_left
   ·simp[e]
   ·rintro i ⟨hi,hg⟩
    rcases Classical.em (i<ls.length) with h1|h1
    ·rw[List.drop_eq_getElem_cons h1,List.all_cons] at hg
     simp -implicitDefEqProofs only[go_sem,h1]
     refine aC [] (CO ls[i] ay) ?_
     cases h2:qz ls[i] ay with
     | none=>
       rw[h2] at hg
       simp -implicitDefEqProofs only[go_sem,Option.isSome_none,Option.getD_none]
       refine ab ?_
       refine sA ?_
       all_goals(simp[hg];done)
     | some b=>
       rw[h2] at hg
       cases b
       ·simp -implicitDefEqProofs only[go_sem,Option.isSome_some,Option.getD_some]
        refine ab ?_
        refine sA ?_
        all_goals(simp[hg];done)
       ·simp -implicitDefEqProofs only[go_sem,Option.isSome_some,Option.getD_some]
        repeat(with_reducible apply And.intro;exact sO)
        refine⟨i+1,?_,?_,ah [] ?_ ?_ rfl rfl⟩
        rotate_left
        ·show _ < _
         omega
        ·exact sC
        ·exact sC
        refine⟨by omega,?_⟩
        rw[hg];simp
    ·rw[List.drop_of_length_le (by omega),List.all_nil] at hg
     simp -implicitDefEqProofs only[go_sem,h1]
     refine ab ?_
     refine sA ?_
     all_goals(simp[hg];done)
def Ru(r:bB):List T:=[.leaf (.bu (aO r.kM.aq)),.leaf (.val (.int .i64 r.kM.bound)),.leaf (.val (.bool r.kM.strict)),.own 3 (pX r.fB)]
def uT(l:List bB):List (List T):=l.map Ru
theorem GQ:∀(l:List bB),aU (uT l)=some (cc l)
 | []=>rfl
 | s::l=>by
   have:=GQ l
   simp only[uT,List.map_cons] at this⊢
   simp[aU,bX,T.yF,Ru,xk,this,cc,cU]
theorem Kn(l:List bB):(uT l).length=l.length:=by simp[uT]
theorem Pd(l:List bB)(t:bB):uT l++[Ru t]=uT (l++[t]):=by simp[uT]
theorem Qm(l:List bB):(aU (uT l)).isSome=true:=by rw[GQ];rfl
attribute [go_sem] GQ Kn
theorem GX{n i:Nat}(h:i<n):(aO (List.replicate n 0)).set i [.val (.int .i64 1)]=aO (nK n i):=by
 rw[nK,←uv (by simpa using h)]
theorem GO{n i:Nat}(h:i<n):lift ((aO (List.replicate n 0)).set i (lS (row (aO (List.replicate n 0)) i) 0 [.val (.int .i64 1)]))=pX (nK n i):=by
 have e:lS (row (aO (List.replicate n 0)) i) 0 [.val (.int .i64 1)]=[D.val (.int .i64 1)]:=by
  rw[ui (by simpa using h)]
  simp[lS]
 rw[e,GX h,rn]
theorem Hr{ls:List fq}{i:Nat}(h:i<ls.length):uT ((List.range i).map fun i=>⟨ls.getD i kf,nK ls.length i⟩)++[[.leaf (.bu (aO ls[i].aq)),.leaf (.val (.int .i64 ls[i].bound)),.leaf (.val (.bool ls[i].strict)),.own 3 (pX (nK ls.length i))]]=uT ((List.range i++[i]).map fun i=>⟨ls.getD i kf,nK ls.length i⟩):=by
 rw[List.map_append,List.map_singleton,nv h,←Pd]
 rfl
theorem vP(ls:List fq)(hl:ls.length≤100):C E.P 159 [lv (bE ls)] [] (aM (lv (cc (aR ls))) []):=by
 refine gS (nt:=28) (rs:=[.tmp 2]) hm Tryz.func159 fun hl he hLB=>?_
 refine al hm (fun(i:Nat)=> i≤ls.length) (fun(i:Nat)=> ⟨bW 28 .any [(0,lv (bE ls)),(3,.acc 0),(7,lv (bE ls)),(8,iv ls.length),(9,iv i)],[some (.bM 225 (uT ((List.range i).map fun i=>⟨ls.getD i kf,nK ls.length i⟩)))]⟩) (fun(i:Nat)=> ls.length-i) (0) ?_ (ah [none] ?_ ?_ rfl rfl) ?_
 rotate_left
 ·exact sC
 ·refine sA ?_
  all_goals(rfl)
 rotate_left
 ·omega
 ·rintro i hi
  have hp:(uT ((List.range i).map fun i=>(⟨ls.getD i kf,nK ls.length i⟩:bB))).length=i:=by rw[Kn];simp
  rcases Classical.em (i<ls.length) with h1|h1
  ·have hz:List.replicate ls.length ([D.val (Value.int .i64 0)]:List D)=aO (List.replicate ls.length 0):=by simp[aO]
   simp -implicitDefEqProofs only[go_sem,h1]
   repeat(with_reducible apply And.intro;exact sO)
   simp -implicitDefEqProofs only[go_sem,hz]
   refine⟨i+1,?_,?_,xY 4 i _ rfl (by rw[List.length_append,hp];simp) (rI hp) ?_⟩
   rotate_left
   ·show _ < _
    omega
   ·refine sA ?_
    refine ah [some 4] ?_ ?_ rfl rfl
    ·exact sC
    ·refine sA ?_
     all_goals(rw[rO hp,GO h1];exact⟨Hr h1,(congrArg (fun z=>(aU z).isSome) (Hr h1)).trans (Qm _)⟩)
   exact h1
  ·simp -implicitDefEqProofs only[go_sem,h1]
   refine ab ?_
   refine sA ?_
   obtain rfl:i=ls.length:=by omega
   exact⟨_,rfl,rfl⟩
theorem zE(n v:Nat)(a b:bB)(ha:DZ n a)(hb:DZ n b)(hn:n≤100)(hv:v<4)(h1:0<a7 a v)(h2:a7 b v<0):C E.P 215 [av (cU a),av (cU b),iv v] [] (aM (.eL [av (cU (EC a b v)),bv (tF a b v)]) []):=by
 have ca:=ha.NM v
 have cb:=hb.NM v
 obtain⟨⟨hg1,hg2⟩,⟨hp1,hp2⟩,⟨hq1,hq2⟩⟩:=HK ha hb h1 h2
 have la:v<a.kM.aq.length:=by rw[(fN.1 ha.kM).1];exact hv
 have lb:v<b.kM.aq.length:=by rw[(fN.1 hb.kM).1];exact hv
 have ea:a.kM.aq[v]=a7 a v:=(nv la).symm
 have eb:b.kM.aq[v]=a7 b v:=(nv lb).symm
 have hal:=ha.len
 have hbl:=hb.len
 have eg:(Int.gcd (a7 a v) (-(a7 b v)):Int)=sU a b v:=rfl
 have ep:(a7 a v).tdiv (sU a b v)=ot a b v:=rfl
 have eq:(-(a7 b v)).tdiv (sU a b v)=ov a b v:=rfl
 have e1:EC a b v=⟨(cR a.kM (ov a b v) b.kM (ot a b v)).1,oS a b v⟩:=rfl
 have e2:tF a b v=((cR a.kM (ov a b v) b.kM (ot a b v)).2&&(oS a b v).all fun n=>decide (n≤1000000)):=rfl
 have e3:oS a b v=comb (ov a b v) (ot a b v) a.fB b.fB:=rfl
 generalize sU a b v=g at *
 generalize ot a b v=p at *
 generalize ov a b v=q at *
 refine gS (nt:=85) (rs:=[.cell 6 225,.tmp 7]) hm Tryz.func215 fun hl he hLB=>?_
 simp -implicitDefEqProofs only[go_sem,la,lb,ea,eb]
 repeat(with_reducible apply And.intro;exact sO)
 refine ck [] (m7 (a7 a v) (-(a7 b v)) (by omega) (by omega)) ?_ ?_<;>simp -implicitDefEqProofs only[go_sem,eg]
 repeat(with_reducible apply And.intro;exact sO)
 simp -implicitDefEqProofs only[go_sem,ep,eq]
 refine aC [] (qg a.kM q b.kM p) ?_
 obtain⟨l,hl⟩:∃l,(cR a.kM q b.kM p).1=l:=⟨_,rfl⟩
 obtain⟨ok,hok⟩:∃l,(cR a.kM q b.kM p).2=l:=⟨_,rfl⟩
 rw[hl] at e1
 rw[hok] at e2
 simp -implicitDefEqProofs only[go_sem,hl,hok]
 refine bP hm (fun(i:Nat) (o:Bool)=> i≤n∧o=(ok&&(comb q p (a.fB.take i) (b.fB.take i)).all fun n=>decide (n≤1000000))) (fun(i:Nat) (o:Bool)=> ⟨bW 85 .any [(3,.ptr 0 0),(4,.ptr 1 0),(6,.ptr 2 0),(8,iv p),(9,iv q),(12,bv o),(13,.ptr 3 0),(52,iv n),(53,iv i)],[some (.box (bn (cU a))),some (.box (bn (cU b))),some (.box (bn (cU ⟨kf,[]⟩))),some (.box [lv (aO l.aq),iv l.bound,bv l.strict,.acc 4]),some (.acc 3 (aO (comb q p (a.fB.take i) (b.fB.take i))))]⟩) (fun(i:Nat) (o:Bool)=> n-i) (0) (ok) ?_ (ah [some 0,some 1,some 2,some 4,none] ?_ ?_ rfl rfl) ?_
 rotate_left
 ·refine sA ?_
  all_goals(simp[*])
 ·refine sA ?_
  all_goals(simp[comb, *])
 rotate_left
 ·simp[comb]
 ·rintro i o ⟨hi,ho⟩
  rcases Classical.em (i<n) with h3|h3
  ·have h4:i<a.fB.length:=by omega
   have h5:i<b.fB.length:=by omega
   have b1:=ha.bd a.fB[i] (List.getElem_mem h4)
   have b2:=hb.bd b.fB[i] (List.getElem_mem h5)
   have m1:=cH (m:=q) (b:=a.fB[i]) (by omega) hq2 (by omega)
   have m2:=cH (m:=p) (b:=b.fB[i]) (by omega) hp2 (by omega)
   have hlen:(comb q p (a.fB.take i) (b.fB.take i)).length≤100:=by rw[jc (by simp;omega)];simp;omega
   have ho2:(ok&&(comb q p (a.fB.take (i+1)) (b.fB.take (i+1))).all fun n=>decide (n≤1000000))=(o&&decide (q*a.fB[i]+p*b.fB[i]≤1000000)):=by
    rw[ho,de h4 h5,List.all_append,←Bool.and_assoc]
    simp
   cases o
   ·simp -implicitDefEqProofs only[go_sem,h3,h4,h5]
    repeat(with_reducible apply And.intro;exact sO)
    refine⟨i+1,false,?_,?_,ah [some 0,some 1,some 2,some 3,some 5] ?_ ?_ rfl rfl⟩
    rotate_left
    ·show _ < _
     omega
    ·exact sC
    ·refine sA ?_
     all_goals((rw[de h4 h5,←cW];rfl))
    exact⟨h3,by rw[ho2];rfl⟩
   ·simp -implicitDefEqProofs only[go_sem,h3,h4,h5]
    repeat(with_reducible apply And.intro;exact sO)
    refine⟨i+1,(decide (q*a.fB[i]+p*b.fB[i]≤1000000)),?_,?_,ah [some 0,some 1,some 2,some 3,some 5] ?_ ?_ rfl rfl⟩
    rotate_left
    ·show _ < _
     omega
    ·exact sC
    ·refine sA ?_
     all_goals((rw[de h4 h5,←cW];rfl))
    exact⟨h3,by rw[ho2];simp⟩
  ·have ta:a.fB.take i=a.fB:=List.take_of_length_le (by omega)
   have tb:b.fB.take i=b.fB:=List.take_of_length_le (by omega)
   rw[ta,tb,←e3] at ho⊢
   rw[←e2] at ho
   simp -implicitDefEqProofs only[go_sem,h3]
   refine ab ?_
   refine sA ?_
   rw[e1,ho]
   repeat' apply And.intro
   all_goals rfl
end Go.Proofs.YtpidddienjoleaaGreat
namespace Go.Proofs.YtpidddienjoleaaGreat
open Go.Eng Go.Mod
open Int renaming reduceEq→Z1,reduceLT→Z2,reduceLE→Z3,reduceToNat→Z4
set_option maxRecDepth 100000
set_option maxHeartbeats 800000
theorem sQ{n v:Nat}{r:bB}(h:DZ n r)(hv:v<4):∃h:v<r.kM.aq.length,r.kM.aq[v]=a7 r v:=by
 have la:v<r.kM.aq.length:=by rw[(fN.1 h.kM).1];exact hv
 exact⟨la,(nv la).symm⟩
theorem kX(n v:Nat)(rows:List bB)(hr:GN n rows)(hn:n≤100)(hv:v<4):C E.P 160 [lv (cc rows),iv v] [] (aM (.eL [lv (cc ((fw rows v).getD [])),bv (fw rows v).isSome]) []):=by
 obtain⟨hlen,hall⟩:=hr
 refine gS (nt:=85) (rs:=[.tmp 4,.tmp 5]) hm Tryz.func160 fun hl he hLB=>?_
 refine al hm (fun(i:Nat)=> i≤rows.length) (fun(i:Nat)=> ⟨bW 85 .any [(0,lv (cc rows)),(1,iv v),(6,.acc 0),(15,lv (cc rows)),(16,iv rows.length),(17,iv i)],[some (.acc 225 (cc ((rows.take i).filter fun r=>decide (a7 r v=0))))]⟩) (fun(i:Nat)=> rows.length-i) (0) ?_ (ah [none] ?_ ?_ rfl rfl) ?_
 rotate_left
 ·exact sC
 ·refine sA ?_
  all_goals(rfl)
 rotate_left
 ·omega
 ·rintro i hi
  have hfl:((rows.take i).filter fun r=>decide (a7 r v=0)).length≤200:=by
   have:=List.length_filter_le (fun r:bB=>decide (a7 r v=0)) (rows.take i)
   rw[List.length_take] at this
   omega
  rcases Classical.em (i<rows.length) with h1|h1
  ·obtain⟨la,ea⟩:=sQ (hall rows[i] (List.getElem_mem h1)) hv
   have hs:=DY (p:=fun r:bB=>decide (a7 r v=0)) h1
   rcases Classical.em (a7 rows[i] v=0) with h2|h2
   ·have k2:=eq_true h2
    rw[if_pos (by simpa using h2)] at hs
    simp -implicitDefEqProofs only[go_sem,h1,la,ea,k2]
    repeat(with_reducible apply And.intro;exact sO)
    refine⟨i+1,?_,?_,ah [some 2] ?_ ?_ rfl rfl⟩
    rotate_left
    ·show _ < _
     omega
    ·exact sC
    ·refine sA ?_
     all_goals((rw[hs,←Aw,xo,ux];rfl))
    exact h1
   ·rw[if_neg (by simpa using h2),List.append_nil] at hs
    simp -implicitDefEqProofs only[go_sem,h1,la,ea,h2]
    repeat(with_reducible apply And.intro;exact sO)
    refine⟨i+1,?_,?_,ah [some 0] ?_ ?_ rfl rfl⟩
    rotate_left
    ·show _ < _
     omega
    ·exact sC
    ·refine sA ?_
     all_goals((rw[hs]))
    exact h1
  ·have et:rows.take i=rows:=List.take_of_length_le (by omega)
   rw[et] at hfl⊢
   obtain⟨out0,ho0⟩:∃o,(rows.filter fun r=>decide (a7 r v=0))=o:=⟨_,rfl⟩
   have hL:fw rows v=ig v (mX rows rows v) out0:=by rw[←ho0];rfl
   rw[ho0] at hfl⊢
   simp -implicitDefEqProofs only[go_sem,h1]
   clear hi h1
   refine bP hm (fun(i:Nat) (out:List bB)=> i≤rows.length∧out.length≤200∧fw rows v=ig v (mX rows (rows.drop i) v) out) (fun(i:Nat) (out:List bB)=> ⟨bW 85 .any [(0,lv (cc rows)),(1,iv v),(6,.acc 0),(33,lv (cc rows)),(34,iv rows.length),(35,iv i)],[some (.acc 225 (cc out))]⟩) (fun(i:Nat) (out:List bB)=> rows.length-i) (0) (out0) ?_ (ah [some 0] ?_ ?_ rfl rfl) ?_
   rotate_left
   ·exact sC
   ·exact sC
   rotate_left
   ·exact⟨Nat.zero_le _,hfl,hL⟩
   ·rintro i out ⟨hi,ho,hg⟩
    rcases Classical.em (i<rows.length) with h1|h1
    ·have ua:=hall rows[i] (List.getElem_mem h1)
     rw[Eo h1] at hg
     obtain⟨a,ha⟩:∃a,rows[i]=a:=⟨_,rfl⟩
     rw[ha] at ua hg
     obtain⟨la,ea⟩:=sQ ua hv
     simp -implicitDefEqProofs only[go_sem,h1,ha]
     refine bP hm (fun(j:Nat) (out:List bB)=> j≤rows.length∧out.length≤200∧fw rows v=ig v (nz a v (rows.drop j)++mX rows (rows.drop (i+1)) v) out) (fun(j:Nat) (out:List bB)=> ⟨bW 85 .any [(0,lv (cc rows)),(1,iv v),(6,.acc 0),(10,.ptr 1 0),(33,lv (cc rows)),(34,iv rows.length),(35,iv i),(39,lv (cc rows)),(40,iv rows.length),(41,iv j)],[some (.acc 225 (cc out)),some (.box (bn (cU a)))]⟩) (fun(j:Nat) (out:List bB)=> rows.length-j) (0) (out) ?_ (ah [some 0,some 1] ?_ ?_ rfl rfl) ?_
     rotate_left
     ·exact sC
     ·exact sC
     rotate_left
     ·exact⟨Nat.zero_le _,ho,hg⟩
     ·rintro j out ⟨hj,ho,hg⟩
      rcases Classical.em (j<rows.length) with h3|h3
      ·have ub:=hall rows[j] (List.getElem_mem h3)
       rw[C5 h3] at hg
       obtain⟨b,hb⟩:∃b,rows[j]=b:=⟨_,rfl⟩
       rw[hb] at ub hg
       obtain⟨lb,eb⟩:=sQ ub hv
       rcases Classical.em (a7 a v≤0) with h4|h4
       ·rw[if_neg (by omega),List.nil_append] at hg
        simp -implicitDefEqProofs only[go_sem,h3,la,ea,h4,hb]
        repeat(with_reducible apply And.intro;exact sO)
        refine⟨j+1,out,?_,?_,ah [some 0,some 1] ?_ ?_ rfl rfl⟩
        rotate_left
        ·show _ < _
         omega
        ·exact sC
        ·exact sC
        exact⟨by omega,ho,hg⟩
       rcases Classical.em (0≤a7 b v) with h5|h5
       ·rw[if_neg (by omega),List.nil_append] at hg
        simp -implicitDefEqProofs only[go_sem,h3,la,ea,h4,hb,lb,eb,h5]
        repeat(with_reducible apply And.intro;exact sO)
        refine⟨j+1,out,?_,?_,ah [some 0,some 1] ?_ ?_ rfl rfl⟩
        rotate_left
        ·show _ < _
         omega
        ·exact sC
        ·exact sC
        exact⟨by omega,ho,hg⟩
       ·rw[if_pos (by omega)] at hg
        simp only[List.cons_append,List.nil_append,ig] at hg
        simp -implicitDefEqProofs only[go_sem,h3,la,ea,h4,hb,lb,eb,h5]
        refine aC [] (zE n v a b ua ub hn hv (by omega) (by omega)) ?_
        cases h6:tF a b v
        ·rw[if_neg (by rw[h6];simp)] at hg
         refine sA ?_
         refine ab ?_
         refine sA ?_
         rw[hg]
         ((repeat' apply And.intro)<;>rfl)
        ·rcases Classical.em ((out.length:Int)=200) with h7|h7
         ·have k7:=eq_true h7
          rw[if_neg (by omega)] at hg
          simp -implicitDefEqProofs only[go_sem,k7]
          refine ab ?_
          refine sA ?_
          rw[hg]
          ((repeat' apply And.intro)<;>rfl)
         ·rw[if_pos ⟨h6,by omega⟩] at hg
          simp -implicitDefEqProofs only[go_sem,h7]
          repeat(with_reducible apply And.intro;exact sO)
          refine⟨j+1,out++[EC a b v],?_,?_,ah [some 4,some 1] ?_ ?_ rfl rfl⟩
          rotate_left
          ·show _ < _
           omega
          ·exact sC
          ·refine sA ?_
           all_goals((rw[←Aw,xo,ux];rfl))
          exact⟨by omega,by simp;omega,hg⟩
      ·rw[List.drop_of_length_le (by omega:rows.length≤j)] at hg
       simp -implicitDefEqProofs only[go_sem,h3]
       repeat(with_reducible apply And.intro;exact sO)
       refine⟨i+1,out,?_,?_,ah [some 0] ?_ ?_ rfl rfl⟩
       rotate_left
       ·show _ < _
        omega
       ·exact sC
       ·exact sC
       exact⟨by omega,ho,by simpa[nz] using hg⟩
    ·rw[List.drop_of_length_le (by omega)] at hg
     have ho':(out.length:Int)≤200:=by omega
     simp -implicitDefEqProofs only[go_sem,h1,ho']
     refine ab ?_
     refine sA ?_
     rw[hg]
     ((repeat' apply And.intro)<;>rfl)
theorem yC(v:Nat)(l:fq)(ay:List Mod.Rat)(hl:c5 l=true)(h4:ay.length=4)(hv:v<4):C E.P 218 [av (dZ l),iv v,lv (aP ay)] [] (aM (.eL [av (dm ((gV l v ay).getD ja)),bv (gV l v ay).isSome]) []):=by
 obtain⟨hn1,hc1,hb1⟩:=fN.1 hl
 have lv1:v<l.aq.length:=by omega
 have ev:l.aq.getD v 0=l.aq[v]:=nv lv1
 refine gS (nt:=62) (rs:=[.cell 6 57,.tmp 7]) hm Tryz.func218 fun hl he hLB=>?_
 refine aC [] (bD l.bound) ?_
 refine bP hm (fun(i:Nat) (sum:Mod.Rat)=> i≤l.aq.length∧lP v 0 l.aq ay (whole l.bound)=lP v i (l.aq.drop i) (ay.drop i) sum) (fun(i:Nat) (sum:Mod.Rat)=> ⟨bW 62 .any [(1,iv v),(2,lv (aP ay)),(3,.ptr 0 0),(6,.ptr 1 0),(8,.ptr 2 0),(19,lv (aO l.aq)),(20,iv l.aq.length),(21,iv i)],[some (.box (bn (dZ l))),some (.box (bn (dm ja))),some (.box (bn (dm sum)))]⟩) (fun(i:Nat) (sum:Mod.Rat)=> l.aq.length-i) (0) (whole l.bound) ?_ (ah [some 0,some 1,some 2] ?_ ?_ rfl rfl) ?_
 rotate_left
 ·exact sC
 ·exact sC
 rotate_left
 ·simp
 ·rintro i sum ⟨hi,hg⟩
  rcases Classical.em (i<l.aq.length) with h1|h1
  ·have h2:i<ay.length:=by omega
   rw[DI h1 h2] at hg
   rcases Classical.em (i=v) with h3|h3
   ·have k3:((i:Int)=(v:Int))=True:=eq_true (by omega)
    rw[if_pos h3] at hg
    simp -implicitDefEqProofs only[go_sem,h1,k3]
    repeat(with_reducible apply And.intro;exact sO)
    refine⟨i+1,sum,?_,?_,ah [some 0,some 1,some 2] ?_ ?_ rfl rfl⟩
    rotate_left
    ·show _ < _
     omega
    ·exact sC
    ·exact sC
    exact⟨by omega,hg⟩
   ·have k3:¬ (i:Int)=(v:Int):=by omega
    have cb:=hc1 l.aq[i] (List.getElem_mem h1)
    rw[if_neg h3] at hg
    simp -implicitDefEqProofs only[go_sem,h1,h2,k3]
    repeat(with_reducible apply And.intro;exact sO)
    refine aC [] (o5 sum (-l.aq[i]) ay[i]) ?_
    refine iK ?_
    cases h5:(plus sum (-l.aq[i]) ay[i]).2
    ·rw[h5] at hg
     simp only[Bool.false_eq_true,if_false] at hg
     have e:gV l v ay=none:=by simp[gV,hg]
     refine sA ?_
     refine ab ?_
     refine sA ?_
     all_goals(simp[e];done)
    ·rw[h5] at hg
     simp only[if_true] at hg
     refine sA ?_
     repeat(with_reducible apply And.intro;exact sO)
     refine⟨i+1,(plus sum (-l.aq[i]) ay[i]).1,?_,?_,ah [some 0,some 1,some 2] ?_ ?_ rfl rfl⟩
     rotate_left
     ·show _ < _
      omega
     ·exact sC
     ·exact sC
     exact⟨by omega,hg⟩
  ·rw[List.drop_of_length_le (by omega),FL] at hg
   simp -implicitDefEqProofs only[go_sem,h1,lv1]
   refine aC [] (Bk 1 l.aq[v]) ?_
   cases h5:(oj 1 l.aq[v]).2
   ·have e:gV l v ay=none:=by simp[gV,hg,h5,lv1]
    refine sA ?_
    refine ab ?_
    refine sA ?_
    all_goals(simp[e];done)
   ·have e:gV l v ay=Ge (eX sum (oj 1 l.aq[v]).1):=by simp[gV,hg,h5,lv1]
    refine sA ?_
    refine aC [] (lF sum (oj 1 l.aq[v]).1) ?_
    obtain⟨o1,o2⟩:=Ay (x:=eX sum (oj 1 l.aq[v]).1) uP
    refine ab ?_
    refine sA ?_
    rw[e,o1,o2]
    ((repeat' apply And.intro)<;>rfl)
theorem gY(n v:Nat)(rows:List bB)(ay:List Mod.Rat)(hr:GN n rows)(h4:ay.length=4)(hv:v<4):C E.P 163 [lv (cc rows),iv v,lv (aP ay)] [] (aM (.eL [av (dm ((valueOf rows v ay).getD ja)),bv (valueOf rows v ay).isSome]) []):=by
 obtain⟨hlen,hall⟩:=hr
 refine gS (nt:=95) (rs:=[.cell 6 57,.tmp 7]) hm Tryz.func163 fun hl he hLB=>?_
 refine gX hm (fun(i:Nat) (lo:Option Mod.Rat) (hi:Option Mod.Rat)=> i≤rows.length∧jy v ay rows none none=jy v ay (rows.drop i) lo hi) (fun(i:Nat) (lo:Option Mod.Rat) (hi:Option Mod.Rat)=> ⟨bW 95 .any [(1,iv v),(2,lv (aP ay)),(6,.ptr 0 0),(8,.ptr 1 0),(9,.ptr 2 0),(10,bv lo.isSome),(11,bv hi.isSome),(17,lv (cc rows)),(18,iv rows.length),(19,iv i)],[some (.box (bn (dm ja))),some (.box (bn (dm (lo.getD ja)))),some (.box (bn (dm (hi.getD ja))))]⟩) (fun(i:Nat) (lo:Option Mod.Rat) (hi:Option Mod.Rat)=> rows.length-i) (0) (none) (none) ?_ (ah [some 0,some 1,some 2] ?_ ?_ rfl rfl) ?_
 rotate_left
 ·refine sA ?_
  all_goals(simp[*];done)
 ·refine sA ?_
  all_goals(simp[*];done)
 rotate_left
 ·simp
 ·rintro i lo hi ⟨hi1,hg⟩
  rcases Classical.em (i<rows.length) with h1|h1
  ·have ua:=hall rows[i] (List.getElem_mem h1)
   obtain⟨la,ea⟩:=sQ ua hv
   rw[D3 h1] at hg
   rcases Classical.em (a7 rows[i] v=0) with h2|h2
   ·have k2:=eq_true h2
    rw[if_pos h2] at hg
    simp -implicitDefEqProofs only[go_sem,h1,la,ea,k2]
    repeat(with_reducible apply And.intro;exact sO)
    refine⟨i+1,lo,hi,?_,?_,ah [some 0,some 1,some 2] ?_ ?_ rfl rfl⟩
    rotate_left
    ·show _ < _
     omega
    ·exact sC
    ·exact sC
    exact⟨by omega,hg⟩
   ·rw[if_neg h2] at hg
    simp -implicitDefEqProofs only[go_sem,h1,la,ea,h2]
    refine aC [] (yC v rows[i].kM ay ua.kM h4 hv) ?_
    cases hb:gV rows[i].kM v ay with
    | none=>
      rw[hb] at hg
      simp only at hg
      have e:valueOf rows v ay=none:=by simp[valueOf,hg]
      simp -implicitDefEqProofs only[go_sem,Option.isSome_none,Option.getD_none]
      refine ab ?_
      refine sA ?_
      all_goals(simp[e];done)
    | some b=>
      rw[hb] at hg
      simp only at hg
      rcases Classical.em (0<a7 rows[i] v) with h3|h3
      ·rw[if_pos h3] at hg
       have h3':¬a7 rows[i] v<0:=by omega
       cases hi with
       | none=>
         rw[show lower b none=true from rfl,if_pos rfl] at hg
         simp -implicitDefEqProofs only[go_sem,Option.isSome_some,Option.getD_some,Option.isSome_none,Option.getD_none,h3]
         repeat(with_reducible apply And.intro;exact sO)
         refine⟨i+1,lo,some b,?_,?_,ah [some 0,some 1,some 2] ?_ ?_ rfl rfl⟩
         rotate_left
         ·show _ < _
          omega
         ·exact sC
         ·refine sA ?_
          all_goals(simp[*];done)
         exact⟨by omega,hg⟩
       | some h=>
         rw[show lower b (some h)=bH b h from rfl] at hg
         simp -implicitDefEqProofs only[go_sem,Option.isSome_some,Option.getD_some,h3]
         refine aC [] (eC b h) ?_
         cases h5:bH b h
         ·rw[h5,if_neg (by simp)] at hg
          simp -implicitDefEqProofs only[go_sem,h3']
          repeat(with_reducible apply And.intro;exact sO)
          refine⟨i+1,lo,some h,?_,?_,ah [some 0,some 1,some 2] ?_ ?_ rfl rfl⟩
          rotate_left
          ·show _ < _
           omega
          ·exact sC
          ·refine sA ?_
           all_goals(simp[*];done)
          exact⟨by omega,hg⟩
         ·rw[h5,if_pos rfl] at hg
          refine sA ?_
          repeat(with_reducible apply And.intro;exact sO)
          refine⟨i+1,lo,some b,?_,?_,ah [some 0,some 1,some 2] ?_ ?_ rfl rfl⟩
          rotate_left
          ·show _ < _
           omega
          ·exact sC
          ·refine sA ?_
           all_goals(simp[*];done)
          exact⟨by omega,hg⟩
      ·rw[if_neg h3] at hg
       have h3':a7 rows[i] v<0:=by omega
       cases lo with
       | none=>
         rw[show upper b none=true from rfl,if_pos rfl] at hg
         simp -implicitDefEqProofs only[go_sem,Option.isSome_some,Option.getD_some,Option.isSome_none,Option.getD_none,h3,h3']
         repeat(with_reducible apply And.intro;exact sO)
         refine⟨i+1,some b,hi,?_,?_,ah [some 0,some 1,some 2] ?_ ?_ rfl rfl⟩
         rotate_left
         ·show _ < _
          omega
         ·exact sC
         ·refine sA ?_
          all_goals(simp[*];done)
         exact⟨by omega,hg⟩
       | some l=>
         rw[show upper b (some l)=bH l b from rfl] at hg
         simp -implicitDefEqProofs only[go_sem,Option.isSome_some,Option.getD_some,h3,h3']
         refine aC [] (eC l b) ?_
         cases h5:bH l b
         ·rw[h5,if_neg (by simp)] at hg
          refine sA ?_
          repeat(with_reducible apply And.intro;exact sO)
          refine⟨i+1,some l,hi,?_,?_,ah [some 0,some 1,some 2] ?_ ?_ rfl rfl⟩
          rotate_left
          ·show _ < _
           omega
          ·exact sC
          ·refine sA ?_
           all_goals(simp[*];done)
          exact⟨by omega,hg⟩
         ·rw[h5,if_pos rfl] at hg
          refine sA ?_
          repeat(with_reducible apply And.intro;exact sO)
          refine⟨i+1,some b,hi,?_,?_,ah [some 0,some 1,some 2] ?_ ?_ rfl rfl⟩
          rotate_left
          ·show _ < _
           omega
          ·exact sC
          ·refine sA ?_
           all_goals(simp[*];done)
          exact⟨by omega,hg⟩
  ·rw[List.drop_of_length_le (by omega),jy] at hg
   have e:valueOf rows v ay=Ge (sW lo hi):=by simp[valueOf,hg]
   obtain⟨o1,o2⟩:=Ay (x:=sW lo hi) BV
   rw[e,o1,o2]
   cases lo with
   | none=>
     cases hi with
     | none=>
       simp -implicitDefEqProofs only[go_sem,Option.isSome_none,Option.getD_none,h1]
       refine aC [] (bD 0) ?_
       refine ab ?_
       refine sA ?_
       ((repeat' apply And.intro)<;>rfl)
     | some h=>
       simp -implicitDefEqProofs only[go_sem,Option.isSome_none,Option.getD_none,Option.isSome_some,Option.getD_some,h1]
       refine aC [] (bD (-1)) ?_
       refine aC [] (iV h (whole (-1))) ?_
       refine iK ?_
       refine ab ?_
       refine sA ?_
       ((repeat' apply And.intro)<;>rfl)
   | some l=>
     cases hi with
     | none=>
       simp -implicitDefEqProofs only[go_sem,Option.isSome_none,Option.getD_none,Option.isSome_some,Option.getD_some,h1]
       refine aC [] (bD 1) ?_
       refine aC [] (iV l (whole 1)) ?_
       refine iK ?_
       refine ab ?_
       refine sA ?_
       ((repeat' apply And.intro)<;>rfl)
     | some h=>
       simp -implicitDefEqProofs only[go_sem,Option.isSome_some,Option.getD_some,h1]
       refine aC [] (zi l h) ?_
       refine ab ?_
       refine sA ?_
       ((repeat' apply And.intro)<;>rfl)
structure Q7 where
 rows:List bB
 s0:List bB
 s1:List bB
 s2:List bB
 s3:List bB
def Rv(ls:List fq)(z:Int)(t:Q7):Prop:=
 (z=3∧t=⟨aR ls,[],[],[],[]⟩)∨(z=2∧∃r2,fw (aR ls) 3=some r2∧t=⟨r2,[],[],[],aR ls⟩) ∨
 (z=1∧∃r2 r1,fw (aR ls) 3=some r2∧fw r2 2=some r1∧t=⟨r1,[],[],r2,aR ls⟩) ∨
 (z=0∧∃r2 r1 r0,fw (aR ls) 3=some r2∧fw r2 2=some r1∧fw r1 1=some r0∧t=⟨r0,[],r1,r2,aR ls⟩) ∨
 (z = -1∧∃r2 r1 r0 r,fw (aR ls) 3=some r2∧fw r2 2=some r1∧fw r1 1=some r0∧fw r0 0=some r∧t=⟨r,r0,r1,r2,aR ls⟩)
theorem y2(ls:List fq):C E.P 91 [lv (bE ls)] [] (aM (.eL [lv (aP (bf ls).ay),lv (aO (bf ls).times),iv (bf ls).code]) []):=by
 cases hsys:dQ ls
 ·have e:bf ls=⟨[],[],3⟩:=by simp[bf,hsys]
  refine gS (nt:=86) (rs:=[.tmp 2,.tmp 3,.tmp 4]) hm Tryz.func91 fun hl he hLB=>?_
  refine aC [] (gk ls) ?_
  simp -implicitDefEqProofs only[go_sem,hsys]
  refine ab ?_
  refine sA ?_
  rw[e]
  ((repeat' apply And.intro)<;>rfl)
 have h20:ls.length≤20:=by simp only[dQ,Bool.and_eq_true,decide_eq_true_eq] at hsys;exact hsys.1
 have u3:=Df hsys
 have hLB:=uO
 refine Ak (nt:=86) (rs:=[.tmp 2,.tmp 3,.tmp 4]) Tryz.func91 rfl rfl rfl rfl rfl (fun hl he=>?_)
 simp -implicitDefEqProofs only[go_sem] at hl he⊢
 refine gG (lW hm ?_)
 simp -implicitDefEqProofs only[go_sem,gZ,gi]
 refine gG (lW hm ?_)
 refine sA ?_
 refine aC [] (gk ls) ?_
 simp -implicitDefEqProofs only[go_sem,hsys]
 refine gG (lW hm ?_)
 refine sA ?_
 refine aC [] (vP ls (by omega)) ?_
 refine gG (lW hm ?_)
 refine sA ?_
 refine gG (lW hm ?_)
 refine sA ?_
 refine bP hm (fun(z:Int) (t:Q7)=> Rv ls z t) (fun(z:Int) (t:Q7)=> ⟨bW 86 .any [(0,lv (bE ls)),(5,lv (cc t.rows)),(6,.ptr 0 0),(7,iv z)],[some (.box [lv (cc t.s0),lv (cc t.s1),lv (cc t.s2),lv (cc t.s3)])]⟩) (fun(z:Int) (t:Q7)=> (z+1).toNat) (3) (⟨aR ls,[],[],[],[]⟩) ?_ (ah [some 0] ?_ ?_ rfl rfl) ?_
 rotate_left
 ·exact sC
 ·exact sC
 rotate_left
 ·exact .inl ⟨rfl,rfl⟩
 ·rintro z t hz
  rcases hz with⟨rfl,rfl⟩|⟨rfl,r2,g3,rfl⟩|⟨rfl,r2,r1,g3,g2,rfl⟩|⟨rfl,r2,r1,r0,g3,g2,g1,rfl⟩|⟨rfl,r2,r1,r0,rows,g3,g2,g1,g0,rfl⟩
  ·simp only
   have hu:=u3
   have cl:=kX ls.length 3 (aR ls) hu (by omega) (by omega)
   simp -implicitDefEqProofs only[go_sem,Z3,Z4]
   repeat(with_reducible apply And.intro;exact sO)
   refine aC [] cl ?_
   cases hl:fw (aR ls) 3 with
   | none=>
     have e:bf ls=⟨[],[],2⟩:=by simp[bf, *]
     simp -implicitDefEqProofs only[go_sem,Option.isSome_none,Option.getD_none]
     refine bR ?_
     refine ab ?_
     refine sA ?_
     rw[e]
     ((repeat' apply And.intro)<;>rfl)
   | some r=>
     simp -implicitDefEqProofs only[go_sem,Option.isSome_some,Option.getD_some]
     repeat(with_reducible apply And.intro;exact sO)
     refine⟨(2:Int),⟨r,[],[],[],aR ls⟩,?_,?_,ah [some 0] ?_ ?_ rfl rfl⟩
     rotate_left
     ·show _ < _
      omega
     ·refine sA ?_
      all_goals(simp[*];done)
     ·exact sC
     exact .inr (.inl ⟨rfl,r,hl,rfl⟩)
  ·simp only
   have hu:=gh u3 g3
   have cl:=kX ls.length 2 r2 hu (by omega) (by omega)
   simp -implicitDefEqProofs only[go_sem,Z3,Z4]
   repeat(with_reducible apply And.intro;exact sO)
   refine aC [] cl ?_
   cases hl:fw r2 2 with
   | none=>
     have e:bf ls=⟨[],[],2⟩:=by simp[bf, *]
     simp -implicitDefEqProofs only[go_sem,Option.isSome_none,Option.getD_none]
     refine bR ?_
     refine ab ?_
     refine sA ?_
     rw[e]
     ((repeat' apply And.intro)<;>rfl)
   | some r=>
     simp -implicitDefEqProofs only[go_sem,Option.isSome_some,Option.getD_some]
     repeat(with_reducible apply And.intro;exact sO)
     refine⟨(1:Int),⟨r,[],[],r2,aR ls⟩,?_,?_,ah [some 0] ?_ ?_ rfl rfl⟩
     rotate_left
     ·show _ < _
      omega
     ·refine sA ?_
      all_goals(simp[*];done)
     ·exact sC
     exact .inr (.inr (.inl ⟨rfl,r2,r,g3,hl,rfl⟩))
  ·simp only
   have hu:=gh (gh u3 g3) g2
   have cl:=kX ls.length 1 r1 hu (by omega) (by omega)
   simp -implicitDefEqProofs only[go_sem,Z3,Z4]
   repeat(with_reducible apply And.intro;exact sO)
   refine aC [] cl ?_
   cases hl:fw r1 1 with
   | none=>
     have e:bf ls=⟨[],[],2⟩:=by simp[bf, *]
     simp -implicitDefEqProofs only[go_sem,Option.isSome_none,Option.getD_none]
     refine bR ?_
     refine ab ?_
     refine sA ?_
     rw[e]
     ((repeat' apply And.intro)<;>rfl)
   | some r=>
     simp -implicitDefEqProofs only[go_sem,Option.isSome_some,Option.getD_some]
     repeat(with_reducible apply And.intro;exact sO)
     refine⟨(0:Int),⟨r,[],r1,r2,aR ls⟩,?_,?_,ah [some 0] ?_ ?_ rfl rfl⟩
     rotate_left
     ·show _ < _
      omega
     ·refine sA ?_
      all_goals(simp[*];done)
     ·exact sC
     exact .inr (.inr (.inr (.inl ⟨rfl,r2,r1,r,g3,g2,hl,rfl⟩)))
  ·simp only
   have hu:=gh (gh (gh u3 g3) g2) g1
   have cl:=kX ls.length 0 r0 hu (by omega) (by omega)
   refine sA ?_
   refine aC [] cl ?_
   cases hl:fw r0 0 with
   | none=>
     have e:bf ls=⟨[],[],2⟩:=by simp[bf, *]
     simp -implicitDefEqProofs only[go_sem,Option.isSome_none,Option.getD_none]
     refine bR ?_
     refine ab ?_
     refine sA ?_
     rw[e]
     ((repeat' apply And.intro)<;>rfl)
   | some r=>
     simp -implicitDefEqProofs only[go_sem,Option.isSome_some,Option.getD_some]
     repeat(with_reducible apply And.intro;exact sO)
     refine⟨(-1:Int),⟨r,r0,r1,r2,aR ls⟩,?_,?_,ah [some 0] ?_ ?_ rfl rfl⟩
     rotate_left
     ·show _ < _
      omega
     ·refine sA ?_
      all_goals(simp[*];done)
     ·exact sC
     exact .inr (.inr (.inr (.inr ⟨rfl,r2,r1,r0,r,g3,g2,g1,hl,rfl⟩)))
  ·simp only
   have u2:=gh u3 g3
   have u1:=gh u2 g2
   have u0:=gh u1 g1
   have ur:=gh u0 g0
   have hrl:=ur.1
   have hF:bf ls=gr ls r0 r1 r2 (aR ls) rows:=by simp[bf,hsys,g3,g2,g1,g0]
   clear g3 g2 g1 g0
   simp -implicitDefEqProofs only[go_sem,Z3]
   refine gG (lW hm ?_)
   refine sA ?_
   refine al hm (fun(i:Nat)=> i≤rows.length∧(rows.find? fun r=>lN r.kM)=(rows.drop i).find? fun r=>lN r.kM) (fun(i:Nat)=> ⟨bW 86 .any [(0,lv (bE ls)),(6,.ptr 0 0),(37,lv (cc rows)),(38,iv rows.length),(39,iv i)],[some (.box [lv (cc r0),lv (cc r1),lv (cc r2),lv (cc (aR ls))])]⟩) (fun(i:Nat)=> rows.length-i) (0) ?_ (ah [some 0] ?_ ?_ rfl rfl) ?_
   rotate_left
   ·exact sC
   ·exact sC
   rotate_left
   ·simp
   ·rintro i ⟨hi,hfind⟩
    rcases Classical.em (i<rows.length) with h1|h1
    ·have ua:=ur.2 rows[i] (List.getElem_mem h1)
     rw[List.drop_eq_getElem_cons h1,List.find?_cons] at hfind
     simp -implicitDefEqProofs only[go_sem,h1]
     refine aC [] (qa rows[i].kM) ?_
     cases hb:lN rows[i].kM
     ·rw[hb] at hfind
      refine sA ?_
      repeat(with_reducible apply And.intro;exact sO)
      refine⟨i+1,?_,?_,ah [some 0] ?_ ?_ rfl rfl⟩
      rotate_left
      ·show _ < _
       omega
      ·exact sC
      ·exact sC
      exact⟨by omega,hfind⟩
     ·rw[hb] at hfind
      simp only at hfind
      have hal:=ua.len
      refine sA ?_
      refine aC [] (BR ls rows[i].fB) ?_
      cases hf:uZ ls rows[i].fB
      ·have e:bf ls=⟨[],[],2⟩:=by rw[hF,gr,hfind];simp[hf]
       refine sA ?_
       refine bR ?_
       refine ab ?_
       refine sA ?_
       rw[e]
       ((repeat' apply And.intro)<;>rfl)
      ·have e:bf ls=⟨[],rows[i].fB,1⟩:=by rw[hF,gr,hfind];simp[hf]
       refine sA ?_
       refine aC [] (CY rows[i].fB (by omega)) ?_
       refine bR ?_
       refine ab ?_
       refine sA ?_
       rw[e]
       ((repeat' apply And.intro)<;>rfl)
    ·rw[List.drop_of_length_le (by omega),List.find?_nil] at hfind
     simp -implicitDefEqProofs only[go_sem,h1]
     refine gG (mw ?_)
     refine jF rfl ?_
     refine aC [] (bD 0) ?_
     refine jF rfl ?_
     refine aC [] (bD 0) ?_
     refine jF rfl ?_
     refine aC [] (bD 0) ?_
     refine jF rfl ?_
     refine aC [] (bD 0) ?_
     refine jF rfl (bS (qK 67 57 4 1 _ _ _ (aP o4) rfl rfl rfl rfl rfl (by simp -implicitDefEqProofs only[go_sem];rfl) (by decide) (by decide) rfl) ?_)
     refine sA ?_
     refine jF rfl (gP ?_)
     refine sA ?_
     refine tY ?_
     refine sA ?_
     refine gG (lW hm ?_)
     refine sA ?_
     refine bP hm (fun(z:Int) (ay:List Mod.Rat)=> ay.length=4∧((z=0∧fV [r0,r1,r2,aR ls] 0 o4=fV [r0,r1,r2,aR ls] 0 ay)∨(z=1∧fV [r0,r1,r2,aR ls] 0 o4=fV [r1,r2,aR ls] 1 ay)∨(z=2∧fV [r0,r1,r2,aR ls] 0 o4=fV [r2,aR ls] 2 ay)∨(z=3∧fV [r0,r1,r2,aR ls] 0 o4=fV [aR ls] 3 ay)∨(z=4∧fV [r0,r1,r2,aR ls] 0 o4=some ay))) (fun(z:Int) (ay:List Mod.Rat)=> ⟨bW 86 .any [(0,lv (bE ls)),(6,.ptr 0 0),(12,.acc 1),(61,iv 4),(62,iv z)],[some (.box [lv (cc r0),lv (cc r1),lv (cc r2),lv (cc (aR ls))]),some (.acc 57 (aP ay))]⟩) (fun(z:Int) (ay:List Mod.Rat)=> (4-z).toNat) (0) (o4) ?_ (ah [some 0,some 1] ?_ ?_ rfl rfl) ?_
     rotate_left
     ·refine sA ?_
      all_goals(rfl)
     ·exact sC
     rotate_left
     ·exact⟨rfl,.inl ⟨rfl,rfl⟩⟩
     ·rintro z ay ⟨hv4,hg⟩
      have hLv:(aP ay).length=4:=by rw[uR];exact hv4
      rcases hg with⟨rfl,hg⟩|⟨rfl,hg⟩|⟨rfl,hg⟩|⟨rfl,hg⟩|⟨rfl,hg⟩
      ·have cv:=gY ls.length 0 r0 ay (by assumption) hv4 (by omega)
       simp -implicitDefEqProofs only[go_sem,Z2]
       refine bG [] [1] cv rfl ?_ ?_ ?_
       ·exact sV
       all_goals simp -implicitDefEqProofs only[go_sem]
       cases hx:valueOf r0 0 ay with
       | none=>
         rw[ly (st:=[r1,r2,aR ls]) hx] at hg
         have e:bf ls=⟨[],[],2⟩:=by rw[hF,gr,hfind];simp only[hg]
         simp -implicitDefEqProofs only[go_sem,Option.isSome_none,Option.getD_none]
         refine bR ?_
         refine ab ?_
         refine sA ?_
         rw[e]
         ((repeat' apply And.intro)<;>rfl)
       | some x=>
         rw[lu (st:=[r1,r2,aR ls]) hx] at hg
         simp -implicitDefEqProofs only[go_sem,Option.isSome_some,Option.getD_some]
         repeat(with_reducible apply And.intro;exact sO)
         refine⟨(1:Int),ay.set 0 x,?_,?_,ah [some 0,some 1] ?_ ?_ rfl rfl⟩
         rotate_left
         ·show _ < _
          omega
         ·refine sA ?_
          all_goals(simp[*];done)
         ·refine sA ?_
          all_goals(exact k8 (by omega))
         exact⟨by simpa using hv4,.inr (.inl ⟨rfl,hg⟩)⟩
      ·have cv:=gY ls.length 1 r1 ay (by assumption) hv4 (by omega)
       simp -implicitDefEqProofs only[go_sem,Z2,Z3,Z4]
       repeat(with_reducible apply And.intro;exact sO)
       refine bG [] [1] cv rfl ?_ ?_ ?_
       ·exact sV
       all_goals simp -implicitDefEqProofs only[go_sem]
       cases hx:valueOf r1 1 ay with
       | none=>
         rw[ly (st:=[r2,aR ls]) hx] at hg
         have e:bf ls=⟨[],[],2⟩:=by rw[hF,gr,hfind];simp only[hg]
         simp -implicitDefEqProofs only[go_sem,Option.isSome_none,Option.getD_none]
         refine bR ?_
         refine ab ?_
         refine sA ?_
         rw[e]
         ((repeat' apply And.intro)<;>rfl)
       | some x=>
         rw[lu (st:=[r2,aR ls]) hx] at hg
         simp -implicitDefEqProofs only[go_sem,Z3,Z4,Option.isSome_some,Option.getD_some]
         repeat(with_reducible apply And.intro;exact sO)
         refine⟨(2:Int),ay.set 1 x,?_,?_,ah [some 0,some 1] ?_ ?_ rfl rfl⟩
         rotate_left
         ·show _ < _
          omega
         ·refine sA ?_
          all_goals(simp[*];done)
         ·refine sA ?_
          all_goals(exact k8 (by omega))
         exact⟨by simpa using hv4,.inr (.inr (.inl ⟨rfl,hg⟩))⟩
      ·have cv:=gY ls.length 2 r2 ay (by assumption) hv4 (by omega)
       simp -implicitDefEqProofs only[go_sem,Z2,Z3,Z4]
       repeat(with_reducible apply And.intro;exact sO)
       refine bG [] [1] cv rfl ?_ ?_ ?_
       ·exact sV
       all_goals simp -implicitDefEqProofs only[go_sem]
       cases hx:valueOf r2 2 ay with
       | none=>
         rw[ly (st:=[aR ls]) hx] at hg
         have e:bf ls=⟨[],[],2⟩:=by rw[hF,gr,hfind];simp only[hg]
         simp -implicitDefEqProofs only[go_sem,Option.isSome_none,Option.getD_none]
         refine bR ?_
         refine ab ?_
         refine sA ?_
         rw[e]
         ((repeat' apply And.intro)<;>rfl)
       | some x=>
         rw[lu (st:=[aR ls]) hx] at hg
         simp -implicitDefEqProofs only[go_sem,Z3,Z4,Option.isSome_some,Option.getD_some]
         repeat(with_reducible apply And.intro;exact sO)
         refine⟨(3:Int),ay.set 2 x,?_,?_,ah [some 0,some 1] ?_ ?_ rfl rfl⟩
         rotate_left
         ·show _ < _
          omega
         ·refine sA ?_
          all_goals(simp[*];done)
         ·refine sA ?_
          all_goals(exact k8 (by omega))
         exact⟨by simpa using hv4,.inr (.inr (.inr (.inl ⟨rfl,hg⟩)))⟩
      ·have cv:=gY ls.length 3 (aR ls) ay (by assumption) hv4 (by omega)
       simp -implicitDefEqProofs only[go_sem,Z2,Z3,Z4]
       repeat(with_reducible apply And.intro;exact sO)
       refine bG [] [1] cv rfl ?_ ?_ ?_
       ·exact sV
       all_goals simp -implicitDefEqProofs only[go_sem]
       cases hx:valueOf (aR ls) 3 ay with
       | none=>
         rw[ly (st:=[]) hx] at hg
         have e:bf ls=⟨[],[],2⟩:=by rw[hF,gr,hfind];simp only[hg]
         simp -implicitDefEqProofs only[go_sem,Option.isSome_none,Option.getD_none]
         refine bR ?_
         refine ab ?_
         refine sA ?_
         rw[e]
         ((repeat' apply And.intro)<;>rfl)
       | some x=>
         rw[lu (st:=[]) hx] at hg
         simp -implicitDefEqProofs only[go_sem,Z3,Z4,Option.isSome_some,Option.getD_some]
         repeat(with_reducible apply And.intro;exact sO)
         refine⟨(4:Int),ay.set 3 x,?_,?_,ah [some 0,some 1] ?_ ?_ rfl rfl⟩
         rotate_left
         ·show _ < _
          omega
         ·refine sA ?_
          all_goals(simp[*];done)
         ·refine sA ?_
          all_goals(exact k8 (by omega))
         exact⟨by simpa using hv4,.inr (.inr (.inr (.inr ⟨rfl,hg⟩)))⟩
      ·simp -implicitDefEqProofs only[go_sem,Z2]
       refine gG (lW hm ?_)
       refine sA ?_
       refine bG [] [1] (zB ls ay) rfl ?_ ?_ ?_
       ·exact sV
       all_goals simp -implicitDefEqProofs only[go_sem]
       cases hf:lE ls ay
       ·have e:bf ls=⟨[],[],2⟩:=by rw[hF,gr,hfind];simp[hg,hf]
        refine sA ?_
        refine bR ?_
        refine ab ?_
        refine sA ?_
        rw[e]
        ((repeat' apply And.intro)<;>rfl)
       ·have e:bf ls=⟨ay,[],0⟩:=by rw[hF,gr,hfind];simp[hg,hf]
        refine sA ?_
        refine lW hm ?_
        refine sA ?_
        refine bR ?_
        refine ab ?_
        refine sA ?_
        rw[e]
        ((repeat' apply And.intro)<;>rfl)
end Go.Proofs.YtpidddienjoleaaGreat
