/-
  The program: the walks of elimination and of systems. A step towards the laws.
-/
import Derived.Test.YtpidddienjoleaaGreatKDc
import Derived.Test.YtpidddienjoleaaGreatKDd
import Derived.Test.YtpidddienjoleaaGreatKDN
import Derived.Test.YtpidddienjoleaaGreatKDq
import Derived.Test.YtpidddienjoleaaGreatKDEa
import Derived.Test.YtpidddienjoleaaGreatKDEk
import Derived.Test.YtpidddienjoleaaGreatKDDa
set_option linter.unusedVariables false
set_option linter.unusedSimpArgs false
namespace Go.Proofs.YtpidddienjoleaaGreat
open Go.Eng Go.Mod
open Int renaming reduceEq→Z1,reduceLT→Z2,reduceLE→Z3,reduceToNat→Z4
set_option maxRecDepth 100000
set_option maxHeartbeats 800000
theorem u6(n d:Int)(hn:-1000000000≤n∧n≤1000000000)(hd:-1000000000≤d∧d≤1000000000):C E.P 233 [iv n,iv d] [] (aO (.eZ [av (dp (eh n d).1),bv (eh n d).2]) []):=by
 rcases Classical.em (d=0) with h0|h0
 ·have k0:=eq_true h0
  refine gS (nt:=32) (rs:=[.cell 4 57,.tmp 5]) hm Tryz.func233 fun hl he hLB=>?_
  simp -implicitDefEqProofs only[go_sem,k0]
  refine ab ?_
  refine sA ?_
  all_goals(simp[eh,h0];done)
 rcases Classical.em (d<0) with h1|h1
 ·have e:eh n d=if aS ⟨(-n).tdiv (Int.gcd (-n) (-d)),(-d).tdiv (Int.gcd (-n) (-d))⟩ then(⟨(-n).tdiv (Int.gcd (-n) (-d)),(-d).tdiv (Int.gcd (-n) (-d))⟩,true) else(jx,false):=by
   unfold eh
   rw[if_neg h0]
   simp only[if_pos h1]
  have hg:=IT (n:=-n) (d:=-d) (by omega)
  have b1:=nK (n:=-n) (k:=1000000000) hg (by omega)
  have b2:=nK (n:=-d) (k:=1000000000) hg (by omega)
  have hne:¬ (Int.gcd (-n) (-d):Int)=0:=by omega
  refine gS (nt:=32) (rs:=[.cell 4 57,.tmp 5]) hm Tryz.func233 fun hl he hLB=>?_
  simp -implicitDefEqProofs only[go_sem,h0,h1]
  repeat(with_reducible apply And.intro;exact sO)
  refine aC [] (nf (-n) (-d) (by omega) (by omega)) ?_
  repeat(with_reducible apply And.intro;exact sO)
  refine aC [] (cE ⟨(-n).tdiv (Int.gcd (-n) (-d)),(-d).tdiv (Int.gcd (-n) (-d))⟩) ?_
  cases h2:aS ⟨(-n).tdiv (Int.gcd (-n) (-d)),(-d).tdiv (Int.gcd (-n) (-d))⟩
  ·refine sA ?_
   refine ab ?_
   refine sA ?_
   rw[e,if_neg (by rw[h2];simp)]
   exact⟨⟨rfl,rfl⟩,rfl⟩
  ·refine sA ?_
   refine ab ?_
   refine sA ?_
   rw[e,if_pos h2]
   exact⟨⟨rfl,rfl⟩,rfl⟩
 ·exact nF n d (by omega) (by omega)
theorem Dt(n d:Int):C E.P 252 [iv n,iv d] [] (aO (.eZ [av (dp (oO n d).1),bv (oO n d).2]) []):=by
 refine gS (nt:=20) (rs:=[.cell 4 57,.tmp 5]) hm Tryz.func252 fun hl he hLB=>?_
 refine aC [] (b6 n (-1000000000) 1000000000) ?_
 cases g1:within n (-1000000000) 1000000000
 ·refine sA ?_
  refine ab ?_
  refine sA ?_
  all_goals(simp[oO,g1];done)
 ·refine sA ?_
  refine aC [] (b6 d (-1000000000) 1000000000) ?_
  cases g2:within d (-1000000000) 1000000000
  ·refine sA ?_
   refine ab ?_
   refine sA ?_
   all_goals(simp[oO,g1,g2];done)
  ·have h1:=bu.1 g1
   have h2:=bu.1 g2
   refine sA ?_
   refine aC [] (u6 n d h1 h2) ?_
   refine ab ?_
   refine sA ?_
   all_goals(simp[oO,g1,g2];done)
theorem Ah(a b:Mod.Rat):C E.P 219 [av (dp a),av (dp b)] [] (aO (.eZ [av (dp (oQ a b).1),bv (oQ a b).2]) []):=by
 refine gS (nt:=22) (rs:=[.cell 4 57,.tmp 5]) hm Tryz.func219 fun hl he hLB=>?_
 refine aC [] (jf a b) ?_
 cases g1:(c7 a b).2
 ·refine sA ?_
  refine ab ?_
  refine sA ?_
  all_goals(simp[oQ,g1];done)
 ·refine sA ?_
  refine aC [] (mr (c7 a b).1 ⟨1,2⟩) ?_
  refine ab ?_
  refine sA ?_
  all_goals(simp[oQ,g1];done)
theorem ot(n:Mod.Rat):C E.P 132 [av (dp n)] [] (aO (bv (!aS n)) []):=by
 refine gS (nt:=6) (rs:=[.tmp 2]) hm Tryz.func132 fun hl he hLB=>?_
 refine aC [] (cE n) ?_
 refine ab ?_
 exact sC
theorem jY(aw:List Mod.Rat):C E.P 58 [lv (aM aw)] [] (aO (bv (kM aw)) []):=by
 refine gS (nt:=11) (rs:=[.tmp 2]) hm Tryz.func58 fun hl he hLB=>?_
 rcases Classical.em ((aw.length:Int)=4) with h|h
 ·have h':aw.length=4:=by omega
  have k:=eq_true h
  simp -implicitDefEqProofs only[go_sem,k]
  refine aC [] (kZ 132 [] rfl (fun n=>!aS n) aw (fun n _=>ot n)) ?_
  refine ab ?_
  refine sA ?_
  all_goals(simp[kM,h',List.all_eq_not_any_not];done)
 ·have h':¬aw.length=4:=by omega
  simp -implicitDefEqProofs only[go_sem,h]
  refine ab ?_
  refine sA ?_
  all_goals(simp[kM,h'];done)
theorem Km{aw:List Mod.Rat}(h:kM aw=true):aw.length=4:=by
 simp only[kM,Bool.and_eq_true,decide_eq_true_eq] at h
 exact h.1
theorem Dm(l:eQ)(aw:List Mod.Rat):C E.P 59 [av (cX l),lv (aM aw)] [] (aO (.eZ [bv ((lQ l aw).getD false),bv (lQ l aw).isSome]) []):=by
 refine gS (nt:=48) (rs:=[.tmp 4,.tmp 5]) hm Tryz.func59 fun hl he hLB=>?_
 refine aC [] (cJ l) ?_
 cases g1:bR l
 ·refine sA ?_
  refine ab ?_
  refine sA ?_
  all_goals(simp[lQ,g1];done)
 ·refine sA ?_
  refine aC [] (jY aw) ?_
  cases g2:kM aw
  ·refine sA ?_
   refine ab ?_
   refine sA ?_
   all_goals(simp[lQ,g1,g2];done)
  ·obtain⟨hn1,hc1,hb1⟩:=fy.1 g1
   have hv:=Km g2
   have e:lQ l aw=(eu l.an aw (whole 0)).map fun x=>below x l.bound l.strict:=by simp[lQ,g1,g2]
   refine sA ?_
   refine aC [] (bE 0) ?_
   refine bQ hm (fun(i:Nat) (sum:Mod.Rat)=> i≤l.an.length∧eu l.an aw (whole 0)=eu (l.an.drop i) (aw.drop i) sum) (fun(i:Nat) (sum:Mod.Rat)=> ⟨b9 48 .any [(1,lv (aM aw)),(2,.ptr 0 0),(6,.ptr 1 0),(21,lv (aJ l.an)),(22,iv l.an.length),(23,iv i)],[some (.box (bn (cX l))),some (.box (bn (dp sum)))]⟩) (fun(i:Nat) (sum:Mod.Rat)=> l.an.length-i) (0) (whole 0) ?_ (ah [some 0,some 1] ?_ ?_ rfl rfl) ?_
   rotate_left
   ·exact sC
   ·exact sC
   rotate_left
   ·simp
   ·rintro i sum ⟨hi,hg⟩
    rcases Classical.em (i<l.an.length) with h1|h1
    ·have h2:i<aw.length:=by omega
     rw[Ep h1 h2] at hg
     simp -implicitDefEqProofs only[go_sem,h1,h2]
     refine aC [] (pD sum l.an[i] aw[i]) ?_
     refine iK ?_
     cases h3:(plus sum l.an[i] aw[i]).2
     ·rw[h3] at hg
      simp only[Bool.false_eq_true,if_false] at hg
      rw[hg] at e
      refine sA ?_
      refine ab ?_
      refine sA ?_
      all_goals(simp[e];done)
     ·rw[h3] at hg
      simp only[if_true] at hg
      refine sA ?_
      repeat(with_reducible apply And.intro;exact sO)
      refine⟨i+1,(plus sum l.an[i] aw[i]).1,?_,?_,ah [some 0,some 1] ?_ ?_ rfl rfl⟩
      rotate_left
      ·show _ < _
       omega
      ·exact sC
      ·exact sC
      exact⟨by omega,hg⟩
    ·rw[List.drop_of_length_le (by omega),nq] at hg
     rw[hg] at e
     simp -implicitDefEqProofs only[go_sem,h1]
     refine aC [] (sF sum l.bound l.strict) ?_
     refine ab ?_
     refine sA ?_
     all_goals(simp[e];done)
theorem qU(ls:List eQ)(aw:List Mod.Rat):C E.P 24 [lv (bh ls),lv (aM aw)] [] (aO (bv (fR ls aw)) []):=by
 refine gS (nt:=36) (rs:=[.tmp 4]) hm Tryz.func24 fun hl he hLB=>?_
 refine aC [] (gC ls) ?_
 cases g1:dC ls
 ·refine sA ?_
  refine ab ?_
  refine sA ?_
  all_goals(simp[fR,g1];done)
 ·refine sA ?_
  refine aC [] (jY aw) ?_
  cases g2:kM aw
  ·refine sA ?_
   refine ab ?_
   refine sA ?_
   all_goals(simp[fR,g1,g2];done)
  ·have e:fR ls aw=ls.all fun l=>decide (lQ l aw=some true):=by simp[fR,g1,g2]
   refine sA ?_
   refine au hm (fun(i:Nat)=> i≤ls.length∧fR ls aw=(ls.drop i).all fun l=>decide (lQ l aw=some true)) (fun(i:Nat)=> ⟨b9 36 .any [(1,lv (aM aw)),(17,lv (bh ls)),(18,iv ls.length),(19,iv i)],[]⟩) (fun(i:Nat)=> ls.length-i) (0) ?_ (ah [] ?_ ?_ rfl rfl) ?_
   rotate_left
   ·exact sC
   ·exact sC
   rotate_left
   ·simp[e]
   ·rintro i ⟨hi,hg⟩
    rcases Classical.em (i<ls.length) with h1|h1
    ·rw[List.drop_eq_getElem_cons h1,List.all_cons] at hg
     simp -implicitDefEqProofs only[go_sem,h1]
     refine aC [] (Dm ls[i] aw) ?_
     cases h2:lQ ls[i] aw with
     | none=>
       rw[h2] at hg
       simp -implicitDefEqProofs only[go_sem,Option.isSome_none,Option.getD_none]
       refine ab ?_
       refine sA ?_
       all_goals(simp[hg];done)
     | some b=>
       rw[h2] at hg
       cases b
       ·simp -implicitDefEqProofs only[go_sem,Option.isSome_some,Option.getD_some]
        refine ab ?_
        refine sA ?_
        all_goals(simp[hg];done)
       ·simp -implicitDefEqProofs only[go_sem,Option.isSome_some,Option.getD_some]
        repeat(with_reducible apply And.intro;exact sO)
        refine⟨i+1,?_,?_,ah [] ?_ ?_ rfl rfl⟩
        rotate_left
        ·show _ < _
         omega
        ·exact sC
        ·exact sC
        refine⟨by omega,?_⟩
        rw[hg];simp
    ·rw[List.drop_of_length_le (by omega),List.all_nil] at hg
     simp -implicitDefEqProofs only[go_sem,h1]
     refine ab ?_
     refine sA ?_
     all_goals(simp[hg];done)
def SP(r:bC):List T:=[.leaf (.bx (aJ r.lx.an)),.leaf (.val (.int .i64 r.lx.bound)),.leaf (.val (.bool r.lx.strict)),.own 3 (qt r.fI)]
def uT(l:List bC):List (List T):=l.map SP
theorem Hv:∀(l:List bC),aW (uT l)=some (cd l)
 | []=>rfl
 | s::l=>by
   have:=Hv l
   simp only[uT,List.map_cons] at this⊢
   simp[aW,b8,T.yG,SP,xN,this,cd,cU]
theorem NN(l:List bC):(uT l).length=l.length:=by simp[uT]
theorem QO(l:List bC)(t:bC):uT l++[SP t]=uT (l++[t]):=by simp[uT]
theorem RR(l:List bC):(aW (uT l)).isSome=true:=by rw[Hv];rfl
attribute [go_sem] Hv NN
theorem G0{n i:Nat}(h:i<n):(aJ (List.replicate n 0)).set i [.val (.int .i64 1)]=aJ (oo n i):=by
 rw[oo,←vp (by simpa using h)]
theorem Gm{n i:Nat}(h:i<n):lift ((aJ (List.replicate n 0)).set i (mg (row (aJ (List.replicate n 0)) i) 0 [.val (.int .i64 1)]))=qt (oo n i):=by
 have e:mg (row (aJ (List.replicate n 0)) i) 0 [.val (.int .i64 1)]=[D.val (.int .i64 1)]:=by
  rw[uO (by simpa using h)]
  simp[mg]
 rw[e,G0 h,rC]
theorem Jj{ls:List eQ}{i:Nat}(h:i<ls.length):uT ((List.range i).map fun i=>⟨ls.getD i jE,oo ls.length i⟩)++[[.leaf (.bx (aJ ls[i].an)),.leaf (.val (.int .i64 ls[i].bound)),.leaf (.val (.bool ls[i].strict)),.own 3 (qt (oo ls.length i))]]=uT ((List.range i++[i]).map fun i=>⟨ls.getD i jE,oo ls.length i⟩):=by
 rw[List.map_append,List.map_singleton,dN h,←QO]
 rfl
theorem wZ(ls:List eQ)(hl:ls.length≤100):C E.P 159 [lv (bh ls)] [] (aO (lv (cd (aR ls))) []):=by
 refine gS (nt:=28) (rs:=[.tmp 2]) hm Tryz.func159 fun hl he hLB=>?_
 refine au hm (fun(i:Nat)=> i≤ls.length) (fun(i:Nat)=> ⟨b9 28 .any [(0,lv (bh ls)),(3,.acc 0),(7,lv (bh ls)),(8,iv ls.length),(9,iv i)],[some (.bM 225 (uT ((List.range i).map fun i=>⟨ls.getD i jE,oo ls.length i⟩)))]⟩) (fun(i:Nat)=> ls.length-i) (0) ?_ (ah [none] ?_ ?_ rfl rfl) ?_
 rotate_left
 ·exact sC
 ·refine sA ?_
  all_goals(rfl)
 rotate_left
 ·omega
 ·rintro i hi
  have hp:(uT ((List.range i).map fun i=>(⟨ls.getD i jE,oo ls.length i⟩:bC))).length=i:=by rw[NN];simp
  rcases Classical.em (i<ls.length) with h1|h1
  ·have hz:List.replicate ls.length ([D.val (Value.int .i64 0)]:List D)=aJ (List.replicate ls.length 0):=by simp[aJ]
   simp -implicitDefEqProofs only[go_sem,h1]
   repeat(with_reducible apply And.intro;exact sO)
   simp -implicitDefEqProofs only[go_sem,hz]
   refine⟨i+1,?_,?_,xZ 4 i _ rfl (by rw[List.length_append,hp];simp) (ug hp) ?_⟩
   rotate_left
   ·show _ < _
    omega
   ·refine sA ?_
    refine ah [some 4] ?_ ?_ rfl rfl
    ·exact sC
    ·refine sA ?_
     all_goals(rw[tX hp,Gm h1];exact⟨Jj h1,(congrArg (fun z=>(aW z).isSome) (Jj h1)).trans (RR _)⟩)
   exact h1
  ·simp -implicitDefEqProofs only[go_sem,h1]
   refine ab ?_
   refine sA ?_
   obtain rfl:i=ls.length:=by omega
   exact⟨_,rfl,rfl⟩
theorem Av(n v:Nat)(a b:bC)(ha:Eb n a)(hb:Eb n b)(hn:n≤100)(hv:v<4)(h1:0<bf a v)(h2:bf b v<0):C E.P 215 [av (cU a),av (cU b),iv v] [] (aO (.eZ [av (cU (FA a b v)),bv (u7 a b v)]) []):=by
 have ca:=ha.O3 v
 have cb:=hb.O3 v
 obtain⟨⟨hg1,hg2⟩,⟨hp1,hp2⟩,⟨hq1,hq2⟩⟩:=Iy ha hb h1 h2
 have la:v<a.lx.an.length:=by rw[(fy.1 ha.lx).1];exact hv
 have lb:v<b.lx.an.length:=by rw[(fy.1 hb.lx).1];exact hv
 have ea:a.lx.an[v]=bf a v:=(dN la).symm
 have eb:b.lx.an[v]=bf b v:=(dN lb).symm
 have hal:=ha.len
 have hbl:=hb.len
 have eg:(Int.gcd (bf a v) (-(bf b v)):Int)=ue a b v:=rfl
 have ep:(bf a v).tdiv (ue a b v)=oI a b v:=rfl
 have eq:(-(bf b v)).tdiv (ue a b v)=pH a b v:=rfl
 have e1:FA a b v=⟨(cS a.lx (pH a b v) b.lx (oI a b v)).1,pK a b v⟩:=rfl
 have e2:u7 a b v=((cS a.lx (pH a b v) b.lx (oI a b v)).2&&(pK a b v).all fun n=>decide (n≤1000000)):=rfl
 have e3:pK a b v=comb (pH a b v) (oI a b v) a.fI b.fI:=rfl
 generalize ue a b v=g at *
 generalize oI a b v=p at *
 generalize pH a b v=q at *
 refine gS (nt:=85) (rs:=[.cell 6 225,.tmp 7]) hm Tryz.func215 fun hl he hLB=>?_
 simp -implicitDefEqProofs only[go_sem,la,lb,ea,eb]
 repeat(with_reducible apply And.intro;exact sO)
 refine cL [] (nf (bf a v) (-(bf b v)) (by omega) (by omega)) ?_ ?_<;>simp -implicitDefEqProofs only[go_sem,eg]
 repeat(with_reducible apply And.intro;exact sO)
 simp -implicitDefEqProofs only[go_sem,ep,eq]
 refine aC [] (qL a.lx q b.lx p) ?_
 obtain⟨l,hl⟩:∃l,(cS a.lx q b.lx p).1=l:=⟨_,rfl⟩
 obtain⟨ok,hok⟩:∃l,(cS a.lx q b.lx p).2=l:=⟨_,rfl⟩
 rw[hl] at e1
 rw[hok] at e2
 simp -implicitDefEqProofs only[go_sem,hl,hok]
 refine bQ hm (fun(i:Nat) (o:Bool)=> i≤n∧o=(ok&&(comb q p (a.fI.take i) (b.fI.take i)).all fun n=>decide (n≤1000000))) (fun(i:Nat) (o:Bool)=> ⟨b9 85 .any [(3,.ptr 0 0),(4,.ptr 1 0),(6,.ptr 2 0),(8,iv p),(9,iv q),(12,bv o),(13,.ptr 3 0),(52,iv n),(53,iv i)],[some (.box (bn (cU a))),some (.box (bn (cU b))),some (.box (bn (cU ⟨jE,[]⟩))),some (.box [lv (aJ l.an),iv l.bound,bv l.strict,.acc 4]),some (.acc 3 (aJ (comb q p (a.fI.take i) (b.fI.take i))))]⟩) (fun(i:Nat) (o:Bool)=> n-i) (0) (ok) ?_ (ah [some 0,some 1,some 2,some 4,none] ?_ ?_ rfl rfl) ?_
 rotate_left
 ·refine sA ?_
  all_goals(simp[*])
 ·refine sA ?_
  all_goals(simp[comb, *])
 rotate_left
 ·simp[comb]
 ·rintro i o ⟨hi,ho⟩
  rcases Classical.em (i<n) with h3|h3
  ·have h4:i<a.fI.length:=by omega
   have h5:i<b.fI.length:=by omega
   have b1:=ha.bd a.fI[i] (List.getElem_mem h4)
   have b2:=hb.bd b.fI[i] (List.getElem_mem h5)
   have m1:=cK (m:=q) (b:=a.fI[i]) (by omega) hq2 (by omega)
   have m2:=cK (m:=p) (b:=b.fI[i]) (by omega) hp2 (by omega)
   have hlen:(comb q p (a.fI.take i) (b.fI.take i)).length≤100:=by rw[jA (by simp;omega)];simp;omega
   have ho2:(ok&&(comb q p (a.fI.take (i+1)) (b.fI.take (i+1))).all fun n=>decide (n≤1000000))=(o&&decide (q*a.fI[i]+p*b.fI[i]≤1000000)):=by
    rw[ho,dg h4 h5,List.all_append,←Bool.and_assoc]
    simp
   cases o
   ·simp -implicitDefEqProofs only[go_sem,h3,h4,h5]
    repeat(with_reducible apply And.intro;exact sO)
    refine⟨i+1,false,?_,?_,ah [some 0,some 1,some 2,some 3,some 5] ?_ ?_ rfl rfl⟩
    rotate_left
    ·show _ < _
     omega
    ·exact sC
    ·refine sA ?_
     all_goals((rw[dg h4 h5,←cm];rfl))
    exact⟨h3,by rw[ho2];rfl⟩
   ·simp -implicitDefEqProofs only[go_sem,h3,h4,h5]
    repeat(with_reducible apply And.intro;exact sO)
    refine⟨i+1,(decide (q*a.fI[i]+p*b.fI[i]≤1000000)),?_,?_,ah [some 0,some 1,some 2,some 3,some 5] ?_ ?_ rfl rfl⟩
    rotate_left
    ·show _ < _
     omega
    ·exact sC
    ·refine sA ?_
     all_goals((rw[dg h4 h5,←cm];rfl))
    exact⟨h3,by rw[ho2];simp⟩
  ·have ta:a.fI.take i=a.fI:=List.take_of_length_le (by omega)
   have tb:b.fI.take i=b.fI:=List.take_of_length_le (by omega)
   rw[ta,tb,←e3] at ho⊢
   rw[←e2] at ho
   simp -implicitDefEqProofs only[go_sem,h3]
   refine ab ?_
   refine sA ?_
   rw[e1,ho]
   repeat' apply And.intro
   all_goals rfl
end Go.Proofs.YtpidddienjoleaaGreat
namespace Go.Proofs.YtpidddienjoleaaGreat
open Go.Eng Go.Mod
open Int renaming reduceEq→Z1,reduceLT→Z2,reduceLE→Z3,reduceToNat→Z4
set_option maxRecDepth 100000
set_option maxHeartbeats 800000
theorem sy{n v:Nat}{r:bC}(h:Eb n r)(hv:v<4):∃h:v<r.lx.an.length,r.lx.an[v]=bf r v:=by
 have la:v<r.lx.an.length:=by rw[(fy.1 h.lx).1];exact hv
 exact⟨la,(dN la).symm⟩
theorem lX(n v:Nat)(rows:List bC)(hr:GV n rows)(hn:n≤100)(hv:v<4):C E.P 160 [lv (cd rows),iv v] [] (aO (.eZ [lv (cd ((fH rows v).getD [])),bv (fH rows v).isSome]) []):=by
 obtain⟨hlen,hall⟩:=hr
 refine gS (nt:=85) (rs:=[.tmp 4,.tmp 5]) hm Tryz.func160 fun hl he hLB=>?_
 refine au hm (fun(i:Nat)=> i≤rows.length) (fun(i:Nat)=> ⟨b9 85 .any [(0,lv (cd rows)),(1,iv v),(6,.acc 0),(15,lv (cd rows)),(16,iv rows.length),(17,iv i)],[some (.acc 225 (cd ((rows.take i).filter fun r=>decide (bf r v=0))))]⟩) (fun(i:Nat)=> rows.length-i) (0) ?_ (ah [none] ?_ ?_ rfl rfl) ?_
 rotate_left
 ·exact sC
 ·refine sA ?_
  all_goals(rfl)
 rotate_left
 ·omega
 ·rintro i hi
  have hfl:((rows.take i).filter fun r=>decide (bf r v=0)).length≤200:=by
   have:=List.length_filter_le (fun r:bC=>decide (bf r v=0)) (rows.take i)
   rw[List.length_take] at this
   omega
  rcases Classical.em (i<rows.length) with h1|h1
  ·obtain⟨la,ea⟩:=sy (hall rows[i] (List.getElem_mem h1)) hv
   have hs:=FJ (p:=fun r:bC=>decide (bf r v=0)) h1
   rcases Classical.em (bf rows[i] v=0) with h2|h2
   ·have k2:=eq_true h2
    rw[if_pos (by simpa using h2)] at hs
    simp -implicitDefEqProofs only[go_sem,h1,la,ea,k2]
    repeat(with_reducible apply And.intro;exact sO)
    refine⟨i+1,?_,?_,ah [some 2] ?_ ?_ rfl rfl⟩
    rotate_left
    ·show _ < _
     omega
    ·exact sC
    ·refine sA ?_
     all_goals((rw[hs,←AP,yS,uD];rfl))
    exact h1
   ·rw[if_neg (by simpa using h2),List.append_nil] at hs
    simp -implicitDefEqProofs only[go_sem,h1,la,ea,h2]
    repeat(with_reducible apply And.intro;exact sO)
    refine⟨i+1,?_,?_,ah [some 0] ?_ ?_ rfl rfl⟩
    rotate_left
    ·show _ < _
     omega
    ·exact sC
    ·refine sA ?_
     all_goals((rw[hs]))
    exact h1
  ·have et:rows.take i=rows:=List.take_of_length_le (by omega)
   rw[et] at hfl⊢
   obtain⟨out0,ho0⟩:∃o,(rows.filter fun r=>decide (bf r v=0))=o:=⟨_,rfl⟩
   have hL:fH rows v=iG v (nD rows rows v) out0:=by rw[←ho0];rfl
   rw[ho0] at hfl⊢
   simp -implicitDefEqProofs only[go_sem,h1]
   clear hi h1
   refine bQ hm (fun(i:Nat) (out:List bC)=> i≤rows.length∧out.length≤200∧fH rows v=iG v (nD rows (rows.drop i) v) out) (fun(i:Nat) (out:List bC)=> ⟨b9 85 .any [(0,lv (cd rows)),(1,iv v),(6,.acc 0),(33,lv (cd rows)),(34,iv rows.length),(35,iv i)],[some (.acc 225 (cd out))]⟩) (fun(i:Nat) (out:List bC)=> rows.length-i) (0) (out0) ?_ (ah [some 0] ?_ ?_ rfl rfl) ?_
   rotate_left
   ·exact sC
   ·exact sC
   rotate_left
   ·exact⟨Nat.zero_le _,hfl,hL⟩
   ·rintro i out ⟨hi,ho,hg⟩
    rcases Classical.em (i<rows.length) with h1|h1
    ·have ua:=hall rows[i] (List.getElem_mem h1)
     rw[EU h1] at hg
     obtain⟨a,ha⟩:∃a,rows[i]=a:=⟨_,rfl⟩
     rw[ha] at ua hg
     obtain⟨la,ea⟩:=sy ua hv
     simp -implicitDefEqProofs only[go_sem,h1,ha]
     refine bQ hm (fun(j:Nat) (out:List bC)=> j≤rows.length∧out.length≤200∧fH rows v=iG v (nb a v (rows.drop j)++nD rows (rows.drop (i+1)) v) out) (fun(j:Nat) (out:List bC)=> ⟨b9 85 .any [(0,lv (cd rows)),(1,iv v),(6,.acc 0),(10,.ptr 1 0),(33,lv (cd rows)),(34,iv rows.length),(35,iv i),(39,lv (cd rows)),(40,iv rows.length),(41,iv j)],[some (.acc 225 (cd out)),some (.box (bn (cU a)))]⟩) (fun(j:Nat) (out:List bC)=> rows.length-j) (0) (out) ?_ (ah [some 0,some 1] ?_ ?_ rfl rfl) ?_
     rotate_left
     ·exact sC
     ·exact sC
     rotate_left
     ·exact⟨Nat.zero_le _,ho,hg⟩
     ·rintro j out ⟨hj,ho,hg⟩
      rcases Classical.em (j<rows.length) with h3|h3
      ·have ub:=hall rows[j] (List.getElem_mem h3)
       rw[Ej h3] at hg
       obtain⟨b,hb⟩:∃b,rows[j]=b:=⟨_,rfl⟩
       rw[hb] at ub hg
       obtain⟨lb,eb⟩:=sy ub hv
       rcases Classical.em (bf a v≤0) with h4|h4
       ·rw[if_neg (by omega),List.nil_append] at hg
        simp -implicitDefEqProofs only[go_sem,h3,la,ea,h4,hb]
        repeat(with_reducible apply And.intro;exact sO)
        refine⟨j+1,out,?_,?_,ah [some 0,some 1] ?_ ?_ rfl rfl⟩
        rotate_left
        ·show _ < _
         omega
        ·exact sC
        ·exact sC
        exact⟨by omega,ho,hg⟩
       rcases Classical.em (0≤bf b v) with h5|h5
       ·rw[if_neg (by omega),List.nil_append] at hg
        simp -implicitDefEqProofs only[go_sem,h3,la,ea,h4,hb,lb,eb,h5]
        repeat(with_reducible apply And.intro;exact sO)
        refine⟨j+1,out,?_,?_,ah [some 0,some 1] ?_ ?_ rfl rfl⟩
        rotate_left
        ·show _ < _
         omega
        ·exact sC
        ·exact sC
        exact⟨by omega,ho,hg⟩
       ·rw[if_pos (by omega)] at hg
        simp only[List.cons_append,List.nil_append,iG] at hg
        simp -implicitDefEqProofs only[go_sem,h3,la,ea,h4,hb,lb,eb,h5]
        refine aC [] (Av n v a b ua ub hn hv (by omega) (by omega)) ?_
        cases h6:u7 a b v
        ·rw[if_neg (by rw[h6];simp)] at hg
         refine sA ?_
         refine ab ?_
         refine sA ?_
         rw[hg]
         ((repeat' apply And.intro)<;>rfl)
        ·rcases Classical.em ((out.length:Int)=200) with h7|h7
         ·have k7:=eq_true h7
          rw[if_neg (by omega)] at hg
          simp -implicitDefEqProofs only[go_sem,k7]
          refine ab ?_
          refine sA ?_
          rw[hg]
          ((repeat' apply And.intro)<;>rfl)
         ·rw[if_pos ⟨h6,by omega⟩] at hg
          simp -implicitDefEqProofs only[go_sem,h7]
          repeat(with_reducible apply And.intro;exact sO)
          refine⟨j+1,out++[FA a b v],?_,?_,ah [some 4,some 1] ?_ ?_ rfl rfl⟩
          rotate_left
          ·show _ < _
           omega
          ·exact sC
          ·refine sA ?_
           all_goals((rw[←AP,yS,uD];rfl))
          exact⟨by omega,by simp;omega,hg⟩
      ·rw[List.drop_of_length_le (by omega:rows.length≤j)] at hg
       simp -implicitDefEqProofs only[go_sem,h3]
       repeat(with_reducible apply And.intro;exact sO)
       refine⟨i+1,out,?_,?_,ah [some 0] ?_ ?_ rfl rfl⟩
       rotate_left
       ·show _ < _
        omega
       ·exact sC
       ·exact sC
       exact⟨by omega,ho,by simpa[nb] using hg⟩
    ·rw[List.drop_of_length_le (by omega)] at hg
     have ho':(out.length:Int)≤200:=by omega
     simp -implicitDefEqProofs only[go_sem,h1,ho']
     refine ab ?_
     refine sA ?_
     rw[hg]
     ((repeat' apply And.intro)<;>rfl)
theorem xV(v:Nat)(l:eQ)(aw:List Mod.Rat)(hl:bR l=true)(h4:aw.length=4)(hv:v<4):C E.P 218 [av (cX l),iv v,lv (aM aw)] [] (aO (.eZ [av (dp ((iE l v aw).getD jx)),bv (iE l v aw).isSome]) []):=by
 obtain⟨hn1,hc1,hb1⟩:=fy.1 hl
 have lv1:v<l.an.length:=by omega
 have ev:l.an.getD v 0=l.an[v]:=dN lv1
 refine gS (nt:=62) (rs:=[.cell 6 57,.tmp 7]) hm Tryz.func218 fun hl he hLB=>?_
 refine aC [] (bE l.bound) ?_
 refine bQ hm (fun(i:Nat) (sum:Mod.Rat)=> i≤l.an.length∧mE v 0 l.an aw (whole l.bound)=mE v i (l.an.drop i) (aw.drop i) sum) (fun(i:Nat) (sum:Mod.Rat)=> ⟨b9 62 .any [(1,iv v),(2,lv (aM aw)),(3,.ptr 0 0),(6,.ptr 1 0),(8,.ptr 2 0),(19,lv (aJ l.an)),(20,iv l.an.length),(21,iv i)],[some (.box (bn (cX l))),some (.box (bn (dp jx))),some (.box (bn (dp sum)))]⟩) (fun(i:Nat) (sum:Mod.Rat)=> l.an.length-i) (0) (whole l.bound) ?_ (ah [some 0,some 1,some 2] ?_ ?_ rfl rfl) ?_
 rotate_left
 ·exact sC
 ·exact sC
 rotate_left
 ·simp
 ·rintro i sum ⟨hi,hg⟩
  rcases Classical.em (i<l.an.length) with h1|h1
  ·have h2:i<aw.length:=by omega
   rw[Fa h1 h2] at hg
   rcases Classical.em (i=v) with h3|h3
   ·have k3:((i:Int)=(v:Int))=True:=eq_true (by omega)
    rw[if_pos h3] at hg
    simp -implicitDefEqProofs only[go_sem,h1,k3]
    repeat(with_reducible apply And.intro;exact sO)
    refine⟨i+1,sum,?_,?_,ah [some 0,some 1,some 2] ?_ ?_ rfl rfl⟩
    rotate_left
    ·show _ < _
     omega
    ·exact sC
    ·exact sC
    exact⟨by omega,hg⟩
   ·have k3:¬ (i:Int)=(v:Int):=by omega
    have cb:=hc1 l.an[i] (List.getElem_mem h1)
    rw[if_neg h3] at hg
    simp -implicitDefEqProofs only[go_sem,h1,h2,k3]
    repeat(with_reducible apply And.intro;exact sO)
    refine aC [] (pD sum (-l.an[i]) aw[i]) ?_
    refine iK ?_
    cases h5:(plus sum (-l.an[i]) aw[i]).2
    ·rw[h5] at hg
     simp only[Bool.false_eq_true,if_false] at hg
     have e:iE l v aw=none:=by simp[iE,hg]
     refine sA ?_
     refine ab ?_
     refine sA ?_
     all_goals(simp[e];done)
    ·rw[h5] at hg
     simp only[if_true] at hg
     refine sA ?_
     repeat(with_reducible apply And.intro;exact sO)
     refine⟨i+1,(plus sum (-l.an[i]) aw[i]).1,?_,?_,ah [some 0,some 1,some 2] ?_ ?_ rfl rfl⟩
     rotate_left
     ·show _ < _
      omega
     ·exact sC
     ·exact sC
     exact⟨by omega,hg⟩
  ·rw[List.drop_of_length_le (by omega),FX] at hg
   simp -implicitDefEqProofs only[go_sem,h1,lv1]
   refine aC [] (Dt 1 l.an[v]) ?_
   cases h5:(oO 1 l.an[v]).2
   ·have e:iE l v aw=none:=by simp[iE,hg,h5,lv1]
    refine sA ?_
    refine ab ?_
    refine sA ?_
    all_goals(simp[e];done)
   ·have e:iE l v aw=HJ (dh sum (oO 1 l.an[v]).1):=by simp[iE,hg,h5,lv1]
    refine sA ?_
    refine aC [] (mr sum (oO 1 l.an[v]).1) ?_
    obtain⟨o1,o2⟩:=A0 (x:=dh sum (oO 1 l.an[v]).1) vM
    refine ab ?_
    refine sA ?_
    rw[e,o1,o2]
    ((repeat' apply And.intro)<;>rfl)
theorem iA(n v:Nat)(rows:List bC)(aw:List Mod.Rat)(hr:GV n rows)(h4:aw.length=4)(hv:v<4):C E.P 163 [lv (cd rows),iv v,lv (aM aw)] [] (aO (.eZ [av (dp ((valueOf rows v aw).getD jx)),bv (valueOf rows v aw).isSome]) []):=by
 obtain⟨hlen,hall⟩:=hr
 refine gS (nt:=95) (rs:=[.cell 6 57,.tmp 7]) hm Tryz.func163 fun hl he hLB=>?_
 refine ie hm (fun(i:Nat) (lo:Option Mod.Rat) (hi:Option Mod.Rat)=> i≤rows.length∧jO v aw rows none none=jO v aw (rows.drop i) lo hi) (fun(i:Nat) (lo:Option Mod.Rat) (hi:Option Mod.Rat)=> ⟨b9 95 .any [(1,iv v),(2,lv (aM aw)),(6,.ptr 0 0),(8,.ptr 1 0),(9,.ptr 2 0),(10,bv lo.isSome),(11,bv hi.isSome),(17,lv (cd rows)),(18,iv rows.length),(19,iv i)],[some (.box (bn (dp jx))),some (.box (bn (dp (lo.getD jx)))),some (.box (bn (dp (hi.getD jx))))]⟩) (fun(i:Nat) (lo:Option Mod.Rat) (hi:Option Mod.Rat)=> rows.length-i) (0) (none) (none) ?_ (ah [some 0,some 1,some 2] ?_ ?_ rfl rfl) ?_
 rotate_left
 ·refine sA ?_
  all_goals(simp[*];done)
 ·refine sA ?_
  all_goals(simp[*];done)
 rotate_left
 ·simp
 ·rintro i lo hi ⟨hi1,hg⟩
  rcases Classical.em (i<rows.length) with h1|h1
  ·have ua:=hall rows[i] (List.getElem_mem h1)
   obtain⟨la,ea⟩:=sy ua hv
   rw[DV h1] at hg
   rcases Classical.em (bf rows[i] v=0) with h2|h2
   ·have k2:=eq_true h2
    rw[if_pos h2] at hg
    simp -implicitDefEqProofs only[go_sem,h1,la,ea,k2]
    repeat(with_reducible apply And.intro;exact sO)
    refine⟨i+1,lo,hi,?_,?_,ah [some 0,some 1,some 2] ?_ ?_ rfl rfl⟩
    rotate_left
    ·show _ < _
     omega
    ·exact sC
    ·exact sC
    exact⟨by omega,hg⟩
   ·rw[if_neg h2] at hg
    simp -implicitDefEqProofs only[go_sem,h1,la,ea,h2]
    refine aC [] (xV v rows[i].lx aw ua.lx h4 hv) ?_
    cases hb:iE rows[i].lx v aw with
    | none=>
      rw[hb] at hg
      simp only at hg
      have e:valueOf rows v aw=none:=by simp[valueOf,hg]
      simp -implicitDefEqProofs only[go_sem,Option.isSome_none,Option.getD_none]
      refine ab ?_
      refine sA ?_
      all_goals(simp[e];done)
    | some b=>
      rw[hb] at hg
      simp only at hg
      rcases Classical.em (0<bf rows[i] v) with h3|h3
      ·rw[if_pos h3] at hg
       have h3':¬bf rows[i] v<0:=by omega
       cases hi with
       | none=>
         rw[show lower b none=true from rfl,if_pos rfl] at hg
         simp -implicitDefEqProofs only[go_sem,Option.isSome_some,Option.getD_some,Option.isSome_none,Option.getD_none,h3]
         repeat(with_reducible apply And.intro;exact sO)
         refine⟨i+1,lo,some b,?_,?_,ah [some 0,some 1,some 2] ?_ ?_ rfl rfl⟩
         rotate_left
         ·show _ < _
          omega
         ·exact sC
         ·refine sA ?_
          all_goals(simp[*];done)
         exact⟨by omega,hg⟩
       | some h=>
         rw[show lower b (some h)=bD b h from rfl] at hg
         simp -implicitDefEqProofs only[go_sem,Option.isSome_some,Option.getD_some,h3]
         refine aC [] (eS b h) ?_
         cases h5:bD b h
         ·rw[h5,if_neg (by simp)] at hg
          simp -implicitDefEqProofs only[go_sem,h3']
          repeat(with_reducible apply And.intro;exact sO)
          refine⟨i+1,lo,some h,?_,?_,ah [some 0,some 1,some 2] ?_ ?_ rfl rfl⟩
          rotate_left
          ·show _ < _
           omega
          ·exact sC
          ·refine sA ?_
           all_goals(simp[*];done)
          exact⟨by omega,hg⟩
         ·rw[h5,if_pos rfl] at hg
          refine sA ?_
          repeat(with_reducible apply And.intro;exact sO)
          refine⟨i+1,lo,some b,?_,?_,ah [some 0,some 1,some 2] ?_ ?_ rfl rfl⟩
          rotate_left
          ·show _ < _
           omega
          ·exact sC
          ·refine sA ?_
           all_goals(simp[*];done)
          exact⟨by omega,hg⟩
      ·rw[if_neg h3] at hg
       have h3':bf rows[i] v<0:=by omega
       cases lo with
       | none=>
         rw[show upper b none=true from rfl,if_pos rfl] at hg
         simp -implicitDefEqProofs only[go_sem,Option.isSome_some,Option.getD_some,Option.isSome_none,Option.getD_none,h3,h3']
         repeat(with_reducible apply And.intro;exact sO)
         refine⟨i+1,some b,hi,?_,?_,ah [some 0,some 1,some 2] ?_ ?_ rfl rfl⟩
         rotate_left
         ·show _ < _
          omega
         ·exact sC
         ·refine sA ?_
          all_goals(simp[*];done)
         exact⟨by omega,hg⟩
       | some l=>
         rw[show upper b (some l)=bD l b from rfl] at hg
         simp -implicitDefEqProofs only[go_sem,Option.isSome_some,Option.getD_some,h3,h3']
         refine aC [] (eS l b) ?_
         cases h5:bD l b
         ·rw[h5,if_neg (by simp)] at hg
          refine sA ?_
          repeat(with_reducible apply And.intro;exact sO)
          refine⟨i+1,some l,hi,?_,?_,ah [some 0,some 1,some 2] ?_ ?_ rfl rfl⟩
          rotate_left
          ·show _ < _
           omega
          ·exact sC
          ·refine sA ?_
           all_goals(simp[*];done)
          exact⟨by omega,hg⟩
         ·rw[h5,if_pos rfl] at hg
          refine sA ?_
          repeat(with_reducible apply And.intro;exact sO)
          refine⟨i+1,some b,hi,?_,?_,ah [some 0,some 1,some 2] ?_ ?_ rfl rfl⟩
          rotate_left
          ·show _ < _
           omega
          ·exact sC
          ·refine sA ?_
           all_goals(simp[*];done)
          exact⟨by omega,hg⟩
  ·rw[List.drop_of_length_le (by omega),jO] at hg
   have e:valueOf rows v aw=HJ (tI lo hi):=by simp[valueOf,hg]
   obtain⟨o1,o2⟩:=A0 (x:=tI lo hi) CD
   rw[e,o1,o2]
   cases lo with
   | none=>
     cases hi with
     | none=>
       simp -implicitDefEqProofs only[go_sem,Option.isSome_none,Option.getD_none,h1]
       refine aC [] (bE 0) ?_
       refine ab ?_
       refine sA ?_
       ((repeat' apply And.intro)<;>rfl)
     | some h=>
       simp -implicitDefEqProofs only[go_sem,Option.isSome_none,Option.getD_none,Option.isSome_some,Option.getD_some,h1]
       refine aC [] (bE (-1)) ?_
       refine aC [] (jf h (whole (-1))) ?_
       refine iK ?_
       refine ab ?_
       refine sA ?_
       ((repeat' apply And.intro)<;>rfl)
   | some l=>
     cases hi with
     | none=>
       simp -implicitDefEqProofs only[go_sem,Option.isSome_none,Option.getD_none,Option.isSome_some,Option.getD_some,h1]
       refine aC [] (bE 1) ?_
       refine aC [] (jf l (whole 1)) ?_
       refine iK ?_
       refine ab ?_
       refine sA ?_
       ((repeat' apply And.intro)<;>rfl)
     | some h=>
       simp -implicitDefEqProofs only[go_sem,Option.isSome_some,Option.getD_some,h1]
       refine aC [] (Ah l h) ?_
       refine ab ?_
       refine sA ?_
       ((repeat' apply And.intro)<;>rfl)
structure SA where
 rows:List bC
 s0:List bC
 s1:List bC
 s2:List bC
 s3:List bC
def SS(ls:List eQ)(z:Int)(t:SA):Prop:=
 (z=3∧t=⟨aR ls,[],[],[],[]⟩)∨(z=2∧∃r2,fH (aR ls) 3=some r2∧t=⟨r2,[],[],[],aR ls⟩) ∨
 (z=1∧∃r2 r1,fH (aR ls) 3=some r2∧fH r2 2=some r1∧t=⟨r1,[],[],r2,aR ls⟩) ∨
 (z=0∧∃r2 r1 r0,fH (aR ls) 3=some r2∧fH r2 2=some r1∧fH r1 1=some r0∧t=⟨r0,[],r1,r2,aR ls⟩) ∨
 (z = -1∧∃r2 r1 r0 r,fH (aR ls) 3=some r2∧fH r2 2=some r1∧fH r1 1=some r0∧fH r0 0=some r∧t=⟨r,r0,r1,r2,aR ls⟩)
theorem Az(ls:List eQ):C E.P 91 [lv (bh ls)] [] (aO (.eZ [lv (aM (a7 ls).aw),lv (aJ (a7 ls).times),iv (a7 ls).code]) []):=by
 cases hsys:dC ls
 ·have e:a7 ls=⟨[],[],3⟩:=by simp[a7,hsys]
  refine gS (nt:=86) (rs:=[.tmp 2,.tmp 3,.tmp 4]) hm Tryz.func91 fun hl he hLB=>?_
  refine aC [] (gC ls) ?_
  simp -implicitDefEqProofs only[go_sem,hsys]
  refine ab ?_
  refine sA ?_
  rw[e]
  ((repeat' apply And.intro)<;>rfl)
 have h20:ls.length≤20:=by simp only[dC,Bool.and_eq_true,decide_eq_true_eq] at hsys;exact hsys.1
 have u3:=ET hsys
 have hLB:=vP
 refine AU (nt:=86) (rs:=[.tmp 2,.tmp 3,.tmp 4]) Tryz.func91 rfl rfl rfl rfl rfl (fun hl he=>?_)
 simp -implicitDefEqProofs only[go_sem] at hl he⊢
 refine gV (m0 hm ?_)
 simp -implicitDefEqProofs only[go_sem,ik,gE]
 refine gV (m0 hm ?_)
 refine sA ?_
 refine aC [] (gC ls) ?_
 simp -implicitDefEqProofs only[go_sem,hsys]
 refine gV (m0 hm ?_)
 refine sA ?_
 refine aC [] (wZ ls (by omega)) ?_
 refine gV (m0 hm ?_)
 refine sA ?_
 refine gV (m0 hm ?_)
 refine sA ?_
 refine bQ hm (fun(z:Int) (t:SA)=> SS ls z t) (fun(z:Int) (t:SA)=> ⟨b9 86 .any [(0,lv (bh ls)),(5,lv (cd t.rows)),(6,.ptr 0 0),(7,iv z)],[some (.box [lv (cd t.s0),lv (cd t.s1),lv (cd t.s2),lv (cd t.s3)])]⟩) (fun(z:Int) (t:SA)=> (z+1).toNat) (3) (⟨aR ls,[],[],[],[]⟩) ?_ (ah [some 0] ?_ ?_ rfl rfl) ?_
 rotate_left
 ·exact sC
 ·exact sC
 rotate_left
 ·exact .inl ⟨rfl,rfl⟩
 ·rintro z t hz
  rcases hz with⟨rfl,rfl⟩|⟨rfl,r2,g3,rfl⟩|⟨rfl,r2,r1,g3,g2,rfl⟩|⟨rfl,r2,r1,r0,g3,g2,g1,rfl⟩|⟨rfl,r2,r1,r0,rows,g3,g2,g1,g0,rfl⟩
  ·simp only
   have hu:=u3
   have cl:=lX ls.length 3 (aR ls) hu (by omega) (by omega)
   simp -implicitDefEqProofs only[go_sem,Z3,Z4]
   repeat(with_reducible apply And.intro;exact sO)
   refine aC [] cl ?_
   cases hl:fH (aR ls) 3 with
   | none=>
     have e:a7 ls=⟨[],[],2⟩:=by simp[a7, *]
     simp -implicitDefEqProofs only[go_sem,Option.isSome_none,Option.getD_none]
     refine bO ?_
     refine ab ?_
     refine sA ?_
     rw[e]
     ((repeat' apply And.intro)<;>rfl)
   | some r=>
     simp -implicitDefEqProofs only[go_sem,Option.isSome_some,Option.getD_some]
     repeat(with_reducible apply And.intro;exact sO)
     refine⟨(2:Int),⟨r,[],[],[],aR ls⟩,?_,?_,ah [some 0] ?_ ?_ rfl rfl⟩
     rotate_left
     ·show _ < _
      omega
     ·refine sA ?_
      all_goals(simp[*];done)
     ·exact sC
     exact .inr (.inl ⟨rfl,r,hl,rfl⟩)
  ·simp only
   have hu:=gq u3 g3
   have cl:=lX ls.length 2 r2 hu (by omega) (by omega)
   simp -implicitDefEqProofs only[go_sem,Z3,Z4]
   repeat(with_reducible apply And.intro;exact sO)
   refine aC [] cl ?_
   cases hl:fH r2 2 with
   | none=>
     have e:a7 ls=⟨[],[],2⟩:=by simp[a7, *]
     simp -implicitDefEqProofs only[go_sem,Option.isSome_none,Option.getD_none]
     refine bO ?_
     refine ab ?_
     refine sA ?_
     rw[e]
     ((repeat' apply And.intro)<;>rfl)
   | some r=>
     simp -implicitDefEqProofs only[go_sem,Option.isSome_some,Option.getD_some]
     repeat(with_reducible apply And.intro;exact sO)
     refine⟨(1:Int),⟨r,[],[],r2,aR ls⟩,?_,?_,ah [some 0] ?_ ?_ rfl rfl⟩
     rotate_left
     ·show _ < _
      omega
     ·refine sA ?_
      all_goals(simp[*];done)
     ·exact sC
     exact .inr (.inr (.inl ⟨rfl,r2,r,g3,hl,rfl⟩))
  ·simp only
   have hu:=gq (gq u3 g3) g2
   have cl:=lX ls.length 1 r1 hu (by omega) (by omega)
   simp -implicitDefEqProofs only[go_sem,Z3,Z4]
   repeat(with_reducible apply And.intro;exact sO)
   refine aC [] cl ?_
   cases hl:fH r1 1 with
   | none=>
     have e:a7 ls=⟨[],[],2⟩:=by simp[a7, *]
     simp -implicitDefEqProofs only[go_sem,Option.isSome_none,Option.getD_none]
     refine bO ?_
     refine ab ?_
     refine sA ?_
     rw[e]
     ((repeat' apply And.intro)<;>rfl)
   | some r=>
     simp -implicitDefEqProofs only[go_sem,Option.isSome_some,Option.getD_some]
     repeat(with_reducible apply And.intro;exact sO)
     refine⟨(0:Int),⟨r,[],r1,r2,aR ls⟩,?_,?_,ah [some 0] ?_ ?_ rfl rfl⟩
     rotate_left
     ·show _ < _
      omega
     ·refine sA ?_
      all_goals(simp[*];done)
     ·exact sC
     exact .inr (.inr (.inr (.inl ⟨rfl,r2,r1,r,g3,g2,hl,rfl⟩)))
  ·simp only
   have hu:=gq (gq (gq u3 g3) g2) g1
   have cl:=lX ls.length 0 r0 hu (by omega) (by omega)
   refine sA ?_
   refine aC [] cl ?_
   cases hl:fH r0 0 with
   | none=>
     have e:a7 ls=⟨[],[],2⟩:=by simp[a7, *]
     simp -implicitDefEqProofs only[go_sem,Option.isSome_none,Option.getD_none]
     refine bO ?_
     refine ab ?_
     refine sA ?_
     rw[e]
     ((repeat' apply And.intro)<;>rfl)
   | some r=>
     simp -implicitDefEqProofs only[go_sem,Option.isSome_some,Option.getD_some]
     repeat(with_reducible apply And.intro;exact sO)
     refine⟨(-1:Int),⟨r,r0,r1,r2,aR ls⟩,?_,?_,ah [some 0] ?_ ?_ rfl rfl⟩
     rotate_left
     ·show _ < _
      omega
     ·refine sA ?_
      all_goals(simp[*];done)
     ·exact sC
     exact .inr (.inr (.inr (.inr ⟨rfl,r2,r1,r0,r,g3,g2,g1,hl,rfl⟩)))
  ·simp only
   have u2:=gq u3 g3
   have u1:=gq u2 g2
   have u0:=gq u1 g1
   have ur:=gq u0 g0
   have hrl:=ur.1
   have hF:a7 ls=fC ls r0 r1 r2 (aR ls) rows:=by simp[a7,hsys,g3,g2,g1,g0]
   clear g3 g2 g1 g0
   simp -implicitDefEqProofs only[go_sem,Z3]
   refine gV (m0 hm ?_)
   refine sA ?_
   refine au hm (fun(i:Nat)=> i≤rows.length∧(rows.find? fun r=>mq r.lx)=(rows.drop i).find? fun r=>mq r.lx) (fun(i:Nat)=> ⟨b9 86 .any [(0,lv (bh ls)),(6,.ptr 0 0),(37,lv (cd rows)),(38,iv rows.length),(39,iv i)],[some (.box [lv (cd r0),lv (cd r1),lv (cd r2),lv (cd (aR ls))])]⟩) (fun(i:Nat)=> rows.length-i) (0) ?_ (ah [some 0] ?_ ?_ rfl rfl) ?_
   rotate_left
   ·exact sC
   ·exact sC
   rotate_left
   ·simp
   ·rintro i ⟨hi,hfind⟩
    rcases Classical.em (i<rows.length) with h1|h1
    ·have ua:=ur.2 rows[i] (List.getElem_mem h1)
     rw[List.drop_eq_getElem_cons h1,List.find?_cons] at hfind
     simp -implicitDefEqProofs only[go_sem,h1]
     refine aC [] (qO rows[i].lx) ?_
     cases hb:mq rows[i].lx
     ·rw[hb] at hfind
      refine sA ?_
      repeat(with_reducible apply And.intro;exact sO)
      refine⟨i+1,?_,?_,ah [some 0] ?_ ?_ rfl rfl⟩
      rotate_left
      ·show _ < _
       omega
      ·exact sC
      ·exact sC
      exact⟨by omega,hfind⟩
     ·rw[hb] at hfind
      simp only at hfind
      have hal:=ua.len
      refine sA ?_
      refine aC [] (C6 ls rows[i].fI) ?_
      cases hf:vU ls rows[i].fI
      ·have e:a7 ls=⟨[],[],2⟩:=by rw[hF,fC,hfind];simp[hf]
       refine sA ?_
       refine bO ?_
       refine ab ?_
       refine sA ?_
       rw[e]
       ((repeat' apply And.intro)<;>rfl)
      ·have e:a7 ls=⟨[],rows[i].fI,1⟩:=by rw[hF,fC,hfind];simp[hf]
       refine sA ?_
       refine aC [] (EB rows[i].fI (by omega)) ?_
       refine bO ?_
       refine ab ?_
       refine sA ?_
       rw[e]
       ((repeat' apply And.intro)<;>rfl)
    ·rw[List.drop_of_length_le (by omega),List.find?_nil] at hfind
     simp -implicitDefEqProofs only[go_sem,h1]
     refine gV (mY ?_)
     refine jX rfl ?_
     refine aC [] (bE 0) ?_
     refine jX rfl ?_
     refine aC [] (bE 0) ?_
     refine jX rfl ?_
     refine aC [] (bE 0) ?_
     refine jX rfl ?_
     refine aC [] (bE 0) ?_
     refine jX rfl (bU (rk 67 57 4 1 _ _ _ (aM o7) rfl rfl rfl rfl rfl (by simp -implicitDefEqProofs only[go_sem];rfl) (by decide) (by decide) rfl) ?_)
     refine sA ?_
     refine jX rfl (ib ?_)
     refine sA ?_
     refine vf ?_
     refine sA ?_
     refine gV (m0 hm ?_)
     refine sA ?_
     refine bQ hm (fun(z:Int) (aw:List Mod.Rat)=> aw.length=4∧((z=0∧gp [r0,r1,r2,aR ls] 0 o7=gp [r0,r1,r2,aR ls] 0 aw)∨(z=1∧gp [r0,r1,r2,aR ls] 0 o7=gp [r1,r2,aR ls] 1 aw)∨(z=2∧gp [r0,r1,r2,aR ls] 0 o7=gp [r2,aR ls] 2 aw)∨(z=3∧gp [r0,r1,r2,aR ls] 0 o7=gp [aR ls] 3 aw)∨(z=4∧gp [r0,r1,r2,aR ls] 0 o7=some aw))) (fun(z:Int) (aw:List Mod.Rat)=> ⟨b9 86 .any [(0,lv (bh ls)),(6,.ptr 0 0),(12,.acc 1),(61,iv 4),(62,iv z)],[some (.box [lv (cd r0),lv (cd r1),lv (cd r2),lv (cd (aR ls))]),some (.acc 57 (aM aw))]⟩) (fun(z:Int) (aw:List Mod.Rat)=> (4-z).toNat) (0) (o7) ?_ (ah [some 0,some 1] ?_ ?_ rfl rfl) ?_
     rotate_left
     ·refine sA ?_
      all_goals(rfl)
     ·exact sC
     rotate_left
     ·exact⟨rfl,.inl ⟨rfl,rfl⟩⟩
     ·rintro z aw ⟨hv4,hg⟩
      have hLv:(aM aw).length=4:=by rw[wj];exact hv4
      rcases hg with⟨rfl,hg⟩|⟨rfl,hg⟩|⟨rfl,hg⟩|⟨rfl,hg⟩|⟨rfl,hg⟩
      ·have cv:=iA ls.length 0 r0 aw (by assumption) hv4 (by omega)
       simp -implicitDefEqProofs only[go_sem,Z2]
       refine bK [] [1] cv rfl ?_ ?_ ?_
       ·exact sV
       all_goals simp -implicitDefEqProofs only[go_sem]
       cases hx:valueOf r0 0 aw with
       | none=>
         rw[lZ (st:=[r1,r2,aR ls]) hx] at hg
         have e:a7 ls=⟨[],[],2⟩:=by rw[hF,fC,hfind];simp only[hg]
         simp -implicitDefEqProofs only[go_sem,Option.isSome_none,Option.getD_none]
         refine bO ?_
         refine ab ?_
         refine sA ?_
         rw[e]
         ((repeat' apply And.intro)<;>rfl)
       | some x=>
         rw[lV (st:=[r1,r2,aR ls]) hx] at hg
         simp -implicitDefEqProofs only[go_sem,Option.isSome_some,Option.getD_some]
         repeat(with_reducible apply And.intro;exact sO)
         refine⟨(1:Int),aw.set 0 x,?_,?_,ah [some 0,some 1] ?_ ?_ rfl rfl⟩
         rotate_left
         ·show _ < _
          omega
         ·refine sA ?_
          all_goals(simp[*];done)
         ·refine sA ?_
          all_goals(exact lC (by omega))
         exact⟨by simpa using hv4,.inr (.inl ⟨rfl,hg⟩)⟩
      ·have cv:=iA ls.length 1 r1 aw (by assumption) hv4 (by omega)
       simp -implicitDefEqProofs only[go_sem,Z2,Z3,Z4]
       repeat(with_reducible apply And.intro;exact sO)
       refine bK [] [1] cv rfl ?_ ?_ ?_
       ·exact sV
       all_goals simp -implicitDefEqProofs only[go_sem]
       cases hx:valueOf r1 1 aw with
       | none=>
         rw[lZ (st:=[r2,aR ls]) hx] at hg
         have e:a7 ls=⟨[],[],2⟩:=by rw[hF,fC,hfind];simp only[hg]
         simp -implicitDefEqProofs only[go_sem,Option.isSome_none,Option.getD_none]
         refine bO ?_
         refine ab ?_
         refine sA ?_
         rw[e]
         ((repeat' apply And.intro)<;>rfl)
       | some x=>
         rw[lV (st:=[r2,aR ls]) hx] at hg
         simp -implicitDefEqProofs only[go_sem,Z3,Z4,Option.isSome_some,Option.getD_some]
         repeat(with_reducible apply And.intro;exact sO)
         refine⟨(2:Int),aw.set 1 x,?_,?_,ah [some 0,some 1] ?_ ?_ rfl rfl⟩
         rotate_left
         ·show _ < _
          omega
         ·refine sA ?_
          all_goals(simp[*];done)
         ·refine sA ?_
          all_goals(exact lC (by omega))
         exact⟨by simpa using hv4,.inr (.inr (.inl ⟨rfl,hg⟩))⟩
      ·have cv:=iA ls.length 2 r2 aw (by assumption) hv4 (by omega)
       simp -implicitDefEqProofs only[go_sem,Z2,Z3,Z4]
       repeat(with_reducible apply And.intro;exact sO)
       refine bK [] [1] cv rfl ?_ ?_ ?_
       ·exact sV
       all_goals simp -implicitDefEqProofs only[go_sem]
       cases hx:valueOf r2 2 aw with
       | none=>
         rw[lZ (st:=[aR ls]) hx] at hg
         have e:a7 ls=⟨[],[],2⟩:=by rw[hF,fC,hfind];simp only[hg]
         simp -implicitDefEqProofs only[go_sem,Option.isSome_none,Option.getD_none]
         refine bO ?_
         refine ab ?_
         refine sA ?_
         rw[e]
         ((repeat' apply And.intro)<;>rfl)
       | some x=>
         rw[lV (st:=[aR ls]) hx] at hg
         simp -implicitDefEqProofs only[go_sem,Z3,Z4,Option.isSome_some,Option.getD_some]
         repeat(with_reducible apply And.intro;exact sO)
         refine⟨(3:Int),aw.set 2 x,?_,?_,ah [some 0,some 1] ?_ ?_ rfl rfl⟩
         rotate_left
         ·show _ < _
          omega
         ·refine sA ?_
          all_goals(simp[*];done)
         ·refine sA ?_
          all_goals(exact lC (by omega))
         exact⟨by simpa using hv4,.inr (.inr (.inr (.inl ⟨rfl,hg⟩)))⟩
      ·have cv:=iA ls.length 3 (aR ls) aw (by assumption) hv4 (by omega)
       simp -implicitDefEqProofs only[go_sem,Z2,Z3,Z4]
       repeat(with_reducible apply And.intro;exact sO)
       refine bK [] [1] cv rfl ?_ ?_ ?_
       ·exact sV
       all_goals simp -implicitDefEqProofs only[go_sem]
       cases hx:valueOf (aR ls) 3 aw with
       | none=>
         rw[lZ (st:=[]) hx] at hg
         have e:a7 ls=⟨[],[],2⟩:=by rw[hF,fC,hfind];simp only[hg]
         simp -implicitDefEqProofs only[go_sem,Option.isSome_none,Option.getD_none]
         refine bO ?_
         refine ab ?_
         refine sA ?_
         rw[e]
         ((repeat' apply And.intro)<;>rfl)
       | some x=>
         rw[lV (st:=[]) hx] at hg
         simp -implicitDefEqProofs only[go_sem,Z3,Z4,Option.isSome_some,Option.getD_some]
         repeat(with_reducible apply And.intro;exact sO)
         refine⟨(4:Int),aw.set 3 x,?_,?_,ah [some 0,some 1] ?_ ?_ rfl rfl⟩
         rotate_left
         ·show _ < _
          omega
         ·refine sA ?_
          all_goals(simp[*];done)
         ·refine sA ?_
          all_goals(exact lC (by omega))
         exact⟨by simpa using hv4,.inr (.inr (.inr (.inr ⟨rfl,hg⟩)))⟩
      ·simp -implicitDefEqProofs only[go_sem,Z2]
       refine gV (m0 hm ?_)
       refine sA ?_
       refine bK [] [1] (qU ls aw) rfl ?_ ?_ ?_
       ·exact sV
       all_goals simp -implicitDefEqProofs only[go_sem]
       cases hf:fR ls aw
       ·have e:a7 ls=⟨[],[],2⟩:=by rw[hF,fC,hfind];simp[hg,hf]
        refine sA ?_
        refine bO ?_
        refine ab ?_
        refine sA ?_
        rw[e]
        ((repeat' apply And.intro)<;>rfl)
       ·have e:a7 ls=⟨aw,[],0⟩:=by rw[hF,fC,hfind];simp[hg,hf]
        refine sA ?_
        refine m0 hm ?_
        refine sA ?_
        refine bO ?_
        refine ab ?_
        refine sA ?_
        rw[e]
        ((repeat' apply And.intro)<;>rfl)
end Go.Proofs.YtpidddienjoleaaGreat
