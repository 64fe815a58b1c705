/-
  The program: the walks of elimination and of systems. A step towards the laws.
-/
import Derived.Test.YtabembjmeobhoaaGreatKDc
import Derived.Test.YtabembjmeobhoaaGreatKDd
import Derived.Test.YtabembjmeobhoaaGreatKDq
import Derived.Test.YtabembjmeobhoaaGreatKDEk
set_option linter.unusedVariables false
set_option linter.unusedSimpArgs false
open And renaming intro→au
open Bool renaming and_eq_true→al,false_eq_true→ax
open Classical renaming em→aa
open Int renaming gcd→bN
open List renaming drop_eq_getElem_cons→ae,drop_of_length_le→ai,getElem_mem→ak,take_of_length_le→ao,replicate→aS,range→bx,nil_append→bC
open Nat renaming zero_le→bc
open Option renaming isSome_some→aW,getD_some→aX,isSome_none→bE,getD_none→cg
namespace Go.Proofs.YtabembjmeobhoaaGreat
open Go.Eng Go.Mod
open Int renaming reduceEq→Z1,reduceLT→Z2,reduceLE→Z3,reduceToNat→Z4
set_option maxRecDepth 100000
set_option maxHeartbeats 800000
theorem Cy(n d:Int)(hn:-1000000000≤n∧n≤1000000000)(hd:-1000000000≤d∧d≤1000000000):C E.P 235 [iv n,iv d] [] (bz (.gV [av (eU (il n d).1),bv (il n d).2]) []):=by
 rcases aa (d=0) with h0|h0
 ·have k0:=eq_true h0
  refine gS (nt:=32) (rs:=[.cell 4 71,.tmp 5]) hm Tryz.func235 fun hl he cq=>?_
  refine uH ?_
  refine an ?_
  refine sA ?_
  all_goals(simp[il,h0];done)
 rcases aa (d<0) with h1|h1
 ·have e:il n d=if bX ⟨(-n).tdiv (bN (-n) (-d)),(-d).tdiv (bN (-n) (-d))⟩ then(⟨(-n).tdiv (bN (-n) (-d)),(-d).tdiv (bN (-n) (-d))⟩,true) else(jE,false):=by
   unfold il
   rw[if_neg h0]
   simp only[if_pos h1]
  have hg:=L8 (n:=-n) (d:=-d) (by omega)
  have b1:=pP (n:=-n) (k:=1000000000) hg (by omega)
  have b2:=pP (n:=-d) (k:=1000000000) hg (by omega)
  have jJ:¬ (bN (-n) (-d):Int)=0:=by omega
  refine gS (nt:=32) (rs:=[.cell 4 71,.tmp 5]) hm Tryz.func235 fun hl he cq=>?_
  simp -implicitDefEqProofs only[go_sem,h0,h1]
  refine sQ ?_
  refine aC [] (vk (-n) (-d) (by omega) (by omega)) ?_
  refine sQ ?_
  refine aC [] (gP ⟨(-n).tdiv (bN (-n) (-d)),(-d).tdiv (bN (-n) (-d))⟩) ?_
  cases h2:bX ⟨(-n).tdiv (bN (-n) (-d)),(-d).tdiv (bN (-n) (-d))⟩
  ·refine sA ?_
   refine an ?_
   refine sA ?_
   rw[e,if_neg (by rw[h2];simp)]
   exact⟨⟨rfl,rfl⟩,rfl⟩
  ·refine sA ?_
   refine an ?_
   refine sA ?_
   rw[e,if_pos h2]
   exact⟨⟨rfl,rfl⟩,rfl⟩
 ·exact vH n d (by omega) (by omega)
theorem KK(n d:Int):C E.P 234 [iv n,iv d] [] (bz (.gV [av (eU (lr n d).1),bv (lr n d).2]) []):=by
 refine gS (nt:=20) (rs:=[.cell 4 71,.tmp 5]) hm Tryz.func234 fun hl he cq=>?_
 refine aC [] (fj n (-1000000000) 1000000000) ?_
 cases g1:within n (-1000000000) 1000000000
 ·refine sA ?_
  refine an ?_
  refine sA ?_
  all_goals(simp[lr,g1];done)
 ·refine sA ?_
  refine aC [] (fj d (-1000000000) 1000000000) ?_
  cases g2:within d (-1000000000) 1000000000
  ·refine sA ?_
   refine an ?_
   refine sA ?_
   all_goals(simp[lr,g1,g2];done)
  ·have h1:=dj.1 g1
   have h2:=dj.1 g2
   refine sA ?_
   refine aC [] (Cy n d h1 h2) ?_
   refine an ?_
   refine sA ?_
   all_goals(simp[lr,g1,g2];done)
theorem Ii(a b:Mod.Rat):C E.P 176 [av (eU a),av (eU b)] [] (bz (.gV [av (eU (qX a b).1),bv (qX a b).2]) []):=by
 refine gS (nt:=22) (rs:=[.cell 4 71,.tmp 5]) hm Tryz.func176 fun hl he cq=>?_
 refine aC [] (p8 a b) ?_
 cases g1:(db a b).2
 ·refine sA ?_
  refine an ?_
  refine sA ?_
  all_goals(simp[qX,g1];done)
 ·refine sA ?_
  refine aC [] (tP (db a b).1 ⟨1,2⟩) ?_
  refine an ?_
  refine sA ?_
  all_goals(simp[qX,g1];done)
theorem wJ(n:Mod.Rat):C E.P 236 [av (eU n)] [] (bz (bv (!bX n)) []):=by
 refine gS (nt:=6) (rs:=[.tmp 2]) hm Tryz.func236 fun hl he cq=>?_
 refine aC [] (gP n) ?_
 refine an ?_
 exact sC
theorem rb(aH:List Mod.Rat):C E.P 178 [lv (bp aH)] [] (bz (bv (qx aH)) []):=by
 refine gS (nt:=11) (rs:=[.tmp 2]) hm Tryz.func178 fun hl he cq=>?_
 rcases aa ((aH.length:Int)=4) with h|h
 ·have h':aH.length=4:=by omega
  have k:=eq_true h
  refine uG ?_
  refine aC [] (sH 236 [] rfl (fun n=>!bX n) aH (fun n _=>wJ n)) ?_
  refine an ?_
  refine sA ?_
  all_goals(simp[qx,h',List.all_eq_not_any_not];done)
 ·have h':¬aH.length=4:=by omega
  refine uF ?_
  refine an ?_
  refine sA ?_
  all_goals(simp[qx,h'];done)
theorem Ty{aH:List Mod.Rat}(h:qx aH=true):aH.length=4:=by
 simp only[qx,al,decide_eq_true_eq] at h
 exact h.1
theorem LZ(l:iV)(aH:List Mod.Rat):C E.P 179 [av (eL l),lv (bp aH)] [] (bz (.gV [bv ((mi l aH).getD false),bv (mi l aH).isSome]) []):=by
 refine gS (nt:=48) (rs:=[.tmp 4,.tmp 5]) hm Tryz.func179 fun hl he cq=>?_
 refine aC [] (gN l) ?_
 cases g1:eu l
 ·refine sA ?_
  refine an ?_
  refine sA ?_
  all_goals(simp[mi,g1];done)
 ·refine sA ?_
  refine aC [] (rb aH) ?_
  cases g2:qx aH
  ·refine sA ?_
   refine an ?_
   refine sA ?_
   all_goals(simp[mi,g1,g2];done)
  ·obtain⟨hn1,hc1,hb1⟩:=gv.1 g1
   have hv:=Ty g2
   have e:mi l aH=(lf l.aF aH (whole 0)).map fun x=>below x l.bound l.strict:=by simp[mi,g1,g2]
   refine sA ?_
   refine aC [] (fa 0) ?_
   refine cM hm (fun(i:Nat) (sum:Mod.Rat)=> i≤l.aF.length∧lf l.aF aH (whole 0)=lf (l.aF.drop i) (aH.drop i) sum) (fun(i:Nat) (sum:Mod.Rat)=> ⟨dx 48 .any [(1,lv (bp aH)),(2,.ptr 0 0),(6,.ptr 1 0),(21,lv (bF l.aF)),(22,iv l.aF.length),(23,iv i)],[some (.box (cE (eL l))),some (.box (cE (eU sum)))]⟩) (fun(i:Nat) (sum:Mod.Rat)=> l.aF.length-i) (0) (whole 0) ?_ (ar [some 0,some 1] ?_ ?_ rfl rfl) ?_
   rotate_left
   ·exact sC
   ·exact sC
   rotate_left
   ·simp
   ·rintro i sum ⟨hi,hg⟩
    rcases aa (i<l.aF.length) with h1|h1
    ·have h2:i<aH.length:=by omega
     rw[ME h1 h2] at hg
     refine uJ ?_
     refine aC [] (wT sum l.aF[i] aH[i]) ?_
     refine iK ?_
     cases h3:(plus sum l.aF[i] aH[i]).2
     ·rw[h3] at hg
      simp only[ax,if_false] at hg
      rw[hg] at e
      refine sA ?_
      refine an ?_
      refine sA ?_
      all_goals(simp[e];done)
     ·rw[h3] at hg
      simp only[if_true] at hg
      refine sA ?_
      refine sQ ?_
      refine⟨i+1,(plus sum l.aF[i] aH[i]).1,?_,sL,ar [some 0,some 1] ?_ ?_ rfl rfl⟩
      rotate_left
      ·exact sC
      ·exact sC
      exact⟨by omega,hg⟩
    ·rw[ai (by omega),GS] at hg
     rw[hg] at e
     refine uA ?_
     refine aC [] (Bs sum l.bound l.strict) ?_
     refine an ?_
     refine sA ?_
     all_goals(simp[e];done)
theorem HY(ls:List iV)(aH:List Mod.Rat):C E.P 107 [lv (di ls),lv (bp aH)] [] (bz (bv (lg ls aH)) []):=by
 refine gS (nt:=36) (rs:=[.tmp 4]) hm Tryz.func107 fun hl he cq=>?_
 refine aC [] (nL ls) ?_
 cases g1:fP ls
 ·refine sA ?_
  refine an ?_
  refine sA ?_
  all_goals(simp[lg,g1];done)
 ·refine sA ?_
  refine aC [] (rb aH) ?_
  cases g2:qx aH
  ·refine sA ?_
   refine an ?_
   refine sA ?_
   all_goals(simp[lg,g1,g2];done)
  ·have e:lg ls aH=ls.all fun l=>decide (mi l aH=some true):=by simp[lg,g1,g2]
   refine sA ?_
   refine aL hm (fun(i:Nat)=> i≤ls.length∧lg ls aH=(ls.drop i).all fun l=>decide (mi l aH=some true)) (fun(i:Nat)=> ⟨dx 36 .any [(1,lv (bp aH)),(17,lv (di ls)),(18,iv ls.length),(19,iv i)],[]⟩) (fun(i:Nat)=> ls.length-i) (0) ?_ (ar [] ?_ ?_ rfl rfl) ?_
   rotate_left
   ·exact sC
   ·exact sC
   rotate_left
   ·simp[e]
   ·rintro i ⟨hi,hg⟩
    rcases aa (i<ls.length) with h1|h1
    ·rw[ae h1,List.all_cons] at hg
     refine uA ?_
     refine aC [] (LZ ls[i] aH) ?_
     cases h2:mi ls[i] aH with
     | none=>
       rw[h2] at hg
       refine uK ?_
       refine an ?_
       refine sA ?_
       all_goals(simp[hg];done)
     | some b=>
       rw[h2] at hg
       cases b
       ·refine uL ?_
        refine an ?_
        refine sA ?_
        all_goals(simp[hg];done)
       ·refine uL ?_
        refine sQ ?_
        refine⟨i+1,?_,sL,ar [] ?_ ?_ rfl rfl⟩
        rotate_left
        ·exact sC
        ·exact sC
        refine⟨by omega,?_⟩
        rw[hg];simp
    ·rw[ai (by omega),List.all_nil] at hg
     refine uA ?_
     refine an ?_
     refine sA ?_
     all_goals(simp[hg];done)
def cUT(r:cH):List T:=[.leaf (.dt (bF r.jC.aF)),.leaf (.val (.int .i64 r.jC.bound)),.leaf (.val (.bool r.jC.strict)),.own 3 (AX r.fQ)]
def uT(l:List cH):List (List T):=l.map cUT
theorem O2:∀(l:List cH),cX (uT l)=some (dX l)
 | []=>rfl
 | s::l=>by
   have:=O2 l
   simp only[uT,List.map_cons] at this⊢
   simp[cX,gi,T.G0,cUT,HP,this,dX,cU]
theorem Pn(l:List cH):(uT l).length=l.length:=by simp[uT]
theorem ZT(l:List cH)(t:cH):uT l++[cUT t]=uT (l++[t]):=by simp[uT]
theorem Y7(l:List cH):(cX (uT l)).isSome=true:=by rw[O2];rfl
attribute [go_sem] O2 Pn
theorem Ps{n i:Nat}(h:i<n):(bF (aS n 0)).set i [.val (.int .i64 1)]=bF (s8 n i):=by
 rw[s8,←Cr (by simpa using h)]
theorem GI{n i:Nat}(h:i<n):lift ((bF (aS n 0)).set i (sS (row (bF (aS n 0)) i) 0 [.val (.int .i64 1)]))=AX (s8 n i):=by
 have e:sS (row (bF (aS n 0)) i) 0 [.val (.int .i64 1)]=[D.val (.int .i64 1)]:=by
  rw[CM (by simpa using h)]
  simp[sS]
 rw[e,Ps h,Ab]
theorem Fl{ls:List iV}{i:Nat}(h:i<ls.length):uT ((bx i).map fun i=>⟨ls.getD i m8,s8 ls.length i⟩)++[[.leaf (.dt (bF ls[i].aF)),.leaf (.val (.int .i64 ls[i].bound)),.leaf (.val (.bool ls[i].strict)),.own 3 (AX (s8 ls.length i))]]=uT ((bx i++[i]).map fun i=>⟨ls.getD i m8,s8 ls.length i⟩):=by
 rw[List.map_append,List.map_singleton,getD_at h,←ZT]
 rfl
theorem D8(ls:List iV)(hl:ls.length≤100):C E.P 101 [lv (di ls)] [] (bz (lv (dX (bI ls))) []):=by
 refine gS (nt:=28) (rs:=[.tmp 2]) hm Tryz.func101 fun hl he cq=>?_
 refine aL hm (fun(i:Nat)=> i≤ls.length) (fun(i:Nat)=> ⟨dx 28 .any [(0,lv (di ls)),(3,.acc 0),(7,lv (di ls)),(8,iv ls.length),(9,iv i)],[some (.fk 164 (uT ((bx i).map fun i=>⟨ls.getD i m8,s8 ls.length i⟩)))]⟩) (fun(i:Nat)=> ls.length-i) (0) ?_ (ar [none] ?_ ?_ rfl rfl) ?_
 rotate_left
 ·exact sC
 ·refine sA ?_
  all_goals(rfl)
 rotate_left
 ·omega
 ·rintro i hi
  have hp:(uT ((bx i).map fun i=>(⟨ls.getD i m8,s8 ls.length i⟩:cH))).length=i:=by rw[Pn];simp
  rcases aa (i<ls.length) with h1|h1
  ·have hz:aS ls.length ([D.val (Value.int .i64 0)]:List D)=bF (aS ls.length 0):=by simp[bF]
   refine uA ?_
   refine sQ ?_
   simp -implicitDefEqProofs only[go_sem,hz]
   refine⟨i+1,?_,?_,Bd 4 i _ rfl (by rw[List.length_append,hp];simp) (wQ hp) ?_⟩
   rotate_left
   ·show _ < _
    omega
   ·refine sA ?_
    refine ar [some 4] ?_ ?_ rfl rfl
    ·exact sC
    ·refine sA ?_
     all_goals(rw[xg hp,GI h1];exact⟨Fl h1,(congrArg (fun z=>(cX z).isSome) (Fl h1)).trans (Y7 _)⟩)
   exact h1
  ·refine uA ?_
   refine an ?_
   refine sA ?_
   obtain rfl:i=ls.length:=by omega
   exact⟨_,rfl,rfl⟩
theorem H6(n v:Nat)(a b:cH)(ha:HU n a)(hb:HU n b)(hn:n≤100)(hv:v<4)(h1:0<bT a v)(h2:bT b v<0):C E.P 172 [av (cU a),av (cU b),iv v] [] (bz (.gV [av (cU (BD a b v)),bv (tN a b v)]) []):=by
 have ca:=ha.SX v
 have cb:=hb.SX v
 obtain⟨⟨hg1,hg2⟩,⟨hp1,hp2⟩,⟨hq1,hq2⟩⟩:=E4 ha hb h1 h2
 have la:v<a.jC.aF.length:=by rw[(gv.1 ha.jC).1];exact hv
 have lb:v<b.jC.aF.length:=by rw[(gv.1 hb.jC).1];exact hv
 have ea:a.jC.aF[v]=bT a v:=(getD_at la).symm
 have eb:b.jC.aF[v]=bT b v:=(getD_at lb).symm
 have hal:=ha.len
 have hbl:=hb.len
 have eg:(bN (bT a v) (-(bT b v)):Int)=uX a b v:=rfl
 have ep:(bT a v).tdiv (uX a b v)=o7 a b v:=rfl
 have eq:(-(bT b v)).tdiv (uX a b v)=o8 a b v:=rfl
 have e1:BD a b v=⟨(eV a.jC (o8 a b v) b.jC (o7 a b v)).1,qw a b v⟩:=rfl
 have e2:tN a b v=((eV a.jC (o8 a b v) b.jC (o7 a b v)).2&&(qw a b v).all fun n=>decide (n≤1000000)):=rfl
 have e3:qw a b v=comb (o8 a b v) (o7 a b v) a.fQ b.fQ:=rfl
 generalize uX a b v=g at *
 generalize o7 a b v=p at *
 generalize o8 a b v=q at *
 refine gS (nt:=85) (rs:=[.cell 6 164,.tmp 7]) hm Tryz.func172 fun hl he cq=>?_
 simp -implicitDefEqProofs only[go_sem,la,lb,ea,eb]
 refine sQ ?_
 refine bw [] (vk (bT a v) (-(bT b v)) (by omega) (by omega)) ?_ ?_<;>simp -implicitDefEqProofs only[go_sem,eg]
 refine sQ ?_
 simp -implicitDefEqProofs only[go_sem,ep,eq]
 refine aC [] (zB a.jC q b.jC p) ?_
 obtain⟨l,hl⟩:∃l,(eV a.jC q b.jC p).1=l:=⟨_,rfl⟩
 obtain⟨ok,eW⟩:∃l,(eV a.jC q b.jC p).2=l:=⟨_,rfl⟩
 rw[hl] at e1
 rw[eW] at e2
 simp -implicitDefEqProofs only[go_sem,hl,eW]
 refine cM hm (fun(i:Nat) (o:Bool)=> i≤n∧o=(ok&&(comb q p (a.fQ.take i) (b.fQ.take i)).all fun n=>decide (n≤1000000))) (fun(i:Nat) (o:Bool)=> ⟨dx 85 .any [(3,.ptr 0 0),(4,.ptr 1 0),(6,.ptr 2 0),(8,iv p),(9,iv q),(12,bv o),(13,.ptr 3 0),(52,iv n),(53,iv i)],[some (.box (cE (cU a))),some (.box (cE (cU b))),some (.box (cE (cU ⟨m8,[]⟩))),some (.box [lv (bF l.aF),iv l.bound,bv l.strict,.acc 4]),some (.acc 3 (bF (comb q p (a.fQ.take i) (b.fQ.take i))))]⟩) (fun(i:Nat) (o:Bool)=> n-i) (0) (ok) ?_ (ar [some 0,some 1,some 2,some 4,none] ?_ ?_ rfl rfl) ?_
 rotate_left
 ·refine sA ?_
  all_goals(simp[*])
 ·refine sA ?_
  all_goals(simp[comb, *])
 rotate_left
 ·simp[comb]
 ·rintro i o ⟨hi,ho⟩
  rcases aa (i<n) with h3|h3
  ·have h4:i<a.fQ.length:=by omega
   have h5:i<b.fQ.length:=by omega
   have b1:=ha.bd a.fQ[i] (ak h4)
   have b2:=hb.bd b.fQ[i] (ak h5)
   have m1:=dq (m:=q) (b:=a.fQ[i]) (by omega) hq2 (by omega)
   have m2:=dq (m:=p) (b:=b.fQ[i]) (by omega) hp2 (by omega)
   have dy:(comb q p (a.fQ.take i) (b.fQ.take i)).length≤100:=by rw[kf (by simp;omega)];simp;omega
   have ho2:(ok&&(comb q p (a.fQ.take (i+1)) (b.fQ.take (i+1))).all fun n=>decide (n≤1000000))=(o&&decide (q*a.fQ[i]+p*b.fQ[i]≤1000000)):=by
    rw[ho,e6 h4 h5,List.all_append,←Bool.and_assoc]
    simp
   cases o
   ·simp -implicitDefEqProofs only[go_sem,h3,h4,h5]
    refine sQ ?_
    refine⟨i+1,false,?_,sL,ar [some 0,some 1,some 2,some 3,some 5] ?_ ?_ rfl rfl⟩
    rotate_left
    ·exact sC
    ·refine sA ?_
     all_goals((rw[e6 h4 h5,←eK];rfl))
    exact⟨h3,by rw[ho2];rfl⟩
   ·simp -implicitDefEqProofs only[go_sem,h3,h4,h5]
    refine sQ ?_
    refine⟨i+1,(decide (q*a.fQ[i]+p*b.fQ[i]≤1000000)),?_,sL,ar [some 0,some 1,some 2,some 3,some 5] ?_ ?_ rfl rfl⟩
    rotate_left
    ·exact sC
    ·refine sA ?_
     all_goals((rw[e6 h4 h5,←eK];rfl))
    exact⟨h3,by rw[ho2];simp⟩
  ·have ta:a.fQ.take i=a.fQ:=ao (by omega)
   have tb:b.fQ.take i=b.fQ:=ao (by omega)
   rw[ta,tb,←e3] at ho⊢
   rw[←e2] at ho
   refine uC ?_
   refine an ?_
   refine sA ?_
   rw[e1,ho]
   repeat' apply au
   all_goals rfl
theorem Bv{n v:Nat}{r:cH}(h:HU n r)(hv:v<4):∃h:v<r.jC.aF.length,r.jC.aF[v]=bT r v:=by
 have la:v<r.jC.aF.length:=by rw[(gv.1 h.jC).1];exact hv
 exact⟨la,(getD_at la).symm⟩
theorem tn(n v:Nat)(rows:List cH)(hr:xZ n rows)(hn:n≤100)(hv:v<4):C E.P 102 [lv (dX rows),iv v] [] (bz (.gV [lv (dX ((gY rows v).getD [])),bv (gY rows v).isSome]) []):=by
 obtain⟨dy,mR⟩:=hr
 refine gS (nt:=85) (rs:=[.tmp 4,.tmp 5]) hm Tryz.func102 fun hl he cq=>?_
 refine aL hm (fun(i:Nat)=> i≤rows.length) (fun(i:Nat)=> ⟨dx 85 .any [(0,lv (dX rows)),(1,iv v),(6,.acc 0),(15,lv (dX rows)),(16,iv rows.length),(17,iv i)],[some (.acc 164 (dX ((rows.take i).filter fun r=>decide (bT r v=0))))]⟩) (fun(i:Nat)=> rows.length-i) (0) ?_ (ar [none] ?_ ?_ rfl rfl) ?_
 rotate_left
 ·exact sC
 ·refine sA ?_
  all_goals(rfl)
 rotate_left
 ·omega
 ·rintro i hi
  have hfl:((rows.take i).filter fun r=>decide (bT r v=0)).length≤200:=by
   have:=List.length_filter_le (fun r:cH=>decide (bT r v=0)) (rows.take i)
   rw[List.length_take] at this
   omega
  rcases aa (i<rows.length) with h1|h1
  ·obtain⟨la,ea⟩:=Bv (mR rows[i] (ak h1)) hv
   have hs:=DB (p:=fun r:cH=>decide (bT r v=0)) h1
   rcases aa (bT rows[i] v=0) with h2|h2
   ·have k2:=eq_true h2
    rw[if_pos (by simpa using h2)] at hs
    simp -implicitDefEqProofs only[go_sem,h1,la,ea,k2]
    refine sQ ?_
    refine⟨i+1,?_,sL,ar [some 2] ?_ ?_ rfl rfl⟩
    rotate_left
    ·exact sC
    ·refine sA ?_
     all_goals((rw[hs,←yc,uZ,um];rfl))
    exact h1
   ·rw[if_neg (by simpa using h2),List.append_nil] at hs
    simp -implicitDefEqProofs only[go_sem,h1,la,ea,h2]
    refine sQ ?_
    refine⟨i+1,?_,sL,ar [some 0] ?_ ?_ rfl rfl⟩
    rotate_left
    ·exact sC
    ·refine sA ?_
     all_goals((rw[hs]))
    exact h1
  ·have et:rows.take i=rows:=ao (by omega)
   rw[et] at hfl⊢
   obtain⟨out0,ho0⟩:∃o,(rows.filter fun r=>decide (bT r v=0))=o:=⟨_,rfl⟩
   have hL:gY rows v=mC v (pI rows rows v) out0:=by rw[←ho0];rfl
   rw[ho0] at hfl⊢
   refine uA ?_
   clear hi h1
   refine cM hm (fun(i:Nat) (out:List cH)=> i≤rows.length∧out.length≤200∧gY rows v=mC v (pI rows (rows.drop i) v) out) (fun(i:Nat) (out:List cH)=> ⟨dx 85 .any [(0,lv (dX rows)),(1,iv v),(6,.acc 0),(33,lv (dX rows)),(34,iv rows.length),(35,iv i)],[some (.acc 164 (dX out))]⟩) (fun(i:Nat) (out:List cH)=> rows.length-i) (0) (out0) ?_ (ar [some 0] ?_ ?_ rfl rfl) ?_
   rotate_left
   ·exact sC
   ·exact sC
   rotate_left
   ·exact⟨bc _,hfl,hL⟩
   ·rintro i out ⟨hi,ho,hg⟩
    rcases aa (i<rows.length) with h1|h1
    ·have ua:=mR rows[i] (ak h1)
     rw[Dj h1] at hg
     obtain⟨a,ha⟩:∃a,rows[i]=a:=⟨_,rfl⟩
     rw[ha] at ua hg
     obtain⟨la,ea⟩:=Bv ua hv
     simp -implicitDefEqProofs only[go_sem,h1,ha]
     refine cM hm (fun(j:Nat) (out:List cH)=> j≤rows.length∧out.length≤200∧gY rows v=mC v (pF a v (rows.drop j)++pI rows (rows.drop (i+1)) v) out) (fun(j:Nat) (out:List cH)=> ⟨dx 85 .any [(0,lv (dX rows)),(1,iv v),(6,.acc 0),(10,.ptr 1 0),(33,lv (dX rows)),(34,iv rows.length),(35,iv i),(39,lv (dX rows)),(40,iv rows.length),(41,iv j)],[some (.acc 164 (dX out)),some (.box (cE (cU a)))]⟩) (fun(j:Nat) (out:List cH)=> rows.length-j) (0) (out) ?_ (ar [some 0,some 1] ?_ ?_ rfl rfl) ?_
     rotate_left
     ·exact sC
     ·exact sC
     rotate_left
     ·exact⟨bc _,ho,hg⟩
     ·rintro j out ⟨hj,ho,hg⟩
      rcases aa (j<rows.length) with h3|h3
      ·have ub:=mR rows[j] (ak h3)
       rw[DJ h3] at hg
       obtain⟨b,hb⟩:∃b,rows[j]=b:=⟨_,rfl⟩
       rw[hb] at ub hg
       obtain⟨lb,eb⟩:=Bv ub hv
       rcases aa (bT a v≤0) with h4|h4
       ·rw[if_neg (by omega),bC] at hg
        simp -implicitDefEqProofs only[go_sem,h3,la,ea,h4,hb]
        refine sQ ?_
        refine⟨j+1,out,?_,sL,ar [some 0,some 1] ?_ ?_ rfl rfl⟩
        rotate_left
        ·exact sC
        ·exact sC
        exact⟨by omega,ho,hg⟩
       rcases aa (0≤bT b v) with h5|h5
       ·rw[if_neg (by omega),bC] at hg
        simp -implicitDefEqProofs only[go_sem,h3,la,ea,h4,hb,lb,eb,h5]
        refine sQ ?_
        refine⟨j+1,out,?_,sL,ar [some 0,some 1] ?_ ?_ rfl rfl⟩
        rotate_left
        ·exact sC
        ·exact sC
        exact⟨by omega,ho,hg⟩
       ·rw[if_pos (by omega)] at hg
        simp only[List.cons_append,bC,mC] at hg
        simp -implicitDefEqProofs only[go_sem,h3,la,ea,h4,hb,lb,eb,h5]
        refine aC [] (H6 n v a b ua ub hn hv (by omega) (by omega)) ?_
        cases h6:tN a b v
        ·rw[if_neg (by rw[h6];simp)] at hg
         refine sA ?_
         refine an ?_
         refine sA ?_
         rw[hg]
         ((repeat' apply au)<;>rfl)
        ·rcases aa ((out.length:Int)=200) with h7|h7
         ·have k7:=eq_true h7
          rw[if_neg (by omega)] at hg
          simp -implicitDefEqProofs only[go_sem,k7]
          refine an ?_
          refine sA ?_
          rw[hg]
          ((repeat' apply au)<;>rfl)
         ·rw[if_pos ⟨h6,by omega⟩] at hg
          simp -implicitDefEqProofs only[go_sem,h7]
          refine sQ ?_
          refine⟨j+1,out++[BD a b v],?_,sL,ar [some 4,some 1] ?_ ?_ rfl rfl⟩
          rotate_left
          ·exact sC
          ·refine sA ?_
           all_goals((rw[←yc,uZ,um];rfl))
          exact⟨by omega,by simp;omega,hg⟩
      ·rw[ai (by omega:rows.length≤j)] at hg
       refine uC ?_
       refine sQ ?_
       refine⟨i+1,out,?_,sL,ar [some 0] ?_ ?_ rfl rfl⟩
       rotate_left
       ·exact sC
       ·exact sC
       exact⟨by omega,ho,by simpa[pF] using hg⟩
    ·rw[ai (by omega)] at hg
     have ho':(out.length:Int)≤200:=by omega
     simp -implicitDefEqProofs only[go_sem,h1,ho']
     refine an ?_
     refine sA ?_
     rw[hg]
     ((repeat' apply au)<;>rfl)
theorem Ht(v:Nat)(l:iV)(aH:List Mod.Rat)(hl:eu l=true)(h4:aH.length=4)(hv:v<4):C E.P 174 [av (eL l),iv v,lv (bp aH)] [] (bz (.gV [av (eU ((m7 l v aH).getD jE)),bv (m7 l v aH).isSome]) []):=by
 obtain⟨hn1,hc1,hb1⟩:=gv.1 hl
 have lv1:v<l.aF.length:=by omega
 have ev:l.aF.getD v 0=l.aF[v]:=getD_at lv1
 refine gS (nt:=62) (rs:=[.cell 6 71,.tmp 7]) hm Tryz.func174 fun hl he cq=>?_
 refine aC [] (fa l.bound) ?_
 refine cM hm (fun(i:Nat) (sum:Mod.Rat)=> i≤l.aF.length∧qR v 0 l.aF aH (whole l.bound)=qR v i (l.aF.drop i) (aH.drop i) sum) (fun(i:Nat) (sum:Mod.Rat)=> ⟨dx 62 .any [(1,iv v),(2,lv (bp aH)),(3,.ptr 0 0),(6,.ptr 1 0),(8,.ptr 2 0),(19,lv (bF l.aF)),(20,iv l.aF.length),(21,iv i)],[some (.box (cE (eL l))),some (.box (cE (eU jE))),some (.box (cE (eU sum)))]⟩) (fun(i:Nat) (sum:Mod.Rat)=> l.aF.length-i) (0) (whole l.bound) ?_ (ar [some 0,some 1,some 2] ?_ ?_ rfl rfl) ?_
 rotate_left
 ·exact sC
 ·exact sC
 rotate_left
 ·simp
 ·rintro i sum ⟨hi,hg⟩
  rcases aa (i<l.aF.length) with h1|h1
  ·have h2:i<aH.length:=by omega
   rw[NX h1 h2] at hg
   rcases aa (i=v) with h3|h3
   ·have k3:((i:Int)=(v:Int))=True:=eq_true (by omega)
    rw[if_pos h3] at hg
    simp -implicitDefEqProofs only[go_sem,h1,k3]
    refine sQ ?_
    refine⟨i+1,sum,?_,sL,ar [some 0,some 1,some 2] ?_ ?_ rfl rfl⟩
    rotate_left
    ·exact sC
    ·exact sC
    exact⟨by omega,hg⟩
   ·have k3:¬ (i:Int)=(v:Int):=by omega
    have cb:=hc1 l.aF[i] (ak h1)
    rw[if_neg h3] at hg
    simp -implicitDefEqProofs only[go_sem,h1,h2,k3]
    refine sQ ?_
    refine aC [] (wT sum (-l.aF[i]) aH[i]) ?_
    refine iK ?_
    cases h5:(plus sum (-l.aF[i]) aH[i]).2
    ·rw[h5] at hg
     simp only[ax,if_false] at hg
     have e:m7 l v aH=none:=by simp[m7,hg]
     refine sA ?_
     refine an ?_
     refine sA ?_
     all_goals(simp[e];done)
    ·rw[h5] at hg
     simp only[if_true] at hg
     refine sA ?_
     refine sQ ?_
     refine⟨i+1,(plus sum (-l.aF[i]) aH[i]).1,?_,sL,ar [some 0,some 1,some 2] ?_ ?_ rfl rfl⟩
     rotate_left
     ·exact sC
     ·exact sC
     exact⟨by omega,hg⟩
  ·rw[ai (by omega),PX] at hg
   simp -implicitDefEqProofs only[go_sem,h1,lv1]
   refine aC [] (KK 1 l.aF[v]) ?_
   cases h5:(lr 1 l.aF[v]).2
   ·have e:m7 l v aH=none:=by simp[m7,hg,h5,lv1]
    refine sA ?_
    refine an ?_
    refine sA ?_
    all_goals(simp[e];done)
   ·have e:m7 l v aH=Ad (cC sum (lr 1 l.aF[v]).1):=by simp[m7,hg,h5,lv1]
    refine sA ?_
    refine aC [] (tP sum (lr 1 l.aF[v]).1) ?_
    obtain⟨o1,o2⟩:=JN (x:=cC sum (lr 1 l.aF[v]).1) DN
    refine an ?_
    refine sA ?_
    rw[e,o1,o2]
    ((repeat' apply au)<;>rfl)
theorem ot(n v:Nat)(rows:List cH)(aH:List Mod.Rat)(hr:xZ n rows)(h4:aH.length=4)(hv:v<4):C E.P 106 [lv (dX rows),iv v,lv (bp aH)] [] (bz (.gV [av (eU ((valueOf rows v aH).getD jE)),bv (valueOf rows v aH).isSome]) []):=by
 obtain⟨dy,mR⟩:=hr
 refine gS (nt:=95) (rs:=[.cell 6 71,.tmp 7]) hm Tryz.func106 fun hl he cq=>?_
 refine kS hm (fun(i:Nat) (lo:Option Mod.Rat) (hi:Option Mod.Rat)=> i≤rows.length∧oN v aH rows none none=oN v aH (rows.drop i) lo hi) (fun(i:Nat) (lo:Option Mod.Rat) (hi:Option Mod.Rat)=> ⟨dx 95 .any [(1,iv v),(2,lv (bp aH)),(6,.ptr 0 0),(8,.ptr 1 0),(9,.ptr 2 0),(10,bv lo.isSome),(11,bv hi.isSome),(17,lv (dX rows)),(18,iv rows.length),(19,iv i)],[some (.box (cE (eU jE))),some (.box (cE (eU (lo.getD jE)))),some (.box (cE (eU (hi.getD jE))))]⟩) (fun(i:Nat) (lo:Option Mod.Rat) (hi:Option Mod.Rat)=> rows.length-i) (0) (none) (none) ?_ (ar [some 0,some 1,some 2] ?_ ?_ rfl rfl) ?_
 rotate_left
 ·refine sA ?_
  all_goals(simp[*];done)
 ·refine sA ?_
  all_goals(simp[*];done)
 rotate_left
 ·simp
 ·rintro i lo hi ⟨hi1,hg⟩
  rcases aa (i<rows.length) with h1|h1
  ·have ua:=mR rows[i] (ak h1)
   obtain⟨la,ea⟩:=Bv ua hv
   rw[MW h1] at hg
   rcases aa (bT rows[i] v=0) with h2|h2
   ·have k2:=eq_true h2
    rw[if_pos h2] at hg
    simp -implicitDefEqProofs only[go_sem,h1,la,ea,k2]
    refine sQ ?_
    refine⟨i+1,lo,hi,?_,sL,ar [some 0,some 1,some 2] ?_ ?_ rfl rfl⟩
    rotate_left
    ·exact sC
    ·exact sC
    exact⟨by omega,hg⟩
   ·rw[if_neg h2] at hg
    simp -implicitDefEqProofs only[go_sem,h1,la,ea,h2]
    refine aC [] (Ht v rows[i].jC aH ua.jC h4 hv) ?_
    cases hb:m7 rows[i].jC v aH with
    | none=>
      rw[hb] at hg
      simp only at hg
      have e:valueOf rows v aH=none:=by simp[valueOf,hg]
      refine uK ?_
      refine an ?_
      refine sA ?_
      all_goals(simp[e];done)
    | some b=>
      rw[hb] at hg
      simp only at hg
      rcases aa (0<bT rows[i] v) with h3|h3
      ·rw[if_pos h3] at hg
       have h3':¬bT rows[i] v<0:=by omega
       cases hi with
       | none=>
         rw[show lower b none=true from rfl,if_pos rfl] at hg
         simp -implicitDefEqProofs only[go_sem,aW,aX,bE,cg,h3]
         refine sQ ?_
         refine⟨i+1,lo,some b,?_,sL,ar [some 0,some 1,some 2] ?_ ?_ rfl rfl⟩
         rotate_left
         ·exact sC
         ·refine sA ?_
          all_goals(simp[*];done)
         exact⟨by omega,hg⟩
       | some h=>
         rw[show lower b (some h)=cY b h from rfl] at hg
         simp -implicitDefEqProofs only[go_sem,aW,aX,h3]
         refine aC [] (kT b h) ?_
         cases h5:cY b h
         ·rw[h5,if_neg (by simp)] at hg
          simp -implicitDefEqProofs only[go_sem,h3']
          refine sQ ?_
          refine⟨i+1,lo,some h,?_,sL,ar [some 0,some 1,some 2] ?_ ?_ rfl rfl⟩
          rotate_left
          ·exact sC
          ·refine sA ?_
           all_goals(simp[*];done)
          exact⟨by omega,hg⟩
         ·rw[h5,if_pos rfl] at hg
          refine sA ?_
          refine sQ ?_
          refine⟨i+1,lo,some b,?_,sL,ar [some 0,some 1,some 2] ?_ ?_ rfl rfl⟩
          rotate_left
          ·exact sC
          ·refine sA ?_
           all_goals(simp[*];done)
          exact⟨by omega,hg⟩
      ·rw[if_neg h3] at hg
       have h3':bT rows[i] v<0:=by omega
       cases lo with
       | none=>
         rw[show upper b none=true from rfl,if_pos rfl] at hg
         simp -implicitDefEqProofs only[go_sem,aW,aX,bE,cg,h3,h3']
         refine sQ ?_
         refine⟨i+1,some b,hi,?_,sL,ar [some 0,some 1,some 2] ?_ ?_ rfl rfl⟩
         rotate_left
         ·exact sC
         ·refine sA ?_
          all_goals(simp[*];done)
         exact⟨by omega,hg⟩
       | some l=>
         rw[show upper b (some l)=cY l b from rfl] at hg
         simp -implicitDefEqProofs only[go_sem,aW,aX,h3,h3']
         refine aC [] (kT l b) ?_
         cases h5:cY l b
         ·rw[h5,if_neg (by simp)] at hg
          refine sA ?_
          refine sQ ?_
          refine⟨i+1,some l,hi,?_,sL,ar [some 0,some 1,some 2] ?_ ?_ rfl rfl⟩
          rotate_left
          ·exact sC
          ·refine sA ?_
           all_goals(simp[*];done)
          exact⟨by omega,hg⟩
         ·rw[h5,if_pos rfl] at hg
          refine sA ?_
          refine sQ ?_
          refine⟨i+1,some b,hi,?_,sL,ar [some 0,some 1,some 2] ?_ ?_ rfl rfl⟩
          rotate_left
          ·exact sC
          ·refine sA ?_
           all_goals(simp[*];done)
          exact⟨by omega,hg⟩
  ·rw[ai (by omega),oN] at hg
   have e:valueOf rows v aH=Ad (kI lo hi):=by simp[valueOf,hg]
   obtain⟨o1,o2⟩:=JN (x:=kI lo hi) LA
   rw[e,o1,o2]
   cases lo with
   | none=>
     cases hi with
     | none=>
       simp -implicitDefEqProofs only[go_sem,bE,cg,h1]
       refine aC [] (fa 0) ?_
       refine an ?_
       refine sA ?_
       ((repeat' apply au)<;>rfl)
     | some h=>
       simp -implicitDefEqProofs only[go_sem,bE,cg,aW,aX,h1]
       refine aC [] (fa (-1)) ?_
       refine aC [] (p8 h (whole (-1))) ?_
       refine iK ?_
       refine an ?_
       refine sA ?_
       ((repeat' apply au)<;>rfl)
   | some l=>
     cases hi with
     | none=>
       simp -implicitDefEqProofs only[go_sem,bE,cg,aW,aX,h1]
       refine aC [] (fa 1) ?_
       refine aC [] (p8 l (whole 1)) ?_
       refine iK ?_
       refine an ?_
       refine sA ?_
       ((repeat' apply au)<;>rfl)
     | some h=>
       simp -implicitDefEqProofs only[go_sem,aW,aX,h1]
       refine aC [] (Ii l h) ?_
       refine an ?_
       refine sA ?_
       ((repeat' apply au)<;>rfl)
structure St4 where
 rows:List cH
 s0:List cH
 s1:List cH
 s2:List cH
 s3:List cH
def ab1(ls:List iV)(z:Int)(t:St4):Prop:=
 (z=3∧t=⟨bI ls,[],[],[],[]⟩)∨(z=2∧∃r2,gY (bI ls) 3=some r2∧t=⟨r2,[],[],[],bI ls⟩) ∨
 (z=1∧∃r2 r1,gY (bI ls) 3=some r2∧gY r2 2=some r1∧t=⟨r1,[],[],r2,bI ls⟩) ∨
 (z=0∧∃r2 r1 r0,gY (bI ls) 3=some r2∧gY r2 2=some r1∧gY r1 1=some r0∧t=⟨r0,[],r1,r2,bI ls⟩) ∨
 (z = -1∧∃r2 r1 r0 r,gY (bI ls) 3=some r2∧gY r2 2=some r1∧gY r1 1=some r0∧gY r0 0=some r∧t=⟨r,r0,r1,r2,bI ls⟩)
theorem IA(ls:List iV):C E.P 44 [lv (di ls)] [] (bz (.gV [lv (bp (bL ls).aH),lv (bF (bL ls).times),iv (bL ls).code]) []):=by
 cases hsys:fP ls
 ·have e:bL ls=⟨[],[],3⟩:=by simp[bL,hsys]
  refine gS (nt:=86) (rs:=[.tmp 2,.tmp 3,.tmp 4]) hm Tryz.func44 fun hl he cq=>?_
  refine aC [] (nL ls) ?_
  simp -implicitDefEqProofs only[go_sem,hsys]
  refine an ?_
  refine sA ?_
  rw[e]
  ((repeat' apply au)<;>rfl)
 have h20:ls.length≤20:=by simp only[fP,al,decide_eq_true_eq] at hsys;exact hsys.1
 have u3:=DI hsys
 have cq:=jT
 refine HA (nt:=86) (rs:=[.tmp 2,.tmp 3,.tmp 4]) Tryz.func44 rfl rfl rfl rfl rfl (fun hl he=>?_)
 simp -implicitDefEqProofs only[go_sem] at hl he⊢
 refine fl (iI hm ?_)
 simp -implicitDefEqProofs only[go_sem,dW,dS]
 refine fl (iI hm ?_)
 refine sA ?_
 refine aC [] (nL ls) ?_
 simp -implicitDefEqProofs only[go_sem,hsys]
 refine fl (iI hm ?_)
 refine sA ?_
 refine aC [] (D8 ls (by omega)) ?_
 refine fl (iI hm ?_)
 refine sA ?_
 refine fl (iI hm ?_)
 refine sA ?_
 refine cM hm (fun(z:Int) (t:St4)=> ab1 ls z t) (fun(z:Int) (t:St4)=> ⟨dx 86 .any [(0,lv (di ls)),(5,lv (dX t.rows)),(6,.ptr 0 0),(7,iv z)],[some (.box [lv (dX t.s0),lv (dX t.s1),lv (dX t.s2),lv (dX t.s3)])]⟩) (fun(z:Int) (t:St4)=> (z+1).toNat) (3) (⟨bI ls,[],[],[],[]⟩) ?_ (ar [some 0] ?_ ?_ rfl rfl) ?_
 rotate_left
 ·exact sC
 ·exact sC
 rotate_left
 ·exact .inl ⟨rfl,rfl⟩
 ·rintro z t hz
  rcases hz with⟨rfl,rfl⟩|⟨rfl,r2,g3,rfl⟩|⟨rfl,r2,r1,g3,g2,rfl⟩|⟨rfl,r2,r1,r0,g3,g2,g1,rfl⟩|⟨rfl,r2,r1,r0,rows,g3,g2,g1,g0,rfl⟩
  ·simp only
   have hu:=u3
   have cl:=tn ls.length 3 (bI ls) hu (by omega) (by omega)
   simp -implicitDefEqProofs only[go_sem,Z3,Z4]
   refine sQ ?_
   refine aC [] cl ?_
   cases hl:gY (bI ls) 3 with
   | none=>
     have e:bL ls=⟨[],[],2⟩:=by simp[bL, *]
     refine uK ?_
     refine eP ?_
     refine an ?_
     refine sA ?_
     rw[e]
     ((repeat' apply au)<;>rfl)
   | some r=>
     refine uL ?_
     refine sQ ?_
     refine⟨(2:Int),⟨r,[],[],[],bI ls⟩,?_,sL,ar [some 0] ?_ ?_ rfl rfl⟩
     rotate_left
     ·refine sA ?_
      all_goals(simp[*];done)
     ·exact sC
     exact .inr (.inl ⟨rfl,r,hl,rfl⟩)
  ·simp only
   have hu:=j9 u3 g3
   have cl:=tn ls.length 2 r2 hu (by omega) (by omega)
   simp -implicitDefEqProofs only[go_sem,Z3,Z4]
   refine sQ ?_
   refine aC [] cl ?_
   cases hl:gY r2 2 with
   | none=>
     have e:bL ls=⟨[],[],2⟩:=by simp[bL, *]
     refine uK ?_
     refine eP ?_
     refine an ?_
     refine sA ?_
     rw[e]
     ((repeat' apply au)<;>rfl)
   | some r=>
     refine uL ?_
     refine sQ ?_
     refine⟨(1:Int),⟨r,[],[],r2,bI ls⟩,?_,sL,ar [some 0] ?_ ?_ rfl rfl⟩
     rotate_left
     ·refine sA ?_
      all_goals(simp[*];done)
     ·exact sC
     exact .inr (.inr (.inl ⟨rfl,r2,r,g3,hl,rfl⟩))
  ·simp only
   have hu:=j9 (j9 u3 g3) g2
   have cl:=tn ls.length 1 r1 hu (by omega) (by omega)
   simp -implicitDefEqProofs only[go_sem,Z3,Z4]
   refine sQ ?_
   refine aC [] cl ?_
   cases hl:gY r1 1 with
   | none=>
     have e:bL ls=⟨[],[],2⟩:=by simp[bL, *]
     refine uK ?_
     refine eP ?_
     refine an ?_
     refine sA ?_
     rw[e]
     ((repeat' apply au)<;>rfl)
   | some r=>
     refine uL ?_
     refine sQ ?_
     refine⟨(0:Int),⟨r,[],r1,r2,bI ls⟩,?_,sL,ar [some 0] ?_ ?_ rfl rfl⟩
     rotate_left
     ·refine sA ?_
      all_goals(simp[*];done)
     ·exact sC
     exact .inr (.inr (.inr (.inl ⟨rfl,r2,r1,r,g3,g2,hl,rfl⟩)))
  ·simp only
   have hu:=j9 (j9 (j9 u3 g3) g2) g1
   have cl:=tn ls.length 0 r0 hu (by omega) (by omega)
   refine sA ?_
   refine aC [] cl ?_
   cases hl:gY r0 0 with
   | none=>
     have e:bL ls=⟨[],[],2⟩:=by simp[bL, *]
     refine uK ?_
     refine eP ?_
     refine an ?_
     refine sA ?_
     rw[e]
     ((repeat' apply au)<;>rfl)
   | some r=>
     refine uL ?_
     refine sQ ?_
     refine⟨(-1:Int),⟨r,r0,r1,r2,bI ls⟩,?_,sL,ar [some 0] ?_ ?_ rfl rfl⟩
     rotate_left
     ·refine sA ?_
      all_goals(simp[*];done)
     ·exact sC
     exact .inr (.inr (.inr (.inr ⟨rfl,r2,r1,r0,r,g3,g2,g1,hl,rfl⟩)))
  ·simp only
   have u2:=j9 u3 g3
   have u1:=j9 u2 g2
   have u0:=j9 u1 g1
   have ur:=j9 u0 g0
   have hrl:=ur.1
   have hF:bL ls=ik ls r0 r1 r2 (bI ls) rows:=by simp[bL,hsys,g3,g2,g1,g0]
   clear g3 g2 g1 g0
   simp -implicitDefEqProofs only[go_sem,Z3]
   refine fl (iI hm ?_)
   refine sA ?_
   refine aL hm (fun(i:Nat)=> i≤rows.length∧(rows.find? fun r=>kv r.jC)=(rows.drop i).find? fun r=>kv r.jC) (fun(i:Nat)=> ⟨dx 86 .any [(0,lv (di ls)),(6,.ptr 0 0),(37,lv (dX rows)),(38,iv rows.length),(39,iv i)],[some (.box [lv (dX r0),lv (dX r1),lv (dX r2),lv (dX (bI ls))])]⟩) (fun(i:Nat)=> rows.length-i) (0) ?_ (ar [some 0] ?_ ?_ rfl rfl) ?_
   rotate_left
   ·exact sC
   ·exact sC
   rotate_left
   ·simp
   ·rintro i ⟨hi,mT⟩
    rcases aa (i<rows.length) with h1|h1
    ·have ua:=ur.2 rows[i] (ak h1)
     rw[ae h1,List.find?_cons] at mT
     refine uA ?_
     refine aC [] (y9 rows[i].jC) ?_
     cases hb:kv rows[i].jC
     ·rw[hb] at mT
      refine sA ?_
      refine sQ ?_
      refine⟨i+1,?_,sL,ar [some 0] ?_ ?_ rfl rfl⟩
      rotate_left
      ·exact sC
      ·exact sC
      exact⟨by omega,mT⟩
     ·rw[hb] at mT
      simp only at mT
      have hal:=ua.len
      refine sA ?_
      refine aC [] (BZ ls rows[i].fQ) ?_
      cases hf:sa ls rows[i].fQ
      ·have e:bL ls=⟨[],[],2⟩:=by rw[hF,ik,mT];simp[hf]
       refine sA ?_
       refine eP ?_
       refine an ?_
       refine sA ?_
       rw[e]
       ((repeat' apply au)<;>rfl)
      ·have e:bL ls=⟨[],rows[i].fQ,1⟩:=by rw[hF,ik,mT];simp[hf]
       refine sA ?_
       refine aC [] (N9 rows[i].fQ (by omega)) ?_
       refine eP ?_
       refine an ?_
       refine sA ?_
       rw[e]
       ((repeat' apply au)<;>rfl)
    ·rw[ai (by omega),List.find?_nil] at mT
     refine uA ?_
     refine fl (oB ?_)
     refine iY rfl ?_
     refine aC [] (fa 0) ?_
     refine iY rfl ?_
     refine aC [] (fa 0) ?_
     refine iY rfl ?_
     refine aC [] (fa 0) ?_
     refine iY rfl ?_
     refine aC [] (fa 0) ?_
     refine iY rfl (fg (pf 69 71 4 1 _ _ _ (bp nU) rfl rfl rfl rfl rfl (by simp -implicitDefEqProofs only[go_sem];rfl) (by decide) (by decide) rfl) ?_)
     refine sA ?_
     refine iY rfl (fu ?_)
     refine sA ?_
     refine wc ?_
     refine sA ?_
     refine fl (iI hm ?_)
     refine sA ?_
     refine cM hm (fun(z:Int) (aH:List Mod.Rat)=> aH.length=4∧((z=0∧me [r0,r1,r2,bI ls] 0 nU=me [r0,r1,r2,bI ls] 0 aH)∨(z=1∧me [r0,r1,r2,bI ls] 0 nU=me [r1,r2,bI ls] 1 aH)∨(z=2∧me [r0,r1,r2,bI ls] 0 nU=me [r2,bI ls] 2 aH)∨(z=3∧me [r0,r1,r2,bI ls] 0 nU=me [bI ls] 3 aH)∨(z=4∧me [r0,r1,r2,bI ls] 0 nU=some aH))) (fun(z:Int) (aH:List Mod.Rat)=> ⟨dx 86 .any [(0,lv (di ls)),(6,.ptr 0 0),(12,.acc 1),(61,iv 4),(62,iv z)],[some (.box [lv (dX r0),lv (dX r1),lv (dX r2),lv (dX (bI ls))]),some (.acc 71 (bp aH))]⟩) (fun(z:Int) (aH:List Mod.Rat)=> (4-z).toNat) (0) (nU) ?_ (ar [some 0,some 1] ?_ ?_ rfl rfl) ?_
     rotate_left
     ·refine sA ?_
      all_goals(rfl)
     ·exact sC
     rotate_left
     ·exact⟨rfl,.inl ⟨rfl,rfl⟩⟩
     ·rintro z aH ⟨hv4,hg⟩
      have hLv:(bp aH).length=4:=by rw[x6];exact hv4
      rcases hg with⟨rfl,hg⟩|⟨rfl,hg⟩|⟨rfl,hg⟩|⟨rfl,hg⟩|⟨rfl,hg⟩
      ·have cv:=ot ls.length 0 r0 aH (by assumption) hv4 (by omega)
       simp -implicitDefEqProofs only[go_sem,Z2]
       refine dH [] [1] cv rfl ?_ ?_ ?_
       ·exact sV
       all_goals simp -implicitDefEqProofs only[go_sem]
       cases hx:valueOf r0 0 aH with
       | none=>
         rw[tH (st:=[r1,r2,bI ls]) hx] at hg
         have e:bL ls=⟨[],[],2⟩:=by rw[hF,ik,mT];simp only[hg]
         refine uK ?_
         refine eP ?_
         refine an ?_
         refine sA ?_
         rw[e]
         ((repeat' apply au)<;>rfl)
       | some x=>
         rw[s9 (st:=[r1,r2,bI ls]) hx] at hg
         refine uL ?_
         refine sQ ?_
         refine⟨(1:Int),aH.set 0 x,?_,sL,ar [some 0,some 1] ?_ ?_ rfl rfl⟩
         rotate_left
         ·refine sA ?_
          all_goals(simp[*];done)
         ·refine sA ?_
          all_goals(exact qF (by omega))
         exact⟨by simpa using hv4,.inr (.inl ⟨rfl,hg⟩)⟩
      ·have cv:=ot ls.length 1 r1 aH (by assumption) hv4 (by omega)
       simp -implicitDefEqProofs only[go_sem,Z2,Z3,Z4]
       refine sQ ?_
       refine dH [] [1] cv rfl ?_ ?_ ?_
       ·exact sV
       all_goals simp -implicitDefEqProofs only[go_sem]
       cases hx:valueOf r1 1 aH with
       | none=>
         rw[tH (st:=[r2,bI ls]) hx] at hg
         have e:bL ls=⟨[],[],2⟩:=by rw[hF,ik,mT];simp only[hg]
         refine uK ?_
         refine eP ?_
         refine an ?_
         refine sA ?_
         rw[e]
         ((repeat' apply au)<;>rfl)
       | some x=>
         rw[s9 (st:=[r2,bI ls]) hx] at hg
         simp -implicitDefEqProofs only[go_sem,Z3,Z4,aW,aX]
         refine sQ ?_
         refine⟨(2:Int),aH.set 1 x,?_,sL,ar [some 0,some 1] ?_ ?_ rfl rfl⟩
         rotate_left
         ·refine sA ?_
          all_goals(simp[*];done)
         ·refine sA ?_
          all_goals(exact qF (by omega))
         exact⟨by simpa using hv4,.inr (.inr (.inl ⟨rfl,hg⟩))⟩
      ·have cv:=ot ls.length 2 r2 aH (by assumption) hv4 (by omega)
       simp -implicitDefEqProofs only[go_sem,Z2,Z3,Z4]
       refine sQ ?_
       refine dH [] [1] cv rfl ?_ ?_ ?_
       ·exact sV
       all_goals simp -implicitDefEqProofs only[go_sem]
       cases hx:valueOf r2 2 aH with
       | none=>
         rw[tH (st:=[bI ls]) hx] at hg
         have e:bL ls=⟨[],[],2⟩:=by rw[hF,ik,mT];simp only[hg]
         refine uK ?_
         refine eP ?_
         refine an ?_
         refine sA ?_
         rw[e]
         ((repeat' apply au)<;>rfl)
       | some x=>
         rw[s9 (st:=[bI ls]) hx] at hg
         simp -implicitDefEqProofs only[go_sem,Z3,Z4,aW,aX]
         refine sQ ?_
         refine⟨(3:Int),aH.set 2 x,?_,sL,ar [some 0,some 1] ?_ ?_ rfl rfl⟩
         rotate_left
         ·refine sA ?_
          all_goals(simp[*];done)
         ·refine sA ?_
          all_goals(exact qF (by omega))
         exact⟨by simpa using hv4,.inr (.inr (.inr (.inl ⟨rfl,hg⟩)))⟩
      ·have cv:=ot ls.length 3 (bI ls) aH (by assumption) hv4 (by omega)
       simp -implicitDefEqProofs only[go_sem,Z2,Z3,Z4]
       refine sQ ?_
       refine dH [] [1] cv rfl ?_ ?_ ?_
       ·exact sV
       all_goals simp -implicitDefEqProofs only[go_sem]
       cases hx:valueOf (bI ls) 3 aH with
       | none=>
         rw[tH (st:=[]) hx] at hg
         have e:bL ls=⟨[],[],2⟩:=by rw[hF,ik,mT];simp only[hg]
         refine uK ?_
         refine eP ?_
         refine an ?_
         refine sA ?_
         rw[e]
         ((repeat' apply au)<;>rfl)
       | some x=>
         rw[s9 (st:=[]) hx] at hg
         simp -implicitDefEqProofs only[go_sem,Z3,Z4,aW,aX]
         refine sQ ?_
         refine⟨(4:Int),aH.set 3 x,?_,sL,ar [some 0,some 1] ?_ ?_ rfl rfl⟩
         rotate_left
         ·refine sA ?_
          all_goals(simp[*];done)
         ·refine sA ?_
          all_goals(exact qF (by omega))
         exact⟨by simpa using hv4,.inr (.inr (.inr (.inr ⟨rfl,hg⟩)))⟩
      ·simp -implicitDefEqProofs only[go_sem,Z2]
       refine fl (iI hm ?_)
       refine sA ?_
       refine dH [] [1] (HY ls aH) rfl ?_ ?_ ?_
       ·exact sV
       all_goals simp -implicitDefEqProofs only[go_sem]
       cases hf:lg ls aH
       ·have e:bL ls=⟨[],[],2⟩:=by rw[hF,ik,mT];simp[hg,hf]
        refine sA ?_
        refine eP ?_
        refine an ?_
        refine sA ?_
        rw[e]
        ((repeat' apply au)<;>rfl)
       ·have e:bL ls=⟨aH,[],0⟩:=by rw[hF,ik,mT];simp[hg,hf]
        refine sA ?_
        refine iI hm ?_
        refine sA ?_
        refine eP ?_
        refine an ?_
        refine sA ?_
        rw[e]
        ((repeat' apply au)<;>rfl)
end Go.Proofs.YtabembjmeobhoaaGreat
