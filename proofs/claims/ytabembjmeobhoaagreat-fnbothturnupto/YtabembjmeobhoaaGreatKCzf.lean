/-
  The program: the walks of elimination and of systems. A step towards the laws.
-/
import Derived.Test.YtabembjmeobhoaaGreatKCc
import Derived.Test.YtabembjmeobhoaaGreatKCd
import Derived.Test.YtabembjmeobhoaaGreatKCq
import Derived.Test.YtabembjmeobhoaaGreatKCEk
set_option linter.unusedVariables false
set_option linter.unusedSimpArgs false
open And renaming intro→au
open Bool renaming and_eq_true→ai,false_eq_true→aw
open Classical renaming em→aa
open Int renaming gcd→bM
open List renaming drop_eq_getElem_cons→ah,getElem_mem→ak,drop_of_length_le→al,take_of_length_le→ao,replicate→aU,range→bu,nil_append→bC
open Nat renaming zero_le→bc
open Option renaming getD_some→aX,isSome_some→aY,isSome_none→bE,getD_none→cf
namespace Go.Proofs.YtabembjmeobhoaaGreat
open Go.Eng Go.Mod
open Int renaming reduceEq→Z1,reduceLT→Z2,reduceLE→Z3,reduceToNat→Z4
set_option maxRecDepth 100000
set_option maxHeartbeats 800000
theorem CQ(n d:Int)(hn:-1000000000≤n∧n≤1000000000)(hd:-1000000000≤d∧d≤1000000000):C E.P 235 [iv n,iv d] [] (bD (.gV [av (eY (iw n d).1),bv (iw n d).2]) []):=by
 rcases aa (d=0) with h0|h0
 ·have k0:=eq_true h0
  refine gS (nt:=32) (rs:=[.cell 4 71,.tmp 5]) hm Tryz.func235 fun hl he cq=>?_
  refine uH ?_
  refine an ?_
  refine sA ?_
  all_goals(simp[iw,h0];done)
 rcases aa (d<0) with h1|h1
 ·have e:iw n d=if bW ⟨(-n).tdiv (bM (-n) (-d)),(-d).tdiv (bM (-n) (-d))⟩ then(⟨(-n).tdiv (bM (-n) (-d)),(-d).tdiv (bM (-n) (-d))⟩,true) else(jO,false):=by
   unfold iw
   rw[if_neg h0]
   simp only[if_pos h1]
  have hg:=Md (n:=-n) (d:=-d) (by omega)
  have b1:=pH (n:=-n) (k:=1000000000) hg (by omega)
  have b2:=pH (n:=-d) (k:=1000000000) hg (by omega)
  have jD:¬ (bM (-n) (-d):Int)=0:=by omega
  refine gS (nt:=32) (rs:=[.cell 4 71,.tmp 5]) hm Tryz.func235 fun hl he cq=>?_
  simp -implicitDefEqProofs only[go_sem,h0,h1]
  refine sQ ?_
  refine aC [] (wg (-n) (-d) (by omega) (by omega)) ?_
  refine sQ ?_
  refine aC [] (hH ⟨(-n).tdiv (bM (-n) (-d)),(-d).tdiv (bM (-n) (-d))⟩) ?_
  cases h2:bW ⟨(-n).tdiv (bM (-n) (-d)),(-d).tdiv (bM (-n) (-d))⟩
  ·refine sA ?_
   refine an ?_
   refine sA ?_
   rw[e,if_neg (by rw[h2];simp)]
   exact⟨⟨rfl,rfl⟩,rfl⟩
  ·refine sA ?_
   refine an ?_
   refine sA ?_
   rw[e,if_pos h2]
   exact⟨⟨rfl,rfl⟩,rfl⟩
 ·exact vI n d (by omega) (by omega)
theorem Mc(n d:Int):C E.P 234 [iv n,iv d] [] (bD (.gV [av (eY (lA n d).1),bv (lA n d).2]) []):=by
 refine gS (nt:=20) (rs:=[.cell 4 71,.tmp 5]) hm Tryz.func234 fun hl he cq=>?_
 refine aC [] (fv n (-1000000000) 1000000000) ?_
 cases g1:within n (-1000000000) 1000000000
 ·refine sA ?_
  refine an ?_
  refine sA ?_
  all_goals(simp[lA,g1];done)
 ·refine sA ?_
  refine aC [] (fv d (-1000000000) 1000000000) ?_
  cases g2:within d (-1000000000) 1000000000
  ·refine sA ?_
   refine an ?_
   refine sA ?_
   all_goals(simp[lA,g1,g2];done)
  ·have h1:=dk.1 g1
   have h2:=dk.1 g2
   refine sA ?_
   refine aC [] (CQ n d h1 h2) ?_
   refine an ?_
   refine sA ?_
   all_goals(simp[lA,g1,g2];done)
theorem Jd(a b:Mod.Rat):C E.P 176 [av (eY a),av (eY b)] [] (bD (.gV [av (eY (ra a b).1),bv (ra a b).2]) []):=by
 refine gS (nt:=22) (rs:=[.cell 4 71,.tmp 5]) hm Tryz.func176 fun hl he cq=>?_
 refine aC [] (pZ a b) ?_
 cases g1:(df a b).2
 ·refine sA ?_
  refine an ?_
  refine sA ?_
  all_goals(simp[ra,g1];done)
 ·refine sA ?_
  refine aC [] (tQ (df a b).1 ⟨1,2⟩) ?_
  refine an ?_
  refine sA ?_
  all_goals(simp[ra,g1];done)
theorem wI(n:Mod.Rat):C E.P 236 [av (eY n)] [] (bD (bv (!bW n)) []):=by
 refine gS (nt:=6) (rs:=[.tmp 2]) hm Tryz.func236 fun hl he cq=>?_
 refine aC [] (hH n) ?_
 refine an ?_
 exact sC
theorem re(aB:List Mod.Rat):C E.P 178 [lv (br aB)] [] (bD (bv (qC aB)) []):=by
 refine gS (nt:=11) (rs:=[.tmp 2]) hm Tryz.func178 fun hl he cq=>?_
 rcases aa ((aB.length:Int)=4) with h|h
 ·have h':aB.length=4:=by omega
  have k:=eq_true h
  refine uG ?_
  refine aC [] (rI 236 [] rfl (fun n=>!bW n) aB (fun n _=>wI n)) ?_
  refine an ?_
  refine sA ?_
  all_goals(simp[qC,h',List.all_eq_not_any_not];done)
 ·have h':¬aB.length=4:=by omega
  refine uF ?_
  refine an ?_
  refine sA ?_
  all_goals(simp[qC,h'];done)
theorem S0{aB:List Mod.Rat}(h:qC aB=true):aB.length=4:=by
 simp only[qC,ai,decide_eq_true_eq] at h
 exact h.1
theorem Lx(l:ir)(aB:List Mod.Rat):C E.P 179 [av (eS l),lv (br aB)] [] (bD (.gV [bv ((mv l aB).getD false),bv (mv l aB).isSome]) []):=by
 refine gS (nt:=48) (rs:=[.tmp 4,.tmp 5]) hm Tryz.func179 fun hl he cq=>?_
 refine aC [] (gY l) ?_
 cases g1:dU l
 ·refine sA ?_
  refine an ?_
  refine sA ?_
  all_goals(simp[mv,g1];done)
 ·refine sA ?_
  refine aC [] (re aB) ?_
  cases g2:qC aB
  ·refine sA ?_
   refine an ?_
   refine sA ?_
   all_goals(simp[mv,g1,g2];done)
  ·obtain⟨hn1,hc1,hb1⟩:=gD.1 g1
   have hv:=S0 g2
   have e:mv l aB=(ll l.aG aB (whole 0)).map fun x=>below x l.bound l.strict:=by simp[mv,g1,g2]
   refine sA ?_
   refine aC [] (fj 0) ?_
   refine cQ hm (fun(i:Nat) (sum:Mod.Rat)=> i≤l.aG.length∧ll l.aG aB (whole 0)=ll (l.aG.drop i) (aB.drop i) sum) (fun(i:Nat) (sum:Mod.Rat)=> ⟨dH 48 .any [(1,lv (br aB)),(2,.ptr 0 0),(6,.ptr 1 0),(21,lv (bI l.aG)),(22,iv l.aG.length),(23,iv i)],[some (.box (cF (eS l))),some (.box (cF (eY sum)))]⟩) (fun(i:Nat) (sum:Mod.Rat)=> l.aG.length-i) (0) (whole 0) ?_ (ar [some 0,some 1] ?_ ?_ rfl rfl) ?_
   rotate_left
   ·exact sC
   ·exact sC
   rotate_left
   ·simp
   ·rintro i sum ⟨hi,hg⟩
    rcases aa (i<l.aG.length) with h1|h1
    ·have h2:i<aB.length:=by omega
     rw[O7 h1 h2] at hg
     refine uJ ?_
     refine aC [] (wW sum l.aG[i] aB[i]) ?_
     refine iK ?_
     cases h3:(plus sum l.aG[i] aB[i]).2
     ·rw[h3] at hg
      simp only[aw,if_false] at hg
      rw[hg] at e
      refine sA ?_
      refine an ?_
      refine sA ?_
      all_goals(simp[e];done)
     ·rw[h3] at hg
      simp only[if_true] at hg
      refine sA ?_
      refine sQ ?_
      refine⟨i+1,(plus sum l.aG[i] aB[i]).1,?_,sL,ar [some 0,some 1] ?_ ?_ rfl rfl⟩
      rotate_left
      ·exact sC
      ·exact sC
      exact⟨by omega,hg⟩
    ·rw[al (by omega),GW] at hg
     rw[hg] at e
     refine uA ?_
     refine aC [] (A7 sum l.bound l.strict) ?_
     refine an ?_
     refine sA ?_
     all_goals(simp[e];done)
theorem I8(ls:List ir)(aB:List Mod.Rat):C E.P 107 [lv (dm ls),lv (br aB)] [] (bD (bv (lj ls aB)) []):=by
 refine gS (nt:=36) (rs:=[.tmp 4]) hm Tryz.func107 fun hl he cq=>?_
 refine aC [] (nQ ls) ?_
 cases g1:fS ls
 ·refine sA ?_
  refine an ?_
  refine sA ?_
  all_goals(simp[lj,g1];done)
 ·refine sA ?_
  refine aC [] (re aB) ?_
  cases g2:qC aB
  ·refine sA ?_
   refine an ?_
   refine sA ?_
   all_goals(simp[lj,g1,g2];done)
  ·have e:lj ls aB=ls.all fun l=>decide (mv l aB=some true):=by simp[lj,g1,g2]
   refine sA ?_
   refine aM hm (fun(i:Nat)=> i≤ls.length∧lj ls aB=(ls.drop i).all fun l=>decide (mv l aB=some true)) (fun(i:Nat)=> ⟨dH 36 .any [(1,lv (br aB)),(17,lv (dm ls)),(18,iv ls.length),(19,iv i)],[]⟩) (fun(i:Nat)=> ls.length-i) (0) ?_ (ar [] ?_ ?_ rfl rfl) ?_
   rotate_left
   ·exact sC
   ·exact sC
   rotate_left
   ·simp[e]
   ·rintro i ⟨hi,hg⟩
    rcases aa (i<ls.length) with h1|h1
    ·rw[ah h1,List.all_cons] at hg
     refine uA ?_
     refine aC [] (Lx ls[i] aB) ?_
     cases h2:mv ls[i] aB with
     | none=>
       rw[h2] at hg
       refine uK ?_
       refine an ?_
       refine sA ?_
       all_goals(simp[hg];done)
     | some b=>
       rw[h2] at hg
       cases b
       ·refine uL ?_
        refine an ?_
        refine sA ?_
        all_goals(simp[hg];done)
       ·refine uL ?_
        refine sQ ?_
        refine⟨i+1,?_,sL,ar [] ?_ ?_ rfl rfl⟩
        rotate_left
        ·exact sC
        ·exact sC
        refine⟨by omega,?_⟩
        rw[hg];simp
    ·rw[al (by omega),List.all_nil] at hg
     refine uA ?_
     refine an ?_
     refine sA ?_
     all_goals(simp[hg];done)
def cUT(r:cI):List T:=[.leaf (.dC (bI r.jI.aG)),.leaf (.val (.int .i64 r.jI.bound)),.leaf (.val (.bool r.jI.strict)),.own 3 (BG r.fU)]
def uT(l:List cI):List (List T):=l.map cUT
theorem PK:∀(l:List cI),cZ (uT l)=some (eE l)
 | []=>rfl
 | s::l=>by
   have:=PK l
   simp only[uT,List.map_cons] at this⊢
   simp[cZ,gm,T.Gl,cUT,F3,this,eE,cU]
theorem Rs(l:List cI):(uT l).length=l.length:=by simp[uT]
theorem Z6(l:List cI)(t:cI):uT l++[cUT t]=uT (l++[t]):=by simp[uT]
theorem Zn(l:List cI):(cZ (uT l)).isSome=true:=by rw[PK];rfl
attribute [go_sem] PK Rs
theorem PQ{n i:Nat}(h:i<n):(bI (aU n 0)).set i [.val (.int .i64 1)]=bI (tr n i):=by
 rw[tr,←CC (by simpa using h)]
theorem Ht{n i:Nat}(h:i<n):lift ((bI (aU n 0)).set i (sS (row (bI (aU n 0)) i) 0 [.val (.int .i64 1)]))=BG (tr n i):=by
 have e:sS (row (bI (aU n 0)) i) 0 [.val (.int .i64 1)]=[D.val (.int .i64 1)]:=by
  rw[Dr (by simpa using h)]
  simp[sS]
 rw[e,PQ h,Ay]
theorem FD{ls:List ir}{i:Nat}(h:i<ls.length):uT ((bu i).map fun i=>⟨ls.getD i mO,tr ls.length i⟩)++[[.leaf (.dC (bI ls[i].aG)),.leaf (.val (.int .i64 ls[i].bound)),.leaf (.val (.bool ls[i].strict)),.own 3 (BG (tr ls.length i))]]=uT ((bu i++[i]).map fun i=>⟨ls.getD i mO,tr ls.length i⟩):=by
 rw[List.map_append,List.map_singleton,getD_at h,←Z6]
 rfl
theorem Ep(ls:List ir)(hl:ls.length≤100):C E.P 101 [lv (dm ls)] [] (bD (lv (eE (bJ ls))) []):=by
 refine gS (nt:=28) (rs:=[.tmp 2]) hm Tryz.func101 fun hl he cq=>?_
 refine aM hm (fun(i:Nat)=> i≤ls.length) (fun(i:Nat)=> ⟨dH 28 .any [(0,lv (dm ls)),(3,.acc 0),(7,lv (dm ls)),(8,iv ls.length),(9,iv i)],[some (.fw 164 (uT ((bu i).map fun i=>⟨ls.getD i mO,tr ls.length i⟩)))]⟩) (fun(i:Nat)=> ls.length-i) (0) ?_ (ar [none] ?_ ?_ rfl rfl) ?_
 rotate_left
 ·exact sC
 ·refine sA ?_
  all_goals(rfl)
 rotate_left
 ·omega
 ·rintro i hi
  have hp:(uT ((bu i).map fun i=>(⟨ls.getD i mO,tr ls.length i⟩:cI))).length=i:=by rw[Rs];simp
  rcases aa (i<ls.length) with h1|h1
  ·have hz:aU ls.length ([D.val (Value.int .i64 0)]:List D)=bI (aU ls.length 0):=by simp[bI]
   refine uA ?_
   refine sQ ?_
   simp -implicitDefEqProofs only[go_sem,hz]
   refine⟨i+1,?_,?_,Bx 4 i _ rfl (by rw[List.length_append,hp];simp) (wQ hp) ?_⟩
   rotate_left
   ·show _ < _
    omega
   ·refine sA ?_
    refine ar [some 4] ?_ ?_ rfl rfl
    ·exact sC
    ·refine sA ?_
     all_goals(rw[xY hp,Ht h1];exact⟨FD h1,(congrArg (fun z=>(cZ z).isSome) (FD h1)).trans (Zn _)⟩)
   exact h1
  ·refine uA ?_
   refine an ?_
   refine sA ?_
   obtain rfl:i=ls.length:=by omega
   exact⟨_,rfl,rfl⟩
theorem Jf(n v:Nat)(a b:cI)(ha:H9 n a)(hb:H9 n b)(hn:n≤100)(hv:v<4)(h1:0<bS a v)(h2:bS b v<0):C E.P 172 [av (cU a),av (cU b),iv v] [] (bD (.gV [av (cU (AW a b v)),bv (tZ a b v)]) []):=by
 have ca:=ha.TU v
 have cb:=hb.TU v
 obtain⟨⟨hg1,hg2⟩,⟨hp1,hp2⟩,⟨hq1,hq2⟩⟩:=Fq ha hb h1 h2
 have la:v<a.jI.aG.length:=by rw[(gD.1 ha.jI).1];exact hv
 have lb:v<b.jI.aG.length:=by rw[(gD.1 hb.jI).1];exact hv
 have ea:a.jI.aG[v]=bS a v:=(getD_at la).symm
 have eb:b.jI.aG[v]=bS b v:=(getD_at lb).symm
 have hal:=ha.len
 have hbl:=hb.len
 have eg:(bM (bS a v) (-(bS b v)):Int)=uW a b v:=rfl
 have ep:(bS a v).tdiv (uW a b v)=o9 a b v:=rfl
 have eq:(-(bS b v)).tdiv (uW a b v)=pd a b v:=rfl
 have e1:AW a b v=⟨(ez a.jI (pd a b v) b.jI (o9 a b v)).1,qx a b v⟩:=rfl
 have e2:tZ a b v=((ez a.jI (pd a b v) b.jI (o9 a b v)).2&&(qx a b v).all fun n=>decide (n≤1000000)):=rfl
 have e3:qx a b v=comb (pd a b v) (o9 a b v) a.fU b.fU:=rfl
 generalize uW a b v=g at *
 generalize o9 a b v=p at *
 generalize pd a b v=q at *
 refine gS (nt:=85) (rs:=[.cell 6 164,.tmp 7]) hm Tryz.func172 fun hl he cq=>?_
 simp -implicitDefEqProofs only[go_sem,la,lb,ea,eb]
 refine sQ ?_
 refine bp [] (wg (bS a v) (-(bS b v)) (by omega) (by omega)) ?_ ?_<;>simp -implicitDefEqProofs only[go_sem,eg]
 refine sQ ?_
 simp -implicitDefEqProofs only[go_sem,ep,eq]
 refine aC [] (zK a.jI q b.jI p) ?_
 obtain⟨l,hl⟩:∃l,(ez a.jI q b.jI p).1=l:=⟨_,rfl⟩
 obtain⟨ok,e7⟩:∃l,(ez a.jI q b.jI p).2=l:=⟨_,rfl⟩
 rw[hl] at e1
 rw[e7] at e2
 simp -implicitDefEqProofs only[go_sem,hl,e7]
 refine cQ hm (fun(i:Nat) (o:Bool)=> i≤n∧o=(ok&&(comb q p (a.fU.take i) (b.fU.take i)).all fun n=>decide (n≤1000000))) (fun(i:Nat) (o:Bool)=> ⟨dH 85 .any [(3,.ptr 0 0),(4,.ptr 1 0),(6,.ptr 2 0),(8,iv p),(9,iv q),(12,bv o),(13,.ptr 3 0),(52,iv n),(53,iv i)],[some (.box (cF (cU a))),some (.box (cF (cU b))),some (.box (cF (cU ⟨mO,[]⟩))),some (.box [lv (bI l.aG),iv l.bound,bv l.strict,.acc 4]),some (.acc 3 (bI (comb q p (a.fU.take i) (b.fU.take i))))]⟩) (fun(i:Nat) (o:Bool)=> n-i) (0) (ok) ?_ (ar [some 0,some 1,some 2,some 4,none] ?_ ?_ rfl rfl) ?_
 rotate_left
 ·refine sA ?_
  all_goals(simp[*])
 ·refine sA ?_
  all_goals(simp[comb, *])
 rotate_left
 ·simp[comb]
 ·rintro i o ⟨hi,ho⟩
  rcases aa (i<n) with h3|h3
  ·have h4:i<a.fU.length:=by omega
   have h5:i<b.fU.length:=by omega
   have b1:=ha.bd a.fU[i] (ak h4)
   have b2:=hb.bd b.fU[i] (ak h5)
   have m1:=dw (m:=q) (b:=a.fU[i]) (by omega) hq2 (by omega)
   have m2:=dw (m:=p) (b:=b.fU[i]) (by omega) hp2 (by omega)
   have dz:(comb q p (a.fU.take i) (b.fU.take i)).length≤100:=by rw[ke (by simp;omega)];simp;omega
   have ho2:(ok&&(comb q p (a.fU.take (i+1)) (b.fU.take (i+1))).all fun n=>decide (n≤1000000))=(o&&decide (q*a.fU[i]+p*b.fU[i]≤1000000)):=by
    rw[ho,fe h4 h5,List.all_append,←Bool.and_assoc]
    simp
   cases o
   ·simp -implicitDefEqProofs only[go_sem,h3,h4,h5]
    refine sQ ?_
    refine⟨i+1,false,?_,sL,ar [some 0,some 1,some 2,some 3,some 5] ?_ ?_ rfl rfl⟩
    rotate_left
    ·exact sC
    ·refine sA ?_
     all_goals((rw[fe h4 h5,←eQ];rfl))
    exact⟨h3,by rw[ho2];rfl⟩
   ·simp -implicitDefEqProofs only[go_sem,h3,h4,h5]
    refine sQ ?_
    refine⟨i+1,(decide (q*a.fU[i]+p*b.fU[i]≤1000000)),?_,sL,ar [some 0,some 1,some 2,some 3,some 5] ?_ ?_ rfl rfl⟩
    rotate_left
    ·exact sC
    ·refine sA ?_
     all_goals((rw[fe h4 h5,←eQ];rfl))
    exact⟨h3,by rw[ho2];simp⟩
  ·have ta:a.fU.take i=a.fU:=ao (by omega)
   have tb:b.fU.take i=b.fU:=ao (by omega)
   rw[ta,tb,←e3] at ho⊢
   rw[←e2] at ho
   refine uC ?_
   refine an ?_
   refine sA ?_
   rw[e1,ho]
   repeat' apply au
   all_goals rfl
theorem Bf{n v:Nat}{r:cI}(h:H9 n r)(hv:v<4):∃h:v<r.jI.aG.length,r.jI.aG[v]=bS r v:=by
 have la:v<r.jI.aG.length:=by rw[(gD.1 h.jI).1];exact hv
 exact⟨la,(getD_at la).symm⟩
theorem s5(n v:Nat)(rows:List cI)(hr:xi n rows)(hn:n≤100)(hv:v<4):C E.P 102 [lv (eE rows),iv v] [] (bD (.gV [lv (eE ((gW rows v).getD [])),bv (gW rows v).isSome]) []):=by
 obtain⟨dz,l7⟩:=hr
 refine gS (nt:=85) (rs:=[.tmp 4,.tmp 5]) hm Tryz.func102 fun hl he cq=>?_
 refine aM hm (fun(i:Nat)=> i≤rows.length) (fun(i:Nat)=> ⟨dH 85 .any [(0,lv (eE rows)),(1,iv v),(6,.acc 0),(15,lv (eE rows)),(16,iv rows.length),(17,iv i)],[some (.acc 164 (eE ((rows.take i).filter fun r=>decide (bS r v=0))))]⟩) (fun(i:Nat)=> rows.length-i) (0) ?_ (ar [none] ?_ ?_ rfl rfl) ?_
 rotate_left
 ·exact sC
 ·refine sA ?_
  all_goals(rfl)
 rotate_left
 ·omega
 ·rintro i hi
  have hfl:((rows.take i).filter fun r=>decide (bS r v=0)).length≤200:=by
   have:=List.length_filter_le (fun r:cI=>decide (bS r v=0)) (rows.take i)
   rw[List.length_take] at this
   omega
  rcases aa (i<rows.length) with h1|h1
  ·obtain⟨la,ea⟩:=Bf (l7 rows[i] (ak h1)) hv
   have hs:=El (p:=fun r:cI=>decide (bS r v=0)) h1
   rcases aa (bS rows[i] v=0) with h2|h2
   ·have k2:=eq_true h2
    rw[if_pos (by simpa using h2)] at hs
    simp -implicitDefEqProofs only[go_sem,h1,la,ea,k2]
    refine sQ ?_
    refine⟨i+1,?_,sL,ar [some 2] ?_ ?_ rfl rfl⟩
    rotate_left
    ·exact sC
    ·refine sA ?_
     all_goals((rw[hs,←yQ,vS,uR];rfl))
    exact h1
   ·rw[if_neg (by simpa using h2),List.append_nil] at hs
    simp -implicitDefEqProofs only[go_sem,h1,la,ea,h2]
    refine sQ ?_
    refine⟨i+1,?_,sL,ar [some 0] ?_ ?_ rfl rfl⟩
    rotate_left
    ·exact sC
    ·refine sA ?_
     all_goals((rw[hs]))
    exact h1
  ·have et:rows.take i=rows:=ao (by omega)
   rw[et] at hfl⊢
   obtain⟨out0,ho0⟩:∃o,(rows.filter fun r=>decide (bS r v=0))=o:=⟨_,rfl⟩
   have hL:gW rows v=mJ v (pq rows rows v) out0:=by rw[←ho0];rfl
   rw[ho0] at hfl⊢
   refine uA ?_
   clear hi h1
   refine cQ hm (fun(i:Nat) (out:List cI)=> i≤rows.length∧out.length≤200∧gW rows v=mJ v (pq rows (rows.drop i) v) out) (fun(i:Nat) (out:List cI)=> ⟨dH 85 .any [(0,lv (eE rows)),(1,iv v),(6,.acc 0),(33,lv (eE rows)),(34,iv rows.length),(35,iv i)],[some (.acc 164 (eE out))]⟩) (fun(i:Nat) (out:List cI)=> rows.length-i) (0) (out0) ?_ (ar [some 0] ?_ ?_ rfl rfl) ?_
   rotate_left
   ·exact sC
   ·exact sC
   rotate_left
   ·exact⟨bc _,hfl,hL⟩
   ·rintro i out ⟨hi,ho,hg⟩
    rcases aa (i<rows.length) with h1|h1
    ·have ua:=l7 rows[i] (ak h1)
     rw[DT h1] at hg
     obtain⟨a,ha⟩:∃a,rows[i]=a:=⟨_,rfl⟩
     rw[ha] at ua hg
     obtain⟨la,ea⟩:=Bf ua hv
     simp -implicitDefEqProofs only[go_sem,h1,ha]
     refine cQ hm (fun(j:Nat) (out:List cI)=> j≤rows.length∧out.length≤200∧gW rows v=mJ v (pU a v (rows.drop j)++pq rows (rows.drop (i+1)) v) out) (fun(j:Nat) (out:List cI)=> ⟨dH 85 .any [(0,lv (eE rows)),(1,iv v),(6,.acc 0),(10,.ptr 1 0),(33,lv (eE rows)),(34,iv rows.length),(35,iv i),(39,lv (eE rows)),(40,iv rows.length),(41,iv j)],[some (.acc 164 (eE out)),some (.box (cF (cU a)))]⟩) (fun(j:Nat) (out:List cI)=> rows.length-j) (0) (out) ?_ (ar [some 0,some 1] ?_ ?_ rfl rfl) ?_
     rotate_left
     ·exact sC
     ·exact sC
     rotate_left
     ·exact⟨bc _,ho,hg⟩
     ·rintro j out ⟨hj,ho,hg⟩
      rcases aa (j<rows.length) with h3|h3
      ·have ub:=l7 rows[j] (ak h3)
       rw[DW h3] at hg
       obtain⟨b,hb⟩:∃b,rows[j]=b:=⟨_,rfl⟩
       rw[hb] at ub hg
       obtain⟨lb,eb⟩:=Bf ub hv
       rcases aa (bS a v≤0) with h4|h4
       ·rw[if_neg (by omega),bC] at hg
        simp -implicitDefEqProofs only[go_sem,h3,la,ea,h4,hb]
        refine sQ ?_
        refine⟨j+1,out,?_,sL,ar [some 0,some 1] ?_ ?_ rfl rfl⟩
        rotate_left
        ·exact sC
        ·exact sC
        exact⟨by omega,ho,hg⟩
       rcases aa (0≤bS b v) with h5|h5
       ·rw[if_neg (by omega),bC] at hg
        simp -implicitDefEqProofs only[go_sem,h3,la,ea,h4,hb,lb,eb,h5]
        refine sQ ?_
        refine⟨j+1,out,?_,sL,ar [some 0,some 1] ?_ ?_ rfl rfl⟩
        rotate_left
        ·exact sC
        ·exact sC
        exact⟨by omega,ho,hg⟩
       ·rw[if_pos (by omega)] at hg
        simp only[List.cons_append,bC,mJ] at hg
        simp -implicitDefEqProofs only[go_sem,h3,la,ea,h4,hb,lb,eb,h5]
        refine aC [] (Jf n v a b ua ub hn hv (by omega) (by omega)) ?_
        cases h6:tZ a b v
        ·rw[if_neg (by rw[h6];simp)] at hg
         refine sA ?_
         refine an ?_
         refine sA ?_
         rw[hg]
         ((repeat' apply au)<;>rfl)
        ·rcases aa ((out.length:Int)=200) with h7|h7
         ·have k7:=eq_true h7
          rw[if_neg (by omega)] at hg
          simp -implicitDefEqProofs only[go_sem,k7]
          refine an ?_
          refine sA ?_
          rw[hg]
          ((repeat' apply au)<;>rfl)
         ·rw[if_pos ⟨h6,by omega⟩] at hg
          simp -implicitDefEqProofs only[go_sem,h7]
          refine sQ ?_
          refine⟨j+1,out++[AW a b v],?_,sL,ar [some 4,some 1] ?_ ?_ rfl rfl⟩
          rotate_left
          ·exact sC
          ·refine sA ?_
           all_goals((rw[←yQ,vS,uR];rfl))
          exact⟨by omega,by simp;omega,hg⟩
      ·rw[al (by omega:rows.length≤j)] at hg
       refine uC ?_
       refine sQ ?_
       refine⟨i+1,out,?_,sL,ar [some 0] ?_ ?_ rfl rfl⟩
       rotate_left
       ·exact sC
       ·exact sC
       exact⟨by omega,ho,by simpa[pU] using hg⟩
    ·rw[al (by omega)] at hg
     have ho':(out.length:Int)≤200:=by omega
     simp -implicitDefEqProofs only[go_sem,h1,ho']
     refine an ?_
     refine sA ?_
     rw[hg]
     ((repeat' apply au)<;>rfl)
theorem GJ(v:Nat)(l:ir)(aB:List Mod.Rat)(hl:dU l=true)(h4:aB.length=4)(hv:v<4):C E.P 174 [av (eS l),iv v,lv (br aB)] [] (bD (.gV [av (eY ((ng l v aB).getD jO)),bv (ng l v aB).isSome]) []):=by
 obtain⟨hn1,hc1,hb1⟩:=gD.1 hl
 have lv1:v<l.aG.length:=by omega
 have ev:l.aG.getD v 0=l.aG[v]:=getD_at lv1
 refine gS (nt:=62) (rs:=[.cell 6 71,.tmp 7]) hm Tryz.func174 fun hl he cq=>?_
 refine aC [] (fj l.bound) ?_
 refine cQ hm (fun(i:Nat) (sum:Mod.Rat)=> i≤l.aG.length∧qX v 0 l.aG aB (whole l.bound)=qX v i (l.aG.drop i) (aB.drop i) sum) (fun(i:Nat) (sum:Mod.Rat)=> ⟨dH 62 .any [(1,iv v),(2,lv (br aB)),(3,.ptr 0 0),(6,.ptr 1 0),(8,.ptr 2 0),(19,lv (bI l.aG)),(20,iv l.aG.length),(21,iv i)],[some (.box (cF (eS l))),some (.box (cF (eY jO))),some (.box (cF (eY sum)))]⟩) (fun(i:Nat) (sum:Mod.Rat)=> l.aG.length-i) (0) (whole l.bound) ?_ (ar [some 0,some 1,some 2] ?_ ?_ rfl rfl) ?_
 rotate_left
 ·exact sC
 ·exact sC
 rotate_left
 ·simp
 ·rintro i sum ⟨hi,hg⟩
  rcases aa (i<l.aG.length) with h1|h1
  ·have h2:i<aB.length:=by omega
   rw[Nc h1 h2] at hg
   rcases aa (i=v) with h3|h3
   ·have k3:((i:Int)=(v:Int))=True:=eq_true (by omega)
    rw[if_pos h3] at hg
    simp -implicitDefEqProofs only[go_sem,h1,k3]
    refine sQ ?_
    refine⟨i+1,sum,?_,sL,ar [some 0,some 1,some 2] ?_ ?_ rfl rfl⟩
    rotate_left
    ·exact sC
    ·exact sC
    exact⟨by omega,hg⟩
   ·have k3:¬ (i:Int)=(v:Int):=by omega
    have cb:=hc1 l.aG[i] (ak h1)
    rw[if_neg h3] at hg
    simp -implicitDefEqProofs only[go_sem,h1,h2,k3]
    refine sQ ?_
    refine aC [] (wW sum (-l.aG[i]) aB[i]) ?_
    refine iK ?_
    cases h5:(plus sum (-l.aG[i]) aB[i]).2
    ·rw[h5] at hg
     simp only[aw,if_false] at hg
     have e:ng l v aB=none:=by simp[ng,hg]
     refine sA ?_
     refine an ?_
     refine sA ?_
     all_goals(simp[e];done)
    ·rw[h5] at hg
     simp only[if_true] at hg
     refine sA ?_
     refine sQ ?_
     refine⟨i+1,(plus sum (-l.aG[i]) aB[i]).1,?_,sL,ar [some 0,some 1,some 2] ?_ ?_ rfl rfl⟩
     rotate_left
     ·exact sC
     ·exact sC
     exact⟨by omega,hg⟩
  ·rw[al (by omega),QI] at hg
   simp -implicitDefEqProofs only[go_sem,h1,lv1]
   refine aC [] (Mc 1 l.aG[v]) ?_
   cases h5:(lA 1 l.aG[v]).2
   ·have e:ng l v aB=none:=by simp[ng,hg,h5,lv1]
    refine sA ?_
    refine an ?_
    refine sA ?_
    all_goals(simp[e];done)
   ·have e:ng l v aB=zW (cE sum (lA 1 l.aG[v]).1):=by simp[ng,hg,h5,lv1]
    refine sA ?_
    refine aC [] (tQ sum (lA 1 l.aG[v]).1) ?_
    obtain⟨o1,o2⟩:=JR (x:=cE sum (lA 1 l.aG[v]).1) Ea
    refine an ?_
    refine sA ?_
    rw[e,o1,o2]
    ((repeat' apply au)<;>rfl)
theorem oV(n v:Nat)(rows:List cI)(aB:List Mod.Rat)(hr:xi n rows)(h4:aB.length=4)(hv:v<4):C E.P 106 [lv (eE rows),iv v,lv (br aB)] [] (bD (.gV [av (eY ((valueOf rows v aB).getD jO)),bv (valueOf rows v aB).isSome]) []):=by
 obtain⟨dz,l7⟩:=hr
 refine gS (nt:=95) (rs:=[.cell 6 71,.tmp 7]) hm Tryz.func106 fun hl he cq=>?_
 refine kS hm (fun(i:Nat) (lo:Option Mod.Rat) (hi:Option Mod.Rat)=> i≤rows.length∧oL v aB rows none none=oL v aB (rows.drop i) lo hi) (fun(i:Nat) (lo:Option Mod.Rat) (hi:Option Mod.Rat)=> ⟨dH 95 .any [(1,iv v),(2,lv (br aB)),(6,.ptr 0 0),(8,.ptr 1 0),(9,.ptr 2 0),(10,bv lo.isSome),(11,bv hi.isSome),(17,lv (eE rows)),(18,iv rows.length),(19,iv i)],[some (.box (cF (eY jO))),some (.box (cF (eY (lo.getD jO)))),some (.box (cF (eY (hi.getD jO))))]⟩) (fun(i:Nat) (lo:Option Mod.Rat) (hi:Option Mod.Rat)=> rows.length-i) (0) (none) (none) ?_ (ar [some 0,some 1,some 2] ?_ ?_ rfl rfl) ?_
 rotate_left
 ·refine sA ?_
  all_goals(simp[*];done)
 ·refine sA ?_
  all_goals(simp[*];done)
 rotate_left
 ·simp
 ·rintro i lo hi ⟨hi1,hg⟩
  rcases aa (i<rows.length) with h1|h1
  ·have ua:=l7 rows[i] (ak h1)
   obtain⟨la,ea⟩:=Bf ua hv
   rw[Nr h1] at hg
   rcases aa (bS rows[i] v=0) with h2|h2
   ·have k2:=eq_true h2
    rw[if_pos h2] at hg
    simp -implicitDefEqProofs only[go_sem,h1,la,ea,k2]
    refine sQ ?_
    refine⟨i+1,lo,hi,?_,sL,ar [some 0,some 1,some 2] ?_ ?_ rfl rfl⟩
    rotate_left
    ·exact sC
    ·exact sC
    exact⟨by omega,hg⟩
   ·rw[if_neg h2] at hg
    simp -implicitDefEqProofs only[go_sem,h1,la,ea,h2]
    refine aC [] (GJ v rows[i].jI aB ua.jI h4 hv) ?_
    cases hb:ng rows[i].jI v aB with
    | none=>
      rw[hb] at hg
      simp only at hg
      have e:valueOf rows v aB=none:=by simp[valueOf,hg]
      refine uK ?_
      refine an ?_
      refine sA ?_
      all_goals(simp[e];done)
    | some b=>
      rw[hb] at hg
      simp only at hg
      rcases aa (0<bS rows[i] v) with h3|h3
      ·rw[if_pos h3] at hg
       have h3':¬bS rows[i] v<0:=by omega
       cases hi with
       | none=>
         rw[show lower b none=true from rfl,if_pos rfl] at hg
         simp -implicitDefEqProofs only[go_sem,aY,aX,bE,cf,h3]
         refine sQ ?_
         refine⟨i+1,lo,some b,?_,sL,ar [some 0,some 1,some 2] ?_ ?_ rfl rfl⟩
         rotate_left
         ·exact sC
         ·refine sA ?_
          all_goals(simp[*];done)
         exact⟨by omega,hg⟩
       | some h=>
         rw[show lower b (some h)=c8 b h from rfl] at hg
         simp -implicitDefEqProofs only[go_sem,aY,aX,h3]
         refine aC [] (lk b h) ?_
         cases h5:c8 b h
         ·rw[h5,if_neg (by simp)] at hg
          simp -implicitDefEqProofs only[go_sem,h3']
          refine sQ ?_
          refine⟨i+1,lo,some h,?_,sL,ar [some 0,some 1,some 2] ?_ ?_ rfl rfl⟩
          rotate_left
          ·exact sC
          ·refine sA ?_
           all_goals(simp[*];done)
          exact⟨by omega,hg⟩
         ·rw[h5,if_pos rfl] at hg
          refine sA ?_
          refine sQ ?_
          refine⟨i+1,lo,some b,?_,sL,ar [some 0,some 1,some 2] ?_ ?_ rfl rfl⟩
          rotate_left
          ·exact sC
          ·refine sA ?_
           all_goals(simp[*];done)
          exact⟨by omega,hg⟩
      ·rw[if_neg h3] at hg
       have h3':bS rows[i] v<0:=by omega
       cases lo with
       | none=>
         rw[show upper b none=true from rfl,if_pos rfl] at hg
         simp -implicitDefEqProofs only[go_sem,aY,aX,bE,cf,h3,h3']
         refine sQ ?_
         refine⟨i+1,some b,hi,?_,sL,ar [some 0,some 1,some 2] ?_ ?_ rfl rfl⟩
         rotate_left
         ·exact sC
         ·refine sA ?_
          all_goals(simp[*];done)
         exact⟨by omega,hg⟩
       | some l=>
         rw[show upper b (some l)=c8 l b from rfl] at hg
         simp -implicitDefEqProofs only[go_sem,aY,aX,h3,h3']
         refine aC [] (lk l b) ?_
         cases h5:c8 l b
         ·rw[h5,if_neg (by simp)] at hg
          refine sA ?_
          refine sQ ?_
          refine⟨i+1,some l,hi,?_,sL,ar [some 0,some 1,some 2] ?_ ?_ rfl rfl⟩
          rotate_left
          ·exact sC
          ·refine sA ?_
           all_goals(simp[*];done)
          exact⟨by omega,hg⟩
         ·rw[h5,if_pos rfl] at hg
          refine sA ?_
          refine sQ ?_
          refine⟨i+1,some b,hi,?_,sL,ar [some 0,some 1,some 2] ?_ ?_ rfl rfl⟩
          rotate_left
          ·exact sC
          ·refine sA ?_
           all_goals(simp[*];done)
          exact⟨by omega,hg⟩
  ·rw[al (by omega),oL] at hg
   have e:valueOf rows v aB=zW (kO lo hi):=by simp[valueOf,hg]
   obtain⟨o1,o2⟩:=JR (x:=kO lo hi) Lw
   rw[e,o1,o2]
   cases lo with
   | none=>
     cases hi with
     | none=>
       simp -implicitDefEqProofs only[go_sem,bE,cf,h1]
       refine aC [] (fj 0) ?_
       refine an ?_
       refine sA ?_
       ((repeat' apply au)<;>rfl)
     | some h=>
       simp -implicitDefEqProofs only[go_sem,bE,cf,aY,aX,h1]
       refine aC [] (fj (-1)) ?_
       refine aC [] (pZ h (whole (-1))) ?_
       refine iK ?_
       refine an ?_
       refine sA ?_
       ((repeat' apply au)<;>rfl)
   | some l=>
     cases hi with
     | none=>
       simp -implicitDefEqProofs only[go_sem,bE,cf,aY,aX,h1]
       refine aC [] (fj 1) ?_
       refine aC [] (pZ l (whole 1)) ?_
       refine iK ?_
       refine an ?_
       refine sA ?_
       ((repeat' apply au)<;>rfl)
     | some h=>
       simp -implicitDefEqProofs only[go_sem,aY,aX,h1]
       refine aC [] (Jd l h) ?_
       refine an ?_
       refine sA ?_
       ((repeat' apply au)<;>rfl)
structure St4 where
 rows:List cI
 s0:List cI
 s1:List cI
 s2:List cI
 s3:List cI
def ack(ls:List ir)(z:Int)(t:St4):Prop:=
 (z=3∧t=⟨bJ ls,[],[],[],[]⟩)∨(z=2∧∃r2,gW (bJ ls) 3=some r2∧t=⟨r2,[],[],[],bJ ls⟩) ∨
 (z=1∧∃r2 r1,gW (bJ ls) 3=some r2∧gW r2 2=some r1∧t=⟨r1,[],[],r2,bJ ls⟩) ∨
 (z=0∧∃r2 r1 r0,gW (bJ ls) 3=some r2∧gW r2 2=some r1∧gW r1 1=some r0∧t=⟨r0,[],r1,r2,bJ ls⟩) ∨
 (z = -1∧∃r2 r1 r0 r,gW (bJ ls) 3=some r2∧gW r2 2=some r1∧gW r1 1=some r0∧gW r0 0=some r∧t=⟨r,r0,r1,r2,bJ ls⟩)
theorem IB(ls:List ir):C E.P 44 [lv (dm ls)] [] (bD (.gV [lv (br (bO ls).aB),lv (bI (bO ls).times),iv (bO ls).code]) []):=by
 cases hsys:fS ls
 ·have e:bO ls=⟨[],[],3⟩:=by simp[bO,hsys]
  refine gS (nt:=86) (rs:=[.tmp 2,.tmp 3,.tmp 4]) hm Tryz.func44 fun hl he cq=>?_
  refine aC [] (nQ ls) ?_
  simp -implicitDefEqProofs only[go_sem,hsys]
  refine an ?_
  refine sA ?_
  rw[e]
  ((repeat' apply au)<;>rfl)
 have h20:ls.length≤20:=by simp only[fS,ai,decide_eq_true_eq] at hsys;exact hsys.1
 have u3:=DV hsys
 have cq:=jZ
 refine Eh (nt:=86) (rs:=[.tmp 2,.tmp 3,.tmp 4]) Tryz.func44 rfl rfl rfl rfl rfl (fun hl he=>?_)
 simp -implicitDefEqProofs only[go_sem] at hl he⊢
 refine eG (gz hm ?_)
 simp -implicitDefEqProofs only[go_sem,de,dq]
 refine eG (gz hm ?_)
 refine sA ?_
 refine aC [] (nQ ls) ?_
 simp -implicitDefEqProofs only[go_sem,hsys]
 refine eG (gz hm ?_)
 refine sA ?_
 refine aC [] (Ep ls (by omega)) ?_
 refine eG (gz hm ?_)
 refine sA ?_
 refine eG (gz hm ?_)
 refine sA ?_
 refine cQ hm (fun(z:Int) (t:St4)=> ack ls z t) (fun(z:Int) (t:St4)=> ⟨dH 86 .any [(0,lv (dm ls)),(5,lv (eE t.rows)),(6,.ptr 0 0),(7,iv z)],[some (.box [lv (eE t.s0),lv (eE t.s1),lv (eE t.s2),lv (eE t.s3)])]⟩) (fun(z:Int) (t:St4)=> (z+1).toNat) (3) (⟨bJ ls,[],[],[],[]⟩) ?_ (ar [some 0] ?_ ?_ rfl rfl) ?_
 rotate_left
 ·exact sC
 ·exact sC
 rotate_left
 ·exact .inl ⟨rfl,rfl⟩
 ·rintro z t hz
  rcases hz with⟨rfl,rfl⟩|⟨rfl,r2,g3,rfl⟩|⟨rfl,r2,r1,g3,g2,rfl⟩|⟨rfl,r2,r1,r0,g3,g2,g1,rfl⟩|⟨rfl,r2,r1,r0,rows,g3,g2,g1,g0,rfl⟩
  ·simp only
   have hu:=u3
   have cl:=s5 ls.length 3 (bJ ls) hu (by omega) (by omega)
   simp -implicitDefEqProofs only[go_sem,Z3,Z4]
   refine sQ ?_
   refine aC [] cl ?_
   cases hl:gW (bJ ls) 3 with
   | none=>
     have e:bO ls=⟨[],[],2⟩:=by simp[bO, *]
     refine uK ?_
     refine dR ?_
     refine an ?_
     refine sA ?_
     rw[e]
     ((repeat' apply au)<;>rfl)
   | some r=>
     refine uL ?_
     refine sQ ?_
     refine⟨(2:Int),⟨r,[],[],[],bJ ls⟩,?_,sL,ar [some 0] ?_ ?_ rfl rfl⟩
     rotate_left
     ·refine sA ?_
      all_goals(simp[*];done)
     ·exact sC
     exact .inr (.inl ⟨rfl,r,hl,rfl⟩)
  ·simp only
   have hu:=kp u3 g3
   have cl:=s5 ls.length 2 r2 hu (by omega) (by omega)
   simp -implicitDefEqProofs only[go_sem,Z3,Z4]
   refine sQ ?_
   refine aC [] cl ?_
   cases hl:gW r2 2 with
   | none=>
     have e:bO ls=⟨[],[],2⟩:=by simp[bO, *]
     refine uK ?_
     refine dR ?_
     refine an ?_
     refine sA ?_
     rw[e]
     ((repeat' apply au)<;>rfl)
   | some r=>
     refine uL ?_
     refine sQ ?_
     refine⟨(1:Int),⟨r,[],[],r2,bJ ls⟩,?_,sL,ar [some 0] ?_ ?_ rfl rfl⟩
     rotate_left
     ·refine sA ?_
      all_goals(simp[*];done)
     ·exact sC
     exact .inr (.inr (.inl ⟨rfl,r2,r,g3,hl,rfl⟩))
  ·simp only
   have hu:=kp (kp u3 g3) g2
   have cl:=s5 ls.length 1 r1 hu (by omega) (by omega)
   simp -implicitDefEqProofs only[go_sem,Z3,Z4]
   refine sQ ?_
   refine aC [] cl ?_
   cases hl:gW r1 1 with
   | none=>
     have e:bO ls=⟨[],[],2⟩:=by simp[bO, *]
     refine uK ?_
     refine dR ?_
     refine an ?_
     refine sA ?_
     rw[e]
     ((repeat' apply au)<;>rfl)
   | some r=>
     refine uL ?_
     refine sQ ?_
     refine⟨(0:Int),⟨r,[],r1,r2,bJ ls⟩,?_,sL,ar [some 0] ?_ ?_ rfl rfl⟩
     rotate_left
     ·refine sA ?_
      all_goals(simp[*];done)
     ·exact sC
     exact .inr (.inr (.inr (.inl ⟨rfl,r2,r1,r,g3,g2,hl,rfl⟩)))
  ·simp only
   have hu:=kp (kp (kp u3 g3) g2) g1
   have cl:=s5 ls.length 0 r0 hu (by omega) (by omega)
   refine sA ?_
   refine aC [] cl ?_
   cases hl:gW r0 0 with
   | none=>
     have e:bO ls=⟨[],[],2⟩:=by simp[bO, *]
     refine uK ?_
     refine dR ?_
     refine an ?_
     refine sA ?_
     rw[e]
     ((repeat' apply au)<;>rfl)
   | some r=>
     refine uL ?_
     refine sQ ?_
     refine⟨(-1:Int),⟨r,r0,r1,r2,bJ ls⟩,?_,sL,ar [some 0] ?_ ?_ rfl rfl⟩
     rotate_left
     ·refine sA ?_
      all_goals(simp[*];done)
     ·exact sC
     exact .inr (.inr (.inr (.inr ⟨rfl,r2,r1,r0,r,g3,g2,g1,hl,rfl⟩)))
  ·simp only
   have u2:=kp u3 g3
   have u1:=kp u2 g2
   have u0:=kp u1 g1
   have ur:=kp u0 g0
   have hrl:=ur.1
   have hF:bO ls=iy ls r0 r1 r2 (bJ ls) rows:=by simp[bO,hsys,g3,g2,g1,g0]
   clear g3 g2 g1 g0
   simp -implicitDefEqProofs only[go_sem,Z3]
   refine eG (gz hm ?_)
   refine sA ?_
   refine aM hm (fun(i:Nat)=> i≤rows.length∧(rows.find? fun r=>jN r.jI)=(rows.drop i).find? fun r=>jN r.jI) (fun(i:Nat)=> ⟨dH 86 .any [(0,lv (dm ls)),(6,.ptr 0 0),(37,lv (eE rows)),(38,iv rows.length),(39,iv i)],[some (.box [lv (eE r0),lv (eE r1),lv (eE r2),lv (eE (bJ ls))])]⟩) (fun(i:Nat)=> rows.length-i) (0) ?_ (ar [some 0] ?_ ?_ rfl rfl) ?_
   rotate_left
   ·exact sC
   ·exact sC
   rotate_left
   ·simp
   ·rintro i ⟨hi,mY⟩
    rcases aa (i<rows.length) with h1|h1
    ·have ua:=ur.2 rows[i] (ak h1)
     rw[ah h1,List.find?_cons] at mY
     refine uA ?_
     refine aC [] (zk rows[i].jI) ?_
     cases hb:jN rows[i].jI
     ·rw[hb] at mY
      refine sA ?_
      refine sQ ?_
      refine⟨i+1,?_,sL,ar [some 0] ?_ ?_ rfl rfl⟩
      rotate_left
      ·exact sC
      ·exact sC
      exact⟨by omega,mY⟩
     ·rw[hb] at mY
      simp only at mY
      have hal:=ua.len
      refine sA ?_
      refine aC [] (BQ ls rows[i].fU) ?_
      cases hf:qm ls rows[i].fU
      ·have e:bO ls=⟨[],[],2⟩:=by rw[hF,iy,mY];simp[hf]
       refine sA ?_
       refine dR ?_
       refine an ?_
       refine sA ?_
       rw[e]
       ((repeat' apply au)<;>rfl)
      ·have e:bO ls=⟨[],rows[i].fU,1⟩:=by rw[hF,iy,mY];simp[hf]
       refine sA ?_
       refine aC [] (O5 rows[i].fU (by omega)) ?_
       refine dR ?_
       refine an ?_
       refine sA ?_
       rw[e]
       ((repeat' apply au)<;>rfl)
    ·rw[al (by omega),List.find?_nil] at mY
     refine uA ?_
     refine eG (oU ?_)
     refine ji rfl ?_
     refine aC [] (fj 0) ?_
     refine ji rfl ?_
     refine aC [] (fj 0) ?_
     refine ji rfl ?_
     refine aC [] (fj 0) ?_
     refine ji rfl ?_
     refine aC [] (fj 0) ?_
     refine ji rfl (fu (pI 69 71 4 1 _ _ _ (br n5) rfl rfl rfl rfl rfl (by simp -implicitDefEqProofs only[go_sem];rfl) (by decide) (by decide) rfl) ?_)
     refine sA ?_
     refine ji rfl (fA ?_)
     refine sA ?_
     refine vk ?_
     refine sA ?_
     refine eG (gz hm ?_)
     refine sA ?_
     refine cQ hm (fun(z:Int) (aB:List Mod.Rat)=> aB.length=4∧((z=0∧mq [r0,r1,r2,bJ ls] 0 n5=mq [r0,r1,r2,bJ ls] 0 aB)∨(z=1∧mq [r0,r1,r2,bJ ls] 0 n5=mq [r1,r2,bJ ls] 1 aB)∨(z=2∧mq [r0,r1,r2,bJ ls] 0 n5=mq [r2,bJ ls] 2 aB)∨(z=3∧mq [r0,r1,r2,bJ ls] 0 n5=mq [bJ ls] 3 aB)∨(z=4∧mq [r0,r1,r2,bJ ls] 0 n5=some aB))) (fun(z:Int) (aB:List Mod.Rat)=> ⟨dH 86 .any [(0,lv (dm ls)),(6,.ptr 0 0),(12,.acc 1),(61,iv 4),(62,iv z)],[some (.box [lv (eE r0),lv (eE r1),lv (eE r2),lv (eE (bJ ls))]),some (.acc 71 (br aB))]⟩) (fun(z:Int) (aB:List Mod.Rat)=> (4-z).toNat) (0) (n5) ?_ (ar [some 0,some 1] ?_ ?_ rfl rfl) ?_
     rotate_left
     ·refine sA ?_
      all_goals(rfl)
     ·exact sC
     rotate_left
     ·exact⟨rfl,.inl ⟨rfl,rfl⟩⟩
     ·rintro z aB ⟨hv4,hg⟩
      have hLv:(br aB).length=4:=by rw[xz];exact hv4
      rcases hg with⟨rfl,hg⟩|⟨rfl,hg⟩|⟨rfl,hg⟩|⟨rfl,hg⟩|⟨rfl,hg⟩
      ·have cv:=oV ls.length 0 r0 aB (by assumption) hv4 (by omega)
       simp -implicitDefEqProofs only[go_sem,Z2]
       refine dQ [] [1] cv rfl ?_ ?_ ?_
       ·exact sV
       all_goals simp -implicitDefEqProofs only[go_sem]
       cases hx:valueOf r0 0 aB with
       | none=>
         rw[sZ (st:=[r1,r2,bJ ls]) hx] at hg
         have e:bO ls=⟨[],[],2⟩:=by rw[hF,iy,mY];simp only[hg]
         refine uK ?_
         refine dR ?_
         refine an ?_
         refine sA ?_
         rw[e]
         ((repeat' apply au)<;>rfl)
       | some x=>
         rw[tx (st:=[r1,r2,bJ ls]) hx] at hg
         refine uL ?_
         refine sQ ?_
         refine⟨(1:Int),aB.set 0 x,?_,sL,ar [some 0,some 1] ?_ ?_ rfl rfl⟩
         rotate_left
         ·refine sA ?_
          all_goals(simp[*];done)
         ·refine sA ?_
          all_goals(exact qL (by omega))
         exact⟨by simpa using hv4,.inr (.inl ⟨rfl,hg⟩)⟩
      ·have cv:=oV ls.length 1 r1 aB (by assumption) hv4 (by omega)
       simp -implicitDefEqProofs only[go_sem,Z2,Z3,Z4]
       refine sQ ?_
       refine dQ [] [1] cv rfl ?_ ?_ ?_
       ·exact sV
       all_goals simp -implicitDefEqProofs only[go_sem]
       cases hx:valueOf r1 1 aB with
       | none=>
         rw[sZ (st:=[r2,bJ ls]) hx] at hg
         have e:bO ls=⟨[],[],2⟩:=by rw[hF,iy,mY];simp only[hg]
         refine uK ?_
         refine dR ?_
         refine an ?_
         refine sA ?_
         rw[e]
         ((repeat' apply au)<;>rfl)
       | some x=>
         rw[tx (st:=[r2,bJ ls]) hx] at hg
         simp -implicitDefEqProofs only[go_sem,Z3,Z4,aY,aX]
         refine sQ ?_
         refine⟨(2:Int),aB.set 1 x,?_,sL,ar [some 0,some 1] ?_ ?_ rfl rfl⟩
         rotate_left
         ·refine sA ?_
          all_goals(simp[*];done)
         ·refine sA ?_
          all_goals(exact qL (by omega))
         exact⟨by simpa using hv4,.inr (.inr (.inl ⟨rfl,hg⟩))⟩
      ·have cv:=oV ls.length 2 r2 aB (by assumption) hv4 (by omega)
       simp -implicitDefEqProofs only[go_sem,Z2,Z3,Z4]
       refine sQ ?_
       refine dQ [] [1] cv rfl ?_ ?_ ?_
       ·exact sV
       all_goals simp -implicitDefEqProofs only[go_sem]
       cases hx:valueOf r2 2 aB with
       | none=>
         rw[sZ (st:=[bJ ls]) hx] at hg
         have e:bO ls=⟨[],[],2⟩:=by rw[hF,iy,mY];simp only[hg]
         refine uK ?_
         refine dR ?_
         refine an ?_
         refine sA ?_
         rw[e]
         ((repeat' apply au)<;>rfl)
       | some x=>
         rw[tx (st:=[bJ ls]) hx] at hg
         simp -implicitDefEqProofs only[go_sem,Z3,Z4,aY,aX]
         refine sQ ?_
         refine⟨(3:Int),aB.set 2 x,?_,sL,ar [some 0,some 1] ?_ ?_ rfl rfl⟩
         rotate_left
         ·refine sA ?_
          all_goals(simp[*];done)
         ·refine sA ?_
          all_goals(exact qL (by omega))
         exact⟨by simpa using hv4,.inr (.inr (.inr (.inl ⟨rfl,hg⟩)))⟩
      ·have cv:=oV ls.length 3 (bJ ls) aB (by assumption) hv4 (by omega)
       simp -implicitDefEqProofs only[go_sem,Z2,Z3,Z4]
       refine sQ ?_
       refine dQ [] [1] cv rfl ?_ ?_ ?_
       ·exact sV
       all_goals simp -implicitDefEqProofs only[go_sem]
       cases hx:valueOf (bJ ls) 3 aB with
       | none=>
         rw[sZ (st:=[]) hx] at hg
         have e:bO ls=⟨[],[],2⟩:=by rw[hF,iy,mY];simp only[hg]
         refine uK ?_
         refine dR ?_
         refine an ?_
         refine sA ?_
         rw[e]
         ((repeat' apply au)<;>rfl)
       | some x=>
         rw[tx (st:=[]) hx] at hg
         simp -implicitDefEqProofs only[go_sem,Z3,Z4,aY,aX]
         refine sQ ?_
         refine⟨(4:Int),aB.set 3 x,?_,sL,ar [some 0,some 1] ?_ ?_ rfl rfl⟩
         rotate_left
         ·refine sA ?_
          all_goals(simp[*];done)
         ·refine sA ?_
          all_goals(exact qL (by omega))
         exact⟨by simpa using hv4,.inr (.inr (.inr (.inr ⟨rfl,hg⟩)))⟩
      ·simp -implicitDefEqProofs only[go_sem,Z2]
       refine eG (gz hm ?_)
       refine sA ?_
       refine dQ [] [1] (I8 ls aB) rfl ?_ ?_ ?_
       ·exact sV
       all_goals simp -implicitDefEqProofs only[go_sem]
       cases hf:lj ls aB
       ·have e:bO ls=⟨[],[],2⟩:=by rw[hF,iy,mY];simp[hg,hf]
        refine sA ?_
        refine dR ?_
        refine an ?_
        refine sA ?_
        rw[e]
        ((repeat' apply au)<;>rfl)
       ·have e:bO ls=⟨aB,[],0⟩:=by rw[hF,iy,mY];simp[hg,hf]
        refine sA ?_
        refine gz hm ?_
        refine sA ?_
        refine dR ?_
        refine an ?_
        refine sA ?_
        rw[e]
        ((repeat' apply au)<;>rfl)
end Go.Proofs.YtabembjmeobhoaaGreat
