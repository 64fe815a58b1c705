/-
  The reference: the walks of values, sums, and systems that hold. A step towards the laws.
-/
import Derived.Test.YtabembjmeobhoaaGreatKAe
import Derived.Test.YtabembjmeobhoaaGreatKAQ
import Derived.Test.YtabembjmeobhoaaGreatKAzf
set_option linter.unusedVariables false
set_option linter.unusedSimpArgs false
open And renaming intro→ar
open Bool renaming and_eq_true→ai,false_eq_true→ax
open Classical renaming em→aa
open List renaming drop_eq_getElem_cons→aj,getElem_mem→ak,drop_of_length_le→al,take_of_length_le→ao,replicate→aW,range→bt,nil_append→bB,all_cons→b7,all_nil→dW
open Nat renaming zero_le→bh
open Option renaming isSome_some→aJ,getD_some→aK,isSome_none→aU,getD_none→a6
namespace Go.Proofs.YtabembjmeobhoaaGreat
open Go.Eng Go.Mod
open Int renaming reduceEq→Z1,reduceLT→Z2,reduceLE→Z3,reduceToNat→Z4
set_option maxRecDepth 100000
set_option maxHeartbeats 800000
theorem Kw(n d:Int):C E.P 268 [iv n,iv d] [] (bN (.ja [av (eO (lj n d).1),bv (lj n d).2]) []):=by
 refine gS (nt:=33) (rs:=[.cell 4 71,.tmp 5]) hm Tryz.func268 fun hl he cI=>?_
 rcases aa (d=0) with h0|h0
 ·have k0:=eq_true h0
  have e:lj n d=(jD,false):=by rw[h0];exact PG
  simp -implicitDefEqProofs only[go_sem,k0]
  refine an ?_
  refine sA ?_
  all_goals(simp[e];done)
 simp -implicitDefEqProofs only[go_sem,h0]
 refine aC [] (ra n) ?_
 rcases aa (1000000000<ri n) with h1|h1
 ·have e:=FF (d:=d) (.inl h1)
  simp -implicitDefEqProofs only[go_sem,h1]
  refine an ?_
  refine sA ?_
  all_goals(simp[e];done)
 simp -implicitDefEqProofs only[go_sem,h1]
 refine aC [] (ra d) ?_
 rcases aa (1000000000<ri d) with h2|h2
 ·have e:=FF (n:=n) (.inr h2)
  simp -implicitDefEqProofs only[go_sem,h2]
  refine an ?_
  refine sA ?_
  all_goals(simp[e];done)
 have e:=U0 (n:=n) (d:=d) (by omega) (by omega)
 have b1:=sw.1 (show ri n≤1000000000 by omega)
 have b2:=sw.1 (show ri d≤1000000000 by omega)
 rcases aa (d<0) with h3|h3
 ·have e2:=MN (n:=n) h0 h3
  simp -implicitDefEqProofs only[go_sem,h2,h3]
  refine sQ ?_
  refine aC [] (oh (-n) (-d) (by omega) (by omega)) ?_
  refine an ?_
  refine sA ?_
  all_goals(simp[e,e2];done)
 ·simp -implicitDefEqProofs only[go_sem,h2,h3]
  refine aC [] (oh n d (by omega) (by omega)) ?_
  refine an ?_
  refine sA ?_
  all_goals(simp[e];done)
theorem HV(a b:Mod.Rat):C E.P 252 [av (eO a),av (eO b)] [] (bN (.ja [av (eO (qE a b).1),bv (qE a b).2]) []):=by
 refine gS (nt:=22) (rs:=[.cell 4 71,.tmp 5]) hm Tryz.func252 fun hl he cI=>?_
 refine aC [] (lQ a b) ?_
 cases g1:(cY a b).2
 ·refine sA ?_
  refine an ?_
  refine sA ?_
  all_goals(simp[qE,g1];done)
 ·refine sA ?_
  refine aC [] (np (cY a b).1 ⟨1,2⟩) ?_
  refine an ?_
  refine sA ?_
  all_goals(simp[qE,g1];done)
theorem yG(aB:List Mod.Rat):C E.P 210 [lv (br aB)] [] (bN (bv (qt aB)) []):=by
 refine gS (nt:=19) (rs:=[.tmp 2]) hm Tryz.func210 fun hl he cI=>?_
 refine aO hm (fun(i:Nat)=> i≤aB.length∧aB.all bV=(aB.drop i).all bV) (fun(i:Nat)=> ⟨dB 19 .any [(0,lv (br aB)),(3,iv i)],[]⟩) (fun(i:Nat)=> aB.length-i) (0) ?_ (aw [] ?_ ?_ rfl rfl) ?_
 rotate_left
 ·exact sC
 ·exact sC
 rotate_left
 ·simp
 ·rintro i ⟨hi,hg⟩
  rcases aa (i<aB.length) with h1|h1
  ·rw[aj h1,b7] at hg
   simp -implicitDefEqProofs only[go_sem,h1]
   refine aC [] (gf aB[i]) ?_
   cases h2:bV aB[i]
   ·rw[h2,Bool.false_and] at hg
    refine sA ?_
    refine an ?_
    refine sA ?_
    all_goals(simp[qt,hg];done)
   ·rw[h2,Bool.true_and] at hg
    refine sA ?_
    refine sQ ?_
    refine⟨i+1,?_,sL,aw [] ?_ ?_ rfl rfl⟩
    rotate_left
    ·exact sC
    ·exact sC
    exact⟨by omega,hg⟩
  ·rw[al (by omega),dW] at hg
   rcases aa ((aB.length:Int)=4) with h3|h3
   ·have h3':aB.length=4:=by omega
    have k3:=eq_true h3
    simp -implicitDefEqProofs only[go_sem,h1,k3]
    refine an ?_
    refine sA ?_
    all_goals(simp[qt,hg,h3'];done)
   ·have h3':¬aB.length=4:=by omega
    simp -implicitDefEqProofs only[go_sem,h1,h3]
    refine an ?_
    refine sA ?_
    all_goals(simp[qt,h3'];done)
theorem OM{aB:List Mod.Rat}(h:qt aB=true):aB.length=4:=by
 simp only[qt,ai,decide_eq_true_eq] at h
 exact h.1
theorem JX(l:ia)(aB:List Mod.Rat)(h4:l.aG.length=aB.length):C E.P 254 [av (eG l),lv (br aB)] [] (bN (.ja [av (eO (td l.aG aB (whole 0)).1),bv (td l.aG aB (whole 0)).2]) []):=by
 refine gS (nt:=45) (rs:=[.cell 4 71,.tmp 5]) hm Tryz.func254 fun hl he cI=>?_
 refine dm hm (fun(i:Nat) (sum:Mod.Rat)=> i≤l.aG.length∧td l.aG aB (whole 0)=td (l.aG.drop i) (aB.drop i) sum) (fun(i:Nat) (sum:Mod.Rat)=> ⟨dB 45 .any [(1,lv (br aB)),(2,.ptr 0 0),(4,.ptr 1 0),(6,.ptr 2 0),(7,iv i)],[some (.box (cF (eG l))),some (.box (cF (eO jD))),some (.box (cF (eO sum)))]⟩) (fun(i:Nat) (sum:Mod.Rat)=> l.aG.length-i) (0) (whole 0) ?_ (aw [some 0,some 1,some 2] ?_ ?_ rfl rfl) ?_
 rotate_left
 ·exact sC
 ·exact sC
 rotate_left
 ·simp
 ·rintro i sum ⟨hi,hg⟩
  rcases aa (i<l.aG.length) with h1|h1
  ·have h2:i<aB.length:=by omega
   rw[OK h1 h2] at hg
   have cm:=np (whole l.aG[i]) aB[i]
   simp -implicitDefEqProofs only[go_sem,h1,h2]
   refine aC [] cm ?_
   refine iK ?_
   cases h3:(cq (whole l.aG[i]) aB[i]).2
   ·rw[h3] at hg
    simp only[ax,if_false] at hg
    refine sA ?_
    refine an ?_
    refine sA ?_
    rw[hg]
    ((repeat' apply ar)<;>rfl)
   ·rw[h3] at hg
    simp only[if_true] at hg
    refine sA ?_
    refine aC [] (lQ sum (cq (whole l.aG[i]) aB[i]).1) ?_
    cases h5:(cY sum (cq (whole l.aG[i]) aB[i]).1).2
    ·rw[h5] at hg
     simp only[ax,if_false] at hg
     refine sA ?_
     refine an ?_
     refine sA ?_
     rw[hg,sG h5]
     ((repeat' apply ar)<;>rfl)
    ·rw[h5] at hg
     simp only[if_true] at hg
     refine sA ?_
     refine sQ ?_
     refine⟨i+1,(cY sum (cq (whole l.aG[i]) aB[i]).1).1,?_,sL,aw [some 0,some 1,some 2] ?_ ?_ rfl rfl⟩
     rotate_left
     ·exact sC
     ·exact sC
     exact⟨by omega,hg⟩
  ·rw[al (by omega),RZ] at hg
   simp -implicitDefEqProofs only[go_sem,h1]
   refine an ?_
   refine sA ?_
   rw[hg]
   ((repeat' apply ar)<;>rfl)
theorem K2(l:ia)(aB:List Mod.Rat):C E.P 209 [av (eG l),lv (br aB)] [] (bN (.ja [bv ((mh l aB).getD false),bv (mh l aB).isSome]) []):=by
 refine gS (nt:=41) (rs:=[.tmp 4,.tmp 5]) hm Tryz.func209 fun hl he cI=>?_
 refine aC [] (gL l) ?_
 cases g1:dE l
 ·refine sA ?_
  refine an ?_
  refine sA ?_
  all_goals(simp[mh,g1];done)
 ·refine sA ?_
  refine aC [] (yG aB) ?_
  cases g2:qt aB
  ·refine sA ?_
   refine an ?_
   refine sA ?_
   all_goals(simp[mh,g1,g2];done)
  ·obtain⟨hn1,hc1,hb1⟩:=gp.1 g1
   have hv:=OM g2
   have e:mh l aB=(zz (td l.aG aB (whole 0))).map fun x=>below x l.bound l.strict:=by simp[mh,g1,g2,Fb]
   have eK:=Jp (cs:=l.aG) (xs:=aB) (sum:=whole 0) (r:=(td l.aG aB (whole 0)).1) (by decide)
   rw[Fb] at eK
   refine sA ?_
   refine aC [] (JX l aB (by omega)) ?_
   obtain⟨⟨x,ok⟩,hx⟩:∃r,td l.aG aB (whole 0)=r:=⟨_,rfl⟩
   rw[hx] at e eK⊢
   simp only at eK
   cases ok
   ·refine sA ?_
    refine an ?_
    refine sA ?_
    all_goals(simp[e,zz];done)
   ·have hx2:=eK rfl
    have e2:=LR hx2 (n:=l.bound) (by omega) (by omega) l.strict
    have e3:mh l aB=some (below x l.bound l.strict):=e
    have cl:=mD x (whole l.bound)
    refine sA ?_
    refine aC [] cl ?_
    cases h5:cQ x (whole l.bound)
    ·rw[h5] at e2
     cases h6:l.strict
     ·rw[h6] at e2
      refine sA ?_
      refine Ld (by kernel_rfl) (a:=x.N) (b:=x.D) (c:=l.bound) (e:=1) (by simp -implicitDefEqProofs only[go_sem]) (by simp -implicitDefEqProofs only[go_sem]) ?_
      have e5:oi x.N x.D l.bound 1=decide (x=whole l.bound):=pF x (whole l.bound)
      rw[e5]
      refine sA ?_
      refine an ?_
      refine sA ?_
      rw[e3,h6,e2]
      simp
     ·rw[h6] at e2
      refine sA ?_
      refine an ?_
      refine sA ?_
      rw[e3,h6,e2]
      ((repeat' apply ar)<;>rfl)
    ·rw[h5] at e2
     refine sA ?_
     refine an ?_
     refine sA ?_
     rw[e3,e2]
     ((repeat' apply ar)<;>rfl)
theorem H0(ls:List ia)(aB:List Mod.Rat):C E.P 139 [lv (c9 ls),lv (br aB)] [] (bN (bv (kQ ls aB)) []):=by
 have hno:∀l∈ls,mh l aB≠some true→kQ ls aB=false:=fun l hl h=>by
  have:(ls.all fun l=>decide (mh l aB=some true))=false:=by
   rw[Bool.eq_false_iff]
   intro hh
   have:=List.all_eq_true.1 hh l hl
   exact h (by simpa using this)
  simp[kQ,this]
 refine gS (nt:=35) (rs:=[.tmp 4]) hm Tryz.func139 fun hl he cI=>?_
 refine aO hm (fun(i:Nat)=> i≤ls.length∧(ls.all fun l=>decide (mh l aB=some true))=(ls.drop i).all fun l=>decide (mh l aB=some true)) (fun(i:Nat)=> ⟨dB 35 .any [(0,lv (c9 ls)),(1,lv (br aB)),(5,iv i)],[]⟩) (fun(i:Nat)=> ls.length-i) (0) ?_ (aw [] ?_ ?_ rfl rfl) ?_
 rotate_left
 ·exact sC
 ·exact sC
 rotate_left
 ·simp
 ·rintro i ⟨hi,hg⟩
  rcases aa (i<ls.length) with h1|h1
  ·rw[aj h1,b7] at hg
   have hn:=hno ls[i] (ak h1)
   simp -implicitDefEqProofs only[go_sem,h1]
   refine aC [] (K2 ls[i] aB) ?_
   cases h2:mh ls[i] aB with
   | none=>
     have e:=hn (by rw[h2];simp)
     simp -implicitDefEqProofs only[go_sem,aU,a6]
     refine an ?_
     refine sA ?_
     all_goals(simp[e];done)
   | some b=>
     rw[h2] at hg hn
     cases b
     ·have e:=hn (by simp)
      simp -implicitDefEqProofs only[go_sem,aJ,aK]
      refine an ?_
      refine sA ?_
      all_goals(simp[e];done)
     ·simp -implicitDefEqProofs only[go_sem,aJ,aK]
      refine sQ ?_
      refine⟨i+1,?_,sL,aw [] ?_ ?_ rfl rfl⟩
      rotate_left
      ·exact sC
      ·exact sC
      refine⟨by omega,?_⟩
      rw[hg];simp
  ·rw[al (by omega),dW] at hg
   simp -implicitDefEqProofs only[go_sem,h1]
   refine aC [] (wh ls) ?_
   cases g1:fH ls
   ·refine sA ?_
    refine an ?_
    refine sA ?_
    all_goals(simp[kQ,g1];done)
   ·refine sA ?_
    refine aC [] (yG aB) ?_
    refine an ?_
    refine sA ?_
    all_goals(simp[kQ,g1,hg];done)
def cUS(r:cz):List T:=[.leaf (.dP (bG r.jA.aG)),.leaf (.val (.int .i64 r.jA.bound)),.leaf (.val (.bool r.jA.strict)),.own 3 (AO r.fK)]
theorem Hm(ls:List ia)(hl:ls.length≤100):C E.P 134 [lv (c9 ls)] [] (bN (lv (dQ (bH ls))) []):=by
 refine gS (nt:=29) (rs:=[.tmp 2]) hm Tryz.func134 fun hl he cI=>?_
 refine aO hm (fun(i:Nat)=> i≤ls.length) (fun(i:Nat)=> ⟨dB 29 .any [(0,lv (c9 ls)),(3,.acc 0),(4,iv i)],[some (.ff 252 (uT ((bt i).map fun i=>⟨ls.getD i mC,sH ls.length i⟩)))]⟩) (fun(i:Nat)=> ls.length-i) (0) ?_ (aw [some 0] ?_ ?_ rfl rfl) ?_
 rotate_left
 ·exact sC
 ·refine sA ?_
  all_goals(rfl)
 rotate_left
 ·omega
 ·rintro i hi
  have hp:(uT ((bt i).map fun i=>(⟨ls.getD i mC,sH ls.length i⟩:cz))).length=i:=by rw[PO];simp
  rcases aa (i<ls.length) with h1|h1
  ·have hz:aW ls.length ([D.val (Value.int .i64 0)]:List D)=bG (aW ls.length 0):=by simp[bG]
   simp -implicitDefEqProofs only[go_sem,h1]
   refine sQ ?_
   simp -implicitDefEqProofs only[go_sem,hz]
   refine⟨i+1,?_,?_,AE 3 i _ rfl (by rw[List.length_append,hp];simp) (wR hp) ?_⟩
   rotate_left
   ·show _ < _
    omega
   ·refine sA ?_
    refine aw [some 3] ?_ ?_ rfl rfl
    ·exact sC
    ·refine sA ?_
     all_goals(rw[vV hp,GW h1];exact⟨Ey h1,(congrArg (fun z=>(cR z).isSome) (Ey h1)).trans (Ye _)⟩)
   exact h1
  ·simp -implicitDefEqProofs only[go_sem,h1]
   refine an ?_
   refine sA ?_
   obtain rfl:i=ls.length:=by omega
   exact⟨_,rfl,rfl⟩
theorem VD{n:Nat}{a b:cz}{v:Nat}(ha:G9 n a)(hb:G9 n b)(h1:0<bS a v)(h2:bS b v<0):dN a.jA (oZ a b v) b.jA (o0 a b v)=jl a.jA (oZ a b v) b.jA (o0 a b v):=by
 obtain⟨_,hp,hq⟩:=Ej ha hb h1 h2
 exact ph ha.jA hb.jA (dx.2 ⟨by omega,hq.2⟩) (dx.2 ⟨by omega,hp.2⟩)
theorem HN(n v:Nat)(a b:cz)(ha:G9 n a)(hb:G9 n b)(hn:n≤100)(hv:v<4)(h1:0<bS a v)(h2:bS b v<0):C E.P 204 [av (cU a),av (cU b),iv v] [] (bN (.ja [av (cU (Ap a b v)),bv (tx a b v)]) []):=by
 have ca:=ha.RG v
 have cb:=hb.RG v
 obtain⟨⟨hg1,hg2⟩,⟨hp1,hp2⟩,⟨hq1,hq2⟩⟩:=Ej ha hb h1 h2
 have la:v<a.jA.aG.length:=by rw[(gp.1 ha.jA).1];exact hv
 have lb:v<b.jA.aG.length:=by rw[(gp.1 hb.jA).1];exact hv
 have ea:a.jA.aG[v]=bS a v:=(getD_at la).symm
 have eb:b.jA.aG[v]=bS b v:=(getD_at lb).symm
 have hal:=ha.len
 have hbl:=hb.len
 have eg:(Int.gcd (bS a v) (-(bS b v)):Int)=ug a b v:=rfl
 have ep:(bS a v).tdiv (ug a b v)=o0 a b v:=rfl
 have eq:(-(bS b v)).tdiv (ug a b v)=oZ a b v:=rfl
 have els:=VD ha hb h1 h2
 have e1:Ap a b v=⟨(dN a.jA (oZ a b v) b.jA (o0 a b v)).1,qf a b v⟩:=rfl
 have e2:tx a b v=((dN a.jA (oZ a b v) b.jA (o0 a b v)).2&&(qf a b v).all fun n=>decide (n≤1000000)):=rfl
 have e3:qf a b v=comb (oZ a b v) (o0 a b v) a.fK b.fK:=rfl
 rw[els] at e1 e2
 clear els
 generalize ug a b v=g at *
 generalize o0 a b v=p at *
 generalize oZ a b v=q at *
 refine gS (nt:=94) (rs:=[.cell 6 252,.tmp 7]) hm Tryz.func204 fun hl he cI=>?_
 simp -implicitDefEqProofs only[go_sem,la,lb,ea,eb]
 refine sQ ?_
 refine bQ [] (qY (bS a v) (-(bS b v)) (by omega) (by omega)) ?_ ?_<;>simp -implicitDefEqProofs only[go_sem,eg,la,lb,ea,eb]
 refine iK ?_
 refine sQ ?_
 simp -implicitDefEqProofs only[go_sem,ep,eq]
 refine aC [] (A0 a.jA q b.jA p ha.jA hb.jA (by omega) (by omega)) ?_
 obtain⟨l,hl⟩:∃l,(jl a.jA q b.jA p).1=l:=⟨_,rfl⟩
 obtain⟨ok,eK⟩:∃l,(jl a.jA q b.jA p).2=l:=⟨_,rfl⟩
 rw[hl] at e1
 rw[eK] at e2
 simp -implicitDefEqProofs only[go_sem,hl,eK]
 refine dm hm (fun(i:Nat) (o:Bool)=> i≤n∧o=(ok&&(comb q p (a.fK.take i) (b.fK.take i)).all fun n=>decide (n≤1000000))) (fun(i:Nat) (o:Bool)=> ⟨dB 94 .any [(3,.ptr 0 0),(4,.ptr 1 0),(6,.ptr 2 0),(9,iv q),(10,iv p),(12,bv o),(13,.ptr 3 0),(14,iv i)],[some (.box (cF (cU a))),some (.box (cF (cU b))),some (.box (cF (cU ⟨mC,[]⟩))),some (.box [lv (bG l.aG),iv l.bound,bv l.strict,.acc 4]),some (.acc 3 (bG (comb q p (a.fK.take i) (b.fK.take i))))]⟩) (fun(i:Nat) (o:Bool)=> n-i) (0) (ok) ?_ (aw [some 0,some 1,some 2,some 4,none] ?_ ?_ rfl rfl) ?_
 rotate_left
 ·exact sC
 ·refine sA ?_
  all_goals(simp[comb, *])
 rotate_left
 ·simp[comb]
 ·rintro i o ⟨hi,ho⟩
  rcases aa (i<n) with h3|h3
  ·have h4:i<a.fK.length:=by omega
   have h5:i<b.fK.length:=by omega
   have b1:=ha.bd a.fK[i] (ak h4)
   have b2:=hb.bd b.fK[i] (ak h5)
   have m1:=dj (m:=q) (b:=a.fK[i]) (by omega) hq2 (by omega)
   have m2:=dj (m:=p) (b:=b.fK[i]) (by omega) hp2 (by omega)
   have dy:(comb q p (a.fK.take i) (b.fK.take i)).length≤100:=by rw[kh (by simp;omega)];simp;omega
   have ho2:(ok&&(comb q p (a.fK.take (i+1)) (b.fK.take (i+1))).all fun n=>decide (n≤1000000))=(o&&decide (q*a.fK[i]+p*b.fK[i]≤1000000)):=by
    rw[ho,eV h4 h5,List.all_append,←Bool.and_assoc]
    simp
   cases o
   ·simp -implicitDefEqProofs only[go_sem,h3,h5,hal]
    refine sQ ?_
    refine⟨i+1,false,?_,sL,aw [some 0,some 1,some 2,some 3,some 5] ?_ ?_ rfl rfl⟩
    rotate_left
    ·exact sC
    ·refine sA ?_
     all_goals((rw[eV h4 h5,←eC];rfl))
    exact⟨h3,by rw[ho2];rfl⟩
   ·simp -implicitDefEqProofs only[go_sem,h3,h5,hal]
    refine sQ ?_
    refine⟨i+1,(decide (q*a.fK[i]+p*b.fK[i]≤1000000)),?_,sL,aw [some 0,some 1,some 2,some 3,some 5] ?_ ?_ rfl rfl⟩
    rotate_left
    ·exact sC
    ·refine sA ?_
     all_goals((rw[eV h4 h5,←eC];rfl))
    exact⟨h3,by rw[ho2];simp⟩
  ·have ta:a.fK.take i=a.fK:=ao (by omega)
   have tb:b.fK.take i=b.fK:=ao (by omega)
   rw[ta,tb,←e3] at ho⊢
   rw[←e2] at ho
   simp -implicitDefEqProofs only[go_sem,h3,hal]
   refine an ?_
   refine sA ?_
   rw[e1,ho]
   repeat' apply ar
   all_goals rfl
theorem xM{n v:Nat}{r:cz}(h:G9 n r)(hv:v<4):∃h:v<r.jA.aG.length,r.jA.aG[v]=bS r v:=by
 have la:v<r.jA.aG.length:=by rw[(gp.1 h.jA).1];exact hv
 exact⟨la,(getD_at la).symm⟩
theorem pW(n v:Nat)(rows:List cz)(hr:wJ n rows)(hn:n≤100)(hv:v<4):C E.P 135 [lv (dQ rows),iv v] [] (bN (.ja [lv (dQ (qk rows v).1),bv (qk rows v).2]) []):=by
 obtain⟨dy,lP⟩:=hr
 refine gS (nt:=96) (rs:=[.tmp 4,.tmp 5]) hm Tryz.func135 fun hl he cI=>?_
 refine aO hm (fun(i:Nat)=> i≤rows.length) (fun(i:Nat)=> ⟨dB 96 .any [(0,lv (dQ rows)),(1,iv v),(6,.acc 0),(7,iv i)],[some (.acc 252 (dQ ((rows.take i).filter fun r=>decide (bS r v=0))))]⟩) (fun(i:Nat)=> rows.length-i) (0) ?_ (aw [some 0] ?_ ?_ rfl rfl) ?_
 rotate_left
 ·exact sC
 ·refine sA ?_
  all_goals(rfl)
 rotate_left
 ·omega
 ·rintro i hi
  have hfl:((rows.take i).filter fun r=>decide (bS r v=0)).length≤200:=by
   have:=List.length_filter_le (fun r:cz=>decide (bS r v=0)) (rows.take i)
   rw[List.length_take] at this
   omega
  rcases aa (i<rows.length) with h1|h1
  ·obtain⟨la,ea⟩:=xM (lP rows[i] (ak h1)) hv
   have hs:=Dd (p:=fun r:cz=>decide (bS r v=0)) h1
   rcases aa (bS rows[i] v=0) with h2|h2
   ·have k2:=eq_true h2
    rw[if_pos (by simpa using h2)] at hs
    simp -implicitDefEqProofs only[go_sem,h1,la,ea,k2]
    refine sQ ?_
    refine⟨i+1,?_,sL,aw [some 1] ?_ ?_ rfl rfl⟩
    rotate_left
    ·exact sC
    ·refine sA ?_
     all_goals((rw[hs,←xZ,ve,ui];rfl))
    exact h1
   ·rw[if_neg (by simpa using h2),List.append_nil] at hs
    simp -implicitDefEqProofs only[go_sem,h1,la,ea,h2]
    refine sQ ?_
    refine⟨i+1,?_,sL,aw [some 0] ?_ ?_ rfl rfl⟩
    rotate_left
    ·exact sC
    ·refine sA ?_
     all_goals((rw[hs]))
    exact h1
  ·have et:rows.take i=rows:=ao (by omega)
   rw[et] at hfl⊢
   obtain⟨out0,ho0⟩:∃o,(rows.filter fun r=>decide (bS r v=0))=o:=⟨_,rfl⟩
   have hL:qk rows v=nV v (o5 rows rows v) out0:=by rw[←ho0];rfl
   rw[ho0] at hfl⊢
   simp -implicitDefEqProofs only[go_sem,h1]
   clear hi h1
   refine dm hm (fun(i:Nat) (out:List cz)=> i≤rows.length∧out.length≤200∧qk rows v=nV v (o5 rows (rows.drop i) v) out) (fun(i:Nat) (out:List cz)=> ⟨dB 96 .any [(0,lv (dQ rows)),(1,iv v),(6,.acc 0),(8,iv i)],[some (.acc 252 (dQ out))]⟩) (fun(i:Nat) (out:List cz)=> rows.length-i) (0) (out0) ?_ (aw [some 0] ?_ ?_ rfl rfl) ?_
   rotate_left
   ·exact sC
   ·exact sC
   rotate_left
   ·exact⟨bh _,hfl,hL⟩
   ·rintro i out ⟨hi,ho,hg⟩
    rcases aa (i<rows.length) with h1|h1
    ·have ua:=lP rows[i] (ak h1)
     rw[CO h1] at hg
     obtain⟨a,ha⟩:∃a,rows[i]=a:=⟨_,rfl⟩
     rw[ha] at ua hg
     obtain⟨la,ea⟩:=xM ua hv
     simp -implicitDefEqProofs only[go_sem,h1]
     refine dm hm (fun(j:Nat) (out:List cz)=> j≤rows.length∧out.length≤200∧qk rows v=nV v (pC a v (rows.drop j)++o5 rows (rows.drop (i+1)) v) out) (fun(j:Nat) (out:List cz)=> ⟨dB 96 .any [(0,lv (dQ rows)),(1,iv v),(6,.acc 0),(8,iv i),(9,iv j)],[some (.acc 252 (dQ out))]⟩) (fun(j:Nat) (out:List cz)=> rows.length-j) (0) (out) ?_ (aw [some 0] ?_ ?_ rfl rfl) ?_
     rotate_left
     ·exact sC
     ·exact sC
     rotate_left
     ·exact⟨bh _,ho,hg⟩
     ·rintro j out ⟨hj,ho,hg⟩
      rcases aa (j<rows.length) with h3|h3
      ·rcases aa (0<bS a v) with h4|h4
       ·have ub:=lP rows[j] (ak h3)
        rw[CW h3] at hg
        obtain⟨b,hb⟩:∃b,rows[j]=b:=⟨_,rfl⟩
        rw[hb] at ub hg
        obtain⟨lb,eb⟩:=xM ub hv
        rcases aa (bS b v<0) with h5|h5
        ·rw[if_pos ⟨h4,h5⟩] at hg
         simp only[List.cons_append,bB,nV] at hg
         simp -implicitDefEqProofs only[go_sem,h3,h1,ha,la,ea,h4,hb,lb,eb,h5]
         refine aC [] (HN n v a b ua ub hn hv h4 h5) ?_
         refine iK ?_
         cases h6:tx a b v
         ·rw[if_neg (by rw[h6];simp)] at hg
          refine sA ?_
          refine an ?_
          refine sA ?_
          rw[hg]
          ((repeat' apply ar)<;>rfl)
         ·rcases aa ((200:Int)≤(out.length:Int)) with h7|h7
          ·rw[if_neg (by omega)] at hg
           simp -implicitDefEqProofs only[go_sem,h7]
           refine an ?_
           refine sA ?_
           rw[hg]
           ((repeat' apply ar)<;>rfl)
          ·rw[if_pos ⟨h6,by omega⟩] at hg
           simp -implicitDefEqProofs only[go_sem,h7]
           refine sQ ?_
           refine⟨j+1,out++[Ap a b v],?_,sL,aw [some 2] ?_ ?_ rfl rfl⟩
           rotate_left
           ·exact sC
           ·refine sA ?_
            all_goals((rw[←xZ,ve,ui];rfl))
           exact⟨by omega,by simp;omega,hg⟩
        ·rw[if_neg (by omega),bB] at hg
         simp -implicitDefEqProofs only[go_sem,h3,h1,ha,la,ea,h4,hb,lb,eb,h5]
         refine sQ ?_
         refine⟨j+1,out,?_,sL,aw [some 0] ?_ ?_ rfl rfl⟩
         rotate_left
         ·exact sC
         ·exact sC
         exact⟨by omega,ho,hg⟩
       ·rw[M5 h4,bB] at hg
        simp -implicitDefEqProofs only[go_sem,h3,h1,ha,la,ea,h4]
        refine sQ ?_
        refine⟨i+1,out,?_,sL,aw [some 0] ?_ ?_ rfl rfl⟩
        rotate_left
        ·exact sC
        ·exact sC
        exact⟨by omega,ho,hg⟩
      ·rw[al (by omega:rows.length≤j)] at hg
       simp -implicitDefEqProofs only[go_sem,h3]
       refine sQ ?_
       refine⟨i+1,out,?_,sL,aw [some 0] ?_ ?_ rfl rfl⟩
       rotate_left
       ·exact sC
       ·exact sC
       exact⟨by omega,ho,by simpa[pC] using hg⟩
    ·rw[al (by omega)] at hg
     simp -implicitDefEqProofs only[go_sem,h1]
     refine an ?_
     refine sA ?_
     rw[hg]
     ((repeat' apply ar)<;>rfl)
theorem H5(v:Nat)(l:ia)(aB:List Mod.Rat)(hl:dE l=true)(h4:aB.length=4)(hv:v<4):C E.P 251 [av (eG l),lv (br aB),iv v] [] (bN (.ja [av (eO (gz l v aB).1),bv (gz l v aB).2]) []):=by
 obtain⟨hn1,hc1,hb1⟩:=gp.1 hl
 have lv1:v<l.aG.length:=by omega
 have ev:l.aG.getD v 0=l.aG[v]:=getD_at lv1
 refine gS (nt:=70) (rs:=[.cell 6 71,.tmp 7]) hm Tryz.func251 fun hl he cI=>?_
 refine dm hm (fun(i:Nat) (sum:Mod.Rat)=> i≤aB.length∧m8 v 0 l.aG aB (whole l.bound)=m8 v i (l.aG.drop i) (aB.drop i) sum) (fun(i:Nat) (sum:Mod.Rat)=> ⟨dB 70 .any [(1,lv (br aB)),(2,iv v),(3,.ptr 0 0),(6,.ptr 1 0),(8,.ptr 2 0),(9,iv i)],[some (.box (cF (eG l))),some (.box (cF (eO jD))),some (.box (cF (eO sum)))]⟩) (fun(i:Nat) (sum:Mod.Rat)=> aB.length-i) (0) (whole l.bound) ?_ (aw [some 0,some 1,some 2] ?_ ?_ rfl rfl) ?_
 rotate_left
 ·exact sC
 ·exact sC
 rotate_left
 ·simp
 ·rintro i sum ⟨hi,hg⟩
  rcases aa (i<aB.length) with h1|h1
  ·have h2:i<l.aG.length:=by omega
   rw[Mj h2 h1] at hg
   rcases aa (i=v) with h3|h3
   ·have k3:((i:Int)=(v:Int))=True:=eq_true (by omega)
    rw[if_pos h3] at hg
    simp -implicitDefEqProofs only[go_sem,h1,k3]
    refine sQ ?_
    refine⟨i+1,sum,?_,sL,aw [some 0,some 1,some 2] ?_ ?_ rfl rfl⟩
    rotate_left
    ·exact sC
    ·exact sC
    exact⟨by omega,hg⟩
   ·have k3:¬ (i:Int)=(v:Int):=by omega
    have cb:=hc1 l.aG[i] (ak h2)
    have cm:=np (whole (-l.aG[i])) aB[i]
    rw[if_neg h3] at hg
    simp -implicitDefEqProofs only[go_sem,h1,h2,k3]
    refine sQ ?_
    refine aC [] cm ?_
    refine iK ?_
    cases h5:(cq (whole (-l.aG[i])) aB[i]).2
    ·rw[h5] at hg
     simp only[ax,if_false] at hg
     have e:gz l v aB=(sum,false):=by simp[gz,hg]
     refine sA ?_
     refine an ?_
     refine sA ?_
     rw[e]
     ((repeat' apply ar)<;>rfl)
    ·rw[h5] at hg
     simp only[if_true] at hg
     refine sA ?_
     refine aC [] (lQ sum (cq (whole (-l.aG[i])) aB[i]).1) ?_
     cases h6:(cY sum (cq (whole (-l.aG[i])) aB[i]).1).2
     ·rw[h6] at hg
      simp only[ax,if_false] at hg
      have e:gz l v aB=(jD,false):=by simp[gz,hg]
      refine sA ?_
      refine an ?_
      refine sA ?_
      rw[e,sG h6]
      ((repeat' apply ar)<;>rfl)
     ·rw[h6] at hg
      simp only[if_true] at hg
      refine sA ?_
      refine sQ ?_
      refine⟨i+1,(cY sum (cq (whole (-l.aG[i])) aB[i]).1).1,?_,sL,aw [some 0,some 1,some 2] ?_ ?_ rfl rfl⟩
      rotate_left
      ·exact sC
      ·exact sC
      exact⟨by omega,hg⟩
  ·rw[al (by omega),N0] at hg
   simp -implicitDefEqProofs only[go_sem,h1,lv1]
   refine aC [] (Kw 1 l.aG[v]) ?_
   cases h5:(lj 1 l.aG[v]).2
   ·have e:gz l v aB=(sum,false):=by simp[gz,hg,h5,lv1]
    refine sA ?_
    refine an ?_
    refine sA ?_
    rw[e]
    ((repeat' apply ar)<;>rfl)
   ·have e:gz l v aB=cq sum (lj 1 l.aG[v]).1:=by simp[gz,hg,h5,lv1]
    refine sA ?_
    refine aC [] (np sum (lj 1 l.aG[v]).1) ?_
    refine an ?_
    refine sA ?_
    rw[e]
    ((repeat' apply ar)<;>rfl)
def LC(lo hi:Option Mod.Rat):List D:=[.val (.int .i64 (lo.getD jD).N),.val (.int .i64 (lo.getD jD).D),.val (.int .i64 (hi.getD jD).N),.val (.int .i64 (hi.getD jD).D),.val (.bool lo.isSome),.val (.bool hi.isSome)]
attribute [go_sem] LC
theorem DH(n v:Nat)(rows:List cz)(aB:List Mod.Rat)(hr:wJ n rows)(h4:aB.length=4)(hv:v<4):C E.P 207 [lv (dQ rows),lv (br aB),iv v] [] (bN (.ja [av (LC (iu v aB rows none none).1.1 (iu v aB rows none none).1.2),bv (iu v aB rows none none).2]) []):=by
 obtain⟨dy,lP⟩:=hr
 refine gS (nt:=82) (rs:=[.cell 6 256,.tmp 7]) hm Tryz.func207 fun hl he cI=>?_
 refine kO hm (fun(i:Nat) (lo:Option Mod.Rat) (hi:Option Mod.Rat)=> i≤rows.length∧iu v aB rows none none=iu v aB (rows.drop i) lo hi) (fun(i:Nat) (lo:Option Mod.Rat) (hi:Option Mod.Rat)=> ⟨dB 82 .any [(0,lv (dQ rows)),(1,lv (br aB)),(2,iv v),(6,.ptr 0 0),(8,.ptr 1 0),(9,iv i)],[some (.box (cF (LC none none))),some (.box (cF (LC lo hi)))]⟩) (fun(i:Nat) (lo:Option Mod.Rat) (hi:Option Mod.Rat)=> rows.length-i) (0) (none) (none) ?_ (aw [some 0,some 1] ?_ ?_ rfl rfl) ?_
 rotate_left
 ·exact sC
 ·refine sA ?_
  all_goals(simp[*];done)
 rotate_left
 ·simp
 ·rintro i lo hi ⟨hi1,hg⟩
  rcases aa (i<rows.length) with h1|h1
  ·have ua:=lP rows[i] (ak h1)
   obtain⟨la,ea⟩:=xM ua hv
   rw[OS h1] at hg
   rcases aa (bS rows[i] v=0) with h2|h2
   ·have k2:=eq_true h2
    rw[if_pos h2] at hg
    simp -implicitDefEqProofs only[go_sem,h1,la,ea,k2]
    refine sQ ?_
    refine⟨i+1,lo,hi,?_,sL,aw [some 0,some 1] ?_ ?_ rfl rfl⟩
    rotate_left
    ·exact sC
    ·exact sC
    exact⟨by omega,hg⟩
   ·rw[if_neg h2] at hg
    simp -implicitDefEqProofs only[go_sem,h1,la,ea,h2]
    refine aC [] (H5 v rows[i].jA aB ua.jA h4 hv) ?_
    generalize hb:gz rows[i].jA v aB=b at hg
    obtain⟨b,ok⟩:=b
    simp only at hg
    cases ok
    ·simp only[ax,if_false] at hg
     refine sA ?_
     refine an ?_
     refine sA ?_
     rw[hg]
     ((repeat' apply ar)<;>rfl)
    ·simp only[if_true] at hg
     rcases aa (0<bS rows[i] v) with h3|h3
     ·rw[if_pos h3] at hg
      have h3':¬bS rows[i] v<0:=by omega
      cases hi with
      | none=>
        rw[show lower b none=true from rfl,if_pos rfl] at hg
        simp -implicitDefEqProofs only[go_sem,la,ea,aU,a6,h3,h3']
        refine sQ ?_
        refine⟨i+1,lo,some b,?_,sL,aw [some 0,some 1] ?_ ?_ rfl rfl⟩
        rotate_left
        ·exact sC
        ·refine sA ?_
         all_goals(simp[*];done)
        exact⟨by omega,hg⟩
      | some h=>
        rw[show lower b (some h)=cQ b h from rfl] at hg
        simp -implicitDefEqProofs only[go_sem,la,ea,aJ,aK,h3]
        refine aC [] (mD b h) ?_
        cases h5:cQ b h
        ·rw[h5,if_neg (by simp)] at hg
         simp -implicitDefEqProofs only[go_sem,la,ea,h3']
         refine sQ ?_
         refine⟨i+1,lo,some h,?_,sL,aw [some 0,some 1] ?_ ?_ rfl rfl⟩
         rotate_left
         ·exact sC
         ·refine sA ?_
          all_goals(simp[*];done)
         exact⟨by omega,hg⟩
        ·rw[h5,if_pos rfl] at hg
         simp -implicitDefEqProofs only[go_sem,la,ea,h3']
         refine sQ ?_
         refine⟨i+1,lo,some b,?_,sL,aw [some 0,some 1] ?_ ?_ rfl rfl⟩
         rotate_left
         ·exact sC
         ·refine sA ?_
          all_goals(simp[*];done)
         exact⟨by omega,hg⟩
     ·rw[if_neg h3] at hg
      have h3':bS rows[i] v<0:=by omega
      cases lo with
      | none=>
        rw[show upper b none=true from rfl,if_pos rfl] at hg
        simp -implicitDefEqProofs only[go_sem,la,ea,aU,a6,h3,h3']
        refine sQ ?_
        refine⟨i+1,some b,hi,?_,sL,aw [some 0,some 1] ?_ ?_ rfl rfl⟩
        rotate_left
        ·exact sC
        ·refine sA ?_
         all_goals(simp[*];done)
        exact⟨by omega,hg⟩
      | some l=>
        rw[show upper b (some l)=cQ l b from rfl] at hg
        simp -implicitDefEqProofs only[go_sem,la,ea,aJ,aK,h3,h3']
        refine aC [] (mD l b) ?_
        cases h5:cQ l b
        ·rw[h5,if_neg (by simp)] at hg
         refine sA ?_
         refine sQ ?_
         refine⟨i+1,some l,hi,?_,sL,aw [some 0,some 1] ?_ ?_ rfl rfl⟩
         rotate_left
         ·exact sC
         ·refine sA ?_
          all_goals(simp[*];done)
         exact⟨by omega,hg⟩
        ·rw[h5,if_pos rfl] at hg
         refine sA ?_
         refine sQ ?_
         refine⟨i+1,some b,hi,?_,sL,aw [some 0,some 1] ?_ ?_ rfl rfl⟩
         rotate_left
         ·exact sC
         ·refine sA ?_
          all_goals(simp[*];done)
         exact⟨by omega,hg⟩
  ·rw[al (by omega),iu] at hg
   simp -implicitDefEqProofs only[go_sem,h1]
   refine an ?_
   refine sA ?_
   rw[hg]
   ((repeat' apply ar)<;>rfl)
theorem DI(lo hi:Option Mod.Rat):C E.P 208 [av (LC lo hi)] [] (bN (.ja [av (eO (kH lo hi).1),bv (kH lo hi).2]) []):=by
 have c1:=fun x=>lQ x (whole 1)
 have c2:=fun x=>lQ x (whole (-1))
 refine gS (nt:=37) (rs:=[.cell 2 71,.tmp 3]) hm Tryz.func208 fun hl he cI=>?_
 cases lo with
 | none=>
   cases hi with
   | none=>
     simp -implicitDefEqProofs only[go_sem,aU,a6]
     refine an ?_
     refine sA ?_
     ((repeat' apply ar)<;>rfl)
   | some h=>
     simp -implicitDefEqProofs only[go_sem,aU,a6,aJ,aK]
     refine aC [] (c2 h) ?_
     refine an ?_
     refine sA ?_
     ((repeat' apply ar)<;>rfl)
 | some l=>
   cases hi with
   | none=>
     simp -implicitDefEqProofs only[go_sem,aU,a6,aJ,aK]
     refine aC [] (c1 l) ?_
     refine an ?_
     refine sA ?_
     ((repeat' apply ar)<;>rfl)
   | some h=>
     simp -implicitDefEqProofs only[go_sem,aJ,aK]
     refine aC [] (HV l h) ?_
     refine an ?_
     refine sA ?_
     ((repeat' apply ar)<;>rfl)
theorem Hl(n:Nat)(st:List (List cz))(hs:∀rows∈st,wJ n rows)(h4:st.length=4):C E.P 138 [.acc 0] [some (.acc 190 (pJ st))] (bN (.ja [lv (br (vE st 0 nL).1),bv (vE st 0 nL).2]) [some (.acc 190 (pJ st))]):=by
 refine gS (nt:=47) (rs:=[.tmp 2,.tmp 3]) hm Tryz.func138 fun hl he cI=>?_
 refine aO hm (fun(i:Nat)=> i≤4) (fun(i:Nat)=> ⟨dB 47 .any [(0,.acc 0),(4,.acc 1),(5,iv i)],[some (.acc 190 (pJ st)),some (.acc 71 (br (aW i (whole 0))))]⟩) (fun(i:Nat)=> 4-i) (0) ?_ (aw [some 0,some 1] ?_ ?_ rfl rfl) ?_
 rotate_left
 ·exact sC
 ·refine sA ?_
  all_goals(rfl)
 rotate_left
 ·omega
 ·rintro i hi
  have hrl:(br (aW i (whole 0))).length=i:=by rw[wC];simp
  rcases aa (i<4) with h1|h1
  ·have h1':(i:Int)<4:=by omega
   simp -implicitDefEqProofs only[go_sem,h1']
   refine sQ ?_
   refine⟨i+1,?_,sL,aw [some 0,some 2] ?_ ?_ rfl rfl⟩
   rotate_left
   ·exact sC
   ·refine sA ?_
    all_goals((rw[List.replicate_succ',←sW,uS,s5];rfl))
   exact h1
  ·have h1':¬ (i:Int)<4:=by omega
   obtain rfl:i=4:=by omega
   have e0:aW 4 (whole 0)=nL:=rfl
   rw[e0]
   simp -implicitDefEqProofs only[go_sem,Z2]
   clear hi h1 h1' hrl
   refine dm hm (fun(k:Nat) (aB:List Mod.Rat)=> k≤4∧aB.length=4∧vE st 0 nL=vE (st.drop k) k aB) (fun(k:Nat) (aB:List Mod.Rat)=> ⟨dB 47 .any [(0,.acc 0),(4,.acc 1),(6,iv k)],[some (.acc 190 (pJ st)),some (.acc 71 (br aB))]⟩) (fun(k:Nat) (aB:List Mod.Rat)=> 4-k) (0) (nL) ?_ (aw [some 0,some 1] ?_ ?_ rfl rfl) ?_
   rotate_left
   ·exact sC
   ·exact sC
   rotate_left
   ·exact⟨by omega,rfl,rfl⟩
   ·rintro k aB ⟨hk,hv4,hg⟩
    rcases aa (k<4) with h1|h1
    ·have h1':(k:Int)<4:=by omega
     have h2:k<st.length:=by omega
     have h3:k<aB.length:=by omega
     have hu:=hs st[k] (ak h2)
     rw[Oz h2] at hg
     have cb:=DH n k st[k] aB hu hv4 h1
     have hrv:=qd (l:=aB) (i:=k) (x:=(kH (iu k aB st[k] none none).1.1 (iu k aB st[k] none none).1.2).1) h3
     rw[wE h3] at hrv
     have cc:=DI (iu k aB st[k] none none).1.1 (iu k aB st[k] none none).1.2
     generalize iu k aB st[k] none none=e at hg cb cc hrv
     obtain⟨⟨lo,hi⟩,ok⟩:=e
     simp only at hg cb cc hrv
     simp -implicitDefEqProofs only[go_sem,h1',h2]
     refine dL [] [1] cb rfl ?_ ?_ ?_
     ·exact sV
     all_goals simp -implicitDefEqProofs only[go_sem]
     cases ok
     ·simp only[ax,if_false] at hg
      refine sA ?_
      refine bX [some 0] ?_ rfl rfl
      refine sA ?_
      rw[hg]
      ((repeat' apply ar)<;>rfl)
     ·simp only[if_true] at hg
      refine sA ?_
      refine aC [] cc ?_
      generalize kH lo hi=c at hg cc hrv
      obtain⟨c,ok⟩:=c
      simp only at hg hrv
      cases ok
      ·simp only[ax,if_false] at hg
       simp -implicitDefEqProofs only[go_sem,h3]
       refine bX [some 0] ?_ rfl rfl
       refine sA ?_
       rw[hg]
       simp only[eO] at hrv
       ((repeat' apply ar)<;>first|exact hrv.symm|rfl)
      ·simp only[if_true] at hg
       simp -implicitDefEqProofs only[go_sem,h3]
       refine sQ ?_
       refine⟨k+1,aB.set k c,?_,sL,aw [some 0,some 1] ?_ ?_ rfl rfl⟩
       rotate_left
       ·exact sC
       ·refine sA ?_
        all_goals((simp only[eO] at hrv;exact hrv))
       exact⟨by omega,by simpa using hv4,hg⟩
    ·have h1':¬ (k:Int)<4:=by omega
     rw[al (by omega),vE] at hg
     simp -implicitDefEqProofs only[go_sem,h1']
     refine bX [some 0] ?_ rfl rfl
     refine sA ?_
     rw[hg]
     ((repeat' apply ar)<;>rfl)
theorem KY(n:Nat)(rows:List cz)(hr:wJ n rows):C E.P 136 [lv (dQ rows)] [] (bN (lv (bG (OE rows))) []):=by
 have dy:=hr.1
 refine gS (nt:=22) (rs:=[.tmp 2]) hm Tryz.func136 fun hl he cI=>?_
 refine aO hm (fun(i:Nat)=> i≤rows.length∧(rows.find? fun r=>jG r.jA)=(rows.drop i).find? fun r=>jG r.jA) (fun(i:Nat)=> ⟨dB 22 .any [(0,lv (dQ rows)),(3,iv i)],[]⟩) (fun(i:Nat)=> rows.length-i) (0) ?_ (aw [] ?_ ?_ rfl rfl) ?_
 rotate_left
 ·exact sC
 ·exact sC
 rotate_left
 ·simp
 ·rintro i ⟨hi,hg⟩
  rcases aa (i<rows.length) with h1|h1
  ·rw[aj h1,List.find?_cons] at hg
   simp -implicitDefEqProofs only[go_sem,h1]
   refine aC [] (yA rows[i].jA) ?_
   cases h2:jG rows[i].jA
   ·rw[h2] at hg
    refine sA ?_
    refine sQ ?_
    refine⟨i+1,?_,sL,aw [] ?_ ?_ rfl rfl⟩
    rotate_left
    ·exact sC
    ·exact sC
    exact⟨by omega,hg⟩
   ·rw[h2] at hg
    simp only at hg
    simp -implicitDefEqProofs only[go_sem,h1]
    refine an ?_
    refine sA ?_
    rw[OE,hg]
  ·rw[al (by omega),List.find?_nil] at hg
   simp -implicitDefEqProofs only[go_sem,h1]
   refine an ?_
   refine sA ?_
   rw[OE,hg]
   rfl
def aaX(ls:List ia)(z:Int)(rows:List cz)(s:List (List cz)):Prop:=
 s.length=4∧(∀x∈s,wJ ls.length x)∧wJ ls.length rows∧(ls=[]→rows=[]) ∧
 ((z=3∧rows=bH ls)∨(z=2∧gU (bH ls) 3=some rows∧s[3]?=some (bH ls)) ∨
 (z=1∧∃r2,gU (bH ls) 3=some r2∧gU r2 2=some rows∧s[3]?=some (bH ls)∧s[2]?=some r2) ∨
 (z=0∧∃r2 r1,gU (bH ls) 3=some r2∧gU r2 2=some r1∧gU r1 1=some rows∧s[3]?=some (bH ls)∧s[2]?=some r2∧s[1]?=some r1) ∨
 (z = -1∧∃r2 r1 r0,gU (bH ls) 3=some r2∧gU r2 2=some r1∧gU r1 1=some r0∧gU r0 0=some rows∧s=[r0,r1,r2,bH ls]))
theorem T8(n:Nat):wJ n []:=⟨by simp,fun r hr=>by simp at hr⟩
theorem Ab{ls:List ia}{rows r:List cz}{v:Nat}(h:ls=[]→rows=[])(hr:gU rows v=some r):ls=[]→r=[]:=fun e=>by
 rw[h e,RN] at hr
 simpa using hr.symm
theorem Ed{n:Nat}{s:List (List cz)}{i:Nat}{rows:List cz}(h:∀x∈s,wJ n x)(hr:wJ n rows):∀x∈s.set i rows,wJ n x:=fun x hx=>by
 rcases List.mem_or_eq_of_mem_set hx with h1|h1
 ·exact h x h1
 ·rw[h1];exact hr
theorem four{s:List (List cz)}{a b c d:List cz}(h:s.length=4)(h3:s[3]?=some d)(h2:s[2]?=some c)(h1:s[1]?=some b):s.set 0 a=[a,b,c,d]:=by
 match s,h with
 | [p,q,r,t],_=>simp at h1 h2 h3;simp[h1,h2,h3]
theorem Ho(ls:List ia):C E.P 65 [lv (c9 ls)] [] (bN (.ja [lv (br (bR ls).aB),lv (bG (bR ls).times),iv (bR ls).code]) []):=by
 refine gS (nt:=77) (rs:=[.tmp 2,.tmp 3,.tmp 4]) hm Tryz.func65 fun hl he cI=>?_
 refine aC [] (wh ls) ?_
 cases hsys:fH ls
 ·have e:bR ls=⟨[],[],3⟩:=by simp[bR,hsys]
  refine sA ?_
  refine an ?_
  refine sA ?_
  rw[e]
  ((repeat' apply ar)<;>rfl)
 have h20:ls.length≤20:=by simp only[fH,ai,decide_eq_true_eq] at hsys;exact hsys.1
 have u3:=CK hsys
 have hn3:ls=[]→bH ls=[]:=fun e=>by rw[e];rfl
 simp -implicitDefEqProofs only[go_sem,Z3,Z4]
 refine sQ ?_
 refine aC [] (Hm ls (by omega)) ?_
 refine kO hm (fun(z:Int) (rows:List cz) (s:List (List cz))=> aaX ls z rows s) (fun(z:Int) (rows:List cz) (s:List (List cz))=> ⟨dB 77 .any [(0,lv (c9 ls)),(5,.acc 0),(6,.acc 1),(7,lv (dQ rows)),(8,iv z)],[some (.acc 71 (br [])),some (.acc 190 (pJ s))]⟩) (fun(z:Int) (rows:List cz) (s:List (List cz))=> (z+1).toNat) (3) (bH ls) ([[],[],[],[]]) ?_ (aw [some 0,some 1] ?_ ?_ rfl rfl) ?_
 rotate_left
 ·exact sC
 ·refine sA ?_
  all_goals(rfl)
 rotate_left
 ·exact⟨rfl,fun x hx=>by simp at hx;rw[hx];exact T8 _,u3,hn3,.inl ⟨rfl,rfl⟩⟩
 ·rintro z rows s ⟨h4,hs,hu,hnil,hz⟩
  rcases hz with⟨rfl,rfl⟩|⟨rfl,g3,t3⟩|⟨rfl,r2,g3,g2,t3,t2⟩|⟨rfl,r2,r1,g3,g2,g1,t3,t2,t1⟩|⟨rfl,r2,r1,r0,g3,g2,g1,g0,rfl⟩
  ·generalize hR:bH ls=rows at *
   have cl:=pW ls.length 3 rows hu (by omega) (by omega)
   have hput:=uA (l:=s) (i:=3) (x:=rows) (by omega)
   have hsl:3<s.length:=by omega
   rw[pD hsl] at hput
   simp -implicitDefEqProofs only[go_sem,Z3,Z4,hsl]
   refine aC [] cl ?_
   cases hl:(qk rows 3).2
   ·have hn:=vl hl
    have e:bR ls=⟨[],[],2⟩:=by simp[bR, *]
    refine sA ?_
    refine an ?_
    refine sA ?_
    rw[e]
    ((repeat' apply ar)<;>rfl)
   ·have hn:=uU hl
    have hn2:=Ab hnil hn
    have hu2:=kd hu hn
    generalize (qk rows 3).1=r at hn hn2 hu2⊢
    refine sA ?_
    refine sQ ?_
    refine⟨(2:Int),r,s.set 3 rows,?_,sL,aw [some 0,some 1] ?_ ?_ rfl rfl⟩
    rotate_left
    ·refine sA ?_
     all_goals(simp[*];done)
    ·refine sA ?_
     all_goals(exact hput)
    exact⟨by simpa using h4,Ed hs hu,hu2,hn2,.inr (.inl ⟨rfl,by rw[hR];exact hn,by rw[hR];simp[h4]⟩)⟩
  ·have cl:=pW ls.length 2 rows hu (by omega) (by omega)
   have hput:=uA (l:=s) (i:=2) (x:=rows) (by omega)
   have hsl:2<s.length:=by omega
   rw[pD hsl] at hput
   simp -implicitDefEqProofs only[go_sem,Z3,Z4,hsl]
   refine aC [] cl ?_
   cases hl:(qk rows 2).2
   ·have hn:=vl hl
    have e:bR ls=⟨[],[],2⟩:=by simp[bR, *]
    refine sA ?_
    refine an ?_
    refine sA ?_
    rw[e]
    ((repeat' apply ar)<;>rfl)
   ·have hn:=uU hl
    have hn2:=Ab hnil hn
    have hu2:=kd hu hn
    generalize (qk rows 2).1=r at hn hn2 hu2⊢
    refine sA ?_
    refine sQ ?_
    refine⟨(1:Int),r,s.set 2 rows,?_,sL,aw [some 0,some 1] ?_ ?_ rfl rfl⟩
    rotate_left
    ·refine sA ?_
     all_goals(simp[*];done)
    ·refine sA ?_
     all_goals(exact hput)
    exact⟨by simpa using h4,Ed hs hu,hu2,hn2,.inr (.inr (.inl ⟨rfl,rows,g3,hn,by simpa using t3,by simp[h4]⟩))⟩
  ·have cl:=pW ls.length 1 rows hu (by omega) (by omega)
   have hput:=uA (l:=s) (i:=1) (x:=rows) (by omega)
   have hsl:1<s.length:=by omega
   rw[pD hsl] at hput
   simp -implicitDefEqProofs only[go_sem,Z3,Z4,hsl]
   refine aC [] cl ?_
   cases hl:(qk rows 1).2
   ·have hn:=vl hl
    have e:bR ls=⟨[],[],2⟩:=by simp[bR, *]
    refine sA ?_
    refine an ?_
    refine sA ?_
    rw[e]
    ((repeat' apply ar)<;>rfl)
   ·have hn:=uU hl
    have hn2:=Ab hnil hn
    have hu2:=kd hu hn
    generalize (qk rows 1).1=r at hn hn2 hu2⊢
    refine sA ?_
    refine sQ ?_
    refine⟨(0:Int),r,s.set 1 rows,?_,sL,aw [some 0,some 1] ?_ ?_ rfl rfl⟩
    rotate_left
    ·refine sA ?_
     all_goals(simp[*];done)
    ·refine sA ?_
     all_goals(exact hput)
    exact⟨by simpa using h4,Ed hs hu,hu2,hn2,.inr (.inr (.inr (.inl ⟨rfl,r2,rows,g3,g2,hn,by simpa using t3,by simpa using t2,by simp[h4]⟩)))⟩
  ·have cl:=pW ls.length 0 rows hu (by omega) (by omega)
   have hput:=uA (l:=s) (i:=0) (x:=rows) (by omega)
   have hsl:0<s.length:=by omega
   rw[pD hsl] at hput
   simp -implicitDefEqProofs only[go_sem,hsl]
   refine aC [] cl ?_
   cases hl:(qk rows 0).2
   ·have hn:=vl hl
    have e:bR ls=⟨[],[],2⟩:=by simp[bR, *]
    refine sA ?_
    refine an ?_
    refine sA ?_
    rw[e]
    ((repeat' apply ar)<;>rfl)
   ·have hn:=uU hl
    have hn2:=Ab hnil hn
    have hu2:=kd hu hn
    generalize (qk rows 0).1=r at hn hn2 hu2⊢
    refine sA ?_
    refine sQ ?_
    refine⟨(-1:Int),r,s.set 0 rows,?_,sL,aw [some 0,some 1] ?_ ?_ rfl rfl⟩
    rotate_left
    ·refine sA ?_
     all_goals(simp[*];done)
    ·refine sA ?_
     all_goals(exact hput)
    exact⟨by simpa using h4,Ed hs hu,hu2,hn2,.inr (.inr (.inr (.inr ⟨rfl,r2,r1,rows,g3,g2,g1,hn,four h4 t3 t2 t1⟩)))⟩
  ·have hF:bR ls=ie ls r0 r1 r2 (bH ls) rows:=by simp[bR,hsys,g3,g2,g1,g0]
   clear g3 g2 g1 g0
   have hback:=Nx (st:=[r0,r1,r2,bH ls]) (v:=0) (aB:=nL)
   simp -implicitDefEqProofs only[go_sem,Z3]
   refine aC [] (KY ls.length rows hu) ?_
   cases mN:rows.find? fun r=>jG r.jA with
   | some r=>
     have hb:OE rows=r.fK:=by rw[OE,mN]
     have hm:=List.mem_of_find?_eq_some mN
     have hul:=(hu.2 r hm).len
     have hpos:0<ls.length:=by
      rcases Nat.eq_zero_or_pos ls.length with h0|h0
      ·rw[hnil (List.length_eq_zero_iff.1 h0)] at hm
       simp at hm
      ·exact h0
     have hpos':(0:Int)<(r.fK.length:Int):=by omega
     simp -implicitDefEqProofs only[go_sem,hb,hpos']
     refine aC [] (J3 ls r.fK) ?_
     cases hf:qS ls r.fK
     ·have e:bR ls=⟨[],[],2⟩:=by rw[hF,ie,mN];simp[hf]
      refine sA ?_
      refine an ?_
      refine sA ?_
      rw[e]
      ((repeat' apply ar)<;>rfl)
     ·have e:bR ls=⟨[],r.fK,1⟩:=by rw[hF,ie,mN];simp[hf]
      simp -implicitDefEqProofs only[go_sem,hpos']
      refine sQ ?_
      refine an ?_
      refine sA ?_
      rw[e]
      ((repeat' apply ar)<;>rfl)
   | none=>
     have hb:OE rows=[]:=by rw[OE,mN]
     simp -implicitDefEqProofs only[go_sem,Z2,hb]
     refine oC [] [1] (Hl ls.length [r0,r1,r2,bH ls] hs rfl) ?_
     generalize vE [r0,r1,r2,bH ls] 0 nL=b at hback
     obtain⟨aB,ok⟩:=b
     cases ok
     ·have e:bR ls=⟨[],[],2⟩:=by rw[hF,ie,mN];simp[hback,Hw]
      refine sA ?_
      refine an ?_
      refine sA ?_
      rw[e]
      ((repeat' apply ar)<;>rfl)
     ·refine sA ?_
      refine aC [] (H0 ls aB) ?_
      cases hf:kQ ls aB
      ·have e:bR ls=⟨[],[],2⟩:=by rw[hF,ie,mN];simp[hback,Hw,hf]
       refine sA ?_
       refine an ?_
       refine sA ?_
       rw[e]
       ((repeat' apply ar)<;>rfl)
      ·have e:bR ls=⟨aB,[],0⟩:=by rw[hF,ie,mN];simp[hback,Hw,hf]
       refine sA ?_
       refine an ?_
       refine sA ?_
       rw[e]
       ((repeat' apply ar)<;>rfl)
end Go.Proofs.YtabembjmeobhoaaGreat
