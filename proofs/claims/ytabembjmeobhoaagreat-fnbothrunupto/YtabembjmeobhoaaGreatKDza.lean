/-
  The reference: the walks of values, sums, and systems that hold. A step towards the laws.
-/
import Derived.Test.YtabembjmeobhoaaGreatKDe
import Derived.Test.YtabembjmeobhoaaGreatKDQ
import Derived.Test.YtabembjmeobhoaaGreatKDzf
set_option linter.unusedVariables false
set_option linter.unusedSimpArgs false
open And renaming intro→au
open Bool renaming and_eq_true→al,false_eq_true→ax
open Classical renaming em→aa
open List renaming drop_eq_getElem_cons→ae,drop_of_length_le→ai,getElem_mem→ak,take_of_length_le→ao,replicate→aS,range→bx,nil_append→bC,all_cons→b9,all_nil→dM
open Nat renaming zero_le→bc
open Option renaming isSome_some→aW,getD_some→aX,isSome_none→bE,getD_none→cg
namespace Go.Proofs.YtabembjmeobhoaaGreat
open Go.Eng Go.Mod
open Int renaming reduceEq→Z1,reduceLT→Z2,reduceLE→Z3,reduceToNat→Z4
set_option maxRecDepth 100000
set_option maxHeartbeats 800000
theorem LQ(n d:Int):C E.P 268 [iv n,iv d] [] (bz (.gV [av (eU (lr n d).1),bv (lr n d).2]) []):=by
 refine gS (nt:=33) (rs:=[.cell 4 71,.tmp 5]) hm Tryz.func268 fun hl he cq=>?_
 rcases aa (d=0) with h0|h0
 ·have k0:=eq_true h0
  have e:lr n d=(jE,false):=by rw[h0];exact PO
  refine uH ?_
  refine an ?_
  refine sA ?_
  all_goals(simp[e];done)
 simp -implicitDefEqProofs only[go_sem,h0]
 refine aC [] (rn n) ?_
 rcases aa (1000000000<rj n) with h1|h1
 ·have e:=Hy (d:=d) (.inl h1)
  refine uA ?_
  refine an ?_
  refine sA ?_
  all_goals(simp[e];done)
 refine uA ?_
 refine aC [] (rn d) ?_
 rcases aa (1000000000<rj d) with h2|h2
 ·have e:=Hy (n:=n) (.inr h2)
  refine uB ?_
  refine an ?_
  refine sA ?_
  all_goals(simp[e];done)
 have e:=VR (n:=n) (d:=d) (by omega) (by omega)
 have b1:=th.1 (show rj n≤1000000000 by omega)
 have b2:=th.1 (show rj d≤1000000000 by omega)
 rcases aa (d<0) with h3|h3
 ·have e2:=Nw (n:=n) h0 h3
  simp -implicitDefEqProofs only[go_sem,h2,h3]
  refine sQ ?_
  refine aC [] (ow (-n) (-d) (by omega) (by omega)) ?_
  refine an ?_
  refine sA ?_
  all_goals(simp[e,e2];done)
 ·simp -implicitDefEqProofs only[go_sem,h2,h3]
  refine aC [] (ow n d (by omega) (by omega)) ?_
  refine an ?_
  refine sA ?_
  all_goals(simp[e];done)
theorem IY(a b:Mod.Rat):C E.P 252 [av (eU a),av (eU b)] [] (bz (.gV [av (eU (qX a b).1),bv (qX a b).2]) []):=by
 refine gS (nt:=22) (rs:=[.cell 4 71,.tmp 5]) hm Tryz.func252 fun hl he cq=>?_
 refine aC [] (lX a b) ?_
 cases g1:(db a b).2
 ·refine sA ?_
  refine an ?_
  refine sA ?_
  all_goals(simp[qX,g1];done)
 ·refine sA ?_
  refine aC [] (nG (db a b).1 ⟨1,2⟩) ?_
  refine an ?_
  refine sA ?_
  all_goals(simp[qX,g1];done)
theorem zf(aH:List Mod.Rat):C E.P 210 [lv (bp aH)] [] (bz (bv (qx aH)) []):=by
 refine gS (nt:=19) (rs:=[.tmp 2]) hm Tryz.func210 fun hl he cq=>?_
 refine aL hm (fun(i:Nat)=> i≤aH.length∧aH.all bX=(aH.drop i).all bX) (fun(i:Nat)=> ⟨dx 19 .any [(0,lv (bp aH)),(3,iv i)],[]⟩) (fun(i:Nat)=> aH.length-i) (0) ?_ (ar [] ?_ ?_ rfl rfl) ?_
 rotate_left
 ·exact sC
 ·exact sC
 rotate_left
 ·simp
 ·rintro i ⟨hi,hg⟩
  rcases aa (i<aH.length) with h1|h1
  ·rw[ae h1,b9] at hg
   refine uA ?_
   refine aC [] (gm aH[i]) ?_
   cases h2:bX aH[i]
   ·rw[h2,Bool.false_and] at hg
    refine sA ?_
    refine an ?_
    refine sA ?_
    all_goals(simp[qx,hg];done)
   ·rw[h2,Bool.true_and] at hg
    refine sA ?_
    refine sQ ?_
    refine⟨i+1,?_,sL,ar [] ?_ ?_ rfl rfl⟩
    rotate_left
    ·exact sC
    ·exact sC
    exact⟨by omega,hg⟩
  ·rw[ai (by omega),dM] at hg
   rcases aa ((aH.length:Int)=4) with h3|h3
   ·have h3':aH.length=4:=by omega
    have k3:=eq_true h3
    simp -implicitDefEqProofs only[go_sem,h1,k3]
    refine an ?_
    refine sA ?_
    all_goals(simp[qx,hg,h3'];done)
   ·have h3':¬aH.length=4:=by omega
    simp -implicitDefEqProofs only[go_sem,h1,h3]
    refine an ?_
    refine sA ?_
    all_goals(simp[qx,h3'];done)
theorem OQ{aH:List Mod.Rat}(h:qx aH=true):aH.length=4:=by
 simp only[qx,al,decide_eq_true_eq] at h
 exact h.1
theorem L3(l:iV)(aH:List Mod.Rat)(h4:l.aF.length=aH.length):C E.P 254 [av (eL l),lv (bp aH)] [] (bz (.gV [av (eU (tm l.aF aH (whole 0)).1),bv (tm l.aF aH (whole 0)).2]) []):=by
 refine gS (nt:=45) (rs:=[.cell 4 71,.tmp 5]) hm Tryz.func254 fun hl he cq=>?_
 refine cM hm (fun(i:Nat) (sum:Mod.Rat)=> i≤l.aF.length∧tm l.aF aH (whole 0)=tm (l.aF.drop i) (aH.drop i) sum) (fun(i:Nat) (sum:Mod.Rat)=> ⟨dx 45 .any [(1,lv (bp aH)),(2,.ptr 0 0),(4,.ptr 1 0),(6,.ptr 2 0),(7,iv i)],[some (.box (cE (eL l))),some (.box (cE (eU jE))),some (.box (cE (eU sum)))]⟩) (fun(i:Nat) (sum:Mod.Rat)=> l.aF.length-i) (0) (whole 0) ?_ (ar [some 0,some 1,some 2] ?_ ?_ rfl rfl) ?_
 rotate_left
 ·exact sC
 ·exact sC
 rotate_left
 ·simp
 ·rintro i sum ⟨hi,hg⟩
  rcases aa (i<l.aF.length) with h1|h1
  ·have h2:i<aH.length:=by omega
   rw[O9 h1 h2] at hg
   have cm:=nG (whole l.aF[i]) aH[i]
   refine uJ ?_
   refine aC [] cm ?_
   refine iK ?_
   cases h3:(cC (whole l.aF[i]) aH[i]).2
   ·rw[h3] at hg
    simp only[ax,if_false] at hg
    refine sA ?_
    refine an ?_
    refine sA ?_
    rw[hg]
    ((repeat' apply au)<;>rfl)
   ·rw[h3] at hg
    simp only[if_true] at hg
    refine sA ?_
    refine aC [] (lX sum (cC (whole l.aF[i]) aH[i]).1) ?_
    cases h5:(db sum (cC (whole l.aF[i]) aH[i]).1).2
    ·rw[h5] at hg
     simp only[ax,if_false] at hg
     refine sA ?_
     refine an ?_
     refine sA ?_
     rw[hg,s7 h5]
     ((repeat' apply au)<;>rfl)
    ·rw[h5] at hg
     simp only[if_true] at hg
     refine sA ?_
     refine sQ ?_
     refine⟨i+1,(db sum (cC (whole l.aF[i]) aH[i]).1).1,?_,sL,ar [some 0,some 1,some 2] ?_ ?_ rfl rfl⟩
     rotate_left
     ·exact sC
     ·exact sC
     exact⟨by omega,hg⟩
  ·rw[ai (by omega),Tl] at hg
   refine uA ?_
   refine an ?_
   refine sA ?_
   rw[hg]
   ((repeat' apply au)<;>rfl)
theorem KW(l:iV)(aH:List Mod.Rat):C E.P 209 [av (eL l),lv (bp aH)] [] (bz (.gV [bv ((mi l aH).getD false),bv (mi l aH).isSome]) []):=by
 refine gS (nt:=41) (rs:=[.tmp 4,.tmp 5]) hm Tryz.func209 fun hl he cq=>?_
 refine aC [] (gM l) ?_
 cases g1:eu l
 ·refine sA ?_
  refine an ?_
  refine sA ?_
  all_goals(simp[mi,g1];done)
 ·refine sA ?_
  refine aC [] (zf aH) ?_
  cases g2:qx aH
  ·refine sA ?_
   refine an ?_
   refine sA ?_
   all_goals(simp[mi,g1,g2];done)
  ·obtain⟨hn1,hc1,hb1⟩:=gv.1 g1
   have hv:=OQ g2
   have e:mi l aH=(Ad (tm l.aF aH (whole 0))).map fun x=>below x l.bound l.strict:=by simp[mi,g1,g2,Fz]
   have eW:=Jw (cs:=l.aF) (xs:=aH) (sum:=whole 0) (r:=(tm l.aF aH (whole 0)).1) (by decide)
   rw[Fz] at eW
   refine sA ?_
   refine aC [] (L3 l aH (by omega)) ?_
   obtain⟨⟨x,ok⟩,hx⟩:∃r,tm l.aF aH (whole 0)=r:=⟨_,rfl⟩
   rw[hx] at e eW⊢
   simp only at eW
   cases ok
   ·refine sA ?_
    refine an ?_
    refine sA ?_
    all_goals(simp[e,Ad];done)
   ·have hx2:=eW rfl
    have e2:=N0 hx2 (n:=l.bound) (by omega) (by omega) l.strict
    have e3:mi l aH=some (below x l.bound l.strict):=e
    have cl:=mP x (whole l.bound)
    refine sA ?_
    refine aC [] cl ?_
    cases h5:cY x (whole l.bound)
    ·rw[h5] at e2
     cases h6:l.strict
     ·rw[h6] at e2
      refine sA ?_
      refine FF (by kernel_rfl) (a:=x.N) (b:=x.D) (c:=l.bound) (e:=1) (by simp -implicitDefEqProofs only[go_sem]) (by simp -implicitDefEqProofs only[go_sem]) ?_
      have e5:jn x.N x.D l.bound 1=decide (x=whole l.bound):=pg x (whole l.bound)
      rw[e5]
      refine sA ?_
      refine an ?_
      refine sA ?_
      rw[e3,h6,e2]
      simp
     ·rw[h6] at e2
      refine sA ?_
      refine an ?_
      refine sA ?_
      rw[e3,h6,e2]
      ((repeat' apply au)<;>rfl)
    ·rw[h5] at e2
     refine sA ?_
     refine an ?_
     refine sA ?_
     rw[e3,e2]
     ((repeat' apply au)<;>rfl)
theorem IZ(ls:List iV)(aH:List Mod.Rat):C E.P 139 [lv (di ls),lv (bp aH)] [] (bz (bv (lg ls aH)) []):=by
 have hno:∀l∈ls,mi l aH≠some true→lg ls aH=false:=fun l hl h=>by
  have:(ls.all fun l=>decide (mi l aH=some true))=false:=by
   rw[Bool.eq_false_iff]
   intro hh
   have:=List.all_eq_true.1 hh l hl
   exact h (by simpa using this)
  simp[lg,this]
 refine gS (nt:=35) (rs:=[.tmp 4]) hm Tryz.func139 fun hl he cq=>?_
 refine aL hm (fun(i:Nat)=> i≤ls.length∧(ls.all fun l=>decide (mi l aH=some true))=(ls.drop i).all fun l=>decide (mi l aH=some true)) (fun(i:Nat)=> ⟨dx 35 .any [(0,lv (di ls)),(1,lv (bp aH)),(5,iv i)],[]⟩) (fun(i:Nat)=> ls.length-i) (0) ?_ (ar [] ?_ ?_ rfl rfl) ?_
 rotate_left
 ·exact sC
 ·exact sC
 rotate_left
 ·simp
 ·rintro i ⟨hi,hg⟩
  rcases aa (i<ls.length) with h1|h1
  ·rw[ae h1,b9] at hg
   have hn:=hno ls[i] (ak h1)
   refine uA ?_
   refine aC [] (KW ls[i] aH) ?_
   cases h2:mi ls[i] aH with
   | none=>
     have e:=hn (by rw[h2];simp)
     refine uK ?_
     refine an ?_
     refine sA ?_
     all_goals(simp[e];done)
   | some b=>
     rw[h2] at hg hn
     cases b
     ·have e:=hn (by simp)
      refine uL ?_
      refine an ?_
      refine sA ?_
      all_goals(simp[e];done)
     ·refine uL ?_
      refine sQ ?_
      refine⟨i+1,?_,sL,ar [] ?_ ?_ rfl rfl⟩
      rotate_left
      ·exact sC
      ·exact sC
      refine⟨by omega,?_⟩
      rw[hg];simp
  ·rw[ai (by omega),dM] at hg
   refine uA ?_
   refine aC [] (wR ls) ?_
   cases g1:fP ls
   ·refine sA ?_
    refine an ?_
    refine sA ?_
    all_goals(simp[lg,g1];done)
   ·refine sA ?_
    refine aC [] (zf aH) ?_
    refine an ?_
    refine sA ?_
    all_goals(simp[lg,g1,hg];done)
def cUS(r:cH):List T:=[.leaf (.dt (bF r.jC.aF)),.leaf (.val (.int .i64 r.jC.bound)),.leaf (.val (.bool r.jC.strict)),.own 3 (AX r.fQ)]
theorem Io(ls:List iV)(hl:ls.length≤100):C E.P 134 [lv (di ls)] [] (bz (lv (dX (bI ls))) []):=by
 refine gS (nt:=29) (rs:=[.tmp 2]) hm Tryz.func134 fun hl he cq=>?_
 refine aL hm (fun(i:Nat)=> i≤ls.length) (fun(i:Nat)=> ⟨dx 29 .any [(0,lv (di ls)),(3,.acc 0),(4,iv i)],[some (.fk 252 (uT ((bx i).map fun i=>⟨ls.getD i m8,s8 ls.length i⟩)))]⟩) (fun(i:Nat)=> ls.length-i) (0) ?_ (ar [some 0] ?_ ?_ rfl rfl) ?_
 rotate_left
 ·exact sC
 ·refine sA ?_
  all_goals(rfl)
 rotate_left
 ·omega
 ·rintro i hi
  have hp:(uT ((bx i).map fun i=>(⟨ls.getD i m8,s8 ls.length i⟩:cH))).length=i:=by rw[Pn];simp
  rcases aa (i<ls.length) with h1|h1
  ·have hz:aS ls.length ([D.val (Value.int .i64 0)]:List D)=bF (aS ls.length 0):=by simp[bF]
   refine uA ?_
   refine sQ ?_
   simp -implicitDefEqProofs only[go_sem,hz]
   refine⟨i+1,?_,?_,Bd 3 i _ rfl (by rw[List.length_append,hp];simp) (wQ hp) ?_⟩
   rotate_left
   ·show _ < _
    omega
   ·refine sA ?_
    refine ar [some 3] ?_ ?_ rfl rfl
    ·exact sC
    ·refine sA ?_
     all_goals(rw[xg hp,GI h1];exact⟨Fl h1,(congrArg (fun z=>(cX z).isSome) (Fl h1)).trans (Y7 _)⟩)
   exact h1
  ·refine uA ?_
   refine an ?_
   refine sA ?_
   obtain rfl:i=ls.length:=by omega
   exact⟨_,rfl,rfl⟩
theorem WW{n:Nat}{a b:cH}{v:Nat}(ha:HU n a)(hb:HU n b)(h1:0<bT a v)(h2:bT b v<0):eV a.jC (o8 a b v) b.jC (o7 a b v)=jO a.jC (o8 a b v) b.jC (o7 a b v):=by
 obtain⟨_,hp,hq⟩:=E4 ha hb h1 h2
 exact pR ha.jC hb.jC (dj.2 ⟨by omega,hq.2⟩) (dj.2 ⟨by omega,hp.2⟩)
theorem Iu(n v:Nat)(a b:cH)(ha:HU n a)(hb:HU n b)(hn:n≤100)(hv:v<4)(h1:0<bT a v)(h2:bT b v<0):C E.P 204 [av (cU a),av (cU b),iv v] [] (bz (.gV [av (cU (BD a b v)),bv (tN a b v)]) []):=by
 have ca:=ha.SX v
 have cb:=hb.SX v
 obtain⟨⟨hg1,hg2⟩,⟨hp1,hp2⟩,⟨hq1,hq2⟩⟩:=E4 ha hb h1 h2
 have la:v<a.jC.aF.length:=by rw[(gv.1 ha.jC).1];exact hv
 have lb:v<b.jC.aF.length:=by rw[(gv.1 hb.jC).1];exact hv
 have ea:a.jC.aF[v]=bT a v:=(getD_at la).symm
 have eb:b.jC.aF[v]=bT b v:=(getD_at lb).symm
 have hal:=ha.len
 have hbl:=hb.len
 have eg:(Int.gcd (bT a v) (-(bT b v)):Int)=uX a b v:=rfl
 have ep:(bT a v).tdiv (uX a b v)=o7 a b v:=rfl
 have eq:(-(bT b v)).tdiv (uX a b v)=o8 a b v:=rfl
 have els:=WW ha hb h1 h2
 have e1:BD a b v=⟨(eV a.jC (o8 a b v) b.jC (o7 a b v)).1,qw a b v⟩:=rfl
 have e2:tN a b v=((eV a.jC (o8 a b v) b.jC (o7 a b v)).2&&(qw a b v).all fun n=>decide (n≤1000000)):=rfl
 have e3:qw a b v=comb (o8 a b v) (o7 a b v) a.fQ b.fQ:=rfl
 rw[els] at e1 e2
 clear els
 generalize uX a b v=g at *
 generalize o7 a b v=p at *
 generalize o8 a b v=q at *
 refine gS (nt:=94) (rs:=[.cell 6 252,.tmp 7]) hm Tryz.func204 fun hl he cq=>?_
 simp -implicitDefEqProofs only[go_sem,la,lb,ea,eb]
 refine sQ ?_
 refine bw [] (rf (bT a v) (-(bT b v)) (by omega) (by omega)) ?_ ?_<;>simp -implicitDefEqProofs only[go_sem,eg,la,lb,ea,eb]
 refine iK ?_
 refine sQ ?_
 simp -implicitDefEqProofs only[go_sem,ep,eq]
 refine aC [] (BE a.jC q b.jC p ha.jC hb.jC (by omega) (by omega)) ?_
 obtain⟨l,hl⟩:∃l,(jO a.jC q b.jC p).1=l:=⟨_,rfl⟩
 obtain⟨ok,eW⟩:∃l,(jO a.jC q b.jC p).2=l:=⟨_,rfl⟩
 rw[hl] at e1
 rw[eW] at e2
 simp -implicitDefEqProofs only[go_sem,hl,eW]
 refine cM hm (fun(i:Nat) (o:Bool)=> i≤n∧o=(ok&&(comb q p (a.fQ.take i) (b.fQ.take i)).all fun n=>decide (n≤1000000))) (fun(i:Nat) (o:Bool)=> ⟨dx 94 .any [(3,.ptr 0 0),(4,.ptr 1 0),(6,.ptr 2 0),(9,iv q),(10,iv p),(12,bv o),(13,.ptr 3 0),(14,iv i)],[some (.box (cE (cU a))),some (.box (cE (cU b))),some (.box (cE (cU ⟨m8,[]⟩))),some (.box [lv (bF l.aF),iv l.bound,bv l.strict,.acc 4]),some (.acc 3 (bF (comb q p (a.fQ.take i) (b.fQ.take i))))]⟩) (fun(i:Nat) (o:Bool)=> n-i) (0) (ok) ?_ (ar [some 0,some 1,some 2,some 4,none] ?_ ?_ rfl rfl) ?_
 rotate_left
 ·exact sC
 ·refine sA ?_
  all_goals(simp[comb, *])
 rotate_left
 ·simp[comb]
 ·rintro i o ⟨hi,ho⟩
  rcases aa (i<n) with h3|h3
  ·have h4:i<a.fQ.length:=by omega
   have h5:i<b.fQ.length:=by omega
   have b1:=ha.bd a.fQ[i] (ak h4)
   have b2:=hb.bd b.fQ[i] (ak h5)
   have m1:=dq (m:=q) (b:=a.fQ[i]) (by omega) hq2 (by omega)
   have m2:=dq (m:=p) (b:=b.fQ[i]) (by omega) hp2 (by omega)
   have dy:(comb q p (a.fQ.take i) (b.fQ.take i)).length≤100:=by rw[kf (by simp;omega)];simp;omega
   have ho2:(ok&&(comb q p (a.fQ.take (i+1)) (b.fQ.take (i+1))).all fun n=>decide (n≤1000000))=(o&&decide (q*a.fQ[i]+p*b.fQ[i]≤1000000)):=by
    rw[ho,e6 h4 h5,List.all_append,←Bool.and_assoc]
    simp
   cases o
   ·simp -implicitDefEqProofs only[go_sem,h3,h5,hal]
    refine sQ ?_
    refine⟨i+1,false,?_,sL,ar [some 0,some 1,some 2,some 3,some 5] ?_ ?_ rfl rfl⟩
    rotate_left
    ·exact sC
    ·refine sA ?_
     all_goals((rw[e6 h4 h5,←eK];rfl))
    exact⟨h3,by rw[ho2];rfl⟩
   ·simp -implicitDefEqProofs only[go_sem,h3,h5,hal]
    refine sQ ?_
    refine⟨i+1,(decide (q*a.fQ[i]+p*b.fQ[i]≤1000000)),?_,sL,ar [some 0,some 1,some 2,some 3,some 5] ?_ ?_ rfl rfl⟩
    rotate_left
    ·exact sC
    ·refine sA ?_
     all_goals((rw[e6 h4 h5,←eK];rfl))
    exact⟨h3,by rw[ho2];simp⟩
  ·have ta:a.fQ.take i=a.fQ:=ao (by omega)
   have tb:b.fQ.take i=b.fQ:=ao (by omega)
   rw[ta,tb,←e3] at ho⊢
   rw[←e2] at ho
   simp -implicitDefEqProofs only[go_sem,h3,hal]
   refine an ?_
   refine sA ?_
   rw[e1,ho]
   repeat' apply au
   all_goals rfl
theorem yr{n v:Nat}{r:cH}(h:HU n r)(hv:v<4):∃h:v<r.jC.aF.length,r.jC.aF[v]=bT r v:=by
 have la:v<r.jC.aF.length:=by rw[(gv.1 h.jC).1];exact hv
 exact⟨la,(getD_at la).symm⟩
theorem pZ(n v:Nat)(rows:List cH)(hr:xZ n rows)(hn:n≤100)(hv:v<4):C E.P 135 [lv (dX rows),iv v] [] (bz (.gV [lv (dX (qD rows v).1),bv (qD rows v).2]) []):=by
 obtain⟨dy,mR⟩:=hr
 refine gS (nt:=96) (rs:=[.tmp 4,.tmp 5]) hm Tryz.func135 fun hl he cq=>?_
 refine aL hm (fun(i:Nat)=> i≤rows.length) (fun(i:Nat)=> ⟨dx 96 .any [(0,lv (dX rows)),(1,iv v),(6,.acc 0),(7,iv i)],[some (.acc 252 (dX ((rows.take i).filter fun r=>decide (bT r v=0))))]⟩) (fun(i:Nat)=> rows.length-i) (0) ?_ (ar [some 0] ?_ ?_ rfl rfl) ?_
 rotate_left
 ·exact sC
 ·refine sA ?_
  all_goals(rfl)
 rotate_left
 ·omega
 ·rintro i hi
  have hfl:((rows.take i).filter fun r=>decide (bT r v=0)).length≤200:=by
   have:=List.length_filter_le (fun r:cH=>decide (bT r v=0)) (rows.take i)
   rw[List.length_take] at this
   omega
  rcases aa (i<rows.length) with h1|h1
  ·obtain⟨la,ea⟩:=yr (mR rows[i] (ak h1)) hv
   have hs:=DB (p:=fun r:cH=>decide (bT r v=0)) h1
   rcases aa (bT rows[i] v=0) with h2|h2
   ·have k2:=eq_true h2
    rw[if_pos (by simpa using h2)] at hs
    simp -implicitDefEqProofs only[go_sem,h1,la,ea,k2]
    refine sQ ?_
    refine⟨i+1,?_,sL,ar [some 1] ?_ ?_ rfl rfl⟩
    rotate_left
    ·exact sC
    ·refine sA ?_
     all_goals((rw[hs,←yc,uZ,um];rfl))
    exact h1
   ·rw[if_neg (by simpa using h2),List.append_nil] at hs
    simp -implicitDefEqProofs only[go_sem,h1,la,ea,h2]
    refine sQ ?_
    refine⟨i+1,?_,sL,ar [some 0] ?_ ?_ rfl rfl⟩
    rotate_left
    ·exact sC
    ·refine sA ?_
     all_goals((rw[hs]))
    exact h1
  ·have et:rows.take i=rows:=ao (by omega)
   rw[et] at hfl⊢
   obtain⟨out0,ho0⟩:∃o,(rows.filter fun r=>decide (bT r v=0))=o:=⟨_,rfl⟩
   have hL:qD rows v=oa v (pI rows rows v) out0:=by rw[←ho0];rfl
   rw[ho0] at hfl⊢
   refine uA ?_
   clear hi h1
   refine cM hm (fun(i:Nat) (out:List cH)=> i≤rows.length∧out.length≤200∧qD rows v=oa v (pI rows (rows.drop i) v) out) (fun(i:Nat) (out:List cH)=> ⟨dx 96 .any [(0,lv (dX rows)),(1,iv v),(6,.acc 0),(8,iv i)],[some (.acc 252 (dX out))]⟩) (fun(i:Nat) (out:List cH)=> rows.length-i) (0) (out0) ?_ (ar [some 0] ?_ ?_ rfl rfl) ?_
   rotate_left
   ·exact sC
   ·exact sC
   rotate_left
   ·exact⟨bc _,hfl,hL⟩
   ·rintro i out ⟨hi,ho,hg⟩
    rcases aa (i<rows.length) with h1|h1
    ·have ua:=mR rows[i] (ak h1)
     rw[Dj h1] at hg
     obtain⟨a,ha⟩:∃a,rows[i]=a:=⟨_,rfl⟩
     rw[ha] at ua hg
     obtain⟨la,ea⟩:=yr ua hv
     refine uA ?_
     refine cM hm (fun(j:Nat) (out:List cH)=> j≤rows.length∧out.length≤200∧qD rows v=oa v (pF a v (rows.drop j)++pI rows (rows.drop (i+1)) v) out) (fun(j:Nat) (out:List cH)=> ⟨dx 96 .any [(0,lv (dX rows)),(1,iv v),(6,.acc 0),(8,iv i),(9,iv j)],[some (.acc 252 (dX out))]⟩) (fun(j:Nat) (out:List cH)=> rows.length-j) (0) (out) ?_ (ar [some 0] ?_ ?_ rfl rfl) ?_
     rotate_left
     ·exact sC
     ·exact sC
     rotate_left
     ·exact⟨bc _,ho,hg⟩
     ·rintro j out ⟨hj,ho,hg⟩
      rcases aa (j<rows.length) with h3|h3
      ·rcases aa (0<bT a v) with h4|h4
       ·have ub:=mR rows[j] (ak h3)
        rw[DJ h3] at hg
        obtain⟨b,hb⟩:∃b,rows[j]=b:=⟨_,rfl⟩
        rw[hb] at ub hg
        obtain⟨lb,eb⟩:=yr ub hv
        rcases aa (bT b v<0) with h5|h5
        ·rw[if_pos ⟨h4,h5⟩] at hg
         simp only[List.cons_append,bC,oa] at hg
         simp -implicitDefEqProofs only[go_sem,h3,h1,ha,la,ea,h4,hb,lb,eb,h5]
         refine aC [] (Iu n v a b ua ub hn hv h4 h5) ?_
         refine iK ?_
         cases h6:tN a b v
         ·rw[if_neg (by rw[h6];simp)] at hg
          refine sA ?_
          refine an ?_
          refine sA ?_
          rw[hg]
          ((repeat' apply au)<;>rfl)
         ·rcases aa ((200:Int)≤(out.length:Int)) with h7|h7
          ·rw[if_neg (by omega)] at hg
           simp -implicitDefEqProofs only[go_sem,h7]
           refine an ?_
           refine sA ?_
           rw[hg]
           ((repeat' apply au)<;>rfl)
          ·rw[if_pos ⟨h6,by omega⟩] at hg
           simp -implicitDefEqProofs only[go_sem,h7]
           refine sQ ?_
           refine⟨j+1,out++[BD a b v],?_,sL,ar [some 2] ?_ ?_ rfl rfl⟩
           rotate_left
           ·exact sC
           ·refine sA ?_
            all_goals((rw[←yc,uZ,um];rfl))
           exact⟨by omega,by simp;omega,hg⟩
        ·rw[if_neg (by omega),bC] at hg
         simp -implicitDefEqProofs only[go_sem,h3,h1,ha,la,ea,h4,hb,lb,eb,h5]
         refine sQ ?_
         refine⟨j+1,out,?_,sL,ar [some 0] ?_ ?_ rfl rfl⟩
         rotate_left
         ·exact sC
         ·exact sC
         exact⟨by omega,ho,hg⟩
       ·rw[Nd h4,bC] at hg
        simp -implicitDefEqProofs only[go_sem,h3,h1,ha,la,ea,h4]
        refine sQ ?_
        refine⟨i+1,out,?_,sL,ar [some 0] ?_ ?_ rfl rfl⟩
        rotate_left
        ·exact sC
        ·exact sC
        exact⟨by omega,ho,hg⟩
      ·rw[ai (by omega:rows.length≤j)] at hg
       refine uC ?_
       refine sQ ?_
       refine⟨i+1,out,?_,sL,ar [some 0] ?_ ?_ rfl rfl⟩
       rotate_left
       ·exact sC
       ·exact sC
       exact⟨by omega,ho,by simpa[pF] using hg⟩
    ·rw[ai (by omega)] at hg
     refine uA ?_
     refine an ?_
     refine sA ?_
     rw[hg]
     ((repeat' apply au)<;>rfl)
theorem Iz(v:Nat)(l:iV)(aH:List Mod.Rat)(hl:eu l=true)(h4:aH.length=4)(hv:v<4):C E.P 251 [av (eL l),lv (bp aH),iv v] [] (bz (.gV [av (eU (gE l v aH).1),bv (gE l v aH).2]) []):=by
 obtain⟨hn1,hc1,hb1⟩:=gv.1 hl
 have lv1:v<l.aF.length:=by omega
 have ev:l.aF.getD v 0=l.aF[v]:=getD_at lv1
 refine gS (nt:=70) (rs:=[.cell 6 71,.tmp 7]) hm Tryz.func251 fun hl he cq=>?_
 refine cM hm (fun(i:Nat) (sum:Mod.Rat)=> i≤aH.length∧nj v 0 l.aF aH (whole l.bound)=nj v i (l.aF.drop i) (aH.drop i) sum) (fun(i:Nat) (sum:Mod.Rat)=> ⟨dx 70 .any [(1,lv (bp aH)),(2,iv v),(3,.ptr 0 0),(6,.ptr 1 0),(8,.ptr 2 0),(9,iv i)],[some (.box (cE (eL l))),some (.box (cE (eU jE))),some (.box (cE (eU sum)))]⟩) (fun(i:Nat) (sum:Mod.Rat)=> aH.length-i) (0) (whole l.bound) ?_ (ar [some 0,some 1,some 2] ?_ ?_ rfl rfl) ?_
 rotate_left
 ·exact sC
 ·exact sC
 rotate_left
 ·simp
 ·rintro i sum ⟨hi,hg⟩
  rcases aa (i<aH.length) with h1|h1
  ·have h2:i<l.aF.length:=by omega
   rw[OG h2 h1] at hg
   rcases aa (i=v) with h3|h3
   ·have k3:((i:Int)=(v:Int))=True:=eq_true (by omega)
    rw[if_pos h3] at hg
    simp -implicitDefEqProofs only[go_sem,h1,k3]
    refine sQ ?_
    refine⟨i+1,sum,?_,sL,ar [some 0,some 1,some 2] ?_ ?_ rfl rfl⟩
    rotate_left
    ·exact sC
    ·exact sC
    exact⟨by omega,hg⟩
   ·have k3:¬ (i:Int)=(v:Int):=by omega
    have cb:=hc1 l.aF[i] (ak h2)
    have cm:=nG (whole (-l.aF[i])) aH[i]
    rw[if_neg h3] at hg
    simp -implicitDefEqProofs only[go_sem,h1,h2,k3]
    refine sQ ?_
    refine aC [] cm ?_
    refine iK ?_
    cases h5:(cC (whole (-l.aF[i])) aH[i]).2
    ·rw[h5] at hg
     simp only[ax,if_false] at hg
     have e:gE l v aH=(sum,false):=by simp[gE,hg]
     refine sA ?_
     refine an ?_
     refine sA ?_
     rw[e]
     ((repeat' apply au)<;>rfl)
    ·rw[h5] at hg
     simp only[if_true] at hg
     refine sA ?_
     refine aC [] (lX sum (cC (whole (-l.aF[i])) aH[i]).1) ?_
     cases h6:(db sum (cC (whole (-l.aF[i])) aH[i]).1).2
     ·rw[h6] at hg
      simp only[ax,if_false] at hg
      have e:gE l v aH=(jE,false):=by simp[gE,hg]
      refine sA ?_
      refine an ?_
      refine sA ?_
      rw[e,s7 h6]
      ((repeat' apply au)<;>rfl)
     ·rw[h6] at hg
      simp only[if_true] at hg
      refine sA ?_
      refine sQ ?_
      refine⟨i+1,(db sum (cC (whole (-l.aF[i])) aH[i]).1).1,?_,sL,ar [some 0,some 1,some 2] ?_ ?_ rfl rfl⟩
      rotate_left
      ·exact sC
      ·exact sC
      exact⟨by omega,hg⟩
  ·rw[ai (by omega),OW] at hg
   simp -implicitDefEqProofs only[go_sem,h1,lv1]
   refine aC [] (LQ 1 l.aF[v]) ?_
   cases h5:(lr 1 l.aF[v]).2
   ·have e:gE l v aH=(sum,false):=by simp[gE,hg,h5,lv1]
    refine sA ?_
    refine an ?_
    refine sA ?_
    rw[e]
    ((repeat' apply au)<;>rfl)
   ·have e:gE l v aH=cC sum (lr 1 l.aF[v]).1:=by simp[gE,hg,h5,lv1]
    refine sA ?_
    refine aC [] (nG sum (lr 1 l.aF[v]).1) ?_
    refine an ?_
    refine sA ?_
    rw[e]
    ((repeat' apply au)<;>rfl)
def NR(lo hi:Option Mod.Rat):List D:=[.val (.int .i64 (lo.getD jE).N),.val (.int .i64 (lo.getD jE).D),.val (.int .i64 (hi.getD jE).N),.val (.int .i64 (hi.getD jE).D),.val (.bool lo.isSome),.val (.bool hi.isSome)]
attribute [go_sem] NR
theorem Eb(n v:Nat)(rows:List cH)(aH:List Mod.Rat)(hr:xZ n rows)(h4:aH.length=4)(hv:v<4):C E.P 207 [lv (dX rows),lv (bp aH),iv v] [] (bz (.gV [av (NR (iy v aH rows none none).1.1 (iy v aH rows none none).1.2),bv (iy v aH rows none none).2]) []):=by
 obtain⟨dy,mR⟩:=hr
 refine gS (nt:=82) (rs:=[.cell 6 256,.tmp 7]) hm Tryz.func207 fun hl he cq=>?_
 refine kS hm (fun(i:Nat) (lo:Option Mod.Rat) (hi:Option Mod.Rat)=> i≤rows.length∧iy v aH rows none none=iy v aH (rows.drop i) lo hi) (fun(i:Nat) (lo:Option Mod.Rat) (hi:Option Mod.Rat)=> ⟨dx 82 .any [(0,lv (dX rows)),(1,lv (bp aH)),(2,iv v),(6,.ptr 0 0),(8,.ptr 1 0),(9,iv i)],[some (.box (cE (NR none none))),some (.box (cE (NR lo hi)))]⟩) (fun(i:Nat) (lo:Option Mod.Rat) (hi:Option Mod.Rat)=> rows.length-i) (0) (none) (none) ?_ (ar [some 0,some 1] ?_ ?_ rfl rfl) ?_
 rotate_left
 ·exact sC
 ·refine sA ?_
  all_goals(simp[*];done)
 rotate_left
 ·simp
 ·rintro i lo hi ⟨hi1,hg⟩
  rcases aa (i<rows.length) with h1|h1
  ·have ua:=mR rows[i] (ak h1)
   obtain⟨la,ea⟩:=yr ua hv
   rw[Qd h1] at hg
   rcases aa (bT rows[i] v=0) with h2|h2
   ·have k2:=eq_true h2
    rw[if_pos h2] at hg
    simp -implicitDefEqProofs only[go_sem,h1,la,ea,k2]
    refine sQ ?_
    refine⟨i+1,lo,hi,?_,sL,ar [some 0,some 1] ?_ ?_ rfl rfl⟩
    rotate_left
    ·exact sC
    ·exact sC
    exact⟨by omega,hg⟩
   ·rw[if_neg h2] at hg
    simp -implicitDefEqProofs only[go_sem,h1,la,ea,h2]
    refine aC [] (Iz v rows[i].jC aH ua.jC h4 hv) ?_
    generalize hb:gE rows[i].jC v aH=b at hg
    obtain⟨b,ok⟩:=b
    simp only at hg
    cases ok
    ·simp only[ax,if_false] at hg
     refine sA ?_
     refine an ?_
     refine sA ?_
     rw[hg]
     ((repeat' apply au)<;>rfl)
    ·simp only[if_true] at hg
     rcases aa (0<bT rows[i] v) with h3|h3
     ·rw[if_pos h3] at hg
      have h3':¬bT rows[i] v<0:=by omega
      cases hi with
      | none=>
        rw[show lower b none=true from rfl,if_pos rfl] at hg
        simp -implicitDefEqProofs only[go_sem,la,ea,bE,cg,h3,h3']
        refine sQ ?_
        refine⟨i+1,lo,some b,?_,sL,ar [some 0,some 1] ?_ ?_ rfl rfl⟩
        rotate_left
        ·exact sC
        ·refine sA ?_
         all_goals(simp[*];done)
        exact⟨by omega,hg⟩
      | some h=>
        rw[show lower b (some h)=cY b h from rfl] at hg
        simp -implicitDefEqProofs only[go_sem,la,ea,aW,aX,h3]
        refine aC [] (mP b h) ?_
        cases h5:cY b h
        ·rw[h5,if_neg (by simp)] at hg
         simp -implicitDefEqProofs only[go_sem,la,ea,h3']
         refine sQ ?_
         refine⟨i+1,lo,some h,?_,sL,ar [some 0,some 1] ?_ ?_ rfl rfl⟩
         rotate_left
         ·exact sC
         ·refine sA ?_
          all_goals(simp[*];done)
         exact⟨by omega,hg⟩
        ·rw[h5,if_pos rfl] at hg
         simp -implicitDefEqProofs only[go_sem,la,ea,h3']
         refine sQ ?_
         refine⟨i+1,lo,some b,?_,sL,ar [some 0,some 1] ?_ ?_ rfl rfl⟩
         rotate_left
         ·exact sC
         ·refine sA ?_
          all_goals(simp[*];done)
         exact⟨by omega,hg⟩
     ·rw[if_neg h3] at hg
      have h3':bT rows[i] v<0:=by omega
      cases lo with
      | none=>
        rw[show upper b none=true from rfl,if_pos rfl] at hg
        simp -implicitDefEqProofs only[go_sem,la,ea,bE,cg,h3,h3']
        refine sQ ?_
        refine⟨i+1,some b,hi,?_,sL,ar [some 0,some 1] ?_ ?_ rfl rfl⟩
        rotate_left
        ·exact sC
        ·refine sA ?_
         all_goals(simp[*];done)
        exact⟨by omega,hg⟩
      | some l=>
        rw[show upper b (some l)=cY l b from rfl] at hg
        simp -implicitDefEqProofs only[go_sem,la,ea,aW,aX,h3,h3']
        refine aC [] (mP l b) ?_
        cases h5:cY l b
        ·rw[h5,if_neg (by simp)] at hg
         refine sA ?_
         refine sQ ?_
         refine⟨i+1,some l,hi,?_,sL,ar [some 0,some 1] ?_ ?_ rfl rfl⟩
         rotate_left
         ·exact sC
         ·refine sA ?_
          all_goals(simp[*];done)
         exact⟨by omega,hg⟩
        ·rw[h5,if_pos rfl] at hg
         refine sA ?_
         refine sQ ?_
         refine⟨i+1,some b,hi,?_,sL,ar [some 0,some 1] ?_ ?_ rfl rfl⟩
         rotate_left
         ·exact sC
         ·refine sA ?_
          all_goals(simp[*];done)
         exact⟨by omega,hg⟩
  ·rw[ai (by omega),iy] at hg
   refine uA ?_
   refine an ?_
   refine sA ?_
   rw[hg]
   ((repeat' apply au)<;>rfl)
theorem Eg(lo hi:Option Mod.Rat):C E.P 208 [av (NR lo hi)] [] (bz (.gV [av (eU (kI lo hi).1),bv (kI lo hi).2]) []):=by
 have c1:=fun x=>lX x (whole 1)
 have c2:=fun x=>lX x (whole (-1))
 refine gS (nt:=37) (rs:=[.cell 2 71,.tmp 3]) hm Tryz.func208 fun hl he cq=>?_
 cases lo with
 | none=>
   cases hi with
   | none=>
     refine uK ?_
     refine an ?_
     refine sA ?_
     ((repeat' apply au)<;>rfl)
   | some h=>
     simp -implicitDefEqProofs only[go_sem,bE,cg,aW,aX]
     refine aC [] (c2 h) ?_
     refine an ?_
     refine sA ?_
     ((repeat' apply au)<;>rfl)
 | some l=>
   cases hi with
   | none=>
     simp -implicitDefEqProofs only[go_sem,bE,cg,aW,aX]
     refine aC [] (c1 l) ?_
     refine an ?_
     refine sA ?_
     ((repeat' apply au)<;>rfl)
   | some h=>
     refine uL ?_
     refine aC [] (IY l h) ?_
     refine an ?_
     refine sA ?_
     ((repeat' apply au)<;>rfl)
theorem Iv(n:Nat)(st:List (List cH))(hs:∀rows∈st,xZ n rows)(h4:st.length=4):C E.P 138 [.acc 0] [some (.acc 190 (pH st))] (bz (.gV [lv (bp (wu st 0 nU).1),bv (wu st 0 nU).2]) [some (.acc 190 (pH st))]):=by
 refine gS (nt:=47) (rs:=[.tmp 2,.tmp 3]) hm Tryz.func138 fun hl he cq=>?_
 refine aL hm (fun(i:Nat)=> i≤4) (fun(i:Nat)=> ⟨dx 47 .any [(0,.acc 0),(4,.acc 1),(5,iv i)],[some (.acc 190 (pH st)),some (.acc 71 (bp (aS i (whole 0))))]⟩) (fun(i:Nat)=> 4-i) (0) ?_ (ar [some 0,some 1] ?_ ?_ rfl rfl) ?_
 rotate_left
 ·exact sC
 ·refine sA ?_
  all_goals(rfl)
 rotate_left
 ·omega
 ·rintro i hi
  have hrl:(bp (aS i (whole 0))).length=i:=by rw[x6];simp
  rcases aa (i<4) with h1|h1
  ·have h1':(i:Int)<4:=by omega
   simp -implicitDefEqProofs only[go_sem,h1']
   refine sQ ?_
   refine⟨i+1,?_,sL,ar [some 0,some 2] ?_ ?_ rfl rfl⟩
   rotate_left
   ·exact sC
   ·refine sA ?_
    all_goals((rw[List.replicate_succ',←tf,wm,tD];rfl))
   exact h1
  ·have h1':¬ (i:Int)<4:=by omega
   obtain rfl:i=4:=by omega
   have e0:aS 4 (whole 0)=nU:=rfl
   rw[e0]
   simp -implicitDefEqProofs only[go_sem,Z2]
   clear hi h1 h1' hrl
   refine cM hm (fun(k:Nat) (aH:List Mod.Rat)=> k≤4∧aH.length=4∧wu st 0 nU=wu (st.drop k) k aH) (fun(k:Nat) (aH:List Mod.Rat)=> ⟨dx 47 .any [(0,.acc 0),(4,.acc 1),(6,iv k)],[some (.acc 190 (pH st)),some (.acc 71 (bp aH))]⟩) (fun(k:Nat) (aH:List Mod.Rat)=> 4-k) (0) (nU) ?_ (ar [some 0,some 1] ?_ ?_ rfl rfl) ?_
   rotate_left
   ·exact sC
   ·exact sC
   rotate_left
   ·exact⟨by omega,rfl,rfl⟩
   ·rintro k aH ⟨hk,hv4,hg⟩
    rcases aa (k<4) with h1|h1
    ·have h1':(k:Int)<4:=by omega
     have h2:k<st.length:=by omega
     have h3:k<aH.length:=by omega
     have hu:=hs st[k] (ak h2)
     rw[Pg h2] at hg
     have cb:=Eb n k st[k] aH hu hv4 h1
     have hrv:=qF (l:=aH) (i:=k) (x:=(kI (iy k aH st[k] none none).1.1 (iy k aH st[k] none none).1.2).1) h3
     rw[wZ h3] at hrv
     have cc:=Eg (iy k aH st[k] none none).1.1 (iy k aH st[k] none none).1.2
     generalize iy k aH st[k] none none=e at hg cb cc hrv
     obtain⟨⟨lo,hi⟩,ok⟩:=e
     simp only at hg cb cc hrv
     simp -implicitDefEqProofs only[go_sem,h1',h2]
     refine dH [] [1] cb rfl ?_ ?_ ?_
     ·exact sV
     all_goals simp -implicitDefEqProofs only[go_sem]
     cases ok
     ·simp only[ax,if_false] at hg
      refine sA ?_
      refine bZ [some 0] ?_ rfl rfl
      refine sA ?_
      rw[hg]
      ((repeat' apply au)<;>rfl)
     ·simp only[if_true] at hg
      refine sA ?_
      refine aC [] cc ?_
      generalize kI lo hi=c at hg cc hrv
      obtain⟨c,ok⟩:=c
      simp only at hg hrv
      cases ok
      ·simp only[ax,if_false] at hg
       refine uC ?_
       refine bZ [some 0] ?_ rfl rfl
       refine sA ?_
       rw[hg]
       simp only[eU] at hrv
       ((repeat' apply au)<;>first|exact hrv.symm|rfl)
      ·simp only[if_true] at hg
       refine uC ?_
       refine sQ ?_
       refine⟨k+1,aH.set k c,?_,sL,ar [some 0,some 1] ?_ ?_ rfl rfl⟩
       rotate_left
       ·exact sC
       ·refine sA ?_
        all_goals((simp only[eU] at hrv;exact hrv))
       exact⟨by omega,by simpa using hv4,hg⟩
    ·have h1':¬ (k:Int)<4:=by omega
     rw[ai (by omega),wu] at hg
     simp -implicitDefEqProofs only[go_sem,h1']
     refine bZ [some 0] ?_ rfl rfl
     refine sA ?_
     rw[hg]
     ((repeat' apply au)<;>rfl)
theorem LF(n:Nat)(rows:List cH)(hr:xZ n rows):C E.P 136 [lv (dX rows)] [] (bz (lv (bF (PZ rows))) []):=by
 have dy:=hr.1
 refine gS (nt:=22) (rs:=[.tmp 2]) hm Tryz.func136 fun hl he cq=>?_
 refine aL hm (fun(i:Nat)=> i≤rows.length∧(rows.find? fun r=>kv r.jC)=(rows.drop i).find? fun r=>kv r.jC) (fun(i:Nat)=> ⟨dx 22 .any [(0,lv (dX rows)),(3,iv i)],[]⟩) (fun(i:Nat)=> rows.length-i) (0) ?_ (ar [] ?_ ?_ rfl rfl) ?_
 rotate_left
 ·exact sC
 ·exact sC
 rotate_left
 ·simp
 ·rintro i ⟨hi,hg⟩
  rcases aa (i<rows.length) with h1|h1
  ·rw[ae h1,List.find?_cons] at hg
   refine uA ?_
   refine aC [] (zn rows[i].jC) ?_
   cases h2:kv rows[i].jC
   ·rw[h2] at hg
    refine sA ?_
    refine sQ ?_
    refine⟨i+1,?_,sL,ar [] ?_ ?_ rfl rfl⟩
    rotate_left
    ·exact sC
    ·exact sC
    exact⟨by omega,hg⟩
   ·rw[h2] at hg
    simp only at hg
    refine uA ?_
    refine an ?_
    refine sA ?_
    rw[PZ,hg]
  ·rw[ai (by omega),List.find?_nil] at hg
   refine uA ?_
   refine an ?_
   refine sA ?_
   rw[PZ,hg]
   rfl
def abH(ls:List iV)(z:Int)(rows:List cH)(s:List (List cH)):Prop:=
 s.length=4∧(∀x∈s,xZ ls.length x)∧xZ ls.length rows∧(ls=[]→rows=[]) ∧
 ((z=3∧rows=bI ls)∨(z=2∧gY (bI ls) 3=some rows∧s[3]?=some (bI ls)) ∨
 (z=1∧∃r2,gY (bI ls) 3=some r2∧gY r2 2=some rows∧s[3]?=some (bI ls)∧s[2]?=some r2) ∨
 (z=0∧∃r2 r1,gY (bI ls) 3=some r2∧gY r2 2=some r1∧gY r1 1=some rows∧s[3]?=some (bI ls)∧s[2]?=some r2∧s[1]?=some r1) ∨
 (z = -1∧∃r2 r1 r0,gY (bI ls) 3=some r2∧gY r2 2=some r1∧gY r1 1=some r0∧gY r0 0=some rows∧s=[r0,r1,r2,bI ls]))
theorem V7(n:Nat):xZ n []:=⟨by simp,fun r hr=>by simp at hr⟩
theorem BG{ls:List iV}{rows r:List cH}{v:Nat}(h:ls=[]→rows=[])(hr:gY rows v=some r):ls=[]→r=[]:=fun e=>by
 rw[h e,Tu] at hr
 simpa using hr.symm
theorem Fh{n:Nat}{s:List (List cH)}{i:Nat}{rows:List cH}(h:∀x∈s,xZ n x)(hr:xZ n rows):∀x∈s.set i rows,xZ n x:=fun x hx=>by
 rcases List.mem_or_eq_of_mem_set hx with h1|h1
 ·exact h x h1
 ·rw[h1];exact hr
theorem four{s:List (List cH)}{a b c d:List cH}(h:s.length=4)(h3:s[3]?=some d)(h2:s[2]?=some c)(h1:s[1]?=some b):s.set 0 a=[a,b,c,d]:=by
 match s,h with
 | [p,q,r,t],_=>simp at h1 h2 h3;simp[h1,h2,h3]
theorem H4(ls:List iV):C E.P 65 [lv (di ls)] [] (bz (.gV [lv (bp (bL ls).aH),lv (bF (bL ls).times),iv (bL ls).code]) []):=by
 refine gS (nt:=77) (rs:=[.tmp 2,.tmp 3,.tmp 4]) hm Tryz.func65 fun hl he cq=>?_
 refine aC [] (wR ls) ?_
 cases hsys:fP ls
 ·have e:bL ls=⟨[],[],3⟩:=by simp[bL,hsys]
  refine sA ?_
  refine an ?_
  refine sA ?_
  rw[e]
  ((repeat' apply au)<;>rfl)
 have h20:ls.length≤20:=by simp only[fP,al,decide_eq_true_eq] at hsys;exact hsys.1
 have u3:=DI hsys
 have hn3:ls=[]→bI ls=[]:=fun e=>by rw[e];rfl
 simp -implicitDefEqProofs only[go_sem,Z3,Z4]
 refine sQ ?_
 refine aC [] (Io ls (by omega)) ?_
 refine kS hm (fun(z:Int) (rows:List cH) (s:List (List cH))=> abH ls z rows s) (fun(z:Int) (rows:List cH) (s:List (List cH))=> ⟨dx 77 .any [(0,lv (di ls)),(5,.acc 0),(6,.acc 1),(7,lv (dX rows)),(8,iv z)],[some (.acc 71 (bp [])),some (.acc 190 (pH s))]⟩) (fun(z:Int) (rows:List cH) (s:List (List cH))=> (z+1).toNat) (3) (bI ls) ([[],[],[],[]]) ?_ (ar [some 0,some 1] ?_ ?_ rfl rfl) ?_
 rotate_left
 ·exact sC
 ·refine sA ?_
  all_goals(rfl)
 rotate_left
 ·exact⟨rfl,fun x hx=>by simp at hx;rw[hx];exact V7 _,u3,hn3,.inl ⟨rfl,rfl⟩⟩
 ·rintro z rows s ⟨h4,hs,hu,hnil,hz⟩
  rcases hz with⟨rfl,rfl⟩|⟨rfl,g3,t3⟩|⟨rfl,r2,g3,g2,t3,t2⟩|⟨rfl,r2,r1,g3,g2,g1,t3,t2,t1⟩|⟨rfl,r2,r1,r0,g3,g2,g1,g0,rfl⟩
  ·generalize hR:bI ls=rows at *
   have cl:=pZ ls.length 3 rows hu (by omega) (by omega)
   have hput:=vj (l:=s) (i:=3) (x:=rows) (by omega)
   have hsl:3<s.length:=by omega
   rw[pw hsl] at hput
   simp -implicitDefEqProofs only[go_sem,Z3,Z4,hsl]
   refine aC [] cl ?_
   cases hl:(qD rows 3).2
   ·have hn:=vQ hl
    have e:bL ls=⟨[],[],2⟩:=by simp[bL, *]
    refine sA ?_
    refine an ?_
    refine sA ?_
    rw[e]
    ((repeat' apply au)<;>rfl)
   ·have hn:=wj hl
    have hn2:=BG hnil hn
    have hu2:=j9 hu hn
    generalize (qD rows 3).1=r at hn hn2 hu2⊢
    refine sA ?_
    refine sQ ?_
    refine⟨(2:Int),r,s.set 3 rows,?_,sL,ar [some 0,some 1] ?_ ?_ rfl rfl⟩
    rotate_left
    ·refine sA ?_
     all_goals(simp[*];done)
    ·refine sA ?_
     all_goals(exact hput)
    exact⟨by simpa using h4,Fh hs hu,hu2,hn2,.inr (.inl ⟨rfl,by rw[hR];exact hn,by rw[hR];simp[h4]⟩)⟩
  ·have cl:=pZ ls.length 2 rows hu (by omega) (by omega)
   have hput:=vj (l:=s) (i:=2) (x:=rows) (by omega)
   have hsl:2<s.length:=by omega
   rw[pw hsl] at hput
   simp -implicitDefEqProofs only[go_sem,Z3,Z4,hsl]
   refine aC [] cl ?_
   cases hl:(qD rows 2).2
   ·have hn:=vQ hl
    have e:bL ls=⟨[],[],2⟩:=by simp[bL, *]
    refine sA ?_
    refine an ?_
    refine sA ?_
    rw[e]
    ((repeat' apply au)<;>rfl)
   ·have hn:=wj hl
    have hn2:=BG hnil hn
    have hu2:=j9 hu hn
    generalize (qD rows 2).1=r at hn hn2 hu2⊢
    refine sA ?_
    refine sQ ?_
    refine⟨(1:Int),r,s.set 2 rows,?_,sL,ar [some 0,some 1] ?_ ?_ rfl rfl⟩
    rotate_left
    ·refine sA ?_
     all_goals(simp[*];done)
    ·refine sA ?_
     all_goals(exact hput)
    exact⟨by simpa using h4,Fh hs hu,hu2,hn2,.inr (.inr (.inl ⟨rfl,rows,g3,hn,by simpa using t3,by simp[h4]⟩))⟩
  ·have cl:=pZ ls.length 1 rows hu (by omega) (by omega)
   have hput:=vj (l:=s) (i:=1) (x:=rows) (by omega)
   have hsl:1<s.length:=by omega
   rw[pw hsl] at hput
   simp -implicitDefEqProofs only[go_sem,Z3,Z4,hsl]
   refine aC [] cl ?_
   cases hl:(qD rows 1).2
   ·have hn:=vQ hl
    have e:bL ls=⟨[],[],2⟩:=by simp[bL, *]
    refine sA ?_
    refine an ?_
    refine sA ?_
    rw[e]
    ((repeat' apply au)<;>rfl)
   ·have hn:=wj hl
    have hn2:=BG hnil hn
    have hu2:=j9 hu hn
    generalize (qD rows 1).1=r at hn hn2 hu2⊢
    refine sA ?_
    refine sQ ?_
    refine⟨(0:Int),r,s.set 1 rows,?_,sL,ar [some 0,some 1] ?_ ?_ rfl rfl⟩
    rotate_left
    ·refine sA ?_
     all_goals(simp[*];done)
    ·refine sA ?_
     all_goals(exact hput)
    exact⟨by simpa using h4,Fh hs hu,hu2,hn2,.inr (.inr (.inr (.inl ⟨rfl,r2,rows,g3,g2,hn,by simpa using t3,by simpa using t2,by simp[h4]⟩)))⟩
  ·have cl:=pZ ls.length 0 rows hu (by omega) (by omega)
   have hput:=vj (l:=s) (i:=0) (x:=rows) (by omega)
   have hsl:0<s.length:=by omega
   rw[pw hsl] at hput
   simp -implicitDefEqProofs only[go_sem,hsl]
   refine aC [] cl ?_
   cases hl:(qD rows 0).2
   ·have hn:=vQ hl
    have e:bL ls=⟨[],[],2⟩:=by simp[bL, *]
    refine sA ?_
    refine an ?_
    refine sA ?_
    rw[e]
    ((repeat' apply au)<;>rfl)
   ·have hn:=wj hl
    have hn2:=BG hnil hn
    have hu2:=j9 hu hn
    generalize (qD rows 0).1=r at hn hn2 hu2⊢
    refine sA ?_
    refine sQ ?_
    refine⟨(-1:Int),r,s.set 0 rows,?_,sL,ar [some 0,some 1] ?_ ?_ rfl rfl⟩
    rotate_left
    ·refine sA ?_
     all_goals(simp[*];done)
    ·refine sA ?_
     all_goals(exact hput)
    exact⟨by simpa using h4,Fh hs hu,hu2,hn2,.inr (.inr (.inr (.inr ⟨rfl,r2,r1,rows,g3,g2,g1,hn,four h4 t3 t2 t1⟩)))⟩
  ·have hF:bL ls=ik ls r0 r1 r2 (bI ls) rows:=by simp[bL,hsys,g3,g2,g1,g0]
   clear g3 g2 g1 g0
   have hback:=Nr (st:=[r0,r1,r2,bI ls]) (v:=0) (aH:=nU)
   simp -implicitDefEqProofs only[go_sem,Z3]
   refine aC [] (LF ls.length rows hu) ?_
   cases mT:rows.find? fun r=>kv r.jC with
   | some r=>
     have hb:PZ rows=r.fQ:=by rw[PZ,mT]
     have hm:=List.mem_of_find?_eq_some mT
     have hul:=(hu.2 r hm).len
     have hpos:0<ls.length:=by
      rcases Nat.eq_zero_or_pos ls.length with h0|h0
      ·rw[hnil (List.length_eq_zero_iff.1 h0)] at hm
       simp at hm
      ·exact h0
     have hpos':(0:Int)<(r.fQ.length:Int):=by omega
     simp -implicitDefEqProofs only[go_sem,hb,hpos']
     refine aC [] (KJ ls r.fQ) ?_
     cases hf:sa ls r.fQ
     ·have e:bL ls=⟨[],[],2⟩:=by rw[hF,ik,mT];simp[hf]
      refine sA ?_
      refine an ?_
      refine sA ?_
      rw[e]
      ((repeat' apply au)<;>rfl)
     ·have e:bL ls=⟨[],r.fQ,1⟩:=by rw[hF,ik,mT];simp[hf]
      simp -implicitDefEqProofs only[go_sem,hpos']
      refine sQ ?_
      refine an ?_
      refine sA ?_
      rw[e]
      ((repeat' apply au)<;>rfl)
   | none=>
     have hb:PZ rows=[]:=by rw[PZ,mT]
     simp -implicitDefEqProofs only[go_sem,Z2,hb]
     refine oC [] [1] (Iv ls.length [r0,r1,r2,bI ls] hs rfl) ?_
     generalize wu [r0,r1,r2,bI ls] 0 nU=b at hback
     obtain⟨aH,ok⟩:=b
     cases ok
     ·have e:bL ls=⟨[],[],2⟩:=by rw[hF,ik,mT];simp[hback,HX]
      refine sA ?_
      refine an ?_
      refine sA ?_
      rw[e]
      ((repeat' apply au)<;>rfl)
     ·refine sA ?_
      refine aC [] (IZ ls aH) ?_
      cases hf:lg ls aH
      ·have e:bL ls=⟨[],[],2⟩:=by rw[hF,ik,mT];simp[hback,HX,hf]
       refine sA ?_
       refine an ?_
       refine sA ?_
       rw[e]
       ((repeat' apply au)<;>rfl)
      ·have e:bL ls=⟨aH,[],0⟩:=by rw[hF,ik,mT];simp[hback,HX,hf]
       refine sA ?_
       refine an ?_
       refine sA ?_
       rw[e]
       ((repeat' apply au)<;>rfl)
end Go.Proofs.YtabembjmeobhoaaGreat
