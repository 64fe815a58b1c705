/-
  The reference: the walks of values, sums, and systems that hold. A step towards the laws.
-/
import Derived.Test.YtabembjmeobhoaaGreatKBe
import Derived.Test.YtabembjmeobhoaaGreatKBQ
import Derived.Test.YtabembjmeobhoaaGreatKBzf
set_option linter.unusedVariables false
set_option linter.unusedSimpArgs false
open And renaming intro→ar
open Bool renaming and_eq_true→ai,false_eq_true→ax
open Classical renaming em→aa
open List renaming drop_eq_getElem_cons→aj,getElem_mem→ak,drop_of_length_le→al,take_of_length_le→ao,replicate→aW,range→bt,nil_append→bB,all_cons→b8,all_nil→dX
open Nat renaming zero_le→bh
open Option renaming isSome_some→aJ,getD_some→aK,isSome_none→aU,getD_none→aZ
namespace Go.Proofs.YtabembjmeobhoaaGreat
open Go.Eng Go.Mod
open Int renaming reduceEq→Z1,reduceLT→Z2,reduceLE→Z3,reduceToNat→Z4
set_option maxRecDepth 100000
set_option maxHeartbeats 800000
theorem Ka(n d:Int):C E.P 268 [iv n,iv d] [] (bM (.jd [av (eO (lg n d).1),bv (lg n d).2]) []):=by
 refine gS (nt:=33) (rs:=[.cell 4 71,.tmp 5]) hm Tryz.func268 fun hl he cI=>?_
 rcases aa (d=0) with h0|h0
 ·have k0:=eq_true h0
  have e:lg n d=(jF,false):=by rw[h0];exact N7
  simp -implicitDefEqProofs only[go_sem,k0]
  refine an ?_
  refine sA ?_
  all_goals(simp[e];done)
 simp -implicitDefEqProofs only[go_sem,h0]
 refine aC [] (rk n) ?_
 rcases aa (1000000000<ri n) with h1|h1
 ·have e:=Fu (d:=d) (.inl h1)
  simp -implicitDefEqProofs only[go_sem,h1]
  refine an ?_
  refine sA ?_
  all_goals(simp[e];done)
 simp -implicitDefEqProofs only[go_sem,h1]
 refine aC [] (rk d) ?_
 rcases aa (1000000000<ri d) with h2|h2
 ·have e:=Fu (n:=n) (.inr h2)
  simp -implicitDefEqProofs only[go_sem,h2]
  refine an ?_
  refine sA ?_
  all_goals(simp[e];done)
 have e:=Vg (n:=n) (d:=d) (by omega) (by omega)
 have b1:=sM.1 (show ri n≤1000000000 by omega)
 have b2:=sM.1 (show ri d≤1000000000 by omega)
 rcases aa (d<0) with h3|h3
 ·have e2:=My (n:=n) h0 h3
  simp -implicitDefEqProofs only[go_sem,h2,h3]
  refine sQ ?_
  refine aC [] (om (-n) (-d) (by omega) (by omega)) ?_
  refine an ?_
  refine sA ?_
  all_goals(simp[e,e2];done)
 ·simp -implicitDefEqProofs only[go_sem,h2,h3]
  refine aC [] (om n d (by omega) (by omega)) ?_
  refine an ?_
  refine sA ?_
  all_goals(simp[e];done)
theorem Hr(a b:Mod.Rat):C E.P 252 [av (eO a),av (eO b)] [] (bM (.jd [av (eO (qP a b).1),bv (qP a b).2]) []):=by
 refine gS (nt:=22) (rs:=[.cell 4 71,.tmp 5]) hm Tryz.func252 fun hl he cI=>?_
 refine aC [] (lR a b) ?_
 cases g1:(c8 a b).2
 ·refine sA ?_
  refine an ?_
  refine sA ?_
  all_goals(simp[qP,g1];done)
 ·refine sA ?_
  refine aC [] (nv (c8 a b).1 ⟨1,2⟩) ?_
  refine an ?_
  refine sA ?_
  all_goals(simp[qP,g1];done)
theorem yP(aE:List Mod.Rat):C E.P 210 [lv (br aE)] [] (bM (bv (qi aE)) []):=by
 refine gS (nt:=19) (rs:=[.tmp 2]) hm Tryz.func210 fun hl he cI=>?_
 refine aO hm (fun(i:Nat)=> i≤aE.length∧aE.all bV=(aE.drop i).all bV) (fun(i:Nat)=> ⟨dB 19 .any [(0,lv (br aE)),(3,iv i)],[]⟩) (fun(i:Nat)=> aE.length-i) (0) ?_ (aw [] ?_ ?_ rfl rfl) ?_
 rotate_left
 ·exact sC
 ·exact sC
 rotate_left
 ·simp
 ·rintro i ⟨hi,hg⟩
  rcases aa (i<aE.length) with h1|h1
  ·rw[aj h1,b8] at hg
   simp -implicitDefEqProofs only[go_sem,h1]
   refine aC [] (gh aE[i]) ?_
   cases h2:bV aE[i]
   ·rw[h2,Bool.false_and] at hg
    refine sA ?_
    refine an ?_
    refine sA ?_
    all_goals(simp[qi,hg];done)
   ·rw[h2,Bool.true_and] at hg
    refine sA ?_
    refine sQ ?_
    refine⟨i+1,?_,sL,aw [] ?_ ?_ rfl rfl⟩
    rotate_left
    ·exact sC
    ·exact sC
    exact⟨by omega,hg⟩
  ·rw[al (by omega),dX] at hg
   rcases aa ((aE.length:Int)=4) with h3|h3
   ·have h3':aE.length=4:=by omega
    have k3:=eq_true h3
    simp -implicitDefEqProofs only[go_sem,h1,k3]
    refine an ?_
    refine sA ?_
    all_goals(simp[qi,hg,h3'];done)
   ·have h3':¬aE.length=4:=by omega
    simp -implicitDefEqProofs only[go_sem,h1,h3]
    refine an ?_
    refine sA ?_
    all_goals(simp[qi,h3'];done)
theorem N5{aE:List Mod.Rat}(h:qi aE=true):aE.length=4:=by
 simp only[qi,ai,decide_eq_true_eq] at h
 exact h.1
theorem KA(l:ib)(aE:List Mod.Rat)(h4:l.aG.length=aE.length):C E.P 254 [av (eF l),lv (br aE)] [] (bM (.jd [av (eO (sy l.aG aE (whole 0)).1),bv (sy l.aG aE (whole 0)).2]) []):=by
 refine gS (nt:=45) (rs:=[.cell 4 71,.tmp 5]) hm Tryz.func254 fun hl he cI=>?_
 refine dm hm (fun(i:Nat) (sum:Mod.Rat)=> i≤l.aG.length∧sy l.aG aE (whole 0)=sy (l.aG.drop i) (aE.drop i) sum) (fun(i:Nat) (sum:Mod.Rat)=> ⟨dB 45 .any [(1,lv (br aE)),(2,.ptr 0 0),(4,.ptr 1 0),(6,.ptr 2 0),(7,iv i)],[some (.box (cF (eF l))),some (.box (cF (eO jF))),some (.box (cF (eO sum)))]⟩) (fun(i:Nat) (sum:Mod.Rat)=> l.aG.length-i) (0) (whole 0) ?_ (aw [some 0,some 1,some 2] ?_ ?_ rfl rfl) ?_
 rotate_left
 ·exact sC
 ·exact sC
 rotate_left
 ·simp
 ·rintro i sum ⟨hi,hg⟩
  rcases aa (i<l.aG.length) with h1|h1
  ·have h2:i<aE.length:=by omega
   rw[OA h1 h2] at hg
   have cm:=nv (whole l.aG[i]) aE[i]
   simp -implicitDefEqProofs only[go_sem,h1,h2]
   refine aC [] cm ?_
   refine iK ?_
   cases h3:(cq (whole l.aG[i]) aE[i]).2
   ·rw[h3] at hg
    simp only[ax,if_false] at hg
    refine sA ?_
    refine an ?_
    refine sA ?_
    rw[hg]
    ((repeat' apply ar)<;>rfl)
   ·rw[h3] at hg
    simp only[if_true] at hg
    refine sA ?_
    refine aC [] (lR sum (cq (whole l.aG[i]) aE[i]).1) ?_
    cases h5:(c8 sum (cq (whole l.aG[i]) aE[i]).1).2
    ·rw[h5] at hg
     simp only[ax,if_false] at hg
     refine sA ?_
     refine an ?_
     refine sA ?_
     rw[hg,tj h5]
     ((repeat' apply ar)<;>rfl)
    ·rw[h5] at hg
     simp only[if_true] at hg
     refine sA ?_
     refine sQ ?_
     refine⟨i+1,(c8 sum (cq (whole l.aG[i]) aE[i]).1).1,?_,sL,aw [some 0,some 1,some 2] ?_ ?_ rfl rfl⟩
     rotate_left
     ·exact sC
     ·exact sC
     exact⟨by omega,hg⟩
  ·rw[al (by omega),Sd] at hg
   simp -implicitDefEqProofs only[go_sem,h1]
   refine an ?_
   refine sA ?_
   rw[hg]
   ((repeat' apply ar)<;>rfl)
theorem KZ(l:ib)(aE:List Mod.Rat):C E.P 209 [av (eF l),lv (br aE)] [] (bM (.jd [bv ((mh l aE).getD false),bv (mh l aE).isSome]) []):=by
 refine gS (nt:=41) (rs:=[.tmp 4,.tmp 5]) hm Tryz.func209 fun hl he cI=>?_
 refine aC [] (gK l) ?_
 cases g1:dF l
 ·refine sA ?_
  refine an ?_
  refine sA ?_
  all_goals(simp[mh,g1];done)
 ·refine sA ?_
  refine aC [] (yP aE) ?_
  cases g2:qi aE
  ·refine sA ?_
   refine an ?_
   refine sA ?_
   all_goals(simp[mh,g1,g2];done)
  ·obtain⟨hn1,hc1,hb1⟩:=gq.1 g1
   have hv:=N5 g2
   have e:mh l aE=(zx (sy l.aG aE (whole 0))).map fun x=>below x l.bound l.strict:=by simp[mh,g1,g2,Gm]
   have eP:=Im (cs:=l.aG) (xs:=aE) (sum:=whole 0) (r:=(sy l.aG aE (whole 0)).1) (by decide)
   rw[Gm] at eP
   refine sA ?_
   refine aC [] (KA l aE (by omega)) ?_
   obtain⟨⟨x,ok⟩,hx⟩:∃r,sy l.aG aE (whole 0)=r:=⟨_,rfl⟩
   rw[hx] at e eP⊢
   simp only at eP
   cases ok
   ·refine sA ?_
    refine an ?_
    refine sA ?_
    all_goals(simp[e,zx];done)
   ·have hx2:=eP rfl
    have e2:=NS hx2 (n:=l.bound) (by omega) (by omega) l.strict
    have e3:mh l aE=some (below x l.bound l.strict):=e
    have cl:=mK x (whole l.bound)
    refine sA ?_
    refine aC [] cl ?_
    cases h5:cS x (whole l.bound)
    ·rw[h5] at e2
     cases h6:l.strict
     ·rw[h6] at e2
      refine sA ?_
      refine Lf (by kernel_rfl) (a:=x.N) (b:=x.D) (c:=l.bound) (e:=1) (by simp -implicitDefEqProofs only[go_sem]) (by simp -implicitDefEqProofs only[go_sem]) ?_
      have e5:oi x.N x.D l.bound 1=decide (x=whole l.bound):=pz x (whole l.bound)
      rw[e5]
      refine sA ?_
      refine an ?_
      refine sA ?_
      rw[e3,h6,e2]
      simp
     ·rw[h6] at e2
      refine sA ?_
      refine an ?_
      refine sA ?_
      rw[e3,h6,e2]
      ((repeat' apply ar)<;>rfl)
    ·rw[h5] at e2
     refine sA ?_
     refine an ?_
     refine sA ?_
     rw[e3,e2]
     ((repeat' apply ar)<;>rfl)
theorem HA(ls:List ib)(aE:List Mod.Rat):C E.P 139 [lv (db ls),lv (br aE)] [] (bM (bv (kV ls aE)) []):=by
 have hno:∀l∈ls,mh l aE≠some true→kV ls aE=false:=fun l hl h=>by
  have:(ls.all fun l=>decide (mh l aE=some true))=false:=by
   rw[Bool.eq_false_iff]
   intro hh
   have:=List.all_eq_true.1 hh l hl
   exact h (by simpa using this)
  simp[kV,this]
 refine gS (nt:=35) (rs:=[.tmp 4]) hm Tryz.func139 fun hl he cI=>?_
 refine aO hm (fun(i:Nat)=> i≤ls.length∧(ls.all fun l=>decide (mh l aE=some true))=(ls.drop i).all fun l=>decide (mh l aE=some true)) (fun(i:Nat)=> ⟨dB 35 .any [(0,lv (db ls)),(1,lv (br aE)),(5,iv i)],[]⟩) (fun(i:Nat)=> ls.length-i) (0) ?_ (aw [] ?_ ?_ rfl rfl) ?_
 rotate_left
 ·exact sC
 ·exact sC
 rotate_left
 ·simp
 ·rintro i ⟨hi,hg⟩
  rcases aa (i<ls.length) with h1|h1
  ·rw[aj h1,b8] at hg
   have hn:=hno ls[i] (ak h1)
   simp -implicitDefEqProofs only[go_sem,h1]
   refine aC [] (KZ ls[i] aE) ?_
   cases h2:mh ls[i] aE with
   | none=>
     have e:=hn (by rw[h2];simp)
     simp -implicitDefEqProofs only[go_sem,aU,aZ]
     refine an ?_
     refine sA ?_
     all_goals(simp[e];done)
   | some b=>
     rw[h2] at hg hn
     cases b
     ·have e:=hn (by simp)
      simp -implicitDefEqProofs only[go_sem,aJ,aK]
      refine an ?_
      refine sA ?_
      all_goals(simp[e];done)
     ·simp -implicitDefEqProofs only[go_sem,aJ,aK]
      refine sQ ?_
      refine⟨i+1,?_,sL,aw [] ?_ ?_ rfl rfl⟩
      rotate_left
      ·exact sC
      ·exact sC
      refine⟨by omega,?_⟩
      rw[hg];simp
  ·rw[al (by omega),dX] at hg
   simp -implicitDefEqProofs only[go_sem,h1]
   refine aC [] (wT ls) ?_
   cases g1:fG ls
   ·refine sA ?_
    refine an ?_
    refine sA ?_
    all_goals(simp[kV,g1];done)
   ·refine sA ?_
    refine aC [] (yP aE) ?_
    refine an ?_
    refine sA ?_
    all_goals(simp[kV,g1,hg];done)
def cUS(r:cz):List T:=[.leaf (.dP (bG r.jA.aG)),.leaf (.val (.int .i64 r.jA.bound)),.leaf (.val (.bool r.jA.strict)),.own 3 (zZ r.fI)]
theorem HZ(ls:List ib)(hl:ls.length≤100):C E.P 134 [lv (db ls)] [] (bM (lv (dU (bH ls))) []):=by
 refine gS (nt:=29) (rs:=[.tmp 2]) hm Tryz.func134 fun hl he cI=>?_
 refine aO hm (fun(i:Nat)=> i≤ls.length) (fun(i:Nat)=> ⟨dB 29 .any [(0,lv (db ls)),(3,.acc 0),(4,iv i)],[some (.fg 252 (uT ((bt i).map fun i=>⟨ls.getD i mC,sX ls.length i⟩)))]⟩) (fun(i:Nat)=> ls.length-i) (0) ?_ (aw [some 0] ?_ ?_ rfl rfl) ?_
 rotate_left
 ·exact sC
 ·refine sA ?_
  all_goals(rfl)
 rotate_left
 ·omega
 ·rintro i hi
  have hp:(uT ((bt i).map fun i=>(⟨ls.getD i mC,sX ls.length i⟩:cz))).length=i:=by rw[P5];simp
  rcases aa (i<ls.length) with h1|h1
  ·have hz:aW ls.length ([D.val (Value.int .i64 0)]:List D)=bG (aW ls.length 0):=by simp[bG]
   simp -implicitDefEqProofs only[go_sem,h1]
   refine sQ ?_
   simp -implicitDefEqProofs only[go_sem,hz]
   refine⟨i+1,?_,?_,Be 3 i _ rfl (by rw[List.length_append,hp];simp) (wC hp) ?_⟩
   rotate_left
   ·show _ < _
    omega
   ·refine sA ?_
    refine aw [some 3] ?_ ?_ rfl rfl
    ·exact sC
    ·refine sA ?_
     all_goals(rw[wo hp,GO h1];exact⟨Ep h1,(congrArg (fun z=>(cR z).isSome) (Ep h1)).trans (X7 _)⟩)
   exact h1
  ·simp -implicitDefEqProofs only[go_sem,h1]
   refine an ?_
   refine sA ?_
   obtain rfl:i=ls.length:=by omega
   exact⟨_,rfl,rfl⟩
theorem Uh{n:Nat}{a b:cz}{v:Nat}(ha:Ha n a)(hb:Ha n b)(h1:0<bR a v)(h2:bR b v<0):dL a.jA (o3 a b v) b.jA (o0 a b v)=jm a.jA (o3 a b v) b.jA (o0 a b v):=by
 obtain⟨_,hp,hq⟩:=D3 ha hb h1 h2
 exact pL ha.jA hb.jA (dx.2 ⟨by omega,hq.2⟩) (dx.2 ⟨by omega,hp.2⟩)
theorem Hs(n v:Nat)(a b:cz)(ha:Ha n a)(hb:Ha n b)(hn:n≤100)(hv:v<4)(h1:0<bR a v)(h2:bR b v<0):C E.P 204 [av (cU a),av (cU b),iv v] [] (bM (.jd [av (cU (AF a b v)),bv (tC a b v)]) []):=by
 have ca:=ha.RU v
 have cb:=hb.RU v
 obtain⟨⟨hg1,hg2⟩,⟨hp1,hp2⟩,⟨hq1,hq2⟩⟩:=D3 ha hb h1 h2
 have la:v<a.jA.aG.length:=by rw[(gq.1 ha.jA).1];exact hv
 have lb:v<b.jA.aG.length:=by rw[(gq.1 hb.jA).1];exact hv
 have ea:a.jA.aG[v]=bR a v:=(getD_at la).symm
 have eb:b.jA.aG[v]=bR b v:=(getD_at lb).symm
 have hal:=ha.len
 have hbl:=hb.len
 have eg:(Int.gcd (bR a v) (-(bR b v)):Int)=ug a b v:=rfl
 have ep:(bR a v).tdiv (ug a b v)=o0 a b v:=rfl
 have eq:(-(bR b v)).tdiv (ug a b v)=o3 a b v:=rfl
 have els:=Uh ha hb h1 h2
 have e1:AF a b v=⟨(dL a.jA (o3 a b v) b.jA (o0 a b v)).1,ql a b v⟩:=rfl
 have e2:tC a b v=((dL a.jA (o3 a b v) b.jA (o0 a b v)).2&&(ql a b v).all fun n=>decide (n≤1000000)):=rfl
 have e3:ql a b v=comb (o3 a b v) (o0 a b v) a.fI b.fI:=rfl
 rw[els] at e1 e2
 clear els
 generalize ug a b v=g at *
 generalize o0 a b v=p at *
 generalize o3 a b v=q at *
 refine gS (nt:=94) (rs:=[.cell 6 252,.tmp 7]) hm Tryz.func204 fun hl he cI=>?_
 simp -implicitDefEqProofs only[go_sem,la,lb,ea,eb]
 refine sQ ?_
 refine bQ [] (qZ (bR a v) (-(bR b v)) (by omega) (by omega)) ?_ ?_<;>simp -implicitDefEqProofs only[go_sem,eg,la,lb,ea,eb]
 refine iK ?_
 refine sQ ?_
 simp -implicitDefEqProofs only[go_sem,ep,eq]
 refine aC [] (Af a.jA q b.jA p ha.jA hb.jA (by omega) (by omega)) ?_
 obtain⟨l,hl⟩:∃l,(jm a.jA q b.jA p).1=l:=⟨_,rfl⟩
 obtain⟨ok,eP⟩:∃l,(jm a.jA q b.jA p).2=l:=⟨_,rfl⟩
 rw[hl] at e1
 rw[eP] at e2
 simp -implicitDefEqProofs only[go_sem,hl,eP]
 refine dm hm (fun(i:Nat) (o:Bool)=> i≤n∧o=(ok&&(comb q p (a.fI.take i) (b.fI.take i)).all fun n=>decide (n≤1000000))) (fun(i:Nat) (o:Bool)=> ⟨dB 94 .any [(3,.ptr 0 0),(4,.ptr 1 0),(6,.ptr 2 0),(9,iv q),(10,iv p),(12,bv o),(13,.ptr 3 0),(14,iv i)],[some (.box (cF (cU a))),some (.box (cF (cU b))),some (.box (cF (cU ⟨mC,[]⟩))),some (.box [lv (bG l.aG),iv l.bound,bv l.strict,.acc 4]),some (.acc 3 (bG (comb q p (a.fI.take i) (b.fI.take i))))]⟩) (fun(i:Nat) (o:Bool)=> n-i) (0) (ok) ?_ (aw [some 0,some 1,some 2,some 4,none] ?_ ?_ rfl rfl) ?_
 rotate_left
 ·exact sC
 ·refine sA ?_
  all_goals(simp[comb, *])
 rotate_left
 ·simp[comb]
 ·rintro i o ⟨hi,ho⟩
  rcases aa (i<n) with h3|h3
  ·have h4:i<a.fI.length:=by omega
   have h5:i<b.fI.length:=by omega
   have b1:=ha.bd a.fI[i] (ak h4)
   have b2:=hb.bd b.fI[i] (ak h5)
   have m1:=dj (m:=q) (b:=a.fI[i]) (by omega) hq2 (by omega)
   have m2:=dj (m:=p) (b:=b.fI[i]) (by omega) hp2 (by omega)
   have dy:(comb q p (a.fI.take i) (b.fI.take i)).length≤100:=by rw[j5 (by simp;omega)];simp;omega
   have ho2:(ok&&(comb q p (a.fI.take (i+1)) (b.fI.take (i+1))).all fun n=>decide (n≤1000000))=(o&&decide (q*a.fI[i]+p*b.fI[i]≤1000000)):=by
    rw[ho,eW h4 h5,List.all_append,←Bool.and_assoc]
    simp
   cases o
   ·simp -implicitDefEqProofs only[go_sem,h3,h5,hal]
    refine sQ ?_
    refine⟨i+1,false,?_,sL,aw [some 0,some 1,some 2,some 3,some 5] ?_ ?_ rfl rfl⟩
    rotate_left
    ·exact sC
    ·refine sA ?_
     all_goals((rw[eW h4 h5,←eC];rfl))
    exact⟨h3,by rw[ho2];rfl⟩
   ·simp -implicitDefEqProofs only[go_sem,h3,h5,hal]
    refine sQ ?_
    refine⟨i+1,(decide (q*a.fI[i]+p*b.fI[i]≤1000000)),?_,sL,aw [some 0,some 1,some 2,some 3,some 5] ?_ ?_ rfl rfl⟩
    rotate_left
    ·exact sC
    ·refine sA ?_
     all_goals((rw[eW h4 h5,←eC];rfl))
    exact⟨h3,by rw[ho2];simp⟩
  ·have ta:a.fI.take i=a.fI:=ao (by omega)
   have tb:b.fI.take i=b.fI:=ao (by omega)
   rw[ta,tb,←e3] at ho⊢
   rw[←e2] at ho
   simp -implicitDefEqProofs only[go_sem,h3,hal]
   refine an ?_
   refine sA ?_
   rw[e1,ho]
   repeat' apply ar
   all_goals rfl
theorem xS{n v:Nat}{r:cz}(h:Ha n r)(hv:v<4):∃h:v<r.jA.aG.length,r.jA.aG[v]=bR r v:=by
 have la:v<r.jA.aG.length:=by rw[(gq.1 h.jA).1];exact hv
 exact⟨la,(getD_at la).symm⟩
theorem pZ(n v:Nat)(rows:List cz)(hr:wK n rows)(hn:n≤100)(hv:v<4):C E.P 135 [lv (dU rows),iv v] [] (bM (.jd [lv (dU (qe rows v).1),bv (qe rows v).2]) []):=by
 obtain⟨dy,lP⟩:=hr
 refine gS (nt:=96) (rs:=[.tmp 4,.tmp 5]) hm Tryz.func135 fun hl he cI=>?_
 refine aO hm (fun(i:Nat)=> i≤rows.length) (fun(i:Nat)=> ⟨dB 96 .any [(0,lv (dU rows)),(1,iv v),(6,.acc 0),(7,iv i)],[some (.acc 252 (dU ((rows.take i).filter fun r=>decide (bR r v=0))))]⟩) (fun(i:Nat)=> rows.length-i) (0) ?_ (aw [some 0] ?_ ?_ rfl rfl) ?_
 rotate_left
 ·exact sC
 ·refine sA ?_
  all_goals(rfl)
 rotate_left
 ·omega
 ·rintro i hi
  have hfl:((rows.take i).filter fun r=>decide (bR r v=0)).length≤200:=by
   have:=List.length_filter_le (fun r:cz=>decide (bR r v=0)) (rows.take i)
   rw[List.length_take] at this
   omega
  rcases aa (i<rows.length) with h1|h1
  ·obtain⟨la,ea⟩:=xS (lP rows[i] (ak h1)) hv
   have hs:=CB (p:=fun r:cz=>decide (bR r v=0)) h1
   rcases aa (bR rows[i] v=0) with h2|h2
   ·have k2:=eq_true h2
    rw[if_pos (by simpa using h2)] at hs
    simp -implicitDefEqProofs only[go_sem,h1,la,ea,k2]
    refine sQ ?_
    refine⟨i+1,?_,sL,aw [some 1] ?_ ?_ rfl rfl⟩
    rotate_left
    ·exact sC
    ·refine sA ?_
     all_goals((rw[hs,←xQ,vp,tW];rfl))
    exact h1
   ·rw[if_neg (by simpa using h2),List.append_nil] at hs
    simp -implicitDefEqProofs only[go_sem,h1,la,ea,h2]
    refine sQ ?_
    refine⟨i+1,?_,sL,aw [some 0] ?_ ?_ rfl rfl⟩
    rotate_left
    ·exact sC
    ·refine sA ?_
     all_goals((rw[hs]))
    exact h1
  ·have et:rows.take i=rows:=ao (by omega)
   rw[et] at hfl⊢
   obtain⟨out0,ho0⟩:∃o,(rows.filter fun r=>decide (bR r v=0))=o:=⟨_,rfl⟩
   have hL:qe rows v=nZ v (o7 rows rows v) out0:=by rw[←ho0];rfl
   rw[ho0] at hfl⊢
   simp -implicitDefEqProofs only[go_sem,h1]
   clear hi h1
   refine dm hm (fun(i:Nat) (out:List cz)=> i≤rows.length∧out.length≤200∧qe rows v=nZ v (o7 rows (rows.drop i) v) out) (fun(i:Nat) (out:List cz)=> ⟨dB 96 .any [(0,lv (dU rows)),(1,iv v),(6,.acc 0),(8,iv i)],[some (.acc 252 (dU out))]⟩) (fun(i:Nat) (out:List cz)=> rows.length-i) (0) (out0) ?_ (aw [some 0] ?_ ?_ rfl rfl) ?_
   rotate_left
   ·exact sC
   ·exact sC
   rotate_left
   ·exact⟨bh _,hfl,hL⟩
   ·rintro i out ⟨hi,ho,hg⟩
    rcases aa (i<rows.length) with h1|h1
    ·have ua:=lP rows[i] (ak h1)
     rw[C4 h1] at hg
     obtain⟨a,ha⟩:∃a,rows[i]=a:=⟨_,rfl⟩
     rw[ha] at ua hg
     obtain⟨la,ea⟩:=xS ua hv
     simp -implicitDefEqProofs only[go_sem,h1]
     refine dm hm (fun(j:Nat) (out:List cz)=> j≤rows.length∧out.length≤200∧qe rows v=nZ v (o6 a v (rows.drop j)++o7 rows (rows.drop (i+1)) v) out) (fun(j:Nat) (out:List cz)=> ⟨dB 96 .any [(0,lv (dU rows)),(1,iv v),(6,.acc 0),(8,iv i),(9,iv j)],[some (.acc 252 (dU out))]⟩) (fun(j:Nat) (out:List cz)=> rows.length-j) (0) (out) ?_ (aw [some 0] ?_ ?_ rfl rfl) ?_
     rotate_left
     ·exact sC
     ·exact sC
     rotate_left
     ·exact⟨bh _,ho,hg⟩
     ·rintro j out ⟨hj,ho,hg⟩
      rcases aa (j<rows.length) with h3|h3
      ·rcases aa (0<bR a v) with h4|h4
       ·have ub:=lP rows[j] (ak h3)
        rw[Dj h3] at hg
        obtain⟨b,hb⟩:∃b,rows[j]=b:=⟨_,rfl⟩
        rw[hb] at ub hg
        obtain⟨lb,eb⟩:=xS ub hv
        rcases aa (bR b v<0) with h5|h5
        ·rw[if_pos ⟨h4,h5⟩] at hg
         simp only[List.cons_append,bB,nZ] at hg
         simp -implicitDefEqProofs only[go_sem,h3,h1,ha,la,ea,h4,hb,lb,eb,h5]
         refine aC [] (Hs n v a b ua ub hn hv h4 h5) ?_
         refine iK ?_
         cases h6:tC a b v
         ·rw[if_neg (by rw[h6];simp)] at hg
          refine sA ?_
          refine an ?_
          refine sA ?_
          rw[hg]
          ((repeat' apply ar)<;>rfl)
         ·rcases aa ((200:Int)≤(out.length:Int)) with h7|h7
          ·rw[if_neg (by omega)] at hg
           simp -implicitDefEqProofs only[go_sem,h7]
           refine an ?_
           refine sA ?_
           rw[hg]
           ((repeat' apply ar)<;>rfl)
          ·rw[if_pos ⟨h6,by omega⟩] at hg
           simp -implicitDefEqProofs only[go_sem,h7]
           refine sQ ?_
           refine⟨j+1,out++[AF a b v],?_,sL,aw [some 2] ?_ ?_ rfl rfl⟩
           rotate_left
           ·exact sC
           ·refine sA ?_
            all_goals((rw[←xQ,vp,tW];rfl))
           exact⟨by omega,by simp;omega,hg⟩
        ·rw[if_neg (by omega),bB] at hg
         simp -implicitDefEqProofs only[go_sem,h3,h1,ha,la,ea,h4,hb,lb,eb,h5]
         refine sQ ?_
         refine⟨j+1,out,?_,sL,aw [some 0] ?_ ?_ rfl rfl⟩
         rotate_left
         ·exact sC
         ·exact sC
         exact⟨by omega,ho,hg⟩
       ·rw[Ml h4,bB] at hg
        simp -implicitDefEqProofs only[go_sem,h3,h1,ha,la,ea,h4]
        refine sQ ?_
        refine⟨i+1,out,?_,sL,aw [some 0] ?_ ?_ rfl rfl⟩
        rotate_left
        ·exact sC
        ·exact sC
        exact⟨by omega,ho,hg⟩
      ·rw[al (by omega:rows.length≤j)] at hg
       simp -implicitDefEqProofs only[go_sem,h3]
       refine sQ ?_
       refine⟨i+1,out,?_,sL,aw [some 0] ?_ ?_ rfl rfl⟩
       rotate_left
       ·exact sC
       ·exact sC
       exact⟨by omega,ho,by simpa[o6] using hg⟩
    ·rw[al (by omega)] at hg
     simp -implicitDefEqProofs only[go_sem,h1]
     refine an ?_
     refine sA ?_
     rw[hg]
     ((repeat' apply ar)<;>rfl)
theorem H7(v:Nat)(l:ib)(aE:List Mod.Rat)(hl:dF l=true)(h4:aE.length=4)(hv:v<4):C E.P 251 [av (eF l),lv (br aE),iv v] [] (bM (.jd [av (eO (gz l v aE).1),bv (gz l v aE).2]) []):=by
 obtain⟨hn1,hc1,hb1⟩:=gq.1 hl
 have lv1:v<l.aG.length:=by omega
 have ev:l.aG.getD v 0=l.aG[v]:=getD_at lv1
 refine gS (nt:=70) (rs:=[.cell 6 71,.tmp 7]) hm Tryz.func251 fun hl he cI=>?_
 refine dm hm (fun(i:Nat) (sum:Mod.Rat)=> i≤aE.length∧m9 v 0 l.aG aE (whole l.bound)=m9 v i (l.aG.drop i) (aE.drop i) sum) (fun(i:Nat) (sum:Mod.Rat)=> ⟨dB 70 .any [(1,lv (br aE)),(2,iv v),(3,.ptr 0 0),(6,.ptr 1 0),(8,.ptr 2 0),(9,iv i)],[some (.box (cF (eF l))),some (.box (cF (eO jF))),some (.box (cF (eO sum)))]⟩) (fun(i:Nat) (sum:Mod.Rat)=> aE.length-i) (0) (whole l.bound) ?_ (aw [some 0,some 1,some 2] ?_ ?_ rfl rfl) ?_
 rotate_left
 ·exact sC
 ·exact sC
 rotate_left
 ·simp
 ·rintro i sum ⟨hi,hg⟩
  rcases aa (i<aE.length) with h1|h1
  ·have h2:i<l.aG.length:=by omega
   rw[Nu h2 h1] at hg
   rcases aa (i=v) with h3|h3
   ·have k3:((i:Int)=(v:Int))=True:=eq_true (by omega)
    rw[if_pos h3] at hg
    simp -implicitDefEqProofs only[go_sem,h1,k3]
    refine sQ ?_
    refine⟨i+1,sum,?_,sL,aw [some 0,some 1,some 2] ?_ ?_ rfl rfl⟩
    rotate_left
    ·exact sC
    ·exact sC
    exact⟨by omega,hg⟩
   ·have k3:¬ (i:Int)=(v:Int):=by omega
    have cb:=hc1 l.aG[i] (ak h2)
    have cm:=nv (whole (-l.aG[i])) aE[i]
    rw[if_neg h3] at hg
    simp -implicitDefEqProofs only[go_sem,h1,h2,k3]
    refine sQ ?_
    refine aC [] cm ?_
    refine iK ?_
    cases h5:(cq (whole (-l.aG[i])) aE[i]).2
    ·rw[h5] at hg
     simp only[ax,if_false] at hg
     have e:gz l v aE=(sum,false):=by simp[gz,hg]
     refine sA ?_
     refine an ?_
     refine sA ?_
     rw[e]
     ((repeat' apply ar)<;>rfl)
    ·rw[h5] at hg
     simp only[if_true] at hg
     refine sA ?_
     refine aC [] (lR sum (cq (whole (-l.aG[i])) aE[i]).1) ?_
     cases h6:(c8 sum (cq (whole (-l.aG[i])) aE[i]).1).2
     ·rw[h6] at hg
      simp only[ax,if_false] at hg
      have e:gz l v aE=(jF,false):=by simp[gz,hg]
      refine sA ?_
      refine an ?_
      refine sA ?_
      rw[e,tj h6]
      ((repeat' apply ar)<;>rfl)
     ·rw[h6] at hg
      simp only[if_true] at hg
      refine sA ?_
      refine sQ ?_
      refine⟨i+1,(c8 sum (cq (whole (-l.aG[i])) aE[i]).1).1,?_,sL,aw [some 0,some 1,some 2] ?_ ?_ rfl rfl⟩
      rotate_left
      ·exact sC
      ·exact sC
      exact⟨by omega,hg⟩
  ·rw[al (by omega),PR] at hg
   simp -implicitDefEqProofs only[go_sem,h1,lv1]
   refine aC [] (Ka 1 l.aG[v]) ?_
   cases h5:(lg 1 l.aG[v]).2
   ·have e:gz l v aE=(sum,false):=by simp[gz,hg,h5,lv1]
    refine sA ?_
    refine an ?_
    refine sA ?_
    rw[e]
    ((repeat' apply ar)<;>rfl)
   ·have e:gz l v aE=cq sum (lg 1 l.aG[v]).1:=by simp[gz,hg,h5,lv1]
    refine sA ?_
    refine aC [] (nv sum (lg 1 l.aG[v]).1) ?_
    refine an ?_
    refine sA ?_
    rw[e]
    ((repeat' apply ar)<;>rfl)
def LA(lo hi:Option Mod.Rat):List D:=[.val (.int .i64 (lo.getD jF).N),.val (.int .i64 (lo.getD jF).D),.val (.int .i64 (hi.getD jF).N),.val (.int .i64 (hi.getD jF).D),.val (.bool lo.isSome),.val (.bool hi.isSome)]
attribute [go_sem] LA
theorem DM(n v:Nat)(rows:List cz)(aE:List Mod.Rat)(hr:wK n rows)(h4:aE.length=4)(hv:v<4):C E.P 207 [lv (dU rows),lv (br aE),iv v] [] (bM (.jd [av (LA (ix v aE rows none none).1.1 (ix v aE rows none none).1.2),bv (ix v aE rows none none).2]) []):=by
 obtain⟨dy,lP⟩:=hr
 refine gS (nt:=82) (rs:=[.cell 6 256,.tmp 7]) hm Tryz.func207 fun hl he cI=>?_
 refine kS hm (fun(i:Nat) (lo:Option Mod.Rat) (hi:Option Mod.Rat)=> i≤rows.length∧ix v aE rows none none=ix v aE (rows.drop i) lo hi) (fun(i:Nat) (lo:Option Mod.Rat) (hi:Option Mod.Rat)=> ⟨dB 82 .any [(0,lv (dU rows)),(1,lv (br aE)),(2,iv v),(6,.ptr 0 0),(8,.ptr 1 0),(9,iv i)],[some (.box (cF (LA none none))),some (.box (cF (LA lo hi)))]⟩) (fun(i:Nat) (lo:Option Mod.Rat) (hi:Option Mod.Rat)=> rows.length-i) (0) (none) (none) ?_ (aw [some 0,some 1] ?_ ?_ rfl rfl) ?_
 rotate_left
 ·exact sC
 ·refine sA ?_
  all_goals(simp[*];done)
 rotate_left
 ·simp
 ·rintro i lo hi ⟨hi1,hg⟩
  rcases aa (i<rows.length) with h1|h1
  ·have ua:=lP rows[i] (ak h1)
   obtain⟨la,ea⟩:=xS ua hv
   rw[O7 h1] at hg
   rcases aa (bR rows[i] v=0) with h2|h2
   ·have k2:=eq_true h2
    rw[if_pos h2] at hg
    simp -implicitDefEqProofs only[go_sem,h1,la,ea,k2]
    refine sQ ?_
    refine⟨i+1,lo,hi,?_,sL,aw [some 0,some 1] ?_ ?_ rfl rfl⟩
    rotate_left
    ·exact sC
    ·exact sC
    exact⟨by omega,hg⟩
   ·rw[if_neg h2] at hg
    simp -implicitDefEqProofs only[go_sem,h1,la,ea,h2]
    refine aC [] (H7 v rows[i].jA aE ua.jA h4 hv) ?_
    generalize hb:gz rows[i].jA v aE=b at hg
    obtain⟨b,ok⟩:=b
    simp only at hg
    cases ok
    ·simp only[ax,if_false] at hg
     refine sA ?_
     refine an ?_
     refine sA ?_
     rw[hg]
     ((repeat' apply ar)<;>rfl)
    ·simp only[if_true] at hg
     rcases aa (0<bR rows[i] v) with h3|h3
     ·rw[if_pos h3] at hg
      have h3':¬bR rows[i] v<0:=by omega
      cases hi with
      | none=>
        rw[show lower b none=true from rfl,if_pos rfl] at hg
        simp -implicitDefEqProofs only[go_sem,la,ea,aU,aZ,h3,h3']
        refine sQ ?_
        refine⟨i+1,lo,some b,?_,sL,aw [some 0,some 1] ?_ ?_ rfl rfl⟩
        rotate_left
        ·exact sC
        ·refine sA ?_
         all_goals(simp[*];done)
        exact⟨by omega,hg⟩
      | some h=>
        rw[show lower b (some h)=cS b h from rfl] at hg
        simp -implicitDefEqProofs only[go_sem,la,ea,aJ,aK,h3]
        refine aC [] (mK b h) ?_
        cases h5:cS b h
        ·rw[h5,if_neg (by simp)] at hg
         simp -implicitDefEqProofs only[go_sem,la,ea,h3']
         refine sQ ?_
         refine⟨i+1,lo,some h,?_,sL,aw [some 0,some 1] ?_ ?_ rfl rfl⟩
         rotate_left
         ·exact sC
         ·refine sA ?_
          all_goals(simp[*];done)
         exact⟨by omega,hg⟩
        ·rw[h5,if_pos rfl] at hg
         simp -implicitDefEqProofs only[go_sem,la,ea,h3']
         refine sQ ?_
         refine⟨i+1,lo,some b,?_,sL,aw [some 0,some 1] ?_ ?_ rfl rfl⟩
         rotate_left
         ·exact sC
         ·refine sA ?_
          all_goals(simp[*];done)
         exact⟨by omega,hg⟩
     ·rw[if_neg h3] at hg
      have h3':bR rows[i] v<0:=by omega
      cases lo with
      | none=>
        rw[show upper b none=true from rfl,if_pos rfl] at hg
        simp -implicitDefEqProofs only[go_sem,la,ea,aU,aZ,h3,h3']
        refine sQ ?_
        refine⟨i+1,some b,hi,?_,sL,aw [some 0,some 1] ?_ ?_ rfl rfl⟩
        rotate_left
        ·exact sC
        ·refine sA ?_
         all_goals(simp[*];done)
        exact⟨by omega,hg⟩
      | some l=>
        rw[show upper b (some l)=cS l b from rfl] at hg
        simp -implicitDefEqProofs only[go_sem,la,ea,aJ,aK,h3,h3']
        refine aC [] (mK l b) ?_
        cases h5:cS l b
        ·rw[h5,if_neg (by simp)] at hg
         refine sA ?_
         refine sQ ?_
         refine⟨i+1,some l,hi,?_,sL,aw [some 0,some 1] ?_ ?_ rfl rfl⟩
         rotate_left
         ·exact sC
         ·refine sA ?_
          all_goals(simp[*];done)
         exact⟨by omega,hg⟩
        ·rw[h5,if_pos rfl] at hg
         refine sA ?_
         refine sQ ?_
         refine⟨i+1,some b,hi,?_,sL,aw [some 0,some 1] ?_ ?_ rfl rfl⟩
         rotate_left
         ·exact sC
         ·refine sA ?_
          all_goals(simp[*];done)
         exact⟨by omega,hg⟩
  ·rw[al (by omega),ix] at hg
   simp -implicitDefEqProofs only[go_sem,h1]
   refine an ?_
   refine sA ?_
   rw[hg]
   ((repeat' apply ar)<;>rfl)
theorem DL(lo hi:Option Mod.Rat):C E.P 208 [av (LA lo hi)] [] (bM (.jd [av (eO (kI lo hi).1),bv (kI lo hi).2]) []):=by
 have c1:=fun x=>lR x (whole 1)
 have c2:=fun x=>lR x (whole (-1))
 refine gS (nt:=37) (rs:=[.cell 2 71,.tmp 3]) hm Tryz.func208 fun hl he cI=>?_
 cases lo with
 | none=>
   cases hi with
   | none=>
     simp -implicitDefEqProofs only[go_sem,aU,aZ]
     refine an ?_
     refine sA ?_
     ((repeat' apply ar)<;>rfl)
   | some h=>
     simp -implicitDefEqProofs only[go_sem,aU,aZ,aJ,aK]
     refine aC [] (c2 h) ?_
     refine an ?_
     refine sA ?_
     ((repeat' apply ar)<;>rfl)
 | some l=>
   cases hi with
   | none=>
     simp -implicitDefEqProofs only[go_sem,aU,aZ,aJ,aK]
     refine aC [] (c1 l) ?_
     refine an ?_
     refine sA ?_
     ((repeat' apply ar)<;>rfl)
   | some h=>
     simp -implicitDefEqProofs only[go_sem,aJ,aK]
     refine aC [] (Hr l h) ?_
     refine an ?_
     refine sA ?_
     ((repeat' apply ar)<;>rfl)
theorem HX(n:Nat)(st:List (List cz))(hs:∀rows∈st,wK n rows)(h4:st.length=4):C E.P 138 [.acc 0] [some (.acc 190 (pq st))] (bM (.jd [lv (br (vG st 0 nR).1),bv (vG st 0 nR).2]) [some (.acc 190 (pq st))]):=by
 refine gS (nt:=47) (rs:=[.tmp 2,.tmp 3]) hm Tryz.func138 fun hl he cI=>?_
 refine aO hm (fun(i:Nat)=> i≤4) (fun(i:Nat)=> ⟨dB 47 .any [(0,.acc 0),(4,.acc 1),(5,iv i)],[some (.acc 190 (pq st)),some (.acc 71 (br (aW i (whole 0))))]⟩) (fun(i:Nat)=> 4-i) (0) ?_ (aw [some 0,some 1] ?_ ?_ rfl rfl) ?_
 rotate_left
 ·exact sC
 ·refine sA ?_
  all_goals(rfl)
 rotate_left
 ·omega
 ·rintro i hi
  have hrl:(br (aW i (whole 0))).length=i:=by rw[xg];simp
  rcases aa (i<4) with h1|h1
  ·have h1':(i:Int)<4:=by omega
   simp -implicitDefEqProofs only[go_sem,h1']
   refine sQ ?_
   refine⟨i+1,?_,sL,aw [some 0,some 2] ?_ ?_ rfl rfl⟩
   rotate_left
   ·exact sC
   ·refine sA ?_
    all_goals((rw[List.replicate_succ',←sR,uW,s5];rfl))
   exact h1
  ·have h1':¬ (i:Int)<4:=by omega
   obtain rfl:i=4:=by omega
   have e0:aW 4 (whole 0)=nR:=rfl
   rw[e0]
   simp -implicitDefEqProofs only[go_sem,Z2]
   clear hi h1 h1' hrl
   refine dm hm (fun(k:Nat) (aE:List Mod.Rat)=> k≤4∧aE.length=4∧vG st 0 nR=vG (st.drop k) k aE) (fun(k:Nat) (aE:List Mod.Rat)=> ⟨dB 47 .any [(0,.acc 0),(4,.acc 1),(6,iv k)],[some (.acc 190 (pq st)),some (.acc 71 (br aE))]⟩) (fun(k:Nat) (aE:List Mod.Rat)=> 4-k) (0) (nR) ?_ (aw [some 0,some 1] ?_ ?_ rfl rfl) ?_
   rotate_left
   ·exact sC
   ·exact sC
   rotate_left
   ·exact⟨by omega,rfl,rfl⟩
   ·rintro k aE ⟨hk,hv4,hg⟩
    rcases aa (k<4) with h1|h1
    ·have h1':(k:Int)<4:=by omega
     have h2:k<st.length:=by omega
     have h3:k<aE.length:=by omega
     have hu:=hs st[k] (ak h2)
     rw[PD h2] at hg
     have cb:=DM n k st[k] aE hu hv4 h1
     have hrv:=qu (l:=aE) (i:=k) (x:=(kI (ix k aE st[k] none none).1.1 (ix k aE st[k] none none).1.2).1) h3
     rw[wj h3] at hrv
     have cc:=DL (ix k aE st[k] none none).1.1 (ix k aE st[k] none none).1.2
     generalize ix k aE st[k] none none=e at hg cb cc hrv
     obtain⟨⟨lo,hi⟩,ok⟩:=e
     simp only at hg cb cc hrv
     simp -implicitDefEqProofs only[go_sem,h1',h2]
     refine dN [] [1] cb rfl ?_ ?_ ?_
     ·exact sV
     all_goals simp -implicitDefEqProofs only[go_sem]
     cases ok
     ·simp only[ax,if_false] at hg
      refine sA ?_
      refine bX [some 0] ?_ rfl rfl
      refine sA ?_
      rw[hg]
      ((repeat' apply ar)<;>rfl)
     ·simp only[if_true] at hg
      refine sA ?_
      refine aC [] cc ?_
      generalize kI lo hi=c at hg cc hrv
      obtain⟨c,ok⟩:=c
      simp only at hg hrv
      cases ok
      ·simp only[ax,if_false] at hg
       simp -implicitDefEqProofs only[go_sem,h3]
       refine bX [some 0] ?_ rfl rfl
       refine sA ?_
       rw[hg]
       simp only[eO] at hrv
       ((repeat' apply ar)<;>first|exact hrv.symm|rfl)
      ·simp only[if_true] at hg
       simp -implicitDefEqProofs only[go_sem,h3]
       refine sQ ?_
       refine⟨k+1,aE.set k c,?_,sL,aw [some 0,some 1] ?_ ?_ rfl rfl⟩
       rotate_left
       ·exact sC
       ·refine sA ?_
        all_goals((simp only[eO] at hrv;exact hrv))
       exact⟨by omega,by simpa using hv4,hg⟩
    ·have h1':¬ (k:Int)<4:=by omega
     rw[al (by omega),vG] at hg
     simp -implicitDefEqProofs only[go_sem,h1']
     refine bX [some 0] ?_ rfl rfl
     refine sA ?_
     rw[hg]
     ((repeat' apply ar)<;>rfl)
theorem JU(n:Nat)(rows:List cz)(hr:wK n rows):C E.P 136 [lv (dU rows)] [] (bM (lv (bG (PE rows))) []):=by
 have dy:=hr.1
 refine gS (nt:=22) (rs:=[.tmp 2]) hm Tryz.func136 fun hl he cI=>?_
 refine aO hm (fun(i:Nat)=> i≤rows.length∧(rows.find? fun r=>jJ r.jA)=(rows.drop i).find? fun r=>jJ r.jA) (fun(i:Nat)=> ⟨dB 22 .any [(0,lv (dU rows)),(3,iv i)],[]⟩) (fun(i:Nat)=> rows.length-i) (0) ?_ (aw [] ?_ ?_ rfl rfl) ?_
 rotate_left
 ·exact sC
 ·exact sC
 rotate_left
 ·simp
 ·rintro i ⟨hi,hg⟩
  rcases aa (i<rows.length) with h1|h1
  ·rw[aj h1,List.find?_cons] at hg
   simp -implicitDefEqProofs only[go_sem,h1]
   refine aC [] (yn rows[i].jA) ?_
   cases h2:jJ rows[i].jA
   ·rw[h2] at hg
    refine sA ?_
    refine sQ ?_
    refine⟨i+1,?_,sL,aw [] ?_ ?_ rfl rfl⟩
    rotate_left
    ·exact sC
    ·exact sC
    exact⟨by omega,hg⟩
   ·rw[h2] at hg
    simp only at hg
    simp -implicitDefEqProofs only[go_sem,h1]
    refine an ?_
    refine sA ?_
    rw[PE,hg]
  ·rw[al (by omega),List.find?_nil] at hg
   simp -implicitDefEqProofs only[go_sem,h1]
   refine an ?_
   refine sA ?_
   rw[PE,hg]
   rfl
def aa1(ls:List ib)(z:Int)(rows:List cz)(s:List (List cz)):Prop:=
 s.length=4∧(∀x∈s,wK ls.length x)∧wK ls.length rows∧(ls=[]→rows=[]) ∧
 ((z=3∧rows=bH ls)∨(z=2∧gU (bH ls) 3=some rows∧s[3]?=some (bH ls)) ∨
 (z=1∧∃r2,gU (bH ls) 3=some r2∧gU r2 2=some rows∧s[3]?=some (bH ls)∧s[2]?=some r2) ∨
 (z=0∧∃r2 r1,gU (bH ls) 3=some r2∧gU r2 2=some r1∧gU r1 1=some rows∧s[3]?=some (bH ls)∧s[2]?=some r2∧s[1]?=some r1) ∨
 (z = -1∧∃r2 r1 r0,gU (bH ls) 3=some r2∧gU r2 2=some r1∧gU r1 1=some r0∧gU r0 0=some rows∧s=[r0,r1,r2,bH ls]))
theorem S3(n:Nat):wK n []:=⟨by simp,fun r hr=>by simp at hr⟩
theorem Bc{ls:List ib}{rows r:List cz}{v:Nat}(h:ls=[]→rows=[])(hr:gU rows v=some r):ls=[]→r=[]:=fun e=>by
 rw[h e,RG] at hr
 simpa using hr.symm
theorem D6{n:Nat}{s:List (List cz)}{i:Nat}{rows:List cz}(h:∀x∈s,wK n x)(hr:wK n rows):∀x∈s.set i rows,wK n x:=fun x hx=>by
 rcases List.mem_or_eq_of_mem_set hx with h1|h1
 ·exact h x h1
 ·rw[h1];exact hr
theorem four{s:List (List cz)}{a b c d:List cz}(h:s.length=4)(h3:s[3]?=some d)(h2:s[2]?=some c)(h1:s[1]?=some b):s.set 0 a=[a,b,c,d]:=by
 match s,h with
 | [p,q,r,t],_=>simp at h1 h2 h3;simp[h1,h2,h3]
theorem Hl(ls:List ib):C E.P 65 [lv (db ls)] [] (bM (.jd [lv (br (bN ls).aE),lv (bG (bN ls).times),iv (bN ls).code]) []):=by
 refine gS (nt:=77) (rs:=[.tmp 2,.tmp 3,.tmp 4]) hm Tryz.func65 fun hl he cI=>?_
 refine aC [] (wT ls) ?_
 cases hsys:fG ls
 ·have e:bN ls=⟨[],[],3⟩:=by simp[bN,hsys]
  refine sA ?_
  refine an ?_
  refine sA ?_
  rw[e]
  ((repeat' apply ar)<;>rfl)
 have h20:ls.length≤20:=by simp only[fG,ai,decide_eq_true_eq] at hsys;exact hsys.1
 have u3:=De hsys
 have hn3:ls=[]→bH ls=[]:=fun e=>by rw[e];rfl
 simp -implicitDefEqProofs only[go_sem,Z3,Z4]
 refine sQ ?_
 refine aC [] (HZ ls (by omega)) ?_
 refine kS hm (fun(z:Int) (rows:List cz) (s:List (List cz))=> aa1 ls z rows s) (fun(z:Int) (rows:List cz) (s:List (List cz))=> ⟨dB 77 .any [(0,lv (db ls)),(5,.acc 0),(6,.acc 1),(7,lv (dU rows)),(8,iv z)],[some (.acc 71 (br [])),some (.acc 190 (pq s))]⟩) (fun(z:Int) (rows:List cz) (s:List (List cz))=> (z+1).toNat) (3) (bH ls) ([[],[],[],[]]) ?_ (aw [some 0,some 1] ?_ ?_ rfl rfl) ?_
 rotate_left
 ·exact sC
 ·refine sA ?_
  all_goals(rfl)
 rotate_left
 ·exact⟨rfl,fun x hx=>by simp at hx;rw[hx];exact S3 _,u3,hn3,.inl ⟨rfl,rfl⟩⟩
 ·rintro z rows s ⟨h4,hs,hu,hnil,hz⟩
  rcases hz with⟨rfl,rfl⟩|⟨rfl,g3,t3⟩|⟨rfl,r2,g3,g2,t3,t2⟩|⟨rfl,r2,r1,g3,g2,g1,t3,t2,t1⟩|⟨rfl,r2,r1,r0,g3,g2,g1,g0,rfl⟩
  ·generalize hR:bH ls=rows at *
   have cl:=pZ ls.length 3 rows hu (by omega) (by omega)
   have hput:=vf (l:=s) (i:=3) (x:=rows) (by omega)
   have hsl:3<s.length:=by omega
   rw[pD hsl] at hput
   simp -implicitDefEqProofs only[go_sem,Z3,Z4,hsl]
   refine aC [] cl ?_
   cases hl:(qe rows 3).2
   ·have hn:=vl hl
    have e:bN ls=⟨[],[],2⟩:=by simp[bN, *]
    refine sA ?_
    refine an ?_
    refine sA ?_
    rw[e]
    ((repeat' apply ar)<;>rfl)
   ·have hn:=uR hl
    have hn2:=Bc hnil hn
    have hu2:=ke hu hn
    generalize (qe rows 3).1=r at hn hn2 hu2⊢
    refine sA ?_
    refine sQ ?_
    refine⟨(2:Int),r,s.set 3 rows,?_,sL,aw [some 0,some 1] ?_ ?_ rfl rfl⟩
    rotate_left
    ·refine sA ?_
     all_goals(simp[*];done)
    ·refine sA ?_
     all_goals(exact hput)
    exact⟨by simpa using h4,D6 hs hu,hu2,hn2,.inr (.inl ⟨rfl,by rw[hR];exact hn,by rw[hR];simp[h4]⟩)⟩
  ·have cl:=pZ ls.length 2 rows hu (by omega) (by omega)
   have hput:=vf (l:=s) (i:=2) (x:=rows) (by omega)
   have hsl:2<s.length:=by omega
   rw[pD hsl] at hput
   simp -implicitDefEqProofs only[go_sem,Z3,Z4,hsl]
   refine aC [] cl ?_
   cases hl:(qe rows 2).2
   ·have hn:=vl hl
    have e:bN ls=⟨[],[],2⟩:=by simp[bN, *]
    refine sA ?_
    refine an ?_
    refine sA ?_
    rw[e]
    ((repeat' apply ar)<;>rfl)
   ·have hn:=uR hl
    have hn2:=Bc hnil hn
    have hu2:=ke hu hn
    generalize (qe rows 2).1=r at hn hn2 hu2⊢
    refine sA ?_
    refine sQ ?_
    refine⟨(1:Int),r,s.set 2 rows,?_,sL,aw [some 0,some 1] ?_ ?_ rfl rfl⟩
    rotate_left
    ·refine sA ?_
     all_goals(simp[*];done)
    ·refine sA ?_
     all_goals(exact hput)
    exact⟨by simpa using h4,D6 hs hu,hu2,hn2,.inr (.inr (.inl ⟨rfl,rows,g3,hn,by simpa using t3,by simp[h4]⟩))⟩
  ·have cl:=pZ ls.length 1 rows hu (by omega) (by omega)
   have hput:=vf (l:=s) (i:=1) (x:=rows) (by omega)
   have hsl:1<s.length:=by omega
   rw[pD hsl] at hput
   simp -implicitDefEqProofs only[go_sem,Z3,Z4,hsl]
   refine aC [] cl ?_
   cases hl:(qe rows 1).2
   ·have hn:=vl hl
    have e:bN ls=⟨[],[],2⟩:=by simp[bN, *]
    refine sA ?_
    refine an ?_
    refine sA ?_
    rw[e]
    ((repeat' apply ar)<;>rfl)
   ·have hn:=uR hl
    have hn2:=Bc hnil hn
    have hu2:=ke hu hn
    generalize (qe rows 1).1=r at hn hn2 hu2⊢
    refine sA ?_
    refine sQ ?_
    refine⟨(0:Int),r,s.set 1 rows,?_,sL,aw [some 0,some 1] ?_ ?_ rfl rfl⟩
    rotate_left
    ·refine sA ?_
     all_goals(simp[*];done)
    ·refine sA ?_
     all_goals(exact hput)
    exact⟨by simpa using h4,D6 hs hu,hu2,hn2,.inr (.inr (.inr (.inl ⟨rfl,r2,rows,g3,g2,hn,by simpa using t3,by simpa using t2,by simp[h4]⟩)))⟩
  ·have cl:=pZ ls.length 0 rows hu (by omega) (by omega)
   have hput:=vf (l:=s) (i:=0) (x:=rows) (by omega)
   have hsl:0<s.length:=by omega
   rw[pD hsl] at hput
   simp -implicitDefEqProofs only[go_sem,hsl]
   refine aC [] cl ?_
   cases hl:(qe rows 0).2
   ·have hn:=vl hl
    have e:bN ls=⟨[],[],2⟩:=by simp[bN, *]
    refine sA ?_
    refine an ?_
    refine sA ?_
    rw[e]
    ((repeat' apply ar)<;>rfl)
   ·have hn:=uR hl
    have hn2:=Bc hnil hn
    have hu2:=ke hu hn
    generalize (qe rows 0).1=r at hn hn2 hu2⊢
    refine sA ?_
    refine sQ ?_
    refine⟨(-1:Int),r,s.set 0 rows,?_,sL,aw [some 0,some 1] ?_ ?_ rfl rfl⟩
    rotate_left
    ·refine sA ?_
     all_goals(simp[*];done)
    ·refine sA ?_
     all_goals(exact hput)
    exact⟨by simpa using h4,D6 hs hu,hu2,hn2,.inr (.inr (.inr (.inr ⟨rfl,r2,r1,rows,g3,g2,g1,hn,four h4 t3 t2 t1⟩)))⟩
  ·have hF:bN ls=ie ls r0 r1 r2 (bH ls) rows:=by simp[bN,hsys,g3,g2,g1,g0]
   clear g3 g2 g1 g0
   have hback:=Mx (st:=[r0,r1,r2,bH ls]) (v:=0) (aE:=nR)
   simp -implicitDefEqProofs only[go_sem,Z3]
   refine aC [] (JU ls.length rows hu) ?_
   cases mN:rows.find? fun r=>jJ r.jA with
   | some r=>
     have hb:PE rows=r.fI:=by rw[PE,mN]
     have hm:=List.mem_of_find?_eq_some mN
     have hul:=(hu.2 r hm).len
     have hpos:0<ls.length:=by
      rcases Nat.eq_zero_or_pos ls.length with h0|h0
      ·rw[hnil (List.length_eq_zero_iff.1 h0)] at hm
       simp at hm
      ·exact h0
     have hpos':(0:Int)<(r.fI.length:Int):=by omega
     simp -implicitDefEqProofs only[go_sem,hb,hpos']
     refine aC [] (Lg ls r.fI) ?_
     cases hf:qU ls r.fI
     ·have e:bN ls=⟨[],[],2⟩:=by rw[hF,ie,mN];simp[hf]
      refine sA ?_
      refine an ?_
      refine sA ?_
      rw[e]
      ((repeat' apply ar)<;>rfl)
     ·have e:bN ls=⟨[],r.fI,1⟩:=by rw[hF,ie,mN];simp[hf]
      simp -implicitDefEqProofs only[go_sem,hpos']
      refine sQ ?_
      refine an ?_
      refine sA ?_
      rw[e]
      ((repeat' apply ar)<;>rfl)
   | none=>
     have hb:PE rows=[]:=by rw[PE,mN]
     simp -implicitDefEqProofs only[go_sem,Z2,hb]
     refine oC [] [1] (HX ls.length [r0,r1,r2,bH ls] hs rfl) ?_
     generalize vG [r0,r1,r2,bH ls] 0 nR=b at hback
     obtain⟨aE,ok⟩:=b
     cases ok
     ·have e:bN ls=⟨[],[],2⟩:=by rw[hF,ie,mN];simp[hback,HW]
      refine sA ?_
      refine an ?_
      refine sA ?_
      rw[e]
      ((repeat' apply ar)<;>rfl)
     ·refine sA ?_
      refine aC [] (HA ls aE) ?_
      cases hf:kV ls aE
      ·have e:bN ls=⟨[],[],2⟩:=by rw[hF,ie,mN];simp[hback,HW,hf]
       refine sA ?_
       refine an ?_
       refine sA ?_
       rw[e]
       ((repeat' apply ar)<;>rfl)
      ·have e:bN ls=⟨aE,[],0⟩:=by rw[hF,ie,mN];simp[hback,HW,hf]
       refine sA ?_
       refine an ?_
       refine sA ?_
       rw[e]
       ((repeat' apply ar)<;>rfl)
end Go.Proofs.YtabembjmeobhoaaGreat
