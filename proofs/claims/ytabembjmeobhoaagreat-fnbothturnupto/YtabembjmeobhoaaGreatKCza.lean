/-
  The reference: the walks of values, sums, and systems that hold. A step towards the laws.
-/
import Derived.Test.YtabembjmeobhoaaGreatKCe
import Derived.Test.YtabembjmeobhoaaGreatKCQ
import Derived.Test.YtabembjmeobhoaaGreatKCzf
set_option linter.unusedVariables false
set_option linter.unusedSimpArgs false
open And renaming intro→au
open Bool renaming and_eq_true→ai,false_eq_true→aw
open Classical renaming em→aa
open List renaming drop_eq_getElem_cons→ah,getElem_mem→ak,drop_of_length_le→al,take_of_length_le→ao,replicate→aU,range→bu,nil_append→bC,all_cons→b8,all_nil→dS
open Nat renaming zero_le→bc
open Option renaming getD_some→aX,isSome_some→aY,isSome_none→bE,getD_none→cf
namespace Go.Proofs.YtabembjmeobhoaaGreat
open Go.Eng Go.Mod
open Int renaming reduceEq→Z1,reduceLT→Z2,reduceLE→Z3,reduceToNat→Z4
set_option maxRecDepth 100000
set_option maxHeartbeats 800000
theorem KV(n d:Int):C E.P 268 [iv n,iv d] [] (bD (.gV [av (eY (lA n d).1),bv (lA n d).2]) []):=by
 refine gS (nt:=33) (rs:=[.cell 4 71,.tmp 5]) hm Tryz.func268 fun hl he cq=>?_
 rcases aa (d=0) with h0|h0
 ·have k0:=eq_true h0
  have e:lA n d=(jO,false):=by rw[h0];exact Q6
  refine uH ?_
  refine an ?_
  refine sA ?_
  all_goals(simp[e];done)
 simp -implicitDefEqProofs only[go_sem,h0]
 refine aC [] (rv n) ?_
 rcases aa (1000000000<rz n) with h1|h1
 ·have e:=GZ (d:=d) (.inl h1)
  refine uA ?_
  refine an ?_
  refine sA ?_
  all_goals(simp[e];done)
 refine uA ?_
 refine aC [] (rv d) ?_
 rcases aa (1000000000<rz d) with h2|h2
 ·have e:=GZ (n:=n) (.inr h2)
  refine uB ?_
  refine an ?_
  refine sA ?_
  all_goals(simp[e];done)
 have e:=Us (n:=n) (d:=d) (by omega) (by omega)
 have b1:=tz.1 (show rz n≤1000000000 by omega)
 have b2:=tz.1 (show rz d≤1000000000 by omega)
 rcases aa (d<0) with h3|h3
 ·have e2:=MN (n:=n) h0 h3
  simp -implicitDefEqProofs only[go_sem,h2,h3]
  refine sQ ?_
  refine aC [] (oY (-n) (-d) (by omega) (by omega)) ?_
  refine an ?_
  refine sA ?_
  all_goals(simp[e,e2];done)
 ·simp -implicitDefEqProofs only[go_sem,h2,h3]
  refine aC [] (oY n d (by omega) (by omega)) ?_
  refine an ?_
  refine sA ?_
  all_goals(simp[e];done)
theorem Jb(a b:Mod.Rat):C E.P 252 [av (eY a),av (eY b)] [] (bD (.gV [av (eY (ra a b).1),bv (ra a b).2]) []):=by
 refine gS (nt:=22) (rs:=[.cell 4 71,.tmp 5]) hm Tryz.func252 fun hl he cq=>?_
 refine aC [] (me a b) ?_
 cases g1:(df a b).2
 ·refine sA ?_
  refine an ?_
  refine sA ?_
  all_goals(simp[ra,g1];done)
 ·refine sA ?_
  refine aC [] (nJ (df a b).1 ⟨1,2⟩) ?_
  refine an ?_
  refine sA ?_
  all_goals(simp[ra,g1];done)
theorem zP(aB:List Mod.Rat):C E.P 210 [lv (br aB)] [] (bD (bv (qC aB)) []):=by
 refine gS (nt:=19) (rs:=[.tmp 2]) hm Tryz.func210 fun hl he cq=>?_
 refine aM hm (fun(i:Nat)=> i≤aB.length∧aB.all bW=(aB.drop i).all bW) (fun(i:Nat)=> ⟨dH 19 .any [(0,lv (br aB)),(3,iv i)],[]⟩) (fun(i:Nat)=> aB.length-i) (0) ?_ (ar [] ?_ ?_ rfl rfl) ?_
 rotate_left
 ·exact sC
 ·exact sC
 rotate_left
 ·simp
 ·rintro i ⟨hi,hg⟩
  rcases aa (i<aB.length) with h1|h1
  ·rw[ah h1,b8] at hg
   refine uA ?_
   refine aC [] (gp aB[i]) ?_
   cases h2:bW aB[i]
   ·rw[h2,Bool.false_and] at hg
    refine sA ?_
    refine an ?_
    refine sA ?_
    all_goals(simp[qC,hg];done)
   ·rw[h2,Bool.true_and] at hg
    refine sA ?_
    refine sQ ?_
    refine⟨i+1,?_,sL,ar [] ?_ ?_ rfl rfl⟩
    rotate_left
    ·exact sC
    ·exact sC
    exact⟨by omega,hg⟩
  ·rw[al (by omega),dS] at hg
   rcases aa ((aB.length:Int)=4) with h3|h3
   ·have h3':aB.length=4:=by omega
    have k3:=eq_true h3
    simp -implicitDefEqProofs only[go_sem,h1,k3]
    refine an ?_
    refine sA ?_
    all_goals(simp[qC,hg,h3'];done)
   ·have h3':¬aB.length=4:=by omega
    simp -implicitDefEqProofs only[go_sem,h1,h3]
    refine an ?_
    refine sA ?_
    all_goals(simp[qC,h3'];done)
theorem Pt{aB:List Mod.Rat}(h:qC aB=true):aB.length=4:=by
 simp only[qC,ai,decide_eq_true_eq] at h
 exact h.1
theorem Ml(l:ir)(aB:List Mod.Rat)(h4:l.aG.length=aB.length):C E.P 254 [av (eS l),lv (br aB)] [] (bD (.gV [av (eY (th l.aG aB (whole 0)).1),bv (th l.aG aB (whole 0)).2]) []):=by
 refine gS (nt:=45) (rs:=[.cell 4 71,.tmp 5]) hm Tryz.func254 fun hl he cq=>?_
 refine cQ hm (fun(i:Nat) (sum:Mod.Rat)=> i≤l.aG.length∧th l.aG aB (whole 0)=th (l.aG.drop i) (aB.drop i) sum) (fun(i:Nat) (sum:Mod.Rat)=> ⟨dH 45 .any [(1,lv (br aB)),(2,.ptr 0 0),(4,.ptr 1 0),(6,.ptr 2 0),(7,iv i)],[some (.box (cF (eS l))),some (.box (cF (eY jO))),some (.box (cF (eY sum)))]⟩) (fun(i:Nat) (sum:Mod.Rat)=> l.aG.length-i) (0) (whole 0) ?_ (ar [some 0,some 1,some 2] ?_ ?_ rfl rfl) ?_
 rotate_left
 ·exact sC
 ·exact sC
 rotate_left
 ·simp
 ·rintro i sum ⟨hi,hg⟩
  rcases aa (i<l.aG.length) with h1|h1
  ·have h2:i<aB.length:=by omega
   rw[QH h1 h2] at hg
   have cm:=nJ (whole l.aG[i]) aB[i]
   refine uJ ?_
   refine aC [] cm ?_
   refine iK ?_
   cases h3:(cE (whole l.aG[i]) aB[i]).2
   ·rw[h3] at hg
    simp only[aw,if_false] at hg
    refine sA ?_
    refine an ?_
    refine sA ?_
    rw[hg]
    ((repeat' apply au)<;>rfl)
   ·rw[h3] at hg
    simp only[if_true] at hg
    refine sA ?_
    refine aC [] (me sum (cE (whole l.aG[i]) aB[i]).1) ?_
    cases h5:(df sum (cE (whole l.aG[i]) aB[i]).1).2
    ·rw[h5] at hg
     simp only[aw,if_false] at hg
     refine sA ?_
     refine an ?_
     refine sA ?_
     rw[hg,tv h5]
     ((repeat' apply au)<;>rfl)
    ·rw[h5] at hg
     simp only[if_true] at hg
     refine sA ?_
     refine sQ ?_
     refine⟨i+1,(df sum (cE (whole l.aG[i]) aB[i]).1).1,?_,sL,ar [some 0,some 1,some 2] ?_ ?_ rfl rfl⟩
     rotate_left
     ·exact sC
     ·exact sC
     exact⟨by omega,hg⟩
  ·rw[al (by omega),SZ] at hg
   refine uA ?_
   refine an ?_
   refine sA ?_
   rw[hg]
   ((repeat' apply au)<;>rfl)
theorem LC(l:ir)(aB:List Mod.Rat):C E.P 209 [av (eS l),lv (br aB)] [] (bD (.gV [bv ((mv l aB).getD false),bv (mv l aB).isSome]) []):=by
 refine gS (nt:=41) (rs:=[.tmp 4,.tmp 5]) hm Tryz.func209 fun hl he cq=>?_
 refine aC [] (gZ l) ?_
 cases g1:dU l
 ·refine sA ?_
  refine an ?_
  refine sA ?_
  all_goals(simp[mv,g1];done)
 ·refine sA ?_
  refine aC [] (zP aB) ?_
  cases g2:qC aB
  ·refine sA ?_
   refine an ?_
   refine sA ?_
   all_goals(simp[mv,g1,g2];done)
  ·obtain⟨hn1,hc1,hb1⟩:=gD.1 g1
   have hv:=Pt g2
   have e:mv l aB=(zW (th l.aG aB (whole 0))).map fun x=>below x l.bound l.strict:=by simp[mv,g1,g2,Hn]
   have e7:=Jy (cs:=l.aG) (xs:=aB) (sum:=whole 0) (r:=(th l.aG aB (whole 0)).1) (by decide)
   rw[Hn] at e7
   refine sA ?_
   refine aC [] (Ml l aB (by omega)) ?_
   obtain⟨⟨x,ok⟩,hx⟩:∃r,th l.aG aB (whole 0)=r:=⟨_,rfl⟩
   rw[hx] at e e7⊢
   simp only at e7
   cases ok
   ·refine sA ?_
    refine an ?_
    refine sA ?_
    all_goals(simp[e,zW];done)
   ·have hx2:=e7 rfl
    have e2:=NF hx2 (n:=l.bound) (by omega) (by omega) l.strict
    have e3:mv l aB=some (below x l.bound l.strict):=e
    have cl:=mN x (whole l.bound)
    refine sA ?_
    refine aC [] cl ?_
    cases h5:c8 x (whole l.bound)
    ·rw[h5] at e2
     cases h6:l.strict
     ·rw[h6] at e2
      refine sA ?_
      refine LV (by kernel_rfl) (a:=x.N) (b:=x.D) (c:=l.bound) (e:=1) (by simp -implicitDefEqProofs only[go_sem]) (by simp -implicitDefEqProofs only[go_sem]) ?_
      have e5:oz x.N x.D l.bound 1=decide (x=whole l.bound):=pD x (whole l.bound)
      rw[e5]
      refine sA ?_
      refine an ?_
      refine sA ?_
      rw[e3,h6,e2]
      simp
     ·rw[h6] at e2
      refine sA ?_
      refine an ?_
      refine sA ?_
      rw[e3,h6,e2]
      ((repeat' apply au)<;>rfl)
    ·rw[h5] at e2
     refine sA ?_
     refine an ?_
     refine sA ?_
     rw[e3,e2]
     ((repeat' apply au)<;>rfl)
theorem Ir(ls:List ir)(aB:List Mod.Rat):C E.P 139 [lv (dm ls),lv (br aB)] [] (bD (bv (lj ls aB)) []):=by
 have hno:∀l∈ls,mv l aB≠some true→lj ls aB=false:=fun l hl h=>by
  have:(ls.all fun l=>decide (mv l aB=some true))=false:=by
   rw[Bool.eq_false_iff]
   intro hh
   have:=List.all_eq_true.1 hh l hl
   exact h (by simpa using this)
  simp[lj,this]
 refine gS (nt:=35) (rs:=[.tmp 4]) hm Tryz.func139 fun hl he cq=>?_
 refine aM hm (fun(i:Nat)=> i≤ls.length∧(ls.all fun l=>decide (mv l aB=some true))=(ls.drop i).all fun l=>decide (mv l aB=some true)) (fun(i:Nat)=> ⟨dH 35 .any [(0,lv (dm ls)),(1,lv (br aB)),(5,iv i)],[]⟩) (fun(i:Nat)=> ls.length-i) (0) ?_ (ar [] ?_ ?_ rfl rfl) ?_
 rotate_left
 ·exact sC
 ·exact sC
 rotate_left
 ·simp
 ·rintro i ⟨hi,hg⟩
  rcases aa (i<ls.length) with h1|h1
  ·rw[ah h1,b8] at hg
   have hn:=hno ls[i] (ak h1)
   refine uA ?_
   refine aC [] (LC ls[i] aB) ?_
   cases h2:mv ls[i] aB with
   | none=>
     have e:=hn (by rw[h2];simp)
     refine uK ?_
     refine an ?_
     refine sA ?_
     all_goals(simp[e];done)
   | some b=>
     rw[h2] at hg hn
     cases b
     ·have e:=hn (by simp)
      refine uL ?_
      refine an ?_
      refine sA ?_
      all_goals(simp[e];done)
     ·refine uL ?_
      refine sQ ?_
      refine⟨i+1,?_,sL,ar [] ?_ ?_ rfl rfl⟩
      rotate_left
      ·exact sC
      ·exact sC
      refine⟨by omega,?_⟩
      rw[hg];simp
  ·rw[al (by omega),dS] at hg
   refine uA ?_
   refine aC [] (xw ls) ?_
   cases g1:fS ls
   ·refine sA ?_
    refine an ?_
    refine sA ?_
    all_goals(simp[lj,g1];done)
   ·refine sA ?_
    refine aC [] (zP aB) ?_
    refine an ?_
    refine sA ?_
    all_goals(simp[lj,g1,hg];done)
def cUS(r:cI):List T:=[.leaf (.dC (bI r.jI.aG)),.leaf (.val (.int .i64 r.jI.bound)),.leaf (.val (.bool r.jI.strict)),.own 3 (BG r.fU)]
theorem I5(ls:List ir)(hl:ls.length≤100):C E.P 134 [lv (dm ls)] [] (bD (lv (eE (bJ ls))) []):=by
 refine gS (nt:=29) (rs:=[.tmp 2]) hm Tryz.func134 fun hl he cq=>?_
 refine aM hm (fun(i:Nat)=> i≤ls.length) (fun(i:Nat)=> ⟨dH 29 .any [(0,lv (dm ls)),(3,.acc 0),(4,iv i)],[some (.fw 252 (uT ((bu i).map fun i=>⟨ls.getD i mO,tr ls.length i⟩)))]⟩) (fun(i:Nat)=> ls.length-i) (0) ?_ (ar [some 0] ?_ ?_ rfl rfl) ?_
 rotate_left
 ·exact sC
 ·refine sA ?_
  all_goals(rfl)
 rotate_left
 ·omega
 ·rintro i hi
  have hp:(uT ((bu i).map fun i=>(⟨ls.getD i mO,tr ls.length i⟩:cI))).length=i:=by rw[Rs];simp
  rcases aa (i<ls.length) with h1|h1
  ·have hz:aU ls.length ([D.val (Value.int .i64 0)]:List D)=bI (aU ls.length 0):=by simp[bI]
   refine uA ?_
   refine sQ ?_
   simp -implicitDefEqProofs only[go_sem,hz]
   refine⟨i+1,?_,?_,Bx 3 i _ rfl (by rw[List.length_append,hp];simp) (wQ hp) ?_⟩
   rotate_left
   ·show _ < _
    omega
   ·refine sA ?_
    refine ar [some 3] ?_ ?_ rfl rfl
    ·exact sC
    ·refine sA ?_
     all_goals(rw[xY hp,Ht h1];exact⟨FD h1,(congrArg (fun z=>(cZ z).isSome) (FD h1)).trans (Zn _)⟩)
   exact h1
  ·refine uA ?_
   refine an ?_
   refine sA ?_
   obtain rfl:i=ls.length:=by omega
   exact⟨_,rfl,rfl⟩
theorem Vr{n:Nat}{a b:cI}{v:Nat}(ha:H9 n a)(hb:H9 n b)(h1:0<bS a v)(h2:bS b v<0):ez a.jI (pd a b v) b.jI (o9 a b v)=jv a.jI (pd a b v) b.jI (o9 a b v):=by
 obtain⟨_,hp,hq⟩:=Fq ha hb h1 h2
 exact pF ha.jI hb.jI (dk.2 ⟨by omega,hq.2⟩) (dk.2 ⟨by omega,hp.2⟩)
theorem Ia(n v:Nat)(a b:cI)(ha:H9 n a)(hb:H9 n b)(hn:n≤100)(hv:v<4)(h1:0<bS a v)(h2:bS b v<0):C E.P 204 [av (cU a),av (cU b),iv v] [] (bD (.gV [av (cU (AW a b v)),bv (tZ a b v)]) []):=by
 have ca:=ha.TU v
 have cb:=hb.TU v
 obtain⟨⟨hg1,hg2⟩,⟨hp1,hp2⟩,⟨hq1,hq2⟩⟩:=Fq ha hb h1 h2
 have la:v<a.jI.aG.length:=by rw[(gD.1 ha.jI).1];exact hv
 have lb:v<b.jI.aG.length:=by rw[(gD.1 hb.jI).1];exact hv
 have ea:a.jI.aG[v]=bS a v:=(getD_at la).symm
 have eb:b.jI.aG[v]=bS b v:=(getD_at lb).symm
 have hal:=ha.len
 have hbl:=hb.len
 have eg:(Int.gcd (bS a v) (-(bS b v)):Int)=uW a b v:=rfl
 have ep:(bS a v).tdiv (uW a b v)=o9 a b v:=rfl
 have eq:(-(bS b v)).tdiv (uW a b v)=pd a b v:=rfl
 have els:=Vr ha hb h1 h2
 have e1:AW a b v=⟨(ez a.jI (pd a b v) b.jI (o9 a b v)).1,qx a b v⟩:=rfl
 have e2:tZ a b v=((ez a.jI (pd a b v) b.jI (o9 a b v)).2&&(qx a b v).all fun n=>decide (n≤1000000)):=rfl
 have e3:qx a b v=comb (pd a b v) (o9 a b v) a.fU b.fU:=rfl
 rw[els] at e1 e2
 clear els
 generalize uW a b v=g at *
 generalize o9 a b v=p at *
 generalize pd a b v=q at *
 refine gS (nt:=94) (rs:=[.cell 6 252,.tmp 7]) hm Tryz.func204 fun hl he cq=>?_
 simp -implicitDefEqProofs only[go_sem,la,lb,ea,eb]
 refine sQ ?_
 refine bp [] (ry (bS a v) (-(bS b v)) (by omega) (by omega)) ?_ ?_<;>simp -implicitDefEqProofs only[go_sem,eg,la,lb,ea,eb]
 refine iK ?_
 refine sQ ?_
 simp -implicitDefEqProofs only[go_sem,ep,eq]
 refine aC [] (Br a.jI q b.jI p ha.jI hb.jI (by omega) (by omega)) ?_
 obtain⟨l,hl⟩:∃l,(jv a.jI q b.jI p).1=l:=⟨_,rfl⟩
 obtain⟨ok,e7⟩:∃l,(jv a.jI q b.jI p).2=l:=⟨_,rfl⟩
 rw[hl] at e1
 rw[e7] at e2
 simp -implicitDefEqProofs only[go_sem,hl,e7]
 refine cQ hm (fun(i:Nat) (o:Bool)=> i≤n∧o=(ok&&(comb q p (a.fU.take i) (b.fU.take i)).all fun n=>decide (n≤1000000))) (fun(i:Nat) (o:Bool)=> ⟨dH 94 .any [(3,.ptr 0 0),(4,.ptr 1 0),(6,.ptr 2 0),(9,iv q),(10,iv p),(12,bv o),(13,.ptr 3 0),(14,iv i)],[some (.box (cF (cU a))),some (.box (cF (cU b))),some (.box (cF (cU ⟨mO,[]⟩))),some (.box [lv (bI l.aG),iv l.bound,bv l.strict,.acc 4]),some (.acc 3 (bI (comb q p (a.fU.take i) (b.fU.take i))))]⟩) (fun(i:Nat) (o:Bool)=> n-i) (0) (ok) ?_ (ar [some 0,some 1,some 2,some 4,none] ?_ ?_ rfl rfl) ?_
 rotate_left
 ·exact sC
 ·refine sA ?_
  all_goals(simp[comb, *])
 rotate_left
 ·simp[comb]
 ·rintro i o ⟨hi,ho⟩
  rcases aa (i<n) with h3|h3
  ·have h4:i<a.fU.length:=by omega
   have h5:i<b.fU.length:=by omega
   have b1:=ha.bd a.fU[i] (ak h4)
   have b2:=hb.bd b.fU[i] (ak h5)
   have m1:=dw (m:=q) (b:=a.fU[i]) (by omega) hq2 (by omega)
   have m2:=dw (m:=p) (b:=b.fU[i]) (by omega) hp2 (by omega)
   have dz:(comb q p (a.fU.take i) (b.fU.take i)).length≤100:=by rw[ke (by simp;omega)];simp;omega
   have ho2:(ok&&(comb q p (a.fU.take (i+1)) (b.fU.take (i+1))).all fun n=>decide (n≤1000000))=(o&&decide (q*a.fU[i]+p*b.fU[i]≤1000000)):=by
    rw[ho,fe h4 h5,List.all_append,←Bool.and_assoc]
    simp
   cases o
   ·simp -implicitDefEqProofs only[go_sem,h3,h5,hal]
    refine sQ ?_
    refine⟨i+1,false,?_,sL,ar [some 0,some 1,some 2,some 3,some 5] ?_ ?_ rfl rfl⟩
    rotate_left
    ·exact sC
    ·refine sA ?_
     all_goals((rw[fe h4 h5,←eQ];rfl))
    exact⟨h3,by rw[ho2];rfl⟩
   ·simp -implicitDefEqProofs only[go_sem,h3,h5,hal]
    refine sQ ?_
    refine⟨i+1,(decide (q*a.fU[i]+p*b.fU[i]≤1000000)),?_,sL,ar [some 0,some 1,some 2,some 3,some 5] ?_ ?_ rfl rfl⟩
    rotate_left
    ·exact sC
    ·refine sA ?_
     all_goals((rw[fe h4 h5,←eQ];rfl))
    exact⟨h3,by rw[ho2];simp⟩
  ·have ta:a.fU.take i=a.fU:=ao (by omega)
   have tb:b.fU.take i=b.fU:=ao (by omega)
   rw[ta,tb,←e3] at ho⊢
   rw[←e2] at ho
   simp -implicitDefEqProofs only[go_sem,h3,hal]
   refine an ?_
   refine sA ?_
   rw[e1,ho]
   repeat' apply au
   all_goals rfl
theorem yS{n v:Nat}{r:cI}(h:H9 n r)(hv:v<4):∃h:v<r.jI.aG.length,r.jI.aG[v]=bS r v:=by
 have la:v<r.jI.aG.length:=by rw[(gD.1 h.jI).1];exact hv
 exact⟨la,(getD_at la).symm⟩
theorem p9(n v:Nat)(rows:List cI)(hr:xi n rows)(hn:n≤100)(hv:v<4):C E.P 135 [lv (eE rows),iv v] [] (bD (.gV [lv (eE (qq rows v).1),bv (qq rows v).2]) []):=by
 obtain⟨dz,l7⟩:=hr
 refine gS (nt:=96) (rs:=[.tmp 4,.tmp 5]) hm Tryz.func135 fun hl he cq=>?_
 refine aM hm (fun(i:Nat)=> i≤rows.length) (fun(i:Nat)=> ⟨dH 96 .any [(0,lv (eE rows)),(1,iv v),(6,.acc 0),(7,iv i)],[some (.acc 252 (eE ((rows.take i).filter fun r=>decide (bS r v=0))))]⟩) (fun(i:Nat)=> rows.length-i) (0) ?_ (ar [some 0] ?_ ?_ rfl rfl) ?_
 rotate_left
 ·exact sC
 ·refine sA ?_
  all_goals(rfl)
 rotate_left
 ·omega
 ·rintro i hi
  have hfl:((rows.take i).filter fun r=>decide (bS r v=0)).length≤200:=by
   have:=List.length_filter_le (fun r:cI=>decide (bS r v=0)) (rows.take i)
   rw[List.length_take] at this
   omega
  rcases aa (i<rows.length) with h1|h1
  ·obtain⟨la,ea⟩:=yS (l7 rows[i] (ak h1)) hv
   have hs:=El (p:=fun r:cI=>decide (bS r v=0)) h1
   rcases aa (bS rows[i] v=0) with h2|h2
   ·have k2:=eq_true h2
    rw[if_pos (by simpa using h2)] at hs
    simp -implicitDefEqProofs only[go_sem,h1,la,ea,k2]
    refine sQ ?_
    refine⟨i+1,?_,sL,ar [some 1] ?_ ?_ rfl rfl⟩
    rotate_left
    ·exact sC
    ·refine sA ?_
     all_goals((rw[hs,←yQ,vS,uR];rfl))
    exact h1
   ·rw[if_neg (by simpa using h2),List.append_nil] at hs
    simp -implicitDefEqProofs only[go_sem,h1,la,ea,h2]
    refine sQ ?_
    refine⟨i+1,?_,sL,ar [some 0] ?_ ?_ rfl rfl⟩
    rotate_left
    ·exact sC
    ·refine sA ?_
     all_goals((rw[hs]))
    exact h1
  ·have et:rows.take i=rows:=ao (by omega)
   rw[et] at hfl⊢
   obtain⟨out0,ho0⟩:∃o,(rows.filter fun r=>decide (bS r v=0))=o:=⟨_,rfl⟩
   have hL:qq rows v=oe v (pq rows rows v) out0:=by rw[←ho0];rfl
   rw[ho0] at hfl⊢
   refine uA ?_
   clear hi h1
   refine cQ hm (fun(i:Nat) (out:List cI)=> i≤rows.length∧out.length≤200∧qq rows v=oe v (pq rows (rows.drop i) v) out) (fun(i:Nat) (out:List cI)=> ⟨dH 96 .any [(0,lv (eE rows)),(1,iv v),(6,.acc 0),(8,iv i)],[some (.acc 252 (eE out))]⟩) (fun(i:Nat) (out:List cI)=> rows.length-i) (0) (out0) ?_ (ar [some 0] ?_ ?_ rfl rfl) ?_
   rotate_left
   ·exact sC
   ·exact sC
   rotate_left
   ·exact⟨bc _,hfl,hL⟩
   ·rintro i out ⟨hi,ho,hg⟩
    rcases aa (i<rows.length) with h1|h1
    ·have ua:=l7 rows[i] (ak h1)
     rw[DT h1] at hg
     obtain⟨a,ha⟩:∃a,rows[i]=a:=⟨_,rfl⟩
     rw[ha] at ua hg
     obtain⟨la,ea⟩:=yS ua hv
     refine uA ?_
     refine cQ hm (fun(j:Nat) (out:List cI)=> j≤rows.length∧out.length≤200∧qq rows v=oe v (pU a v (rows.drop j)++pq rows (rows.drop (i+1)) v) out) (fun(j:Nat) (out:List cI)=> ⟨dH 96 .any [(0,lv (eE rows)),(1,iv v),(6,.acc 0),(8,iv i),(9,iv j)],[some (.acc 252 (eE out))]⟩) (fun(j:Nat) (out:List cI)=> rows.length-j) (0) (out) ?_ (ar [some 0] ?_ ?_ rfl rfl) ?_
     rotate_left
     ·exact sC
     ·exact sC
     rotate_left
     ·exact⟨bc _,ho,hg⟩
     ·rintro j out ⟨hj,ho,hg⟩
      rcases aa (j<rows.length) with h3|h3
      ·rcases aa (0<bS a v) with h4|h4
       ·have ub:=l7 rows[j] (ak h3)
        rw[DW h3] at hg
        obtain⟨b,hb⟩:∃b,rows[j]=b:=⟨_,rfl⟩
        rw[hb] at ub hg
        obtain⟨lb,eb⟩:=yS ub hv
        rcases aa (bS b v<0) with h5|h5
        ·rw[if_pos ⟨h4,h5⟩] at hg
         simp only[List.cons_append,bC,oe] at hg
         simp -implicitDefEqProofs only[go_sem,h3,h1,ha,la,ea,h4,hb,lb,eb,h5]
         refine aC [] (Ia n v a b ua ub hn hv h4 h5) ?_
         refine iK ?_
         cases h6:tZ a b v
         ·rw[if_neg (by rw[h6];simp)] at hg
          refine sA ?_
          refine an ?_
          refine sA ?_
          rw[hg]
          ((repeat' apply au)<;>rfl)
         ·rcases aa ((200:Int)≤(out.length:Int)) with h7|h7
          ·rw[if_neg (by omega)] at hg
           simp -implicitDefEqProofs only[go_sem,h7]
           refine an ?_
           refine sA ?_
           rw[hg]
           ((repeat' apply au)<;>rfl)
          ·rw[if_pos ⟨h6,by omega⟩] at hg
           simp -implicitDefEqProofs only[go_sem,h7]
           refine sQ ?_
           refine⟨j+1,out++[AW a b v],?_,sL,ar [some 2] ?_ ?_ rfl rfl⟩
           rotate_left
           ·exact sC
           ·refine sA ?_
            all_goals((rw[←yQ,vS,uR];rfl))
           exact⟨by omega,by simp;omega,hg⟩
        ·rw[if_neg (by omega),bC] at hg
         simp -implicitDefEqProofs only[go_sem,h3,h1,ha,la,ea,h4,hb,lb,eb,h5]
         refine sQ ?_
         refine⟨j+1,out,?_,sL,ar [some 0] ?_ ?_ rfl rfl⟩
         rotate_left
         ·exact sC
         ·exact sC
         exact⟨by omega,ho,hg⟩
       ·rw[OO h4,bC] at hg
        simp -implicitDefEqProofs only[go_sem,h3,h1,ha,la,ea,h4]
        refine sQ ?_
        refine⟨i+1,out,?_,sL,ar [some 0] ?_ ?_ rfl rfl⟩
        rotate_left
        ·exact sC
        ·exact sC
        exact⟨by omega,ho,hg⟩
      ·rw[al (by omega:rows.length≤j)] at hg
       refine uC ?_
       refine sQ ?_
       refine⟨i+1,out,?_,sL,ar [some 0] ?_ ?_ rfl rfl⟩
       rotate_left
       ·exact sC
       ·exact sC
       exact⟨by omega,ho,by simpa[pU] using hg⟩
    ·rw[al (by omega)] at hg
     refine uA ?_
     refine an ?_
     refine sA ?_
     rw[hg]
     ((repeat' apply au)<;>rfl)
theorem IC(v:Nat)(l:ir)(aB:List Mod.Rat)(hl:dU l=true)(h4:aB.length=4)(hv:v<4):C E.P 251 [av (eS l),lv (br aB),iv v] [] (bD (.gV [av (eY (gI l v aB).1),bv (gI l v aB).2]) []):=by
 obtain⟨hn1,hc1,hb1⟩:=gD.1 hl
 have lv1:v<l.aG.length:=by omega
 have ev:l.aG.getD v 0=l.aG[v]:=getD_at lv1
 refine gS (nt:=70) (rs:=[.cell 6 71,.tmp 7]) hm Tryz.func251 fun hl he cq=>?_
 refine cQ hm (fun(i:Nat) (sum:Mod.Rat)=> i≤aB.length∧nw v 0 l.aG aB (whole l.bound)=nw v i (l.aG.drop i) (aB.drop i) sum) (fun(i:Nat) (sum:Mod.Rat)=> ⟨dH 70 .any [(1,lv (br aB)),(2,iv v),(3,.ptr 0 0),(6,.ptr 1 0),(8,.ptr 2 0),(9,iv i)],[some (.box (cF (eS l))),some (.box (cF (eY jO))),some (.box (cF (eY sum)))]⟩) (fun(i:Nat) (sum:Mod.Rat)=> aB.length-i) (0) (whole l.bound) ?_ (ar [some 0,some 1,some 2] ?_ ?_ rfl rfl) ?_
 rotate_left
 ·exact sC
 ·exact sC
 rotate_left
 ·simp
 ·rintro i sum ⟨hi,hg⟩
  rcases aa (i<aB.length) with h1|h1
  ·have h2:i<l.aG.length:=by omega
   rw[Ou h2 h1] at hg
   rcases aa (i=v) with h3|h3
   ·have k3:((i:Int)=(v:Int))=True:=eq_true (by omega)
    rw[if_pos h3] at hg
    simp -implicitDefEqProofs only[go_sem,h1,k3]
    refine sQ ?_
    refine⟨i+1,sum,?_,sL,ar [some 0,some 1,some 2] ?_ ?_ rfl rfl⟩
    rotate_left
    ·exact sC
    ·exact sC
    exact⟨by omega,hg⟩
   ·have k3:¬ (i:Int)=(v:Int):=by omega
    have cb:=hc1 l.aG[i] (ak h2)
    have cm:=nJ (whole (-l.aG[i])) aB[i]
    rw[if_neg h3] at hg
    simp -implicitDefEqProofs only[go_sem,h1,h2,k3]
    refine sQ ?_
    refine aC [] cm ?_
    refine iK ?_
    cases h5:(cE (whole (-l.aG[i])) aB[i]).2
    ·rw[h5] at hg
     simp only[aw,if_false] at hg
     have e:gI l v aB=(sum,false):=by simp[gI,hg]
     refine sA ?_
     refine an ?_
     refine sA ?_
     rw[e]
     ((repeat' apply au)<;>rfl)
    ·rw[h5] at hg
     simp only[if_true] at hg
     refine sA ?_
     refine aC [] (me sum (cE (whole (-l.aG[i])) aB[i]).1) ?_
     cases h6:(df sum (cE (whole (-l.aG[i])) aB[i]).1).2
     ·rw[h6] at hg
      simp only[aw,if_false] at hg
      have e:gI l v aB=(jO,false):=by simp[gI,hg]
      refine sA ?_
      refine an ?_
      refine sA ?_
      rw[e,tv h6]
      ((repeat' apply au)<;>rfl)
     ·rw[h6] at hg
      simp only[if_true] at hg
      refine sA ?_
      refine sQ ?_
      refine⟨i+1,(df sum (cE (whole (-l.aG[i])) aB[i]).1).1,?_,sL,ar [some 0,some 1,some 2] ?_ ?_ rfl rfl⟩
      rotate_left
      ·exact sC
      ·exact sC
      exact⟨by omega,hg⟩
  ·rw[al (by omega),QP] at hg
   simp -implicitDefEqProofs only[go_sem,h1,lv1]
   refine aC [] (KV 1 l.aG[v]) ?_
   cases h5:(lA 1 l.aG[v]).2
   ·have e:gI l v aB=(sum,false):=by simp[gI,hg,h5,lv1]
    refine sA ?_
    refine an ?_
    refine sA ?_
    rw[e]
    ((repeat' apply au)<;>rfl)
   ·have e:gI l v aB=cE sum (lA 1 l.aG[v]).1:=by simp[gI,hg,h5,lv1]
    refine sA ?_
    refine aC [] (nJ sum (lA 1 l.aG[v]).1) ?_
    refine an ?_
    refine sA ?_
    rw[e]
    ((repeat' apply au)<;>rfl)
def Na(lo hi:Option Mod.Rat):List D:=[.val (.int .i64 (lo.getD jO).N),.val (.int .i64 (lo.getD jO).D),.val (.int .i64 (hi.getD jO).N),.val (.int .i64 (hi.getD jO).D),.val (.bool lo.isSome),.val (.bool hi.isSome)]
attribute [go_sem] Na
theorem EK(n v:Nat)(rows:List cI)(aB:List Mod.Rat)(hr:xi n rows)(h4:aB.length=4)(hv:v<4):C E.P 207 [lv (eE rows),lv (br aB),iv v] [] (bD (.gV [av (Na (iG v aB rows none none).1.1 (iG v aB rows none none).1.2),bv (iG v aB rows none none).2]) []):=by
 obtain⟨dz,l7⟩:=hr
 refine gS (nt:=82) (rs:=[.cell 6 256,.tmp 7]) hm Tryz.func207 fun hl he cq=>?_
 refine kS hm (fun(i:Nat) (lo:Option Mod.Rat) (hi:Option Mod.Rat)=> i≤rows.length∧iG v aB rows none none=iG v aB (rows.drop i) lo hi) (fun(i:Nat) (lo:Option Mod.Rat) (hi:Option Mod.Rat)=> ⟨dH 82 .any [(0,lv (eE rows)),(1,lv (br aB)),(2,iv v),(6,.ptr 0 0),(8,.ptr 1 0),(9,iv i)],[some (.box (cF (Na none none))),some (.box (cF (Na lo hi)))]⟩) (fun(i:Nat) (lo:Option Mod.Rat) (hi:Option Mod.Rat)=> rows.length-i) (0) (none) (none) ?_ (ar [some 0,some 1] ?_ ?_ rfl rfl) ?_
 rotate_left
 ·exact sC
 ·refine sA ?_
  all_goals(simp[*];done)
 rotate_left
 ·simp
 ·rintro i lo hi ⟨hi1,hg⟩
  rcases aa (i<rows.length) with h1|h1
  ·have ua:=l7 rows[i] (ak h1)
   obtain⟨la,ea⟩:=yS ua hv
   rw[Q9 h1] at hg
   rcases aa (bS rows[i] v=0) with h2|h2
   ·have k2:=eq_true h2
    rw[if_pos h2] at hg
    simp -implicitDefEqProofs only[go_sem,h1,la,ea,k2]
    refine sQ ?_
    refine⟨i+1,lo,hi,?_,sL,ar [some 0,some 1] ?_ ?_ rfl rfl⟩
    rotate_left
    ·exact sC
    ·exact sC
    exact⟨by omega,hg⟩
   ·rw[if_neg h2] at hg
    simp -implicitDefEqProofs only[go_sem,h1,la,ea,h2]
    refine aC [] (IC v rows[i].jI aB ua.jI h4 hv) ?_
    generalize hb:gI rows[i].jI v aB=b at hg
    obtain⟨b,ok⟩:=b
    simp only at hg
    cases ok
    ·simp only[aw,if_false] at hg
     refine sA ?_
     refine an ?_
     refine sA ?_
     rw[hg]
     ((repeat' apply au)<;>rfl)
    ·simp only[if_true] at hg
     rcases aa (0<bS rows[i] v) with h3|h3
     ·rw[if_pos h3] at hg
      have h3':¬bS rows[i] v<0:=by omega
      cases hi with
      | none=>
        rw[show lower b none=true from rfl,if_pos rfl] at hg
        simp -implicitDefEqProofs only[go_sem,la,ea,bE,cf,h3,h3']
        refine sQ ?_
        refine⟨i+1,lo,some b,?_,sL,ar [some 0,some 1] ?_ ?_ rfl rfl⟩
        rotate_left
        ·exact sC
        ·refine sA ?_
         all_goals(simp[*];done)
        exact⟨by omega,hg⟩
      | some h=>
        rw[show lower b (some h)=c8 b h from rfl] at hg
        simp -implicitDefEqProofs only[go_sem,la,ea,aY,aX,h3]
        refine aC [] (mN b h) ?_
        cases h5:c8 b h
        ·rw[h5,if_neg (by simp)] at hg
         simp -implicitDefEqProofs only[go_sem,la,ea,h3']
         refine sQ ?_
         refine⟨i+1,lo,some h,?_,sL,ar [some 0,some 1] ?_ ?_ rfl rfl⟩
         rotate_left
         ·exact sC
         ·refine sA ?_
          all_goals(simp[*];done)
         exact⟨by omega,hg⟩
        ·rw[h5,if_pos rfl] at hg
         simp -implicitDefEqProofs only[go_sem,la,ea,h3']
         refine sQ ?_
         refine⟨i+1,lo,some b,?_,sL,ar [some 0,some 1] ?_ ?_ rfl rfl⟩
         rotate_left
         ·exact sC
         ·refine sA ?_
          all_goals(simp[*];done)
         exact⟨by omega,hg⟩
     ·rw[if_neg h3] at hg
      have h3':bS rows[i] v<0:=by omega
      cases lo with
      | none=>
        rw[show upper b none=true from rfl,if_pos rfl] at hg
        simp -implicitDefEqProofs only[go_sem,la,ea,bE,cf,h3,h3']
        refine sQ ?_
        refine⟨i+1,some b,hi,?_,sL,ar [some 0,some 1] ?_ ?_ rfl rfl⟩
        rotate_left
        ·exact sC
        ·refine sA ?_
         all_goals(simp[*];done)
        exact⟨by omega,hg⟩
      | some l=>
        rw[show upper b (some l)=c8 l b from rfl] at hg
        simp -implicitDefEqProofs only[go_sem,la,ea,aY,aX,h3,h3']
        refine aC [] (mN l b) ?_
        cases h5:c8 l b
        ·rw[h5,if_neg (by simp)] at hg
         refine sA ?_
         refine sQ ?_
         refine⟨i+1,some l,hi,?_,sL,ar [some 0,some 1] ?_ ?_ rfl rfl⟩
         rotate_left
         ·exact sC
         ·refine sA ?_
          all_goals(simp[*];done)
         exact⟨by omega,hg⟩
        ·rw[h5,if_pos rfl] at hg
         refine sA ?_
         refine sQ ?_
         refine⟨i+1,some b,hi,?_,sL,ar [some 0,some 1] ?_ ?_ rfl rfl⟩
         rotate_left
         ·exact sC
         ·refine sA ?_
          all_goals(simp[*];done)
         exact⟨by omega,hg⟩
  ·rw[al (by omega),iG] at hg
   refine uA ?_
   refine an ?_
   refine sA ?_
   rw[hg]
   ((repeat' apply au)<;>rfl)
theorem ES(lo hi:Option Mod.Rat):C E.P 208 [av (Na lo hi)] [] (bD (.gV [av (eY (kO lo hi).1),bv (kO lo hi).2]) []):=by
 have c1:=fun x=>me x (whole 1)
 have c2:=fun x=>me x (whole (-1))
 refine gS (nt:=37) (rs:=[.cell 2 71,.tmp 3]) hm Tryz.func208 fun hl he cq=>?_
 cases lo with
 | none=>
   cases hi with
   | none=>
     refine uK ?_
     refine an ?_
     refine sA ?_
     ((repeat' apply au)<;>rfl)
   | some h=>
     simp -implicitDefEqProofs only[go_sem,bE,cf,aY,aX]
     refine aC [] (c2 h) ?_
     refine an ?_
     refine sA ?_
     ((repeat' apply au)<;>rfl)
 | some l=>
   cases hi with
   | none=>
     simp -implicitDefEqProofs only[go_sem,bE,cf,aY,aX]
     refine aC [] (c1 l) ?_
     refine an ?_
     refine sA ?_
     ((repeat' apply au)<;>rfl)
   | some h=>
     refine uL ?_
     refine aC [] (Jb l h) ?_
     refine an ?_
     refine sA ?_
     ((repeat' apply au)<;>rfl)
theorem I9(n:Nat)(st:List (List cI))(hs:∀rows∈st,xi n rows)(h4:st.length=4):C E.P 138 [.acc 0] [some (.acc 190 (ph st))] (bD (.gV [lv (br (wG st 0 n5).1),bv (wG st 0 n5).2]) [some (.acc 190 (ph st))]):=by
 refine gS (nt:=47) (rs:=[.tmp 2,.tmp 3]) hm Tryz.func138 fun hl he cq=>?_
 refine aM hm (fun(i:Nat)=> i≤4) (fun(i:Nat)=> ⟨dH 47 .any [(0,.acc 0),(4,.acc 1),(5,iv i)],[some (.acc 190 (ph st)),some (.acc 71 (br (aU i (whole 0))))]⟩) (fun(i:Nat)=> 4-i) (0) ?_ (ar [some 0,some 1] ?_ ?_ rfl rfl) ?_
 rotate_left
 ·exact sC
 ·refine sA ?_
  all_goals(rfl)
 rotate_left
 ·omega
 ·rintro i hi
  have hrl:(br (aU i (whole 0))).length=i:=by rw[xz];simp
  rcases aa (i<4) with h1|h1
  ·have h1':(i:Int)<4:=by omega
   simp -implicitDefEqProofs only[go_sem,h1']
   refine sQ ?_
   refine⟨i+1,?_,sL,ar [some 0,some 2] ?_ ?_ rfl rfl⟩
   rotate_left
   ·exact sC
   ·refine sA ?_
    all_goals((rw[List.replicate_succ',←tl,vp,tD];rfl))
   exact h1
  ·have h1':¬ (i:Int)<4:=by omega
   obtain rfl:i=4:=by omega
   have e0:aU 4 (whole 0)=n5:=rfl
   rw[e0]
   simp -implicitDefEqProofs only[go_sem,Z2]
   clear hi h1 h1' hrl
   refine cQ hm (fun(k:Nat) (aB:List Mod.Rat)=> k≤4∧aB.length=4∧wG st 0 n5=wG (st.drop k) k aB) (fun(k:Nat) (aB:List Mod.Rat)=> ⟨dH 47 .any [(0,.acc 0),(4,.acc 1),(6,iv k)],[some (.acc 190 (ph st)),some (.acc 71 (br aB))]⟩) (fun(k:Nat) (aB:List Mod.Rat)=> 4-k) (0) (n5) ?_ (ar [some 0,some 1] ?_ ?_ rfl rfl) ?_
   rotate_left
   ·exact sC
   ·exact sC
   rotate_left
   ·exact⟨by omega,rfl,rfl⟩
   ·rintro k aB ⟨hk,hv4,hg⟩
    rcases aa (k<4) with h1|h1
    ·have h1':(k:Int)<4:=by omega
     have h2:k<st.length:=by omega
     have h3:k<aB.length:=by omega
     have hu:=hs st[k] (ak h2)
     rw[PB h2] at hg
     have cb:=EK n k st[k] aB hu hv4 h1
     have hrv:=qL (l:=aB) (i:=k) (x:=(kO (iG k aB st[k] none none).1.1 (iG k aB st[k] none none).1.2).1) h3
     rw[yh h3] at hrv
     have cc:=ES (iG k aB st[k] none none).1.1 (iG k aB st[k] none none).1.2
     generalize iG k aB st[k] none none=e at hg cb cc hrv
     obtain⟨⟨lo,hi⟩,ok⟩:=e
     simp only at hg cb cc hrv
     simp -implicitDefEqProofs only[go_sem,h1',h2]
     refine dQ [] [1] cb rfl ?_ ?_ ?_
     ·exact sV
     all_goals simp -implicitDefEqProofs only[go_sem]
     cases ok
     ·simp only[aw,if_false] at hg
      refine sA ?_
      refine bZ [some 0] ?_ rfl rfl
      refine sA ?_
      rw[hg]
      ((repeat' apply au)<;>rfl)
     ·simp only[if_true] at hg
      refine sA ?_
      refine aC [] cc ?_
      generalize kO lo hi=c at hg cc hrv
      obtain⟨c,ok⟩:=c
      simp only at hg hrv
      cases ok
      ·simp only[aw,if_false] at hg
       refine uC ?_
       refine bZ [some 0] ?_ rfl rfl
       refine sA ?_
       rw[hg]
       simp only[eY] at hrv
       ((repeat' apply au)<;>first|exact hrv.symm|rfl)
      ·simp only[if_true] at hg
       refine uC ?_
       refine sQ ?_
       refine⟨k+1,aB.set k c,?_,sL,ar [some 0,some 1] ?_ ?_ rfl rfl⟩
       rotate_left
       ·exact sC
       ·refine sA ?_
        all_goals((simp only[eY] at hrv;exact hrv))
       exact⟨by omega,by simpa using hv4,hg⟩
    ·have h1':¬ (k:Int)<4:=by omega
     rw[al (by omega),wG] at hg
     simp -implicitDefEqProofs only[go_sem,h1']
     refine bZ [some 0] ?_ rfl rfl
     refine sA ?_
     rw[hg]
     ((repeat' apply au)<;>rfl)
theorem KU(n:Nat)(rows:List cI)(hr:xi n rows):C E.P 136 [lv (eE rows)] [] (bD (lv (bI (Qb rows))) []):=by
 have dz:=hr.1
 refine gS (nt:=22) (rs:=[.tmp 2]) hm Tryz.func136 fun hl he cq=>?_
 refine aM hm (fun(i:Nat)=> i≤rows.length∧(rows.find? fun r=>jN r.jI)=(rows.drop i).find? fun r=>jN r.jI) (fun(i:Nat)=> ⟨dH 22 .any [(0,lv (eE rows)),(3,iv i)],[]⟩) (fun(i:Nat)=> rows.length-i) (0) ?_ (ar [] ?_ ?_ rfl rfl) ?_
 rotate_left
 ·exact sC
 ·exact sC
 rotate_left
 ·simp
 ·rintro i ⟨hi,hg⟩
  rcases aa (i<rows.length) with h1|h1
  ·rw[ah h1,List.find?_cons] at hg
   refine uA ?_
   refine aC [] (zE rows[i].jI) ?_
   cases h2:jN rows[i].jI
   ·rw[h2] at hg
    refine sA ?_
    refine sQ ?_
    refine⟨i+1,?_,sL,ar [] ?_ ?_ rfl rfl⟩
    rotate_left
    ·exact sC
    ·exact sC
    exact⟨by omega,hg⟩
   ·rw[h2] at hg
    simp only at hg
    refine uA ?_
    refine an ?_
    refine sA ?_
    rw[Qb,hg]
  ·rw[al (by omega),List.find?_nil] at hg
   refine uA ?_
   refine an ?_
   refine sA ?_
   rw[Qb,hg]
   rfl
def acg(ls:List ir)(z:Int)(rows:List cI)(s:List (List cI)):Prop:=
 s.length=4∧(∀x∈s,xi ls.length x)∧xi ls.length rows∧(ls=[]→rows=[]) ∧
 ((z=3∧rows=bJ ls)∨(z=2∧gW (bJ ls) 3=some rows∧s[3]?=some (bJ ls)) ∨
 (z=1∧∃r2,gW (bJ ls) 3=some r2∧gW r2 2=some rows∧s[3]?=some (bJ ls)∧s[2]?=some r2) ∨
 (z=0∧∃r2 r1,gW (bJ ls) 3=some r2∧gW r2 2=some r1∧gW r1 1=some rows∧s[3]?=some (bJ ls)∧s[2]?=some r2∧s[1]?=some r1) ∨
 (z = -1∧∃r2 r1 r0,gW (bJ ls) 3=some r2∧gW r2 2=some r1∧gW r1 1=some r0∧gW r0 0=some rows∧s=[r0,r1,r2,bJ ls]))
theorem VU(n:Nat):xi n []:=⟨by simp,fun r hr=>by simp at hr⟩
theorem Be{ls:List ir}{rows r:List cI}{v:Nat}(h:ls=[]→rows=[])(hr:gW rows v=some r):ls=[]→r=[]:=fun e=>by
 rw[h e,TX] at hr
 simpa using hr.symm
theorem E8{n:Nat}{s:List (List cI)}{i:Nat}{rows:List cI}(h:∀x∈s,xi n x)(hr:xi n rows):∀x∈s.set i rows,xi n x:=fun x hx=>by
 rcases List.mem_or_eq_of_mem_set hx with h1|h1
 ·exact h x h1
 ·rw[h1];exact hr
theorem four{s:List (List cI)}{a b c d:List cI}(h:s.length=4)(h3:s[3]?=some d)(h2:s[2]?=some c)(h1:s[1]?=some b):s.set 0 a=[a,b,c,d]:=by
 match s,h with
 | [p,q,r,t],_=>simp at h1 h2 h3;simp[h1,h2,h3]
theorem Ip(ls:List ir):C E.P 65 [lv (dm ls)] [] (bD (.gV [lv (br (bO ls).aB),lv (bI (bO ls).times),iv (bO ls).code]) []):=by
 refine gS (nt:=77) (rs:=[.tmp 2,.tmp 3,.tmp 4]) hm Tryz.func65 fun hl he cq=>?_
 refine aC [] (xw ls) ?_
 cases hsys:fS ls
 ·have e:bO ls=⟨[],[],3⟩:=by simp[bO,hsys]
  refine sA ?_
  refine an ?_
  refine sA ?_
  rw[e]
  ((repeat' apply au)<;>rfl)
 have h20:ls.length≤20:=by simp only[fS,ai,decide_eq_true_eq] at hsys;exact hsys.1
 have u3:=DV hsys
 have hn3:ls=[]→bJ ls=[]:=fun e=>by rw[e];rfl
 simp -implicitDefEqProofs only[go_sem,Z3,Z4]
 refine sQ ?_
 refine aC [] (I5 ls (by omega)) ?_
 refine kS hm (fun(z:Int) (rows:List cI) (s:List (List cI))=> acg ls z rows s) (fun(z:Int) (rows:List cI) (s:List (List cI))=> ⟨dH 77 .any [(0,lv (dm ls)),(5,.acc 0),(6,.acc 1),(7,lv (eE rows)),(8,iv z)],[some (.acc 71 (br [])),some (.acc 190 (ph s))]⟩) (fun(z:Int) (rows:List cI) (s:List (List cI))=> (z+1).toNat) (3) (bJ ls) ([[],[],[],[]]) ?_ (ar [some 0,some 1] ?_ ?_ rfl rfl) ?_
 rotate_left
 ·exact sC
 ·refine sA ?_
  all_goals(rfl)
 rotate_left
 ·exact⟨rfl,fun x hx=>by simp at hx;rw[hx];exact VU _,u3,hn3,.inl ⟨rfl,rfl⟩⟩
 ·rintro z rows s ⟨h4,hs,hu,hnil,hz⟩
  rcases hz with⟨rfl,rfl⟩|⟨rfl,g3,t3⟩|⟨rfl,r2,g3,g2,t3,t2⟩|⟨rfl,r2,r1,g3,g2,g1,t3,t2,t1⟩|⟨rfl,r2,r1,r0,g3,g2,g1,g0,rfl⟩
  ·generalize hR:bJ ls=rows at *
   have cl:=p9 ls.length 3 rows hu (by omega) (by omega)
   have hput:=vC (l:=s) (i:=3) (x:=rows) (by omega)
   have hsl:3<s.length:=by omega
   rw[pR hsl] at hput
   simp -implicitDefEqProofs only[go_sem,Z3,Z4,hsl]
   refine aC [] cl ?_
   cases hl:(qq rows 3).2
   ·have hn:=vo hl
    have e:bO ls=⟨[],[],2⟩:=by simp[bO, *]
    refine sA ?_
    refine an ?_
    refine sA ?_
    rw[e]
    ((repeat' apply au)<;>rfl)
   ·have hn:=vH hl
    have hn2:=Be hnil hn
    have hu2:=kp hu hn
    generalize (qq rows 3).1=r at hn hn2 hu2⊢
    refine sA ?_
    refine sQ ?_
    refine⟨(2:Int),r,s.set 3 rows,?_,sL,ar [some 0,some 1] ?_ ?_ rfl rfl⟩
    rotate_left
    ·refine sA ?_
     all_goals(simp[*];done)
    ·refine sA ?_
     all_goals(exact hput)
    exact⟨by simpa using h4,E8 hs hu,hu2,hn2,.inr (.inl ⟨rfl,by rw[hR];exact hn,by rw[hR];simp[h4]⟩)⟩
  ·have cl:=p9 ls.length 2 rows hu (by omega) (by omega)
   have hput:=vC (l:=s) (i:=2) (x:=rows) (by omega)
   have hsl:2<s.length:=by omega
   rw[pR hsl] at hput
   simp -implicitDefEqProofs only[go_sem,Z3,Z4,hsl]
   refine aC [] cl ?_
   cases hl:(qq rows 2).2
   ·have hn:=vo hl
    have e:bO ls=⟨[],[],2⟩:=by simp[bO, *]
    refine sA ?_
    refine an ?_
    refine sA ?_
    rw[e]
    ((repeat' apply au)<;>rfl)
   ·have hn:=vH hl
    have hn2:=Be hnil hn
    have hu2:=kp hu hn
    generalize (qq rows 2).1=r at hn hn2 hu2⊢
    refine sA ?_
    refine sQ ?_
    refine⟨(1:Int),r,s.set 2 rows,?_,sL,ar [some 0,some 1] ?_ ?_ rfl rfl⟩
    rotate_left
    ·refine sA ?_
     all_goals(simp[*];done)
    ·refine sA ?_
     all_goals(exact hput)
    exact⟨by simpa using h4,E8 hs hu,hu2,hn2,.inr (.inr (.inl ⟨rfl,rows,g3,hn,by simpa using t3,by simp[h4]⟩))⟩
  ·have cl:=p9 ls.length 1 rows hu (by omega) (by omega)
   have hput:=vC (l:=s) (i:=1) (x:=rows) (by omega)
   have hsl:1<s.length:=by omega
   rw[pR hsl] at hput
   simp -implicitDefEqProofs only[go_sem,Z3,Z4,hsl]
   refine aC [] cl ?_
   cases hl:(qq rows 1).2
   ·have hn:=vo hl
    have e:bO ls=⟨[],[],2⟩:=by simp[bO, *]
    refine sA ?_
    refine an ?_
    refine sA ?_
    rw[e]
    ((repeat' apply au)<;>rfl)
   ·have hn:=vH hl
    have hn2:=Be hnil hn
    have hu2:=kp hu hn
    generalize (qq rows 1).1=r at hn hn2 hu2⊢
    refine sA ?_
    refine sQ ?_
    refine⟨(0:Int),r,s.set 1 rows,?_,sL,ar [some 0,some 1] ?_ ?_ rfl rfl⟩
    rotate_left
    ·refine sA ?_
     all_goals(simp[*];done)
    ·refine sA ?_
     all_goals(exact hput)
    exact⟨by simpa using h4,E8 hs hu,hu2,hn2,.inr (.inr (.inr (.inl ⟨rfl,r2,rows,g3,g2,hn,by simpa using t3,by simpa using t2,by simp[h4]⟩)))⟩
  ·have cl:=p9 ls.length 0 rows hu (by omega) (by omega)
   have hput:=vC (l:=s) (i:=0) (x:=rows) (by omega)
   have hsl:0<s.length:=by omega
   rw[pR hsl] at hput
   simp -implicitDefEqProofs only[go_sem,hsl]
   refine aC [] cl ?_
   cases hl:(qq rows 0).2
   ·have hn:=vo hl
    have e:bO ls=⟨[],[],2⟩:=by simp[bO, *]
    refine sA ?_
    refine an ?_
    refine sA ?_
    rw[e]
    ((repeat' apply au)<;>rfl)
   ·have hn:=vH hl
    have hn2:=Be hnil hn
    have hu2:=kp hu hn
    generalize (qq rows 0).1=r at hn hn2 hu2⊢
    refine sA ?_
    refine sQ ?_
    refine⟨(-1:Int),r,s.set 0 rows,?_,sL,ar [some 0,some 1] ?_ ?_ rfl rfl⟩
    rotate_left
    ·refine sA ?_
     all_goals(simp[*];done)
    ·refine sA ?_
     all_goals(exact hput)
    exact⟨by simpa using h4,E8 hs hu,hu2,hn2,.inr (.inr (.inr (.inr ⟨rfl,r2,r1,rows,g3,g2,g1,hn,four h4 t3 t2 t1⟩)))⟩
  ·have hF:bO ls=iy ls r0 r1 r2 (bJ ls) rows:=by simp[bO,hsys,g3,g2,g1,g0]
   clear g3 g2 g1 g0
   have hback:=OL (st:=[r0,r1,r2,bJ ls]) (v:=0) (aB:=n5)
   simp -implicitDefEqProofs only[go_sem,Z3]
   refine aC [] (KU ls.length rows hu) ?_
   cases mY:rows.find? fun r=>jN r.jI with
   | some r=>
     have hb:Qb rows=r.fU:=by rw[Qb,mY]
     have hm:=List.mem_of_find?_eq_some mY
     have hul:=(hu.2 r hm).len
     have hpos:0<ls.length:=by
      rcases Nat.eq_zero_or_pos ls.length with h0|h0
      ·rw[hnil (List.length_eq_zero_iff.1 h0)] at hm
       simp at hm
      ·exact h0
     have hpos':(0:Int)<(r.fU.length:Int):=by omega
     simp -implicitDefEqProofs only[go_sem,hb,hpos']
     refine aC [] (Ln ls r.fU) ?_
     cases hf:qm ls r.fU
     ·have e:bO ls=⟨[],[],2⟩:=by rw[hF,iy,mY];simp[hf]
      refine sA ?_
      refine an ?_
      refine sA ?_
      rw[e]
      ((repeat' apply au)<;>rfl)
     ·have e:bO ls=⟨[],r.fU,1⟩:=by rw[hF,iy,mY];simp[hf]
      simp -implicitDefEqProofs only[go_sem,hpos']
      refine sQ ?_
      refine an ?_
      refine sA ?_
      rw[e]
      ((repeat' apply au)<;>rfl)
   | none=>
     have hb:Qb rows=[]:=by rw[Qb,mY]
     simp -implicitDefEqProofs only[go_sem,Z2,hb]
     refine oC [] [1] (I9 ls.length [r0,r1,r2,bJ ls] hs rfl) ?_
     generalize wG [r0,r1,r2,bJ ls] 0 n5=b at hback
     obtain⟨aB,ok⟩:=b
     cases ok
     ·have e:bO ls=⟨[],[],2⟩:=by rw[hF,iy,mY];simp[hback,I4]
      refine sA ?_
      refine an ?_
      refine sA ?_
      rw[e]
      ((repeat' apply au)<;>rfl)
     ·refine sA ?_
      refine aC [] (Ir ls aB) ?_
      cases hf:lj ls aB
      ·have e:bO ls=⟨[],[],2⟩:=by rw[hF,iy,mY];simp[hback,I4,hf]
       refine sA ?_
       refine an ?_
       refine sA ?_
       rw[e]
       ((repeat' apply au)<;>rfl)
      ·have e:bO ls=⟨aB,[],0⟩:=by rw[hF,iy,mY];simp[hback,I4,hf]
       refine sA ?_
       refine an ?_
       refine sA ?_
       rw[e]
       ((repeat' apply au)<;>rfl)
end Go.Proofs.YtabembjmeobhoaaGreat
