/-
  The program: the walks of elimination and of systems. A step towards the laws.
-/
import Derived.Test.YtabembjmeobhoaaGreatKBc
import Derived.Test.YtabembjmeobhoaaGreatKBd
import Derived.Test.YtabembjmeobhoaaGreatKBq
import Derived.Test.YtabembjmeobhoaaGreatKBEk
set_option linter.unusedVariables false
set_option linter.unusedSimpArgs false
open And renaming intro→ar
open Bool renaming and_eq_true→ai,false_eq_true→ax
open Classical renaming em→aa
open Int renaming gcd→bJ
open List renaming drop_eq_getElem_cons→aj,getElem_mem→ak,drop_of_length_le→al,take_of_length_le→ao,replicate→aW,range→bt,nil_append→bB
open Nat renaming zero_le→bh
open Option renaming isSome_some→aJ,getD_some→aK,isSome_none→aU,getD_none→aZ
namespace Go.Proofs.YtabembjmeobhoaaGreat
open Go.Eng Go.Mod
open Int renaming reduceEq→Z1,reduceLT→Z2,reduceLE→Z3,reduceToNat→Z4
set_option maxRecDepth 100000
set_option maxHeartbeats 800000
theorem BU(n d:Int)(hn:-1000000000≤n∧n≤1000000000)(hd:-1000000000≤d∧d≤1000000000):C E.P 235 [iv n,iv d] [] (bM (.jd [av (eO (ig n d).1),bv (ig n d).2]) []):=by
 rcases aa (d=0) with h0|h0
 ·have k0:=eq_true h0
  refine gS (nt:=32) (rs:=[.cell 4 71,.tmp 5]) hm Tryz.func235 fun hl he cI=>?_
  simp -implicitDefEqProofs only[go_sem,k0]
  refine an ?_
  refine sA ?_
  all_goals(simp[ig,h0];done)
 rcases aa (d<0) with h1|h1
 ·have e:ig n d=if bV ⟨(-n).tdiv (bJ (-n) (-d)),(-d).tdiv (bJ (-n) (-d))⟩ then(⟨(-n).tdiv (bJ (-n) (-d)),(-d).tdiv (bJ (-n) (-d))⟩,true) else(jF,false):=by
   unfold ig
   rw[if_neg h0]
   simp only[if_pos h1]
  have hg:=J8 (n:=-n) (d:=-d) (by omega)
  have b1:=pC (n:=-n) (k:=1000000000) hg (by omega)
  have b2:=pC (n:=-d) (k:=1000000000) hg (by omega)
  have jv:¬ (bJ (-n) (-d):Int)=0:=by omega
  refine gS (nt:=32) (rs:=[.cell 4 71,.tmp 5]) hm Tryz.func235 fun hl he cI=>?_
  simp -implicitDefEqProofs only[go_sem,h0,h1]
  refine sQ ?_
  refine aC [] (uP (-n) (-d) (by omega) (by omega)) ?_
  refine sQ ?_
  refine aC [] (gI ⟨(-n).tdiv (bJ (-n) (-d)),(-d).tdiv (bJ (-n) (-d))⟩) ?_
  cases h2:bV ⟨(-n).tdiv (bJ (-n) (-d)),(-d).tdiv (bJ (-n) (-d))⟩
  ·refine sA ?_
   refine an ?_
   refine sA ?_
   rw[e,if_neg (by rw[h2];simp)]
   exact⟨⟨rfl,rfl⟩,rfl⟩
  ·refine sA ?_
   refine an ?_
   refine sA ?_
   rw[e,if_pos h2]
   exact⟨⟨rfl,rfl⟩,rfl⟩
 ·exact vq n d (by omega) (by omega)
theorem Kh(n d:Int):C E.P 234 [iv n,iv d] [] (bM (.jd [av (eO (lg n d).1),bv (lg n d).2]) []):=by
 refine gS (nt:=20) (rs:=[.cell 4 71,.tmp 5]) hm Tryz.func234 fun hl he cI=>?_
 refine aC [] (fU n (-1000000000) 1000000000) ?_
 cases g1:within n (-1000000000) 1000000000
 ·refine sA ?_
  refine an ?_
  refine sA ?_
  all_goals(simp[lg,g1];done)
 ·refine sA ?_
  refine aC [] (fU d (-1000000000) 1000000000) ?_
  cases g2:within d (-1000000000) 1000000000
  ·refine sA ?_
   refine an ?_
   refine sA ?_
   all_goals(simp[lg,g1,g2];done)
  ·have h1:=dx.1 g1
   have h2:=dx.1 g2
   refine sA ?_
   refine aC [] (BU n d h1 h2) ?_
   refine an ?_
   refine sA ?_
   all_goals(simp[lg,g1,g2];done)
theorem HS(a b:Mod.Rat):C E.P 176 [av (eO a),av (eO b)] [] (bM (.jd [av (eO (qP a b).1),bv (qP a b).2]) []):=by
 refine gS (nt:=22) (rs:=[.cell 4 71,.tmp 5]) hm Tryz.func176 fun hl he cI=>?_
 refine aC [] (pS a b) ?_
 cases g1:(c8 a b).2
 ·refine sA ?_
  refine an ?_
  refine sA ?_
  all_goals(simp[qP,g1];done)
 ·refine sA ?_
  refine aC [] (tr (c8 a b).1 ⟨1,2⟩) ?_
  refine an ?_
  refine sA ?_
  all_goals(simp[qP,g1];done)
theorem vQ(n:Mod.Rat):C E.P 236 [av (eO n)] [] (bM (bv (!bV n)) []):=by
 refine gS (nt:=6) (rs:=[.tmp 2]) hm Tryz.func236 fun hl he cI=>?_
 refine aC [] (gI n) ?_
 refine an ?_
 exact sC
theorem qS(aE:List Mod.Rat):C E.P 178 [lv (br aE)] [] (bM (bv (qi aE)) []):=by
 refine gS (nt:=11) (rs:=[.tmp 2]) hm Tryz.func178 fun hl he cI=>?_
 rcases aa ((aE.length:Int)=4) with h|h
 ·have h':aE.length=4:=by omega
  have k:=eq_true h
  simp -implicitDefEqProofs only[go_sem,k]
  refine aC [] (rD 236 [] rfl (fun n=>!bV n) aE (fun n _=>vQ n)) ?_
  refine an ?_
  refine sA ?_
  all_goals(simp[qi,h',List.all_eq_not_any_not];done)
 ·have h':¬aE.length=4:=by omega
  simp -implicitDefEqProofs only[go_sem,h]
  refine an ?_
  refine sA ?_
  all_goals(simp[qi,h'];done)
theorem SP{aE:List Mod.Rat}(h:qi aE=true):aE.length=4:=by
 simp only[qi,ai,decide_eq_true_eq] at h
 exact h.1
theorem JS(l:ib)(aE:List Mod.Rat):C E.P 179 [av (eF l),lv (br aE)] [] (bM (.jd [bv ((mh l aE).getD false),bv (mh l aE).isSome]) []):=by
 refine gS (nt:=48) (rs:=[.tmp 4,.tmp 5]) hm Tryz.func179 fun hl he cI=>?_
 refine aC [] (gH l) ?_
 cases g1:dF l
 ·refine sA ?_
  refine an ?_
  refine sA ?_
  all_goals(simp[mh,g1];done)
 ·refine sA ?_
  refine aC [] (qS aE) ?_
  cases g2:qi aE
  ·refine sA ?_
   refine an ?_
   refine sA ?_
   all_goals(simp[mh,g1,g2];done)
  ·obtain⟨hn1,hc1,hb1⟩:=gq.1 g1
   have hv:=SP g2
   have e:mh l aE=(kL l.aG aE (whole 0)).map fun x=>below x l.bound l.strict:=by simp[mh,g1,g2]
   refine sA ?_
   refine aC [] (e9 0) ?_
   refine dm hm (fun(i:Nat) (sum:Mod.Rat)=> i≤l.aG.length∧kL l.aG aE (whole 0)=kL (l.aG.drop i) (aE.drop i) sum) (fun(i:Nat) (sum:Mod.Rat)=> ⟨dB 48 .any [(1,lv (br aE)),(2,.ptr 0 0),(6,.ptr 1 0),(21,lv (bG l.aG)),(22,iv l.aG.length),(23,iv i)],[some (.box (cF (eF l))),some (.box (cF (eO sum)))]⟩) (fun(i:Nat) (sum:Mod.Rat)=> l.aG.length-i) (0) (whole 0) ?_ (aw [some 0,some 1] ?_ ?_ rfl rfl) ?_
   rotate_left
   ·exact sC
   ·exact sC
   rotate_left
   ·simp
   ·rintro i sum ⟨hi,hg⟩
    rcases aa (i<l.aG.length) with h1|h1
    ·have h2:i<aE.length:=by omega
     rw[No h1 h2] at hg
     simp -implicitDefEqProofs only[go_sem,h1,h2]
     refine aC [] (wR sum l.aG[i] aE[i]) ?_
     refine iK ?_
     cases h3:(plus sum l.aG[i] aE[i]).2
     ·rw[h3] at hg
      simp only[ax,if_false] at hg
      rw[hg] at e
      refine sA ?_
      refine an ?_
      refine sA ?_
      all_goals(simp[e];done)
     ·rw[h3] at hg
      simp only[if_true] at hg
      refine sA ?_
      refine sQ ?_
      refine⟨i+1,(plus sum l.aG[i] aE[i]).1,?_,sL,aw [some 0,some 1] ?_ ?_ rfl rfl⟩
      rotate_left
      ·exact sC
      ·exact sC
      exact⟨by omega,hg⟩
    ·rw[al (by omega),GW] at hg
     rw[hg] at e
     simp -implicitDefEqProofs only[go_sem,h1]
     refine aC [] (AY sum l.bound l.strict) ?_
     refine an ?_
     refine sA ?_
     all_goals(simp[e];done)
theorem Ho(ls:List ib)(aE:List Mod.Rat):C E.P 107 [lv (db ls),lv (br aE)] [] (bM (bv (kV ls aE)) []):=by
 refine gS (nt:=36) (rs:=[.tmp 4]) hm Tryz.func107 fun hl he cI=>?_
 refine aC [] (nG ls) ?_
 cases g1:fG ls
 ·refine sA ?_
  refine an ?_
  refine sA ?_
  all_goals(simp[kV,g1];done)
 ·refine sA ?_
  refine aC [] (qS aE) ?_
  cases g2:qi aE
  ·refine sA ?_
   refine an ?_
   refine sA ?_
   all_goals(simp[kV,g1,g2];done)
  ·have e:kV ls aE=ls.all fun l=>decide (mh l aE=some true):=by simp[kV,g1,g2]
   refine sA ?_
   refine aO hm (fun(i:Nat)=> i≤ls.length∧kV ls aE=(ls.drop i).all fun l=>decide (mh l aE=some true)) (fun(i:Nat)=> ⟨dB 36 .any [(1,lv (br aE)),(17,lv (db ls)),(18,iv ls.length),(19,iv i)],[]⟩) (fun(i:Nat)=> ls.length-i) (0) ?_ (aw [] ?_ ?_ rfl rfl) ?_
   rotate_left
   ·exact sC
   ·exact sC
   rotate_left
   ·simp[e]
   ·rintro i ⟨hi,hg⟩
    rcases aa (i<ls.length) with h1|h1
    ·rw[aj h1,List.all_cons] at hg
     simp -implicitDefEqProofs only[go_sem,h1]
     refine aC [] (JS ls[i] aE) ?_
     cases h2:mh ls[i] aE with
     | none=>
       rw[h2] at hg
       simp -implicitDefEqProofs only[go_sem,aU,aZ]
       refine an ?_
       refine sA ?_
       all_goals(simp[hg];done)
     | some b=>
       rw[h2] at hg
       cases b
       ·simp -implicitDefEqProofs only[go_sem,aJ,aK]
        refine an ?_
        refine sA ?_
        all_goals(simp[hg];done)
       ·simp -implicitDefEqProofs only[go_sem,aJ,aK]
        refine sQ ?_
        refine⟨i+1,?_,sL,aw [] ?_ ?_ rfl rfl⟩
        rotate_left
        ·exact sC
        ·exact sC
        refine⟨by omega,?_⟩
        rw[hg];simp
    ·rw[al (by omega),List.all_nil] at hg
     simp -implicitDefEqProofs only[go_sem,h1]
     refine an ?_
     refine sA ?_
     all_goals(simp[hg];done)
def cUT(r:cz):List T:=[.leaf (.dP (bG r.jA.aG)),.leaf (.val (.int .i64 r.jA.bound)),.leaf (.val (.bool r.jA.strict)),.own 3 (zZ r.fI)]
def uT(l:List cz):List (List T):=l.map cUT
theorem PY:∀(l:List cz),cR (uT l)=some (dU l)
 | []=>rfl
 | s::l=>by
   have:=PY l
   simp only[uT,List.map_cons] at this⊢
   simp[cR,fT,T.FD,cUT,EM,this,dU,cU]
theorem P5(l:List cz):(uT l).length=l.length:=by simp[uT]
theorem Yy(l:List cz)(t:cz):uT l++[cUT t]=uT (l++[t]):=by simp[uT]
theorem X7(l:List cz):(cR (uT l)).isSome=true:=by rw[PY];rfl
attribute [go_sem] PY P5
theorem P6{n i:Nat}(h:i<n):(bG (aW n 0)).set i [.val (.int .i64 1)]=bG (sX n i):=by
 rw[sX,←BZ (by simpa using h)]
theorem GO{n i:Nat}(h:i<n):lift ((bG (aW n 0)).set i (sr (row (bG (aW n 0)) i) 0 [.val (.int .i64 1)]))=zZ (sX n i):=by
 have e:sr (row (bG (aW n 0)) i) 0 [.val (.int .i64 1)]=[D.val (.int .i64 1)]:=by
  rw[Cb (by simpa using h)]
  simp[sr]
 rw[e,P6 h,yY]
theorem Ep{ls:List ib}{i:Nat}(h:i<ls.length):uT ((bt i).map fun i=>⟨ls.getD i mC,sX ls.length i⟩)++[[.leaf (.dP (bG ls[i].aG)),.leaf (.val (.int .i64 ls[i].bound)),.leaf (.val (.bool ls[i].strict)),.own 3 (zZ (sX ls.length i))]]=uT ((bt i++[i]).map fun i=>⟨ls.getD i mC,sX ls.length i⟩):=by
 rw[List.map_append,List.map_singleton,getD_at h,←Yy]
 rfl
theorem DQ(ls:List ib)(hl:ls.length≤100):C E.P 101 [lv (db ls)] [] (bM (lv (dU (bH ls))) []):=by
 refine gS (nt:=28) (rs:=[.tmp 2]) hm Tryz.func101 fun hl he cI=>?_
 refine aO hm (fun(i:Nat)=> i≤ls.length) (fun(i:Nat)=> ⟨dB 28 .any [(0,lv (db ls)),(3,.acc 0),(7,lv (db ls)),(8,iv ls.length),(9,iv i)],[some (.fg 164 (uT ((bt i).map fun i=>⟨ls.getD i mC,sX ls.length i⟩)))]⟩) (fun(i:Nat)=> ls.length-i) (0) ?_ (aw [none] ?_ ?_ rfl rfl) ?_
 rotate_left
 ·exact sC
 ·refine sA ?_
  all_goals(rfl)
 rotate_left
 ·omega
 ·rintro i hi
  have hp:(uT ((bt i).map fun i=>(⟨ls.getD i mC,sX ls.length i⟩:cz))).length=i:=by rw[P5];simp
  rcases aa (i<ls.length) with h1|h1
  ·have hz:aW ls.length ([D.val (Value.int .i64 0)]:List D)=bG (aW ls.length 0):=by simp[bG]
   simp -implicitDefEqProofs only[go_sem,h1]
   refine sQ ?_
   simp -implicitDefEqProofs only[go_sem,hz]
   refine⟨i+1,?_,?_,Be 4 i _ rfl (by rw[List.length_append,hp];simp) (wC hp) ?_⟩
   rotate_left
   ·show _ < _
    omega
   ·refine sA ?_
    refine aw [some 4] ?_ ?_ rfl rfl
    ·exact sC
    ·refine sA ?_
     all_goals(rw[wo hp,GO h1];exact⟨Ep h1,(congrArg (fun z=>(cR z).isSome) (Ep h1)).trans (X7 _)⟩)
   exact h1
  ·simp -implicitDefEqProofs only[go_sem,h1]
   refine an ?_
   refine sA ?_
   obtain rfl:i=ls.length:=by omega
   exact⟨_,rfl,rfl⟩
theorem Hn(n v:Nat)(a b:cz)(ha:Ha n a)(hb:Ha n b)(hn:n≤100)(hv:v<4)(h1:0<bR a v)(h2:bR b v<0):C E.P 172 [av (cU a),av (cU b),iv v] [] (bM (.jd [av (cU (AF a b v)),bv (tC a b v)]) []):=by
 have ca:=ha.RU v
 have cb:=hb.RU v
 obtain⟨⟨hg1,hg2⟩,⟨hp1,hp2⟩,⟨hq1,hq2⟩⟩:=D3 ha hb h1 h2
 have la:v<a.jA.aG.length:=by rw[(gq.1 ha.jA).1];exact hv
 have lb:v<b.jA.aG.length:=by rw[(gq.1 hb.jA).1];exact hv
 have ea:a.jA.aG[v]=bR a v:=(getD_at la).symm
 have eb:b.jA.aG[v]=bR b v:=(getD_at lb).symm
 have hal:=ha.len
 have hbl:=hb.len
 have eg:(bJ (bR a v) (-(bR b v)):Int)=ug a b v:=rfl
 have ep:(bR a v).tdiv (ug a b v)=o0 a b v:=rfl
 have eq:(-(bR b v)).tdiv (ug a b v)=o3 a b v:=rfl
 have e1:AF a b v=⟨(dL a.jA (o3 a b v) b.jA (o0 a b v)).1,ql a b v⟩:=rfl
 have e2:tC a b v=((dL a.jA (o3 a b v) b.jA (o0 a b v)).2&&(ql a b v).all fun n=>decide (n≤1000000)):=rfl
 have e3:ql a b v=comb (o3 a b v) (o0 a b v) a.fI b.fI:=rfl
 generalize ug a b v=g at *
 generalize o0 a b v=p at *
 generalize o3 a b v=q at *
 refine gS (nt:=85) (rs:=[.cell 6 164,.tmp 7]) hm Tryz.func172 fun hl he cI=>?_
 simp -implicitDefEqProofs only[go_sem,la,lb,ea,eb]
 refine sQ ?_
 refine bQ [] (uP (bR a v) (-(bR b v)) (by omega) (by omega)) ?_ ?_<;>simp -implicitDefEqProofs only[go_sem,eg]
 refine sQ ?_
 simp -implicitDefEqProofs only[go_sem,ep,eq]
 refine aC [] (yh a.jA q b.jA p) ?_
 obtain⟨l,hl⟩:∃l,(dL a.jA q b.jA p).1=l:=⟨_,rfl⟩
 obtain⟨ok,eP⟩:∃l,(dL a.jA q b.jA p).2=l:=⟨_,rfl⟩
 rw[hl] at e1
 rw[eP] at e2
 simp -implicitDefEqProofs only[go_sem,hl,eP]
 refine dm hm (fun(i:Nat) (o:Bool)=> i≤n∧o=(ok&&(comb q p (a.fI.take i) (b.fI.take i)).all fun n=>decide (n≤1000000))) (fun(i:Nat) (o:Bool)=> ⟨dB 85 .any [(3,.ptr 0 0),(4,.ptr 1 0),(6,.ptr 2 0),(8,iv p),(9,iv q),(12,bv o),(13,.ptr 3 0),(52,iv n),(53,iv i)],[some (.box (cF (cU a))),some (.box (cF (cU b))),some (.box (cF (cU ⟨mC,[]⟩))),some (.box [lv (bG l.aG),iv l.bound,bv l.strict,.acc 4]),some (.acc 3 (bG (comb q p (a.fI.take i) (b.fI.take i))))]⟩) (fun(i:Nat) (o:Bool)=> n-i) (0) (ok) ?_ (aw [some 0,some 1,some 2,some 4,none] ?_ ?_ rfl rfl) ?_
 rotate_left
 ·refine sA ?_
  all_goals(simp[*])
 ·refine sA ?_
  all_goals(simp[comb, *])
 rotate_left
 ·simp[comb]
 ·rintro i o ⟨hi,ho⟩
  rcases aa (i<n) with h3|h3
  ·have h4:i<a.fI.length:=by omega
   have h5:i<b.fI.length:=by omega
   have b1:=ha.bd a.fI[i] (ak h4)
   have b2:=hb.bd b.fI[i] (ak h5)
   have m1:=dj (m:=q) (b:=a.fI[i]) (by omega) hq2 (by omega)
   have m2:=dj (m:=p) (b:=b.fI[i]) (by omega) hp2 (by omega)
   have dy:(comb q p (a.fI.take i) (b.fI.take i)).length≤100:=by rw[j5 (by simp;omega)];simp;omega
   have ho2:(ok&&(comb q p (a.fI.take (i+1)) (b.fI.take (i+1))).all fun n=>decide (n≤1000000))=(o&&decide (q*a.fI[i]+p*b.fI[i]≤1000000)):=by
    rw[ho,eW h4 h5,List.all_append,←Bool.and_assoc]
    simp
   cases o
   ·simp -implicitDefEqProofs only[go_sem,h3,h4,h5]
    refine sQ ?_
    refine⟨i+1,false,?_,sL,aw [some 0,some 1,some 2,some 3,some 5] ?_ ?_ rfl rfl⟩
    rotate_left
    ·exact sC
    ·refine sA ?_
     all_goals((rw[eW h4 h5,←eC];rfl))
    exact⟨h3,by rw[ho2];rfl⟩
   ·simp -implicitDefEqProofs only[go_sem,h3,h4,h5]
    refine sQ ?_
    refine⟨i+1,(decide (q*a.fI[i]+p*b.fI[i]≤1000000)),?_,sL,aw [some 0,some 1,some 2,some 3,some 5] ?_ ?_ rfl rfl⟩
    rotate_left
    ·exact sC
    ·refine sA ?_
     all_goals((rw[eW h4 h5,←eC];rfl))
    exact⟨h3,by rw[ho2];simp⟩
  ·have ta:a.fI.take i=a.fI:=ao (by omega)
   have tb:b.fI.take i=b.fI:=ao (by omega)
   rw[ta,tb,←e3] at ho⊢
   rw[←e2] at ho
   simp -implicitDefEqProofs only[go_sem,h3]
   refine an ?_
   refine sA ?_
   rw[e1,ho]
   repeat' apply ar
   all_goals rfl
theorem A5{n v:Nat}{r:cz}(h:Ha n r)(hv:v<4):∃h:v<r.jA.aG.length,r.jA.aG[v]=bR r v:=by
 have la:v<r.jA.aG.length:=by rw[(gq.1 h.jA).1];exact hv
 exact⟨la,(getD_at la).symm⟩
theorem tc(n v:Nat)(rows:List cz)(hr:wK n rows)(hn:n≤100)(hv:v<4):C E.P 102 [lv (dU rows),iv v] [] (bM (.jd [lv (dU ((gU rows v).getD [])),bv (gU rows v).isSome]) []):=by
 obtain⟨dy,lP⟩:=hr
 refine gS (nt:=85) (rs:=[.tmp 4,.tmp 5]) hm Tryz.func102 fun hl he cI=>?_
 refine aO hm (fun(i:Nat)=> i≤rows.length) (fun(i:Nat)=> ⟨dB 85 .any [(0,lv (dU rows)),(1,iv v),(6,.acc 0),(15,lv (dU rows)),(16,iv rows.length),(17,iv i)],[some (.acc 164 (dU ((rows.take i).filter fun r=>decide (bR r v=0))))]⟩) (fun(i:Nat)=> rows.length-i) (0) ?_ (aw [none] ?_ ?_ rfl rfl) ?_
 rotate_left
 ·exact sC
 ·refine sA ?_
  all_goals(rfl)
 rotate_left
 ·omega
 ·rintro i hi
  have hfl:((rows.take i).filter fun r=>decide (bR r v=0)).length≤200:=by
   have:=List.length_filter_le (fun r:cz=>decide (bR r v=0)) (rows.take i)
   rw[List.length_take] at this
   omega
  rcases aa (i<rows.length) with h1|h1
  ·obtain⟨la,ea⟩:=A5 (lP rows[i] (ak h1)) hv
   have hs:=CB (p:=fun r:cz=>decide (bR r v=0)) h1
   rcases aa (bR rows[i] v=0) with h2|h2
   ·have k2:=eq_true h2
    rw[if_pos (by simpa using h2)] at hs
    simp -implicitDefEqProofs only[go_sem,h1,la,ea,k2]
    refine sQ ?_
    refine⟨i+1,?_,sL,aw [some 2] ?_ ?_ rfl rfl⟩
    rotate_left
    ·exact sC
    ·refine sA ?_
     all_goals((rw[hs,←xQ,vp,tW];rfl))
    exact h1
   ·rw[if_neg (by simpa using h2),List.append_nil] at hs
    simp -implicitDefEqProofs only[go_sem,h1,la,ea,h2]
    refine sQ ?_
    refine⟨i+1,?_,sL,aw [some 0] ?_ ?_ rfl rfl⟩
    rotate_left
    ·exact sC
    ·refine sA ?_
     all_goals((rw[hs]))
    exact h1
  ·have et:rows.take i=rows:=ao (by omega)
   rw[et] at hfl⊢
   obtain⟨out0,ho0⟩:∃o,(rows.filter fun r=>decide (bR r v=0))=o:=⟨_,rfl⟩
   have hL:gU rows v=mJ v (o7 rows rows v) out0:=by rw[←ho0];rfl
   rw[ho0] at hfl⊢
   simp -implicitDefEqProofs only[go_sem,h1]
   clear hi h1
   refine dm hm (fun(i:Nat) (out:List cz)=> i≤rows.length∧out.length≤200∧gU rows v=mJ v (o7 rows (rows.drop i) v) out) (fun(i:Nat) (out:List cz)=> ⟨dB 85 .any [(0,lv (dU rows)),(1,iv v),(6,.acc 0),(33,lv (dU rows)),(34,iv rows.length),(35,iv i)],[some (.acc 164 (dU out))]⟩) (fun(i:Nat) (out:List cz)=> rows.length-i) (0) (out0) ?_ (aw [some 0] ?_ ?_ rfl rfl) ?_
   rotate_left
   ·exact sC
   ·exact sC
   rotate_left
   ·exact⟨bh _,hfl,hL⟩
   ·rintro i out ⟨hi,ho,hg⟩
    rcases aa (i<rows.length) with h1|h1
    ·have ua:=lP rows[i] (ak h1)
     rw[C4 h1] at hg
     obtain⟨a,ha⟩:∃a,rows[i]=a:=⟨_,rfl⟩
     rw[ha] at ua hg
     obtain⟨la,ea⟩:=A5 ua hv
     simp -implicitDefEqProofs only[go_sem,h1,ha]
     refine dm hm (fun(j:Nat) (out:List cz)=> j≤rows.length∧out.length≤200∧gU rows v=mJ v (o6 a v (rows.drop j)++o7 rows (rows.drop (i+1)) v) out) (fun(j:Nat) (out:List cz)=> ⟨dB 85 .any [(0,lv (dU rows)),(1,iv v),(6,.acc 0),(10,.ptr 1 0),(33,lv (dU rows)),(34,iv rows.length),(35,iv i),(39,lv (dU rows)),(40,iv rows.length),(41,iv j)],[some (.acc 164 (dU out)),some (.box (cF (cU a)))]⟩) (fun(j:Nat) (out:List cz)=> rows.length-j) (0) (out) ?_ (aw [some 0,some 1] ?_ ?_ rfl rfl) ?_
     rotate_left
     ·exact sC
     ·exact sC
     rotate_left
     ·exact⟨bh _,ho,hg⟩
     ·rintro j out ⟨hj,ho,hg⟩
      rcases aa (j<rows.length) with h3|h3
      ·have ub:=lP rows[j] (ak h3)
       rw[Dj h3] at hg
       obtain⟨b,hb⟩:∃b,rows[j]=b:=⟨_,rfl⟩
       rw[hb] at ub hg
       obtain⟨lb,eb⟩:=A5 ub hv
       rcases aa (bR a v≤0) with h4|h4
       ·rw[if_neg (by omega),bB] at hg
        simp -implicitDefEqProofs only[go_sem,h3,la,ea,h4,hb]
        refine sQ ?_
        refine⟨j+1,out,?_,sL,aw [some 0,some 1] ?_ ?_ rfl rfl⟩
        rotate_left
        ·exact sC
        ·exact sC
        exact⟨by omega,ho,hg⟩
       rcases aa (0≤bR b v) with h5|h5
       ·rw[if_neg (by omega),bB] at hg
        simp -implicitDefEqProofs only[go_sem,h3,la,ea,h4,hb,lb,eb,h5]
        refine sQ ?_
        refine⟨j+1,out,?_,sL,aw [some 0,some 1] ?_ ?_ rfl rfl⟩
        rotate_left
        ·exact sC
        ·exact sC
        exact⟨by omega,ho,hg⟩
       ·rw[if_pos (by omega)] at hg
        simp only[List.cons_append,bB,mJ] at hg
        simp -implicitDefEqProofs only[go_sem,h3,la,ea,h4,hb,lb,eb,h5]
        refine aC [] (Hn n v a b ua ub hn hv (by omega) (by omega)) ?_
        cases h6:tC a b v
        ·rw[if_neg (by rw[h6];simp)] at hg
         refine sA ?_
         refine an ?_
         refine sA ?_
         rw[hg]
         ((repeat' apply ar)<;>rfl)
        ·rcases aa ((out.length:Int)=200) with h7|h7
         ·have k7:=eq_true h7
          rw[if_neg (by omega)] at hg
          simp -implicitDefEqProofs only[go_sem,k7]
          refine an ?_
          refine sA ?_
          rw[hg]
          ((repeat' apply ar)<;>rfl)
         ·rw[if_pos ⟨h6,by omega⟩] at hg
          simp -implicitDefEqProofs only[go_sem,h7]
          refine sQ ?_
          refine⟨j+1,out++[AF a b v],?_,sL,aw [some 4,some 1] ?_ ?_ rfl rfl⟩
          rotate_left
          ·exact sC
          ·refine sA ?_
           all_goals((rw[←xQ,vp,tW];rfl))
          exact⟨by omega,by simp;omega,hg⟩
      ·rw[al (by omega:rows.length≤j)] at hg
       simp -implicitDefEqProofs only[go_sem,h3]
       refine sQ ?_
       refine⟨i+1,out,?_,sL,aw [some 0] ?_ ?_ rfl rfl⟩
       rotate_left
       ·exact sC
       ·exact sC
       exact⟨by omega,ho,by simpa[o6] using hg⟩
    ·rw[al (by omega)] at hg
     have ho':(out.length:Int)≤200:=by omega
     simp -implicitDefEqProofs only[go_sem,h1,ho']
     refine an ?_
     refine sA ?_
     rw[hg]
     ((repeat' apply ar)<;>rfl)
theorem ET(v:Nat)(l:ib)(aE:List Mod.Rat)(hl:dF l=true)(h4:aE.length=4)(hv:v<4):C E.P 174 [av (eF l),iv v,lv (br aE)] [] (bM (.jd [av (eO ((mZ l v aE).getD jF)),bv (mZ l v aE).isSome]) []):=by
 obtain⟨hn1,hc1,hb1⟩:=gq.1 hl
 have lv1:v<l.aG.length:=by omega
 have ev:l.aG.getD v 0=l.aG[v]:=getD_at lv1
 refine gS (nt:=62) (rs:=[.cell 6 71,.tmp 7]) hm Tryz.func174 fun hl he cI=>?_
 refine aC [] (e9 l.bound) ?_
 refine dm hm (fun(i:Nat) (sum:Mod.Rat)=> i≤l.aG.length∧qN v 0 l.aG aE (whole l.bound)=qN v i (l.aG.drop i) (aE.drop i) sum) (fun(i:Nat) (sum:Mod.Rat)=> ⟨dB 62 .any [(1,iv v),(2,lv (br aE)),(3,.ptr 0 0),(6,.ptr 1 0),(8,.ptr 2 0),(19,lv (bG l.aG)),(20,iv l.aG.length),(21,iv i)],[some (.box (cF (eF l))),some (.box (cF (eO jF))),some (.box (cF (eO sum)))]⟩) (fun(i:Nat) (sum:Mod.Rat)=> l.aG.length-i) (0) (whole l.bound) ?_ (aw [some 0,some 1,some 2] ?_ ?_ rfl rfl) ?_
 rotate_left
 ·exact sC
 ·exact sC
 rotate_left
 ·simp
 ·rintro i sum ⟨hi,hg⟩
  rcases aa (i<l.aG.length) with h1|h1
  ·have h2:i<aE.length:=by omega
   rw[Mc h1 h2] at hg
   rcases aa (i=v) with h3|h3
   ·have k3:((i:Int)=(v:Int))=True:=eq_true (by omega)
    rw[if_pos h3] at hg
    simp -implicitDefEqProofs only[go_sem,h1,k3]
    refine sQ ?_
    refine⟨i+1,sum,?_,sL,aw [some 0,some 1,some 2] ?_ ?_ rfl rfl⟩
    rotate_left
    ·exact sC
    ·exact sC
    exact⟨by omega,hg⟩
   ·have k3:¬ (i:Int)=(v:Int):=by omega
    have cb:=hc1 l.aG[i] (ak h1)
    rw[if_neg h3] at hg
    simp -implicitDefEqProofs only[go_sem,h1,h2,k3]
    refine sQ ?_
    refine aC [] (wR sum (-l.aG[i]) aE[i]) ?_
    refine iK ?_
    cases h5:(plus sum (-l.aG[i]) aE[i]).2
    ·rw[h5] at hg
     simp only[ax,if_false] at hg
     have e:mZ l v aE=none:=by simp[mZ,hg]
     refine sA ?_
     refine an ?_
     refine sA ?_
     all_goals(simp[e];done)
    ·rw[h5] at hg
     simp only[if_true] at hg
     refine sA ?_
     refine sQ ?_
     refine⟨i+1,(plus sum (-l.aG[i]) aE[i]).1,?_,sL,aw [some 0,some 1,some 2] ?_ ?_ rfl rfl⟩
     rotate_left
     ·exact sC
     ·exact sC
     exact⟨by omega,hg⟩
  ·rw[al (by omega),Po] at hg
   simp -implicitDefEqProofs only[go_sem,h1,lv1]
   refine aC [] (Kh 1 l.aG[v]) ?_
   cases h5:(lg 1 l.aG[v]).2
   ·have e:mZ l v aE=none:=by simp[mZ,hg,h5,lv1]
    refine sA ?_
    refine an ?_
    refine sA ?_
    all_goals(simp[e];done)
   ·have e:mZ l v aE=zx (cq sum (lg 1 l.aG[v]).1):=by simp[mZ,hg,h5,lv1]
    refine sA ?_
    refine aC [] (tr sum (lg 1 l.aG[v]).1) ?_
    obtain⟨o1,o2⟩:=Il (x:=cq sum (lg 1 l.aG[v]).1) CW
    refine an ?_
    refine sA ?_
    rw[e,o1,o2]
    ((repeat' apply ar)<;>rfl)
theorem oy(n v:Nat)(rows:List cz)(aE:List Mod.Rat)(hr:wK n rows)(h4:aE.length=4)(hv:v<4):C E.P 106 [lv (dU rows),iv v,lv (br aE)] [] (bM (.jd [av (eO ((valueOf rows v aE).getD jF)),bv (valueOf rows v aE).isSome]) []):=by
 obtain⟨dy,lP⟩:=hr
 refine gS (nt:=95) (rs:=[.cell 6 71,.tmp 7]) hm Tryz.func106 fun hl he cI=>?_
 refine kS hm (fun(i:Nat) (lo:Option Mod.Rat) (hi:Option Mod.Rat)=> i≤rows.length∧oN v aE rows none none=oN v aE (rows.drop i) lo hi) (fun(i:Nat) (lo:Option Mod.Rat) (hi:Option Mod.Rat)=> ⟨dB 95 .any [(1,iv v),(2,lv (br aE)),(6,.ptr 0 0),(8,.ptr 1 0),(9,.ptr 2 0),(10,bv lo.isSome),(11,bv hi.isSome),(17,lv (dU rows)),(18,iv rows.length),(19,iv i)],[some (.box (cF (eO jF))),some (.box (cF (eO (lo.getD jF)))),some (.box (cF (eO (hi.getD jF))))]⟩) (fun(i:Nat) (lo:Option Mod.Rat) (hi:Option Mod.Rat)=> rows.length-i) (0) (none) (none) ?_ (aw [some 0,some 1,some 2] ?_ ?_ rfl rfl) ?_
 rotate_left
 ·refine sA ?_
  all_goals(simp[*];done)
 ·refine sA ?_
  all_goals(simp[*];done)
 rotate_left
 ·simp
 ·rintro i lo hi ⟨hi1,hg⟩
  rcases aa (i<rows.length) with h1|h1
  ·have ua:=lP rows[i] (ak h1)
   obtain⟨la,ea⟩:=A5 ua hv
   rw[Me h1] at hg
   rcases aa (bR rows[i] v=0) with h2|h2
   ·have k2:=eq_true h2
    rw[if_pos h2] at hg
    simp -implicitDefEqProofs only[go_sem,h1,la,ea,k2]
    refine sQ ?_
    refine⟨i+1,lo,hi,?_,sL,aw [some 0,some 1,some 2] ?_ ?_ rfl rfl⟩
    rotate_left
    ·exact sC
    ·exact sC
    exact⟨by omega,hg⟩
   ·rw[if_neg h2] at hg
    simp -implicitDefEqProofs only[go_sem,h1,la,ea,h2]
    refine aC [] (ET v rows[i].jA aE ua.jA h4 hv) ?_
    cases hb:mZ rows[i].jA v aE with
    | none=>
      rw[hb] at hg
      simp only at hg
      have e:valueOf rows v aE=none:=by simp[valueOf,hg]
      simp -implicitDefEqProofs only[go_sem,aU,aZ]
      refine an ?_
      refine sA ?_
      all_goals(simp[e];done)
    | some b=>
      rw[hb] at hg
      simp only at hg
      rcases aa (0<bR rows[i] v) with h3|h3
      ·rw[if_pos h3] at hg
       have h3':¬bR rows[i] v<0:=by omega
       cases hi with
       | none=>
         rw[show lower b none=true from rfl,if_pos rfl] at hg
         simp -implicitDefEqProofs only[go_sem,aJ,aK,aU,aZ,h3]
         refine sQ ?_
         refine⟨i+1,lo,some b,?_,sL,aw [some 0,some 1,some 2] ?_ ?_ rfl rfl⟩
         rotate_left
         ·exact sC
         ·refine sA ?_
          all_goals(simp[*];done)
         exact⟨by omega,hg⟩
       | some h=>
         rw[show lower b (some h)=cS b h from rfl] at hg
         simp -implicitDefEqProofs only[go_sem,aJ,aK,h3]
         refine aC [] (kR b h) ?_
         cases h5:cS b h
         ·rw[h5,if_neg (by simp)] at hg
          simp -implicitDefEqProofs only[go_sem,h3']
          refine sQ ?_
          refine⟨i+1,lo,some h,?_,sL,aw [some 0,some 1,some 2] ?_ ?_ rfl rfl⟩
          rotate_left
          ·exact sC
          ·refine sA ?_
           all_goals(simp[*];done)
          exact⟨by omega,hg⟩
         ·rw[h5,if_pos rfl] at hg
          refine sA ?_
          refine sQ ?_
          refine⟨i+1,lo,some b,?_,sL,aw [some 0,some 1,some 2] ?_ ?_ rfl rfl⟩
          rotate_left
          ·exact sC
          ·refine sA ?_
           all_goals(simp[*];done)
          exact⟨by omega,hg⟩
      ·rw[if_neg h3] at hg
       have h3':bR rows[i] v<0:=by omega
       cases lo with
       | none=>
         rw[show upper b none=true from rfl,if_pos rfl] at hg
         simp -implicitDefEqProofs only[go_sem,aJ,aK,aU,aZ,h3,h3']
         refine sQ ?_
         refine⟨i+1,some b,hi,?_,sL,aw [some 0,some 1,some 2] ?_ ?_ rfl rfl⟩
         rotate_left
         ·exact sC
         ·refine sA ?_
          all_goals(simp[*];done)
         exact⟨by omega,hg⟩
       | some l=>
         rw[show upper b (some l)=cS l b from rfl] at hg
         simp -implicitDefEqProofs only[go_sem,aJ,aK,h3,h3']
         refine aC [] (kR l b) ?_
         cases h5:cS l b
         ·rw[h5,if_neg (by simp)] at hg
          refine sA ?_
          refine sQ ?_
          refine⟨i+1,some l,hi,?_,sL,aw [some 0,some 1,some 2] ?_ ?_ rfl rfl⟩
          rotate_left
          ·exact sC
          ·refine sA ?_
           all_goals(simp[*];done)
          exact⟨by omega,hg⟩
         ·rw[h5,if_pos rfl] at hg
          refine sA ?_
          refine sQ ?_
          refine⟨i+1,some b,hi,?_,sL,aw [some 0,some 1,some 2] ?_ ?_ rfl rfl⟩
          rotate_left
          ·exact sC
          ·refine sA ?_
           all_goals(simp[*];done)
          exact⟨by omega,hg⟩
  ·rw[al (by omega),oN] at hg
   have e:valueOf rows v aE=zx (kI lo hi):=by simp[valueOf,hg]
   obtain⟨o1,o2⟩:=Il (x:=kI lo hi) JQ
   rw[e,o1,o2]
   cases lo with
   | none=>
     cases hi with
     | none=>
       simp -implicitDefEqProofs only[go_sem,aU,aZ,h1]
       refine aC [] (e9 0) ?_
       refine an ?_
       refine sA ?_
       ((repeat' apply ar)<;>rfl)
     | some h=>
       simp -implicitDefEqProofs only[go_sem,aU,aZ,aJ,aK,h1]
       refine aC [] (e9 (-1)) ?_
       refine aC [] (pS h (whole (-1))) ?_
       refine iK ?_
       refine an ?_
       refine sA ?_
       ((repeat' apply ar)<;>rfl)
   | some l=>
     cases hi with
     | none=>
       simp -implicitDefEqProofs only[go_sem,aU,aZ,aJ,aK,h1]
       refine aC [] (e9 1) ?_
       refine aC [] (pS l (whole 1)) ?_
       refine iK ?_
       refine an ?_
       refine sA ?_
       ((repeat' apply ar)<;>rfl)
     | some h=>
       simp -implicitDefEqProofs only[go_sem,aJ,aK,h1]
       refine aC [] (HS l h) ?_
       refine an ?_
       refine sA ?_
       ((repeat' apply ar)<;>rfl)
structure St4 where
 rows:List cz
 s0:List cz
 s1:List cz
 s2:List cz
 s3:List cz
def aa7(ls:List ib)(z:Int)(t:St4):Prop:=
 (z=3∧t=⟨bH ls,[],[],[],[]⟩)∨(z=2∧∃r2,gU (bH ls) 3=some r2∧t=⟨r2,[],[],[],bH ls⟩) ∨
 (z=1∧∃r2 r1,gU (bH ls) 3=some r2∧gU r2 2=some r1∧t=⟨r1,[],[],r2,bH ls⟩) ∨
 (z=0∧∃r2 r1 r0,gU (bH ls) 3=some r2∧gU r2 2=some r1∧gU r1 1=some r0∧t=⟨r0,[],r1,r2,bH ls⟩) ∨
 (z = -1∧∃r2 r1 r0 r,gU (bH ls) 3=some r2∧gU r2 2=some r1∧gU r1 1=some r0∧gU r0 0=some r∧t=⟨r,r0,r1,r2,bH ls⟩)
theorem HD(ls:List ib):C E.P 44 [lv (db ls)] [] (bM (.jd [lv (br (bN ls).aE),lv (bG (bN ls).times),iv (bN ls).code]) []):=by
 cases hsys:fG ls
 ·have e:bN ls=⟨[],[],3⟩:=by simp[bN,hsys]
  refine gS (nt:=86) (rs:=[.tmp 2,.tmp 3,.tmp 4]) hm Tryz.func44 fun hl he cI=>?_
  refine aC [] (nG ls) ?_
  simp -implicitDefEqProofs only[go_sem,hsys]
  refine an ?_
  refine sA ?_
  rw[e]
  ((repeat' apply ar)<;>rfl)
 have h20:ls.length≤20:=by simp only[fG,ai,decide_eq_true_eq] at hsys;exact hsys.1
 have u3:=De hsys
 have cI:=jQ
 refine F0 (nt:=86) (rs:=[.tmp 2,.tmp 3,.tmp 4]) Tryz.func44 rfl rfl rfl rfl rfl (fun hl he=>?_)
 simp -implicitDefEqProofs only[go_sem] at hl he⊢
 refine ff (iQ hm ?_)
 simp -implicitDefEqProofs only[go_sem,dR,dK]
 refine ff (iQ hm ?_)
 refine sA ?_
 refine aC [] (nG ls) ?_
 simp -implicitDefEqProofs only[go_sem,hsys]
 refine ff (iQ hm ?_)
 refine sA ?_
 refine aC [] (DQ ls (by omega)) ?_
 refine ff (iQ hm ?_)
 refine sA ?_
 refine ff (iQ hm ?_)
 refine sA ?_
 refine dm hm (fun(z:Int) (t:St4)=> aa7 ls z t) (fun(z:Int) (t:St4)=> ⟨dB 86 .any [(0,lv (db ls)),(5,lv (dU t.rows)),(6,.ptr 0 0),(7,iv z)],[some (.box [lv (dU t.s0),lv (dU t.s1),lv (dU t.s2),lv (dU t.s3)])]⟩) (fun(z:Int) (t:St4)=> (z+1).toNat) (3) (⟨bH ls,[],[],[],[]⟩) ?_ (aw [some 0] ?_ ?_ rfl rfl) ?_
 rotate_left
 ·exact sC
 ·exact sC
 rotate_left
 ·exact .inl ⟨rfl,rfl⟩
 ·rintro z t hz
  rcases hz with⟨rfl,rfl⟩|⟨rfl,r2,g3,rfl⟩|⟨rfl,r2,r1,g3,g2,rfl⟩|⟨rfl,r2,r1,r0,g3,g2,g1,rfl⟩|⟨rfl,r2,r1,r0,rows,g3,g2,g1,g0,rfl⟩
  ·simp only
   have hu:=u3
   have cl:=tc ls.length 3 (bH ls) hu (by omega) (by omega)
   simp -implicitDefEqProofs only[go_sem,Z3,Z4]
   refine sQ ?_
   refine aC [] cl ?_
   cases hl:gU (bH ls) 3 with
   | none=>
     have e:bN ls=⟨[],[],2⟩:=by simp[bN, *]
     simp -implicitDefEqProofs only[go_sem,aU,aZ]
     refine eJ ?_
     refine an ?_
     refine sA ?_
     rw[e]
     ((repeat' apply ar)<;>rfl)
   | some r=>
     simp -implicitDefEqProofs only[go_sem,aJ,aK]
     refine sQ ?_
     refine⟨(2:Int),⟨r,[],[],[],bH ls⟩,?_,sL,aw [some 0] ?_ ?_ rfl rfl⟩
     rotate_left
     ·refine sA ?_
      all_goals(simp[*];done)
     ·exact sC
     exact .inr (.inl ⟨rfl,r,hl,rfl⟩)
  ·simp only
   have hu:=ke u3 g3
   have cl:=tc ls.length 2 r2 hu (by omega) (by omega)
   simp -implicitDefEqProofs only[go_sem,Z3,Z4]
   refine sQ ?_
   refine aC [] cl ?_
   cases hl:gU r2 2 with
   | none=>
     have e:bN ls=⟨[],[],2⟩:=by simp[bN, *]
     simp -implicitDefEqProofs only[go_sem,aU,aZ]
     refine eJ ?_
     refine an ?_
     refine sA ?_
     rw[e]
     ((repeat' apply ar)<;>rfl)
   | some r=>
     simp -implicitDefEqProofs only[go_sem,aJ,aK]
     refine sQ ?_
     refine⟨(1:Int),⟨r,[],[],r2,bH ls⟩,?_,sL,aw [some 0] ?_ ?_ rfl rfl⟩
     rotate_left
     ·refine sA ?_
      all_goals(simp[*];done)
     ·exact sC
     exact .inr (.inr (.inl ⟨rfl,r2,r,g3,hl,rfl⟩))
  ·simp only
   have hu:=ke (ke u3 g3) g2
   have cl:=tc ls.length 1 r1 hu (by omega) (by omega)
   simp -implicitDefEqProofs only[go_sem,Z3,Z4]
   refine sQ ?_
   refine aC [] cl ?_
   cases hl:gU r1 1 with
   | none=>
     have e:bN ls=⟨[],[],2⟩:=by simp[bN, *]
     simp -implicitDefEqProofs only[go_sem,aU,aZ]
     refine eJ ?_
     refine an ?_
     refine sA ?_
     rw[e]
     ((repeat' apply ar)<;>rfl)
   | some r=>
     simp -implicitDefEqProofs only[go_sem,aJ,aK]
     refine sQ ?_
     refine⟨(0:Int),⟨r,[],r1,r2,bH ls⟩,?_,sL,aw [some 0] ?_ ?_ rfl rfl⟩
     rotate_left
     ·refine sA ?_
      all_goals(simp[*];done)
     ·exact sC
     exact .inr (.inr (.inr (.inl ⟨rfl,r2,r1,r,g3,g2,hl,rfl⟩)))
  ·simp only
   have hu:=ke (ke (ke u3 g3) g2) g1
   have cl:=tc ls.length 0 r0 hu (by omega) (by omega)
   refine sA ?_
   refine aC [] cl ?_
   cases hl:gU r0 0 with
   | none=>
     have e:bN ls=⟨[],[],2⟩:=by simp[bN, *]
     simp -implicitDefEqProofs only[go_sem,aU,aZ]
     refine eJ ?_
     refine an ?_
     refine sA ?_
     rw[e]
     ((repeat' apply ar)<;>rfl)
   | some r=>
     simp -implicitDefEqProofs only[go_sem,aJ,aK]
     refine sQ ?_
     refine⟨(-1:Int),⟨r,r0,r1,r2,bH ls⟩,?_,sL,aw [some 0] ?_ ?_ rfl rfl⟩
     rotate_left
     ·refine sA ?_
      all_goals(simp[*];done)
     ·exact sC
     exact .inr (.inr (.inr (.inr ⟨rfl,r2,r1,r0,r,g3,g2,g1,hl,rfl⟩)))
  ·simp only
   have u2:=ke u3 g3
   have u1:=ke u2 g2
   have u0:=ke u1 g1
   have ur:=ke u0 g0
   have hrl:=ur.1
   have hF:bN ls=ie ls r0 r1 r2 (bH ls) rows:=by simp[bN,hsys,g3,g2,g1,g0]
   clear g3 g2 g1 g0
   simp -implicitDefEqProofs only[go_sem,Z3]
   refine ff (iQ hm ?_)
   refine sA ?_
   refine aO hm (fun(i:Nat)=> i≤rows.length∧(rows.find? fun r=>jJ r.jA)=(rows.drop i).find? fun r=>jJ r.jA) (fun(i:Nat)=> ⟨dB 86 .any [(0,lv (db ls)),(6,.ptr 0 0),(37,lv (dU rows)),(38,iv rows.length),(39,iv i)],[some (.box [lv (dU r0),lv (dU r1),lv (dU r2),lv (dU (bH ls))])]⟩) (fun(i:Nat)=> rows.length-i) (0) ?_ (aw [some 0] ?_ ?_ rfl rfl) ?_
   rotate_left
   ·exact sC
   ·exact sC
   rotate_left
   ·simp
   ·rintro i ⟨hi,mN⟩
    rcases aa (i<rows.length) with h1|h1
    ·have ua:=ur.2 rows[i] (ak h1)
     rw[aj h1,List.find?_cons] at mN
     simp -implicitDefEqProofs only[go_sem,h1]
     refine aC [] (yz rows[i].jA) ?_
     cases hb:jJ rows[i].jA
     ·rw[hb] at mN
      refine sA ?_
      refine sQ ?_
      refine⟨i+1,?_,sL,aw [some 0] ?_ ?_ rfl rfl⟩
      rotate_left
      ·exact sC
      ·exact sC
      exact⟨by omega,mN⟩
     ·rw[hb] at mN
      simp only at mN
      have hal:=ua.len
      refine sA ?_
      refine aC [] (K8 ls rows[i].fI) ?_
      cases hf:qU ls rows[i].fI
      ·have e:bN ls=⟨[],[],2⟩:=by rw[hF,ie,mN];simp[hf]
       refine sA ?_
       refine eJ ?_
       refine an ?_
       refine sA ?_
       rw[e]
       ((repeat' apply ar)<;>rfl)
      ·have e:bN ls=⟨[],rows[i].fI,1⟩:=by rw[hF,ie,mN];simp[hf]
       refine sA ?_
       refine aC [] (L3 rows[i].fI (by omega)) ?_
       refine eJ ?_
       refine an ?_
       refine sA ?_
       rw[e]
       ((repeat' apply ar)<;>rfl)
    ·rw[al (by omega),List.find?_nil] at mN
     simp -implicitDefEqProofs only[go_sem,h1]
     refine ff (oz ?_)
     refine iX rfl ?_
     refine aC [] (e9 0) ?_
     refine iX rfl ?_
     refine aC [] (e9 0) ?_
     refine iX rfl ?_
     refine aC [] (e9 0) ?_
     refine iX rfl ?_
     refine aC [] (e9 0) ?_
     refine iX rfl (fe (pg 69 71 4 1 _ _ _ (br nR) rfl rfl rfl rfl rfl (by simp -implicitDefEqProofs only[go_sem];rfl) (by decide) (by decide) rfl) ?_)
     refine sA ?_
     refine iX rfl (fj ?_)
     refine sA ?_
     refine uB ?_
     refine sA ?_
     refine ff (iQ hm ?_)
     refine sA ?_
     refine dm hm (fun(z:Int) (aE:List Mod.Rat)=> aE.length=4∧((z=0∧me [r0,r1,r2,bH ls] 0 nR=me [r0,r1,r2,bH ls] 0 aE)∨(z=1∧me [r0,r1,r2,bH ls] 0 nR=me [r1,r2,bH ls] 1 aE)∨(z=2∧me [r0,r1,r2,bH ls] 0 nR=me [r2,bH ls] 2 aE)∨(z=3∧me [r0,r1,r2,bH ls] 0 nR=me [bH ls] 3 aE)∨(z=4∧me [r0,r1,r2,bH ls] 0 nR=some aE))) (fun(z:Int) (aE:List Mod.Rat)=> ⟨dB 86 .any [(0,lv (db ls)),(6,.ptr 0 0),(12,.acc 1),(61,iv 4),(62,iv z)],[some (.box [lv (dU r0),lv (dU r1),lv (dU r2),lv (dU (bH ls))]),some (.acc 71 (br aE))]⟩) (fun(z:Int) (aE:List Mod.Rat)=> (4-z).toNat) (0) (nR) ?_ (aw [some 0,some 1] ?_ ?_ rfl rfl) ?_
     rotate_left
     ·refine sA ?_
      all_goals(rfl)
     ·exact sC
     rotate_left
     ·exact⟨rfl,.inl ⟨rfl,rfl⟩⟩
     ·rintro z aE ⟨hv4,hg⟩
      have hLv:(br aE).length=4:=by rw[xg];exact hv4
      rcases hg with⟨rfl,hg⟩|⟨rfl,hg⟩|⟨rfl,hg⟩|⟨rfl,hg⟩|⟨rfl,hg⟩
      ·have cv:=oy ls.length 0 r0 aE (by assumption) hv4 (by omega)
       simp -implicitDefEqProofs only[go_sem,Z2]
       refine dN [] [1] cv rfl ?_ ?_ ?_
       ·exact sV
       all_goals simp -implicitDefEqProofs only[go_sem]
       cases hx:valueOf r0 0 aE with
       | none=>
         rw[sS (st:=[r1,r2,bH ls]) hx] at hg
         have e:bN ls=⟨[],[],2⟩:=by rw[hF,ie,mN];simp only[hg]
         simp -implicitDefEqProofs only[go_sem,aU,aZ]
         refine eJ ?_
         refine an ?_
         refine sA ?_
         rw[e]
         ((repeat' apply ar)<;>rfl)
       | some x=>
         rw[sG (st:=[r1,r2,bH ls]) hx] at hg
         simp -implicitDefEqProofs only[go_sem,aJ,aK]
         refine sQ ?_
         refine⟨(1:Int),aE.set 0 x,?_,sL,aw [some 0,some 1] ?_ ?_ rfl rfl⟩
         rotate_left
         ·refine sA ?_
          all_goals(simp[*];done)
         ·refine sA ?_
          all_goals(exact qu (by omega))
         exact⟨by simpa using hv4,.inr (.inl ⟨rfl,hg⟩)⟩
      ·have cv:=oy ls.length 1 r1 aE (by assumption) hv4 (by omega)
       simp -implicitDefEqProofs only[go_sem,Z2,Z3,Z4]
       refine sQ ?_
       refine dN [] [1] cv rfl ?_ ?_ ?_
       ·exact sV
       all_goals simp -implicitDefEqProofs only[go_sem]
       cases hx:valueOf r1 1 aE with
       | none=>
         rw[sS (st:=[r2,bH ls]) hx] at hg
         have e:bN ls=⟨[],[],2⟩:=by rw[hF,ie,mN];simp only[hg]
         simp -implicitDefEqProofs only[go_sem,aU,aZ]
         refine eJ ?_
         refine an ?_
         refine sA ?_
         rw[e]
         ((repeat' apply ar)<;>rfl)
       | some x=>
         rw[sG (st:=[r2,bH ls]) hx] at hg
         simp -implicitDefEqProofs only[go_sem,Z3,Z4,aJ,aK]
         refine sQ ?_
         refine⟨(2:Int),aE.set 1 x,?_,sL,aw [some 0,some 1] ?_ ?_ rfl rfl⟩
         rotate_left
         ·refine sA ?_
          all_goals(simp[*];done)
         ·refine sA ?_
          all_goals(exact qu (by omega))
         exact⟨by simpa using hv4,.inr (.inr (.inl ⟨rfl,hg⟩))⟩
      ·have cv:=oy ls.length 2 r2 aE (by assumption) hv4 (by omega)
       simp -implicitDefEqProofs only[go_sem,Z2,Z3,Z4]
       refine sQ ?_
       refine dN [] [1] cv rfl ?_ ?_ ?_
       ·exact sV
       all_goals simp -implicitDefEqProofs only[go_sem]
       cases hx:valueOf r2 2 aE with
       | none=>
         rw[sS (st:=[bH ls]) hx] at hg
         have e:bN ls=⟨[],[],2⟩:=by rw[hF,ie,mN];simp only[hg]
         simp -implicitDefEqProofs only[go_sem,aU,aZ]
         refine eJ ?_
         refine an ?_
         refine sA ?_
         rw[e]
         ((repeat' apply ar)<;>rfl)
       | some x=>
         rw[sG (st:=[bH ls]) hx] at hg
         simp -implicitDefEqProofs only[go_sem,Z3,Z4,aJ,aK]
         refine sQ ?_
         refine⟨(3:Int),aE.set 2 x,?_,sL,aw [some 0,some 1] ?_ ?_ rfl rfl⟩
         rotate_left
         ·refine sA ?_
          all_goals(simp[*];done)
         ·refine sA ?_
          all_goals(exact qu (by omega))
         exact⟨by simpa using hv4,.inr (.inr (.inr (.inl ⟨rfl,hg⟩)))⟩
      ·have cv:=oy ls.length 3 (bH ls) aE (by assumption) hv4 (by omega)
       simp -implicitDefEqProofs only[go_sem,Z2,Z3,Z4]
       refine sQ ?_
       refine dN [] [1] cv rfl ?_ ?_ ?_
       ·exact sV
       all_goals simp -implicitDefEqProofs only[go_sem]
       cases hx:valueOf (bH ls) 3 aE with
       | none=>
         rw[sS (st:=[]) hx] at hg
         have e:bN ls=⟨[],[],2⟩:=by rw[hF,ie,mN];simp only[hg]
         simp -implicitDefEqProofs only[go_sem,aU,aZ]
         refine eJ ?_
         refine an ?_
         refine sA ?_
         rw[e]
         ((repeat' apply ar)<;>rfl)
       | some x=>
         rw[sG (st:=[]) hx] at hg
         simp -implicitDefEqProofs only[go_sem,Z3,Z4,aJ,aK]
         refine sQ ?_
         refine⟨(4:Int),aE.set 3 x,?_,sL,aw [some 0,some 1] ?_ ?_ rfl rfl⟩
         rotate_left
         ·refine sA ?_
          all_goals(simp[*];done)
         ·refine sA ?_
          all_goals(exact qu (by omega))
         exact⟨by simpa using hv4,.inr (.inr (.inr (.inr ⟨rfl,hg⟩)))⟩
      ·simp -implicitDefEqProofs only[go_sem,Z2]
       refine ff (iQ hm ?_)
       refine sA ?_
       refine dN [] [1] (Ho ls aE) rfl ?_ ?_ ?_
       ·exact sV
       all_goals simp -implicitDefEqProofs only[go_sem]
       cases hf:kV ls aE
       ·have e:bN ls=⟨[],[],2⟩:=by rw[hF,ie,mN];simp[hg,hf]
        refine sA ?_
        refine eJ ?_
        refine an ?_
        refine sA ?_
        rw[e]
        ((repeat' apply ar)<;>rfl)
       ·have e:bN ls=⟨aE,[],0⟩:=by rw[hF,ie,mN];simp[hg,hf]
        refine sA ?_
        refine iQ hm ?_
        refine sA ?_
        refine eJ ?_
        refine an ?_
        refine sA ?_
        rw[e]
        ((repeat' apply ar)<;>rfl)
end Go.Proofs.YtabembjmeobhoaaGreat
