/-
  The program: why two parts are one. A step towards the laws.
-/
import Derived.Test.YtabembjmeobhoaaGreatKBzg
import Derived.Test.YtabembjmeobhoaaGreatKBd
set_option linter.unusedVariables false
set_option linter.unusedSimpArgs false
open And renaming intro→ar
open Bool renaming true_and→aM,false_and→aS
open Classical renaming em→aa
open List renaming getElem?_eq_getElem→ah,drop_eq_getElem_cons→aj,getElem_mem→ak,drop_of_length_le→al,take_of_length_le→ao,getD_eq_getElem?_getD→az,range→bt,find?_cons→dA,drop→fm,find?_nil→jM
open Nat renaming le_refl→aI,zero_le→bh
namespace Go.Proofs.YtabembjmeobhoaaGreat
open Go.Eng Go.Mod
open Int renaming reduceEq→Z1,reduceLT→Z2,reduceLE→Z3,reduceToNat→Z4
set_option maxRecDepth 100000
set_option maxHeartbeats 3200000
section
variable(ae:List Term)(eqs:List iy)(c:List Nat)(af:List Step)
theorem I6(a:l9):gR [a]=[oX a]:=by rw[j7,lj]
theorem Ry(a b:l9):gR [a,b]=[oX a,oX b]:=by rw[j7,j7,lj]
theorem rQ(eP:lq ae eqs af)(hk:gQ ae)(oW:ae.length≤1000)(hk9:∀t∈ae,t.kids.length≤1000)(f:Nat)
 (ih:∀n a b,n<f→n≤af.length→a<ae.length→b<ae.length→cl (aV ae.length af n) a=cl (aV ae.length af n) b→C E.P 112 [.ptr 0 0,iv a,iv b,iv n] [some (.box [lv (aP ae),lv (bO c),lv (a7 af)])] (bM (av (oX (lf ae af f n a b))) [some (.box [lv (aP ae),lv (bO c),lv (a7 af)])]))
 (d:Mod.Edge) (hi:d.step<af.length) (hf:d.step<f):C E.P 182 [.ptr 0 0,av (yr d)] [some (.box [lv (aP ae),lv (bO c),lv (a7 af)])] (bM (av (oX (kH ae af (lf ae af f) d))) [some (.box [lv (aP ae),lv (bO c),lv (a7 af)])]):=by
 obtain⟨i,back⟩:=d
 simp only at hi hf
 have hs:=rY hi
 have hso:=ot eP hi
 have a0:=hso.a0
 have b0:=hso.b0
 have a1:=Fw eP hi
 have b1:=FH eP hi
 have eA:af[i].A=(vA af i:Int):=by rw[vA,hs];rw[hs] at a0;omega
 have eB:af[i].B=(vB af i:Int):=by rw[vB,hs];rw[hs] at b0;omega
 have XW:=hso.XW
 have hE:uH ae af (lf ae af f) i=if af[i].given<0 then .mk 5 0 (.mk (ae.getD (vA af i) aL).name []) (((ae.getD (vA af i) aL).kids.zip (ae.getD (vB af i) aL).kids).map fun p=>lf ae af f i (aH ae p.1) (aH ae p.2)) else .mk 2 af[i].given aL []:=by rw[uH,hs]
 have hed:=GN ae af (lf ae af f) ⟨i,back⟩
 simp only at hed
 rw[hs] at XW
 have cI:=jQ
 refine F0 (nt:=80) (rs:=[.cell 4 37]) Tryz.func182 rfl rfl rfl rfl rfl (fun hl he=>?_)
 simp -implicitDefEqProofs only[go_sem] at hl⊢
 refine iQ hm ?_
 rcases aa (af[i].given<0) with h0|h0
 ·rw[if_pos h0] at hE
  have hal:alike ae (aV ae.length af i) (vA af i) (vB af i)=true:=by
   rcases XW with h|⟨n,h,_⟩
   ·rw[vA,vB,hs];exact h.2
   ·omega
  obtain⟨q1,q2,q3,q4⟩:=LW hal
  have gA:ae.getD (vA af i) aL=ae[vA af i]:=by rw[az,ah a1];rfl
  have gB:ae.getD (vB af i) aL=ae[vB af i]:=by rw[az,ah b1];rfl
  have mA:=ak a1
  have mB:=ak b1
  obtain⟨x,hx⟩:∃x,ae[vA af i]=x:=⟨_,rfl⟩
  obtain⟨y,hy⟩:∃y,ae[vB af i]=y:=⟨_,rfl⟩
  rw[hx] at gA mA
  rw[hy] at gB mB
  rw[gA] at q1 q2 q3 q4 hE
  rw[gB] at q2 q3 q4 hE
  have kx:=hk _ mA
  have ky:=hk _ mB
  have kl:=hk9 _ mA
  simp -implicitDefEqProofs only[go_sem,hi,h0,eA,eB,a1,b1,hx,hy]
  refine iK ?_
  refine iK ?_
  refine aO hm (fun(k:Nat)=> k≤x.kids.length) (fun(k:Nat)=> ⟨dB 80 .any [(0,.ptr 0 0),(3,.ptr 1 0),(4,.ptr 2 0),(6,.ptr 3 0),(7,.ptr 4 0),(8,.ptr 5 0),(46,iv x.kids.length),(47,iv k)],[some (.box [lv (aP ae),lv (bO c),lv (a7 af)]),some (.box [iv i,bv back]),some (.box (cF (oX vO))),some (.box [iv 5,iv 0,sv x.name,lv [],.acc 6]),some (.box (cF (cT x))),some (.box (cF (cT y))),some (.acc 37 (gR (((x.kids.zip y.kids).take k).map fun p=>lf ae af f i (aH ae p.1) (aH ae p.2))))]⟩) (fun(k:Nat)=> x.kids.length-k) (0) ?_ (aw [some 0,some 1,some 2,some 4,some 5,some 6,none] ?_ ?_ rfl rfl) ?_
  rotate_left
  ·exact sC
  ·exact sC
  rotate_left
  ·omega
  ·rintro k hk1
   have hzl:(((x.kids.zip y.kids).take k).map fun p=>lf ae af f i (aH ae p.1) (aH ae p.2)).length≤1000:=by simp;omega
   rcases aa (k<x.kids.length) with h1|h1
   ·have h2:k<y.kids.length:=by omega
    have mx:=kx _ (ak h1)
    have my:=ky _ (ak h2)
    have px:=bx mx
    have py:=bx my
    have cx:=b7 mx
    have cy:=b7 my
    have hc:=ih i (aH ae x.kids[k]) (aH ae y.kids[k]) hf (by omega) px py (q4 k h1 h2)
    have hz:=LK (f:=fun p=>lf ae af f i (aH ae p.1) (aH ae p.2)) h1 h2
    have ca:=Cd ae c af x.kids[k]
    have cb:=Cd ae c af y.kids[k]
    rw[cx] at ca
    rw[cy] at cb
    simp -implicitDefEqProofs only[go_sem,h1]
    refine dN [] [0] ca rfl ?_ ?_ ?_
    ·exact sV
    all_goals simp -implicitDefEqProofs only[go_sem,h2]
    refine dN [] [0] cb rfl ?_ ?_ ?_
    ·exact sV
    all_goals simp -implicitDefEqProofs only[go_sem]
    refine oC [] [0] hc ?_
    refine sQ ?_
    refine⟨k+1,?_,sL,aw [some 0,some 1,some 2,some 3,some 4,some 5,some 7] ?_ ?_ rfl rfl⟩
    rotate_left
    ·exact sC
    ·refine sA ?_
     all_goals((rw[hz,←C7,j7,lj];rfl))
    exact h1
   ·have et:(x.kids.zip y.kids).take k=x.kids.zip y.kids:=ao (by simp;omega)
    rw[et]
    cases back
    ·rw[if_neg (by simp),hE] at hed
     simp -implicitDefEqProofs only[go_sem,h1,dR]
     refine eJ ?_
     refine bX [some 0] ?_ rfl rfl
     refine sA ?_
     rw[hed]
     ((repeat' apply ar)<;>rfl)
    ·rw[if_pos rfl,hE] at hed
     simp -implicitDefEqProofs only[go_sem,h1,dR]
     refine⟨_,zR.ND (u5 7 0 _ rfl (by simp) (show ow _ 0=[T.leaf (D.val (Value.int IntKind.i64 5)),T.leaf (D.val (Value.int IntKind.i64 0)),T.leaf (D.str x.name),T.leaf (D.dP []),T.ref 6] from rfl)),?_⟩
     refine sA ?_
     refine bX [some 0] ?_ rfl rfl
     refine sA ?_
     rw[hed]
     ((repeat' apply ar)<;>first|rfl|exact⟨_,(by simp only[List.set_cons_zero,cR,fT,T.FD,mT];try rfl),I6 _⟩)
 ·rw[if_neg h0] at hE
  cases back
  ·rw[if_neg (by simp),hE] at hed
   simp -implicitDefEqProofs only[go_sem,hi,h0,dR]
   refine iK ?_
   refine eJ ?_
   refine bX [some 0] ?_ rfl rfl
   refine sA ?_
   rw[hed]
   ((repeat' apply ar)<;>rfl)
  ·rw[if_pos rfl,hE] at hed
   simp -implicitDefEqProofs only[go_sem,hi,h0,dR]
   refine iK ?_
   refine eJ ?_
   refine bX [some 0] ?_ rfl rfl
   refine sA ?_
   rw[hed]
   ((repeat' apply ar)<;>first|rfl|exact(I6 _).symm)
theorem GS(eP:lq ae eqs af)(hk:gQ ae)(oW:ae.length≤1000)(hk9:∀t∈ae,t.kids.length≤1000)(hs9:af.length≤2000000):∀(f n a b:Nat),n<f→n≤af.length→a<ae.length→b<ae.length→cl (aV ae.length af n) a=cl (aV ae.length af n) b →
 C E.P 112 [.ptr 0 0,iv a,iv b,iv n] [some (.box [lv (aP ae),lv (bO c),lv (a7 af)])] (bM (av (oX (lf ae af f n a b))) [some (.box [lv (aP ae),lv (bO c),lv (a7 af)])]):=by
 intro f
 induction f with
 | zero=>intro n a b h;omega
 | succ f ih=>
 intro n a b hnf hn ha hb hab
 obtain⟨w1,w2,w3⟩:=rE eP hn ha hb hab
 have cw:=Yq ae eqs c af eP oW hs9 n a b hn ha hb hab
 have ga:ae.getD a aL=ae[a]:=by rw[az,ah ha];rfl
 obtain⟨way,hw⟩:∃w,lO ae.length af n a b=w:=⟨_,rfl⟩
 have hF:=Ro ae af f n a b
 rw[hw] at hF w1 w3 cw
 have hwl:way.length≤1000:=by
  have h1:=j8 w3 (fun v hv=>by
   simp only[gO,List.mem_cons,List.mem_map] at hv
   rcases hv with rfl|⟨e,he,rfl⟩
   ·exact ha
   ·exact xO eP (by have:=w1 e he;omega))
  simp[gO] at h1
  omega
 refine gS (nt:=50) (rs:=[.cell 8 37]) hm Tryz.func112 fun hl he cI=>?_
 refine oC [] [0] cw ?_
 rcases Nat.eq_zero_or_pos way.length with hz|hz
 ·obtain rfl:=List.length_eq_zero_iff.1 hz
  rw[Qp] at hF
  simp -implicitDefEqProofs only[go_sem,ha]
  refine aC [] (jX ae[a]) ?_
  refine bX [some 0] ?_ rfl rfl
  refine sA ?_
  rw[hF,ga]
  ((repeat' apply ar)<;>rfl)
 ·have jv:¬ (way.length:Int)=0:=by omega
  have hz':(0:Int)<(way.length:Int):=by omega
  have ju:=w1 _ (ak hz)
  have hco:=rQ ae eqs c af eP hk oW hk9 f ih way[0] (by omega) (by omega)
  have f1:(1:Int)≤(way.length:Int)∧∀y∈di way,y.length=2:=⟨by omega,Km _⟩
  obtain⟨ss,hss⟩:∃ss,way.drop 1=ss:=⟨_,rfl⟩
  have hsl:List.take (way.length-1) (fm 1 (di way))=di ss:=by
   rw[←hss,ao (by simp[di])]
   simp[di]
  have hsn:ss.length=way.length-1:=by rw[←hss,List.length_drop]
  have hln:min (way.length-1) (fm 1 (di way)).length=ss.length:=by rw[hsn];simp[di]
  have ki:∀d∈ss,d.step<n:=fun d hd=>w1 d (by rw[←hss] at hd;exact List.mem_of_mem_drop hd)
  have hF2:=hF
  rw[wP hz,hss] at hF2
  simp -implicitDefEqProofs only[go_sem,jv,hz]
  refine gp [] [0] hco ?_ ?_<;>simp -implicitDefEqProofs only[go_sem,Z3,Z4]
  refine sQ ?_
  simp -implicitDefEqProofs only[go_sem,hsl,hln]
  refine dm hm (fun(i:Nat) (w:l9)=> i≤ss.length∧lf ae af (f+1) n a b=ox (kH ae af (lf ae af f)) w (ss.drop i)) (fun(i:Nat) (w:l9)=> ⟨dB 50 .any [(0,.ptr 0 0),(8,.ptr 1 0),(10,.ptr 2 0),(36,lv (di ss)),(37,iv ss.length),(38,iv i)],[some (.box [lv (aP ae),lv (bO c),lv (a7 af)]),some (.box (cF (oX vO))),some (.box (cF (oX w)))]⟩) (fun(i:Nat) (w:l9)=> ss.length-i) (0) (kH ae af (lf ae af f) way[0]) ?_ (aw [some 0,some 1,some 2] ?_ ?_ rfl rfl) ?_
  rotate_left
  ·exact sC
  ·exact sC
  rotate_left
  ·exact⟨bh _,hF2⟩
  ·rintro i w ⟨hi,hg⟩
   rcases aa (i<ss.length) with h1|h1
   ·have hd:=ki _ (ak h1)
    have hco2:=rQ ae eqs c af eP hk oW hk9 f ih ss[i] (by omega) (by omega)
    rw[aj h1,ox] at hg
    simp -implicitDefEqProofs only[go_sem,h1]
    refine oC [] [0] hco2 ?_
    refine iK ?_
    refine sQ ?_
    refine⟨i+1,.mk 4 0 aL [w,kH ae af (lf ae af f) ss[i]],?_,sL,aw [some 0,some 1,some 2] ?_ ?_ rfl rfl⟩
    rotate_left
    ·exact sC
    ·refine sA ?_
     all_goals(exact⟨rfl,rfl,rfl,rfl,(Ry _ _).symm⟩)
    exact⟨by omega,hg⟩
   ·rw[al (by omega),ox] at hg
    simp -implicitDefEqProofs only[go_sem,h1]
    refine bX [some 0] ?_ rfl rfl
    refine sA ?_
    rw[hg]
    ((repeat' apply ar)<;>rfl)
theorem tP(eP:lq ae eqs af)(hk:gQ ae)(oW:ae.length≤1000)(hk9:∀t∈ae,t.kids.length≤1000)(hs9:af.length≤2000000)(x y:Term)(hx:x∈ae)(hy:y∈ae)(hxy:cl (aV ae.length af af.length) (aH ae x)=cl (aV ae.length af af.length) (aH ae y)) :
 C E.P 53 [.ptr 0 0,av (cT x),av (cT y)] [some (.box [lv (aP ae),lv (bO c),lv (a7 af)])] (bM (av (oX (Mod.lX ae af x y))) [some (.box [lv (aP ae),lv (bO c),lv (a7 af)])]):=by
 have hc:=GS ae eqs c af eP hk oW hk9 hs9 (af.length+1) af.length (aH ae x) (aH ae y) (by omega) (aI _) (bx hx) (bx hy) hxy
 have ca:=Cd ae c af x
 have cb:=Cd ae c af y
 rw[b7 hx] at ca
 rw[b7 hy] at cb
 refine gS (nt:=20) (rs:=[.cell 6 37]) hm Tryz.func53 fun hl he cI=>?_
 refine dN [] [0] ca rfl ?_ ?_ ?_
 ·exact sV
 all_goals simp -implicitDefEqProofs only[go_sem]
 refine dN [] [0] cb rfl ?_ ?_ ?_
 ·exact sV
 all_goals simp -implicitDefEqProofs only[go_sem]
 refine oC [] [0] hc ?_
 refine iK ?_
 refine bX [some 0] ?_ rfl rfl
 refine sA ?_
 ((repeat' apply ar)<;>rfl)
end
def mG(s:dE)(au nums:List Term):List D:=[.dP (hX s.syms),.dP (aP au),.dP (aP nums)]
attribute [go_sem] mG
theorem KY(s:dE)(au nums:List Term)(eqs:List iy)(h4:nums.length≤4)(he9:eqs.length≤1000):C E.P 46 [.ptr 0 0,lv (gP eqs)] [some (.box (cF (mG s au nums)))] (bM (lv (bO (j9 nums eqs))) [some (.box (cF (mG s au nums)))]):=by
 refine gS (nt:=82) (rs:=[.tmp 4]) hm Tryz.func46 fun hl he cI=>?_
 refine sQ ?_
 refine dm hm (fun(i:Nat) (c:List Nat)=> i≤nums.length∧c.length=nums.length∧c.take i=bt i) (fun(i:Nat) (c:List Nat)=> ⟨dB 82 .any [(0,.ptr 0 0),(1,lv (gP eqs)),(5,.acc 1),(22,iv nums.length),(23,iv i)],[some (.box (cF (mG s au nums))),some (.acc 3 (bO c))]⟩) (fun(i:Nat) (c:List Nat)=> nums.length-i) (0) (List.replicate nums.length 0) ?_ (aw [some 0,some 1] ?_ ?_ rfl rfl) ?_
 rotate_left
 ·refine sA ?_
  all_goals((simp[]))
 ·refine sA ?_
  all_goals((simp[bO]))
 rotate_left
 ·exact⟨bh _,by simp,rfl⟩
 ·rintro i c ⟨hi,hc,ht⟩
  rcases aa (i<nums.length) with h1|h1
  ·have h1':i<c.length:=by omega
   have hp:=tS (l:=c) (i:=i) (n:=i) h1'
   rw[pF h1'] at hp
   simp -implicitDefEqProofs only[go_sem,h1,h1']
   refine sQ ?_
   refine⟨i+1,c.set i i,?_,sL,aw [some 0,some 1] ?_ ?_ rfl rfl⟩
   rotate_left
   ·exact sC
   ·refine sA ?_
    all_goals(exact hp)
   refine⟨by omega,by simpa using hc,?_⟩
   rw[List.range_succ,←ht,List.take_add_one,List.take_set_of_le (aI _)]
   simp[h1']
  ·obtain rfl:i=nums.length:=by omega
   have e:c=bt nums.length:=by
    rw[←ht,ao (by omega)]
   rw[e]
   simp -implicitDefEqProofs only[go_sem,h1]
   clear hi hc ht h1 e c
   refine dm hm (fun(n:Nat) (c:List Nat)=> n≤eqs.length∧c.length=nums.length∧j9 nums eqs=(eqs.drop n).foldl (eU nums) c) (fun(n:Nat) (c:List Nat)=> ⟨dB 82 .any [(0,.ptr 0 0),(5,.acc 1),(31,lv (gP eqs)),(32,iv eqs.length),(33,iv n)],[some (.box (cF (mG s au nums))),some (.acc 3 (bO c))]⟩) (fun(n:Nat) (c:List Nat)=> eqs.length-n) (0) (bt nums.length) ?_ (aw [some 0,some 1] ?_ ?_ rfl rfl) ?_
   rotate_left
   ·exact sC
   ·exact sC
   rotate_left
   ·exact⟨bh _,by simp,rfl⟩
   ·rintro n c ⟨hn,hc,hg⟩
    rcases aa (n<eqs.length) with h1|h1
    ·rw[aj h1,List.foldl_cons] at hg
     rcases aa (eqs[n].A∈nums) with hA|hA
     ·rcases aa (eqs[n].B∈nums) with hB|hB
      ·have pA:=bx hA
       have pB:=bx hB
       have cA:=b7 hA
       have cB:=b7 hB
       have ca:=eE nums eqs[n].A
       have cb:=eE nums eqs[n].B
       rw[cA] at ca
       rw[cB] at cb
       have es:eU nums c eqs[n]=c.map fun k=>if k=cl c (aH nums eqs[n].A) then cl c (aH nums eqs[n].B) else k:=by rw[eU,if_neg (by omega)]
       have dy:=u7 nums c eqs[n]
       rw[es] at hg dy
       generalize aH nums eqs[n].A=a at *
       generalize aH nums eqs[n].B=b at *
       have pA':a<c.length:=by omega
       have pB':b<c.length:=by omega
       have eA:c[a]=cl c a:=(gL pA').symm
       have eB:c[b]=cl c b:=(gL pB').symm
       have nA:¬ (a:Int)<0:=by omega
       have nB:¬ (b:Int)<0:=by omega
       obtain⟨f,hf⟩:∃f,cl c a=f:=⟨_,rfl⟩
       obtain⟨t,ht⟩:∃t,cl c b=t:=⟨_,rfl⟩
       rw[hf] at eA hg dy
       rw[ht] at eB hg dy
       have hend:∀i,c.length≤i→fB c f t i=c.map fun k=>if k=f then t else k:=fun i hi=>by
        unfold fB
        rw[ao hi,al hi,List.append_nil]
       simp -implicitDefEqProofs only[go_sem,h1]
       refine aC [] ca ?_
       refine aC [] cb ?_
       refine iK ?_
       simp -implicitDefEqProofs only[go_sem,nA,nB,pA',pB',eA,eB]
       refine iK ?_
       refine aO hm (fun(i:Nat)=> i≤c.length) (fun(i:Nat)=> ⟨dB 82 .any [(0,.ptr 0 0),(5,.acc 1),(11,iv f),(12,iv t),(31,lv (gP eqs)),(32,iv eqs.length),(33,iv n),(65,.acc 1),(66,iv c.length),(67,iv i)],[some (.box (cF (mG s au nums))),some (.acc 3 (bO (fB c f t i)))]⟩) (fun(i:Nat)=> c.length-i) (0) ?_ (aw [some 0,some 1] ?_ ?_ rfl rfl) ?_
       rotate_left
       ·exact sC
       ·refine sA ?_
        all_goals((simp[fB]))
       rotate_left
       ·omega
       ·rintro i hi
        have hjl:=rR c f t i
        rcases aa (i<c.length) with h2|h2
        ·have h2':i<(fB c f t i).length:=by omega
         have eg:=rV (f:=f) (t:=t) h2 h2'
         rcases aa (c[i]=f) with h3|h3
         ·have k3:=eq_true h3
          have hp:=tS (l:=fB c f t i) (i:=i) (n:=t) h2'
          have hnx:=qg (f:=f) (t:=t) h2
          rw[if_pos h3] at hnx
          rw[pF h2',eg] at hp
          simp -implicitDefEqProofs only[go_sem,hjl,h2,eg,k3]
          refine sQ ?_
          refine⟨i+1,?_,sL,aw [some 0,some 1] ?_ ?_ rfl rfl⟩
          rotate_left
          ·exact sC
          ·refine sA ?_
           all_goals((rw[hp,hnx]))
          exact h2
         ·have hnx:=tn (f:=f) (t:=t) h2 h3
          simp -implicitDefEqProofs only[go_sem,hjl,h2,eg,h3]
          refine sQ ?_
          refine⟨i+1,?_,sL,aw [some 0,some 1] ?_ ?_ rfl rfl⟩
          rotate_left
          ·exact sC
          ·refine sA ?_
           all_goals((rw[hnx]))
          exact h2
        ·rw[hend i (by omega)] at hjl⊢
         simp -implicitDefEqProofs only[go_sem,h2]
         refine sQ ?_
         refine⟨n+1,(c.map fun k=>if k=f then t else k),?_,sL,aw [some 0,some 1] ?_ ?_ rfl rfl⟩
         rotate_left
         ·exact sC
         ·exact sC
         exact⟨by omega,by simpa using hc,hg⟩
      ·have h3:bL nums eqs[n].B<0:=by
        have:=(not_congr cK).2 hB
        omega
       have cA:=b7 hA
       have nA:¬bL nums eqs[n].A<0:=by omega
       have es:eU nums c eqs[n]=c:=by rw[eU,if_pos (.inr h3)]
       rw[es] at hg
       simp -implicitDefEqProofs only[go_sem,h1]
       refine aC [] (eE nums eqs[n].A) ?_
       refine aC [] (eE nums eqs[n].B) ?_
       refine iK ?_
       simp -implicitDefEqProofs only[go_sem,nA,h3]
       refine sQ ?_
       refine⟨n+1,c,?_,sL,aw [some 0,some 1] ?_ ?_ rfl rfl⟩
       rotate_left
       ·exact sC
       ·exact sC
       exact⟨by omega,hc,hg⟩
     ·have h3:bL nums eqs[n].A<0:=by
       have:=(not_congr cK).2 hA
       omega
      have es:eU nums c eqs[n]=c:=by rw[eU,if_pos (.inl h3)]
      rw[es] at hg
      simp -implicitDefEqProofs only[go_sem,h1]
      refine aC [] (eE nums eqs[n].A) ?_
      refine aC [] (eE nums eqs[n].B) ?_
      refine iK ?_
      simp -implicitDefEqProofs only[go_sem,h3]
      refine sQ ?_
      refine⟨n+1,c,?_,sL,aw [some 0,some 1] ?_ ?_ rfl rfl⟩
      rotate_left
      ·exact sC
      ·exact sC
      exact⟨by omega,hc,hg⟩
    ·rw[al (by omega),List.foldl_nil] at hg
     simp -implicitDefEqProofs only[go_sem,h1]
     refine bX [some 0] ?_ rfl rfl
     refine sA ?_
     rw[hg]
     ((repeat' apply ar)<;>rfl)
theorem Kp(s:dE)(au nums:List Term)(eqs:List iy)(ab:List bp)(hk:gQ au)(ki:∀e∈eqs,e.A∈au∧e.B∈au)(oW:au.length≤1000)(hk9:∀t∈au,t.kids.length≤1000)(hlk:∀l∈ab,l.atom.kind=1→l.atom.A∈au∧l.atom.B∈au) :
 C E.P 43 [.ptr 0 0,lv (a6 ab),.ptr 1 0] [some (.box (cF (mG s au nums))),some (.box [lv (aP au),lv (bO (closed au eqs).1),lv (a7 (closed au eqs).2)])]
   (bM (.jd [av (tX (match kf (iZ au (closed au eqs).1) ab with|none=>s7|some n=>.mk 1 n (Mod.lX au (closed au eqs).2 (ab.getD n Dq).atom.A (ab.getD n Dq).atom.B) [] aL aL [])),bv (kf (iZ au (closed au eqs).1) ab).isSome]) [some (.box (cF (mG s au nums))),some (.box [lv (aP au),lv (bO (closed au eqs).1),lv (a7 (closed au eqs).2)])]):=by
 have hkept:=mu (ae:=au) (eqs:=eqs) ki
 have hc:=Mr hkept
 have hsl:(closed au eqs).2.length≤2000000:=by
  have h1:=vh hkept (closed au eqs).2.length (aI _)
  have h2:(bt au.length).sum≤(bt au.length).length*1000:=pw fun x hx=>by have:=List.mem_range.1 hx;omega
  have h3:(bt au.length).length*1000≤1000*1000:=Nat.mul_le_mul_right _ (by simpa using oW)
  omega
 have hex:∀x y,x∈au→y∈au→fS au (closed au eqs).1 x y=true→C E.P 53 [.ptr 0 0,av (cT x),av (cT y)] [some (.box [lv (aP au),lv (bO (closed au eqs).1),lv (a7 (closed au eqs).2)])] (bM (av (oX (Mod.lX au (closed au eqs).2 x y))) [some (.box [lv (aP au),lv (bO (closed au eqs).1),lv (a7 (closed au eqs).2)])]):=fun x y hx hy hxy=>by
  refine tP au eqs (closed au eqs).1 (closed au eqs).2 hkept.1 hk oW hk9 hsl x y hx hy ?_
  rw[←hkept.2]
  simpa[fS] using hxy
 obtain⟨c,ec⟩:∃c,(closed au eqs).1=c:=⟨_,rfl⟩
 obtain⟨af,es⟩:∃x,(closed au eqs).2=x:=⟨_,rfl⟩
 rw[ec] at hc hex⊢
 rw[es] at hex⊢
 obtain⟨R,hR⟩:∃R,kf (iZ au c) ab=R:=⟨_,rfl⟩
 rw[hR]
 refine gS (nt:=60) (rs:=[.cell 6 41,.tmp 7]) hm Tryz.func43 fun hl he cI=>?_
 refine aO hm (fun(i:Nat)=> i≤ab.length∧R=vo (iZ au c) ab i) (fun(i:Nat)=> ⟨dB 60 .any [(2,.ptr 1 0),(6,.ptr 2 0),(11,lv (a6 ab)),(12,iv ab.length),(13,iv i)],[some (.box (cF (mG s au nums))),some (.box [lv (aP au),lv (bO c),lv (a7 af)]),some (.box (cF (tX s7)))]⟩) (fun(i:Nat)=> ab.length-i) (0) ?_ (aw [some 0,some 1,some 2] ?_ ?_ rfl rfl) ?_
 rotate_left
 ·exact sC
 ·refine sA ?_
  all_goals(((repeat' apply ar)<;>rfl))
 rotate_left
 ·exact⟨bh _,by rw[←hR];exact GP _ _⟩
 ·rintro i ⟨hi,hg⟩
  rcases aa (i<ab.length) with h1|h1
  ·rw[CA h1] at hg
   have hl:=hlk _ (ak h1)
   have ecl:iZ au c ab[i]=(ab[i].no&&(decide (ab[i].atom.kind=1)&&fS au c ab[i].atom.A ab[i].atom.B)):=rfl
   cases h2:ab[i].no
   ·rw[ecl,h2,aS,if_neg (by simp)] at hg
    simp -implicitDefEqProofs only[go_sem,h1,h2]
    refine iK ?_
    refine sQ ?_
    refine⟨i+1,?_,sL,aw [some 0,some 1,some 2] ?_ ?_ rfl rfl⟩
    rotate_left
    ·exact sC
    ·exact sC
    exact⟨by omega,hg⟩
   ·rcases aa (ab[i].atom.kind=1) with h3|h3
    ·have k3:=eq_true h3
     obtain⟨hA,hB⟩:=hl h3
     have hgd:ab.getD i Dq=ab[i]:=getD_at h1
     rw[ecl,h2,decide_eq_true h3,aM,aM] at hg
     have pA:=bx hA
     have pB:=bx hB
     have pA':aH au ab[i].atom.A<c.length:=by omega
     have pB':aH au ab[i].atom.B<c.length:=by omega
     have eA:c[aH au ab[i].atom.A]=cl c (aH au ab[i].atom.A):=(gL pA').symm
     have eB:c[aH au ab[i].atom.B]=cl c (aH au ab[i].atom.B):=(gL pB').symm
     have ca:=Cd au c af ab[i].atom.A
     have cb:=Cd au c af ab[i].atom.B
     rw[b7 hA] at ca
     rw[b7 hB] at cb
     simp -implicitDefEqProofs only[go_sem,h1,h2,k3]
     refine dN [] [1] ca rfl ?_ ?_ ?_
     ·exact sV
     all_goals simp -implicitDefEqProofs only[go_sem,pA',eA]
     refine dN [] [1] cb rfl ?_ ?_ ?_
     ·exact sV
     all_goals simp -implicitDefEqProofs only[go_sem,pB',eB]
     refine iK ?_
     rcases aa (cl c (aH au ab[i].atom.A)=cl c (aH au ab[i].atom.B)) with h4|h4
     ·have hsm:fS au c ab[i].atom.A ab[i].atom.B=true:=decide_eq_true h4
      have k4:=eq_true h4
      have hx:=hex _ _ hA hB hsm
      rw[hsm,if_pos rfl] at hg
      simp -implicitDefEqProofs only[go_sem,k4]
      refine oC [] [1] hx ?_
      refine bX [some 0,some 1] ?_ rfl rfl
      refine sA ?_
      rw[hg]
      simp only[hgd]
      ((repeat' apply ar)<;>rfl)
     ·have hsm:fS au c ab[i].atom.A ab[i].atom.B=false:=decide_eq_false h4
      rw[hsm,if_neg (by simp)] at hg
      simp -implicitDefEqProofs only[go_sem,h4]
      refine sQ ?_
      refine⟨i+1,?_,sL,aw [some 0,some 1,some 2] ?_ ?_ rfl rfl⟩
      rotate_left
      ·exact sC
      ·exact sC
      exact⟨by omega,hg⟩
    ·rw[ecl,h2,decide_eq_false h3,aM,aS,if_neg (by simp)] at hg
     simp -implicitDefEqProofs only[go_sem,h1,h2,h3]
     refine iK ?_
     refine sQ ?_
     refine⟨i+1,?_,sL,aw [some 0,some 1,some 2] ?_ ?_ rfl rfl⟩
     rotate_left
     ·exact sC
     ·exact sC
     exact⟨by omega,hg⟩
  ·rw[GG (by omega)] at hg
   simp -implicitDefEqProofs only[go_sem,h1]
   refine bX [some 0,some 1] ?_ rfl rfl
   refine sA ?_
   rw[hg]
   ((repeat' apply ar)<;>rfl)
theorem DA(f:Nat)(cap:List PV)(jO:tI 0 cap=true)(p:bp→Bool)(xs:List bp)(hf:∀x∈xs,C E.P f (av (np x)::cap) [] (bM (bv (p x)) [])) :
 C E.P 183 [lv (a6 xs),.fn f cap] [] (bM (iv (idxOf p xs)) []):=by
 refine gS (nt:=19) (rs:=[.tmp 4]) hm Tryz.func183 fun hl he cI=>?_
 refine aO hm (fun(i:Nat)=> i≤xs.length∧idxOf p xs=fX p (xs.drop i) i) (fun(i:Nat)=> ⟨dB 19 .any [(0,lv (a6 xs)),(1,.fn f cap),(7,iv xs.length),(8,iv i)],[]⟩) (fun(i:Nat)=> xs.length-i) (0) ?_ (aw [] ?_ ?_ rfl rfl) ?_
 rotate_left
 ·refine sA ?_
  all_goals(simp[aq, *];done)
 ·exact sC
 rotate_left
 ·simp[idxOf]
 ·rintro i ⟨hi,hg⟩
  rcases aa (i<xs.length) with h1|h1
  ·rw[aj h1,fX] at hg
   simp -implicitDefEqProofs only[go_sem,h1]
   have hc:=hf xs[i] (ak h1)
   refine bQ cap hc ?_ ?_<;>simp -implicitDefEqProofs only[go_sem,jO]
   cases h2:p xs[i]
   ·rw[h2] at hg
    simp only[Bool.false_eq_true,if_false] at hg
    refine sA ?_
    refine⟨by omega,?_⟩
    refine⟨i+1,?_,sL,aw [] ?_ ?_ rfl rfl⟩
    rotate_left
    ·refine sA ?_
     all_goals(simp[aq, *];done)
    ·exact sC
    exact⟨by omega,hg⟩
   ·rw[h2] at hg
    simp only[if_true] at hg
    refine sA ?_
    refine an ?_
    refine sA ?_
    all_goals(simp[hg];done)
  ·rw[al (by omega),fX] at hg
   simp -implicitDefEqProofs only[go_sem,h1]
   refine an ?_
   refine sA ?_
   all_goals(simp[hg];done)
theorem zj(f:Nat)(cap:List PV)(jO:tI 0 cap=true)(p:bp→Bool)(xs:List bp)(hf:∀x∈xs,C E.P f (av (np x)::cap) [] (bM (bv (p x)) [])) :
 C E.P 114 [lv (a6 xs),.fn f cap] [] (bM (bv (xs.any p)) []):=by
 refine gS (nt:=9) (rs:=[.tmp 4]) hm Tryz.func114 fun hl he cI=>?_
 refine bQ [] (DA f cap jO p xs hf) ?_ ?_<;>simp -implicitDefEqProofs only[go_sem,jO]
 refine an ?_
 refine sA ?_
 all_goals(simp[AX];done)
theorem CH{au nums:List Term}{c:List Nat}{ab:List bp}{i k:Nat}:dY true au nums c ab i k=(!Mod.linked nums ab i k&&fS au c (nums.getD i aL) (nums.getD k aL)):=rfl
theorem Kk{au nums:List Term}{c:List Nat}{ab:List bp}{i k:Nat}:dY false au nums c ab i k=(!Mod.linked nums ab i k&&(!eM nums ab i k&& !eM nums ab k i)):=rfl
theorem SM(l less:bp):C E.P 115 [av (np l),.gm [np less] 0 0] [] (bM (bv (!l.no&&decide (l.atom=less.atom))) []):=by
 have hco:=Dn l.atom less.atom
 refine gS (nt:=14) (rs:=[.tmp 3]) hm Tryz.func115 fun hl he cI=>?_
 cases h:l.no
 ·refine sA ?_
  refine aC [] hco ?_
  refine an ?_
  simp -implicitDefEqProofs only[go_sem]
  all_goals((repeat' apply ar)<;>rfl)
 ·refine sA ?_
  refine an ?_
  simp -implicitDefEqProofs only[go_sem]
  all_goals((repeat' apply ar)<;>rfl)
theorem NF(s:dE)(au nums:List Term)(ab:List bp)(i k:Nat)(hi:i<nums.length)(hk:k<nums.length)(hnt:∀t∈nums,isTerm t=true):C E.P 55 [.gm [mG s au nums] 0 0,lv (a6 ab),iv i,iv k] [] (bM (bv (eM nums ab i k)) []):=by
 have ga:nums.getD i aL=nums[i]:=eX hi
 have gb:nums.getD k aL=nums[k]:=eX hk
 have hls:=r8 nums[i] nums[k] (hnt _ (ak hi)) (hnt _ (ak hk))
 have ju:eM nums ab i k=ab.any fun l=>!l.no&&decide (l.atom=(dz nums[i] nums[k]).atom):=by rw[←ga,←gb];rfl
 rw[ju]
 generalize dz nums[i] nums[k]=less at hls
 refine gS (nt:=28) (rs:=[.tmp 8]) hm Tryz.func55 fun hl he cI=>?_
 simp -implicitDefEqProofs only[go_sem,hi,hk]
 refine aC [] hls ?_
 refine iK ?_
 refine dN [] [0] (zj 115 [.gm [np less] 0 0] rfl (fun l=>!l.no&&decide (l.atom=less.atom)) ab (fun l _=>SM l less)) rfl ?_ ?_ ?_
 ·exact sV
 all_goals simp -implicitDefEqProofs only[go_sem]
 refine an ?_
 simp -implicitDefEqProofs only[go_sem]
 all_goals((repeat' apply ar)<;>rfl)
section
variable(s:dE)(au nums:List Term)(c ls:List Nat)(af:List Step)(ab:List bp)
theorem Y2(i k:Nat)(hi:i<nums.length)(hk:k<nums.length)(mq:∀t∈nums,t∈au)(hc:c.length=au.length):C E.P 47 [iv i,iv k,.ptr 0 0,.ptr 1 0] [some (.box [.ptr 2 0]),some (.box [.ptr 3 0]),some (.box [lv (aP au),lv (bO c),lv (a7 af)]),some (.box (cF (mG s au nums)))] (bM (bv (fS au c nums[i] nums[k])) [some (.box [.ptr 2 0]),some (.box [.ptr 3 0]),some (.box [lv (aP au),lv (bO c),lv (a7 af)]),some (.box (cF (mG s au nums)))]):=by
 have hA:=mq _ (ak hi)
 have hB:=mq _ (ak hk)
 have pA:=bx hA
 have pB:=bx hB
 have pA':aH au nums[i]<c.length:=by omega
 have pB':aH au nums[k]<c.length:=by omega
 have eA:c[aH au nums[i]]=cl c (aH au nums[i]):=(gL pA').symm
 have eB:c[aH au nums[k]]=cl c (aH au nums[k]):=(gL pB').symm
 have ca:=Cd au c af nums[i]
 have cb:=Cd au c af nums[k]
 rw[b7 hA] at ca
 rw[b7 hB] at cb
 refine gS (nt:=38) (rs:=[.tmp 6]) hm Tryz.func47 fun hl he cI=>?_
 simp -implicitDefEqProofs only[go_sem,hi]
 refine dN [] [2] ca rfl ?_ ?_ ?_
 ·exact sV
 all_goals simp -implicitDefEqProofs only[go_sem,pA',eA,hk]
 refine dN [] [2] cb rfl ?_ ?_ ?_
 ·exact sV
 all_goals simp -implicitDefEqProofs only[go_sem,pB',eB]
 refine iK ?_
 refine bX [some 0,some 1,some 2,some 3] ?_ rfl rfl
 refine sA ?_
 all_goals((repeat' apply ar)<;>rfl)
theorem Y3(i k:Nat)(hi:i<nums.length)(hk:k<nums.length)(mq:∀t∈nums,t∈au)(hc:c.length=au.length)(hll:ls.length=nums.length):C E.P 50 [iv i,iv k,.ptr 0 0,.ptr 1 0] [some (.box [lv (bO ls)]),some (.box [.fn 47 [.ptr 2 0,.ptr 3 0]]),some (.box [.ptr 4 0]),some (.box [.ptr 5 0]),some (.box [lv (aP au),lv (bO c),lv (a7 af)]),some (.box (cF (mG s au nums)))] (bM (bv (!decide (cl ls i=cl ls k)&&fS au c nums[i] nums[k])) [some (.box [lv (bO ls)]),some (.box [.fn 47 [.ptr 2 0,.ptr 3 0]]),some (.box [.ptr 4 0]),some (.box [.ptr 5 0]),some (.box [lv (aP au),lv (bO c),lv (a7 af)]),some (.box (cF (mG s au nums)))]):=by
 have hi':i<ls.length:=by omega
 have hk':k<ls.length:=by omega
 have ei:ls[i]=cl ls i:=(gL hi').symm
 have ek:ls[k]=cl ls k:=(gL hk').symm
 have hco:=Y2 s au nums c af i k hi hk mq hc
 refine gS (nt:=22) (rs:=[.tmp 6]) hm Tryz.func50 fun hl he cI=>?_
 rcases aa (cl ls i=cl ls k) with h|h
 ·have kk:=eq_true h
  simp -implicitDefEqProofs only[go_sem,hi',hk',ei,ek,kk]
  refine iK ?_
  refine bX [some 0,some 1,some 2,some 3,some 4,some 5] ?_ rfl rfl
  simp -implicitDefEqProofs only[go_sem]
  all_goals rw[decide_eq_true h]
  all_goals((repeat' apply ar)<;>rfl)
 ·simp -implicitDefEqProofs only[go_sem,hi',hk',ei,ek,h]
  refine gp [.ptr 2 0,.ptr 3 0] [2,3,4,5] hco ?_ ?_
  ·refine sA ?_
   first|rfl|((repeat' apply ar)<;>rfl)
  refine sA ?_
  refine iK ?_
  refine bX [some 0,some 1,some 2,some 3,some 4,some 5] ?_ rfl rfl
  simp -implicitDefEqProofs only[go_sem]
  all_goals rw[decide_eq_false h]
  all_goals((repeat' apply ar)<;>rfl)
theorem YM(i k:Nat)(hi:i<nums.length)(hk:k<nums.length)(hnt:∀t∈nums,isTerm t=true)(hll:ls.length=nums.length):C E.P 54 [iv i,iv k,.ptr 0 0,.ptr 1 0,.ptr 2 0] [some (.box [lv (bO ls)]),some (.box [.ptr 3 0]),some (.box [lv (a6 ab)]),some (.box (cF (mG s au nums)))] (bM (bv (!decide (cl ls i=cl ls k)&&(!eM nums ab i k&& !eM nums ab k i))) [some (.box [lv (bO ls)]),some (.box [.ptr 3 0]),some (.box [lv (a6 ab)]),some (.box (cF (mG s au nums)))]):=by
 have hi':i<ls.length:=by omega
 have hk':k<ls.length:=by omega
 have ei:ls[i]=cl ls i:=(gL hi').symm
 have ek:ls[k]=cl ls k:=(gL hk').symm
 have c1:=NF s au nums ab i k hi hk hnt
 have c2:=NF s au nums ab k i hk hi hnt
 refine gS (nt:=33) (rs:=[.tmp 7]) hm Tryz.func54 fun hl he cI=>?_
 rcases aa (cl ls i=cl ls k) with h|h
 ·have kk:=eq_true h
  simp -implicitDefEqProofs only[go_sem,hi',hk',ei,ek,kk]
  refine iK ?_
  refine bX [some 0,some 1,some 2,some 3] ?_ rfl rfl
  simp -implicitDefEqProofs only[go_sem]
  all_goals rw[decide_eq_true h]
  all_goals((repeat' apply ar)<;>rfl)
 ·simp -implicitDefEqProofs only[go_sem,hi',hk',ei,ek,h]
  refine dN [] [3] c1 rfl ?_ ?_ ?_
  ·exact sV
  all_goals simp -implicitDefEqProofs only[go_sem]
  cases h2:eM nums ab i k
  ·refine sA ?_
   refine dN [] [3] c2 rfl ?_ ?_ ?_
   ·exact sV
   all_goals simp -implicitDefEqProofs only[go_sem]
   refine iK ?_
   refine bX [some 0,some 1,some 2,some 3] ?_ rfl rfl
   simp -implicitDefEqProofs only[go_sem]
   all_goals rw[decide_eq_false h]
   all_goals((repeat' apply ar)<;>rfl)
  ·refine sA ?_
   refine iK ?_
   refine bX [some 0,some 1,some 2,some 3] ?_ rfl rfl
   simp -implicitDefEqProofs only[go_sem]
   all_goals rw[decide_eq_false h]
   all_goals((repeat' apply ar)<;>rfl)
theorem Vi(mq:∀t∈nums,t∈au)(hc:c.length=au.length)(h4:nums.length≤4):C E.P 49 [.ptr 5 0,.fn 50 [.ptr 0 0,.ptr 1 0]] [some (.box [lv (bO (j9 nums (bc ab)))]),some (.box [.fn 47 [.ptr 2 0,.ptr 3 0]]),some (.box [.ptr 4 0]),some (.box [.ptr 5 0]),some (.box [lv (aP au),lv (bO c),lv (a7 af)]),some (.box (cF (mG s au nums)))] (bM (.jd [iv (((b6 nums.length (dY true au nums c ab)).getD (0,0)).1:Nat),iv (((b6 nums.length (dY true au nums c ab)).getD (0,0)).2:Nat),bv (b6 nums.length (dY true au nums c ab)).isSome]) [some (.box [lv (bO (j9 nums (bc ab)))]),some (.box [.fn 47 [.ptr 2 0,.ptr 3 0]]),some (.box [.ptr 4 0]),some (.box [.ptr 5 0]),some (.box [lv (aP au),lv (bO c),lv (a7 af)]),some (.box (cF (mG s au nums)))]):=by
 have hll:(j9 nums (bc ab)).length=nums.length:=rr _ _
 obtain⟨fp,hfp⟩:∃f,b6 nums.length (dY true au nums c ab)=f:=⟨_,rfl⟩
 rw[hfp]
 refine gS (nt:=35) (rs:=[.tmp 4,.tmp 5,.tmp 6]) hm Tryz.func49 fun hl he cI=>?_
 refine aO hm (fun(i:Nat)=> i≤nums.length∧fp=(dD i nums.length).find? (fun q=>dY true au nums c ab q.1 q.2)) (fun(i:Nat)=> ⟨dB 35 .any [(0,.ptr 5 0),(1,.fn 50 [.ptr 0 0,.ptr 1 0]),(13,iv nums.length),(14,iv i)],[some (.box [lv (bO (j9 nums (bc ab)))]),some (.box [.fn 47 [.ptr 2 0,.ptr 3 0]]),some (.box [.ptr 4 0]),some (.box [.ptr 5 0]),some (.box [lv (aP au),lv (bO c),lv (a7 af)]),some (.box (cF (mG s au nums)))]⟩) (fun(i:Nat)=> nums.length-i) (0) ?_ (aw [some 0,some 1,some 2,some 3,some 4,some 5] ?_ ?_ rfl rfl) ?_
 rotate_left
 ·exact sC
 ·exact sC
 rotate_left
 ·exact⟨bh _,hfp.symm⟩
 ·rintro i ⟨hi,hg⟩
  rcases aa (i<nums.length) with h1|h1
  ·rw[nF h1] at hg
   simp -implicitDefEqProofs only[go_sem,h1]
   refine sQ ?_
   refine aO hm (fun(k:Nat)=> i<k∧k≤nums.length∧fp=(lS i k nums.length).find? (fun q=>dY true au nums c ab q.1 q.2)) (fun(k:Nat)=> ⟨dB 35 .any [(0,.ptr 5 0),(1,.fn 50 [.ptr 0 0,.ptr 1 0]),(7,iv i),(8,iv k),(13,iv nums.length),(14,iv i)],[some (.box [lv (bO (j9 nums (bc ab)))]),some (.box [.fn 47 [.ptr 2 0,.ptr 3 0]]),some (.box [.ptr 4 0]),some (.box [.ptr 5 0]),some (.box [lv (aP au),lv (bO c),lv (a7 af)]),some (.box (cF (mG s au nums)))]⟩) (fun(k:Nat)=> nums.length-k) (i+1) ?_ (aw [some 0,some 1,some 2,some 3,some 4,some 5] ?_ ?_ rfl rfl) ?_
   rotate_left
   ·exact sC
   ·exact sC
   rotate_left
   ·exact⟨by omega,by omega,hg⟩
   ·rintro k ⟨hik,hk,hg⟩
    rcases aa (k<nums.length) with h2|h2
    ·have hco:=Y3 s au nums c (j9 nums (bc ab)) af i k h1 h2 mq hc hll
     have ga:nums.getD i aL=nums[i]:=eX h1
     have gb:nums.getD k aL=nums[k]:=eX h2
     have eo:dY true au nums c ab i k=(!decide (cl (j9 nums (bc ab)) i=cl (j9 nums (bc ab)) k)&&fS au c nums[i] nums[k]):=by rw[CH,ga,gb];rfl
     obtain⟨bb,hbb⟩:∃b,(!decide (cl (j9 nums (bc ab)) i=cl (j9 nums (bc ab)) k)&&fS au c nums[i] nums[k])=b:=⟨_,rfl⟩
     rw[hbb] at eo hco
     rw[oO h2,dA] at hg
     simp only[eo] at hg
     simp -implicitDefEqProofs only[go_sem,h2]
     refine gp [.ptr 0 0,.ptr 1 0] [0,1,2,3,4,5] hco ?_ ?_
     ·refine sA ?_
      first|rfl|((repeat' apply ar)<;>rfl)
     refine sA ?_
     cases h3:bb
     ·rw[h3] at hg
      refine sA ?_
      refine sQ ?_
      refine⟨k+1,?_,sL,aw [some 0,some 1,some 2,some 3,some 4,some 5] ?_ ?_ rfl rfl⟩
      rotate_left
      ·exact sC
      ·exact sC
      exact⟨by omega,by omega,hg⟩
     ·rw[h3] at hg
      simp only at hg
      refine sA ?_
      refine bX [some 0,some 1,some 2,some 3,some 4,some 5] ?_ rfl rfl
      refine sA ?_
      rw[hg]
      all_goals((repeat' apply ar)<;>rfl)
    ·rw[qb (by omega)] at hg
     simp -implicitDefEqProofs only[go_sem,h2]
     refine sQ ?_
     refine⟨i+1,?_,sL,aw [some 0,some 1,some 2,some 3,some 4,some 5] ?_ ?_ rfl rfl⟩
     rotate_left
     ·exact sC
     ·exact sC
     exact⟨by omega,hg⟩
  ·rw[oE (by omega),jM] at hg
   simp -implicitDefEqProofs only[go_sem,h1]
   refine bX [some 0,some 1,some 2,some 3,some 4,some 5] ?_ rfl rfl
   refine sA ?_
   rw[hg]
   all_goals((repeat' apply ar)<;>rfl)
theorem V2(hnt:∀t∈nums,isTerm t=true)(h4:nums.length≤4):C E.P 49 [.ptr 3 0,.fn 54 [.ptr 0 0,.ptr 1 0,.ptr 2 0]] [some (.box [lv (bO (j9 nums (bc ab)))]),some (.box [.ptr 3 0]),some (.box [lv (a6 ab)]),some (.box (cF (mG s au nums)))] (bM (.jd [iv (((b6 nums.length (dY false au nums c ab)).getD (0,0)).1:Nat),iv (((b6 nums.length (dY false au nums c ab)).getD (0,0)).2:Nat),bv (b6 nums.length (dY false au nums c ab)).isSome]) [some (.box [lv (bO (j9 nums (bc ab)))]),some (.box [.ptr 3 0]),some (.box [lv (a6 ab)]),some (.box (cF (mG s au nums)))]):=by
 have hll:(j9 nums (bc ab)).length=nums.length:=rr _ _
 obtain⟨fp,hfp⟩:∃f,b6 nums.length (dY false au nums c ab)=f:=⟨_,rfl⟩
 rw[hfp]
 refine gS (nt:=35) (rs:=[.tmp 4,.tmp 5,.tmp 6]) hm Tryz.func49 fun hl he cI=>?_
 refine aO hm (fun(i:Nat)=> i≤nums.length∧fp=(dD i nums.length).find? (fun q=>dY false au nums c ab q.1 q.2)) (fun(i:Nat)=> ⟨dB 35 .any [(0,.ptr 3 0),(1,.fn 54 [.ptr 0 0,.ptr 1 0,.ptr 2 0]),(13,iv nums.length),(14,iv i)],[some (.box [lv (bO (j9 nums (bc ab)))]),some (.box [.ptr 3 0]),some (.box [lv (a6 ab)]),some (.box (cF (mG s au nums)))]⟩) (fun(i:Nat)=> nums.length-i) (0) ?_ (aw [some 0,some 1,some 2,some 3] ?_ ?_ rfl rfl) ?_
 rotate_left
 ·exact sC
 ·exact sC
 rotate_left
 ·exact⟨bh _,hfp.symm⟩
 ·rintro i ⟨hi,hg⟩
  rcases aa (i<nums.length) with h1|h1
  ·rw[nF h1] at hg
   simp -implicitDefEqProofs only[go_sem,h1]
   refine sQ ?_
   refine aO hm (fun(k:Nat)=> i<k∧k≤nums.length∧fp=(lS i k nums.length).find? (fun q=>dY false au nums c ab q.1 q.2)) (fun(k:Nat)=> ⟨dB 35 .any [(0,.ptr 3 0),(1,.fn 54 [.ptr 0 0,.ptr 1 0,.ptr 2 0]),(7,iv i),(8,iv k),(13,iv nums.length),(14,iv i)],[some (.box [lv (bO (j9 nums (bc ab)))]),some (.box [.ptr 3 0]),some (.box [lv (a6 ab)]),some (.box (cF (mG s au nums)))]⟩) (fun(k:Nat)=> nums.length-k) (i+1) ?_ (aw [some 0,some 1,some 2,some 3] ?_ ?_ rfl rfl) ?_
   rotate_left
   ·exact sC
   ·exact sC
   rotate_left
   ·exact⟨by omega,by omega,hg⟩
   ·rintro k ⟨hik,hk,hg⟩
    rcases aa (k<nums.length) with h2|h2
    ·have hco:=YM s au nums (j9 nums (bc ab)) ab i k h1 h2 hnt hll
     have ga:nums.getD i aL=nums[i]:=eX h1
     have gb:nums.getD k aL=nums[k]:=eX h2
     have eo:dY false au nums c ab i k=(!decide (cl (j9 nums (bc ab)) i=cl (j9 nums (bc ab)) k)&&(!eM nums ab i k&& !eM nums ab k i)):=by rw[Kk];rfl
     obtain⟨bb,hbb⟩:∃b,(!decide (cl (j9 nums (bc ab)) i=cl (j9 nums (bc ab)) k)&&(!eM nums ab i k&& !eM nums ab k i))=b:=⟨_,rfl⟩
     rw[hbb] at eo hco
     rw[oO h2,dA] at hg
     simp only[eo] at hg
     simp -implicitDefEqProofs only[go_sem,h2]
     refine gp [.ptr 0 0,.ptr 1 0,.ptr 2 0] [0,1,2,3] hco ?_ ?_
     ·refine sA ?_
      first|rfl|((repeat' apply ar)<;>rfl)
     refine sA ?_
     cases h3:bb
     ·rw[h3] at hg
      refine sA ?_
      refine sQ ?_
      refine⟨k+1,?_,sL,aw [some 0,some 1,some 2,some 3] ?_ ?_ rfl rfl⟩
      rotate_left
      ·exact sC
      ·exact sC
      exact⟨by omega,by omega,hg⟩
     ·rw[h3] at hg
      simp only at hg
      refine sA ?_
      refine bX [some 0,some 1,some 2,some 3] ?_ rfl rfl
      refine sA ?_
      rw[hg]
      all_goals((repeat' apply ar)<;>rfl)
    ·rw[qb (by omega)] at hg
     simp -implicitDefEqProofs only[go_sem,h2]
     refine sQ ?_
     refine⟨i+1,?_,sL,aw [some 0,some 1,some 2,some 3] ?_ ?_ rfl rfl⟩
     rotate_left
     ·exact sC
     ·exact sC
     exact⟨by omega,hg⟩
  ·rw[oE (by omega),jM] at hg
   simp -implicitDefEqProofs only[go_sem,h1]
   refine bX [some 0,some 1,some 2,some 3] ?_ rfl rfl
   refine sA ?_
   rw[hg]
   all_goals((repeat' apply ar)<;>rfl)
end
end Go.Proofs.YtabembjmeobhoaaGreat
