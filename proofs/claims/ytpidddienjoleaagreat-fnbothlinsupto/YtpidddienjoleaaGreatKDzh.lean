/-
  The program: why two parts are one. A step towards the laws.
-/
import Derived.Test.YtpidddienjoleaaGreatKDzg
import Derived.Test.YtpidddienjoleaaGreatKDDa
import Derived.Test.YtpidddienjoleaaGreatKDd
import Derived.Test.YtpidddienjoleaaGreatKDN
import Derived.Test.YtpidddienjoleaaGreatKDEl
set_option linter.unusedVariables false
set_option linter.unusedSimpArgs false
namespace Go.Proofs.YtpidddienjoleaaGreat
open Go.Eng Go.Mod
open Int renaming reduceEq→Z1,reduceLT→Z2,reduceLE→Z3,reduceToNat→Z4
set_option maxRecDepth 100000
set_option maxHeartbeats 3200000
section
variable(parts:List Term)(eqs:List gk)(c:List Nat)(steps:List Step)
theorem AH(a:ja):dE [a]=[rP a]:=by rw[km,jw]
theorem Ks(a b:ja):dE [a,b]=[rP a,rP b]:=by rw[km,km,jw]
theorem kV(hok:ke parts eqs steps)(hk:fL parts)(hl9:parts.length≤1000)(hk9:∀t∈parts,t.kids.length≤1000)(f:Nat)
 (ih:∀n a b,n<f→n≤steps.length→a<parts.length→b<parts.length→cl (az parts.length steps n) a=cl (az parts.length steps n) b→C E.P 165 [.ptr 0 0,iv a,iv b,iv n] [some (.box [lv (aj parts),lv (aP c),lv (ax steps)])] (aO (av (rP (nh parts steps f n a b))) [some (.box [lv (aj parts),lv (aP c),lv (ax steps)])]))
 (d:Mod.Edge) (hi:d.step<steps.length) (hf:d.step<f):C E.P 221 [.ptr 0 0,av (qD d)] [some (.box [lv (aj parts),lv (aP c),lv (ax steps)])] (aO (av (rP (lH parts steps (nh parts steps f) d))) [some (.box [lv (aj parts),lv (aP c),lv (ax steps)])]):=by
 obtain⟨i,back⟩:=d
 simp only at hi hf
 have hs:=y9 hi
 have hso:=p9 hok hi
 have a0:=hso.a0
 have b0:=hso.b0
 have a1:=DT hok hi
 have b1:=E5 hok hi
 have eA:steps[i].A=(vA steps i:Int):=by rw[vA,hs];rw[hs] at a0;omega
 have eB:steps[i].B=(vB steps i:Int):=by rw[vB,hs];rw[hs] at b0;omega
 have Sz:=hso.Sz
 have hE:xL parts steps (nh parts steps f) i=if steps[i].given<0 then .mk 5 0 (.mk (parts.getD (vA steps i) ao).name []) (((parts.getD (vA steps i) ao).kids.zip (parts.getD (vB steps i) ao).kids).map fun p=>nh parts steps f i (al parts p.1) (al parts p.2)) else .mk 2 steps[i].given ao []:=by rw[xL,hs]
 have hed:=Gx parts steps (nh parts steps f) ⟨i,back⟩
 simp only at hed
 rw[hs] at Sz
 have hLB:=vP
 refine AU (nt:=80) (rs:=[.cell 4 38]) Tryz.func221 rfl rfl rfl rfl rfl (fun hl he=>?_)
 simp -implicitDefEqProofs only[go_sem] at hl⊢
 refine m0 hm ?_
 rcases Classical.em (steps[i].given<0) with h0|h0
 ·rw[if_pos h0] at hE
  have hal:alike parts (az parts.length steps i) (vA steps i) (vB steps i)=true:=by
   rcases Sz with h|⟨n,h,_⟩
   ·rw[vA,vB,hs];exact h.2
   ·omega
  obtain⟨q1,q2,q3,q4⟩:=MW hal
  have gA:parts.getD (vA steps i) ao=parts[vA steps i]:=by rw[List.getD_eq_getElem?_getD,List.getElem?_eq_getElem a1];rfl
  have gB:parts.getD (vB steps i) ao=parts[vB steps i]:=by rw[List.getD_eq_getElem?_getD,List.getElem?_eq_getElem b1];rfl
  have mA:=List.getElem_mem a1
  have mB:=List.getElem_mem b1
  obtain⟨x,hx⟩:∃x,parts[vA steps i]=x:=⟨_,rfl⟩
  obtain⟨y,hy⟩:∃y,parts[vB steps i]=y:=⟨_,rfl⟩
  rw[hx] at gA mA
  rw[hy] at gB mB
  rw[gA] at q1 q2 q3 q4 hE
  rw[gB] at q2 q3 q4 hE
  have kx:=hk _ mA
  have ky:=hk _ mB
  have kl:=hk9 _ mA
  simp -implicitDefEqProofs only[go_sem,hi,h0,eA,eB,a1,b1,hx,hy]
  refine iK ?_
  refine iK ?_
  refine au hm (fun(k:Nat)=> k≤x.kids.length) (fun(k:Nat)=> ⟨b9 80 .any [(0,.ptr 0 0),(3,.ptr 1 0),(4,.ptr 2 0),(6,.ptr 3 0),(7,.ptr 4 0),(8,.ptr 5 0),(46,iv x.kids.length),(47,iv k)],[some (.box [lv (aj parts),lv (aP c),lv (ax steps)]),some (.box [iv i,bv back]),some (.box (bn (rP uI))),some (.box [iv 5,iv 0,sv x.name,lv [],.acc 6]),some (.box (bn (cT x))),some (.box (bn (cT y))),some (.acc 38 (dE (((x.kids.zip y.kids).take k).map fun p=>nh parts steps f i (al parts p.1) (al parts p.2))))]⟩) (fun(k:Nat)=> x.kids.length-k) (0) ?_ (ah [some 0,some 1,some 2,some 4,some 5,some 6,none] ?_ ?_ rfl rfl) ?_
  rotate_left
  ·exact sC
  ·exact sC
  rotate_left
  ·omega
  ·rintro k hk1
   have hzl:(((x.kids.zip y.kids).take k).map fun p=>nh parts steps f i (al parts p.1) (al parts p.2)).length≤1000:=by simp;omega
   rcases Classical.em (k<x.kids.length) with h1|h1
   ·have h2:k<y.kids.length:=by omega
    have mx:=kx _ (List.getElem_mem h1)
    have my:=ky _ (List.getElem_mem h2)
    have px:=aU mx
    have py:=aU my
    have cx:=bo mx
    have cy:=bo my
    have hc:=ih i (al parts x.kids[k]) (al parts y.kids[k]) hf (by omega) px py (q4 k h1 h2)
    have hz:=La (f:=fun p=>nh parts steps f i (al parts p.1) (al parts p.2)) h1 h2
    have ca:=uP parts c steps x.kids[k]
    have cb:=uP parts c steps y.kids[k]
    rw[cx] at ca
    rw[cy] at cb
    simp -implicitDefEqProofs only[go_sem,h1]
    refine bK [] [0] ca rfl ?_ ?_ ?_
    ·exact sV
    all_goals simp -implicitDefEqProofs only[go_sem,h2]
    refine bK [] [0] cb rfl ?_ ?_ ?_
    ·exact sV
    all_goals simp -implicitDefEqProofs only[go_sem]
    refine oC [] [0] hc ?_
    repeat(with_reducible apply And.intro;exact sO)
    refine⟨k+1,?_,?_,ah [some 0,some 1,some 2,some 3,some 4,some 5,some 7] ?_ ?_ rfl rfl⟩
    rotate_left
    ·show _ < _
     omega
    ·exact sC
    ·refine sA ?_
     all_goals((rw[hz,←EN,km,jw];rfl))
    exact h1
   ·have et:(x.kids.zip y.kids).take k=x.kids.zip y.kids:=List.take_of_length_le (by simp;omega)
    rw[et]
    cases back
    ·rw[if_neg (by simp),hE] at hed
     simp -implicitDefEqProofs only[go_sem,h1,ik]
     refine bO ?_
     refine aG [some 0] ?_ rfl rfl
     refine sA ?_
     rw[hed]
     ((repeat' apply And.intro)<;>rfl)
    ·rw[if_pos rfl,hE] at hed
     simp -implicitDefEqProofs only[go_sem,h1,ik]
     refine⟨_,sj.FL (nX 7 0 _ rfl (by simp) (show ij _ 0=[T.leaf (D.val (Value.int IntKind.i64 5)),T.leaf (D.val (Value.int IntKind.i64 0)),T.leaf (D.str x.name),T.leaf (D.bx []),T.ref 6] from rfl)),?_⟩
     refine sA ?_
     refine aG [some 0] ?_ rfl rfl
     refine sA ?_
     rw[hed]
     ((repeat' apply And.intro)<;>first|rfl|exact⟨_,(by simp only[List.set_cons_zero,aW,b8,T.yG,gg];try rfl),AH _⟩)
 ·rw[if_neg h0] at hE
  cases back
  ·rw[if_neg (by simp),hE] at hed
   simp -implicitDefEqProofs only[go_sem,hi,h0,ik]
   refine iK ?_
   refine bO ?_
   refine aG [some 0] ?_ rfl rfl
   refine sA ?_
   rw[hed]
   ((repeat' apply And.intro)<;>rfl)
  ·rw[if_pos rfl,hE] at hed
   simp -implicitDefEqProofs only[go_sem,hi,h0,ik]
   refine iK ?_
   refine bO ?_
   refine aG [some 0] ?_ rfl rfl
   refine sA ?_
   rw[hed]
   ((repeat' apply And.intro)<;>first|rfl|exact(AH _).symm)
theorem yH(hok:ke parts eqs steps)(hk:fL parts)(hl9:parts.length≤1000)(hk9:∀t∈parts,t.kids.length≤1000)(hs9:steps.length≤2000000):∀(f n a b:Nat),n<f→n≤steps.length→a<parts.length→b<parts.length→cl (az parts.length steps n) a=cl (az parts.length steps n) b →
 C E.P 165 [.ptr 0 0,iv a,iv b,iv n] [some (.box [lv (aj parts),lv (aP c),lv (ax steps)])] (aO (av (rP (nh parts steps f n a b))) [some (.box [lv (aj parts),lv (aP c),lv (ax steps)])]):=by
 intro f
 induction f with
 | zero=>intro n a b h;omega
 | succ f ih=>
 intro n a b hnf hn ha hb hab
 obtain⟨w1,w2,w3⟩:=rU hok hn ha hb hab
 have cw:=P7 parts eqs c steps hok hl9 hs9 n a b hn ha hb hab
 have ga:parts.getD a ao=parts[a]:=by rw[List.getD_eq_getElem?_getD,List.getElem?_eq_getElem ha];rfl
 obtain⟨way,hw⟩:∃w,iL parts.length steps n a b=w:=⟨_,rfl⟩
 have hF:=Pu parts steps f n a b
 rw[hw] at hF w1 w3 cw
 have hwl:way.length≤1000:=by
  have h1:=pO w3 (fun v hv=>by
   simp only[dv,List.mem_cons,List.mem_map] at hv
   rcases hv with rfl|⟨e,he,rfl⟩
   ·exact ha
   ·exact xA hok (by have:=w1 e he;omega))
  simp[dv] at h1
  omega
 refine gS (nt:=50) (rs:=[.cell 8 38]) hm Tryz.func165 fun hl he hLB=>?_
 refine oC [] [0] cw ?_
 rcases Nat.eq_zero_or_pos way.length with hz|hz
 ·obtain rfl:=List.length_eq_zero_iff.1 hz
  rw[Mu] at hF
  simp -implicitDefEqProofs only[go_sem,ha]
  refine aC [] (dL parts[a]) ?_
  refine aG [some 0] ?_ rfl rfl
  refine sA ?_
  rw[hF,ga]
  ((repeat' apply And.intro)<;>rfl)
 ·have hne:¬ (way.length:Int)=0:=by omega
  have hz':(0:Int)<(way.length:Int):=by omega
  have hst:=w1 _ (List.getElem_mem hz)
  have hco:=kV parts eqs c steps hok hk hl9 hk9 f ih way[0] (by omega) (by omega)
  have f1:(1:Int)≤(way.length:Int)∧∀y∈bc way,y.length=2:=⟨by omega,Ds _⟩
  obtain⟨ss,hss⟩:∃ss,way.drop 1=ss:=⟨_,rfl⟩
  have hsl:List.take (way.length-1) (List.drop 1 (bc way))=bc ss:=by
   rw[←hss,List.take_of_length_le (by simp[bc])]
   simp[bc]
  have hsn:ss.length=way.length-1:=by rw[←hss,List.length_drop]
  have hln:min (way.length-1) (List.drop 1 (bc way)).length=ss.length:=by rw[hsn];simp[bc]
  have hin:∀d∈ss,d.step<n:=fun d hd=>w1 d (by rw[←hss] at hd;exact List.mem_of_mem_drop hd)
  have hF2:=hF
  rw[Eg hz,hss] at hF2
  simp -implicitDefEqProofs only[go_sem,hne,hz]
  refine cz [] [0] hco ?_ ?_<;>simp -implicitDefEqProofs only[go_sem,Z3,Z4]
  repeat(with_reducible apply And.intro;exact sO)
  simp -implicitDefEqProofs only[go_sem,hsl,hln]
  refine bQ hm (fun(i:Nat) (w:ja)=> i≤ss.length∧nh parts steps (f+1) n a b=rI (lH parts steps (nh parts steps f)) w (ss.drop i)) (fun(i:Nat) (w:ja)=> ⟨b9 50 .any [(0,.ptr 0 0),(8,.ptr 1 0),(10,.ptr 2 0),(36,lv (bc ss)),(37,iv ss.length),(38,iv i)],[some (.box [lv (aj parts),lv (aP c),lv (ax steps)]),some (.box (bn (rP uI))),some (.box (bn (rP w)))]⟩) (fun(i:Nat) (w:ja)=> ss.length-i) (0) (lH parts steps (nh parts steps f) way[0]) ?_ (ah [some 0,some 1,some 2] ?_ ?_ rfl rfl) ?_
  rotate_left
  ·exact sC
  ·exact sC
  rotate_left
  ·exact⟨Nat.zero_le _,hF2⟩
  ·rintro i w ⟨hi,hg⟩
   rcases Classical.em (i<ss.length) with h1|h1
   ·have hd:=hin _ (List.getElem_mem h1)
    have hco2:=kV parts eqs c steps hok hk hl9 hk9 f ih ss[i] (by omega) (by omega)
    rw[List.drop_eq_getElem_cons h1,rI] at hg
    simp -implicitDefEqProofs only[go_sem,h1]
    refine oC [] [0] hco2 ?_
    refine iK ?_
    repeat(with_reducible apply And.intro;exact sO)
    refine⟨i+1,.mk 4 0 ao [w,lH parts steps (nh parts steps f) ss[i]],?_,?_,ah [some 0,some 1,some 2] ?_ ?_ rfl rfl⟩
    rotate_left
    ·show _ < _
     omega
    ·exact sC
    ·refine sA ?_
     all_goals(exact⟨rfl,rfl,rfl,rfl,(Ks _ _).symm⟩)
    exact⟨by omega,hg⟩
   ·rw[List.drop_of_length_le (by omega),rI] at hg
    simp -implicitDefEqProofs only[go_sem,h1]
    refine aG [some 0] ?_ rfl rfl
    refine sA ?_
    rw[hg]
    ((repeat' apply And.intro)<;>rfl)
theorem mJ(hok:ke parts eqs steps)(hk:fL parts)(hl9:parts.length≤1000)(hk9:∀t∈parts,t.kids.length≤1000)(hs9:steps.length≤2000000)(x y:Term)(hx:x∈parts)(hy:y∈parts)(hxy:cl (az parts.length steps steps.length) (al parts x)=cl (az parts.length steps steps.length) (al parts y)) :
 C E.P 99 [.ptr 0 0,av (cT x),av (cT y)] [some (.box [lv (aj parts),lv (aP c),lv (ax steps)])] (aO (av (rP (Mod.iZ parts steps x y))) [some (.box [lv (aj parts),lv (aP c),lv (ax steps)])]):=by
 have hc:=yH parts eqs c steps hok hk hl9 hk9 hs9 (steps.length+1) steps.length (al parts x) (al parts y) (by omega) (Nat.le_refl _) (aU hx) (aU hy) hxy
 have ca:=uP parts c steps x
 have cb:=uP parts c steps y
 rw[bo hx] at ca
 rw[bo hy] at cb
 refine gS (nt:=20) (rs:=[.cell 6 38]) hm Tryz.func99 fun hl he hLB=>?_
 refine bK [] [0] ca rfl ?_ ?_ ?_
 ·exact sV
 all_goals simp -implicitDefEqProofs only[go_sem]
 refine bK [] [0] cb rfl ?_ ?_ ?_
 ·exact sV
 all_goals simp -implicitDefEqProofs only[go_sem]
 refine oC [] [0] hc ?_
 refine iK ?_
 refine aG [some 0] ?_ rfl rfl
 refine sA ?_
 ((repeat' apply And.intro)<;>rfl)
end
end Go.Proofs.YtpidddienjoleaaGreat
namespace Go.Proofs.YtpidddienjoleaaGreat
open Go.Eng Go.Mod
open Int renaming reduceEq→Z1,reduceLT→Z2,reduceLE→Z3,reduceToNat→Z4
set_option maxRecDepth 100000
set_option maxHeartbeats 3200000
def fW(s:bA)(terms nums:List Term):List D:=[.bx (cQ s.syms),.bx (aj terms),.bx (aj nums)]
attribute [go_sem] fW
theorem Cm(s:bA)(terms nums:List Term)(eqs:List gk)(h4:nums.length≤4)(he9:eqs.length≤1000):C E.P 92 [.ptr 0 0,lv (dz eqs)] [some (.box (bn (fW s terms nums)))] (aO (lv (aP (dR nums eqs))) [some (.box (bn (fW s terms nums)))]):=by
 refine gS (nt:=82) (rs:=[.tmp 4]) hm Tryz.func92 fun hl he hLB=>?_
 repeat(with_reducible apply And.intro;exact sO)
 refine bQ hm (fun(i:Nat) (c:List Nat)=> i≤nums.length∧c.length=nums.length∧c.take i=List.range i) (fun(i:Nat) (c:List Nat)=> ⟨b9 82 .any [(0,.ptr 0 0),(1,lv (dz eqs)),(5,.acc 1),(22,iv nums.length),(23,iv i)],[some (.box (bn (fW s terms nums))),some (.acc 3 (aP c))]⟩) (fun(i:Nat) (c:List Nat)=> nums.length-i) (0) (List.replicate nums.length 0) ?_ (ah [some 0,some 1] ?_ ?_ rfl rfl) ?_
 rotate_left
 ·refine sA ?_
  all_goals((simp[]))
 ·refine sA ?_
  all_goals((simp[aP]))
 rotate_left
 ·exact⟨Nat.zero_le _,by simp,rfl⟩
 ·rintro i c ⟨hi,hc,ht⟩
  rcases Classical.em (i<nums.length) with h1|h1
  ·have h1':i<c.length:=by omega
   have hp:=qd (l:=c) (i:=i) (n:=i) h1'
   rw[kn h1'] at hp
   simp -implicitDefEqProofs only[go_sem,h1,h1']
   repeat(with_reducible apply And.intro;exact sO)
   refine⟨i+1,c.set i i,?_,?_,ah [some 0,some 1] ?_ ?_ rfl rfl⟩
   rotate_left
   ·show _ < _
    omega
   ·exact sC
   ·refine sA ?_
    all_goals(exact hp)
   refine⟨by omega,by simpa using hc,?_⟩
   rw[List.range_succ,←ht,List.take_add_one,List.take_set_of_le (Nat.le_refl _)]
   simp[h1']
  ·obtain rfl:i=nums.length:=by omega
   have e:c=List.range nums.length:=by
    rw[←ht,List.take_of_length_le (by omega)]
   rw[e]
   simp -implicitDefEqProofs only[go_sem,h1]
   clear hi hc ht h1 e c
   refine bQ hm (fun(n:Nat) (c:List Nat)=> n≤eqs.length∧c.length=nums.length∧dR nums eqs=(eqs.drop n).foldl (b7 nums) c) (fun(n:Nat) (c:List Nat)=> ⟨b9 82 .any [(0,.ptr 0 0),(5,.acc 1),(31,lv (dz eqs)),(32,iv eqs.length),(33,iv n)],[some (.box (bn (fW s terms nums))),some (.acc 3 (aP c))]⟩) (fun(n:Nat) (c:List Nat)=> eqs.length-n) (0) (List.range nums.length) ?_ (ah [some 0,some 1] ?_ ?_ rfl rfl) ?_
   rotate_left
   ·exact sC
   ·exact sC
   rotate_left
   ·exact⟨Nat.zero_le _,by simp,rfl⟩
   ·rintro n c ⟨hn,hc,hg⟩
    rcases Classical.em (n<eqs.length) with h1|h1
    ·rw[List.drop_eq_getElem_cons h1,List.foldl_cons] at hg
     rcases Classical.em (eqs[n].A∈nums) with hA|hA
     ·rcases Classical.em (eqs[n].B∈nums) with hB|hB
      ·have pA:=aU hA
       have pB:=aU hB
       have cA:=bo hA
       have cB:=bo hB
       have ca:=bz nums eqs[n].A
       have cb:=bz nums eqs[n].B
       rw[cA] at ca
       rw[cB] at cb
       have es:b7 nums c eqs[n]=c.map fun k=>if k=cl c (al nums eqs[n].A) then cl c (al nums eqs[n].B) else k:=by rw[b7,if_neg (by omega)]
       have hlen:=sL nums c eqs[n]
       rw[es] at hg hlen
       generalize al nums eqs[n].A=a at *
       generalize al nums eqs[n].B=b at *
       have pA':a<c.length:=by omega
       have pB':b<c.length:=by omega
       have eA:c[a]=cl c a:=(fh pA').symm
       have eB:c[b]=cl c b:=(fh pB').symm
       have nA:¬ (a:Int)<0:=by omega
       have nB:¬ (b:Int)<0:=by omega
       obtain⟨f,hf⟩:∃f,cl c a=f:=⟨_,rfl⟩
       obtain⟨t,ht⟩:∃t,cl c b=t:=⟨_,rfl⟩
       rw[hf] at eA hg hlen
       rw[ht] at eB hg hlen
       have hend:∀i,c.length≤i→cG c f t i=c.map fun k=>if k=f then t else k:=fun i hi=>by
        unfold cG
        rw[List.take_of_length_le hi,List.drop_of_length_le hi,List.append_nil]
       simp -implicitDefEqProofs only[go_sem,h1]
       refine aC [] ca ?_
       refine aC [] cb ?_
       refine iK ?_
       simp -implicitDefEqProofs only[go_sem,nA,nB,pA',pB',eA,eB]
       refine iK ?_
       refine au hm (fun(i:Nat)=> i≤c.length) (fun(i:Nat)=> ⟨b9 82 .any [(0,.ptr 0 0),(5,.acc 1),(11,iv f),(12,iv t),(31,lv (dz eqs)),(32,iv eqs.length),(33,iv n),(65,.acc 1),(66,iv c.length),(67,iv i)],[some (.box (bn (fW s terms nums))),some (.acc 3 (aP (cG c f t i)))]⟩) (fun(i:Nat)=> c.length-i) (0) ?_ (ah [some 0,some 1] ?_ ?_ rfl rfl) ?_
       rotate_left
       ·exact sC
       ·refine sA ?_
        all_goals((simp[cG]))
       rotate_left
       ·omega
       ·rintro i hi
        have hjl:=n5 c f t i
        rcases Classical.em (i<c.length) with h2|h2
        ·have h2':i<(cG c f t i).length:=by omega
         have eg:=od (f:=f) (t:=t) h2 h2'
         rcases Classical.em (c[i]=f) with h3|h3
         ·have k3:=eq_true h3
          have hp:=qd (l:=cG c f t i) (i:=i) (n:=t) h2'
          have hnx:=lA (f:=f) (t:=t) h2
          rw[if_pos h3] at hnx
          rw[kn h2',eg] at hp
          simp -implicitDefEqProofs only[go_sem,hjl,h2,eg,k3]
          repeat(with_reducible apply And.intro;exact sO)
          refine⟨i+1,?_,?_,ah [some 0,some 1] ?_ ?_ rfl rfl⟩
          rotate_left
          ·show _ < _
           omega
          ·exact sC
          ·refine sA ?_
           all_goals((rw[hp,hnx]))
          exact h2
         ·have hnx:=pw (f:=f) (t:=t) h2 h3
          simp -implicitDefEqProofs only[go_sem,hjl,h2,eg,h3]
          repeat(with_reducible apply And.intro;exact sO)
          refine⟨i+1,?_,?_,ah [some 0,some 1] ?_ ?_ rfl rfl⟩
          rotate_left
          ·show _ < _
           omega
          ·exact sC
          ·refine sA ?_
           all_goals((rw[hnx]))
          exact h2
        ·rw[hend i (by omega)] at hjl⊢
         simp -implicitDefEqProofs only[go_sem,h2]
         repeat(with_reducible apply And.intro;exact sO)
         refine⟨n+1,(c.map fun k=>if k=f then t else k),?_,?_,ah [some 0,some 1] ?_ ?_ rfl rfl⟩
         rotate_left
         ·show _ < _
          omega
         ·exact sC
         ·exact sC
         exact⟨by omega,by simpa using hc,hg⟩
      ·have h3:aF nums eqs[n].B<0:=by
        have:=(not_congr bl).2 hB
        omega
       have cA:=bo hA
       have nA:¬aF nums eqs[n].A<0:=by omega
       have es:b7 nums c eqs[n]=c:=by rw[b7,if_pos (.inr h3)]
       rw[es] at hg
       simp -implicitDefEqProofs only[go_sem,h1]
       refine aC [] (bz nums eqs[n].A) ?_
       refine aC [] (bz nums eqs[n].B) ?_
       refine iK ?_
       simp -implicitDefEqProofs only[go_sem,nA,h3]
       repeat(with_reducible apply And.intro;exact sO)
       refine⟨n+1,c,?_,?_,ah [some 0,some 1] ?_ ?_ rfl rfl⟩
       rotate_left
       ·show _ < _
        omega
       ·exact sC
       ·exact sC
       exact⟨by omega,hc,hg⟩
     ·have h3:aF nums eqs[n].A<0:=by
       have:=(not_congr bl).2 hA
       omega
      have es:b7 nums c eqs[n]=c:=by rw[b7,if_pos (.inl h3)]
      rw[es] at hg
      simp -implicitDefEqProofs only[go_sem,h1]
      refine aC [] (bz nums eqs[n].A) ?_
      refine aC [] (bz nums eqs[n].B) ?_
      refine iK ?_
      simp -implicitDefEqProofs only[go_sem,h3]
      repeat(with_reducible apply And.intro;exact sO)
      refine⟨n+1,c,?_,?_,ah [some 0,some 1] ?_ ?_ rfl rfl⟩
      rotate_left
      ·show _ < _
       omega
      ·exact sC
      ·exact sC
      exact⟨by omega,hc,hg⟩
    ·rw[List.drop_of_length_le (by omega),List.foldl_nil] at hg
     simp -implicitDefEqProofs only[go_sem,h1]
     refine aG [some 0] ?_ rfl rfl
     refine sA ?_
     rw[hg]
     ((repeat' apply And.intro)<;>rfl)
theorem CY(s:bA)(terms nums:List Term)(eqs:List gk)(lits:List aE)(hk:fL terms)(hin:∀e∈eqs,e.A∈terms∧e.B∈terms)(hl9:terms.length≤1000)(hk9:∀t∈terms,t.kids.length≤1000)(hlk:∀l∈lits,l.atom.kind=1→l.atom.A∈terms∧l.atom.B∈terms) :
 C E.P 90 [.ptr 0 0,lv (ay lits),.ptr 1 0] [some (.box (bn (fW s terms nums))),some (.box [lv (aj terms),lv (aP (closed terms eqs).1),lv (ax (closed terms eqs).2)])]
   (aO (.eZ [av (tm (match iH (ic terms (closed terms eqs).1) lits with|none=>ov|some n=>.mk 1 n (Mod.iZ terms (closed terms eqs).2 (lits.getD n z7).atom.A (lits.getD n z7).atom.B) [] ao ao [])),bv (iH (ic terms (closed terms eqs).1) lits).isSome]) [some (.box (bn (fW s terms nums))),some (.box [lv (aj terms),lv (aP (closed terms eqs).1),lv (ax (closed terms eqs).2)])]):=by
 have hkept:=lM (parts:=terms) (eqs:=eqs) hin
 have hc:=FF hkept
 have hsl:(closed terms eqs).2.length≤2000000:=by
  have h1:=rn hkept (closed terms eqs).2.length (Nat.le_refl _)
  have h2:(List.range terms.length).sum≤(List.range terms.length).length*1000:=mP fun x hx=>by have:=List.mem_range.1 hx;omega
  have h3:(List.range terms.length).length*1000≤1000*1000:=Nat.mul_le_mul_right _ (by simpa using hl9)
  omega
 have hex:∀x y,x∈terms→y∈terms→eM terms (closed terms eqs).1 x y=true→C E.P 99 [.ptr 0 0,av (cT x),av (cT y)] [some (.box [lv (aj terms),lv (aP (closed terms eqs).1),lv (ax (closed terms eqs).2)])] (aO (av (rP (Mod.iZ terms (closed terms eqs).2 x y))) [some (.box [lv (aj terms),lv (aP (closed terms eqs).1),lv (ax (closed terms eqs).2)])]):=fun x y hx hy hxy=>by
  refine mJ terms eqs (closed terms eqs).1 (closed terms eqs).2 hkept.1 hk hl9 hk9 hsl x y hx hy ?_
  rw[←hkept.2]
  simpa[eM] using hxy
 obtain⟨c,ec⟩:∃c,(closed terms eqs).1=c:=⟨_,rfl⟩
 obtain⟨steps,es⟩:∃x,(closed terms eqs).2=x:=⟨_,rfl⟩
 rw[ec] at hc hex⊢
 rw[es] at hex⊢
 obtain⟨R,hR⟩:∃R,iH (ic terms c) lits=R:=⟨_,rfl⟩
 rw[hR]
 refine gS (nt:=60) (rs:=[.cell 6 42,.tmp 7]) hm Tryz.func90 fun hl he hLB=>?_
 refine au hm (fun(i:Nat)=> i≤lits.length∧R=oW (ic terms c) lits i) (fun(i:Nat)=> ⟨b9 60 .any [(2,.ptr 1 0),(6,.ptr 2 0),(11,lv (ay lits)),(12,iv lits.length),(13,iv i)],[some (.box (bn (fW s terms nums))),some (.box [lv (aj terms),lv (aP c),lv (ax steps)]),some (.box (bn (tm ov)))]⟩) (fun(i:Nat)=> lits.length-i) (0) ?_ (ah [some 0,some 1,some 2] ?_ ?_ rfl rfl) ?_
 rotate_left
 ·exact sC
 ·refine sA ?_
  all_goals(((repeat' apply And.intro)<;>rfl))
 rotate_left
 ·exact⟨Nat.zero_le _,by rw[←hR];exact H8 _ _⟩
 ·rintro i ⟨hi,hg⟩
  rcases Classical.em (i<lits.length) with h1|h1
  ·rw[Fw h1] at hg
   have hl:=hlk _ (List.getElem_mem h1)
   have ecl:ic terms c lits[i]=(lits[i].no&&(decide (lits[i].atom.kind=1)&&eM terms c lits[i].atom.A lits[i].atom.B)):=rfl
   cases h2:lits[i].no
   ·rw[ecl,h2,Bool.false_and,if_neg (by simp)] at hg
    simp -implicitDefEqProofs only[go_sem,h1,h2]
    refine iK ?_
    repeat(with_reducible apply And.intro;exact sO)
    refine⟨i+1,?_,?_,ah [some 0,some 1,some 2] ?_ ?_ rfl rfl⟩
    rotate_left
    ·show _ < _
     omega
    ·exact sC
    ·exact sC
    exact⟨by omega,hg⟩
   ·rcases Classical.em (lits[i].atom.kind=1) with h3|h3
    ·have k3:=eq_true h3
     obtain⟨hA,hB⟩:=hl h3
     have hgd:lits.getD i z7=lits[i]:=dN h1
     rw[ecl,h2,decide_eq_true h3,Bool.true_and,Bool.true_and] at hg
     have pA:=aU hA
     have pB:=aU hB
     have pA':al terms lits[i].atom.A<c.length:=by omega
     have pB':al terms lits[i].atom.B<c.length:=by omega
     have eA:c[al terms lits[i].atom.A]=cl c (al terms lits[i].atom.A):=(fh pA').symm
     have eB:c[al terms lits[i].atom.B]=cl c (al terms lits[i].atom.B):=(fh pB').symm
     have ca:=uP terms c steps lits[i].atom.A
     have cb:=uP terms c steps lits[i].atom.B
     rw[bo hA] at ca
     rw[bo hB] at cb
     simp -implicitDefEqProofs only[go_sem,h1,h2,k3]
     refine bK [] [1] ca rfl ?_ ?_ ?_
     ·exact sV
     all_goals simp -implicitDefEqProofs only[go_sem,pA',eA]
     refine bK [] [1] cb rfl ?_ ?_ ?_
     ·exact sV
     all_goals simp -implicitDefEqProofs only[go_sem,pB',eB]
     refine iK ?_
     rcases Classical.em (cl c (al terms lits[i].atom.A)=cl c (al terms lits[i].atom.B)) with h4|h4
     ·have hsm:eM terms c lits[i].atom.A lits[i].atom.B=true:=decide_eq_true h4
      have k4:=eq_true h4
      have hx:=hex _ _ hA hB hsm
      rw[hsm,if_pos rfl] at hg
      simp -implicitDefEqProofs only[go_sem,k4]
      refine oC [] [1] hx ?_
      refine aG [some 0,some 1] ?_ rfl rfl
      refine sA ?_
      rw[hg]
      simp only[hgd]
      ((repeat' apply And.intro)<;>rfl)
     ·have hsm:eM terms c lits[i].atom.A lits[i].atom.B=false:=decide_eq_false h4
      rw[hsm,if_neg (by simp)] at hg
      simp -implicitDefEqProofs only[go_sem,h4]
      repeat(with_reducible apply And.intro;exact sO)
      refine⟨i+1,?_,?_,ah [some 0,some 1,some 2] ?_ ?_ rfl rfl⟩
      rotate_left
      ·show _ < _
       omega
      ·exact sC
      ·exact sC
      exact⟨by omega,hg⟩
    ·rw[ecl,h2,decide_eq_false h3,Bool.true_and,Bool.false_and,if_neg (by simp)] at hg
     simp -implicitDefEqProofs only[go_sem,h1,h2,h3]
     refine iK ?_
     repeat(with_reducible apply And.intro;exact sO)
     refine⟨i+1,?_,?_,ah [some 0,some 1,some 2] ?_ ?_ rfl rfl⟩
     rotate_left
     ·show _ < _
      omega
     ·exact sC
     ·exact sC
     exact⟨by omega,hg⟩
  ·rw[Gp (by omega)] at hg
   simp -implicitDefEqProofs only[go_sem,h1]
   refine aG [some 0,some 1] ?_ rfl rfl
   refine sA ?_
   rw[hg]
   ((repeat' apply And.intro)<;>rfl)
end Go.Proofs.YtpidddienjoleaaGreat
namespace Go.Proofs.YtpidddienjoleaaGreat
open Go.Eng Go.Mod
open Int renaming reduceEq→Z1,reduceLT→Z2,reduceLE→Z3,reduceToNat→Z4
set_option maxRecDepth 100000
set_option maxHeartbeats 3200000
theorem wW(f:Nat)(cap:List PV)(hcap:mi 0 cap=true)(p:aE→Bool)(xs:List aE)(hf:∀x∈xs,C E.P f (av (kh x)::cap) [] (aO (bv (p x)) [])) :
 C E.P 222 [lv (ay xs),.fn f cap] [] (aO (iv (idxOf p xs)) []):=by
 refine gS (nt:=19) (rs:=[.tmp 4]) hm Tryz.func222 fun hl he hLB=>?_
 refine au hm (fun(i:Nat)=> i≤xs.length∧idxOf p xs=bZ p (xs.drop i) i) (fun(i:Nat)=> ⟨b9 19 .any [(0,lv (ay xs)),(1,.fn f cap),(7,iv xs.length),(8,iv i)],[]⟩) (fun(i:Nat)=> xs.length-i) (0) ?_ (ah [] ?_ ?_ rfl rfl) ?_
 rotate_left
 ·refine sA ?_
  all_goals(simp[aa, *];done)
 ·exact sC
 rotate_left
 ·simp[idxOf]
 ·rintro i ⟨hi,hg⟩
  rcases Classical.em (i<xs.length) with h1|h1
  ·rw[List.drop_eq_getElem_cons h1,bZ] at hg
   simp -implicitDefEqProofs only[go_sem,h1]
   have hc:=hf xs[i] (List.getElem_mem h1)
   refine cL cap hc ?_ ?_<;>simp -implicitDefEqProofs only[go_sem,hcap]
   cases h2:p xs[i]
   ·rw[h2] at hg
    simp only[Bool.false_eq_true,if_false] at hg
    refine sA ?_
    refine⟨by omega,?_⟩
    refine⟨i+1,?_,?_,ah [] ?_ ?_ rfl rfl⟩
    rotate_left
    ·show _ < _
     omega
    ·refine sA ?_
     all_goals(simp[aa, *];done)
    ·exact sC
    exact⟨by omega,hg⟩
   ·rw[h2] at hg
    simp only[if_true] at hg
    refine sA ?_
    refine ab ?_
    refine sA ?_
    all_goals(simp[hg];done)
  ·rw[List.drop_of_length_le (by omega),bZ] at hg
   simp -implicitDefEqProofs only[go_sem,h1]
   refine ab ?_
   refine sA ?_
   all_goals(simp[hg];done)
theorem rH(f:Nat)(cap:List PV)(hcap:mi 0 cap=true)(p:aE→Bool)(xs:List aE)(hf:∀x∈xs,C E.P f (av (kh x)::cap) [] (aO (bv (p x)) [])) :
 C E.P 167 [lv (ay xs),.fn f cap] [] (aO (bv (xs.any p)) []):=by
 refine gS (nt:=9) (rs:=[.tmp 4]) hm Tryz.func167 fun hl he hLB=>?_
 refine cL [] (wW f cap hcap p xs hf) ?_ ?_<;>simp -implicitDefEqProofs only[go_sem,hcap]
 refine ab ?_
 refine sA ?_
 all_goals(simp[tL];done)
theorem vY{terms nums:List Term}{c:List Nat}{lits:List aE}{i k:Nat}:dj true terms nums c lits i k=(!Mod.linked nums lits i k&&eM terms c (nums.getD i ao) (nums.getD k ao)):=rfl
theorem CT{terms nums:List Term}{c:List Nat}{lits:List aE}{i k:Nat}:dj false terms nums c lits i k=(!Mod.linked nums lits i k&&(!cu nums lits i k&& !cu nums lits k i)):=rfl
theorem JT(l less:aE):C E.P 168 [av (kh l),.cf [kh less] 0 0] [] (aO (bv (!l.no&&decide (l.atom=less.atom))) []):=by
 have hco:=xf l.atom less.atom
 refine gS (nt:=14) (rs:=[.tmp 3]) hm Tryz.func168 fun hl he hLB=>?_
 cases h:l.no
 ·refine sA ?_
  refine aC [] hco ?_
  refine ab ?_
  simp -implicitDefEqProofs only[go_sem]
  all_goals((repeat' apply And.intro)<;>rfl)
 ·refine sA ?_
  refine ab ?_
  simp -implicitDefEqProofs only[go_sem]
  all_goals((repeat' apply And.intro)<;>rfl)
theorem Ea(s:bA)(terms nums:List Term)(lits:List aE)(i k:Nat)(hi:i<nums.length)(hk:k<nums.length)(hnt:∀t∈nums,isTerm t=true):C E.P 101 [.cf [fW s terms nums] 0 0,lv (ay lits),iv i,iv k] [] (aO (bv (cu nums lits i k)) []):=by
 have ga:nums.getD i ao=nums[i]:=db hi
 have gb:nums.getD k ao=nums[k]:=db hk
 have hls:=lu nums[i] nums[k] (hnt _ (List.getElem_mem hi)) (hnt _ (List.getElem_mem hk))
 have hst:cu nums lits i k=lits.any fun l=>!l.no&&decide (l.atom=(ct nums[i] nums[k]).atom):=by rw[←ga,←gb];rfl
 rw[hst]
 generalize ct nums[i] nums[k]=less at hls
 refine gS (nt:=28) (rs:=[.tmp 8]) hm Tryz.func101 fun hl he hLB=>?_
 simp -implicitDefEqProofs only[go_sem,hi,hk]
 refine aC [] hls ?_
 refine iK ?_
 refine bK [] [0] (rH 168 [.cf [kh less] 0 0] rfl (fun l=>!l.no&&decide (l.atom=less.atom)) lits (fun l _=>JT l less)) rfl ?_ ?_ ?_
 ·exact sV
 all_goals simp -implicitDefEqProofs only[go_sem]
 refine ab ?_
 simp -implicitDefEqProofs only[go_sem]
 all_goals((repeat' apply And.intro)<;>rfl)
section
variable(s:bA)(terms nums:List Term)(c ls:List Nat)(steps:List Step)(lits:List aE)
theorem Rm(i k:Nat)(hi:i<nums.length)(hk:k<nums.length)(hsub:∀t∈nums,t∈terms)(hc:c.length=terms.length):C E.P 93 [iv i,iv k,.ptr 0 0,.ptr 1 0] [some (.box [.ptr 2 0]),some (.box [.ptr 3 0]),some (.box [lv (aj terms),lv (aP c),lv (ax steps)]),some (.box (bn (fW s terms nums)))] (aO (bv (eM terms c nums[i] nums[k])) [some (.box [.ptr 2 0]),some (.box [.ptr 3 0]),some (.box [lv (aj terms),lv (aP c),lv (ax steps)]),some (.box (bn (fW s terms nums)))]):=by
 have hA:=hsub _ (List.getElem_mem hi)
 have hB:=hsub _ (List.getElem_mem hk)
 have pA:=aU hA
 have pB:=aU hB
 have pA':al terms nums[i]<c.length:=by omega
 have pB':al terms nums[k]<c.length:=by omega
 have eA:c[al terms nums[i]]=cl c (al terms nums[i]):=(fh pA').symm
 have eB:c[al terms nums[k]]=cl c (al terms nums[k]):=(fh pB').symm
 have ca:=uP terms c steps nums[i]
 have cb:=uP terms c steps nums[k]
 rw[bo hA] at ca
 rw[bo hB] at cb
 refine gS (nt:=38) (rs:=[.tmp 6]) hm Tryz.func93 fun hl he hLB=>?_
 simp -implicitDefEqProofs only[go_sem,hi]
 refine bK [] [2] ca rfl ?_ ?_ ?_
 ·exact sV
 all_goals simp -implicitDefEqProofs only[go_sem,pA',eA,hk]
 refine bK [] [2] cb rfl ?_ ?_ ?_
 ·exact sV
 all_goals simp -implicitDefEqProofs only[go_sem,pB',eB]
 refine iK ?_
 refine aG [some 0,some 1,some 2,some 3] ?_ rfl rfl
 refine sA ?_
 all_goals((repeat' apply And.intro)<;>rfl)
theorem Qf(i k:Nat)(hi:i<nums.length)(hk:k<nums.length)(hsub:∀t∈nums,t∈terms)(hc:c.length=terms.length)(hll:ls.length=nums.length):C E.P 96 [iv i,iv k,.ptr 0 0,.ptr 1 0] [some (.box [lv (aP ls)]),some (.box [.fn 93 [.ptr 2 0,.ptr 3 0]]),some (.box [.ptr 4 0]),some (.box [.ptr 5 0]),some (.box [lv (aj terms),lv (aP c),lv (ax steps)]),some (.box (bn (fW s terms nums)))] (aO (bv (!decide (cl ls i=cl ls k)&&eM terms c nums[i] nums[k])) [some (.box [lv (aP ls)]),some (.box [.fn 93 [.ptr 2 0,.ptr 3 0]]),some (.box [.ptr 4 0]),some (.box [.ptr 5 0]),some (.box [lv (aj terms),lv (aP c),lv (ax steps)]),some (.box (bn (fW s terms nums)))]):=by
 have hi':i<ls.length:=by omega
 have hk':k<ls.length:=by omega
 have ei:ls[i]=cl ls i:=(fh hi').symm
 have ek:ls[k]=cl ls k:=(fh hk').symm
 have hco:=Rm s terms nums c steps i k hi hk hsub hc
 refine gS (nt:=22) (rs:=[.tmp 6]) hm Tryz.func96 fun hl he hLB=>?_
 rcases Classical.em (cl ls i=cl ls k) with h|h
 ·have kk:=eq_true h
  simp -implicitDefEqProofs only[go_sem,hi',hk',ei,ek,kk]
  refine iK ?_
  refine aG [some 0,some 1,some 2,some 3,some 4,some 5] ?_ rfl rfl
  simp -implicitDefEqProofs only[go_sem]
  all_goals rw[decide_eq_true h]
  all_goals((repeat' apply And.intro)<;>rfl)
 ·simp -implicitDefEqProofs only[go_sem,hi',hk',ei,ek,h]
  refine cz [.ptr 2 0,.ptr 3 0] [2,3,4,5] hco ?_ ?_
  ·refine sA ?_
   first|rfl|((repeat' apply And.intro)<;>rfl)
  refine sA ?_
  refine iK ?_
  refine aG [some 0,some 1,some 2,some 3,some 4,some 5] ?_ rfl rfl
  simp -implicitDefEqProofs only[go_sem]
  all_goals rw[decide_eq_false h]
  all_goals((repeat' apply And.intro)<;>rfl)
theorem P3(i k:Nat)(hi:i<nums.length)(hk:k<nums.length)(hnt:∀t∈nums,isTerm t=true)(hll:ls.length=nums.length):C E.P 100 [iv i,iv k,.ptr 0 0,.ptr 1 0,.ptr 2 0] [some (.box [lv (aP ls)]),some (.box [.ptr 3 0]),some (.box [lv (ay lits)]),some (.box (bn (fW s terms nums)))] (aO (bv (!decide (cl ls i=cl ls k)&&(!cu nums lits i k&& !cu nums lits k i))) [some (.box [lv (aP ls)]),some (.box [.ptr 3 0]),some (.box [lv (ay lits)]),some (.box (bn (fW s terms nums)))]):=by
 have hi':i<ls.length:=by omega
 have hk':k<ls.length:=by omega
 have ei:ls[i]=cl ls i:=(fh hi').symm
 have ek:ls[k]=cl ls k:=(fh hk').symm
 have c1:=Ea s terms nums lits i k hi hk hnt
 have c2:=Ea s terms nums lits k i hk hi hnt
 refine gS (nt:=33) (rs:=[.tmp 7]) hm Tryz.func100 fun hl he hLB=>?_
 rcases Classical.em (cl ls i=cl ls k) with h|h
 ·have kk:=eq_true h
  simp -implicitDefEqProofs only[go_sem,hi',hk',ei,ek,kk]
  refine iK ?_
  refine aG [some 0,some 1,some 2,some 3] ?_ rfl rfl
  simp -implicitDefEqProofs only[go_sem]
  all_goals rw[decide_eq_true h]
  all_goals((repeat' apply And.intro)<;>rfl)
 ·simp -implicitDefEqProofs only[go_sem,hi',hk',ei,ek,h]
  refine bK [] [3] c1 rfl ?_ ?_ ?_
  ·exact sV
  all_goals simp -implicitDefEqProofs only[go_sem]
  cases h2:cu nums lits i k
  ·refine sA ?_
   refine bK [] [3] c2 rfl ?_ ?_ ?_
   ·exact sV
   all_goals simp -implicitDefEqProofs only[go_sem]
   refine iK ?_
   refine aG [some 0,some 1,some 2,some 3] ?_ rfl rfl
   simp -implicitDefEqProofs only[go_sem]
   all_goals rw[decide_eq_false h]
   all_goals((repeat' apply And.intro)<;>rfl)
  ·refine sA ?_
   refine iK ?_
   refine aG [some 0,some 1,some 2,some 3] ?_ rfl rfl
   simp -implicitDefEqProofs only[go_sem]
   all_goals rw[decide_eq_false h]
   all_goals((repeat' apply And.intro)<;>rfl)
theorem Lg(hsub:∀t∈nums,t∈terms)(hc:c.length=terms.length)(h4:nums.length≤4):C E.P 95 [.ptr 5 0,.fn 96 [.ptr 0 0,.ptr 1 0]] [some (.box [lv (aP (dR nums (aI lits)))]),some (.box [.fn 93 [.ptr 2 0,.ptr 3 0]]),some (.box [.ptr 4 0]),some (.box [.ptr 5 0]),some (.box [lv (aj terms),lv (aP c),lv (ax steps)]),some (.box (bn (fW s terms nums)))] (aO (.eZ [iv (((bj nums.length (dj true terms nums c lits)).getD (0,0)).1:Nat),iv (((bj nums.length (dj true terms nums c lits)).getD (0,0)).2:Nat),bv (bj nums.length (dj true terms nums c lits)).isSome]) [some (.box [lv (aP (dR nums (aI lits)))]),some (.box [.fn 93 [.ptr 2 0,.ptr 3 0]]),some (.box [.ptr 4 0]),some (.box [.ptr 5 0]),some (.box [lv (aj terms),lv (aP c),lv (ax steps)]),some (.box (bn (fW s terms nums)))]):=by
 have hll:(dR nums (aI lits)).length=nums.length:=ko _ _
 obtain⟨fp,hfp⟩:∃f,bj nums.length (dj true terms nums c lits)=f:=⟨_,rfl⟩
 rw[hfp]
 refine gS (nt:=35) (rs:=[.tmp 4,.tmp 5,.tmp 6]) hm Tryz.func95 fun hl he hLB=>?_
 refine au hm (fun(i:Nat)=> i≤nums.length∧fp=(bq i nums.length).find? (fun q=>dj true terms nums c lits q.1 q.2)) (fun(i:Nat)=> ⟨b9 35 .any [(0,.ptr 5 0),(1,.fn 96 [.ptr 0 0,.ptr 1 0]),(13,iv nums.length),(14,iv i)],[some (.box [lv (aP (dR nums (aI lits)))]),some (.box [.fn 93 [.ptr 2 0,.ptr 3 0]]),some (.box [.ptr 4 0]),some (.box [.ptr 5 0]),some (.box [lv (aj terms),lv (aP c),lv (ax steps)]),some (.box (bn (fW s terms nums)))]⟩) (fun(i:Nat)=> nums.length-i) (0) ?_ (ah [some 0,some 1,some 2,some 3,some 4,some 5] ?_ ?_ rfl rfl) ?_
 rotate_left
 ·exact sC
 ·exact sC
 rotate_left
 ·exact⟨Nat.zero_le _,hfp.symm⟩
 ·rintro i ⟨hi,hg⟩
  rcases Classical.em (i<nums.length) with h1|h1
  ·rw[oh h1] at hg
   simp -implicitDefEqProofs only[go_sem,h1]
   repeat(with_reducible apply And.intro;exact sO)
   refine au hm (fun(k:Nat)=> i<k∧k≤nums.length∧fp=(gY i k nums.length).find? (fun q=>dj true terms nums c lits q.1 q.2)) (fun(k:Nat)=> ⟨b9 35 .any [(0,.ptr 5 0),(1,.fn 96 [.ptr 0 0,.ptr 1 0]),(7,iv i),(8,iv k),(13,iv nums.length),(14,iv i)],[some (.box [lv (aP (dR nums (aI lits)))]),some (.box [.fn 93 [.ptr 2 0,.ptr 3 0]]),some (.box [.ptr 4 0]),some (.box [.ptr 5 0]),some (.box [lv (aj terms),lv (aP c),lv (ax steps)]),some (.box (bn (fW s terms nums)))]⟩) (fun(k:Nat)=> nums.length-k) (i+1) ?_ (ah [some 0,some 1,some 2,some 3,some 4,some 5] ?_ ?_ rfl rfl) ?_
   rotate_left
   ·exact sC
   ·exact sC
   rotate_left
   ·exact⟨by omega,by omega,hg⟩
   ·rintro k ⟨hik,hk,hg⟩
    rcases Classical.em (k<nums.length) with h2|h2
    ·have hco:=Qf s terms nums c (dR nums (aI lits)) steps i k h1 h2 hsub hc hll
     have ga:nums.getD i ao=nums[i]:=db h1
     have gb:nums.getD k ao=nums[k]:=db h2
     have eo:dj true terms nums c lits i k=(!decide (cl (dR nums (aI lits)) i=cl (dR nums (aI lits)) k)&&eM terms c nums[i] nums[k]):=by rw[vY,ga,gb];rfl
     obtain⟨bb,hbb⟩:∃b,(!decide (cl (dR nums (aI lits)) i=cl (dR nums (aI lits)) k)&&eM terms c nums[i] nums[k])=b:=⟨_,rfl⟩
     rw[hbb] at eo hco
     rw[pI h2,List.find?_cons] at hg
     simp only[eo] at hg
     simp -implicitDefEqProofs only[go_sem,h2]
     refine cz [.ptr 0 0,.ptr 1 0] [0,1,2,3,4,5] hco ?_ ?_
     ·refine sA ?_
      first|rfl|((repeat' apply And.intro)<;>rfl)
     refine sA ?_
     cases h3:bb
     ·rw[h3] at hg
      refine sA ?_
      repeat(with_reducible apply And.intro;exact sO)
      refine⟨k+1,?_,?_,ah [some 0,some 1,some 2,some 3,some 4,some 5] ?_ ?_ rfl rfl⟩
      rotate_left
      ·show _ < _
       omega
      ·exact sC
      ·exact sC
      exact⟨by omega,by omega,hg⟩
     ·rw[h3] at hg
      simp only at hg
      refine sA ?_
      refine aG [some 0,some 1,some 2,some 3,some 4,some 5] ?_ rfl rfl
      refine sA ?_
      rw[hg]
      all_goals((repeat' apply And.intro)<;>rfl)
    ·rw[qX (by omega)] at hg
     simp -implicitDefEqProofs only[go_sem,h2]
     repeat(with_reducible apply And.intro;exact sO)
     refine⟨i+1,?_,?_,ah [some 0,some 1,some 2,some 3,some 4,some 5] ?_ ?_ rfl rfl⟩
     rotate_left
     ·show _ < _
      omega
     ·exact sC
     ·exact sC
     exact⟨by omega,hg⟩
  ·rw[oH (by omega),List.find?_nil] at hg
   simp -implicitDefEqProofs only[go_sem,h1]
   refine aG [some 0,some 1,some 2,some 3,some 4,some 5] ?_ rfl rfl
   refine sA ?_
   rw[hg]
   all_goals((repeat' apply And.intro)<;>rfl)
theorem L2(hnt:∀t∈nums,isTerm t=true)(h4:nums.length≤4):C E.P 95 [.ptr 3 0,.fn 100 [.ptr 0 0,.ptr 1 0,.ptr 2 0]] [some (.box [lv (aP (dR nums (aI lits)))]),some (.box [.ptr 3 0]),some (.box [lv (ay lits)]),some (.box (bn (fW s terms nums)))] (aO (.eZ [iv (((bj nums.length (dj false terms nums c lits)).getD (0,0)).1:Nat),iv (((bj nums.length (dj false terms nums c lits)).getD (0,0)).2:Nat),bv (bj nums.length (dj false terms nums c lits)).isSome]) [some (.box [lv (aP (dR nums (aI lits)))]),some (.box [.ptr 3 0]),some (.box [lv (ay lits)]),some (.box (bn (fW s terms nums)))]):=by
 have hll:(dR nums (aI lits)).length=nums.length:=ko _ _
 obtain⟨fp,hfp⟩:∃f,bj nums.length (dj false terms nums c lits)=f:=⟨_,rfl⟩
 rw[hfp]
 refine gS (nt:=35) (rs:=[.tmp 4,.tmp 5,.tmp 6]) hm Tryz.func95 fun hl he hLB=>?_
 refine au hm (fun(i:Nat)=> i≤nums.length∧fp=(bq i nums.length).find? (fun q=>dj false terms nums c lits q.1 q.2)) (fun(i:Nat)=> ⟨b9 35 .any [(0,.ptr 3 0),(1,.fn 100 [.ptr 0 0,.ptr 1 0,.ptr 2 0]),(13,iv nums.length),(14,iv i)],[some (.box [lv (aP (dR nums (aI lits)))]),some (.box [.ptr 3 0]),some (.box [lv (ay lits)]),some (.box (bn (fW s terms nums)))]⟩) (fun(i:Nat)=> nums.length-i) (0) ?_ (ah [some 0,some 1,some 2,some 3] ?_ ?_ rfl rfl) ?_
 rotate_left
 ·exact sC
 ·exact sC
 rotate_left
 ·exact⟨Nat.zero_le _,hfp.symm⟩
 ·rintro i ⟨hi,hg⟩
  rcases Classical.em (i<nums.length) with h1|h1
  ·rw[oh h1] at hg
   simp -implicitDefEqProofs only[go_sem,h1]
   repeat(with_reducible apply And.intro;exact sO)
   refine au hm (fun(k:Nat)=> i<k∧k≤nums.length∧fp=(gY i k nums.length).find? (fun q=>dj false terms nums c lits q.1 q.2)) (fun(k:Nat)=> ⟨b9 35 .any [(0,.ptr 3 0),(1,.fn 100 [.ptr 0 0,.ptr 1 0,.ptr 2 0]),(7,iv i),(8,iv k),(13,iv nums.length),(14,iv i)],[some (.box [lv (aP (dR nums (aI lits)))]),some (.box [.ptr 3 0]),some (.box [lv (ay lits)]),some (.box (bn (fW s terms nums)))]⟩) (fun(k:Nat)=> nums.length-k) (i+1) ?_ (ah [some 0,some 1,some 2,some 3] ?_ ?_ rfl rfl) ?_
   rotate_left
   ·exact sC
   ·exact sC
   rotate_left
   ·exact⟨by omega,by omega,hg⟩
   ·rintro k ⟨hik,hk,hg⟩
    rcases Classical.em (k<nums.length) with h2|h2
    ·have hco:=P3 s terms nums (dR nums (aI lits)) lits i k h1 h2 hnt hll
     have ga:nums.getD i ao=nums[i]:=db h1
     have gb:nums.getD k ao=nums[k]:=db h2
     have eo:dj false terms nums c lits i k=(!decide (cl (dR nums (aI lits)) i=cl (dR nums (aI lits)) k)&&(!cu nums lits i k&& !cu nums lits k i)):=by rw[CT];rfl
     obtain⟨bb,hbb⟩:∃b,(!decide (cl (dR nums (aI lits)) i=cl (dR nums (aI lits)) k)&&(!cu nums lits i k&& !cu nums lits k i))=b:=⟨_,rfl⟩
     rw[hbb] at eo hco
     rw[pI h2,List.find?_cons] at hg
     simp only[eo] at hg
     simp -implicitDefEqProofs only[go_sem,h2]
     refine cz [.ptr 0 0,.ptr 1 0,.ptr 2 0] [0,1,2,3] hco ?_ ?_
     ·refine sA ?_
      first|rfl|((repeat' apply And.intro)<;>rfl)
     refine sA ?_
     cases h3:bb
     ·rw[h3] at hg
      refine sA ?_
      repeat(with_reducible apply And.intro;exact sO)
      refine⟨k+1,?_,?_,ah [some 0,some 1,some 2,some 3] ?_ ?_ rfl rfl⟩
      rotate_left
      ·show _ < _
       omega
      ·exact sC
      ·exact sC
      exact⟨by omega,by omega,hg⟩
     ·rw[h3] at hg
      simp only at hg
      refine sA ?_
      refine aG [some 0,some 1,some 2,some 3] ?_ rfl rfl
      refine sA ?_
      rw[hg]
      all_goals((repeat' apply And.intro)<;>rfl)
    ·rw[qX (by omega)] at hg
     simp -implicitDefEqProofs only[go_sem,h2]
     repeat(with_reducible apply And.intro;exact sO)
     refine⟨i+1,?_,?_,ah [some 0,some 1,some 2,some 3] ?_ ?_ rfl rfl⟩
     rotate_left
     ·show _ < _
      omega
     ·exact sC
     ·exact sC
     exact⟨by omega,hg⟩
  ·rw[oH (by omega),List.find?_nil] at hg
   simp -implicitDefEqProofs only[go_sem,h1]
   refine aG [some 0,some 1,some 2,some 3] ?_ rfl rfl
   refine sA ?_
   rw[hg]
   all_goals((repeat' apply And.intro)<;>rfl)
end
end Go.Proofs.YtpidddienjoleaaGreat
