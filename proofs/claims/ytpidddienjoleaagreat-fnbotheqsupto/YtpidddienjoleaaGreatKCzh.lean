/-
  The program: why two parts are one. A step towards the laws.
-/
import Derived.Test.YtpidddienjoleaaGreatKCzg
import Derived.Test.YtpidddienjoleaaGreatKCDa
import Derived.Test.YtpidddienjoleaaGreatKCd
import Derived.Test.YtpidddienjoleaaGreatKCN
import Derived.Test.YtpidddienjoleaaGreatKCEl
set_option linter.unusedVariables false
set_option linter.unusedSimpArgs false
namespace Go.Proofs.YtpidddienjoleaaGreat
open Go.Eng Go.Mod
open Int renaming reduceEq→Z1,reduceLT→Z2,reduceLE→Z3,reduceToNat→Z4
set_option maxRecDepth 100000
set_option maxHeartbeats 3200000
section
variable(parts:List Term)(eqs:List e6)(c:List Nat)(steps:List Step)
theorem Au(a:iy):dC [a]=[rm a]:=by rw[jN,iZ]
theorem I0(a b:iy):dC [a,b]=[rm a,rm b]:=by rw[jN,jN,iZ]
theorem kj(hok:jJ parts eqs steps)(hk:dU parts)(hl9:parts.length≤1000)(hk9:∀t∈parts,t.kids.length≤1000)(f:Nat)
 (ih:∀n a b,n<f→n≤steps.length→a<parts.length→b<parts.length→cl (aw parts.length steps n) a=cl (aw parts.length steps n) b→C E.P 165 [.ptr 0 0,iv a,iv b,iv n] [some (.box [lv (ai parts),lv (aN c),lv (ar steps)])] (aM (av (rm (nw parts steps f n a b))) [some (.box [lv (ai parts),lv (aN c),lv (ar steps)])]))
 (d:Mod.Edge) (hi:d.step<steps.length) (hf:d.step<f):C E.P 221 [.ptr 0 0,av (qi d)] [some (.box [lv (ai parts),lv (aN c),lv (ar steps)])] (aM (av (rm (lA parts steps (nw parts steps f) d))) [some (.box [lv (ai parts),lv (aN c),lv (ar steps)])]):=by
 obtain⟨i,back⟩:=d
 simp only at hi hf
 have hs:=yV hi
 have hso:=pH hok hi
 have a0:=hso.a0
 have b0:=hso.b0
 have a1:=DG hok hi
 have b1:=Ew hok hi
 have eA:steps[i].A=(vA steps i:Int):=by rw[vA,hs];rw[hs] at a0;omega
 have eB:steps[i].B=(vB steps i:Int):=by rw[vB,hs];rw[hs] at b0;omega
 have Rb:=hso.Rb
 have hE:wQ parts steps (nw parts steps f) i=if steps[i].given<0 then .mk 5 0 (.mk (parts.getD (vA steps i) ao).name []) (((parts.getD (vA steps i) ao).kids.zip (parts.getD (vB steps i) ao).kids).map fun p=>nw parts steps f i (au parts p.1) (au parts p.2)) else .mk 2 steps[i].given ao []:=by rw[wQ,hs]
 have hed:=FY parts steps (nw parts steps f) ⟨i,back⟩
 simp only at hed
 rw[hs] at Rb
 have hLB:=uO
 refine Ak (nt:=80) (rs:=[.cell 4 38]) Tryz.func221 rfl rfl rfl rfl rfl (fun hl he=>?_)
 simp -implicitDefEqProofs only[go_sem] at hl⊢
 refine lW hm ?_
 rcases Classical.em (steps[i].given<0) with h0|h0
 ·rw[if_pos h0] at hE
  have hal:alike parts (aw parts.length steps i) (vA steps i) (vB steps i)=true:=by
   rcases Rb with h|⟨n,h,_⟩
   ·rw[vA,vB,hs];exact h.2
   ·omega
  obtain⟨q1,q2,q3,q4⟩:=KY hal
  have gA:parts.getD (vA steps i) ao=parts[vA steps i]:=by rw[List.getD_eq_getElem?_getD,List.getElem?_eq_getElem a1];rfl
  have gB:parts.getD (vB steps i) ao=parts[vB steps i]:=by rw[List.getD_eq_getElem?_getD,List.getElem?_eq_getElem b1];rfl
  have mA:=List.getElem_mem a1
  have mB:=List.getElem_mem b1
  obtain⟨x,hx⟩:∃x,parts[vA steps i]=x:=⟨_,rfl⟩
  obtain⟨y,hy⟩:∃y,parts[vB steps i]=y:=⟨_,rfl⟩
  rw[hx] at gA mA
  rw[hy] at gB mB
  rw[gA] at q1 q2 q3 q4 hE
  rw[gB] at q2 q3 q4 hE
  have kx:=hk _ mA
  have ky:=hk _ mB
  have kl:=hk9 _ mA
  simp -implicitDefEqProofs only[go_sem,hi,h0,eA,eB,a1,b1,hx,hy]
  refine iK ?_
  refine iK ?_
  refine al hm (fun(k:Nat)=> k≤x.kids.length) (fun(k:Nat)=> ⟨bW 80 .any [(0,.ptr 0 0),(3,.ptr 1 0),(4,.ptr 2 0),(6,.ptr 3 0),(7,.ptr 4 0),(8,.ptr 5 0),(46,iv x.kids.length),(47,iv k)],[some (.box [lv (ai parts),lv (aN c),lv (ar steps)]),some (.box [iv i,bv back]),some (.box (bn (rm uy))),some (.box [iv 5,iv 0,sv x.name,lv [],.acc 6]),some (.box (bn (cT x))),some (.box (bn (cT y))),some (.acc 38 (dC (((x.kids.zip y.kids).take k).map fun p=>nw parts steps f i (au parts p.1) (au parts p.2))))]⟩) (fun(k:Nat)=> x.kids.length-k) (0) ?_ (ah [some 0,some 1,some 2,some 4,some 5,some 6,none] ?_ ?_ rfl rfl) ?_
  rotate_left
  ·exact sC
  ·exact sC
  rotate_left
  ·omega
  ·rintro k hk1
   have hzl:(((x.kids.zip y.kids).take k).map fun p=>nw parts steps f i (au parts p.1) (au parts p.2)).length≤1000:=by simp;omega
   rcases Classical.em (k<x.kids.length) with h1|h1
   ·have h2:k<y.kids.length:=by omega
    have mx:=kx _ (List.getElem_mem h1)
    have my:=ky _ (List.getElem_mem h2)
    have px:=bC mx
    have py:=bC my
    have cx:=bm mx
    have cy:=bm my
    have hc:=ih i (au parts x.kids[k]) (au parts y.kids[k]) hf (by omega) px py (q4 k h1 h2)
    have hz:=Li (f:=fun p=>nw parts steps f i (au parts p.1) (au parts p.2)) h1 h2
    have ca:=rh parts c steps x.kids[k]
    have cb:=rh parts c steps y.kids[k]
    rw[cx] at ca
    rw[cy] at cb
    simp -implicitDefEqProofs only[go_sem,h1]
    refine bG [] [0] ca rfl ?_ ?_ ?_
    ·exact sV
    all_goals simp -implicitDefEqProofs only[go_sem,h2]
    refine bG [] [0] cb rfl ?_ ?_ ?_
    ·exact sV
    all_goals simp -implicitDefEqProofs only[go_sem]
    refine oC [] [0] hc ?_
    repeat(with_reducible apply And.intro;exact sO)
    refine⟨k+1,?_,?_,ah [some 0,some 1,some 2,some 3,some 4,some 5,some 7] ?_ ?_ rfl rfl⟩
    rotate_left
    ·show _ < _
     omega
    ·exact sC
    ·refine sA ?_
     all_goals((rw[hz,←Ee,jN,iZ];rfl))
    exact h1
   ·have et:(x.kids.zip y.kids).take k=x.kids.zip y.kids:=List.take_of_length_le (by simp;omega)
    rw[et]
    cases back
    ·rw[if_neg (by simp),hE] at hed
     simp -implicitDefEqProofs only[go_sem,h1,gZ]
     refine bR ?_
     refine aF [some 0] ?_ rfl rfl
     refine sA ?_
     rw[hed]
     ((repeat' apply And.intro)<;>rfl)
    ·rw[if_pos rfl,hE] at hed
     simp -implicitDefEqProofs only[go_sem,h1,gZ]
     refine⟨_,rG.DL (nD 7 0 _ rfl (by simp) (show hJ _ 0=[T.leaf (D.val (Value.int IntKind.i64 5)),T.leaf (D.val (Value.int IntKind.i64 0)),T.leaf (D.str x.name),T.leaf (D.bu []),T.ref 6] from rfl)),?_⟩
     refine sA ?_
     refine aF [some 0] ?_ rfl rfl
     refine sA ?_
     rw[hed]
     ((repeat' apply And.intro)<;>first|rfl|exact⟨_,(by simp only[List.set_cons_zero,aU,bX,T.yF,fQ];try rfl),Au _⟩)
 ·rw[if_neg h0] at hE
  cases back
  ·rw[if_neg (by simp),hE] at hed
   simp -implicitDefEqProofs only[go_sem,hi,h0,gZ]
   refine iK ?_
   refine bR ?_
   refine aF [some 0] ?_ rfl rfl
   refine sA ?_
   rw[hed]
   ((repeat' apply And.intro)<;>rfl)
  ·rw[if_pos rfl,hE] at hed
   simp -implicitDefEqProofs only[go_sem,hi,h0,gZ]
   refine iK ?_
   refine bR ?_
   refine aF [some 0] ?_ rfl rfl
   refine sA ?_
   rw[hed]
   ((repeat' apply And.intro)<;>first|rfl|exact(Au _).symm)
theorem xg(hok:jJ parts eqs steps)(hk:dU parts)(hl9:parts.length≤1000)(hk9:∀t∈parts,t.kids.length≤1000)(hs9:steps.length≤2000000):∀(f n a b:Nat),n<f→n≤steps.length→a<parts.length→b<parts.length→cl (aw parts.length steps n) a=cl (aw parts.length steps n) b →
 C E.P 165 [.ptr 0 0,iv a,iv b,iv n] [some (.box [lv (ai parts),lv (aN c),lv (ar steps)])] (aM (av (rm (nw parts steps f n a b))) [some (.box [lv (ai parts),lv (aN c),lv (ar steps)])]):=by
 intro f
 induction f with
 | zero=>intro n a b h;omega
 | succ f ih=>
 intro n a b hnf hn ha hb hab
 obtain⟨w1,w2,w3⟩:=rD hok hn ha hb hab
 have cw:=PI parts eqs c steps hok hl9 hs9 n a b hn ha hb hab
 have ga:parts.getD a ao=parts[a]:=by rw[List.getD_eq_getElem?_getD,List.getElem?_eq_getElem ha];rfl
 obtain⟨way,hw⟩:∃w,iq parts.length steps n a b=w:=⟨_,rfl⟩
 have hF:=MA parts steps f n a b
 rw[hw] at hF w1 w3 cw
 have hwl:way.length≤1000:=by
  have h1:=o9 w3 (fun v hv=>by
   simp only[dv,List.mem_cons,List.mem_map] at hv
   rcases hv with rfl|⟨e,he,rfl⟩
   ·exact ha
   ·exact wL hok (by have:=w1 e he;omega))
  simp[dv] at h1
  omega
 refine gS (nt:=50) (rs:=[.cell 8 38]) hm Tryz.func165 fun hl he hLB=>?_
 refine oC [] [0] cw ?_
 rcases Nat.eq_zero_or_pos way.length with hz|hz
 ·obtain rfl:=List.length_eq_zero_iff.1 hz
  rw[Ke] at hF
  simp -implicitDefEqProofs only[go_sem,ha]
  refine aC [] (dJ parts[a]) ?_
  refine aF [some 0] ?_ rfl rfl
  refine sA ?_
  rw[hF,ga]
  ((repeat' apply And.intro)<;>rfl)
 ·have hne:¬ (way.length:Int)=0:=by omega
  have hz':(0:Int)<(way.length:Int):=by omega
  have hst:=w1 _ (List.getElem_mem hz)
  have hco:=kj parts eqs c steps hok hk hl9 hk9 f ih way[0] (by omega) (by omega)
  have f1:(1:Int)≤(way.length:Int)∧∀y∈a6 way,y.length=2:=⟨by omega,Cb _⟩
  obtain⟨ss,hss⟩:∃ss,way.drop 1=ss:=⟨_,rfl⟩
  have hsl:List.take (way.length-1) (List.drop 1 (a6 way))=a6 ss:=by
   rw[←hss,List.take_of_length_le (by simp[a6])]
   simp[a6]
  have hsn:ss.length=way.length-1:=by rw[←hss,List.length_drop]
  have hln:min (way.length-1) (List.drop 1 (a6 way)).length=ss.length:=by rw[hsn];simp[a6]
  have hin:∀d∈ss,d.step<n:=fun d hd=>w1 d (by rw[←hss] at hd;exact List.mem_of_mem_drop hd)
  have hF2:=hF
  rw[DM hz,hss] at hF2
  simp -implicitDefEqProofs only[go_sem,hne,hz]
  refine cm [] [0] hco ?_ ?_<;>simp -implicitDefEqProofs only[go_sem,Z3,Z4]
  repeat(with_reducible apply And.intro;exact sO)
  simp -implicitDefEqProofs only[go_sem,hsl,hln]
  refine bP hm (fun(i:Nat) (w:iy)=> i≤ss.length∧nw parts steps (f+1) n a b=ry (lA parts steps (nw parts steps f)) w (ss.drop i)) (fun(i:Nat) (w:iy)=> ⟨bW 50 .any [(0,.ptr 0 0),(8,.ptr 1 0),(10,.ptr 2 0),(36,lv (a6 ss)),(37,iv ss.length),(38,iv i)],[some (.box [lv (ai parts),lv (aN c),lv (ar steps)]),some (.box (bn (rm uy))),some (.box (bn (rm w)))]⟩) (fun(i:Nat) (w:iy)=> ss.length-i) (0) (lA parts steps (nw parts steps f) way[0]) ?_ (ah [some 0,some 1,some 2] ?_ ?_ rfl rfl) ?_
  rotate_left
  ·exact sC
  ·exact sC
  rotate_left
  ·exact⟨Nat.zero_le _,hF2⟩
  ·rintro i w ⟨hi,hg⟩
   rcases Classical.em (i<ss.length) with h1|h1
   ·have hd:=hin _ (List.getElem_mem h1)
    have hco2:=kj parts eqs c steps hok hk hl9 hk9 f ih ss[i] (by omega) (by omega)
    rw[List.drop_eq_getElem_cons h1,ry] at hg
    simp -implicitDefEqProofs only[go_sem,h1]
    refine oC [] [0] hco2 ?_
    refine iK ?_
    repeat(with_reducible apply And.intro;exact sO)
    refine⟨i+1,.mk 4 0 ao [w,lA parts steps (nw parts steps f) ss[i]],?_,?_,ah [some 0,some 1,some 2] ?_ ?_ rfl rfl⟩
    rotate_left
    ·show _ < _
     omega
    ·exact sC
    ·refine sA ?_
     all_goals(exact⟨rfl,rfl,rfl,rfl,(I0 _ _).symm⟩)
    exact⟨by omega,hg⟩
   ·rw[List.drop_of_length_le (by omega),ry] at hg
    simp -implicitDefEqProofs only[go_sem,h1]
    refine aF [some 0] ?_ rfl rfl
    refine sA ?_
    rw[hg]
    ((repeat' apply And.intro)<;>rfl)
theorem mq(hok:jJ parts eqs steps)(hk:dU parts)(hl9:parts.length≤1000)(hk9:∀t∈parts,t.kids.length≤1000)(hs9:steps.length≤2000000)(x y:Term)(hx:x∈parts)(hy:y∈parts)(hxy:cl (aw parts.length steps steps.length) (au parts x)=cl (aw parts.length steps steps.length) (au parts y)) :
 C E.P 99 [.ptr 0 0,av (cT x),av (cT y)] [some (.box [lv (ai parts),lv (aN c),lv (ar steps)])] (aM (av (rm (Mod.iH parts steps x y))) [some (.box [lv (ai parts),lv (aN c),lv (ar steps)])]):=by
 have hc:=xg parts eqs c steps hok hk hl9 hk9 hs9 (steps.length+1) steps.length (au parts x) (au parts y) (by omega) (Nat.le_refl _) (bC hx) (bC hy) hxy
 have ca:=rh parts c steps x
 have cb:=rh parts c steps y
 rw[bm hx] at ca
 rw[bm hy] at cb
 refine gS (nt:=20) (rs:=[.cell 6 38]) hm Tryz.func99 fun hl he hLB=>?_
 refine bG [] [0] ca rfl ?_ ?_ ?_
 ·exact sV
 all_goals simp -implicitDefEqProofs only[go_sem]
 refine bG [] [0] cb rfl ?_ ?_ ?_
 ·exact sV
 all_goals simp -implicitDefEqProofs only[go_sem]
 refine oC [] [0] hc ?_
 refine iK ?_
 refine aF [some 0] ?_ rfl rfl
 refine sA ?_
 ((repeat' apply And.intro)<;>rfl)
end
end Go.Proofs.YtpidddienjoleaaGreat
namespace Go.Proofs.YtpidddienjoleaaGreat
open Go.Eng Go.Mod
open Int renaming reduceEq→Z1,reduceLT→Z2,reduceLE→Z3,reduceToNat→Z4
set_option maxRecDepth 100000
set_option maxHeartbeats 3200000
def fK(s:bJ)(terms nums:List Term):List D:=[.bu (cM s.syms),.bu (ai terms),.bu (ai nums)]
attribute [go_sem] fK
theorem Bd(s:bJ)(terms nums:List Term)(eqs:List e6)(h4:nums.length≤4)(he9:eqs.length≤1000):C E.P 92 [.ptr 0 0,lv (bj eqs)] [some (.box (bn (fK s terms nums)))] (aM (lv (aN (dN nums eqs))) [some (.box (bn (fK s terms nums)))]):=by
 refine gS (nt:=82) (rs:=[.tmp 4]) hm Tryz.func92 fun hl he hLB=>?_
 repeat(with_reducible apply And.intro;exact sO)
 refine bP hm (fun(i:Nat) (c:List Nat)=> i≤nums.length∧c.length=nums.length∧c.take i=List.range i) (fun(i:Nat) (c:List Nat)=> ⟨bW 82 .any [(0,.ptr 0 0),(1,lv (bj eqs)),(5,.acc 1),(22,iv nums.length),(23,iv i)],[some (.box (bn (fK s terms nums))),some (.acc 3 (aN c))]⟩) (fun(i:Nat) (c:List Nat)=> nums.length-i) (0) (List.replicate nums.length 0) ?_ (ah [some 0,some 1] ?_ ?_ rfl rfl) ?_
 rotate_left
 ·refine sA ?_
  all_goals((simp[]))
 ·refine sA ?_
  all_goals((simp[aN]))
 rotate_left
 ·exact⟨Nat.zero_le _,by simp,rfl⟩
 ·rintro i c ⟨hi,hc,ht⟩
  rcases Classical.em (i<nums.length) with h1|h1
  ·have h1':i<c.length:=by omega
   have hp:=pE (l:=c) (i:=i) (n:=i) h1'
   rw[jS h1'] at hp
   simp -implicitDefEqProofs only[go_sem,h1,h1']
   repeat(with_reducible apply And.intro;exact sO)
   refine⟨i+1,c.set i i,?_,?_,ah [some 0,some 1] ?_ ?_ rfl rfl⟩
   rotate_left
   ·show _ < _
    omega
   ·exact sC
   ·refine sA ?_
    all_goals(exact hp)
   refine⟨by omega,by simpa using hc,?_⟩
   rw[List.range_succ,←ht,List.take_add_one,List.take_set_of_le (Nat.le_refl _)]
   simp[h1']
  ·obtain rfl:i=nums.length:=by omega
   have e:c=List.range nums.length:=by
    rw[←ht,List.take_of_length_le (by omega)]
   rw[e]
   simp -implicitDefEqProofs only[go_sem,h1]
   clear hi hc ht h1 e c
   refine bP hm (fun(n:Nat) (c:List Nat)=> n≤eqs.length∧c.length=nums.length∧dN nums eqs=(eqs.drop n).foldl (di nums) c) (fun(n:Nat) (c:List Nat)=> ⟨bW 82 .any [(0,.ptr 0 0),(5,.acc 1),(31,lv (bj eqs)),(32,iv eqs.length),(33,iv n)],[some (.box (bn (fK s terms nums))),some (.acc 3 (aN c))]⟩) (fun(n:Nat) (c:List Nat)=> eqs.length-n) (0) (List.range nums.length) ?_ (ah [some 0,some 1] ?_ ?_ rfl rfl) ?_
   rotate_left
   ·exact sC
   ·exact sC
   rotate_left
   ·exact⟨Nat.zero_le _,by simp,rfl⟩
   ·rintro n c ⟨hn,hc,hg⟩
    rcases Classical.em (n<eqs.length) with h1|h1
    ·rw[List.drop_eq_getElem_cons h1,List.foldl_cons] at hg
     rcases Classical.em (eqs[n].A∈nums) with hA|hA
     ·rcases Classical.em (eqs[n].B∈nums) with hB|hB
      ·have pA:=bC hA
       have pB:=bC hB
       have cA:=bm hA
       have cB:=bm hB
       have ca:=bz nums eqs[n].A
       have cb:=bz nums eqs[n].B
       rw[cA] at ca
       rw[cB] at cb
       have es:di nums c eqs[n]=c.map fun k=>if k=cl c (au nums eqs[n].A) then cl c (au nums eqs[n].B) else k:=by rw[di,if_neg (by omega)]
       have hlen:=sk nums c eqs[n]
       rw[es] at hg hlen
       generalize au nums eqs[n].A=a at *
       generalize au nums eqs[n].B=b at *
       have pA':a<c.length:=by omega
       have pB':b<c.length:=by omega
       have eA:c[a]=cl c a:=(fc pA').symm
       have eB:c[b]=cl c b:=(fc pB').symm
       have nA:¬ (a:Int)<0:=by omega
       have nB:¬ (b:Int)<0:=by omega
       obtain⟨f,hf⟩:∃f,cl c a=f:=⟨_,rfl⟩
       obtain⟨t,ht⟩:∃t,cl c b=t:=⟨_,rfl⟩
       rw[hf] at eA hg hlen
       rw[ht] at eB hg hlen
       have hend:∀i,c.length≤i→cE c f t i=c.map fun k=>if k=f then t else k:=fun i hi=>by
        unfold cE
        rw[List.take_of_length_le hi,List.drop_of_length_le hi,List.append_nil]
       simp -implicitDefEqProofs only[go_sem,h1]
       refine aC [] ca ?_
       refine aC [] cb ?_
       refine iK ?_
       simp -implicitDefEqProofs only[go_sem,nA,nB,pA',pB',eA,eB]
       refine iK ?_
       refine al hm (fun(i:Nat)=> i≤c.length) (fun(i:Nat)=> ⟨bW 82 .any [(0,.ptr 0 0),(5,.acc 1),(11,iv f),(12,iv t),(31,lv (bj eqs)),(32,iv eqs.length),(33,iv n),(65,.acc 1),(66,iv c.length),(67,iv i)],[some (.box (bn (fK s terms nums))),some (.acc 3 (aN (cE c f t i)))]⟩) (fun(i:Nat)=> c.length-i) (0) ?_ (ah [some 0,some 1] ?_ ?_ rfl rfl) ?_
       rotate_left
       ·exact sC
       ·refine sA ?_
        all_goals((simp[cE]))
       rotate_left
       ·omega
       ·rintro i hi
        have hjl:=mI c f t i
        rcases Classical.em (i<c.length) with h2|h2
        ·have h2':i<(cE c f t i).length:=by omega
         have eg:=m9 (f:=f) (t:=t) h2 h2'
         rcases Classical.em (c[i]=f) with h3|h3
         ·have k3:=eq_true h3
          have hp:=pE (l:=cE c f t i) (i:=i) (n:=t) h2'
          have hnx:=kV (f:=f) (t:=t) h2
          rw[if_pos h3] at hnx
          rw[jS h2',eg] at hp
          simp -implicitDefEqProofs only[go_sem,hjl,h2,eg,k3]
          repeat(with_reducible apply And.intro;exact sO)
          refine⟨i+1,?_,?_,ah [some 0,some 1] ?_ ?_ rfl rfl⟩
          rotate_left
          ·show _ < _
           omega
          ·exact sC
          ·refine sA ?_
           all_goals((rw[hp,hnx]))
          exact h2
         ·have hnx:=nX (f:=f) (t:=t) h2 h3
          simp -implicitDefEqProofs only[go_sem,hjl,h2,eg,h3]
          repeat(with_reducible apply And.intro;exact sO)
          refine⟨i+1,?_,?_,ah [some 0,some 1] ?_ ?_ rfl rfl⟩
          rotate_left
          ·show _ < _
           omega
          ·exact sC
          ·refine sA ?_
           all_goals((rw[hnx]))
          exact h2
        ·rw[hend i (by omega)] at hjl⊢
         simp -implicitDefEqProofs only[go_sem,h2]
         repeat(with_reducible apply And.intro;exact sO)
         refine⟨n+1,(c.map fun k=>if k=f then t else k),?_,?_,ah [some 0,some 1] ?_ ?_ rfl rfl⟩
         rotate_left
         ·show _ < _
          omega
         ·exact sC
         ·exact sC
         exact⟨by omega,by simpa using hc,hg⟩
      ·have h3:a8 nums eqs[n].B<0:=by
        have:=(not_congr df).2 hB
        omega
       have cA:=bm hA
       have nA:¬a8 nums eqs[n].A<0:=by omega
       have es:di nums c eqs[n]=c:=by rw[di,if_pos (.inr h3)]
       rw[es] at hg
       simp -implicitDefEqProofs only[go_sem,h1]
       refine aC [] (bz nums eqs[n].A) ?_
       refine aC [] (bz nums eqs[n].B) ?_
       refine iK ?_
       simp -implicitDefEqProofs only[go_sem,nA,h3]
       repeat(with_reducible apply And.intro;exact sO)
       refine⟨n+1,c,?_,?_,ah [some 0,some 1] ?_ ?_ rfl rfl⟩
       rotate_left
       ·show _ < _
        omega
       ·exact sC
       ·exact sC
       exact⟨by omega,hc,hg⟩
     ·have h3:a8 nums eqs[n].A<0:=by
       have:=(not_congr df).2 hA
       omega
      have es:di nums c eqs[n]=c:=by rw[di,if_pos (.inl h3)]
      rw[es] at hg
      simp -implicitDefEqProofs only[go_sem,h1]
      refine aC [] (bz nums eqs[n].A) ?_
      refine aC [] (bz nums eqs[n].B) ?_
      refine iK ?_
      simp -implicitDefEqProofs only[go_sem,h3]
      repeat(with_reducible apply And.intro;exact sO)
      refine⟨n+1,c,?_,?_,ah [some 0,some 1] ?_ ?_ rfl rfl⟩
      rotate_left
      ·show _ < _
       omega
      ·exact sC
      ·exact sC
      exact⟨by omega,hc,hg⟩
    ·rw[List.drop_of_length_le (by omega),List.foldl_nil] at hg
     simp -implicitDefEqProofs only[go_sem,h1]
     refine aF [some 0] ?_ rfl rfl
     refine sA ?_
     rw[hg]
     ((repeat' apply And.intro)<;>rfl)
theorem BZ(s:bJ)(terms nums:List Term)(eqs:List e6)(lits:List aG)(hk:dU terms)(hin:∀e∈eqs,e.A∈terms∧e.B∈terms)(hl9:terms.length≤1000)(hk9:∀t∈terms,t.kids.length≤1000)(hlk:∀l∈lits,l.atom.kind=1→l.atom.A∈terms∧l.atom.B∈terms) :
 C E.P 90 [.ptr 0 0,lv (ax lits),.ptr 1 0] [some (.box (bn (fK s terms nums))),some (.box [lv (ai terms),lv (aN (closed terms eqs).1),lv (ar (closed terms eqs).2)])]
   (aM (.eL [av (r8 (match iL (iO terms (closed terms eqs).1) lits with|none=>oY|some n=>.mk 1 n (Mod.iH terms (closed terms eqs).2 (lits.getD n zK).atom.A (lits.getD n zK).atom.B) [] ao ao [])),bv (iL (iO terms (closed terms eqs).1) lits).isSome]) [some (.box (bn (fK s terms nums))),some (.box [lv (ai terms),lv (aN (closed terms eqs).1),lv (ar (closed terms eqs).2)])]):=by
 have hkept:=jg (parts:=terms) (eqs:=eqs) hin
 have hc:=yU hkept
 have hsl:(closed terms eqs).2.length≤2000000:=by
  have h1:=qP hkept (closed terms eqs).2.length (Nat.le_refl _)
  have h2:(List.range terms.length).sum≤(List.range terms.length).length*1000:=ml fun x hx=>by have:=List.mem_range.1 hx;omega
  have h3:(List.range terms.length).length*1000≤1000*1000:=Nat.mul_le_mul_right _ (by simpa using hl9)
  omega
 have hex:∀x y,x∈terms→y∈terms→dG terms (closed terms eqs).1 x y=true→C E.P 99 [.ptr 0 0,av (cT x),av (cT y)] [some (.box [lv (ai terms),lv (aN (closed terms eqs).1),lv (ar (closed terms eqs).2)])] (aM (av (rm (Mod.iH terms (closed terms eqs).2 x y))) [some (.box [lv (ai terms),lv (aN (closed terms eqs).1),lv (ar (closed terms eqs).2)])]):=fun x y hx hy hxy=>by
  refine mq terms eqs (closed terms eqs).1 (closed terms eqs).2 hkept.1 hk hl9 hk9 hsl x y hx hy ?_
  rw[←hkept.2]
  simpa[dG] using hxy
 obtain⟨c,ec⟩:∃c,(closed terms eqs).1=c:=⟨_,rfl⟩
 obtain⟨steps,es⟩:∃x,(closed terms eqs).2=x:=⟨_,rfl⟩
 rw[ec] at hc hex⊢
 rw[es] at hex⊢
 obtain⟨R,hR⟩:∃R,iL (iO terms c) lits=R:=⟨_,rfl⟩
 rw[hR]
 refine gS (nt:=60) (rs:=[.cell 6 42,.tmp 7]) hm Tryz.func90 fun hl he hLB=>?_
 refine al hm (fun(i:Nat)=> i≤lits.length∧R=ou (iO terms c) lits i) (fun(i:Nat)=> ⟨bW 60 .any [(2,.ptr 1 0),(6,.ptr 2 0),(11,lv (ax lits)),(12,iv lits.length),(13,iv i)],[some (.box (bn (fK s terms nums))),some (.box [lv (ai terms),lv (aN c),lv (ar steps)]),some (.box (bn (r8 oY)))]⟩) (fun(i:Nat)=> lits.length-i) (0) ?_ (ah [some 0,some 1,some 2] ?_ ?_ rfl rfl) ?_
 rotate_left
 ·exact sC
 ·refine sA ?_
  all_goals(((repeat' apply And.intro)<;>rfl))
 rotate_left
 ·exact⟨Nat.zero_le _,by rw[←hR];exact Gg _ _⟩
 ·rintro i ⟨hi,hg⟩
  rcases Classical.em (i<lits.length) with h1|h1
  ·rw[EK h1] at hg
   have hl:=hlk _ (List.getElem_mem h1)
   have ecl:iO terms c lits[i]=(lits[i].no&&(decide (lits[i].atom.kind=1)&&dG terms c lits[i].atom.A lits[i].atom.B)):=rfl
   cases h2:lits[i].no
   ·rw[ecl,h2,Bool.false_and,if_neg (by simp)] at hg
    simp -implicitDefEqProofs only[go_sem,h1,h2]
    refine iK ?_
    repeat(with_reducible apply And.intro;exact sO)
    refine⟨i+1,?_,?_,ah [some 0,some 1,some 2] ?_ ?_ rfl rfl⟩
    rotate_left
    ·show _ < _
     omega
    ·exact sC
    ·exact sC
    exact⟨by omega,hg⟩
   ·rcases Classical.em (lits[i].atom.kind=1) with h3|h3
    ·have k3:=eq_true h3
     obtain⟨hA,hB⟩:=hl h3
     have hgd:lits.getD i zK=lits[i]:=nv h1
     rw[ecl,h2,decide_eq_true h3,Bool.true_and,Bool.true_and] at hg
     have pA:=bC hA
     have pB:=bC hB
     have pA':au terms lits[i].atom.A<c.length:=by omega
     have pB':au terms lits[i].atom.B<c.length:=by omega
     have eA:c[au terms lits[i].atom.A]=cl c (au terms lits[i].atom.A):=(fc pA').symm
     have eB:c[au terms lits[i].atom.B]=cl c (au terms lits[i].atom.B):=(fc pB').symm
     have ca:=rh terms c steps lits[i].atom.A
     have cb:=rh terms c steps lits[i].atom.B
     rw[bm hA] at ca
     rw[bm hB] at cb
     simp -implicitDefEqProofs only[go_sem,h1,h2,k3]
     refine bG [] [1] ca rfl ?_ ?_ ?_
     ·exact sV
     all_goals simp -implicitDefEqProofs only[go_sem,pA',eA]
     refine bG [] [1] cb rfl ?_ ?_ ?_
     ·exact sV
     all_goals simp -implicitDefEqProofs only[go_sem,pB',eB]
     refine iK ?_
     rcases Classical.em (cl c (au terms lits[i].atom.A)=cl c (au terms lits[i].atom.B)) with h4|h4
     ·have hsm:dG terms c lits[i].atom.A lits[i].atom.B=true:=decide_eq_true h4
      have k4:=eq_true h4
      have hx:=hex _ _ hA hB hsm
      rw[hsm,if_pos rfl] at hg
      simp -implicitDefEqProofs only[go_sem,k4]
      refine oC [] [1] hx ?_
      refine aF [some 0,some 1] ?_ rfl rfl
      refine sA ?_
      rw[hg]
      simp only[hgd]
      ((repeat' apply And.intro)<;>rfl)
     ·have hsm:dG terms c lits[i].atom.A lits[i].atom.B=false:=decide_eq_false h4
      rw[hsm,if_neg (by simp)] at hg
      simp -implicitDefEqProofs only[go_sem,h4]
      repeat(with_reducible apply And.intro;exact sO)
      refine⟨i+1,?_,?_,ah [some 0,some 1,some 2] ?_ ?_ rfl rfl⟩
      rotate_left
      ·show _ < _
       omega
      ·exact sC
      ·exact sC
      exact⟨by omega,hg⟩
    ·rw[ecl,h2,decide_eq_false h3,Bool.true_and,Bool.false_and,if_neg (by simp)] at hg
     simp -implicitDefEqProofs only[go_sem,h1,h2,h3]
     refine iK ?_
     repeat(with_reducible apply And.intro;exact sO)
     refine⟨i+1,?_,?_,ah [some 0,some 1,some 2] ?_ ?_ rfl rfl⟩
     rotate_left
     ·show _ < _
      omega
     ·exact sC
     ·exact sC
     exact⟨by omega,hg⟩
  ·rw[E1 (by omega)] at hg
   simp -implicitDefEqProofs only[go_sem,h1]
   refine aF [some 0,some 1] ?_ rfl rfl
   refine sA ?_
   rw[hg]
   ((repeat' apply And.intro)<;>rfl)
end Go.Proofs.YtpidddienjoleaaGreat
namespace Go.Proofs.YtpidddienjoleaaGreat
open Go.Eng Go.Mod
open Int renaming reduceEq→Z1,reduceLT→Z2,reduceLE→Z3,reduceToNat→Z4
set_option maxRecDepth 100000
set_option maxHeartbeats 3200000
theorem v8(f:Nat)(cap:List PV)(hcap:lU 0 cap=true)(p:aG→Bool)(xs:List aG)(hf:∀x∈xs,C E.P f (av (kO x)::cap) [] (aM (bv (p x)) [])) :
 C E.P 222 [lv (ax xs),.fn f cap] [] (aM (iv (idxOf p xs)) []):=by
 refine gS (nt:=19) (rs:=[.tmp 4]) hm Tryz.func222 fun hl he hLB=>?_
 refine al hm (fun(i:Nat)=> i≤xs.length∧idxOf p xs=bZ p (xs.drop i) i) (fun(i:Nat)=> ⟨bW 19 .any [(0,lv (ax xs)),(1,.fn f cap),(7,iv xs.length),(8,iv i)],[]⟩) (fun(i:Nat)=> xs.length-i) (0) ?_ (ah [] ?_ ?_ rfl rfl) ?_
 rotate_left
 ·refine sA ?_
  all_goals(simp[aa, *];done)
 ·exact sC
 rotate_left
 ·simp[idxOf]
 ·rintro i ⟨hi,hg⟩
  rcases Classical.em (i<xs.length) with h1|h1
  ·rw[List.drop_eq_getElem_cons h1,bZ] at hg
   simp -implicitDefEqProofs only[go_sem,h1]
   have hc:=hf xs[i] (List.getElem_mem h1)
   refine ck cap hc ?_ ?_<;>simp -implicitDefEqProofs only[go_sem,hcap]
   cases h2:p xs[i]
   ·rw[h2] at hg
    simp only[Bool.false_eq_true,if_false] at hg
    refine sA ?_
    refine⟨by omega,?_⟩
    refine⟨i+1,?_,?_,ah [] ?_ ?_ rfl rfl⟩
    rotate_left
    ·show _ < _
     omega
    ·refine sA ?_
     all_goals(simp[aa, *];done)
    ·exact sC
    exact⟨by omega,hg⟩
   ·rw[h2] at hg
    simp only[if_true] at hg
    refine sA ?_
    refine ab ?_
    refine sA ?_
    all_goals(simp[hg];done)
  ·rw[List.drop_of_length_le (by omega),bZ] at hg
   simp -implicitDefEqProofs only[go_sem,h1]
   refine ab ?_
   refine sA ?_
   all_goals(simp[hg];done)
theorem qH(f:Nat)(cap:List PV)(hcap:lU 0 cap=true)(p:aG→Bool)(xs:List aG)(hf:∀x∈xs,C E.P f (av (kO x)::cap) [] (aM (bv (p x)) [])) :
 C E.P 167 [lv (ax xs),.fn f cap] [] (aM (bv (xs.any p)) []):=by
 refine gS (nt:=9) (rs:=[.tmp 4]) hm Tryz.func167 fun hl he hLB=>?_
 refine ck [] (v8 f cap hcap p xs hf) ?_ ?_<;>simp -implicitDefEqProofs only[go_sem,hcap]
 refine ab ?_
 refine sA ?_
 all_goals(simp[tl];done)
theorem u7{terms nums:List Term}{c:List Nat}{lits:List aG}{i k:Nat}:eF true terms nums c lits i k=(!Mod.linked nums lits i k&&dG terms c (nums.getD i ao) (nums.getD k ao)):=rfl
theorem Cv{terms nums:List Term}{c:List Nat}{lits:List aG}{i k:Nat}:eF false terms nums c lits i k=(!Mod.linked nums lits i k&&(!cJ nums lits i k&& !cJ nums lits k i)):=rfl
theorem IW(l less:aG):C E.P 168 [av (kO l),.cf [kO less] 0 0] [] (aM (bv (!l.no&&decide (l.atom=less.atom))) []):=by
 have hco:=we l.atom less.atom
 refine gS (nt:=14) (rs:=[.tmp 3]) hm Tryz.func168 fun hl he hLB=>?_
 cases h:l.no
 ·refine sA ?_
  refine aC [] hco ?_
  refine ab ?_
  simp -implicitDefEqProofs only[go_sem]
  all_goals((repeat' apply And.intro)<;>rfl)
 ·refine sA ?_
  refine ab ?_
  simp -implicitDefEqProofs only[go_sem]
  all_goals((repeat' apply And.intro)<;>rfl)
theorem C8(s:bJ)(terms nums:List Term)(lits:List aG)(i k:Nat)(hi:i<nums.length)(hk:k<nums.length)(hnt:∀t∈nums,isTerm t=true):C E.P 101 [.cf [fK s terms nums] 0 0,lv (ax lits),iv i,iv k] [] (aM (bv (cJ nums lits i k)) []):=by
 have ga:nums.getD i ao=nums[i]:=da hi
 have gb:nums.getD k ao=nums[k]:=da hk
 have hls:=kC nums[i] nums[k] (hnt _ (List.getElem_mem hi)) (hnt _ (List.getElem_mem hk))
 have hst:cJ nums lits i k=lits.any fun l=>!l.no&&decide (l.atom=(cP nums[i] nums[k]).atom):=by rw[←ga,←gb];rfl
 rw[hst]
 generalize cP nums[i] nums[k]=less at hls
 refine gS (nt:=28) (rs:=[.tmp 8]) hm Tryz.func101 fun hl he hLB=>?_
 simp -implicitDefEqProofs only[go_sem,hi,hk]
 refine aC [] hls ?_
 refine iK ?_
 refine bG [] [0] (qH 168 [.cf [kO less] 0 0] rfl (fun l=>!l.no&&decide (l.atom=less.atom)) lits (fun l _=>IW l less)) rfl ?_ ?_ ?_
 ·exact sV
 all_goals simp -implicitDefEqProofs only[go_sem]
 refine ab ?_
 simp -implicitDefEqProofs only[go_sem]
 all_goals((repeat' apply And.intro)<;>rfl)
section
variable(s:bJ)(terms nums:List Term)(c ls:List Nat)(steps:List Step)(lits:List aG)
theorem Po(i k:Nat)(hi:i<nums.length)(hk:k<nums.length)(hsub:∀t∈nums,t∈terms)(hc:c.length=terms.length):C E.P 93 [iv i,iv k,.ptr 0 0,.ptr 1 0] [some (.box [.ptr 2 0]),some (.box [.ptr 3 0]),some (.box [lv (ai terms),lv (aN c),lv (ar steps)]),some (.box (bn (fK s terms nums)))] (aM (bv (dG terms c nums[i] nums[k])) [some (.box [.ptr 2 0]),some (.box [.ptr 3 0]),some (.box [lv (ai terms),lv (aN c),lv (ar steps)]),some (.box (bn (fK s terms nums)))]):=by
 have hA:=hsub _ (List.getElem_mem hi)
 have hB:=hsub _ (List.getElem_mem hk)
 have pA:=bC hA
 have pB:=bC hB
 have pA':au terms nums[i]<c.length:=by omega
 have pB':au terms nums[k]<c.length:=by omega
 have eA:c[au terms nums[i]]=cl c (au terms nums[i]):=(fc pA').symm
 have eB:c[au terms nums[k]]=cl c (au terms nums[k]):=(fc pB').symm
 have ca:=rh terms c steps nums[i]
 have cb:=rh terms c steps nums[k]
 rw[bm hA] at ca
 rw[bm hB] at cb
 refine gS (nt:=38) (rs:=[.tmp 6]) hm Tryz.func93 fun hl he hLB=>?_
 simp -implicitDefEqProofs only[go_sem,hi]
 refine bG [] [2] ca rfl ?_ ?_ ?_
 ·exact sV
 all_goals simp -implicitDefEqProofs only[go_sem,pA',eA,hk]
 refine bG [] [2] cb rfl ?_ ?_ ?_
 ·exact sV
 all_goals simp -implicitDefEqProofs only[go_sem,pB',eB]
 refine iK ?_
 refine aF [some 0,some 1,some 2,some 3] ?_ rfl rfl
 refine sA ?_
 all_goals((repeat' apply And.intro)<;>rfl)
theorem Pp(i k:Nat)(hi:i<nums.length)(hk:k<nums.length)(hsub:∀t∈nums,t∈terms)(hc:c.length=terms.length)(hll:ls.length=nums.length):C E.P 96 [iv i,iv k,.ptr 0 0,.ptr 1 0] [some (.box [lv (aN ls)]),some (.box [.fn 93 [.ptr 2 0,.ptr 3 0]]),some (.box [.ptr 4 0]),some (.box [.ptr 5 0]),some (.box [lv (ai terms),lv (aN c),lv (ar steps)]),some (.box (bn (fK s terms nums)))] (aM (bv (!decide (cl ls i=cl ls k)&&dG terms c nums[i] nums[k])) [some (.box [lv (aN ls)]),some (.box [.fn 93 [.ptr 2 0,.ptr 3 0]]),some (.box [.ptr 4 0]),some (.box [.ptr 5 0]),some (.box [lv (ai terms),lv (aN c),lv (ar steps)]),some (.box (bn (fK s terms nums)))]):=by
 have hi':i<ls.length:=by omega
 have hk':k<ls.length:=by omega
 have ei:ls[i]=cl ls i:=(fc hi').symm
 have ek:ls[k]=cl ls k:=(fc hk').symm
 have hco:=Po s terms nums c steps i k hi hk hsub hc
 refine gS (nt:=22) (rs:=[.tmp 6]) hm Tryz.func96 fun hl he hLB=>?_
 rcases Classical.em (cl ls i=cl ls k) with h|h
 ·have kk:=eq_true h
  simp -implicitDefEqProofs only[go_sem,hi',hk',ei,ek,kk]
  refine iK ?_
  refine aF [some 0,some 1,some 2,some 3,some 4,some 5] ?_ rfl rfl
  simp -implicitDefEqProofs only[go_sem]
  all_goals rw[decide_eq_true h]
  all_goals((repeat' apply And.intro)<;>rfl)
 ·simp -implicitDefEqProofs only[go_sem,hi',hk',ei,ek,h]
  refine cm [.ptr 2 0,.ptr 3 0] [2,3,4,5] hco ?_ ?_
  ·refine sA ?_
   first|rfl|((repeat' apply And.intro)<;>rfl)
  refine sA ?_
  refine iK ?_
  refine aF [some 0,some 1,some 2,some 3,some 4,some 5] ?_ rfl rfl
  simp -implicitDefEqProofs only[go_sem]
  all_goals rw[decide_eq_false h]
  all_goals((repeat' apply And.intro)<;>rfl)
theorem OV(i k:Nat)(hi:i<nums.length)(hk:k<nums.length)(hnt:∀t∈nums,isTerm t=true)(hll:ls.length=nums.length):C E.P 100 [iv i,iv k,.ptr 0 0,.ptr 1 0,.ptr 2 0] [some (.box [lv (aN ls)]),some (.box [.ptr 3 0]),some (.box [lv (ax lits)]),some (.box (bn (fK s terms nums)))] (aM (bv (!decide (cl ls i=cl ls k)&&(!cJ nums lits i k&& !cJ nums lits k i))) [some (.box [lv (aN ls)]),some (.box [.ptr 3 0]),some (.box [lv (ax lits)]),some (.box (bn (fK s terms nums)))]):=by
 have hi':i<ls.length:=by omega
 have hk':k<ls.length:=by omega
 have ei:ls[i]=cl ls i:=(fc hi').symm
 have ek:ls[k]=cl ls k:=(fc hk').symm
 have c1:=C8 s terms nums lits i k hi hk hnt
 have c2:=C8 s terms nums lits k i hk hi hnt
 refine gS (nt:=33) (rs:=[.tmp 7]) hm Tryz.func100 fun hl he hLB=>?_
 rcases Classical.em (cl ls i=cl ls k) with h|h
 ·have kk:=eq_true h
  simp -implicitDefEqProofs only[go_sem,hi',hk',ei,ek,kk]
  refine iK ?_
  refine aF [some 0,some 1,some 2,some 3] ?_ rfl rfl
  simp -implicitDefEqProofs only[go_sem]
  all_goals rw[decide_eq_true h]
  all_goals((repeat' apply And.intro)<;>rfl)
 ·simp -implicitDefEqProofs only[go_sem,hi',hk',ei,ek,h]
  refine bG [] [3] c1 rfl ?_ ?_ ?_
  ·exact sV
  all_goals simp -implicitDefEqProofs only[go_sem]
  cases h2:cJ nums lits i k
  ·refine sA ?_
   refine bG [] [3] c2 rfl ?_ ?_ ?_
   ·exact sV
   all_goals simp -implicitDefEqProofs only[go_sem]
   refine iK ?_
   refine aF [some 0,some 1,some 2,some 3] ?_ rfl rfl
   simp -implicitDefEqProofs only[go_sem]
   all_goals rw[decide_eq_false h]
   all_goals((repeat' apply And.intro)<;>rfl)
  ·refine sA ?_
   refine iK ?_
   refine aF [some 0,some 1,some 2,some 3] ?_ rfl rfl
   simp -implicitDefEqProofs only[go_sem]
   all_goals rw[decide_eq_false h]
   all_goals((repeat' apply And.intro)<;>rfl)
theorem KT(hsub:∀t∈nums,t∈terms)(hc:c.length=terms.length)(h4:nums.length≤4):C E.P 95 [.ptr 5 0,.fn 96 [.ptr 0 0,.ptr 1 0]] [some (.box [lv (aN (dN nums (aB lits)))]),some (.box [.fn 93 [.ptr 2 0,.ptr 3 0]]),some (.box [.ptr 4 0]),some (.box [.ptr 5 0]),some (.box [lv (ai terms),lv (aN c),lv (ar steps)]),some (.box (bn (fK s terms nums)))] (aM (.eL [iv (((bp nums.length (eF true terms nums c lits)).getD (0,0)).1:Nat),iv (((bp nums.length (eF true terms nums c lits)).getD (0,0)).2:Nat),bv (bp nums.length (eF true terms nums c lits)).isSome]) [some (.box [lv (aN (dN nums (aB lits)))]),some (.box [.fn 93 [.ptr 2 0,.ptr 3 0]]),some (.box [.ptr 4 0]),some (.box [.ptr 5 0]),some (.box [lv (ai terms),lv (aN c),lv (ar steps)]),some (.box (bn (fK s terms nums)))]):=by
 have hll:(dN nums (aB lits)).length=nums.length:=jT _ _
 obtain⟨fp,hfp⟩:∃f,bp nums.length (eF true terms nums c lits)=f:=⟨_,rfl⟩
 rw[hfp]
 refine gS (nt:=35) (rs:=[.tmp 4,.tmp 5,.tmp 6]) hm Tryz.func95 fun hl he hLB=>?_
 refine al hm (fun(i:Nat)=> i≤nums.length∧fp=(bo i nums.length).find? (fun q=>eF true terms nums c lits q.1 q.2)) (fun(i:Nat)=> ⟨bW 35 .any [(0,.ptr 5 0),(1,.fn 96 [.ptr 0 0,.ptr 1 0]),(13,iv nums.length),(14,iv i)],[some (.box [lv (aN (dN nums (aB lits)))]),some (.box [.fn 93 [.ptr 2 0,.ptr 3 0]]),some (.box [.ptr 4 0]),some (.box [.ptr 5 0]),some (.box [lv (ai terms),lv (aN c),lv (ar steps)]),some (.box (bn (fK s terms nums)))]⟩) (fun(i:Nat)=> nums.length-i) (0) ?_ (ah [some 0,some 1,some 2,some 3,some 4,some 5] ?_ ?_ rfl rfl) ?_
 rotate_left
 ·exact sC
 ·exact sC
 rotate_left
 ·exact⟨Nat.zero_le _,hfp.symm⟩
 ·rintro i ⟨hi,hg⟩
  rcases Classical.em (i<nums.length) with h1|h1
  ·rw[nN h1] at hg
   simp -implicitDefEqProofs only[go_sem,h1]
   repeat(with_reducible apply And.intro;exact sO)
   refine al hm (fun(k:Nat)=> i<k∧k≤nums.length∧fp=(gC i k nums.length).find? (fun q=>eF true terms nums c lits q.1 q.2)) (fun(k:Nat)=> ⟨bW 35 .any [(0,.ptr 5 0),(1,.fn 96 [.ptr 0 0,.ptr 1 0]),(7,iv i),(8,iv k),(13,iv nums.length),(14,iv i)],[some (.box [lv (aN (dN nums (aB lits)))]),some (.box [.fn 93 [.ptr 2 0,.ptr 3 0]]),some (.box [.ptr 4 0]),some (.box [.ptr 5 0]),some (.box [lv (ai terms),lv (aN c),lv (ar steps)]),some (.box (bn (fK s terms nums)))]⟩) (fun(k:Nat)=> nums.length-k) (i+1) ?_ (ah [some 0,some 1,some 2,some 3,some 4,some 5] ?_ ?_ rfl rfl) ?_
   rotate_left
   ·exact sC
   ·exact sC
   rotate_left
   ·exact⟨by omega,by omega,hg⟩
   ·rintro k ⟨hik,hk,hg⟩
    rcases Classical.em (k<nums.length) with h2|h2
    ·have hco:=Pp s terms nums c (dN nums (aB lits)) steps i k h1 h2 hsub hc hll
     have ga:nums.getD i ao=nums[i]:=da h1
     have gb:nums.getD k ao=nums[k]:=da h2
     have eo:eF true terms nums c lits i k=(!decide (cl (dN nums (aB lits)) i=cl (dN nums (aB lits)) k)&&dG terms c nums[i] nums[k]):=by rw[u7,ga,gb];rfl
     obtain⟨bb,hbb⟩:∃b,(!decide (cl (dN nums (aB lits)) i=cl (dN nums (aB lits)) k)&&dG terms c nums[i] nums[k])=b:=⟨_,rfl⟩
     rw[hbb] at eo hco
     rw[pd h2,List.find?_cons] at hg
     simp only[eo] at hg
     simp -implicitDefEqProofs only[go_sem,h2]
     refine cm [.ptr 0 0,.ptr 1 0] [0,1,2,3,4,5] hco ?_ ?_
     ·refine sA ?_
      first|rfl|((repeat' apply And.intro)<;>rfl)
     refine sA ?_
     cases h3:bb
     ·rw[h3] at hg
      refine sA ?_
      repeat(with_reducible apply And.intro;exact sO)
      refine⟨k+1,?_,?_,ah [some 0,some 1,some 2,some 3,some 4,some 5] ?_ ?_ rfl rfl⟩
      rotate_left
      ·show _ < _
       omega
      ·exact sC
      ·exact sC
      exact⟨by omega,by omega,hg⟩
     ·rw[h3] at hg
      simp only at hg
      refine sA ?_
      refine aF [some 0,some 1,some 2,some 3,some 4,some 5] ?_ rfl rfl
      refine sA ?_
      rw[hg]
      all_goals((repeat' apply And.intro)<;>rfl)
    ·rw[qm (by omega)] at hg
     simp -implicitDefEqProofs only[go_sem,h2]
     repeat(with_reducible apply And.intro;exact sO)
     refine⟨i+1,?_,?_,ah [some 0,some 1,some 2,some 3,some 4,some 5] ?_ ?_ rfl rfl⟩
     rotate_left
     ·show _ < _
      omega
     ·exact sC
     ·exact sC
     exact⟨by omega,hg⟩
  ·rw[oT (by omega),List.find?_nil] at hg
   simp -implicitDefEqProofs only[go_sem,h1]
   refine aF [some 0,some 1,some 2,some 3,some 4,some 5] ?_ rfl rfl
   refine sA ?_
   rw[hg]
   all_goals((repeat' apply And.intro)<;>rfl)
theorem LW(hnt:∀t∈nums,isTerm t=true)(h4:nums.length≤4):C E.P 95 [.ptr 3 0,.fn 100 [.ptr 0 0,.ptr 1 0,.ptr 2 0]] [some (.box [lv (aN (dN nums (aB lits)))]),some (.box [.ptr 3 0]),some (.box [lv (ax lits)]),some (.box (bn (fK s terms nums)))] (aM (.eL [iv (((bp nums.length (eF false terms nums c lits)).getD (0,0)).1:Nat),iv (((bp nums.length (eF false terms nums c lits)).getD (0,0)).2:Nat),bv (bp nums.length (eF false terms nums c lits)).isSome]) [some (.box [lv (aN (dN nums (aB lits)))]),some (.box [.ptr 3 0]),some (.box [lv (ax lits)]),some (.box (bn (fK s terms nums)))]):=by
 have hll:(dN nums (aB lits)).length=nums.length:=jT _ _
 obtain⟨fp,hfp⟩:∃f,bp nums.length (eF false terms nums c lits)=f:=⟨_,rfl⟩
 rw[hfp]
 refine gS (nt:=35) (rs:=[.tmp 4,.tmp 5,.tmp 6]) hm Tryz.func95 fun hl he hLB=>?_
 refine al hm (fun(i:Nat)=> i≤nums.length∧fp=(bo i nums.length).find? (fun q=>eF false terms nums c lits q.1 q.2)) (fun(i:Nat)=> ⟨bW 35 .any [(0,.ptr 3 0),(1,.fn 100 [.ptr 0 0,.ptr 1 0,.ptr 2 0]),(13,iv nums.length),(14,iv i)],[some (.box [lv (aN (dN nums (aB lits)))]),some (.box [.ptr 3 0]),some (.box [lv (ax lits)]),some (.box (bn (fK s terms nums)))]⟩) (fun(i:Nat)=> nums.length-i) (0) ?_ (ah [some 0,some 1,some 2,some 3] ?_ ?_ rfl rfl) ?_
 rotate_left
 ·exact sC
 ·exact sC
 rotate_left
 ·exact⟨Nat.zero_le _,hfp.symm⟩
 ·rintro i ⟨hi,hg⟩
  rcases Classical.em (i<nums.length) with h1|h1
  ·rw[nN h1] at hg
   simp -implicitDefEqProofs only[go_sem,h1]
   repeat(with_reducible apply And.intro;exact sO)
   refine al hm (fun(k:Nat)=> i<k∧k≤nums.length∧fp=(gC i k nums.length).find? (fun q=>eF false terms nums c lits q.1 q.2)) (fun(k:Nat)=> ⟨bW 35 .any [(0,.ptr 3 0),(1,.fn 100 [.ptr 0 0,.ptr 1 0,.ptr 2 0]),(7,iv i),(8,iv k),(13,iv nums.length),(14,iv i)],[some (.box [lv (aN (dN nums (aB lits)))]),some (.box [.ptr 3 0]),some (.box [lv (ax lits)]),some (.box (bn (fK s terms nums)))]⟩) (fun(k:Nat)=> nums.length-k) (i+1) ?_ (ah [some 0,some 1,some 2,some 3] ?_ ?_ rfl rfl) ?_
   rotate_left
   ·exact sC
   ·exact sC
   rotate_left
   ·exact⟨by omega,by omega,hg⟩
   ·rintro k ⟨hik,hk,hg⟩
    rcases Classical.em (k<nums.length) with h2|h2
    ·have hco:=OV s terms nums (dN nums (aB lits)) lits i k h1 h2 hnt hll
     have ga:nums.getD i ao=nums[i]:=da h1
     have gb:nums.getD k ao=nums[k]:=da h2
     have eo:eF false terms nums c lits i k=(!decide (cl (dN nums (aB lits)) i=cl (dN nums (aB lits)) k)&&(!cJ nums lits i k&& !cJ nums lits k i)):=by rw[Cv];rfl
     obtain⟨bb,hbb⟩:∃b,(!decide (cl (dN nums (aB lits)) i=cl (dN nums (aB lits)) k)&&(!cJ nums lits i k&& !cJ nums lits k i))=b:=⟨_,rfl⟩
     rw[hbb] at eo hco
     rw[pd h2,List.find?_cons] at hg
     simp only[eo] at hg
     simp -implicitDefEqProofs only[go_sem,h2]
     refine cm [.ptr 0 0,.ptr 1 0,.ptr 2 0] [0,1,2,3] hco ?_ ?_
     ·refine sA ?_
      first|rfl|((repeat' apply And.intro)<;>rfl)
     refine sA ?_
     cases h3:bb
     ·rw[h3] at hg
      refine sA ?_
      repeat(with_reducible apply And.intro;exact sO)
      refine⟨k+1,?_,?_,ah [some 0,some 1,some 2,some 3] ?_ ?_ rfl rfl⟩
      rotate_left
      ·show _ < _
       omega
      ·exact sC
      ·exact sC
      exact⟨by omega,by omega,hg⟩
     ·rw[h3] at hg
      simp only at hg
      refine sA ?_
      refine aF [some 0,some 1,some 2,some 3] ?_ rfl rfl
      refine sA ?_
      rw[hg]
      all_goals((repeat' apply And.intro)<;>rfl)
    ·rw[qm (by omega)] at hg
     simp -implicitDefEqProofs only[go_sem,h2]
     repeat(with_reducible apply And.intro;exact sO)
     refine⟨i+1,?_,?_,ah [some 0,some 1,some 2,some 3] ?_ ?_ rfl rfl⟩
     rotate_left
     ·show _ < _
      omega
     ·exact sC
     ·exact sC
     exact⟨by omega,hg⟩
  ·rw[oT (by omega),List.find?_nil] at hg
   simp -implicitDefEqProofs only[go_sem,h1]
   refine aF [some 0,some 1,some 2,some 3] ?_ rfl rfl
   refine sA ?_
   rw[hg]
   all_goals((repeat' apply And.intro)<;>rfl)
end
end Go.Proofs.YtpidddienjoleaaGreat
