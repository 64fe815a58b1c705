/-
  The program: why two parts are one. A step towards the laws.
-/
import Derived.Test.YtabembjmeobhoaaGreatKCzg
import Derived.Test.YtabembjmeobhoaaGreatKCd
set_option linter.unusedVariables false
set_option linter.unusedSimpArgs false
open And renaming intro→au
open Bool renaming true_and→aE,false_and→aK
open Classical renaming em→aa
open List renaming getElem?_eq_getElem→af,drop_eq_getElem_cons→ah,getElem_mem→ak,drop_of_length_le→al,take_of_length_le→ao,getD_eq_getElem?_getD→ay,range→bu,find?_cons→dM,drop→fC,find?_nil→jV
open Nat renaming le_refl→aJ,zero_le→bc
namespace Go.Proofs.YtabembjmeobhoaaGreat
open Go.Eng Go.Mod
open Int renaming reduceEq→Z1,reduceLT→Z2,reduceLE→Z3,reduceToNat→Z4
set_option maxRecDepth 100000
set_option maxHeartbeats 3200000
section
variable(ae:List Term)(eqs:List fF)(c:List Nat)(aj:List Step)
theorem J9(a:ju):eL [a]=[gR a]:=by rw[j9,lz]
theorem Tj(a b:ju):eL [a,b]=[gR a,gR b]:=by rw[j9,j9,lz]
theorem r9(e7:lE ae eqs aj)(hk:gU ae)(o6:ae.length≤1000)(hk9:∀t∈ae,t.kids.length≤1000)(f:Nat)
 (ih:∀n a b,n<f→n≤aj.length→a<ae.length→b<ae.length→cl (aS ae.length aj n) a=cl (aS ae.length aj n) b→C E.P 112 [.ptr 0 0,iv a,iv b,iv n] [some (.box [lv (aN ae),lv (bP c),lv (aZ aj)])] (bD (av (gR (lu ae aj f n a b))) [some (.box [lv (aN ae),lv (bP c),lv (aZ aj)])]))
 (d:Mod.Edge) (hi:d.step<aj.length) (hf:d.step<f):C E.P 182 [.ptr 0 0,av (zn d)] [some (.box [lv (aN ae),lv (bP c),lv (aZ aj)])] (bD (av (gR (kP ae aj (lu ae aj f) d))) [some (.box [lv (aN ae),lv (bP c),lv (aZ aj)])]):=by
 obtain⟨i,back⟩:=d
 simp only at hi hf
 have hs:=r7 hi
 have hso:=oT e7 hi
 have a0:=hso.a0
 have b0:=hso.b0
 have a1:=Hf e7 hi
 have b1:=FT e7 hi
 have eA:aj[i].A=(vA aj i:Int):=by rw[vA,hs];rw[hs] at a0;omega
 have eB:aj[i].B=(vB aj i:Int):=by rw[vB,hs];rw[hs] at b0;omega
 have XQ:=hso.XQ
 have hE:v8 ae aj (lu ae aj f) i=if aj[i].given<0 then .mk 5 0 (.mk (ae.getD (vA aj i) aL).name []) (((ae.getD (vA aj i) aL).kids.zip (ae.getD (vB aj i) aL).kids).map fun p=>lu ae aj f i (aH ae p.1) (aH ae p.2)) else .mk 2 aj[i].given aL []:=by rw[v8,hs]
 have hed:=Gg ae aj (lu ae aj f) ⟨i,back⟩
 simp only at hed
 rw[hs] at XQ
 have cq:=jZ
 refine Eh (nt:=80) (rs:=[.cell 4 37]) Tryz.func182 rfl rfl rfl rfl rfl (fun hl he=>?_)
 simp -implicitDefEqProofs only[go_sem] at hl⊢
 refine gz hm ?_
 rcases aa (aj[i].given<0) with h0|h0
 ·rw[if_pos h0] at hE
  have hal:alike ae (aS ae.length aj i) (vA aj i) (vB aj i)=true:=by
   rcases XQ with h|⟨n,h,_⟩
   ·rw[vA,vB,hs];exact h.2
   ·omega
  obtain⟨q1,q2,q3,q4⟩:=Ol hal
  have gA:ae.getD (vA aj i) aL=ae[vA aj i]:=by rw[ay,af a1];rfl
  have gB:ae.getD (vB aj i) aL=ae[vB aj i]:=by rw[ay,af b1];rfl
  have mA:=ak a1
  have mB:=ak b1
  obtain⟨x,hx⟩:∃x,ae[vA aj i]=x:=⟨_,rfl⟩
  obtain⟨y,hy⟩:∃y,ae[vB aj i]=y:=⟨_,rfl⟩
  rw[hx] at gA mA
  rw[hy] at gB mB
  rw[gA] at q1 q2 q3 q4 hE
  rw[gB] at q2 q3 q4 hE
  have kx:=hk _ mA
  have ky:=hk _ mB
  have kl:=hk9 _ mA
  simp -implicitDefEqProofs only[go_sem,hi,h0,eA,eB,a1,b1,hx,hy]
  refine iK ?_
  refine iK ?_
  refine aM hm (fun(k:Nat)=> k≤x.kids.length) (fun(k:Nat)=> ⟨dH 80 .any [(0,.ptr 0 0),(3,.ptr 1 0),(4,.ptr 2 0),(6,.ptr 3 0),(7,.ptr 4 0),(8,.ptr 5 0),(46,iv x.kids.length),(47,iv k)],[some (.box [lv (aN ae),lv (bP c),lv (aZ aj)]),some (.box [iv i,bv back]),some (.box (cF (gR sY))),some (.box [iv 5,iv 0,sv x.name,lv [],.acc 6]),some (.box (cF (cT x))),some (.box (cF (cT y))),some (.acc 37 (eL (((x.kids.zip y.kids).take k).map fun p=>lu ae aj f i (aH ae p.1) (aH ae p.2))))]⟩) (fun(k:Nat)=> x.kids.length-k) (0) ?_ (ar [some 0,some 1,some 2,some 4,some 5,some 6,none] ?_ ?_ rfl rfl) ?_
  rotate_left
  ·exact sC
  ·exact sC
  rotate_left
  ·omega
  ·rintro k hk1
   have hzl:(((x.kids.zip y.kids).take k).map fun p=>lu ae aj f i (aH ae p.1) (aH ae p.2)).length≤1000:=by simp;omega
   rcases aa (k<x.kids.length) with h1|h1
   ·have h2:k<y.kids.length:=by omega
    have mx:=kx _ (ak h1)
    have my:=ky _ (ak h2)
    have px:=bz mx
    have py:=bz my
    have cx:=b9 mx
    have cy:=b9 my
    have hc:=ih i (aH ae x.kids[k]) (aH ae y.kids[k]) hf (by omega) px py (q4 k h1 h2)
    have hz:=O6 (f:=fun p=>lu ae aj f i (aH ae p.1) (aH ae p.2)) h1 h2
    have ca:=Db ae c aj x.kids[k]
    have cb:=Db ae c aj y.kids[k]
    rw[cx] at ca
    rw[cy] at cb
    refine uA ?_
    refine dQ [] [0] ca rfl ?_ ?_ ?_
    ·exact sV
    all_goals simp -implicitDefEqProofs only[go_sem,h2]
    refine dQ [] [0] cb rfl ?_ ?_ ?_
    ·exact sV
    all_goals simp -implicitDefEqProofs only[go_sem]
    refine oC [] [0] hc ?_
    refine sQ ?_
    refine⟨k+1,?_,sL,ar [some 0,some 1,some 2,some 3,some 4,some 5,some 7] ?_ ?_ rfl rfl⟩
    rotate_left
    ·exact sC
    ·refine sA ?_
     all_goals((rw[hz,←DC,j9,lz];rfl))
    exact h1
   ·have et:(x.kids.zip y.kids).take k=x.kids.zip y.kids:=ao (by simp;omega)
    rw[et]
    cases back
    ·rw[if_neg (by simp),hE] at hed
     simp -implicitDefEqProofs only[go_sem,h1,de]
     refine dR ?_
     refine bZ [some 0] ?_ rfl rfl
     refine sA ?_
     rw[hed]
     ((repeat' apply au)<;>rfl)
    ·rw[if_pos rfl,hE] at hed
     simp -implicitDefEqProofs only[go_sem,h1,de]
     refine⟨_,AR.N6 (wj 7 0 _ rfl (by simp) (show oN _ 0=[T.leaf (D.val (Value.int IntKind.i64 5)),T.leaf (D.val (Value.int IntKind.i64 0)),T.leaf (D.str x.name),T.leaf (D.dC []),T.ref 6] from rfl)),?_⟩
     refine sA ?_
     refine bZ [some 0] ?_ rfl rfl
     refine sA ?_
     rw[hed]
     ((repeat' apply au)<;>first|rfl|exact⟨_,(by simp only[List.set_cons_zero,cZ,gm,T.Gl,nh];try rfl),J9 _⟩)
 ·rw[if_neg h0] at hE
  cases back
  ·rw[if_neg (by simp),hE] at hed
   simp -implicitDefEqProofs only[go_sem,hi,h0,de]
   refine iK ?_
   refine dR ?_
   refine bZ [some 0] ?_ rfl rfl
   refine sA ?_
   rw[hed]
   ((repeat' apply au)<;>rfl)
  ·rw[if_pos rfl,hE] at hed
   simp -implicitDefEqProofs only[go_sem,hi,h0,de]
   refine iK ?_
   refine dR ?_
   refine bZ [some 0] ?_ rfl rfl
   refine sA ?_
   rw[hed]
   ((repeat' apply au)<;>first|rfl|exact(J9 _).symm)
theorem FW(e7:lE ae eqs aj)(hk:gU ae)(o6:ae.length≤1000)(hk9:∀t∈ae,t.kids.length≤1000)(hs9:aj.length≤2000000):∀(f n a b:Nat),n<f→n≤aj.length→a<ae.length→b<ae.length→cl (aS ae.length aj n) a=cl (aS ae.length aj n) b →
 C E.P 112 [.ptr 0 0,iv a,iv b,iv n] [some (.box [lv (aN ae),lv (bP c),lv (aZ aj)])] (bD (av (gR (lu ae aj f n a b))) [some (.box [lv (aN ae),lv (bP c),lv (aZ aj)])]):=by
 intro f
 induction f with
 | zero=>intro n a b h;omega
 | succ f ih=>
 intro n a b hnf hn ha hb hab
 obtain⟨w1,w2,w3⟩:=sw e7 hn ha hb hab
 have cw:=ZF ae eqs c aj e7 o6 hs9 n a b hn ha hb hab
 have ga:ae.getD a aL=ae[a]:=by rw[ay,af ha];rfl
 obtain⟨way,hw⟩:∃w,lR ae.length aj n a b=w:=⟨_,rfl⟩
 have hF:=So ae aj f n a b
 rw[hw] at hF w1 w3 cw
 have hwl:way.length≤1000:=by
  have h1:=kd w3 (fun v hv=>by
   simp only[gP,List.mem_cons,List.mem_map] at hv
   rcases hv with rfl|⟨e,he,rfl⟩
   ·exact ha
   ·exact yz e7 (by have:=w1 e he;omega))
  simp[gP] at h1
  omega
 refine gS (nt:=50) (rs:=[.cell 8 37]) hm Tryz.func112 fun hl he cq=>?_
 refine oC [] [0] cw ?_
 rcases Nat.eq_zero_or_pos way.length with hz|hz
 ·obtain rfl:=List.length_eq_zero_iff.1 hz
  rw[Sk] at hF
  simp -implicitDefEqProofs only[go_sem,ha]
  refine aC [] (ic ae[a]) ?_
  refine bZ [some 0] ?_ rfl rfl
  refine sA ?_
  rw[hF,ga]
  ((repeat' apply au)<;>rfl)
 ·have jD:¬ (way.length:Int)=0:=by omega
  have hz':(0:Int)<(way.length:Int):=by omega
  have jC:=w1 _ (ak hz)
  have hco:=r9 ae eqs c aj e7 hk o6 hk9 f ih way[0] (by omega) (by omega)
  have f1:(1:Int)≤(way.length:Int)∧∀y∈dv way,y.length=2:=⟨by omega,LN _⟩
  obtain⟨ss,hss⟩:∃ss,way.drop 1=ss:=⟨_,rfl⟩
  have hsl:List.take (way.length-1) (fC 1 (dv way))=dv ss:=by
   rw[←hss,ao (by simp[dv])]
   simp[dv]
  have hsn:ss.length=way.length-1:=by rw[←hss,List.length_drop]
  have hln:min (way.length-1) (fC 1 (dv way)).length=ss.length:=by rw[hsn];simp[dv]
  have kF:∀d∈ss,d.step<n:=fun d hd=>w1 d (by rw[←hss] at hd;exact List.mem_of_mem_drop hd)
  have hF2:=hF
  rw[wO hz,hss] at hF2
  simp -implicitDefEqProofs only[go_sem,jD,hz]
  refine gE [] [0] hco ?_ ?_<;>simp -implicitDefEqProofs only[go_sem,Z3,Z4]
  refine sQ ?_
  simp -implicitDefEqProofs only[go_sem,hsl,hln]
  refine cQ hm (fun(i:Nat) (w:ju)=> i≤ss.length∧lu ae aj (f+1) n a b=oQ (kP ae aj (lu ae aj f)) w (ss.drop i)) (fun(i:Nat) (w:ju)=> ⟨dH 50 .any [(0,.ptr 0 0),(8,.ptr 1 0),(10,.ptr 2 0),(36,lv (dv ss)),(37,iv ss.length),(38,iv i)],[some (.box [lv (aN ae),lv (bP c),lv (aZ aj)]),some (.box (cF (gR sY))),some (.box (cF (gR w)))]⟩) (fun(i:Nat) (w:ju)=> ss.length-i) (0) (kP ae aj (lu ae aj f) way[0]) ?_ (ar [some 0,some 1,some 2] ?_ ?_ rfl rfl) ?_
  rotate_left
  ·exact sC
  ·exact sC
  rotate_left
  ·exact⟨bc _,hF2⟩
  ·rintro i w ⟨hi,hg⟩
   rcases aa (i<ss.length) with h1|h1
   ·have hd:=kF _ (ak h1)
    have hco2:=r9 ae eqs c aj e7 hk o6 hk9 f ih ss[i] (by omega) (by omega)
    rw[ah h1,oQ] at hg
    refine uA ?_
    refine oC [] [0] hco2 ?_
    refine iK ?_
    refine sQ ?_
    refine⟨i+1,.mk 4 0 aL [w,kP ae aj (lu ae aj f) ss[i]],?_,sL,ar [some 0,some 1,some 2] ?_ ?_ rfl rfl⟩
    rotate_left
    ·exact sC
    ·refine sA ?_
     all_goals(exact⟨rfl,rfl,rfl,rfl,(Tj _ _).symm⟩)
    exact⟨by omega,hg⟩
   ·rw[al (by omega),oQ] at hg
    refine uA ?_
    refine bZ [some 0] ?_ rfl rfl
    refine sA ?_
    rw[hg]
    ((repeat' apply au)<;>rfl)
theorem uo(e7:lE ae eqs aj)(hk:gU ae)(o6:ae.length≤1000)(hk9:∀t∈ae,t.kids.length≤1000)(hs9:aj.length≤2000000)(x y:Term)(hx:x∈ae)(hy:y∈ae)(hxy:cl (aS ae.length aj aj.length) (aH ae x)=cl (aS ae.length aj aj.length) (aH ae y)) :
 C E.P 53 [.ptr 0 0,av (cT x),av (cT y)] [some (.box [lv (aN ae),lv (bP c),lv (aZ aj)])] (bD (av (gR (Mod.l8 ae aj x y))) [some (.box [lv (aN ae),lv (bP c),lv (aZ aj)])]):=by
 have hc:=FW ae eqs c aj e7 hk o6 hk9 hs9 (aj.length+1) aj.length (aH ae x) (aH ae y) (by omega) (aJ _) (bz hx) (bz hy) hxy
 have ca:=Db ae c aj x
 have cb:=Db ae c aj y
 rw[b9 hx] at ca
 rw[b9 hy] at cb
 refine gS (nt:=20) (rs:=[.cell 6 37]) hm Tryz.func53 fun hl he cq=>?_
 refine dQ [] [0] ca rfl ?_ ?_ ?_
 ·exact sV
 all_goals simp -implicitDefEqProofs only[go_sem]
 refine dQ [] [0] cb rfl ?_ ?_ ?_
 ·exact sV
 all_goals simp -implicitDefEqProofs only[go_sem]
 refine oC [] [0] hc ?_
 refine iK ?_
 refine bZ [some 0] ?_ rfl rfl
 refine sA ?_
 ((repeat' apply au)<;>rfl)
end
def mL(s:dI)(aq nums:List Term):List D:=[.dC (eF s.syms),.dC (aN aq),.dC (aN nums)]
attribute [go_sem] mL
theorem LJ(s:dI)(aq nums:List Term)(eqs:List fF)(h4:nums.length≤4)(he9:eqs.length≤1000):C E.P 46 [.ptr 0 0,lv (cS eqs)] [some (.box (cF (mL s aq nums)))] (bD (lv (bP (kq nums eqs))) [some (.box (cF (mL s aq nums)))]):=by
 refine gS (nt:=82) (rs:=[.tmp 4]) hm Tryz.func46 fun hl he cq=>?_
 refine sQ ?_
 refine cQ hm (fun(i:Nat) (c:List Nat)=> i≤nums.length∧c.length=nums.length∧c.take i=bu i) (fun(i:Nat) (c:List Nat)=> ⟨dH 82 .any [(0,.ptr 0 0),(1,lv (cS eqs)),(5,.acc 1),(22,iv nums.length),(23,iv i)],[some (.box (cF (mL s aq nums))),some (.acc 3 (bP c))]⟩) (fun(i:Nat) (c:List Nat)=> nums.length-i) (0) (List.replicate nums.length 0) ?_ (ar [some 0,some 1] ?_ ?_ rfl rfl) ?_
 rotate_left
 ·refine sA ?_
  all_goals((simp[]))
 ·refine sA ?_
  all_goals((simp[bP]))
 rotate_left
 ·exact⟨bc _,by simp,rfl⟩
 ·rintro i c ⟨hi,hc,ht⟩
  rcases aa (i<nums.length) with h1|h1
  ·have h1':i<c.length:=by omega
   have hp:=uQ (l:=c) (i:=i) (n:=i) h1'
   rw[pw h1'] at hp
   simp -implicitDefEqProofs only[go_sem,h1,h1']
   refine sQ ?_
   refine⟨i+1,c.set i i,?_,sL,ar [some 0,some 1] ?_ ?_ rfl rfl⟩
   rotate_left
   ·exact sC
   ·refine sA ?_
    all_goals(exact hp)
   refine⟨by omega,by simpa using hc,?_⟩
   rw[List.range_succ,←ht,List.take_add_one,List.take_set_of_le (aJ _)]
   simp[h1']
  ·obtain rfl:i=nums.length:=by omega
   have e:c=bu nums.length:=by
    rw[←ht,ao (by omega)]
   rw[e]
   refine uA ?_
   clear hi hc ht h1 e c
   refine cQ hm (fun(n:Nat) (c:List Nat)=> n≤eqs.length∧c.length=nums.length∧kq nums eqs=(eqs.drop n).foldl (fa nums) c) (fun(n:Nat) (c:List Nat)=> ⟨dH 82 .any [(0,.ptr 0 0),(5,.acc 1),(31,lv (cS eqs)),(32,iv eqs.length),(33,iv n)],[some (.box (cF (mL s aq nums))),some (.acc 3 (bP c))]⟩) (fun(n:Nat) (c:List Nat)=> eqs.length-n) (0) (bu nums.length) ?_ (ar [some 0,some 1] ?_ ?_ rfl rfl) ?_
   rotate_left
   ·exact sC
   ·exact sC
   rotate_left
   ·exact⟨bc _,by simp,rfl⟩
   ·rintro n c ⟨hn,hc,hg⟩
    rcases aa (n<eqs.length) with h1|h1
    ·rw[ah h1,List.foldl_cons] at hg
     rcases aa (eqs[n].A∈nums) with hA|hA
     ·rcases aa (eqs[n].B∈nums) with hB|hB
      ·have pA:=bz hA
       have pB:=bz hB
       have cA:=b9 hA
       have cB:=b9 hB
       have ca:=dK nums eqs[n].A
       have cb:=dK nums eqs[n].B
       rw[cA] at ca
       rw[cB] at cb
       have es:fa nums c eqs[n]=c.map fun k=>if k=cl c (aH nums eqs[n].A) then cl c (aH nums eqs[n].B) else k:=by rw[fa,if_neg (by omega)]
       have dz:=vT nums c eqs[n]
       rw[es] at hg dz
       generalize aH nums eqs[n].A=a at *
       generalize aH nums eqs[n].B=b at *
       have pA':a<c.length:=by omega
       have pB':b<c.length:=by omega
       have eA:c[a]=cl c a:=(gQ pA').symm
       have eB:c[b]=cl c b:=(gQ pB').symm
       have nA:¬ (a:Int)<0:=by omega
       have nB:¬ (b:Int)<0:=by omega
       obtain⟨f,hf⟩:∃f,cl c a=f:=⟨_,rfl⟩
       obtain⟨t,ht⟩:∃t,cl c b=t:=⟨_,rfl⟩
       rw[hf] at eA hg dz
       rw[ht] at eB hg dz
       have hend:∀i,c.length≤i→fQ c f t i=c.map fun k=>if k=f then t else k:=fun i hi=>by
        unfold fQ
        rw[ao hi,al hi,List.append_nil]
       refine uA ?_
       refine aC [] ca ?_
       refine aC [] cb ?_
       refine iK ?_
       simp -implicitDefEqProofs only[go_sem,nA,nB,pA',pB',eA,eB]
       refine iK ?_
       refine aM hm (fun(i:Nat)=> i≤c.length) (fun(i:Nat)=> ⟨dH 82 .any [(0,.ptr 0 0),(5,.acc 1),(11,iv f),(12,iv t),(31,lv (cS eqs)),(32,iv eqs.length),(33,iv n),(65,.acc 1),(66,iv c.length),(67,iv i)],[some (.box (cF (mL s aq nums))),some (.acc 3 (bP (fQ c f t i)))]⟩) (fun(i:Nat)=> c.length-i) (0) ?_ (ar [some 0,some 1] ?_ ?_ rfl rfl) ?_
       rotate_left
       ·exact sC
       ·refine sA ?_
        all_goals((simp[fQ]))
       rotate_left
       ·omega
       ·rintro i hi
        have hjl:=rS c f t i
        rcases aa (i<c.length) with h2|h2
        ·have h2':i<(fQ c f t i).length:=by omega
         have eg:=rK (f:=f) (t:=t) h2 h2'
         rcases aa (c[i]=f) with h3|h3
         ·have k3:=eq_true h3
          have hp:=uQ (l:=fQ c f t i) (i:=i) (n:=t) h2'
          have hnx:=qn (f:=f) (t:=t) h2
          rw[if_pos h3] at hnx
          rw[pw h2',eg] at hp
          simp -implicitDefEqProofs only[go_sem,hjl,h2,eg,k3]
          refine sQ ?_
          refine⟨i+1,?_,sL,ar [some 0,some 1] ?_ ?_ rfl rfl⟩
          rotate_left
          ·exact sC
          ·refine sA ?_
           all_goals((rw[hp,hnx]))
          exact h2
         ·have hnx:=s8 (f:=f) (t:=t) h2 h3
          simp -implicitDefEqProofs only[go_sem,hjl,h2,eg,h3]
          refine sQ ?_
          refine⟨i+1,?_,sL,ar [some 0,some 1] ?_ ?_ rfl rfl⟩
          rotate_left
          ·exact sC
          ·refine sA ?_
           all_goals((rw[hnx]))
          exact h2
        ·rw[hend i (by omega)] at hjl⊢
         refine uB ?_
         refine sQ ?_
         refine⟨n+1,(c.map fun k=>if k=f then t else k),?_,sL,ar [some 0,some 1] ?_ ?_ rfl rfl⟩
         rotate_left
         ·exact sC
         ·exact sC
         exact⟨by omega,by simpa using hc,hg⟩
      ·have h3:bL nums eqs[n].B<0:=by
        have:=(not_congr cR).2 hB
        omega
       have cA:=b9 hA
       have nA:¬bL nums eqs[n].A<0:=by omega
       have es:fa nums c eqs[n]=c:=by rw[fa,if_pos (.inr h3)]
       rw[es] at hg
       refine uA ?_
       refine aC [] (dK nums eqs[n].A) ?_
       refine aC [] (dK nums eqs[n].B) ?_
       refine iK ?_
       simp -implicitDefEqProofs only[go_sem,nA,h3]
       refine sQ ?_
       refine⟨n+1,c,?_,sL,ar [some 0,some 1] ?_ ?_ rfl rfl⟩
       rotate_left
       ·exact sC
       ·exact sC
       exact⟨by omega,hc,hg⟩
     ·have h3:bL nums eqs[n].A<0:=by
       have:=(not_congr cR).2 hA
       omega
      have es:fa nums c eqs[n]=c:=by rw[fa,if_pos (.inl h3)]
      rw[es] at hg
      refine uA ?_
      refine aC [] (dK nums eqs[n].A) ?_
      refine aC [] (dK nums eqs[n].B) ?_
      refine iK ?_
      refine uC ?_
      refine sQ ?_
      refine⟨n+1,c,?_,sL,ar [some 0,some 1] ?_ ?_ rfl rfl⟩
      rotate_left
      ·exact sC
      ·exact sC
      exact⟨by omega,hc,hg⟩
    ·rw[al (by omega),List.foldl_nil] at hg
     refine uA ?_
     refine bZ [some 0] ?_ rfl rfl
     refine sA ?_
     rw[hg]
     ((repeat' apply au)<;>rfl)
theorem KX(s:dI)(aq nums:List Term)(eqs:List fF)(ab:List bl)(hk:gU aq)(kF:∀e∈eqs,e.A∈aq∧e.B∈aq)(o6:aq.length≤1000)(hk9:∀t∈aq,t.kids.length≤1000)(hlk:∀l∈ab,l.atom.kind=1→l.atom.A∈aq∧l.atom.B∈aq) :
 C E.P 43 [.ptr 0 0,lv (aV ab),.ptr 1 0] [some (.box (cF (mL s aq nums))),some (.box [lv (aN aq),lv (bP (closed aq eqs).1),lv (aZ (closed aq eqs).2)])]
   (bD (.gV [av (jJ (match kg (jh aq (closed aq eqs).1) ab with|none=>tg|some n=>.mk 1 n (Mod.l8 aq (closed aq eqs).2 (ab.getD n EF).atom.A (ab.getD n EF).atom.B) [] aL aL [])),bv (kg (jh aq (closed aq eqs).1) ab).isSome]) [some (.box (cF (mL s aq nums))),some (.box [lv (aN aq),lv (bP (closed aq eqs).1),lv (aZ (closed aq eqs).2)])]):=by
 have hkept:=mH (ae:=aq) (eqs:=eqs) kF
 have hc:=Ow hkept
 have hsl:(closed aq eqs).2.length≤2000000:=by
  have h1:=vz hkept (closed aq eqs).2.length (aJ _)
  have h2:(bu aq.length).sum≤(bu aq.length).length*1000:=pJ fun x hx=>by have:=List.mem_range.1 hx;omega
  have h3:(bu aq.length).length*1000≤1000*1000:=Nat.mul_le_mul_right _ (by simpa using o6)
  omega
 have hex:∀x y,x∈aq→y∈aq→gh aq (closed aq eqs).1 x y=true→C E.P 53 [.ptr 0 0,av (cT x),av (cT y)] [some (.box [lv (aN aq),lv (bP (closed aq eqs).1),lv (aZ (closed aq eqs).2)])] (bD (av (gR (Mod.l8 aq (closed aq eqs).2 x y))) [some (.box [lv (aN aq),lv (bP (closed aq eqs).1),lv (aZ (closed aq eqs).2)])]):=fun x y hx hy hxy=>by
  refine uo aq eqs (closed aq eqs).1 (closed aq eqs).2 hkept.1 hk o6 hk9 hsl x y hx hy ?_
  rw[←hkept.2]
  simpa[gh] using hxy
 obtain⟨c,ec⟩:∃c,(closed aq eqs).1=c:=⟨_,rfl⟩
 obtain⟨aj,es⟩:∃x,(closed aq eqs).2=x:=⟨_,rfl⟩
 rw[ec] at hc hex⊢
 rw[es] at hex⊢
 obtain⟨R,hR⟩:∃R,kg (jh aq c) ab=R:=⟨_,rfl⟩
 rw[hR]
 refine gS (nt:=60) (rs:=[.cell 6 41,.tmp 7]) hm Tryz.func43 fun hl he cq=>?_
 refine aM hm (fun(i:Nat)=> i≤ab.length∧R=wu (jh aq c) ab i) (fun(i:Nat)=> ⟨dH 60 .any [(2,.ptr 1 0),(6,.ptr 2 0),(11,lv (aV ab)),(12,iv ab.length),(13,iv i)],[some (.box (cF (mL s aq nums))),some (.box [lv (aN aq),lv (bP c),lv (aZ aj)]),some (.box (cF (jJ tg)))]⟩) (fun(i:Nat)=> ab.length-i) (0) ?_ (ar [some 0,some 1,some 2] ?_ ?_ rfl rfl) ?_
 rotate_left
 ·exact sC
 ·refine sA ?_
  all_goals(((repeat' apply au)<;>rfl))
 rotate_left
 ·exact⟨bc _,by rw[←hR];exact GO _ _⟩
 ·rintro i ⟨hi,hg⟩
  rcases aa (i<ab.length) with h1|h1
  ·rw[DD h1] at hg
   have hl:=hlk _ (ak h1)
   have ecl:jh aq c ab[i]=(ab[i].no&&(decide (ab[i].atom.kind=1)&&gh aq c ab[i].atom.A ab[i].atom.B)):=rfl
   cases h2:ab[i].no
   ·rw[ecl,h2,aK,if_neg (by simp)] at hg
    refine uJ ?_
    refine iK ?_
    refine sQ ?_
    refine⟨i+1,?_,sL,ar [some 0,some 1,some 2] ?_ ?_ rfl rfl⟩
    rotate_left
    ·exact sC
    ·exact sC
    exact⟨by omega,hg⟩
   ·rcases aa (ab[i].atom.kind=1) with h3|h3
    ·have k3:=eq_true h3
     obtain⟨hA,hB⟩:=hl h3
     have hgd:ab.getD i EF=ab[i]:=getD_at h1
     rw[ecl,h2,decide_eq_true h3,aE,aE] at hg
     have pA:=bz hA
     have pB:=bz hB
     have pA':aH aq ab[i].atom.A<c.length:=by omega
     have pB':aH aq ab[i].atom.B<c.length:=by omega
     have eA:c[aH aq ab[i].atom.A]=cl c (aH aq ab[i].atom.A):=(gQ pA').symm
     have eB:c[aH aq ab[i].atom.B]=cl c (aH aq ab[i].atom.B):=(gQ pB').symm
     have ca:=Db aq c aj ab[i].atom.A
     have cb:=Db aq c aj ab[i].atom.B
     rw[b9 hA] at ca
     rw[b9 hB] at cb
     simp -implicitDefEqProofs only[go_sem,h1,h2,k3]
     refine dQ [] [1] ca rfl ?_ ?_ ?_
     ·exact sV
     all_goals simp -implicitDefEqProofs only[go_sem,pA',eA]
     refine dQ [] [1] cb rfl ?_ ?_ ?_
     ·exact sV
     all_goals simp -implicitDefEqProofs only[go_sem,pB',eB]
     refine iK ?_
     rcases aa (cl c (aH aq ab[i].atom.A)=cl c (aH aq ab[i].atom.B)) with h4|h4
     ·have hsm:gh aq c ab[i].atom.A ab[i].atom.B=true:=decide_eq_true h4
      have k4:=eq_true h4
      have hx:=hex _ _ hA hB hsm
      rw[hsm,if_pos rfl] at hg
      simp -implicitDefEqProofs only[go_sem,k4]
      refine oC [] [1] hx ?_
      refine bZ [some 0,some 1] ?_ rfl rfl
      refine sA ?_
      rw[hg]
      simp only[hgd]
      ((repeat' apply au)<;>rfl)
     ·have hsm:gh aq c ab[i].atom.A ab[i].atom.B=false:=decide_eq_false h4
      rw[hsm,if_neg (by simp)] at hg
      refine uD ?_
      refine sQ ?_
      refine⟨i+1,?_,sL,ar [some 0,some 1,some 2] ?_ ?_ rfl rfl⟩
      rotate_left
      ·exact sC
      ·exact sC
      exact⟨by omega,hg⟩
    ·rw[ecl,h2,decide_eq_false h3,aE,aK,if_neg (by simp)] at hg
     simp -implicitDefEqProofs only[go_sem,h1,h2,h3]
     refine iK ?_
     refine sQ ?_
     refine⟨i+1,?_,sL,ar [some 0,some 1,some 2] ?_ ?_ rfl rfl⟩
     rotate_left
     ·exact sC
     ·exact sC
     exact⟨by omega,hg⟩
  ·rw[GY (by omega)] at hg
   refine uA ?_
   refine bZ [some 0,some 1] ?_ rfl rfl
   refine sA ?_
   rw[hg]
   ((repeat' apply au)<;>rfl)
theorem EC(f:Nat)(cap:List PV)(jX:tM 0 cap=true)(p:bl→Bool)(xs:List bl)(hf:∀x∈xs,C E.P f (av (nI x)::cap) [] (bD (bv (p x)) [])) :
 C E.P 183 [lv (aV xs),.fn f cap] [] (bD (iv (idxOf p xs)) []):=by
 refine gS (nt:=19) (rs:=[.tmp 4]) hm Tryz.func183 fun hl he cq=>?_
 refine aM hm (fun(i:Nat)=> i≤xs.length∧idxOf p xs=gi p (xs.drop i) i) (fun(i:Nat)=> ⟨dH 19 .any [(0,lv (aV xs)),(1,.fn f cap),(7,iv xs.length),(8,iv i)],[]⟩) (fun(i:Nat)=> xs.length-i) (0) ?_ (ar [] ?_ ?_ rfl rfl) ?_
 rotate_left
 ·refine sA ?_
  all_goals(simp[aI, *];done)
 ·exact sC
 rotate_left
 ·simp[idxOf]
 ·rintro i ⟨hi,hg⟩
  rcases aa (i<xs.length) with h1|h1
  ·rw[ah h1,gi] at hg
   refine uA ?_
   have hc:=hf xs[i] (ak h1)
   refine bp cap hc ?_ ?_<;>simp -implicitDefEqProofs only[go_sem,jX]
   cases h2:p xs[i]
   ·rw[h2] at hg
    simp only[Bool.false_eq_true,if_false] at hg
    refine sA ?_
    refine⟨by omega,?_⟩
    refine⟨i+1,?_,sL,ar [] ?_ ?_ rfl rfl⟩
    rotate_left
    ·refine sA ?_
     all_goals(simp[aI, *];done)
    ·exact sC
    exact⟨by omega,hg⟩
   ·rw[h2] at hg
    simp only[if_true] at hg
    refine sA ?_
    refine an ?_
    refine sA ?_
    all_goals(simp[hg];done)
  ·rw[al (by omega),gi] at hg
   refine uA ?_
   refine an ?_
   refine sA ?_
   all_goals(simp[hg];done)
theorem Ax(f:Nat)(cap:List PV)(jX:tM 0 cap=true)(p:bl→Bool)(xs:List bl)(hf:∀x∈xs,C E.P f (av (nI x)::cap) [] (bD (bv (p x)) [])) :
 C E.P 114 [lv (aV xs),.fn f cap] [] (bD (bv (xs.any p)) []):=by
 refine gS (nt:=9) (rs:=[.tmp 4]) hm Tryz.func114 fun hl he cq=>?_
 refine bp [] (EC f cap jX p xs hf) ?_ ?_<;>simp -implicitDefEqProofs only[go_sem,jX]
 refine an ?_
 refine sA ?_
 all_goals(simp[BU];done)
theorem Dt{aq nums:List Term}{c:List Nat}{ab:List bl}{i k:Nat}:eK true aq nums c ab i k=(!Mod.linked nums ab i k&&gh aq c (nums.getD i aL) (nums.getD k aL)):=rfl
theorem K5{aq nums:List Term}{c:List Nat}{ab:List bl}{i k:Nat}:eK false aq nums c ab i k=(!Mod.linked nums ab i k&&(!eX nums ab i k&& !eX nums ab k i)):=rfl
theorem TQ(l less:bl):C E.P 115 [av (nI l),.gy [nI less] 0 0] [] (bD (bv (!l.no&&decide (l.atom=less.atom))) []):=by
 have hco:=EI l.atom less.atom
 refine gS (nt:=14) (rs:=[.tmp 3]) hm Tryz.func115 fun hl he cq=>?_
 cases h:l.no
 ·refine sA ?_
  refine aC [] hco ?_
  refine an ?_
  simp -implicitDefEqProofs only[go_sem]
  all_goals((repeat' apply au)<;>rfl)
 ·refine sA ?_
  refine an ?_
  simp -implicitDefEqProofs only[go_sem]
  all_goals((repeat' apply au)<;>rfl)
theorem N7(s:dI)(aq nums:List Term)(ab:List bl)(i k:Nat)(hi:i<nums.length)(hk:k<nums.length)(hnt:∀t∈nums,isTerm t=true):C E.P 55 [.gy [mL s aq nums] 0 0,lv (aV ab),iv i,iv k] [] (bD (bv (eX nums ab i k)) []):=by
 have ga:nums.getD i aL=nums[i]:=fc hi
 have gb:nums.getD k aL=nums[k]:=fc hk
 have hls:=rP nums[i] nums[k] (hnt _ (ak hi)) (hnt _ (ak hk))
 have jC:eX nums ab i k=ab.any fun l=>!l.no&&decide (l.atom=(dL nums[i] nums[k]).atom):=by rw[←ga,←gb];rfl
 rw[jC]
 generalize dL nums[i] nums[k]=less at hls
 refine gS (nt:=28) (rs:=[.tmp 8]) hm Tryz.func55 fun hl he cq=>?_
 simp -implicitDefEqProofs only[go_sem,hi,hk]
 refine aC [] hls ?_
 refine iK ?_
 refine dQ [] [0] (Ax 115 [.gy [nI less] 0 0] rfl (fun l=>!l.no&&decide (l.atom=less.atom)) ab (fun l _=>TQ l less)) rfl ?_ ?_ ?_
 ·exact sV
 all_goals simp -implicitDefEqProofs only[go_sem]
 refine an ?_
 simp -implicitDefEqProofs only[go_sem]
 all_goals((repeat' apply au)<;>rfl)
section
variable(s:dI)(aq nums:List Term)(c ls:List Nat)(aj:List Step)(ab:List bl)
theorem Z7(i k:Nat)(hi:i<nums.length)(hk:k<nums.length)(mG:∀t∈nums,t∈aq)(hc:c.length=aq.length):C E.P 47 [iv i,iv k,.ptr 0 0,.ptr 1 0] [some (.box [.ptr 2 0]),some (.box [.ptr 3 0]),some (.box [lv (aN aq),lv (bP c),lv (aZ aj)]),some (.box (cF (mL s aq nums)))] (bD (bv (gh aq c nums[i] nums[k])) [some (.box [.ptr 2 0]),some (.box [.ptr 3 0]),some (.box [lv (aN aq),lv (bP c),lv (aZ aj)]),some (.box (cF (mL s aq nums)))]):=by
 have hA:=mG _ (ak hi)
 have hB:=mG _ (ak hk)
 have pA:=bz hA
 have pB:=bz hB
 have pA':aH aq nums[i]<c.length:=by omega
 have pB':aH aq nums[k]<c.length:=by omega
 have eA:c[aH aq nums[i]]=cl c (aH aq nums[i]):=(gQ pA').symm
 have eB:c[aH aq nums[k]]=cl c (aH aq nums[k]):=(gQ pB').symm
 have ca:=Db aq c aj nums[i]
 have cb:=Db aq c aj nums[k]
 rw[b9 hA] at ca
 rw[b9 hB] at cb
 refine gS (nt:=38) (rs:=[.tmp 6]) hm Tryz.func47 fun hl he cq=>?_
 simp -implicitDefEqProofs only[go_sem,hi]
 refine dQ [] [2] ca rfl ?_ ?_ ?_
 ·exact sV
 all_goals simp -implicitDefEqProofs only[go_sem,pA',eA,hk]
 refine dQ [] [2] cb rfl ?_ ?_ ?_
 ·exact sV
 all_goals simp -implicitDefEqProofs only[go_sem,pB',eB]
 refine iK ?_
 refine bZ [some 0,some 1,some 2,some 3] ?_ rfl rfl
 refine sA ?_
 all_goals((repeat' apply au)<;>rfl)
theorem ZS(i k:Nat)(hi:i<nums.length)(hk:k<nums.length)(mG:∀t∈nums,t∈aq)(hc:c.length=aq.length)(hll:ls.length=nums.length):C E.P 50 [iv i,iv k,.ptr 0 0,.ptr 1 0] [some (.box [lv (bP ls)]),some (.box [.fn 47 [.ptr 2 0,.ptr 3 0]]),some (.box [.ptr 4 0]),some (.box [.ptr 5 0]),some (.box [lv (aN aq),lv (bP c),lv (aZ aj)]),some (.box (cF (mL s aq nums)))] (bD (bv (!decide (cl ls i=cl ls k)&&gh aq c nums[i] nums[k])) [some (.box [lv (bP ls)]),some (.box [.fn 47 [.ptr 2 0,.ptr 3 0]]),some (.box [.ptr 4 0]),some (.box [.ptr 5 0]),some (.box [lv (aN aq),lv (bP c),lv (aZ aj)]),some (.box (cF (mL s aq nums)))]):=by
 have hi':i<ls.length:=by omega
 have hk':k<ls.length:=by omega
 have ei:ls[i]=cl ls i:=(gQ hi').symm
 have ek:ls[k]=cl ls k:=(gQ hk').symm
 have hco:=Z7 s aq nums c aj i k hi hk mG hc
 refine gS (nt:=22) (rs:=[.tmp 6]) hm Tryz.func50 fun hl he cq=>?_
 rcases aa (cl ls i=cl ls k) with h|h
 ·have kk:=eq_true h
  simp -implicitDefEqProofs only[go_sem,hi',hk',ei,ek,kk]
  refine iK ?_
  refine bZ [some 0,some 1,some 2,some 3,some 4,some 5] ?_ rfl rfl
  simp -implicitDefEqProofs only[go_sem]
  all_goals rw[decide_eq_true h]
  all_goals((repeat' apply au)<;>rfl)
 ·simp -implicitDefEqProofs only[go_sem,hi',hk',ei,ek,h]
  refine gE [.ptr 2 0,.ptr 3 0] [2,3,4,5] hco ?_ ?_
  ·refine sA ?_
   first|rfl|((repeat' apply au)<;>rfl)
  refine sA ?_
  refine iK ?_
  refine bZ [some 0,some 1,some 2,some 3,some 4,some 5] ?_ rfl rfl
  simp -implicitDefEqProofs only[go_sem]
  all_goals rw[decide_eq_false h]
  all_goals((repeat' apply au)<;>rfl)
theorem aau(i k:Nat)(hi:i<nums.length)(hk:k<nums.length)(hnt:∀t∈nums,isTerm t=true)(hll:ls.length=nums.length):C E.P 54 [iv i,iv k,.ptr 0 0,.ptr 1 0,.ptr 2 0] [some (.box [lv (bP ls)]),some (.box [.ptr 3 0]),some (.box [lv (aV ab)]),some (.box (cF (mL s aq nums)))] (bD (bv (!decide (cl ls i=cl ls k)&&(!eX nums ab i k&& !eX nums ab k i))) [some (.box [lv (bP ls)]),some (.box [.ptr 3 0]),some (.box [lv (aV ab)]),some (.box (cF (mL s aq nums)))]):=by
 have hi':i<ls.length:=by omega
 have hk':k<ls.length:=by omega
 have ei:ls[i]=cl ls i:=(gQ hi').symm
 have ek:ls[k]=cl ls k:=(gQ hk').symm
 have c1:=N7 s aq nums ab i k hi hk hnt
 have c2:=N7 s aq nums ab k i hk hi hnt
 refine gS (nt:=33) (rs:=[.tmp 7]) hm Tryz.func54 fun hl he cq=>?_
 rcases aa (cl ls i=cl ls k) with h|h
 ·have kk:=eq_true h
  simp -implicitDefEqProofs only[go_sem,hi',hk',ei,ek,kk]
  refine iK ?_
  refine bZ [some 0,some 1,some 2,some 3] ?_ rfl rfl
  simp -implicitDefEqProofs only[go_sem]
  all_goals rw[decide_eq_true h]
  all_goals((repeat' apply au)<;>rfl)
 ·simp -implicitDefEqProofs only[go_sem,hi',hk',ei,ek,h]
  refine dQ [] [3] c1 rfl ?_ ?_ ?_
  ·exact sV
  all_goals simp -implicitDefEqProofs only[go_sem]
  cases h2:eX nums ab i k
  ·refine sA ?_
   refine dQ [] [3] c2 rfl ?_ ?_ ?_
   ·exact sV
   all_goals simp -implicitDefEqProofs only[go_sem]
   refine iK ?_
   refine bZ [some 0,some 1,some 2,some 3] ?_ rfl rfl
   simp -implicitDefEqProofs only[go_sem]
   all_goals rw[decide_eq_false h]
   all_goals((repeat' apply au)<;>rfl)
  ·refine sA ?_
   refine iK ?_
   refine bZ [some 0,some 1,some 2,some 3] ?_ rfl rfl
   simp -implicitDefEqProofs only[go_sem]
   all_goals rw[decide_eq_false h]
   all_goals((repeat' apply au)<;>rfl)
theorem WJ(mG:∀t∈nums,t∈aq)(hc:c.length=aq.length)(h4:nums.length≤4):C E.P 49 [.ptr 5 0,.fn 50 [.ptr 0 0,.ptr 1 0]] [some (.box [lv (bP (kq nums (a7 ab)))]),some (.box [.fn 47 [.ptr 2 0,.ptr 3 0]]),some (.box [.ptr 4 0]),some (.box [.ptr 5 0]),some (.box [lv (aN aq),lv (bP c),lv (aZ aj)]),some (.box (cF (mL s aq nums)))] (bD (.gV [iv (((b7 nums.length (eK true aq nums c ab)).getD (0,0)).1:Nat),iv (((b7 nums.length (eK true aq nums c ab)).getD (0,0)).2:Nat),bv (b7 nums.length (eK true aq nums c ab)).isSome]) [some (.box [lv (bP (kq nums (a7 ab)))]),some (.box [.fn 47 [.ptr 2 0,.ptr 3 0]]),some (.box [.ptr 4 0]),some (.box [.ptr 5 0]),some (.box [lv (aN aq),lv (bP c),lv (aZ aj)]),some (.box (cF (mL s aq nums)))]):=by
 have hll:(kq nums (a7 ab)).length=nums.length:=rG _ _
 obtain⟨fp,hfp⟩:∃f,b7 nums.length (eK true aq nums c ab)=f:=⟨_,rfl⟩
 rw[hfp]
 refine gS (nt:=35) (rs:=[.tmp 4,.tmp 5,.tmp 6]) hm Tryz.func49 fun hl he cq=>?_
 refine aM hm (fun(i:Nat)=> i≤nums.length∧fp=(dP i nums.length).find? (fun q=>eK true aq nums c ab q.1 q.2)) (fun(i:Nat)=> ⟨dH 35 .any [(0,.ptr 5 0),(1,.fn 50 [.ptr 0 0,.ptr 1 0]),(13,iv nums.length),(14,iv i)],[some (.box [lv (bP (kq nums (a7 ab)))]),some (.box [.fn 47 [.ptr 2 0,.ptr 3 0]]),some (.box [.ptr 4 0]),some (.box [.ptr 5 0]),some (.box [lv (aN aq),lv (bP c),lv (aZ aj)]),some (.box (cF (mL s aq nums)))]⟩) (fun(i:Nat)=> nums.length-i) (0) ?_ (ar [some 0,some 1,some 2,some 3,some 4,some 5] ?_ ?_ rfl rfl) ?_
 rotate_left
 ·exact sC
 ·exact sC
 rotate_left
 ·exact⟨bc _,hfp.symm⟩
 ·rintro i ⟨hi,hg⟩
  rcases aa (i<nums.length) with h1|h1
  ·rw[nL h1] at hg
   refine uA ?_
   refine sQ ?_
   refine aM hm (fun(k:Nat)=> i<k∧k≤nums.length∧fp=(mc i k nums.length).find? (fun q=>eK true aq nums c ab q.1 q.2)) (fun(k:Nat)=> ⟨dH 35 .any [(0,.ptr 5 0),(1,.fn 50 [.ptr 0 0,.ptr 1 0]),(7,iv i),(8,iv k),(13,iv nums.length),(14,iv i)],[some (.box [lv (bP (kq nums (a7 ab)))]),some (.box [.fn 47 [.ptr 2 0,.ptr 3 0]]),some (.box [.ptr 4 0]),some (.box [.ptr 5 0]),some (.box [lv (aN aq),lv (bP c),lv (aZ aj)]),some (.box (cF (mL s aq nums)))]⟩) (fun(k:Nat)=> nums.length-k) (i+1) ?_ (ar [some 0,some 1,some 2,some 3,some 4,some 5] ?_ ?_ rfl rfl) ?_
   rotate_left
   ·exact sC
   ·exact sC
   rotate_left
   ·exact⟨by omega,by omega,hg⟩
   ·rintro k ⟨hik,hk,hg⟩
    rcases aa (k<nums.length) with h2|h2
    ·have hco:=ZS s aq nums c (kq nums (a7 ab)) aj i k h1 h2 mG hc hll
     have ga:nums.getD i aL=nums[i]:=fc h1
     have gb:nums.getD k aL=nums[k]:=fc h2
     have eo:eK true aq nums c ab i k=(!decide (cl (kq nums (a7 ab)) i=cl (kq nums (a7 ab)) k)&&gh aq c nums[i] nums[k]):=by rw[Dt,ga,gb];rfl
     obtain⟨bb,hbb⟩:∃b,(!decide (cl (kq nums (a7 ab)) i=cl (kq nums (a7 ab)) k)&&gh aq c nums[i] nums[k])=b:=⟨_,rfl⟩
     rw[hbb] at eo hco
     rw[ox h2,dM] at hg
     simp only[eo] at hg
     refine uB ?_
     refine gE [.ptr 0 0,.ptr 1 0] [0,1,2,3,4,5] hco ?_ ?_
     ·refine sA ?_
      first|rfl|((repeat' apply au)<;>rfl)
     refine sA ?_
     cases h3:bb
     ·rw[h3] at hg
      refine sA ?_
      refine sQ ?_
      refine⟨k+1,?_,sL,ar [some 0,some 1,some 2,some 3,some 4,some 5] ?_ ?_ rfl rfl⟩
      rotate_left
      ·exact sC
      ·exact sC
      exact⟨by omega,by omega,hg⟩
     ·rw[h3] at hg
      simp only at hg
      refine sA ?_
      refine bZ [some 0,some 1,some 2,some 3,some 4,some 5] ?_ rfl rfl
      refine sA ?_
      rw[hg]
      all_goals((repeat' apply au)<;>rfl)
    ·rw[qk (by omega)] at hg
     refine uB ?_
     refine sQ ?_
     refine⟨i+1,?_,sL,ar [some 0,some 1,some 2,some 3,some 4,some 5] ?_ ?_ rfl rfl⟩
     rotate_left
     ·exact sC
     ·exact sC
     exact⟨by omega,hg⟩
  ·rw[oX (by omega),jV] at hg
   refine uA ?_
   refine bZ [some 0,some 1,some 2,some 3,some 4,some 5] ?_ rfl rfl
   refine sA ?_
   rw[hg]
   all_goals((repeat' apply au)<;>rfl)
theorem Wc(hnt:∀t∈nums,isTerm t=true)(h4:nums.length≤4):C E.P 49 [.ptr 3 0,.fn 54 [.ptr 0 0,.ptr 1 0,.ptr 2 0]] [some (.box [lv (bP (kq nums (a7 ab)))]),some (.box [.ptr 3 0]),some (.box [lv (aV ab)]),some (.box (cF (mL s aq nums)))] (bD (.gV [iv (((b7 nums.length (eK false aq nums c ab)).getD (0,0)).1:Nat),iv (((b7 nums.length (eK false aq nums c ab)).getD (0,0)).2:Nat),bv (b7 nums.length (eK false aq nums c ab)).isSome]) [some (.box [lv (bP (kq nums (a7 ab)))]),some (.box [.ptr 3 0]),some (.box [lv (aV ab)]),some (.box (cF (mL s aq nums)))]):=by
 have hll:(kq nums (a7 ab)).length=nums.length:=rG _ _
 obtain⟨fp,hfp⟩:∃f,b7 nums.length (eK false aq nums c ab)=f:=⟨_,rfl⟩
 rw[hfp]
 refine gS (nt:=35) (rs:=[.tmp 4,.tmp 5,.tmp 6]) hm Tryz.func49 fun hl he cq=>?_
 refine aM hm (fun(i:Nat)=> i≤nums.length∧fp=(dP i nums.length).find? (fun q=>eK false aq nums c ab q.1 q.2)) (fun(i:Nat)=> ⟨dH 35 .any [(0,.ptr 3 0),(1,.fn 54 [.ptr 0 0,.ptr 1 0,.ptr 2 0]),(13,iv nums.length),(14,iv i)],[some (.box [lv (bP (kq nums (a7 ab)))]),some (.box [.ptr 3 0]),some (.box [lv (aV ab)]),some (.box (cF (mL s aq nums)))]⟩) (fun(i:Nat)=> nums.length-i) (0) ?_ (ar [some 0,some 1,some 2,some 3] ?_ ?_ rfl rfl) ?_
 rotate_left
 ·exact sC
 ·exact sC
 rotate_left
 ·exact⟨bc _,hfp.symm⟩
 ·rintro i ⟨hi,hg⟩
  rcases aa (i<nums.length) with h1|h1
  ·rw[nL h1] at hg
   refine uA ?_
   refine sQ ?_
   refine aM hm (fun(k:Nat)=> i<k∧k≤nums.length∧fp=(mc i k nums.length).find? (fun q=>eK false aq nums c ab q.1 q.2)) (fun(k:Nat)=> ⟨dH 35 .any [(0,.ptr 3 0),(1,.fn 54 [.ptr 0 0,.ptr 1 0,.ptr 2 0]),(7,iv i),(8,iv k),(13,iv nums.length),(14,iv i)],[some (.box [lv (bP (kq nums (a7 ab)))]),some (.box [.ptr 3 0]),some (.box [lv (aV ab)]),some (.box (cF (mL s aq nums)))]⟩) (fun(k:Nat)=> nums.length-k) (i+1) ?_ (ar [some 0,some 1,some 2,some 3] ?_ ?_ rfl rfl) ?_
   rotate_left
   ·exact sC
   ·exact sC
   rotate_left
   ·exact⟨by omega,by omega,hg⟩
   ·rintro k ⟨hik,hk,hg⟩
    rcases aa (k<nums.length) with h2|h2
    ·have hco:=aau s aq nums (kq nums (a7 ab)) ab i k h1 h2 hnt hll
     have ga:nums.getD i aL=nums[i]:=fc h1
     have gb:nums.getD k aL=nums[k]:=fc h2
     have eo:eK false aq nums c ab i k=(!decide (cl (kq nums (a7 ab)) i=cl (kq nums (a7 ab)) k)&&(!eX nums ab i k&& !eX nums ab k i)):=by rw[K5];rfl
     obtain⟨bb,hbb⟩:∃b,(!decide (cl (kq nums (a7 ab)) i=cl (kq nums (a7 ab)) k)&&(!eX nums ab i k&& !eX nums ab k i))=b:=⟨_,rfl⟩
     rw[hbb] at eo hco
     rw[ox h2,dM] at hg
     simp only[eo] at hg
     refine uB ?_
     refine gE [.ptr 0 0,.ptr 1 0,.ptr 2 0] [0,1,2,3] hco ?_ ?_
     ·refine sA ?_
      first|rfl|((repeat' apply au)<;>rfl)
     refine sA ?_
     cases h3:bb
     ·rw[h3] at hg
      refine sA ?_
      refine sQ ?_
      refine⟨k+1,?_,sL,ar [some 0,some 1,some 2,some 3] ?_ ?_ rfl rfl⟩
      rotate_left
      ·exact sC
      ·exact sC
      exact⟨by omega,by omega,hg⟩
     ·rw[h3] at hg
      simp only at hg
      refine sA ?_
      refine bZ [some 0,some 1,some 2,some 3] ?_ rfl rfl
      refine sA ?_
      rw[hg]
      all_goals((repeat' apply au)<;>rfl)
    ·rw[qk (by omega)] at hg
     refine uB ?_
     refine sQ ?_
     refine⟨i+1,?_,sL,ar [some 0,some 1,some 2,some 3] ?_ ?_ rfl rfl⟩
     rotate_left
     ·exact sC
     ·exact sC
     exact⟨by omega,hg⟩
  ·rw[oX (by omega),jV] at hg
   refine uA ?_
   refine bZ [some 0,some 1,some 2,some 3] ?_ rfl rfl
   refine sA ?_
   rw[hg]
   all_goals((repeat' apply au)<;>rfl)
end
end Go.Proofs.YtabembjmeobhoaaGreat
