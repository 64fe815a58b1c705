/-
  The program: why two parts are one. A step towards the laws.
-/
import Derived.Test.YtabembjmeobhoaaGreatKDzg
import Derived.Test.YtabembjmeobhoaaGreatKDd
set_option linter.unusedVariables false
set_option linter.unusedSimpArgs false
open And renaming intro→au
open Bool renaming true_and→aB,false_and→aK
open Classical renaming em→aa
open List renaming drop_eq_getElem_cons→ae,getElem?_eq_getElem→ah,drop_of_length_le→ai,getElem_mem→ak,take_of_length_le→ao,getD_eq_getElem?_getD→aA,range→bx,find?_cons→dG,drop→fx,find?_nil→jN
open Nat renaming le_refl→aJ,zero_le→bc
namespace Go.Proofs.YtabembjmeobhoaaGreat
open Go.Eng Go.Mod
open Int renaming reduceEq→Z1,reduceLT→Z2,reduceLE→Z3,reduceToNat→Z4
set_option maxRecDepth 100000
set_option maxHeartbeats 3200000
section
variable(af:List Term)(eqs:List fO)(c:List Nat)(aj:List Step)
theorem Kl(a:jy):eC [a]=[gQ a]:=by rw[ki,lu]
theorem Si(a b:jy):eC [a,b]=[gQ a,gQ b]:=by rw[ki,ki,lu]
theorem sk(eW:lz af eqs aj)(hk:gR af)(o5:af.length≤1000)(hk9:∀t∈af,t.kids.length≤1000)(f:Nat)
 (ih:∀n a b,n<f→n≤aj.length→a<af.length→b<af.length→cl (aR af.length aj n) a=cl (aR af.length aj n) b→C E.P 112 [.ptr 0 0,iv a,iv b,iv n] [some (.box [lv (aN af),lv (bQ c),lv (aY aj)])] (bz (av (gQ (lk af aj f n a b))) [some (.box [lv (aN af),lv (bQ c),lv (aY aj)])]))
 (d:Mod.Edge) (hi:d.step<aj.length) (hf:d.step<f):C E.P 182 [.ptr 0 0,av (zt d)] [some (.box [lv (aN af),lv (bQ c),lv (aY aj)])] (bz (av (gQ (kJ af aj (lk af aj f) d))) [some (.box [lv (aN af),lv (bQ c),lv (aY aj)])]):=by
 obtain⟨i,back⟩:=d
 simp only at hi hf
 have hs:=r6 hi
 have hso:=oL eW hi
 have a0:=hso.a0
 have b0:=hso.b0
 have a1:=Hc eW hi
 have b1:=F0 eW hi
 have eA:aj[i].A=(vA aj i:Int):=by rw[vA,hs];rw[hs] at a0;omega
 have eB:aj[i].B=(vB aj i:Int):=by rw[vB,hs];rw[hs] at b0;omega
 have XW:=hso.XW
 have hE:vU af aj (lk af aj f) i=if aj[i].given<0 then .mk 5 0 (.mk (af.getD (vA aj i) aM).name []) (((af.getD (vA aj i) aM).kids.zip (af.getD (vB aj i) aM).kids).map fun p=>lk af aj f i (aG af p.1) (aG af p.2)) else .mk 2 aj[i].given aM []:=by rw[vU,hs]
 have hed:=HK af aj (lk af aj f) ⟨i,back⟩
 simp only at hed
 rw[hs] at XW
 have cq:=jT
 refine HA (nt:=80) (rs:=[.cell 4 37]) Tryz.func182 rfl rfl rfl rfl rfl (fun hl he=>?_)
 simp -implicitDefEqProofs only[go_sem] at hl⊢
 refine iI hm ?_
 rcases aa (aj[i].given<0) with h0|h0
 ·rw[if_pos h0] at hE
  have hal:alike af (aR af.length aj i) (vA aj i) (vB aj i)=true:=by
   rcases XW with h|⟨n,h,_⟩
   ·rw[vA,vB,hs];exact h.2
   ·omega
  obtain⟨q1,q2,q3,q4⟩:=Om hal
  have gA:af.getD (vA aj i) aM=af[vA aj i]:=by rw[aA,ah a1];rfl
  have gB:af.getD (vB aj i) aM=af[vB aj i]:=by rw[aA,ah b1];rfl
  have mA:=ak a1
  have mB:=ak b1
  obtain⟨x,hx⟩:∃x,af[vA aj i]=x:=⟨_,rfl⟩
  obtain⟨y,hy⟩:∃y,af[vB aj i]=y:=⟨_,rfl⟩
  rw[hx] at gA mA
  rw[hy] at gB mB
  rw[gA] at q1 q2 q3 q4 hE
  rw[gB] at q2 q3 q4 hE
  have kx:=hk _ mA
  have ky:=hk _ mB
  have kl:=hk9 _ mA
  simp -implicitDefEqProofs only[go_sem,hi,h0,eA,eB,a1,b1,hx,hy]
  refine iK ?_
  refine iK ?_
  refine aL hm (fun(k:Nat)=> k≤x.kids.length) (fun(k:Nat)=> ⟨dx 80 .any [(0,.ptr 0 0),(3,.ptr 1 0),(4,.ptr 2 0),(6,.ptr 3 0),(7,.ptr 4 0),(8,.ptr 5 0),(46,iv x.kids.length),(47,iv k)],[some (.box [lv (aN af),lv (bQ c),lv (aY aj)]),some (.box [iv i,bv back]),some (.box (cE (gQ sU))),some (.box [iv 5,iv 0,sv x.name,lv [],.acc 6]),some (.box (cE (cT x))),some (.box (cE (cT y))),some (.acc 37 (eC (((x.kids.zip y.kids).take k).map fun p=>lk af aj f i (aG af p.1) (aG af p.2))))]⟩) (fun(k:Nat)=> x.kids.length-k) (0) ?_ (ar [some 0,some 1,some 2,some 4,some 5,some 6,none] ?_ ?_ rfl rfl) ?_
  rotate_left
  ·exact sC
  ·exact sC
  rotate_left
  ·omega
  ·rintro k hk1
   have hzl:(((x.kids.zip y.kids).take k).map fun p=>lk af aj f i (aG af p.1) (aG af p.2)).length≤1000:=by simp;omega
   rcases aa (k<x.kids.length) with h1|h1
   ·have h2:k<y.kids.length:=by omega
    have mx:=kx _ (ak h1)
    have my:=ky _ (ak h2)
    have px:=bA mx
    have py:=bA my
    have cx:=cd mx
    have cy:=cd my
    have hc:=ih i (aG af x.kids[k]) (aG af y.kids[k]) hf (by omega) px py (q4 k h1 h2)
    have hz:=Mx (f:=fun p=>lk af aj f i (aG af p.1) (aG af p.2)) h1 h2
    have ca:=CB af c aj x.kids[k]
    have cb:=CB af c aj y.kids[k]
    rw[cx] at ca
    rw[cy] at cb
    refine uA ?_
    refine dH [] [0] ca rfl ?_ ?_ ?_
    ·exact sV
    all_goals simp -implicitDefEqProofs only[go_sem,h2]
    refine dH [] [0] cb rfl ?_ ?_ ?_
    ·exact sV
    all_goals simp -implicitDefEqProofs only[go_sem]
    refine oC [] [0] hc ?_
    refine sQ ?_
    refine⟨k+1,?_,sL,ar [some 0,some 1,some 2,some 3,some 4,some 5,some 7] ?_ ?_ rfl rfl⟩
    rotate_left
    ·exact sC
    ·refine sA ?_
     all_goals((rw[hz,←DU,ki,lu];rfl))
    exact h1
   ·have et:(x.kids.zip y.kids).take k=x.kids.zip y.kids:=ao (by simp;omega)
    rw[et]
    cases back
    ·rw[if_neg (by simp),hE] at hed
     simp -implicitDefEqProofs only[go_sem,h1,dW]
     refine eP ?_
     refine bZ [some 0] ?_ rfl rfl
     refine sA ?_
     rw[hed]
     ((repeat' apply au)<;>rfl)
    ·rw[if_pos rfl,hE] at hed
     simp -implicitDefEqProofs only[go_sem,h1,dW]
     refine⟨_,AH.NC (vR 7 0 _ rfl (by simp) (show oQ _ 0=[T.leaf (D.val (Value.int IntKind.i64 5)),T.leaf (D.val (Value.int IntKind.i64 0)),T.leaf (D.str x.name),T.leaf (D.dt []),T.ref 6] from rfl)),?_⟩
     refine sA ?_
     refine bZ [some 0] ?_ rfl rfl
     refine sA ?_
     rw[hed]
     ((repeat' apply au)<;>first|rfl|exact⟨_,(by simp only[List.set_cons_zero,cX,gi,T.G0,nc];try rfl),Kl _⟩)
 ·rw[if_neg h0] at hE
  cases back
  ·rw[if_neg (by simp),hE] at hed
   simp -implicitDefEqProofs only[go_sem,hi,h0,dW]
   refine iK ?_
   refine eP ?_
   refine bZ [some 0] ?_ rfl rfl
   refine sA ?_
   rw[hed]
   ((repeat' apply au)<;>rfl)
  ·rw[if_pos rfl,hE] at hed
   simp -implicitDefEqProofs only[go_sem,hi,h0,dW]
   refine iK ?_
   refine eP ?_
   refine bZ [some 0] ?_ rfl rfl
   refine sA ?_
   rw[hed]
   ((repeat' apply au)<;>first|rfl|exact(Kl _).symm)
theorem GO(eW:lz af eqs aj)(hk:gR af)(o5:af.length≤1000)(hk9:∀t∈af,t.kids.length≤1000)(hs9:aj.length≤2000000):∀(f n a b:Nat),n<f→n≤aj.length→a<af.length→b<af.length→cl (aR af.length aj n) a=cl (aR af.length aj n) b →
 C E.P 112 [.ptr 0 0,iv a,iv b,iv n] [some (.box [lv (aN af),lv (bQ c),lv (aY aj)])] (bz (av (gQ (lk af aj f n a b))) [some (.box [lv (aN af),lv (bQ c),lv (aY aj)])]):=by
 intro f
 induction f with
 | zero=>intro n a b h;omega
 | succ f ih=>
 intro n a b hnf hn ha hb hab
 obtain⟨w1,w2,w3⟩:=rD eW hn ha hb hab
 have cw:=ZI af eqs c aj eW o5 hs9 n a b hn ha hb hab
 have ga:af.getD a aM=af[a]:=by rw[aA,ah ha];rfl
 obtain⟨way,hw⟩:∃w,lR af.length aj n a b=w:=⟨_,rfl⟩
 have hF:=RC af aj f n a b
 rw[hw] at hF w1 w3 cw
 have hwl:way.length≤1000:=by
  have h1:=kd w3 (fun v hv=>by
   simp only[gL,List.mem_cons,List.mem_map] at hv
   rcases hv with rfl|⟨e,he,rfl⟩
   ·exact ha
   ·exact yp eW (by have:=w1 e he;omega))
  simp[gL] at h1
  omega
 refine gS (nt:=50) (rs:=[.cell 8 37]) hm Tryz.func112 fun hl he cq=>?_
 refine oC [] [0] cw ?_
 rcases Nat.eq_zero_or_pos way.length with hz|hz
 ·obtain rfl:=List.length_eq_zero_iff.1 hz
  rw[R5] at hF
  simp -implicitDefEqProofs only[go_sem,ha]
  refine aC [] (hQ af[a]) ?_
  refine bZ [some 0] ?_ rfl rfl
  refine sA ?_
  rw[hF,ga]
  ((repeat' apply au)<;>rfl)
 ·have jJ:¬ (way.length:Int)=0:=by omega
  have hz':(0:Int)<(way.length:Int):=by omega
  have jw:=w1 _ (ak hz)
  have hco:=sk af eqs c aj eW hk o5 hk9 f ih way[0] (by omega) (by omega)
  have f1:(1:Int)≤(way.length:Int)∧∀y∈dp way,y.length=2:=⟨by omega,L4 _⟩
  obtain⟨ss,hss⟩:∃ss,way.drop 1=ss:=⟨_,rfl⟩
  have hsl:List.take (way.length-1) (fx 1 (dp way))=dp ss:=by
   rw[←hss,ao (by simp[dp])]
   simp[dp]
  have hsn:ss.length=way.length-1:=by rw[←hss,List.length_drop]
  have hln:min (way.length-1) (fx 1 (dp way)).length=ss.length:=by rw[hsn];simp[dp]
  have kG:∀d∈ss,d.step<n:=fun d hd=>w1 d (by rw[←hss] at hd;exact List.mem_of_mem_drop hd)
  have hF2:=hF
  rw[xe hz,hss] at hF2
  simp -implicitDefEqProofs only[go_sem,jJ,hz]
  refine gw [] [0] hco ?_ ?_<;>simp -implicitDefEqProofs only[go_sem,Z3,Z4]
  refine sQ ?_
  simp -implicitDefEqProofs only[go_sem,hsl,hln]
  refine cM hm (fun(i:Nat) (w:jy)=> i≤ss.length∧lk af aj (f+1) n a b=oV (kJ af aj (lk af aj f)) w (ss.drop i)) (fun(i:Nat) (w:jy)=> ⟨dx 50 .any [(0,.ptr 0 0),(8,.ptr 1 0),(10,.ptr 2 0),(36,lv (dp ss)),(37,iv ss.length),(38,iv i)],[some (.box [lv (aN af),lv (bQ c),lv (aY aj)]),some (.box (cE (gQ sU))),some (.box (cE (gQ w)))]⟩) (fun(i:Nat) (w:jy)=> ss.length-i) (0) (kJ af aj (lk af aj f) way[0]) ?_ (ar [some 0,some 1,some 2] ?_ ?_ rfl rfl) ?_
  rotate_left
  ·exact sC
  ·exact sC
  rotate_left
  ·exact⟨bc _,hF2⟩
  ·rintro i w ⟨hi,hg⟩
   rcases aa (i<ss.length) with h1|h1
   ·have hd:=kG _ (ak h1)
    have hco2:=sk af eqs c aj eW hk o5 hk9 f ih ss[i] (by omega) (by omega)
    rw[ae h1,oV] at hg
    refine uA ?_
    refine oC [] [0] hco2 ?_
    refine iK ?_
    refine sQ ?_
    refine⟨i+1,.mk 4 0 aM [w,kJ af aj (lk af aj f) ss[i]],?_,sL,ar [some 0,some 1,some 2] ?_ ?_ rfl rfl⟩
    rotate_left
    ·exact sC
    ·refine sA ?_
     all_goals(exact⟨rfl,rfl,rfl,rfl,(Si _ _).symm⟩)
    exact⟨by omega,hg⟩
   ·rw[ai (by omega),oV] at hg
    refine uA ?_
    refine bZ [some 0] ?_ rfl rfl
    refine sA ?_
    rw[hg]
    ((repeat' apply au)<;>rfl)
theorem uQ(eW:lz af eqs aj)(hk:gR af)(o5:af.length≤1000)(hk9:∀t∈af,t.kids.length≤1000)(hs9:aj.length≤2000000)(x y:Term)(hx:x∈af)(hy:y∈af)(hxy:cl (aR af.length aj aj.length) (aG af x)=cl (aR af.length aj aj.length) (aG af y)) :
 C E.P 53 [.ptr 0 0,av (cT x),av (cT y)] [some (.box [lv (aN af),lv (bQ c),lv (aY aj)])] (bz (av (gQ (Mod.l6 af aj x y))) [some (.box [lv (aN af),lv (bQ c),lv (aY aj)])]):=by
 have hc:=GO af eqs c aj eW hk o5 hk9 hs9 (aj.length+1) aj.length (aG af x) (aG af y) (by omega) (aJ _) (bA hx) (bA hy) hxy
 have ca:=CB af c aj x
 have cb:=CB af c aj y
 rw[cd hx] at ca
 rw[cd hy] at cb
 refine gS (nt:=20) (rs:=[.cell 6 37]) hm Tryz.func53 fun hl he cq=>?_
 refine dH [] [0] ca rfl ?_ ?_ ?_
 ·exact sV
 all_goals simp -implicitDefEqProofs only[go_sem]
 refine dH [] [0] cb rfl ?_ ?_ ?_
 ·exact sV
 all_goals simp -implicitDefEqProofs only[go_sem]
 refine oC [] [0] hc ?_
 refine iK ?_
 refine bZ [some 0] ?_ rfl rfl
 refine sA ?_
 ((repeat' apply au)<;>rfl)
end
def mI(s:dK)(aq nums:List Term):List D:=[.dt (dY s.syms),.dt (aN aq),.dt (aN nums)]
attribute [go_sem] mI
theorem Kp(s:dK)(aq nums:List Term)(eqs:List fO)(h4:nums.length≤4)(he9:eqs.length≤1000):C E.P 46 [.ptr 0 0,lv (cO eqs)] [some (.box (cE (mI s aq nums)))] (bz (lv (bQ (j7 nums eqs))) [some (.box (cE (mI s aq nums)))]):=by
 refine gS (nt:=82) (rs:=[.tmp 4]) hm Tryz.func46 fun hl he cq=>?_
 refine sQ ?_
 refine cM hm (fun(i:Nat) (c:List Nat)=> i≤nums.length∧c.length=nums.length∧c.take i=bx i) (fun(i:Nat) (c:List Nat)=> ⟨dx 82 .any [(0,.ptr 0 0),(1,lv (cO eqs)),(5,.acc 1),(22,iv nums.length),(23,iv i)],[some (.box (cE (mI s aq nums))),some (.acc 3 (bQ c))]⟩) (fun(i:Nat) (c:List Nat)=> nums.length-i) (0) (List.replicate nums.length 0) ?_ (ar [some 0,some 1] ?_ ?_ rfl rfl) ?_
 rotate_left
 ·refine sA ?_
  all_goals((simp[]))
 ·refine sA ?_
  all_goals((simp[bQ]))
 rotate_left
 ·exact⟨bc _,by simp,rfl⟩
 ·rintro i c ⟨hi,hc,ht⟩
  rcases aa (i<nums.length) with h1|h1
  ·have h1':i<c.length:=by omega
   have hp:=uW (l:=c) (i:=i) (n:=i) h1'
   rw[pn h1'] at hp
   simp -implicitDefEqProofs only[go_sem,h1,h1']
   refine sQ ?_
   refine⟨i+1,c.set i i,?_,sL,ar [some 0,some 1] ?_ ?_ rfl rfl⟩
   rotate_left
   ·exact sC
   ·refine sA ?_
    all_goals(exact hp)
   refine⟨by omega,by simpa using hc,?_⟩
   rw[List.range_succ,←ht,List.take_add_one,List.take_set_of_le (aJ _)]
   simp[h1']
  ·obtain rfl:i=nums.length:=by omega
   have e:c=bx nums.length:=by
    rw[←ht,ao (by omega)]
   rw[e]
   refine uA ?_
   clear hi hc ht h1 e c
   refine cM hm (fun(n:Nat) (c:List Nat)=> n≤eqs.length∧c.length=nums.length∧j7 nums eqs=(eqs.drop n).foldl (eY nums) c) (fun(n:Nat) (c:List Nat)=> ⟨dx 82 .any [(0,.ptr 0 0),(5,.acc 1),(31,lv (cO eqs)),(32,iv eqs.length),(33,iv n)],[some (.box (cE (mI s aq nums))),some (.acc 3 (bQ c))]⟩) (fun(n:Nat) (c:List Nat)=> eqs.length-n) (0) (bx nums.length) ?_ (ar [some 0,some 1] ?_ ?_ rfl rfl) ?_
   rotate_left
   ·exact sC
   ·exact sC
   rotate_left
   ·exact⟨bc _,by simp,rfl⟩
   ·rintro n c ⟨hn,hc,hg⟩
    rcases aa (n<eqs.length) with h1|h1
    ·rw[ae h1,List.foldl_cons] at hg
     rcases aa (eqs[n].A∈nums) with hA|hA
     ·rcases aa (eqs[n].B∈nums) with hB|hB
      ·have pA:=bA hA
       have pB:=bA hB
       have cA:=cd hA
       have cB:=cd hB
       have ca:=dE nums eqs[n].A
       have cb:=dE nums eqs[n].B
       rw[cA] at ca
       rw[cB] at cb
       have es:eY nums c eqs[n]=c.map fun k=>if k=cl c (aG nums eqs[n].A) then cl c (aG nums eqs[n].B) else k:=by rw[eY,if_neg (by omega)]
       have dy:=vn nums c eqs[n]
       rw[es] at hg dy
       generalize aG nums eqs[n].A=a at *
       generalize aG nums eqs[n].B=b at *
       have pA':a<c.length:=by omega
       have pB':b<c.length:=by omega
       have eA:c[a]=cl c a:=(gX pA').symm
       have eB:c[b]=cl c b:=(gX pB').symm
       have nA:¬ (a:Int)<0:=by omega
       have nB:¬ (b:Int)<0:=by omega
       obtain⟨f,hf⟩:∃f,cl c a=f:=⟨_,rfl⟩
       obtain⟨t,ht⟩:∃t,cl c b=t:=⟨_,rfl⟩
       rw[hf] at eA hg dy
       rw[ht] at eB hg dy
       have hend:∀i,c.length≤i→fJ c f t i=c.map fun k=>if k=f then t else k:=fun i hi=>by
        unfold fJ
        rw[ao hi,ai hi,List.append_nil]
       refine uA ?_
       refine aC [] ca ?_
       refine aC [] cb ?_
       refine iK ?_
       simp -implicitDefEqProofs only[go_sem,nA,nB,pA',pB',eA,eB]
       refine iK ?_
       refine aL hm (fun(i:Nat)=> i≤c.length) (fun(i:Nat)=> ⟨dx 82 .any [(0,.ptr 0 0),(5,.acc 1),(11,iv f),(12,iv t),(31,lv (cO eqs)),(32,iv eqs.length),(33,iv n),(65,.acc 1),(66,iv c.length),(67,iv i)],[some (.box (cE (mI s aq nums))),some (.acc 3 (bQ (fJ c f t i)))]⟩) (fun(i:Nat)=> c.length-i) (0) ?_ (ar [some 0,some 1] ?_ ?_ rfl rfl) ?_
       rotate_left
       ·exact sC
       ·refine sA ?_
        all_goals((simp[fJ]))
       rotate_left
       ·omega
       ·rintro i hi
        have hjl:=sF c f t i
        rcases aa (i<c.length) with h2|h2
        ·have h2':i<(fJ c f t i).length:=by omega
         have eg:=rC (f:=f) (t:=t) h2 h2'
         rcases aa (c[i]=f) with h3|h3
         ·have k3:=eq_true h3
          have hp:=uW (l:=fJ c f t i) (i:=i) (n:=t) h2'
          have hnx:=qn (f:=f) (t:=t) h2
          rw[if_pos h3] at hnx
          rw[pn h2',eg] at hp
          simp -implicitDefEqProofs only[go_sem,hjl,h2,eg,k3]
          refine sQ ?_
          refine⟨i+1,?_,sL,ar [some 0,some 1] ?_ ?_ rfl rfl⟩
          rotate_left
          ·exact sC
          ·refine sA ?_
           all_goals((rw[hp,hnx]))
          exact h2
         ·have hnx:=tq (f:=f) (t:=t) h2 h3
          simp -implicitDefEqProofs only[go_sem,hjl,h2,eg,h3]
          refine sQ ?_
          refine⟨i+1,?_,sL,ar [some 0,some 1] ?_ ?_ rfl rfl⟩
          rotate_left
          ·exact sC
          ·refine sA ?_
           all_goals((rw[hnx]))
          exact h2
        ·rw[hend i (by omega)] at hjl⊢
         refine uB ?_
         refine sQ ?_
         refine⟨n+1,(c.map fun k=>if k=f then t else k),?_,sL,ar [some 0,some 1] ?_ ?_ rfl rfl⟩
         rotate_left
         ·exact sC
         ·exact sC
         exact⟨by omega,by simpa using hc,hg⟩
      ·have h3:bK nums eqs[n].B<0:=by
        have:=(not_congr cV).2 hB
        omega
       have cA:=cd hA
       have nA:¬bK nums eqs[n].A<0:=by omega
       have es:eY nums c eqs[n]=c:=by rw[eY,if_pos (.inr h3)]
       rw[es] at hg
       refine uA ?_
       refine aC [] (dE nums eqs[n].A) ?_
       refine aC [] (dE nums eqs[n].B) ?_
       refine iK ?_
       simp -implicitDefEqProofs only[go_sem,nA,h3]
       refine sQ ?_
       refine⟨n+1,c,?_,sL,ar [some 0,some 1] ?_ ?_ rfl rfl⟩
       rotate_left
       ·exact sC
       ·exact sC
       exact⟨by omega,hc,hg⟩
     ·have h3:bK nums eqs[n].A<0:=by
       have:=(not_congr cV).2 hA
       omega
      have es:eY nums c eqs[n]=c:=by rw[eY,if_pos (.inl h3)]
      rw[es] at hg
      refine uA ?_
      refine aC [] (dE nums eqs[n].A) ?_
      refine aC [] (dE nums eqs[n].B) ?_
      refine iK ?_
      refine uC ?_
      refine sQ ?_
      refine⟨n+1,c,?_,sL,ar [some 0,some 1] ?_ ?_ rfl rfl⟩
      rotate_left
      ·exact sC
      ·exact sC
      exact⟨by omega,hc,hg⟩
    ·rw[ai (by omega),List.foldl_nil] at hg
     refine uA ?_
     refine bZ [some 0] ?_ rfl rfl
     refine sA ?_
     rw[hg]
     ((repeat' apply au)<;>rfl)
theorem Lg(s:dK)(aq nums:List Term)(eqs:List fO)(ab:List bm)(hk:gR aq)(kG:∀e∈eqs,e.A∈aq∧e.B∈aq)(o5:aq.length≤1000)(hk9:∀t∈aq,t.kids.length≤1000)(hlk:∀l∈ab,l.atom.kind=1→l.atom.A∈aq∧l.atom.B∈aq) :
 C E.P 43 [.ptr 0 0,lv (aV ab),.ptr 1 0] [some (.box (cE (mI s aq nums))),some (.box [lv (aN aq),lv (bQ (closed aq eqs).1),lv (aY (closed aq eqs).2)])]
   (bz (.gV [av (gH (match jQ (iA aq (closed aq eqs).1) ab with|none=>ng|some n=>.mk 1 n (Mod.l6 aq (closed aq eqs).2 (ab.getD n ED).atom.A (ab.getD n ED).atom.B) [] aM aM [])),bv (jQ (iA aq (closed aq eqs).1) ab).isSome]) [some (.box (cE (mI s aq nums))),some (.box [lv (aN aq),lv (bQ (closed aq eqs).1),lv (aY (closed aq eqs).2)])]):=by
 have hkept:=mO (af:=aq) (eqs:=eqs) kG
 have hc:=Nb hkept
 have hsl:(closed aq eqs).2.length≤2000000:=by
  have h1:=u9 hkept (closed aq eqs).2.length (aJ _)
  have h2:(bx aq.length).sum≤(bx aq.length).length*1000:=pq fun x hx=>by have:=List.mem_range.1 hx;omega
  have h3:(bx aq.length).length*1000≤1000*1000:=Nat.mul_le_mul_right _ (by simpa using o5)
  omega
 have hex:∀x y,x∈aq→y∈aq→gg aq (closed aq eqs).1 x y=true→C E.P 53 [.ptr 0 0,av (cT x),av (cT y)] [some (.box [lv (aN aq),lv (bQ (closed aq eqs).1),lv (aY (closed aq eqs).2)])] (bz (av (gQ (Mod.l6 aq (closed aq eqs).2 x y))) [some (.box [lv (aN aq),lv (bQ (closed aq eqs).1),lv (aY (closed aq eqs).2)])]):=fun x y hx hy hxy=>by
  refine uQ aq eqs (closed aq eqs).1 (closed aq eqs).2 hkept.1 hk o5 hk9 hsl x y hx hy ?_
  rw[←hkept.2]
  simpa[gg] using hxy
 obtain⟨c,ec⟩:∃c,(closed aq eqs).1=c:=⟨_,rfl⟩
 obtain⟨aj,es⟩:∃x,(closed aq eqs).2=x:=⟨_,rfl⟩
 rw[ec] at hc hex⊢
 rw[es] at hex⊢
 obtain⟨R,hR⟩:∃R,jQ (iA aq c) ab=R:=⟨_,rfl⟩
 rw[hR]
 refine gS (nt:=60) (rs:=[.cell 6 41,.tmp 7]) hm Tryz.func43 fun hl he cq=>?_
 refine aL hm (fun(i:Nat)=> i≤ab.length∧R=vL (iA aq c) ab i) (fun(i:Nat)=> ⟨dx 60 .any [(2,.ptr 1 0),(6,.ptr 2 0),(11,lv (aV ab)),(12,iv ab.length),(13,iv i)],[some (.box (cE (mI s aq nums))),some (.box [lv (aN aq),lv (bQ c),lv (aY aj)]),some (.box (cE (gH ng)))]⟩) (fun(i:Nat)=> ab.length-i) (0) ?_ (ar [some 0,some 1,some 2] ?_ ?_ rfl rfl) ?_
 rotate_left
 ·exact sC
 ·refine sA ?_
  all_goals(((repeat' apply au)<;>rfl))
 rotate_left
 ·exact⟨bc _,by rw[←hR];exact Fp _ _⟩
 ·rintro i ⟨hi,hg⟩
  rcases aa (i<ab.length) with h1|h1
  ·rw[Dz h1] at hg
   have hl:=hlk _ (ak h1)
   have ecl:iA aq c ab[i]=(ab[i].no&&(decide (ab[i].atom.kind=1)&&gg aq c ab[i].atom.A ab[i].atom.B)):=rfl
   cases h2:ab[i].no
   ·rw[ecl,h2,aK,if_neg (by simp)] at hg
    refine uJ ?_
    refine iK ?_
    refine sQ ?_
    refine⟨i+1,?_,sL,ar [some 0,some 1,some 2] ?_ ?_ rfl rfl⟩
    rotate_left
    ·exact sC
    ·exact sC
    exact⟨by omega,hg⟩
   ·rcases aa (ab[i].atom.kind=1) with h3|h3
    ·have k3:=eq_true h3
     obtain⟨hA,hB⟩:=hl h3
     have hgd:ab.getD i ED=ab[i]:=getD_at h1
     rw[ecl,h2,decide_eq_true h3,aB,aB] at hg
     have pA:=bA hA
     have pB:=bA hB
     have pA':aG aq ab[i].atom.A<c.length:=by omega
     have pB':aG aq ab[i].atom.B<c.length:=by omega
     have eA:c[aG aq ab[i].atom.A]=cl c (aG aq ab[i].atom.A):=(gX pA').symm
     have eB:c[aG aq ab[i].atom.B]=cl c (aG aq ab[i].atom.B):=(gX pB').symm
     have ca:=CB aq c aj ab[i].atom.A
     have cb:=CB aq c aj ab[i].atom.B
     rw[cd hA] at ca
     rw[cd hB] at cb
     simp -implicitDefEqProofs only[go_sem,h1,h2,k3]
     refine dH [] [1] ca rfl ?_ ?_ ?_
     ·exact sV
     all_goals simp -implicitDefEqProofs only[go_sem,pA',eA]
     refine dH [] [1] cb rfl ?_ ?_ ?_
     ·exact sV
     all_goals simp -implicitDefEqProofs only[go_sem,pB',eB]
     refine iK ?_
     rcases aa (cl c (aG aq ab[i].atom.A)=cl c (aG aq ab[i].atom.B)) with h4|h4
     ·have hsm:gg aq c ab[i].atom.A ab[i].atom.B=true:=decide_eq_true h4
      have k4:=eq_true h4
      have hx:=hex _ _ hA hB hsm
      rw[hsm,if_pos rfl] at hg
      simp -implicitDefEqProofs only[go_sem,k4]
      refine oC [] [1] hx ?_
      refine bZ [some 0,some 1] ?_ rfl rfl
      refine sA ?_
      rw[hg]
      simp only[hgd]
      ((repeat' apply au)<;>rfl)
     ·have hsm:gg aq c ab[i].atom.A ab[i].atom.B=false:=decide_eq_false h4
      rw[hsm,if_neg (by simp)] at hg
      refine uD ?_
      refine sQ ?_
      refine⟨i+1,?_,sL,ar [some 0,some 1,some 2] ?_ ?_ rfl rfl⟩
      rotate_left
      ·exact sC
      ·exact sC
      exact⟨by omega,hg⟩
    ·rw[ecl,h2,decide_eq_false h3,aB,aK,if_neg (by simp)] at hg
     simp -implicitDefEqProofs only[go_sem,h1,h2,h3]
     refine iK ?_
     refine sQ ?_
     refine⟨i+1,?_,sL,ar [some 0,some 1,some 2] ?_ ?_ rfl rfl⟩
     rotate_left
     ·exact sC
     ·exact sC
     exact⟨by omega,hg⟩
  ·rw[HL (by omega)] at hg
   refine uA ?_
   refine bZ [some 0,some 1] ?_ rfl rfl
   refine sA ?_
   rw[hg]
   ((repeat' apply au)<;>rfl)
theorem Ed(f:Nat)(cap:List PV)(jS:tK 0 cap=true)(p:bm→Bool)(xs:List bm)(hf:∀x∈xs,C E.P f (av (nW x)::cap) [] (bz (bv (p x)) [])) :
 C E.P 183 [lv (aV xs),.fn f cap] [] (bz (iv (idxOf p xs)) []):=by
 refine gS (nt:=19) (rs:=[.tmp 4]) hm Tryz.func183 fun hl he cq=>?_
 refine aL hm (fun(i:Nat)=> i≤xs.length∧idxOf p xs=gh p (xs.drop i) i) (fun(i:Nat)=> ⟨dx 19 .any [(0,lv (aV xs)),(1,.fn f cap),(7,iv xs.length),(8,iv i)],[]⟩) (fun(i:Nat)=> xs.length-i) (0) ?_ (ar [] ?_ ?_ rfl rfl) ?_
 rotate_left
 ·refine sA ?_
  all_goals(simp[aI, *];done)
 ·exact sC
 rotate_left
 ·simp[idxOf]
 ·rintro i ⟨hi,hg⟩
  rcases aa (i<xs.length) with h1|h1
  ·rw[ae h1,gh] at hg
   refine uA ?_
   have hc:=hf xs[i] (ak h1)
   refine bw cap hc ?_ ?_<;>simp -implicitDefEqProofs only[go_sem,jS]
   cases h2:p xs[i]
   ·rw[h2] at hg
    simp only[Bool.false_eq_true,if_false] at hg
    refine sA ?_
    refine⟨by omega,?_⟩
    refine⟨i+1,?_,sL,ar [] ?_ ?_ rfl rfl⟩
    rotate_left
    ·refine sA ?_
     all_goals(simp[aI, *];done)
    ·exact sC
    exact⟨by omega,hg⟩
   ·rw[h2] at hg
    simp only[if_true] at hg
    refine sA ?_
    refine an ?_
    refine sA ?_
    all_goals(simp[hg];done)
  ·rw[ai (by omega),gh] at hg
   refine uA ?_
   refine an ?_
   refine sA ?_
   all_goals(simp[hg];done)
theorem z8(f:Nat)(cap:List PV)(jS:tK 0 cap=true)(p:bm→Bool)(xs:List bm)(hf:∀x∈xs,C E.P f (av (nW x)::cap) [] (bz (bv (p x)) [])) :
 C E.P 114 [lv (aV xs),.fn f cap] [] (bz (bv (xs.any p)) []):=by
 refine gS (nt:=9) (rs:=[.tmp 4]) hm Tryz.func114 fun hl he cq=>?_
 refine bw [] (Ed f cap jS p xs hf) ?_ ?_<;>simp -implicitDefEqProofs only[go_sem,jS]
 refine an ?_
 refine sA ?_
 all_goals(simp[B9];done)
theorem Dm{aq nums:List Term}{c:List Nat}{ab:List bm}{i k:Nat}:dU true aq nums c ab i k=(!Mod.linked nums ab i k&&gg aq c (nums.getD i aM) (nums.getD k aM)):=rfl
theorem KY{aq nums:List Term}{c:List Nat}{ab:List bm}{i k:Nat}:dU false aq nums c ab i k=(!Mod.linked nums ab i k&&(!eS nums ab i k&& !eS nums ab k i)):=rfl
theorem TE(l less:bm):C E.P 115 [av (nW l),.gq [nW less] 0 0] [] (bz (bv (!l.no&&decide (l.atom=less.atom))) []):=by
 have hco:=Ef l.atom less.atom
 refine gS (nt:=14) (rs:=[.tmp 3]) hm Tryz.func115 fun hl he cq=>?_
 cases h:l.no
 ·refine sA ?_
  refine aC [] hco ?_
  refine an ?_
  simp -implicitDefEqProofs only[go_sem]
  all_goals((repeat' apply au)<;>rfl)
 ·refine sA ?_
  refine an ?_
  simp -implicitDefEqProofs only[go_sem]
  all_goals((repeat' apply au)<;>rfl)
theorem NS(s:dK)(aq nums:List Term)(ab:List bm)(i k:Nat)(hi:i<nums.length)(hk:k<nums.length)(hnt:∀t∈nums,isTerm t=true):C E.P 55 [.gq [mI s aq nums] 0 0,lv (aV ab),iv i,iv k] [] (bz (bv (eS nums ab i k)) []):=by
 have ga:nums.getD i aM=nums[i]:=e7 hi
 have gb:nums.getD k aM=nums[k]:=e7 hk
 have hls:=rM nums[i] nums[k] (hnt _ (ak hi)) (hnt _ (ak hk))
 have jw:eS nums ab i k=ab.any fun l=>!l.no&&decide (l.atom=(eE nums[i] nums[k]).atom):=by rw[←ga,←gb];rfl
 rw[jw]
 generalize eE nums[i] nums[k]=less at hls
 refine gS (nt:=28) (rs:=[.tmp 8]) hm Tryz.func55 fun hl he cq=>?_
 simp -implicitDefEqProofs only[go_sem,hi,hk]
 refine aC [] hls ?_
 refine iK ?_
 refine dH [] [0] (z8 115 [.gq [nW less] 0 0] rfl (fun l=>!l.no&&decide (l.atom=less.atom)) ab (fun l _=>TE l less)) rfl ?_ ?_ ?_
 ·exact sV
 all_goals simp -implicitDefEqProofs only[go_sem]
 refine an ?_
 simp -implicitDefEqProofs only[go_sem]
 all_goals((repeat' apply au)<;>rfl)
section
variable(s:dK)(aq nums:List Term)(c ls:List Nat)(aj:List Step)(ab:List bm)
theorem ZH(i k:Nat)(hi:i<nums.length)(hk:k<nums.length)(nq:∀t∈nums,t∈aq)(hc:c.length=aq.length):C E.P 47 [iv i,iv k,.ptr 0 0,.ptr 1 0] [some (.box [.ptr 2 0]),some (.box [.ptr 3 0]),some (.box [lv (aN aq),lv (bQ c),lv (aY aj)]),some (.box (cE (mI s aq nums)))] (bz (bv (gg aq c nums[i] nums[k])) [some (.box [.ptr 2 0]),some (.box [.ptr 3 0]),some (.box [lv (aN aq),lv (bQ c),lv (aY aj)]),some (.box (cE (mI s aq nums)))]):=by
 have hA:=nq _ (ak hi)
 have hB:=nq _ (ak hk)
 have pA:=bA hA
 have pB:=bA hB
 have pA':aG aq nums[i]<c.length:=by omega
 have pB':aG aq nums[k]<c.length:=by omega
 have eA:c[aG aq nums[i]]=cl c (aG aq nums[i]):=(gX pA').symm
 have eB:c[aG aq nums[k]]=cl c (aG aq nums[k]):=(gX pB').symm
 have ca:=CB aq c aj nums[i]
 have cb:=CB aq c aj nums[k]
 rw[cd hA] at ca
 rw[cd hB] at cb
 refine gS (nt:=38) (rs:=[.tmp 6]) hm Tryz.func47 fun hl he cq=>?_
 simp -implicitDefEqProofs only[go_sem,hi]
 refine dH [] [2] ca rfl ?_ ?_ ?_
 ·exact sV
 all_goals simp -implicitDefEqProofs only[go_sem,pA',eA,hk]
 refine dH [] [2] cb rfl ?_ ?_ ?_
 ·exact sV
 all_goals simp -implicitDefEqProofs only[go_sem,pB',eB]
 refine iK ?_
 refine bZ [some 0,some 1,some 2,some 3] ?_ rfl rfl
 refine sA ?_
 all_goals((repeat' apply au)<;>rfl)
theorem Z0(i k:Nat)(hi:i<nums.length)(hk:k<nums.length)(nq:∀t∈nums,t∈aq)(hc:c.length=aq.length)(hll:ls.length=nums.length):C E.P 50 [iv i,iv k,.ptr 0 0,.ptr 1 0] [some (.box [lv (bQ ls)]),some (.box [.fn 47 [.ptr 2 0,.ptr 3 0]]),some (.box [.ptr 4 0]),some (.box [.ptr 5 0]),some (.box [lv (aN aq),lv (bQ c),lv (aY aj)]),some (.box (cE (mI s aq nums)))] (bz (bv (!decide (cl ls i=cl ls k)&&gg aq c nums[i] nums[k])) [some (.box [lv (bQ ls)]),some (.box [.fn 47 [.ptr 2 0,.ptr 3 0]]),some (.box [.ptr 4 0]),some (.box [.ptr 5 0]),some (.box [lv (aN aq),lv (bQ c),lv (aY aj)]),some (.box (cE (mI s aq nums)))]):=by
 have hi':i<ls.length:=by omega
 have hk':k<ls.length:=by omega
 have ei:ls[i]=cl ls i:=(gX hi').symm
 have ek:ls[k]=cl ls k:=(gX hk').symm
 have hco:=ZH s aq nums c aj i k hi hk nq hc
 refine gS (nt:=22) (rs:=[.tmp 6]) hm Tryz.func50 fun hl he cq=>?_
 rcases aa (cl ls i=cl ls k) with h|h
 ·have kk:=eq_true h
  simp -implicitDefEqProofs only[go_sem,hi',hk',ei,ek,kk]
  refine iK ?_
  refine bZ [some 0,some 1,some 2,some 3,some 4,some 5] ?_ rfl rfl
  simp -implicitDefEqProofs only[go_sem]
  all_goals rw[decide_eq_true h]
  all_goals((repeat' apply au)<;>rfl)
 ·simp -implicitDefEqProofs only[go_sem,hi',hk',ei,ek,h]
  refine gw [.ptr 2 0,.ptr 3 0] [2,3,4,5] hco ?_ ?_
  ·refine sA ?_
   first|rfl|((repeat' apply au)<;>rfl)
  refine sA ?_
  refine iK ?_
  refine bZ [some 0,some 1,some 2,some 3,some 4,some 5] ?_ rfl rfl
  simp -implicitDefEqProofs only[go_sem]
  all_goals rw[decide_eq_false h]
  all_goals((repeat' apply au)<;>rfl)
theorem ZO(i k:Nat)(hi:i<nums.length)(hk:k<nums.length)(hnt:∀t∈nums,isTerm t=true)(hll:ls.length=nums.length):C E.P 54 [iv i,iv k,.ptr 0 0,.ptr 1 0,.ptr 2 0] [some (.box [lv (bQ ls)]),some (.box [.ptr 3 0]),some (.box [lv (aV ab)]),some (.box (cE (mI s aq nums)))] (bz (bv (!decide (cl ls i=cl ls k)&&(!eS nums ab i k&& !eS nums ab k i))) [some (.box [lv (bQ ls)]),some (.box [.ptr 3 0]),some (.box [lv (aV ab)]),some (.box (cE (mI s aq nums)))]):=by
 have hi':i<ls.length:=by omega
 have hk':k<ls.length:=by omega
 have ei:ls[i]=cl ls i:=(gX hi').symm
 have ek:ls[k]=cl ls k:=(gX hk').symm
 have c1:=NS s aq nums ab i k hi hk hnt
 have c2:=NS s aq nums ab k i hk hi hnt
 refine gS (nt:=33) (rs:=[.tmp 7]) hm Tryz.func54 fun hl he cq=>?_
 rcases aa (cl ls i=cl ls k) with h|h
 ·have kk:=eq_true h
  simp -implicitDefEqProofs only[go_sem,hi',hk',ei,ek,kk]
  refine iK ?_
  refine bZ [some 0,some 1,some 2,some 3] ?_ rfl rfl
  simp -implicitDefEqProofs only[go_sem]
  all_goals rw[decide_eq_true h]
  all_goals((repeat' apply au)<;>rfl)
 ·simp -implicitDefEqProofs only[go_sem,hi',hk',ei,ek,h]
  refine dH [] [3] c1 rfl ?_ ?_ ?_
  ·exact sV
  all_goals simp -implicitDefEqProofs only[go_sem]
  cases h2:eS nums ab i k
  ·refine sA ?_
   refine dH [] [3] c2 rfl ?_ ?_ ?_
   ·exact sV
   all_goals simp -implicitDefEqProofs only[go_sem]
   refine iK ?_
   refine bZ [some 0,some 1,some 2,some 3] ?_ rfl rfl
   simp -implicitDefEqProofs only[go_sem]
   all_goals rw[decide_eq_false h]
   all_goals((repeat' apply au)<;>rfl)
  ·refine sA ?_
   refine iK ?_
   refine bZ [some 0,some 1,some 2,some 3] ?_ rfl rfl
   simp -implicitDefEqProofs only[go_sem]
   all_goals rw[decide_eq_false h]
   all_goals((repeat' apply au)<;>rfl)
theorem Vh(nq:∀t∈nums,t∈aq)(hc:c.length=aq.length)(h4:nums.length≤4):C E.P 49 [.ptr 5 0,.fn 50 [.ptr 0 0,.ptr 1 0]] [some (.box [lv (bQ (j7 nums (aZ ab)))]),some (.box [.fn 47 [.ptr 2 0,.ptr 3 0]]),some (.box [.ptr 4 0]),some (.box [.ptr 5 0]),some (.box [lv (aN aq),lv (bQ c),lv (aY aj)]),some (.box (cE (mI s aq nums)))] (bz (.gV [iv (((bW nums.length (dU true aq nums c ab)).getD (0,0)).1:Nat),iv (((bW nums.length (dU true aq nums c ab)).getD (0,0)).2:Nat),bv (bW nums.length (dU true aq nums c ab)).isSome]) [some (.box [lv (bQ (j7 nums (aZ ab)))]),some (.box [.fn 47 [.ptr 2 0,.ptr 3 0]]),some (.box [.ptr 4 0]),some (.box [.ptr 5 0]),some (.box [lv (aN aq),lv (bQ c),lv (aY aj)]),some (.box (cE (mI s aq nums)))]):=by
 have hll:(j7 nums (aZ ab)).length=nums.length:=ry _ _
 obtain⟨fp,hfp⟩:∃f,bW nums.length (dU true aq nums c ab)=f:=⟨_,rfl⟩
 rw[hfp]
 refine gS (nt:=35) (rs:=[.tmp 4,.tmp 5,.tmp 6]) hm Tryz.func49 fun hl he cq=>?_
 refine aL hm (fun(i:Nat)=> i≤nums.length∧fp=(dJ i nums.length).find? (fun q=>dU true aq nums c ab q.1 q.2)) (fun(i:Nat)=> ⟨dx 35 .any [(0,.ptr 5 0),(1,.fn 50 [.ptr 0 0,.ptr 1 0]),(13,iv nums.length),(14,iv i)],[some (.box [lv (bQ (j7 nums (aZ ab)))]),some (.box [.fn 47 [.ptr 2 0,.ptr 3 0]]),some (.box [.ptr 4 0]),some (.box [.ptr 5 0]),some (.box [lv (aN aq),lv (bQ c),lv (aY aj)]),some (.box (cE (mI s aq nums)))]⟩) (fun(i:Nat)=> nums.length-i) (0) ?_ (ar [some 0,some 1,some 2,some 3,some 4,some 5] ?_ ?_ rfl rfl) ?_
 rotate_left
 ·exact sC
 ·exact sC
 rotate_left
 ·exact⟨bc _,hfp.symm⟩
 ·rintro i ⟨hi,hg⟩
  rcases aa (i<nums.length) with h1|h1
  ·rw[nN h1] at hg
   refine uA ?_
   refine sQ ?_
   refine aL hm (fun(k:Nat)=> i<k∧k≤nums.length∧fp=(lW i k nums.length).find? (fun q=>dU true aq nums c ab q.1 q.2)) (fun(k:Nat)=> ⟨dx 35 .any [(0,.ptr 5 0),(1,.fn 50 [.ptr 0 0,.ptr 1 0]),(7,iv i),(8,iv k),(13,iv nums.length),(14,iv i)],[some (.box [lv (bQ (j7 nums (aZ ab)))]),some (.box [.fn 47 [.ptr 2 0,.ptr 3 0]]),some (.box [.ptr 4 0]),some (.box [.ptr 5 0]),some (.box [lv (aN aq),lv (bQ c),lv (aY aj)]),some (.box (cE (mI s aq nums)))]⟩) (fun(k:Nat)=> nums.length-k) (i+1) ?_ (ar [some 0,some 1,some 2,some 3,some 4,some 5] ?_ ?_ rfl rfl) ?_
   rotate_left
   ·exact sC
   ·exact sC
   rotate_left
   ·exact⟨by omega,by omega,hg⟩
   ·rintro k ⟨hik,hk,hg⟩
    rcases aa (k<nums.length) with h2|h2
    ·have hco:=Z0 s aq nums c (j7 nums (aZ ab)) aj i k h1 h2 nq hc hll
     have ga:nums.getD i aM=nums[i]:=e7 h1
     have gb:nums.getD k aM=nums[k]:=e7 h2
     have eo:dU true aq nums c ab i k=(!decide (cl (j7 nums (aZ ab)) i=cl (j7 nums (aZ ab)) k)&&gg aq c nums[i] nums[k]):=by rw[Dm,ga,gb];rfl
     obtain⟨bb,hbb⟩:∃b,(!decide (cl (j7 nums (aZ ab)) i=cl (j7 nums (aZ ab)) k)&&gg aq c nums[i] nums[k])=b:=⟨_,rfl⟩
     rw[hbb] at eo hco
     rw[oS h2,dG] at hg
     simp only[eo] at hg
     refine uB ?_
     refine gw [.ptr 0 0,.ptr 1 0] [0,1,2,3,4,5] hco ?_ ?_
     ·refine sA ?_
      first|rfl|((repeat' apply au)<;>rfl)
     refine sA ?_
     cases h3:bb
     ·rw[h3] at hg
      refine sA ?_
      refine sQ ?_
      refine⟨k+1,?_,sL,ar [some 0,some 1,some 2,some 3,some 4,some 5] ?_ ?_ rfl rfl⟩
      rotate_left
      ·exact sC
      ·exact sC
      exact⟨by omega,by omega,hg⟩
     ·rw[h3] at hg
      simp only at hg
      refine sA ?_
      refine bZ [some 0,some 1,some 2,some 3,some 4,some 5] ?_ rfl rfl
      refine sA ?_
      rw[hg]
      all_goals((repeat' apply au)<;>rfl)
    ·rw[qc (by omega)] at hg
     refine uB ?_
     refine sQ ?_
     refine⟨i+1,?_,sL,ar [some 0,some 1,some 2,some 3,some 4,some 5] ?_ ?_ rfl rfl⟩
     rotate_left
     ·exact sC
     ·exact sC
     exact⟨by omega,hg⟩
  ·rw[oW (by omega),jN] at hg
   refine uA ?_
   refine bZ [some 0,some 1,some 2,some 3,some 4,some 5] ?_ rfl rfl
   refine sA ?_
   rw[hg]
   all_goals((repeat' apply au)<;>rfl)
theorem TL(hnt:∀t∈nums,isTerm t=true)(h4:nums.length≤4):C E.P 49 [.ptr 3 0,.fn 54 [.ptr 0 0,.ptr 1 0,.ptr 2 0]] [some (.box [lv (bQ (j7 nums (aZ ab)))]),some (.box [.ptr 3 0]),some (.box [lv (aV ab)]),some (.box (cE (mI s aq nums)))] (bz (.gV [iv (((bW nums.length (dU false aq nums c ab)).getD (0,0)).1:Nat),iv (((bW nums.length (dU false aq nums c ab)).getD (0,0)).2:Nat),bv (bW nums.length (dU false aq nums c ab)).isSome]) [some (.box [lv (bQ (j7 nums (aZ ab)))]),some (.box [.ptr 3 0]),some (.box [lv (aV ab)]),some (.box (cE (mI s aq nums)))]):=by
 have hll:(j7 nums (aZ ab)).length=nums.length:=ry _ _
 obtain⟨fp,hfp⟩:∃f,bW nums.length (dU false aq nums c ab)=f:=⟨_,rfl⟩
 rw[hfp]
 refine gS (nt:=35) (rs:=[.tmp 4,.tmp 5,.tmp 6]) hm Tryz.func49 fun hl he cq=>?_
 refine aL hm (fun(i:Nat)=> i≤nums.length∧fp=(dJ i nums.length).find? (fun q=>dU false aq nums c ab q.1 q.2)) (fun(i:Nat)=> ⟨dx 35 .any [(0,.ptr 3 0),(1,.fn 54 [.ptr 0 0,.ptr 1 0,.ptr 2 0]),(13,iv nums.length),(14,iv i)],[some (.box [lv (bQ (j7 nums (aZ ab)))]),some (.box [.ptr 3 0]),some (.box [lv (aV ab)]),some (.box (cE (mI s aq nums)))]⟩) (fun(i:Nat)=> nums.length-i) (0) ?_ (ar [some 0,some 1,some 2,some 3] ?_ ?_ rfl rfl) ?_
 rotate_left
 ·exact sC
 ·exact sC
 rotate_left
 ·exact⟨bc _,hfp.symm⟩
 ·rintro i ⟨hi,hg⟩
  rcases aa (i<nums.length) with h1|h1
  ·rw[nN h1] at hg
   refine uA ?_
   refine sQ ?_
   refine aL hm (fun(k:Nat)=> i<k∧k≤nums.length∧fp=(lW i k nums.length).find? (fun q=>dU false aq nums c ab q.1 q.2)) (fun(k:Nat)=> ⟨dx 35 .any [(0,.ptr 3 0),(1,.fn 54 [.ptr 0 0,.ptr 1 0,.ptr 2 0]),(7,iv i),(8,iv k),(13,iv nums.length),(14,iv i)],[some (.box [lv (bQ (j7 nums (aZ ab)))]),some (.box [.ptr 3 0]),some (.box [lv (aV ab)]),some (.box (cE (mI s aq nums)))]⟩) (fun(k:Nat)=> nums.length-k) (i+1) ?_ (ar [some 0,some 1,some 2,some 3] ?_ ?_ rfl rfl) ?_
   rotate_left
   ·exact sC
   ·exact sC
   rotate_left
   ·exact⟨by omega,by omega,hg⟩
   ·rintro k ⟨hik,hk,hg⟩
    rcases aa (k<nums.length) with h2|h2
    ·have hco:=ZO s aq nums (j7 nums (aZ ab)) ab i k h1 h2 hnt hll
     have ga:nums.getD i aM=nums[i]:=e7 h1
     have gb:nums.getD k aM=nums[k]:=e7 h2
     have eo:dU false aq nums c ab i k=(!decide (cl (j7 nums (aZ ab)) i=cl (j7 nums (aZ ab)) k)&&(!eS nums ab i k&& !eS nums ab k i)):=by rw[KY];rfl
     obtain⟨bb,hbb⟩:∃b,(!decide (cl (j7 nums (aZ ab)) i=cl (j7 nums (aZ ab)) k)&&(!eS nums ab i k&& !eS nums ab k i))=b:=⟨_,rfl⟩
     rw[hbb] at eo hco
     rw[oS h2,dG] at hg
     simp only[eo] at hg
     refine uB ?_
     refine gw [.ptr 0 0,.ptr 1 0,.ptr 2 0] [0,1,2,3] hco ?_ ?_
     ·refine sA ?_
      first|rfl|((repeat' apply au)<;>rfl)
     refine sA ?_
     cases h3:bb
     ·rw[h3] at hg
      refine sA ?_
      refine sQ ?_
      refine⟨k+1,?_,sL,ar [some 0,some 1,some 2,some 3] ?_ ?_ rfl rfl⟩
      rotate_left
      ·exact sC
      ·exact sC
      exact⟨by omega,by omega,hg⟩
     ·rw[h3] at hg
      simp only at hg
      refine sA ?_
      refine bZ [some 0,some 1,some 2,some 3] ?_ rfl rfl
      refine sA ?_
      rw[hg]
      all_goals((repeat' apply au)<;>rfl)
    ·rw[qc (by omega)] at hg
     refine uB ?_
     refine sQ ?_
     refine⟨i+1,?_,sL,ar [some 0,some 1,some 2,some 3] ?_ ?_ rfl rfl⟩
     rotate_left
     ·exact sC
     ·exact sC
     exact⟨by omega,hg⟩
  ·rw[oW (by omega),jN] at hg
   refine uA ?_
   refine bZ [some 0,some 1,some 2,some 3] ?_ rfl rfl
   refine sA ?_
   rw[hg]
   all_goals((repeat' apply au)<;>rfl)
end
end Go.Proofs.YtabembjmeobhoaaGreat
