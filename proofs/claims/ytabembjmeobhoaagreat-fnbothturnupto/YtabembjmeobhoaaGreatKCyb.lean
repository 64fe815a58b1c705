/-
  The reference: the walk of words that are bent. A step towards the laws.
-/
import Derived.Test.YtabembjmeobhoaaGreatKCya
import Derived.Test.YtabembjmeobhoaaGreatKCq
set_option linter.unusedVariables false
set_option linter.unusedSimpArgs false
open Classical renaming em→aa
open Int renaming toNat_natCast→bn
open List renaming getElem_mem→ak,take_of_length_le→ao,mem_cons→ax,length_append→aR,not_mem_nil→ba,length_take→bT
namespace Go.Proofs.YtabembjmeobhoaaGreat
open Go.Eng Go.Mod
open Int renaming reduceEq→Z1,reduceLT→Z2,reduceLE→Z3,reduceToNat→Z4
set_option maxRecDepth 100000
set_option maxHeartbeats 800000
theorem Dv{l:List Sym}{k:Nat}(h:k<l.length)(x:Sym)(r:List D)(hr:r=wH x):(eF l).set k r=eF (l.set k x):=by
 rw[hr,eF,eF,List.map_set]
theorem y6(b:List Int)(hb:yV b)(s:dI)(o6:s.syms.length≤100)(ha9:∀x∈s.syms,x.args.length≤1000)(p:Int)(h1:0≤p)(h2:p≤900000000) :
 C E.P 93 [.ptr 0 0,av (eu s)] [some (uz b p)] (bD (av (eu (jr b s p).1)) [some (uz b (jr b s p).2)]):=by
 have q2:p+1+1=p+2:=by omega
 have q3:p+2+1=p+3:=by omega
 have q4:p+3+1=p+4:=by omega
 have cq:=jZ
 refine Eh (nt:=116) (rs:=[.cell 4 25]) Tryz.func93 rfl rfl rfl rfl rfl (fun hl he=>?_)
 simp -implicitDefEqProofs only[go_sem] at hl⊢
 refine gz hm ?_
 refine sA ?_
 refine aM hm (fun(i:Nat)=> i≤s.syms.length) (fun(i:Nat)=> ⟨dH 116 .any [(0,.ptr 0 0),(3,.ptr 1 0),(4,.ptr 2 0),(5,.ptr 3 0),(6,iv i)],[some (uz b p),some (.box (cF (eu s))),some (.box [.b6]),some (.box [.acc 4]),some (.fw 126 (xP (s.syms.take i)))]⟩) (fun(i:Nat)=> s.syms.length-i) (0) ?_ (ar [some 0,some 1,some 2,some 4,some 3] ?_ ?_ rfl rfl) ?_
 rotate_left
 ·exact sC
 ·refine sA ?_
  all_goals(rfl)
 rotate_left
 ·omega
 ·rintro i hi
  have hp:(xP (s.syms.take i)).length=i:=by rw[Hb,bT];omega
  rcases aa (i<s.syms.length) with h3|h3
  ·have ha:=ha9 s.syms[i] (ak h3)
   have l7:=pW s.syms[i].args
   refine uC ?_
   refine sQ ?_
   refine⟨i+1,?_,?_,Bx 9 i _ rfl (by rw[aR,hp];simp) (wQ hp) ?_⟩
   rotate_left
   ·show _ < _
    omega
   ·refine sA ?_
    refine ar [some 0,some 1,some 2,some 3,some 9] ?_ ?_ rfl rfl
    ·exact sC
    ·refine sA ?_
     all_goals(rw[xY hp];exact⟨KE h3,(congrArg (fun z=>(cZ z).isSome) (KE h3)).trans (YE _)⟩)
   exact h3
  ·have et:s.syms.take i=s.syms:=ao (by omega)
   rw[et]
   rcases aa (s.syms.length=0) with h4|h4
   ·have e:jr b s p=(s,p):=by rw[jr,if_pos h4]
    have k4:((s.syms.length:Int)=0)=True:=eq_true (by omega)
    simp -implicitDefEqProofs only[go_sem,h3,k4]
    refine dR ?_
    refine bZ [some 0] ?_ rfl rfl
    refine sA ?_
    rw[e]
    exact⟨⟨⟨_,rfl,rfl⟩,rfl⟩,rfl⟩
   have k4:¬ (s.syms.length:Int)=0:=by omega
   simp -implicitDefEqProofs only[go_sem,h3,k4]
   refine oC [] [0] (nr b p 8 hb h1 (by omega)) ?_
   rcases aa (0<dp b p 8) with h5|h5
   ·have e:jr b s p=(s,p+1):=by rw[jr,if_neg h4,if_pos h5]
    refine uE ?_
    refine dR ?_
    refine bZ [some 0] ?_ rfl rfl
    refine sA ?_
    rw[e]
    exact⟨⟨⟨_,rfl,rfl⟩,rfl⟩,rfl⟩
   refine uE ?_
   obtain⟨k,ek,hk⟩:=vE hb (p:=p+1) (n:=s.syms.length) (by omega) (by omega)
   obtain⟨x,hx⟩:∃x,s.syms[k]=x:=⟨_,rfl⟩
   have ex:s.syms.getD k ⟨[],[],0⟩=x:=by rw[←hx,List.getD_eq_getElem?_getD,List.getElem?_eq_getElem hk];rfl
   have qO:row (eF s.syms) k=wH x:=by rw[D6 hk,hx]
   obtain⟨y,e0⟩:∃y,jr b s p=y:=⟨_,rfl⟩
   have ee:=e0
   unfold jr at ee
   simp only[if_neg h4,if_neg h5,ek,bn,ex] at ee
   refine gE [] [0] (nr b (p+1) s.syms.length hb (by omega) (by omega)) ?_ ?_<;>simp -implicitDefEqProofs only[go_sem,ek,q2]
   rcases aa (dp b (p+2) 5=1) with c1|c1
   ·have c0:¬dp b (p+2) 5=0:=by omega
    have k1:=eq_true c1
    rw[if_neg c0,if_pos c1] at ee
    have hkT:k<(xP s.syms).length:=by rw[Hb];exact hk
    have hrowT:oN (xP s.syms) k=[.leaf (.str x.name),.own 3 (BG x.args),.leaf (.val (.int .i64 x.sort))]:=by rw[US hk,hx];rfl
    have hrs:∀r,oN ((xP s.syms).set k r) k=r:=fun r=>YJ hkT
    have hxa:x.args.length≤1000:=by rw[←hx];exact ha9 _ (ak hk)
    refine abT (Wy 4 k _ rfl hkT hrowT) ?_
    refine sA ?_
    refine gE [] [0] (nr b (p+2) 5 hb (by omega) (by omega)) ?_ ?_<;>simp -implicitDefEqProofs only[go_sem,c0,k1,q3,hrs]
    refine sQ ?_
    refine gE [] [0] (s7 b (p+3) [0,2,-1,1] hb (by omega) (by omega) (by simp) (by simp)) ?_ ?_<;>simp -implicitDefEqProofs only[go_sem,q4,hrs]
    refine sQ ?_
    refine⟨_,AR.N6 (wj 4 k _ rfl (by rw[List.length_set];exact hkT) (hrs _)),?_⟩
    refine sA ?_
    refine bZ [some 0] ?_ rfl rfl
    refine sA ?_
    rw[e0,←ee]
    have jC:=Up s.syms k ⟨x.name,x.args++[j5 b (p+3) [0,2,-1,1]],x.sort⟩
    rw[Dx,←Uw] at jC
    exact⟨⟨⟨_,(congrArg cZ jC).trans (xO _),rfl⟩,rfl⟩,rfl⟩
   refine abT (RS 4 rfl (xO _)) ?_
   refine sA ?_
   refine gE [] [0] (nr b (p+2) 5 hb (by omega) (by omega)) ?_ ?_<;>simp -implicitDefEqProofs only[go_sem,q3]
   rcases aa (dp b (p+2) 5=0) with c0|c0
   ·have k0:=eq_true c0
    rw[if_pos c0] at ee
    refine uH ?_
    refine gE [] [0] (aaB b (p+3) [[],[65],[97,98,99],[122,122],[97]] hb (by omega) (by omega) (by simp) (by simp)) ?_ ?_<;>simp -implicitDefEqProofs only[go_sem,hk,q4]
    refine iK ?_
    refine dR ?_
    refine bZ [some 0] ?_ rfl rfl
    refine sA ?_
    rw[e0,←ee]
    exact⟨⟨(Dv hk ⟨SD b (p+3) [[],[65],[97,98,99],[122,122],[97]],x.args,x.sort⟩ _ (by rw[hx];rfl)).symm,rfl⟩,rfl⟩
   rw[if_neg c0,if_neg c1] at ee
   rcases aa (dp b (p+2) 5=2) with c2|c2
   ·have k2:=eq_true c2
    rw[if_pos c2] at ee
    simp -implicitDefEqProofs only[go_sem,c0,c1,k2]
    refine gE [] [0] (s7 b (p+3) [1,2,-1,0] hb (by omega) (by omega) (by simp) (by simp)) ?_ ?_<;>simp -implicitDefEqProofs only[go_sem,hk,q4]
    refine iK ?_
    refine dR ?_
    refine bZ [some 0] ?_ rfl rfl
    refine sA ?_
    rw[e0,←ee]
    exact⟨⟨(Dv hk ⟨x.name,x.args,j5 b (p+3) [1,2,-1,0]⟩ _ (by rw[hx];rfl)).symm,rfl⟩,rfl⟩
   rw[if_neg c2] at ee
   rcases aa (dp b (p+2) 5=3) with c3|c3
   ·have k3:=eq_true c3
    rw[if_pos c3] at ee
    simp -implicitDefEqProofs only[go_sem,c0,c1,c2,k3,hk,qO]
    refine sQ ?_
    refine dR ?_
    refine bZ [some 0] ?_ rfl rfl
    refine sA ?_
    rw[e0,←ee]
    exact⟨⟨by rw[←tF];rfl,rfl⟩,rfl⟩
   rw[if_neg c3] at ee
   simp -implicitDefEqProofs only[go_sem,c0,c1,c2,c3]
   refine cQ hm (fun(l:List Sym) (q:Int)=> p+3≤q∧q≤p+3+l.length∧l.length≤100∧wD b (8-s.syms.length) s.syms (p+3)=wD b (8-l.length) l q) (fun(l:List Sym) (q:Int)=> ⟨dH 116 .any [(0,.ptr 0 0),(4,.ptr 2 0),(5,.ptr 3 0)],[some (uz b q),some (.box (cF (eu s))),some (.box [.b6]),some (.box [.acc 4]),some (.acc 126 (eF l))]⟩) (fun(l:List Sym) (q:Int)=> 8-l.length) (s.syms) (p+3) ?_ (ar [some 0,some 1,some 2,some 3,some 4] ?_ ?_ rfl rfl) ?_
   rotate_left
   ·exact sC
   ·exact sC
   rotate_left
   ·exact⟨by omega,by omega,o6,rfl⟩
   ·rintro l q ⟨b1,b2,b3,hg⟩
    rcases aa (l.length≤7) with h6|h6
    ·have h6':(l.length:Int)≤7:=by omega
     have e8:8-l.length=(8-(l.length+1))+1:=by omega
     rw[e8,wD] at hg
     have hof:=XG hb (p:=q) (l:=[[97],[98],[122]]) (by omega) (by simp)
     have hol:(SD b q [[97],[98],[122]]).length=1:=by
      simp only[ax,ba,or_false] at hof
      rcases hof with e|e|e<;>rw[e]<;>rfl
     have hla:(l++[(⟨122::SD b q [[97],[98],[122]],[],0⟩:Sym)]).length=l.length+1:=by simp
     simp -implicitDefEqProofs only[go_sem,h6']
     refine oC [] [0] (aaB b q [[97],[98],[122]] hb (by omega) (by omega) (by simp) (by simp)) ?_
     refine sQ ?_
     refine⟨l++[(⟨122::SD b q [[97],[98],[122]],[],0⟩:Sym)],q+1,?_,sL,ar [some 0,some 1,some 2,some 3,some 5] ?_ ?_ rfl rfl⟩
     rotate_left
     ·exact sC
     ·refine sA ?_
      all_goals((rw[←tF];rfl))
     exact⟨by omega,by simp;omega,by simp;omega,by simpa using hg⟩
    ·have h6':¬ (l.length:Int)≤7:=by omega
     have e8:8-l.length=0:=by omega
     rw[e8,wD] at hg
     rw[hg] at ee
     simp -implicitDefEqProofs only[go_sem,h6']
     refine dR ?_
     refine bZ [some 0] ?_ rfl rfl
     refine sA ?_
     rw[e0,←ee]
     exact⟨⟨rfl,rfl⟩,rfl⟩
theorem V4(A:List Term)(t:Term):cZ (lift (aN A)++[[T.leaf (D.str t.name),T.own 34 (zZ t.kids)]])=some (aN (A++[t])):=by
 have h1:cZ [[T.leaf (D.str t.name),T.own 34 (zZ t.kids)]]=some [cT t]:=by simp[cZ,gm,T.Gl,we,cT]
 rw[Lm (nh _) h1,←lg,dJ,fZ]
theorem TO(A:List Term)(t:Term):cZ (lift (aN A)++[[T.leaf (D.str t.name),T.own 34 (zZ t.kids)],[T.leaf (D.str t.name),T.own 34 (zZ t.kids)]])=some (aN (A++[t,t])):=by
 have h1:cZ [[T.leaf (D.str t.name),T.own 34 (zZ t.kids)],[T.leaf (D.str t.name),T.own 34 (zZ t.kids)]]=some [cT t,cT t]:=by simp[cZ,gm,T.Gl,we,cT]
 rw[Lm (nh _) h1,←lg,dJ,dJ,fZ]
theorem C1(t:Term)(ih:∀k∈t.kids,C E.P 60 [av (cT k)] [] (bD (.agg [sv k.name,.acc 0]) [some (.fw 34 (zZ k.kids))])):C E.P 60 [av (cT t)] [] (bD (.agg [sv t.name,.acc 0]) [some (.fw 34 (zZ t.kids))]):=by
 refine gS (nt:=27) (rs:=[.cell 2 34]) hm Tryz.func60 fun hl he cq=>?_
 refine aM hm (fun(i:Nat)=> i≤t.kids.length) (fun(i:Nat)=> ⟨dH 27 .any [(1,.ptr 0 0),(2,.ptr 1 0),(3,.ptr 2 0),(4,iv i)],[some (.box (cF (cT t))),some (.box (cF (cT aL))),some (.box [.d (.str t.name),.acc 3]),some (.fw 34 (zZ (t.kids.take i)))]⟩) (fun(i:Nat)=> t.kids.length-i) (0) ?_ (ar [some 0,some 1,some 2,none] ?_ ?_ rfl rfl) ?_
 rotate_left
 ·exact sC
 ·refine sA ?_
  all_goals(rfl)
 rotate_left
 ·omega
 ·rintro i hi
  have hp:(zZ (t.kids.take i)).length=i:=by rw[SG,bT];omega
  rcases aa (i<t.kids.length) with h1|h1
  ·refine uA ?_
   have hc:=ih t.kids[i] (ak h1)
   refine oC [] [4] hc ?_
   refine sQ ?_
   refine⟨i+1,?_,?_,Bx 6 i _ rfl (by rw[aR,hp];simp) (wQ hp) ?_⟩
   rotate_left
   ·show _ < _
    omega
   ·refine sA ?_
    refine ar [some 0,some 1,some 2,some 6] ?_ ?_ rfl rfl
    ·exact sC
    ·refine sA ?_
     all_goals(rw[xY hp];exact⟨OM h1,(congrArg (fun z=>(cZ z).isSome) (OM h1)).trans (aaj _)⟩)
   exact h1
  ·have et:t.kids.take i=t.kids:=ao (by omega)
   simp -implicitDefEqProofs only[go_sem,h1,et]
   refine bZ [some 3] ?_ rfl rfl
   exact sC
theorem qZ:∀t,C E.P 60 [av (cT t)] [] (bD (.agg [sv t.name,.acc 0]) [some (.fw 34 (zZ t.kids))]):=
 Term.ind fun n ks ih=>C1 (.mk n ks) ih
theorem IK(b:List Int)(hb:yV b)(s:dI)(hs:fE s)(p:Int)(h1:0≤p)(h2:p≤900000000):C E.P 163 [.ptr 0 0,av (eu s)] [some (uz b p)] (bD (av (cT (Ju b s p).1)) [some (uz b (Ju b s p).2)]):=by
 obtain⟨d,ed,Jj,hd4⟩:∃d:Nat,j5 b (p+1) [2,3,1,4]=d∧1≤d∧d≤4:=by
  have hm:=xf hb (p:=p+1) (l:=[2,3,1,4]) (by omega) (by simp)
  simp only[ax,ba,or_false] at hm
  exact⟨(j5 b (p+1) [2,3,1,4]).toNat,by omega,by omega,by omega⟩
 have hpw:(2:Int) ^ d≤16:=by
  have:=Nat.pow_le_pow_right (n:=2) (by omega) hd4
  have e:(2:Int) ^ d=((2 ^ d:Nat):Int):=by simp
  omega
 have ha:=F7 (b:=b) hs d (dp b p 2) (p+2)
 obtain⟨y,e0⟩:∃y,Ju b s p=y:=⟨_,rfl⟩
 have ee:=e0
 unfold Ju at ee
 simp only[ed,bn] at ee
 obtain⟨r,hr⟩:∃r,ik b s d (dp b p 2) (p+2)=r:=⟨_,rfl⟩
 have hO:=sg b hb s hs d (dp b p 2) (p+2) Jj (by omega) (by omega)
 have hk2:=Tn b hs d (dp b p 2) (p+2)
 rw[hr] at ee ha hO hk2
 rw[e0,←ee]
 have hp:(lift (aN r.1.kids)).length=r.1.kids.length:=by simp[lift,rF]
 have q2:p+1+1=p+2:=by omega
 have cq:=jZ
 refine Eh (nt:=49) (rs:=[.cell 4 34]) Tryz.func163 rfl rfl rfl rfl rfl (fun hl he=>?_)
 simp -implicitDefEqProofs only[go_sem] at hl⊢
 refine gz hm ?_
 refine oC [] [0] (nr b p 2 hb h1 (by omega)) ?_
 refine oC [] [0] (s7 b (p+1) [2,3,1,4] hb (by omega) (by omega) (by simp) (by simp)) ?_
 rw[ed,q2]
 refine oC [] [0,3] hO ?_
 refine iK ?_
 refine oC [] [0] (nr b r.2 48 hb (by omega) (by omega)) ?_
 rcases aa (dp b r.2 48=0) with c0|c0
 ·have k0:=eq_true c0
  rw[if_pos c0]
  refine uH ?_
  have qr:r.2+1+1=r.2+2:=by omega
  refine gE [] [0] (aaB b (r.2+1) [[],[65],[97,98,99],[102]] hb (by omega) (by omega) (by simp) (by simp)) ?_ ?_<;>simp -implicitDefEqProofs only[go_sem,qr]
  refine dR ?_
  refine bZ [some 0] ?_ rfl rfl
  refine sA ?_
  rfl
 rw[if_neg c0]
 rcases aa (dp b r.2 48=1) with c1|c1
 ·have k1:=eq_true c1
  rw[if_pos c1]
  simp -implicitDefEqProofs only[go_sem,c0,k1]
  refine KL [] [3] [5] (qZ r.1) rfl ?_ ?_ ?_
  ·exact sV
  all_goals simp -implicitDefEqProofs only[go_sem]
  refine sQ ?_
  refine HS (wj 8 r.1.kids.length _ rfl (by rw[aR,hp];simp) (wQ hp)) ?_
  refine sA ?_
  rw[xY hp]
  refine dR ?_
  refine bZ [some 0] ?_ rfl rfl
  refine sA ?_
  exact⟨⟨_,V4 _ _,rfl⟩,rfl⟩
 rw[if_neg c1]
 rcases aa (dp b r.2 48=2) with c2|c2
 ·have k2:=eq_true c2
  rw[if_pos c2]
  simp -implicitDefEqProofs only[go_sem,c0,c1,k2]
  refine KL [] [3] [5] (qZ r.1) rfl ?_ ?_ ?_
  ·exact sV
  all_goals simp -implicitDefEqProofs only[go_sem]
  refine KL [] [3] [7] (qZ r.1) rfl ?_ ?_ ?_
  ·exact sV
  all_goals simp -implicitDefEqProofs only[go_sem]
  refine sQ ?_
  refine HS (wj 10 r.1.kids.length _ rfl (by rw[aR,hp];simp) (Xm hp)) ?_
  refine sA ?_
  rw[Vz hp]
  refine HS (wj 10 (r.1.kids.length+1) _ rfl (by rw[aR,hp];simp) (UN hp)) ?_
  refine sA ?_
  rw[Vg hp]
  refine dR ?_
  refine bZ [some 0] ?_ rfl rfl
  refine sA ?_
  exact⟨⟨_,TO _ _,rfl⟩,rfl⟩
 ·rw[if_neg c2]
  simp -implicitDefEqProofs only[go_sem,c0,c1,c2]
  refine dR ?_
  refine bZ [some 0] ?_ rfl rfl
  refine sA ?_
  rfl
end Go.Proofs.YtabembjmeobhoaaGreat
