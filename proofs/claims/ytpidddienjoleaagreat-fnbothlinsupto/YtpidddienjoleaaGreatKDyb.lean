/-
  The reference: the walk of words that are bent. A step towards the laws.
-/
import Derived.Test.YtpidddienjoleaaGreatKDya
import Derived.Test.YtpidddienjoleaaGreatKDq
import Derived.Test.YtpidddienjoleaaGreatKDDa
set_option linter.unusedVariables false
set_option linter.unusedSimpArgs false
namespace Go.Proofs.YtpidddienjoleaaGreat
open Go.Eng Go.Mod
open Int renaming reduceEq→Z1,reduceLT→Z2,reduceLE→Z3,reduceToNat→Z4
set_option maxRecDepth 100000
set_option maxHeartbeats 800000
theorem vz{l:List Sym}{k:Nat}(h:k<l.length)(x:Sym)(r:List D)(hr:r=oV x):(cQ l).set k r=cQ (l.set k x):=by
 rw[hr,cQ,cQ,List.map_set]
theorem qJ(b:List Int)(hb:qz b)(s:bA)(hl9:s.syms.length≤100)(ha9:∀x∈s.syms,x.args.length≤1000)(p:Int)(h1:0≤p)(h2:p≤900000000) :
 C E.P 136 [.ptr 0 0,av (bF s)] [some (mU b p)] (aO (av (bF (di b s p).1)) [some (mU b (di b s p).2)]):=by
 have q2:p+1+1=p+2:=by omega
 have q3:p+2+1=p+3:=by omega
 have q4:p+3+1=p+4:=by omega
 have hLB:=vP
 refine AU (nt:=116) (rs:=[.cell 4 25]) Tryz.func136 rfl rfl rfl rfl rfl (fun hl he=>?_)
 simp -implicitDefEqProofs only[go_sem] at hl⊢
 refine m0 hm ?_
 refine sA ?_
 refine au hm (fun(i:Nat)=> i≤s.syms.length) (fun(i:Nat)=> ⟨b9 116 .any [(0,.ptr 0 0),(3,.ptr 1 0),(4,.ptr 2 0),(5,.ptr 3 0),(6,iv i)],[some (mU b p),some (.box (bn (bF s))),some (.box [.aK]),some (.box [.acc 4]),some (.bM 117 (ph (s.syms.take i)))]⟩) (fun(i:Nat)=> s.syms.length-i) (0) ?_ (ah [some 0,some 1,some 2,some 4,some 3] ?_ ?_ rfl rfl) ?_
 rotate_left
 ·exact sC
 ·refine sA ?_
  all_goals(rfl)
 rotate_left
 ·omega
 ·rintro i hi
  have hp:(ph (s.syms.take i)).length=i:=by rw[yQ,List.length_take];omega
  rcases Classical.em (i<s.syms.length) with h3|h3
  ·have ha:=ha9 s.syms[i] (List.getElem_mem h3)
   have hall:=uC s.syms[i].args
   simp -implicitDefEqProofs only[go_sem,h3]
   repeat(with_reducible apply And.intro;exact sO)
   refine⟨i+1,?_,?_,xZ 9 i _ rfl (by rw[List.length_append,hp];simp) (ug hp) ?_⟩
   rotate_left
   ·show _ < _
    omega
   ·refine sA ?_
    refine ah [some 0,some 1,some 2,some 3,some 9] ?_ ?_ rfl rfl
    ·exact sC
    ·refine sA ?_
     all_goals(rw[tX hp];exact⟨Br h3,(congrArg (fun z=>(aW z).isSome) (Br h3)).trans (Pv _)⟩)
   exact h3
  ·have et:s.syms.take i=s.syms:=List.take_of_length_le (by omega)
   rw[et]
   rcases Classical.em (s.syms.length=0) with h4|h4
   ·have e:di b s p=(s,p):=by rw[di,if_pos h4]
    have k4:((s.syms.length:Int)=0)=True:=eq_true (by omega)
    simp -implicitDefEqProofs only[go_sem,h3,k4]
    refine bO ?_
    refine aG [some 0] ?_ rfl rfl
    refine sA ?_
    rw[e]
    exact⟨⟨⟨_,rfl,rfl⟩,rfl⟩,rfl⟩
   have k4:¬ (s.syms.length:Int)=0:=by omega
   simp -implicitDefEqProofs only[go_sem,h3,k4]
   refine oC [] [0] (gn b p 8 hb h1 (by omega)) ?_
   rcases Classical.em (0<a6 b p 8) with h5|h5
   ·have e:di b s p=(s,p+1):=by rw[di,if_neg h4,if_pos h5]
    simp -implicitDefEqProofs only[go_sem,h5]
    refine bO ?_
    refine aG [some 0] ?_ rfl rfl
    refine sA ?_
    rw[e]
    exact⟨⟨⟨_,rfl,rfl⟩,rfl⟩,rfl⟩
   simp -implicitDefEqProofs only[go_sem,h5]
   obtain⟨k,ek,hk⟩:=nZ hb (p:=p+1) (n:=s.syms.length) (by omega) (by omega)
   obtain⟨x,hx⟩:∃x,s.syms[k]=x:=⟨_,rfl⟩
   have ex:s.syms.getD k ⟨[],[],0⟩=x:=by rw[←hx,List.getD_eq_getElem?_getD,List.getElem?_eq_getElem hk];rfl
   have hrow:row (cQ s.syms) k=oV x:=by rw[vR hk,hx]
   obtain⟨y,e0⟩:∃y,di b s p=y:=⟨_,rfl⟩
   have ee:=e0
   unfold di at ee
   simp only[if_neg h4,if_neg h5,ek,Int.toNat_natCast,ex] at ee
   refine cz [] [0] (gn b (p+1) s.syms.length hb (by omega) (by omega)) ?_ ?_<;>simp -implicitDefEqProofs only[go_sem,ek,q2]
   rcases Classical.em (a6 b (p+2) 5=1) with c1|c1
   ·have c0:¬a6 b (p+2) 5=0:=by omega
    have k1:=eq_true c1
    rw[if_neg c0,if_pos c1] at ee
    have hkT:k<(ph s.syms).length:=by rw[yQ];exact hk
    have hrowT:ij (ph s.syms) k=[.leaf (.str x.name),.own 3 (qt x.args),.leaf (.val (.int .i64 x.sort))]:=by rw[Lw hk,hx];rfl
    have hrs:∀r,ij ((ph s.syms).set k r) k=r:=fun r=>Px hkT
    have hxa:x.args.length≤1000:=by rw[←hx];exact ha9 _ (List.getElem_mem hk)
    refine RS (Mn 4 k _ rfl hkT hrowT) ?_
    refine sA ?_
    refine cz [] [0] (gn b (p+2) 5 hb (by omega) (by omega)) ?_ ?_<;>simp -implicitDefEqProofs only[go_sem,c0,k1,q3,hrs]
    repeat(with_reducible apply And.intro;exact sO)
    refine cz [] [0] (lL b (p+3) [0,2,-1,1] hb (by omega) (by omega) (by simp) (by simp)) ?_ ?_<;>simp -implicitDefEqProofs only[go_sem,q4,hrs]
    repeat(with_reducible apply And.intro;exact sO)
    refine⟨_,sj.FL (nX 4 k _ rfl (by rw[List.length_set];exact hkT) (hrs _)),?_⟩
    refine sA ?_
    refine aG [some 0] ?_ rfl rfl
    refine sA ?_
    rw[e0,←ee]
    have hst:=LW s.syms k ⟨x.name,x.args++[dI b (p+3) [0,2,-1,1]],x.sort⟩
    rw[vL,←Lf] at hst
    exact⟨⟨⟨_,(congrArg aW hst).trans (pg _),rfl⟩,rfl⟩,rfl⟩
   refine RS (Ir 4 rfl (pg _)) ?_
   refine sA ?_
   refine cz [] [0] (gn b (p+2) 5 hb (by omega) (by omega)) ?_ ?_<;>simp -implicitDefEqProofs only[go_sem,q3]
   rcases Classical.em (a6 b (p+2) 5=0) with c0|c0
   ·have k0:=eq_true c0
    rw[if_pos c0] at ee
    simp -implicitDefEqProofs only[go_sem,k0]
    refine cz [] [0] (QU b (p+3) [[],[65],[97,98,99],[122,122],[97]] hb (by omega) (by omega) (by simp) (by simp)) ?_ ?_<;>simp -implicitDefEqProofs only[go_sem,hk,q4]
    refine iK ?_
    refine bO ?_
    refine aG [some 0] ?_ rfl rfl
    refine sA ?_
    rw[e0,←ee]
    exact⟨⟨(vz hk ⟨I5 b (p+3) [[],[65],[97,98,99],[122,122],[97]],x.args,x.sort⟩ _ (by rw[hx];rfl)).symm,rfl⟩,rfl⟩
   rw[if_neg c0,if_neg c1] at ee
   rcases Classical.em (a6 b (p+2) 5=2) with c2|c2
   ·have k2:=eq_true c2
    rw[if_pos c2] at ee
    simp -implicitDefEqProofs only[go_sem,c0,c1,k2]
    refine cz [] [0] (lL b (p+3) [1,2,-1,0] hb (by omega) (by omega) (by simp) (by simp)) ?_ ?_<;>simp -implicitDefEqProofs only[go_sem,hk,q4]
    refine iK ?_
    refine bO ?_
    refine aG [some 0] ?_ rfl rfl
    refine sA ?_
    rw[e0,←ee]
    exact⟨⟨(vz hk ⟨x.name,x.args,dI b (p+3) [1,2,-1,0]⟩ _ (by rw[hx];rfl)).symm,rfl⟩,rfl⟩
   rw[if_neg c2] at ee
   rcases Classical.em (a6 b (p+2) 5=3) with c3|c3
   ·have k3:=eq_true c3
    rw[if_pos c3] at ee
    simp -implicitDefEqProofs only[go_sem,c0,c1,c2,k3,hk,hrow]
    repeat(with_reducible apply And.intro;exact sO)
    refine bO ?_
    refine aG [some 0] ?_ rfl rfl
    refine sA ?_
    rw[e0,←ee]
    exact⟨⟨by rw[←l6];rfl,rfl⟩,rfl⟩
   rw[if_neg c3] at ee
   simp -implicitDefEqProofs only[go_sem,c0,c1,c2,c3]
   refine bQ hm (fun(l:List Sym) (q:Int)=> p+3≤q∧q≤p+3+l.length∧l.length≤100∧og b (8-s.syms.length) s.syms (p+3)=og b (8-l.length) l q) (fun(l:List Sym) (q:Int)=> ⟨b9 116 .any [(0,.ptr 0 0),(4,.ptr 2 0),(5,.ptr 3 0)],[some (mU b q),some (.box (bn (bF s))),some (.box [.aK]),some (.box [.acc 4]),some (.acc 117 (cQ l))]⟩) (fun(l:List Sym) (q:Int)=> 8-l.length) (s.syms) (p+3) ?_ (ah [some 0,some 1,some 2,some 3,some 4] ?_ ?_ rfl rfl) ?_
   rotate_left
   ·exact sC
   ·exact sC
   rotate_left
   ·exact⟨by omega,by omega,hl9,rfl⟩
   ·rintro l q ⟨b1,b2,b3,hg⟩
    rcases Classical.em (l.length≤7) with h6|h6
    ·have h6':(l.length:Int)≤7:=by omega
     have e8:8-l.length=(8-(l.length+1))+1:=by omega
     rw[e8,og] at hg
     have hof:=O4 hb (p:=q) (l:=[[97],[98],[122]]) (by omega) (by simp)
     have hol:(I5 b q [[97],[98],[122]]).length=1:=by
      simp only[List.mem_cons,List.not_mem_nil,or_false] at hof
      rcases hof with e|e|e<;>rw[e]<;>rfl
     have hla:(l++[(⟨122::I5 b q [[97],[98],[122]],[],0⟩:Sym)]).length=l.length+1:=by simp
     simp -implicitDefEqProofs only[go_sem,h6']
     refine oC [] [0] (QU b q [[97],[98],[122]] hb (by omega) (by omega) (by simp) (by simp)) ?_
     repeat(with_reducible apply And.intro;exact sO)
     refine⟨l++[(⟨122::I5 b q [[97],[98],[122]],[],0⟩:Sym)],q+1,?_,?_,ah [some 0,some 1,some 2,some 3,some 5] ?_ ?_ rfl rfl⟩
     rotate_left
     ·show _ < _
      omega
     ·exact sC
     ·refine sA ?_
      all_goals((rw[←l6];rfl))
     exact⟨by omega,by simp;omega,by simp;omega,by simpa using hg⟩
    ·have h6':¬ (l.length:Int)≤7:=by omega
     have e8:8-l.length=0:=by omega
     rw[e8,og] at hg
     rw[hg] at ee
     simp -implicitDefEqProofs only[go_sem,h6']
     refine bO ?_
     refine aG [some 0] ?_ rfl rfl
     refine sA ?_
     rw[e0,←ee]
     exact⟨⟨rfl,rfl⟩,rfl⟩
theorem L4(A:List Term)(t:Term):aW (lift (aj A)++[[T.leaf (D.str t.name),T.own 35 (na t.kids)]])=some (aj (A++[t])):=by
 have h1:aW [[T.leaf (D.str t.name),T.own 35 (na t.kids)]]=some [cT t]:=by simp[aW,b8,T.yG,ny,cT]
 rw[B7 (gg _) h1,←fq,bT,fx]
theorem JN(A:List Term)(t:Term):aW (lift (aj A)++[[T.leaf (D.str t.name),T.own 35 (na t.kids)],[T.leaf (D.str t.name),T.own 35 (na t.kids)]])=some (aj (A++[t,t])):=by
 have h1:aW [[T.leaf (D.str t.name),T.own 35 (na t.kids)],[T.leaf (D.str t.name),T.own 35 (na t.kids)]]=some [cT t,cT t]:=by simp[aW,b8,T.yG,ny,cT]
 rw[B7 (gg _) h1,←fq,bT,bT,fx]
theorem uR(t:Term)(ih:∀k∈t.kids,C E.P 46 [av (cT k)] [] (aO (.agg [sv k.name,.acc 0]) [some (.bM 35 (na k.kids))])):C E.P 46 [av (cT t)] [] (aO (.agg [sv t.name,.acc 0]) [some (.bM 35 (na t.kids))]):=by
 refine gS (nt:=27) (rs:=[.cell 2 35]) hm Tryz.func46 fun hl he hLB=>?_
 refine au hm (fun(i:Nat)=> i≤t.kids.length) (fun(i:Nat)=> ⟨b9 27 .any [(1,.ptr 0 0),(2,.ptr 1 0),(3,.ptr 2 0),(4,iv i)],[some (.box (bn (cT t))),some (.box (bn (cT ao))),some (.box [.d (.str t.name),.acc 3]),some (.bM 35 (na (t.kids.take i)))]⟩) (fun(i:Nat)=> t.kids.length-i) (0) ?_ (ah [some 0,some 1,some 2,none] ?_ ?_ rfl rfl) ?_
 rotate_left
 ·exact sC
 ·refine sA ?_
  all_goals(rfl)
 rotate_left
 ·omega
 ·rintro i hi
  have hp:(na (t.kids.take i)).length=i:=by rw[Il,List.length_take];omega
  rcases Classical.em (i<t.kids.length) with h1|h1
  ·simp -implicitDefEqProofs only[go_sem,h1]
   have hc:=ih t.kids[i] (List.getElem_mem h1)
   refine oC [] [4] hc ?_
   repeat(with_reducible apply And.intro;exact sO)
   refine⟨i+1,?_,?_,xZ 6 i _ rfl (by rw[List.length_append,hp];simp) (ug hp) ?_⟩
   rotate_left
   ·show _ < _
    omega
   ·refine sA ?_
    refine ah [some 0,some 1,some 2,some 6] ?_ ?_ rfl rfl
    ·exact sC
    ·refine sA ?_
     all_goals(rw[tX hp];exact⟨D7 h1,(congrArg (fun z=>(aW z).isSome) (D7 h1)).trans (QZ _)⟩)
   exact h1
  ·have et:t.kids.take i=t.kids:=List.take_of_length_le (by omega)
   simp -implicitDefEqProofs only[go_sem,h1,et]
   refine aG [some 3] ?_ rfl rfl
   exact sC
theorem jL:∀t,C E.P 46 [av (cT t)] [] (aO (.agg [sv t.name,.acc 0]) [some (.bM 35 (na t.kids))]):=
 Term.ind fun n ks ih=>uR (.mk n ks) ih
theorem Ai(b:List Int)(hb:qz b)(s:bA)(hs:bP s)(p:Int)(h1:0≤p)(h2:p≤900000000):C E.P 209 [.ptr 0 0,av (bF s)] [some (mU b p)] (aO (av (cT (BW b s p).1)) [some (mU b (BW b s p).2)]):=by
 obtain⟨d,ed,K0,hd4⟩:∃d:Nat,dI b (p+1) [2,3,1,4]=d∧1≤d∧d≤4:=by
  have hm:=pa hb (p:=p+1) (l:=[2,3,1,4]) (by omega) (by simp)
  simp only[List.mem_cons,List.not_mem_nil,or_false] at hm
  exact⟨(dI b (p+1) [2,3,1,4]).toNat,by omega,by omega,by omega⟩
 have hpw:(2:Int) ^ d≤16:=by
  have:=Nat.pow_le_pow_right (n:=2) (by omega) hd4
  have e:(2:Int) ^ d=((2 ^ d:Nat):Int):=by simp
  omega
 have ha:=yF (b:=b) hs d (a6 b p 2) (p+2)
 obtain⟨y,e0⟩:∃y,BW b s p=y:=⟨_,rfl⟩
 have ee:=e0
 unfold BW at ee
 simp only[ed,Int.toNat_natCast] at ee
 obtain⟨r,hr⟩:∃r,cO b s d (a6 b p 2) (p+2)=r:=⟨_,rfl⟩
 have hO:=kL b hb s hs d (a6 b p 2) (p+2) K0 (by omega) (by omega)
 have hk2:=JW b hs d (a6 b p 2) (p+2)
 rw[hr] at ee ha hO hk2
 rw[e0,←ee]
 have hp:(lift (aj r.1.kids)).length=r.1.kids.length:=by simp[lift,kp]
 have q2:p+1+1=p+2:=by omega
 have hLB:=vP
 refine AU (nt:=49) (rs:=[.cell 4 35]) Tryz.func209 rfl rfl rfl rfl rfl (fun hl he=>?_)
 simp -implicitDefEqProofs only[go_sem] at hl⊢
 refine m0 hm ?_
 refine oC [] [0] (gn b p 2 hb h1 (by omega)) ?_
 refine oC [] [0] (lL b (p+1) [2,3,1,4] hb (by omega) (by omega) (by simp) (by simp)) ?_
 rw[ed,q2]
 refine oC [] [0,3] hO ?_
 refine iK ?_
 refine oC [] [0] (gn b r.2 48 hb (by omega) (by omega)) ?_
 rcases Classical.em (a6 b r.2 48=0) with c0|c0
 ·have k0:=eq_true c0
  rw[if_pos c0]
  simp -implicitDefEqProofs only[go_sem,k0]
  have qr:r.2+1+1=r.2+2:=by omega
  refine cz [] [0] (QU b (r.2+1) [[],[65],[97,98,99],[102]] hb (by omega) (by omega) (by simp) (by simp)) ?_ ?_<;>simp -implicitDefEqProofs only[go_sem,qr]
  refine bO ?_
  refine aG [some 0] ?_ rfl rfl
  refine sA ?_
  rfl
 rw[if_neg c0]
 rcases Classical.em (a6 b r.2 48=1) with c1|c1
 ·have k1:=eq_true c1
  rw[if_pos c1]
  simp -implicitDefEqProofs only[go_sem,c0,k1]
  refine B0 [] [3] [5] (jL r.1) rfl ?_ ?_ ?_
  ·exact sV
  all_goals simp -implicitDefEqProofs only[go_sem]
  repeat(with_reducible apply And.intro;exact sO)
  refine yi (nX 8 r.1.kids.length _ rfl (by rw[List.length_append,hp];simp) (ug hp)) ?_
  refine sA ?_
  rw[tX hp]
  refine bO ?_
  refine aG [some 0] ?_ rfl rfl
  refine sA ?_
  exact⟨⟨_,L4 _ _,rfl⟩,rfl⟩
 rw[if_neg c1]
 rcases Classical.em (a6 b r.2 48=2) with c2|c2
 ·have k2:=eq_true c2
  rw[if_pos c2]
  simp -implicitDefEqProofs only[go_sem,c0,c1,k2]
  refine B0 [] [3] [5] (jL r.1) rfl ?_ ?_ ?_
  ·exact sV
  all_goals simp -implicitDefEqProofs only[go_sem]
  refine B0 [] [3] [7] (jL r.1) rfl ?_ ?_ ?_
  ·exact sV
  all_goals simp -implicitDefEqProofs only[go_sem]
  repeat(with_reducible apply And.intro;exact sO)
  refine yi (nX 10 r.1.kids.length _ rfl (by rw[List.length_append,hp];simp) (Lm hp)) ?_
  refine sA ?_
  rw[MC hp]
  refine yi (nX 10 (r.1.kids.length+1) _ rfl (by rw[List.length_append,hp];simp) (Lb hp)) ?_
  refine sA ?_
  rw[Lc hp]
  refine bO ?_
  refine aG [some 0] ?_ rfl rfl
  refine sA ?_
  exact⟨⟨_,JN _ _,rfl⟩,rfl⟩
 ·rw[if_neg c2]
  simp -implicitDefEqProofs only[go_sem,c0,c1,c2]
  refine bO ?_
  refine aG [some 0] ?_ rfl rfl
  refine sA ?_
  rfl
end Go.Proofs.YtpidddienjoleaaGreat
