/-
  The reference: the walk of words that are bent. A step towards the laws.
-/
import Derived.Test.YtabembjmeobhoaaGreatKAya
import Derived.Test.YtabembjmeobhoaaGreatKAq
set_option linter.unusedVariables false
set_option linter.unusedSimpArgs false
open Classical renaming em→aa
open Int renaming toNat_natCast→bo
open List renaming getElem_mem→ak,take_of_length_le→ao,mem_cons→ay,length_append→aX,not_mem_nil→bn,length_take→bI
namespace Go.Proofs.YtabembjmeobhoaaGreat
open Go.Eng Go.Mod
open Int renaming reduceEq→Z1,reduceLT→Z2,reduceLE→Z3,reduceToNat→Z4
set_option maxRecDepth 100000
set_option maxHeartbeats 800000
theorem C3{l:List Sym}{k:Nat}(h:k<l.length)(x:Sym)(r:List D)(hr:r=vK x):(hX l).set k r=hX (l.set k x):=by
 rw[hr,hX,hX,List.map_set]
theorem yh(b:List Int)(hb:x7 b)(s:dG)(oU:s.syms.length≤100)(ha9:∀x∈s.syms,x.args.length≤1000)(p:Int)(h1:0≤p)(h2:p≤900000000) :
 C E.P 93 [.ptr 0 0,av (dX s)] [some (tR b p)] (bN (av (dX (ji b s p).1)) [some (tR b (ji b s p).2)]):=by
 have q2:p+1+1=p+2:=by omega
 have q3:p+2+1=p+3:=by omega
 have q4:p+3+1=p+4:=by omega
 have cI:=jR
 refine GV (nt:=116) (rs:=[.cell 4 25]) Tryz.func93 rfl rfl rfl rfl rfl (fun hl he=>?_)
 simp -implicitDefEqProofs only[go_sem] at hl⊢
 refine iR hm ?_
 refine sA ?_
 refine aO hm (fun(i:Nat)=> i≤s.syms.length) (fun(i:Nat)=> ⟨dB 116 .any [(0,.ptr 0 0),(3,.ptr 1 0),(4,.ptr 2 0),(5,.ptr 3 0),(6,iv i)],[some (tR b p),some (.box (cF (dX s))),some (.box [.bZ]),some (.box [.acc 4]),some (.ff 126 (wL (s.syms.take i)))]⟩) (fun(i:Nat)=> s.syms.length-i) (0) ?_ (aw [some 0,some 1,some 2,some 4,some 3] ?_ ?_ rfl rfl) ?_
 rotate_left
 ·exact sC
 ·refine sA ?_
  all_goals(rfl)
 rotate_left
 ·omega
 ·rintro i hi
  have hp:(wL (s.syms.take i)).length=i:=by rw[EE,bI];omega
  rcases aa (i<s.syms.length) with h3|h3
  ·have ha:=ha9 s.syms[i] (ak h3)
   have lP:=fQ s.syms[i].args
   simp -implicitDefEqProofs only[go_sem,h3]
   refine sQ ?_
   refine⟨i+1,?_,?_,AE 9 i _ rfl (by rw[aX,hp];simp) (wR hp) ?_⟩
   rotate_left
   ·show _ < _
    omega
   ·refine sA ?_
    refine aw [some 0,some 1,some 2,some 3,some 9] ?_ ?_ rfl rfl
    ·exact sC
    ·refine sA ?_
     all_goals(rw[vV hp];exact⟨IZ h3,(congrArg (fun z=>(cR z).isSome) (IZ h3)).trans (Xp _)⟩)
   exact h3
  ·have et:s.syms.take i=s.syms:=ao (by omega)
   rw[et]
   rcases aa (s.syms.length=0) with h4|h4
   ·have e:ji b s p=(s,p):=by rw[ji,if_pos h4]
    have k4:((s.syms.length:Int)=0)=True:=eq_true (by omega)
    simp -implicitDefEqProofs only[go_sem,h3,k4]
    refine eL ?_
    refine bX [some 0] ?_ rfl rfl
    refine sA ?_
    rw[e]
    exact⟨⟨⟨_,rfl,rfl⟩,rfl⟩,rfl⟩
   have k4:¬ (s.syms.length:Int)=0:=by omega
   simp -implicitDefEqProofs only[go_sem,h3,k4]
   refine oC [] [0] (na b p 8 hb h1 (by omega)) ?_
   rcases aa (0<da b p 8) with h5|h5
   ·have e:ji b s p=(s,p+1):=by rw[ji,if_neg h4,if_pos h5]
    simp -implicitDefEqProofs only[go_sem,h5]
    refine eL ?_
    refine bX [some 0] ?_ rfl rfl
    refine sA ?_
    rw[e]
    exact⟨⟨⟨_,rfl,rfl⟩,rfl⟩,rfl⟩
   simp -implicitDefEqProofs only[go_sem,h5]
   obtain⟨k,ek,hk⟩:=uZ hb (p:=p+1) (n:=s.syms.length) (by omega) (by omega)
   obtain⟨x,hx⟩:∃x,s.syms[k]=x:=⟨_,rfl⟩
   have ex:s.syms.getD k ⟨[],[],0⟩=x:=by rw[←hx,List.getD_eq_getElem?_getD,List.getElem?_eq_getElem hk];rfl
   have oM:row (hX s.syms) k=vK x:=by rw[CI hk,hx]
   obtain⟨y,e0⟩:∃y,ji b s p=y:=⟨_,rfl⟩
   have ee:=e0
   unfold ji at ee
   simp only[if_neg h4,if_neg h5,ek,bo,ex] at ee
   refine gv [] [0] (na b (p+1) s.syms.length hb (by omega) (by omega)) ?_ ?_<;>simp -implicitDefEqProofs only[go_sem,ek,q2]
   rcases aa (da b (p+2) 5=1) with c1|c1
   ·have c0:¬da b (p+2) 5=0:=by omega
    have k1:=eq_true c1
    rw[if_neg c0,if_pos c1] at ee
    have hkT:k<(wL s.syms).length:=by rw[EE];exact hk
    have hrowT:oj (wL s.syms) k=[.leaf (.str x.name),.own 3 (AO x.args),.leaf (.val (.int .i64 x.sort))]:=by rw[UK hk,hx];rfl
    have hrs:∀r,oj ((wL s.syms).set k r) k=r:=fun r=>Xq hkT
    have hxa:x.args.length≤1000:=by rw[←hx];exact ha9 _ (ak hk)
    refine aac (VJ 4 k _ rfl hkT hrowT) ?_
    refine sA ?_
    refine gv [] [0] (na b (p+2) 5 hb (by omega) (by omega)) ?_ ?_<;>simp -implicitDefEqProofs only[go_sem,c0,k1,q3,hrs]
    refine sQ ?_
    refine gv [] [0] (sr b (p+3) [0,2,-1,1] hb (by omega) (by omega) (by simp) (by simp)) ?_ ?_<;>simp -implicitDefEqProofs only[go_sem,q4,hrs]
    refine sQ ?_
    refine⟨_,zR.NL (uN 4 k _ rfl (by rw[List.length_set];exact hkT) (hrs _)),?_⟩
    refine sA ?_
    refine bX [some 0] ?_ rfl rfl
    refine sA ?_
    rw[e0,←ee]
    have jt:=S5 s.syms k ⟨x.name,x.args++[jS b (p+3) [0,2,-1,1]],x.sort⟩
    rw[C0,←Tn] at jt
    exact⟨⟨⟨_,(congrArg cR jt).trans (vQ _),rfl⟩,rfl⟩,rfl⟩
   refine aac (Rx 4 rfl (vQ _)) ?_
   refine sA ?_
   refine gv [] [0] (na b (p+2) 5 hb (by omega) (by omega)) ?_ ?_<;>simp -implicitDefEqProofs only[go_sem,q3]
   rcases aa (da b (p+2) 5=0) with c0|c0
   ·have k0:=eq_true c0
    rw[if_pos c0] at ee
    simp -implicitDefEqProofs only[go_sem,k0]
    refine gv [] [0] (Yz b (p+3) [[],[65],[97,98,99],[122,122],[97]] hb (by omega) (by omega) (by simp) (by simp)) ?_ ?_<;>simp -implicitDefEqProofs only[go_sem,hk,q4]
    refine iK ?_
    refine eL ?_
    refine bX [some 0] ?_ rfl rfl
    refine sA ?_
    rw[e0,←ee]
    exact⟨⟨(C3 hk ⟨Rv b (p+3) [[],[65],[97,98,99],[122,122],[97]],x.args,x.sort⟩ _ (by rw[hx];rfl)).symm,rfl⟩,rfl⟩
   rw[if_neg c0,if_neg c1] at ee
   rcases aa (da b (p+2) 5=2) with c2|c2
   ·have k2:=eq_true c2
    rw[if_pos c2] at ee
    simp -implicitDefEqProofs only[go_sem,c0,c1,k2]
    refine gv [] [0] (sr b (p+3) [1,2,-1,0] hb (by omega) (by omega) (by simp) (by simp)) ?_ ?_<;>simp -implicitDefEqProofs only[go_sem,hk,q4]
    refine iK ?_
    refine eL ?_
    refine bX [some 0] ?_ rfl rfl
    refine sA ?_
    rw[e0,←ee]
    exact⟨⟨(C3 hk ⟨x.name,x.args,jS b (p+3) [1,2,-1,0]⟩ _ (by rw[hx];rfl)).symm,rfl⟩,rfl⟩
   rw[if_neg c2] at ee
   rcases aa (da b (p+2) 5=3) with c3|c3
   ·have k3:=eq_true c3
    rw[if_pos c3] at ee
    simp -implicitDefEqProofs only[go_sem,c0,c1,c2,k3,hk,oM]
    refine sQ ?_
    refine eL ?_
    refine bX [some 0] ?_ rfl rfl
    refine sA ?_
    rw[e0,←ee]
    exact⟨⟨by rw[←sM];rfl,rfl⟩,rfl⟩
   rw[if_neg c3] at ee
   simp -implicitDefEqProofs only[go_sem,c0,c1,c2,c3]
   refine dm hm (fun(l:List Sym) (q:Int)=> p+3≤q∧q≤p+3+l.length∧l.length≤100∧vD b (8-s.syms.length) s.syms (p+3)=vD b (8-l.length) l q) (fun(l:List Sym) (q:Int)=> ⟨dB 116 .any [(0,.ptr 0 0),(4,.ptr 2 0),(5,.ptr 3 0)],[some (tR b q),some (.box (cF (dX s))),some (.box [.bZ]),some (.box [.acc 4]),some (.acc 126 (hX l))]⟩) (fun(l:List Sym) (q:Int)=> 8-l.length) (s.syms) (p+3) ?_ (aw [some 0,some 1,some 2,some 3,some 4] ?_ ?_ rfl rfl) ?_
   rotate_left
   ·exact sC
   ·exact sC
   rotate_left
   ·exact⟨by omega,by omega,oU,rfl⟩
   ·rintro l q ⟨b1,b2,b3,hg⟩
    rcases aa (l.length≤7) with h6|h6
    ·have h6':(l.length:Int)≤7:=by omega
     have e8:8-l.length=(8-(l.length+1))+1:=by omega
     rw[e8,vD] at hg
     have hof:=WC hb (p:=q) (l:=[[97],[98],[122]]) (by omega) (by simp)
     have hol:(Rv b q [[97],[98],[122]]).length=1:=by
      simp only[ay,bn,or_false] at hof
      rcases hof with e|e|e<;>rw[e]<;>rfl
     have hla:(l++[(⟨122::Rv b q [[97],[98],[122]],[],0⟩:Sym)]).length=l.length+1:=by simp
     simp -implicitDefEqProofs only[go_sem,h6']
     refine oC [] [0] (Yz b q [[97],[98],[122]] hb (by omega) (by omega) (by simp) (by simp)) ?_
     refine sQ ?_
     refine⟨l++[(⟨122::Rv b q [[97],[98],[122]],[],0⟩:Sym)],q+1,?_,sL,aw [some 0,some 1,some 2,some 3,some 5] ?_ ?_ rfl rfl⟩
     rotate_left
     ·exact sC
     ·refine sA ?_
      all_goals((rw[←sM];rfl))
     exact⟨by omega,by simp;omega,by simp;omega,by simpa using hg⟩
    ·have h6':¬ (l.length:Int)≤7:=by omega
     have e8:8-l.length=0:=by omega
     rw[e8,vD] at hg
     rw[hg] at ee
     simp -implicitDefEqProofs only[go_sem,h6']
     refine eL ?_
     refine bX [some 0] ?_ rfl rfl
     refine sA ?_
     rw[e0,←ee]
     exact⟨⟨rfl,rfl⟩,rfl⟩
theorem VU(A:List Term)(t:Term):cR (lift (aP A)++[[T.leaf (D.str t.name),T.own 34 (zw t.kids)]])=some (aP (A++[t])):=by
 have h1:cR [[T.leaf (D.str t.name),T.own 34 (zw t.kids)]]=some [cT t]:=by simp[cR,fW,T.Fe,uG,cT]
 rw[KA (mV _) h1,←lR,dM,lW]
theorem RV(A:List Term)(t:Term):cR (lift (aP A)++[[T.leaf (D.str t.name),T.own 34 (zw t.kids)],[T.leaf (D.str t.name),T.own 34 (zw t.kids)]])=some (aP (A++[t,t])):=by
 have h1:cR [[T.leaf (D.str t.name),T.own 34 (zw t.kids)],[T.leaf (D.str t.name),T.own 34 (zw t.kids)]]=some [cT t,cT t]:=by simp[cR,fW,T.Fe,uG,cT]
 rw[KA (mV _) h1,←lR,dM,dM,lW]
theorem BO(t:Term)(ih:∀k∈t.kids,C E.P 60 [av (cT k)] [] (bN (.agg [sv k.name,.acc 0]) [some (.ff 34 (zw k.kids))])):C E.P 60 [av (cT t)] [] (bN (.agg [sv t.name,.acc 0]) [some (.ff 34 (zw t.kids))]):=by
 refine gS (nt:=27) (rs:=[.cell 2 34]) hm Tryz.func60 fun hl he cI=>?_
 refine aO hm (fun(i:Nat)=> i≤t.kids.length) (fun(i:Nat)=> ⟨dB 27 .any [(1,.ptr 0 0),(2,.ptr 1 0),(3,.ptr 2 0),(4,iv i)],[some (.box (cF (cT t))),some (.box (cF (cT aL))),some (.box [.d (.str t.name),.acc 3]),some (.ff 34 (zw (t.kids.take i)))]⟩) (fun(i:Nat)=> t.kids.length-i) (0) ?_ (aw [some 0,some 1,some 2,none] ?_ ?_ rfl rfl) ?_
 rotate_left
 ·exact sC
 ·refine sA ?_
  all_goals(rfl)
 rotate_left
 ·omega
 ·rintro i hi
  have hp:(zw (t.kids.take i)).length=i:=by rw[Rf,bI];omega
  rcases aa (i<t.kids.length) with h1|h1
  ·simp -implicitDefEqProofs only[go_sem,h1]
   have hc:=ih t.kids[i] (ak h1)
   refine oC [] [4] hc ?_
   refine sQ ?_
   refine⟨i+1,?_,?_,AE 6 i _ rfl (by rw[aX,hp];simp) (wR hp) ?_⟩
   rotate_left
   ·show _ < _
    omega
   ·refine sA ?_
    refine aw [some 0,some 1,some 2,some 6] ?_ ?_ rfl rfl
    ·exact sC
    ·refine sA ?_
     all_goals(rw[vV hp];exact⟨MA h1,(congrArg (fun z=>(cR z).isSome) (MA h1)).trans (Yy _)⟩)
   exact h1
  ·have et:t.kids.take i=t.kids:=ao (by omega)
   simp -implicitDefEqProofs only[go_sem,h1,et]
   refine bX [some 3] ?_ rfl rfl
   exact sC
theorem qM:∀t,C E.P 60 [av (cT t)] [] (bN (.agg [sv t.name,.acc 0]) [some (.ff 34 (zw t.kids))]):=
 Term.ind fun n ks ih=>BO (.mk n ks) ih
theorem Ht(b:List Int)(hb:x7 b)(s:dG)(hs:fE s)(p:Int)(h1:0≤p)(h2:p≤900000000):C E.P 163 [.ptr 0 0,av (dX s)] [some (tR b p)] (bN (av (cT (IQ b s p).1)) [some (tR b (IQ b s p).2)]):=by
 obtain⟨d,ed,U2,hd4⟩:∃d:Nat,jS b (p+1) [2,3,1,4]=d∧1≤d∧d≤4:=by
  have hm:=wM hb (p:=p+1) (l:=[2,3,1,4]) (by omega) (by simp)
  simp only[ay,bn,or_false] at hm
  exact⟨(jS b (p+1) [2,3,1,4]).toNat,by omega,by omega,by omega⟩
 have hpw:(2:Int) ^ d≤16:=by
  have:=Nat.pow_le_pow_right (n:=2) (by omega) hd4
  have e:(2:Int) ^ d=((2 ^ d:Nat):Int):=by simp
  omega
 have ha:=GB (b:=b) hs d (da b p 2) (p+2)
 obtain⟨y,e0⟩:∃y,IQ b s p=y:=⟨_,rfl⟩
 have ee:=e0
 unfold IQ at ee
 simp only[ed,bo] at ee
 obtain⟨r,hr⟩:∃r,hQ b s d (da b p 2) (p+2)=r:=⟨_,rfl⟩
 have hO:=rB b hb s hs d (da b p 2) (p+2) U2 (by omega) (by omega)
 have hk2:=SW b hs d (da b p 2) (p+2)
 rw[hr] at ee ha hO hk2
 rw[e0,←ee]
 have hp:(lift (aP r.1.kids)).length=r.1.kids.length:=by simp[lift,rn]
 have q2:p+1+1=p+2:=by omega
 have cI:=jR
 refine GV (nt:=49) (rs:=[.cell 4 34]) Tryz.func163 rfl rfl rfl rfl rfl (fun hl he=>?_)
 simp -implicitDefEqProofs only[go_sem] at hl⊢
 refine iR hm ?_
 refine oC [] [0] (na b p 2 hb h1 (by omega)) ?_
 refine oC [] [0] (sr b (p+1) [2,3,1,4] hb (by omega) (by omega) (by simp) (by simp)) ?_
 rw[ed,q2]
 refine oC [] [0,3] hO ?_
 refine iK ?_
 refine oC [] [0] (na b r.2 48 hb (by omega) (by omega)) ?_
 rcases aa (da b r.2 48=0) with c0|c0
 ·have k0:=eq_true c0
  rw[if_pos c0]
  simp -implicitDefEqProofs only[go_sem,k0]
  have qr:r.2+1+1=r.2+2:=by omega
  refine gv [] [0] (Yz b (r.2+1) [[],[65],[97,98,99],[102]] hb (by omega) (by omega) (by simp) (by simp)) ?_ ?_<;>simp -implicitDefEqProofs only[go_sem,qr]
  refine eL ?_
  refine bX [some 0] ?_ rfl rfl
  refine sA ?_
  rfl
 rw[if_neg c0]
 rcases aa (da b r.2 48=1) with c1|c1
 ·have k1:=eq_true c1
  rw[if_pos c1]
  simp -implicitDefEqProofs only[go_sem,c0,k1]
  refine JP [] [3] [5] (qM r.1) rfl ?_ ?_ ?_
  ·exact sV
  all_goals simp -implicitDefEqProofs only[go_sem]
  refine sQ ?_
  refine FL (uN 8 r.1.kids.length _ rfl (by rw[aX,hp];simp) (wR hp)) ?_
  refine sA ?_
  rw[vV hp]
  refine eL ?_
  refine bX [some 0] ?_ rfl rfl
  refine sA ?_
  exact⟨⟨_,VU _ _,rfl⟩,rfl⟩
 rw[if_neg c1]
 rcases aa (da b r.2 48=2) with c2|c2
 ·have k2:=eq_true c2
  rw[if_pos c2]
  simp -implicitDefEqProofs only[go_sem,c0,c1,k2]
  refine JP [] [3] [5] (qM r.1) rfl ?_ ?_ ?_
  ·exact sV
  all_goals simp -implicitDefEqProofs only[go_sem]
  refine JP [] [3] [7] (qM r.1) rfl ?_ ?_ ?_
  ·exact sV
  all_goals simp -implicitDefEqProofs only[go_sem]
  refine sQ ?_
  refine FL (uN 10 r.1.kids.length _ rfl (by rw[aX,hp];simp) (Vh hp)) ?_
  refine sA ?_
  rw[S6 hp]
  refine FL (uN 10 (r.1.kids.length+1) _ rfl (by rw[aX,hp];simp) (UY hp)) ?_
  refine sA ?_
  rw[UO hp]
  refine eL ?_
  refine bX [some 0] ?_ rfl rfl
  refine sA ?_
  exact⟨⟨_,RV _ _,rfl⟩,rfl⟩
 ·rw[if_neg c2]
  simp -implicitDefEqProofs only[go_sem,c0,c1,c2]
  refine eL ?_
  refine bX [some 0] ?_ rfl rfl
  refine sA ?_
  rfl
end Go.Proofs.YtabembjmeobhoaaGreat
