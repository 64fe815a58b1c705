/-
  The reference: the walk of words that are bent. A step towards the laws.
-/
import Derived.Test.YtpidddienjoleaaGreatKCya
import Derived.Test.YtpidddienjoleaaGreatKCq
import Derived.Test.YtpidddienjoleaaGreatKCDa
set_option linter.unusedVariables false
set_option linter.unusedSimpArgs false
namespace Go.Proofs.YtpidddienjoleaaGreat
open Go.Eng Go.Mod
open Int renaming reduceEq→Z1,reduceLT→Z2,reduceLE→Z3,reduceToNat→Z4
set_option maxRecDepth 100000
set_option maxHeartbeats 800000
theorem uE{l:List Sym}{k:Nat}(h:k<l.length)(x:Sym)(r:List D)(hr:r=oh x):(cM l).set k r=cM (l.set k x):=by
 rw[hr,cM,cM,List.map_set]
theorem qD(b:List Int)(hb:pZ b)(s:bJ)(hl9:s.syms.length≤100)(ha9:∀x∈s.syms,x.args.length≤1000)(p:Int)(h1:0≤p)(h2:p≤900000000) :
 C E.P 136 [.ptr 0 0,av (bw s)] [some (mo b p)] (aM (av (bw (dh b s p).1)) [some (mo b (dh b s p).2)]):=by
 have q2:p+1+1=p+2:=by omega
 have q3:p+2+1=p+3:=by omega
 have q4:p+3+1=p+4:=by omega
 have hLB:=uO
 refine Ak (nt:=116) (rs:=[.cell 4 25]) Tryz.func136 rfl rfl rfl rfl rfl (fun hl he=>?_)
 simp -implicitDefEqProofs only[go_sem] at hl⊢
 refine lW hm ?_
 refine sA ?_
 refine al hm (fun(i:Nat)=> i≤s.syms.length) (fun(i:Nat)=> ⟨bW 116 .any [(0,.ptr 0 0),(3,.ptr 1 0),(4,.ptr 2 0),(5,.ptr 3 0),(6,iv i)],[some (mo b p),some (.box (bn (bw s))),some (.box [.aJ]),some (.box [.acc 4]),some (.bM 117 (oG (s.syms.take i)))]⟩) (fun(i:Nat)=> s.syms.length-i) (0) ?_ (ah [some 0,some 1,some 2,some 4,some 3] ?_ ?_ rfl rfl) ?_
 rotate_left
 ·exact sC
 ·refine sA ?_
  all_goals(rfl)
 rotate_left
 ·omega
 ·rintro i hi
  have hp:(oG (s.syms.take i)).length=i:=by rw[xm,List.length_take];omega
  rcases Classical.em (i<s.syms.length) with h3|h3
  ·have ha:=ha9 s.syms[i] (List.getElem_mem h3)
   have hall:=tW s.syms[i].args
   simp -implicitDefEqProofs only[go_sem,h3]
   repeat(with_reducible apply And.intro;exact sO)
   refine⟨i+1,?_,?_,xY 9 i _ rfl (by rw[List.length_append,hp];simp) (rI hp) ?_⟩
   rotate_left
   ·show _ < _
    omega
   ·refine sA ?_
    refine ah [some 0,some 1,some 2,some 3,some 9] ?_ ?_ rfl rfl
    ·exact sC
    ·refine sA ?_
     all_goals(rw[rO hp];exact⟨A7 h3,(congrArg (fun z=>(aU z).isSome) (A7 h3)).trans (MU _)⟩)
   exact h3
  ·have et:s.syms.take i=s.syms:=List.take_of_length_le (by omega)
   rw[et]
   rcases Classical.em (s.syms.length=0) with h4|h4
   ·have e:dh b s p=(s,p):=by rw[dh,if_pos h4]
    have k4:((s.syms.length:Int)=0)=True:=eq_true (by omega)
    simp -implicitDefEqProofs only[go_sem,h3,k4]
    refine bR ?_
    refine aF [some 0] ?_ rfl rfl
    refine sA ?_
    rw[e]
    exact⟨⟨⟨_,rfl,rfl⟩,rfl⟩,rfl⟩
   have k4:¬ (s.syms.length:Int)=0:=by omega
   simp -implicitDefEqProofs only[go_sem,h3,k4]
   refine oC [] [0] (fU b p 8 hb h1 (by omega)) ?_
   rcases Classical.em (0<aZ b p 8) with h5|h5
   ·have e:dh b s p=(s,p+1):=by rw[dh,if_neg h4,if_pos h5]
    simp -implicitDefEqProofs only[go_sem,h5]
    refine bR ?_
    refine aF [some 0] ?_ rfl rfl
    refine sA ?_
    rw[e]
    exact⟨⟨⟨_,rfl,rfl⟩,rfl⟩,rfl⟩
   simp -implicitDefEqProofs only[go_sem,h5]
   obtain⟨k,ek,hk⟩:=mP hb (p:=p+1) (n:=s.syms.length) (by omega) (by omega)
   obtain⟨x,hx⟩:∃x,s.syms[k]=x:=⟨_,rfl⟩
   have ex:s.syms.getD k ⟨[],[],0⟩=x:=by rw[←hx,List.getD_eq_getElem?_getD,List.getElem?_eq_getElem hk];rfl
   have hrow:row (cM s.syms) k=oh x:=by rw[uX hk,hx]
   obtain⟨y,e0⟩:∃y,dh b s p=y:=⟨_,rfl⟩
   have ee:=e0
   unfold dh at ee
   simp only[if_neg h4,if_neg h5,ek,Int.toNat_natCast,ex] at ee
   refine cm [] [0] (fU b (p+1) s.syms.length hb (by omega) (by omega)) ?_ ?_<;>simp -implicitDefEqProofs only[go_sem,ek,q2]
   rcases Classical.em (aZ b (p+2) 5=1) with c1|c1
   ·have c0:¬aZ b (p+2) 5=0:=by omega
    have k1:=eq_true c1
    rw[if_neg c0,if_pos c1] at ee
    have hkT:k<(oG s.syms).length:=by rw[xm];exact hk
    have hrowT:hJ (oG s.syms) k=[.leaf (.str x.name),.own 3 (pX x.args),.leaf (.val (.int .i64 x.sort))]:=by rw[Mm hk,hx];rfl
    have hrs:∀r,hJ ((oG s.syms).set k r) k=r:=fun r=>MB hkT
    have hxa:x.args.length≤1000:=by rw[←hx];exact ha9 _ (List.getElem_mem hk)
    refine Qi (Me 4 k _ rfl hkT hrowT) ?_
    refine sA ?_
    refine cm [] [0] (fU b (p+2) 5 hb (by omega) (by omega)) ?_ ?_<;>simp -implicitDefEqProofs only[go_sem,c0,k1,q3,hrs]
    repeat(with_reducible apply And.intro;exact sO)
    refine cm [] [0] (kQ b (p+3) [0,2,-1,1] hb (by omega) (by omega) (by simp) (by simp)) ?_ ?_<;>simp -implicitDefEqProofs only[go_sem,q4,hrs]
    repeat(with_reducible apply And.intro;exact sO)
    refine⟨_,rG.DL (nD 4 k _ rfl (by rw[List.length_set];exact hkT) (hrs _)),?_⟩
    refine sA ?_
    refine aF [some 0] ?_ rfl rfl
    refine sA ?_
    rw[e0,←ee]
    have hst:=Mf s.syms k ⟨x.name,x.args++[dF b (p+3) [0,2,-1,1]],x.sort⟩
    rw[uG,←Jz] at hst
    exact⟨⟨⟨_,(congrArg aU hst).trans (oA _),rfl⟩,rfl⟩,rfl⟩
   refine Qi (Hl 4 rfl (oA _)) ?_
   refine sA ?_
   refine cm [] [0] (fU b (p+2) 5 hb (by omega) (by omega)) ?_ ?_<;>simp -implicitDefEqProofs only[go_sem,q3]
   rcases Classical.em (aZ b (p+2) 5=0) with c0|c0
   ·have k0:=eq_true c0
    rw[if_pos c0] at ee
    simp -implicitDefEqProofs only[go_sem,k0]
    refine cm [] [0] (OT b (p+3) [[],[65],[97,98,99],[122,122],[97]] hb (by omega) (by omega) (by simp) (by simp)) ?_ ?_<;>simp -implicitDefEqProofs only[go_sem,hk,q4]
    refine iK ?_
    refine bR ?_
    refine aF [some 0] ?_ rfl rfl
    refine sA ?_
    rw[e0,←ee]
    exact⟨⟨(uE hk ⟨Hg b (p+3) [[],[65],[97,98,99],[122,122],[97]],x.args,x.sort⟩ _ (by rw[hx];rfl)).symm,rfl⟩,rfl⟩
   rw[if_neg c0,if_neg c1] at ee
   rcases Classical.em (aZ b (p+2) 5=2) with c2|c2
   ·have k2:=eq_true c2
    rw[if_pos c2] at ee
    simp -implicitDefEqProofs only[go_sem,c0,c1,k2]
    refine cm [] [0] (kQ b (p+3) [1,2,-1,0] hb (by omega) (by omega) (by simp) (by simp)) ?_ ?_<;>simp -implicitDefEqProofs only[go_sem,hk,q4]
    refine iK ?_
    refine bR ?_
    refine aF [some 0] ?_ rfl rfl
    refine sA ?_
    rw[e0,←ee]
    exact⟨⟨(uE hk ⟨x.name,x.args,dF b (p+3) [1,2,-1,0]⟩ _ (by rw[hx];rfl)).symm,rfl⟩,rfl⟩
   rw[if_neg c2] at ee
   rcases Classical.em (aZ b (p+2) 5=3) with c3|c3
   ·have k3:=eq_true c3
    rw[if_pos c3] at ee
    simp -implicitDefEqProofs only[go_sem,c0,c1,c2,k3,hk,hrow]
    repeat(with_reducible apply And.intro;exact sO)
    refine bR ?_
    refine aF [some 0] ?_ rfl rfl
    refine sA ?_
    rw[e0,←ee]
    exact⟨⟨by rw[←lf];rfl,rfl⟩,rfl⟩
   rw[if_neg c3] at ee
   simp -implicitDefEqProofs only[go_sem,c0,c1,c2,c3]
   refine bP hm (fun(l:List Sym) (q:Int)=> p+3≤q∧q≤p+3+l.length∧l.length≤100∧nP b (8-s.syms.length) s.syms (p+3)=nP b (8-l.length) l q) (fun(l:List Sym) (q:Int)=> ⟨bW 116 .any [(0,.ptr 0 0),(4,.ptr 2 0),(5,.ptr 3 0)],[some (mo b q),some (.box (bn (bw s))),some (.box [.aJ]),some (.box [.acc 4]),some (.acc 117 (cM l))]⟩) (fun(l:List Sym) (q:Int)=> 8-l.length) (s.syms) (p+3) ?_ (ah [some 0,some 1,some 2,some 3,some 4] ?_ ?_ rfl rfl) ?_
   rotate_left
   ·exact sC
   ·exact sC
   rotate_left
   ·exact⟨by omega,by omega,hl9,rfl⟩
   ·rintro l q ⟨b1,b2,b3,hg⟩
    rcases Classical.em (l.length≤7) with h6|h6
    ·have h6':(l.length:Int)≤7:=by omega
     have e8:8-l.length=(8-(l.length+1))+1:=by omega
     rw[e8,nP] at hg
     have hof:=M4 hb (p:=q) (l:=[[97],[98],[122]]) (by omega) (by simp)
     have hol:(Hg b q [[97],[98],[122]]).length=1:=by
      simp only[List.mem_cons,List.not_mem_nil,or_false] at hof
      rcases hof with e|e|e<;>rw[e]<;>rfl
     have hla:(l++[(⟨122::Hg b q [[97],[98],[122]],[],0⟩:Sym)]).length=l.length+1:=by simp
     simp -implicitDefEqProofs only[go_sem,h6']
     refine oC [] [0] (OT b q [[97],[98],[122]] hb (by omega) (by omega) (by simp) (by simp)) ?_
     repeat(with_reducible apply And.intro;exact sO)
     refine⟨l++[(⟨122::Hg b q [[97],[98],[122]],[],0⟩:Sym)],q+1,?_,?_,ah [some 0,some 1,some 2,some 3,some 5] ?_ ?_ rfl rfl⟩
     rotate_left
     ·show _ < _
      omega
     ·exact sC
     ·refine sA ?_
      all_goals((rw[←lf];rfl))
     exact⟨by omega,by simp;omega,by simp;omega,by simpa using hg⟩
    ·have h6':¬ (l.length:Int)≤7:=by omega
     have e8:8-l.length=0:=by omega
     rw[e8,nP] at hg
     rw[hg] at ee
     simp -implicitDefEqProofs only[go_sem,h6']
     refine bR ?_
     refine aF [some 0] ?_ rfl rfl
     refine sA ?_
     rw[e0,←ee]
     exact⟨⟨rfl,rfl⟩,rfl⟩
theorem KU(A:List Term)(t:Term):aU (lift (ai A)++[[T.leaf (D.str t.name),T.own 35 (mC t.kids)]])=some (ai (A++[t])):=by
 have h1:aU [[T.leaf (D.str t.name),T.own 35 (mC t.kids)]]=some [cT t]:=by simp[aU,bX,T.yF,nk,cT]
 rw[Bu (fQ _) h1,←db,ba,cV]
theorem Ix(A:List Term)(t:Term):aU (lift (ai A)++[[T.leaf (D.str t.name),T.own 35 (mC t.kids)],[T.leaf (D.str t.name),T.own 35 (mC t.kids)]])=some (ai (A++[t,t])):=by
 have h1:aU [[T.leaf (D.str t.name),T.own 35 (mC t.kids)],[T.leaf (D.str t.name),T.own 35 (mC t.kids)]]=some [cT t,cT t]:=by simp[aU,bX,T.yF,nk,cT]
 rw[Bu (fQ _) h1,←db,ba,ba,cV]
theorem tS(t:Term)(ih:∀k∈t.kids,C E.P 46 [av (cT k)] [] (aM (.agg [sv k.name,.acc 0]) [some (.bM 35 (mC k.kids))])):C E.P 46 [av (cT t)] [] (aM (.agg [sv t.name,.acc 0]) [some (.bM 35 (mC t.kids))]):=by
 refine gS (nt:=27) (rs:=[.cell 2 35]) hm Tryz.func46 fun hl he hLB=>?_
 refine al hm (fun(i:Nat)=> i≤t.kids.length) (fun(i:Nat)=> ⟨bW 27 .any [(1,.ptr 0 0),(2,.ptr 1 0),(3,.ptr 2 0),(4,iv i)],[some (.box (bn (cT t))),some (.box (bn (cT ao))),some (.box [.d (.str t.name),.acc 3]),some (.bM 35 (mC (t.kids.take i)))]⟩) (fun(i:Nat)=> t.kids.length-i) (0) ?_ (ah [some 0,some 1,some 2,none] ?_ ?_ rfl rfl) ?_
 rotate_left
 ·exact sC
 ·refine sA ?_
  all_goals(rfl)
 rotate_left
 ·omega
 ·rintro i hi
  have hp:(mC (t.kids.take i)).length=i:=by rw[HY,List.length_take];omega
  rcases Classical.em (i<t.kids.length) with h1|h1
  ·simp -implicitDefEqProofs only[go_sem,h1]
   have hc:=ih t.kids[i] (List.getElem_mem h1)
   refine oC [] [4] hc ?_
   repeat(with_reducible apply And.intro;exact sO)
   refine⟨i+1,?_,?_,xY 6 i _ rfl (by rw[List.length_append,hp];simp) (rI hp) ?_⟩
   rotate_left
   ·show _ < _
    omega
   ·refine sA ?_
    refine ah [some 0,some 1,some 2,some 6] ?_ ?_ rfl rfl
    ·exact sC
    ·refine sA ?_
     all_goals(rw[rO hp];exact⟨Eu h1,(congrArg (fun z=>(aU z).isSome) (Eu h1)).trans (Py _)⟩)
   exact h1
  ·have et:t.kids.take i=t.kids:=List.take_of_length_le (by omega)
   simp -implicitDefEqProofs only[go_sem,h1,et]
   refine aF [some 3] ?_ rfl rfl
   exact sC
theorem jo:∀t,C E.P 46 [av (cT t)] [] (aM (.agg [sv t.name,.acc 0]) [some (.bM 35 (mC t.kids))]):=
 Term.ind fun n ks ih=>tS (.mk n ks) ih
theorem zH(b:List Int)(hb:pZ b)(s:bJ)(hs:bQ s)(p:Int)(h1:0≤p)(h2:p≤900000000):C E.P 209 [.ptr 0 0,av (bw s)] [some (mo b p)] (aM (av (cT (Ad b s p).1)) [some (mo b (Ad b s p).2)]):=by
 obtain⟨d,ed,KS,hd4⟩:∃d:Nat,dF b (p+1) [2,3,1,4]=d∧1≤d∧d≤4:=by
  have hm:=oO hb (p:=p+1) (l:=[2,3,1,4]) (by omega) (by simp)
  simp only[List.mem_cons,List.not_mem_nil,or_false] at hm
  exact⟨(dF b (p+1) [2,3,1,4]).toNat,by omega,by omega,by omega⟩
 have hpw:(2:Int) ^ d≤16:=by
  have:=Nat.pow_le_pow_right (n:=2) (by omega) hd4
  have e:(2:Int) ^ d=((2 ^ d:Nat):Int):=by simp
  omega
 have ha:=xn (b:=b) hs d (aZ b p 2) (p+2)
 obtain⟨y,e0⟩:∃y,Ad b s p=y:=⟨_,rfl⟩
 have ee:=e0
 unfold Ad at ee
 simp only[ed,Int.toNat_natCast] at ee
 obtain⟨r,hr⟩:∃r,cK b s d (aZ b p 2) (p+2)=r:=⟨_,rfl⟩
 have hO:=j5 b hb s hs d (aZ b p 2) (p+2) KS (by omega) (by omega)
 have hk2:=IP b hs d (aZ b p 2) (p+2)
 rw[hr] at ee ha hO hk2
 rw[e0,←ee]
 have hp:(lift (ai r.1.kids)).length=r.1.kids.length:=by simp[lift,jU]
 have q2:p+1+1=p+2:=by omega
 have hLB:=uO
 refine Ak (nt:=49) (rs:=[.cell 4 35]) Tryz.func209 rfl rfl rfl rfl rfl (fun hl he=>?_)
 simp -implicitDefEqProofs only[go_sem] at hl⊢
 refine lW hm ?_
 refine oC [] [0] (fU b p 2 hb h1 (by omega)) ?_
 refine oC [] [0] (kQ b (p+1) [2,3,1,4] hb (by omega) (by omega) (by simp) (by simp)) ?_
 rw[ed,q2]
 refine oC [] [0,3] hO ?_
 refine iK ?_
 refine oC [] [0] (fU b r.2 48 hb (by omega) (by omega)) ?_
 rcases Classical.em (aZ b r.2 48=0) with c0|c0
 ·have k0:=eq_true c0
  rw[if_pos c0]
  simp -implicitDefEqProofs only[go_sem,k0]
  have qr:r.2+1+1=r.2+2:=by omega
  refine cm [] [0] (OT b (r.2+1) [[],[65],[97,98,99],[102]] hb (by omega) (by omega) (by simp) (by simp)) ?_ ?_<;>simp -implicitDefEqProofs only[go_sem,qr]
  refine bR ?_
  refine aF [some 0] ?_ rfl rfl
  refine sA ?_
  rfl
 rw[if_neg c0]
 rcases Classical.em (aZ b r.2 48=1) with c1|c1
 ·have k1:=eq_true c1
  rw[if_pos c1]
  simp -implicitDefEqProofs only[go_sem,c0,k1]
  refine Cu [] [3] [5] (jo r.1) rfl ?_ ?_ ?_
  ·exact sV
  all_goals simp -implicitDefEqProofs only[go_sem]
  repeat(with_reducible apply And.intro;exact sO)
  refine wZ (nD 8 r.1.kids.length _ rfl (by rw[List.length_append,hp];simp) (rI hp)) ?_
  refine sA ?_
  rw[rO hp]
  refine bR ?_
  refine aF [some 0] ?_ rfl rfl
  refine sA ?_
  exact⟨⟨_,KU _ _,rfl⟩,rfl⟩
 rw[if_neg c1]
 rcases Classical.em (aZ b r.2 48=2) with c2|c2
 ·have k2:=eq_true c2
  rw[if_pos c2]
  simp -implicitDefEqProofs only[go_sem,c0,c1,k2]
  refine Cu [] [3] [5] (jo r.1) rfl ?_ ?_ ?_
  ·exact sV
  all_goals simp -implicitDefEqProofs only[go_sem]
  refine Cu [] [3] [7] (jo r.1) rfl ?_ ?_ ?_
  ·exact sV
  all_goals simp -implicitDefEqProofs only[go_sem]
  repeat(with_reducible apply And.intro;exact sO)
  refine wZ (nD 10 r.1.kids.length _ rfl (by rw[List.length_append,hp];simp) (J1 hp)) ?_
  refine sA ?_
  rw[Ll hp]
  refine wZ (nD 10 (r.1.kids.length+1) _ rfl (by rw[List.length_append,hp];simp) (KX hp)) ?_
  refine sA ?_
  rw[LS hp]
  refine bR ?_
  refine aF [some 0] ?_ rfl rfl
  refine sA ?_
  exact⟨⟨_,Ix _ _,rfl⟩,rfl⟩
 ·rw[if_neg c2]
  simp -implicitDefEqProofs only[go_sem,c0,c1,c2]
  refine bR ?_
  refine aF [some 0] ?_ rfl rfl
  refine sA ?_
  rfl
end Go.Proofs.YtpidddienjoleaaGreat
