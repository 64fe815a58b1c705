/-
  The reference: the walk of words that are bent. A step towards the laws.
-/
import Derived.Test.YtabembjmeobhoaaGreatKBya
import Derived.Test.YtabembjmeobhoaaGreatKBq
set_option linter.unusedVariables false
set_option linter.unusedSimpArgs false
open Classical renaming em→aa
open Int renaming toNat_natCast→bo
open List renaming getElem_mem→ak,take_of_length_le→ao,mem_cons→ay,length_append→aX,not_mem_nil→bn,length_take→bS
namespace Go.Proofs.YtabembjmeobhoaaGreat
open Go.Eng Go.Mod
open Int renaming reduceEq→Z1,reduceLT→Z2,reduceLE→Z3,reduceToNat→Z4
set_option maxRecDepth 100000
set_option maxHeartbeats 800000
theorem C3{l:List Sym}{k:Nat}(h:k<l.length)(x:Sym)(r:List D)(hr:r=vP x):(hX l).set k r=hX (l.set k x):=by
 rw[hr,hX,hX,List.map_set]
theorem yA(b:List Int)(hb:x6 b)(s:dE)(oW:s.syms.length≤100)(ha9:∀x∈s.syms,x.args.length≤1000)(p:Int)(h1:0≤p)(h2:p≤900000000) :
 C E.P 93 [.ptr 0 0,av (dZ s)] [some (uo b p)] (bM (av (dZ (jj b s p).1)) [some (uo b (jj b s p).2)]):=by
 have q2:p+1+1=p+2:=by omega
 have q3:p+2+1=p+3:=by omega
 have q4:p+3+1=p+4:=by omega
 have cI:=jQ
 refine F0 (nt:=116) (rs:=[.cell 4 25]) Tryz.func93 rfl rfl rfl rfl rfl (fun hl he=>?_)
 simp -implicitDefEqProofs only[go_sem] at hl⊢
 refine iQ hm ?_
 refine sA ?_
 refine aO hm (fun(i:Nat)=> i≤s.syms.length) (fun(i:Nat)=> ⟨dB 116 .any [(0,.ptr 0 0),(3,.ptr 1 0),(4,.ptr 2 0),(5,.ptr 3 0),(6,iv i)],[some (uo b p),some (.box (cF (dZ s))),some (.box [.bZ]),some (.box [.acc 4]),some (.fg 126 (vU (s.syms.take i)))]⟩) (fun(i:Nat)=> s.syms.length-i) (0) ?_ (aw [some 0,some 1,some 2,some 4,some 3] ?_ ?_ rfl rfl) ?_
 rotate_left
 ·exact sC
 ·refine sA ?_
  all_goals(rfl)
 rotate_left
 ·omega
 ·rintro i hi
  have hp:(vU (s.syms.take i)).length=i:=by rw[Fe,bS];omega
  rcases aa (i<s.syms.length) with h3|h3
  ·have ha:=ha9 s.syms[i] (ak h3)
   have lP:=fP s.syms[i].args
   simp -implicitDefEqProofs only[go_sem,h3]
   refine sQ ?_
   refine⟨i+1,?_,?_,Be 9 i _ rfl (by rw[aX,hp];simp) (wC hp) ?_⟩
   rotate_left
   ·show _ < _
    omega
   ·refine sA ?_
    refine aw [some 0,some 1,some 2,some 3,some 9] ?_ ?_ rfl rfl
    ·exact sC
    ·refine sA ?_
     all_goals(rw[wo hp];exact⟨IB h3,(congrArg (fun z=>(cR z).isSome) (IB h3)).trans (XS _)⟩)
   exact h3
  ·have et:s.syms.take i=s.syms:=ao (by omega)
   rw[et]
   rcases aa (s.syms.length=0) with h4|h4
   ·have e:jj b s p=(s,p):=by rw[jj,if_pos h4]
    have k4:((s.syms.length:Int)=0)=True:=eq_true (by omega)
    simp -implicitDefEqProofs only[go_sem,h3,k4]
    refine eJ ?_
    refine bX [some 0] ?_ rfl rfl
    refine sA ?_
    rw[e]
    exact⟨⟨⟨_,rfl,rfl⟩,rfl⟩,rfl⟩
   have k4:¬ (s.syms.length:Int)=0:=by omega
   simp -implicitDefEqProofs only[go_sem,h3,k4]
   refine oC [] [0] (nb b p 8 hb h1 (by omega)) ?_
   rcases aa (0<de b p 8) with h5|h5
   ·have e:jj b s p=(s,p+1):=by rw[jj,if_neg h4,if_pos h5]
    simp -implicitDefEqProofs only[go_sem,h5]
    refine eJ ?_
    refine bX [some 0] ?_ rfl rfl
    refine sA ?_
    rw[e]
    exact⟨⟨⟨_,rfl,rfl⟩,rfl⟩,rfl⟩
   simp -implicitDefEqProofs only[go_sem,h5]
   obtain⟨k,ek,hk⟩:=vi hb (p:=p+1) (n:=s.syms.length) (by omega) (by omega)
   obtain⟨x,hx⟩:∃x,s.syms[k]=x:=⟨_,rfl⟩
   have ex:s.syms.getD k ⟨[],[],0⟩=x:=by rw[←hx,List.getD_eq_getElem?_getD,List.getElem?_eq_getElem hk];rfl
   have qD:row (hX s.syms) k=vP x:=by rw[Dk hk,hx]
   obtain⟨y,e0⟩:∃y,jj b s p=y:=⟨_,rfl⟩
   have ee:=e0
   unfold jj at ee
   simp only[if_neg h4,if_neg h5,ek,bo,ex] at ee
   refine gp [] [0] (nb b (p+1) s.syms.length hb (by omega) (by omega)) ?_ ?_<;>simp -implicitDefEqProofs only[go_sem,ek,q2]
   rcases aa (de b (p+2) 5=1) with c1|c1
   ·have c0:¬de b (p+2) 5=0:=by omega
    have k1:=eq_true c1
    rw[if_neg c0,if_pos c1] at ee
    have hkT:k<(vU s.syms).length:=by rw[Fe];exact hk
    have hrowT:ow (vU s.syms) k=[.leaf (.str x.name),.own 3 (zZ x.args),.leaf (.val (.int .i64 x.sort))]:=by rw[Ua hk,hx];rfl
    have hrs:∀r,ow ((vU s.syms).set k r) k=r:=fun r=>XV hkT
    have hxa:x.args.length≤1000:=by rw[←hx];exact ha9 _ (ak hk)
    refine aav (TD 4 k _ rfl hkT hrowT) ?_
    refine sA ?_
    refine gp [] [0] (nb b (p+2) 5 hb (by omega) (by omega)) ?_ ?_<;>simp -implicitDefEqProofs only[go_sem,c0,k1,q3,hrs]
    refine sQ ?_
    refine gp [] [0] (sE b (p+3) [0,2,-1,1] hb (by omega) (by omega) (by simp) (by simp)) ?_ ?_<;>simp -implicitDefEqProofs only[go_sem,q4,hrs]
    refine sQ ?_
    refine⟨_,zR.ND (u5 4 k _ rfl (by rw[List.length_set];exact hkT) (hrs _)),?_⟩
    refine sA ?_
    refine bX [some 0] ?_ rfl rfl
    refine sA ?_
    rw[e0,←ee]
    have ju:=Ve s.syms k ⟨x.name,x.args++[jR b (p+3) [0,2,-1,1]],x.sort⟩
    rw[CD,←UH] at ju
    exact⟨⟨⟨_,(congrArg cR ju).trans (xq _),rfl⟩,rfl⟩,rfl⟩
   refine aav (Rj 4 rfl (xq _)) ?_
   refine sA ?_
   refine gp [] [0] (nb b (p+2) 5 hb (by omega) (by omega)) ?_ ?_<;>simp -implicitDefEqProofs only[go_sem,q3]
   rcases aa (de b (p+2) 5=0) with c0|c0
   ·have k0:=eq_true c0
    rw[if_pos c0] at ee
    simp -implicitDefEqProofs only[go_sem,k0]
    refine gp [] [0] (ZG b (p+3) [[],[65],[97,98,99],[122,122],[97]] hb (by omega) (by omega) (by simp) (by simp)) ?_ ?_<;>simp -implicitDefEqProofs only[go_sem,hk,q4]
    refine iK ?_
    refine eJ ?_
    refine bX [some 0] ?_ rfl rfl
    refine sA ?_
    rw[e0,←ee]
    exact⟨⟨(C3 hk ⟨Q0 b (p+3) [[],[65],[97,98,99],[122,122],[97]],x.args,x.sort⟩ _ (by rw[hx];rfl)).symm,rfl⟩,rfl⟩
   rw[if_neg c0,if_neg c1] at ee
   rcases aa (de b (p+2) 5=2) with c2|c2
   ·have k2:=eq_true c2
    rw[if_pos c2] at ee
    simp -implicitDefEqProofs only[go_sem,c0,c1,k2]
    refine gp [] [0] (sE b (p+3) [1,2,-1,0] hb (by omega) (by omega) (by simp) (by simp)) ?_ ?_<;>simp -implicitDefEqProofs only[go_sem,hk,q4]
    refine iK ?_
    refine eJ ?_
    refine bX [some 0] ?_ rfl rfl
    refine sA ?_
    rw[e0,←ee]
    exact⟨⟨(C3 hk ⟨x.name,x.args,jR b (p+3) [1,2,-1,0]⟩ _ (by rw[hx];rfl)).symm,rfl⟩,rfl⟩
   rw[if_neg c2] at ee
   rcases aa (de b (p+2) 5=3) with c3|c3
   ·have k3:=eq_true c3
    rw[if_pos c3] at ee
    simp -implicitDefEqProofs only[go_sem,c0,c1,c2,k3,hk,qD]
    refine sQ ?_
    refine eJ ?_
    refine bX [some 0] ?_ rfl rfl
    refine sA ?_
    rw[e0,←ee]
    exact⟨⟨by rw[←td];rfl,rfl⟩,rfl⟩
   rw[if_neg c3] at ee
   simp -implicitDefEqProofs only[go_sem,c0,c1,c2,c3]
   refine dm hm (fun(l:List Sym) (q:Int)=> p+3≤q∧q≤p+3+l.length∧l.length≤100∧vI b (8-s.syms.length) s.syms (p+3)=vI b (8-l.length) l q) (fun(l:List Sym) (q:Int)=> ⟨dB 116 .any [(0,.ptr 0 0),(4,.ptr 2 0),(5,.ptr 3 0)],[some (uo b q),some (.box (cF (dZ s))),some (.box [.bZ]),some (.box [.acc 4]),some (.acc 126 (hX l))]⟩) (fun(l:List Sym) (q:Int)=> 8-l.length) (s.syms) (p+3) ?_ (aw [some 0,some 1,some 2,some 3,some 4] ?_ ?_ rfl rfl) ?_
   rotate_left
   ·exact sC
   ·exact sC
   rotate_left
   ·exact⟨by omega,by omega,oW,rfl⟩
   ·rintro l q ⟨b1,b2,b3,hg⟩
    rcases aa (l.length≤7) with h6|h6
    ·have h6':(l.length:Int)≤7:=by omega
     have e8:8-l.length=(8-(l.length+1))+1:=by omega
     rw[e8,vI] at hg
     have hof:=XU hb (p:=q) (l:=[[97],[98],[122]]) (by omega) (by simp)
     have hol:(Q0 b q [[97],[98],[122]]).length=1:=by
      simp only[ay,bn,or_false] at hof
      rcases hof with e|e|e<;>rw[e]<;>rfl
     have hla:(l++[(⟨122::Q0 b q [[97],[98],[122]],[],0⟩:Sym)]).length=l.length+1:=by simp
     simp -implicitDefEqProofs only[go_sem,h6']
     refine oC [] [0] (ZG b q [[97],[98],[122]] hb (by omega) (by omega) (by simp) (by simp)) ?_
     refine sQ ?_
     refine⟨l++[(⟨122::Q0 b q [[97],[98],[122]],[],0⟩:Sym)],q+1,?_,sL,aw [some 0,some 1,some 2,some 3,some 5] ?_ ?_ rfl rfl⟩
     rotate_left
     ·exact sC
     ·refine sA ?_
      all_goals((rw[←td];rfl))
     exact⟨by omega,by simp;omega,by simp;omega,by simpa using hg⟩
    ·have h6':¬ (l.length:Int)≤7:=by omega
     have e8:8-l.length=0:=by omega
     rw[e8,vI] at hg
     rw[hg] at ee
     simp -implicitDefEqProofs only[go_sem,h6']
     refine eJ ?_
     refine bX [some 0] ?_ rfl rfl
     refine sA ?_
     rw[e0,←ee]
     exact⟨⟨rfl,rfl⟩,rfl⟩
theorem TE(A:List Term)(t:Term):cR (lift (aP A)++[[T.leaf (D.str t.name),T.own 34 (zA t.kids)]])=some (aP (A++[t])):=by
 have h1:cR [[T.leaf (D.str t.name),T.own 34 (zA t.kids)]]=some [cT t]:=by simp[cR,fT,T.FD,vx,cT]
 rw[Ld (mT _) h1,←lV,dM,lW]
theorem SD(A:List Term)(t:Term):cR (lift (aP A)++[[T.leaf (D.str t.name),T.own 34 (zA t.kids)],[T.leaf (D.str t.name),T.own 34 (zA t.kids)]])=some (aP (A++[t,t])):=by
 have h1:cR [[T.leaf (D.str t.name),T.own 34 (zA t.kids)],[T.leaf (D.str t.name),T.own 34 (zA t.kids)]]=some [cT t,cT t]:=by simp[cR,fT,T.FD,vx,cT]
 rw[Ld (mT _) h1,←lV,dM,dM,lW]
theorem BL(t:Term)(ih:∀k∈t.kids,C E.P 60 [av (cT k)] [] (bM (.agg [sv k.name,.acc 0]) [some (.fg 34 (zA k.kids))])):C E.P 60 [av (cT t)] [] (bM (.agg [sv t.name,.acc 0]) [some (.fg 34 (zA t.kids))]):=by
 refine gS (nt:=27) (rs:=[.cell 2 34]) hm Tryz.func60 fun hl he cI=>?_
 refine aO hm (fun(i:Nat)=> i≤t.kids.length) (fun(i:Nat)=> ⟨dB 27 .any [(1,.ptr 0 0),(2,.ptr 1 0),(3,.ptr 2 0),(4,iv i)],[some (.box (cF (cT t))),some (.box (cF (cT aL))),some (.box [.d (.str t.name),.acc 3]),some (.fg 34 (zA (t.kids.take i)))]⟩) (fun(i:Nat)=> t.kids.length-i) (0) ?_ (aw [some 0,some 1,some 2,none] ?_ ?_ rfl rfl) ?_
 rotate_left
 ·exact sC
 ·refine sA ?_
  all_goals(rfl)
 rotate_left
 ·omega
 ·rintro i hi
  have hp:(zA (t.kids.take i)).length=i:=by rw[Qn,bS];omega
  rcases aa (i<t.kids.length) with h1|h1
  ·simp -implicitDefEqProofs only[go_sem,h1]
   have hc:=ih t.kids[i] (ak h1)
   refine oC [] [4] hc ?_
   refine sQ ?_
   refine⟨i+1,?_,?_,Be 6 i _ rfl (by rw[aX,hp];simp) (wC hp) ?_⟩
   rotate_left
   ·show _ < _
    omega
   ·refine sA ?_
    refine aw [some 0,some 1,some 2,some 6] ?_ ?_ rfl rfl
    ·exact sC
    ·refine sA ?_
     all_goals(rw[wo hp];exact⟨Mq h1,(congrArg (fun z=>(cR z).isSome) (Mq h1)).trans (YE _)⟩)
   exact h1
  ·have et:t.kids.take i=t.kids:=ao (by omega)
   simp -implicitDefEqProofs only[go_sem,h1,et]
   refine bX [some 3] ?_ rfl rfl
   exact sC
theorem qI:∀t,C E.P 60 [av (cT t)] [] (bM (.agg [sv t.name,.acc 0]) [some (.fg 34 (zA t.kids))]):=
 Term.ind fun n ks ih=>BL (.mk n ks) ih
theorem HQ(b:List Int)(hb:x6 b)(s:dE)(hs:fC s)(p:Int)(h1:0≤p)(h2:p≤900000000):C E.P 163 [.ptr 0 0,av (dZ s)] [some (uo b p)] (bM (av (cT (IU b s p).1)) [some (uo b (IU b s p).2)]):=by
 obtain⟨d,ed,Vn,hd4⟩:∃d:Nat,jR b (p+1) [2,3,1,4]=d∧1≤d∧d≤4:=by
  have hm:=wU hb (p:=p+1) (l:=[2,3,1,4]) (by omega) (by simp)
  simp only[ay,bn,or_false] at hm
  exact⟨(jR b (p+1) [2,3,1,4]).toNat,by omega,by omega,by omega⟩
 have hpw:(2:Int) ^ d≤16:=by
  have:=Nat.pow_le_pow_right (n:=2) (by omega) hd4
  have e:(2:Int) ^ d=((2 ^ d:Nat):Int):=by simp
  omega
 have ha:=E1 (b:=b) hs d (de b p 2) (p+2)
 obtain⟨y,e0⟩:∃y,IU b s p=y:=⟨_,rfl⟩
 have ee:=e0
 unfold IU at ee
 simp only[ed,bo] at ee
 obtain⟨r,hr⟩:∃r,hQ b s d (de b p 2) (p+2)=r:=⟨_,rfl⟩
 have hO:=ry b hb s hs d (de b p 2) (p+2) Vn (by omega) (by omega)
 have hk2:=RY b hs d (de b p 2) (p+2)
 rw[hr] at ee ha hO hk2
 rw[e0,←ee]
 have hp:(lift (aP r.1.kids)).length=r.1.kids.length:=by simp[lift,rq]
 have q2:p+1+1=p+2:=by omega
 have cI:=jQ
 refine F0 (nt:=49) (rs:=[.cell 4 34]) Tryz.func163 rfl rfl rfl rfl rfl (fun hl he=>?_)
 simp -implicitDefEqProofs only[go_sem] at hl⊢
 refine iQ hm ?_
 refine oC [] [0] (nb b p 2 hb h1 (by omega)) ?_
 refine oC [] [0] (sE b (p+1) [2,3,1,4] hb (by omega) (by omega) (by simp) (by simp)) ?_
 rw[ed,q2]
 refine oC [] [0,3] hO ?_
 refine iK ?_
 refine oC [] [0] (nb b r.2 48 hb (by omega) (by omega)) ?_
 rcases aa (de b r.2 48=0) with c0|c0
 ·have k0:=eq_true c0
  rw[if_pos c0]
  simp -implicitDefEqProofs only[go_sem,k0]
  have qr:r.2+1+1=r.2+2:=by omega
  refine gp [] [0] (ZG b (r.2+1) [[],[65],[97,98,99],[102]] hb (by omega) (by omega) (by simp) (by simp)) ?_ ?_<;>simp -implicitDefEqProofs only[go_sem,qr]
  refine eJ ?_
  refine bX [some 0] ?_ rfl rfl
  refine sA ?_
  rfl
 rw[if_neg c0]
 rcases aa (de b r.2 48=1) with c1|c1
 ·have k1:=eq_true c1
  rw[if_pos c1]
  simp -implicitDefEqProofs only[go_sem,c0,k1]
  refine KR [] [3] [5] (qI r.1) rfl ?_ ?_ ?_
  ·exact sV
  all_goals simp -implicitDefEqProofs only[go_sem]
  refine sQ ?_
  refine G9 (u5 8 r.1.kids.length _ rfl (by rw[aX,hp];simp) (wC hp)) ?_
  refine sA ?_
  rw[wo hp]
  refine eJ ?_
  refine bX [some 0] ?_ rfl rfl
  refine sA ?_
  exact⟨⟨_,TE _ _,rfl⟩,rfl⟩
 rw[if_neg c1]
 rcases aa (de b r.2 48=2) with c2|c2
 ·have k2:=eq_true c2
  rw[if_pos c2]
  simp -implicitDefEqProofs only[go_sem,c0,c1,k2]
  refine KR [] [3] [5] (qI r.1) rfl ?_ ?_ ?_
  ·exact sV
  all_goals simp -implicitDefEqProofs only[go_sem]
  refine KR [] [3] [7] (qI r.1) rfl ?_ ?_ ?_
  ·exact sV
  all_goals simp -implicitDefEqProofs only[go_sem]
  refine sQ ?_
  refine G9 (u5 10 r.1.kids.length _ rfl (by rw[aX,hp];simp) (Td hp)) ?_
  refine sA ?_
  rw[V7 hp]
  refine G9 (u5 10 (r.1.kids.length+1) _ rfl (by rw[aX,hp];simp) (Un hp)) ?_
  refine sA ?_
  rw[V4 hp]
  refine eJ ?_
  refine bX [some 0] ?_ rfl rfl
  refine sA ?_
  exact⟨⟨_,SD _ _,rfl⟩,rfl⟩
 ·rw[if_neg c2]
  simp -implicitDefEqProofs only[go_sem,c0,c1,c2]
  refine eJ ?_
  refine bX [some 0] ?_ rfl rfl
  refine sA ?_
  rfl
end Go.Proofs.YtabembjmeobhoaaGreat
