/-
  The reference: the walk of words that are bent. A step towards the laws.
-/
import Derived.Test.YtabembjmeobhoaaGreatKDya
import Derived.Test.YtabembjmeobhoaaGreatKDq
set_option linter.unusedVariables false
set_option linter.unusedSimpArgs false
open Classical renaming em→aa
open Int renaming toNat_natCast→bn
open List renaming getElem_mem→ak,take_of_length_le→ao,mem_cons→ay,length_append→aU,not_mem_nil→ba,length_take→bU
namespace Go.Proofs.YtabembjmeobhoaaGreat
open Go.Eng Go.Mod
open Int renaming reduceEq→Z1,reduceLT→Z2,reduceLE→Z3,reduceToNat→Z4
set_option maxRecDepth 100000
set_option maxHeartbeats 800000
theorem Dg{l:List Sym}{k:Nat}(h:k<l.length)(x:Sym)(r:List D)(hr:r=wK x):(dY l).set k r=dY (l.set k x):=by
 rw[hr,dY,dY,List.map_set]
theorem yY(b:List Int)(hb:yU b)(s:dK)(o5:s.syms.length≤100)(ha9:∀x∈s.syms,x.args.length≤1000)(p:Int)(h1:0≤p)(h2:p≤900000000) :
 C E.P 93 [.ptr 0 0,av (dV s)] [some (uj b p)] (bz (av (dV (ji b s p).1)) [some (uj b (ji b s p).2)]):=by
 have q2:p+1+1=p+2:=by omega
 have q3:p+2+1=p+3:=by omega
 have q4:p+3+1=p+4:=by omega
 have cq:=jT
 refine HA (nt:=116) (rs:=[.cell 4 25]) Tryz.func93 rfl rfl rfl rfl rfl (fun hl he=>?_)
 simp -implicitDefEqProofs only[go_sem] at hl⊢
 refine iI hm ?_
 refine sA ?_
 refine aL hm (fun(i:Nat)=> i≤s.syms.length) (fun(i:Nat)=> ⟨dx 116 .any [(0,.ptr 0 0),(3,.ptr 1 0),(4,.ptr 2 0),(5,.ptr 3 0),(6,iv i)],[some (uj b p),some (.box (cE (dV s))),some (.box [.b8]),some (.box [.acc 4]),some (.fk 126 (w9 (s.syms.take i)))]⟩) (fun(i:Nat)=> s.syms.length-i) (0) ?_ (ar [some 0,some 1,some 2,some 4,some 3] ?_ ?_ rfl rfl) ?_
 rotate_left
 ·exact sC
 ·refine sA ?_
  all_goals(rfl)
 rotate_left
 ·omega
 ·rintro i hi
  have hp:(w9 (s.syms.take i)).length=i:=by rw[G6,bU];omega
  rcases aa (i<s.syms.length) with h3|h3
  ·have ha:=ha9 s.syms[i] (ak h3)
   have mR:=pr s.syms[i].args
   refine uC ?_
   refine sQ ?_
   refine⟨i+1,?_,?_,Bd 9 i _ rfl (by rw[aU,hp];simp) (wQ hp) ?_⟩
   rotate_left
   ·show _ < _
    omega
   ·refine sA ?_
    refine ar [some 0,some 1,some 2,some 3,some 9] ?_ ?_ rfl rfl
    ·exact sC
    ·refine sA ?_
     all_goals(rw[xg hp];exact⟨JU h3,(congrArg (fun z=>(cX z).isSome) (JU h3)).trans (Xh _)⟩)
   exact h3
  ·have et:s.syms.take i=s.syms:=ao (by omega)
   rw[et]
   rcases aa (s.syms.length=0) with h4|h4
   ·have e:ji b s p=(s,p):=by rw[ji,if_pos h4]
    have k4:((s.syms.length:Int)=0)=True:=eq_true (by omega)
    simp -implicitDefEqProofs only[go_sem,h3,k4]
    refine eP ?_
    refine bZ [some 0] ?_ rfl rfl
    refine sA ?_
    rw[e]
    exact⟨⟨⟨_,rfl,rfl⟩,rfl⟩,rfl⟩
   have k4:¬ (s.syms.length:Int)=0:=by omega
   simp -implicitDefEqProofs only[go_sem,h3,k4]
   refine oC [] [0] (nk b p 8 hb h1 (by omega)) ?_
   rcases aa (0<dk b p 8) with h5|h5
   ·have e:ji b s p=(s,p+1):=by rw[ji,if_neg h4,if_pos h5]
    refine uE ?_
    refine eP ?_
    refine bZ [some 0] ?_ rfl rfl
    refine sA ?_
    rw[e]
    exact⟨⟨⟨_,rfl,rfl⟩,rfl⟩,rfl⟩
   refine uE ?_
   obtain⟨k,ek,hk⟩:=vz hb (p:=p+1) (n:=s.syms.length) (by omega) (by omega)
   obtain⟨x,hx⟩:∃x,s.syms[k]=x:=⟨_,rfl⟩
   have ex:s.syms.getD k ⟨[],[],0⟩=x:=by rw[←hx,List.getD_eq_getElem?_getD,List.getElem?_eq_getElem hk];rfl
   have qK:row (dY s.syms) k=wK x:=by rw[D4 hk,hx]
   obtain⟨y,e0⟩:∃y,ji b s p=y:=⟨_,rfl⟩
   have ee:=e0
   unfold ji at ee
   simp only[if_neg h4,if_neg h5,ek,bn,ex] at ee
   refine gw [] [0] (nk b (p+1) s.syms.length hb (by omega) (by omega)) ?_ ?_<;>simp -implicitDefEqProofs only[go_sem,ek,q2]
   rcases aa (dk b (p+2) 5=1) with c1|c1
   ·have c0:¬dk b (p+2) 5=0:=by omega
    have k1:=eq_true c1
    rw[if_neg c0,if_pos c1] at ee
    have hkT:k<(w9 s.syms).length:=by rw[G6];exact hk
    have hrowT:oQ (w9 s.syms) k=[.leaf (.str x.name),.own 3 (AX x.args),.leaf (.val (.int .i64 x.sort))]:=by rw[WE hk,hx];rfl
    have hrs:∀r,oQ ((w9 s.syms).set k r) k=r:=fun r=>YD hkT
    have hxa:x.args.length≤1000:=by rw[←hx];exact ha9 _ (ak hk)
    refine aaP (WV 4 k _ rfl hkT hrowT) ?_
    refine sA ?_
    refine gw [] [0] (nk b (p+2) 5 hb (by omega) (by omega)) ?_ ?_<;>simp -implicitDefEqProofs only[go_sem,c0,k1,q3,hrs]
    refine sQ ?_
    refine gw [] [0] (tj b (p+3) [0,2,-1,1] hb (by omega) (by omega) (by simp) (by simp)) ?_ ?_<;>simp -implicitDefEqProofs only[go_sem,q4,hrs]
    refine sQ ?_
    refine⟨_,AH.NC (vR 4 k _ rfl (by rw[List.length_set];exact hkT) (hrs _)),?_⟩
    refine sA ?_
    refine bZ [some 0] ?_ rfl rfl
    refine sA ?_
    rw[e0,←ee]
    have jw:=UU s.syms k ⟨x.name,x.args++[jV b (p+3) [0,2,-1,1]],x.sort⟩
    rw[DL,←WR] at jw
    exact⟨⟨⟨_,(congrArg cX jw).trans (xO _),rfl⟩,rfl⟩,rfl⟩
   refine aaP (Rv 4 rfl (xO _)) ?_
   refine sA ?_
   refine gw [] [0] (nk b (p+2) 5 hb (by omega) (by omega)) ?_ ?_<;>simp -implicitDefEqProofs only[go_sem,q3]
   rcases aa (dk b (p+2) 5=0) with c0|c0
   ·have k0:=eq_true c0
    rw[if_pos c0] at ee
    refine uH ?_
    refine gw [] [0] (aac b (p+3) [[],[65],[97,98,99],[122,122],[97]] hb (by omega) (by omega) (by simp) (by simp)) ?_ ?_<;>simp -implicitDefEqProofs only[go_sem,hk,q4]
    refine iK ?_
    refine eP ?_
    refine bZ [some 0] ?_ rfl rfl
    refine sA ?_
    rw[e0,←ee]
    exact⟨⟨(Dg hk ⟨Rs b (p+3) [[],[65],[97,98,99],[122,122],[97]],x.args,x.sort⟩ _ (by rw[hx];rfl)).symm,rfl⟩,rfl⟩
   rw[if_neg c0,if_neg c1] at ee
   rcases aa (dk b (p+2) 5=2) with c2|c2
   ·have k2:=eq_true c2
    rw[if_pos c2] at ee
    simp -implicitDefEqProofs only[go_sem,c0,c1,k2]
    refine gw [] [0] (tj b (p+3) [1,2,-1,0] hb (by omega) (by omega) (by simp) (by simp)) ?_ ?_<;>simp -implicitDefEqProofs only[go_sem,hk,q4]
    refine iK ?_
    refine eP ?_
    refine bZ [some 0] ?_ rfl rfl
    refine sA ?_
    rw[e0,←ee]
    exact⟨⟨(Dg hk ⟨x.name,x.args,jV b (p+3) [1,2,-1,0]⟩ _ (by rw[hx];rfl)).symm,rfl⟩,rfl⟩
   rw[if_neg c2] at ee
   rcases aa (dk b (p+2) 5=3) with c3|c3
   ·have k3:=eq_true c3
    rw[if_pos c3] at ee
    simp -implicitDefEqProofs only[go_sem,c0,c1,c2,k3,hk,qK]
    refine sQ ?_
    refine eP ?_
    refine bZ [some 0] ?_ rfl rfl
    refine sA ?_
    rw[e0,←ee]
    exact⟨⟨by rw[←td];rfl,rfl⟩,rfl⟩
   rw[if_neg c3] at ee
   simp -implicitDefEqProofs only[go_sem,c0,c1,c2,c3]
   refine cM hm (fun(l:List Sym) (q:Int)=> p+3≤q∧q≤p+3+l.length∧l.length≤100∧wx b (8-s.syms.length) s.syms (p+3)=wx b (8-l.length) l q) (fun(l:List Sym) (q:Int)=> ⟨dx 116 .any [(0,.ptr 0 0),(4,.ptr 2 0),(5,.ptr 3 0)],[some (uj b q),some (.box (cE (dV s))),some (.box [.b8]),some (.box [.acc 4]),some (.acc 126 (dY l))]⟩) (fun(l:List Sym) (q:Int)=> 8-l.length) (s.syms) (p+3) ?_ (ar [some 0,some 1,some 2,some 3,some 4] ?_ ?_ rfl rfl) ?_
   rotate_left
   ·exact sC
   ·exact sC
   rotate_left
   ·exact⟨by omega,by omega,o5,rfl⟩
   ·rintro l q ⟨b1,b2,b3,hg⟩
    rcases aa (l.length≤7) with h6|h6
    ·have h6':(l.length:Int)≤7:=by omega
     have e8:8-l.length=(8-(l.length+1))+1:=by omega
     rw[e8,wx] at hg
     have hof:=XP hb (p:=q) (l:=[[97],[98],[122]]) (by omega) (by simp)
     have hol:(Rs b q [[97],[98],[122]]).length=1:=by
      simp only[ay,ba,or_false] at hof
      rcases hof with e|e|e<;>rw[e]<;>rfl
     have hla:(l++[(⟨122::Rs b q [[97],[98],[122]],[],0⟩:Sym)]).length=l.length+1:=by simp
     simp -implicitDefEqProofs only[go_sem,h6']
     refine oC [] [0] (aac b q [[97],[98],[122]] hb (by omega) (by omega) (by simp) (by simp)) ?_
     refine sQ ?_
     refine⟨l++[(⟨122::Rs b q [[97],[98],[122]],[],0⟩:Sym)],q+1,?_,sL,ar [some 0,some 1,some 2,some 3,some 5] ?_ ?_ rfl rfl⟩
     rotate_left
     ·exact sC
     ·refine sA ?_
      all_goals((rw[←td];rfl))
     exact⟨by omega,by simp;omega,by simp;omega,by simpa using hg⟩
    ·have h6':¬ (l.length:Int)≤7:=by omega
     have e8:8-l.length=0:=by omega
     rw[e8,wx] at hg
     rw[hg] at ee
     simp -implicitDefEqProofs only[go_sem,h6']
     refine eP ?_
     refine bZ [some 0] ?_ rfl rfl
     refine sA ?_
     rw[e0,←ee]
     exact⟨⟨rfl,rfl⟩,rfl⟩
theorem WX(A:List Term)(t:Term):cX (lift (aN A)++[[T.leaf (D.str t.name),T.own 34 (zZ t.kids)]])=some (aN (A++[t])):=by
 have h1:cX [[T.leaf (D.str t.name),T.own 34 (zZ t.kids)]]=some [cT t]:=by simp[cX,gi,T.G0,vq,cT]
 rw[Ku (nc _) h1,←kW,dC,fX]
theorem Tf(A:List Term)(t:Term):cX (lift (aN A)++[[T.leaf (D.str t.name),T.own 34 (zZ t.kids)],[T.leaf (D.str t.name),T.own 34 (zZ t.kids)]])=some (aN (A++[t,t])):=by
 have h1:cX [[T.leaf (D.str t.name),T.own 34 (zZ t.kids)],[T.leaf (D.str t.name),T.own 34 (zZ t.kids)]]=some [cT t,cT t]:=by simp[cX,gi,T.G0,vq,cT]
 rw[Ku (nc _) h1,←kW,dC,dC,fX]
theorem CQ(t:Term)(ih:∀k∈t.kids,C E.P 60 [av (cT k)] [] (bz (.agg [sv k.name,.acc 0]) [some (.fk 34 (zZ k.kids))])):C E.P 60 [av (cT t)] [] (bz (.agg [sv t.name,.acc 0]) [some (.fk 34 (zZ t.kids))]):=by
 refine gS (nt:=27) (rs:=[.cell 2 34]) hm Tryz.func60 fun hl he cq=>?_
 refine aL hm (fun(i:Nat)=> i≤t.kids.length) (fun(i:Nat)=> ⟨dx 27 .any [(1,.ptr 0 0),(2,.ptr 1 0),(3,.ptr 2 0),(4,iv i)],[some (.box (cE (cT t))),some (.box (cE (cT aM))),some (.box [.d (.str t.name),.acc 3]),some (.fk 34 (zZ (t.kids.take i)))]⟩) (fun(i:Nat)=> t.kids.length-i) (0) ?_ (ar [some 0,some 1,some 2,none] ?_ ?_ rfl rfl) ?_
 rotate_left
 ·exact sC
 ·refine sA ?_
  all_goals(rfl)
 rotate_left
 ·omega
 ·rintro i hi
  have hp:(zZ (t.kids.take i)).length=i:=by rw[RN,bU];omega
  rcases aa (i<t.kids.length) with h1|h1
  ·refine uA ?_
   have hc:=ih t.kids[i] (ak h1)
   refine oC [] [4] hc ?_
   refine sQ ?_
   refine⟨i+1,?_,?_,Bd 6 i _ rfl (by rw[aU,hp];simp) (wQ hp) ?_⟩
   rotate_left
   ·show _ < _
    omega
   ·refine sA ?_
    refine ar [some 0,some 1,some 2,some 6] ?_ ?_ rfl rfl
    ·exact sC
    ·refine sA ?_
     all_goals(rw[xg hp];exact⟨NU h1,(congrArg (fun z=>(cX z).isSome) (NU h1)).trans (Zj _)⟩)
   exact h1
  ·have et:t.kids.take i=t.kids:=ao (by omega)
   simp -implicitDefEqProofs only[go_sem,h1,et]
   refine bZ [some 3] ?_ rfl rfl
   exact sC
theorem qV:∀t,C E.P 60 [av (cT t)] [] (bz (.agg [sv t.name,.acc 0]) [some (.fk 34 (zZ t.kids))]):=
 Term.ind fun n ks ih=>CQ (.mk n ks) ih
theorem IH(b:List Int)(hb:yU b)(s:dK)(hs:fM s)(p:Int)(h1:0≤p)(h2:p≤900000000):C E.P 163 [.ptr 0 0,av (dV s)] [some (uj b p)] (bz (av (cT (JL b s p).1)) [some (uj b (JL b s p).2)]):=by
 obtain⟨d,ed,JX,hd4⟩:∃d:Nat,jV b (p+1) [2,3,1,4]=d∧1≤d∧d≤4:=by
  have hm:=xK hb (p:=p+1) (l:=[2,3,1,4]) (by omega) (by simp)
  simp only[ay,ba,or_false] at hm
  exact⟨(jV b (p+1) [2,3,1,4]).toNat,by omega,by omega,by omega⟩
 have hpw:(2:Int) ^ d≤16:=by
  have:=Nat.pow_le_pow_right (n:=2) (by omega) hd4
  have e:(2:Int) ^ d=((2 ^ d:Nat):Int):=by simp
  omega
 have ha:=GZ (b:=b) hs d (dk b p 2) (p+2)
 obtain⟨y,e0⟩:∃y,JL b s p=y:=⟨_,rfl⟩
 have ee:=e0
 unfold JL at ee
 simp only[ed,bn] at ee
 obtain⟨r,hr⟩:∃r,hY b s d (dk b p 2) (p+2)=r:=⟨_,rfl⟩
 have hO:=rN b hb s hs d (dk b p 2) (p+2) JX (by omega) (by omega)
 have hk2:=SF b hs d (dk b p 2) (p+2)
 rw[hr] at ee ha hO hk2
 rw[e0,←ee]
 have hp:(lift (aN r.1.kids)).length=r.1.kids.length:=by simp[lift,rA]
 have q2:p+1+1=p+2:=by omega
 have cq:=jT
 refine HA (nt:=49) (rs:=[.cell 4 34]) Tryz.func163 rfl rfl rfl rfl rfl (fun hl he=>?_)
 simp -implicitDefEqProofs only[go_sem] at hl⊢
 refine iI hm ?_
 refine oC [] [0] (nk b p 2 hb h1 (by omega)) ?_
 refine oC [] [0] (tj b (p+1) [2,3,1,4] hb (by omega) (by omega) (by simp) (by simp)) ?_
 rw[ed,q2]
 refine oC [] [0,3] hO ?_
 refine iK ?_
 refine oC [] [0] (nk b r.2 48 hb (by omega) (by omega)) ?_
 rcases aa (dk b r.2 48=0) with c0|c0
 ·have k0:=eq_true c0
  rw[if_pos c0]
  refine uH ?_
  have qr:r.2+1+1=r.2+2:=by omega
  refine gw [] [0] (aac b (r.2+1) [[],[65],[97,98,99],[102]] hb (by omega) (by omega) (by simp) (by simp)) ?_ ?_<;>simp -implicitDefEqProofs only[go_sem,qr]
  refine eP ?_
  refine bZ [some 0] ?_ rfl rfl
  refine sA ?_
  rfl
 rw[if_neg c0]
 rcases aa (dk b r.2 48=1) with c1|c1
 ·have k1:=eq_true c1
  rw[if_pos c1]
  simp -implicitDefEqProofs only[go_sem,c0,k1]
  refine KE [] [3] [5] (qV r.1) rfl ?_ ?_ ?_
  ·exact sV
  all_goals simp -implicitDefEqProofs only[go_sem]
  refine sQ ?_
  refine FL (vR 8 r.1.kids.length _ rfl (by rw[aU,hp];simp) (wQ hp)) ?_
  refine sA ?_
  rw[xg hp]
  refine eP ?_
  refine bZ [some 0] ?_ rfl rfl
  refine sA ?_
  exact⟨⟨_,WX _ _,rfl⟩,rfl⟩
 rw[if_neg c1]
 rcases aa (dk b r.2 48=2) with c2|c2
 ·have k2:=eq_true c2
  rw[if_pos c2]
  simp -implicitDefEqProofs only[go_sem,c0,c1,k2]
  refine KE [] [3] [5] (qV r.1) rfl ?_ ?_ ?_
  ·exact sV
  all_goals simp -implicitDefEqProofs only[go_sem]
  refine KE [] [3] [7] (qV r.1) rfl ?_ ?_ ?_
  ·exact sV
  all_goals simp -implicitDefEqProofs only[go_sem]
  refine sQ ?_
  refine FL (vR 10 r.1.kids.length _ rfl (by rw[aU,hp];simp) (Vq hp)) ?_
  refine sA ?_
  rw[Wr hp]
  refine FL (vR 10 (r.1.kids.length+1) _ rfl (by rw[aU,hp];simp) (Wf hp)) ?_
  refine sA ?_
  rw[V0 hp]
  refine eP ?_
  refine bZ [some 0] ?_ rfl rfl
  refine sA ?_
  exact⟨⟨_,Tf _ _,rfl⟩,rfl⟩
 ·rw[if_neg c2]
  simp -implicitDefEqProofs only[go_sem,c0,c1,c2]
  refine eP ?_
  refine bZ [some 0] ?_ rfl rfl
  refine sA ?_
  rfl
end Go.Proofs.YtabembjmeobhoaaGreat
