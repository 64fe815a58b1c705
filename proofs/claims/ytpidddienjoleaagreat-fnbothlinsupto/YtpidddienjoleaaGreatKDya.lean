/-
  The reference: the walks of what is drawn: numbers, words, terms. A step towards the laws.
-/
import Derived.Test.YtpidddienjoleaaGreatKDI
import Derived.Test.YtpidddienjoleaaGreatKDEb
import Derived.Test.YtpidddienjoleaaGreatKDDa
set_option linter.unusedVariables false
set_option linter.unusedSimpArgs false
namespace Go.Proofs.YtpidddienjoleaaGreat
open Go.Eng Go.Mod
open Int renaming reduceEq→Z1,reduceLT→Z2,reduceLE→Z3,reduceToNat→Z4
set_option maxRecDepth 100000
set_option maxHeartbeats 800000
def mU(b:List Int)(p:Int):En:=.box [lv (JG b),iv p]
def EJ(l:List Int):List (List D):=aJ l
def E4(l:List gR):List (List D):=fF l
theorem MQ:EJ []=[]:=rfl
theorem Kz(n:Int)(l:List Int):EJ (n::l)=[.val (.int .i64 n)]::EJ l:=rfl
theorem LA:E4 []=[]:=rfl
theorem Jy(n:gR)(l:List gR):E4 (n::l)=[.str n]::E4 l:=rfl
attribute [go_sem] mU MQ Kz LA Jy
theorem N8(b:List Int):(JG b).length=b.length:=by simp[JG]
theorem Pt{b:List Int}{i:Nat}(h:i<b.length):row (JG b) i=[.val (.int .u8 b[i])]:=by simp[JG,row,List.getD,List.getElem?_eq_getElem h]
attribute [go_sem] N8
theorem zK{b:List Int}{i:Nat}(h:i<b.length):row (JG b) i=[.val (.int .u8 (b.getD i 0))]:=by rw[Pt h,List.getD_eq_getElem?_getD,List.getElem?_eq_getElem h];rfl
theorem gn(b:List Int)(p n:Int)(hb:qz b)(h1:0≤p)(h2:p≤1000000000):C E.P 147 [.ptr 0 0,iv n] [some (mU b p)] (aO (iv (a6 b p n)) [some (mU b (p+1))]):=by
 have hb1:=hb.len
 refine gS (nt:=99) (rs:=[.tmp 4]) hm Tryz.func147 fun hl he hLB=>?_
 repeat(with_reducible apply And.intro;exact sO)
 rcases Classical.em (n<1) with h3|h3
 ·have e:a6 b p n=0:=by rw[a6,if_pos h3]
  simp -implicitDefEqProofs only[go_sem,h3]
  refine aG [some 0] ?_ rfl rfl
  refine sA ?_
  rw[e]
 rcases Classical.em (b.length=0) with h4|h4
 ·have e:a6 b p n=0:=by rw[a6,if_neg h3,if_pos h4]
  have k4:((b.length:Int)=0)=True:=eq_true (by omega)
  simp -implicitDefEqProofs only[go_sem,h3,k4]
  refine aG [some 0] ?_ rfl rfl
  refine sA ?_
  rw[e]
 have h4':¬ (b.length:Int)=0:=by omega
 have q1:p+1-1=p:=by omega
 simp -implicitDefEqProofs only[go_sem,h3,h4',q1]
 rcases Classical.em (p<b.length) with h5|h5
 ·have e:a6 b p n=(b.getD p.toNat 0).tmod n:=by rw[a6,if_neg h3,if_neg h4,if_pos h5]
  have hl:p.toNat<b.length:=by omega
  have hg:=hb.getD p.toNat
  have hr:=zK hl
  have w0:IntKind.i64.wrap (b.getD p.toNat 0)=b.getD p.toNat 0:=wrap_i64 ⟨by omega,by omega⟩
  simp -implicitDefEqProofs only[go_sem,h5,hr,w0]
  repeat(with_reducible apply And.intro;exact sO)
  refine aG [some 0] ?_ rfl rfl
  refine sA ?_
  rw[e]
 ·have e:a6 b p n=(DR (mS b p) ((mS b p).tdiv 64)).tmod n:=by rw[a6,if_neg h3,if_neg h4,if_neg h5]
  obtain⟨x1,x2,x3,x4⟩:=OY hb h1 h2 h4
  have m1:0≤p.tmod b.length∧p.tmod b.length<b.length:=⟨Int.tmod_nonneg _ h1,Int.tmod_lt_of_pos _ (by omega)⟩
  have m2:0≤(p*7+3).tmod b.length∧(p*7+3).tmod b.length<b.length:=⟨Int.tmod_nonneg _ (by omega),Int.tmod_lt_of_pos _ (by omega)⟩
  have l1:(p.tmod b.length).toNat<b.length:=by omega
  have l2:((p*7+3).tmod b.length).toNat<b.length:=by omega
  have hr1:=zK l1
  have hr2:=zK l2
  have g1:=hb.getD (p.tmod b.length).toNat
  have g2:=hb.getD ((p*7+3).tmod b.length).toNat
  have d1:0≤(mS b p).tdiv 64∧(mS b p).tdiv 64≤mS b p:=by
   rw[Int.tdiv_eq_ediv_of_nonneg x3]
   omega
  have ex:mS b p=b.getD (p.tmod b.length).toNat 0*131+b.getD ((p*7+3).tmod b.length).toNat 0*1117+p*29+p.tdiv b.length*53:=rfl
  have w1:IntKind.i64.wrap (b.getD (p.tmod b.length).toNat 0)=b.getD (p.tmod b.length).toNat 0:=wrap_i64 ⟨by omega,by omega⟩
  have w2:IntKind.i64.wrap (b.getD ((p*7+3).tmod b.length).toNat 0)=b.getD ((p*7+3).tmod b.length).toNat 0:=wrap_i64 ⟨by omega,by omega⟩
  simp -implicitDefEqProofs only[go_sem,h5,hr1,hr2,w1,w2]
  repeat(with_reducible apply And.intro;exact sO)
  rw[←ex]
  repeat(with_reducible apply And.intro;exact sO)
  refine Sg (mS b p) ((mS b p).tdiv 64) (by simp -implicitDefEqProofs only[go_sem]) (by simp -implicitDefEqProofs only[go_sem]) (by omega) (by omega) (by omega) (by omega) ?_
  refine sA ?_
  repeat(with_reducible apply And.intro;exact sO)
  refine aG [some 0] ?_ rfl rfl
  refine sA ?_
  rw[e]
theorem lL(b:List Int)(p:Int)(l:List Int)(hb:qz b)(h1:0≤p)(h2:p≤1000000000)(hl:l≠[])(hl2:l.length≤100):C E.P 194 [.ptr 0 0,lv (EJ l)] [some (mU b p)] (aO (iv (dI b p l)) [some (mU b (p+1))]):=by
 have hn:1≤l.length:=by cases l with|nil=>exact(hl rfl).elim|cons=>simp
 obtain⟨k,e,hk⟩:=nZ hb (p:=p) (n:=l.length) h1 hn
 have hL:(EJ l).length=l.length:=by simp[EJ,aJ]
 have hr:row (EJ l) k=[.val (.int .i64 (dI b p l))]:=by
  rw[EJ,uO hk,dI,e,Int.toNat_natCast,List.getD_eq_getElem?_getD,List.getElem?_eq_getElem hk]
  rfl
 refine gS (nt:=12) (rs:=[.tmp 4]) hm Tryz.func194 fun hl he hLB=>?_
 simp -implicitDefEqProofs only[go_sem,hL]
 refine oC [] [0] (gn b p l.length hb h1 h2) ?_
 rw[e]
 simp -implicitDefEqProofs only[go_sem,hL,hk,hr]
 refine aG [some 0] ?_ rfl rfl
 exact sC
theorem QU(b:List Int)(p:Int)(l:List gR)(hb:qz b)(h1:0≤p)(h2:p≤1000000000)(hl:l≠[])(hl2:l.length≤100):C E.P 193 [.ptr 0 0,lv (E4 l)] [some (mU b p)] (aO (sv (I5 b p l)) [some (mU b (p+1))]):=by
 have hn:1≤l.length:=by cases l with|nil=>exact(hl rfl).elim|cons=>simp
 obtain⟨k,e,hk⟩:=nZ hb (p:=p) (n:=l.length) h1 hn
 have hL:(E4 l).length=l.length:=by simp[E4,fF]
 have hr:row (E4 l) k=[.str (I5 b p l)]:=by
  rw[E4,Bp hk,I5,e,Int.toNat_natCast,List.getD_eq_getElem?_getD,List.getElem?_eq_getElem hk]
  rfl
 refine gS (nt:=12) (rs:=[.tmp 4]) hm Tryz.func193 fun hl he hLB=>?_
 simp -implicitDefEqProofs only[go_sem,hL]
 refine oC [] [0] (gn b p l.length hb h1 h2) ?_
 rw[e]
 simp -implicitDefEqProofs only[go_sem,hL,hk,hr]
 refine aG [some 0] ?_ rfl rfl
 exact sC
theorem xX(b:List Int)(hb:∀x∈b,0≤x∧x≤255)(hl9:b.length≤2000000):C E.P 78 [lv (JG b)] [] (aO (.ptr 0 0) [some (mU (b.take 2000) 0)]):=by
 refine gS (nt:=11) (rs:=[.tmp 2]) hm Tryz.func78 fun hl he hLB=>?_
 rcases Classical.em ((2000:Int)<(b.length:Int)) with h1|h1
 ·have h1n:2000≤b.length:=by omega
  have hall:∀y∈JG b,y.length=1:=by
   intro y hy
   obtain⟨x,_,rfl⟩:=List.mem_map.1 hy
   rfl
  simp -implicitDefEqProofs only[go_sem,Z3,Z4,h1]
  refine And.intro ⟨by omega,hall⟩ ?_
  refine aG [some 0] ?_ rfl rfl
  refine sA ?_
  simp[JG]
 ·have e:b.take 2000=b:=List.take_of_length_le (by omega)
  simp -implicitDefEqProofs only[go_sem,h1]
  refine aG [some 0] ?_ rfl rfl
  refine sA ?_
  rw[e]
theorem Qj{b:List Int}(hb:∀x∈b,0≤x∧x≤255):qz (b.take 2000):=⟨by rw[List.length_take];omega,fun x hx=>hb x (List.mem_of_mem_take hx)⟩
theorem As(k:Int):C E.P 195 [iv k] [] (aO (av (bF (sX k))) []):=by
 refine gS (nt:=47) (rs:=[.cell 2 25]) hm Tryz.func195 fun hl he hLB=>?_
 rcases Classical.em (k=0) with h0|h0
 ·have k0:=eq_true h0
  simp -implicitDefEqProofs only[go_sem,k0]
  refine ab ?_
  refine sA ?_
  rw[sX,if_pos h0]
  rfl
 rcases Classical.em (k=1) with h1|h1
 ·have k1:=eq_true h1
  simp -implicitDefEqProofs only[go_sem,h0,k1]
  refine ab ?_
  refine sA ?_
  rw[sX,if_neg h0,if_pos h1]
  rfl
 rcases Classical.em (k=2) with h2|h2
 ·have k2:=eq_true h2
  simp -implicitDefEqProofs only[go_sem,h0,h1,k2]
  refine ab ?_
  refine sA ?_
  rw[sX,if_neg h0,if_neg h1,if_pos h2]
  rfl
 rcases Classical.em (k=3) with h3|h3
 ·have k3:=eq_true h3
  simp -implicitDefEqProofs only[go_sem,h0,h1,h2,k3]
  refine ab ?_
  refine sA ?_
  rw[sX,if_neg h0,if_neg h1,if_neg h2,if_pos h3]
  rfl
 ·simp -implicitDefEqProofs only[go_sem,h0,h1,h2,h3]
  refine ab ?_
  refine sA ?_
  rw[sX,if_neg h0,if_neg h1,if_neg h2,if_neg h3]
  rfl
theorem CM(b:List Int)(p:Int)(hb:qz b)(h1:0≤p)(h2:p≤1000000000):C E.P 137 [.ptr 0 0] [some (mU b p)] (aO (av (bF (FN b p).1)) [some (mU b (FN b p).2)]):=by
 refine gS (nt:=7) (rs:=[.cell 2 25]) hm Tryz.func137 fun hl he hLB=>?_
 refine oC [] [0] (lL b p [0,0,1,1,2,3,1,4] hb h1 h2 (by simp) (by simp)) ?_
 refine aC [] (As (dI b p [0,0,1,1,2,3,1,4])) ?_
 refine aG [some 0] ?_ rfl rfl
 refine sA ?_
 exact⟨rfl,rfl⟩
def rj(s:bA)(sort:Int)(d i:Nat):List Sym:=(s.syms.take i).filter fun x=>decide (x.sort=sort)&&(decide (1<d)||decide (x.args.length=0))
theorem E0(s:bA)(sort:Int)(d i:Nat)(h:i<s.syms.length):rj s sort d (i+1)=rj s sort d i++(if decide (s.syms[i].sort=sort)&&(decide (1<d)||decide (s.syms[i].args.length=0)) then [s.syms[i]] else []):=by
 unfold rj
 rw[List.take_add_one,List.getElem?_eq_getElem h,List.filter_append]
 congr 1
 simp only[Option.toList_some,List.filter_cons,List.filter_nil]
theorem GX(s:bA)(sort:Int)(d i:Nat):(rj s sort d i).length≤i:=by
 refine Nat.le_trans (List.length_filter_le _ _) ?_
 rw[List.length_take]
 omega
theorem GL(s:bA)(sort:Int)(d i:Nat)(h:s.syms.length≤i):rj s sort d i=fU s sort d:=by
 unfold rj fU
 rw[List.take_of_length_le h]
theorem wX(b:List Int)(hb:qz b)(s:bA)(hs:bP s)(d:Nat)(sort p:Int)(h1:0≤p)(h2:p+2 ^ (d+1)≤1000000000)
 (ih:1≤d→∀(sort q:Int),0≤q→q+2 ^ d≤1000000000→C E.P 210 [.ptr 0 0,av (bF s),iv sort,iv d] [some (mU b q)] (aO (av (cT (cO b s d sort q).1)) [some (mU b (cO b s d sort q).2)])) :
 C E.P 210 [.ptr 0 0,av (bF s),iv sort,iv ((d:Int)+1)] [some (mU b p)] (aO (.agg [sv (cO b s (d+1) sort p).1.name,.acc 1]) [some (mU b (cO b s (d+1) sort p).2),some (.acc 35 (aj (cO b s (d+1) sort p).1.kids))]):=by
 obtain⟨hp,hp2⟩:=two_pow_pos d
 have hdl:(d:Int)<2 ^ d:=by
  have:=Nat.lt_two_pow_self (n:=d)
  have e:(2:Int) ^ d=((2 ^ d:Nat):Int):=by simp
  omega
 have hle:s.syms.length≤7:=hs.1
 obtain⟨ws,hws⟩:∃ws,fU s sort (d+1)=ws:=⟨_,rfl⟩
 have hwl:ws.length≤7:=by rw[←hws];exact Nat.le_trans (List.length_filter_le _ _) hle
 have hwm:=fun i=>nE (sort:=sort) (d:=d+1) (i:=i) hs
 rw[hws] at hwm
 have ea:cO b s (d+1) sort p=if ws.length=0 then(.mk [113] [],p) else(.mk (ws.getD (a6 b p ws.length).toNat ly).name (fJ (cO b s d) (ws.getD (a6 b p ws.length).toNat ly).args (p+1)).1,(fJ (cO b s d) (ws.getD (a6 b p ws.length).toNat ly).args (p+1)).2):=by rw[←hws];rfl
 refine gS (nt:=89) (rs:=[.cell 8 35]) hm Tryz.func210 fun hl he hLB=>?_
 refine au hm (fun(i:Nat)=> i≤s.syms.length) (fun(i:Nat)=> ⟨b9 89 .any [(0,.ptr 0 0),(2,iv sort),(3,iv ((d:Int)+1)),(5,.ptr 1 0),(8,.ptr 2 0),(9,.acc 3),(10,iv i)],[some (mU b p),some (.box (bn (bF s))),some (.box [sv [],.aK]),some (.acc 117 (cQ (rj s sort (d+1) i)))]⟩) (fun(i:Nat)=> s.syms.length-i) (0) ?_ (ah [some 0,some 1,some 2,some 3] ?_ ?_ rfl rfl) ?_
 rotate_left
 ·exact sC
 ·refine sA ?_
  all_goals(rfl)
 rotate_left
 ·omega
 ·rintro i hi
  have hfl:=GX s sort (d+1) i
  rcases Classical.em (i<s.syms.length) with h3|h3
  ·have e:=E0 s sort (d+1) i h3
   rcases Classical.em (s.syms[i].sort=sort) with h4|h4
   ·have k4:=eq_true h4
    rcases Classical.em (1<d+1) with h5|h5
    ·have h5':(1:Int)<(d:Int)+1:=by omega
     rw[if_pos (by simp[h4,h5])] at e
     simp -implicitDefEqProofs only[go_sem,h3,k4,h5']
     repeat(with_reducible apply And.intro;exact sO)
     refine⟨i+1,?_,?_,ah [some 0,some 1,some 2,some 4] ?_ ?_ rfl rfl⟩
     rotate_left
     ·show _ < _
      omega
     ·exact sC
     ·refine sA ?_
      all_goals((rw[e,←l6];rfl))
     omega
    ·have h5':¬ (1:Int)<(d:Int)+1:=by omega
     rcases Classical.em ((s.syms[i].args.length:Int)=0) with h6|h6
     ·have h6n:s.syms[i].args.length=0:=by omega
      have k6:=eq_true h6
      rw[if_pos (by simp[h4,h6n])] at e
      simp -implicitDefEqProofs only[go_sem,h3,k4,h5',k6]
      repeat(with_reducible apply And.intro;exact sO)
      refine⟨i+1,?_,?_,ah [some 0,some 1,some 2,some 4] ?_ ?_ rfl rfl⟩
      rotate_left
      ·show _ < _
       omega
      ·exact sC
      ·refine sA ?_
       all_goals((rw[e,←l6];rfl))
      omega
     ·have h6n:¬s.syms[i].args.length=0:=by omega
      rw[if_neg (by simp only[h5,h6n,decide_false,Bool.or_self,Bool.and_false];simp),List.append_nil] at e
      simp -implicitDefEqProofs only[go_sem,h3,k4,h5',h6]
      repeat(with_reducible apply And.intro;exact sO)
      refine⟨i+1,?_,?_,ah [some 0,some 1,some 2,some 3] ?_ ?_ rfl rfl⟩
      rotate_left
      ·show _ < _
       omega
      ·exact sC
      ·refine sA ?_
       all_goals((rw[e]))
      omega
   ·rw[if_neg (by simp[h4]),List.append_nil] at e
    simp -implicitDefEqProofs only[go_sem,h3,h4]
    repeat(with_reducible apply And.intro;exact sO)
    refine⟨i+1,?_,?_,ah [some 0,some 1,some 2,some 3] ?_ ?_ rfl rfl⟩
    rotate_left
    ·show _ < _
     omega
    ·exact sC
    ·refine sA ?_
     all_goals((rw[e]))
    omega
  ·rw[GL s sort (d+1) i (by omega),hws]
   rcases Classical.em (ws.length=0) with h4|h4
   ·have k4:((ws.length:Int)=0)=True:=eq_true (by omega)
    rw[if_pos h4] at ea
    simp -implicitDefEqProofs only[go_sem,h3,k4]
    refine aG [some 0,none] ?_ rfl rfl
    refine sA ?_
    rw[ea]
    exact⟨rfl,rfl,rfl⟩
   ·rw[if_neg h4] at ea
    obtain⟨k,ek,hk⟩:=nZ hb (p:=p) (n:=ws.length) h1 (by omega)
    have ex:ws.getD k ly=ws[k]:=by rw[List.getD_eq_getElem?_getD,List.getElem?_eq_getElem hk];rfl
    obtain⟨w1,w2⟩:=hwm k
    obtain⟨w3,w4⟩:=w2 hk
    rw[ex] at w1 w3 w4
    rw[ek,Int.toNat_natCast,ex] at ea
    have h4':¬ (ws.length:Int)=0:=by omega
    simp -implicitDefEqProofs only[go_sem,h3,h4']
    refine oC [] [0] (gn b p ws.length hb h1 (by omega)) ?_
    rw[ek]
    simp -implicitDefEqProofs only[go_sem,hk]
    rw[ea]
    generalize ws[k]=x at w1 w4⊢
    refine au hm (fun(i:Nat)=> i≤x.args.length) (fun(i:Nat)=> ⟨b9 89 .any [(0,.ptr 0 0),(3,iv ((d:Int)+1)),(5,.ptr 1 0),(8,.ptr 2 0),(11,.ptr 3 0),(12,.ptr 4 0),(13,iv i)],[some (mU b (fJ (cO b s d) (x.args.take i) (p+1)).2),some (.box (bn (bF s))),some (.box [sv [],.aK]),some (.box (bn (oV x))),some (.box [sv x.name,.acc 5]),some (.acc 35 (aj (fJ (cO b s d) (x.args.take i) (p+1)).1))]⟩) (fun(i:Nat)=> x.args.length-i) (0) ?_ (ah [some 0,some 1,some 2,some 4,some 5,none] ?_ ?_ rfl rfl) ?_
    rotate_left
    ·exact sC
    ·refine sA ?_
     all_goals(exact⟨rfl,rfl⟩)
    rotate_left
    ·omega
    ·rintro i hi
     have hq:=Hf (f:=cO b s d) (c:=2 ^ d-1) (fun a p=>yF hs d a p) (x.args.take i) (p+1)
     have hln:=tM (cO b s d) (x.args.take i) (p+1)
     rw[List.length_take] at hln
     rcases Classical.em (i<x.args.length) with h5|h5
     ·have hd:1≤d:=by
       rcases Nat.eq_zero_or_pos d with rfl|hd
       ·rw[w4 (Nat.le_refl 1)] at h5;simp at h5
       ·exact hd
      have hmul:(((x.args.take i).length:Nat):Int)*(2 ^ d-1)≤1*(2 ^ d-1):=Int.mul_le_mul_of_nonneg_right (by rw[List.length_take];omega) (by omega)
      have hc:=ih hd x.args[i] (fJ (cO b s d) (x.args.take i) (p+1)).2 (by omega) (by omega)
      have hst:=Kn (cO b s d) h5 (p+1)
      have hsub:((d:Int)+1-1)=(d:Int):=by omega
      have hrows:aj (fJ (cO b s d) (x.args.take i) (p+1)).1++[cT (cO b s d x.args[i] (fJ (cO b s d) (x.args.take i) (p+1)).2).1]=aj (fJ (cO b s d) (x.args.take (i+1)) (p+1)).1:=by
       rw[hst]
       exact(congrArg (aj (fJ (cO b s d) (x.args.take i) (p+1)).1 ++ ·) (bT _ _).symm).trans (fq _ [_])
      have hq2:(cO b s d x.args[i] (fJ (cO b s d) (x.args.take i) (p+1)).2).2=(fJ (cO b s d) (x.args.take (i+1)) (p+1)).2:=by rw[hst]
      simp -implicitDefEqProofs only[go_sem,h5,hsub]
      repeat(with_reducible apply And.intro;exact sO)
      refine oC [] [0] hc ?_
      repeat(with_reducible apply And.intro;exact sO)
      refine⟨i+1,?_,?_,ah [some 0,some 1,some 2,some 3,some 4,some 6] ?_ ?_ rfl rfl⟩
      rotate_left
      ·show _ < _
       omega
      ·exact sC
      ·refine sA ?_
       all_goals(exact⟨by rw[hq2],hrows⟩)
      omega
     ·have et:x.args.take i=x.args:=List.take_of_length_le (by omega)
      rw[et]
      simp -implicitDefEqProofs only[go_sem,h5]
      refine aG [some 0,some 5] ?_ rfl rfl
      exact sC
theorem kL(b:List Int)(hb:qz b)(s:bA)(hs:bP s):∀(d:Nat)(sort p:Int),1≤d→0≤p→p+2 ^ d≤1000000000 →
 C E.P 210 [.ptr 0 0,av (bF s),iv sort,iv d] [some (mU b p)] (aO (.agg [sv (cO b s d sort p).1.name,.acc 1]) [some (mU b (cO b s d sort p).2),some (.acc 35 (aj (cO b s d sort p).1.kids))])
 | 0,_,_,hd,_,_=>by omega
 | d+1,sort,p,_,h1,h2=>wX b hb s hs d sort p h1 h2 fun hd sort q g1 g2=>by
   refine(kL b hb s hs d sort q hd g1 g2).FL [some 0] ?_ rfl rfl
   refine sA ?_
   rfl
theorem j9(b:List Int)(hb:qz b)(s:bA)(hs:bP s)(d:Nat)(sort p:Int)(hd:1≤d)(h1:0≤p)(h2:p+2 ^ d≤1000000000) :
 C E.P 210 [.ptr 0 0,av (bF s),iv sort,iv d] [some (mU b p)] (aO (av (cT (cO b s d sort p).1)) [some (mU b (cO b s d sort p).2)]):=by
 refine(kL b hb s hs d sort p hd h1 h2).FL [some 0] ?_ rfl rfl
 refine sA ?_
 rfl
theorem JW(b:List Int){s:bA}(hs:bP s)(d:Nat)(sort p:Int):(cO b s d sort p).1.kids.length≤2:=by
 cases d with
 | zero=>simp[cO,Term.kids]
 | succ d=>
   unfold cO
   split
   ·simp[Term.kids]
   ·simp only[Term.kids,tM]
    exact(nE hs).1
end Go.Proofs.YtpidddienjoleaaGreat
namespace Go.Proofs.YtpidddienjoleaaGreat
open Go.Eng Go.Mod
open Int renaming reduceEq→Z1,reduceLT→Z2,reduceLE→Z3,reduceToNat→Z4
set_option maxRecDepth 100000
set_option maxHeartbeats 800000
theorem F4{t:Term}{n:Int}{us:List Term}{ks:List Int}{d:Bool}{i:Nat}(h1:i<us.length)(h2:i<ks.length):eW t n (us.drop i) (ks.drop i) d =
 ((if !d&& !cR (ak us[i]) (ak t) then [t] else [])++((if decide (ak us[i]≠ak t) then [us[i]] else [])++(eW t n (us.drop (i+1)) (ks.drop (i+1)) (d||(!d&& !cR (ak us[i]) (ak t)))).1),
  (if !d&& !cR (ak us[i]) (ak t) then [n] else [])++((if decide (ak us[i]≠ak t) then [ks[i]] else [])++(eW t n (us.drop (i+1)) (ks.drop (i+1)) (d||(!d&& !cR (ak us[i]) (ak t)))).2)):=by
 rw[List.drop_eq_getElem_cons h1,List.drop_eq_getElem_cons h2]
 rfl
theorem JV{t:Term}{n:Int}{us:List Term}{ks:List Int}{d:Bool}{i:Nat}(h1:us.length≤i):eW t n (us.drop i) (ks.drop i) d=if d then([],[]) else([t],[n]):=by
 rw[List.drop_of_length_le h1]
 rfl
theorem iO(us:List Term)(t:Term):aj us++[[D.str t.name,D.bx (aj t.kids)]]=aj (us++[t]):=by rw[←fq,bT,fx];rfl
theorem kO(us:List Int)(n:Int):aJ us++[[D.val (Value.int .i64 n)]]=aJ (us++[n]):=by rw[←cm];rfl
theorem zL(k:Int)(nums:List Term)(times:List Int)(bd:Int)(st:Bool)(t:Term)(n:Int)(hl:nums.length=times.length)(hl9:nums.length≤1000)(hsh:∀u∈nums,aB u 4=true)(ht:aB t 4=true) :
 C E.P 244 [.agg [iv k,sv [],.aK,sv [],.aK,.acc 0,.acc 1,iv bd,bv st],av (cT t),iv n] [some (.acc 35 (aj nums)),some (.acc 3 (aJ times))] (aO (.agg [iv k,sv [],.aK,sv [],.aK,.acc 2,.acc 3,iv bd,bv st]) [some (.acc 35 (aj nums)),some (.acc 3 (aJ times)),some (.acc 35 (aj (eW t n nums times false).1)),some (.acc 3 (aJ (eW t n nums times false).2))]):=by
 refine gS (nt:=90) (rs:=[.cell 6 46]) hm Tryz.func244 fun hl he hLB=>?_
 refine ie hm (fun(i:Nat) (dn:Bool) (uk:List Term×List Int)=> i≤nums.length∧uk.1.length≤2*i∧uk.2.length≤2*i∧eW t n nums times false=(uk.1++(eW t n (nums.drop i) (times.drop i) dn).1,uk.2++(eW t n (nums.drop i) (times.drop i) dn).2)) (fun(i:Nat) (dn:Bool) (uk:List Term×List Int)=> ⟨b9 90 .any [(2,iv n),(3,.ptr 2 0),(4,.ptr 3 0),(6,.ptr 4 0),(7,.ptr 5 0),(8,bv dn),(9,iv i)],[some (.acc 35 (aj nums)),some (.acc 3 (aJ times)),some (.box [iv k,sv [],.aK,sv [],.aK,.acc 0,.acc 1,iv bd,bv st]),some (.box (bn (cT t))),some (.box [iv 0,sv [],.aK,sv [],.aK,.aK,.aK,iv 0,bv false]),some (.box [iv k,sv [],.aK,sv [],.aK,.acc 6,.acc 7,iv bd,bv st]),some (.acc 35 (aj uk.1)),some (.acc 3 (aJ uk.2))]⟩) (fun(i:Nat) (dn:Bool) (uk:List Term×List Int)=> nums.length-i) (0) (false) (([],[])) ?_ (ah [some 0,some 1,some 2,some 3,some 4,some 5,none,none] ?_ ?_ rfl rfl) ?_
 rotate_left
 ·exact sC
 ·exact sC
 rotate_left
 ·exact⟨Nat.zero_le _,by simp,by simp,by simp⟩
 ·rintro i dn ⟨us,ks⟩ ⟨hi,b1,b2,hg⟩
  simp only at b1 b2 hg⊢
  rcases Classical.em (i<nums.length) with h3|h3
  ·have h4:i<times.length:=by omega
   rw[F4 h3 h4] at hg
   simp -implicitDefEqProofs only[go_sem,h3]
   refine aC [] (fv nums[i] 4 (Nat.le_refl _) (hsh _ (List.getElem_mem h3))) ?_
   cases dn
   ·refine sA ?_
    refine aC [] (fv t 4 (Nat.le_refl _) ht) ?_
    cases h5:Op.bytesLess (ak nums[i]) (ak t)
    ·have h5':cR (ak nums[i]) (ak t)=false:=h5
     simp only[h5',Bool.not_false,Bool.and_self,if_true,Bool.or_true] at hg
     obtain⟨us',hus⟩:∃z,us++[t]=z:=⟨_,rfl⟩
     obtain⟨ks',hks⟩:∃z,ks++[n]=z:=⟨_,rfl⟩
     have eT:=iO us t
     have eI:=kO ks n
     have lT:us'.length=us.length+1:=by rw[←hus];simp
     have lI:ks'.length=ks.length+1:=by rw[←hks];simp
     rw[hus] at eT
     rw[hks] at eI
     rw[←List.append_assoc us,hus,←List.append_assoc ks,hks] at hg
     refine sA ?_
     repeat(with_reducible apply And.intro;exact sO)
     simp -implicitDefEqProofs only[go_sem,eT,eI]
     refine aC [] (fv t 4 (Nat.le_refl _) ht) ?_
     rcases Classical.em (ak nums[i]=ak t) with h7|h7
     ·have k7:=eq_true h7
      rw[decide_eq_false (fun h=>h h7)] at hg
      simp only[Bool.false_eq_true,if_false,List.nil_append] at hg
      simp -implicitDefEqProofs only[go_sem,k7]
      repeat(with_reducible apply And.intro;exact sO)
      refine⟨i+1,true,(us',ks'),?_,?_,ah [some 0,some 1,some 2,some 3,some 4,some 5,some 8,some 9] ?_ ?_ rfl rfl⟩
      rotate_left
      ·show _ < _
       omega
      ·exact sC
      ·exact sC
      exact⟨h3,by dsimp only;omega,by dsimp only;omega,hg⟩
     ·rw[decide_eq_true h7] at hg
      simp only[if_true] at hg
      have eo:=iO us' nums[i]
      have ep:=kO ks' times[i]
      simp -implicitDefEqProofs only[go_sem,h7,h3,h4]
      repeat(with_reducible apply And.intro;exact sO)
      refine⟨i+1,true,(us'++[nums[i]],ks'++[times[i]]),?_,?_,ah [some 0,some 1,some 2,some 3,some 4,some 5,some 10,some 11] ?_ ?_ rfl rfl⟩
      rotate_left
      ·show _ < _
       omega
      ·exact sC
      ·refine sA ?_
       all_goals(exact⟨eo,ep⟩)
      exact⟨h3,by simp;omega,by simp;omega,by simpa using hg⟩
    ·have h5':cR (ak nums[i]) (ak t)=true:=h5
     simp only[h5',Bool.not_true,Bool.and_false,Bool.false_eq_true,if_false,Bool.or_false,List.nil_append] at hg
     refine sA ?_
     refine aC [] (fv t 4 (Nat.le_refl _) ht) ?_
     rcases Classical.em (ak nums[i]=ak t) with h7|h7
     ·have k7:=eq_true h7
      rw[decide_eq_false (fun h=>h h7)] at hg
      simp only[Bool.false_eq_true,if_false,List.nil_append] at hg
      simp -implicitDefEqProofs only[go_sem,k7]
      repeat(with_reducible apply And.intro;exact sO)
      refine⟨i+1,false,(us,ks),?_,?_,ah [some 0,some 1,some 2,some 3,some 4,some 5,some 6,some 7] ?_ ?_ rfl rfl⟩
      rotate_left
      ·show _ < _
       omega
      ·exact sC
      ·exact sC
      exact⟨h3,by dsimp only;omega,by dsimp only;omega,hg⟩
     ·rw[decide_eq_true h7] at hg
      simp only[if_true] at hg
      have eo:=iO us nums[i]
      have ep:=kO ks times[i]
      simp -implicitDefEqProofs only[go_sem,h7,h3,h4]
      repeat(with_reducible apply And.intro;exact sO)
      refine⟨i+1,false,(us++[nums[i]],ks++[times[i]]),?_,?_,ah [some 0,some 1,some 2,some 3,some 4,some 5,some 8,some 9] ?_ ?_ rfl rfl⟩
      rotate_left
      ·show _ < _
       omega
      ·exact sC
      ·refine sA ?_
       all_goals(exact⟨eo,ep⟩)
      exact⟨h3,by simp;omega,by simp;omega,by simpa using hg⟩
   ·simp only[Bool.not_true,Bool.false_and,Bool.false_eq_true,if_false,Bool.true_or,List.nil_append] at hg
    refine sA ?_
    refine aC [] (fv t 4 (Nat.le_refl _) ht) ?_
    rcases Classical.em (ak nums[i]=ak t) with h7|h7
    ·have k7:=eq_true h7
     rw[decide_eq_false (fun h=>h h7)] at hg
     simp only[Bool.false_eq_true,if_false,List.nil_append] at hg
     simp -implicitDefEqProofs only[go_sem,k7]
     repeat(with_reducible apply And.intro;exact sO)
     refine⟨i+1,true,(us,ks),?_,?_,ah [some 0,some 1,some 2,some 3,some 4,some 5,some 6,some 7] ?_ ?_ rfl rfl⟩
     rotate_left
     ·show _ < _
      omega
     ·exact sC
     ·exact sC
     exact⟨h3,by dsimp only;omega,by dsimp only;omega,hg⟩
    ·rw[decide_eq_true h7] at hg
     simp only[if_true] at hg
     have eo:=iO us nums[i]
     have ep:=kO ks times[i]
     simp -implicitDefEqProofs only[go_sem,h7,h3,h4]
     repeat(with_reducible apply And.intro;exact sO)
     refine⟨i+1,true,(us++[nums[i]],ks++[times[i]]),?_,?_,ah [some 0,some 1,some 2,some 3,some 4,some 5,some 8,some 9] ?_ ?_ rfl rfl⟩
     rotate_left
     ·show _ < _
      omega
     ·exact sC
     ·refine sA ?_
      all_goals(exact⟨eo,ep⟩)
     exact⟨h3,by simp;omega,by simp;omega,by simpa using hg⟩
  ·rw[JV (by omega)] at hg
   rw[hg]
   cases dn
   ·simp -implicitDefEqProofs only[go_sem,h3]
    repeat(with_reducible apply And.intro;exact sO)
    refine aG [some 0,some 1,some 8,some 9] ?_ rfl rfl
    refine sA ?_
    exact⟨iO _ _,kO _ _⟩
   ·simp -implicitDefEqProofs only[go_sem,h3]
    refine aG [some 0,some 1,some 6,some 7] ?_ rfl rfl
    exact sC
theorem Mv{b:List Int}(hb:qz b){p:Int}(h1:0≤p){l:List Int}(hl:l≠[])(hd:∀x∈l,1≤x∧x≤4):∃d:Nat,dI b p l=d∧1≤d∧d≤4∧(2:Int) ^ d≤16:=by
 obtain⟨d,e,h2,h3⟩:=qa hb h1 hl hd
 refine⟨d,e,h2,h3,?_⟩
 have:=Nat.pow_le_pow_right (n:=2) (by omega) h3
 have e:(2:Int) ^ d=((2 ^ d:Nat):Int):=by simp
 omega
theorem pJ(b:List Int)(hb:qz b)(s:bA)(hs:bP s)(p:Int)(h1:0≤p)(h2:p≤900000000) :
 C E.P 208 [.ptr 0 0,av (bF s)] [some (mU b p)] (aO (.agg [iv (gI b s p).1.kind,sv (gI b s p).1.A.name,lv (aj (gI b s p).1.A.kids),sv (gI b s p).1.B.name,lv (aj (gI b s p).1.B.kids),.acc 1,.acc 2,iv (gI b s p).1.bound,bv (gI b s p).1.strict])
   [some (mU b (gI b s p).2),some (.acc 35 (aj (gI b s p).1.nums)),some (.acc 3 (aJ (gI b s p).1.times))]):=by
 obtain⟨y,e0⟩:∃y,gI b s p=y:=⟨_,rfl⟩
 have ea:=e0
 unfold gI at ea
 rcases Classical.em (a6 b p 2=0) with c0|c0
 ·have k0:=eq_true c0
  rw[if_pos c0] at ea
  obtain⟨d1,ed1,d11,d12,d13⟩:=Mv hb (p:=p+2) (by omega) (l:=[1,2]) (by simp) (by decide)
  simp only[ed1,Int.toNat_natCast] at ea
  have x1:=j9 b hb s hs d1 (a6 b (p+1) 2) (p+3) d11 (by omega) (by omega)
  have x2:=tH (b:=b) hs (d:=d1) (by omega) (a6 b (p+1) 2) (p+3)
  obtain⟨x,hx⟩:∃x,cO b s d1 (a6 b (p+1) 2) (p+3)=x:=⟨_,rfl⟩
  rw[hx] at ea x1 x2
  obtain⟨d2,ed2,d21,d22,d23⟩:=Mv hb (p:=x.2) (by omega) (l:=[1,1,2]) (by simp) (by decide)
  simp only[ed2,Int.toNat_natCast] at ea
  have y1:=j9 b hb s hs d2 (a6 b (p+1) 2) (x.2+1) d21 (by omega) (by omega)
  rw[e0,←ea]
  have q2:p+1+1=p+2:=by omega
  have q3:p+2+1=p+3:=by omega
  refine gS (nt:=54) (rs:=[.cell 4 46]) hm Tryz.func208 fun hl he hLB=>?_
  refine cz [] [0] (gn b p 2 hb h1 (by omega)) ?_ ?_<;>simp -implicitDefEqProofs only[go_sem,k0]
  refine cz [] [0] (gn b (p+1) 2 hb (by omega) (by omega)) ?_ ?_<;>simp -implicitDefEqProofs only[go_sem,q2]
  refine cz [] [0] (lL b (p+2) [1,2] hb (by omega) (by omega) (by simp) (by simp)) ?_ ?_<;>simp -implicitDefEqProofs only[go_sem,ed1,q3]
  refine oC [] [0] x1 ?_
  refine cz [] [0] (lL b x.2 [1,1,2] hb (by omega) (by omega) (by simp) (by simp)) ?_ ?_<;>simp -implicitDefEqProofs only[go_sem,ed2]
  refine oC [] [0] y1 ?_
  refine iK ?_
  refine aG [some 0,none,none] ?_ rfl rfl
  exact sC
 ·rw[if_neg c0] at ea
  obtain⟨N,eN,n1,n2⟩:=qa hb (p:=p+3) (by omega) (l:=[1,2,2,3]) (by simp) (by decide)
  simp only[eN,Int.toNat_natCast] at ea
  obtain⟨bd,hbd⟩:∃x,dI b (p+1) [0,1,-1,2,3,-4]=x:=⟨_,rfl⟩
  obtain⟨sb,hsb⟩:∃x,decide (a6 b (p+2) 3=0)=x:=⟨_,rfl⟩
  rw[hbd,hsb] at ea
  rw[e0,←ea]
  have q2:p+1+1=p+2:=by omega
  have q3:p+2+1=p+3:=by omega
  have q4:p+3+1=p+4:=by omega
  refine gS (nt:=54) (rs:=[.cell 4 46]) hm Tryz.func208 fun hl he hLB=>?_
  refine cz [] [0] (gn b p 2 hb h1 (by omega)) ?_ ?_<;>simp -implicitDefEqProofs only[go_sem,c0]
  refine cz [] [0] (lL b (p+1) [0,1,-1,2,3,-4] hb (by omega) (by omega) (by simp) (by simp)) ?_ ?_<;>simp -implicitDefEqProofs only[go_sem,hbd,q2]
  refine cz [] [0] (gn b (p+2) 3 hb (by omega) (by omega)) ?_ ?_<;>simp -implicitDefEqProofs only[go_sem,q3,hsb]
  refine cz [] [0] (lL b (p+3) [1,2,2,3] hb (by omega) (by omega) (by simp) (by simp)) ?_ ?_<;>simp -implicitDefEqProofs only[go_sem,eN,q4]
  refine ie hm (fun(j:Nat) (q:Int) (uk:List Term×List Int)=> j≤N∧0≤q∧q≤p+4+(N-j)*17∧ma (N-j) ⟨2,ao,ao,uk.1,uk.2,bd,sb⟩∧mO (fa b s) N ⟨2,ao,ao,[],[],bd,sb⟩ (p+4)=mO (fa b s) j ⟨2,ao,ao,uk.1,uk.2,bd,sb⟩ q) (fun(j:Nat) (q:Int) (uk:List Term×List Int)=> ⟨b9 54 .any [(0,.ptr 0 0),(3,.ptr 1 0),(4,.ptr 2 0),(6,.ptr 3 0),(7,iv j)],[some (mU b q),some (.box (bn (bF s))),some (.box [iv 0,sv [],.aK,sv [],.aK,.aK,.aK,iv 0,bv false]),some (.box [iv 2,sv [],.aK,sv [],.aK,.acc 4,.acc 5,iv bd,bv sb]),some (.acc 35 (aj uk.1)),some (.acc 3 (aJ uk.2))]⟩) (fun(j:Nat) (q:Int) (uk:List Term×List Int)=> j) (N) (p+4) (([],[])) ?_ (ah [some 0,some 1,some 2,some 3,none,none] ?_ ?_ rfl rfl) ?_
  rotate_left
  ·exact sC
  ·exact sC
  rotate_left
  ·exact⟨Nat.le_refl _,by omega,by omega,⟨rfl,by simp,by simp⟩,rfl⟩
  ·rintro j q ⟨us,ks⟩ ⟨hj,hq1,hq2,hf,hg⟩
   simp only at hf hg⊢
   rcases Classical.em ((0:Int)<(j:Int)) with h3|h3
   ·obtain⟨j,rfl⟩:∃j',j=j'+1:=⟨j-1,by omega⟩
    have hfew:us.length≤N-(j+1):=hf.SF
    have hlen:us.length=ks.length:=hf.len
    obtain⟨d1,ed1,d11,d12,d13⟩:=Mv hb (p:=q) hq1 (l:=[1,1,2]) (by simp) (by decide)
    have x1:=j9 b hb s hs d1 1 (q+1) d11 (by omega) (by omega)
    have x2:=tH (b:=b) hs (d:=d1) (by omega) 1 (q+1)
    have x3:=rG hb hs d1 1 (q+1) (by omega) d11
    have sf:=tW hb hs (m:=N-(j+1)) (p:=q) hq1 hf
    have sb2:=Bc hb hs (a:=⟨2,ao,ao,us,ks,bd,sb⟩) (p:=q) hq1
    rw[mO] at hg
    have est:fa b s ⟨2,ao,ao,us,ks,bd,sb⟩ q=(⟨2,ao,ao,(eW (cO b s d1 1 (q+1)).1 (dI b (cO b s d1 1 (q+1)).2 [1,-1,1,-1,2,-2]) us ks false).1,(eW (cO b s d1 1 (q+1)).1 (dI b (cO b s d1 1 (q+1)).2 [1,-1,1,-1,2,-2]) us ks false).2,bd,sb⟩,(cO b s d1 1 (q+1)).2+1):=by
     simp only[fa,ed1,Int.toNat_natCast,OK]
    rw[est] at hg sf sb2
    simp only at hg sf sb2
    obtain⟨x,hx⟩:∃x,cO b s d1 1 (q+1)=x:=⟨_,rfl⟩
    rw[hx] at x1 x2 x3 hg sf sb2
    have hput:=zL 2 us ks bd sb x.1 (dI b x.2 [1,-1,1,-1,2,-2]) hlen (by omega) hf.sh (Bu d12 x3)
    have hjs:((j:Int)+1-1)=(j:Int):=by omega
    have h3:(0:Int)<(j:Int)+1:=by omega
    simp -implicitDefEqProofs only[go_sem,h3]
    refine cz [] [0] (lL b q [1,1,2] hb hq1 (by omega) (by simp) (by simp)) ?_ ?_<;>simp -implicitDefEqProofs only[go_sem,ed1]
    refine oC [] [0] x1 ?_
    refine oC [] [0] (lL b x.2 [1,-1,1,-1,2,-2] hb (by omega) (by omega) (by simp) (by simp)) ?_
    refine cz [] [4,5,6,7] hput ?_ ?_
    ·refine sA ?_
     first|rfl|((repeat' apply And.intro)<;>rfl)
    refine sA ?_
    refine iK ?_
    repeat(with_reducible apply And.intro;exact sO)
    simp -implicitDefEqProofs only[go_sem,hjs]
    refine⟨j,x.2+1,(eW x.1 (dI b x.2 [1,-1,1,-1,2,-2]) us ks false),?_,?_,ah [some 0,some 1,some 2,some 3,some 6,some 7] ?_ ?_ rfl rfl⟩
    rotate_left
    ·show _ < _
     omega
    ·exact sC
    ·exact sC
    refine⟨by omega,by omega,by omega,?_,hg⟩
    have e:N-(j+1)+1=N-j:=by omega
    rw[e] at sf
    exact sf
   ·obtain rfl:j=0:=by omega
    rw[mO] at hg
    rw[hg]
    simp -implicitDefEqProofs only[go_sem,Z2]
    refine aG [some 0,some 4,some 5] ?_ rfl rfl
    exact sC
theorem CV(b:List Int)(hb:qz b)(s:bA)(hs:bP s)(p:Int)(h1:0≤p)(h2:p≤900000000) :
 C E.P 208 [.ptr 0 0,av (bF s)] [some (mU b p)] (aO (av (gr (gI b s p).1)) [some (mU b (gI b s p).2)]):=by
 refine(pJ b hb s hs p h1 h2).FL [some 0] ?_ rfl rfl
 refine sA ?_
 exact⟨rfl,rfl⟩
end Go.Proofs.YtpidddienjoleaaGreat
