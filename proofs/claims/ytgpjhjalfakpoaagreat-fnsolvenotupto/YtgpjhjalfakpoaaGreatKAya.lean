/-
  The reference: the walks of what is drawn: numbers, words, terms. A step towards the laws.
-/
import Derived.Test.YtgpjhjalfakpoaaGreatKAI
import Derived.Test.YtgpjhjalfakpoaaGreatKAEb
set_option linter.unusedVariables false
set_option linter.unusedSimpArgs false
open And renaming intro→aH
open Bool renaming false_eq_true→ak,and_false→fa,not_true→fF
open Classical renaming em→aa
open Int renaming toNat_natCast→aF,tmod_lt_of_pos→iU,tmod_nonneg→kK
open List renaming getElem?_eq_getElem→ab,drop_eq_getElem_cons→af,take_of_length_le→ao,getD_eq_getElem?_getD→az,length_take→aO,append_assoc→bf,nil_append→bx,append_nil→bz,length_filter_le→gP
open Nat renaming le_refl→au,le_trans→dX
namespace Go.Proofs.YtgpjhjalfakpoaaGreat
open Go.Eng Go.Mod
open Int renaming reduceEq→Z1,reduceLT→Z2,reduceLE→Z3,reduceToNat→Z4
set_option maxRecDepth 100000
set_option maxHeartbeats 800000
def lq(b:List Int)(p:Int):En:=.box [lv (Gx b),iv p]
def Cr(l:List Int):List (List D):=aL l
def Cz(l:List lp):List (List D):=gU l
theorem Hu:Cr []=[]:=rfl
theorem Fy(n:Int)(l:List Int):Cr (n::l)=[.val (.int .i64 n)]::Cr l:=rfl
theorem Hq:Cz []=[]:=rfl
theorem FG(n:lp)(l:List lp):Cz (n::l)=[.str n]::Cz l:=rfl
attribute [go_sem] lq Hu Fy Hq FG
theorem K3(b:List Int):(Gx b).length=b.length:=by simp[Gx]
theorem Kg{b:List Int}{i:Nat}(h:i<b.length):row (Gx b) i=[.val (.int .u8 b[i])]:=by simp[Gx,row,List.getD,ab h]
attribute [go_sem] K3
theorem xR{b:List Int}{i:Nat}(h:i<b.length):row (Gx b) i=[.val (.int .u8 (b.getD i 0))]:=by rw[Kg h,az,ab h];rfl
theorem fD(b:List Int)(p n:Int)(hb:oa b)(h1:0≤p)(h2:p≤1000000000):C E.P 36 [.ptr 0 0,iv n] [some (lq b p)] (bB (iv (bF b p n)) [some (lq b (p+1))]):=by
 have hb1:=hb.len
 refine gS (nt:=99) (rs:=[.tmp 4]) hm Tryz.func36 fun hl he cx=>?_
 refine sQ ?_
 rcases aa (n<1) with h3|h3
 ·have e:bF b p n=0:=by rw[bF,if_pos h3]
  refine uC ?_
  refine bu [some 0] ?_ rfl rfl
  refine sA ?_
  rw[e]
 rcases aa (b.length=0) with h4|h4
 ·have e:bF b p n=0:=by rw[bF,if_neg h3,if_pos h4]
  have k4:((b.length:Int)=0)=True:=eq_true (by omega)
  simp -implicitDefEqProofs only[go_sem,h3,k4]
  refine bu [some 0] ?_ rfl rfl
  refine sA ?_
  rw[e]
 have h4':¬ (b.length:Int)=0:=by omega
 have q1:p+1-1=p:=by omega
 simp -implicitDefEqProofs only[go_sem,h3,h4',q1]
 rcases aa (p<b.length) with h5|h5
 ·have e:bF b p n=(b.getD p.toNat 0).tmod n:=by rw[bF,if_neg h3,if_neg h4,if_pos h5]
  have hl:p.toNat<b.length:=by omega
  have hg:=hb.getD p.toNat
  have hr:=xR hl
  have w0:IntKind.i64.wrap (b.getD p.toNat 0)=b.getD p.toNat 0:=wrap_i64 ⟨by omega,by omega⟩
  simp -implicitDefEqProofs only[go_sem,h5,hr,w0]
  refine sQ ?_
  refine bu [some 0] ?_ rfl rfl
  refine sA ?_
  rw[e]
 ·have e:bF b p n=(Bw (mV b p) ((mV b p).tdiv 64)).tmod n:=by rw[bF,if_neg h3,if_neg h4,if_neg h5]
  obtain⟨x1,x2,x3,x4⟩:=JC hb h1 h2 h4
  have m1:0≤p.tmod b.length∧p.tmod b.length<b.length:=⟨kK _ h1,iU _ (by omega)⟩
  have m2:0≤(p*7+3).tmod b.length∧(p*7+3).tmod b.length<b.length:=⟨kK _ (by omega),iU _ (by omega)⟩
  have l1:(p.tmod b.length).toNat<b.length:=by omega
  have l2:((p*7+3).tmod b.length).toNat<b.length:=by omega
  have hr1:=xR l1
  have hr2:=xR l2
  have g1:=hb.getD (p.tmod b.length).toNat
  have g2:=hb.getD ((p*7+3).tmod b.length).toNat
  have d1:0≤(mV b p).tdiv 64∧(mV b p).tdiv 64≤mV b p:=by
   rw[Int.tdiv_eq_ediv_of_nonneg x3]
   omega
  have ex:mV b p=b.getD (p.tmod b.length).toNat 0*131+b.getD ((p*7+3).tmod b.length).toNat 0*1117+p*29+p.tdiv b.length*53:=rfl
  have w1:IntKind.i64.wrap (b.getD (p.tmod b.length).toNat 0)=b.getD (p.tmod b.length).toNat 0:=wrap_i64 ⟨by omega,by omega⟩
  have w2:IntKind.i64.wrap (b.getD ((p*7+3).tmod b.length).toNat 0)=b.getD ((p*7+3).tmod b.length).toNat 0:=wrap_i64 ⟨by omega,by omega⟩
  simp -implicitDefEqProofs only[go_sem,h5,hr1,hr2,w1,w2]
  refine sQ ?_
  rw[←ex]
  refine sQ ?_
  refine NB (mV b p) ((mV b p).tdiv 64) (by simp -implicitDefEqProofs only[go_sem]) (by simp -implicitDefEqProofs only[go_sem]) (by omega) (by omega) (by omega) (by omega) ?_
  refine sA ?_
  refine sQ ?_
  refine bu [some 0] ?_ rfl rfl
  refine sA ?_
  rw[e]
theorem kj(b:List Int)(p:Int)(l:List Int)(hb:oa b)(h1:0≤p)(h2:p≤1000000000)(hl:l≠[])(hl2:l.length≤100):C E.P 37 [.ptr 0 0,lv (Cr l)] [some (lq b p)] (bB (iv (eV b p l)) [some (lq b (p+1))]):=by
 have hn:1≤l.length:=by cases l with|nil=>exact(hl rfl).elim|cons=>simp
 obtain⟨k,e,hk⟩:=kV hb (p:=p) (n:=l.length) h1 hn
 have hL:(Cr l).length=l.length:=by simp[Cr,aL]
 have hr:row (Cr l) k=[.val (.int .i64 (eV b p l))]:=by
  rw[Cr,s9 hk,eV,e,aF,az,ab hk]
  rfl
 refine gS (nt:=12) (rs:=[.tmp 4]) hm Tryz.func37 fun hl he cx=>?_
 simp -implicitDefEqProofs only[go_sem,hL]
 refine oC [] [0] (fD b p l.length hb h1 h2) ?_
 rw[e]
 simp -implicitDefEqProofs only[go_sem,hL,hk,hr]
 refine bu [some 0] ?_ rfl rfl
 exact sC
theorem Ms(b:List Int)(p:Int)(l:List lp)(hb:oa b)(h1:0≤p)(h2:p≤1000000000)(hl:l≠[])(hl2:l.length≤100):C E.P 73 [.ptr 0 0,lv (Cz l)] [some (lq b p)] (bB (sv (ED b p l)) [some (lq b (p+1))]):=by
 have hn:1≤l.length:=by cases l with|nil=>exact(hl rfl).elim|cons=>simp
 obtain⟨k,e,hk⟩:=kV hb (p:=p) (n:=l.length) h1 hn
 have hL:(Cz l).length=l.length:=by simp[Cz,gU]
 have hr:row (Cz l) k=[.str (ED b p l)]:=by
  rw[Cz,zu hk,ED,e,aF,az,ab hk]
  rfl
 refine gS (nt:=12) (rs:=[.tmp 4]) hm Tryz.func73 fun hl he cx=>?_
 simp -implicitDefEqProofs only[go_sem,hL]
 refine oC [] [0] (fD b p l.length hb h1 h2) ?_
 rw[e]
 simp -implicitDefEqProofs only[go_sem,hL,hk,hr]
 refine bu [some 0] ?_ rfl rfl
 exact sC
theorem xr(b:List Int)(hb:∀x∈b,0≤x∧x≤255)(yV:b.length≤2000000):C E.P 14 [lv (Gx b)] [] (bB (.ptr 0 0) [some (lq (b.take 2000) 0)]):=by
 refine gS (nt:=11) (rs:=[.tmp 2]) hm Tryz.func14 fun hl he cx=>?_
 rcases aa ((2000:Int)<(b.length:Int)) with h1|h1
 ·have h1n:2000≤b.length:=by omega
  have pa:∀y∈Gx b,y.length=1:=by
   intro y hy
   obtain⟨x,_,rfl⟩:=List.mem_map.1 hy
   rfl
  simp -implicitDefEqProofs only[go_sem,Z3,Z4,h1]
  refine aH ⟨by omega,pa⟩ ?_
  refine bu [some 0] ?_ rfl rfl
  refine sA ?_
  simp[Gx]
 ·have e:b.take 2000=b:=ao (by omega)
  refine uA ?_
  refine bu [some 0] ?_ rfl rfl
  refine sA ?_
  rw[e]
theorem My{b:List Int}(hb:∀x∈b,0≤x∧x≤255):oa (b.take 2000):=⟨by rw[aO];omega,fun x hx=>hb x (List.mem_of_mem_take hx)⟩
theorem yK(k:Int):C E.P 124 [iv k] [] (bB (av (c8 (rm k))) []):=by
 refine gS (nt:=47) (rs:=[.cell 2 25]) hm Tryz.func124 fun hl he cx=>?_
 rcases aa (k=0) with h0|h0
 ·have k0:=eq_true h0
  refine uH ?_
  refine al ?_
  refine sA ?_
  rw[rm,if_pos h0]
  rfl
 rcases aa (k=1) with h1|h1
 ·have k1:=eq_true h1
  simp -implicitDefEqProofs only[go_sem,h0,k1]
  refine al ?_
  refine sA ?_
  rw[rm,if_neg h0,if_pos h1]
  rfl
 rcases aa (k=2) with h2|h2
 ·have k2:=eq_true h2
  simp -implicitDefEqProofs only[go_sem,h0,h1,k2]
  refine al ?_
  refine sA ?_
  rw[rm,if_neg h0,if_neg h1,if_pos h2]
  rfl
 rcases aa (k=3) with h3|h3
 ·have k3:=eq_true h3
  simp -implicitDefEqProofs only[go_sem,h0,h1,h2,k3]
  refine al ?_
  refine sA ?_
  rw[rm,if_neg h0,if_neg h1,if_neg h2,if_pos h3]
  rfl
 ·simp -implicitDefEqProofs only[go_sem,h0,h1,h2,h3]
  refine al ?_
  refine sA ?_
  rw[rm,if_neg h0,if_neg h1,if_neg h2,if_neg h3]
  rfl
theorem AO(b:List Int)(p:Int)(hb:oa b)(h1:0≤p)(h2:p≤1000000000):C E.P 62 [.ptr 0 0] [some (lq b p)] (bB (av (c8 (vb b p).1)) [some (lq b (vb b p).2)]):=by
 refine gS (nt:=7) (rs:=[.cell 2 25]) hm Tryz.func62 fun hl he cx=>?_
 refine oC [] [0] (kj b p [0,0,1,1,2,3,1,4] hb h1 h2 (by simp) (by simp)) ?_
 refine aC [] (yK (eV b p [0,0,1,1,2,3,1,4])) ?_
 refine bu [some 0] ?_ rfl rfl
 refine sA ?_
 exact⟨rfl,rfl⟩
def qg(s:eD)(sort:Int)(d i:Nat):List Sym:=(s.syms.take i).filter fun x=>decide (x.sort=sort)&&(decide (1<d)||decide (x.args.length=0))
theorem BJ(s:eD)(sort:Int)(d i:Nat)(h:i<s.syms.length):qg s sort d (i+1)=qg s sort d i++(if decide (s.syms[i].sort=sort)&&(decide (1<d)||decide (s.syms[i].args.length=0)) then [s.syms[i]] else []):=by
 unfold qg
 rw[List.take_add_one,ab h,List.filter_append]
 congr 1
 simp only[Option.toList_some,List.filter_cons,List.filter_nil]
theorem DP(s:eD)(sort:Int)(d i:Nat):(qg s sort d i).length≤i:=by
 refine dX (gP _ _) ?_
 rw[aO]
 omega
theorem Ee(s:eD)(sort:Int)(d i:Nat)(h:s.syms.length≤i):qg s sort d i=gZ s sort d:=by
 unfold qg gZ
 rw[ao h]
theorem vc(b:List Int)(hb:oa b)(s:eD)(hs:dc s)(d:Nat)(sort p:Int)(h1:0≤p)(h2:p+2 ^ (d+1)≤1000000000)
 (ih:1≤d→∀(sort q:Int),0≤q→q+2 ^ d≤1000000000→C E.P 72 [.ptr 0 0,av (c8 s),iv sort,iv d] [some (lq b q)] (bB (av (cT (dN b s d sort q).1)) [some (lq b (dN b s d sort q).2)])) :
 C E.P 72 [.ptr 0 0,av (c8 s),iv sort,iv ((d:Int)+1)] [some (lq b p)] (bB (.agg [sv (dN b s (d+1) sort p).1.name,.acc 1]) [some (lq b (dN b s (d+1) sort p).2),some (.acc 28 (aN (dN b s (d+1) sort p).1.kids))]):=by
 obtain⟨hp,hp2⟩:=two_pow_pos d
 have hdl:(d:Int)<2 ^ d:=by
  have:=Nat.lt_two_pow_self (n:=d)
  have e:(2:Int) ^ d=((2 ^ d:Nat):Int):=by simp
  omega
 have hle:s.syms.length≤7:=hs.1
 obtain⟨ws,hws⟩:∃ws,gZ s sort (d+1)=ws:=⟨_,rfl⟩
 have hwl:ws.length≤7:=by rw[←hws];exact dX (gP _ _) hle
 have hwm:=fun i=>nL (sort:=sort) (d:=d+1) (i:=i) hs
 rw[hws] at hwm
 have ea:dN b s (d+1) sort p=if ws.length=0 then(.mk [113] [],p) else(.mk (ws.getD (bF b p ws.length).toNat lZ).name (dI (dN b s d) (ws.getD (bF b p ws.length).toNat lZ).args (p+1)).1,(dI (dN b s d) (ws.getD (bF b p ws.length).toNat lZ).args (p+1)).2):=by rw[←hws];rfl
 refine gS (nt:=89) (rs:=[.cell 8 28]) hm Tryz.func72 fun hl he cx=>?_
 refine aG hm (fun(i:Nat)=> i≤s.syms.length) (fun(i:Nat)=> ⟨eE 89 .any [(0,.ptr 0 0),(2,iv sort),(3,iv ((d:Int)+1)),(5,.ptr 1 0),(8,.ptr 2 0),(9,.acc 3),(10,iv i)],[some (lq b p),some (.box (eZ (c8 s))),some (.box [sv [],.aY]),some (.acc 129 (dW (qg s sort (d+1) i)))]⟩) (fun(i:Nat)=> s.syms.length-i) (0) ?_ (ax [some 0,some 1,some 2,some 3] ?_ ?_ rfl rfl) ?_
 rotate_left
 ·exact sC
 ·refine sA ?_
  all_goals(rfl)
 rotate_left
 ·omega
 ·rintro i hi
  have hfl:=DP s sort (d+1) i
  rcases aa (i<s.syms.length) with h3|h3
  ·have e:=BJ s sort (d+1) i h3
   rcases aa (s.syms[i].sort=sort) with h4|h4
   ·have k4:=eq_true h4
    rcases aa (1<d+1) with h5|h5
    ·have h5':(1:Int)<(d:Int)+1:=by omega
     rw[if_pos (by simp[h4,h5])] at e
     simp -implicitDefEqProofs only[go_sem,h3,k4,h5']
     refine sQ ?_
     refine⟨i+1,?_,sL,ax [some 0,some 1,some 2,some 4] ?_ ?_ rfl rfl⟩
     rotate_left
     ·exact sC
     ·refine sA ?_
      all_goals((rw[e,←mv];rfl))
     omega
    ·have h5':¬ (1:Int)<(d:Int)+1:=by omega
     rcases aa ((s.syms[i].args.length:Int)=0) with h6|h6
     ·have h6n:s.syms[i].args.length=0:=by omega
      have k6:=eq_true h6
      rw[if_pos (by simp[h4,h6n])] at e
      simp -implicitDefEqProofs only[go_sem,h3,k4,h5',k6]
      refine sQ ?_
      refine⟨i+1,?_,sL,ax [some 0,some 1,some 2,some 4] ?_ ?_ rfl rfl⟩
      rotate_left
      ·exact sC
      ·refine sA ?_
       all_goals((rw[e,←mv];rfl))
      omega
     ·have h6n:¬s.syms[i].args.length=0:=by omega
      rw[if_neg (by simp only[h5,h6n,decide_false,Bool.or_self,fa];simp),bz] at e
      simp -implicitDefEqProofs only[go_sem,h3,k4,h5',h6]
      refine sQ ?_
      refine⟨i+1,?_,sL,ax [some 0,some 1,some 2,some 3] ?_ ?_ rfl rfl⟩
      rotate_left
      ·exact sC
      ·refine sA ?_
       all_goals((rw[e]))
      omega
   ·rw[if_neg (by simp[h4]),bz] at e
    simp -implicitDefEqProofs only[go_sem,h3,h4]
    refine sQ ?_
    refine⟨i+1,?_,sL,ax [some 0,some 1,some 2,some 3] ?_ ?_ rfl rfl⟩
    rotate_left
    ·exact sC
    ·refine sA ?_
     all_goals((rw[e]))
    omega
  ·rw[Ee s sort (d+1) i (by omega),hws]
   rcases aa (ws.length=0) with h4|h4
   ·have k4:((ws.length:Int)=0)=True:=eq_true (by omega)
    rw[if_pos h4] at ea
    simp -implicitDefEqProofs only[go_sem,h3,k4]
    refine bu [some 0,none] ?_ rfl rfl
    refine sA ?_
    rw[ea]
    exact⟨rfl,rfl,rfl⟩
   ·rw[if_neg h4] at ea
    obtain⟨k,ek,hk⟩:=kV hb (p:=p) (n:=ws.length) h1 (by omega)
    have ex:ws.getD k lZ=ws[k]:=by rw[az,ab hk];rfl
    obtain⟨w1,w2⟩:=hwm k
    obtain⟨w3,w4⟩:=w2 hk
    rw[ex] at w1 w3 w4
    rw[ek,aF,ex] at ea
    have h4':¬ (ws.length:Int)=0:=by omega
    simp -implicitDefEqProofs only[go_sem,h3,h4']
    refine oC [] [0] (fD b p ws.length hb h1 (by omega)) ?_
    rw[ek]
    simp -implicitDefEqProofs only[go_sem,hk]
    rw[ea]
    generalize ws[k]=x at w1 w4⊢
    refine aG hm (fun(i:Nat)=> i≤x.args.length) (fun(i:Nat)=> ⟨eE 89 .any [(0,.ptr 0 0),(3,iv ((d:Int)+1)),(5,.ptr 1 0),(8,.ptr 2 0),(11,.ptr 3 0),(12,.ptr 4 0),(13,iv i)],[some (lq b (dI (dN b s d) (x.args.take i) (p+1)).2),some (.box (eZ (c8 s))),some (.box [sv [],.aY]),some (.box (eZ (pB x))),some (.box [sv x.name,.acc 5]),some (.acc 28 (aN (dI (dN b s d) (x.args.take i) (p+1)).1))]⟩) (fun(i:Nat)=> x.args.length-i) (0) ?_ (ax [some 0,some 1,some 2,some 4,some 5,none] ?_ ?_ rfl rfl) ?_
    rotate_left
    ·exact sC
    ·refine sA ?_
     all_goals(exact⟨rfl,rfl⟩)
    rotate_left
    ·omega
    ·rintro i hi
     have hq:=D9 (f:=dN b s d) (c:=2 ^ d-1) (fun a p=>wb hs d a p) (x.args.take i) (p+1)
     have hln:=od (dN b s d) (x.args.take i) (p+1)
     rw[aO] at hln
     rcases aa (i<x.args.length) with h5|h5
     ·have hd:1≤d:=by
       rcases Nat.eq_zero_or_pos d with rfl|hd
       ·rw[w4 (au 1)] at h5;simp at h5
       ·exact hd
      have hmul:(((x.args.take i).length:Nat):Int)*(2 ^ d-1)≤1*(2 ^ d-1):=Int.mul_le_mul_of_nonneg_right (by rw[aO];omega) (by omega)
      have hc:=ih hd x.args[i] (dI (dN b s d) (x.args.take i) (p+1)).2 (by omega) (by omega)
      have dg:=yW (dN b s d) h5 (p+1)
      have CO:((d:Int)+1-1)=(d:Int):=by omega
      have hrows:aN (dI (dN b s d) (x.args.take i) (p+1)).1++[cT (dN b s d x.args[i] (dI (dN b s d) (x.args.take i) (p+1)).2).1]=aN (dI (dN b s d) (x.args.take (i+1)) (p+1)).1:=by
       rw[dg]
       exact(congrArg (aN (dI (dN b s d) (x.args.take i) (p+1)).1 ++ ·) (eB _ _).symm).trans (hU _ [_])
      have hq2:(dN b s d x.args[i] (dI (dN b s d) (x.args.take i) (p+1)).2).2=(dI (dN b s d) (x.args.take (i+1)) (p+1)).2:=by rw[dg]
      simp -implicitDefEqProofs only[go_sem,h5,CO]
      refine sQ ?_
      refine oC [] [0] hc ?_
      refine sQ ?_
      refine⟨i+1,?_,sL,ax [some 0,some 1,some 2,some 3,some 4,some 6] ?_ ?_ rfl rfl⟩
      rotate_left
      ·exact sC
      ·refine sA ?_
       all_goals(exact⟨by rw[hq2],hrows⟩)
      omega
     ·have et:x.args.take i=x.args:=ao (by omega)
      rw[et]
      refine uE ?_
      refine bu [some 0,some 5] ?_ rfl rfl
      exact sC
theorem lH(b:List Int)(hb:oa b)(s:eD)(hs:dc s):∀(d:Nat)(sort p:Int),1≤d→0≤p→p+2 ^ d≤1000000000 →
 C E.P 72 [.ptr 0 0,av (c8 s),iv sort,iv d] [some (lq b p)] (bB (.agg [sv (dN b s d sort p).1.name,.acc 1]) [some (lq b (dN b s d sort p).2),some (.acc 28 (aN (dN b s d sort p).1.kids))])
 | 0,_,_,hd,_,_=>by omega
 | d+1,sort,p,_,h1,h2=>vc b hb s hs d sort p h1 h2 fun hd sort q g1 g2=>by
   refine(lH b hb s hs d sort q hd g1 g2).Dx [some 0] ?_ rfl rfl
   refine sA ?_
   rfl
theorem k8(b:List Int)(hb:oa b)(s:eD)(hs:dc s)(d:Nat)(sort p:Int)(hd:1≤d)(h1:0≤p)(h2:p+2 ^ d≤1000000000) :
 C E.P 72 [.ptr 0 0,av (c8 s),iv sort,iv d] [some (lq b p)] (bB (av (cT (dN b s d sort p).1)) [some (lq b (dN b s d sort p).2)]):=by
 refine(lH b hb s hs d sort p hd h1 h2).Dx [some 0] ?_ rfl rfl
 refine sA ?_
 rfl
theorem Gb(b:List Int){s:eD}(hs:dc s)(d:Nat)(sort p:Int):(dN b s d sort p).1.kids.length≤2:=by
 cases d with
 | zero=>simp[dN,Term.kids]
 | succ d=>
   unfold dN
   split
   ·simp[Term.kids]
   ·simp only[Term.kids,od]
    exact(nL hs).1
theorem DU{t:Term}{n:Int}{us:List Term}{ks:List Int}{d:Bool}{i:Nat}(h1:i<us.length)(h2:i<ks.length):gm t n (us.drop i) (ks.drop i) d =
 ((if !d&& !il (aB us[i]) (aB t) then [t] else [])++((if decide (aB us[i]≠aB t) then [us[i]] else [])++(gm t n (us.drop (i+1)) (ks.drop (i+1)) (d||(!d&& !il (aB us[i]) (aB t)))).1),
  (if !d&& !il (aB us[i]) (aB t) then [n] else [])++((if decide (aB us[i]≠aB t) then [ks[i]] else [])++(gm t n (us.drop (i+1)) (ks.drop (i+1)) (d||(!d&& !il (aB us[i]) (aB t)))).2)):=by
 rw[af h1,af h2]
 rfl
theorem FN{t:Term}{n:Int}{us:List Term}{ks:List Int}{d:Bool}{i:Nat}(h1:us.length≤i):gm t n (us.drop i) (ks.drop i) d=if d then([],[]) else([t],[n]):=by
 rw[List.drop_of_length_le h1]
 rfl
theorem jO(us:List Term)(t:Term):aN us++[[D.str t.name,D.bX (aN t.kids)]]=aN (us++[t]):=by rw[←hU,eB,gH];rfl
theorem lF(us:List Int)(n:Int):aL us++[[D.val (Value.int .i64 n)]]=aL (us++[n]):=by rw[←fX];rfl
theorem wm(k:Int)(aM:List Term)(times:List Int)(bd:Int)(st:Bool)(t:Term)(n:Int)(hl:aM.length=times.length)(yV:aM.length≤1000)(hsh:∀u∈aM,a8 u 4=true)(ht:a8 t 4=true) :
 C E.P 129 [.agg [iv k,sv [],.aY,sv [],.aY,.acc 0,.acc 1,iv bd,bv st],av (cT t),iv n] [some (.acc 28 (aN aM)),some (.acc 3 (aL times))] (bB (.agg [iv k,sv [],.aY,sv [],.aY,.acc 2,.acc 3,iv bd,bv st]) [some (.acc 28 (aN aM)),some (.acc 3 (aL times)),some (.acc 28 (aN (gm t n aM times false).1)),some (.acc 3 (aL (gm t n aM times false).2))]):=by
 refine gS (nt:=90) (rs:=[.cell 6 31]) hm Tryz.func129 fun hl he cx=>?_
 refine lP hm (fun(i:Nat) (dn:Bool) (uk:List Term×List Int)=> i≤aM.length∧uk.1.length≤2*i∧uk.2.length≤2*i∧gm t n aM times false=(uk.1++(gm t n (aM.drop i) (times.drop i) dn).1,uk.2++(gm t n (aM.drop i) (times.drop i) dn).2)) (fun(i:Nat) (dn:Bool) (uk:List Term×List Int)=> ⟨eE 90 .any [(2,iv n),(3,.ptr 2 0),(4,.ptr 3 0),(6,.ptr 4 0),(7,.ptr 5 0),(8,bv dn),(9,iv i)],[some (.acc 28 (aN aM)),some (.acc 3 (aL times)),some (.box [iv k,sv [],.aY,sv [],.aY,.acc 0,.acc 1,iv bd,bv st]),some (.box (eZ (cT t))),some (.box [iv 0,sv [],.aY,sv [],.aY,.aY,.aY,iv 0,bv false]),some (.box [iv k,sv [],.aY,sv [],.aY,.acc 6,.acc 7,iv bd,bv st]),some (.acc 28 (aN uk.1)),some (.acc 3 (aL uk.2))]⟩) (fun(i:Nat) (dn:Bool) (uk:List Term×List Int)=> aM.length-i) (0) (false) (([],[])) ?_ (ax [some 0,some 1,some 2,some 3,some 4,some 5,none,none] ?_ ?_ rfl rfl) ?_
 rotate_left
 ·exact sC
 ·exact sC
 rotate_left
 ·exact⟨Nat.zero_le _,by simp,by simp,by simp⟩
 ·rintro i dn ⟨us,ks⟩ ⟨hi,b1,b2,hg⟩
  simp only at b1 b2 hg⊢
  rcases aa (i<aM.length) with h3|h3
  ·have h4:i<times.length:=by omega
   rw[DU h3 h4] at hg
   refine uC ?_
   refine aC [] (gG aM[i] 4 (au _) (hsh _ (List.getElem_mem h3))) ?_
   cases dn
   ·refine sA ?_
    refine aC [] (gG t 4 (au _) ht) ?_
    cases h5:Op.bytesLess (aB aM[i]) (aB t)
    ·have h5':il (aB aM[i]) (aB t)=false:=h5
     simp only[h5',Bool.not_false,Bool.and_self,if_true,Bool.or_true] at hg
     obtain⟨us',hus⟩:∃z,us++[t]=z:=⟨_,rfl⟩
     obtain⟨ks',hks⟩:∃z,ks++[n]=z:=⟨_,rfl⟩
     have eT:=jO us t
     have eI:=lF ks n
     have lT:us'.length=us.length+1:=by rw[←hus];simp
     have lI:ks'.length=ks.length+1:=by rw[←hks];simp
     rw[hus] at eT
     rw[hks] at eI
     rw[←bf us,hus,←bf ks,hks] at hg
     refine sA ?_
     refine sQ ?_
     simp -implicitDefEqProofs only[go_sem,eT,eI]
     refine aC [] (gG t 4 (au _) ht) ?_
     rcases aa (aB aM[i]=aB t) with h7|h7
     ·have k7:=eq_true h7
      rw[decide_eq_false (fun h=>h h7)] at hg
      simp only[ak,if_false,bx] at hg
      simp -implicitDefEqProofs only[go_sem,k7]
      refine sQ ?_
      refine⟨i+1,true,(us',ks'),?_,sL,ax [some 0,some 1,some 2,some 3,some 4,some 5,some 8,some 9] ?_ ?_ rfl rfl⟩
      rotate_left
      ·exact sC
      ·exact sC
      exact⟨h3,by dsimp only;omega,by dsimp only;omega,hg⟩
     ·rw[decide_eq_true h7] at hg
      simp only[if_true] at hg
      have eo:=jO us' aM[i]
      have ep:=lF ks' times[i]
      simp -implicitDefEqProofs only[go_sem,h7,h3,h4]
      refine sQ ?_
      refine⟨i+1,true,(us'++[aM[i]],ks'++[times[i]]),?_,sL,ax [some 0,some 1,some 2,some 3,some 4,some 5,some 10,some 11] ?_ ?_ rfl rfl⟩
      rotate_left
      ·exact sC
      ·refine sA ?_
       all_goals(exact⟨eo,ep⟩)
      exact⟨h3,by simp;omega,by simp;omega,by simpa using hg⟩
    ·have h5':il (aB aM[i]) (aB t)=true:=h5
     simp only[h5',fF,fa,ak,if_false,Bool.or_false,bx] at hg
     refine sA ?_
     refine aC [] (gG t 4 (au _) ht) ?_
     rcases aa (aB aM[i]=aB t) with h7|h7
     ·have k7:=eq_true h7
      rw[decide_eq_false (fun h=>h h7)] at hg
      simp only[ak,if_false,bx] at hg
      simp -implicitDefEqProofs only[go_sem,k7]
      refine sQ ?_
      refine⟨i+1,false,(us,ks),?_,sL,ax [some 0,some 1,some 2,some 3,some 4,some 5,some 6,some 7] ?_ ?_ rfl rfl⟩
      rotate_left
      ·exact sC
      ·exact sC
      exact⟨h3,by dsimp only;omega,by dsimp only;omega,hg⟩
     ·rw[decide_eq_true h7] at hg
      simp only[if_true] at hg
      have eo:=jO us aM[i]
      have ep:=lF ks times[i]
      simp -implicitDefEqProofs only[go_sem,h7,h3,h4]
      refine sQ ?_
      refine⟨i+1,false,(us++[aM[i]],ks++[times[i]]),?_,sL,ax [some 0,some 1,some 2,some 3,some 4,some 5,some 8,some 9] ?_ ?_ rfl rfl⟩
      rotate_left
      ·exact sC
      ·refine sA ?_
       all_goals(exact⟨eo,ep⟩)
      exact⟨h3,by simp;omega,by simp;omega,by simpa using hg⟩
   ·simp only[fF,Bool.false_and,ak,if_false,Bool.true_or,bx] at hg
    refine sA ?_
    refine aC [] (gG t 4 (au _) ht) ?_
    rcases aa (aB aM[i]=aB t) with h7|h7
    ·have k7:=eq_true h7
     rw[decide_eq_false (fun h=>h h7)] at hg
     simp only[ak,if_false,bx] at hg
     simp -implicitDefEqProofs only[go_sem,k7]
     refine sQ ?_
     refine⟨i+1,true,(us,ks),?_,sL,ax [some 0,some 1,some 2,some 3,some 4,some 5,some 6,some 7] ?_ ?_ rfl rfl⟩
     rotate_left
     ·exact sC
     ·exact sC
     exact⟨h3,by dsimp only;omega,by dsimp only;omega,hg⟩
    ·rw[decide_eq_true h7] at hg
     simp only[if_true] at hg
     have eo:=jO us aM[i]
     have ep:=lF ks times[i]
     simp -implicitDefEqProofs only[go_sem,h7,h3,h4]
     refine sQ ?_
     refine⟨i+1,true,(us++[aM[i]],ks++[times[i]]),?_,sL,ax [some 0,some 1,some 2,some 3,some 4,some 5,some 8,some 9] ?_ ?_ rfl rfl⟩
     rotate_left
     ·exact sC
     ·refine sA ?_
      all_goals(exact⟨eo,ep⟩)
     exact⟨h3,by simp;omega,by simp;omega,by simpa using hg⟩
  ·rw[FN (by omega)] at hg
   rw[hg]
   cases dn
   ·refine uC ?_
    refine sQ ?_
    refine bu [some 0,some 1,some 8,some 9] ?_ rfl rfl
    refine sA ?_
    exact⟨jO _ _,lF _ _⟩
   ·refine uC ?_
    refine bu [some 0,some 1,some 6,some 7] ?_ rfl rfl
    exact sC
theorem Ff{b:List Int}(hb:oa b){p:Int}(h1:0≤p){l:List Int}(hl:l≠[])(hd:∀x∈l,1≤x∧x≤4):∃d:Nat,eV b p l=d∧1≤d∧d≤4∧(2:Int) ^ d≤16:=by
 obtain⟨d,e,h2,h3⟩:=nI hb h1 hl hd
 refine⟨d,e,h2,h3,?_⟩
 have:=Nat.pow_le_pow_right (n:=2) (by omega) h3
 have e:(2:Int) ^ d=((2 ^ d:Nat):Int):=by simp
 omega
theorem oA(b:List Int)(hb:oa b)(s:eD)(hs:dc s)(p:Int)(h1:0≤p)(h2:p≤900000000) :
 C E.P 70 [.ptr 0 0,av (c8 s)] [some (lq b p)] (bB (.agg [iv (jA b s p).1.kind,sv (jA b s p).1.A.name,lv (aN (jA b s p).1.A.kids),sv (jA b s p).1.B.name,lv (aN (jA b s p).1.B.kids),.acc 1,.acc 2,iv (jA b s p).1.bound,bv (jA b s p).1.strict])
   [some (lq b (jA b s p).2),some (.acc 28 (aN (jA b s p).1.aM)),some (.acc 3 (aL (jA b s p).1.times))]):=by
 obtain⟨y,e0⟩:∃y,jA b s p=y:=⟨_,rfl⟩
 have ea:=e0
 unfold jA at ea
 rcases aa (bF b p 2=0) with c0|c0
 ·have k0:=eq_true c0
  rw[if_pos c0] at ea
  obtain⟨d1,ed1,d11,d12,d13⟩:=Ff hb (p:=p+2) (by omega) (l:=[1,2]) (by simp) (by decide)
  simp only[ed1,aF] at ea
  have x1:=k8 b hb s hs d1 (bF b (p+1) 2) (p+3) d11 (by omega) (by omega)
  have x2:=se (b:=b) hs (d:=d1) (by omega) (bF b (p+1) 2) (p+3)
  obtain⟨x,hx⟩:∃x,dN b s d1 (bF b (p+1) 2) (p+3)=x:=⟨_,rfl⟩
  rw[hx] at ea x1 x2
  obtain⟨d2,ed2,d21,d22,d23⟩:=Ff hb (p:=x.2) (by omega) (l:=[1,1,2]) (by simp) (by decide)
  simp only[ed2,aF] at ea
  have y1:=k8 b hb s hs d2 (bF b (p+1) 2) (x.2+1) d21 (by omega) (by omega)
  rw[e0,←ea]
  have q2:p+1+1=p+2:=by omega
  have q3:p+2+1=p+3:=by omega
  refine gS (nt:=54) (rs:=[.cell 4 31]) hm Tryz.func70 fun hl he cx=>?_
  refine b7 [] [0] (fD b p 2 hb h1 (by omega)) ?_ ?_<;>simp -implicitDefEqProofs only[go_sem,k0]
  refine b7 [] [0] (fD b (p+1) 2 hb (by omega) (by omega)) ?_ ?_<;>simp -implicitDefEqProofs only[go_sem,q2]
  refine b7 [] [0] (kj b (p+2) [1,2] hb (by omega) (by omega) (by simp) (by simp)) ?_ ?_<;>simp -implicitDefEqProofs only[go_sem,ed1,q3]
  refine oC [] [0] x1 ?_
  refine b7 [] [0] (kj b x.2 [1,1,2] hb (by omega) (by omega) (by simp) (by simp)) ?_ ?_<;>simp -implicitDefEqProofs only[go_sem,ed2]
  refine oC [] [0] y1 ?_
  refine iK ?_
  refine bu [some 0,none,none] ?_ rfl rfl
  exact sC
 ·rw[if_neg c0] at ea
  obtain⟨N,eN,n1,n2⟩:=nI hb (p:=p+3) (by omega) (l:=[1,2,2,3]) (by simp) (by decide)
  simp only[eN,aF] at ea
  obtain⟨bd,hbd⟩:∃x,eV b (p+1) [0,1,-1,2,3,-4]=x:=⟨_,rfl⟩
  obtain⟨sb,hsb⟩:∃x,decide (bF b (p+2) 3=0)=x:=⟨_,rfl⟩
  rw[hbd,hsb] at ea
  rw[e0,←ea]
  have q2:p+1+1=p+2:=by omega
  have q3:p+2+1=p+3:=by omega
  have q4:p+3+1=p+4:=by omega
  refine gS (nt:=54) (rs:=[.cell 4 31]) hm Tryz.func70 fun hl he cx=>?_
  refine b7 [] [0] (fD b p 2 hb h1 (by omega)) ?_ ?_<;>simp -implicitDefEqProofs only[go_sem,c0]
  refine b7 [] [0] (kj b (p+1) [0,1,-1,2,3,-4] hb (by omega) (by omega) (by simp) (by simp)) ?_ ?_<;>simp -implicitDefEqProofs only[go_sem,hbd,q2]
  refine b7 [] [0] (fD b (p+2) 3 hb (by omega) (by omega)) ?_ ?_<;>simp -implicitDefEqProofs only[go_sem,q3,hsb]
  refine b7 [] [0] (kj b (p+3) [1,2,2,3] hb (by omega) (by omega) (by simp) (by simp)) ?_ ?_<;>simp -implicitDefEqProofs only[go_sem,eN,q4]
  refine lP hm (fun(j:Nat) (q:Int) (uk:List Term×List Int)=> j≤N∧0≤q∧q≤p+4+(N-j)*17∧mj (N-j) ⟨2,eX,eX,uk.1,uk.2,bd,sb⟩∧ie (gp b s) N ⟨2,eX,eX,[],[],bd,sb⟩ (p+4)=ie (gp b s) j ⟨2,eX,eX,uk.1,uk.2,bd,sb⟩ q) (fun(j:Nat) (q:Int) (uk:List Term×List Int)=> ⟨eE 54 .any [(0,.ptr 0 0),(3,.ptr 1 0),(4,.ptr 2 0),(6,.ptr 3 0),(7,iv j)],[some (lq b q),some (.box (eZ (c8 s))),some (.box [iv 0,sv [],.aY,sv [],.aY,.aY,.aY,iv 0,bv false]),some (.box [iv 2,sv [],.aY,sv [],.aY,.acc 4,.acc 5,iv bd,bv sb]),some (.acc 28 (aN uk.1)),some (.acc 3 (aL uk.2))]⟩) (fun(j:Nat) (q:Int) (uk:List Term×List Int)=> j) (N) (p+4) (([],[])) ?_ (ax [some 0,some 1,some 2,some 3,none,none] ?_ ?_ rfl rfl) ?_
  rotate_left
  ·exact sC
  ·exact sC
  rotate_left
  ·exact⟨au _,by omega,by omega,⟨rfl,by simp,by simp⟩,rfl⟩
  ·rintro j q ⟨us,ks⟩ ⟨hj,hq1,hq2,hf,hg⟩
   simp only at hf hg⊢
   rcases aa ((0:Int)<(j:Int)) with h3|h3
   ·obtain⟨j,rfl⟩:∃j',j=j'+1:=⟨j-1,by omega⟩
    have hfew:us.length≤N-(j+1):=hf.NR
    have db:us.length=ks.length:=hf.len
    obtain⟨d1,ed1,d11,d12,d13⟩:=Ff hb (p:=q) hq1 (l:=[1,1,2]) (by simp) (by decide)
    have x1:=k8 b hb s hs d1 1 (q+1) d11 (by omega) (by omega)
    have x2:=se (b:=b) hs (d:=d1) (by omega) 1 (q+1)
    have x3:=qd hb hs d1 1 (q+1) (by omega) d11
    have sf:=ri hb hs (m:=N-(j+1)) (p:=q) hq1 hf
    have sb2:=yX hb hs (a:=⟨2,eX,eX,us,ks,bd,sb⟩) (p:=q) hq1
    rw[ie] at hg
    have est:gp b s ⟨2,eX,eX,us,ks,bd,sb⟩ q=(⟨2,eX,eX,(gm (dN b s d1 1 (q+1)).1 (eV b (dN b s d1 1 (q+1)).2 [1,-1,1,-1,2,-2]) us ks false).1,(gm (dN b s d1 1 (q+1)).1 (eV b (dN b s d1 1 (q+1)).2 [1,-1,1,-1,2,-2]) us ks false).2,bd,sb⟩,(dN b s d1 1 (q+1)).2+1):=by
     simp only[gp,ed1,aF,JP]
    rw[est] at hg sf sb2
    simp only at hg sf sb2
    obtain⟨x,hx⟩:∃x,dN b s d1 1 (q+1)=x:=⟨_,rfl⟩
    rw[hx] at x1 x2 x3 hg sf sb2
    have hput:=wm 2 us ks bd sb x.1 (eV b x.2 [1,-1,1,-1,2,-2]) db (by omega) hf.sh (zd d12 x3)
    have hjs:((j:Int)+1-1)=(j:Int):=by omega
    have h3:(0:Int)<(j:Int)+1:=by omega
    refine uC ?_
    refine b7 [] [0] (kj b q [1,1,2] hb hq1 (by omega) (by simp) (by simp)) ?_ ?_<;>simp -implicitDefEqProofs only[go_sem,ed1]
    refine oC [] [0] x1 ?_
    refine oC [] [0] (kj b x.2 [1,-1,1,-1,2,-2] hb (by omega) (by omega) (by simp) (by simp)) ?_
    refine b7 [] [4,5,6,7] hput ?_ ?_
    ·refine sA ?_
     first|rfl|((repeat' apply aH)<;>rfl)
    refine sA ?_
    refine iK ?_
    refine sQ ?_
    simp -implicitDefEqProofs only[go_sem,hjs]
    refine⟨j,x.2+1,(gm x.1 (eV b x.2 [1,-1,1,-1,2,-2]) us ks false),?_,sL,ax [some 0,some 1,some 2,some 3,some 6,some 7] ?_ ?_ rfl rfl⟩
    rotate_left
    ·exact sC
    ·exact sC
    refine⟨by omega,by omega,by omega,?_,hg⟩
    have e:N-(j+1)+1=N-j:=by omega
    rw[e] at sf
    exact sf
   ·obtain rfl:j=0:=by omega
    rw[ie] at hg
    rw[hg]
    simp -implicitDefEqProofs only[go_sem,Z2]
    refine bu [some 0,some 4,some 5] ?_ rfl rfl
    exact sC
theorem Ag(b:List Int)(hb:oa b)(s:eD)(hs:dc s)(p:Int)(h1:0≤p)(h2:p≤900000000) :
 C E.P 70 [.ptr 0 0,av (c8 s)] [some (lq b p)] (bB (av (dJ (jA b s p).1)) [some (lq b (jA b s p).2)]):=by
 refine(oA b hb s hs p h1 h2).Dx [some 0] ?_ rfl rfl
 refine sA ?_
 exact⟨rfl,rfl⟩
end Go.Proofs.YtgpjhjalfakpoaaGreat
