/-
  The reference: the walks of what is drawn: numbers, words, terms. A step towards the laws.
-/
import Derived.Test.YtabembjmeobhoaaGreatKDI
import Derived.Test.YtabembjmeobhoaaGreatKDEb
set_option linter.unusedVariables false
set_option linter.unusedSimpArgs false
open And renaming intro→au
open Bool renaming false_eq_true→ax,and_false→iU,not_true→l7
open Classical renaming em→aa
open Int renaming toNat_natCast→bn,tmod_lt_of_pos→n5
open List renaming drop_eq_getElem_cons→ae,getElem?_eq_getElem→ah,take_of_length_le→ao,getD_eq_getElem?_getD→aA,append_assoc→bj,append_nil→bl,nil_append→bC,length_take→bU,length_filter_le→fZ
open Nat renaming le_refl→aJ,le_trans→eH
namespace Go.Proofs.YtabembjmeobhoaaGreat
open Go.Eng Go.Mod
open Int renaming reduceEq→Z1,reduceLT→Z2,reduceLE→Z3,reduceToNat→Z4
set_option maxRecDepth 100000
set_option maxHeartbeats 800000
def uj(b:List Int)(p:Int):En:=.box [lv (Sl b),iv p]
def MK(l:List Int):List (List D):=bF l
def OB(l:List nz):List (List D):=ml l
theorem Vt:MK []=[]:=rfl
theorem Sr(n:Int)(l:List Int):MK (n::l)=[.val (.int .i64 n)]::MK l:=rfl
theorem UL:OB []=[]:=rfl
theorem Sf(n:nz)(l:List nz):OB (n::l)=[.str n]::OB l:=rfl
attribute [go_sem] uj Vt Sr UL Sf
theorem Yk(b:List Int):(Sl b).length=b.length:=by simp[Sl]
theorem Xj{b:List Int}{i:Nat}(h:i<b.length):row (Sl b) i=[.val (.int .u8 b[i])]:=by simp[Sl,row,List.getD,ah h]
attribute [go_sem] Yk
theorem HM{b:List Int}{i:Nat}(h:i<b.length):row (Sl b) i=[.val (.int .u8 (b.getD i 0))]:=by rw[Xj h,aA,ah h];rfl
theorem nk(b:List Int)(p n:Int)(hb:yU b)(h1:0≤p)(h2:p≤1000000000):C E.P 90 [.ptr 0 0,iv n] [some (uj b p)] (bz (iv (dk b p n)) [some (uj b (p+1))]):=by
 have hb1:=hb.len
 refine gS (nt:=99) (rs:=[.tmp 4]) hm Tryz.func90 fun hl he cq=>?_
 refine sQ ?_
 rcases aa (n<1) with h3|h3
 ·have e:dk b p n=0:=by rw[dk,if_pos h3]
  refine uC ?_
  refine bZ [some 0] ?_ rfl rfl
  refine sA ?_
  rw[e]
 rcases aa (b.length=0) with h4|h4
 ·have e:dk b p n=0:=by rw[dk,if_neg h3,if_pos h4]
  have k4:((b.length:Int)=0)=True:=eq_true (by omega)
  simp -implicitDefEqProofs only[go_sem,h3,k4]
  refine bZ [some 0] ?_ rfl rfl
  refine sA ?_
  rw[e]
 have h4':¬ (b.length:Int)=0:=by omega
 have q1:p+1-1=p:=by omega
 simp -implicitDefEqProofs only[go_sem,h3,h4',q1]
 rcases aa (p<b.length) with h5|h5
 ·have e:dk b p n=(b.getD p.toNat 0).tmod n:=by rw[dk,if_neg h3,if_neg h4,if_pos h5]
  have hl:p.toNat<b.length:=by omega
  have hg:=hb.getD p.toNat
  have hr:=HM hl
  have w0:IntKind.i64.wrap (b.getD p.toNat 0)=b.getD p.toNat 0:=wrap_i64 ⟨by omega,by omega⟩
  simp -implicitDefEqProofs only[go_sem,h5,hr,w0]
  refine sQ ?_
  refine bZ [some 0] ?_ rfl rfl
  refine sA ?_
  rw[e]
 ·have e:dk b p n=(NO (uq b p) ((uq b p).tdiv 64)).tmod n:=by rw[dk,if_neg h3,if_neg h4,if_neg h5]
  obtain⟨x1,x2,x3,x4⟩:=Yj hb h1 h2 h4
  have m1:0≤p.tmod b.length∧p.tmod b.length<b.length:=⟨Int.tmod_nonneg _ h1,n5 _ (by omega)⟩
  have m2:0≤(p*7+3).tmod b.length∧(p*7+3).tmod b.length<b.length:=⟨Int.tmod_nonneg _ (by omega),n5 _ (by omega)⟩
  have l1:(p.tmod b.length).toNat<b.length:=by omega
  have l2:((p*7+3).tmod b.length).toNat<b.length:=by omega
  have hr1:=HM l1
  have hr2:=HM l2
  have g1:=hb.getD (p.tmod b.length).toNat
  have g2:=hb.getD ((p*7+3).tmod b.length).toNat
  have d1:0≤(uq b p).tdiv 64∧(uq b p).tdiv 64≤uq b p:=by
   rw[Int.tdiv_eq_ediv_of_nonneg x3]
   omega
  have ex:uq b p=b.getD (p.tmod b.length).toNat 0*131+b.getD ((p*7+3).tmod b.length).toNat 0*1117+p*29+p.tdiv b.length*53:=rfl
  have w1:IntKind.i64.wrap (b.getD (p.tmod b.length).toNat 0)=b.getD (p.tmod b.length).toNat 0:=wrap_i64 ⟨by omega,by omega⟩
  have w2:IntKind.i64.wrap (b.getD ((p*7+3).tmod b.length).toNat 0)=b.getD ((p*7+3).tmod b.length).toNat 0:=wrap_i64 ⟨by omega,by omega⟩
  simp -implicitDefEqProofs only[go_sem,h5,hr1,hr2,w1,w2]
  refine sQ ?_
  rw[←ex]
  refine sQ ?_
  refine abr (uq b p) ((uq b p).tdiv 64) (by simp -implicitDefEqProofs only[go_sem]) (by simp -implicitDefEqProofs only[go_sem]) (by omega) (by omega) (by omega) (by omega) ?_
  refine sA ?_
  refine sQ ?_
  refine bZ [some 0] ?_ rfl rfl
  refine sA ?_
  rw[e]
theorem tj(b:List Int)(p:Int)(l:List Int)(hb:yU b)(h1:0≤p)(h2:p≤1000000000)(hl:l≠[])(hl2:l.length≤100):C E.P 161 [.ptr 0 0,lv (MK l)] [some (uj b p)] (bz (iv (jV b p l)) [some (uj b (p+1))]):=by
 have hn:1≤l.length:=by cases l with|nil=>exact(hl rfl).elim|cons=>simp
 obtain⟨k,e,hk⟩:=vz hb (p:=p) (n:=l.length) h1 hn
 have hL:(MK l).length=l.length:=by simp[MK,bF]
 have hr:row (MK l) k=[.val (.int .i64 (jV b p l))]:=by
  rw[MK,CM hk,jV,e,bn,aA,ah hk]
  rfl
 refine gS (nt:=12) (rs:=[.tmp 4]) hm Tryz.func161 fun hl he cq=>?_
 simp -implicitDefEqProofs only[go_sem,hL]
 refine oC [] [0] (nk b p l.length hb h1 h2) ?_
 rw[e]
 simp -implicitDefEqProofs only[go_sem,hL,hk,hr]
 refine bZ [some 0] ?_ rfl rfl
 exact sC
theorem aac(b:List Int)(p:Int)(l:List nz)(hb:yU b)(h1:0≤p)(h2:p≤1000000000)(hl:l≠[])(hl2:l.length≤100):C E.P 165 [.ptr 0 0,lv (OB l)] [some (uj b p)] (bz (sv (Rs b p l)) [some (uj b (p+1))]):=by
 have hn:1≤l.length:=by cases l with|nil=>exact(hl rfl).elim|cons=>simp
 obtain⟨k,e,hk⟩:=vz hb (p:=p) (n:=l.length) h1 hn
 have hL:(OB l).length=l.length:=by simp[OB,ml]
 have hr:row (OB l) k=[.str (Rs b p l)]:=by
  rw[OB,Jf hk,Rs,e,bn,aA,ah hk]
  rfl
 refine gS (nt:=12) (rs:=[.tmp 4]) hm Tryz.func165 fun hl he cq=>?_
 simp -implicitDefEqProofs only[go_sem,hL]
 refine oC [] [0] (nk b p l.length hb h1 h2) ?_
 rw[e]
 simp -implicitDefEqProofs only[go_sem,hL,hk,hr]
 refine bZ [some 0] ?_ rfl rfl
 exact sC
theorem Fx(b:List Int)(hb:∀x∈b,0≤x∧x≤255)(o5:b.length≤2000000):C E.P 35 [lv (Sl b)] [] (bz (.ptr 0 0) [some (uj (b.take 2000) 0)]):=by
 refine gS (nt:=11) (rs:=[.tmp 2]) hm Tryz.func35 fun hl he cq=>?_
 rcases aa ((2000:Int)<(b.length:Int)) with h1|h1
 ·have h1n:2000≤b.length:=by omega
  have mR:∀y∈Sl b,y.length=1:=by
   intro y hy
   obtain⟨x,_,rfl⟩:=List.mem_map.1 hy
   rfl
  simp -implicitDefEqProofs only[go_sem,Z3,Z4,h1]
  refine au ⟨by omega,mR⟩ ?_
  refine bZ [some 0] ?_ rfl rfl
  refine sA ?_
  simp[Sl]
 ·have e:b.take 2000=b:=ao (by omega)
  refine uA ?_
  refine bZ [some 0] ?_ rfl rfl
  refine sA ?_
  rw[e]
theorem aaa{b:List Int}(hb:∀x∈b,0≤x∧x≤255):yU (b.take 2000):=⟨by rw[bU];omega,fun x hx=>hb x (List.mem_of_mem_take hx)⟩
theorem I2(k:Int):C E.P 160 [iv k] [] (bz (av (dV (Br k))) []):=by
 refine gS (nt:=47) (rs:=[.cell 2 25]) hm Tryz.func160 fun hl he cq=>?_
 rcases aa (k=0) with h0|h0
 ·have k0:=eq_true h0
  refine uH ?_
  refine an ?_
  refine sA ?_
  rw[Br,if_pos h0]
  rfl
 rcases aa (k=1) with h1|h1
 ·have k1:=eq_true h1
  simp -implicitDefEqProofs only[go_sem,h0,k1]
  refine an ?_
  refine sA ?_
  rw[Br,if_neg h0,if_pos h1]
  rfl
 rcases aa (k=2) with h2|h2
 ·have k2:=eq_true h2
  simp -implicitDefEqProofs only[go_sem,h0,h1,k2]
  refine an ?_
  refine sA ?_
  rw[Br,if_neg h0,if_neg h1,if_pos h2]
  rfl
 rcases aa (k=3) with h3|h3
 ·have k3:=eq_true h3
  simp -implicitDefEqProofs only[go_sem,h0,h1,h2,k3]
  refine an ?_
  refine sA ?_
  rw[Br,if_neg h0,if_neg h1,if_neg h2,if_pos h3]
  rfl
 ·simp -implicitDefEqProofs only[go_sem,h0,h1,h2,h3]
  refine an ?_
  refine sA ?_
  rw[Br,if_neg h0,if_neg h1,if_neg h2,if_neg h3]
  rfl
theorem L2(b:List Int)(p:Int)(hb:yU b)(h1:0≤p)(h2:p≤1000000000):C E.P 88 [.ptr 0 0] [some (uj b p)] (bz (av (dV (NZ b p).1)) [some (uj b (NZ b p).2)]):=by
 refine gS (nt:=7) (rs:=[.cell 2 25]) hm Tryz.func88 fun hl he cq=>?_
 refine oC [] [0] (tj b p [0,0,1,1,2,3,1,4] hb h1 h2 (by simp) (by simp)) ?_
 refine aC [] (I2 (jV b p [0,0,1,1,2,3,1,4])) ?_
 refine bZ [some 0] ?_ rfl rfl
 refine sA ?_
 exact⟨rfl,rfl⟩
def Aj(s:dK)(sort:Int)(d i:Nat):List Sym:=(s.syms.take i).filter fun x=>decide (x.sort=sort)&&(decide (1<d)||decide (x.args.length=0))
theorem Np(s:dK)(sort:Int)(d i:Nat)(h:i<s.syms.length):Aj s sort d (i+1)=Aj s sort d i++(if decide (s.syms[i].sort=sort)&&(decide (1<d)||decide (s.syms[i].args.length=0)) then [s.syms[i]] else []):=by
 unfold Aj
 rw[List.take_add_one,ah h,List.filter_append]
 congr 1
 simp only[Option.toList_some,List.filter_cons,List.filter_nil]
theorem OV(s:dK)(sort:Int)(d i:Nat):(Aj s sort d i).length≤i:=by
 refine eH (fZ _ _) ?_
 rw[bU]
 omega
theorem Qj(s:dK)(sort:Int)(d i:Nat)(h:s.syms.length≤i):Aj s sort d i=mK s sort d:=by
 unfold Aj mK
 rw[ao h]
theorem EL(b:List Int)(hb:yU b)(s:dK)(hs:fM s)(d:Nat)(sort p:Int)(h1:0≤p)(h2:p+2 ^ (d+1)≤1000000000)
 (ih:1≤d→∀(sort q:Int),0≤q→q+2 ^ d≤1000000000→C E.P 164 [.ptr 0 0,av (dV s),iv sort,iv d] [some (uj b q)] (bz (av (cT (hY b s d sort q).1)) [some (uj b (hY b s d sort q).2)])) :
 C E.P 164 [.ptr 0 0,av (dV s),iv sort,iv ((d:Int)+1)] [some (uj b p)] (bz (.agg [sv (hY b s (d+1) sort p).1.name,.acc 1]) [some (uj b (hY b s (d+1) sort p).2),some (.acc 34 (aN (hY b s (d+1) sort p).1.kids))]):=by
 obtain⟨hp,hp2⟩:=two_pow_pos d
 have hdl:(d:Int)<2 ^ d:=by
  have:=Nat.lt_two_pow_self (n:=d)
  have e:(2:Int) ^ d=((2 ^ d:Nat):Int):=by simp
  omega
 have hle:s.syms.length≤7:=hs.1
 obtain⟨ws,hws⟩:∃ws,mK s sort (d+1)=ws:=⟨_,rfl⟩
 have hwl:ws.length≤7:=by rw[←hws];exact eH (fZ _ _) hle
 have hwm:=fun i=>vC (sort:=sort) (d:=d+1) (i:=i) hs
 rw[hws] at hwm
 have ea:hY b s (d+1) sort p=if ws.length=0 then(.mk [113] [],p) else(.mk (ws.getD (dk b p ws.length).toNat sX).name (mu (hY b s d) (ws.getD (dk b p ws.length).toNat sX).args (p+1)).1,(mu (hY b s d) (ws.getD (dk b p ws.length).toNat sX).args (p+1)).2):=by rw[←hws];rfl
 refine gS (nt:=89) (rs:=[.cell 8 34]) hm Tryz.func164 fun hl he cq=>?_
 refine aL hm (fun(i:Nat)=> i≤s.syms.length) (fun(i:Nat)=> ⟨dx 89 .any [(0,.ptr 0 0),(2,iv sort),(3,iv ((d:Int)+1)),(5,.ptr 1 0),(8,.ptr 2 0),(9,.acc 3),(10,iv i)],[some (uj b p),some (.box (cE (dV s))),some (.box [sv [],.b8]),some (.acc 126 (dY (Aj s sort (d+1) i)))]⟩) (fun(i:Nat)=> s.syms.length-i) (0) ?_ (ar [some 0,some 1,some 2,some 3] ?_ ?_ rfl rfl) ?_
 rotate_left
 ·exact sC
 ·refine sA ?_
  all_goals(rfl)
 rotate_left
 ·omega
 ·rintro i hi
  have hfl:=OV s sort (d+1) i
  rcases aa (i<s.syms.length) with h3|h3
  ·have e:=Np s sort (d+1) i h3
   rcases aa (s.syms[i].sort=sort) with h4|h4
   ·have k4:=eq_true h4
    rcases aa (1<d+1) with h5|h5
    ·have h5':(1:Int)<(d:Int)+1:=by omega
     rw[if_pos (by simp[h4,h5])] at e
     simp -implicitDefEqProofs only[go_sem,h3,k4,h5']
     refine sQ ?_
     refine⟨i+1,?_,sL,ar [some 0,some 1,some 2,some 4] ?_ ?_ rfl rfl⟩
     rotate_left
     ·exact sC
     ·refine sA ?_
      all_goals((rw[e,←td];rfl))
     omega
    ·have h5':¬ (1:Int)<(d:Int)+1:=by omega
     rcases aa ((s.syms[i].args.length:Int)=0) with h6|h6
     ·have h6n:s.syms[i].args.length=0:=by omega
      have k6:=eq_true h6
      rw[if_pos (by simp[h4,h6n])] at e
      simp -implicitDefEqProofs only[go_sem,h3,k4,h5',k6]
      refine sQ ?_
      refine⟨i+1,?_,sL,ar [some 0,some 1,some 2,some 4] ?_ ?_ rfl rfl⟩
      rotate_left
      ·exact sC
      ·refine sA ?_
       all_goals((rw[e,←td];rfl))
      omega
     ·have h6n:¬s.syms[i].args.length=0:=by omega
      rw[if_neg (by simp only[h5,h6n,decide_false,Bool.or_self,iU];simp),bl] at e
      simp -implicitDefEqProofs only[go_sem,h3,k4,h5',h6]
      refine sQ ?_
      refine⟨i+1,?_,sL,ar [some 0,some 1,some 2,some 3] ?_ ?_ rfl rfl⟩
      rotate_left
      ·exact sC
      ·refine sA ?_
       all_goals((rw[e]))
      omega
   ·rw[if_neg (by simp[h4]),bl] at e
    simp -implicitDefEqProofs only[go_sem,h3,h4]
    refine sQ ?_
    refine⟨i+1,?_,sL,ar [some 0,some 1,some 2,some 3] ?_ ?_ rfl rfl⟩
    rotate_left
    ·exact sC
    ·refine sA ?_
     all_goals((rw[e]))
    omega
  ·rw[Qj s sort (d+1) i (by omega),hws]
   rcases aa (ws.length=0) with h4|h4
   ·have k4:((ws.length:Int)=0)=True:=eq_true (by omega)
    rw[if_pos h4] at ea
    simp -implicitDefEqProofs only[go_sem,h3,k4]
    refine bZ [some 0,none] ?_ rfl rfl
    refine sA ?_
    rw[ea]
    exact⟨rfl,rfl,rfl⟩
   ·rw[if_neg h4] at ea
    obtain⟨k,ek,hk⟩:=vz hb (p:=p) (n:=ws.length) h1 (by omega)
    have ex:ws.getD k sX=ws[k]:=by rw[aA,ah hk];rfl
    obtain⟨w1,w2⟩:=hwm k
    obtain⟨w3,w4⟩:=w2 hk
    rw[ex] at w1 w3 w4
    rw[ek,bn,ex] at ea
    have h4':¬ (ws.length:Int)=0:=by omega
    simp -implicitDefEqProofs only[go_sem,h3,h4']
    refine oC [] [0] (nk b p ws.length hb h1 (by omega)) ?_
    rw[ek]
    simp -implicitDefEqProofs only[go_sem,hk]
    rw[ea]
    generalize ws[k]=x at w1 w4⊢
    refine aL hm (fun(i:Nat)=> i≤x.args.length) (fun(i:Nat)=> ⟨dx 89 .any [(0,.ptr 0 0),(3,iv ((d:Int)+1)),(5,.ptr 1 0),(8,.ptr 2 0),(11,.ptr 3 0),(12,.ptr 4 0),(13,iv i)],[some (uj b (mu (hY b s d) (x.args.take i) (p+1)).2),some (.box (cE (dV s))),some (.box [sv [],.b8]),some (.box (cE (wK x))),some (.box [sv x.name,.acc 5]),some (.acc 34 (aN (mu (hY b s d) (x.args.take i) (p+1)).1))]⟩) (fun(i:Nat)=> x.args.length-i) (0) ?_ (ar [some 0,some 1,some 2,some 4,some 5,none] ?_ ?_ rfl rfl) ?_
    rotate_left
    ·exact sC
    ·refine sA ?_
     all_goals(exact⟨rfl,rfl⟩)
    rotate_left
    ·omega
    ·rintro i hi
     have hq:=Qz (f:=hY b s d) (c:=2 ^ d-1) (fun a p=>GZ hs d a p) (x.args.take i) (p+1)
     have hln:=Bo (hY b s d) (x.args.take i) (p+1)
     rw[bU] at hln
     rcases aa (i<x.args.length) with h5|h5
     ·have hd:1≤d:=by
       rcases Nat.eq_zero_or_pos d with rfl|hd
       ·rw[w4 (aJ 1)] at h5;simp at h5
       ·exact hd
      have hmul:(((x.args.take i).length:Nat):Int)*(2 ^ d-1)≤1*(2 ^ d-1):=Int.mul_le_mul_of_nonneg_right (by rw[bU];omega) (by omega)
      have hc:=ih hd x.args[i] (mu (hY b s d) (x.args.take i) (p+1)).2 (by omega) (by omega)
      have jw:=SD (hY b s d) h5 (p+1)
      have nq:((d:Int)+1-1)=(d:Int):=by omega
      have hrows:aN (mu (hY b s d) (x.args.take i) (p+1)).1++[cT (hY b s d x.args[i] (mu (hY b s d) (x.args.take i) (p+1)).2).1]=aN (mu (hY b s d) (x.args.take (i+1)) (p+1)).1:=by
       rw[jw]
       exact(congrArg (aN (mu (hY b s d) (x.args.take i) (p+1)).1 ++ ·) (dC _ _).symm).trans (kW _ [_])
      have hq2:(hY b s d x.args[i] (mu (hY b s d) (x.args.take i) (p+1)).2).2=(mu (hY b s d) (x.args.take (i+1)) (p+1)).2:=by rw[jw]
      simp -implicitDefEqProofs only[go_sem,h5,nq]
      refine sQ ?_
      refine oC [] [0] hc ?_
      refine sQ ?_
      refine⟨i+1,?_,sL,ar [some 0,some 1,some 2,some 3,some 4,some 6] ?_ ?_ rfl rfl⟩
      rotate_left
      ·exact sC
      ·refine sA ?_
       all_goals(exact⟨by rw[hq2],hrows⟩)
      omega
     ·have et:x.args.take i=x.args:=ao (by omega)
      rw[et]
      refine uE ?_
      refine bZ [some 0,some 5] ?_ rfl rfl
      exact sC
theorem rN(b:List Int)(hb:yU b)(s:dK)(hs:fM s):∀(d:Nat)(sort p:Int),1≤d→0≤p→p+2 ^ d≤1000000000 →
 C E.P 164 [.ptr 0 0,av (dV s),iv sort,iv d] [some (uj b p)] (bz (.agg [sv (hY b s d sort p).1.name,.acc 1]) [some (uj b (hY b s d sort p).2),some (.acc 34 (aN (hY b s d sort p).1.kids))])
 | 0,_,_,hd,_,_=>by omega
 | d+1,sort,p,_,h1,h2=>EL b hb s hs d sort p h1 h2 fun hd sort q g1 g2=>by
   refine(rN b hb s hs d sort q hd g1 g2).NC [some 0] ?_ rfl rfl
   refine sA ?_
   rfl
theorem rr(b:List Int)(hb:yU b)(s:dK)(hs:fM s)(d:Nat)(sort p:Int)(hd:1≤d)(h1:0≤p)(h2:p+2 ^ d≤1000000000) :
 C E.P 164 [.ptr 0 0,av (dV s),iv sort,iv d] [some (uj b p)] (bz (av (cT (hY b s d sort p).1)) [some (uj b (hY b s d sort p).2)]):=by
 refine(rN b hb s hs d sort p hd h1 h2).NC [some 0] ?_ rfl rfl
 refine sA ?_
 rfl
theorem SF(b:List Int){s:dK}(hs:fM s)(d:Nat)(sort p:Int):(hY b s d sort p).1.kids.length≤2:=by
 cases d with
 | zero=>simp[hY,Term.kids]
 | succ d=>
   unfold hY
   split
   ·simp[Term.kids]
   ·simp only[Term.kids,Bo]
    exact(vC hs).1
theorem Pz{t:Term}{n:Int}{us:List Term}{ks:List Int}{d:Bool}{i:Nat}(h1:i<us.length)(h2:i<ks.length):lq t n (us.drop i) (ks.drop i) d =
 ((if !d&& !gy (aO us[i]) (aO t) then [t] else [])++((if decide (aO us[i]≠aO t) then [us[i]] else [])++(lq t n (us.drop (i+1)) (ks.drop (i+1)) (d||(!d&& !gy (aO us[i]) (aO t)))).1),
  (if !d&& !gy (aO us[i]) (aO t) then [n] else [])++((if decide (aO us[i]≠aO t) then [ks[i]] else [])++(lq t n (us.drop (i+1)) (ks.drop (i+1)) (d||(!d&& !gy (aO us[i]) (aO t)))).2)):=by
 rw[ae h1,ae h2]
 rfl
theorem Sn{t:Term}{n:Int}{us:List Term}{ks:List Int}{d:Bool}{i:Nat}(h1:us.length≤i):lq t n (us.drop i) (ks.drop i) d=if d then([],[]) else([t],[n]):=by
 rw[List.drop_of_length_le h1]
 rfl
theorem pS(us:List Term)(t:Term):aN us++[[D.str t.name,D.dt (aN t.kids)]]=aN (us++[t]):=by rw[←kW,dC,fX];rfl
theorem r7(us:List Int)(n:Int):bF us++[[D.val (Value.int .i64 n)]]=bF (us++[n]):=by rw[←eK];rfl
theorem HT(k:Int)(nums:List Term)(times:List Int)(bd:Int)(st:Bool)(t:Term)(n:Int)(hl:nums.length=times.length)(o5:nums.length≤1000)(hsh:∀u∈nums,bO u 4=true)(ht:bO t 4=true) :
 C E.P 212 [.agg [iv k,sv [],.b8,sv [],.b8,.acc 0,.acc 1,iv bd,bv st],av (cT t),iv n] [some (.acc 34 (aN nums)),some (.acc 3 (bF times))] (bz (.agg [iv k,sv [],.b8,sv [],.b8,.acc 2,.acc 3,iv bd,bv st]) [some (.acc 34 (aN nums)),some (.acc 3 (bF times)),some (.acc 34 (aN (lq t n nums times false).1)),some (.acc 3 (bF (lq t n nums times false).2))]):=by
 refine gS (nt:=90) (rs:=[.cell 6 47]) hm Tryz.func212 fun hl he cq=>?_
 refine kS hm (fun(i:Nat) (dn:Bool) (uk:List Term×List Int)=> i≤nums.length∧uk.1.length≤2*i∧uk.2.length≤2*i∧lq t n nums times false=(uk.1++(lq t n (nums.drop i) (times.drop i) dn).1,uk.2++(lq t n (nums.drop i) (times.drop i) dn).2)) (fun(i:Nat) (dn:Bool) (uk:List Term×List Int)=> ⟨dx 90 .any [(2,iv n),(3,.ptr 2 0),(4,.ptr 3 0),(6,.ptr 4 0),(7,.ptr 5 0),(8,bv dn),(9,iv i)],[some (.acc 34 (aN nums)),some (.acc 3 (bF times)),some (.box [iv k,sv [],.b8,sv [],.b8,.acc 0,.acc 1,iv bd,bv st]),some (.box (cE (cT t))),some (.box [iv 0,sv [],.b8,sv [],.b8,.b8,.b8,iv 0,bv false]),some (.box [iv k,sv [],.b8,sv [],.b8,.acc 6,.acc 7,iv bd,bv st]),some (.acc 34 (aN uk.1)),some (.acc 3 (bF uk.2))]⟩) (fun(i:Nat) (dn:Bool) (uk:List Term×List Int)=> nums.length-i) (0) (false) (([],[])) ?_ (ar [some 0,some 1,some 2,some 3,some 4,some 5,none,none] ?_ ?_ rfl rfl) ?_
 rotate_left
 ·exact sC
 ·exact sC
 rotate_left
 ·exact⟨Nat.zero_le _,by simp,by simp,by simp⟩
 ·rintro i dn ⟨us,ks⟩ ⟨hi,b1,b2,hg⟩
  simp only at b1 b2 hg⊢
  rcases aa (i<nums.length) with h3|h3
  ·have h4:i<times.length:=by omega
   rw[Pz h3 h4] at hg
   refine uC ?_
   refine aC [] (lY nums[i] 4 (aJ _) (hsh _ (List.getElem_mem h3))) ?_
   cases dn
   ·refine sA ?_
    refine aC [] (lY t 4 (aJ _) ht) ?_
    cases h5:Op.bytesLess (aO nums[i]) (aO t)
    ·have h5':gy (aO nums[i]) (aO t)=false:=h5
     simp only[h5',Bool.not_false,Bool.and_self,if_true,Bool.or_true] at hg
     obtain⟨us',hus⟩:∃z,us++[t]=z:=⟨_,rfl⟩
     obtain⟨ks',hks⟩:∃z,ks++[n]=z:=⟨_,rfl⟩
     have eT:=pS us t
     have eI:=r7 ks n
     have lT:us'.length=us.length+1:=by rw[←hus];simp
     have lI:ks'.length=ks.length+1:=by rw[←hks];simp
     rw[hus] at eT
     rw[hks] at eI
     rw[←bj us,hus,←bj ks,hks] at hg
     refine sA ?_
     refine sQ ?_
     simp -implicitDefEqProofs only[go_sem,eT,eI]
     refine aC [] (lY t 4 (aJ _) ht) ?_
     rcases aa (aO nums[i]=aO t) with h7|h7
     ·have k7:=eq_true h7
      rw[decide_eq_false (fun h=>h h7)] at hg
      simp only[ax,if_false,bC] at hg
      simp -implicitDefEqProofs only[go_sem,k7]
      refine sQ ?_
      refine⟨i+1,true,(us',ks'),?_,sL,ar [some 0,some 1,some 2,some 3,some 4,some 5,some 8,some 9] ?_ ?_ rfl rfl⟩
      rotate_left
      ·exact sC
      ·exact sC
      exact⟨h3,by dsimp only;omega,by dsimp only;omega,hg⟩
     ·rw[decide_eq_true h7] at hg
      simp only[if_true] at hg
      have eo:=pS us' nums[i]
      have ep:=r7 ks' times[i]
      simp -implicitDefEqProofs only[go_sem,h7,h3,h4]
      refine sQ ?_
      refine⟨i+1,true,(us'++[nums[i]],ks'++[times[i]]),?_,sL,ar [some 0,some 1,some 2,some 3,some 4,some 5,some 10,some 11] ?_ ?_ rfl rfl⟩
      rotate_left
      ·exact sC
      ·refine sA ?_
       all_goals(exact⟨eo,ep⟩)
      exact⟨h3,by simp;omega,by simp;omega,by simpa using hg⟩
    ·have h5':gy (aO nums[i]) (aO t)=true:=h5
     simp only[h5',l7,iU,ax,if_false,Bool.or_false,bC] at hg
     refine sA ?_
     refine aC [] (lY t 4 (aJ _) ht) ?_
     rcases aa (aO nums[i]=aO t) with h7|h7
     ·have k7:=eq_true h7
      rw[decide_eq_false (fun h=>h h7)] at hg
      simp only[ax,if_false,bC] at hg
      simp -implicitDefEqProofs only[go_sem,k7]
      refine sQ ?_
      refine⟨i+1,false,(us,ks),?_,sL,ar [some 0,some 1,some 2,some 3,some 4,some 5,some 6,some 7] ?_ ?_ rfl rfl⟩
      rotate_left
      ·exact sC
      ·exact sC
      exact⟨h3,by dsimp only;omega,by dsimp only;omega,hg⟩
     ·rw[decide_eq_true h7] at hg
      simp only[if_true] at hg
      have eo:=pS us nums[i]
      have ep:=r7 ks times[i]
      simp -implicitDefEqProofs only[go_sem,h7,h3,h4]
      refine sQ ?_
      refine⟨i+1,false,(us++[nums[i]],ks++[times[i]]),?_,sL,ar [some 0,some 1,some 2,some 3,some 4,some 5,some 8,some 9] ?_ ?_ rfl rfl⟩
      rotate_left
      ·exact sC
      ·refine sA ?_
       all_goals(exact⟨eo,ep⟩)
      exact⟨h3,by simp;omega,by simp;omega,by simpa using hg⟩
   ·simp only[l7,Bool.false_and,ax,if_false,Bool.true_or,bC] at hg
    refine sA ?_
    refine aC [] (lY t 4 (aJ _) ht) ?_
    rcases aa (aO nums[i]=aO t) with h7|h7
    ·have k7:=eq_true h7
     rw[decide_eq_false (fun h=>h h7)] at hg
     simp only[ax,if_false,bC] at hg
     simp -implicitDefEqProofs only[go_sem,k7]
     refine sQ ?_
     refine⟨i+1,true,(us,ks),?_,sL,ar [some 0,some 1,some 2,some 3,some 4,some 5,some 6,some 7] ?_ ?_ rfl rfl⟩
     rotate_left
     ·exact sC
     ·exact sC
     exact⟨h3,by dsimp only;omega,by dsimp only;omega,hg⟩
    ·rw[decide_eq_true h7] at hg
     simp only[if_true] at hg
     have eo:=pS us nums[i]
     have ep:=r7 ks times[i]
     simp -implicitDefEqProofs only[go_sem,h7,h3,h4]
     refine sQ ?_
     refine⟨i+1,true,(us++[nums[i]],ks++[times[i]]),?_,sL,ar [some 0,some 1,some 2,some 3,some 4,some 5,some 8,some 9] ?_ ?_ rfl rfl⟩
     rotate_left
     ·exact sC
     ·refine sA ?_
      all_goals(exact⟨eo,ep⟩)
     exact⟨h3,by simp;omega,by simp;omega,by simpa using hg⟩
  ·rw[Sn (by omega)] at hg
   rw[hg]
   cases dn
   ·refine uC ?_
    refine sQ ?_
    refine bZ [some 0,some 1,some 8,some 9] ?_ rfl rfl
    refine sA ?_
    exact⟨pS _ _,r7 _ _⟩
   ·refine uC ?_
    refine bZ [some 0,some 1,some 6,some 7] ?_ rfl rfl
    exact sC
theorem UE{b:List Int}(hb:yU b){p:Int}(h1:0≤p){l:List Int}(hl:l≠[])(hd:∀x∈l,1≤x∧x≤4):∃d:Nat,jV b p l=d∧1≤d∧d≤4∧(2:Int) ^ d≤16:=by
 obtain⟨d,e,h2,h3⟩:=yL hb h1 hl hd
 refine⟨d,e,h2,h3,?_⟩
 have:=Nat.pow_le_pow_right (n:=2) (by omega) h3
 have e:(2:Int) ^ d=((2 ^ d:Nat):Int):=by simp
 omega
theorem xF(b:List Int)(hb:yU b)(s:dK)(hs:fM s)(p:Int)(h1:0≤p)(h2:p≤900000000) :
 C E.P 162 [.ptr 0 0,av (dV s)] [some (uj b p)] (bz (.agg [iv (nV b s p).1.kind,sv (nV b s p).1.A.name,lv (aN (nV b s p).1.A.kids),sv (nV b s p).1.B.name,lv (aN (nV b s p).1.B.kids),.acc 1,.acc 2,iv (nV b s p).1.bound,bv (nV b s p).1.strict])
   [some (uj b (nV b s p).2),some (.acc 34 (aN (nV b s p).1.nums)),some (.acc 3 (bF (nV b s p).1.times))]):=by
 obtain⟨y,e0⟩:∃y,nV b s p=y:=⟨_,rfl⟩
 have ea:=e0
 unfold nV at ea
 rcases aa (dk b p 2=0) with c0|c0
 ·have k0:=eq_true c0
  rw[if_pos c0] at ea
  obtain⟨d1,ed1,d11,d12,d13⟩:=UE hb (p:=p+2) (by omega) (l:=[1,2]) (by simp) (by decide)
  simp only[ed1,bn] at ea
  have x1:=rr b hb s hs d1 (dk b (p+1) 2) (p+3) d11 (by omega) (by omega)
  have x2:=Bm (b:=b) hs (d:=d1) (by omega) (dk b (p+1) 2) (p+3)
  obtain⟨x,hx⟩:∃x,hY b s d1 (dk b (p+1) 2) (p+3)=x:=⟨_,rfl⟩
  rw[hx] at ea x1 x2
  obtain⟨d2,ed2,d21,d22,d23⟩:=UE hb (p:=x.2) (by omega) (l:=[1,1,2]) (by simp) (by decide)
  simp only[ed2,bn] at ea
  have y1:=rr b hb s hs d2 (dk b (p+1) 2) (x.2+1) d21 (by omega) (by omega)
  rw[e0,←ea]
  have q2:p+1+1=p+2:=by omega
  have q3:p+2+1=p+3:=by omega
  refine gS (nt:=54) (rs:=[.cell 4 47]) hm Tryz.func162 fun hl he cq=>?_
  refine gw [] [0] (nk b p 2 hb h1 (by omega)) ?_ ?_<;>simp -implicitDefEqProofs only[go_sem,k0]
  refine gw [] [0] (nk b (p+1) 2 hb (by omega) (by omega)) ?_ ?_<;>simp -implicitDefEqProofs only[go_sem,q2]
  refine gw [] [0] (tj b (p+2) [1,2] hb (by omega) (by omega) (by simp) (by simp)) ?_ ?_<;>simp -implicitDefEqProofs only[go_sem,ed1,q3]
  refine oC [] [0] x1 ?_
  refine gw [] [0] (tj b x.2 [1,1,2] hb (by omega) (by omega) (by simp) (by simp)) ?_ ?_<;>simp -implicitDefEqProofs only[go_sem,ed2]
  refine oC [] [0] y1 ?_
  refine iK ?_
  refine bZ [some 0,none,none] ?_ rfl rfl
  exact sC
 ·rw[if_neg c0] at ea
  obtain⟨N,eN,n1,n2⟩:=yL hb (p:=p+3) (by omega) (l:=[1,2,2,3]) (by simp) (by decide)
  simp only[eN,bn] at ea
  obtain⟨bd,hbd⟩:∃x,jV b (p+1) [0,1,-1,2,3,-4]=x:=⟨_,rfl⟩
  obtain⟨sb,hsb⟩:∃x,decide (dk b (p+2) 3=0)=x:=⟨_,rfl⟩
  rw[hbd,hsb] at ea
  rw[e0,←ea]
  have q2:p+1+1=p+2:=by omega
  have q3:p+2+1=p+3:=by omega
  have q4:p+3+1=p+4:=by omega
  refine gS (nt:=54) (rs:=[.cell 4 47]) hm Tryz.func162 fun hl he cq=>?_
  refine gw [] [0] (nk b p 2 hb h1 (by omega)) ?_ ?_<;>simp -implicitDefEqProofs only[go_sem,c0]
  refine gw [] [0] (tj b (p+1) [0,1,-1,2,3,-4] hb (by omega) (by omega) (by simp) (by simp)) ?_ ?_<;>simp -implicitDefEqProofs only[go_sem,hbd,q2]
  refine gw [] [0] (nk b (p+2) 3 hb (by omega) (by omega)) ?_ ?_<;>simp -implicitDefEqProofs only[go_sem,q3,hsb]
  refine gw [] [0] (tj b (p+3) [1,2,2,3] hb (by omega) (by omega) (by simp) (by simp)) ?_ ?_<;>simp -implicitDefEqProofs only[go_sem,eN,q4]
  refine kS hm (fun(j:Nat) (q:Int) (uk:List Term×List Int)=> j≤N∧0≤q∧q≤p+4+(N-j)*17∧sZ (N-j) ⟨2,aM,aM,uk.1,uk.2,bd,sb⟩∧uv (lG b s) N ⟨2,aM,aM,[],[],bd,sb⟩ (p+4)=uv (lG b s) j ⟨2,aM,aM,uk.1,uk.2,bd,sb⟩ q) (fun(j:Nat) (q:Int) (uk:List Term×List Int)=> ⟨dx 54 .any [(0,.ptr 0 0),(3,.ptr 1 0),(4,.ptr 2 0),(6,.ptr 3 0),(7,iv j)],[some (uj b q),some (.box (cE (dV s))),some (.box [iv 0,sv [],.b8,sv [],.b8,.b8,.b8,iv 0,bv false]),some (.box [iv 2,sv [],.b8,sv [],.b8,.acc 4,.acc 5,iv bd,bv sb]),some (.acc 34 (aN uk.1)),some (.acc 3 (bF uk.2))]⟩) (fun(j:Nat) (q:Int) (uk:List Term×List Int)=> j) (N) (p+4) (([],[])) ?_ (ar [some 0,some 1,some 2,some 3,none,none] ?_ ?_ rfl rfl) ?_
  rotate_left
  ·exact sC
  ·exact sC
  rotate_left
  ·exact⟨aJ _,by omega,by omega,⟨rfl,by simp,by simp⟩,rfl⟩
  ·rintro j q ⟨us,ks⟩ ⟨hj,hq1,hq2,hf,hg⟩
   simp only at hf hg⊢
   rcases aa ((0:Int)<(j:Int)) with h3|h3
   ·obtain⟨j,rfl⟩:∃j',j=j'+1:=⟨j-1,by omega⟩
    have hfew:us.length≤N-(j+1):=hf.few
    have dy:us.length=ks.length:=hf.len
    obtain⟨d1,ed1,d11,d12,d13⟩:=UE hb (p:=q) hq1 (l:=[1,1,2]) (by simp) (by decide)
    have x1:=rr b hb s hs d1 1 (q+1) d11 (by omega) (by omega)
    have x2:=Bm (b:=b) hs (d:=d1) (by omega) 1 (q+1)
    have x3:=Ac hb hs d1 1 (q+1) (by omega) d11
    have sf:=B5 hb hs (m:=N-(j+1)) (p:=q) hq1 hf
    have sb2:=Jz hb hs (a:=⟨2,aM,aM,us,ks,bd,sb⟩) (p:=q) hq1
    rw[uv] at hg
    have est:lG b s ⟨2,aM,aM,us,ks,bd,sb⟩ q=(⟨2,aM,aM,(lq (hY b s d1 1 (q+1)).1 (jV b (hY b s d1 1 (q+1)).2 [1,-1,1,-1,2,-2]) us ks false).1,(lq (hY b s d1 1 (q+1)).1 (jV b (hY b s d1 1 (q+1)).2 [1,-1,1,-1,2,-2]) us ks false).2,bd,sb⟩,(hY b s d1 1 (q+1)).2+1):=by
     simp only[lG,ed1,bn,YM]
    rw[est] at hg sf sb2
    simp only at hg sf sb2
    obtain⟨x,hx⟩:∃x,hY b s d1 1 (q+1)=x:=⟨_,rfl⟩
    rw[hx] at x1 x2 x3 hg sf sb2
    have hput:=HT 2 us ks bd sb x.1 (jV b x.2 [1,-1,1,-1,2,-2]) dy (by omega) hf.sh (JT d12 x3)
    have hjs:((j:Int)+1-1)=(j:Int):=by omega
    have h3:(0:Int)<(j:Int)+1:=by omega
    refine uC ?_
    refine gw [] [0] (tj b q [1,1,2] hb hq1 (by omega) (by simp) (by simp)) ?_ ?_<;>simp -implicitDefEqProofs only[go_sem,ed1]
    refine oC [] [0] x1 ?_
    refine oC [] [0] (tj b x.2 [1,-1,1,-1,2,-2] hb (by omega) (by omega) (by simp) (by simp)) ?_
    refine gw [] [4,5,6,7] hput ?_ ?_
    ·refine sA ?_
     first|rfl|((repeat' apply au)<;>rfl)
    refine sA ?_
    refine iK ?_
    refine sQ ?_
    simp -implicitDefEqProofs only[go_sem,hjs]
    refine⟨j,x.2+1,(lq x.1 (jV b x.2 [1,-1,1,-1,2,-2]) us ks false),?_,sL,ar [some 0,some 1,some 2,some 3,some 6,some 7] ?_ ?_ rfl rfl⟩
    rotate_left
    ·exact sC
    ·exact sC
    refine⟨by omega,by omega,by omega,?_,hg⟩
    have e:N-(j+1)+1=N-j:=by omega
    rw[e] at sf
    exact sf
   ·obtain rfl:j=0:=by omega
    rw[uv] at hg
    rw[hg]
    simp -implicitDefEqProofs only[go_sem,Z2]
    refine bZ [some 0,some 4,some 5] ?_ rfl rfl
    exact sC
theorem KS(b:List Int)(hb:yU b)(s:dK)(hs:fM s)(p:Int)(h1:0≤p)(h2:p≤900000000) :
 C E.P 162 [.ptr 0 0,av (dV s)] [some (uj b p)] (bz (av (fT (nV b s p).1)) [some (uj b (nV b s p).2)]):=by
 refine(xF b hb s hs p h1 h2).NC [some 0] ?_ rfl rfl
 refine sA ?_
 exact⟨rfl,rfl⟩
end Go.Proofs.YtabembjmeobhoaaGreat
