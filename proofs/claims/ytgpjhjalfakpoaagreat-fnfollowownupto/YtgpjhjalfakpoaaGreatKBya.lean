/-
  The reference: the walks of what is drawn: numbers, words, terms. A step towards the laws.
-/
import Derived.Test.YtgpjhjalfakpoaaGreatKBI
import Derived.Test.YtgpjhjalfakpoaaGreatKBEb
set_option linter.unusedVariables false
set_option linter.unusedSimpArgs false
open And renaming intro→ay
open Bool renaming false_eq_true→al,and_false→fw,not_true→fR
open Classical renaming em→aa
open Int renaming toNat_natCast→aA,tmod_lt_of_pos→jg,tmod_nonneg→k8
open List renaming getElem?_eq_getElem→ab,drop_eq_getElem_cons→af,take_of_length_le→an,getD_eq_getElem?_getD→aB,length_take→aO,append_assoc→bf,nil_append→bB,append_nil→bC,length_filter_le→hJ
open Nat renaming le_refl→ar,le_trans→eC
namespace Go.Proofs.YtgpjhjalfakpoaaGreat
open Go.Eng Go.Mod
open Int renaming reduceEq→Z1,reduceLT→Z2,reduceLE→Z3,reduceToNat→Z4
set_option maxRecDepth 100000
set_option maxHeartbeats 800000
def la(b:List Int)(p:Int):En:=.box [lv (Gw b),iv p]
def B3(l:List Int):List (List D):=aM l
def Co(l:List lH):List (List D):=hY l
theorem Hm:B3 []=[]:=rfl
theorem GJ(n:Int)(l:List Int):B3 (n::l)=[.val (.int .i64 n)]::B3 l:=rfl
theorem IL:Co []=[]:=rfl
theorem GM(n:lH)(l:List lH):Co (n::l)=[.str n]::Co l:=rfl
attribute [go_sem] la Hm GJ IL GM
theorem Lz(b:List Int):(Gw b).length=b.length:=by simp[Gw]
theorem Kb{b:List Int}{i:Nat}(h:i<b.length):row (Gw b) i=[.val (.int .u8 b[i])]:=by simp[Gw,row,List.getD,ab h]
attribute [go_sem] Lz
theorem xb{b:List Int}{i:Nat}(h:i<b.length):row (Gw b) i=[.val (.int .u8 (b.getD i 0))]:=by rw[Kb h,aB,ab h];rfl
theorem eO(b:List Int)(p n:Int)(hb:nh b)(h1:0≤p)(h2:p≤1000000000):C E.P 36 [.ptr 0 0,iv n] [some (la b p)] (bw (iv (bo b p n)) [some (la b (p+1))]):=by
 have hb1:=hb.len
 refine gS (nt:=99) (rs:=[.tmp 4]) hm Tryz.func36 fun hl he cp=>?_
 refine sQ ?_
 rcases aa (n<1) with h3|h3
 ·have e:bo b p n=0:=by rw[bo,if_pos h3]
  refine uC ?_
  refine bh [some 0] ?_ rfl rfl
  refine sA ?_
  rw[e]
 rcases aa (b.length=0) with h4|h4
 ·have e:bo b p n=0:=by rw[bo,if_neg h3,if_pos h4]
  have k4:((b.length:Int)=0)=True:=eq_true (by omega)
  simp -implicitDefEqProofs only[go_sem,h3,k4]
  refine bh [some 0] ?_ rfl rfl
  refine sA ?_
  rw[e]
 have h4':¬ (b.length:Int)=0:=by omega
 have q1:p+1-1=p:=by omega
 simp -implicitDefEqProofs only[go_sem,h3,h4',q1]
 rcases aa (p<b.length) with h5|h5
 ·have e:bo b p n=(b.getD p.toNat 0).tmod n:=by rw[bo,if_neg h3,if_neg h4,if_pos h5]
  have hl:p.toNat<b.length:=by omega
  have hg:=hb.getD p.toNat
  have hr:=xb hl
  have w0:IntKind.i64.wrap (b.getD p.toNat 0)=b.getD p.toNat 0:=wrap_i64 ⟨by omega,by omega⟩
  simp -implicitDefEqProofs only[go_sem,h5,hr,w0]
  refine sQ ?_
  refine bh [some 0] ?_ rfl rfl
  refine sA ?_
  rw[e]
 ·have e:bo b p n=(CI (nE b p) ((nE b p).tdiv 64)).tmod n:=by rw[bo,if_neg h3,if_neg h4,if_neg h5]
  obtain⟨x1,x2,x3,x4⟩:=Kw hb h1 h2 h4
  have m1:0≤p.tmod b.length∧p.tmod b.length<b.length:=⟨k8 _ h1,jg _ (by omega)⟩
  have m2:0≤(p*7+3).tmod b.length∧(p*7+3).tmod b.length<b.length:=⟨k8 _ (by omega),jg _ (by omega)⟩
  have l1:(p.tmod b.length).toNat<b.length:=by omega
  have l2:((p*7+3).tmod b.length).toNat<b.length:=by omega
  have hr1:=xb l1
  have hr2:=xb l2
  have g1:=hb.getD (p.tmod b.length).toNat
  have g2:=hb.getD ((p*7+3).tmod b.length).toNat
  have d1:0≤(nE b p).tdiv 64∧(nE b p).tdiv 64≤nE b p:=by
   rw[Int.tdiv_eq_ediv_of_nonneg x3]
   omega
  have ex:nE b p=b.getD (p.tmod b.length).toNat 0*131+b.getD ((p*7+3).tmod b.length).toNat 0*1117+p*29+p.tdiv b.length*53:=rfl
  have w1:IntKind.i64.wrap (b.getD (p.tmod b.length).toNat 0)=b.getD (p.tmod b.length).toNat 0:=wrap_i64 ⟨by omega,by omega⟩
  have w2:IntKind.i64.wrap (b.getD ((p*7+3).tmod b.length).toNat 0)=b.getD ((p*7+3).tmod b.length).toNat 0:=wrap_i64 ⟨by omega,by omega⟩
  simp -implicitDefEqProofs only[go_sem,h5,hr1,hr2,w1,w2]
  refine sQ ?_
  rw[←ex]
  refine sQ ?_
  refine N4 (nE b p) ((nE b p).tdiv 64) (by simp -implicitDefEqProofs only[go_sem]) (by simp -implicitDefEqProofs only[go_sem]) (by omega) (by omega) (by omega) (by omega) ?_
  refine sA ?_
  refine sQ ?_
  refine bh [some 0] ?_ rfl rfl
  refine sA ?_
  rw[e]
theorem jh(b:List Int)(p:Int)(l:List Int)(hb:nh b)(h1:0≤p)(h2:p≤1000000000)(hl:l≠[])(hl2:l.length≤100):C E.P 37 [.ptr 0 0,lv (B3 l)] [some (la b p)] (bw (iv (dG b p l)) [some (la b (p+1))]):=by
 have hn:1≤l.length:=by cases l with|nil=>exact(hl rfl).elim|cons=>simp
 obtain⟨k,e,hk⟩:=kq hb (p:=p) (n:=l.length) h1 hn
 have hL:(B3 l).length=l.length:=by simp[B3,aM]
 have hr:row (B3 l) k=[.val (.int .i64 (dG b p l))]:=by
  rw[B3,tU hk,dG,e,aA,aB,ab hk]
  rfl
 refine gS (nt:=12) (rs:=[.tmp 4]) hm Tryz.func37 fun hl he cp=>?_
 simp -implicitDefEqProofs only[go_sem,hL]
 refine oC [] [0] (eO b p l.length hb h1 h2) ?_
 rw[e]
 simp -implicitDefEqProofs only[go_sem,hL,hk,hr]
 refine bh [some 0] ?_ rfl rfl
 exact sC
theorem Ns(b:List Int)(p:Int)(l:List lH)(hb:nh b)(h1:0≤p)(h2:p≤1000000000)(hl:l≠[])(hl2:l.length≤100):C E.P 73 [.ptr 0 0,lv (Co l)] [some (la b p)] (bw (sv (E5 b p l)) [some (la b (p+1))]):=by
 have hn:1≤l.length:=by cases l with|nil=>exact(hl rfl).elim|cons=>simp
 obtain⟨k,e,hk⟩:=kq hb (p:=p) (n:=l.length) h1 hn
 have hL:(Co l).length=l.length:=by simp[Co,hY]
 have hr:row (Co l) k=[.str (E5 b p l)]:=by
  rw[Co,Ai hk,E5,e,aA,aB,ab hk]
  rfl
 refine gS (nt:=12) (rs:=[.tmp 4]) hm Tryz.func73 fun hl he cp=>?_
 simp -implicitDefEqProofs only[go_sem,hL]
 refine oC [] [0] (eO b p l.length hb h1 h2) ?_
 rw[e]
 simp -implicitDefEqProofs only[go_sem,hL,hk,hr]
 refine bh [some 0] ?_ rfl rfl
 exact sC
theorem xX(b:List Int)(hb:∀x∈b,0≤x∧x≤255)(wA:b.length≤2000000):C E.P 14 [lv (Gw b)] [] (bw (.ptr 0 0) [some (la (b.take 2000) 0)]):=by
 refine gS (nt:=11) (rs:=[.tmp 2]) hm Tryz.func14 fun hl he cp=>?_
 rcases aa ((2000:Int)<(b.length:Int)) with h1|h1
 ·have h1n:2000≤b.length:=by omega
  have mr:∀y∈Gw b,y.length=1:=by
   intro y hy
   obtain⟨x,_,rfl⟩:=List.mem_map.1 hy
   rfl
  simp -implicitDefEqProofs only[go_sem,Z3,Z4,h1]
  refine ay ⟨by omega,mr⟩ ?_
  refine bh [some 0] ?_ rfl rfl
  refine sA ?_
  simp[Gw]
 ·have e:b.take 2000=b:=an (by omega)
  refine uA ?_
  refine bh [some 0] ?_ rfl rfl
  refine sA ?_
  rw[e]
theorem Hv{b:List Int}(hb:∀x∈b,0≤x∧x≤255):nh (b.take 2000):=⟨by rw[aO];omega,fun x hx=>hb x (List.mem_of_mem_take hx)⟩
theorem yU(k:Int):C E.P 124 [iv k] [] (bw (av (dc (sG k))) []):=by
 refine gS (nt:=47) (rs:=[.cell 2 25]) hm Tryz.func124 fun hl he cp=>?_
 rcases aa (k=0) with h0|h0
 ·have k0:=eq_true h0
  refine uH ?_
  refine ak ?_
  refine sA ?_
  rw[sG,if_pos h0]
  rfl
 rcases aa (k=1) with h1|h1
 ·have k1:=eq_true h1
  simp -implicitDefEqProofs only[go_sem,h0,k1]
  refine ak ?_
  refine sA ?_
  rw[sG,if_neg h0,if_pos h1]
  rfl
 rcases aa (k=2) with h2|h2
 ·have k2:=eq_true h2
  simp -implicitDefEqProofs only[go_sem,h0,h1,k2]
  refine ak ?_
  refine sA ?_
  rw[sG,if_neg h0,if_neg h1,if_pos h2]
  rfl
 rcases aa (k=3) with h3|h3
 ·have k3:=eq_true h3
  simp -implicitDefEqProofs only[go_sem,h0,h1,h2,k3]
  refine ak ?_
  refine sA ?_
  rw[sG,if_neg h0,if_neg h1,if_neg h2,if_pos h3]
  rfl
 ·simp -implicitDefEqProofs only[go_sem,h0,h1,h2,h3]
  refine ak ?_
  refine sA ?_
  rw[sG,if_neg h0,if_neg h1,if_neg h2,if_neg h3]
  rfl
theorem sg(b:List Int)(p:Int)(hb:nh b)(h1:0≤p)(h2:p≤1000000000):C E.P 62 [.ptr 0 0] [some (la b p)] (bw (av (dc (gx b p).1)) [some (la b (gx b p).2)]):=by
 refine gS (nt:=7) (rs:=[.cell 2 25]) hm Tryz.func62 fun hl he cp=>?_
 refine oC [] [0] (jh b p [0,0,1,1,2,3,1,4] hb h1 h2 (by simp) (by simp)) ?_
 refine aC [] (yU (dG b p [0,0,1,1,2,3,1,4])) ?_
 refine bh [some 0] ?_ rfl rfl
 refine sA ?_
 exact⟨rfl,rfl⟩
def qH(s:eJ)(sort:Int)(d i:Nat):List Sym:=(s.syms.take i).filter fun x=>decide (x.sort=sort)&&(decide (1<d)||decide (x.args.length=0))
theorem C4(s:eJ)(sort:Int)(d i:Nat)(h:i<s.syms.length):qH s sort d (i+1)=qH s sort d i++(if decide (s.syms[i].sort=sort)&&(decide (1<d)||decide (s.syms[i].args.length=0)) then [s.syms[i]] else []):=by
 unfold qH
 rw[List.take_add_one,ab h,List.filter_append]
 congr 1
 simp only[Option.toList_some,List.filter_cons,List.filter_nil]
theorem DL(s:eJ)(sort:Int)(d i:Nat):(qH s sort d i).length≤i:=by
 refine eC (hJ _ _) ?_
 rw[aO]
 omega
theorem Eb(s:eJ)(sort:Int)(d i:Nat)(h:s.syms.length≤i):qH s sort d i=ic s sort d:=by
 unfold qH ic
 rw[an h]
theorem vL(b:List Int)(hb:nh b)(s:eJ)(hs:c7 s)(d:Nat)(sort p:Int)(h1:0≤p)(h2:p+2 ^ (d+1)≤1000000000)
 (ih:1≤d→∀(sort q:Int),0≤q→q+2 ^ d≤1000000000→C E.P 72 [.ptr 0 0,av (dc s),iv sort,iv d] [some (la b q)] (bw (av (cT (dW b s d sort q).1)) [some (la b (dW b s d sort q).2)])) :
 C E.P 72 [.ptr 0 0,av (dc s),iv sort,iv ((d:Int)+1)] [some (la b p)] (bw (.agg [sv (dW b s (d+1) sort p).1.name,.acc 1]) [some (la b (dW b s (d+1) sort p).2),some (.acc 28 (aQ (dW b s (d+1) sort p).1.kids))]):=by
 obtain⟨hp,hp2⟩:=two_pow_pos d
 have hdl:(d:Int)<2 ^ d:=by
  have:=Nat.lt_two_pow_self (n:=d)
  have e:(2:Int) ^ d=((2 ^ d:Nat):Int):=by simp
  omega
 have hle:s.syms.length≤7:=hs.1
 obtain⟨ws,hws⟩:∃ws,ic s sort (d+1)=ws:=⟨_,rfl⟩
 have hwl:ws.length≤7:=by rw[←hws];exact eC (hJ _ _) hle
 have hwm:=fun i=>oe (sort:=sort) (d:=d+1) (i:=i) hs
 rw[hws] at hwm
 have ea:dW b s (d+1) sort p=if ws.length=0 then(.mk [113] [],p) else(.mk (ws.getD (bo b p ws.length).toNat mo).name (dR (dW b s d) (ws.getD (bo b p ws.length).toNat mo).args (p+1)).1,(dR (dW b s d) (ws.getD (bo b p ws.length).toNat mo).args (p+1)).2):=by rw[←hws];rfl
 refine gS (nt:=89) (rs:=[.cell 8 28]) hm Tryz.func72 fun hl he cp=>?_
 refine aI hm (fun(i:Nat)=> i≤s.syms.length) (fun(i:Nat)=> ⟨eQ 89 .any [(0,.ptr 0 0),(2,iv sort),(3,iv ((d:Int)+1)),(5,.ptr 1 0),(8,.ptr 2 0),(9,.acc 3),(10,iv i)],[some (la b p),some (.box (ff (dc s))),some (.box [sv [],.aV]),some (.acc 129 (eB (qH s sort (d+1) i)))]⟩) (fun(i:Nat)=> s.syms.length-i) (0) ?_ (ax [some 0,some 1,some 2,some 3] ?_ ?_ rfl rfl) ?_
 rotate_left
 ·exact sC
 ·refine sA ?_
  all_goals(rfl)
 rotate_left
 ·omega
 ·rintro i hi
  have hfl:=DL s sort (d+1) i
  rcases aa (i<s.syms.length) with h3|h3
  ·have e:=C4 s sort (d+1) i h3
   rcases aa (s.syms[i].sort=sort) with h4|h4
   ·have k4:=eq_true h4
    rcases aa (1<d+1) with h5|h5
    ·have h5':(1:Int)<(d:Int)+1:=by omega
     rw[if_pos (by simp[h4,h5])] at e
     simp -implicitDefEqProofs only[go_sem,h3,k4,h5']
     refine sQ ?_
     refine⟨i+1,?_,sL,ax [some 0,some 1,some 2,some 4] ?_ ?_ rfl rfl⟩
     rotate_left
     ·exact sC
     ·refine sA ?_
      all_goals((rw[e,←mJ];rfl))
     omega
    ·have h5':¬ (1:Int)<(d:Int)+1:=by omega
     rcases aa ((s.syms[i].args.length:Int)=0) with h6|h6
     ·have h6n:s.syms[i].args.length=0:=by omega
      have k6:=eq_true h6
      rw[if_pos (by simp[h4,h6n])] at e
      simp -implicitDefEqProofs only[go_sem,h3,k4,h5',k6]
      refine sQ ?_
      refine⟨i+1,?_,sL,ax [some 0,some 1,some 2,some 4] ?_ ?_ rfl rfl⟩
      rotate_left
      ·exact sC
      ·refine sA ?_
       all_goals((rw[e,←mJ];rfl))
      omega
     ·have h6n:¬s.syms[i].args.length=0:=by omega
      rw[if_neg (by simp only[h5,h6n,decide_false,Bool.or_self,fw];simp),bC] at e
      simp -implicitDefEqProofs only[go_sem,h3,k4,h5',h6]
      refine sQ ?_
      refine⟨i+1,?_,sL,ax [some 0,some 1,some 2,some 3] ?_ ?_ rfl rfl⟩
      rotate_left
      ·exact sC
      ·refine sA ?_
       all_goals((rw[e]))
      omega
   ·rw[if_neg (by simp[h4]),bC] at e
    simp -implicitDefEqProofs only[go_sem,h3,h4]
    refine sQ ?_
    refine⟨i+1,?_,sL,ax [some 0,some 1,some 2,some 3] ?_ ?_ rfl rfl⟩
    rotate_left
    ·exact sC
    ·refine sA ?_
     all_goals((rw[e]))
    omega
  ·rw[Eb s sort (d+1) i (by omega),hws]
   rcases aa (ws.length=0) with h4|h4
   ·have k4:((ws.length:Int)=0)=True:=eq_true (by omega)
    rw[if_pos h4] at ea
    simp -implicitDefEqProofs only[go_sem,h3,k4]
    refine bh [some 0,none] ?_ rfl rfl
    refine sA ?_
    rw[ea]
    exact⟨rfl,rfl,rfl⟩
   ·rw[if_neg h4] at ea
    obtain⟨k,ek,hk⟩:=kq hb (p:=p) (n:=ws.length) h1 (by omega)
    have ex:ws.getD k mo=ws[k]:=by rw[aB,ab hk];rfl
    obtain⟨w1,w2⟩:=hwm k
    obtain⟨w3,w4⟩:=w2 hk
    rw[ex] at w1 w3 w4
    rw[ek,aA,ex] at ea
    have h4':¬ (ws.length:Int)=0:=by omega
    simp -implicitDefEqProofs only[go_sem,h3,h4']
    refine oC [] [0] (eO b p ws.length hb h1 (by omega)) ?_
    rw[ek]
    simp -implicitDefEqProofs only[go_sem,hk]
    rw[ea]
    generalize ws[k]=x at w1 w4⊢
    refine aI hm (fun(i:Nat)=> i≤x.args.length) (fun(i:Nat)=> ⟨eQ 89 .any [(0,.ptr 0 0),(3,iv ((d:Int)+1)),(5,.ptr 1 0),(8,.ptr 2 0),(11,.ptr 3 0),(12,.ptr 4 0),(13,iv i)],[some (la b (dR (dW b s d) (x.args.take i) (p+1)).2),some (.box (ff (dc s))),some (.box [sv [],.aV]),some (.box (ff (qa x))),some (.box [sv x.name,.acc 5]),some (.acc 28 (aQ (dR (dW b s d) (x.args.take i) (p+1)).1))]⟩) (fun(i:Nat)=> x.args.length-i) (0) ?_ (ax [some 0,some 1,some 2,some 4,some 5,none] ?_ ?_ rfl rfl) ?_
    rotate_left
    ·exact sC
    ·refine sA ?_
     all_goals(exact⟨rfl,rfl⟩)
    rotate_left
    ·omega
    ·rintro i hi
     have hq:=DF (f:=dW b s d) (c:=2 ^ d-1) (fun a p=>x6 hs d a p) (x.args.take i) (p+1)
     have hln:=oV (dW b s d) (x.args.take i) (p+1)
     rw[aO] at hln
     rcases aa (i<x.args.length) with h5|h5
     ·have hd:1≤d:=by
       rcases Nat.eq_zero_or_pos d with rfl|hd
       ·rw[w4 (ar 1)] at h5;simp at h5
       ·exact hd
      have hmul:(((x.args.take i).length:Nat):Int)*(2 ^ d-1)≤1*(2 ^ d-1):=Int.mul_le_mul_of_nonneg_right (by rw[aO];omega) (by omega)
      have hc:=ih hd x.args[i] (dR (dW b s d) (x.args.take i) (p+1)).2 (by omega) (by omega)
      have dh:=zN (dW b s d) h5 (p+1)
      have Dg:((d:Int)+1-1)=(d:Int):=by omega
      have hrows:aQ (dR (dW b s d) (x.args.take i) (p+1)).1++[cT (dW b s d x.args[i] (dR (dW b s d) (x.args.take i) (p+1)).2).1]=aQ (dR (dW b s d) (x.args.take (i+1)) (p+1)).1:=by
       rw[dh]
       exact(congrArg (aQ (dR (dW b s d) (x.args.take i) (p+1)).1 ++ ·) (eW _ _).symm).trans (iw _ [_])
      have hq2:(dW b s d x.args[i] (dR (dW b s d) (x.args.take i) (p+1)).2).2=(dR (dW b s d) (x.args.take (i+1)) (p+1)).2:=by rw[dh]
      simp -implicitDefEqProofs only[go_sem,h5,Dg]
      refine sQ ?_
      refine oC [] [0] hc ?_
      refine sQ ?_
      refine⟨i+1,?_,sL,ax [some 0,some 1,some 2,some 3,some 4,some 6] ?_ ?_ rfl rfl⟩
      rotate_left
      ·exact sC
      ·refine sA ?_
       all_goals(exact⟨by rw[hq2],hrows⟩)
      omega
     ·have et:x.args.take i=x.args:=an (by omega)
      rw[et]
      refine uE ?_
      refine bh [some 0,some 5] ?_ rfl rfl
      exact sC
theorem l9(b:List Int)(hb:nh b)(s:eJ)(hs:c7 s):∀(d:Nat)(sort p:Int),1≤d→0≤p→p+2 ^ d≤1000000000 →
 C E.P 72 [.ptr 0 0,av (dc s),iv sort,iv d] [some (la b p)] (bw (.agg [sv (dW b s d sort p).1.name,.acc 1]) [some (la b (dW b s d sort p).2),some (.acc 28 (aQ (dW b s d sort p).1.kids))])
 | 0,_,_,hd,_,_=>by omega
 | d+1,sort,p,_,h1,h2=>vL b hb s hs d sort p h1 h2 fun hd sort q g1 g2=>by
   refine(l9 b hb s hs d sort q hd g1 g2).EH [some 0] ?_ rfl rfl
   refine sA ?_
   rfl
theorem lA(b:List Int)(hb:nh b)(s:eJ)(hs:c7 s)(d:Nat)(sort p:Int)(hd:1≤d)(h1:0≤p)(h2:p+2 ^ d≤1000000000) :
 C E.P 72 [.ptr 0 0,av (dc s),iv sort,iv d] [some (la b p)] (bw (av (cT (dW b s d sort p).1)) [some (la b (dW b s d sort p).2)]):=by
 refine(l9 b hb s hs d sort p hd h1 h2).EH [some 0] ?_ rfl rfl
 refine sA ?_
 rfl
theorem GH(b:List Int){s:eJ}(hs:c7 s)(d:Nat)(sort p:Int):(dW b s d sort p).1.kids.length≤2:=by
 cases d with
 | zero=>simp[dW,Term.kids]
 | succ d=>
   unfold dW
   split
   ·simp[Term.kids]
   ·simp only[Term.kids,oV]
    exact(oe hs).1
theorem Ea{t:Term}{n:Int}{us:List Term}{ks:List Int}{d:Bool}{i:Nat}(h1:i<us.length)(h2:i<ks.length):gz t n (us.drop i) (ks.drop i) d =
 ((if !d&& !iE (aF us[i]) (aF t) then [t] else [])++((if decide (aF us[i]≠aF t) then [us[i]] else [])++(gz t n (us.drop (i+1)) (ks.drop (i+1)) (d||(!d&& !iE (aF us[i]) (aF t)))).1),
  (if !d&& !iE (aF us[i]) (aF t) then [n] else [])++((if decide (aF us[i]≠aF t) then [ks[i]] else [])++(gz t n (us.drop (i+1)) (ks.drop (i+1)) (d||(!d&& !iE (aF us[i]) (aF t)))).2)):=by
 rw[af h1,af h2]
 rfl
theorem GW{t:Term}{n:Int}{us:List Term}{ks:List Int}{d:Bool}{i:Nat}(h1:us.length≤i):gz t n (us.drop i) (ks.drop i) d=if d then([],[]) else([t],[n]):=by
 rw[List.drop_of_length_le h1]
 rfl
theorem jX(us:List Term)(t:Term):aQ us++[[D.str t.name,D.b7 (aQ t.kids)]]=aQ (us++[t]):=by rw[←iw,eW,gQ];rfl
theorem me(us:List Int)(n:Int):aM us++[[D.val (Value.int .i64 n)]]=aM (us++[n]):=by rw[←gh];rfl
theorem yk(k:Int)(aP:List Term)(times:List Int)(bd:Int)(st:Bool)(t:Term)(n:Int)(hl:aP.length=times.length)(wA:aP.length≤1000)(hsh:∀u∈aP,a8 u 4=true)(ht:a8 t 4=true) :
 C E.P 129 [.agg [iv k,sv [],.aV,sv [],.aV,.acc 0,.acc 1,iv bd,bv st],av (cT t),iv n] [some (.acc 28 (aQ aP)),some (.acc 3 (aM times))] (bw (.agg [iv k,sv [],.aV,sv [],.aV,.acc 2,.acc 3,iv bd,bv st]) [some (.acc 28 (aQ aP)),some (.acc 3 (aM times)),some (.acc 28 (aQ (gz t n aP times false).1)),some (.acc 3 (aM (gz t n aP times false).2))]):=by
 refine gS (nt:=90) (rs:=[.cell 6 31]) hm Tryz.func129 fun hl he cp=>?_
 refine kL hm (fun(i:Nat) (dn:Bool) (uk:List Term×List Int)=> i≤aP.length∧uk.1.length≤2*i∧uk.2.length≤2*i∧gz t n aP times false=(uk.1++(gz t n (aP.drop i) (times.drop i) dn).1,uk.2++(gz t n (aP.drop i) (times.drop i) dn).2)) (fun(i:Nat) (dn:Bool) (uk:List Term×List Int)=> ⟨eQ 90 .any [(2,iv n),(3,.ptr 2 0),(4,.ptr 3 0),(6,.ptr 4 0),(7,.ptr 5 0),(8,bv dn),(9,iv i)],[some (.acc 28 (aQ aP)),some (.acc 3 (aM times)),some (.box [iv k,sv [],.aV,sv [],.aV,.acc 0,.acc 1,iv bd,bv st]),some (.box (ff (cT t))),some (.box [iv 0,sv [],.aV,sv [],.aV,.aV,.aV,iv 0,bv false]),some (.box [iv k,sv [],.aV,sv [],.aV,.acc 6,.acc 7,iv bd,bv st]),some (.acc 28 (aQ uk.1)),some (.acc 3 (aM uk.2))]⟩) (fun(i:Nat) (dn:Bool) (uk:List Term×List Int)=> aP.length-i) (0) (false) (([],[])) ?_ (ax [some 0,some 1,some 2,some 3,some 4,some 5,none,none] ?_ ?_ rfl rfl) ?_
 rotate_left
 ·exact sC
 ·exact sC
 rotate_left
 ·exact⟨Nat.zero_le _,by simp,by simp,by simp⟩
 ·rintro i dn ⟨us,ks⟩ ⟨hi,b1,b2,hg⟩
  simp only at b1 b2 hg⊢
  rcases aa (i<aP.length) with h3|h3
  ·have h4:i<times.length:=by omega
   rw[Ea h3 h4] at hg
   refine uC ?_
   refine aC [] (gR aP[i] 4 (ar _) (hsh _ (List.getElem_mem h3))) ?_
   cases dn
   ·refine sA ?_
    refine aC [] (gR t 4 (ar _) ht) ?_
    cases h5:Op.bytesLess (aF aP[i]) (aF t)
    ·have h5':iE (aF aP[i]) (aF t)=false:=h5
     simp only[h5',Bool.not_false,Bool.and_self,if_true,Bool.or_true] at hg
     obtain⟨us',hus⟩:∃z,us++[t]=z:=⟨_,rfl⟩
     obtain⟨ks',hks⟩:∃z,ks++[n]=z:=⟨_,rfl⟩
     have eT:=jX us t
     have eI:=me ks n
     have lT:us'.length=us.length+1:=by rw[←hus];simp
     have lI:ks'.length=ks.length+1:=by rw[←hks];simp
     rw[hus] at eT
     rw[hks] at eI
     rw[←bf us,hus,←bf ks,hks] at hg
     refine sA ?_
     refine sQ ?_
     simp -implicitDefEqProofs only[go_sem,eT,eI]
     refine aC [] (gR t 4 (ar _) ht) ?_
     rcases aa (aF aP[i]=aF t) with h7|h7
     ·have k7:=eq_true h7
      rw[decide_eq_false (fun h=>h h7)] at hg
      simp only[al,if_false,bB] at hg
      simp -implicitDefEqProofs only[go_sem,k7]
      refine sQ ?_
      refine⟨i+1,true,(us',ks'),?_,sL,ax [some 0,some 1,some 2,some 3,some 4,some 5,some 8,some 9] ?_ ?_ rfl rfl⟩
      rotate_left
      ·exact sC
      ·exact sC
      exact⟨h3,by dsimp only;omega,by dsimp only;omega,hg⟩
     ·rw[decide_eq_true h7] at hg
      simp only[if_true] at hg
      have eo:=jX us' aP[i]
      have ep:=me ks' times[i]
      simp -implicitDefEqProofs only[go_sem,h7,h3,h4]
      refine sQ ?_
      refine⟨i+1,true,(us'++[aP[i]],ks'++[times[i]]),?_,sL,ax [some 0,some 1,some 2,some 3,some 4,some 5,some 10,some 11] ?_ ?_ rfl rfl⟩
      rotate_left
      ·exact sC
      ·refine sA ?_
       all_goals(exact⟨eo,ep⟩)
      exact⟨h3,by simp;omega,by simp;omega,by simpa using hg⟩
    ·have h5':iE (aF aP[i]) (aF t)=true:=h5
     simp only[h5',fR,fw,al,if_false,Bool.or_false,bB] at hg
     refine sA ?_
     refine aC [] (gR t 4 (ar _) ht) ?_
     rcases aa (aF aP[i]=aF t) with h7|h7
     ·have k7:=eq_true h7
      rw[decide_eq_false (fun h=>h h7)] at hg
      simp only[al,if_false,bB] at hg
      simp -implicitDefEqProofs only[go_sem,k7]
      refine sQ ?_
      refine⟨i+1,false,(us,ks),?_,sL,ax [some 0,some 1,some 2,some 3,some 4,some 5,some 6,some 7] ?_ ?_ rfl rfl⟩
      rotate_left
      ·exact sC
      ·exact sC
      exact⟨h3,by dsimp only;omega,by dsimp only;omega,hg⟩
     ·rw[decide_eq_true h7] at hg
      simp only[if_true] at hg
      have eo:=jX us aP[i]
      have ep:=me ks times[i]
      simp -implicitDefEqProofs only[go_sem,h7,h3,h4]
      refine sQ ?_
      refine⟨i+1,false,(us++[aP[i]],ks++[times[i]]),?_,sL,ax [some 0,some 1,some 2,some 3,some 4,some 5,some 8,some 9] ?_ ?_ rfl rfl⟩
      rotate_left
      ·exact sC
      ·refine sA ?_
       all_goals(exact⟨eo,ep⟩)
      exact⟨h3,by simp;omega,by simp;omega,by simpa using hg⟩
   ·simp only[fR,Bool.false_and,al,if_false,Bool.true_or,bB] at hg
    refine sA ?_
    refine aC [] (gR t 4 (ar _) ht) ?_
    rcases aa (aF aP[i]=aF t) with h7|h7
    ·have k7:=eq_true h7
     rw[decide_eq_false (fun h=>h h7)] at hg
     simp only[al,if_false,bB] at hg
     simp -implicitDefEqProofs only[go_sem,k7]
     refine sQ ?_
     refine⟨i+1,true,(us,ks),?_,sL,ax [some 0,some 1,some 2,some 3,some 4,some 5,some 6,some 7] ?_ ?_ rfl rfl⟩
     rotate_left
     ·exact sC
     ·exact sC
     exact⟨h3,by dsimp only;omega,by dsimp only;omega,hg⟩
    ·rw[decide_eq_true h7] at hg
     simp only[if_true] at hg
     have eo:=jX us aP[i]
     have ep:=me ks times[i]
     simp -implicitDefEqProofs only[go_sem,h7,h3,h4]
     refine sQ ?_
     refine⟨i+1,true,(us++[aP[i]],ks++[times[i]]),?_,sL,ax [some 0,some 1,some 2,some 3,some 4,some 5,some 8,some 9] ?_ ?_ rfl rfl⟩
     rotate_left
     ·exact sC
     ·refine sA ?_
      all_goals(exact⟨eo,ep⟩)
     exact⟨h3,by simp;omega,by simp;omega,by simpa using hg⟩
  ·rw[GW (by omega)] at hg
   rw[hg]
   cases dn
   ·refine uC ?_
    refine sQ ?_
    refine bh [some 0,some 1,some 8,some 9] ?_ rfl rfl
    refine sA ?_
    exact⟨jX _ _,me _ _⟩
   ·refine uC ?_
    refine bh [some 0,some 1,some 6,some 7] ?_ rfl rfl
    exact sC
theorem zF{b:List Int}(hb:nh b){p:Int}(h1:0≤p){l:List Int}(hl:l≠[])(hd:∀x∈l,1≤x∧x≤4):∃d:Nat,dG b p l=d∧1≤d∧d≤4∧(2:Int) ^ d≤16:=by
 obtain⟨d,e,h2,h3⟩:=mG hb h1 hl hd
 refine⟨d,e,h2,h3,?_⟩
 have:=Nat.pow_le_pow_right (n:=2) (by omega) h3
 have e:(2:Int) ^ d=((2 ^ d:Nat):Int):=by simp
 omega
theorem po(b:List Int)(hb:nh b)(s:eJ)(hs:c7 s)(p:Int)(h1:0≤p)(h2:p≤900000000) :
 C E.P 70 [.ptr 0 0,av (dc s)] [some (la b p)] (bw (.agg [iv (jK b s p).1.kind,sv (jK b s p).1.A.name,lv (aQ (jK b s p).1.A.kids),sv (jK b s p).1.B.name,lv (aQ (jK b s p).1.B.kids),.acc 1,.acc 2,iv (jK b s p).1.bound,bv (jK b s p).1.strict])
   [some (la b (jK b s p).2),some (.acc 28 (aQ (jK b s p).1.aP)),some (.acc 3 (aM (jK b s p).1.times))]):=by
 obtain⟨y,e0⟩:∃y,jK b s p=y:=⟨_,rfl⟩
 have ea:=e0
 unfold jK at ea
 rcases aa (bo b p 2=0) with c0|c0
 ·have k0:=eq_true c0
  rw[if_pos c0] at ea
  obtain⟨d1,ed1,d11,d12,d13⟩:=zF hb (p:=p+2) (by omega) (l:=[1,2]) (by simp) (by decide)
  simp only[ed1,aA] at ea
  have x1:=lA b hb s hs d1 (bo b (p+1) 2) (p+3) d11 (by omega) (by omega)
  have x2:=sx (b:=b) hs (d:=d1) (by omega) (bo b (p+1) 2) (p+3)
  obtain⟨x,hx⟩:∃x,dW b s d1 (bo b (p+1) 2) (p+3)=x:=⟨_,rfl⟩
  rw[hx] at ea x1 x2
  obtain⟨d2,ed2,d21,d22,d23⟩:=zF hb (p:=x.2) (by omega) (l:=[1,1,2]) (by simp) (by decide)
  simp only[ed2,aA] at ea
  have y1:=lA b hb s hs d2 (bo b (p+1) 2) (x.2+1) d21 (by omega) (by omega)
  rw[e0,←ea]
  have q2:p+1+1=p+2:=by omega
  have q3:p+2+1=p+3:=by omega
  refine gS (nt:=54) (rs:=[.cell 4 31]) hm Tryz.func70 fun hl he cp=>?_
  refine bT [] [0] (eO b p 2 hb h1 (by omega)) ?_ ?_<;>simp -implicitDefEqProofs only[go_sem,k0]
  refine bT [] [0] (eO b (p+1) 2 hb (by omega) (by omega)) ?_ ?_<;>simp -implicitDefEqProofs only[go_sem,q2]
  refine bT [] [0] (jh b (p+2) [1,2] hb (by omega) (by omega) (by simp) (by simp)) ?_ ?_<;>simp -implicitDefEqProofs only[go_sem,ed1,q3]
  refine oC [] [0] x1 ?_
  refine bT [] [0] (jh b x.2 [1,1,2] hb (by omega) (by omega) (by simp) (by simp)) ?_ ?_<;>simp -implicitDefEqProofs only[go_sem,ed2]
  refine oC [] [0] y1 ?_
  refine iK ?_
  refine bh [some 0,none,none] ?_ rfl rfl
  exact sC
 ·rw[if_neg c0] at ea
  obtain⟨N,eN,n1,n2⟩:=mG hb (p:=p+3) (by omega) (l:=[1,2,2,3]) (by simp) (by decide)
  simp only[eN,aA] at ea
  obtain⟨bd,hbd⟩:∃x,dG b (p+1) [0,1,-1,2,3,-4]=x:=⟨_,rfl⟩
  obtain⟨sb,hsb⟩:∃x,decide (bo b (p+2) 3=0)=x:=⟨_,rfl⟩
  rw[hbd,hsb] at ea
  rw[e0,←ea]
  have q2:p+1+1=p+2:=by omega
  have q3:p+2+1=p+3:=by omega
  have q4:p+3+1=p+4:=by omega
  refine gS (nt:=54) (rs:=[.cell 4 31]) hm Tryz.func70 fun hl he cp=>?_
  refine bT [] [0] (eO b p 2 hb h1 (by omega)) ?_ ?_<;>simp -implicitDefEqProofs only[go_sem,c0]
  refine bT [] [0] (jh b (p+1) [0,1,-1,2,3,-4] hb (by omega) (by omega) (by simp) (by simp)) ?_ ?_<;>simp -implicitDefEqProofs only[go_sem,hbd,q2]
  refine bT [] [0] (eO b (p+2) 3 hb (by omega) (by omega)) ?_ ?_<;>simp -implicitDefEqProofs only[go_sem,q3,hsb]
  refine bT [] [0] (jh b (p+3) [1,2,2,3] hb (by omega) (by omega) (by simp) (by simp)) ?_ ?_<;>simp -implicitDefEqProofs only[go_sem,eN,q4]
  refine kL hm (fun(j:Nat) (q:Int) (uk:List Term×List Int)=> j≤N∧0≤q∧q≤p+4+(N-j)*17∧mM (N-j) ⟨2,fq,fq,uk.1,uk.2,bd,sb⟩∧dZ (gE b s) N ⟨2,fq,fq,[],[],bd,sb⟩ (p+4)=dZ (gE b s) j ⟨2,fq,fq,uk.1,uk.2,bd,sb⟩ q) (fun(j:Nat) (q:Int) (uk:List Term×List Int)=> ⟨eQ 54 .any [(0,.ptr 0 0),(3,.ptr 1 0),(4,.ptr 2 0),(6,.ptr 3 0),(7,iv j)],[some (la b q),some (.box (ff (dc s))),some (.box [iv 0,sv [],.aV,sv [],.aV,.aV,.aV,iv 0,bv false]),some (.box [iv 2,sv [],.aV,sv [],.aV,.acc 4,.acc 5,iv bd,bv sb]),some (.acc 28 (aQ uk.1)),some (.acc 3 (aM uk.2))]⟩) (fun(j:Nat) (q:Int) (uk:List Term×List Int)=> j) (N) (p+4) (([],[])) ?_ (ax [some 0,some 1,some 2,some 3,none,none] ?_ ?_ rfl rfl) ?_
  rotate_left
  ·exact sC
  ·exact sC
  rotate_left
  ·exact⟨ar _,by omega,by omega,⟨rfl,by simp,by simp⟩,rfl⟩
  ·rintro j q ⟨us,ks⟩ ⟨hj,hq1,hq2,hf,hg⟩
   simp only at hf hg⊢
   rcases aa ((0:Int)<(j:Int)) with h3|h3
   ·obtain⟨j,rfl⟩:∃j',j=j'+1:=⟨j-1,by omega⟩
    have hfew:us.length≤N-(j+1):=hf.OP
    have cZ:us.length=ks.length:=hf.len
    obtain⟨d1,ed1,d11,d12,d13⟩:=zF hb (p:=q) hq1 (l:=[1,1,2]) (by simp) (by decide)
    have x1:=lA b hb s hs d1 1 (q+1) d11 (by omega) (by omega)
    have x2:=sx (b:=b) hs (d:=d1) (by omega) 1 (q+1)
    have x3:=qT hb hs d1 1 (q+1) (by omega) d11
    have sf:=r9 hb hs (m:=N-(j+1)) (p:=q) hq1 hf
    have sb2:=Am hb hs (a:=⟨2,fq,fq,us,ks,bd,sb⟩) (p:=q) hq1
    rw[dZ] at hg
    have est:gE b s ⟨2,fq,fq,us,ks,bd,sb⟩ q=(⟨2,fq,fq,(gz (dW b s d1 1 (q+1)).1 (dG b (dW b s d1 1 (q+1)).2 [1,-1,1,-1,2,-2]) us ks false).1,(gz (dW b s d1 1 (q+1)).1 (dG b (dW b s d1 1 (q+1)).2 [1,-1,1,-1,2,-2]) us ks false).2,bd,sb⟩,(dW b s d1 1 (q+1)).2+1):=by
     simp only[gE,ed1,aA,Kp]
    rw[est] at hg sf sb2
    simp only at hg sf sb2
    obtain⟨x,hx⟩:∃x,dW b s d1 1 (q+1)=x:=⟨_,rfl⟩
    rw[hx] at x1 x2 x3 hg sf sb2
    have hput:=yk 2 us ks bd sb x.1 (dG b x.2 [1,-1,1,-1,2,-2]) cZ (by omega) hf.sh (zL d12 x3)
    have hjs:((j:Int)+1-1)=(j:Int):=by omega
    have h3:(0:Int)<(j:Int)+1:=by omega
    refine uC ?_
    refine bT [] [0] (jh b q [1,1,2] hb hq1 (by omega) (by simp) (by simp)) ?_ ?_<;>simp -implicitDefEqProofs only[go_sem,ed1]
    refine oC [] [0] x1 ?_
    refine oC [] [0] (jh b x.2 [1,-1,1,-1,2,-2] hb (by omega) (by omega) (by simp) (by simp)) ?_
    refine bT [] [4,5,6,7] hput ?_ ?_
    ·refine sA ?_
     first|rfl|((repeat' apply ay)<;>rfl)
    refine sA ?_
    refine iK ?_
    refine sQ ?_
    simp -implicitDefEqProofs only[go_sem,hjs]
    refine⟨j,x.2+1,(gz x.1 (dG b x.2 [1,-1,1,-1,2,-2]) us ks false),?_,sL,ax [some 0,some 1,some 2,some 3,some 6,some 7] ?_ ?_ rfl rfl⟩
    rotate_left
    ·exact sC
    ·exact sC
    refine⟨by omega,by omega,by omega,?_,hg⟩
    have e:N-(j+1)+1=N-j:=by omega
    rw[e] at sf
    exact sf
   ·obtain rfl:j=0:=by omega
    rw[dZ] at hg
    rw[hg]
    simp -implicitDefEqProofs only[go_sem,Z2]
    refine bh [some 0,some 4,some 5] ?_ rfl rfl
    exact sC
theorem AN(b:List Int)(hb:nh b)(s:eJ)(hs:c7 s)(p:Int)(h1:0≤p)(h2:p≤900000000) :
 C E.P 70 [.ptr 0 0,av (dc s)] [some (la b p)] (bw (av (dS (jK b s p).1)) [some (la b (jK b s p).2)]):=by
 refine(po b hb s hs p h1 h2).EH [some 0] ?_ rfl rfl
 refine sA ?_
 exact⟨rfl,rfl⟩
end Go.Proofs.YtgpjhjalfakpoaaGreat
