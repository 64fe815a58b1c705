/-
  The reference: the walks of what is drawn: numbers, words, terms. A step towards the laws.
-/
import Derived.Test.YtabembjmeobhoaaGreatKCI
import Derived.Test.YtabembjmeobhoaaGreatKCEb
set_option linter.unusedVariables false
set_option linter.unusedSimpArgs false
open And renaming intro→au
open Bool renaming false_eq_true→aw,and_false→hX,not_true→kK
open Classical renaming em→aa
open Int renaming toNat_natCast→bn,tmod_lt_of_pos→n9
open List renaming getElem?_eq_getElem→af,drop_eq_getElem_cons→ah,take_of_length_le→ao,getD_eq_getElem?_getD→ay,append_assoc→bj,append_nil→bm,nil_append→bC,length_take→bT,length_filter_le→gf
open Nat renaming le_refl→aJ,le_trans→eO
namespace Go.Proofs.YtabembjmeobhoaaGreat
open Go.Eng Go.Mod
open Int renaming reduceEq→Z1,reduceLT→Z2,reduceLE→Z3,reduceToNat→Z4
set_option maxRecDepth 100000
set_option maxHeartbeats 800000
def uz(b:List Int)(p:Int):En:=.box [lv (Ta b),iv p]
def NZ(l:List Int):List (List D):=bI l
def M9(l:List nE):List (List D):=mw l
theorem U1:NZ []=[]:=rfl
theorem Ue(n:Int)(l:List Int):NZ (n::l)=[.val (.int .i64 n)]::NZ l:=rfl
theorem V7:M9 []=[]:=rfl
theorem Ua(n:nE)(l:List nE):M9 (n::l)=[.str n]::M9 l:=rfl
attribute [go_sem] uz U1 Ue V7 Ua
theorem Y7(b:List Int):(Ta b).length=b.length:=by simp[Ta]
theorem XK{b:List Int}{i:Nat}(h:i<b.length):row (Ta b) i=[.val (.int .u8 b[i])]:=by simp[Ta,row,List.getD,af h]
attribute [go_sem] Y7
theorem Hq{b:List Int}{i:Nat}(h:i<b.length):row (Ta b) i=[.val (.int .u8 (b.getD i 0))]:=by rw[XK h,ay,af h];rfl
theorem nr(b:List Int)(p n:Int)(hb:yV b)(h1:0≤p)(h2:p≤1000000000):C E.P 90 [.ptr 0 0,iv n] [some (uz b p)] (bD (iv (dp b p n)) [some (uz b (p+1))]):=by
 have hb1:=hb.len
 refine gS (nt:=99) (rs:=[.tmp 4]) hm Tryz.func90 fun hl he cq=>?_
 refine sQ ?_
 rcases aa (n<1) with h3|h3
 ·have e:dp b p n=0:=by rw[dp,if_pos h3]
  refine uC ?_
  refine bZ [some 0] ?_ rfl rfl
  refine sA ?_
  rw[e]
 rcases aa (b.length=0) with h4|h4
 ·have e:dp b p n=0:=by rw[dp,if_neg h3,if_pos h4]
  have k4:((b.length:Int)=0)=True:=eq_true (by omega)
  simp -implicitDefEqProofs only[go_sem,h3,k4]
  refine bZ [some 0] ?_ rfl rfl
  refine sA ?_
  rw[e]
 have h4':¬ (b.length:Int)=0:=by omega
 have q1:p+1-1=p:=by omega
 simp -implicitDefEqProofs only[go_sem,h3,h4',q1]
 rcases aa (p<b.length) with h5|h5
 ·have e:dp b p n=(b.getD p.toNat 0).tmod n:=by rw[dp,if_neg h3,if_neg h4,if_pos h5]
  have hl:p.toNat<b.length:=by omega
  have hg:=hb.getD p.toNat
  have hr:=Hq hl
  have w0:IntKind.i64.wrap (b.getD p.toNat 0)=b.getD p.toNat 0:=wrap_i64 ⟨by omega,by omega⟩
  simp -implicitDefEqProofs only[go_sem,h5,hr,w0]
  refine sQ ?_
  refine bZ [some 0] ?_ rfl rfl
  refine sA ?_
  rw[e]
 ·have e:dp b p n=(Ov (ui b p) ((ui b p).tdiv 64)).tmod n:=by rw[dp,if_neg h3,if_neg h4,if_neg h5]
  obtain⟨x1,x2,x3,x4⟩:=X9 hb h1 h2 h4
  have m1:0≤p.tmod b.length∧p.tmod b.length<b.length:=⟨Int.tmod_nonneg _ h1,n9 _ (by omega)⟩
  have m2:0≤(p*7+3).tmod b.length∧(p*7+3).tmod b.length<b.length:=⟨Int.tmod_nonneg _ (by omega),n9 _ (by omega)⟩
  have l1:(p.tmod b.length).toNat<b.length:=by omega
  have l2:((p*7+3).tmod b.length).toNat<b.length:=by omega
  have hr1:=Hq l1
  have hr2:=Hq l2
  have g1:=hb.getD (p.tmod b.length).toNat
  have g2:=hb.getD ((p*7+3).tmod b.length).toNat
  have d1:0≤(ui b p).tdiv 64∧(ui b p).tdiv 64≤ui b p:=by
   rw[Int.tdiv_eq_ediv_of_nonneg x3]
   omega
  have ex:ui b p=b.getD (p.tmod b.length).toNat 0*131+b.getD ((p*7+3).tmod b.length).toNat 0*1117+p*29+p.tdiv b.length*53:=rfl
  have w1:IntKind.i64.wrap (b.getD (p.tmod b.length).toNat 0)=b.getD (p.tmod b.length).toNat 0:=wrap_i64 ⟨by omega,by omega⟩
  have w2:IntKind.i64.wrap (b.getD ((p*7+3).tmod b.length).toNat 0)=b.getD ((p*7+3).tmod b.length).toNat 0:=wrap_i64 ⟨by omega,by omega⟩
  simp -implicitDefEqProofs only[go_sem,h5,hr1,hr2,w1,w2]
  refine sQ ?_
  rw[←ex]
  refine sQ ?_
  refine abG (ui b p) ((ui b p).tdiv 64) (by simp -implicitDefEqProofs only[go_sem]) (by simp -implicitDefEqProofs only[go_sem]) (by omega) (by omega) (by omega) (by omega) ?_
  refine sA ?_
  refine sQ ?_
  refine bZ [some 0] ?_ rfl rfl
  refine sA ?_
  rw[e]
theorem s7(b:List Int)(p:Int)(l:List Int)(hb:yV b)(h1:0≤p)(h2:p≤1000000000)(hl:l≠[])(hl2:l.length≤100):C E.P 161 [.ptr 0 0,lv (NZ l)] [some (uz b p)] (bD (iv (j5 b p l)) [some (uz b (p+1))]):=by
 have hn:1≤l.length:=by cases l with|nil=>exact(hl rfl).elim|cons=>simp
 obtain⟨k,e,hk⟩:=vE hb (p:=p) (n:=l.length) h1 hn
 have hL:(NZ l).length=l.length:=by simp[NZ,bI]
 have hr:row (NZ l) k=[.val (.int .i64 (j5 b p l))]:=by
  rw[NZ,Dr hk,j5,e,bn,ay,af hk]
  rfl
 refine gS (nt:=12) (rs:=[.tmp 4]) hm Tryz.func161 fun hl he cq=>?_
 simp -implicitDefEqProofs only[go_sem,hL]
 refine oC [] [0] (nr b p l.length hb h1 h2) ?_
 rw[e]
 simp -implicitDefEqProofs only[go_sem,hL,hk,hr]
 refine bZ [some 0] ?_ rfl rfl
 exact sC
theorem aaB(b:List Int)(p:Int)(l:List nE)(hb:yV b)(h1:0≤p)(h2:p≤1000000000)(hl:l≠[])(hl2:l.length≤100):C E.P 165 [.ptr 0 0,lv (M9 l)] [some (uz b p)] (bD (sv (SD b p l)) [some (uz b (p+1))]):=by
 have hn:1≤l.length:=by cases l with|nil=>exact(hl rfl).elim|cons=>simp
 obtain⟨k,e,hk⟩:=vE hb (p:=p) (n:=l.length) h1 hn
 have hL:(M9 l).length=l.length:=by simp[M9,mw]
 have hr:row (M9 l) k=[.str (SD b p l)]:=by
  rw[M9,Kj hk,SD,e,bn,ay,af hk]
  rfl
 refine gS (nt:=12) (rs:=[.tmp 4]) hm Tryz.func165 fun hl he cq=>?_
 simp -implicitDefEqProofs only[go_sem,hL]
 refine oC [] [0] (nr b p l.length hb h1 h2) ?_
 rw[e]
 simp -implicitDefEqProofs only[go_sem,hL,hk,hr]
 refine bZ [some 0] ?_ rfl rfl
 exact sC
theorem H7(b:List Int)(hb:∀x∈b,0≤x∧x≤255)(o6:b.length≤2000000):C E.P 35 [lv (Ta b)] [] (bD (.ptr 0 0) [some (uz (b.take 2000) 0)]):=by
 refine gS (nt:=11) (rs:=[.tmp 2]) hm Tryz.func35 fun hl he cq=>?_
 rcases aa ((2000:Int)<(b.length:Int)) with h1|h1
 ·have h1n:2000≤b.length:=by omega
  have l7:∀y∈Ta b,y.length=1:=by
   intro y hy
   obtain⟨x,_,rfl⟩:=List.mem_map.1 hy
   rfl
  simp -implicitDefEqProofs only[go_sem,Z3,Z4,h1]
  refine au ⟨by omega,l7⟩ ?_
  refine bZ [some 0] ?_ rfl rfl
  refine sA ?_
  simp[Ta]
 ·have e:b.take 2000=b:=ao (by omega)
  refine uA ?_
  refine bZ [some 0] ?_ rfl rfl
  refine sA ?_
  rw[e]
theorem UX{b:List Int}(hb:∀x∈b,0≤x∧x≤255):yV (b.take 2000):=⟨by rw[bT];omega,fun x hx=>hb x (List.mem_of_mem_take hx)⟩
theorem Ja(k:Int):C E.P 160 [iv k] [] (bD (av (eu (Cn k))) []):=by
 refine gS (nt:=47) (rs:=[.cell 2 25]) hm Tryz.func160 fun hl he cq=>?_
 rcases aa (k=0) with h0|h0
 ·have k0:=eq_true h0
  refine uH ?_
  refine an ?_
  refine sA ?_
  rw[Cn,if_pos h0]
  rfl
 rcases aa (k=1) with h1|h1
 ·have k1:=eq_true h1
  simp -implicitDefEqProofs only[go_sem,h0,k1]
  refine an ?_
  refine sA ?_
  rw[Cn,if_neg h0,if_pos h1]
  rfl
 rcases aa (k=2) with h2|h2
 ·have k2:=eq_true h2
  simp -implicitDefEqProofs only[go_sem,h0,h1,k2]
  refine an ?_
  refine sA ?_
  rw[Cn,if_neg h0,if_neg h1,if_pos h2]
  rfl
 rcases aa (k=3) with h3|h3
 ·have k3:=eq_true h3
  simp -implicitDefEqProofs only[go_sem,h0,h1,h2,k3]
  refine an ?_
  refine sA ?_
  rw[Cn,if_neg h0,if_neg h1,if_neg h2,if_pos h3]
  rfl
 ·simp -implicitDefEqProofs only[go_sem,h0,h1,h2,h3]
  refine an ?_
  refine sA ?_
  rw[Cn,if_neg h0,if_neg h1,if_neg h2,if_neg h3]
  rfl
theorem LF(b:List Int)(p:Int)(hb:yV b)(h1:0≤p)(h2:p≤1000000000):C E.P 88 [.ptr 0 0] [some (uz b p)] (bD (av (eu (wM b p).1)) [some (uz b (wM b p).2)]):=by
 refine gS (nt:=7) (rs:=[.cell 2 25]) hm Tryz.func88 fun hl he cq=>?_
 refine oC [] [0] (s7 b p [0,0,1,1,2,3,1,4] hb h1 h2 (by simp) (by simp)) ?_
 refine aC [] (Ja (j5 b p [0,0,1,1,2,3,1,4])) ?_
 refine bZ [some 0] ?_ rfl rfl
 refine sA ?_
 exact⟨rfl,rfl⟩
def Ag(s:dI)(sort:Int)(d i:Nat):List Sym:=(s.syms.take i).filter fun x=>decide (x.sort=sort)&&(decide (1<d)||decide (x.args.length=0))
theorem OU(s:dI)(sort:Int)(d i:Nat)(h:i<s.syms.length):Ag s sort d (i+1)=Ag s sort d i++(if decide (s.syms[i].sort=sort)&&(decide (1<d)||decide (s.syms[i].args.length=0)) then [s.syms[i]] else []):=by
 unfold Ag
 rw[List.take_add_one,af h,List.filter_append]
 congr 1
 simp only[Option.toList_some,List.filter_cons,List.filter_nil]
theorem Qa(s:dI)(sort:Int)(d i:Nat):(Ag s sort d i).length≤i:=by
 refine eO (gf _ _) ?_
 rw[bT]
 omega
theorem P1(s:dI)(sort:Int)(d i:Nat)(h:s.syms.length≤i):Ag s sort d i=mW s sort d:=by
 unfold Ag mW
 rw[ao h]
theorem E2(b:List Int)(hb:yV b)(s:dI)(hs:fE s)(d:Nat)(sort p:Int)(h1:0≤p)(h2:p+2 ^ (d+1)≤1000000000)
 (ih:1≤d→∀(sort q:Int),0≤q→q+2 ^ d≤1000000000→C E.P 164 [.ptr 0 0,av (eu s),iv sort,iv d] [some (uz b q)] (bD (av (cT (ik b s d sort q).1)) [some (uz b (ik b s d sort q).2)])) :
 C E.P 164 [.ptr 0 0,av (eu s),iv sort,iv ((d:Int)+1)] [some (uz b p)] (bD (.agg [sv (ik b s (d+1) sort p).1.name,.acc 1]) [some (uz b (ik b s (d+1) sort p).2),some (.acc 34 (aN (ik b s (d+1) sort p).1.kids))]):=by
 obtain⟨hp,hp2⟩:=two_pow_pos d
 have hdl:(d:Int)<2 ^ d:=by
  have:=Nat.lt_two_pow_self (n:=d)
  have e:(2:Int) ^ d=((2 ^ d:Nat):Int):=by simp
  omega
 have hle:s.syms.length≤7:=hs.1
 obtain⟨ws,hws⟩:∃ws,mW s sort (d+1)=ws:=⟨_,rfl⟩
 have hwl:ws.length≤7:=by rw[←hws];exact eO (gf _ _) hle
 have hwm:=fun i=>ve (sort:=sort) (d:=d+1) (i:=i) hs
 rw[hws] at hwm
 have ea:ik b s (d+1) sort p=if ws.length=0 then(.mk [113] [],p) else(.mk (ws.getD (dp b p ws.length).toNat sX).name (mF (ik b s d) (ws.getD (dp b p ws.length).toNat sX).args (p+1)).1,(mF (ik b s d) (ws.getD (dp b p ws.length).toNat sX).args (p+1)).2):=by rw[←hws];rfl
 refine gS (nt:=89) (rs:=[.cell 8 34]) hm Tryz.func164 fun hl he cq=>?_
 refine aM hm (fun(i:Nat)=> i≤s.syms.length) (fun(i:Nat)=> ⟨dH 89 .any [(0,.ptr 0 0),(2,iv sort),(3,iv ((d:Int)+1)),(5,.ptr 1 0),(8,.ptr 2 0),(9,.acc 3),(10,iv i)],[some (uz b p),some (.box (cF (eu s))),some (.box [sv [],.b6]),some (.acc 126 (eF (Ag s sort (d+1) i)))]⟩) (fun(i:Nat)=> s.syms.length-i) (0) ?_ (ar [some 0,some 1,some 2,some 3] ?_ ?_ rfl rfl) ?_
 rotate_left
 ·exact sC
 ·refine sA ?_
  all_goals(rfl)
 rotate_left
 ·omega
 ·rintro i hi
  have hfl:=Qa s sort (d+1) i
  rcases aa (i<s.syms.length) with h3|h3
  ·have e:=OU s sort (d+1) i h3
   rcases aa (s.syms[i].sort=sort) with h4|h4
   ·have k4:=eq_true h4
    rcases aa (1<d+1) with h5|h5
    ·have h5':(1:Int)<(d:Int)+1:=by omega
     rw[if_pos (by simp[h4,h5])] at e
     simp -implicitDefEqProofs only[go_sem,h3,k4,h5']
     refine sQ ?_
     refine⟨i+1,?_,sL,ar [some 0,some 1,some 2,some 4] ?_ ?_ rfl rfl⟩
     rotate_left
     ·exact sC
     ·refine sA ?_
      all_goals((rw[e,←tF];rfl))
     omega
    ·have h5':¬ (1:Int)<(d:Int)+1:=by omega
     rcases aa ((s.syms[i].args.length:Int)=0) with h6|h6
     ·have h6n:s.syms[i].args.length=0:=by omega
      have k6:=eq_true h6
      rw[if_pos (by simp[h4,h6n])] at e
      simp -implicitDefEqProofs only[go_sem,h3,k4,h5',k6]
      refine sQ ?_
      refine⟨i+1,?_,sL,ar [some 0,some 1,some 2,some 4] ?_ ?_ rfl rfl⟩
      rotate_left
      ·exact sC
      ·refine sA ?_
       all_goals((rw[e,←tF];rfl))
      omega
     ·have h6n:¬s.syms[i].args.length=0:=by omega
      rw[if_neg (by simp only[h5,h6n,decide_false,Bool.or_self,hX];simp),bm] at e
      simp -implicitDefEqProofs only[go_sem,h3,k4,h5',h6]
      refine sQ ?_
      refine⟨i+1,?_,sL,ar [some 0,some 1,some 2,some 3] ?_ ?_ rfl rfl⟩
      rotate_left
      ·exact sC
      ·refine sA ?_
       all_goals((rw[e]))
      omega
   ·rw[if_neg (by simp[h4]),bm] at e
    simp -implicitDefEqProofs only[go_sem,h3,h4]
    refine sQ ?_
    refine⟨i+1,?_,sL,ar [some 0,some 1,some 2,some 3] ?_ ?_ rfl rfl⟩
    rotate_left
    ·exact sC
    ·refine sA ?_
     all_goals((rw[e]))
    omega
  ·rw[P1 s sort (d+1) i (by omega),hws]
   rcases aa (ws.length=0) with h4|h4
   ·have k4:((ws.length:Int)=0)=True:=eq_true (by omega)
    rw[if_pos h4] at ea
    simp -implicitDefEqProofs only[go_sem,h3,k4]
    refine bZ [some 0,none] ?_ rfl rfl
    refine sA ?_
    rw[ea]
    exact⟨rfl,rfl,rfl⟩
   ·rw[if_neg h4] at ea
    obtain⟨k,ek,hk⟩:=vE hb (p:=p) (n:=ws.length) h1 (by omega)
    have ex:ws.getD k sX=ws[k]:=by rw[ay,af hk];rfl
    obtain⟨w1,w2⟩:=hwm k
    obtain⟨w3,w4⟩:=w2 hk
    rw[ex] at w1 w3 w4
    rw[ek,bn,ex] at ea
    have h4':¬ (ws.length:Int)=0:=by omega
    simp -implicitDefEqProofs only[go_sem,h3,h4']
    refine oC [] [0] (nr b p ws.length hb h1 (by omega)) ?_
    rw[ek]
    simp -implicitDefEqProofs only[go_sem,hk]
    rw[ea]
    generalize ws[k]=x at w1 w4⊢
    refine aM hm (fun(i:Nat)=> i≤x.args.length) (fun(i:Nat)=> ⟨dH 89 .any [(0,.ptr 0 0),(3,iv ((d:Int)+1)),(5,.ptr 1 0),(8,.ptr 2 0),(11,.ptr 3 0),(12,.ptr 4 0),(13,iv i)],[some (uz b (mF (ik b s d) (x.args.take i) (p+1)).2),some (.box (cF (eu s))),some (.box [sv [],.b6]),some (.box (cF (wH x))),some (.box [sv x.name,.acc 5]),some (.acc 34 (aN (mF (ik b s d) (x.args.take i) (p+1)).1))]⟩) (fun(i:Nat)=> x.args.length-i) (0) ?_ (ar [some 0,some 1,some 2,some 4,some 5,none] ?_ ?_ rfl rfl) ?_
    rotate_left
    ·exact sC
    ·refine sA ?_
     all_goals(exact⟨rfl,rfl⟩)
    rotate_left
    ·omega
    ·rintro i hi
     have hq:=QK (f:=ik b s d) (c:=2 ^ d-1) (fun a p=>F7 hs d a p) (x.args.take i) (p+1)
     have hln:=Bd (ik b s d) (x.args.take i) (p+1)
     rw[bT] at hln
     rcases aa (i<x.args.length) with h5|h5
     ·have hd:1≤d:=by
       rcases Nat.eq_zero_or_pos d with rfl|hd
       ·rw[w4 (aJ 1)] at h5;simp at h5
       ·exact hd
      have hmul:(((x.args.take i).length:Nat):Int)*(2 ^ d-1)≤1*(2 ^ d-1):=Int.mul_le_mul_of_nonneg_right (by rw[bT];omega) (by omega)
      have hc:=ih hd x.args[i] (mF (ik b s d) (x.args.take i) (p+1)).2 (by omega) (by omega)
      have jC:=S3 (ik b s d) h5 (p+1)
      have mG:((d:Int)+1-1)=(d:Int):=by omega
      have hrows:aN (mF (ik b s d) (x.args.take i) (p+1)).1++[cT (ik b s d x.args[i] (mF (ik b s d) (x.args.take i) (p+1)).2).1]=aN (mF (ik b s d) (x.args.take (i+1)) (p+1)).1:=by
       rw[jC]
       exact(congrArg (aN (mF (ik b s d) (x.args.take i) (p+1)).1 ++ ·) (dJ _ _).symm).trans (lg _ [_])
      have hq2:(ik b s d x.args[i] (mF (ik b s d) (x.args.take i) (p+1)).2).2=(mF (ik b s d) (x.args.take (i+1)) (p+1)).2:=by rw[jC]
      simp -implicitDefEqProofs only[go_sem,h5,mG]
      refine sQ ?_
      refine oC [] [0] hc ?_
      refine sQ ?_
      refine⟨i+1,?_,sL,ar [some 0,some 1,some 2,some 3,some 4,some 6] ?_ ?_ rfl rfl⟩
      rotate_left
      ·exact sC
      ·refine sA ?_
       all_goals(exact⟨by rw[hq2],hrows⟩)
      omega
     ·have et:x.args.take i=x.args:=ao (by omega)
      rw[et]
      refine uE ?_
      refine bZ [some 0,some 5] ?_ rfl rfl
      exact sC
theorem sg(b:List Int)(hb:yV b)(s:dI)(hs:fE s):∀(d:Nat)(sort p:Int),1≤d→0≤p→p+2 ^ d≤1000000000 →
 C E.P 164 [.ptr 0 0,av (eu s),iv sort,iv d] [some (uz b p)] (bD (.agg [sv (ik b s d sort p).1.name,.acc 1]) [some (uz b (ik b s d sort p).2),some (.acc 34 (aN (ik b s d sort p).1.kids))])
 | 0,_,_,hd,_,_=>by omega
 | d+1,sort,p,_,h1,h2=>E2 b hb s hs d sort p h1 h2 fun hd sort q g1 g2=>by
   refine(sg b hb s hs d sort q hd g1 g2).N6 [some 0] ?_ rfl rfl
   refine sA ?_
   rfl
theorem rj(b:List Int)(hb:yV b)(s:dI)(hs:fE s)(d:Nat)(sort p:Int)(hd:1≤d)(h1:0≤p)(h2:p+2 ^ d≤1000000000) :
 C E.P 164 [.ptr 0 0,av (eu s),iv sort,iv d] [some (uz b p)] (bD (av (cT (ik b s d sort p).1)) [some (uz b (ik b s d sort p).2)]):=by
 refine(sg b hb s hs d sort p hd h1 h2).N6 [some 0] ?_ rfl rfl
 refine sA ?_
 rfl
theorem Tn(b:List Int){s:dI}(hs:fE s)(d:Nat)(sort p:Int):(ik b s d sort p).1.kids.length≤2:=by
 cases d with
 | zero=>simp[ik,Term.kids]
 | succ d=>
   unfold ik
   split
   ·simp[Term.kids]
   ·simp only[Term.kids,Bd]
    exact(ve hs).1
theorem Qq{t:Term}{n:Int}{us:List Term}{ks:List Int}{d:Bool}{i:Nat}(h1:i<us.length)(h2:i<ks.length):lx t n (us.drop i) (ks.drop i) d =
 ((if !d&& !gC (aO us[i]) (aO t) then [t] else [])++((if decide (aO us[i]≠aO t) then [us[i]] else [])++(lx t n (us.drop (i+1)) (ks.drop (i+1)) (d||(!d&& !gC (aO us[i]) (aO t)))).1),
  (if !d&& !gC (aO us[i]) (aO t) then [n] else [])++((if decide (aO us[i]≠aO t) then [ks[i]] else [])++(lx t n (us.drop (i+1)) (ks.drop (i+1)) (d||(!d&& !gC (aO us[i]) (aO t)))).2)):=by
 rw[ah h1,ah h2]
 rfl
theorem TW{t:Term}{n:Int}{us:List Term}{ks:List Int}{d:Bool}{i:Nat}(h1:us.length≤i):lx t n (us.drop i) (ks.drop i) d=if d then([],[]) else([t],[n]):=by
 rw[List.drop_of_length_le h1]
 rfl
theorem pj(us:List Term)(t:Term):aN us++[[D.str t.name,D.dC (aN t.kids)]]=aN (us++[t]):=by rw[←lg,dJ,fZ];rfl
theorem rT(us:List Int)(n:Int):bI us++[[D.val (Value.int .i64 n)]]=bI (us++[n]):=by rw[←eQ];rfl
theorem Hs(k:Int)(nums:List Term)(times:List Int)(bd:Int)(st:Bool)(t:Term)(n:Int)(hl:nums.length=times.length)(o6:nums.length≤1000)(hsh:∀u∈nums,bN u 4=true)(ht:bN t 4=true) :
 C E.P 212 [.agg [iv k,sv [],.b6,sv [],.b6,.acc 0,.acc 1,iv bd,bv st],av (cT t),iv n] [some (.acc 34 (aN nums)),some (.acc 3 (bI times))] (bD (.agg [iv k,sv [],.b6,sv [],.b6,.acc 2,.acc 3,iv bd,bv st]) [some (.acc 34 (aN nums)),some (.acc 3 (bI times)),some (.acc 34 (aN (lx t n nums times false).1)),some (.acc 3 (bI (lx t n nums times false).2))]):=by
 refine gS (nt:=90) (rs:=[.cell 6 47]) hm Tryz.func212 fun hl he cq=>?_
 refine kS hm (fun(i:Nat) (dn:Bool) (uk:List Term×List Int)=> i≤nums.length∧uk.1.length≤2*i∧uk.2.length≤2*i∧lx t n nums times false=(uk.1++(lx t n (nums.drop i) (times.drop i) dn).1,uk.2++(lx t n (nums.drop i) (times.drop i) dn).2)) (fun(i:Nat) (dn:Bool) (uk:List Term×List Int)=> ⟨dH 90 .any [(2,iv n),(3,.ptr 2 0),(4,.ptr 3 0),(6,.ptr 4 0),(7,.ptr 5 0),(8,bv dn),(9,iv i)],[some (.acc 34 (aN nums)),some (.acc 3 (bI times)),some (.box [iv k,sv [],.b6,sv [],.b6,.acc 0,.acc 1,iv bd,bv st]),some (.box (cF (cT t))),some (.box [iv 0,sv [],.b6,sv [],.b6,.b6,.b6,iv 0,bv false]),some (.box [iv k,sv [],.b6,sv [],.b6,.acc 6,.acc 7,iv bd,bv st]),some (.acc 34 (aN uk.1)),some (.acc 3 (bI uk.2))]⟩) (fun(i:Nat) (dn:Bool) (uk:List Term×List Int)=> nums.length-i) (0) (false) (([],[])) ?_ (ar [some 0,some 1,some 2,some 3,some 4,some 5,none,none] ?_ ?_ rfl rfl) ?_
 rotate_left
 ·exact sC
 ·exact sC
 rotate_left
 ·exact⟨Nat.zero_le _,by simp,by simp,by simp⟩
 ·rintro i dn ⟨us,ks⟩ ⟨hi,b1,b2,hg⟩
  simp only at b1 b2 hg⊢
  rcases aa (i<nums.length) with h3|h3
  ·have h4:i<times.length:=by omega
   rw[Qq h3 h4] at hg
   refine uC ?_
   refine aC [] (mf nums[i] 4 (aJ _) (hsh _ (List.getElem_mem h3))) ?_
   cases dn
   ·refine sA ?_
    refine aC [] (mf t 4 (aJ _) ht) ?_
    cases h5:Op.bytesLess (aO nums[i]) (aO t)
    ·have h5':gC (aO nums[i]) (aO t)=false:=h5
     simp only[h5',Bool.not_false,Bool.and_self,if_true,Bool.or_true] at hg
     obtain⟨us',hus⟩:∃z,us++[t]=z:=⟨_,rfl⟩
     obtain⟨ks',hks⟩:∃z,ks++[n]=z:=⟨_,rfl⟩
     have eT:=pj us t
     have eI:=rT ks n
     have lT:us'.length=us.length+1:=by rw[←hus];simp
     have lI:ks'.length=ks.length+1:=by rw[←hks];simp
     rw[hus] at eT
     rw[hks] at eI
     rw[←bj us,hus,←bj ks,hks] at hg
     refine sA ?_
     refine sQ ?_
     simp -implicitDefEqProofs only[go_sem,eT,eI]
     refine aC [] (mf t 4 (aJ _) ht) ?_
     rcases aa (aO nums[i]=aO t) with h7|h7
     ·have k7:=eq_true h7
      rw[decide_eq_false (fun h=>h h7)] at hg
      simp only[aw,if_false,bC] at hg
      simp -implicitDefEqProofs only[go_sem,k7]
      refine sQ ?_
      refine⟨i+1,true,(us',ks'),?_,sL,ar [some 0,some 1,some 2,some 3,some 4,some 5,some 8,some 9] ?_ ?_ rfl rfl⟩
      rotate_left
      ·exact sC
      ·exact sC
      exact⟨h3,by dsimp only;omega,by dsimp only;omega,hg⟩
     ·rw[decide_eq_true h7] at hg
      simp only[if_true] at hg
      have eo:=pj us' nums[i]
      have ep:=rT ks' times[i]
      simp -implicitDefEqProofs only[go_sem,h7,h3,h4]
      refine sQ ?_
      refine⟨i+1,true,(us'++[nums[i]],ks'++[times[i]]),?_,sL,ar [some 0,some 1,some 2,some 3,some 4,some 5,some 10,some 11] ?_ ?_ rfl rfl⟩
      rotate_left
      ·exact sC
      ·refine sA ?_
       all_goals(exact⟨eo,ep⟩)
      exact⟨h3,by simp;omega,by simp;omega,by simpa using hg⟩
    ·have h5':gC (aO nums[i]) (aO t)=true:=h5
     simp only[h5',kK,hX,aw,if_false,Bool.or_false,bC] at hg
     refine sA ?_
     refine aC [] (mf t 4 (aJ _) ht) ?_
     rcases aa (aO nums[i]=aO t) with h7|h7
     ·have k7:=eq_true h7
      rw[decide_eq_false (fun h=>h h7)] at hg
      simp only[aw,if_false,bC] at hg
      simp -implicitDefEqProofs only[go_sem,k7]
      refine sQ ?_
      refine⟨i+1,false,(us,ks),?_,sL,ar [some 0,some 1,some 2,some 3,some 4,some 5,some 6,some 7] ?_ ?_ rfl rfl⟩
      rotate_left
      ·exact sC
      ·exact sC
      exact⟨h3,by dsimp only;omega,by dsimp only;omega,hg⟩
     ·rw[decide_eq_true h7] at hg
      simp only[if_true] at hg
      have eo:=pj us nums[i]
      have ep:=rT ks times[i]
      simp -implicitDefEqProofs only[go_sem,h7,h3,h4]
      refine sQ ?_
      refine⟨i+1,false,(us++[nums[i]],ks++[times[i]]),?_,sL,ar [some 0,some 1,some 2,some 3,some 4,some 5,some 8,some 9] ?_ ?_ rfl rfl⟩
      rotate_left
      ·exact sC
      ·refine sA ?_
       all_goals(exact⟨eo,ep⟩)
      exact⟨h3,by simp;omega,by simp;omega,by simpa using hg⟩
   ·simp only[kK,Bool.false_and,aw,if_false,Bool.true_or,bC] at hg
    refine sA ?_
    refine aC [] (mf t 4 (aJ _) ht) ?_
    rcases aa (aO nums[i]=aO t) with h7|h7
    ·have k7:=eq_true h7
     rw[decide_eq_false (fun h=>h h7)] at hg
     simp only[aw,if_false,bC] at hg
     simp -implicitDefEqProofs only[go_sem,k7]
     refine sQ ?_
     refine⟨i+1,true,(us,ks),?_,sL,ar [some 0,some 1,some 2,some 3,some 4,some 5,some 6,some 7] ?_ ?_ rfl rfl⟩
     rotate_left
     ·exact sC
     ·exact sC
     exact⟨h3,by dsimp only;omega,by dsimp only;omega,hg⟩
    ·rw[decide_eq_true h7] at hg
     simp only[if_true] at hg
     have eo:=pj us nums[i]
     have ep:=rT ks times[i]
     simp -implicitDefEqProofs only[go_sem,h7,h3,h4]
     refine sQ ?_
     refine⟨i+1,true,(us++[nums[i]],ks++[times[i]]),?_,sL,ar [some 0,some 1,some 2,some 3,some 4,some 5,some 8,some 9] ?_ ?_ rfl rfl⟩
     rotate_left
     ·exact sC
     ·refine sA ?_
      all_goals(exact⟨eo,ep⟩)
     exact⟨h3,by simp;omega,by simp;omega,by simpa using hg⟩
  ·rw[TW (by omega)] at hg
   rw[hg]
   cases dn
   ·refine uC ?_
    refine sQ ?_
    refine bZ [some 0,some 1,some 8,some 9] ?_ rfl rfl
    refine sA ?_
    exact⟨pj _ _,rT _ _⟩
   ·refine uC ?_
    refine bZ [some 0,some 1,some 6,some 7] ?_ rfl rfl
    exact sC
theorem U6{b:List Int}(hb:yV b){p:Int}(h1:0≤p){l:List Int}(hl:l≠[])(hd:∀x∈l,1≤x∧x≤4):∃d:Nat,j5 b p l=d∧1≤d∧d≤4∧(2:Int) ^ d≤16:=by
 obtain⟨d,e,h2,h3⟩:=yR hb h1 hl hd
 refine⟨d,e,h2,h3,?_⟩
 have:=Nat.pow_le_pow_right (n:=2) (by omega) h3
 have e:(2:Int) ^ d=((2 ^ d:Nat):Int):=by simp
 omega
theorem xy(b:List Int)(hb:yV b)(s:dI)(hs:fE s)(p:Int)(h1:0≤p)(h2:p≤900000000) :
 C E.P 162 [.ptr 0 0,av (eu s)] [some (uz b p)] (bD (.agg [iv (nT b s p).1.kind,sv (nT b s p).1.A.name,lv (aN (nT b s p).1.A.kids),sv (nT b s p).1.B.name,lv (aN (nT b s p).1.B.kids),.acc 1,.acc 2,iv (nT b s p).1.bound,bv (nT b s p).1.strict])
   [some (uz b (nT b s p).2),some (.acc 34 (aN (nT b s p).1.nums)),some (.acc 3 (bI (nT b s p).1.times))]):=by
 obtain⟨y,e0⟩:∃y,nT b s p=y:=⟨_,rfl⟩
 have ea:=e0
 unfold nT at ea
 rcases aa (dp b p 2=0) with c0|c0
 ·have k0:=eq_true c0
  rw[if_pos c0] at ea
  obtain⟨d1,ed1,d11,d12,d13⟩:=U6 hb (p:=p+2) (by omega) (l:=[1,2]) (by simp) (by decide)
  simp only[ed1,bn] at ea
  have x1:=rj b hb s hs d1 (dp b (p+1) 2) (p+3) d11 (by omega) (by omega)
  have x2:=BS (b:=b) hs (d:=d1) (by omega) (dp b (p+1) 2) (p+3)
  obtain⟨x,hx⟩:∃x,ik b s d1 (dp b (p+1) 2) (p+3)=x:=⟨_,rfl⟩
  rw[hx] at ea x1 x2
  obtain⟨d2,ed2,d21,d22,d23⟩:=U6 hb (p:=x.2) (by omega) (l:=[1,1,2]) (by simp) (by decide)
  simp only[ed2,bn] at ea
  have y1:=rj b hb s hs d2 (dp b (p+1) 2) (x.2+1) d21 (by omega) (by omega)
  rw[e0,←ea]
  have q2:p+1+1=p+2:=by omega
  have q3:p+2+1=p+3:=by omega
  refine gS (nt:=54) (rs:=[.cell 4 47]) hm Tryz.func162 fun hl he cq=>?_
  refine gE [] [0] (nr b p 2 hb h1 (by omega)) ?_ ?_<;>simp -implicitDefEqProofs only[go_sem,k0]
  refine gE [] [0] (nr b (p+1) 2 hb (by omega) (by omega)) ?_ ?_<;>simp -implicitDefEqProofs only[go_sem,q2]
  refine gE [] [0] (s7 b (p+2) [1,2] hb (by omega) (by omega) (by simp) (by simp)) ?_ ?_<;>simp -implicitDefEqProofs only[go_sem,ed1,q3]
  refine oC [] [0] x1 ?_
  refine gE [] [0] (s7 b x.2 [1,1,2] hb (by omega) (by omega) (by simp) (by simp)) ?_ ?_<;>simp -implicitDefEqProofs only[go_sem,ed2]
  refine oC [] [0] y1 ?_
  refine iK ?_
  refine bZ [some 0,none,none] ?_ rfl rfl
  exact sC
 ·rw[if_neg c0] at ea
  obtain⟨N,eN,n1,n2⟩:=yR hb (p:=p+3) (by omega) (l:=[1,2,2,3]) (by simp) (by decide)
  simp only[eN,bn] at ea
  obtain⟨bd,hbd⟩:∃x,j5 b (p+1) [0,1,-1,2,3,-4]=x:=⟨_,rfl⟩
  obtain⟨sb,hsb⟩:∃x,decide (dp b (p+2) 3=0)=x:=⟨_,rfl⟩
  rw[hbd,hsb] at ea
  rw[e0,←ea]
  have q2:p+1+1=p+2:=by omega
  have q3:p+2+1=p+3:=by omega
  have q4:p+3+1=p+4:=by omega
  refine gS (nt:=54) (rs:=[.cell 4 47]) hm Tryz.func162 fun hl he cq=>?_
  refine gE [] [0] (nr b p 2 hb h1 (by omega)) ?_ ?_<;>simp -implicitDefEqProofs only[go_sem,c0]
  refine gE [] [0] (s7 b (p+1) [0,1,-1,2,3,-4] hb (by omega) (by omega) (by simp) (by simp)) ?_ ?_<;>simp -implicitDefEqProofs only[go_sem,hbd,q2]
  refine gE [] [0] (nr b (p+2) 3 hb (by omega) (by omega)) ?_ ?_<;>simp -implicitDefEqProofs only[go_sem,q3,hsb]
  refine gE [] [0] (s7 b (p+3) [1,2,2,3] hb (by omega) (by omega) (by simp) (by simp)) ?_ ?_<;>simp -implicitDefEqProofs only[go_sem,eN,q4]
  refine kS hm (fun(j:Nat) (q:Int) (uk:List Term×List Int)=> j≤N∧0≤q∧q≤p+4+(N-j)*17∧tj (N-j) ⟨2,aL,aL,uk.1,uk.2,bd,sb⟩∧uq (lG b s) N ⟨2,aL,aL,[],[],bd,sb⟩ (p+4)=uq (lG b s) j ⟨2,aL,aL,uk.1,uk.2,bd,sb⟩ q) (fun(j:Nat) (q:Int) (uk:List Term×List Int)=> ⟨dH 54 .any [(0,.ptr 0 0),(3,.ptr 1 0),(4,.ptr 2 0),(6,.ptr 3 0),(7,iv j)],[some (uz b q),some (.box (cF (eu s))),some (.box [iv 0,sv [],.b6,sv [],.b6,.b6,.b6,iv 0,bv false]),some (.box [iv 2,sv [],.b6,sv [],.b6,.acc 4,.acc 5,iv bd,bv sb]),some (.acc 34 (aN uk.1)),some (.acc 3 (bI uk.2))]⟩) (fun(j:Nat) (q:Int) (uk:List Term×List Int)=> j) (N) (p+4) (([],[])) ?_ (ar [some 0,some 1,some 2,some 3,none,none] ?_ ?_ rfl rfl) ?_
  rotate_left
  ·exact sC
  ·exact sC
  rotate_left
  ·exact⟨aJ _,by omega,by omega,⟨rfl,by simp,by simp⟩,rfl⟩
  ·rintro j q ⟨us,ks⟩ ⟨hj,hq1,hq2,hf,hg⟩
   simp only at hf hg⊢
   rcases aa ((0:Int)<(j:Int)) with h3|h3
   ·obtain⟨j,rfl⟩:∃j',j=j'+1:=⟨j-1,by omega⟩
    have hfew:us.length≤N-(j+1):=hf.few
    have dz:us.length=ks.length:=hf.len
    obtain⟨d1,ed1,d11,d12,d13⟩:=U6 hb (p:=q) hq1 (l:=[1,1,2]) (by simp) (by decide)
    have x1:=rj b hb s hs d1 1 (q+1) d11 (by omega) (by omega)
    have x2:=BS (b:=b) hs (d:=d1) (by omega) 1 (q+1)
    have x3:=Aj hb hs d1 1 (q+1) (by omega) d11
    have sf:=Bl hb hs (m:=N-(j+1)) (p:=q) hq1 hf
    have sb2:=Ks hb hs (a:=⟨2,aL,aL,us,ks,bd,sb⟩) (p:=q) hq1
    rw[uq] at hg
    have est:lG b s ⟨2,aL,aL,us,ks,bd,sb⟩ q=(⟨2,aL,aL,(lx (ik b s d1 1 (q+1)).1 (j5 b (ik b s d1 1 (q+1)).2 [1,-1,1,-1,2,-2]) us ks false).1,(lx (ik b s d1 1 (q+1)).1 (j5 b (ik b s d1 1 (q+1)).2 [1,-1,1,-1,2,-2]) us ks false).2,bd,sb⟩,(ik b s d1 1 (q+1)).2+1):=by
     simp only[lG,ed1,bn,YF]
    rw[est] at hg sf sb2
    simp only at hg sf sb2
    obtain⟨x,hx⟩:∃x,ik b s d1 1 (q+1)=x:=⟨_,rfl⟩
    rw[hx] at x1 x2 x3 hg sf sb2
    have hput:=Hs 2 us ks bd sb x.1 (j5 b x.2 [1,-1,1,-1,2,-2]) dz (by omega) hf.sh (Js d12 x3)
    have hjs:((j:Int)+1-1)=(j:Int):=by omega
    have h3:(0:Int)<(j:Int)+1:=by omega
    refine uC ?_
    refine gE [] [0] (s7 b q [1,1,2] hb hq1 (by omega) (by simp) (by simp)) ?_ ?_<;>simp -implicitDefEqProofs only[go_sem,ed1]
    refine oC [] [0] x1 ?_
    refine oC [] [0] (s7 b x.2 [1,-1,1,-1,2,-2] hb (by omega) (by omega) (by simp) (by simp)) ?_
    refine gE [] [4,5,6,7] hput ?_ ?_
    ·refine sA ?_
     first|rfl|((repeat' apply au)<;>rfl)
    refine sA ?_
    refine iK ?_
    refine sQ ?_
    simp -implicitDefEqProofs only[go_sem,hjs]
    refine⟨j,x.2+1,(lx x.1 (j5 b x.2 [1,-1,1,-1,2,-2]) us ks false),?_,sL,ar [some 0,some 1,some 2,some 3,some 6,some 7] ?_ ?_ rfl rfl⟩
    rotate_left
    ·exact sC
    ·exact sC
    refine⟨by omega,by omega,by omega,?_,hg⟩
    have e:N-(j+1)+1=N-j:=by omega
    rw[e] at sf
    exact sf
   ·obtain rfl:j=0:=by omega
    rw[uq] at hg
    rw[hg]
    simp -implicitDefEqProofs only[go_sem,Z2]
    refine bZ [some 0,some 4,some 5] ?_ rfl rfl
    exact sC
theorem ME(b:List Int)(hb:yV b)(s:dI)(hs:fE s)(p:Int)(h1:0≤p)(h2:p≤900000000) :
 C E.P 162 [.ptr 0 0,av (eu s)] [some (uz b p)] (bD (av (fW (nT b s p).1)) [some (uz b (nT b s p).2)]):=by
 refine(xy b hb s hs p h1 h2).N6 [some 0] ?_ rfl rfl
 refine sA ?_
 exact⟨rfl,rfl⟩
end Go.Proofs.YtabembjmeobhoaaGreat
