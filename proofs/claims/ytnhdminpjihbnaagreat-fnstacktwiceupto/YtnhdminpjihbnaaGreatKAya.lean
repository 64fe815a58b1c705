/-
  The reference: the walks of what is drawn: numbers, words, terms. A step towards the laws.
-/
import Derived.Test.YtnhdminpjihbnaaGreatKAI
import Derived.Test.YtnhdminpjihbnaaGreatKAEb
set_option linter.unusedVariables false
set_option linter.unusedSimpArgs false
open Int renaming reduceEq→Z1,reduceLT→Z2,reduceLE→Z3,reduceToNat→Z4
open And renaming intro→aq
open Bool renaming false_eq_true→aw,not_true→ju,and_false→jK
open Classical renaming em→aa
open Int renaming toNat_natCast→aS
open List renaming getElem?_eq_getElem→ae,drop_eq_getElem_cons→ai,take_of_length_le→ak,getD_eq_getElem?_getD→aE,length_take→a6,append_assoc→bm,nil_append→bQ,append_nil→bV,length_filter_le→fS
open Nat renaming le_refl→aH,le_trans→gr
namespace Go.Proofs.YtnhdminpjihbnaaGreat
open Go.Eng Go.Mod
set_option maxRecDepth 100000
set_option maxHeartbeats 800000
def tn(b:List Int)(p:Int):En:=.box [lv (byD b),iv p]
def Tu(l:List Int):List (List D):=bj l
def Tz(l:List p8):List (List D):=oE l
theorem aet:Tu []=[]:=rfl
theorem aai(n:Int)(l:List Int):Tu (n::l)=[.val (.int .i64 n)]::Tu l:=rfl
theorem aep:Tz []=[]:=rfl
theorem Z7(n:p8)(l:List p8):Tz (n::l)=[.str n]::Tz l:=rfl
attribute [go_sem] tn aet aai aep Z7
theorem ae8(b:List Int):(byD b).length=b.length:=by simp[byD]
theorem aeM{b:List Int}{i:Nat}(h:i<b.length):row (byD b) i=[.val (.int .u8 b[i])]:=by simp[byD,row,List.getD,ae h]
attribute [go_sem] ae8
theorem KI{b:List Int}{i:Nat}(h:i<b.length):row (byD b) i=[.val (.int .u8 (b.getD i 0))]:=by rw[aeM h,aE,ae h];rfl
theorem ia(b:List Int)(p n:Int)(hb:rT b)(h1:0≤p)(h2:p≤1000000000):C E.P 12 [.bK 0 0,iv n] [some (tn b p)] (gR (iv (cP b p n)) [some (tn b (p+1))]):=by
 have hb1:=hb.len;refine gS 99 [.tmp 4] hm Tryz.func12 fun hl he cV=>?_;refine sQ ?_;rcases aa (n<1) with h3|h3;have e:cP b p n=0:=by rw[cP,if_pos h3]
 refine bS h3 ?_;refine bM gE ?_ rfl rfl;exact fA e;rcases aa (b.length=0) with h4|h4;have e:cP b p n=0:=by rw[cP,if_neg h3,if_pos h4]
 have k4:((b.length:Int)=0)=True:=eq_true oM;refine lf h3 k4 ?_;refine bM gE ?_ rfl rfl;exact fA e;have h4':¬ (b.length:Int)=0:=oM;have q1:p+1-1=p:=oM;refine xE h3 h4' q1 ?_;rcases aa (p<b.length) with h5|h5;have e:cP b p n=(b.getD p.toNat 0).tmod n:=by rw[cP,if_neg h3,if_neg h4,if_pos h5]
 have hl:p.toNat<b.length:=oM;have hg:=hb.getD p.toNat;have hr:=KI hl;have w0:IntKind.i64.wrap (b.getD p.toNat 0)=b.getD p.toNat 0:=wrap_i64 ⟨oM,oM⟩;refine kY h5 hr w0 ?_;refine bM gE ?_ rfl rfl;exact fA e;have e:cP b p n=(UZ (x6 b p) ((x6 b p).tdiv 64)).tmod n:=by rw[cP,if_neg h3,if_neg h4,if_neg h5]
 obtain⟨x1,x2,x3,x4⟩:=agO hb h1 h2 h4;have m1:0≤p.tmod b.length∧p.tmod b.length<b.length:=⟨Int.tmod_nonneg _ h1,Int.tmod_lt_of_pos _ oM⟩;have m2:0≤(p*7+3).tmod b.length∧(p*7+3).tmod b.length<b.length:=⟨Int.tmod_nonneg _ oM,Int.tmod_lt_of_pos _ oM⟩;have l1:(p.tmod b.length).toNat<b.length:=oM;have l2:((p*7+3).tmod b.length).toNat<b.length:=oM;have hr1:=KI l1;have hr2:=KI l2;have g1:=hb.getD (p.tmod b.length).toNat;have g2:=hb.getD ((p*7+3).tmod b.length).toNat;have d1:0≤(x6 b p).tdiv 64∧(x6 b p).tdiv 64≤x6 b p:=by rw[Int.tdiv_eq_ediv_of_nonneg x3];omega
 have ex:x6 b p=b.getD (p.tmod b.length).toNat 0*131+b.getD ((p*7+3).tmod b.length).toNat 0*1117+p*29+p.tdiv b.length*53:=rfl;have w1:IntKind.i64.wrap (b.getD (p.tmod b.length).toNat 0)=b.getD (p.tmod b.length).toNat 0:=wrap_i64 ⟨oM,oM⟩;have w2:IntKind.i64.wrap (b.getD ((p*7+3).tmod b.length).toNat 0)=b.getD ((p*7+3).tmod b.length).toNat 0:=wrap_i64 ⟨oM,oM⟩;refine kY h5 hr1 (aq hr2 (aq w1 w2)) ?_;rw[←ex];refine sQ ?_;refine aiT (x6 b p) ((x6 b p).tdiv 64) (by simp -implicitDefEqProofs only[go_sem]) (by simp -implicitDefEqProofs only[go_sem]) oM oM oM oM ?_;refine bI ?_;refine bM gE ?_ rfl rfl;exact fA e
theorem qN(b:List Int)(p:Int)(l:List Int)(hb:rT b)(h1:0≤p)(h2:p≤1000000000)(hl:l≠[])(hl2:l.length≤100):C E.P 11 [.bK 0 0,lv (Tu l)] [some (tn b p)] (gR (iv (iI b p l)) [some (tn b (p+1))]):=by
 have hn:1≤l.length:=by cases l with|nil=>exact(hl rfl).elim|cons=>simp
 obtain⟨k,e,hk⟩:=u7 hb (p:=p) (n:=l.length) h1 hn;have hL:(Tu l).length=l.length:=by simp[Tu,bj]
 have hr:row (Tu l) k=[.val (.int .i64 (iI b p l))]:=by rw[Tu,Ce hk,iI,e,aS,aE,ae hk];rfl
 refine gS 12 [.tmp 4] hm Tryz.func11 fun hl he cV=>?_;refine bS hL ?_;refine oC [] [0] (ia b p l.length hb h1 h2) ?_;rw[e];refine xE hL hk hr ?_;refine bM gE ?_ rfl rfl;exact sC
theorem ahT(b:List Int)(p:Int)(l:List p8)(hb:rT b)(h1:0≤p)(h2:p≤1000000000)(hl:l≠[])(hl2:l.length≤100):C E.P 54 [.bK 0 0,lv (Tz l)] [some (tn b p)] (gR (sv (YY b p l)) [some (tn b (p+1))]):=by
 have hn:1≤l.length:=by cases l with|nil=>exact(hl rfl).elim|cons=>simp
 obtain⟨k,e,hk⟩:=u7 hb (p:=p) (n:=l.length) h1 hn;have hL:(Tz l).length=l.length:=by simp[Tz,oE]
 have hr:row (Tz l) k=[.str (YY b p l)]:=by rw[Tz,Pk hk,YY,e,aS,aE,ae hk];rfl
 refine gS 12 [.tmp 4] hm Tryz.func54 fun hl he cV=>?_;refine bS hL ?_;refine oC [] [0] (ia b p l.length hb h1 h2) ?_;rw[e];refine xE hL hk hr ?_;refine bM gE ?_ rfl rfl;exact sC
theorem K0(b:List Int)(hb:∀x∈b,0≤x∧x≤255)(rP:b.length≤2000000):C E.P 8 [lv (byD b)] [] (gR (.bK 0 0) [some (tn (b.take 2000) 0)]):=by
 refine gS 11 [.tmp 2] hm Tryz.func8 fun hl he cV=>?_;rcases aa ((2000:Int)<(b.length:Int)) with h1|h1;have h1n:2000≤b.length:=oM;have l6:∀y∈byD b,y.length=1:=by intro y hy;obtain⟨x,_,rfl⟩:=List.mem_map.1 hy;rfl
 simp -implicitDefEqProofs only[go_sem,Z3,Z4,h1];refine aq ⟨oM,l6⟩ ?_;refine bM gE ?_ rfl rfl;refine bI ?_;simp[byD];have e:b.take 2000=b:=ak oM;refine bS h1 ?_;refine bM gE ?_ rfl rfl;exact fA e
theorem V8{b:List Int}(hb:∀x∈b,0≤x∧x≤255):rT (b.take 2000):=⟨by rw[a6];omega,fun x hx=>hb x (List.mem_of_mem_take hx)⟩
theorem Ou(k:Int):CN 46 [iv k] (av (gi (Ff k))):=by refine gS 47 [.cell 2 25] hm Tryz.func46 fun hl he cV=>?_;rcases aa (k=0) with h0|h0;have k0:=eq_true h0;refine dB k0 ?_;rw[Ff,if_pos h0];rfl;rcases aa (k=1) with h1|h1;have k1:=eq_true h1;refine pV h0 k1 ?_;rw[Ff,if_neg h0,if_pos h1];rfl;rcases aa (k=2) with h2|h2;have k2:=eq_true h2;refine kY h0 h1 k2 ?_;rw[Ff,if_neg h0,if_neg h1,if_pos h2];rfl;rcases aa (k=3) with h3|h3;have k3:=eq_true h3;refine kY h0 h1 (aq h2 k3) ?_;rw[Ff,if_neg h0,if_neg h1,if_neg h2,if_pos h3];rfl;refine kY h0 h1 (aq h2 h3) ?_;rw[Ff,if_neg h0,if_neg h1,if_neg h2,if_neg h3];rfl
theorem FC(b:List Int)(p:Int)(hb:rT b)(h1:0≤p)(h2:p≤1000000000):C E.P 22 [.bK 0 0] [some (tn b p)] (gR (av (gi (nE b p).1)) [some (tn b (nE b p).2)]):=by refine gS 7 [.cell 2 25] hm Tryz.func22 fun hl he cV=>?_;refine oC [] [0] (qN b p [0,0,1,1,2,3,1,4] hb h1 h2 (by simp) (by simp)) ?_;refine aC [] (Ou (iI b p [0,0,1,1,2,3,1,4])) ?_;refine bM gE ?_ rfl rfl;refine sA ?_;exact⟨rfl,rfl⟩
def D4(s:eV)(sort:Int)(d i:Nat):List Sym:=(s.cq.take i).filter fun x=>decide (x.sort=sort)&&(decide (1<d)||decide (x.args.length=0))
theorem Sy(s:eV)(sort:Int)(d i:Nat)(h:i<s.cq.length):D4 s sort d (i+1)=D4 s sort d i++(if decide (s.cq[i].sort=sort)&&(decide (1<d)||decide (s.cq[i].args.length=0)) then [s.cq[i]] else []):=by unfold D4;rw[List.take_add_one,ae h,List.filter_append];congr 1;simp only[Option.toList_some,List.filter_cons,List.filter_nil]
theorem WA(s:eV)(sort:Int)(d i:Nat):(D4 s sort d i).length≤i:=by refine gr (fS _ _) ?_;rw[a6];omega
theorem Wf(s:eV)(sort:Int)(d i:Nat)(h:s.cq.length≤i):D4 s sort d i=oO s sort d:=by unfold D4 oO;rw[ak h]
theorem JS(b:List Int)(hb:rT b)(s:eV)(hs:fe s)(d:Nat)(sort p:Int)(h1:0≤p)(h2:p+2 ^ (d+1)≤1000000000)
 (ih:1≤d→∀(sort q:Int),0≤q→q+2 ^ d≤1000000000→C E.P 53 [.bK 0 0,av (gi s),iv sort,iv d] [some (tn b q)] (gR (av (cT (jx b s d sort q).1)) [some (tn b (jx b s d sort q).2)])) :
 C E.P 53 [.bK 0 0,av (gi s),iv sort,iv ((d:Int)+1)] [some (tn b p)] (gR (.agg [sv (jx b s (d+1) sort p).1.name,.aW 1]) [some (tn b (jx b s (d+1) sort p).2),some (.aW 31 (ba (jx b s (d+1) sort p).1.ar))]):=by
 obtain⟨hp,hp2⟩:=two_pow_pos d
 have hdl:(d:Int)<2 ^ d:=by have:=Nat.lt_two_pow_self (n:=d);have e:(2:Int) ^ d=((2 ^ d:Nat):Int):=(by simp);omega
 have hle:s.cq.length≤7:=hs.1
 obtain⟨ws,hws⟩:∃ws,oO s sort (d+1)=ws:=⟨_,rfl⟩
 have hwl:ws.length≤7:=by rw[←hws];exact gr (fS _ _) hle
 have hwm:=fun i=>zF (sort:=sort) (d:=d+1) (i:=i) hs
 rw[hws] at hwm
 have ea:jx b s (d+1) sort p=if ws.length=0 then(.mk [113] [],p) else(.mk (ws.getD (cP b p ws.length).toNat zz).name (jl (jx b s d) (ws.getD (cP b p ws.length).toNat zz).args (p+1)).1,(jl (jx b s d) (ws.getD (cP b p ws.length).toNat zz).args (p+1)).2):=by rw[←hws];rfl
 refine gS 89 [.cell 8 31] hm Tryz.func53 fun hl he cV=>?_
 refine jf hm s.cq.length (fun i=>⟨fk 89 .any [(0,.bK 0 0),(2,iv sort),(3,iv ((d:Int)+1)),(5,.bK 1 0),(8,.bK 2 0),(9,.aW 3),(10,iv i)],[some (tn b p),some (.box (fy (gi s))),some (.box [sv [],.bE]),some (.aW 116 (ij (D4 s sort (d+1) i)))]⟩) (c9 Aj) ?_
 ·rintro i hi
  have hfl:=WA s sort (d+1) i
  rcases aa (i<s.cq.length) with h3|h3
  ·have e:=Sy s sort (d+1) i h3
   rcases aa (s.cq[i].sort=sort) with h4|h4
   ·have k4:=eq_true h4
    rcases aa (1<d+1) with h5|h5
    ·have h5':(1:Int)<(d:Int)+1:=oM
     rw[if_pos (by simp[h4,h5])] at e
     simp -implicitDefEqProofs only[go_sem,h3,k4,h5']
     refine sQ ?_
     refine⟨i+1,?_,sL,bW [some 0,some 1,some 2,some 4] ?_ ?_ rfl rfl⟩
     rotate_left
     ·exact sC
     ·refine sA ?_
      all_goals((rw[e,←xd];rfl))
     omega
    ·have h5':¬ (1:Int)<(d:Int)+1:=oM
     rcases aa ((s.cq[i].args.length:Int)=0) with h6|h6
     ·have h6n:s.cq[i].args.length=0:=oM
      have k6:=eq_true h6
      rw[if_pos (by simp[h4,h6n])] at e
      simp -implicitDefEqProofs only[go_sem,h3,k4,h5',k6]
      refine sQ ?_
      refine⟨i+1,?_,sL,bW [some 0,some 1,some 2,some 4] ?_ ?_ rfl rfl⟩
      rotate_left
      ·exact sC
      ·refine sA ?_
       all_goals((rw[e,←xd];rfl))
      omega
     ·have h6n:¬s.cq[i].args.length=0:=oM
      rw[if_neg (by simp only[h5,h6n,decide_false,Bool.or_self,jK];simp),bV] at e
      simp -implicitDefEqProofs only[go_sem,h3,k4,h5',h6]
      refine sQ ?_
      refine⟨i+1,?_,sL,bW Aj sC (by refine sA ?_;(rw[e])) rfl rfl⟩
      omega
   ·rw[if_neg (by simp[h4]),bV] at e
    simp -implicitDefEqProofs only[go_sem,h3,h4]
    refine sQ ?_
    refine⟨i+1,?_,sL,bW Aj sC (by refine sA ?_;(rw[e])) rfl rfl⟩
    omega
  ·rw[Wf s sort (d+1) i oM,hws]
   rcases aa (ws.length=0) with h4|h4
   ·have k4:((ws.length:Int)=0)=True:=eq_true oM
    rw[if_pos h4] at ea
    refine lf h3 k4 ?_
    refine Et [some 0,none] ?_
    rw[ea]
    exact⟨rfl,rfl,rfl⟩
   ·rw[if_neg h4] at ea
    obtain⟨k,ek,hk⟩:=u7 hb (p:=p) (n:=ws.length) h1 oM
    have ex:ws.getD k zz=ws[k]:=by rw[aE,ae hk];rfl
    obtain⟨w1,w2⟩:=hwm k
    obtain⟨w3,w4⟩:=w2 hk
    rw[ex] at w1 w3 w4
    rw[ek,aS,ex] at ea
    have h4':¬ (ws.length:Int)=0:=oM
    refine lf h3 h4' ?_
    refine oC [] [0] (ia b p ws.length hb h1 oM) ?_
    rw[ek]
    simp -implicitDefEqProofs only[go_sem,hk]
    rw[ea]
    generalize ws[k]=x at w1 w4⊢
    refine jf hm x.args.length (fun i=>⟨fk 89 .any [(0,.bK 0 0),(3,iv ((d:Int)+1)),(5,.bK 1 0),(8,.bK 2 0),(11,.bK 3 0),(12,.bK 4 0),(13,iv i)],[some (tn b (jl (jx b s d) (x.args.take i) (p+1)).2),some (.box (fy (gi s))),some (.box [sv [],.bE]),some (.box (fy (Bt x))),some (.box [sv x.name,.aW 5]),some (.aW 31 (ba (jl (jx b s d) (x.args.take i) (p+1)).1))]⟩) (c9 [some 0,some 1,some 2,some 4,some 5,none]) ?_
    ·rintro i hi
     have hq:=Wd (f:=jx b s d) (c:=2 ^ d-1) (fun a p=>G5 hs d a p) (x.args.take i) (p+1)
     have hln:=Be (jx b s d) (x.args.take i) (p+1)
     rw[a6] at hln
     rcases aa (i<x.args.length) with h5|h5
     ·have hd:1≤d:=by
       rcases Nat.eq_zero_or_pos d with rfl|hd
       ·rw[w4 (aH 1)] at h5;simp at h5
       ·exact hd
      have hmul:(((x.args.take i).length:Nat):Int)*(2 ^ d-1)≤1*(2 ^ d-1):=Int.mul_le_mul_of_nonneg_right (by rw[a6];omega) oM
      have hc:=ih hd x.args[i] (jl (jx b s d) (x.args.take i) (p+1)).2 oM oM
      have gY:=PJ (jx b s d) h5 (p+1)
      have vi:((d:Int)+1-1)=(d:Int):=oM
      have hrows:ba (jl (jx b s d) (x.args.take i) (p+1)).1++[cT (jx b s d x.args[i] (jl (jx b s d) (x.args.take i) (p+1)).2).1]=ba (jl (jx b s d) (x.args.take (i+1)) (p+1)).1:=by rw[gY];exact(congrArg (ba (jl (jx b s d) (x.args.take i) (p+1)).1 ++ ·) (iu _ _).symm).trans (oq _ [_])
      have hq2:(jx b s d x.args[i] (jl (jx b s d) (x.args.take i) (p+1)).2).2=(jl (jx b s d) (x.args.take (i+1)) (p+1)).2:=by rw[gY]
      simp -implicitDefEqProofs only[go_sem,h5,vi]
      refine sQ ?_
      refine oC [] [0] hc ?_
      refine sQ ?_
      refine⟨i+1,?_,sL,bW [some 0,some 1,some 2,some 3,some 4,some 6] sC (by refine sA ?_;exact⟨by rw[hq2],hrows⟩) rfl rfl⟩
      omega
     ·have et:x.args.take i=x.args:=ak oM
      rw[et]
      refine bS h5 ?_
      refine bM [some 0,some 5] ?_ rfl rfl
      exact sC
theorem vV(b:List Int)(hb:rT b)(s:eV)(hs:fe s):∀(d:Nat)(sort p:Int),1≤d→0≤p→p+2 ^ d≤1000000000 →
 C E.P 53 [.bK 0 0,av (gi s),iv sort,iv d] [some (tn b p)] (gR (.agg [sv (jx b s d sort p).1.name,.aW 1]) [some (tn b (jx b s d sort p).2),some (.aW 31 (ba (jx b s d sort p).1.ar))])
 | 0,_,_,hd,_,_=>by omega
 | d+1,sort,p,_,h1,h2=>JS b hb s hs d sort p h1 h2 fun hd sort q g1 g2=>by refine(vV b hb s hs d sort q hd g1 g2).wF [some 0] ?_ rfl rfl;refine sA ?_;rfl
theorem vf(b:List Int)(hb:rT b)(s:eV)(hs:fe s)(d:Nat)(sort p:Int)(hd:1≤d)(h1:0≤p)(h2:p+2 ^ d≤1000000000) :
 C E.P 53 [.bK 0 0,av (gi s),iv sort,iv d] [some (tn b p)] (gR (av (cT (jx b s d sort p).1)) [some (tn b (jx b s d sort p).2)]):=by
 refine(vV b hb s hs d sort p hd h1 h2).wF [some 0] ?_ rfl rfl
 refine sA ?_
 rfl
theorem aab(b:List Int){s:eV}(hs:fe s)(d:Nat)(sort p:Int):(jx b s d sort p).1.ar.length≤2:=by
 cases d with
 | zero=>simp[jx,az.ar]
 | succ d=>unfold jx;split;simp[az.ar];simp only[az.ar,Be];exact(zF hs).1
theorem VQ{t:az}{n:Int}{us:List az}{ks:List Int}{d:Bool}{i:Nat}(h1:i<us.length)(h2:i<ks.length):nK t n (us.drop i) (ks.drop i) d =
 ((if !d&& !kn (a7 us[i]) (a7 t) then [t] else [])++((if decide (a7 us[i]≠a7 t) then [us[i]] else [])++(nK t n (us.drop (i+1)) (ks.drop (i+1)) (d||(!d&& !kn (a7 us[i]) (a7 t)))).1),
  (if !d&& !kn (a7 us[i]) (a7 t) then [n] else [])++((if decide (a7 us[i]≠a7 t) then [ks[i]] else [])++(nK t n (us.drop (i+1)) (ks.drop (i+1)) (d||(!d&& !kn (a7 us[i]) (a7 t)))).2)):=by
 rw[ai h1,ai h2]
 rfl
theorem ZV{t:az}{n:Int}{us:List az}{ks:List Int}{d:Bool}{i:Nat}(h1:us.length≤i):nK t n (us.drop i) (ks.drop i) d=if d then([],[]) else([t],[n]):=by rw[List.drop_of_length_le h1];rfl
theorem rZ(us:List az)(t:az):ba us++[[D.str t.name,D.eP (ba t.ar)]]=ba (us++[t]):=by rw[←oq,iu,om];rfl
theorem vx(us:List Int)(n:Int):bj us++[[D.val (Value.int .i64 n)]]=bj (us++[n]):=by rw[←fa];rfl
theorem Mv(k:Int)(an:List az)(bt:List Int)(bd:Int)(st:Bool)(t:az)(n:Int)(hl:an.length=bt.length)(rP:an.length≤1000)(hsh:∀u∈an,bX u 4=true)(ht:bX t 4=true) :
 C E.P 77 [.agg [iv k,sv [],.bE,sv [],.bE,.aW 0,.aW 1,iv bd,bv st],av (cT t),iv n] [some (.aW 31 (ba an)),some (.aW 3 (bj bt))] (gR (.agg [iv k,sv [],.bE,sv [],.bE,.aW 2,.aW 3,iv bd,bv st]) [some (.aW 31 (ba an)),some (.aW 3 (bj bt)),some (.aW 31 (ba (nK t n an bt false).1)),some (.aW 3 (bj (nK t n an bt false).2))]):=by
 refine gS 90 [.cell 6 34] hm Tryz.func77 fun hl he cV=>?_
 refine aeg hm an.length (fun(i:Nat) (dn:Bool) (uk:List az×List Int)=>uk.1.length≤2*i∧uk.2.length≤2*i∧nK t n an bt false=(uk.1++(nK t n (an.drop i) (bt.drop i) dn).1,uk.2++(nK t n (an.drop i) (bt.drop i) dn).2)) (fun i dn uk=>⟨fk 90 .any [(2,iv n),(3,.bK 2 0),(4,.bK 3 0),(6,.bK 4 0),(7,.bK 5 0),(8,bv dn),(9,iv i)],[some (.aW 31 (ba an)),some (.aW 3 (bj bt)),some (.box [iv k,sv [],.bE,sv [],.bE,.aW 0,.aW 1,iv bd,bv st]),some (.box (fy (cT t))),some (.box [iv 0,sv [],.bE,sv [],.bE,.bE,.bE,iv 0,bv false]),some (.box [iv k,sv [],.bE,sv [],.bE,.aW 6,.aW 7,iv bd,bv st]),some (.aW 31 (ba uk.1)),some (.aW 3 (bj uk.2))]⟩) (false) (([],[])) ?_ (c9 [some 0,some 1,some 2,some 3,some 4,some 5,none,none]) ?_
 ·exact⟨Nat.zero_le _,by simp,by simp,by simp⟩
 ·rintro i dn ⟨us,ks⟩ ⟨hi,b1,b2,hg⟩
  simp only at b1 b2 hg⊢
  rcases aa (i<an.length) with h3|h3
  ·have h4:i<bt.length:=oM
   rw[VQ h3 h4] at hg
   refine uC ?_
   refine aC [] (ot an[i] 4 (aH _) (hsh _ (List.getElem_mem h3))) ?_
   cases dn
   ·refine sA ?_
    refine aC [] (ot t 4 (aH _) ht) ?_
    cases h5:Op.bytesLess (a7 an[i]) (a7 t)
    ·have h5':kn (a7 an[i]) (a7 t)=false:=h5
     simp only[h5',Bool.not_false,Bool.and_self,if_true,Bool.or_true] at hg
     obtain⟨us',hus⟩:∃z,us++[t]=z:=⟨_,rfl⟩
     obtain⟨ks',hks⟩:∃z,ks++[n]=z:=⟨_,rfl⟩
     have eT:=rZ us t
     have eI:=vx ks n
     have lT:us'.length=us.length+1:=by rw[←hus];simp
     have lI:ks'.length=ks.length+1:=by rw[←hks];simp
     rw[hus] at eT
     rw[hks] at eI
     rw[←bm us,hus,←bm ks,hks] at hg
     refine pV eT eI ?_
     refine aC [] (ot t 4 (aH _) ht) ?_
     rcases aa (a7 an[i]=a7 t) with h7|h7
     ·have k7:=eq_true h7
      rw[decide_eq_false (fun h=>h h7)] at hg
      simp only[aw,if_false,bQ] at hg
      refine dB k7 ?_
      exact⟨i+1,true,(us',ks'),⟨h3,by dsimp only;omega,by dsimp only;omega,hg⟩,sL,c9 [some 0,some 1,some 2,some 3,some 4,some 5,some 8,some 9]⟩
     ·rw[decide_eq_true h7] at hg
      simp only[if_true] at hg
      have eo:=rZ us' an[i]
      have ep:=vx ks' bt[i]
      simp -implicitDefEqProofs only[go_sem,h7,h3,h4]
      refine sQ ?_
      exact⟨i+1,true,(us'++[an[i]],ks'++[bt[i]]),⟨h3,by simp;omega,by simp;omega,by simpa using hg⟩,sL,c9 [some 0,some 1,some 2,some 3,some 4,some 5,some 10,some 11]⟩
    ·have h5':kn (a7 an[i]) (a7 t)=true:=h5
     simp only[h5',ju,jK,aw,if_false,Bool.or_false,bQ] at hg
     refine sA ?_
     refine aC [] (ot t 4 (aH _) ht) ?_
     rcases aa (a7 an[i]=a7 t) with h7|h7
     ·have k7:=eq_true h7
      rw[decide_eq_false (fun h=>h h7)] at hg
      simp only[aw,if_false,bQ] at hg
      refine dB k7 ?_
      exact⟨i+1,false,(us,ks),⟨h3,by dsimp only;omega,by dsimp only;omega,hg⟩,sL,c9 im8⟩
     ·rw[decide_eq_true h7] at hg
      simp only[if_true] at hg
      have eo:=rZ us an[i]
      have ep:=vx ks bt[i]
      simp -implicitDefEqProofs only[go_sem,h7,h3,h4]
      refine sQ ?_
      exact⟨i+1,false,(us++[an[i]],ks++[bt[i]]),⟨h3,by simp;omega,by simp;omega,by simpa using hg⟩,sL,c9 [some 0,some 1,some 2,some 3,some 4,some 5,some 8,some 9]⟩
   ·simp only[ju,Bool.false_and,aw,if_false,Bool.true_or,bQ] at hg
    refine sA ?_
    refine aC [] (ot t 4 (aH _) ht) ?_
    rcases aa (a7 an[i]=a7 t) with h7|h7
    ·have k7:=eq_true h7
     rw[decide_eq_false (fun h=>h h7)] at hg
     simp only[aw,if_false,bQ] at hg
     refine dB k7 ?_
     exact⟨i+1,true,(us,ks),⟨h3,by dsimp only;omega,by dsimp only;omega,hg⟩,sL,c9 im8⟩
    ·rw[decide_eq_true h7] at hg
     simp only[if_true] at hg
     have eo:=rZ us an[i]
     have ep:=vx ks bt[i]
     simp -implicitDefEqProofs only[go_sem,h7,h3,h4]
     refine sQ ?_
     exact⟨i+1,true,(us++[an[i]],ks++[bt[i]]),⟨h3,by simp;omega,by simp;omega,by simpa using hg⟩,sL,c9 [some 0,some 1,some 2,some 3,some 4,some 5,some 8,some 9]⟩
  ·rw[ZV oM] at hg
   rw[hg]
   cases dn
   ·refine dB h3 ?_
    refine Et [some 0,some 1,some 8,some 9] ?_
    exact⟨rZ _ _,vx _ _⟩
   ·refine bS h3 ?_
    refine bM [some 0,some 1,some 6,some 7] ?_ rfl rfl
    exact sC
theorem Ym{b:List Int}(hb:rT b){p:Int}(h1:0≤p){l:List Int}(hl:l≠[])(hd:∀x∈l,1≤x∧x≤4):∃d:Nat,iI b p l=d∧1≤d∧d≤4∧(2:Int) ^ d≤16:=by
 obtain⟨d,e,h2,h3⟩:=qV hb h1 hl hd;refine⟨d,e,h2,h3,?_⟩;have:=Nat.pow_le_pow_right (n:=2) oM h3;have e:(2:Int) ^ d=((2 ^ d:Nat):Int):=by simp
 omega
theorem Al(b:List Int)(hb:rT b)(s:eV)(hs:fe s)(p:Int)(h1:0≤p)(h2:p≤900000000) :
 C E.P 47 [.bK 0 0,av (gi s)] [some (tn b p)] (gR (.agg [iv (ow b s p).1.kind,sv (ow b s p).1.A.name,lv (ba (ow b s p).1.A.ar),sv (ow b s p).1.B.name,lv (ba (ow b s p).1.B.ar),.aW 1,.aW 2,iv (ow b s p).1.bJ,bv (ow b s p).1.cz])
   [some (tn b (ow b s p).2),some (.aW 31 (ba (ow b s p).1.an)),some (.aW 3 (bj (ow b s p).1.bt))]):=by
 obtain⟨y,e0⟩:∃y,ow b s p=y:=⟨_,rfl⟩
 have ea:=e0
 unfold ow at ea
 rcases aa (cP b p 2=0) with c0|c0
 ·have k0:=eq_true c0
  rw[if_pos c0] at ea
  obtain⟨d1,ed1,d11,d12,d13⟩:=Ym hb (p:=p+2) oM (l:=[1,2]) (by simp) (by decide)
  simp only[ed1,aS] at ea
  have x1:=vf b hb s hs d1 (cP b (p+1) 2) (p+3) d11 oM oM
  have x2:=yS (b:=b) hs (d:=d1) oM (cP b (p+1) 2) (p+3)
  obtain⟨x,hx⟩:∃x,jx b s d1 (cP b (p+1) 2) (p+3)=x:=⟨_,rfl⟩
  rw[hx] at ea x1 x2
  obtain⟨d2,ed2,d21,d22,d23⟩:=Ym hb (p:=x.2) oM (l:=[1,1,2]) (by simp) (by decide)
  simp only[ed2,aS] at ea
  have y1:=vf b hb s hs d2 (cP b (p+1) 2) (x.2+1) d21 oM oM
  rw[e0,←ea]
  have q2:p+1+1=p+2:=oM
  have q3:p+2+1=p+3:=oM
  refine gS 54 [.cell 4 34] hm Tryz.func47 fun hl he cV=>?_
  refine oC [] [0] (ia b p 2 hb h1 oM) ?_
  refine bS k0 ?_
  refine oC [] [0] (ia b (p+1) 2 hb oM oM) ?_
  refine bS q2 ?_
  refine oC [] [0] (qN b (p+2) [1,2] hb oM oM (by simp) (by simp)) ?_
  refine lf ed1 q3 ?_
  refine oC [] [0] x1 ?_
  refine oC [] [0] (qN b x.2 [1,1,2] hb oM oM (by simp) (by simp)) ?_
  refine bS ed2 ?_
  refine xN [] [0] y1 ?_
  refine bM [some 0,none,none] ?_ rfl rfl
  exact sC
 ·rw[if_neg c0] at ea
  obtain⟨N,eN,n1,n2⟩:=qV hb (p:=p+3) oM (l:=[1,2,2,3]) (by simp) (by decide)
  simp only[eN,aS] at ea
  obtain⟨bd,hbd⟩:∃x,iI b (p+1) [0,1,-1,2,3,-4]=x:=⟨_,rfl⟩
  obtain⟨sb,hsb⟩:∃x,decide (cP b (p+2) 3=0)=x:=⟨_,rfl⟩
  rw[hbd,hsb] at ea
  rw[e0,←ea]
  have q2:p+1+1=p+2:=oM
  have q3:p+2+1=p+3:=oM
  have q4:p+3+1=p+4:=oM
  refine gS 54 [.cell 4 34] hm Tryz.func47 fun hl he cV=>?_
  refine oC [] [0] (ia b p 2 hb h1 oM) ?_
  refine bS c0 ?_
  refine oC [] [0] (qN b (p+1) [0,1,-1,2,3,-4] hb oM oM (by simp) (by simp)) ?_
  refine lf hbd q2 ?_
  refine oC [] [0] (ia b (p+2) 3 hb oM oM) ?_
  refine lf q3 hsb ?_
  refine oC [] [0] (qN b (p+3) [1,2,2,3] hb oM oM (by simp) (by simp)) ?_
  refine lf eN q4 ?_
  refine tG hm (fun(j:Nat) (q:Int) (uk:List az×List Int)=> j≤N∧0≤q∧q≤p+4+(N-j)*17∧wV (N-j) ⟨2,aX,aX,uk.1,uk.2,bd,sb⟩∧iY (mC b s) N ⟨2,aX,aX,[],[],bd,sb⟩ (p+4)=iY (mC b s) j ⟨2,aX,aX,uk.1,uk.2,bd,sb⟩ q) (fun j q uk=> ⟨fk 54 .any [(0,.bK 0 0),(3,.bK 1 0),(4,.bK 2 0),(6,.bK 3 0),(7,iv j)],[some (tn b q),some (.box (fy (gi s))),some (.box [iv 0,sv [],.bE,sv [],.bE,.bE,.bE,iv 0,bv false]),some (.box [iv 2,sv [],.bE,sv [],.bE,.aW 4,.aW 5,iv bd,bv sb]),some (.aW 31 (ba uk.1)),some (.aW 3 (bj uk.2))]⟩) (fun j q uk=> j) (N) (p+4) (([],[])) ?_ (c9 [some 0,some 1,some 2,some 3,none,none]) ?_
  ·exact⟨aH _,oM,oM,⟨rfl,by simp,by simp⟩,rfl⟩
  ·rintro j q ⟨us,ks⟩ ⟨hj,hq1,hq2,hf,hg⟩
   simp only at hf hg⊢
   rcases aa ((0:Int)<(j:Int)) with h3|h3
   ·obtain⟨j,rfl⟩:∃j',j=j'+1:=⟨j-1,oM⟩
    have hfew:us.length≤N-(j+1):=hf.few
    have fj:us.length=ks.length:=hf.len
    obtain⟨d1,ed1,d11,d12,d13⟩:=Ym hb (p:=q) hq1 (l:=[1,1,2]) (by simp) (by decide)
    have x1:=vf b hb s hs d1 1 (q+1) d11 oM oM
    have x2:=yS (b:=b) hs (d:=d1) oM 1 (q+1)
    have x3:=qz hb hs d1 1 (q+1) oM d11
    have sf:=Gs hb hs (m:=N-(j+1)) (p:=q) hq1 hf
    have sb2:=OA hb hs (a:=⟨2,aX,aX,us,ks,bd,sb⟩) (p:=q) hq1
    rw[iY] at hg
    have est:mC b s ⟨2,aX,aX,us,ks,bd,sb⟩ q=(⟨2,aX,aX,(nK (jx b s d1 1 (q+1)).1 (iI b (jx b s d1 1 (q+1)).2 [1,-1,1,-1,2,-2]) us ks false).1,(nK (jx b s d1 1 (q+1)).1 (iI b (jx b s d1 1 (q+1)).2 [1,-1,1,-1,2,-2]) us ks false).2,bd,sb⟩,(jx b s d1 1 (q+1)).2+1):=by simp only[mC,ed1,aS,agF]
    rw[est] at hg sf sb2
    simp only at hg sf sb2
    obtain⟨x,hx⟩:∃x,jx b s d1 1 (q+1)=x:=⟨_,rfl⟩
    rw[hx] at x1 x2 x3 hg sf sb2
    have hput:=Mv 2 us ks bd sb x.1 (iI b x.2 [1,-1,1,-1,2,-2]) fj oM hf.sh (GD d12 x3)
    have hjs:((j:Int)+1-1)=(j:Int):=oM
    have h3:(0:Int)<(j:Int)+1:=oM
    refine bS h3 ?_
    refine oC [] [0] (qN b q [1,1,2] hb hq1 oM (by simp) (by simp)) ?_
    refine bS ed1 ?_
    refine oC [] [0] x1 ?_
    refine oC [] [0] (qN b x.2 [1,-1,1,-1,2,-2] hb oM oM (by simp) (by simp)) ?_
    refine ff [] [4,5,6,7] hput ?_ ?_
    ·refine sA ?_
     first|rfl|((repeat' apply aq)<;>rfl)
    refine dB hjs ?_
    refine⟨j,x.2+1,(nK x.1 (iI b x.2 [1,-1,1,-1,2,-2]) us ks false),?_,sL,c9 [some 0,some 1,some 2,some 3,some 6,some 7]⟩
    refine⟨oM,oM,oM,?_,hg⟩
    have e:N-(j+1)+1=N-j:=oM
    rw[e] at sf
    exact sf
   ·obtain rfl:j=0:=oM
    rw[iY] at hg
    rw[hg]
    simp -implicitDefEqProofs only[go_sem,Z2]
    refine bM [some 0,some 4,some 5] ?_ rfl rfl
    exact sC
theorem Rk(b:List Int)(hb:rT b)(s:eV)(hs:fe s)(p:Int)(h1:0≤p)(h2:p≤900000000) :
 C E.P 47 [.bK 0 0,av (gi s)] [some (tn b p)] (gR (av (iA (ow b s p).1)) [some (tn b (ow b s p).2)]):=by
 refine(Al b hb s hs p h1 h2).wF [some 0] ?_ rfl rfl
 refine sA ?_
 exact⟨rfl,rfl⟩
end Go.Proofs.YtnhdminpjihbnaaGreat
