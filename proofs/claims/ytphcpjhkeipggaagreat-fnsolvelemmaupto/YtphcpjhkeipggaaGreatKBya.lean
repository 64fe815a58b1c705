/-
  The reference: the walks of what is drawn: numbers, words, terms. A step towards the laws.
-/
import Derived.Test.YtphcpjhkeipggaaGreatKBI
import Derived.Test.YtphcpjhkeipggaaGreatKBEb
set_option linter.unusedVariables false
set_option linter.unusedSimpArgs false
open Int renaming reduceEq→Z1,reduceLT→Z2,reduceLE→Z3,reduceToNat→Z4
open And renaming intro→an
open Bool renaming false_eq_true→au,and_false→iA,not_true→kj
open Classical renaming em→aa
open Int renaming toNat_natCast→bc
open List renaming drop_eq_getElem_cons→ae,getElem?_eq_getElem→af,take_of_length_le→aq,getD_eq_getElem?_getD→aB,length_take→bl,append_assoc→bC,append_nil→bE,nil_append→bS,length_filter_le→fH
open Nat renaming le_refl→aK,le_trans→fv
namespace Go.Proofs.YtphcpjhkeipggaaGreat
open Go.Eng Go.Mod
set_option maxRecDepth 100000
set_option maxHeartbeats 3200000
def rz(b:List Int)(p:Int):En:=.box [lv (Zn b),iv p]
def RT(l:List Int):List (List D):=bm l
def Tj(l:List pL):List (List D):=oz l
theorem aby:RT []=[]:=rfl
theorem Yo(n:Int)(l:List Int):RT (n::l)=[.val (.int .i64 n)]::RT l:=rfl
theorem ZF:Tj []=[]:=rfl
theorem X5(n:pL)(l:List pL):Tj (n::l)=[.str n]::Tj l:=rfl
attribute [go_sem] rz aby Yo ZF X5
theorem aeu(b:List Int):(Zn b).length=b.length:=by simp[Zn]
theorem adN{b:List Int}{i:Nat}(h:i<b.length):row (Zn b) i=[.val (.int .u8 b[i])]:=by simp[Zn,row,List.getD,af h]
attribute [go_sem] aeu
theorem Kv{b:List Int}{i:Nat}(h:i<b.length):row (Zn b) i=[.val (.int .u8 (b.getD i 0))]:=by rw[adN h,aB,af h];rfl
theorem jR(b:List Int)(p n:Int)(hb:uq b)(h1:0≤p)(h2:p≤1000000000):C E.P 21 [.bA 0 0,iv n] [some (rz b p)] (jF (iv (cF b p n)) [some (rz b (p+1))]):=by
 have hb1:=hb.len;refine gS 99 [.tmp 4] hm Tryz.func21 fun hl he cf=>?_;refine sQ ?_;rcases aa (n<1) with h3|h3;have e:cF b p n=0:=by rw[cF,if_pos h3]
 refine bH h3 ?_;refine bX fe ?_ rfl rfl;exact dD e;rcases aa (b.length=0) with h4|h4;have e:cF b p n=0:=by rw[cF,if_neg h3,if_pos h4]
 have k4:((b.length:Int)=0)=True:=eq_true oM;refine iI h3 k4 ?_;refine bX fe ?_ rfl rfl;exact dD e;have h4':¬ (b.length:Int)=0:=oM;have q1:p+1-1=p:=oM;refine ot h3 h4' q1 ?_;rcases aa (p<b.length) with h5|h5;have e:cF b p n=(b.getD p.toNat 0).tmod n:=by rw[cF,if_neg h3,if_neg h4,if_pos h5]
 have hl:p.toNat<b.length:=oM;have hg:=hb.getD p.toNat;have hr:=Kv hl;have w0:IntKind.i64.wrap (b.getD p.toNat 0)=b.getD p.toNat 0:=wrap_i64 ⟨oM,oM⟩;refine gL h5 hr w0 ?_;refine bX fe ?_ rfl rfl;exact dD e;have e:cF b p n=(RX (yf b p) ((yf b p).tdiv 64)).tmod n:=by rw[cF,if_neg h3,if_neg h4,if_neg h5]
 obtain⟨x1,x2,x3,x4⟩:=ad8 hb h1 h2 h4;have m1:0≤p.tmod b.length∧p.tmod b.length<b.length:=⟨Int.tmod_nonneg _ h1,Int.tmod_lt_of_pos _ oM⟩;have m2:0≤(p*7+3).tmod b.length∧(p*7+3).tmod b.length<b.length:=⟨Int.tmod_nonneg _ oM,Int.tmod_lt_of_pos _ oM⟩;have l1:(p.tmod b.length).toNat<b.length:=oM;have l2:((p*7+3).tmod b.length).toNat<b.length:=oM;have hr1:=Kv l1;have hr2:=Kv l2;have g1:=hb.getD (p.tmod b.length).toNat;have g2:=hb.getD ((p*7+3).tmod b.length).toNat;have d1:0≤(yf b p).tdiv 64∧(yf b p).tdiv 64≤yf b p:=by rw[Int.tdiv_eq_ediv_of_nonneg x3];omega
 have ex:yf b p=b.getD (p.tmod b.length).toNat 0*131+b.getD ((p*7+3).tmod b.length).toNat 0*1117+p*29+p.tdiv b.length*53:=rfl;have w1:IntKind.i64.wrap (b.getD (p.tmod b.length).toNat 0)=b.getD (p.tmod b.length).toNat 0:=wrap_i64 ⟨oM,oM⟩;have w2:IntKind.i64.wrap (b.getD ((p*7+3).tmod b.length).toNat 0)=b.getD ((p*7+3).tmod b.length).toNat 0:=wrap_i64 ⟨oM,oM⟩;refine gL h5 hr1 (an hr2 (an w1 w2)) ?_;rw[←ex];refine sQ ?_;refine agI (yf b p) ((yf b p).tdiv 64) (by simp -implicitDefEqProofs only[go_sem]) (by simp -implicitDefEqProofs only[go_sem]) oM oM oM oM ?_;refine bt ?_;refine bX fe ?_ rfl rfl;exact dD e
theorem qu(b:List Int)(p:Int)(l:List Int)(hb:uq b)(h1:0≤p)(h2:p≤1000000000)(hl:l≠[])(hl2:l.length≤100):C E.P 22 [.bA 0 0,lv (RT l)] [some (rz b p)] (jF (iv (jL b p l)) [some (rz b (p+1))]):=by
 have hn:1≤l.length:=by cases l with|nil=>exact(hl rfl).elim|cons=>simp
 obtain⟨k,e,hk⟩:=uV hb (p:=p) (n:=l.length) h1 hn;have hL:(RT l).length=l.length:=by simp[RT,bm]
 have hr:row (RT l) k=[.val (.int .i64 (jL b p l))]:=by rw[RT,Ga hk,jL,e,bc,aB,af hk];rfl
 refine gS 12 [.tmp 4] hm Tryz.func22 fun hl he cf=>?_;refine bH hL ?_;refine oC [] [0] (jR b p l.length hb h1 h2) ?_;rw[e];refine ot hL hk hr ?_;refine bX fe ?_ rfl rfl;exact sC
theorem aeV(b:List Int)(p:Int)(l:List pL)(hb:uq b)(h1:0≤p)(h2:p≤1000000000)(hl:l≠[])(hl2:l.length≤100):C E.P 172 [.bA 0 0,lv (Tj l)] [some (rz b p)] (jF (sv (Xm b p l)) [some (rz b (p+1))]):=by
 have hn:1≤l.length:=by cases l with|nil=>exact(hl rfl).elim|cons=>simp
 obtain⟨k,e,hk⟩:=uV hb (p:=p) (n:=l.length) h1 hn;have hL:(Tj l).length=l.length:=by simp[Tj,oz]
 have hr:row (Tj l) k=[.str (Xm b p l)]:=by rw[Tj,OW hk,Xm,e,bc,aB,af hk];rfl
 refine gS 12 [.tmp 4] hm Tryz.func172 fun hl he cf=>?_;refine bH hL ?_;refine oC [] [0] (jR b p l.length hb h1 h2) ?_;rw[e];refine ot hL hk hr ?_;refine bX fe ?_ rfl rfl;exact sC
theorem KT(b:List Int)(hb:∀x∈b,0≤x∧x≤255)(qF:b.length≤2000000):C E.P 16 [lv (Zn b)] [] (jF (.bA 0 0) [some (rz (b.take 2000) 0)]):=by
 refine gS 11 [.tmp 2] hm Tryz.func16 fun hl he cf=>?_;rcases aa ((2000:Int)<(b.length:Int)) with h1|h1;have h1n:2000≤b.length:=oM;have nq:∀y∈Zn b,y.length=1:=by intro y hy;obtain⟨x,_,rfl⟩:=List.mem_map.1 hy;rfl
 simp -implicitDefEqProofs only[go_sem,Z3,Z4,h1];refine an ⟨oM,nq⟩ ?_;refine bX fe ?_ rfl rfl;refine bt ?_;simp[Zn];have e:b.take 2000=b:=aq oM;refine bH h1 ?_;refine bX fe ?_ rfl rfl;exact dD e
theorem V3{b:List Int}(hb:∀x∈b,0≤x∧x≤255):uq (b.take 2000):=⟨by rw[bl];omega,fun x hx=>hb x (List.mem_of_mem_take hx)⟩
theorem ML(k:Int):CN 167 [iv k] (av (eP (Eu k))):=by refine gS 47 [.cell 2 25] hm Tryz.func167 fun hl he cf=>?_;rcases aa (k=0) with h0|h0;have k0:=eq_true h0;refine du k0 ?_;rw[Eu,if_pos h0];rfl;rcases aa (k=1) with h1|h1;have k1:=eq_true h1;refine oH h0 k1 ?_;rw[Eu,if_neg h0,if_pos h1];rfl;rcases aa (k=2) with h2|h2;have k2:=eq_true h2;refine gL h0 h1 k2 ?_;rw[Eu,if_neg h0,if_neg h1,if_pos h2];rfl;rcases aa (k=3) with h3|h3;have k3:=eq_true h3;refine gL h0 h1 (an h2 k3) ?_;rw[Eu,if_neg h0,if_neg h1,if_neg h2,if_pos h3];rfl;refine gL h0 h1 (an h2 h3) ?_;rw[Eu,if_neg h0,if_neg h1,if_neg h2,if_neg h3];rfl
theorem Ev(b:List Int)(p:Int)(hb:uq b)(h1:0≤p)(h2:p≤1000000000):C E.P 91 [.bA 0 0] [some (rz b p)] (jF (av (eP (qG b p).1)) [some (rz b (qG b p).2)]):=by refine gS 7 [.cell 2 25] hm Tryz.func91 fun hl he cf=>?_;refine oC [] [0] (qu b p [0,0,1,1,2,3,1,4] hb h1 h2 (by simp) (by simp)) ?_;refine aC [] (ML (jL b p [0,0,1,1,2,3,1,4])) ?_;refine bX fe ?_ rfl rfl;refine sA ?_;exact⟨rfl,rfl⟩
def DJ(s:eM)(sort:Int)(d i:Nat):List Sym:=(s.cQ.take i).filter fun x=>decide (x.sort=sort)&&(decide (1<d)||decide (x.args.length=0))
theorem SU(s:eM)(sort:Int)(d i:Nat)(h:i<s.cQ.length):DJ s sort d (i+1)=DJ s sort d i++(if decide (s.cQ[i].sort=sort)&&(decide (1<d)||decide (s.cQ[i].args.length=0)) then [s.cQ[i]] else []):=by unfold DJ;rw[List.take_add_one,af h,List.filter_append];congr 1;simp only[Option.toList_some,List.filter_cons,List.filter_nil]
theorem Ut(s:eM)(sort:Int)(d i:Nat):(DJ s sort d i).length≤i:=by refine fv (fH _ _) ?_;rw[bl];omega
theorem T3(s:eM)(sort:Int)(d i:Nat)(h:s.cQ.length≤i):DJ s sort d i=o0 s sort d:=by unfold DJ o0;rw[aq h]
theorem ID(b:List Int)(hb:uq b)(s:eM)(hs:gI s)(d:Nat)(sort p:Int)(h1:0≤p)(h2:p+2 ^ (d+1)≤1000000000)
 (ih:1≤d→∀(sort q:Int),0≤q→q+2 ^ d≤1000000000→C E.P 264 [.bA 0 0,av (eP s),iv sort,iv d] [some (rz b q)] (jF (av (cT (jE b s d sort q).1)) [some (rz b (jE b s d sort q).2)])) :
 C E.P 264 [.bA 0 0,av (eP s),iv sort,iv ((d:Int)+1)] [some (rz b p)] (jF (.agg [sv (jE b s (d+1) sort p).1.name,.aX 1]) [some (rz b (jE b s (d+1) sort p).2),some (.aX 32 (aU (jE b s (d+1) sort p).1.ar))]):=by
 obtain⟨hp,hp2⟩:=two_pow_pos d
 have hdl:(d:Int)<2 ^ d:=by have:=Nat.lt_two_pow_self (n:=d);have e:(2:Int) ^ d=((2 ^ d:Nat):Int):=(by simp);omega
 have hle:s.cQ.length≤7:=hs.1
 obtain⟨ws,hws⟩:∃ws,o0 s sort (d+1)=ws:=⟨_,rfl⟩
 have hwl:ws.length≤7:=by rw[←hws];exact fv (fH _ _) hle
 have hwm:=fun i=>zy (sort:=sort) (d:=d+1) (i:=i) hs
 rw[hws] at hwm
 have ea:jE b s (d+1) sort p=if ws.length=0 then(.mk [113] [],p) else(.mk (ws.getD (cF b p ws.length).toNat zw).name (gM (jE b s d) (ws.getD (cF b p ws.length).toNat zw).args (p+1)).1,(gM (jE b s d) (ws.getD (cF b p ws.length).toNat zw).args (p+1)).2):=by rw[←hws];rfl
 refine gS 89 [.cell 8 32] hm Tryz.func264 fun hl he cf=>?_
 refine jr hm s.cQ.length (fun i=>⟨dN 89 .any [(0,.bA 0 0),(2,iv sort),(3,iv ((d:Int)+1)),(5,.bA 1 0),(8,.bA 2 0),(9,.aX 3),(10,iv i)],[some (rz b p),some (.box (dm (eP s))),some (.box [sv [],.bW]),some (.aX 155 (fq (DJ s sort (d+1) i)))]⟩) (cM wM) ?_
 ·rintro i hi
  have hfl:=Ut s sort (d+1) i
  rcases aa (i<s.cQ.length) with h3|h3
  ·have e:=SU s sort (d+1) i h3
   rcases aa (s.cQ[i].sort=sort) with h4|h4
   ·have k4:=eq_true h4
    rcases aa (1<d+1) with h5|h5
    ·have h5':(1:Int)<(d:Int)+1:=oM
     rw[if_pos (by simp[h4,h5])] at e
     simp -implicitDefEqProofs only[go_sem,h3,k4,h5']
     refine sQ ?_
     refine⟨i+1,?_,sL,aZ [some 0,some 1,some 2,some 4] ?_ ?_ rfl rfl⟩
     rotate_left
     ·exact sC
     ·refine sA ?_
      all_goals((rw[e,←wB];rfl))
     omega
    ·have h5':¬ (1:Int)<(d:Int)+1:=oM
     rcases aa ((s.cQ[i].args.length:Int)=0) with h6|h6
     ·have h6n:s.cQ[i].args.length=0:=oM
      have k6:=eq_true h6
      rw[if_pos (by simp[h4,h6n])] at e
      simp -implicitDefEqProofs only[go_sem,h3,k4,h5',k6]
      refine sQ ?_
      refine⟨i+1,?_,sL,aZ [some 0,some 1,some 2,some 4] ?_ ?_ rfl rfl⟩
      rotate_left
      ·exact sC
      ·refine sA ?_
       all_goals((rw[e,←wB];rfl))
      omega
     ·have h6n:¬s.cQ[i].args.length=0:=oM
      rw[if_neg (by simp only[h5,h6n,decide_false,Bool.or_self,iA];simp),bE] at e
      simp -implicitDefEqProofs only[go_sem,h3,k4,h5',h6]
      refine sQ ?_
      refine⟨i+1,?_,sL,aZ wM sC (by refine sA ?_;(rw[e])) rfl rfl⟩
      omega
   ·rw[if_neg (by simp[h4]),bE] at e
    simp -implicitDefEqProofs only[go_sem,h3,h4]
    refine sQ ?_
    refine⟨i+1,?_,sL,aZ wM sC (by refine sA ?_;(rw[e])) rfl rfl⟩
    omega
  ·rw[T3 s sort (d+1) i oM,hws]
   rcases aa (ws.length=0) with h4|h4
   ·have k4:((ws.length:Int)=0)=True:=eq_true oM
    rw[if_pos h4] at ea
    refine iI h3 k4 ?_
    refine gA_ [some 0,none] ?_
    rw[ea]
    exact⟨rfl,rfl,rfl⟩
   ·rw[if_neg h4] at ea
    obtain⟨k,ek,hk⟩:=uV hb (p:=p) (n:=ws.length) h1 oM
    have ex:ws.getD k zw=ws[k]:=by rw[aB,af hk];rfl
    obtain⟨w1,w2⟩:=hwm k
    obtain⟨w3,w4⟩:=w2 hk
    rw[ex] at w1 w3 w4
    rw[ek,bc,ex] at ea
    have h4':¬ (ws.length:Int)=0:=oM
    refine iI h3 h4' ?_
    refine oC [] [0] (jR b p ws.length hb h1 oM) ?_
    rw[ek]
    simp -implicitDefEqProofs only[go_sem,hk]
    rw[ea]
    generalize ws[k]=x at w1 w4⊢
    refine jr hm x.args.length (fun i=>⟨dN 89 .any [(0,.bA 0 0),(3,iv ((d:Int)+1)),(5,.bA 1 0),(8,.bA 2 0),(11,.bA 3 0),(12,.bA 4 0),(13,iv i)],[some (rz b (gM (jE b s d) (x.args.take i) (p+1)).2),some (.box (dm (eP s))),some (.box [sv [],.bW]),some (.box (dm (zT x))),some (.box [sv x.name,.aX 5]),some (.aX 32 (aU (gM (jE b s d) (x.args.take i) (p+1)).1))]⟩) (cM [some 0,some 1,some 2,some 4,some 5,none]) ?_
    ·rintro i hi
     have hq:=Wa (f:=jE b s d) (c:=2 ^ d-1) (fun a p=>Gs hs d a p) (x.args.take i) (p+1)
     have hln:=vJ (jE b s d) (x.args.take i) (p+1)
     rw[bl] at hln
     rcases aa (i<x.args.length) with h5|h5
     ·have hd:1≤d:=by
       rcases Nat.eq_zero_or_pos d with rfl|hd
       ·rw[w4 (aK 1)] at h5;simp at h5
       ·exact hd
      have hmul:(((x.args.take i).length:Nat):Int)*(2 ^ d-1)≤1*(2 ^ d-1):=Int.mul_le_mul_of_nonneg_right (by rw[bl];omega) oM
      have hc:=ih hd x.args[i] (gM (jE b s d) (x.args.take i) (p+1)).2 oM oM
      have ld:=Gw (jE b s d) h5 (p+1)
      have o4:((d:Int)+1-1)=(d:Int):=oM
      have hrows:aU (gM (jE b s d) (x.args.take i) (p+1)).1++[cT (jE b s d x.args[i] (gM (jE b s d) (x.args.take i) (p+1)).2).1]=aU (gM (jE b s d) (x.args.take (i+1)) (p+1)).1:=by rw[ld];exact(congrArg (aU (gM (jE b s d) (x.args.take i) (p+1)).1 ++ ·) (eZ _ _).symm).trans (ng _ [_])
      have hq2:(jE b s d x.args[i] (gM (jE b s d) (x.args.take i) (p+1)).2).2=(gM (jE b s d) (x.args.take (i+1)) (p+1)).2:=by rw[ld]
      simp -implicitDefEqProofs only[go_sem,h5,o4]
      refine sQ ?_
      refine oC [] [0] hc ?_
      refine sQ ?_
      refine⟨i+1,?_,sL,aZ [some 0,some 1,some 2,some 3,some 4,some 6] sC (by refine sA ?_;exact⟨by rw[hq2],hrows⟩) rfl rfl⟩
      omega
     ·have et:x.args.take i=x.args:=aq oM
      rw[et]
      refine bH h5 ?_
      refine bX [some 0,some 5] ?_ rfl rfl
      exact sC
theorem we(b:List Int)(hb:uq b)(s:eM)(hs:gI s):∀(d:Nat)(sort p:Int),1≤d→0≤p→p+2 ^ d≤1000000000 →
 C E.P 264 [.bA 0 0,av (eP s),iv sort,iv d] [some (rz b p)] (jF (.agg [sv (jE b s d sort p).1.name,.aX 1]) [some (rz b (jE b s d sort p).2),some (.aX 32 (aU (jE b s d sort p).1.ar))])
 | 0,_,_,hd,_,_=>by omega
 | d+1,sort,p,_,h1,h2=>ID b hb s hs d sort p h1 h2 fun hd sort q g1 g2=>by refine(we b hb s hs d sort q hd g1 g2).RD [some 0] ?_ rfl rfl;refine sA ?_;rfl
theorem ug(b:List Int)(hb:uq b)(s:eM)(hs:gI s)(d:Nat)(sort p:Int)(hd:1≤d)(h1:0≤p)(h2:p+2 ^ d≤1000000000) :
 C E.P 264 [.bA 0 0,av (eP s),iv sort,iv d] [some (rz b p)] (jF (av (cT (jE b s d sort p).1)) [some (rz b (jE b s d sort p).2)]):=by
 refine(we b hb s hs d sort p hd h1 h2).RD [some 0] ?_ rfl rfl
 refine sA ?_
 rfl
theorem Yd(b:List Int){s:eM}(hs:gI s)(d:Nat)(sort p:Int):(jE b s d sort p).1.ar.length≤2:=by
 cases d with
 | zero=>simp[jE,ax.ar]
 | succ d=>unfold jE;split;simp[ax.ar];simp only[ax.ar,vJ];exact(zy hs).1
theorem UW{t:ax}{n:Int}{us:List ax}{ks:List Int}{d:Bool}{i:Nat}(h1:i<us.length)(h2:i<ks.length):nv t n (us.drop i) (ks.drop i) d =
 ((if !d&& !iQ (aR us[i]) (aR t) then [t] else [])++((if decide (aR us[i]≠aR t) then [us[i]] else [])++(nv t n (us.drop (i+1)) (ks.drop (i+1)) (d||(!d&& !iQ (aR us[i]) (aR t)))).1),
  (if !d&& !iQ (aR us[i]) (aR t) then [n] else [])++((if decide (aR us[i]≠aR t) then [ks[i]] else [])++(nv t n (us.drop (i+1)) (ks.drop (i+1)) (d||(!d&& !iQ (aR us[i]) (aR t)))).2)):=by
 rw[ae h1,ae h2]
 rfl
theorem Zb{t:ax}{n:Int}{us:List ax}{ks:List Int}{d:Bool}{i:Nat}(h1:us.length≤i):nv t n (us.drop i) (ks.drop i) d=if d then([],[]) else([t],[n]):=by rw[List.drop_of_length_le h1];rfl
theorem rY(us:List ax)(t:ax):aU us++[[D.str t.name,D.eC (aU t.ar)]]=aU (us++[t]):=by rw[←ng,eZ,il];rfl
theorem vT(us:List Int)(n:Int):bm us++[[D.val (Value.int .i64 n)]]=bm (us++[n]):=by rw[←iO];rfl
theorem KQ(k:Int)(ai:List ax)(a8:List Int)(bd:Int)(st:Bool)(t:ax)(n:Int)(hl:ai.length=a8.length)(qF:ai.length≤1000)(hsh:∀u∈ai,cd u 4=true)(ht:cd t 4=true) :
 C E.P 265 [.agg [iv k,sv [],.bW,sv [],.bW,.aX 0,.aX 1,iv bd,bv st],av (cT t),iv n] [some (.aX 32 (aU ai)),some (.aX 3 (bm a8))] (jF (.agg [iv k,sv [],.bW,sv [],.bW,.aX 2,.aX 3,iv bd,bv st]) [some (.aX 32 (aU ai)),some (.aX 3 (bm a8)),some (.aX 32 (aU (nv t n ai a8 false).1)),some (.aX 3 (bm (nv t n ai a8 false).2))]):=by
 refine gS 90 [.cell 6 59] hm Tryz.func265 fun hl he cf=>?_
 refine aaR hm ai.length (fun(i:Nat) (dn:Bool) (uk:List ax×List Int)=>uk.1.length≤2*i∧uk.2.length≤2*i∧nv t n ai a8 false=(uk.1++(nv t n (ai.drop i) (a8.drop i) dn).1,uk.2++(nv t n (ai.drop i) (a8.drop i) dn).2)) (fun i dn uk=>⟨dN 90 .any [(2,iv n),(3,.bA 2 0),(4,.bA 3 0),(6,.bA 4 0),(7,.bA 5 0),(8,bv dn),(9,iv i)],[some (.aX 32 (aU ai)),some (.aX 3 (bm a8)),some (.box [iv k,sv [],.bW,sv [],.bW,.aX 0,.aX 1,iv bd,bv st]),some (.box (dm (cT t))),some (.box [iv 0,sv [],.bW,sv [],.bW,.bW,.bW,iv 0,bv false]),some (.box [iv k,sv [],.bW,sv [],.bW,.aX 6,.aX 7,iv bd,bv st]),some (.aX 32 (aU uk.1)),some (.aX 3 (bm uk.2))]⟩) (false) (([],[])) ?_ (cM [some 0,some 1,some 2,some 3,some 4,some 5,none,none]) ?_
 ·exact⟨Nat.zero_le _,by simp,by simp,by simp⟩
 ·rintro i dn ⟨us,ks⟩ ⟨hi,b1,b2,hg⟩
  simp only at b1 b2 hg⊢
  rcases aa (i<ai.length) with h3|h3
  ·have h4:i<a8.length:=oM
   rw[UW h3 h4] at hg
   refine uC ?_
   refine aC [] (ob ai[i] 4 (aK _) (hsh _ (List.getElem_mem h3))) ?_
   cases dn
   ·refine sA ?_
    refine aC [] (ob t 4 (aK _) ht) ?_
    cases h5:Op.bytesLess (aR ai[i]) (aR t)
    ·have h5':iQ (aR ai[i]) (aR t)=false:=h5
     simp only[h5',Bool.not_false,Bool.and_self,if_true,Bool.or_true] at hg
     obtain⟨us',hus⟩:∃z,us++[t]=z:=⟨_,rfl⟩
     obtain⟨ks',hks⟩:∃z,ks++[n]=z:=⟨_,rfl⟩
     have eT:=rY us t
     have eI:=vT ks n
     have lT:us'.length=us.length+1:=by rw[←hus];simp
     have lI:ks'.length=ks.length+1:=by rw[←hks];simp
     rw[hus] at eT
     rw[hks] at eI
     rw[←bC us,hus,←bC ks,hks] at hg
     refine oH eT eI ?_
     refine aC [] (ob t 4 (aK _) ht) ?_
     rcases aa (aR ai[i]=aR t) with h7|h7
     ·have k7:=eq_true h7
      rw[decide_eq_false (fun h=>h h7)] at hg
      simp only[au,if_false,bS] at hg
      refine du k7 ?_
      exact⟨i+1,true,(us',ks'),⟨h3,by dsimp only;omega,by dsimp only;omega,hg⟩,sL,cM [some 0,some 1,some 2,some 3,some 4,some 5,some 8,some 9]⟩
     ·rw[decide_eq_true h7] at hg
      simp only[if_true] at hg
      have eo:=rY us' ai[i]
      have ep:=vT ks' a8[i]
      simp -implicitDefEqProofs only[go_sem,h7,h3,h4]
      refine sQ ?_
      exact⟨i+1,true,(us'++[ai[i]],ks'++[a8[i]]),⟨h3,by simp;omega,by simp;omega,by simpa using hg⟩,sL,cM [some 0,some 1,some 2,some 3,some 4,some 5,some 10,some 11]⟩
    ·have h5':iQ (aR ai[i]) (aR t)=true:=h5
     simp only[h5',kj,iA,au,if_false,Bool.or_false,bS] at hg
     refine sA ?_
     refine aC [] (ob t 4 (aK _) ht) ?_
     rcases aa (aR ai[i]=aR t) with h7|h7
     ·have k7:=eq_true h7
      rw[decide_eq_false (fun h=>h h7)] at hg
      simp only[au,if_false,bS] at hg
      refine du k7 ?_
      exact⟨i+1,false,(us,ks),⟨h3,by dsimp only;omega,by dsimp only;omega,hg⟩,sL,cM im8⟩
     ·rw[decide_eq_true h7] at hg
      simp only[if_true] at hg
      have eo:=rY us ai[i]
      have ep:=vT ks a8[i]
      simp -implicitDefEqProofs only[go_sem,h7,h3,h4]
      refine sQ ?_
      exact⟨i+1,false,(us++[ai[i]],ks++[a8[i]]),⟨h3,by simp;omega,by simp;omega,by simpa using hg⟩,sL,cM [some 0,some 1,some 2,some 3,some 4,some 5,some 8,some 9]⟩
   ·simp only[kj,Bool.false_and,au,if_false,Bool.true_or,bS] at hg
    refine sA ?_
    refine aC [] (ob t 4 (aK _) ht) ?_
    rcases aa (aR ai[i]=aR t) with h7|h7
    ·have k7:=eq_true h7
     rw[decide_eq_false (fun h=>h h7)] at hg
     simp only[au,if_false,bS] at hg
     refine du k7 ?_
     exact⟨i+1,true,(us,ks),⟨h3,by dsimp only;omega,by dsimp only;omega,hg⟩,sL,cM im8⟩
    ·rw[decide_eq_true h7] at hg
     simp only[if_true] at hg
     have eo:=rY us ai[i]
     have ep:=vT ks a8[i]
     simp -implicitDefEqProofs only[go_sem,h7,h3,h4]
     refine sQ ?_
     exact⟨i+1,true,(us++[ai[i]],ks++[a8[i]]),⟨h3,by simp;omega,by simp;omega,by simpa using hg⟩,sL,cM [some 0,some 1,some 2,some 3,some 4,some 5,some 8,some 9]⟩
  ·rw[Zb oM] at hg
   rw[hg]
   cases dn
   ·refine du h3 ?_
    refine gA_ [some 0,some 1,some 8,some 9] ?_
    exact⟨rY _ _,vT _ _⟩
   ·refine bH h3 ?_
    refine bX [some 0,some 1,some 6,some 7] ?_ rfl rfl
    exact sC
theorem Tq{b:List Int}(hb:uq b){p:Int}(h1:0≤p){l:List Int}(hl:l≠[])(hd:∀x∈l,1≤x∧x≤4):∃d:Nat,jL b p l=d∧1≤d∧d≤4∧(2:Int) ^ d≤16:=by
 obtain⟨d,e,h2,h3⟩:=w7 hb h1 hl hd;refine⟨d,e,h2,h3,?_⟩;have:=Nat.pow_le_pow_right (n:=2) oM h3;have e:(2:Int) ^ d=((2 ^ d:Nat):Int):=by simp
 omega
theorem AE(b:List Int)(hb:uq b)(s:eM)(hs:gI s)(p:Int)(h1:0≤p)(h2:p≤900000000) :
 C E.P 168 [.bA 0 0,av (eP s)] [some (rz b p)] (jF (.agg [iv (qh b s p).1.kind,sv (qh b s p).1.A.name,lv (aU (qh b s p).1.A.ar),sv (qh b s p).1.B.name,lv (aU (qh b s p).1.B.ar),.aX 1,.aX 2,iv (qh b s p).1.bj,bv (qh b s p).1.bJ])
   [some (rz b (qh b s p).2),some (.aX 32 (aU (qh b s p).1.ai)),some (.aX 3 (bm (qh b s p).1.a8))]):=by
 obtain⟨y,e0⟩:∃y,qh b s p=y:=⟨_,rfl⟩
 have ea:=e0
 unfold qh at ea
 rcases aa (cF b p 2=0) with c0|c0
 ·have k0:=eq_true c0
  rw[if_pos c0] at ea
  obtain⟨d1,ed1,d11,d12,d13⟩:=Tq hb (p:=p+2) oM (l:=[1,2]) (by simp) (by decide)
  simp only[ed1,bc] at ea
  have x1:=ug b hb s hs d1 (cF b (p+1) 2) (p+3) d11 oM oM
  have x2:=BJ (b:=b) hs (d:=d1) oM (cF b (p+1) 2) (p+3)
  obtain⟨x,hx⟩:∃x,jE b s d1 (cF b (p+1) 2) (p+3)=x:=⟨_,rfl⟩
  rw[hx] at ea x1 x2
  obtain⟨d2,ed2,d21,d22,d23⟩:=Tq hb (p:=x.2) oM (l:=[1,1,2]) (by simp) (by decide)
  simp only[ed2,bc] at ea
  have y1:=ug b hb s hs d2 (cF b (p+1) 2) (x.2+1) d21 oM oM
  rw[e0,←ea]
  have q2:p+1+1=p+2:=oM
  have q3:p+2+1=p+3:=oM
  refine gS 54 [.cell 4 59] hm Tryz.func168 fun hl he cf=>?_
  refine oC [] [0] (jR b p 2 hb h1 oM) ?_
  refine bH k0 ?_
  refine oC [] [0] (jR b (p+1) 2 hb oM oM) ?_
  refine bH q2 ?_
  refine oC [] [0] (qu b (p+2) [1,2] hb oM oM (by simp) (by simp)) ?_
  refine iI ed1 q3 ?_
  refine oC [] [0] x1 ?_
  refine oC [] [0] (qu b x.2 [1,1,2] hb oM oM (by simp) (by simp)) ?_
  refine bH ed2 ?_
  refine Mw [] [0] y1 ?_
  refine bX [some 0,none,none] ?_ rfl rfl
  exact sC
 ·rw[if_neg c0] at ea
  obtain⟨N,eN,n1,n2⟩:=w7 hb (p:=p+3) oM (l:=[1,2,2,3]) (by simp) (by decide)
  simp only[eN,bc] at ea
  obtain⟨bd,hbd⟩:∃x,jL b (p+1) [0,1,-1,2,3,-4]=x:=⟨_,rfl⟩
  obtain⟨sb,hsb⟩:∃x,decide (cF b (p+2) 3=0)=x:=⟨_,rfl⟩
  rw[hbd,hsb] at ea
  rw[e0,←ea]
  have q2:p+1+1=p+2:=oM
  have q3:p+2+1=p+3:=oM
  have q4:p+3+1=p+4:=oM
  refine gS 54 [.cell 4 59] hm Tryz.func168 fun hl he cf=>?_
  refine oC [] [0] (jR b p 2 hb h1 oM) ?_
  refine bH c0 ?_
  refine oC [] [0] (qu b (p+1) [0,1,-1,2,3,-4] hb oM oM (by simp) (by simp)) ?_
  refine iI hbd q2 ?_
  refine oC [] [0] (jR b (p+2) 3 hb oM oM) ?_
  refine iI q3 hsb ?_
  refine oC [] [0] (qu b (p+3) [1,2,2,3] hb oM oM (by simp) (by simp)) ?_
  refine iI eN q4 ?_
  refine n6 hm (fun(j:Nat) (q:Int) (uk:List ax×List Int)=> j≤N∧0≤q∧q≤p+4+(N-j)*17∧wy (N-j) ⟨2,aQ,aQ,uk.1,uk.2,bd,sb⟩∧kY (nL b s) N ⟨2,aQ,aQ,[],[],bd,sb⟩ (p+4)=kY (nL b s) j ⟨2,aQ,aQ,uk.1,uk.2,bd,sb⟩ q) (fun j q uk=> ⟨dN 54 .any [(0,.bA 0 0),(3,.bA 1 0),(4,.bA 2 0),(6,.bA 3 0),(7,iv j)],[some (rz b q),some (.box (dm (eP s))),some (.box [iv 0,sv [],.bW,sv [],.bW,.bW,.bW,iv 0,bv false]),some (.box [iv 2,sv [],.bW,sv [],.bW,.aX 4,.aX 5,iv bd,bv sb]),some (.aX 32 (aU uk.1)),some (.aX 3 (bm uk.2))]⟩) (fun j q uk=> j) (N) (p+4) (([],[])) ?_ (cM [some 0,some 1,some 2,some 3,none,none]) ?_
  ·exact⟨aK _,oM,oM,⟨rfl,by simp,by simp⟩,rfl⟩
  ·rintro j q ⟨us,ks⟩ ⟨hj,hq1,hq2,hf,hg⟩
   simp only at hf hg⊢
   rcases aa ((0:Int)<(j:Int)) with h3|h3
   ·obtain⟨j,rfl⟩:∃j',j=j'+1:=⟨j-1,oM⟩
    have hfew:us.length≤N-(j+1):=hf.few
    have eO:us.length=ks.length:=hf.len
    obtain⟨d1,ed1,d11,d12,d13⟩:=Tq hb (p:=q) hq1 (l:=[1,1,2]) (by simp) (by decide)
    have x1:=ug b hb s hs d1 1 (q+1) d11 oM oM
    have x2:=BJ (b:=b) hs (d:=d1) oM 1 (q+1)
    have x3:=Dd hb hs d1 1 (q+1) oM d11
    have sf:=Ei hb hs (m:=N-(j+1)) (p:=q) hq1 hf
    have sb2:=OM hb hs (a:=⟨2,aQ,aQ,us,ks,bd,sb⟩) (p:=q) hq1
    rw[kY] at hg
    have est:nL b s ⟨2,aQ,aQ,us,ks,bd,sb⟩ q=(⟨2,aQ,aQ,(nv (jE b s d1 1 (q+1)).1 (jL b (jE b s d1 1 (q+1)).2 [1,-1,1,-1,2,-2]) us ks false).1,(nv (jE b s d1 1 (q+1)).1 (jL b (jE b s d1 1 (q+1)).2 [1,-1,1,-1,2,-2]) us ks false).2,bd,sb⟩,(jE b s d1 1 (q+1)).2+1):=by simp only[nL,ed1,bc,adD]
    rw[est] at hg sf sb2
    simp only at hg sf sb2
    obtain⟨x,hx⟩:∃x,jE b s d1 1 (q+1)=x:=⟨_,rfl⟩
    rw[hx] at x1 x2 x3 hg sf sb2
    have hput:=KQ 2 us ks bd sb x.1 (jL b x.2 [1,-1,1,-1,2,-2]) eO oM hf.sh (OZ d12 x3)
    have hjs:((j:Int)+1-1)=(j:Int):=oM
    have h3:(0:Int)<(j:Int)+1:=oM
    refine bH h3 ?_
    refine oC [] [0] (qu b q [1,1,2] hb hq1 oM (by simp) (by simp)) ?_
    refine bH ed1 ?_
    refine oC [] [0] x1 ?_
    refine oC [] [0] (qu b x.2 [1,-1,1,-1,2,-2] hb oM oM (by simp) (by simp)) ?_
    refine lx [] [4,5,6,7] hput ?_ ?_
    ·refine sA ?_
     first|rfl|((repeat' apply an)<;>rfl)
    refine du hjs ?_
    refine⟨j,x.2+1,(nv x.1 (jL b x.2 [1,-1,1,-1,2,-2]) us ks false),?_,sL,cM [some 0,some 1,some 2,some 3,some 6,some 7]⟩
    refine⟨oM,oM,oM,?_,hg⟩
    have e:N-(j+1)+1=N-j:=oM
    rw[e] at sf
    exact sf
   ·obtain rfl:j=0:=oM
    rw[kY] at hg
    rw[hg]
    simp -implicitDefEqProofs only[go_sem,Z2]
    refine bX [some 0,some 4,some 5] ?_ rfl rfl
    exact sC
theorem QM(b:List Int)(hb:uq b)(s:eM)(hs:gI s)(p:Int)(h1:0≤p)(h2:p≤900000000) :
 C E.P 168 [.bA 0 0,av (eP s)] [some (rz b p)] (jF (av (fC (qh b s p).1)) [some (rz b (qh b s p).2)]):=by
 refine(AE b hb s hs p h1 h2).RD [some 0] ?_ rfl rfl
 refine sA ?_
 exact⟨rfl,rfl⟩
end Go.Proofs.YtphcpjhkeipggaaGreat
