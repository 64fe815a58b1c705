/-
  The program: the search, where nothing can be found. A step towards the laws.
-/
import Derived.Test.YtnhdminpjihbnaaGreatKAEp
import Derived.Test.YtnhdminpjihbnaaGreatKAzj
import Derived.Test.YtnhdminpjihbnaaGreatKAx
import Derived.Test.YtnhdminpjihbnaaGreatKAyh
set_option linter.unusedVariables false
set_option linter.unusedSimpArgs false
open Int renaming reduceEq→Z1,reduceLT→Z2,reduceLE→Z3,reduceToNat→Z4
open And renaming intro→aq
open Bool renaming false_eq_true→aw,eq_false_or_eq_true→iQ
open Classical renaming em→aa
open List renaming append_assoc→bm,take_add_one→bn,mem_map→bq,length_map→cd,mem_filter→cX,take_succ_cons→dE,filter_cons→fB,length_filter_le→fS,drop_drop→l7,map_set→mI,drop→pC
open Nat renaming le_refl→aH
namespace Go.Proofs.YtnhdminpjihbnaaGreat
open Go.Eng Go.Mod
set_option maxRecDepth 100000
set_option maxHeartbeats 1600000
theorem K2{E:Env}{o:Oper}{g g':G}{rest:sH→Option (List Ky)→G→Prop}(hw:wQ E.P g g')(h:tm E none none o g' rest):tm E none none o g rest:=by rcases h with⟨R,δ,h1,h2⟩|⟨_,_,g2,hw2,R,δ,h1,h2⟩;exact .inr ⟨rfl,rfl,g',hw,R,δ,h1,h2⟩;exact .inr ⟨rfl,rfl,g2,hw.trans hw2,R,δ,h1,h2⟩
theorem Ha:C E.P 58 [.bE] [] (gR (.aW 0) [some (.aW 3 (bj []))]):=by refine gS 8 [.tmp 2] hm Tryz.func58 fun hl he cV=>?_;refine wW 3 _ true rfl rfl (by simp -implicitDefEqProofs only[go_sem]) vl ?_;refine sA ?_;refine bM [none] ?_ rfl rfl;exact sC
theorem sU(ns:List Int)(hl1:ns.length≤1000):C E.P 58 [lv (bj ns)] [] (gR (.aW 0) [some (.aW 3 (bj ns))]):=by
 cases ns with
 | nil=>exact ES Ha sn
 | cons x xs=>exact tU (x::xs) (by simp) hl1
theorem CD:CN 92 [lv (bj [])] (.ko [lv (bj []),bv true]):=by refine gS 29 [.tmp 2,.tmp 3] hm Tryz.func92 fun hl he cV=>?_;refine hJ hm (fun(i:Nat)=> i=0) (fun i=> ⟨fk 29 .any [(0,lv (bj [])),(7,lv (bj [])),(8,iv 0),(9,iv i)],[]⟩) (fun i=> 0) (0) ?_ (c9 []) ?_;rfl;rintro i rfl;simp -implicitDefEqProofs only[go_sem,Z2];refine oC [] [0] (sU [] (by simp)) ?_;refine oC [] [0] (Em [] (by simp) (by simp)) ?_;refine xN [] [0,1] (xR (ik []) (by show(0:Nat)≤1000;omega)) ?_;rfl
theorem xt(l:List Int)(rP:l.length≤12)(hb9:∀x∈l,-1000000≤x∧x≤1000000):CN 92 [lv (bj l)] (.ko [lv (bj ((hQ l).getD [])),bv (hQ l).isSome]):=by
 cases l with
 | nil=>exact CD
 | cons x xs=>exact Jl (x::xs) (by simp) rP hb9
def vF(put:List Int)(m v:Nat):List Bool:=List.replicate v false++(wM put m).drop v
theorem O7{put:List Int}{m u:Nat}(h:u<m):(wM put m).drop u=put.contains ((u:Int)+1)::(wM put m).drop (u+1):=by
 have hl:u<(wM put m).length:=by simpa[wM] using h
 rw[List.drop_eq_getElem_cons hl];congr 1;simp[wM]
theorem aje{put:List Int}{m u:Nat}(h:u<m)(hc:put.contains ((u:Int)+1)=false):vF put m (u+1)=vF put m u:=by rw[vF,vF,O7 h,hc,List.replicate_succ',bm];rfl
theorem ahv{put:List Int}{m v:Nat}(h:v≤m):(vF put m v).length=m:=by simp[vF,wM];omega
theorem aha{put:List Int}{m u:Nat}(h:u<m)(hc:put.contains ((u:Int)+1)=true):(vF put m (u+1)).set u true=vF put m u:=by rw[vF,vF,O7 h,hc,List.replicate_succ',bm,List.set_append_right _ _ (by simp)];simp
theorem aah(l:List Bool)(u:Nat)(b:Bool)(h:u<l.length):(rV l).set u (vz [D.val (.bool l[u])] 0 [D.val (.bool b)])=rV (l.set u b):=by rw[rV,rV,mI];rfl
theorem FM(c:Mod.gI)(d:Nat)(dec:List Int)(h:qQ)(hz:h.fuel=0) :
 C E.P 70 [.bK 0 0,lv (bj dec)] [some (.box [iv c.aP,lv (dS c.au),iv h.fuel,.aW 1,bv h.out]),some (.aW 32 (dS h.log))] (gR (.ko [.aW 3,bv (eO c d dec h).found]) [some (.box [iv c.aP,lv (dS c.au),iv (eO c d dec h).fuel,.aW 2,bv (eO c d dec h).out]),some .dead,some (.aW 32 (dS (eO c d dec h).log)),some (.aW 4 (rV (eO c d dec h).aV))]):=by
 rw[zt hz]
 have k0:=eq_true hz
 refine gS 122 [.tmp 4,.tmp 5] hm Tryz.func70 fun hl he cV=>?_
 refine bS k0 ?_
 refine bM [some 0,some 1,some 1,none] ?_ rfl rfl
 simp -implicitDefEqProofs only[go_sem]
 all_goals first|done|exact⟨rfl,rfl⟩|rfl
theorem P2(n:Nat)(c:Mod.gI)(hu:Dc n c):∀(d:Nat)(dec:List Int)(h:qQ),wH n dec→h.out=false→0≤h.fuel→h.fuel≤d→(h.log.length:Int)+h.fuel≤130 →
 C E.P 70 [.bK 0 0,lv (bj dec)] [some (.box [iv c.aP,lv (dS c.au),iv h.fuel,.aW 1,bv h.out]),some (.aW 32 (dS h.log))] (gR (.ko [.aW 3,bv (eO c d dec h).found]) [some (.box [iv c.aP,lv (dS c.au),iv (eO c d dec h).fuel,.aW 2,bv (eO c d dec h).out]),some .dead,some (.aW 32 (dS (eO c d dec h).log)),some (.aW 4 (rV (eO c d dec h).aV))]):=by
 obtain⟨m,hcm⟩:∃m:Nat,c.aP=m:=⟨c.aP.toNat,by have:=hu.aP;omega⟩
 have hmt:c.aP.toNat=m:=oM
 have hm60:m≤60:=by have:=hu.aP;omega
 have h6:=hu.six
 intro d
 induction d with
 | zero=>exact fun dec h hd ho h0 h1 h2=>FM c 0 dec h oM
 | succ d ih=>
  intro dec h hd ho h0 h1 h2;rcases aa (h.fuel=0) with hz|hz;exact FM c (d+1) dec h hz;have hdl:=hd.len;have cu:=R0 c.au dec hd.1 hu.clause;obtain⟨fu,lg,ou⟩:=h;simp only at ho h0 h1 h2 hz;subst ho;cases hb:(fQ c.au dec).2
  ·have hnx:=hd.next hu hb;rw[hb] at cu;rw[hcm] at ih⊢;obtain⟨put,hput⟩:∃put,(fQ c.au dec).1=put:=⟨_,rfl⟩;obtain⟨F,hF⟩:∃F,iM put m 0=F:=⟨_,rfl⟩;have hF2:iM (fQ c.au dec).1 c.aP.toNat 0=F:=(by rw[hput,hmt,hF]);rw[hput] at cu;rw[hF2] at hnx;refine gS 122 [.tmp 4,.tmp 5] hm Tryz.func70 fun hl he cV=>?_;refine bS hz ?_;refine sQ ?_;refine oL [] cu ?_;refine pY hm (fun(v:Nat) (q:Int)=> v≤m∧iM put v q=F) (fun v q=> ⟨fk 122 .any [(0,.bK 0 0),(1,lv (bj dec)),(6,lv (bj put)),(8,iv q),(9,.aW 2),(10,iv v)],[some (.box [iv m,lv (dS c.au),iv (fu-1),.aW 1,bv false]),some (.aW 32 (dS lg)),some (.aW 4 (rV (vF put m v)))]⟩) (fun v q=> v) (m) (0) ?_ (bW sa sC (by refine sA ?_;(simp[vF,rV,wM])) rfl rfl) ?_;exact⟨aH _,hF⟩;rintro v q ⟨g1,g4⟩;rcases aa ((0:Int)<(v:Int)) with h3|h3;obtain⟨u,hu1⟩:∃u:Nat,v=u+1:=⟨v-1,oM⟩;have hv1:(v:Int)-1=(u:Int):=oM;have hum:u<m:=oM;have hur:u<(vF put m v).length:=(by rw[ahv g1];omega);have hvu:(v:Int)=(u:Int)+1:=oM;have g5:iM put u (if put.contains (v:Int) then q else if put.contains (-(v:Int)) then q else(v:Int))=F:=(by rw[←g4];subst hu1;rw[iM];rfl);refine bS h3 ?_;refine aC [] (kI put (v:Int)) ?_;cases k1:put.contains (v:Int);have hvf:vF put m v=vF put m u:=(by rw[hu1];exact aje hum (by rw[←hvu];exact k1));rw[hvf];rw[k1] at g5;simp only[aw,if_false] at g5;refine bI ?_;refine aC [] (kI put (-(v:Int))) ?_;cases k2:put.contains (-(v:Int));rw[k2] at g5;simp only[aw,if_false] at g5;refine dB hv1 ?_;exact⟨u,(v:Int),⟨oM,g5⟩,sL,c9 sa⟩;rw[k2] at g5;simp only[if_true] at g5;refine dB hv1 ?_;exact⟨u,q,⟨oM,g5⟩,sL,c9 sa⟩;have hvf:(vF put m v).set u true=vF put m u:=(by rw[hu1];exact aha hum (by rw[←hvu];exact k1));rw[k1] at g5;simp only[if_true] at g5;simp -implicitDefEqProofs only[go_sem,hv1,hur];refine sQ ?_;exact⟨u,q,⟨oM,g5⟩,sL,bW sa sC (by refine sA ?_;(rw[aah _ _ _ hur,hvf])) rfl rfl⟩;have hv0:v=0:=oM;subst hv0;rw[iM] at g4;subst g4;rcases aa (q=0) with hF0|hF0;have k0:=eq_true hF0;rw[y5 hz hb (by rw[hF2];exact hF0)];have ev:vF put m 0=wM put m:=(by simp[vF]);rw[ev,hput,hmt];simp -implicitDefEqProofs only[go_sem,Z2,k0];refine bM [some 0,some 1,some 1,some 2] ?_ rfl rfl;exact sC;obtain⟨f,f1,f2,f3,d1,d2⟩:=hnx.resolve_left hF0;subst f1;rw[zC hz hb hF2 hF0];have hf0:¬ (f:Int)=0:=hF0;simp -implicitDefEqProofs only[go_sem,Z2,hf0];refine sQ ?_;refine Ag hm 2 (fun(i:Nat) (g:qQ)=>g.out=false∧0≤g.fuel∧g.fuel≤d∧(g.log.length:Int)+g.fuel≤129∧Io c d dec f 0 ⟨fu-1,lg,false⟩=Io c d dec f i g) (fun i g=>⟨fk 122 .any [(0,.bK 0 0),(1,lv (bj dec)),(80,lv (bj [-(f:Int),(f:Int)])),(81,iv 2),(82,iv i)],[some (.box [iv m,lv (dS c.au),iv g.fuel,.aW 2,bv false]),some .dead,some (.aW 32 (dS g.log))]⟩) (⟨fu-1,lg,false⟩) ?_ (c9 [some 0,some 1,some 1]) ?_;exact⟨oM,rfl,by simp only;omega,by simp only;omega,by simp only;omega,rfl⟩;rintro i g ⟨q1,q2,q3,q4,q5,q6⟩;rw[q6];have e1:row (bj [-(f:Int),(f:Int)]) 1=[D.val (Value.int .i64 f)]:=rfl;have e2:(1:Nat)<1+1:=oM;have hcase:i=0∨i=1∨i=2:=oM;rcases hcase with rfl|rfl|rfl
   ·have cr:=ih (dec++[(-(f:Int))]) g d1 q2 q3 q4 oM;have hbb:=FF c d (dec++[(-(f:Int))]) g q3;have er:bj (dec++[(-(f:Int))])=bj dec++[[D.val (Value.int .i64 ((-(f:Int))))]]:=(fa dec [(-(f:Int))]).symm;rw[yV];rw[er,q2] at cr;generalize eO c d (dec++[(-(f:Int))]) g=k at cr hbb⊢;simp -implicitDefEqProofs only[go_sem,Z2];refine xN [] [3] (sU dec oM) ?_;refine K2 (GW 92 4 rfl) ?_;simp -implicitDefEqProofs only[go_sem,List.getElem_cons_zero];refine ff [] [0,2,5,6] cr ?_ ?_
    ·refine sA ?_;first|rfl|((repeat' apply aq)<;>rfl)
    refine sA ?_;rcases iQ k.found with hfd|hfd;rw[if_pos (by rw[hfd];rfl)];refine bS hfd ?_;refine bM [some 0,some 1,some 5,some 6] ?_ rfl rfl;exact sC;rcases iQ k.out with ho|ho;rw[if_pos (by rw[hfd,ho];rfl)];refine lf hfd ho ?_;refine bM [some 0,some 1,some 5,some 6] ?_ rfl rfl;exact sC;rw[if_neg (by rw[hfd,ho];simp)];refine pV hfd ho ?_;exact⟨1,k.h,⟨oM,ho,hbb.1,by have:k.h.fuel=k.fuel:=rfl;omega,by have e1:k.h.fuel=k.fuel:=rfl;have e2:k.h.log=k.log:=rfl;rw[e1,e2];omega,rfl⟩,sL,c9 [some 0,some 1,some 5]⟩
   ·have cr:=ih (dec++[(f:Int)]) g d2 q2 q3 q4 oM;have hbb:=FF c d (dec++[(f:Int)]) g q3;have er:bj (dec++[(f:Int)])=bj dec++[[D.val (Value.int .i64 ((f:Int)))]]:=(fa dec [(f:Int)]).symm;rw[Cy];rw[er,q2] at cr;generalize eO c d (dec++[(f:Int)]) g=k at cr hbb⊢;simp -implicitDefEqProofs only[go_sem,Z2,Z3,Z4,e1,e2];refine xN [] [3] (sU dec oM) ?_;refine K2 (GW 92 4 rfl) ?_;refine sA ?_;refine ff [] [0,2,5,6] cr ?_ ?_
    ·refine sA ?_;first|rfl|((repeat' apply aq)<;>rfl)
    refine sA ?_;rcases iQ k.found with hfd|hfd;rw[if_pos (by rw[hfd];rfl)];refine bS hfd ?_;refine bM [some 0,some 1,some 5,some 6] ?_ rfl rfl;exact sC;rcases iQ k.out with ho|ho;rw[if_pos (by rw[hfd,ho];rfl)];refine lf hfd ho ?_;refine bM [some 0,some 1,some 5,some 6] ?_ rfl rfl;exact sC;rw[if_neg (by rw[hfd,ho];simp)];refine pV hfd ho ?_;exact⟨2,k.h,⟨oM,ho,hbb.1,by have:k.h.fuel=k.fuel:=rfl;omega,by have e1:k.h.fuel=k.fuel:=rfl;have e2:k.h.log=k.log:=rfl;rw[e1,e2];omega,rfl⟩,sL,c9 [some 0,some 1,some 5]⟩
   rw[ZB];simp -implicitDefEqProofs only[go_sem,Z2];refine aC [] (vq dec oM (fun x hx=>by have:=hd.1.2 x hx;omega)) ?_;refine aC [] (xt (dec.map fun x=>-x) (by rw[cd];omega) (fun x hx=>by obtain⟨y,hy,rfl⟩:=bq.1 hx;have:=hd.1.2 y hy;omega)) ?_;refine bI ?_;refine Et [some 0,some 1,some 3,none] ?_;(repeat' apply aq)<;>first|rfl|exact IX g.log [((hQ (dec.map fun x=>-x)).getD [])]|exact(by rw[oZ,q2])
  rw[GQ hz hb];rw[hb] at cu;refine gS 122 [.tmp 4,.tmp 5] hm Tryz.func70 fun hl he cV=>?_;refine dB hz ?_;refine aC [] cu ?_;refine aC [] (vq dec oM (fun x hx=>by have:=hd.1.2 x hx;omega)) ?_;refine aC [] (xt (dec.map fun x=>-x) (by rw[cd];omega) (fun x hx=>by obtain⟨y,hy,rfl⟩:=bq.1 hx;have:=hd.1.2 y hy;omega)) ?_;refine bI ?_;refine Et [some 0,some 1,some 2,none] ?_;(repeat' apply aq)<;>first|rfl|exact IX lg [((hQ (dec.map fun x=>-x)).getD [])]|exact rfl
theorem v8(m k:Int):CN 76 [iv k,.gQ [[.val (.int .i64 m)]] 0 0] (bv (!G6 m k)):=by
 have e:(!G6 m k)=decide (k=m):=by simp[G6]
 rw[e];refine gS 7 [.tmp 3] hm Tryz.func76 fun hl he cV=>?_;refine fv ?_;exact sC
theorem H5{p:Int→Bool}:∀{xs:List Int}{i:Int},0≤i→(eM p xs i = -1∧xs.filter (fun t=>!p t)=xs)∨∃j:Nat,eM p xs i=i+j∧j<xs.length∧(xs.take (j+1)).filter (fun t=>!p t)=xs.take j
 | [],i,_=>.inl (by simp[eM])
 | x::xs,i,h=>by
  simp only[eM];cases hx:p x with
  | true=>refine .inr ⟨0,?_,by simp,by simp[hx]⟩;simp
  | false=>simp only[aw,if_false];rcases H5 (p:=p) (xs:=xs) (i:=i+1) oM with⟨h1,h2⟩|⟨j,h1,h2,h3⟩;exact .inl ⟨h1,by simp[hx,h2]⟩;refine .inr ⟨j+1,by rw[h1];omega,by simp;omega,?_⟩;rw[dE,fB,dE,h3];simp[hx]
theorem Fu(m0:Int)(xs:List Int)(hl1:xs.length≤10000):C E.P 75 [.aW 0,.fn 76 [.bK 1 0]] [some (.aW 3 (bj xs)),some (.box [iv m0])] (gR (lv (bj (xs.filter (G6 m0)))) [some .dead,some (.box [iv m0])]):=by
 have cV:LB=1099511627776:=rfl;refine rF (nt:=42) (rs:=[.tmp 4]) Tryz.func75 rfl rfl rfl rfl rfl (fun hl he=>?_);simp -implicitDefEqProofs only[go_sem] at hl he⊢;refine dD (fh hm ?_);simp -implicitDefEqProofs only[go_sem,bO,ck];refine dD (fh hm ?_);refine sA ?_;refine CM [] [0,1] (zP 76 [.gQ [[.val (.int .i64 m0)]] 0 0] rfl (fun t=>!G6 m0 t) xs (fun t _=>v8 m0 t)) ?_;rcases H5 (p:=fun t=>!G6 m0 t) (xs:=xs) (i:=0) oM with⟨h1,h2⟩|⟨j0,h1,h2,h3⟩
 ·have e:idxOf (fun t=>!G6 m0 t) xs = -1:=h1;rw[e];refine dD (fh hm ?_);simp -implicitDefEqProofs only[go_sem,bO,ma];refine⟨_,vj 4 0 3 (bj xs) rfl rfl,?_⟩;have e2:xs.filter (G6 m0)=xs:=(by simpa using h2);rw[e2];refine bM qR ?_ rfl rfl;refine sA ?_;all_goals simp
 have e:idxOf (fun t=>!G6 m0 t) xs=(j0:Int):=by rw[idxOf,h1];omega
 rw[e];have n1:¬ (j0:Int) = -1:=oM;refine dD (fh hm ?_);simp -implicitDefEqProofs only[go_sem,bO,ck,n1];refine dD (fh hm ?_);refine bI ?_;refine tG hm (fun(i:Nat) (j:Nat) (a:List Int)=> i≤j∧j≤xs.length∧a.length=xs.length∧a.take i=(xs.take j).filter (G6 m0)∧a.drop j=xs.drop j) (fun i j a=> ⟨fk 42 .any [(0,.aW 0),(1,.fn 76 [.bK 1 0]),(5,iv i),(6,iv j)],[some (.aW 3 (bj a)),some (.box [iv m0])]⟩) (fun i j a=> xs.length-j) (j0) (j0+1) (xs) ?_ (c9 qR) ?_;exact⟨oM,oM,rfl,by simpa using h3.symm,rfl⟩;rintro i j a ⟨hij,hj,hal,ht,hd⟩;rcases aa (j<xs.length) with h1|h1
 ·have h1a:j<a.length:=oM;have hia:i<a.length:=oM;have hx:a[j]=xs[j]:=(by have h4:(a.drop j)[0]?=(xs.drop j)[0]?:=(by rw[hd]);simpa[h1,h1a] using h4);have hf:(xs.take (j+1)).filter (G6 m0)=(xs.take j).filter (G6 m0)++(if G6 m0 xs[j] then [xs[j]] else []):=(by rw[bn,List.getElem?_eq_getElem h1,List.filter_append];congr 1;simp[fB]);simp -implicitDefEqProofs only[go_sem,h1a];refine ox [.bK 1 0] [1] (v8 m0 a[j]) rfl ?_ ?_ ?_;exact sV;all_goals simp -implicitDefEqProofs only[go_sem]
  rw[hx];cases h4:G6 m0 xs[j];rw[h4] at hf;refine sA ?_;refine aq oM ?_;refine⟨i,j+1,a,?_,sL,c9 qR⟩;refine⟨oM,oM,hal,by rw[hf,ht];simp,?_⟩;have h5:=congrArg (pC 1) hd;simpa[l7] using h5;rw[h4] at hf;simp -implicitDefEqProofs only[go_sem,hia];have hset:(bj a).set i (vz [D.val (.int .i64 a[i])] 0 [D.val (.int .i64 xs[j])])=bj (a.set i xs[j]):=(by rw[bj,bj,mI];rfl);refine aq oM (aq oM ?_);refine⟨i+1,j+1,a.set i xs[j],?_,sL,c9 qR⟩;refine⟨oM,oM,by simp[hal],?_,?_⟩;rw[hf,←ht,bn];simp[hia,List.take_set_of_le];have h5:=congrArg (pC 1) hd;rw[List.drop_set_of_lt oM];simpa[l7] using h5
 refine lf h1 hal ?_;try simp only[bO,ck]
 have hjn:j=xs.length:=oM;refine dD (wh ?_);refine w5 (D2.plain rfl (Ga _)) (w5 (D2.plain rfl (Ga _)) ?_);refine sA ?_;refine acW (t:=32) (e:=3) (k:=0) (m:=(i:Int)) (xs:=bj a) [.val (.int .i64 0)] _ _ rfl rfl rfl rfl ?_ ?_ ?_ oM (by rw[j6];omega) ?_ ?_;exact sC;exact sC;exact sC;simp only[vg];omega;refine D6 ?_;simp -implicitDefEqProofs only[go_sem,ck];refine fh hm ?_;refine sA ?_;refine hY (Yu (.tmp 39) (.tmp 40) 32 3 0 _ _ (Sl [.val (.int .i64 0)] (bj a) i) (i:Int) rfl rfl rfl ?_ ?_ ?_ oM (by rw[Yg _ _ _ (by rw[j6];omega),j6];omega)) ?_;exact sC;exact sC;exact sC;simp -implicitDefEqProofs only[go_sem,bO];refine dw ?_;refine bM qR ?_ rfl rfl;refine sA ?_;rw[TL _ _ _ (by rw[j6];omega),Ed,ht,hjn,List.take_length]
theorem GY(s:eV)(atoms:List bz)(marks:List Int)(c:fL)(h6:atoms.length≤6)(hl6:marks.length≤6)(jY:∀m∈marks,m≠0 ∧ -(atoms.length:Int)≤m∧m≤atoms.length) :
 CN 45 [av (gi s),lv (bC atoms),lv (bj marks),av (Df c)] (av (Mo (v7 s atoms marks ⟨marks,c⟩))):=by
 refine gS 51 [.cell 8 106] hm Tryz.func45 fun hl he cV=>?_
 refine oL [] (BN marks oM) ?_
 refine Ag hm marks.length (fun(i:Nat) (l:Mod.mh)=>(∀m∈l.marks,m∈marks)∧l.marks.length≤marks.length∧v7 s atoms marks ⟨marks,c⟩=v7 s atoms (marks.drop i) l) (fun i l=>⟨fk 51 .any [(1,lv (bC atoms)),(4,.bK 0 0),(8,.bK 1 0),(9,.bK 2 0),(20,lv (bj marks)),(21,iv marks.length),(22,iv i)],[some (.box (fy (gi s))),some (.box [.bE,iv 0,iv 0,iv 0,iv 0,sv [],.bE,.bE,.bE,sv [],.bE,sv [],.bE,.bE]),some (.box (fy (Mo l)))]⟩) (⟨marks,c⟩) ?_ (c9 [some 0,some 2,some 3]) ?_
 ·exact⟨oM,fun _ h=>h,aH _,rfl⟩
 ·rintro i l ⟨hi,hm1,hm2,hg⟩
  rcases aa (i<marks.length) with h1|h1
  ·rw[Zj h1] at hg
   rcases aa (l.marks.length=1) with h2|h2
   ·rw[if_pos h2] at hg
    rw[hg]
    have k2:((l.marks.length:Nat):Int)=1:=oM
    have k2':=eq_true k2
    simp -implicitDefEqProofs only[go_sem,h1,k2']
    refine fv ?_
    exact sC
   ·rw[if_neg h2] at hg
    have k2:¬ ((l.marks.length:Nat):Int)=1:=oM
    have cs:=z8 (l.marks.filter (G6 marks[i])) atoms oM (fun m hm=>jY m (hm1 m (cX.1 hm).1)) (by have:=fS (G6 marks[i]) l.marks;omega)
    have cr:=A0 Uy s (fl (l.marks.filter (G6 marks[i])) atoms)
    generalize gf s (fl (l.marks.filter (G6 marks[i])) atoms)=r at hg cr
    simp -implicitDefEqProofs only[go_sem,h1,k2]
    refine oC [] [4] (sU l.marks oM) ?_
    refine ff [] [4,3] (Fu marks[i] l.marks oM) ?_ ?_
    ·refine sA ?_
     first|rfl|((repeat' apply aq)<;>rfl)
    refine sA ?_
    refine aC [] cs ?_
    refine oL [] cr ?_
    rcases aa (r.code=1) with h3|h3
    ·have k3:=eq_true h3
     rw[if_pos h3] at hg
     refine dB k3 ?_
     exact⟨i+1,⟨l.marks.filter (G6 marks[i]),r.case⟩,⟨oM,fun m hm=>hm1 m (cX.1 hm).1,Nat.le_trans (fS _ _) hm2,hg⟩,sL,c9 sa⟩
    ·rw[if_neg h3] at hg
     refine dB h3 ?_
     exact⟨i+1,l,⟨oM,hm1,hm2,hg⟩,sL,c9 sa⟩
  ·rw[List.drop_of_length_le oM,v7] at hg
   rw[hg]
   refine bS h1 ?_
   refine fv ?_
   exact sC
set_option maxHeartbeats 3200000
theorem Jn(n:Nat)(c:Mod.gI)(hu:qP c=true→Dc n c):CN 42 [av (acH c),iv 130] (.ko [lv (rV (lk c).1),lv (dS (lk c).2.1),bv (lk c).2.2]):=by
 have c1:=Qj c;have c2:=fw 130 0 130;have e2:c8 130 0 130=true:=rfl;rw[e2] at c2;cases dL:qP c;rw[dL] at c1;have e:lk c=([],[],false):=by rw[lk,dL];rfl
 rw[e];refine gS 51 [.tmp 4,.tmp 5,.tmp 6] hm Tryz.func42 fun hl he cV=>?_;refine aC [] c1 ?_;exact qE;rw[dL] at c1;have hu:=hu dL;have hcl:=hu.len;have hb:=FF c 130 [] ⟨130,[],false⟩ (by simp only;omega);have hd:wH n []:=⟨⟨List.Pairwise.nil,by simp⟩,by simp⟩;have cc:=P2 n c hu 130 [] ⟨130,[],false⟩ hd rfl (by simp only;omega) (by simp only;omega) (by simp);have eI:lk c=if(eO c 130 [] ⟨130,[],false⟩).found then((eO c 130 [] ⟨130,[],false⟩).aV,[],true) else
  if(eO c 130 [] ⟨130,[],false⟩).out=true∨400<(eO c 130 [] ⟨130,[],false⟩).log.length+c.au.length then([],[],false) else([],(eO c 130 [] ⟨130,[],false⟩).log,true):=by rw[lk,dL];rfl
 rw[eI];generalize eO c 130 [] ⟨130,[],false⟩=r at hb cc⊢;simp only at cc hb;obtain⟨b1,b2,b3,b4,b6⟩:=hb;have b5:r.log.length≤130:=by simp at b3;omega
 rcases iQ r.found with hf|hf
 ·rw[if_pos hf];rw[hf] at cc;have cV:LB=1099511627776:=rfl;refine rF (nt:=51) (rs:=[.tmp 4,.tmp 5,.tmp 6]) Tryz.func42 rfl rfl rfl rfl rfl (fun hl he=>?_);simp -implicitDefEqProofs only[go_sem] at hl he⊢;refine dD (fh hm ?_);simp -implicitDefEqProofs only[go_sem,bO,ck];refine dD (fh hm ?_);refine sA ?_;refine aC [] c1 ?_;refine eh [] c2 ?_ ?_<;>simp -implicitDefEqProofs only[go_sem,bO,ck];refine dD (fh hm ?_);simp -implicitDefEqProofs only[go_sem,bO,ck];refine rj (bW (ch':=[(2,.bK 0 0),(4,.bE),(5,.bE),(6,bv false),(7,.bK 1 0)]) (st':=[some (.box [iv c.aP,lv (dS c.au)]),some (.box [iv c.aP,lv (dS c.au),iv 130,.aW 2,bv false]),some (.aW 32 (dS []))]) [some 0,some 1,none] ?_ ?_ rfl rfl) ?_;exact sC;simp -implicitDefEqProofs only[go_sem];try exact⟨rfl,rfl⟩
  refine dD (fh hm ?_);refine sA ?_;refine ff [] [1,2,3,4] cc ?_ ?_
  ·refine sA ?_;first|rfl|((repeat' apply aq)<;>rfl)
  simp -implicitDefEqProofs only[go_sem,bO,ck];refine dD (fh hm ?_);simp -implicitDefEqProofs only[go_sem,bO,ma];refine⟨_,vj 4 4 4 (rV r.aV) rfl rfl,?_⟩;exact qE
 rw[if_neg (by rw[hf];simp)];rw[hf] at cc;rcases iQ r.out with ho|ho
 ·rw[if_pos (.inl ho)];rw[ho] at cc;have cV:LB=1099511627776:=rfl;refine rF (nt:=51) (rs:=[.tmp 4,.tmp 5,.tmp 6]) Tryz.func42 rfl rfl rfl rfl rfl (fun hl he=>?_);simp -implicitDefEqProofs only[go_sem] at hl he⊢;refine dD (fh hm ?_);simp -implicitDefEqProofs only[go_sem,bO,ck];refine dD (fh hm ?_);refine sA ?_;refine aC [] c1 ?_;refine eh [] c2 ?_ ?_<;>simp -implicitDefEqProofs only[go_sem,bO,ck];refine dD (fh hm ?_);simp -implicitDefEqProofs only[go_sem,bO,ck];refine rj (bW (ch':=[(2,.bK 0 0),(4,.bE),(5,.bE),(6,bv false),(7,.bK 1 0)]) (st':=[some (.box [iv c.aP,lv (dS c.au)]),some (.box [iv c.aP,lv (dS c.au),iv 130,.aW 2,bv false]),some (.aW 32 (dS []))]) [some 0,some 1,none] ?_ ?_ rfl rfl) ?_;exact sC;simp -implicitDefEqProofs only[go_sem];try exact⟨rfl,rfl⟩
  refine dD (fh hm ?_);refine sA ?_;refine ff [] [1,2,3,4] cc ?_ ?_
  ·refine sA ?_;first|rfl|((repeat' apply aq)<;>rfl)
  simp -implicitDefEqProofs only[go_sem,bO,ck];refine dD (fh hm ?_);simp -implicitDefEqProofs only[go_sem,bO,ma];refine iK ?_;refine dw ?_;exact qE
 rw[ho] at cc;rcases aa ((400:Int)<(r.log.length:Int)+(c.au.length:Int)) with h4|h4
 ·rw[if_pos (.inr oM)];have cV:LB=1099511627776:=rfl;refine rF (nt:=51) (rs:=[.tmp 4,.tmp 5,.tmp 6]) Tryz.func42 rfl rfl rfl rfl rfl (fun hl he=>?_);simp -implicitDefEqProofs only[go_sem] at hl he⊢;refine dD (fh hm ?_);simp -implicitDefEqProofs only[go_sem,bO,ck];refine dD (fh hm ?_);refine sA ?_;refine aC [] c1 ?_;refine eh [] c2 ?_ ?_<;>simp -implicitDefEqProofs only[go_sem,bO,ck];refine dD (fh hm ?_);simp -implicitDefEqProofs only[go_sem,bO,ck];refine rj (bW (ch':=[(2,.bK 0 0),(4,.bE),(5,.bE),(6,bv false),(7,.bK 1 0)]) (st':=[some (.box [iv c.aP,lv (dS c.au)]),some (.box [iv c.aP,lv (dS c.au),iv 130,.aW 2,bv false]),some (.aW 32 (dS []))]) [some 0,some 1,none] ?_ ?_ rfl rfl) ?_;exact sC;simp -implicitDefEqProofs only[go_sem];try exact⟨rfl,rfl⟩
  refine dD (fh hm ?_);refine sA ?_;refine ff [] [1,2,3,4] cc ?_ ?_
  ·refine sA ?_;first|rfl|((repeat' apply aq)<;>rfl)
  simp -implicitDefEqProofs only[go_sem,bO,ck];refine dD (fh hm ?_);simp -implicitDefEqProofs only[go_sem,h4,bO,ma];refine sQ ?_;refine dw ?_;exact qE
 rw[if_neg (fun h=>by rcases h with h|h;(rw[ho] at h;cases h);omega)];have cV:LB=1099511627776:=rfl;refine rF (nt:=51) (rs:=[.tmp 4,.tmp 5,.tmp 6]) Tryz.func42 rfl rfl rfl rfl rfl (fun hl he=>?_);simp -implicitDefEqProofs only[go_sem] at hl he⊢;refine dD (fh hm ?_);simp -implicitDefEqProofs only[go_sem,bO,ck];refine dD (fh hm ?_);refine sA ?_;refine aC [] c1 ?_;refine eh [] c2 ?_ ?_<;>simp -implicitDefEqProofs only[go_sem,bO,ck];refine dD (fh hm ?_);simp -implicitDefEqProofs only[go_sem,bO,ck];refine rj (bW (ch':=[(2,.bK 0 0),(4,.bE),(5,.bE),(6,bv false),(7,.bK 1 0)]) (st':=[some (.box [iv c.aP,lv (dS c.au)]),some (.box [iv c.aP,lv (dS c.au),iv 130,.aW 2,bv false]),some (.aW 32 (dS []))]) [some 0,some 1,none] ?_ ?_ rfl rfl) ?_;exact sC;simp -implicitDefEqProofs only[go_sem];try exact⟨rfl,rfl⟩
 refine dD (fh hm ?_);refine sA ?_;refine ff [] [1,2,3,4] cc ?_ ?_
 ·refine sA ?_;first|rfl|((repeat' apply aq)<;>rfl)
 simp -implicitDefEqProofs only[go_sem,bO,ck];refine dD (fh hm ?_);simp -implicitDefEqProofs only[go_sem,h4,bO,ck];refine sQ ?_;refine fh hm ?_;simp -implicitDefEqProofs only[go_sem,bO];refine iK ?_;refine⟨_,vj 5 3 32 (dS r.log) rfl rfl,?_⟩;exact qE
theorem GZ(s:eV)(au:List Mod.aU):CN 20 [av (gi s),lv (bc au)] (.ko [av (nY (jo s au).1),av (ads (jo s au).2.1),iv (jo s au).2.2]):=by
 have c1:=Bz s au;cases dL:gl s au;rw[dL] at c1;have e:jo s au=(⟨[]⟩,⟨[],[]⟩,3):=by rw[jo,dL];rfl
 rw[e];refine gS 107 [.cell 4 63,.cell 5 67,.tmp 6] hm Tryz.func20 fun hl he cV=>?_;refine aC [] c1 ?_;exact qE;rw[dL] at c1;obtain⟨atoms,ha⟩:∃atoms,cR au=some atoms:=by
  cases h:cR au with
  | none=>rw[gl,h] at dL;cases dL
  | some a=>exact⟨a,rfl⟩
 have h6:atoms.length≤6:=(fZ ha).2.2.1;have eS:jo s au=nS s au atoms 65 []:=by rw[jo,if_pos dL,ha];rfl
 rw[eS];have c2:=oB au;rw[ha] at c2;simp only[Option.getD_some,Option.isSome_some] at c2;have cV:LB=1099511627776:=rfl;refine rF (nt:=107) (rs:=[.cell 4 63,.cell 5 67,.tmp 6]) Tryz.func20 rfl rfl rfl rfl rfl (fun hl he=>?_);simp -implicitDefEqProofs only[go_sem] at hl he⊢;refine dD (fh hm ?_);simp -implicitDefEqProofs only[go_sem,bO,ck];refine dD (fh hm ?_);refine sA ?_;refine eh [] c1 ?_ ?_<;>simp -implicitDefEqProofs only[go_sem,bO,ck];refine dD (fh hm ?_);refine sA ?_;refine eh [] c2 ?_ ?_<;>simp -implicitDefEqProofs only[go_sem,bO,ck];refine dD (fh hm ?_);simp -implicitDefEqProofs only[go_sem,bO,ck];refine J5 ?_;refine aaL (fun(ls:List Mod.mh)=> ls.length≤64∧(∀l∈ls,iz l.marks atoms.length=true)∧nS s au atoms 65 []=nS s au atoms (65-ls.length) ls) (fun ls=> ⟨fk 107 .any [(1,lv (bc au)),(2,.bK 0 0),(4,.bK 1 0),(5,.bK 2 0),(7,lv (bC atoms)),(9,.aW 3)],[some (.box (fy (gi s))),some (.box [.bE]),some (.box [.bE,.bE]),some (.aW 106 (kS ls))]⟩) (fun ls=> 65-ls.length) ([]) ?_ (c9 [some 0,some 1,some 2,none]) ?_;exact⟨by simp,by simp,rfl⟩;rintro ls ⟨hl64,hsel,hg⟩;rw[hg];have hfit:pw au ls=true:=by rw[pw,ha];simp only[Bool.and_eq_true,decide_eq_true_eq,List.all_eq_true];exact⟨hl64,hsel⟩
 have cp:=Fh au ⟨ls,[]⟩;have ep:yr au ⟨ls,[]⟩=gx (gU au) ls:=by rw[Dz];simp[hfit]
 rw[ep] at cp;have en:65-ls.length=(64-ls.length)+1:=oM;rw[en,nS];have hdc:=fun dL=>(OE ha ls dL).1;have hmany:(gx (gU au) ls).aP=(gU au).aP:=(yZ (atoms:=atoms) ls (gU au) (Ip ha)).1;have ch:=Jn atoms.length (gx (gU au) ls) hdc;have hvl:=fun h1 h2=>afH (c:=gx (gU au) ls) h1 h2;have hmn:atoms.length≤(gU au).aP.toNat:=by have:=(QY ha (fun _=>false)).1;omega
 rw[←hmany] at hmn;generalize gx (gU au) ls=cn at cp ch hvl hmn⊢;generalize lk cn=hr at ch hvl⊢;obtain⟨aV,log,ok⟩:=hr;simp only at ch hvl⊢;refine J5 ?_;refine dD (fh hm ?_);refine sA ?_;refine Co [] [3] [4] cp rfl ?_ ?_ ?_;refine sA ?_;exact qn.cons (Vw.same rfl) (qn.cons (Vw.aW rfl rfl) .nil);all_goals simp -implicitDefEqProofs only[go_sem,bO,ck]
 refine dD (fh hm ?_);refine sA ?_;refine K2 ((R8 4 (ys:=dS cn.au) rfl (Ck _)).trans (GW 38 4 rfl)) ?_;refine sA ?_;refine eh [] ch ?_ ?_<;>simp -implicitDefEqProofs only[go_sem,bO,ck];refine dD (fh hm ?_);cases ok;simp -implicitDefEqProofs only[go_sem,bO,ma];refine dw ?_;exact qE;rw[if_neg (by simp)];simp -implicitDefEqProofs only[go_sem,bO,ck];refine dD (fh hm ?_);rcases aa (log=[]) with hlog|hlog
 ·subst hlog;have hvl2:aV.length=cn.aP.toNat:=hvl rfl rfl;rw[if_neg (by simp)];simp -implicitDefEqProofs only[go_sem,Z2,bO,ck];refine dD (fh hm ?_);simp -implicitDefEqProofs only[go_sem,bO,ck];refine dD (fh hm ?_);refine sA ?_;refine jf hm atoms.length (fun i=>⟨fk 107 .any [(1,lv (bc au)),(2,.bK 0 0),(4,.bK 1 0),(5,.bK 2 0),(7,lv (bC atoms)),(9,.aW 3),(12,lv (rV aV)),(15,.aW 4),(55,iv atoms.length),(56,iv i)],[some (.box (fy (gi s))),some (.box [.bE]),some (.box [.bE,.bE]),some (.aW 106 (kS ls)),some (.aW 3 (bj (j7 aV i)))]⟩) (c9 [some 0,some 1,some 2,some 3,none]) ?_;rintro i hi;have hml:=U7 aV i;rcases aa (i<atoms.length) with h1|h1;have hiv:i<aV.length:=oM;have hgd:aV.getD i false=aV[i]:=(by simp[List.getD,hiv]);have hsn:=Ua (aV:=aV) (n:=i);rw[hgd] at hsn;simp -implicitDefEqProofs only[go_sem,h1,hiv];cases hv:aV[i];rw[hv] at hsn;simp only[aw,if_false] at hsn;have hs2:bj (j7 aV (i+1))=bj (j7 aV i)++[[D.val (.int .i64 (-(i:Int)-1))]]:=(by rw[hsn,←fa,show(-1:Int)-(i:Int) = -(i:Int)-1 by omega];rfl);refine bI ?_;refine⟨i+1,?_,sL,bW [some 0,some 1,some 2,some 3,some 5] sC (by refine sA ?_;exact hs2.symm) rfl rfl⟩;omega;rw[hv] at hsn;simp only[if_true] at hsn;have hs2:bj (j7 aV (i+1))=bj (j7 aV i)++[[D.val (.int .i64 ((i:Int)+1))]]:=(by rw[hsn,←fa];rfl);refine bI ?_;refine⟨i+1,?_,sL,bW [some 0,some 1,some 2,some 3,some 5] sC (by refine sA ?_;exact hs2.symm) rfl rfl⟩;omega;have hil:i=atoms.length:=oM;subst hil;simp -implicitDefEqProofs only[go_sem,h1,bO,ck];obtain⟨mk,hmk⟩:∃mk,j7 aV atoms.length=mk:=⟨_,rfl⟩;have hsl:∀(c:fL)(ms:List Int),iz (v7 s atoms ms ⟨mk,c⟩).marks atoms.length=true:=(by rw[←hmk];exact fun c ms=>ad7);have jY:∀m∈mk,m≠0 ∧ -(atoms.length:Int)≤m∧m≤atoms.length:=(by rw[←hmk];exact yp);rw[hmk] at hml⊢;have cs:=z8 mk atoms oM jY oM;have cr:=A0 Uy s (fl mk atoms);generalize gf s (fl mk atoms)=r at cr⊢;have cm:=GY s atoms mk r.case h6 oM jY;have hsl2:=hsl r.case mk;refine rj (vj 15 4 3 (bj mk) rfl rfl) ?_;refine sA ?_;refine dD (fh hm ?_);refine sA ?_;refine aC [] cs ?_;refine eh [] cr ?_ ?_<;>simp -implicitDefEqProofs only[go_sem,bO,ck];refine iK ?_;refine dD (fh hm ?_);rcases aa (r.code=0) with g0|g0;have k0:=eq_true g0;rw[if_pos g0];simp -implicitDefEqProofs only[go_sem,k0,bO,ma];refine dw ?_;exact qE;rw[if_neg g0];rcases aa (r.code=1) with g1|g1
  ·have k1:=eq_true g1;rcases aa (ls.length=64) with g64|g64;have k64:((ls.length:Nat):Int)=64:=oM;have k64':=eq_true k64;rw[if_pos (.inr g64)];simp -implicitDefEqProofs only[go_sem,g0,k1,k64',bO,ma];refine dw ?_;exact qE;have k64:¬ ((ls.length:Nat):Int)=64:=oM;rw[if_neg (fun h=>by rcases h with h|h;(exact h g1);exact g64 h)];simp -implicitDefEqProofs only[go_sem,g0,k1,k64,bO,ck];refine fh hm ?_;refine sA ?_;refine eh [] cm ?_ ?_<;>simp -implicitDefEqProofs only[go_sem,bO];refine sQ ?_;have hll:(ls++[v7 s atoms mk ⟨mk,r.case⟩]).length=ls.length+1:=(by simp);have e65:65-(ls++[v7 s atoms mk ⟨mk,r.case⟩]).length=64-ls.length:=oM;simp only[Hf,tW];refine⟨ls++[v7 s atoms mk ⟨mk,r.case⟩],?_,sL,bW [some 0,some 1,some 2,some 7] sC (by refine sA ?_;(rw[←Ov];rfl)) rfl rfl⟩;refine⟨oM,fun l hl=>?_,by rw[e65]⟩;rcases List.mem_append.1 hl with hl|hl;exact hsel l hl;rw[List.mem_singleton.1 hl];exact hsl2
  rw[if_pos (.inl g1)];simp -implicitDefEqProofs only[go_sem,g0,g1,bO,ma];refine dw ?_;exact qE
 rw[if_pos hlog];have hpos:(0:Int)<(log.length:Int):=by have:=List.length_pos_iff.2 hlog;omega
 simp -implicitDefEqProofs only[go_sem,hpos,bO,ma];refine dw ?_;exact qE
theorem Bl(s:e7)(f:Mod.aU)(hfl:s.aA.flatten.length≤8000000)(dL:fc s=false):CN 6 [av (ic s),av (eE f)] (.ko [av (ic WG),bv false]):=by have hc:=nj s hfl;rw[dL] at hc;refine gT 51 [.cell 4 28,.tmp 5] hm Tryz.func6 fun hl he cV=>?_;refine oL [] hc ?_;exact⟨rfl,rfl⟩
theorem tE(k:e7)(rP:k.aA.flatten.length≤8000000)(dL:fc k=true):CN 7 [av (ic k)] (iv (jo k.sig k.aA.flatten).2.2):=by have c1:=o4 k rP;rw[dL] at c1;have c2:=wv k rP;have c3:=GZ k.sig k.aA.flatten;generalize jo k.sig k.aA.flatten=r at c3⊢;refine gT 19 [.tmp 2] hm Tryz.func7 fun hl he cV=>?_;refine aD [] c1 ?_;refine aD [] c2 ?_;refine aD [] c3 ?_;refine iK ?_;refine fv ?_;exact sD
theorem vu(s:e7)(f:Mod.aU)(hb9:di s+iw f≤8000000):CN 5 [av (ic s),av (eE f)] (.ko [av (ic (bZ s f).1),bv (bZ s f).2]):=by refine(Hh s f hb9).wF [] ?_ rfl rfl;refine sB ?_;exact⟨⟨_,rfl,rfl⟩,_,rfl,rfl⟩
end Go.Proofs.YtnhdminpjihbnaaGreat
