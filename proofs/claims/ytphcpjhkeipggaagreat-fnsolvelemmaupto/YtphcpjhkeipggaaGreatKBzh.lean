/-
  The program: why two parts are one. A step towards the laws.
-/
import Derived.Test.YtphcpjhkeipggaaGreatKBzg
import Derived.Test.YtphcpjhkeipggaaGreatKBd
set_option linter.unusedVariables false
set_option linter.unusedSimpArgs false
open Int renaming reduceEq→Z1,reduceLT→Z2,reduceLE→Z3,reduceToNat→Z4
open And renaming intro→an
open Bool renaming true_and→aA,false_and→aI
open Classical renaming em→aa
open List renaming drop_eq_getElem_cons→ae,getElem?_eq_getElem→af,getElem_mem→aj,drop_of_length_le→ak,take_of_length_le→aq,getD_eq_getElem?_getD→aB,range→bK,find?_cons→fb,drop→fB,find?_nil→lS
open Nat renaming le_refl→aK,zero_le→bo
namespace Go.Proofs.YtphcpjhkeipggaaGreat
open Go.Eng Go.Mod
set_option maxRecDepth 100000
set_option maxHeartbeats 3200000
section
variable(al:List ax)(bB:List hY)(c:List Nat)(ao:List Step)
theorem Om(a:lH):fA [a]=[jn a]:=by rw[me,nw]
theorem Y2(a b:lH):fA [a,b]=[jn a,jn b]:=by rw[me,me,nw]
theorem vj(fy:nJ al bB ao)(hk:jv al)(qF:al.length≤1000)(hk9:∀t∈al,t.ar.length≤1000)(f:Nat)
 (ih:∀n a b,n<f→n≤ao.length→a<al.length→b<al.length→cl (a6 al.length ao n) a=cl (a6 al.length ao n) b→CP 206 [.bA 0 0,iv a,iv b,iv n] [some (.box [lv (aU al),lv (db c),lv (bD ao)])] (av (jn (nk al ao f n a b))))
 (d:Mod.Edge) (hi:d.step<ao.length) (hf:d.step<f):CP 286 [.bA 0 0,av (CC d)] [some (.box [lv (aU al),lv (db c),lv (bD ao)])] (av (jn (mP al ao (nk al ao f) d))):=by
 obtain⟨i,back⟩:=d
 simp only at hi hf
 have hs:=vp hi
 have hso:=qR fy hi
 have a0:=hso.a0
 have b0:=hso.b0
 have a1:=KF fy hi
 have b1:=Lf fy hi
 have eA:ao[i].A=(vA ao i:Int):=by rw[vA,hs];rw[hs] at a0;omega
 have eB:ao[i].B=(vB ao i:Int):=by rw[vB,hs];rw[hs] at b0;omega
 have how:=hso.how
 have hE:zk al ao (nk al ao f) i=if ao[i].given<0 then .mk 5 0 (.mk (al.getD (vA ao i) aQ).name []) (((al.getD (vA ao i) aQ).ar.zip (al.getD (vB ao i) aQ).ar).map fun p=>nk al ao f i (aM al p.1) (aM al p.2)) else .mk 2 ao[i].given aQ []:=by rw[zk,hs]
 have hed:=JR al ao (nk al ao f) ⟨i,back⟩
 simp only at hed
 rw[hs] at how
 have cf:=qq
 refine Ic (nt:=80) (rs:=[.cell 4 35]) Tryz.func286 rfl rfl rfl rfl rfl (fun hl he=>?_)
 simp -implicitDefEqProofs only[go_sem] at hl⊢
 refine jm hm ?_
 rcases aa (ao[i].given<0) with h0|h0
 ·rw[if_pos h0] at hE
  have hal:alike al (a6 al.length ao i) (vA ao i) (vB ao i)=true:=by rcases how with h|⟨n,h,_⟩;rw[vA,vB,hs];exact h.2;omega
  obtain⟨q1,q2,q3,q4⟩:=SK hal
  have gA:al.getD (vA ao i) aQ=al[vA ao i]:=by rw[aB,af a1];rfl
  have gB:al.getD (vB ao i) aQ=al[vB ao i]:=by rw[aB,af b1];rfl
  have mA:=aj a1
  have mB:=aj b1
  obtain⟨x,hx⟩:∃x,al[vA ao i]=x:=⟨_,rfl⟩
  obtain⟨y,hy⟩:∃y,al[vB ao i]=y:=⟨_,rfl⟩
  rw[hx] at gA mA
  rw[hy] at gB mB
  rw[gA] at q1 q2 q3 q4 hE
  rw[gB] at q2 q3 q4 hE
  have kx:=hk _ mA
  have ky:=hk _ mB
  have kl:=hk9 _ mA
  simp -implicitDefEqProofs only[go_sem,hi,h0,eA,eB,a1,b1,hx,hy]
  refine iK ?_
  refine iK ?_
  refine cS hm (fun(k:Nat)=> k≤x.ar.length) (fun k=> ⟨dN 80 .any [(0,.bA 0 0),(3,.bA 1 0),(4,.bA 2 0),(6,.bA 3 0),(7,.bA 4 0),(8,.bA 5 0),(46,iv x.ar.length),(47,iv k)],[some (.box [lv (aU al),lv (db c),lv (bD ao)]),some (.box [iv i,bv back]),some (.box (dm (jn wv))),some (.box [iv 5,iv 0,sv x.name,lv [],.aX 6]),some (.box (dm (cT x))),some (.box (dm (cT y))),some (.aX 35 (fA (((x.ar.zip y.ar).take k).map fun p=>nk al ao f i (aM al p.1) (aM al p.2))))]⟩) (fun k=> x.ar.length-k) (0) ?_ (cM [some 0,some 1,some 2,some 4,some 5,some 6,none]) ?_
  ·omega
  ·rintro k hk1
   have hzl:(((x.ar.zip y.ar).take k).map fun p=>nk al ao f i (aM al p.1) (aM al p.2)).length≤1000:=by simp;omega
   rcases aa (k<x.ar.length) with h1|h1
   ·have h2:k<y.ar.length:=oM
    have mx:=kx _ (aj h1)
    have my:=ky _ (aj h2)
    have px:=bT mx
    have py:=bT my
    have cx:=cX mx
    have cy:=cX my
    have hc:=ih i (aM al x.ar[k]) (aM al y.ar[k]) hf oM px py (q4 k h1 h2)
    have hz:=SR (f:=fun p=>nk al ao f i (aM al p.1) (aM al p.2)) h1 h2
    have ca:=GQ al c ao x.ar[k]
    have cb:=GQ al c ao y.ar[k]
    rw[cx] at ca
    rw[cy] at cb
    refine uA ?_
    refine AQ [] [0] ca ?_
    refine uB ?_
    refine AQ [] [0] cb ?_
    refine Mw [] [0] hc ?_
    exact⟨k+1,h1,sL,aZ [some 0,some 1,some 2,some 3,some 4,some 5,some 7] sC (by refine sA ?_;(rw[hz,←HL,me,nw];rfl)) rfl rfl⟩
   ·have et:(x.ar.zip y.ar).take k=x.ar.zip y.ar:=aq (by simp;omega)
    rw[et]
    cases back
    ·rw[if_neg (by simp),hE] at hed
     simp -implicitDefEqProofs only[go_sem,h1,e6]
     refine fI ?_
     refine bX fe ?_ rfl rfl
     exact dD hed
    ·rw[if_pos rfl,hE] at hed
     simp -implicitDefEqProofs only[go_sem,h1,e6]
     refine⟨_,DZ.RD (yq 7 0 _ rfl (by simp) (show rb _ 0=[T.fM (D.val (Value.int IntKind.i64 5)),T.fM (D.val (Value.int IntKind.i64 0)),T.fM (D.str x.name),T.fM (D.eC []),T.ref 6] from rfl)),?_⟩
     refine sA ?_
     refine bX fe ?_ rfl rfl
     refine sA ?_
     rw[hed]
     ((repeat' apply an)<;>first|rfl|exact⟨_,(by simp only[List.set_cons_zero,dP,iz,T.Kj,o9];try rfl),Om _⟩)
 ·rw[if_neg h0] at hE
  cases back
  ·rw[if_neg (by simp),hE] at hed
   simp -implicitDefEqProofs only[go_sem,hi,h0,e6]
   refine iK ?_
   refine fI ?_
   refine bX fe ?_ rfl rfl
   exact dD hed
  ·rw[if_pos rfl,hE] at hed
   simp -implicitDefEqProofs only[go_sem,hi,h0,e6]
   refine iK ?_
   refine fI ?_
   refine bX fe ?_ rfl rfl
   refine sA ?_
   rw[hed]
   ((repeat' apply an)<;>first|rfl|exact(Om _).symm)
theorem K2(fy:nJ al bB ao)(hk:jv al)(qF:al.length≤1000)(hk9:∀t∈al,t.ar.length≤1000)(hs9:ao.length≤2000000):∀(f n a b:Nat),n<f→n≤ao.length→a<al.length→b<al.length→cl (a6 al.length ao n) a=cl (a6 al.length ao n) b →
 CP 206 [.bA 0 0,iv a,iv b,iv n] [some (.box [lv (aU al),lv (db c),lv (bD ao)])] (av (jn (nk al ao f n a b))):=by
 intro f
 induction f with
 | zero=>intro n a b h;omega
 | succ f ih=>
 intro n a b hnf hn ha hb hab
 obtain⟨w1,w2,w3⟩:=vo fy hn ha hb hab
 have cw:=aff al bB c ao fy qF hs9 n a b hn ha hb hab
 have ga:al.getD a aQ=al[a]:=by rw[aB,af ha];rfl
 obtain⟨way,hw⟩:∃w,n7 al.length ao n a b=w:=⟨_,rfl⟩
 have hF:=XG al ao f n a b
 rw[hw] at hF w1 w3 cw
 have hwl:way.length≤1000:=by
  have h1:=mg w3 (fun v hv=>by
   simp only[jl,List.mem_cons,List.mem_map] at hv
   rcases hv with rfl|⟨e,he,rfl⟩
   ·exact ha
   ·exact B7 fy (by have:=w1 e he;omega))
  simp[jl] at h1;omega
 refine gS 50 [.cell 8 35] hm Tryz.func206 fun hl he cf=>?_
 refine oC [] [0] cw ?_
 rcases Nat.eq_zero_or_pos way.length with hz|hz
 ·obtain rfl:=List.length_eq_zero_iff.1 hz
  rw[Xk] at hF
  simp -implicitDefEqProofs only[go_sem,ha]
  refine aC [] (gq al[a]) ?_
  refine bX fe ?_ rfl rfl
  exact gG hF ga
 ·have lj:¬ (way.length:Int)=0:=oM
  have hz':(0:Int)<(way.length:Int):=oM
  have ld:=w1 _ (aj hz)
  have hco:=vj al bB c ao fy hk qF hk9 f ih way[0] oM oM
  have f1:(1:Int)≤(way.length:Int)∧∀y∈eK way,y.length=2:=⟨oM,Rj _⟩
  obtain⟨ss,hss⟩:∃ss,way.drop 1=ss:=⟨_,rfl⟩
  have hsl:List.take (way.length-1) (fB 1 (eK way))=eK ss:=by rw[←hss,aq (by simp[eK])];simp[eK]
  have hsn:ss.length=way.length-1:=by rw[←hss,List.length_drop]
  have hln:min (way.length-1) (fB 1 (eK way)).length=ss.length:=by rw[hsn];simp[eK]
  have kI:∀d∈ss,d.step<n:=fun d hd=>w1 d (by rw[←hss] at hd;exact List.mem_of_mem_drop hd)
  have hF2:=hF
  rw[AB hz,hss] at hF2
  simp -implicitDefEqProofs only[go_sem,lj,hz]
  refine lx [] [0] hco ?_ ?_<;>simp -implicitDefEqProofs only[go_sem,Z3,Z4]
  refine oH hsl hln ?_
  refine ry hm ss.length (fun(i:Nat) (w:lH)=>nk al ao (f+1) n a b=qP (mP al ao (nk al ao f)) w (ss.drop i)) (fun i w=>⟨dN 50 .any [(0,.bA 0 0),(8,.bA 1 0),(10,.bA 2 0),(36,lv (eK ss)),(37,iv ss.length),(38,iv i)],[some (.box [lv (aU al),lv (db c),lv (bD ao)]),some (.box (dm (jn wv))),some (.box (dm (jn w)))]⟩) (mP al ao (nk al ao f) way[0]) ?_ (cM rC) ?_
  ·exact⟨bo _,hF2⟩
  ·rintro i w ⟨hi,hg⟩
   rcases aa (i<ss.length) with h1|h1
   ·have hd:=kI _ (aj h1)
    have hco2:=vj al bB c ao fy hk qF hk9 f ih ss[i] oM oM
    rw[ae h1,qP] at hg
    refine uA ?_
    refine oC [] [0] hco2 ?_
    refine bt ?_
    exact⟨i+1,.mk 4 0 aQ [w,mP al ao (nk al ao f) ss[i]],⟨oM,hg⟩,sL,aZ rC sC (by refine sA ?_;exact⟨rfl,rfl,rfl,rfl,(Y2 _ _).symm⟩) rfl rfl⟩
   ·rw[ak oM,qP] at hg
    refine bH h1 ?_
    refine bX fe ?_ rfl rfl
    exact dD hg
theorem xM(fy:nJ al bB ao)(hk:jv al)(qF:al.length≤1000)(hk9:∀t∈al,t.ar.length≤1000)(hs9:ao.length≤2000000)(x y:ax)(hx:x∈al)(hy:y∈al)(hxy:cl (a6 al.length ao ao.length) (aM al x)=cl (a6 al.length ao ao.length) (aM al y)) :
 CP 122 [.bA 0 0,av (cT x),av (cT y)] [some (.box [lv (aU al),lv (db c),lv (bD ao)])] (av (jn (Mod.oi al ao x y))):=by
 have hc:=K2 al bB c ao fy hk qF hk9 hs9 (ao.length+1) ao.length (aM al x) (aM al y) oM (aK _) (bT hx) (bT hy) hxy
 have ca:=GQ al c ao x
 have cb:=GQ al c ao y
 rw[cX hx] at ca
 rw[cX hy] at cb
 refine gS 20 [.cell 6 35] hm Tryz.func122 fun hl he cf=>?_
 refine AQ [] [0] ca ?_
 refine AQ [] [0] cb ?_
 refine Mw [] [0] hc ?_
 refine bX fe ?_ rfl rfl
 exact tY
end
def uR(s:eM)(ay ai:List ax):List D:=[.eC (fq s.cQ),.eC (aU ay),.eC (aU ai)]
attribute [go_sem] uR
theorem QC(s:eM)(ay ai:List ax)(bB:List hY)(h4:ai.length≤4)(he9:bB.length≤1000):CP 115 [.bA 0 0,lv (dF bB)] [some (.box (dm (uR s ay ai)))] (lv (db (mR ai bB))):=by
 refine gS 82 [.tmp 4] hm Tryz.func115 fun hl he cf=>?_;refine sQ ?_;refine ry hm ai.length (fun(i:Nat) (c:List Nat)=>c.length=ai.length∧c.take i=bK i) (fun i c=>⟨dN 82 .any [(0,.bA 0 0),(1,lv (dF bB)),(5,.aX 1),(22,iv ai.length),(23,iv i)],[some (.box (dm (uR s ay ai))),some (.aX 3 (db c))]⟩) (List.replicate ai.length 0) ?_ (aZ kR (by refine sA ?_;(simp[])) (by refine sA ?_;(simp[db])) rfl rfl) ?_;exact⟨bo _,by simp,rfl⟩;rintro i c ⟨hi,hc,ht⟩;rcases aa (i<ai.length) with h1|h1;have h1':i<c.length:=oM;have hp:=xG (l:=c) (i:=i) (n:=i) h1';rw[se h1'] at hp;simp -implicitDefEqProofs only[go_sem,h1,h1'];refine sQ ?_;refine⟨i+1,c.set i i,?_,sL,aZ kR sC (by refine sA ?_;exact hp) rfl rfl⟩;refine⟨oM,by simpa using hc,?_⟩;rw[List.range_succ,←ht,List.take_add_one,List.take_set_of_le (aK _)];simp[h1'];obtain rfl:i=ai.length:=oM;have e:c=bK ai.length:=by rw[←ht,aq oM]
 rw[e];refine bH h1 ?_;clear hi hc ht h1 e c;refine ry hm bB.length (fun(n:Nat) (c:List Nat)=>c.length=ai.length∧mR ai bB=(bB.drop n).foldl (fY ai) c) (fun n c=>⟨dN 82 .any [(0,.bA 0 0),(5,.aX 1),(31,lv (dF bB)),(32,iv bB.length),(33,iv n)],[some (.box (dm (uR s ay ai))),some (.aX 3 (db c))]⟩) (bK ai.length) ?_ (cM kR) ?_;exact⟨bo _,by simp,rfl⟩;rintro n c ⟨hn,hc,hg⟩;rcases aa (n<bB.length) with h1|h1;rw[ae h1,List.foldl_cons] at hg;rcases aa (bB[n].A∈ai) with hA|hA;rcases aa (bB[n].B∈ai) with hB|hB;have pA:=bT hA;have pB:=bT hB;have cA:=cX hA;have cB:=cX hB;have ca:=e9 ai bB[n].A;have cb:=e9 ai bB[n].B;rw[cA] at ca;rw[cB] at cb;have es:fY ai c bB[n]=c.map fun k=>if k=cl c (aM ai bB[n].A) then cl c (aM ai bB[n].B) else k:=by rw[fY,if_neg oM]
 have eO:=zc ai c bB[n];rw[es] at hg eO;generalize aM ai bB[n].A=a at *;generalize aM ai bB[n].B=b at *;have pA':a<c.length:=oM;have pB':b<c.length:=oM;have eA:c[a]=cl c a:=(jt pA').symm;have eB:c[b]=cl c b:=(jt pB').symm;have nA:¬ (a:Int)<0:=oM;have nB:¬ (b:Int)<0:=oM;obtain⟨f,hf⟩:∃f,cl c a=f:=⟨_,rfl⟩;obtain⟨t,ht⟩:∃t,cl c b=t:=⟨_,rfl⟩;rw[hf] at eA hg eO;rw[ht] at eB hg eO;have hend:∀i,c.length≤i→iJ c f t i=c.map fun k=>if k=f then t else k:=fun i hi=>by unfold iJ;rw[aq hi,ak hi,List.append_nil]
 refine uA ?_;refine aC [] ca ?_;refine sa [] cb ?_;refine gL nA nB (an pA' (an pB' (an eA eB))) ?_;refine jr hm c.length (fun i=>⟨dN 82 .any [(0,.bA 0 0),(5,.aX 1),(11,iv f),(12,iv t),(31,lv (dF bB)),(32,iv bB.length),(33,iv n),(65,.aX 1),(66,iv c.length),(67,iv i)],[some (.box (dm (uR s ay ai))),some (.aX 3 (db (iJ c f t i)))]⟩) (cM kR) ?_;rintro i hi;have hjl:=vx c f t i;rcases aa (i<c.length) with h2|h2;have h2':i<(iJ c f t i).length:=oM;have eg:=vk (f:=f) (t:=t) h2 h2';rcases aa (c[i]=f) with h3|h3;have k3:=eq_true h3;have hp:=xG (l:=iJ c f t i) (i:=i) (n:=t) h2';have hnx:=tv (f:=f) (t:=t) h2;rw[if_pos h3] at hnx;rw[se h2',eg] at hp;refine gL hjl h2 (an eg k3) ?_;exact⟨i+1,h2,sL,aZ kR sC (by refine sA ?_;(rw[hp,hnx])) rfl rfl⟩;have hnx:=wA (f:=f) (t:=t) h2 h3;refine gL hjl h2 (an eg h3) ?_;exact⟨i+1,h2,sL,cM kR⟩;rw[hend i oM] at hjl⊢;refine du h2 ?_;exact⟨n+1,(c.map fun k=>if k=f then t else k),⟨oM,by simpa using hc,hg⟩,sL,cM kR⟩;have h3:b8 ai bB[n].B<0:=by have:=(not_congr dE).2 hB;omega
 have cA:=cX hA;have nA:¬b8 ai bB[n].A<0:=oM;have es:fY ai c bB[n]=c:=by rw[fY,if_pos (.inr h3)]
 rw[es] at hg;refine uA ?_;refine aC [] (e9 ai bB[n].A) ?_;refine sa [] (e9 ai bB[n].B) ?_;refine oH nA h3 ?_;exact⟨n+1,c,⟨oM,hc,hg⟩,sL,cM kR⟩;have h3:b8 ai bB[n].A<0:=by have:=(not_congr dE).2 hA;omega
 have es:fY ai c bB[n]=c:=by rw[fY,if_pos (.inl h3)]
 rw[es] at hg;refine uA ?_;refine aC [] (e9 ai bB[n].A) ?_;refine sa [] (e9 ai bB[n].B) ?_;refine du h3 ?_;exact⟨n+1,c,⟨oM,hc,hg⟩,sL,cM kR⟩;rw[ak oM,List.foldl_nil] at hg;refine bH h1 ?_;refine bX fe ?_ rfl rfl;exact dD hg
theorem QH(s:eM)(ay ai:List ax)(bB:List hY)(ab:List bL)(hk:jv ay)(kI:∀e∈bB,e.A∈ay∧e.B∈ay)(qF:ay.length≤1000)(hk9:∀t∈ay,t.ar.length≤1000)(hlk:∀l∈ab,l.aN.kind=1→l.aN.A∈ay∧l.aN.B∈ay) :
 CP 112 [.bA 0 0,lv (bh ab),.bA 1 0] [some (.box (dm (uR s ay ai))),some (.box [lv (aU ay),lv (db (closed ay bB).1),lv (bD (closed ay bB).2)])] (.iZ [av (iL (match nE (lV ay (closed ay bB).1) ab with|none=>th|some n=>.mk 1 n (Mod.oi ay (closed ay bB).2 (ab.getD n Gq).aN.A (ab.getD n Gq).aN.B) [] aQ aQ [])),bv (nE (lV ay (closed ay bB).1) ab).isSome]):=by
 have hkept:=oL (al:=ay) (bB:=bB) kI
 have hc:=Ss hkept
 have hsl:(closed ay bB).2.length≤2000000:=by
  have h1:=yU hkept (closed ay bB).2.length (aK _);have h2:(bK ay.length).sum≤(bK ay.length).length*1000:=rU fun x hx=>by have:=List.mem_range.1 hx;omega
  have h3:(bK ay.length).length*1000≤1000*1000:=Nat.mul_le_mul_right _ (by simpa using qF);omega
 have hex:∀x y,x∈ay→y∈ay→ix ay (closed ay bB).1 x y=true→CP 122 [.bA 0 0,av (cT x),av (cT y)] [some (.box [lv (aU ay),lv (db (closed ay bB).1),lv (bD (closed ay bB).2)])] (av (jn (Mod.oi ay (closed ay bB).2 x y))):=fun x y hx hy hxy=>by refine xM ay bB (closed ay bB).1 (closed ay bB).2 hkept.1 hk qF hk9 hsl x y hx hy ?_;rw[←hkept.2];simpa[ix] using hxy
 obtain⟨c,ec⟩:∃c,(closed ay bB).1=c:=⟨_,rfl⟩
 obtain⟨ao,es⟩:∃x,(closed ay bB).2=x:=⟨_,rfl⟩
 rw[ec] at hc hex⊢
 rw[es] at hex⊢
 obtain⟨R,hR⟩:∃R,nE (lV ay c) ab=R:=⟨_,rfl⟩
 rw[hR]
 refine gS 60 [.cell 6 38,.tmp 7] hm Tryz.func112 fun hl he cf=>?_
 refine cS hm (fun(i:Nat)=> i≤ab.length∧R=yx (lV ay c) ab i) (fun(i:Nat)=> ⟨dN 60 .any [(2,.bA 1 0),(6,.bA 2 0),(11,lv (bh ab)),(12,iv ab.length),(13,iv i)],[some (.box (dm (uR s ay ai))),some (.box [lv (aU ay),lv (db c),lv (bD ao)]),some (.box (dm (iL th)))]⟩) (fun(i:Nat)=> ab.length-i) (0) ?_ (aZ rC ?_ ?_ rfl rfl) ?_
 rotate_left
 ·exact sC
 ·refine sA ?_
  all_goals(((repeat' apply an)<;>rfl))
 rotate_left
 ·exact⟨bo _,by rw[←hR];exact K3 _ _⟩
 ·rintro i ⟨hi,hg⟩
  rcases aa (i<ab.length) with h1|h1
  ·rw[HN h1] at hg
   have hl:=hlk _ (aj h1)
   have ecl:lV ay c ab[i]=(ab[i].no&&(decide (ab[i].aN.kind=1)&&ix ay c ab[i].aN.A ab[i].aN.B)):=rfl
   cases h2:ab[i].no
   ·rw[ecl,h2,aI,if_neg (by simp)] at hg
    refine uJ ?_
    refine iK ?_
    refine sQ ?_
    refine⟨i+1,?_,sL,aZ rC ?_ ?_ rfl rfl⟩
    rotate_left
    ·exact sC
    ·exact sC
    exact⟨oM,hg⟩
   ·rcases aa (ab[i].aN.kind=1) with h3|h3
    ·have k3:=eq_true h3
     obtain⟨hA,hB⟩:=hl h3
     have hgd:ab.getD i Gq=ab[i]:=getD_at h1
     rw[ecl,h2,decide_eq_true h3,aA,aA] at hg
     have pA:=bT hA
     have pB:=bT hB
     have pA':aM ay ab[i].aN.A<c.length:=oM
     have pB':aM ay ab[i].aN.B<c.length:=oM
     have eA:c[aM ay ab[i].aN.A]=cl c (aM ay ab[i].aN.A):=(jt pA').symm
     have eB:c[aM ay ab[i].aN.B]=cl c (aM ay ab[i].aN.B):=(jt pB').symm
     have ca:=GQ ay c ao ab[i].aN.A
     have cb:=GQ ay c ao ab[i].aN.B
     rw[cX hA] at ca
     rw[cX hB] at cb
     simp -implicitDefEqProofs only[go_sem,h1,h2,k3]
     refine qj [] [1] ca rfl ?_ ?_ ?_
     ·exact sV
     all_goals simp -implicitDefEqProofs only[go_sem,pA',eA]
     refine qj [] [1] cb rfl ?_ ?_ ?_
     ·exact sV
     all_goals simp -implicitDefEqProofs only[go_sem,pB',eB]
     refine iK ?_
     rcases aa (cl c (aM ay ab[i].aN.A)=cl c (aM ay ab[i].aN.B)) with h4|h4
     ·have hsm:ix ay c ab[i].aN.A ab[i].aN.B=true:=decide_eq_true h4
      have k4:=eq_true h4
      have hx:=hex _ _ hA hB hsm
      rw[hsm,if_pos rfl] at hg
      simp -implicitDefEqProofs only[go_sem,k4]
      refine oC [] [1] hx ?_
      refine bX kR ?_ rfl rfl
      refine sA ?_
      rw[hg]
      simp only[hgd]
      ((repeat' apply an)<;>rfl)
     ·have hsm:ix ay c ab[i].aN.A ab[i].aN.B=false:=decide_eq_false h4
      rw[hsm,if_neg (by simp)] at hg
      refine uD ?_
      refine sQ ?_
      refine⟨i+1,?_,sL,aZ rC ?_ ?_ rfl rfl⟩
      rotate_left
      ·exact sC
      ·exact sC
      exact⟨oM,hg⟩
    ·rw[ecl,h2,decide_eq_false h3,aA,aI,if_neg (by simp)] at hg
     simp -implicitDefEqProofs only[go_sem,h1,h2,h3]
     refine iK ?_
     refine sQ ?_
     exact⟨i+1,⟨oM,hg⟩,sL,cM rC⟩
  ·rw[Mc oM] at hg
   refine bH h1 ?_
   refine bX kR ?_ rfl rfl
   exact dD hg
theorem I2(f:Nat)(cap:List PV)(lF:wj 0 cap=true)(p:bL→Bool)(xs:List bL)(hf:∀x∈xs,C E.P f (av (r9 x)::cap) [] (jF (bv (p x)) [])) :
 CN 287 [lv (bh xs),.fn f cap] (iv (idxOf p xs)):=by
 refine gS 19 [.tmp 4] hm Tryz.func287 fun hl he cf=>?_
 refine kC hm xs.length (fun(i:Nat)=>idxOf p xs=fj p (xs.drop i) i) (fun i=>⟨dN 19 .any [(0,lv (bh xs)),(1,.fn f cap),(7,iv xs.length),(8,iv i)],[]⟩) ?_ (cM []) ?_
 ·simp[idxOf]
 ·rintro i ⟨hi,hg⟩
  rcases aa (i<xs.length) with h1|h1
  ·rw[ae h1,fj] at hg
   refine uA ?_
   have hc:=hf xs[i] (aj h1)
   refine dy cap hc ?_ ?_<;>simp -implicitDefEqProofs only[go_sem,lF]
   cases h2:p xs[i]
   ·rw[h2] at hg
    simp only[Bool.false_eq_true,if_false] at hg
    refine sA ?_
    refine⟨oM,?_⟩
    exact⟨i+1,⟨oM,hg⟩,sL,cM []⟩
   ·rw[h2] at hg
    simp only[if_true] at hg
    exact dD hg
  ·rw[ak oM,fj] at hg
   exact gG h1 hg
theorem Dk(f:Nat)(cap:List PV)(lF:wj 0 cap=true)(p:bL→Bool)(xs:List bL)(hf:∀x∈xs,C E.P f (av (r9 x)::cap) [] (jF (bv (p x)) [])) :
 CN 208 [lv (bh xs),.fn f cap] (bv (xs.any p)):=by
 refine gS 9 [.tmp 4] hm Tryz.func208 fun hl he cf=>?_
 refine dy [] (I2 f cap lF p xs hf) ?_ ?_<;>simp -implicitDefEqProofs only[go_sem,lF]
 refine bt ?_
 simp[Ep]
theorem HK{ay ai:List ax}{c:List Nat}{ab:List bL}{i k:Nat}:fU true ay ai c ab i k=(!Mod.gp ai ab i k&&ix ay c (ai.getD i aQ) (ai.getD k aQ)):=rfl
theorem QS{ay ai:List ax}{c:List Nat}{ab:List bL}{i k:Nat}:fU false ay ai c ab i k=(!Mod.gp ai ab i k&&(!fW ai ab i k&& !fW ai ab k i)):=rfl
theorem Y4(l less:bL):CN 209 [av (r9 l),.ib [r9 less] 0 0] (bv (!l.no&&decide (l.aN=less.aN))):=by have hco:=tC l.aN less.aN;refine gS 14 [.tmp 3] hm Tryz.func209 fun hl he cf=>?_;cases h:l.no;refine sA ?_;refine aC [] hco ?_;exact tY;exact tY
theorem TK(s:eM)(ay ai:List ax)(ab:List bL)(i k:Nat)(hi:i<ai.length)(hk:k<ai.length)(hnt:∀t∈ai,bG t=true):CN 124 [.ib [uR s ay ai] 0 0,lv (bh ab),iv i,iv k] (bv (fW ai ab i k)):=by
 have ga:ai.getD i aQ=ai[i]:=gi hi;have gb:ai.getD k aQ=ai[k]:=gi hk;have hls:=vN ai[i] ai[k] (hnt _ (aj hi)) (hnt _ (aj hk));have ld:fW ai ab i k=ab.any fun l=>!l.no&&decide (l.aN=(fa ai[i] ai[k]).aN):=by rw[←ga,←gb];rfl
 rw[ld];generalize fa ai[i] ai[k]=less at hls;refine gS 28 [.tmp 8] hm Tryz.func124 fun hl he cf=>?_;simp -implicitDefEqProofs only[go_sem,hi,hk];refine aC [] hls ?_;refine bt ?_;refine AQ [] [0] (Dk 209 [.ib [r9 less] 0 0] rfl (fun l=>!l.no&&decide (l.aN=less.aN)) ab (fun l _=>Y4 l less)) ?_;exact tY
section
variable(s:eM)(ay ai:List ax)(c ls:List Nat)(ao:List Step)(ab:List bL)
theorem aeX(i k:Nat)(hi:i<ai.length)(hk:k<ai.length)(o4:∀t∈ai,t∈ay)(hc:c.length=ay.length):CP 116 [iv i,iv k,.bA 0 0,.bA 1 0] [some (.box [.bA 2 0]),some (.box [.bA 3 0]),some (.box [lv (aU ay),lv (db c),lv (bD ao)]),some (.box (dm (uR s ay ai)))] (bv (ix ay c ai[i] ai[k])):=by have hA:=o4 _ (aj hi);have hB:=o4 _ (aj hk);have pA:=bT hA;have pB:=bT hB;have pA':aM ay ai[i]<c.length:=oM;have pB':aM ay ai[k]<c.length:=oM;have eA:c[aM ay ai[i]]=cl c (aM ay ai[i]):=(jt pA').symm;have eB:c[aM ay ai[k]]=cl c (aM ay ai[k]):=(jt pB').symm;have ca:=GQ ay c ao ai[i];have cb:=GQ ay c ao ai[k];rw[cX hA] at ca;rw[cX hB] at cb;refine gS 38 [.tmp 6] hm Tryz.func116 fun hl he cf=>?_;simp -implicitDefEqProofs only[go_sem,hi];refine AQ [] [2] ca ?_;simp -implicitDefEqProofs only[go_sem,pA',eA,hk];refine AQ [] [2] cb ?_;refine iI pB' eB ?_;refine iK ?_;refine bX wM ?_ rfl rfl;exact tY
theorem aeZ(i k:Nat)(hi:i<ai.length)(hk:k<ai.length)(o4:∀t∈ai,t∈ay)(hc:c.length=ay.length)(hll:ls.length=ai.length):CP 119 [iv i,iv k,.bA 0 0,.bA 1 0] [some (.box [lv (db ls)]),some (.box [.fn 116 [.bA 2 0,.bA 3 0]]),some (.box [.bA 4 0]),some (.box [.bA 5 0]),some (.box [lv (aU ay),lv (db c),lv (bD ao)]),some (.box (dm (uR s ay ai)))] (bv (!decide (cl ls i=cl ls k)&&ix ay c ai[i] ai[k])):=by
 have hi':i<ls.length:=oM;have hk':k<ls.length:=oM;have ei:ls[i]=cl ls i:=(jt hi').symm;have ek:ls[k]=cl ls k:=(jt hk').symm;have hco:=aeX s ay ai c ao i k hi hk o4 hc;refine gS 22 [.tmp 6] hm Tryz.func119 fun hl he cf=>?_;rcases aa (cl ls i=cl ls k) with h|h
 ·have kk:=eq_true h;refine gL hi' hk' (an ei (an ek kk)) ?_;refine bX im6 ?_ rfl rfl;simp -implicitDefEqProofs only[go_sem];all_goals rw[decide_eq_true h]
  all_goals((repeat' apply an)<;>rfl)
 refine ot hi' hk' (an ei (an ek h)) ?_;refine lx [.bA 2 0,.bA 3 0] [2,3,4,5] hco ?_ ?_
 ·refine sA ?_;first|rfl|((repeat' apply an)<;>rfl)
 refine bt ?_;refine bX im6 ?_ rfl rfl;simp -implicitDefEqProofs only[go_sem];all_goals rw[decide_eq_false h]
 all_goals((repeat' apply an)<;>rfl)
theorem afc(i k:Nat)(hi:i<ai.length)(hk:k<ai.length)(hnt:∀t∈ai,bG t=true)(hll:ls.length=ai.length):CP 123 [iv i,iv k,.bA 0 0,.bA 1 0,.bA 2 0] [some (.box [lv (db ls)]),some (.box [.bA 3 0]),some (.box [lv (bh ab)]),some (.box (dm (uR s ay ai)))] (bv (!decide (cl ls i=cl ls k)&&(!fW ai ab i k&& !fW ai ab k i))):=by
 have hi':i<ls.length:=oM;have hk':k<ls.length:=oM;have ei:ls[i]=cl ls i:=(jt hi').symm;have ek:ls[k]=cl ls k:=(jt hk').symm;have c1:=TK s ay ai ab i k hi hk hnt;have c2:=TK s ay ai ab k i hk hi hnt;refine gS 33 [.tmp 7] hm Tryz.func123 fun hl he cf=>?_;rcases aa (cl ls i=cl ls k) with h|h
 ·have kk:=eq_true h;refine gL hi' hk' (an ei (an ek kk)) ?_;refine bX wM ?_ rfl rfl;simp -implicitDefEqProofs only[go_sem];all_goals rw[decide_eq_true h]
  all_goals((repeat' apply an)<;>rfl)
 refine ot hi' hk' (an ei (an ek h)) ?_;refine AQ [] [3] c1 ?_;cases h2:fW ai ab i k
 ·refine sA ?_;refine AQ [] [3] c2 ?_;refine iK ?_;refine bX wM ?_ rfl rfl;simp -implicitDefEqProofs only[go_sem];all_goals rw[decide_eq_false h]
  all_goals((repeat' apply an)<;>rfl)
 refine bt ?_;refine bX wM ?_ rfl rfl;simp -implicitDefEqProofs only[go_sem];all_goals rw[decide_eq_false h]
 all_goals((repeat' apply an)<;>rfl)
theorem acK(o4:∀t∈ai,t∈ay)(hc:c.length=ay.length)(h4:ai.length≤4):CP 118 [.bA 5 0,.fn 119 [.bA 0 0,.bA 1 0]] [some (.box [lv (db (mR ai (br ab)))]),some (.box [.fn 116 [.bA 2 0,.bA 3 0]]),some (.box [.bA 4 0]),some (.box [.bA 5 0]),some (.box [lv (aU ay),lv (db c),lv (bD ao)]),some (.box (dm (uR s ay ai)))] (.iZ [iv (((dj ai.length (fU true ay ai c ab)).getD (0,0)).1:Nat),iv (((dj ai.length (fU true ay ai c ab)).getD (0,0)).2:Nat),bv (dj ai.length (fU true ay ai c ab)).isSome]):=by
 have hll:(mR ai (br ab)).length=ai.length:=uY _ _;obtain⟨fp,hfp⟩:∃f,dj ai.length (fU true ay ai c ab)=f:=⟨_,rfl⟩;rw[hfp];refine gS 35 [.tmp 4,.tmp 5,.tmp 6] hm Tryz.func118 fun hl he cf=>?_;refine kC hm ai.length (fun(i:Nat)=>fp=(ff i ai.length).find? (fun q=>fU true ay ai c ab q.1 q.2)) (fun i=>⟨dN 35 .any [(0,.bA 5 0),(1,.fn 119 [.bA 0 0,.bA 1 0]),(13,iv ai.length),(14,iv i)],[some (.box [lv (db (mR ai (br ab)))]),some (.box [.fn 116 [.bA 2 0,.bA 3 0]]),some (.box [.bA 4 0]),some (.box [.bA 5 0]),some (.box [lv (aU ay),lv (db c),lv (bD ao)]),some (.box (dm (uR s ay ai)))]⟩) ?_ (cM im6) ?_;exact⟨bo _,hfp.symm⟩;rintro i ⟨hi,hg⟩;rcases aa (i<ai.length) with h1|h1
 ·rw[p8 h1] at hg;refine du h1 ?_;refine cS hm (fun(k:Nat)=> i<k∧k≤ai.length∧fp=(og i k ai.length).find? (fun q=>fU true ay ai c ab q.1 q.2)) (fun k=> ⟨dN 35 .any [(0,.bA 5 0),(1,.fn 119 [.bA 0 0,.bA 1 0]),(7,iv i),(8,iv k),(13,iv ai.length),(14,iv i)],[some (.box [lv (db (mR ai (br ab)))]),some (.box [.fn 116 [.bA 2 0,.bA 3 0]]),some (.box [.bA 4 0]),some (.box [.bA 5 0]),some (.box [lv (aU ay),lv (db c),lv (bD ao)]),some (.box (dm (uR s ay ai)))]⟩) (fun k=> ai.length-k) (i+1) ?_ (cM im6) ?_;exact⟨oM,oM,hg⟩;rintro k ⟨hik,hk,hg⟩;rcases aa (k<ai.length) with h2|h2
  ·have hco:=aeZ s ay ai c (mR ai (br ab)) ao i k h1 h2 o4 hc hll;have ga:ai.getD i aQ=ai[i]:=gi h1;have gb:ai.getD k aQ=ai[k]:=gi h2;have eo:fU true ay ai c ab i k=(!decide (cl (mR ai (br ab)) i=cl (mR ai (br ab)) k)&&ix ay c ai[i] ai[k]):=(by rw[HK,ga,gb];rfl);obtain⟨bb,hbb⟩:∃b,(!decide (cl (mR ai (br ab)) i=cl (mR ai (br ab)) k)&&ix ay c ai[i] ai[k])=b:=⟨_,rfl⟩;rw[hbb] at eo hco;rw[q9 h2,fb] at hg;simp only[eo] at hg;refine bH h2 ?_;refine lx [.bA 0 0,.bA 1 0] [0,1,2,3,4,5] hco ?_ ?_
   ·refine sA ?_;first|rfl|((repeat' apply an)<;>rfl)
   refine sA ?_;cases h3:bb;rw[h3] at hg;refine bt ?_;exact⟨k+1,⟨oM,oM,hg⟩,sL,cM im6⟩;rw[h3] at hg;simp only at hg;refine sA ?_;refine bX im6 ?_ rfl rfl;exact dD hg
  rw[sE oM] at hg;refine du h2 ?_;exact⟨i+1,⟨oM,hg⟩,sL,cM im6⟩
 rw[qM oM,lS] at hg;refine bH h1 ?_;refine bX im6 ?_ rfl rfl;exact dD hg
theorem abX(hnt:∀t∈ai,bG t=true)(h4:ai.length≤4):CP 118 [.bA 3 0,.fn 123 [.bA 0 0,.bA 1 0,.bA 2 0]] [some (.box [lv (db (mR ai (br ab)))]),some (.box [.bA 3 0]),some (.box [lv (bh ab)]),some (.box (dm (uR s ay ai)))] (.iZ [iv (((dj ai.length (fU false ay ai c ab)).getD (0,0)).1:Nat),iv (((dj ai.length (fU false ay ai c ab)).getD (0,0)).2:Nat),bv (dj ai.length (fU false ay ai c ab)).isSome]):=by
 have hll:(mR ai (br ab)).length=ai.length:=uY _ _;obtain⟨fp,hfp⟩:∃f,dj ai.length (fU false ay ai c ab)=f:=⟨_,rfl⟩;rw[hfp];refine gS 35 [.tmp 4,.tmp 5,.tmp 6] hm Tryz.func118 fun hl he cf=>?_;refine kC hm ai.length (fun(i:Nat)=>fp=(ff i ai.length).find? (fun q=>fU false ay ai c ab q.1 q.2)) (fun i=>⟨dN 35 .any [(0,.bA 3 0),(1,.fn 123 [.bA 0 0,.bA 1 0,.bA 2 0]),(13,iv ai.length),(14,iv i)],[some (.box [lv (db (mR ai (br ab)))]),some (.box [.bA 3 0]),some (.box [lv (bh ab)]),some (.box (dm (uR s ay ai)))]⟩) ?_ (cM wM) ?_;exact⟨bo _,hfp.symm⟩;rintro i ⟨hi,hg⟩;rcases aa (i<ai.length) with h1|h1
 ·rw[p8 h1] at hg;refine du h1 ?_;refine cS hm (fun(k:Nat)=> i<k∧k≤ai.length∧fp=(og i k ai.length).find? (fun q=>fU false ay ai c ab q.1 q.2)) (fun k=> ⟨dN 35 .any [(0,.bA 3 0),(1,.fn 123 [.bA 0 0,.bA 1 0,.bA 2 0]),(7,iv i),(8,iv k),(13,iv ai.length),(14,iv i)],[some (.box [lv (db (mR ai (br ab)))]),some (.box [.bA 3 0]),some (.box [lv (bh ab)]),some (.box (dm (uR s ay ai)))]⟩) (fun k=> ai.length-k) (i+1) ?_ (cM wM) ?_;exact⟨oM,oM,hg⟩;rintro k ⟨hik,hk,hg⟩;rcases aa (k<ai.length) with h2|h2
  ·have hco:=afc s ay ai (mR ai (br ab)) ab i k h1 h2 hnt hll;have ga:ai.getD i aQ=ai[i]:=gi h1;have gb:ai.getD k aQ=ai[k]:=gi h2;have eo:fU false ay ai c ab i k=(!decide (cl (mR ai (br ab)) i=cl (mR ai (br ab)) k)&&(!fW ai ab i k&& !fW ai ab k i)):=(by rw[QS];rfl);obtain⟨bb,hbb⟩:∃b,(!decide (cl (mR ai (br ab)) i=cl (mR ai (br ab)) k)&&(!fW ai ab i k&& !fW ai ab k i))=b:=⟨_,rfl⟩;rw[hbb] at eo hco;rw[q9 h2,fb] at hg;simp only[eo] at hg;refine bH h2 ?_;refine lx [.bA 0 0,.bA 1 0,.bA 2 0] [0,1,2,3] hco ?_ ?_
   ·refine sA ?_;first|rfl|((repeat' apply an)<;>rfl)
   refine sA ?_;cases h3:bb;rw[h3] at hg;refine bt ?_;exact⟨k+1,⟨oM,oM,hg⟩,sL,cM wM⟩;rw[h3] at hg;simp only at hg;refine sA ?_;refine bX wM ?_ rfl rfl;exact dD hg
  rw[sE oM] at hg;refine du h2 ?_;exact⟨i+1,⟨oM,hg⟩,sL,cM wM⟩
 rw[qM oM,lS] at hg;refine bH h1 ?_;refine bX wM ?_ rfl rfl;exact dD hg
end
end Go.Proofs.YtphcpjhkeipggaaGreat
