/-
  The program: why two parts are one. A step towards the laws.
-/
import Derived.Test.YtnhdminpjihbnaaGreatKAzg
import Derived.Test.YtnhdminpjihbnaaGreatKAd
set_option linter.unusedVariables false
set_option linter.unusedSimpArgs false
open Int renaming reduceEq→Z1,reduceLT→Z2,reduceLE→Z3,reduceToNat→Z4
open And renaming intro→aq
open Bool renaming true_and→aN,false_and→aZ
open Classical renaming em→aa
open List renaming getElem?_eq_getElem→ae,getElem_mem→ah,drop_eq_getElem_cons→ai,take_of_length_le→ak,drop_of_length_le→al,getD_eq_getElem?_getD→aE,range→cK,find?_cons→iX,drop→pC
open Nat renaming le_refl→aH,zero_le→bT
namespace Go.Proofs.YtnhdminpjihbnaaGreat
open Go.Eng Go.Mod
set_option maxRecDepth 100000
set_option maxHeartbeats 3200000
section
variable(aj:List az)(dx:List lH)(c:List Nat)(ao:List Step)
theorem Pu(a:o8):mc [a]=[DX a]:=by rw[uy,tH]
theorem ZK(a b:o8):mc [a,b]=[DX a,DX b]:=by rw[uy,uy,tH]
theorem wx(dL:qu aj dx ao)(hk:mo aj)(rP:aj.length≤1000)(hk9:∀t∈aj,t.ar.length≤1000)(f:Nat)
 (ih:∀n a b,n<f→n≤ao.length→a<aj.length→b<aj.length→cl (bl aj.length ao n) a=cl (bl aj.length ao n) b→CP 168 [.bK 0 0,iv a,iv b,iv n] [some (.box [lv (ba aj),lv (eZ c),lv (b8 ao)])] (av (DX (uc aj ao f n a b))))
 (d:Mod.Edge) (hi:d.step<ao.length) (hf:d.step<f):CP 209 [.bK 0 0,av (DA d)] [some (.box [lv (ba aj),lv (eZ c),lv (b8 ao)])] (av (DX (ri aj ao (uc aj ao f) d))):=by
 obtain⟨i,back⟩:=d
 simp only at hi hf
 have hs:=MO hi
 have hso:=uQ dL hi
 have a0:=hso.a0
 have b0:=hso.b0
 have a1:=O8 dL hi
 have b1:=O5 dL hi
 have eA:ao[i].A=(vA ao i:Int):=by rw[vA,hs];rw[hs] at a0;omega
 have eB:ao[i].B=(vB ao i:Int):=by rw[vB,hs];rw[hs] at b0;omega
 have how:=hso.how
 have hE:Ka aj ao (uc aj ao f) i=if ao[i].given<0 then .mk 5 0 (.mk (aj.getD (vA ao i) aX).name []) (((aj.getD (vA ao i) aX).ar.zip (aj.getD (vB ao i) aX).ar).map fun p=>uc aj ao f i (a8 aj p.1) (a8 aj p.2)) else .mk 2 ao[i].given aX []:=by rw[Ka,hs]
 have hed:=V9 aj ao (uc aj ao f) ⟨i,back⟩
 simp only at hed
 rw[hs] at how
 have cV:=oc
 refine rF (nt:=80) (rs:=[.cell 4 97]) Tryz.func209 rfl rfl rfl rfl rfl (fun hl he=>?_)
 simp -implicitDefEqProofs only[go_sem] at hl⊢
 refine fh hm ?_
 rcases aa (ao[i].given<0) with h0|h0
 ·rw[if_pos h0] at hE
  have hal:alike aj (bl aj.length ao i) (vA ao i) (vB ao i)=true:=by rcases how with h|⟨n,h,_⟩;rw[vA,vB,hs];exact h.2;omega
  obtain⟨q1,q2,q3,q4⟩:=adm hal
  have gA:aj.getD (vA ao i) aX=aj[vA ao i]:=by rw[aE,ae a1];rfl
  have gB:aj.getD (vB ao i) aX=aj[vB ao i]:=by rw[aE,ae b1];rfl
  have mA:=ah a1
  have mB:=ah b1
  obtain⟨x,hx⟩:∃x,aj[vA ao i]=x:=⟨_,rfl⟩
  obtain⟨y,hy⟩:∃y,aj[vB ao i]=y:=⟨_,rfl⟩
  rw[hx] at gA mA
  rw[hy] at gB mB
  rw[gA] at q1 q2 q3 q4 hE
  rw[gB] at q2 q3 q4 hE
  have kx:=hk _ mA
  have ky:=hk _ mB
  have kl:=hk9 _ mA
  simp -implicitDefEqProofs only[go_sem,hi,h0,eA,eB,a1,b1,hx,hy]
  refine iK ?_
  refine iK ?_
  refine hJ hm (fun(k:Nat)=> k≤x.ar.length) (fun k=> ⟨fk 80 .any [(0,.bK 0 0),(3,.bK 1 0),(4,.bK 2 0),(6,.bK 3 0),(7,.bK 4 0),(8,.bK 5 0),(46,iv x.ar.length),(47,iv k)],[some (.box [lv (ba aj),lv (eZ c),lv (b8 ao)]),some (.box [iv i,bv back]),some (.box (fy (DX E1))),some (.box [iv 5,iv 0,sv x.name,lv [],.aW 6]),some (.box (fy (cT x))),some (.box (fy (cT y))),some (.aW 97 (mc (((x.ar.zip y.ar).take k).map fun p=>uc aj ao f i (a8 aj p.1) (a8 aj p.2))))]⟩) (fun k=> x.ar.length-k) (0) ?_ (c9 [some 0,some 1,some 2,some 4,some 5,some 6,none]) ?_
  ·omega
  ·rintro k hk1
   have hzl:(((x.ar.zip y.ar).take k).map fun p=>uc aj ao f i (a8 aj p.1) (a8 aj p.2)).length≤1000:=by simp;omega
   rcases aa (k<x.ar.length) with h1|h1
   ·have h2:k<y.ar.length:=oM
    have mx:=kx _ (ah h1)
    have my:=ky _ (ah h2)
    have px:=df mx
    have py:=df my
    have cx:=fP mx
    have cy:=fP my
    have hc:=ih i (a8 aj x.ar[k]) (a8 aj y.ar[k]) hf oM px py (q4 k h1 h2)
    have hz:=acd (f:=fun p=>uc aj ao f i (a8 aj p.1) (a8 aj p.2)) h1 h2
    have ca:=HW aj c ao x.ar[k]
    have cb:=HW aj c ao y.ar[k]
    rw[cx] at ca
    rw[cy] at cb
    refine uA ?_
    refine CM [] [0] ca ?_
    refine uB ?_
    refine CM [] [0] cb ?_
    refine xN [] [0] hc ?_
    exact⟨k+1,h1,sL,bW [some 0,some 1,some 2,some 3,some 4,some 5,some 7] sC (by refine sA ?_;(rw[hz,←Ug,uy,tH];rfl)) rfl rfl⟩
   ·have et:(x.ar.zip y.ar).take k=x.ar.zip y.ar:=ak (by simp;omega)
    rw[et]
    cases back
    ·rw[if_neg (by simp),hE] at hed
     simp -implicitDefEqProofs only[go_sem,h1,bO]
     refine dw ?_
     refine bM gE ?_ rfl rfl
     exact fA hed
    ·rw[if_pos rfl,hE] at hed
     simp -implicitDefEqProofs only[go_sem,h1,bO]
     refine⟨_,wQ.wF (nc 7 0 _ rfl (by simp) (show oJ _ 0=[T.eK (D.val (Value.int IntKind.i64 5)),T.eK (D.val (Value.int IntKind.i64 0)),T.eK (D.str x.name),T.eK (D.eP []),T.ref 6] from rfl)),?_⟩
     refine sA ?_
     refine bM gE ?_ rfl rfl
     refine sA ?_
     rw[hed]
     ((repeat' apply aq)<;>first|rfl|exact⟨_,(by simp only[List.set_cons_zero,bA,dJ,T.Ah,jy];try rfl),Pu _⟩)
 ·rw[if_neg h0] at hE
  cases back
  ·rw[if_neg (by simp),hE] at hed
   simp -implicitDefEqProofs only[go_sem,hi,h0,bO]
   refine iK ?_
   refine dw ?_
   refine bM gE ?_ rfl rfl
   exact fA hed
  ·rw[if_pos rfl,hE] at hed
   simp -implicitDefEqProofs only[go_sem,hi,h0,bO]
   refine iK ?_
   refine dw ?_
   refine bM gE ?_ rfl rfl
   refine sA ?_
   rw[hed]
   ((repeat' apply aq)<;>first|rfl|exact(Pu _).symm)
theorem Lx(dL:qu aj dx ao)(hk:mo aj)(rP:aj.length≤1000)(hk9:∀t∈aj,t.ar.length≤1000)(hs9:ao.length≤2000000):∀(f n a b:Nat),n<f→n≤ao.length→a<aj.length→b<aj.length→cl (bl aj.length ao n) a=cl (bl aj.length ao n) b →
 CP 168 [.bK 0 0,iv a,iv b,iv n] [some (.box [lv (ba aj),lv (eZ c),lv (b8 ao)])] (av (DX (uc aj ao f n a b))):=by
 intro f
 induction f with
 | zero=>intro n a b h;omega
 | succ f ih=>
 intro n a b hnf hn ha hb hab
 obtain⟨w1,w2,w3⟩:=za dL hn ha hb hab
 have cw:=ahX aj dx c ao dL rP hs9 n a b hn ha hb hab
 have ga:aj.getD a aX=aj[a]:=by rw[aE,ae ha];rfl
 obtain⟨way,hw⟩:∃w,oK aj.length ao n a b=w:=⟨_,rfl⟩
 have hF:=agG aj ao f n a b
 rw[hw] at hF w1 w3 cw
 have hwl:way.length≤1000:=by
  have h1:=tu w3 (fun v hv=>by
   simp only[lh,List.mem_cons,List.mem_map] at hv
   rcases hv with rfl|⟨e,he,rfl⟩
   ·exact ha
   ·exact JZ dL (by have:=w1 e he;omega))
  simp[lh] at h1;omega
 refine gS 50 [.cell 8 97] hm Tryz.func168 fun hl he cV=>?_
 refine oC [] [0] cw ?_
 rcases Nat.eq_zero_or_pos way.length with hz|hz
 ·obtain rfl:=List.length_eq_zero_iff.1 hz
  rw[abh] at hF
  simp -implicitDefEqProofs only[go_sem,ha]
  refine aC [] (iU aj[a]) ?_
  refine bM gE ?_ rfl rfl
  exact lJ hF ga
 ·have nI:¬ (way.length:Int)=0:=oM
  have hz':(0:Int)<(way.length:Int):=oM
  have gY:=w1 _ (ah hz)
  have hco:=wx aj dx c ao dL hk rP hk9 f ih way[0] oM oM
  have f1:(1:Int)≤(way.length:Int)∧∀y∈eG way,y.length=2:=⟨oM,Qk _⟩
  obtain⟨ss,hss⟩:∃ss,way.drop 1=ss:=⟨_,rfl⟩
  have hsl:List.take (way.length-1) (pC 1 (eG way))=eG ss:=by rw[←hss,ak (by simp[eG])];simp[eG]
  have hsn:ss.length=way.length-1:=by rw[←hss,List.length_drop]
  have hln:min (way.length-1) (pC 1 (eG way)).length=ss.length:=by rw[hsn];simp[eG]
  have jY:∀d∈ss,d.step<n:=fun d hd=>w1 d (by rw[←hss] at hd;exact List.mem_of_mem_drop hd)
  have hF2:=hF
  rw[Sz hz,hss] at hF2
  simp -implicitDefEqProofs only[go_sem,nI,hz]
  refine ff [] [0] hco ?_ ?_<;>simp -implicitDefEqProofs only[go_sem,Z3,Z4]
  refine pV hsl hln ?_
  refine Ag hm ss.length (fun(i:Nat) (w:o8)=>uc aj ao (f+1) n a b=xw (ri aj ao (uc aj ao f)) w (ss.drop i)) (fun i w=>⟨fk 50 .any [(0,.bK 0 0),(8,.bK 1 0),(10,.bK 2 0),(36,lv (eG ss)),(37,iv ss.length),(38,iv i)],[some (.box [lv (ba aj),lv (eZ c),lv (b8 ao)]),some (.box (fy (DX E1))),some (.box (fy (DX w)))]⟩) (ri aj ao (uc aj ao f) way[0]) ?_ (c9 sa) ?_
  ·exact⟨bT _,hF2⟩
  ·rintro i w ⟨hi,hg⟩
   rcases aa (i<ss.length) with h1|h1
   ·have hd:=jY _ (ah h1)
    have hco2:=wx aj dx c ao dL hk rP hk9 f ih ss[i] oM oM
    rw[ai h1,xw] at hg
    refine uA ?_
    refine oC [] [0] hco2 ?_
    refine bI ?_
    exact⟨i+1,.mk 4 0 aX [w,ri aj ao (uc aj ao f) ss[i]],⟨oM,hg⟩,sL,bW sa sC (by refine sA ?_;exact⟨rfl,rfl,rfl,rfl,(ZK _ _).symm⟩) rfl rfl⟩
   ·rw[al oM,xw] at hg
    refine bS h1 ?_
    refine bM gE ?_ rfl rfl
    exact fA hg
theorem xZ(dL:qu aj dx ao)(hk:mo aj)(rP:aj.length≤1000)(hk9:∀t∈aj,t.ar.length≤1000)(hs9:ao.length≤2000000)(x y:az)(hx:x∈aj)(hy:y∈aj)(hxy:cl (bl aj.length ao ao.length) (a8 aj x)=cl (bl aj.length ao ao.length) (a8 aj y)) :
 CP 114 [.bK 0 0,av (cT x),av (cT y)] [some (.box [lv (ba aj),lv (eZ c),lv (b8 ao)])] (av (DX (Mod.o9 aj ao x y))):=by
 have hc:=Lx aj dx c ao dL hk rP hk9 hs9 (ao.length+1) ao.length (a8 aj x) (a8 aj y) oM (aH _) (df hx) (df hy) hxy
 have ca:=HW aj c ao x
 have cb:=HW aj c ao y
 rw[fP hx] at ca
 rw[fP hy] at cb
 refine gS 20 [.cell 6 97] hm Tryz.func114 fun hl he cV=>?_
 refine CM [] [0] ca ?_
 refine CM [] [0] cb ?_
 refine xN [] [0] hc ?_
 refine bM gE ?_ rfl rfl
 exact qE
end
def ux(s:eV)(aI an:List az):List D:=[.eP (ij s.cq),.eP (ba aI),.eP (ba an)]
attribute [go_sem] ux
theorem Rt(s:eV)(aI an:List az)(dx:List lH)(h4:an.length≤4)(he9:dx.length≤1000):CP 107 [.bK 0 0,lv (lU dx)] [some (.box (fy (ux s aI an)))] (lv (eZ (nk an dx))):=by
 refine gS 82 [.tmp 4] hm Tryz.func107 fun hl he cV=>?_;refine sQ ?_;refine Ag hm an.length (fun(i:Nat) (c:List Nat)=>c.length=an.length∧c.take i=cK i) (fun i c=>⟨fk 82 .any [(0,.bK 0 0),(1,lv (lU dx)),(5,.aW 1),(22,iv an.length),(23,iv i)],[some (.box (fy (ux s aI an))),some (.aW 3 (eZ c))]⟩) (List.replicate an.length 0) ?_ (bW qR (by refine sA ?_;(simp[])) (by refine sA ?_;(simp[eZ])) rfl rfl) ?_;exact⟨bT _,by simp,rfl⟩;rintro i c ⟨hi,hc,ht⟩;rcases aa (i<an.length) with h1|h1;have h1':i<c.length:=oM;have hp:=Cl (l:=c) (i:=i) (n:=i) h1';rw[vn h1'] at hp;simp -implicitDefEqProofs only[go_sem,h1,h1'];refine sQ ?_;refine⟨i+1,c.set i i,?_,sL,bW qR sC (by refine sA ?_;exact hp) rfl rfl⟩;refine⟨oM,by simpa using hc,?_⟩;rw[List.range_succ,←ht,List.take_add_one,List.take_set_of_le (aH _)];simp[h1'];obtain rfl:i=an.length:=oM;have e:c=cK an.length:=by rw[←ht,ak oM]
 rw[e];refine bS h1 ?_;clear hi hc ht h1 e c;refine Ag hm dx.length (fun(n:Nat) (c:List Nat)=>c.length=an.length∧nk an dx=(dx.drop n).foldl (iJ an) c) (fun n c=>⟨fk 82 .any [(0,.bK 0 0),(5,.aW 1),(31,lv (lU dx)),(32,iv dx.length),(33,iv n)],[some (.box (fy (ux s aI an))),some (.aW 3 (eZ c))]⟩) (cK an.length) ?_ (c9 qR) ?_;exact⟨bT _,by simp,rfl⟩;rintro n c ⟨hn,hc,hg⟩;rcases aa (n<dx.length) with h1|h1;rw[ai h1,List.foldl_cons] at hg;rcases aa (dx[n].A∈an) with hA|hA;rcases aa (dx[n].B∈an) with hB|hB;have pA:=df hA;have pB:=df hB;have cA:=fP hA;have cB:=fP hB;have ca:=fX an dx[n].A;have cb:=fX an dx[n].B;rw[cA] at ca;rw[cB] at cb;have es:iJ an c dx[n]=c.map fun k=>if k=cl c (a8 an dx[n].A) then cl c (a8 an dx[n].B) else k:=by rw[iJ,if_neg oM]
 have fj:=EW an c dx[n];rw[es] at hg fj;generalize a8 an dx[n].A=a at *;generalize a8 an dx[n].B=b at *;have pA':a<c.length:=oM;have pB':b<c.length:=oM;have eA:c[a]=cl c a:=(nN pA').symm;have eB:c[b]=cl c b:=(nN pB').symm;have nA:¬ (a:Int)<0:=oM;have nB:¬ (b:Int)<0:=oM;obtain⟨f,hf⟩:∃f,cl c a=f:=⟨_,rfl⟩;obtain⟨t,ht⟩:∃t,cl c b=t:=⟨_,rfl⟩;rw[hf] at eA hg fj;rw[ht] at eB hg fj;have hend:∀i,c.length≤i→kH c f t i=c.map fun k=>if k=f then t else k:=fun i hi=>by unfold kH;rw[ak hi,al hi,List.append_nil]
 refine uA ?_;refine aC [] ca ?_;refine oL [] cb ?_;refine kY nA nB (aq pA' (aq pB' (aq eA eB))) ?_;refine jf hm c.length (fun i=>⟨fk 82 .any [(0,.bK 0 0),(5,.aW 1),(11,iv f),(12,iv t),(31,lv (lU dx)),(32,iv dx.length),(33,iv n),(65,.aW 1),(66,iv c.length),(67,iv i)],[some (.box (fy (ux s aI an))),some (.aW 3 (eZ (kH c f t i)))]⟩) (c9 qR) ?_;rintro i hi;have hjl:=yP c f t i;rcases aa (i<c.length) with h2|h2;have h2':i<(kH c f t i).length:=oM;have eg:=zg (f:=f) (t:=t) h2 h2';rcases aa (c[i]=f) with h3|h3;have k3:=eq_true h3;have hp:=Cl (l:=kH c f t i) (i:=i) (n:=t) h2';have hnx:=xi (f:=f) (t:=t) h2;rw[if_pos h3] at hnx;rw[vn h2',eg] at hp;refine kY hjl h2 (aq eg k3) ?_;exact⟨i+1,h2,sL,bW qR sC (by refine sA ?_;(rw[hp,hnx])) rfl rfl⟩;have hnx:=BC (f:=f) (t:=t) h2 h3;refine kY hjl h2 (aq eg h3) ?_;exact⟨i+1,h2,sL,c9 qR⟩;rw[hend i oM] at hjl⊢;refine dB h2 ?_;exact⟨n+1,(c.map fun k=>if k=f then t else k),⟨oM,by simpa using hc,hg⟩,sL,c9 qR⟩;have h3:dN an dx[n].B<0:=by have:=(not_congr gm).2 hB;omega
 have cA:=fP hA;have nA:¬dN an dx[n].A<0:=oM;have es:iJ an c dx[n]=c:=by rw[iJ,if_pos (.inr h3)]
 rw[es] at hg;refine uA ?_;refine aC [] (fX an dx[n].A) ?_;refine oL [] (fX an dx[n].B) ?_;refine pV nA h3 ?_;exact⟨n+1,c,⟨oM,hc,hg⟩,sL,c9 qR⟩;have h3:dN an dx[n].A<0:=by have:=(not_congr gm).2 hA;omega
 have es:iJ an c dx[n]=c:=by rw[iJ,if_pos (.inl h3)]
 rw[es] at hg;refine uA ?_;refine aC [] (fX an dx[n].A) ?_;refine oL [] (fX an dx[n].B) ?_;refine dB h3 ?_;exact⟨n+1,c,⟨oM,hc,hg⟩,sL,c9 qR⟩;rw[al oM,List.foldl_nil] at hg;refine bS h1 ?_;refine bM gE ?_ rfl rfl;exact fA hg
theorem Re(s:eV)(aI an:List az)(dx:List lH)(af:List cC)(hk:mo aI)(jY:∀e∈dx,e.A∈aI∧e.B∈aI)(rP:aI.length≤1000)(hk9:∀t∈aI,t.ar.length≤1000)(hlk:∀l∈af,l.aY.kind=1→l.aY.A∈aI∧l.aY.B∈aI) :
 CP 104 [.bK 0 0,lv (cO af),.bK 1 0] [some (.box (fy (ux s aI an))),some (.box [lv (ba aI),lv (eZ (closed aI dx).1),lv (b8 (closed aI dx).2)])] (.ko [av (Df (match qj (qq aI (closed aI dx).1) af with|none=>Bk|some n=>.mk 1 n (Mod.o9 aI (closed aI dx).2 (af.getD n Hc).aY.A (af.getD n Hc).aY.B) [] aX aX [])),bv (qj (qq aI (closed aI dx).1) af).isSome]):=by
 have hkept:=qF (aj:=aI) (dx:=dx) jY
 have hc:=Um hkept
 have hsl:(closed aI dx).2.length≤2000000:=by
  have h1:=DY hkept (closed aI dx).2.length (aH _);have h2:(cK aI.length).sum≤(cK aI.length).length*1000:=yq fun x hx=>by have:=List.mem_range.1 hx;omega
  have h3:(cK aI.length).length*1000≤1000*1000:=Nat.mul_le_mul_right _ (by simpa using rP);omega
 have hex:∀x y,x∈aI→y∈aI→lV aI (closed aI dx).1 x y=true→CP 114 [.bK 0 0,av (cT x),av (cT y)] [some (.box [lv (ba aI),lv (eZ (closed aI dx).1),lv (b8 (closed aI dx).2)])] (av (DX (Mod.o9 aI (closed aI dx).2 x y))):=fun x y hx hy hxy=>by refine xZ aI dx (closed aI dx).1 (closed aI dx).2 hkept.1 hk rP hk9 hsl x y hx hy ?_;rw[←hkept.2];simpa[lV] using hxy
 obtain⟨c,ec⟩:∃c,(closed aI dx).1=c:=⟨_,rfl⟩
 obtain⟨ao,es⟩:∃x,(closed aI dx).2=x:=⟨_,rfl⟩
 rw[ec] at hc hex⊢
 rw[es] at hex⊢
 obtain⟨R,hR⟩:∃R,qj (qq aI c) af=R:=⟨_,rfl⟩
 rw[hR]
 refine gS 60 [.cell 6 100,.tmp 7] hm Tryz.func104 fun hl he cV=>?_
 refine hJ hm (fun(i:Nat)=> i≤af.length∧R=AP (qq aI c) af i) (fun(i:Nat)=> ⟨fk 60 .any [(2,.bK 1 0),(6,.bK 2 0),(11,lv (cO af)),(12,iv af.length),(13,iv i)],[some (.box (fy (ux s aI an))),some (.box [lv (ba aI),lv (eZ c),lv (b8 ao)]),some (.box (fy (Df Bk)))]⟩) (fun(i:Nat)=> af.length-i) (0) ?_ (bW sa ?_ ?_ rfl rfl) ?_
 rotate_left
 ·exact sC
 ·refine sA ?_
  all_goals(((repeat' apply aq)<;>rfl))
 rotate_left
 ·exact⟨bT _,by rw[←hR];exact Wx _ _⟩
 ·rintro i ⟨hi,hg⟩
  rcases aa (i<af.length) with h1|h1
  ·rw[SD h1] at hg
   have hl:=hlk _ (ah h1)
   have ecl:qq aI c af[i]=(af[i].no&&(decide (af[i].aY.kind=1)&&lV aI c af[i].aY.A af[i].aY.B)):=rfl
   cases h2:af[i].no
   ·rw[ecl,h2,aZ,if_neg (by simp)] at hg
    refine uJ ?_
    refine iK ?_
    refine sQ ?_
    refine⟨i+1,?_,sL,bW sa ?_ ?_ rfl rfl⟩
    rotate_left
    ·exact sC
    ·exact sC
    exact⟨oM,hg⟩
   ·rcases aa (af[i].aY.kind=1) with h3|h3
    ·have k3:=eq_true h3
     obtain⟨hA,hB⟩:=hl h3
     have hgd:af.getD i Hc=af[i]:=ji h1
     rw[ecl,h2,decide_eq_true h3,aN,aN] at hg
     have pA:=df hA
     have pB:=df hB
     have pA':a8 aI af[i].aY.A<c.length:=oM
     have pB':a8 aI af[i].aY.B<c.length:=oM
     have eA:c[a8 aI af[i].aY.A]=cl c (a8 aI af[i].aY.A):=(nN pA').symm
     have eB:c[a8 aI af[i].aY.B]=cl c (a8 aI af[i].aY.B):=(nN pB').symm
     have ca:=HW aI c ao af[i].aY.A
     have cb:=HW aI c ao af[i].aY.B
     rw[fP hA] at ca
     rw[fP hB] at cb
     simp -implicitDefEqProofs only[go_sem,h1,h2,k3]
     refine ox [] [1] ca rfl ?_ ?_ ?_
     ·exact sV
     all_goals simp -implicitDefEqProofs only[go_sem,pA',eA]
     refine ox [] [1] cb rfl ?_ ?_ ?_
     ·exact sV
     all_goals simp -implicitDefEqProofs only[go_sem,pB',eB]
     refine iK ?_
     rcases aa (cl c (a8 aI af[i].aY.A)=cl c (a8 aI af[i].aY.B)) with h4|h4
     ·have hsm:lV aI c af[i].aY.A af[i].aY.B=true:=decide_eq_true h4
      have k4:=eq_true h4
      have hx:=hex _ _ hA hB hsm
      rw[hsm,if_pos rfl] at hg
      simp -implicitDefEqProofs only[go_sem,k4]
      refine oC [] [1] hx ?_
      refine bM qR ?_ rfl rfl
      refine sA ?_
      rw[hg]
      simp only[hgd]
      ((repeat' apply aq)<;>rfl)
     ·have hsm:lV aI c af[i].aY.A af[i].aY.B=false:=decide_eq_false h4
      rw[hsm,if_neg (by simp)] at hg
      refine uD ?_
      refine sQ ?_
      refine⟨i+1,?_,sL,bW sa ?_ ?_ rfl rfl⟩
      rotate_left
      ·exact sC
      ·exact sC
      exact⟨oM,hg⟩
    ·rw[ecl,h2,decide_eq_false h3,aN,aZ,if_neg (by simp)] at hg
     simp -implicitDefEqProofs only[go_sem,h1,h2,h3]
     refine iK ?_
     refine sQ ?_
     exact⟨i+1,⟨oM,hg⟩,sL,c9 sa⟩
  ·rw[U9 oM] at hg
   refine bS h1 ?_
   refine bM qR ?_ rfl rfl
   exact fA hg
theorem JI(f:Nat)(cap:List PV)(jX:wB 0 cap=true)(p:cC→Bool)(xs:List cC)(hf:∀x∈xs,C E.P f (av (Af x)::cap) [] (gR (bv (p x)) [])) :
 CN 210 [lv (cO xs),.fn f cap] (iv (idxOf p xs)):=by
 refine gS 19 [.tmp 4] hm Tryz.func210 fun hl he cV=>?_
 refine lZ hm xs.length (fun(i:Nat)=>idxOf p xs=eM p (xs.drop i) i) (fun i=>⟨fk 19 .any [(0,lv (cO xs)),(1,.fn f cap),(7,iv xs.length),(8,iv i)],[]⟩) ?_ (c9 []) ?_
 ·simp[idxOf]
 ·rintro i ⟨hi,hg⟩
  rcases aa (i<xs.length) with h1|h1
  ·rw[ai h1,eM] at hg
   refine uA ?_
   have hc:=hf xs[i] (ah h1)
   refine eh cap hc ?_ ?_<;>simp -implicitDefEqProofs only[go_sem,jX]
   cases h2:p xs[i]
   ·rw[h2] at hg
    simp only[Bool.false_eq_true,if_false] at hg
    refine sA ?_
    refine⟨oM,?_⟩
    exact⟨i+1,⟨oM,hg⟩,sL,c9 []⟩
   ·rw[h2] at hg
    simp only[if_true] at hg
    exact fA hg
  ·rw[al oM,eM] at hg
   exact lJ h1 hg
theorem Ei(f:Nat)(cap:List PV)(jX:wB 0 cap=true)(p:cC→Bool)(xs:List cC)(hf:∀x∈xs,C E.P f (av (Af x)::cap) [] (gR (bv (p x)) [])) :
 CN 170 [lv (cO xs),.fn f cap] (bv (xs.any p)):=by
 refine gS 9 [.tmp 4] hm Tryz.func170 fun hl he cV=>?_
 refine eh [] (JI f cap jX p xs hf) ?_ ?_<;>simp -implicitDefEqProofs only[go_sem,jX]
 refine bI ?_
 simp[BV]
theorem Ih{aI an:List az}{c:List Nat}{af:List cC}{i k:Nat}:kR true aI an c af i k=(!Mod.iH an af i k&&lV aI c (an.getD i aX) (an.getD k aX)):=rfl
theorem Qy{aI an:List az}{c:List Nat}{af:List cC}{i k:Nat}:kR false aI an c af i k=(!Mod.iH an af i k&&(!jr an af i k&& !jr an af k i)):=rfl
theorem Zb(l less:cC):CN 171 [av (Af l),.gQ [Af less] 0 0] (bv (!l.no&&decide (l.aY=less.aY))):=by have hco:=tY l.aY less.aY;refine gS 14 [.tmp 3] hm Tryz.func171 fun hl he cV=>?_;cases h:l.no;refine sA ?_;refine aC [] hco ?_;exact qE;exact qE
theorem T6(s:eV)(aI an:List az)(af:List cC)(i k:Nat)(hi:i<an.length)(hk:k<an.length)(hnt:∀t∈an,bR t=true):CN 116 [.gQ [ux s aI an] 0 0,lv (cO af),iv i,iv k] (bv (jr an af i k)):=by
 have ga:an.getD i aX=an[i]:=kN hi;have gb:an.getD k aX=an[k]:=kN hk;have hls:=wo an[i] an[k] (hnt _ (ah hi)) (hnt _ (ah hk));have gY:jr an af i k=af.any fun l=>!l.no&&decide (l.aY=(gC an[i] an[k]).aY):=by rw[←ga,←gb];rfl
 rw[gY];generalize gC an[i] an[k]=less at hls;refine gS 28 [.tmp 8] hm Tryz.func116 fun hl he cV=>?_;simp -implicitDefEqProofs only[go_sem,hi,hk];refine aC [] hls ?_;refine bI ?_;refine CM [] [0] (Ei 171 [.gQ [Af less] 0 0] rfl (fun l=>!l.no&&decide (l.aY=less.aY)) af (fun l _=>Zb l less)) ?_;exact qE
section
variable(s:eV)(aI an:List az)(c ls:List Nat)(ao:List Step)(af:List cC)
theorem aiD(i k:Nat)(hi:i<an.length)(hk:k<an.length)(vi:∀t∈an,t∈aI)(hc:c.length=aI.length):CP 108 [iv i,iv k,.bK 0 0,.bK 1 0] [some (.box [.bK 2 0]),some (.box [.bK 3 0]),some (.box [lv (ba aI),lv (eZ c),lv (b8 ao)]),some (.box (fy (ux s aI an)))] (bv (lV aI c an[i] an[k])):=by have hA:=vi _ (ah hi);have hB:=vi _ (ah hk);have pA:=df hA;have pB:=df hB;have pA':a8 aI an[i]<c.length:=oM;have pB':a8 aI an[k]<c.length:=oM;have eA:c[a8 aI an[i]]=cl c (a8 aI an[i]):=(nN pA').symm;have eB:c[a8 aI an[k]]=cl c (a8 aI an[k]):=(nN pB').symm;have ca:=HW aI c ao an[i];have cb:=HW aI c ao an[k];rw[fP hA] at ca;rw[fP hB] at cb;refine gS 38 [.tmp 6] hm Tryz.func108 fun hl he cV=>?_;simp -implicitDefEqProofs only[go_sem,hi];refine CM [] [2] ca ?_;simp -implicitDefEqProofs only[go_sem,pA',eA,hk];refine CM [] [2] cb ?_;refine lf pB' eB ?_;refine iK ?_;refine bM Aj ?_ rfl rfl;exact qE
theorem aiA(i k:Nat)(hi:i<an.length)(hk:k<an.length)(vi:∀t∈an,t∈aI)(hc:c.length=aI.length)(hll:ls.length=an.length):CP 111 [iv i,iv k,.bK 0 0,.bK 1 0] [some (.box [lv (eZ ls)]),some (.box [.fn 108 [.bK 2 0,.bK 3 0]]),some (.box [.bK 4 0]),some (.box [.bK 5 0]),some (.box [lv (ba aI),lv (eZ c),lv (b8 ao)]),some (.box (fy (ux s aI an)))] (bv (!decide (cl ls i=cl ls k)&&lV aI c an[i] an[k])):=by
 have hi':i<ls.length:=oM;have hk':k<ls.length:=oM;have ei:ls[i]=cl ls i:=(nN hi').symm;have ek:ls[k]=cl ls k:=(nN hk').symm;have hco:=aiD s aI an c ao i k hi hk vi hc;refine gS 22 [.tmp 6] hm Tryz.func111 fun hl he cV=>?_;rcases aa (cl ls i=cl ls k) with h|h
 ·have kk:=eq_true h;refine kY hi' hk' (aq ei (aq ek kk)) ?_;refine bM im6 ?_ rfl rfl;simp -implicitDefEqProofs only[go_sem];all_goals rw[decide_eq_true h]
  all_goals((repeat' apply aq)<;>rfl)
 refine xE hi' hk' (aq ei (aq ek h)) ?_;refine ff [.bK 2 0,.bK 3 0] [2,3,4,5] hco ?_ ?_
 ·refine sA ?_;first|rfl|((repeat' apply aq)<;>rfl)
 refine bI ?_;refine bM im6 ?_ rfl rfl;simp -implicitDefEqProofs only[go_sem];all_goals rw[decide_eq_false h]
 all_goals((repeat' apply aq)<;>rfl)
theorem aht(i k:Nat)(hi:i<an.length)(hk:k<an.length)(hnt:∀t∈an,bR t=true)(hll:ls.length=an.length):CP 115 [iv i,iv k,.bK 0 0,.bK 1 0,.bK 2 0] [some (.box [lv (eZ ls)]),some (.box [.bK 3 0]),some (.box [lv (cO af)]),some (.box (fy (ux s aI an)))] (bv (!decide (cl ls i=cl ls k)&&(!jr an af i k&& !jr an af k i))):=by
 have hi':i<ls.length:=oM;have hk':k<ls.length:=oM;have ei:ls[i]=cl ls i:=(nN hi').symm;have ek:ls[k]=cl ls k:=(nN hk').symm;have c1:=T6 s aI an af i k hi hk hnt;have c2:=T6 s aI an af k i hk hi hnt;refine gS 33 [.tmp 7] hm Tryz.func115 fun hl he cV=>?_;rcases aa (cl ls i=cl ls k) with h|h
 ·have kk:=eq_true h;refine kY hi' hk' (aq ei (aq ek kk)) ?_;refine bM Aj ?_ rfl rfl;simp -implicitDefEqProofs only[go_sem];all_goals rw[decide_eq_true h]
  all_goals((repeat' apply aq)<;>rfl)
 refine xE hi' hk' (aq ei (aq ek h)) ?_;refine CM [] [3] c1 ?_;cases h2:jr an af i k
 ·refine sA ?_;refine CM [] [3] c2 ?_;refine iK ?_;refine bM Aj ?_ rfl rfl;simp -implicitDefEqProofs only[go_sem];all_goals rw[decide_eq_false h]
  all_goals((repeat' apply aq)<;>rfl)
 refine bI ?_;refine bM Aj ?_ rfl rfl;simp -implicitDefEqProofs only[go_sem];all_goals rw[decide_eq_false h]
 all_goals((repeat' apply aq)<;>rfl)
theorem abz(vi:∀t∈an,t∈aI)(hc:c.length=aI.length)(h4:an.length≤4):CP 110 [.bK 5 0,.fn 111 [.bK 0 0,.bK 1 0]] [some (.box [lv (eZ (nk an (cG af)))]),some (.box [.fn 108 [.bK 2 0,.bK 3 0]]),some (.box [.bK 4 0]),some (.box [.bK 5 0]),some (.box [lv (ba aI),lv (eZ c),lv (b8 ao)]),some (.box (fy (ux s aI an)))] (.ko [iv (((eW an.length (kR true aI an c af)).getD (0,0)).1:Nat),iv (((eW an.length (kR true aI an c af)).getD (0,0)).2:Nat),bv (eW an.length (kR true aI an c af)).isSome]):=by
 have hll:(nk an (cG af)).length=an.length:=vo _ _;obtain⟨fp,hfp⟩:∃f,eW an.length (kR true aI an c af)=f:=⟨_,rfl⟩;rw[hfp];refine gS 35 [.tmp 4,.tmp 5,.tmp 6] hm Tryz.func110 fun hl he cV=>?_;refine lZ hm an.length (fun(i:Nat)=>fp=(fH i an.length).find? (fun q=>kR true aI an c af q.1 q.2)) (fun i=>⟨fk 35 .any [(0,.bK 5 0),(1,.fn 111 [.bK 0 0,.bK 1 0]),(13,iv an.length),(14,iv i)],[some (.box [lv (eZ (nk an (cG af)))]),some (.box [.fn 108 [.bK 2 0,.bK 3 0]]),some (.box [.bK 4 0]),some (.box [.bK 5 0]),some (.box [lv (ba aI),lv (eZ c),lv (b8 ao)]),some (.box (fy (ux s aI an)))]⟩) ?_ (c9 im6) ?_;exact⟨bT _,hfp.symm⟩;rintro i ⟨hi,hg⟩;rcases aa (i<an.length) with h1|h1
 ·rw[Aa h1] at hg;refine dB h1 ?_;refine hJ hm (fun(k:Nat)=> i<k∧k≤an.length∧fp=(qH i k an.length).find? (fun q=>kR true aI an c af q.1 q.2)) (fun k=> ⟨fk 35 .any [(0,.bK 5 0),(1,.fn 111 [.bK 0 0,.bK 1 0]),(7,iv i),(8,iv k),(13,iv an.length),(14,iv i)],[some (.box [lv (eZ (nk an (cG af)))]),some (.box [.fn 108 [.bK 2 0,.bK 3 0]]),some (.box [.bK 4 0]),some (.box [.bK 5 0]),some (.box [lv (ba aI),lv (eZ c),lv (b8 ao)]),some (.box (fy (ux s aI an)))]⟩) (fun k=> an.length-k) (i+1) ?_ (c9 im6) ?_;exact⟨oM,oM,hg⟩;rintro k ⟨hik,hk,hg⟩;rcases aa (k<an.length) with h2|h2
  ·have hco:=aiA s aI an c (nk an (cG af)) ao i k h1 h2 vi hc hll;have ga:an.getD i aX=an[i]:=kN h1;have gb:an.getD k aX=an[k]:=kN h2;have eo:kR true aI an c af i k=(!decide (cl (nk an (cG af)) i=cl (nk an (cG af)) k)&&lV aI c an[i] an[k]):=(by rw[Ih,ga,gb];rfl);obtain⟨bb,hbb⟩:∃b,(!decide (cl (nk an (cG af)) i=cl (nk an (cG af)) k)&&lV aI c an[i] an[k])=b:=⟨_,rfl⟩;rw[hbb] at eo hco;rw[AX h2,iX] at hg;simp only[eo] at hg;refine bS h2 ?_;refine ff [.bK 0 0,.bK 1 0] [0,1,2,3,4,5] hco ?_ ?_
   ·refine sA ?_;first|rfl|((repeat' apply aq)<;>rfl)
   refine sA ?_;cases h3:bb;rw[h3] at hg;refine bI ?_;exact⟨k+1,⟨oM,oM,hg⟩,sL,c9 im6⟩;rw[h3] at hg;simp only at hg;refine sA ?_;refine bM im6 ?_ rfl rfl;exact fA hg
  rw[Db oM] at hg;refine dB h2 ?_;exact⟨i+1,⟨oM,hg⟩,sL,c9 im6⟩
 rw[Bq oM,List.find?_nil] at hg;refine bS h1 ?_;refine bM im6 ?_ rfl rfl;exact fA hg
theorem acB(hnt:∀t∈an,bR t=true)(h4:an.length≤4):CP 110 [.bK 3 0,.fn 115 [.bK 0 0,.bK 1 0,.bK 2 0]] [some (.box [lv (eZ (nk an (cG af)))]),some (.box [.bK 3 0]),some (.box [lv (cO af)]),some (.box (fy (ux s aI an)))] (.ko [iv (((eW an.length (kR false aI an c af)).getD (0,0)).1:Nat),iv (((eW an.length (kR false aI an c af)).getD (0,0)).2:Nat),bv (eW an.length (kR false aI an c af)).isSome]):=by
 have hll:(nk an (cG af)).length=an.length:=vo _ _;obtain⟨fp,hfp⟩:∃f,eW an.length (kR false aI an c af)=f:=⟨_,rfl⟩;rw[hfp];refine gS 35 [.tmp 4,.tmp 5,.tmp 6] hm Tryz.func110 fun hl he cV=>?_;refine lZ hm an.length (fun(i:Nat)=>fp=(fH i an.length).find? (fun q=>kR false aI an c af q.1 q.2)) (fun i=>⟨fk 35 .any [(0,.bK 3 0),(1,.fn 115 [.bK 0 0,.bK 1 0,.bK 2 0]),(13,iv an.length),(14,iv i)],[some (.box [lv (eZ (nk an (cG af)))]),some (.box [.bK 3 0]),some (.box [lv (cO af)]),some (.box (fy (ux s aI an)))]⟩) ?_ (c9 Aj) ?_;exact⟨bT _,hfp.symm⟩;rintro i ⟨hi,hg⟩;rcases aa (i<an.length) with h1|h1
 ·rw[Aa h1] at hg;refine dB h1 ?_;refine hJ hm (fun(k:Nat)=> i<k∧k≤an.length∧fp=(qH i k an.length).find? (fun q=>kR false aI an c af q.1 q.2)) (fun k=> ⟨fk 35 .any [(0,.bK 3 0),(1,.fn 115 [.bK 0 0,.bK 1 0,.bK 2 0]),(7,iv i),(8,iv k),(13,iv an.length),(14,iv i)],[some (.box [lv (eZ (nk an (cG af)))]),some (.box [.bK 3 0]),some (.box [lv (cO af)]),some (.box (fy (ux s aI an)))]⟩) (fun k=> an.length-k) (i+1) ?_ (c9 Aj) ?_;exact⟨oM,oM,hg⟩;rintro k ⟨hik,hk,hg⟩;rcases aa (k<an.length) with h2|h2
  ·have hco:=aht s aI an (nk an (cG af)) af i k h1 h2 hnt hll;have ga:an.getD i aX=an[i]:=kN h1;have gb:an.getD k aX=an[k]:=kN h2;have eo:kR false aI an c af i k=(!decide (cl (nk an (cG af)) i=cl (nk an (cG af)) k)&&(!jr an af i k&& !jr an af k i)):=(by rw[Qy];rfl);obtain⟨bb,hbb⟩:∃b,(!decide (cl (nk an (cG af)) i=cl (nk an (cG af)) k)&&(!jr an af i k&& !jr an af k i))=b:=⟨_,rfl⟩;rw[hbb] at eo hco;rw[AX h2,iX] at hg;simp only[eo] at hg;refine bS h2 ?_;refine ff [.bK 0 0,.bK 1 0,.bK 2 0] [0,1,2,3] hco ?_ ?_
   ·refine sA ?_;first|rfl|((repeat' apply aq)<;>rfl)
   refine sA ?_;cases h3:bb;rw[h3] at hg;refine bI ?_;exact⟨k+1,⟨oM,oM,hg⟩,sL,c9 Aj⟩;rw[h3] at hg;simp only at hg;refine sA ?_;refine bM Aj ?_ rfl rfl;exact fA hg
  rw[Db oM] at hg;refine dB h2 ?_;exact⟨i+1,⟨oM,hg⟩,sL,c9 Aj⟩
 rw[Bq oM,List.find?_nil] at hg;refine bS h1 ?_;refine bM Aj ?_ rfl rfl;exact fA hg
end
end Go.Proofs.YtnhdminpjihbnaaGreat
