/-
  Searches that can find nothing: what they decide is an atom each time. In plain Lean, no program is walked here.
-/
import Derived.Test.YtnhdminpjihbnaaGreatKAEc
set_option linter.unusedVariables false
set_option linter.unusedSimpArgs false
open Bool renaming and_eq_true→ab,false_eq_true→aw
open Classical renaming em→aa
open Decidable renaming byContradiction→pD
open List renaming getElem_mem→ah,mem_append→aM,all_eq_true→bh,mem_singleton→bx,contains_iff_mem→cJ,mem_filter→cX,mem_append_left→dH,any_eq_true→gG
namespace Go.Mod
open Go.Eng
set_option maxRecDepth 100000
theorem aa8{au:List (List Int)}{put:List Int}(h:oi put)(hl:∀x∈au,∀l∈x,l≠0∧l.natAbs≤60)(hn:(scan put au).1≠0):oi (put++[(scan put au).1]):=by obtain⟨c,hc,h1,h2,h3⟩:=KB hn;have:=hl c hc _ h1;exact yd h this.1 this.2 h2 h3
theorem LO{au:List (List Int)}(hl:∀x∈au,∀l∈x,l≠0∧l.natAbs≤60):∀(n:Nat)(put:List Int),oi put→61≤n+put.length →
 oi (rC au n put).1∧(∀x∈put,x∈(rC au n put).1)∧((rC au n put).2=false→scan (rC au n put).1 au=(0,false))
 | 0,put,hp,hn=>by have:=uR hp;omega
 | n+1,put,hp,hn=>by rw[rC];cases h1:(scan put au).2;simp only[aw,if_false];rcases aa ((scan put au).1=0) with h2|h2;rw[if_pos h2];exact⟨hp,fun x hx=>hx,fun _=>Prod.ext h2 h1⟩;rw[if_neg h2];have ih:=LO hl n (put++[(scan put au).1]) (aa8 hp hl h2) (by simp;omega);exact⟨ih.1,fun x hx=>ih.2.1 x (dH _ hx),ih.2.2⟩;simp only[if_true];exact⟨hp,fun x hx=>hx,fun h=>by cases h⟩
theorem LA{au:List (List Int)}(hl:∀x∈au,∀l∈x,l≠0∧l.natAbs≤60){put:List Int}(hp:oi put) :
 oi (fQ au put).1∧(∀x∈put,x∈(fQ au put).1)∧((fQ au put).2=false→scan (fQ au put).1 au=(0,false)):=
 LO hl _ put hp oM
theorem Hw{put:List Int}:∀{au:List (List Int)},scan put au=(0,false)→∀x∈au,unit put x=(0,false)
 | [],_,x,hx=>by simp at hx
 | c::cs,h,x,hx=>by simp only[scan] at h;split at h;cases h;rename_i h1;split at h;rename_i h2;rcases List.mem_cons.1 hx with rfl|hx;exact Prod.ext h2 (by simpa using h1);exact Hw h x hx;rename_i h2;exact absurd (congrArg Prod.fst h) h2
theorem aaI{put x:List Int}(h:unit put x=(0,false))(h0:∀l∈x,l≠0):(∃l∈x,l∈put)∨∃a b rest,x.filter (fun l=>!put.contains (-l))=a::b::rest∧∀l∈x,l∉put:=by
 unfold unit at h;split at h;rename_i ha;obtain⟨l,h1,h2⟩:=gG.1 ha;exact .inl ⟨l,h1,cJ.1 h2⟩;rename_i ha;split at h;cases h;rename_i l hl;have hm:l∈x.filter (fun l=>!put.contains (-l)):=by rw[hl];simp
 exact absurd (congrArg Prod.fst h) (h0 l (cX.1 hm).1);rename_i h1 h2
 match hf:x.filter (fun l=>!put.contains (-l)),h1,h2 with
 | [],h1,_=>exact absurd rfl h1
 | [l],_,h2=>exact absurd rfl (h2 l)
 | a::b::rest,_,_=>exact .inr ⟨a,b,rest,rfl,fun l hl hp=>ha (gG.2 ⟨l,hl,cJ.2 hp⟩)⟩
def NH(put:List Int)(f:Int)(b:Bool)(i:Int):Bool:=if i=f then b else put.contains i
theorem aaX{put:List Int}(hp:oi put){f:Int}{b:Bool}(h1:f∉put)(h2:-f∉put){l:Int}(hl:l∈put):iy (NH put f b) l=true:=by have hf:=adw hp l hl;unfold iy NH;split;rw[if_neg (fun e:l=f=>h1 (e▸hl))];exact cJ.2 hl;rw[if_neg (fun e:-l=f=>h2 (by rw[←e];simpa using hl))];cases hh:put.contains (-l);rfl;exact absurd (cJ.1 hh) hf
def Told(put:List Int)(x:Int):Prop:=x∈put ∨ -x∈put
theorem aca{put:List Int}{l:Int}(h:Told put (l.natAbs:Int)):l∈put ∨ -l∈put:=by unfold Told at h;rcases Int.natAbs_eq l with e|e;rw[←e] at h;exact h;have e2:(l.natAbs:Int) = -l:=oM;rw[e2] at h;rcases h with h|h;exact .inr h;exact .inl (by simpa using h)
theorem Nd{put:List Int}(hp:oi put){f:Int}(h1:f∉put)(h2:-f∉put){x:List Int}(hx:YB x)(h0:∀l∈x,l≠0)(ht:∀l∈x,Told put (l.natAbs:Int)∨(l.natAbs:Int)=f)(hu:unit put x=(0,false))(b:Bool):lu (NH put f b) x=true:=by
 rcases aaI hu h0 with⟨l,hl,hm⟩|⟨p,q,rest,hf,hno⟩;exact gG.2 ⟨l,hl,aaX hp h1 h2 hm⟩;exfalso;have jY:∀l∈x.filter (fun l=>!put.contains (-l)),(l.natAbs:Int)=f:=fun l hl=>by obtain⟨m1,m2⟩:=cX.1 hl;rcases ht l m1 with h|h;rcases aca h with h|h;exact absurd h (hno l m1);rw[cJ.2 h] at m2;cases m2;exact h
 have hs:(x.filter (fun l=>!put.contains (-l))).Pairwise fun a b=>a.natAbs<b.natAbs:=hx.filter _;have e1:=jY p (by rw[hf];simp);have e2:=jY q (by rw[hf];simp);rw[hf] at hs;have:=(List.pairwise_cons.1 hs).1 q (by simp);omega
def Ar(atoms:List bz)(c:gI)(f:Int):Prop:=∃(c':gI)(t:aU),(∀x∈c'.au,x∈c.au)∧(∀x∈c'.au,Good f x)∧∀v:Int→Bool,pb v c'=true→v f=holds (fun a=>v (dk atoms a+1)) t
theorem Ar.up{atoms:List bz}{c d:gI}{f:Int}(h:Ar atoms c f)(hs:∀x∈c.au,x∈d.au):Ar atoms d f:=by obtain⟨c',t,h1,h2,h3⟩:=h;exact⟨c',t,fun x hx=>hs x (h1 x hx),h2,h3⟩
theorem lj{c:gI}{l x:List Int}(h:x∈c.au):x∈(fF c l).au:=by unfold fF;split;exact h;exact dH _ h
theorem Zv{k v a b:Int}{c:gI}{x:List Int}(h:x∈c.au):x∈(pM k c v a b).au:=by unfold pM XI M6;split;exact lj (lj (lj h));split;exact lj (lj (lj h));split;exact lj (lj (lj h));exact lj (lj (lj (lj h)))
theorem TP:∀(t:aU)(d:Nat)(atoms:List bz)(c:gI),bH t d=true→inside atoms t→(atoms.length:Int)≤c.aP→c.aP+dY t d≤60→(∀x∈c.au,Good c.aP x)→(∀f:Int,atoms.length<f→f≤c.aP→Ar atoms c f) →
 ∀f:Int,atoms.length<f→f≤(cF atoms t c).1.aP→Ar atoms (cF atoms t c).1 f:=by
 refine aU.ind fun k l ks ih d atoms c hsh jY hc hb hg gY=>?_
 generalize ht:aU.mk k l ks=t at *
 have hkids:t.ar=ks:=by rw[←ht];rfl
 rw[←hkids] at ih
 cases d with
 | zero=>rw[←ht] at hsh;simp[bH] at hsh
 | succ d=>
 have hk:=fY hsh
 have hmany:dY t (d+1)=1+dp t.ar d:=by rw[←ht];rfl
 rcases sR hk.1 with⟨k1,hl0⟩|⟨k2,hl1⟩|⟨k3,hl2⟩
 ·rw[Cj k1];exact gY
 ·have h0:0<t.ar.length:=oM
  have hk0:=ah h0
  have e1:dp t.ar d=dY t.ar[0] d:=by obtain⟨u,hu⟩:=List.length_eq_one_iff.1 hl1;simp[hu,dp]
  rw[Cb k2 hl1]
  exact ih t.ar[0] hk0 d atoms c (dF hk.2.2 _ hk0) (gH jY oM _ hk0) hc oM hg gY
 ·have n1:t.kind≠1:=oM
  have n2:t.kind≠2:=oM
  have h0:0<t.ar.length:=oM
  have h1:1<t.ar.length:=oM
  have hk0:=ah h0
  have hs0:=dF hk.2.2 _ hk0
  have hi0:=gH jY n1 _ hk0
  have hk1:=ah h1
  have hs1:=dF hk.2.2 _ hk1
  have hi1:=gH jY n1 _ hk1
  have e1:dp t.ar d=dY t.ar[0] d+dY t.ar[1] d:=by
   have key:∀ks:List aU,(hl:ks.length=2)→dp ks d=dY ks[0] d+dY ks[1] d:=by
    intro ks hl
    match ks,hl with
    | [u,u'],_=>simp[dp]
   exact key _ hl2
  have g0:=ja t.ar[0] d atoms c hs0
  have q0:=kZ t.ar[0] d atoms c hs0 hi0 hc oM
  have r0:=Ep t.ar[0] d atoms c hs0 hi0 hc hg
  have i0:=ih t.ar[0] hk0 d atoms c hs0 hi0 hc oM hg gY
  have g1:=ja t.ar[1] d atoms (cF atoms t.ar[0] c).1 hs1
  have i1:=ih t.ar[1] hk1 d atoms (cF atoms t.ar[0] c).1 hs1 hi1 oM oM r0 i0
  have gT:=Ep t (d+1) atoms c hsh jY hc hg
  have tT:=fun v=>X0 v t (d+1) atoms c hsh jY hc hb
  have e:=Ca (atoms:=atoms) (c:=c) n1 n2 hl2
  intro f hf hfm
  rcases aa (f≤(cF atoms t.ar[1] (cF atoms t.ar[0] c).1).1.aP) with hlast|hlast
  ·rw[e]
   exact(i1 f hf hlast).up fun x hx=>Zv hx
  ·have e2:(cF atoms t c).1.aP=(cF atoms t.ar[1] (cF atoms t.ar[0] c).1).1.aP+1:=by rw[e];simp only[vL]
   have e3:(cF atoms t c).2=(cF atoms t.ar[1] (cF atoms t.ar[0] c).1).1.aP+1:=by rw[e]
   have ef:f=(cF atoms t c).1.aP:=oM
   refine⟨(cF atoms t c).1,t,fun x hx=>hx,by rw[ef];exact gT,fun v hv=>?_⟩
   obtain⟨_,t2,t3⟩:=tT v
   rw[t2,ab] at hv
   have:=t3 hv.2
   rw[e3,←e2,←ef,yo oM] at this
   exact this
theorem Ig(atoms:List bz):∀(fs:List aU)(c:gI),(∀f∈fs,jq f=true∧inside atoms f)→(atoms.length:Int)≤c.aP→c.aP+10*fs.length≤60→(∀x∈c.au,Good c.aP x)→(∀f:Int,atoms.length<f→f≤c.aP→Ar atoms c f) →
 ∀f:Int,atoms.length<f→f≤(rU atoms fs c).aP→Ar atoms (rU atoms fs c) f
 | [],c,_,_,_,_,gY=>gY
 | t::fs,c,hf,hc,hb,hg,gY=>by
  obtain⟨f1,f2⟩:=hf t (by simp);have hs:=nT f1;simp only[List.length_cons] at hb;have g:=ja t 5 atoms c hs.1;have q:=kZ t 5 atoms c hs.1 f2 hc oM;have r:=Ep t 5 atoms c hs.1 f2 hc hg;have st:=TP t 5 atoms c hs.1 f2 hc oM hg gY;simp only[rU];refine Ig atoms fs (fF (cF atoms t c).1 [(cF atoms t c).2]) (fun x hx=>hf x (by simp[hx])) (by rw[mr];omega) (by rw[mr];omega) (by
   rw[mr]
   exact qJ r fun x hx=>by simp only[bx] at hx;omega) fun f h1 h2=>?_
  rw[mr] at h2;exact(st f h1 h2).up fun x hx=>lj hx
theorem Ip{au:List aU}{atoms:List bz}(h:cR au=some atoms):∀f:Int,atoms.length<f→f≤(gU au).aP→Ar atoms (gU au) f:=by obtain⟨p1,p2,p3,p4⟩:=fZ h;rw[zM h];exact Ig atoms au ⟨atoms.length,[]⟩ (fun f hf=>⟨p2 f hf,by rw[p4];exact pf hf⟩) (Int.le_refl _) (by simp only;omega) (by simp) (fun f h1 h2=>by simp only at h2;omega)
def iM(put:List Int):Nat→Int→Int
 | 0,f=>f
 | v+1,f=>iM put v (if put.contains ((v:Int)+1) then f else if put.contains (-((v:Int)+1)) then f else(v:Int)+1)
theorem Bj{put:List Int}:∀(n:Nat)(f:Int),(iM put n f=f∧∀x:Int,1≤x→x≤n→Told put x)∨(1≤iM put n f∧iM put n f≤n∧¬Told put (iM put n f)∧∀x:Int,1≤x→x<iM put n f→Told put x)
 | 0,f=>.inl ⟨rfl,fun x h1 h2=>by simp at h2;omega⟩
 | n+1,f=>by
  rw[iM];have ih:=Bj (put:=put) n (if put.contains ((n:Int)+1) then f else if put.contains (-((n:Int)+1)) then f else(n:Int)+1);have up:Told put ((n:Int)+1)→(∀x:Int,1≤x→x≤n→Told put x)→∀x:Int,1≤x→x≤((n+1:Nat):Int)→Told put x:=fun h0 h x h1 h2=>by rcases aa (x=(n:Int)+1) with e|e;rw[e];exact h0;exact h x h1 oM
  rcases ih with⟨e,h⟩|⟨h1,h2,h3,h4⟩;rw[e];cases c1:put.contains ((n:Int)+1);cases c2:put.contains (-((n:Int)+1));simp only[aw,if_false];refine .inr ⟨oM,oM,?_,fun x g1 g2=>h x g1 oM⟩;rintro(g|g);rw[cJ.2 g] at c1;cases c1;rw[cJ.2 g] at c2;cases c2;simp only[aw,if_false,if_true];exact .inl ⟨trivial,up (.inr (cJ.1 c2)) h⟩;simp only[if_true];exact .inl ⟨trivial,up (.inl (cJ.1 c1)) h⟩;exact .inr ⟨h1,oM,h3,h4⟩
structure Un(n:Nat)(c:gI):Prop where
 six:n≤6
 aP:0≤c.aP∧c.aP≤60
 ok:qP c=true
 len:c.au.length≤400
 clause:∀x∈c.au,(∀l∈x,l≠0∧l.natAbs≤60)∧x.length≤1000
 key:∀put:List Int,oi put→scan put c.au=(0,false)→∃f:Nat,iM put c.aP.toNat 0=f∧1≤f∧f≤n∧(f:Int)∉put ∧ -(f:Int)∉put
structure qQ where
 fuel:Int
 log:List (List Int)
 out:Bool
def Y9(dec:List Int)(h:qQ):qQ:=⟨h.fuel,h.log++[(hQ (dec.map fun l=>-l)).getD []],h.out⟩
def IM(c:gI):Nat→List Int→qQ→qQ
 | 0,_,h=>⟨h.fuel,h.log,true⟩
 | d+1,dec,h=>if h.fuel=0 then⟨h.fuel,h.log,true⟩ else
   if(fQ c.au dec).2 then Y9 dec ⟨h.fuel-1,h.log,h.out⟩ else
   let f:=iM (fQ c.au dec).1 c.aP.toNat 0
   let g:=IM c d (dec++[-f]) ⟨h.fuel-1,h.log,h.out⟩
   if g.out then g else
   let k:=IM c d (dec++[f]) g
   if k.out then k else Y9 dec k
def ag1(c:gI)(d:Nat)(dec:List Int)(f:Int)(g:qQ):qQ:=if(IM c d (dec++[f]) g).out then IM c d (dec++[f]) g else Y9 dec (IM c d (dec++[f]) g)
def ai5(c:gI)(d:Nat)(dec:List Int)(f:Int)(g:qQ):qQ:=if(IM c d (dec++[-f]) g).out then IM c d (dec++[-f]) g else ag1 c d dec f (IM c d (dec++[-f]) g)
def aku(c:gI)(d:Nat)(dec:List Int)(f:Int)(i:Nat)(g:qQ):qQ:=if i=0 then ai5 c d dec f g else if i=1 then ag1 c d dec f g else Y9 dec g
def wH(n:Nat)(dec:List Int):Prop:=oi dec∧∀l∈dec,l.natAbs≤n
theorem wH.len{n:Nat}{dec:List Int}(h:wH n dec):dec.length≤n:=by
 have h1:=QJ n (dec.map fun m=>m.natAbs-1) (by
  rw[List.pairwise_map];refine List.Pairwise.imp_of_mem ?_ h.1.1;intro a b ha hb hab e;have:=h.1.2 a ha;have:=h.1.2 b hb;exact hab oM) (fun x hx=>by
  obtain⟨m,hm,rfl⟩:=List.mem_map.1 hx;have:=h.1.2 m hm;have:=h.2 m hm;omega)
 rwa [List.length_map] at h1
theorem wH.snoc{n:Nat}{c:gI}(hu:Un n c){dec:List Int}(h:wH n dec)(hb:(fQ c.au dec).2=false):∃f:Nat,iM (fQ c.au dec).1 c.aP.toNat 0=f∧1≤f∧f≤n∧wH n (dec++[-(f:Int)])∧wH n (dec++[(f:Int)]):=by obtain⟨u1,u2,u3⟩:=LA (fun x hx l hl=>(hu.clause x hx).1 l hl) h.1;obtain⟨f,f1,f2,f3,f4,f5⟩:=hu.key _ u1 (u3 hb);have h6:=hu.six;refine⟨f,f1,f2,f3,⟨yd h.1 oM oM (fun hh=>f5 (u2 _ hh)) (fun hh=>f4 (u2 _ (by simpa using hh))),?_⟩,⟨yd h.1 oM oM (fun hh=>f4 (u2 _ hh)) (fun hh=>f5 (u2 _ hh)),?_⟩⟩;intro l hl;rcases aM.1 hl with hl|hl;exact h.2 l hl;rw[bx.1 hl];omega;intro l hl;rcases aM.1 hl with hl|hl;exact h.2 l hl;rw[bx.1 hl];omega
structure Dc(n:Nat)(c:gI):Prop where
 six:n≤6
 aP:0≤c.aP∧c.aP≤60
 len:c.au.length≤400
 clause:∀x∈c.au,(∀l∈x,l≠0∧l.natAbs≤60)∧x.length≤1000
 key:∀put:List Int,oi put→scan put c.au=(0,false)→iM put c.aP.toNat 0=0∨∃f:Nat,iM put c.aP.toNat 0=f∧1≤f∧f≤n∧(f:Int)∉put ∧ -(f:Int)∉put
theorem ah6{atoms:List bz}(h6:atoms.length≤6){c:gI}(dL:qP c=true)(gY:∀f:Int,atoms.length<f→f≤c.aP→Ar atoms c f):Dc atoms.length c:=by
 have hok':=dL;simp only[qP,ab,decide_eq_true_eq,bh] at hok';have hm:=dM.1 hok'.1;refine⟨h6,hm,hok'.2.1,fun x hx=>?_,fun put hp hs=>?_⟩;obtain⟨_,g1,g2⟩:=uU (hok'.2.2 x hx);have:=aeP (hok'.2.2 x hx);exact⟨fun l hl=>⟨(g2 l hl).1,by have:=g2 l hl;omega⟩,oM⟩;have hnone:=Hw hs;rcases Bj (put:=put) c.aP.toNat 0 with⟨h,_⟩|⟨f1,f2,f3,f4⟩;exact .inl h;obtain⟨f,hf⟩:∃f:Nat,iM put c.aP.toNat 0=f:=⟨(iM put c.aP.toNat 0).toNat,oM⟩;rw[hf] at f1 f2 f3 f4;have n1:(f:Int)∉put:=fun h=>f3 (.inl h);have n2:-(f:Int)∉put:=fun h=>f3 (.inr h);refine .inr ⟨f,hf,oM,?_,n1,n2⟩;refine pD fun hgt=>?_;obtain⟨c',t,s1,s2,s3⟩:=gY f oM oM;have hb:∀b,pb (NH put f b) c'=true:=fun b=>by refine bh.2 fun x hx=>?_;obtain⟨g1,g2⟩:=s2 x hx;refine Nd hp n1 n2 g1 (fun l hl=>(g2 l hl).1) (fun l hl=>?_) (hnone x (s1 x hx)) b;have:=g2 l hl;rcases aa ((l.natAbs:Int)=f) with e|e;exact .inr e;exact .inl (f4 _ oM oM)
 have e1:=s3 _ (hb true);have e2:=s3 _ (hb false);have ew:(fun a=>NH put f true (dk atoms a+1))=fun a=>NH put f false (dk atoms a+1):=by
  funext a;have hb:=ZR atoms a;have nI:dk atoms a+1≠(f:Int):=by rcases hb.2 with h|h;omega;subst h;have:dk [] a = -1:=rfl;omega
  simp only[NH,if_neg nI]
 rw[ew,←e2] at e1;simp[NH] at e1
theorem yZ{atoms:List bz}:∀(ls:List mh)(c:gI),(∀f:Int,atoms.length<f→f≤c.aP→Ar atoms c f)→(gx c ls).aP=c.aP∧∀f:Int,atoms.length<f→f≤c.aP→Ar atoms (gx c ls) f
 | [],c,h=>⟨rfl,h⟩
 | l::ls,c,h=>by
  have ih:=yZ ls (fF c (l.marks.map fun m=>-m)) (fun f h1 h2=>by
   rw[mr] at h2
   exact(h f h1 h2).up fun x hx=>lj hx)
  rw[mr] at ih;exact ih
theorem OE{au:List aU}{atoms:List bz}(h:cR au=some atoms)(ls:List mh)(dL:qP (gx (gU au) ls)=true):Dc atoms.length (gx (gU au) ls)∧(gx (gU au) ls).aP=(gU au).aP:=by obtain⟨p1,p2,p3,p4⟩:=fZ h;have hs:=yZ (atoms:=atoms) ls (gU au) (Ip h);exact⟨ah6 p3 dL fun f h1 h2=>hs.2 f h1 (by rw[←hs.1];exact h2),hs.1⟩
theorem wH.next{n:Nat}{c:gI}(hu:Dc n c){dec:List Int}(h:wH n dec)(hb:(fQ c.au dec).2=false):iM (fQ c.au dec).1 c.aP.toNat 0=0∨∃f:Nat,iM (fQ c.au dec).1 c.aP.toNat 0=f∧1≤f∧f≤n∧wH n (dec++[-(f:Int)])∧wH n (dec++[(f:Int)]):=by obtain⟨u1,u2,u3⟩:=LA (fun x hx l hl=>(hu.clause x hx).1 l hl) h.1;rcases hu.key _ u1 (u3 hb) with h0|⟨f,f1,f2,f3,f4,f5⟩;exact .inl h0;have h6:=hu.six;refine .inr ⟨f,f1,f2,f3,⟨yd h.1 oM oM (fun hh=>f5 (u2 _ hh)) (fun hh=>f4 (u2 _ (by simpa using hh))),?_⟩,⟨yd h.1 oM oM (fun hh=>f4 (u2 _ hh)) (fun hh=>f5 (u2 _ hh)),?_⟩⟩;intro l hl;rcases aM.1 hl with hl|hl;exact h.2 l hl;rw[bx.1 hl];omega;intro l hl;rcases aM.1 hl with hl|hl;exact h.2 l hl;rw[bx.1 hl];omega
structure Fnd where
 fuel:Int
 log:List (List Int)
 aV:List Bool
 found:Bool
def ag2(dec:List Int)(log:List (List Int)):List (List Int):=log++[(hQ (dec.map fun l=>-l)).getD []]
def ajw(put:List Int)(aP:Nat):List Bool:=(List.range aP).map fun(i:Nat)=>decide (at0 put ((i:Int)+1)=1)
def adr(c:gI):Nat→List Int→Int→List (List Int)→Fnd
 | 0,_,fu,lg=>⟨fu,lg,[],false⟩
 | d+1,dec,fu,lg=>if fu<1 then⟨fu,lg,[],false⟩ else
   if(fQ c.au dec).2 then⟨fu-1,ag2 dec lg,[],false⟩ else
   let m:=iM (fQ c.au dec).1 c.aP.toNat 0
   if m=0 then⟨fu-1,lg,ajw (fQ c.au dec).1 c.aP.toNat,true⟩ else
   let r:=adr c d (dec++[-m]) (fu-1) lg
   if r.found then r else
   let k:=adr c d (dec++[m]) r.fuel r.log
   if k.found then k else⟨k.fuel,ag2 dec k.log,[],false⟩
def ad2(c:gI):Nat→List Int→Int→Int×Bool
 | 0,_,_=>(1,false)
 | d+1,dec,most=>
   let m:=iM (fQ c.au dec).1 c.aP.toNat 0
   if(fQ c.au dec).2=true∨m=0∨most<2 then(1,!(fQ c.au dec).2&&decide (m=0)) else
   let r:=ad2 c d (dec++[-m]) (most-1)
   if r.2 then(1+r.1,true) else
   if most≤1+r.1 then(1+r.1,false) else
   let k:=ad2 c d (dec++[m]) (most-(1+r.1))
   (1+r.1+k.1,k.2)
def ajc(c:gI)(n:Nat)(most:Int):Int:=if most<1 then 1 else(ad2 c (n+1) [] (most+1)).1
def F9(c:gI)(n:Nat)(fuel:Int):Fnd:=if fuel<ajc c n fuel then⟨-1,[],[],false⟩ else adr c (n+1) [] fuel []
def ako(c:gI)(n:Nat):List Bool×List (List Int)×Bool:=
 if qP c then(if(F9 c n 130).found then((F9 c n 130).aV,[],true) else
  if(F9 c n 130).fuel<0∨(400:Int)<c.au.length+(F9 c n 130).log.length then([],[],false) else([],(F9 c n 130).log,true)) else([],[],false)
end Go.Mod
