/-
  What the program's search computes, and that it tells the truth. In plain Lean, no program is walked here.
-/
import Derived.Test.YtnhdminpjihbnaaGreatKAEo
import Derived.Test.YtnhdminpjihbnaaGreatKAEn
import Derived.Test.YtnhdminpjihbnaaGreatKAEi
set_option linter.unusedVariables false
set_option linter.unusedSimpArgs false
open Bool renaming and_eq_true→ab,false_eq_true→aw,true_and→aN,or_eq_false_iff→o6
open Classical renaming em→aa
open Decidable renaming byContradiction→pD
open Int renaming toNat_natCast→aS
open List renaming getElem?_eq_getElem→ae,getElem_mem→ah,getD_eq_getElem?_getD→aE,length_cons→aG,mem_append→aM,all_eq_true→bh,mem_map→bq,mem_singleton→bx,contains_iff_mem→cJ,range→cK,mem_filter→cX,flatten_cons→dt,any_eq_true→gG,mem_range→jJ
open Nat renaming le_refl→aH,pow_le_pow_right→cI
open Option renaming isSome_iff_exists→dz,getD_some→dG
namespace Go.Mod
open Go.Eng
set_option maxRecDepth 100000
structure K3 where
 fuel:Int
 log:List (List Int)
 out:Bool
 aV:List Bool
 found:Bool
def K3.h(r:K3):qQ:=⟨r.fuel,r.log,r.out⟩
def oZ(dec:List Int)(h:qQ):K3:=⟨h.fuel,h.log++[(hQ (dec.map fun l=>-l)).getD []],h.out,[],false⟩
def wM(put:List Int)(aP:Nat):List Bool:=(cK aP).map fun(i:Nat)=>put.contains ((i:Int)+1)
def eO(c:gI):Nat→List Int→qQ→K3
 | 0,_,h=>⟨h.fuel,h.log,true,[],false⟩
 | d+1,dec,h=>if h.fuel=0 then⟨h.fuel,h.log,true,[],false⟩ else
   if(fQ c.au dec).2 then oZ dec ⟨h.fuel-1,h.log,h.out⟩ else
   let f:=iM (fQ c.au dec).1 c.aP.toNat 0
   if f=0 then⟨h.fuel-1,h.log,h.out,wM (fQ c.au dec).1 c.aP.toNat,true⟩ else
   let g:=eO c d (dec++[-f]) ⟨h.fuel-1,h.log,h.out⟩
   if(g.found||g.out)=true then g else
   let k:=eO c d (dec++[f]) g.h
   if(k.found||k.out)=true then k else oZ dec k.h
def abo(c:gI)(d:Nat)(dec:List Int)(f:Int)(g:qQ):K3:=if((eO c d (dec++[f]) g).found||(eO c d (dec++[f]) g).out)=true then eO c d (dec++[f]) g else oZ dec (eO c d (dec++[f]) g).h
def ahK(c:gI)(d:Nat)(dec:List Int)(f:Int)(g:qQ):K3:=if((eO c d (dec++[-f]) g).found||(eO c d (dec++[-f]) g).out)=true then eO c d (dec++[-f]) g else abo c d dec f (eO c d (dec++[-f]) g).h
def Io(c:gI)(d:Nat)(dec:List Int)(f:Int)(i:Nat)(g:qQ):K3:=if i=0 then ahK c d dec f g else if i=1 then abo c d dec f g else oZ dec g
theorem yV(c:gI)(d:Nat)(dec:List Int)(f:Int)(g:qQ):Io c d dec f 0 g=if((eO c d (dec++[-f]) g).found||(eO c d (dec++[-f]) g).out)=true then eO c d (dec++[-f]) g else Io c d dec f 1 (eO c d (dec++[-f]) g).h:=rfl
theorem Cy(c:gI)(d:Nat)(dec:List Int)(f:Int)(g:qQ):Io c d dec f 1 g=if((eO c d (dec++[f]) g).found||(eO c d (dec++[f]) g).out)=true then eO c d (dec++[f]) g else Io c d dec f 2 (eO c d (dec++[f]) g).h:=rfl
theorem ZB(c:gI)(d:Nat)(dec:List Int)(f:Int)(g:qQ):Io c d dec f 2 g=oZ dec g:=rfl
theorem zt{c:gI}{d:Nat}{dec:List Int}{h:qQ}(h0:h.fuel=0):eO c d dec h=⟨h.fuel,h.log,true,[],false⟩:=by
 cases d with
 | zero=>rfl
 | succ d=>rw[eO,if_pos h0]
theorem GQ{c:gI}{d:Nat}{dec:List Int}{h:qQ}(h0:h.fuel≠0)(hb:(fQ c.au dec).2=true):eO c (d+1) dec h=oZ dec ⟨h.fuel-1,h.log,h.out⟩:=by rw[eO,if_neg h0,if_pos hb]
theorem y5{c:gI}{d:Nat}{dec:List Int}{h:qQ}(h0:h.fuel≠0)(hb:(fQ c.au dec).2=false)(hf:iM (fQ c.au dec).1 c.aP.toNat 0=0):eO c (d+1) dec h=⟨h.fuel-1,h.log,h.out,wM (fQ c.au dec).1 c.aP.toNat,true⟩:=by rw[eO,if_neg h0,hb,if_neg (by simp),hf];rfl
theorem zC{c:gI}{d:Nat}{dec:List Int}{h:qQ}(h0:h.fuel≠0)(hb:(fQ c.au dec).2=false){f:Int}(hf:iM (fQ c.au dec).1 c.aP.toNat 0=f)(hf0:f≠0):eO c (d+1) dec h=Io c d dec f 0 ⟨h.fuel-1,h.log,h.out⟩:=by rw[eO,if_neg h0,hb,if_neg (by simp),hf];simp only[if_neg hf0];rfl
theorem FF(c:gI):∀(d:Nat)(dec:List Int)(h:qQ),0≤h.fuel →
 0≤(eO c d dec h).fuel∧(eO c d dec h).fuel≤h.fuel∧((eO c d dec h).log.length:Int)+(eO c d dec h).fuel≤h.log.length+h.fuel∧((eO c d dec h).out=false→(eO c d dec h).found=false→(eO c d dec h).log≠[])∧((eO c d dec h).found=true→(eO c d dec h).aV.length=c.aP.toNat):=by
 intro d
 induction d with
 | zero=>intro dec h hf;simp[eO];omega
 | succ d ih=>
  intro dec h hf;rcases aa (h.fuel=0) with h0|h0;rw[zt h0];simp;omega;have hl:∀g:qQ,0≤g.fuel→g.fuel≤h.fuel→(g.log.length:Int)+g.fuel+1≤h.log.length+h.fuel→0≤(oZ dec g).fuel∧(oZ dec g).fuel≤h.fuel∧((oZ dec g).log.length:Int)+(oZ dec g).fuel≤h.log.length+h.fuel∧((oZ dec g).out=false→(oZ dec g).found=false→(oZ dec g).log≠[])∧((oZ dec g).found=true→(oZ dec g).aV.length=c.aP.toNat):=fun g h1 h2 h3=>by simp only[oZ,List.length_append,aG,List.length_nil];exact⟨h1,h2,oM,fun _ _=>by simp,fun h=>(Bool.noConfusion h)⟩
  cases hb:(fQ c.au dec).2 with
  | true=>rw[GQ h0 hb];exact hl ⟨h.fuel-1,h.log,h.out⟩ (by simp only;omega) (by simp only;omega) (by simp only;omega)
  | false=>rcases aa (iM (fQ c.au dec).1 c.aP.toNat 0=0) with hf0|hf0;rw[y5 h0 hb hf0];simp only;exact⟨oM,oM,oM,fun _ h=>(Bool.noConfusion h),fun _=>by simp[wM]⟩;rw[zC h0 hb rfl hf0];generalize iM (fQ c.au dec).1 c.aP.toNat 0=f;have i1:=ih (dec++[-f]) ⟨h.fuel-1,h.log,h.out⟩ (by simp only;omega);rw[yV];generalize eO c d (dec++[-f]) ⟨h.fuel-1,h.log,h.out⟩=g at i1⊢;simp only at i1;split;exact⟨i1.1,oM,oM,i1.2.2.2⟩;have i2:=ih (dec++[f]) g.h i1.1;rw[Cy];have e1:g.h.fuel=g.fuel:=rfl;have e2:g.h.log=g.log:=rfl;rw[e1,e2] at i2;generalize eO c d (dec++[f]) g.h=k at i2⊢;split;exact⟨i2.1,oM,oM,i2.2.2.2⟩;exact hl k.h i2.1 (by show k.fuel≤h.fuel;omega) (by show(k.log.length:Int)+k.fuel+1≤h.log.length+h.fuel;omega)
theorem ZT{v:Int→Bool}{put c:List Int}(hc:∀l∈c,l≠0)(hp:∀l∈put,iy v l=true)(ht:lu v c=true):(unit put c).2=false∧((unit put c).1≠0→iy v (unit put c).1=true):=by
 obtain⟨l,hl,pz⟩:=gG.1 ht;have hnot:put.contains (-l)=false:=by
  cases h:put.contains (-l) with
  | false=>rfl
  | true=>have:=hp _ (cJ.1 h);rw[jM (hc l hl),pz] at this;cases this
 have hm:l∈c.filter (fun l=>!put.contains (-l)):=cX.2 ⟨hl,by rw[hnot];rfl⟩;unfold unit;split;exact⟨rfl,fun h=>absurd rfl h⟩;split;rename_i h;rw[h] at hm;simp at hm;rename_i x h;rw[h,bx] at hm;exact⟨rfl,fun _=>by rw[←hm];exact pz⟩;exact⟨rfl,fun h=>absurd rfl h⟩
theorem Pr{v:Int→Bool}{put:List Int}(hp:∀l∈put,iy v l=true):∀{au:List (List Int)},(∀x∈au,∀l∈x,l≠0)→(∀x∈au,lu v x=true)→(scan put au).2=false∧((scan put au).1≠0→iy v (scan put au).1=true)
 | [],_,_=>⟨rfl,fun h=>absurd rfl h⟩
 | c::cs,h0,ht=>by obtain⟨u1,u2⟩:=ZT (h0 c (by simp)) hp (ht c (by simp));have ih:=Pr hp (au:=cs) (fun x hx=>h0 x (by simp[hx])) (fun x hx=>ht x (by simp[hx]));simp only[scan,u1,aw,if_false];split;exact ih;rename_i h;exact⟨rfl,fun _=>u2 h⟩
theorem FK{v:Int→Bool}{au:List (List Int)}(h0:∀x∈au,∀l∈x,l≠0)(ht:∀x∈au,lu v x=true):∀(n:Nat)(put:List Int),(∀l∈put,iy v l=true)→(rC au n put).2=false∧∀l∈(rC au n put).1,iy v l=true
 | 0,put,hp=>⟨rfl,hp⟩
 | n+1,put,hp=>by obtain⟨s1,s2⟩:=Pr hp h0 ht;rw[rC,s1];simp only[aw,if_false];split;exact⟨rfl,hp⟩;rename_i h;exact FK h0 ht n _ fun l hl=>by rcases aM.1 hl with hl|hl;exact hp l hl;rw[bx.1 hl];exact s2 h
theorem acU{c:gI}(h0:∀x∈c.au,∀l∈x,l≠0){v:Int→Bool}(hv:pb v c=true):∀(d:Nat)(dec:List Int)(h:qQ),(∀l∈dec,iy v l=true)→(eO c d dec h).found=false→(eO c d dec h).out=true:=by
 have ht:∀x∈c.au,lu v x=true:=bh.1 hv;intro d;induction d with
 | zero=>intro dec h _ _;rfl
 | succ d ih=>
  intro dec h hd hf;rcases aa (h.fuel=0) with hz|hz;rw[zt hz];have hb:(fQ c.au dec).2=false:=(FK h0 ht _ dec hd).1;rcases aa (iM (fQ c.au dec).1 c.aP.toNat 0=0) with hf0|hf0;rw[y5 hz hb hf0] at hf;cases hf;rw[zC hz hb rfl hf0] at hf⊢;generalize iM (fQ c.au dec).1 c.aP.toNat 0=f at hf hf0⊢;have step:∀l:Int,iy v l=true→∀x∈dec++[l],iy v x=true:=fun l hl x hx=>by rcases aM.1 hx with hx|hx;exact hd x hx;rw[bx.1 hx];exact hl
  rw[yV] at hf⊢;have i1:=ih (dec++[-f]) ⟨h.fuel-1,h.log,h.out⟩;generalize eO c d (dec++[-f]) ⟨h.fuel-1,h.log,h.out⟩=g at hf i1⊢;cases hg:(g.found||g.out) with
  | true=>rw[hg] at hf;simp only[if_true] at hf⊢;rw[hf] at hg;simpa using hg
  | false=>
   rw[hg] at hf;simp only[aw,if_false] at hf⊢;rw[o6] at hg;cases hm:iy v f with
   | false=>have:=i1 (step _ (by rw[jM hf0,hm];rfl)) hg.1;rw[hg.2] at this;cases this
   | true=>
    rw[Cy] at hf⊢;have i2:=ih (dec++[f]) g.h (step _ hm);generalize eO c d (dec++[f]) g.h=k at hf i2⊢;cases hk:(k.found||k.out) with
    | true=>rw[hk] at hf;simp only[if_true] at hf⊢;exact i2 hf
    | false=>rw[o6] at hk;have:=i2 hk.1;rw[hk.2] at this;cases this
theorem aav{n:Nat}{c:gI}(hu:Dc n c)(dL:qP c=true):∀(d:Nat)(dec:List Int)(h:qQ),wH n dec→(eO c d dec h).found=true→pb (RO (eO c d dec h).aV) c=true:=by
 have hok':=dL;simp only[qP,ab,decide_eq_true_eq,bh] at hok';intro d;induction d with
 | zero=>intro dec h _ hf;cases hf
 | succ d ih=>
  intro dec h hd hf;rcases aa (h.fuel=0) with hz|hz;rw[zt hz] at hf;cases hf;cases hb:(fQ c.au dec).2 with
  | true=>rw[GQ hz hb] at hf;cases hf
  | false=>
   rcases aa (iM (fQ c.au dec).1 c.aP.toNat 0=0) with hf0|hf0;rw[y5 hz hb hf0];obtain⟨u1,u2,u3⟩:=LA (fun x hx l hl=>(hu.clause x hx).1 l hl) hd.1;have hnone:=Hw (u3 hb);generalize (fQ c.au dec).1=put at u1 hnone hf0;rcases Bj (put:=put) c.aP.toNat 0 with⟨_,l6⟩|⟨g1,_⟩;refine bh.2 fun x hx=>?_;obtain⟨⟨m0,m1⟩,g1,g2⟩:=uU (hok'.2.2 x hx);have hc:=Nd u1 (fun h=>(u1.2 _ h).1 rfl) (fun h=>(u1.2 _ h).1 rfl) g1 (fun l hl=>(g2 l hl).1) (fun l hl=>.inl (l6 _ (by have:=g2 l hl;omega) (by have:=g2 l hl;omega))) (hnone x hx) true;obtain⟨l,hl,pz⟩:=gG.1 hc;refine gG.2 ⟨l,hl,?_⟩;have key:∀j:Int,1≤j→j≤c.aP→RO (wM put c.aP.toNat) j=NH put 0 true j:=fun j j1 j2=>by have e:j≠0:=oM;have hj:j.toNat-1<c.aP.toNat:=oM;simp only[RO,wM,NH,if_neg e];rw[aE,List.getElem?_map,List.getElem?_range hj];simp only[Option.map_some,dG];congr 1;omega
   have:=g2 l hl;rw[←pz];unfold iy;split;exact key l oM oM;rw[key (-l) oM oM];rw[hf0] at g1;omega;obtain h0|⟨f,f1,f2,f3,d1,d2⟩:=hd.next hu hb;exact absurd h0 hf0;rw[f1] at hf0;rw[zC hz hb f1 hf0] at hf⊢;rw[yV] at hf⊢;have i1:=ih (dec++[-(f:Int)]) ⟨h.fuel-1,h.log,h.out⟩ d1;generalize eO c d (dec++[-(f:Int)]) ⟨h.fuel-1,h.log,h.out⟩=g at hf i1⊢;cases hg:(g.found||g.out) with
   | true=>rw[hg] at hf;simp only[if_true] at hf⊢;exact i1 hf
   | false=>
    rw[hg] at hf;simp only[aw,if_false] at hf⊢;rw[Cy] at hf⊢;have i2:=ih (dec++[(f:Int)]) g.h d2;generalize eO c d (dec++[(f:Int)]) g.h=k at hf i2⊢;cases hk:(k.found||k.out) with
    | true=>rw[hk] at hf;simp only[if_true] at hf⊢;exact i2 hf
    | false=>rw[hk] at hf;simp only[aw,if_false] at hf;cases hf
def G6(m k:Int):Bool:=!decide (k=m)
def v7(s:eV)(atoms:List bz):List Int→mh→mh
 | [],l=>l
 | m::ms,l=>if l.marks.length=1 then l else
   if(gf s (fl (l.marks.filter (G6 m)) atoms)).code=1 then v7 s atoms ms ⟨l.marks.filter (G6 m),(gf s (fl (l.marks.filter (G6 m)) atoms)).case⟩ else v7 s atoms ms l
theorem Vu(s:eV)(atoms:List bz):∀(ms:List Int)(l:mh),(∀m∈(v7 s atoms ms l).marks,m∈l.marks)∧(v7 s atoms ms l).marks.length≤l.marks.length
 | [],l=>⟨fun _ h=>h,aH _⟩
 | m::ms,l=>by
  rw[v7];split;exact⟨fun _ h=>h,aH _⟩;split
  ·have ih:=Vu s atoms ms ⟨l.marks.filter (G6 m),(gf s (fl (l.marks.filter (G6 m)) atoms)).case⟩;exact⟨fun x hx=>(cX.1 (ih.1 x hx)).1,Nat.le_trans ih.2 (List.length_filter_le _ _)⟩
  exact Vu s atoms ms l
theorem QP(s:eV)(atoms:List bz):∀(ms:List Int)(l:mh),(gf s (fl l.marks atoms)).code=1→(gf s (fl (v7 s atoms ms l).marks atoms)).code=1
 | [],l,h=>h
 | m::ms,l,h=>by rw[v7];split;exact h;split;rename_i h1;exact QP s atoms ms _ h1;exact QP s atoms ms l h
theorem Zj{s:eV}{atoms:List bz}{marks:List Int}{l:mh}{i:Nat}(h:i<marks.length):v7 s atoms (marks.drop i) l=if l.marks.length=1 then l else
 if(gf s (fl (l.marks.filter (G6 marks[i])) atoms)).code=1 then v7 s atoms (marks.drop (i+1)) ⟨l.marks.filter (G6 marks[i]),(gf s (fl (l.marks.filter (G6 marks[i])) atoms)).case⟩ else v7 s atoms (marks.drop (i+1)) l:=by
 rw[List.drop_eq_getElem_cons h,v7]
def j7(aV:List Bool)(n:Nat):List Int:=(cK n).map fun(i:Nat)=>if aV.getD i false then(i:Int)+1 else -1-(i:Int)
theorem U7(aV:List Bool)(n:Nat):(j7 aV n).length=n:=by simp[j7]
theorem yp{aV:List Bool}{n:Nat}:∀m∈j7 aV n,m≠0 ∧ -(n:Int)≤m∧m≤n:=fun m hm=>by obtain⟨i,hi,rfl⟩:=bq.1 hm;have:=jJ.1 hi;split<;>omega
theorem Ua{aV:List Bool}{n:Nat}:j7 aV (n+1)=j7 aV n++[if aV.getD n false then(n:Int)+1 else -1-(n:Int)]:=by simp only[j7,List.range_succ,List.map_append,List.map_cons,List.map_nil]
theorem Uu{n:Nat}:∀(ms before:List Int),(∀m∈ms,m≠0 ∧ -(n:Int)≤m∧m≤n)→(before++ms).Pairwise (fun a b=>a.natAbs≠b.natAbs)→xp before ms n=true
 | [],_,_,_=>rfl
 | m::ms,before,hm,hp=>by
  have h0:=hm m (by simp);have hp2:=List.pairwise_append.1 hp;have c1:before.contains m=false:=by
   cases h:before.contains m with
   | false=>rfl
   | true=>exact absurd rfl (hp2.2.2 m (cJ.1 h) m (by simp))
  have c2:before.contains (-m)=false:=by
   cases h:before.contains (-m) with
   | false=>rfl
   | true=>exact absurd (Int.natAbs_neg m) (hp2.2.2 (-m) (cJ.1 h) m (by simp))
  have c3:iq m n=true:=mN.2 h0;rw[xp,c1,c2,c3,Uu ms (before++[m]) (fun x hx=>hm x (by simp[hx])) (by simpa using hp)];rfl
theorem TW(aV:List Bool)(n:Nat):(j7 aV n).Pairwise (fun a b=>a.natAbs≠b.natAbs):=by rw[j7,List.pairwise_map];refine List.Pairwise.imp (R:=fun a b=>a<b) ?_ List.pairwise_lt_range;intro a b hab;split<;>split<;>omega
theorem KW(s:eV)(atoms:List bz):∀(ms:List Int)(l:mh),(v7 s atoms ms l).marks.Sublist l.marks
 | [],l=>List.Sublist.refl _
 | m::ms,l=>by rw[v7];split;exact List.Sublist.refl _;split;exact(KW s atoms ms _).trans List.filter_sublist;exact KW s atoms ms l
theorem ad7{s:eV}{atoms:List bz}{aV:List Bool}{n:Nat}{c:fL}{ms:List Int}:iz (v7 s atoms ms ⟨j7 aV n,c⟩).marks n=true:=by have hs:=KW s atoms ms ⟨j7 aV n,c⟩;exact Uu _ [] (fun m hm=>yp m (hs.subset hm)) (by simpa using (TW aV n).sublist hs)
def lk(c:gI):List Bool×List (List Int)×Bool:=
 if qP c then(if(eO c 130 [] ⟨130,[],false⟩).found then((eO c 130 [] ⟨130,[],false⟩).aV,[],true) else
  if(eO c 130 [] ⟨130,[],false⟩).out=true∨400<(eO c 130 [] ⟨130,[],false⟩).log.length+c.au.length then([],[],false) else([],(eO c 130 [] ⟨130,[],false⟩).log,true)) else([],[],false)
theorem afH{c:gI}(h:(lk c).2.2=true)(hl:(lk c).2.1=[]):(lk c).1.length=c.aP.toNat:=by
 have hb:=FF c 130 [] ⟨130,[],false⟩ (by simp only;omega);unfold lk at h hl⊢;split at h;rename_i dL;rw[if_pos dL] at hl⊢;generalize eO c 130 [] ⟨130,[],false⟩=r at hb h hl⊢;split at h;rename_i hf;rw[if_pos hf];exact hb.2.2.2.2 hf;rename_i hf;rw[if_neg hf] at hl;split at h;cases h;rename_i hx;rw[if_neg hx] at hl;have ho:r.out=false:=by
  cases ho:r.out with
  | false=>rfl
  | true=>exact absurd (.inl ho) hx
 exact absurd hl (hb.2.2.2.1 ho (by simpa using hf));cases h
def ye:dZ×F8×Int:=(⟨[]⟩,⟨[],[]⟩,2)
def nS(s:eV)(au:List aU)(atoms:List bz):Nat→List mh→dZ×F8×Int
 | 0,_=>ye
 | n+1,ls=>if(lk (gx (gU au) ls)).2.2=false then ye else
   if(lk (gx (gU au) ls)).2.1≠[] then(⟨[]⟩,⟨ls,(lk (gx (gU au) ls)).2.1⟩,1) else
   if(gf s (fl (j7 (lk (gx (gU au) ls)).1 atoms.length) atoms)).code=0 then((gf s (fl (j7 (lk (gx (gU au) ls)).1 atoms.length) atoms)).model,⟨[],[]⟩,0) else
   if(gf s (fl (j7 (lk (gx (gU au) ls)).1 atoms.length) atoms)).code≠1∨ls.length=64 then ye else
   nS s au atoms n (ls++[v7 s atoms (j7 (lk (gx (gU au) ls)).1 atoms.length) ⟨j7 (lk (gx (gU au) ls)).1 atoms.length,(gf s (fl (j7 (lk (gx (gU au) ls)).1 atoms.length) atoms)).case⟩])
def jo(s:eV)(au:List aU):dZ×F8×Int:=if gl s au then nS s au ((cR au).getD []) 65 [] else(⟨[]⟩,⟨[],[]⟩,3)
theorem IC{ts:List aU}(h:∀t∈ts,∀(l:List bz)(u:bz),u∈ct l t→u∈l∨u∈ct [] t):∀(l:List bz)(u:bz),u∈bF l ts→u∈l∨∃t∈ts,u∈ct [] t:=by
 induction ts with
 | nil=>intro l u hu;exact .inl hu
 | cons t ts ih=>intro l u hu;rw[bF] at hu;rcases ih (fun x hx=>h x (by simp[hx])) _ u hu with h1|⟨x,hx,h1⟩;rcases h t (by simp) l u h1 with h2|h2;exact .inl h2;exact .inr ⟨t,by simp,h2⟩;exact .inr ⟨x,by simp[hx],h1⟩
theorem WS:∀(t:aU)(l:List bz)(u:bz),u∈ct l t→u∈l∨u∈ct [] t:=by refine aU.ind fun k x ks ih l u hu=>?_;rw[ct] at hu;rcases aa (k=1) with h1|h1;rw[if_pos h1] at hu;split at hu;rcases aM.1 hu with hu|hu;exact .inl hu;rw[bx.1 hu];exact .inr (C8 [] (.mk k x ks) h1);exact .inl hu;rw[if_neg h1] at hu;rcases IC ih l u hu with h2|⟨t,ht,h2⟩;exact .inl h2;refine .inr ?_;rw[ct,if_neg h1];exact ry ks [] t ht u h2
theorem Wy{au:List aU}{u:bz}(h:u∈bF [] au):∃t∈au,u∈ct [] t:=by rcases IC (fun t _=>WS t) [] u h with h|h;simp at h;exact h
theorem Bv{ts:List aU}(h:∀t∈ts,∀g∈fb t,∀own,inside own t→inside own g):∀g∈jD ts,∀own,(∀t∈ts,inside own t)→inside own g:=by
 induction ts with
 | nil=>intro g hg;simp[jD] at hg
 | cons t ts ih=>intro g hg own ho;rw[jD] at hg;rcases aM.1 hg with hg|hg;exact h t (by simp) g hg own (ho t (by simp));exact ih (fun x hx=>h x (by simp[hx])) g hg own (fun x hx=>ho x (by simp[hx]))
theorem RR:∀(t:aU),∀g∈fb t,∀own,inside own t→inside own g:=by refine aU.ind fun k x ks ih g hg own ho=>?_;rw[fb] at hg;split at hg;simp at hg;rename_i h1;split at hg;exact Bv ih g hg own fun t ht=>gH ho h1 t ht;rcases aM.1 hg with hg|hg;exact Bv ih g hg own fun t ht=>gH ho h1 t ht;rw[bx.1 hg];exact ho
def noV(w:bz→Bool)(atoms:List bz)(nodes:List aU)(i:Int):Bool:=if i≤atoms.length then w (atoms.getD (i.toNat-1) tz) else holds w (nodes.getD (i.toNat-1-atoms.length) Dq)
theorem acg{w:bz→Bool}{atoms:List bz}{nodes:List aU}{a:bz}(h:a∈atoms):noV w atoms nodes (dk atoms a+1)=w a:=by obtain⟨j,h1,hj,h2⟩:=BK h;rw[h1,noV,if_pos oM,show((j:Int)+1).toNat-1=j by omega,aE,ae hj,dG,h2]
theorem afF{w:bz→Bool}{au:List aU}{atoms:List bz}(h:cR au=some atoms)(hw:∀f∈au,holds w f=true):pb (noV w atoms (au.flatMap fb)) (gU au)=true:=by
 obtain⟨p1,p2,p3,p4⟩:=fZ h;have jY:∀f∈au,inside atoms f:=fun f hf=>by rw[p4];exact pf hf
 have hsame:∀f,inside atoms f→holds (fun a=>noV w atoms (au.flatMap fb) (dk atoms a+1)) f=holds w f:=fun f hf=>LX (own:=atoms) (fun a ha=>acg ha) f hf;rw[(QY h _).2,ab];constructor;refine aa1 fun j hj=>?_;obtain⟨t,ht,hg⟩:=List.mem_flatMap.1 (ah hj);rw[hsame _ (RR t _ hg atoms (jY t ht)),noV,if_neg oM,show((atoms.length:Int)+1+(j:Int)).toNat-1-atoms.length=j by omega,aE,ae hj];rfl;refine bh.2 fun f hf=>?_;rw[hsame f (jY f hf)];exact hw f hf
theorem UI{v:Int→Bool}:∀(ls:List mh)(c:gI),pb v c=true→(∀l∈ls,(∀m∈l.marks,m≠0 ∧ -60≤m∧m≤60)∧∃m∈l.marks,iy v m=false)→pb v (gx c ls)=true
 | [],c,h,_=>h
 | l::ls,c,h,hl=>by
  obtain⟨h1,m,h2,h3⟩:=hl l (by simp);refine UI ls _ ?_ fun x hx=>hl x (by simp[hx]);rw[yK v c (fun x hx=>by
   obtain⟨y,hy,rfl⟩:=bq.1 hx
   have:=h1 y hy
   exact mN.2 ⟨oM,oM,oM⟩),h,aN]
  exact gG.2 ⟨-m,bq.2 ⟨m,h2,rfl⟩,by rw[jM (h1 m h2).1,h3];rfl⟩
theorem MX{x:List Int}:∀(ls:List mh)(c:gI),x∈c.au→x∈(gx c ls).au
 | [],_,h=>h
 | _::ls,c,h=>MX ls _ (lj h)
def mT(s:eV)(m:dZ)(a:bz):Bool:=(gj s m ⟨a,false⟩).getD false
theorem Sc{s:eV}{m:dZ}{a:bz}{b:Bool}(h:gj s m ⟨a,false⟩=some b):gj s m ⟨a,true⟩=some (!b):=by
 unfold gj at h⊢;split at h
 ·rename_i h1;simp only at h1⊢;rw[if_pos h1];cases h2:tM m a with
  | none=>rw[h2] at h;cases h
  | some c=>rw[h2] at h;simp at h⊢;rw[h]
 cases h
theorem Om{s:eV}{m:dZ}{a:bz}{b:Bool}(h:gj s m ⟨a,true⟩=some b):gj s m ⟨a,false⟩=some (!b):=by
 unfold gj at h⊢;split at h
 ·rename_i h1;simp only at h1⊢;rw[if_pos h1];cases h2:tM m a with
  | none=>rw[h2] at h;cases h
  | some c=>rw[h2] at h;simp at h⊢;rw[←h]
 cases h
theorem LH{s:eV}{m:dZ}:∀{l:List bz},(∀a∈l,(gj s m ⟨a,false⟩).isSome=true)→xK s m l=some (l.map (mT s m))
 | [],_=>rfl
 | a::l,h=>by obtain⟨b,hb⟩:=dz.1 (h a (by simp));rw[xK,hb,LH fun x hx=>h x (by simp[hx])];simp[mT,hb]
theorem IL{s:eV}{m:dZ}:∀{l:List bz}{v:List Bool},xK s m l=some v→∀a∈l,(gj s m ⟨a,false⟩).isSome=true
 | [],_,_,a,ha=>by simp at ha
 | x::l,v,h,a,ha=>by simp only[xK] at h;split at h;cases h;rename_i b hb;split at h;cases h;rename_i bs hbs;rcases List.mem_cons.1 ha with rfl|ha;rw[hb];rfl;exact IL hbs a ha
theorem Gq{s:eV}{m:dZ}{f:aU}(hf:zL s f=true)(h:∀a∈ct [] f,(gj s m ⟨a,false⟩).isSome=true):pa s m f=some (holds (mT s m) f):=by rw[ME hf (LH h)];simp only[zL,ab] at hf;exact Xw _ hf.1
theorem ZL{n:Nat}{c:gI}(hu:qP c=true→Dc n c)(h:(lk c).2.2=true)(hl:(lk c).2.1=[]):pb (RO (lk c).1) c=true:=by
 have hb:=FF c 130 [] ⟨130,[],false⟩ (by simp only;omega);have hd:wH n []:=⟨⟨List.Pairwise.nil,by simp⟩,by simp⟩;unfold lk at h hl⊢;split at h;rename_i dL;rw[if_pos dL] at hl⊢;have hy:=aav (hu dL) dL 130 [] ⟨130,[],false⟩ hd;generalize eO c 130 [] ⟨130,[],false⟩=r at hb hy h hl⊢;split at h;rename_i hf;rw[if_pos hf];exact hy hf;rename_i hf;rw[if_neg hf] at hl;split at h;cases h;rename_i hx;rw[if_neg hx] at hl;have ho:r.out=false:=by
  cases ho:r.out with
  | false=>rfl
  | true=>exact absurd (.inl ho) hx
 exact absurd hl (hb.2.2.2.1 ho (by simpa using hf));cases h
theorem aeF{c:gI}(h:(lk c).2.2=true)(hl:(lk c).2.1≠[])(v:Int→Bool):pb v c=false:=by
 cases hv:pb v c with
 | false=>rfl
 | true=>exfalso;unfold lk at h hl;split at h;rename_i dL;rw[if_pos dL] at hl;have hok':=dL;simp only[qP,ab,decide_eq_true_eq,bh] at hok';have hn:=acU (fun x hx l hl=>((uU (hok'.2.2 x hx)).2.2 l hl).1) hv 130 [] ⟨130,[],false⟩ (by simp);generalize eO c 130 [] ⟨130,[],false⟩=r at hn h hl;split at h;rename_i hf;rw[if_pos hf] at hl;exact hl rfl;rename_i hf;split at h;cases h;rename_i hx;exact hx (.inl (hn (by simpa using hf)));cases h
theorem O3{marks:List Int}{atoms:List bz}{k:Int}(hk:k∈marks)(h:k≠0 ∧ -(atoms.length:Int)≤k∧k≤atoms.length):∃hj:k.natAbs-1<atoms.length,(⟨atoms[k.natAbs-1],decide (k<0)⟩:cC)∈fl marks atoms:=by have hj:k.natAbs-1<atoms.length:=oM;refine⟨hj,bq.2 ⟨k,hk,?_⟩⟩;rw[aE,ae hj];rfl
theorem aeX{s:eV}{au:List aU}{atoms:List bz}(ha:cR au=some atoms)(dL:gl s au=true){ls:List mh}{aV:List Bool}{m:dZ}(hc:pb (RO aV) (gx (gU au) ls)=true)(hm:gK s m (fl (j7 aV atoms.length) atoms)=true):lS s m au=true:=by
 obtain⟨p1,p2,p3,p4⟩:=fZ ha;have hcn:pb (RO aV) (gU au)=true:=bh.2 fun x hx=>bh.1 hc x (MX ls _ hx);rw[(QY ha _).2,ab] at hcn;simp only[gK,ab,bh,decide_eq_true_eq] at hm;have hlit:∀j (hj:j<atoms.length),gj s m ⟨atoms[j],false⟩=some (aV.getD j false):=fun j hj=>by
  have hmem:(if aV.getD j false then(j:Int)+1 else -1-(j:Int))∈j7 aV atoms.length:=bq.2 ⟨j,jJ.2 hj,rfl⟩;cases hv:aV.getD j false with
  | true=>rw[hv,if_pos rfl] at hmem;obtain⟨hj2,hs⟩:=O3 hmem (yp _ hmem);have:=hm.2 _ hs;rw[decide_eq_false oM] at this;have e:((j:Int)+1).natAbs-1=j:=oM;simp only[e] at this;exact this
  | false=>rw[hv,if_neg (by simp)] at hmem;obtain⟨hj2,hs⟩:=O3 hmem (yp _ hmem);have:=hm.2 _ hs;rw[decide_eq_true oM] at this;have e:(-1-(j:Int)).natAbs-1=j:=oM;simp only[e] at this;exact Om this
 have mf:∀a∈atoms,gj s m ⟨a,false⟩=some (RO aV (dk atoms a+1)):=fun a haa=>by obtain⟨j,h1,hj,h2⟩:=BK haa;have:=hlit j hj;rw[h2] at this;rw[this,h1,RO,show((j:Int)+1).toNat-1=j by omega]
 have hbo:gO s (plain atoms)=true:=by rw[gl,ha] at dL;simp only[ab] at dL;exact dL.2
 simp only[lS,dL,hm.1,aN,bh,decide_eq_true_eq];intro f hf;have jY:inside atoms f:=by rw[p4];exact pf hf
 have hif:=p2 f hf;have hfo:zL s f=true:=by rw[zL,hif,aN];refine VA hbo (fun l hl=>?_) ?_;obtain⟨a,h1,rfl⟩:=bq.1 hl;exact bq.2 ⟨a,jY a h1,rfl⟩;simp only[jq,ab,decide_eq_true_eq] at hif;simp only[plain,List.length_map];exact hif.2
 rw[Gq hfo fun a h1=>by rw[mf a (jY a h1)];rfl];have:holds (mT s m) f=holds (fun a=>RO aV (dk atoms a+1)) f:=LX (own:=atoms) (fun a h1=>by rw[mT,mf a h1];rfl) f jY;rw[this,bh.1 hcn.2 f hf]
theorem aix{s:eV}{au:List aU}{atoms:List bz}(ha:cR au=some atoms){ls:List mh}(hls:∀l∈ls,(gf s (fl l.marks atoms)).code=1∧∀k∈l.marks,k≠0 ∧ -(atoms.length:Int)≤k∧k≤atoms.length)(hc:∀v:Int→Bool,pb v (gx (gU au) ls)=false)(m:dZ):lS s m au=false:=by
 cases hs:lS s m au with
 | false=>rfl
 | true=>
  exfalso;obtain⟨p1,p2,p3,p4⟩:=fZ ha;simp only[lS,ab,bh,decide_eq_true_eq] at hs;obtain⟨dL,hmo,l6⟩:=hs;have hsome:∀a∈atoms,gj s m ⟨a,false⟩=some (mT s m a):=fun a haa=>by
   rw[p4] at haa;obtain⟨f,hf,hfa⟩:=Wy haa;have h1:=l6 f hf;have h2:∃v,xK s m (ct [] f)=some v:=by
    cases h3:xK s m (ct [] f) with
    | none=>rw[Lg h3] at h1;cases h1
    | some v=>exact⟨v,rfl⟩
   obtain⟨v,hv⟩:=h2;obtain⟨b,hb⟩:=dz.1 (IL hv a hfa);rw[mT,hb];rfl
  have hw:∀f∈au,holds (mT s m) f=true:=fun f hf=>by
   have h1:=l6 f hf;have hfo:zL s f=true:=by
    cases h2:zL s f with
    | true=>rfl
    | false=>rw[QH h2] at h1;cases h1
   rw[Gq hfo fun a h2=>by rw[hsome a (by rw[p4];exact pf hf a h2)];rfl] at h1;simpa using h1
  have hv:=afF ha hw;have:=UI ls _ hv fun l hl=>by
   obtain⟨h1,h2⟩:=hls l hl;refine⟨fun k hk=>by have:=h2 k hk;omega,?_⟩;refine pD fun hno=>?_;have hbad:=V5 h1 m;have hgood:gK s m (fl l.marks atoms)=true:=by
    simp only[gK,hmo,aN,bh,decide_eq_true_eq];intro x hx;obtain⟨k,hk,rfl⟩:=bq.1 hx;have hb:=h2 k hk;have hj:k.natAbs-1<atoms.length:=oM;have ht:iy (noV (mT s m) atoms (au.flatMap fb)) k=true:=by
     cases h3:iy (noV (mT s m) atoms (au.flatMap fb)) k with
     | true=>rfl
     | false=>exact absurd ⟨k,hk,h3⟩ hno
    have hga:atoms.getD (k.natAbs-1) tz=atoms[k.natAbs-1]:=(by rw[aE,ae hj];rfl);have hla:=hsome _ (ah hj);rw[hga];rcases aa (0<k) with hpos|hpos;rw[iy,if_pos hpos,noV,if_pos oM,show k.toNat-1=k.natAbs-1 by omega,hga] at ht;rw[decide_eq_false oM,hla,ht];rw[iy,if_neg hpos,noV,if_pos oM,show(-k).toNat-1=k.natAbs-1 by omega,hga] at ht;rw[decide_eq_true oM,Sc hla,ht]
   rw[hbad] at hgood;cases hgood
  rw[hc] at this;cases this
theorem FJ{s:eV}{au:List aU}{atoms:List bz}(ha:cR au=some atoms)(dL:gl s au=true):∀(n:Nat)(ls:List mh),(∀l∈ls,(gf s (fl l.marks atoms)).code=1∧∀k∈l.marks,k≠0 ∧ -(atoms.length:Int)≤k∧k≤atoms.length) →
 ((nS s au atoms n ls).2.2=0→lS s (nS s au atoms n ls).1 au=true)∧((nS s au atoms n ls).2.2=1→∀m,lS s m au=false)∧((nS s au atoms n ls).2.2=0∨(nS s au atoms n ls).2.2=1∨(nS s au atoms n ls).2.2=2)
 | 0,ls,_=>⟨fun h=>by simp[nS,ye] at h,fun h=>by simp[nS,ye] at h,.inr (.inr rfl)⟩
 | n+1,ls,hls=>by have hdc:=fun dL=>(OE ha ls dL).1;have hy:=ZL (c:=gx (gU au) ls) hdc;have hn:=aeF (c:=gx (gU au) ls);have hmuch:(ye.2.2=0→lS s ye.1 au=true)∧(ye.2.2=1→∀m,lS s m au=false)∧(ye.2.2=0∨ye.2.2=1∨ye.2.2=2):=⟨fun h=>by simp[ye] at h,fun h=>by simp[ye] at h,.inr (.inr rfl)⟩;rw[nS];rcases aa ((lk (gx (gU au) ls)).2.2=false) with h1|h1;rw[if_pos h1];exact hmuch;rw[if_neg h1];have h1:(lk (gx (gU au) ls)).2.2=true:=(by simpa using h1);rcases aa ((lk (gx (gU au) ls)).2.1≠[]) with h2|h2;rw[if_pos h2];exact⟨fun h=>by simp at h,fun _ m=>aix ha hls (hn h1 h2) m,.inr (.inl rfl)⟩;rw[if_neg h2];have h2:(lk (gx (gU au) ls)).2.1=[]:=(by simpa using h2);have hv:=hy h1 h2;generalize (lk (gx (gU au) ls)).1=aV at hv⊢;rcases aa ((gf s (fl (j7 aV atoms.length) atoms)).code=0) with h3|h3;rw[if_pos h3];exact⟨fun _=>aeX ha dL hv (adl h3),fun h=>by simp at h,.inl rfl⟩;rw[if_neg h3];rcases aa ((gf s (fl (j7 aV atoms.length) atoms)).code≠1∨ls.length=64) with h4|h4;rw[if_pos h4];exact hmuch;rw[if_neg h4];have h5:(gf s (fl (j7 aV atoms.length) atoms)).code=1:=pD fun h=>h4 (.inl h);refine FJ ha dL n _ fun l hl=>?_;rcases aM.1 hl with hl|hl;exact hls l hl;rw[bx.1 hl];exact⟨QP s atoms _ _ h5,fun k hk=>yp k ((Vu s atoms _ _).1 k hk)⟩
theorem Iu(s:eV)(au:List aU):((jo s au).2.2=0→lS s (jo s au).1 au=true)∧((jo s au).2.2=1→∀m,lS s m au=false)∧((jo s au).2.2=3↔gl s au=false)∧((jo s au).2.2=0∨(jo s au).2.2=1∨(jo s au).2.2=2∨(jo s au).2.2=3):=by
 unfold jo;cases dL:gl s au with
 | false=>exact⟨fun h=>by simp at h,fun h=>by simp at h,by simp,by simp⟩
 | true=>
  obtain⟨atoms,ha⟩:∃atoms,cR au=some atoms:=by
   cases h:cR au with
   | none=>rw[gl,h] at dL;cases dL
   | some a=>exact⟨a,rfl⟩
  rw[if_pos rfl,ha,dG];obtain⟨h1,h2,h3⟩:=FJ ha dL 65 [] (by simp);refine⟨h1,h2,⟨fun h=>by omega,fun h=>by simp at h⟩,oM⟩
theorem Yh:∀{ts:List az},(∀t∈ts,bX t 4=true)→vt ts≤ts.length*15
 | [],_=>by simp[vt]
 | t::ts,h=>by have h1:=RS t 4 (h t (by simp));have h2:=Yh (ts:=ts) fun x hx=>h x (by simp[hx]);simp only[vt,aG];omega
theorem Rg{t:az}{d:Nat}(h:bX t d=true)(hd:d≤4):U0 t≤15:=by have:=RS t 4 (GD hd h);omega
theorem Fy:∀(a c:List az),vt (a++c)=vt a+vt c
 | [],c=>by simp[vt]
 | t::a,c=>by simp only[List.cons_append,vt,Fy a c];omega
theorem PW{b:List Int}{s:eV}:∀(n:Nat)(a:bz)(p:Int),a.A=aX→a.B=aX→(iY (mC b s) n a p).1.A=aX∧(iY (mC b s) n a p).1.B=aX
 | 0,a,p,h1,h2=>⟨h1,h2⟩
 | n+1,a,p,_,_=>by rw[iY];exact PW n _ _ rfl rfl
theorem aeL{b:List Int}(hb:rT b){s:eV}(h:fe s){p:Int}(hp:0≤p):U0 (ow b s p).1.A≤15∧U0 (ow b s p).1.B≤15:=by unfold ow;split;obtain⟨d,e,d1,d2⟩:=qV hb (p:=p+2) oM (l:=[1,2]) (by simp) (by decide);simp only[e,aS];have hx:=qz hb h d (cP b (p+1) 2) (p+3) oM d1;have hxb:=yS (b:=b) h d2 (cP b (p+1) 2) (p+3);generalize jx b s d (cP b (p+1) 2) (p+3)=x at hx hxb;obtain⟨d',e',d1',d2'⟩:=qV hb (p:=x.2) oM (l:=[1,1,2]) (by simp) (by decide);simp only[e',aS];exact⟨Rg hx d2,Rg (qz hb h d' _ _ oM d1') d2'⟩;obtain⟨h1,h2⟩:=PW (b:=b) (s:=s) (iI b (p+3) [1,2,2,3]).toNat ⟨2,aX,aX,[],[],iI b (p+1) [0,1,-1,2,3,-4],decide (cP b (p+2) 3=0)⟩ (p+4) rfl rfl;rw[h1,h2];exact⟨by decide,by decide⟩
theorem abK{b:List Int}(hb:rT b){s:eV}(h:fe s){p:Int}(hp:0≤p):U0 (Bn b s p).1≤46:=by obtain⟨d,e,d1,d2⟩:=qV hb (p:=p+1) oM (l:=[2,3,1,4]) (by simp) (by decide);have hx:=Rg (qz hb h d (cP b p 2) (p+2) oM d1) d2;unfold Bn;simp only[e,aS];generalize jx b s d (cP b p 2) (p+2)=x at hx;have hk:=ahE x.1;split;simp only[U0];omega;split;simp only[U0,Fy,vt];omega;split;simp only[U0,Fy,vt];omega;simp only;omega
theorem adZ{b:List Int}(hb:rT b){s:eV}(h:fe s){p:Int}(hp:0≤p)(no:Bool):tq ⟨(Bm b s p).1,no⟩≤300:=by have h1:=aeL hb h hp;have h2:=Lu hb h hp;have h3:=abK hb h (p:=(ow b s p).2+1) oM;have h4:=Rg (qz hb h 1 1 ((ow b s p).2+1) oM oM) oM;have h5:=Yh h2.2.2.sh;have h6:=h2.2.2.few;have h7:=h2.2.2.len;unfold Bm;simp only;generalize ow b s p=r at *;split;simp only[tq];omega;split;simp only[tq];omega;split;simp only[tq];omega;split;split;simp only[tq,List.length_set];omega;simp only[tq];omega;split;simp only[tq,Fy,vt];omega;simp only[tq];omega
theorem adF{b:List Int}(hb:rT b){p:Int}(hp:0≤p):iw (lO b p).2.1≤1300:=by
 have h1:=Cg hb (s:=(nE b p).1) (nQ _) (p:=p+1) oM;have hw:zO (mg b (nE b p).1 (p+1)).1:=Mj;obtain⟨d,e,d1,d2⟩:=qV hb (p:=(mg b (nE b p).1 (p+1)).2) oM (l:=[3,4,2,3,1]) (by simp) (by decide);have h2:=Eu hb hw d ((mg b (nE b p).1 (p+1)).2+1) oM d1;have h3:=cI (n:=2) oM d2;have hpp:(nE b p).2=p+1:=rfl;have e2:(lO b p).2.1=(jR b (mg b (nE b p).1 (p+1)).1 d ((mg b (nE b p).1 (p+1)).2+1)).1:=by simp only[lO,hpp,e,aS]
 rw[e2];omega
theorem aeA{b:List Int}(hb:rT b){p:Int}(hp:0≤p):iw (uo b p).2.1≤3000:=by have h1:=adF hb hp;have h2:=R1 hb hp;have h3:=adZ hb h2.2.2.2 (p:=(lO b p).2.2+1) oM false;have hk:=B7 (lO b p).2.1;unfold uo;simp only;split;simp only[iw];omega;split;simp only[iw,w9,dU];omega;split;simp only[iw];omega;split;simp only;omega;simp only;omega
theorem Y5:∀(p:Option p8)(xs:List Sym),rH p xs=true→tL rR xs≤4*xs.length
 | _,[],_=>by simp[tL]
 | p,x::xs,h=>by simp only[rH,ab,qd,decide_eq_true_eq] at h;have ih:=Y5 (some x.name) xs h.2.2;have:=h.1.2.1;simp only[tL,rR,aG];omega
theorem abl{s:eV}(h:gy s=true):tL rR s.cq≤28:=by simp only[gy,ab,decide_eq_true_eq] at h;have:=Y5 none s.cq h.1;omega
theorem SK{k:e7}(h:fc k=true):gy k.sig=true:=by simp only[fc,ab] at h;have h2:=h.2;unfold gl at h2;split at h2;cases h2;simp only[ab] at h2;exact h2.1
theorem UL:∀(n:Nat),tL dU (List.replicate n ([]:List aU))=0
 | 0=>rfl
 | n+1=>by simp only[List.replicate_succ,tL,dU,UL n]
theorem Ub{b:List Int}{k:e7}{p:Int}:tL dU (u5 b k p).1.aA≤tL dU k.aA+7:=by unfold u5;split;simp[tL];split;simp only[Ro,UL];omega;split;simp only;omega;split;simp only;split;simp[tL];rename_i x l hx;rw[hx];have:iw Dq=7:=rfl;simp only[tL,w9,dU];omega;simp only;omega
theorem UU{c:List Int}(hb:rT c)(dL:fc (od c).1=true):di (od c).1≤3000∧iw (od c).2≤3000:=by have h0:=B5 hb (p:=0) oM;obtain⟨d,e,d1,d2⟩:=Mf hb;have hA:=Eu hb h0.2.2.2.1 d ((ib c 0).2.2+1) oM d1;have hp:=cI (n:=2) oM d2;have hAb:=DE hb (atoms:=(ib c 0).2.1) d ((ib c 0).2.2+1) oM;have hsig:=abl (SK dL);constructor;have h1:tL dU (od c).1.aA≤tL dU (ib c 0).1.aA+7:=Ub;have h2:=h0.2.2.1;simp only[di] at h2⊢;omega;have hs:=aeA hb (p:=(jR c (ib c 0).2.1 d ((ib c 0).2.2+1)).2+1) oM;simp only[od,e,aS];split;exact hs;simp only;omega
theorem xx:∀(l:List (List aU))(f:aU),l≠[]→(cM l f).flatten=l.flatten++[f]
 | [],_,h=>absurd rfl h
 | [x],f,_=>by simp[cM]
 | x::y::l,f,_=>by rw[cM,dt,xx (y::l) f (by simp)];simp only[dt,List.append_assoc]
end Go.Mod
