/-
  Searches that can find nothing: what they decide is an atom each time. In plain Lean, no program is walked here.
-/
import Derived.Test.YtgpjhjalfakpoaaGreatKAEc
set_option linter.unusedVariables false
set_option linter.unusedSimpArgs false
open Bool renaming and_eq_true→ae,false_eq_true→ak
open Classical renaming em→aa
open Int renaming le_refl→fy
open List renaming getElem_mem→ai,length_cons→aq,mem_append→aE,contains_iff_mem→bo,all_eq_true→bS,mem_singleton→bU,mem_filter→cJ,mem_append_left→dy,any_eq_true→gj
namespace Go.Mod
open Go.Eng
set_option maxRecDepth 100000
theorem Hc{list:List (List Int)}{put:List Int}(h:gY put)(hl:∀x∈list,∀l∈x,l≠0∧l.natAbs≤60)(hn:(scan put list).1≠0):gY (put++[(scan put list).1]):=by
 obtain⟨c,hc,h1,h2,h3⟩:=xP hn
 have:=hl c hc _ h1
 exact r5 h this.1 this.2 h2 h3
theorem xh{list:List (List Int)}(hl:∀x∈list,∀l∈x,l≠0∧l.natAbs≤60):∀(n:Nat)(put:List Int),gY put→61≤n+put.length →
 gY (ma list n put).1∧(∀x∈put,x∈(ma list n put).1)∧((ma list n put).2=false→scan (ma list n put).1 list=(0,false))
 | 0,put,hp,hn=>by
   have:=kU hp
   omega
 | n+1,put,hp,hn=>by
   rw[ma]
   cases h1:(scan put list).2
   ·simp only[ak,if_false]
    rcases aa ((scan put list).1=0) with h2|h2
    ·rw[if_pos h2]
     exact⟨hp,fun x hx=>hx,fun _=>Prod.ext h2 h1⟩
    ·rw[if_neg h2]
     have ih:=xh hl n (put++[(scan put list).1]) (Hc hp hl h2) (by simp;omega)
     exact⟨ih.1,fun x hx=>ih.2.1 x (dy _ hx),ih.2.2⟩
   ·simp only[if_true]
    exact⟨hp,fun x hx=>hx,fun h=>by cases h⟩
theorem HJ{list:List (List Int)}(hl:∀x∈list,∀l∈x,l≠0∧l.natAbs≤60){put:List Int}(hp:gY put) :
 gY (eF list put).1∧(∀x∈put,x∈(eF list put).1)∧((eF list put).2=false→scan (eF list put).1 list=(0,false)):=
 xh hl _ put hp (by omega)
theorem zx{put:List Int}:∀{list:List (List Int)},scan put list=(0,false)→∀x∈list,unit put x=(0,false)
 | [],_,x,hx=>by simp at hx
 | c::cs,h,x,hx=>by
   simp only[scan] at h
   split at h
   ·cases h
   rename_i h1
   split at h
   ·rename_i h2
    rcases List.mem_cons.1 hx with rfl|hx
    ·exact Prod.ext h2 (by simpa using h1)
    ·exact zx h x hx
   ·rename_i h2
    exact absurd (congrArg Prod.fst h) h2
theorem FR{put x:List Int}(h:unit put x=(0,false))(h0:∀l∈x,l≠0):(∃l∈x,l∈put)∨∃a b rest,x.filter (fun l=>!put.contains (-l))=a::b::rest∧∀l∈x,l∉put:=by
 unfold unit at h
 split at h
 ·rename_i ha
  obtain⟨l,h1,h2⟩:=gj.1 ha
  exact .inl ⟨l,h1,bo.1 h2⟩
 ·rename_i ha
  split at h
  ·cases h
  ·rename_i l hl
   have hm:l∈x.filter (fun l=>!put.contains (-l)):=by rw[hl];simp
   exact absurd (congrArg Prod.fst h) (h0 l (cJ.1 hm).1)
  ·rename_i h1 h2
   match hf:x.filter (fun l=>!put.contains (-l)),h1,h2 with
   | [],h1,_=>exact absurd rfl h1
   | [l],_,h2=>exact absurd rfl (h2 l)
   | a::b::rest,_,_=>
     exact .inr ⟨a,b,rest,rfl,fun l hl hp=>ha (gj.2 ⟨l,hl,bo.2 hp⟩)⟩
def An(put:List Int)(f:Int)(b:Bool)(i:Int):Bool:=if i=f then b else put.contains i
theorem FH{put:List Int}(hp:gY put){f:Int}{b:Bool}(h1:f∉put)(h2:-f∉put){l:Int}(hl:l∈put):fH (An put f b) l=true:=by
 have hf:=Hl hp l hl
 unfold fH An
 split
 ·rw[if_neg (fun e:l=f=>h1 (e▸hl))]
  exact bo.2 hl
 ·rw[if_neg (fun e:-l=f=>h2 (by rw[←e];simpa using hl))]
  cases hh:put.contains (-l)
  ·rfl
  ·exact absurd (bo.1 hh) hf
def Told(put:List Int)(x:Int):Prop:=x∈put ∨ -x∈put
theorem GM{put:List Int}{l:Int}(h:Told put (l.natAbs:Int)):l∈put ∨ -l∈put:=by
 unfold Told at h
 rcases Int.natAbs_eq l with e|e
 ·rw[←e] at h;exact h
 ·have e2:(l.natAbs:Int) = -l:=by omega
  rw[e2] at h
  rcases h with h|h
  ·exact .inr h
  ·exact .inl (by simpa using h)
theorem vT{put:List Int}(hp:gY put){f:Int}(h1:f∉put)(h2:-f∉put){x:List Int}(hx:Gm x)(h0:∀l∈x,l≠0)(ht:∀l∈x,Told put (l.natAbs:Int)∨(l.natAbs:Int)=f)(hu:unit put x=(0,false))(b:Bool):gn (An put f b) x=true:=by
 rcases FR hu h0 with⟨l,hl,hm⟩|⟨p,q,rest,hf,hno⟩
 ·exact gj.2 ⟨l,hl,FH hp h1 h2 hm⟩
 ·exfalso
  have nh:∀l∈x.filter (fun l=>!put.contains (-l)),(l.natAbs:Int)=f:=fun l hl=>by
   obtain⟨m1,m2⟩:=cJ.1 hl
   rcases ht l m1 with h|h
   ·rcases GM h with h|h
    ·exact absurd h (hno l m1)
    ·rw[bo.2 h] at m2;cases m2
   ·exact h
  have hs:(x.filter (fun l=>!put.contains (-l))).Pairwise fun a b=>a.natAbs<b.natAbs:=hx.filter _
  have e1:=nh p (by rw[hf];simp)
  have e2:=nh q (by rw[hf];simp)
  rw[hf] at hs
  have:=(List.pairwise_cons.1 hs).1 q (by simp)
  omega
def tY(atoms:List Atom)(c:dh)(f:Int):Prop:=∃(c':dh)(t:Form),(∀x∈c'.list,x∈c.list)∧(∀x∈c'.list,Good f x)∧∀v:Int→Bool,kX v c'=true→v f=holds (fun a=>v (bA atoms a+1)) t
theorem tY.up{atoms:List Atom}{c d:dh}{f:Int}(h:tY atoms c f)(hs:∀x∈c.list,x∈d.list):tY atoms d f:=by
 obtain⟨c',t,h1,h2,h3⟩:=h
 exact⟨c',t,fun x hx=>hs x (h1 x hx),h2,h3⟩
theorem fv{c:dh}{l x:List Int}(h:x∈c.list):x∈(cj c l).list:=by
 unfold cj
 split
 ·exact h
 ·exact dy _ h
theorem Fs{k v a b:Int}{c:dh}{x:List Int}(h:x∈c.list):x∈(ir k c v a b).list:=by
 unfold ir Eg xt
 split
 ·exact fv (fv (fv h))
 ·split
  ·exact fv (fv (fv h))
  ·split
   ·exact fv (fv (fv h))
   ·exact fv (fv (fv (fv h)))
theorem Bn:∀(t:Form)(d:Nat)(atoms:List Atom)(c:dh),aJ t d=true→inside atoms t→(atoms.length:Int)≤c.many→c.many+bJ t d≤60→(∀x∈c.list,Good c.many x)→(∀f:Int,atoms.length<f→f≤c.many→tY atoms c f) →
 ∀f:Int,atoms.length<f→f≤(a6 atoms t c).1.many→tY atoms (a6 atoms t c).1 f:=by
 refine Form.ind fun k l ks ih d atoms c hsh nh hc hb hg dg=>?_
 generalize ht:Form.mk k l ks=t at *
 have hkids:t.kids=ks:=by rw[←ht];rfl
 rw[←hkids] at ih
 cases d with
 | zero=>rw[←ht] at hsh;simp[aJ] at hsh
 | succ d=>
 have hk:=cp hsh
 have hmany:bJ t (d+1)=1+bl t.kids d:=by rw[←ht];rfl
 rcases j6 hk.1 with⟨k1,hl0⟩|⟨k2,hl1⟩|⟨k3,hl2⟩
 ·rw[pj k1];exact dg
 ·have h0:0<t.kids.length:=by omega
  have hk0:=ai h0
  have e1:bl t.kids d=bJ t.kids[0] d:=by
   obtain⟨u,hu⟩:=List.length_eq_one_iff.1 hl1
   simp[hu,bl]
  rw[pq k2 hl1]
  exact ih t.kids[0] hk0 d atoms c (bt hk.2.2 _ hk0) (du nh (by omega) _ hk0) hc (by omega) hg dg
 ·have n1:t.kind≠1:=by omega
  have n2:t.kind≠2:=by omega
  have h0:0<t.kids.length:=by omega
  have h1:1<t.kids.length:=by omega
  have hk0:=ai h0
  have hs0:=bt hk.2.2 _ hk0
  have hi0:=du nh n1 _ hk0
  have hk1:=ai h1
  have hs1:=bt hk.2.2 _ hk1
  have hi1:=du nh n1 _ hk1
  have e1:bl t.kids d=bJ t.kids[0] d+bJ t.kids[1] d:=by
   have key:∀ks:List Form,(hl:ks.length=2)→bl ks d=bJ ks[0] d+bJ ks[1] d:=by
    intro ks hl
    match ks,hl with
    | [u,u'],_=>simp[bl]
   exact key _ hl2
  have g0:=c9 t.kids[0] d atoms c hs0
  have q0:=dR t.kids[0] d atoms c hs0 hi0 hc (by omega)
  have r0:=ny t.kids[0] d atoms c hs0 hi0 hc hg
  have i0:=ih t.kids[0] hk0 d atoms c hs0 hi0 hc (by omega) hg dg
  have g1:=c9 t.kids[1] d atoms (a6 atoms t.kids[0] c).1 hs1
  have i1:=ih t.kids[1] hk1 d atoms (a6 atoms t.kids[0] c).1 hs1 hi1 (by omega) (by omega) r0 i0
  have gT:=ny t (d+1) atoms c hsh nh hc hg
  have tT:=fun v=>E3 v t (d+1) atoms c hsh nh hc hb
  have e:=pn (atoms:=atoms) (c:=c) n1 n2 hl2
  intro f hf hfm
  rcases aa (f≤(a6 atoms t.kids[1] (a6 atoms t.kids[0] c).1).1.many) with hlast|hlast
  ·rw[e]
   exact(i1 f hf hlast).up fun x hx=>Fs hx
  ·have e2:(a6 atoms t c).1.many=(a6 atoms t.kids[1] (a6 atoms t.kids[0] c).1).1.many+1:=by rw[e];simp only[lC]
   have e3:(a6 atoms t c).2=(a6 atoms t.kids[1] (a6 atoms t.kids[0] c).1).1.many+1:=by rw[e]
   have ef:f=(a6 atoms t c).1.many:=by omega
   refine⟨(a6 atoms t c).1,t,fun x hx=>hx,by rw[ef];exact gT,fun v hv=>?_⟩
   obtain⟨_,t2,t3⟩:=tT v
   rw[t2,ae] at hv
   have:=t3 hv.2
   rw[e3,←e2,←ef,mS (by omega)] at this
   exact this
theorem tU(atoms:List Atom):∀(fs:List Form)(c:dh),(∀f∈fs,eC f=true∧inside atoms f)→(atoms.length:Int)≤c.many→c.many+10*fs.length≤60→(∀x∈c.list,Good c.many x)→(∀f:Int,atoms.length<f→f≤c.many→tY atoms c f) →
 ∀f:Int,atoms.length<f→f≤(fO atoms fs c).many→tY atoms (fO atoms fs c) f
 | [],c,_,_,_,_,dg=>dg
 | t::fs,c,hf,hc,hb,hg,dg=>by
   obtain⟨f1,f2⟩:=hf t (by simp)
   have hs:=eL f1
   simp only[aq] at hb
   have g:=c9 t 5 atoms c hs.1
   have q:=dR t 5 atoms c hs.1 f2 hc (by omega)
   have r:=ny t 5 atoms c hs.1 f2 hc hg
   have st:=Bn t 5 atoms c hs.1 f2 hc (by omega) hg dg
   simp only[fO]
   refine tU atoms fs (cj (a6 atoms t c).1 [(a6 atoms t c).2]) (fun x hx=>hf x (by simp[hx])) (by rw[eS];omega) (by rw[eS];omega) (by
    rw[eS]
    exact hX r fun x hx=>by simp only[bU] at hx;omega) fun f h1 h2=>?_
   rw[eS] at h2
   exact(st f h1 h2).up fun x hx=>fv hx
theorem BH{list:List Form}{atoms:List Atom}(h:bZ list=some atoms):∀f:Int,atoms.length<f→f≤(gW list).many→tY atoms (gW list) f:=by
 obtain⟨p1,p2,p3,p4⟩:=dw h
 rw[jU h]
 exact tU atoms list ⟨atoms.length,[]⟩ (fun f hf=>⟨p2 f hf,by rw[p4];exact jv hf⟩) (fy _) (by simp only;omega) (by simp) (fun f h1 h2=>by simp only at h2;omega)
def gM(put:List Int):Nat→Int→Int
 | 0,f=>f
 | v+1,f=>gM put v (if put.contains ((v:Int)+1) then f else if put.contains (-((v:Int)+1)) then f else(v:Int)+1)
theorem tO{put:List Int}:∀(n:Nat)(f:Int),(gM put n f=f∧∀x:Int,1≤x→x≤n→Told put x)∨(1≤gM put n f∧gM put n f≤n∧¬Told put (gM put n f)∧∀x:Int,1≤x→x<gM put n f→Told put x)
 | 0,f=>.inl ⟨rfl,fun x h1 h2=>by simp at h2;omega⟩
 | n+1,f=>by
   rw[gM]
   have ih:=tO (put:=put) n (if put.contains ((n:Int)+1) then f else if put.contains (-((n:Int)+1)) then f else(n:Int)+1)
   have up:Told put ((n:Int)+1)→(∀x:Int,1≤x→x≤n→Told put x)→∀x:Int,1≤x→x≤((n+1:Nat):Int)→Told put x:=fun h0 h x h1 h2=>by
    rcases aa (x=(n:Int)+1) with e|e
    ·rw[e];exact h0
    ·exact h x h1 (by omega)
   rcases ih with⟨e,h⟩|⟨h1,h2,h3,h4⟩
   ·rw[e]
    cases c1:put.contains ((n:Int)+1)
    ·cases c2:put.contains (-((n:Int)+1))
     ·simp only[ak,if_false]
      refine .inr ⟨by omega,by omega,?_,fun x g1 g2=>h x g1 (by omega)⟩
      rintro(g|g)
      ·rw[bo.2 g] at c1;cases c1
      ·rw[bo.2 g] at c2;cases c2
     ·simp only[ak,if_false,if_true]
      exact .inl ⟨trivial,up (.inr (bo.1 c2)) h⟩
    ·simp only[if_true]
     exact .inl ⟨trivial,up (.inl (bo.1 c1)) h⟩
   ·exact .inr ⟨h1,by omega,h3,h4⟩
structure Un(n:Nat)(c:dh):Prop where
 On:n≤6
 many:0≤c.many∧c.many≤60
 ok:mg c=true
 len:c.list.length≤400
 clause:∀x∈c.list,(∀l∈x,l≠0∧l.natAbs≤60)∧x.length≤1000
 key:∀put:List Int,gY put→scan put c.list=(0,false)→∃f:Nat,gM put c.many.toNat 0=f∧1≤f∧f≤n∧(f:Int)∉put ∧ -(f:Int)∉put
theorem GN{list:List Form}{atoms:List Atom}(h:bZ list=some atoms)(hno:∀w:Atom→Bool,list.all (holds w)=false):Un atoms.length (gW list):=by
 obtain⟨p1,p2,p3,p4⟩:=dw h
 have kG:=GZ list
 have hT:=fun v=>(KY h v).2
 have dg:=BH h
 have hgood:∀x∈(gW list).list,Good (gW list).many x:=by
  rw[jU h]
  exact(qk atoms list ⟨atoms.length,[]⟩ (fun f hf=>⟨p2 f hf,by rw[p4];exact jv hf⟩) (fy _) (by simp)).1
 have hok':=kG
 simp only[mg,ae,decide_eq_true_eq,bS] at hok'
 have hm:=cz.1 hok'.1
 generalize gW list=c at *
 refine⟨p3,hm,kG,hok'.2.1,fun x hx=>?_,fun put hp hs=>?_⟩
 ·obtain⟨g1,g2⟩:=hgood x hx
  refine⟨fun l hl=>⟨(g2 l hl).1,by have:=g2 l hl;omega⟩,?_⟩
  have:=kU (put:=x) ⟨g1.imp fun h=>by omega,fun l hl=>⟨(g2 l hl).1,by have:=g2 l hl;omega⟩⟩
  omega
 ·have hnone:=zx hs
  rcases tO (put:=put) c.many.toNat 0 with⟨_,pa⟩|⟨f1,f2,f3,f4⟩
  ·exfalso
   have:kX (An put 0 true) c=true:=by
    refine bS.2 fun x hx=>?_
    obtain⟨g1,g2⟩:=hgood x hx
    refine vT hp (fun h=>(hp.2 _ h).1 rfl) (fun h=>(hp.2 _ h).1 rfl) g1 (fun l hl=>(g2 l hl).1) (fun l hl=>.inl (pa _ ?_ ?_)) (hnone x hx) true
    ·have:=g2 l hl;omega
    ·have:=g2 l hl;omega
   rw[hT,hno,Bool.and_false] at this
   cases this
  ·obtain⟨f,hf⟩:∃f:Nat,gM put c.many.toNat 0=f:=⟨(gM put c.many.toNat 0).toNat,by omega⟩
   rw[hf] at f1 f2 f3 f4
   have n1:(f:Int)∉put:=fun h=>f3 (.inl h)
   have n2:-(f:Int)∉put:=fun h=>f3 (.inr h)
   refine⟨f,hf,by omega,?_,n1,n2⟩
   refine Decidable.byContradiction fun hgt=>?_
   obtain⟨c',t,s1,s2,s3⟩:=dg f (by omega) (by omega)
   have hb:∀b,kX (An put f b) c'=true:=fun b=>by
    refine bS.2 fun x hx=>?_
    obtain⟨g1,g2⟩:=s2 x hx
    refine vT hp n1 n2 g1 (fun l hl=>(g2 l hl).1) (fun l hl=>?_) (hnone x (s1 x hx)) b
    have:=g2 l hl
    rcases aa ((l.natAbs:Int)=f) with e|e
    ·exact .inr e
    ·exact .inl (f4 _ (by omega) (by omega))
   have e1:=s3 _ (hb true)
   have e2:=s3 _ (hb false)
   have ew:(fun a=>An put f true (bA atoms a+1))=fun a=>An put f false (bA atoms a+1):=by
    funext a
    have hb:=Gu atoms a
    have n9:bA atoms a+1≠(f:Int):=by
     rcases hb.2 with h|h
     ·omega
     ·subst h
      have:bA [] a = -1:=rfl
      omega
    simp only[An,if_neg n9]
   rw[ew,←e2] at e1
   simp[An] at e1
structure lL where
 fuel:Int
 log:List (List Int)
 out:Bool
def mf(dec:List Int)(h:lL):lL:=⟨h.fuel,h.log++[(dD (dec.map fun l=>-l)).getD []],h.out⟩
def dK(c:dh):Nat→List Int→lL→lL
 | 0,_,h=>⟨h.fuel,h.log,true⟩
 | d+1,dec,h=>if h.fuel=0 then⟨h.fuel,h.log,true⟩ else
   if(eF c.list dec).2 then mf dec ⟨h.fuel-1,h.log,h.out⟩ else
   let f:=gM (eF c.list dec).1 c.many.toNat 0
   let g:=dK c d (dec++[-f]) ⟨h.fuel-1,h.log,h.out⟩
   if g.out then g else
   let k:=dK c d (dec++[f]) g
   if k.out then k else mf dec k
def Iy(c:dh)(d:Nat)(dec:List Int)(f:Int)(g:lL):lL:=if(dK c d (dec++[f]) g).out then dK c d (dec++[f]) g else mf dec (dK c d (dec++[f]) g)
def Ld(c:dh)(d:Nat)(dec:List Int)(f:Int)(g:lL):lL:=if(dK c d (dec++[-f]) g).out then dK c d (dec++[-f]) g else Iy c d dec f (dK c d (dec++[-f]) g)
def rU(c:dh)(d:Nat)(dec:List Int)(f:Int)(i:Nat)(g:lL):lL:=if i=0 then Ld c d dec f g else if i=1 then Iy c d dec f g else mf dec g
theorem Ep(c:dh)(d:Nat)(dec:List Int)(f:Int)(g:lL):rU c d dec f 0 g=if(dK c d (dec++[-f]) g).out then dK c d (dec++[-f]) g else rU c d dec f 1 (dK c d (dec++[-f]) g):=rfl
theorem FO(c:dh)(d:Nat)(dec:List Int)(f:Int)(g:lL):rU c d dec f 1 g=if(dK c d (dec++[f]) g).out then dK c d (dec++[f]) g else rU c d dec f 2 (dK c d (dec++[f]) g):=rfl
theorem Fu(c:dh)(d:Nat)(dec:List Int)(f:Int)(g:lL):rU c d dec f 2 g=mf dec g:=rfl
theorem xg{c:dh}{d:Nat}{dec:List Int}{h:lL}(h0:h.fuel=0):dK c d dec h=⟨h.fuel,h.log,true⟩:=by
 cases d with
 | zero=>rfl
 | succ d=>rw[dK,if_pos h0]
theorem zD{c:dh}{d:Nat}{dec:List Int}{h:lL}(h0:h.fuel≠0)(hb:(eF c.list dec).2=true):dK c (d+1) dec h=mf dec ⟨h.fuel-1,h.log,h.out⟩:=by
 rw[dK,if_neg h0,if_pos hb]
theorem xd{c:dh}{d:Nat}{dec:List Int}{h:lL}(h0:h.fuel≠0)(hb:(eF c.list dec).2=false){f:Int}(hf:gM (eF c.list dec).1 c.many.toNat 0=f):dK c (d+1) dec h=rU c d dec f 0 ⟨h.fuel-1,h.log,h.out⟩:=by
 rw[dK,if_neg h0,hb,if_neg (by simp),hf]
 rfl
theorem z8(c:dh):∀(d:Nat)(dec:List Int)(h:lL),0≤h.fuel →
 0≤(dK c d dec h).fuel∧(dK c d dec h).fuel≤h.fuel∧((dK c d dec h).log.length:Int)+(dK c d dec h).fuel≤h.log.length+h.fuel∧((dK c d dec h).out=false→(dK c d dec h).log≠[]):=by
 intro d
 induction d with
 | zero=>intro dec h hf;simp[dK];omega
 | succ d ih=>
   intro dec h hf
   rcases aa (h.fuel=0) with h0|h0
   ·rw[xg h0];simp;omega
   have hl:∀g:lL,0≤g.fuel→g.fuel≤h.fuel→(g.log.length:Int)+g.fuel+1≤h.log.length+h.fuel→0≤(mf dec g).fuel∧(mf dec g).fuel≤h.fuel∧((mf dec g).log.length:Int)+(mf dec g).fuel≤h.log.length+h.fuel∧((mf dec g).out=false→(mf dec g).log≠[]):=fun g h1 h2 h3=>by
    simp only[mf,List.length_append,aq,List.length_nil]
    exact⟨h1,h2,by omega,fun _=>by simp⟩
   cases hb:(eF c.list dec).2 with
   | true=>
     rw[zD h0 hb]
     exact hl ⟨h.fuel-1,h.log,h.out⟩ (by simp only;omega) (by simp only;omega) (by simp only;omega)
   | false=>
     rw[xd h0 hb rfl]
     generalize gM (eF c.list dec).1 c.many.toNat 0=f
     have i1:=ih (dec++[-f]) ⟨h.fuel-1,h.log,h.out⟩ (by simp only;omega)
     simp only[rU,if_true,Ld]
     generalize dK c d (dec++[-f]) ⟨h.fuel-1,h.log,h.out⟩=g at i1⊢
     simp only at i1
     split
     ·exact⟨i1.1,by omega,by omega,i1.2.2.2⟩
     ·have i2:=ih (dec++[f]) g i1.1
      simp only[Iy]
      generalize dK c d (dec++[f]) g=k at i2⊢
      split
      ·exact⟨i2.1,by omega,by omega,i2.2.2.2⟩
      ·exact hl k i2.1 (by omega) (by omega)
def uo(n:Nat)(dec:List Int):Prop:=gY dec∧∀l∈dec,l.natAbs≤n
theorem uo.len{n:Nat}{dec:List Int}(h:uo n dec):dec.length≤n:=by
 have h1:=Ak n (dec.map fun m=>m.natAbs-1) (by
  rw[List.pairwise_map]
  refine List.Pairwise.imp_of_mem ?_ h.1.1
  intro a b ha hb hab e
  have:=h.1.2 a ha
  have:=h.1.2 b hb
  exact hab (by omega)) (fun x hx=>by
  obtain⟨m,hm,rfl⟩:=List.mem_map.1 hx
  have:=h.1.2 m hm
  have:=h.2 m hm
  omega)
 rwa [List.length_map] at h1
theorem uo.snoc{n:Nat}{c:dh}(hu:Un n c){dec:List Int}(h:uo n dec)(hb:(eF c.list dec).2=false):∃f:Nat,gM (eF c.list dec).1 c.many.toNat 0=f∧1≤f∧f≤n∧uo n (dec++[-(f:Int)])∧uo n (dec++[(f:Int)]):=by
 obtain⟨u1,u2,u3⟩:=HJ (fun x hx l hl=>(hu.clause x hx).1 l hl) h.1
 obtain⟨f,f1,f2,f3,f4,f5⟩:=hu.key _ u1 (u3 hb)
 have h6:=hu.On
 refine⟨f,f1,f2,f3,⟨r5 h.1 (by omega) (by omega) (fun hh=>f5 (u2 _ hh)) (fun hh=>f4 (u2 _ (by simpa using hh))),?_⟩,⟨r5 h.1 (by omega) (by omega) (fun hh=>f4 (u2 _ hh)) (fun hh=>f5 (u2 _ hh)),?_⟩⟩
 ·intro l hl
  rcases aE.1 hl with hl|hl
  ·exact h.2 l hl
  ·rw[bU.1 hl];omega
 ·intro l hl
  rcases aE.1 hl with hl|hl
  ·exact h.2 l hl
  ·rw[bU.1 hl];omega
end Go.Mod
