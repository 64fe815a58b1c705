/-
  Searches that can find nothing: what they decide is an atom each time. In plain Lean, no program is walked here.
-/
import Derived.Test.YtgpjhjalfakpoaaGreatKBEc
import Derived.Test.YtgpjhjalfakpoaaGreatKBEb
set_option linter.unusedVariables false
set_option linter.unusedSimpArgs false
open Bool renaming and_eq_true→ae,false_eq_true→al
open Classical renaming em→aa
open Int renaming le_refl→fM
open List renaming getElem_mem→ah,length_append→ao,length_cons→aq,mem_cons→aw,mem_append→aG,contains_iff_mem→bq,all_eq_true→bz,length_nil→bH,mem_singleton→bX,mem_filter→cM,mem_append_left→da,any_eq_true→gw
namespace Go.Mod
open Go.Eng
set_option maxRecDepth 100000
theorem HD{list:List (List Int)}{put:List Int}(h:im put)(hl:∀x∈list,∀l∈x,l≠0∧l.natAbs≤60)(hn:(scan put list).1≠0):im (put++[(scan put list).1]):=by
 obtain⟨c,hc,h1,h2,h3⟩:=xg hn
 have:=hl c hc _ h1
 exact su h this.1 this.2 h2 h3
theorem xt{list:List (List Int)}(hl:∀x∈list,∀l∈x,l≠0∧l.natAbs≤60):∀(n:Nat)(put:List Int),im put→61≤n+put.length →
 im (mQ list n put).1∧(∀x∈put,x∈(mQ list n put).1)∧((mQ list n put).2=false→scan (mQ list n put).1 list=(0,false))
 | 0,put,hp,hn=>by
   have:=ll hp
   omega
 | n+1,put,hp,hn=>by
   rw[mQ]
   cases h1:(scan put list).2
   ·simp only[al,if_false]
    rcases aa ((scan put list).1=0) with h2|h2
    ·rw[if_pos h2]
     exact⟨hp,fun x hx=>hx,fun _=>Prod.ext h2 h1⟩
    ·rw[if_neg h2]
     have ih:=xt hl n (put++[(scan put list).1]) (HD hp hl h2) (by simp;omega)
     exact⟨ih.1,fun x hx=>ih.2.1 x (da _ hx),ih.2.2⟩
   ·simp only[if_true]
    exact⟨hp,fun x hx=>hx,fun h=>by cases h⟩
theorem H6{list:List (List Int)}(hl:∀x∈list,∀l∈x,l≠0∧l.natAbs≤60){put:List Int}(hp:im put) :
 im (eX list put).1∧(∀x∈put,x∈(eX list put).1)∧((eX list put).2=false→scan (eX list put).1 list=(0,false)):=
 xt hl _ put hp (by omega)
theorem zW{put:List Int}:∀{list:List (List Int)},scan put list=(0,false)→∀x∈list,unit put x=(0,false)
 | [],_,x,hx=>by simp at hx
 | c::cs,h,x,hx=>by
   simp only[scan] at h
   split at h
   ·cases h
   rename_i h1
   split at h
   ·rename_i h2
    rcases aw.1 hx with rfl|hx
    ·exact Prod.ext h2 (by simpa using h1)
    ·exact zW h x hx
   ·rename_i h2
    exact absurd (congrArg Prod.fst h) h2
theorem GF{put x:List Int}(h:unit put x=(0,false))(h0:∀l∈x,l≠0):(∃l∈x,l∈put)∨∃a b rest,x.filter (fun l=>!put.contains (-l))=a::b::rest∧∀l∈x,l∉put:=by
 unfold unit at h
 split at h
 ·rename_i ha
  obtain⟨l,h1,h2⟩:=gw.1 ha
  exact .inl ⟨l,h1,bq.1 h2⟩
 ·rename_i ha
  split at h
  ·cases h
  ·rename_i l hl
   have hm:l∈x.filter (fun l=>!put.contains (-l)):=by rw[hl];simp
   exact absurd (congrArg Prod.fst h) (h0 l (cM.1 hm).1)
  ·rename_i h1 h2
   match hf:x.filter (fun l=>!put.contains (-l)),h1,h2 with
   | [],h1,_=>exact absurd rfl h1
   | [l],_,h2=>exact absurd rfl (h2 l)
   | a::b::rest,_,_=>
     exact .inr ⟨a,b,rest,rfl,fun l hl hp=>ha (gw.2 ⟨l,hl,bq.2 hp⟩)⟩
def Bf(put:List Int)(f:Int)(b:Bool)(i:Int):Bool:=if i=f then b else put.contains i
theorem F3{put:List Int}(hp:im put){f:Int}{b:Bool}(h1:f∉put)(h2:-f∉put){l:Int}(hl:l∈put):fU (Bf put f b) l=true:=by
 have hf:=I5 hp l hl
 unfold fU Bf
 split
 ·rw[if_neg (fun e:l=f=>h1 (e▸hl))]
  exact bq.2 hl
 ·rw[if_neg (fun e:-l=f=>h2 (by rw[←e];simpa using hl))]
  cases hh:put.contains (-l)
  ·rfl
  ·exact absurd (bq.1 hh) hf
def Told(put:List Int)(x:Int):Prop:=x∈put ∨ -x∈put
theorem JG{put:List Int}{l:Int}(h:Told put (l.natAbs:Int)):l∈put ∨ -l∈put:=by
 unfold Told at h
 rcases Int.natAbs_eq l with e|e
 ·rw[←e] at h;exact h
 ·have e2:(l.natAbs:Int) = -l:=by omega
  rw[e2] at h
  rcases h with h|h
  ·exact .inr h
  ·exact .inl (by simpa using h)
theorem yz{put:List Int}(hp:im put){f:Int}(h1:f∉put)(h2:-f∉put){x:List Int}(hx:F6 x)(h0:∀l∈x,l≠0)(ht:∀l∈x,Told put (l.natAbs:Int)∨(l.natAbs:Int)=f)(hu:unit put x=(0,false))(b:Bool):gD (Bf put f b) x=true:=by
 rcases GF hu h0 with⟨l,hl,hm⟩|⟨p,q,rest,hf,hno⟩
 ·exact gw.2 ⟨l,hl,F3 hp h1 h2 hm⟩
 ·exfalso
  have nH:∀l∈x.filter (fun l=>!put.contains (-l)),(l.natAbs:Int)=f:=fun l hl=>by
   obtain⟨m1,m2⟩:=cM.1 hl
   rcases ht l m1 with h|h
   ·rcases JG h with h|h
    ·exact absurd h (hno l m1)
    ·rw[bq.2 h] at m2;cases m2
   ·exact h
  have hs:(x.filter (fun l=>!put.contains (-l))).Pairwise fun a b=>a.natAbs<b.natAbs:=hx.filter _
  have e1:=nH p (by rw[hf];simp)
  have e2:=nH q (by rw[hf];simp)
  rw[hf] at hs
  have:=(List.pairwise_cons.1 hs).1 q (by simp)
  omega
def uZ(atoms:List Atom)(c:dq)(f:Int):Prop:=∃(c':dq)(t:Form),(∀x∈c'.list,x∈c.list)∧(∀x∈c'.list,Good f x)∧∀v:Int→Bool,lE v c'=true→v f=holds (fun a=>v (bD atoms a+1)) t
theorem uZ.up{atoms:List Atom}{c d:dq}{f:Int}(h:uZ atoms c f)(hs:∀x∈c.list,x∈d.list):uZ atoms d f:=by
 obtain⟨c',t,h1,h2,h3⟩:=h
 exact⟨c',t,fun x hx=>hs x (h1 x hx),h2,h3⟩
theorem fH{c:dq}{l x:List Int}(h:x∈c.list):x∈(ck c l).list:=by
 unfold ck
 split
 ·exact h
 ·exact da _ h
theorem Gg{k v a b:Int}{c:dq}{x:List Int}(h:x∈c.list):x∈(iH k c v a b).list:=by
 unfold iH Dq yg
 split
 ·exact fH (fH (fH h))
 ·split
  ·exact fH (fH (fH h))
  ·split
   ·exact fH (fH (fH h))
   ·exact fH (fH (fH (fH h)))
theorem C5:∀(t:Form)(d:Nat)(atoms:List Atom)(c:dq),aL t d=true→inside atoms t→(atoms.length:Int)≤c.many→c.many+bL t d≤60→(∀x∈c.list,Good c.many x)→(∀f:Int,atoms.length<f→f≤c.many→uZ atoms c f) →
 ∀f:Int,atoms.length<f→f≤(a7 atoms t c).1.many→uZ atoms (a7 atoms t c).1 f:=by
 refine Form.ind fun k l ks ih d atoms c hsh nH hc hb hg dh=>?_
 generalize ht:Form.mk k l ks=t at *
 have hkids:t.kids=ks:=by rw[←ht];rfl
 rw[←hkids] at ih
 cases d with
 | zero=>rw[←ht] at hsh;simp[aL] at hsh
 | succ d=>
 have hk:=cz hsh
 have hmany:bL t (d+1)=1+bn t.kids d:=by rw[←ht];rfl
 rcases kl hk.1 with⟨k1,hl0⟩|⟨k2,hl1⟩|⟨k3,hl2⟩
 ·rw[pQ k1];exact dh
 ·have h0:0<t.kids.length:=by omega
  have hk0:=ah h0
  have e1:bn t.kids d=bL t.kids[0] d:=by
   obtain⟨u,hu⟩:=List.length_eq_one_iff.1 hl1
   simp[hu,bn]
  rw[pR k2 hl1]
  exact ih t.kids[0] hk0 d atoms c (bx hk.2.2 _ hk0) (dA nH (by omega) _ hk0) hc (by omega) hg dh
 ·have n1:t.kind≠1:=by omega
  have n2:t.kind≠2:=by omega
  have h0:0<t.kids.length:=by omega
  have h1:1<t.kids.length:=by omega
  have hk0:=ah h0
  have hs0:=bx hk.2.2 _ hk0
  have hi0:=dA nH n1 _ hk0
  have hk1:=ah h1
  have hs1:=bx hk.2.2 _ hk1
  have hi1:=dA nH n1 _ hk1
  have e1:bn t.kids d=bL t.kids[0] d+bL t.kids[1] d:=by
   have key:∀ks:List Form,(hl:ks.length=2)→bn ks d=bL ks[0] d+bL ks[1] d:=by
    intro ks hl
    match ks,hl with
    | [u,u'],_=>simp[bn]
   exact key _ hl2
  have g0:=dj t.kids[0] d atoms c hs0
  have q0:=eg t.kids[0] d atoms c hs0 hi0 hc (by omega)
  have r0:=nL t.kids[0] d atoms c hs0 hi0 hc hg
  have i0:=ih t.kids[0] hk0 d atoms c hs0 hi0 hc (by omega) hg dh
  have g1:=dj t.kids[1] d atoms (a7 atoms t.kids[0] c).1 hs1
  have i1:=ih t.kids[1] hk1 d atoms (a7 atoms t.kids[0] c).1 hs1 hi1 (by omega) (by omega) r0 i0
  have gT:=nL t (d+1) atoms c hsh nH hc hg
  have tT:=fun v=>Fm v t (d+1) atoms c hsh nH hc hb
  have e:=pJ (atoms:=atoms) (c:=c) n1 n2 hl2
  intro f hf hfm
  rcases aa (f≤(a7 atoms t.kids[1] (a7 atoms t.kids[0] c).1).1.many) with hlast|hlast
  ·rw[e]
   exact(i1 f hf hlast).up fun x hx=>Gg hx
  ·have e2:(a7 atoms t c).1.many=(a7 atoms t.kids[1] (a7 atoms t.kids[0] c).1).1.many+1:=by rw[e];simp only[lS]
   have e3:(a7 atoms t c).2=(a7 atoms t.kids[1] (a7 atoms t.kids[0] c).1).1.many+1:=by rw[e]
   have ef:f=(a7 atoms t c).1.many:=by omega
   refine⟨(a7 atoms t c).1,t,fun x hx=>hx,by rw[ef];exact gT,fun v hv=>?_⟩
   obtain⟨_,t2,t3⟩:=tT v
   rw[t2,ae] at hv
   have:=t3 hv.2
   rw[e3,←e2,←ef,ny (by omega)] at this
   exact this
theorem u5(atoms:List Atom):∀(fs:List Form)(c:dq),(∀f∈fs,dI f=true∧inside atoms f)→(atoms.length:Int)≤c.many→c.many+10*fs.length≤60→(∀x∈c.list,Good c.many x)→(∀f:Int,atoms.length<f→f≤c.many→uZ atoms c f) →
 ∀f:Int,atoms.length<f→f≤(gm atoms fs c).many→uZ atoms (gm atoms fs c) f
 | [],c,_,_,_,_,dh=>dh
 | t::fs,c,hf,hc,hb,hg,dh=>by
   obtain⟨f1,f2⟩:=hf t (by simp)
   have hs:=fJ f1
   simp only[aq] at hb
   have g:=dj t 5 atoms c hs.1
   have q:=eg t 5 atoms c hs.1 f2 hc (by omega)
   have r:=nL t 5 atoms c hs.1 f2 hc hg
   have st:=C5 t 5 atoms c hs.1 f2 hc (by omega) hg dh
   simp only[gm]
   refine u5 atoms fs (ck (a7 atoms t c).1 [(a7 atoms t c).2]) (fun x hx=>hf x (by simp[hx])) (by rw[fj];omega) (by rw[fj];omega) (by
    rw[fj]
    exact ir r fun x hx=>by simp only[bX] at hx;omega) fun f h1 h2=>?_
   rw[fj] at h2
   exact(st f h1 h2).up fun x hx=>fH hx
theorem De{list:List Form}{atoms:List Atom}(h:bS list=some atoms):∀f:Int,atoms.length<f→f≤(hU list).many→uZ atoms (hU list) f:=by
 obtain⟨p1,p2,p3,p4⟩:=dB h
 rw[kb h]
 exact u5 atoms list ⟨atoms.length,[]⟩ (fun f hf=>⟨p2 f hf,by rw[p4];exact jH hf⟩) (fM _) (by simp only;omega) (by simp) (fun f h1 h2=>by simp only at h2;omega)
def gW(put:List Int):Nat→Int→Int
 | 0,f=>f
 | v+1,f=>gW put v (if put.contains ((v:Int)+1) then f else if put.contains (-((v:Int)+1)) then f else(v:Int)+1)
theorem u4{put:List Int}:∀(n:Nat)(f:Int),(gW put n f=f∧∀x:Int,1≤x→x≤n→Told put x)∨(1≤gW put n f∧gW put n f≤n∧¬Told put (gW put n f)∧∀x:Int,1≤x→x<gW put n f→Told put x)
 | 0,f=>.inl ⟨rfl,fun x h1 h2=>by simp at h2;omega⟩
 | n+1,f=>by
   rw[gW]
   have ih:=u4 (put:=put) n (if put.contains ((n:Int)+1) then f else if put.contains (-((n:Int)+1)) then f else(n:Int)+1)
   have up:Told put ((n:Int)+1)→(∀x:Int,1≤x→x≤n→Told put x)→∀x:Int,1≤x→x≤((n+1:Nat):Int)→Told put x:=fun h0 h x h1 h2=>by
    rcases aa (x=(n:Int)+1) with e|e
    ·rw[e];exact h0
    ·exact h x h1 (by omega)
   rcases ih with⟨e,h⟩|⟨h1,h2,h3,h4⟩
   ·rw[e]
    cases c1:put.contains ((n:Int)+1)
    ·cases c2:put.contains (-((n:Int)+1))
     ·simp only[al,if_false]
      refine .inr ⟨by omega,by omega,?_,fun x g1 g2=>h x g1 (by omega)⟩
      rintro(g|g)
      ·rw[bq.2 g] at c1;cases c1
      ·rw[bq.2 g] at c2;cases c2
     ·simp only[al,if_false,if_true]
      exact .inl ⟨trivial,up (.inr (bq.1 c2)) h⟩
    ·simp only[if_true]
     exact .inl ⟨trivial,up (.inl (bq.1 c1)) h⟩
   ·exact .inr ⟨h1,by omega,h3,h4⟩
structure Un(n:Nat)(c:dq):Prop where
 Pj:n≤6
 many:0≤c.many∧c.many≤60
 ok:mK c=true
 len:c.list.length≤400
 clause:∀x∈c.list,(∀l∈x,l≠0∧l.natAbs≤60)∧x.length≤1000
 key:∀put:List Int,im put→scan put c.list=(0,false)→∃f:Nat,gW put c.many.toNat 0=f∧1≤f∧f≤n∧(f:Int)∉put ∧ -(f:Int)∉put
theorem Ix{list:List Form}{atoms:List Atom}(h:bS list=some atoms)(hno:∀w:Atom→Bool,list.all (holds w)=false):Un atoms.length (hU list):=by
 obtain⟨p1,p2,p3,p4⟩:=dB h
 have kC:=HA list
 have hT:=fun v=>(KF h v).2
 have dh:=De h
 have hgood:∀x∈(hU list).list,Good (hU list).many x:=by
  rw[kb h]
  exact(qY atoms list ⟨atoms.length,[]⟩ (fun f hf=>⟨p2 f hf,by rw[p4];exact jH hf⟩) (fM _) (by simp)).1
 have hok':=kC
 simp only[mK,ae,decide_eq_true_eq,bz] at hok'
 have hm:=cF.1 hok'.1
 generalize hU list=c at *
 refine⟨p3,hm,kC,hok'.2.1,fun x hx=>?_,fun put hp hs=>?_⟩
 ·obtain⟨g1,g2⟩:=hgood x hx
  refine⟨fun l hl=>⟨(g2 l hl).1,by have:=g2 l hl;omega⟩,?_⟩
  have:=ll (put:=x) ⟨g1.imp fun h=>by omega,fun l hl=>⟨(g2 l hl).1,by have:=g2 l hl;omega⟩⟩
  omega
 ·have hnone:=zW hs
  rcases u4 (put:=put) c.many.toNat 0 with⟨_,mr⟩|⟨f1,f2,f3,f4⟩
  ·exfalso
   have:lE (Bf put 0 true) c=true:=by
    refine bz.2 fun x hx=>?_
    obtain⟨g1,g2⟩:=hgood x hx
    refine yz hp (fun h=>(hp.2 _ h).1 rfl) (fun h=>(hp.2 _ h).1 rfl) g1 (fun l hl=>(g2 l hl).1) (fun l hl=>.inl (mr _ ?_ ?_)) (hnone x hx) true
    ·have:=g2 l hl;omega
    ·have:=g2 l hl;omega
   rw[hT,hno,Bool.and_false] at this
   cases this
  ·obtain⟨f,hf⟩:∃f:Nat,gW put c.many.toNat 0=f:=⟨(gW put c.many.toNat 0).toNat,by omega⟩
   rw[hf] at f1 f2 f3 f4
   have n1:(f:Int)∉put:=fun h=>f3 (.inl h)
   have n2:-(f:Int)∉put:=fun h=>f3 (.inr h)
   refine⟨f,hf,by omega,?_,n1,n2⟩
   refine Decidable.byContradiction fun hgt=>?_
   obtain⟨c',t,s1,s2,s3⟩:=dh f (by omega) (by omega)
   have hb:∀b,lE (Bf put f b) c'=true:=fun b=>by
    refine bz.2 fun x hx=>?_
    obtain⟨g1,g2⟩:=s2 x hx
    refine yz hp n1 n2 g1 (fun l hl=>(g2 l hl).1) (fun l hl=>?_) (hnone x (s1 x hx)) b
    have:=g2 l hl
    rcases aa ((l.natAbs:Int)=f) with e|e
    ·exact .inr e
    ·exact .inl (f4 _ (by omega) (by omega))
   have e1:=s3 _ (hb true)
   have e2:=s3 _ (hb false)
   have ew:(fun a=>Bf put f true (bD atoms a+1))=fun a=>Bf put f false (bD atoms a+1):=by
    funext a
    have hb:=GB atoms a
    have mq:bD atoms a+1≠(f:Int):=by
     rcases hb.2 with h|h
     ·omega
     ·subst h
      have:bD [] a = -1:=rfl
      omega
    simp only[Bf,if_neg mq]
   rw[ew,←e2] at e1
   simp[Bf] at e1
structure lM where
 fuel:Int
 log:List (List Int)
 out:Bool
def mD(dec:List Int)(h:lM):lM:=⟨h.fuel,h.log++[(dJ (dec.map fun l=>-l)).getD []],h.out⟩
def dT(c:dq):Nat→List Int→lM→lM
 | 0,_,h=>⟨h.fuel,h.log,true⟩
 | d+1,dec,h=>if h.fuel=0 then⟨h.fuel,h.log,true⟩ else
   if(eX c.list dec).2 then mD dec ⟨h.fuel-1,h.log,h.out⟩ else
   let f:=gW (eX c.list dec).1 c.many.toNat 0
   let g:=dT c d (dec++[-f]) ⟨h.fuel-1,h.log,h.out⟩
   if g.out then g else
   let k:=dT c d (dec++[f]) g
   if k.out then k else mD dec k
def Ji(c:dq)(d:Nat)(dec:List Int)(f:Int)(g:lM):lM:=if(dT c d (dec++[f]) g).out then dT c d (dec++[f]) g else mD dec (dT c d (dec++[f]) g)
def L2(c:dq)(d:Nat)(dec:List Int)(f:Int)(g:lM):lM:=if(dT c d (dec++[-f]) g).out then dT c d (dec++[-f]) g else Ji c d dec f (dT c d (dec++[-f]) g)
def r6(c:dq)(d:Nat)(dec:List Int)(f:Int)(i:Nat)(g:lM):lM:=if i=0 then L2 c d dec f g else if i=1 then Ji c d dec f g else mD dec g
theorem Di(c:dq)(d:Nat)(dec:List Int)(f:Int)(g:lM):r6 c d dec f 0 g=if(dT c d (dec++[-f]) g).out then dT c d (dec++[-f]) g else r6 c d dec f 1 (dT c d (dec++[-f]) g):=rfl
theorem G7(c:dq)(d:Nat)(dec:List Int)(f:Int)(g:lM):r6 c d dec f 1 g=if(dT c d (dec++[f]) g).out then dT c d (dec++[f]) g else r6 c d dec f 2 (dT c d (dec++[f]) g):=rfl
theorem G6(c:dq)(d:Nat)(dec:List Int)(f:Int)(g:lM):r6 c d dec f 2 g=mD dec g:=rfl
theorem xK{c:dq}{d:Nat}{dec:List Int}{h:lM}(h0:h.fuel=0):dT c d dec h=⟨h.fuel,h.log,true⟩:=by
 cases d with
 | zero=>rfl
 | succ d=>rw[dT,if_pos h0]
theorem zx{c:dq}{d:Nat}{dec:List Int}{h:lM}(h0:h.fuel≠0)(hb:(eX c.list dec).2=true):dT c (d+1) dec h=mD dec ⟨h.fuel-1,h.log,h.out⟩:=by
 rw[dT,if_neg h0,if_pos hb]
theorem yy{c:dq}{d:Nat}{dec:List Int}{h:lM}(h0:h.fuel≠0)(hb:(eX c.list dec).2=false){f:Int}(hf:gW (eX c.list dec).1 c.many.toNat 0=f):dT c (d+1) dec h=r6 c d dec f 0 ⟨h.fuel-1,h.log,h.out⟩:=by
 rw[dT,if_neg h0,hb,if_neg (by simp),hf]
 rfl
theorem A7(c:dq):∀(d:Nat)(dec:List Int)(h:lM),0≤h.fuel →
 0≤(dT c d dec h).fuel∧(dT c d dec h).fuel≤h.fuel∧((dT c d dec h).log.length:Int)+(dT c d dec h).fuel≤h.log.length+h.fuel∧((dT c d dec h).out=false→(dT c d dec h).log≠[]):=by
 intro d
 induction d with
 | zero=>intro dec h hf;simp[dT];omega
 | succ d ih=>
   intro dec h hf
   rcases aa (h.fuel=0) with h0|h0
   ·rw[xK h0];simp;omega
   have hl:∀g:lM,0≤g.fuel→g.fuel≤h.fuel→(g.log.length:Int)+g.fuel+1≤h.log.length+h.fuel→0≤(mD dec g).fuel∧(mD dec g).fuel≤h.fuel∧((mD dec g).log.length:Int)+(mD dec g).fuel≤h.log.length+h.fuel∧((mD dec g).out=false→(mD dec g).log≠[]):=fun g h1 h2 h3=>by
    simp only[mD,ao,aq,bH]
    exact⟨h1,h2,by omega,fun _=>by simp⟩
   cases hb:(eX c.list dec).2 with
   | true=>
     rw[zx h0 hb]
     exact hl ⟨h.fuel-1,h.log,h.out⟩ (by simp only;omega) (by simp only;omega) (by simp only;omega)
   | false=>
     rw[yy h0 hb rfl]
     generalize gW (eX c.list dec).1 c.many.toNat 0=f
     have i1:=ih (dec++[-f]) ⟨h.fuel-1,h.log,h.out⟩ (by simp only;omega)
     simp only[r6,if_true,L2]
     generalize dT c d (dec++[-f]) ⟨h.fuel-1,h.log,h.out⟩=g at i1⊢
     simp only at i1
     split
     ·exact⟨i1.1,by omega,by omega,i1.2.2.2⟩
     ·have i2:=ih (dec++[f]) g i1.1
      simp only[Ji]
      generalize dT c d (dec++[f]) g=k at i2⊢
      split
      ·exact⟨i2.1,by omega,by omega,i2.2.2.2⟩
      ·exact hl k i2.1 (by omega) (by omega)
def uz(n:Nat)(dec:List Int):Prop:=im dec∧∀l∈dec,l.natAbs≤n
theorem uz.len{n:Nat}{dec:List Int}(h:uz n dec):dec.length≤n:=by
 have h1:=AX n (dec.map fun m=>m.natAbs-1) (by
  rw[List.pairwise_map]
  refine List.Pairwise.imp_of_mem ?_ h.1.1
  intro a b ha hb hab e
  have:=h.1.2 a ha
  have:=h.1.2 b hb
  exact hab (by omega)) (fun x hx=>by
  obtain⟨m,hm,rfl⟩:=List.mem_map.1 hx
  have:=h.1.2 m hm
  have:=h.2 m hm
  omega)
 rwa [List.length_map] at h1
theorem uz.snoc{n:Nat}{c:dq}(hu:Un n c){dec:List Int}(h:uz n dec)(hb:(eX c.list dec).2=false):∃f:Nat,gW (eX c.list dec).1 c.many.toNat 0=f∧1≤f∧f≤n∧uz n (dec++[-(f:Int)])∧uz n (dec++[(f:Int)]):=by
 obtain⟨u1,u2,u3⟩:=H6 (fun x hx l hl=>(hu.clause x hx).1 l hl) h.1
 obtain⟨f,f1,f2,f3,f4,f5⟩:=hu.key _ u1 (u3 hb)
 have h6:=hu.Pj
 refine⟨f,f1,f2,f3,⟨su h.1 (by omega) (by omega) (fun hh=>f5 (u2 _ hh)) (fun hh=>f4 (u2 _ (by simpa using hh))),?_⟩,⟨su h.1 (by omega) (by omega) (fun hh=>f4 (u2 _ hh)) (fun hh=>f5 (u2 _ hh)),?_⟩⟩
 ·intro l hl
  rcases aG.1 hl with hl|hl
  ·exact h.2 l hl
  ·rw[bX.1 hl];omega
 ·intro l hl
  rcases aG.1 hl with hl|hl
  ·exact h.2 l hl
  ·rw[bX.1 hl];omega
def df(b:List Int)(told:List Atom)(out:List Form)(p:Int):List Form×Int:=
 let r:=eK b told (dG b p [2,1,3]).toNat (p+1)
 (out++[r.1],r.2)
theorem uU{b:List Int}(hb:nh b){told:List Atom}{out:List Form}{p:Int}(hp:0≤p):p≤(df b told out p).2∧(df b told out p).2≤p+70∧(df b told out p).1.length=out.length+1:=by
 obtain⟨d,e,h2,h3⟩:=mG hb (p:=p) (by omega) (l:=[2,1,3]) (by simp) (by decide)
 obtain⟨h4,h5,h6⟩:=xP hb (atoms:=told) d (p+1) (by omega)
 have h7:=rm h3
 simp only[df,e,Int.toNat_natCast,ao,List.length_singleton]
 refine⟨by omega,by omega,?_⟩
 trivial
theorem wJ{b:List Int}(hb:nh b){told:List Atom}:∀(n:Nat)(l:List Form)(p:Int),0≤p→p≤(dZ (df b told) n l p).2∧(dZ (df b told) n l p).2≤p+n*70∧(dZ (df b told) n l p).1.length=l.length+n
 | 0,l,p,_=>by simp[dZ]
 | n+1,l,p,hp=>by
   have h1:=uU hb (told:=told) (out:=l) hp
   have h2:=wJ hb (told:=told) n (df b told l p).1 (df b told l p).2 (by omega)
   simp only[dZ]
   omega
def L9(b:List Int)(l:List Form)(x:Form×Int):Form×Int:=
 if l.length=0 then x else if bo b x.2 3=0 then(.mk 4 Gx [l.getD (bo b (x.2+1) l.length).toNat Fw,x.1],x.2+2) else(x.1,x.2+1)
def lW(b:List Int)(s:eJ)(l:List Form)(y:Form×Int):eJ×List Form×Form×Int:=
 if bo b y.2 48=0 then(s,l,Fw,y.2+1) else
 if bo b y.2 48=1 then((dK b (dK b s (y.2+1)).1 (dK b s (y.2+1)).2).1,l,y.1,(dK b (dK b s (y.2+1)).1 (dK b s (y.2+1)).2).2) else
 if bo b y.2 48=2 then(s,l++[(rL b (y.2+1)).2.1],y.1,(rL b (y.2+1)).2.2) else(s,l,y.1,y.2+1)
def j6(b:List Int)(p:Int):eJ×List Form×Form×Int:=
 let s:=(gx b p).1
 let a:=dY b s (p+1)
 let r:=dZ (df b a.1) (dG b a.2 [2,3,1,0]).toNat [] (a.2+1)
 lW b s r.1 (L9 b r.1 (eK b a.1 (dG b r.2 [1,2]).toNat (r.2+1)))
theorem Hc{b:List Int}{s:eJ}{l:List Form}{y:Form×Int}:(lW b s l y).2.1.length≤l.length+1:=by
 unfold lW
 split
 ·simp only;omega
 ·split
  ·simp only;omega
  ·split
   ·simp
   ·simp only;omega
theorem ES{b:List Int}(hb:nh b):(j6 b 0).2.1.length≤1000:=by
 have hs:c7 (gx b 0).1:=lX _
 have hT:=v7 hb hs (p:=0+1) (by omega)
 have hmem:=kH hb (p:=(dY b (gx b 0).1 (0+1)).2) (l:=[2,3,1,0]) (by omega) (by simp)
 simp only[aw,List.not_mem_nil,or_false] at hmem
 have hF:=wJ hb (told:=(dY b (gx b 0).1 (0+1)).1) (dG b (dY b (gx b 0).1 (0+1)).2 [2,3,1,0]).toNat [] ((dY b (gx b 0).1 (0+1)).2+1) (by omega)
 have hL:=Hc (b:=b) (s:=(gx b 0).1) (l:=(dZ (df b (dY b (gx b 0).1 (0+1)).1) (dG b (dY b (gx b 0).1 (0+1)).2 [2,3,1,0]).toNat [] ((dY b (gx b 0).1 (0+1)).2+1)).1) (y:=L9 b (dZ (df b (dY b (gx b 0).1 (0+1)).1) (dG b (dY b (gx b 0).1 (0+1)).2 [2,3,1,0]).toNat [] ((dY b (gx b 0).1 (0+1)).2+1)).1 (eK b (dY b (gx b 0).1 (0+1)).1 (dG b (dZ (df b (dY b (gx b 0).1 (0+1)).1) (dG b (dY b (gx b 0).1 (0+1)).2 [2,3,1,0]).toNat [] ((dY b (gx b 0).1 (0+1)).2+1)).2 [1,2]).toNat ((dZ (df b (dY b (gx b 0).1 (0+1)).1) (dG b (dY b (gx b 0).1 (0+1)).2 [2,3,1,0]).toNat [] ((dY b (gx b 0).1 (0+1)).2+1)).2+1)))
 simp only[bH] at hF
 have e:(j6 b 0).2.1.length≤(dZ (df b (dY b (gx b 0).1 (0+1)).1) (dG b (dY b (gx b 0).1 (0+1)).2 [2,3,1,0]).toNat [] ((dY b (gx b 0).1 (0+1)).2+1)).1.length+1:=hL
 omega
end Go.Mod
