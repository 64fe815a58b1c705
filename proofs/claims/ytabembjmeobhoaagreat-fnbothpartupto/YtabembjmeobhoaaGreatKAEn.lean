/-
  Plain laws: what has a reason that it can not be is so in no model. No program is walked here.
-/
import Derived.Test.YtabembjmeobhoaaGreatKAEm
set_option linter.unusedVariables false
set_option linter.unusedSimpArgs false
open Bool renaming and_eq_true→ai,false_eq_true→ax
open Classical renaming em→aa
open List renaming getElem_mem→ak,mem_cons→ay,getD_eq_getElem?_getD→az,map_cons→aQ,mem_append→aR,length_cons→a8,range→bt,getElem?_eq_some_iff→bA,mem_map→bD,all_eq_true→cd,nodup_cons→cE,mem_of_getElem?→cM,mem_singleton→df,map_nil→di,mem_filter→gk
open Nat renaming le_refl→aI,lt_or_ge→bU
open Option renaming map_some→du
namespace Go.Mod
open Go.Eng
set_option maxRecDepth 100000
def re(m:Model):List Term→List Int→QQ
 | t::ts,n::ns=>n*qv (value m t)+re m ts ns
 | _,_=>0
def Fk(m:Model)(a:Atom):Prop:=if a.strict then re m a.nums a.times<a.bound else re m a.nums a.times≤a.bound
def ly(m:Model)(l:bp):Prop:=if l.atom.kind=1 then(if l.no then value m l.atom.A≠value m l.atom.B else value m l.atom.A=value m l.atom.B) else(if l.no then ¬Fk m l.atom else Fk m l.atom)
theorem Fl{m:Model}:∀{ts:List Term}{ns:List Int}{s r:Rat},mg m ts ns s=some r→bV s=true→qv r=qv s+re m ts ns∧bV r=true
 | [],ns,s,r,h,hs=>by
   have e0:mg m [] ns s=some s:=by unfold mg;rfl
   rw[e0] at h
   cases h
   have e:re m [] ns=0:=by unfold re;rfl
   exact⟨by rw[e];grind,hs⟩
 | t::ts,[],s,r,h,hs=>by
   have e0:mg m (t::ts) [] s=some s:=by unfold mg;rfl
   rw[e0] at h
   cases h
   have e:re m (t::ts) []=0:=by unfold re;rfl
   exact⟨by rw[e];grind,hs⟩
 | t::ts,n::ns,s,r,h,hs=>by
   rw[mg] at h
   split at h
   ·rename_i hp
    have h1:=Ry hp
    have h2:=Fl h h1.2
    exact⟨by rw[h2.1,h1.1,re];grind,h2.2⟩
   ·cases h
theorem VW{a:Atom}(h:cJ a=true)(k2:a.kind=2):-1000000000≤a.bound∧a.bound≤1000000000:=by
 have hk:¬a.kind=1:=by omega
 simp only[cJ,if_neg hk,if_pos k2,ai,within,decide_eq_true_eq] at h
 have:=h.2.2.2.2.1
 omega
theorem SS{s:dG}{m:Model}{l:bp}(h:fT s m l=some true):ly m l:=by
 unfold fT at h
 split at h
 ·rename_i hc
  simp only[ai,eZ] at hc
  have hwf:=hc.2.2.1
  unfold ly
  unfold nQ at h
  rcases aa (l.atom.kind=1) with hk|hk
  ·rw[if_pos hk] at h⊢
   simp only[du,Option.some.injEq] at h
   cases hn:l.no with
   | true=>
     rw[hn] at h
     simpa using h
   | false=>
     rw[hn] at h
     simpa using h
  ·rw[if_neg hk] at h⊢
   have k2:=(j8 hwf).resolve_left hk
   cases hs:mg m l.atom.nums l.atom.times (whole 0) with
   | none=>rw[hs] at h;cases h
   | some r=>
     rw[hs] at h
     simp only[du,Option.some.injEq] at h
     have h1:=Fl hs (qy (by omega) (by omega))
     have h2:=QY (st:=l.atom.strict) h1.2 (VW hwf k2)
     rw[h1.1,wA] at h2
     have e:((0:Int):QQ)+re m l.atom.nums l.atom.times=re m l.atom.nums l.atom.times:=by grind
     rw[e] at h2
     have h3:below r l.atom.bound l.atom.strict=true↔Fk m l.atom:=h2
     cases hn:l.no with
     | true=>
       rw[hn] at h
       simp only[if_true]
       rw[←h3]
       intro hx
       rw[hx] at h
       simp at h
     | false=>
       rw[hn] at h
       simp only[ax,if_false]
       rw[←h3]
       simpa using h
 ·cases h
theorem JK{s:dG}{m:Model}{ab:List bp}(h:eE s m ab=true):e6 m=true∧∀l∈ab,ly m l:=by
 simp only[eE,e7,ai,cd,decide_eq_true_eq] at h
 exact⟨h.1.2.1,fun l hl=>SS (h.2 l hl)⟩
section
variable{m:Model}{eqs:List iA}(hE:∀e∈eqs,value m e.A=value m e.B)
include hE
theorem Lw{r n:Int}{t:Term}{kids:List iA}(hk:∀e∈kids,value m e.A=value m e.B)(h:(n5 eqs r n t kids).2=true):value m (n5 eqs r n t kids).1.A=value m (n5 eqs r n t kids).1.B:=by
 unfold n5 at h⊢
 split at h
 ·cases h
 ·rename_i c0
  rw[if_neg c0]
  split at h
  ·rename_i c1
   rw[if_pos c1]
  ·rename_i c1
   rw[if_neg c1]
   split at h
   ·rename_i c2
    rw[if_pos c2]
    split at h
    ·cases h
    ·rename_i c3
     rw[if_neg c3]
     simp only
     rcases bU n.toNat eqs.length with hl|hl
     ·rw[getD_at hl]
      exact hE _ (ak hl)
     ·rw[az,List.getElem?_eq_none hl]
      rfl
   ·rename_i c2
    rw[if_neg c2]
    split at h
    ·rename_i c3
     rw[if_pos c3]
     split at h
     ·rename_i c4
      rw[if_pos c4]
      simp only
      rw[getD_at (by omega)]
      exact(hk _ (ak _)).symm
     ·cases h
    ·rename_i c3
     rw[if_neg c3]
     split at h
     ·rename_i c4
      rw[if_pos c4]
      split at h
      ·rename_i c5
       rw[if_pos c5]
       simp only
       obtain⟨c6,c7⟩:=c5
       have e0:=hk _ (ak (show 0<kids.length by omega))
       have e1:=hk _ (ak (show 1<kids.length by omega))
       rw[getD_at (show 0<kids.length by omega),getD_at (show 1<kids.length by omega)] at c7⊢
       rw[e0,c7,e1]
      ·cases h
     ·rename_i c4
      rw[if_neg c4]
      split at h
      ·rename_i c5
       rw[if_pos c5]
       split at h
       ·cases h
       ·rename_i c6
        rw[if_neg c6]
        simp only
        rw[value,value,mL,mL,List.map_map,List.map_map]
        congr 1
        exact List.map_congr_left fun e he=>hk e he
      ·cases h
end
mutual
theorem Bp{m:Model}{eqs:List iA}(hE:∀e∈eqs,value m e.A=value m e.B):∀(w:mc)(d:Nat),(jJ (n5 eqs) w d).2=true→value m (jJ (n5 eqs) w d).1.A=value m (jJ (n5 eqs) w d).1.B
 | .mk r n t ks,0,h=>by rw[jJ] at h;cases h
 | .mk r n t ks,d+1,h=>by
   rw[jJ] at h⊢
   cases hk:gO (n5 eqs) ks d with
   | none=>rw[hk] at h;cases h
   | some kids=>
     rw[hk] at h
     exact Lw hE (yo hE ks d kids hk) h
theorem yo{m:Model}{eqs:List iA}(hE:∀e∈eqs,value m e.A=value m e.B):∀(ws:List mc)(d:Nat)(es:List iA),gO (n5 eqs) ws d=some es→∀e∈es,value m e.A=value m e.B
 | [],d,es,h,e,he=>by
   rw[gO] at h
   cases h
   cases he
 | w::ws,d,es,h,e,he=>by
   rw[gO] at h
   split at h
   ·rename_i h1
    cases hr:gO (n5 eqs) ws d with
    | none=>rw[hr] at h;cases h
    | some r=>
      rw[hr] at h
      simp only[du,Option.some.injEq] at h
      rw[←h] at he
      rcases ay.1 he with rfl|he
      ·exact Bp hE w d h1
      ·exact yo hE ws d r hr e he
   ·cases h
end
theorem wK{m:Model}{eqs:List iA}(hE:∀e∈eqs,value m e.A=value m e.B){s:dG}{w:mc}{e:iA}(h:r5 s eqs w=some e):value m e.A=value m e.B∧wu s [e]=true:=by
 unfold r5 at h
 split at h
 ·rename_i hc
  simp only[ai] at hc
  cases h
  exact⟨Bp hE w 400 hc.2.1,hc.2.2⟩
 ·cases h
theorem Mw{m n:Int}:∀{as bs:List Int}{aB:List Rat},as.length=bs.length→dot (comb m n as bs) aB=m*dot as aB+n*dot bs aB
 | [],[],aB,_=>by
   have e:dot [] aB=0:=by unfold dot;rfl
   rw[comb,e]
   ·grind
   ·intros;contradiction
 | [],_::_,_,h=>by simp at h
 | _::_,[],_,h=>by simp at h
 | a::as,b::bs,[],_=>by
   have e1:dot (comb m n (a::as) (b::bs)) []=0:=by rw[comb];unfold dot;rfl
   have e2:dot (a::as) []=0:=by unfold dot;rfl
   have e3:dot (b::bs) []=0:=by unfold dot;rfl
   rw[e1,e2,e3]
   grind
 | a::as,b::bs,x::xs,h=>by
   rw[comb,dot,dot,dot,Mw (by simpa using h),Rat.intCast_add,Rat.intCast_mul,Rat.intCast_mul]
   grind
theorem Jh{l:ia}(h:dE l=true):l.aG.length=4:=by
 simp only[dE,ai,decide_eq_true_eq] at h
 exact h.2.1
theorem Pd{a b:ia}{m n:Int}(h:(dN a m b n).2=true):dE a=true∧dE b=true∧0≤n∧(dN a m b n).1=jn a m b n:=by
 unfold dN at h⊢
 split at h
 ·rename_i hc
  simp only[ai,within,decide_eq_true_eq] at hc
  rw[if_pos (by simp only[ai,within,decide_eq_true_eq];exact hc)]
  unfold jl at h⊢
  split at h
  ·rename_i h2
   rw[if_pos h2]
   exact⟨hc.1.1.1,hc.1.1.2,hc.2.1,rfl⟩
  ·cases h
 ·cases h
theorem JM{a b:ia}{n:Int}{aB:List Rat}(h:(dN a 1 b n).2=true)(ha:fx a aB)(hb:fx b aB):fx (dN a 1 b n).1 aB:=by
 obtain⟨h1,h2,h3,h4⟩:=Pd h
 rw[h4]
 have hd:=Mw (m:=1) (n:=n) (aB:=aB) ((Jh h1).trans (Jh h2).symm)
 unfold fx jn at *
 simp only
 rw[hd,Rat.intCast_add,Rat.intCast_mul,Rat.intCast_mul]
 have hn:(0:QQ)≤(n:QQ):=by
  have:=Rat.intCast_le_intCast (a:=0) (b:=n)
  rw[Rat.intCast_zero] at this
  exact this.2 h3
 generalize hx:dot a.aG aB=x at *
 generalize hy:dot b.aG aB=y at *
 have hle:(n:QQ)*y≤n*b.bound:=by
  refine Rat.mul_le_mul_of_nonneg_left ?_ hn
  cases hs:b.strict with
  | true=>rw[hs] at hb;simp only[if_true] at hb;grind
  | false=>rw[hs] at hb;simpa using hb
 have h1':((1:Int):QQ)=1:=Rat.intCast_one
 rw[h1']
 rcases aa (a.strict=true) with hsa|hsa
 ·rw[hsa] at ha⊢
  simp only[if_true] at ha
  rw[if_pos (by simp)]
  grind
 ·have hsa':a.strict=false:=by simpa using hsa
  rw[hsa'] at ha⊢
  simp only[ax,if_false,Bool.and_false,Bool.false_or] at ha⊢
  rcases aa ((decide (0<n)&&b.strict)=true) with hc|hc
  ·rw[if_pos hc]
   simp only[ai,decide_eq_true_eq] at hc
   rw[hc.2] at hb
   simp only[if_true] at hb
   have hp:(0:QQ)<(n:QQ):=Rat.intCast_pos.2 hc.1
   have:=Rat.mul_lt_mul_of_pos_left hb hp
   grind
  ·rw[if_neg hc]
   grind
theorem CP{aB:List Rat}:∀{ls:List ia}{ts:List Int}{out:ia},(∀l∈ls,fx l aB)→fx out aB→(oY ls ts out).2=true→fx (oY ls ts out).1 aB
 | [],ts,out,_,ho,_=>by
   have e:oY [] ts out=(out,true):=by unfold oY;rfl
   rw[e];exact ho
 | l::ls,[],out,_,ho,_=>by
   have e:oY (l::ls) [] out=(out,true):=by unfold oY;rfl
   rw[e];exact ho
 | l::ls,t::ts,out,hl,ho,h=>by
   rw[oY] at h⊢
   split at h
   ·rename_i hs
    rw[if_pos hs]
    exact CP (fun x hx=>hl x (by simp[hx])) (JM hs ho (hl l (by simp))) h
   ·cases h
theorem LJ:∀{cs:List Int}{aB:List Rat},(∀c∈cs,c=0)→dot cs aB=0
 | [],aB,_=>by unfold dot;rfl
 | c::cs,[],_=>by unfold dot;rfl
 | c::cs,x::xs,h=>by
   rw[dot,h c (by simp),LJ fun y hy=>h y (by simp[hy]),Rat.intCast_zero]
   grind
theorem Pp{l:ia}{aB:List Rat}(h:jG l=true):¬fx l aB:=by
 simp only[jG,flat,ai,Bool.or_eq_true,cd,decide_eq_true_eq] at h
 obtain⟨_,h1,h2⟩:=h
 unfold fx
 rw[LJ h1]
 have hc:=Rat.intCast_lt_intCast (a:=l.bound) (b:=0)
 rw[Rat.intCast_zero] at hc
 rcases h2 with h2|h2
 ·have:=hc.2 h2
  split
  ·grind
  ·grind
 ·rw[h2.2,h2.1,Rat.intCast_zero]
  simp only[if_true]
  exact Rat.lt_irrefl
theorem Sj{list:List ia}{times:List Int}{aB:List Rat}(h:qS list times=true):¬ ∀l∈list,fx l aB:=fun hl=>by
 simp only[qS,ai] at h
 obtain⟨h1,h2⟩:=h
 unfold jF at h1 h2
 split at h1
 ·rename_i hc
  rw[if_pos hc] at h2
  refine Pp h2 (CP hl ?_ h1)
  unfold fx
  simp only[ax,if_false,NQ,Rat.intCast_zero]
  exact Rat.le_refl
 ·cases h1
section
variable{m:Model}{nums:List Term}(h4:nums.length≤4)
def wq(m:Model)(nums:List Term):List Rat:=(bt 4).map fun i=>if i<nums.length then value m (nums.getD i aL) else whole 0
theorem PI(m:Model)(nums:List Term):(wq m nums).length=4:=by simp[wq]
include h4
theorem SQ{t:Term}(ht:t∈nums):(wq m nums).getD (aH nums t) (whole 0)=value m t:=by
 have hp:=bx ht
 rw[wq,az,List.getElem?_map,List.getElem?_range (by omega)]
 simp only[du,Option.getD_some,if_pos hp]
 rw[getD_at hp]
 exact congrArg (value m) (bA.1 (iL ht)).2
theorem Jj:∀{ts:List Term}{ns:List Int},(∀t∈ts,t∈nums)→tQ nums (wq m nums) ts ns=re m ts ns
 | [],ns,_=>by unfold tQ re;rfl
 | t::ts,[],_=>by unfold tQ re;rfl
 | t::ts,n::ns,ht=>by
   rw[tQ,re,SQ h4 (ht t (by simp)),Jj fun x hx=>ht x (by simp[hx])]
theorem BQ{ts:List Term}{ns:List Int}{b:Int}{st:Bool}(ht:∀t∈ts,t∈nums):fx (lJ nums ts ns b st) (wq m nums)↔(if st then re m ts ns<b else re m ts ns≤b):=by
 rw[qg h4 (PI m nums) ht,Jj h4 ht]
omit h4 in
theorem QT:∀{cs:List Int}{aB:List Rat},dot (cs.map fun c=>-c) aB = - dot cs aB
 | [],aB=>by
   have e:dot [] aB=0:=by unfold dot;rfl
   rw[di,e];grind
 | c::cs,[]=>by
   have e1:dot (c::cs) []=0:=by unfold dot;rfl
   have e2:dot ((c::cs).map fun c=>-c) []=0:=by rw[aQ];unfold dot;rfl
   rw[e1,e2];grind
 | c::cs,x::xs=>by
   rw[aQ,dot,dot,QT,Rat.intCast_neg]
   grind
omit h4 in
theorem K4{l:ia}{aB:List Rat}(h:¬fx l aB):fx (pf l) aB:=by
 unfold pf
 split
 ·unfold fx at h⊢
  simp only
  rw[QT,Rat.intCast_neg]
  generalize dot l.aG aB=x at *
  cases hs:l.strict with
  | true=>
    rw[hs] at h
    simp only[if_true,Bool.not_true,ax,if_false] at h⊢
    grind
  | false=>
    rw[hs] at h
    simp only[ax,if_false,Bool.not_false,if_true] at h⊢
    grind
 ·unfold fx mC
  have e:dot [] aB=0:=by unfold dot;rfl
  simp only[ax,if_false,e,Rat.intCast_zero]
  exact Rat.le_refl
theorem LA{l:bp}(hf:Fit nums l)(hs:ly m l):∀x∈iW nums l,fx x (wq m nums):=by
 intro x hx
 unfold iW at hx
 rcases aa (l.atom.kind=2) with k2|k2
 ·rw[if_pos k2,df] at hx
  have k1:¬l.atom.kind=1:=by omega
  unfold ly at hs
  rw[if_neg k1] at hs
  have e:=BQ (m:=m) (ns:=l.atom.times) (b:=l.atom.bound) (st:=l.atom.strict) h4 (hf.sum k2)
  rw[hx]
  cases hn:l.no with
  | true=>
    rw[hn] at hs
    simp only[if_true] at hs⊢
    exact K4 fun hh=>hs (e.1 hh)
  | false=>
    rw[hn] at hs
    simp only[ax,if_false] at hs⊢
    exact e.2 hs
 ·rw[if_neg k2] at hx
  split at hx
  ·rename_i hc
   have hA:l.atom.A∈nums:=cK.1 hc.2
   have k1:=(j8 hf.wf).resolve_right k2
   have hB:=(hf.eq k1).1 hA
   unfold ly at hs
   rw[if_pos k1,hc.1] at hs
   simp only[ax,if_false] at hs
   have e1:=BQ (m:=m) (ts:=[l.atom.A,l.atom.B]) (ns:=[1,-1]) (b:=0) (st:=false) h4 (by simp[hA,hB])
   have e2:=BQ (m:=m) (ts:=[l.atom.A,l.atom.B]) (ns:=[-1,1]) (b:=0) (st:=false) h4 (by simp[hA,hB])
   have e0:re m [] []=0:=by unfold re;rfl
   simp only[ax,if_false,re,e0,hs] at e1 e2
   rcases ay.1 hx with hx|hx
   ·rw[hx]
    exact e1.2 (by grind)
   ·rw[df] at hx
    rw[hx]
    exact e2.2 (by grind)
  ·cases hx
end
end Go.Mod
namespace Go.Mod
open Go.Eng
set_option maxRecDepth 100000
theorem Dn{m:Model}{a b:Term}(h:qv (value m a)<qv (value m b)):ly m (dz a b):=by
 have e0:re m [] []=0:=by unfold re;rfl
 unfold ly dz
 split
 ·simp only[Fk,re,e0,if_true,ax,if_false]
  rw[if_neg (by decide)]
  grind
 ·simp only[Fk,re,e0,if_true,ax,if_false]
  rw[if_neg (by decide)]
  grind
theorem II{m:Model}{a b:Term}(h:value m a=value m b):ly m (gP a b):=by
 unfold ly gP xo
 simp only[if_true,ax,if_false]
 exact h
theorem Qz{m:Model}{ab:List bp}(h:∀l∈ab,ly m l):∀e∈bc ab,value m e.A=value m e.B:=fun e he=>by
 obtain⟨l,hl,h1,h2,rfl⟩:=Cg.1 he
 have:=h l hl
 unfold ly at this
 rw[if_pos h1,h2] at this
 exact this
section
variable{s:dG}{m:Model}{nums:List Term}(hm:e6 m=true)(h4:nums.length≤4)(hn:∀t∈nums,isTerm t=true)
include hm h4 hn
theorem MD{ab:List bp}{l:bp}(hf:∀x∈ab,Fit nums x)(hs:∀x∈ab,ly m x)(h1:Fit nums l)(h2:ly m l):(∀x∈ab++[l],Fit nums x)∧(∀x∈ab++[l],ly m x):=by
 have _:=hm
 have _:=h4
 have _:=hn
 constructor
 ·intro x hx
  rcases aR.1 hx with hx|hx
  ·exact hf x hx
  ·rw[df.1 hx];exact h1
 ·intro x hx
  rcases aR.1 hx with hx|hx
  ·exact hs x hx
  ·rw[df.1 hx];exact h2
end
mutual
theorem BA{s:dG}{m:Model}{nums:List Term}(hm:e6 m=true)(h4:nums.length≤4)(hn:∀t∈nums,isTerm t=true):∀(c:Case)(ab:List bp)(dq:Nat),tG s nums c ab dq=true→(∀l∈ab,Fit nums l)→(∀l∈ab,ly m l)→False
 | .mk k n w ts a b ks,ab,dq,h,hf,hs=>by
   rw[tG] at h
   split at h
   ·cases h
   split at h
   ·simp only[ai] at h
    obtain⟨_,_,h⟩:=h
    split at h
    ·rename_i e l he hl
     simp only[ai,decide_eq_true_eq] at h
     obtain⟨h1,h2,h3,h5⟩:=h
     have hv:=(wK (Qz hs) he).1
     have hx:=hs l (cM hl)
     unfold ly at hx
     rw[if_pos h2,h1] at hx
     simp only[if_true] at hx
     exact hx (by rw[←h3,←h5,hv])
    ·cases h
   split at h
   ·simp only[ai] at h
    refine Sj (aB:=wq m nums) h.2 fun x hx=>?_
    obtain⟨l,hl,hx⟩:=List.mem_flatMap.1 hx
    exact LA h4 (hf l hl) (hs l hl) x hx
   split at h
   ·simp only[ai] at h
    obtain⟨hb,h⟩:=h
    split at h
    ·rename_i e he
     simp only[ai] at h
     obtain⟨hA,hB,_⟩:=uo.1 h.1
     have hv:=(wK (Qz hs) he).1
     have hk:ks.length=1:=by
      simp only[bare,ai,decide_eq_true_eq] at hb
      exact hb.2.2.2.2
     obtain⟨g1,g2⟩:=MD hm h4 hn hf hs (Oe hA hB (hn _ hA) (hn _ hB)) (II hv)
     exact tv hm h4 hn ks [ab++[gP e.A e.B]] (dq+1) h.2 (by rw[hk];rfl) _ (by simp) g1 g2
    ·cases h
   split at h
   ·simp only[ai] at h
    obtain⟨hb,hd,h⟩:=h
    obtain⟨hA,hB,ju⟩:=uo.1 hd
    have hk:ks.length=3:=by
     simp only[bare,ai,decide_eq_true_eq] at hb
     exact hb.2.2.2.2
    have key:∀l∈fJ a b,Fit nums l→ly m l→False:=fun l hl f1 f2=>by
     obtain⟨g1,g2⟩:=MD hm h4 hn hf hs f1 f2
     exact tv hm h4 hn ks ((fJ a b).map fun l=>ab++[l]) (dq+1) h (by rw[hk];rfl) _ (bD.2 ⟨l,hl,rfl⟩) g1 g2
    rcases aa (qv (value m a)<qv (value m b)) with h1|h1
    ·exact key (dz a b) (by simp[fJ]) (E0 hA hB (hn _ hA) (hn _ hB) ju) (Dn h1)
    ·rcases aa (qv (value m b)<qv (value m a)) with h2|h2
     ·exact key (dz b a) (by simp[fJ]) (E0 hB hA (hn _ hB) (hn _ hA) (Ne.symm ju)) (Dn h2)
     ·refine key (gP a b) (by simp[fJ]) (Oe hA hB (hn _ hA) (hn _ hB)) (II ?_)
      exact U3 (ES hm a) (ES hm b) (by rw[Rat.not_lt] at h1 h2;exact Rat.le_antisymm h2 h1)
   ·cases h
theorem tv{s:dG}{m:Model}{nums:List Term}(hm:e6 m=true)(h4:nums.length≤4)(hn:∀t∈nums,isTerm t=true):∀(cs:List Case)(ls:List (List bp))(dq:Nat),nw s nums cs ls dq=true→cs.length=ls.length→∀ab∈ls,(∀l∈ab,Fit nums l)→(∀l∈ab,ly m l)→False
 | [],ls,dq,_,hl,ab,hm',_,_=>by
   rw[List.eq_nil_of_length_eq_zero hl.symm] at hm'
   cases hm'
 | c::cs,[],dq,_,hl,_,_,_,_=>by simp at hl
 | c::cs,l::ls,dq,h,hl,ab,hx,hf,hs=>by
   rw[nw,ai] at h
   rcases ay.1 hx with rfl|hx
   ·exact BA hm h4 hn c ab dq h.1 hf hs
   ·exact tv hm h4 hn cs ls dq h.2 (by simpa using hl) ab hx hf hs
end
theorem O4{s:dG}{ab:List bp}{c:Case}{m:Model}(h:F7 s ab c=true):eE s m ab=false:=by
 cases hm:eE s m ab with
 | false=>rfl
 | true=>
   simp only[F7,ai] at h
   have hf:=xf h.1
   obtain⟨h1,h2⟩:=JK hm
   exact(BA h1 hf.2.2.1 hf.2.1 c ab 1 h.2 hf.1 h2).elim
mutual
theorem IH{f:Int→Int→Term→List iA→iA×Bool}:∀(w:mc)(d:Nat),(jJ f w d).2=true→jJ f w (d+1)=jJ f w d
 | .mk r n t ks,0,h=>by rw[jJ] at h;cases h
 | .mk r n t ks,d+1,h=>by
   rw[jJ] at h
   rw[jJ,jJ]
   cases hk:gO f ks d with
   | none=>rw[hk] at h;cases h
   | some es=>rw[GQ ks d es hk]
theorem GQ{f:Int→Int→Term→List iA→iA×Bool}:∀(ws:List mc)(d:Nat)(es:List iA),gO f ws d=some es→gO f ws (d+1)=some es
 | [],d,es,h=>by
   rw[gO] at h⊢
   exact h
 | w::ws,d,es,h=>by
   rw[gO] at h⊢
   split at h
   ·rename_i h1
    rw[IH w d h1,if_pos h1]
    cases hr:gO f ws d with
    | none=>rw[hr] at h;cases h
    | some r=>
      rw[hr] at h
      rw[GQ ws d r hr]
      exact h
   ·cases h
end
def jr(eqs:List iA)(w:mc)(d:Nat)(a b:Term):Prop:=jJ (n5 eqs) w d=(⟨a,b⟩,true)
theorem jr.up{eqs:List iA}{w:mc}{a b:Term}:∀{d d':Nat},d≤d'→jr eqs w d a b→jr eqs w d' a b
 | d,0,h,hw=>by
   obtain rfl:d=0:=by omega
   exact hw
 | d,d'+1,h,hw=>by
   rcases bU d (d'+1) with h1|h1
   ·have:=jr.up (d':=d') (by omega) hw
    unfold jr at this⊢
    rw[IH w d' (by rw[this]),this]
   ·obtain rfl:d=d'+1:=by omega
    exact hw
section
variable{eqs:List iA}
theorem Po{t:Term}(h:isTerm t=true):jr eqs (.mk 1 0 t []) 1 t t:=by
 unfold jr
 rw[jJ,gO]
 simp[n5,h]
theorem NF{n:Nat}{e:iA}(h:eqs[n]?=some e):jr eqs (.mk 2 n aL []) 1 e.A e.B:=by
 obtain⟨hn,rfl⟩:=bA.1 h
 unfold jr
 rw[jJ,gO]
 have hw:within (n:Int) 0 ((eqs.length:Int)-1)=true:=by simp[within];omega
 have h0:isNone aL=true:=rfl
 simp[n5,hw,h0,List.getD,hn]
theorem RL{w:mc}{d:Nat}{a b:Term}(h:jr eqs w d a b):jr eqs (.mk 3 0 aL [w]) (d+1) b a:=by
 unfold jr at h⊢
 rw[jJ,gO,h,gO]
 have h0:isNone aL=true:=rfl
 simp[n5,h0]
theorem L7{v w:mc}{d:Nat}{a b c:Term}(h1:jr eqs v d a b)(h2:jr eqs w d b c):jr eqs (.mk 4 0 aL [v,w]) (d+1) a c:=by
 unfold jr at h1 h2⊢
 rw[jJ,gO,h1,gO,h2,gO]
 have h0:isNone aL=true:=rfl
 simp[n5,h0]
theorem Fj{d:Nat}:∀{ws:List mc}{xs ys:List Term},ws.length=xs.length→xs.length=ys.length→(∀(j:Nat)(h1:j<ws.length)(h2:j<xs.length)(h3:j<ys.length),jr eqs ws[j] d xs[j] ys[j])→∃es,gO (n5 eqs) ws d=some es∧es.length=ws.length∧es.map (·.A)=xs∧es.map (·.B)=ys
 | [],[],[],_,_,_=>⟨[],by rw[gO],rfl,rfl,rfl⟩
 | [],_::_,_,h,_,_=>by simp at h
 | [],[],_::_,_,h,_=>by simp at h
 | _::_,[],_,h,_,_=>by simp at h
 | _::_,_::_,[],_,h,_=>by simp at h
 | w::ws,x::xs,y::ys,h1,h2,hw=>by
   obtain⟨es,e1,e2,e3,e4⟩:=Fj (ws:=ws) (xs:=xs) (ys:=ys) (by simpa using h1) (by simpa using h2) (fun j a b c=>by
    have:=hw (j+1) (by simpa using a) (by simpa using b) (by simpa using c)
    simp only[List.getElem_cons_succ] at this
    exact this)
   have h0:=hw 0 (by simp) (by simp) (by simp)
   unfold jr at h0
   simp only[List.getElem_cons_zero] at h0
   refine⟨⟨x,y⟩::es,?_,by simp[e2],by simp[e3],by simp[e4]⟩
   rw[gO,h0,e1]
   rfl
theorem Pf{name:nh}{ws:List mc}{xs ys:List Term}{d:Nat}(hn:fD name=true)(h0:0<ws.length)(h1:ws.length=xs.length)(h2:xs.length=ys.length)(hx:isTerm (.mk name xs)=true)(hy:isTerm (.mk name ys)=true)
 (hw:∀(j:Nat)(h1:j<ws.length)(h2:j<xs.length)(h3:j<ys.length),jr eqs ws[j] d xs[j] ys[j]):jr eqs (.mk 5 0 (.mk name []) ws) (d+1) (.mk name xs) (.mk name ys):=by
 obtain⟨es,e1,e2,e3,e4⟩:=Fj h1 h2 hw
 unfold jr
 rw[jJ,e1]
 have hl:¬es.length=0:=by omega
 have hl':es≠[]:=fun e=>hl (by rw[e];rfl)
 simp[n5,Term.name,Term.kids,hn,hl',e3,e4,hx,hy]
theorem Ae{one:Edge→mc}{af:List Step}{P:Nat→Term}{d:Nat}{x:Term}:∀(es:List Edge)(w:mc)(d':Nat)(v b:Nat),d≤d'→jr eqs w d' x (P v)→pG af v es b→(∀e∈es,jr eqs (one e) d (P (gC af e)) (P (ig af e)))→jr eqs (ot one w es) (d'+es.length) x (P b)
 | [],w,d',v,b,_,hw,hp,_=>by
   rw[pG] at hp
   rw[ot,←hp]
   exact hw
 | e::es,w,d',v,b,hd,hw,hp,ho=>by
   rw[pG] at hp
   rw[ot]
   have h1:=L7 hw ((hp.1▸ho e (by simp)).up hd)
   have:=Ae es _ (d'+1) (ig af e) b (by omega) h1 hp.2 fun y hy=>ho y (by simp[hy])
   rw[a8,show d'+(es.length+1)=d'+1+es.length by omega]
   exact this
end
section
variable{ae:List Term}{eqs:List iA}{af:List Step}(eK:lC ae eqs af)
include eK
theorem F5{k:Nat}(hk:k≤af.length){a b:Nat}(ha:a<ae.length)(hb:b<ae.length)(h:cl (aV ae.length af k) a=cl (aV ae.length af k) b) :
 ∀e∈lF ae.length af k a b,e.step<k∧cl (aV ae.length af k) (gC af e)=cl (aV ae.length af k) a∧cl (aV ae.length af k) (ig af e)=cl (aV ae.length af k) a:=by
 obtain⟨h1,h2,h3⟩:=rr eK hk ha hb h
 intro e he
 have hv:=pq eK hk h1 h2 (ig af e) (by unfold gJ;exact List.mem_cons_of_mem _ (bD.2 ⟨e,he,rfl⟩))
 have hs:=Cp eK hk (h1 e he)
 exact⟨h1 e he,by rw[hs,hv],hv⟩
theorem xI:∀{k:Nat},k≤af.length→∀{a b:Nat},a<ae.length→b<ae.length→cl (aV ae.length af k) a=cl (aV ae.length af k) b→((lF ae.length af k a b).map Edge.step).Nodup
 | 0,_,a,b,_,_,_=>by simp[lF]
 | k+1,hk,a,b,ha,hb,h=>by
   have hk':k≤af.length:=by omega
   rw[OQ (by omega) ha hb] at h
   have hA:=Gd eK (k:=k) (by omega)
   have hB:=Fs eK (k:=k) (by omega)
   have ju:=(og eK (k:=k) (by omega)).ne
   have disj:∀{x y u v:Nat},x<ae.length→y<ae.length→u<ae.length→v<ae.length→cl (aV ae.length af k) x=cl (aV ae.length af k) y→cl (aV ae.length af k) u=cl (aV ae.length af k) v→cl (aV ae.length af k) x≠cl (aV ae.length af k) u→∀bk,((lF ae.length af k x y++⟨k,bk⟩::lF ae.length af k u v).map Edge.step).Nodup:=by
    intro x y u v hx hy hu hv h1 h2 h3 bk
    have p1:=F5 eK hk' hx hy h1
    have p2:=F5 eK hk' hu hv h2
    rw[List.map_append,aQ,List.nodup_append]
    refine⟨xI hk' hx hy h1,cE.2 ⟨fun hm=>?_,xI hk' hu hv h2⟩,fun s hs t ht e=>?_⟩
    ·obtain⟨e,he,e1⟩:=bD.1 hm
     have e1':e.step=k:=e1
     have:=(p2 e he).1
     omega
    ·subst e
     obtain⟨e1,he1,q1⟩:=bD.1 hs
     rcases ay.1 ht with ht|ht
     ·have ht':s=k:=ht
      have:=(p1 e1 he1).1
      omega
     ·obtain⟨e2,he2,q2⟩:=bD.1 ht
      obtain⟨_,a1,a2⟩:=p1 e1 he1
      obtain⟨_,b1,b2⟩:=p2 e2 he2
      have jt:e1.step=e2.step:=by rw[q1,q2]
      refine h3 ?_
      rw[←a1,←b1]
      have es:gC af e1=gC af e2∨gC af e1=ig af e2:=by
       unfold gC ig
       rw[jt]
       cases e1.back<;>cases e2.back<;>simp
      rcases es with es|es
      ·rw[es]
      ·rw[es,b2,b1]
   rw[lF]
   rcases aa (cl (aV ae.length af k) a=cl (aV ae.length af k) b) with h1|h1
   ·rw[if_pos h1]
    exact xI hk' ha hb h1
   ·rw[if_neg h1]
    rcases h with h|⟨h,h'⟩|⟨h,h'⟩
    ·exact(h1 h).elim
    ·rw[if_pos (show _=cl _ (hJ af k).A.toNat from h)]
     exact disj ha hA hB hb h h'.symm (by rw[h];exact ju) false
    ·rw[if_neg (show ¬_=cl _ (hJ af k).A.toNat from fun x=>ju (by rw[←x];exact h))]
     exact disj ha hB hA hb h h'.symm (by rw[h];exact ju.symm) true
theorem W0{k:Nat}(hk:k≤af.length){a b:Nat}(ha:a<ae.length)(hb:b<ae.length)(h:cl (aV ae.length af k) a=cl (aV ae.length af k) b):(lF ae.length af k a b).length≤k:=by
 have h1:=xI eK hk ha hb h
 have h2:=j7 (N:=k) h1 fun v hv=>by
  obtain⟨e,he,rfl⟩:=bD.1 hv
  exact(F5 eK hk ha hb h e he).1
 simpa using h2
end
def oH:Nat→Nat
 | 0=>1
 | k+1=>oH k+2+k
theorem xm:∀{j k:Nat},j≤k→oH j≤oH k
 | j,0,h=>by
   obtain rfl:j=0:=by omega
   exact aI _
 | j,k+1,h=>by
   rcases bU j (k+1) with h1|h1
   ·have:=xm (j:=j) (k:=k) (by omega)
    rw[oH];omega
   ·obtain rfl:j=k+1:=by omega
    exact aI _
theorem Sv:oH 24≤400:=by decide
theorem Fz:∀k,1≤oH k
 | 0=>aI _
 | k+1=>by
   have:=Fz k
   rw[oH];omega
theorem Sx{ae:List Term}{c:List Nat}{a b:Nat}(h:alike ae c a b=true):0<(ae.getD a aL).kids.length∧(ae.getD a aL).name=(ae.getD b aL).name∧lA ae c (ae.getD a aL).kids (ae.getD b aL).kids=true:=by
 simp only[alike,ai,decide_eq_true_eq] at h
 exact h
theorem xF{ae:List Term}{t:Term}(h:t∈ae):ae.getD (aH ae t) aL=t:=by
 rw[getD_at (bx h)]
 exact(bA.1 (iL h)).2
section
variable{ae:List Term}{eqs:List iA}{af:List Step}(eK:lC ae eqs af)(Wb:gN ae)(htm:∀t∈ae,isTerm t=true)(kC:∀e∈eqs,e.A∈ae∧e.B∈ae)
include eK Wb htm kC
theorem F6:∀(f n a b:Nat),n<f→n≤af.length→a<ae.length→b<ae.length→cl (aV ae.length af n) a=cl (aV ae.length af n) b→jr eqs (lf ae af f n a b) (oH n) (ae.getD a aL) (ae.getD b aL)
 | 0,n,_,_,h,_,_,_,_=>by omega
 | f+1,n,a,b,hf,hn,ha,hb,hc=>by
   have hPt:∀i,i<ae.length→isTerm (ae.getD i aL)=true:=fun i hi=>by rw[getD_at hi];exact htm _ (ak hi)
   have hPm:∀i,i<ae.length→ae.getD i aL∈ae:=fun i hi=>by rw[getD_at hi];exact ak hi
   obtain⟨w1,w2,w3⟩:=rr eK hn ha hb hc
   have dy:=W0 eK hn ha hb hc
   have hedge:∀e,e.step<n→∃n',n=n'+1∧jr eqs (kJ ae af (lf ae af f) e) (oH n'+2) (ae.getD (gC af e) aL) (ae.getD (ig af e) aL):=fun e he=>by
    obtain⟨n',rfl⟩:∃n',n=n'+1:=⟨n-1,by omega⟩
    refine⟨n',rfl,?_⟩
    have hs:=og eK (k:=e.step) (by omega)
    have base:jr eqs (if(hJ af e.step).given<0 then .mk 5 0 (.mk (ae.getD (hJ af e.step).A.toNat aL).name []) (((ae.getD (hJ af e.step).A.toNat aL).kids.zip (ae.getD (hJ af e.step).B.toNat aL).kids).map fun p=>lf ae af f e.step (aH ae p.1) (aH ae p.2)) else .mk 2 (hJ af e.step).given aL []) (oH n'+1) (ae.getD (hJ af e.step).A.toNat aL) (ae.getD (hJ af e.step).B.toNat aL):=by
     rcases hs.Xv with⟨h1,h2⟩|⟨m,h1,q,h2,h3,h4⟩
     ·rw[if_pos (by omega)]
      obtain⟨k0,k1,k2⟩:=Sx h2
      obtain⟨k3,k4⟩:=BS k2
      have tA:=hPt _ hs.a1
      have tB:=hPt _ hs.b1
      have mA:=Wb _ (hPm _ hs.a1)
      have mB:=Wb _ (hPm _ hs.b1)
      generalize ae.getD (hJ af e.step).A.toNat aL=tA0 at *
      generalize ae.getD (hJ af e.step).B.toNat aL=tB0 at *
      obtain⟨nA,kA⟩:=tA0
      obtain⟨nB,kB⟩:=tB0
      have k1:nA=nB:=k1
      subst k1
      have k0:0<kA.length:=k0
      have k3:kA.length=kB.length:=k3
      have mA:∀k∈kA,k∈ae:=mA
      have mB:∀k∈kB,k∈ae:=mB
      show jr eqs (.mk 5 0 (.mk nA []) ((kA.zip kB).map fun p=>lf ae af f e.step (aH ae p.1) (aH ae p.2))) (oH n'+1) (.mk nA kA) (.mk nA kB)
      refine Pf (LG tA) (by simp;omega) (by simp;omega) k3 tA tB fun j j1 j2 j3=>?_
      simp only[List.getElem_map,List.getElem_zip]
      have xA:=mA _ (ak j2)
      have xB:=mB _ (ak j3)
      have:=F6 f e.step (aH ae kA[j]) (aH ae kB[j]) (by omega) (by omega) (bx xA) (bx xB) (k4 j j2 j3)
      rw[xF xA,xF xB] at this
      exact this.up (xm (by omega))
     ·rw[if_neg (by omega),h1,h3,h4]
      simp only[Int.toNat_natCast]
      have hq:=kC q (cM h2)
      rw[xF hq.1,xF hq.2]
      exact(NF h2).up (by omega)
    unfold kJ gC ig vA vB
    simp only
    cases e.back with
    | true=>exact RL base
    | false=>exact base.up (by omega)
   rw[lf]
   cases hw:lF ae.length af n a b with
   | nil=>
     rw[hw,pG] at w2
     rw[←w2]
     exact(Po (hPt a ha)).up (Fz n)
   | cons e es=>
     rw[hw] at w1 w2 dy
     rw[pG] at w2
     obtain⟨n',hn',h1⟩:=hedge e (w1 e (by simp))
     subst hn'
     rw[w2.1] at h1
     have lP:∀x∈es,jr eqs (kJ ae af (lf ae af f) x) (oH n'+2) (ae.getD (gC af x) aL) (ae.getD (ig af x) aL):=fun x hx=>by
      obtain⟨n2,e2,h2⟩:=hedge x (w1 x (by simp[hx]))
      obtain rfl:n2=n':=by omega
      exact h2
     have:=Ae (P:=fun i=>ae.getD i aL) es _ (oH n'+2) (ig af e) b (aI _) h1 w2.2 lP
     simp only[a8] at dy
     refine this.up ?_
     rw[oH]
     omega
end
end Go.Mod
namespace Go.Mod
open Go.Eng
set_option maxRecDepth 100000
def Oq(n:Nat)(c:List Nat):Prop:=c.length=n∧∀i,i<n→cl c i<n∧cl c (cl c i)=cl c i
def Fh(c:List Nat):List Nat:=(bt c.length).filter fun i=>decide (cl c i=i)
theorem vP{c:List Nat}{i:Nat}:i∈Fh c↔i<c.length∧cl c i=i:=by simp[Fh]
theorem Gt(c:List Nat):(Fh c).Nodup:=List.nodup_range.filter _
theorem MJ{n:Nat}{c:List Nat}{a b:Nat}(h:Oq n c)(ha:a<n)(hb:b<n)(ju:cl c a≠cl c b):Oq n (fU c a b)∧(Fh (fU c a b)).length+1≤(Fh c).length:=by
 obtain⟨hl,hr⟩:=h
 have hA:=hr a ha
 have hB:=hr b hb
 obtain⟨mx,hmx⟩:∃mx,max (cl c a) (cl c b)=mx:=⟨_,rfl⟩
 obtain⟨mn,hmn⟩:∃mn,min (cl c a) (cl c b)=mn:=⟨_,rfl⟩
 have hmxn:mx<n∧cl c mx=mx∧mn<n∧cl c mn=mn∧mn≠mx:=by
  rcases bU (cl c a) (cl c b) with h1|h1
  ·have e1:mx=cl c b:=by omega
   have e2:mn=cl c a:=by omega
   rw[e1,e2]
   exact⟨hB.1,hB.2,hA.1,hA.2,ju⟩
  ·have e1:mx=cl c a:=by omega
   have e2:mn=cl c b:=by omega
   rw[e1,e2]
   exact⟨hA.1,hA.2,hB.1,hB.2,fun e=>ju e.symm⟩
 obtain⟨x1,x2,x3,x4,x5⟩:=hmxn
 have hj:∀i,i<n→cl (fU c a b) i=if cl c i=mx then mn else cl c i:=fun i hi=>by
  rw[wT (by omega),hmx,hmn]
 refine⟨⟨by rw[fC,hl],fun i hi=>?_⟩,?_⟩
 ·rw[hj i hi]
  obtain⟨r1,r2⟩:=hr i hi
  split
  ·exact⟨x3,by rw[hj mn x3,x4,if_neg x5]⟩
  ·rename_i h1
   exact⟨r1,by rw[hj _ r1,r2,if_neg h1]⟩
 ·have hs:∀i∈mx::Fh (fU c a b),i∈Fh c:=by
   intro i hi
   rcases ay.1 hi with rfl|hi
   ·exact vP.2 ⟨by omega,x2⟩
   ·obtain⟨h1,h2⟩:=vP.1 hi
    rw[fC] at h1
    rw[hj i (by omega)] at h2
    split at h2
    ·rename_i h3
     rw[←h2,x4] at h3
     exact absurd h3 x5
    ·exact vP.2 ⟨h1,h2⟩
  have hn:(mx::Fh (fU c a b)).Nodup:=by
   refine cE.2 ⟨fun hm=>?_,Gt _⟩
   have:=(vP.1 hm).2
   rw[hj mx x1,if_pos x2] at this
   exact x5 this
  simpa using xi hn hs
theorem Bk{ae:List Term}{eqs:List iA}{af:List Step}(eK:lC ae eqs af):∀k,k≤af.length→Oq ae.length (aV ae.length af k)∧(Fh (aV ae.length af k)).length+k≤ae.length
 | 0,_=>by
   have e:∀i,i<ae.length→cl (aV ae.length af 0) i=i:=fun i hi=>by
    rw[gR (by rw[iz];exact hi)]
    simp[aV]
   refine⟨⟨iz ..,fun i hi=>by rw[e i hi];exact⟨hi,e i hi⟩⟩,?_⟩
   have:=j7 (N:=ae.length) (Gt (aV ae.length af 0)) fun v hv=>by
    have:=(vP.1 hv).1
    rwa [iz] at this
   omega
 | k+1,hk=>by
   obtain⟨h1,h2⟩:=Bk eK k (by omega)
   have hs:=og eK (k:=k) (by omega)
   rw[Rb (by omega)]
   obtain⟨h3,h4⟩:=MJ h1 hs.a1 hs.b1 hs.ne
   exact⟨h3,by
    have h4':(Fh (fU (aV ae.length af k) (vA af k) (vB af k))).length+1≤(Fh (aV ae.length af k)).length:=h4
    omega⟩
theorem TE{ae:List Term}{eqs:List iA}(kC:∀e∈eqs,e.A∈ae∧e.B∈ae):(closed ae eqs).2.length≤ae.length:=by
 have:=(Bk (mI kC).1 _ (aI _)).2
 omega
theorem Dt{ae:List Term}{eqs:List iA}(Wb:gN ae)(htm:∀t∈ae,isTerm t=true)(kC:∀e∈eqs,e.A∈ae∧e.B∈ae)(h24:ae.length≤24){a b:Term}(ha:a∈ae)(hb:b∈ae)(hc:fY ae (closed ae eqs).1 a b=true) :
 jr eqs (lX ae (closed ae eqs).2 a b) 400 a b:=by
 have hk:=mI kC
 have hs:=TE kC
 have hc':=of_decide_eq_true hc
 rw[hk.2] at hc'
 have:=F6 hk.1 Wb htm kC ((closed ae eqs).2.length+1) (closed ae eqs).2.length (aH ae a) (aH ae b) (by omega) (aI _) (bx ha) (bx hb) hc'
 rw[xF ha,xF hb] at this
 exact this.up (Nat.le_trans (xm (show _≤24 by omega)) Sv)
theorem MT{s:dG}{eqs:List iA}{w:mc}{a b:Term}(h1:wu s eqs=true)(h2:wu s [⟨a,b⟩]=true)(h:jr eqs w 400 a b):r5 s eqs w=some ⟨a,b⟩:=by
 unfold jr at h
 unfold r5
 rw[h1,h]
 simp[h2]
structure G7(s:dG)(ab:List bp):Prop where
 vO:hY s ab
 one:∀l∈ab,l.atom.kind=1→iI s ⟨l.atom.A,l.atom.B⟩=true
theorem G7.eqs{s:dG}{ab:List bp}(h:G7 s ab):∀e∈bc ab,iI s e=true:=fun e he=>by
 obtain⟨l,hl,h1,_,rfl⟩:=Cg.1 he
 exact h.one l hl h1
theorem Wo{s:dG}{ab:List bp}(h:fa s ab=true):G7 s ab:=⟨Am h,fun l hl hk=>by
 have:=CG h l hl
 simp only[eZ,hk,if_true,ai] at this
 exact this.2.2⟩
theorem G7.wu{s:dG}{ab:List bp}(h:G7 s ab)(h12:(bc ab).length≤12):wu s (bc ab)=true:=by
 have hg:=h.vO
 have hi:∀t∈E5 (bc ab),t∈aE ab:=fun t ht=>by
  obtain⟨e,he,h1⟩:=IM.1 ht
  obtain⟨h2,h3⟩:=hg.zT e he
  rcases h1 with rfl|rfl
  ·exact h2
  ·exact h3
 have h1:=Mh (ts:=E5 (bc ab)) (fun t ht=>hg.term t (hi t ht)) hg.kids hi
 simp only[Mod.wu,ai,decide_eq_true_eq,cd]
 exact⟨⟨⟨hg.sig,h12⟩,h.eqs⟩,by have:=hg.n24;omega⟩
theorem G7.aa4{s:dG}{ab:List bp}(h:G7 s ab){a b:Term}(ha:a∈aE ab)(hb:b∈aE ab)(hs:iI s ⟨a,b⟩=true):Mod.wu s [⟨a,b⟩]=true:=by
 have hg:=h.vO
 have hi:∀t∈E5 [(⟨a,b⟩:iA)],t∈aE ab:=fun t ht=>by
  obtain⟨e,he,h1⟩:=IM.1 ht
  rw[df] at he
  subst he
  rcases h1 with rfl|rfl
  ·exact ha
  ·exact hb
 have h1:=Mh (ts:=E5 [(⟨a,b⟩:iA)]) (fun t ht=>hg.term t (hi t ht)) hg.kids hi
 simp only[Mod.wu,ai,decide_eq_true_eq,cd]
 exact⟨⟨⟨hg.sig,by simp⟩,fun e he=>by rw[df.1 he];exact hs⟩,by have:=hg.n24;omega⟩
theorem Mr{s:dG}{ab:List bp}{t:Term}(h:t∈numsOf s ab):fj s t=some 1:=of_decide_eq_true (gk.1 h).2
theorem wO{s:dG}{ab:List bp}{a b:Term}(ha:a∈numsOf s ab)(hb:b∈numsOf s ab):iI s ⟨a,b⟩=true:=by
 simp[iI,Mr ha,Mr hb]
theorem G7.more{s:dG}{ab:List bp}{l:bp}(h:G7 s ab)(hn:Next s ab l)(he:l.atom.kind=1→iI s ⟨l.atom.A,l.atom.B⟩=true):G7 s (ab++[l]):=by
 refine⟨hn.1,fun x hx=>?_⟩
 rcases aR.1 hx with hx|hx
 ·exact h.one x hx
 ·rw[df.1 hx]
  exact he
theorem Ai(a b:Term):(dz a b).atom.kind=2:=by unfold dz;split<;>rfl
theorem Zz{list:List ia}(h:(bR list).code=1):qS list (bR list).times=true:=by
 have hend:∀s0 s1 s2 s3 rows,(ie list s0 s1 s2 s3 rows).code=1→qS list (ie list s0 s1 s2 s3 rows).times=true:=fun s0 s1 s2 s3 rows h=>by
  unfold ie at h⊢
  split at h
  ·split at h
   ·rename_i hf
    rw[if_pos hf]
    exact hf
   ·simp at h
  ·split at h
   ·simp at h
   ·split at h<;>simp at h
 unfold bR at h⊢
 split at h
 ·rename_i hs
  rw[if_pos hs]
  split at h
  ·simp at h
  ·split at h
   ·simp at h
   ·split at h
    ·simp at h
    ·split at h
     ·simp at h
     ·exact hend _ _ _ _ _ h
 ·simp at h
theorem Nw{run:List bp→zt}{a b:Term}:∀{ls:List (List bp)}{out:List Case},(qi run a b ls out).code=1→(qi run a b ls out).case= .mk 4 0 vM [] a b (out++ls.map fun l=>(run l).case)∧∀l∈ls,(run l).code=1
 | [],out,_=>⟨by rw[rm];simp,by simp⟩
 | l::ls,out,h=>by
   rw[pr] at h⊢
   rcases aa ((run l).code=1) with h1|h1
   ·rw[if_pos h1] at h⊢
    obtain⟨i1,i2⟩:=Nw h
    refine⟨by rw[i1];simp,fun x hx=>?_⟩
    rcases ay.1 hx with rfl|hx
    ·exact h1
    ·exact i2 x hx
   ·rw[if_neg h1] at h
    exact absurd h h1
theorem CR{s:dG}{nums:List Term}{g:List bp→Case}{dq:Nat}:∀{ls:List (List bp)},(∀l∈ls,tG s nums (g l) l dq=true)→nw s nums (ls.map g) ls dq=true
 | [],_=>by rw[di,nw];· intros;contradiction
 | l::ls,h=>by
   rw[aQ,nw,ai]
   exact⟨h l (by simp),CR fun x hx=>h x (by simp[hx])⟩
theorem Fo{s:dG}:∀(f:Nat)(ab:List bp)(dq:Nat),G7 s ab→dq+f≤14→(jw s (aE ab) (numsOf s ab) f ab).code=1→tG s (numsOf s ab) (jw s (aE ab) (numsOf s ab) f ab).case ab dq=true
 | 0,ab,_,_,_,h=>by simp[jw,uz] at h
 | f+1,ab,dq,hF,hd,h=>by
   have hg:=hF.vO
   have hdeep:¬14<dq:=by omega
   have n0:isNone aL=true:=rfl
   rcases aa (12<(bc ab).length) with h12|h12
   ·rw[xl h12] at h
    simp[uz] at h
   have hE:=hF.wu (by omega)
   have hwhy:∀{a b:Term},a∈aE ab→b∈aE ab→iI s ⟨a,b⟩=true→fY (aE ab) (closed (aE ab) (bc ab)).1 a b=true→r5 s (bc ab) (lX (aE ab) (closed (aE ab) (bc ab)).2 a b)=some ⟨a,b⟩:=fun ha hb hs hc=>
    MT hE (hF.aa4 ha hb hs) (Dt hg.kids hg.term hg.zT hg.n24 ha hb hc)
   cases hc:kI (jm (aE ab) (closed (aE ab) (bc ab)).1) ab with
   | some n=>
     rw[uh h12 hc]
     obtain⟨hn,hp⟩:=Az hc
     have hgd:ab.getD n DN=ab[n]:=getD_at hn
     simp only[jm,ai,decide_eq_true_eq] at hp
     obtain⟨p1,p2,p3⟩:=hp
     have hm:=ak hn
     obtain⟨hA,hB⟩:=hg.Ks _ hm p2
     have hw:=hwhy hA hB (hF.one _ hm p2) p3
     rw[hgd,tG,if_neg hdeep,if_pos rfl,hw]
     have hw2:within (n:Int) 0 ((ab.length:Int)-1)=true:=by simp[within];omega
     simp[bare,Case.n,Case.vN,Case.kids,Case.A,Case.B,Case.times,n0,hw2,hn,p1,p2]
   | none=>
   rcases aa ((bR (dY (numsOf s ab) ab)).code=1) with h1|h1
   ·rw[wy h12 hc h1,tG,if_neg hdeep]
    simp[bare,Case.n,Case.vN,Case.kids,Case.A,Case.B,n0,Zz h1]
   rcases aa ((bR (dY (numsOf s ab) ab)).code=0) with h0|h0
   ·cases hp:b9 (numsOf s ab).length (dZ true (aE ab) (numsOf s ab) (closed (aE ab) (bc ab)).1 ab) with
    | some q=>
      rw[xq h12 hc h0 hp] at h⊢
      obtain⟨q1,q2,q3⟩:=kL hp
      have hn:=Ec hg q1 q2 (qV q3)
      have m1:(numsOf s ab).getD q.1 aL∈numsOf s ab:=mw (by omega)
      have m2:(numsOf s ab).getD q.2 aL∈numsOf s ab:=mw q2
      have ju:=AS hg q1 q2
      have hsm:fY (aE ab) (closed (aE ab) (bc ab)).1 ((numsOf s ab).getD q.1 aL) ((numsOf s ab).getD q.2 aL)=true:=by
       simp only[dZ,if_true,ai] at q3
       exact q3.2
      have hw:=hwhy (ow _ m1) (ow _ m2) (wO m1 m2) hsm
      generalize (numsOf s ab).getD q.1 aL=a at *
      generalize (numsOf s ab).getD q.2 aL=b at *
      unfold AM at h⊢
      rcases aa ((jw s (aE ab) (numsOf s ab) f (ab++[gP a b])).code=1) with hr|hr
      ·rw[if_pos hr,tG,if_neg hdeep]
       have hF':=hF.more hn fun _=>wO m1 m2
       obtain⟨n1,n2,n3,_⟩:=hn
       have ih:=Fo f (ab++[gP a b]) (dq+1) hF' (by omega) (by rw[n2,n3];exact hr)
       rw[n2,n3] at ih
       have hdf:differ (numsOf s ab) a b=true:=uo.2 ⟨m1,m2,ju⟩
       rw[if_neg (by decide),if_neg (by decide),if_pos rfl,hw]
       have hkk:nw s (numsOf s ab) [(jw s (aE ab) (numsOf s ab) f (ab++[gP a b])).case] [ab++[gP a b]] (dq+1)=true:=by
        rw[nw,ih,nw]
        ·rfl
        ·intros;contradiction
       simp[bare,Case.n,Case.vN,Case.kids,Case.A,Case.B,Case.times,n0,hdf,hkk]
      ·rw[if_neg hr] at h
       exact absurd h hr
    | none=>
    cases hq:b9 (numsOf s ab).length (dZ false (aE ab) (numsOf s ab) (closed (aE ab) (bc ab)).1 ab) with
    | some q=>
      rw[rq h12 hc h0 hp hq] at h⊢
      obtain⟨q1,q2,q3⟩:=kL hq
      have hn:=wj hg q1 q2 (uO q3)
      have m1:(numsOf s ab).getD q.1 aL∈numsOf s ab:=mw (by omega)
      have m2:(numsOf s ab).getD q.2 aL∈numsOf s ab:=mw q2
      have ju:=AS hg q1 q2
      generalize (numsOf s ab).getD q.1 aL=a at *
      generalize (numsOf s ab).getD q.2 aL=b at *
      obtain⟨p1,p2⟩:=Nw h
      rw[p1,tG,if_neg hdeep]
      have lP:nw s (numsOf s ab) (((fJ a b).map fun l=>ab++[l]).map fun l=>(jw s (aE ab) (numsOf s ab) f l).case) ((fJ a b).map fun l=>ab++[l]) (dq+1)=true:=by
       refine CR fun L hL=>?_
       obtain⟨l,hl,rfl⟩:=bD.1 hL
       have hnl:=hn l hl
       have hF':=hF.more hnl fun hk=>by
        simp only[fJ,ay,List.not_mem_nil,or_false] at hl
        rcases hl with rfl|rfl|rfl
        ·exact wO m1 m2
        ·rw[Ai] at hk;omega
        ·rw[Ai] at hk;omega
       obtain⟨n1,n2,n3,_⟩:=hnl
       have ih:=Fo f (ab++[l]) (dq+1) hF' (by omega) (by rw[n2,n3];exact p2 _ hL)
       rw[n2,n3] at ih
       exact ih
      have hdf:differ (numsOf s ab) a b=true:=uo.2 ⟨m1,m2,ju⟩
      rw[if_neg (by decide),if_neg (by decide),if_neg (by decide),if_pos rfl,List.nil_append,lP,hdf]
      simp[bare,Case.n,Case.vN,Case.kids,Case.A,Case.B,Case.times,fJ]
    | none=>
      rw[tN h12 hc h0 hp hq] at h
      split at h<;>simp[uz] at h
   ·rw[v8 h12 hc h1 h0] at h
    simp[uz] at h
theorem RQ{s:dG}{ab:List bp}(h:(fk s ab).code=1):F7 s ab (fk s ab).case=true:=by
 have hb:fa s ab=true:=by
  cases hb:fa s ab with
  | true=>rfl
  | false=>simp[fk,hb] at h
 have e:fk s ab=jw s (aE ab) (numsOf s ab) 13 ab:=by simp[fk,hb]
 rw[e] at h⊢
 rw[F7,hb,Fo 13 ab 1 (Wo hb) (by omega) h]
 rfl
theorem N8{s:dG}{ab:List bp}(h:(fk s ab).code=1)(m:Model):eE s m ab=false:=O4 (RQ h)
theorem Ph{s:dG}{ab more:List bp}(h:fa s ab=true)(hs:∀l∈more,l∈ab)(h6:more.length≤6):fa s more=true:=by
 have hg:=Am h
 have k9:∀l∈more,eZ s l.atom=true:=fun l hl=>CG h l (hs l hl)
 have lP:∀t∈dI more,isTerm t=true:=fun t ht=>by
  obtain⟨l,hl,ht⟩:=mQ.1 ht
  exact hg.all t (mQ.2 ⟨l,hs l hl,ht⟩)
 have kC:∀t∈dI more,t∈aE ab:=fun t ht=>by
  obtain⟨l,hl,ht⟩:=mQ.1 ht
  exact hg.has l (hs l hl) t ht
 have lg:∀t∈aE more,t∈aE ab:=by
  rw[jC,iw lP]
  exact nC _ [] _ hg.kids kC (by simp)
 have hnd:(aE more).Nodup:=by
  rw[jC,iw lP]
  exact kT _ _ (by simp)
 have h24:=xi hnd lg
 have h4:=xi (hnd.filter (dk s)) (m:=numsOf s ab) fun t ht=>by
  obtain⟨h1,h2⟩:=gk.1 ht
  exact gk.2 ⟨lg t h1,h2⟩
 rw[zJ] at h4
 have:=hg.n24
 have:=hg.n4
 simp only[fa,ai,decide_eq_true_eq,cd]
 exact⟨⟨⟨⟨hg.sig,h6⟩,k9⟩,by omega⟩,by omega⟩
theorem Jv{s:dG}{ab:List bp}:(fk s ab).code=3↔fa s ab=false:=by
 have ju:∀(f:Nat)(l:List bp),(jw s (aE ab) (numsOf s ab) f l).code≠3:=by
  intro f
  induction f with
  | zero=>intro l;simp[jw,uz]
  | succ f ih=>
    intro l
    have hpart:∀(ls:List (List bp))(a b:Term)(out:List Case),(qi (jw s (aE ab) (numsOf s ab) f) a b ls out).code≠3:=by
     intro ls
     induction ls with
     | nil=>intro a b out;rw[rm];simp
     | cons x xs ih2=>
       intro a b out
       rw[pr]
       split
       ·exact ih2 _ _ _
       ·exact ih x
    rcases aa (12<(bc l).length) with h12|h12
    ·rw[xl h12];simp[uz]
    cases hc:kI (jm (aE ab) (closed (aE ab) (bc l)).1) l with
    | some n=>rw[uh h12 hc];simp
    | none=>
    rcases aa ((bR (dY (numsOf s ab) l)).code=1) with h1|h1
    ·rw[wy h12 hc h1];simp
    rcases aa ((bR (dY (numsOf s ab) l)).code=0) with h0|h0
    ·cases hp:b9 (numsOf s ab).length (dZ true (aE ab) (numsOf s ab) (closed (aE ab) (bc l)).1 l) with
     | some q=>
       rw[xq h12 hc h0 hp]
       unfold AM
       split
       ·simp
       ·exact ih _
     | none=>
     cases hq:b9 (numsOf s ab).length (dZ false (aE ab) (numsOf s ab) (closed (aE ab) (bc l)).1 l) with
     | some q=>
       rw[rq h12 hc h0 hp hq]
       exact hpart _ _ _ _
     | none=>
       rw[tN h12 hc h0 hp hq]
       split<;>simp[uz]
    ·rw[v8 h12 hc h1 h0];simp[uz]
 cases hb:fa s ab with
 | true=>
   have e:fk s ab=jw s (aE ab) (numsOf s ab) 13 ab:=by simp[fk,hb]
   rw[e]
   exact⟨fun h=>absurd h (ju 13 ab),fun h=>by cases h⟩
 | false=>simp[fk,hb]
theorem AN{s:dG}{m:Model}{a b:List bp}(h:eE s m a=true)(hs:∀l∈b,l∈a):eE s m b=true:=by
 simp only[eE,ai,cd,decide_eq_true_eq] at h⊢
 exact⟨h.1,fun l hl=>h.2 l (hs l hl)⟩
theorem PB{s:dG}{a b:List bp}(h1:(fk s a).code=0)(hs:∀l∈b,l∈a):(fk s b).code≠1:=fun h2=>by
 have:=N8 h2 (fk s a).model
 rw[AN (Nf h1) hs] at this
 cases this
end Go.Mod
