/-
  Plain laws: what has a reason that it can not be is so in no model. No program is walked here.
-/
import Derived.Test.YtabembjmeobhoaaGreatKCEm
set_option linter.unusedVariables false
set_option linter.unusedSimpArgs false
open Bool renaming and_eq_true→ai,false_eq_true→aw
open Classical renaming em→aa
open List renaming getElem_mem→ak,mem_cons→ax,getD_eq_getElem?_getD→ay,mem_append→aP,map_cons→aQ,length_append→aR,length_cons→aW,range→bu,getElem?_eq_some_iff→bB,mem_map→bF,all_eq_true→cg,nodup_cons→cJ,mem_of_getElem?→cW,mem_singleton→du,map_nil→dB,length_nil→dE,mem_filter→gv
open Nat renaming le_refl→aJ,lt_or_ge→bV
open Option renaming map_some→cz
namespace Go.Mod
open Go.Eng
set_option maxRecDepth 100000
def rn(m:Model):List Term→List Int→QQ
 | t::ts,n::ns=>n*qv (value m t)+rn m ts ns
 | _,_=>0
def HD(m:Model)(a:Atom):Prop:=if a.strict then rn m a.nums a.times<a.bound else rn m a.nums a.times≤a.bound
def lC(m:Model)(l:bl):Prop:=if l.atom.kind=1 then(if l.no then value m l.atom.A≠value m l.atom.B else value m l.atom.A=value m l.atom.B) else(if l.no then ¬HD m l.atom else HD m l.atom)
theorem Hh{m:Model}:∀{ts:List Term}{ns:List Int}{s r:Rat},mr m ts ns s=some r→bW s=true→qv r=qv s+rn m ts ns∧bW r=true
 | [],ns,s,r,h,hs=>by
   have e0:mr m [] ns s=some s:=by unfold mr;rfl
   rw[e0] at h
   cases h
   have e:rn m [] ns=0:=by unfold rn;rfl
   exact⟨by rw[e];grind,hs⟩
 | t::ts,[],s,r,h,hs=>by
   have e0:mr m (t::ts) [] s=some s:=by unfold mr;rfl
   rw[e0] at h
   cases h
   have e:rn m (t::ts) []=0:=by unfold rn;rfl
   exact⟨by rw[e];grind,hs⟩
 | t::ts,n::ns,s,r,h,hs=>by
   rw[mr] at h
   split at h
   ·rename_i hp
    have h1:=Sr hp
    have h2:=Hh h h1.2
    exact⟨by rw[h2.1,h1.1,rn];grind,h2.2⟩
   ·cases h
theorem Vy{a:Atom}(h:cP a=true)(k2:a.kind=2):-1000000000≤a.bound∧a.bound≤1000000000:=by
 have hk:¬a.kind=1:=by omega
 simp only[cP,if_neg hk,if_pos k2,ai,within,decide_eq_true_eq] at h
 have:=h.2.2.2.2.1
 omega
theorem Tt{s:dI}{m:Model}{l:bl}(h:gn s m l=some true):lC m l:=by
 unfold gn at h
 split at h
 ·rename_i hc
  simp only[ai,fk] at hc
  have hwf:=hc.2.2.1
  unfold lC
  unfold nS at h
  rcases aa (l.atom.kind=1) with hk|hk
  ·rw[if_pos hk] at h⊢
   simp only[cz,Option.some.injEq] at h
   cases hn:l.no with
   | true=>
     rw[hn] at h
     simpa using h
   | false=>
     rw[hn] at h
     simpa using h
  ·rw[if_neg hk] at h⊢
   have k2:=(kh hwf).resolve_left hk
   cases hs:mr m l.atom.nums l.atom.times (whole 0) with
   | none=>rw[hs] at h;cases h
   | some r=>
     rw[hs] at h
     simp only[cz,Option.some.injEq] at h
     have h1:=Hh hs (qy (by omega) (by omega))
     have h2:=Sl (st:=l.atom.strict) h1.2 (Vy hwf k2)
     rw[h1.1,xD] at h2
     have e:((0:Int):QQ)+rn m l.atom.nums l.atom.times=rn m l.atom.nums l.atom.times:=by grind
     rw[e] at h2
     have h3:below r l.atom.bound l.atom.strict=true↔HD m l.atom:=h2
     cases hn:l.no with
     | true=>
       rw[hn] at h
       simp only[if_true]
       rw[←h3]
       intro hx
       rw[hx] at h
       simp at h
     | false=>
       rw[hn] at h
       simp only[aw,if_false]
       rw[←h3]
       simpa using h
 ·cases h
theorem LO{s:dI}{m:Model}{ab:List bl}(h:eP s m ab=true):fh m=true∧∀l∈ab,lC m l:=by
 simp only[eP,fg,ai,cg,decide_eq_true_eq] at h
 exact⟨h.1.2.1,fun l hl=>Tt (h.2 l hl)⟩
section
variable{m:Model}{eqs:List fF}(hE:∀e∈eqs,value m e.A=value m e.B)
include hE
theorem N4{r n:Int}{t:Term}{kids:List fF}(hk:∀e∈kids,value m e.A=value m e.B)(h:(bH eqs r n t kids).2=true):value m (bH eqs r n t kids).1.A=value m (bH eqs r n t kids).1.B:=by
 unfold bH at h⊢
 split at h
 ·cases h
 ·rename_i c0
  rw[if_neg c0]
  split at h
  ·rename_i c1
   rw[if_pos c1]
  ·rename_i c1
   rw[if_neg c1]
   split at h
   ·rename_i c2
    rw[if_pos c2]
    split at h
    ·cases h
    ·rename_i c3
     rw[if_neg c3]
     simp only
     rcases bV n.toNat eqs.length with hl|hl
     ·rw[getD_at hl]
      exact hE _ (ak hl)
     ·rw[ay,List.getElem?_eq_none hl]
      rfl
   ·rename_i c2
    rw[if_neg c2]
    split at h
    ·rename_i c3
     rw[if_pos c3]
     split at h
     ·rename_i c4
      rw[if_pos c4]
      simp only
      rw[getD_at (by omega)]
      exact(hk _ (ak _)).symm
     ·cases h
    ·rename_i c3
     rw[if_neg c3]
     split at h
     ·rename_i c4
      rw[if_pos c4]
      split at h
      ·rename_i c5
       rw[if_pos c5]
       simp only
       obtain⟨c6,c7⟩:=c5
       have e0:=hk _ (ak (show 0<kids.length by omega))
       have e1:=hk _ (ak (show 1<kids.length by omega))
       rw[getD_at (show 0<kids.length by omega),getD_at (show 1<kids.length by omega)] at c7⊢
       rw[e0,c7,e1]
      ·cases h
     ·rename_i c4
      rw[if_neg c4]
      split at h
      ·rename_i c5
       rw[if_pos c5]
       split at h
       ·cases h
       ·rename_i c6
        rw[if_neg c6]
        simp only
        rw[value,value,mV,mV,List.map_map,List.map_map]
        congr 1
        exact List.map_congr_left fun e he=>hk e he
      ·cases h
end
mutual
theorem Ca{m:Model}{eqs:List fF}(hE:∀e∈eqs,value m e.A=value m e.B):∀(w:ju)(d:Nat),(bR (bH eqs) w d).2=true→value m (bR (bH eqs) w d).1.A=value m (bR (bH eqs) w d).1.B
 | .mk r n t ks,0,h=>by rw[bR] at h;cases h
 | .mk r n t ks,d+1,h=>by
   rw[bR] at h⊢
   cases hk:cO (bH eqs) ks d with
   | none=>rw[hk] at h;cases h
   | some kids=>
     rw[hk] at h
     exact N4 hE (zy hE ks d kids hk) h
theorem zy{m:Model}{eqs:List fF}(hE:∀e∈eqs,value m e.A=value m e.B):∀(ws:List ju)(d:Nat)(es:List fF),cO (bH eqs) ws d=some es→∀e∈es,value m e.A=value m e.B
 | [],d,es,h,e,he=>by
   rw[cO] at h
   cases h
   cases he
 | w::ws,d,es,h,e,he=>by
   rw[cO] at h
   split at h
   ·rename_i h1
    cases hr:cO (bH eqs) ws d with
    | none=>rw[hr] at h;cases h
    | some r=>
      rw[hr] at h
      simp only[cz,Option.some.injEq] at h
      rw[←h] at he
      rcases ax.1 he with rfl|he
      ·exact Ca hE w d h1
      ·exact zy hE ws d r hr e he
   ·cases h
end
theorem yi{m:Model}{eqs:List fF}(hE:∀e∈eqs,value m e.A=value m e.B){s:dI}{w:ju}{e:fF}(h:ko s eqs w=some e):value m e.A=value m e.B∧nk s [e]=true:=by
 unfold ko at h
 split at h
 ·rename_i hc
  simp only[ai] at hc
  cases h
  exact⟨Ca hE w 400 hc.2.1,hc.2.2⟩
 ·cases h
theorem Od{m n:Int}:∀{as bs:List Int}{aB:List Rat},as.length=bs.length→dot (comb m n as bs) aB=m*dot as aB+n*dot bs aB
 | [],[],aB,_=>by
   have e:dot [] aB=0:=by unfold dot;rfl
   rw[comb,e]
   ·grind
   ·intros;contradiction
 | [],_::_,_,h=>by simp at h
 | _::_,[],_,h=>by simp at h
 | a::as,b::bs,[],_=>by
   have e1:dot (comb m n (a::as) (b::bs)) []=0:=by rw[comb];unfold dot;rfl
   have e2:dot (a::as) []=0:=by unfold dot;rfl
   have e3:dot (b::bs) []=0:=by unfold dot;rfl
   rw[e1,e2,e3]
   grind
 | a::as,b::bs,x::xs,h=>by
   rw[comb,dot,dot,dot,Od (by simpa using h),Rat.intCast_add,Rat.intCast_mul,Rat.intCast_mul]
   grind
theorem JF{l:ir}(h:dU l=true):l.aG.length=4:=by
 simp only[dU,ai,decide_eq_true_eq] at h
 exact h.2.1
theorem Pw{a b:ir}{m n:Int}(h:(ez a m b n).2=true):dU a=true∧dU b=true∧0≤n∧(ez a m b n).1=jw a m b n:=by
 unfold ez at h⊢
 split at h
 ·rename_i hc
  simp only[ai,within,decide_eq_true_eq] at hc
  rw[if_pos (by simp only[ai,within,decide_eq_true_eq];exact hc)]
  unfold jv at h⊢
  split at h
  ·rename_i h2
   rw[if_pos h2]
   exact⟨hc.1.1.1,hc.1.1.2,hc.2.1,rfl⟩
  ·cases h
 ·cases h
theorem LI{a b:ir}{n:Int}{aB:List Rat}(h:(ez a 1 b n).2=true)(ha:fH a aB)(hb:fH b aB):fH (ez a 1 b n).1 aB:=by
 obtain⟨h1,h2,h3,h4⟩:=Pw h
 rw[h4]
 have hd:=Od (m:=1) (n:=n) (aB:=aB) ((JF h1).trans (JF h2).symm)
 unfold fH jw at *
 simp only
 rw[hd,Rat.intCast_add,Rat.intCast_mul,Rat.intCast_mul]
 have hn:(0:QQ)≤(n:QQ):=by
  have:=Rat.intCast_le_intCast (a:=0) (b:=n)
  rw[Rat.intCast_zero] at this
  exact this.2 h3
 generalize hx:dot a.aG aB=x at *
 generalize hy:dot b.aG aB=y at *
 have hle:(n:QQ)*y≤n*b.bound:=by
  refine Rat.mul_le_mul_of_nonneg_left ?_ hn
  cases hs:b.strict with
  | true=>rw[hs] at hb;simp only[if_true] at hb;grind
  | false=>rw[hs] at hb;simpa using hb
 have h1':((1:Int):QQ)=1:=Rat.intCast_one
 rw[h1']
 rcases aa (a.strict=true) with hsa|hsa
 ·rw[hsa] at ha⊢
  simp only[if_true] at ha
  rw[if_pos (by simp)]
  grind
 ·have hsa':a.strict=false:=by simpa using hsa
  rw[hsa'] at ha⊢
  simp only[aw,if_false,Bool.and_false,Bool.false_or] at ha⊢
  rcases aa ((decide (0<n)&&b.strict)=true) with hc|hc
  ·rw[if_pos hc]
   simp only[ai,decide_eq_true_eq] at hc
   rw[hc.2] at hb
   simp only[if_true] at hb
   have hp:(0:QQ)<(n:QQ):=Rat.intCast_pos.2 hc.1
   have:=Rat.mul_lt_mul_of_pos_left hb hp
   grind
  ·rw[if_neg hc]
   grind
theorem Ei{aB:List Rat}:∀{ls:List ir}{ts:List Int}{out:ir},(∀l∈ls,fH l aB)→fH out aB→(o8 ls ts out).2=true→fH (o8 ls ts out).1 aB
 | [],ts,out,_,ho,_=>by
   have e:o8 [] ts out=(out,true):=by unfold o8;rfl
   rw[e];exact ho
 | l::ls,[],out,_,ho,_=>by
   have e:o8 (l::ls) [] out=(out,true):=by unfold o8;rfl
   rw[e];exact ho
 | l::ls,t::ts,out,hl,ho,h=>by
   rw[o8] at h⊢
   split at h
   ·rename_i hs
    rw[if_pos hs]
    exact Ei (fun x hx=>hl x (by simp[hx])) (LI hs ho (hl l (by simp))) h
   ·cases h
theorem Oa:∀{cs:List Int}{aB:List Rat},(∀c∈cs,c=0)→dot cs aB=0
 | [],aB,_=>by unfold dot;rfl
 | c::cs,[],_=>by unfold dot;rfl
 | c::cs,x::xs,h=>by
   rw[dot,h c (by simp),Oa fun y hy=>h y (by simp[hy]),Rat.intCast_zero]
   grind
theorem Rj{l:ir}{aB:List Rat}(h:jN l=true):¬fH l aB:=by
 simp only[jN,flat,ai,Bool.or_eq_true,cg,decide_eq_true_eq] at h
 obtain⟨_,h1,h2⟩:=h
 unfold fH
 rw[Oa h1]
 have hc:=Rat.intCast_lt_intCast (a:=l.bound) (b:=0)
 rw[Rat.intCast_zero] at hc
 rcases h2 with h2|h2
 ·have:=hc.2 h2
  split
  ·grind
  ·grind
 ·rw[h2.2,h2.1,Rat.intCast_zero]
  simp only[if_true]
  exact Rat.lt_irrefl
theorem TT{list:List ir}{times:List Int}{aB:List Rat}(h:qm list times=true):¬ ∀l∈list,fH l aB:=fun hl=>by
 simp only[qm,ai] at h
 obtain⟨h1,h2⟩:=h
 unfold jS at h1 h2
 split at h1
 ·rename_i hc
  rw[if_pos hc] at h2
  refine Rj h2 (Ei hl ?_ h1)
  unfold fH
  simp only[aw,if_false,OW,Rat.intCast_zero]
  exact Rat.le_refl
 ·cases h1
section
variable{m:Model}{nums:List Term}(h4:nums.length≤4)
def wV(m:Model)(nums:List Term):List Rat:=(bu 4).map fun i=>if i<nums.length then value m (nums.getD i aL) else whole 0
theorem Qx(m:Model)(nums:List Term):(wV m nums).length=4:=by simp[wV]
include h4
theorem TS{t:Term}(ht:t∈nums):(wV m nums).getD (aH nums t) (whole 0)=value m t:=by
 have hp:=bz ht
 rw[wV,ay,List.getElem?_map,List.getElem?_range (by omega)]
 simp only[cz,Option.getD_some,if_pos hp]
 rw[getD_at hp]
 exact congrArg (value m) (bB.1 (iZ ht)).2
theorem J8:∀{ts:List Term}{ns:List Int},(∀t∈ts,t∈nums)→uY nums (wV m nums) ts ns=rn m ts ns
 | [],ns,_=>by unfold uY rn;rfl
 | t::ts,[],_=>by unfold uY rn;rfl
 | t::ts,n::ns,ht=>by
   rw[uY,rn,TS h4 (ht t (by simp)),J8 fun x hx=>ht x (by simp[hx])]
theorem Dj{ts:List Term}{ns:List Int}{b:Int}{st:Bool}(ht:∀t∈ts,t∈nums):fH (lW nums ts ns b st) (wV m nums)↔(if st then rn m ts ns<b else rn m ts ns≤b):=by
 rw[qN h4 (Qx m nums) ht,J8 h4 ht]
omit h4 in
theorem R8:∀{cs:List Int}{aB:List Rat},dot (cs.map fun c=>-c) aB = - dot cs aB
 | [],aB=>by
   have e:dot [] aB=0:=by unfold dot;rfl
   rw[dB,e];grind
 | c::cs,[]=>by
   have e1:dot (c::cs) []=0:=by unfold dot;rfl
   have e2:dot ((c::cs).map fun c=>-c) []=0:=by rw[aQ];unfold dot;rfl
   rw[e1,e2];grind
 | c::cs,x::xs=>by
   rw[aQ,dot,dot,R8,Rat.intCast_neg]
   grind
omit h4 in
theorem Lf{l:ir}{aB:List Rat}(h:¬fH l aB):fH (pS l) aB:=by
 unfold pS
 split
 ·unfold fH at h⊢
  simp only
  rw[R8,Rat.intCast_neg]
  generalize dot l.aG aB=x at *
  cases hs:l.strict with
  | true=>
    rw[hs] at h
    simp only[if_true,Bool.not_true,aw,if_false] at h⊢
    grind
  | false=>
    rw[hs] at h
    simp only[aw,if_false,Bool.not_false,if_true] at h⊢
    grind
 ·unfold fH mO
  have e:dot [] aB=0:=by unfold dot;rfl
  simp only[aw,if_false,e,Rat.intCast_zero]
  exact Rat.le_refl
theorem Nq{l:bl}(hf:Fit nums l)(hs:lC m l):∀x∈jf nums l,fH x (wV m nums):=by
 intro x hx
 unfold jf at hx
 rcases aa (l.atom.kind=2) with k2|k2
 ·rw[if_pos k2,du] at hx
  have k1:¬l.atom.kind=1:=by omega
  unfold lC at hs
  rw[if_neg k1] at hs
  have e:=Dj (m:=m) (ns:=l.atom.times) (b:=l.atom.bound) (st:=l.atom.strict) h4 (hf.sum k2)
  rw[hx]
  cases hn:l.no with
  | true=>
    rw[hn] at hs
    simp only[if_true] at hs⊢
    exact Lf fun hh=>hs (e.1 hh)
  | false=>
    rw[hn] at hs
    simp only[aw,if_false] at hs⊢
    exact e.2 hs
 ·rw[if_neg k2] at hx
  split at hx
  ·rename_i hc
   have hA:l.atom.A∈nums:=cR.1 hc.2
   have k1:=(kh hf.wf).resolve_right k2
   have hB:=(hf.eq k1).1 hA
   unfold lC at hs
   rw[if_pos k1,hc.1] at hs
   simp only[aw,if_false] at hs
   have e1:=Dj (m:=m) (ts:=[l.atom.A,l.atom.B]) (ns:=[1,-1]) (b:=0) (st:=false) h4 (by simp[hA,hB])
   have e2:=Dj (m:=m) (ts:=[l.atom.A,l.atom.B]) (ns:=[-1,1]) (b:=0) (st:=false) h4 (by simp[hA,hB])
   have e0:rn m [] []=0:=by unfold rn;rfl
   simp only[aw,if_false,rn,e0,hs] at e1 e2
   rcases ax.1 hx with hx|hx
   ·rw[hx]
    exact e1.2 (by grind)
   ·rw[du] at hx
    rw[hx]
    exact e2.2 (by grind)
  ·cases hx
end
end Go.Mod
namespace Go.Mod
open Go.Eng
set_option maxRecDepth 100000
theorem D0{m:Model}{a b:Term}(h:qv (value m a)<qv (value m b)):lC m (dL a b):=by
 have e0:rn m [] []=0:=by unfold rn;rfl
 unfold lC dL
 split
 ·simp only[HD,rn,e0,if_true,aw,if_false]
  rw[if_neg (by decide)]
  grind
 ·simp only[HD,rn,e0,if_true,aw,if_false]
  rw[if_neg (by decide)]
  grind
theorem JH{m:Model}{a b:Term}(h:value m a=value m b):lC m (gx a b):=by
 unfold lC gx xj
 simp only[if_true,aw,if_false]
 exact h
theorem R9{m:Model}{ab:List bl}(h:∀l∈ab,lC m l):∀e∈a7 ab,value m e.A=value m e.B:=fun e he=>by
 obtain⟨l,hl,h1,h2,rfl⟩:=CV.1 he
 have:=h l hl
 unfold lC at this
 rw[if_pos h1,h2] at this
 exact this
section
variable{s:dI}{m:Model}{nums:List Term}(hm:fh m=true)(h4:nums.length≤4)(hn:∀t∈nums,isTerm t=true)
include hm h4 hn
theorem MR{ab:List bl}{l:bl}(hf:∀x∈ab,Fit nums x)(hs:∀x∈ab,lC m x)(h1:Fit nums l)(h2:lC m l):(∀x∈ab++[l],Fit nums x)∧(∀x∈ab++[l],lC m x):=by
 have _:=hm
 have _:=h4
 have _:=hn
 constructor
 ·intro x hx
  rcases aP.1 hx with hx|hx
  ·exact hf x hx
  ·rw[du.1 hx];exact h1
 ·intro x hx
  rcases aP.1 hx with hx|hx
  ·exact hs x hx
  ·rw[du.1 hx];exact h2
end
mutual
theorem AU{s:dI}{m:Model}{nums:List Term}(hm:fh m=true)(h4:nums.length≤4)(hn:∀t∈nums,isTerm t=true):∀(c:Case)(ab:List bl)(bt:Nat),ie s nums c ab bt=true→(∀l∈ab,Fit nums l)→(∀l∈ab,lC m l)→False
 | .mk k n w ts a b ks,ab,bt,h,hf,hs=>by
   rw[ie] at h
   split at h
   ·cases h
   split at h
   ·simp only[ai] at h
    obtain⟨_,_,h⟩:=h
    split at h
    ·rename_i e l he hl
     simp only[ai,decide_eq_true_eq] at h
     obtain⟨h1,h2,h3,h5⟩:=h
     have hv:=(yi (R9 hs) he).1
     have hx:=hs l (cW hl)
     unfold lC at hx
     rw[if_pos h2,h1] at hx
     simp only[if_true] at hx
     exact hx (by rw[←h3,←h5,hv])
    ·cases h
   split at h
   ·simp only[ai] at h
    refine TT (aB:=wV m nums) h.2 fun x hx=>?_
    obtain⟨l,hl,hx⟩:=List.mem_flatMap.1 hx
    exact Nq h4 (hf l hl) (hs l hl) x hx
   split at h
   ·simp only[ai] at h
    obtain⟨hb,h⟩:=h
    split at h
    ·rename_i e he
     simp only[ai] at h
     obtain⟨hA,hB,_⟩:=pV.1 h.1
     have hv:=(yi (R9 hs) he).1
     have hk:ks.length=1:=by
      simp only[bare,ai,decide_eq_true_eq] at hb
      exact hb.2.2.2.2
     obtain⟨g1,g2⟩:=MR hm h4 hn hf hs (Gr hA hB (hn _ hA) (hn _ hB)) (JH hv)
     exact tP hm h4 hn ks [ab++[gx e.A e.B]] (bt+1) h.2 (by rw[hk];rfl) _ (by simp) g1 g2
    ·cases h
   split at h
   ·simp only[ai] at h
    obtain⟨hb,hd,h⟩:=h
    obtain⟨hA,hB,jD⟩:=pV.1 hd
    have hk:ks.length=3:=by
     simp only[bare,ai,decide_eq_true_eq] at hb
     exact hb.2.2.2.2
    have key:∀l∈fm a b,Fit nums l→lC m l→False:=fun l hl f1 f2=>by
     obtain⟨g1,g2⟩:=MR hm h4 hn hf hs f1 f2
     exact tP hm h4 hn ks ((fm a b).map fun l=>ab++[l]) (bt+1) h (by rw[hk];rfl) _ (bF.2 ⟨l,hl,rfl⟩) g1 g2
    rcases aa (qv (value m a)<qv (value m b)) with h1|h1
    ·exact key (dL a b) (by simp[fm]) (xm hA hB (hn _ hA) (hn _ hB) jD) (D0 h1)
    ·rcases aa (qv (value m b)<qv (value m a)) with h2|h2
     ·exact key (dL b a) (by simp[fm]) (xm hB hA (hn _ hB) (hn _ hA) (Ne.symm jD)) (D0 h2)
     ·refine key (gx a b) (by simp[fm]) (Gr hA hB (hn _ hA) (hn _ hB)) (JH ?_)
      exact Wa (H3 hm a) (H3 hm b) (by rw[Rat.not_lt] at h1 h2;exact Rat.le_antisymm h2 h1)
   ·cases h
theorem tP{s:dI}{m:Model}{nums:List Term}(hm:fh m=true)(h4:nums.length≤4)(hn:∀t∈nums,isTerm t=true):∀(cs:List Case)(ls:List (List bl))(bt:Nat),iI s nums cs ls bt=true→cs.length=ls.length→∀ab∈ls,(∀l∈ab,Fit nums l)→(∀l∈ab,lC m l)→False
 | [],ls,bt,_,hl,ab,hm',_,_=>by
   rw[List.eq_nil_of_length_eq_zero hl.symm] at hm'
   cases hm'
 | c::cs,[],bt,_,hl,_,_,_,_=>by simp at hl
 | c::cs,l::ls,bt,h,hl,ab,hx,hf,hs=>by
   rw[iI,ai] at h
   rcases ax.1 hx with rfl|hx
   ·exact AU hm h4 hn c ab bt h.1 hf hs
   ·exact tP hm h4 hn cs ls bt h.2 (by simpa using hl) ab hx hf hs
end
theorem Q0{s:dI}{ab:List bl}{c:Case}{m:Model}(h:xr s ab c=true):eP s m ab=false:=by
 cases hm:eP s m ab with
 | false=>rfl
 | true=>
   simp only[xr,ai] at h
   have hf:=rN h.1
   obtain⟨h1,h2⟩:=LO hm
   exact(AU h1 hf.2.2.1 hf.2.1 c ab 1 h.2 hf.1 h2).elim
mutual
theorem Ji{f:Int→Int→Term→List fF→fF×Bool}:∀(w:ju)(d:Nat),(bR f w d).2=true→bR f w (d+1)=bR f w d
 | .mk r n t ks,0,h=>by rw[bR] at h;cases h
 | .mk r n t ks,d+1,h=>by
   rw[bR] at h
   rw[bR,bR]
   cases hk:cO f ks d with
   | none=>rw[hk] at h;cases h
   | some es=>rw[HP ks d es hk]
theorem HP{f:Int→Int→Term→List fF→fF×Bool}:∀(ws:List ju)(d:Nat)(es:List fF),cO f ws d=some es→cO f ws (d+1)=some es
 | [],d,es,h=>by
   rw[cO] at h⊢
   exact h
 | w::ws,d,es,h=>by
   rw[cO] at h⊢
   split at h
   ·rename_i h1
    rw[Ji w d h1,if_pos h1]
    cases hr:cO f ws d with
    | none=>rw[hr] at h;cases h
    | some r=>
      rw[hr] at h
      rw[HP ws d r hr]
      exact h
   ·cases h
end
def jB(eqs:List fF)(w:ju)(d:Nat)(a b:Term):Prop:=bR (bH eqs) w d=(⟨a,b⟩,true)
theorem jB.up{eqs:List fF}{w:ju}{a b:Term}:∀{d d':Nat},d≤d'→jB eqs w d a b→jB eqs w d' a b
 | d,0,h,hw=>by
   obtain rfl:d=0:=by omega
   exact hw
 | d,d'+1,h,hw=>by
   rcases bV d (d'+1) with h1|h1
   ·have:=jB.up (d':=d') (by omega) hw
    unfold jB at this⊢
    rw[Ji w d' (by rw[this]),this]
   ·obtain rfl:d=d'+1:=by omega
    exact hw
section
variable{eqs:List fF}
theorem QJ{t:Term}(h:isTerm t=true):jB eqs (.mk 1 0 t []) 1 t t:=by
 unfold jB
 rw[bR,cO]
 simp[bH,h]
theorem NI{n:Nat}{e:fF}(h:eqs[n]?=some e):jB eqs (.mk 2 n aL []) 1 e.A e.B:=by
 obtain⟨hn,rfl⟩:=bB.1 h
 unfold jB
 rw[bR,cO]
 have hw:within (n:Int) 0 ((eqs.length:Int)-1)=true:=by simp[within];omega
 have h0:isNone aL=true:=rfl
 simp[bH,hw,h0,List.getD,hn]
theorem SJ{w:ju}{d:Nat}{a b:Term}(h:jB eqs w d a b):jB eqs (.mk 3 0 aL [w]) (d+1) b a:=by
 unfold jB at h⊢
 rw[bR,cO,h,cO]
 have h0:isNone aL=true:=rfl
 simp[bH,h0]
theorem Oh{v w:ju}{d:Nat}{a b c:Term}(h1:jB eqs v d a b)(h2:jB eqs w d b c):jB eqs (.mk 4 0 aL [v,w]) (d+1) a c:=by
 unfold jB at h1 h2⊢
 rw[bR,cO,h1,cO,h2,cO]
 have h0:isNone aL=true:=rfl
 simp[bH,h0]
theorem H0{d:Nat}:∀{ws:List ju}{xs ys:List Term},ws.length=xs.length→xs.length=ys.length→(∀(j:Nat)(h1:j<ws.length)(h2:j<xs.length)(h3:j<ys.length),jB eqs ws[j] d xs[j] ys[j])→∃es,cO (bH eqs) ws d=some es∧es.length=ws.length∧es.map (·.A)=xs∧es.map (·.B)=ys
 | [],[],[],_,_,_=>⟨[],by rw[cO],rfl,rfl,rfl⟩
 | [],_::_,_,h,_,_=>by simp at h
 | [],[],_::_,_,h,_=>by simp at h
 | _::_,[],_,h,_,_=>by simp at h
 | _::_,_::_,[],_,h,_=>by simp at h
 | w::ws,x::xs,y::ys,h1,h2,hw=>by
   obtain⟨es,e1,e2,e3,e4⟩:=H0 (ws:=ws) (xs:=xs) (ys:=ys) (by simpa using h1) (by simpa using h2) (fun j a b c=>by
    have:=hw (j+1) (by simpa using a) (by simpa using b) (by simpa using c)
    simp only[List.getElem_cons_succ] at this
    exact this)
   have h0:=hw 0 (by simp) (by simp) (by simp)
   unfold jB at h0
   simp only[List.getElem_cons_zero] at h0
   refine⟨⟨x,y⟩::es,?_,by simp[e2],by simp[e3],by simp[e4]⟩
   rw[cO,h0,e1]
   rfl
theorem PU{name:nE}{ws:List ju}{xs ys:List Term}{d:Nat}(hn:fI name=true)(h0:0<ws.length)(h1:ws.length=xs.length)(h2:xs.length=ys.length)(hx:isTerm (.mk name xs)=true)(hy:isTerm (.mk name ys)=true)
 (hw:∀(j:Nat)(h1:j<ws.length)(h2:j<xs.length)(h3:j<ys.length),jB eqs ws[j] d xs[j] ys[j]):jB eqs (.mk 5 0 (.mk name []) ws) (d+1) (.mk name xs) (.mk name ys):=by
 obtain⟨es,e1,e2,e3,e4⟩:=H0 h1 h2 hw
 unfold jB
 rw[bR,e1]
 have hl:¬es.length=0:=by omega
 have hl':es≠[]:=fun e=>hl (by rw[e];rfl)
 simp[bH,Term.name,Term.kids,hn,hl',e3,e4,hx,hy]
theorem A3{one:Edge→ju}{aj:List Step}{P:Nat→Term}{d:Nat}{x:Term}:∀(es:List Edge)(w:ju)(d':Nat)(v b:Nat),d≤d'→jB eqs w d' x (P v)→pO aj v es b→(∀e∈es,jB eqs (one e) d (P (gK aj e)) (P (ix aj e)))→jB eqs (oQ one w es) (d'+es.length) x (P b)
 | [],w,d',v,b,_,hw,hp,_=>by
   rw[pO] at hp
   rw[oQ,←hp]
   exact hw
 | e::es,w,d',v,b,hd,hw,hp,ho=>by
   rw[pO] at hp
   rw[oQ]
   have h1:=Oh hw ((hp.1▸ho e (by simp)).up hd)
   have:=A3 es _ (d'+1) (ix aj e) b (by omega) h1 hp.2 fun y hy=>ho y (by simp[hy])
   rw[aW,show d'+(es.length+1)=d'+1+es.length by omega]
   exact this
end
section
variable{ae:List Term}{eqs:List fF}{aj:List Step}(e7:lE ae eqs aj)
include e7
theorem Hu{k:Nat}(hk:k≤aj.length){a b:Nat}(ha:a<ae.length)(hb:b<ae.length)(h:cl (aS ae.length aj k) a=cl (aS ae.length aj k) b) :
 ∀e∈lR ae.length aj k a b,e.step<k∧cl (aS ae.length aj k) (gK aj e)=cl (aS ae.length aj k) a∧cl (aS ae.length aj k) (ix aj e)=cl (aS ae.length aj k) a:=by
 obtain⟨h1,h2,h3⟩:=sw e7 hk ha hb h
 intro e he
 have hv:=pM e7 hk h1 h2 (ix aj e) (by unfold gP;exact List.mem_cons_of_mem _ (bF.2 ⟨e,he,rfl⟩))
 have hs:=CZ e7 hk (h1 e he)
 exact⟨h1 e he,by rw[hs,hv],hv⟩
theorem yO:∀{k:Nat},k≤aj.length→∀{a b:Nat},a<ae.length→b<ae.length→cl (aS ae.length aj k) a=cl (aS ae.length aj k) b→((lR ae.length aj k a b).map Edge.step).Nodup
 | 0,_,a,b,_,_,_=>by simp[lR]
 | k+1,hk,a,b,ha,hb,h=>by
   have hk':k≤aj.length:=by omega
   rw[Qd (by omega) ha hb] at h
   have hA:=Hf e7 (k:=k) (by omega)
   have hB:=FT e7 (k:=k) (by omega)
   have jD:=(oT e7 (k:=k) (by omega)).ne
   have disj:∀{x y u v:Nat},x<ae.length→y<ae.length→u<ae.length→v<ae.length→cl (aS ae.length aj k) x=cl (aS ae.length aj k) y→cl (aS ae.length aj k) u=cl (aS ae.length aj k) v→cl (aS ae.length aj k) x≠cl (aS ae.length aj k) u→∀bk,((lR ae.length aj k x y++⟨k,bk⟩::lR ae.length aj k u v).map Edge.step).Nodup:=by
    intro x y u v hx hy hu hv h1 h2 h3 bk
    have p1:=Hu e7 hk' hx hy h1
    have p2:=Hu e7 hk' hu hv h2
    rw[List.map_append,aQ,List.nodup_append]
    refine⟨yO hk' hx hy h1,cJ.2 ⟨fun hm=>?_,yO hk' hu hv h2⟩,fun s hs t ht e=>?_⟩
    ·obtain⟨e,he,e1⟩:=bF.1 hm
     have e1':e.step=k:=e1
     have:=(p2 e he).1
     omega
    ·subst e
     obtain⟨e1,he1,q1⟩:=bF.1 hs
     rcases ax.1 ht with ht|ht
     ·have ht':s=k:=ht
      have:=(p1 e1 he1).1
      omega
     ·obtain⟨e2,he2,q2⟩:=bF.1 ht
      obtain⟨_,a1,a2⟩:=p1 e1 he1
      obtain⟨_,b1,b2⟩:=p2 e2 he2
      have jC:e1.step=e2.step:=by rw[q1,q2]
      refine h3 ?_
      rw[←a1,←b1]
      have es:gK aj e1=gK aj e2∨gK aj e1=ix aj e2:=by
       unfold gK ix
       rw[jC]
       cases e1.back<;>cases e2.back<;>simp
      rcases es with es|es
      ·rw[es]
      ·rw[es,b2,b1]
   rw[lR]
   rcases aa (cl (aS ae.length aj k) a=cl (aS ae.length aj k) b) with h1|h1
   ·rw[if_pos h1]
    exact yO hk' ha hb h1
   ·rw[if_neg h1]
    rcases h with h|⟨h,h'⟩|⟨h,h'⟩
    ·exact(h1 h).elim
    ·rw[if_pos (show _=cl _ (ig aj k).A.toNat from h)]
     exact disj ha hA hB hb h h'.symm (by rw[h];exact jD) false
    ·rw[if_neg (show ¬_=cl _ (ig aj k).A.toNat from fun x=>jD (by rw[←x];exact h))]
     exact disj ha hB hA hb h h'.symm (by rw[h];exact jD.symm) true
theorem YO{k:Nat}(hk:k≤aj.length){a b:Nat}(ha:a<ae.length)(hb:b<ae.length)(h:cl (aS ae.length aj k) a=cl (aS ae.length aj k) b):(lR ae.length aj k a b).length≤k:=by
 have h1:=yO e7 hk ha hb h
 have h2:=kd (N:=k) h1 fun v hv=>by
  obtain⟨e,he,rfl⟩:=bF.1 hv
  exact(Hu e7 hk ha hb h e he).1
 simpa using h2
end
def oW:Nat→Nat
 | 0=>1
 | k+1=>oW k+2+k
theorem w8:∀{j k:Nat},j≤k→oW j≤oW k
 | j,0,h=>by
   obtain rfl:j=0:=by omega
   exact aJ _
 | j,k+1,h=>by
   rcases bV j (k+1) with h1|h1
   ·have:=w8 (j:=j) (k:=k) (by omega)
    rw[oW];omega
   ·obtain rfl:j=k+1:=by omega
    exact aJ _
theorem SS:oW 24≤400:=by decide
theorem HG:∀k,1≤oW k
 | 0=>aJ _
 | k+1=>by
   have:=HG k
   rw[oW];omega
theorem Tg{ae:List Term}{c:List Nat}{a b:Nat}(h:alike ae c a b=true):0<(ae.getD a aL).kids.length∧(ae.getD a aL).name=(ae.getD b aL).name∧lM ae c (ae.getD a aL).kids (ae.getD b aL).kids=true:=by
 simp only[alike,ai,decide_eq_true_eq] at h
 exact h
theorem yx{ae:List Term}{t:Term}(h:t∈ae):ae.getD (aH ae t) aL=t:=by
 rw[getD_at (bz h)]
 exact(bB.1 (iZ h)).2
section
variable{ae:List Term}{eqs:List fF}{aj:List Step}(e7:lE ae eqs aj)(XB:gU ae)(htm:∀t∈ae,isTerm t=true)(kF:∀e∈eqs,e.A∈ae∧e.B∈ae)
include e7 XB htm kF
theorem GP:∀(f n a b:Nat),n<f→n≤aj.length→a<ae.length→b<ae.length→cl (aS ae.length aj n) a=cl (aS ae.length aj n) b→jB eqs (lu ae aj f n a b) (oW n) (ae.getD a aL) (ae.getD b aL)
 | 0,n,_,_,h,_,_,_,_=>by omega
 | f+1,n,a,b,hf,hn,ha,hb,hc=>by
   have hPt:∀i,i<ae.length→isTerm (ae.getD i aL)=true:=fun i hi=>by rw[getD_at hi];exact htm _ (ak hi)
   have hPm:∀i,i<ae.length→ae.getD i aL∈ae:=fun i hi=>by rw[getD_at hi];exact ak hi
   obtain⟨w1,w2,w3⟩:=sw e7 hn ha hb hc
   have dz:=YO e7 hn ha hb hc
   have hedge:∀e,e.step<n→∃n',n=n'+1∧jB eqs (kP ae aj (lu ae aj f) e) (oW n'+2) (ae.getD (gK aj e) aL) (ae.getD (ix aj e) aL):=fun e he=>by
    obtain⟨n',rfl⟩:∃n',n=n'+1:=⟨n-1,by omega⟩
    refine⟨n',rfl,?_⟩
    have hs:=oT e7 (k:=e.step) (by omega)
    have base:jB eqs (if(ig aj e.step).given<0 then .mk 5 0 (.mk (ae.getD (ig aj e.step).A.toNat aL).name []) (((ae.getD (ig aj e.step).A.toNat aL).kids.zip (ae.getD (ig aj e.step).B.toNat aL).kids).map fun p=>lu ae aj f e.step (aH ae p.1) (aH ae p.2)) else .mk 2 (ig aj e.step).given aL []) (oW n'+1) (ae.getD (ig aj e.step).A.toNat aL) (ae.getD (ig aj e.step).B.toNat aL):=by
     rcases hs.XQ with⟨h1,h2⟩|⟨m,h1,q,h2,h3,h4⟩
     ·rw[if_pos (by omega)]
      obtain⟨k0,k1,k2⟩:=Tg h2
      obtain⟨k3,k4⟩:=CX k2
      have tA:=hPt _ hs.a1
      have tB:=hPt _ hs.b1
      have mA:=XB _ (hPm _ hs.a1)
      have mB:=XB _ (hPm _ hs.b1)
      generalize ae.getD (ig aj e.step).A.toNat aL=tA0 at *
      generalize ae.getD (ig aj e.step).B.toNat aL=tB0 at *
      obtain⟨nA,kA⟩:=tA0
      obtain⟨nB,kB⟩:=tB0
      have k1:nA=nB:=k1
      subst k1
      have k0:0<kA.length:=k0
      have k3:kA.length=kB.length:=k3
      have mA:∀k∈kA,k∈ae:=mA
      have mB:∀k∈kB,k∈ae:=mB
      show jB eqs (.mk 5 0 (.mk nA []) ((kA.zip kB).map fun p=>lu ae aj f e.step (aH ae p.1) (aH ae p.2))) (oW n'+1) (.mk nA kA) (.mk nA kB)
      refine PU (N9 tA) (by simp;omega) (by simp;omega) k3 tA tB fun j j1 j2 j3=>?_
      simp only[List.getElem_map,List.getElem_zip]
      have xA:=mA _ (ak j2)
      have xB:=mB _ (ak j3)
      have:=GP f e.step (aH ae kA[j]) (aH ae kB[j]) (by omega) (by omega) (bz xA) (bz xB) (k4 j j2 j3)
      rw[yx xA,yx xB] at this
      exact this.up (w8 (by omega))
     ·rw[if_neg (by omega),h1,h3,h4]
      simp only[Int.toNat_natCast]
      have hq:=kF q (cW h2)
      rw[yx hq.1,yx hq.2]
      exact(NI h2).up (by omega)
    unfold kP gK ix vA vB
    simp only
    cases e.back with
    | true=>exact SJ base
    | false=>exact base.up (by omega)
   rw[lu]
   cases hw:lR ae.length aj n a b with
   | nil=>
     rw[hw,pO] at w2
     rw[←w2]
     exact(QJ (hPt a ha)).up (HG n)
   | cons e es=>
     rw[hw] at w1 w2 dz
     rw[pO] at w2
     obtain⟨n',hn',h1⟩:=hedge e (w1 e (by simp))
     subst hn'
     rw[w2.1] at h1
     have l7:∀x∈es,jB eqs (kP ae aj (lu ae aj f) x) (oW n'+2) (ae.getD (gK aj x) aL) (ae.getD (ix aj x) aL):=fun x hx=>by
      obtain⟨n2,e2,h2⟩:=hedge x (w1 x (by simp[hx]))
      obtain rfl:n2=n':=by omega
      exact h2
     have:=A3 (P:=fun i=>ae.getD i aL) es _ (oW n'+2) (ix aj e) b (aJ _) h1 w2.2 l7
     simp only[aW] at dz
     refine this.up ?_
     rw[oW]
     omega
end
end Go.Mod
namespace Go.Mod
open Go.Eng
set_option maxRecDepth 100000
def PI(n:Nat)(c:List Nat):Prop:=c.length=n∧∀i,i<n→cl c i<n∧cl c (cl c i)=cl c i
def Gz(c:List Nat):List Nat:=(bu c.length).filter fun i=>decide (cl c i=i)
theorem wP{c:List Nat}{i:Nat}:i∈Gz c↔i<c.length∧cl c i=i:=by simp[Gz]
theorem Hw(c:List Nat):(Gz c).Nodup:=List.nodup_range.filter _
theorem On{n:Nat}{c:List Nat}{a b:Nat}(h:PI n c)(ha:a<n)(hb:b<n)(jD:cl c a≠cl c b):PI n (gj c a b)∧(Gz (gj c a b)).length+1≤(Gz c).length:=by
 obtain⟨hl,hr⟩:=h
 have hA:=hr a ha
 have hB:=hr b hb
 obtain⟨mx,hmx⟩:∃mx,max (cl c a) (cl c b)=mx:=⟨_,rfl⟩
 obtain⟨mn,hmn⟩:∃mn,min (cl c a) (cl c b)=mn:=⟨_,rfl⟩
 have hmxn:mx<n∧cl c mx=mx∧mn<n∧cl c mn=mn∧mn≠mx:=by
  rcases bV (cl c a) (cl c b) with h1|h1
  ·have e1:mx=cl c b:=by omega
   have e2:mn=cl c a:=by omega
   rw[e1,e2]
   exact⟨hB.1,hB.2,hA.1,hA.2,jD⟩
  ·have e1:mx=cl c a:=by omega
   have e2:mn=cl c b:=by omega
   rw[e1,e2]
   exact⟨hA.1,hA.2,hB.1,hB.2,fun e=>jD e.symm⟩
 obtain⟨x1,x2,x3,x4,x5⟩:=hmxn
 have hj:∀i,i<n→cl (gj c a b) i=if cl c i=mx then mn else cl c i:=fun i hi=>by
  rw[x9 (by omega),hmx,hmn]
 refine⟨⟨by rw[fP,hl],fun i hi=>?_⟩,?_⟩
 ·rw[hj i hi]
  obtain⟨r1,r2⟩:=hr i hi
  split
  ·exact⟨x3,by rw[hj mn x3,x4,if_neg x5]⟩
  ·rename_i h1
   exact⟨r1,by rw[hj _ r1,r2,if_neg h1]⟩
 ·have hs:∀i∈mx::Gz (gj c a b),i∈Gz c:=by
   intro i hi
   rcases ax.1 hi with rfl|hi
   ·exact wP.2 ⟨by omega,x2⟩
   ·obtain⟨h1,h2⟩:=wP.1 hi
    rw[fP] at h1
    rw[hj i (by omega)] at h2
    split at h2
    ·rename_i h3
     rw[←h2,x4] at h3
     exact absurd h3 x5
    ·exact wP.2 ⟨h1,h2⟩
  have hn:(mx::Gz (gj c a b)).Nodup:=by
   refine cJ.2 ⟨fun hm=>?_,Hw _⟩
   have:=(wP.1 hm).2
   rw[hj mx x1,if_pos x2] at this
   exact x5 this
  simpa using w7 hn hs
theorem A9{ae:List Term}{eqs:List fF}{aj:List Step}(e7:lE ae eqs aj):∀k,k≤aj.length→PI ae.length (aS ae.length aj k)∧(Gz (aS ae.length aj k)).length+k≤ae.length
 | 0,_=>by
   have e:∀i,i<ae.length→cl (aS ae.length aj 0) i=i:=fun i hi=>by
    rw[gQ (by rw[iJ];exact hi)]
    simp[aS]
   refine⟨⟨iJ ..,fun i hi=>by rw[e i hi];exact⟨hi,e i hi⟩⟩,?_⟩
   have:=kd (N:=ae.length) (Hw (aS ae.length aj 0)) fun v hv=>by
    have:=(wP.1 hv).1
    rwa [iJ] at this
   omega
 | k+1,hk=>by
   obtain⟨h1,h2⟩:=A9 e7 k (by omega)
   have hs:=oT e7 (k:=k) (by omega)
   rw[Ry (by omega)]
   obtain⟨h3,h4⟩:=On h1 hs.a1 hs.b1 hs.ne
   exact⟨h3,by
    have h4':(Gz (gj (aS ae.length aj k) (vA aj k) (vB aj k))).length+1≤(Gz (aS ae.length aj k)).length:=h4
    omega⟩
theorem VS{ae:List Term}{eqs:List fF}(kF:∀e∈eqs,e.A∈ae∧e.B∈ae):(closed ae eqs).2.length≤ae.length:=by
 have:=(A9 (mH kF).1 _ (aJ _)).2
 omega
theorem Et{ae:List Term}{eqs:List fF}(XB:gU ae)(htm:∀t∈ae,isTerm t=true)(kF:∀e∈eqs,e.A∈ae∧e.B∈ae)(h24:ae.length≤24){a b:Term}(ha:a∈ae)(hb:b∈ae)(hc:gh ae (closed ae eqs).1 a b=true) :
 jB eqs (l8 ae (closed ae eqs).2 a b) 400 a b:=by
 have hk:=mH kF
 have hs:=VS kF
 have hc':=of_decide_eq_true hc
 rw[hk.2] at hc'
 have:=GP hk.1 XB htm kF ((closed ae eqs).2.length+1) (closed ae eqs).2.length (aH ae a) (aH ae b) (by omega) (aJ _) (bz ha) (bz hb) hc'
 rw[yx ha,yx hb] at this
 exact this.up (Nat.le_trans (w8 (show _≤24 by omega)) SS)
theorem NX{s:dI}{eqs:List fF}{w:ju}{a b:Term}(h1:nk s eqs=true)(h2:nk s [⟨a,b⟩]=true)(h:jB eqs w 400 a b):ko s eqs w=some ⟨a,b⟩:=by
 unfold jB at h
 unfold ko
 rw[h1,h]
 simp[h2]
structure HO(s:dI)(ab:List bl):Prop where
 xN:iq s ab
 one:∀l∈ab,l.atom.kind=1→gG s ⟨l.atom.A,l.atom.B⟩=true
theorem HO.eqs{s:dI}{ab:List bl}(h:HO s ab):∀e∈a7 ab,gG s e=true:=fun e he=>by
 obtain⟨l,hl,h1,_,rfl⟩:=CV.1 he
 exact h.one l hl h1
theorem Yc{s:dI}{ab:List bl}(h:e6 s ab=true):HO s ab:=⟨BZ h,fun l hl hk=>by
 have:=DS h l hl
 simp only[fk,hk,if_true,ai] at this
 exact this.2.2⟩
theorem HO.nk{s:dI}{ab:List bl}(h:HO s ab)(h12:(a7 ab).length≤12):nk s (a7 ab)=true:=by
 have hg:=h.xN
 have hi:∀t∈qI (a7 ab),t∈az ab:=fun t ht=>by
  obtain⟨e,he,h1⟩:=Kh.1 ht
  obtain⟨h2,h3⟩:=hg.Bm e he
  rcases h1 with rfl|rfl
  ·exact h2
  ·exact h3
 have h1:=OG (ts:=qI (a7 ab)) (fun t ht=>hg.term t (hi t ht)) hg.kids hi
 simp only[Mod.nk,ai,decide_eq_true_eq,cg]
 exact⟨⟨⟨hg.sig,h12⟩,h.eqs⟩,by have:=hg.n24;omega⟩
theorem HO.ach{s:dI}{ab:List bl}(h:HO s ab){a b:Term}(ha:a∈az ab)(hb:b∈az ab)(hs:gG s ⟨a,b⟩=true):Mod.nk s [⟨a,b⟩]=true:=by
 have hg:=h.xN
 have hi:∀t∈qI [(⟨a,b⟩:fF)],t∈az ab:=fun t ht=>by
  obtain⟨e,he,h1⟩:=Kh.1 ht
  rw[du] at he
  subst he
  rcases h1 with rfl|rfl
  ·exact ha
  ·exact hb
 have h1:=OG (ts:=qI [(⟨a,b⟩:fF)]) (fun t ht=>hg.term t (hi t ht)) hg.kids hi
 simp only[Mod.nk,ai,decide_eq_true_eq,cg]
 exact⟨⟨⟨hg.sig,by simp⟩,fun e he=>by rw[du.1 he];exact hs⟩,by have:=hg.n24;omega⟩
theorem NT{s:dI}{ab:List bl}{t:Term}(h:t∈numsOf s ab):fy s t=some 1:=of_decide_eq_true (gv.1 h).2
theorem xU{s:dI}{ab:List bl}{a b:Term}(ha:a∈numsOf s ab)(hb:b∈numsOf s ab):gG s ⟨a,b⟩=true:=by
 simp[gG,NT ha,NT hb]
theorem HO.more{s:dI}{ab:List bl}{l:bl}(h:HO s ab)(hn:Next s ab l)(he:l.atom.kind=1→gG s ⟨l.atom.A,l.atom.B⟩=true):HO s (ab++[l]):=by
 refine⟨hn.1,fun x hx=>?_⟩
 rcases aP.1 hx with hx|hx
 ·exact h.one x hx
 ·rw[du.1 hx]
  exact he
theorem B0(a b:Term):(dL a b).atom.kind=2:=by unfold dL;split<;>rfl
theorem aaM{list:List ir}(h:(bO list).code=1):qm list (bO list).times=true:=by
 have hend:∀s0 s1 s2 s3 rows,(iy list s0 s1 s2 s3 rows).code=1→qm list (iy list s0 s1 s2 s3 rows).times=true:=fun s0 s1 s2 s3 rows h=>by
  unfold iy at h⊢
  split at h
  ·split at h
   ·rename_i hf
    rw[if_pos hf]
    exact hf
   ·simp at h
  ·split at h
   ·simp at h
   ·split at h<;>simp at h
 unfold bO at h⊢
 split at h
 ·rename_i hs
  rw[if_pos hs]
  split at h
  ·simp at h
  ·split at h
   ·simp at h
   ·split at h
    ·simp at h
    ·split at h
     ·simp at h
     ·exact hend _ _ _ _ _ h
 ·simp at h
theorem MZ{run:List bl→zV}{a b:Term}:∀{ls:List (List bl)}{out:List Case},(oc run a b ls out).code=1→(oc run a b ls out).case= .mk 4 0 sY [] a b (out++ls.map fun l=>(run l).case)∧∀l∈ls,(run l).code=1
 | [],out,_=>⟨by rw[pC];simp,by simp⟩
 | l::ls,out,h=>by
   rw[nU] at h⊢
   rcases aa ((run l).code=1) with h1|h1
   ·rw[if_pos h1] at h⊢
    obtain⟨i1,i2⟩:=MZ h
    refine⟨by rw[i1];simp,fun x hx=>?_⟩
    rcases ax.1 hx with rfl|hx
    ·exact h1
    ·exact i2 x hx
   ·rw[if_neg h1] at h
    exact absurd h h1
theorem DZ{s:dI}{nums:List Term}{g:List bl→Case}{bt:Nat}:∀{ls:List (List bl)},(∀l∈ls,ie s nums (g l) l bt=true)→iI s nums (ls.map g) ls bt=true
 | [],_=>by rw[dB,iI];· intros;contradiction
 | l::ls,h=>by
   rw[aQ,iI,ai]
   exact⟨h l (by simp),DZ fun x hx=>h x (by simp[hx])⟩
theorem HA{s:dI}:∀(f:Nat)(ab:List bl)(bt:Nat),HO s ab→bt+f≤14→(il s (az ab) (numsOf s ab) f ab).code=1→ie s (numsOf s ab) (il s (az ab) (numsOf s ab) f ab).case ab bt=true
 | 0,ab,_,_,_,h=>by simp[il,r6] at h
 | f+1,ab,bt,hF,hd,h=>by
   have hg:=hF.xN
   have hdeep:¬14<bt:=by omega
   have n0:isNone aL=true:=rfl
   rcases aa (12<(a7 ab).length) with h12|h12
   ·rw[ux h12] at h
    simp[r6] at h
   have hE:=hF.nk (by omega)
   have hwhy:∀{a b:Term},a∈az ab→b∈az ab→gG s ⟨a,b⟩=true→gh (az ab) (closed (az ab) (a7 ab)).1 a b=true→ko s (a7 ab) (l8 (az ab) (closed (az ab) (a7 ab)).2 a b)=some ⟨a,b⟩:=fun ha hb hs hc=>
    NX hE (hF.ach ha hb hs) (Et hg.kids hg.term hg.Bm hg.n24 ha hb hc)
   cases hc:kg (jh (az ab) (closed (az ab) (a7 ab)).1) ab with
   | some n=>
     rw[rD h12 hc]
     obtain⟨hn,hp⟩:=Bi hc
     have hgd:ab.getD n EF=ab[n]:=getD_at hn
     simp only[jh,ai,decide_eq_true_eq] at hp
     obtain⟨p1,p2,p3⟩:=hp
     have hm:=ak hn
     obtain⟨hA,hB⟩:=hg.Mu _ hm p2
     have hw:=hwhy hA hB (hF.one _ hm p2) p3
     rw[hgd,ie,if_neg hdeep,if_pos rfl,hw]
     have hw2:within (n:Int) 0 ((ab.length:Int)-1)=true:=by simp[within];omega
     simp[bare,Case.n,Case.sP,Case.kids,Case.A,Case.B,Case.times,n0,hw2,hn,p1,p2]
   | none=>
   rcases aa ((bO (dX (numsOf s ab) ab)).code=1) with h1|h1
   ·rw[uf h12 hc h1,ie,if_neg hdeep]
    simp[bare,Case.n,Case.sP,Case.kids,Case.A,Case.B,n0,aaM h1]
   rcases aa ((bO (dX (numsOf s ab) ab)).code=0) with h0|h0
   ·cases hp:b7 (numsOf s ab).length (eK true (az ab) (numsOf s ab) (closed (az ab) (a7 ab)).1 ab) with
    | some q=>
      rw[ue h12 hc h0 hp] at h⊢
      obtain⟨q1,q2,q3⟩:=lp hp
      have hn:=FA hg q1 q2 (rq q3)
      have m1:(numsOf s ab).getD q.1 aL∈numsOf s ab:=mS (by omega)
      have m2:(numsOf s ab).getD q.2 aL∈numsOf s ab:=mS q2
      have jD:=Ct hg q1 q2
      have hsm:gh (az ab) (closed (az ab) (a7 ab)).1 ((numsOf s ab).getD q.1 aL) ((numsOf s ab).getD q.2 aL)=true:=by
       simp only[eK,if_true,ai] at q3
       exact q3.2
      have hw:=hwhy (oA _ m1) (oA _ m2) (xU m1 m2) hsm
      generalize (numsOf s ab).getD q.1 aL=a at *
      generalize (numsOf s ab).getD q.2 aL=b at *
      unfold zf at h⊢
      rcases aa ((il s (az ab) (numsOf s ab) f (ab++[gx a b])).code=1) with hr|hr
      ·rw[if_pos hr,ie,if_neg hdeep]
       have hF':=hF.more hn fun _=>xU m1 m2
       obtain⟨n1,n2,n3,_⟩:=hn
       have ih:=HA f (ab++[gx a b]) (bt+1) hF' (by omega) (by rw[n2,n3];exact hr)
       rw[n2,n3] at ih
       have hdf:differ (numsOf s ab) a b=true:=pV.2 ⟨m1,m2,jD⟩
       rw[if_neg (by decide),if_neg (by decide),if_pos rfl,hw]
       have hkk:iI s (numsOf s ab) [(il s (az ab) (numsOf s ab) f (ab++[gx a b])).case] [ab++[gx a b]] (bt+1)=true:=by
        rw[iI,ih,iI]
        ·rfl
        ·intros;contradiction
       simp[bare,Case.n,Case.sP,Case.kids,Case.A,Case.B,Case.times,n0,hdf,hkk]
      ·rw[if_neg hr] at h
       exact absurd h hr
    | none=>
    cases hq:b7 (numsOf s ab).length (eK false (az ab) (numsOf s ab) (closed (az ab) (a7 ab)).1 ab) with
    | some q=>
      rw[qH h12 hc h0 hp hq] at h⊢
      obtain⟨q1,q2,q3⟩:=lp hq
      have hn:=xv hg q1 q2 (vR q3)
      have m1:(numsOf s ab).getD q.1 aL∈numsOf s ab:=mS (by omega)
      have m2:(numsOf s ab).getD q.2 aL∈numsOf s ab:=mS q2
      have jD:=Ct hg q1 q2
      generalize (numsOf s ab).getD q.1 aL=a at *
      generalize (numsOf s ab).getD q.2 aL=b at *
      obtain⟨p1,p2⟩:=MZ h
      rw[p1,ie,if_neg hdeep]
      have l7:iI s (numsOf s ab) (((fm a b).map fun l=>ab++[l]).map fun l=>(il s (az ab) (numsOf s ab) f l).case) ((fm a b).map fun l=>ab++[l]) (bt+1)=true:=by
       refine DZ fun L hL=>?_
       obtain⟨l,hl,rfl⟩:=bF.1 hL
       have hnl:=hn l hl
       have hF':=hF.more hnl fun hk=>by
        simp only[fm,ax,List.not_mem_nil,or_false] at hl
        rcases hl with rfl|rfl|rfl
        ·exact xU m1 m2
        ·rw[B0] at hk;omega
        ·rw[B0] at hk;omega
       obtain⟨n1,n2,n3,_⟩:=hnl
       have ih:=HA f (ab++[l]) (bt+1) hF' (by omega) (by rw[n2,n3];exact p2 _ hL)
       rw[n2,n3] at ih
       exact ih
      have hdf:differ (numsOf s ab) a b=true:=pV.2 ⟨m1,m2,jD⟩
      rw[if_neg (by decide),if_neg (by decide),if_neg (by decide),if_pos rfl,List.nil_append,l7,hdf]
      simp[bare,Case.n,Case.sP,Case.kids,Case.A,Case.B,Case.times,fm]
    | none=>
      rw[rE h12 hc h0 hp hq] at h
      split at h<;>simp[r6] at h
   ·rw[uP h12 hc h1 h0] at h
    simp[r6] at h
theorem Kx{s:dI}{ab:List bl}(h:(eC s ab).code=1):xr s ab (eC s ab).case=true:=by
 have hb:e6 s ab=true:=by
  cases hb:e6 s ab with
  | true=>rfl
  | false=>simp[eC,hb] at h
 have e:eC s ab=il s (az ab) (numsOf s ab) 13 ab:=by simp[eC,hb]
 rw[e] at h⊢
 rw[xr,hb,HA 13 ab 1 (Yc hb) (by omega) h]
 rfl
theorem PM{s:dI}{ab:List bl}(h:(eC s ab).code=1)(m:Model):eP s m ab=false:=Q0 (Kx h)
theorem HB{s:dI}{ab more:List bl}(h:e6 s ab=true)(hs:∀l∈more,l∈ab)(h6:more.length≤6):e6 s more=true:=by
 have hg:=BZ h
 have lq:∀l∈more,fk s l.atom=true:=fun l hl=>DS h l (hs l hl)
 have l7:∀t∈dZ more,isTerm t=true:=fun t ht=>by
  obtain⟨l,hl,ht⟩:=nd.1 ht
  exact hg.all t (nd.2 ⟨l,hs l hl,ht⟩)
 have kF:∀t∈dZ more,t∈az ab:=fun t ht=>by
  obtain⟨l,hl,ht⟩:=nd.1 ht
  exact hg.has l (hs l hl) t ht
 have mG:∀t∈az more,t∈az ab:=by
  rw[jP,iL l7]
  exact nM _ [] _ hg.kids kF (by simp)
 have hnd:(az more).Nodup:=by
  rw[jP,iL l7]
  exact lh _ _ (by simp)
 have h24:=w7 hnd mG
 have h4:=w7 (hnd.filter (dx s)) (m:=numsOf s ab) fun t ht=>by
  obtain⟨h1,h2⟩:=gv.1 ht
  exact gv.2 ⟨mG t h1,h2⟩
 rw[Ah] at h4
 have:=hg.n24
 have:=hg.n4
 simp only[e6,ai,decide_eq_true_eq,cg]
 exact⟨⟨⟨⟨hg.sig,h6⟩,lq⟩,by omega⟩,by omega⟩
theorem Kz{s:dI}{ab:List bl}:(eC s ab).code=3↔e6 s ab=false:=by
 have jD:∀(f:Nat)(l:List bl),(il s (az ab) (numsOf s ab) f l).code≠3:=by
  intro f
  induction f with
  | zero=>intro l;simp[il,r6]
  | succ f ih=>
    intro l
    have hpart:∀(ls:List (List bl))(a b:Term)(out:List Case),(oc (il s (az ab) (numsOf s ab) f) a b ls out).code≠3:=by
     intro ls
     induction ls with
     | nil=>intro a b out;rw[pC];simp
     | cons x xs ih2=>
       intro a b out
       rw[nU]
       split
       ·exact ih2 _ _ _
       ·exact ih x
    rcases aa (12<(a7 l).length) with h12|h12
    ·rw[ux h12];simp[r6]
    cases hc:kg (jh (az ab) (closed (az ab) (a7 l)).1) l with
    | some n=>rw[rD h12 hc];simp
    | none=>
    rcases aa ((bO (dX (numsOf s ab) l)).code=1) with h1|h1
    ·rw[uf h12 hc h1];simp
    rcases aa ((bO (dX (numsOf s ab) l)).code=0) with h0|h0
    ·cases hp:b7 (numsOf s ab).length (eK true (az ab) (numsOf s ab) (closed (az ab) (a7 l)).1 l) with
     | some q=>
       rw[ue h12 hc h0 hp]
       unfold zf
       split
       ·simp
       ·exact ih _
     | none=>
     cases hq:b7 (numsOf s ab).length (eK false (az ab) (numsOf s ab) (closed (az ab) (a7 l)).1 l) with
     | some q=>
       rw[qH h12 hc h0 hp hq]
       exact hpart _ _ _ _
     | none=>
       rw[rE h12 hc h0 hp hq]
       split<;>simp[r6]
    ·rw[uP h12 hc h1 h0];simp[r6]
 cases hb:e6 s ab with
 | true=>
   have e:eC s ab=il s (az ab) (numsOf s ab) 13 ab:=by simp[eC,hb]
   rw[e]
   exact⟨fun h=>absurd h (jD 13 ab),fun h=>by cases h⟩
 | false=>simp[eC,hb]
theorem Cf{s:dI}{m:Model}{a b:List bl}(h:eP s m a=true)(hs:∀l∈b,l∈a):eP s m b=true:=by
 simp only[eP,ai,cg,decide_eq_true_eq] at h⊢
 exact⟨h.1,fun l hl=>h.2 l (hs l hl)⟩
theorem FO{s:dI}{a b:List bl}(h1:(eC s a).code=0)(hs:∀l∈b,l∈a):(eC s b).code≠1:=fun h2=>by
 have:=PM h2 (eC s a).model
 rw[Cf (MM h1) hs] at this
 cases this
theorem SR(s:dI)(ab:List bl):(eC s ab).code=0∨(eC s ab).code=1∨(eC s ab).code=2∨(eC s ab).code=3:=by
 have lO:∀(f:Nat)(l:List bl),(il s (az ab) (numsOf s ab) f l).code=0∨(il s (az ab) (numsOf s ab) f l).code=1∨(il s (az ab) (numsOf s ab) f l).code=2:=by
  intro f
  induction f with
  | zero=>intro l;simp[il,r6]
  | succ f ih=>
    intro l
    have hpart:∀(ls:List (List bl))(a b:Term)(out:List Case),(oc (il s (az ab) (numsOf s ab) f) a b ls out).code=0∨(oc (il s (az ab) (numsOf s ab) f) a b ls out).code=1∨(oc (il s (az ab) (numsOf s ab) f) a b ls out).code=2:=by
     intro ls
     induction ls with
     | nil=>intro a b out;rw[pC];simp
     | cons x xs ih2=>
       intro a b out
       rw[nU]
       split
       ·exact ih2 _ _ _
       ·exact ih x
    rcases aa (12<(a7 l).length) with h12|h12
    ·rw[ux h12];simp[r6]
    cases hc:kg (jh (az ab) (closed (az ab) (a7 l)).1) l with
    | some n=>rw[rD h12 hc];simp
    | none=>
    rcases aa ((bO (dX (numsOf s ab) l)).code=1) with h1|h1
    ·rw[uf h12 hc h1];simp
    rcases aa ((bO (dX (numsOf s ab) l)).code=0) with h0|h0
    ·cases hp:b7 (numsOf s ab).length (eK true (az ab) (numsOf s ab) (closed (az ab) (a7 l)).1 l) with
     | some q=>
       rw[ue h12 hc h0 hp]
       unfold zf
       split
       ·simp
       ·exact ih _
     | none=>
     cases hq:b7 (numsOf s ab).length (eK false (az ab) (numsOf s ab) (closed (az ab) (a7 l)).1 l) with
     | some q=>
       rw[qH h12 hc h0 hp hq]
       exact hpart _ _ _ _
     | none=>
       rw[rE h12 hc h0 hp hq]
       split<;>simp[r6]
    ·rw[uP h12 hc h1 h0];simp[r6]
 cases hb:e6 s ab with
 | true=>
   have e:eC s ab=il s (az ab) (numsOf s ab) 13 ab:=by simp[eC,hb]
   rw[e]
   have:=lO 13 ab
   omega
 | false=>simp[eC,hb]
end Go.Mod
namespace Go.Mod
set_option maxRecDepth 100000
theorem Jk(b:List Int)(s:dI):∀(n:Nat)(out:List bl)(p:Int),(zD b s n out p).1.length=out.length+n
 | 0,out,p=>rfl
 | n+1,out,p=>by
   rw[zD,Jk b s n]
   simp only[aR,aW,dE]
   omega
theorem TP{b:List Int}(hb:yV b):(GX b).2.length≤20:=by
 have hs:fE (wM b 0).1:=GI _
 have h0:0≤(wM b 0).2:=by
  show(0:Int)≤0+1
  decide
 have h:=(Sv hb hs h0).2.2
 simp only[GX,DI]
 split
 ·show((sj b (wM b 0).1 (wM b 0).2).1++_).length≤20
  simp only[aR,aW,dE];omega
 split
 ·show(zD b _ _ _ _).1.length≤20
  rw[Jk];omega
 split
 ·show(sj b (wM b 0).1 (wM b 0).2).1.length≤20
  omega
 split
 ·show((sj b (wM b 0).1 (wM b 0).2).1++_).length≤20
  simp only[aR,aW,dE];omega
 ·show(sj b (wM b 0).1 (wM b 0).2).1.length≤20
  omega
end Go.Mod
