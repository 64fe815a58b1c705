/-
  Plain laws: what has a reason that it can not be is so in no model. No program is walked here.
-/
import Derived.Test.YtabembjmeobhoaaGreatKBEm
set_option linter.unusedVariables false
set_option linter.unusedSimpArgs false
open Bool renaming and_eq_true→ai,false_eq_true→ax
open Classical renaming em→aa
open List renaming getElem_mem→ak,mem_cons→ay,getD_eq_getElem?_getD→az,map_cons→aQ,mem_append→aR,length_cons→a8,range→bt,getElem?_eq_some_iff→bA,mem_map→bD,all_eq_true→cd,nodup_cons→cE,mem_of_getElem?→cM,mem_singleton→cW,map_nil→dt,mem_filter→gj
open Nat renaming le_refl→aI,lt_or_ge→bU
open Option renaming map_some→du
namespace Go.Mod
open Go.Eng
set_option maxRecDepth 100000
def qW(m:Model):List Term→List Int→QQ
 | t::ts,n::ns=>n*qv (value m t)+qW m ts ns
 | _,_=>0
def FM(m:Model)(a:Atom):Prop:=if a.strict then qW m a.nums a.times<a.bound else qW m a.nums a.times≤a.bound
def lB(m:Model)(l:bp):Prop:=if l.atom.kind=1 then(if l.no then value m l.atom.A≠value m l.atom.B else value m l.atom.A=value m l.atom.B) else(if l.no then ¬FM m l.atom else FM m l.atom)
theorem Fj{m:Model}:∀{ts:List Term}{ns:List Int}{s r:Rat},mg m ts ns s=some r→bV s=true→qv r=qv s+qW m ts ns∧bV r=true
 | [],ns,s,r,h,hs=>by
   have e0:mg m [] ns s=some s:=by unfold mg;rfl
   rw[e0] at h
   cases h
   have e:qW m [] ns=0:=by unfold qW;rfl
   exact⟨by rw[e];grind,hs⟩
 | t::ts,[],s,r,h,hs=>by
   have e0:mg m (t::ts) [] s=some s:=by unfold mg;rfl
   rw[e0] at h
   cases h
   have e:qW m (t::ts) []=0:=by unfold qW;rfl
   exact⟨by rw[e];grind,hs⟩
 | t::ts,n::ns,s,r,h,hs=>by
   rw[mg] at h
   split at h
   ·rename_i hp
    have h1:=QP hp
    have h2:=Fj h h1.2
    exact⟨by rw[h2.1,h1.1,qW];grind,h2.2⟩
   ·cases h
theorem U5{a:Atom}(h:cJ a=true)(k2:a.kind=2):-1000000000≤a.bound∧a.bound≤1000000000:=by
 have hk:¬a.kind=1:=by omega
 simp only[cJ,if_neg hk,if_pos k2,ai,within,decide_eq_true_eq] at h
 have:=h.2.2.2.2.1
 omega
theorem R6{s:dE}{m:Model}{l:bp}(h:fW s m l=some true):lB m l:=by
 unfold fW at h
 split at h
 ·rename_i hc
  simp only[ai,fa] at hc
  have hwf:=hc.2.2.1
  unfold lB
  unfold nL at h
  rcases aa (l.atom.kind=1) with hk|hk
  ·rw[if_pos hk] at h⊢
   simp only[du,Option.some.injEq] at h
   cases hn:l.no with
   | true=>
     rw[hn] at h
     simpa using h
   | false=>
     rw[hn] at h
     simpa using h
  ·rw[if_neg hk] at h⊢
   have k2:=(j6 hwf).resolve_left hk
   cases hs:mg m l.atom.nums l.atom.times (whole 0) with
   | none=>rw[hs] at h;cases h
   | some r=>
     rw[hs] at h
     simp only[du,Option.some.injEq] at h
     have h1:=Fj hs (qn (by omega) (by omega))
     have h2:=QK (st:=l.atom.strict) h1.2 (U5 hwf k2)
     rw[h1.1,xp] at h2
     have e:((0:Int):QQ)+qW m l.atom.nums l.atom.times=qW m l.atom.nums l.atom.times:=by grind
     rw[e] at h2
     have h3:below r l.atom.bound l.atom.strict=true↔FM m l.atom:=h2
     cases hn:l.no with
     | true=>
       rw[hn] at h
       simp only[if_true]
       rw[←h3]
       intro hx
       rw[hx] at h
       simp at h
     | false=>
       rw[hn] at h
       simp only[ax,if_false]
       rw[←h3]
       simpa using h
 ·cases h
theorem Lm{s:dE}{m:Model}{ab:List bp}(h:eS s m ab=true):e7 m=true∧∀l∈ab,lB m l:=by
 simp only[eS,e6,ai,cd,decide_eq_true_eq] at h
 exact⟨h.1.2.1,fun l hl=>R6 (h.2 l hl)⟩
section
variable{m:Model}{eqs:List iy}(hE:∀e∈eqs,value m e.A=value m e.B)
include hE
theorem MV{r n:Int}{t:Term}{kids:List iy}(hk:∀e∈kids,value m e.A=value m e.B)(h:(nW eqs r n t kids).2=true):value m (nW eqs r n t kids).1.A=value m (nW eqs r n t kids).1.B:=by
 unfold nW at h⊢
 split at h
 ·cases h
 ·rename_i c0
  rw[if_neg c0]
  split at h
  ·rename_i c1
   rw[if_pos c1]
  ·rename_i c1
   rw[if_neg c1]
   split at h
   ·rename_i c2
    rw[if_pos c2]
    split at h
    ·cases h
    ·rename_i c3
     rw[if_neg c3]
     simp only
     rcases bU n.toNat eqs.length with hl|hl
     ·rw[getD_at hl]
      exact hE _ (ak hl)
     ·rw[az,List.getElem?_eq_none hl]
      rfl
   ·rename_i c2
    rw[if_neg c2]
    split at h
    ·rename_i c3
     rw[if_pos c3]
     split at h
     ·rename_i c4
      rw[if_pos c4]
      simp only
      rw[getD_at (by omega)]
      exact(hk _ (ak _)).symm
     ·cases h
    ·rename_i c3
     rw[if_neg c3]
     split at h
     ·rename_i c4
      rw[if_pos c4]
      split at h
      ·rename_i c5
       rw[if_pos c5]
       simp only
       obtain⟨c6,c7⟩:=c5
       have e0:=hk _ (ak (show 0<kids.length by omega))
       have e1:=hk _ (ak (show 1<kids.length by omega))
       rw[getD_at (show 0<kids.length by omega),getD_at (show 1<kids.length by omega)] at c7⊢
       rw[e0,c7,e1]
      ·cases h
     ·rename_i c4
      rw[if_neg c4]
      split at h
      ·rename_i c5
       rw[if_pos c5]
       split at h
       ·cases h
       ·rename_i c6
        rw[if_neg c6]
        simp only
        rw[value,value,mH,mH,List.map_map,List.map_map]
        congr 1
        exact List.map_congr_left fun e he=>hk e he
      ·cases h
end
mutual
theorem z8{m:Model}{eqs:List iy}(hE:∀e∈eqs,value m e.A=value m e.B):∀(w:l9)(d:Nat),(jH (nW eqs) w d).2=true→value m (jH (nW eqs) w d).1.A=value m (jH (nW eqs) w d).1.B
 | .mk r n t ks,0,h=>by rw[jH] at h;cases h
 | .mk r n t ks,d+1,h=>by
   rw[jH] at h⊢
   cases hk:gG (nW eqs) ks d with
   | none=>rw[hk] at h;cases h
   | some kids=>
     rw[hk] at h
     exact MV hE (yM hE ks d kids hk) h
theorem yM{m:Model}{eqs:List iy}(hE:∀e∈eqs,value m e.A=value m e.B):∀(ws:List l9)(d:Nat)(es:List iy),gG (nW eqs) ws d=some es→∀e∈es,value m e.A=value m e.B
 | [],d,es,h,e,he=>by
   rw[gG] at h
   cases h
   cases he
 | w::ws,d,es,h,e,he=>by
   rw[gG] at h
   split at h
   ·rename_i h1
    cases hr:gG (nW eqs) ws d with
    | none=>rw[hr] at h;cases h
    | some r=>
      rw[hr] at h
      simp only[du,Option.some.injEq] at h
      rw[←h] at he
      rcases ay.1 he with rfl|he
      ·exact z8 hE w d h1
      ·exact yM hE ws d r hr e he
   ·cases h
end
theorem wv{m:Model}{eqs:List iy}(hE:∀e∈eqs,value m e.A=value m e.B){s:dE}{w:l9}{e:iy}(h:se s eqs w=some e):value m e.A=value m e.B∧wz s [e]=true:=by
 unfold se at h
 split at h
 ·rename_i hc
  simp only[ai] at hc
  cases h
  exact⟨z8 hE w 400 hc.2.1,hc.2.2⟩
 ·cases h
theorem Nq{m n:Int}:∀{as bs:List Int}{aE:List Rat},as.length=bs.length→dot (comb m n as bs) aE=m*dot as aE+n*dot bs aE
 | [],[],aE,_=>by
   have e:dot [] aE=0:=by unfold dot;rfl
   rw[comb,e]
   ·grind
   ·intros;contradiction
 | [],_::_,_,h=>by simp at h
 | _::_,[],_,h=>by simp at h
 | a::as,b::bs,[],_=>by
   have e1:dot (comb m n (a::as) (b::bs)) []=0:=by rw[comb];unfold dot;rfl
   have e2:dot (a::as) []=0:=by unfold dot;rfl
   have e3:dot (b::bs) []=0:=by unfold dot;rfl
   rw[e1,e2,e3]
   grind
 | a::as,b::bs,x::xs,h=>by
   rw[comb,dot,dot,dot,Nq (by simpa using h),Rat.intCast_add,Rat.intCast_mul,Rat.intCast_mul]
   grind
theorem Jy{l:ib}(h:dF l=true):l.aG.length=4:=by
 simp only[dF,ai,decide_eq_true_eq] at h
 exact h.2.1
theorem N2{a b:ib}{m n:Int}(h:(dL a m b n).2=true):dF a=true∧dF b=true∧0≤n∧(dL a m b n).1=jn a m b n:=by
 unfold dL at h⊢
 split at h
 ·rename_i hc
  simp only[ai,within,decide_eq_true_eq] at hc
  rw[if_pos (by simp only[ai,within,decide_eq_true_eq];exact hc)]
  unfold jm at h⊢
  split at h
  ·rename_i h2
   rw[if_pos h2]
   exact⟨hc.1.1.1,hc.1.1.2,hc.2.1,rfl⟩
  ·cases h
 ·cases h
theorem KD{a b:ib}{n:Int}{aE:List Rat}(h:(dL a 1 b n).2=true)(ha:fw a aE)(hb:fw b aE):fw (dL a 1 b n).1 aE:=by
 obtain⟨h1,h2,h3,h4⟩:=N2 h
 rw[h4]
 have hd:=Nq (m:=1) (n:=n) (aE:=aE) ((Jy h1).trans (Jy h2).symm)
 unfold fw jn at *
 simp only
 rw[hd,Rat.intCast_add,Rat.intCast_mul,Rat.intCast_mul]
 have hn:(0:QQ)≤(n:QQ):=by
  have:=Rat.intCast_le_intCast (a:=0) (b:=n)
  rw[Rat.intCast_zero] at this
  exact this.2 h3
 generalize hx:dot a.aG aE=x at *
 generalize hy:dot b.aG aE=y at *
 have hle:(n:QQ)*y≤n*b.bound:=by
  refine Rat.mul_le_mul_of_nonneg_left ?_ hn
  cases hs:b.strict with
  | true=>rw[hs] at hb;simp only[if_true] at hb;grind
  | false=>rw[hs] at hb;simpa using hb
 have h1':((1:Int):QQ)=1:=Rat.intCast_one
 rw[h1']
 rcases aa (a.strict=true) with hsa|hsa
 ·rw[hsa] at ha⊢
  simp only[if_true] at ha
  rw[if_pos (by simp)]
  grind
 ·have hsa':a.strict=false:=by simpa using hsa
  rw[hsa'] at ha⊢
  simp only[ax,if_false,Bool.and_false,Bool.false_or] at ha⊢
  rcases aa ((decide (0<n)&&b.strict)=true) with hc|hc
  ·rw[if_pos hc]
   simp only[ai,decide_eq_true_eq] at hc
   rw[hc.2] at hb
   simp only[if_true] at hb
   have hp:(0:QQ)<(n:QQ):=Rat.intCast_pos.2 hc.1
   have:=Rat.mul_lt_mul_of_pos_left hb hp
   grind
  ·rw[if_neg hc]
   grind
theorem Da{aE:List Rat}:∀{ls:List ib}{ts:List Int}{out:ib},(∀l∈ls,fw l aE)→fw out aE→(o4 ls ts out).2=true→fw (o4 ls ts out).1 aE
 | [],ts,out,_,ho,_=>by
   have e:o4 [] ts out=(out,true):=by unfold o4;rfl
   rw[e];exact ho
 | l::ls,[],out,_,ho,_=>by
   have e:o4 (l::ls) [] out=(out,true):=by unfold o4;rfl
   rw[e];exact ho
 | l::ls,t::ts,out,hl,ho,h=>by
   rw[o4] at h⊢
   split at h
   ·rename_i hs
    rw[if_pos hs]
    exact Da (fun x hx=>hl x (by simp[hx])) (KD hs ho (hl l (by simp))) h
   ·cases h
theorem Nl:∀{cs:List Int}{aE:List Rat},(∀c∈cs,c=0)→dot cs aE=0
 | [],aE,_=>by unfold dot;rfl
 | c::cs,[],_=>by unfold dot;rfl
 | c::cs,x::xs,h=>by
   rw[dot,h c (by simp),Nl fun y hy=>h y (by simp[hy]),Rat.intCast_zero]
   grind
theorem Ps{l:ib}{aE:List Rat}(h:jJ l=true):¬fw l aE:=by
 simp only[jJ,flat,ai,Bool.or_eq_true,cd,decide_eq_true_eq] at h
 obtain⟨_,h1,h2⟩:=h
 unfold fw
 rw[Nl h1]
 have hc:=Rat.intCast_lt_intCast (a:=l.bound) (b:=0)
 rw[Rat.intCast_zero] at hc
 rcases h2 with h2|h2
 ·have:=hc.2 h2
  split
  ·grind
  ·grind
 ·rw[h2.2,h2.1,Rat.intCast_zero]
  simp only[if_true]
  exact Rat.lt_irrefl
theorem SE{list:List ib}{times:List Int}{aE:List Rat}(h:qU list times=true):¬ ∀l∈list,fw l aE:=fun hl=>by
 simp only[qU,ai] at h
 obtain⟨h1,h2⟩:=h
 unfold jE at h1 h2
 split at h1
 ·rename_i hc
  rw[if_pos hc] at h2
  refine Ps h2 (Da hl ?_ h1)
  unfold fw
  simp only[ax,if_false,NI,Rat.intCast_zero]
  exact Rat.le_refl
 ·cases h1
section
variable{m:Model}{nums:List Term}(h4:nums.length≤4)
def wY(m:Model)(nums:List Term):List Rat:=(bt 4).map fun i=>if i<nums.length then value m (nums.getD i aL) else whole 0
theorem Qh(m:Model)(nums:List Term):(wY m nums).length=4:=by simp[wY]
include h4
theorem Sf{t:Term}(ht:t∈nums):(wY m nums).getD (aH nums t) (whole 0)=value m t:=by
 have hp:=bx ht
 rw[wY,az,List.getElem?_map,List.getElem?_range (by omega)]
 simp only[du,Option.getD_some,if_pos hp]
 rw[getD_at hp]
 exact congrArg (value m) (bA.1 (iH ht)).2
theorem Ip:∀{ts:List Term}{ns:List Int},(∀t∈ts,t∈nums)→uf nums (wY m nums) ts ns=qW m ts ns
 | [],ns,_=>by unfold uf qW;rfl
 | t::ts,[],_=>by unfold uf qW;rfl
 | t::ts,n::ns,ht=>by
   rw[uf,qW,Sf h4 (ht t (by simp)),Ip fun x hx=>ht x (by simp[hx])]
theorem Ck{ts:List Term}{ns:List Int}{b:Int}{st:Bool}(ht:∀t∈ts,t∈nums):fw (lN nums ts ns b st) (wY m nums)↔(if st then qW m ts ns<b else qW m ts ns≤b):=by
 rw[qz h4 (Qh m nums) ht,Ip h4 ht]
omit h4 in
theorem Qx:∀{cs:List Int}{aE:List Rat},dot (cs.map fun c=>-c) aE = - dot cs aE
 | [],aE=>by
   have e:dot [] aE=0:=by unfold dot;rfl
   rw[dt,e];grind
 | c::cs,[]=>by
   have e1:dot (c::cs) []=0:=by unfold dot;rfl
   have e2:dot ((c::cs).map fun c=>-c) []=0:=by rw[aQ];unfold dot;rfl
   rw[e1,e2];grind
 | c::cs,x::xs=>by
   rw[aQ,dot,dot,Qx,Rat.intCast_neg]
   grind
omit h4 in
theorem Kw{l:ib}{aE:List Rat}(h:¬fw l aE):fw (pj l) aE:=by
 unfold pj
 split
 ·unfold fw at h⊢
  simp only
  rw[Qx,Rat.intCast_neg]
  generalize dot l.aG aE=x at *
  cases hs:l.strict with
  | true=>
    rw[hs] at h
    simp only[if_true,Bool.not_true,ax,if_false] at h⊢
    grind
  | false=>
    rw[hs] at h
    simp only[ax,if_false,Bool.not_false,if_true] at h⊢
    grind
 ·unfold fw mC
  have e:dot [] aE=0:=by unfold dot;rfl
  simp only[ax,if_false,e,Rat.intCast_zero]
  exact Rat.le_refl
theorem MI{l:bp}(hf:Fit nums l)(hs:lB m l):∀x∈iV nums l,fw x (wY m nums):=by
 intro x hx
 unfold iV at hx
 rcases aa (l.atom.kind=2) with k2|k2
 ·rw[if_pos k2,cW] at hx
  have k1:¬l.atom.kind=1:=by omega
  unfold lB at hs
  rw[if_neg k1] at hs
  have e:=Ck (m:=m) (ns:=l.atom.times) (b:=l.atom.bound) (st:=l.atom.strict) h4 (hf.sum k2)
  rw[hx]
  cases hn:l.no with
  | true=>
    rw[hn] at hs
    simp only[if_true] at hs⊢
    exact Kw fun hh=>hs (e.1 hh)
  | false=>
    rw[hn] at hs
    simp only[ax,if_false] at hs⊢
    exact e.2 hs
 ·rw[if_neg k2] at hx
  split at hx
  ·rename_i hc
   have hA:l.atom.A∈nums:=cK.1 hc.2
   have k1:=(j6 hf.wf).resolve_right k2
   have hB:=(hf.eq k1).1 hA
   unfold lB at hs
   rw[if_pos k1,hc.1] at hs
   simp only[ax,if_false] at hs
   have e1:=Ck (m:=m) (ts:=[l.atom.A,l.atom.B]) (ns:=[1,-1]) (b:=0) (st:=false) h4 (by simp[hA,hB])
   have e2:=Ck (m:=m) (ts:=[l.atom.A,l.atom.B]) (ns:=[-1,1]) (b:=0) (st:=false) h4 (by simp[hA,hB])
   have e0:qW m [] []=0:=by unfold qW;rfl
   simp only[ax,if_false,qW,e0,hs] at e1 e2
   rcases ay.1 hx with hx|hx
   ·rw[hx]
    exact e1.2 (by grind)
   ·rw[cW] at hx
    rw[hx]
    exact e2.2 (by grind)
  ·cases hx
end
end Go.Mod
namespace Go.Mod
open Go.Eng
set_option maxRecDepth 100000
theorem CJ{m:Model}{a b:Term}(h:qv (value m a)<qv (value m b)):lB m (dz a b):=by
 have e0:qW m [] []=0:=by unfold qW;rfl
 unfold lB dz
 split
 ·simp only[FM,qW,e0,if_true,ax,if_false]
  rw[if_neg (by decide)]
  grind
 ·simp only[FM,qW,e0,if_true,ax,if_false]
  rw[if_neg (by decide)]
  grind
theorem IY{m:Model}{a b:Term}(h:value m a=value m b):lB m (gJ a b):=by
 unfold lB gJ xo
 simp only[if_true,ax,if_false]
 exact h
theorem QH{m:Model}{ab:List bp}(h:∀l∈ab,lB m l):∀e∈bc ab,value m e.A=value m e.B:=fun e he=>by
 obtain⟨l,hl,h1,h2,rfl⟩:=BG.1 he
 have:=h l hl
 unfold lB at this
 rw[if_pos h1,h2] at this
 exact this
section
variable{s:dE}{m:Model}{nums:List Term}(hm:e7 m=true)(h4:nums.length≤4)(hn:∀t∈nums,isTerm t=true)
include hm h4 hn
theorem MT{ab:List bp}{l:bp}(hf:∀x∈ab,Fit nums x)(hs:∀x∈ab,lB m x)(h1:Fit nums l)(h2:lB m l):(∀x∈ab++[l],Fit nums x)∧(∀x∈ab++[l],lB m x):=by
 have _:=hm
 have _:=h4
 have _:=hn
 constructor
 ·intro x hx
  rcases aR.1 hx with hx|hx
  ·exact hf x hx
  ·rw[cW.1 hx];exact h1
 ·intro x hx
  rcases aR.1 hx with hx|hx
  ·exact hs x hx
  ·rw[cW.1 hx];exact h2
end
mutual
theorem Am{s:dE}{m:Model}{nums:List Term}(hm:e7 m=true)(h4:nums.length≤4)(hn:∀t∈nums,isTerm t=true):∀(c:Case)(ab:List bp)(dp:Nat),tF s nums c ab dp=true→(∀l∈ab,Fit nums l)→(∀l∈ab,lB m l)→False
 | .mk k n w ts a b ks,ab,dp,h,hf,hs=>by
   rw[tF] at h
   split at h
   ·cases h
   split at h
   ·simp only[ai] at h
    obtain⟨_,_,h⟩:=h
    split at h
    ·rename_i e l he hl
     simp only[ai,decide_eq_true_eq] at h
     obtain⟨h1,h2,h3,h5⟩:=h
     have hv:=(wv (QH hs) he).1
     have hx:=hs l (cM hl)
     unfold lB at hx
     rw[if_pos h2,h1] at hx
     simp only[if_true] at hx
     exact hx (by rw[←h3,←h5,hv])
    ·cases h
   split at h
   ·simp only[ai] at h
    refine SE (aE:=wY m nums) h.2 fun x hx=>?_
    obtain⟨l,hl,hx⟩:=List.mem_flatMap.1 hx
    exact MI h4 (hf l hl) (hs l hl) x hx
   split at h
   ·simp only[ai] at h
    obtain⟨hb,h⟩:=h
    split at h
    ·rename_i e he
     simp only[ai] at h
     obtain⟨hA,hB,_⟩:=uD.1 h.1
     have hv:=(wv (QH hs) he).1
     have hk:ks.length=1:=by
      simp only[bare,ai,decide_eq_true_eq] at hb
      exact hb.2.2.2.2
     obtain⟨g1,g2⟩:=MT hm h4 hn hf hs (Oo hA hB (hn _ hA) (hn _ hB)) (IY hv)
     exact tL hm h4 hn ks [ab++[gJ e.A e.B]] (dp+1) h.2 (by rw[hk];rfl) _ (by simp) g1 g2
    ·cases h
   split at h
   ·simp only[ai] at h
    obtain⟨hb,hd,h⟩:=h
    obtain⟨hA,hB,jv⟩:=uD.1 hd
    have hk:ks.length=3:=by
     simp only[bare,ai,decide_eq_true_eq] at hb
     exact hb.2.2.2.2
    have key:∀l∈fJ a b,Fit nums l→lB m l→False:=fun l hl f1 f2=>by
     obtain⟨g1,g2⟩:=MT hm h4 hn hf hs f1 f2
     exact tL hm h4 hn ks ((fJ a b).map fun l=>ab++[l]) (dp+1) h (by rw[hk];rfl) _ (bD.2 ⟨l,hl,rfl⟩) g1 g2
    rcases aa (qv (value m a)<qv (value m b)) with h1|h1
    ·exact key (dz a b) (by simp[fJ]) (EV hA hB (hn _ hA) (hn _ hB) jv) (CJ h1)
    ·rcases aa (qv (value m b)<qv (value m a)) with h2|h2
     ·exact key (dz b a) (by simp[fJ]) (EV hB hA (hn _ hB) (hn _ hA) (Ne.symm jv)) (CJ h2)
     ·refine key (gJ a b) (by simp[fJ]) (Oo hA hB (hn _ hA) (hn _ hB)) (IY ?_)
      exact TC (GB hm a) (GB hm b) (by rw[Rat.not_lt] at h1 h2;exact Rat.le_antisymm h2 h1)
   ·cases h
theorem tL{s:dE}{m:Model}{nums:List Term}(hm:e7 m=true)(h4:nums.length≤4)(hn:∀t∈nums,isTerm t=true):∀(cs:List Case)(ls:List (List bp))(dp:Nat),ny s nums cs ls dp=true→cs.length=ls.length→∀ab∈ls,(∀l∈ab,Fit nums l)→(∀l∈ab,lB m l)→False
 | [],ls,dp,_,hl,ab,hm',_,_=>by
   rw[List.eq_nil_of_length_eq_zero hl.symm] at hm'
   cases hm'
 | c::cs,[],dp,_,hl,_,_,_,_=>by simp at hl
 | c::cs,l::ls,dp,h,hl,ab,hx,hf,hs=>by
   rw[ny,ai] at h
   rcases ay.1 hx with rfl|hx
   ·exact Am hm h4 hn c ab dp h.1 hf hs
   ·exact tL hm h4 hn cs ls dp h.2 (by simpa using hl) ab hx hf hs
end
theorem Pm{s:dE}{ab:List bp}{c:Case}{m:Model}(h:Fv s ab c=true):eS s m ab=false:=by
 cases hm:eS s m ab with
 | false=>rfl
 | true=>
   simp only[Fv,ai] at h
   have hf:=A8 h.1
   obtain⟨h1,h2⟩:=Lm hm
   exact(Am h1 hf.2.2.1 hf.2.1 c ab 1 h.2 hf.1 h2).elim
mutual
theorem Jl{f:Int→Int→Term→List iy→iy×Bool}:∀(w:l9)(d:Nat),(jH f w d).2=true→jH f w (d+1)=jH f w d
 | .mk r n t ks,0,h=>by rw[jH] at h;cases h
 | .mk r n t ks,d+1,h=>by
   rw[jH] at h
   rw[jH,jH]
   cases hk:gG f ks d with
   | none=>rw[hk] at h;cases h
   | some es=>rw[GR ks d es hk]
theorem GR{f:Int→Int→Term→List iy→iy×Bool}:∀(ws:List l9)(d:Nat)(es:List iy),gG f ws d=some es→gG f ws (d+1)=some es
 | [],d,es,h=>by
   rw[gG] at h⊢
   exact h
 | w::ws,d,es,h=>by
   rw[gG] at h⊢
   split at h
   ·rename_i h1
    rw[Jl w d h1,if_pos h1]
    cases hr:gG f ws d with
    | none=>rw[hr] at h;cases h
    | some r=>
      rw[hr] at h
      rw[GR ws d r hr]
      exact h
   ·cases h
end
def jr(eqs:List iy)(w:l9)(d:Nat)(a b:Term):Prop:=jH (nW eqs) w d=(⟨a,b⟩,true)
theorem jr.up{eqs:List iy}{w:l9}{a b:Term}:∀{d d':Nat},d≤d'→jr eqs w d a b→jr eqs w d' a b
 | d,0,h,hw=>by
   obtain rfl:d=0:=by omega
   exact hw
 | d,d'+1,h,hw=>by
   rcases bU d (d'+1) with h1|h1
   ·have:=jr.up (d':=d') (by omega) hw
    unfold jr at this⊢
    rw[Jl w d' (by rw[this]),this]
   ·obtain rfl:d=d'+1:=by omega
    exact hw
section
variable{eqs:List iy}
theorem P2{t:Term}(h:isTerm t=true):jr eqs (.mk 1 0 t []) 1 t t:=by
 unfold jr
 rw[jH,gG]
 simp[nW,h]
theorem L4{n:Nat}{e:iy}(h:eqs[n]?=some e):jr eqs (.mk 2 n aL []) 1 e.A e.B:=by
 obtain⟨hn,rfl⟩:=bA.1 h
 unfold jr
 rw[jH,gG]
 have hw:within (n:Int) 0 ((eqs.length:Int)-1)=true:=by simp[within];omega
 have h0:isNone aL=true:=rfl
 simp[nW,hw,h0,List.getD,hn]
theorem Rx{w:l9}{d:Nat}{a b:Term}(h:jr eqs w d a b):jr eqs (.mk 3 0 aL [w]) (d+1) b a:=by
 unfold jr at h⊢
 rw[jH,gG,h,gG]
 have h0:isNone aL=true:=rfl
 simp[nW,h0]
theorem MU{v w:l9}{d:Nat}{a b c:Term}(h1:jr eqs v d a b)(h2:jr eqs w d b c):jr eqs (.mk 4 0 aL [v,w]) (d+1) a c:=by
 unfold jr at h1 h2⊢
 rw[jH,gG,h1,gG,h2,gG]
 have h0:isNone aL=true:=rfl
 simp[nW,h0]
theorem Fz{d:Nat}:∀{ws:List l9}{xs ys:List Term},ws.length=xs.length→xs.length=ys.length→(∀(j:Nat)(h1:j<ws.length)(h2:j<xs.length)(h3:j<ys.length),jr eqs ws[j] d xs[j] ys[j])→∃es,gG (nW eqs) ws d=some es∧es.length=ws.length∧es.map (·.A)=xs∧es.map (·.B)=ys
 | [],[],[],_,_,_=>⟨[],by rw[gG],rfl,rfl,rfl⟩
 | [],_::_,_,h,_,_=>by simp at h
 | [],[],_::_,_,h,_=>by simp at h
 | _::_,[],_,h,_,_=>by simp at h
 | _::_,_::_,[],_,h,_=>by simp at h
 | w::ws,x::xs,y::ys,h1,h2,hw=>by
   obtain⟨es,e1,e2,e3,e4⟩:=Fz (ws:=ws) (xs:=xs) (ys:=ys) (by simpa using h1) (by simpa using h2) (fun j a b c=>by
    have:=hw (j+1) (by simpa using a) (by simpa using b) (by simpa using c)
    simp only[List.getElem_cons_succ] at this
    exact this)
   have h0:=hw 0 (by simp) (by simp) (by simp)
   unfold jr at h0
   simp only[List.getElem_cons_zero] at h0
   refine⟨⟨x,y⟩::es,?_,by simp[e2],by simp[e3],by simp[e4]⟩
   rw[gG,h0,e1]
   rfl
theorem Py{name:ni}{ws:List l9}{xs ys:List Term}{d:Nat}(hn:fE name=true)(h0:0<ws.length)(h1:ws.length=xs.length)(h2:xs.length=ys.length)(hx:isTerm (.mk name xs)=true)(hy:isTerm (.mk name ys)=true)
 (hw:∀(j:Nat)(h1:j<ws.length)(h2:j<xs.length)(h3:j<ys.length),jr eqs ws[j] d xs[j] ys[j]):jr eqs (.mk 5 0 (.mk name []) ws) (d+1) (.mk name xs) (.mk name ys):=by
 obtain⟨es,e1,e2,e3,e4⟩:=Fz h1 h2 hw
 unfold jr
 rw[jH,e1]
 have hl:¬es.length=0:=by omega
 have hl':es≠[]:=fun e=>hl (by rw[e];rfl)
 simp[nW,Term.name,Term.kids,hn,hl',e3,e4,hx,hy]
theorem Bl{one:Edge→l9}{af:List Step}{P:Nat→Term}{d:Nat}{x:Term}:∀(es:List Edge)(w:l9)(d':Nat)(v b:Nat),d≤d'→jr eqs w d' x (P v)→pJ af v es b→(∀e∈es,jr eqs (one e) d (P (gC af e)) (P (ij af e)))→jr eqs (ox one w es) (d'+es.length) x (P b)
 | [],w,d',v,b,_,hw,hp,_=>by
   rw[pJ] at hp
   rw[ox,←hp]
   exact hw
 | e::es,w,d',v,b,hd,hw,hp,ho=>by
   rw[pJ] at hp
   rw[ox]
   have h1:=MU hw ((hp.1▸ho e (by simp)).up hd)
   have:=Bl es _ (d'+1) (ij af e) b (by omega) h1 hp.2 fun y hy=>ho y (by simp[hy])
   rw[a8,show d'+(es.length+1)=d'+1+es.length by omega]
   exact this
end
section
variable{ae:List Term}{eqs:List iy}{af:List Step}(eP:lq ae eqs af)
include eP
theorem GQ{k:Nat}(hk:k≤af.length){a b:Nat}(ha:a<ae.length)(hb:b<ae.length)(h:cl (aV ae.length af k) a=cl (aV ae.length af k) b) :
 ∀e∈lO ae.length af k a b,e.step<k∧cl (aV ae.length af k) (gC af e)=cl (aV ae.length af k) a∧cl (aV ae.length af k) (ij af e)=cl (aV ae.length af k) a:=by
 obtain⟨h1,h2,h3⟩:=rE eP hk ha hb h
 intro e he
 have hv:=o8 eP hk h1 h2 (ij af e) (by unfold gO;exact List.mem_cons_of_mem _ (bD.2 ⟨e,he,rfl⟩))
 have hs:=BI eP hk (h1 e he)
 exact⟨h1 e he,by rw[hs,hv],hv⟩
theorem xN:∀{k:Nat},k≤af.length→∀{a b:Nat},a<ae.length→b<ae.length→cl (aV ae.length af k) a=cl (aV ae.length af k) b→((lO ae.length af k a b).map Edge.step).Nodup
 | 0,_,a,b,_,_,_=>by simp[lO]
 | k+1,hk,a,b,ha,hb,h=>by
   have hk':k≤af.length:=by omega
   rw[OG (by omega) ha hb] at h
   have hA:=Fw eP (k:=k) (by omega)
   have hB:=FH eP (k:=k) (by omega)
   have jv:=(ot eP (k:=k) (by omega)).ne
   have disj:∀{x y u v:Nat},x<ae.length→y<ae.length→u<ae.length→v<ae.length→cl (aV ae.length af k) x=cl (aV ae.length af k) y→cl (aV ae.length af k) u=cl (aV ae.length af k) v→cl (aV ae.length af k) x≠cl (aV ae.length af k) u→∀bk,((lO ae.length af k x y++⟨k,bk⟩::lO ae.length af k u v).map Edge.step).Nodup:=by
    intro x y u v hx hy hu hv h1 h2 h3 bk
    have p1:=GQ eP hk' hx hy h1
    have p2:=GQ eP hk' hu hv h2
    rw[List.map_append,aQ,List.nodup_append]
    refine⟨xN hk' hx hy h1,cE.2 ⟨fun hm=>?_,xN hk' hu hv h2⟩,fun s hs t ht e=>?_⟩
    ·obtain⟨e,he,e1⟩:=bD.1 hm
     have e1':e.step=k:=e1
     have:=(p2 e he).1
     omega
    ·subst e
     obtain⟨e1,he1,q1⟩:=bD.1 hs
     rcases ay.1 ht with ht|ht
     ·have ht':s=k:=ht
      have:=(p1 e1 he1).1
      omega
     ·obtain⟨e2,he2,q2⟩:=bD.1 ht
      obtain⟨_,a1,a2⟩:=p1 e1 he1
      obtain⟨_,b1,b2⟩:=p2 e2 he2
      have ju:e1.step=e2.step:=by rw[q1,q2]
      refine h3 ?_
      rw[←a1,←b1]
      have es:gC af e1=gC af e2∨gC af e1=ij af e2:=by
       unfold gC ij
       rw[ju]
       cases e1.back<;>cases e2.back<;>simp
      rcases es with es|es
      ·rw[es]
      ·rw[es,b2,b1]
   rw[lO]
   rcases aa (cl (aV ae.length af k) a=cl (aV ae.length af k) b) with h1|h1
   ·rw[if_pos h1]
    exact xN hk' ha hb h1
   ·rw[if_neg h1]
    rcases h with h|⟨h,h'⟩|⟨h,h'⟩
    ·exact(h1 h).elim
    ·rw[if_pos (show _=cl _ (hJ af k).A.toNat from h)]
     exact disj ha hA hB hb h h'.symm (by rw[h];exact jv) false
    ·rw[if_neg (show ¬_=cl _ (hJ af k).A.toNat from fun x=>jv (by rw[←x];exact h))]
     exact disj ha hB hA hb h h'.symm (by rw[h];exact jv.symm) true
theorem XB{k:Nat}(hk:k≤af.length){a b:Nat}(ha:a<ae.length)(hb:b<ae.length)(h:cl (aV ae.length af k) a=cl (aV ae.length af k) b):(lO ae.length af k a b).length≤k:=by
 have h1:=xN eP hk ha hb h
 have h2:=j8 (N:=k) h1 fun v hv=>by
  obtain⟨e,he,rfl⟩:=bD.1 hv
  exact(GQ eP hk ha hb h e he).1
 simpa using h2
end
def oK:Nat→Nat
 | 0=>1
 | k+1=>oK k+2+k
theorem wM:∀{j k:Nat},j≤k→oK j≤oK k
 | j,0,h=>by
   obtain rfl:j=0:=by omega
   exact aI _
 | j,k+1,h=>by
   rcases bU j (k+1) with h1|h1
   ·have:=wM (j:=j) (k:=k) (by omega)
    rw[oK];omega
   ·obtain rfl:j=k+1:=by omega
    exact aI _
theorem RM:oK 24≤400:=by decide
theorem FZ:∀k,1≤oK k
 | 0=>aI _
 | k+1=>by
   have:=FZ k
   rw[oK];omega
theorem Sc{ae:List Term}{c:List Nat}{a b:Nat}(h:alike ae c a b=true):0<(ae.getD a aL).kids.length∧(ae.getD a aL).name=(ae.getD b aL).name∧lA ae c (ae.getD a aL).kids (ae.getD b aL).kids=true:=by
 simp only[alike,ai,decide_eq_true_eq] at h
 exact h
theorem xx{ae:List Term}{t:Term}(h:t∈ae):ae.getD (aH ae t) aL=t:=by
 rw[getD_at (bx h)]
 exact(bA.1 (iH h)).2
section
variable{ae:List Term}{eqs:List iy}{af:List Step}(eP:lq ae eqs af)(Wb:gQ ae)(htm:∀t∈ae,isTerm t=true)(ki:∀e∈eqs,e.A∈ae∧e.B∈ae)
include eP Wb htm ki
theorem Gy:∀(f n a b:Nat),n<f→n≤af.length→a<ae.length→b<ae.length→cl (aV ae.length af n) a=cl (aV ae.length af n) b→jr eqs (lf ae af f n a b) (oK n) (ae.getD a aL) (ae.getD b aL)
 | 0,n,_,_,h,_,_,_,_=>by omega
 | f+1,n,a,b,hf,hn,ha,hb,hc=>by
   have hPt:∀i,i<ae.length→isTerm (ae.getD i aL)=true:=fun i hi=>by rw[getD_at hi];exact htm _ (ak hi)
   have hPm:∀i,i<ae.length→ae.getD i aL∈ae:=fun i hi=>by rw[getD_at hi];exact ak hi
   obtain⟨w1,w2,w3⟩:=rE eP hn ha hb hc
   have dy:=XB eP hn ha hb hc
   have hedge:∀e,e.step<n→∃n',n=n'+1∧jr eqs (kH ae af (lf ae af f) e) (oK n'+2) (ae.getD (gC af e) aL) (ae.getD (ij af e) aL):=fun e he=>by
    obtain⟨n',rfl⟩:∃n',n=n'+1:=⟨n-1,by omega⟩
    refine⟨n',rfl,?_⟩
    have hs:=ot eP (k:=e.step) (by omega)
    have base:jr eqs (if(hJ af e.step).given<0 then .mk 5 0 (.mk (ae.getD (hJ af e.step).A.toNat aL).name []) (((ae.getD (hJ af e.step).A.toNat aL).kids.zip (ae.getD (hJ af e.step).B.toNat aL).kids).map fun p=>lf ae af f e.step (aH ae p.1) (aH ae p.2)) else .mk 2 (hJ af e.step).given aL []) (oK n'+1) (ae.getD (hJ af e.step).A.toNat aL) (ae.getD (hJ af e.step).B.toNat aL):=by
     rcases hs.XW with⟨h1,h2⟩|⟨m,h1,q,h2,h3,h4⟩
     ·rw[if_pos (by omega)]
      obtain⟨k0,k1,k2⟩:=Sc h2
      obtain⟨k3,k4⟩:=BH k2
      have tA:=hPt _ hs.a1
      have tB:=hPt _ hs.b1
      have mA:=Wb _ (hPm _ hs.a1)
      have mB:=Wb _ (hPm _ hs.b1)
      generalize ae.getD (hJ af e.step).A.toNat aL=tA0 at *
      generalize ae.getD (hJ af e.step).B.toNat aL=tB0 at *
      obtain⟨nA,kA⟩:=tA0
      obtain⟨nB,kB⟩:=tB0
      have k1:nA=nB:=k1
      subst k1
      have k0:0<kA.length:=k0
      have k3:kA.length=kB.length:=k3
      have mA:∀k∈kA,k∈ae:=mA
      have mB:∀k∈kB,k∈ae:=mB
      show jr eqs (.mk 5 0 (.mk nA []) ((kA.zip kB).map fun p=>lf ae af f e.step (aH ae p.1) (aH ae p.2))) (oK n'+1) (.mk nA kA) (.mk nA kB)
      refine Py (L9 tA) (by simp;omega) (by simp;omega) k3 tA tB fun j j1 j2 j3=>?_
      simp only[List.getElem_map,List.getElem_zip]
      have xA:=mA _ (ak j2)
      have xB:=mB _ (ak j3)
      have:=Gy f e.step (aH ae kA[j]) (aH ae kB[j]) (by omega) (by omega) (bx xA) (bx xB) (k4 j j2 j3)
      rw[xx xA,xx xB] at this
      exact this.up (wM (by omega))
     ·rw[if_neg (by omega),h1,h3,h4]
      simp only[Int.toNat_natCast]
      have hq:=ki q (cM h2)
      rw[xx hq.1,xx hq.2]
      exact(L4 h2).up (by omega)
    unfold kH gC ij vA vB
    simp only
    cases e.back with
    | true=>exact Rx base
    | false=>exact base.up (by omega)
   rw[lf]
   cases hw:lO ae.length af n a b with
   | nil=>
     rw[hw,pJ] at w2
     rw[←w2]
     exact(P2 (hPt a ha)).up (FZ n)
   | cons e es=>
     rw[hw] at w1 w2 dy
     rw[pJ] at w2
     obtain⟨n',hn',h1⟩:=hedge e (w1 e (by simp))
     subst hn'
     rw[w2.1] at h1
     have lP:∀x∈es,jr eqs (kH ae af (lf ae af f) x) (oK n'+2) (ae.getD (gC af x) aL) (ae.getD (ij af x) aL):=fun x hx=>by
      obtain⟨n2,e2,h2⟩:=hedge x (w1 x (by simp[hx]))
      obtain rfl:n2=n':=by omega
      exact h2
     have:=Bl (P:=fun i=>ae.getD i aL) es _ (oK n'+2) (ij af e) b (aI _) h1 w2.2 lP
     simp only[a8] at dy
     refine this.up ?_
     rw[oK]
     omega
end
end Go.Mod
namespace Go.Mod
open Go.Eng
set_option maxRecDepth 100000
def Pf(n:Nat)(c:List Nat):Prop:=c.length=n∧∀i,i<n→cl c i<n∧cl c (cl c i)=cl c i
def FL(c:List Nat):List Nat:=(bt c.length).filter fun i=>decide (cl c i=i)
theorem v8{c:List Nat}{i:Nat}:i∈FL c↔i<c.length∧cl c i=i:=by simp[FL]
theorem Gu(c:List Nat):(FL c).Nodup:=List.nodup_range.filter _
theorem M0{n:Nat}{c:List Nat}{a b:Nat}(h:Pf n c)(ha:a<n)(hb:b<n)(jv:cl c a≠cl c b):Pf n (fV c a b)∧(FL (fV c a b)).length+1≤(FL c).length:=by
 obtain⟨hl,hr⟩:=h
 have hA:=hr a ha
 have hB:=hr b hb
 obtain⟨mx,hmx⟩:∃mx,max (cl c a) (cl c b)=mx:=⟨_,rfl⟩
 obtain⟨mn,hmn⟩:∃mn,min (cl c a) (cl c b)=mn:=⟨_,rfl⟩
 have hmxn:mx<n∧cl c mx=mx∧mn<n∧cl c mn=mn∧mn≠mx:=by
  rcases bU (cl c a) (cl c b) with h1|h1
  ·have e1:mx=cl c b:=by omega
   have e2:mn=cl c a:=by omega
   rw[e1,e2]
   exact⟨hB.1,hB.2,hA.1,hA.2,jv⟩
  ·have e1:mx=cl c a:=by omega
   have e2:mn=cl c b:=by omega
   rw[e1,e2]
   exact⟨hA.1,hA.2,hB.1,hB.2,fun e=>jv e.symm⟩
 obtain⟨x1,x2,x3,x4,x5⟩:=hmxn
 have hj:∀i,i<n→cl (fV c a b) i=if cl c i=mx then mn else cl c i:=fun i hi=>by
  rw[xf (by omega),hmx,hmn]
 refine⟨⟨by rw[fD,hl],fun i hi=>?_⟩,?_⟩
 ·rw[hj i hi]
  obtain⟨r1,r2⟩:=hr i hi
  split
  ·exact⟨x3,by rw[hj mn x3,x4,if_neg x5]⟩
  ·rename_i h1
   exact⟨r1,by rw[hj _ r1,r2,if_neg h1]⟩
 ·have hs:∀i∈mx::FL (fV c a b),i∈FL c:=by
   intro i hi
   rcases ay.1 hi with rfl|hi
   ·exact v8.2 ⟨by omega,x2⟩
   ·obtain⟨h1,h2⟩:=v8.1 hi
    rw[fD] at h1
    rw[hj i (by omega)] at h2
    split at h2
    ·rename_i h3
     rw[←h2,x4] at h3
     exact absurd h3 x5
    ·exact v8.2 ⟨h1,h2⟩
  have hn:(mx::FL (fV c a b)).Nodup:=by
   refine cE.2 ⟨fun hm=>?_,Gu _⟩
   have:=(v8.1 hm).2
   rw[hj mx x1,if_pos x2] at this
   exact x5 this
  simpa using wV hn hs
theorem Au{ae:List Term}{eqs:List iy}{af:List Step}(eP:lq ae eqs af):∀k,k≤af.length→Pf ae.length (aV ae.length af k)∧(FL (aV ae.length af k)).length+k≤ae.length
 | 0,_=>by
   have e:∀i,i<ae.length→cl (aV ae.length af 0) i=i:=fun i hi=>by
    rw[gL (by rw[iD];exact hi)]
    simp[aV]
   refine⟨⟨iD ..,fun i hi=>by rw[e i hi];exact⟨hi,e i hi⟩⟩,?_⟩
   have:=j8 (N:=ae.length) (Gu (aV ae.length af 0)) fun v hv=>by
    have:=(v8.1 hv).1
    rwa [iD] at this
   omega
 | k+1,hk=>by
   obtain⟨h1,h2⟩:=Au eP k (by omega)
   have hs:=ot eP (k:=k) (by omega)
   rw[QY (by omega)]
   obtain⟨h3,h4⟩:=M0 h1 hs.a1 hs.b1 hs.ne
   exact⟨h3,by
    have h4':(FL (fV (aV ae.length af k) (vA af k) (vB af k))).length+1≤(FL (aV ae.length af k)).length:=h4
    omega⟩
theorem Tz{ae:List Term}{eqs:List iy}(ki:∀e∈eqs,e.A∈ae∧e.B∈ae):(closed ae eqs).2.length≤ae.length:=by
 have:=(Au (mu ki).1 _ (aI _)).2
 omega
theorem DV{ae:List Term}{eqs:List iy}(Wb:gQ ae)(htm:∀t∈ae,isTerm t=true)(ki:∀e∈eqs,e.A∈ae∧e.B∈ae)(h24:ae.length≤24){a b:Term}(ha:a∈ae)(hb:b∈ae)(hc:fS ae (closed ae eqs).1 a b=true) :
 jr eqs (lX ae (closed ae eqs).2 a b) 400 a b:=by
 have hk:=mu ki
 have hs:=Tz ki
 have hc':=of_decide_eq_true hc
 rw[hk.2] at hc'
 have:=Gy hk.1 Wb htm ki ((closed ae eqs).2.length+1) (closed ae eqs).2.length (aH ae a) (aH ae b) (by omega) (aI _) (bx ha) (bx hb) hc'
 rw[xx ha,xx hb] at this
 exact this.up (Nat.le_trans (wM (show _≤24 by omega)) RM)
theorem Ma{s:dE}{eqs:List iy}{w:l9}{a b:Term}(h1:wz s eqs=true)(h2:wz s [⟨a,b⟩]=true)(h:jr eqs w 400 a b):se s eqs w=some ⟨a,b⟩:=by
 unfold jr at h
 unfold se
 rw[h1,h]
 simp[h2]
structure EZ(s:dE)(ab:List bp):Prop where
 xm:ia s ab
 one:∀l∈ab,l.atom.kind=1→iL s ⟨l.atom.A,l.atom.B⟩=true
theorem EZ.eqs{s:dE}{ab:List bp}(h:EZ s ab):∀e∈bc ab,iL s e=true:=fun e he=>by
 obtain⟨l,hl,h1,_,rfl⟩:=BG.1 he
 exact h.one l hl h1
theorem Xo{s:dE}{ab:List bp}(h:eZ s ab=true):EZ s ab:=⟨AW h,fun l hl hk=>by
 have:=CC h l hl
 simp only[fa,hk,if_true,ai] at this
 exact this.2.2⟩
theorem EZ.wz{s:dE}{ab:List bp}(h:EZ s ab)(h12:(bc ab).length≤12):wz s (bc ab)=true:=by
 have hg:=h.xm
 have hi:∀t∈Gs (bc ab),t∈aA ab:=fun t ht=>by
  obtain⟨e,he,h1⟩:=Jo.1 ht
  obtain⟨h2,h3⟩:=hg.Aa e he
  rcases h1 with rfl|rfl
  ·exact h2
  ·exact h3
 have h1:=MN (ts:=Gs (bc ab)) (fun t ht=>hg.term t (hi t ht)) hg.kids hi
 simp only[Mod.wz,ai,decide_eq_true_eq,cd]
 exact⟨⟨⟨hg.sig,h12⟩,h.eqs⟩,by have:=hg.n24;omega⟩
theorem EZ.abf{s:dE}{ab:List bp}(h:EZ s ab){a b:Term}(ha:a∈aA ab)(hb:b∈aA ab)(hs:iL s ⟨a,b⟩=true):Mod.wz s [⟨a,b⟩]=true:=by
 have hg:=h.xm
 have hi:∀t∈Gs [(⟨a,b⟩:iy)],t∈aA ab:=fun t ht=>by
  obtain⟨e,he,h1⟩:=Jo.1 ht
  rw[cW] at he
  subst he
  rcases h1 with rfl|rfl
  ·exact ha
  ·exact hb
 have h1:=MN (ts:=Gs [(⟨a,b⟩:iy)]) (fun t ht=>hg.term t (hi t ht)) hg.kids hi
 simp only[Mod.wz,ai,decide_eq_true_eq,cd]
 exact⟨⟨⟨hg.sig,by simp⟩,fun e he=>by rw[cW.1 he];exact hs⟩,by have:=hg.n24;omega⟩
theorem NQ{s:dE}{ab:List bp}{t:Term}(h:t∈numsOf s ab):fk s t=some 1:=of_decide_eq_true (gj.1 h).2
theorem xd{s:dE}{ab:List bp}{a b:Term}(ha:a∈numsOf s ab)(hb:b∈numsOf s ab):iL s ⟨a,b⟩=true:=by
 simp[iL,NQ ha,NQ hb]
theorem EZ.more{s:dE}{ab:List bp}{l:bp}(h:EZ s ab)(hn:Next s ab l)(he:l.atom.kind=1→iL s ⟨l.atom.A,l.atom.B⟩=true):EZ s (ab++[l]):=by
 refine⟨hn.1,fun x hx=>?_⟩
 rcases aR.1 hx with hx|hx
 ·exact h.one x hx
 ·rw[cW.1 hx]
  exact he
theorem Ba(a b:Term):(dz a b).atom.kind=2:=by unfold dz;split<;>rfl
theorem YB{list:List ib}(h:(bN list).code=1):qU list (bN list).times=true:=by
 have hend:∀s0 s1 s2 s3 rows,(ie list s0 s1 s2 s3 rows).code=1→qU list (ie list s0 s1 s2 s3 rows).times=true:=fun s0 s1 s2 s3 rows h=>by
  unfold ie at h⊢
  split at h
  ·split at h
   ·rename_i hf
    rw[if_pos hf]
    exact hf
   ·simp at h
  ·split at h
   ·simp at h
   ·split at h<;>simp at h
 unfold bN at h⊢
 split at h
 ·rename_i hs
  rw[if_pos hs]
  split at h
  ·simp at h
  ·split at h
   ·simp at h
   ·split at h
    ·simp at h
    ·split at h
     ·simp at h
     ·exact hend _ _ _ _ _ h
 ·simp at h
theorem Nc{run:List bp→y6}{a b:Term}:∀{ls:List (List bp)}{out:List Case},(n8 run a b ls out).code=1→(n8 run a b ls out).case= .mk 4 0 vO [] a b (out++ls.map fun l=>(run l).case)∧∀l∈ls,(run l).code=1
 | [],out,_=>⟨by rw[pn];simp,by simp⟩
 | l::ls,out,h=>by
   rw[nJ] at h⊢
   rcases aa ((run l).code=1) with h1|h1
   ·rw[if_pos h1] at h⊢
    obtain⟨i1,i2⟩:=Nc h
    refine⟨by rw[i1];simp,fun x hx=>?_⟩
    rcases ay.1 hx with rfl|hx
    ·exact h1
    ·exact i2 x hx
   ·rw[if_neg h1] at h
    exact absurd h h1
theorem CZ{s:dE}{nums:List Term}{g:List bp→Case}{dp:Nat}:∀{ls:List (List bp)},(∀l∈ls,tF s nums (g l) l dp=true)→ny s nums (ls.map g) ls dp=true
 | [],_=>by rw[dt,ny];· intros;contradiction
 | l::ls,h=>by
   rw[aQ,ny,ai]
   exact⟨h l (by simp),CZ fun x hx=>h x (by simp[hx])⟩
theorem F6{s:dE}:∀(f:Nat)(ab:List bp)(dp:Nat),EZ s ab→dp+f≤14→(hY s (aA ab) (numsOf s ab) f ab).code=1→tF s (numsOf s ab) (hY s (aA ab) (numsOf s ab) f ab).case ab dp=true
 | 0,ab,_,_,_,h=>by simp[hY,rJ] at h
 | f+1,ab,dp,hF,hd,h=>by
   have hg:=hF.xm
   have hdeep:¬14<dp:=by omega
   have n0:isNone aL=true:=rfl
   rcases aa (12<(bc ab).length) with h12|h12
   ·rw[tU h12] at h
    simp[rJ] at h
   have hE:=hF.wz (by omega)
   have hwhy:∀{a b:Term},a∈aA ab→b∈aA ab→iL s ⟨a,b⟩=true→fS (aA ab) (closed (aA ab) (bc ab)).1 a b=true→se s (bc ab) (lX (aA ab) (closed (aA ab) (bc ab)).2 a b)=some ⟨a,b⟩:=fun ha hb hs hc=>
    Ma hE (hF.abf ha hb hs) (DV hg.kids hg.term hg.Aa hg.n24 ha hb hc)
   cases hc:kf (iZ (aA ab) (closed (aA ab) (bc ab)).1) ab with
   | some n=>
     rw[rv h12 hc]
     obtain⟨hn,hp⟩:=AZ hc
     have hgd:ab.getD n Dq=ab[n]:=getD_at hn
     simp only[iZ,ai,decide_eq_true_eq] at hp
     obtain⟨p1,p2,p3⟩:=hp
     have hm:=ak hn
     obtain⟨hA,hB⟩:=hg.JX _ hm p2
     have hw:=hwhy hA hB (hF.one _ hm p2) p3
     rw[hgd,tF,if_neg hdeep,if_pos rfl,hw]
     have hw2:within (n:Int) 0 ((ab.length:Int)-1)=true:=by simp[within];omega
     simp[bare,Case.n,Case.vR,Case.kids,Case.A,Case.B,Case.times,n0,hw2,hn,p1,p2]
   | none=>
   rcases aa ((bN (dQ (numsOf s ab) ab)).code=1) with h1|h1
   ·rw[ue h12 hc h1,tF,if_neg hdeep]
    simp[bare,Case.n,Case.vR,Case.kids,Case.A,Case.B,n0,YB h1]
   rcases aa ((bN (dQ (numsOf s ab) ab)).code=0) with h0|h0
   ·cases hp:b6 (numsOf s ab).length (dY true (aA ab) (numsOf s ab) (closed (aA ab) (bc ab)).1 ab) with
    | some q=>
      rw[uj h12 hc h0 hp] at h⊢
      obtain⟨q1,q2,q3⟩:=kM hp
      have hn:=Ev hg q1 q2 (q9 q3)
      have m1:(numsOf s ab).getD q.1 aL∈numsOf s ab:=mM (by omega)
      have m2:(numsOf s ab).getD q.2 aL∈numsOf s ab:=mM q2
      have jv:=AL hg q1 q2
      have hsm:fS (aA ab) (closed (aA ab) (bc ab)).1 ((numsOf s ab).getD q.1 aL) ((numsOf s ab).getD q.2 aL)=true:=by
       simp only[dY,if_true,ai] at q3
       exact q3.2
      have hw:=hwhy (ov _ m1) (ov _ m2) (xd m1 m2) hsm
      generalize (numsOf s ab).getD q.1 aL=a at *
      generalize (numsOf s ab).getD q.2 aL=b at *
      unfold yd at h⊢
      rcases aa ((hY s (aA ab) (numsOf s ab) f (ab++[gJ a b])).code=1) with hr|hr
      ·rw[if_pos hr,tF,if_neg hdeep]
       have hF':=hF.more hn fun _=>xd m1 m2
       obtain⟨n1,n2,n3,_⟩:=hn
       have ih:=F6 f (ab++[gJ a b]) (dp+1) hF' (by omega) (by rw[n2,n3];exact hr)
       rw[n2,n3] at ih
       have hdf:differ (numsOf s ab) a b=true:=uD.2 ⟨m1,m2,jv⟩
       rw[if_neg (by decide),if_neg (by decide),if_pos rfl,hw]
       have hkk:ny s (numsOf s ab) [(hY s (aA ab) (numsOf s ab) f (ab++[gJ a b])).case] [ab++[gJ a b]] (dp+1)=true:=by
        rw[ny,ih,ny]
        ·rfl
        ·intros;contradiction
       simp[bare,Case.n,Case.vR,Case.kids,Case.A,Case.B,Case.times,n0,hdf,hkk]
      ·rw[if_neg hr] at h
       exact absurd h hr
    | none=>
    cases hq:b6 (numsOf s ab).length (dY false (aA ab) (numsOf s ab) (closed (aA ab) (bc ab)).1 ab) with
    | some q=>
      rw[qh h12 hc h0 hp hq] at h⊢
      obtain⟨q1,q2,q3⟩:=kM hq
      have hn:=w9 hg q1 q2 (uA q3)
      have m1:(numsOf s ab).getD q.1 aL∈numsOf s ab:=mM (by omega)
      have m2:(numsOf s ab).getD q.2 aL∈numsOf s ab:=mM q2
      have jv:=AL hg q1 q2
      generalize (numsOf s ab).getD q.1 aL=a at *
      generalize (numsOf s ab).getD q.2 aL=b at *
      obtain⟨p1,p2⟩:=Nc h
      rw[p1,tF,if_neg hdeep]
      have lP:ny s (numsOf s ab) (((fJ a b).map fun l=>ab++[l]).map fun l=>(hY s (aA ab) (numsOf s ab) f l).case) ((fJ a b).map fun l=>ab++[l]) (dp+1)=true:=by
       refine CZ fun L hL=>?_
       obtain⟨l,hl,rfl⟩:=bD.1 hL
       have hnl:=hn l hl
       have hF':=hF.more hnl fun hk=>by
        simp only[fJ,ay,List.not_mem_nil,or_false] at hl
        rcases hl with rfl|rfl|rfl
        ·exact xd m1 m2
        ·rw[Ba] at hk;omega
        ·rw[Ba] at hk;omega
       obtain⟨n1,n2,n3,_⟩:=hnl
       have ih:=F6 f (ab++[l]) (dp+1) hF' (by omega) (by rw[n2,n3];exact p2 _ hL)
       rw[n2,n3] at ih
       exact ih
      have hdf:differ (numsOf s ab) a b=true:=uD.2 ⟨m1,m2,jv⟩
      rw[if_neg (by decide),if_neg (by decide),if_neg (by decide),if_pos rfl,List.nil_append,lP,hdf]
      simp[bare,Case.n,Case.vR,Case.kids,Case.A,Case.B,Case.times,fJ]
    | none=>
      rw[ru h12 hc h0 hp hq] at h
      split at h<;>simp[rJ] at h
   ·rw[ud h12 hc h1 h0] at h
    simp[rJ] at h
theorem Sv{s:dE}{ab:List bp}(h:(dS s ab).code=1):Fv s ab (dS s ab).case=true:=by
 have hb:eZ s ab=true:=by
  cases hb:eZ s ab with
  | true=>rfl
  | false=>simp[dS,hb] at h
 have e:dS s ab=hY s (aA ab) (numsOf s ab) 13 ab:=by simp[dS,hb]
 rw[e] at h⊢
 rw[Fv,hb,F6 13 ab 1 (Xo hb) (by omega) h]
 rfl
theorem ON{s:dE}{ab:List bp}(h:(dS s ab).code=1)(m:Model):eS s m ab=false:=Pm (Sv h)
theorem Fb{s:dE}{ab more:List bp}(h:eZ s ab=true)(hs:∀l∈more,l∈ab)(h6:more.length≤6):eZ s more=true:=by
 have hg:=AW h
 have k9:∀l∈more,fa s l.atom=true:=fun l hl=>CC h l (hs l hl)
 have lP:∀t∈dI more,isTerm t=true:=fun t ht=>by
  obtain⟨l,hl,ht⟩:=mR.1 ht
  exact hg.all t (mR.2 ⟨l,hs l hl,ht⟩)
 have ki:∀t∈dI more,t∈aA ab:=fun t ht=>by
  obtain⟨l,hl,ht⟩:=mR.1 ht
  exact hg.has l (hs l hl) t ht
 have mq:∀t∈aA more,t∈aA ab:=by
  rw[jD,iB lP]
  exact nH _ [] _ hg.kids ki (by simp)
 have hnd:(aA more).Nodup:=by
  rw[jD,iB lP]
  exact kN _ _ (by simp)
 have h24:=wV hnd mq
 have h4:=wV (hnd.filter (dk s)) (m:=numsOf s ab) fun t ht=>by
  obtain⟨h1,h2⟩:=gj.1 ht
  exact gj.2 ⟨mq t h1,h2⟩
 rw[zC] at h4
 have:=hg.n24
 have:=hg.n4
 simp only[eZ,ai,decide_eq_true_eq,cd]
 exact⟨⟨⟨⟨hg.sig,h6⟩,k9⟩,by omega⟩,by omega⟩
theorem IZ{s:dE}{ab:List bp}:(dS s ab).code=3↔eZ s ab=false:=by
 have jv:∀(f:Nat)(l:List bp),(hY s (aA ab) (numsOf s ab) f l).code≠3:=by
  intro f
  induction f with
  | zero=>intro l;simp[hY,rJ]
  | succ f ih=>
    intro l
    have hpart:∀(ls:List (List bp))(a b:Term)(out:List Case),(n8 (hY s (aA ab) (numsOf s ab) f) a b ls out).code≠3:=by
     intro ls
     induction ls with
     | nil=>intro a b out;rw[pn];simp
     | cons x xs ih2=>
       intro a b out
       rw[nJ]
       split
       ·exact ih2 _ _ _
       ·exact ih x
    rcases aa (12<(bc l).length) with h12|h12
    ·rw[tU h12];simp[rJ]
    cases hc:kf (iZ (aA ab) (closed (aA ab) (bc l)).1) l with
    | some n=>rw[rv h12 hc];simp
    | none=>
    rcases aa ((bN (dQ (numsOf s ab) l)).code=1) with h1|h1
    ·rw[ue h12 hc h1];simp
    rcases aa ((bN (dQ (numsOf s ab) l)).code=0) with h0|h0
    ·cases hp:b6 (numsOf s ab).length (dY true (aA ab) (numsOf s ab) (closed (aA ab) (bc l)).1 l) with
     | some q=>
       rw[uj h12 hc h0 hp]
       unfold yd
       split
       ·simp
       ·exact ih _
     | none=>
     cases hq:b6 (numsOf s ab).length (dY false (aA ab) (numsOf s ab) (closed (aA ab) (bc l)).1 l) with
     | some q=>
       rw[qh h12 hc h0 hp hq]
       exact hpart _ _ _ _
     | none=>
       rw[ru h12 hc h0 hp hq]
       split<;>simp[rJ]
    ·rw[ud h12 hc h1 h0];simp[rJ]
 cases hb:eZ s ab with
 | true=>
   have e:dS s ab=hY s (aA ab) (numsOf s ab) 13 ab:=by simp[dS,hb]
   rw[e]
   exact⟨fun h=>absurd h (jv 13 ab),fun h=>by cases h⟩
 | false=>simp[dS,hb]
theorem K9{s:dE}{m:Model}{a b:List bp}(h:eS s m a=true)(hs:∀l∈b,l∈a):eS s m b=true:=by
 simp only[eS,ai,cd,decide_eq_true_eq] at h⊢
 exact⟨h.1,fun l hl=>h.2 l (hs l hl)⟩
theorem G7{s:dE}{a b:List bp}(h1:(dS s a).code=0)(hs:∀l∈b,l∈a):(dS s b).code≠1:=fun h2=>by
 have:=ON h2 (dS s a).model
 rw[K9 (T1 h1) hs] at this
 cases this
theorem Jg(s:dE)(ab:List bp):(dS s ab).code=0∨(dS s ab).code=1∨(dS s ab).code=2∨(dS s ab).code=3:=by
 have lD:∀(f:Nat)(l:List bp),(hY s (aA ab) (numsOf s ab) f l).code=0∨(hY s (aA ab) (numsOf s ab) f l).code=1∨(hY s (aA ab) (numsOf s ab) f l).code=2:=by
  intro f
  induction f with
  | zero=>intro l;simp[hY,rJ]
  | succ f ih=>
    intro l
    have hpart:∀(ls:List (List bp))(a b:Term)(out:List Case),(n8 (hY s (aA ab) (numsOf s ab) f) a b ls out).code=0∨(n8 (hY s (aA ab) (numsOf s ab) f) a b ls out).code=1∨(n8 (hY s (aA ab) (numsOf s ab) f) a b ls out).code=2:=by
     intro ls
     induction ls with
     | nil=>intro a b out;rw[pn];simp
     | cons x xs ih2=>
       intro a b out
       rw[nJ]
       split
       ·exact ih2 _ _ _
       ·exact ih x
    rcases aa (12<(bc l).length) with h12|h12
    ·rw[tU h12];simp[rJ]
    cases hc:kf (iZ (aA ab) (closed (aA ab) (bc l)).1) l with
    | some n=>rw[rv h12 hc];simp
    | none=>
    rcases aa ((bN (dQ (numsOf s ab) l)).code=1) with h1|h1
    ·rw[ue h12 hc h1];simp
    rcases aa ((bN (dQ (numsOf s ab) l)).code=0) with h0|h0
    ·cases hp:b6 (numsOf s ab).length (dY true (aA ab) (numsOf s ab) (closed (aA ab) (bc l)).1 l) with
     | some q=>
       rw[uj h12 hc h0 hp]
       unfold yd
       split
       ·simp
       ·exact ih _
     | none=>
     cases hq:b6 (numsOf s ab).length (dY false (aA ab) (numsOf s ab) (closed (aA ab) (bc l)).1 l) with
     | some q=>
       rw[qh h12 hc h0 hp hq]
       exact hpart _ _ _ _
     | none=>
       rw[ru h12 hc h0 hp hq]
       split<;>simp[rJ]
    ·rw[ud h12 hc h1 h0];simp[rJ]
 cases hb:eZ s ab with
 | true=>
   have e:dS s ab=hY s (aA ab) (numsOf s ab) 13 ab:=by simp[dS,hb]
   rw[e]
   have:=lD 13 ab
   omega
 | false=>simp[dS,hb]
end Go.Mod
