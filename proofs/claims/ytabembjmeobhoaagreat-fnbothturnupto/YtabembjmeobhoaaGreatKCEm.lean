/-
  Plain laws on rational numbers as what they are: sums, products and order of the exact ones; what a constraint tells of an assignment. No program is walked here.
-/
import Derived.Test.YtabembjmeobhoaaGreatKCEl
set_option linter.unusedVariables false
set_option linter.unusedSimpArgs false
open Bool renaming and_eq_true→ai,false_eq_true→aw,true_and→aE,not_false→jc,and_true→mh,not_eq_true'→mC
open Classical renaming em→aa
open Int renaming gcd→bM
open List renaming getElem_mem→ak,mem_append→aP,mem_cons_of_mem→bh,range→bu,getElem?_eq_some_iff→bB,mem_singleton→du,mem_append_left→dy
open Nat renaming lt_trichotomy→eW
namespace Go.Mod
open Go.Eng
set_option maxRecDepth 100000
abbrev QQ:=_root_.Rat
def qv(r:Rat):QQ:=(r.N:QQ) / (r.D:QQ)
theorem Xy{d:Int}(h:0<d):(0:QQ)<(d:QQ):=Rat.intCast_pos.2 h
theorem Wn{d:Int}(h:0<d):(d:QQ)≠0:=fun e=>by
 have:=Xy h
 rw[e] at this
 exact absurd this (by decide)
theorem aa4{n d m e:Int}(hd:0<d)(he:0<e):(n:QQ) / d=(m:QQ) / e↔n*e=m*d:=by
 have h1:=Wn hd
 have h2:=Wn he
 constructor
 ·intro h
  have h3:(n:QQ) / d*d*e=(m:QQ) / e*e*d:=by rw[h];grind
  rw[Rat.div_mul_cancel h1,Rat.div_mul_cancel h2] at h3
  rw[←Rat.intCast_mul,←Rat.intCast_mul] at h3
  exact Rat.intCast_inj.1 h3
 ·intro h
  have h3:(n:QQ)*e=(m:QQ)*d:=by rw[←Rat.intCast_mul,←Rat.intCast_mul,h]
  have h4:(n:QQ) / d*d=n:=Rat.div_mul_cancel h1
  have h5:(m:QQ) / e*e=m:=Rat.div_mul_cancel h2
  generalize (n:QQ) / d=x at *
  generalize (m:QQ) / e=y at *
  have h6:x*(d*e)=y*(d*e):=by grind
  have h7:x*(d*e) / (d*e)=y*(d*e) / (d*e):=by rw[h6]
  have h8:(d:QQ)*e≠0:=fun e0=>by
   have:=Rat.mul_pos (Xy hd) (Xy he)
   rw[e0] at this
   exact absurd this (by decide)
  rwa [Rat.mul_div_cancel h8,Rat.mul_div_cancel h8] at h7
theorem ab9{n d m e:Int}(hd:0<d)(he:0<e):(n:QQ) / d<(m:QQ) / e↔n*e<m*d:=by
 have h1:=Xy hd
 have h2:=Xy he
 have h4:(n:QQ) / d*d=n:=Rat.div_mul_cancel (Wn hd)
 have h5:(m:QQ) / e*e=m:=Rat.div_mul_cancel (Wn he)
 have h6:(0:QQ)<d*e:=Rat.mul_pos h1 h2
 rw[←Rat.intCast_lt_intCast,Rat.intCast_mul,Rat.intCast_mul]
 generalize (n:QQ) / d=x at *
 generalize (m:QQ) / e=y at *
 rw[←Rat.mul_lt_mul_right h6,←h4,←h5]
 have e1:x*d*e=x*(d*e):=by grind
 have e2:y*e*d=y*(d*e):=by grind
 rw[e1,e2]
theorem okD{a:Rat}(h:bW a=true):0<a.D:=by have:=(om.1 h).2.1.1;omega
theorem RE{a b:Rat}(ha:bW a=true)(hb:bW b=true):c8 a b=true↔qv a<qv b:=by
 rw[fJ ha hb,qv,qv,ab9 (okD ha) (okD hb)]
theorem Wa{a b:Rat}(ha:bW a=true)(hb:bW b=true)(h:qv a=qv b):a=b:=by
 rcases aa (a=b) with e|e
 ·exact e
 ·rcases ze ha hb e with h1|h1
  ·have:=(RE ha hb).1 h1
   rw[h] at this
   exact absurd this (Rat.lt_irrefl)
  ·have:=(RE hb ha).1 h1
   rw[h] at this
   exact absurd this (Rat.lt_irrefl)
theorem xD(n:Int):qv (whole n)=n:=by
 have:(n:QQ) / ((1:Int):QQ)*((1:Int):QQ)=n:=Rat.div_mul_cancel (Wn (by omega))
 rw[Rat.intCast_one,Rat.mul_one] at this
 exact this
theorem Jm{n d:Int}(hd:0<d)(h:(iw n d).2=true):qv (iw n d).1=(n:QQ) / d:=by
 rw[AB (by omega)] at h⊢
 split at h
 ·rename_i e7
  rw[if_pos e7]
  have hg:0<(bM n d:Int):=by
   have:=Int.gcd_pos_of_ne_zero_right n (b:=d) (by omega)
   omega
  have h1:n.tdiv (bM n d)*(bM n d:Int)=n:=Int.tdiv_mul_cancel (Int.gcd_dvd_left ..)
  have h2:d.tdiv (bM n d)*(bM n d:Int)=d:=Int.tdiv_mul_cancel (Int.gcd_dvd_right ..)
  have hD:=okD e7
  simp only at hD
  refine(aa4 hD hd).2 ?_
  generalize n.tdiv (bM n d)=x at *
  generalize d.tdiv (bM n d)=y at *
  rw[←h1,←h2]
  grind
 ·cases h
theorem abo{n d m e:Int}(hd:0<d)(he:0<e):(n:QQ) / d+(m:QQ) / e=((n*e+m*d:Int):QQ) / ((d*e:Int):QQ):=by
 have h4:(n:QQ) / d*d=n:=Rat.div_mul_cancel (Wn hd)
 have h5:(m:QQ) / e*e=m:=Rat.div_mul_cancel (Wn he)
 have h8:=Wn (Int.mul_pos hd he)
 have h9:((n:QQ) / d+(m:QQ) / e)*((d*e:Int):QQ)=((n*e+m*d:Int):QQ):=by
  rw[Rat.intCast_mul,Rat.intCast_add,Rat.intCast_mul,Rat.intCast_mul]
  generalize (n:QQ) / d=x at *
  generalize (m:QQ) / e=y at *
  rw[←h4,←h5]
  grind
 rw[←h9,Rat.mul_div_cancel h8]
theorem abC{n d m e:Int}(hd:0<d)(he:0<e):(n:QQ) / d*((m:QQ) / e)=((n*m:Int):QQ) / ((d*e:Int):QQ):=by
 have h4:(n:QQ) / d*d=n:=Rat.div_mul_cancel (Wn hd)
 have h5:(m:QQ) / e*e=m:=Rat.div_mul_cancel (Wn he)
 have h8:=Wn (Int.mul_pos hd he)
 have h9:((n:QQ) / d*((m:QQ) / e))*((d*e:Int):QQ)=((n*m:Int):QQ):=by
  rw[Rat.intCast_mul,Rat.intCast_mul]
  generalize (n:QQ) / d=x at *
  generalize (m:QQ) / e=y at *
  rw[←h4,←h5]
  grind
 rw[←h9,Rat.mul_div_cancel h8]
theorem aak{a b:Rat}(h:(df a b).2=true):qv (df a b).1=qv a+qv b∧bW (df a b).1=true:=by
 refine⟨?_,Jx h⟩
 unfold df at h⊢
 split at h
 ·rename_i e7
  simp only[ai] at e7
  have hA:=okD e7.1
  have hB:=okD e7.2
  rw[if_pos (by simp[e7]),Jm (Int.mul_pos hA hB) h,qv,qv,abo hA hB]
 ·cases h
theorem aaN{a b:Rat}(h:(cE a b).2=true):qv (cE a b).1=qv a*qv b∧bW (cE a b).1=true:=by
 unfold cE at h⊢
 split at h
 ·rename_i e7
  simp only[ai] at e7
  have hA:=okD e7.1
  have hB:=okD e7.2
  rw[if_pos (by simp[e7])]
  refine⟨?_,Ko h⟩
  rw[Jm (Int.mul_pos hA hB) h,qv,qv,abC hA hB]
 ·cases h
theorem Sr{s x:Rat}{c:Int}(h:(plus s c x).2=true):qv (plus s c x).1=qv s+c*qv x∧bW (plus s c x).1=true:=by
 unfold plus at h⊢
 split at h
 ·rename_i hm
  rw[if_pos hm]
  have h1:=aaN hm
  have h2:=aak h
  rw[h1.1,xD] at h2
  exact h2
 ·cases h
def dot:List Int→List Rat→QQ
 | c::cs,x::xs=>c*qv x+dot cs xs
 | _,_=>0
theorem FN:∀{cs:List Int}{xs:List Rat}{s r:Rat},ll cs xs s=some r→bW s=true→qv r=qv s+dot cs xs∧bW r=true
 | [],xs,s,r,h,hs=>by
   rw[GW] at h
   cases h
   have e:dot [] xs=0:=by unfold dot;rfl
   exact⟨by rw[e];grind,hs⟩
 | c::cs,[],s,r,h,hs=>by
   have e0:ll (c::cs) [] s=some s:=by unfold ll;rfl
   rw[e0] at h
   cases h
   have e:dot (c::cs) []=0:=by unfold dot;rfl
   exact⟨by rw[e];grind,hs⟩
 | c::cs,x::xs,s,r,h,hs=>by
   rw[ll] at h
   split at h
   ·rename_i hp
    have h1:=Sr hp
    have h2:=FN h h1.2
    exact⟨by rw[h2.1,h1.1,dot];grind,h2.2⟩
   ·cases h
theorem Sl{a:Rat}{b:Int}{st:Bool}(ha:bW a=true)(hb:-1000000000≤b∧b≤1000000000):below a b st=true↔(if st then qv a<b else qv a≤b):=by
 have hw:=qy hb.1 hb.2
 unfold below
 cases st with
 | true=>simp only[if_true];rw[RE ha hw,xD]
 | false=>
   simp only[aw,if_false,mC]
   have:=RE hw ha
   rw[xD] at this
   rw[←Bool.not_eq_true,this,Rat.not_lt]
def fH(l:ir)(aB:List Rat):Prop:=if l.strict then dot l.aG aB<l.bound else dot l.aG aB≤l.bound
theorem Nw{l:ir}(h:dU l=true):-1000000≤l.bound∧l.bound≤1000000:=by
 simp only[dU,nv,within,ai,decide_eq_true_eq] at h
 exact h.2.2
theorem M4{l:ir}{aB:List Rat}(h:mv l aB=some true):fH l aB:=by
 unfold mv at h
 split at h
 ·rename_i e7
  simp only[ai] at e7
  cases hs:ll l.aG aB (whole 0) with
  | none=>rw[hs] at h;cases h
  | some r=>
    rw[hs] at h
    have h1:=FN hs (qy (by omega) (by omega))
    have hb:=Nw e7.1
    have h2:=(Sl (st:=l.strict) h1.2 ⟨by omega,by omega⟩).1 (Option.some.inj h)
    rw[h1.1,xD] at h2
    unfold fH
    have e:((0:Int):QQ)+dot l.aG aB=dot l.aG aB:=by grind
    rwa [e] at h2
 ·cases h
theorem Mo{list:List ir}{aB:List Rat}(h:lj list aB=true):∀l∈list,fH l aB:=fun l hl=>by
 simp only[lj,ai,List.all_eq_true,decide_eq_true_eq] at h
 exact M4 (h.2.2 l hl)
theorem Gk{α:Type}{nums:List Term}{f:Nat→α}:∀{eqs:List fF}{out:List Nat},out.length=nums.length→(∀i k,i<nums.length→k<nums.length→cl out i=cl out k→f i=f k) →
 (∀e∈eqs,e.A∈nums→e.B∈nums→f (aH nums e.A)=f (aH nums e.B))→∀i k,i<nums.length→k<nums.length→cl (eqs.foldl (fa nums) out) i=cl (eqs.foldl (fa nums) out) k→f i=f k
 | [],_,_,h,_,i,k,hi,hk,he=>h i k hi hk he
 | e::es,out,hl,h,hE,i,k,hi,hk,he=>by
   rw[List.foldl_cons] at he
   refine Gk (eqs:=es) (out:=fa nums out e) (by unfold fa;split<;>simp[hl]) ?_ (fun x hx=>hE x (bh _ hx)) i k hi hk he
   intro i k hi hk hik
   unfold fa at hik
   rcases aa (bL nums e.A<0∨bL nums e.B<0) with hn|hn
   ·rw[if_pos hn] at hik
    exact h i k hi hk hik
   ·rw[if_neg hn] at hik
    have hA:e.A∈nums:=cR.1 (by omega)
    have hB:e.B∈nums:=cR.1 (by omega)
    have pA:=bz hA
    have pB:=bz hB
    have hab:=hE e (by simp) hA hB
    rw[wc (by omega),wc (by omega)] at hik
    rcases aa (cl out i=cl out (aH nums e.A)) with h1|h1
    ·rcases aa (cl out k=cl out (aH nums e.A)) with h2|h2
     ·exact h i k hi hk (h1.trans h2.symm)
     ·rw[if_pos h1,if_neg h2] at hik
      rw[h i _ hi pA h1,hab,h _ k pB hk hik]
    ·rcases aa (cl out k=cl out (aH nums e.A)) with h2|h2
     ·rw[if_neg h1,if_pos h2] at hik
      rw[h i _ hi pB hik,←hab,h _ k pA hk h2.symm]
     ·rw[if_neg h1,if_neg h2] at hik
      exact h i k hi hk hik
theorem MY{α:Type}{nums:List Term}{ab:List bl}{f:Nat→α}(hE:∀e∈a7 ab,e.A∈nums→e.B∈nums→f (aH nums e.A)=f (aH nums e.B)){i k:Nat}(hi:i<nums.length)(hk:k<nums.length)(h:linked nums ab i k=true):f i=f k:=by
 refine Gk (out:=bu nums.length) (by simp) (fun i k hi hk he=>?_) hE i k hi hk (of_decide_eq_true h)
 rw[gQ (by simpa using hi),gQ (by simpa using hk)] at he
 simp only[List.getElem_range] at he
 rw[he]
theorem KD:∀(cs:List Int)(aB:List Rat)(i:Nat)(v:Int),cs.length=aB.length→i<cs.length→dot (mR cs i v) aB=dot cs aB+v*qv (aB.getD i (whole 0))
 | [],_,i,_,_,h=>by simp at h
 | c::cs,[],_,_,h,_=>by simp at h
 | c::cs,x::xs,0,v,h,hi=>by
   simp only[mR,Int.natCast_zero,if_true,dot,List.getD_cons_zero,Rat.intCast_add]
   grind
 | c::cs,x::xs,i+1,v,h,hi=>by
   have h1:¬ ((i+1:Nat):Int)=0:=by omega
   have h2:((i+1:Nat):Int)-1=i:=by omega
   simp only[mR,if_neg h1,h2,dot,List.getD_cons_succ]
   rw[KD cs xs i v (by simpa using h) (by simpa using hi)]
   grind
def uY(nums:List Term)(aB:List Rat):List Term→List Int→QQ
 | t::ts,n::ns=>n*qv (aB.getD (aH nums t) (whole 0))+uY nums aB ts ns
 | _,_=>0
theorem J5{nums:List Term}{aB:List Rat}:∀(ts:List Term)(ns cs:List Int),(∀t∈ts,t∈nums)→nums.length≤cs.length→cs.length=aB.length→dot (jY nums ts ns cs) aB=dot cs aB+uY nums aB ts ns
 | [],ns,cs,_,_,_=>by
   have e1:jY nums [] ns cs=cs:=by unfold jY;rfl
   have e2:uY nums aB [] ns=0:=by unfold uY;rfl
   rw[e1,e2];grind
 | t::ts,[],cs,_,_,_=>by
   have e1:jY nums (t::ts) [] cs=cs:=by unfold jY;rfl
   have e2:uY nums aB (t::ts) []=0:=by unfold uY;rfl
   rw[e1,e2];grind
 | t::ts,n::ns,cs,ht,hn,hc=>by
   have hm:=ht t (by simp)
   have hp:=bz hm
   rw[jY,b9 hm,J5 ts ns _ (fun x hx=>ht x (by simp[hx])) (by rw[yq];exact hn) (by rw[yq];exact hc),KD cs aB _ n hc (by omega),uY]
   grind
theorem OW:∀(aB:List Rat),dot [0,0,0,0] aB=0
 | []=>by unfold dot;rfl
 | [a]=>by simp only[dot];grind
 | [a,b]=>by simp only[dot];grind
 | [a,b,c]=>by simp only[dot];grind
 | a::b::c::d::r=>by simp only[dot];grind
theorem qN{nums ts:List Term}{ns:List Int}{b:Int}{st:Bool}{aB:List Rat}(h4:nums.length≤4)(hv:aB.length=4)(ht:∀t∈ts,t∈nums):fH (lW nums ts ns b st) aB↔(if st then uY nums aB ts ns<b else uY nums aB ts ns≤b):=by
 unfold fH lW
 simp only
 rw[J5 ts ns [0,0,0,0] ht (by simpa using h4) (by simp[hv]),OW]
 have e:(0:QQ)+uY nums aB ts ns=uY nums aB ts ns:=by grind
 rw[e]
def Bn(aB:List Rat)(i:Nat):QQ:=qv (aB.getD i (whole 0))
theorem GC{nums:List Term}{aB:List Rat}{a b:Term}{m n:Int}:uY nums aB [a,b] [m,n]=m*Bn aB (aH nums a)+n*Bn aB (aH nums b):=by
 have e:uY nums aB [] []=0:=by unfold uY;rfl
 rw[uY,uY,e,Bn,Bn]
 grind
theorem Y3{list:List ir}(h:(bO list).code=0):lj list (bO list).aB=true:=by
 have hend:∀s0 s1 s2 s3 rows,(iy list s0 s1 s2 s3 rows).code=0→lj list (iy list s0 s1 s2 s3 rows).aB=true:=fun s0 s1 s2 s3 rows h=>by
  unfold iy at h⊢
  split at h
  ·split at h<;>simp at h
  ·split at h
   ·simp at h
   ·split at h
    ·rename_i hf
     rw[if_pos hf]
     exact hf
    ·simp at h
 unfold bO at h⊢
 split at h
 ·rename_i hs
  rw[if_pos hs]
  split at h
  ·simp at h
  ·split at h
   ·simp at h
   ·split at h
    ·simp at h
    ·split at h
     ·simp at h
     ·exact hend _ _ _ _ _ h
 ·simp at h
theorem Bv{ae:List Term}:∀(f:Nat)(c:List Nat)(aj:List Step),c.sum≤f→c.length=ae.length→fK ae (kf ae f c aj).1=none
 | f,c,aj,hs,hc=>by
   cases hn:fK ae c with
   | none=>rw[wi hn];exact hn
   | some p=>
     obtain⟨f',rfl,h1,h2⟩:=vr (aj:=aj) hs hc hn
     rw[h1]
     exact Bv f' _ _ h2 (by rw[fP];exact hc)
theorem Ot(ae:List Term)(eqs:List fF):fK ae (closed ae eqs).1=none:=
 Bv _ _ _ (Nat.le_refl _) (by rw[given,s6,List.length_range])
theorem zM{ae:List Term}{c:List Nat}(h:fK ae c=none){i k:Nat}(h1:i<k)(h2:k<ae.length)(ha:alike ae c i k=true):cl c i=cl c k:=by
 have:=List.find?_eq_none.1 h (i,k) (zr.2 ⟨h1,Nat.zero_le _,h2⟩)
 simp only[m8,ha,mh,decide_eq_true_eq,ne_eq,Decidable.not_not] at this
 exact this
structure qF(s:dI)(ab:List bl):Prop where
 xN:iq s ab
 sorted:∀t∈az ab,(fy s t).isSome=true
 Jn:(bO (dX (numsOf s ab) ab)).code=0
 same:b7 (numsOf s ab).length (eK true (az ab) (numsOf s ab) (closed (az ab) (a7 ab)).1 ab)=none
 told:b7 (numsOf s ab).length (eK false (az ab) (numsOf s ab) (closed (az ab) (a7 ab)).1 ab)=none
section
variable{s:dI}{ab:List bl}(h:qF s ab)
abbrev yP(s:dI)(ab:List bl):List Rat:=(bO (dX (numsOf s ab) ab)).aB
abbrev E4(ab:List bl):List Nat:=(closed (az ab) (a7 ab)).1
include h
theorem qF.v4:(yP s ab).length=4:=(Cv h.Jn).1
theorem qF.vok:∀x∈yP s ab,bW x=true:=(Cv h.Jn).2
theorem qF.holds:∀l∈ab,∀x∈jf (numsOf s ab) l,fH x (yP s ab):=fun l hl x hx=>
 Mo (Y3 h.Jn) x (List.mem_flatMap.2 ⟨l,hl,hx⟩)
theorem qF.abJ{e:fF}(he:e∈a7 ab)(hA:e.A∈numsOf s ab)(hB:e.B∈numsOf s ab):Bn (yP s ab) (aH (numsOf s ab) e.A)=Bn (yP s ab) (aH (numsOf s ab) e.B):=by
 obtain⟨l,hl,h1,h2,rfl⟩:=CV.1 he
 have hll:jf (numsOf s ab) l=[lW (numsOf s ab) [l.atom.A,l.atom.B] [1,-1] 0 false,lW (numsOf s ab) [l.atom.A,l.atom.B] [-1,1] 0 false]:=by
  unfold jf
  rw[if_neg (by omega),if_pos ⟨h2,cR.2 hA⟩]
 have ht:∀t∈[l.atom.A,l.atom.B],t∈numsOf s ab:=by simp[hA,hB]
 have k1:=(qN h.xN.n4 h.v4 ht).1 (h.holds l hl (lW (numsOf s ab) [l.atom.A,l.atom.B] [1,-1] 0 false) (by rw[hll];simp))
 have k2:=(qN h.xN.n4 h.v4 ht).1 (h.holds l hl (lW (numsOf s ab) [l.atom.A,l.atom.B] [-1,1] 0 false) (by rw[hll];simp))
 rw[GC] at k1 k2
 simp only[aw,if_false] at k1 k2
 show Bn (yP s ab) (aH (numsOf s ab) l.atom.A)=Bn (yP s ab) (aH (numsOf s ab) l.atom.B)
 generalize Bn (yP s ab) (aH (numsOf s ab) l.atom.A)=x at *
 generalize Bn (yP s ab) (aH (numsOf s ab) l.atom.B)=y at *
 grind
theorem qF.UD{i k:Nat}(hi:i<(numsOf s ab).length)(hk:k<(numsOf s ab).length)(hs:eX (numsOf s ab) ab i k=true):Bn (yP s ab) i<Bn (yP s ab) k:=by
 obtain⟨l,hl,h1⟩:=List.any_eq_true.1 hs
 simp only[ai,mC,decide_eq_true_eq] at h1
 rw[getD_at hi,getD_at hk] at h1
 have hmi:=ak hi
 have hmk:=ak hk
 have pi:aH (numsOf s ab) (numsOf s ab)[i]=i:=by rw[aH,jK h.xN.so hi];rfl
 have pk:aH (numsOf s ab) (numsOf s ab)[k]=k:=by rw[aH,jK h.xN.so hk];rfl
 have hkd:l.atom.kind=2:=by rw[h1.2];unfold dL;split<;>rfl
 have hll:jf (numsOf s ab) l=[lW (numsOf s ab) l.atom.nums l.atom.times l.atom.bound l.atom.strict]:=by
  unfold jf
  rw[if_pos hkd,h1.1]
  rfl
 have k0:=h.holds l hl _ (by rw[hll];exact du.2 rfl)
 rw[h1.2] at k0
 generalize (numsOf s ab)[i]=a at *
 generalize (numsOf s ab)[k]=b at *
 unfold dL at k0
 split at k0
 ·have k1:=(qN h.xN.n4 h.v4 (by simp[hmi,hmk])).1 k0
  rw[GC,pi,pk] at k1
  simp only[if_true] at k1
  generalize Bn (yP s ab) i=x at *
  generalize Bn (yP s ab) k=y at *
  grind
 ·have k1:=(qN h.xN.n4 h.v4 (by simp[hmi,hmk])).1 k0
  rw[GC,pi,pk] at k1
  simp only[if_true] at k1
  generalize Bn (yP s ab) i=x at *
  generalize Bn (yP s ab) k=y at *
  grind
theorem qF.TF{i k:Nat}(hi:i<(numsOf s ab).length)(hk:k<(numsOf s ab).length)(hl:linked (numsOf s ab) ab i k=true):Bn (yP s ab) i=Bn (yP s ab) k:=
 MY (f:=Bn (yP s ab)) (fun _ he hA hB=>h.abJ he hA hB) hi hk hl
theorem qF.WG{i k:Nat}(hi:i<(numsOf s ab).length)(hk:k<(numsOf s ab).length)(hl:linked (numsOf s ab) ab i k=true):cl (E4 ab) (aH (az ab) ((numsOf s ab).getD i aL))=cl (E4 ab) (aH (az ab) ((numsOf s ab).getD k aL)):=by
 refine MY (f:=fun i=>cl (E4 ab) (aH (az ab) ((numsOf s ab).getD i aL))) (fun e he hA hB=>?_) hi hk hl
 have:=Q3 (ae:=az ab) h.xN.Bm he
 rw[getD_at (bz hA),getD_at (bz hB)]
 have g:∀{t:Term}(ht:t∈numsOf s ab),(numsOf s ab)[aH (numsOf s ab) t]'(bz ht)=t:=fun ht=>(bB.1 (iZ ht)).2
 rw[g hA,g hB]
 exact of_decide_eq_true this
theorem qF.Yi{i k:Nat}(hi:i<(numsOf s ab).length)(hk:k<(numsOf s ab).length)(hs:cl (E4 ab) (aH (az ab) ((numsOf s ab).getD i aL))=cl (E4 ab) (aH (az ab) ((numsOf s ab).getD k aL))):Bn (yP s ab) i=Bn (yP s ab) k:=by
 have key:∀i k,i<k→k<(numsOf s ab).length→cl (E4 ab) (aH (az ab) ((numsOf s ab).getD i aL))=cl (E4 ab) (aH (az ab) ((numsOf s ab).getD k aL))→Bn (yP s ab) i=Bn (yP s ab) k:=fun i k h1 h2 hs=>by
  have h3:=xQ h.same h1 h2
  have hsm:gh (az ab) (E4 ab) ((numsOf s ab).getD i aL) ((numsOf s ab).getD k aL)=true:=decide_eq_true hs
  simp only[eK,hsm,if_true,mh,Bool.not_eq_false'] at h3
  exact h.TF (by omega) h2 h3
 rcases eW i k with h1|rfl|h1
 ·exact key i k h1 hk hs
 ·rfl
 ·exact(key k i h1 hi hs.symm).symm
theorem qF.Y8{i k:Nat}(hi:i<(numsOf s ab).length)(hk:k<(numsOf s ab).length)(hs:Bn (yP s ab) i=Bn (yP s ab) k):cl (E4 ab) (aH (az ab) ((numsOf s ab).getD i aL))=cl (E4 ab) (aH (az ab) ((numsOf s ab).getD k aL)):=by
 have key:∀i k,i<k→k<(numsOf s ab).length→Bn (yP s ab) i=Bn (yP s ab) k→cl (E4 ab) (aH (az ab) ((numsOf s ab).getD i aL))=cl (E4 ab) (aH (az ab) ((numsOf s ab).getD k aL)):=fun i k h1 h2 hs=>by
  have h3:=xQ h.told h1 h2
  simp only[eK,aw,if_false] at h3
  cases hl:linked (numsOf s ab) ab i k with
  | true=>exact h.WG (by omega) h2 hl
  | false=>
    rw[hl] at h3
    simp only[jc,aE] at h3
    cases ha:eX (numsOf s ab) ab i k with
    | true=>
      have:=h.UD (by omega) h2 ha
      rw[hs] at this
      exact absurd this Rat.lt_irrefl
    | false=>
      rw[ha] at h3
      simp only[jc,aE,Bool.not_eq_false'] at h3
      have:=h.UD h2 (by omega) h3
      rw[hs] at this
      exact absurd this Rat.lt_irrefl
 rcases eW i k with h1|rfl|h1
 ·exact key i k h1 hk hs
 ·rfl
 ·exact(key k i h1 hi hs.symm).symm
end
theorem Ap{s:dI}:∀{ks:List Term}{as:List Int},gJ s ks as=true→as.length=ks.length→∀(j:Nat)(h1:j<ks.length)(h2:j<as.length),fT s ks[j]=some as[j]
 | [],_,_,_,j,h1,_=>by simp at h1
 | k::ks,[],_,h,_,_,_=>by simp at h
 | k::ks,a::as,h,hl,0,_,_=>by
   simp only[gJ,ai,decide_eq_true_eq] at h
   exact h.1
 | k::ks,a::as,h,hl,j+1,h1,h2=>by
   simp only[gJ,ai,decide_eq_true_eq] at h
   simpa using Ap h.2 (by simpa using hl) j (by simpa using h1) (by simpa using h2)
theorem QO{s:dI}{t:Term}{r:Int}(h:fT s t=some r):∃x,symbol s t.name=some x∧x.args.length=t.kids.length∧gJ s t.kids x.args=true∧x.sort=r:=by
 obtain⟨n,ks⟩:=t
 rw[fT] at h
 split at h
 ·cases h
 ·rename_i x hx
  split at h
  ·rename_i hc
   simp only[ai,decide_eq_true_eq] at hc
   exact⟨x,hx,hc.1,hc.2,Option.some.inj h⟩
  ·cases h
theorem tX{s:dI}{t:Term}(h:(fy s t).isSome=true):fy s t=fT s t:=by
 unfold fy at h⊢
 split
 ·rfl
 ·rename_i hc
  rw[if_neg hc] at h
  cases h
theorem Rm{rs:List Row}{t r:Row}(h:r∈putRow rs t):r∈rs∨r=t:=by
 rw[sr] at h
 split at h
 ·exact .inl h
 ·rcases aP.1 h with h|h
  ·exact .inl (List.mem_of_mem_take h)
  ·rcases List.mem_cons.1 h with h|h
   ·exact .inr h
   ·exact .inl (List.mem_of_mem_drop h)
theorem NO{rs:List Row}{t r:Row}(h:r∈rs):r∈putRow rs t:=by
 rw[sr]
 split
 ·exact h
 ·rw[←List.take_append_drop (cut rs t) rs] at h
  rcases aP.1 h with h|h
  ·exact dy _ h
  ·exact List.mem_append_right _ (bh _ h)
theorem QB{rs:List Row}{t:Row}(hr:∀r∈rs,dN r.args=true)(ht:dN t.args=true):∃r∈putRow rs t,r.name=t.name∧r.args=t.args:=by
 rw[sr]
 split
 ·rename_i hf
  unfold found at hf
  split at hf
  ·rename_i r hx
   have hm:=List.mem_of_getElem? hx
   exact⟨r,hm,(qM (hr r hm) ht).1 (of_decide_eq_true hf)⟩
  ·cases hf
 ·exact⟨t,by simp,rfl,rfl⟩
theorem M8{g:Term→Row}(hg:∀t,dN (g t).args=true):∀(ts:List Term)(rs:List Row)(done:List Term),(∀r∈rs,∃u∈done,r=g u)→(∀t∈done,∃r∈rs,r.name=(g t).name∧r.args=(g t).args) →
 (∀r∈ts.foldl (fun rows t=>putRow rows (g t)) rs,∃u∈done++ts,r=g u)∧(∀t∈done++ts,∃r∈ts.foldl (fun rows t=>putRow rows (g t)) rs,r.name=(g t).name∧r.args=(g t).args)
 | [],rs,done,h1,h2=>by simpa using ⟨h1,h2⟩
 | t::ts,rs,done,h1,h2=>by
   have e7:∀r∈rs,dN r.args=true:=fun r hr=>by
    obtain⟨u,_,rfl⟩:=h1 r hr
    exact hg u
   have:=M8 hg ts (putRow rs (g t)) (done++[t]) (fun r hr=>by
    rcases Rm hr with hr|hr
    ·obtain⟨u,hu,e⟩:=h1 r hr
     exact⟨u,dy _ hu,e⟩
    ·exact⟨t,by simp,hr⟩) (fun u hu=>by
    rcases aP.1 hu with hu|hu
    ·obtain⟨r,hr,e⟩:=h2 u hu
     exact⟨r,NO hr,e⟩
    ·rw[du.1 hu]
     exact QB e7 (hg t))
   rw[List.append_assoc] at this
   exact this
theorem Uf{rows:List Row}{n:nE}{as:List Rat}{v:Rat}(h1:∃r∈rows,r.name=n∧r.args=as)(h2:∀r∈rows,r.name=n→r.args=as→r.val=v):lookup rows n as=v:=by
 unfold lookup
 obtain⟨r,hr,e⟩:=h1
 cases hf:rows.find? (fun r=>decide (r.name=n∧r.args=as)) with
 | none=>
   have:=List.find?_eq_none.1 hf r hr
   exact absurd (decide_eq_true e) this
 | some x=>
   have hx:=List.find?_some hf
   have:=of_decide_eq_true hx
   exact h2 x (List.mem_of_find?_eq_some hf) this.1 this.2
section
variable{s:dI}{ab:List bl}(h:qF s ab)
abbrev R4(s:dI)(ab:List bl)(t:Term):Rat:=iT (az ab) (numsOf s ab) (E4 ab) (yP s ab) t
include h
theorem qF.sort{t:Term}(ht:t∈az ab):∃x,symbol s t.name=some x∧x.args.length=t.kids.length∧gJ s t.kids x.args=true∧fy s t=some x.sort:=by
 have h1:=h.sorted t ht
 have h2:=tX h1
 obtain⟨r,hr⟩:=Option.isSome_iff_exists.1 h1
 obtain⟨x,x1,x2,x3,x4⟩:=QO (h2▸hr)
 exact⟨x,x1,x2,x3,by rw[hr,x4]⟩
theorem qF.Fp{t:Term}(ht:t∈az ab):t∈numsOf s ab↔fy s t=some 1:=by
 have _:=h.Jn
 rw[←Ah,List.mem_filter]
 simp[ht,dx]
theorem qF.UG{t u:Term}(ht:t∈az ab)(hu:u∈az ab)(hn:t.name=u.name):t∈numsOf s ab↔u∈numsOf s ab:=by
 obtain⟨x,x1,_,_,x4⟩:=h.sort ht
 obtain⟨y,y1,_,_,y4⟩:=h.sort hu
 rw[hn,y1] at x1
 obtain rfl:=Option.some.inj x1
 rw[h.Fp ht,h.Fp hu,x4,y4]
theorem qF.WN{t u:Term}(ht:t∈az ab)(hu:u∈az ab)(hn:t.name=u.name)(j:Nat)(h1:j<t.kids.length)(h2:j<u.kids.length):t.kids[j]∈numsOf s ab↔u.kids[j]∈numsOf s ab:=by
 obtain⟨x,x1,x2,x3,_⟩:=h.sort ht
 obtain⟨y,y1,y2,y3,_⟩:=h.sort hu
 rw[hn,y1] at x1
 obtain rfl:=Option.some.inj x1
 have kt:=h.xN.kids t ht _ (ak h1)
 have ku:=h.xN.kids u hu _ (ak h2)
 have st:=Ap x3 x2 j h1 (by omega)
 have su:=Ap y3 y2 j h2 (by omega)
 rw[h.Fp kt,h.Fp ku,tX (h.sorted _ kt),tX (h.sorted _ ku),st,su]
theorem qF.LD{t:Term}(ht:t∈numsOf s ab):(numsOf s ab).getD (aH (numsOf s ab) t) aL=t:=by
 have _:=h.Jn
 rw[getD_at (bz ht)]
 exact(bB.1 (iZ ht)).2
theorem qF.A0{t:Term}(ht:t∈numsOf s ab):R4 s ab t=(yP s ab).getD (aH (numsOf s ab) t) (whole 0):=by
 have _:=h.Jn
 have:=cR.2 ht
 rw[R4,iT,if_neg (by omega)]
theorem qF.Cm{t:Term}(ht:t∉numsOf s ab):R4 s ab t=whole (cl (E4 ab) (aH (az ab) t)):=by
 have _:=h.Jn
 have:bL (numsOf s ab) t<0:=by
  rcases Int.lt_or_le (bL (numsOf s ab) t) 0 with h1|h1
  ·exact h1
  ·exact absurd (cR.1 h1) ht
 rw[R4,iT,if_pos this]
theorem qF.RF(i:Nat):bW ((yP s ab).getD i (whole 0))=true:=by
 rcases Nat.lt_or_ge i (yP s ab).length with h1|h1
 ·rw[getD_at h1]
  exact h.vok _ (ak h1)
 ·rw[List.getD_eq_getElem?_getD,List.getElem?_eq_none h1]
  exact qy (by omega) (by omega)
theorem qF.one{t u:Term}(ht:t∈az ab)(hu:u∈az ab)(hk:t∈numsOf s ab↔u∈numsOf s ab)(hv:R4 s ab t=R4 s ab u):cl (E4 ab) (aH (az ab) t)=cl (E4 ab) (aH (az ab) u):=by
 rcases aa (t∈numsOf s ab) with hn|hn
 ·have hn':=hk.1 hn
  rw[h.A0 hn,h.A0 hn'] at hv
  have:=h.Y8 (bz hn) (bz hn') (by rw[Bn,Bn,hv])
  rwa [h.LD hn,h.LD hn'] at this
 ·have hn':u∉numsOf s ab:=fun x=>hn (hk.2 x)
  rw[h.Cm hn,h.Cm hn'] at hv
  have:=congrArg Rat.N hv
  simp only[RB] at this
  omega
theorem qF.val{t u:Term}(hk:t∈numsOf s ab↔u∈numsOf s ab)(hc:cl (E4 ab) (aH (az ab) t)=cl (E4 ab) (aH (az ab) u)):R4 s ab t=R4 s ab u:=by
 rcases aa (t∈numsOf s ab) with hn|hn
 ·have hn':=hk.1 hn
  have:=h.Yi (bz hn) (bz hn') (by rwa [h.LD hn,h.LD hn'])
  rw[h.A0 hn,h.A0 hn']
  exact Wa (h.RF _) (h.RF _) this
 ·have hn':u∉numsOf s ab:=fun x=>hn (hk.2 x)
  rw[h.Cm hn,h.Cm hn',hc]
omit h in
theorem CJ{ae:List Term}{c:List Nat}:∀{xs ys:List Term},xs.length=ys.length→(∀(j:Nat)(h1:j<xs.length)(h2:j<ys.length),cl c (aH ae xs[j])=cl c (aH ae ys[j]))→lM ae c xs ys=true
 | [],[],_,_=>rfl
 | [],_::_,h,_=>by simp at h
 | _::_,[],h,_=>by simp at h
 | x::xs,y::ys,hl,hx=>by
   rw[lM,ai]
   exact⟨decide_eq_true (hx 0 (by simp) (by simp)),CJ (by simpa using hl) fun j h1 h2=>hx (j+1) (by simpa using h1) (by simpa using h2)⟩
theorem qF.aca{t u:Term}(ht:t∈az ab)(hu:u∈az ab)(hn:t.name=u.name)(hk:t.kids.map (R4 s ab)=u.kids.map (R4 s ab)):R4 s ab t=R4 s ab u:=by
 have hl:t.kids.length=u.kids.length:=by simpa using congrArg List.length hk
 have hks:∀(j:Nat)(h1:j<t.kids.length)(h2:j<u.kids.length),cl (E4 ab) (aH (az ab) t.kids[j])=cl (E4 ab) (aH (az ab) u.kids[j]):=fun j h1 h2=>by
  refine h.one (h.xN.kids t ht _ (ak h1)) (h.xN.kids u hu _ (ak h2)) (h.WN ht hu hn j h1 h2) ?_
  have:=congrArg (fun l:List Rat=>l[j]?) hk
  simpa[h1,h2] using this
 refine h.val (h.UG ht hu hn) ?_
 rcases aa (t.kids=[]) with h0|h0
 ·have h0':u.kids=[]:=List.eq_nil_of_length_eq_zero (by rw[←hl,h0];rfl)
  have e:t=u:=by
   obtain⟨a,b⟩:=t
   obtain⟨c,d⟩:=u
   simp only[Term.name,Term.kids] at hn h0 h0'
   rw[hn,h0,h0']
  rw[e]
 ·have hpos:0<t.kids.length:=List.length_pos_iff.2 h0
  have pt:=bz ht
  have pu:=bz hu
  have gt:(az ab).getD (aH (az ab) t) aL=t:=by rw[getD_at pt];exact(bB.1 (iZ ht)).2
  have gu:(az ab).getD (aH (az ab) u) aL=u:=by rw[getD_at pu];exact(bB.1 (iZ hu)).2
  have hd:=Ot (az ab) (a7 ab)
  rcases eW (aH (az ab) t) (aH (az ab) u) with h1|h1|h1
  ·refine zM hd h1 pu ?_
   rw[alike,gt,gu,ai,ai]
   exact⟨decide_eq_true hpos,decide_eq_true hn,CJ hl hks⟩
  ·rw[h1]
  ·refine(zM hd h1 pt ?_).symm
   rw[alike,gt,gu,ai,ai]
   exact⟨decide_eq_true (by omega),decide_eq_true hn.symm,CJ hl.symm fun j a b=>(hks j b a).symm⟩
end
section
variable{s:dI}{ab:List bl}(h:qF s ab)
include h
theorem qF.bound:∀x∈E4 ab,x≤1000:=h.xN.L6
theorem qF.value:∀(t:Term),t∈az ab→value ⟨ia (az ab) (numsOf s ab) (E4 ab) (yP s ab)⟩ t=R4 s ab t:=
 Term.ind fun n ks ih ht=>by
  have hks:values ⟨ia (az ab) (numsOf s ab) (E4 ab) (yP s ab)⟩ ks=ks.map (R4 s ab):=by
   rw[mV]
   exact List.map_congr_left fun k hk=>ih k hk (h.xN.kids _ ht k hk)
  rw[Go.Mod.value,hks]
  obtain⟨i1,i2⟩:=M8 (g:=iH (az ab) (numsOf s ab) (E4 ab) (yP s ab)) (fun t=>rV h.bound h.vok) (az ab) [] [] (by simp) (by simp)
  simp only[List.nil_append] at i1 i2
  refine Uf ?_ ?_
  ·obtain⟨r,hr,e1,e2⟩:=i2 _ ht
   exact⟨r,hr,e1,e2⟩
  ·intro r hr e1 e2
   obtain⟨u,hu,rfl⟩:=i1 r hr
   exact h.aca hu ht e1 e2
end
def Ends(s:dI)(ab:List bl)(m:Model):Prop:=∃more,az (ab++more)=az ab∧numsOf s (ab++more)=numsOf s ab∧qF s (ab++more) ∧
 m=⟨ia (az (ab++more)) (numsOf s (ab++more)) (E4 (ab++more)) (yP s (ab++more))⟩
def ab0(s:dI)(m:Model)(nums:List Term):List Rat:=(bu 4).map fun i=>if i<nums.length then value m (nums.getD i aL) else whole 0
end Go.Mod
