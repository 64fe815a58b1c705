/-
  Plain laws on rational numbers as what they are: sums, products and order of the exact ones; what a constraint tells of an assignment. No program is walked here.
-/
import Derived.Test.YtabembjmeobhoaaGreatKAEl
set_option linter.unusedVariables false
set_option linter.unusedSimpArgs false
open Bool renaming and_eq_true→ai,false_eq_true→ax,true_and→aM,not_false→iT,and_true→l6,not_eq_true'→ml
open Classical renaming em→aa
open Int renaming gcd→bK
open List renaming getElem_mem→ak,mem_append→aR,mem_cons_of_mem→bl,range→bt,getElem?_eq_some_iff→bA,mem_singleton→df,mem_append_left→dp
open Nat renaming lt_trichotomy→eM
namespace Go.Mod
open Go.Eng
set_option maxRecDepth 100000
abbrev QQ:=_root_.Rat
def qv(r:Rat):QQ:=(r.N:QQ) / (r.D:QQ)
theorem Tr{d:Int}(h:0<d):(0:QQ)<(d:QQ):=Rat.intCast_pos.2 h
theorem Uf{d:Int}(h:0<d):(d:QQ)≠0:=fun e=>by
 have:=Tr h
 rw[e] at this
 exact absurd this (by decide)
theorem YW{n d m e:Int}(hd:0<d)(he:0<e):(n:QQ) / d=(m:QQ) / e↔n*e=m*d:=by
 have h1:=Uf hd
 have h2:=Uf he
 constructor
 ·intro h
  have h3:(n:QQ) / d*d*e=(m:QQ) / e*e*d:=by rw[h];grind
  rw[Rat.div_mul_cancel h1,Rat.div_mul_cancel h2] at h3
  rw[←Rat.intCast_mul,←Rat.intCast_mul] at h3
  exact Rat.intCast_inj.1 h3
 ·intro h
  have h3:(n:QQ)*e=(m:QQ)*d:=by rw[←Rat.intCast_mul,←Rat.intCast_mul,h]
  have h4:(n:QQ) / d*d=n:=Rat.div_mul_cancel h1
  have h5:(m:QQ) / e*e=m:=Rat.div_mul_cancel h2
  generalize (n:QQ) / d=x at *
  generalize (m:QQ) / e=y at *
  have h6:x*(d*e)=y*(d*e):=by grind
  have h7:x*(d*e) / (d*e)=y*(d*e) / (d*e):=by rw[h6]
  have h8:(d:QQ)*e≠0:=fun e0=>by
   have:=Rat.mul_pos (Tr hd) (Tr he)
   rw[e0] at this
   exact absurd this (by decide)
  rwa [Rat.mul_div_cancel h8,Rat.mul_div_cancel h8] at h7
theorem abc{n d m e:Int}(hd:0<d)(he:0<e):(n:QQ) / d<(m:QQ) / e↔n*e<m*d:=by
 have h1:=Tr hd
 have h2:=Tr he
 have h4:(n:QQ) / d*d=n:=Rat.div_mul_cancel (Uf hd)
 have h5:(m:QQ) / e*e=m:=Rat.div_mul_cancel (Uf he)
 have h6:(0:QQ)<d*e:=Rat.mul_pos h1 h2
 rw[←Rat.intCast_lt_intCast,Rat.intCast_mul,Rat.intCast_mul]
 generalize (n:QQ) / d=x at *
 generalize (m:QQ) / e=y at *
 rw[←Rat.mul_lt_mul_right h6,←h4,←h5]
 have e1:x*d*e=x*(d*e):=by grind
 have e2:y*e*d=y*(d*e):=by grind
 rw[e1,e2]
theorem Zt{a:Rat}(h:bV a=true):0<a.D:=by have:=(n8.1 h).2.1.1;omega
theorem Ru{a b:Rat}(ha:bV a=true)(hb:bV b=true):cQ a b=true↔qv a<qv b:=by
 rw[fv ha hb,qv,qv,abc (Zt ha) (Zt hb)]
theorem U3{a b:Rat}(ha:bV a=true)(hb:bV b=true)(h:qv a=qv b):a=b:=by
 rcases aa (a=b) with e|e
 ·exact e
 ·rcases yu ha hb e with h1|h1
  ·have:=(Ru ha hb).1 h1
   rw[h] at this
   exact absurd this (Rat.lt_irrefl)
  ·have:=(Ru hb ha).1 h1
   rw[h] at this
   exact absurd this (Rat.lt_irrefl)
theorem wA(n:Int):qv (whole n)=n:=by
 have:(n:QQ) / ((1:Int):QQ)*((1:Int):QQ)=n:=Rat.div_mul_cancel (Uf (by omega))
 rw[Rat.intCast_one,Rat.mul_one] at this
 exact this
theorem I9{n d:Int}(hd:0<d)(h:(ic n d).2=true):qv (ic n d).1=(n:QQ) / d:=by
 rw[zj (by omega)] at h⊢
 split at h
 ·rename_i eK
  rw[if_pos eK]
  have hg:0<(bK n d:Int):=by
   have:=Int.gcd_pos_of_ne_zero_right n (b:=d) (by omega)
   omega
  have h1:n.tdiv (bK n d)*(bK n d:Int)=n:=Int.tdiv_mul_cancel (Int.gcd_dvd_left ..)
  have h2:d.tdiv (bK n d)*(bK n d:Int)=d:=Int.tdiv_mul_cancel (Int.gcd_dvd_right ..)
  have hD:=Zt eK
  simp only at hD
  refine(YW hD hd).2 ?_
  generalize n.tdiv (bK n d)=x at *
  generalize d.tdiv (bK n d)=y at *
  rw[←h1,←h2]
  grind
 ·cases h
theorem ZZ{n d m e:Int}(hd:0<d)(he:0<e):(n:QQ) / d+(m:QQ) / e=((n*e+m*d:Int):QQ) / ((d*e:Int):QQ):=by
 have h4:(n:QQ) / d*d=n:=Rat.div_mul_cancel (Uf hd)
 have h5:(m:QQ) / e*e=m:=Rat.div_mul_cancel (Uf he)
 have h8:=Uf (Int.mul_pos hd he)
 have h9:((n:QQ) / d+(m:QQ) / e)*((d*e:Int):QQ)=((n*e+m*d:Int):QQ):=by
  rw[Rat.intCast_mul,Rat.intCast_add,Rat.intCast_mul,Rat.intCast_mul]
  generalize (n:QQ) / d=x at *
  generalize (m:QQ) / e=y at *
  rw[←h4,←h5]
  grind
 rw[←h9,Rat.mul_div_cancel h8]
theorem aag{n d m e:Int}(hd:0<d)(he:0<e):(n:QQ) / d*((m:QQ) / e)=((n*m:Int):QQ) / ((d*e:Int):QQ):=by
 have h4:(n:QQ) / d*d=n:=Rat.div_mul_cancel (Uf hd)
 have h5:(m:QQ) / e*e=m:=Rat.div_mul_cancel (Uf he)
 have h8:=Uf (Int.mul_pos hd he)
 have h9:((n:QQ) / d*((m:QQ) / e))*((d*e:Int):QQ)=((n*m:Int):QQ):=by
  rw[Rat.intCast_mul,Rat.intCast_mul]
  generalize (n:QQ) / d=x at *
  generalize (m:QQ) / e=y at *
  rw[←h4,←h5]
  grind
 rw[←h9,Rat.mul_div_cancel h8]
theorem Y7{a b:Rat}(h:(cY a b).2=true):qv (cY a b).1=qv a+qv b∧bV (cY a b).1=true:=by
 refine⟨?_,IW h⟩
 unfold cY at h⊢
 split at h
 ·rename_i eK
  simp only[ai] at eK
  have hA:=Zt eK.1
  have hB:=Zt eK.2
  rw[if_pos (by simp[eK]),I9 (Int.mul_pos hA hB) h,qv,qv,ZZ hA hB]
 ·cases h
theorem Zc{a b:Rat}(h:(cq a b).2=true):qv (cq a b).1=qv a*qv b∧bV (cq a b).1=true:=by
 unfold cq at h⊢
 split at h
 ·rename_i eK
  simp only[ai] at eK
  have hA:=Zt eK.1
  have hB:=Zt eK.2
  rw[if_pos (by simp[eK])]
  refine⟨?_,I4 h⟩
  rw[I9 (Int.mul_pos hA hB) h,qv,qv,aag hA hB]
 ·cases h
theorem Ry{s x:Rat}{c:Int}(h:(plus s c x).2=true):qv (plus s c x).1=qv s+c*qv x∧bV (plus s c x).1=true:=by
 unfold plus at h⊢
 split at h
 ·rename_i hm
  rw[if_pos hm]
  have h1:=Zc hm
  have h2:=Y7 h
  rw[h1.1,wA] at h2
  exact h2
 ·cases h
def dot:List Int→List Rat→QQ
 | c::cs,x::xs=>c*qv x+dot cs xs
 | _,_=>0
theorem Fx:∀{cs:List Int}{xs:List Rat}{s r:Rat},k8 cs xs s=some r→bV s=true→qv r=qv s+dot cs xs∧bV r=true
 | [],xs,s,r,h,hs=>by
   rw[G8] at h
   cases h
   have e:dot [] xs=0:=by unfold dot;rfl
   exact⟨by rw[e];grind,hs⟩
 | c::cs,[],s,r,h,hs=>by
   have e0:k8 (c::cs) [] s=some s:=by unfold k8;rfl
   rw[e0] at h
   cases h
   have e:dot (c::cs) []=0:=by unfold dot;rfl
   exact⟨by rw[e];grind,hs⟩
 | c::cs,x::xs,s,r,h,hs=>by
   rw[k8] at h
   split at h
   ·rename_i hp
    have h1:=Ry hp
    have h2:=Fx h h1.2
    exact⟨by rw[h2.1,h1.1,dot];grind,h2.2⟩
   ·cases h
theorem QY{a:Rat}{b:Int}{st:Bool}(ha:bV a=true)(hb:-1000000000≤b∧b≤1000000000):below a b st=true↔(if st then qv a<b else qv a≤b):=by
 have hw:=qy hb.1 hb.2
 unfold below
 cases st with
 | true=>simp only[if_true];rw[Ru ha hw,wA]
 | false=>
   simp only[ax,if_false,ml]
   have:=Ru hw ha
   rw[wA] at this
   rw[←Bool.not_eq_true,this,Rat.not_lt]
def fx(l:ia)(aB:List Rat):Prop:=if l.strict then dot l.aG aB<l.bound else dot l.aG aB≤l.bound
theorem Mq{l:ia}(h:dE l=true):-1000000≤l.bound∧l.bound≤1000000:=by
 simp only[dE,m9,within,ai,decide_eq_true_eq] at h
 exact h.2.2
theorem MV{l:ia}{aB:List Rat}(h:mh l aB=some true):fx l aB:=by
 unfold mh at h
 split at h
 ·rename_i eK
  simp only[ai] at eK
  cases hs:k8 l.aG aB (whole 0) with
  | none=>rw[hs] at h;cases h
  | some r=>
    rw[hs] at h
    have h1:=Fx hs (qy (by omega) (by omega))
    have hb:=Mq eK.1
    have h2:=(QY (st:=l.strict) h1.2 ⟨by omega,by omega⟩).1 (Option.some.inj h)
    rw[h1.1,wA] at h2
    unfold fx
    have e:((0:Int):QQ)+dot l.aG aB=dot l.aG aB:=by grind
    rwa [e] at h2
 ·cases h
theorem Ki{list:List ia}{aB:List Rat}(h:kQ list aB=true):∀l∈list,fx l aB:=fun l hl=>by
 simp only[kQ,ai,List.all_eq_true,decide_eq_true_eq] at h
 exact MV (h.2.2 l hl)
theorem ER{α:Type}{nums:List Term}{f:Nat→α}:∀{eqs:List iA}{out:List Nat},out.length=nums.length→(∀i k,i<nums.length→k<nums.length→cl out i=cl out k→f i=f k) →
 (∀e∈eqs,e.A∈nums→e.B∈nums→f (aH nums e.A)=f (aH nums e.B))→∀i k,i<nums.length→k<nums.length→cl (eqs.foldl (eU nums) out) i=cl (eqs.foldl (eU nums) out) k→f i=f k
 | [],_,_,h,_,i,k,hi,hk,he=>h i k hi hk he
 | e::es,out,hl,h,hE,i,k,hi,hk,he=>by
   rw[List.foldl_cons] at he
   refine ER (eqs:=es) (out:=eU nums out e) (by unfold eU;split<;>simp[hl]) ?_ (fun x hx=>hE x (bl _ hx)) i k hi hk he
   intro i k hi hk hik
   unfold eU at hik
   rcases aa (bM nums e.A<0∨bM nums e.B<0) with hn|hn
   ·rw[if_pos hn] at hik
    exact h i k hi hk hik
   ·rw[if_neg hn] at hik
    have hA:e.A∈nums:=cK.1 (by omega)
    have hB:e.B∈nums:=cK.1 (by omega)
    have pA:=bx hA
    have pB:=bx hB
    have hab:=hE e (by simp) hA hB
    rw[vo (by omega),vo (by omega)] at hik
    rcases aa (cl out i=cl out (aH nums e.A)) with h1|h1
    ·rcases aa (cl out k=cl out (aH nums e.A)) with h2|h2
     ·exact h i k hi hk (h1.trans h2.symm)
     ·rw[if_pos h1,if_neg h2] at hik
      rw[h i _ hi pA h1,hab,h _ k pB hk hik]
    ·rcases aa (cl out k=cl out (aH nums e.A)) with h2|h2
     ·rw[if_neg h1,if_pos h2] at hik
      rw[h i _ hi pB hik,←hab,h _ k pA hk h2.symm]
     ·rw[if_neg h1,if_neg h2] at hik
      exact h i k hi hk hik
theorem L2{α:Type}{nums:List Term}{ab:List bp}{f:Nat→α}(hE:∀e∈bc ab,e.A∈nums→e.B∈nums→f (aH nums e.A)=f (aH nums e.B)){i k:Nat}(hi:i<nums.length)(hk:k<nums.length)(h:linked nums ab i k=true):f i=f k:=by
 refine ER (out:=bt nums.length) (by simp) (fun i k hi hk he=>?_) hE i k hi hk (of_decide_eq_true h)
 rw[gR (by simpa using hi),gR (by simpa using hk)] at he
 simp only[List.getElem_range] at he
 rw[he]
theorem H9:∀(cs:List Int)(aB:List Rat)(i:Nat)(v:Int),cs.length=aB.length→i<cs.length→dot (mz cs i v) aB=dot cs aB+v*qv (aB.getD i (whole 0))
 | [],_,i,_,_,h=>by simp at h
 | c::cs,[],_,_,h,_=>by simp at h
 | c::cs,x::xs,0,v,h,hi=>by
   simp only[mz,Int.natCast_zero,if_true,dot,List.getD_cons_zero,Rat.intCast_add]
   grind
 | c::cs,x::xs,i+1,v,h,hi=>by
   have h1:¬ ((i+1:Nat):Int)=0:=by omega
   have h2:((i+1:Nat):Int)-1=i:=by omega
   simp only[mz,if_neg h1,h2,dot,List.getD_cons_succ]
   rw[H9 cs xs i v (by simpa using h) (by simpa using hi)]
   grind
def tQ(nums:List Term)(aB:List Rat):List Term→List Int→QQ
 | t::ts,n::ns=>n*qv (aB.getD (aH nums t) (whole 0))+tQ nums aB ts ns
 | _,_=>0
theorem Ji{nums:List Term}{aB:List Rat}:∀(ts:List Term)(ns cs:List Int),(∀t∈ts,t∈nums)→nums.length≤cs.length→cs.length=aB.length→dot (jQ nums ts ns cs) aB=dot cs aB+tQ nums aB ts ns
 | [],ns,cs,_,_,_=>by
   have e1:jQ nums [] ns cs=cs:=by unfold jQ;rfl
   have e2:tQ nums aB [] ns=0:=by unfold tQ;rfl
   rw[e1,e2];grind
 | t::ts,[],cs,_,_,_=>by
   have e1:jQ nums (t::ts) [] cs=cs:=by unfold jQ;rfl
   have e2:tQ nums aB (t::ts) []=0:=by unfold tQ;rfl
   rw[e1,e2];grind
 | t::ts,n::ns,cs,ht,hn,hc=>by
   have hm:=ht t (by simp)
   have hp:=bx hm
   rw[jQ,b6 hm,Ji ts ns _ (fun x hx=>ht x (by simp[hx])) (by rw[xH];exact hn) (by rw[xH];exact hc),H9 cs aB _ n hc (by omega),tQ]
   grind
theorem NQ:∀(aB:List Rat),dot [0,0,0,0] aB=0
 | []=>by unfold dot;rfl
 | [a]=>by simp only[dot];grind
 | [a,b]=>by simp only[dot];grind
 | [a,b,c]=>by simp only[dot];grind
 | a::b::c::d::r=>by simp only[dot];grind
theorem qg{nums ts:List Term}{ns:List Int}{b:Int}{st:Bool}{aB:List Rat}(h4:nums.length≤4)(hv:aB.length=4)(ht:∀t∈ts,t∈nums):fx (lJ nums ts ns b st) aB↔(if st then tQ nums aB ts ns<b else tQ nums aB ts ns≤b):=by
 unfold fx lJ
 simp only
 rw[Ji ts ns [0,0,0,0] ht (by simpa using h4) (by simp[hv]),NQ]
 have e:(0:QQ)+tQ nums aB ts ns=tQ nums aB ts ns:=by grind
 rw[e]
def Ag(aB:List Rat)(i:Nat):QQ:=qv (aB.getD i (whole 0))
theorem Gq{nums:List Term}{aB:List Rat}{a b:Term}{m n:Int}:tQ nums aB [a,b] [m,n]=m*Ag aB (aH nums a)+n*Ag aB (aH nums b):=by
 have e:tQ nums aB [] []=0:=by unfold tQ;rfl
 rw[tQ,tQ,e,Ag,Ag]
 grind
theorem Xj{list:List ia}(h:(bR list).code=0):kQ list (bR list).aB=true:=by
 have hend:∀s0 s1 s2 s3 rows,(ie list s0 s1 s2 s3 rows).code=0→kQ list (ie list s0 s1 s2 s3 rows).aB=true:=fun s0 s1 s2 s3 rows h=>by
  unfold ie at h⊢
  split at h
  ·split at h<;>simp at h
  ·split at h
   ·simp at h
   ·split at h
    ·rename_i hf
     rw[if_pos hf]
     exact hf
    ·simp at h
 unfold bR at h⊢
 split at h
 ·rename_i hs
  rw[if_pos hs]
  split at h
  ·simp at h
  ·split at h
   ·simp at h
   ·split at h
    ·simp at h
    ·split at h
     ·simp at h
     ·exact hend _ _ _ _ _ h
 ·simp at h
theorem A3{ae:List Term}:∀(f:Nat)(c:List Nat)(af:List Step),c.sum≤f→c.length=ae.length→fw ae (j9 ae f c af).1=none
 | f,c,af,hs,hc=>by
   cases hn:fw ae c with
   | none=>rw[uX hn];exact hn
   | some p=>
     obtain⟨f',rfl,h1,h2⟩:=u7 (af:=af) hs hc hn
     rw[h1]
     exact A3 f' _ _ h2 (by rw[fC];exact hc)
theorem Lx(ae:List Term)(eqs:List iA):fw ae (closed ae eqs).1=none:=
 A3 _ _ _ (Nat.le_refl _) (by rw[given,sX,List.length_range])
theorem yv{ae:List Term}{c:List Nat}(h:fw ae c=none){i k:Nat}(h1:i<k)(h2:k<ae.length)(ha:alike ae c i k=true):cl c i=cl c k:=by
 have:=List.find?_eq_none.1 h (i,k) (yj.2 ⟨h1,Nat.zero_le _,h2⟩)
 simp only[mR,ha,l6,decide_eq_true_eq,ne_eq,Decidable.not_not] at this
 exact this
structure qn(s:dG)(ab:List bp):Prop where
 vO:hY s ab
 sorted:∀t∈aE ab,(fj s t).isSome=true
 IU:(bR (dY (numsOf s ab) ab)).code=0
 same:b9 (numsOf s ab).length (dZ true (aE ab) (numsOf s ab) (closed (aE ab) (bc ab)).1 ab)=none
 told:b9 (numsOf s ab).length (dZ false (aE ab) (numsOf s ab) (closed (aE ab) (bc ab)).1 ab)=none
section
variable{s:dG}{ab:List bp}(h:qn s ab)
abbrev xJ(s:dG)(ab:List bp):List Rat:=(bR (dY (numsOf s ab) ab)).aB
abbrev DM(ab:List bp):List Nat:=(closed (aE ab) (bc ab)).1
include h
theorem qn.v4:(xJ s ab).length=4:=(A8 h.IU).1
theorem qn.ZP:∀x∈xJ s ab,bV x=true:=(A8 h.IU).2
theorem qn.holds:∀l∈ab,∀x∈iW (numsOf s ab) l,fx x (xJ s ab):=fun l hl x hx=>
 Ki (Xj h.IU) x (List.mem_flatMap.2 ⟨l,hl,hx⟩)
theorem qn.aaB{e:iA}(he:e∈bc ab)(hA:e.A∈numsOf s ab)(hB:e.B∈numsOf s ab):Ag (xJ s ab) (aH (numsOf s ab) e.A)=Ag (xJ s ab) (aH (numsOf s ab) e.B):=by
 obtain⟨l,hl,h1,h2,rfl⟩:=Cg.1 he
 have hll:iW (numsOf s ab) l=[lJ (numsOf s ab) [l.atom.A,l.atom.B] [1,-1] 0 false,lJ (numsOf s ab) [l.atom.A,l.atom.B] [-1,1] 0 false]:=by
  unfold iW
  rw[if_neg (by omega),if_pos ⟨h2,cK.2 hA⟩]
 have ht:∀t∈[l.atom.A,l.atom.B],t∈numsOf s ab:=by simp[hA,hB]
 have k1:=(qg h.vO.n4 h.v4 ht).1 (h.holds l hl (lJ (numsOf s ab) [l.atom.A,l.atom.B] [1,-1] 0 false) (by rw[hll];simp))
 have k2:=(qg h.vO.n4 h.v4 ht).1 (h.holds l hl (lJ (numsOf s ab) [l.atom.A,l.atom.B] [-1,1] 0 false) (by rw[hll];simp))
 rw[Gq] at k1 k2
 simp only[ax,if_false] at k1 k2
 show Ag (xJ s ab) (aH (numsOf s ab) l.atom.A)=Ag (xJ s ab) (aH (numsOf s ab) l.atom.B)
 generalize Ag (xJ s ab) (aH (numsOf s ab) l.atom.A)=x at *
 generalize Ag (xJ s ab) (aH (numsOf s ab) l.atom.B)=y at *
 grind
theorem qn.VO{i k:Nat}(hi:i<(numsOf s ab).length)(hk:k<(numsOf s ab).length)(hs:eQ (numsOf s ab) ab i k=true):Ag (xJ s ab) i<Ag (xJ s ab) k:=by
 obtain⟨l,hl,h1⟩:=List.any_eq_true.1 hs
 simp only[ai,ml,decide_eq_true_eq] at h1
 rw[getD_at hi,getD_at hk] at h1
 have hmi:=ak hi
 have hmk:=ak hk
 have pi:aH (numsOf s ab) (numsOf s ab)[i]=i:=by rw[aH,jI h.vO.rO hi];rfl
 have pk:aH (numsOf s ab) (numsOf s ab)[k]=k:=by rw[aH,jI h.vO.rO hk];rfl
 have hkd:l.atom.kind=2:=by rw[h1.2];unfold dz;split<;>rfl
 have hll:iW (numsOf s ab) l=[lJ (numsOf s ab) l.atom.nums l.atom.times l.atom.bound l.atom.strict]:=by
  unfold iW
  rw[if_pos hkd,h1.1]
  rfl
 have k0:=h.holds l hl _ (by rw[hll];exact df.2 rfl)
 rw[h1.2] at k0
 generalize (numsOf s ab)[i]=a at *
 generalize (numsOf s ab)[k]=b at *
 unfold dz at k0
 split at k0
 ·have k1:=(qg h.vO.n4 h.v4 (by simp[hmi,hmk])).1 k0
  rw[Gq,pi,pk] at k1
  simp only[if_true] at k1
  generalize Ag (xJ s ab) i=x at *
  generalize Ag (xJ s ab) k=y at *
  grind
 ·have k1:=(qg h.vO.n4 h.v4 (by simp[hmi,hmk])).1 k0
  rw[Gq,pi,pk] at k1
  simp only[if_true] at k1
  generalize Ag (xJ s ab) i=x at *
  generalize Ag (xJ s ab) k=y at *
  grind
theorem qn.RB{i k:Nat}(hi:i<(numsOf s ab).length)(hk:k<(numsOf s ab).length)(hl:linked (numsOf s ab) ab i k=true):Ag (xJ s ab) i=Ag (xJ s ab) k:=
 L2 (f:=Ag (xJ s ab)) (fun _ he hA hB=>h.aaB he hA hB) hi hk hl
theorem qn.VT{i k:Nat}(hi:i<(numsOf s ab).length)(hk:k<(numsOf s ab).length)(hl:linked (numsOf s ab) ab i k=true):cl (DM ab) (aH (aE ab) ((numsOf s ab).getD i aL))=cl (DM ab) (aH (aE ab) ((numsOf s ab).getD k aL)):=by
 refine L2 (f:=fun i=>cl (DM ab) (aH (aE ab) ((numsOf s ab).getD i aL))) (fun e he hA hB=>?_) hi hk hl
 have:=OU (ae:=aE ab) h.vO.zT he
 rw[getD_at (bx hA),getD_at (bx hB)]
 have g:∀{t:Term}(ht:t∈numsOf s ab),(numsOf s ab)[aH (numsOf s ab) t]'(bx ht)=t:=fun ht=>(bA.1 (iL ht)).2
 rw[g hA,g hB]
 exact of_decide_eq_true this
theorem qn.Xa{i k:Nat}(hi:i<(numsOf s ab).length)(hk:k<(numsOf s ab).length)(hs:cl (DM ab) (aH (aE ab) ((numsOf s ab).getD i aL))=cl (DM ab) (aH (aE ab) ((numsOf s ab).getD k aL))):Ag (xJ s ab) i=Ag (xJ s ab) k:=by
 have key:∀i k,i<k→k<(numsOf s ab).length→cl (DM ab) (aH (aE ab) ((numsOf s ab).getD i aL))=cl (DM ab) (aH (aE ab) ((numsOf s ab).getD k aL))→Ag (xJ s ab) i=Ag (xJ s ab) k:=fun i k h1 h2 hs=>by
  have h3:=xe h.same h1 h2
  have hsm:fY (aE ab) (DM ab) ((numsOf s ab).getD i aL) ((numsOf s ab).getD k aL)=true:=decide_eq_true hs
  simp only[dZ,hsm,if_true,l6,Bool.not_eq_false'] at h3
  exact h.RB (by omega) h2 h3
 rcases eM i k with h1|rfl|h1
 ·exact key i k h1 hk hs
 ·rfl
 ·exact(key k i h1 hi hs.symm).symm
theorem qn.XZ{i k:Nat}(hi:i<(numsOf s ab).length)(hk:k<(numsOf s ab).length)(hs:Ag (xJ s ab) i=Ag (xJ s ab) k):cl (DM ab) (aH (aE ab) ((numsOf s ab).getD i aL))=cl (DM ab) (aH (aE ab) ((numsOf s ab).getD k aL)):=by
 have key:∀i k,i<k→k<(numsOf s ab).length→Ag (xJ s ab) i=Ag (xJ s ab) k→cl (DM ab) (aH (aE ab) ((numsOf s ab).getD i aL))=cl (DM ab) (aH (aE ab) ((numsOf s ab).getD k aL)):=fun i k h1 h2 hs=>by
  have h3:=xe h.told h1 h2
  simp only[dZ,ax,if_false] at h3
  cases hl:linked (numsOf s ab) ab i k with
  | true=>exact h.VT (by omega) h2 hl
  | false=>
    rw[hl] at h3
    simp only[iT,aM] at h3
    cases ha:eQ (numsOf s ab) ab i k with
    | true=>
      have:=h.VO (by omega) h2 ha
      rw[hs] at this
      exact absurd this Rat.lt_irrefl
    | false=>
      rw[ha] at h3
      simp only[iT,aM,Bool.not_eq_false'] at h3
      have:=h.VO h2 (by omega) h3
      rw[hs] at this
      exact absurd this Rat.lt_irrefl
 rcases eM i k with h1|rfl|h1
 ·exact key i k h1 hk hs
 ·rfl
 ·exact(key k i h1 hi hs.symm).symm
end
theorem zE{s:dG}:∀{ks:List Term}{as:List Int},gy s ks as=true→as.length=ks.length→∀(j:Nat)(h1:j<ks.length)(h2:j<as.length),fI s ks[j]=some as[j]
 | [],_,_,_,j,h1,_=>by simp at h1
 | k::ks,[],_,h,_,_,_=>by simp at h
 | k::ks,a::as,h,hl,0,_,_=>by
   simp only[gy,ai,decide_eq_true_eq] at h
   exact h.1
 | k::ks,a::as,h,hl,j+1,h1,h2=>by
   simp only[gy,ai,decide_eq_true_eq] at h
   simpa using zE h.2 (by simpa using hl) j (by simpa using h1) (by simpa using h2)
theorem O5{s:dG}{t:Term}{r:Int}(h:fI s t=some r):∃x,symbol s t.name=some x∧x.args.length=t.kids.length∧gy s t.kids x.args=true∧x.sort=r:=by
 obtain⟨n,ks⟩:=t
 rw[fI] at h
 split at h
 ·cases h
 ·rename_i x hx
  split at h
  ·rename_i hc
   simp only[ai,decide_eq_true_eq] at hc
   exact⟨x,hx,hc.1,hc.2,Option.some.inj h⟩
  ·cases h
theorem tz{s:dG}{t:Term}(h:(fj s t).isSome=true):fj s t=fI s t:=by
 unfold fj at h⊢
 split
 ·rfl
 ·rename_i hc
  rw[if_neg hc] at h
  cases h
theorem Pt{rs:List Row}{t r:Row}(h:r∈putRow rs t):r∈rs∨r=t:=by
 rw[rM] at h
 split at h
 ·exact .inl h
 ·rcases aR.1 h with h|h
  ·exact .inl (List.mem_of_mem_take h)
  ·rcases List.mem_cons.1 h with h|h
   ·exact .inr h
   ·exact .inl (List.mem_of_mem_drop h)
theorem ME{rs:List Row}{t r:Row}(h:r∈rs):r∈putRow rs t:=by
 rw[rM]
 split
 ·exact h
 ·rw[←List.take_append_drop (cut rs t) rs] at h
  rcases aR.1 h with h|h
  ·exact dp _ h
  ·exact List.mem_append_right _ (bl _ h)
theorem PA{rs:List Row}{t:Row}(hr:∀r∈rs,dD r.args=true)(ht:dD t.args=true):∃r∈putRow rs t,r.name=t.name∧r.args=t.args:=by
 rw[rM]
 split
 ·rename_i hf
  unfold found at hf
  split at hf
  ·rename_i r hx
   have hm:=List.mem_of_getElem? hx
   exact⟨r,hm,(ql (hr r hm) ht).1 (of_decide_eq_true hf)⟩
  ·cases hf
 ·exact⟨t,by simp,rfl,rfl⟩
theorem L4{g:Term→Row}(hg:∀t,dD (g t).args=true):∀(ts:List Term)(rs:List Row)(done:List Term),(∀r∈rs,∃u∈done,r=g u)→(∀t∈done,∃r∈rs,r.name=(g t).name∧r.args=(g t).args) →
 (∀r∈ts.foldl (fun rows t=>putRow rows (g t)) rs,∃u∈done++ts,r=g u)∧(∀t∈done++ts,∃r∈ts.foldl (fun rows t=>putRow rows (g t)) rs,r.name=(g t).name∧r.args=(g t).args)
 | [],rs,done,h1,h2=>by simpa using ⟨h1,h2⟩
 | t::ts,rs,done,h1,h2=>by
   have eK:∀r∈rs,dD r.args=true:=fun r hr=>by
    obtain⟨u,_,rfl⟩:=h1 r hr
    exact hg u
   have:=L4 hg ts (putRow rs (g t)) (done++[t]) (fun r hr=>by
    rcases Pt hr with hr|hr
    ·obtain⟨u,hu,e⟩:=h1 r hr
     exact⟨u,dp _ hu,e⟩
    ·exact⟨t,by simp,hr⟩) (fun u hu=>by
    rcases aR.1 hu with hu|hu
    ·obtain⟨r,hr,e⟩:=h2 u hu
     exact⟨r,ME hr,e⟩
    ·rw[df.1 hu]
     exact PA eK (hg t))
   rw[List.append_assoc] at this
   exact this
theorem S3{rows:List Row}{n:nh}{as:List Rat}{v:Rat}(h1:∃r∈rows,r.name=n∧r.args=as)(h2:∀r∈rows,r.name=n→r.args=as→r.val=v):lookup rows n as=v:=by
 unfold lookup
 obtain⟨r,hr,e⟩:=h1
 cases hf:rows.find? (fun r=>decide (r.name=n∧r.args=as)) with
 | none=>
   have:=List.find?_eq_none.1 hf r hr
   exact absurd (decide_eq_true e) this
 | some x=>
   have hx:=List.find?_some hf
   have:=of_decide_eq_true hx
   exact h2 x (List.mem_of_find?_eq_some hf) this.1 this.2
section
variable{s:dG}{ab:List bp}(h:qn s ab)
abbrev Qn(s:dG)(ab:List bp)(t:Term):Rat:=iM (aE ab) (numsOf s ab) (DM ab) (xJ s ab) t
include h
theorem qn.sort{t:Term}(ht:t∈aE ab):∃x,symbol s t.name=some x∧x.args.length=t.kids.length∧gy s t.kids x.args=true∧fj s t=some x.sort:=by
 have h1:=h.sorted t ht
 have h2:=tz h1
 obtain⟨r,hr⟩:=Option.isSome_iff_exists.1 h1
 obtain⟨x,x1,x2,x3,x4⟩:=O5 (h2▸hr)
 exact⟨x,x1,x2,x3,by rw[hr,x4]⟩
theorem qn.D7{t:Term}(ht:t∈aE ab):t∈numsOf s ab↔fj s t=some 1:=by
 have _:=h.IU
 rw[←zJ,List.mem_filter]
 simp[ht,dk]
theorem qn.Up{t u:Term}(ht:t∈aE ab)(hu:u∈aE ab)(hn:t.name=u.name):t∈numsOf s ab↔u∈numsOf s ab:=by
 obtain⟨x,x1,_,_,x4⟩:=h.sort ht
 obtain⟨y,y1,_,_,y4⟩:=h.sort hu
 rw[hn,y1] at x1
 obtain rfl:=Option.some.inj x1
 rw[h.D7 ht,h.D7 hu,x4,y4]
theorem qn.Tk{t u:Term}(ht:t∈aE ab)(hu:u∈aE ab)(hn:t.name=u.name)(j:Nat)(h1:j<t.kids.length)(h2:j<u.kids.length):t.kids[j]∈numsOf s ab↔u.kids[j]∈numsOf s ab:=by
 obtain⟨x,x1,x2,x3,_⟩:=h.sort ht
 obtain⟨y,y1,y2,y3,_⟩:=h.sort hu
 rw[hn,y1] at x1
 obtain rfl:=Option.some.inj x1
 have kt:=h.vO.kids t ht _ (ak h1)
 have ku:=h.vO.kids u hu _ (ak h2)
 have st:=zE x3 x2 j h1 (by omega)
 have su:=zE y3 y2 j h2 (by omega)
 rw[h.D7 kt,h.D7 ku,tz (h.sorted _ kt),tz (h.sorted _ ku),st,su]
theorem qn.Ll{t:Term}(ht:t∈numsOf s ab):(numsOf s ab).getD (aH (numsOf s ab) t) aL=t:=by
 have _:=h.IU
 rw[getD_at (bx ht)]
 exact(bA.1 (iL ht)).2
theorem qn.AP{t:Term}(ht:t∈numsOf s ab):Qn s ab t=(xJ s ab).getD (aH (numsOf s ab) t) (whole 0):=by
 have _:=h.IU
 have:=cK.2 ht
 rw[Qn,iM,if_neg (by omega)]
theorem qn.A9{t:Term}(ht:t∉numsOf s ab):Qn s ab t=whole (cl (DM ab) (aH (aE ab) t)):=by
 have _:=h.IU
 have:bM (numsOf s ab) t<0:=by
  rcases Int.lt_or_le (bM (numsOf s ab) t) 0 with h1|h1
  ·exact h1
  ·exact absurd (cK.1 h1) ht
 rw[Qn,iM,if_pos this]
theorem qn.QZ(i:Nat):bV ((xJ s ab).getD i (whole 0))=true:=by
 rcases Nat.lt_or_ge i (xJ s ab).length with h1|h1
 ·rw[getD_at h1]
  exact h.ZP _ (ak h1)
 ·rw[List.getD_eq_getElem?_getD,List.getElem?_eq_none h1]
  exact qy (by omega) (by omega)
theorem qn.one{t u:Term}(ht:t∈aE ab)(hu:u∈aE ab)(hk:t∈numsOf s ab↔u∈numsOf s ab)(hv:Qn s ab t=Qn s ab u):cl (DM ab) (aH (aE ab) t)=cl (DM ab) (aH (aE ab) u):=by
 rcases aa (t∈numsOf s ab) with hn|hn
 ·have hn':=hk.1 hn
  rw[h.AP hn,h.AP hn'] at hv
  have:=h.XZ (bx hn) (bx hn') (by rw[Ag,Ag,hv])
  rwa [h.Ll hn,h.Ll hn'] at this
 ·have hn':u∉numsOf s ab:=fun x=>hn (hk.2 x)
  rw[h.A9 hn,h.A9 hn'] at hv
  have:=congrArg Rat.N hv
  simp only[Rr] at this
  omega
theorem qn.val{t u:Term}(hk:t∈numsOf s ab↔u∈numsOf s ab)(hc:cl (DM ab) (aH (aE ab) t)=cl (DM ab) (aH (aE ab) u)):Qn s ab t=Qn s ab u:=by
 rcases aa (t∈numsOf s ab) with hn|hn
 ·have hn':=hk.1 hn
  have:=h.Xa (bx hn) (bx hn') (by rwa [h.Ll hn,h.Ll hn'])
  rw[h.AP hn,h.AP hn']
  exact U3 (h.QZ _) (h.QZ _) this
 ·have hn':u∉numsOf s ab:=fun x=>hn (hk.2 x)
  rw[h.A9 hn,h.A9 hn',hc]
omit h in
theorem BN{ae:List Term}{c:List Nat}:∀{xs ys:List Term},xs.length=ys.length→(∀(j:Nat)(h1:j<xs.length)(h2:j<ys.length),cl c (aH ae xs[j])=cl c (aH ae ys[j]))→lA ae c xs ys=true
 | [],[],_,_=>rfl
 | [],_::_,h,_=>by simp at h
 | _::_,[],h,_=>by simp at h
 | x::xs,y::ys,hl,hx=>by
   rw[lA,ai]
   exact⟨decide_eq_true (hx 0 (by simp) (by simp)),BN (by simpa using hl) fun j h1 h2=>hx (j+1) (by simpa using h1) (by simpa using h2)⟩
theorem qn.aa9{t u:Term}(ht:t∈aE ab)(hu:u∈aE ab)(hn:t.name=u.name)(hk:t.kids.map (Qn s ab)=u.kids.map (Qn s ab)):Qn s ab t=Qn s ab u:=by
 have hl:t.kids.length=u.kids.length:=by simpa using congrArg List.length hk
 have hks:∀(j:Nat)(h1:j<t.kids.length)(h2:j<u.kids.length),cl (DM ab) (aH (aE ab) t.kids[j])=cl (DM ab) (aH (aE ab) u.kids[j]):=fun j h1 h2=>by
  refine h.one (h.vO.kids t ht _ (ak h1)) (h.vO.kids u hu _ (ak h2)) (h.Tk ht hu hn j h1 h2) ?_
  have:=congrArg (fun l:List Rat=>l[j]?) hk
  simpa[h1,h2] using this
 refine h.val (h.Up ht hu hn) ?_
 rcases aa (t.kids=[]) with h0|h0
 ·have h0':u.kids=[]:=List.eq_nil_of_length_eq_zero (by rw[←hl,h0];rfl)
  have e:t=u:=by
   obtain⟨a,b⟩:=t
   obtain⟨c,d⟩:=u
   simp only[Term.name,Term.kids] at hn h0 h0'
   rw[hn,h0,h0']
  rw[e]
 ·have hpos:0<t.kids.length:=List.length_pos_iff.2 h0
  have pt:=bx ht
  have pu:=bx hu
  have gt:(aE ab).getD (aH (aE ab) t) aL=t:=by rw[getD_at pt];exact(bA.1 (iL ht)).2
  have gu:(aE ab).getD (aH (aE ab) u) aL=u:=by rw[getD_at pu];exact(bA.1 (iL hu)).2
  have hd:=Lx (aE ab) (bc ab)
  rcases eM (aH (aE ab) t) (aH (aE ab) u) with h1|h1|h1
  ·refine yv hd h1 pu ?_
   rw[alike,gt,gu,ai,ai]
   exact⟨decide_eq_true hpos,decide_eq_true hn,BN hl hks⟩
  ·rw[h1]
  ·refine(yv hd h1 pt ?_).symm
   rw[alike,gt,gu,ai,ai]
   exact⟨decide_eq_true (by omega),decide_eq_true hn.symm,BN hl.symm fun j a b=>(hks j b a).symm⟩
end
section
variable{s:dG}{ab:List bp}(h:qn s ab)
include h
theorem qn.bound:∀x∈DM ab,x≤1000:=h.vO.Lp
theorem qn.value:∀(t:Term),t∈aE ab→value ⟨gY (aE ab) (numsOf s ab) (DM ab) (xJ s ab)⟩ t=Qn s ab t:=
 Term.ind fun n ks ih ht=>by
  have hks:values ⟨gY (aE ab) (numsOf s ab) (DM ab) (xJ s ab)⟩ ks=ks.map (Qn s ab):=by
   rw[mL]
   exact List.map_congr_left fun k hk=>ih k hk (h.vO.kids _ ht k hk)
  rw[Go.Mod.value,hks]
  obtain⟨i1,i2⟩:=L4 (g:=iB (aE ab) (numsOf s ab) (DM ab) (xJ s ab)) (fun t=>rE h.bound h.ZP) (aE ab) [] [] (by simp) (by simp)
  simp only[List.nil_append] at i1 i2
  refine S3 ?_ ?_
  ·obtain⟨r,hr,e1,e2⟩:=i2 _ ht
   exact⟨r,hr,e1,e2⟩
  ·intro r hr e1 e2
   obtain⟨u,hu,rfl⟩:=i1 r hr
   exact h.aa9 hu ht e1 e2
end
def Ends(s:dG)(ab:List bp)(m:Model):Prop:=∃more,aE (ab++more)=aE ab∧numsOf s (ab++more)=numsOf s ab∧qn s (ab++more) ∧
 m=⟨gY (aE (ab++more)) (numsOf s (ab++more)) (DM (ab++more)) (xJ s (ab++more))⟩
def aaQ(s:dG)(m:Model)(nums:List Term):List Rat:=(bt 4).map fun i=>if i<nums.length then value m (nums.getD i aL) else whole 0
end Go.Mod
