/-
  Plain laws on rational numbers as what they are: sums, products and order of the exact ones; what a constraint tells of an assignment. No program is walked here.
-/
import Derived.Test.YtabembjmeobhoaaGreatKBEl
set_option linter.unusedVariables false
set_option linter.unusedSimpArgs false
open Bool renaming and_eq_true→ai,false_eq_true→ax,true_and→aM,not_false→iU,and_true→l6,not_eq_true'→mj
open Classical renaming em→aa
open Int renaming gcd→bJ
open List renaming getElem_mem→ak,mem_append→aR,mem_cons_of_mem→bl,range→bt,getElem?_eq_some_iff→bA,mem_singleton→cW,mem_append_left→cY
open Nat renaming lt_trichotomy→eK
namespace Go.Mod
open Go.Eng
set_option maxRecDepth 100000
abbrev QQ:=_root_.Rat
def qv(r:Rat):QQ:=(r.N:QQ) / (r.D:QQ)
theorem Uf{d:Int}(h:0<d):(0:QQ)<(d:QQ):=Rat.intCast_pos.2 h
theorem Ud{d:Int}(h:0<d):(d:QQ)≠0:=fun e=>by
 have:=Uf h
 rw[e] at this
 exact absurd this (by decide)
theorem Yr{n d m e:Int}(hd:0<d)(he:0<e):(n:QQ) / d=(m:QQ) / e↔n*e=m*d:=by
 have h1:=Ud hd
 have h2:=Ud he
 constructor
 ·intro h
  have h3:(n:QQ) / d*d*e=(m:QQ) / e*e*d:=by rw[h];grind
  rw[Rat.div_mul_cancel h1,Rat.div_mul_cancel h2] at h3
  rw[←Rat.intCast_mul,←Rat.intCast_mul] at h3
  exact Rat.intCast_inj.1 h3
 ·intro h
  have h3:(n:QQ)*e=(m:QQ)*d:=by rw[←Rat.intCast_mul,←Rat.intCast_mul,h]
  have h4:(n:QQ) / d*d=n:=Rat.div_mul_cancel h1
  have h5:(m:QQ) / e*e=m:=Rat.div_mul_cancel h2
  generalize (n:QQ) / d=x at *
  generalize (m:QQ) / e=y at *
  have h6:x*(d*e)=y*(d*e):=by grind
  have h7:x*(d*e) / (d*e)=y*(d*e) / (d*e):=by rw[h6]
  have h8:(d:QQ)*e≠0:=fun e0=>by
   have:=Rat.mul_pos (Uf hd) (Uf he)
   rw[e0] at this
   exact absurd this (by decide)
  rwa [Rat.mul_div_cancel h8,Rat.mul_div_cancel h8] at h7
theorem abc{n d m e:Int}(hd:0<d)(he:0<e):(n:QQ) / d<(m:QQ) / e↔n*e<m*d:=by
 have h1:=Uf hd
 have h2:=Uf he
 have h4:(n:QQ) / d*d=n:=Rat.div_mul_cancel (Ud hd)
 have h5:(m:QQ) / e*e=m:=Rat.div_mul_cancel (Ud he)
 have h6:(0:QQ)<d*e:=Rat.mul_pos h1 h2
 rw[←Rat.intCast_lt_intCast,Rat.intCast_mul,Rat.intCast_mul]
 generalize (n:QQ) / d=x at *
 generalize (m:QQ) / e=y at *
 rw[←Rat.mul_lt_mul_right h6,←h4,←h5]
 have e1:x*d*e=x*(d*e):=by grind
 have e2:y*e*d=y*(d*e):=by grind
 rw[e1,e2]
theorem ZH{a:Rat}(h:bV a=true):0<a.D:=by have:=(oc.1 h).2.1.1;omega
theorem Q3{a b:Rat}(ha:bV a=true)(hb:bV b=true):cS a b=true↔qv a<qv b:=by
 rw[fx ha hb,qv,qv,abc (ZH ha) (ZH hb)]
theorem TC{a b:Rat}(ha:bV a=true)(hb:bV b=true)(h:qv a=qv b):a=b:=by
 rcases aa (a=b) with e|e
 ·exact e
 ·rcases yQ ha hb e with h1|h1
  ·have:=(Q3 ha hb).1 h1
   rw[h] at this
   exact absurd this (Rat.lt_irrefl)
  ·have:=(Q3 hb ha).1 h1
   rw[h] at this
   exact absurd this (Rat.lt_irrefl)
theorem xp(n:Int):qv (whole n)=n:=by
 have:(n:QQ) / ((1:Int):QQ)*((1:Int):QQ)=n:=Rat.div_mul_cancel (Ud (by omega))
 rw[Rat.intCast_one,Rat.mul_one] at this
 exact this
theorem Jc{n d:Int}(hd:0<d)(h:(ig n d).2=true):qv (ig n d).1=(n:QQ) / d:=by
 rw[zz (by omega)] at h⊢
 split at h
 ·rename_i eP
  rw[if_pos eP]
  have hg:0<(bJ n d:Int):=by
   have:=Int.gcd_pos_of_ne_zero_right n (b:=d) (by omega)
   omega
  have h1:n.tdiv (bJ n d)*(bJ n d:Int)=n:=Int.tdiv_mul_cancel (Int.gcd_dvd_left ..)
  have h2:d.tdiv (bJ n d)*(bJ n d:Int)=d:=Int.tdiv_mul_cancel (Int.gcd_dvd_right ..)
  have hD:=ZH eP
  simp only at hD
  refine(Yr hD hd).2 ?_
  generalize n.tdiv (bJ n d)=x at *
  generalize d.tdiv (bJ n d)=y at *
  rw[←h1,←h2]
  grind
 ·cases h
theorem aaf{n d m e:Int}(hd:0<d)(he:0<e):(n:QQ) / d+(m:QQ) / e=((n*e+m*d:Int):QQ) / ((d*e:Int):QQ):=by
 have h4:(n:QQ) / d*d=n:=Rat.div_mul_cancel (Ud hd)
 have h5:(m:QQ) / e*e=m:=Rat.div_mul_cancel (Ud he)
 have h8:=Ud (Int.mul_pos hd he)
 have h9:((n:QQ) / d+(m:QQ) / e)*((d*e:Int):QQ)=((n*e+m*d:Int):QQ):=by
  rw[Rat.intCast_mul,Rat.intCast_add,Rat.intCast_mul,Rat.intCast_mul]
  generalize (n:QQ) / d=x at *
  generalize (m:QQ) / e=y at *
  rw[←h4,←h5]
  grind
 rw[←h9,Rat.mul_div_cancel h8]
theorem ZV{n d m e:Int}(hd:0<d)(he:0<e):(n:QQ) / d*((m:QQ) / e)=((n*m:Int):QQ) / ((d*e:Int):QQ):=by
 have h4:(n:QQ) / d*d=n:=Rat.div_mul_cancel (Ud hd)
 have h5:(m:QQ) / e*e=m:=Rat.div_mul_cancel (Ud he)
 have h8:=Ud (Int.mul_pos hd he)
 have h9:((n:QQ) / d*((m:QQ) / e))*((d*e:Int):QQ)=((n*m:Int):QQ):=by
  rw[Rat.intCast_mul,Rat.intCast_mul]
  generalize (n:QQ) / d=x at *
  generalize (m:QQ) / e=y at *
  rw[←h4,←h5]
  grind
 rw[←h9,Rat.mul_div_cancel h8]
theorem Zc{a b:Rat}(h:(c8 a b).2=true):qv (c8 a b).1=qv a+qv b∧bV (c8 a b).1=true:=by
 refine⟨?_,Iq h⟩
 unfold c8 at h⊢
 split at h
 ·rename_i eP
  simp only[ai] at eP
  have hA:=ZH eP.1
  have hB:=ZH eP.2
  rw[if_pos (by simp[eP]),Jc (Int.mul_pos hA hB) h,qv,qv,aaf hA hB]
 ·cases h
theorem Zm{a b:Rat}(h:(cq a b).2=true):qv (cq a b).1=qv a*qv b∧bV (cq a b).1=true:=by
 unfold cq at h⊢
 split at h
 ·rename_i eP
  simp only[ai] at eP
  have hA:=ZH eP.1
  have hB:=ZH eP.2
  rw[if_pos (by simp[eP])]
  refine⟨?_,I1 h⟩
  rw[Jc (Int.mul_pos hA hB) h,qv,qv,ZV hA hB]
 ·cases h
theorem QP{s x:Rat}{c:Int}(h:(plus s c x).2=true):qv (plus s c x).1=qv s+c*qv x∧bV (plus s c x).1=true:=by
 unfold plus at h⊢
 split at h
 ·rename_i hm
  rw[if_pos hm]
  have h1:=Zm hm
  have h2:=Zc h
  rw[h1.1,xp] at h2
  exact h2
 ·cases h
def dot:List Int→List Rat→QQ
 | c::cs,x::xs=>c*qv x+dot cs xs
 | _,_=>0
theorem EO:∀{cs:List Int}{xs:List Rat}{s r:Rat},kL cs xs s=some r→bV s=true→qv r=qv s+dot cs xs∧bV r=true
 | [],xs,s,r,h,hs=>by
   rw[GW] at h
   cases h
   have e:dot [] xs=0:=by unfold dot;rfl
   exact⟨by rw[e];grind,hs⟩
 | c::cs,[],s,r,h,hs=>by
   have e0:kL (c::cs) [] s=some s:=by unfold kL;rfl
   rw[e0] at h
   cases h
   have e:dot (c::cs) []=0:=by unfold dot;rfl
   exact⟨by rw[e];grind,hs⟩
 | c::cs,x::xs,s,r,h,hs=>by
   rw[kL] at h
   split at h
   ·rename_i hp
    have h1:=QP hp
    have h2:=EO h h1.2
    exact⟨by rw[h2.1,h1.1,dot];grind,h2.2⟩
   ·cases h
theorem QK{a:Rat}{b:Int}{st:Bool}(ha:bV a=true)(hb:-1000000000≤b∧b≤1000000000):below a b st=true↔(if st then qv a<b else qv a≤b):=by
 have hw:=qn hb.1 hb.2
 unfold below
 cases st with
 | true=>simp only[if_true];rw[Q3 ha hw,xp]
 | false=>
   simp only[ax,if_false,mj]
   have:=Q3 hw ha
   rw[xp] at this
   rw[←Bool.not_eq_true,this,Rat.not_lt]
def fw(l:ib)(aE:List Rat):Prop:=if l.strict then dot l.aG aE<l.bound else dot l.aG aE≤l.bound
theorem M5{l:ib}(h:dF l=true):-1000000≤l.bound∧l.bound≤1000000:=by
 simp only[dF,na,within,ai,decide_eq_true_eq] at h
 exact h.2.2
theorem MB{l:ib}{aE:List Rat}(h:mh l aE=some true):fw l aE:=by
 unfold mh at h
 split at h
 ·rename_i eP
  simp only[ai] at eP
  cases hs:kL l.aG aE (whole 0) with
  | none=>rw[hs] at h;cases h
  | some r=>
    rw[hs] at h
    have h1:=EO hs (qn (by omega) (by omega))
    have hb:=M5 eP.1
    have h2:=(QK (st:=l.strict) h1.2 ⟨by omega,by omega⟩).1 (Option.some.inj h)
    rw[h1.1,xp] at h2
    unfold fw
    have e:((0:Int):QQ)+dot l.aG aE=dot l.aG aE:=by grind
    rwa [e] at h2
 ·cases h
theorem Ll{list:List ib}{aE:List Rat}(h:kV list aE=true):∀l∈list,fw l aE:=fun l hl=>by
 simp only[kV,ai,List.all_eq_true,decide_eq_true_eq] at h
 exact MB (h.2.2 l hl)
theorem Gt{α:Type}{nums:List Term}{f:Nat→α}:∀{eqs:List iy}{out:List Nat},out.length=nums.length→(∀i k,i<nums.length→k<nums.length→cl out i=cl out k→f i=f k) →
 (∀e∈eqs,e.A∈nums→e.B∈nums→f (aH nums e.A)=f (aH nums e.B))→∀i k,i<nums.length→k<nums.length→cl (eqs.foldl (eU nums) out) i=cl (eqs.foldl (eU nums) out) k→f i=f k
 | [],_,_,h,_,i,k,hi,hk,he=>h i k hi hk he
 | e::es,out,hl,h,hE,i,k,hi,hk,he=>by
   rw[List.foldl_cons] at he
   refine Gt (eqs:=es) (out:=eU nums out e) (by unfold eU;split<;>simp[hl]) ?_ (fun x hx=>hE x (bl _ hx)) i k hi hk he
   intro i k hi hk hik
   unfold eU at hik
   rcases aa (bL nums e.A<0∨bL nums e.B<0) with hn|hn
   ·rw[if_pos hn] at hik
    exact h i k hi hk hik
   ·rw[if_neg hn] at hik
    have hA:e.A∈nums:=cK.1 (by omega)
    have hB:e.B∈nums:=cK.1 (by omega)
    have pA:=bx hA
    have pB:=bx hB
    have hab:=hE e (by simp) hA hB
    rw[vu (by omega),vu (by omega)] at hik
    rcases aa (cl out i=cl out (aH nums e.A)) with h1|h1
    ·rcases aa (cl out k=cl out (aH nums e.A)) with h2|h2
     ·exact h i k hi hk (h1.trans h2.symm)
     ·rw[if_pos h1,if_neg h2] at hik
      rw[h i _ hi pA h1,hab,h _ k pB hk hik]
    ·rcases aa (cl out k=cl out (aH nums e.A)) with h2|h2
     ·rw[if_neg h1,if_pos h2] at hik
      rw[h i _ hi pB hik,←hab,h _ k pA hk h2.symm]
     ·rw[if_neg h1,if_neg h2] at hik
      exact h i k hi hk hik
theorem M9{α:Type}{nums:List Term}{ab:List bp}{f:Nat→α}(hE:∀e∈bc ab,e.A∈nums→e.B∈nums→f (aH nums e.A)=f (aH nums e.B)){i k:Nat}(hi:i<nums.length)(hk:k<nums.length)(h:linked nums ab i k=true):f i=f k:=by
 refine Gt (out:=bt nums.length) (by simp) (fun i k hi hk he=>?_) hE i k hi hk (of_decide_eq_true h)
 rw[gL (by simpa using hi),gL (by simpa using hk)] at he
 simp only[List.getElem_range] at he
 rw[he]
theorem Jm:∀(cs:List Int)(aE:List Rat)(i:Nat)(v:Int),cs.length=aE.length→i<cs.length→dot (mI cs i v) aE=dot cs aE+v*qv (aE.getD i (whole 0))
 | [],_,i,_,_,h=>by simp at h
 | c::cs,[],_,_,h,_=>by simp at h
 | c::cs,x::xs,0,v,h,hi=>by
   simp only[mI,Int.natCast_zero,if_true,dot,List.getD_cons_zero,Rat.intCast_add]
   grind
 | c::cs,x::xs,i+1,v,h,hi=>by
   have h1:¬ ((i+1:Nat):Int)=0:=by omega
   have h2:((i+1:Nat):Int)-1=i:=by omega
   simp only[mI,if_neg h1,h2,dot,List.getD_cons_succ]
   rw[Jm cs xs i v (by simpa using h) (by simpa using hi)]
   grind
def uf(nums:List Term)(aE:List Rat):List Term→List Int→QQ
 | t::ts,n::ns=>n*qv (aE.getD (aH nums t) (whole 0))+uf nums aE ts ns
 | _,_=>0
theorem I3{nums:List Term}{aE:List Rat}:∀(ts:List Term)(ns cs:List Int),(∀t∈ts,t∈nums)→nums.length≤cs.length→cs.length=aE.length→dot (jP nums ts ns cs) aE=dot cs aE+uf nums aE ts ns
 | [],ns,cs,_,_,_=>by
   have e1:jP nums [] ns cs=cs:=by unfold jP;rfl
   have e2:uf nums aE [] ns=0:=by unfold uf;rfl
   rw[e1,e2];grind
 | t::ts,[],cs,_,_,_=>by
   have e1:jP nums (t::ts) [] cs=cs:=by unfold jP;rfl
   have e2:uf nums aE (t::ts) []=0:=by unfold uf;rfl
   rw[e1,e2];grind
 | t::ts,n::ns,cs,ht,hn,hc=>by
   have hm:=ht t (by simp)
   have hp:=bx hm
   rw[jP,b7 hm,I3 ts ns _ (fun x hx=>ht x (by simp[hx])) (by rw[xY];exact hn) (by rw[xY];exact hc),Jm cs aE _ n hc (by omega),uf]
   grind
theorem NI:∀(aE:List Rat),dot [0,0,0,0] aE=0
 | []=>by unfold dot;rfl
 | [a]=>by simp only[dot];grind
 | [a,b]=>by simp only[dot];grind
 | [a,b,c]=>by simp only[dot];grind
 | a::b::c::d::r=>by simp only[dot];grind
theorem qz{nums ts:List Term}{ns:List Int}{b:Int}{st:Bool}{aE:List Rat}(h4:nums.length≤4)(hv:aE.length=4)(ht:∀t∈ts,t∈nums):fw (lN nums ts ns b st) aE↔(if st then uf nums aE ts ns<b else uf nums aE ts ns≤b):=by
 unfold fw lN
 simp only
 rw[I3 ts ns [0,0,0,0] ht (by simpa using h4) (by simp[hv]),NI]
 have e:(0:QQ)+uf nums aE ts ns=uf nums aE ts ns:=by grind
 rw[e]
def Ax(aE:List Rat)(i:Nat):QQ:=qv (aE.getD i (whole 0))
theorem FB{nums:List Term}{aE:List Rat}{a b:Term}{m n:Int}:uf nums aE [a,b] [m,n]=m*Ax aE (aH nums a)+n*Ax aE (aH nums b):=by
 have e:uf nums aE [] []=0:=by unfold uf;rfl
 rw[uf,uf,e,Ax,Ax]
 grind
theorem Wg{list:List ib}(h:(bN list).code=0):kV list (bN list).aE=true:=by
 have hend:∀s0 s1 s2 s3 rows,(ie list s0 s1 s2 s3 rows).code=0→kV list (ie list s0 s1 s2 s3 rows).aE=true:=fun s0 s1 s2 s3 rows h=>by
  unfold ie at h⊢
  split at h
  ·split at h<;>simp at h
  ·split at h
   ·simp at h
   ·split at h
    ·rename_i hf
     rw[if_pos hf]
     exact hf
    ·simp at h
 unfold bN at h⊢
 split at h
 ·rename_i hs
  rw[if_pos hs]
  split at h
  ·simp at h
  ·split at h
   ·simp at h
   ·split at h
    ·simp at h
    ·split at h
     ·simp at h
     ·exact hend _ _ _ _ _ h
 ·simp at h
theorem Ad{ae:List Term}:∀(f:Nat)(c:List Nat)(af:List Step),c.sum≤f→c.length=ae.length→fv ae (kh ae f c af).1=none
 | f,c,af,hs,hc=>by
   cases hn:fv ae c with
   | none=>rw[uK hn];exact hn
   | some p=>
     obtain⟨f',rfl,h1,h2⟩:=vz (af:=af) hs hc hn
     rw[h1]
     exact Ad f' _ _ h2 (by rw[fD];exact hc)
theorem MF(ae:List Term)(eqs:List iy):fv ae (closed ae eqs).1=none:=
 Ad _ _ _ (Nat.le_refl _) (by rw[given,s9,List.length_range])
theorem yl{ae:List Term}{c:List Nat}(h:fv ae c=none){i k:Nat}(h1:i<k)(h2:k<ae.length)(ha:alike ae c i k=true):cl c i=cl c k:=by
 have:=List.find?_eq_none.1 h (i,k) (yk.2 ⟨h1,Nat.zero_le _,h2⟩)
 simp only[mV,ha,l6,decide_eq_true_eq,ne_eq,Decidable.not_not] at this
 exact this
structure qw(s:dE)(ab:List bp):Prop where
 xm:ia s ab
 sorted:∀t∈aA ab,(fk s t).isSome=true
 IA:(bN (dQ (numsOf s ab) ab)).code=0
 same:b6 (numsOf s ab).length (dY true (aA ab) (numsOf s ab) (closed (aA ab) (bc ab)).1 ab)=none
 told:b6 (numsOf s ab).length (dY false (aA ab) (numsOf s ab) (closed (aA ab) (bc ab)).1 ab)=none
section
variable{s:dE}{ab:List bp}(h:qw s ab)
abbrev xU(s:dE)(ab:List bp):List Rat:=(bN (dQ (numsOf s ab) ab)).aE
abbrev Dv(ab:List bp):List Nat:=(closed (aA ab) (bc ab)).1
include h
theorem qw.v4:(xU s ab).length=4:=(zU h.IA).1
theorem qw.ZN:∀x∈xU s ab,bV x=true:=(zU h.IA).2
theorem qw.holds:∀l∈ab,∀x∈iV (numsOf s ab) l,fw x (xU s ab):=fun l hl x hx=>
 Ll (Wg h.IA) x (List.mem_flatMap.2 ⟨l,hl,hx⟩)
theorem qw.aaA{e:iy}(he:e∈bc ab)(hA:e.A∈numsOf s ab)(hB:e.B∈numsOf s ab):Ax (xU s ab) (aH (numsOf s ab) e.A)=Ax (xU s ab) (aH (numsOf s ab) e.B):=by
 obtain⟨l,hl,h1,h2,rfl⟩:=BG.1 he
 have hll:iV (numsOf s ab) l=[lN (numsOf s ab) [l.atom.A,l.atom.B] [1,-1] 0 false,lN (numsOf s ab) [l.atom.A,l.atom.B] [-1,1] 0 false]:=by
  unfold iV
  rw[if_neg (by omega),if_pos ⟨h2,cK.2 hA⟩]
 have ht:∀t∈[l.atom.A,l.atom.B],t∈numsOf s ab:=by simp[hA,hB]
 have k1:=(qz h.xm.n4 h.v4 ht).1 (h.holds l hl (lN (numsOf s ab) [l.atom.A,l.atom.B] [1,-1] 0 false) (by rw[hll];simp))
 have k2:=(qz h.xm.n4 h.v4 ht).1 (h.holds l hl (lN (numsOf s ab) [l.atom.A,l.atom.B] [-1,1] 0 false) (by rw[hll];simp))
 rw[FB] at k1 k2
 simp only[ax,if_false] at k1 k2
 show Ax (xU s ab) (aH (numsOf s ab) l.atom.A)=Ax (xU s ab) (aH (numsOf s ab) l.atom.B)
 generalize Ax (xU s ab) (aH (numsOf s ab) l.atom.A)=x at *
 generalize Ax (xU s ab) (aH (numsOf s ab) l.atom.B)=y at *
 grind
theorem qw.UF{i k:Nat}(hi:i<(numsOf s ab).length)(hk:k<(numsOf s ab).length)(hs:eM (numsOf s ab) ab i k=true):Ax (xU s ab) i<Ax (xU s ab) k:=by
 obtain⟨l,hl,h1⟩:=List.any_eq_true.1 hs
 simp only[ai,mj,decide_eq_true_eq] at h1
 rw[getD_at hi,getD_at hk] at h1
 have hmi:=ak hi
 have hmk:=ak hk
 have pi:aH (numsOf s ab) (numsOf s ab)[i]=i:=by rw[aH,jC h.xm.rM hi];rfl
 have pk:aH (numsOf s ab) (numsOf s ab)[k]=k:=by rw[aH,jC h.xm.rM hk];rfl
 have hkd:l.atom.kind=2:=by rw[h1.2];unfold dz;split<;>rfl
 have hll:iV (numsOf s ab) l=[lN (numsOf s ab) l.atom.nums l.atom.times l.atom.bound l.atom.strict]:=by
  unfold iV
  rw[if_pos hkd,h1.1]
  rfl
 have k0:=h.holds l hl _ (by rw[hll];exact cW.2 rfl)
 rw[h1.2] at k0
 generalize (numsOf s ab)[i]=a at *
 generalize (numsOf s ab)[k]=b at *
 unfold dz at k0
 split at k0
 ·have k1:=(qz h.xm.n4 h.v4 (by simp[hmi,hmk])).1 k0
  rw[FB,pi,pk] at k1
  simp only[if_true] at k1
  generalize Ax (xU s ab) i=x at *
  generalize Ax (xU s ab) k=y at *
  grind
 ·have k1:=(qz h.xm.n4 h.v4 (by simp[hmi,hmk])).1 k0
  rw[FB,pi,pk] at k1
  simp only[if_true] at k1
  generalize Ax (xU s ab) i=x at *
  generalize Ax (xU s ab) k=y at *
  grind
theorem qw.SR{i k:Nat}(hi:i<(numsOf s ab).length)(hk:k<(numsOf s ab).length)(hl:linked (numsOf s ab) ab i k=true):Ax (xU s ab) i=Ax (xU s ab) k:=
 M9 (f:=Ax (xU s ab)) (fun _ he hA hB=>h.aaA he hA hB) hi hk hl
theorem qw.Ut{i k:Nat}(hi:i<(numsOf s ab).length)(hk:k<(numsOf s ab).length)(hl:linked (numsOf s ab) ab i k=true):cl (Dv ab) (aH (aA ab) ((numsOf s ab).getD i aL))=cl (Dv ab) (aH (aA ab) ((numsOf s ab).getD k aL)):=by
 refine M9 (f:=fun i=>cl (Dv ab) (aH (aA ab) ((numsOf s ab).getD i aL))) (fun e he hA hB=>?_) hi hk hl
 have:=PB (ae:=aA ab) h.xm.Aa he
 rw[getD_at (bx hA),getD_at (bx hB)]
 have g:∀{t:Term}(ht:t∈numsOf s ab),(numsOf s ab)[aH (numsOf s ab) t]'(bx ht)=t:=fun ht=>(bA.1 (iH ht)).2
 rw[g hA,g hB]
 exact of_decide_eq_true this
theorem qw.Xl{i k:Nat}(hi:i<(numsOf s ab).length)(hk:k<(numsOf s ab).length)(hs:cl (Dv ab) (aH (aA ab) ((numsOf s ab).getD i aL))=cl (Dv ab) (aH (aA ab) ((numsOf s ab).getD k aL))):Ax (xU s ab) i=Ax (xU s ab) k:=by
 have key:∀i k,i<k→k<(numsOf s ab).length→cl (Dv ab) (aH (aA ab) ((numsOf s ab).getD i aL))=cl (Dv ab) (aH (aA ab) ((numsOf s ab).getD k aL))→Ax (xU s ab) i=Ax (xU s ab) k:=fun i k h1 h2 hs=>by
  have h3:=xe h.same h1 h2
  have hsm:fS (aA ab) (Dv ab) ((numsOf s ab).getD i aL) ((numsOf s ab).getD k aL)=true:=decide_eq_true hs
  simp only[dY,hsm,if_true,l6,Bool.not_eq_false'] at h3
  exact h.SR (by omega) h2 h3
 rcases eK i k with h1|rfl|h1
 ·exact key i k h1 hk hs
 ·rfl
 ·exact(key k i h1 hi hs.symm).symm
theorem qw.WR{i k:Nat}(hi:i<(numsOf s ab).length)(hk:k<(numsOf s ab).length)(hs:Ax (xU s ab) i=Ax (xU s ab) k):cl (Dv ab) (aH (aA ab) ((numsOf s ab).getD i aL))=cl (Dv ab) (aH (aA ab) ((numsOf s ab).getD k aL)):=by
 have key:∀i k,i<k→k<(numsOf s ab).length→Ax (xU s ab) i=Ax (xU s ab) k→cl (Dv ab) (aH (aA ab) ((numsOf s ab).getD i aL))=cl (Dv ab) (aH (aA ab) ((numsOf s ab).getD k aL)):=fun i k h1 h2 hs=>by
  have h3:=xe h.told h1 h2
  simp only[dY,ax,if_false] at h3
  cases hl:linked (numsOf s ab) ab i k with
  | true=>exact h.Ut (by omega) h2 hl
  | false=>
    rw[hl] at h3
    simp only[iU,aM] at h3
    cases ha:eM (numsOf s ab) ab i k with
    | true=>
      have:=h.UF (by omega) h2 ha
      rw[hs] at this
      exact absurd this Rat.lt_irrefl
    | false=>
      rw[ha] at h3
      simp only[iU,aM,Bool.not_eq_false'] at h3
      have:=h.UF h2 (by omega) h3
      rw[hs] at this
      exact absurd this Rat.lt_irrefl
 rcases eK i k with h1|rfl|h1
 ·exact key i k h1 hk hs
 ·rfl
 ·exact(key k i h1 hi hs.symm).symm
end
theorem zc{s:dE}:∀{ks:List Term}{as:List Int},gy s ks as=true→as.length=ks.length→∀(j:Nat)(h1:j<ks.length)(h2:j<as.length),fK s ks[j]=some as[j]
 | [],_,_,_,j,h1,_=>by simp at h1
 | k::ks,[],_,h,_,_,_=>by simp at h
 | k::ks,a::as,h,hl,0,_,_=>by
   simp only[gy,ai,decide_eq_true_eq] at h
   exact h.1
 | k::ks,a::as,h,hl,j+1,h1,h2=>by
   simp only[gy,ai,decide_eq_true_eq] at h
   simpa using zc h.2 (by simpa using hl) j (by simpa using h1) (by simpa using h2)
theorem PT{s:dE}{t:Term}{r:Int}(h:fK s t=some r):∃x,symbol s t.name=some x∧x.args.length=t.kids.length∧gy s t.kids x.args=true∧x.sort=r:=by
 obtain⟨n,ks⟩:=t
 rw[fK] at h
 split at h
 ·cases h
 ·rename_i x hx
  split at h
  ·rename_i hc
   simp only[ai,decide_eq_true_eq] at hc
   exact⟨x,hx,hc.1,hc.2,Option.some.inj h⟩
  ·cases h
theorem tx{s:dE}{t:Term}(h:(fk s t).isSome=true):fk s t=fK s t:=by
 unfold fk at h⊢
 split
 ·rfl
 ·rename_i hc
  rw[if_neg hc] at h
  cases h
theorem O1{rs:List Row}{t r:Row}(h:r∈putRow rs t):r∈rs∨r=t:=by
 rw[r7] at h
 split at h
 ·exact .inl h
 ·rcases aR.1 h with h|h
  ·exact .inl (List.mem_of_mem_take h)
  ·rcases List.mem_cons.1 h with h|h
   ·exact .inr h
   ·exact .inl (List.mem_of_mem_drop h)
theorem Mm{rs:List Row}{t r:Row}(h:r∈rs):r∈putRow rs t:=by
 rw[r7]
 split
 ·exact h
 ·rw[←List.take_append_drop (cut rs t) rs] at h
  rcases aR.1 h with h|h
  ·exact cY _ h
  ·exact List.mem_append_right _ (bl _ h)
theorem Pz{rs:List Row}{t:Row}(hr:∀r∈rs,dC r.args=true)(ht:dC t.args=true):∃r∈putRow rs t,r.name=t.name∧r.args=t.args:=by
 rw[r7]
 split
 ·rename_i hf
  unfold found at hf
  split at hf
  ·rename_i r hx
   have hm:=List.mem_of_getElem? hx
   exact⟨r,hm,(qk (hr r hm) ht).1 (of_decide_eq_true hf)⟩
  ·cases hf
 ·exact⟨t,by simp,rfl,rfl⟩
theorem NC{g:Term→Row}(hg:∀t,dC (g t).args=true):∀(ts:List Term)(rs:List Row)(done:List Term),(∀r∈rs,∃u∈done,r=g u)→(∀t∈done,∃r∈rs,r.name=(g t).name∧r.args=(g t).args) →
 (∀r∈ts.foldl (fun rows t=>putRow rows (g t)) rs,∃u∈done++ts,r=g u)∧(∀t∈done++ts,∃r∈ts.foldl (fun rows t=>putRow rows (g t)) rs,r.name=(g t).name∧r.args=(g t).args)
 | [],rs,done,h1,h2=>by simpa using ⟨h1,h2⟩
 | t::ts,rs,done,h1,h2=>by
   have eP:∀r∈rs,dC r.args=true:=fun r hr=>by
    obtain⟨u,_,rfl⟩:=h1 r hr
    exact hg u
   have:=NC hg ts (putRow rs (g t)) (done++[t]) (fun r hr=>by
    rcases O1 hr with hr|hr
    ·obtain⟨u,hu,e⟩:=h1 r hr
     exact⟨u,cY _ hu,e⟩
    ·exact⟨t,by simp,hr⟩) (fun u hu=>by
    rcases aR.1 hu with hu|hu
    ·obtain⟨r,hr,e⟩:=h2 u hu
     exact⟨r,Mm hr,e⟩
    ·rw[cW.1 hu]
     exact Pz eP (hg t))
   rw[List.append_assoc] at this
   exact this
theorem SJ{rows:List Row}{n:ni}{as:List Rat}{v:Rat}(h1:∃r∈rows,r.name=n∧r.args=as)(h2:∀r∈rows,r.name=n→r.args=as→r.val=v):lookup rows n as=v:=by
 unfold lookup
 obtain⟨r,hr,e⟩:=h1
 cases hf:rows.find? (fun r=>decide (r.name=n∧r.args=as)) with
 | none=>
   have:=List.find?_eq_none.1 hf r hr
   exact absurd (decide_eq_true e) this
 | some x=>
   have hx:=List.find?_some hf
   have:=of_decide_eq_true hx
   exact h2 x (List.mem_of_find?_eq_some hf) this.1 this.2
section
variable{s:dE}{ab:List bp}(h:qw s ab)
abbrev QM(s:dE)(ab:List bp)(t:Term):Rat:=iI (aA ab) (numsOf s ab) (Dv ab) (xU s ab) t
include h
theorem qw.sort{t:Term}(ht:t∈aA ab):∃x,symbol s t.name=some x∧x.args.length=t.kids.length∧gy s t.kids x.args=true∧fk s t=some x.sort:=by
 have h1:=h.sorted t ht
 have h2:=tx h1
 obtain⟨r,hr⟩:=Option.isSome_iff_exists.1 h1
 obtain⟨x,x1,x2,x3,x4⟩:=PT (h2▸hr)
 exact⟨x,x1,x2,x3,by rw[hr,x4]⟩
theorem qw.Ef{t:Term}(ht:t∈aA ab):t∈numsOf s ab↔fk s t=some 1:=by
 have _:=h.IA
 rw[←zC,List.mem_filter]
 simp[ht,dk]
theorem qw.V9{t u:Term}(ht:t∈aA ab)(hu:u∈aA ab)(hn:t.name=u.name):t∈numsOf s ab↔u∈numsOf s ab:=by
 obtain⟨x,x1,_,_,x4⟩:=h.sort ht
 obtain⟨y,y1,_,_,y4⟩:=h.sort hu
 rw[hn,y1] at x1
 obtain rfl:=Option.some.inj x1
 rw[h.Ef ht,h.Ef hu,x4,y4]
theorem qw.UZ{t u:Term}(ht:t∈aA ab)(hu:u∈aA ab)(hn:t.name=u.name)(j:Nat)(h1:j<t.kids.length)(h2:j<u.kids.length):t.kids[j]∈numsOf s ab↔u.kids[j]∈numsOf s ab:=by
 obtain⟨x,x1,x2,x3,_⟩:=h.sort ht
 obtain⟨y,y1,y2,y3,_⟩:=h.sort hu
 rw[hn,y1] at x1
 obtain rfl:=Option.some.inj x1
 have kt:=h.xm.kids t ht _ (ak h1)
 have ku:=h.xm.kids u hu _ (ak h2)
 have st:=zc x3 x2 j h1 (by omega)
 have su:=zc y3 y2 j h2 (by omega)
 rw[h.Ef kt,h.Ef ku,tx (h.sorted _ kt),tx (h.sorted _ ku),st,su]
theorem qw.JR{t:Term}(ht:t∈numsOf s ab):(numsOf s ab).getD (aH (numsOf s ab) t) aL=t:=by
 have _:=h.IA
 rw[getD_at (bx ht)]
 exact(bA.1 (iH ht)).2
theorem qw.zS{t:Term}(ht:t∈numsOf s ab):QM s ab t=(xU s ab).getD (aH (numsOf s ab) t) (whole 0):=by
 have _:=h.IA
 have:=cK.2 ht
 rw[QM,iI,if_neg (by omega)]
theorem qw.Bv{t:Term}(ht:t∉numsOf s ab):QM s ab t=whole (cl (Dv ab) (aH (aA ab) t)):=by
 have _:=h.IA
 have:bL (numsOf s ab) t<0:=by
  rcases Int.lt_or_le (bL (numsOf s ab) t) 0 with h1|h1
  ·exact h1
  ·exact absurd (cK.1 h1) ht
 rw[QM,iI,if_pos this]
theorem qw.Ql(i:Nat):bV ((xU s ab).getD i (whole 0))=true:=by
 rcases Nat.lt_or_ge i (xU s ab).length with h1|h1
 ·rw[getD_at h1]
  exact h.ZN _ (ak h1)
 ·rw[List.getD_eq_getElem?_getD,List.getElem?_eq_none h1]
  exact qn (by omega) (by omega)
theorem qw.one{t u:Term}(ht:t∈aA ab)(hu:u∈aA ab)(hk:t∈numsOf s ab↔u∈numsOf s ab)(hv:QM s ab t=QM s ab u):cl (Dv ab) (aH (aA ab) t)=cl (Dv ab) (aH (aA ab) u):=by
 rcases aa (t∈numsOf s ab) with hn|hn
 ·have hn':=hk.1 hn
  rw[h.zS hn,h.zS hn'] at hv
  have:=h.WR (bx hn) (bx hn') (by rw[Ax,Ax,hv])
  rwa [h.JR hn,h.JR hn'] at this
 ·have hn':u∉numsOf s ab:=fun x=>hn (hk.2 x)
  rw[h.Bv hn,h.Bv hn'] at hv
  have:=congrArg Rat.N hv
  simp only[QN] at this
  omega
theorem qw.val{t u:Term}(hk:t∈numsOf s ab↔u∈numsOf s ab)(hc:cl (Dv ab) (aH (aA ab) t)=cl (Dv ab) (aH (aA ab) u)):QM s ab t=QM s ab u:=by
 rcases aa (t∈numsOf s ab) with hn|hn
 ·have hn':=hk.1 hn
  have:=h.Xl (bx hn) (bx hn') (by rwa [h.JR hn,h.JR hn'])
  rw[h.zS hn,h.zS hn']
  exact TC (h.Ql _) (h.Ql _) this
 ·have hn':u∉numsOf s ab:=fun x=>hn (hk.2 x)
  rw[h.Bv hn,h.Bv hn',hc]
omit h in
theorem B6{ae:List Term}{c:List Nat}:∀{xs ys:List Term},xs.length=ys.length→(∀(j:Nat)(h1:j<xs.length)(h2:j<ys.length),cl c (aH ae xs[j])=cl c (aH ae ys[j]))→lA ae c xs ys=true
 | [],[],_,_=>rfl
 | [],_::_,h,_=>by simp at h
 | _::_,[],h,_=>by simp at h
 | x::xs,y::ys,hl,hx=>by
   rw[lA,ai]
   exact⟨decide_eq_true (hx 0 (by simp) (by simp)),B6 (by simpa using hl) fun j h1 h2=>hx (j+1) (by simpa using h1) (by simpa using h2)⟩
theorem qw.aaX{t u:Term}(ht:t∈aA ab)(hu:u∈aA ab)(hn:t.name=u.name)(hk:t.kids.map (QM s ab)=u.kids.map (QM s ab)):QM s ab t=QM s ab u:=by
 have hl:t.kids.length=u.kids.length:=by simpa using congrArg List.length hk
 have hks:∀(j:Nat)(h1:j<t.kids.length)(h2:j<u.kids.length),cl (Dv ab) (aH (aA ab) t.kids[j])=cl (Dv ab) (aH (aA ab) u.kids[j]):=fun j h1 h2=>by
  refine h.one (h.xm.kids t ht _ (ak h1)) (h.xm.kids u hu _ (ak h2)) (h.UZ ht hu hn j h1 h2) ?_
  have:=congrArg (fun l:List Rat=>l[j]?) hk
  simpa[h1,h2] using this
 refine h.val (h.V9 ht hu hn) ?_
 rcases aa (t.kids=[]) with h0|h0
 ·have h0':u.kids=[]:=List.eq_nil_of_length_eq_zero (by rw[←hl,h0];rfl)
  have e:t=u:=by
   obtain⟨a,b⟩:=t
   obtain⟨c,d⟩:=u
   simp only[Term.name,Term.kids] at hn h0 h0'
   rw[hn,h0,h0']
  rw[e]
 ·have hpos:0<t.kids.length:=List.length_pos_iff.2 h0
  have pt:=bx ht
  have pu:=bx hu
  have gt:(aA ab).getD (aH (aA ab) t) aL=t:=by rw[getD_at pt];exact(bA.1 (iH ht)).2
  have gu:(aA ab).getD (aH (aA ab) u) aL=u:=by rw[getD_at pu];exact(bA.1 (iH hu)).2
  have hd:=MF (aA ab) (bc ab)
  rcases eK (aH (aA ab) t) (aH (aA ab) u) with h1|h1|h1
  ·refine yl hd h1 pu ?_
   rw[alike,gt,gu,ai,ai]
   exact⟨decide_eq_true hpos,decide_eq_true hn,B6 hl hks⟩
  ·rw[h1]
  ·refine(yl hd h1 pt ?_).symm
   rw[alike,gt,gu,ai,ai]
   exact⟨decide_eq_true (by omega),decide_eq_true hn.symm,B6 hl.symm fun j a b=>(hks j b a).symm⟩
end
section
variable{s:dE}{ab:List bp}(h:qw s ab)
include h
theorem qw.bound:∀x∈Dv ab,x≤1000:=h.xm.J7
theorem qw.value:∀(t:Term),t∈aA ab→value ⟨gY (aA ab) (numsOf s ab) (Dv ab) (xU s ab)⟩ t=QM s ab t:=
 Term.ind fun n ks ih ht=>by
  have hks:values ⟨gY (aA ab) (numsOf s ab) (Dv ab) (xU s ab)⟩ ks=ks.map (QM s ab):=by
   rw[mH]
   exact List.map_congr_left fun k hk=>ih k hk (h.xm.kids _ ht k hk)
  rw[Go.Mod.value,hks]
  obtain⟨i1,i2⟩:=NC (g:=iA (aA ab) (numsOf s ab) (Dv ab) (xU s ab)) (fun t=>rP h.bound h.ZN) (aA ab) [] [] (by simp) (by simp)
  simp only[List.nil_append] at i1 i2
  refine SJ ?_ ?_
  ·obtain⟨r,hr,e1,e2⟩:=i2 _ ht
   exact⟨r,hr,e1,e2⟩
  ·intro r hr e1 e2
   obtain⟨u,hu,rfl⟩:=i1 r hr
   exact h.aaX hu ht e1 e2
end
def Ends(s:dE)(ab:List bp)(m:Model):Prop:=∃more,aA (ab++more)=aA ab∧numsOf s (ab++more)=numsOf s ab∧qw s (ab++more) ∧
 m=⟨gY (aA (ab++more)) (numsOf s (ab++more)) (Dv (ab++more)) (xU s (ab++more))⟩
def aaS(s:dE)(m:Model)(nums:List Term):List Rat:=(bt 4).map fun i=>if i<nums.length then value m (nums.getD i aL) else whole 0
end Go.Mod
